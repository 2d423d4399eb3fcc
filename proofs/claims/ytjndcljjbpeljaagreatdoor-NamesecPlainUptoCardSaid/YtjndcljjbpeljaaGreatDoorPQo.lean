import Derived.Test.YtjndcljjbpeljaaGreatDoorPQn
set_option linter.all false
set_option maxRecDepth 100000
set_option maxHeartbeats 8000000
namespace Go.Proofs.YtjndcljjbpeljaaGreatDoor
open Go Go.Mw
theorem jG {n:Int} (h:ij n=true):∃k:Nat,n=(k:Int)∧k<4294967296:=by
 simp only [ij,bY,cP] at h
 obtain ⟨k,rfl⟩:=xG (show 0≤n by omega)
 exact ⟨k,rfl,by omega⟩
theorem tq {l:List Int} (h:¬(l.length:Int)>0):l=[]:=nJ (by omega)
def Bk {α:Type} (one:List UInt8→Nat→Rd α) (enc:α→List UInt8) (x:α):Prop:=∀(b:List UInt8) (a:Nat) (r:List UInt8),b.drop a=enc x++r→one b a = .ok (x,a+(enc x).length)
theorem Gr {t:Int}:j8 t=true↔1≤t∧t≤4:=by
 unfold j8 Wd vC
 simp only [jR,beq_iff_eq]
 omega
theorem xh {t:Int}:vC t=true↔t=3∨t=4:=by
 unfold vC
 simp only [jR,beq_iff_eq]
theorem K_ {x:Ft} (h:qF x=0):x.ps.length≤8∧x.rs.length≤8∧(∀t∈x.ps,j8 t=true)∧∀t∈x.rs,j8 t=true:=by
 unfold qF at h
 by_cases h1:x.ps.length>8∨x.rs.length>8
 ·rw [aK h1] at h;cases h
 rw [aD h1] at h
 by_cases h2:iD x.ps=false∨iD x.rs=false
 ·rw [aK h2] at h;cases h
 have k:∀l,¬iD l=false→∀t∈l,j8 t=true:=fun l hl=>by
  have:iD l=true:=by simpa using hl
  unfold iD at this
  exact ee.1 this
 exact ⟨by omega,by omega,k _ fun g=>h2 (.inl g),k _ fun g=>h2 (.inr g)⟩
def Ar (l:Lm):Prop:=(0≤l.mn∧l.mn<4294967296)∧(l.hs=true→l.mn≤l.mx∧l.mx<4294967296)∧(l.hs=false→l.mx=0)
theorem Lp {l:Lm} {most:Int} (hm:most<4294967296) (h:GP l most=true):Ar l:=by
 unfold GP at h
 by_cases h1:l.mn<0∨l.mn>most
 ·rw [aK h1] at h;cases h
 rw [aD h1] at h
 by_cases h2:l.hs=false
 ·rw [aK h2,beq_iff_eq] at h
  exact ⟨by omega,(fun q=>by rw [h2] at q;cases q),fun _=>h⟩
 ·rw [aD h2,bY,cP,cP] at h
  exact ⟨by omega,fun _=>by omega,fun q=>absurd q h2⟩
theorem LI {x:Tb} (h:uc x=0):(x.e=3∨x.e=4)∧Ar x.l:=by
 unfold uc at h
 by_cases h1:vC x.e=false
 ·rw [aK h1] at h;cases h
 rw [aD h1] at h
 by_cases h2:GP x.l 1024=false
 ·rw [aK h2] at h;cases h
 exact ⟨xh.1 (by simpa using h1),Lp (most:=1024) (by decide) (by simpa using h2)⟩
theorem yw {l:Lm} (h:vT l=0):Ar l:=by
 unfold vT at h
 by_cases h2:GP l 256=false
 ·rw [aK h2] at h;cases h
 exact Lp (most:=256) (by decide) (by simpa using h2)
theorem Tm {g:Gl} (h:IB g=0):j8 g.v=true:=by
 unfold IB at h
 by_cases h1:j8 g.v=false
 ·rw [aK h1] at h;cases h
 ·simpa using h1
theorem Li {x:Im} (h:uU x=0):fk x.m=0∧fk x.n=0∧(0≤x.k∧x.k≤3)∧gy x=x∧(x.k=0→iz x.f=true)∧(x.k=1→uc ⟨x.te,x.tl⟩=0)∧(x.k=2→vT x.me=0)∧(x.k=3→IB x.g=0):=by
 unfold uU at h
 by_cases h1:fk x.m≠0
 ·rw [aK h1] at h;exact absurd h h1
 rw [aD h1] at h
 by_cases h2:fk x.n≠0
 ·rw [aK h2] at h;exact absurd h h2
 rw [aD h2] at h
 by_cases h3:x.k<0∨x.k>3∨gy x≠x
 ·rw [aK h3] at h;cases h
 rw [aD h3] at h
 refine ⟨Decidable.not_not.1 h1,Decidable.not_not.1 h2,by omega,Decidable.not_not.1 fun q=>h3 (.inr (.inr q)),fun q=>?_,fun q=>?_,fun q=>?_,fun q=>?_⟩
 ·rw [aD (by omega),aD (by omega),aD (by omega)] at h
  by_cases h4:iz x.f=false
  ·rw [aK h4] at h;cases h
  ·simpa using h4
 ·rw [aK q] at h;exact h
 ·rw [aD (by omega),aK q] at h;exact h
 ·rw [aD (by omega),aD (by omega),aK q] at h;exact h
theorem eu {n:Int}:iz n=true↔0≤n∧n<4294967296:=by
 unfold iz
 simp only [bY,cP,ge_iff_le]
def GQ (op:Int):Bool:=op==2||op==3||op==4
def pW (l:List Int) (i:Nat) (op:Int):List Int:=if GQ op then l++[(i:Int)] else if op==11 then l.dropLast else l
def bM (B:List bz):Nat→List Int
 | 0=>[-1]
 | i+1=>pW (bM B i) i (ah B i).op
def Ax (B:List bz) (i:Nat):Int:=ah (bM B i) ((bM B i).length - 1)
def pQ (B:List bz) (h:Int) (i:Nat):Bool:=(List.range i).any fun j=>decide (h<j)&&(ah B j).op==5&&decide (0<(bM B j).length)&&Ax B j==h
def dM (B:List bz) (i:Nat):Bool:=(ah B i).op==5&&(decide (Ax B i<0)||(ah B (Ax B i).toNat).op != 4||pQ B (Ax B i) i)
def eT (B:List bz) (i:Nat):Int:=if (bM B i).length=0 then 16 else if dM B i then 16 else if GQ (ah B i).op&&decide (32≤(bM B i).length) then 6 else 0
def n0 (B:List bz):Nat→Nat→Int×Int
 | _,0=>if 0<(bM B B.length).length then (B.length,3) else (0,0)
 | i,k+1=>if eT B i≠0 then (i,eT B i) else n0 B (i+1) k
def nchk (B:List bz):Int×Int:=n0 B 0 B.length
theorem mz (B:List bz):∀i,(bM B i).length≤i+1
 | 0=>by simp [bM]
 | i+1=>by
  have:=mz B i
  simp only [bM,pW]
  split
  ·simp;omega
  ·split
   ·simp;omega
   ·omega
theorem qM {l:List Int} {k:Nat} (h:k<l.length - 1):ah l.dropLast k=ah l k:=by
 rw [List.dropLast_eq_take,E3 h]
theorem pS (B:List bz):∀(i:Nat),(∀j,j<i→0<(bM B j).length)→∀k,k<(bM B i).length→(k=0∧ah (bM B i) k = -1)∨(0<k∧∃j:Nat,ah (bM B i) k=j∧j<i∧bM B j=(bM B i).take k∧GQ (ah B j).op=true)
 | 0,_,k,hk=>by
  simp only [bM,jP] at hk ⊢
  have:k=0:=by omega
  subst this
  exact .inl ⟨rfl,rfl⟩
 | i+1,hne,k,hk=>by
  have ih:=pS B i (fun j hj=>hne j (by omega)) k
  have h0:=hne i (by omega)
  simp only [bM] at hk ⊢
  unfold pW at hk ⊢
  by_cases hb:GQ (ah B i).op
  ·rw [aK hb] at hk ⊢
   simp only [aJ,jP] at hk
   by_cases h2:k<(bM B i).length
   ·rw [AA h2,List.take_append_of_le_length (by omega)]
    rcases ih h2 with h | ⟨h3,j,h4,h5,h6,h7⟩
    ·exact .inl h
    ·exact .inr ⟨h3,j,h4,by omega,h6,h7⟩
   ·have hk2:k=(bM B i).length:=by omega
    subst hk2
    exact .inr ⟨h0,i,vg,by omega,by simp,hb⟩
  ·rw [aD hb] at hk ⊢
   by_cases h11:((ah B i).op==11)=true
   ·rw [aK h11] at hk ⊢
    simp only [List.length_dropLast] at hk
    rw [qM hk,List.dropLast_eq_take,List.take_take,Nat.min_eq_left (by omega)]
    rcases ih (by omega) with h | ⟨h3,j,h4,h5,h6,h7⟩
    ·exact .inl h
    ·exact .inr ⟨h3,j,h4,by omega,h6,h7⟩
   ·rw [aD h11] at hk ⊢
    rcases ih hk with h | ⟨h3,j,h4,h5,h6,h7⟩
    ·exact .inl h
    ·exact .inr ⟨h3,j,h4,by omega,h6,h7⟩
theorem Ay {B:List bz} {i:Nat} (hne:∀j,j<i→0<(bM B j).length) (h0:0<(bM B i).length) :
  ((bM B i).length=1∧Ax B i = -1)∨(1<(bM B i).length∧∃j:Nat,Ax B i=j∧j<i∧bM B j=(bM B i).take ((bM B i).length - 1)∧GQ (ah B j).op=true):=by
 rcases pS B i hne ((bM B i).length - 1) (by omega) with ⟨h1,h2⟩ | ⟨h1,h2⟩
 ·exact .inl ⟨by omega,h2⟩
 ·exact .inr ⟨by omega,h2⟩
theorem wY {B:List bz} {i:Nat} (hne:∀j,j<i→0<(bM B j).length) (h0:0<(bM B i).length):-1≤Ax B i∧Ax B i<i:=by
 rcases Ay hne h0 with ⟨_,h⟩ | ⟨_,j,h,h2,_⟩<;>omega
theorem Js {B:List bz} {i:Nat} (h:eT B i=0):0<(bM B i).length:=by
 unfold eT at h
 split at h
 ·cases h
 ·omega
theorem wT {B:List bz} {i k:Nat} (h:eT B i=0):n0 B i (k+1)=n0 B (i+1) k:=by simp [n0,h]
theorem wV {B:List bz} {i k:Nat} (h:eT B i≠0):n0 B i (k+1)=((i:Int),eT B i):=by simp [n0,h]
theorem r6 {B:List bz} {i:Nat} (hi:i≤B.length) (h:∀j,j<i→eT B j=0):nchk B=n0 B i (B.length - i):=by
 induction i with
 | zero=>rfl
 | succ i ih =>
  rw [ih (by omega) (fun j hj=>h j (by omega)),show B.length - i=(B.length - (i+1))+1 by omega,wT (h i (by omega))]
theorem my {B:List bz} {i:Nat} (hi:i<B.length) (h:∀j,j<i→eT B j=0) (he:eT B i≠0):nchk B=((i:Int),eT B i):=by
 rw [r6 (by omega) h,show B.length - i=(B.length - (i+1))+1 by omega,wV he]
theorem u5 {B:List bz} (h:∀j,j<B.length→eT B j=0):nchk B=if 0<(bM B B.length).length then ((B.length:Int),3) else (0,0):=by
 rw [r6 (bj _) h,Nat.sub_self]
 rfl
theorem wW (B:List bz):(∃i,i<B.length∧(∀j,j<i→eT B j=0)∧eT B i≠0)∨∀j,j<B.length→eT B j=0:=by
 have:∀n,n≤B.length→(∃i,i<n∧(∀j,j<i→eT B j=0)∧eT B i≠0)∨∀j,j<n→eT B j=0:=fun n=>by
  induction n with
  | zero=>exact fun _=>.inr fun j hj=>absurd hj (Nat.not_lt_zero _)
  | succ n ih =>
   intro hn
   rcases ih (by omega) with ⟨i,h1,h2⟩ | h
   ·exact .inl ⟨i,by omega,h2⟩
   ·by_cases he:eT B n=0
    ·refine .inr fun j hj=>?_
     rcases Nat.lt_or_eq_of_le (Nat.le_of_lt_succ hj) with h1 | h1
     ·exact h j h1
     ·rw [h1];exact he
    ·exact .inl ⟨n,by omega,h,he⟩
 rcases this _ (bj _) with ⟨i,h1,h2⟩ | h
 ·exact .inl ⟨i,h1,h2⟩
 ·exact .inr h
def n7 (B:List bz):Prop:=(∀j,j<B.length→eT B j=0)∧bM B B.length=[]
theorem Aw (B:List bz):(nchk B).2=0↔n7 B:=by
 rcases wW B with ⟨i,h1,h2,h3⟩ | h
 ·rw [my h1 h2 h3]
  exact ⟨fun hh=>absurd hh h3,fun hg=>absurd (hg.1 i h1) h3⟩
 ·rw [u5 h]
  by_cases hl:0<(bM B B.length).length
  ·rw [aK hl]
   refine ⟨fun hh=>(by cases hh),fun hg=>?_⟩
   rw [hg.2] at hl
   cases hl
  ·rw [aD hl]
   exact ⟨fun _=>⟨h,nJ (by omega)⟩,fun _=>rfl⟩
def mD (x:bz):Bool:=Bf (mX x.op) (tG x.op) x
theorem Vj (x:bz) (h:Kx x):ae Tryz.prog mw [jF x] (.bool (mD x)):=by
 obtain ⟨h1,h2,h3⟩:=h
 exact vu x (mX x.op) (oB x.op) rfl (by omega)
def E6 (l:List bz):Prop:=∀x∈l,PL x=true∧x.lb.length≤64∧0≤x.n∧x.n<18446744073709551616
theorem DD (x:bz):1≤(sW x).length:=by
 unfold sW j4
 split
 ·simp only [aJ,aQ];omega
 ·simp only [aJ,aQ];omega
theorem wt (x:bz) (l:List bz):eA (x :: l)=sW x++eA l:=by simp [eA]
theorem mA {l:List bz} (h:Be mD l) (hn:∀x∈l,0≤x.n∧x.n<18446744073709551616):E6 l∧l.length≤2048:=⟨fun x hx=>⟨(h.2 x hx).1,(h.2 x hx).2,hn x hx⟩,h.1⟩
theorem K6 {x:Ex} (h:x7 x=0):fk x.n=0∧(0≤x.k∧x.k≤3)∧iz x.i=true:=by
 unfold x7 at h
 by_cases h1:fk x.n≠0
 ·rw [aK h1] at h;exact absurd h h1
 rw [aD h1] at h
 by_cases h2:x.k<0∨x.k>3
 ·rw [aK h2] at h;cases h
 rw [aD h2] at h
 by_cases h3:iz x.i=false
 ·rw [aK h3] at h;cases h
 exact ⟨Decidable.not_not.1 h1,by omega,by simpa using h3⟩
theorem K0 {x:Da} (h:wZ mD x):(x.mo=0∨x.mo=1∧x.me=0∧x.o=[])∧iz x.me=true∧x.b.length≤4096∧Be mD x.o:=by
 refine ⟨?_,h.2⟩
 by_cases h0:x.mo=0
 ·exact .inl h0
 have h1:=h.1
 have h2:¬(x.mo≠1∨x.me≠0∨x.o.length>0):=fun q=>h1 ⟨h0,q⟩
 exact .inr ⟨by omega,by omega,nJ (by omega)⟩
theorem Py {x:bz} (h:PL x=true) (ho:x.op=210):x =⟨210,x.a,0,0,0,0,0,[],[]⟩∧0≤x.a∧x.a<4294967296:=by
 obtain ⟨op,a,b,n,k,v,z,ty,lb⟩:=x
 simp only at ho
 subst ho
 have hi:mX 210=4:=by decide +kernel
 have hk:tG 210=true:=by decide +kernel
 unfold PL Bf AZ at h
 simp only [hi,hk,Int.reduceEq,Int.reduceBEq,false_or,or_false,or_true,true_or,or_self,bF,dc,lZ,qw,bR,bY,beq_iff_eq,lg,decide_eq_false_iff_not,cP,jR] at h
 obtain ⟨⟨rfl,rfl,rfl⟩,hlb,hty,ha,rfl,rfl⟩:=h
 obtain ⟨m,rfl,hm⟩:=jG ha
 rw [tq hlb,tq hty]
 exact ⟨rfl,by simp only;omega,by simp only;omega⟩
theorem U8 {x:bz} (h:PL x=true) (ho:x.op=11):x =⟨11,0,0,0,0,0,0,[],[]⟩:=by
 obtain ⟨op,a,b,n,k,v,z,ty,lb⟩:=x
 simp only at ho
 subst ho
 have hi:mX 11=0:=by decide +kernel
 have hk:tG 11=true:=by decide +kernel
 unfold PL Bf AZ at h
 simp only [hi,hk,Int.reduceEq,Int.reduceBEq,false_or,or_false,or_true,true_or,or_self,bF,dc,lZ,qw,bR,bY,beq_iff_eq,lg,decide_eq_false_iff_not,cP,jR] at h
 obtain ⟨⟨rfl,rfl,rfl⟩,hlb,hty,rfl,rfl,rfl⟩:=h
 rw [tq hlb,tq hty]
theorem mi {l:List bz} (h:oi l=true) (ho:E6 l):l=Z3 (ah l 0).a∧0≤(ah l 0).a∧(ah l 0).a<4294967296:=by
 unfold oi at h
 simp only [bY,beq_iff_eq] at h
 obtain ⟨⟨h1,h2⟩,h3⟩:=h
 obtain ⟨x,y,rfl⟩:∃x y,l=[x,y]:=by
  rcases l with _ | ⟨x,_ | ⟨y,_ | ⟨z,l⟩⟩⟩
  ·simp at h1
  ·simp at h1
  ·exact ⟨x,y,rfl⟩
  ·simp at h1
 have hx:=(ho x (by simp)).1
 have hy:=(ho y (by simp)).1
 obtain ⟨e1,e2,e3⟩:=Py hx h2
 have e4:=U8 hy h3
 refine ⟨?_,e2,e3⟩
 show [x,y]=[⟨210,x.a,0,0,0,0,0,[],[]⟩,⟨11,0,0,0,0,0,0,[],[]⟩]
 rw [← e1,← e4]
theorem sV {x:El} (h:wl x=0):(0≤x.mo∧x.mo≤2)∧(x.mo≠0→x.tb=0∧x.o=[])∧iz x.tb=true∧vC x.ty=true∧x.it.length≤256:=by
 unfold wl at h
 by_cases h1:x.mo<0∨x.mo>2∨(x.mo≠0∧(x.tb≠0∨x.o.length>0))
 ·rw [aK h1] at h;cases h
 rw [aD h1] at h
 by_cases h2:iz x.tb=false
 ·rw [aK h2] at h;cases h
 rw [aD h2] at h
 by_cases h3:vC x.ty=false
 ·rw [aK h3] at h;cases h
 rw [aD h3] at h
 by_cases h4:x.it.length>256
 ·rw [aK h4] at h;cases h
 refine ⟨by omega,fun q=>⟨by omega,nJ (by omega)⟩,by simpa using h2,by simpa using h3,by omega⟩
theorem DQ {x:El} (hm:0≤x.mo∧x.mo≤2):dK x≤7∧(dK x % 4=2↔x.mo=0∧(x.tb≠0∨x.ty≠3))∧(dK x % 2=0↔x.mo=0)∧(dK x % 4=0↔x.mo=0∧¬(x.tb≠0∨x.ty≠3))∧(dK x<4↔fS x=false)∧EO (dK x)=x.mo:=by
 unfold dK EO
 cases fS x
 ·simp only [gK,dc]
  by_cases h1:x.mo=1
  ·simp only [h1,bF];simp
  rw [aD h1]
  by_cases h2:x.mo=2
  ·simp only [h2,bF];simp
  rw [aD h2]
  have h0:x.mo=0:=by omega
  by_cases h3:x.tb≠0∨x.ty≠3
  ·rw [aK h3];simp [h0,h3]
  ·rw [aD h3];simp only [h0];simp only [h3];simp
 ·simp only [bF]
  by_cases h1:x.mo=1
  ·simp only [h1,bF];simp
  rw [aD h1]
  by_cases h2:x.mo=2
  ·simp only [h2,bF];simp
  rw [aD h2]
  have h0:x.mo=0:=by omega
  by_cases h3:x.tb≠0∨x.ty≠3
  ·rw [aK h3];simp [h0,h3]
  ·rw [aD h3];simp only [h0];simp only [h3];simp
def vj (l:List bz):Prop:=∀y∈l,0≤y.n∧y.n<18446744073709551616
def zW (r:List (Nat×Int)):List Int:=r.flatMap fun p=>List.replicate p.1 p.2
theorem y8 (t:Int):∀l:List Int,l.take (same t l)=List.replicate (same t l) t
 | []=>rfl
 | x :: l=>by
  rw [same]
  by_cases h:x=t
  ·rw [aK h,List.take_succ_cons,y8 t l,List.replicate_succ,h]
  ·rw [aD h];rfl
theorem y7 (t:Int):∀l:List Int,same t l≤l.length
 | []=>bj _
 | x :: l=>by
  rw [same]
  have:=y7 t l
  by_cases h:x=t
  ·rw [aK h,aQ];omega
  ·rw [aD h];omega
theorem m_:∀(f:Nat) (l:List Int),l.length≤f→zW (qi f l)=l
 | 0,l,h=>by
  have:l=[]:=nJ (by omega)
  subst this
  rfl
 | f+1,[],h=>rfl
 | f+1,x :: l,h=>by
  rw [aQ] at h
  have h1:=m_ f (l.drop (same x l)) (by rw [lW];omega)
  rw [qi]
  unfold zW at h1 ⊢
  rw [lY,h1,List.replicate_succ,← y8,kM,List.take_append_drop]
theorem qj:∀(f:Nat) (l:List Int),(qi f l).length≤l.length
 | 0,l=>cE _
 | f+1,[]=>bj _
 | f+1,x :: l=>by
  have:=qj f (l.drop (same x l))
  rw [lW] at this
  rw [qi,aQ,aQ]
  omega
theorem SV {x:Cd} (h:tY x=0):iz x.t=true∧x.lo.length≤64∧∀t∈x.lo,j8 t=true:=by
 unfold tY at h
 by_cases h1:iz x.t=false
 ·rw [aK h1] at h;cases h
 rw [aD h1] at h
 by_cases h2:x.lo.length>64
 ·rw [aK h2] at h;cases h
 rw [aD h2] at h
 by_cases h3:iD x.lo=false
 ·rw [aK h3] at h;cases h
 have:iD x.lo=true:=by simpa using h3
 unfold iD at this
 exact ⟨by simpa using h1,by omega,ee.1 this⟩
section
theorem VU {t:Int} (h:tS t=true):t=1∨t=2∨t=3∨t=4:=by
 simp only [tS,bY,cP] at h
 omega
theorem Gp (t:Int):(vo t).2=tS t:=by
 by_cases h:t=1∨t=2∨t=3∨t=4
 ·rcases h with rfl | rfl | rfl | rfl<;>rfl
 ·have:tS t=false:=by simp only [tS,Bool.and_eq_false_iff,decide_eq_false_iff_not];omega
  rw [this]
  unfold vo
  rw [aD (by omega),aD (by omega),aD (by omega),aD (by omega)]
attribute [local go_sem] ro wo wa wx rx
theorem yT (t:Int):ae Tryz.prog Lt [.int .i64 t] (.bool (tS t)):=by
 refine ab (ic:=qX.body) aq KX rfl rfl ?_
 unfold tS
 simp only [go_sem,qX]
 refine ⟨fun h=>?_,fun h=>?_⟩
 ·rw [aF h,bR]
  exact aI
 ·rw [aG h,cF]
  exact aI
theorem Kh (t:Int):ae Tryz.prog Uj [.int .i64 t] (.tup [.int .u8 (vo t).1.toNat,.bool (vo t).2]):=by
 refine ab (ic:=BU.body) aq Sh rfl rfl ?_
 simp only [go_sem,BU]
 refine aa (yT t) ?_
 cases h:tS t
 ·have h':=Gp t
  rw [h] at h'
  have e:vo t=(0,false):=by
   unfold vo at h' ⊢
   repeat' split at h'
   all_goals first | (cases h';done) | skip
   simp_all
  rw [e]
  simp only [go_sem]
  exact aI
 ·rcases VU h with rfl | rfl | rfl | rfl
  all_goals
   simp only [go_sem]
   refine ⟨⟨by decide,by decide⟩,?_⟩
   simp only [go_sem,OR,List.getElem?_cons_succ,List.getElem?_cons_zero]
   exact aI
end
section
attribute [local go_sem] ro wo wa wx rx
section
variable {l:List UInt8} {e:Int} (hl:l.length<40000000000)
include hl
theorem jk (t:Int) (h:tS t=true):ae Tryz.prog At [wx l e,.int .i64 t] (wx (wB (e==0) l [(vo t).1]) e):=by
 refine ab (ic:=M5.body) aq X6 rfl rfl ?_
 simp only [go_sem,M5]
 refine aa (Kh t) ?_
 have h2:=Gp t
 rw [h] at h2
 simp only [go_sem,h2]
 refine aa (pZ (l:=l) (e:=e) (hl:=by omega) (vo t).1) ?_
 simp only [go_sem]
 exact aj
end
theorem qa (n:Int):ae Tryz.prog ZM [.int .i64 n] (.bool (ij n)):=by
 refine ab (ic:=M4.body) aq X5 rfl rfl ?_
 simp only [go_sem,M4]
 refine ⟨fun h=>?_,fun h=>?_⟩
 ·have:ij n=decide (n≤4294967295):=by
   unfold ij
   rw [aF h,bR]
   exact decide_eq_decide.2 (by omega)
  rw [this]
  exact aI
 ·have:ij n=false:=by
   unfold ij
   rw [aG h,cF]
  rw [this]
  exact aI
theorem AS (k v x:Int):ae Tryz.prog T3 [.agg [.int .i64 k,.int .i64 v,.int .i64 x]] (.bool (HR k v x)):=by
 refine ab (ic:=qW.body) aq RZ rfl rfl ?_
 unfold HR
 by_cases h0:k=0
 ·subst h0
  simp only [bF]
  simp only [go_sem,qW]
  refine ⟨fun h=>?_,fun h=>?_⟩
  ·rw [h,bR]
   exact aI
  ·rw [h,cF]
   exact aI
 ·have k0:=mT.2 h0
  simp only [h0,dc]
  by_cases h1:k=1
  ·subst h1
   simp only [bF]
   simp only [go_sem,qW]
   refine aa (yT v) ?_
   cases h:tS v
   ·rw [cF]
    simp only [go_sem]
    exact aI
   ·rw [bR]
    simp only [go_sem]
    exact aI
  ·have k1:=mT.2 h1
   simp only [h1,dc]
   by_cases h2:k=2
   ·subst h2
    simp only [bF]
    simp only [go_sem,qW]
    refine ⟨fun h=>?_,fun h=>?_⟩
    ·rw [h,bR]
     refine aa (qa x) ?_
     simp only [go_sem]
     exact aI
    ·rw [h,cF]
     exact aI
   ·have k2:=mT.2 h2
    simp only [h2,dc]
    simp only [go_sem,qW,k0,k1,k2]
    exact aI
variable {l:List UInt8} {e:Int} (hl:l.length<40000000000)
include hl
theorem qc (k v x:Int) (h:HR k v x=true):ae Tryz.prog OZ [wx l e,.agg [.int .i64 k,.int .i64 v,.int .i64 x]] (wx (wB (e==0) l (wq k v x)) e):=by
 refine ab (ic:=MA.body) aq Xw rfl rfl ?_
 have hb:=AS k v x
 rw [h] at hb
 simp only [go_sem,MA]
 refine aa (hb) ?_
 unfold HR at h
 unfold wq
 by_cases h0:k=0
 ·subst h0
  simp only [bF]
  simp only [go_sem]
  refine aa (pZ (l:=l) (e:=e) (hl:=by omega) 64) ?_
  simp only [go_sem]
  exact aj
 ·have k0:=mT.2 h0
  simp only [h0,dc] at h ⊢
  by_cases h1:k=1
  ·subst h1
   simp only [bF,bY,beq_iff_eq] at h ⊢
   obtain ⟨h,rfl⟩:=h
   simp only [go_sem]
   refine aa (jk hl v h) ?_
   simp only [go_sem]
   exact aj
  ·have k1:=mT.2 h1
   simp only [h1,dc] at h ⊢
   by_cases h2:k=2
   ·subst h2
    simp only [bF,bY,beq_iff_eq,ij,cP] at h
    obtain ⟨rfl,g1,g2⟩:=h
    have r:vO (e==0) l e x=(wB (e==0) l (fq x),e):=by
     unfold vO;rw [aD (by omega)];rfl
    have hx:=U6 l e (by omega) x (by unfold Ov;omega)
    rw [r] at hx
    simp only [go_sem,k0,k1]
    refine aa (hx) ?_
    simp only [go_sem]
    exact aj
   ·simp only [h2,dc] at h
    cases h
end
section
def Out {α:Type} (b:List UInt8) (res:Rd α) (d:α) (q:α×Nat×Int):Prop :=
 q.2.1≤b.length∧((∃x k,res = .ok (x,k)∧q=(x,k,0))∨∃e,res = .error (e,q.2.1)∧e≠0∧q.1=d∧q.2.2=e)
def RX {α:Type} (f:FuncId) (rest:List AV) (b:List UInt8) (a:Nat) (res:Rd α) (d:α) (av:α→AV):Prop :=
 br Tryz.prog f (.mp 1000 4 0 0 :: rest) [(1000,ro true b a 0)] sb (fun r' σ'=>∃q,Out b res d q∧r'=av q.1∧σ'=[(1000,ro true b (q.2.1:Nat) q.2.2)])
variable {b:List UInt8} {a:Nat} (ha:a≤b.length) (hb:b.length<1000000000)
include ha hb
end
section
variable {b:List UInt8} {a:Nat} (ha:a≤b.length) (hb:b.length<1000000000)
include ha hb
end
end Go.Proofs.YtjndcljjbpeljaaGreatDoor