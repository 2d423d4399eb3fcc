import Derived.Test.YtdfofedlbljnhaaGreatDoorQo
set_option linter.all false
set_option maxRecDepth 100000
set_option maxHeartbeats 40000000
namespace Go.Proofs.YtdfofedlbljnhaaGreatDoor
section
open Go Go.Mw
instance:Inhabited (List Int×List aZ):=⟨([],[])⟩
def Jk (l:List Int):ak:=⟨54,1,l.map mA,false⟩
def Jl (l:List Int):ak:=⟨61,3,[[.int .i64 0,.ms 903 1 0 l.length,.nl]],true⟩
theorem YJ {b:List UInt8} {n a:Nat} {e:Int}:(Ck b n a e).1.length≤b.length:=by
 unfold Ck bh
 split
 ·split
  ·exact cX _
  split
  ·exact cX _
  ·show (List.take _ _).length≤_
   rw [pm,iE];omega
 ·exact cX _
theorem agk (b:List UInt8) (n:Nat) (l:List Int) (a:Nat):PX b (n+1) l a 0=(pb (sY b) (fun (many:Nat)=>pb (i6 (gV b) 0) fun t=>pb (Js 6 ((many:Int)>64 - l.length)) fun _=>fun a e=>PX b n (if e=0 then l++List.replicate many t else l) a e)) a 0:=rfl
theorem agl {b:List UInt8} {n:Nat} {l:List Int} {a:Nat} {e:Int} (he:e≠0):PX b n l a e=(l,a,e):=by
 cases n with
 | zero=>rfl
 | succ n=>exact ah he
theorem iX (x:List UInt8) (a:Nat) (e:Int):Cn true x a e=oR x a e:=by unfold Cn oR;rw [ap rfl]
variable {b:List UInt8} (hb:b.length<1000000000)
include hb
attribute [local go_sem] di ro wa
theorem aiY:RP pR [] b (Jr b) (fun x=>.agg (qf ⟨0,x.1,x.2⟩)):=by
 intro a e ha
 refine bF pz ?_
 simp only [go_sem,pz]
 refine ab (N_ hb a e ha) ?_
 have k1:=(rW (b:=b) a e ha).1
 have hR:Jr b a e=Jr b a e:=rfl
 conv at hR=>rhs;simp only [Jr]
 generalize Jr b a e=R at *
 have hN1:=E4 (e==0) b a e
 change (sY b a e).1<_ at hN1
 generalize sY b a e=y at *
 obtain ⟨n,a1,e1⟩:=y
 simp only at k1 hR hN1 ⊢
 have cS:=adH b a1 e1 n k1 hb (by omega)
 have k2:=(T9 b n a1 e1 k1).1
 have xl:=YJ (b:=b) (n:=n) (a:=a1) (e:=e1)
 have hT:((bh (e1==0) b a1 e1 (n:Nat)).1.getD [],(bh (e1==0) b a1 e1 (n:Nat)).2)=Ck b n a1 e1:=rfl
 generalize Ck b n a1 e1=y at *
 obtain ⟨x,a2,e2⟩:=y
 obtain ⟨h1,h2⟩:=Prod.mk.inj hT
 rw [h1,h2] at cS
 simp only at k2 xl hR cS ⊢
 have hx:x.length<1000000000:=by omega
 simp only [go_sem]
 refine ew (σ2:=[(1000,ro true b a1 e1)]) (r3:=.mp 902 4 0 0) (σ3:=[(1000,ro true b a2 e2),(902,ro true x ((0:Nat):Int) e2)]) cS [(24,902)] [902] rfl rfl rfl rfl ?_ ?_ ?_ ?_
 ·simp only [go_sem];simp
 ·simp only [go_sem];simp [sb,bw,jk,ae]
 ·simp only [go_sem];simp [ae]
 simp only [go_sem]
 refine ab (YK hx 64 0 e2 (cX _)) ?_
 have k3:=((Ga (b:=x) 64) 0 e2 (cX _)).1
 unfold pBo at hR
 simp only [pb,pP] at hR
 have hN2:=yD (b:=x) (most:=64) (a:=0) (e:=e2)
 generalize pC x 64 0 e2=y at *
 obtain ⟨m,a3,e3⟩:=y
 simp only at k3 hR hN2 ⊢
 obtain ⟨P,hP⟩:∃P,P=PX x m [] a3 e3:=⟨_,rfl⟩
 rw [← hP] at hR
 simp only [go_sem]
 refine aw (fun q:Nat×List Int×Nat×Int=>⟨[(5,.int .i64 (q.1:Nat)),(3,.mp 902 4 0 0),(4,.mp 4 3 0 0),(2,.mp 2 3 0 0),(0,.mp 1000 4 0 0)],[(2,⟨61,3,[[.int .i64 0,.nl,.nl]],true⟩),(4,Jl q.2.1),(903,Jk q.2.1),(902,ro true x q.2.2.1 q.2.2.2),(1000,ro true b a2 e2)]⟩)
  (fun q=>q.2.2.1≤x.length∧q.2.1.length≤64∧q.1<4294967296∧P=PX x q.1 q.2.1 q.2.2.1 q.2.2.2) (fun q=>q.1) (m,[],a3,e3) ⟨k3,cX _,hN2,hP⟩
  (((Wk.new0 _ 903 1 54 (.inl (by decide))).trans (Wk.nlm _ 4 (r:=[.int .i64 0,.nl,.nl]) (r':=[.int .i64 0,.ms 903 1 0 0,.nl]) (by rfl) ⟨.inl rfl,.inr ⟨rfl,.inr ⟨903,1,rfl⟩⟩,.inl rfl,trivial⟩)).trans (Wk.of ?_ ?_)) ?_
 ·simp only [go_sem,Jl,Jk];try simp [go_sem]
 ·simp only [go_sem,Jl,Jk];try simp [go_sem]
 rintro ⟨j,l,a4,e4⟩ ⟨g1,g2,g3,g4⟩
 simp only at g1 g2 g3 g4
 clear hP hN2 k3
 by_cases hj:(j:Int)>0
 rotate_left
 ·obtain rfl:j=0:=by omega
  simp only [go_sem,aQ hj]
  have hP:P=(l,a4,e4):=g4
  subst hP
  simp only at hR
  try simp only [go_sem,Jl,Jk]
  refine ab (VP hx a4 e4 g1) ?_
  have k5:=((jp x).oks [] a4 e4 g1).1
  generalize i6 (gX x) [] a4 e4=y at *
  obtain ⟨ol,a5,e5⟩:=y
  simp only at k5 hR ⊢
  simp only [go_sem,exs]
  refine ab (pZ true x a5 e5) ?_
  have cf:=Gb (b:=b) a2 e2 (Cn true x a5 e5)
  rw [iX] at cf
  rw [iX]
  subst hR
  simp only [go_sem]
  refine aA (cf) ?_
  refine done [903] (.agg (qf ⟨0,l,ol⟩)) [(1000,ro true b a2 (if e2=0 then oR x a5 e5 else e2))] ?_ (by simp only [go_sem]) rfl ⟨rfl,rfl⟩
  simp only [go_sem,bt,qf]
  rw [fL (by rw [di];omega)]
 obtain ⟨j,rfl⟩:∃k,j=k+1:=⟨j - 1,by omega⟩
 have hw1:IntKind.i64.wrap (((j+1:Nat):Int) - 1)=(j:Int):=by rw [wi (by omega) (by omega)];omega
 simp only [go_sem,aO hj,Jl,Jk]
 refine ab (aP true x a4 e4) ?_
 by_cases he:e4=0
 rotate_left
 ·simp only [go_sem,pp he]
  have hP:P=(l,a4,e4):=by rw [g4,agl he]
  subst hP
  simp only at hR
  try simp only [go_sem,Jl,Jk]
  refine ab (VP hx a4 e4 g1) ?_
  have k5:=((jp x).oks [] a4 e4 g1).1
  generalize i6 (gX x) [] a4 e4=y at *
  obtain ⟨ol,a5,e5⟩:=y
  simp only at k5 hR ⊢
  simp only [go_sem,exs]
  refine ab (pZ true x a5 e5) ?_
  have cf:=Gb (b:=b) a2 e2 (Cn true x a5 e5)
  rw [iX] at cf
  rw [iX]
  subst hR
  simp only [go_sem]
  refine aA (cf) ?_
  refine done [903] (.agg (qf ⟨0,l,ol⟩)) [(1000,ro true b a2 (if e2=0 then oR x a5 e5 else e2))] ?_ (by simp only [go_sem]) rfl ⟨rfl,rfl⟩
  simp only [go_sem,bt,qf]
  rw [fL (by rw [di];omega)]
 subst he
 rw [agk] at g4
 simp only [pb] at g4
 simp only [go_sem]
 refine ab (N_ hx a4 0 g1) ?_
 have u1:=(rW (b:=x) a4 0 g1).1
 have u2:=E4 ((0:Int)==0) x a4 0
 change (sY x a4 0).1<_ at u2
 generalize sY x a4 0=y at *
 obtain ⟨many,a5,e5⟩:=y
 simp only at u1 u2 g4 ⊢
 simp only [go_sem]
 refine ab (YL hx a5 e5 u1) ?_
 have v1:=((tX x).oks 0 a5 e5 u1).1
 generalize i6 (gV x) 0 a5 e5=y at *
 obtain ⟨t,a6,e6⟩:=y
 simp only at v1 g4 ⊢
 have hw2:IntKind.i64.wrap (64 - (l.length:Int))=64 - (l.length:Int):=wi (by omega) (by omega)
 have key:∀e7:Int,(e7=0→(many:Int)≤64 - l.length)→P=PX x j (if e7=0 then l++List.replicate many t else l) a6 e7→True:=fun _ _ _=>trivial
 by_cases hm:(many:Int)>64 - (l.length:Int)
 ·rw [show Js 6 ((many:Int)>64 - (l.length:Int)) a6 e6=((),a6,if e6=0 then 6 else e6) by unfold Js pI pF;rw [ap hm]] at g4
  simp only [go_sem,hw2,aO hm]
  have cf:=Gb (b:=x) a6 e6 6
  have h7:(if e6=0 then (6:Int) else e6)=0→(many:Int)≤64 - l.length:=fun q=>by split at q<;>omega
  generalize (if e6=0 then (6:Int) else e6)=e7 at *
  refine ab (cf) ?_
  simp only at g4
  refine aw (fun q:Nat×List Int=>⟨[(6,.int .i64 (q.1:Nat)),(7,.int .i64 t),(5,.int .i64 ((j+1:Nat):Int)),(3,.mp 902 4 0 0),(4,.mp 4 3 0 0),(2,.mp 2 3 0 0),(0,.mp 1000 4 0 0)],[(2,⟨61,3,[[.int .i64 0,.nl,.nl]],true⟩),(4,Jl q.2),(903,Jk q.2),(902,ro true x a6 e7),(1000,ro true b a2 e2)]⟩)
   (fun q=>(e7=0→q.2++List.replicate q.1 t=l++List.replicate many t∧q.2.length+q.1≤64)∧(e7≠0→q.2=l)∧q.1<4294967296) (fun q=>q.1) (many,l) ⟨fun _=>⟨rfl,by have:=h7 ‹_›;simp only;omega⟩,fun _=>rfl,u2⟩ (Wk.of ?_ ?_) ?_
  ·simp only [go_sem];try simp
  ·simp only [go_sem,Jl,Jk];try simp [go_sem]
  rintro ⟨i,L⟩ ⟨z1,z2,z3⟩
  simp only at z1 z2 z3
  have happ:=fun ys=>cZ 903 54 1 L.length mA L ys rfl
  have out:(e7=0→i=0)→P=PX x j L a6 e7∧L.length≤64:=fun q=>by
   by_cases h0:e7=0
   ·obtain ⟨y1,y2⟩:=z1 h0
    rw [q h0,List.replicate_zero,mz] at y1
    rw [ap h0] at g4
    rw [y1]
    exact ⟨g4,by rw [← y1];omega⟩
   ·rw [z2 h0]
    rw [ah h0] at g4
    exact ⟨g4,g2⟩
  by_cases hi:(i:Int)>0
  rotate_left
  ·obtain ⟨o1,o2⟩:=out fun _=>by omega
   simp only [go_sem,aQ hi,hw1]
   refine aG (j,L,a6,e7) ⟨v1,o2,by simp only;omega,o1⟩ (show j<j+1 by omega) (Wk.of ?_ ?_)
   ·simp only [go_sem];try simp
   ·simp only [go_sem,Jl,Jk];try simp [go_sem]
  simp only [go_sem,aO hi,Jl,Jk]
  refine ab (aP true x a6 e7) ?_
  by_cases h0:e7=0
  rotate_left
  ·obtain ⟨o1,o2⟩:=out fun q=>absurd q h0
   simp only [go_sem,pp h0,hw1]
   refine aG (j,L,a6,e7) ⟨v1,o2,by simp only;omega,o1⟩ (show j<j+1 by omega) (Wk.of ?_ ?_)
   ·simp only [go_sem];try simp
   ·simp only [go_sem,Jl,Jk];try simp [go_sem]
  obtain ⟨i,rfl⟩:∃k,i=k+1:=⟨i - 1,by omega⟩
  have hw3:IntKind.i64.wrap (((i+1:Nat):Int) - 1)=(i:Int):=by rw [wi (by omega) (by omega)];omega
  obtain ⟨y1,y2⟩:=z1 h0
  simp only [go_sem,dV h0,happ,hw3,d_]
  refine ⟨by omega,aG (i,L++[t]) ⟨fun _=>⟨by rw [← y1];simp [List.replicate_succ],by simp;omega⟩,fun q=>absurd h0 q,by simp only;omega⟩ (show i<i+1 by omega) (Wk.of ?_ ?_)⟩
  ·simp only [go_sem];try simp
  ·simp only [go_sem,Jl,Jk];try simp [go_sem,d_]
 ·rw [show Js 6 ((many:Int)>64 - (l.length:Int)) a6 e6=((),a6,e6) by unfold Js pI pP;rw [ah hm]] at g4
  simp only [go_sem,hw2,aQ hm]
  have h7:e6=0→(many:Int)≤64 - l.length:=fun _=>by omega
  simp only at g4
  generalize e6=e7 at *
  refine aw (fun q:Nat×List Int=>⟨[(6,.int .i64 (q.1:Nat)),(7,.int .i64 t),(5,.int .i64 ((j+1:Nat):Int)),(3,.mp 902 4 0 0),(4,.mp 4 3 0 0),(2,.mp 2 3 0 0),(0,.mp 1000 4 0 0)],[(2,⟨61,3,[[.int .i64 0,.nl,.nl]],true⟩),(4,Jl q.2),(903,Jk q.2),(902,ro true x a6 e7),(1000,ro true b a2 e2)]⟩)
   (fun q=>(e7=0→q.2++List.replicate q.1 t=l++List.replicate many t∧q.2.length+q.1≤64)∧(e7≠0→q.2=l)∧q.1<4294967296) (fun q=>q.1) (many,l) ⟨fun _=>⟨rfl,by have:=h7 ‹_›;simp only;omega⟩,fun _=>rfl,u2⟩ (Wk.of ?_ ?_) ?_
  ·simp only [go_sem];try simp
  ·simp only [go_sem,Jl,Jk];try simp [go_sem]
  rintro ⟨i,L⟩ ⟨z1,z2,z3⟩
  simp only at z1 z2 z3
  have happ:=fun ys=>cZ 903 54 1 L.length mA L ys rfl
  have out:(e7=0→i=0)→P=PX x j L a6 e7∧L.length≤64:=fun q=>by
   by_cases h0:e7=0
   ·obtain ⟨y1,y2⟩:=z1 h0
    rw [q h0,List.replicate_zero,mz] at y1
    rw [ap h0] at g4
    rw [y1]
    exact ⟨g4,by rw [← y1];omega⟩
   ·rw [z2 h0]
    rw [ah h0] at g4
    exact ⟨g4,g2⟩
  by_cases hi:(i:Int)>0
  rotate_left
  ·obtain ⟨o1,o2⟩:=out fun _=>by omega
   simp only [go_sem,aQ hi,hw1]
   refine aG (j,L,a6,e7) ⟨v1,o2,by simp only;omega,o1⟩ (show j<j+1 by omega) (Wk.of ?_ ?_)
   ·simp only [go_sem];try simp
   ·simp only [go_sem,Jl,Jk];try simp [go_sem]
  simp only [go_sem,aO hi,Jl,Jk]
  refine ab (aP true x a6 e7) ?_
  by_cases h0:e7=0
  rotate_left
  ·obtain ⟨o1,o2⟩:=out fun q=>absurd q h0
   simp only [go_sem,pp h0,hw1]
   refine aG (j,L,a6,e7) ⟨v1,o2,by simp only;omega,o1⟩ (show j<j+1 by omega) (Wk.of ?_ ?_)
   ·simp only [go_sem];try simp
   ·simp only [go_sem,Jl,Jk];try simp [go_sem]
  obtain ⟨i,rfl⟩:∃k,i=k+1:=⟨i - 1,by omega⟩
  have hw3:IntKind.i64.wrap (((i+1:Nat):Int) - 1)=(i:Int):=by rw [wi (by omega) (by omega)];omega
  obtain ⟨y1,y2⟩:=z1 h0
  simp only [go_sem,dV h0,happ,hw3,d_]
  refine ⟨by omega,aG (i,L++[t]) ⟨fun _=>⟨by rw [← y1];simp [List.replicate_succ],by simp;omega⟩,fun q=>absurd h0 q,by simp only;omega⟩ (show i<i+1 by omega) (Wk.of ?_ ?_)⟩
  ·simp only [go_sem];try simp
  ·simp only [go_sem,Jl,Jk];try simp [go_sem,d_]
end
open Go Go.Mw
def IB (op:Int):Bool:=op==2||op==3||op==4
def yz (l:List Int) (i:Nat) (op:Int):List Int:=if IB op then l++[(i:Int)] else if op==11 then l.dropLast else l
def bA (B:List aZ):Nat→List Int
 | 0=>[-1]
 | i+1=>yz (bA B i) i (ac B i).op
def Ae (B:List aZ) (i:Nat):Int:=ac (bA B i) ((bA B i).length - 1)
def Ci (B:List aZ) (h:Int) (i:Nat):Bool:=(List.range i).any fun j=>decide (h<j)&&(ac B j).op==5&&decide (0<(bA B j).length)&&Ae B j==h
def d9 (B:List aZ) (i:Nat):Bool:=(ac B i).op==5&&(decide (Ae B i<0)||(ac B (Ae B i).toNat).op != 4||Ci B (Ae B i) i)
def gc (B:List aZ) (i:Nat):Int:=if (bA B i).length=0 then 16 else if d9 B i then 16 else if IB (ac B i).op&&decide (32≤(bA B i).length) then 6 else 0
def BO (B:List aZ):Nat→Nat→Int×Int
 | _,0=>if 0<(bA B B.length).length then (B.length,3) else (0,0)
 | i,k+1=>if gc B i≠0 then (i,gc B i) else BO B (i+1) k
def nchk (B:List aZ):Int×Int:=BO B 0 B.length
theorem KD (B:List aZ):∀i,(bA B i).length≤i+1
 | 0=>by simp [bA]
 | i+1=>by
  have:=KD B i
  simp only [bA,yz]
  split
  ·simp;omega
  ·split
   ·simp;omega
   ·omega
theorem F_ {l:List Int} {k:Nat} (h:k<l.length - 1):ac l.dropLast k=ac l k:=by
 rw [List.dropLast_eq_take,KF h]
theorem xE (B:List aZ):∀(i:Nat),(∀j,j<i→0<(bA B j).length)→∀k,k<(bA B i).length→(k=0∧ac (bA B i) k = -1)∨(0<k∧∃j:Nat,ac (bA B i) k=j∧j<i∧bA B j=(bA B i).take k∧IB (ac B j).op=true)
 | 0,_,k,hk=>by
  simp only [bA,cM] at hk ⊢
  have:k=0:=by omega
  subst this
  exact .inl ⟨rfl,rfl⟩
 | i+1,hne,k,hk=>by
  have ih:=xE B i (fun j hj=>hne j (by omega)) k
  have h0:=hne i (by omega)
  simp only [bA] at hk ⊢
  unfold yz at hk ⊢
  by_cases hb:IB (ac B i).op
  ·rw [ap hb] at hk ⊢
   simp only [bE,cM] at hk
   by_cases h2:k<(bA B i).length
   ·rw [k9 h2,List.take_append_of_le_length (by omega)]
    rcases ih h2 with h | ⟨h3,j,h4,h5,h6,h7⟩
    ·exact .inl h
    ·exact .inr ⟨h3,j,h4,by omega,h6,h7⟩
   ·have hk2:k=(bA B i).length:=by omega
    subst hk2
    exact .inr ⟨h0,i,BR,by omega,by simp,hb⟩
  ·rw [ah hb] at hk ⊢
   by_cases h11:((ac B i).op==11)=true
   ·rw [ap h11] at hk ⊢
    simp only [List.length_dropLast] at hk
    rw [F_ hk,List.dropLast_eq_take,List.take_take,Nat.min_eq_left (by omega)]
    rcases ih (by omega) with h | ⟨h3,j,h4,h5,h6,h7⟩
    ·exact .inl h
    ·exact .inr ⟨h3,j,h4,by omega,h6,h7⟩
   ·rw [ah h11] at hk ⊢
    rcases ih hk with h | ⟨h3,j,h4,h5,h6,h7⟩
    ·exact .inl h
    ·exact .inr ⟨h3,j,h4,by omega,h6,h7⟩
theorem G6 {B:List aZ} {i:Nat} (hne:∀j,j<i→0<(bA B j).length) (h0:0<(bA B i).length) :
  ((bA B i).length=1∧Ae B i = -1)∨(1<(bA B i).length∧∃j:Nat,Ae B i=j∧j<i∧bA B j=(bA B i).take ((bA B i).length - 1)∧IB (ac B j).op=true):=by
 rcases xE B i hne ((bA B i).length - 1) (by omega) with ⟨h1,h2⟩ | ⟨h1,h2⟩
 ·exact .inl ⟨by omega,h2⟩
 ·exact .inr ⟨by omega,h2⟩
theorem Mi {B:List aZ} {i:Nat} (hne:∀j,j<i→0<(bA B j).length) (h0:0<(bA B i).length):-1≤Ae B i∧Ae B i<i:=by
 rcases G6 hne h0 with ⟨_,h⟩ | ⟨_,j,h,h2,_⟩<;>omega
theorem N1 {B:List aZ} {i:Nat} (h:gc B i=0):0<(bA B i).length:=by
 unfold gc at h
 split at h
 ·cases h
 ·omega
theorem TQ {B:List aZ} {i:Nat} (h:gc B i=0):d9 B i=false∧(IB (ac B i).op&&decide (32≤(bA B i).length))=false:=by
 unfold gc at h
 split at h
 ·cases h
 split at h
 ·cases h
 split at h
 ·cases h
 ·rename_i h1 h2 h3
  exact ⟨by simpa using h2,by simpa using h3⟩
theorem Me {B:List aZ} {i k:Nat} (h:gc B i=0):BO B i (k+1)=BO B (i+1) k:=by simp [BO,h]
theorem Mf {B:List aZ} {i k:Nat} (h:gc B i≠0):BO B i (k+1)=((i:Int),gc B i):=by simp [BO,h]
theorem G5 {B:List aZ} {i:Nat} (hi:i≤B.length) (h:∀j,j<i→gc B j=0):nchk B=BO B i (B.length - i):=by
 induction i with
 | zero=>rfl
 | succ i ih =>
  rw [ih (by omega) (fun j hj=>h j (by omega)),show B.length - i=(B.length - (i+1))+1 by omega,Me (h i (by omega))]
theorem IC {B:List aZ} {i:Nat} (hi:i<B.length) (h:∀j,j<i→gc B j=0) (he:gc B i≠0):nchk B=((i:Int),gc B i):=by
 rw [G5 (by omega) h,show B.length - i=(B.length - (i+1))+1 by omega,Mf he]
theorem Kz {B:List aZ} (h:∀j,j<B.length→gc B j=0):nchk B=if 0<(bA B B.length).length then ((B.length:Int),3) else (0,0):=by
 rw [G5 (bt _) h,Nat.sub_self]
 rfl
theorem Mg (B:List aZ):(∃i,i<B.length∧(∀j,j<i→gc B j=0)∧gc B i≠0)∨∀j,j<B.length→gc B j=0:=by
 have:∀n,n≤B.length→(∃i,i<n∧(∀j,j<i→gc B j=0)∧gc B i≠0)∨∀j,j<n→gc B j=0:=fun n=>by
  induction n with
  | zero=>exact fun _=>.inr fun j hj=>absurd hj (Nat.not_lt_zero _)
  | succ n ih =>
   intro hn
   rcases ih (by omega) with ⟨i,h1,h2⟩ | h
   ·exact .inl ⟨i,by omega,h2⟩
   ·by_cases he:gc B n=0
    ·refine .inr fun j hj=>?_
     rcases Nat.lt_or_eq_of_le (Nat.le_of_lt_succ hj) with h1 | h1
     ·exact h j h1
     ·rw [h1];exact he
    ·exact .inl ⟨n,by omega,h,he⟩
 rcases this _ (bt _) with ⟨i,h1,h2⟩ | h
 ·exact .inl ⟨i,h1,h2⟩
 ·exact .inr h
def mq (B:List aZ):Prop:=(∀j,j<B.length→gc B j=0)∧bA B B.length=[]
theorem PP (B:List aZ):(nchk B).2=0↔mq B:=by
 rcases Mg B with ⟨i,h1,h2,h3⟩ | h
 ·rw [IC h1 h2 h3]
  exact ⟨fun hh=>absurd hh h3,fun hg=>absurd (hg.1 i h1) h3⟩
 ·rw [Kz h]
  by_cases hl:0<(bA B B.length).length
  ·rw [ap hl]
   refine ⟨fun hh=>(by cases hh),fun hg=>?_⟩
   rw [hg.2] at hl
   cases hl
  ·rw [ah hl]
   exact ⟨fun _=>⟨h,sc (by omega)⟩,fun _=>rfl⟩
def Dy (x:aZ):Bool:=th (sZ x.op) (yM x.op) x
theorem agZ (x:aZ) (h:VR x):ao pg cz [dJ x] (.bool (Dy x)):=by
 obtain ⟨h1,h2,h3⟩:=h
 obtain ⟨t1,_,t3,_⟩:=Hp x.op
 have c:=K7 x (sZ x.op) (nR x.op) t3 (by omega)
 rw [t1,aas (sZ x.op) (nR x.op) (yM x.op) x h3] at c
 exact c
def RQ (d:Nat) (op:Int):Nat:=if op=2∨op=3∨op=4 then d+1 else if op=11 then d - 1 else d
def dp (d:Nat) (l:List aZ):Nat:=l.foldl (fun d x=>RQ d x.op) d
theorem NZ {op:Int}:IB op=true↔op=2∨op=3∨op=4:=by
 unfold IB
 simp only [qr,beq_iff_eq]
 omega
theorem MB (B:List aZ):∀i,i≤B.length→(bA B i).length=dp 1 (B.take i)
 | 0,_=>rfl
 | i+1,h=>by
  have ih:=MB B i (by omega)
  rw [xJ (by omega:i<B.length),bA]
  unfold dp at ih ⊢
  rw [List.foldl_append,← ih]
  show (yz (bA B i) i (ac B i).op).length=RQ (bA B i).length (ac B i).op
  unfold yz RQ
  by_cases h1:(ac B i).op=2∨(ac B i).op=3∨(ac B i).op=4
  ·rw [ap (NZ.2 h1),ap h1,bE];rfl
  ·rw [ah (fun q=>h1 (NZ.1 q)),ah h1]
   by_cases h2:(ac B i).op=11
   ·rw [ap (by rw [h2];rfl),ap h2,List.length_dropLast]
   ·rw [ah (by simpa using h2),ah h2]
def clo (d:Nat) (l:List aZ):Prop:=dp d l=0∧∀i,i<l.length→1≤dp d (l.take i)
theorem Ea {B:List aZ} (h:mq B):clo 1 B:=by
 refine ⟨?_,fun i hi=>?_⟩
 ·have:=MB B B.length (bt _)
  rw [h.2,kC] at this
  exact this.symm
 ·rw [← MB B i (by omega)]
  exact N1 (h.1 i hi)
theorem Rv {l:List aZ} (h:clo 1 l):l≠[]:=fun q=>by
 rw [q] at h
 exact absurd h.1 (by decide)
def Jq (l:List aZ):Prop:=∀x∈l,PL x=true∧x.lb.length≤64∧0≤x.n∧x.n<18446744073709551616
theorem DW (x:aZ):1≤(xh x).length:=by
 unfold xh kW
 split
 ·simp only [bE,eA];omega
 ·simp only [bE,eA];omega
theorem rJ (x:aZ) (l:List aZ):fu (x :: l)=xh x++fu l:=by simp [fu]
theorem GF:∀l:List aZ,l.length≤(fu l).length
 | []=>bt _
 | x :: l=>by
  have:=GF l
  have:=DW x
  rw [rJ,bE,eA]
  omega
theorem Se:∀(l:List aZ) {d f:Nat} {b r:List UInt8} {a:Nat} {m:Int},1≤d→l≠[]→clo d l→Jq l→(l.length:Int)≤m→l.length≤f→b.drop a=fu l++r→gE f d b a m = .ok (l,a+(fu l).length)
 | [],_,_,_,_,_,_,_,h,_,_,_,_,_=>absurd rfl h
 | x :: l,d,0,_,_,_,_,_,_,_,_,_,hf,_=>by simp at hf
 | x :: l,d,f+1,b,r,a,m,hd,_,hc,ho,hm,hf,hb=>by
  obtain ⟨g1,g2,g3⟩:=ho x (by simp)
  rw [rJ,du] at hb
  simp only [eA] at hm hf
  rw [gE,ah (by omega),abP g1 g2 g3 hb]
  simp only
  have hs:dp d (x :: l)=dp (RQ d x.op) l:=rfl
  rw [rJ,bE,← kI]
  by_cases h1:x.op=11∧d=1
  ·rw [ap h1]
   have hl:l=[]:=by
    rcases l with _ | ⟨y,l⟩
    ·rfl
    ·have:=hc.2 1 (by simp)
     have e:dp d ((x :: y :: l).take 1)=RQ d x.op:=rfl
     rw [e] at this
     unfold RQ at this
     rw [ah (by omega),ap h1.1,h1.2] at this
     omega
   subst hl
   rfl
  ·rw [ah h1]
   have hne:l≠[]:=fun q=>by
    have:=hc.1
    rw [q] at this
    have e:dp d [x]=RQ d x.op:=rfl
    rw [e] at this
    unfold RQ at this
    split at this
    ·omega
    ·split at this
     ·rename_i h3;exact h1 ⟨h3,by omega⟩
     ·omega
   have hcl:clo (RQ d x.op) l:=⟨hc.1,fun i hi=>by have:=hc.2 (i+1) (by simp;omega);exact this⟩
   have hd2:1≤RQ d x.op:=by have:=hcl.2 0 (by rcases l with _ | _;exact absurd rfl hne;simp);exact this
   have ih:=Se l (f:=f) (m:=m - 1) hd2 hne hcl (fun y hy=>ho y (by simp [hy])) (by omega) (by omega) (bD hb)
   unfold RQ at ih
   rw [ih]
theorem zT {l:List aZ} (h:mq l) (ho:Jq l) (hl:l.length≤2048):Bk gX fu l:=fun b a r hd=>by
 have h1:=GF l
 have h2:=x9 hd (by have:=Rv (Ea h);rcases l with _ | _;exact absurd rfl this;simp at h1;omega)
 exact Se l (bt _) (Rv (Ea h)) (Ea h) ho (by omega) (by omega) hd
theorem qR {l:List aZ} (h:Qw Dy l) (hn:∀x∈l,0≤x.n∧x.n<18446744073709551616):Jq l∧l.length≤2048:=⟨fun x hx=>⟨(h.2 x hx).1,(h.2 x hx).2,hn x hx⟩,h.1⟩
theorem W9 {x:Gd} (h1:m5 x.g.v=true) (h2:mq x.i) (h3:Jq x.i) (h4:x.i.length≤2048):Bk ZZ oO x:=by
 intro b a r hd
 unfold oO at hd ⊢
 rw [du] at hd
 unfold ZZ
 rw [Nw h1 b a _ hd,aM,zT h2 h3 h4 b _ _ (bD hd),aM,bE,kI]
theorem R0 {x:Ex} (h:LL x=0):xP x.n=0∧(0≤x.k∧x.k≤3)∧rP x.i=true:=by
 unfold LL at h
 by_cases h1:xP x.n≠0
 ·rw [ap h1] at h;exact absurd h h1
 rw [ah h1] at h
 by_cases h2:x.k<0∨x.k>3
 ·rw [ap h2] at h;cases h
 rw [ah h2] at h
 by_cases h3:rP x.i=false
 ·rw [ap h3] at h;cases h
 exact ⟨Decidable.not_not.1 h1,by omega,by simpa using h3⟩
theorem W6 {x:Ex} (h:LL x=0):Bk ZY oM x:=by
 intro b a r hd
 obtain ⟨h1,h2,h3⟩:=R0 h
 obtain ⟨n,k,i⟩:=x
 simp only at h1 h2 h3
 unfold oM at hd ⊢
 simp only [du] at hd ⊢
 have hd2:=bD hd
 have hd3:=bD hd2
 rw [cM] at hd3
 unfold ZY
 have hk:(UInt8.ofNat k.toNat).toNat=k.toNat:=by
  rw [UInt8.toNat_ofNat']
  omega
 have hk3:¬UInt8.ofNat k.toNat>3:=by
  show ¬(3:UInt8)<UInt8.ofNat k.toNat
  rw [UInt8.lt_iff_toNat_lt,hk]
  show ¬3<k.toNat
  omega
 rw [H5 h1 b a _ hd,aM,wI hd2,aM,ah hk3,D9 h3 hd3,aM]
 have:=dI.1 h3
 simp only [bE,cM,hk]
 congr 2
 ·congr 1
  ·omega
  ·omega
 ·omega
theorem H8 {n:Int} (h:rP n=true):Bk Jm (fun n:Int=>aq n.toNat) n:=by
 intro b a r hd
 have:=dI.1 h
 unfold Jm
 rw [D9 h hd,aM,show ((n.toNat:Nat):Int)=n by omega]
theorem RJ {x:Da} (h:KH Dy x):(x.mo=0∨x.mo=1∧x.me=0∧x.o=[])∧rP x.me=true∧x.b.length≤4096∧Qw Dy x.o:=by
 refine ⟨?_,h.2⟩
 by_cases h0:x.mo=0
 ·exact .inl h0
 have h1:=h.1
 have h2:¬(x.mo≠1∨x.me≠0∨x.o.length>0):=fun q=>h1 ⟨h0,q⟩
 exact .inr ⟨by omega,by omega,sc (by omega)⟩
theorem I2 {b r:List UInt8} {a:Nat} {me mo:Int} {o:List aZ} {x:List UInt8} (hx:x.length≤4096) (hd:b.drop a=aq x.length++(x++r)) :
  (eU (gC b a 4096) fun n2 k3=>if n2>b.length - k3 then .error (3,k3) else (.ok ((⟨mo,me,o,(b.drop k3).take n2⟩:Da),k3+n2):Rd Da)) = .ok (⟨mo,me,o,x⟩,a+(aq x.length).length+x.length):=by
 rw [GV (by omega) (by omega) hd,aM]
 have hd2:=bD hd
 have hl:=x9 hd (by have:=kw x.length;omega)
 rw [bE] at hl
 rw [ah (by omega),hd2,List.take_left]
theorem W4 {x:Da} (h:KH Dy x) (h2:x.mo=0→mq x.o) (h3:∀y∈x.o,0≤y.n∧y.n<18446744073709551616):Bk W0 oK x:=by
 intro b a r hd
 obtain ⟨h4,h5,h6,h7⟩:=RJ h
 obtain ⟨j1,j2⟩:=qR h7 h3
 obtain ⟨mo,me,o,x⟩:=x
 simp only at h2 h4 h5 h6 h7 j1 j2
 have hr:=dI.1 h5
 unfold oK at hd ⊢
 unfold W0
 rcases h4 with rfl | ⟨rfl,rfl,rfl⟩
 ·rw [ah (show ¬(0:Int)=1 by decide)] at hd
  simp only [show ¬(0:Int)=1 by decide,bc] at hd ⊢
  by_cases hm:me=0
  ·subst hm
   simp only [aF,du] at hd ⊢
   have hd2:=bD hd
   have hd3:=bD hd2
   rw [c_ (by decide) hd,aM,ah (by decide),ah (by decide),aM,ah (by decide),zT (h2 rfl) j1 j2 b _ _ hd2,aM,ah (by decide),I2 h6 hd3]
   simp only [bE]
   congr 2
   omega
  ·simp only [ah hm,du] at hd ⊢
   have hd2:=bD hd
   have hd3:=bD hd2
   have hd4:=bD hd3
   rw [c_ (by decide) hd,aM,ah (by decide),ap rfl,D9 h5 hd2,aM,aM,ah (by decide),zT (h2 rfl) j1 j2 b _ _ hd3,aM,ah (by decide),I2 h6 hd4,show ((me.toNat:Nat):Int)=me by omega]
   simp only [bE]
   congr 2
   omega
 ·simp only [aF,du] at hd ⊢
  have hd2:=bD hd
  rw [c_ (by decide) hd,aM,ah (by decide),ah (by decide),aM,ap rfl,aM,ap rfl,I2 h6 hd2]
  simp only [bE]
  congr 2
  omega
theorem adc {x:aZ} (h:PL x=true) (ho:x.op=210):x =⟨210,x.a,0,0,0,0,0,[],[]⟩∧0≤x.a∧x.a<4294967296:=by
 obtain ⟨op,a,b,n,k,v,z,ty,lb⟩:=x
 simp only at ho
 subst ho
 have hi:sZ 210=4:=by decide +kernel
 have hk:yM 210=true:=by decide +kernel
 unfold PL th k_ at h
 simp only [hi,hk,Int.reduceEq,Int.reduceBEq,false_or,or_false,or_true,true_or,or_self,aF,bc,eC,eE,bU,cC,beq_iff_eq,rg,decide_eq_false_iff_not,fo,qr] at h
 obtain ⟨⟨rfl,rfl,rfl⟩,hlb,hty,ha,rfl,rfl⟩:=h
 obtain ⟨m,rfl,hm⟩:=cE ha
 rw [bK hlb,bK hty]
 exact ⟨rfl,by simp only;omega,by simp only;omega⟩
theorem agz {x:aZ} (h:PL x=true) (ho:x.op=11):x =⟨11,0,0,0,0,0,0,[],[]⟩:=by
 obtain ⟨op,a,b,n,k,v,z,ty,lb⟩:=x
 simp only at ho
 subst ho
 have hi:sZ 11=0:=by decide +kernel
 have hk:yM 11=true:=by decide +kernel
 unfold PL th k_ at h
 simp only [hi,hk,Int.reduceEq,Int.reduceBEq,false_or,or_false,or_true,true_or,or_self,aF,bc,eC,eE,bU,cC,beq_iff_eq,rg,decide_eq_false_iff_not,fo,qr] at h
 obtain ⟨⟨rfl,rfl,rfl⟩,hlb,hty,rfl,rfl,rfl⟩:=h
 rw [bK hlb,bK hty]
theorem Ig {l:List aZ} (h:zW l=true) (ho:Jq l):l=KX (ac l 0).a∧0≤(ac l 0).a∧(ac l 0).a<4294967296:=by
 unfold zW at h
 simp only [cC,beq_iff_eq] at h
 obtain ⟨⟨h1,h2⟩,h3⟩:=h
 obtain ⟨x,y,rfl⟩:∃x y,l=[x,y]:=by
  rcases l with _ | ⟨x,_ | ⟨y,_ | ⟨z,l⟩⟩⟩
  ·simp at h1
  ·simp at h1
  ·exact ⟨x,y,rfl⟩
  ·simp at h1
 have hx:=(ho x (by simp)).1
 have hy:=(ho y (by simp)).1
 obtain ⟨e1,e2,e3⟩:=adc hx h2
 have e4:=agz hy h3
 refine ⟨?_,e2,e3⟩
 show [x,y]=[⟨210,x.a,0,0,0,0,0,[],[]⟩,⟨11,0,0,0,0,0,0,[],[]⟩]
 rw [← e1,← e4]
theorem Xa {n:Nat} {l:List aZ} (h1:n<4→zW l=true) (h2:mq l) (h3:Jq l) (h4:l.length≤2048):Bk (Z1 n) (tT n) l:=by
 intro b a r hd
 unfold tT at hd ⊢
 unfold Z1
 by_cases h:n<4
 ·rw [ap h] at hd ⊢
  obtain ⟨e1,e2,e3⟩:=Ig (h1 h) h3
  rw [ap h,c_ (n:=(ac l 0).a.toNat) (by omega) hd,aM,show (((ac l 0).a.toNat:Nat):Int)=(ac l 0).a by omega,← e1]
 ·rw [ah h] at hd ⊢
  rw [ah h]
  exact zT h2 h3 h4 b a r hd
theorem DT {x:El} (h:elB x=0):(0≤x.mo∧x.mo≤2)∧(x.mo≠0→x.tb=0∧x.o=[])∧rP x.tb=true∧Jt x.ty=true∧x.it.length≤256:=by
 unfold elB at h
 by_cases h1:x.mo<0∨x.mo>2∨(x.mo≠0∧(x.tb≠0∨x.o.length>0))
 ·rw [ap h1] at h;cases h
 rw [ah h1] at h
 by_cases h2:rP x.tb=false
 ·rw [ap h2] at h;cases h
 rw [ah h2] at h
 by_cases h3:Jt x.ty=false
 ·rw [ap h3] at h;cases h
 rw [ah h3] at h
 by_cases h4:x.it.length>256
 ·rw [ap h4] at h;cases h
 refine ⟨by omega,fun q=>⟨by omega,sc (by omega)⟩,by simpa using h2,by simpa using h3,by omega⟩
theorem LU {x:El} (hm:0≤x.mo∧x.mo≤2):cL x≤7∧(cL x % 4=2↔x.mo=0∧(x.tb≠0∨x.ty≠3))∧(cL x % 2=0↔x.mo=0)∧(cL x % 4=0↔x.mo=0∧¬(x.tb≠0∨x.ty≠3))∧(cL x<4↔iG x=false)∧bY (cL x)=x.mo:=by
 unfold cL bY
 cases iG x
 ·simp only [iD,bc]
  by_cases h1:x.mo=1
  ·simp only [h1,aF];simp
  rw [ah h1]
  by_cases h2:x.mo=2
  ·simp only [h2,aF];simp
  rw [ah h2]
  have h0:x.mo=0:=by omega
  by_cases h3:x.tb≠0∨x.ty≠3
  ·rw [ap h3];simp [h0,h3]
  ·rw [ah h3];simp only [h0];simp only [h3];simp
 ·simp only [aF]
  by_cases h1:x.mo=1
  ·simp only [h1,aF];simp
  rw [ah h1]
  by_cases h2:x.mo=2
  ·simp only [h2,aF];simp
  rw [ah h2]
  have h0:x.mo=0:=by omega
  by_cases h3:x.tb≠0∨x.ty≠3
  ·rw [ap h3];simp [h0,h3]
  ·rw [ah h3];simp only [h0];simp only [h3];simp
def G9 (l:List aZ):Prop:=∀y∈l,0≤y.n∧y.n<18446744073709551616
theorem W5 {x:El} (h:Mk Dy x) (h2:x.mo=0→mq x.o) (h3:∀l∈x.it,mq l) (hn:G9 x.o) (hn2:∀l∈x.it,G9 l):Bk ZX oL x:=by
 intro b a r hd
 obtain ⟨hB,ho,hi⟩:=h
 obtain ⟨b1,b2,b3,b4,b5⟩:=DT hB
 obtain ⟨f1,f2,f3,f4,f5,f6⟩:=LU b1
 obtain ⟨j1,j2⟩:=qR ho hn
 have hty:cL x<4→x.ty=3:=fun q=>by
  have:=f5.1 q
  unfold iG at this
  rw [Bool.or_eq_false_iff] at this
  simpa using this.1
 have hrf:cL x<4→∀l∈x.it,zW l=true:=fun q=>by
  have:=f5.1 q
  unfold iG at this
  rw [Bool.or_eq_false_iff,List.any_eq_false] at this
  intro l hl
  have:=this.2 l hl
  simpa using this
 have hv:m5 x.ty=true:=Fu.2 (by have:=Aq.1 b4;omega)
 have ht:=dI.1 b3
 unfold oL at hd ⊢
 simp only [du] at hd ⊢
 have d1:=bD hd
 have d2:=bD d1
 have d3:=bD d2
 have d4:=bD d3
 unfold ZX
 rw [c_ (by omega) hd,aM,ah (by omega)]
 have s1:(if cL x % 4=2 then eU (gU b (a+(aq (cL x)).length)) fun y k1=>(.ok ((y:Int),k1):Rd Int) else .ok (0,a+(aq (cL x)).length)) = .ok (x.tb,a+(aq (cL x)).length+(if cL x % 4=2 then aq x.tb.toNat else []).length):=by
  by_cases q:cL x % 4=2
  ·rw [ap q,ap q]
   rw [ap q] at d1
   rw [D9 b3 d1,aM,show ((x.tb.toNat:Nat):Int)=x.tb by omega]
  ·rw [ah q,ah q,show x.tb=0 by
    by_cases z:x.mo=0
    ·by_cases w:x.tb=0
     ·exact w
     ·exact absurd (f2.2 ⟨z,.inl w⟩) q
    ·exact (b2 z).1]
   rfl
 rw [s1,aM]
 have s2:(if cL x % 2=0 then gX b (a+(aq (cL x)).length+(if cL x % 4=2 then aq x.tb.toNat else []).length) else .ok ([],a+(aq (cL x)).length+(if cL x % 4=2 then aq x.tb.toNat else []).length)) = .ok (x.o,a+(aq (cL x)).length+(if cL x % 4=2 then aq x.tb.toNat else []).length+(if cL x % 2=0 then fu x.o else []).length):=by
  by_cases q:cL x % 2=0
  ·rw [ap q,ap q]
   rw [ap q] at d2
   exact zT (h2 (f3.1 q)) j1 j2 b _ _ d2
  ·rw [ah q,ah q,(b2 (fun z=>q (f3.2 z))).2]
   rfl
 rw [s2,aM]
 have s3:∀k,b.drop k=(if cL x % 4=0 then [] else if cL x<4 then [0] else eD x.ty)++(aE (tT (cL x)) x.it++r)→(if cL x % 4=0 then (.ok (3,k):Rd Int) else if cL x<4 then eU (gB b k) fun y k3=>if y=0 then .ok (3,k3) else .error (4,k3) else gV b k) = .ok (x.ty,k+(if cL x % 4=0 then [] else if cL x<4 then [0] else eD x.ty).length):=by
  intro k hk
  by_cases q:cL x % 4=0
  ·rw [ap q,ap q,show x.ty=3 by
    by_cases w:x.ty=3
    ·exact w
    ·exact absurd (.inr w) (f4.1 q).2]
   rfl
  ·rw [ah q] at hk ⊢
   rw [ah q]
   by_cases w:cL x<4
   ·rw [ap w] at hk ⊢
    rw [ap w,wI hk,aM,ap rfl,hty w]
    rfl
   ·rw [ah w] at hk ⊢
    rw [ah w]
    exact zS hv b k _ hk
 rw [s3 _ d3,aM]
 have s4:=ji (one:=Z1 (cL x)) (enc:=tT (cL x)) (l:=x.it) (most:=256) (by omega) (by decide) (fun l hl=>Xa (fun q=>hrf q l hl) (h3 l hl) (qR (hi l hl) (hn2 l hl)).1 (hi l hl).1) b _ _ d4
 rw [s4,aM,f6]
 simp only [bE]
 congr 2
 omega
def B4 (r:List (Nat×Int)):List Int:=r.flatMap fun p=>List.replicate p.1 p.2
theorem On (t:Int):∀l:List Int,l.take (same t l)=List.replicate (same t l) t
 | []=>rfl
 | x :: l=>by
  rw [same]
  by_cases h:x=t
  ·rw [ap h,List.take_succ_cons,On t l,List.replicate_succ,h]
  ·rw [ah h];rfl
theorem vk:∀(f:Nat) (l:List Int),l.length≤f→B4 (Cq f l)=l
 | 0,l,h=>by
  have:l=[]:=sc (by omega)
  subst this
  rfl
 | f+1,[],h=>rfl
 | f+1,x :: l,h=>by
  rw [eA] at h
  have h1:=vk f (l.drop (same x l)) (by rw [iE];omega)
  rw [Cq]
  unfold B4 at h1 ⊢
  rw [pk,h1,List.replicate_succ,← On,jR,List.take_append_drop]
theorem DD:∀(f:Nat) (l:List Int),∀p∈Cq f l,1≤p.1∧p.2∈l
 | 0,l,p,h=>by cases h
 | f+1,[],p,h=>by cases h
 | f+1,x :: l,p,h=>by
  rw [Cq] at h
  rcases dc.1 h with rfl | h
  ·exact ⟨by simp,by simp⟩
  ·obtain ⟨h1,h2⟩:=DD f _ p h
   exact ⟨h1,List.mem_cons_of_mem _ (List.mem_of_mem_drop h2)⟩
theorem uB:∀(f:Nat) (l:List Int),(Cq f l).length≤l.length
 | 0,l=>cX _
 | f+1,[]=>bt _
 | f+1,x :: l=>by
  have:=uB f (l.drop (same x l))
  rw [iE] at this
  rw [Cq,eA,eA]
  omega
theorem Nx:∀(rs:List (Nat×Int)) (b:List UInt8) (a:Nat) (r:List UInt8) (acc:List Int),(∀p∈rs,m5 p.2=true)→acc.length+(B4 rs).length≤64→b.drop a=rs.flatMap tU++r→VJ rs.length b a acc = .ok (acc++B4 rs,a+(rs.flatMap tU).length)
 | [],b,a,r,acc,_,_,_=>by simp [VJ,B4]
 | p :: rs,b,a,r,acc,hv,hl,hd=>by
  have e1:B4 (p :: rs)=List.replicate p.1 p.2++B4 rs:=by simp [B4]
  rw [e1,bE,List.length_replicate] at hl
  rw [pk,du] at hd
  have hd0:=hd
  unfold tU at hd0
  rw [du] at hd0
  have d1:=bD hd0
  have d2:=bD hd
  rw [eA,VJ,c_ (by omega) hd0,aM,zS (hv p (by simp)) b _ _ d1,aM,ah (by omega)]
  have e2:a+(aq p.1).length+(eD p.2).length=a+(tU p).length:=by unfold tU;rw [bE];omega
  rw [e2,Nx rs b _ r (acc++List.replicate p.1 p.2) (fun q hq=>hv q (by simp [hq])) (by rw [bE,List.length_replicate];omega) d2,e1,pk,bE,du,kI]
theorem afp {x:Cd} (h:Qs x=0):rP x.t=true∧x.lo.length≤64∧∀t∈x.lo,m5 t=true:=by
 unfold Qs at h
 by_cases h1:rP x.t=false
 ·rw [ap h1] at h;cases h
 rw [ah h1] at h
 by_cases h2:x.lo.length>64
 ·rw [ap h2] at h;cases h
 rw [ah h2] at h
 by_cases h3:pu x.lo=false
 ·rw [ap h3] at h;cases h
 have:pu x.lo=true:=by simpa using h3
 unfold pu at this
 exact ⟨by simpa using h1,by omega,fg.1 this⟩
theorem Sd {x:Cd} (h1:x.lo.length≤64) (h2:∀t∈x.lo,m5 t=true) (h3:mq x.b) (h4:Jq x.b) (h5:x.b.length≤2048):LV (iF x) = .ok ((x.lo,x.b),(iF x).length):=by
 have hl:=uB x.lo.length x.lo
 have hd:(iF x).drop 0=aq (iZ x.lo).length++((iZ x.lo).flatMap tU++(fu x.b++[])):=by simp [iF,GG,aE]
 have d1:=bD hd
 have d2:=bD d1
 have he:=vk x.lo.length x.lo (bt _)
 unfold LV
 rw [GV (n:=(iZ x.lo).length) (by unfold iZ;omega) (by unfold iZ;omega) hd,aM,Nx (iZ x.lo) _ _ _ [] (fun p hp=>h2 _ (DD _ _ p hp).2) (by unfold iZ;rw [he];simpa using h1) d1,aM,zT h3 h4 h5 _ _ _ d2,aM]
 have e:0+(aq (iZ x.lo).length).length+((iZ x.lo).flatMap tU).length+(fu x.b).length=(iF x).length:=by
  unfold iF GG aE
  simp only [bE]
  omega
 rw [e,ap rfl]
 unfold iZ
 rw [he]
 rfl
theorem WZ {x:Cd} (h1:x.lo.length≤64) (h2:∀t∈x.lo,m5 t=true) (h3:mq x.b) (h4:Jq x.b) (h5:x.b.length≤2048) (h6:(iF x).length<4294967296) {b r:List UInt8} {a:Nat} (hd:b.drop a=fq x++r):Sc b a = .ok ((x.lo,x.b),a+(fq x).length):=by
 unfold fq at hd ⊢
 rw [du] at hd
 have d1:=bD hd
 have hl:=x9 hd (kw _)
 rw [bE] at hl
 unfold Sc
 rw [c_ h6 hd,aM,ah (by omega),d1,List.take_left,Sd h1 h2 h3 h4 h5]
 simp only [bE,kI]
theorem JP (op:Int) (h:yM op=true):(kW op).length≤6:=by
 rcases zX h with h | h
 ·unfold kW;rw [ah (by omega)];simp
 ·unfold kW;rw [ap (by omega),eA]
  have:=cG (n:=(op - 64512).toNat) (by omega)
  omega
theorem aat {x:aZ} (h:PL x=true):yM x.op=true:=by
 unfold PL th at h
 simp only [cC] at h
 exact h.1
theorem YI {x:aZ} {l:List UInt8} {e:Int} (h:PL x=true) (hs:¬(sZ x.op=3∧4294967296≤x.lb.length)):Ah x l e=(wB (e==0) (wB (e==0) l (kW x.op)) (jm (sZ x.op) x),e):=by
 unfold Ah
 rw [ap h,ah hs,BZ]
 rfl
theorem Uj {x:aZ} {l:List UInt8} {e:Int} (h:PL x=true) (hs:sZ x.op=3∧4294967296≤x.lb.length):Ah x l e=(wB (e==0) l (kW x.op),if (true&&e==0)=true then 1 else e):=by
 unfold Ah
 rw [ap h,ap hs,bU]
 by_cases he:e=0
 ·subst he;rfl
 ·rw [ah he,gy.2 he];rfl
theorem YH {x:aZ} {l:List UInt8} {e:Int} (h:PL x=false):Ah x l e=(l,if (true&&e==0)=true then 10 else e):=by
 unfold Ah
 rw [ah (by rw [h];decide),bU]
 by_cases he:e=0
 ·subst he;rfl
 ·rw [ah he,gy.2 he];rfl
section
variable {l:List UInt8} {e:Int} (hl:l.length<1000000000)
include hl
attribute [local go_sem] ro wo wa wx rx dE d_ aW
theorem ag0 (x:aZ) (hn:0≤x.n) (hlb:x.lb.length≤9223372036854775807):WM wK [dJ x] true l e (.tup []) (Ah x l e).1 (Ah x l e).2:=by
 refine bF li ?_
 have a1:=K7 x (sZ x.op) (nR _) (Hp x.op).2.2.1 (by omega)
 rw [(Hp x.op).1,aas _ (nR _) _ _ hn] at a1
 replace a1:ao pg cz [dJ x] (.bool (PL x)):=a1
 simp only [dE] at a1
 cases hp:PL x
 ·rw [hp] at a1
  rw [YH hp]
  simp only [go_sem,li]
  refine aa (a1) ?_
  refine aR [] (k:=1000) (j:=2000) (n_ true l e 10) ?_
  simp only [go_sem]
  exact jG [] _ [(1000,wo 2000 true l (if (true&&e==0)=true then 10 else e)),(2000,wa l)] ⟨rfl,rfl⟩
 rw [hp] at a1
 have hk:=aat hp
 have hol:=JP x.op hk
 have hc:=U2 x.op
 rw [(Hp x.op).2.2.1] at hc
 have hi:=nR x.op
 have hko:=zX hk
 have hQ:(¬(sZ x.op=3∧4294967296≤x.lb.length)∧Ah x l e=(wB (e==0) (wB (e==0) l (kW x.op)) (jm (sZ x.op) x),e))∨((sZ x.op=3∧4294967296≤x.lb.length)∧Ah x l e=(wB (e==0) l (kW x.op),if (true&&e==0)=true then 1 else e)):=by
  by_cases hs:sZ x.op=3∧4294967296≤x.lb.length
  ·exact .inr ⟨hs,Uj hp hs⟩
  ·exact .inl ⟨hs,YI hp hs⟩
 generalize hq:Ah x l e=q at *
 clear hq
 obtain ⟨op,a0,b0,n,k,v,z,ty,lb⟩:=x
 simp only at a1 hn hlb hk hol hc hi hko hQ
 unfold PL th k_ at hp
 simp only [hk,bU] at hp
 have hO:(op≥64512∧∃m:Nat,m<256∧IntKind.i64.wrap (op - 64512)=(m:Int)∧wB (e==0) l (kW op)=wB (e==0) (wB (e==0) l [252]) (aq m))∨(¬op≥64512∧∃y:UInt8,IntKind.u8.wrap op=(y.toNat:Int)∧wB (e==0) l (kW op)=wB (e==0) l [y]):=by
  rcases hko with h | h
  ·refine .inr ⟨by omega,UInt8.ofNat op.toNat,?_,?_⟩
   ·rw [ofNat_toNat (by omega),Fv];omega
   ·unfold kW;rw [ah (by omega)]
  ·refine .inl ⟨by omega,(op - 64512).toNat,by omega,?_,?_⟩
   ·rw [wi (by omega) (by omega)];omega
   ·rw [BZ];unfold kW;rw [ap (by omega)];rfl
 have hl1:=qn (ok:=e==0) (l:=l) (x:=kW op)
 replace hl1:(wB (e==0) l (kW op)).length<1100000000:=by omega
 generalize sZ op=i at *
 clear hko hk hol
 generalize wB (e==0) l (kW op)=l1 at *
 rcases hO with ⟨ho,m,hm,hw,rfl⟩ | ⟨ho,y,hw,rfl⟩
 have b1:=qn (ok:=e==0) (l:=l) (x:=[252])
 rw [cM] at b1
 simp only [go_sem,li]
 refine ax (a1) ?_
 simp only [go_sem,aO ho]
 refine aR [] (k:=1000) (j:=2000) (vA true l 252 e (by omega)) ?_
 simp only [go_sem,hw,bU]
 refine aR [] (k:=1000) (j:=2000) (s_ (l:=wB (e==0) l [252]) (e:=e) (by omega) m (by omega)) ?_
 simp only [go_sem]
 refine ax (hc) ?_
 clear hw a1 hc
 generalize wB (e==0) (wB (e==0) l [252]) (aq m)=l1 at *
 rotate_left
 simp only [go_sem,li]
 refine ax (a1) ?_
 simp only [go_sem,aQ ho,hw]
 refine aR [] (k:=1000) (j:=2000) (vA true l y e (by omega)) ?_
 simp only [go_sem,bU]
 refine ax (hc) ?_
 clear hw a1 hc
 generalize wB (e==0) l [y]=l1 at *
 all_goals
  rcases (show i=0∨i=1∨i=2∨i=3∨i=4∨i=5∨i=6∨i=7∨i=8∨i=9∨i=10∨i=11∨i=12∨i=13∨i=14∨i=15∨i=16∨i=17∨i=18∨i=19∨i=20 by omega) with rfl | rfl | rfl | rfl | rfl | rfl | rfl | rfl | rfl | rfl | rfl | rfl | rfl | rfl | rfl | rfl | rfl | rfl | rfl | rfl | rfl
  all_goals
   simp only [Int.reduceEq,Int.reduceBEq,false_or,or_false,or_true,true_or,or_self,aF,bc,eC,eE,bU,cC,beq_iff_eq,rg,decide_eq_false_iff_not,fo,qr] at hp
  all_goals try (rcases hQ with ⟨_,rfl⟩ | ⟨⟨h,_⟩,_⟩;rotate_left;omega)
  ·simp only [go_sem]
   have h0:wB (e==0) l1 (jm 0 ⟨op,a0,b0,n,k,v,z,ty,lb⟩)=l1:=ahv _ _
   rw [h0]
   exact cN [] _ [(1000,wo 2000 true l1 e),(2000,wa l1)] ⟨rfl,rfl⟩
  ·obtain ⟨hlb,hty,rfl,rfl,rfl,hb⟩:=hp
   simp only [go_sem]
   refine aR [] (k:=1000) (j:=2000) (MJ (l:=l1) (e:=e) (by omega) k v z hb) ?_
   simp only [go_sem]
   exact cN [] _ [(1000,wo 2000 true (wB (e==0) l1 (zM k v z)) e),(2000,wa (wB (e==0) l1 (zM k v z)))] ⟨rfl,rfl⟩
  ·obtain ⟨⟨rfl,rfl,rfl⟩,hlb,hty,ha,rfl,rfl⟩:=hp
   obtain ⟨m,rfl,hm⟩:=cE ha
   simp only [go_sem]
   refine aR [] (k:=1000) (j:=2000) (s_ (l:=l1) (e:=e) (by omega) m hm) ?_
   simp only [go_sem]
   exact cN [] _ [(1000,wo 2000 true (wB (e==0) l1 (aq m)) e),(2000,wa (wB (e==0) l1 (aq m)))] ⟨rfl,rfl⟩
  ·obtain ⟨⟨rfl,rfl,rfl⟩,hty,ha,rfl,rfl,hal⟩:=hp
   obtain ⟨m,rfl,hm⟩:=cE ha
   rcases hQ with ⟨hs,rfl⟩ | ⟨⟨_,hs⟩,rfl⟩
   ·have hs':lb.length<4294967296:=Nat.lt_of_not_le fun h=>hs ⟨rfl,h⟩
    have c1:=cG (n:=lb.length) hs'
    have c2:=ya hal
    have b1:=qn (ok:=e==0) (l:=l1) (x:=aq lb.length)
    have b2:=qn (ok:=e==0) (l:=l1) (x:=aq lb.length++fj lb)
    rw [bE] at b2
    simp only [go_sem]
    refine aR [] (k:=1000) (j:=2000) (s_ (e:=e) (l:=l1) (by omega) lb.length (by omega)) ?_
    simp only [go_sem]
    refine aR [] (k:=1000) (j:=2000) (uE (l:=wB (e==0) l1 (aq lb.length)) (e:=e) (by omega) lb hal hlb (fun _=>by omega)) ?_
    simp only [go_sem,BZ]
    refine aR [] (k:=1000) (j:=2000) (s_ (l:=wB (e==0) l1 (aq lb.length++fj lb)) (e:=e) (by omega) m hm) ?_
    simp only [go_sem,BZ]
    exact cN [] _ [(1000,wo 2000 true (wB (e==0) l1 (aq lb.length++fj lb++aq m)) e),(2000,wa (wB (e==0) l1 (aq lb.length++fj lb++aq m)))] ⟨rfl,rfl⟩
   ·have hcu:=I7 true l1 e (lb.length:Int) (by omega)
    rw [show wU (true&&e==0) l1 e (lb.length:Int)=(l1,if (true&&e==0)=true then 1 else e) by unfold wU;cases (true&&e==0)<;>simp;omega] at hcu
    have he1:(if (true&&e==0)=true then (1:Int) else e)≠0:=by
     by_cases he:e=0
     ·subst he;decide
     ·rw [ay he];exact he
    generalize (if (true&&e==0)=true then (1:Int) else e)=e1 at *
    have hz:∀y,wB (e1==0) l1 y=l1:=fun y=>by rw [ay he1];rfl
    have hp1:=uE (l:=l1) (e:=e1) (by omega) lb hal hlb (fun h=>absurd h he1)
    have hp2:=s_ (l:=l1) (e:=e1) (by omega) m hm
    rw [hz] at hp1 hp2
    simp only [go_sem]
    refine aR [] (k:=1000) (j:=2000) (hcu) ?_
    simp only [go_sem]
    refine aR [] (k:=1000) (j:=2000) (hp1) ?_
    simp only [go_sem]
    refine aR [] (k:=1000) (j:=2000) (hp2) ?_
    simp only [go_sem]
    exact cN [] _ [(1000,wo 2000 true l1 e1),(2000,wa l1)] ⟨rfl,rfl⟩
  ·obtain ⟨⟨rfl,rfl,rfl⟩,hlb,hty,ha,rfl,rfl⟩:=hp
   obtain ⟨m,rfl,hm⟩:=cE ha
   simp only [go_sem]
   refine aR [] (k:=1000) (j:=2000) (s_ (l:=l1) (e:=e) (by omega) m hm) ?_
   simp only [go_sem]
   exact cN [] _ [(1000,wo 2000 true (wB (e==0) l1 (aq m)) e),(2000,wa (wB (e==0) l1 (aq m)))] ⟨rfl,rfl⟩
  ·obtain ⟨⟨rfl,rfl,rfl⟩,hlb,hty,ha,hb,rfl⟩:=hp
   have hps:=uE (l:=l1) (e:=e) (by omega) [a0,b0] (by simp only [List.all_cons,List.all_nil,ha,hb,Bool.and_self]) (by simp) (fun _=>by simp;omega)
   have hEn:fj [a0,b0]=aq a0.toNat++aq b0.toNat:=by simp [fj]
   rw [hEn] at hps
   simp only [go_sem]
   refine dX [81] (k:=1000) (j:=2000) (hps) (by decide) (by decide) (by decide) (by decide) (by first | rfl | simp [go_sem,bX]) (by simp [go_sem]) ?_ (by rfl) (by rfl) ?_
   ·simp only [go_sem];try simp [go_sem,d_]
   simp only [go_sem]
   exact cN [] _ [(1000,wo 2000 true (wB (e==0) l1 (aq a0.toNat++aq b0.toNat)) e),(2000,wa (wB (e==0) l1 (aq a0.toNat++aq b0.toNat)))] ⟨rfl,rfl⟩
  ·obtain ⟨⟨rfl,rfl,rfl⟩,hlb,rfl,rfl,rfl,hlen,hv⟩:=hp
   have b1:=qn (ok:=e==0) (l:=l1) (x:=aq 1)
   have c1:=cG (n:=1) (by omega)
   simp only [go_sem]
   refine aR [] (k:=1000) (j:=2000) (s_ (e:=e) (l:=l1) (by omega) 1 (by omega)) ?_
   simp only [go_sem]
   refine ⟨by decide,by omega,?_⟩
   refine aR [] (k:=1000) (j:=2000) (yU (l:=wB (e==0) l1 (aq 1)) (e:=e) (by omega) (ac ty 0) hv) ?_
   simp only [go_sem,BZ]
   exact cN [] _ [(1000,wo 2000 true (wB (e==0) l1 (aq 1++[(vo (ac ty 0)).1])) e),(2000,wa (wB (e==0) l1 (aq 1++[(vo (ac ty 0)).1])))] ⟨rfl,rfl⟩
  ·obtain ⟨⟨rfl,rfl,rfl⟩,hlb,hty,ha,rfl,rfl⟩:=hp
   obtain ⟨m,rfl,hm⟩:=cE ha
   simp only [go_sem]
   refine aR [] (k:=1000) (j:=2000) (s_ (l:=l1) (e:=e) (by omega) m hm) ?_
   simp only [go_sem]
   exact cN [] _ [(1000,wo 2000 true (wB (e==0) l1 (aq m)) e),(2000,wa (wB (e==0) l1 (aq m)))] ⟨rfl,rfl⟩
  ·obtain ⟨⟨rfl,rfl,rfl⟩,hlb,hty,ha,rfl,rfl⟩:=hp
   obtain ⟨m,rfl,hm⟩:=cE ha
   simp only [go_sem]
   refine aR [] (k:=1000) (j:=2000) (s_ (l:=l1) (e:=e) (by omega) m hm) ?_
   simp only [go_sem]
   exact cN [] _ [(1000,wo 2000 true (wB (e==0) l1 (aq m)) e),(2000,wa (wB (e==0) l1 (aq m)))] ⟨rfl,rfl⟩
  ·obtain ⟨⟨rfl,rfl,rfl⟩,hlb,hty,ha,rfl,rfl⟩:=hp
   obtain ⟨m,rfl,hm⟩:=cE ha
   simp only [go_sem]
   refine aR [] (k:=1000) (j:=2000) (s_ (l:=l1) (e:=e) (by omega) m hm) ?_
   simp only [go_sem]
   exact cN [] _ [(1000,wo 2000 true (wB (e==0) l1 (aq m)) e),(2000,wa (wB (e==0) l1 (aq m)))] ⟨rfl,rfl⟩
  ·obtain ⟨⟨rfl,rfl,rfl⟩,hlb,hty,ha,hb,rfl⟩:=hp
   have hps:=uE (l:=l1) (e:=e) (by omega) [a0,b0] (by simp only [List.all_cons,List.all_nil,ha,hb,Bool.and_self]) (by simp) (fun _=>by simp;omega)
   have hEn:fj [a0,b0]=aq a0.toNat++aq b0.toNat:=by simp [fj]
   rw [hEn] at hps
   simp only [go_sem]
   refine dX [81] (k:=1000) (j:=2000) (hps) (by decide) (by decide) (by decide) (by decide) (by first | rfl | simp [go_sem,bX]) (by simp [go_sem]) ?_ (by rfl) (by rfl) ?_
   ·simp only [go_sem];try simp [go_sem,d_]
   simp only [go_sem]
   exact cN [] _ [(1000,wo 2000 true (wB (e==0) l1 (aq a0.toNat++aq b0.toNat)) e),(2000,wa (wB (e==0) l1 (aq a0.toNat++aq b0.toNat)))] ⟨rfl,rfl⟩
  ·obtain ⟨⟨rfl,rfl,rfl⟩,hlb,hty,ha,hb,rfl⟩:=hp
   have hps:=uE (l:=l1) (e:=e) (by omega) [a0,b0] (by simp only [List.all_cons,List.all_nil,ha,hb,Bool.and_self]) (by simp) (fun _=>by simp;omega)
   have hEn:fj [a0,b0]=aq a0.toNat++aq b0.toNat:=by simp [fj]
   rw [hEn] at hps
   simp only [go_sem]
   refine dX [81] (k:=1000) (j:=2000) (hps) (by decide) (by decide) (by decide) (by decide) (by first | rfl | simp [go_sem,bX]) (by simp [go_sem]) ?_ (by rfl) (by rfl) ?_
   ·simp only [go_sem];try simp [go_sem,d_]
   simp only [go_sem]
   exact cN [] _ [(1000,wo 2000 true (wB (e==0) l1 (aq a0.toNat++aq b0.toNat)) e),(2000,wa (wB (e==0) l1 (aq a0.toNat++aq b0.toNat)))] ⟨rfl,rfl⟩
  ·obtain ⟨⟨rfl,rfl,rfl⟩,hlb,hty,ha,rfl,rfl⟩:=hp
   obtain ⟨m,rfl,hm⟩:=cE ha
   simp only [go_sem]
   refine aR [] (k:=1000) (j:=2000) (s_ (l:=l1) (e:=e) (by omega) m hm) ?_
   simp only [go_sem]
   exact cN [] _ [(1000,wo 2000 true (wB (e==0) l1 (aq m)) e),(2000,wa (wB (e==0) l1 (aq m)))] ⟨rfl,rfl⟩
  ·obtain ⟨⟨rfl,rfl,rfl⟩,hlb,hty,rfl,hb,rfl⟩:=hp
   obtain ⟨m,rfl,hm⟩:=cE hb
   simp only [go_sem]
   refine aR [] (k:=1000) (j:=2000) (s_ (l:=l1) (e:=e) (by omega) m hm) ?_
   simp only [go_sem]
   exact cN [] _ [(1000,wo 2000 true (wB (e==0) l1 (aq m)) e),(2000,wa (wB (e==0) l1 (aq m)))] ⟨rfl,rfl⟩
  ·obtain ⟨⟨rfl,rfl,rfl⟩,hlb,hty,ha,hb,rfl⟩:=hp
   have hps:=uE (l:=l1) (e:=e) (by omega) [a0,b0] (by simp only [List.all_cons,List.all_nil,ha,hb,Bool.and_self]) (by simp) (fun _=>by simp;omega)
   have hEn:fj [a0,b0]=aq a0.toNat++aq b0.toNat:=by simp [fj]
   rw [hEn] at hps
   simp only [go_sem]
   refine dX [81] (k:=1000) (j:=2000) (hps) (by decide) (by decide) (by decide) (by decide) (by first | rfl | simp [go_sem,bX]) (by simp [go_sem]) ?_ (by rfl) (by rfl) ?_
   ·simp only [go_sem];try simp [go_sem,d_]
   simp only [go_sem]
   exact cN [] _ [(1000,wo 2000 true (wB (e==0) l1 (aq a0.toNat++aq b0.toNat)) e),(2000,wa (wB (e==0) l1 (aq a0.toNat++aq b0.toNat)))] ⟨rfl,rfl⟩
  ·obtain ⟨⟨rfl,rfl,rfl⟩,hlb,hty,ha,hb,rfl⟩:=hp
   have hps:=uE (l:=l1) (e:=e) (by omega) [a0,b0] (by simp only [List.all_cons,List.all_nil,ha,hb,Bool.and_self]) (by simp) (fun _=>by simp;omega)
   have hEn:fj [a0,b0]=aq a0.toNat++aq b0.toNat:=by simp [fj]
   rw [hEn] at hps
   simp only [go_sem]
   refine dX [81] (k:=1000) (j:=2000) (hps) (by decide) (by decide) (by decide) (by decide) (by first | rfl | simp [go_sem,bX]) (by simp [go_sem]) ?_ (by rfl) (by rfl) ?_
   ·simp only [go_sem];try simp [go_sem,d_]
   simp only [go_sem]
   exact cN [] _ [(1000,wo 2000 true (wB (e==0) l1 (aq a0.toNat++aq b0.toNat)) e),(2000,wa (wB (e==0) l1 (aq a0.toNat++aq b0.toNat)))] ⟨rfl,rfl⟩
  ·obtain ⟨⟨rfl,rfl,rfl⟩,hlb,hty,ha,rfl,rfl⟩:=hp
   obtain ⟨m,rfl,hm⟩:=cE ha
   simp only [go_sem]
   refine aR [] (k:=1000) (j:=2000) (s_ (l:=l1) (e:=e) (by omega) m hm) ?_
   simp only [go_sem]
   exact cN [] _ [(1000,wo 2000 true (wB (e==0) l1 (aq m)) e),(2000,wa (wB (e==0) l1 (aq m)))] ⟨rfl,rfl⟩
  ·obtain ⟨⟨rfl,rfl,rfl⟩,hlb,hty,ha1,ha2,hb,hn2⟩:=hp
   obtain ⟨m3,rfl⟩:=Bt hn
   have w3:IntKind.i64.wrap (m3:Int)=(m3:Int):=wi (by omega) (by omega)
   by_cases h0:b0=0
   ·subst h0
    obtain ⟨m,rfl⟩:=Bt ha1
    have b1:=qn (ok:=e==0) (l:=l1) (x:=aq m)
    have c1:=cG (n:=m) (by omega)
    simp only [go_sem]
    refine aR [] (k:=1000) (j:=2000) (s_ (e:=e) (l:=l1) (by omega) m (by omega)) ?_
    simp only [go_sem,w3]
    refine aR [] (k:=1000) (j:=2000) (s_ (l:=wB (e==0) l1 (aq m)) (e:=e) (by omega) m3 (by omega)) ?_
    simp only [go_sem,BZ]
    exact cN [] _ [(1000,wo 2000 true (wB (e==0) l1 (aq m++aq m3)) e),(2000,wa (wB (e==0) l1 (aq m++aq m3)))] ⟨rfl,rfl⟩
   ·have hE:jm 17 ⟨op,a0,b0,m3,0,0,0,ty,lb⟩=aq (a0+64).toNat++aq b0.toNat++aq m3:=by
     simp only [jm,Int.reduceEq,false_or,or_false,or_true,true_or,or_self,aF,bc,h0,ce]
    have w1:IntKind.i64.wrap (a0+64)=a0+64:=wi (by omega) (by omega)
    have h64:pq (a0+64)=true:=by simp only [pq,cC,fo];omega
    have hps:=uE (l:=l1) (e:=e) (by omega) [a0+64,b0] (by simp only [List.all_cons,List.all_nil,hb,h64,Bool.and_self]) (by simp) (fun _=>by simp;omega)
    have hEn:fj [a0+64,b0]=aq (a0+64).toNat++aq b0.toNat:=by simp [fj]
    have hb':b0≥0∧b0<4294967296:=by simpa only [pq,cC,fo] using hb
    have b1:=qn (ok:=e==0) (l:=l1) (x:=aq (a0+64).toNat++aq b0.toNat)
    have c1:=cG (n:=(a0+64).toNat) (by omega)
    have c2:=cG (n:=b0.toNat) (by omega)
    rw [bE] at b1
    rw [hEn] at hps
    rw [hE]
    simp only [go_sem,ay h0,w1]
    refine dX [108] (k:=1000) (j:=2000) (hps) (by decide) (by decide) (by decide) (by decide) (by first | rfl | simp [go_sem,bX]) (by simp [go_sem]) ?_ (by rfl) (by rfl) ?_
    ·simp only [go_sem];try simp [go_sem,d_]
    simp only [go_sem,w3]
    refine aR [] (k:=1000) (j:=2000) (s_ (l:=wB (e==0) l1 (aq (a0+64).toNat++aq b0.toNat)) (e:=e) (by omega) m3 (by omega)) ?_
    simp only [go_sem,BZ]
    exact cN [] _ [(1000,wo 2000 true (wB (e==0) l1 (aq (a0+64).toNat++aq b0.toNat++aq m3)) e),(2000,wa (wB (e==0) l1 (aq (a0+64).toNat++aq b0.toNat++aq m3)))] ⟨rfl,rfl⟩
  ·obtain ⟨⟨rfl,rfl,rfl⟩,hlb,hty,rfl,rfl,hn2⟩:=hp
   simp only [go_sem]
   refine aR [] (k:=1000) (j:=2000) (adM true l1 e (by omega) n) ?_
   simp only [go_sem,bU,wS]
   exact cN [] _ [(1000,wo 2000 true (wB (e==0) l1 (br (K5 n))) e),(2000,wa (wB (e==0) l1 (br (K5 n))))] ⟨rfl,rfl⟩
  ·obtain ⟨⟨rfl,rfl,rfl⟩,hlb,hty,rfl,rfl⟩:=hp
   simp only [go_sem]
   refine aR [] (k:=1000) (j:=2000) (adO true l1 e (by omega) n) ?_
   simp only [go_sem,bU,wS]
   exact cN [] _ [(1000,wo 2000 true (wB (e==0) l1 (br (IntKind.i64.wrap n))) e),(2000,wa (wB (e==0) l1 (br (IntKind.i64.wrap n))))] ⟨rfl,rfl⟩
  ·obtain ⟨⟨rfl,rfl,rfl⟩,hlb,hty,ha,rfl,rfl⟩:=hp
   have hv:FL a0=true:=by rcases ha with rfl | rfl<;>rfl
   simp only [go_sem]
   refine aR [] (k:=1000) (j:=2000) (yU (l:=l1) (e:=e) (by omega) a0 hv) ?_
   simp only [go_sem]
   exact cN [] _ [(1000,wo 2000 true (wB (e==0) l1 ([(vo a0).1])) e),(2000,wa (wB (e==0) l1 ([(vo a0).1])))] ⟨rfl,rfl⟩
end
section
attribute [local go_sem] ro wo wa wx rx dE d_ aW
section
variable {l:List UInt8} (hl:l.length<2000000000)
include hl
end
end
section
variable {l:List UInt8} {e:Int} (hl:l.length<1000000000)
include hl
attribute [local go_sem] ro wo wa wx rx dE d_ aW
end
end Go.Proofs.YtdfofedlbljnhaaGreatDoor