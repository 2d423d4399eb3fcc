import Derived.Test.YteephfapgoncgaaGreatDoorUQf
set_option linter.all false
set_option maxRecDepth 100000
set_option maxHeartbeats 40000000
namespace Go.Proofs.YteephfapgoncgaaGreatDoor
open Go Go.Mw
def N9 (x:Int×Int):List AV:=[.int .i64 x.1,.int .i64 x.2]
theorem KJ (x:Int×Int):N9 x=[.int .i64 x.1,.int .i64 x.2]:=rfl
attribute [go_sem] KJ
theorem i64_in (x:Int):RM (IntKind.i64.wrap x):=by unfold RM;rw [Nv];omega
section
variable (m:Bool) (l:List UInt8) (e:Int) (hl:l.length<50000000000)
include hl
end
section
variable (l:List UInt8) (e:Int) (hl:l.length<45000000000)
include hl
end
structure Nm where
 i:Int
 s:List UInt8
instance:Inhabited Nm:=⟨⟨0,[]⟩⟩
deriving instance DecidableEq for Nm
structure Lc where
 f:Int
 l:List Nm
instance:Inhabited Lc:=⟨⟨0,[]⟩⟩
deriving instance DecidableEq for Lc
structure Ns where
 m:List UInt8
 fs:List Nm
 ls:List Lc
instance:Inhabited Ns:=⟨⟨[],[],[]⟩⟩
deriving instance DecidableEq for Ns
def MZ (n:Nm):List AV:=[.int .i64 n.i,.str n.s]
def P4 (x:Lc):List AV:=[.int .i64 x.f,.sl 2 (x.l.map MZ)]
def Su (x:Ns):List AV:=[.str x.m,.sl 2 (x.fs.map MZ),.sl 2 (x.ls.map P4)]
def Sv (x:Ns):AV:=.agg (Su x)
theorem Q7 (n:Nm):MZ n=[.int .i64 n.i,.str n.s]:=rfl
theorem P5 (x:Lc):P4 x=[.int .i64 x.f,.sl 2 (x.l.map MZ)]:=rfl
theorem Q8 (x:Ns):Sv x = .agg [.str x.m,.sl 2 (x.fs.map MZ),.sl 2 (x.ls.map P4)]:=rfl
attribute [go_sem] Q7 P5 Q8
def r9 (i:Int):Bool:=decide (0≤i)&&decide (i<4294967296)
def nB (l:List Nm):Int:=match l.getLast? with
 | some n=>n.i
 | none=>0
def PW:List Nm→Int→List UInt8
 | [],_=>[]
 | n :: r,i=>if n.i=i then n.s else PW r i
theorem pK {α:Type} [Inhabited α] {l:List α} {i:Nat} (h:i<l.length):l.drop i=ac l i :: l.drop (i+1):=by
 rw [bD h,List.drop_eq_getElem_cons h]
theorem tx {α:Type} [Inhabited α] {l:List α} {i:Nat} (h:i<l.length):l.take (i+1)=l.take i++[ac l i]:=by rw [List.take_add_one,cO h,Option.toList_some]
theorem iX {α:Type} {l:List α} {i:Nat} (h:l.length≤i):l.drop i=[]:=List.drop_eq_nil_of_le h
section
deriving instance DecidableEq for cS,Ft,Lm,Gl,Im,Cd,Tb,Gd,Ex,El,Da,Cu,Md
theorem uG {a b:List Int} (hl:a.length=b.length) (h:∀k,k<a.length→ac a k=ac b k):a=b:=by
 apply List.ext_getElem hl
 intro i h1 h2
 have:=h i h1
 rwa [bD h1,bD h2] at this
def sI (x y:cS):Bool:=(x.op==y.op)&&((x.a==y.a)&&((x.b==y.b)&&((x.n==y.n)&&(((x.k==y.k)&&((x.v==y.v)&&(x.x==y.x)))&&((x.ty==y.ty)&&(x.lb==y.lb))))))
attribute [local go_sem] dc FO fz
theorem Nb (x y:cS):sI x y=decide (x=y):=by
 obtain ⟨a1,a2,a3,a4,a5,a6,a7,a8,a9⟩:=x
 obtain ⟨b1,b2,b3,b4,b5,b6,b7,b8,b9⟩:=y
 unfold sI
 by_cases h1:a1=b1<;>by_cases h2:a2=b2<;>by_cases h3:a3=b3<;>by_cases h4:a4=b4<;>by_cases h5:a5=b5<;>by_cases h6:a6=b6<;>by_cases h7:a7=b7<;>by_cases h8:a8=b8<;>by_cases h9:a9=b9<;>simp [h1,h2,h3,h4,h5,h6,h7,h8,h9]
theorem dz {j n:Nat} (h:j<n) (hn:n≤9223372036854775807):IntKind.i64.wrap ((j:Int)+1)=(j:Int)+1:=wi (by omega) (by omega)
theorem eP {α:Type} [Inhabited α] {a b:List α} (hl:a.length=b.length) (h:∀k,k<a.length→ac a k=ac b k):a=b:=by
 apply List.ext_getElem hl
 intro i h1 h2
 have:=h i h1
 rwa [bD h1,bD h2] at this
end
section
theorem pd {x y:Im}:((x.m==y.m)&&((x.n==y.n)&&((x.k==y.k)&&((x.f==y.f)&&((x.te==y.te)&&((x.tl.mn==y.tl.mn)&&((x.tl.mx==y.tl.mx)&&((x.tl.hs==y.tl.hs)&&((x.me.mn==y.me.mn)&&((x.me.mx==y.me.mx)&&((x.me.hs==y.me.hs)&&((x.g.v==y.g.v)&&(x.g.mu==y.g.mu)))))))))))))=decide (x=y):=by
 obtain ⟨a1,a2,a3,a4,a5,⟨a6,a7,a8⟩,⟨a9,a10,a11⟩,⟨a12,a13⟩⟩:=x
 obtain ⟨b1,b2,b3,b4,b5,⟨b6,b7,b8⟩,⟨b9,b10,b11⟩,⟨b12,b13⟩⟩:=y
 rw [Bool.eq_iff_iff]
 simp only [dK,beq_iff_eq,j6,Im.mk.injEq,Lm.mk.injEq,Gl.mk.injEq,and_assoc]
theorem LV {x y:Lm}:((x.mn==y.mn)&&((x.mx==y.mx)&&(x.hs==y.hs)))=decide (x=y):=by
 obtain ⟨a1,a2,a3⟩:=x
 obtain ⟨b1,b2,b3⟩:=y
 rw [Bool.eq_iff_iff]
 simp only [dK,beq_iff_eq,j6,Lm.mk.injEq,and_assoc]
theorem Nn {x y:Tb}:((x.e==y.e)&&((x.l.mn==y.l.mn)&&((x.l.mx==y.l.mx)&&(x.l.hs==y.l.hs))))=decide (x=y):=by
 obtain ⟨a1,⟨a2,a3,a4⟩⟩:=x
 obtain ⟨b1,⟨b2,b3,b4⟩⟩:=y
 rw [Bool.eq_iff_iff]
 simp only [dK,beq_iff_eq,j6,Tb.mk.injEq,Lm.mk.injEq,and_assoc]
theorem Lu {x y:Ex}:((x.n==y.n)&&((x.k==y.k)&&(x.i==y.i)))=decide (x=y):=by
 obtain ⟨a1,a2,a3⟩:=x
 obtain ⟨b1,b2,b3⟩:=y
 rw [Bool.eq_iff_iff]
 simp only [dK,beq_iff_eq,j6,Ex.mk.injEq,and_assoc]
theorem rc {x y:Gl}:((x.v==y.v)&&(x.mu==y.mu))=decide (x=y):=by
 obtain ⟨a1,a2⟩:=x
 obtain ⟨b1,b2⟩:=y
 rw [Bool.eq_iff_iff]
 simp only [dK,beq_iff_eq,j6,Gl.mk.injEq]
attribute [local go_sem] fz bq ce bj cA cz bK cy bB bv dc aW
end
section
theorem KX {x y:List UInt8} (h:x=y):(x==y)=true:=by simpa using h
theorem NA {x y:List UInt8} (h:¬x=y):(x==y)=false:=by simpa using h
attribute [local go_sem] fz bq ce bj cA cz bK cy bB bv aW
end
section
attribute [local go_sem] fz bq ce bj cA cz bK cy bB bv aQ bn aW
end
section
def cw (a b:Md):Prop:=a.hs=b.hs∧(a.hs=true→a.st=b.st)∧a.ts=b.ts∧a.ims=b.ims∧a.fs=b.fs∧(a.tbs=b.tbs∧a.ms=b.ms)∧a.gs=b.gs∧a.exs=b.exs∧a.els=b.els∧a.ds=b.ds∧a.cs=b.cs
instance (a b:Md):Decidable (cw a b):=by unfold cw;exact inferInstance
theorem jI (a:Md):cw a a:=⟨rfl,fun _=>rfl,rfl,rfl,rfl,⟨rfl,rfl⟩,rfl,rfl,rfl,rfl,rfl⟩
attribute [local go_sem] fz fZ cA cz
end
section
theorem fE {n:Option Nat} {st row off:Nat} {t:TypeId} {rows:List (List AV)} {q:Bool} {r:List AV} (h:rows[row]? = some r):oz n st row off (some ⟨t,st,rows,q⟩)=gd n (r.drop off):=by simp [oz,h]
theorem gb {id n st row off:Nat} {t:TypeId} {rows:List (List AV)} {q:Bool} {cs r:List AV} (h:rows[row]? = some r) (h1:cs.length=n) (h2:(q||cs.all fC)=true) (h3:off+n≤r.length) :
  lc id n st row off (some ⟨t,st,rows,q⟩) (some cs)=some (.put id ⟨t,st,rows.set row (dN r off cs),q⟩):=by simp [lc,h,h1,h2,h3]
theorem fG {α:Type} [Inhabited α] {l:List α} {k:Nat} {x:α} (hk:k<l.length) (hx:x≠ac l k):l.set k x≠l:=fun e=>hx (by
 have:=congrArg (fun q=>q[k]?) e
 simp only [List.getElem?_set_self hk] at this
 rw [cO hk] at this
 exact Option.some.inj this)
theorem qm {k:IntKind} (hk:k.bits=64) (a:Int):gL k a 1≠a:=fun e=>by
 have e64:(2:Int) ^ 64=18446744073709551616:=by decide
 have h1:∀z:Int,k.wrap z % 2=z % 2:=fun z=>by
  unfold IntKind.wrap
  rw [hk,e64]
  dsimp only
  split<;>omega
 have h2:(((BitVec.ofInt 64 a ^^^ BitVec.ofInt 64 1).toNat:Nat):Int) % 2=(a+1) % 2:=by
  have:=Nat.xor_mod_two_eq_one (a:=(BitVec.ofInt 64 a).toNat) (b:=(BitVec.ofInt 64 1).toNat)
  rw [BitVec.toNat_xor]
  have e1:(BitVec.ofInt 64 1).toNat=1:=by decide
  have e2:((BitVec.ofInt 64 a).toNat:Int) % 2=a % 2:=by
   rw [BitVec.toNat_ofInt]
   omega
  rw [e1] at this ⊢
  generalize (BitVec.ofInt 64 a).toNat=n at this e2 ⊢
  generalize n ^^^ 1=z at this ⊢
  have h:z % 2=1↔¬n % 2=1:=by rw [this];simp
  omega
 have h3:k.wrap ((BitVec.ofInt 64 a ^^^ BitVec.ofInt 64 1).toNat:Int)=a:=by
  have e':=e
  unfold gL at e'
  rw [hk] at e'
  exact e'
 have:=h1 ((BitVec.ofInt 64 a ^^^ BitVec.ofInt 64 1).toNat:Int)
 rw [h3] at this
 omega
theorem rA:∀l:List AV,EO l l
 | []=>trivial
 | _ :: l=>⟨.inl rfl,rA l⟩
theorem pi {x y:List AV} (h:EO x y):∀l:List (List AV),Bd (l++[x]) (l++[y])
 | []=>⟨h,trivial⟩
 | z :: l=>⟨rA z,pi h l⟩
theorem ul:bY []=[.sl 9 []]:=rfl
theorem IK (i:cS):aW i=[.int .i64 i.op,.int .i64 i.a,.int .i64 i.b,.int .u64 i.n,.int .i64 i.k,.int .i64 i.v,.int .i64 i.x,.sl 1 (i.ty.map dF),.sl 1 (i.lb.map dF)]:=rfl
theorem Nx (a:Int):0≤gL .u64 a 1:=by
 unfold gL IntKind.wrap
 have:(2:Int) ^ IntKind.u64.bits=18446744073709551616:=by decide
 rw [this]
 dsimp only
 simp [IntKind.signed]
 omega
theorem Dg:((0:UInt8).toNat:Int)=0:=rfl
theorem fH (a n:Nat):Int.tmod (a:Int) (n:Int)=((a % n:Nat):Int):=rfl
theorem gU {α:Type} [Inhabited α] {c c':α→List AV} {k:Nat} {l:List α} (hk:k<l.length):au c c' k l=(l.map c).set k (c' (ac l k)):=by
 refine List.ext_getElem? fun i=>?_
 simp only [au,List.getElem?_mapIdx,List.getElem?_set,cQ,fz]
 by_cases h:k=i
 ·subst h;simp [hk,bD hk]
 ·rw [aV h]
  cases l[i]? with
  | none=>rfl
  | some x=>simp [Ne.symm h]
theorem jj {rows:List (List AV)} {k:Nat} {r:List AV} (h:fq rows=true) (hr:fq [r]=true):fq (rows.set k r)=true:=by
 unfold fq at *
 rw [de] at *
 intro q hq
 rcases List.mem_or_eq_of_mem_set hq with hq | rfl
 ·exact h q hq
 ·exact hr _ (by simp)
theorem km {α:Type} {c:α→List AV} (h:∀x,fq [c x]=true) (l:List α):fq (l.map c)=true:=by
 unfold fq at *
 rw [de]
 intro q hq
 obtain ⟨x,_,rfl⟩:=List.mem_map.1 hq
 simpa using h x
theorem gq {α β:Type} (f:α→β) (l:List α) (r:β):List.take (l.length+1) (l.map f++[r])=l.map f++[r]:=jw (by simp)
theorem eY {α:Type} {c:α→List AV} {f:AV→AV} (h:∀x,(c x).map f=c x) (l:List α):(l.map c).map (fun r=>r.map f)=l.map c:=by
 rw [List.map_map]
 exact List.map_congr_left fun x _=>h x
theorem bT {m:Md} (h:mH m):Gk m:=by
 have uI:∀{l:List cS},l_ l→qg l:=fun h=>⟨gc h.1 (by decide),fun x hx=>by obtain ⟨h1,h2,h3⟩:=h.2 x hx;exact ⟨gc h1 (by decide),gc h2 (by decide),h3⟩⟩
 have up:∀{n:Nat},n≤1048576→n≤140737488355328:=fun h=>gc h (by decide)
 have uq:∀{n:Nat},n≤1048576→n≤9223372036854775807:=fun h=>gc h (by decide)
 exact ⟨⟨up h.ts.1,fun x hx=>⟨uq (h.ts.2 x hx).1,uq (h.ts.2 x hx).2⟩⟩,up h.ims,⟨up h.fs.1,fun x hx=>⟨uq (h.fs.2 x hx).1,uI (h.fs.2 x hx).2⟩⟩,up h.tbs,up h.ms,⟨up h.gs.1,fun x hx=>uI (h.gs.2 x hx)⟩,up h.exs,
  ⟨up h.els.1,fun x hx=>⟨uI (h.els.2 x hx).1,up (h.els.2 x hx).2.1,fun l hl=>uI ((h.els.2 x hx).2.2 l hl)⟩⟩,⟨up h.ds.1,fun x hx=>⟨uI (h.ds.2 x hx).1,uq (h.ds.2 x hx).2⟩⟩,⟨up h.cs.1,fun x hx=>uq (h.cs.2 x hx)⟩⟩
theorem fp {α:Type} {p:α→Prop} {l:List α} {k:Nat} {y:α} (h:∀x∈l,p x) (hy:p y):∀x∈l.set k y,p x:=fun x hx=>by
 rcases List.mem_or_eq_of_mem_set hx with q | rfl
 ·exact h x q
 ·exact hy
def j1 (m:Md) (w a:Int):Prop:=∃m' b,aj Tryz.prog Jf [cE m,.int .i64 w,.int .i64 a] (.tup [cE m',.bool b])∧Gk m'∧decide (cw m m') = !b∧decide (cw m' m) = !b
theorem fI {m:Md} (h:mH m) {w a:Int} (hp:aj Tryz.prog Jf [cE m,.int .i64 w,.int .i64 a] (.tup [cE m,.bool false])):j1 m w a :=
 ⟨m,false,hp,bT h,aI (jI m),aI (jI m)⟩
theorem dW {m m':Md} {w a:Int} (hs:Gk m') (h1:¬cw m m') (h2:¬cw m' m) (hp:aj Tryz.prog Jf [cE m,.int .i64 w,.int .i64 a] (.tup [cE m',.bool true])):j1 m w a :=
 ⟨m',true,hp,hs,az h1,az h2⟩
attribute [local go_sem] fz fZ
theorem SA (m:Md) (h:mH m) (hb:iL 140737488355328 m) (a:Nat):j1 m 0 a:=by
 by_cases l0:m.ts.length=0
 ·have g0:decide ((m.ts.length:Int)>0)=false:=az (by omega)
  refine fI h ?_
  refine ab (ic:=cD.body) aq fL rfl rfl ?_
  simp only [go_sem,cD,cE]
  refine bt (cK m h) [901,48,902,80,85,903,116,904,905,906] (fun p hp=>by cases hp) ?_ (fun p hp=>by cases hp) ?_
  ·intro p hp
   simp only [cj,List.not_mem_nil,or_false] at hp
   rcases hp with rfl | rfl | rfl | rfl | rfl | rfl | rfl | rfl | rfl | rfl
   all_goals exact .inr ⟨by simp,by simp,.inr rfl⟩
  simp only [go_sem,g0]
  exact aE [901,48,902,80,85,903,116,904,905,906] (by simp only [go_sem,aB,ap]) rfl
 have g0:decide ((m.ts.length:Int)>0)=true:=aI (by omega)
 have n0:¬(m.ts.length:Int)=0:=by omega
 have e1:=fH a m.ts.length
 have hk:=Nat.mod_lt a (show 0<m.ts.length by omega)
 generalize a % m.ts.length=k at e1 hk
 have hc:=Fg m h k hk
 simp only [gU hk] at hc
 obtain ⟨x,hx⟩:∃x,ac m.ts k=x:=⟨_,rfl⟩
 rw [hx] at hc
 have hxc:x∈m.ts:=by rw [← hx,bD hk];exact List.getElem_mem hk
 have hxl:=h.ts.2 x hxc
 have hxn:x.rs.length≤1048576:=hxl.2
 obtain ⟨L,hL⟩:∃L,m.ts.set k { x with rs:=x.rs++[2] }=L:=⟨_,rfl⟩
 have hLl:m.ts.length=L.length:=by rw [← hL,List.length_set]
 have hne:L≠m.ts:=by rw [← hL];exact fG hk (by rw [hx];intro e;have:=congrArg (fun q=>q.rs.length) e;simp at this)
 refine dW (m':={ m with ts:=L }) ({ bT h with ts:=⟨by show L.length≤_;rw [← hLl];exact (bT h).ts.1,by show ∀x∈L,_;rw [← hL];exact fp (bT h).ts.2 (⟨gc hxl.1 (by decide),by have:=hxl.2;show (x.rs++[2]).length≤_;simp;omega⟩)⟩ }) (fun h=>hne h.2.2.1.symm) (fun h=>hne h.2.2.1) ?_
 have hB1:∀j,(m.ts.map bQ).map (fun r=>r.map (bW j))=m.ts.map bQ:=fun j=>eY (fun x=>by simp [bQ,bW,mC,mP]) _
 have hB2:∀j o,(m.ts.map bQ).map (fun r=>r.map (ci j o))=m.ts.map bQ:=fun j o=>eY (fun x=>by simp [bQ,ci,cT]) _
 have hgt:∀r,((m.ts.map bQ).set k r)[k]? = some r:=fun r=>List.getElem?_set_self (by simpa using hk)
 have hl:∀n off r,oz n 2 k off (some ⟨51,2,(m.ts.map bQ).set k r,true⟩)=gd n (r.drop off):=fun n off r=>fE (hgt r)
 have hs:∀v y0 y1,lc 901 1 2 k 1 (some ⟨51,2,(m.ts.map bQ).set k [y0,y1],true⟩) (some [v])=some (.put 901 ⟨51,2,(m.ts.map bQ).set k [y0,v],true⟩):=fun v y0 y1=>by
  refine (gb (q:=true) (hgt _) rfl rfl (by simp)).trans ?_
  rw [List.set_set]
  rfl
 have hU:fq (m.ts.map bQ)=true:=km (fun x=>by simp [fq,bQ,fC,fY]) _
 have hfin:(m.ts.map bQ).set k (bQ { x with rs:=x.rs++[2] })=L.map bQ:=by rw [← hL,List.map_set]
 simp only [bq,List.map_append,dP,List.map_nil,dF,m2,Dg,ul] at hfin
 simp only [kN] at hc
 refine ab (ic:=dp 22 cD.body) aq fL rfl rfl ?_
 simp only [go_sem,cD,cE]
 refine bt hc [901,48,902,80,85,903,116,904,905,906,911] (fun p hp=>by cases hp) ?_ (fun p hp=>by cases hp) ?_
 ·intro p hp
  simp only [cj,List.not_mem_nil,or_false] at hp
  rcases hp with rfl | rfl | rfl | rfl | rfl | rfl | rfl | rfl | rfl | rfl | rfl
  all_goals exact .inr ⟨by simp,by simp,.inr rfl⟩
 simp only [go_sem,g0,n0,e1,hl,hs,hB1,hB2,List.map_set,gX]
 refine ⟨⟨by omega,by omega⟩,?_⟩
 refine jh _ _ (mD (id:=911) (len:=x.rs.length) (rows:=x.rs.map dF) (ys:=[[.int .i64 2]]) (by rfl) (by rfl) (by rfl) (by rw [fz]) (by simp) (by omega) (by decide)) (by simp only [go_sem]) (by rfl) (by simp only [go_sem];rfl) (by simp only [go_sem]) ?_
 simp only [go_sem,g0,n0,e1,hl,hs,hB1,hB2,List.map_set,gX]
 refine ⟨⟨by omega,by omega⟩,?_⟩
 exact eT (((Wk.frzs [911] _).trans (Wk.unr _ 901 (by rfl) (by simp only [go_sem,List.map_set,hB2,aB,ol,gq];exact jj hU (by rfl))))) [901,48,902,80,85,903,116,904,905,906] (by simp only [go_sem,List.map_set,hB2,aB,ol,ap,gq,hfin,hLl,og,j2,j3]) rfl
theorem SB (m:Md) (h:mH m) (hb:iL 140737488355328 m) (a:Nat):j1 m 1 a:=by
 by_cases l0:m.ims.length=0
 ·have g0:decide ((m.ims.length:Int)>0)=false:=az (by omega)
  refine fI h ?_
  refine ab (ic:=cD.body) aq fL rfl rfl ?_
  simp only [go_sem,cD,cE]
  refine bt (cK m h) [901,48,902,80,85,903,116,904,905,906] (fun p hp=>by cases hp) ?_ (fun p hp=>by cases hp) ?_
  ·intro p hp
   simp only [cj,List.not_mem_nil,or_false] at hp
   rcases hp with rfl | rfl | rfl | rfl | rfl | rfl | rfl | rfl | rfl | rfl
   all_goals exact .inr ⟨by simp,by simp,.inr rfl⟩
  simp only [go_sem,g0]
  exact aE [901,48,902,80,85,903,116,904,905,906] (by simp only [go_sem,aB,ap]) rfl
 have g0:decide ((m.ims.length:Int)>0)=true:=aI (by omega)
 have n0:¬(m.ims.length:Int)=0:=by omega
 have e1:=fH a m.ims.length
 have hk:=Nat.mod_lt a (show 0<m.ims.length by omega)
 generalize a % m.ims.length=k at e1 hk
 obtain ⟨x,hx⟩:∃x,ac m.ims k=x:=⟨_,rfl⟩
 have hr:(m.ims.map cW)[k]? = some (cW x):=by rw [cQ,cO hk,hx];rfl
 obtain ⟨L,hL⟩:∃L,m.ims.set k { x with n:=x.n++[120] }=L:=⟨_,rfl⟩
 have hLl:m.ims.length=L.length:=by rw [← hL,List.length_set]
 have hne:L≠m.ims:=by rw [← hL];exact fG hk (by rw [hx];intro e;have:=congrArg (fun q=>q.n.length) e;simp at this)
 refine dW (m':={ m with ims:=L }) ({ bT h with ims:=by show L.length≤_;rw [← hLl];exact (bT h).ims }) (fun h=>hne h.2.2.2.1.symm) (fun h=>hne h.2.2.2.1) ?_
 have hs:lc 48 1 13 k 1 (some ⟨61,13,m.ims.map cW,false⟩) (some [.str (x.n++[120])])=some (.put 48 ⟨61,13,L.map cW,false⟩):=by
  refine (gb (q:=false) hr rfl rfl (by simp [ce])).trans ?_
  rw [← hL,List.map_set]
  rfl
 have hl:∀n off,oz n 13 k off (some ⟨61,13,m.ims.map cW,false⟩)=gd n ((cW x).drop off):=fun n off=>fE hr
 refine ab (ic:=cD.body) aq fL rfl rfl ?_
 simp only [go_sem,cD,cE]
 refine bt (cK m h) [901,48,902,80,85,903,116,904,905,906] (fun p hp=>by cases hp) ?_ (fun p hp=>by cases hp) ?_
 ·intro p hp
  simp only [cj,List.not_mem_nil,or_false] at hp
  rcases hp with rfl | rfl | rfl | rfl | rfl | rfl | rfl | rfl | rfl | rfl
  all_goals exact .inr ⟨by simp,by simp,.inr rfl⟩
 simp only [go_sem,g0,n0,e1,hl,hs,ce,gX]
 refine ⟨⟨by omega,by omega⟩,by have:=(hb.2.1.2 x (by rw [← hx,bD hk];exact List.getElem_mem hk)).2;omega,⟨by omega,by omega⟩,?_⟩
 exact aE [901,48,902,80,85,903,116,904,905,906] (by simp only [go_sem,aB,ap,hLl]) rfl
theorem SC (m:Md) (h:mH m) (hb:iL 140737488355328 m) (a:Nat):j1 m 2 a:=by
 by_cases l0:m.fs.length=0
 ·have g0:decide ((m.fs.length:Int)>0)=false:=az (by omega)
  refine fI h ?_
  refine ab (ic:=cD.body) aq fL rfl rfl ?_
  simp only [go_sem,cD,cE]
  refine bt (cK m h) [901,48,902,80,85,903,116,904,905,906] (fun p hp=>by cases hp) ?_ (fun p hp=>by cases hp) ?_
  ·intro p hp
   simp only [cj,List.not_mem_nil,or_false] at hp
   rcases hp with rfl | rfl | rfl | rfl | rfl | rfl | rfl | rfl | rfl | rfl
   all_goals exact .inr ⟨by simp,by simp,.inr rfl⟩
  simp only [go_sem,g0]
  exact aE [901,48,902,80,85,903,116,904,905,906] (by simp only [go_sem,aB,ap]) rfl
 have g0:decide ((m.fs.length:Int)>0)=true:=aI (by omega)
 have n0:¬(m.fs.length:Int)=0:=by omega
 have e1:=fH a m.fs.length
 have hk:=Nat.mod_lt a (show 0<m.fs.length by omega)
 generalize a % m.fs.length=k at e1 hk
 have hc:=Ff m h k hk
 simp only [gU hk] at hc
 obtain ⟨x,hx⟩:∃x,ac m.fs k=x:=⟨_,rfl⟩
 rw [hx] at hc
 have hxc:x∈m.fs:=by rw [← hx,bD hk];exact List.getElem_mem hk
 have hxl:=h.fs.2 x hxc
 have hxn:x.lo.length≤1048576:=hxl.1
 obtain ⟨L,hL⟩:∃L,m.fs.set k { x with lo:=x.lo++[2] }=L:=⟨_,rfl⟩
 have hLl:m.fs.length=L.length:=by rw [← hL,List.length_set]
 have hne:L≠m.fs:=by rw [← hL];exact fG hk (by rw [hx];intro e;have:=congrArg (fun q=>q.lo.length) e;simp at this)
 refine dW (m':={ m with fs:=L }) ({ bT h with fs:=⟨by show L.length≤_;rw [← hLl];exact (bT h).fs.1,by show ∀x∈L,_;rw [← hL];exact fp (bT h).fs.2 (⟨by have:=hxl.1;show (x.lo++[2]).length≤_;simp;omega,((bT h).fs.2 x hxc).2⟩)⟩ }) (fun h=>hne h.2.2.2.2.1.symm) (fun h=>hne h.2.2.2.2.1) ?_
 have hB1:∀j,(m.fs.map bF).map (fun r=>r.map (bW j))=m.fs.map bF:=fun j=>eY (fun x=>by simp [bF,bW,mC,mP]) _
 have hB2:∀j o,(m.fs.map bF).map (fun r=>r.map (ci j o))=m.fs.map bF:=fun j o=>eY (fun x=>by simp [bF,ci,cT]) _
 have hgt:∀r,((m.fs.map bF).set k r)[k]? = some r:=fun r=>List.getElem?_set_self (by simpa using hk)
 have hl:∀n off r,oz n 3 k off (some ⟨64,3,(m.fs.map bF).set k r,true⟩)=gd n (r.drop off):=fun n off r=>fE (hgt r)
 have hs:∀v y0 y1 y2,lc 902 1 3 k 1 (some ⟨64,3,(m.fs.map bF).set k [y0,y1,y2],true⟩) (some [v])=some (.put 902 ⟨64,3,(m.fs.map bF).set k [y0,v,y2],true⟩):=fun v y0 y1 y2=>by
  refine (gb (q:=true) (hgt _) rfl rfl (by simp)).trans ?_
  rw [List.set_set]
  rfl
 have hU:fq (m.fs.map bF)=true:=km (fun x=>by simp [fq,bF,fC,fY]) _
 have hfin:(m.fs.map bF).set k (bF { x with lo:=x.lo++[2] })=L.map bF:=by rw [← hL,List.map_set]
 simp only [bj,List.map_append,dP,List.map_nil,dF,m2,Dg,ul] at hfin
 simp only [eO] at hc
 refine ab (ic:=dp 74 cD.body) aq fL rfl rfl ?_
 simp only [go_sem,cD,cE]
 refine bt hc [901,48,902,80,85,903,116,904,905,906,911] (fun p hp=>by cases hp) ?_ (fun p hp=>by cases hp) ?_
 ·intro p hp
  simp only [cj,List.not_mem_nil,or_false] at hp
  rcases hp with rfl | rfl | rfl | rfl | rfl | rfl | rfl | rfl | rfl | rfl | rfl
  all_goals exact .inr ⟨by simp,by simp,.inr rfl⟩
 simp only [go_sem,g0,n0,e1,hl,hs,hB1,hB2,List.map_set,gX]
 refine ⟨⟨by omega,by omega⟩,?_⟩
 refine jh _ _ (mD (id:=911) (len:=x.lo.length) (rows:=x.lo.map dF) (ys:=[[.int .i64 2]]) (by rfl) (by rfl) (by rfl) (by rw [fz]) (by simp) (by omega) (by decide)) (by simp only [go_sem]) (by rfl) (by simp only [go_sem];rfl) (by simp only [go_sem]) ?_
 simp only [go_sem,g0,n0,e1,hl,hs,hB1,hB2,List.map_set,gX]
 refine ⟨⟨by omega,by omega⟩,?_⟩
 exact eT (((Wk.frzs [911] _).trans (Wk.unr _ 902 (by rfl) (by simp only [go_sem,List.map_set,hB2,aB,ol,gq];exact jj hU (by rfl))))) [901,48,902,80,85,903,116,904,905,906] (by simp only [go_sem,List.map_set,hB2,aB,ol,ap,gq,hfin,hLl,og,j2,j3]) rfl
theorem SD (m:Md) (h:mH m) (hb:iL 140737488355328 m) (a:Nat):j1 m 3 a:=by
 by_cases l0:m.tbs.length=0
 ·have g0:decide ((m.tbs.length:Int)>0)=false:=az (by omega)
  refine fI h ?_
  refine ab (ic:=cD.body) aq fL rfl rfl ?_
  simp only [go_sem,cD,cE]
  refine bt (cK m h) [901,48,902,80,85,903,116,904,905,906] (fun p hp=>by cases hp) ?_ (fun p hp=>by cases hp) ?_
  ·intro p hp
   simp only [cj,List.not_mem_nil,or_false] at hp
   rcases hp with rfl | rfl | rfl | rfl | rfl | rfl | rfl | rfl | rfl | rfl
   all_goals exact .inr ⟨by simp,by simp,.inr rfl⟩
  simp only [go_sem,g0]
  exact aE [901,48,902,80,85,903,116,904,905,906] (by simp only [go_sem,aB,ap]) rfl
 have g0:decide ((m.tbs.length:Int)>0)=true:=aI (by omega)
 have n0:¬(m.tbs.length:Int)=0:=by omega
 have e1:=fH a m.tbs.length
 have hk:=Nat.mod_lt a (show 0<m.tbs.length by omega)
 generalize a % m.tbs.length=k at e1 hk
 obtain ⟨x,hx⟩:∃x,ac m.tbs k=x:=⟨_,rfl⟩
 have hr:(m.tbs.map dG)[k]? = some (dG x):=by rw [cQ,cO hk,hx];rfl
 obtain ⟨L,hL⟩:∃L,m.tbs.set k { x with l:={ x.l with hs:=!x.l.hs } }=L:=⟨_,rfl⟩
 have hLl:m.tbs.length=L.length:=by rw [← hL,List.length_set]
 have hne:L≠m.tbs:=by rw [← hL];exact fG hk (by rw [hx];intro e;have:=congrArg (fun q=>q.l.hs) e;simp at this)
 refine dW (m':={ m with tbs:=L }) ({ bT h with tbs:=by show L.length≤_;rw [← hLl];exact (bT h).tbs }) (fun h=>hne h.2.2.2.2.2.1.1.symm) (fun h=>hne h.2.2.2.2.2.1.1) ?_
 have hs:lc 80 1 4 k 3 (some ⟨57,4,m.tbs.map dG,false⟩) (some [.bool (!x.l.hs)])=some (.put 80 ⟨57,4,L.map dG,false⟩):=by
  refine (gb (q:=false) hr rfl rfl (by simp [cA])).trans ?_
  rw [← hL,List.map_set]
  rfl
 have hl:∀n off,oz n 4 k off (some ⟨57,4,m.tbs.map dG,false⟩)=gd n ((dG x).drop off):=fun n off=>fE hr
 refine ab (ic:=cD.body) aq fL rfl rfl ?_
 simp only [go_sem,cD,cE]
 refine bt (cK m h) [901,48,902,80,85,903,116,904,905,906] (fun p hp=>by cases hp) ?_ (fun p hp=>by cases hp) ?_
 ·intro p hp
  simp only [cj,List.not_mem_nil,or_false] at hp
  rcases hp with rfl | rfl | rfl | rfl | rfl | rfl | rfl | rfl | rfl | rfl
  all_goals exact .inr ⟨by simp,by simp,.inr rfl⟩
 simp only [go_sem,g0,n0,e1,hl,hs,cA,gX]
 refine ⟨⟨by omega,by omega⟩,⟨by omega,by omega⟩,?_⟩
 exact aE [901,48,902,80,85,903,116,904,905,906] (by simp only [go_sem,aB,ap,hLl]) rfl
theorem SE (m:Md) (h:mH m) (hb:iL 140737488355328 m) (a:Nat):j1 m 4 a:=by
 by_cases l0:m.ms.length=0
 ·have g0:decide ((m.ms.length:Int)>0)=false:=az (by omega)
  refine fI h ?_
  refine ab (ic:=cD.body) aq fL rfl rfl ?_
  simp only [go_sem,cD,cE]
  refine bt (cK m h) [901,48,902,80,85,903,116,904,905,906] (fun p hp=>by cases hp) ?_ (fun p hp=>by cases hp) ?_
  ·intro p hp
   simp only [cj,List.not_mem_nil,or_false] at hp
   rcases hp with rfl | rfl | rfl | rfl | rfl | rfl | rfl | rfl | rfl | rfl
   all_goals exact .inr ⟨by simp,by simp,.inr rfl⟩
  simp only [go_sem,g0]
  exact aE [901,48,902,80,85,903,116,904,905,906] (by simp only [go_sem,aB,ap]) rfl
 have g0:decide ((m.ms.length:Int)>0)=true:=aI (by omega)
 have n0:¬(m.ms.length:Int)=0:=by omega
 have e1:=fH a m.ms.length
 have hk:=Nat.mod_lt a (show 0<m.ms.length by omega)
 generalize a % m.ms.length=k at e1 hk
 obtain ⟨x,hx⟩:∃x,ac m.ms k=x:=⟨_,rfl⟩
 have hr:(m.ms.map dA)[k]? = some (dA x):=by rw [cQ,cO hk,hx];rfl
 obtain ⟨L,hL⟩:∃L,m.ms.set k { x with mn:=gL .i64 x.mn 1 }=L:=⟨_,rfl⟩
 have hLl:m.ms.length=L.length:=by rw [← hL,List.length_set]
 have hne:L≠m.ms:=by rw [← hL];exact fG hk (by rw [hx];intro e;exact qm rfl _ (congrArg (fun q=>q.mn) e))
 refine dW (m':={ m with ms:=L }) ({ bT h with ms:=by show L.length≤_;rw [← hLl];exact (bT h).ms }) (fun h=>hne h.2.2.2.2.2.1.2.symm) (fun h=>hne h.2.2.2.2.2.1.2) ?_
 have hs:lc 85 1 3 k 0 (some ⟨55,3,m.ms.map dA,false⟩) (some [.int .i64 (gL .i64 x.mn 1)])=some (.put 85 ⟨55,3,L.map dA,false⟩):=by
  refine (gb (q:=false) hr rfl rfl (by simp [cz])).trans ?_
  rw [← hL,List.map_set]
  rfl
 have hl:∀n off,oz n 3 k off (some ⟨55,3,m.ms.map dA,false⟩)=gd n ((dA x).drop off):=fun n off=>fE hr
 refine ab (ic:=cD.body) aq fL rfl rfl ?_
 simp only [go_sem,cD,cE]
 refine bt (cK m h) [901,48,902,80,85,903,116,904,905,906] (fun p hp=>by cases hp) ?_ (fun p hp=>by cases hp) ?_
 ·intro p hp
  simp only [cj,List.not_mem_nil,or_false] at hp
  rcases hp with rfl | rfl | rfl | rfl | rfl | rfl | rfl | rfl | rfl | rfl
  all_goals exact .inr ⟨by simp,by simp,.inr rfl⟩
 simp only [go_sem,g0,n0,e1,hl,hs,cz,gX]
 refine ⟨⟨by omega,by omega⟩,⟨by omega,by omega⟩,?_⟩
 exact aE [901,48,902,80,85,903,116,904,905,906] (by simp only [go_sem,aB,ap,hLl]) rfl
theorem SF (m:Md) (h:mH m) (hb:iL 140737488355328 m) (a:Nat):j1 m 5 a:=by
 by_cases l0:m.gs.length=0
 ·have g0:decide ((m.gs.length:Int)>0)=false:=az (by omega)
  refine fI h ?_
  refine ab (ic:=cD.body) aq fL rfl rfl ?_
  simp only [go_sem,cD,cE]
  refine bt (cK m h) [901,48,902,80,85,903,116,904,905,906] (fun p hp=>by cases hp) ?_ (fun p hp=>by cases hp) ?_
  ·intro p hp
   simp only [cj,List.not_mem_nil,or_false] at hp
   rcases hp with rfl | rfl | rfl | rfl | rfl | rfl | rfl | rfl | rfl | rfl
   all_goals exact .inr ⟨by simp,by simp,.inr rfl⟩
  simp only [go_sem,g0]
  exact aE [901,48,902,80,85,903,116,904,905,906] (by simp only [go_sem,aB,ap]) rfl
 have g0:decide ((m.gs.length:Int)>0)=true:=aI (by omega)
 have n0:¬(m.gs.length:Int)=0:=by omega
 have e1:=fH a m.gs.length
 have hk:=Nat.mod_lt a (show 0<m.gs.length by omega)
 generalize a % m.gs.length=k at e1 hk
 obtain ⟨x,hx⟩:∃x,ac m.gs k=x:=⟨_,rfl⟩
 have hr:(m.gs.map df)[k]? = some (df x):=by rw [cQ,cO hk,hx];rfl
 obtain ⟨L,hL⟩:∃L,m.gs.set k { x with g:={ x.g with mu:=!x.g.mu } }=L:=⟨_,rfl⟩
 have hLl:m.gs.length=L.length:=by rw [← hL,List.length_set]
 have hne:L≠m.gs:=by rw [← hL];exact fG hk (by rw [hx];intro e;have:=congrArg (fun q=>q.g.mu) e;simp at this)
 refine dW (m':={ m with gs:=L }) ({ bT h with gs:=⟨by show L.length≤_;rw [← hLl];exact (bT h).gs.1,by show ∀x∈L,_;rw [← hL];exact fp (bT h).gs.2 ((bT h).gs.2 x (by rw [← hx,bD hk];exact List.getElem_mem hk))⟩ }) (fun h=>hne h.2.2.2.2.2.2.1.symm) (fun h=>hne h.2.2.2.2.2.2.1) ?_
 have hs:lc 903 1 3 k 1 (some ⟨66,3,m.gs.map df,false⟩) (some [.bool (!x.g.mu)])=some (.put 903 ⟨66,3,L.map df,false⟩):=by
  refine (gb (q:=false) hr rfl rfl (by simp [bK])).trans ?_
  rw [← hL,List.map_set]
  rfl
 have hl:∀n off,oz n 3 k off (some ⟨66,3,m.gs.map df,false⟩)=gd n ((df x).drop off):=fun n off=>fE hr
 refine ab (ic:=cD.body) aq fL rfl rfl ?_
 simp only [go_sem,cD,cE]
 refine bt (cK m h) [901,48,902,80,85,903,116,904,905,906] (fun p hp=>by cases hp) ?_ (fun p hp=>by cases hp) ?_
 ·intro p hp
  simp only [cj,List.not_mem_nil,or_false] at hp
  rcases hp with rfl | rfl | rfl | rfl | rfl | rfl | rfl | rfl | rfl | rfl
  all_goals exact .inr ⟨by simp,by simp,.inr rfl⟩
 simp only [go_sem,g0,n0,e1,hl,hs,bK,gX]
 refine ⟨⟨by omega,by omega⟩,⟨by omega,by omega⟩,?_⟩
 exact aE [901,48,902,80,85,903,116,904,905,906] (by simp only [go_sem,aB,ap,hLl]) rfl
theorem SG (m:Md) (h:mH m) (hb:iL 140737488355328 m) (a:Nat):j1 m 6 a:=by
 by_cases l0:m.exs.length=0
 ·have g0:decide ((m.exs.length:Int)>0)=false:=az (by omega)
  refine fI h ?_
  refine ab (ic:=cD.body) aq fL rfl rfl ?_
  simp only [go_sem,cD,cE]
  refine bt (cK m h) [901,48,902,80,85,903,116,904,905,906] (fun p hp=>by cases hp) ?_ (fun p hp=>by cases hp) ?_
  ·intro p hp
   simp only [cj,List.not_mem_nil,or_false] at hp
   rcases hp with rfl | rfl | rfl | rfl | rfl | rfl | rfl | rfl | rfl | rfl
   all_goals exact .inr ⟨by simp,by simp,.inr rfl⟩
  simp only [go_sem,g0]
  exact aE [901,48,902,80,85,903,116,904,905,906] (by simp only [go_sem,aB,ap]) rfl
 have g0:decide ((m.exs.length:Int)>0)=true:=aI (by omega)
 have n0:¬(m.exs.length:Int)=0:=by omega
 have e1:=fH a m.exs.length
 have hk:=Nat.mod_lt a (show 0<m.exs.length by omega)
 generalize a % m.exs.length=k at e1 hk
 obtain ⟨x,hx⟩:∃x,ac m.exs k=x:=⟨_,rfl⟩
 have hr:(m.exs.map dU)[k]? = some (dU x):=by rw [cQ,cO hk,hx];rfl
 obtain ⟨L,hL⟩:∃L,m.exs.set k { x with i:=gL .i64 x.i 1 }=L:=⟨_,rfl⟩
 have hLl:m.exs.length=L.length:=by rw [← hL,List.length_set]
 have hne:L≠m.exs:=by rw [← hL];exact fG hk (by rw [hx];intro e;exact qm rfl _ (congrArg (fun q=>q.i) e))
 refine dW (m':={ m with exs:=L }) ({ bT h with exs:=by show L.length≤_;rw [← hLl];exact (bT h).exs }) (fun h=>hne h.2.2.2.2.2.2.2.1.symm) (fun h=>hne h.2.2.2.2.2.2.2.1) ?_
 have hs:lc 116 1 3 k 2 (some ⟨68,3,m.exs.map dU,false⟩) (some [.int .i64 (gL .i64 x.i 1)])=some (.put 116 ⟨68,3,L.map dU,false⟩):=by
  refine (gb (q:=false) hr rfl rfl (by simp [cy])).trans ?_
  rw [← hL,List.map_set]
  rfl
 have hl:∀n off,oz n 3 k off (some ⟨68,3,m.exs.map dU,false⟩)=gd n ((dU x).drop off):=fun n off=>fE hr
 refine ab (ic:=cD.body) aq fL rfl rfl ?_
 simp only [go_sem,cD,cE]
 refine bt (cK m h) [901,48,902,80,85,903,116,904,905,906] (fun p hp=>by cases hp) ?_ (fun p hp=>by cases hp) ?_
 ·intro p hp
  simp only [cj,List.not_mem_nil,or_false] at hp
  rcases hp with rfl | rfl | rfl | rfl | rfl | rfl | rfl | rfl | rfl | rfl
  all_goals exact .inr ⟨by simp,by simp,.inr rfl⟩
 simp only [go_sem,g0,n0,e1,hl,hs,cy,gX]
 refine ⟨⟨by omega,by omega⟩,⟨by omega,by omega⟩,?_⟩
 exact aE [901,48,902,80,85,903,116,904,905,906] (by simp only [go_sem,aB,ap,hLl]) rfl
theorem SH (m:Md) (h:mH m) (hb:iL 140737488355328 m) (a:Nat):j1 m 7 a:=by
 refine dW (m':={ m with hs:=!m.hs }) ({ bT h with }) (fun h=>by have:=h.1;cases hh:m.hs<;>simp [hh] at this) (fun h=>by have:=h.1;cases hh:m.hs<;>simp [hh] at this) ?_
 refine ab (ic:=cD.body) aq fL rfl rfl ?_
 simp only [go_sem,cD,cE]
 refine bt (cK m h) [901,48,902,80,85,903,116,904,905,906] (fun p hp=>by cases hp) ?_ (fun p hp=>by cases hp) ?_
 ·intro p hp
  simp only [cj,List.not_mem_nil,or_false] at hp
  rcases hp with rfl | rfl | rfl | rfl | rfl | rfl | rfl | rfl | rfl | rfl
  all_goals exact .inr ⟨by simp,by simp,.inr rfl⟩
 simp only [go_sem]
 exact aE [901,48,902,80,85,903,116,904,905,906] (by simp only [go_sem,aB,ap]) rfl
theorem SI (m:Md) (h:mH m) (hb:iL 140737488355328 m) (a:Nat):j1 m 8 a:=by
 by_cases l0:m.els.length=0
 ·have g0:decide ((m.els.length:Int)>0)=false:=az (by omega)
  refine fI h ?_
  refine ab (ic:=cD.body) aq fL rfl rfl ?_
  simp only [go_sem,cD,cE]
  refine bt (cK m h) [901,48,902,80,85,903,116,904,905,906] (fun p hp=>by cases hp) ?_ (fun p hp=>by cases hp) ?_
  ·intro p hp
   simp only [cj,List.not_mem_nil,or_false] at hp
   rcases hp with rfl | rfl | rfl | rfl | rfl | rfl | rfl | rfl | rfl | rfl
   all_goals exact .inr ⟨by simp,by simp,.inr rfl⟩
  simp only [go_sem,g0]
  exact aE [901,48,902,80,85,903,116,904,905,906] (by simp only [go_sem,aB,ap]) rfl
 have g0:decide ((m.els.length:Int)>0)=true:=aI (by omega)
 have n0:¬(m.els.length:Int)=0:=by omega
 have e1:=fH a m.els.length
 have hk:=Nat.mod_lt a (show 0<m.els.length by omega)
 generalize a % m.els.length=k at e1 hk
 have hc:=Fe m h k hk
 simp only [gU hk] at hc
 obtain ⟨x,hx⟩:∃x,ac m.els k=x:=⟨_,rfl⟩
 rw [hx] at hc
 have hxc:x∈m.els:=by rw [← hx,bD hk];exact List.getElem_mem hk
 have hxl:=h.els.2 x hxc
 have hxn:x.it.length≤1048576:=hxl.2.1
 obtain ⟨L,hL⟩:∃L,m.els.set k { x with it:=x.it++[[]] }=L:=⟨_,rfl⟩
 have hLl:m.els.length=L.length:=by rw [← hL,List.length_set]
 have hne:L≠m.els:=by rw [← hL];exact fG hk (by rw [hx];intro e;have:=congrArg (fun q=>q.it.length) e;simp at this)
 refine dW (m':={ m with els:=L }) ({ bT h with els:=⟨by show L.length≤_;rw [← hLl];exact (bT h).els.1,by show ∀x∈L,_;rw [← hL];exact fp (bT h).els.2 (⟨((bT h).els.2 x hxc).1,by have:=hxn;show (x.it++[[]]).length≤_;simp;omega,fun l hl=>by rcases dw.1 hl with q | q;exact ((bT h).els.2 x hxc).2.2 l q;cases j7.1 q;exact ⟨by simp,fun x hx=>by cases hx⟩⟩)⟩ }) (fun h=>hne h.2.2.2.2.2.2.2.2.1.symm) (fun h=>hne h.2.2.2.2.2.2.2.2.1) ?_
 have hB1:∀j,(m.els.map cb).map (fun r=>r.map (bW j))=m.els.map cb:=fun j=>eY (fun x=>by simp [cb,bW,mC,mP]) _
 have hB2:∀j o,(m.els.map cb).map (fun r=>r.map (ci j o))=m.els.map cb:=fun j o=>eY (fun x=>by simp [cb,ci,cT]) _
 have hgt:∀r,((m.els.map cb).set k r)[k]? = some r:=fun r=>List.getElem?_set_self (by simpa using hk)
 have hl:∀n off r,oz n 5 k off (some ⟨70,5,(m.els.map cb).set k r,true⟩)=gd n (r.drop off):=fun n off r=>fE (hgt r)
 have hs:∀v y0 y1 y2 y3 y4,lc 904 1 5 k 4 (some ⟨70,5,(m.els.map cb).set k [y0,y1,y2,y3,y4],true⟩) (some [v])=some (.put 904 ⟨70,5,(m.els.map cb).set k [y0,y1,y2,y3,v],true⟩):=fun v y0 y1 y2 y3 y4=>by
  refine (gb (q:=true) (hgt _) rfl rfl (by simp)).trans ?_
  rw [List.set_set]
  rfl
 have hU:fq (m.els.map cb)=true:=km (fun x=>by simp [fq,cb,fC,fY]) _
 have hfin:(m.els.map cb).set k (cb { x with it:=x.it++[[]] })=L.map cb:=by rw [← hL,List.map_set]
 simp only [aQ,List.map_append,dP,List.map_nil,dF,m2,Dg,ul] at hfin
 simp only [kM] at hc
 refine ab (ic:=dp 217 cD.body) aq fL rfl rfl ?_
 simp only [go_sem,cD,cE]
 refine bt hc [901,48,902,80,85,903,116,904,905,906,911] (fun p hp=>by cases hp) ?_ (fun p hp=>by cases hp) ?_
 ·intro p hp
  simp only [cj,List.not_mem_nil,or_false] at hp
  rcases hp with rfl | rfl | rfl | rfl | rfl | rfl | rfl | rfl | rfl | rfl | rfl
  all_goals exact .inr ⟨by simp,by simp,.inr rfl⟩
 simp only [go_sem,g0,n0,e1,hl,hs,hB1,hB2,List.map_set,gX]
 refine ⟨⟨by omega,by omega⟩,?_⟩
 refine jh _ _ (mD (id:=911) (len:=x.it.length) (rows:=x.it.map bY) (ys:=[[.nl]]) (by rfl) (by rfl) (by rfl) (by rw [fz]) (by simp) (by omega) (by decide)) (by simp only [go_sem]) (by rfl) (by simp only [go_sem];rfl) (by simp only [go_sem]) ?_
 simp only [go_sem,g0,n0,e1,hl,hs,hB1,hB2,List.map_set,gX]
 refine ⟨⟨by omega,by omega⟩,?_⟩
 exact eT ((Wk.nla _ 911 (rs':=x.it.map bY++[[.sl 9 []]]) (by rfl) (pi (x:=[.nl]) (y:=[.sl 9 []]) ⟨.inr ⟨rfl,9,rfl⟩,trivial⟩ _)).trans ((Wk.frzs [911] _).trans (Wk.unr _ 904 (by rfl) (by simp only [go_sem,List.map_set,hB2,aB,ol,gq];exact jj hU (by rfl))))) [901,48,902,80,85,903,116,904,905,906] (by simp only [go_sem,List.map_set,hB2,aB,ol,ap,gq,hfin,hLl,og,j2,j3]) rfl
theorem SJ (m:Md) (h:mH m) (hb:iL 140737488355328 m) (a:Nat):j1 m 9 a:=by
 by_cases l0:m.ds.length=0
 ·have g0:decide ((m.ds.length:Int)>0)=false:=az (by omega)
  refine fI h ?_
  refine ab (ic:=cD.body) aq fL rfl rfl ?_
  simp only [go_sem,cD,cE]
  refine bt (cK m h) [901,48,902,80,85,903,116,904,905,906] (fun p hp=>by cases hp) ?_ (fun p hp=>by cases hp) ?_
  ·intro p hp
   simp only [cj,List.not_mem_nil,or_false] at hp
   rcases hp with rfl | rfl | rfl | rfl | rfl | rfl | rfl | rfl | rfl | rfl
   all_goals exact .inr ⟨by simp,by simp,.inr rfl⟩
  simp only [go_sem,g0]
  exact aE [901,48,902,80,85,903,116,904,905,906] (by simp only [go_sem,aB,ap]) rfl
 have g0:decide ((m.ds.length:Int)>0)=true:=aI (by omega)
 have n0:¬(m.ds.length:Int)=0:=by omega
 have e1:=fH a m.ds.length
 have hk:=Nat.mod_lt a (show 0<m.ds.length by omega)
 generalize a % m.ds.length=k at e1 hk
 have hc:=Fd m h k hk
 simp only [gU hk] at hc
 obtain ⟨x,hx⟩:∃x,ac m.ds k=x:=⟨_,rfl⟩
 rw [hx] at hc
 have hxc:x∈m.ds:=by rw [← hx,bD hk];exact List.getElem_mem hk
 have hxl:=h.ds.2 x hxc
 have hxn:x.b.length≤1048576:=hxl.2
 obtain ⟨L,hL⟩:∃L,m.ds.set k { x with b:=x.b++[0] }=L:=⟨_,rfl⟩
 have hLl:m.ds.length=L.length:=by rw [← hL,List.length_set]
 have hne:L≠m.ds:=by rw [← hL];exact fG hk (by rw [hx];intro e;have:=congrArg (fun q=>q.b.length) e;simp at this)
 refine dW (m':={ m with ds:=L }) ({ bT h with ds:=⟨by show L.length≤_;rw [← hLl];exact (bT h).ds.1,by show ∀x∈L,_;rw [← hL];exact fp (bT h).ds.2 (⟨((bT h).ds.2 x hxc).1,by have:=hxl.2;show (x.b++[0]).length≤_;simp;omega⟩)⟩ }) (fun h=>hne h.2.2.2.2.2.2.2.2.2.1.symm) (fun h=>hne h.2.2.2.2.2.2.2.2.2.1) ?_
 have hB1:∀j,(m.ds.map cM).map (fun r=>r.map (bW j))=m.ds.map cM:=fun j=>eY (fun x=>by simp [cM,bW,mC,mP]) _
 have hB2:∀j o,(m.ds.map cM).map (fun r=>r.map (ci j o))=m.ds.map cM:=fun j o=>eY (fun x=>by simp [cM,ci,cT]) _
 have hgt:∀r,((m.ds.map cM).set k r)[k]? = some r:=fun r=>List.getElem?_set_self (by simpa using hk)
 have hl:∀n off r,oz n 4 k off (some ⟨73,4,(m.ds.map cM).set k r,true⟩)=gd n (r.drop off):=fun n off r=>fE (hgt r)
 have hs:∀v y0 y1 y2 y3,lc 905 1 4 k 3 (some ⟨73,4,(m.ds.map cM).set k [y0,y1,y2,y3],true⟩) (some [v])=some (.put 905 ⟨73,4,(m.ds.map cM).set k [y0,y1,y2,v],true⟩):=fun v y0 y1 y2 y3=>by
  refine (gb (q:=true) (hgt _) rfl rfl (by simp)).trans ?_
  rw [List.set_set]
  rfl
 have hU:fq (m.ds.map cM)=true:=km (fun x=>by simp [fq,cM,fC,fY]) _
 have hfin:(m.ds.map cM).set k (cM { x with b:=x.b++[0] })=L.map cM:=by rw [← hL,List.map_set]
 simp only [bB,List.map_append,dP,List.map_nil,dF,m2,Dg,ul] at hfin
 simp only [kL] at hc
 refine ab (ic:=dp 247 cD.body) aq fL rfl rfl ?_
 simp only [go_sem,cD,cE]
 refine bt hc [901,48,902,80,85,903,116,904,905,906,911] (fun p hp=>by cases hp) ?_ (fun p hp=>by cases hp) ?_
 ·intro p hp
  simp only [cj,List.not_mem_nil,or_false] at hp
  rcases hp with rfl | rfl | rfl | rfl | rfl | rfl | rfl | rfl | rfl | rfl | rfl
  all_goals exact .inr ⟨by simp,by simp,.inr rfl⟩
 simp only [go_sem,g0,n0,e1,hl,hs,hB1,hB2,List.map_set,gX]
 refine ⟨⟨by omega,by omega⟩,?_⟩
 refine jh _ _ (mD (id:=911) (len:=x.b.length) (rows:=x.b.map m2) (ys:=[[.int .u8 0]]) (by rfl) (by rfl) (by rfl) (by rw [fz]) (by simp) (by omega) (by decide)) (by simp only [go_sem]) (by rfl) (by simp only [go_sem];rfl) (by simp only [go_sem]) ?_
 simp only [go_sem,g0,n0,e1,hl,hs,hB1,hB2,List.map_set,gX]
 refine ⟨⟨by omega,by omega⟩,?_⟩
 exact eT (((Wk.frzs [911] _).trans (Wk.unr _ 905 (by rfl) (by simp only [go_sem,List.map_set,hB2,aB,ol,gq];exact jj hU (by rfl))))) [901,48,902,80,85,903,116,904,905,906] (by simp only [go_sem,List.map_set,hB2,aB,ol,ap,gq,hfin,hLl,og,j2,j3]) rfl
theorem Ry (m:Md) (h:mH m) (hb:iL 140737488355328 m) (a:Nat):j1 m 10 a:=by
 by_cases l0:m.cs.length=0
 ·have g0:decide ((m.cs.length:Int)>0)=false:=az (by omega)
  refine fI h ?_
  refine ab (ic:=cD.body) aq fL rfl rfl ?_
  simp only [go_sem,cD,cE]
  refine bt (cK m h) [901,48,902,80,85,903,116,904,905,906] (fun p hp=>by cases hp) ?_ (fun p hp=>by cases hp) ?_
  ·intro p hp
   simp only [cj,List.not_mem_nil,or_false] at hp
   rcases hp with rfl | rfl | rfl | rfl | rfl | rfl | rfl | rfl | rfl | rfl
   all_goals exact .inr ⟨by simp,by simp,.inr rfl⟩
  simp only [go_sem,g0]
  exact aE [901,48,902,80,85,903,116,904,905,906] (by simp only [go_sem,aB,ap]) rfl
 have g0:decide ((m.cs.length:Int)>0)=true:=aI (by omega)
 have n0:¬(m.cs.length:Int)=0:=by omega
 have e1:=fH a m.cs.length
 have hk:=Nat.mod_lt a (show 0<m.cs.length by omega)
 generalize a % m.cs.length=k at e1 hk
 obtain ⟨x,hx⟩:∃x,ac m.cs k=x:=⟨_,rfl⟩
 have hr:(m.cs.map eW)[k]? = some (eW x):=by rw [cQ,cO hk,hx];rfl
 obtain ⟨L,hL⟩:∃L,m.cs.set k { x with af:=gL .i64 x.af 1 }=L:=⟨_,rfl⟩
 have hLl:m.cs.length=L.length:=by rw [← hL,List.length_set]
 have hne:L≠m.cs:=by rw [← hL];exact fG hk (by rw [hx];intro e;exact qm rfl _ (congrArg (fun q=>q.af) e))
 refine dW (m':={ m with cs:=L }) ({ bT h with cs:=⟨by show L.length≤_;rw [← hLl];exact (bT h).cs.1,by show ∀x∈L,_;rw [← hL];exact fp (bT h).cs.2 ((bT h).cs.2 x (by rw [← hx,bD hk];exact List.getElem_mem hk))⟩ }) (fun h=>hne h.2.2.2.2.2.2.2.2.2.2.symm) (fun h=>hne h.2.2.2.2.2.2.2.2.2.2) ?_
 have hs:lc 906 1 3 k 0 (some ⟨75,3,m.cs.map eW,false⟩) (some [.int .i64 (gL .i64 x.af 1)])=some (.put 906 ⟨75,3,L.map eW,false⟩):=by
  refine (gb (q:=false) hr rfl rfl (by simp [bv])).trans ?_
  rw [← hL,List.map_set]
  rfl
 have hl:∀n off,oz n 3 k off (some ⟨75,3,m.cs.map eW,false⟩)=gd n ((eW x).drop off):=fun n off=>fE hr
 refine ab (ic:=cD.body) aq fL rfl rfl ?_
 simp only [go_sem,cD,cE]
 refine bt (cK m h) [901,48,902,80,85,903,116,904,905,906] (fun p hp=>by cases hp) ?_ (fun p hp=>by cases hp) ?_
 ·intro p hp
  simp only [cj,List.not_mem_nil,or_false] at hp
  rcases hp with rfl | rfl | rfl | rfl | rfl | rfl | rfl | rfl | rfl | rfl
  all_goals exact .inr ⟨by simp,by simp,.inr rfl⟩
 simp only [go_sem,g0,n0,e1,hl,hs,bv,gX]
 refine ⟨⟨by omega,by omega⟩,⟨by omega,by omega⟩,?_⟩
 exact aE [901,48,902,80,85,903,116,904,905,906] (by simp only [go_sem,aB,ap,hLl]) rfl
theorem Rz (m:Md) (h:mH m) (hb:iL 140737488355328 m) (a:Nat):j1 m 11 a:=by
 by_cases l0:m.fs.length=0
 ·have g0:decide ((m.fs.length:Int)>0)=false:=az (by omega)
  refine fI h ?_
  refine ab (ic:=cD.body) aq fL rfl rfl ?_
  simp only [go_sem,cD,cE]
  refine bt (cK m h) [901,48,902,80,85,903,116,904,905,906] (fun p hp=>by cases hp) ?_ (fun p hp=>by cases hp) ?_
  ·intro p hp
   simp only [cj,List.not_mem_nil,or_false] at hp
   rcases hp with rfl | rfl | rfl | rfl | rfl | rfl | rfl | rfl | rfl | rfl
   all_goals exact .inr ⟨by simp,by simp,.inr rfl⟩
  simp only [go_sem,g0]
  exact aE [901,48,902,80,85,903,116,904,905,906] (by simp only [go_sem,aB,ap]) rfl
 have g0:decide ((m.fs.length:Int)>0)=true:=aI (by omega)
 have n0:¬(m.fs.length:Int)=0:=by omega
 have e1:=fH a m.fs.length
 have hk:=Nat.mod_lt a (show 0<m.fs.length by omega)
 generalize a % m.fs.length=k at e1 hk
 have hc:=Fc m h k hk
 simp only [gU hk] at hc
 obtain ⟨x,hx⟩:∃x,ac m.fs k=x:=⟨_,rfl⟩
 rw [hx] at hc
 have hxc:x∈m.fs:=by rw [← hx,bD hk];exact List.getElem_mem hk
 have hxl:=h.fs.2 x hxc
 have hgt:∀r,((m.fs.map bF).set k r)[k]? = some r:=fun r=>List.getElem?_set_self (by simpa using hk)
 have hl:∀n off r,oz n 3 k off (some ⟨64,3,(m.fs.map bF).set k r,true⟩)=gd n (r.drop off):=fun n off r=>fE (hgt r)
 have hB1:∀j,(m.fs.map bF).map (fun r=>r.map (bW j))=m.fs.map bF:=fun j=>eY (fun x=>by simp [bF,bW,mC,mP]) _
 have hU:fq (m.fs.map bF)=true:=km (fun x=>by simp [fq,bF,fC,fY]) _
 have hB2:∀j o,(m.fs.map bF).map (fun r=>r.map (ci j o))=m.fs.map bF:=fun j o=>eY (fun x=>by simp [bF,ci,cT]) _
 have hfin:∀B,(m.fs.map bF).set k [.int .i64 x.t,.sl 1 (x.lo.map dF),.sl 9 (B.map aW)]=(m.fs.set k { x with b:=B }).map bF:=fun B=>by rw [List.map_set];rfl
 simp only [eN] at hc
 by_cases y0:x.b.length=0
 ·have g1:decide ((x.b.length:Int)>0)=false:=az (by omega)
  refine fI h ?_
  have hse:m.fs.set k { x with b:=x.b }=m.fs:=by
   refine List.ext_getElem? fun i=>?_
   rw [List.getElem?_set]
   split
   ·rename_i hi
    subst hi
    simp [hk,← hx,bD hk]
   ·rfl
  refine ab (ic:=cD.body) aq fL rfl rfl ?_
  simp only [go_sem,cD,cE]
  refine bt hc [901,48,902,80,85,903,116,904,905,906,911] (fun p hp=>by cases hp) ?_ (fun p hp=>by cases hp) ?_
  ·intro p hp
   simp only [cj,List.not_mem_nil,or_false] at hp
   rcases hp with rfl | rfl | rfl | rfl | rfl | rfl | rfl | rfl | rfl | rfl | rfl
   all_goals exact .inr ⟨by simp,by simp,.inr rfl⟩
  simp only [go_sem,g0,n0,e1,hl,hB1,hB2,List.map_set,gX,g1]
  refine ⟨⟨by omega,by omega⟩,?_⟩
  exact eT ((Wk.frzs [911] _).trans (Wk.unr _ 902 (by rfl) (by simp only [go_sem,List.map_set,hB2,aB,ap];exact jj hU (by rfl)))) [901,48,902,80,85,903,116,904,905,906] (by simp only [go_sem,List.map_set,hB2,aB,ap,hfin,og,j2,j3,hse]) rfl
 have g1:decide ((x.b.length:Int)>0)=true:=aI (by omega)
 have n1:¬(x.b.length:Int)=0:=by omega
 have e2:=fH a x.b.length
 have hj:=Nat.mod_lt a (show 0<x.b.length by omega)
 generalize a % x.b.length=j at e2 hj
 obtain ⟨y,hy⟩:∃y,ac x.b j=y:=⟨_,rfl⟩
 have hyc:y∈x.b:=by rw [← hy,bD hj];exact List.getElem_mem hj
 have hr:(x.b.map aW)[j]? = some (aW y):=by rw [cQ,cO hj,hy];rfl
 have hl2:∀n off,oz n 9 j off (some ⟨83,9,x.b.map aW,false⟩)=gd n ((aW y).drop off):=fun n off=>fE hr
 obtain ⟨B,hB⟩:∃B,x.b.set j { y with n:=gL .u64 y.n 1 }=B:=⟨_,rfl⟩
 have hBl:x.b.length=B.length:=by rw [← hB,List.length_set]
 have hs:lc 911 1 9 j 3 (some ⟨83,9,x.b.map aW,false⟩) (some [.int .u64 (gL .u64 y.n 1)])=some (.put 911 ⟨83,9,B.map aW,false⟩):=by
  refine (gb (q:=false) hr rfl rfl (by simp [aW])).trans ?_
  rw [← hB,List.map_set]
  rfl
 have hBn:B≠x.b:=by rw [← hB];exact fG hj (by rw [hy];intro e;exact qm (k:=.u64) rfl y.n (congrArg (fun q=>q.n) e))
 obtain ⟨L,hL⟩:∃L,m.fs.set k { x with b:=B }=L:=⟨_,rfl⟩
 have hLl:m.fs.length=L.length:=by rw [← hL,List.length_set]
 have hne:L≠m.fs:=by rw [← hL];exact fG hk (by rw [hx];intro e;exact hBn (congrArg (fun q=>q.b) e))
 replace hfin:=hfin B
 rw [hL] at hfin
 have sx:=(bT h).fs.2 x hxc
 have sB:qg B:=⟨by rw [← hBl];exact sx.2.1,by rw [← hB];exact fp sx.2.2 ⟨(sx.2.2 y hyc).1,(sx.2.2 y hyc).2.1,Nx _⟩⟩
 refine dW (m':={ m with fs:=L }) ({ bT h with fs:=⟨by show L.length≤_;rw [← hLl];exact (bT h).fs.1,by show ∀x∈L,_;rw [← hL];exact fp (bT h).fs.2 ⟨sx.1,sB⟩⟩ }) (fun h=>hne h.2.2.2.2.1.symm) (fun h=>hne h.2.2.2.2.1) ?_
 refine ab (ic:=cD.body) aq fL rfl rfl ?_
 simp only [go_sem,cD,cE]
 refine bt hc [901,48,902,80,85,903,116,904,905,906,911] (fun p hp=>by cases hp) ?_ (fun p hp=>by cases hp) ?_
 ·intro p hp
  simp only [cj,List.not_mem_nil,or_false] at hp
  rcases hp with rfl | rfl | rfl | rfl | rfl | rfl | rfl | rfl | rfl | rfl | rfl
  all_goals exact .inr ⟨by simp,by simp,.inr rfl⟩
 simp only [go_sem,g0,n0,e1,hl,hB1,hB2,List.map_set,gX,g1,n1,e2,hl2,hs,dc,IK]
 refine ⟨⟨by omega,by omega⟩,⟨by omega,by omega⟩,⟨by omega,by omega⟩,⟨by omega,by omega⟩,?_⟩
 exact eT ((Wk.frzs [911] _).trans (Wk.unr _ 902 (by rfl) (by simp only [go_sem,List.map_set,hB2,aB,hLl,hBl,ap];exact jj hU (by rfl)))) [901,48,902,80,85,903,116,904,905,906] (by simp only [go_sem,List.map_set,hB2,aB,ap,hLl,hBl,hfin,og,j2,j3,hL]) rfl
end
section
def qh (n:Int) (l:List Nat):Int:=l.foldl (fun (n:Int) (k:Nat)=>IntKind.i64.wrap (n+(k:Int))) n
theorem qi {α:Type} [Inhabited α] (g:α→Nat) {l:List α} {i:Nat} (h:i<l.length) (n:Int):qh n ((l.take (i+1)).map g)=IntKind.i64.wrap (qh n ((l.take i).map g)+(g (ac l i):Int)):=by
 rw [tx h];simp [qh]
def Dy (n:Int) (l:List El):Int:=l.foldl (fun n x=>qh (IntKind.i64.wrap (n+(x.o.length:Int))) (x.it.map List.length)) n
theorem Ia {l:List El} {i:Nat} (h:i<l.length) (n:Int):Dy n (l.take (i+1))=qh (IntKind.i64.wrap (Dy n (l.take i)+((ac l i).o.length:Int))) ((ac l i).it.map List.length):=by
 rw [tx h];simp [Dy]
def zX (m:Md):Int:=qh 0 (m.fs.map fun x=>x.b.length)
def sS (m:Md):Int:=qh (zX m) (m.gs.map fun x=>x.i.length)
def zY (m:Md):Int:=Dy (sS m) m.els
def IJ (m:Md):Int:=qh (zY m) (m.ds.map fun x=>x.o.length)
attribute [local go_sem] fz fZ bj bK aQ bB bn
theorem AF (m:Md) (h:Gk m):aj Tryz.prog MS [cE m] (.int .i64 (IJ m)):=by
 refine ab (ic:=Hd.body) aq Pt rfl rfl ?_
 simp only [go_sem,Hd,cE]
 refine an (fun i:Nat=>⟨[(17,.int .i64 (i:Nat)),(16,.int .i64 m.fs.length),(15,.sl 3 (m.fs.map bF)),(3,.int .i64 (qh 0 ((m.fs.take i).map fun x=>x.b.length))),(1,.mp 1 12 0 0)],[(1,⟨33,12,[dQ m],true⟩)]⟩) (fun i=>i≤m.fs.length) (fun i=>m.fs.length - i) 0 (cC _) (Wk.of ?_ ?_) ?_
 ·simp only [go_sem,bE,List.map_nil,qh,List.foldl_nil];try simp
 ·simp only [go_sem]
 intro i hi
 by_cases h1:(i:Int)<(m.fs.length:Int)
 ·have hi':i<m.fs.length:=by omega
  have e8:=dz hi' (by have:=h.fs.1;omega)
  have ht:=qi (fun x:Cd=>x.b.length) hi' 0
  simp only [go_sem,aI h1]
  refine ⟨by omega,h1,aC (i+1) (show i+1≤m.fs.length by omega) (show m.fs.length - (i+1)<m.fs.length - i by omega) (Wk.of ?_ ?_)⟩
  ·simp only [go_sem,e8,ht];try simp
  ·simp only [go_sem]
 obtain rfl:i=m.fs.length:=by omega
 rw [bJ,show qh 0 (m.fs.map fun x=>x.b.length)=zX m from rfl]
 simp only [go_sem,az h1]
 clear hi h1
 refine an (fun i:Nat=>⟨[(30,.int .i64 (i:Nat)),(29,.int .i64 m.gs.length),(28,.sl 3 (m.gs.map df)),(3,.int .i64 (qh (zX m) ((m.gs.take i).map fun x=>x.i.length))),(1,.mp 1 12 0 0)],[(1,⟨33,12,[dQ m],true⟩)]⟩) (fun i=>i≤m.gs.length) (fun i=>m.gs.length - i) 0 (cC _) (Wk.of ?_ ?_) ?_
 ·simp only [go_sem,bE,List.map_nil,qh,List.foldl_nil];try simp
 ·simp only [go_sem]
 intro i hi
 by_cases h1:(i:Int)<(m.gs.length:Int)
 ·have hi':i<m.gs.length:=by omega
  have e8:=dz hi' (by have:=h.gs.1;omega)
  have ht:=qi (fun x:Gd=>x.i.length) hi' (zX m)
  simp only [go_sem,aI h1]
  refine ⟨by omega,h1,aC (i+1) (show i+1≤m.gs.length by omega) (show m.gs.length - (i+1)<m.gs.length - i by omega) (Wk.of ?_ ?_)⟩
  ·simp only [go_sem,e8,ht];try simp
  ·simp only [go_sem]
 obtain rfl:i=m.gs.length:=by omega
 rw [bJ,show qh (zX m) (m.gs.map fun x=>x.i.length)=sS m from rfl]
 simp only [go_sem,az h1]
 clear hi h1
 refine an (fun i:Nat=>⟨[(43,.int .i64 (i:Nat)),(42,.int .i64 m.els.length),(41,.sl 5 (m.els.map cb)),(3,.int .i64 (Dy (sS m) (m.els.take i))),(1,.mp 1 12 0 0)],[(1,⟨33,12,[dQ m],true⟩)]⟩) (fun i=>i≤m.els.length) (fun i=>m.els.length - i) 0 (cC _) (Wk.of ?_ ?_) ?_
 ·simp only [go_sem,bE,Dy,List.foldl_nil];try simp
 ·simp only [go_sem]
 intro i hi
 by_cases h1:(i:Int)<(m.els.length:Int)
 ·have hi':i<m.els.length:=by omega
  have e8:=dz hi' (by have:=h.els.1;omega)
  have ht:=Ia hi' (sS m)
  have hit:=(h.els.2 (ac m.els i) (by rw [bD hi'];exact List.getElem_mem hi')).2.1
  simp only [go_sem,aI h1]
  refine ⟨by omega,h1,?_⟩
  refine an (fun q:Nat=>⟨[(55,.int .i64 (q:Nat)),(54,.int .i64 (ac m.els i).it.length),(53,.sl 1 ((ac m.els i).it.map bY)),(3,.int .i64 (qh (IntKind.i64.wrap (Dy (sS m) (m.els.take i)+((ac m.els i).o.length:Int))) (((ac m.els i).it.take q).map List.length))),(43,.int .i64 i),(42,.int .i64 m.els.length),(41,.sl 5 (m.els.map cb)),(1,.mp 1 12 0 0)],[(1,⟨33,12,[dQ m],true⟩)]⟩) (fun q=>q≤(ac m.els i).it.length) (fun q=>(ac m.els i).it.length - q) 0 (cC _) (Wk.of ?_ ?_) ?_
  ·simp only [go_sem,bE,List.map_nil,qh,List.foldl_nil];try simp
  ·simp only [go_sem]
  intro q hq
  by_cases q1:(q:Int)<((ac m.els i).it.length:Int)
  ·have hq':q<(ac m.els i).it.length:=by omega
   have e9:=dz hq' (by omega)
   have hu:=qi List.length hq' (IntKind.i64.wrap (Dy (sS m) (m.els.take i)+((ac m.els i).o.length:Int)))
   simp only [go_sem,aI q1]
   refine ⟨by omega,q1,aC (q+1) (show q+1≤(ac m.els i).it.length by omega) (show (ac m.els i).it.length - (q+1)<(ac m.els i).it.length - q by omega) (Wk.of ?_ ?_)⟩
   ·simp only [go_sem,e9,hu];try simp
   ·simp only [go_sem]
  obtain rfl:q=(ac m.els i).it.length:=by omega
  rw [bJ,← ht]
  simp only [go_sem,az q1]
  refine aC (i+1) (show i+1≤m.els.length by omega) (show m.els.length - (i+1)<m.els.length - i by omega) (Wk.of ?_ ?_)
  ·simp only [go_sem,e8];try simp
  ·simp only [go_sem]
 obtain rfl:i=m.els.length:=by omega
 rw [bJ,show Dy (sS m) m.els=zY m from rfl]
 simp only [go_sem,az h1]
 clear hi h1
 refine an (fun i:Nat=>⟨[(68,.int .i64 (i:Nat)),(67,.int .i64 m.ds.length),(66,.sl 4 (m.ds.map cM)),(3,.int .i64 (qh (zY m) ((m.ds.take i).map fun x=>x.o.length))),(1,.mp 1 12 0 0)],[(1,⟨33,12,[dQ m],true⟩)]⟩) (fun i=>i≤m.ds.length) (fun i=>m.ds.length - i) 0 (cC _) (Wk.of ?_ ?_) ?_
 ·simp only [go_sem,bE,List.map_nil,qh,List.foldl_nil];try simp
 ·simp only [go_sem]
 intro i hi
 by_cases h1:(i:Int)<(m.ds.length:Int)
 ·have hi':i<m.ds.length:=by omega
  have e8:=dz hi' (by have:=h.ds.1;omega)
  have ht:=qi (fun x:Da=>x.o.length) hi' (zY m)
  simp only [go_sem,aI h1]
  refine ⟨by omega,h1,aC (i+1) (show i+1≤m.ds.length by omega) (show m.ds.length - (i+1)<m.ds.length - i by omega) (Wk.of ?_ ?_)⟩
  ·simp only [go_sem,e8,ht];try simp
  ·simp only [go_sem]
 obtain rfl:i=m.ds.length:=by omega
 rw [bJ,show qh (zY m) (m.ds.map fun x=>x.o.length)=IJ m from rfl]
 simp only [go_sem,az h1]
 clear hi h1
 exact ak
end
section
def Ge (x:cS):Bool:=!decide ((x.lb.length:Int)>100) && !decide ((x.ty.length:Int)>100)
def sY (l:List cS):Bool:=l.all Ge
theorem Gc {l:List cS} {k:Nat} (hk:k<l.length) (h:Ge (ac l k)=false):sY l=false:=by
 unfold sY
 rw [List.all_eq_false]
 exact ⟨ac l k,by rw [bD hk];exact List.getElem_mem hk,by simp [h]⟩
theorem M0 {l:List cS} (h:∀k,k<l.length→Ge (ac l k)=true):sY l=true:=by
 unfold sY
 rw [de]
 intro x hx
 obtain ⟨i,hi,rfl⟩:=List.getElem_of_mem hx
 have:=h i hi
 rwa [bD hi] at this
def nZ:Int→List (List cS)→Bool
 | _,[]=>true
 | n,l :: r=>if IntKind.i64.wrap (n+(l.length:Int))>3000 then false else if sY l=false then false else nZ (IntKind.i64.wrap (n+(l.length:Int))) r
theorem J6 {n:Int} {l:List (List cS)} {i:Nat} (h:i<l.length):nZ n (l.drop i)=if IntKind.i64.wrap (n+((ac l i).length:Int))>3000 then false else if sY (ac l i)=false then false else nZ (IntKind.i64.wrap (n+((ac l i).length:Int))) (l.drop (i+1)):=by
 rw [pK h,nZ]
attribute [local go_sem] fz bn dc aW
theorem Fv (L:List (List cS)) (hL:L.length≤1048576) (hb:∀l∈L,l.length≤9223372036854775807):aj Tryz.prog Q3 [.sl 1 (L.map bY),.int .i64 3000] (.bool (nZ 0 L)):=by
 refine ab (ic:=Hn.body) aq PJ rfl rfl ?_
 obtain ⟨G,hG⟩:∃G,nZ 0 L=G:=⟨_,rfl⟩
 rw [hG]
 simp only [go_sem,Hn]
 refine an (fun q:Nat×Int=>⟨[(6,.int .i64 q.1),(5,.int .i64 q.2),(0,.sl 1 (L.map bY)),(1,.int .i64 3000)],[]⟩) (fun q=>q.1≤L.length∧G=nZ q.2 (L.drop q.1)) (fun q=>L.length - q.1) (0,0) ⟨cC _,hG.symm⟩ (Wk.of ?_ ?_) ?_
 ·simp only [go_sem];try simp
 ·simp only [go_sem]
 rintro ⟨j,n⟩ ⟨hj,hx⟩
 simp only at hj hx
 by_cases h1:(j:Int)<(L.length:Int)
 rotate_left
 ·rw [iX (by omega)] at hx
  obtain rfl:G=true:=hx
  simp only [go_sem,az h1]
  exact ak
 have hj':j<L.length:=by omega
 have e8:=dz hj' (by omega)
 have hlb:=aO hb hj'
 rw [J6 hj'] at hx
 by_cases q1:IntKind.i64.wrap (n+((ac L j).length:Int))>3000
 ·rw [bz q1] at hx
  subst hx
  simp only [go_sem,aI h1,aI q1]
  refine ⟨by omega,h1,?_⟩
  exact ak
 rw [aV q1] at hx
 simp only [go_sem,aI h1,az q1]
 refine ⟨by omega,h1,?_⟩
 generalize IntKind.i64.wrap (n+((ac L j).length:Int))=N at *
 refine an (fun k:Nat=>⟨[(7,.int .i64 k),(6,.int .i64 j),(5,.int .i64 N),(0,.sl 1 (L.map bY)),(1,.int .i64 3000)],[]⟩) (fun k=>k≤(ac L j).length∧∀i,i<k→Ge (ac (ac L j) i)=true) (fun k=>(ac L j).length - k) 0 ⟨cC _,fun k hk=>by omega⟩ (Wk.of ?_ ?_) ?_
 ·simp only [go_sem];try simp
 ·simp only [go_sem]
 rintro k ⟨hk,hy⟩
 by_cases g1:(k:Int)<((ac L j).length:Int)
 rotate_left
 ·rw [aV (by rw [M0 fun i hi=>hy i (by omega)];decide)] at hx
  simp only [go_sem,az g1]
  refine ⟨by omega,h1,?_⟩
  refine aC (j+1,N) ⟨show j+1≤L.length by omega,hx⟩ (show L.length - (j+1)<L.length - j by omega) (Wk.of ?_ ?_)
  ·simp only [go_sem,e8];try simp
  ·simp only [go_sem]
 have hk':k<(ac L j).length:=by omega
 have e9:=dz hk' (by omega)
 by_cases q2:((ac (ac L j) k).lb.length:Int)>100
 ·rw [bz (Gc hk' (by unfold Ge;rw [aI q2];rfl))] at hx
  subst hx
  simp only [go_sem,aI g1,aI q2]
  refine ⟨by omega,h1,by omega,h1,by omega,g1,?_⟩
  exact ak
 by_cases q3:((ac (ac L j) k).ty.length:Int)>100
 ·rw [bz (Gc hk' (by unfold Ge;rw [aI q3];simp))] at hx
  subst hx
  simp only [go_sem,aI g1,az q2,aI q3]
  refine ⟨by omega,h1,by omega,h1,by omega,g1,by omega,h1,by omega,g1,?_⟩
  exact ak
 simp only [go_sem,aI g1,az q2,az q3]
 refine ⟨by omega,h1,by omega,h1,by omega,g1,by omega,h1,by omega,g1,?_⟩
 refine aC (k+1) ⟨show k+1≤(ac L j).length by omega,fun i hi=>?_⟩ (show (ac L j).length - (k+1)<(ac L j).length - k by omega) (Wk.of ?_ ?_)
 ·rcases cB i k with z | z
  ·exact hy i z
  ·rw [show i=k by omega]
   unfold Ge
   rw [az q2,az q3];rfl
 ·simp only [go_sem,e9];try simp
 ·simp only [go_sem]
end
section
structure Sh (m:Md):Prop where
 ts:m.ts.length≤100
 ims:m.ims.length≤100
 fs:m.fs.length≤100
 tbs:m.tbs.length≤100
 ms:m.ms.length≤100
 gs:m.gs.length≤100
 exs:m.exs.length≤100
 els:m.els.length≤100
 ds:m.ds.length≤100
 cs:m.cs.length≤100
 it:∀x∈m.els,x.it.length≤300
attribute [local go_sem] fz fZ bq ce bj bK cy aQ bB bv bn
end
end Go.Proofs.YteephfapgoncgaaGreatDoor