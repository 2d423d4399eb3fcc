import Derived.Test.YtdfofedlbljnhaaGreatDoorQs
set_option linter.all false
set_option maxRecDepth 100000
set_option maxHeartbeats 40000000
namespace Go.Proofs.YtdfofedlbljnhaaGreatDoor
section
open Go Go.Mw
def dm (a b:Md):Prop:=a.hs=b.hs∧(a.hs=true→a.st=b.st)∧a.ts=b.ts∧a.ims=b.ims∧a.fs=b.fs∧(a.tbs=b.tbs∧a.ms=b.ms)∧a.gs=b.gs∧a.exs=b.exs∧a.els=b.els∧a.ds=b.ds∧a.cs=b.cs
instance (a b:Md):Decidable (dm a b):=by unfold dm;exact inferInstance
attribute [local go_sem] di bC dt db
theorem Y6 (a b:Md) (ha:a.tbs.length≤140737488355328) (hb:a.ms.length≤140737488355328):ao pg yw [dH a,dH b] (.bool (decide (a.tbs=b.tbs∧a.ms=b.ms))):=by
 refine aL gp ?_
 by_cases l1:(a.tbs.length:Int)=(b.tbs.length:Int)
 rotate_left
 ·rw [aQ (fun h=>l1 (by rw [h.1]))]
  simp only [go_sem,gp,dH,bv l1]
  exact aj
 by_cases l2:(a.ms.length:Int)=(b.ms.length:Int)
 rotate_left
 ·rw [aQ (fun h=>l2 (by rw [h.2]))]
  simp only [go_sem,gp,dH,aD l1,bv l2]
  exact aj
 simp only [go_sem,gp,dH,aD l1,aD l2]
 refine aw (fun j:Nat=>⟨[(5,.int .i64 j),(2,.mp 2 12 0 0),(3,.mp 3 12 0 0)],[(2,⟨33,12,[G3 a],true⟩),(3,⟨33,12,[G3 b],true⟩)]⟩) (fun j=>j≤a.tbs.length∧∀k,k<j→ac a.tbs k=ac b.tbs k) (fun j=>a.tbs.length - j) 0 ⟨cX _,fun k hk=>by omega⟩ (Wk.of ?_ ?_) ?_
 ·simp only [go_sem];try simp
 ·simp only [go_sem]
 rintro j ⟨hj,hx⟩
 by_cases h1:(j:Int)<(a.tbs.length:Int)
 ·have hj':j<a.tbs.length:=by omega
  have hjb:(j:Int)<(b.tbs.length:Int):=by omega
  have e8:=dz hj' (by omega)
  by_cases h2:ac a.tbs j=ac b.tbs j
  ·simp only [go_sem,aO h1,aax,aO h2,dh]
   refine ⟨by omega,h1,by omega,hjb,aG (j+1) ⟨show j+1≤a.tbs.length by omega,fun k hk=>?_⟩ (show a.tbs.length - (j+1)<a.tbs.length - j by omega) (Wk.of ?_ ?_)⟩
   ·rcases fX k j with h | h
    ·exact hx k h
    ·rw [show k=j by omega];exact h2
   ·simp only [go_sem,e8];try simp
   ·simp only [go_sem]
  ·rw [aQ (fun e=>h2 (by rw [e.1]))]
   simp only [go_sem,aO h1,aax,aQ h2,cD]
   refine ⟨by omega,h1,by omega,hjb,?_⟩
   exact aj
 have g1:a.tbs=b.tbs:=kX (by omega) fun k hk=>hx k (by omega)
 simp only [go_sem,aQ h1]
 clear hx h1 hj
 refine aw (fun j:Nat=>⟨[(6,.int .i64 j),(2,.mp 2 12 0 0),(3,.mp 3 12 0 0)],[(2,⟨33,12,[G3 a],true⟩),(3,⟨33,12,[G3 b],true⟩)]⟩) (fun j=>j≤a.ms.length∧∀k,k<j→ac a.ms k=ac b.ms k) (fun j=>a.ms.length - j) 0 ⟨cX _,fun k hk=>by omega⟩ (Wk.of ?_ ?_) ?_
 ·simp only [go_sem];try simp
 ·simp only [go_sem]
 rintro j ⟨hj,hx⟩
 by_cases h1:(j:Int)<(a.ms.length:Int)
 ·have hj':j<a.ms.length:=by omega
  have hjb:(j:Int)<(b.ms.length:Int):=by omega
  have e8:=dz hj' (by omega)
  by_cases h2:ac a.ms j=ac b.ms j
  ·simp only [go_sem,aO h1,Z_,aO h2,dh]
   refine ⟨by omega,h1,by omega,hjb,aG (j+1) ⟨show j+1≤a.ms.length by omega,fun k hk=>?_⟩ (show a.ms.length - (j+1)<a.ms.length - j by omega) (Wk.of ?_ ?_)⟩
   ·rcases fX k j with h | h
    ·exact hx k h
    ·rw [show k=j by omega];exact h2
   ·simp only [go_sem,e8];try simp
   ·simp only [go_sem]
  ·rw [aQ (fun e=>h2 (by rw [e.2]))]
   simp only [go_sem,aO h1,Z_,aQ h2,cD]
   refine ⟨by omega,h1,by omega,hjb,?_⟩
   exact aj
 have g2:a.ms=b.ms:=kX (by omega) fun k hk=>hx k (by omega)
 rw [aO ⟨g1,g2⟩]
 simp only [go_sem,aQ h1]
 exact aj
theorem DC (a b:Md) (h:Gi a):ao pg Iy [dH a,dH b] (.bool (decide (dm a b))):=by
 refine aL aY ?_
 have d0:=Y7 a.ts b.ts ⟨gz h.ts.1 (by decide),h.ts.2⟩
 have d1:=adu a.ims b.ims (gz h.ims (by decide))
 have d2:=YZ a.fs b.fs ⟨gz h.fs.1 (by decide),h.fs.2⟩
 have d3:=Y6 a b h.tbs h.ms
 have d4:=Y2 a.gs b.gs ⟨gz h.gs.1 (by decide),h.gs.2⟩
 have d5:=adt a.exs b.exs (gz h.exs (by decide))
 have d6:=Y1 a.els b.els ⟨gz h.els.1 (by decide),h.els.2⟩
 have d7:=ads a.ds b.ds ⟨gz h.ds.1 (by decide),h.ds.2⟩
 have d8:=Y0 a.cs b.cs (gz h.cs.1 (by decide))
 simp only [dH,bC] at d3
 by_cases e1:a.hs=b.hs
 rotate_left
 ·rw [aQ (fun e:dm a b=>e1 e.1)]
  cases ha:a.hs<;>cases hb:b.hs
  ·exact absurd (ha.trans hb.symm) e1
  ·simp only [go_sem,aY,dH,ha,hb,show (false==true)=false from rfl,cD,dh]
   exact aj
  ·simp only [go_sem,aY,dH,ha,hb,show (true==false)=false from rfl,cD,dh]
   exact aj
  ·exact absurd (ha.trans hb.symm) e1
 cases ha:a.hs
 ·have hb:b.hs=false:=by rw [← e1];exact ha
  rw [ha,hb] at d3
  by_cases c0:a.ts=b.ts
  rotate_left
  ·rw [aQ c0] at d0
   rw [aQ (fun e:dm a b=>c0 e.2.2.1)]
   simp only [go_sem,aY,dH,ha,hb,show (false==false)=true from rfl,cD,dh]
   refine aa (d0) ?_
   exact aj
  rw [aO c0] at d0
  by_cases c1:a.ims=b.ims
  rotate_left
  ·rw [aQ c1] at d1
   rw [aQ (fun e:dm a b=>c1 e.2.2.2.1)]
   simp only [go_sem,aY,dH,ha,hb,show (false==false)=true from rfl,cD,dh]
   refine aa (d0) ?_
   refine aa (d1) ?_
   exact aj
  rw [aO c1] at d1
  by_cases c2:a.fs=b.fs
  rotate_left
  ·rw [aQ c2] at d2
   rw [aQ (fun e:dm a b=>c2 e.2.2.2.2.1)]
   simp only [go_sem,aY,dH,ha,hb,show (false==false)=true from rfl,cD,dh]
   refine aa (d0) ?_
   refine aa (d1) ?_
   refine aa (d2) ?_
   exact aj
  rw [aO c2] at d2
  by_cases c3:a.tbs=b.tbs∧a.ms=b.ms
  rotate_left
  ·rw [aQ c3] at d3
   rw [aQ (fun e:dm a b=>c3 e.2.2.2.2.2.1)]
   simp only [go_sem,aY,dH,ha,hb,show (false==false)=true from rfl,cD,dh]
   refine aa (d0) ?_
   refine aa (d1) ?_
   refine aa (d2) ?_
   refine aa (d3) ?_
   exact aj
  rw [aO c3] at d3
  by_cases c4:a.gs=b.gs
  rotate_left
  ·rw [aQ c4] at d4
   rw [aQ (fun e:dm a b=>c4 e.2.2.2.2.2.2.1)]
   simp only [go_sem,aY,dH,ha,hb,show (false==false)=true from rfl,cD,dh]
   refine aa (d0) ?_
   refine aa (d1) ?_
   refine aa (d2) ?_
   refine aa (d3) ?_
   refine aa (d4) ?_
   exact aj
  rw [aO c4] at d4
  by_cases c5:a.exs=b.exs
  rotate_left
  ·rw [aQ c5] at d5
   rw [aQ (fun e:dm a b=>c5 e.2.2.2.2.2.2.2.1)]
   simp only [go_sem,aY,dH,ha,hb,show (false==false)=true from rfl,cD,dh]
   refine aa (d0) ?_
   refine aa (d1) ?_
   refine aa (d2) ?_
   refine aa (d3) ?_
   refine aa (d4) ?_
   refine aa (d5) ?_
   exact aj
  rw [aO c5] at d5
  by_cases c6:a.els=b.els
  rotate_left
  ·rw [aQ c6] at d6
   rw [aQ (fun e:dm a b=>c6 e.2.2.2.2.2.2.2.2.1)]
   simp only [go_sem,aY,dH,ha,hb,show (false==false)=true from rfl,cD,dh]
   refine aa (d0) ?_
   refine aa (d1) ?_
   refine aa (d2) ?_
   refine aa (d3) ?_
   refine aa (d4) ?_
   refine aa (d5) ?_
   refine aa (d6) ?_
   exact aj
  rw [aO c6] at d6
  by_cases c7:a.ds=b.ds
  rotate_left
  ·rw [aQ c7] at d7
   rw [aQ (fun e:dm a b=>c7 e.2.2.2.2.2.2.2.2.2.1)]
   simp only [go_sem,aY,dH,ha,hb,show (false==false)=true from rfl,cD,dh]
   refine aa (d0) ?_
   refine aa (d1) ?_
   refine aa (d2) ?_
   refine aa (d3) ?_
   refine aa (d4) ?_
   refine aa (d5) ?_
   refine aa (d6) ?_
   refine aa (d7) ?_
   exact aj
  rw [aO c7] at d7
  by_cases c8:a.cs=b.cs
  rotate_left
  ·rw [aQ c8] at d8
   rw [aQ (fun e:dm a b=>c8 e.2.2.2.2.2.2.2.2.2.2)]
   simp only [go_sem,aY,dH,ha,hb,show (false==false)=true from rfl,cD,dh]
   refine aa (d0) ?_
   refine aa (d1) ?_
   refine aa (d2) ?_
   refine aa (d3) ?_
   refine aa (d4) ?_
   refine aa (d5) ?_
   refine aa (d6) ?_
   refine aa (d7) ?_
   refine aa (d8) ?_
   exact aj
  rw [aO c8] at d8
  rw [aO (show dm a b from ⟨e1,fun q=>absurd (ha.symm.trans q) (by decide),c0,c1,c2,c3,c4,c5,c6,c7,c8⟩)]
  simp only [go_sem,aY,dH,ha,hb,show (false==false)=true from rfl,cD,dh]
  refine aa (d0) ?_
  refine aa (d1) ?_
  refine aa (d2) ?_
  refine aa (d3) ?_
  refine aa (d4) ?_
  refine aa (d5) ?_
  refine aa (d6) ?_
  refine aa (d7) ?_
  refine aa (d8) ?_
  exact aj
 ·have hb:b.hs=true:=by rw [← e1];exact ha
  rw [ha,hb] at d3
  by_cases e2:a.st=b.st
  rotate_left
  ·rw [aQ (fun e:dm a b=>e2 (e.2.1 ha))]
   simp only [go_sem,aY,dH,ha,hb,show (true==true)=true from rfl,cD,dh,bv e2]
   exact aj
  by_cases c0:a.ts=b.ts
  rotate_left
  ·rw [aQ c0] at d0
   rw [aQ (fun e:dm a b=>c0 e.2.2.1)]
   simp only [go_sem,aY,dH,ha,hb,show (true==true)=true from rfl,cD,dh,aD e2]
   refine aa (d0) ?_
   exact aj
  rw [aO c0] at d0
  by_cases c1:a.ims=b.ims
  rotate_left
  ·rw [aQ c1] at d1
   rw [aQ (fun e:dm a b=>c1 e.2.2.2.1)]
   simp only [go_sem,aY,dH,ha,hb,show (true==true)=true from rfl,cD,dh,aD e2]
   refine aa (d0) ?_
   refine aa (d1) ?_
   exact aj
  rw [aO c1] at d1
  by_cases c2:a.fs=b.fs
  rotate_left
  ·rw [aQ c2] at d2
   rw [aQ (fun e:dm a b=>c2 e.2.2.2.2.1)]
   simp only [go_sem,aY,dH,ha,hb,show (true==true)=true from rfl,cD,dh,aD e2]
   refine aa (d0) ?_
   refine aa (d1) ?_
   refine aa (d2) ?_
   exact aj
  rw [aO c2] at d2
  by_cases c3:a.tbs=b.tbs∧a.ms=b.ms
  rotate_left
  ·rw [aQ c3] at d3
   rw [aQ (fun e:dm a b=>c3 e.2.2.2.2.2.1)]
   simp only [go_sem,aY,dH,ha,hb,show (true==true)=true from rfl,cD,dh,aD e2]
   refine aa (d0) ?_
   refine aa (d1) ?_
   refine aa (d2) ?_
   refine aa (d3) ?_
   exact aj
  rw [aO c3] at d3
  by_cases c4:a.gs=b.gs
  rotate_left
  ·rw [aQ c4] at d4
   rw [aQ (fun e:dm a b=>c4 e.2.2.2.2.2.2.1)]
   simp only [go_sem,aY,dH,ha,hb,show (true==true)=true from rfl,cD,dh,aD e2]
   refine aa (d0) ?_
   refine aa (d1) ?_
   refine aa (d2) ?_
   refine aa (d3) ?_
   refine aa (d4) ?_
   exact aj
  rw [aO c4] at d4
  by_cases c5:a.exs=b.exs
  rotate_left
  ·rw [aQ c5] at d5
   rw [aQ (fun e:dm a b=>c5 e.2.2.2.2.2.2.2.1)]
   simp only [go_sem,aY,dH,ha,hb,show (true==true)=true from rfl,cD,dh,aD e2]
   refine aa (d0) ?_
   refine aa (d1) ?_
   refine aa (d2) ?_
   refine aa (d3) ?_
   refine aa (d4) ?_
   refine aa (d5) ?_
   exact aj
  rw [aO c5] at d5
  by_cases c6:a.els=b.els
  rotate_left
  ·rw [aQ c6] at d6
   rw [aQ (fun e:dm a b=>c6 e.2.2.2.2.2.2.2.2.1)]
   simp only [go_sem,aY,dH,ha,hb,show (true==true)=true from rfl,cD,dh,aD e2]
   refine aa (d0) ?_
   refine aa (d1) ?_
   refine aa (d2) ?_
   refine aa (d3) ?_
   refine aa (d4) ?_
   refine aa (d5) ?_
   refine aa (d6) ?_
   exact aj
  rw [aO c6] at d6
  by_cases c7:a.ds=b.ds
  rotate_left
  ·rw [aQ c7] at d7
   rw [aQ (fun e:dm a b=>c7 e.2.2.2.2.2.2.2.2.2.1)]
   simp only [go_sem,aY,dH,ha,hb,show (true==true)=true from rfl,cD,dh,aD e2]
   refine aa (d0) ?_
   refine aa (d1) ?_
   refine aa (d2) ?_
   refine aa (d3) ?_
   refine aa (d4) ?_
   refine aa (d5) ?_
   refine aa (d6) ?_
   refine aa (d7) ?_
   exact aj
  rw [aO c7] at d7
  by_cases c8:a.cs=b.cs
  rotate_left
  ·rw [aQ c8] at d8
   rw [aQ (fun e:dm a b=>c8 e.2.2.2.2.2.2.2.2.2.2)]
   simp only [go_sem,aY,dH,ha,hb,show (true==true)=true from rfl,cD,dh,aD e2]
   refine aa (d0) ?_
   refine aa (d1) ?_
   refine aa (d2) ?_
   refine aa (d3) ?_
   refine aa (d4) ?_
   refine aa (d5) ?_
   refine aa (d6) ?_
   refine aa (d7) ?_
   refine aa (d8) ?_
   exact aj
  rw [aO c8] at d8
  rw [aO (show dm a b from ⟨e1,fun _=>e2,c0,c1,c2,c3,c4,c5,c6,c7,c8⟩)]
  simp only [go_sem,aY,dH,ha,hb,show (true==true)=true from rfl,cD,dh,aD e2]
  refine aa (d0) ?_
  refine aa (d1) ?_
  refine aa (d2) ?_
  refine aa (d3) ?_
  refine aa (d4) ?_
  refine aa (d5) ?_
  refine aa (d6) ?_
  refine aa (d7) ?_
  refine aa (d8) ?_
  exact aj
end
open Go Go.Mw
theorem yF (m:Md):∀p∈kq m,1≤p∧p≤12:=fun p hp=>by
 rw [rX] at hp
 simp only [fA] at hp
 rcases hp with (((((((((((h | h) | h) | h) | h) | h) | h) | h) | h) | h) | h) | h)
 all_goals
  have:=Mo h
  omega
theorem N7 {c:Prop} [Decidable c] {p x:Int}:x∈lq c p↔c∧x=p:=by
 unfold lq
 by_cases h:c
 ·rw [ap h];simp [h]
 ·rw [ah h];simp [h]
theorem uq {m:Md} {p:Int} (h:p∈kq m):(p=1→m.ts.length>0)∧(p=2→m.ims.length>0)∧(p=3→m.fs.length>0)∧(p=4→m.tbs.length>0)∧(p=5→m.ms.length>0)∧(p=6→m.gs.length>0)∧(p=7→m.exs.length>0)∧(p=8→m.hs=true)∧(p=9→m.els.length>0)∧(p=10→m.ds.length>0)∧(p=11→m.fs.length>0)∧(p=12→m.ds.length>0):=by
 rw [rX] at h
 simp only [fA,N7] at h
 rcases h with (((((((((((h | h) | h) | h) | h) | h) | h) | h) | h) | h) | h) | h)
 all_goals
  obtain ⟨h1,rfl⟩:=h
  refine ⟨fun q=>?_,fun q=>?_,fun q=>?_,fun q=>?_,fun q=>?_,fun q=>?_,fun q=>?_,fun q=>?_,fun q=>?_,fun q=>?_,fun q=>?_,fun q=>?_⟩
  all_goals first | exact h1 | (exfalso;omega)
theorem yW {m n:Md}:dm m n↔pt m=pt n:=by
 obtain ⟨a1,a2,a3,a4,a5,a6,a7,a8,a9,a10,a11,a12⟩:=m
 obtain ⟨b1,b2,b3,b4,b5,b6,b7,b8,b9,b10,b11,b12⟩:=n
 unfold dm pt
 simp only [Md.mk.injEq]
 constructor
 ·rintro ⟨h1,h2,h3,h4,h5,⟨h6,h6b⟩,h7,h8,h9,h10,h11⟩
  subst h1
  refine ⟨h3,h4,h5,h6,h6b,h7,h8,rfl,?_,h9,h10,h11⟩
  cases a8
  ·rfl
  ·simp [h2 rfl]
 ·rintro ⟨h1,h2,h3,h4,h5,h6,h7,h8,h9,h10,h11,h12⟩
  subst h8
  refine ⟨rfl,fun q=>?_,h1,h2,h3,⟨h4,h5⟩,h6,h7,h10,h11,h12⟩
  rw [q] at h9
  simpa using h9
theorem Fj:∀(l:List Nat) (n:Nat),n+l.sum<9223372036854775808→BU n l=((n+l.sum:Nat):Int)
 | [],n,_=>by simp [BU]
 | k :: l,n,h=>by
  rw [List.sum_cons] at h
  have e:IntKind.i64.wrap ((n:Int)+k)=((n+k:Nat):Int):=by rw [wi (by omega) (by omega)];omega
  show BU (IntKind.i64.wrap ((n:Int)+k)) l=_
  rw [e,Fj l (n+k) (by omega),List.sum_cons]
  congr 1
  omega
theorem RS:∀(l:List El) (n:Nat),n+cQ HS l<9223372036854775808→Nl n l=((n+cQ HS l:Nat):Int)
 | [],n,_=>by simp [Nl,cQ]
 | x :: l,n,h=>by
  rw [pf] at h
  have e0:HS x=x.o.length+cQ List.length x.it:=rfl
  have e:IntKind.i64.wrap ((n:Int)+x.o.length)=((n+x.o.length:Nat):Int):=by rw [wi (by omega) (by omega)];omega
  show Nl (BU (IntKind.i64.wrap ((n:Int)+x.o.length)) (x.it.map List.length)) l=_
  have h2:(x.it.map List.length).sum=cQ List.length x.it:=rfl
  rw [e,Fj _ _ (by rw [h2];omega),h2]
  have e3:n+x.o.length+cQ List.length x.it=n+HS x:=by omega
  rw [e3,RS l (n+HS x) (by omega),pf]
  congr 1
  omega
theorem Au {α:Type} {g:α→Nat} {c:Nat}:∀l:List α,(∀x∈l,g x≤c)→cQ g l≤c * l.length
 | [],_=>by simp [cQ]
 | x :: l,h=>by
  have:=Au l fun y hy=>h y (by simp [hy])
  have:=h x (by simp)
  rw [pf,eA,Nat.mul_add]
  omega
theorem NH {m:Md} (ht:mw m<9223372036854775808):Ei m=(mw m:Nat):=by
 unfold mw at ht
 unfold Ei Pw J_ Pv
 have e1:=Fj (m.fs.map fun x=>x.b.length) 0 (by show 0+cQ (fun x:Cd=>x.b.length) m.fs<_;omega)
 rw [Nat.zero_add] at e1
 rw [show ((0:Int))=((0:Nat):Int) from rfl,e1]
 change BU (Nl (BU ((cQ (fun x:Cd=>x.b.length) m.fs:Nat):Int) (m.gs.map fun x=>x.i.length)) m.els) (m.ds.map fun x=>x.o.length)=_
 have e2:=Fj (m.gs.map fun x=>x.i.length) (cQ (fun x:Cd=>x.b.length) m.fs) (by show _+cQ (fun x:Gd=>x.i.length) m.gs<_;omega)
 rw [e2]
 change BU (Nl ((cQ (fun x:Cd=>x.b.length) m.fs+cQ (fun x:Gd=>x.i.length) m.gs:Nat):Int) m.els) (m.ds.map fun x=>x.o.length)=_
 rw [RS _ _ (by omega)]
 have e4:=Fj (m.ds.map fun x=>x.o.length) (cQ (fun x:Cd=>x.b.length) m.fs+cQ (fun x:Gd=>x.i.length) m.gs+cQ HS m.els) (by show _+cQ (fun x:Da=>x.o.length) m.ds<_;omega)
 rw [e4]
 rfl
theorem SP {m:Md} (h:okM Dy m):Ei m=(mw m:Nat):=by
 have hfs:=h.fs.1
 have hgs:=h.gs.1
 have hel:=h.els.1
 have hds:=h.ds.1
 have a1:=Au (g:=fun x:Cd=>x.b.length) (c:=2048) m.fs fun x hx=>(h.bo x hx).1
 have a2:=Au (g:=fun x:Gd=>x.i.length) (c:=2048) m.gs fun x hx=>(h.gs.2 x hx).2.1
 have a3:=Au (g:=HS) (c:=1000000) m.els fun x hx=>by
  have h1:=(h.els.2 x hx).2.1.1
  have h2:=Au (g:=List.length) (c:=2048) x.it fun l hl=>((h.els.2 x hx).2.2 l hl).1
  have h3:=(DT (h.els.2 x hx).1).2.2.2.2
  unfold HS
  omega
 have a4:=Au (g:=fun x:Da=>x.o.length) (c:=2048) m.ds fun x hx=>(h.ds.2 x hx).2.2.2.1
 refine NH ?_
 unfold mw
 omega
theorem OD {m:Md} (h:okM Dy m) (p:Int):tot (FH m p)≤4200 * (ef m.cs p).length:=by
 have hc:∀c∈ef m.cs p,c.b.length≤4096∧c.n.length≤64:=fun c hc=>by
  have hx:=(List.mem_filter.1 hc).1
  have q:=h.cs.2 c hx
  unfold O2 at q
  by_cases q1:xP c.n≠0
  ·rw [ap q1] at q;exact absurd q q1
  rw [ah q1] at q
  by_cases q2:c.b.length>4096
  ·rw [ap q2] at q;cases q
  ·exact ⟨by omega,IM (Classical.not_not.1 q1)⟩
 unfold FH
 generalize ef m.cs p=l at *
 induction l with
 | nil=>exact bt _
 | cons c l ih =>
  have h1:=ih fun x hx=>hc x (by simp [hx])
  obtain ⟨h2,h3⟩:=hc c (by simp)
  rw [ej,tot,eA,cm,Nat.mul_add]
  simp only
  omega
theorem agB {m:Md} (h:vt m) (ht:mw m≤6000):tot (yI m)≤900000000∧(yI m).length≤10000∧∀s∈yI m,s.name.length≤64:=by
 have hcl:∀p,(ef m.cs p).length≤8:=fun p=>gz (List.length_filter_le _ _) h.lim.cs.1
 have hcn:∀p,∀s∈FH m p,s.name.length≤64:=fun p s hs=>by
  obtain ⟨c,hc,rfl⟩:=List.mem_map.1 hs
  have hx:=(List.mem_filter.1 hc).1
  have q:=h.lim.cs.2 c hx
  unfold O2 at q
  by_cases q1:xP c.n≠0
  ·rw [ap q1] at q;exact absurd q q1
  ·exact IM (Classical.not_not.1 q1)
 have key:∀l:List Int,(8∈l→m.hs=true)→tot (iw m l)≤11000000 * l.length∧(iw m l).length≤9 * l.length∧∀s∈iw m l,s.name.length≤64:=fun l=>by
  induction l with
  | nil=>exact fun _=>⟨bt _,bt _,fun s hs=>by cases hs⟩
  | cons p l ih =>
   intro h8
   obtain ⟨i1,i2,i3⟩:=ih fun q=>h8 (by simp [q])
   have hp:=JQ h ht p fun q=>h8 (by simp [q])
   have hc:=OD h.lim p
   have hl:=hcl p
   refine ⟨?_,?_,fun s hs=>?_⟩
   ·rw [iw,tot,DF,cm,eA,Nat.mul_add]
    simp only [b_]
    omega
   ·rw [iw,eA,bE,eA]
    unfold FH
    rw [di]
    omega
   ·rw [iw] at hs
    rcases dc.1 hs with rfl | hs
    ·exact cX _
    ·rcases fA.1 hs with hs | hs
     ·exact hcn p s hs
     ·exact i3 s hs
 obtain ⟨k1,k2,k3⟩:=key (kq m) fun q=>(uq q).2.2.2.2.2.2.2.1 rfl
 have hl:=yG m
 have hc:=OD h.lim 0
 have hcl0:=hcl 0
 unfold yI
 rw [DF,bE]
 refine ⟨by omega,?_,fun s hs=>?_⟩
 ·unfold FH
  rw [di]
  omega
 ·rcases fA.1 hs with hs | hs
  ·exact hcn 0 s hs
  ·exact k3 s hs
section
theorem Yb (x:aZ):vp none (aW x)=some (.int .i64 x.op):=rfl
theorem TX (x:aZ):vp (some 9) (aW x)=some (.agg (aW x)):=rfl
theorem TY (x:aZ):(aW x).length=9:=rfl
theorem TV (d:Nat) (x:aZ):(aW x).any (mC d)=false:=rfl
theorem TZ (d:Nat) (x:aZ):((aW x).all fun y=>!(mC d y))=true:=rfl
theorem TU (x:aZ):(aW x).all qh=true:=rfl
theorem T0 (d:Nat) (x:aZ):(aW x).map (Cm d)=aW x:=rfl
theorem TW (x:aZ):(aW x).flatMap kF=[]:=rfl
attribute [local go_sem high] Yb TX TY TV TZ TU T0 TW
def kj (B:List aZ):Nat→List Int
 | 0=>List.replicate B.length (-1)
 | i+1=>if (ac B i).op==11&&decide (0≤Ae B i) then (kj B i).set (Ae B i).toNat i else kj B i
def gx (B:List aZ):Nat→List Int
 | 0=>List.replicate B.length (-1)
 | i+1=>if (ac B i).op==5 then (gx B i).set (Ae B i).toNat i else gx B i
def kh (B:List aZ) (i:Nat):List Int:=(List.range i).map fun j=>((bA B j).length:Int)
def nZ (B:List aZ) (i:Nat):List Int:=(List.range i).map fun j=>Ae B j
theorem rV (B:List aZ):∀i,(kj B i).length=B.length
 | 0=>by simp [kj]
 | i+1=>by simp only [kj];split<;>simp [rV B i]
theorem pV (B:List aZ):∀i,(gx B i).length=B.length
 | 0=>by simp [gx]
 | i+1=>by simp only [gx];split<;>simp [pV B i]
theorem T2 (a b:Int) (i m:Nat) (h:0<m):(List.replicate i a++List.replicate m b).set i a=List.replicate (i+1) a++List.replicate (m - 1) b:=by
 obtain ⟨m,rfl⟩:∃k,m=k+1:=⟨m - 1,by omega⟩
 rw [List.set_append_right _ _ (by simp)]
 simp only [List.length_replicate,Nat.sub_self,List.replicate_succ,List.set_cons_zero,Nat.add_sub_cancel]
 rw [← List.replicate_succ,List.replicate_succ']
 simp
theorem Dv (n:Nat) (hn:n<1073741824):aX pg Kw [.int .i64 n] [] (fun id=>1000≤id∧id<2000) (fun r σ'=>r = .ms 6 1 0 n∧σ'=[(6,⟨3,1,(List.replicate n (-1)).map ri,false⟩)]):=by
 refine bF Bx ?_
 simp only [Bx,go_sem]
 refine ⟨by omega,?_⟩
 refine aw (fun i:Nat=>⟨[(9,.int .i64 i),(8,.int .i64 n),(3,.ms 6 1 0 n)],[(6,⟨3,1,(List.replicate i (-1)++List.replicate (n - i) 0).map ri,false⟩)]⟩) (fun i=>i≤n) (fun i=>n - i) 0 (cX _) (Wk.of ?_ ?_) ?_
 ·simp [go_sem]
 ·simp [go_sem]
 intro i hi
 simp only [go_sem]
 refine ⟨fun h=>⟨by omega,by simp;omega,aG (i+1) (by omega) (by omega) (Wk.of ?_ ?_)⟩,fun h=>done [] (.ms 6 1 0 n) [(6,⟨3,1,(List.replicate n (-1)).map ri,false⟩)] ?_ ?_ rfl ⟨rfl,rfl⟩⟩
 ·simp [go_sem,wi (n:=i+1) (by omega) (by omega)]
 ·simp only [go_sem,↓reduceIte,Nat.zero_add,T2 (-1) 0 i (n - i) (by omega),show n - i - 1=n - (i+1) by omega]
 ·simp [go_sem]
 ·have:i=n:=by omega
  subst this
  simp [go_sem]
theorem Ad (B:List aZ) (h:Int) (i:Nat):Ci B h (i+1)=(Ci B h i||(decide (h<i)&&(ac B i).op==5&&decide (0<(bA B i).length)&&Ae B i==h)):=by
 simp only [Ci,List.range_succ,List.any_append,List.any_cons,List.any_nil,Bool.or_false]
def xD (B:List aZ) (l:List Int):AV:=if (nchk B).2=0 then .sl 1 (l.map ri) else .nl
theorem F9 (B:List aZ) (i:Nat):kh B (i+1)=kh B i++[((bA B i).length:Int)]:=by simp [kh,List.range_succ]
theorem IF (B:List aZ) (i:Nat):nZ B (i+1)=nZ B i++[Ae B i]:=by simp [nZ,List.range_succ]
theorem nY (B:List aZ) (i:Nat):(kh B i).length=i:=by simp [kh]
theorem pW (B:List aZ) (i:Nat):(nZ B i).length=i:=by simp [nZ]
def nrk (p:Int×Bool):List AV:=[.int .i64 p.1,.bool p.2]
theorem af8 (p:Int×Bool):nrk p=[.int .i64 p.1,.bool p.2]:=rfl
attribute [local go_sem] af8
def ki (B:List aZ) (i:Nat):List Int:=kh B i++List.replicate (B.length - i) (-1)
def n5 (B:List aZ) (i:Nat):List Int:=nZ B i++List.replicate (B.length - i) (-1)
def jP (B:List aZ) (i:Nat):List (Int×Bool):=(bA B i).map fun h=>(h,Ci B h i)
def Ag (B:List aZ):AV:=.tup [.agg [xD B (kj B B.length),xD B (gx B B.length),xD B (kh B B.length),xD B (nZ B B.length)],.int .i64 (nchk B).1,.int .i64 (nchk B).2]
theorem dC {B:List aZ} {a e:Int} (h:nchk B=(a,e)) (he:e≠0):Ag B = .tup [.agg [.nl,.nl,.nl,.nl],.int .i64 a,.int .i64 e]:=by simp [Ag,xD,h,he]
theorem G7 {B:List aZ} (h:nchk B=(0,0)):Ag B = .tup [.agg [.sl 1 ((kj B B.length).map ri),.sl 1 ((gx B B.length).map ri),.sl 1 ((kh B B.length).map ri),.sl 1 ((nZ B B.length).map ri)],.int .i64 0,.int .i64 0]:=by simp [Ag,xD,h]
theorem aae {l:List Int} {i n:Nat} {x:Int} (hl:l.length=i) (hi:i<n):(l++List.replicate (n - i) (-1)).set i x=(l++[x])++List.replicate (n - (i+1)) (-1):=by
 subst hl
 rw [List.set_append_right _ _ (bt _),Nat.sub_self,show n - l.length=(n - (l.length+1))+1 by omega,List.replicate_succ,List.set_cons_zero]
 simp
theorem ln {B:List aZ} {i:Nat} (hi:i<B.length):(ki B i).set i ((bA B i).length:Int)=ki B (i+1):=by
 rw [ki,aae (nY B i) hi,← F9,ki]
theorem n6 {B:List aZ} {i:Nat} (hi:i<B.length):(n5 B i).set i (Ae B i)=n5 B (i+1):=by
 rw [n5,aae (pW B i) hi,← IF,n5]
theorem ES (B:List aZ) (i:Nat):(jP B i).length=(bA B i).length:=by simp [jP]
theorem T5 {B:List aZ} {i:Nat} {J:List (Int×Bool)} (h:0<(bA B i).length):ac (jP B i++J) ((bA B i).length - 1)=(Ae B i,Ci B (Ae B i) i):=by
 rw [k9 (by rw [ES];omega),jP,IP (by omega)]
 rfl
theorem vr {B:List aZ} {h:Int} {i:Nat} (h5:((ac B i).op==5)=false):Ci B h (i+1)=Ci B h i:=by rw [Ad,h5];simp
theorem TP {B:List aZ} {i:Nat}:Ci B i (i+1)=false:=by
 simp only [Ci,List.any_eq_false]
 intro j hj
 simp at hj ⊢
 omega
theorem PR {B:List aZ} {i:Nat} (h5:((ac B i).op==5)=false) (hb:IB (ac B i).op=true):jP B (i+1)=jP B i++[((i:Int),false)]:=by
 have hi0:Ci B i i=false:=by rw [← vr h5];exact TP
 simp only [jP,bA,yz,hb,aF,List.map_append,ej,List.map_nil,vr h5,hi0]
theorem T4 {B:List aZ} {i:Nat} (h5:((ac B i).op==5)=false) (hb:IB (ac B i).op=false) (h11:((ac B i).op==11)=true):jP B (i+1)=(jP B i).dropLast:=by
 simp only [jP,bA,yz,hb,h11,aF,iD,bc,vr h5,List.map_dropLast]
theorem PT {B:List aZ} {i:Nat} (h5:((ac B i).op==5)=false) (hb:IB (ac B i).op=false) (h11:((ac B i).op==11)=false):jP B (i+1)=jP B i:=by
 simp only [jP,bA,yz,hb,h11,iD,bc,vr h5]
theorem PQ {B:List aZ} {i:Nat} (hne:∀j,j<i→0<(bA B j).length) (h0:0<(bA B i).length) (hh:Ae B i<i) (h5:((ac B i).op==5)=true):jP B (i+1)=(jP B i).set ((bA B i).length - 1) (Ae B i,true):=by
 have h5':(ac B i).op=5:=by simpa using h5
 have hr:bA B (i+1)=bA B i:=by simp [bA,yz,IB,h5']
 refine List.ext_getElem (by simp [jP,hr]) fun k h1 h2=>?_
 have hk:k<(bA B i).length:=by rw [ES,hr] at h1;exact h1
 simp only [jP,List.getElem_map,hr,List.getElem_set]
 by_cases hkl:(bA B i).length - 1=k
 ·subst hkl
  rw [ap rfl]
  have:(bA B i)[(bA B i).length - 1]=Ae B i:=(bp hk).symm
  rw [this,Ad,h5]
  simp [hh,h0]
 ·rw [ah hkl,Ad,h5]
  have:(Ae B i==(bA B i)[k])=false:=by
   rw [gy]
   intro he
   rcases G6 hne h0 with ⟨g1,_⟩ | ⟨_,j,g2,g3,g4,_⟩
   ·omega
   ·have hkj:k<(bA B j).length:=by rw [g4,pm];omega
    have e1:ac (bA B j) k=(bA B i)[k]:=by rw [g4,KF (by omega),bp hk]
    rcases xE B j (fun m hm=>hne m (by omega)) k hkj with ⟨_,g5⟩ | ⟨_,m,g5,g6,_⟩<;>omega
  rw [this]
  simp
theorem G8 (B:List aZ):∀i,(∀j,j<i→gc B j=0)→(bA B i).length≤32
 | 0,_=>by simp [bA]
 | i+1,he=>by
  have ih:=G8 B i (fun j hj=>he j (by omega))
  have:=(TQ (he i (by omega))).2
  simp only [bA,yz]
  split
  ·rename_i hb
   rw [hb] at this
   simp at this ⊢
   omega
  ·split
   ·simp;omega
   ·exact ih
theorem T3 (id row:Nat) (t:TypeId) (l:List (Int×Bool)):Ju id 1 2 row 1 (some ⟨t,2,l.map nrk,false⟩) (some [.bool true])=if row<l.length then some (.put id ⟨t,2,(l.set row ((ac l row).1,true)).map nrk,false⟩) else none :=
 y6 id 1 2 row 1 t nrk l [.bool true] (fun p=>(p.1,true)) rfl rfl (fun _=>bt 2) (fun _=>rfl)
theorem Yc (B:List aZ) (hn:B.length<1000000):ao pg Kv [.sl 9 (B.map aW)] (Ag B):=by
 refine aL Bw ?_
 simp only [Bw,go_sem]
 refine xZ (Dv B.length (by omega)) rfl (by simp [go_sem]) 901 (by omega) (by simp [go_sem]) ?_
 simp only [go_sem]
 refine xZ (Dv B.length (by omega)) rfl (by simp [go_sem]) 902 (by omega) (by simp [go_sem]) ?_
 simp only [go_sem]
 refine xZ (Dv B.length (by omega)) rfl (by simp [go_sem]) 903 (by omega) (by simp [go_sem]) ?_
 simp only [go_sem]
 refine xZ (Dv B.length (by omega)) rfl (by simp [go_sem]) 904 (by omega) (by simp [go_sem]) ?_
 simp only [go_sem]
 refine aw (fun q:Nat×List (Int×Bool)=>⟨[(26,.int .i64 q.1),(25,.int .i64 B.length),(24,.sl 9 (B.map aW)),(7,.ms 23 2 0 (bA B q.1).length),(6,.mp 6 4 0 0),(5,.int .i64 B.length),(2,.mp 2 4 0 0),(0,.sl 9 (B.map aW))],
   [(23,⟨315,2,(jP B q.1++q.2).map nrk,false⟩),(6,⟨252,4,[[.ms 901 1 0 B.length,.ms 902 1 0 B.length,.ms 903 1 0 B.length,.ms 904 1 0 B.length]],true⟩),
      (904,⟨3,1,(n5 B q.1).map ri,false⟩),(903,⟨3,1,(ki B q.1).map ri,false⟩),(902,⟨3,1,(gx B q.1).map ri,false⟩),(901,⟨3,1,(kj B q.1).map ri,false⟩),(2,⟨252,4,[[.nl,.nl,.nl,.nl]],true⟩)]⟩)
  (fun q=>q.1≤B.length∧∀j,j<q.1→gc B j=0) (fun q=>B.length - q.1) (0,[]) ⟨cX _,fun j hj=>absurd hj (Nat.not_lt_zero _)⟩ (Wk.of ?_ ?_) ?_
 ·simp [go_sem,bA]
 ·simp [go_sem,jP,bA,n5,ki,nZ,kh,kj,gx,Ci]
 rintro ⟨i,J⟩ ⟨hi,he⟩
 replace hi:i≤B.length:=hi
 replace he:∀j,j<i→gc B j=0:=he
 have hl:=KD B i
 have hsl:=ES B i
 have hdl:(ki B i).length=B.length:=by simp [ki,nY];omega
 have hhl:(n5 B i).length=B.length:=by simp [n5,pW];omega
 have hw:(IntKind.i64.wrap (↑(bA B i).length - 1))=((bA B i).length:Int) - 1:=wi (by omega) (by omega)
 have hnt:((bA B i).length - 1:Int).toNat=(bA B i).length - 1:=by omega
 have hne:∀j,j<i→0<(bA B j).length:=fun j hj=>N1 (he j hj)
 rcases fX i B.length with hlt | hge
 ·have hd1:decide ((i:Int)<(B.length:Int))=true:=by simp;omega
  by_cases h0:(bA B i).length=0
  ·have h0':(((bA B i).length:Int)==0)=true:=by simp [h0]
   have h16:gc B i=16:=by simp only [gc,h0,aF]
   have hc:nchk B=((i:Int),16):=by rw [IC hlt he (by rw [h16];decide),h16]
   simp only [go_sem,hd1,h0']
   refine ⟨by omega,by omega,aJ [] ?_ ?_⟩
   ·rw [dC hc (by decide)];simp [go_sem]
   ·rw [dC hc (by decide)];rfl
  have h0':(((bA B i).length:Int)==0)=false:=by simp;exact fun h=>h0 (by simp [h])
  have hp:0<(bA B i).length:=by omega
  obtain ⟨hb1,hb2⟩:=Mi hne hp
  have htop:=T5 (J:=J) hp
  have herr:∀e:Int,e≠0→gc B i=e→nchk B=((i:Int),e):=fun e h1 h2=>by rw [IC hlt he (by rw [h2];exact h1),h2]
  have hsucc:gc B i=0→∀j,j<i+1→gc B j=0:=fun h0 j hj=>by
   rcases Nat.lt_or_eq_of_le (Nat.le_of_lt_succ hj) with h1 | h1
   ·exact he j h1
   ·rw [h1];exact h0
  have happ:=fun ys=>OT 23 315 2 (bA B i).length nrk (jP B i++J) ys (by simp [hsl])
  have htk:List.take (bA B i).length (jP B i++J)=jP B i:=by rw [← hsl];simp
  have hwi:=wi (n:=(i:Int)+1) (by omega) (by omega)
  by_cases hb:IB (ac B i).op=true
  ·have h5:((ac B i).op==5)=false:=by simp [IB] at hb ⊢;omega
   have hbe:d9 B i=false:=by simp [d9,h5]
   have key:∀b2 b3 b4:Bool,((ac B i).op==2)=b2→((ac B i).op==3)=b3→((ac B i).op==4)=b4→(b2||b3||b4)=true→True:=fun _ _ _ _ _ _ _=>trivial
   have hop:(ac B i).op=2∨(ac B i).op=3∨(ac B i).op=4:=by simp [IB] at hb;omega
   by_cases h32:(bA B i).length=32
   ·have h32':(((bA B i).length:Int)==32)=true:=by simp [h32]
    have hc:=herr 6 (by decide) (by simp only [gc,ah h0,hbe,hb];simp [h32])
    rcases hop with hop | hop | hop
    all_goals
     simp only [go_sem,hd1,h0',hw,hnt,htop,hop,Int.reduceBEq,h32']
     refine ⟨by omega,by omega,by omega,by omega,by omega,by simp;omega,by omega,by omega,aJ [] ?_ ?_⟩
     ·rw [dC hc (by decide)];simp [go_sem]
     ·rw [dC hc (by decide)];rfl
   ·have h32':(((bA B i).length:Int)==32)=false:=by simp;omega
    have hlt32:(bA B i).length<32:=by have:=G8 B i he;omega
    have he0:gc B i=0:=by simp only [gc,ah h0,hbe,hb];simp;omega
    rcases hop with hop | hop | hop
    all_goals
     have hpu:=PR h5 hb
     simp only [go_sem,hd1,h0',hw,hnt,htop,hop,Int.reduceBEq,h32',happ,htk,ln hlt,n6 hlt]
     refine ⟨by omega,by omega,by omega,by omega,by omega,by simp;omega,by omega,by omega,by omega,aG (i+1,[]) ⟨show i+1≤B.length by omega,hsucc he0⟩ (show B.length - (i+1)<B.length - i by omega) (Wk.of ?_ ?_)⟩
     ·simp [go_sem,hwi,bA,yz,hb]
     ·simp [go_sem,hpu,kj,gx,hop]
  ·have hb':IB (ac B i).op=false:=by simpa using hb
   have h2:((ac B i).op==2)=false:=by simp [IB] at hb';simp [hb']
   have h3:((ac B i).op==3)=false:=by simp [IB] at hb';simp [hb']
   have h4:((ac B i).op==4)=false:=by simp [IB] at hb';simp [hb']
   by_cases h5:((ac B i).op==5)=true
   ·have h11:((ac B i).op==11)=false:=by simp at h5 ⊢;omega
    have hr:bA B (i+1)=bA B i:=by simp [bA,yz,hb',h11]
    have hel:=PQ hne hp hb2 h5
    have hns:ac ((jP B i++J).set ((bA B i).length - 1) (Ae B i,true)) ((bA B i).length - 1)=(Ae B i,true):=IQ (by simp;omega)
    simp only [go_sem,hd1,h0',hw,hnt,htop,h2,h3,h4,h5,T3,hns,ln hlt,n6 hlt]
    have hbad:d9 B i=true→nchk B=((i:Int),16):=fun hbe=>herr 16 (by decide) (by simp only [gc,ah h0,hbe,aF])
    refine ⟨by omega,by omega,by omega,by omega,by omega,by simp;omega,by omega,by omega,by simp;omega,fun hneg=>aJ [] ?_ ?_,fun hneg=>⟨by simp;omega,by omega,by omega,fun h4'=>aJ [] ?_ ?_,fun h4'=>⟨by simp;omega,fun hels=>aJ [] ?_ ?_,fun hels=>⟨by simp;omega,by simp;omega,by omega,?_,aG (i+1,J) ⟨show i+1≤B.length by omega,hsucc ?_⟩ (show B.length - (i+1)<B.length - i by omega) (Wk.of ?_ ?_)⟩⟩⟩⟩
    ·rw [dC (hbad (by simp [d9,h5,hneg])) (by decide)];simp [go_sem]
    ·rw [dC (hbad (by simp [d9,h5,hneg])) (by decide)];rfl
    ·rw [dC (hbad (by simp [d9,h5,h4'])) (by decide)];simp [go_sem]
    ·rw [dC (hbad (by simp [d9,h5,h4'])) (by decide)];rfl
    ·rw [dC (hbad (by simp [d9,h5,hels])) (by decide)];simp [go_sem]
    ·rw [dC (hbad (by simp [d9,h5,hels])) (by decide)];rfl
    ·rw [pV];omega
    ·have hbe:d9 B i=false:=by simp [d9,h4',hels];intro _;omega
     simp only [gc,ah h0,hbe,hb']
     rfl
    ·simp [go_sem,hwi,hr]
    ·have e1:(jP B i++J).set ((bA B i).length - 1) (Ae B i,true)=(jP B i).set ((bA B i).length - 1) (Ae B i,true)++J:=List.set_append_left _ _ (by omega)
     simp only [go_sem,hel,e1,kj,gx,h11,h5,rh,iD]
   ·have h5':((ac B i).op==5)=false:=by simpa using h5
    have hbe:d9 B i=false:=by simp [d9,h5']
    have he0:gc B i=0:=by simp only [gc,ah h0,hbe,hb'];rfl
    by_cases h11:((ac B i).op==11)=true
    ·have hpo:=T4 h5' hb' h11
     have hr:bA B (i+1)=(bA B i).dropLast:=by simp [bA,yz,hb',h11]
     have e1:jP B i++J=(jP B i).dropLast++((jP B i).drop ((bA B i).length - 1)++J):=by
      rw [List.dropLast_eq_take,hsl,← du,List.take_append_drop]
     simp only [go_sem,hd1,h0',hw,hnt,htop,h2,h3,h4,h5',h11,ln hlt,n6 hlt]
     refine ⟨by omega,by omega,by omega,by omega,by omega,by simp;omega,by omega,by omega,by simp;omega,fun hge=>⟨by simp;omega,by omega,?_,by omega,aG (i+1,(jP B i).drop ((bA B i).length - 1)++J) ⟨show i+1≤B.length by omega,hsucc he0⟩ (show B.length - (i+1)<B.length - i by omega) (Wk.of ?_ ?_)⟩,fun hge=>⟨by omega,aG (i+1,(jP B i).drop ((bA B i).length - 1)++J) ⟨show i+1≤B.length by omega,hsucc he0⟩ (show B.length - (i+1)<B.length - i by omega) (Wk.of ?_ ?_)⟩⟩
     ·rw [rV];omega
     ·simp [go_sem,hwi,hr]
     ·have hge':decide (0≤Ae B i)=true:=by simp;omega
      simp only [go_sem,hpo,← e1,kj,gx,h11,h5',hge',iD,Bool.and_self]
     ·simp [go_sem,hwi,hr]
     ·have hge':decide (0≤Ae B i)=false:=by simp;omega
      simp only [go_sem,hpo,← e1,kj,gx,h11,h5',hge',iD,Bool.and_false]
    ·have h11':((ac B i).op==11)=false:=by simpa using h11
     have hsm:=PT h5' hb' h11'
     have hr:bA B (i+1)=bA B i:=by simp [bA,yz,hb',h11']
     simp only [go_sem,hd1,h0',hw,hnt,htop,h2,h3,h4,h5',h11',ln hlt,n6 hlt]
     refine ⟨by omega,by omega,by omega,by omega,by omega,by simp;omega,by omega,by omega,aG (i+1,J) ⟨show i+1≤B.length by omega,hsucc he0⟩ (show B.length - (i+1)<B.length - i by omega) (Wk.of ?_ ?_)⟩
     ·simp [go_sem,hwi,hr]
     ·simp only [go_sem,hsm,kj,gx,h11',h5',iD,rh]
 ·have hd1:decide ((i:Int)<(B.length:Int))=false:=by simp;omega
  have hiB:i=B.length:=by omega
  subst hiB
  simp only [go_sem,hd1]
  have hc:=Kz he
  refine ⟨fun hp=>aJ [] ?_ ?_,fun hp=>aJ [901,902,903,904] ?_ ?_⟩
  ·rw [ap (by omega)] at hc
   rw [dC hc (by decide)];simp [go_sem]
  ·rw [ap (by omega)] at hc
   rw [dC hc (by decide)];rfl
  ·rw [ah (by omega)] at hc
   rw [G7 hc]
   simp [go_sem,rV,pV,nY,pW,ki,n5]
   exact ⟨fL (by simp [rV]),fL (by simp [pV]),fL (by simp [nY]),fL (by simp [pW])⟩
  ·rw [ah (by omega)] at hc
   rw [G7 hc];rfl
theorem T1 (B:List aZ) (hn:B.length<1000000):ao pg It [.sl 9 (B.map aW)] (.tup [.int .i64 (nchk B).1,.int .i64 (nchk B).2]):=by
 refine aL xT ?_
 simp only [xT,go_sem]
 refine ax (Yc B hn) ?_
 by_cases h:(nchk B).2=0
 all_goals
  simp only [Ag,xD,h,go_sem]
  refine aJ [] ?_ rfl
  simp [go_sem,h]
end
section
def kb (b:Bool):ak:=⟨4,1,[[.bool b]],true⟩
def FG (l:List aZ):Bool:=(nchk l).2==0
attribute [local go_sem] di d_ aW kb iH dY sA eW fR bC
theorem acu (l:List aZ) (b:Bool) (hl:l.length<1000000):aX pg cH [.sl 9 (l.map aW),.mp 1000 1 0 0] [(1000,kb b)] sb (fun r' σ'=>r' = .tup []∧σ'=[(1000,kb (b&&FG l))]):=by
 refine bF py ?_
 have c:=T1 l hl
 unfold FG
 simp only [go_sem,py]
 refine ax (c) ?_
 cases b
 ·simp only [go_sem]
  exact cN [] _ [(1000,kb false)] ⟨rfl,rfl⟩
 ·simp only [go_sem]
  exact cN [] _ [(1000,kb ((nchk l).2==0))] ⟨rfl,rfl⟩
theorem qG {l:List aZ} {b:Bool} {d:Option Nat} {s:St} {K:St→Prop} (hl:l.length<1000000) (h1:ae s.heap 3=some (kb b))
  (hK:K (((St.mk (dO [] s.env) ([(3,kb (b&&FG l))]++dP [] s.heap)).put d (.tup [])))):cT pg cH [.sl 9 (l.map aW),.mp 3 1 0 0] d s K:=by
 refine ew (σ2:=[(3,kb b)]) (r3:=.tup []) (σ3:=[(3,kb (b&&FG l))]) (acu l b hl) [(1000,3)] [] rfl rfl rfl rfl ?_ ?_ ?_ hK
 ·simp [h1]
 ·simp [sb,bw,jk,ae]
 ·simp [ae]
theorem Gs {α:Type} [Inhabited α] {f:α→Bool} {l:List α} {i:Nat} (h:i<l.length):(l.take (i+1)).all f=((l.take i).all f&&f (ac l i)):=by
 rw [xJ h,List.all_append]
 simp
def elN (x:El):Bool:=(x.mo != 0||FG x.o)&&x.it.all FG
def daN (x:Da):Bool:=x.mo != 0||FG x.o
theorem acD (m:Md):IE m=(m.fs.all (fun x=>FG x.b)&&m.gs.all (fun x=>FG x.i)&&m.els.all elN&&m.ds.all daN):=rfl
theorem Tz {m:Md} (h:okM Dy m):ao pg B_ [dH m] (.bool (IE m)):=by
 refine aL sf ?_
 have hfs:=h.fs.1
 have hgs:=h.gs.1
 have hel:=h.els.1
 have hds:=h.ds.1
 rw [acD]
 simp only [go_sem,sf,dH,bC]
 obtain ⟨B,hB⟩:∃B:Nat→Bool,∀i,B i=((m.fs.take i).all (fun x=>FG x.b)):=⟨_,fun _=>rfl⟩
 have J4:B 0=true:=by rw [hB];simp
 refine aw (fun i:Nat=>⟨[(19,.int .i64 i),(18,.int .i64 m.fs.length),(17,.sl 3 (m.fs.map qf)),(4,.fn cH [.mp 3 1 0 0]),(3,.mp 3 1 0 0),(1,.mp 1 12 0 0)],[(3,kb (B i)),(1,⟨33,12,[[.sl 2 (m.ts.map rK),.sl 13 (m.ims.map tg),.sl 3 (m.fs.map qf),.sl 4 (m.tbs.map xR),.sl 3 (m.ms.map ry),.sl 3 (m.gs.map yd),.sl 3 (m.exs.map xN),.bool m.hs,.int .i64 m.st,.sl 5 (m.els.map gP),.sl 4 (m.ds.map lO),.sl 3 (m.cs.map zK)]],true⟩)]⟩) (fun i=>i≤m.fs.length) (fun i=>m.fs.length - i) 0 (cX _) (Wk.of ?_ ?_) ?_
 ·simp only [go_sem];try simp
 ·simp only [go_sem,J4];try simp [go_sem]
 intro i hi2
 by_cases q1:(i:Int)<(m.fs.length:Int)
 ·have hi':i<m.fs.length:=by omega
  have e8:=dz hi' (by omega)
  have hn:B (i+1)=(B i&&FG (ac m.fs i).b):=by rw [hB,hB,Gs hi']
  have hl:=(eT h.bo hi').1
  simp only [go_sem,aO q1]
  refine ⟨by omega,q1,?_⟩
  refine ⟨by kernel_rfl,?_⟩
  refine qG (b:=B i) (by omega) (by simp only [go_sem]) ?_
  simp only [go_sem]
  refine aG (i+1) (show i+1≤m.fs.length by omega) (show m.fs.length - (i+1)<m.fs.length - i by omega) (Wk.of ?_ ?_)
  ·simp only [go_sem,e8];try simp
  ·simp only [go_sem,hn];try simp [go_sem]
 obtain rfl:i=m.fs.length:=by omega
 have hB1:B m.fs.length=(m.fs.all (fun x=>FG x.b)):=by rw [hB,kC]
 rw [← hB1]
 simp only [go_sem,aQ q1]
 clear q1 hi2
 generalize B m.fs.length=b1
 clear hB J4 hB1 B
 obtain ⟨B,hB⟩:∃B:Nat→Bool,∀i,B i=(b1&&(m.gs.take i).all (fun x=>FG x.i)):=⟨_,fun _=>rfl⟩
 have J4:B 0=b1:=by rw [hB];simp
 refine aw (fun i:Nat=>⟨[(31,.int .i64 i),(30,.int .i64 m.gs.length),(29,.sl 3 (m.gs.map yd)),(4,.fn cH [.mp 3 1 0 0]),(3,.mp 3 1 0 0),(1,.mp 1 12 0 0)],[(3,kb (B i)),(1,⟨33,12,[[.sl 2 (m.ts.map rK),.sl 13 (m.ims.map tg),.sl 3 (m.fs.map qf),.sl 4 (m.tbs.map xR),.sl 3 (m.ms.map ry),.sl 3 (m.gs.map yd),.sl 3 (m.exs.map xN),.bool m.hs,.int .i64 m.st,.sl 5 (m.els.map gP),.sl 4 (m.ds.map lO),.sl 3 (m.cs.map zK)]],true⟩)]⟩) (fun i=>i≤m.gs.length) (fun i=>m.gs.length - i) 0 (cX _) (Wk.of ?_ ?_) ?_
 ·simp only [go_sem];try simp
 ·simp only [go_sem,J4];try simp [go_sem]
 intro i hi2
 by_cases q1:(i:Int)<(m.gs.length:Int)
 ·have hi':i<m.gs.length:=by omega
  have e8:=dz hi' (by omega)
  have hn:B (i+1)=(B i&&FG (ac m.gs i).i):=by rw [hB,hB,Gs hi',Bool.and_assoc]
  have hl:=(eT h.gs.2 hi').2.1
  simp only [go_sem,aO q1]
  refine ⟨by omega,q1,?_⟩
  refine ⟨by kernel_rfl,?_⟩
  refine qG (b:=B i) (by omega) (by simp only [go_sem]) ?_
  simp only [go_sem]
  refine aG (i+1) (show i+1≤m.gs.length by omega) (show m.gs.length - (i+1)<m.gs.length - i by omega) (Wk.of ?_ ?_)
  ·simp only [go_sem,e8];try simp
  ·simp only [go_sem,hn];try simp [go_sem]
 obtain rfl:i=m.gs.length:=by omega
 have hB1:B m.gs.length=(b1&&m.gs.all (fun x=>FG x.i)):=by rw [hB,kC]
 rw [← hB1]
 simp only [go_sem,aQ q1]
 clear q1 hi2
 generalize B m.gs.length=b2
 clear hB J4 hB1 B
 obtain ⟨B,hB⟩:∃B:Nat→Bool,∀i,B i=(b2&&(m.els.take i).all elN):=⟨_,fun _=>rfl⟩
 have J4:B 0=b2:=by rw [hB];simp
 refine aw (fun i:Nat=>⟨[(43,.int .i64 i),(42,.int .i64 m.els.length),(41,.sl 5 (m.els.map gP)),(4,.fn cH [.mp 3 1 0 0]),(3,.mp 3 1 0 0),(1,.mp 1 12 0 0)],[(3,kb (B i)),(1,⟨33,12,[[.sl 2 (m.ts.map rK),.sl 13 (m.ims.map tg),.sl 3 (m.fs.map qf),.sl 4 (m.tbs.map xR),.sl 3 (m.ms.map ry),.sl 3 (m.gs.map yd),.sl 3 (m.exs.map xN),.bool m.hs,.int .i64 m.st,.sl 5 (m.els.map gP),.sl 4 (m.ds.map lO),.sl 3 (m.cs.map zK)]],true⟩)]⟩) (fun i=>i≤m.els.length) (fun i=>m.els.length - i) 0 (cX _) (Wk.of ?_ ?_) ?_
 ·simp only [go_sem];try simp
 ·simp only [go_sem,J4];try simp [go_sem]
 intro i hi2
 by_cases q1:(i:Int)<(m.els.length:Int)
 ·have hi':i<m.els.length:=by omega
  have e8:=dz hi' (by omega)
  have hn:B (i+1)=(B i&&elN (ac m.els i)):=by rw [hB,hB,Gs hi',Bool.and_assoc]
  obtain ⟨ho,hit⟩:=(eT h.els.2 hi').2
  have hil:=(DT (eT h.els.2 hi').1).2.2.2.2
  generalize hx:ac m.els i=x at *
  obtain ⟨b0,hb0⟩:∃b0:Bool,b0=(B i&&(x.mo != 0||FG x.o)):=⟨_,rfl⟩
  have hn2:B (i+1)=(b0&&x.it.all FG):=by rw [hn,hb0,elN,Bool.and_assoc]
  simp only [go_sem,aO q1,hx]
  refine ⟨by omega,q1,?_⟩
  by_cases hm:x.mo=0
  ·rw [hm] at hb0
   simp only [go_sem,dV hm]
   refine ⟨by kernel_rfl,?_⟩
   refine qG (b:=B i) (by have:=ho.1;omega) (by simp only [go_sem]) ?_
   simp only [go_sem]
   rw [show (B i&&FG x.o)=b0 by rw [hb0];simp]
   obtain ⟨D,hD⟩:∃D:Nat→Bool,∀j,D j=(b0&&(x.it.take j).all FG):=⟨_,fun _=>rfl⟩
   have hD0:D 0=b0:=by rw [hD];simp
   refine aw (fun j:Nat=>⟨[(57,.int .i64 j),(56,.int .i64 x.it.length),(55,.sl 1 (x.it.map oU)),(43,.int .i64 i),(42,.int .i64 m.els.length),(41,.sl 5 (m.els.map gP)),(4,.fn cH [.mp 3 1 0 0]),(3,.mp 3 1 0 0),(1,.mp 1 12 0 0)],[(3,kb (D j)),(1,⟨33,12,[[.sl 2 (m.ts.map rK),.sl 13 (m.ims.map tg),.sl 3 (m.fs.map qf),.sl 4 (m.tbs.map xR),.sl 3 (m.ms.map ry),.sl 3 (m.gs.map yd),.sl 3 (m.exs.map xN),.bool m.hs,.int .i64 m.st,.sl 5 (m.els.map gP),.sl 4 (m.ds.map lO),.sl 3 (m.cs.map zK)]],true⟩)]⟩) (fun j=>j≤x.it.length) (fun j=>x.it.length - j) 0 (cX _) (Wk.of ?_ ?_) ?_
   ·simp only [go_sem];try simp
   ·simp only [go_sem,hD0];try simp [go_sem]
   intro j hj2
   by_cases q2:(j:Int)<(x.it.length:Int)
   rotate_left
   ·obtain rfl:j=x.it.length:=by omega
    have hD1:D x.it.length=B (i+1):=by rw [hD,kC,hn2]
    simp only [go_sem,aQ q2]
    refine aG (i+1) (show i+1≤m.els.length by omega) (show m.els.length - (i+1)<m.els.length - i by omega) (Wk.of ?_ ?_)
    ·simp only [go_sem,e8];try simp
    ·simp only [go_sem,hD1];try simp [go_sem]
   have hj':j<x.it.length:=by omega
   have e9:=dz hj' (by omega)
   have hn3:D (j+1)=(D j&&FG (ac x.it j)):=by rw [hD,hD,Gs hj',Bool.and_assoc]
   have hl3:=(eT hit hj').1
   simp only [go_sem,aO q2]
   refine ⟨by omega,q2,?_⟩
   refine ⟨by kernel_rfl,?_⟩
   refine qG (b:=D j) (by omega) (by simp only [go_sem]) ?_
   simp only [go_sem]
   refine aG (j+1) (show j+1≤x.it.length by omega) (show x.it.length - (j+1)<x.it.length - j by omega) (Wk.of ?_ ?_)
   ·simp only [go_sem,e9];try simp
   ·simp only [go_sem,hn3];try simp [go_sem]
  ·have hb1:B i=b0:=by rw [hb0,bv hm];simp
   simp only [go_sem,ay hm,hb1]
   obtain ⟨D,hD⟩:∃D:Nat→Bool,∀j,D j=(b0&&(x.it.take j).all FG):=⟨_,fun _=>rfl⟩
   have hD0:D 0=b0:=by rw [hD];simp
   refine aw (fun j:Nat=>⟨[(57,.int .i64 j),(56,.int .i64 x.it.length),(55,.sl 1 (x.it.map oU)),(43,.int .i64 i),(42,.int .i64 m.els.length),(41,.sl 5 (m.els.map gP)),(4,.fn cH [.mp 3 1 0 0]),(3,.mp 3 1 0 0),(1,.mp 1 12 0 0)],[(3,kb (D j)),(1,⟨33,12,[[.sl 2 (m.ts.map rK),.sl 13 (m.ims.map tg),.sl 3 (m.fs.map qf),.sl 4 (m.tbs.map xR),.sl 3 (m.ms.map ry),.sl 3 (m.gs.map yd),.sl 3 (m.exs.map xN),.bool m.hs,.int .i64 m.st,.sl 5 (m.els.map gP),.sl 4 (m.ds.map lO),.sl 3 (m.cs.map zK)]],true⟩)]⟩) (fun j=>j≤x.it.length) (fun j=>x.it.length - j) 0 (cX _) (Wk.of ?_ ?_) ?_
   ·simp only [go_sem];try simp
   ·simp only [go_sem,hD0];try simp [go_sem]
   intro j hj2
   by_cases q2:(j:Int)<(x.it.length:Int)
   rotate_left
   ·obtain rfl:j=x.it.length:=by omega
    have hD1:D x.it.length=B (i+1):=by rw [hD,kC,hn2]
    simp only [go_sem,aQ q2]
    refine aG (i+1) (show i+1≤m.els.length by omega) (show m.els.length - (i+1)<m.els.length - i by omega) (Wk.of ?_ ?_)
    ·simp only [go_sem,e8];try simp
    ·simp only [go_sem,hD1];try simp [go_sem]
   have hj':j<x.it.length:=by omega
   have e9:=dz hj' (by omega)
   have hn3:D (j+1)=(D j&&FG (ac x.it j)):=by rw [hD,hD,Gs hj',Bool.and_assoc]
   have hl3:=(eT hit hj').1
   simp only [go_sem,aO q2]
   refine ⟨by omega,q2,?_⟩
   refine ⟨by kernel_rfl,?_⟩
   refine qG (b:=D j) (by omega) (by simp only [go_sem]) ?_
   simp only [go_sem]
   refine aG (j+1) (show j+1≤x.it.length by omega) (show x.it.length - (j+1)<x.it.length - j by omega) (Wk.of ?_ ?_)
   ·simp only [go_sem,e9];try simp
   ·simp only [go_sem,hn3];try simp [go_sem]
 obtain rfl:i=m.els.length:=by omega
 have hB1:B m.els.length=(b2&&m.els.all elN):=by rw [hB,kC]
 rw [← hB1]
 simp only [go_sem,aQ q1]
 clear q1 hi2
 generalize B m.els.length=b3
 clear hB J4 hB1 B
 obtain ⟨B,hB⟩:∃B:Nat→Bool,∀i,B i=(b3&&(m.ds.take i).all daN):=⟨_,fun _=>rfl⟩
 have J4:B 0=b3:=by rw [hB];simp
 refine aw (fun i:Nat=>⟨[(69,.int .i64 i),(68,.int .i64 m.ds.length),(67,.sl 4 (m.ds.map lO)),(4,.fn cH [.mp 3 1 0 0]),(3,.mp 3 1 0 0),(1,.mp 1 12 0 0)],[(3,kb (B i)),(1,⟨33,12,[[.sl 2 (m.ts.map rK),.sl 13 (m.ims.map tg),.sl 3 (m.fs.map qf),.sl 4 (m.tbs.map xR),.sl 3 (m.ms.map ry),.sl 3 (m.gs.map yd),.sl 3 (m.exs.map xN),.bool m.hs,.int .i64 m.st,.sl 5 (m.els.map gP),.sl 4 (m.ds.map lO),.sl 3 (m.cs.map zK)]],true⟩)]⟩) (fun i=>i≤m.ds.length) (fun i=>m.ds.length - i) 0 (cX _) (Wk.of ?_ ?_) ?_
 ·simp only [go_sem];try simp
 ·simp only [go_sem,J4];try simp [go_sem]
 intro i hi2
 by_cases q1:(i:Int)<(m.ds.length:Int)
 ·have hi':i<m.ds.length:=by omega
  have e8:=dz hi' (by omega)
  have hn:B (i+1)=(B i&&daN (ac m.ds i)):=by rw [hB,hB,Gs hi',Bool.and_assoc]
  have hl:=(eT h.ds.2 hi').2.2.2.1
  generalize hx:ac m.ds i=x at *
  unfold daN at hn
  by_cases hm:x.mo=0
  ·rw [hm] at hn
   simp only [go_sem,aO q1,hx,dV hm]
   refine ⟨by omega,q1,?_⟩
   refine ⟨by kernel_rfl,?_⟩
   refine qG (b:=B i) (by omega) (by simp only [go_sem]) ?_
   simp only [go_sem]
   refine aG (i+1) (show i+1≤m.ds.length by omega) (show m.ds.length - (i+1)<m.ds.length - i by omega) (Wk.of ?_ ?_)
   ·simp only [go_sem,e8];try simp
   ·simp only [go_sem,hn];try simp [go_sem]
  ·rw [bv hm,eC,Bool.and_true] at hn
   simp only [go_sem,aO q1,hx,ay hm]
   refine ⟨by omega,q1,?_⟩
   refine aG (i+1) (show i+1≤m.ds.length by omega) (show m.ds.length - (i+1)<m.ds.length - i by omega) (Wk.of ?_ ?_)
   ·simp only [go_sem,e8];try simp
   ·simp only [go_sem,hn];try simp [go_sem]
 obtain rfl:i=m.ds.length:=by omega
 have hB1:B m.ds.length=(b3&&m.ds.all daN):=by rw [hB,kC]
 rw [← hB1]
 simp only [go_sem,aQ q1]
 clear q1 hi2
 generalize B m.ds.length=b4
 clear hB J4 hB1 B
 exact aj
end
section
attribute [local go_sem] wo wa
theorem Zg (l:List dU) (hl:l.length≤10000) (ht:tot l≤900000000) (hnm:∀s∈l,s.name.length≤64):ao pg EL [.sl 3 (l.map uG)] (.tup [.sl 1 ((xn l).2.map i5),.int .i64 (xn l).1]):=by
 refine aL tI ?_
 simp only [go_sem,tI]
 refine qH 904 905 (by decide) (by decide) (by decide) (by simp only [go_sem]) (by simp only [go_sem]) ?_
 have ch:=fW true [] FJ 0 ⟨by simp,by decide⟩
 rw [show wB (true&&(0:Int)==0) [] FJ=FJ from rfl] at ch
 simp only [go_sem]
 refine dX [15] (k:=904) (j:=905) (ch) (by decide) (by decide) (by decide) (by decide) (by first | rfl | simp [go_sem,bX]) (by simp [go_sem]) ?_ (by rfl) (by rfl) ?_
 ·simp only [go_sem];rfl
 simp only [go_sem]
 refine aw (fun q:Nat×Int×List UInt8=>⟨[(4,.mp 904 3 0 0),(5,.int .i64 q.2.1),(20,.int .i64 (q.1:Nat)),(19,.int .i64 l.length),(18,.sl 3 (l.map uG))],[(904,wo 905 true q.2.2 0),(905,wa q.2.2)]⟩) (fun q=>q.1≤l.length∧0≤q.2.1∧q.2.2.length≤8+tot (l.take q.1)+11 * q.1∧G1 (l.drop q.1) q.2.1 q.2.2=NM l) (fun q=>l.length - q.1) (0,0,FJ) ⟨cX _,Int.le_refl _,by simp [FJ],rfl⟩ (Wk.of ?_ ?_) ?_
 ·simp only [go_sem];try simp
 ·simp only [go_sem];try simp [go_sem]
 rintro ⟨i,last,w⟩ ⟨hi,hla,hw,hj⟩
 replace hi:i≤l.length:=hi
 replace hla:0≤last:=hla
 replace hw:w.length≤8+tot (l.take i)+11 * i:=hw
 replace hj:G1 (l.drop i) last w=NM l:=hj
 have htl:=Vs l i
 have e8:=wi (n:=(i:Int)+1) (by omega) (by omega)
 by_cases h1:(i:Int)<(l.length:Int)
 ·have hi':i<l.length:=by omega
  have htk:=Vt hi'
  have hts:=Vs l (i+1)
  have ferr:∀e,FW (ac l i) last=e→e≠0→xn l=(e,[]):=fun e h h2=>by
   have h3:NM l=(e,[]):=by rw [← hj,XG hi' (by rw [h];exact h2),h]
   rw [xn,ah (by rw [h3];exact fun q=>h2 q.1),h3]
  by_cases c1:(ac l i).id<0
  ·rw [ferr 4 (Ta (.inl c1)) (by decide)]
   simp only [go_sem,aO h1,aO c1]
   exact ⟨by omega,h1,eB (Wk.nls _ 2 1 (by simp only [go_sem])) [] (by first | rfl | simp only [go_sem]) rfl⟩
  by_cases c2:(ac l i).id>12
  ·rw [ferr 4 (Ta (.inr (.inl c2))) (by decide)]
   simp only [go_sem,aO h1,aQ c1,aO c2]
   exact ⟨by omega,h1,eB (Wk.nls _ 2 1 (by simp only [go_sem])) [] (by first | rfl | simp only [go_sem]) rfl⟩
  have hpc:=IU (ac l i).id
  have hla2:(0:Int)≤max last (fk (ac l i).id):=by omega
  have w8:IntKind.u8.wrap (ac l i).id=((UInt8.ofNat (ac l i).id.toNat).toNat:Int):=by rw [ofNat_toNat (by omega),Fv];omega
  have hil:=Xh (ac l i)
  have hnl:=eT hnm hi'
  have hpn:=yJ (n:=(ac l i).name.length) (by omega)
  have hpi:=yJ (n:=(rn (ac l i)).length) (by omega)
  have hel:(ir (ac l i)).length=1+(aq (rn (ac l i)).length).length+(rn (ac l i)).length:=by simp [ir];omega
  have hw2:(w++ir (ac l i)).length≤8+tot (l.take (i+1))+11 * (i+1):=by rw [bE];omega
  have cy:=vA true w (UInt8.ofNat (ac l i).id.toNat) 0 (by omega)
  rw [show wB (true&&(0:Int)==0) w [UInt8.ofNat (ac l i).id.toNat]=w++[UInt8.ofNat (ac l i).id.toNat] from rfl] at cy
  have cp:=I8 true (w++[UInt8.ofNat (ac l i).id.toNat]) 0 (by simp;omega) true (rn (ac l i)) 0 (by omega)
  have rp:wP (true&&(0:Int)==0) (w++[UInt8.ofNat (ac l i).id.toNat]) 0 true (rn (ac l i)) 0=(w++ir (ac l i),0):=by simp [wP,wB,ir]
  rw [rp] at cp
  by_cases c0:(ac l i).id=0
  ·obtain ⟨j1,j2⟩:=afN (last:=last) c0
   have hmx:max last (fk (ac l i).id)=last:=by rw [c0,Od (by omega)];omega
   have d5:decide ((ac l i).id=0∨fk (ac l i).id>last)=true:=aO (.inl c0)
   simp only [go_sem,aO h1,aQ c1,aQ c2,aD c0,dV c0]
   refine ⟨by omega,h1,?_⟩
   refine ax (I6 (ac l i).id last) ?_
   simp only [go_sem,d5,dh,ap c0]
   refine qH 906 907 (by decide) (by decide) (by decide) (by simp only [go_sem]) (by simp only [go_sem]) ?_
   simp only [go_sem,dV c0]
   have cn:=Om true [] (ac l i).name 0 ⟨by simp,by omega⟩
   rw [show (true&&(0:Int)==0)=true from rfl] at cn
   refine aR [] (k:=906) (j:=907) (cn) ?_
   by_cases he:(wN true [] 0 (ac l i).name).2=0
   ·have hok:FW (ac l i) last=0:=by rw [j1];exact he
    have hin:aq (ac l i).name.length++(ac l i).name++gb (ac l i).bs=rn (ac l i):=by rw [rn,ap c0]
    have cB:=fW true (aq (ac l i).name.length++(ac l i).name) (gb (ac l i).bs) 0 ⟨by simp;omega,by omega⟩
    rw [show wB (true&&(0:Int)==0) (aq (ac l i).name.length++(ac l i).name) (gb (ac l i).bs)=rn (ac l i) from hin] at cB
    simp only [go_sem,he,j2 he]
    refine HL [.mp 906 3 0 0,.sl 1 ((gb (ac l i).bs).map i5)] ⟨.inl rfl,IG _,trivial⟩ ?_
    refine aR [] (k:=906) (j:=907) (cB) ?_
    simp only [go_sem,w8]
    refine aR [] (k:=904) (j:=905) (cy) ?_
    simp only [go_sem]
    refine ew (σ2:=[(904,wo 905 true (w++[UInt8.ofNat (ac l i).id.toNat]) 0),(905,wa (w++[UInt8.ofNat (ac l i).id.toNat])),(906,wo 907 true (rn (ac l i)) 0),(907,wa (rn (ac l i)))]) (r3:=.tup []) (σ3:=[(904,wo 905 true (w++ir (ac l i)) 0),(905,wa (w++ir (ac l i))),(906,wo 907 true (rn (ac l i)) 0),(907,wa (rn (ac l i)))]) cp [(1000,904),(2000,905),(1001,906),(2001,907)] [905,907] rfl rfl rfl rfl ?_ ?_ ?_ ?_
    ·simp only [go_sem];simp
    ·simp only [go_sem];simp [sb,bw,jk,ae]
    ·simp only [go_sem];simp [ae]
    have cd:=yV true (w++ir (ac l i)) 0 (by omega)
    rw [show wD true (w++ir (ac l i)) 0=(some (w++ir (ac l i)),0) from rfl] at cd
    simp only [go_sem]
    refine aR [] (k:=904) (j:=905) (cd) ?_
    simp only [go_sem]
    refine aG (i+1,max last (fk (ac l i).id),w++ir (ac l i)) ⟨hi',hla2,hw2,by rw [← Kb hi' hok,hj]⟩ (show l.length - (i+1)<l.length - i by omega) (Wk.of ?_ ?_)
    ·simp only [go_sem,e8,hmx]
     try simp
    ·simp only [go_sem]
     try simp [go_sem]
   ·have hf:(true&&(wN true [] 0 (ac l i).name).2==0)=false:=by rw [ay he];rfl
    have hnl:(wN true [] 0 (ac l i).name).1.length<1000:=by
     have:=hpn
     unfold wN
     simp only [aF]
     repeat' split
     all_goals simp only [bE,b_]
     all_goals omega
    have cB:=fW true (wN true [] 0 (ac l i).name).1 (gb (ac l i).bs) (wN true [] 0 (ac l i).name).2 ⟨by omega,by omega⟩
    rw [show wB (true&&(wN true [] 0 (ac l i).name).2==0) (wN true [] 0 (ac l i).name).1 (gb (ac l i).bs)=(wN true [] 0 (ac l i).name).1 by rw [hf];rfl] at cB
    have cq:=I8 true (w++[UInt8.ofNat (ac l i).id.toNat]) 0 (by simp;omega) true (wN true [] 0 (ac l i).name).1 (wN true [] 0 (ac l i).name).2 (by omega)
    have rq:wP (true&&(0:Int)==0) (w++[UInt8.ofNat (ac l i).id.toNat]) 0 true (wN true [] 0 (ac l i).name).1 (wN true [] 0 (ac l i).name).2=(w++[UInt8.ofNat (ac l i).id.toNat],(wN true [] 0 (ac l i).name).2):=by simp [wP,he]
    rw [rq] at cq
    have cd:=yV true (w++[UInt8.ofNat (ac l i).id.toNat]) (wN true [] 0 (ac l i).name).2 (by simp;omega)
    rw [show wD true (w++[UInt8.ofNat (ac l i).id.toNat]) (wN true [] 0 (ac l i).name).2=(none,(wN true [] 0 (ac l i).name).2) by simp [wD,he]] at cd
    rw [ferr _ j1 he]
    simp only [go_sem]
    refine HL [.mp 906 3 0 0,.sl 1 ((gb (ac l i).bs).map i5)] ⟨.inl rfl,IG _,trivial⟩ ?_
    refine aR [] (k:=906) (j:=907) (cB) ?_
    simp only [go_sem,w8]
    refine aR [] (k:=904) (j:=905) (cy) ?_
    simp only [go_sem]
    refine ew (σ2:=[(904,wo 905 true (w++[UInt8.ofNat (ac l i).id.toNat]) 0),(905,wa (w++[UInt8.ofNat (ac l i).id.toNat])),(906,wo 907 true (wN true [] 0 (ac l i).name).1 (wN true [] 0 (ac l i).name).2),(907,wa (wN true [] 0 (ac l i).name).1)]) (r3:=.tup []) (σ3:=[(904,wo 905 true (w++[UInt8.ofNat (ac l i).id.toNat]) (wN true [] 0 (ac l i).name).2),(905,wa (w++[UInt8.ofNat (ac l i).id.toNat])),(906,wo 907 true (wN true [] 0 (ac l i).name).1 (wN true [] 0 (ac l i).name).2),(907,wa (wN true [] 0 (ac l i).name).1)]) cq [(1000,904),(2000,905),(1001,906),(2001,907)] [905,907] rfl rfl rfl rfl ?_ ?_ ?_ ?_
    ·simp only [go_sem];simp
    ·simp only [go_sem];simp [sb,bw,jk,ae]
    ·simp only [go_sem];simp [ae]
    simp only [go_sem]
    refine aR [] (k:=904) (j:=905) (cd) ?_
    simp only [go_sem,bv he]
    exact eB (Wk.nls _ 2 1 (by simp only [go_sem])) [] (by first | rfl | simp only [go_sem]) rfl
  ·by_cases cn:(ac l i).name=[]
   ·have n1:((ac l i).name==[])=true:=by rw [cn];rfl
    simp only [go_sem,aO h1,aQ c1,aQ c2,bv c0,n1]
    refine ⟨by omega,h1,?_⟩
    refine ax (I6 (ac l i).id last) ?_
    by_cases hp:fk (ac l i).id≤last
    ·rw [ferr 7 (afO (by omega) cn hp) (by decide)]
     simp only [go_sem,aQ (show ¬((ac l i).id=0∨fk (ac l i).id>last) by omega),cD]
     exact eB (Wk.nls _ 2 1 (by simp only [go_sem])) [] (by first | rfl | simp only [go_sem]) rfl
    ·have hok:=aca (last:=last) (show 1≤(ac l i).id∧(ac l i).id≤12 by omega) cn hp
     have hmx:max last (fk (ac l i).id)=fk (ac l i).id:=by omega
     have hin:([]:List UInt8)++gb (ac l i).bs=rn (ac l i):=by rw [rn,ah c0];rfl
     simp only [go_sem,aO (show ((ac l i).id=0∨fk (ac l i).id>last) by omega),dh,ah c0]
     refine qH 906 907 (by decide) (by decide) (by decide) (by simp only [go_sem]) (by simp only [go_sem]) ?_
     simp only [go_sem,ay c0]
     have cB:=fW true [] (gb (ac l i).bs) 0 ⟨by simp,by omega⟩
     rw [show wB (true&&(0:Int)==0) [] (gb (ac l i).bs)=rn (ac l i) from hin] at cB
     refine HL [.mp 906 3 0 0,.sl 1 ((gb (ac l i).bs).map i5)] ⟨.inl rfl,IG _,trivial⟩ ?_
     refine aR [] (k:=906) (j:=907) (cB) ?_
     simp only [go_sem,w8]
     refine aR [] (k:=904) (j:=905) (cy) ?_
     simp only [go_sem]
     refine ew (σ2:=[(904,wo 905 true (w++[UInt8.ofNat (ac l i).id.toNat]) 0),(905,wa (w++[UInt8.ofNat (ac l i).id.toNat])),(906,wo 907 true (rn (ac l i)) 0),(907,wa (rn (ac l i)))]) (r3:=.tup []) (σ3:=[(904,wo 905 true (w++ir (ac l i)) 0),(905,wa (w++ir (ac l i))),(906,wo 907 true (rn (ac l i)) 0),(907,wa (rn (ac l i)))]) cp [(1000,904),(2000,905),(1001,906),(2001,907)] [905,907] rfl rfl rfl rfl ?_ ?_ ?_ ?_
     ·simp only [go_sem];simp
     ·simp only [go_sem];simp [sb,bw,jk,ae]
     ·simp only [go_sem];simp [ae]
     have cd:=yV true (w++ir (ac l i)) 0 (by omega)
     rw [show wD true (w++ir (ac l i)) 0=(some (w++ir (ac l i)),0) from rfl] at cd
     simp only [go_sem]
     refine aR [] (k:=904) (j:=905) (cd) ?_
     simp only [go_sem]
     refine aG (i+1,max last (fk (ac l i).id),w++ir (ac l i)) ⟨hi',hla2,hw2,by rw [← Kb hi' hok,hj]⟩ (show l.length - (i+1)<l.length - i by omega) (Wk.of ?_ ?_)
     ·simp only [go_sem,e8,hmx]
      try simp
     ·simp only [go_sem]
      try simp [go_sem]
   ·rw [ferr 4 (Ta (.inr (.inr ⟨c0,cn⟩))) (by decide)]
    have n1:((ac l i).name==[])=false:=by simpa using cn
    simp only [go_sem,aO h1,aQ c1,aQ c2,bv c0,n1]
    exact ⟨by omega,h1,eB (Wk.nls _ 2 1 (by simp only [go_sem])) [] (by first | rfl | simp only [go_sem]) rfl⟩
 ·have r0:NM l=(0,w):=by rw [← hj,List.drop_of_length_le (by omega)];rfl
  have cl:=adP true w 0
  rw [show (if (true&&(0:Int)==0)=true then (w.length:Int) else 0)=(w.length:Int) from rfl] at cl
  have cd:=yV true w 0 (by omega)
  rw [show wD true w 0=(some w,0) from rfl] at cd
  unfold xn
  rw [r0]
  by_cases hb:(w.length:Int)>262144
  ·rw [ap ⟨rfl,by show w.length>262144;omega⟩]
   simp only [go_sem,aQ h1]
   refine aR [] (k:=904) (j:=905) (cl) ?_
   simp only [go_sem,aO hb]
   exact eB (Wk.nls _ 2 1 (by simp only [go_sem])) [] (by first | rfl | simp only [go_sem]) rfl
  rw [ah (fun q=>hb (by have h2:w.length>262144:=q.2;omega))]
  simp only [go_sem,aQ h1]
  refine aR [] (k:=904) (j:=905) (cl) ?_
  simp only [go_sem,aQ hb]
  refine aR [] (k:=904) (j:=905) (cd) ?_
  simp only [go_sem]
  exact aj
end
end Go.Proofs.YtdfofedlbljnhaaGreatDoor