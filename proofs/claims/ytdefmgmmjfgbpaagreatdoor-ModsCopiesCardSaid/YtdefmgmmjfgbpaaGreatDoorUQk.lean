import Derived.Test.YtdefmgmmjfgbpaaGreatDoorUQj
import Derived.Lib.DecodeN
set_option linter.all false
set_option maxRecDepth 100000
set_option maxHeartbeats 40000000
namespace Go.Proofs.YtdefmgmmjfgbpaaGreatDoor
section
open Go Go.Mw
def bp (a b:Md):Prop:=a.hs=b.hs∧(a.hs=true→a.st=b.st)∧a.ts=b.ts∧a.ims=b.ims∧a.fs=b.fs∧(a.tbs=b.tbs∧a.ms=b.ms)∧a.gs=b.gs∧a.exs=b.exs∧a.els=b.els∧a.ds=b.ds∧a.cs=b.cs
instance (a b:Md):Decidable (bp a b):=by unfold bp;exact inferInstance
theorem nW (a:Md):bp a a:=⟨rfl,fun _=>rfl,rfl,rfl,rfl,⟨rfl,rfl⟩,rfl,rfl,rfl,rfl,rfl⟩
attribute [local go_sem] dn f_ cI cG
theorem Ip (a b:Md) (ha:a.tbs.length≤140737488355328) (hb:a.ms.length≤140737488355328):ak Tryz.prog Uo [cP a,cP b] (.bool (decide (a.tbs=b.tbs∧a.ms=b.ms))):=by
 refine ah (ic:=zJ.body) ap SL rfl rfl ?_
 by_cases l1:(a.tbs.length:Int)=(b.tbs.length:Int)
 rotate_left
 ·rw [au (fun h=>l1 (by rw [h.1]))]
  simp only [go_sem,zJ,cP,bc l1]
  exact ae
 by_cases l2:(a.ms.length:Int)=(b.ms.length:Int)
 rotate_left
 ·rw [au (fun h=>l2 (by rw [h.2]))]
  simp only [go_sem,zJ,cP,ay l1,bc l2]
  exact ae
 simp only [go_sem,zJ,cP,ay l1,ay l2]
 refine an (fun j:Nat=>⟨[(5,.int .i64 j),(2,.mp 2 12 0 0),(3,.mp 3 12 0 0)],[(2,⟨33,12,[kU a],true⟩),(3,⟨33,12,[kU b],true⟩)]⟩) (fun j=>j≤a.tbs.length∧∀k,k<j→aj a.tbs k=aj b.tbs k) (fun j=>a.tbs.length - j) 0 ⟨cq _,fun k hk=>by omega⟩ (Wk.of ?_ ?_) ?_
 ·simp only [go_sem];try simp
 ·simp only [go_sem]
 rintro j ⟨hj,hx⟩
 by_cases h1:(j:Int)<(a.tbs.length:Int)
 ·have hj':j<a.tbs.length:=by omega
  have hjb:(j:Int)<(b.tbs.length:Int):=by omega
  have e8:=cD hj' (by omega)
  by_cases h2:aj a.tbs j=aj b.tbs j
  ·simp only [go_sem,az h1,EG,az h2,bv]
   refine ⟨by omega,h1,by omega,hjb,aA (j+1) ⟨show j+1≤a.tbs.length by omega,fun k hk=>?_⟩ (show a.tbs.length - (j+1)<a.tbs.length - j by omega) (Wk.of ?_ ?_)⟩
   ·rcases bK k j with h | h
    ·exact hx k h
    ·rw [show k=j by omega];exact h2
   ·simp only [go_sem,e8];try simp
   ·simp only [go_sem]
  ·rw [au (fun e=>h2 (by rw [e.1]))]
   simp only [go_sem,az h1,EG,au h2,bA]
   refine ⟨by omega,h1,by omega,hjb,?_⟩
   exact ae
 have g1:a.tbs=b.tbs:=ci (by omega) fun k hk=>hx k (by omega)
 simp only [go_sem,au h1]
 clear hx h1 hj
 refine an (fun j:Nat=>⟨[(6,.int .i64 j),(2,.mp 2 12 0 0),(3,.mp 3 12 0 0)],[(2,⟨33,12,[kU a],true⟩),(3,⟨33,12,[kU b],true⟩)]⟩) (fun j=>j≤a.ms.length∧∀k,k<j→aj a.ms k=aj b.ms k) (fun j=>a.ms.length - j) 0 ⟨cq _,fun k hk=>by omega⟩ (Wk.of ?_ ?_) ?_
 ·simp only [go_sem];try simp
 ·simp only [go_sem]
 rintro j ⟨hj,hx⟩
 by_cases h1:(j:Int)<(a.ms.length:Int)
 ·have hj':j<a.ms.length:=by omega
  have hjb:(j:Int)<(b.ms.length:Int):=by omega
  have e8:=cD hj' (by omega)
  by_cases h2:aj a.ms j=aj b.ms j
  ·simp only [go_sem,az h1,C3,az h2,bv]
   refine ⟨by omega,h1,by omega,hjb,aA (j+1) ⟨show j+1≤a.ms.length by omega,fun k hk=>?_⟩ (show a.ms.length - (j+1)<a.ms.length - j by omega) (Wk.of ?_ ?_)⟩
   ·rcases bK k j with h | h
    ·exact hx k h
    ·rw [show k=j by omega];exact h2
   ·simp only [go_sem,e8];try simp
   ·simp only [go_sem]
  ·rw [au (fun e=>h2 (by rw [e.2]))]
   simp only [go_sem,az h1,C3,au h2,bA]
   refine ⟨by omega,h1,by omega,hjb,?_⟩
   exact ae
 have g2:a.ms=b.ms:=ci (by omega) fun k hk=>hx k (by omega)
 rw [az ⟨g1,g2⟩]
 simp only [go_sem,au h1]
 exact ae
theorem Il (a b:Md) (h:Nr a):ak Tryz.prog Qe [cP a,cP b] (.bool (decide (bp a b))):=by
 refine ah (ic:=dA.body) ap OO rfl rfl ?_
 have d0:=Iq a.ts b.ts ⟨cE h.ts.1 (by decide),h.ts.2⟩
 have d1:=Nb a.ims b.ims (cE h.ims (by decide))
 have d2:=Ig a.fs b.fs ⟨cE h.fs.1 (by decide),h.fs.2⟩
 have d3:=Ip a b h.tbs h.ms
 have d4:=Ik a.gs b.gs ⟨cE h.gs.1 (by decide),h.gs.2⟩
 have d5:=Na a.exs b.exs (cE h.exs (by decide))
 have d6:=Ij a.els b.els ⟨cE h.els.1 (by decide),h.els.2⟩
 have d7:=M_ a.ds b.ds ⟨cE h.ds.1 (by decide),h.ds.2⟩
 have d8:=Ii a.cs b.cs (cE h.cs.1 (by decide))
 simp only [cP,f_] at d3
 by_cases e1:a.hs=b.hs
 rotate_left
 ·rw [au (fun e:bp a b=>e1 e.1)]
  cases ha:a.hs<;>cases hb:b.hs
  ·exact absurd (ha.trans hb.symm) e1
  ·simp only [go_sem,dA,cP,ha,hb,show (false==true)=false from rfl,bA,bv]
   exact ae
  ·simp only [go_sem,dA,cP,ha,hb,show (true==false)=false from rfl,bA,bv]
   exact ae
  ·exact absurd (ha.trans hb.symm) e1
 cases ha:a.hs
 ·have hb:b.hs=false:=by rw [← e1];exact ha
  rw [ha,hb] at d3
  by_cases c0:a.ts=b.ts
  rotate_left
  ·rw [au c0] at d0
   rw [au (fun e:bp a b=>c0 e.2.2.1)]
   simp only [go_sem,dA,cP,ha,hb,show (false==false)=true from rfl,bA,bv]
   refine aa (d0) ?_
   simp only [go_sem]
   exact ae
  rw [az c0] at d0
  by_cases c1:a.ims=b.ims
  rotate_left
  ·rw [au c1] at d1
   rw [au (fun e:bp a b=>c1 e.2.2.2.1)]
   simp only [go_sem,dA,cP,ha,hb,show (false==false)=true from rfl,bA,bv]
   refine aa (d0) ?_
   simp only [go_sem]
   refine aa (d1) ?_
   simp only [go_sem]
   exact ae
  rw [az c1] at d1
  by_cases c2:a.fs=b.fs
  rotate_left
  ·rw [au c2] at d2
   rw [au (fun e:bp a b=>c2 e.2.2.2.2.1)]
   simp only [go_sem,dA,cP,ha,hb,show (false==false)=true from rfl,bA,bv]
   refine aa (d0) ?_
   simp only [go_sem]
   refine aa (d1) ?_
   simp only [go_sem]
   refine aa (d2) ?_
   simp only [go_sem]
   exact ae
  rw [az c2] at d2
  by_cases c3:a.tbs=b.tbs∧a.ms=b.ms
  rotate_left
  ·rw [au c3] at d3
   rw [au (fun e:bp a b=>c3 e.2.2.2.2.2.1)]
   simp only [go_sem,dA,cP,ha,hb,show (false==false)=true from rfl,bA,bv]
   refine aa (d0) ?_
   simp only [go_sem]
   refine aa (d1) ?_
   simp only [go_sem]
   refine aa (d2) ?_
   simp only [go_sem]
   refine aa (d3) ?_
   simp only [go_sem]
   exact ae
  rw [az c3] at d3
  by_cases c4:a.gs=b.gs
  rotate_left
  ·rw [au c4] at d4
   rw [au (fun e:bp a b=>c4 e.2.2.2.2.2.2.1)]
   simp only [go_sem,dA,cP,ha,hb,show (false==false)=true from rfl,bA,bv]
   refine aa (d0) ?_
   simp only [go_sem]
   refine aa (d1) ?_
   simp only [go_sem]
   refine aa (d2) ?_
   simp only [go_sem]
   refine aa (d3) ?_
   simp only [go_sem]
   refine aa (d4) ?_
   simp only [go_sem]
   exact ae
  rw [az c4] at d4
  by_cases c5:a.exs=b.exs
  rotate_left
  ·rw [au c5] at d5
   rw [au (fun e:bp a b=>c5 e.2.2.2.2.2.2.2.1)]
   simp only [go_sem,dA,cP,ha,hb,show (false==false)=true from rfl,bA,bv]
   refine aa (d0) ?_
   simp only [go_sem]
   refine aa (d1) ?_
   simp only [go_sem]
   refine aa (d2) ?_
   simp only [go_sem]
   refine aa (d3) ?_
   simp only [go_sem]
   refine aa (d4) ?_
   simp only [go_sem]
   refine aa (d5) ?_
   simp only [go_sem]
   exact ae
  rw [az c5] at d5
  by_cases c6:a.els=b.els
  rotate_left
  ·rw [au c6] at d6
   rw [au (fun e:bp a b=>c6 e.2.2.2.2.2.2.2.2.1)]
   simp only [go_sem,dA,cP,ha,hb,show (false==false)=true from rfl,bA,bv]
   refine aa (d0) ?_
   simp only [go_sem]
   refine aa (d1) ?_
   simp only [go_sem]
   refine aa (d2) ?_
   simp only [go_sem]
   refine aa (d3) ?_
   simp only [go_sem]
   refine aa (d4) ?_
   simp only [go_sem]
   refine aa (d5) ?_
   simp only [go_sem]
   refine aa (d6) ?_
   simp only [go_sem]
   exact ae
  rw [az c6] at d6
  by_cases c7:a.ds=b.ds
  rotate_left
  ·rw [au c7] at d7
   rw [au (fun e:bp a b=>c7 e.2.2.2.2.2.2.2.2.2.1)]
   simp only [go_sem,dA,cP,ha,hb,show (false==false)=true from rfl,bA,bv]
   refine aa (d0) ?_
   simp only [go_sem]
   refine aa (d1) ?_
   simp only [go_sem]
   refine aa (d2) ?_
   simp only [go_sem]
   refine aa (d3) ?_
   simp only [go_sem]
   refine aa (d4) ?_
   simp only [go_sem]
   refine aa (d5) ?_
   simp only [go_sem]
   refine aa (d6) ?_
   simp only [go_sem]
   refine aa (d7) ?_
   simp only [go_sem]
   exact ae
  rw [az c7] at d7
  by_cases c8:a.cs=b.cs
  rotate_left
  ·rw [au c8] at d8
   rw [au (fun e:bp a b=>c8 e.2.2.2.2.2.2.2.2.2.2)]
   simp only [go_sem,dA,cP,ha,hb,show (false==false)=true from rfl,bA,bv]
   refine aa (d0) ?_
   simp only [go_sem]
   refine aa (d1) ?_
   simp only [go_sem]
   refine aa (d2) ?_
   simp only [go_sem]
   refine aa (d3) ?_
   simp only [go_sem]
   refine aa (d4) ?_
   simp only [go_sem]
   refine aa (d5) ?_
   simp only [go_sem]
   refine aa (d6) ?_
   simp only [go_sem]
   refine aa (d7) ?_
   simp only [go_sem]
   refine aa (d8) ?_
   simp only [go_sem]
   exact ae
  rw [az c8] at d8
  rw [az (show bp a b from ⟨e1,fun q=>absurd (ha.symm.trans q) (by decide),c0,c1,c2,c3,c4,c5,c6,c7,c8⟩)]
  simp only [go_sem,dA,cP,ha,hb,show (false==false)=true from rfl,bA,bv]
  refine aa (d0) ?_
  simp only [go_sem]
  refine aa (d1) ?_
  simp only [go_sem]
  refine aa (d2) ?_
  simp only [go_sem]
  refine aa (d3) ?_
  simp only [go_sem]
  refine aa (d4) ?_
  simp only [go_sem]
  refine aa (d5) ?_
  simp only [go_sem]
  refine aa (d6) ?_
  simp only [go_sem]
  refine aa (d7) ?_
  simp only [go_sem]
  refine aa (d8) ?_
  simp only [go_sem]
  exact ae
 ·have hb:b.hs=true:=by rw [← e1];exact ha
  rw [ha,hb] at d3
  by_cases e2:a.st=b.st
  rotate_left
  ·rw [au (fun e:bp a b=>e2 (e.2.1 ha))]
   simp only [go_sem,dA,cP,ha,hb,show (true==true)=true from rfl,bA,bv,bc e2]
   exact ae
  by_cases c0:a.ts=b.ts
  rotate_left
  ·rw [au c0] at d0
   rw [au (fun e:bp a b=>c0 e.2.2.1)]
   simp only [go_sem,dA,cP,ha,hb,show (true==true)=true from rfl,bA,bv,ay e2]
   refine aa (d0) ?_
   simp only [go_sem]
   exact ae
  rw [az c0] at d0
  by_cases c1:a.ims=b.ims
  rotate_left
  ·rw [au c1] at d1
   rw [au (fun e:bp a b=>c1 e.2.2.2.1)]
   simp only [go_sem,dA,cP,ha,hb,show (true==true)=true from rfl,bA,bv,ay e2]
   refine aa (d0) ?_
   simp only [go_sem]
   refine aa (d1) ?_
   simp only [go_sem]
   exact ae
  rw [az c1] at d1
  by_cases c2:a.fs=b.fs
  rotate_left
  ·rw [au c2] at d2
   rw [au (fun e:bp a b=>c2 e.2.2.2.2.1)]
   simp only [go_sem,dA,cP,ha,hb,show (true==true)=true from rfl,bA,bv,ay e2]
   refine aa (d0) ?_
   simp only [go_sem]
   refine aa (d1) ?_
   simp only [go_sem]
   refine aa (d2) ?_
   simp only [go_sem]
   exact ae
  rw [az c2] at d2
  by_cases c3:a.tbs=b.tbs∧a.ms=b.ms
  rotate_left
  ·rw [au c3] at d3
   rw [au (fun e:bp a b=>c3 e.2.2.2.2.2.1)]
   simp only [go_sem,dA,cP,ha,hb,show (true==true)=true from rfl,bA,bv,ay e2]
   refine aa (d0) ?_
   simp only [go_sem]
   refine aa (d1) ?_
   simp only [go_sem]
   refine aa (d2) ?_
   simp only [go_sem]
   refine aa (d3) ?_
   simp only [go_sem]
   exact ae
  rw [az c3] at d3
  by_cases c4:a.gs=b.gs
  rotate_left
  ·rw [au c4] at d4
   rw [au (fun e:bp a b=>c4 e.2.2.2.2.2.2.1)]
   simp only [go_sem,dA,cP,ha,hb,show (true==true)=true from rfl,bA,bv,ay e2]
   refine aa (d0) ?_
   simp only [go_sem]
   refine aa (d1) ?_
   simp only [go_sem]
   refine aa (d2) ?_
   simp only [go_sem]
   refine aa (d3) ?_
   simp only [go_sem]
   refine aa (d4) ?_
   simp only [go_sem]
   exact ae
  rw [az c4] at d4
  by_cases c5:a.exs=b.exs
  rotate_left
  ·rw [au c5] at d5
   rw [au (fun e:bp a b=>c5 e.2.2.2.2.2.2.2.1)]
   simp only [go_sem,dA,cP,ha,hb,show (true==true)=true from rfl,bA,bv,ay e2]
   refine aa (d0) ?_
   simp only [go_sem]
   refine aa (d1) ?_
   simp only [go_sem]
   refine aa (d2) ?_
   simp only [go_sem]
   refine aa (d3) ?_
   simp only [go_sem]
   refine aa (d4) ?_
   simp only [go_sem]
   refine aa (d5) ?_
   simp only [go_sem]
   exact ae
  rw [az c5] at d5
  by_cases c6:a.els=b.els
  rotate_left
  ·rw [au c6] at d6
   rw [au (fun e:bp a b=>c6 e.2.2.2.2.2.2.2.2.1)]
   simp only [go_sem,dA,cP,ha,hb,show (true==true)=true from rfl,bA,bv,ay e2]
   refine aa (d0) ?_
   simp only [go_sem]
   refine aa (d1) ?_
   simp only [go_sem]
   refine aa (d2) ?_
   simp only [go_sem]
   refine aa (d3) ?_
   simp only [go_sem]
   refine aa (d4) ?_
   simp only [go_sem]
   refine aa (d5) ?_
   simp only [go_sem]
   refine aa (d6) ?_
   simp only [go_sem]
   exact ae
  rw [az c6] at d6
  by_cases c7:a.ds=b.ds
  rotate_left
  ·rw [au c7] at d7
   rw [au (fun e:bp a b=>c7 e.2.2.2.2.2.2.2.2.2.1)]
   simp only [go_sem,dA,cP,ha,hb,show (true==true)=true from rfl,bA,bv,ay e2]
   refine aa (d0) ?_
   simp only [go_sem]
   refine aa (d1) ?_
   simp only [go_sem]
   refine aa (d2) ?_
   simp only [go_sem]
   refine aa (d3) ?_
   simp only [go_sem]
   refine aa (d4) ?_
   simp only [go_sem]
   refine aa (d5) ?_
   simp only [go_sem]
   refine aa (d6) ?_
   simp only [go_sem]
   refine aa (d7) ?_
   simp only [go_sem]
   exact ae
  rw [az c7] at d7
  by_cases c8:a.cs=b.cs
  rotate_left
  ·rw [au c8] at d8
   rw [au (fun e:bp a b=>c8 e.2.2.2.2.2.2.2.2.2.2)]
   simp only [go_sem,dA,cP,ha,hb,show (true==true)=true from rfl,bA,bv,ay e2]
   refine aa (d0) ?_
   simp only [go_sem]
   refine aa (d1) ?_
   simp only [go_sem]
   refine aa (d2) ?_
   simp only [go_sem]
   refine aa (d3) ?_
   simp only [go_sem]
   refine aa (d4) ?_
   simp only [go_sem]
   refine aa (d5) ?_
   simp only [go_sem]
   refine aa (d6) ?_
   simp only [go_sem]
   refine aa (d7) ?_
   simp only [go_sem]
   refine aa (d8) ?_
   simp only [go_sem]
   exact ae
  rw [az c8] at d8
  rw [az (show bp a b from ⟨e1,fun _=>e2,c0,c1,c2,c3,c4,c5,c6,c7,c8⟩)]
  simp only [go_sem,dA,cP,ha,hb,show (true==true)=true from rfl,bA,bv,ay e2]
  refine aa (d0) ?_
  simp only [go_sem]
  refine aa (d1) ?_
  simp only [go_sem]
  refine aa (d2) ?_
  simp only [go_sem]
  refine aa (d3) ?_
  simp only [go_sem]
  refine aa (d4) ?_
  simp only [go_sem]
  refine aa (d5) ?_
  simp only [go_sem]
  refine aa (d6) ?_
  simp only [go_sem]
  refine aa (d7) ?_
  simp only [go_sem]
  refine aa (d8) ?_
  simp only [go_sem]
  exact ae
end
section
open Go Go.Mw
attribute [local go_sem] dn bM cm bP cI cG cz cF ce bR bW bN aU c_ f_
theorem PS (a b:List Int) (ha:a.length≤9223372036854775807):ak Tryz.prog T6 [.sl 1 (a.map dI),.sl 1 (b.map dI)] (.bool (a==b)):=by
 refine ah (ic:=EY.body) ap Sm rfl rfl ?_
 by_cases hl:(a.length:Int)=b.length
 ·simp only [go_sem,EY,hl,bne_self_eq_false]
  refine an (fun i:Nat=>⟨[(0,.sl 1 (a.map dI)),(1,.sl 1 (b.map dI)),(12,.int .i64 a.length),(13,.int .i64 i)],[]⟩) (fun i=>i≤a.length∧∀k,k<i→aj a k=aj b k) (fun i=>a.length - i) 0 ⟨cq _,fun k hk=>absurd hk (Nat.not_lt_zero k)⟩ (Wk.of ?_ ?_) ?_
  ·simp only [go_sem,hl];try simp
  ·simp only [go_sem]
  rintro i ⟨hi,hk⟩
  by_cases h1:(i:Int)<(a.length:Int)
  ·have e8:=wi (n:=(i:Int)+1) (by omega) (by omega)
   simp only [go_sem,az h1]
   refine ⟨by omega,h1,by omega,by omega,fun h2=>?_,fun h2=>aA (i+1) ⟨by omega,fun k hk2=>?_⟩ (show a.length - (i+1)<a.length - i by omega) (Wk.of ?_ ?_)⟩
   ·have r:(a==b)=false:=by
     rw [i1]
     intro e
     rw [e] at h2
     simp at h2
    rw [r]
    exact ar
   ·rcases bK k i with h4 | h4
    ·exact hk k h4
    ·obtain rfl:k=i:=by omega
     simpa using h2
   ·simp only [go_sem,e8]
    try simp
   ·simp only [go_sem]
  ·have r:a=b:=nM (by omega) (fun k hk2=>hk k (by omega))
   have r2:(a==b)=true:=by rw [r];exact beq_self_eq_true b
   simp only [go_sem,au h1]
   rw [r2]
   exact ar
 ·have r:(a==b)=false:=by
   rw [i1]
   intro e;rw [e] at hl;exact hl rfl
  have b1:((a.length:Int) != (b.length:Int))=true:=by simpa using hl
  simp only [go_sem,EY,b1]
  rw [r]
  exact ar
theorem PT (a b:List Int) (ha:a.length≤9223372036854775807):ak Tryz.prog VW [.sl 1 (a.map dI),.sl 1 (b.map dI)] (.bool (a==b)):=by
 refine ah (ic:=Ru.body) ap VI rfl rfl ?_
 by_cases hl:(a.length:Int)=b.length
 ·simp only [go_sem,Ru,hl,bne_self_eq_false]
  refine an (fun i:Nat=>⟨[(0,.sl 1 (a.map dI)),(1,.sl 1 (b.map dI)),(12,.int .i64 a.length),(13,.int .i64 i)],[]⟩) (fun i=>i≤a.length∧∀k,k<i→aj a k=aj b k) (fun i=>a.length - i) 0 ⟨cq _,fun k hk=>absurd hk (Nat.not_lt_zero k)⟩ (Wk.of ?_ ?_) ?_
  ·simp only [go_sem,hl];try simp
  ·simp only [go_sem]
  rintro i ⟨hi,hk⟩
  by_cases h1:(i:Int)<(a.length:Int)
  ·have e8:=wi (n:=(i:Int)+1) (by omega) (by omega)
   simp only [go_sem,az h1]
   refine ⟨by omega,h1,by omega,by omega,fun h2=>?_,fun h2=>aA (i+1) ⟨by omega,fun k hk2=>?_⟩ (show a.length - (i+1)<a.length - i by omega) (Wk.of ?_ ?_)⟩
   ·have r:(a==b)=false:=by
     rw [i1]
     intro e
     rw [e] at h2
     simp at h2
    rw [r]
    exact ar
   ·rcases bK k i with h4 | h4
    ·exact hk k h4
    ·obtain rfl:k=i:=by omega
     simpa using h2
   ·simp only [go_sem,e8]
    try simp
   ·simp only [go_sem]
  ·have r:a=b:=nM (by omega) (fun k hk2=>hk k (by omega))
   have r2:(a==b)=true:=by rw [r];exact beq_self_eq_true b
   simp only [go_sem,au h1]
   rw [r2]
   exact ar
 ·have r:(a==b)=false:=by
   rw [i1]
   intro e;rw [e] at hl;exact hl rfl
  have b1:((a.length:Int) != (b.length:Int))=true:=by simpa using hl
  simp only [go_sem,Ru,b1]
  rw [r]
  exact ar
theorem HN (x y:cN) (h1:x.ty.length≤9223372036854775807) (h2:x.lb.length≤9223372036854775807):ak Tryz.prog Dx [jk x,jk y] (.bool (sI x y)):=by
 refine ah (ic:=zj.body) ap OA rfl rfl ?_
 have a1:=PT x.ty y.ty (by omega)
 have a2:=PS x.lb y.lb (by omega)
 have ft:∀b:Bool,(true&&b)=b:=fun _=>rfl
 have ff:∀b:Bool,(false&&b)=false:=fun _=>rfl
 unfold sI
 simp only [go_sem,zj]
 refine ⟨fun c1=>⟨fun c2=>⟨fun c3=>⟨fun c4=>⟨fun c5=>?_,fun c5=>?_⟩,fun c4=>?_⟩,fun c3=>?_⟩,fun c2=>?_⟩,fun c1=>?_⟩
 ·rw [c1,c2,c3,c4,c5,ft,ft,ft,ft,ft]
  refine aa (a1) ?_
  cases c6:x.ty==y.ty
  ·simp only [go_sem]
   exact ar
  ·simp only [go_sem,ft]
   refine aa (a2) ?_
   simp only [go_sem]
   exact ar
 ·rw [c1,c2,c3,c4,c5]
  exact ar
 ·rw [c1,c2,c3,c4]
  exact ar
 ·rw [c1,c2,c3]
  exact ar
 ·rw [c1,c2]
  exact ar
 ·rw [c1]
  exact ar
theorem TT (x y:cN) (h:EA x):ak Tryz.prog Dx [.agg (aU x),.agg (aU y)] (.bool (decide (x=y))):=by
 rw [← JE]
 exact HN x y (by have:=h.1;omega) (by have:=h.2;omega)
theorem oT (a b:List cN) (h:tI a):ak Tryz.prog Jt [.sl 9 (a.map aU),.sl 9 (b.map aU)] (.bool (decide (a=b))):=by
 refine ah (ic:=zu.body) ap OW rfl rfl ?_
 have c:=yn (f:=Dx) (by kernel_rfl) a b (by have:=h.1;omega) (fun x hx y=>TT x y (h.2 x hx))
 simp only [go_sem,zu]
 refine aa (c) ?_
 simp only [go_sem]
 exact ae
theorem uS (a b:List Int) (ha:a.length≤9223372036854775807):ak Tryz.prog Uc [.sl 1 (a.map dI),.sl 1 (b.map dI)] (.bool (decide (a=b))):=by
 refine ah (ic:=E5.body) ap Sz rfl rfl ?_
 by_cases hl:(a.length:Int)=(b.length:Int)
 rotate_left
 ·rw [au (fun h=>hl (by rw [h]))]
  simp only [go_sem,E5,bc hl]
  exact ae
 simp only [go_sem,E5,ay hl]
 refine an (fun j:Nat=>⟨[(14,.int .i64 j),(13,.int .i64 a.length),(12,.sl 1 (a.map dI)),(1,.sl 1 (b.map dI))],[]⟩) (fun j=>j≤a.length∧∀k,k<j→aj a k=aj b k) (fun j=>a.length - j) 0 ⟨cq _,fun k hk=>by omega⟩ (Wk.of ?_ ?_) ?_
 ·simp only [go_sem,hl];try simp
 ·simp only [go_sem]
 rintro j ⟨hj,hx⟩
 by_cases h1:(j:Int)<(a.length:Int)
 rotate_left
 ·rw [az (ci (by omega) fun k hk=>hx k (by omega))]
  simp only [go_sem,au h1]
  exact ae
 have hj':j<a.length:=by omega
 have hjb:(j:Int)<(b.length:Int):=by omega
 have e8:=cD hj' (by omega)
 by_cases h2:aj a j=aj b j
 ·simp only [go_sem,az h1,ay h2]
  refine ⟨by omega,h1,by omega,hjb,aA (j+1) ⟨show j+1≤a.length by omega,fun k hk=>?_⟩ (show a.length - (j+1)<a.length - j by omega) (Wk.of ?_ ?_)⟩
  ·rcases bK k j with h | h
   ·exact hx k h
   ·rw [show k=j by omega];exact h2
  ·simp only [go_sem,e8];try simp
  ·simp only [go_sem]
 ·rw [au (fun e=>h2 (by rw [e]))]
  simp only [go_sem,az h1,bc h2]
  refine ⟨by omega,h1,by omega,hjb,?_⟩
  exact ae
theorem HO (a b:List Int) (ha:a.length≤9223372036854775807):ak Tryz.prog Ut [.sl 1 (a.map dI),.sl 1 (b.map dI)] (.bool (decide (a=b))):=by
 refine ah (ic:=J2.body) ap SR rfl rfl ?_
 simp only [go_sem,J2]
 refine aa (uS a b ha) ?_
 simp only [go_sem]
 exact ae
theorem TR (x y:Ft) (h:NY x):ak Tryz.prog Js [.agg (dF x),.agg (dF y)] (.bool (decide (x=y))):=by
 refine ah (ic:=r8.body) ap OP rfl rfl ?_
 have d0:=uS x.ps y.ps h.1
 have d1:=uS x.rs y.rs h.2
 by_cases c0:x.ps=y.ps
 rotate_left
 ·rw [au (fun e=>c0 (by rw [e]))]
  rw [au c0] at d0
  simp only [go_sem,r8]
  refine aa (d0) ?_
  simp only [go_sem,c_]
  exact ae
 rw [az c0] at d0
 by_cases c1:x.rs=y.rs
 rotate_left
 ·rw [au (fun e=>c1 (by rw [e]))]
  rw [au c1] at d1
  simp only [go_sem,r8]
  refine aa (d0) ?_
  simp only [go_sem,c_]
  refine aa (d1) ?_
  simp only [go_sem,c_]
  exact ae
 rw [az c1] at d1
 rw [az (show x=y by obtain ⟨x0,x1⟩:=x;obtain ⟨y0,y1⟩:=y;simp only at c0 c1;simp only [c0,c1])]
 simp only [go_sem,r8]
 refine aa (d0) ?_
 simp only [go_sem,c_]
 refine aa (d1) ?_
 simp only [go_sem,c_]
 exact ae
theorem TN (x y:Cd) (h:yS x):ak Tryz.prog QX [.agg (dK x),.agg (dK y)] (.bool (decide (x=y))):=by
 refine ah (ic:=wH.body) ap Th rfl rfl ?_
 have d1:=HO x.lo y.lo h.1
 have d2:=oT x.b y.b h.2
 by_cases c0:x.t=y.t
 rotate_left
 ·rw [au (fun e=>c0 (by rw [e]))]
  simp only [go_sem,wH,aw c0]
  exact ae
 by_cases c1:x.lo=y.lo
 rotate_left
 ·rw [au (fun e=>c1 (by rw [e]))]
  rw [au c1] at d1
  simp only [go_sem,wH,aV c0]
  refine aa (d1) ?_
  simp only [go_sem,aV c0]
  exact ae
 rw [az c1] at d1
 by_cases c2:x.b=y.b
 rotate_left
 ·rw [au (fun e=>c2 (by rw [e]))]
  rw [au c2] at d2
  simp only [go_sem,wH,aV c0]
  refine aa (d1) ?_
  simp only [go_sem,aV c0]
  refine aa (d2) ?_
  simp only [go_sem,aV c0]
  exact ae
 rw [az c2] at d2
 rw [az (show x=y by obtain ⟨x0,x1,x2⟩:=x;obtain ⟨y0,y1,y2⟩:=y;simp only at c0 c1 c2;simp only [c0,c1,c2])]
 simp only [go_sem,wH,aV c0]
 refine aa (d1) ?_
 simp only [go_sem,aV c0]
 refine aa (d2) ?_
 simp only [go_sem,aV c0]
 exact ae
theorem TS (x y:Gd) (h:IP x):ak Tryz.prog QY [.agg (ej x),.agg (ej y)] (.bool (decide (x=y))):=by
 refine ah (ic:=zS.body) ap Ti rfl rfl ?_
 have d1:=oT x.i y.i h
 by_cases c0:x.g=y.g
 rotate_left
 ·rw [au (fun e=>c0 (by rw [e]))]
  simp only [go_sem,zS,jT,au c0]
  exact ae
 by_cases c1:x.i=y.i
 rotate_left
 ·rw [au (fun e=>c1 (by rw [e]))]
  rw [au c1] at d1
  simp only [go_sem,zS,jT,az c0]
  refine aa (d1) ?_
  simp only [go_sem,jT,az c0]
  exact ae
 rw [az c1] at d1
 rw [az (show x=y by obtain ⟨x0,x1⟩:=x;obtain ⟨y0,y1⟩:=y;simp only at c0 c1;simp only [c0,c1])]
 simp only [go_sem,zS,jT,az c0]
 refine aa (d1) ?_
 simp only [go_sem,jT,az c0]
 exact ae
theorem TQ (x y:El) (h:Ez x):ak Tryz.prog QZ [.agg (dL x),.agg (dL y)] (.bool (decide (x=y))):=by
 refine ah (ic:=sd.body) ap Tj rfl rfl ?_
 have d3:=oT x.o y.o h.1
 have d4:=Du (f:=Jt) (by kernel_rfl) x.it y.it (by have:=h.2.1;omega) (fun l hl k=>oT l k (h.2.2 l hl))
 by_cases c0:x.mo=y.mo
 rotate_left
 ·rw [au (fun e=>c0 (by rw [e]))]
  simp only [go_sem,sd,aw c0]
  exact ae
 by_cases c1:x.tb=y.tb
 rotate_left
 ·rw [au (fun e=>c1 (by rw [e]))]
  simp only [go_sem,sd,aV c0,aw c1]
  exact ae
 by_cases c2:x.ty=y.ty
 rotate_left
 ·rw [au (fun e=>c2 (by rw [e]))]
  simp only [go_sem,sd,aV c0,aV c1,aw c2]
  exact ae
 by_cases c3:x.o=y.o
 rotate_left
 ·rw [au (fun e=>c3 (by rw [e]))]
  rw [au c3] at d3
  simp only [go_sem,sd,aV c0,aV c1,aV c2]
  refine aa (d3) ?_
  simp only [go_sem,aV c0,aV c1,aV c2]
  exact ae
 rw [az c3] at d3
 by_cases c4:x.it=y.it
 rotate_left
 ·rw [au (fun e=>c4 (by rw [e]))]
  rw [au c4] at d4
  simp only [go_sem,sd,aV c0,aV c1,aV c2]
  refine aa (d3) ?_
  simp only [go_sem,aV c0,aV c1,aV c2]
  refine aa (d4) ?_
  simp only [go_sem,aV c0,aV c1,aV c2]
  exact ae
 rw [az c4] at d4
 rw [az (show x=y by obtain ⟨x0,x1,x2,x3,x4⟩:=x;obtain ⟨y0,y1,y2,y3,y4⟩:=y;simp only at c0 c1 c2 c3 c4;simp only [c0,c1,c2,c3,c4])]
 simp only [go_sem,sd,aV c0,aV c1,aV c2]
 refine aa (d3) ?_
 simp only [go_sem,aV c0,aV c1,aV c2]
 refine aa (d4) ?_
 simp only [go_sem,aV c0,aV c1,aV c2]
 exact ae
theorem TP (x y:Da) (h:Ey x):ak Tryz.prog Q0 [.agg (et x),.agg (et y)] (.bool (decide (x=y))):=by
 refine ah (ic:=tY.body) ap Tk rfl rfl ?_
 have d2:=oT x.o y.o h.1
 by_cases c0:x.mo=y.mo
 rotate_left
 ·rw [au (fun e=>c0 (by rw [e]))]
  simp only [go_sem,tY,aw c0]
  exact ae
 by_cases c1:x.me=y.me
 rotate_left
 ·rw [au (fun e=>c1 (by rw [e]))]
  simp only [go_sem,tY,aV c0,aw c1]
  exact ae
 by_cases c2:x.o=y.o
 rotate_left
 ·rw [au (fun e=>c2 (by rw [e]))]
  rw [au c2] at d2
  simp only [go_sem,tY,aV c0,aV c1]
  refine aa (d2) ?_
  simp only [go_sem,aV c0,aV c1]
  exact ae
 rw [az c2] at d2
 by_cases c3:x.b=y.b
 rotate_left
 ·rw [au (fun e=>c3 (by rw [e]))]
  simp only [go_sem,tY,aV c0,aV c1,dg,cK,Ja c3]
  refine aa (d2) ?_
  simp only [go_sem,aV c0,aV c1,dg,cK,Ja c3]
  exact ae
 rw [az (show x=y by obtain ⟨x0,x1,x2,x3⟩:=x;obtain ⟨y0,y1,y2,y3⟩:=y;simp only at c0 c1 c2 c3;simp only [c0,c1,c2,c3])]
 simp only [go_sem,tY,aV c0,aV c1,dg,cK,EO c3]
 refine aa (d2) ?_
 simp only [go_sem,aV c0,aV c1,dg,cK,EO c3]
 exact ae
theorem TO (x y:Cu):ak Tryz.prog Q1 [.agg (eB x),.agg (eB y)] (.bool (decide (x=y))):=by
 refine ah (ic:=wI.body) ap Tl rfl rfl ?_
 by_cases c0:x.af=y.af
 rotate_left
 ·rw [au (fun e=>c0 (by rw [e]))]
  simp only [go_sem,wI,aw c0]
  exact ae
 by_cases c1:x.n=y.n
 rotate_left
 ·rw [au (fun e=>c1 (by rw [e]))]
  simp only [go_sem,wI,aV c0,Ja c1]
  exact ae
 by_cases c2:x.b=y.b
 rotate_left
 ·rw [au (fun e=>c2 (by rw [e]))]
  simp only [go_sem,wI,aV c0,EO c1,dg,cK,Ja c2]
  exact ae
 rw [az (show x=y by obtain ⟨x0,x1,x2⟩:=x;obtain ⟨y0,y1,y2⟩:=y;simp only at c0 c1 c2;simp only [c0,c1,c2])]
 simp only [go_sem,wI,aV c0,EO c1,dg,cK,EO c2]
 exact ae
end
section
open Go Go.Mw
attribute [local go_sem] dn f_
theorem rz (a b:Md) (h:Nr a):ak Tryz.prog Dz [cP a,cP b] (.bool (decide (bp a b))):=by
 refine ah (ic:=de.body) ap OQ rfl rfl ?_
 have d0:=Dq (f:=Js) (by kernel_rfl) a.ts b.ts (by have:=h.ts.1;omega) (fun x hx y=>TR x y (h.ts.2 x hx))
 have d1:=Ds (f:=Qm) (by kernel_rfl) a.ims b.ims (by have:=h.ims;omega) (fun x hx y=>Mn x y)
 have d2:=Dl (f:=QX) (by kernel_rfl) a.fs b.fs (by have:=h.fs.1;omega) (fun x hx y=>TN x y (h.fs.2 x hx))
 have d3:=Dv (f:=Qv) (by kernel_rfl) a.tbs b.tbs (by have:=h.tbs;omega) (fun x hx y=>Mp x y)
 have d4:=Dt (f:=Qs) (by kernel_rfl) a.ms b.ms (by have:=h.ms;omega) (fun x hx y=>Mo x y)
 have d5:=Dr (f:=QY) (by kernel_rfl) a.gs b.gs (by have:=h.gs.1;omega) (fun x hx y=>TS x y (h.gs.2 x hx))
 have d6:=Dp (f:=Qf) (by kernel_rfl) a.exs b.exs (by have:=h.exs;omega) (fun x hx y=>Mm x y)
 have d7:=Do (f:=QZ) (by kernel_rfl) a.els b.els (by have:=h.els.1;omega) (fun x hx y=>TQ x y (h.els.2 x hx))
 have d8:=Dn (f:=Q0) (by kernel_rfl) a.ds b.ds (by have:=h.ds.1;omega) (fun x hx y=>TP x y (h.ds.2 x hx))
 have d9:=Dm (f:=Q1) (by kernel_rfl) a.cs b.cs (by have:=h.cs.1;omega) (fun x hx y=>TO x y)
 by_cases e1:a.hs=b.hs
 rotate_left
 ·rw [au (fun e:bp a b=>e1 e.1)]
  cases ha:a.hs<;>cases hb:b.hs
  ·exact absurd (ha.trans hb.symm) e1
  ·simp only [go_sem,de,cP,ha,hb,show (false==true)=false from rfl,bA,bv]
   exact ae
  ·simp only [go_sem,de,cP,ha,hb,show (true==false)=false from rfl,bA,bv]
   exact ae
  ·exact absurd (ha.trans hb.symm) e1
 cases ha:a.hs
 ·have hb:b.hs=false:=by rw [← e1];exact ha
  by_cases c0:a.ts=b.ts
  rotate_left
  ·rw [au c0] at d0
   rw [au (fun e:bp a b=>c0 e.2.2.1)]
   simp only [go_sem,de,cP,ha,hb,show (false==false)=true from rfl,bA,bv]
   refine aa (d0) ?_
   simp only [go_sem]
   exact ae
  rw [az c0] at d0
  by_cases c1:a.ims=b.ims
  rotate_left
  ·rw [au c1] at d1
   rw [au (fun e:bp a b=>c1 e.2.2.2.1)]
   simp only [go_sem,de,cP,ha,hb,show (false==false)=true from rfl,bA,bv]
   refine aa (d0) ?_
   simp only [go_sem]
   refine aa (d1) ?_
   simp only [go_sem]
   exact ae
  rw [az c1] at d1
  by_cases c2:a.fs=b.fs
  rotate_left
  ·rw [au c2] at d2
   rw [au (fun e:bp a b=>c2 e.2.2.2.2.1)]
   simp only [go_sem,de,cP,ha,hb,show (false==false)=true from rfl,bA,bv]
   refine aa (d0) ?_
   simp only [go_sem]
   refine aa (d1) ?_
   simp only [go_sem]
   refine aa (d2) ?_
   simp only [go_sem]
   exact ae
  rw [az c2] at d2
  by_cases c3:a.tbs=b.tbs
  rotate_left
  ·rw [au c3] at d3
   rw [au (fun e:bp a b=>c3 e.2.2.2.2.2.1.1)]
   simp only [go_sem,de,cP,ha,hb,show (false==false)=true from rfl,bA,bv]
   refine aa (d0) ?_
   simp only [go_sem]
   refine aa (d1) ?_
   simp only [go_sem]
   refine aa (d2) ?_
   simp only [go_sem]
   refine aa (d3) ?_
   simp only [go_sem]
   exact ae
  rw [az c3] at d3
  by_cases c4:a.ms=b.ms
  rotate_left
  ·rw [au c4] at d4
   rw [au (fun e:bp a b=>c4 e.2.2.2.2.2.1.2)]
   simp only [go_sem,de,cP,ha,hb,show (false==false)=true from rfl,bA,bv]
   refine aa (d0) ?_
   simp only [go_sem]
   refine aa (d1) ?_
   simp only [go_sem]
   refine aa (d2) ?_
   simp only [go_sem]
   refine aa (d3) ?_
   simp only [go_sem]
   refine aa (d4) ?_
   simp only [go_sem]
   exact ae
  rw [az c4] at d4
  by_cases c5:a.gs=b.gs
  rotate_left
  ·rw [au c5] at d5
   rw [au (fun e:bp a b=>c5 e.2.2.2.2.2.2.1)]
   simp only [go_sem,de,cP,ha,hb,show (false==false)=true from rfl,bA,bv]
   refine aa (d0) ?_
   simp only [go_sem]
   refine aa (d1) ?_
   simp only [go_sem]
   refine aa (d2) ?_
   simp only [go_sem]
   refine aa (d3) ?_
   simp only [go_sem]
   refine aa (d4) ?_
   simp only [go_sem]
   refine aa (d5) ?_
   simp only [go_sem]
   exact ae
  rw [az c5] at d5
  by_cases c6:a.exs=b.exs
  rotate_left
  ·rw [au c6] at d6
   rw [au (fun e:bp a b=>c6 e.2.2.2.2.2.2.2.1)]
   simp only [go_sem,de,cP,ha,hb,show (false==false)=true from rfl,bA,bv]
   refine aa (d0) ?_
   simp only [go_sem]
   refine aa (d1) ?_
   simp only [go_sem]
   refine aa (d2) ?_
   simp only [go_sem]
   refine aa (d3) ?_
   simp only [go_sem]
   refine aa (d4) ?_
   simp only [go_sem]
   refine aa (d5) ?_
   simp only [go_sem]
   refine aa (d6) ?_
   simp only [go_sem]
   exact ae
  rw [az c6] at d6
  by_cases c7:a.els=b.els
  rotate_left
  ·rw [au c7] at d7
   rw [au (fun e:bp a b=>c7 e.2.2.2.2.2.2.2.2.1)]
   simp only [go_sem,de,cP,ha,hb,show (false==false)=true from rfl,bA,bv]
   refine aa (d0) ?_
   simp only [go_sem]
   refine aa (d1) ?_
   simp only [go_sem]
   refine aa (d2) ?_
   simp only [go_sem]
   refine aa (d3) ?_
   simp only [go_sem]
   refine aa (d4) ?_
   simp only [go_sem]
   refine aa (d5) ?_
   simp only [go_sem]
   refine aa (d6) ?_
   simp only [go_sem]
   refine aa (d7) ?_
   simp only [go_sem]
   exact ae
  rw [az c7] at d7
  by_cases c8:a.ds=b.ds
  rotate_left
  ·rw [au c8] at d8
   rw [au (fun e:bp a b=>c8 e.2.2.2.2.2.2.2.2.2.1)]
   simp only [go_sem,de,cP,ha,hb,show (false==false)=true from rfl,bA,bv]
   refine aa (d0) ?_
   simp only [go_sem]
   refine aa (d1) ?_
   simp only [go_sem]
   refine aa (d2) ?_
   simp only [go_sem]
   refine aa (d3) ?_
   simp only [go_sem]
   refine aa (d4) ?_
   simp only [go_sem]
   refine aa (d5) ?_
   simp only [go_sem]
   refine aa (d6) ?_
   simp only [go_sem]
   refine aa (d7) ?_
   simp only [go_sem]
   refine aa (d8) ?_
   simp only [go_sem]
   exact ae
  rw [az c8] at d8
  by_cases c9:a.cs=b.cs
  rotate_left
  ·rw [au c9] at d9
   rw [au (fun e:bp a b=>c9 e.2.2.2.2.2.2.2.2.2.2)]
   simp only [go_sem,de,cP,ha,hb,show (false==false)=true from rfl,bA,bv]
   refine aa (d0) ?_
   simp only [go_sem]
   refine aa (d1) ?_
   simp only [go_sem]
   refine aa (d2) ?_
   simp only [go_sem]
   refine aa (d3) ?_
   simp only [go_sem]
   refine aa (d4) ?_
   simp only [go_sem]
   refine aa (d5) ?_
   simp only [go_sem]
   refine aa (d6) ?_
   simp only [go_sem]
   refine aa (d7) ?_
   simp only [go_sem]
   refine aa (d8) ?_
   simp only [go_sem]
   refine aa (d9) ?_
   simp only [go_sem]
   exact ae
  rw [az c9] at d9
  rw [az (show bp a b from ⟨e1,fun q=>absurd (ha.symm.trans q) (by decide),c0,c1,c2,⟨c3,c4⟩,c5,c6,c7,c8,c9⟩)]
  simp only [go_sem,de,cP,ha,hb,show (false==false)=true from rfl,bA,bv]
  refine aa (d0) ?_
  simp only [go_sem]
  refine aa (d1) ?_
  simp only [go_sem]
  refine aa (d2) ?_
  simp only [go_sem]
  refine aa (d3) ?_
  simp only [go_sem]
  refine aa (d4) ?_
  simp only [go_sem]
  refine aa (d5) ?_
  simp only [go_sem]
  refine aa (d6) ?_
  simp only [go_sem]
  refine aa (d7) ?_
  simp only [go_sem]
  refine aa (d8) ?_
  simp only [go_sem]
  refine aa (d9) ?_
  simp only [go_sem]
  exact ae
 ·have hb:b.hs=true:=by rw [← e1];exact ha
  by_cases e2:a.st=b.st
  rotate_left
  ·rw [au (fun e:bp a b=>e2 (e.2.1 ha))]
   simp only [go_sem,de,cP,ha,hb,show (true==true)=true from rfl,bA,bv,bc e2]
   exact ae
  by_cases c0:a.ts=b.ts
  rotate_left
  ·rw [au c0] at d0
   rw [au (fun e:bp a b=>c0 e.2.2.1)]
   simp only [go_sem,de,cP,ha,hb,show (true==true)=true from rfl,bA,bv,ay e2]
   refine aa (d0) ?_
   simp only [go_sem]
   exact ae
  rw [az c0] at d0
  by_cases c1:a.ims=b.ims
  rotate_left
  ·rw [au c1] at d1
   rw [au (fun e:bp a b=>c1 e.2.2.2.1)]
   simp only [go_sem,de,cP,ha,hb,show (true==true)=true from rfl,bA,bv,ay e2]
   refine aa (d0) ?_
   simp only [go_sem]
   refine aa (d1) ?_
   simp only [go_sem]
   exact ae
  rw [az c1] at d1
  by_cases c2:a.fs=b.fs
  rotate_left
  ·rw [au c2] at d2
   rw [au (fun e:bp a b=>c2 e.2.2.2.2.1)]
   simp only [go_sem,de,cP,ha,hb,show (true==true)=true from rfl,bA,bv,ay e2]
   refine aa (d0) ?_
   simp only [go_sem]
   refine aa (d1) ?_
   simp only [go_sem]
   refine aa (d2) ?_
   simp only [go_sem]
   exact ae
  rw [az c2] at d2
  by_cases c3:a.tbs=b.tbs
  rotate_left
  ·rw [au c3] at d3
   rw [au (fun e:bp a b=>c3 e.2.2.2.2.2.1.1)]
   simp only [go_sem,de,cP,ha,hb,show (true==true)=true from rfl,bA,bv,ay e2]
   refine aa (d0) ?_
   simp only [go_sem]
   refine aa (d1) ?_
   simp only [go_sem]
   refine aa (d2) ?_
   simp only [go_sem]
   refine aa (d3) ?_
   simp only [go_sem]
   exact ae
  rw [az c3] at d3
  by_cases c4:a.ms=b.ms
  rotate_left
  ·rw [au c4] at d4
   rw [au (fun e:bp a b=>c4 e.2.2.2.2.2.1.2)]
   simp only [go_sem,de,cP,ha,hb,show (true==true)=true from rfl,bA,bv,ay e2]
   refine aa (d0) ?_
   simp only [go_sem]
   refine aa (d1) ?_
   simp only [go_sem]
   refine aa (d2) ?_
   simp only [go_sem]
   refine aa (d3) ?_
   simp only [go_sem]
   refine aa (d4) ?_
   simp only [go_sem]
   exact ae
  rw [az c4] at d4
  by_cases c5:a.gs=b.gs
  rotate_left
  ·rw [au c5] at d5
   rw [au (fun e:bp a b=>c5 e.2.2.2.2.2.2.1)]
   simp only [go_sem,de,cP,ha,hb,show (true==true)=true from rfl,bA,bv,ay e2]
   refine aa (d0) ?_
   simp only [go_sem]
   refine aa (d1) ?_
   simp only [go_sem]
   refine aa (d2) ?_
   simp only [go_sem]
   refine aa (d3) ?_
   simp only [go_sem]
   refine aa (d4) ?_
   simp only [go_sem]
   refine aa (d5) ?_
   simp only [go_sem]
   exact ae
  rw [az c5] at d5
  by_cases c6:a.exs=b.exs
  rotate_left
  ·rw [au c6] at d6
   rw [au (fun e:bp a b=>c6 e.2.2.2.2.2.2.2.1)]
   simp only [go_sem,de,cP,ha,hb,show (true==true)=true from rfl,bA,bv,ay e2]
   refine aa (d0) ?_
   simp only [go_sem]
   refine aa (d1) ?_
   simp only [go_sem]
   refine aa (d2) ?_
   simp only [go_sem]
   refine aa (d3) ?_
   simp only [go_sem]
   refine aa (d4) ?_
   simp only [go_sem]
   refine aa (d5) ?_
   simp only [go_sem]
   refine aa (d6) ?_
   simp only [go_sem]
   exact ae
  rw [az c6] at d6
  by_cases c7:a.els=b.els
  rotate_left
  ·rw [au c7] at d7
   rw [au (fun e:bp a b=>c7 e.2.2.2.2.2.2.2.2.1)]
   simp only [go_sem,de,cP,ha,hb,show (true==true)=true from rfl,bA,bv,ay e2]
   refine aa (d0) ?_
   simp only [go_sem]
   refine aa (d1) ?_
   simp only [go_sem]
   refine aa (d2) ?_
   simp only [go_sem]
   refine aa (d3) ?_
   simp only [go_sem]
   refine aa (d4) ?_
   simp only [go_sem]
   refine aa (d5) ?_
   simp only [go_sem]
   refine aa (d6) ?_
   simp only [go_sem]
   refine aa (d7) ?_
   simp only [go_sem]
   exact ae
  rw [az c7] at d7
  by_cases c8:a.ds=b.ds
  rotate_left
  ·rw [au c8] at d8
   rw [au (fun e:bp a b=>c8 e.2.2.2.2.2.2.2.2.2.1)]
   simp only [go_sem,de,cP,ha,hb,show (true==true)=true from rfl,bA,bv,ay e2]
   refine aa (d0) ?_
   simp only [go_sem]
   refine aa (d1) ?_
   simp only [go_sem]
   refine aa (d2) ?_
   simp only [go_sem]
   refine aa (d3) ?_
   simp only [go_sem]
   refine aa (d4) ?_
   simp only [go_sem]
   refine aa (d5) ?_
   simp only [go_sem]
   refine aa (d6) ?_
   simp only [go_sem]
   refine aa (d7) ?_
   simp only [go_sem]
   refine aa (d8) ?_
   simp only [go_sem]
   exact ae
  rw [az c8] at d8
  by_cases c9:a.cs=b.cs
  rotate_left
  ·rw [au c9] at d9
   rw [au (fun e:bp a b=>c9 e.2.2.2.2.2.2.2.2.2.2)]
   simp only [go_sem,de,cP,ha,hb,show (true==true)=true from rfl,bA,bv,ay e2]
   refine aa (d0) ?_
   simp only [go_sem]
   refine aa (d1) ?_
   simp only [go_sem]
   refine aa (d2) ?_
   simp only [go_sem]
   refine aa (d3) ?_
   simp only [go_sem]
   refine aa (d4) ?_
   simp only [go_sem]
   refine aa (d5) ?_
   simp only [go_sem]
   refine aa (d6) ?_
   simp only [go_sem]
   refine aa (d7) ?_
   simp only [go_sem]
   refine aa (d8) ?_
   simp only [go_sem]
   refine aa (d9) ?_
   simp only [go_sem]
   exact ae
  rw [az c9] at d9
  rw [az (show bp a b from ⟨e1,fun _=>e2,c0,c1,c2,⟨c3,c4⟩,c5,c6,c7,c8,c9⟩)]
  simp only [go_sem,de,cP,ha,hb,show (true==true)=true from rfl,bA,bv,ay e2]
  refine aa (d0) ?_
  simp only [go_sem]
  refine aa (d1) ?_
  simp only [go_sem]
  refine aa (d2) ?_
  simp only [go_sem]
  refine aa (d3) ?_
  simp only [go_sem]
  refine aa (d4) ?_
  simp only [go_sem]
  refine aa (d5) ?_
  simp only [go_sem]
  refine aa (d6) ?_
  simp only [go_sem]
  refine aa (d7) ?_
  simp only [go_sem]
  refine aa (d8) ?_
  simp only [go_sem]
  refine aa (d9) ?_
  simp only [go_sem]
  exact ae
end
section
open Go Go.Mw
def NT:Im:=⟨[],[],1,0,3,⟨0,0,false⟩,⟨0,0,false⟩,⟨0,false⟩⟩
def xI:Md:=⟨[⟨[],[]⟩],[],[⟨0,[],[⟨6,0,0,0,0,0,0,[],[]⟩,⟨11,0,0,0,0,0,0,[],[]⟩]⟩],[],[],[],[],false,0,[],[],[]⟩
def Rv:Md:=⟨List.replicate 65 ⟨[],[]⟩,[],[],[],[],[],[],false,0,[],[],[]⟩
def Lj:Md:=⟨[],List.replicate 5 NT,[],[],[],[],[],false,0,[],[],[]⟩
def rd:List AV:=[.sl 2 [[.nl,.nl]],.nl,.sl 3 [[.int .i64 0,.nl,.sl 9 [[.int .i64 6,.int .i64 0,.int .i64 0,.int .u64 0,.int .i64 0,.int .i64 0,.int .i64 0,.nl,.nl],[.int .i64 11,.int .i64 0,.int .i64 0,.int .u64 0,.int .i64 0,.int .i64 0,.int .i64 0,.nl,.nl]]]],.nl,.nl,.nl,.nl,.bool false,.int .i64 0,.nl,.nl,.nl]
def Lh:List AV:=[.sl 2 (List.replicate 65 [.nl,.nl]),.nl,.nl,.nl,.nl,.nl,.nl,.bool false,.int .i64 0,.nl,.nl,.nl]
def Gm:List AV:=[.nl,.sl 13 ((List.replicate 5 NT).map dy),.nl,.nl,.nl,.nl,.nl,.bool false,.int .i64 0,.nl,.nl,.nl]
theorem Bw:rd=[.sl 2 [[.nl,.nl]],.nl,.sl 3 [[.int .i64 0,.nl,.sl 9 [[.int .i64 6,.int .i64 0,.int .i64 0,.int .u64 0,.int .i64 0,.int .i64 0,.int .i64 0,.nl,.nl],[.int .i64 11,.int .i64 0,.int .i64 0,.int .u64 0,.int .i64 0,.int .i64 0,.int .i64 0,.nl,.nl]]]],.nl,.nl,.nl,.nl,.bool false,.int .i64 0,.nl,.nl,.nl]:=rfl
theorem Li:Lh=[.sl 2 (List.replicate 65 [.nl,.nl]),.nl,.nl,.nl,.nl,.nl,.nl,.bool false,.int .i64 0,.nl,.nl,.nl]:=rfl
theorem Lk:Gm=[.nl,.sl 13 ((List.replicate 5 NT).map dy),.nl,.nl,.nl,.nl,.nl,.bool false,.int .i64 0,.nl,.nl,.nl]:=rfl
theorem DD:My (.agg rd) (cP xI) :=
 .inr ⟨_,_,rfl,rfl,oZ ⟨⟨.nl _,.nl _,trivial⟩,trivial⟩,.nl _,oZ ⟨⟨.rfl _,.nl _,oZ ⟨⟨.rfl _,.rfl _,.rfl _,.rfl _,.rfl _,.rfl _,.rfl _,.nl _,.nl _,trivial⟩,⟨.rfl _,.rfl _,.rfl _,.rfl _,.rfl _,.rfl _,.rfl _,.nl _,.nl _,trivial⟩,trivial⟩,trivial⟩,trivial⟩,.nl _,.nl _,.nl _,.nl _,.rfl _,.rfl _,.nl _,.nl _,.nl _,trivial⟩
theorem DE:∀n:Nat,aC (aC Nd) (List.replicate n [.nl,.nl]) ((List.replicate n (⟨[],[]⟩:Ft)).map dF)
 | 0=>trivial
 | n+1=>⟨⟨.nl _,.nl _,trivial⟩,DE n⟩
theorem UG:My (.agg Lh) (cP Rv):=.inr ⟨_,_,rfl,rfl,oZ (DE 65),.nl _,.nl _,.nl _,.nl _,.nl _,.nl _,.rfl _,.rfl _,.nl _,.nl _,.nl _,trivial⟩
theorem Q2:My (.agg Gm) (cP Lj):=.inr ⟨_,_,rfl,rfl,.nl _,.rfl _,.nl _,.nl _,.nl _,.nl _,.nl _,.rfl _,.rfl _,.nl _,.nl _,.nl _,trivial⟩
theorem IQ:Nr xI:=⟨⟨by decide,fun x hx=>by
  simp only [xI,eL] at hx;subst hx;exact ⟨by decide,by decide⟩⟩,by decide,⟨by decide,fun x hx=>by
  simp only [xI,eL] at hx;subst hx
  refine ⟨by decide,by decide,fun y hy=>?_⟩
  simp only [bE,List.not_mem_nil,or_false] at hy
  rcases hy with rfl | rfl<;>exact ⟨by decide,by decide,by decide⟩⟩,by decide,by decide,⟨by decide,fun x h=>by cases h⟩,by decide,⟨by decide,fun x h=>by cases h⟩,⟨by decide,fun x h=>by cases h⟩,⟨by decide,fun x h=>by cases h⟩⟩
theorem U7:Nr Rv:=⟨⟨by decide,fun x hx=>by
  obtain rfl:=List.eq_of_mem_replicate hx;exact ⟨by decide,by decide⟩⟩,by decide,⟨by decide,fun x h=>by cases h⟩,by decide,by decide,⟨by decide,fun x h=>by cases h⟩,by decide,⟨by decide,fun x h=>by cases h⟩,⟨by decide,fun x h=>by cases h⟩,⟨by decide,fun x h=>by cases h⟩⟩
theorem U8:KU Lj:=⟨⟨by decide,fun x h=>by cases h⟩,by decide,⟨by decide,fun x h=>by cases h⟩,by decide,by decide,⟨by decide,fun x h=>by cases h⟩,by decide,⟨by decide,fun x h=>by cases h⟩,⟨by decide,fun x h=>by cases h⟩,⟨by decide,fun x h=>by cases h⟩⟩
deriving instance DecidableEq for Fa
theorem PQ:lN EQ xI =⟨12,0,0,10⟩:=by decide +kernel
theorem PR:lN EQ Rv =⟨1,64,0,6⟩:=by decide +kernel
theorem PG:GC xI=2:=by decide +kernel
theorem IL:decide (bp xI Lj)=false:=by
 apply au
 intro h
 have:=h.2.2.1
 cases this
attribute [local go_sem] dn f_ Bw
theorem Ek:ak Tryz.prog UF [] (.bool true):=by
 refine ah (ic:=Kh.body) ap Te rfl rfl ?_
 have c1:ak Tryz.prog Mv [.agg rd] (.agg [.int .i64 12,.int .i64 0,.int .i64 0,.int .i64 10]):=by
  have c:=oS EQ xI IQ Ep
  rw [PQ] at c
  exact eP c ⟨DD,trivial⟩
 have c2:ak Tryz.prog Mv [.agg Lh] (.agg [.int .i64 1,.int .i64 64,.int .i64 0,.int .i64 6]):=by
  have c:=oS EQ Rv U7 Ep
  rw [PR] at c
  exact eP c ⟨UG,trivial⟩
 have c3:ak Tryz.prog Dz [.agg rd,.agg rd] (.bool true):=by
  have c:=rz xI xI IQ
  rw [az (nW xI)] at c
  exact eP c ⟨DD,DD,trivial⟩
 have c4:ak Tryz.prog Dz [.agg rd,.agg Gm] (.bool false):=by
  have c:=rz xI Lj IQ
  rw [IL] at c
  exact eP c ⟨DD,Q2,trivial⟩
 have c5:ak Tryz.prog QW [.agg rd] (.int .i64 2):=by
  have c:=sU xI IQ
  rw [PG] at c
  exact eP c ⟨DD,trivial⟩
 have c6:ak Tryz.prog Dy [.agg Gm] (cP Lj):=eP (ww Lj U8) ⟨Q2,trivial⟩
 rw [Bw] at c1 c3 c4 c5
 rw [Lk] at c4 c6
 rw [Li] at c2
 simp only [go_sem,Kh]
 refine ⟨_,Wk.frzs [7,10] _,?_⟩
 simp only [dG]
 simp only [go_sem,bD,List.take_succ_cons,dN]
 refine an (fun j:Nat=>⟨[(4,.int .i64 j),(3,.mp 3 12 0 0),(2,.mp 2 12 0 0),(0,.bool false)],[(3,⟨33,12,[[.nl,.ms 900 13 0 j,.nl,.nl,.nl,.nl,.nl,.bool false,.int .i64 0,.nl,.nl,.nl]],true⟩),(900,⟨57,13,(List.replicate j NT).map dy,false⟩),(2,⟨33,12,[rd],true⟩)]⟩) (fun j=>j≤5) (fun j=>5 - j) 0 (cq _) ((Wk.frzs [12] _).trans ((Wk.new0 _ 900 13 57 (.inl (by decide))).trans ((Wk.nlm _ 3 (r:=[.nl,.nl,.nl,.nl,.nl,.nl,.nl,.bool false,.int .i64 0,.nl,.nl,.nl]) rfl (r':=[.nl,.ms 900 13 0 0,.nl,.nl,.nl,.nl,.nl,.bool false,.int .i64 0,.nl,.nl,.nl]) ⟨.inl rfl,.inr ⟨rfl,.inr ⟨_,_,rfl⟩⟩,.inl rfl,.inl rfl,.inl rfl,.inl rfl,.inl rfl,.inl rfl,.inl rfl,.inl rfl,.inl rfl,.inl rfl,trivial⟩).trans (Wk.of ?_ ?_)))) ?_
 ·simp only [go_sem];try simp
 ·simp only [go_sem,bD,List.take_succ_cons,dN];try simp [rd]
 intro j hj
 have happ:=fun ys=>br 900 57 13 j dy (List.replicate j NT) ys (by simp)
 by_cases h1:(j:Int)<5
 ·have e8:=cD (show j<5 by omega) (by omega)
  simp only [go_sem,az h1,happ]
  refine ⟨by omega,aA (j+1) (show j+1≤5 by omega) (show 5 - (j+1)<5 - j by omega) (Wk.of ?_ ?_)⟩
  ·simp only [go_sem,e8];try simp
  ·simp only [go_sem];try simp [List.replicate_succ',NT,cm]
 obtain rfl:j=5:=by omega
 simp only [go_sem,au h1]
 refine aa (c1) ?_
 simp only [go_sem]
 refine ⟨by decide,?_⟩
 refine kB [31] ?_ c2 (by simp [go_sem]) ?_
 ·simp only [go_sem,bD]
  try rfl
 simp only [go_sem]
 refine aa (c3) ?_
 simp only [go_sem]
 refine kB [900] ?_ c4 (by simp [go_sem]) ?_
 ·simp only [go_sem,bD]
  try rfl
 simp only [go_sem]
 refine aa (c5) ?_
 simp only [go_sem]
 refine kB [] ?_ c6 (by simp [go_sem]) ?_
 ·first | rfl | (simp only [go_sem,bD];try rfl)
 simp only [go_sem,cP,show ((Lj.ims.length:Nat):Int)=5 from rfl]
 exact ae
end
open Go Go.Mw
def Vp (b:Nat):Prop:=¬(b<128∨b≥192)
instance (b:Nat):Decidable (Vp b):=by unfold Vp;exact inferInstance
def PE (s p:List UInt8):Bool:=decide (p.length≤s.length)&&(s.take p.length==p)
def r3 (n:Int):List AV:=[.int .i32 n]
theorem US (n:Int):r3 n=[.int .i32 n]:=rfl
attribute [go_sem] US
def kW (v:AV):Prop:=ax v=[]
def V3 (r:List Int):List AV:=[.sl 1 (r.map dI)]
theorem U3 (r:List Int):V3 r=[.sl 1 (r.map dI)]:=rfl
attribute [go_sem] U3
end Go.Proofs.YtdefmgmmjfgbpaaGreatDoor