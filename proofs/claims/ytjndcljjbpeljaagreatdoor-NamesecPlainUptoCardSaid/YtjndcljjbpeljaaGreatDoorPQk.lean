import Derived.Test.YtjndcljjbpeljaaGreatDoorPQj
set_option linter.all false
set_option maxRecDepth 100000
set_option maxHeartbeats 40000000
namespace Go.Proofs.YtjndcljjbpeljaaGreatDoor
section
open Go Go.Mw
attribute [local go_sem] cY dp dz cH dO c_ mh jV d_ dU a_ jc bG
theorem PN (a b:List Da) (ha:a.length≤9223372036854775807∧∀x∈a,VF x):ae Tryz.prog Y7 [.sl 4 (a.map vR),.sl 4 (b.map vR)] (.bool (decide (a=b))):=by
 refine ab (ic:=G2.body) aq Xg rfl rfl ?_
 by_cases hl:(a.length:Int)=(b.length:Int)
 rotate_left
 ·rw [aG (fun h=>hl (by rw [h]))]
  simp only [go_sem,G2,aZ hl]
  exact aj
 simp only [go_sem,G2,aL hl]
 refine an (fun j:Nat=>⟨[(5,.int .i64 j),(0,.sl 4 (a.map vR)),(1,.sl 4 (b.map vR))],[]⟩) (fun j=>j≤a.length∧∀k,k<j→ah a k=ah b k) (fun j=>a.length - j) 0 ⟨cE _,fun k hk=>by omega⟩ (Wk.of ?_ ?_) ?_
 ·simp only [go_sem];try simp
 ·simp only [go_sem]
 rintro j ⟨hj,hx⟩
 by_cases h1:(j:Int)<(a.length:Int)
 rotate_left
 ·rw [aF (fF (by omega) fun k hk=>hx k (by omega))]
  simp only [go_sem,aG h1]
  exact aj
 have hj':j<a.length:=by omega
 have hjb:(j:Int)<(b.length:Int):=by omega
 have e8:=eS hj' (by omega)
 obtain ⟨ha,hs⟩:=ha
 have hX:=bp hs hj'
 clear hs
 have neq:ah a j≠ah b j→decide (a=b)=false:=fun h=>aG (fun e=>h (by rw [e]))
 by_cases c1:(ah a j).mo=(ah b j).mo
 rotate_left
 ·rw [neq (fun e=>c1 (by rw [e]))]
  simp only [go_sem,aF h1,aZ c1]
  refine ⟨by omega,h1,by omega,hjb,?_⟩
  exact aj
 by_cases c2:(ah a j).me=(ah b j).me
 rotate_left
 ·rw [neq (fun e=>c2 (by rw [e]))]
  simp only [go_sem,aF h1,aL c1,aZ c2]
  refine ⟨by omega,h1,by omega,hjb,?_⟩
  exact aj
 by_cases c3:(ah a j).o=(ah b j).o
 rotate_left
 ·rw [neq (fun e=>c3 (by rw [e]))]
  simp only [go_sem,aF h1,aL c1,aL c2]
  refine ⟨by omega,h1,by omega,hjb,?_⟩
  have cc2:=dA (ah a j).o (ah b j).o hX.1
  rw [aG c3] at cc2
  refine aa (cc2) ?_
  simp only [go_sem,aF h1,aL c1,aL c2]
  exact aj
 by_cases c4:(ah a j).b=(ah b j).b
 rotate_left
 ·rw [neq (fun e=>c4 (by rw [e]))]
  simp only [go_sem,aF h1,aL c1,aL c2,fg,fe,Wa c4,cQ,cZ]
  refine ⟨by omega,h1,by omega,hjb,?_⟩
  have cc2:=dA (ah a j).o (ah b j).o hX.1
  rw [aF c3] at cc2
  refine aa (cc2) ?_
  simp only [go_sem,aF h1,aL c1,aL c2,fg,fe,Wa c4,cQ,cZ]
  exact aj
 have h2:ah a j=ah b j:=by
  generalize ah a j=X at *
  generalize ah b j=Y at *
  obtain ⟨x0,x1,x2,x3⟩:=X
  obtain ⟨y0,y1,y2,y3⟩:=Y
  simp only at c1 c2 c3 c4
  simp only [c1,c2,c3,c4]
 simp only [go_sem,aF h1,aL c1,aL c2,fg,fe,Ro c4,cQ,cZ]
 refine ⟨by omega,h1,by omega,hjb,?_⟩
 have cc2:=dA (ah a j).o (ah b j).o hX.1
 rw [aF c3] at cc2
 refine aa (cc2) ?_
 simp only [go_sem,aF h1,aL c1,aL c2,fg,fe,Ro c4,cQ,cZ]
 refine aC (j+1) ⟨show j+1≤a.length by omega,fun k hk=>?_⟩ (show a.length - (j+1)<a.length - j by omega) (Wk.of ?_ ?_)
 ·rcases dT k j with h | h
  ·exact hx k h
  ·rw [show k=j by omega];exact h2
 ·simp only [go_sem,e8];try simp
 ·simp only [go_sem]
theorem J6 (a b:List El) (ha:a.length≤9223372036854775807∧∀x∈a,VG x):ae Tryz.prog Y8 [.sl 5 (a.map l0),.sl 5 (b.map l0)] (.bool (decide (a=b))):=by
 refine ab (ic:=G3.body) aq Xh rfl rfl ?_
 by_cases hl:(a.length:Int)=(b.length:Int)
 rotate_left
 ·rw [aG (fun h=>hl (by rw [h]))]
  simp only [go_sem,G3,aZ hl]
  exact aj
 simp only [go_sem,G3,aL hl]
 refine an (fun j:Nat=>⟨[(5,.int .i64 j),(0,.sl 5 (a.map l0)),(1,.sl 5 (b.map l0))],[]⟩) (fun j=>j≤a.length∧∀k,k<j→ah a k=ah b k) (fun j=>a.length - j) 0 ⟨cE _,fun k hk=>by omega⟩ (Wk.of ?_ ?_) ?_
 ·simp only [go_sem];try simp
 ·simp only [go_sem]
 rintro j ⟨hj,hx⟩
 by_cases h1:(j:Int)<(a.length:Int)
 rotate_left
 ·rw [aF (fF (by omega) fun k hk=>hx k (by omega))]
  simp only [go_sem,aG h1]
  exact aj
 have hj':j<a.length:=by omega
 have hjb:(j:Int)<(b.length:Int):=by omega
 have e8:=eS hj' (by omega)
 obtain ⟨ha,hs⟩:=ha
 have hX:=bp hs hj'
 clear hs
 have neq:ah a j≠ah b j→decide (a=b)=false:=fun h=>aG (fun e=>h (by rw [e]))
 by_cases c1:(ah a j).mo=(ah b j).mo
 rotate_left
 ·rw [neq (fun e=>c1 (by rw [e]))]
  simp only [go_sem,aF h1,aZ c1]
  refine ⟨by omega,h1,by omega,hjb,?_⟩
  exact aj
 by_cases c2:(ah a j).tb=(ah b j).tb
 rotate_left
 ·rw [neq (fun e=>c2 (by rw [e]))]
  simp only [go_sem,aF h1,aL c1,aZ c2]
  refine ⟨by omega,h1,by omega,hjb,?_⟩
  exact aj
 by_cases c3:(ah a j).ty=(ah b j).ty
 rotate_left
 ·rw [neq (fun e=>c3 (by rw [e]))]
  simp only [go_sem,aF h1,aL c1,aL c2,aZ c3]
  refine ⟨by omega,h1,by omega,hjb,?_⟩
  exact aj
 by_cases c4:(ah a j).o=(ah b j).o
 rotate_left
 ·rw [neq (fun e=>c4 (by rw [e]))]
  simp only [go_sem,aF h1,aL c1,aL c2,aL c3]
  refine ⟨by omega,h1,by omega,hjb,?_⟩
  have cc3:=dA (ah a j).o (ah b j).o hX.1
  rw [aG c4] at cc3
  refine aa (cc3) ?_
  simp only [go_sem,aF h1,aL c1,aL c2,aL c3]
  exact aj
 by_cases c5:((ah a j).it.length:Int)=((ah b j).it.length:Int)
 rotate_left
 ·rw [neq (fun e=>c5 (by rw [e]))]
  simp only [go_sem,aF h1,aL c1,aL c2,aL c3,aZ c5]
  refine ⟨by omega,h1,by omega,hjb,?_⟩
  have cc3:=dA (ah a j).o (ah b j).o hX.1
  rw [aF c4] at cc3
  refine aa (cc3) ?_
  simp only [go_sem,aF h1,aL c1,aL c2,aL c3,aZ c5]
  exact aj
 simp only [go_sem,aF h1,aL c1,aL c2,aL c3,aL c5]
 refine ⟨by omega,h1,by omega,hjb,?_⟩
 have cc3:=dA (ah a j).o (ah b j).o hX.1
 rw [aF c4] at cc3
 refine aa (cc3) ?_
 simp only [go_sem,aF h1,aL c1,aL c2,aL c3,aL c5]
 have hi3:=hX.2.2
 have hi2:=hX.2.1
 refine an (fun q:Nat=>⟨[(8,.int .i64 q),(6,.mp 6 5 0 0),(7,.mp 7 5 0 0),(5,.int .i64 j),(0,.sl 5 (a.map l0)),(1,.sl 5 (b.map l0))],[(6,⟨55,5,[[.int .i64 (ah a j).mo,.int .i64 (ah a j).tb,.sl 9 ((ah a j).o.map bG),.int .i64 (ah a j).ty,.sl 1 ((ah a j).it.map jE)]],true⟩),(7,⟨55,5,[[.int .i64 (ah b j).mo,.int .i64 (ah b j).tb,.sl 9 ((ah b j).o.map bG),.int .i64 (ah b j).ty,.sl 1 ((ah b j).it.map jE)]],true⟩)]⟩) (fun q=>q≤(ah a j).it.length∧∀k,k<q→ah (ah a j).it k=ah (ah b j).it k) (fun q=>(ah a j).it.length - q) 0 ⟨cE _,fun k hk=>by omega⟩ (Wk.of ?_ ?_) ?_
 ·simp only [go_sem];try simp
 ·simp only [go_sem]
 rintro q ⟨hq,hy⟩
 by_cases q1:(q:Int)<((ah a j).it.length:Int)
 ·have hq':q<(ah a j).it.length:=by omega
  have hqb:(q:Int)<((ah b j).it.length:Int):=by omega
  have e9:=eS hq' (by omega)
  have hL:=bp hi3 hq'
  have cd:=dA (ah (ah a j).it q) (ah (ah b j).it q) hL
  by_cases q2:ah (ah a j).it q=ah (ah b j).it q
  ·rw [aF q2] at cd
   simp only [go_sem,aF q1]
   refine ⟨by omega,q1,by omega,hqb,?_⟩
   refine aa (cd) ?_
   simp only [go_sem]
   refine aC (q+1) ⟨show q+1≤(ah a j).it.length by omega,fun k hk=>?_⟩ (show (ah a j).it.length - (q+1)<(ah a j).it.length - q by omega) (Wk.of ?_ ?_)
   ·rcases dT k q with h | h
    ·exact hy k h
    ·rw [show k=q by omega];exact q2
   ·simp only [go_sem,e9];try simp
   ·simp only [go_sem]
  ·rw [aG q2] at cd
   rw [neq (fun e=>q2 (by rw [e]))]
   simp only [go_sem,aF q1]
   refine ⟨by omega,q1,by omega,hqb,?_⟩
   refine aa (cd) ?_
   simp only [go_sem]
   exact aj
 have c6:(ah a j).it=(ah b j).it:=fF (by omega) fun k hk=>hy k (by omega)
 have h2:ah a j=ah b j:=by
  generalize ah a j=X at *
  generalize ah b j=Y at *
  obtain ⟨x1,x2,x3,x4,x5⟩:=X
  obtain ⟨y1,y2,y3,y4,y5⟩:=Y
  simp only at c1 c2 c3 c4 c6
  simp only [c1,c2,c3,c4,c6]
 simp only [go_sem,aG q1]
 refine aC (j+1) ⟨show j+1≤a.length by omega,fun k hk=>?_⟩ (show a.length - (j+1)<a.length - j by omega) (Wk.of ?_ ?_)
 ·rcases dT k j with h | h
  ·exact hx k h
  ·rw [show k=j by omega];exact h2
 ·simp only [go_sem,e8];try simp
 ·simp only [go_sem]
end
section
open Go Go.Mw
def dC (a b:Md):Prop:=a.hs=b.hs∧(a.hs=true→a.st=b.st)∧a.ts=b.ts∧a.ims=b.ims∧a.fs=b.fs∧(a.tbs=b.tbs∧a.ms=b.ms)∧a.gs=b.gs∧a.exs=b.exs∧a.els=b.els∧a.ds=b.ds∧a.cs=b.cs
instance (a b:Md):Decidable (dC a b):=by unfold dC;exact inferInstance
theorem oU (a:Md):dC a a:=⟨rfl,fun _=>rfl,rfl,rfl,rfl,⟨rfl,rfl⟩,rfl,rfl,rfl,rfl,rfl⟩
attribute [local go_sem] cY aV dO c_
theorem Kf (a b:Md) (ha:a.tbs.length≤140737488355328) (hb:a.ms.length≤140737488355328):ae Tryz.prog Y_ [bJ a,bJ b] (.bool (decide (a.tbs=b.tbs∧a.ms=b.ms))):=by
 refine ab (ic:=Cn.body) aq Xj rfl rfl ?_
 by_cases l1:(a.tbs.length:Int)=(b.tbs.length:Int)
 rotate_left
 ·rw [aG (fun h=>l1 (by rw [h.1]))]
  simp only [go_sem,Cn,bJ,aZ l1]
  exact aj
 by_cases l2:(a.ms.length:Int)=(b.ms.length:Int)
 rotate_left
 ·rw [aG (fun h=>l2 (by rw [h.2]))]
  simp only [go_sem,Cn,bJ,aL l1,aZ l2]
  exact aj
 simp only [go_sem,Cn,bJ,aL l1,aL l2]
 refine an (fun j:Nat=>⟨[(5,.int .i64 j),(2,.mp 2 12 0 0),(3,.mp 3 12 0 0)],[(2,⟨33,12,[gH a],true⟩),(3,⟨33,12,[gH b],true⟩)]⟩) (fun j=>j≤a.tbs.length∧∀k,k<j→ah a.tbs k=ah b.tbs k) (fun j=>a.tbs.length - j) 0 ⟨cE _,fun k hk=>by omega⟩ (Wk.of ?_ ?_) ?_
 ·simp only [go_sem];try simp
 ·simp only [go_sem]
 rintro j ⟨hj,hx⟩
 by_cases h1:(j:Int)<(a.tbs.length:Int)
 ·have hj':j<a.tbs.length:=by omega
  have hjb:(j:Int)<(b.tbs.length:Int):=by omega
  have e8:=eS hj' (by omega)
  by_cases h2:ah a.tbs j=ah b.tbs j
  ·simp only [go_sem,aF h1,LH,aF h2,cQ]
   refine ⟨by omega,h1,by omega,hjb,aC (j+1) ⟨show j+1≤a.tbs.length by omega,fun k hk=>?_⟩ (show a.tbs.length - (j+1)<a.tbs.length - j by omega) (Wk.of ?_ ?_)⟩
   ·rcases dT k j with h | h
    ·exact hx k h
    ·rw [show k=j by omega];exact h2
   ·simp only [go_sem,e8];try simp
   ·simp only [go_sem]
  ·rw [aG (fun e=>h2 (by rw [e.1]))]
   simp only [go_sem,aF h1,LH,aG h2,cZ]
   refine ⟨by omega,h1,by omega,hjb,?_⟩
   exact aj
 have g1:a.tbs=b.tbs:=fF (by omega) fun k hk=>hx k (by omega)
 simp only [go_sem,aG h1]
 clear hx h1 hj
 refine an (fun j:Nat=>⟨[(6,.int .i64 j),(2,.mp 2 12 0 0),(3,.mp 3 12 0 0)],[(2,⟨33,12,[gH a],true⟩),(3,⟨33,12,[gH b],true⟩)]⟩) (fun j=>j≤a.ms.length∧∀k,k<j→ah a.ms k=ah b.ms k) (fun j=>a.ms.length - j) 0 ⟨cE _,fun k hk=>by omega⟩ (Wk.of ?_ ?_) ?_
 ·simp only [go_sem];try simp
 ·simp only [go_sem]
 rintro j ⟨hj,hx⟩
 by_cases h1:(j:Int)<(a.ms.length:Int)
 ·have hj':j<a.ms.length:=by omega
  have hjb:(j:Int)<(b.ms.length:Int):=by omega
  have e8:=eS hj' (by omega)
  by_cases h2:ah a.ms j=ah b.ms j
  ·simp only [go_sem,aF h1,Lo,aF h2,cQ]
   refine ⟨by omega,h1,by omega,hjb,aC (j+1) ⟨show j+1≤a.ms.length by omega,fun k hk=>?_⟩ (show a.ms.length - (j+1)<a.ms.length - j by omega) (Wk.of ?_ ?_)⟩
   ·rcases dT k j with h | h
    ·exact hx k h
    ·rw [show k=j by omega];exact h2
   ·simp only [go_sem,e8];try simp
   ·simp only [go_sem]
  ·rw [aG (fun e=>h2 (by rw [e.2]))]
   simp only [go_sem,aF h1,Lo,aG h2,cZ]
   refine ⟨by omega,h1,by omega,hjb,?_⟩
   exact aj
 have g2:a.ms=b.ms:=fF (by omega) fun k hk=>hx k (by omega)
 rw [aF ⟨g1,g2⟩]
 simp only [go_sem,aG h1]
 exact aj
theorem yS (a b:Md) (h:oN a):ae Tryz.prog Ul [bJ a,bJ b] (.bool (decide (dC a b))):=by
 refine ab (ic:=dH.body) aq Sj rfl rfl ?_
 have d0:=Ki a.ts b.ts ⟨dn h.ts.1 (by decide),h.ts.2⟩
 have d1:=PR a.ims b.ims (dn h.ims (by decide))
 have d2:=J3 a.fs b.fs ⟨dn h.fs.1 (by decide),h.fs.2⟩
 have d3:=Kf a b h.tbs h.ms
 have d4:=J7 a.gs b.gs ⟨dn h.gs.1 (by decide),h.gs.2⟩
 have d5:=PO a.exs b.exs (dn h.exs (by decide))
 have d6:=J6 a.els b.els ⟨dn h.els.1 (by decide),h.els.2⟩
 have d7:=PN a.ds b.ds ⟨dn h.ds.1 (by decide),h.ds.2⟩
 have d8:=J4 a.cs b.cs (dn h.cs.1 (by decide))
 simp only [bJ,aV] at d3
 by_cases e1:a.hs=b.hs
 rotate_left
 ·rw [aG (fun e:dC a b=>e1 e.1)]
  cases ha:a.hs<;>cases hb:b.hs
  ·exact absurd (ha.trans hb.symm) e1
  ·simp only [go_sem,dH,bJ,ha,hb,show (false==true)=false from rfl,cZ,cQ]
   exact aj
  ·simp only [go_sem,dH,bJ,ha,hb,show (true==false)=false from rfl,cZ,cQ]
   exact aj
  ·exact absurd (ha.trans hb.symm) e1
 cases ha:a.hs
 ·have hb:b.hs=false:=by rw [← e1];exact ha
  rw [ha,hb] at d3
  by_cases c0:a.ts=b.ts
  rotate_left
  ·rw [aG c0] at d0
   rw [aG (fun e:dC a b=>c0 e.2.2.1)]
   simp only [go_sem,dH,bJ,ha,hb,show (false==false)=true from rfl,cZ,cQ]
   refine aa (d0) ?_
   simp only [go_sem]
   exact aj
  rw [aF c0] at d0
  by_cases c1:a.ims=b.ims
  rotate_left
  ·rw [aG c1] at d1
   rw [aG (fun e:dC a b=>c1 e.2.2.2.1)]
   simp only [go_sem,dH,bJ,ha,hb,show (false==false)=true from rfl,cZ,cQ]
   refine aa (d0) ?_
   simp only [go_sem]
   refine aa (d1) ?_
   simp only [go_sem]
   exact aj
  rw [aF c1] at d1
  by_cases c2:a.fs=b.fs
  rotate_left
  ·rw [aG c2] at d2
   rw [aG (fun e:dC a b=>c2 e.2.2.2.2.1)]
   simp only [go_sem,dH,bJ,ha,hb,show (false==false)=true from rfl,cZ,cQ]
   refine aa (d0) ?_
   simp only [go_sem]
   refine aa (d1) ?_
   simp only [go_sem]
   refine aa (d2) ?_
   simp only [go_sem]
   exact aj
  rw [aF c2] at d2
  by_cases c3:a.tbs=b.tbs∧a.ms=b.ms
  rotate_left
  ·rw [aG c3] at d3
   rw [aG (fun e:dC a b=>c3 e.2.2.2.2.2.1)]
   simp only [go_sem,dH,bJ,ha,hb,show (false==false)=true from rfl,cZ,cQ]
   refine aa (d0) ?_
   simp only [go_sem]
   refine aa (d1) ?_
   simp only [go_sem]
   refine aa (d2) ?_
   simp only [go_sem]
   refine aa (d3) ?_
   simp only [go_sem]
   exact aj
  rw [aF c3] at d3
  by_cases c4:a.gs=b.gs
  rotate_left
  ·rw [aG c4] at d4
   rw [aG (fun e:dC a b=>c4 e.2.2.2.2.2.2.1)]
   simp only [go_sem,dH,bJ,ha,hb,show (false==false)=true from rfl,cZ,cQ]
   refine aa (d0) ?_
   simp only [go_sem]
   refine aa (d1) ?_
   simp only [go_sem]
   refine aa (d2) ?_
   simp only [go_sem]
   refine aa (d3) ?_
   simp only [go_sem]
   refine aa (d4) ?_
   simp only [go_sem]
   exact aj
  rw [aF c4] at d4
  by_cases c5:a.exs=b.exs
  rotate_left
  ·rw [aG c5] at d5
   rw [aG (fun e:dC a b=>c5 e.2.2.2.2.2.2.2.1)]
   simp only [go_sem,dH,bJ,ha,hb,show (false==false)=true from rfl,cZ,cQ]
   refine aa (d0) ?_
   simp only [go_sem]
   refine aa (d1) ?_
   simp only [go_sem]
   refine aa (d2) ?_
   simp only [go_sem]
   refine aa (d3) ?_
   simp only [go_sem]
   refine aa (d4) ?_
   simp only [go_sem]
   refine aa (d5) ?_
   simp only [go_sem]
   exact aj
  rw [aF c5] at d5
  by_cases c6:a.els=b.els
  rotate_left
  ·rw [aG c6] at d6
   rw [aG (fun e:dC a b=>c6 e.2.2.2.2.2.2.2.2.1)]
   simp only [go_sem,dH,bJ,ha,hb,show (false==false)=true from rfl,cZ,cQ]
   refine aa (d0) ?_
   simp only [go_sem]
   refine aa (d1) ?_
   simp only [go_sem]
   refine aa (d2) ?_
   simp only [go_sem]
   refine aa (d3) ?_
   simp only [go_sem]
   refine aa (d4) ?_
   simp only [go_sem]
   refine aa (d5) ?_
   simp only [go_sem]
   refine aa (d6) ?_
   simp only [go_sem]
   exact aj
  rw [aF c6] at d6
  by_cases c7:a.ds=b.ds
  rotate_left
  ·rw [aG c7] at d7
   rw [aG (fun e:dC a b=>c7 e.2.2.2.2.2.2.2.2.2.1)]
   simp only [go_sem,dH,bJ,ha,hb,show (false==false)=true from rfl,cZ,cQ]
   refine aa (d0) ?_
   simp only [go_sem]
   refine aa (d1) ?_
   simp only [go_sem]
   refine aa (d2) ?_
   simp only [go_sem]
   refine aa (d3) ?_
   simp only [go_sem]
   refine aa (d4) ?_
   simp only [go_sem]
   refine aa (d5) ?_
   simp only [go_sem]
   refine aa (d6) ?_
   simp only [go_sem]
   refine aa (d7) ?_
   simp only [go_sem]
   exact aj
  rw [aF c7] at d7
  by_cases c8:a.cs=b.cs
  rotate_left
  ·rw [aG c8] at d8
   rw [aG (fun e:dC a b=>c8 e.2.2.2.2.2.2.2.2.2.2)]
   simp only [go_sem,dH,bJ,ha,hb,show (false==false)=true from rfl,cZ,cQ]
   refine aa (d0) ?_
   simp only [go_sem]
   refine aa (d1) ?_
   simp only [go_sem]
   refine aa (d2) ?_
   simp only [go_sem]
   refine aa (d3) ?_
   simp only [go_sem]
   refine aa (d4) ?_
   simp only [go_sem]
   refine aa (d5) ?_
   simp only [go_sem]
   refine aa (d6) ?_
   simp only [go_sem]
   refine aa (d7) ?_
   simp only [go_sem]
   refine aa (d8) ?_
   simp only [go_sem]
   exact aj
  rw [aF c8] at d8
  rw [aF (show dC a b from ⟨e1,fun q=>absurd (ha.symm.trans q) (by decide),c0,c1,c2,c3,c4,c5,c6,c7,c8⟩)]
  simp only [go_sem,dH,bJ,ha,hb,show (false==false)=true from rfl,cZ,cQ]
  refine aa (d0) ?_
  simp only [go_sem]
  refine aa (d1) ?_
  simp only [go_sem]
  refine aa (d2) ?_
  simp only [go_sem]
  refine aa (d3) ?_
  simp only [go_sem]
  refine aa (d4) ?_
  simp only [go_sem]
  refine aa (d5) ?_
  simp only [go_sem]
  refine aa (d6) ?_
  simp only [go_sem]
  refine aa (d7) ?_
  simp only [go_sem]
  refine aa (d8) ?_
  simp only [go_sem]
  exact aj
 ·have hb:b.hs=true:=by rw [← e1];exact ha
  rw [ha,hb] at d3
  by_cases e2:a.st=b.st
  rotate_left
  ·rw [aG (fun e:dC a b=>e2 (e.2.1 ha))]
   simp only [go_sem,dH,bJ,ha,hb,show (true==true)=true from rfl,cZ,cQ,aZ e2]
   exact aj
  by_cases c0:a.ts=b.ts
  rotate_left
  ·rw [aG c0] at d0
   rw [aG (fun e:dC a b=>c0 e.2.2.1)]
   simp only [go_sem,dH,bJ,ha,hb,show (true==true)=true from rfl,cZ,cQ,aL e2]
   refine aa (d0) ?_
   simp only [go_sem]
   exact aj
  rw [aF c0] at d0
  by_cases c1:a.ims=b.ims
  rotate_left
  ·rw [aG c1] at d1
   rw [aG (fun e:dC a b=>c1 e.2.2.2.1)]
   simp only [go_sem,dH,bJ,ha,hb,show (true==true)=true from rfl,cZ,cQ,aL e2]
   refine aa (d0) ?_
   simp only [go_sem]
   refine aa (d1) ?_
   simp only [go_sem]
   exact aj
  rw [aF c1] at d1
  by_cases c2:a.fs=b.fs
  rotate_left
  ·rw [aG c2] at d2
   rw [aG (fun e:dC a b=>c2 e.2.2.2.2.1)]
   simp only [go_sem,dH,bJ,ha,hb,show (true==true)=true from rfl,cZ,cQ,aL e2]
   refine aa (d0) ?_
   simp only [go_sem]
   refine aa (d1) ?_
   simp only [go_sem]
   refine aa (d2) ?_
   simp only [go_sem]
   exact aj
  rw [aF c2] at d2
  by_cases c3:a.tbs=b.tbs∧a.ms=b.ms
  rotate_left
  ·rw [aG c3] at d3
   rw [aG (fun e:dC a b=>c3 e.2.2.2.2.2.1)]
   simp only [go_sem,dH,bJ,ha,hb,show (true==true)=true from rfl,cZ,cQ,aL e2]
   refine aa (d0) ?_
   simp only [go_sem]
   refine aa (d1) ?_
   simp only [go_sem]
   refine aa (d2) ?_
   simp only [go_sem]
   refine aa (d3) ?_
   simp only [go_sem]
   exact aj
  rw [aF c3] at d3
  by_cases c4:a.gs=b.gs
  rotate_left
  ·rw [aG c4] at d4
   rw [aG (fun e:dC a b=>c4 e.2.2.2.2.2.2.1)]
   simp only [go_sem,dH,bJ,ha,hb,show (true==true)=true from rfl,cZ,cQ,aL e2]
   refine aa (d0) ?_
   simp only [go_sem]
   refine aa (d1) ?_
   simp only [go_sem]
   refine aa (d2) ?_
   simp only [go_sem]
   refine aa (d3) ?_
   simp only [go_sem]
   refine aa (d4) ?_
   simp only [go_sem]
   exact aj
  rw [aF c4] at d4
  by_cases c5:a.exs=b.exs
  rotate_left
  ·rw [aG c5] at d5
   rw [aG (fun e:dC a b=>c5 e.2.2.2.2.2.2.2.1)]
   simp only [go_sem,dH,bJ,ha,hb,show (true==true)=true from rfl,cZ,cQ,aL e2]
   refine aa (d0) ?_
   simp only [go_sem]
   refine aa (d1) ?_
   simp only [go_sem]
   refine aa (d2) ?_
   simp only [go_sem]
   refine aa (d3) ?_
   simp only [go_sem]
   refine aa (d4) ?_
   simp only [go_sem]
   refine aa (d5) ?_
   simp only [go_sem]
   exact aj
  rw [aF c5] at d5
  by_cases c6:a.els=b.els
  rotate_left
  ·rw [aG c6] at d6
   rw [aG (fun e:dC a b=>c6 e.2.2.2.2.2.2.2.2.1)]
   simp only [go_sem,dH,bJ,ha,hb,show (true==true)=true from rfl,cZ,cQ,aL e2]
   refine aa (d0) ?_
   simp only [go_sem]
   refine aa (d1) ?_
   simp only [go_sem]
   refine aa (d2) ?_
   simp only [go_sem]
   refine aa (d3) ?_
   simp only [go_sem]
   refine aa (d4) ?_
   simp only [go_sem]
   refine aa (d5) ?_
   simp only [go_sem]
   refine aa (d6) ?_
   simp only [go_sem]
   exact aj
  rw [aF c6] at d6
  by_cases c7:a.ds=b.ds
  rotate_left
  ·rw [aG c7] at d7
   rw [aG (fun e:dC a b=>c7 e.2.2.2.2.2.2.2.2.2.1)]
   simp only [go_sem,dH,bJ,ha,hb,show (true==true)=true from rfl,cZ,cQ,aL e2]
   refine aa (d0) ?_
   simp only [go_sem]
   refine aa (d1) ?_
   simp only [go_sem]
   refine aa (d2) ?_
   simp only [go_sem]
   refine aa (d3) ?_
   simp only [go_sem]
   refine aa (d4) ?_
   simp only [go_sem]
   refine aa (d5) ?_
   simp only [go_sem]
   refine aa (d6) ?_
   simp only [go_sem]
   refine aa (d7) ?_
   simp only [go_sem]
   exact aj
  rw [aF c7] at d7
  by_cases c8:a.cs=b.cs
  rotate_left
  ·rw [aG c8] at d8
   rw [aG (fun e:dC a b=>c8 e.2.2.2.2.2.2.2.2.2.2)]
   simp only [go_sem,dH,bJ,ha,hb,show (true==true)=true from rfl,cZ,cQ,aL e2]
   refine aa (d0) ?_
   simp only [go_sem]
   refine aa (d1) ?_
   simp only [go_sem]
   refine aa (d2) ?_
   simp only [go_sem]
   refine aa (d3) ?_
   simp only [go_sem]
   refine aa (d4) ?_
   simp only [go_sem]
   refine aa (d5) ?_
   simp only [go_sem]
   refine aa (d6) ?_
   simp only [go_sem]
   refine aa (d7) ?_
   simp only [go_sem]
   refine aa (d8) ?_
   simp only [go_sem]
   exact aj
  rw [aF c8] at d8
  rw [aF (show dC a b from ⟨e1,fun _=>e2,c0,c1,c2,c3,c4,c5,c6,c7,c8⟩)]
  simp only [go_sem,dH,bJ,ha,hb,show (true==true)=true from rfl,cZ,cQ,aL e2]
  refine aa (d0) ?_
  simp only [go_sem]
  refine aa (d1) ?_
  simp only [go_sem]
  refine aa (d2) ?_
  simp only [go_sem]
  refine aa (d3) ?_
  simp only [go_sem]
  refine aa (d4) ?_
  simp only [go_sem]
  refine aa (d5) ?_
  simp only [go_sem]
  refine aa (d6) ?_
  simp only [go_sem]
  refine aa (d7) ?_
  simp only [go_sem]
  refine aa (d8) ?_
  simp only [go_sem]
  exact aj
end
section
open Go Go.Mw
def GL:List El→Nat→Int→Int
 | [],_,a=>a
 | _ :: _,0,a=>a
 | x :: r,k+1,a=>if a≤500 then GL r k (IntKind.i64.wrap (a+(x.it.length:Int))) else a
def DM (m:Md):Bool:=decide (GL m.els 100 0≤500)&&decide ((m.ts.length:Int)≤100)&&decide ((m.ims.length:Int)≤100)&&decide ((m.fs.length:Int)≤100)&&decide ((m.tbs.length:Int)≤50)&&decide ((m.ms.length:Int)≤50)&&decide ((m.gs.length:Int)≤100)&&decide ((m.exs.length:Int)≤200)&&decide ((m.els.length:Int)≤50)&&decide ((m.ds.length:Int)≤50)
attribute [local go_sem] cY aV a_
theorem P3 (m:Md):ae Tryz.prog Uy [bJ m] (.bool (DM m)):=by
 refine ab (ic:=B3.body) aq Sw rfl rfl ?_
 simp only [go_sem,B3,bJ]
 obtain ⟨A,hA⟩:∃A,GL m.els 100 0=A:=⟨_,rfl⟩
 unfold DM
 rw [hA]
 refine an (fun q:Nat×Int=>⟨[(4,.int .i64 q.1),(3,.int .i64 q.2),(1,.mp 1 12 0 0)],[(1,⟨33,12,[gH m],true⟩)]⟩) (fun q=>q.1≤m.els.length∧q.1≤100∧GL (m.els.drop q.1) (100 - q.1) q.2=A) (fun q=>m.els.length - q.1) (0,0) ⟨cE _,cE _,hA⟩ (Wk.of ?_ ?_) ?_
 ·simp only [go_sem];try simp
 ·simp only [go_sem,aV]
 rintro ⟨i,a⟩ ⟨hi,h100,hf⟩
 simp only at hi h100 hf
 by_cases hgo:i<m.els.length∧i<100∧a≤500
 ·obtain ⟨hi',h2,h3⟩:=hgo
  have e8:=wi (n:=(i:Int)+1) (by omega) (by omega)
  rw [eb hi',show 100 - i=(100 - (i+1))+1 by omega,GL,aK h3] at hf
  simp only [go_sem,aF (show (i:Int)<(m.els.length:Int) by omega),aF (show (i:Int)<100 by omega),aF h3,aV]
  refine ⟨by omega,by omega,?_⟩
  refine aC (i+1,IntKind.i64.wrap (a+((ah m.els i).it.length:Int))) ⟨show i+1≤m.els.length by omega,show i+1≤100 by omega,hf⟩ (show m.els.length - (i+1)<m.els.length - i by omega) (Wk.of ?_ ?_)
  ·simp only [go_sem,e8];try simp
  ·simp only [go_sem,aV]
 obtain rfl:a=A:=by
  by_cases h1:i<m.els.length
  ·by_cases h2:i<100
   ·rw [eb h1,show 100 - i=(100 - (i+1))+1 by omega,GL,aD (by omega)] at hf
    exact hf
   ·rw [eb h1,show 100 - i=0 by omega,GL] at hf
    exact hf
  ·rw [bB (by omega),GL] at hf
   exact hf
 clear hf
 have stop:∀K:Prop,(¬i<m.els.length→K)→(i<m.els.length→¬i<100→K)→(i<m.els.length→i<100→¬a≤500→K)→K:=fun K k1 k2 k3=>by
  by_cases h1:i<m.els.length
  ·by_cases h2:i<100
   ·exact k3 h1 h2 (fun h3=>hgo ⟨h1,h2,h3⟩)
   ·exact k2 h1 h2
  ·exact k1 h1
 refine stop _ (fun h1=>?_) (fun h1 h2=>?_) (fun h1 h2 h3=>?_)
 ·cases g0:decide (a≤500)
  ·simp only [go_sem,aG (show ¬(i:Int)<(m.els.length:Int) by omega),g0,aV]
   exact au [] (by simp only [go_sem,cF]) (by first | rfl | simp [go_sem,ac])
  cases g1:decide ((m.ts.length:Int)≤100)
  ·simp only [go_sem,aG (show ¬(i:Int)<(m.els.length:Int) by omega),g0,g1,aV]
   exact au [] (by simp only [go_sem,cF,Bool.and_false,bR]) (by first | rfl | simp [go_sem,ac])
  cases g2:decide ((m.ims.length:Int)≤100)
  ·simp only [go_sem,aG (show ¬(i:Int)<(m.els.length:Int) by omega),g0,g1,g2,aV]
   exact au [] (by simp only [go_sem,cF,Bool.and_false,bR]) (by first | rfl | simp [go_sem,ac])
  cases g3:decide ((m.fs.length:Int)≤100)
  ·simp only [go_sem,aG (show ¬(i:Int)<(m.els.length:Int) by omega),g0,g1,g2,g3,aV]
   exact au [] (by simp only [go_sem,cF,Bool.and_false,bR]) (by first | rfl | simp [go_sem,ac])
  cases g4:decide ((m.tbs.length:Int)≤50)
  ·simp only [go_sem,aG (show ¬(i:Int)<(m.els.length:Int) by omega),g0,g1,g2,g3,g4,aV]
   exact au [] (by simp only [go_sem,cF,Bool.and_false,bR]) (by first | rfl | simp [go_sem,ac])
  cases g5:decide ((m.ms.length:Int)≤50)
  ·simp only [go_sem,aG (show ¬(i:Int)<(m.els.length:Int) by omega),g0,g1,g2,g3,g4,g5,aV]
   exact au [] (by simp only [go_sem,cF,Bool.and_false,bR]) (by first | rfl | simp [go_sem,ac])
  cases g6:decide ((m.gs.length:Int)≤100)
  ·simp only [go_sem,aG (show ¬(i:Int)<(m.els.length:Int) by omega),g0,g1,g2,g3,g4,g5,g6,aV]
   exact au [] (by simp only [go_sem,cF,Bool.and_false,bR]) (by first | rfl | simp [go_sem,ac])
  cases g7:decide ((m.exs.length:Int)≤200)
  ·simp only [go_sem,aG (show ¬(i:Int)<(m.els.length:Int) by omega),g0,g1,g2,g3,g4,g5,g6,g7,aV]
   exact au [] (by simp only [go_sem,cF,Bool.and_false,bR]) (by first | rfl | simp [go_sem,ac])
  cases g8:decide ((m.els.length:Int)≤50)
  ·simp only [go_sem,aG (show ¬(i:Int)<(m.els.length:Int) by omega),g0,g1,g2,g3,g4,g5,g6,g7,g8,aV]
   exact au [] (by simp only [go_sem,cF,Bool.and_false,bR]) (by first | rfl | simp [go_sem,ac])
  cases g9:decide ((m.ds.length:Int)≤50)
  ·simp only [go_sem,aG (show ¬(i:Int)<(m.els.length:Int) by omega),g0,g1,g2,g3,g4,g5,g6,g7,g8,g9,aV]
   exact au [] (by simp only [go_sem,cF,Bool.and_false,bR]) (by first | rfl | simp [go_sem,ac])
  simp only [go_sem,aG (show ¬(i:Int)<(m.els.length:Int) by omega),g0,g1,g2,g3,g4,g5,g6,g7,g8,g9,aV]
  exact au [] (by simp only [go_sem,Bool.and_true,bR]) (by first | rfl | simp [go_sem,ac])
 ·cases g0:decide (a≤500)
  ·simp only [go_sem,aF (show (i:Int)<(m.els.length:Int) by omega),aG (show ¬(i:Int)<100 by omega),g0,aV]
   exact au [] (by simp only [go_sem,cF]) (by first | rfl | simp [go_sem,ac])
  cases g1:decide ((m.ts.length:Int)≤100)
  ·simp only [go_sem,aF (show (i:Int)<(m.els.length:Int) by omega),aG (show ¬(i:Int)<100 by omega),g0,g1,aV]
   exact au [] (by simp only [go_sem,cF,Bool.and_false,bR]) (by first | rfl | simp [go_sem,ac])
  cases g2:decide ((m.ims.length:Int)≤100)
  ·simp only [go_sem,aF (show (i:Int)<(m.els.length:Int) by omega),aG (show ¬(i:Int)<100 by omega),g0,g1,g2,aV]
   exact au [] (by simp only [go_sem,cF,Bool.and_false,bR]) (by first | rfl | simp [go_sem,ac])
  cases g3:decide ((m.fs.length:Int)≤100)
  ·simp only [go_sem,aF (show (i:Int)<(m.els.length:Int) by omega),aG (show ¬(i:Int)<100 by omega),g0,g1,g2,g3,aV]
   exact au [] (by simp only [go_sem,cF,Bool.and_false,bR]) (by first | rfl | simp [go_sem,ac])
  cases g4:decide ((m.tbs.length:Int)≤50)
  ·simp only [go_sem,aF (show (i:Int)<(m.els.length:Int) by omega),aG (show ¬(i:Int)<100 by omega),g0,g1,g2,g3,g4,aV]
   exact au [] (by simp only [go_sem,cF,Bool.and_false,bR]) (by first | rfl | simp [go_sem,ac])
  cases g5:decide ((m.ms.length:Int)≤50)
  ·simp only [go_sem,aF (show (i:Int)<(m.els.length:Int) by omega),aG (show ¬(i:Int)<100 by omega),g0,g1,g2,g3,g4,g5,aV]
   exact au [] (by simp only [go_sem,cF,Bool.and_false,bR]) (by first | rfl | simp [go_sem,ac])
  cases g6:decide ((m.gs.length:Int)≤100)
  ·simp only [go_sem,aF (show (i:Int)<(m.els.length:Int) by omega),aG (show ¬(i:Int)<100 by omega),g0,g1,g2,g3,g4,g5,g6,aV]
   exact au [] (by simp only [go_sem,cF,Bool.and_false,bR]) (by first | rfl | simp [go_sem,ac])
  cases g7:decide ((m.exs.length:Int)≤200)
  ·simp only [go_sem,aF (show (i:Int)<(m.els.length:Int) by omega),aG (show ¬(i:Int)<100 by omega),g0,g1,g2,g3,g4,g5,g6,g7,aV]
   exact au [] (by simp only [go_sem,cF,Bool.and_false,bR]) (by first | rfl | simp [go_sem,ac])
  cases g8:decide ((m.els.length:Int)≤50)
  ·simp only [go_sem,aF (show (i:Int)<(m.els.length:Int) by omega),aG (show ¬(i:Int)<100 by omega),g0,g1,g2,g3,g4,g5,g6,g7,g8,aV]
   exact au [] (by simp only [go_sem,cF,Bool.and_false,bR]) (by first | rfl | simp [go_sem,ac])
  cases g9:decide ((m.ds.length:Int)≤50)
  ·simp only [go_sem,aF (show (i:Int)<(m.els.length:Int) by omega),aG (show ¬(i:Int)<100 by omega),g0,g1,g2,g3,g4,g5,g6,g7,g8,g9,aV]
   exact au [] (by simp only [go_sem,cF,Bool.and_false,bR]) (by first | rfl | simp [go_sem,ac])
  simp only [go_sem,aF (show (i:Int)<(m.els.length:Int) by omega),aG (show ¬(i:Int)<100 by omega),g0,g1,g2,g3,g4,g5,g6,g7,g8,g9,aV]
  exact au [] (by simp only [go_sem,Bool.and_true,bR]) (by first | rfl | simp [go_sem,ac])
 ·simp only [go_sem,aF (show (i:Int)<(m.els.length:Int) by omega),aF (show (i:Int)<100 by omega),aG h3,aV]
  exact au [] (by simp only [go_sem,cF]) (by first | rfl | simp [go_sem,ac])
end
section
open Go Go.Mw
theorem II {i n:Nat} (h:i<n) (hn:n≤9223372036854775807):IntKind.i64.wrap ((i:Int)+1)=(i:Int)+1:=wi (by omega) (by omega)
attribute [local go_sem] cY
theorem FO (l:List Nm) (hl:l.length≤9223372036854775807) (i:Int):ae Tryz.prog T_ [.sl 2 (l.map nw),.int .i64 i] (.str (Iu l i)):=by
 refine ab (ic:=BK.body) aq R6 rfl rfl ?_
 simp only [go_sem,BK]
 refine an (fun j:Nat=>⟨[(9,.int .i64 j),(8,.int .i64 l.length),(7,.sl 2 (l.map nw)),(1,.int .i64 i)],[]⟩) (fun j=>j≤l.length∧Iu l i=Iu (l.drop j) i) (fun j=>l.length - j) 0 ⟨cE _,rfl⟩ (Wk.of ?_ ?_) ?_
 ·simp only [go_sem];try simp
 ·simp only [go_sem]
 rintro j ⟨hj,hx⟩
 by_cases h1:(j:Int)<(l.length:Int)
 ·have hj':j<l.length:=by omega
  rw [N9 hj'] at hx
  have e8:=II hj' hl
  by_cases h2:(ah l j).i=i
  ·rw [aK h2] at hx
   rw [hx]
   simp only [go_sem,aF h1,h2]
   refine ⟨by omega,h1,?_⟩
   exact aj
  ·rw [aD h2] at hx
   simp only [go_sem,aF h1,aN h2]
   refine ⟨by omega,h1,aC (j+1) ⟨show j+1≤l.length by omega,hx⟩ (show l.length - (j+1)<l.length - j by omega) (Wk.of ?_ ?_)⟩
   ·simp only [go_sem,e8];try simp
   ·simp only [go_sem]
 ·rw [bB (by omega)] at hx
  rw [hx]
  simp only [go_sem,aG h1]
  exact au [] (by simp only [go_sem,Iu]) (by first | rfl | simp [go_sem,ac])
def lnN (n:Ns):Prop:=n.fs.length≤9223372036854775807∧n.ls.length≤9223372036854775807∧∀x∈n.ls,x.l.length≤9223372036854775807
theorem FP (n:Ns) (hn:lnN n) (i:Int):ae Tryz.prog T8 [qN n,.int .i64 i] (.str (Iu n.fs i)):=by
 refine ab (ic:=BJ.body) aq R4 rfl rfl ?_
 simp only [go_sem,BJ]
 refine aa (FO n.fs hn.1 i) ?_
 simp only [go_sem]
 exact aj
end
section
open Go Go.Mw
def GK:Ns:=⟨[109],[],[]⟩
theorem DH:eL GK=([0,2,1,109],0):=by
 have h:tZ GK=0:=by decide +kernel
 unfold eL
 rw [aD (by simp [h])]
 simp [df,GK,bV,bN,kS]
theorem N4:H4 [1,4,1,3,1,102]=(⟨[],[⟨3,[102]⟩],[]⟩,0):=by decide +kernel
theorem Ip:cX default GK=({ (default:Md) with cs:=[⟨0,Bd,[0,2,1,109]⟩] },0):=by
 unfold cX
 simp only [DH]
 rw [aD (by decide),aD (by decide),aD (by decide)]
 rfl
theorem VI:oN default:=⟨⟨by decide,fun x h=>by cases h⟩,by decide,⟨by decide,fun x h=>by cases h⟩,by decide,by decide,⟨by decide,fun x h=>by cases h⟩,by decide,⟨by decide,fun x h=>by cases h⟩,⟨by decide,fun x h=>by cases h⟩,⟨by decide,fun x h=>by cases h⟩⟩
theorem Dt:NL default:=⟨⟨by decide,fun x h=>by cases h⟩,by decide,⟨by decide,fun x h=>by cases h⟩,by decide,by decide,⟨by decide,fun x h=>by cases h⟩,by decide,⟨by decide,fun x h=>by cases h⟩,⟨by decide,fun x h=>by cases h⟩,⟨by decide,fun x h=>by cases h⟩⟩
theorem FY:QZ GK:=⟨by unfold Qd GK;decide,⟨fun x h=>(by cases h),fun x h=>(by cases h)⟩⟩
attribute [local go_sem] cY aV dU bJ
theorem fJ:ae Tryz.prog TL [] (.bool true):=by
 refine ab (ic:=Bm.body) aq Rt rfl rfl ?_
 have c1:=vG GK FY
 have c2:=Gm [1,4,1,3,1,102] (by decide)
 have c3:=mO default GK Dt FY
 have c4:=FP ⟨[],[⟨3,[102]⟩],[]⟩ ⟨by decide,by decide,fun x h=>by cases h⟩ 3
 rw [DH] at c1
 rw [N4] at c2
 rw [Ip] at c3
 rw [show Iu [⟨3,[102]⟩] 3=[102] from rfl] at c4
 simp only [go_sem,Bm]
 refine cA [qN GK] ⟨.inr (.inr ⟨_,_,rfl,rfl,.inl rfl,.inr ⟨rfl,2,rfl⟩,.inr ⟨rfl,2,rfl⟩,trivial⟩),trivial⟩ ?_
 refine aa (c1) ?_
 simp only [go_sem]
 refine i5 [15] ?_ c2 (by simp [go_sem]) ?_
 ·simp only [go_sem,bj]
  try rfl
 simp only [go_sem]
 refine cA [bJ default,qN GK] ⟨.inr (.inr ⟨_,_,rfl,rfl,.inr ⟨rfl,2,rfl⟩,.inr ⟨rfl,13,rfl⟩,.inr ⟨rfl,3,rfl⟩,.inr ⟨rfl,4,rfl⟩,.inr ⟨rfl,3,rfl⟩,.inr ⟨rfl,3,rfl⟩,.inr ⟨rfl,3,rfl⟩,.inl rfl,.inl rfl,.inr ⟨rfl,5,rfl⟩,.inr ⟨rfl,4,rfl⟩,.inr ⟨rfl,3,rfl⟩,trivial⟩),.inr (.inr ⟨_,_,rfl,rfl,.inl rfl,.inr ⟨rfl,2,rfl⟩,.inr ⟨rfl,2,rfl⟩,trivial⟩),trivial⟩ ?_
 refine aa (c3) ?_
 simp only [go_sem,show ([UInt8.ofNat (UInt8.toNat 0),UInt8.ofNat (UInt8.toNat 2),UInt8.ofNat (UInt8.toNat 1),UInt8.ofNat (UInt8.toNat 109)]==([0,2,1,109]:List UInt8))=true from rfl]
 refine aa (c4) ?_
 have hi:∀r:List AV,ke 3 (.sl 3 [r]) (.int .i64 0)=some (.ip r):=fun r=>rfl
 simp only [go_sem,show (((1:Nat):Int)==1)=true from rfl,Bd,hi,show (([110,97,109,101]:List UInt8)==[110,97,109,101])=true from rfl,show (([102]:List UInt8)==[102])=true from rfl]
 exact aj
end
open Go Go.Mw
theorem pe {l:List bz} (h:bL sJ 1048576 l):sR l:=⟨h.1,fun x hx=>⟨(h.2 x hx).2.1.1,(h.2 x hx).2.2.1,(h.2 x hx).1.1⟩⟩
theorem uC {m:Md} (h:Dh 1048576 m):NL m:=by
 obtain ⟨h1,h2,h3,h4,h5,h6,h7,h8,h9,h10⟩:=h
 exact ⟨⟨h1.1,fun x hx=>⟨(h1.2 x hx).1.1,(h1.2 x hx).2.1⟩⟩,h2.1,⟨h3.1,fun x hx=>⟨(h3.2 x hx).1.1,pe (h3.2 x hx).2⟩⟩,h4.1,h5.1,⟨h6.1,fun x hx=>pe (h6.2 x hx)⟩,h7.1,⟨h8.1,fun x hx=>⟨pe (h8.2 x hx).1,(h8.2 x hx).2.1,fun l hl=>pe ((h8.2 x hx).2.2 l hl)⟩⟩,⟨h9.1,fun x hx=>⟨pe (h9.2 x hx).1,(h9.2 x hx).2.1⟩⟩,⟨h10.1,fun x hx=>(h10.2 x hx).2.1⟩⟩
theorem l9 {l:List bz} (h:sR l):xr l:=⟨dn h.1 (by decide),fun x hx=>⟨dn (h.2 x hx).1 (by decide),dn (h.2 x hx).2.1 (by decide),(h.2 x hx).2.2⟩⟩
theorem Du {m:Md} (h:NL m):oN m:=⟨⟨dn h.ts.1 (by decide),fun x hx=>⟨dn (h.ts.2 x hx).1 (by decide),dn (h.ts.2 x hx).2 (by decide)⟩⟩,dn h.ims (by decide),⟨dn h.fs.1 (by decide),fun x hx=>⟨dn (h.fs.2 x hx).1 (by decide),l9 (h.fs.2 x hx).2⟩⟩,
 dn h.tbs (by decide),dn h.ms (by decide),⟨dn h.gs.1 (by decide),fun x hx=>l9 (h.gs.2 x hx)⟩,dn h.exs (by decide),⟨dn h.els.1 (by decide),fun x hx=>⟨l9 (h.els.2 x hx).1,dn (h.els.2 x hx).2.1 (by decide),fun l hl=>l9 ((h.els.2 x hx).2.2 l hl)⟩⟩,
 ⟨dn h.ds.1 (by decide),fun x hx=>⟨l9 (h.ds.2 x hx).1,dn (h.ds.2 x hx).2 (by decide)⟩⟩,⟨dn h.cs.1 (by decide),fun x hx=>dn (h.cs.2 x hx) (by decide)⟩⟩
theorem VJ {m:Md} (h:Dh 1048576 m):oN m:=Du (uC h)
theorem VK {n:Ns} (h:Wz 1048576 n):QZ n:=⟨h.1,fun x hx=>h.2.1.2 x hx,fun x hx y hy=>(h.2.2.2 x hx).2 y hy⟩
theorem KY {m:Md} {n:Ns} (hm:NL m) (h30:m.cs.length≤30):NL (cX m n).1:=by
 have hf:=sZ m.cs
 have hfm:∀c∈kZ m.cs,Ds c:=fun c hc=>hm.cs.2 c (List.mem_filter.1 hc).1
 unfold cX
 split
 ·exact Dt
 split
 ·exact ⟨hm.ts,hm.ims,hm.fs,hm.tbs,hm.ms,hm.gs,hm.exs,hm.els,hm.ds,⟨by simp only;omega,hfm⟩⟩
 split
 ·exact Dt
 rename_i h1
 refine ⟨hm.ts,hm.ims,hm.fs,hm.tbs,hm.ms,hm.gs,hm.exs,hm.els,hm.ds,⟨by simp only [aJ,jP];omega,fun c hc=>?_⟩⟩
 rcases ef.1 hc with hc | hc
 ·exact hfm c hc
 ·simp only [ow] at hc
  subst hc
  unfold Ds
  simp only
  omega
def Wd (t:Int):Bool:=(t==1)||(t==2)
def vC (t:Int):Bool:=(t==3)||(t==4)
def j8 (t:Int):Bool:=Wd t||vC t
def GP (l:Lm) (most:Int):Bool:=if l.mn<0∨l.mn>most then false else if l.hs=false then l.mx==0 else decide (l.mn≤l.mx)&&decide (l.mx≤most)
def iD (l:List Int):Bool:=l.all j8
def fk (s:List UInt8):Int:=if s.length>64 then 6 else if uv s=false then 9 else 0
def qF (x:Ft):Int:=if x.ps.length>8∨x.rs.length>8 then 6 else if iD x.ps=false∨iD x.rs=false then 12 else 0
def uc (x:Tb):Int:=if vC x.e=false then 12 else if GP x.l 1024=false then 20 else 0
def vT (l:Lm):Int:=if GP l 256=false then 20 else 0
def IB (g:Gl):Int:=if j8 g.v=false then 12 else 0
def qQ (P:bz→Bool):Nat→List bz→Int×Int
 | _,[]=>(0,0)
 | i,x :: r=>if P x=false then ((i:Int),10) else if x.lb.length>64 then ((i:Int),6) else qQ P (i+1) r
def gp (P:bz→Bool) (l:List bz):Int×Int:=if l.length>2048 then (2048,6) else qQ P 0 l
theorem Qs {l:List Int} {i:Nat} (h:i<l.length):iD (l.drop i)=(j8 (ah l i)&&iD (l.drop (i+1))):=by
 unfold iD;rw [eb h,List.all_cons]
structure Fa where
 p:Int
 i:Int
 l:Int
 c:Int
def fh (F:Fa) (p i l e:Int):Fa:=if F.c=0∧e≠0 then ⟨p,i,l,e⟩ else F
def QM (n:Int):Nat→List (Int×Int)→Fa→Fa
 | _,[],F=>F
 | i,r :: l,F=>if F.c≠0 then F else QM n (i+1) l (fh F n i r.1 r.2)
def jh (n most imp:Int) (res:List (Int×Int)) (F:Fa):Fa :=
 QM n 0 res (if IntKind.i64.wrap ((res.length:Int)+imp)>most then fh F n (if 0<IntKind.i64.wrap (most - imp) then IntKind.i64.wrap (most - imp) else 0) 0 6 else F)
theorem Og {n:Int} {l:List (Int×Int)} {i:Nat} (F:Fa) (hF:F.c≠0):QM n i l F=F:=by
 cases l with
 | nil=>rfl
 | cons r l=>rw [QM,aK hF]
def tY (x:Cd):Int:=if iz x.t=false then 11 else if x.lo.length>64 then 6 else if iD x.lo=false then 12 else 0
def x7 (x:Ex):Int:=if fk x.n≠0 then fk x.n else if x.k<0∨x.k>3 then 1 else if iz x.i=false then 11 else 0
theorem Ko {P:bz→Bool} {l:List bz} {i:Nat} (h:i<l.length):qQ P i (l.drop i)=if P (ah l i)=false then ((i:Int),10) else if (ah l i).lb.length>64 then ((i:Int),6) else qQ P (i+1) (l.drop (i+1)):=by
 rw [eb h,qQ]
def uD (x:Cu):Int:=if fk x.n≠0 then fk x.n else if x.b.length>4096 then 6 else if x.af<0∨x.af>12 then 1 else 0
def SZ (P:bz→Bool) (x:Da):Int×Int:=if x.mo≠0∧(x.mo≠1∨x.me≠0∨x.o.length>0) then (0,1) else if iz x.me=false then (0,11) else if x.b.length>4096 then (0,6) else gp P x.o
def gy (x:Im):Im:=if x.k=0 then ⟨x.m,x.n,x.k,x.f,0,⟨0,0,false⟩,⟨0,0,false⟩,⟨0,false⟩⟩ else if x.k=1 then ⟨x.m,x.n,x.k,0,x.te,x.tl,⟨0,0,false⟩,⟨0,false⟩⟩ else if x.k=2 then ⟨x.m,x.n,x.k,0,0,⟨0,0,false⟩,x.me,⟨0,false⟩⟩ else if x.k=3 then ⟨x.m,x.n,x.k,0,0,⟨0,0,false⟩,⟨0,0,false⟩,x.g⟩ else ⟨x.m,x.n,x.k,0,0,⟨0,0,false⟩,⟨0,0,false⟩,⟨0,false⟩⟩
end Go.Proofs.YtjndcljjbpeljaaGreatDoor