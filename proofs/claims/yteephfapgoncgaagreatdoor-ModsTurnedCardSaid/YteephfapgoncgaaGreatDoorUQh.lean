import Derived.Test.YteephfapgoncgaaGreatDoorUQg
import Derived.Shelf.Abstract
import Derived.OwnWalkIn
import Derived.TacticsInMore
import Derived.LoopNIn
import Derived.LoopIn
set_option linter.all false
set_option maxRecDepth 100000
set_option maxHeartbeats 40000000
namespace Go.Proofs.YteephfapgoncgaaGreatDoor
section
open Go Go.Mw
theorem rN:∀(L:List (List cS)) (n:Int),0≤n→n≤3000→(∀l∈L,l.length≤140737488355328)→nZ n L=true→∀l∈L,l.length≤3000∧∀x∈l,x.lb.length≤100∧x.ty.length≤100
 | [],_,_,_,_,_=>by simp
 | l :: r,n,h0,h1,hb,h=>by
  have h2:=hb l (by simp)
  have e:IntKind.i64.wrap (n+(l.length:Int))=n+(l.length:Int):=by rw [wi (by omega) (by omega)]
  rw [nZ,e] at h
  split at h
  ·cases h
  split at h
  ·cases h
  rename_i h3 h4
  intro q hq
  rcases cj.1 hq with rfl | hq
  ·refine ⟨by omega,fun x hx=>?_⟩
   simp only [sY,Bool.not_eq_false,de] at h4
   have:=h4 x hx
   simp only [Ge,dK,mA,decide_eq_false_iff_not] at this
   omega
  ·exact rN r _ (by omega) (by omega) (fun l hl=>hb l (by simp [hl])) h q hq
theorem iq {α:Type} [Inhabited α] {l:List α} {p:α→Prop} (h:∀k,k<l.length→p (ac l k)):∀x∈l,p x:=fun x hx=>by
 obtain ⟨i,hi,rfl⟩:=List.getElem_of_mem hx
 rw [← bD hi];exact h i hi
attribute [local go_sem] fz fZ bq ce bj bK cy aQ bB bv bn
theorem BS (m:Md) (hm:iL 140737488355328 m):br Tryz.prog QV [cE m] [] sb (fun r' σ'=>∃b:Bool,(b=true→Sh m∧mH m)∧r' = .bool b∧σ'=[]):=by
 refine c_ (ic:=kH.body) aq Pl rfl rfl ?_
 obtain ⟨b1,b2,b3,b4,b5,b6,b7,b8,b9,b10⟩:=hm
 by_cases l0:(m.ts.length:Int)>100
 ·simp only [go_sem,kH,cE,aI l0]
  exact done [] (.bool false) [] (by simp only [go_sem]) trivial rfl ⟨false,(fun h=>by cases h),rfl,rfl⟩
 by_cases l1:(m.ims.length:Int)>100
 ·simp only [go_sem,kH,cE,az l0,aI l1]
  exact done [] (.bool false) [] (by simp only [go_sem]) trivial rfl ⟨false,(fun h=>by cases h),rfl,rfl⟩
 by_cases l2:(m.fs.length:Int)>100
 ·simp only [go_sem,kH,cE,az l0,az l1,aI l2]
  exact done [] (.bool false) [] (by simp only [go_sem]) trivial rfl ⟨false,(fun h=>by cases h),rfl,rfl⟩
 by_cases l3:(m.tbs.length:Int)>100
 ·simp only [go_sem,kH,cE,az l0,az l1,az l2,aI l3]
  exact done [] (.bool false) [] (by simp only [go_sem]) trivial rfl ⟨false,(fun h=>by cases h),rfl,rfl⟩
 by_cases l4:(m.ms.length:Int)>100
 ·simp only [go_sem,kH,cE,az l0,az l1,az l2,az l3,aI l4]
  exact done [] (.bool false) [] (by simp only [go_sem]) trivial rfl ⟨false,(fun h=>by cases h),rfl,rfl⟩
 by_cases l5:(m.gs.length:Int)>100
 ·simp only [go_sem,kH,cE,az l0,az l1,az l2,az l3,az l4,aI l5]
  exact done [] (.bool false) [] (by simp only [go_sem]) trivial rfl ⟨false,(fun h=>by cases h),rfl,rfl⟩
 by_cases l6:(m.exs.length:Int)>100
 ·simp only [go_sem,kH,cE,az l0,az l1,az l2,az l3,az l4,az l5,aI l6]
  exact done [] (.bool false) [] (by simp only [go_sem]) trivial rfl ⟨false,(fun h=>by cases h),rfl,rfl⟩
 by_cases l7:(m.els.length:Int)>100
 ·simp only [go_sem,kH,cE,az l0,az l1,az l2,az l3,az l4,az l5,az l6,aI l7]
  exact done [] (.bool false) [] (by simp only [go_sem]) trivial rfl ⟨false,(fun h=>by cases h),rfl,rfl⟩
 by_cases l8:(m.ds.length:Int)>100
 ·simp only [go_sem,kH,cE,az l0,az l1,az l2,az l3,az l4,az l5,az l6,az l7,aI l8]
  exact done [] (.bool false) [] (by simp only [go_sem]) trivial rfl ⟨false,(fun h=>by cases h),rfl,rfl⟩
 by_cases l9:(m.cs.length:Int)>100
 ·simp only [go_sem,kH,cE,az l0,az l1,az l2,az l3,az l4,az l5,az l6,az l7,az l8,aI l9]
  exact done [] (.bool false) [] (by simp only [go_sem]) trivial rfl ⟨false,(fun h=>by cases h),rfl,rfl⟩
 simp only [go_sem,kH,cE,az l0,az l1,az l2,az l3,az l4,az l5,az l6,az l7,az l8,az l9]
 refine an (fun q:Nat×Int=>⟨[(5,.int .i64 q.1),(4,.int .i64 q.2),(3,.nl),(1,.mp 1 12 0 0)],[(1,⟨33,12,[dQ m],true⟩)]⟩) (fun q=>q.1≤m.ts.length∧0≤q.2∧q.2≤0+q.1 * 562949953421312∧(∀k,k<q.1→((ac m.ts k).ps.length:Int)≤q.2)∧(∀k,k<q.1→((ac m.ts k).rs.length:Int)≤q.2)) (fun q=>m.ts.length - q.1) (0,0) ⟨cC _,Int.le_refl _,by simp only;omega,fun k hk=>absurd hk (Nat.not_lt_zero _),fun k hk=>absurd hk (Nat.not_lt_zero _)⟩ (Wk.of ?_ ?_) ?_
 ·simp only [go_sem];try simp [go_sem]
 ·simp only [go_sem];try simp [go_sem]
 rintro ⟨j,n0⟩ ⟨hj,hlo0,hhi0,ha0ps,ha0rs⟩
 simp only at hj hlo0 hhi0 ha0ps ha0rs
 by_cases h1:(j:Int)<(m.ts.length:Int)
 ·have hj':j<m.ts.length:=by omega
  have e8:=dz hj' (by omega)
  have hb:=aO b1.2 hj'
  have hq:=hb
  have hw0:((ac m.ts j).ps.length:Int)≤140737488355328:=by have:=hb.1.1;omega
  have hw1:((ac m.ts j).rs.length:Int)≤140737488355328:=by have:=hb.2.1;omega
  have ew:IntKind.i64.wrap (n0+IntKind.i64.wrap (((ac m.ts j).ps.length:Int)+((ac m.ts j).rs.length:Int)))=(n0+(((ac m.ts j).ps.length:Int)+((ac m.ts j).rs.length:Int))):=by rw [wi (n:=((ac m.ts j).ps.length:Int)+((ac m.ts j).rs.length:Int)) (by omega) (by omega),wi (by omega) (by omega)]
  simp only [go_sem,aI h1]
  refine ⟨by omega,h1,by omega,h1,?_⟩
  refine aC (j+1,(n0+(((ac m.ts j).ps.length:Int)+((ac m.ts j).rs.length:Int)))) ⟨show j+1≤m.ts.length by omega,show 0≤(n0+(((ac m.ts j).ps.length:Int)+((ac m.ts j).rs.length:Int))) by omega,show (n0+(((ac m.ts j).ps.length:Int)+((ac m.ts j).rs.length:Int)))≤_ by simp only;omega,fun k hk=>by rcases cB k j with z | z;(have:=ha0ps k z;show _≤((n0+(((ac m.ts j).ps.length:Int)+((ac m.ts j).rs.length:Int))):Int);omega);(obtain rfl:j=k:=by (have:k<j+1:=hk);omega);show _≤((n0+(((ac m.ts j).ps.length:Int)+((ac m.ts j).rs.length:Int))):Int);omega,fun k hk=>by rcases cB k j with z | z;(have:=ha0rs k z;show _≤((n0+(((ac m.ts j).ps.length:Int)+((ac m.ts j).rs.length:Int))):Int);omega);(obtain rfl:j=k:=by (have:k<j+1:=hk);omega);show _≤((n0+(((ac m.ts j).ps.length:Int)+((ac m.ts j).rs.length:Int))):Int);omega⟩ (show m.ts.length - (j+1)<m.ts.length - j by omega) (Wk.of ?_ ?_)
  ·simp only [go_sem,e8,ew];(try simp);(try omega)
  ·simp only [go_sem];try simp [bn]
 obtain rfl:j=m.ts.length:=by omega
 replace hhi0:n0≤56294995342131200:=by omega
 simp only [go_sem,az h1]
 clear h1 hj
 refine an (fun q:Nat×Int=>⟨[(6,.int .i64 q.1),(4,.int .i64 q.2),(3,.nl),(1,.mp 1 12 0 0)],[(1,⟨33,12,[dQ m],true⟩)]⟩) (fun q=>q.1≤m.ims.length∧n0≤q.2∧q.2≤56294995342131200+q.1 * 562949953421312∧(∀k,k<q.1→((ac m.ims k).m.length:Int)≤q.2)∧(∀k,k<q.1→((ac m.ims k).n.length:Int)≤q.2)) (fun q=>m.ims.length - q.1) (0,n0) ⟨cC _,Int.le_refl _,by simp only;omega,fun k hk=>absurd hk (Nat.not_lt_zero _),fun k hk=>absurd hk (Nat.not_lt_zero _)⟩ (Wk.of ?_ ?_) ?_
 ·simp only [go_sem];try simp [go_sem]
 ·simp only [go_sem];try simp [go_sem]
 rintro ⟨j,n1⟩ ⟨hj,hlo1,hhi1,ha1m,ha1n⟩
 simp only at hj hlo1 hhi1 ha1m ha1n
 by_cases h1:(j:Int)<(m.ims.length:Int)
 ·have hj':j<m.ims.length:=by omega
  have e8:=dz hj' (by omega)
  have hb:=aO b2.2 hj'
  have hq:=hb
  have hw0:((ac m.ims j).m.length:Int)≤140737488355328:=by have:=hb;simp only [Dd] at this;omega
  have hw1:((ac m.ims j).n.length:Int)≤140737488355328:=by have:=hb;simp only [Dd] at this;omega
  have ew:IntKind.i64.wrap (n1+IntKind.i64.wrap (((ac m.ims j).m.length:Int)+((ac m.ims j).n.length:Int)))=(n1+(((ac m.ims j).m.length:Int)+((ac m.ims j).n.length:Int))):=by rw [wi (n:=((ac m.ims j).m.length:Int)+((ac m.ims j).n.length:Int)) (by omega) (by omega),wi (by omega) (by omega)]
  simp only [go_sem,aI h1]
  refine ⟨by omega,h1,by omega,h1,?_⟩
  refine aC (j+1,(n1+(((ac m.ims j).m.length:Int)+((ac m.ims j).n.length:Int)))) ⟨show j+1≤m.ims.length by omega,show n0≤(n1+(((ac m.ims j).m.length:Int)+((ac m.ims j).n.length:Int))) by omega,show (n1+(((ac m.ims j).m.length:Int)+((ac m.ims j).n.length:Int)))≤_ by simp only;omega,fun k hk=>by rcases cB k j with z | z;(have:=ha1m k z;show _≤((n1+(((ac m.ims j).m.length:Int)+((ac m.ims j).n.length:Int))):Int);omega);(obtain rfl:j=k:=by (have:k<j+1:=hk);omega);show _≤((n1+(((ac m.ims j).m.length:Int)+((ac m.ims j).n.length:Int))):Int);omega,fun k hk=>by rcases cB k j with z | z;(have:=ha1n k z;show _≤((n1+(((ac m.ims j).m.length:Int)+((ac m.ims j).n.length:Int))):Int);omega);(obtain rfl:j=k:=by (have:k<j+1:=hk);omega);show _≤((n1+(((ac m.ims j).m.length:Int)+((ac m.ims j).n.length:Int))):Int);omega⟩ (show m.ims.length - (j+1)<m.ims.length - j by omega) (Wk.of ?_ ?_)
  ·simp only [go_sem,e8,ew];(try simp);(try omega)
  ·simp only [go_sem];try simp [bn]
 obtain rfl:j=m.ims.length:=by omega
 replace hhi1:n1≤112589990684262400:=by omega
 simp only [go_sem,az h1]
 clear h1 hj
 refine an (fun q:Nat×Int×List (List cS)=>⟨[(7,.int .i64 q.1),(4,.int .i64 q.2.1),(3,.ms 900 1 0 q.2.2.length),(1,.mp 1 12 0 0)],[(1,⟨33,12,[dQ m],true⟩),(900,⟨62,1,q.2.2.map bY,false⟩)]⟩) (fun q=>q.1≤m.fs.length∧n1≤q.2.1∧q.2.1≤112589990684262400+q.1 * 562949953421312∧(∀k,k<q.1→((ac m.fs k).lo.length:Int)≤q.2.1)∧(∀l∈q.2.2,l.length≤140737488355328)∧q.2.2.length≤0+q.1 * 1∧(∀l∈([]:List (List cS)),l∈q.2.2)∧(∀k,k<q.1→(ac m.fs k).b∈q.2.2)) (fun q=>m.fs.length - q.1) (0,n1,[]) ⟨cC _,Int.le_refl _,by simp only;omega,fun k hk=>absurd hk (Nat.not_lt_zero _),fun l hl=>absurd hl List.not_mem_nil,by simp,fun l hl=>hl,fun k hk=>absurd hk (Nat.not_lt_zero _)⟩ ((Wk.nil _ 3 900 1 62 (by simp only [go_sem]) (.inl (by decide))).trans (Wk.of ?_ ?_)) ?_
 ·simp only [go_sem,St.mknil];try simp [go_sem]
 ·simp only [go_sem,St.mknil];try simp [go_sem]
 rintro ⟨j,n2,L2⟩ ⟨hj,hlo2,hhi2,ha2lo,hLb2,hLn2,hLs2,hr2b⟩
 simp only at hj hlo2 hhi2 ha2lo hLb2 hLn2 hLs2 hr2b
 by_cases h1:(j:Int)<(m.fs.length:Int)
 ·have hj':j<m.fs.length:=by omega
  have e8:=dz hj' (by omega)
  have hb:=aO b3.2 hj'
  have hq:=hb
  have hw0:((ac m.fs j).lo.length:Int)≤140737488355328:=by have:=hb.1.1;omega
  have ew:IntKind.i64.wrap (n2+((ac m.fs j).lo.length:Int))=(n2+((ac m.fs j).lo.length:Int)):=by rw [wi (by omega) (by omega)]
  have happ:=fun ys=>aA 900 62 1 L2.length bY L2 ys rfl
  simp only [go_sem,aI h1,happ]
  refine ⟨by omega,h1,by omega,h1,by omega,?_⟩
  refine aC (j+1,(n2+((ac m.fs j).lo.length:Int)),L2++[(ac m.fs j).b]) ⟨show j+1≤m.fs.length by omega,show n1≤(n2+((ac m.fs j).lo.length:Int)) by omega,show (n2+((ac m.fs j).lo.length:Int))≤_ by simp only;omega,fun k hk=>by rcases cB k j with z | z;(have:=ha2lo k z;show _≤((n2+((ac m.fs j).lo.length:Int)):Int);omega);(obtain rfl:j=k:=by (have:k<j+1:=hk);omega);show _≤((n2+((ac m.fs j).lo.length:Int)):Int);omega,fun l hl=>?_,?_,fun l hl=>?_,fun k hk=>?_⟩ (show m.fs.length - (j+1)<m.fs.length - j by omega) (Wk.of ?_ ?_)
  ·have:l∈L2++[(ac m.fs j).b]:=hl
   simp only [dw,j7] at this
   rcases this with z | rfl
   ·exact hLb2 l z
   ·exact (hb.2).1
  ·show (L2++[(ac m.fs j).b]).length≤_;simp only [ol,oh,kC];omega
  ·show l∈L2++[(ac m.fs j).b];simp [hLs2 l hl]
  ·show _∈L2++[(ac m.fs j).b];rcases cB k j with z | z
   ·simp [hr2b k z]
   ·obtain rfl:j=k:=by (have:k<j+1:=hk);omega
    simp
  ·simp only [go_sem,e8,ew];(try simp);(try omega)
  ·simp only [go_sem];try simp [bn]
 obtain rfl:j=m.fs.length:=by omega
 replace hLn2:L2.length≤100:=by omega
 replace hhi2:n2≤168884986026393600:=by omega
 simp only [go_sem,az h1]
 clear h1 hj
 refine an (fun q:Nat×Int×List (List cS)=>⟨[(8,.int .i64 q.1),(4,.int .i64 q.2.1),(3,.ms 900 1 0 q.2.2.length),(1,.mp 1 12 0 0)],[(1,⟨33,12,[dQ m],true⟩),(900,⟨62,1,q.2.2.map bY,false⟩)]⟩) (fun q=>q.1≤m.gs.length∧n2≤q.2.1∧q.2.1≤168884986026393600+q.1 * 562949953421312∧(∀l∈q.2.2,l.length≤140737488355328)∧q.2.2.length≤100+q.1 * 1∧(∀l∈L2,l∈q.2.2)∧(∀k,k<q.1→(ac m.gs k).i∈q.2.2)) (fun q=>m.gs.length - q.1) (0,n2,L2) ⟨cC _,Int.le_refl _,by simp only;omega,hLb2,by simp only;omega,fun l hl=>hl,fun k hk=>absurd hk (Nat.not_lt_zero _)⟩ (Wk.of ?_ ?_) ?_
 ·simp only [go_sem];try simp [go_sem]
 ·simp only [go_sem];try simp [go_sem]
 rintro ⟨j,n3,L3⟩ ⟨hj,hlo3,hhi3,hLb3,hLn3,hLs3,hr3i⟩
 simp only at hj hlo3 hhi3 hLb3 hLn3 hLs3 hr3i
 by_cases h1:(j:Int)<(m.gs.length:Int)
 ·have hj':j<m.gs.length:=by omega
  have e8:=dz hj' (by omega)
  have hb:=aO b6.2 hj'
  have ew:=e8
  have happ:=fun ys=>aA 900 62 1 L3.length bY L3 ys rfl
  simp only [go_sem,aI h1,happ]
  refine ⟨by omega,h1,by omega,?_⟩
  refine aC (j+1,n3,L3++[(ac m.gs j).i]) ⟨show j+1≤m.gs.length by omega,show n2≤n3 by omega,show n3≤_ by simp only;omega,fun l hl=>?_,?_,fun l hl=>?_,fun k hk=>?_⟩ (show m.gs.length - (j+1)<m.gs.length - j by omega) (Wk.of ?_ ?_)
  ·have:l∈L3++[(ac m.gs j).i]:=hl
   simp only [dw,j7] at this
   rcases this with z | rfl
   ·exact hLb3 l z
   ·exact (hb).1
  ·show (L3++[(ac m.gs j).i]).length≤_;simp only [ol,oh,kC];omega
  ·show l∈L3++[(ac m.gs j).i];simp [hLs3 l hl]
  ·show _∈L3++[(ac m.gs j).i];rcases cB k j with z | z
   ·simp [hr3i k z]
   ·obtain rfl:j=k:=by (have:k<j+1:=hk);omega
    simp
  ·simp only [go_sem,e8,ew];(try simp);(try omega)
  ·simp only [go_sem];try simp [bn]
 obtain rfl:j=m.gs.length:=by omega
 replace hLn3:L3.length≤200:=by omega
 replace hhi3:n3≤225179981368524800:=by omega
 simp only [go_sem,az h1]
 clear h1 hj
 refine an (fun q:Nat×Int×List (List cS)=>⟨[(9,.int .i64 q.1),(4,.int .i64 q.2.1),(3,.ms 900 1 0 q.2.2.length),(1,.mp 1 12 0 0)],[(1,⟨33,12,[dQ m],true⟩),(900,⟨62,1,q.2.2.map bY,false⟩)]⟩) (fun q=>q.1≤m.exs.length∧n3≤q.2.1∧q.2.1≤225179981368524800+q.1 * 562949953421312∧(∀k,k<q.1→((ac m.exs k).n.length:Int)≤q.2.1)∧(∀l∈q.2.2,l.length≤140737488355328)∧q.2.2.length≤200+q.1 * 0∧(∀l∈L3,l∈q.2.2)) (fun q=>m.exs.length - q.1) (0,n3,L3) ⟨cC _,Int.le_refl _,by simp only;omega,fun k hk=>absurd hk (Nat.not_lt_zero _),hLb3,by simp only;omega,fun l hl=>hl⟩ (Wk.of ?_ ?_) ?_
 ·simp only [go_sem];try simp [go_sem]
 ·simp only [go_sem];try simp [go_sem]
 rintro ⟨j,n4,L4⟩ ⟨hj,hlo4,hhi4,ha4n,hLb4,hLn4,hLs4⟩
 simp only at hj hlo4 hhi4 ha4n hLb4 hLn4 hLs4
 by_cases h1:(j:Int)<(m.exs.length:Int)
 ·have hj':j<m.exs.length:=by omega
  have e8:=dz hj' (by omega)
  have hb:=aO b7.2 hj'
  have hq:=hb
  have hw0:((ac m.exs j).n.length:Int)≤140737488355328:=by have:=gc hb (aB _);omega
  have ew:IntKind.i64.wrap (n4+((ac m.exs j).n.length:Int))=(n4+((ac m.exs j).n.length:Int)):=by rw [wi (by omega) (by omega)]
  simp only [go_sem,aI h1]
  refine ⟨by omega,h1,?_⟩
  refine aC (j+1,(n4+((ac m.exs j).n.length:Int)),L4) ⟨show j+1≤m.exs.length by omega,show n3≤(n4+((ac m.exs j).n.length:Int)) by omega,show (n4+((ac m.exs j).n.length:Int))≤_ by simp only;omega,fun k hk=>by rcases cB k j with z | z;(have:=ha4n k z;show _≤((n4+((ac m.exs j).n.length:Int)):Int);omega);(obtain rfl:j=k:=by (have:k<j+1:=hk);omega);show _≤((n4+((ac m.exs j).n.length:Int)):Int);omega,fun l hl=>?_,?_,fun l hl=>?_⟩ (show m.exs.length - (j+1)<m.exs.length - j by omega) (Wk.of ?_ ?_)
  ·exact hLb4 l hl
  ·show L4.length≤_;omega
  ·exact hLs4 l hl
  ·simp only [go_sem,e8,ew];(try simp);(try omega)
  ·simp only [go_sem];try simp [bn]
 obtain rfl:j=m.exs.length:=by omega
 replace hLn4:L4.length≤200:=by omega
 replace hhi4:n4≤281474976710656000:=by omega
 simp only [go_sem,az h1]
 clear h1 hj
 refine an (fun q:Nat×Int×List (List cS)=>⟨[(10,.int .i64 q.1),(4,.int .i64 q.2.1),(3,.ms 900 1 0 q.2.2.length),(1,.mp 1 12 0 0)],[(1,⟨33,12,[dQ m],true⟩),(900,⟨62,1,q.2.2.map bY,false⟩)]⟩) (fun q=>q.1≤m.els.length∧n4≤q.2.1∧q.2.1≤281474976710656000+q.1 * 562949953421312∧(∀k,k<q.1→(ac m.els k).it.length≤300)∧(∀l∈q.2.2,l.length≤140737488355328)∧q.2.2.length≤200+q.1 * 301∧(∀l∈L4,l∈q.2.2)∧(∀k,k<q.1→(ac m.els k).o∈q.2.2)∧(∀k,k<q.1→∀l∈(ac m.els k).it,l∈q.2.2)) (fun q=>m.els.length - q.1) (0,n4,L4) ⟨cC _,Int.le_refl _,by simp only;omega,fun k hk=>absurd hk (Nat.not_lt_zero _),hLb4,by simp only;omega,fun l hl=>hl,fun k hk=>absurd hk (Nat.not_lt_zero _),fun k hk=>absurd hk (Nat.not_lt_zero _)⟩ (Wk.of ?_ ?_) ?_
 ·simp only [go_sem];try simp [go_sem]
 ·simp only [go_sem];try simp [go_sem]
 rintro ⟨j,n5,L5⟩ ⟨hj,hlo5,hhi5,hit,hLb5,hLn5,hLs5,hr5o,hr5it⟩
 simp only at hj hlo5 hhi5 hit hLb5 hLn5 hLs5 hr5o hr5it
 by_cases h1:(j:Int)<(m.els.length:Int)
 ·have hj':j<m.els.length:=by omega
  have e8:=dz hj' (by omega)
  have hb:=aO b8.2 hj'
  have ew:=e8
  have happ:=fun ys=>aA 900 62 1 L5.length bY L5 ys rfl
  by_cases g:((ac m.els j).it.length:Int)>300
  ·simp only [go_sem,aI h1,aI g]
   refine ⟨by omega,h1,?_⟩
   exact done [] (.bool false) [] (by simp only [go_sem]) trivial rfl ⟨false,(fun h=>by cases h),rfl,rfl⟩
  have happ2:=fun ys=>aA 900 62 1 (L5.length+1) bY (L5++[(ac m.els j).o]) ys (by simp)
  simp only [List.map_append,dP,List.map_nil,bn] at happ2
  simp only [go_sem,aI h1,happ,az g,happ2]
  refine ⟨by omega,h1,by omega,h1,by omega,by omega,h1,by omega,?_⟩
  refine aC (j+1,n5,(L5++[(ac m.els j).o])++(ac m.els j).it) ⟨show j+1≤m.els.length by omega,show n4≤n5 by omega,show n5≤_ by simp only;omega,fun k hk=>by rcases cB k j with z | z;exact hit k z;(obtain rfl:j=k:=by (have:k<j+1:=hk);omega);omega,fun l hl=>?_,?_,fun l hl=>?_,fun k hk=>?_,fun k hk l hl=>?_⟩ (show m.els.length - (j+1)<m.els.length - j by omega) (Wk.of ?_ ?_)
  ·have:l∈(L5++[(ac m.els j).o])++(ac m.els j).it:=hl
   simp only [dw,j7] at this
   rcases this with (z | rfl) | z
   ·exact hLb5 l z
   ·exact (hb.1).1
   ·exact (hb.2.2 l z).1
  ·show ((L5++[(ac m.els j).o])++(ac m.els j).it).length≤_;simp only [ol,oh,kC];omega
  ·show l∈(L5++[(ac m.els j).o])++(ac m.els j).it;simp [hLs5 l hl]
  ·show _∈(L5++[(ac m.els j).o])++(ac m.els j).it;rcases cB k j with z | z
   ·simp [hr5o k z]
   ·obtain rfl:j=k:=by (have:k<j+1:=hk);omega
    simp
  ·show _∈(L5++[(ac m.els j).o])++(ac m.els j).it;rcases cB k j with z | z
   ·simp [hr5it k z l hl]
   ·obtain rfl:j=k:=by (have:k<j+1:=hk);omega
    simp [hl]
  ·simp only [go_sem,e8,ew];(try simp);(try omega)
  ·simp only [go_sem];try simp [bn]
 obtain rfl:j=m.els.length:=by omega
 replace hLn5:L5.length≤30300:=by omega
 replace hhi5:n5≤337769972052787200:=by omega
 simp only [go_sem,az h1]
 clear h1 hj
 refine an (fun q:Nat×Int×List (List cS)=>⟨[(11,.int .i64 q.1),(4,.int .i64 q.2.1),(3,.ms 900 1 0 q.2.2.length),(1,.mp 1 12 0 0)],[(1,⟨33,12,[dQ m],true⟩),(900,⟨62,1,q.2.2.map bY,false⟩)]⟩) (fun q=>q.1≤m.ds.length∧n5≤q.2.1∧q.2.1≤337769972052787200+q.1 * 562949953421312∧(∀k,k<q.1→((ac m.ds k).b.length:Int)≤q.2.1)∧(∀l∈q.2.2,l.length≤140737488355328)∧q.2.2.length≤30300+q.1 * 1∧(∀l∈L5,l∈q.2.2)∧(∀k,k<q.1→(ac m.ds k).o∈q.2.2)) (fun q=>m.ds.length - q.1) (0,n5,L5) ⟨cC _,Int.le_refl _,by simp only;omega,fun k hk=>absurd hk (Nat.not_lt_zero _),hLb5,by simp only;omega,fun l hl=>hl,fun k hk=>absurd hk (Nat.not_lt_zero _)⟩ (Wk.of ?_ ?_) ?_
 ·simp only [go_sem];try simp [go_sem]
 ·simp only [go_sem];try simp [go_sem]
 rintro ⟨j,n6,L6⟩ ⟨hj,hlo6,hhi6,ha6b,hLb6,hLn6,hLs6,hr6o⟩
 simp only at hj hlo6 hhi6 ha6b hLb6 hLn6 hLs6 hr6o
 by_cases h1:(j:Int)<(m.ds.length:Int)
 ·have hj':j<m.ds.length:=by omega
  have e8:=dz hj' (by omega)
  have hb:=aO b9.2 hj'
  have hq:=hb
  have hw0:((ac m.ds j).b.length:Int)≤140737488355328:=by have:=hb.2.1;omega
  have ew:IntKind.i64.wrap (n6+((ac m.ds j).b.length:Int))=(n6+((ac m.ds j).b.length:Int)):=by rw [wi (by omega) (by omega)]
  have happ:=fun ys=>aA 900 62 1 L6.length bY L6 ys rfl
  simp only [go_sem,aI h1,happ]
  refine ⟨by omega,h1,by omega,h1,by omega,?_⟩
  refine aC (j+1,(n6+((ac m.ds j).b.length:Int)),L6++[(ac m.ds j).o]) ⟨show j+1≤m.ds.length by omega,show n5≤(n6+((ac m.ds j).b.length:Int)) by omega,show (n6+((ac m.ds j).b.length:Int))≤_ by simp only;omega,fun k hk=>by rcases cB k j with z | z;(have:=ha6b k z;show _≤((n6+((ac m.ds j).b.length:Int)):Int);omega);(obtain rfl:j=k:=by (have:k<j+1:=hk);omega);show _≤((n6+((ac m.ds j).b.length:Int)):Int);omega,fun l hl=>?_,?_,fun l hl=>?_,fun k hk=>?_⟩ (show m.ds.length - (j+1)<m.ds.length - j by omega) (Wk.of ?_ ?_)
  ·have:l∈L6++[(ac m.ds j).o]:=hl
   simp only [dw,j7] at this
   rcases this with z | rfl
   ·exact hLb6 l z
   ·exact (hb.1).1
  ·show (L6++[(ac m.ds j).o]).length≤_;simp only [ol,oh,kC];omega
  ·show l∈L6++[(ac m.ds j).o];simp [hLs6 l hl]
  ·show _∈L6++[(ac m.ds j).o];rcases cB k j with z | z
   ·simp [hr6o k z]
   ·obtain rfl:j=k:=by (have:k<j+1:=hk);omega
    simp
  ·simp only [go_sem,e8,ew];(try simp);(try omega)
  ·simp only [go_sem];try simp [bn]
 obtain rfl:j=m.ds.length:=by omega
 replace hLn6:L6.length≤30400:=by omega
 replace hhi6:n6≤394064967394918400:=by omega
 simp only [go_sem,az h1]
 clear h1 hj
 refine an (fun q:Nat×Int×List (List cS)=>⟨[(12,.int .i64 q.1),(4,.int .i64 q.2.1),(3,.ms 900 1 0 q.2.2.length),(1,.mp 1 12 0 0)],[(1,⟨33,12,[dQ m],true⟩),(900,⟨62,1,q.2.2.map bY,false⟩)]⟩) (fun q=>q.1≤m.cs.length∧n6≤q.2.1∧q.2.1≤394064967394918400+q.1 * 562949953421312∧(∀k,k<q.1→((ac m.cs k).b.length:Int)≤q.2.1)∧(∀k,k<q.1→((ac m.cs k).n.length:Int)≤q.2.1)∧(∀l∈q.2.2,l.length≤140737488355328)∧q.2.2.length≤30400+q.1 * 0∧(∀l∈L6,l∈q.2.2)) (fun q=>m.cs.length - q.1) (0,n6,L6) ⟨cC _,Int.le_refl _,by simp only;omega,fun k hk=>absurd hk (Nat.not_lt_zero _),fun k hk=>absurd hk (Nat.not_lt_zero _),hLb6,by simp only;omega,fun l hl=>hl⟩ (Wk.of ?_ ?_) ?_
 ·simp only [go_sem];try simp [go_sem]
 ·simp only [go_sem];try simp [go_sem]
 rintro ⟨j,n7,L7⟩ ⟨hj,hlo7,hhi7,ha7b,ha7n,hLb7,hLn7,hLs7⟩
 simp only at hj hlo7 hhi7 ha7b ha7n hLb7 hLn7 hLs7
 by_cases h1:(j:Int)<(m.cs.length:Int)
 ·have hj':j<m.cs.length:=by omega
  have e8:=dz hj' (by omega)
  have hb:=aO b10.2 hj'
  have hq:=hb
  have hw0:((ac m.cs j).b.length:Int)≤140737488355328:=by have:=hb.2.1;omega
  have hw1:((ac m.cs j).n.length:Int)≤140737488355328:=by have:=hb.1;omega
  have ew:IntKind.i64.wrap (n7+IntKind.i64.wrap (((ac m.cs j).b.length:Int)+((ac m.cs j).n.length:Int)))=(n7+(((ac m.cs j).b.length:Int)+((ac m.cs j).n.length:Int))):=by rw [wi (n:=((ac m.cs j).b.length:Int)+((ac m.cs j).n.length:Int)) (by omega) (by omega),wi (by omega) (by omega)]
  simp only [go_sem,aI h1]
  refine ⟨by omega,h1,by omega,h1,?_⟩
  refine aC (j+1,(n7+(((ac m.cs j).b.length:Int)+((ac m.cs j).n.length:Int))),L7) ⟨show j+1≤m.cs.length by omega,show n6≤(n7+(((ac m.cs j).b.length:Int)+((ac m.cs j).n.length:Int))) by omega,show (n7+(((ac m.cs j).b.length:Int)+((ac m.cs j).n.length:Int)))≤_ by simp only;omega,fun k hk=>by rcases cB k j with z | z;(have:=ha7b k z;show _≤((n7+(((ac m.cs j).b.length:Int)+((ac m.cs j).n.length:Int))):Int);omega);(obtain rfl:j=k:=by (have:k<j+1:=hk);omega);show _≤((n7+(((ac m.cs j).b.length:Int)+((ac m.cs j).n.length:Int))):Int);omega,fun k hk=>by rcases cB k j with z | z;(have:=ha7n k z;show _≤((n7+(((ac m.cs j).b.length:Int)+((ac m.cs j).n.length:Int))):Int);omega);(obtain rfl:j=k:=by (have:k<j+1:=hk);omega);show _≤((n7+(((ac m.cs j).b.length:Int)+((ac m.cs j).n.length:Int))):Int);omega,fun l hl=>?_,?_,fun l hl=>?_⟩ (show m.cs.length - (j+1)<m.cs.length - j by omega) (Wk.of ?_ ?_)
  ·exact hLb7 l hl
  ·show L7.length≤_;omega
  ·exact hLs7 l hl
  ·simp only [go_sem,e8,ew];(try simp);(try omega)
  ·simp only [go_sem];try simp [bn]
 obtain rfl:j=m.cs.length:=by omega
 replace hLn7:L7.length≤30400:=by omega
 replace hhi7:n7≤450359962737049600:=by omega
 by_cases q9:n7≤9000
 rotate_left
 ·simp only [go_sem,az h1,az q9]
  exact done [] (.bool false) [] (by simp only [go_sem]) trivial rfl ⟨false,(fun h=>by cases h),rfl,rfl⟩
 have cr:=Fv L7 (by omega) (fun l hl=>by have:=hLb7 l hl;omega)
 simp only [go_sem,az h1,aI q9]
 refine kb [900] ?_ cr (by simp [go_sem]) ?_
 ·simp only [go_sem,aB]
  rw [jw (by simp)]
 simp only [go_sem]
 refine done [] (.bool (nZ 0 L7)) [] (by simp only [go_sem]) trivial rfl ⟨nZ 0 L7,fun h=>?_,rfl,rfl⟩
 have lx:∀{n:Nat},¬((n:Nat):Int)>100→n≤100:=fun h=>by omega
 have RB:=rN L7 0 (by omega) (by omega) hLb7 h
 have ux:∀{n:Nat},¬((n:Nat):Int)>100→n≤1048576:=fun h=>by omega
 have RI:∀l∈L7,(∀x∈l,0≤x.n)→l_ l:=fun l hl h0=>by
  obtain ⟨r1,r2⟩:=RB l hl
  exact ⟨by omega,fun x hx=>by have:=r2 x hx;exact ⟨by omega,by omega,h0 x hx⟩⟩
 have up3:∀l∈L2,l∈L7:=fun l hl=>hLs7 l (hLs6 l (hLs5 l (hLs4 l (hLs3 l hl))))
 have up4:∀l∈L3,l∈L7:=fun l hl=>hLs7 l (hLs6 l (hLs5 l (hLs4 l hl)))
 have up6:∀l∈L5,l∈L7:=fun l hl=>hLs7 l (hLs6 l hl)
 have nn:∀{l:List cS},bL ou 140737488355328 l→∀x∈l,0≤x.n:=fun h x hx=>(h.2 x hx).1.1
 refine ⟨⟨lx l0,lx l1,lx l2,lx l3,lx l4,lx l5,lx l6,lx l7,lx l8,lx l9,iq hit⟩,⟨ux l0,iq fun k hk=>?_⟩,ux l1,⟨ux l2,iq fun k hk=>?_⟩,ux l3,ux l4,⟨ux l5,iq fun k hk=>?_⟩,ux l6,⟨ux l7,iq fun k hk=>?_⟩,⟨ux l8,iq fun k hk=>?_⟩,⟨ux l9,iq fun k hk=>?_⟩⟩
 ·have:=ha0ps k hk;have:=ha0rs k hk
  exact ⟨by omega,by omega⟩
 ·have:=ha2lo k hk
  exact ⟨by omega,RI _ (up3 _ (hr2b k hk)) (nn (aO b3.2 hk).2)⟩
 ·exact RI _ (up4 _ (hr3i k hk)) (nn (aO b6.2 hk))
 ·have:=hit k hk
  exact ⟨RI _ (up6 _ (hr5o k hk)) (nn (aO b8.2 hk).1),by omega,fun l hl=>RI _ (up6 _ (hr5it k hk l hl)) (nn ((aO b8.2 hk).2.2 l hl))⟩
 ·have:=ha6b k hk
  exact ⟨RI _ (hLs7 _ (hr6o k hk)) (nn (aO b9.2 hk).1),by omega⟩
 ·have:=ha7b k hk
  show (ac m.cs k).b.length≤_
  omega
end
open Go Go.Mw
structure Hr where
 f:Int
 h:List UInt8
 t:List UInt8
structure Oc where
 op:Int
 nm:List UInt8
 im:Int
def IG (r:Hr):List AV:=[.int .i64 r.f,.str r.h,.str r.t]
instance:Inhabited Hr:=⟨⟨0,[],[]⟩⟩
instance:Inhabited Oc:=⟨⟨0,[],0⟩⟩
def HR:List Hr:=[⟨0,[],[117,110,114,101,97,99,104,97,98,108,101,32,110,111,112,32,98,108,111,99,107,32,108,111,111,112,32,105,102,32,101,108,115,101]⟩,
 ⟨11,[],[101,110,100,32,98,114,32,98,114,95,105,102,32,98,114,95,116,97,98,108,101,32,114,101,116,117,114,110,32,99,97,108,108,32,99,97,108,108,95,105,110,100,105,114,101,99,116]⟩,
 ⟨26,[],[100,114,111,112,32,115,101,108,101,99,116,32,115,101,108,101,99,116]⟩,
 ⟨32,[108,111,99,97,108,46],[103,101,116,32,115,101,116,32,116,101,101]⟩,
 ⟨35,[103,108,111,98,97,108,46],[103,101,116,32,115,101,116]⟩,
 ⟨37,[116,97,98,108,101,46],[103,101,116,32,115,101,116]⟩,
 ⟨40,[],[105,51,50,46,108,111,97,100,32,105,54,52,46,108,111,97,100]⟩,
 ⟨44,[105,51,50,46],[108,111,97,100,56,95,115,32,108,111,97,100,56,95,117,32,108,111,97,100,49,54,95,115,32,108,111,97,100,49,54,95,117]⟩,
 ⟨48,[105,54,52,46],[108,111,97,100,56,95,115,32,108,111,97,100,56,95,117,32,108,111,97,100,49,54,95,115,32,108,111,97,100,49,54,95,117,32,108,111,97,100,51,50,95,115,32,108,111,97,100,51,50,95,117]⟩,
 ⟨54,[],[105,51,50,46,115,116,111,114,101,32,105,54,52,46,115,116,111,114,101]⟩,
 ⟨58,[105,51,50,46],[115,116,111,114,101,56,32,115,116,111,114,101,49,54]⟩,
 ⟨60,[105,54,52,46],[115,116,111,114,101,56,32,115,116,111,114,101,49,54,32,115,116,111,114,101,51,50]⟩,
 ⟨63,[109,101,109,111,114,121,46],[115,105,122,101,32,103,114,111,119]⟩,
 ⟨65,[],[105,51,50,46,99,111,110,115,116,32,105,54,52,46,99,111,110,115,116]⟩,
 ⟨69,[105,51,50,46],[101,113,122,32,101,113,32,110,101,32,108,116,95,115,32,108,116,95,117,32,103,116,95,115,32,103,116,95,117,32,108,101,95,115,32,108,101,95,117,32,103,101,95,115,32,103,101,95,117]⟩,
 ⟨80,[105,54,52,46],[101,113,122,32,101,113,32,110,101,32,108,116,95,115,32,108,116,95,117,32,103,116,95,115,32,103,116,95,117,32,108,101,95,115,32,108,101,95,117,32,103,101,95,115,32,103,101,95,117]⟩,
 ⟨103,[105,51,50,46],[99,108,122,32,99,116,122,32,112,111,112,99,110,116,32,97,100,100,32,115,117,98,32,109,117,108,32,100,105,118,95,115,32,100,105,118,95,117,32,114,101,109,95,115,32,114,101,109,95,117,32,97,110,100,32,111,114,32,120,111,114,32,115,104,108,32,115,104,114,95,115,32,115,104,114,95,117,32,114,111,116,108,32,114,111,116,114]⟩,
 ⟨121,[105,54,52,46],[99,108,122,32,99,116,122,32,112,111,112,99,110,116,32,97,100,100,32,115,117,98,32,109,117,108,32,100,105,118,95,115,32,100,105,118,95,117,32,114,101,109,95,115,32,114,101,109,95,117,32,97,110,100,32,111,114,32,120,111,114,32,115,104,108,32,115,104,114,95,115,32,115,104,114,95,117,32,114,111,116,108,32,114,111,116,114]⟩,
 ⟨167,[],[105,51,50,46,119,114,97,112,95,105,54,52]⟩,
 ⟨172,[105,54,52,46],[101,120,116,101,110,100,95,105,51,50,95,115,32,101,120,116,101,110,100,95,105,51,50,95,117]⟩,
 ⟨192,[105,51,50,46],[101,120,116,101,110,100,56,95,115,32,101,120,116,101,110,100,49,54,95,115]⟩,
 ⟨194,[105,54,52,46],[101,120,116,101,110,100,56,95,115,32,101,120,116,101,110,100,49,54,95,115,32,101,120,116,101,110,100,51,50,95,115]⟩,
 ⟨208,[114,101,102,46],[110,117,108,108,32,105,115,95,110,117,108,108,32,102,117,110,99]⟩,
 ⟨64520,[],[109,101,109,111,114,121,46,105,110,105,116,32,100,97,116,97,46,100,114,111,112,32,109,101,109,111,114,121,46,99,111,112,121,32,109,101,109,111,114,121,46,102,105,108,108,32,116,97,98,108,101,46,105,110,105,116,32,101,108,101,109,46,100,114,111,112,32,116,97,98,108,101,46,99,111,112,121,32,116,97,98,108,101,46,103,114,111,119,32,116,97,98,108,101,46,115,105,122,101,32,116,97,98,108,101,46,102,105,108,108]⟩]
def OC:List Oc:=[⟨0,[117,110,114,101,97,99,104,97,98,108,101],0⟩,
 ⟨1,[110,111,112],0⟩,
 ⟨2,[98,108,111,99,107],1⟩,
 ⟨3,[108,111,111,112],1⟩,
 ⟨4,[105,102],1⟩,
 ⟨5,[101,108,115,101],0⟩,
 ⟨11,[101,110,100],0⟩,
 ⟨12,[98,114],2⟩,
 ⟨13,[98,114,95,105,102],2⟩,
 ⟨14,[98,114,95,116,97,98,108,101],3⟩,
 ⟨15,[114,101,116,117,114,110],0⟩,
 ⟨16,[99,97,108,108],4⟩,
 ⟨17,[99,97,108,108,95,105,110,100,105,114,101,99,116],5⟩,
 ⟨26,[100,114,111,112],0⟩,
 ⟨27,[115,101,108,101,99,116],0⟩,
 ⟨28,[115,101,108,101,99,116],6⟩,
 ⟨32,[108,111,99,97,108,46,103,101,116],7⟩,
 ⟨33,[108,111,99,97,108,46,115,101,116],7⟩,
 ⟨34,[108,111,99,97,108,46,116,101,101],7⟩,
 ⟨35,[103,108,111,98,97,108,46,103,101,116],8⟩,
 ⟨36,[103,108,111,98,97,108,46,115,101,116],8⟩,
 ⟨37,[116,97,98,108,101,46,103,101,116],9⟩,
 ⟨38,[116,97,98,108,101,46,115,101,116],9⟩,
 ⟨40,[105,51,50,46,108,111,97,100],17⟩,
 ⟨41,[105,54,52,46,108,111,97,100],17⟩,
 ⟨44,[105,51,50,46,108,111,97,100,56,95,115],17⟩,
 ⟨45,[105,51,50,46,108,111,97,100,56,95,117],17⟩,
 ⟨46,[105,51,50,46,108,111,97,100,49,54,95,115],17⟩,
 ⟨47,[105,51,50,46,108,111,97,100,49,54,95,117],17⟩,
 ⟨48,[105,54,52,46,108,111,97,100,56,95,115],17⟩,
 ⟨49,[105,54,52,46,108,111,97,100,56,95,117],17⟩,
 ⟨50,[105,54,52,46,108,111,97,100,49,54,95,115],17⟩,
 ⟨51,[105,54,52,46,108,111,97,100,49,54,95,117],17⟩,
 ⟨52,[105,54,52,46,108,111,97,100,51,50,95,115],17⟩,
 ⟨53,[105,54,52,46,108,111,97,100,51,50,95,117],17⟩,
 ⟨54,[105,51,50,46,115,116,111,114,101],17⟩,
 ⟨55,[105,54,52,46,115,116,111,114,101],17⟩,
 ⟨58,[105,51,50,46,115,116,111,114,101,56],17⟩,
 ⟨59,[105,51,50,46,115,116,111,114,101,49,54],17⟩,
 ⟨60,[105,54,52,46,115,116,111,114,101,56],17⟩,
 ⟨61,[105,54,52,46,115,116,111,114,101,49,54],17⟩,
 ⟨62,[105,54,52,46,115,116,111,114,101,51,50],17⟩,
 ⟨63,[109,101,109,111,114,121,46,115,105,122,101],13⟩,
 ⟨64,[109,101,109,111,114,121,46,103,114,111,119],13⟩,
 ⟨65,[105,51,50,46,99,111,110,115,116],18⟩,
 ⟨66,[105,54,52,46,99,111,110,115,116],19⟩,
 ⟨69,[105,51,50,46,101,113,122],0⟩,
 ⟨70,[105,51,50,46,101,113],0⟩,
 ⟨71,[105,51,50,46,110,101],0⟩,
 ⟨72,[105,51,50,46,108,116,95,115],0⟩,
 ⟨73,[105,51,50,46,108,116,95,117],0⟩,
 ⟨74,[105,51,50,46,103,116,95,115],0⟩,
 ⟨75,[105,51,50,46,103,116,95,117],0⟩,
 ⟨76,[105,51,50,46,108,101,95,115],0⟩,
 ⟨77,[105,51,50,46,108,101,95,117],0⟩,
 ⟨78,[105,51,50,46,103,101,95,115],0⟩,
 ⟨79,[105,51,50,46,103,101,95,117],0⟩,
 ⟨80,[105,54,52,46,101,113,122],0⟩,
 ⟨81,[105,54,52,46,101,113],0⟩,
 ⟨82,[105,54,52,46,110,101],0⟩,
 ⟨83,[105,54,52,46,108,116,95,115],0⟩,
 ⟨84,[105,54,52,46,108,116,95,117],0⟩,
 ⟨85,[105,54,52,46,103,116,95,115],0⟩,
 ⟨86,[105,54,52,46,103,116,95,117],0⟩,
 ⟨87,[105,54,52,46,108,101,95,115],0⟩,
 ⟨88,[105,54,52,46,108,101,95,117],0⟩,
 ⟨89,[105,54,52,46,103,101,95,115],0⟩,
 ⟨90,[105,54,52,46,103,101,95,117],0⟩,
 ⟨103,[105,51,50,46,99,108,122],0⟩,
 ⟨104,[105,51,50,46,99,116,122],0⟩,
 ⟨105,[105,51,50,46,112,111,112,99,110,116],0⟩,
 ⟨106,[105,51,50,46,97,100,100],0⟩,
 ⟨107,[105,51,50,46,115,117,98],0⟩,
 ⟨108,[105,51,50,46,109,117,108],0⟩,
 ⟨109,[105,51,50,46,100,105,118,95,115],0⟩,
 ⟨110,[105,51,50,46,100,105,118,95,117],0⟩,
 ⟨111,[105,51,50,46,114,101,109,95,115],0⟩,
 ⟨112,[105,51,50,46,114,101,109,95,117],0⟩,
 ⟨113,[105,51,50,46,97,110,100],0⟩,
 ⟨114,[105,51,50,46,111,114],0⟩,
 ⟨115,[105,51,50,46,120,111,114],0⟩,
 ⟨116,[105,51,50,46,115,104,108],0⟩,
 ⟨117,[105,51,50,46,115,104,114,95,115],0⟩,
 ⟨118,[105,51,50,46,115,104,114,95,117],0⟩,
 ⟨119,[105,51,50,46,114,111,116,108],0⟩,
 ⟨120,[105,51,50,46,114,111,116,114],0⟩,
 ⟨121,[105,54,52,46,99,108,122],0⟩,
 ⟨122,[105,54,52,46,99,116,122],0⟩,
 ⟨123,[105,54,52,46,112,111,112,99,110,116],0⟩,
 ⟨124,[105,54,52,46,97,100,100],0⟩,
 ⟨125,[105,54,52,46,115,117,98],0⟩,
 ⟨126,[105,54,52,46,109,117,108],0⟩,
 ⟨127,[105,54,52,46,100,105,118,95,115],0⟩,
 ⟨128,[105,54,52,46,100,105,118,95,117],0⟩,
 ⟨129,[105,54,52,46,114,101,109,95,115],0⟩,
 ⟨130,[105,54,52,46,114,101,109,95,117],0⟩,
 ⟨131,[105,54,52,46,97,110,100],0⟩,
 ⟨132,[105,54,52,46,111,114],0⟩,
 ⟨133,[105,54,52,46,120,111,114],0⟩,
 ⟨134,[105,54,52,46,115,104,108],0⟩,
 ⟨135,[105,54,52,46,115,104,114,95,115],0⟩,
 ⟨136,[105,54,52,46,115,104,114,95,117],0⟩,
 ⟨137,[105,54,52,46,114,111,116,108],0⟩,
 ⟨138,[105,54,52,46,114,111,116,114],0⟩,
 ⟨167,[105,51,50,46,119,114,97,112,95,105,54,52],0⟩,
 ⟨172,[105,54,52,46,101,120,116,101,110,100,95,105,51,50,95,115],0⟩,
 ⟨173,[105,54,52,46,101,120,116,101,110,100,95,105,51,50,95,117],0⟩,
 ⟨192,[105,51,50,46,101,120,116,101,110,100,56,95,115],0⟩,
 ⟨193,[105,51,50,46,101,120,116,101,110,100,49,54,95,115],0⟩,
 ⟨194,[105,54,52,46,101,120,116,101,110,100,56,95,115],0⟩,
 ⟨195,[105,54,52,46,101,120,116,101,110,100,49,54,95,115],0⟩,
 ⟨196,[105,54,52,46,101,120,116,101,110,100,51,50,95,115],0⟩,
 ⟨208,[114,101,102,46,110,117,108,108],20⟩,
 ⟨209,[114,101,102,46,105,115,95,110,117,108,108],0⟩,
 ⟨210,[114,101,102,46,102,117,110,99],4⟩,
 ⟨64520,[109,101,109,111,114,121,46,105,110,105,116],15⟩,
 ⟨64521,[100,97,116,97,46,100,114,111,112],16⟩,
 ⟨64522,[109,101,109,111,114,121,46,99,111,112,121],14⟩,
 ⟨64523,[109,101,109,111,114,121,46,102,105,108,108],13⟩,
 ⟨64524,[116,97,98,108,101,46,105,110,105,116],11⟩,
 ⟨64525,[101,108,101,109,46,100,114,111,112],12⟩,
 ⟨64526,[116,97,98,108,101,46,99,111,112,121],10⟩,
 ⟨64527,[116,97,98,108,101,46,103,114,111,119],9⟩,
 ⟨64528,[116,97,98,108,101,46,115,105,122,101],9⟩,
 ⟨64529,[116,97,98,108,101,46,102,105,108,108],9⟩]
def NO:List UInt8→List UInt8→List (List UInt8)
 | [],w=>if w=[] then [] else [w]
 | c :: r,w=>if c=32 then (if w=[] then NO r [] else w :: NO r []) else NO r (w++[c])
def RS (s:List UInt8):List (List UInt8):=NO s []
def vR (f:Int) (h:List UInt8):Nat→List (List UInt8)→List (Int×List UInt8)
 | _,[]=>[]
 | k,s :: r=>(f+(k:Int),h++s) :: vR f h (k+1) r
def EN:List (Int×List UInt8):=OC.map fun o=>(o.op,o.nm)
theorem KC:EN=HR.flatMap fun r=>vR r.f r.h 0 (RS r.t):=by decide +kernel
open Go.Shelf
def J0:Go.Shelf.Ren:=⟨fun | 144=>140 | 143=>142 | 219=>146 | 217=>149 | 225=>150 | 224=>151 | 267=>152 | 266=>154 | 314=>155 | n=>n,fun | 9=>9 | 4=>4 | 3=>3 | 5=>5 | 46=>201 | 146=>226 | 51=>223 | n=>n,fun | 1=>3 | n=>n⟩
theorem Ev:Go.Proofs.Lays.n144 Tryz.prog J0:={
 mixed:=by kernel_rfl
 f143:=Tryz.func142.trans (congrArg some (by kernel_rfl))
 f144:=Tryz.func140.trans (congrArg some (by kernel_rfl))
 f217:=Tryz.func149.trans (congrArg some (by kernel_rfl))
 f219:=Tryz.func146.trans (congrArg some (by kernel_rfl))
 f224:=Tryz.func151.trans (congrArg some (by kernel_rfl))
 f225:=Tryz.func150.trans (congrArg some (by kernel_rfl))
 f266:=Tryz.func154.trans (congrArg some (by kernel_rfl))
 f267:=Tryz.func152.trans (congrArg some (by kernel_rfl))
 f314:=Tryz.func155.trans (congrArg some (by kernel_rfl))
 t3:=Tryz.underlying3
 a3:=Tryz.isAgg3
 z3:=Tryz.sizeOf3
 v3:=Tryz.zeroValue3
 t4:=Tryz.underlying4
 a4:=Tryz.isAgg4
 z4:=Tryz.sizeOf4
 v4:=Tryz.zeroValue4
 t5:=Tryz.underlying5
 a5:=Tryz.isAgg5
 z5:=Tryz.sizeOf5
 v5:=Tryz.zeroValue5
 t9:=Tryz.underlying9
 a9:=Tryz.isAgg9
 z9:=Tryz.sizeOf9
 v9:=Tryz.zeroValue9
 t46:=Tryz.underlying201
 a46:=Tryz.isAgg201
 z46:=Tryz.sizeOf201
 v46:=Tryz.zeroValue201
 t51:=Tryz.underlying223
 a51:=Tryz.isAgg223
 z51:=Tryz.sizeOf223
 v51:=Tryz.zeroValue223
 t146:=Tryz.underlying226
 a146:=Tryz.isAgg226
 z146:=Tryz.sizeOf226
 v146:=Tryz.zeroValue226
 g1:=by kernel_rfl }
def J1:Go.Shelf.Ren:=⟨fun | 157=>145 | 229=>147 | 199=>148 | 261=>153 | 311=>156 | 312=>157 | n=>n,fun | 9=>9 | 31=>205 | 3=>3 | 5=>5 | 4=>4 | 119=>197 | 0=>0 | 40=>217 | 152=>220 | 21=>21 | 154=>222 | 51=>223 | 141=>225 | 196=>231 | 193=>228 | 198=>233 | 49=>44 | 194=>229 | 201=>236 | 226=>238 | 46=>201 | 227=>239 | n=>n,fun | 0=>2 | 6=>4 | n=>n⟩
theorem Ew:Go.Proofs.Lays.n157 Tryz.prog J1:={
 mixed:=by kernel_rfl
 f157:=Tryz.func145.trans (congrArg some (by kernel_rfl))
 f199:=Tryz.func148.trans (congrArg some (by kernel_rfl))
 f229:=Tryz.func147.trans (congrArg some (by kernel_rfl))
 f261:=Tryz.func153.trans (congrArg some (by kernel_rfl))
 f311:=Tryz.func156.trans (congrArg some (by kernel_rfl))
 f312:=Tryz.func157.trans (congrArg some (by kernel_rfl))
 t0:=Tryz.underlying0
 a0:=Tryz.isAgg0
 z0:=Tryz.sizeOf0
 v0:=Tryz.zeroValue0
 t3:=Tryz.underlying3
 a3:=Tryz.isAgg3
 z3:=Tryz.sizeOf3
 v3:=Tryz.zeroValue3
 t4:=Tryz.underlying4
 a4:=Tryz.isAgg4
 z4:=Tryz.sizeOf4
 v4:=Tryz.zeroValue4
 t5:=Tryz.underlying5
 a5:=Tryz.isAgg5
 z5:=Tryz.sizeOf5
 v5:=Tryz.zeroValue5
 t9:=Tryz.underlying9
 a9:=Tryz.isAgg9
 z9:=Tryz.sizeOf9
 v9:=Tryz.zeroValue9
 t21:=Tryz.underlying21
 a21:=Tryz.isAgg21
 z21:=Tryz.sizeOf21
 v21:=Tryz.zeroValue21
 t31:=Tryz.underlying205
 a31:=Tryz.isAgg205
 z31:=Tryz.sizeOf205
 v31:=Tryz.zeroValue205
 t40:=Tryz.underlying217
 a40:=Tryz.isAgg217
 z40:=Tryz.sizeOf217
 v40:=Tryz.zeroValue217
 t46:=Tryz.underlying201
 a46:=Tryz.isAgg201
 z46:=Tryz.sizeOf201
 v46:=Tryz.zeroValue201
 t49:=Tryz.underlying44
 a49:=Tryz.isAgg44
 z49:=Tryz.sizeOf44
 v49:=Tryz.zeroValue44
 t51:=Tryz.underlying223
 a51:=Tryz.isAgg223
 z51:=Tryz.sizeOf223
 v51:=Tryz.zeroValue223
 t119:=Tryz.underlying197
 a119:=Tryz.isAgg197
 z119:=Tryz.sizeOf197
 t141:=Tryz.underlying225
 a141:=Tryz.isAgg225
 z141:=Tryz.sizeOf225
 v141:=Tryz.zeroValue225
 t152:=Tryz.underlying220
 a152:=Tryz.isAgg220
 z152:=Tryz.sizeOf220
 v152:=Tryz.zeroValue220
 t154:=Tryz.underlying222
 a154:=Tryz.isAgg222
 z154:=Tryz.sizeOf222
 v154:=Tryz.zeroValue222
 t193:=Tryz.underlying228
 a193:=Tryz.isAgg228
 z193:=Tryz.sizeOf228
 v193:=Tryz.zeroValue228
 t194:=Tryz.underlying229
 a194:=Tryz.isAgg229
 z194:=Tryz.sizeOf229
 v194:=Tryz.zeroValue229
 t196:=Tryz.underlying231
 a196:=Tryz.isAgg231
 z196:=Tryz.sizeOf231
 v196:=Tryz.zeroValue231
 t198:=Tryz.underlying233
 a198:=Tryz.isAgg233
 z198:=Tryz.sizeOf233
 v198:=Tryz.zeroValue233
 t201:=Tryz.underlying236
 a201:=Tryz.isAgg236
 z201:=Tryz.sizeOf236
 v201:=Tryz.zeroValue236
 t226:=Tryz.underlying238
 a226:=Tryz.isAgg238
 z226:=Tryz.sizeOf238
 v226:=Tryz.zeroValue238
 t227:=Tryz.underlying239
 a227:=Tryz.isAgg239
 z227:=Tryz.sizeOf239
 v227:=Tryz.zeroValue239
 g0:=by kernel_rfl
 g6:=by kernel_rfl }
theorem jY (s sub:List UInt8) (hs:s.length<4294967281):aj Tryz.prog jX [.str s,.str sub] (.bool (Lib.contains s sub)):=by
 refine aj.of (fun w bl M cargs hH hM ha=>?_) rfl
 match cargs,ha with
 | [a,b],⟨h1,h2,_⟩ =>
  obtain rfl:=h1.str
  obtain rfl:=h2.str
  obtain ⟨m,hm⟩:=hH.2.2
  refine (Any.strings_Contains Ev ⟨s.toArray⟩ ⟨sub.toArray⟩ m w (by simpa [ByteArray.size] using hs) hm).mono ?_
  rintro e w' ⟨rfl,rfl⟩
  exact ⟨_,rfl,gG.refl _ _,IRel.bool _⟩
theorem sE (s:List UInt8) (hs:s.length<4294967281) (ha:∀b∈s,b.toNat<128) (w:World) (hH:(aX.T Tryz.prog).H w) :
  Calls Tryz.prog kV #[.string ⟨s.toArray⟩] w fun e w'=>e = .returned (.slice (some ⟨w.heap.size,0,none⟩) (Lib.fields s).length (Lib.fields s).length)∧w'=w.alloc (.cells ((Lib.fields s).map fun l=>Value.string ⟨l.toArray⟩).toArray 9):=by
 have h:=Any.strings_Fields_core Ew (by kernel_rfl) ⟨s.toArray⟩ w (by simpa [ByteArray.size] using hs) (fun j b hb=>ha b (gE (by simpa using hb))) (fun c hc=>hH.2.1 c hc)
 exact h
theorem Fu:aj Tryz.prog Q1 [] (.sl 3 (HR.map IG)):=by
 refine ab (ic:=Hm.body) aq PH rfl rfl ?_
 simp only [go_sem,Hm]
 exact aE [25] (by rfl) rfl
theorem BT:aj Tryz.prog QT [] (.fn 143 []):=by
 refine ab (ic:=G6.body) aq Pj rfl rfl ?_
 simp only [go_sem,G6]
 exact ak
section
open Go.RowKit
attribute [local go_sem] Oper.semAt_some
def In (x:Int×List UInt8):Array Value:=#[.int .i64 x.1,.string ⟨x.2.toArray⟩]
theorem tc {M:Nat→Prop} {w:World} {v:Value} (h:aT (fun _=>none) M w v (.sl 3 (HR.map IG))):∃b off cap,v = .slice (some ⟨b,off,none⟩) 24 cap∧¬M b∧∃c t fr,w.heap[b]? = some (.cells c t fr) ∧
  ∀i,i<24→c[off+i * 3]? = some (.int .i64 (ac HR i).f)∧c[off+i * 3+1]? = some (.string ⟨(ac HR i).h.toArray⟩)∧c[off+i * 3+2]? = some (.string ⟨(ac HR i).t.toArray⟩):=by
 have h1:IRel M w v (.sl 3 (HR.map IG)):=h
 have hlen:(HR.map IG).length=24:=by rfl
 generalize hr:HR.map IG=rows at h1 hlen
 cases h1 with
 | nls=>simp at hlen
 | sl0=>simp at hlen
 | sl b off cap st c t fr rows vs hb hM hl hr1 hv hx =>
  refine ⟨b,off,cap,by rw [hlen],hM,c,t,fr,hb,fun i hi=>?_⟩
  have hrow:rows[i]? = some (IG (ac HR i)):=by
   rw [← hr,cQ,cO (by rw [← hlen,← hr] at hi;simpa using hi)]
   rfl
  have key:∀j x,(IG (ac HR i))[j]? = some x→j<3→∃u,c[off+i * 3+j]? = some u∧IRel M w u x:=fun j x hj hj3=>⟨_,hv i j (by omega) hj3,hx i j _ _ hrow hj⟩
  obtain ⟨u0,a0,b0⟩:=key 0 (.int .i64 (ac HR i).f) rfl (by omega)
  obtain ⟨u1,a1,b1⟩:=key 1 (.str (ac HR i).h) rfl (by omega)
  obtain ⟨u2,a2,b2⟩:=key 2 (.str (ac HR i).t) rfl (by omega)
  cases b0;cases b1;cases b2
  exact ⟨a0,a1,a2⟩
def nO (k:Nat):List (Int×List UInt8):=(HR.take k).flatMap fun r=>vR r.f r.h 0 (Lib.fields r.t)
theorem KD (k:Nat) (h:k<24):(ac HR k).t.length<4294967281∧∀b∈(ac HR k).t,b.toNat<128:=by
 have:∀r∈HR,r.t.length<4294967281∧∀b∈r.t,b.toNat<128:=by decide +kernel
 exact this _ (by rw [bD (by exact h)];exact List.getElem_mem _)
theorem Ho (k:Nat) (h:k<24):(ac HR k).h.length<1000∧0≤(ac HR k).f∧(ac HR k).f<100000∧(Lib.fields (ac HR k).t).length<1000∧∀s∈Lib.fields (ac HR k).t,s.length<1000:=by
 have:∀r∈HR,r.h.length<1000∧0≤r.f∧r.f<100000∧(Lib.fields r.t).length<1000∧∀s∈Lib.fields r.t,s.length<1000:=by decide +kernel
 exact this _ (by rw [bD (by exact h)];exact List.getElem_mem _)
theorem t7 (f:Int) (h:List UInt8):∀(l:List (List UInt8)) (k:Nat),(vR f h k l).length=l.length
 | [],_=>rfl
 | _ :: l,k=>by simp [vR,t7 f h l]
theorem tZ (f:Int) (h:List UInt8):∀(l:List (List UInt8)) (k j:Nat),j<l.length→(vR f h k l)[j]? = some (f+((k+j:Nat):Int),h++ac l j)
 | [],_,j,hj=>by simp at hj
 | s :: l,k,0,_=>rfl
 | s :: l,k,j+1,hj=>by
  have:=tZ f h l (k+1) j (by simpa using hj)
  simp only [vR,List.getElem?_cons_succ]
  rw [this,show k+1+j=k+(j+1) by omega]
  rfl
theorem qW {f:Int} {h:List UInt8} {l:List (List UInt8)} {j:Nat} (hj:j<l.length):(vR f h 0 l).take (j+1)=(vR f h 0 l).take j++[(f+(j:Int),h++ac l j)]:=by
 rw [List.take_add_one,tZ f h l 0 j hj,Option.toList_some,Nat.zero_add]
theorem pm {k:Nat} (h:k<24):nO (k+1)=nO k++vR (ac HR k).f (ac HR k).h 0 (Lib.fields (ac HR k).t):=by
 unfold nO
 rw [List.take_add_one,cO (show k<HR.length from h),Option.toList_some,List.flatMap_append,List.flatMap_singleton]
theorem Bu {k:Nat} (h:k≤24):nO k <+: nO 24:=by
 have e:HR.take 24=HR.take k++(HR.take 24).drop k:=by
  rw [show HR.take k=(HR.take 24).take k by rw [List.take_take,Nat.min_eq_left h]];exact (List.take_append_drop k _).symm
 unfold nO
 rw [e,List.flatMap_append]
 exact List.prefix_append _ _
theorem Bt:nO 24=HR.flatMap fun r=>vR r.f r.h 0 (RS r.t):=by decide +kernel
theorem Jp (n:Nat) (w:World):KF n Tryz.prog 143 #[] In EN w:=by
 intro l J Jx W hH hW hJ hJx hY h0
 refine callsIn_of_wp Tryz.func143 rfl trivial ?_ rfl
 have hE:nO 24=EN:=by rw [KC];exact Bt
 have cr:=aj.run Fu W hH (cargs:=[]) trivial
 simp only [Tryz.ntmps143,List.size_toArray,oh,kC,Nat.reduceAdd,Nat.reduceSub,Array.replicate_succ,Array.replicate_zero,List.push_toArray,List.append_toArray,r5,r6]
 gi_wp2
 refine ⟨trivial,fun h=>(by cases h),(callsIn_wide.2 cr).mono ?_⟩
 rintro e W1 ⟨v,rfl,hv,hst⟩
 obtain ⟨b,off,cap,rfl,hnb,c,t,fr,hb,hc⟩:=tc hv
 gi_wp2
 gi_loopw [8] (fun i wr=>∃k:Nat,k≤24∧i = .int .i64 k∧J (nO k) wr∧W.heap.size≤wr.heap.size∧wr.heap[b]? = some (.cells c t fr)∧(aX.T Tryz.prog).H wr) (fun i _=>24 - (intOf i).toNat)
 case atStart=>exact ⟨0,by omega,rfl,hJ _ _ _ h0 hst,hst.size,hb,(aX.T Tryz.prog).stay _ _ hH fun q hq=>hst.keep q ((aX.T Tryz.prog).low _ hH q hq) (fun h=>h)⟩
 case round =>
  obtain ⟨k,hk,rfl,hJk,hsz,hbk,hHk⟩:=hrel
  rename World=>wo1
  by_cases hlt:k<24
  ·have c0:wo1.cell? ⟨b,off+k * 3,none⟩=some (.int .i64 (ac HR k).f):=(dm hbk _).trans (hc k hlt).1
   have c1:wo1.cell? ⟨b,off+k * 3+1,none⟩=some (.string ⟨(ac HR k).h.toArray⟩):=(dm hbk _).trans (hc k hlt).2.1
   have c2:wo1.cell? ⟨b,off+k * 3+2,none⟩=some (.string ⟨(ac HR k).t.toArray⟩):=(dm hbk _).trans (hc k hlt).2.2
   have hsA:=gG.ofAlloc wo1 (.cells #[.int .i64 (ac HR k).f,.string ⟨(ac HR k).h.toArray⟩,.string ⟨(ac HR k).t.toArray⟩] 214)
   have hHA:=(aX.T Tryz.prog).stay _ _ hHk fun q hq=>hsA.keep q ((aX.T Tryz.prog).low _ hHk q hq) (fun h=>h)
   obtain ⟨hl,ha⟩:=KD k hlt
   obtain ⟨hh,hf0,hf1,hfl,hfs⟩:=Ho k hlt
   have cf:=sE (ac HR k).t hl ha _ hHA
   generalize hF:Lib.fields (ac HR k).t=fl at cf hfl hfs
   gi_wp2
   refine ⟨trivial,fun h=>(by cases h),(callsIn_wide.2 cf).mono ?_⟩
   rintro e W2 ⟨rfl,rfl⟩
   gi_wp2
   gi_loopw [16] (fun i wr2=>∃j:Nat,j≤fl.length∧i = .int .i64 j∧J (nO k++(vR (ac HR k).f (ac HR k).h 0 fl).take j) wr2∧W.heap.size≤wr2.heap.size∧wr2.heap[b]? = some (.cells c t fr) ∧
     wr2.heap[wo1.heap.size]? = some (.cells #[.int .i64 (ac HR k).f,.string ⟨(ac HR k).h.toArray⟩,.string ⟨(ac HR k).t.toArray⟩] 214)∧wr2.heap[wo1.heap.size+1]? = some (.cells (fl.map fun l=>Value.string ⟨l.toArray⟩).toArray 9)∧(aX.T Tryz.prog).H wr2) (fun i _=>fl.length - (intOf i).toNat)
   case atStart =>
    have hsF:=hsA.one (gG.ofAlloc _ (.cells (fl.map fun l=>Value.string ⟨l.toArray⟩).toArray 9))
    refine ⟨0,cC _,rfl,?_,by simp;omega,?_,?_,?_,?_⟩
    ·rw [bE,qn];exact hJ _ _ _ hJk hsF
    ·rw [hsF.keep b (be hbk) (fun h=>h)];exact hbk
    ·exact (Below.heap_alloc _ _ _ (by simp)).trans (World.alloc_heap_new _ _)
    ·have:=World.alloc_heap_new (wo1.alloc (.cells #[.int .i64 (ac HR k).f,.string ⟨(ac HR k).h.toArray⟩,.string ⟨(ac HR k).t.toArray⟩] 214)) (.cells (fl.map fun l=>Value.string ⟨l.toArray⟩).toArray 9)
     rwa [World.size_alloc] at this
    ·exact (aX.T Tryz.prog).stay _ _ hHk fun q hq=>hsF.keep q ((aX.T Tryz.prog).low _ hHk q hq) (fun h=>h)
   case round =>
    obtain ⟨j,hj,rfl,hJj,hsz2,hb2,hx2,hs2,hH2⟩:=hrel
    by_cases hlt2:j<fl.length
    ·have d0:wr.cell? ⟨wo1.heap.size,0,none⟩=some (.int .i64 (ac HR k).f):=dm hx2 _
     have d1:wr.cell? ⟨wo1.heap.size,1,none⟩=some (.string ⟨(ac HR k).h.toArray⟩):=dm hx2 _
     have d3:wr.cell? ⟨wo1.heap.size+1,j,none⟩=some (.string ⟨(ac fl j).toArray⟩):=(dm hs2 _).trans (by rw [List.getElem?_toArray,cQ,cO hlt2];rfl)
     have hss:=hfs (ac fl j) (by rw [bD hlt2];exact List.getElem_mem _)
     have hcat:¬9223372036854775807<(ac HR k).h.length+(ac fl j).length:=by omega
     have hpre:(nO k++(vR (ac HR k).f (ac HR k).h 0 fl).take j)++[((ac HR k).f+(j:Int),(ac HR k).h++ac fl j)] <+: EN:=by
      rw [tG,← qW hlt2,← hE,← hF]
      refine List.IsPrefix.trans ?_ (Bu (show k+1≤24 by omega))
      rw [pm hlt]
      exact (List.prefix_append_right_inj _).2 (List.take_prefix _ _)
     obtain ⟨fn,tmps,assign,body,hy,hR⟩:=hY _ _ wr hJj hpre
     have hw:wrap64 ((ac HR k).f+(j:Int))=(ac HR k).f+(j:Int):=IntWalk.wrap64_in _ (by omega)
     have hc2:(ByteArray.mk (ac HR k).h.toArray++ByteArray.mk (ac fl j).toArray)=ByteArray.mk ((ac HR k).h++ac fl j).toArray:=by apply ByteArray.ext;simp
     have hy2:(Instr.yield l #[.int .i64 ((ac HR k).f+(j:Int)),.string (ByteArray.mk ((ac HR k).h++ac fl j).toArray)]).run Tryz.prog wr = .ok (.round l fn tmps assign body) wr:=hy
     gi_wp2
     refine ⟨fun h=>(by cases h),hR.mono ?_⟩
     rintro e W3 (⟨rfl,hJ3,hk3⟩ | ⟨rfl,hJx3⟩)
     ·gi_wp2
      go_roundw
      case rel =>
       refine ⟨j+1,by omega,by simp,?_,gc hsz2 hk3.1,?_,hk3.2.1 _ _ _ _ hsz hx2,hk3.2.1 _ _ _ _ (by omega) hs2,(aX.T Tryz.prog).stay _ _ hH2 fun q hq=>hk3.2.2 q hq⟩
       ·rw [qW hlt2,← tG];exact hJ3
       ·by_cases hbw:W.heap.size≤b
        ·exact hk3.2.1 _ _ _ _ hbw hb2
        ·rw [hk3.2.2 b (Classical.byContradiction fun hn=>hnb ⟨by omega,hn⟩)];exact hb2
      case measure=>simp [intOf];omega
     ·gi_wp2
      refine bodyPost_ret (results_none rfl _ _ _) rfl ?_
      exact ⟨⟨_,rfl⟩,.inr ⟨_,hpre,hJx3⟩⟩
    ·obtain rfl:j=fl.length:=by omega
     gi_wp2
     refine ⟨⟨k+1,by omega,by simp,?_,hsz2,hb2,hH2⟩,by simp [intOf];omega⟩
     rw [pm hlt,hF]
     rw [jw (by rw [t7];exact aB _)] at hJj
     exact hJj
  ·obtain rfl:k=24:=by omega
   gi_wp2
   go_end0
   exact ⟨⟨_,rfl⟩,.inl (hE▸hJk)⟩
end
section
open Go.RowKit
attribute [local go_sem] Oper.semAt_some
def ct (op:Int):List UInt8:=match EN.find? (fun p=>p.1==op) with
 | some p=>p.2
 | none=>[]
theorem y_ {α:Type} {f:α→Bool} {l gY:List α} {x:α} (h:gY++[x] <+: l) (hn:∀p∈gY,f p=false) (hx:f x=true):l.find? f=some x:=by
 obtain ⟨r,rfl⟩:=h
 rw [tG,List.find?_append,List.find?_eq_none.2 (fun p hp=>by rw [hn p hp];decide)]
 simp [hx]
theorem iu {w W:World} {l:Nat} {o o':Obj} (h:gG No w W) (hl:w.heap.size≤l) (hc:W.heap[l]? = some o) (ho:o.isCells=false):gG No w (W.putObj l o') where
 size:=gc h.size (grownBy_putObj' W l o').size
 keep b hb _:=by rw [World.putObj_heap_other (by omega)];exact h.keep b hb (fun h=>h)
 shape b c t fr hb:=by
  obtain ⟨c',fr',h1,h2⟩:=h.shape b c t fr hb
  exact ⟨c',fr',by rw [World.putObj_heap_other (by have:=be hb;omega)];exact h1,h2⟩
 os:=(grownBy_putObj' W l o').os.trans h.os
 out:=(grownBy_putObj' W l o').output.trans h.out
theorem lX {w W:World} {a:Addr} {v:Value} (h:gG No w W) (hl:w.heap.size≤a.block):gG No w (W.setCell a v) where
 size:=by simpa [World.setCell] using h.size
 keep b hb _:=by
  have:b≠a.block:=by omega
  simp only [World.setCell,kF,aV (Ne.symm this)]
  exact h.keep b hb (fun h=>h)
 shape b c t fr hb:=by
  obtain ⟨c',fr',h1,h2⟩:=h.shape b c t fr hb
  have:b≠a.block:=by have:=be hb;omega
  exact ⟨c',fr',by simp only [World.setCell,kF,aV (Ne.symm this)];exact h1,h2⟩
 os:=h.os
 out:=h.out
theorem Is {bl:Nat→Option Nat} {M:Nat→Prop} {w:World} {v:Value} {f:FuncId} (h:aT bl M w v (.fn f [])) (hf:decide (f<4000000)=true:=by rfl):v = .func (.func f) #[] #[]:=by
 obtain ⟨cs,rfl,h⟩:=h
 have h1:F1 f=f:=bz (of_decide_eq_true hf)
 cases cs with
 | nil=>rw [h1];simp
 | cons=>exact h.elim
theorem jC {fn:Func} {t:Tmp} {ty:TypeId} (h:fn.results = #[.cell t ty]) (tmps:Array Value) (P:Program) (w:World) {b:Nat} {v:Value} (ha:tmps.getD t undef = .pointer (some ⟨b,0,none⟩)) (hagg:(isAgg ty).run P w = .ok false w)
  (hc:w.cell? ⟨b,0,none⟩=some v):(results fn tmps).run P w = .ok v w:=by
 simp only [iP] at ha
 have hc':w.cell? { block:=b,off:=0 }=some v:=hc
 simp [results,h,ha,asAddr,loadVar,hagg,hc']
theorem uO (op:Int):aj Tryz.prog 138 [.int .i64 op] (.str (ct op)):=by
 refine aj.of (fun w bl M cargs hH hM ha=>?_) rfl
 match cargs,ha with
 | [a],⟨h1,_⟩ =>
 obtain rfl:=h1.int
 refine (callsIn_wide (n:=3)).1 ?_
 refine callsIn_of_wp_marks Tryz.func138 rfl trivial ?_ rfl
 have hs1:=(gG.ofAlloc w (.cells #[.int .i64 op] 77)).one (gG.ofAlloc _ (.cells #[.string ⟨#[]⟩] 9))
 have hH1:=(aX.T Tryz.prog).stay _ _ hH fun q hq=>hs1.keep q ((aX.T Tryz.prog).low _ hH q hq) (fun h=>h)
 have cn:=aj.run BT _ hH1 (cargs:=[]) trivial
 simp only [Tryz.ntmps138,List.size_toArray,oh,kC,Nat.reduceAdd,Nat.reduceSub,Array.replicate_succ,Array.replicate_zero,List.push_toArray,List.append_toArray,r5,r6]
 gi_wp2
 refine ⟨trivial,(callsIn_wide.2 cn).mono ?_⟩
 rintro e W1 ⟨v,rfl,hv,hst⟩
 obtain rfl:=Is hv
 have hsW:=hs1.one hst
 have hHW:=(aX.T Tryz.prog).stay _ _ hH fun q hq=>hsW.keep q ((aX.T Tryz.prog).low _ hH q hq) (fun h=>h)
 have hb0:W1.heap[w.heap.size]? = some (.cells #[.int .i64 op] 77):=by
  rw [hst.keep _ (by simp<;>omega) (fun h=>h)];exact (Below.heap_alloc _ _ _ (by simp)).trans (World.alloc_heap_new _ _)
 have hb1:W1.heap[w.heap.size+1]? = some (.cells #[.string ⟨#[]⟩] 9):=by
  rw [hst.keep _ (by simp) (fun h=>h)]
  have:=World.alloc_heap_new (w.alloc (.cells #[.int .i64 op] 77)) (.cells #[.string ⟨#[]⟩] 9)
  rwa [World.size_alloc] at this
 have hz:w.heap.size+2≤W1.heap.size:=by have:=hst.size;simpa using this
 clear cn hst hs1 hH1 hv
 gi_wp2
 refine xe (α:=Int×List UInt8) (encs:=In) (E:=EN) (by decide) hHW (gf:=143) (lb:=#[]) rfl (enters_of Tryz.func143 (by kernel_rfl) rfl) (Jp _ W1) (gG.refl _ _) (fun _=>rfl)
  (fun gY W=>gG No w W∧W.heap[w.heap.size]? = some (.cells #[.int .i64 op] 77)∧W.heap[w.heap.size+1]? = some (.cells #[.string ⟨#[]⟩] 9)∧∀p∈gY,(p.1==op)=false)
  (fun c gY W=>c = .ret∧gG No w W∧W.heap[w.heap.size+1]? = some (.cells #[.string ⟨(ct op).toArray⟩] 9))
  (fun s A B h hs=>⟨h.1.one hs,(hs.keep _ (be h.2.1) (fun h=>h)).trans h.2.1,(hs.keep _ (be h.2.2.1) (fun h=>h)).trans h.2.2.1,h.2.2.2⟩)
  (fun c s A B h hs=>⟨h.1,h.2.1.one hs,(hs.keep _ (be h.2.2) (fun h=>h)).trans h.2.2⟩)
  (fun s W l o o' h hl hc ho=>⟨iu h.1 (by omega) hc ho,by rw [World.putObj_heap_other (by omega)];exact h.2.1,by rw [World.putObj_heap_other (by omega)];exact h.2.2.1,h.2.2.2⟩)
  (fun c s W l o o' h hl hc ho=>⟨h.1,iu h.2.1 (by omega) hc ho,by rw [World.putObj_heap_other (by omega)];exact h.2.2⟩)
  ⟨hsW,hb0,hb1,fun p hp=>absurd hp List.not_mem_nil⟩
  (fun x=>{ tmps:=#[.int .i64 op,.pointer (some ⟨w.heap.size,0,none⟩),.pointer (some ⟨w.heap.size+1,0,none⟩),.int .i64 x.1,.string ⟨x.2.toArray⟩,.func (.func 143) #[] #[],.int .i64 x.1,.string ⟨x.2.toArray⟩,undef,undef,undef,undef],defers:=[] }) ?assign ?body ?done ?stop
 case assign =>
  intro l x W K hK
  simp only [In]
  gi_wp2
  exact hK
 case body =>
  rintro l gY x W ⟨hS,hB0,hB1,hP⟩ hpre
  have d0:W.cell? ⟨w.heap.size,0,none⟩=some (.int .i64 op):=dm hB0 _
  have d1:W.cell? ⟨w.heap.size+1,0,none⟩=some (.string ⟨#[]⟩):=dm hB1 _
  have f1:W.frozen? ⟨w.heap.size+1,0,none⟩=false:=by simp [World.frozen?,hB1]
  by_cases hx:x.1=op
  ·have hn:ct op=x.2:=by
    unfold ct
    rw [y_ hpre hP (by simpa using hx)]
   gi_wp2
   refine ⟨KeepsOthers.setCell _ _ _,rfl,lX hS (by simp),?_⟩
   rw [hn]
   simp [World.setCell,kF,hB1]
  ·gi_wp2
   refine ⟨⟨aB _,fun _ _ h _=>h⟩,qA.refl _ _,hS,hB0,hB1,fun p hp=>?_⟩
   rcases dw.1 hp with hp | hp
   ·exact hP p hp
   ·rw [j7.1 hp];simpa using hx
 case done =>
  rintro D W hD ⟨hS,hB0,hB1,hP⟩ hK
  have d1:W.cell? ⟨w.heap.size+1,0,none⟩=some (.string ⟨#[]⟩):=dm hB1 _
  have f1:W.frozen? ⟨w.heap.size+1,0,none⟩=false:=by simp [World.frozen?,hB1]
  have hn:ct op=[]:=by
   unfold ct
   rw [List.find?_eq_none.2 (fun p hp=>by rw [hP p hp];decide)]
  gi_wp2
  have hD2:(W.setCell ⟨w.heap.size+1,0,none⟩ (.string ⟨#[]⟩)).heap[D]? = some (.deferred (some [])):=by
   simp only [World.setCell,kF,aV (show ¬w.heap.size+1=D by omega)];exact hK
  have hB3:(W.setCell ⟨w.heap.size+1,0,none⟩ (.string ⟨#[]⟩)).heap[w.heap.size+1]? = some (.cells #[.string ⟨#[]⟩] 9):=by
   simp [World.setCell,kF,hB1]
  have hS2:=iu (lX hS (a:=⟨w.heap.size+1,0,none⟩) (v:=.string ⟨#[]⟩) (by simp)) (by omega) hD2 rfl (o':=.deferred none)
  refine ⟨by simp,.inl ⟨_,_,rfl,run_takeDeferred hD2,?_⟩⟩
  have hB4:((W.setCell ⟨w.heap.size+1,0,none⟩ (.string ⟨#[]⟩)).putObj D (.deferred none)).heap[w.heap.size+1]? = some (.cells #[.string ⟨#[]⟩] 9):=by rw [World.putObj_heap_other (by omega)];exact hB3
  refine ⟨_,jC rfl _ _ _ rfl (Tryz.isAgg9 _) (dm hB4 _),_,rfl,hS2,?_⟩
  rw [hn]
  exact IRel.str _
 case stop =>
  rintro D c gY W hD hp ⟨rfl,hS,hB1⟩ hK
  gi_wp2
  have hS2:=iu hS (by omega) hK rfl (o':=.deferred none)
  refine ⟨by simp,.inl ⟨_,_,rfl,run_takeDeferred hK,?_⟩⟩
  have hB4:(W.putObj D (.deferred none)).heap[w.heap.size+1]? = some (.cells #[.string ⟨(ct op).toArray⟩] 9):=by rw [World.putObj_heap_other (by omega)];exact hB1
  exact ⟨_,jC rfl _ _ _ rfl (Tryz.isAgg9 _) (dm hB4 _),_,rfl,hS2,IRel.str _⟩
theorem nq {W:World} {b off:Nat} {c:Array Value} {t:TypeId} {fr:Nat×Nat} {v:Value} (h:W.heap[b]? = some (.cells c t fr)):(W.setCell ⟨b,off,none⟩ v).heap[b]? = some (.cells (c.setIfInBounds off v) t fr):=by
 simp [World.setCell,kF,h]
end
def Sy (s:List UInt8):List AV:=[.str s]
theorem Rw (s:List UInt8):Sy s=[.str s]:=rfl
attribute [go_sem] Rw
def kr (op:Int):Option Oc:=OC.find? (fun o=>o.op==op)
def M6 (op:Int):List UInt8:=((kr op).getD default).nm
def xh (op:Int):Int:=((kr op).getD default).im
def JY (op:Int):Bool:=(kr op).isSome
def xg (s p:List UInt8):Bool:=(List.range (s.length+1)).any fun i=>decide (i+p.length≤s.length)&&((s.drop i).take p.length==p)
def wR (s:List UInt8):Int:=if xg s [100,56]=true then 1 else if xg s [101,56]=true then 1 else if xg s [100,49,54]=true then 2 else if xg s [101,49,54]=true then 2 else
 if xg s [100,51,50]=true then 4 else if xg s [101,51,50]=true then 4 else if (s.drop 1).take 2=[51,50] then 4 else 8
def w9 (op:Int):Int:=if xh op≠17 then 0 else wR (M6 op)
def KN (w:Int):Int:=if w=2 then 1 else if w=4 then 2 else if w=8 then 3 else 0
def free (op:Int):Bool:=op==1||(op==2||(op==3||(op==5||op==11)))
def yP (op:Int):Int:=if free op=true then 0 else if JY op=true then 1 else 0
theorem rx {p:Int→List UInt8→Bool} (h:EN.all (fun x=>p x.1 x.2)=true) (op:Int):ct op=[]∨p op (ct op)=true:=by
 unfold ct
 cases hr:EN.find? (fun x=>x.1==op) with
 | none=>exact .inl rfl
 | some o =>
  have h1:=de.1 h o (List.mem_of_find?_eq_some hr)
  have h2:=List.find?_some hr
  simp only [beq_iff_eq] at h2
  rw [h2] at h1
  exact .inr h1
theorem sW (op:Int):(ct op).length<1000:=by
 rcases rx (p:=fun _ s=>decide (s.length<1000)) (by decide +kernel) op with h | h
 ·rw [h];decide
 ·exact of_decide_eq_true h
def FW (op:Int):Bool:=decide (op≥40)&&(decide (op≤62) && !(ct op==[]))
theorem CR (op:Int) (h:FW op=true):5≤(ct op).length:=by
 simp only [FW,dK,j6,mA,mz,ne_eq] at h
 rcases rx (p:=fun k s=>decide (40≤k→k≤62→5≤s.length)) (by decide +kernel) op with h1 | h1
 ·exact absurd h1 h.2.2
 ·exact (of_decide_eq_true h1) h.1 h.2.1
theorem rO (op:Int):aj Tryz.prog QQ [.int .i64 op] (.bool (!(ct op==[]))):=by
 refine ab (ic:=G3.body) aq Pe rfl rfl ?_
 simp only [go_sem,G3]
 refine aa (uO op) ?_
 simp only [go_sem]
 exact ak
theorem BP (op:Int):aj Tryz.prog QN [.int .i64 op] (.bool (FW op)):=by
 refine ab (ic:=xw.body) aq Pb rfl rfl ?_
 unfold FW
 by_cases h1:op≥40
 ·by_cases h2:op≤62
  ·simp only [go_sem,xw,aI h1,aI h2,jc]
   refine aa (rO op) ?_
   simp only [go_sem]
   exact ak
  ·simp only [go_sem,xw,aI h1,az h2,jc,kE]
   exact ak
 ·simp only [go_sem,xw,az h1,kE]
  exact ak
def RF (s:List UInt8):Int:=if Lib.contains (s.drop 4) [56]=true then 1 else if Lib.contains (s.drop 4) [49,54]=true then 2 else if Lib.contains (s.drop 4) [51,50]=true then 4 else if s.take 3=[105,51,50] then 4 else 8
def kB (op:Int):Int:=if FW op=true then RF (ct op) else 0
theorem BV (op:Int):aj Tryz.prog QR [.int .i64 op] (.int .i64 (kB op)):=by
 refine ab (ic:=G5.body) aq Pg rfl rfl ?_
 simp only [go_sem,G5]
 refine aa (BP op) ?_
 cases hac:FW op
 ·have r:kB op=0:=by rw [kB,hac];rfl
  rw [r]
  simp only [go_sem]
  exact ay
 ·have r:kB op=RF (ct op):=by rw [kB,hac];rfl
  have hl:=sW op
  have hl2:=CR op hac
  rw [r]
  simp only [go_sem]
  refine aa (uO op) ?_
  simp only [go_sem]
  generalize ct op=s at hl hl2
  obtain ⟨Inv,hInv⟩:∃Inv:Nat→Prop,Inv=fun i=>i≤3∧(0<i→Lib.contains (s.drop 4) [56]=false)∧(1<i→Lib.contains (s.drop 4) [49,54]=false)∧(2<i→Lib.contains (s.drop 4) [51,50]=false):=⟨_,rfl⟩
  refine an (fun i:Nat=>⟨[(11,.ms 11 1 0 3),(12,.int .i64 3),(13,.int .i64 i),(3,.str s),(2,.int .i64 0)],[(11,⟨3,1,[[.int .i64 8],[.int .i64 16],[.int .i64 32]],false⟩)]⟩) Inv (fun i=>3 - i) 0 (by rw [hInv];exact ⟨by decide,fun h=>absurd h (by decide),fun h=>absurd h (by decide),fun h=>absurd h (by decide)⟩) (Wk.of ?_ ?_) ?_
  ·simp only [go_sem];try simp
  ·simp only [go_sem];try simp
  intro i hInv1
  rw [hInv] at hInv1
  obtain ⟨hi,h1,h2,h3⟩:=hInv1
  have hd:(s.drop 4).length<4294967281:=by simp;omega
  have e4:(s.drop 4).take (s.length - 4)=s.drop 4:=jw (by simp)
  have hl4:4≤s.length:=by omega
  have c0:((0:Nat):Int)=0:=rfl
  have c1:((1:Nat):Int)=1:=rfl
  have c2:((2:Nat):Int)=2:=rfl
  have c3:((3:Nat):Int)=3:=rfl
  have ld:∀k:Nat,oz none 1 k 0 (some ⟨3,1,[[.int .i64 8],[.int .i64 16],[.int .i64 32]],false⟩)=(match k with | 0=>some (.int .i64 8) | 1=>some (.int .i64 16) | 2=>some (.int .i64 32) | _=>none):=fun k=>by
   rcases k with _ | _ | _ | k<;>rfl
  have ls:∀k:Nat,oz none 1 k 0 (some ⟨9,1,[[.str [56]],[.str [49,54]],[.str [51,50]]],false⟩)=(match k with | 0=>some (.str [56]) | 1=>some (.str [49,54]) | 2=>some (.str [51,50]) | _=>none):=fun k=>by
   rcases k with _ | _ | _ | k<;>rfl
  have q0:IntKind.i64.wrap ((8:Int).tdiv 16)=0:=by decide
  have q1:IntKind.i64.wrap ((16:Int).tdiv 16)=1:=by decide
  have q2:IntKind.i64.wrap ((32:Int).tdiv 16)=2:=by decide
  have p0:IntKind.i64.wrap ((8:Int).tdiv 8)=1:=by decide
  have p1:IntKind.i64.wrap ((16:Int).tdiv 8)=2:=by decide
  have p2:IntKind.i64.wrap ((32:Int).tdiv 8)=4:=by decide
  have s0:IntKind.i64.wrap ((0:Int)+1)=1:=by decide
  have s1:IntKind.i64.wrap ((1:Int)+1)=2:=by decide
  have s2:IntKind.i64.wrap ((2:Int)+1)=3:=by decide
  have t0:(0:Int).toNat=0:=rfl
  have t1:(1:Int).toNat=1:=rfl
  have t2:(2:Int).toNat=2:=rfl
  unfold RF
  rcases (show i=0∨i=1∨i=2∨i=3 by omega) with rfl | rfl | rfl | rfl
  ·simp only [go_sem,hl4,e4,c0,c1,c2,c3,aI (show (0:Int)<3 by decide),ld,ls,q0,q1,q2,t0,t1,t2]
   refine ⟨⟨by decide,by decide⟩,⟨by decide,by omega⟩,by decide,⟨by decide,by decide⟩,?_⟩
   refine aa (jY (s.drop 4) [56] hd) ?_
   cases hc:Lib.contains (s.drop 4) [56]
   ·simp only [go_sem]
    refine aC 1 (by rw [hInv];exact ⟨by decide,fun _=>hc,fun h=>absurd h (by decide),fun h=>absurd h (by decide)⟩) (show 3 - 1<3 - 0 by decide) (Wk.of ?_ ?_)
    ·simp only [go_sem,s0,s1,s2,c0,c1,c2,c3]
     try simp
    ·simp only [go_sem]
   ·simp only [go_sem,p0,p1,p2]
    exact ⟨by decide,by exact ay⟩
  ·rw [h1 (by decide)]
   simp only [go_sem,hl4,e4,c0,c1,c2,c3,aI (show (1:Int)<3 by decide),ld,ls,q0,q1,q2,t0,t1,t2]
   refine ⟨⟨by decide,by decide⟩,⟨by decide,by omega⟩,by decide,⟨by decide,by decide⟩,?_⟩
   refine aa (jY (s.drop 4) [49,54] hd) ?_
   cases hc:Lib.contains (s.drop 4) [49,54]
   ·simp only [go_sem]
    refine aC 2 (by rw [hInv];exact ⟨by decide,fun _=>h1 (by decide),fun _=>hc,fun h=>absurd h (by decide)⟩) (show 3 - 2<3 - 1 by decide) (Wk.of ?_ ?_)
    ·simp only [go_sem,s0,s1,s2,c0,c1,c2,c3]
     try simp
    ·simp only [go_sem]
   ·simp only [go_sem,p0,p1,p2]
    exact ⟨by decide,by exact ay⟩
  ·rw [h1 (by decide)]
   rw [h2 (by decide)]
   simp only [go_sem,hl4,e4,c0,c1,c2,c3,aI (show (2:Int)<3 by decide),ld,ls,q0,q1,q2,t0,t1,t2]
   refine ⟨⟨by decide,by decide⟩,⟨by decide,by omega⟩,by decide,⟨by decide,by decide⟩,?_⟩
   refine aa (jY (s.drop 4) [51,50] hd) ?_
   cases hc:Lib.contains (s.drop 4) [51,50]
   ·simp only [go_sem]
    refine aC 3 (by rw [hInv];exact ⟨by decide,fun _=>h1 (by decide),fun _=>h2 (by decide),fun _=>hc⟩) (show 3 - 3<3 - 2 by decide) (Wk.of ?_ ?_)
    ·simp only [go_sem,s0,s1,s2,c0,c1,c2,c3]
     try simp
    ·simp only [go_sem]
   ·simp only [go_sem,p0,p1,p2]
    exact ⟨by decide,by exact ay⟩
  ·rw [h1 (by decide),h2 (by decide),h3 (by decide)]
   have e5:((3:Int)).toNat=3:=rfl
   simp only [go_sem,c3,az (show ¬(3:Int)<3 by decide),List.drop_zero,e5]
   refine ⟨by omega,fun h=>?_,fun h=>?_⟩
   ·rw [bz (by simpa using h)]
    exact ay
   ·rw [aV (by simpa using h)]
    exact ay
def KM (w:Int):Int:=if w=1 then 0 else if w=2 then 1 else if w=4 then 2 else if w=8 then 3 else 0
def Kg:List (Int×Int):=[(37,9),(38,9),(64528,9),(64527,9),(64529,9),(64526,10),(64524,11),(64525,12),(63,13),(64,13),(64523,13),(64522,14),(64520,15),(64521,16)]
def tw (op:Int):Int:=match Kg.find? (fun p=>p.1==op) with
 | some p=>p.2
 | none=>0
theorem wZ (op:Int):aj Tryz.prog QO [.int .i64 op] (.int .i64 (tw op)):=by
 refine ab (ic:=iR.body) aq Pc rfl rfl ?_
 by_cases h0:op=37
 ·subst h0
  simp only [go_sem,iR]
  exact ay
 by_cases h1:op=38
 ·subst h1
  simp only [go_sem,iR]
  exact ay
 by_cases h2:op=64528
 ·subst h2
  simp only [go_sem,iR]
  exact ay
 by_cases h3:op=64527
 ·subst h3
  simp only [go_sem,iR]
  exact ay
 by_cases h4:op=64529
 ·subst h4
  simp only [go_sem,iR]
  exact ay
 by_cases h5:op=64526
 ·subst h5
  simp only [go_sem,iR]
  exact ay
 by_cases h6:op=64524
 ·subst h6
  simp only [go_sem,iR]
  exact ay
 by_cases h7:op=64525
 ·subst h7
  simp only [go_sem,iR]
  exact ay
 by_cases h8:op=63
 ·subst h8
  simp only [go_sem,iR]
  exact ay
 by_cases h9:op=64
 ·subst h9
  simp only [go_sem,iR]
  exact ay
 by_cases h10:op=64523
 ·subst h10
  simp only [go_sem,iR]
  exact ay
 by_cases h11:op=64522
 ·subst h11
  simp only [go_sem,iR]
  exact ay
 by_cases h12:op=64520
 ·subst h12
  simp only [go_sem,iR]
  exact ay
 by_cases h13:op=64521
 ·subst h13
  simp only [go_sem,iR]
  exact ay
 have r:tw op=0:=by
  simp only [tw,Kg,List.find?_cons,List.find?_nil,aw (fun e:(37:Int)=op=>h0 e.symm),aw (fun e:(38:Int)=op=>h1 e.symm),aw (fun e:(64528:Int)=op=>h2 e.symm),aw (fun e:(64527:Int)=op=>h3 e.symm),aw (fun e:(64529:Int)=op=>h4 e.symm),aw (fun e:(64526:Int)=op=>h5 e.symm),aw (fun e:(64524:Int)=op=>h6 e.symm),aw (fun e:(64525:Int)=op=>h7 e.symm),aw (fun e:(63:Int)=op=>h8 e.symm),aw (fun e:(64:Int)=op=>h9 e.symm),aw (fun e:(64523:Int)=op=>h10 e.symm),aw (fun e:(64522:Int)=op=>h11 e.symm),aw (fun e:(64520:Int)=op=>h12 e.symm),aw (fun e:(64521:Int)=op=>h13 e.symm)]
 rw [r]
 simp only [go_sem,iR,aw h0,aw h1,aw h2,aw h3,aw h4,aw h5,aw h6,aw h7,aw h8,aw h9,aw h10,aw h11,aw h12,aw h13]
 exact ay
def II:List (Int×Int):=[(2,1),(3,1),(4,1),(12,2),(13,2),(14,3),(16,4),(210,4),(17,5),(28,6),(32,7),(33,7),(34,7),(35,8),(36,8),(65,18),(66,19),(208,20)]
def rg (op:Int):Int:=match II.find? (fun p=>p.1==op) with
 | some p=>p.2
 | none=>if kB op>0 then 17 else tw op
theorem Nc (op:Int):aj Tryz.prog Mm [.int .i64 op] (.int .i64 (rg op)):=by
 refine ab (ic:=dR.body) aq Le rfl rfl ?_
 by_cases h0:op=2
 ·subst h0
  simp only [go_sem,dR]
  exact ay
 by_cases h1:op=3
 ·subst h1
  simp only [go_sem,dR]
  exact ay
 by_cases h2:op=4
 ·subst h2
  simp only [go_sem,dR]
  exact ay
 by_cases h3:op=12
 ·subst h3
  simp only [go_sem,dR]
  exact ay
 by_cases h4:op=13
 ·subst h4
  simp only [go_sem,dR]
  exact ay
 by_cases h5:op=14
 ·subst h5
  simp only [go_sem,dR]
  exact ay
 by_cases h6:op=16
 ·subst h6
  simp only [go_sem,dR]
  exact ay
 by_cases h7:op=210
 ·subst h7
  simp only [go_sem,dR]
  exact ay
 by_cases h8:op=17
 ·subst h8
  simp only [go_sem,dR]
  exact ay
 by_cases h9:op=28
 ·subst h9
  simp only [go_sem,dR]
  exact ay
 by_cases h10:op=32
 ·subst h10
  simp only [go_sem,dR]
  exact ay
 by_cases h11:op=33
 ·subst h11
  simp only [go_sem,dR]
  exact ay
 by_cases h12:op=34
 ·subst h12
  simp only [go_sem,dR]
  exact ay
 by_cases h13:op=35
 ·subst h13
  simp only [go_sem,dR]
  exact ay
 by_cases h14:op=36
 ·subst h14
  simp only [go_sem,dR]
  exact ay
 by_cases h15:op=65
 ·subst h15
  simp only [go_sem,dR]
  exact ay
 by_cases h16:op=66
 ·subst h16
  simp only [go_sem,dR]
  exact ay
 by_cases h17:op=208
 ·subst h17
  simp only [go_sem,dR]
  exact ay
 have r:rg op=if kB op>0 then 17 else tw op:=by
  simp only [rg,II,List.find?_cons,List.find?_nil,aw (fun e:(2:Int)=op=>h0 e.symm),aw (fun e:(3:Int)=op=>h1 e.symm),aw (fun e:(4:Int)=op=>h2 e.symm),aw (fun e:(12:Int)=op=>h3 e.symm),aw (fun e:(13:Int)=op=>h4 e.symm),aw (fun e:(14:Int)=op=>h5 e.symm),aw (fun e:(16:Int)=op=>h6 e.symm),aw (fun e:(210:Int)=op=>h7 e.symm),aw (fun e:(17:Int)=op=>h8 e.symm),aw (fun e:(28:Int)=op=>h9 e.symm),aw (fun e:(32:Int)=op=>h10 e.symm),aw (fun e:(33:Int)=op=>h11 e.symm),aw (fun e:(34:Int)=op=>h12 e.symm),aw (fun e:(35:Int)=op=>h13 e.symm),aw (fun e:(36:Int)=op=>h14 e.symm),aw (fun e:(65:Int)=op=>h15 e.symm),aw (fun e:(66:Int)=op=>h16 e.symm),aw (fun e:(208:Int)=op=>h17 e.symm)]
 rw [r]
 simp only [go_sem,dR,aw h0,aw h1,aw h2,aw h3,aw h4,aw h5,aw h6,aw h7,aw h8,aw h9,aw h10,aw h11,aw h12,aw h13,aw h14,aw h15,aw h16,aw h17]
 refine aa (BV op) ?_
 by_cases hw:kB op>0
 ·simp only [go_sem,aI hw,bz hw]
  exact ay
 ·simp only [go_sem,az hw,aV hw]
  refine aa (wZ op) ?_
  simp only [go_sem]
  exact ay
def yO (op:Int):Int:=if free op=true then 0 else if ct op=[] then 0 else 1
def Km:List (Int×Bool×Bool×Bool):=[(2,true,false,false),(3,true,false,false),(4,true,false,false),(7,true,false,false),(8,true,false,false),(9,true,false,false),(12,true,false,false),(16,true,false,false),(20,true,false,false),(5,true,true,false),(10,true,true,false),(11,true,true,false),(14,true,true,false),(15,true,true,false),(13,false,true,false),(17,true,true,true),(18,false,false,true),(19,false,false,true)]
def rU (i:Int):Bool×Bool×Bool:=match Km.find? (fun p=>p.1==i) with
 | some p=>p.2
 | none=>(false,false,false)
theorem J7 (i:Int):aj Tryz.prog Q2 [.int .i64 i] (.tup [.bool (rU i).1,.bool (rU i).2.1,.bool (rU i).2.2]):=by
 refine ab (ic:=gu.body) aq PI rfl rfl ?_
 by_cases h0:i=2
 ·subst h0
  simp only [go_sem,gu]
  exact ay
 by_cases h1:i=3
 ·subst h1
  simp only [go_sem,gu]
  exact ay
 by_cases h2:i=4
 ·subst h2
  simp only [go_sem,gu]
  exact ay
 by_cases h3:i=7
 ·subst h3
  simp only [go_sem,gu]
  exact ay
 by_cases h4:i=8
 ·subst h4
  simp only [go_sem,gu]
  exact ay
 by_cases h5:i=9
 ·subst h5
  simp only [go_sem,gu]
  exact ay
 by_cases h6:i=12
 ·subst h6
  simp only [go_sem,gu]
  exact ay
 by_cases h7:i=16
 ·subst h7
  simp only [go_sem,gu]
  exact ay
 by_cases h8:i=20
 ·subst h8
  simp only [go_sem,gu]
  exact ay
 by_cases h9:i=5
 ·subst h9
  simp only [go_sem,gu]
  exact ay
 by_cases h10:i=10
 ·subst h10
  simp only [go_sem,gu]
  exact ay
 by_cases h11:i=11
 ·subst h11
  simp only [go_sem,gu]
  exact ay
 by_cases h12:i=14
 ·subst h12
  simp only [go_sem,gu]
  exact ay
 by_cases h13:i=15
 ·subst h13
  simp only [go_sem,gu]
  exact ay
 by_cases h14:i=13
 ·subst h14
  simp only [go_sem,gu]
  exact ay
 by_cases h15:i=17
 ·subst h15
  simp only [go_sem,gu]
  exact ay
 by_cases h16:i=18
 ·subst h16
  simp only [go_sem,gu]
  exact ay
 by_cases h17:i=19
 ·subst h17
  simp only [go_sem,gu]
  exact ay
 have r:rU i=(false,false,false):=by
  simp only [rU,Km,List.find?_cons,List.find?_nil,aw (fun e:(2:Int)=i=>h0 e.symm),aw (fun e:(3:Int)=i=>h1 e.symm),aw (fun e:(4:Int)=i=>h2 e.symm),aw (fun e:(7:Int)=i=>h3 e.symm),aw (fun e:(8:Int)=i=>h4 e.symm),aw (fun e:(9:Int)=i=>h5 e.symm),aw (fun e:(12:Int)=i=>h6 e.symm),aw (fun e:(16:Int)=i=>h7 e.symm),aw (fun e:(20:Int)=i=>h8 e.symm),aw (fun e:(5:Int)=i=>h9 e.symm),aw (fun e:(10:Int)=i=>h10 e.symm),aw (fun e:(11:Int)=i=>h11 e.symm),aw (fun e:(14:Int)=i=>h12 e.symm),aw (fun e:(15:Int)=i=>h13 e.symm),aw (fun e:(13:Int)=i=>h14 e.symm),aw (fun e:(17:Int)=i=>h15 e.symm),aw (fun e:(18:Int)=i=>h16 e.symm),aw (fun e:(19:Int)=i=>h17 e.symm)]
 rw [r]
 simp only [go_sem,gu,aw h0,aw h1,aw h2,aw h3,aw h4,aw h5,aw h6,aw h7,aw h8,aw h9,aw h10,aw h11,aw h12,aw h13,aw h14,aw h15,aw h16,aw h17]
 exact ay
theorem Fr (n:Int):aj Tryz.prog MR [.int .i64 n] (.bool (decide (n≥0)&&decide (n<4294967296))):=by
 refine ab (ic:=Cs.body) aq Pi rfl rfl ?_
 by_cases h:n≥0
 ·simp only [go_sem,Cs,aI h,jc]
  exact ak
 ·simp only [go_sem,Cs,az h,kE]
  exact ak
section
def lU (n:Int):Bool:=decide (n≥0)&&decide (n<4294967296)
def Gz (n:Int):Bool:=decide (n≥1)&&decide (n≤4)
def Ku (k v z:Int):Bool:=if k=0 then (v==0)&&(z==0) else if k=1 then Gz v&&(z==0) else if k=2 then (v==0)&&lU z else false
theorem Fs (n:Int):aj Tryz.prog MR [.int .i64 n] (.bool (lU n)):=Fr n
attribute [local go_sem] FO fz
theorem Ng (n:Int):aj Tryz.prog Mf [.int .i64 n] (.bool (Gz n)):=by
 refine ab (ic:=tK.body) aq K1 rfl rfl ?_
 unfold Gz
 by_cases h:n≥1
 ·simp only [go_sem,tK,aI h,jc]
  exact ak
 ·simp only [go_sem,tK,az h,kE]
  exact ak
theorem Sw {a b:Int} (h:(a != b)=true):(a==b)=false:=by simpa using h
theorem Ss {a b:Int} (h:(a != b)=false):(a==b)=true:=by simpa using h
theorem Sq {b:Bool} (h:(!b)=true):b=false:=by cases b<;>first | rfl | cases h
theorem Sr {b:Bool} (h:(!b)=false):b=true:=by cases b<;>first | rfl | cases h
theorem BR (k v z:Int):aj Tryz.prog QS [.agg [.int .i64 k,.int .i64 v,.int .i64 z]] (.bool (Ku k v z)):=by
 refine ab (ic:=uV.body) aq Ph rfl rfl ?_
 unfold Ku
 by_cases h0:k=0
 ·subst h0
  rw [bz rfl]
  simp only [go_sem,uV]
  exact ay
 by_cases h1:k=1
 ·subst h1
  rw [aV h0,bz rfl]
  simp only [go_sem,uV]
  refine aa (Ng v) ?_
  cases Gz v
  ·simp only [go_sem]
   exact ay
  ·simp only [go_sem]
   exact ay
 by_cases h2:k=2
 ·subst h2
  rw [aV h0,aV h1,bz rfl]
  simp only [go_sem,uV]
  refine ⟨fun h=>?_,fun h=>?_⟩
  ·refine aa (Fs z) ?_
   rw [h]
   simp only [go_sem]
   exact ay
  ·rw [h]
   exact ay
 rw [aV h0,aV h1,aV h2]
 simp only [go_sem,uV,aw h0,aw h1,aw h2]
 exact ay
theorem C9 {f:Int→Bool} {l:List Int} (h:∀k,k<l.length→f (ac l k)=true):l.all f=true:=by
 rw [de]
 intro x hx
 obtain ⟨k,hk,rfl⟩:=List.mem_iff_getElem.1 hx
 have:=h k hk
 rwa [bD hk] at this
theorem C8 {f:Int→Bool} {l:List Int} {k:Nat} (hk:k<l.length) (h:f (ac l k)=false):l.all f=false:=by
 rw [List.all_eq_false]
 exact ⟨ac l k,by rw [bD hk];exact List.getElem_mem hk,by rw [h];decide⟩
end
section
def ma (i:Int) (x:cS):Bool :=
 if i=1 then Ku x.k x.v x.x else if i=6 then ((x.ty.length:Int)==1)&&Gz (ac x.ty 0) else if i=17 then decide (x.a≤63) else if i=20 then (x.a==3)||(x.a==4) else x.lb.all lU
def NL (i:Int) (kn:Bool) (u:Bool×Bool×Bool) (x:cS):Bool :=
 kn&&((u.1||(x.a==0))&&((u.2.1||(x.b==0))&&((u.2.2||(x.n==0))&&(lU x.a&&(lU x.b &&
 (((i==19) || !decide (x.n≥4294967296))&&(((i==1)||((x.k==0)&&((x.v==0)&&(x.x==0))))&&(((i==6) || !decide ((x.ty.length:Int)>0))&&(((i==3) || !decide ((x.lb.length:Int)>0))&&ma i x)))))))))
def CL:List (Bool×Bool×Bool×Bool×Bool×Bool×Bool×Bool×Bool) :=
 [(false,false,false,true,false,false,false,false,false),
  (true,false,false,false,true,false,false,false,false),
  (false,false,false,false,false,true,false,false,false),
  (true,true,true,false,false,false,true,false,false),
  (false,false,true,false,false,false,false,true,false),
  (true,false,false,false,false,false,false,false,true),
  (true,false,false,false,false,false,false,false,false),
  (true,true,false,false,false,false,false,false,false),
  (false,true,false,false,false,false,false,false,false),
  (false,false,true,false,false,false,false,false,false),
  (false,false,false,false,false,false,false,false,false)]
theorem R7 (i:Int) (hi:0≤i∧i≤20):((rU i).1,(rU i).2.1,(rU i).2.2,(i==1),(i==3),(i==6),(i==17),(i==19),(i==20))∈CL:=by
 obtain ⟨h1,h2⟩:=hi
 obtain ⟨n,rfl⟩:=Int.eq_ofNat_of_zero_le h1
 have hn:n≤20:=by omega
 clear h1 h2
 have:∀n:Fin 21,((rU (n.val:Nat)).1,(rU (n.val:Nat)).2.1,(rU (n.val:Nat)).2.2,(((n.val:Nat):Int)==1),(((n.val:Nat):Int)==3),(((n.val:Nat):Int)==6),(((n.val:Nat):Int)==17),(((n.val:Nat):Int)==19),(((n.val:Nat):Int)==20))∈CL:=by decide +kernel
 exact this ⟨n,by omega⟩
attribute [local go_sem] FO fz dc
theorem BU (x:cS) (i:Int) (hi:0≤i∧i≤20) (him:rg x.op=i) (hl:x.lb.length≤9223372036854775807):aj Tryz.prog oB [kR x] (.bool (NL i (!(ct x.op==[])) (rU i) x)):=by
 refine ab (ic:=G4.body) aq Pf rfl rfl ?_
 have a1:=Nc x.op
 rw [him] at a1
 have a2:=J7 i
 have a3:=rO x.op
 have hc:=R7 i hi
 unfold NL
 generalize (rU i).1=ua at hc a2
 generalize (rU i).2.1=ub at hc a2
 generalize (rU i).2.2=un at hc a2
 generalize h1:(i==1)=k1 at hc
 generalize h3:(i==3)=k3 at hc
 generalize h6:(i==6)=k6 at hc
 generalize h17:(i==17)=k17 at hc
 generalize h19:(i==19)=k19 at hc
 generalize h20:(i==20)=k20 at hc
 simp only [CL,cj,List.not_mem_nil,or_false,Prod.mk.injEq] at hc
 rcases hc with ⟨rfl,rfl,rfl,rfl,rfl,rfl,rfl,rfl,rfl⟩ | ⟨rfl,rfl,rfl,rfl,rfl,rfl,rfl,rfl,rfl⟩ | ⟨rfl,rfl,rfl,rfl,rfl,rfl,rfl,rfl,rfl⟩ | ⟨rfl,rfl,rfl,rfl,rfl,rfl,rfl,rfl,rfl⟩ | ⟨rfl,rfl,rfl,rfl,rfl,rfl,rfl,rfl,rfl⟩ | ⟨rfl,rfl,rfl,rfl,rfl,rfl,rfl,rfl,rfl⟩ | ⟨rfl,rfl,rfl,rfl,rfl,rfl,rfl,rfl,rfl⟩ | ⟨rfl,rfl,rfl,rfl,rfl,rfl,rfl,rfl,rfl⟩ | ⟨rfl,rfl,rfl,rfl,rfl,rfl,rfl,rfl,rfl⟩ | ⟨rfl,rfl,rfl,rfl,rfl,rfl,rfl,rfl,rfl⟩ | ⟨rfl,rfl,rfl,rfl,rfl,rfl,rfl,rfl,rfl⟩
 all_goals
  have d1:(i != 1) = !(i==1):=rfl
  have d3:(i != 3) = !(i==3):=rfl
  have d6:(i != 6) = !(i==6):=rfl
  have d19:(i != 19) = !(i==19):=rfl
  rw [h1] at d1
  rw [h3] at d3
  rw [h6] at d6
  rw [h19] at d19
  simp only [h1,h3,h6,h19,qq,qo,jc]
  simp only [go_sem,G4]
  refine aa (a1) ?_
  simp only [go_sem]
  refine aa (a2) ?_
  simp only [go_sem]
  refine aa (a3) ?_
  cases hk:!(ct x.op==[])
  ·simp only [go_sem]
   exact ay
  rw [jc]
  simp only [go_sem]
  iterate 3 (first | (refine ⟨fun h=>?_,fun h=>?_⟩
                      ·rw [Sw h,kE]
                       exact ay
                      rw [Ss h,jc]) | skip)
  refine aa (Fs x.a) ?_
  cases hA:lU x.a
  ·rw [kE]
   simp only [go_sem]
   exact ay
  rw [jc]
  simp only [go_sem]
  refine aa (Fs x.b) ?_
  cases hB:lU x.b
  ·rw [kE]
   simp only [go_sem]
   exact ay
  rw [jc]
  simp only [go_sem,d1,d3,d6,d19,h1,h6,h17,h20,dO,eu]
  iterate 4 (first | (refine ⟨fun h=>?_,fun h=>?_⟩
                      ·(first | rw [aI h,dO,kE] | rw [Sq h,kE])
                       exact ay
                      (first | rw [az h,eu,jc] | rw [Sr h,jc])) | skip)
 ·have r:ma i x=Ku x.k x.v x.x:=by rw [ma,bz (eq_of_beq h1)]
  rw [r]
  refine aa (BR x.k x.v x.x) ?_
  simp only [go_sem]
  exact ay
 rotate_left
 ·have r:ma i x=(((x.ty.length:Int)==1)&&Gz (ac x.ty 0)):=by rw [ma,aV (ne_of_beq_false h1),bz (eq_of_beq h6)]
  rw [r]
  refine ⟨fun h=>⟨by decide,?_,?_⟩,fun h=>?_⟩
  ·have:=eq_of_beq h
   omega
  ·rw [h,jc]
   refine aa (Ng (ac x.ty 0)) ?_
   simp only [go_sem]
   exact ay
  ·rw [h,kE]
   exact ay
 ·have r:ma i x=decide (x.a≤63):=by rw [ma,aV (ne_of_beq_false h1),aV (ne_of_beq_false h6),bz (eq_of_beq h17)]
  rw [r]
  exact ay
 rotate_left
 ·have r:ma i x=((x.a==3)||(x.a==4)):=by rw [ma,aV (ne_of_beq_false h1),aV (ne_of_beq_false h6),aV (ne_of_beq_false h17),bz (eq_of_beq h20)]
  rw [r]
  refine ⟨fun h=>?_,fun h=>?_⟩
  ·rw [h,qq]
   exact ay
  ·rw [h,qo]
   exact ay
 all_goals
  have r:ma i x=x.lb.all lU:=by rw [ma,aV (ne_of_beq_false h1),aV (ne_of_beq_false h6),aV (ne_of_beq_false h17),aV (ne_of_beq_false h20)]
  rw [r]
  refine an (fun i:Nat=>⟨[(133,.sl 1 (x.lb.map dF)),(134,.int .i64 x.lb.length),(135,.int .i64 i)],[]⟩) (fun i=>i≤x.lb.length∧∀k,k<i→lU (ac x.lb k)=true) (fun i=>x.lb.length - i) 0 ⟨cC _,fun k hk=>absurd hk (Nat.not_lt_zero k)⟩ (Wk.of ?_ ?_) ?_
  ·simp only [go_sem];try simp
  ·trivial
  rintro j ⟨hj,hk⟩
  by_cases q1:(j:Int)<(x.lb.length:Int)
  ·have e8:=wi (n:=(j:Int)+1) (by omega) (by omega)
   simp only [go_sem,aI q1]
   refine ⟨by omega,q1,?_⟩
   refine aa (Fs (ac x.lb j)) ?_
   cases q2:lU (ac x.lb j)
   ·rw [C8 (by omega) q2]
    simp only [go_sem]
    exact ay
   ·simp only [go_sem]
    refine aC (j+1) ⟨by omega,fun k hk2=>?_⟩ (show x.lb.length - (j+1)<x.lb.length - j by omega) (Wk.of ?_ ?_)
    ·rcases cB k j with h4 | h4
     ·exact hk k h4
     ·obtain rfl:k=j:=by omega
      exact q2
    ·simp only [go_sem,e8]
     try simp
    ·simp only [go_sem]
  ·rw [C9 (fun k hk2=>hk k (by omega))]
   simp only [go_sem,az q1]
   exact ay
end
def M_ (i:Int) (x:cS):Bool :=
 if i=0 then (x.a==0)&&((x.b==0)&&(x.n==0)) else
 if i=1 then (x.a==0)&&((x.b==0)&&((x.n==0)&&Ku x.k x.v x.x)) else
 if i=3 then lU x.a&&((x.b==0)&&((x.n==0)&&x.lb.all lU)) else
 if i=6 then (x.a==0)&&((x.b==0)&&((x.n==0)&&(((x.ty.length:Int)==1)&&Gz (ac x.ty 0)))) else
 if i=13 then (x.a==0)&&(lU x.b&&(x.n==0)) else
 if i=17 then decide (x.a≥0)&&(decide (x.a≤63)&&(lU x.b&&decide (x.n<4294967296))) else
 if i=18 then (x.a==0)&&((x.b==0)&&decide (x.n<4294967296)) else
 if i=19 then (x.a==0)&&(x.b==0) else
 if i=20 then ((x.a==3)||(x.a==4))&&((x.b==0)&&(x.n==0)) else
 if i=5∨i=10∨i=11∨i=14∨i=15 then lU x.a&&(lU x.b&&(x.n==0)) else
 lU x.a&&((x.b==0)&&(x.n==0))
def Rf (i:Int) (kn:Bool) (x:cS):Bool :=
 kn&&(((i==1)||((x.k==0)&&((x.v==0)&&(x.x==0))))&&(((i==3) || !decide ((x.lb.length:Int)>0))&&(((i==6) || !decide ((x.ty.length:Int)>0))&&M_ i x)))
theorem nX (op:Int):ct op=M6 op:=by
 have h:∀l:List Oc,(match (l.map fun o=>(o.op,o.nm)).find? (fun x=>x.1==op) with | some o=>o.2 | none=>[])=((l.find? (fun o=>o.op==op)).getD default).nm:=by
  intro l
  induction l with
  | nil=>rfl
  | cons a l ih =>
   simp only [dP,List.find?_cons]
   cases ha:a.op==op
   ·exact ih
   ·rfl
 exact h OC
theorem rJ {op:Int} (h:kr op=none):M6 op=[]∧xh op=0∧JY op=false:=by
 simp only [M6,xh,JY,h]
 exact ⟨rfl,rfl,rfl⟩
theorem BJ {p:Int→Bool} (h:OC.all (fun o=>p o.op)=true) {op:Int} (hr:kr op≠none):p op=true:=by
 cases hf:kr op with
 | none=>exact absurd hf hr
 | some o =>
  have h1:=de.1 h o (List.mem_of_find?_eq_some hf)
  have h2:=List.find?_some hf
  simp only [beq_iff_eq] at h2
  rw [h2] at h1
  exact h1
theorem Np (op:Int):(!(ct op==[]))=JY op∧ct op=M6 op∧rg op=xh op∧kB op=w9 op∧KM (kB op)=KN (w9 op)∧yO op=yP op:=by
 by_cases h:kr op=none
 ·obtain ⟨h1,h2,h3⟩:=rJ h
  have hn:ct op=[]:=by rw [nX,h1]
  have hw:kB op=0:=by
   have:FW op=false:=by simp [FW,hn]
   rw [kB,this];rfl
  have hw2:w9 op=0:=by rw [w9,h2];rfl
  have hi:rg op=0:=by
   have ht:∀(l:List (Int×Int)),l.all (fun p=>(kr p.1).isSome)=true→l.find? (fun p=>p.1==op)=none:=by
    intro l hl
    rw [List.find?_eq_none]
    intro p hp hq
    have:=de.1 hl p hp
    simp only [beq_iff_eq] at hq
    rw [hq,h] at this
    cases this
   have hs:tw op=0:=by rw [tw,ht Kg (by decide +kernel)]
   rw [rg,ht II (by decide +kernel),hw,hs];rfl
  refine ⟨by rw [hn,h3];rfl,nX op,by rw [hi,h2],by rw [hw,hw2],by rw [hw,hw2];rfl,?_⟩
  rw [yO,yP,hn,h3];rfl
 ·have:=BJ (p:=fun op=>(!(ct op==[]))==JY op&&rg op==xh op&&kB op==w9 op&&KM (kB op)==KN (w9 op)&&yO op==yP op) (by decide +kernel) h
  simp only [dK,beq_iff_eq] at this
  obtain ⟨⟨⟨⟨h1,h2⟩,h3⟩,h4⟩,h5⟩:=this
  exact ⟨h1,nX op,h2,h3,h4,h5⟩
theorem M3 (i:Int) (hi:0≤i∧i≤20) (kn:Bool) (x:cS) (hn:0≤x.n):NL i kn (rU i) x=Rf i kn x:=by
 obtain ⟨op,a,b,n,k,v,z,ty,lb⟩:=x
 replace hn:0≤n:=hn
 have hal:¬((lb.length:Int)>0)→lb.all lU=true:=fun h=>by
  cases lb with
  | nil=>rfl
  | cons y l=>simp at h
 unfold NL Rf ma M_
 simp only
 generalize lb.all lU=al at hal
 generalize (lb.length:Int)=ll at hal
 generalize Gz (ac ty 0)=vv
 generalize (ty.length:Int)=tl
 generalize Ku k v z=bb
 generalize ((k==0)&&((v==0)&&(z==0)))=kk
 have ea:a=0→lU a=true:=fun h=>by subst h;decide
 have eb:b=0→lU b=true:=fun h=>by subst h;decide
 have ec:a=3∨a=4→lU a=true:=fun h=>by rcases h with rfl | rfl<;>decide
 have ed:lU a=true∧a≤63↔a≥0∧a≤63:=by
  simp only [lU,dK,j6]
  omega
 generalize lU a=xa at ea ec ed
 generalize lU b=xb at eb
 rcases (show i=0∨i=1∨i=2∨i=3∨i=4∨i=5∨i=6∨i=7∨i=8∨i=9∨i=10∨i=11∨i=12∨i=13∨i=14∨i=15∨i=16∨i=17∨i=18∨i=19∨i=20 by omega) with rfl | rfl | rfl | rfl | rfl | rfl | rfl | rfl | rfl | rfl | rfl | rfl | rfl | rfl | rfl | rfl | rfl | rfl | rfl | rfl | rfl
 all_goals
  simp only [rU,Km,List.find?_cons,List.find?_nil,Int.reduceBEq,Int.reduceEq,fv,j8,qq,qo,jc,kE,false_or,or_false,or_true,true_or,or_self]
  rw [Bool.eq_iff_iff]
  simp only [dK,oG,beq_iff_eq,j6,mA,decide_eq_false_iff_not]
  grind
theorem uk (op:Int):0≤xh op∧xh op≤20:=by
 by_cases h:kr op=none
 ·rw [(rJ h).2.1];decide
 ·have:=BJ (p:=fun op=>decide (0≤xh op)&&decide (xh op≤20)) (by decide +kernel) h
  simpa using this
def M2 (x:cS):Bool:=Rf (xh x.op) (JY x.op) x
theorem Gj (x:cS) (h:FB x):aj Tryz.prog oB [kR x] (.bool (M2 x)):=by
 obtain ⟨h1,h2,h3⟩:=h
 obtain ⟨t1,_,t3,_⟩:=Np x.op
 have c:=BU x (xh x.op) (uk x.op) t3 (by omega)
 rw [t1,M3 (xh x.op) (uk x.op) (JY x.op) x h3] at c
 exact c
section
def NK (t:Int):Bool:=(t==1)||(t==2)
def Gh (t:Int):Bool:=(t==3)||(t==4)
def qt (t:Int):Bool:=NK t||Gh t
def Ky (l:Lm) (most:Int):Bool:=if l.mn<0∨l.mn>most then false else if l.hs=false then l.mx==0 else decide (l.mn≤l.mx)&&decide (l.mx≤most)
def kA (l:List Int):Bool:=l.all qt
def uF (s:List UInt8):Int:=if s.length>64 then 6 else if uv s=false then 9 else 0
def Lw (x:Ft):Int:=if x.ps.length>8∨x.rs.length>8 then 6 else if kA x.ps=false∨kA x.rs=false then 12 else 0
def KA (x:Tb):Int:=if Gh x.e=false then 12 else if Ky x.l 1024=false then 20 else 0
def Kz (l:Lm):Int:=if Ky l 256=false then 20 else 0
def Kv (g:Gl):Int:=if qt g.v=false then 12 else 0
def ta (P:cS→Bool):Nat→List cS→Int×Int
 | _,[]=>(0,0)
 | i,x :: r=>if P x=false then ((i:Int),10) else if x.lb.length>64 then ((i:Int),6) else ta P (i+1) r
def iN (P:cS→Bool) (l:List cS):Int×Int:=if l.length>2048 then (2048,6) else ta P 0 l
attribute [local go_sem] fz bq cz cA
theorem L1 (t:Int):aj Tryz.prog Mn [.int .i64 t] (.bool (NK t)):=by
 refine ab (ic:=tN.body) aq Lf rfl rfl ?_
 unfold NK
 cases h:(t==1)
 ·simp only [go_sem,tN,h]
  exact aE [] (by simp only [go_sem,qo]) (by first | rfl | simp [go_sem,ca])
 ·simp only [go_sem,tN,h]
  exact aE [] (by simp only [go_sem,qq]) (by first | rfl | simp [go_sem,ca])
theorem AQ (t:Int):aj Tryz.prog Mo [.int .i64 t] (.bool (Gh t)):=by
 refine ab (ic:=tO.body) aq Lg rfl rfl ?_
 unfold Gh
 cases h:(t==3)
 ·simp only [go_sem,tO,h]
  exact aE [] (by simp only [go_sem,qo]) (by first | rfl | simp [go_sem,ca])
 ·simp only [go_sem,tO,h]
  exact aE [] (by simp only [go_sem,qq]) (by first | rfl | simp [go_sem,ca])
theorem F7 (t:Int):aj Tryz.prog Mp [.int .i64 t] (.bool (qt t)):=by
 refine ab (ic:=xq.body) aq Lh rfl rfl ?_
 have c1:=L1 t
 have c2:=AQ t
 unfold qt
 simp only [go_sem,xq]
 refine aa (c1) ?_
 cases NK t
 ·simp only [go_sem]
  refine aa (c2) ?_
  simp only [go_sem]
  exact aE [] (by simp only [go_sem,qo]) (by first | rfl | simp [go_sem,ca])
 ·simp only [go_sem]
  exact aE [] (by simp only [go_sem,qq]) (by first | rfl | simp [go_sem,ca])
theorem EJ (t:Int):aj Tryz.prog A8 [.int .i64 t] (.bool (!qt t)):=by
 refine ab (ic:=Hk.body) aq PF rfl rfl ?_
 simp only [go_sem,Hk]
 refine aa (F7 t) ?_
 simp only [go_sem]
 exact ak
theorem L0 (l:List Int) (hl:l.length≤9223372036854775807):∃r:Int,aj Tryz.prog RP [.sl 1 (l.map dF),.fn A8 []] (.int .i64 r)∧(kA l=true→r = -1)∧(kA l=false→0≤r):=by
 have key:∀r:Int,(∀i:Nat,i≤l.length→(∀k,k<i→qt (ac l k)=true)→(i<l.length→qt (ac l i)=false→r=i)∧(i=l.length→r = -1))→aj Tryz.prog RP [.sl 1 (l.map dF),.fn A8 []] (.int .i64 r):=fun r hr=>by
  refine ab (ic:=N2.body) aq R2 rfl rfl ?_
  simp only [go_sem,N2]
  refine an (fun j:Nat=>⟨[(8,.int .i64 j),(7,.int .i64 l.length),(0,.sl 1 (l.map dF)),(1,.fn A8 [])],[]⟩) (fun j=>j≤l.length∧∀k,k<j→qt (ac l k)=true) (fun j=>l.length - j) 0 ⟨cC _,fun k hk=>by omega⟩ (Wk.of ?_ ?_) ?_
  ·simp only [go_sem];try simp
  ·simp only [go_sem]
  rintro j ⟨hj,hx⟩
  obtain ⟨r1,r2⟩:=hr j hj hx
  by_cases h1:(j:Int)<(l.length:Int)
  ·have hj':j<l.length:=by omega
   have e8:=dz hj' (by omega)
   have cc:=EJ (ac l j)
   cases hb:qt (ac l j)
   ·rw [hb] at cc
    rw [r1 hj' hb]
    simp only [go_sem,aI h1]
    refine ⟨by omega,h1,?_⟩
    refine ⟨by kernel_rfl,?_⟩
    refine aa (cc) ?_
    simp only [go_sem]
    exact ak
   ·rw [hb] at cc
    simp only [go_sem,aI h1]
    refine ⟨by omega,h1,?_⟩
    refine ⟨by kernel_rfl,?_⟩
    refine aa (cc) ?_
    simp only [go_sem]
    refine aC (j+1) ⟨show j+1≤l.length by omega,fun k hk=>?_⟩ (show l.length - (j+1)<l.length - j by omega) (Wk.of ?_ ?_)
    ·rcases cB k j with h | h
     ·exact hx k h
     ·rw [show k=j by omega];exact hb
    ·simp only [go_sem,e8];try simp
    ·simp only [go_sem]
  ·rw [r2 (by omega)]
   simp only [go_sem,az h1]
   exact ak
 have PW:(∀k,k<l.length→qt (ac l k)=true)∨∃j,j<l.length∧qt (ac l j)=false∧∀k,k<j→qt (ac l k)=true:=by
  have aux:∀n,n≤l.length→(∀k,k<n→qt (ac l k)=true)∨∃j,j<l.length∧qt (ac l j)=false∧∀k,k<j→qt (ac l k)=true:=fun n=>by
   induction n with
   | zero=>exact fun _=>.inl fun k hk=>by omega
   | succ n ih =>
    intro hn
    rcases ih (by omega) with h | h
    ·cases hb:qt (ac l n)
     ·exact .inr ⟨n,by omega,hb,h⟩
     ·refine .inl fun k hk=>?_
      rcases cB k n with q | q
      ·exact h k q
      ·rw [show k=n by omega];exact hb
    ·exact .inr h
  exact aux l.length (aB _)
 have all_t:(∀k,k<l.length→qt (ac l k)=true)→kA l=true:=fun h=>by
  unfold kA
  rw [de]
  intro x hx
  obtain ⟨i,hi,rfl⟩:=List.getElem_of_mem hx
  have:=h i hi
  rwa [bD hi] at this
 rcases PW with h | ⟨j,hj,hb,h⟩
 ·refine ⟨-1,key (-1) fun i hi hk=>⟨fun q qb=>?_,fun _=>rfl⟩,fun _=>rfl,fun q=>?_⟩
  ·rw [h i q] at qb;cases qb
  ·rw [all_t h] at q;cases q
 ·refine ⟨(j:Int),key (j:Int) fun i hi hk=>⟨fun q qb=>?_,fun q=>?_⟩,fun q=>?_,fun _=>by omega⟩
  ·rcases cB i j with z | z
   ·rw [h i z] at qb;cases qb
   ·rcases cB j i with z2 | z2
    ·rw [hk j z2] at hb;cases hb
    ·rw [show i=j by omega]
  ·rw [hk j (by omega)] at hb;cases hb
  ·unfold kA at q
   rw [de] at q
   have:=q _ (List.getElem_mem hj)
   rw [bD hj] at hb
   rw [hb] at this;cases this
theorem I6 (l:List Int) (hl:l.length≤9223372036854775807):aj Tryz.prog Si [.sl 1 (l.map dF),.fn A8 []] (.bool (!kA l)):=by
 obtain ⟨r,hr,h1,h2⟩:=L0 l hl
 refine ab (ic:=Ny.body) aq RX rfl rfl ?_
 cases hb:kA l
 ·simp only [go_sem,Ny]
  refine aa (hr) ?_
  simp only [go_sem,aI (show r≥0 from h2 hb)]
  exact aE [] (by simp only [go_sem,eu]) (by first | rfl | simp [go_sem,ca])
 ·simp only [go_sem,Ny]
  refine aa (hr) ?_
  simp only [go_sem,az (show ¬r≥0 by rw [h1 hb];decide)]
  exact aE [] (by simp only [go_sem,dO]) (by first | rfl | simp [go_sem,ca])
theorem p5 (l:List Int) (hl:l.length≤9223372036854775807):aj Tryz.prog Ml [.sl 1 (l.map dF)] (.bool (kA l)):=by
 refine ab (ic:=xp.body) aq Lb rfl rfl ?_
 simp only [go_sem,xp]
 refine aa (I6 l hl) ?_
 simp only [go_sem,Bool.not_not]
 exact ak
theorem ji (i:Int):aj Tryz.prog Q4 [.int .i64 i] (.bool (r9 i)):=by
 refine ab (ic:=Ct.body) aq PK rfl rfl ?_
 unfold r9
 by_cases h:(0:Int)≤i
 ·simp only [go_sem,Ct,aI (show i≥0 from h)]
  exact aE [] (by simp only [go_sem,aI h,jc]) (by first | rfl | simp [go_sem,ca])
 ·simp only [go_sem,Ct,az (show ¬i≥0 from h)]
  exact aE [] (by simp only [go_sem,az h,kE]) (by first | rfl | simp [go_sem,ca])
theorem LY (x:Ft) (h:NN x):aj Tryz.prog QM [.agg (bQ x)] (.int .i64 (Lw x)):=by
 refine ab (ic:=xu.body) aq Pa rfl rfl ?_
 have c1:=p5 x.ps (by have:=h.1;omega)
 have c2:=p5 x.rs (by have:=h.2;omega)
 unfold Lw
 by_cases q1:(x.ps.length:Int)>8
 ·rw [bz (.inl (by omega))]
  simp only [go_sem,xu,aI q1]
  exact ak
 by_cases q2:(x.rs.length:Int)>8
 ·rw [bz (.inr (by omega))]
  simp only [go_sem,xu,az q1,aI q2]
  exact ak
 rw [aV (by omega)]
 simp only [go_sem,xu,az q1,az q2]
 refine aa (c1) ?_
 cases kA x.ps
 ·simp only [go_sem]
  exact aE [] (by simp only [go_sem];try rfl) (by rfl)
 simp only [go_sem]
 refine aa (c2) ?_
 cases kA x.rs
 ·simp only [go_sem]
  exact aE [] (by simp only [go_sem];try rfl) (by rfl)
 ·simp only [go_sem]
  exact aE [] (by simp only [go_sem];try rfl) (by rfl)
end
section
structure Fa where
 p:Int
 i:Int
 l:Int
 c:Int
def ck (F:Fa):ah:=⟨137,4,[[.int .i64 F.p,.int .i64 F.i,.int .i64 F.l,.int .i64 F.c]],true⟩
def kf (F:Fa) (p i l e:Int):Fa:=if F.c=0∧e≠0 then ⟨p,i,l,e⟩ else F
def CM (f:FuncId) (rest:List AV) (F F':Fa):Prop:=br Tryz.prog f (.mp 1000 4 0 0 :: rest) [(1000,ck F)] (fun id=>1000≤id∧id<2000) (fun r' σ'=>r' = .tup []∧σ'=[(1000,ck F')])
attribute [local go_sem] fz ck bq ce bj cA cz bK cy bB bv aQ bn aW
theorem sU (F:Fa) (p i l e:Int):CM Je [.int .i64 p,.int .i64 i,.int .i64 l,.int .i64 e] F (kf F p i l e):=by
 refine c_ (ic:=xr.body) aq OV rfl rfl ?_
 unfold kf
 by_cases h1:F.c=0
 ·by_cases h2:e=0
  ·rw [aV (by simp [h2])]
   simp only [go_sem,xr,aZ h1,bu h2]
   exact tY [] _ [(1000,ck F)] ⟨rfl,rfl⟩
  ·rw [bz ⟨h1,h2⟩]
   simp only [go_sem,xr,aZ h1,cm h2]
   exact tY [] _ [(1000,ck ⟨p,i,l,e⟩)] ⟨rfl,rfl⟩
 ·rw [aV (fun q=>h1 q.1)]
  simp only [go_sem,xr,aw h1]
  exact tY [] _ [(1000,ck F)] ⟨rfl,rfl⟩
theorem uH {α β:Type} [Inhabited α] [Inhabited β] {f:α→β} {l:List α} {i:Nat} (h:i<l.length):ac (l.map f) i=f (ac l i):=by
 rw [bD (by simpa using h),bD h,List.getElem_map]
def F3 (n:Int):Nat→List (Int×Int)→Fa→Fa
 | _,[],F=>F
 | i,r :: l,F=>if F.c≠0 then F else F3 n (i+1) l (kf F n i r.1 r.2)
def dn (n most imp:Int) (res:List (Int×Int)) (F:Fa):Fa :=
 F3 n 0 res (if IntKind.i64.wrap ((res.length:Int)+imp)>most then kf F n (if 0<IntKind.i64.wrap (most - imp) then IntKind.i64.wrap (most - imp) else 0) 0 6 else F)
theorem Iu {n:Int} {l:List (Int×Int)} {i:Nat} (h:i<l.length) (F:Fa) (hF:F.c=0):F3 n i (l.drop i) F=F3 n (i+1) (l.drop (i+1)) (kf F n i (ac l i).1 (ac l i).2):=by
 rw [pK h,F3,aV (by simp [hF])]
theorem Iv {n:Int} {l:List (Int×Int)} {i:Nat} (F:Fa) (hF:F.c≠0):F3 n i l F=F:=by
 cases l with
 | nil=>rfl
 | cons r l=>rw [F3,bz hF]
theorem LD {f:FuncId} (h:bc Tryz.prog f=true):f<4000000:=cd (by kernel_rfl) h
def NM (t st:Nat) (z:List AV):aS :=
 (.seq (.seq (.reg [mv 16 2,
 o0 17 (.len (.s 16)),
 mv 18 4,
 o0 19 (.bin .add (.s 17) (.s 18)),
 mv 20 3,
 o0 21 (.bin .gtr (.s 19) (.s 20))] [16,17,18,19,20])
 (.cond (.s 21)
 (.reg [mv 22 0,
 mv 23 1,
 mv 24 3,
 mv 25 4,
 o0 26 (.bin .sub (.s 24) (.s 25)),
 o0 27 (.mnx true (.c (.int .i64 0)) (.s 26)),
 o0 28 (.call Je [(.s 22),(.s 23),(.s 27),(.c (.int .i64 0)),(.c (.int .i64 6))])] [22,23,24,25,26,27,28])
 .skip))
 (.seq (.reg [mv 29 2,
 o0 30 (.len (.s 29)),
 o0 31 (.mov (.c (.int .i64 0)))] [])
 (.block 0 (.loop (.seq (.reg [o0 32 (.bin .lss (.s 31) (.s 30))] [])
 (.seq (.cond (.s 32)
 .skip
 (.exit 0))
 (.seq (.block 1 (.seq (.reg [mv 33 31,
 o0 34 (.iadr st (.s 29) (.s 31)),
 o0 35 (.load (some st) (.s 34)),
 o0 13 (.new t z),
 mv 12 33,
 ⟨none,.store st (.s 13) (.s 35),none⟩] [33,34,35])
 (.seq (.seq (.reg [mv 36 0,
 o0 37 (.nchk (.s 36)),
 o0 38 (.fadr 0 (.s 37)),
 o0 39 (.fadr 3 (.s 38)),
 o0 40 (.load none (.s 39)),
 o0 41 (.bin .neq (.s 40) (.c (.int .i64 0)))] [36,37,38,39,40])
 (.cond (.s 41)
 .ret
 .skip))
 (.seq (.reg [mv 43 5,
 mv 44 12,
 o0 45 (.load (some st) (.s 13)),
 o0 46 (.callv (.s 43) [(.s 44),(.s 45)]),
 mv 42 46,
 o0 47 (.ext (.s 42) 0),
 o0 48 (.ext (.s 42) 1),
 mv 14 47,
 mv 15 48] [43,44,45,46,42,47,48])
 (.reg [mv 49 0,
 mv 50 1,
 mv 51 12,
 mv 52 14,
 mv 53 15,
 o0 54 (.call Je [(.s 49),(.s 50),(.s 51),(.s 52),(.s 53)])] [49,50,51,52,53,54])))))
 (.reg [o0 55 (.bin .add (.s 31) (.c (.int .i64 1))),
 mv 31 55] [55]))))))))
theorem gA {α:Type} [Inhabited α] {m t st:Nat} {z:List AV} {c:α→List AV} (hc:ax Tryz.prog m=some ⟨56,6,[],NM t st z⟩) (hz:z.length=st) (hr:∀x,N7 st (c x)) {f:FuncId} (hb:bc Tryz.prog f=true) (g:α→Int×Int) (a:List α) (ha:a.length≤9223372036854775807)
  (hf:∀x∈a,∀i:Int,aj Tryz.prog f [.int .i64 i,.agg (c x)] (.tup [.int .i64 (g x).1,.int .i64 (g x).2])) (n most imp:Int) (F:Fa) :
  CM m [.int .i64 n,.sl st (a.map c),.int .i64 most,.int .i64 imp,.fn f []] F (dn n most imp (a.map g) F):=by
 refine c_ (ic:=NM t st z) aq hc rfl rfl ?_
 obtain ⟨G,hG⟩:∃G,dn n most imp (a.map g) F=G:=⟨_,rfl⟩
 rw [hG]
 unfold dn at hG
 rw [fz] at hG
 subst hz
 have q1:∀x,gd (some z.length) (c x)=some (.agg (c x)):=fun x=>EA (hr x).1
 have q2:∀x,lc 13 z.length z.length 0 0 (some ⟨t,z.length,[z],true⟩) (some (c x))=some (.put 13 ⟨t,z.length,[c x],true⟩):=fun x=>FF rfl (hr x).1
 have q3:∀x i,(c x).any (mC i)=false:=fun x i=>(hr x).2.1 i
 by_cases hw:IntKind.i64.wrap ((a.length:Int)+imp)>most
 rw [bz hw] at hG
 simp only [go_sem,NM,aI hw]
 refine b_ (sU F n (if 0<IntKind.i64.wrap (most - imp) then IntKind.i64.wrap (most - imp) else 0) 0 6) ?_
 simp only [go_sem]
 generalize kf F n (if 0<IntKind.i64.wrap (most - imp) then IntKind.i64.wrap (most - imp) else 0) 0 6=F0 at hG ⊢
 rotate_left
 rw [aV hw] at hG
 simp only [go_sem,NM,az hw]
 generalize F=F0 at hG ⊢
 all_goals
  refine an (fun q:Nat×Fa=>⟨[(31,.int .i64 q.1),(30,.int .i64 a.length),(29,.sl z.length (a.map c)),(0,.mp 1000 4 0 0),(1,.int .i64 n),(5,.fn f [])],[(1000,ck q.2)]⟩) (fun q=>q.1≤a.length∧G=F3 n q.1 ((a.map g).drop q.1) q.2) (fun q=>a.length - q.1) (0,F0) ⟨cC _,hG.symm⟩ (Wk.of ?_ ?_) ?_
  ·simp only [go_sem];try simp
  ·simp only [go_sem]
  rintro ⟨j,E⟩ ⟨hj,hx⟩
  simp only at hj hx
  by_cases h1:(j:Int)<(a.length:Int)
  rotate_left
  ·rw [iX (by rw [fz];omega)] at hx
   obtain rfl:G=E:=hx
   simp only [go_sem,az h1]
   exact tY [] _ [(1000,ck G)] ⟨rfl,rfl⟩
  have hj':j<a.length:=by omega
  have e8:=dz hj' (by omega)
  have cc:=aO hf hj' (j:Int)
  by_cases hE:E.c=0
  rotate_left
  ·rw [Iv E hE] at hx
   obtain rfl:G=E:=hx
   simp only [go_sem,aI h1,cm hE,q1,q2,q3]
   refine ⟨by omega,h1,?_⟩
   exact Ls [] (.tup []) [(1000,ck G)] ⟨rfl,rfl⟩
  rw [Iu (by rw [fz];exact hj') E hE,uH hj'] at hx
  simp only [go_sem,aI h1,bu hE,q1,q2,q3]
  refine ⟨by omega,h1,?_⟩
  rw [bz (LD hb)]
  refine ⟨hb,?_⟩
  refine kJ cc (fun x hx=>?_) ?_
  ·rcases cj.1 hx with rfl | hx
   ·rfl
   ·rcases cj.1 hx with rfl | hx
    ·exact (hr _).2.2
    ·cases hx
  simp only [go_sem]
  refine b_ (sU E n j (g (ac a j)).1 (g (ac a j)).2) ?_
  simp only [go_sem]
  refine aC (j+1,kf E n j (g (ac a j)).1 (g (ac a j)).2) ⟨show j+1≤a.length by omega,hx⟩ (show a.length - (j+1)<a.length - j by omega) (Wk.of ?_ ?_)
  ·simp only [go_sem,e8];try simp
  ·simp only [go_sem]
theorem AL {f:FuncId} (hb:bc Tryz.prog f=true) (g:Ft→Int×Int) (a:List Ft) (ha:a.length≤9223372036854775807) (hf:∀x∈a,∀i:Int,aj Tryz.prog f [.int .i64 i,.agg (bQ x)] (.tup [.int .i64 (g x).1,.int .i64 (g x).2])) (n most imp:Int) (F:Fa) :
  CM MD [.int .i64 n,.sl 2 (a.map bQ),.int .i64 most,.int .i64 imp,.fn f []] F (dn n most imp (a.map g) F):=gA OP rfl (fun _=>⟨rfl,fun _=>rfl,rfl⟩) hb g a ha hf n most imp F
theorem AN {f:FuncId} (hb:bc Tryz.prog f=true) (g:Im→Int×Int) (a:List Im) (ha:a.length≤9223372036854775807) (hf:∀x∈a,∀i:Int,aj Tryz.prog f [.int .i64 i,.agg (cW x)] (.tup [.int .i64 (g x).1,.int .i64 (g x).2])) (n most imp:Int) (F:Fa) :
  CM My [.int .i64 n,.sl 13 (a.map cW),.int .i64 most,.int .i64 imp,.fn f []] F (dn n most imp (a.map g) F):=gA Ou rfl (fun _=>⟨rfl,fun _=>rfl,rfl⟩) hb g a ha hf n most imp F
theorem rl {f:FuncId} (hb:bc Tryz.prog f=true) (g:Cd→Int×Int) (a:List Cd) (ha:a.length≤9223372036854775807) (hf:∀x∈a,∀i:Int,aj Tryz.prog f [.int .i64 i,.agg (bF x)] (.tup [.int .i64 (g x).1,.int .i64 (g x).2])) (n most imp:Int) (F:Fa) :
  CM Jd [.int .i64 n,.sl 3 (a.map bF),.int .i64 most,.int .i64 imp,.fn f []] F (dn n most imp (a.map g) F):=gA OM rfl (fun _=>⟨rfl,fun _=>rfl,rfl⟩) hb g a ha hf n most imp F
theorem AP {f:FuncId} (hb:bc Tryz.prog f=true) (g:Tb→Int×Int) (a:List Tb) (ha:a.length≤9223372036854775807) (hf:∀x∈a,∀i:Int,aj Tryz.prog f [.int .i64 i,.agg (dG x)] (.tup [.int .i64 (g x).1,.int .i64 (g x).2])) (n most imp:Int) (F:Fa) :
  CM MA [.int .i64 n,.sl 4 (a.map dG),.int .i64 most,.int .i64 imp,.fn f []] F (dn n most imp (a.map g) F):=gA OF rfl (fun _=>⟨rfl,fun _=>rfl,rfl⟩) hb g a ha hf n most imp F
theorem AO {f:FuncId} (hb:bc Tryz.prog f=true) (g:Lm→Int×Int) (a:List Lm) (ha:a.length≤9223372036854775807) (hf:∀x∈a,∀i:Int,aj Tryz.prog f [.int .i64 i,.agg (dA x)] (.tup [.int .i64 (g x).1,.int .i64 (g x).2])) (n most imp:Int) (F:Fa) :
  CM Mz [.int .i64 n,.sl 3 (a.map dA),.int .i64 most,.int .i64 imp,.fn f []] F (dn n most imp (a.map g) F):=gA Ov rfl (fun _=>⟨rfl,fun _=>rfl,rfl⟩) hb g a ha hf n most imp F
theorem AM {f:FuncId} (hb:bc Tryz.prog f=true) (g:Gd→Int×Int) (a:List Gd) (ha:a.length≤9223372036854775807) (hf:∀x∈a,∀i:Int,aj Tryz.prog f [.int .i64 i,.agg (df x)] (.tup [.int .i64 (g x).1,.int .i64 (g x).2])) (n most imp:Int) (F:Fa) :
  CM RQ [.int .i64 n,.sl 3 (a.map df),.int .i64 most,.int .i64 imp,.fn f []] F (dn n most imp (a.map g) F):=gA R6 rfl (fun _=>⟨rfl,fun _=>rfl,rfl⟩) hb g a ha hf n most imp F
theorem AK {f:FuncId} (hb:bc Tryz.prog f=true) (g:Ex→Int×Int) (a:List Ex) (ha:a.length≤9223372036854775807) (hf:∀x∈a,∀i:Int,aj Tryz.prog f [.int .i64 i,.agg (dU x)] (.tup [.int .i64 (g x).1,.int .i64 (g x).2])) (n most imp:Int) (F:Fa) :
  CM Mx [.int .i64 n,.sl 3 (a.map dU),.int .i64 most,.int .i64 imp,.fn f []] F (dn n most imp (a.map g) F):=gA Ot rfl (fun _=>⟨rfl,fun _=>rfl,rfl⟩) hb g a ha hf n most imp F
theorem AJ {f:FuncId} (hb:bc Tryz.prog f=true) (g:El→Int×Int) (a:List El) (ha:a.length≤9223372036854775807) (hf:∀x∈a,∀i:Int,aj Tryz.prog f [.int .i64 i,.agg (cb x)] (.tup [.int .i64 (g x).1,.int .i64 (g x).2])) (n most imp:Int) (F:Fa) :
  CM MC [.int .i64 n,.sl 5 (a.map cb),.int .i64 most,.int .i64 imp,.fn f []] F (dn n most imp (a.map g) F):=gA OO rfl (fun _=>⟨rfl,fun _=>rfl,rfl⟩) hb g a ha hf n most imp F
theorem AI {f:FuncId} (hb:bc Tryz.prog f=true) (g:Da→Int×Int) (a:List Da) (ha:a.length≤9223372036854775807) (hf:∀x∈a,∀i:Int,aj Tryz.prog f [.int .i64 i,.agg (cM x)] (.tup [.int .i64 (g x).1,.int .i64 (g x).2])) (n most imp:Int) (F:Fa) :
  CM MB [.int .i64 n,.sl 4 (a.map cM),.int .i64 most,.int .i64 imp,.fn f []] F (dn n most imp (a.map g) F):=gA ON rfl (fun _=>⟨rfl,fun _=>rfl,rfl⟩) hb g a ha hf n most imp F
theorem AH {f:FuncId} (hb:bc Tryz.prog f=true) (g:Cu→Int×Int) (a:List Cu) (ha:a.length≤9223372036854775807) (hf:∀x∈a,∀i:Int,aj Tryz.prog f [.int .i64 i,.agg (eW x)] (.tup [.int .i64 (g x).1,.int .i64 (g x).2])) (n most imp:Int) (F:Fa) :
  CM Mv [.int .i64 n,.sl 3 (a.map eW),.int .i64 most,.int .i64 imp,.fn f []] F (dn n most imp (a.map g) F):=gA Or rfl (fun _=>⟨rfl,fun _=>rfl,rfl⟩) hb g a ha hf n most imp F
end
end Go.Proofs.YteephfapgoncgaaGreatDoor