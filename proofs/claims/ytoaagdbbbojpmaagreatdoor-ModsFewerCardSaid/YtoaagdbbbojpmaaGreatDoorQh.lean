/-
  Chapter 7,walks: the program's Same of modules (printed by tools/gm10.py).
-/
import Derived.Test.YtoaagdbbbojpmaaGreatDoorQg
import Derived.Test.YtoaagdbbbojpmaaGreatDoorCards
import Derived.Test.YtoaagdbbbojpmaaGreatDoorTie
import Derived.Test.YtoaagdbbbojpmaaGreatDoorQd
import Derived.WalkKit
import Derived.ProofKit
import Derived.OpenShut
import Derived.Deep.DeepHandedRow
import Derived.Deep.DeepWitnessRowRef
import Derived.Lib.LaidTab
import Derived.Lib.LaidU8T
import Derived.Shelf.Vars
import Derived.Lay
import Derived.Test.YtoaagdbbbojpmaaGreatDoorQc
import Derived.Test.YtoaagdbbbojpmaaGreatDoorQe
import Derived.Lib.DecodeN
set_option linter.unusedVariables false
set_option linter.unusedSimpArgs false
set_option linter.unusedSectionVars false
set_option maxRecDepth 100000
set_option maxHeartbeats 40000000
set_option linter.unusedVariables false
set_option linter.unusedSimpArgs false
namespace Go.Proofs.YtoaagdbbbojpmaaGreatDoor
open Go Go.Mw
-- @U: List.length_map,mdC_e

attribute [local go_sem] List.length_map mdC_e
theorem m_same7 (a b:Md) (h:smM a):PCalls Tryz.prog nX115 [md_ a,md_ b] (.bool (decide (SameP a b))):=by
  refine pfun_sound (ic:=FX115.body) mixed cX115 rfl rfl ?_
  have d0:=m_sameFt (f:=nX113) (by kernel_rfl) a.ts b.ts (by have:=h.ts.1; omega) (fun x hx y=>m_ft x y (h.ts.2 x hx))
  have d1:=m_sameIm (f:=nX13) (by kernel_rfl) a.ims b.ims (by have:=h.ims; omega) (fun x hx y=>m_eqIm x y)
  have d2:=m_sameCd (f:=nX88) (by kernel_rfl) a.fs b.fs (by have:=h.fs.1; omega) (fun x hx y=>m_cd x y (h.fs.2 x hx))
  have d3:=m_sameTb (f:=nX17) (by kernel_rfl) a.tbs b.tbs (by have:=h.tbs; omega) (fun x hx y=>m_eqTb x y)
  have d4:=m_sameLm (f:=nX14) (by kernel_rfl) a.ms b.ms (by have:=h.ms; omega) (fun x hx y=>m_eqLm x y)
  have d5:=m_sameGd (f:=nX89) (by kernel_rfl) a.gs b.gs (by have:=h.gs.1; omega) (fun x hx y=>m_gd x y (h.gs.2 x hx))
  have d6:=m_sameEx (f:=nX12) (by kernel_rfl) a.exs b.exs (by have:=h.exs; omega) (fun x hx y=>m_eqEx x y)
  have d7:=m_sameEl (f:=nX90) (by kernel_rfl) a.els b.els (by have:=h.els.1; omega) (fun x hx y=>m_el x y (h.els.2 x hx))
  have d8:=m_sameDa (f:=nX91) (by kernel_rfl) a.ds b.ds (by have:=h.ds.1; omega) (fun x hx y=>m_da x y (h.ds.2 x hx))
  have d9:=m_sameCu (f:=nX92) (by kernel_rfl) a.cs b.cs (by have:=h.cs.1; omega) (fun x hx y=>m_cu x y)
  by_cases e1:a.hs = b.hs
  rotate_left
  · rw [decide_eq_false (fun e:SameP a b=>e1 e.1)]
    cases ha:a.hs <;> cases hb:b.hs
    · exact absurd (ha.trans hb.symm) e1
    · simp only [go_sem,FX115,md_,ha,hb,show (false == true) = false from rfl,Bool.not_false,Bool.not_true]
      exact pdone [] (by simp only [go_sem]) (by first | rfl | simp [go_sem,slv_ids])
    · simp only [go_sem,FX115,md_,ha,hb,show (true == false) = false from rfl,Bool.not_false,Bool.not_true]
      exact pdone [] (by simp only [go_sem]) (by first | rfl | simp [go_sem,slv_ids])
    · exact absurd (ha.trans hb.symm) e1
  cases ha:a.hs
  · have hb:b.hs = false:=by rw [← e1]; exact ha
    by_cases c0:a.ts = b.ts
    rotate_left
    · rw [decide_eq_false c0] at d0
      rw [decide_eq_false (fun e:SameP a b=>c0 e.2.2.1)]
      simp only [go_sem,FX115,md_,ha,hb,show (false == false) = true from rfl,Bool.not_false,Bool.not_true]
      refine call_same (d0) (by simp [go_sem]) ?_
      simp only [go_sem]
      exact pdone [] (by simp only [go_sem]) (by first | rfl | simp [go_sem,slv_ids])
    rw [decide_eq_true c0] at d0
    by_cases c1:a.ims = b.ims
    rotate_left
    · rw [decide_eq_false c1] at d1
      rw [decide_eq_false (fun e:SameP a b=>c1 e.2.2.2.1)]
      simp only [go_sem,FX115,md_,ha,hb,show (false == false) = true from rfl,Bool.not_false,Bool.not_true]
      refine call_same (d0) (by simp [go_sem]) ?_
      simp only [go_sem]
      refine call_same (d1) (by simp [go_sem]) ?_
      simp only [go_sem]
      exact pdone [] (by simp only [go_sem]) (by first | rfl | simp [go_sem,slv_ids])
    rw [decide_eq_true c1] at d1
    by_cases c2:a.fs = b.fs
    rotate_left
    · rw [decide_eq_false c2] at d2
      rw [decide_eq_false (fun e:SameP a b=>c2 e.2.2.2.2.1)]
      simp only [go_sem,FX115,md_,ha,hb,show (false == false) = true from rfl,Bool.not_false,Bool.not_true]
      refine call_same (d0) (by simp [go_sem]) ?_
      simp only [go_sem]
      refine call_same (d1) (by simp [go_sem]) ?_
      simp only [go_sem]
      refine call_same (d2) (by simp [go_sem]) ?_
      simp only [go_sem]
      exact pdone [] (by simp only [go_sem]) (by first | rfl | simp [go_sem,slv_ids])
    rw [decide_eq_true c2] at d2
    by_cases c3:a.tbs = b.tbs
    rotate_left
    · rw [decide_eq_false c3] at d3
      rw [decide_eq_false (fun e:SameP a b=>c3 e.2.2.2.2.2.1.1)]
      simp only [go_sem,FX115,md_,ha,hb,show (false == false) = true from rfl,Bool.not_false,Bool.not_true]
      refine call_same (d0) (by simp [go_sem]) ?_
      simp only [go_sem]
      refine call_same (d1) (by simp [go_sem]) ?_
      simp only [go_sem]
      refine call_same (d2) (by simp [go_sem]) ?_
      simp only [go_sem]
      refine call_same (d3) (by simp [go_sem]) ?_
      simp only [go_sem]
      exact pdone [] (by simp only [go_sem]) (by first | rfl | simp [go_sem,slv_ids])
    rw [decide_eq_true c3] at d3
    by_cases c4:a.ms = b.ms
    rotate_left
    · rw [decide_eq_false c4] at d4
      rw [decide_eq_false (fun e:SameP a b=>c4 e.2.2.2.2.2.1.2)]
      simp only [go_sem,FX115,md_,ha,hb,show (false == false) = true from rfl,Bool.not_false,Bool.not_true]
      refine call_same (d0) (by simp [go_sem]) ?_
      simp only [go_sem]
      refine call_same (d1) (by simp [go_sem]) ?_
      simp only [go_sem]
      refine call_same (d2) (by simp [go_sem]) ?_
      simp only [go_sem]
      refine call_same (d3) (by simp [go_sem]) ?_
      simp only [go_sem]
      refine call_same (d4) (by simp [go_sem]) ?_
      simp only [go_sem]
      exact pdone [] (by simp only [go_sem]) (by first | rfl | simp [go_sem,slv_ids])
    rw [decide_eq_true c4] at d4
    by_cases c5:a.gs = b.gs
    rotate_left
    · rw [decide_eq_false c5] at d5
      rw [decide_eq_false (fun e:SameP a b=>c5 e.2.2.2.2.2.2.1)]
      simp only [go_sem,FX115,md_,ha,hb,show (false == false) = true from rfl,Bool.not_false,Bool.not_true]
      refine call_same (d0) (by simp [go_sem]) ?_
      simp only [go_sem]
      refine call_same (d1) (by simp [go_sem]) ?_
      simp only [go_sem]
      refine call_same (d2) (by simp [go_sem]) ?_
      simp only [go_sem]
      refine call_same (d3) (by simp [go_sem]) ?_
      simp only [go_sem]
      refine call_same (d4) (by simp [go_sem]) ?_
      simp only [go_sem]
      refine call_same (d5) (by simp [go_sem]) ?_
      simp only [go_sem]
      exact pdone [] (by simp only [go_sem]) (by first | rfl | simp [go_sem,slv_ids])
    rw [decide_eq_true c5] at d5
    by_cases c6:a.exs = b.exs
    rotate_left
    · rw [decide_eq_false c6] at d6
      rw [decide_eq_false (fun e:SameP a b=>c6 e.2.2.2.2.2.2.2.1)]
      simp only [go_sem,FX115,md_,ha,hb,show (false == false) = true from rfl,Bool.not_false,Bool.not_true]
      refine call_same (d0) (by simp [go_sem]) ?_
      simp only [go_sem]
      refine call_same (d1) (by simp [go_sem]) ?_
      simp only [go_sem]
      refine call_same (d2) (by simp [go_sem]) ?_
      simp only [go_sem]
      refine call_same (d3) (by simp [go_sem]) ?_
      simp only [go_sem]
      refine call_same (d4) (by simp [go_sem]) ?_
      simp only [go_sem]
      refine call_same (d5) (by simp [go_sem]) ?_
      simp only [go_sem]
      refine call_same (d6) (by simp [go_sem]) ?_
      simp only [go_sem]
      exact pdone [] (by simp only [go_sem]) (by first | rfl | simp [go_sem,slv_ids])
    rw [decide_eq_true c6] at d6
    by_cases c7:a.els = b.els
    rotate_left
    · rw [decide_eq_false c7] at d7
      rw [decide_eq_false (fun e:SameP a b=>c7 e.2.2.2.2.2.2.2.2.1)]
      simp only [go_sem,FX115,md_,ha,hb,show (false == false) = true from rfl,Bool.not_false,Bool.not_true]
      refine call_same (d0) (by simp [go_sem]) ?_
      simp only [go_sem]
      refine call_same (d1) (by simp [go_sem]) ?_
      simp only [go_sem]
      refine call_same (d2) (by simp [go_sem]) ?_
      simp only [go_sem]
      refine call_same (d3) (by simp [go_sem]) ?_
      simp only [go_sem]
      refine call_same (d4) (by simp [go_sem]) ?_
      simp only [go_sem]
      refine call_same (d5) (by simp [go_sem]) ?_
      simp only [go_sem]
      refine call_same (d6) (by simp [go_sem]) ?_
      simp only [go_sem]
      refine call_same (d7) (by simp [go_sem]) ?_
      simp only [go_sem]
      exact pdone [] (by simp only [go_sem]) (by first | rfl | simp [go_sem,slv_ids])
    rw [decide_eq_true c7] at d7
    by_cases c8:a.ds = b.ds
    rotate_left
    · rw [decide_eq_false c8] at d8
      rw [decide_eq_false (fun e:SameP a b=>c8 e.2.2.2.2.2.2.2.2.2.1)]
      simp only [go_sem,FX115,md_,ha,hb,show (false == false) = true from rfl,Bool.not_false,Bool.not_true]
      refine call_same (d0) (by simp [go_sem]) ?_
      simp only [go_sem]
      refine call_same (d1) (by simp [go_sem]) ?_
      simp only [go_sem]
      refine call_same (d2) (by simp [go_sem]) ?_
      simp only [go_sem]
      refine call_same (d3) (by simp [go_sem]) ?_
      simp only [go_sem]
      refine call_same (d4) (by simp [go_sem]) ?_
      simp only [go_sem]
      refine call_same (d5) (by simp [go_sem]) ?_
      simp only [go_sem]
      refine call_same (d6) (by simp [go_sem]) ?_
      simp only [go_sem]
      refine call_same (d7) (by simp [go_sem]) ?_
      simp only [go_sem]
      refine call_same (d8) (by simp [go_sem]) ?_
      simp only [go_sem]
      exact pdone [] (by simp only [go_sem]) (by first | rfl | simp [go_sem,slv_ids])
    rw [decide_eq_true c8] at d8
    by_cases c9:a.cs = b.cs
    rotate_left
    · rw [decide_eq_false c9] at d9
      rw [decide_eq_false (fun e:SameP a b=>c9 e.2.2.2.2.2.2.2.2.2.2)]
      simp only [go_sem,FX115,md_,ha,hb,show (false == false) = true from rfl,Bool.not_false,Bool.not_true]
      refine call_same (d0) (by simp [go_sem]) ?_
      simp only [go_sem]
      refine call_same (d1) (by simp [go_sem]) ?_
      simp only [go_sem]
      refine call_same (d2) (by simp [go_sem]) ?_
      simp only [go_sem]
      refine call_same (d3) (by simp [go_sem]) ?_
      simp only [go_sem]
      refine call_same (d4) (by simp [go_sem]) ?_
      simp only [go_sem]
      refine call_same (d5) (by simp [go_sem]) ?_
      simp only [go_sem]
      refine call_same (d6) (by simp [go_sem]) ?_
      simp only [go_sem]
      refine call_same (d7) (by simp [go_sem]) ?_
      simp only [go_sem]
      refine call_same (d8) (by simp [go_sem]) ?_
      simp only [go_sem]
      refine call_same (d9) (by simp [go_sem]) ?_
      simp only [go_sem]
      exact pdone [] (by simp only [go_sem]) (by first | rfl | simp [go_sem,slv_ids])
    rw [decide_eq_true c9] at d9
    rw [decide_eq_true (show SameP a b from ⟨e1,fun q=>absurd (ha.symm.trans q) (by decide),c0,c1,c2,⟨c3,c4⟩,c5,c6,c7,c8,c9⟩)]
    simp only [go_sem,FX115,md_,ha,hb,show (false == false) = true from rfl,Bool.not_false,Bool.not_true]
    refine call_same (d0) (by simp [go_sem]) ?_
    simp only [go_sem]
    refine call_same (d1) (by simp [go_sem]) ?_
    simp only [go_sem]
    refine call_same (d2) (by simp [go_sem]) ?_
    simp only [go_sem]
    refine call_same (d3) (by simp [go_sem]) ?_
    simp only [go_sem]
    refine call_same (d4) (by simp [go_sem]) ?_
    simp only [go_sem]
    refine call_same (d5) (by simp [go_sem]) ?_
    simp only [go_sem]
    refine call_same (d6) (by simp [go_sem]) ?_
    simp only [go_sem]
    refine call_same (d7) (by simp [go_sem]) ?_
    simp only [go_sem]
    refine call_same (d8) (by simp [go_sem]) ?_
    simp only [go_sem]
    refine call_same (d9) (by simp [go_sem]) ?_
    simp only [go_sem]
    exact pdone [] (by simp only [go_sem]) (by first | rfl | simp [go_sem,slv_ids])
  · have hb:b.hs = true:=by rw [← e1]; exact ha
    by_cases e2:a.st = b.st
    rotate_left
    · rw [decide_eq_false (fun e:SameP a b=>e2 (e.2.1 ha))]
      simp only [go_sem,FX115,md_,ha,hb,show (true == true) = true from rfl,Bool.not_false,Bool.not_true,bne_t e2]
      exact pdone [] (by simp only [go_sem]) (by first | rfl | simp [go_sem,slv_ids])
    by_cases c0:a.ts = b.ts
    rotate_left
    · rw [decide_eq_false c0] at d0
      rw [decide_eq_false (fun e:SameP a b=>c0 e.2.2.1)]
      simp only [go_sem,FX115,md_,ha,hb,show (true == true) = true from rfl,Bool.not_false,Bool.not_true,bne_f e2]
      refine call_same (d0) (by simp [go_sem]) ?_
      simp only [go_sem]
      exact pdone [] (by simp only [go_sem]) (by first | rfl | simp [go_sem,slv_ids])
    rw [decide_eq_true c0] at d0
    by_cases c1:a.ims = b.ims
    rotate_left
    · rw [decide_eq_false c1] at d1
      rw [decide_eq_false (fun e:SameP a b=>c1 e.2.2.2.1)]
      simp only [go_sem,FX115,md_,ha,hb,show (true == true) = true from rfl,Bool.not_false,Bool.not_true,bne_f e2]
      refine call_same (d0) (by simp [go_sem]) ?_
      simp only [go_sem]
      refine call_same (d1) (by simp [go_sem]) ?_
      simp only [go_sem]
      exact pdone [] (by simp only [go_sem]) (by first | rfl | simp [go_sem,slv_ids])
    rw [decide_eq_true c1] at d1
    by_cases c2:a.fs = b.fs
    rotate_left
    · rw [decide_eq_false c2] at d2
      rw [decide_eq_false (fun e:SameP a b=>c2 e.2.2.2.2.1)]
      simp only [go_sem,FX115,md_,ha,hb,show (true == true) = true from rfl,Bool.not_false,Bool.not_true,bne_f e2]
      refine call_same (d0) (by simp [go_sem]) ?_
      simp only [go_sem]
      refine call_same (d1) (by simp [go_sem]) ?_
      simp only [go_sem]
      refine call_same (d2) (by simp [go_sem]) ?_
      simp only [go_sem]
      exact pdone [] (by simp only [go_sem]) (by first | rfl | simp [go_sem,slv_ids])
    rw [decide_eq_true c2] at d2
    by_cases c3:a.tbs = b.tbs
    rotate_left
    · rw [decide_eq_false c3] at d3
      rw [decide_eq_false (fun e:SameP a b=>c3 e.2.2.2.2.2.1.1)]
      simp only [go_sem,FX115,md_,ha,hb,show (true == true) = true from rfl,Bool.not_false,Bool.not_true,bne_f e2]
      refine call_same (d0) (by simp [go_sem]) ?_
      simp only [go_sem]
      refine call_same (d1) (by simp [go_sem]) ?_
      simp only [go_sem]
      refine call_same (d2) (by simp [go_sem]) ?_
      simp only [go_sem]
      refine call_same (d3) (by simp [go_sem]) ?_
      simp only [go_sem]
      exact pdone [] (by simp only [go_sem]) (by first | rfl | simp [go_sem,slv_ids])
    rw [decide_eq_true c3] at d3
    by_cases c4:a.ms = b.ms
    rotate_left
    · rw [decide_eq_false c4] at d4
      rw [decide_eq_false (fun e:SameP a b=>c4 e.2.2.2.2.2.1.2)]
      simp only [go_sem,FX115,md_,ha,hb,show (true == true) = true from rfl,Bool.not_false,Bool.not_true,bne_f e2]
      refine call_same (d0) (by simp [go_sem]) ?_
      simp only [go_sem]
      refine call_same (d1) (by simp [go_sem]) ?_
      simp only [go_sem]
      refine call_same (d2) (by simp [go_sem]) ?_
      simp only [go_sem]
      refine call_same (d3) (by simp [go_sem]) ?_
      simp only [go_sem]
      refine call_same (d4) (by simp [go_sem]) ?_
      simp only [go_sem]
      exact pdone [] (by simp only [go_sem]) (by first | rfl | simp [go_sem,slv_ids])
    rw [decide_eq_true c4] at d4
    by_cases c5:a.gs = b.gs
    rotate_left
    · rw [decide_eq_false c5] at d5
      rw [decide_eq_false (fun e:SameP a b=>c5 e.2.2.2.2.2.2.1)]
      simp only [go_sem,FX115,md_,ha,hb,show (true == true) = true from rfl,Bool.not_false,Bool.not_true,bne_f e2]
      refine call_same (d0) (by simp [go_sem]) ?_
      simp only [go_sem]
      refine call_same (d1) (by simp [go_sem]) ?_
      simp only [go_sem]
      refine call_same (d2) (by simp [go_sem]) ?_
      simp only [go_sem]
      refine call_same (d3) (by simp [go_sem]) ?_
      simp only [go_sem]
      refine call_same (d4) (by simp [go_sem]) ?_
      simp only [go_sem]
      refine call_same (d5) (by simp [go_sem]) ?_
      simp only [go_sem]
      exact pdone [] (by simp only [go_sem]) (by first | rfl | simp [go_sem,slv_ids])
    rw [decide_eq_true c5] at d5
    by_cases c6:a.exs = b.exs
    rotate_left
    · rw [decide_eq_false c6] at d6
      rw [decide_eq_false (fun e:SameP a b=>c6 e.2.2.2.2.2.2.2.1)]
      simp only [go_sem,FX115,md_,ha,hb,show (true == true) = true from rfl,Bool.not_false,Bool.not_true,bne_f e2]
      refine call_same (d0) (by simp [go_sem]) ?_
      simp only [go_sem]
      refine call_same (d1) (by simp [go_sem]) ?_
      simp only [go_sem]
      refine call_same (d2) (by simp [go_sem]) ?_
      simp only [go_sem]
      refine call_same (d3) (by simp [go_sem]) ?_
      simp only [go_sem]
      refine call_same (d4) (by simp [go_sem]) ?_
      simp only [go_sem]
      refine call_same (d5) (by simp [go_sem]) ?_
      simp only [go_sem]
      refine call_same (d6) (by simp [go_sem]) ?_
      simp only [go_sem]
      exact pdone [] (by simp only [go_sem]) (by first | rfl | simp [go_sem,slv_ids])
    rw [decide_eq_true c6] at d6
    by_cases c7:a.els = b.els
    rotate_left
    · rw [decide_eq_false c7] at d7
      rw [decide_eq_false (fun e:SameP a b=>c7 e.2.2.2.2.2.2.2.2.1)]
      simp only [go_sem,FX115,md_,ha,hb,show (true == true) = true from rfl,Bool.not_false,Bool.not_true,bne_f e2]
      refine call_same (d0) (by simp [go_sem]) ?_
      simp only [go_sem]
      refine call_same (d1) (by simp [go_sem]) ?_
      simp only [go_sem]
      refine call_same (d2) (by simp [go_sem]) ?_
      simp only [go_sem]
      refine call_same (d3) (by simp [go_sem]) ?_
      simp only [go_sem]
      refine call_same (d4) (by simp [go_sem]) ?_
      simp only [go_sem]
      refine call_same (d5) (by simp [go_sem]) ?_
      simp only [go_sem]
      refine call_same (d6) (by simp [go_sem]) ?_
      simp only [go_sem]
      refine call_same (d7) (by simp [go_sem]) ?_
      simp only [go_sem]
      exact pdone [] (by simp only [go_sem]) (by first | rfl | simp [go_sem,slv_ids])
    rw [decide_eq_true c7] at d7
    by_cases c8:a.ds = b.ds
    rotate_left
    · rw [decide_eq_false c8] at d8
      rw [decide_eq_false (fun e:SameP a b=>c8 e.2.2.2.2.2.2.2.2.2.1)]
      simp only [go_sem,FX115,md_,ha,hb,show (true == true) = true from rfl,Bool.not_false,Bool.not_true,bne_f e2]
      refine call_same (d0) (by simp [go_sem]) ?_
      simp only [go_sem]
      refine call_same (d1) (by simp [go_sem]) ?_
      simp only [go_sem]
      refine call_same (d2) (by simp [go_sem]) ?_
      simp only [go_sem]
      refine call_same (d3) (by simp [go_sem]) ?_
      simp only [go_sem]
      refine call_same (d4) (by simp [go_sem]) ?_
      simp only [go_sem]
      refine call_same (d5) (by simp [go_sem]) ?_
      simp only [go_sem]
      refine call_same (d6) (by simp [go_sem]) ?_
      simp only [go_sem]
      refine call_same (d7) (by simp [go_sem]) ?_
      simp only [go_sem]
      refine call_same (d8) (by simp [go_sem]) ?_
      simp only [go_sem]
      exact pdone [] (by simp only [go_sem]) (by first | rfl | simp [go_sem,slv_ids])
    rw [decide_eq_true c8] at d8
    by_cases c9:a.cs = b.cs
    rotate_left
    · rw [decide_eq_false c9] at d9
      rw [decide_eq_false (fun e:SameP a b=>c9 e.2.2.2.2.2.2.2.2.2.2)]
      simp only [go_sem,FX115,md_,ha,hb,show (true == true) = true from rfl,Bool.not_false,Bool.not_true,bne_f e2]
      refine call_same (d0) (by simp [go_sem]) ?_
      simp only [go_sem]
      refine call_same (d1) (by simp [go_sem]) ?_
      simp only [go_sem]
      refine call_same (d2) (by simp [go_sem]) ?_
      simp only [go_sem]
      refine call_same (d3) (by simp [go_sem]) ?_
      simp only [go_sem]
      refine call_same (d4) (by simp [go_sem]) ?_
      simp only [go_sem]
      refine call_same (d5) (by simp [go_sem]) ?_
      simp only [go_sem]
      refine call_same (d6) (by simp [go_sem]) ?_
      simp only [go_sem]
      refine call_same (d7) (by simp [go_sem]) ?_
      simp only [go_sem]
      refine call_same (d8) (by simp [go_sem]) ?_
      simp only [go_sem]
      refine call_same (d9) (by simp [go_sem]) ?_
      simp only [go_sem]
      exact pdone [] (by simp only [go_sem]) (by first | rfl | simp [go_sem,slv_ids])
    rw [decide_eq_true c9] at d9
    rw [decide_eq_true (show SameP a b from ⟨e1,fun _=>e2,c0,c1,c2,⟨c3,c4⟩,c5,c6,c7,c8,c9⟩)]
    simp only [go_sem,FX115,md_,ha,hb,show (true == true) = true from rfl,Bool.not_false,Bool.not_true,bne_f e2]
    refine call_same (d0) (by simp [go_sem]) ?_
    simp only [go_sem]
    refine call_same (d1) (by simp [go_sem]) ?_
    simp only [go_sem]
    refine call_same (d2) (by simp [go_sem]) ?_
    simp only [go_sem]
    refine call_same (d3) (by simp [go_sem]) ?_
    simp only [go_sem]
    refine call_same (d4) (by simp [go_sem]) ?_
    simp only [go_sem]
    refine call_same (d5) (by simp [go_sem]) ?_
    simp only [go_sem]
    refine call_same (d6) (by simp [go_sem]) ?_
    simp only [go_sem]
    refine call_same (d7) (by simp [go_sem]) ?_
    simp only [go_sem]
    refine call_same (d8) (by simp [go_sem]) ?_
    simp only [go_sem]
    refine call_same (d9) (by simp [go_sem]) ?_
    simp only [go_sem]
    exact pdone [] (by simp only [go_sem]) (by first | rfl | simp [go_sem,slv_ids])
end Go.Proofs.YtoaagdbbbojpmaaGreatDoor
set_option maxRecDepth 100000
set_option linter.unusedVariables false
namespace Go.Proofs.YtoaagdbbbojpmaaGreatDoor
open Go Go.Mw
open Go.ChangeShapes Go.WideShapes Go.ChangeAt Go.RowKit

theorem own:ownKnob Tryz.prog.godebug = none:=by kernel_rfl
theorem laidOut:laidOutB Tryz.prog = true:=by kernel_rfl
abbrev laidL:List (String × DataW Unit):=[("unicode/utf8.acceptRanges",Rows.laid_unicode_utf8_acceptRanges),("unicode.White_Space",Rows.laid_unicode_White_Space),("strings.asciiSpace",Rows.laid_strings_asciiSpace),("unicode/utf8.first",Rows.laid_unicode_utf8_first)]
def spL:List Int:=(List.range 256).map fun c=>if Lib.isSp (UInt8.ofNat c) then 1 else 0
theorem spD:(Rows.laid_strings_asciiSpace:DataW Unit) = Lib.tabData .u8 spL:=by kernel_rfl
theorem gSp:Tryz.prog.globalNamed "strings.asciiSpace" = some 2:=by kernel_rfl
theorem tSp:(Tryz.prog.globals[2]?).map (·.type) = some 228:=by kernel_rfl
theorem uSp:Tryz.prog.underlying 228 = some (.array 256 5):=by kernel_rfl
theorem uU8:Tryz.prog.underlying 5 = some (.int .u8):=by kernel_rfl
theorem cU8:Tryz.prog.cellsOf 5 = 1:=by kernel_rfl
theorem cSp:Tryz.prog.cellsOf 228 = 256:=by kernel_rfl
theorem sp_of {W:World} (h:laidMetH Tryz.prog laidL W):Lib.TabIs Tryz.prog W "strings.asciiSpace" .u8 spL:=by
  have h2:=Lib.laidMet.reads h (.tail _ (.tail _ (.head _)))
  rw [spD] at h2
  obtain ⟨g',t',cs,fuel,p,hg',ht',hvar,hd⟩:=h2
  obtain rfl:=Option.some.inj (gSp.symm.trans hg')
  obtain rfl:=Option.some.inj (tSp.symm.trans ht')
  unfold Lib.TabIs
  rw [hvar,← Lib.cells_of_tab uSp uU8 cU8 cSp hd]
def ren:Go.Shelf.Ren:=⟨fun x=>x,fun t=>if t = 119 then 228 else if t = 138 then 230 else if t = 139 then 231 else 5,fun g=>if g = 3 then 0 else 1⟩
theorem u8t:U8Types Tryz.prog ren:=⟨by kernel_rfl,by kernel_rfl,by kernel_rfl,by kernel_rfl⟩
theorem u8x:U8Extra Tryz.prog ren:=⟨by kernel_rfl,by kernel_rfl,by kernel_rfl,by kernel_rfl,by kernel_rfl,by kernel_rfl,by kernel_rfl⟩
theorem accD:(Rows.laid_unicode_utf8_acceptRanges:DataW Unit) = Lib.acceptData:=by kernel_rfl
theorem fstD:Rows.laid_unicode_utf8_first = Lib.firstData:=by kernel_rfl
theorem u8_of {W:World} (h:laidMetH Tryz.prog laidL W):Lib.Utf8Tabs 0 1 W:=by
  have h1:=Lib.laidMet.reads h (.head _)
  have h2:=Lib.laidMet.reads h (.tail _ (.tail _ (.tail _ (.head _))))
  rw [accD] at h1
  rw [fstD] at h2
  exact utf8Tabs_of_readsT u8t u8x h2 h1
theorem spL_at (c:Nat) (hc:c < 256):Value.int .u8 (spL.getD c 0) = spT c:=by
  simp [spL,spT,List.getD,hc]
theorem tabs_of {W:World} (h:laidMetH Tryz.prog laidL W) (hs:W.ShapedOpen Tryz.prog):(Tabs.T Tryz.prog).H W :=
  ⟨u8_of h,fun c hc=>by rw [(sp_of h).cell gSp c (by simpa [spL] using hc),spL_at c hc],
   Go.Proofs.cell_of_shapedOpen_int (g:=3) (t:=3) (k:=.i64) (zero:=#[.int .i64 0]) hs (of_decide_eq_true (by kernel_rfl)) (by kernel_rfl) rfl (by kernel_rfl) (by kernel_rfl) (by kernel_rfl)⟩
noncomputable abbrev laidWorld (os:Os):World:=World.laidAll Tryz.prog os laidL

end Go.Proofs.YtoaagdbbbojpmaaGreatDoor
set_option maxRecDepth 100000
set_option maxHeartbeats 4000000
set_option linter.unusedVariables false
set_option linter.unusedSimpArgs false
namespace Go.Proofs.YtoaagdbbbojpmaaGreatDoor
open Go Go.Mw
open Go.ChangeShapes Go.WideShapes Go.ChangeAt Go.RowKit

def bL {α:Type} (p:Nat → α → Prop) (B:Nat) (l:List α):Prop:=l.length ≤ B ∧ ∀ a ∈ l,p B a
def El1 {α:Type} (τ:Ty) (f:α → List AV) (p:Nat → α → Prop):Prop:=∀ r,τ.ok r → ∃ a,All2 Nd r (f a) ∧ p maxLen a ∧ ∀ B,τ.bd B r → p B a
theorem rowsN {α:Type} {τ:Ty} {f:α → List AV} {p:Nat → α → Prop} (h:El1 τ f p):∀ {rows:List (List AV)},(∀ r ∈ rows,τ.ok r) → ∃ l:List α,All2 (All2 Nd) rows (l.map f) ∧ (∀ a ∈ l,p maxLen a) ∧ ∀ B,(∀ r ∈ rows,τ.bd B r) → ∀ a ∈ l,p B a
  | [],_=>⟨[],trivial,(fun a h=>by cases h),(fun _ _ a h=>by cases h)⟩
  | r :: rows,hr=>by
    obtain ⟨a,h1,h2,h3⟩:=h r (hr r (by simp))
    obtain ⟨l,g1,g2,g3⟩:=rowsN h (rows:=rows) fun r hr'=>hr r (by simp [hr'])
    refine ⟨a :: l,⟨h1,g1⟩,fun b hb=>?_,fun B hB b hb=>?_⟩
    · rcases List.mem_cons.1 hb with rfl | hb
      · exact h2
      · exact g2 b hb
    · rcases List.mem_cons.1 hb with rfl | hb
      · exact h3 B (hB r (by simp))
      · exact g3 B (fun r hr'=>hB r (by simp [hr'])) b hb
theorem ndRows {st:Nat} {rows rows':List (List AV)} (h:All2 (All2 Nd) rows rows'):Nd (.sl st rows) (.sl st rows'):=by
  refine .sl st _ _ h.length (fun i r r' h1 h2=>?_) (fun i j r r' x y h1 h2 h3 h4=>?_)
  · obtain ⟨a,e1,e2⟩:=h.get h2
    obtain rfl:=Option.some.inj (h1.symm.trans e1)
    exact e2.length
  · obtain ⟨a,e1,e2⟩:=h.get h2
    obtain rfl:=Option.some.inj (h1.symm.trans e1)
    obtain ⟨b,e3,e4⟩:=e2.get h4
    obtain rfl:=Option.some.inj (h3.symm.trans e3)
    exact e4
theorem slN {α:Type} {τ:Ty} {f:α → List AV} {p:Nat → α → Prop} (h:El1 τ f p) {r:List AV} (hr:(Ty.sl τ).ok r):∃ x l,r = [x] ∧ Nd x (.sl τ.n (l.map f)) ∧ bL p maxLen l ∧ ∀ B,(Ty.sl τ).bd B [x] → bL p B l:=by
  rcases hr with rfl | ⟨rows,rfl,h2,h3⟩
  · exact ⟨_,[],rfl,.nl _,⟨Nat.zero_le _,fun a h=>by cases h⟩,fun B _=>⟨Nat.zero_le _,fun a h=>by cases h⟩⟩
  · obtain ⟨l,g1,g2,g3⟩:=rowsN h h3
    have hl:=g1.length
    rw [List.length_map] at hl
    refine ⟨_,l,rfl,ndRows g1,⟨by omega,g2⟩,fun B hB=>?_⟩
    obtain ⟨q1,q2⟩:=hB _ _ rfl
    exact ⟨by omega,g3 B q2⟩
theorem u8_wf7 {n:Int} (h:(Lit.int .u8 n).wf = true):0 ≤ n ∧ n ≤ 255:=by simpa [Lit.wf,IntKind.min,IntKind.max,IntKind.signed,IntKind.bits] using h
theorem u64_wf7 {n:Int} (h:(Lit.int .u64 n).wf = true):0 ≤ n ∧ n < 18446744073709551616:=by
  have:0 ≤ n ∧ n ≤ 18446744073709551615:=by simpa [Lit.wf,IntKind.min,IntKind.max,IntKind.signed,IntKind.bits] using h
  omega
def noB {α:Type} (_:Nat) (_:α):Prop:=True
theorem el_vl:El1 (.int .i64) vl_ noB:=fun r h=>by
  obtain ⟨n,rfl,_⟩:=h
  exact ⟨n,⟨.rfl _,trivial⟩,trivial,fun _ _=>trivial⟩
theorem el_by:El1 (.int .u8) by_ noB:=fun r h=>by
  obtain ⟨n,rfl,hw⟩:=h
  have hn:=u8_wf7 hw
  refine ⟨UInt8.ofNat n.toNat,?_,trivial,fun _ _=>trivial⟩
  rw [by_of (by omega),show ((n.toNat:Nat):Int) = n by omega]
  exact ⟨.rfl _,trivial⟩

-- names
def tyIns:Ty:=.cons (.int .i64) (.cons (.int .i64) (.cons (.int .i64) (.cons (.int .u64) (.cons (.cons (.int .i64) (.cons (.int .i64) (.cons (.int .i64) .nil))) (.cons (.sl (.int .i64)) (.cons (.sl (.int .i64)) .nil))))))
def bIns (B:Nat) (x:Ins):Prop:=(0 ≤ x.n ∧ x.n < 18446744073709551616) ∧ bL noB B x.ty ∧ bL noB B x.lb
theorem el_Ins:El1 tyIns insC bIns:=fun r h=>by
  obtain ⟨_,_,rfl,⟨op,rfl,w_op⟩,_,_,rfl,⟨a,rfl,w_a⟩,_,_,rfl,⟨b,rfl,w_b⟩,_,_,rfl,⟨n,rfl,w_n⟩,_,_,rfl,⟨_,_,rfl,⟨k,rfl,w_k⟩,_,_,rfl,⟨v,rfl,w_v⟩,_,_,rfl,⟨z,rfl,w_z⟩,rfl⟩,_,_,rfl,h_ty,_,_,rfl,h_lb,rfl⟩:=h
  obtain ⟨x_ty,l_ty,rfl,d_ty,m_ty,b_ty⟩:=slN el_vl h_ty
  obtain ⟨x_lb,l_lb,rfl,d_lb,m_lb,b_lb⟩:=slN el_vl h_lb
  exact ⟨⟨op,a,b,n,k,v,z,l_ty,l_lb⟩,⟨.rfl _,.rfl _,.rfl _,.rfl _,.rfl _,.rfl _,.rfl _,d_ty,d_lb,trivial⟩,⟨u64_wf7 w_n,m_ty,m_lb⟩,fun B hB=>⟨u64_wf7 w_n,b_ty B hB.2.2.2.2.2.1,b_lb B hB.2.2.2.2.2.2.1⟩⟩

def tyFun:Ty:=.cons (.sl (.int .i64)) (.cons (.sl (.int .i64)) .nil)
def bFun (B:Nat) (x:Ft):Prop:=bL noB B x.ps ∧ bL noB B x.rs
theorem el_Fun:El1 tyFun ftC bFun:=fun r h=>by
  obtain ⟨_,_,rfl,h_ps,_,_,rfl,h_rs,rfl⟩:=h
  obtain ⟨x_ps,l_ps,rfl,d_ps,m_ps,b_ps⟩:=slN el_vl h_ps
  obtain ⟨x_rs,l_rs,rfl,d_rs,m_rs,b_rs⟩:=slN el_vl h_rs
  exact ⟨⟨l_ps,l_rs⟩,⟨d_ps,d_rs,trivial⟩,⟨m_ps,m_rs⟩,fun B hB=>⟨b_ps B hB.1,b_rs B hB.2.1⟩⟩

def tyLim:Ty:=.cons (.int .i64) (.cons (.int .i64) (.cons .bool .nil))
def bLim (B:Nat) (x:Lm):Prop:=True
theorem el_Lim:El1 tyLim lmC bLim:=fun r h=>by
  obtain ⟨_,_,rfl,⟨mn,rfl,w_mn⟩,_,_,rfl,⟨mx,rfl,w_mx⟩,_,_,rfl,⟨hs,rfl⟩,rfl⟩:=h
  exact ⟨⟨mn,mx,hs⟩,⟨.rfl _,.rfl _,.rfl _,trivial⟩,trivial,fun B hB=>trivial⟩

def tyTab:Ty:=.cons (.int .i64) (.cons (.cons (.int .i64) (.cons (.int .i64) (.cons .bool .nil))) .nil)
def bTab (B:Nat) (x:Tb):Prop:=True
theorem el_Tab:El1 tyTab tbC bTab:=fun r h=>by
  obtain ⟨_,_,rfl,⟨e,rfl,w_e⟩,_,_,rfl,⟨_,_,rfl,⟨mn,rfl,w_mn⟩,_,_,rfl,⟨mx,rfl,w_mx⟩,_,_,rfl,⟨hs,rfl⟩,rfl⟩,rfl⟩:=h
  exact ⟨⟨e,⟨mn,mx,hs⟩⟩,⟨.rfl _,.rfl _,.rfl _,.rfl _,trivial⟩,trivial,fun B hB=>trivial⟩

def tyImp:Ty:=.cons .str (.cons .str (.cons (.int .i64) (.cons (.int .i64) (.cons (.cons (.int .i64) (.cons (.cons (.int .i64) (.cons (.int .i64) (.cons .bool .nil))) .nil)) (.cons (.cons (.int .i64) (.cons (.int .i64) (.cons .bool .nil))) (.cons (.cons (.int .i64) (.cons .bool .nil)) .nil))))))
def bImp (B:Nat) (x:Im):Prop:=x.m.length ≤ B ∧ x.n.length ≤ B
theorem el_Imp:El1 tyImp imC bImp:=fun r h=>by
  obtain ⟨_,_,rfl,⟨m,rfl,w_m⟩,_,_,rfl,⟨n,rfl,w_n⟩,_,_,rfl,⟨k,rfl,w_k⟩,_,_,rfl,⟨f,rfl,w_f⟩,_,_,rfl,⟨_,_,rfl,⟨te,rfl,w_te⟩,_,_,rfl,⟨_,_,rfl,⟨tmn,rfl,w_tmn⟩,_,_,rfl,⟨tmx,rfl,w_tmx⟩,_,_,rfl,⟨ths,rfl⟩,rfl⟩,rfl⟩,_,_,rfl,⟨_,_,rfl,⟨qmn,rfl,w_qmn⟩,_,_,rfl,⟨qmx,rfl,w_qmx⟩,_,_,rfl,⟨qhs,rfl⟩,rfl⟩,_,_,rfl,⟨_,_,rfl,⟨gv,rfl,w_gv⟩,_,_,rfl,⟨gmu,rfl⟩,rfl⟩,rfl⟩:=h
  exact ⟨⟨m,n,k,f,te,⟨tmn,tmx,ths⟩,⟨qmn,qmx,qhs⟩,⟨gv,gmu⟩⟩,⟨.rfl _,.rfl _,.rfl _,.rfl _,.rfl _,.rfl _,.rfl _,.rfl _,.rfl _,.rfl _,.rfl _,.rfl _,.rfl _,trivial⟩,⟨w_m,w_n⟩,fun B hB=>⟨hB.1 _ rfl,hB.2.1 _ rfl⟩⟩

def tyCod:Ty:=.cons (.int .i64) (.cons (.sl (.int .i64)) (.cons (.sl tyIns) .nil))
def bCod (B:Nat) (x:Cd):Prop:=bL noB B x.lo ∧ bL bIns B x.b
theorem el_Cod:El1 tyCod cdC bCod:=fun r h=>by
  obtain ⟨_,_,rfl,⟨t,rfl,w_t⟩,_,_,rfl,h_lo,_,_,rfl,h_b,rfl⟩:=h
  obtain ⟨x_lo,l_lo,rfl,d_lo,m_lo,b_lo⟩:=slN el_vl h_lo
  obtain ⟨x_b,l_b,rfl,d_b,m_b,b_b⟩:=slN el_Ins h_b
  exact ⟨⟨t,l_lo,l_b⟩,⟨.rfl _,d_lo,d_b,trivial⟩,⟨m_lo,m_b⟩,fun B hB=>⟨b_lo B hB.2.1,b_b B hB.2.2.1⟩⟩

def tyGlo:Ty:=.cons (.cons (.int .i64) (.cons .bool .nil)) (.cons (.sl tyIns) .nil)
def bGlo (B:Nat) (x:Gd):Prop:=bL bIns B x.i
theorem el_Glo:El1 tyGlo gdC bGlo:=fun r h=>by
  obtain ⟨_,_,rfl,⟨_,_,rfl,⟨v,rfl,w_v⟩,_,_,rfl,⟨mu,rfl⟩,rfl⟩,_,_,rfl,h_i,rfl⟩:=h
  obtain ⟨x_i,l_i,rfl,d_i,m_i,b_i⟩:=slN el_Ins h_i
  exact ⟨⟨⟨v,mu⟩,l_i⟩,⟨.rfl _,.rfl _,d_i,trivial⟩,m_i,fun B hB=>b_i B hB.2.1⟩

def tyExp:Ty:=.cons .str (.cons (.int .i64) (.cons (.int .i64) .nil))
def bExp (B:Nat) (x:Ex):Prop:=x.n.length ≤ B
theorem el_Exp:El1 tyExp exC bExp:=fun r h=>by
  obtain ⟨_,_,rfl,⟨n,rfl,w_n⟩,_,_,rfl,⟨k,rfl,w_k⟩,_,_,rfl,⟨i,rfl,w_i⟩,rfl⟩:=h
  exact ⟨⟨n,k,i⟩,⟨.rfl _,.rfl _,.rfl _,trivial⟩,w_n,fun B hB=>hB.1 _ rfl⟩

theorem el_InsL:El1 (.sl tyIns) inL_ (bL bIns):=fun r h=>by
  obtain ⟨x,l,rfl,d,m,b⟩:=slN el_Ins h
  exact ⟨l,⟨d,trivial⟩,m,fun B hB=>b B hB⟩

def tyEle:Ty:=.cons (.int .i64) (.cons (.int .i64) (.cons (.sl tyIns) (.cons (.int .i64) (.cons (.sl (.sl tyIns)) .nil))))
def bEle (B:Nat) (x:El):Prop:=bL bIns B x.o ∧ bL (bL bIns) B x.it
theorem el_Ele:El1 tyEle elC bEle:=fun r h=>by
  obtain ⟨_,_,rfl,⟨mo,rfl,w_mo⟩,_,_,rfl,⟨tb,rfl,w_tb⟩,_,_,rfl,h_o,_,_,rfl,⟨ty,rfl,w_ty⟩,_,_,rfl,h_it,rfl⟩:=h
  obtain ⟨x_o,l_o,rfl,d_o,m_o,b_o⟩:=slN el_Ins h_o
  obtain ⟨x_it,l_it,rfl,d_it,m_it,b_it⟩:=slN el_InsL h_it
  exact ⟨⟨mo,tb,l_o,ty,l_it⟩,⟨.rfl _,.rfl _,d_o,.rfl _,d_it,trivial⟩,⟨m_o,m_it⟩,fun B hB=>⟨b_o B hB.2.2.1,b_it B hB.2.2.2.2.1⟩⟩

def tyDat:Ty:=.cons (.int .i64) (.cons (.int .i64) (.cons (.sl tyIns) (.cons (.sl (.int .u8)) .nil)))
def bDat (B:Nat) (x:Da):Prop:=bL bIns B x.o ∧ bL noB B x.b
theorem el_Dat:El1 tyDat daC bDat:=fun r h=>by
  obtain ⟨_,_,rfl,⟨mo,rfl,w_mo⟩,_,_,rfl,⟨me,rfl,w_me⟩,_,_,rfl,h_o,_,_,rfl,h_b,rfl⟩:=h
  obtain ⟨x_o,l_o,rfl,d_o,m_o,b_o⟩:=slN el_Ins h_o
  obtain ⟨x_b,l_b,rfl,d_b,m_b,b_b⟩:=slN el_by h_b
  exact ⟨⟨mo,me,l_o,l_b⟩,⟨.rfl _,.rfl _,d_o,d_b,trivial⟩,⟨m_o,m_b⟩,fun B hB=>⟨b_o B hB.2.2.1,b_b B hB.2.2.2.1⟩⟩

def tyCus:Ty:=.cons (.int .i64) (.cons .str (.cons (.sl (.int .u8)) .nil))
def bCus (B:Nat) (x:Cu):Prop:=x.n.length ≤ B ∧ bL noB B x.b
theorem el_Cus:El1 tyCus cuC bCus:=fun r h=>by
  obtain ⟨_,_,rfl,⟨af,rfl,w_af⟩,_,_,rfl,⟨n,rfl,w_n⟩,_,_,rfl,h_b,rfl⟩:=h
  obtain ⟨x_b,l_b,rfl,d_b,m_b,b_b⟩:=slN el_by h_b
  exact ⟨⟨af,n,l_b⟩,⟨.rfl _,.rfl _,d_b,trivial⟩,⟨w_n,m_b⟩,fun B hB=>⟨hB.2.1 _ rfl,b_b B hB.2.2.1⟩⟩

def tyMod:Ty:=.cons (.sl tyFun) (.cons (.sl tyImp) (.cons (.sl tyCod) (.cons (.sl tyTab) (.cons (.sl tyLim) (.cons (.sl tyGlo) (.cons (.sl tyExp) (.cons .bool (.cons (.int .i64) (.cons (.sl tyEle) (.cons (.sl tyDat) (.cons (.sl tyCus) .nil)))))))))))
def bMod (B:Nat) (x:Md):Prop:=bL bFun B x.ts ∧ bL bImp B x.ims ∧ bL bCod B x.fs ∧ bL bTab B x.tbs ∧ bL bLim B x.ms ∧ bL bGlo B x.gs ∧ bL bExp B x.exs ∧ bL bEle B x.els ∧ bL bDat B x.ds ∧ bL bCus B x.cs
theorem el_Mod:El1 tyMod mdC bMod:=fun r h=>by
  obtain ⟨_,_,rfl,h_ts,_,_,rfl,h_ims,_,_,rfl,h_fs,_,_,rfl,h_tbs,_,_,rfl,h_ms,_,_,rfl,h_gs,_,_,rfl,h_exs,_,_,rfl,⟨hs,rfl⟩,_,_,rfl,⟨st,rfl,w_st⟩,_,_,rfl,h_els,_,_,rfl,h_ds,_,_,rfl,h_cs,rfl⟩:=h
  obtain ⟨x_ts,l_ts,rfl,d_ts,m_ts,b_ts⟩:=slN el_Fun h_ts
  obtain ⟨x_ims,l_ims,rfl,d_ims,m_ims,b_ims⟩:=slN el_Imp h_ims
  obtain ⟨x_fs,l_fs,rfl,d_fs,m_fs,b_fs⟩:=slN el_Cod h_fs
  obtain ⟨x_tbs,l_tbs,rfl,d_tbs,m_tbs,b_tbs⟩:=slN el_Tab h_tbs
  obtain ⟨x_ms,l_ms,rfl,d_ms,m_ms,b_ms⟩:=slN el_Lim h_ms
  obtain ⟨x_gs,l_gs,rfl,d_gs,m_gs,b_gs⟩:=slN el_Glo h_gs
  obtain ⟨x_exs,l_exs,rfl,d_exs,m_exs,b_exs⟩:=slN el_Exp h_exs
  obtain ⟨x_els,l_els,rfl,d_els,m_els,b_els⟩:=slN el_Ele h_els
  obtain ⟨x_ds,l_ds,rfl,d_ds,m_ds,b_ds⟩:=slN el_Dat h_ds
  obtain ⟨x_cs,l_cs,rfl,d_cs,m_cs,b_cs⟩:=slN el_Cus h_cs
  exact ⟨⟨l_ts,l_ims,l_fs,l_tbs,l_ms,l_gs,l_exs,hs,st,l_els,l_ds,l_cs⟩,⟨d_ts,d_ims,d_fs,d_tbs,d_ms,d_gs,d_exs,.rfl _,.rfl _,d_els,d_ds,d_cs,trivial⟩,⟨m_ts,m_ims,m_fs,m_tbs,m_ms,m_gs,m_exs,m_els,m_ds,m_cs⟩,fun B hB=>⟨b_ts B hB.1,b_ims B hB.2.1,b_fs B hB.2.2.1,b_tbs B hB.2.2.2.1,b_ms B hB.2.2.2.2.1,b_gs B hB.2.2.2.2.2.1,b_exs B hB.2.2.2.2.2.2.1,b_els B hB.2.2.2.2.2.2.2.2.2.1,b_ds B hB.2.2.2.2.2.2.2.2.2.2.1,b_cs B hB.2.2.2.2.2.2.2.2.2.2.2.1⟩⟩

theorem recV {α:Type} {τ:Ty} {f:α → List AV} {p:Nat → α → Prop} (h:El1 τ f p) (hr:τ.isRec = true) {x:AV} (hx:τ.okV x):∃ a,nld x (.agg (f a)) ∧ p maxLen a ∧ ∀ B,τ.bdV B x → p B a:=by
  unfold Ty.okV at hx
  rw [hr] at hx
  obtain ⟨xs,rfl,hx⟩:=hx
  obtain ⟨a,h1,h2,h3⟩:=h xs hx
  refine ⟨a,.inr ⟨_,_,rfl,rfl,h1⟩,h2,fun B hB=>h3 B ?_⟩
  unfold Ty.bdV at hB
  rw [hr] at hB
  exact hB _ rfl
theorem ok_1 {τ:Ty} {xs:List AV} (h:All2 Ty.okV [τ] xs):∃ x,xs = [x] ∧ τ.okV x:=by
  match xs,h with
  | [x],h=>exact ⟨x,rfl,h.1⟩
theorem tyM33:tyOf Tryz.prog 9 33 = some tyMod:=by kernel_rfl
end Go.Proofs.YtoaagdbbbojpmaaGreatDoor
set_option maxRecDepth 100000
set_option maxHeartbeats 40000000
set_option linter.unusedVariables false
set_option linter.unusedSimpArgs false
namespace Go.Proofs.YtoaagdbbbojpmaaGreatDoor
open Go Go.Mw
-- @U: List.length_map,mdC_e,exMr_e

def im0:Im:=⟨[],[],1,0,3,⟨0,0,false⟩,⟨0,0,false⟩,⟨0,false⟩⟩
def exM:Md:=⟨[⟨[],[]⟩],[],[⟨0,[],[⟨6,0,0,0,0,0,0,[],[]⟩,⟨11,0,0,0,0,0,0,[],[]⟩]⟩],[],[],[],[],false,0,[],[],[]⟩
def exT:Md:=⟨List.replicate 65 ⟨[],[]⟩,[],[],[],[],[],[],false,0,[],[],[]⟩
def exV:Md:=⟨[],List.replicate 5 im0,[],[],[],[],[],false,0,[],[],[]⟩
def exMr:List AV:=[.sl 2 [[.nl,.nl]],.nl,.sl 3 [[.int .i64 0,.nl,.sl 9 [[.int .i64 6,.int .i64 0,.int .i64 0,.int .u64 0,.int .i64 0,.int .i64 0,.int .i64 0,.nl,.nl],[.int .i64 11,.int .i64 0,.int .i64 0,.int .u64 0,.int .i64 0,.int .i64 0,.int .i64 0,.nl,.nl]]]],.nl,.nl,.nl,.nl,.bool false,.int .i64 0,.nl,.nl,.nl]
def exTr:List AV:=[.sl 2 (List.replicate 65 [.nl,.nl]),.nl,.nl,.nl,.nl,.nl,.nl,.bool false,.int .i64 0,.nl,.nl,.nl]
def exVr:List AV:=[.nl,.sl 13 ((List.replicate 5 im0).map imC),.nl,.nl,.nl,.nl,.nl,.bool false,.int .i64 0,.nl,.nl,.nl]
theorem exMr_e:exMr = [.sl 2 [[.nl,.nl]],.nl,.sl 3 [[.int .i64 0,.nl,.sl 9 [[.int .i64 6,.int .i64 0,.int .i64 0,.int .u64 0,.int .i64 0,.int .i64 0,.int .i64 0,.nl,.nl],[.int .i64 11,.int .i64 0,.int .i64 0,.int .u64 0,.int .i64 0,.int .i64 0,.int .i64 0,.nl,.nl]]]],.nl,.nl,.nl,.nl,.bool false,.int .i64 0,.nl,.nl,.nl]:=rfl
theorem exTr_e:exTr = [.sl 2 (List.replicate 65 [.nl,.nl]),.nl,.nl,.nl,.nl,.nl,.nl,.bool false,.int .i64 0,.nl,.nl,.nl]:=rfl
theorem exVr_e:exVr = [.nl,.sl 13 ((List.replicate 5 im0).map imC),.nl,.nl,.nl,.nl,.nl,.bool false,.int .i64 0,.nl,.nl,.nl]:=rfl
theorem nd_M:nld (.agg exMr) (md_ exM) :=
  .inr ⟨_,_,rfl,rfl,ndRows ⟨⟨.nl _,.nl _,trivial⟩,trivial⟩,.nl _,ndRows ⟨⟨.rfl _,.nl _,ndRows ⟨⟨.rfl _,.rfl _,.rfl _,.rfl _,.rfl _,.rfl _,.rfl _,.nl _,.nl _,trivial⟩,⟨.rfl _,.rfl _,.rfl _,.rfl _,.rfl _,.rfl _,.rfl _,.nl _,.nl _,trivial⟩,trivial⟩,trivial⟩,trivial⟩,.nl _,.nl _,.nl _,.nl _,.rfl _,.rfl _,.nl _,.nl _,.nl _,trivial⟩
theorem nd_rep:∀ n:Nat,All2 (All2 Nd) (List.replicate n [.nl,.nl]) ((List.replicate n (⟨[],[]⟩:Ft)).map ftC)
  | 0=>trivial
  | n + 1=>⟨⟨.nl _,.nl _,trivial⟩,nd_rep n⟩
theorem nd_T:nld (.agg exTr) (md_ exT):=.inr ⟨_,_,rfl,rfl,ndRows (nd_rep 65),.nl _,.nl _,.nl _,.nl _,.nl _,.nl _,.rfl _,.rfl _,.nl _,.nl _,.nl _,trivial⟩
theorem nd_V:nld (.agg exVr) (md_ exV):=.inr ⟨_,_,rfl,rfl,.nl _,.rfl _,.nl _,.nl _,.nl _,.nl _,.nl _,.rfl _,.rfl _,.nl _,.nl _,.nl _,trivial⟩
theorem sm_M:smM exM:=⟨⟨by decide,fun x hx=>by
    simp only [exM,List.mem_singleton] at hx; subst hx; exact ⟨by decide,by decide⟩⟩,by decide,⟨by decide,fun x hx=>by
    simp only [exM,List.mem_singleton] at hx; subst hx
    refine ⟨by decide,by decide,fun y hy=>?_⟩
    simp only [List.mem_cons,List.not_mem_nil,or_false] at hy
    rcases hy with rfl | rfl <;> exact ⟨by decide,by decide,by decide⟩⟩,by decide,by decide,⟨by decide,fun x h=>by cases h⟩,by decide,⟨by decide,fun x h=>by cases h⟩,⟨by decide,fun x h=>by cases h⟩,⟨by decide,fun x h=>by cases h⟩⟩
theorem sm_T:smM exT:=⟨⟨by decide,fun x hx=>by
    obtain rfl:=List.eq_of_mem_replicate hx; exact ⟨by decide,by decide⟩⟩,by decide,⟨by decide,fun x h=>by cases h⟩,by decide,by decide,⟨by decide,fun x h=>by cases h⟩,by decide,⟨by decide,fun x h=>by cases h⟩,⟨by decide,fun x h=>by cases h⟩,⟨by decide,fun x h=>by cases h⟩⟩
theorem sm_V:cpM exV:=⟨⟨by decide,fun x h=>by cases h⟩,by decide,⟨by decide,fun x h=>by cases h⟩,by decide,by decide,⟨by decide,fun x h=>by cases h⟩,by decide,⟨by decide,fun x h=>by cases h⟩,⟨by decide,fun x h=>by cases h⟩,⟨by decide,fun x h=>by cases h⟩⟩
deriving instance DecidableEq for Fa
theorem lim_M:limA plB exM = ⟨12,0,0,10⟩:=by decide +kernel
theorem lim_T:limA plB exT = ⟨1,64,0,6⟩:=by decide +kernel
theorem ins_M:insA exM = 2:=by decide +kernel
theorem same_MV:decide (SameP exM exV) = false:=by
  apply decide_eq_false
  intro h
  have:=h.2.2.1
  cases this
attribute [local go_sem] List.length_map mdC_e exMr_e
theorem s_alive7:PCalls Tryz.prog nX79 [] (.bool true):=by
  refine pfun_sound (ic:=FX79.body) mixed cX79 rfl rfl ?_
  have c1:PCalls Tryz.prog nX87 [.agg exMr] (.agg [.int .i64 12,.int .i64 0,.int .i64 0,.int .i64 10]):=by
    have c:=m_limits plB exM sm_M s_plB
    rw [lim_M] at c
    exact PCalls_nld c ⟨nd_M,trivial⟩
  have c2:PCalls Tryz.prog nX87 [.agg exTr] (.agg [.int .i64 1,.int .i64 64,.int .i64 0,.int .i64 6]):=by
    have c:=m_limits plB exT sm_T s_plB
    rw [lim_T] at c
    exact PCalls_nld c ⟨nd_T,trivial⟩
  have c3:PCalls Tryz.prog nX115 [.agg exMr,.agg exMr] (.bool true):=by
    have c:=m_same7 exM exM sm_M
    rw [decide_eq_true (SameP_refl exM)] at c
    exact PCalls_nld c ⟨nd_M,nd_M,trivial⟩
  have c4:PCalls Tryz.prog nX115 [.agg exMr,.agg exVr] (.bool false):=by
    have c:=m_same7 exM exV sm_M
    rw [same_MV] at c
    exact PCalls_nld c ⟨nd_M,nd_V,trivial⟩
  have c5:PCalls Tryz.prog nX86 [.agg exMr] (.int .i64 2):=by
    have c:=m_instrs exM sm_M
    rw [ins_M] at c
    exact PCalls_nld c ⟨nd_M,trivial⟩
  have c6:PCalls Tryz.prog nX114 [.agg exVr] (md_ exV):=PCalls_nld (s_copy7 exV sm_V) ⟨nd_V,trivial⟩
  rw [exMr_e] at c1 c3 c4 c5
  rw [exVr_e] at c4 c6
  rw [exTr_e] at c2
  simp only [go_sem,FX79]
  refine ⟨_,Wk.frzs [7,10] _,?_⟩
  simp only [opNew_bsl]
  simp only [go_sem,Nat.le_refl,List.take_succ_cons,List.take_zero]
  refine loop_rule (fun j:Nat=>⟨[(4,.int .i64 j),(3,.mp 3 12 0 0),(2,.mp 2 12 0 0),(0,.bool false)],[(3,⟨33,12,[[.nl,.ms 900 13 0 j,.nl,.nl,.nl,.nl,.nl,.bool false,.int .i64 0,.nl,.nl,.nl]],true⟩),(900,⟨80,13,(List.replicate j im0).map imC,false⟩),(2,⟨33,12,[exMr],true⟩)]⟩) (fun j=>j ≤ 5) (fun j=>5 - j) 0 (Nat.zero_le _) ((Wk.frzs [12] _).trans ((Wk.new0 _ 900 13 80 (.inl (by decide))).trans ((Wk.nlm _ 3 (r:=[.nl,.nl,.nl,.nl,.nl,.nl,.nl,.bool false,.int .i64 0,.nl,.nl,.nl]) rfl (r':=[.nl,.ms 900 13 0 0,.nl,.nl,.nl,.nl,.nl,.bool false,.int .i64 0,.nl,.nl,.nl]) ⟨.inl rfl,.inr ⟨rfl,.inr ⟨_,_,rfl⟩⟩,.inl rfl,.inl rfl,.inl rfl,.inl rfl,.inl rfl,.inl rfl,.inl rfl,.inl rfl,.inl rfl,.inl rfl,trivial⟩).trans (Wk.of ?_ ?_)))) ?_
  · simp only [go_sem]; try simp
  · simp only [go_sem,Nat.le_refl,List.take_succ_cons,List.take_zero]; try simp [exMr]
  intro j hj
  have happ:=fun ys=>appO_map 900 80 13 j imC (List.replicate j im0) ys (by simp)
  by_cases h1:(j:Int) < 5
  · have e8:=i_bd (show j < 5 by omega) (by omega)
    simp only [go_sem,decide_eq_true h1,happ]
    refine ⟨by omega,klp_n (j + 1) (show j + 1 ≤ 5 by omega) (show 5 - (j + 1) < 5 - j by omega) (Wk.of ?_ ?_)⟩
    · simp only [go_sem,e8]; try simp
    · simp only [go_sem]; try simp [List.replicate_succ',im0,imC_e]
  obtain rfl:j = 5:=by omega
  simp only [go_sem,decide_eq_false h1]
  refine call_same (c1) (by simp [go_sem]) ?_
  simp only [go_sem]
  refine ⟨by decide,?_⟩
  refine call_frz [31] ?_ c2 (by simp [go_sem]) ?_
  · simp only [go_sem,Nat.le_refl]
    try rfl
  simp only [go_sem]
  refine call_same (c3) (by simp [go_sem]) ?_
  simp only [go_sem]
  refine call_frz [900] ?_ c4 (by simp [go_sem]) ?_
  · simp only [go_sem,Nat.le_refl]
    try rfl
  simp only [go_sem]
  refine call_same (c5) (by simp [go_sem]) ?_
  simp only [go_sem]
  refine call_frz [] ?_ c6 (by simp [go_sem]) ?_
  · first | rfl | (simp only [go_sem,Nat.le_refl]; try rfl)
  simp only [go_sem,md_,show ((exV.ims.length:Nat):Int) = 5 from rfl]
  exact pdone [] (by simp only [go_sem]) (by first | rfl | simp [go_sem,slv_ids])
end Go.Proofs.YtoaagdbbbojpmaaGreatDoor
set_option maxRecDepth 100000
set_option maxHeartbeats 40000000
set_option linter.unusedVariables false
set_option linter.unusedSimpArgs false
namespace Go.Proofs.YtoaagdbbbojpmaaGreatDoor
open Go Go.Mw
-- @U: List.length_map,inL_e,ins_e,insC

def okX (x:Ins):Bool:=!decide ((x.lb.length:Int) > 100) && !decide ((x.ty.length:Int) > 100)
def okLw (l:List Ins):Bool:=l.all okX
theorem okL_f {l:List Ins} {k:Nat} (hk:k < l.length) (h:okX (nth l k) = false):okLw l = false:=by
  unfold okLw
  rw [List.all_eq_false]
  exact ⟨nth l k,by rw [nth_eq hk]; exact List.getElem_mem hk,by simp [h]⟩
theorem okL_t {l:List Ins} (h:∀ k,k < l.length → okX (nth l k) = true):okLw l = true:=by
  unfold okLw
  rw [List.all_eq_true]
  intro x hx
  obtain ⟨i,hi,rfl⟩:=List.getElem_of_mem hx
  have:=h i hi
  rwa [nth_eq hi] at this
def rwsB:Int → List (List Ins) → Bool
  | _,[]=>true
  | n,l :: r=>if IntKind.i64.wrap (n + (l.length:Int)) > 3000 then false else if okLw l = false then false else rwsB (IntKind.i64.wrap (n + (l.length:Int))) r
theorem rws_at {n:Int} {l:List (List Ins)} {i:Nat} (h:i < l.length):rwsB n (l.drop i) = if IntKind.i64.wrap (n + ((nth l i).length:Int)) > 3000 then false else if okLw (nth l i) = false then false else rwsB (IntKind.i64.wrap (n + ((nth l i).length:Int))) (l.drop (i + 1)):=by
  rw [drop_c h,rwsB]
attribute [local go_sem] List.length_map inL_e ins_e insC
theorem s_rows7 (L:List (List Ins)) (hL:L.length ≤ 1048576) (hb:∀ l ∈ L,l.length ≤ 9223372036854775807):PCalls Tryz.prog nX106 [.sl 1 (L.map inL_),.int .i64 3000] (.bool (rwsB 0 L)):=by
  refine pfun_sound (ic:=FX106.body) mixed cX106 rfl rfl ?_
  obtain ⟨G,hG⟩:∃ G,rwsB 0 L = G:=⟨_,rfl⟩
  rw [hG]
  simp only [go_sem,FX106]
  refine loop_rule (fun q:Nat × Int=>⟨[(6,.int .i64 q.1),(5,.int .i64 q.2),(0,.sl 1 (L.map inL_)),(1,.int .i64 3000)],[]⟩) (fun q=>q.1 ≤ L.length ∧ G = rwsB q.2 (L.drop q.1)) (fun q=>L.length - q.1) (0,0) ⟨Nat.zero_le _,hG.symm⟩ (Wk.of ?_ ?_) ?_
  · simp only [go_sem]; try simp
  · simp only [go_sem]
  rintro ⟨j,n⟩ ⟨hj,hx⟩
  simp only at hj hx
  by_cases h1:(j:Int) < (L.length:Int)
  rotate_left
  · rw [drop_end (by omega)] at hx
    obtain rfl:G = true:=hx
    simp only [go_sem,decide_eq_false h1]
    exact pdone [] (by simp only [go_sem]) (by first | rfl | simp [go_sem,slv_ids])
  have hj':j < L.length:=by omega
  have e8:=i_bd hj' (by omega)
  have hlb:=at_in hb hj'
  rw [rws_at hj'] at hx
  by_cases q1:IntKind.i64.wrap (n + ((nth L j).length:Int)) > 3000
  · rw [if_pos q1] at hx
    subst hx
    simp only [go_sem,decide_eq_true h1,decide_eq_true q1]
    refine ⟨by omega,h1,?_⟩
    exact pdone [] (by simp only [go_sem]) (by first | rfl | simp [go_sem,slv_ids])
  rw [if_neg q1] at hx
  simp only [go_sem,decide_eq_true h1,decide_eq_false q1]
  refine ⟨by omega,h1,?_⟩
  generalize IntKind.i64.wrap (n + ((nth L j).length:Int)) = N at *
  refine loop_rule (fun k:Nat=>⟨[(7,.int .i64 k),(6,.int .i64 j),(5,.int .i64 N),(0,.sl 1 (L.map inL_)),(1,.int .i64 3000)],[]⟩) (fun k=>k ≤ (nth L j).length ∧ ∀ i,i < k → okX (nth (nth L j) i) = true) (fun k=>(nth L j).length - k) 0 ⟨Nat.zero_le _,fun k hk=>by omega⟩ (Wk.of ?_ ?_) ?_
  · simp only [go_sem]; try simp
  · simp only [go_sem]
  rintro k ⟨hk,hy⟩
  by_cases g1:(k:Int) < ((nth L j).length:Int)
  rotate_left
  · rw [if_neg (by rw [okL_t fun i hi=>hy i (by omega)]; decide)] at hx
    simp only [go_sem,decide_eq_false g1]
    refine ⟨by omega,h1,?_⟩
    refine klp_n (j + 1,N) ⟨show j + 1 ≤ L.length by omega,hx⟩ (show L.length - (j + 1) < L.length - j by omega) (Wk.of ?_ ?_)
    · simp only [go_sem,e8]; try simp
    · simp only [go_sem]
  have hk':k < (nth L j).length:=by omega
  have e9:=i_bd hk' (by omega)
  by_cases q2:((nth (nth L j) k).lb.length:Int) > 100
  · rw [if_pos (okL_f hk' (by unfold okX; rw [decide_eq_true q2]; rfl))] at hx
    subst hx
    simp only [go_sem,decide_eq_true g1,decide_eq_true q2]
    refine ⟨by omega,h1,by omega,h1,by omega,g1,?_⟩
    exact pdone [] (by simp only [go_sem]) (by first | rfl | simp [go_sem,slv_ids])
  by_cases q3:((nth (nth L j) k).ty.length:Int) > 100
  · rw [if_pos (okL_f hk' (by unfold okX; rw [decide_eq_true q3]; simp))] at hx
    subst hx
    simp only [go_sem,decide_eq_true g1,decide_eq_false q2,decide_eq_true q3]
    refine ⟨by omega,h1,by omega,h1,by omega,g1,by omega,h1,by omega,g1,?_⟩
    exact pdone [] (by simp only [go_sem]) (by first | rfl | simp [go_sem,slv_ids])
  simp only [go_sem,decide_eq_true g1,decide_eq_false q2,decide_eq_false q3]
  refine ⟨by omega,h1,by omega,h1,by omega,g1,by omega,h1,by omega,g1,?_⟩
  refine klp_n (k + 1) ⟨show k + 1 ≤ (nth L j).length by omega,fun i hi=>?_⟩ (show (nth L j).length - (k + 1) < (nth L j).length - k by omega) (Wk.of ?_ ?_)
  · rcases Nat.lt_or_ge i k with z | z
    · exact hy i z
    · rw [show i = k by omega]
      unfold okX
      rw [decide_eq_false q2,decide_eq_false q3]; rfl
  · simp only [go_sem,e9]; try simp
  · simp only [go_sem]
end Go.Proofs.YtoaagdbbbojpmaaGreatDoor
set_option maxRecDepth 100000
set_option maxHeartbeats 40000000
set_option linter.unusedVariables false
set_option linter.unusedSimpArgs false
namespace Go.Proofs.YtoaagdbbbojpmaaGreatDoor
open Go Go.Mw
-- @U: List.length_map,mdC_e,ftC_e,imC_e,cdC_e,gdC_e,exC_e,elC_e,daC_e,cuC_e,inL_e

theorem mx_le:maxLen ≤ 9223372036854775807:=by decide
theorem smIs_x {l:List Ins} (h:bL bIns maxLen l):smIs l:=⟨h.1,fun x hx=>⟨(h.2 x hx).2.1.1,(h.2 x hx).2.2.1,(h.2 x hx).1.1⟩⟩
structure lgM (m:Md):Prop where
  ts:m.ts.length ≤ 100
  ims:m.ims.length ≤ 100
  fs:m.fs.length ≤ 100
  tbs:m.tbs.length ≤ 100
  ms:m.ms.length ≤ 100
  gs:m.gs.length ≤ 100
  exs:m.exs.length ≤ 100
  els:m.els.length ≤ 100
  ds:m.ds.length ≤ 100
  cs:m.cs.length ≤ 100
  it:∀ x ∈ m.els,x.it.length ≤ 300
theorem lg_sm {m:Md} (hm:bMod maxLen m) (h:lgM m):smM m:=by
  obtain ⟨b1,b2,b3,b4,b5,b6,b7,b8,b9,b10⟩:=hm
  have up:∀ {n:Nat},n ≤ 100 → n ≤ 1048576:=fun h=>by omega
  exact ⟨⟨up h.ts,fun x hx=>⟨(b1.2 x hx).1.1,(b1.2 x hx).2.1⟩⟩,up h.ims,⟨up h.fs,fun x hx=>⟨(b3.2 x hx).1.1,smIs_x (b3.2 x hx).2⟩⟩,up h.tbs,up h.ms,⟨up h.gs,fun x hx=>smIs_x (b6.2 x hx)⟩,up h.exs,⟨up h.els,fun x hx=>⟨smIs_x (b8.2 x hx).1,by have:=h.it x hx; omega,fun l hl=>smIs_x ((b8.2 x hx).2.2 l hl)⟩⟩,⟨up h.ds,fun x hx=>⟨smIs_x (b9.2 x hx).1,(b9.2 x hx).2.1⟩⟩,⟨up h.cs,fun x hx=>(b10.2 x hx).2.1⟩⟩
attribute [local go_sem] List.length_map mdC_e ftC_e imC_e cdC_e gdC_e exC_e elC_e daC_e cuC_e inL_e
theorem s_light (m:Md) (hm:bMod maxLen m):ACalls Tryz.prog nX78 [md_ m] [] sb (fun r' σ'=>∃ b:Bool,(b = true → lgM m) ∧ r' = .bool b ∧ σ' = []):=by
  refine fun_sound (ic:=FX78.body) mixed cX78 rfl rfl ?_
  obtain ⟨b1,b2,b3,b4,b5,b6,b7,b8,b9,b10⟩:=hm
  have hmx:=mx_le
  by_cases l0:(m.ts.length:Int) > 100
  · simp only [go_sem,FX78,md_,decide_eq_true l0]
    exact done [] (.bool false) [] (by simp only [go_sem]) trivial rfl ⟨false,(fun h=>by cases h),rfl,rfl⟩
  by_cases l1:(m.ims.length:Int) > 100
  · simp only [go_sem,FX78,md_,decide_eq_false l0,decide_eq_true l1]
    exact done [] (.bool false) [] (by simp only [go_sem]) trivial rfl ⟨false,(fun h=>by cases h),rfl,rfl⟩
  by_cases l2:(m.fs.length:Int) > 100
  · simp only [go_sem,FX78,md_,decide_eq_false l0,decide_eq_false l1,decide_eq_true l2]
    exact done [] (.bool false) [] (by simp only [go_sem]) trivial rfl ⟨false,(fun h=>by cases h),rfl,rfl⟩
  by_cases l3:(m.tbs.length:Int) > 100
  · simp only [go_sem,FX78,md_,decide_eq_false l0,decide_eq_false l1,decide_eq_false l2,decide_eq_true l3]
    exact done [] (.bool false) [] (by simp only [go_sem]) trivial rfl ⟨false,(fun h=>by cases h),rfl,rfl⟩
  by_cases l4:(m.ms.length:Int) > 100
  · simp only [go_sem,FX78,md_,decide_eq_false l0,decide_eq_false l1,decide_eq_false l2,decide_eq_false l3,decide_eq_true l4]
    exact done [] (.bool false) [] (by simp only [go_sem]) trivial rfl ⟨false,(fun h=>by cases h),rfl,rfl⟩
  by_cases l5:(m.gs.length:Int) > 100
  · simp only [go_sem,FX78,md_,decide_eq_false l0,decide_eq_false l1,decide_eq_false l2,decide_eq_false l3,decide_eq_false l4,decide_eq_true l5]
    exact done [] (.bool false) [] (by simp only [go_sem]) trivial rfl ⟨false,(fun h=>by cases h),rfl,rfl⟩
  by_cases l6:(m.exs.length:Int) > 100
  · simp only [go_sem,FX78,md_,decide_eq_false l0,decide_eq_false l1,decide_eq_false l2,decide_eq_false l3,decide_eq_false l4,decide_eq_false l5,decide_eq_true l6]
    exact done [] (.bool false) [] (by simp only [go_sem]) trivial rfl ⟨false,(fun h=>by cases h),rfl,rfl⟩
  by_cases l7:(m.els.length:Int) > 100
  · simp only [go_sem,FX78,md_,decide_eq_false l0,decide_eq_false l1,decide_eq_false l2,decide_eq_false l3,decide_eq_false l4,decide_eq_false l5,decide_eq_false l6,decide_eq_true l7]
    exact done [] (.bool false) [] (by simp only [go_sem]) trivial rfl ⟨false,(fun h=>by cases h),rfl,rfl⟩
  by_cases l8:(m.ds.length:Int) > 100
  · simp only [go_sem,FX78,md_,decide_eq_false l0,decide_eq_false l1,decide_eq_false l2,decide_eq_false l3,decide_eq_false l4,decide_eq_false l5,decide_eq_false l6,decide_eq_false l7,decide_eq_true l8]
    exact done [] (.bool false) [] (by simp only [go_sem]) trivial rfl ⟨false,(fun h=>by cases h),rfl,rfl⟩
  by_cases l9:(m.cs.length:Int) > 100
  · simp only [go_sem,FX78,md_,decide_eq_false l0,decide_eq_false l1,decide_eq_false l2,decide_eq_false l3,decide_eq_false l4,decide_eq_false l5,decide_eq_false l6,decide_eq_false l7,decide_eq_false l8,decide_eq_true l9]
    exact done [] (.bool false) [] (by simp only [go_sem]) trivial rfl ⟨false,(fun h=>by cases h),rfl,rfl⟩
  simp only [go_sem,FX78,md_,decide_eq_false l0,decide_eq_false l1,decide_eq_false l2,decide_eq_false l3,decide_eq_false l4,decide_eq_false l5,decide_eq_false l6,decide_eq_false l7,decide_eq_false l8,decide_eq_false l9]
  refine loop_rule (fun q:Nat × Int=>⟨[(5,.int .i64 q.1),(4,.int .i64 q.2),(3,.nl),(1,.mp 1 12 0 0)],[(1,⟨33,12,[mdC m],true⟩)]⟩) (fun q=>q.1 ≤ m.ts.length) (fun q=>m.ts.length - q.1) (0,0) (Nat.zero_le _) (Wk.of ?_ ?_) ?_
  · simp only [go_sem]; try simp [go_sem]
  · simp only [go_sem]; try simp [go_sem]
  rintro ⟨j,n0⟩ hj
  simp only at hj
  by_cases h1:(j:Int) < (m.ts.length:Int)
  · have hj':j < m.ts.length:=by omega
    have e8:=i_bd hj' (by omega)
    have hb:=at_in b1.2 hj'
    simp only [go_sem,decide_eq_true h1]
    refine ⟨by omega,h1,by omega,h1,?_⟩
    refine klp_n (j + 1,IntKind.i64.wrap (n0 + IntKind.i64.wrap (((nth m.ts j).ps.length:Int) + ((nth m.ts j).rs.length:Int)))) (show j + 1 ≤ m.ts.length by omega) (show m.ts.length - (j + 1) < m.ts.length - j by omega) (Wk.of ?_ ?_)
    · simp only [go_sem,e8]; (try simp); (try omega)
    · simp only [go_sem]; try simp [inL_e]
  obtain rfl:j = m.ts.length:=by omega
  simp only [go_sem,decide_eq_false h1]
  clear h1 hj
  refine loop_rule (fun q:Nat × Int=>⟨[(6,.int .i64 q.1),(4,.int .i64 q.2),(3,.nl),(1,.mp 1 12 0 0)],[(1,⟨33,12,[mdC m],true⟩)]⟩) (fun q=>q.1 ≤ m.ims.length) (fun q=>m.ims.length - q.1) (0,n0) (Nat.zero_le _) (Wk.of ?_ ?_) ?_
  · simp only [go_sem]; try simp [go_sem]
  · simp only [go_sem]; try simp [go_sem]
  rintro ⟨j,n1⟩ hj
  simp only at hj
  by_cases h1:(j:Int) < (m.ims.length:Int)
  · have hj':j < m.ims.length:=by omega
    have e8:=i_bd hj' (by omega)
    have hb:=at_in b2.2 hj'
    simp only [go_sem,decide_eq_true h1]
    refine ⟨by omega,h1,by omega,h1,?_⟩
    refine klp_n (j + 1,IntKind.i64.wrap (n1 + IntKind.i64.wrap (((nth m.ims j).m.length:Int) + ((nth m.ims j).n.length:Int)))) (show j + 1 ≤ m.ims.length by omega) (show m.ims.length - (j + 1) < m.ims.length - j by omega) (Wk.of ?_ ?_)
    · simp only [go_sem,e8]; (try simp); (try omega)
    · simp only [go_sem]; try simp [inL_e]
  obtain rfl:j = m.ims.length:=by omega
  simp only [go_sem,decide_eq_false h1]
  clear h1 hj
  refine loop_rule (fun q:Nat × Int × List (List Ins)=>⟨[(7,.int .i64 q.1),(4,.int .i64 q.2.1),(3,.ms 900 1 0 q.2.2.length),(1,.mp 1 12 0 0)],[(1,⟨33,12,[mdC m],true⟩),(900,⟨50,1,q.2.2.map inL_,false⟩)]⟩) (fun q=>q.1 ≤ m.fs.length ∧ (∀ l ∈ q.2.2,l.length ≤ 9223372036854775807) ∧ q.2.2.length ≤ 0 + q.1 * 1) (fun q=>m.fs.length - q.1) (0,n1,[]) ⟨Nat.zero_le _,fun l hl=>absurd hl List.not_mem_nil,by simp⟩ ((Wk.nil _ 3 900 1 50 (by simp only [go_sem]) (.inl (by decide))).trans (Wk.of ?_ ?_)) ?_
  · simp only [go_sem,St.mknil]; try simp [go_sem]
  · simp only [go_sem,St.mknil]; try simp [go_sem]
  rintro ⟨j,n2,L2⟩ ⟨hj,hLb2,hLn2⟩
  simp only at hj hLb2 hLn2
  by_cases h1:(j:Int) < (m.fs.length:Int)
  · have hj':j < m.fs.length:=by omega
    have e8:=i_bd hj' (by omega)
    have hb:=at_in b3.2 hj'
    have happ:=fun ys=>appO_map 900 50 1 L2.length inL_ L2 ys rfl
    simp only [go_sem,decide_eq_true h1,happ]
    refine ⟨by omega,h1,by omega,h1,by omega,?_⟩
    refine klp_n (j + 1,IntKind.i64.wrap (n2 + ((nth m.fs j).lo.length:Int)),L2 ++ [(nth m.fs j).b]) ⟨show j + 1 ≤ m.fs.length by omega,fun l hl=>?_,?_⟩ (show m.fs.length - (j + 1) < m.fs.length - j by omega) (Wk.of ?_ ?_)
    · have:l ∈ L2 ++ [(nth m.fs j).b]:=hl
      simp only [List.mem_append,List.mem_singleton] at this
      rcases this with z | rfl
      · exact hLb2 l z
      · exact Nat.le_trans (hb.2).1 hmx
    · show (L2 ++ [(nth m.fs j).b]).length ≤ _; simp only [List.length_append,List.length_cons,List.length_nil]; omega
    · simp only [go_sem,e8]; (try simp); (try omega)
    · simp only [go_sem]; try simp [inL_e]
  obtain rfl:j = m.fs.length:=by omega
  replace hLn2:L2.length ≤ 100:=by omega
  simp only [go_sem,decide_eq_false h1]
  clear h1 hj
  refine loop_rule (fun q:Nat × Int × List (List Ins)=>⟨[(8,.int .i64 q.1),(4,.int .i64 q.2.1),(3,.ms 900 1 0 q.2.2.length),(1,.mp 1 12 0 0)],[(1,⟨33,12,[mdC m],true⟩),(900,⟨50,1,q.2.2.map inL_,false⟩)]⟩) (fun q=>q.1 ≤ m.gs.length ∧ (∀ l ∈ q.2.2,l.length ≤ 9223372036854775807) ∧ q.2.2.length ≤ 100 + q.1 * 1) (fun q=>m.gs.length - q.1) (0,n2,L2) ⟨Nat.zero_le _,hLb2,by simp only; omega⟩ (Wk.of ?_ ?_) ?_
  · simp only [go_sem]; try simp [go_sem]
  · simp only [go_sem]; try simp [go_sem]
  rintro ⟨j,n3,L3⟩ ⟨hj,hLb3,hLn3⟩
  simp only at hj hLb3 hLn3
  by_cases h1:(j:Int) < (m.gs.length:Int)
  · have hj':j < m.gs.length:=by omega
    have e8:=i_bd hj' (by omega)
    have hb:=at_in b6.2 hj'
    have happ:=fun ys=>appO_map 900 50 1 L3.length inL_ L3 ys rfl
    simp only [go_sem,decide_eq_true h1,happ]
    refine ⟨by omega,h1,by omega,?_⟩
    refine klp_n (j + 1,n3,L3 ++ [(nth m.gs j).i]) ⟨show j + 1 ≤ m.gs.length by omega,fun l hl=>?_,?_⟩ (show m.gs.length - (j + 1) < m.gs.length - j by omega) (Wk.of ?_ ?_)
    · have:l ∈ L3 ++ [(nth m.gs j).i]:=hl
      simp only [List.mem_append,List.mem_singleton] at this
      rcases this with z | rfl
      · exact hLb3 l z
      · exact Nat.le_trans (hb).1 hmx
    · show (L3 ++ [(nth m.gs j).i]).length ≤ _; simp only [List.length_append,List.length_cons,List.length_nil]; omega
    · simp only [go_sem,e8]; (try simp); (try omega)
    · simp only [go_sem]; try simp [inL_e]
  obtain rfl:j = m.gs.length:=by omega
  replace hLn3:L3.length ≤ 200:=by omega
  simp only [go_sem,decide_eq_false h1]
  clear h1 hj
  refine loop_rule (fun q:Nat × Int × List (List Ins)=>⟨[(9,.int .i64 q.1),(4,.int .i64 q.2.1),(3,.ms 900 1 0 q.2.2.length),(1,.mp 1 12 0 0)],[(1,⟨33,12,[mdC m],true⟩),(900,⟨50,1,q.2.2.map inL_,false⟩)]⟩) (fun q=>q.1 ≤ m.exs.length ∧ (∀ l ∈ q.2.2,l.length ≤ 9223372036854775807) ∧ q.2.2.length ≤ 200 + q.1 * 0) (fun q=>m.exs.length - q.1) (0,n3,L3) ⟨Nat.zero_le _,hLb3,by simp only; omega⟩ (Wk.of ?_ ?_) ?_
  · simp only [go_sem]; try simp [go_sem]
  · simp only [go_sem]; try simp [go_sem]
  rintro ⟨j,n4,L4⟩ ⟨hj,hLb4,hLn4⟩
  simp only at hj hLb4 hLn4
  by_cases h1:(j:Int) < (m.exs.length:Int)
  · have hj':j < m.exs.length:=by omega
    have e8:=i_bd hj' (by omega)
    have hb:=at_in b7.2 hj'
    simp only [go_sem,decide_eq_true h1]
    refine ⟨by omega,h1,?_⟩
    refine klp_n (j + 1,IntKind.i64.wrap (n4 + ((nth m.exs j).n.length:Int)),L4) ⟨show j + 1 ≤ m.exs.length by omega,fun l hl=>?_,?_⟩ (show m.exs.length - (j + 1) < m.exs.length - j by omega) (Wk.of ?_ ?_)
    · exact hLb4 l hl
    · show L4.length ≤ _; omega
    · simp only [go_sem,e8]; (try simp); (try omega)
    · simp only [go_sem]; try simp [inL_e]
  obtain rfl:j = m.exs.length:=by omega
  replace hLn4:L4.length ≤ 200:=by omega
  simp only [go_sem,decide_eq_false h1]
  clear h1 hj
  refine loop_rule (fun q:Nat × Int × List (List Ins)=>⟨[(10,.int .i64 q.1),(4,.int .i64 q.2.1),(3,.ms 900 1 0 q.2.2.length),(1,.mp 1 12 0 0)],[(1,⟨33,12,[mdC m],true⟩),(900,⟨50,1,q.2.2.map inL_,false⟩)]⟩) (fun q=>q.1 ≤ m.els.length ∧ (∀ k,k < q.1 → (nth m.els k).it.length ≤ 300) ∧ (∀ l ∈ q.2.2,l.length ≤ 9223372036854775807) ∧ q.2.2.length ≤ 200 + q.1 * 301) (fun q=>m.els.length - q.1) (0,n4,L4) ⟨Nat.zero_le _,fun k hk=>absurd hk (Nat.not_lt_zero _),hLb4,by simp only; omega⟩ (Wk.of ?_ ?_) ?_
  · simp only [go_sem]; try simp [go_sem]
  · simp only [go_sem]; try simp [go_sem]
  rintro ⟨j,n5,L5⟩ ⟨hj,hit,hLb5,hLn5⟩
  simp only at hj hit hLb5 hLn5
  by_cases h1:(j:Int) < (m.els.length:Int)
  · have hj':j < m.els.length:=by omega
    have e8:=i_bd hj' (by omega)
    have hb:=at_in b8.2 hj'
    have happ:=fun ys=>appO_map 900 50 1 L5.length inL_ L5 ys rfl
    by_cases g:((nth m.els j).it.length:Int) > 300
    · simp only [go_sem,decide_eq_true h1,decide_eq_true g]
      refine ⟨by omega,h1,?_⟩
      exact done [] (.bool false) [] (by simp only [go_sem]) trivial rfl ⟨false,(fun h=>by cases h),rfl,rfl⟩
    have happ2:=fun ys=>appO_map 900 50 1 (L5.length + 1) inL_ (L5 ++ [(nth m.els j).o]) ys (by simp)
    simp only [List.map_append,List.map_cons,List.map_nil,inL_e] at happ2
    simp only [go_sem,decide_eq_true h1,happ,decide_eq_false g,happ2]
    refine ⟨by omega,h1,by omega,h1,by omega,by omega,h1,by omega,?_⟩
    refine klp_n (j + 1,n5,(L5 ++ [(nth m.els j).o]) ++ (nth m.els j).it) ⟨show j + 1 ≤ m.els.length by omega,fun k hk=>?_,fun l hl=>?_,?_⟩ (show m.els.length - (j + 1) < m.els.length - j by omega) (Wk.of ?_ ?_)
    · rcases Nat.lt_or_ge k j with z | z
      · exact hit k z
      · obtain rfl:j = k:=by omega
        omega
    · have:l ∈ (L5 ++ [(nth m.els j).o]) ++ (nth m.els j).it:=hl
      simp only [List.mem_append,List.mem_singleton] at this
      rcases this with (z | rfl) | z
      · exact hLb5 l z
      · exact Nat.le_trans (hb.1).1 hmx
      · exact Nat.le_trans (hb.2.2 l z).1 hmx
    · show ((L5 ++ [(nth m.els j).o]) ++ (nth m.els j).it).length ≤ _; simp only [List.length_append,List.length_cons,List.length_nil]; omega
    · simp only [go_sem,e8]; (try simp); (try omega)
    · simp only [go_sem]; try simp [inL_e]
  obtain rfl:j = m.els.length:=by omega
  replace hLn5:L5.length ≤ 30300:=by omega
  simp only [go_sem,decide_eq_false h1]
  clear h1 hj
  refine loop_rule (fun q:Nat × Int × List (List Ins)=>⟨[(11,.int .i64 q.1),(4,.int .i64 q.2.1),(3,.ms 900 1 0 q.2.2.length),(1,.mp 1 12 0 0)],[(1,⟨33,12,[mdC m],true⟩),(900,⟨50,1,q.2.2.map inL_,false⟩)]⟩) (fun q=>q.1 ≤ m.ds.length ∧ (∀ l ∈ q.2.2,l.length ≤ 9223372036854775807) ∧ q.2.2.length ≤ 30300 + q.1 * 1) (fun q=>m.ds.length - q.1) (0,n5,L5) ⟨Nat.zero_le _,hLb5,by simp only; omega⟩ (Wk.of ?_ ?_) ?_
  · simp only [go_sem]; try simp [go_sem]
  · simp only [go_sem]; try simp [go_sem]
  rintro ⟨j,n6,L6⟩ ⟨hj,hLb6,hLn6⟩
  simp only at hj hLb6 hLn6
  by_cases h1:(j:Int) < (m.ds.length:Int)
  · have hj':j < m.ds.length:=by omega
    have e8:=i_bd hj' (by omega)
    have hb:=at_in b9.2 hj'
    have happ:=fun ys=>appO_map 900 50 1 L6.length inL_ L6 ys rfl
    simp only [go_sem,decide_eq_true h1,happ]
    refine ⟨by omega,h1,by omega,h1,by omega,?_⟩
    refine klp_n (j + 1,IntKind.i64.wrap (n6 + ((nth m.ds j).b.length:Int)),L6 ++ [(nth m.ds j).o]) ⟨show j + 1 ≤ m.ds.length by omega,fun l hl=>?_,?_⟩ (show m.ds.length - (j + 1) < m.ds.length - j by omega) (Wk.of ?_ ?_)
    · have:l ∈ L6 ++ [(nth m.ds j).o]:=hl
      simp only [List.mem_append,List.mem_singleton] at this
      rcases this with z | rfl
      · exact hLb6 l z
      · exact Nat.le_trans (hb.1).1 hmx
    · show (L6 ++ [(nth m.ds j).o]).length ≤ _; simp only [List.length_append,List.length_cons,List.length_nil]; omega
    · simp only [go_sem,e8]; (try simp); (try omega)
    · simp only [go_sem]; try simp [inL_e]
  obtain rfl:j = m.ds.length:=by omega
  replace hLn6:L6.length ≤ 30400:=by omega
  simp only [go_sem,decide_eq_false h1]
  clear h1 hj
  refine loop_rule (fun q:Nat × Int × List (List Ins)=>⟨[(12,.int .i64 q.1),(4,.int .i64 q.2.1),(3,.ms 900 1 0 q.2.2.length),(1,.mp 1 12 0 0)],[(1,⟨33,12,[mdC m],true⟩),(900,⟨50,1,q.2.2.map inL_,false⟩)]⟩) (fun q=>q.1 ≤ m.cs.length ∧ (∀ l ∈ q.2.2,l.length ≤ 9223372036854775807) ∧ q.2.2.length ≤ 30400 + q.1 * 0) (fun q=>m.cs.length - q.1) (0,n6,L6) ⟨Nat.zero_le _,hLb6,by simp only; omega⟩ (Wk.of ?_ ?_) ?_
  · simp only [go_sem]; try simp [go_sem]
  · simp only [go_sem]; try simp [go_sem]
  rintro ⟨j,n7,L7⟩ ⟨hj,hLb7,hLn7⟩
  simp only at hj hLb7 hLn7
  by_cases h1:(j:Int) < (m.cs.length:Int)
  · have hj':j < m.cs.length:=by omega
    have e8:=i_bd hj' (by omega)
    have hb:=at_in b10.2 hj'
    simp only [go_sem,decide_eq_true h1]
    refine ⟨by omega,h1,by omega,h1,?_⟩
    refine klp_n (j + 1,IntKind.i64.wrap (n7 + IntKind.i64.wrap (((nth m.cs j).b.length:Int) + ((nth m.cs j).n.length:Int))),L7) ⟨show j + 1 ≤ m.cs.length by omega,fun l hl=>?_,?_⟩ (show m.cs.length - (j + 1) < m.cs.length - j by omega) (Wk.of ?_ ?_)
    · exact hLb7 l hl
    · show L7.length ≤ _; omega
    · simp only [go_sem,e8]; (try simp); (try omega)
    · simp only [go_sem]; try simp [inL_e]
  obtain rfl:j = m.cs.length:=by omega
  replace hLn7:L7.length ≤ 30400:=by omega
  by_cases q9:n7 ≤ 9000
  rotate_left
  · simp only [go_sem,decide_eq_false h1,decide_eq_false q9]
    exact done [] (.bool false) [] (by simp only [go_sem]) trivial rfl ⟨false,(fun h=>by cases h),rfl,rfl⟩
  have cr:=s_rows7 L7 (by omega) hLb7
  simp only [go_sem,decide_eq_false h1,decide_eq_true q9]
  refine call_frz [900] ?_ cr (by simp [go_sem]) ?_
  · simp only [go_sem,Nat.le_refl]
    rw [List.take_of_length_le (by simp)]
  simp only [go_sem]
  refine done [] (.bool (rwsB 0 L7)) [] (by simp only [go_sem]) trivial rfl ⟨rwsB 0 L7,fun h=>?_,rfl,rfl⟩
  have lx:∀ {n:Nat},¬ ((n:Nat):Int) > 100 → n ≤ 100:=fun h=>by omega
  exact ⟨lx l0,lx l1,lx l2,lx l3,lx l4,lx l5,lx l6,lx l7,lx l8,lx l9,fun x hx=>by
    obtain ⟨i,hi,rfl⟩:=List.getElem_of_mem hx
    rw [← nth_eq hi]; exact hit i hi⟩
end Go.Proofs.YtoaagdbbbojpmaaGreatDoor
set_option maxRecDepth 100000
set_option maxHeartbeats 40000000
set_option linter.unusedVariables false
set_option linter.unusedSimpArgs false
namespace Go.Proofs.YtoaagdbbbojpmaaGreatDoor
open Go Go.Mw
-- @U: List.length_map,mdC_e,imC_e,ins_e,insC,fa_

def atF (p i e:Int):Fa:=if e = 0 then lm0 else ⟨p,i,0,e⟩
def lgF (p n most:Int):Fa:=if n > most then ⟨p,if most < 0 then 0 else most,0,6⟩ else lm0
def rwF (P:Ins → Bool) (p i:Int) (l:List Ins):Fa:=if (rowE P l).2 = 0 then lm0 else ⟨p,i,(rowE P l).1,(rowE P l).2⟩
end Go.Proofs.YtoaagdbbbojpmaaGreatDoor
set_option maxRecDepth 100000
set_option maxHeartbeats 40000000
set_option linter.unusedVariables false
set_option linter.unusedSimpArgs false
namespace Go.Proofs.YtoaagdbbbojpmaaGreatDoor
open Go Go.Mw
-- @U: List.length_map,mdC_e,imC_e,tbC_e,lmC_e

end Go.Proofs.YtoaagdbbbojpmaaGreatDoor
set_option maxRecDepth 100000
set_option maxHeartbeats 40000000
set_option linter.unusedVariables false
set_option linter.unusedSimpArgs false
namespace Go.Proofs.YtoaagdbbbojpmaaGreatDoor
open Go Go.Mw
-- @U: List.length_map,mdC_e,ftC_e,imC_e,tbC_e,lmC_e,fa_,faO

def gr {α:Type} (g:Nat → α → Fa):Nat → List α → Fa → Fa
  | _,[],F=>F
  | i,x :: l,F=>if F.c ≠ 0 then F else gr g (i + 1) l (g i x)
theorem lg_0 {p n most:Int} (h:(lgF p n most).c = 0):lgF p n most = lm0:=by
  unfold lgF at h ⊢
  split at h
  · cases h
  · rename_i q; rw [if_neg q]
theorem at_0 {p i e:Int} (h:(atF p i e).c = 0):atF p i e = lm0:=by
  unfold atF at h ⊢
  split at h
  · rename_i q; rw [if_pos q]
  · rename_i q; exact absurd h q
def tyF (m:Md):Fa:=gr (fun i x=>atF 1 i (fnE x)) 0 m.ts (lgF 1 m.ts.length 64)
end Go.Proofs.YtoaagdbbbojpmaaGreatDoor
set_option maxRecDepth 100000
set_option maxHeartbeats 40000000
set_option linter.unusedVariables false
set_option linter.unusedSimpArgs false
namespace Go.Proofs.YtoaagdbbbojpmaaGreatDoor
open Go Go.Mw
-- @U: List.length_map,mdC_e,ftC_e,imC_e,tbC_e,lmC_e,fa_,faO

end Go.Proofs.YtoaagdbbbojpmaaGreatDoor
set_option maxRecDepth 100000
set_option maxHeartbeats 40000000
set_option linter.unusedVariables false
set_option linter.unusedSimpArgs false
namespace Go.Proofs.YtoaagdbbbojpmaaGreatDoor
open Go Go.Mw
-- @U: List.length_map,mdC_e,ftC_e,imC_e,tbC_e,lmC_e,fa_,faO

def mmF (m:Md):Fa:=gr (fun i x=>atF 5 i (mmE x)) 0 m.ms (lgF 5 m.ms.length (2 - (cnI 2 m.ims:Nat)))
end Go.Proofs.YtoaagdbbbojpmaaGreatDoor
set_option maxRecDepth 100000
set_option maxHeartbeats 40000000
set_option linter.unusedVariables false
set_option linter.unusedSimpArgs false
namespace Go.Proofs.YtoaagdbbbojpmaaGreatDoor
open Go Go.Mw
-- @U: List.length_map,mdC_e,ftC_e,imC_e,tbC_e,lmC_e,fa_,faO

def tbF (m:Md):Fa:=gr (fun i x=>atF 4 i (tbE x)) 0 m.tbs (lgF 4 m.tbs.length (4 - (cnI 1 m.ims:Nat)))
end Go.Proofs.YtoaagdbbbojpmaaGreatDoor
set_option maxRecDepth 100000
set_option maxHeartbeats 40000000
set_option linter.unusedVariables false
set_option linter.unusedSimpArgs false
namespace Go.Proofs.YtoaagdbbbojpmaaGreatDoor
open Go Go.Mw
-- @U: List.length_map,mdC_e,ftC_e,imC_e,tbC_e,lmC_e,cdC_e,fa_,faO

def cdF (m:Md):Fa:=gr (fun i x=>atF 3 i (cdE x)) 0 m.fs (lgF 3 m.fs.length (64 - (cnI 0 m.ims:Nat)))
end Go.Proofs.YtoaagdbbbojpmaaGreatDoor
set_option maxRecDepth 100000
set_option maxHeartbeats 40000000
set_option linter.unusedVariables false
set_option linter.unusedSimpArgs false
namespace Go.Proofs.YtoaagdbbbojpmaaGreatDoor
open Go Go.Mw
-- @U: List.length_map,mdC_e,ftC_e,imC_e,tbC_e,lmC_e,gdC_e,fa_,faO

def gdF (P:Ins → Bool) (m:Md):Fa:=gr (fun i x=>if vlB x.g.v = false then atF 6 i 12 else rwF P 6 i x.i) 0 m.gs (lgF 6 m.gs.length (32 - (cnI 3 m.ims:Nat)))
def stF (m:Md):Fa:=if m.hs = true ∧ inR m.st = false then atF 8 0 11 else lm0
end Go.Proofs.YtoaagdbbbojpmaaGreatDoor
set_option linter.unusedVariables false
set_option maxHeartbeats 8000000
set_option maxRecDepth 100000
namespace Go.Proofs.YtoaagdbbbojpmaaGreatDoor
open Go Go.Mw

end Go.Proofs.YtoaagdbbbojpmaaGreatDoor
set_option linter.unusedVariables false
set_option maxHeartbeats 8000000
set_option maxRecDepth 100000
namespace Go.Proofs.YtoaagdbbbojpmaaGreatDoor
open Go Go.Mw

def ctb (b:Nat):Prop:=¬ (b < 128 ∨ b ≥ 192)
instance (b:Nat):Decidable (ctb b):=by unfold ctb; exact inferInstance
end Go.Proofs.YtoaagdbbbojpmaaGreatDoor
set_option linter.unusedVariables false
set_option maxHeartbeats 8000000
set_option maxRecDepth 100000
namespace Go.Proofs.YtoaagdbbbojpmaaGreatDoor
open Go Go.Mw

end Go.Proofs.YtoaagdbbbojpmaaGreatDoor
set_option maxRecDepth 100000
set_option maxHeartbeats 8000000
set_option linter.unusedVariables false
set_option linter.unusedSimpArgs false
namespace Go.Proofs.YtoaagdbbbojpmaaGreatDoor
open Go Go.Mw
-- @U: List.length_map

def hpx (s p:List UInt8):Bool:=decide (p.length ≤ s.length) && (s.take p.length == p)
def r3 (n:Int):List AV:=[.int .i32 n]
theorem r3_e (n:Int):r3 n = [.int .i32 n]:=rfl
attribute [go_sem] r3_e
end Go.Proofs.YtoaagdbbbojpmaaGreatDoor
set_option maxRecDepth 100000
set_option maxHeartbeats 8000000
set_option linter.unusedVariables false
set_option linter.unusedSimpArgs false
namespace Go.Proofs.YtoaagdbbbojpmaaGreatDoor
open Go Go.Mw
-- @U: List.length_map

end Go.Proofs.YtoaagdbbbojpmaaGreatDoor
set_option maxRecDepth 100000
set_option maxHeartbeats 20000000
set_option linter.unusedVariables false
set_option linter.unusedSimpArgs false
namespace Go.Proofs.YtoaagdbbbojpmaaGreatDoor
open Go Go.Mw
-- @U: List.length_map

def rw_ (r:List Int):List AV:=[.sl 1 (r.map vl_)]
theorem rw_e (r:List Int):rw_ r = [.sl 1 (r.map vl_)]:=rfl
attribute [go_sem] rw_e
end Go.Proofs.YtoaagdbbbojpmaaGreatDoor
set_option linter.unusedVariables false
set_option maxHeartbeats 8000000
set_option maxRecDepth 100000
namespace Go.Proofs.YtoaagdbbbojpmaaGreatDoor
open Go Go.Mw

end Go.Proofs.YtoaagdbbbojpmaaGreatDoor
