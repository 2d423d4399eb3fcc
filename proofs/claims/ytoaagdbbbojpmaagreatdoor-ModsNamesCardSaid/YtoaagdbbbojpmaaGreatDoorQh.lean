/-
  Chapter 7,walks: the program's Same of modules (printed by tools/gm10.py).
-/
import Derived.Test.YtoaagdbbbojpmaaGreatDoorQg
import Derived.Test.YtoaagdbbbojpmaaGreatDoorCards
import Derived.Test.YtoaagdbbbojpmaaGreatDoorTie
import Derived.Test.YtoaagdbbbojpmaaGreatDoorQd
import Derived.WalkKit
import Derived.ProofKit
import Derived.OpenShut
import Derived.Deep.DeepHandedRow
import Derived.Deep.DeepWitnessRowRef
import Derived.Lib.LaidTab
import Derived.Lib.LaidU8T
import Derived.Shelf.Vars
import Derived.Lay
import Derived.Test.YtoaagdbbbojpmaaGreatDoorQc
import Derived.Test.YtoaagdbbbojpmaaGreatDoorQe
import Derived.Lib.DecodeN
set_option linter.unusedVariables false
set_option linter.unusedSimpArgs false
set_option linter.unusedSectionVars false
set_option maxRecDepth 100000
set_option maxHeartbeats 40000000
set_option linter.unusedVariables false
set_option linter.unusedSimpArgs false
namespace Go.Proofs.YtoaagdbbbojpmaaGreatDoor
open Go Go.Mw
-- @U: List.length_map,mdC_e

attribute [local go_sem] List.length_map mdC_e
theorem m_same7 (a b:Md) (h:smM a):PCalls Tryz.prog nX108 [md_ a,md_ b] (.bool (decide (SameP a b))):=by
  refine pfun_sound (ic:=FX108.body) mixed cX108 rfl rfl ?_
  have d0:=m_sameFt (f:=nX106) (by kernel_rfl) a.ts b.ts (by have:=h.ts.1; omega) (fun x hx y=>m_ft x y (h.ts.2 x hx))
  have d1:=m_sameIm (f:=nX13) (by kernel_rfl) a.ims b.ims (by have:=h.ims; omega) (fun x hx y=>m_eqIm x y)
  have d2:=m_sameCd (f:=nX88) (by kernel_rfl) a.fs b.fs (by have:=h.fs.1; omega) (fun x hx y=>m_cd x y (h.fs.2 x hx))
  have d3:=m_sameTb (f:=nX17) (by kernel_rfl) a.tbs b.tbs (by have:=h.tbs; omega) (fun x hx y=>m_eqTb x y)
  have d4:=m_sameLm (f:=nX14) (by kernel_rfl) a.ms b.ms (by have:=h.ms; omega) (fun x hx y=>m_eqLm x y)
  have d5:=m_sameGd (f:=nX89) (by kernel_rfl) a.gs b.gs (by have:=h.gs.1; omega) (fun x hx y=>m_gd x y (h.gs.2 x hx))
  have d6:=m_sameEx (f:=nX12) (by kernel_rfl) a.exs b.exs (by have:=h.exs; omega) (fun x hx y=>m_eqEx x y)
  have d7:=m_sameEl (f:=nX90) (by kernel_rfl) a.els b.els (by have:=h.els.1; omega) (fun x hx y=>m_el x y (h.els.2 x hx))
  have d8:=m_sameDa (f:=nX91) (by kernel_rfl) a.ds b.ds (by have:=h.ds.1; omega) (fun x hx y=>m_da x y (h.ds.2 x hx))
  have d9:=m_sameCu (f:=nX92) (by kernel_rfl) a.cs b.cs (by have:=h.cs.1; omega) (fun x hx y=>m_cu x y)
  by_cases e1:a.hs = b.hs
  rotate_left
  · rw [decide_eq_false (fun e:SameP a b=>e1 e.1)]
    cases ha:a.hs <;> cases hb:b.hs
    · exact absurd (ha.trans hb.symm) e1
    · simp only [go_sem,FX108,md_,ha,hb,show (false == true) = false from rfl,Bool.not_false,Bool.not_true]
      exact pdone [] (by simp only [go_sem]) (by first | rfl | simp [go_sem,slv_ids])
    · simp only [go_sem,FX108,md_,ha,hb,show (true == false) = false from rfl,Bool.not_false,Bool.not_true]
      exact pdone [] (by simp only [go_sem]) (by first | rfl | simp [go_sem,slv_ids])
    · exact absurd (ha.trans hb.symm) e1
  cases ha:a.hs
  · have hb:b.hs = false:=by rw [← e1]; exact ha
    by_cases c0:a.ts = b.ts
    rotate_left
    · rw [decide_eq_false c0] at d0
      rw [decide_eq_false (fun e:SameP a b=>c0 e.2.2.1)]
      simp only [go_sem,FX108,md_,ha,hb,show (false == false) = true from rfl,Bool.not_false,Bool.not_true]
      refine call_same (d0) (by simp [go_sem]) ?_
      simp only [go_sem]
      exact pdone [] (by simp only [go_sem]) (by first | rfl | simp [go_sem,slv_ids])
    rw [decide_eq_true c0] at d0
    by_cases c1:a.ims = b.ims
    rotate_left
    · rw [decide_eq_false c1] at d1
      rw [decide_eq_false (fun e:SameP a b=>c1 e.2.2.2.1)]
      simp only [go_sem,FX108,md_,ha,hb,show (false == false) = true from rfl,Bool.not_false,Bool.not_true]
      refine call_same (d0) (by simp [go_sem]) ?_
      simp only [go_sem]
      refine call_same (d1) (by simp [go_sem]) ?_
      simp only [go_sem]
      exact pdone [] (by simp only [go_sem]) (by first | rfl | simp [go_sem,slv_ids])
    rw [decide_eq_true c1] at d1
    by_cases c2:a.fs = b.fs
    rotate_left
    · rw [decide_eq_false c2] at d2
      rw [decide_eq_false (fun e:SameP a b=>c2 e.2.2.2.2.1)]
      simp only [go_sem,FX108,md_,ha,hb,show (false == false) = true from rfl,Bool.not_false,Bool.not_true]
      refine call_same (d0) (by simp [go_sem]) ?_
      simp only [go_sem]
      refine call_same (d1) (by simp [go_sem]) ?_
      simp only [go_sem]
      refine call_same (d2) (by simp [go_sem]) ?_
      simp only [go_sem]
      exact pdone [] (by simp only [go_sem]) (by first | rfl | simp [go_sem,slv_ids])
    rw [decide_eq_true c2] at d2
    by_cases c3:a.tbs = b.tbs
    rotate_left
    · rw [decide_eq_false c3] at d3
      rw [decide_eq_false (fun e:SameP a b=>c3 e.2.2.2.2.2.1.1)]
      simp only [go_sem,FX108,md_,ha,hb,show (false == false) = true from rfl,Bool.not_false,Bool.not_true]
      refine call_same (d0) (by simp [go_sem]) ?_
      simp only [go_sem]
      refine call_same (d1) (by simp [go_sem]) ?_
      simp only [go_sem]
      refine call_same (d2) (by simp [go_sem]) ?_
      simp only [go_sem]
      refine call_same (d3) (by simp [go_sem]) ?_
      simp only [go_sem]
      exact pdone [] (by simp only [go_sem]) (by first | rfl | simp [go_sem,slv_ids])
    rw [decide_eq_true c3] at d3
    by_cases c4:a.ms = b.ms
    rotate_left
    · rw [decide_eq_false c4] at d4
      rw [decide_eq_false (fun e:SameP a b=>c4 e.2.2.2.2.2.1.2)]
      simp only [go_sem,FX108,md_,ha,hb,show (false == false) = true from rfl,Bool.not_false,Bool.not_true]
      refine call_same (d0) (by simp [go_sem]) ?_
      simp only [go_sem]
      refine call_same (d1) (by simp [go_sem]) ?_
      simp only [go_sem]
      refine call_same (d2) (by simp [go_sem]) ?_
      simp only [go_sem]
      refine call_same (d3) (by simp [go_sem]) ?_
      simp only [go_sem]
      refine call_same (d4) (by simp [go_sem]) ?_
      simp only [go_sem]
      exact pdone [] (by simp only [go_sem]) (by first | rfl | simp [go_sem,slv_ids])
    rw [decide_eq_true c4] at d4
    by_cases c5:a.gs = b.gs
    rotate_left
    · rw [decide_eq_false c5] at d5
      rw [decide_eq_false (fun e:SameP a b=>c5 e.2.2.2.2.2.2.1)]
      simp only [go_sem,FX108,md_,ha,hb,show (false == false) = true from rfl,Bool.not_false,Bool.not_true]
      refine call_same (d0) (by simp [go_sem]) ?_
      simp only [go_sem]
      refine call_same (d1) (by simp [go_sem]) ?_
      simp only [go_sem]
      refine call_same (d2) (by simp [go_sem]) ?_
      simp only [go_sem]
      refine call_same (d3) (by simp [go_sem]) ?_
      simp only [go_sem]
      refine call_same (d4) (by simp [go_sem]) ?_
      simp only [go_sem]
      refine call_same (d5) (by simp [go_sem]) ?_
      simp only [go_sem]
      exact pdone [] (by simp only [go_sem]) (by first | rfl | simp [go_sem,slv_ids])
    rw [decide_eq_true c5] at d5
    by_cases c6:a.exs = b.exs
    rotate_left
    · rw [decide_eq_false c6] at d6
      rw [decide_eq_false (fun e:SameP a b=>c6 e.2.2.2.2.2.2.2.1)]
      simp only [go_sem,FX108,md_,ha,hb,show (false == false) = true from rfl,Bool.not_false,Bool.not_true]
      refine call_same (d0) (by simp [go_sem]) ?_
      simp only [go_sem]
      refine call_same (d1) (by simp [go_sem]) ?_
      simp only [go_sem]
      refine call_same (d2) (by simp [go_sem]) ?_
      simp only [go_sem]
      refine call_same (d3) (by simp [go_sem]) ?_
      simp only [go_sem]
      refine call_same (d4) (by simp [go_sem]) ?_
      simp only [go_sem]
      refine call_same (d5) (by simp [go_sem]) ?_
      simp only [go_sem]
      refine call_same (d6) (by simp [go_sem]) ?_
      simp only [go_sem]
      exact pdone [] (by simp only [go_sem]) (by first | rfl | simp [go_sem,slv_ids])
    rw [decide_eq_true c6] at d6
    by_cases c7:a.els = b.els
    rotate_left
    · rw [decide_eq_false c7] at d7
      rw [decide_eq_false (fun e:SameP a b=>c7 e.2.2.2.2.2.2.2.2.1)]
      simp only [go_sem,FX108,md_,ha,hb,show (false == false) = true from rfl,Bool.not_false,Bool.not_true]
      refine call_same (d0) (by simp [go_sem]) ?_
      simp only [go_sem]
      refine call_same (d1) (by simp [go_sem]) ?_
      simp only [go_sem]
      refine call_same (d2) (by simp [go_sem]) ?_
      simp only [go_sem]
      refine call_same (d3) (by simp [go_sem]) ?_
      simp only [go_sem]
      refine call_same (d4) (by simp [go_sem]) ?_
      simp only [go_sem]
      refine call_same (d5) (by simp [go_sem]) ?_
      simp only [go_sem]
      refine call_same (d6) (by simp [go_sem]) ?_
      simp only [go_sem]
      refine call_same (d7) (by simp [go_sem]) ?_
      simp only [go_sem]
      exact pdone [] (by simp only [go_sem]) (by first | rfl | simp [go_sem,slv_ids])
    rw [decide_eq_true c7] at d7
    by_cases c8:a.ds = b.ds
    rotate_left
    · rw [decide_eq_false c8] at d8
      rw [decide_eq_false (fun e:SameP a b=>c8 e.2.2.2.2.2.2.2.2.2.1)]
      simp only [go_sem,FX108,md_,ha,hb,show (false == false) = true from rfl,Bool.not_false,Bool.not_true]
      refine call_same (d0) (by simp [go_sem]) ?_
      simp only [go_sem]
      refine call_same (d1) (by simp [go_sem]) ?_
      simp only [go_sem]
      refine call_same (d2) (by simp [go_sem]) ?_
      simp only [go_sem]
      refine call_same (d3) (by simp [go_sem]) ?_
      simp only [go_sem]
      refine call_same (d4) (by simp [go_sem]) ?_
      simp only [go_sem]
      refine call_same (d5) (by simp [go_sem]) ?_
      simp only [go_sem]
      refine call_same (d6) (by simp [go_sem]) ?_
      simp only [go_sem]
      refine call_same (d7) (by simp [go_sem]) ?_
      simp only [go_sem]
      refine call_same (d8) (by simp [go_sem]) ?_
      simp only [go_sem]
      exact pdone [] (by simp only [go_sem]) (by first | rfl | simp [go_sem,slv_ids])
    rw [decide_eq_true c8] at d8
    by_cases c9:a.cs = b.cs
    rotate_left
    · rw [decide_eq_false c9] at d9
      rw [decide_eq_false (fun e:SameP a b=>c9 e.2.2.2.2.2.2.2.2.2.2)]
      simp only [go_sem,FX108,md_,ha,hb,show (false == false) = true from rfl,Bool.not_false,Bool.not_true]
      refine call_same (d0) (by simp [go_sem]) ?_
      simp only [go_sem]
      refine call_same (d1) (by simp [go_sem]) ?_
      simp only [go_sem]
      refine call_same (d2) (by simp [go_sem]) ?_
      simp only [go_sem]
      refine call_same (d3) (by simp [go_sem]) ?_
      simp only [go_sem]
      refine call_same (d4) (by simp [go_sem]) ?_
      simp only [go_sem]
      refine call_same (d5) (by simp [go_sem]) ?_
      simp only [go_sem]
      refine call_same (d6) (by simp [go_sem]) ?_
      simp only [go_sem]
      refine call_same (d7) (by simp [go_sem]) ?_
      simp only [go_sem]
      refine call_same (d8) (by simp [go_sem]) ?_
      simp only [go_sem]
      refine call_same (d9) (by simp [go_sem]) ?_
      simp only [go_sem]
      exact pdone [] (by simp only [go_sem]) (by first | rfl | simp [go_sem,slv_ids])
    rw [decide_eq_true c9] at d9
    rw [decide_eq_true (show SameP a b from ⟨e1,fun q=>absurd (ha.symm.trans q) (by decide),c0,c1,c2,⟨c3,c4⟩,c5,c6,c7,c8,c9⟩)]
    simp only [go_sem,FX108,md_,ha,hb,show (false == false) = true from rfl,Bool.not_false,Bool.not_true]
    refine call_same (d0) (by simp [go_sem]) ?_
    simp only [go_sem]
    refine call_same (d1) (by simp [go_sem]) ?_
    simp only [go_sem]
    refine call_same (d2) (by simp [go_sem]) ?_
    simp only [go_sem]
    refine call_same (d3) (by simp [go_sem]) ?_
    simp only [go_sem]
    refine call_same (d4) (by simp [go_sem]) ?_
    simp only [go_sem]
    refine call_same (d5) (by simp [go_sem]) ?_
    simp only [go_sem]
    refine call_same (d6) (by simp [go_sem]) ?_
    simp only [go_sem]
    refine call_same (d7) (by simp [go_sem]) ?_
    simp only [go_sem]
    refine call_same (d8) (by simp [go_sem]) ?_
    simp only [go_sem]
    refine call_same (d9) (by simp [go_sem]) ?_
    simp only [go_sem]
    exact pdone [] (by simp only [go_sem]) (by first | rfl | simp [go_sem,slv_ids])
  · have hb:b.hs = true:=by rw [← e1]; exact ha
    by_cases e2:a.st = b.st
    rotate_left
    · rw [decide_eq_false (fun e:SameP a b=>e2 (e.2.1 ha))]
      simp only [go_sem,FX108,md_,ha,hb,show (true == true) = true from rfl,Bool.not_false,Bool.not_true,bne_t e2]
      exact pdone [] (by simp only [go_sem]) (by first | rfl | simp [go_sem,slv_ids])
    by_cases c0:a.ts = b.ts
    rotate_left
    · rw [decide_eq_false c0] at d0
      rw [decide_eq_false (fun e:SameP a b=>c0 e.2.2.1)]
      simp only [go_sem,FX108,md_,ha,hb,show (true == true) = true from rfl,Bool.not_false,Bool.not_true,bne_f e2]
      refine call_same (d0) (by simp [go_sem]) ?_
      simp only [go_sem]
      exact pdone [] (by simp only [go_sem]) (by first | rfl | simp [go_sem,slv_ids])
    rw [decide_eq_true c0] at d0
    by_cases c1:a.ims = b.ims
    rotate_left
    · rw [decide_eq_false c1] at d1
      rw [decide_eq_false (fun e:SameP a b=>c1 e.2.2.2.1)]
      simp only [go_sem,FX108,md_,ha,hb,show (true == true) = true from rfl,Bool.not_false,Bool.not_true,bne_f e2]
      refine call_same (d0) (by simp [go_sem]) ?_
      simp only [go_sem]
      refine call_same (d1) (by simp [go_sem]) ?_
      simp only [go_sem]
      exact pdone [] (by simp only [go_sem]) (by first | rfl | simp [go_sem,slv_ids])
    rw [decide_eq_true c1] at d1
    by_cases c2:a.fs = b.fs
    rotate_left
    · rw [decide_eq_false c2] at d2
      rw [decide_eq_false (fun e:SameP a b=>c2 e.2.2.2.2.1)]
      simp only [go_sem,FX108,md_,ha,hb,show (true == true) = true from rfl,Bool.not_false,Bool.not_true,bne_f e2]
      refine call_same (d0) (by simp [go_sem]) ?_
      simp only [go_sem]
      refine call_same (d1) (by simp [go_sem]) ?_
      simp only [go_sem]
      refine call_same (d2) (by simp [go_sem]) ?_
      simp only [go_sem]
      exact pdone [] (by simp only [go_sem]) (by first | rfl | simp [go_sem,slv_ids])
    rw [decide_eq_true c2] at d2
    by_cases c3:a.tbs = b.tbs
    rotate_left
    · rw [decide_eq_false c3] at d3
      rw [decide_eq_false (fun e:SameP a b=>c3 e.2.2.2.2.2.1.1)]
      simp only [go_sem,FX108,md_,ha,hb,show (true == true) = true from rfl,Bool.not_false,Bool.not_true,bne_f e2]
      refine call_same (d0) (by simp [go_sem]) ?_
      simp only [go_sem]
      refine call_same (d1) (by simp [go_sem]) ?_
      simp only [go_sem]
      refine call_same (d2) (by simp [go_sem]) ?_
      simp only [go_sem]
      refine call_same (d3) (by simp [go_sem]) ?_
      simp only [go_sem]
      exact pdone [] (by simp only [go_sem]) (by first | rfl | simp [go_sem,slv_ids])
    rw [decide_eq_true c3] at d3
    by_cases c4:a.ms = b.ms
    rotate_left
    · rw [decide_eq_false c4] at d4
      rw [decide_eq_false (fun e:SameP a b=>c4 e.2.2.2.2.2.1.2)]
      simp only [go_sem,FX108,md_,ha,hb,show (true == true) = true from rfl,Bool.not_false,Bool.not_true,bne_f e2]
      refine call_same (d0) (by simp [go_sem]) ?_
      simp only [go_sem]
      refine call_same (d1) (by simp [go_sem]) ?_
      simp only [go_sem]
      refine call_same (d2) (by simp [go_sem]) ?_
      simp only [go_sem]
      refine call_same (d3) (by simp [go_sem]) ?_
      simp only [go_sem]
      refine call_same (d4) (by simp [go_sem]) ?_
      simp only [go_sem]
      exact pdone [] (by simp only [go_sem]) (by first | rfl | simp [go_sem,slv_ids])
    rw [decide_eq_true c4] at d4
    by_cases c5:a.gs = b.gs
    rotate_left
    · rw [decide_eq_false c5] at d5
      rw [decide_eq_false (fun e:SameP a b=>c5 e.2.2.2.2.2.2.1)]
      simp only [go_sem,FX108,md_,ha,hb,show (true == true) = true from rfl,Bool.not_false,Bool.not_true,bne_f e2]
      refine call_same (d0) (by simp [go_sem]) ?_
      simp only [go_sem]
      refine call_same (d1) (by simp [go_sem]) ?_
      simp only [go_sem]
      refine call_same (d2) (by simp [go_sem]) ?_
      simp only [go_sem]
      refine call_same (d3) (by simp [go_sem]) ?_
      simp only [go_sem]
      refine call_same (d4) (by simp [go_sem]) ?_
      simp only [go_sem]
      refine call_same (d5) (by simp [go_sem]) ?_
      simp only [go_sem]
      exact pdone [] (by simp only [go_sem]) (by first | rfl | simp [go_sem,slv_ids])
    rw [decide_eq_true c5] at d5
    by_cases c6:a.exs = b.exs
    rotate_left
    · rw [decide_eq_false c6] at d6
      rw [decide_eq_false (fun e:SameP a b=>c6 e.2.2.2.2.2.2.2.1)]
      simp only [go_sem,FX108,md_,ha,hb,show (true == true) = true from rfl,Bool.not_false,Bool.not_true,bne_f e2]
      refine call_same (d0) (by simp [go_sem]) ?_
      simp only [go_sem]
      refine call_same (d1) (by simp [go_sem]) ?_
      simp only [go_sem]
      refine call_same (d2) (by simp [go_sem]) ?_
      simp only [go_sem]
      refine call_same (d3) (by simp [go_sem]) ?_
      simp only [go_sem]
      refine call_same (d4) (by simp [go_sem]) ?_
      simp only [go_sem]
      refine call_same (d5) (by simp [go_sem]) ?_
      simp only [go_sem]
      refine call_same (d6) (by simp [go_sem]) ?_
      simp only [go_sem]
      exact pdone [] (by simp only [go_sem]) (by first | rfl | simp [go_sem,slv_ids])
    rw [decide_eq_true c6] at d6
    by_cases c7:a.els = b.els
    rotate_left
    · rw [decide_eq_false c7] at d7
      rw [decide_eq_false (fun e:SameP a b=>c7 e.2.2.2.2.2.2.2.2.1)]
      simp only [go_sem,FX108,md_,ha,hb,show (true == true) = true from rfl,Bool.not_false,Bool.not_true,bne_f e2]
      refine call_same (d0) (by simp [go_sem]) ?_
      simp only [go_sem]
      refine call_same (d1) (by simp [go_sem]) ?_
      simp only [go_sem]
      refine call_same (d2) (by simp [go_sem]) ?_
      simp only [go_sem]
      refine call_same (d3) (by simp [go_sem]) ?_
      simp only [go_sem]
      refine call_same (d4) (by simp [go_sem]) ?_
      simp only [go_sem]
      refine call_same (d5) (by simp [go_sem]) ?_
      simp only [go_sem]
      refine call_same (d6) (by simp [go_sem]) ?_
      simp only [go_sem]
      refine call_same (d7) (by simp [go_sem]) ?_
      simp only [go_sem]
      exact pdone [] (by simp only [go_sem]) (by first | rfl | simp [go_sem,slv_ids])
    rw [decide_eq_true c7] at d7
    by_cases c8:a.ds = b.ds
    rotate_left
    · rw [decide_eq_false c8] at d8
      rw [decide_eq_false (fun e:SameP a b=>c8 e.2.2.2.2.2.2.2.2.2.1)]
      simp only [go_sem,FX108,md_,ha,hb,show (true == true) = true from rfl,Bool.not_false,Bool.not_true,bne_f e2]
      refine call_same (d0) (by simp [go_sem]) ?_
      simp only [go_sem]
      refine call_same (d1) (by simp [go_sem]) ?_
      simp only [go_sem]
      refine call_same (d2) (by simp [go_sem]) ?_
      simp only [go_sem]
      refine call_same (d3) (by simp [go_sem]) ?_
      simp only [go_sem]
      refine call_same (d4) (by simp [go_sem]) ?_
      simp only [go_sem]
      refine call_same (d5) (by simp [go_sem]) ?_
      simp only [go_sem]
      refine call_same (d6) (by simp [go_sem]) ?_
      simp only [go_sem]
      refine call_same (d7) (by simp [go_sem]) ?_
      simp only [go_sem]
      refine call_same (d8) (by simp [go_sem]) ?_
      simp only [go_sem]
      exact pdone [] (by simp only [go_sem]) (by first | rfl | simp [go_sem,slv_ids])
    rw [decide_eq_true c8] at d8
    by_cases c9:a.cs = b.cs
    rotate_left
    · rw [decide_eq_false c9] at d9
      rw [decide_eq_false (fun e:SameP a b=>c9 e.2.2.2.2.2.2.2.2.2.2)]
      simp only [go_sem,FX108,md_,ha,hb,show (true == true) = true from rfl,Bool.not_false,Bool.not_true,bne_f e2]
      refine call_same (d0) (by simp [go_sem]) ?_
      simp only [go_sem]
      refine call_same (d1) (by simp [go_sem]) ?_
      simp only [go_sem]
      refine call_same (d2) (by simp [go_sem]) ?_
      simp only [go_sem]
      refine call_same (d3) (by simp [go_sem]) ?_
      simp only [go_sem]
      refine call_same (d4) (by simp [go_sem]) ?_
      simp only [go_sem]
      refine call_same (d5) (by simp [go_sem]) ?_
      simp only [go_sem]
      refine call_same (d6) (by simp [go_sem]) ?_
      simp only [go_sem]
      refine call_same (d7) (by simp [go_sem]) ?_
      simp only [go_sem]
      refine call_same (d8) (by simp [go_sem]) ?_
      simp only [go_sem]
      refine call_same (d9) (by simp [go_sem]) ?_
      simp only [go_sem]
      exact pdone [] (by simp only [go_sem]) (by first | rfl | simp [go_sem,slv_ids])
    rw [decide_eq_true c9] at d9
    rw [decide_eq_true (show SameP a b from ⟨e1,fun _=>e2,c0,c1,c2,⟨c3,c4⟩,c5,c6,c7,c8,c9⟩)]
    simp only [go_sem,FX108,md_,ha,hb,show (true == true) = true from rfl,Bool.not_false,Bool.not_true,bne_f e2]
    refine call_same (d0) (by simp [go_sem]) ?_
    simp only [go_sem]
    refine call_same (d1) (by simp [go_sem]) ?_
    simp only [go_sem]
    refine call_same (d2) (by simp [go_sem]) ?_
    simp only [go_sem]
    refine call_same (d3) (by simp [go_sem]) ?_
    simp only [go_sem]
    refine call_same (d4) (by simp [go_sem]) ?_
    simp only [go_sem]
    refine call_same (d5) (by simp [go_sem]) ?_
    simp only [go_sem]
    refine call_same (d6) (by simp [go_sem]) ?_
    simp only [go_sem]
    refine call_same (d7) (by simp [go_sem]) ?_
    simp only [go_sem]
    refine call_same (d8) (by simp [go_sem]) ?_
    simp only [go_sem]
    refine call_same (d9) (by simp [go_sem]) ?_
    simp only [go_sem]
    exact pdone [] (by simp only [go_sem]) (by first | rfl | simp [go_sem,slv_ids])
end Go.Proofs.YtoaagdbbbojpmaaGreatDoor
set_option maxRecDepth 100000
set_option linter.unusedVariables false
namespace Go.Proofs.YtoaagdbbbojpmaaGreatDoor
open Go Go.Mw
open Go.ChangeShapes Go.WideShapes Go.ChangeAt Go.RowKit

theorem own:ownKnob Tryz.prog.godebug = none:=by kernel_rfl
theorem laidOut:laidOutB Tryz.prog = true:=by kernel_rfl
abbrev laidL:List (String × DataW Unit):=[("unicode/utf8.acceptRanges",Rows.laid_unicode_utf8_acceptRanges),("unicode.White_Space",Rows.laid_unicode_White_Space),("strings.asciiSpace",Rows.laid_strings_asciiSpace),("unicode/utf8.first",Rows.laid_unicode_utf8_first)]
def spL:List Int:=(List.range 256).map fun c=>if Lib.isSp (UInt8.ofNat c) then 1 else 0
theorem spD:(Rows.laid_strings_asciiSpace:DataW Unit) = Lib.tabData .u8 spL:=by kernel_rfl
theorem gSp:Tryz.prog.globalNamed "strings.asciiSpace" = some 2:=by kernel_rfl
theorem tSp:(Tryz.prog.globals[2]?).map (·.type) = some 228:=by kernel_rfl
theorem uSp:Tryz.prog.underlying 228 = some (.array 256 5):=by kernel_rfl
theorem uU8:Tryz.prog.underlying 5 = some (.int .u8):=by kernel_rfl
theorem cU8:Tryz.prog.cellsOf 5 = 1:=by kernel_rfl
theorem cSp:Tryz.prog.cellsOf 228 = 256:=by kernel_rfl
theorem sp_of {W:World} (h:laidMetH Tryz.prog laidL W):Lib.TabIs Tryz.prog W "strings.asciiSpace" .u8 spL:=by
  have h2:=Lib.laidMet.reads h (.tail _ (.tail _ (.head _)))
  rw [spD] at h2
  obtain ⟨g',t',cs,fuel,p,hg',ht',hvar,hd⟩:=h2
  obtain rfl:=Option.some.inj (gSp.symm.trans hg')
  obtain rfl:=Option.some.inj (tSp.symm.trans ht')
  unfold Lib.TabIs
  rw [hvar,← Lib.cells_of_tab uSp uU8 cU8 cSp hd]
def ren:Go.Shelf.Ren:=⟨fun x=>x,fun t=>if t = 119 then 228 else if t = 138 then 230 else if t = 139 then 231 else 5,fun g=>if g = 3 then 0 else 1⟩
theorem u8t:U8Types Tryz.prog ren:=⟨by kernel_rfl,by kernel_rfl,by kernel_rfl,by kernel_rfl⟩
theorem u8x:U8Extra Tryz.prog ren:=⟨by kernel_rfl,by kernel_rfl,by kernel_rfl,by kernel_rfl,by kernel_rfl,by kernel_rfl,by kernel_rfl⟩
theorem accD:(Rows.laid_unicode_utf8_acceptRanges:DataW Unit) = Lib.acceptData:=by kernel_rfl
theorem fstD:Rows.laid_unicode_utf8_first = Lib.firstData:=by kernel_rfl
theorem u8_of {W:World} (h:laidMetH Tryz.prog laidL W):Lib.Utf8Tabs 0 1 W:=by
  have h1:=Lib.laidMet.reads h (.head _)
  have h2:=Lib.laidMet.reads h (.tail _ (.tail _ (.tail _ (.head _))))
  rw [accD] at h1
  rw [fstD] at h2
  exact utf8Tabs_of_readsT u8t u8x h2 h1
theorem spL_at (c:Nat) (hc:c < 256):Value.int .u8 (spL.getD c 0) = spT c:=by
  simp [spL,spT,List.getD,hc]
theorem tabs_of {W:World} (h:laidMetH Tryz.prog laidL W) (hs:W.ShapedOpen Tryz.prog):(Tabs.T Tryz.prog).H W :=
  ⟨u8_of h,fun c hc=>by rw [(sp_of h).cell gSp c (by simpa [spL] using hc),spL_at c hc],
   Go.Proofs.cell_of_shapedOpen_int (g:=3) (t:=3) (k:=.i64) (zero:=#[.int .i64 0]) hs (of_decide_eq_true (by kernel_rfl)) (by kernel_rfl) rfl (by kernel_rfl) (by kernel_rfl) (by kernel_rfl)⟩
noncomputable abbrev laidWorld (os:Os):World:=World.laidAll Tryz.prog os laidL

end Go.Proofs.YtoaagdbbbojpmaaGreatDoor
set_option maxRecDepth 100000
set_option maxHeartbeats 4000000
set_option linter.unusedVariables false
set_option linter.unusedSimpArgs false
namespace Go.Proofs.YtoaagdbbbojpmaaGreatDoor
open Go Go.Mw
open Go.ChangeShapes Go.WideShapes Go.ChangeAt Go.RowKit

def bL {α:Type} (p:Nat → α → Prop) (B:Nat) (l:List α):Prop:=l.length ≤ B ∧ ∀ a ∈ l,p B a
def El1 {α:Type} (τ:Ty) (f:α → List AV) (p:Nat → α → Prop):Prop:=∀ r,τ.ok r → ∃ a,All2 Nd r (f a) ∧ p maxLen a ∧ ∀ B,τ.bd B r → p B a
theorem rowsN {α:Type} {τ:Ty} {f:α → List AV} {p:Nat → α → Prop} (h:El1 τ f p):∀ {rows:List (List AV)},(∀ r ∈ rows,τ.ok r) → ∃ l:List α,All2 (All2 Nd) rows (l.map f) ∧ (∀ a ∈ l,p maxLen a) ∧ ∀ B,(∀ r ∈ rows,τ.bd B r) → ∀ a ∈ l,p B a
  | [],_=>⟨[],trivial,(fun a h=>by cases h),(fun _ _ a h=>by cases h)⟩
  | r :: rows,hr=>by
    obtain ⟨a,h1,h2,h3⟩:=h r (hr r (by simp))
    obtain ⟨l,g1,g2,g3⟩:=rowsN h (rows:=rows) fun r hr'=>hr r (by simp [hr'])
    refine ⟨a :: l,⟨h1,g1⟩,fun b hb=>?_,fun B hB b hb=>?_⟩
    · rcases List.mem_cons.1 hb with rfl | hb
      · exact h2
      · exact g2 b hb
    · rcases List.mem_cons.1 hb with rfl | hb
      · exact h3 B (hB r (by simp))
      · exact g3 B (fun r hr'=>hB r (by simp [hr'])) b hb
theorem ndRows {st:Nat} {rows rows':List (List AV)} (h:All2 (All2 Nd) rows rows'):Nd (.sl st rows) (.sl st rows'):=by
  refine .sl st _ _ h.length (fun i r r' h1 h2=>?_) (fun i j r r' x y h1 h2 h3 h4=>?_)
  · obtain ⟨a,e1,e2⟩:=h.get h2
    obtain rfl:=Option.some.inj (h1.symm.trans e1)
    exact e2.length
  · obtain ⟨a,e1,e2⟩:=h.get h2
    obtain rfl:=Option.some.inj (h1.symm.trans e1)
    obtain ⟨b,e3,e4⟩:=e2.get h4
    obtain rfl:=Option.some.inj (h3.symm.trans e3)
    exact e4
theorem slN {α:Type} {τ:Ty} {f:α → List AV} {p:Nat → α → Prop} (h:El1 τ f p) {r:List AV} (hr:(Ty.sl τ).ok r):∃ x l,r = [x] ∧ Nd x (.sl τ.n (l.map f)) ∧ bL p maxLen l ∧ ∀ B,(Ty.sl τ).bd B [x] → bL p B l:=by
  rcases hr with rfl | ⟨rows,rfl,h2,h3⟩
  · exact ⟨_,[],rfl,.nl _,⟨Nat.zero_le _,fun a h=>by cases h⟩,fun B _=>⟨Nat.zero_le _,fun a h=>by cases h⟩⟩
  · obtain ⟨l,g1,g2,g3⟩:=rowsN h h3
    have hl:=g1.length
    rw [List.length_map] at hl
    refine ⟨_,l,rfl,ndRows g1,⟨by omega,g2⟩,fun B hB=>?_⟩
    obtain ⟨q1,q2⟩:=hB _ _ rfl
    exact ⟨by omega,g3 B q2⟩
theorem recV {α:Type} {τ:Ty} {f:α → List AV} {p:Nat → α → Prop} (h:El1 τ f p) (hr:τ.isRec = true) {x:AV} (hx:τ.okV x):∃ a,nld x (.agg (f a)) ∧ p maxLen a ∧ ∀ B,τ.bdV B x → p B a:=by
  unfold Ty.okV at hx
  rw [hr] at hx
  obtain ⟨xs,rfl,hx⟩:=hx
  obtain ⟨a,h1,h2,h3⟩:=h xs hx
  refine ⟨a,.inr ⟨_,_,rfl,rfl,h1⟩,h2,fun B hB=>h3 B ?_⟩
  unfold Ty.bdV at hB
  rw [hr] at hB
  exact hB _ rfl
theorem ok_2 {τ τ1:Ty} {xs:List AV} (h:All2 Ty.okV [τ,τ1] xs):∃ x y,xs = [x,y] ∧ τ.okV x ∧ τ1.okV y:=by
  match xs,h with
  | [x,y],h=>exact ⟨x,y,rfl,h.1,h.2.1⟩
end Go.Proofs.YtoaagdbbbojpmaaGreatDoor
set_option maxRecDepth 100000
set_option maxHeartbeats 40000000
set_option linter.unusedVariables false
set_option linter.unusedSimpArgs false
namespace Go.Proofs.YtoaagdbbbojpmaaGreatDoor
open Go Go.Mw
-- @U: List.length_map,mdC_e,exMr_e

def im0:Im:=⟨[],[],1,0,3,⟨0,0,false⟩,⟨0,0,false⟩,⟨0,false⟩⟩
def exM:Md:=⟨[⟨[],[]⟩],[],[⟨0,[],[⟨6,0,0,0,0,0,0,[],[]⟩,⟨11,0,0,0,0,0,0,[],[]⟩]⟩],[],[],[],[],false,0,[],[],[]⟩
def exT:Md:=⟨List.replicate 65 ⟨[],[]⟩,[],[],[],[],[],[],false,0,[],[],[]⟩
def exV:Md:=⟨[],List.replicate 5 im0,[],[],[],[],[],false,0,[],[],[]⟩
def exMr:List AV:=[.sl 2 [[.nl,.nl]],.nl,.sl 3 [[.int .i64 0,.nl,.sl 9 [[.int .i64 6,.int .i64 0,.int .i64 0,.int .u64 0,.int .i64 0,.int .i64 0,.int .i64 0,.nl,.nl],[.int .i64 11,.int .i64 0,.int .i64 0,.int .u64 0,.int .i64 0,.int .i64 0,.int .i64 0,.nl,.nl]]]],.nl,.nl,.nl,.nl,.bool false,.int .i64 0,.nl,.nl,.nl]
def exTr:List AV:=[.sl 2 (List.replicate 65 [.nl,.nl]),.nl,.nl,.nl,.nl,.nl,.nl,.bool false,.int .i64 0,.nl,.nl,.nl]
def exVr:List AV:=[.nl,.sl 13 ((List.replicate 5 im0).map imC),.nl,.nl,.nl,.nl,.nl,.bool false,.int .i64 0,.nl,.nl,.nl]
theorem exMr_e:exMr = [.sl 2 [[.nl,.nl]],.nl,.sl 3 [[.int .i64 0,.nl,.sl 9 [[.int .i64 6,.int .i64 0,.int .i64 0,.int .u64 0,.int .i64 0,.int .i64 0,.int .i64 0,.nl,.nl],[.int .i64 11,.int .i64 0,.int .i64 0,.int .u64 0,.int .i64 0,.int .i64 0,.int .i64 0,.nl,.nl]]]],.nl,.nl,.nl,.nl,.bool false,.int .i64 0,.nl,.nl,.nl]:=rfl
theorem exTr_e:exTr = [.sl 2 (List.replicate 65 [.nl,.nl]),.nl,.nl,.nl,.nl,.nl,.nl,.bool false,.int .i64 0,.nl,.nl,.nl]:=rfl
theorem exVr_e:exVr = [.nl,.sl 13 ((List.replicate 5 im0).map imC),.nl,.nl,.nl,.nl,.nl,.bool false,.int .i64 0,.nl,.nl,.nl]:=rfl
theorem nd_M:nld (.agg exMr) (md_ exM) :=
  .inr ⟨_,_,rfl,rfl,ndRows ⟨⟨.nl _,.nl _,trivial⟩,trivial⟩,.nl _,ndRows ⟨⟨.rfl _,.nl _,ndRows ⟨⟨.rfl _,.rfl _,.rfl _,.rfl _,.rfl _,.rfl _,.rfl _,.nl _,.nl _,trivial⟩,⟨.rfl _,.rfl _,.rfl _,.rfl _,.rfl _,.rfl _,.rfl _,.nl _,.nl _,trivial⟩,trivial⟩,trivial⟩,trivial⟩,.nl _,.nl _,.nl _,.nl _,.rfl _,.rfl _,.nl _,.nl _,.nl _,trivial⟩
theorem nd_rep:∀ n:Nat,All2 (All2 Nd) (List.replicate n [.nl,.nl]) ((List.replicate n (⟨[],[]⟩:Ft)).map ftC)
  | 0=>trivial
  | n + 1=>⟨⟨.nl _,.nl _,trivial⟩,nd_rep n⟩
theorem nd_T:nld (.agg exTr) (md_ exT):=.inr ⟨_,_,rfl,rfl,ndRows (nd_rep 65),.nl _,.nl _,.nl _,.nl _,.nl _,.nl _,.rfl _,.rfl _,.nl _,.nl _,.nl _,trivial⟩
theorem nd_V:nld (.agg exVr) (md_ exV):=.inr ⟨_,_,rfl,rfl,.nl _,.rfl _,.nl _,.nl _,.nl _,.nl _,.nl _,.rfl _,.rfl _,.nl _,.nl _,.nl _,trivial⟩
theorem sm_M:smM exM:=⟨⟨by decide,fun x hx=>by
    simp only [exM,List.mem_singleton] at hx; subst hx; exact ⟨by decide,by decide⟩⟩,by decide,⟨by decide,fun x hx=>by
    simp only [exM,List.mem_singleton] at hx; subst hx
    refine ⟨by decide,by decide,fun y hy=>?_⟩
    simp only [List.mem_cons,List.not_mem_nil,or_false] at hy
    rcases hy with rfl | rfl <;> exact ⟨by decide,by decide,by decide⟩⟩,by decide,by decide,⟨by decide,fun x h=>by cases h⟩,by decide,⟨by decide,fun x h=>by cases h⟩,⟨by decide,fun x h=>by cases h⟩,⟨by decide,fun x h=>by cases h⟩⟩
theorem sm_T:smM exT:=⟨⟨by decide,fun x hx=>by
    obtain rfl:=List.eq_of_mem_replicate hx; exact ⟨by decide,by decide⟩⟩,by decide,⟨by decide,fun x h=>by cases h⟩,by decide,by decide,⟨by decide,fun x h=>by cases h⟩,by decide,⟨by decide,fun x h=>by cases h⟩,⟨by decide,fun x h=>by cases h⟩,⟨by decide,fun x h=>by cases h⟩⟩
theorem sm_V:cpM exV:=⟨⟨by decide,fun x h=>by cases h⟩,by decide,⟨by decide,fun x h=>by cases h⟩,by decide,by decide,⟨by decide,fun x h=>by cases h⟩,by decide,⟨by decide,fun x h=>by cases h⟩,⟨by decide,fun x h=>by cases h⟩,⟨by decide,fun x h=>by cases h⟩⟩
deriving instance DecidableEq for Fa
theorem lim_M:limA plB exM = ⟨12,0,0,10⟩:=by decide +kernel
theorem lim_T:limA plB exT = ⟨1,64,0,6⟩:=by decide +kernel
theorem ins_M:insA exM = 2:=by decide +kernel
theorem same_MV:decide (SameP exM exV) = false:=by
  apply decide_eq_false
  intro h
  have:=h.2.2.1
  cases this
attribute [local go_sem] List.length_map mdC_e exMr_e
theorem s_alive7:PCalls Tryz.prog nX79 [] (.bool true):=by
  refine pfun_sound (ic:=FX79.body) mixed cX79 rfl rfl ?_
  have c1:PCalls Tryz.prog nX87 [.agg exMr] (.agg [.int .i64 12,.int .i64 0,.int .i64 0,.int .i64 10]):=by
    have c:=m_limits plB exM sm_M s_plB
    rw [lim_M] at c
    exact PCalls_nld c ⟨nd_M,trivial⟩
  have c2:PCalls Tryz.prog nX87 [.agg exTr] (.agg [.int .i64 1,.int .i64 64,.int .i64 0,.int .i64 6]):=by
    have c:=m_limits plB exT sm_T s_plB
    rw [lim_T] at c
    exact PCalls_nld c ⟨nd_T,trivial⟩
  have c3:PCalls Tryz.prog nX108 [.agg exMr,.agg exMr] (.bool true):=by
    have c:=m_same7 exM exM sm_M
    rw [decide_eq_true (SameP_refl exM)] at c
    exact PCalls_nld c ⟨nd_M,nd_M,trivial⟩
  have c4:PCalls Tryz.prog nX108 [.agg exMr,.agg exVr] (.bool false):=by
    have c:=m_same7 exM exV sm_M
    rw [same_MV] at c
    exact PCalls_nld c ⟨nd_M,nd_V,trivial⟩
  have c5:PCalls Tryz.prog nX86 [.agg exMr] (.int .i64 2):=by
    have c:=m_instrs exM sm_M
    rw [ins_M] at c
    exact PCalls_nld c ⟨nd_M,trivial⟩
  have c6:PCalls Tryz.prog nX107 [.agg exVr] (md_ exV):=PCalls_nld (s_copy7 exV sm_V) ⟨nd_V,trivial⟩
  rw [exMr_e] at c1 c3 c4 c5
  rw [exVr_e] at c4 c6
  rw [exTr_e] at c2
  simp only [go_sem,FX79]
  refine ⟨_,Wk.frzs [7,10] _,?_⟩
  simp only [opNew_bsl]
  simp only [go_sem,Nat.le_refl,List.take_succ_cons,List.take_zero]
  refine loop_rule (fun j:Nat=>⟨[(4,.int .i64 j),(3,.mp 3 12 0 0),(2,.mp 2 12 0 0),(0,.bool false)],[(3,⟨33,12,[[.nl,.ms 900 13 0 j,.nl,.nl,.nl,.nl,.nl,.bool false,.int .i64 0,.nl,.nl,.nl]],true⟩),(900,⟨80,13,(List.replicate j im0).map imC,false⟩),(2,⟨33,12,[exMr],true⟩)]⟩) (fun j=>j ≤ 5) (fun j=>5 - j) 0 (Nat.zero_le _) ((Wk.frzs [12] _).trans ((Wk.new0 _ 900 13 80 (.inl (by decide))).trans ((Wk.nlm _ 3 (r:=[.nl,.nl,.nl,.nl,.nl,.nl,.nl,.bool false,.int .i64 0,.nl,.nl,.nl]) rfl (r':=[.nl,.ms 900 13 0 0,.nl,.nl,.nl,.nl,.nl,.bool false,.int .i64 0,.nl,.nl,.nl]) ⟨.inl rfl,.inr ⟨rfl,.inr ⟨_,_,rfl⟩⟩,.inl rfl,.inl rfl,.inl rfl,.inl rfl,.inl rfl,.inl rfl,.inl rfl,.inl rfl,.inl rfl,.inl rfl,trivial⟩).trans (Wk.of ?_ ?_)))) ?_
  · simp only [go_sem]; try simp
  · simp only [go_sem,Nat.le_refl,List.take_succ_cons,List.take_zero]; try simp [exMr]
  intro j hj
  have happ:=fun ys=>appO_map 900 80 13 j imC (List.replicate j im0) ys (by simp)
  by_cases h1:(j:Int) < 5
  · have e8:=i_bd (show j < 5 by omega) (by omega)
    simp only [go_sem,decide_eq_true h1,happ]
    refine ⟨by omega,klp_n (j + 1) (show j + 1 ≤ 5 by omega) (show 5 - (j + 1) < 5 - j by omega) (Wk.of ?_ ?_)⟩
    · simp only [go_sem,e8]; try simp
    · simp only [go_sem]; try simp [List.replicate_succ',im0,imC_e]
  obtain rfl:j = 5:=by omega
  simp only [go_sem,decide_eq_false h1]
  refine call_same (c1) (by simp [go_sem]) ?_
  simp only [go_sem]
  refine ⟨by decide,?_⟩
  refine call_frz [31] ?_ c2 (by simp [go_sem]) ?_
  · simp only [go_sem,Nat.le_refl]
    try rfl
  simp only [go_sem]
  refine call_same (c3) (by simp [go_sem]) ?_
  simp only [go_sem]
  refine call_frz [900] ?_ c4 (by simp [go_sem]) ?_
  · simp only [go_sem,Nat.le_refl]
    try rfl
  simp only [go_sem]
  refine call_same (c5) (by simp [go_sem]) ?_
  simp only [go_sem]
  refine call_frz [] ?_ c6 (by simp [go_sem]) ?_
  · first | rfl | (simp only [go_sem,Nat.le_refl]; try rfl)
  simp only [go_sem,md_,show ((exV.ims.length:Nat):Int) = 5 from rfl]
  exact pdone [] (by simp only [go_sem]) (by first | rfl | simp [go_sem,slv_ids])
end Go.Proofs.YtoaagdbbbojpmaaGreatDoor
set_option maxRecDepth 100000
set_option maxHeartbeats 40000000
set_option linter.unusedVariables false
set_option linter.unusedSimpArgs false
namespace Go.Proofs.YtoaagdbbbojpmaaGreatDoor
open Go Go.Mw
-- @U: List.length_map,inL_e,ins_e,insC

end Go.Proofs.YtoaagdbbbojpmaaGreatDoor
set_option maxRecDepth 100000
set_option maxHeartbeats 40000000
set_option linter.unusedVariables false
set_option linter.unusedSimpArgs false
namespace Go.Proofs.YtoaagdbbbojpmaaGreatDoor
open Go Go.Mw
-- @U: List.length_map,mdC_e,ftC_e,imC_e,cdC_e,gdC_e,exC_e,elC_e,daC_e,cuC_e,inL_e

structure lgM (m:Md):Prop where
  ts:m.ts.length ≤ 100
  ims:m.ims.length ≤ 100
  fs:m.fs.length ≤ 100
  tbs:m.tbs.length ≤ 100
  ms:m.ms.length ≤ 100
  gs:m.gs.length ≤ 100
  exs:m.exs.length ≤ 100
  els:m.els.length ≤ 100
  ds:m.ds.length ≤ 100
  cs:m.cs.length ≤ 100
  it:∀ x ∈ m.els,x.it.length ≤ 300
end Go.Proofs.YtoaagdbbbojpmaaGreatDoor
set_option maxRecDepth 100000
set_option maxHeartbeats 40000000
set_option linter.unusedVariables false
set_option linter.unusedSimpArgs false
namespace Go.Proofs.YtoaagdbbbojpmaaGreatDoor
open Go Go.Mw
-- @U: List.length_map,mdC_e,imC_e,ins_e,insC,fa_

end Go.Proofs.YtoaagdbbbojpmaaGreatDoor
set_option maxRecDepth 100000
set_option maxHeartbeats 40000000
set_option linter.unusedVariables false
set_option linter.unusedSimpArgs false
namespace Go.Proofs.YtoaagdbbbojpmaaGreatDoor
open Go Go.Mw
-- @U: List.length_map,mdC_e,imC_e,tbC_e,lmC_e

end Go.Proofs.YtoaagdbbbojpmaaGreatDoor
set_option maxRecDepth 100000
set_option maxHeartbeats 40000000
set_option linter.unusedVariables false
set_option linter.unusedSimpArgs false
namespace Go.Proofs.YtoaagdbbbojpmaaGreatDoor
open Go Go.Mw
-- @U: List.length_map,mdC_e,ftC_e,imC_e,tbC_e,lmC_e,fa_,faO

end Go.Proofs.YtoaagdbbbojpmaaGreatDoor
set_option maxRecDepth 100000
set_option maxHeartbeats 40000000
set_option linter.unusedVariables false
set_option linter.unusedSimpArgs false
namespace Go.Proofs.YtoaagdbbbojpmaaGreatDoor
open Go Go.Mw
-- @U: List.length_map,mdC_e,ftC_e,imC_e,tbC_e,lmC_e,fa_,faO

end Go.Proofs.YtoaagdbbbojpmaaGreatDoor
set_option maxRecDepth 100000
set_option maxHeartbeats 40000000
set_option linter.unusedVariables false
set_option linter.unusedSimpArgs false
namespace Go.Proofs.YtoaagdbbbojpmaaGreatDoor
open Go Go.Mw
-- @U: List.length_map,mdC_e,ftC_e,imC_e,tbC_e,lmC_e,fa_,faO

end Go.Proofs.YtoaagdbbbojpmaaGreatDoor
set_option maxRecDepth 100000
set_option maxHeartbeats 40000000
set_option linter.unusedVariables false
set_option linter.unusedSimpArgs false
namespace Go.Proofs.YtoaagdbbbojpmaaGreatDoor
open Go Go.Mw
-- @U: List.length_map,mdC_e,ftC_e,imC_e,tbC_e,lmC_e,fa_,faO

end Go.Proofs.YtoaagdbbbojpmaaGreatDoor
set_option maxRecDepth 100000
set_option maxHeartbeats 40000000
set_option linter.unusedVariables false
set_option linter.unusedSimpArgs false
namespace Go.Proofs.YtoaagdbbbojpmaaGreatDoor
open Go Go.Mw
-- @U: List.length_map,mdC_e,ftC_e,imC_e,tbC_e,lmC_e,cdC_e,fa_,faO

end Go.Proofs.YtoaagdbbbojpmaaGreatDoor
set_option maxRecDepth 100000
set_option maxHeartbeats 40000000
set_option linter.unusedVariables false
set_option linter.unusedSimpArgs false
namespace Go.Proofs.YtoaagdbbbojpmaaGreatDoor
open Go Go.Mw
-- @U: List.length_map,mdC_e,ftC_e,imC_e,tbC_e,lmC_e,gdC_e,fa_,faO

end Go.Proofs.YtoaagdbbbojpmaaGreatDoor
set_option linter.unusedVariables false
set_option maxHeartbeats 8000000
set_option maxRecDepth 100000
namespace Go.Proofs.YtoaagdbbbojpmaaGreatDoor
open Go Go.Mw

def bn (l:List UInt8) (i:Nat):Nat:=(nth l i).toNat
end Go.Proofs.YtoaagdbbbojpmaaGreatDoor
set_option linter.unusedVariables false
set_option maxHeartbeats 8000000
set_option maxRecDepth 100000
namespace Go.Proofs.YtoaagdbbbojpmaaGreatDoor
open Go Go.Mw

def ctb (b:Nat):Prop:=¬ (b < 128 ∨ b ≥ 192)
instance (b:Nat):Decidable (ctb b):=by unfold ctb; exact inferInstance
end Go.Proofs.YtoaagdbbbojpmaaGreatDoor
set_option linter.unusedVariables false
set_option maxHeartbeats 8000000
set_option maxRecDepth 100000
namespace Go.Proofs.YtoaagdbbbojpmaaGreatDoor
open Go Go.Mw

end Go.Proofs.YtoaagdbbbojpmaaGreatDoor
set_option maxRecDepth 100000
set_option maxHeartbeats 8000000
set_option linter.unusedVariables false
set_option linter.unusedSimpArgs false
namespace Go.Proofs.YtoaagdbbbojpmaaGreatDoor
open Go Go.Mw
-- @U: List.length_map

def hpx (s p:List UInt8):Bool:=decide (p.length ≤ s.length) && (s.take p.length == p)
def r3 (n:Int):List AV:=[.int .i32 n]
theorem r3_e (n:Int):r3 n = [.int .i32 n]:=rfl
attribute [go_sem] r3_e
end Go.Proofs.YtoaagdbbbojpmaaGreatDoor
set_option maxRecDepth 100000
set_option maxHeartbeats 8000000
set_option linter.unusedVariables false
set_option linter.unusedSimpArgs false
namespace Go.Proofs.YtoaagdbbbojpmaaGreatDoor
open Go Go.Mw
-- @U: List.length_map

end Go.Proofs.YtoaagdbbbojpmaaGreatDoor
set_option maxRecDepth 100000
set_option maxHeartbeats 20000000
set_option linter.unusedVariables false
set_option linter.unusedSimpArgs false
namespace Go.Proofs.YtoaagdbbbojpmaaGreatDoor
open Go Go.Mw
-- @U: List.length_map

def rw_ (r:List Int):List AV:=[.sl 1 (r.map vl_)]
theorem rw_e (r:List Int):rw_ r = [.sl 1 (r.map vl_)]:=rfl
attribute [go_sem] rw_e
end Go.Proofs.YtoaagdbbbojpmaaGreatDoor
set_option linter.unusedVariables false
set_option maxHeartbeats 8000000
set_option maxRecDepth 100000
namespace Go.Proofs.YtoaagdbbbojpmaaGreatDoor
open Go Go.Mw

end Go.Proofs.YtoaagdbbbojpmaaGreatDoor
