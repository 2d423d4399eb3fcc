/-
  Chapter 5, the law OpcodePlain: the two Plain agree.
-/
import Derived.Test.YtnhnghpnejobfaaDoorQl
import Derived.Test.YtnhnghpnejobfaaDoorQm
import Derived.Test.YtnhnghpnejobfaaDoorQd
set_option linter.unusedVariables false
set_option linter.unusedSimpArgs false
set_option linter.unusedSectionVars false
set_option maxRecDepth 100000
set_option maxHeartbeats 8000000
set_option linter.unusedVariables false
set_option linter.unusedSimpArgs false
namespace Go.Proofs.YtnhnghpnejobfaaDoor
open Go Go.Mw
-- @U: vl_e, List.length_map, ins_e

theorem pl_eq (i : Int) (hi : 0 ≤ i ∧ i ≤ 20) (kn : Bool) (x : Ins) (hn : 0 ≤ x.n) : plP i kn (usd i) x = plR i kn x := by
  obtain ⟨op, a, b, n, k, v, z, ty, lb⟩ := x
  replace hn : 0 ≤ n := hn
  have hal : ¬ ((lb.length : Int) > 0) → lb.all ixB = true := fun h => by
    cases lb with
    | nil => rfl
    | cons y l => simp at h
  unfold plP plR finP rfin
  simp only
  generalize lb.all ixB = al at hal
  generalize (lb.length : Int) = ll at hal
  generalize vaB (nth ty 0) = vv
  generalize (ty.length : Int) = tl
  generalize blB k v z = bb
  generalize ((k == 0) && ((v == 0) && (z == 0))) = kk
  have ea : a = 0 → ixB a = true := fun h => by subst h; decide
  have eb : b = 0 → ixB b = true := fun h => by subst h; decide
  have ec : a = 3 ∨ a = 4 → ixB a = true := fun h => by rcases h with rfl | rfl <;> decide
  have ed : ixB a = true ∧ a ≤ 63 ↔ a ≥ 0 ∧ a ≤ 63 := by
    simp only [ixB, Bool.and_eq_true, decide_eq_true_eq]
    omega
  generalize ixB a = xa at ea ec ed
  generalize ixB b = xb at eb
  rcases (show i = 0 ∨ i = 1 ∨ i = 2 ∨ i = 3 ∨ i = 4 ∨ i = 5 ∨ i = 6 ∨ i = 7 ∨ i = 8 ∨ i = 9 ∨ i = 10 ∨ i = 11 ∨ i = 12 ∨ i = 13 ∨ i = 14 ∨ i = 15 ∨ i = 16 ∨ i = 17 ∨ i = 18 ∨ i = 19 ∨ i = 20 by omega) with rfl | rfl | rfl | rfl | rfl | rfl | rfl | rfl | rfl | rfl | rfl | rfl | rfl | rfl | rfl | rfl | rfl | rfl | rfl | rfl | rfl
  all_goals
    simp only [usd, useT, List.find?_cons, List.find?_nil, Int.reduceBEq, Int.reduceEq, if_true, if_false, Bool.true_or, Bool.false_or, Bool.true_and, Bool.false_and, false_or, or_false, or_true, true_or, or_self]
    rw [Bool.eq_iff_iff]
    simp only [Bool.and_eq_true, Bool.or_eq_true, beq_iff_eq, decide_eq_true_eq, Bool.not_eq_true', decide_eq_false_iff_not]
    grind
theorem imm_rng (op : Int) : 0 ≤ rIm op ∧ rIm op ≤ 20 := by
  by_cases h : rowOf op = none
  · rw [(row_none h).2.1]; decide
  · have := row_in (p := fun op => decide (0 ≤ rIm op) && decide (rIm op ≤ 20)) (by decide +kernel) h
    simpa using this
theorem w_plain (x : Ins) (h1 : x.ty.length ≤ 9223372036854775807) (h2 : x.lb.length ≤ 9223372036854775807) (hn : 0 ≤ x.n) : PCalls Tryd.prog n_law05_OpcodePlain [ins_ x] (.bool true) := by
  refine pfun_sound (ic := F_law05_OpcodePlain.body) mixed c_law05_OpcodePlain rfl rfl ?_
  have a5 := s_alive5
  by_cases q1 : (x.lb.length : Int) > 200
  · simp only [go_sem, vl_e, List.length_map, ins_e, F_law05_OpcodePlain, decide_eq_true q1]
    refine call_same (a5) (by simp [go_sem, vl_e, List.length_map, ins_e]) ?_
    simp only [go_sem, vl_e, List.length_map, ins_e]
    exact pdone [] (by rfl) rfl
  by_cases q2 : (x.ty.length : Int) > 200
  · simp only [go_sem, vl_e, List.length_map, ins_e, F_law05_OpcodePlain, decide_eq_false q1, decide_eq_true q2]
    refine call_same (a5) (by simp [go_sem, vl_e, List.length_map, ins_e]) ?_
    simp only [go_sem, vl_e, List.length_map, ins_e]
    exact pdone [] (by rfl) rfl
  obtain ⟨t1, t2, t3, _⟩ := tells x.op
  have a1 := s_plain5 x (rIm x.op) (imm_rng _) t3 h2
  have a2 := r_plain5 x (rIm x.op) (imm_rng _) rfl h2
  rw [t1, pl_eq _ (imm_rng _) _ _ hn] at a1
  generalize plR (rIm x.op) (rKn x.op) x = r at a1 a2
  simp only [ins_e] at a1 a2
  have t := beq_self_eq_true r
  simp only [go_sem, vl_e, List.length_map, ins_e, F_law05_OpcodePlain, decide_eq_false q1, decide_eq_false q2]
  refine dcall_same a1 (by simp [go_sem, vl_e]) rfl ?_
  simp only [go_sem, vl_e, List.length_map, ins_e]
  refine call_same (a2) (by simp [go_sem, vl_e, List.length_map, ins_e]) ?_
  simp only [go_sem, vl_e, List.length_map, ins_e, t]
  refine call_same (a5) (by simp [go_sem, vl_e, List.length_map, ins_e]) ?_
  simp only [go_sem, vl_e, List.length_map, ins_e]
  exact pdone [] (by rfl) rfl
end Go.Proofs.YtnhnghpnejobfaaDoor
