/-
  Chapter 5, the law OpcodePlain: the reference's Plain, walked.
-/
import Derived.Test.YtdhiiannngjjpaaDoorQl
import Derived.Test.YtdhiiannngjjpaaDoorQd
set_option linter.unusedVariables false
set_option linter.unusedSimpArgs false
set_option linter.unusedSectionVars false
set_option maxRecDepth 100000
set_option maxHeartbeats 40000000
set_option linter.unusedVariables false
set_option linter.unusedSimpArgs false
namespace Go.Proofs.YtdhiiannngjjpaaDoor
open Go Go.Mw
-- @U: vl_e, List.length_map, ins_e

def rfin (i : Int) (x : Ins) : Bool :=
  if i = 0 then (x.a == 0) && ((x.b == 0) && (x.n == 0)) else
  if i = 1 then (x.a == 0) && ((x.b == 0) && ((x.n == 0) && blB x.k x.v x.x)) else
  if i = 3 then ixB x.a && ((x.b == 0) && ((x.n == 0) && x.lb.all ixB)) else
  if i = 6 then (x.a == 0) && ((x.b == 0) && ((x.n == 0) && (((x.ty.length : Int) == 1) && vaB (nth x.ty 0)))) else
  if i = 13 then (x.a == 0) && (ixB x.b && (x.n == 0)) else
  if i = 17 then decide (x.a ≥ 0) && (decide (x.a ≤ 63) && (ixB x.b && decide (x.n < 4294967296))) else
  if i = 18 then (x.a == 0) && ((x.b == 0) && decide (x.n < 4294967296)) else
  if i = 19 then (x.a == 0) && (x.b == 0) else
  if i = 20 then ((x.a == 3) || (x.a == 4)) && ((x.b == 0) && (x.n == 0)) else
  if i = 5 ∨ i = 10 ∨ i = 11 ∨ i = 14 ∨ i = 15 then ixB x.a && (ixB x.b && (x.n == 0)) else
  ixB x.a && ((x.b == 0) && (x.n == 0))
def plR (i : Int) (kn : Bool) (x : Ins) : Bool :=
  kn && (((i == 1) || ((x.k == 0) && ((x.v == 0) && (x.x == 0)))) && (((i == 3) || !decide ((x.lb.length : Int) > 0)) && (((i == 6) || !decide ((x.ty.length : Int) > 0)) && rfin i x)))
end Go.Proofs.YtdhiiannngjjpaaDoor
set_option maxRecDepth 100000
set_option maxHeartbeats 8000000
set_option linter.unusedVariables false
set_option linter.unusedSimpArgs false
namespace Go.Proofs.YtdhiiannngjjpaaDoor
open Go Go.Mw
-- @U: vl_e, List.length_map, ins_e

theorem pl_eq (i : Int) (hi : 0 ≤ i ∧ i ≤ 20) (kn : Bool) (x : Ins) (hn : 0 ≤ x.n) : plP i kn (usd i) x = plR i kn x := by
  obtain ⟨op, a, b, n, k, v, z, ty, lb⟩ := x
  replace hn : 0 ≤ n := hn
  have hal : ¬ ((lb.length : Int) > 0) → lb.all ixB = true := fun h => by
    cases lb with
    | nil => rfl
    | cons y l => simp at h
  unfold plP plR finP rfin
  simp only
  generalize lb.all ixB = al at hal
  generalize (lb.length : Int) = ll at hal
  generalize vaB (nth ty 0) = vv
  generalize (ty.length : Int) = tl
  generalize blB k v z = bb
  generalize ((k == 0) && ((v == 0) && (z == 0))) = kk
  have ea : a = 0 → ixB a = true := fun h => by subst h; decide
  have eb : b = 0 → ixB b = true := fun h => by subst h; decide
  have ec : a = 3 ∨ a = 4 → ixB a = true := fun h => by rcases h with rfl | rfl <;> decide
  have ed : ixB a = true ∧ a ≤ 63 ↔ a ≥ 0 ∧ a ≤ 63 := by
    simp only [ixB, Bool.and_eq_true, decide_eq_true_eq]
    omega
  generalize ixB a = xa at ea ec ed
  generalize ixB b = xb at eb
  rcases (show i = 0 ∨ i = 1 ∨ i = 2 ∨ i = 3 ∨ i = 4 ∨ i = 5 ∨ i = 6 ∨ i = 7 ∨ i = 8 ∨ i = 9 ∨ i = 10 ∨ i = 11 ∨ i = 12 ∨ i = 13 ∨ i = 14 ∨ i = 15 ∨ i = 16 ∨ i = 17 ∨ i = 18 ∨ i = 19 ∨ i = 20 by omega) with rfl | rfl | rfl | rfl | rfl | rfl | rfl | rfl | rfl | rfl | rfl | rfl | rfl | rfl | rfl | rfl | rfl | rfl | rfl | rfl | rfl
  all_goals
    simp only [usd, useT, List.find?_cons, List.find?_nil, Int.reduceBEq, Int.reduceEq, if_true, if_false, Bool.true_or, Bool.false_or, Bool.true_and, Bool.false_and, false_or, or_false, or_true, true_or, or_self]
    rw [Bool.eq_iff_iff]
    simp only [Bool.and_eq_true, Bool.or_eq_true, beq_iff_eq, decide_eq_true_eq, Bool.not_eq_true', decide_eq_false_iff_not]
    grind
theorem imm_rng (op : Int) : 0 ≤ rIm op ∧ rIm op ≤ 20 := by
  by_cases h : rowOf op = none
  · rw [(row_none h).2.1]; decide
  · have := row_in (p := fun op => decide (0 ≤ rIm op) && decide (rIm op ≤ 20)) (by decide +kernel) h
    simpa using this
end Go.Proofs.YtdhiiannngjjpaaDoor
