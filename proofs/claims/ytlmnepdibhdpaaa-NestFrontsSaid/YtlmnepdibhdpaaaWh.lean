/-
  Chapter 9, walks: the laws NestChecks, NestBlocks, NestTargets.
-/
import Derived.Test.YtlmnepdibhdpaaaWg
set_option linter.unusedSimpArgs false
set_option maxRecDepth 100000
set_option maxHeartbeats 4000000
namespace Go.Proofs.Ytlmnepdibhdpaaa
open Go Go.Mw

theorem w_checks (B : List Ins) : PCalls Try.prog 3 [.sl 9 (B.map Ins.row)] (.bool true) := by
  refine pfun_sound (ic := F_law09_NestChecks.body) mixed c_law09_NestChecks rfl rfl ?_
  simp only [F_law09_NestChecks, go_sem, ↓reduceIte, Nat.reduceEqDiff, Nat.reduceLT, reduceCtorEq, Nat.reduceAdd, Nat.zero_add, decide_eq_true_eq, decide_eq_false_iff_not, Nat.reduceLeDiff, Nat.reduceBEq, Nat.reduceBNe, beq_self_eq_true, Int.reduceNeg, Int.reduceToNat, Nat.lt_add_one]
  refine ⟨fun h => call_same s_alive (by simp [go_sem]) ?_, fun h => call_same (s_check B (by omega)) (by simp [go_sem]) ?_⟩
  · simp only [go_sem, ↓reduceIte, Nat.reduceEqDiff, Nat.reduceLT, reduceCtorEq, Nat.reduceAdd, Nat.zero_add, decide_eq_true_eq, decide_eq_false_iff_not, Nat.reduceLeDiff, Nat.reduceBEq, Nat.reduceBNe, beq_self_eq_true, Int.reduceNeg, Int.reduceToNat, Nat.lt_add_one]
    refine pdone [] ?_ rfl
    simp [go_sem]
  · simp only [go_sem, ↓reduceIte, Nat.reduceEqDiff, Nat.reduceLT, reduceCtorEq, Nat.reduceAdd, Nat.zero_add, decide_eq_true_eq, decide_eq_false_iff_not, Nat.reduceLeDiff, Nat.reduceBEq, Nat.reduceBNe, beq_self_eq_true, Int.reduceNeg, Int.reduceToNat, Nat.lt_add_one]
    refine call_same (s_rcheck B (by omega)) (by simp [go_sem]) ?_
    simp only [go_sem, ↓reduceIte, Nat.reduceEqDiff, Nat.reduceLT, reduceCtorEq, Nat.reduceAdd, Nat.zero_add, decide_eq_true_eq, decide_eq_false_iff_not, Nat.reduceLeDiff, Nat.reduceBEq, Nat.reduceBNe, beq_self_eq_true, Int.reduceNeg, Int.reduceToNat, Nat.lt_add_one, beq_self_eq_true]
    refine call_same s_alive (by simp [go_sem]) ?_
    simp only [go_sem, ↓reduceIte, Nat.reduceEqDiff, Nat.reduceLT, reduceCtorEq, Nat.reduceAdd, Nat.zero_add, decide_eq_true_eq, decide_eq_false_iff_not, Nat.reduceLeDiff, Nat.reduceBEq, Nat.reduceBNe, beq_self_eq_true, Int.reduceNeg, Int.reduceToNat, Nat.lt_add_one]
    refine pdone [] ?_ rfl
    simp [go_sem]

theorem w_targets (B : List Ins) (p lab : Int) : PCalls Try.prog 5 [.sl 9 (B.map Ins.row), .int .i64 p, .int .i64 lab] (.bool true) := by
  refine pfun_sound (ic := F_law09_NestTargets.body) mixed c_law09_NestTargets rfl rfl ?_
  simp only [F_law09_NestTargets, go_sem, ↓reduceIte, Nat.reduceEqDiff, Nat.reduceLT, reduceCtorEq, Nat.reduceAdd, Nat.zero_add, decide_eq_true_eq, decide_eq_false_iff_not, Nat.reduceLeDiff, Nat.reduceBEq, Nat.reduceBNe, beq_self_eq_true, Int.reduceNeg, Int.reduceToNat, Nat.lt_add_one]
  refine ⟨fun h => call_same s_alive (by simp [go_sem]) ?_, fun h => call_same (s_target B p lab (by omega)) (by simp [go_sem]) ?_⟩
  · simp only [go_sem, ↓reduceIte, Nat.reduceEqDiff, Nat.reduceLT, reduceCtorEq, Nat.reduceAdd, Nat.zero_add, decide_eq_true_eq, decide_eq_false_iff_not, Nat.reduceLeDiff, Nat.reduceBEq, Nat.reduceBNe, beq_self_eq_true, Int.reduceNeg, Int.reduceToNat, Nat.lt_add_one]
    refine pdone [] ?_ rfl
    simp [go_sem]
  · simp only [go_sem, ↓reduceIte, Nat.reduceEqDiff, Nat.reduceLT, reduceCtorEq, Nat.reduceAdd, Nat.zero_add, decide_eq_true_eq, decide_eq_false_iff_not, Nat.reduceLeDiff, Nat.reduceBEq, Nat.reduceBNe, beq_self_eq_true, Int.reduceNeg, Int.reduceToNat, Nat.lt_add_one]
    refine call_same (s_rtarget B p lab (by omega)) (by simp [go_sem]) ?_
    simp only [go_sem, ↓reduceIte, Nat.reduceEqDiff, Nat.reduceLT, reduceCtorEq, Nat.reduceAdd, Nat.zero_add, decide_eq_true_eq, decide_eq_false_iff_not, Nat.reduceLeDiff, Nat.reduceBEq, Nat.reduceBNe, beq_self_eq_true, Int.reduceNeg, Int.reduceToNat, Nat.lt_add_one, beq_self_eq_true]
    refine call_same s_alive (by simp [go_sem]) ?_
    simp only [go_sem, ↓reduceIte, Nat.reduceEqDiff, Nat.reduceLT, reduceCtorEq, Nat.reduceAdd, Nat.zero_add, decide_eq_true_eq, decide_eq_false_iff_not, Nat.reduceLeDiff, Nat.reduceBEq, Nat.reduceBNe, beq_self_eq_true, Int.reduceNeg, Int.reduceToNat, Nat.lt_add_one]
    refine pdone [] ?_ rfl
    simp [go_sem]

/-- Same over results that may be nil. -/
theorem coe_orNil (B : List Ins) (l : List Int) (h : Nat → Option AObj) : ∃ l' : List Int, coe false h (orNil B l) (.sl 1 (l'.map ri)) ∧ l'.length ≤ l.length := by
  unfold orNil
  split
  · exact ⟨l, .inl rfl, Nat.le_refl _⟩
  · exact ⟨[], .inr (.inl ⟨rfl, 1, rfl⟩), Nat.zero_le _⟩
theorem same_orNil {B : List Ins} {l : List Int} {d : Option Nat} {s : St} {K : St → Prop} (hl : l.length < 1000000) (hk : K (s.put d (.bool true))) : icall Try.prog 11 [orNil B l, orNil B l] d s K := by
  obtain ⟨l', h1, h2⟩ := coe_orNil B l (hget s.heap)
  exact call_pure (e_same l' (by omega)) (by simp [go_sem]) ⟨h1, h1, trivial⟩ hk

theorem w_blocks (B : List Ins) : PCalls Try.prog 4 [.sl 9 (B.map Ins.row)] (.bool true) := by
  refine pfun_sound (ic := F_law09_NestBlocks.body) mixed c_law09_NestBlocks rfl rfl ?_
  simp only [F_law09_NestBlocks, go_sem, ↓reduceIte, Nat.reduceEqDiff, Nat.reduceLT, reduceCtorEq, Nat.reduceAdd, Nat.zero_add, decide_eq_true_eq, decide_eq_false_iff_not, Nat.reduceLeDiff, Nat.reduceBEq, Nat.reduceBNe, beq_self_eq_true, Int.reduceNeg, Int.reduceToNat, Nat.lt_add_one]
  refine ⟨fun h => call_same s_alive (by simp [go_sem]) ?_, fun h => call_same (s_ends B (by omega)) (by simp [go_sem]) ?_⟩
  · simp only [go_sem, ↓reduceIte, Nat.reduceEqDiff, Nat.reduceLT, reduceCtorEq, Nat.reduceAdd, Nat.zero_add, decide_eq_true_eq, decide_eq_false_iff_not, Nat.reduceLeDiff, Nat.reduceBEq, Nat.reduceBNe, beq_self_eq_true, Int.reduceNeg, Int.reduceToNat, Nat.lt_add_one]
    refine pdone [] ?_ rfl
    simp [go_sem]
  · simp only [go_sem, ↓reduceIte, Nat.reduceEqDiff, Nat.reduceLT, reduceCtorEq, Nat.reduceAdd, Nat.zero_add, decide_eq_true_eq, decide_eq_false_iff_not, Nat.reduceLeDiff, Nat.reduceBEq, Nat.reduceBNe, beq_self_eq_true, Int.reduceNeg, Int.reduceToNat, Nat.lt_add_one]
    refine call_same (s_rends B (by omega)) (by simp [go_sem]) ?_
    simp only [go_sem, ↓reduceIte, Nat.reduceEqDiff, Nat.reduceLT, reduceCtorEq, Nat.reduceAdd, Nat.zero_add, decide_eq_true_eq, decide_eq_false_iff_not, Nat.reduceLeDiff, Nat.reduceBEq, Nat.reduceBNe, beq_self_eq_true, Int.reduceNeg, Int.reduceToNat, Nat.lt_add_one]
    refine same_orNil (by rw [endsA_len]; omega) ?_
    simp only [go_sem, ↓reduceIte, Nat.reduceEqDiff, Nat.reduceLT, reduceCtorEq, Nat.reduceAdd, Nat.zero_add, decide_eq_true_eq, decide_eq_false_iff_not, Nat.reduceLeDiff, Nat.reduceBEq, Nat.reduceBNe, beq_self_eq_true, Int.reduceNeg, Int.reduceToNat, Nat.lt_add_one]
    refine call_same (s_elses B (by omega)) (by simp [go_sem]) ?_
    simp only [go_sem, ↓reduceIte, Nat.reduceEqDiff, Nat.reduceLT, reduceCtorEq, Nat.reduceAdd, Nat.zero_add, decide_eq_true_eq, decide_eq_false_iff_not, Nat.reduceLeDiff, Nat.reduceBEq, Nat.reduceBNe, beq_self_eq_true, Int.reduceNeg, Int.reduceToNat, Nat.lt_add_one]
    refine call_same (s_relses B (by omega)) (by simp [go_sem]) ?_
    simp only [go_sem, ↓reduceIte, Nat.reduceEqDiff, Nat.reduceLT, reduceCtorEq, Nat.reduceAdd, Nat.zero_add, decide_eq_true_eq, decide_eq_false_iff_not, Nat.reduceLeDiff, Nat.reduceBEq, Nat.reduceBNe, beq_self_eq_true, Int.reduceNeg, Int.reduceToNat, Nat.lt_add_one]
    refine same_orNil (by rw [elsesA_len]; omega) ?_
    simp only [go_sem, ↓reduceIte, Nat.reduceEqDiff, Nat.reduceLT, reduceCtorEq, Nat.reduceAdd, Nat.zero_add, decide_eq_true_eq, decide_eq_false_iff_not, Nat.reduceLeDiff, Nat.reduceBEq, Nat.reduceBNe, beq_self_eq_true, Int.reduceNeg, Int.reduceToNat, Nat.lt_add_one]
    refine call_same (s_depths B (by omega)) (by simp [go_sem]) ?_
    simp only [go_sem, ↓reduceIte, Nat.reduceEqDiff, Nat.reduceLT, reduceCtorEq, Nat.reduceAdd, Nat.zero_add, decide_eq_true_eq, decide_eq_false_iff_not, Nat.reduceLeDiff, Nat.reduceBEq, Nat.reduceBNe, beq_self_eq_true, Int.reduceNeg, Int.reduceToNat, Nat.lt_add_one]
    refine call_same (s_rdepths B (by omega)) (by simp [go_sem]) ?_
    simp only [go_sem, ↓reduceIte, Nat.reduceEqDiff, Nat.reduceLT, reduceCtorEq, Nat.reduceAdd, Nat.zero_add, decide_eq_true_eq, decide_eq_false_iff_not, Nat.reduceLeDiff, Nat.reduceBEq, Nat.reduceBNe, beq_self_eq_true, Int.reduceNeg, Int.reduceToNat, Nat.lt_add_one]
    refine same_orNil (by rw [depthsA_len]; omega) ?_
    simp only [go_sem, ↓reduceIte, Nat.reduceEqDiff, Nat.reduceLT, reduceCtorEq, Nat.reduceAdd, Nat.zero_add, decide_eq_true_eq, decide_eq_false_iff_not, Nat.reduceLeDiff, Nat.reduceBEq, Nat.reduceBNe, beq_self_eq_true, Int.reduceNeg, Int.reduceToNat, Nat.lt_add_one]
    refine call_same (s_heads B (by omega)) (by simp [go_sem]) ?_
    simp only [go_sem, ↓reduceIte, Nat.reduceEqDiff, Nat.reduceLT, reduceCtorEq, Nat.reduceAdd, Nat.zero_add, decide_eq_true_eq, decide_eq_false_iff_not, Nat.reduceLeDiff, Nat.reduceBEq, Nat.reduceBNe, beq_self_eq_true, Int.reduceNeg, Int.reduceToNat, Nat.lt_add_one]
    refine call_same (s_rheads B (by omega)) (by simp [go_sem]) ?_
    simp only [go_sem, ↓reduceIte, Nat.reduceEqDiff, Nat.reduceLT, reduceCtorEq, Nat.reduceAdd, Nat.zero_add, decide_eq_true_eq, decide_eq_false_iff_not, Nat.reduceLeDiff, Nat.reduceBEq, Nat.reduceBNe, beq_self_eq_true, Int.reduceNeg, Int.reduceToNat, Nat.lt_add_one]
    refine same_orNil (by rw [headsA_len]; omega) ?_
    simp only [go_sem, ↓reduceIte, Nat.reduceEqDiff, Nat.reduceLT, reduceCtorEq, Nat.reduceAdd, Nat.zero_add, decide_eq_true_eq, decide_eq_false_iff_not, Nat.reduceLeDiff, Nat.reduceBEq, Nat.reduceBNe, beq_self_eq_true, Int.reduceNeg, Int.reduceToNat, Nat.lt_add_one]
    refine call_same s_alive (by simp [go_sem]) ?_
    simp only [go_sem, ↓reduceIte, Nat.reduceEqDiff, Nat.reduceLT, reduceCtorEq, Nat.reduceAdd, Nat.zero_add, decide_eq_true_eq, decide_eq_false_iff_not, Nat.reduceLeDiff, Nat.reduceBEq, Nat.reduceBNe, beq_self_eq_true, Int.reduceNeg, Int.reduceToNat, Nat.lt_add_one]
    refine pdone [] ?_ rfl
    simp [go_sem]
end Go.Proofs.Ytlmnepdibhdpaaa
