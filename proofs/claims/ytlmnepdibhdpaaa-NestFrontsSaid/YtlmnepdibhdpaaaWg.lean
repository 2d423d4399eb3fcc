/-
  Chapter 9, walks: the worked example.
-/
import Derived.Test.YtlmnepdibhdpaaaWf
set_option linter.unusedSimpArgs false
set_option maxRecDepth 100000
set_option maxHeartbeats 4000000
namespace Go.Proofs.Ytlmnepdibhdpaaa
open Go Go.Mw

def ex1 : List Ins := [2, 4, 5, 11, 11, 11].map Ins.bare
def ex2 : List Ins := [5, 11].map Ins.bare
def ex3 : List Ins := [2, 11].map Ins.bare
theorem ex1_len : ex1.length = 6 := rfl
theorem ex1_chk : chk ex1 = (0, 0) := by decide
theorem ex2_chk : chk ex2 = (0, 16) := by decide
theorem ex3_chk : chk ex3 = (2, 3) := by decide
theorem ex1_ends : endsA ex1 6 = [4, 3, -1, -1, -1, -1] := by decide
theorem ex1_elses : elsesA ex1 6 = [-1, 2, -1, -1, -1, -1] := by decide
theorem ex1_depths : depthsA ex1 6 = [1, 2, 3, 3, 2, 1] := by decide
theorem ex1_heads : headsA ex1 6 = [-1, 0, 1, 1, 0, -1] := by decide
theorem ex1_t1 : tgt ex1 2 1 = (4, true) := by decide
theorem ex1_t2 : tgt ex1 2 3 = (0, false) := by decide

theorem e_ops1 : PCalls Try.prog 22 [.sl 1 ([2, 4, 5, 11, 11, 11].map ri)] (.sl 9 (ex1.map Ins.row)) := s_ops [2, 4, 5, 11, 11, 11] (by decide)
theorem e_ops2 : PCalls Try.prog 22 [.sl 1 ([5, 11].map ri)] (.sl 9 (ex2.map Ins.row)) := s_ops [5, 11] (by decide)
theorem e_ops3 : PCalls Try.prog 22 [.sl 1 ([2, 11].map ri)] (.sl 9 (ex3.map Ins.row)) := s_ops [2, 11] (by decide)
theorem e_chk1 : PCalls Try.prog 9 [.sl 9 (ex1.map Ins.row)] (.tup [.int .i64 0, .int .i64 0]) := by have := s_check ex1 (by decide); rw [ex1_chk] at this; exact this
theorem e_chk2 : PCalls Try.prog 9 [.sl 9 (ex2.map Ins.row)] (.tup [.int .i64 0, .int .i64 16]) := by have := s_check ex2 (by decide); rw [ex2_chk] at this; exact this
theorem e_chk3 : PCalls Try.prog 9 [.sl 9 (ex3.map Ins.row)] (.tup [.int .i64 2, .int .i64 3]) := by have := s_check ex3 (by decide); rw [ex3_chk] at this; exact this
theorem e_ends : PCalls Try.prog 12 [.sl 9 (ex1.map Ins.row)] (.sl 1 ([4, 3, -1, -1, -1, -1].map ri)) := by have := s_ends ex1 (by decide); rw [orNil, ex1_chk, ex1_len, ex1_ends] at this; exact this
theorem e_elses : PCalls Try.prog 14 [.sl 9 (ex1.map Ins.row)] (.sl 1 ([-1, 2, -1, -1, -1, -1].map ri)) := by have := s_elses ex1 (by decide); rw [orNil, ex1_chk, ex1_len, ex1_elses] at this; exact this
theorem e_depths : PCalls Try.prog 16 [.sl 9 (ex1.map Ins.row)] (.sl 1 ([1, 2, 3, 3, 2, 1].map ri)) := by have := s_depths ex1 (by decide); rw [orNil, ex1_chk, ex1_len, ex1_depths] at this; exact this
theorem e_heads : PCalls Try.prog 18 [.sl 9 (ex1.map Ins.row)] (.sl 1 ([-1, 0, 1, 1, 0, -1].map ri)) := by have := s_heads ex1 (by decide); rw [orNil, ex1_chk, ex1_len, ex1_heads] at this; exact this
theorem e_t1 : PCalls Try.prog 20 [.sl 9 (ex1.map Ins.row), .int .i64 2, .int .i64 1] (.tup [.int .i64 4, .bool true]) := by have := s_target ex1 2 1 (by decide); rw [ex1_t1] at this; exact this
theorem e_t2 : PCalls Try.prog 20 [.sl 9 (ex1.map Ins.row), .int .i64 2, .int .i64 3] (.tup [.int .i64 0, .bool false]) := by have := s_target ex1 2 3 (by decide); rw [ex1_t2] at this; exact this
theorem e_same (A : List Int) (h : A.length < 1000000) : PCalls Try.prog 11 [.sl 1 (A.map ri), .sl 1 (A.map ri)] (.bool true) := by have := s_same A A h; rw [beq_self_eq_true] at this; exact this

theorem s_alive : PCalls Try.prog 8 [] (.bool true) := by
  refine pfun_sound (ic := F_law09_alive.body) mixed c_law09_alive rfl rfl ?_
  simp only [F_law09_alive, go_sem, ↓reduceIte, Nat.reduceEqDiff, Nat.reduceLT, reduceCtorEq, Nat.reduceAdd, Nat.zero_add, decide_eq_true_eq, decide_eq_false_iff_not, Nat.reduceLeDiff, Nat.reduceBEq, Nat.reduceBNe, beq_self_eq_true, Int.reduceNeg, Int.reduceToNat, Nat.lt_add_one]
  refine call_frz [12] rfl e_ops1 (by simp [go_sem]) ?_
  simp only [go_sem, ↓reduceIte, Nat.reduceEqDiff, Nat.reduceLT, reduceCtorEq, Nat.reduceAdd, Nat.zero_add, decide_eq_true_eq, decide_eq_false_iff_not, Nat.reduceLeDiff, Nat.reduceBEq, Nat.reduceBNe, beq_self_eq_true, Int.reduceNeg, Int.reduceToNat, Nat.lt_add_one]
  refine call_same e_chk1 (by simp [go_sem]) ?_
  simp only [go_sem, ↓reduceIte, Nat.reduceEqDiff, Nat.reduceLT, reduceCtorEq, Nat.reduceAdd, Nat.zero_add, decide_eq_true_eq, decide_eq_false_iff_not, Nat.reduceLeDiff, Nat.reduceBEq, Nat.reduceBNe, beq_self_eq_true, Int.reduceNeg, Int.reduceToNat, Nat.lt_add_one]
  refine call_same e_t1 (by simp [go_sem]) ?_
  simp only [go_sem, ↓reduceIte, Nat.reduceEqDiff, Nat.reduceLT, reduceCtorEq, Nat.reduceAdd, Nat.zero_add, decide_eq_true_eq, decide_eq_false_iff_not, Nat.reduceLeDiff, Nat.reduceBEq, Nat.reduceBNe, beq_self_eq_true, Int.reduceNeg, Int.reduceToNat, Nat.lt_add_one]
  refine call_same e_t2 (by simp [go_sem]) ?_
  simp only [go_sem, ↓reduceIte, Nat.reduceEqDiff, Nat.reduceLT, reduceCtorEq, Nat.reduceAdd, Nat.zero_add, decide_eq_true_eq, decide_eq_false_iff_not, Nat.reduceLeDiff, Nat.reduceBEq, Nat.reduceBNe, beq_self_eq_true, Int.reduceNeg, Int.reduceToNat, Nat.lt_add_one]
  refine call_frz [30] rfl e_ops2 (by simp [go_sem]) ?_
  simp only [go_sem, ↓reduceIte, Nat.reduceEqDiff, Nat.reduceLT, reduceCtorEq, Nat.reduceAdd, Nat.zero_add, decide_eq_true_eq, decide_eq_false_iff_not, Nat.reduceLeDiff, Nat.reduceBEq, Nat.reduceBNe, beq_self_eq_true, Int.reduceNeg, Int.reduceToNat, Nat.lt_add_one]
  refine call_same e_chk2 (by simp [go_sem]) ?_
  simp only [go_sem, ↓reduceIte, Nat.reduceEqDiff, Nat.reduceLT, reduceCtorEq, Nat.reduceAdd, Nat.zero_add, decide_eq_true_eq, decide_eq_false_iff_not, Nat.reduceLeDiff, Nat.reduceBEq, Nat.reduceBNe, beq_self_eq_true, Int.reduceNeg, Int.reduceToNat, Nat.lt_add_one]
  refine call_frz [36] rfl e_ops3 (by simp [go_sem]) ?_
  simp only [go_sem, ↓reduceIte, Nat.reduceEqDiff, Nat.reduceLT, reduceCtorEq, Nat.reduceAdd, Nat.zero_add, decide_eq_true_eq, decide_eq_false_iff_not, Nat.reduceLeDiff, Nat.reduceBEq, Nat.reduceBNe, beq_self_eq_true, Int.reduceNeg, Int.reduceToNat, Nat.lt_add_one]
  refine call_same e_chk3 (by simp [go_sem]) ?_
  simp only [go_sem, ↓reduceIte, Nat.reduceEqDiff, Nat.reduceLT, reduceCtorEq, Nat.reduceAdd, Nat.zero_add, decide_eq_true_eq, decide_eq_false_iff_not, Nat.reduceLeDiff, Nat.reduceBEq, Nat.reduceBNe, beq_self_eq_true, Int.reduceNeg, Int.reduceToNat, Nat.lt_add_one]
  refine call_same e_ends (by simp [go_sem]) ?_
  simp only [go_sem, ↓reduceIte, Nat.reduceEqDiff, Nat.reduceLT, reduceCtorEq, Nat.reduceAdd, Nat.zero_add, decide_eq_true_eq, decide_eq_false_iff_not, Nat.reduceLeDiff, Nat.reduceBEq, Nat.reduceBNe, beq_self_eq_true, Int.reduceNeg, Int.reduceToNat, Nat.lt_add_one]
  refine call_frz [46] rfl (e_same [4, 3, -1, -1, -1, -1] (by decide)) (by simp [go_sem]) ?_
  simp only [go_sem, ↓reduceIte, Nat.reduceEqDiff, Nat.reduceLT, reduceCtorEq, Nat.reduceAdd, Nat.zero_add, decide_eq_true_eq, decide_eq_false_iff_not, Nat.reduceLeDiff, Nat.reduceBEq, Nat.reduceBNe, beq_self_eq_true, Int.reduceNeg, Int.reduceToNat, Nat.lt_add_one]
  refine call_same e_elses (by simp [go_sem]) ?_
  simp only [go_sem, ↓reduceIte, Nat.reduceEqDiff, Nat.reduceLT, reduceCtorEq, Nat.reduceAdd, Nat.zero_add, decide_eq_true_eq, decide_eq_false_iff_not, Nat.reduceLeDiff, Nat.reduceBEq, Nat.reduceBNe, beq_self_eq_true, Int.reduceNeg, Int.reduceToNat, Nat.lt_add_one]
  refine call_frz [52] rfl (e_same [-1, 2, -1, -1, -1, -1] (by decide)) (by simp [go_sem]) ?_
  simp only [go_sem, ↓reduceIte, Nat.reduceEqDiff, Nat.reduceLT, reduceCtorEq, Nat.reduceAdd, Nat.zero_add, decide_eq_true_eq, decide_eq_false_iff_not, Nat.reduceLeDiff, Nat.reduceBEq, Nat.reduceBNe, beq_self_eq_true, Int.reduceNeg, Int.reduceToNat, Nat.lt_add_one]
  refine call_same e_depths (by simp [go_sem]) ?_
  simp only [go_sem, ↓reduceIte, Nat.reduceEqDiff, Nat.reduceLT, reduceCtorEq, Nat.reduceAdd, Nat.zero_add, decide_eq_true_eq, decide_eq_false_iff_not, Nat.reduceLeDiff, Nat.reduceBEq, Nat.reduceBNe, beq_self_eq_true, Int.reduceNeg, Int.reduceToNat, Nat.lt_add_one]
  refine call_frz [58] rfl (e_same [1, 2, 3, 3, 2, 1] (by decide)) (by simp [go_sem]) ?_
  simp only [go_sem, ↓reduceIte, Nat.reduceEqDiff, Nat.reduceLT, reduceCtorEq, Nat.reduceAdd, Nat.zero_add, decide_eq_true_eq, decide_eq_false_iff_not, Nat.reduceLeDiff, Nat.reduceBEq, Nat.reduceBNe, beq_self_eq_true, Int.reduceNeg, Int.reduceToNat, Nat.lt_add_one]
  refine call_same e_heads (by simp [go_sem]) ?_
  simp only [go_sem, ↓reduceIte, Nat.reduceEqDiff, Nat.reduceLT, reduceCtorEq, Nat.reduceAdd, Nat.zero_add, decide_eq_true_eq, decide_eq_false_iff_not, Nat.reduceLeDiff, Nat.reduceBEq, Nat.reduceBNe, beq_self_eq_true, Int.reduceNeg, Int.reduceToNat, Nat.lt_add_one]
  refine call_frz [64] rfl (e_same [-1, 0, 1, 1, 0, -1] (by decide)) (by simp [go_sem]) ?_
  simp only [go_sem, ↓reduceIte, Nat.reduceEqDiff, Nat.reduceLT, reduceCtorEq, Nat.reduceAdd, Nat.zero_add, decide_eq_true_eq, decide_eq_false_iff_not, Nat.reduceLeDiff, Nat.reduceBEq, Nat.reduceBNe, beq_self_eq_true, Int.reduceNeg, Int.reduceToNat, Nat.lt_add_one, Int.reduceBEq]
  refine pdone [] ?_ rfl
  simp [go_sem]
end Go.Proofs.Ytlmnepdibhdpaaa
