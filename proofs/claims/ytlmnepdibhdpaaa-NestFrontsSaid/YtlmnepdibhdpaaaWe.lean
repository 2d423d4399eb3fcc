/-
  Chapter 9, walks: nest.Check, Ends, Elses, Depths, Heads; ops.
-/
import Derived.Test.YtlmnepdibhdpaaaWd
set_option linter.unusedSimpArgs false
set_option maxRecDepth 100000
set_option maxHeartbeats 4000000
namespace Go.Proofs.Ytlmnepdibhdpaaa
open Go Go.Mw

theorem orNil_ids (B : List Ins) (l : List Int) : idsV (orNil B l) = [] := by unfold orNil; split <;> rfl
theorem s_check (B : List Ins) (hn : B.length < 1000000) : PCalls Try.prog 9 [.sl 9 (B.map Ins.row)] (.tup [.int .i64 (chk B).1, .int .i64 (chk B).2]) := by
  refine pfun_sound (ic := F_nest_Check.body) mixed c_nest_Check rfl rfl ?_
  simp only [F_nest_Check, go_sem, ↓reduceIte, Nat.reduceEqDiff, Nat.reduceLT, reduceCtorEq, Nat.reduceAdd, Nat.zero_add, decide_eq_true_eq, decide_eq_false_iff_not, Nat.reduceLeDiff, Nat.reduceBEq, Nat.reduceBNe, beq_self_eq_true, Int.reduceNeg, Int.reduceToNat, Nat.lt_add_one]
  refine call_same (s_look B hn) (by simp [go_sem]) ?_
  by_cases h : (chk B).2 = 0
  all_goals
    simp only [lookR, orNil, h, go_sem, ↓reduceIte, Nat.reduceEqDiff, Nat.reduceLT, reduceCtorEq, Nat.reduceAdd, Nat.zero_add, decide_eq_true_eq, decide_eq_false_iff_not, Nat.reduceLeDiff, Nat.reduceBEq, Nat.reduceBNe, beq_self_eq_true, Int.reduceNeg, Int.reduceToNat, Nat.lt_add_one]
    refine pdone [] ?_ rfl
    simp [go_sem, h]
theorem s_ends (B : List Ins) (hn : B.length < 1000000) : PCalls Try.prog 12 [.sl 9 (B.map Ins.row)] (orNil B (endsA B B.length)) := by
  refine pfun_sound (ic := F_nest_Ends.body) mixed c_nest_Ends rfl rfl ?_
  simp only [F_nest_Ends, go_sem, ↓reduceIte, Nat.reduceEqDiff, Nat.reduceLT, reduceCtorEq, Nat.reduceAdd, Nat.zero_add, decide_eq_true_eq, decide_eq_false_iff_not, Nat.reduceLeDiff, Nat.reduceBEq, Nat.reduceBNe, beq_self_eq_true, Int.reduceNeg, Int.reduceToNat, Nat.lt_add_one]
  refine call_same (s_look B hn) (by simp [go_sem]) ?_
  by_cases h : (chk B).2 = 0
  all_goals
    simp only [lookR, orNil, h, go_sem, ↓reduceIte, Nat.reduceEqDiff, Nat.reduceLT, reduceCtorEq, Nat.reduceAdd, Nat.zero_add, decide_eq_true_eq, decide_eq_false_iff_not, Nat.reduceLeDiff, Nat.reduceBEq, Nat.reduceBNe, beq_self_eq_true, Int.reduceNeg, Int.reduceToNat, Nat.lt_add_one]
    refine pdone [] ?_ rfl
    simp [go_sem]
theorem s_elses (B : List Ins) (hn : B.length < 1000000) : PCalls Try.prog 14 [.sl 9 (B.map Ins.row)] (orNil B (elsesA B B.length)) := by
  refine pfun_sound (ic := F_nest_Elses.body) mixed c_nest_Elses rfl rfl ?_
  simp only [F_nest_Elses, go_sem, ↓reduceIte, Nat.reduceEqDiff, Nat.reduceLT, reduceCtorEq, Nat.reduceAdd, Nat.zero_add, decide_eq_true_eq, decide_eq_false_iff_not, Nat.reduceLeDiff, Nat.reduceBEq, Nat.reduceBNe, beq_self_eq_true, Int.reduceNeg, Int.reduceToNat, Nat.lt_add_one]
  refine call_same (s_look B hn) (by simp [go_sem]) ?_
  by_cases h : (chk B).2 = 0
  all_goals
    simp only [lookR, orNil, h, go_sem, ↓reduceIte, Nat.reduceEqDiff, Nat.reduceLT, reduceCtorEq, Nat.reduceAdd, Nat.zero_add, decide_eq_true_eq, decide_eq_false_iff_not, Nat.reduceLeDiff, Nat.reduceBEq, Nat.reduceBNe, beq_self_eq_true, Int.reduceNeg, Int.reduceToNat, Nat.lt_add_one]
    refine pdone [] ?_ rfl
    simp [go_sem]
theorem s_depths (B : List Ins) (hn : B.length < 1000000) : PCalls Try.prog 16 [.sl 9 (B.map Ins.row)] (orNil B (depthsA B B.length)) := by
  refine pfun_sound (ic := F_nest_Depths.body) mixed c_nest_Depths rfl rfl ?_
  simp only [F_nest_Depths, go_sem, ↓reduceIte, Nat.reduceEqDiff, Nat.reduceLT, reduceCtorEq, Nat.reduceAdd, Nat.zero_add, decide_eq_true_eq, decide_eq_false_iff_not, Nat.reduceLeDiff, Nat.reduceBEq, Nat.reduceBNe, beq_self_eq_true, Int.reduceNeg, Int.reduceToNat, Nat.lt_add_one]
  refine call_same (s_look B hn) (by simp [go_sem]) ?_
  by_cases h : (chk B).2 = 0
  all_goals
    simp only [lookR, orNil, h, go_sem, ↓reduceIte, Nat.reduceEqDiff, Nat.reduceLT, reduceCtorEq, Nat.reduceAdd, Nat.zero_add, decide_eq_true_eq, decide_eq_false_iff_not, Nat.reduceLeDiff, Nat.reduceBEq, Nat.reduceBNe, beq_self_eq_true, Int.reduceNeg, Int.reduceToNat, Nat.lt_add_one]
    refine pdone [] ?_ rfl
    simp [go_sem]
theorem s_heads (B : List Ins) (hn : B.length < 1000000) : PCalls Try.prog 18 [.sl 9 (B.map Ins.row)] (orNil B (headsA B B.length)) := by
  refine pfun_sound (ic := F_nest_Heads.body) mixed c_nest_Heads rfl rfl ?_
  simp only [F_nest_Heads, go_sem, ↓reduceIte, Nat.reduceEqDiff, Nat.reduceLT, reduceCtorEq, Nat.reduceAdd, Nat.zero_add, decide_eq_true_eq, decide_eq_false_iff_not, Nat.reduceLeDiff, Nat.reduceBEq, Nat.reduceBNe, beq_self_eq_true, Int.reduceNeg, Int.reduceToNat, Nat.lt_add_one]
  refine call_same (s_look B hn) (by simp [go_sem]) ?_
  by_cases h : (chk B).2 = 0
  all_goals
    simp only [lookR, orNil, h, go_sem, ↓reduceIte, Nat.reduceEqDiff, Nat.reduceLT, reduceCtorEq, Nat.reduceAdd, Nat.zero_add, decide_eq_true_eq, decide_eq_false_iff_not, Nat.reduceLeDiff, Nat.reduceBEq, Nat.reduceBNe, beq_self_eq_true, Int.reduceNeg, Int.reduceToNat, Nat.lt_add_one]
    refine pdone [] ?_ rfl
    simp [go_sem]

/-- An instruction of which only the opcode is given. -/
def Ins.bare (n : Int) : Ins := ⟨n, 0, 0, 0, 0, 0, 0, none, none⟩
theorem take_succ_nth {α : Type} [Inhabited α] {l : List α} {i : Nat} (h : i < l.length) : l.take (i + 1) = l.take i ++ [nth l i] := by
  rw [List.take_add_one, nth_some h]; rfl
theorem s_ops (L : List Int) (hn : L.length < 1000000) : PCalls Try.prog 22 [.sl 1 (L.map ri)] (.sl 9 ((L.map Ins.bare).map Ins.row)) := by
  refine pfun_sound (ic := F_law09_ops.body) mixed c_law09_ops rfl rfl ?_
  simp only [F_law09_ops, go_sem, ↓reduceIte, Nat.reduceEqDiff, Nat.reduceLT, reduceCtorEq, Nat.reduceAdd, Nat.zero_add, decide_eq_true_eq, decide_eq_false_iff_not, Nat.reduceLeDiff, Nat.reduceBEq, Nat.reduceBNe, beq_self_eq_true, Int.reduceNeg, Int.reduceToNat, Nat.lt_add_one]
  refine loop_rule (fun i : Nat => ⟨[(4, .int .i64 i), (3, .ms 900 9 0 i), (0, .sl 1 (L.map ri))], [(900, ⟨41, 9, ((L.take i).map Ins.bare).map Ins.row, false⟩)]⟩) (fun i => i ≤ L.length) (fun i => L.length - i) 0 (Nat.zero_le _) ((Wk.nil _ 3 900 9 41 ?_ (by omega)).trans (Wk.of ?_ ?_)) ?_
  · simp [go_sem]
  · simp [go_sem, St.mknil]
  · simp [go_sem, St.mknil]
  rintro i hi
  replace hi : i ≤ L.length := hi
  have hA : ((L.take i).map Ins.bare).length = i := by simp; omega
  simp only [go_sem, ↓reduceIte, Nat.reduceEqDiff, Nat.reduceLT, reduceCtorEq, Nat.reduceAdd, Nat.zero_add, decide_eq_true_eq, decide_eq_false_iff_not, Nat.reduceLeDiff, Nat.reduceBEq, Nat.reduceBNe, beq_self_eq_true, Int.reduceNeg, Int.reduceToNat, Nat.lt_add_one, appO_map _ _ _ _ _ _ _ hA]
  refine ⟨fun h => ?_, fun h => pdone [900] ?_ ?_⟩
  · refine ⟨by omega, by omega, by omega, klp_n (i + 1) (show i + 1 ≤ L.length by omega) (by omega) (Wk.of ?_ ?_)⟩
    · simp [go_sem, wi (n := i + 1) (by omega) (by omega)]
    · simp only [go_sem, ↓reduceIte, Nat.reduceEqDiff, Nat.reduceLT, reduceCtorEq, Nat.reduceAdd, Nat.zero_add, decide_eq_true_eq, decide_eq_false_iff_not, Nat.reduceLeDiff, Nat.reduceBEq, Nat.reduceBNe, beq_self_eq_true, Int.reduceNeg, Int.reduceToNat, Nat.lt_add_one, take_succ_nth (show i < L.length by omega), List.map_append, Ins.bare, Ins.row, sv]
  · have : i = L.length := by omega
    subst this
    simp [go_sem]
    exact List.take_of_length_le (by simp)
  · rfl
end Go.Proofs.Ytlmnepdibhdpaaa
