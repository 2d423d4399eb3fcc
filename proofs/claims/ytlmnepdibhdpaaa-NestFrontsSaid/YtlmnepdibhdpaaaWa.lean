/-
  Chapter 9, walks: begins, none, round, elsed.
-/
import Derived.Test.YtlmnepdibhdpaaaIc
import Derived.Test.YtlmnepdibhdpaaaD
set_option linter.unusedSimpArgs false
namespace Go.Proofs.Ytlmnepdibhdpaaa
open Go Go.Mw

theorem s_begins (op : Int) : PCalls Try.prog 26 [.int .i64 op] (.bool (bg op)) := by
  refine pfun_sound (ic := F_ref09_begins.body) mixed c_ref09_begins rfl rfl ?_
  simp only [F_ref09_begins, go_sem, ↓reduceIte, Nat.reduceEqDiff, Nat.reduceLT, reduceCtorEq, Nat.reduceAdd, Nat.zero_add, decide_eq_true_eq, decide_eq_false_iff_not, Nat.reduceLeDiff, Nat.reduceBEq, Nat.reduceBNe, beq_self_eq_true, Int.reduceNeg, Int.reduceToNat, Nat.lt_add_one]
  refine ⟨fun h => pdone [] ?_ rfl, fun h => ⟨fun h2 => pdone [] ?_ rfl, fun h2 => pdone [] ?_ rfl⟩⟩ <;>
    simp [go_sem, bg, *]

theorem set_mid (a b : Int) (i m : Nat) (h : 0 < m) : (List.replicate i a ++ List.replicate m b).set i a = List.replicate (i + 1) a ++ List.replicate (m - 1) b := by
  obtain ⟨m, rfl⟩ : ∃ k, m = k + 1 := ⟨m - 1, by omega⟩
  rw [List.set_append_right _ _ (by simp)]
  simp only [List.length_replicate, Nat.sub_self, List.replicate_succ, List.set_cons_zero, Nat.add_sub_cancel]
  rw [← List.replicate_succ, List.replicate_succ']
  simp

theorem s_none (n : Nat) (hn : n < 1073741824) : ACalls Try.prog 28 [.int .i64 n] [] (fun id => 1000 ≤ id ∧ id < 2000) (fun r σ' => r = .ms 6 1 0 n ∧ σ' = [(6, ⟨3, 1, (List.replicate n (-1)).map ri, false⟩)]) := by
  refine fun_sound (ic := F_nest_none.body) mixed c_nest_none rfl rfl ?_
  simp only [F_nest_none, go_sem, ↓reduceIte, Nat.reduceEqDiff, Nat.reduceLT, reduceCtorEq, Nat.reduceAdd, Nat.zero_add, decide_eq_true_eq, decide_eq_false_iff_not, Nat.reduceLeDiff, Nat.reduceBEq, Nat.reduceBNe, beq_self_eq_true, Int.reduceNeg, Int.reduceToNat, Nat.lt_add_one]
  refine ⟨by omega, ?_⟩
  refine loop_rule (fun i : Nat => ⟨[(9, .int .i64 i), (8, .int .i64 n), (3, .ms 6 1 0 n)], [(6, ⟨3, 1, (List.replicate i (-1) ++ List.replicate (n - i) 0).map ri, false⟩)]⟩) (fun i => i ≤ n) (fun i => n - i) 0 (Nat.zero_le _) (Wk.of ?_ ?_) ?_
  · simp [go_sem]
  · simp [go_sem]
  intro i hi
  simp only [go_sem, ↓reduceIte, Nat.reduceEqDiff, Nat.reduceLT, reduceCtorEq, Nat.reduceAdd, Nat.zero_add, decide_eq_true_eq, decide_eq_false_iff_not, Nat.reduceLeDiff, Nat.reduceBEq, Nat.reduceBNe, beq_self_eq_true, Int.reduceNeg, Int.reduceToNat, Nat.lt_add_one]
  refine ⟨fun h => ⟨by omega, by simp; omega, klp_n (i + 1) (by omega) (by omega) (Wk.of ?_ ?_)⟩, fun h => done [] (.ms 6 1 0 n) [(6, ⟨3, 1, (List.replicate n (-1)).map ri, false⟩)] ?_ ?_ rfl ⟨rfl, rfl⟩⟩
  · simp [go_sem, wi (n := i + 1) (by omega) (by omega)]
  · simp only [go_sem, ↓reduceIte, Nat.zero_add, set_mid (-1) 0 i (n - i) (by omega), show n - i - 1 = n - (i + 1) by omega]
  · simp [go_sem]
  · have : i = n := by omega
    subst this
    simp [go_sem]

theorem s_rnone (B : List Ins) (hn : B.length < 1000000) : ACalls Try.prog 27 [.sl 9 (B.map Ins.row)] [] (fun id => 1000 ≤ id ∧ id < 2000) (fun r σ' => r = .ms 900 1 0 B.length ∧ σ' = [(900, ⟨3, 1, (List.replicate B.length (-1)).map ri, false⟩)]) := by
  refine fun_sound (ic := F_ref09_none.body) mixed c_ref09_none rfl rfl ?_
  simp only [F_ref09_none, go_sem, ↓reduceIte, Nat.reduceEqDiff, Nat.reduceLT, reduceCtorEq, Nat.reduceAdd, Nat.zero_add, decide_eq_true_eq, decide_eq_false_iff_not, Nat.reduceLeDiff, Nat.reduceBEq, Nat.reduceBNe, beq_self_eq_true, Int.reduceNeg, Int.reduceToNat, Nat.lt_add_one]
  refine loop_rule (fun i : Nat => ⟨[(4, .int .i64 i), (3, .ms 900 1 0 i), (0, .sl 9 (B.map Ins.row))], [(900, ⟨3, 1, (List.replicate i (-1)).map ri, false⟩)]⟩) (fun i => i ≤ B.length) (fun i => B.length - i) 0 (Nat.zero_le _) ((Wk.nil _ 3 900 1 3 ?_ (by omega)).trans (Wk.of ?_ ?_)) ?_
  · simp [go_sem]
  · simp [go_sem, St.mknil]
  · simp [go_sem, St.mknil]
  intro i hi
  simp only [go_sem, ↓reduceIte, Nat.reduceEqDiff, Nat.reduceLT, reduceCtorEq, Nat.reduceAdd, Nat.zero_add, decide_eq_true_eq, decide_eq_false_iff_not, Nat.reduceLeDiff, Nat.reduceBEq, Nat.reduceBNe, beq_self_eq_true, Int.reduceNeg, Int.reduceToNat, Nat.lt_add_one, appO_map _ _ _ _ _ _ _ (List.length_replicate)]
  refine ⟨fun h => ⟨by omega, klp_n (i + 1) (show i + 1 ≤ B.length by omega) (by omega) (Wk.of ?_ ?_)⟩, fun h => done [] (.ms 900 1 0 B.length) [(900, ⟨3, 1, (List.replicate B.length (-1)).map ri, false⟩)] ?_ ?_ rfl ⟨rfl, rfl⟩⟩
  · simp [go_sem, wi (n := i + 1) (by omega) (by omega)]
  · simp [go_sem, List.replicate_succ']
  · have : i = B.length := by omega
    subst this
    simp [go_sem]
  · have : i = B.length := by omega
    subst this
    simp [go_sem]

theorem s_round (B : List Ins) (m : Nat) (hm : m ≤ B.length) (hn : B.length < 1000000) : PCalls Try.prog 24 [.sl 9 (B.map Ins.row), .int .i64 m] (.sl 1 ((rnd B m).map ri)) := by
  refine pfun_sound (ic := F_ref09_round.body) mixed c_ref09_round rfl rfl ?_
  simp only [F_ref09_round, go_sem, ↓reduceIte, Nat.reduceEqDiff, Nat.reduceLT, reduceCtorEq, Nat.reduceAdd, Nat.zero_add, decide_eq_true_eq, decide_eq_false_iff_not, Nat.reduceLeDiff, Nat.reduceBEq, Nat.reduceBNe, beq_self_eq_true, Int.reduceNeg, Int.reduceToNat, Nat.lt_add_one]
  refine loop_rule (fun q : Nat × List Int => ⟨[(6, .int .i64 q.1), (5, .ms 7 1 0 (rnd B q.1).length), (0, .sl 9 (B.map Ins.row)), (1, .int .i64 m)], [(7, ⟨3, 1, (rnd B q.1 ++ q.2).map ri, false⟩)]⟩) (fun q => q.1 ≤ m) (fun q => m - q.1) (0, []) (Nat.zero_le _) (Wk.of ?_ ?_) ?_
  · simp [go_sem, rnd]
  · simp [go_sem, rnd]
  rintro ⟨i, J⟩ hi
  have hl := rnd_len B i
  simp only [go_sem, ↓reduceIte, Nat.reduceEqDiff, Nat.reduceLT, reduceCtorEq, Nat.reduceAdd, Nat.zero_add, decide_eq_true_eq, decide_eq_false_iff_not, Nat.reduceLeDiff, Nat.reduceBEq, Nat.reduceBNe, beq_self_eq_true, Int.reduceNeg, Int.reduceToNat, Nat.lt_add_one] at hi ⊢
  refine ⟨fun h => ⟨by omega, by omega, call_same (s_begins _) (by simp [go_sem]) ?_⟩, fun h => pdone [7] ?_ rfl⟩
  · simp only [go_sem, ↓reduceIte, Nat.reduceEqDiff, Nat.reduceLT, reduceCtorEq, Nat.reduceAdd, Nat.zero_add, decide_eq_true_eq, decide_eq_false_iff_not, Nat.reduceLeDiff, Nat.reduceBEq, Nat.reduceBNe, beq_self_eq_true, Int.reduceNeg, Int.reduceToNat, Nat.lt_add_one, appO_take 7 3 1 (rnd B i).length ri (rnd B i ++ J) _ (by simp)]
    refine ⟨fun hb => ⟨by omega, by omega, by omega, fun h11 => ?_, fun h11 => klp_n (i + 1, []) (show i + 1 ≤ m by omega) (show m - (i + 1) < m - i by omega) (Wk.of ?_ ?_)⟩, fun hb => ⟨by omega, by omega, fun h11 => ⟨fun hp => ⟨?_, klp_n (i + 1, (rnd B i).drop ((rnd B i).length - 1) ++ J) (show i + 1 ≤ m by omega) (show m - (i + 1) < m - i by omega) (Wk.of ?_ ?_)⟩, fun hp => klp_n (i + 1, J) (show i + 1 ≤ m by omega) (show m - (i + 1) < m - i by omega) (Wk.of ?_ ?_)⟩, fun h11 => klp_n (i + 1, J) (show i + 1 ≤ m by omega) (show m - (i + 1) < m - i by omega) (Wk.of ?_ ?_)⟩⟩
    · simp [bg] at hb h11
      omega
    · simp [go_sem, wi (n := i + 1) (by omega) (by omega), rnd, stp, hb]
    · simp [go_sem, rnd, stp, hb]
    · rw [wi (by omega) (by omega)]; omega
    · simp [go_sem, wi (n := i + 1) (by omega) (by omega), wi (n := (rnd B i).length - 1) (by omega) (by omega), rnd, stp, hb, h11]
    · simp [go_sem, rnd, stp, hb, h11, List.dropLast_eq_take]
      rw [← List.append_assoc, ← List.map_append, List.take_append_drop, List.map_append]
    · have h0 : rnd B i = [] := List.eq_nil_of_length_eq_zero (by omega)
      simp [go_sem, wi (n := i + 1) (by omega) (by omega), rnd, stp, hb, h11, h0]
    · have h0 : rnd B i = [] := List.eq_nil_of_length_eq_zero (by omega)
      simp [go_sem, rnd, stp, hb, h11, h0]
    · simp [go_sem, wi (n := i + 1) (by omega) (by omega), rnd, stp, hb, h11]
    · simp [go_sem, rnd, stp, hb, h11]
  · have : i = m := by omega
    subst this
    simp [go_sem]
end Go.Proofs.Ytlmnepdibhdpaaa
