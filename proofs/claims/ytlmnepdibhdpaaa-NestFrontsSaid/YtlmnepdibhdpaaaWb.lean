/-
  Chapter 9, walks: elsed, Check, Same.
-/
import Derived.Test.YtlmnepdibhdpaaaWa
import Derived.Test.YtlmnepdibhdpaaaE
set_option linter.unusedSimpArgs false
namespace Go.Proofs.Ytlmnepdibhdpaaa
open Go Go.Mw

theorem els_succ (B : List Ins) (h : Int) (i : Nat) : els B h (i + 1) = (els B h i || (decide (h < i) && (nth B i).op == 5 && decide (0 < (rnd B i).length) && hd B i == h)) := by
  simp only [els, List.range_succ, List.any_append, List.any_cons, List.any_nil, Bool.or_false]
theorem els_mono {B : List Ins} {h : Int} {i m : Nat} (hi : i ≤ m) (he : els B h i = true) : els B h m = true := by
  simp only [els, List.any_eq_true, List.mem_range] at he ⊢
  obtain ⟨j, h1, h2⟩ := he
  exact ⟨j, by omega, h2⟩

theorem s_elsed (B : List Ins) (h' : Int) (m : Nat) (h1 : -1 ≤ h') (h2 : h' < m) (hm : m ≤ B.length) (hn : B.length < 1000000) : PCalls Try.prog 25 [.sl 9 (B.map Ins.row), .int .i64 h', .int .i64 m] (.bool (els B h' m)) := by
  refine pfun_sound (ic := F_ref09_elsed.body) mixed c_ref09_elsed rfl rfl ?_
  simp only [F_ref09_elsed, go_sem, ↓reduceIte, Nat.reduceEqDiff, Nat.reduceLT, reduceCtorEq, Nat.reduceAdd, Nat.zero_add, decide_eq_true_eq, decide_eq_false_iff_not, Nat.reduceLeDiff, Nat.reduceBEq, Nat.reduceBNe, beq_self_eq_true, Int.reduceNeg, Int.reduceToNat, Nat.lt_add_one, wi (n := h' + 1) (by omega) (by omega)]
  refine loop_rule (fun i : Nat => ⟨[(7, .int .i64 i), (0, .sl 9 (B.map Ins.row)), (1, .int .i64 h'), (2, .int .i64 m), (6, .bool false)], []⟩) (fun i => h' < i ∧ i ≤ m ∧ els B h' i = false) (fun i => m - i) (h' + 1).toNat ⟨by omega, by omega, ?_⟩ (Wk.of ?_ ?_) ?_
  · simp only [els, List.any_eq_false]
    intro j hj
    simp at hj ⊢
    omega
  · simp [go_sem]
    omega
  · simp [go_sem]
  rintro i ⟨hi, him, he⟩
  have hl := rnd_len B i
  simp only [go_sem, ↓reduceIte, Nat.reduceEqDiff, Nat.reduceLT, reduceCtorEq, Nat.reduceAdd, Nat.zero_add, decide_eq_true_eq, decide_eq_false_iff_not, Nat.reduceLeDiff, Nat.reduceBEq, Nat.reduceBNe, beq_self_eq_true, Int.reduceNeg, Int.reduceToNat, Nat.lt_add_one]
  refine ⟨fun h => call_same (s_round B i (by omega) hn) (by simp [go_sem]) ?_, fun h => pdone [] ?_ rfl⟩
  · have hw : (IntKind.i64.wrap (↑(rnd B i).length - 1)) = ((rnd B i).length : Int) - 1 := wi (by omega) (by omega)
    have hnt : ((rnd B i).length - 1 : Int).toNat = (rnd B i).length - 1 := by omega
    simp only [go_sem, ↓reduceIte, Nat.reduceEqDiff, Nat.reduceLT, reduceCtorEq, Nat.reduceAdd, Nat.zero_add, decide_eq_true_eq, decide_eq_false_iff_not, Nat.reduceLeDiff, Nat.reduceBEq, Nat.reduceBNe, beq_self_eq_true, Int.reduceNeg, Int.reduceToNat, Nat.lt_add_one, hw, hnt]
    have hstep := els_succ B h' i
    refine ⟨by omega, by omega, fun h5 => ⟨fun hp => ⟨by omega, by omega, fun hh => pdone [] ?_ rfl, fun hh => ?_⟩, fun hp => ?_⟩, fun h5 => ?_⟩
    · have : els B h' m = true := by
        refine els_mono (i := i + 1) (by omega) ?_
        rw [hstep, he, h5]
        simp only [hd]
        simp [hh, hi]
        omega
      simp [go_sem, this]
    all_goals refine klp_n (i + 1) ⟨by omega, by omega, ?_⟩ (by omega) (Wk.of (by simp [go_sem, wi (n := i + 1) (by omega) (by omega)]) (by simp [go_sem]))
    · rw [hstep, he]; simp only [hd]; simp [hh]
    · rw [hstep, he]; simp; omega
    · rw [hstep, he, h5]; simp
  · have : i = m := by omega
    subst this
    simp [go_sem, he]

theorem s_rcheck (B : List Ins) (hn : B.length < 1000000) : PCalls Try.prog 10 [.sl 9 (B.map Ins.row)] (.tup [.int .i64 (chk B).1, .int .i64 (chk B).2]) := by
  refine pfun_sound (ic := F_ref09_Check.body) mixed c_ref09_Check rfl rfl ?_
  simp only [F_ref09_Check, go_sem, ↓reduceIte, Nat.reduceEqDiff, Nat.reduceLT, reduceCtorEq, Nat.reduceAdd, Nat.zero_add, decide_eq_true_eq, decide_eq_false_iff_not, Nat.reduceLeDiff, Nat.reduceBEq, Nat.reduceBNe, beq_self_eq_true, Int.reduceNeg, Int.reduceToNat, Nat.lt_add_one]
  refine loop_rule (fun i : Nat => ⟨[(4, .int .i64 i), (0, .sl 9 (B.map Ins.row))], []⟩) (fun i => i ≤ B.length ∧ ∀ j, j < i → err B j = 0) (fun i => B.length - i) 0 ⟨Nat.zero_le _, fun j hj => absurd hj (Nat.not_lt_zero _)⟩ (Wk.of ?_ ?_) ?_
  · simp [go_sem]
  · simp [go_sem]
  rintro i ⟨hi, he⟩
  replace hi : i ≤ B.length := hi
  have hl := rnd_len B i
  have hne : ∀ j, j < i → 0 < (rnd B j).length := fun j hj => err_ne (he j hj)
  have hw : (IntKind.i64.wrap (↑(rnd B i).length - 1)) = ((rnd B i).length : Int) - 1 := wi (by omega) (by omega)
  have hnt : ((rnd B i).length - 1 : Int).toNat = (rnd B i).length - 1 := by omega
  have hhd : nth (rnd B i) ((rnd B i).length - 1) = hd B i := rfl
  simp only [go_sem, ↓reduceIte, Nat.reduceEqDiff, Nat.reduceLT, reduceCtorEq, Nat.reduceAdd, Nat.zero_add, decide_eq_true_eq, decide_eq_false_iff_not, Nat.reduceLeDiff, Nat.reduceBEq, Nat.reduceBNe, beq_self_eq_true, Int.reduceNeg, Int.reduceToNat, Nat.lt_add_one]
  refine ⟨fun h => call_same (s_round B i (by omega) hn) (by simp [go_sem]) ?_, fun h => call_same (s_round B B.length (by omega) hn) (by simp [go_sem]) ?_⟩
  · simp only [go_sem, ↓reduceIte, Nat.reduceEqDiff, Nat.reduceLT, reduceCtorEq, Nat.reduceAdd, Nat.zero_add, decide_eq_true_eq, decide_eq_false_iff_not, Nat.reduceLeDiff, Nat.reduceBEq, Nat.reduceBNe, beq_self_eq_true, Int.reduceNeg, Int.reduceToNat, Nat.lt_add_one, hw, hnt, hhd]
    have h' : i < B.length := by omega
    refine ⟨fun h0 => pdone [] ?_ rfl, fun h0 => ?_⟩
    · have h0' : (rnd B i).length = 0 := by simp at h0; simp [h0]
      have h16 : err B i = 16 := by simp only [err, h0', if_true]
      rw [chk_at h' he (by rw [h16]; decide), h16]
      simp [go_sem]
    · have h0' : 0 < (rnd B i).length := by simp at h0; cases hr : rnd B i with | nil => exact absurd hr h0 | cons => simp
      obtain ⟨hb1, hb2⟩ := hd_bounds hne h0'
      refine ⟨by omega, by omega, by omega, by omega, ?_⟩
      have h16 : badElse B i = true → err B i = 16 := fun hb => by simp only [err, hb, if_neg (Nat.ne_of_gt h0'), if_true]
      have h00 : badElse B i = false → (bg (nth B i).op && decide (32 ≤ (rnd B i).length)) = false → err B i = 0 := fun hb hc => by simp only [err, hb, hc, if_neg (Nat.ne_of_gt h0')]; rfl
      have h6 : badElse B i = false → (bg (nth B i).op && decide (32 ≤ (rnd B i).length)) = true → err B i = 6 := fun hb hc => by simp only [err, hb, hc, if_neg (Nat.ne_of_gt h0')]; rfl
      have hsucc : err B i = 0 → ∀ j, j < i + 1 → err B j = 0 := fun h0 j hj => by
        rcases Nat.lt_or_eq_of_le (Nat.le_of_lt_succ hj) with h1 | h1
        · exact he j h1
        · rw [h1]; exact h0
      have hp16 : badElse B i = true → chk B = ((i : Int), 16) := fun hb => by rw [chk_at h' he (by rw [h16 hb]; decide), h16 hb]
      refine ⟨fun h5 => ⟨fun hneg => pdone [] ?_ rfl, fun hneg => ⟨by omega, by omega, fun h4 => pdone [] ?_ rfl, fun h4 => call_same (s_elsed B (hd B i) i (by omega) (by omega) (by omega) hn) (by simp [go_sem]) ?_⟩⟩, fun h5 => ?_⟩
      · rw [hp16 (by simp [badElse, h5, hneg])]
        simp [go_sem]
      · rw [hp16 (by simp [badElse, h5, h4])]
        simp [go_sem]
      · simp only [go_sem, ↓reduceIte, Nat.reduceEqDiff, Nat.reduceLT, reduceCtorEq, Nat.reduceAdd, Nat.zero_add, decide_eq_true_eq, decide_eq_false_iff_not, Nat.reduceLeDiff, Nat.reduceBEq, Nat.reduceBNe, beq_self_eq_true, Int.reduceNeg, Int.reduceToNat, Nat.lt_add_one]
        refine ⟨fun hel => pdone [] ?_ rfl, fun hel => ⟨by omega, by omega, call_same (s_begins _) (by simp [go_sem]) ?_⟩⟩
        · rw [hp16 (by simp [badElse, h5, hel])]
          simp [go_sem]
        · have hbe : badElse B i = false := by simp [badElse, h4, hel]; intro _; omega
          simp only [go_sem, ↓reduceIte, Nat.reduceEqDiff, Nat.reduceLT, reduceCtorEq, Nat.reduceAdd, Nat.zero_add, decide_eq_true_eq, decide_eq_false_iff_not, Nat.reduceLeDiff, Nat.reduceBEq, Nat.reduceBNe, beq_self_eq_true, Int.reduceNeg, Int.reduceToNat, Nat.lt_add_one]
          refine ⟨fun hb => ⟨fun h32 => pdone [] ?_ rfl, fun h32 => klp_n (i + 1) ⟨by omega, hsucc (h00 hbe ?_)⟩ (by omega) (Wk.of ?_ ?_)⟩, fun hb => klp_n (i + 1) ⟨by omega, hsucc (h00 hbe ?_)⟩ (by omega) (Wk.of ?_ ?_)⟩
          · have := h6 hbe (by simp [hb]; omega)
            rw [chk_at h' he (by rw [this]; decide), this]
            simp [go_sem]
          · simp; omega
          · simp [go_sem, wi (n := i + 1) (by omega) (by omega)]
          · simp [go_sem]
          · simp [hb]
          · simp [go_sem, wi (n := i + 1) (by omega) (by omega)]
          · simp [go_sem]
      · refine ⟨by omega, by omega, call_same (s_begins _) (by simp [go_sem]) ?_⟩
        have hbe : badElse B i = false := by simp [badElse, h5]
        simp only [go_sem, ↓reduceIte, Nat.reduceEqDiff, Nat.reduceLT, reduceCtorEq, Nat.reduceAdd, Nat.zero_add, decide_eq_true_eq, decide_eq_false_iff_not, Nat.reduceLeDiff, Nat.reduceBEq, Nat.reduceBNe, beq_self_eq_true, Int.reduceNeg, Int.reduceToNat, Nat.lt_add_one]
        refine ⟨fun hb => ⟨fun h32 => pdone [] ?_ rfl, fun h32 => klp_n (i + 1) ⟨by omega, hsucc (h00 hbe ?_)⟩ (by omega) (Wk.of ?_ ?_)⟩, fun hb => klp_n (i + 1) ⟨by omega, hsucc (h00 hbe ?_)⟩ (by omega) (Wk.of ?_ ?_)⟩
        · have := h6 hbe (by simp [hb]; omega)
          rw [chk_at h' he (by rw [this]; decide), this]
          simp [go_sem]
        · simp; omega
        · simp [go_sem, wi (n := i + 1) (by omega) (by omega)]
        · simp [go_sem]
        · simp [hb]
        · simp [go_sem, wi (n := i + 1) (by omega) (by omega)]
        · simp [go_sem]
  · have : i = B.length := by omega
    subst this
    simp only [go_sem, ↓reduceIte, Nat.reduceEqDiff, Nat.reduceLT, reduceCtorEq, Nat.reduceAdd, Nat.zero_add, decide_eq_true_eq, decide_eq_false_iff_not, Nat.reduceLeDiff, Nat.reduceBEq, Nat.reduceBNe, beq_self_eq_true, Int.reduceNeg, Int.reduceToNat, Nat.lt_add_one]
    rw [chk_end he]
    refine ⟨fun h0 => pdone [] ?_ rfl, fun h0 => pdone [] ?_ rfl⟩
    · rw [if_pos (by omega)]
      simp [go_sem]
    · rw [if_neg (by omega)]
      simp [go_sem]

theorem s_same (A C : List Int) (hA : A.length < 1000000) : PCalls Try.prog 11 [.sl 1 (A.map ri), .sl 1 (C.map ri)] (.bool (A == C)) := by
  refine pfun_sound (ic := F_ref09_Same.body) mixed c_ref09_Same rfl rfl ?_
  simp only [F_ref09_Same, go_sem, ↓reduceIte, Nat.reduceEqDiff, Nat.reduceLT, reduceCtorEq, Nat.reduceAdd, Nat.zero_add, decide_eq_true_eq, decide_eq_false_iff_not, Nat.reduceLeDiff, Nat.reduceBEq, Nat.reduceBNe, beq_self_eq_true, Int.reduceNeg, Int.reduceToNat, Nat.lt_add_one]
  refine ⟨fun h => pdone [] ?_ rfl, fun h => ?_⟩
  · have : (A == C) = false := by
      rw [beq_eq_false_iff_ne]
      rintro rfl
      simp at h
    simp [go_sem, this]
  have hl : A.length = C.length := by simp at h; omega
  refine loop_rule (fun i : Nat => ⟨[(5, .int .i64 i), (0, .sl 1 (A.map ri)), (1, .sl 1 (C.map ri))], []⟩) (fun i => i ≤ A.length ∧ ∀ j, j < i → nth A j = nth C j) (fun i => A.length - i) 0 ⟨Nat.zero_le _, fun j hj => absurd hj (Nat.not_lt_zero _)⟩ (Wk.of ?_ ?_) ?_
  · simp [go_sem]
  · simp [go_sem]
  rintro i ⟨hi, he⟩
  simp only [go_sem, ↓reduceIte, Nat.reduceEqDiff, Nat.reduceLT, reduceCtorEq, Nat.reduceAdd, Nat.zero_add, decide_eq_true_eq, decide_eq_false_iff_not, Nat.reduceLeDiff, Nat.reduceBEq, Nat.reduceBNe, beq_self_eq_true, Int.reduceNeg, Int.reduceToNat, Nat.lt_add_one]
  refine ⟨fun h => ⟨by omega, by omega, by omega, by omega, fun hd => pdone [] ?_ rfl, fun hd => klp_n (i + 1) ⟨by omega, ?_⟩ (by omega) (Wk.of ?_ ?_)⟩, fun h => pdone [] ?_ rfl⟩
  · have : (A == C) = false := by
      rw [beq_eq_false_iff_ne]
      rintro rfl
      simp at hd
    simp [go_sem, this]
  · intro j hj
    rcases Nat.lt_or_eq_of_le (Nat.le_of_lt_succ hj) with h1 | h1
    · exact he j h1
    · rw [h1]; simpa using hd
  · simp [go_sem, wi (n := i + 1) (by omega) (by omega)]
  · simp [go_sem]
  · have : A = C := List.ext_getElem hl fun j h1 h2 => by rw [← nth_eq h1, ← nth_eq h2]; exact he j (by omega)
    simp [go_sem, this]
end Go.Proofs.Ytlmnepdibhdpaaa
