/-
  Chapter 9 in plain Lean: facts about the blocks around an instruction.
-/
import Derived.Test.YtlmnepdibhdpaaaD
namespace Go.Proofs.Ytlmnepdibhdpaaa
open Go Go.Mw

theorem nth_dropLast {l : List Int} {k : Nat} (h : k < l.length - 1) : nth l.dropLast k = nth l k := by
  rw [List.dropLast_eq_take, nth_take h]
/-- Every block around an instruction begins before it; a block's own surroundings are those below it. -/
theorem rnd_below (B : List Ins) : ∀ (i : Nat), (∀ j, j < i → 0 < (rnd B j).length) → ∀ k, k < (rnd B i).length → (k = 0 ∧ nth (rnd B i) k = -1) ∨ (0 < k ∧ ∃ j : Nat, nth (rnd B i) k = j ∧ j < i ∧ rnd B j = (rnd B i).take k ∧ bg (nth B j).op = true)
  | 0, _, k, hk => by
    simp only [rnd, List.length_singleton] at hk ⊢
    have : k = 0 := by omega
    subst this
    exact .inl ⟨rfl, rfl⟩
  | i + 1, hne, k, hk => by
    have ih := rnd_below B i (fun j hj => hne j (by omega)) k
    have h0 := hne i (by omega)
    simp only [rnd] at hk ⊢
    unfold stp at hk ⊢
    by_cases hb : bg (nth B i).op
    · rw [if_pos hb] at hk ⊢
      simp only [List.length_append, List.length_singleton] at hk
      by_cases h2 : k < (rnd B i).length
      · rw [nth_app_l h2, List.take_append_of_le_length (by omega)]
        rcases ih h2 with h | ⟨h3, j, h4, h5, h6, h7⟩
        · exact .inl h
        · exact .inr ⟨h3, j, h4, by omega, h6, h7⟩
      · have hk2 : k = (rnd B i).length := by omega
        subst hk2
        exact .inr ⟨h0, i, nth_app_len, by omega, by simp, hb⟩
    · rw [if_neg hb] at hk ⊢
      by_cases h11 : ((nth B i).op == 11) = true
      · rw [if_pos h11] at hk ⊢
        simp only [List.length_dropLast] at hk
        rw [nth_dropLast hk, List.dropLast_eq_take, List.take_take, Nat.min_eq_left (by omega)]
        rcases ih (by omega) with h | ⟨h3, j, h4, h5, h6, h7⟩
        · exact .inl h
        · exact .inr ⟨h3, j, h4, by omega, h6, h7⟩
      · rw [if_neg h11] at hk ⊢
        rcases ih hk with h | ⟨h3, j, h4, h5, h6, h7⟩
        · exact .inl h
        · exact .inr ⟨h3, j, h4, by omega, h6, h7⟩
theorem hd_cases {B : List Ins} {i : Nat} (hne : ∀ j, j < i → 0 < (rnd B j).length) (h0 : 0 < (rnd B i).length) :
    ((rnd B i).length = 1 ∧ hd B i = -1) ∨ (1 < (rnd B i).length ∧ ∃ j : Nat, hd B i = j ∧ j < i ∧ rnd B j = (rnd B i).take ((rnd B i).length - 1) ∧ bg (nth B j).op = true) := by
  rcases rnd_below B i hne ((rnd B i).length - 1) (by omega) with ⟨h1, h2⟩ | ⟨h1, h2⟩
  · exact .inl ⟨by omega, h2⟩
  · exact .inr ⟨by omega, h2⟩
theorem hd_bounds {B : List Ins} {i : Nat} (hne : ∀ j, j < i → 0 < (rnd B j).length) (h0 : 0 < (rnd B i).length) : -1 ≤ hd B i ∧ hd B i < i := by
  rcases hd_cases hne h0 with ⟨_, h⟩ | ⟨_, j, h, h2, _⟩ <;> omega
theorem err_ne {B : List Ins} {i : Nat} (h : err B i = 0) : 0 < (rnd B i).length := by
  unfold err at h
  split at h
  · cases h
  · omega
theorem err_neg {B : List Ins} {i : Nat} (h : err B i = 0) : badElse B i = false ∧ (bg (nth B i).op && decide (32 ≤ (rnd B i).length)) = false := by
  unfold err at h
  split at h
  · cases h
  split at h
  · cases h
  split at h
  · cases h
  · rename_i h1 h2 h3
    exact ⟨by simpa using h2, by simpa using h3⟩
theorem chkF_step {B : List Ins} {i k : Nat} (h : err B i = 0) : chkF B i (k + 1) = chkF B (i + 1) k := by simp [chkF, h]
theorem chkF_stop {B : List Ins} {i k : Nat} (h : err B i ≠ 0) : chkF B i (k + 1) = ((i : Int), err B i) := by simp [chkF, h]
/-- No error before 'i': the first is that from 'i' on. -/
theorem chk_from {B : List Ins} {i : Nat} (hi : i ≤ B.length) (h : ∀ j, j < i → err B j = 0) : chk B = chkF B i (B.length - i) := by
  induction i with
  | zero => rfl
  | succ i ih =>
    rw [ih (by omega) (fun j hj => h j (by omega)), show B.length - i = (B.length - (i + 1)) + 1 by omega, chkF_step (h i (by omega))]
theorem chk_at {B : List Ins} {i : Nat} (hi : i < B.length) (h : ∀ j, j < i → err B j = 0) (he : err B i ≠ 0) : chk B = ((i : Int), err B i) := by
  rw [chk_from (by omega) h, show B.length - i = (B.length - (i + 1)) + 1 by omega, chkF_stop he]
theorem chk_end {B : List Ins} (h : ∀ j, j < B.length → err B j = 0) : chk B = if 0 < (rnd B B.length).length then ((B.length : Int), 3) else (0, 0) := by
  rw [chk_from (Nat.le_refl _) h, Nat.sub_self]
  rfl
/-- Either an instruction is the first at fault, or none is. -/
theorem chk_split (B : List Ins) : (∃ i, i < B.length ∧ (∀ j, j < i → err B j = 0) ∧ err B i ≠ 0) ∨ ∀ j, j < B.length → err B j = 0 := by
  have : ∀ n, n ≤ B.length → (∃ i, i < n ∧ (∀ j, j < i → err B j = 0) ∧ err B i ≠ 0) ∨ ∀ j, j < n → err B j = 0 := fun n => by
    induction n with
    | zero => exact fun _ => .inr fun j hj => absurd hj (Nat.not_lt_zero _)
    | succ n ih =>
      intro hn
      rcases ih (by omega) with ⟨i, h1, h2⟩ | h
      · exact .inl ⟨i, by omega, h2⟩
      · by_cases he : err B n = 0
        · refine .inr fun j hj => ?_
          rcases Nat.lt_or_eq_of_le (Nat.le_of_lt_succ hj) with h1 | h1
          · exact h j h1
          · rw [h1]; exact he
        · exact .inl ⟨n, by omega, h, he⟩
  rcases this _ (Nat.le_refl _) with ⟨i, h1, h2⟩ | h
  · exact .inl ⟨i, h1, h2⟩
  · exact .inr h
theorem err_16 {B : List Ins} {i : Nat} (h : err B i ≠ 0) : 0 < err B i := by
  unfold err at h ⊢
  split
  · decide
  split
  · decide
  split
  · decide
  · rename_i h1 h2 h3; simp [h1, h2, h3] at h
/-- A body is sound when no instruction is at fault and all blocks have ended. -/
def good (B : List Ins) : Prop := (∀ j, j < B.length → err B j = 0) ∧ rnd B B.length = []
theorem good_iff (B : List Ins) : (chk B).2 = 0 ↔ good B := by
  rcases chk_split B with ⟨i, h1, h2, h3⟩ | h
  · rw [chk_at h1 h2 h3]
    exact ⟨fun hh => absurd hh h3, fun hg => absurd (hg.1 i h1) h3⟩
  · rw [chk_end h]
    by_cases hl : 0 < (rnd B B.length).length
    · rw [if_pos hl]
      refine ⟨fun hh => (by cases hh), fun hg => ?_⟩
      rw [hg.2] at hl
      cases hl
    · rw [if_neg hl]
      exact ⟨fun _ => ⟨h, List.eq_nil_of_length_eq_zero (by omega)⟩, fun _ => rfl⟩
end Go.Proofs.Ytlmnepdibhdpaaa
