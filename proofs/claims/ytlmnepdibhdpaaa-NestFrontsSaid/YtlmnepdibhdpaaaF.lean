/-
  Chapter 9 in plain Lean: the blocks of a sound body are properly nested; its fronts lack their end; nothing may follow it.
-/
import Derived.Test.YtlmnepdibhdpaaaE
namespace Go.Proofs.Ytlmnepdibhdpaaa
open Go Go.Mw

theorem endsA_cases (B : List Ins) (k : Nat) : ∀ m, m ≤ B.length → k < B.length → nth (endsA B m) k = -1 ∨ ∃ e : Nat, nth (endsA B m) k = e ∧ e < m ∧ (nth B e).op = 11 ∧ hd B e = k
  | 0, _, hk => .inl (by rw [endsA, nth_eq (by simpa using hk)]; simp)
  | m + 1, hm, hk => by
    have ih := endsA_cases B k m (by omega) hk
    simp only [endsA]
    by_cases hc : ((nth B m).op == 11 && decide (0 ≤ hd B m)) = true
    · rw [if_pos hc]
      simp only [Bool.and_eq_true, beq_iff_eq, decide_eq_true_eq] at hc
      by_cases hkm : (hd B m).toNat = k
      · subst hkm
        exact .inr ⟨m, nth_set_self (by rw [endsA_len]; exact hk), by omega, hc.1, by clear ih; omega⟩
      · rw [nth_set_ne hkm]
        rcases ih with h | ⟨e, h1, h2, h3⟩
        · exact .inl h
        · exact .inr ⟨e, h1, by omega, h3⟩
    · rw [if_neg hc]
      rcases ih with h | ⟨e, h1, h2, h3⟩
      · exact .inl h
      · exact .inr ⟨e, h1, by omega, h3⟩
theorem elsesA_cases (B : List Ins) (he : ∀ j, j < B.length → err B j = 0) (k : Nat) : ∀ m, m ≤ B.length → k < B.length → nth (elsesA B m) k = -1 ∨ ∃ e : Nat, nth (elsesA B m) k = e ∧ e < m ∧ (nth B e).op = 5 ∧ hd B e = k
  | 0, _, hk => .inl (by rw [elsesA, nth_eq (by simpa using hk)]; simp)
  | m + 1, hm, hk => by
    have ih := elsesA_cases B he k m (by omega) hk
    simp only [elsesA]
    by_cases hc : ((nth B m).op == 5) = true
    · rw [if_pos hc]
      have hb := (err_neg (he m (by omega))).1
      unfold badElse at hb
      rw [hc] at hb
      simp only [beq_iff_eq] at hc
      simp only [Bool.true_and, Bool.or_eq_false_iff, decide_eq_false_iff_not] at hb
      by_cases hkm : (hd B m).toNat = k
      · subst hkm
        exact .inr ⟨m, nth_set_self (by rw [elsesA_len]; exact hk), by omega, hc, by clear ih; omega⟩
      · rw [nth_set_ne hkm]
        rcases ih with h | ⟨e, h1, h2, h3⟩
        · exact .inl h
        · exact .inr ⟨e, h1, by omega, h3⟩
    · rw [if_neg hc]
      rcases ih with h | ⟨e, h1, h2, h3⟩
      · exact .inl h
      · exact .inr ⟨e, h1, by omega, h3⟩
theorem endsA_ge (B : List Ins) {e k : Nat} (h11 : (nth B e).op = 11) (hh : hd B e = k) (hk : k < B.length) : ∀ m, e < m → (e : Int) ≤ nth (endsA B m) k
  | 0, h => absurd h (Nat.not_lt_zero _)
  | m + 1, h => by
    simp only [endsA]
    rcases Nat.lt_or_eq_of_le (Nat.le_of_lt_succ h) with h1 | h1
    · have ih := endsA_ge B h11 hh hk m h1
      split
      · by_cases hkm : (hd B m).toNat = k
        · subst hkm
          rw [nth_set_self (by rw [endsA_len]; exact hk)]
          omega
        · rw [nth_set_ne hkm]; exact ih
      · exact ih
    · subst h1
      have hc : ((nth B e).op == 11 && decide (0 ≤ hd B e)) = true := by simp [h11, hh]
      rw [if_pos hc, hh, Int.toNat_natCast, nth_set_self (by rw [endsA_len]; exact hk)]
      omega
/-- A block around an instruction ends at it or behind it. -/
theorem ends_after (B : List Ins) (hg : good B) (p : Nat) (x : Int) (hp : 0 < p) : ∀ d i, i + d = B.length → p < (rnd B i).length → nth (rnd B i) p = x → ∃ e, i ≤ e ∧ e < B.length ∧ (nth B e).op = 11 ∧ hd B e = x
  | 0, i, hi, hl, _ => by
    rw [show i = B.length by omega, hg.2] at hl
    cases hl
  | d + 1, i, hi, hl, hx => by
    have next : p < (rnd B (i + 1)).length → nth (rnd B (i + 1)) p = x → ∃ e, i ≤ e ∧ e < B.length ∧ (nth B e).op = 11 ∧ hd B e = x := fun h1 h2 => by
      obtain ⟨e, g1, g2⟩ := ends_after B hg p x hp d (i + 1) (by omega) h1 h2
      exact ⟨e, by omega, g2⟩
    by_cases hb : bg (nth B i).op = true
    · exact next (by simp only [rnd, stp, hb, if_true, List.length_append]; omega) (by simp only [rnd, stp, hb, if_true]; rw [nth_app_l hl]; exact hx)
    · have hb' : bg (nth B i).op = false := by simpa using hb
      by_cases h11 : ((nth B i).op == 11) = true
      · by_cases hl2 : p < (rnd B i).length - 1
        · exact next (by simp only [rnd, stp, hb', h11, if_true, Bool.false_eq_true, if_false, List.length_dropLast]; exact hl2) (by simp only [rnd, stp, hb', h11, if_true, Bool.false_eq_true, if_false]; rw [nth_dropLast hl2]; exact hx)
        · refine ⟨i, by omega, by omega, by simpa using h11, ?_⟩
          rw [hd, show (rnd B i).length - 1 = p by omega]
          exact hx
      · have h11' : ((nth B i).op == 11) = false := by simpa using h11
        exact next (by simp only [rnd, stp, hb', h11', Bool.false_eq_true, if_false]; exact hl) (by simp only [rnd, stp, hb', h11', Bool.false_eq_true, if_false]; exact hx)

theorem good_ne {B : List Ins} (hg : good B) : ∀ j, j < B.length → 0 < (rnd B j).length := fun j hj => err_ne (hg.1 j hj)

/-- What NestWithin asks of an instruction's head. -/
theorem within_head {B : List Ins} (hg : good B) {i : Nat} (hi : i < B.length) :
    (hd B i = -1 ∧ (rnd B i).length = 1) ∨ (∃ j : Nat, hd B i = j ∧ j < i ∧ (i : Int) ≤ nth (endsA B B.length) j ∧ (rnd B i).length = (rnd B j).length + 1) := by
  have hne : ∀ j, j < i → 0 < (rnd B j).length := fun j hj => good_ne hg j (by omega)
  rcases hd_cases hne (good_ne hg i hi) with ⟨h1, h2⟩ | ⟨h1, j, h2, h3, h4, _⟩
  · exact .inl ⟨h2, h1⟩
  · refine .inr ⟨j, h2, h3, ?_, by rw [h4, List.length_take]; omega⟩
    obtain ⟨e, g1, g2, g3, g4⟩ := ends_after B hg ((rnd B i).length - 1) j (by omega) (B.length - i) i (by omega) (by omega) (by rw [← h2]; rfl)
    have := endsA_ge B g3 g4 (by omega) B.length g2
    omega
theorem within_end {B : List Ins} (hg : good B) {i : Nat} (hi : i < B.length) :
    nth (endsA B B.length) i = -1 ∨ ∃ e : Nat, nth (endsA B B.length) i = e ∧ i < e ∧ e < B.length ∧ (nth B e).op = 11 ∧ hd B e = i := by
  rcases endsA_cases B i B.length (Nat.le_refl _) hi with h | ⟨e, h1, h2, h3, h4⟩
  · exact .inl h
  · have := (hd_bounds (fun j hj => good_ne hg j (by omega)) (good_ne hg e h2)).2
    exact .inr ⟨e, h1, by omega, h2, h3, h4⟩
theorem within_else {B : List Ins} (hg : good B) {i : Nat} (hi : i < B.length) :
    nth (elsesA B B.length) i = -1 ∨ ∃ e : Nat, nth (elsesA B B.length) i = e ∧ i < e ∧ e < B.length ∧ (e : Int) < nth (endsA B B.length) i ∧ hd B e = i := by
  rcases elsesA_cases B hg.1 i B.length (Nat.le_refl _) hi with h | ⟨e, h1, h2, h3, h4⟩
  · exact .inl h
  · have hb := (hd_bounds (fun j hj => good_ne hg j (by omega)) (good_ne hg e h2)).2
    refine .inr ⟨e, h1, by omega, h2, ?_, h4⟩
    rcases within_head hg h2 with ⟨g1, _⟩ | ⟨j, g1, g2, g3, _⟩
    · omega
    · have hji : j = i := by omega
      subst hji
      rcases within_end hg hi with g | ⟨e', g5, _, _, g6, _⟩
      · omega
      · have : e ≠ e' := fun hh => by rw [hh, g6] at h3; cases h3
        omega

/-- Bodies that agree up to 'm' have the same blocks there. -/
theorem rnd_agree {B C : List Ins} {m : Nat} (h : ∀ j, j < m → nth C j = nth B j) : ∀ i, i ≤ m → rnd C i = rnd B i
  | 0, _ => rfl
  | i + 1, hi => by simp only [rnd, rnd_agree h i (by omega), h i (by omega)]
theorem hd_agree {B C : List Ins} {m : Nat} (h : ∀ j, j < m → nth C j = nth B j) {i : Nat} (hi : i ≤ m) : hd C i = hd B i := by simp only [hd, rnd_agree h i hi]
theorem els_agree {B C : List Ins} {m : Nat} (h : ∀ j, j < m → nth C j = nth B j) {i : Nat} (hi : i ≤ m) (x : Int) : els C x i = els B x i := by
  simp only [els]
  rw [Bool.eq_iff_iff]
  simp only [List.any_eq_true, List.mem_range]
  constructor
  · rintro ⟨j, h1, h2⟩
    refine ⟨j, h1, ?_⟩
    rw [h j (by omega), rnd_agree h j (by omega), hd_agree h (by omega)] at h2
    exact h2
  · rintro ⟨j, h1, h2⟩
    refine ⟨j, h1, ?_⟩
    rw [h j (by omega), rnd_agree h j (by omega), hd_agree h (by omega)]
    exact h2
theorem err_agree {B C : List Ins} {m : Nat} (h : ∀ j, j < m → nth C j = nth B j) {i : Nat} (hi : i < m) (hne : ∀ j, j < i → 0 < (rnd B j).length) : err C i = err B i := by
  unfold err
  rw [rnd_agree h i (by omega)]
  by_cases h0 : (rnd B i).length = 0
  · rw [if_pos h0, if_pos h0]
  · rw [if_neg h0, if_neg h0, h i hi]
    have hb : badElse C i = badElse B i := by
      have := hd_bounds hne (by omega)
      unfold badElse
      rw [h i hi, hd_agree h (by omega), els_agree h (by omega)]
      by_cases hn : hd B i < 0
      · simp [hn]
      · rw [h (hd B i).toNat (by omega)]
    rw [hb]

theorem chk_front {B : List Ins} (hg : good B) {k : Nat} (hk : k < B.length) : chk (B.take k) = ((k : Int), 3) := by
  have hl : (B.take k).length = k := by rw [List.length_take]; omega
  have ha : ∀ j, j < k → nth (B.take k) j = nth B j := fun j hj => nth_take hj
  have he : ∀ j, j < (B.take k).length → err (B.take k) j = 0 := fun j hj => by
    rw [hl] at hj
    rw [err_agree ha hj (fun m hm => good_ne hg m (by omega))]
    exact hg.1 j (by omega)
  rw [chk_end he, hl, rnd_agree ha k (Nat.le_refl _), if_pos (good_ne hg k hk)]
theorem chk_more {B : List Ins} (hg : good B) (x : Ins) : chk (B ++ [x]) = ((B.length : Int), 16) := by
  have ha : ∀ j, j < B.length → nth (B ++ [x]) j = nth B j := fun j hj => nth_app_l hj
  have he : ∀ j, j < B.length → err (B ++ [x]) j = 0 := fun j hj => by
    rw [err_agree ha hj (fun m hm => good_ne hg m (by omega))]
    exact hg.1 j hj
  have h16 : err (B ++ [x]) B.length = 16 := by simp only [err, rnd_agree ha _ (Nat.le_refl _), hg.2]; rfl
  rw [chk_at (by simp) he (by rw [h16]; decide), h16]
end Go.Proofs.Ytlmnepdibhdpaaa
