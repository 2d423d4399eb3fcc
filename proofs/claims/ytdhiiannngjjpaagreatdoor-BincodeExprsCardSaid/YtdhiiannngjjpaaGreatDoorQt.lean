/-
  Chapter 11 in plain Lean: instructions up to the matching end.
-/
import Derived.Test.YtdhiiannngjjpaaGreatDoorQp
import Derived.Test.YtdhiiannngjjpaaGreatDoorQq
import Derived.Test.YtdhiiannngjjpaaGreatDoorQr
import Derived.Test.YtdhiiannngjjpaaGreatDoorQe
set_option linter.unusedVariables false
set_option linter.unusedSimpArgs false
set_option linter.unusedSectionVars false
set_option maxRecDepth 100000
set_option maxHeartbeats 8000000
set_option linter.unusedVariables false
set_option linter.unusedSimpArgs false
namespace Go.Proofs.YtdhiiannngjjpaaGreatDoor
open Go Go.Mw

theorem gB_adv {b : List UInt8} {a k : Nat} {x : UInt8} (h : gB b a = .ok (x, k)) : k = a + 1 ∧ k ≤ b.length := by
  unfold gB at h
  split at h
  · cases h; exact ⟨rfl, by omega⟩
  · cases h
theorem gU_adv {b : List UInt8} {a k n : Nat} (ha : a ≤ b.length) (h : gU b a = .ok (n, k)) : a ≤ k ∧ k ≤ b.length ∧ n < 4294967296 := by
  have h1 := decU_lt (b.drop a) 32 (by decide)
  have h2 := decU_k (b.drop a) 32
  simp only [List.length_drop] at h2
  unfold gU at h
  split at h
  · cases h; exact ⟨by omega, by omega, h1⟩
  · cases h
theorem gS_adv {bits : Nat} {b : List UInt8} {a k : Nat} {n : Int} (ha : a ≤ b.length) (h : gS bits b a = .ok (n, k)) : a ≤ k ∧ k ≤ b.length := by
  have h2 := decS_k (b.drop a) bits
  simp only [List.length_drop] at h2
  unfold gS at h
  split at h
  · cases h; exact ⟨by omega, by omega⟩
  · cases h
theorem gV_adv {b : List UInt8} {a k : Nat} {t : Int} (h : gV b a = .ok (t, k)) : a ≤ k ∧ k ≤ b.length := by
  unfold gV at h
  split at h
  · rename_i x k' h1
    have := gB_adv h1
    split at h
    · cases h; omega
    · cases h
  · cases h
theorem gC_adv {b : List UInt8} {a k n : Nat} {most : Int} (ha : a ≤ b.length) (h : gC b a most = .ok (n, k)) : a ≤ k ∧ k ≤ b.length ∧ (n : Int) ≤ most := by
  unfold gC at h
  split at h
  · rename_i x k' h1
    have := gU_adv ha h1
    split at h
    · cases h
    · cases h; omega
  · cases h
theorem gL_adv : ∀ (n : Nat) {b : List UInt8} {a k : Nat} {l : List Int}, a ≤ b.length → gL n b a = .ok (l, k) → a ≤ k ∧ k ≤ b.length ∧ l.length = n
  | 0, b, a, k, l, ha, h => by cases h; exact ⟨Nat.le_refl _, ha, rfl⟩
  | n + 1, b, a, k, l, ha, h => by
    unfold gL at h
    split at h
    · rename_i x k1 h1
      have := gU_adv ha h1
      split at h
      · rename_i l2 k2 h2
        have := gL_adv n this.2.1 h2
        cases h
        exact ⟨by omega, by omega, by simp; omega⟩
      · cases h
    · cases h
theorem gK_adv {b : List UInt8} {a k : Nat} {q : Int × Int × Int} (ha : a ≤ b.length) (h : gK b a = .ok (q, k)) : a ≤ k ∧ k ≤ b.length := by
  unfold gK at h
  split at h
  · rename_i n k' h1
    have := gS_adv ha h1
    split at h
    · cases h; exact this
    split at h
    · cases h; exact this
    split at h
    · cases h; exact this
    · cases h
  · cases h
theorem gA_adv {b : List UInt8} {a k : Nat} {q : Int × Int × Int} (ha : a ≤ b.length) (h : gA b a = .ok (q, k)) : a ≤ k ∧ k ≤ b.length := by
  unfold gA at h
  split at h
  · rename_i n k' h1
    have q1 := gU_adv ha h1
    split at h
    · cases h
    split at h
    · split at h
      · rename_i y k1 h2
        have q2 := gU_adv q1.2.1 h2
        split at h
        · rename_i z k2 h3
          have q3 := gU_adv q2.2.1 h3
          cases h; omega
        · cases h
      · cases h
    · split at h
      · rename_i z k2 h3
        have q3 := gU_adv q1.2.1 h3
        cases h; omega
      · cases h
  · cases h
theorem gM_adv {i : Int} {b : List UInt8} {a k : Nat} {x : Ins} (ha : a ≤ b.length) (h : gM i b a = .ok (x, k)) : a ≤ k ∧ k ≤ b.length := by
  unfold gM at h
  by_cases c1 : i = 1
  · rw [if_pos c1] at h
    split at h
    · rename_i h1
      have := gK_adv ha h1
      cases h; exact this
    · cases h
  rw [if_neg c1] at h
  by_cases c2 : i = 3
  · rw [if_pos c2] at h
    split at h
    · rename_i h1
      have q1 := gC_adv ha h1
      split at h
      · rename_i h2
        have q2 := gL_adv _ q1.2.1 h2
        split at h
        · rename_i h3
          have q3 := gU_adv q2.2.1 h3
          cases h; omega
        · cases h
      · cases h
    · cases h
  rw [if_neg c2] at h
  by_cases c3 : i = 5 ∨ i = 10 ∨ i = 11 ∨ i = 14 ∨ i = 15
  · rw [if_pos c3] at h
    split at h
    · rename_i h1
      have q1 := gU_adv ha h1
      split at h
      · rename_i h2
        have q2 := gU_adv q1.2.1 h2
        cases h; omega
      · cases h
    · cases h
  rw [if_neg c3] at h
  by_cases c4 : i = 6
  · rw [if_pos c4] at h
    split at h
    · rename_i h1
      have q1 := gU_adv ha h1
      split at h
      · split at h
        · rename_i h2
          have q2 := gV_adv h2
          cases h; omega
        · cases h
      · cases h
    · cases h
  rw [if_neg c4] at h
  by_cases c5 : i = 13
  · rw [if_pos c5] at h
    split at h
    · rename_i h1
      have q1 := gU_adv ha h1
      cases h; omega
    · cases h
  rw [if_neg c5] at h
  by_cases c6 : i = 17
  · rw [if_pos c6] at h
    split at h
    · rename_i h1
      have := gA_adv ha h1
      cases h; exact this
    · cases h
  rw [if_neg c6] at h
  by_cases c7 : i = 18
  · rw [if_pos c7] at h
    split at h
    · rename_i h1
      have := gS_adv ha h1
      cases h; exact this
    · cases h
  rw [if_neg c7] at h
  by_cases c8 : i = 19
  · rw [if_pos c8] at h
    split at h
    · rename_i h1
      have := gS_adv ha h1
      cases h; exact this
    · cases h
  rw [if_neg c8] at h
  by_cases c9 : i = 20
  · rw [if_pos c9] at h
    split at h
    · rename_i h1
      have := gV_adv h1
      split at h
      · cases h; exact this
      · cases h
    · cases h
  rw [if_neg c9] at h
  by_cases c10 : i = 0
  · rw [if_pos c10] at h
    cases h; exact ⟨Nat.le_refl _, ha⟩
  · rw [if_neg c10] at h
    split at h
    · rename_i h1
      have q1 := gU_adv ha h1
      cases h; omega
    · cases h
theorem gO_adv {b : List UInt8} {a k : Nat} {op : Int} (h : gO b a = .ok (op, k)) : a < k ∧ k ≤ b.length ∧ rKn op = true := by
  unfold gO at h
  split at h
  · rename_i x k' h1
    have q1 := gB_adv h1
    split at h
    · split at h
      · rename_i n k2 h2
        have q2 := gU_adv q1.2 h2
        split at h
        · rename_i h3
          cases h; exact ⟨by omega, by omega, h3⟩
        · cases h
      · cases h
    · split at h
      · rename_i h3
        cases h; exact ⟨by omega, by omega, h3⟩
      · cases h
  · cases h
theorem gI_adv {b : List UInt8} {a k : Nat} {x : Ins} (h : gI b a = .ok (x, k)) : a < k ∧ k ≤ b.length := by
  unfold gI at h
  split at h
  · rename_i op k1 h1
    have q1 := gO_adv h1
    split at h
    · rename_i h2
      have q2 := gM_adv q1.2.1 h2
      cases h; omega
    · cases h
  · cases h
def preI (l : List Ins) : Rd (List Ins) → Rd (List Ins)
  | .ok (l2, k) => .ok (l ++ l2, k)
  | .error e => .error e
theorem preI_nil (r : Rd (List Ins)) : preI [] r = r := by cases r <;> rfl
def deepA (op : Int) (d : Nat) : Nat := if op = 2 ∨ op = 3 ∨ op = 4 then d + 1 else if op = 11 then d - 1 else d
def EI (b : List UInt8) (F a0 : Nat) (most : Int) (l : List Ins) (a d : Nat) : Prop :=
  a ≤ b.length ∧ l.length + a0 ≤ a ∧ d ≤ l.length + 1 ∧ ((1 ≤ d ∧ b.length < F + a - l.length ∧ l.length < F ∧ gE F 1 b a0 most = preI l (gE (F - l.length) d b a (most - l.length))) ∨ (d = 0 ∧ gE F 1 b a0 most = .ok (l, a)))
theorem EI_0 {b : List UInt8} {F a0 : Nat} {most : Int} (h : a0 ≤ b.length) (hF : b.length < F) : EI b F a0 most [] a0 1 :=
  ⟨h, by simp, by simp, .inl ⟨Nat.le_refl _, by simp; omega, by simp; omega, by simp [preI_nil]⟩⟩
theorem EI_most {b : List UInt8} {F a0 : Nat} {most : Int} {l : List Ins} {a d : Nat} (h : EI b F a0 most l a d) (hd : 1 ≤ d) (hm : (l.length : Int) ≥ most) : gE F 1 b a0 most = .error (6, a) := by
  obtain ⟨h1, h2, h3, ⟨_, h4, h5, h6⟩ | ⟨h4, _⟩⟩ := h
  · rw [h6, show F - l.length = (F - l.length - 1) + 1 by omega, gE, if_pos (by omega)]
    rfl
  · omega
theorem EI_err {b : List UInt8} {F a0 : Nat} {most : Int} {l : List Ins} {a d : Nat} (h : EI b F a0 most l a d) (hd : 1 ≤ d) (hm : ¬ (l.length : Int) ≥ most) {e : Int × Nat} (g : gI b a = .error e) : gE F 1 b a0 most = .error e := by
  obtain ⟨h1, h2, h3, ⟨_, h4, h5, h6⟩ | ⟨h4, _⟩⟩ := h
  · rw [h6, show F - l.length = (F - l.length - 1) + 1 by omega, gE, if_neg (by omega), g]
    rfl
  · omega
theorem EI_ok {b : List UInt8} {F a0 : Nat} {most : Int} {l : List Ins} {a d : Nat} (h : EI b F a0 most l a d) (hd : 1 ≤ d) (hm : ¬ (l.length : Int) ≥ most) {x : Ins} {k : Nat} (g : gI b a = .ok (x, k)) : EI b F a0 most (l ++ [x]) k (deepA x.op d) := by
  have hk := gI_adv g
  obtain ⟨h1, h2, h3, ⟨_, h4, h5, h6⟩ | ⟨h4, _⟩⟩ := h
  · have hl : (l ++ [x]).length = l.length + 1 := by simp
    refine ⟨hk.2, by omega, ?_, ?_⟩
    · rw [hl]; unfold deepA; repeat' split
      all_goals omega
    rw [hl]
    rw [show F - l.length = (F - l.length - 1) + 1 by omega, gE, if_neg (by omega), g] at h6
    simp only at h6
    by_cases hx : x.op = 11 ∧ d = 1
    · rw [if_pos hx] at h6
      refine .inr ⟨?_, by rw [h6]; rfl⟩
      unfold deepA
      rw [if_neg (by omega), if_pos hx.1]
      omega
    · rw [if_neg hx] at h6
      refine .inl ⟨?_, by omega, by omega, ?_⟩
      · unfold deepA
        split
        · omega
        · split
          · omega
          · omega
      · rw [h6, show F - (l.length + 1) = F - l.length - 1 by omega, show most - ((l.length + 1 : Nat) : Int) = most - l.length - 1 by omega]
        show preI l (match gE (F - l.length - 1) (deepA x.op d) b k (most - ↑l.length - 1) with | .ok (l, k') => .ok (x :: l, k') | .error e => .error e) = _
        cases gE (F - l.length - 1) (deepA x.op d) b k (most - ↑l.length - 1) with
        | ok p => obtain ⟨l2, k2⟩ := p; simp [preI]
        | error e => rfl
  · omega
theorem EI_end {b : List UInt8} {F a0 : Nat} {most : Int} {l : List Ins} {a : Nat} (h : EI b F a0 most l a 0) : gE F 1 b a0 most = .ok (l, a) := by
  obtain ⟨h1, h2, h3, ⟨h4, _⟩ | ⟨_, h4⟩⟩ := h
  · omega
  · exact h4
end Go.Proofs.YtdhiiannngjjpaaGreatDoor
set_option maxRecDepth 100000
set_option maxHeartbeats 4000000
set_option linter.unusedVariables false
set_option linter.unusedSimpArgs false
namespace Go.Proofs.YtdhiiannngjjpaaGreatDoor
open Go Go.Mw

theorem decU_can {d : List UInt8} (h : (decU d 32).2.2 = 0) : (putU (decU d 32).1).length ≤ (decU d 32).2.1 := by
  unfold decU at h ⊢
  by_cases h1 : lstE d 32 ≠ 0
  · rw [if_pos h1] at h; exact absurd h h1
  rw [if_neg h1] at h ⊢
  by_cases h2 : (nth d (lstI d 32)).toNat / 2 ^ cnt 32 (lstI d 32) ≠ 0
  · rw [if_pos h2] at h; exact absurd h (show ¬ (4 : Int) = 0 by decide)
  rw [if_neg h2]
  refine putU_len (k := lstI d 32) ?_
  have h3 := val7_lt (d.take (lstI d 32 + 1))
  rcases lst_cases d 32 with ⟨g1, g2, g3, g4⟩ | ⟨g1, g2⟩
  · rw [List.length_take, Nat.min_eq_left (by omega)] at h3
    have h4 := Nat.mod_le (val7 (d.take (lstI d 32 + 1))) 18446744073709551616
    omega
  · rcases g1 with g1 | g1 <;> rw [g1] at h1 <;> exact absurd (by decide) h1
theorem decS_can {d : List UInt8} {bits : Nat} (hb : 1 ≤ bits ∧ bits ≤ 64) (h : (decS d bits).2.2 = 0) : (putS (decS d bits).1).length ≤ (decS d bits).2.1 ∧ -(2 ^ (bits - 1) : Int) ≤ (decS d bits).1 ∧ (decS d bits).1 < 2 ^ (bits - 1) := by
  unfold decS at h ⊢
  by_cases h1 : lstE d bits ≠ 0
  · rw [if_pos h1] at h; exact absurd h h1
  rw [if_neg h1] at h ⊢
  by_cases h2 : (nth d (lstI d bits)).toNat / 2 ^ (cnt bits (lstI d bits) - 1) ≠ 0 ∧ (nth d (lstI d bits)).toNat / 2 ^ (cnt bits (lstI d bits) - 1) ≠ 127 / 2 ^ (cnt bits (lstI d bits) - 1)
  · rw [if_pos h2] at h; exact absurd h (show ¬ (4 : Int) = 0 by decide)
  rw [if_neg h2]
  rcases lst_cases d bits with ⟨g1, g2, g3, g4⟩ | ⟨g1, g2⟩
  rotate_left
  · rcases g1 with g1 | g1 <;> rw [g1] at h1 <;> exact absurd (by decide) h1
  have hc := cnt_le hb g3
  have hci : cnt bits (lstI d bits) - 1 + 7 * lstI d bits ≤ bits - 1 := by
    unfold cnt mst at *
    split <;> omega
  generalize cnt bits (lstI d bits) = c at *
  generalize lstI d bits = i at *
  have v1 := val7_take g2
  have v2 := val7_take_lt (Nat.le_of_lt g2)
  have hpow : 2 ^ (c - 1) * 2 ^ (7 * i) ≤ 2 ^ (bits - 1) := by rw [← Nat.pow_add]; exact Nat.pow_le_pow_right (by decide) hci
  have hmax : 2 ^ (bits - 1) ≤ 2 ^ 63 := Nat.pow_le_pow_right (by decide) (by omega)
  have e128 : (2 : Int) ^ (7 * (i + 1)) = 128 * ((2 ^ (7 * i) : Nat) : Int) := by
    rw [show 7 * (i + 1) = 7 * i + 7 by omega, Int.pow_add, Int.mul_comm, Int.natCast_pow]; rfl
  have eI : (2 : Int) ^ (bits - 1) = ((2 ^ (bits - 1) : Nat) : Int) := by rw [Int.natCast_pow]; rfl
  have ep : (128 : Int) ^ i = ((2 ^ (7 * i) : Nat) : Int) := pow128 i
  have key : -((2 ^ (c - 1) * 2 ^ (7 * i) : Nat) : Int) ≤ (val7 (d.take (i + 1)) : Int) - (if 64 ≤ (nth d i).toNat % 128 then 2 ^ (7 * (i + 1)) else 0) ∧ (val7 (d.take (i + 1)) : Int) - (if 64 ≤ (nth d i).toNat % 128 then 2 ^ (7 * (i + 1)) else 0) < ((2 ^ (c - 1) * 2 ^ (7 * i) : Nat) : Int) := by
    rw [v1, e128, Nat.mod_eq_of_lt g4]
    generalize (nth d i).toNat = t at *
    generalize 2 ^ (7 * i) = p at *
    generalize val7 (d.take i) = lo at *
    have : c = 1 ∨ c = 2 ∨ c = 3 ∨ c = 4 ∨ c = 5 ∨ c = 6 ∨ c = 7 := by omega
    by_cases ht : t < 64
    · rw [if_neg (by omega)]
      have ht2 : t ≤ 2 ^ (c - 1) - 1 := by rcases this with rfl | rfl | rfl | rfl | rfl | rfl | rfl <;> simp at h2 ⊢ <;> omega
      have hm := Nat.mul_le_mul_right p ht2
      have hq : 1 ≤ 2 ^ (c - 1) := Nat.one_le_two_pow
      generalize 2 ^ (c - 1) = q at *
      obtain ⟨q, rfl⟩ : ∃ q', q = q' + 1 := ⟨q - 1, by omega⟩
      rw [Nat.add_sub_cancel] at hm
      rw [Nat.add_mul, Nat.one_mul]
      omega
    · rw [if_pos (by omega)]
      have ht2 : 128 - 2 ^ (c - 1) ≤ t := by rcases this with rfl | rfl | rfl | rfl | rfl | rfl | rfl <;> simp at h2 ⊢ <;> omega
      have ht3 : t ≤ 127 := by omega
      have hm := Nat.mul_le_mul_right p ht2
      have hm3 := Nat.mul_le_mul_right p ht3
      have hq : 2 ^ (c - 1) ≤ 128 := by rcases this with rfl | rfl | rfl | rfl | rfl | rfl | rfl <;> decide
      rw [Nat.sub_mul] at hm
      have hq2 := Nat.mul_le_mul_right p hq
      generalize 2 ^ (c - 1) * p = qp at *
      have hq1 : 0 ≤ qp := Nat.zero_le _
      refine ⟨by omega, by omega⟩
  have hq64 : 2 ^ (c - 1) * 2 ^ (7 * i) ≤ 64 * 2 ^ (7 * i) := Nat.mul_le_mul_right _ (show 2 ^ (c - 1) ≤ 2 ^ 6 from Nat.pow_le_pow_right (by decide) (by omega))
  have es : sgn d i = (val7 (d.take (i + 1)) : Int) - (if 64 ≤ (nth d i).toNat % 128 then 2 ^ (7 * (i + 1)) else 0) := by
    unfold sgn
    exact wi (by omega) (by omega)
  simp only
  rw [es, eI]
  refine ⟨putS_len (k := i) ?_ ?_, by omega, by omega⟩
  · rw [ep]; omega
  · rw [ep]; omega
theorem gU_can {b : List UInt8} {a n k : Nat} (h : gU b a = .ok (n, k)) : a + (putU n).length ≤ k ∧ n < 4294967296 := by
  have h1 := decU_lt (b.drop a) 32 (by decide)
  unfold gU at h
  split at h
  · rename_i h2
    have := decU_can h2
    cases h; exact ⟨by omega, h1⟩
  · cases h
theorem gS_can {bits : Nat} {b : List UInt8} {a k : Nat} {n : Int} (hb : 1 ≤ bits ∧ bits ≤ 64) (h : gS bits b a = .ok (n, k)) : a + (putS n).length ≤ k ∧ -(2 ^ (bits - 1) : Int) ≤ n ∧ n < 2 ^ (bits - 1) := by
  unfold gS at h
  split at h
  · rename_i h2
    have := decS_can hb h2
    cases h; exact ⟨by omega, this.2⟩
  · cases h
theorem gC_can {b : List UInt8} {a k n : Nat} {most : Int} (h : gC b a most = .ok (n, k)) : a + (putU n).length ≤ k ∧ (n : Int) ≤ most := by
  unfold gC at h
  split at h
  · rename_i x k' h1
    have := gU_can h1
    split at h
    · cases h
    · cases h; omega
  · cases h
theorem ov_rng {x : UInt8} (h : (ov x).2 = true) : vaB (ov x).1 = true := by
  unfold ov at h ⊢
  repeat' split
  all_goals first | rfl | (simp_all; done)
theorem gV_can {b : List UInt8} {a k : Nat} {t : Int} (h : gV b a = .ok (t, k)) : a + 1 ≤ k ∧ vaB t = true := by
  unfold gV at h
  split at h
  · rename_i x k' h1
    have := gB_adv h1
    split at h
    · rename_i h2
      cases h; exact ⟨by omega, ov_rng h2⟩
    · cases h
  · cases h
theorem gK_can {b : List UInt8} {a k : Nat} {q : Int × Int × Int} (h : gK b a = .ok (q, k)) : a + (encB q.1 q.2.1 q.2.2).length ≤ k ∧ blB q.1 q.2.1 q.2.2 = true := by
  unfold gK at h
  split at h
  · rename_i n k' h1
    obtain ⟨u1, u2, u3⟩ := gS_can (by decide) h1
    have up := putS_pos n
    split at h
    · cases h; exact ⟨by simp only [encB, if_true, List.length_singleton]; omega, rfl⟩
    split at h
    · rename_i h0
      cases h
      refine ⟨u1, ?_⟩
      simp at u2 u3
      simp only [blB, ixB, Int.reduceEq, if_false, if_true, beq_self_eq_true, Bool.true_and, Bool.and_eq_true, decide_eq_true_eq]
      omega
    split at h
    · rename_i h3
      cases h
      refine ⟨by simp only [encB, Int.reduceEq, if_false, if_true, List.length_singleton]; omega, ?_⟩
      have := ov_rng h3.2
      simp only [blB, Int.reduceEq, if_false, if_true, this, beq_self_eq_true, Bool.true_and]
    · cases h
  · cases h
theorem ixn {n : Nat} (h : n < 4294967296) : ixB (n : Int) = true := by
  simp only [ixB, Bool.and_eq_true, decide_eq_true_eq]; omega
theorem gL_can : ∀ (n : Nat) {b : List UInt8} {a k : Nat} {l : List Int}, gL n b a = .ok (l, k) → a + (encL l).length ≤ k ∧ l.all ixB = true ∧ l.length = n
  | 0, b, a, k, l, h => by cases h; exact ⟨Nat.le_refl _, rfl, rfl⟩
  | n + 1, b, a, k, l, h => by
    unfold gL at h
    split at h
    · rename_i x k1 h1
      have u := gU_can h1
      split at h
      · rename_i l2 k2 h2
        have v := gL_can n h2
        cases h
        refine ⟨?_, ?_, by simp; omega⟩
        · rw [show encL ((x : Int) :: l2) = putU x ++ encL l2 from rfl, List.length_append]; omega
        · simp only [List.all_cons, ixn u.2, v.2.1, Bool.true_and]
      · cases h
    · cases h
theorem gO_can {b : List UInt8} {a k : Nat} {op : Int} (h : gO b a = .ok (op, k)) : a + (encO op).length ≤ k ∧ rKn op = true := by
  refine ⟨?_, (gO_adv h).2.2⟩
  unfold gO at h
  split at h
  · rename_i x k' h1
    have q1 := gB_adv h1
    split at h
    · split at h
      · rename_i n k2 h2
        have q2 := gU_can h2
        split at h
        · cases h
          unfold encO
          rw [if_pos (by omega), List.length_cons, show (64512 + (n : Int) - 64512).toNat = n by omega]
          omega
        · cases h
      · cases h
    · split at h
      · cases h
        have := x.toNat_lt
        unfold encO
        rw [if_neg (by omega), List.length_singleton]
        omega
      · cases h
  · cases h
theorem u64r (n : Int) : 0 ≤ IntKind.u64.wrap n ∧ IntKind.u64.wrap n < 18446744073709551616 := by rw [w_u64]; omega
theorem s32_back {m : Int} (h : -2147483648 ≤ m ∧ m < 2147483648) : s32 (IntKind.u64.wrap (IntKind.u32.wrap m)) = m ∧ IntKind.u64.wrap (IntKind.u32.wrap m) < 4294967296 := by
  have e : IntKind.u64.wrap (IntKind.u32.wrap m) = m % 4294967296 := by
    rw [w_u64, w_u32]; omega
  rw [e]
  unfold s32
  rw [w_i64, w_i32, w_u32]
  omega
theorem s64_back {m : Int} (h : -9223372036854775808 ≤ m ∧ m < 9223372036854775808) : IntKind.i64.wrap (IntKind.u64.wrap m) = m := by
  rw [w_i64, w_u64]; omega
def MC (i : Int) (x : Ins) (a k : Nat) : Prop := plR i true x = true ∧ x.lb.length ≤ 64 ∧ (0 ≤ x.n ∧ x.n < 18446744073709551616) ∧ a + (encM i x).length ≤ k
theorem lb0 : z0.lb.length ≤ 64 := by decide
theorem n0z : 0 ≤ z0.n ∧ z0.n < 18446744073709551616 := by decide
theorem gM_can {i : Int} (hi : 0 ≤ i ∧ i ≤ 20) {b : List UInt8} {a k : Nat} {x : Ins} (h : gM i b a = .ok (x, k)) : MC i x a k := by
  unfold MC
  rcases (show i = 0 ∨ i = 1 ∨ i = 2 ∨ i = 3 ∨ i = 4 ∨ i = 5 ∨ i = 6 ∨ i = 7 ∨ i = 8 ∨ i = 9 ∨ i = 10 ∨ i = 11 ∨ i = 12 ∨ i = 13 ∨ i = 14 ∨ i = 15 ∨ i = 16 ∨ i = 17 ∨ i = 18 ∨ i = 19 ∨ i = 20 by omega) with rfl | rfl | rfl | rfl | rfl | rfl | rfl | rfl | rfl | rfl | rfl | rfl | rfl | rfl | rfl | rfl | rfl | rfl | rfl | rfl | rfl
  all_goals
    simp only [gM, Int.reduceEq, false_or, or_false, or_true, true_or, or_self, if_true, if_false] at h
  · cases h
    exact ⟨rfl, lb0, n0z, Nat.le_refl _⟩
  · split at h
    · rename_i q0 q1 q2 k1 h1
      obtain ⟨u1, u2⟩ := gK_can h1
      cases h
      refine ⟨?_, lb0, n0z, ?_⟩
      · simp only [plR, rfin, z0, Int.reduceEq, Int.reduceBEq, false_or, or_false, or_true, true_or, or_self, if_true, if_false, Bool.true_or, Bool.false_or, Bool.true_and, Bool.and_true, beq_self_eq_true, List.length_nil, Int.natCast_zero, gt_iff_lt, Int.lt_irrefl, decide_false, Bool.not_false, u2]
      · exact u1
    · cases h
  · split at h
    · rename_i m k1 h1
      cases h
      obtain ⟨u1, u2⟩ := gU_can h1
      refine ⟨?_, lb0, n0z, ?_⟩
      · simp only [plR, rfin, z0, Int.reduceEq, Int.reduceBEq, false_or, or_false, or_true, true_or, or_self, if_true, if_false, Bool.true_or, Bool.false_or, Bool.true_and, Bool.and_true, beq_self_eq_true, List.length_nil, Int.natCast_zero, gt_iff_lt, Int.lt_irrefl, decide_false, Bool.not_false, ixn u2]
      · simp only [encM, Int.reduceEq, false_or, or_false, or_true, true_or, or_self, if_true, if_false, Int.toNat_natCast, List.length_append, List.length_singleton, List.length_nil]
        omega
    · cases h
  · split at h
    · rename_i n k1 h1
      obtain ⟨u1, u2⟩ := gC_can h1
      split at h
      · rename_i l k2 h2
        obtain ⟨p1, p2, p3⟩ := gL_can _ h2
        split at h
        · rename_i m k3 h3
          obtain ⟨v1, v2⟩ := gU_can h3
          cases h
          refine ⟨?_, ?_, n0z, ?_⟩
          · simp only [plR, rfin, z0, Int.reduceEq, Int.reduceBEq, false_or, or_false, or_true, true_or, or_self, if_true, if_false, Bool.true_or, Bool.false_or, Bool.true_and, Bool.and_true, beq_self_eq_true, List.length_nil, Int.natCast_zero, gt_iff_lt, Int.lt_irrefl, decide_false, Bool.not_false, ixn v2, p2]
          · show l.length ≤ 64
            omega
          · simp only [encM, Int.reduceEq, false_or, or_false, or_true, true_or, or_self, if_true, if_false, Int.toNat_natCast, List.length_append, List.length_singleton, List.length_nil]
            rw [p3]
            omega
        · cases h
      · cases h
    · cases h
  · split at h
    · rename_i m k1 h1
      cases h
      obtain ⟨u1, u2⟩ := gU_can h1
      refine ⟨?_, lb0, n0z, ?_⟩
      · simp only [plR, rfin, z0, Int.reduceEq, Int.reduceBEq, false_or, or_false, or_true, true_or, or_self, if_true, if_false, Bool.true_or, Bool.false_or, Bool.true_and, Bool.and_true, beq_self_eq_true, List.length_nil, Int.natCast_zero, gt_iff_lt, Int.lt_irrefl, decide_false, Bool.not_false, ixn u2]
      · simp only [encM, Int.reduceEq, false_or, or_false, or_true, true_or, or_self, if_true, if_false, Int.toNat_natCast, List.length_append, List.length_singleton, List.length_nil]
        omega
    · cases h
  · split at h
    · rename_i m k1 h1
      obtain ⟨u1, u2⟩ := gU_can h1
      split at h
      · rename_i m2 k2 h2
        obtain ⟨p1, p2⟩ := gU_can h2
        cases h
        refine ⟨?_, lb0, n0z, ?_⟩
        · simp only [plR, rfin, z0, Int.reduceEq, Int.reduceBEq, false_or, or_false, or_true, true_or, or_self, if_true, if_false, Bool.true_or, Bool.false_or, Bool.true_and, Bool.and_true, beq_self_eq_true, List.length_nil, Int.natCast_zero, gt_iff_lt, Int.lt_irrefl, decide_false, Bool.not_false, ixn u2, ixn p2]
        · simp only [encM, Int.reduceEq, false_or, or_false, or_true, true_or, or_self, if_true, if_false, Int.toNat_natCast, List.length_append, List.length_singleton, List.length_nil]
          omega
      · cases h
    · cases h
  · split at h
    · rename_i m k1 h1
      obtain ⟨u1, u2⟩ := gU_can h1
      split at h
      · rename_i h0
        subst h0
        split at h
        · rename_i t k2 h2
          obtain ⟨p1, p2⟩ := gV_can h2
          cases h
          refine ⟨?_, lb0, n0z, ?_⟩
          · simp only [plR, rfin, z0, Int.reduceEq, Int.reduceBEq, false_or, or_false, or_true, true_or, or_self, if_true, if_false, Bool.true_or, Bool.false_or, Bool.true_and, Bool.and_true, beq_self_eq_true, List.length_nil, Int.natCast_zero, gt_iff_lt, Int.lt_irrefl, decide_false, Bool.not_false, p2, List.length_singleton]
            exact p2
          · simp only [encM, Int.reduceEq, false_or, or_false, or_true, true_or, or_self, if_true, if_false, Int.toNat_natCast, List.length_append, List.length_singleton, List.length_nil]
            omega
        · cases h
      · cases h
    · cases h
  · split at h
    · rename_i m k1 h1
      cases h
      obtain ⟨u1, u2⟩ := gU_can h1
      refine ⟨?_, lb0, n0z, ?_⟩
      · simp only [plR, rfin, z0, Int.reduceEq, Int.reduceBEq, false_or, or_false, or_true, true_or, or_self, if_true, if_false, Bool.true_or, Bool.false_or, Bool.true_and, Bool.and_true, beq_self_eq_true, List.length_nil, Int.natCast_zero, gt_iff_lt, Int.lt_irrefl, decide_false, Bool.not_false, ixn u2]
      · simp only [encM, Int.reduceEq, false_or, or_false, or_true, true_or, or_self, if_true, if_false, Int.toNat_natCast, List.length_append, List.length_singleton, List.length_nil]
        omega
    · cases h
  · split at h
    · rename_i m k1 h1
      cases h
      obtain ⟨u1, u2⟩ := gU_can h1
      refine ⟨?_, lb0, n0z, ?_⟩
      · simp only [plR, rfin, z0, Int.reduceEq, Int.reduceBEq, false_or, or_false, or_true, true_or, or_self, if_true, if_false, Bool.true_or, Bool.false_or, Bool.true_and, Bool.and_true, beq_self_eq_true, List.length_nil, Int.natCast_zero, gt_iff_lt, Int.lt_irrefl, decide_false, Bool.not_false, ixn u2]
      · simp only [encM, Int.reduceEq, false_or, or_false, or_true, true_or, or_self, if_true, if_false, Int.toNat_natCast, List.length_append, List.length_singleton, List.length_nil]
        omega
    · cases h
  · split at h
    · rename_i m k1 h1
      cases h
      obtain ⟨u1, u2⟩ := gU_can h1
      refine ⟨?_, lb0, n0z, ?_⟩
      · simp only [plR, rfin, z0, Int.reduceEq, Int.reduceBEq, false_or, or_false, or_true, true_or, or_self, if_true, if_false, Bool.true_or, Bool.false_or, Bool.true_and, Bool.and_true, beq_self_eq_true, List.length_nil, Int.natCast_zero, gt_iff_lt, Int.lt_irrefl, decide_false, Bool.not_false, ixn u2]
      · simp only [encM, Int.reduceEq, false_or, or_false, or_true, true_or, or_self, if_true, if_false, Int.toNat_natCast, List.length_append, List.length_singleton, List.length_nil]
        omega
    · cases h
  · split at h
    · rename_i m k1 h1
      obtain ⟨u1, u2⟩ := gU_can h1
      split at h
      · rename_i m2 k2 h2
        obtain ⟨p1, p2⟩ := gU_can h2
        cases h
        refine ⟨?_, lb0, n0z, ?_⟩
        · simp only [plR, rfin, z0, Int.reduceEq, Int.reduceBEq, false_or, or_false, or_true, true_or, or_self, if_true, if_false, Bool.true_or, Bool.false_or, Bool.true_and, Bool.and_true, beq_self_eq_true, List.length_nil, Int.natCast_zero, gt_iff_lt, Int.lt_irrefl, decide_false, Bool.not_false, ixn u2, ixn p2]
        · simp only [encM, Int.reduceEq, false_or, or_false, or_true, true_or, or_self, if_true, if_false, Int.toNat_natCast, List.length_append, List.length_singleton, List.length_nil]
          omega
      · cases h
    · cases h
  · split at h
    · rename_i m k1 h1
      obtain ⟨u1, u2⟩ := gU_can h1
      split at h
      · rename_i m2 k2 h2
        obtain ⟨p1, p2⟩ := gU_can h2
        cases h
        refine ⟨?_, lb0, n0z, ?_⟩
        · simp only [plR, rfin, z0, Int.reduceEq, Int.reduceBEq, false_or, or_false, or_true, true_or, or_self, if_true, if_false, Bool.true_or, Bool.false_or, Bool.true_and, Bool.and_true, beq_self_eq_true, List.length_nil, Int.natCast_zero, gt_iff_lt, Int.lt_irrefl, decide_false, Bool.not_false, ixn u2, ixn p2]
        · simp only [encM, Int.reduceEq, false_or, or_false, or_true, true_or, or_self, if_true, if_false, Int.toNat_natCast, List.length_append, List.length_singleton, List.length_nil]
          omega
      · cases h
    · cases h
  · split at h
    · rename_i m k1 h1
      cases h
      obtain ⟨u1, u2⟩ := gU_can h1
      refine ⟨?_, lb0, n0z, ?_⟩
      · simp only [plR, rfin, z0, Int.reduceEq, Int.reduceBEq, false_or, or_false, or_true, true_or, or_self, if_true, if_false, Bool.true_or, Bool.false_or, Bool.true_and, Bool.and_true, beq_self_eq_true, List.length_nil, Int.natCast_zero, gt_iff_lt, Int.lt_irrefl, decide_false, Bool.not_false, ixn u2]
      · simp only [encM, Int.reduceEq, false_or, or_false, or_true, true_or, or_self, if_true, if_false, Int.toNat_natCast, List.length_append, List.length_singleton, List.length_nil]
        omega
    · cases h
  · split at h
    · rename_i m k1 h1
      cases h
      obtain ⟨u1, u2⟩ := gU_can h1
      refine ⟨?_, lb0, n0z, ?_⟩
      · simp only [plR, rfin, z0, Int.reduceEq, Int.reduceBEq, false_or, or_false, or_true, true_or, or_self, if_true, if_false, Bool.true_or, Bool.false_or, Bool.true_and, Bool.and_true, beq_self_eq_true, List.length_nil, Int.natCast_zero, gt_iff_lt, Int.lt_irrefl, decide_false, Bool.not_false, ixn u2]
      · simp only [encM, Int.reduceEq, false_or, or_false, or_true, true_or, or_self, if_true, if_false, Int.toNat_natCast, List.length_append, List.length_singleton, List.length_nil]
        omega
    · cases h
  · split at h
    · rename_i m k1 h1
      obtain ⟨u1, u2⟩ := gU_can h1
      split at h
      · rename_i m2 k2 h2
        obtain ⟨p1, p2⟩ := gU_can h2
        cases h
        refine ⟨?_, lb0, n0z, ?_⟩
        · simp only [plR, rfin, z0, Int.reduceEq, Int.reduceBEq, false_or, or_false, or_true, true_or, or_self, if_true, if_false, Bool.true_or, Bool.false_or, Bool.true_and, Bool.and_true, beq_self_eq_true, List.length_nil, Int.natCast_zero, gt_iff_lt, Int.lt_irrefl, decide_false, Bool.not_false, ixn u2, ixn p2]
        · simp only [encM, Int.reduceEq, false_or, or_false, or_true, true_or, or_self, if_true, if_false, Int.toNat_natCast, List.length_append, List.length_singleton, List.length_nil]
          omega
      · cases h
    · cases h
  · split at h
    · rename_i m k1 h1
      obtain ⟨u1, u2⟩ := gU_can h1
      split at h
      · rename_i m2 k2 h2
        obtain ⟨p1, p2⟩ := gU_can h2
        cases h
        refine ⟨?_, lb0, n0z, ?_⟩
        · simp only [plR, rfin, z0, Int.reduceEq, Int.reduceBEq, false_or, or_false, or_true, true_or, or_self, if_true, if_false, Bool.true_or, Bool.false_or, Bool.true_and, Bool.and_true, beq_self_eq_true, List.length_nil, Int.natCast_zero, gt_iff_lt, Int.lt_irrefl, decide_false, Bool.not_false, ixn u2, ixn p2]
        · simp only [encM, Int.reduceEq, false_or, or_false, or_true, true_or, or_self, if_true, if_false, Int.toNat_natCast, List.length_append, List.length_singleton, List.length_nil]
          omega
      · cases h
    · cases h
  · split at h
    · rename_i m k1 h1
      cases h
      obtain ⟨u1, u2⟩ := gU_can h1
      refine ⟨?_, lb0, n0z, ?_⟩
      · simp only [plR, rfin, z0, Int.reduceEq, Int.reduceBEq, false_or, or_false, or_true, true_or, or_self, if_true, if_false, Bool.true_or, Bool.false_or, Bool.true_and, Bool.and_true, beq_self_eq_true, List.length_nil, Int.natCast_zero, gt_iff_lt, Int.lt_irrefl, decide_false, Bool.not_false, ixn u2]
      · simp only [encM, Int.reduceEq, false_or, or_false, or_true, true_or, or_self, if_true, if_false, Int.toNat_natCast, List.length_append, List.length_singleton, List.length_nil]
        omega
    · cases h
  · split at h
    · rename_i q0 q1 q2 k1 h1
      cases h
      unfold gA at h1
      split at h1
      · rename_i n k1 g1
        obtain ⟨u1, u2⟩ := gU_can g1
        split at h1
        · cases h1
        split at h1
        · split at h1
          · rename_i y k2 g2
            obtain ⟨p1, p2⟩ := gU_can g2
            split at h1
            · rename_i z k3 g3
              obtain ⟨v1, v2⟩ := gU_can g3
              cases h1
              refine ⟨?_, lb0, ⟨by simp only; omega, by simp only; omega⟩, ?_⟩
              · simp only [plR, rfin, z0, Int.reduceEq, Int.reduceBEq, false_or, or_false, or_true, true_or, or_self, if_true, if_false, Bool.true_or, Bool.false_or, Bool.true_and, Bool.and_true, beq_self_eq_true, List.length_nil, Int.natCast_zero, gt_iff_lt, Int.lt_irrefl, decide_false, Bool.not_false, ixn p2]
                simp only [Bool.and_eq_true, decide_eq_true_eq]
                omega
              · simp only [encM, Int.reduceEq, false_or, or_false, or_true, true_or, or_self, if_true, if_false]
                by_cases hy : (y : Int) = 0
                · rw [if_pos hy, List.length_append, Int.toNat_natCast]
                  have w1 : (putU ((n : Int) - 64).toNat).length ≤ 1 := putU_len (k := 0) (by omega)
                  have w2 := putU_pos n
                  omega
                · rw [if_neg hy, show ((n : Int) - 64 + 64).toNat = n by omega]
                  simp only [List.length_append, Int.toNat_natCast]
                  omega
            · cases h1
          · cases h1
        · split at h1
          · rename_i z k3 g3
            obtain ⟨v1, v2⟩ := gU_can g3
            cases h1
            refine ⟨?_, lb0, ⟨by simp only; omega, by simp only; omega⟩, ?_⟩
            · simp only [plR, rfin, z0, Int.reduceEq, Int.reduceBEq, false_or, or_false, or_true, true_or, or_self, if_true, if_false, Bool.true_or, Bool.false_or, Bool.true_and, Bool.and_true, beq_self_eq_true, List.length_nil, Int.natCast_zero, gt_iff_lt, Int.lt_irrefl, decide_false, Bool.not_false, ixn u2, show ixB 0 = true from rfl]
              simp only [Bool.and_eq_true, decide_eq_true_eq]
              omega
            · simp only [encM, Int.reduceEq, false_or, or_false, or_true, true_or, or_self, if_true, if_false, Int.toNat_natCast, List.length_append, List.length_singleton, List.length_nil]
              omega
          · cases h1
      · cases h1
    · cases h
  · split at h
    · rename_i m k1 h1
      cases h
      obtain ⟨u1, u2⟩ := gS_can (by decide) h1
      have hs := s32_back (m := m) (by simp at u2; omega)
      refine ⟨?_, lb0, u64r _, ?_⟩
      · simp only [plR, rfin, z0, Int.reduceEq, Int.reduceBEq, false_or, or_false, or_true, true_or, or_self, if_true, if_false, Bool.true_or, Bool.false_or, Bool.true_and, Bool.and_true, beq_self_eq_true, List.length_nil, Int.natCast_zero, gt_iff_lt, Int.lt_irrefl, decide_false, Bool.not_false, hs.2, decide_true]
      · simp only [encM, Int.reduceEq, false_or, or_false, or_true, true_or, or_self, if_true, if_false, hs.1]
        exact u1
    · cases h
  · split at h
    · rename_i m k1 h1
      cases h
      obtain ⟨u1, u2⟩ := gS_can (by decide) h1
      have hs := s64_back (m := m) (by simp at u2; omega)
      refine ⟨?_, lb0, u64r _, ?_⟩
      · rfl
      · simp only [encM, Int.reduceEq, false_or, or_false, or_true, true_or, or_self, if_true, if_false, hs]
        exact u1
    · cases h
  · split at h
    · rename_i t k1 h1
      obtain ⟨u1, u2⟩ := gV_can h1
      split at h
      · rename_i h2
        cases h
        refine ⟨?_, lb0, n0z, ?_⟩
        · rcases h2 with rfl | rfl <;> rfl
        · exact u1
      · cases h
    · cases h
theorem gI_can {b : List UInt8} {a k : Nat} {x : Ins} (h : gI b a = .ok (x, k)) : PL x = true ∧ x.lb.length ≤ 64 ∧ (0 ≤ x.n ∧ x.n < 18446744073709551616) ∧ a + (encI x).length ≤ k := by
  unfold gI at h
  split at h
  · rename_i op k1 h1
    obtain ⟨u1, u2⟩ := gO_can h1
    split at h
    · rename_i y k2 h2
      obtain ⟨p1, p2, p3, p4⟩ := gM_can (imm_rng op) h2
      cases h
      refine ⟨?_, p2, p3, ?_⟩
      · show plR (rIm op) (rKn op) _ = true
        rw [u2]
        exact p1
      · show a + (encO op ++ encM (rIm op) y).length ≤ _
        rw [List.length_append]
        omega
    · cases h
  · cases h
end Go.Proofs.YtdhiiannngjjpaaGreatDoor
set_option maxRecDepth 100000
set_option maxHeartbeats 20000000
set_option linter.unusedVariables false
set_option linter.unusedSimpArgs false
namespace Go.Proofs.YtdhiiannngjjpaaGreatDoor
open Go Go.Mw

instance : Inhabited Ins := ⟨z0⟩
theorem putS_5 {n : Int} (h : -4294967296 ≤ n ∧ n ≤ 4294967295) : (putS n).length ≤ 5 := putS_len (k := 4) (by omega) (by omega)
theorem ixP {n : Int} (h : ixB n = true) : (putU n.toNat).length ≤ 5 := by
  obtain ⟨k, rfl, hk⟩ := ix_nat h
  rw [Int.toNat_natCast]; exact putU_5 hk
theorem encB_len {k v x : Int} (h : blB k v x = true) : (encB k v x).length ≤ 5 := by
  unfold blB at h
  unfold encB
  split
  · simp
  rename_i h0
  rw [if_neg h0] at h
  split
  · simp
  rename_i h1
  rw [if_neg h1] at h
  split at h
  · simp only [Bool.and_eq_true, ixB, decide_eq_true_eq] at h
    exact putS_5 (by omega)
  · cases h
theorem encM_len {i : Int} (hi : 0 ≤ i ∧ i ≤ 20) {x : Ins} (h : plR i true x = true) (hb : ¬ (i = 3 ∧ 4294967296 ≤ x.lb.length)) : (encM i x).length ≤ 5 * x.lb.length + 20 := by
  obtain ⟨op, a0, b0, n, k, v, z, ty, lb⟩ := x
  unfold plR rfin at h
  simp only [Bool.true_and] at h hb ⊢
  rcases (show i = 0 ∨ i = 1 ∨ i = 2 ∨ i = 3 ∨ i = 4 ∨ i = 5 ∨ i = 6 ∨ i = 7 ∨ i = 8 ∨ i = 9 ∨ i = 10 ∨ i = 11 ∨ i = 12 ∨ i = 13 ∨ i = 14 ∨ i = 15 ∨ i = 16 ∨ i = 17 ∨ i = 18 ∨ i = 19 ∨ i = 20 by omega) with rfl | rfl | rfl | rfl | rfl | rfl | rfl | rfl | rfl | rfl | rfl | rfl | rfl | rfl | rfl | rfl | rfl | rfl | rfl | rfl | rfl
  all_goals
    simp only [Int.reduceEq, Int.reduceBEq, false_or, or_false, or_true, true_or, or_self, if_true, if_false, Bool.true_or, Bool.false_or, Bool.true_and, Bool.and_eq_true, beq_iff_eq, Bool.not_eq_true', decide_eq_false_iff_not, decide_eq_true_eq, Bool.or_eq_true] at h
    simp only [encM, Int.reduceEq, false_or, or_false, or_true, true_or, or_self, if_true, if_false, List.length_append, List.length_singleton, List.length_nil]
  · omega
  · have := encB_len h.2.2.2.2.2; omega
  · have := ixP h.2.2.2.1; omega
  · have h1 := ixP h.2.2.1
    have h2 := encL_len h.2.2.2.2.2
    have h3 := putU_5 (n := lb.length) (Nat.lt_of_not_le fun q => hb ⟨rfl, q⟩)
    omega
  · have := ixP h.2.2.2.1; omega
  · have h1 := ixP h.2.2.2.1
    have h2 := ixP h.2.2.2.2.1
    omega
  · have := putU_5 (n := 1) (by decide); omega
  · have := ixP h.2.2.2.1; omega
  · have := ixP h.2.2.2.1; omega
  · have := ixP h.2.2.2.1; omega
  · have h1 := ixP h.2.2.2.1
    have h2 := ixP h.2.2.2.2.1
    omega
  · have h1 := ixP h.2.2.2.1
    have h2 := ixP h.2.2.2.2.1
    omega
  · have := ixP h.2.2.2.1; omega
  · have := ixP h.2.2.2.2.1; omega
  · have h1 := ixP h.2.2.2.1
    have h2 := ixP h.2.2.2.2.1
    omega
  · have h1 := ixP h.2.2.2.1
    have h2 := ixP h.2.2.2.2.1
    omega
  · have := ixP h.2.2.2.1; omega
  · obtain ⟨_, _, _, h1, h2, h3, h4⟩ := h
    have g1 := ixP h3
    have g2 := putU_5 (n := n.toNat) (by omega)
    have g3 := putU_5 (n := a0.toNat) (by omega)
    have g4 := putU_5 (n := (a0 + 64).toNat) (by omega)
    split
    · omega
    · rw [List.length_append]; omega
  · have h1 := s32_in n
    have := putS_5 (n := s32 n) (by omega); omega
  · have := putS_10 (i64_in n); omega
  · omega
theorem encI_len {x : Ins} (h : PL x = true) (hb : ¬ (rIm x.op = 3 ∧ 4294967296 ≤ x.lb.length)) : (encI x).length ≤ 5 * x.lb.length + 30 := by
  have hk := pl_kn h
  have h1 := encO_len x.op hk
  have hp : plR (rIm x.op) true x = true := by
    have h' : plR (rIm x.op) (rKn x.op) x = true := h
    rwa [hk] at h'
  have h2 := encM_len (imm_rng x.op) hp hb
  show (encO x.op ++ encM (rIm x.op) x).length ≤ _
  rw [List.length_append]
  omega
theorem pl_sl {x : Ins} (h : PL x = true) : (rIm x.op = 3 ∨ x.lb.length = 0) ∧ (rIm x.op = 6 ∨ x.ty.length = 0) ∧ (rIm x.op = 6 → x.ty.length = 1) := by
  unfold PL plR at h
  simp only [Bool.and_eq_true, Bool.or_eq_true, beq_iff_eq, Bool.not_eq_true', decide_eq_false_iff_not] at h
  obtain ⟨_, _, h1, h2, h3⟩ := h
  refine ⟨h1.imp id (fun q => by omega), h2.imp id (fun q => by omega), fun q => ?_⟩
  rw [q] at h3
  unfold rfin at h3
  simp only [Int.reduceEq, false_or, or_self, if_true, if_false, Bool.and_eq_true, beq_iff_eq] at h3
  omega
theorem pPut_len (x : Ins) (l : List UInt8) (e : Int) : (pPut x l e).1.length ≤ l.length + 21474836600 := by
  unfold pPut
  split
  · rename_i h
    split
    · have h1 := encO_len x.op (pl_kn h)
      have h2 := wB_len (ok := e == 0) (l := l) (x := encO x.op)
      simp only; omega
    · rename_i hs
      have h1 := encI_len h hs
      have h2 := wB_len (ok := e == 0) (l := l) (x := encI x)
      have h3 : x.lb.length < 4294967296 := by
        rcases Nat.lt_or_ge x.lb.length 4294967296 with q | q
        · exact q
        · have h4 : rIm x.op ≠ 3 := fun r => hs ⟨r, q⟩
          rcases (pl_sl h).1 with r | r
          · exact absurd r h4
          · omega
      simp only; omega
  · simp only; omega
end Go.Proofs.YtdhiiannngjjpaaGreatDoor
set_option maxRecDepth 100000
set_option maxHeartbeats 20000000
set_option linter.unusedVariables false
set_option linter.unusedSimpArgs false
namespace Go.Proofs.YtdhiiannngjjpaaGreatDoor
open Go Go.Mw
-- @U: ro, wo, wa, wx, rx, bk_e, vl_e, ac_

theorem op_cases (o : Int) : ((o == 2) = true ∨ ((o == 2) = false ∧ ((o == 3) = true ∨ ((o == 3) = false ∧ ((o == 4) = true ∨ ((o == 4) = false ∧ ((o == 11) = true ∨ (o == 11) = false))))))) := by
  cases o == 2 <;> cases o == 3 <;> cases o == 4 <;> cases o == 11 <;> simp
variable {b : List UInt8} {a : Nat} (ha : a ≤ b.length) (hb : b.length < 1000000000)
include ha hb
theorem s_op_e {e : Int} (he : e ≠ 0) : RM n_bincode_op [] true b a e (.int .i64 0) a e := by
  refine fun_sound (ic := F_bincode_op.body) mixed c_bincode_op rfl rfl ?_
  simp only [go_sem, ro, wo, wa, wx, rx, bk_e, vl_e, ac_, F_bincode_op]
  refine call_m (s_byte true b a e ha hb) ⟨by decide, by decide⟩ (by first | rfl | exact slv_ids _) (by simp [go_sem, ro, wo, wa, wx, rx, bk_e, vl_e, ac_]) rfl rfl (by rfl) ?_
  simp only [go_sem, ro, wo, wa, wx, rx, bk_e, vl_e, ac_, e_f he, Bool.true_and, rByte_f, to0, wr0]
  refine call_m (s_err true b a e) ⟨by decide, by decide⟩ (by first | rfl | exact slv_ids _) (by simp [go_sem, ro, wo, wa, wx, rx, bk_e, vl_e, ac_]) rfl rfl (by rfl) ?_
  simp only [go_sem, ro, wo, wa, wx, rx, bk_e, vl_e, ac_, e_f he]
  exact done [] _ [(1000, ro true b a e)] (by simp only [go_sem, ro, wo, wa, wx, rx, bk_e, vl_e, ac_]) (by simp only [go_sem, ro, wo, wa, wx, rx, bk_e, vl_e, ac_]) rfl ⟨rfl, rfl⟩
theorem s_get_e {e : Int} (he : e ≠ 0) : RM n_bincode_Get [] true b a e (ins_ z0) a e := by
  refine fun_sound (ic := F_bincode_Get.body) mixed c_bincode_Get rfl rfl ?_
  simp only [go_sem, ro, wo, wa, wx, rx, bk_e, vl_e, ac_, F_bincode_Get]
  refine call_m (s_op_e ha hb he) ⟨by decide, by decide⟩ (by first | rfl | exact slv_ids _) (by simp [go_sem, ro, wo, wa, wx, rx, bk_e, vl_e, ac_]) rfl rfl (by rfl) ?_
  simp only [go_sem, ro, wo, wa, wx, rx, bk_e, vl_e, ac_]
  refine call_m (s_err true b a e) ⟨by decide, by decide⟩ (by first | rfl | exact slv_ids _) (by simp [go_sem, ro, wo, wa, wx, rx, bk_e, vl_e, ac_]) rfl rfl (by rfl) ?_
  simp only [go_sem, ro, wo, wa, wx, rx, bk_e, vl_e, ac_, e_t he]
  exact wdone (Wk.nlm _ 2 (r' := insC z0) rfl (nl9 ..)) [] (ins_ z0) [(1000, ro true b a e)] (by simp only [go_sem, ro, wo, wa, wx, rx, bk_e, vl_e, ac_, insC]; rfl) (by simp only [go_sem, ro, wo, wa, wx, rx, bk_e, vl_e, ac_]) rfl ⟨rfl, rfl⟩
def exs (l : List Ins) : AV := .sl 9 (l.map insC)
theorem s_getexpr (most : Int) (hm : inI most) : RX n_bincode_GetExpr [.int .i64 most] b a (gE (b.length + 1) 1 b a most) [] exs := by
  refine fun_sound (ic := F_bincode_GetExpr.body) mixed c_bincode_GetExpr rfl rfl ?_
  simp only [go_sem, ro, wo, wa, wx, rx, bk_e, vl_e, ac_, F_bincode_GetExpr]
  refine loop_rule (fun q : List Ins × Nat × Nat => ⟨[(6, .int .i64 q.2.2), (5, .ms 900 9 0 q.1.length), (4, .nl), (1, .int .i64 most), (0, .mp 1000 4 0 0)], [(900, ⟨45, 9, q.1.map insC, false⟩), (1000, ro true b q.2.1 0)]⟩)
    (fun q => EI b (b.length + 1) a most q.1 q.2.1 q.2.2) (fun q => b.length - q.2.1) ([], a, 1) (EI_0 ha (Nat.lt_succ_self _)) ((Wk.nil _ 5 900 9 45 (by simp only [go_sem, ro, wo, wa, wx, rx, bk_e, vl_e, ac_]) (.inl (by decide))).trans (Wk.of ?_ ?_)) ?_
  · simp only [go_sem, ro, wo, wa, wx, rx, bk_e, vl_e, ac_, St.mknil]; try simp [go_sem]
  · simp only [go_sem, ro, wo, wa, wx, rx, bk_e, vl_e, ac_, St.mknil]; try simp [go_sem]
  rintro ⟨l, a1, d⟩ hE
  replace hE : EI b (b.length + 1) a most l a1 d := hE
  have ha1 : a1 ≤ b.length := hE.1
  have hl1 : l.length + a ≤ a1 := hE.2.1
  have hd1 : d ≤ l.length + 1 := hE.2.2.1
  by_cases hd : (d : Int) > 0
  · have hd' : 1 ≤ d := by omega
    by_cases hmo : (l.length : Int) ≥ most
    · simp only [go_sem, ro, wo, wa, wx, rx, bk_e, vl_e, ac_, decide_eq_true hd, decide_eq_true hmo]
      refine call_m (s_fail_ok b a1 6) ⟨by decide, by decide⟩ (by first | rfl | exact slv_ids _) (by simp [go_sem, ro, wo, wa, wx, rx, bk_e, vl_e, ac_]) rfl rfl (by rfl) ?_
      simp only [go_sem, ro, wo, wa, wx, rx, bk_e, vl_e, ac_]
      refine call_m (s_get_e ha1 hb (show (6 : Int) ≠ 0 by decide)) ⟨by decide, by decide⟩ (by first | rfl | exact slv_ids _) (by simp [go_sem, ro, wo, wa, wx, rx, bk_e, vl_e, ac_]) rfl rfl (by rfl) ?_
      simp only [go_sem, ro, wo, wa, wx, rx, bk_e, vl_e, ac_]
      refine call_m (s_err true b a1 6) ⟨by decide, by decide⟩ (by first | rfl | exact slv_ids _) (by simp [go_sem, ro, wo, wa, wx, rx, bk_e, vl_e, ac_]) rfl rfl (by rfl) ?_
      simp only [go_sem, ro, wo, wa, wx, rx, bk_e, vl_e, ac_]
      refine wdone (Wk.nil _ 4 901 9 45 (by simp only [go_sem, ro, wo, wa, wx, rx, bk_e, vl_e, ac_]) (.inl (by decide))) [901] (exs []) [(1000, ro true b a1 6)] ?_ ?_ rfl ⟨([], a1, 6), Out.er (EI_most hE hd' hmo) (by decide) ha1, rfl, rfl⟩
      · simp only [go_sem, ro, wo, wa, wx, rx, bk_e, vl_e, ac_, St.mknil]
        rfl
      · simp only [go_sem, ro, wo, wa, wx, rx, bk_e, vl_e, ac_, St.mknil]
    · simp only [go_sem, ro, wo, wa, wx, rx, bk_e, vl_e, ac_, decide_eq_true hd, decide_eq_false hmo]
      refine call_me (s_get11 ha1 hb) ⟨by decide, by decide⟩ (fun _ => rfl) (by simp) rfl (fun _ => rfl) (by rfl) ?_
      rintro ⟨x, a2, e2⟩ ⟨p1, p2⟩
      replace p1 : a2 ≤ b.length := p1
      rcases p2 with ⟨x', k2, q1, q2⟩ | ⟨e, q1, he, q2, q3⟩
      · cases q2
        have hE2 := EI_ok hE hd' hmo q1
        have hadv := gI_adv q1
        have happ := fun ys => appO_map 900 45 9 l.length insC l ys rfl
        simp only [go_sem, ro, wo, wa, wx, rx, bk_e, vl_e, ac_, ins_e]
        refine call_m (s_err true b a2 0) ⟨by decide, by decide⟩ (by first | rfl | exact slv_ids _) (by simp [go_sem, ro, wo, wa, wx, rx, bk_e, vl_e, ac_]) rfl rfl (by rfl) ?_
        have hw1 : IntKind.i64.wrap ((d : Int) + 1) = ((d + 1 : Nat) : Int) := by rw [wi (by omega) (by omega)]; omega
        have hw2 : IntKind.i64.wrap ((d : Int) - 1) = ((d - 1 : Nat) : Int) := by rw [wi (by omega) (by omega)]; omega
        have hda : deepA x.op d = if x.op = 2 ∨ x.op = 3 ∨ x.op = 4 then d + 1 else if x.op = 11 then d - 1 else d := rfl
        rcases op_cases x.op with h2 | ⟨h2, h3 | ⟨h3, h4 | ⟨h4, h5 | h5⟩⟩⟩
        · rw [show deepA x.op d = d + 1 by rw [hda, if_pos (.inl (eq_of_beq h2))]] at hE2
          simp only [go_sem, ro, wo, wa, wx, rx, bk_e, vl_e, ac_, h2, happ, hw1]
          refine ⟨by omega, klp_n (l ++ [x], a2, d + 1) hE2 (show b.length - a2 < b.length - a1 by omega) (Wk.of ?_ ?_)⟩
          · simp only [go_sem, ro, wo, wa, wx, rx, bk_e, vl_e, ac_]
            try simp
          · simp only [go_sem, ro, wo, wa, wx, rx, bk_e, vl_e, ac_]
            try simp [insC, vl_e]
        · rw [show deepA x.op d = d + 1 by rw [hda, if_pos (.inr (.inl (eq_of_beq h3)))]] at hE2
          simp only [go_sem, ro, wo, wa, wx, rx, bk_e, vl_e, ac_, h2, h3, happ, hw1]
          refine ⟨by omega, klp_n (l ++ [x], a2, d + 1) hE2 (show b.length - a2 < b.length - a1 by omega) (Wk.of ?_ ?_)⟩
          · simp only [go_sem, ro, wo, wa, wx, rx, bk_e, vl_e, ac_]
            try simp
          · simp only [go_sem, ro, wo, wa, wx, rx, bk_e, vl_e, ac_]
            try simp [insC, vl_e]
        · rw [show deepA x.op d = d + 1 by rw [hda, if_pos (.inr (.inr (eq_of_beq h4)))]] at hE2
          simp only [go_sem, ro, wo, wa, wx, rx, bk_e, vl_e, ac_, h2, h3, h4, happ, hw1]
          refine ⟨by omega, klp_n (l ++ [x], a2, d + 1) hE2 (show b.length - a2 < b.length - a1 by omega) (Wk.of ?_ ?_)⟩
          · simp only [go_sem, ro, wo, wa, wx, rx, bk_e, vl_e, ac_]
            try simp
          · simp only [go_sem, ro, wo, wa, wx, rx, bk_e, vl_e, ac_]
            try simp [insC, vl_e]
        · rw [show deepA x.op d = d - 1 by rw [hda, if_neg (by have := ne_of_beq_false h2; have := ne_of_beq_false h3; have := ne_of_beq_false h4; omega), if_pos (eq_of_beq h5)]] at hE2
          simp only [go_sem, ro, wo, wa, wx, rx, bk_e, vl_e, ac_, h2, h3, h4, h5, happ, hw2]
          refine ⟨by omega, klp_n (l ++ [x], a2, d - 1) hE2 (show b.length - a2 < b.length - a1 by omega) (Wk.of ?_ ?_)⟩
          · simp only [go_sem, ro, wo, wa, wx, rx, bk_e, vl_e, ac_]
            try simp
          · simp only [go_sem, ro, wo, wa, wx, rx, bk_e, vl_e, ac_]
            try simp [insC, vl_e]
        · rw [show deepA x.op d = d by rw [hda, if_neg (by have := ne_of_beq_false h2; have := ne_of_beq_false h3; have := ne_of_beq_false h4; omega), if_neg (ne_of_beq_false h5)]] at hE2
          simp only [go_sem, ro, wo, wa, wx, rx, bk_e, vl_e, ac_, h2, h3, h4, h5, happ]
          refine ⟨by omega, klp_n (l ++ [x], a2, d) hE2 (show b.length - a2 < b.length - a1 by omega) (Wk.of ?_ ?_)⟩
          · simp only [go_sem, ro, wo, wa, wx, rx, bk_e, vl_e, ac_]
            try simp
          · simp only [go_sem, ro, wo, wa, wx, rx, bk_e, vl_e, ac_]
            try simp [insC, vl_e]
      · obtain rfl : e2 = e := q3
        simp only [go_sem, ro, wo, wa, wx, rx, bk_e, vl_e, ac_]
        refine call_m (s_err true b a2 e2) ⟨by decide, by decide⟩ (by first | rfl | exact slv_ids _) (by simp [go_sem, ro, wo, wa, wx, rx, bk_e, vl_e, ac_]) rfl rfl (by rfl) ?_
        simp only [go_sem, ro, wo, wa, wx, rx, bk_e, vl_e, ac_, e_t he]
        refine wdone (Wk.nil _ 4 901 9 45 (by simp only [go_sem, ro, wo, wa, wx, rx, bk_e, vl_e, ac_]) (.inl (by decide))) [901] (exs []) [(1000, ro true b a2 e2)] ?_ ?_ rfl ⟨([], a2, e2), Out.er (EI_err hE hd' hmo q1) he p1, rfl, rfl⟩
        · simp only [go_sem, ro, wo, wa, wx, rx, bk_e, vl_e, ac_, St.mknil]
          rfl
        · simp only [go_sem, ro, wo, wa, wx, rx, bk_e, vl_e, ac_, St.mknil]
  · obtain rfl : d = 0 := by omega
    simp only [go_sem, ro, wo, wa, wx, rx, bk_e, vl_e, ac_, decide_eq_false hd]
    refine done [900] (exs l) [(1000, ro true b a1 0)] ?_ (by simp only [go_sem, ro, wo, wa, wx, rx, bk_e, vl_e, ac_]) rfl ⟨(l, a1, 0), Out.ok (EI_end hE) ha1, rfl, rfl⟩
    simp only [go_sem, ro, wo, wa, wx, rx, bk_e, vl_e, ac_, List.length_map, Nat.le_refl]
    rw [List.take_of_length_le (by rw [List.length_map]; omega)]
    rfl
end Go.Proofs.YtdhiiannngjjpaaGreatDoor
set_option maxRecDepth 100000
set_option maxHeartbeats 40000000
set_option linter.unusedVariables false
set_option linter.unusedSimpArgs false
namespace Go.Proofs.YtdhiiannngjjpaaGreatDoor
open Go Go.Mw
-- @U: ro, wo, wa, wx, rx, ins_e, vl_e, insC, slv_none, slv_some

theorem bne_self_i (n : Int) : (n != n) = false := by simp
section
variable {l : List UInt8} {e : Int} (hl : l.length ≤ 1000)
include hl
end
def o1 (x : Ins) : Option (List UInt8) × Int := wD true (pPut x [] 0).1 (pPut x [] 0).2
theorem s_one (x : Ins) (hn : 0 ≤ x.n) (hb : x.lb.length ≤ 9223372036854775807) : PCalls Tryz.prog n_law11_one [ins_ x] (.tup [slv (o1 x).1, .int .i64 (o1 x).2]) := by
  refine pfun_sound (ic := F_law11_one.body) mixed c_law11_one rfl rfl ?_
  have hp := s_put (l := []) (e := 0) (by simp) x hn hb
  have hln := pPut_len x [] 0
  rw [List.length_nil] at hln
  have hd := s_wdone true (pPut x [] 0).1 (pPut x [] 0).2 (by omega)
  rw [show wD true (pPut x [] 0).1 (pPut x [] 0).2 = o1 x from rfl] at hd
  simp only [ins_e] at hp
  generalize o1 x = o at hd ⊢
  obtain ⟨o, e⟩ := o
  cases o
  all_goals
    simp only [go_sem, ro, wo, wa, wx, rx, ins_e, vl_e, insC, F_law11_one]
    refine call_wnew 904 905 (by decide) (by decide) (by decide) (by simp only [go_sem, ro, wo, wa, wx, rx, ins_e, vl_e, insC]) (by simp only [go_sem, ro, wo, wa, wx, rx, ins_e, vl_e, insC]) ?_
    simp only [go_sem, ro, wo, wa, wx, rx, ins_e, vl_e, insC]
    refine call_w [] (k := 904) (j := 905) (hp) (by decide) (by decide) (by decide) (by decide) (by first | rfl | simp [go_sem, slv_ids, ro, wo, wa, wx, rx, ins_e, vl_e, insC]) (by simp [go_sem, ro, wo, wa, wx, rx, ins_e, vl_e, insC]) (by rfl) (by rfl) (by rfl) ?_
    simp only [go_sem, ro, wo, wa, wx, rx, ins_e, vl_e, insC]
    refine call_w [] (k := 904) (j := 905) (hd) (by decide) (by decide) (by decide) (by decide) (by first | rfl | simp [go_sem, slv_ids, ro, wo, wa, wx, rx, ins_e, vl_e, insC]) (by simp [go_sem, ro, wo, wa, wx, rx, ins_e, vl_e, insC]) (by rfl) (by rfl) (by rfl) ?_
    simp only [go_sem, ro, wo, wa, wx, rx, ins_e, vl_e, insC]
    exact pdone [] (by simp only [go_sem, ro, wo, wa, wx, rx, ins_e, vl_e, insC]) (by first | rfl | simp [go_sem, slv_ids, ro, wo, wa, wx, rx, ins_e, vl_e, insC])
theorem pl_1 : PL ⟨65, 0, 0, 4294967295, 0, 0, 0, [], []⟩ = true ∧ rIm 65 = 18 := by decide +kernel
theorem pl_2 : PL ⟨64522, 0, 1, 0, 0, 0, 0, [], []⟩ = true ∧ rIm 64522 = 14 := by decide +kernel
theorem pl_3 : PL ⟨40, 2, 1, 4, 0, 0, 0, [], []⟩ = true ∧ rIm 40 = 17 := by decide +kernel
theorem e_1 : encI ⟨65, 0, 0, 4294967295, 0, 0, 0, [], []⟩ = [65, 127] := by
  have h : s32 4294967295 = -1 := by decide
  simp only [encI, pl_1.2, encO, encM]
  simp [h, putS_lo]
theorem e_2 : encI ⟨64522, 0, 1, 0, 0, 0, 0, [], []⟩ = [252, 10, 0, 1] := by
  simp only [encI, pl_2.2, encO, encM]
  simp [putU_lo]
theorem e_3 : encI ⟨40, 2, 1, 4, 0, 0, 0, [], []⟩ = [40, 66, 1, 4] := by
  simp only [encI, pl_3.2, encO, encM]
  simp [putU_lo]
theorem o1_ok {x : Ins} (h : PL x = true) (hs : ¬ (rIm x.op = 3 ∧ 4294967296 ≤ x.lb.length)) : o1 x = (some (encI x), 0) := by
  unfold o1 pPut
  rw [if_pos h, if_neg hs]
  rfl
theorem g_1 : gI [65, 127] 0 = .ok (⟨65, 0, 0, 4294967295, 0, 0, 0, [], []⟩, 2) := by
  have h := gI_enc (x := ⟨65, 0, 0, 4294967295, 0, 0, 0, [], []⟩) (b := [65, 127]) (r := []) (a := 0) pl_1.1 (by decide) (by decide) (by rw [e_1]; rfl)
  rw [e_1] at h
  exact h
theorem s_alive11 : PCalls Tryz.prog n_law11_alive [] (.bool true) := by
  refine pfun_sound (ic := F_law11_alive.body) mixed c_law11_alive rfl rfl ?_
  have c1 := s_one ⟨65, 0, 0, 4294967295, 0, 0, 0, [], []⟩ (by decide) (by decide)
  have c2 := s_one ⟨64522, 0, 1, 0, 0, 0, 0, [], []⟩ (by decide) (by decide)
  have c3 := s_one ⟨40, 2, 1, 4, 0, 0, 0, [], []⟩ (by decide) (by decide)
  rw [o1_ok pl_1.1 (by decide +kernel), e_1] at c1
  rw [o1_ok pl_2.1 (by decide +kernel), e_2] at c2
  rw [o1_ok pl_3.1 (by decide +kernel), e_3] at c3
  have r1 := s_read [65, 127] (by decide)
  simp only [ins_e] at c1 c2 c3
  have hg := s_get11 (b := [65, 127]) (a := 0) (by decide) (by decide)
  rw [g_1] at hg
  simp only [go_sem, ro, wo, wa, wx, rx, ins_e, vl_e, insC, F_law11_alive]
  refine call_nl [.agg [.int .i64 65, .int .i64 0, .int .i64 0, .int .u64 4294967295, .int .i64 0, .int .i64 0, .int .i64 0, .sl 1 [], .sl 1 []]] ⟨.inr (.inr ⟨_, _, rfl, rfl, .inl rfl, .inl rfl, .inl rfl, .inl rfl, .inl rfl, .inl rfl, .inl rfl, .inr ⟨rfl, 1, rfl⟩, .inr ⟨rfl, 1, rfl⟩, trivial⟩), trivial⟩ ?_
  refine call_same (c1) (by simp [go_sem, ro, wo, wa, wx, rx, ins_e, vl_e, insC]) ?_
  simp only [go_sem, ro, wo, wa, wx, rx, ins_e, vl_e, insC]
  refine call_nl [.agg [.int .i64 64522, .int .i64 0, .int .i64 1, .int .u64 0, .int .i64 0, .int .i64 0, .int .i64 0, .sl 1 [], .sl 1 []]] ⟨.inr (.inr ⟨_, _, rfl, rfl, .inl rfl, .inl rfl, .inl rfl, .inl rfl, .inl rfl, .inl rfl, .inl rfl, .inr ⟨rfl, 1, rfl⟩, .inr ⟨rfl, 1, rfl⟩, trivial⟩), trivial⟩ ?_
  refine call_same (c2) (by simp [go_sem, ro, wo, wa, wx, rx, ins_e, vl_e, insC]) ?_
  simp only [go_sem, ro, wo, wa, wx, rx, ins_e, vl_e, insC]
  refine call_nl [.agg [.int .i64 40, .int .i64 2, .int .i64 1, .int .u64 4, .int .i64 0, .int .i64 0, .int .i64 0, .sl 1 [], .sl 1 []]] ⟨.inr (.inr ⟨_, _, rfl, rfl, .inl rfl, .inl rfl, .inl rfl, .inl rfl, .inl rfl, .inl rfl, .inl rfl, .inr ⟨rfl, 1, rfl⟩, .inr ⟨rfl, 1, rfl⟩, trivial⟩), trivial⟩ ?_
  refine call_same (c3) (by simp [go_sem, ro, wo, wa, wx, rx, ins_e, vl_e, insC]) ?_
  simp only [go_sem, ro, wo, wa, wx, rx, ins_e, vl_e, insC]
  refine call_nrecF [23] r1 ?_ rfl (by simp [go_sem]) 901 (by decide) (by simp only [go_sem, ro, wo, wa, wx, rx, ins_e, vl_e, insC]) ?_
  · simp only [go_sem, ro, wo, wa, wx, rx, ins_e, vl_e, insC, Nat.le_refl]
    rfl
  simp only [go_sem, ro, wo, wa, wx, rx, ins_e, vl_e, insC]
  refine call_me hg ⟨by decide, by decide⟩ (fun _ => rfl) (by simp) rfl (fun _ => rfl) (by rfl) ?_
  rintro ⟨x, a2, e2⟩ ⟨p1, p2⟩
  rcases p2 with ⟨x', k2, q1, q2⟩ | ⟨e, q1, _⟩
  rotate_left
  · cases q1
  cases q1
  cases q2
  simp only [go_sem, ro, wo, wa, wx, rx, ins_e, vl_e, insC, bytes_by]
  refine ⟨fun _ => ⟨fun _ => ⟨fun _ => ?_, fun h => absurd h (by decide)⟩, fun h => absurd h (by decide)⟩, fun h => absurd h (by decide)⟩
  exact pdone [] (by simp only [go_sem, ro, wo, wa, wx, rx, ins_e, vl_e, insC]) (by first | rfl | simp [go_sem, slv_ids, ro, wo, wa, wx, rx, ins_e, vl_e, insC])
end Go.Proofs.YtdhiiannngjjpaaGreatDoor
