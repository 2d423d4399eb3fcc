/-
  UTF-8 in plain Lean: what unicode/utf8.Valid tells.
-/
import Derived.Test.YtkejmhpodhbeeaaDoorO2
namespace Go.Proofs.YtkejmhpodhbeeaaDoor
open Go Go.Mw

theorem or_sh {n y s : Nat} (p : Nat) (hp : 2 ^ s = p) (hs : s ≤ 56) (hn : n < p) (hy : y < 256) : b_or .u64 (n : Int) (b_shl .u64 (y : Int) (s : Int)) = ((n + y * p : Nat) : Int) := by
  subst hp
  rw [shl64 (by omega), or_shift (by omega) hn]
  have h1 : 2 ^ s ≤ 2 ^ 56 := Nat.pow_le_pow_right (by decide) hs
  have h2 : y * 2 ^ s ≤ 255 * 2 ^ 56 := Nat.mul_le_mul (by omega) h1
  rw [Nat.mod_eq_of_lt (by omega)]

/-- Eight bytes, the first the least. -/
def wrd (l : List UInt8) : Nat := (nth l 0).toNat + (nth l 1).toNat * 256 + (nth l 2).toNat * 65536 + (nth l 3).toNat * 16777216 + (nth l 4).toNat * 4294967296 + (nth l 5).toNat * 1099511627776 + (nth l 6).toNat * 281474976710656 + (nth l 7).toNat * 72057594037927936
theorem wrd_lt (l : List UInt8) : wrd l < 18446744073709551616 := by
  have h0 := (nth l 0).toNat_lt; have h1 := (nth l 1).toNat_lt; have h2 := (nth l 2).toNat_lt; have h3 := (nth l 3).toNat_lt
  have h4 := (nth l 4).toNat_lt; have h5 := (nth l 5).toNat_lt; have h6 := (nth l 6).toNat_lt; have h7 := (nth l 7).toNat_lt
  unfold wrd
  omega
def hiB : Nat := 9259542123273814144
theorem hi_bit {w : Nat} (h : w &&& 9259542123273814144 = 0) {k : Nat} (hk : (9259542123273814144 : Nat).testBit k = true) : w / 2 ^ k % 2 = 0 := by
  have h1 : (w &&& 9259542123273814144).testBit k = false := by rw [h]; simp
  rw [Nat.testBit_and, hk, Bool.and_true] at h1
  rw [Nat.testBit_eq_decide_div_mod_eq] at h1
  simp at h1
  omega
theorem top_bit {w p low b high : Nat} (hp : 0 < p) (hl : low < p) (hb : b < 256) (e : w = low + p * (b + 256 * high)) (h : w / (p * 128) % 2 = 0) : b < 128 := by
  have h1 : w / p = b + 256 * high := by rw [e, Nat.add_mul_div_left _ _ hp, Nat.div_eq_of_lt hl, Nat.zero_add]
  rw [← Nat.div_div_eq_div_mul, h1] at h
  omega
/-- Eight bytes without a high bit. -/
theorem wrd_asc {l : List UInt8} (h : wrd l &&& 9259542123273814144 = 0) : ∀ i, i < 8 → (nth l i).toNat < 128 := by
  have h0 := (nth l 0).toNat_lt; have h1 := (nth l 1).toNat_lt; have h2 := (nth l 2).toNat_lt; have h3 := (nth l 3).toNat_lt
  have h4 := (nth l 4).toNat_lt; have h5 := (nth l 5).toNat_lt; have h6 := (nth l 6).toNat_lt; have h7 := (nth l 7).toNat_lt
  have g0 : (nth l 0).toNat < 128 := top_bit (w := wrd l) (p := 1) (low := 0) (high := 0 + (nth l 1).toNat * 1 + (nth l 2).toNat * 256 + (nth l 3).toNat * 65536 + (nth l 4).toNat * 16777216 + (nth l 5).toNat * 4294967296 + (nth l 6).toNat * 1099511627776 + (nth l 7).toNat * 281474976710656) (by decide) (by omega) h0 (by unfold wrd; omega) (hi_bit h (k := 7) (by decide))
  have g1 : (nth l 1).toNat < 128 := top_bit (w := wrd l) (p := 256) (low := 0 + (nth l 0).toNat * 1) (high := 0 + (nth l 2).toNat * 1 + (nth l 3).toNat * 256 + (nth l 4).toNat * 65536 + (nth l 5).toNat * 16777216 + (nth l 6).toNat * 4294967296 + (nth l 7).toNat * 1099511627776) (by decide) (by omega) h1 (by unfold wrd; omega) (hi_bit h (k := 15) (by decide))
  have g2 : (nth l 2).toNat < 128 := top_bit (w := wrd l) (p := 65536) (low := 0 + (nth l 0).toNat * 1 + (nth l 1).toNat * 256) (high := 0 + (nth l 3).toNat * 1 + (nth l 4).toNat * 256 + (nth l 5).toNat * 65536 + (nth l 6).toNat * 16777216 + (nth l 7).toNat * 4294967296) (by decide) (by omega) h2 (by unfold wrd; omega) (hi_bit h (k := 23) (by decide))
  have g3 : (nth l 3).toNat < 128 := top_bit (w := wrd l) (p := 16777216) (low := 0 + (nth l 0).toNat * 1 + (nth l 1).toNat * 256 + (nth l 2).toNat * 65536) (high := 0 + (nth l 4).toNat * 1 + (nth l 5).toNat * 256 + (nth l 6).toNat * 65536 + (nth l 7).toNat * 16777216) (by decide) (by omega) h3 (by unfold wrd; omega) (hi_bit h (k := 31) (by decide))
  have g4 : (nth l 4).toNat < 128 := top_bit (w := wrd l) (p := 4294967296) (low := 0 + (nth l 0).toNat * 1 + (nth l 1).toNat * 256 + (nth l 2).toNat * 65536 + (nth l 3).toNat * 16777216) (high := 0 + (nth l 5).toNat * 1 + (nth l 6).toNat * 256 + (nth l 7).toNat * 65536) (by decide) (by omega) h4 (by unfold wrd; omega) (hi_bit h (k := 39) (by decide))
  have g5 : (nth l 5).toNat < 128 := top_bit (w := wrd l) (p := 1099511627776) (low := 0 + (nth l 0).toNat * 1 + (nth l 1).toNat * 256 + (nth l 2).toNat * 65536 + (nth l 3).toNat * 16777216 + (nth l 4).toNat * 4294967296) (high := 0 + (nth l 6).toNat * 1 + (nth l 7).toNat * 256) (by decide) (by omega) h5 (by unfold wrd; omega) (hi_bit h (k := 47) (by decide))
  have g6 : (nth l 6).toNat < 128 := top_bit (w := wrd l) (p := 281474976710656) (low := 0 + (nth l 0).toNat * 1 + (nth l 1).toNat * 256 + (nth l 2).toNat * 65536 + (nth l 3).toNat * 16777216 + (nth l 4).toNat * 4294967296 + (nth l 5).toNat * 1099511627776) (high := 0 + (nth l 7).toNat * 1) (by decide) (by omega) h6 (by unfold wrd; omega) (hi_bit h (k := 55) (by decide))
  have g7 : (nth l 7).toNat < 128 := top_bit (w := wrd l) (p := 72057594037927936) (low := 0 + (nth l 0).toNat * 1 + (nth l 1).toNat * 256 + (nth l 2).toNat * 65536 + (nth l 3).toNat * 16777216 + (nth l 4).toNat * 4294967296 + (nth l 5).toNat * 1099511627776 + (nth l 6).toNat * 281474976710656) (high := 0) (by decide) (by omega) h7 (by unfold wrd; omega) (hi_bit h (k := 63) (by decide))
  intro i hi
  have e : i = 0 ∨ i = 1 ∨ i = 2 ∨ i = 3 ∨ i = 4 ∨ i = 5 ∨ i = 6 ∨ i = 7 := by omega
  rcases e with rfl | rfl | rfl | rfl | rfl | rfl | rfl | rfl <;> assumption
theorem or_and_zero {a b h : Nat} (hh : (a ||| b) &&& h = 0) : a &&& h = 0 ∧ b &&& h = 0 := by
  rw [Nat.and_or_distrib_right] at hh
  exact ⟨Nat.eq_zero_of_le_zero (by rw [← hh]; exact Nat.left_le_or), Nat.eq_zero_of_le_zero (by rw [← hh]; exact Nat.right_le_or)⟩
theorem and_hi {a : Nat} (ha : a < 18446744073709551616) : b_and .u64 (a : Int) 9259542123273814144 = ((a &&& 9259542123273814144 : Nat) : Int) := by
  have h : (BitVec.ofInt 64 (a : Int) &&& BitVec.ofInt 64 ((9259542123273814144 : Nat) : Int)).toNat = a &&& 9259542123273814144 := and_nat ha (by decide)
  show IntKind.u64.wrap ((BitVec.ofInt 64 (a : Int) &&& BitVec.ofInt 64 ((9259542123273814144 : Nat) : Int)).toNat) = _
  rw [h, w_u64]
  have : a &&& 9259542123273814144 ≤ a := Nat.and_le_left
  omega
theorem or_w {a b : Nat} (ha : a < 18446744073709551616) (hb : b < 18446744073709551616) : b_or .u64 (a : Int) (b : Int) = ((a ||| b : Nat) : Int) ∧ a ||| b < 18446744073709551616 := by
  have h : (BitVec.ofInt 64 (a : Int) ||| BitVec.ofInt 64 (b : Int)).toNat = a ||| b := or_nat ha hb
  have hl : a ||| b < 2 ^ 64 := Nat.or_lt_two_pow ha hb
  refine ⟨?_, hl⟩
  show IntKind.u64.wrap ((BitVec.ofInt 64 (a : Int) ||| BitVec.ofInt 64 (b : Int)).toNat) = _
  rw [h, w_u64]
  omega

/-- A rune of more than one byte at the head: how many bytes, if it is good. -/
def run1 (l : List UInt8) : Option Nat :=
  let x := Lib.firstT (nth l 0).toNat
  let lo := Lib.accLo (x / 16)
  let hi := Lib.accHi (x / 16)
  if x % 8 = 2 then (if 2 ≤ l.length ∧ lo ≤ (nth l 1).toNat ∧ (nth l 1).toNat ≤ hi then some 2 else none)
  else if x % 8 = 3 then (if 3 ≤ l.length ∧ lo ≤ (nth l 1).toNat ∧ (nth l 1).toNat ≤ hi ∧ 128 ≤ (nth l 2).toNat ∧ (nth l 2).toNat ≤ 191 then some 3 else none)
  else if x % 8 = 4 then (if 4 ≤ l.length ∧ lo ≤ (nth l 1).toNat ∧ (nth l 1).toNat ≤ hi ∧ 128 ≤ (nth l 2).toNat ∧ (nth l 2).toNat ≤ 191 ∧ 128 ≤ (nth l 3).toNat ∧ (nth l 3).toNat ≤ 191 then some 4 else none)
  else none
def uvF : Nat → List UInt8 → Bool
  | 0, _ => true
  | _ + 1, [] => true
  | f + 1, b :: r => if b.toNat < 128 then uvF f r else match run1 (b :: r) with
    | some k => uvF f ((b :: r).drop k)
    | none => false
/-- Whether the bytes are valid UTF-8. -/
def uv (l : List UInt8) : Bool := uvF l.length l
theorem run1_pos {l : List UInt8} {k : Nat} (h : run1 l = some k) : 2 ≤ k ∧ k ≤ l.length := by
  unfold run1 at h
  simp only at h
  repeat' split at h
  all_goals first | (cases h; done) | (cases h; rename_i hh; exact ⟨by omega, hh.1⟩)
theorem uvF_enough : ∀ (f g : Nat) (l : List UInt8), l.length ≤ f → l.length ≤ g → uvF f l = uvF g l
  | 0, 0, _, _, _ => rfl
  | 0, g + 1, l, h, _ => by
    have : l = [] := List.eq_nil_of_length_eq_zero (by omega)
    subst this; rfl
  | f + 1, 0, l, _, h => by
    have : l = [] := List.eq_nil_of_length_eq_zero (by omega)
    subst this; rfl
  | f + 1, g + 1, [], _, _ => rfl
  | f + 1, g + 1, b :: r, h1, h2 => by
    simp only [List.length_cons] at h1 h2
    simp only [uvF]
    split
    · exact uvF_enough f g r (by omega) (by omega)
    · cases hk : run1 (b :: r) with
      | none => rfl
      | some k =>
        have := run1_pos hk
        exact uvF_enough f g _ (by simp only [List.length_drop, List.length_cons]; omega) (by simp only [List.length_drop, List.length_cons]; omega)
theorem uv_nil : uv [] = true := rfl
theorem uv_asc {l : List UInt8} (hl : 0 < l.length) (h : (nth l 0).toNat < 128) : uv l = uv (l.drop 1) := by
  cases l with
  | nil => simp at hl
  | cons b r =>
    have h' : b.toNat < 128 := h
    simp only [uv, List.length_cons, uvF, List.drop_succ_cons, List.drop_zero]
    rw [if_pos h']
theorem uv_run {l : List UInt8} {k : Nat} (hl : 0 < l.length) (h : ¬ (nth l 0).toNat < 128) (hk : run1 l = some k) : uv l = uv (l.drop k) := by
  have hp := run1_pos hk
  cases l with
  | nil => simp at hl
  | cons b r =>
    have h' : ¬ b.toNat < 128 := h
    simp only [uv, List.length_cons, uvF]
    rw [if_neg h', hk]
    exact uvF_enough _ _ _ (by simp only [List.length_drop, List.length_cons]; omega) (Nat.le_refl _)
theorem uv_bad {l : List UInt8} (hl : 0 < l.length) (h : ¬ (nth l 0).toNat < 128) (hk : run1 l = none) : uv l = false := by
  cases l with
  | nil => simp at hl
  | cons b r =>
    have h' : ¬ b.toNat < 128 := h
    simp only [uv, List.length_cons, uvF]
    rw [if_neg h', hk]
theorem uv_drop {l : List UInt8} : ∀ k, k ≤ l.length → (∀ i, i < k → (nth l i).toNat < 128) → uv l = uv (l.drop k)
  | 0, _, _ => rfl
  | k + 1, hk, h => by
    rw [uv_drop k (by omega) (fun i hi => h i (by omega)), uv_asc (by simp; omega) (by rw [nth_drop]; exact h k (by omega)), List.drop_drop]
theorem uv_word {l : List UInt8} (hl : 8 ≤ l.length) (h : wrd l &&& 9259542123273814144 = 0) : uv l = uv (l.drop 8) := uv_drop 8 hl (wrd_asc h)
end Go.Proofs.YtkejmhpodhbeeaaDoor
