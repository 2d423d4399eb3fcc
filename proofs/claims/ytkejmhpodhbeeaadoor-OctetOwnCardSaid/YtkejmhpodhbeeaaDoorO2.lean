/-
  LEB128 in plain Lean: what is decoded.
-/
import Derived.Test.YtkejmhpodhbeeaaDoorO1
namespace Go.Proofs.YtkejmhpodhbeeaaDoor
open Go Go.Mw

theorem shr_nat (k : IntKind) {x s : Nat} (hs : s ≤ k.bits) : b_shr k (x : Int) (s : Int) = ((x / 2 ^ s : Nat) : Int) := by
  unfold b_shr
  rw [Int.toNat_natCast, Nat.min_eq_left hs, Int.fdiv_eq_ediv_of_nonneg _ (by exact Int.le_of_lt (Int.pow_pos (by decide)))]
  rw [Int.natCast_ediv, Int.natCast_pow]
  rfl
set_option maxRecDepth 100000 in
theorem and64n {x : Nat} (hx : x < 256) : (x &&& 64 != 0) = decide (64 ≤ x % 128) := by
  have key : ∀ y : Fin 256, (y.val &&& 64 != 0) = decide (64 ≤ y.val % 128) := by decide
  exact key ⟨x, hx⟩
theorem and64 {x : Nat} (hx : x < 256) : (b_and .u8 (x : Int) 64 != 0) = decide (64 ≤ x % 128) := by
  have : (BitVec.ofInt 8 (x : Int) &&& BitVec.ofInt 8 ((64 : Nat) : Int)).toNat = x &&& 64 := and_nat hx (by decide)
  have e : b_and .u8 (x : Int) 64 = ((x &&& 64 : Nat) : Int) := by
    show IntKind.u8.wrap ((BitVec.ofInt 8 (x : Int) &&& BitVec.ofInt 8 ((64 : Nat) : Int)).toNat) = _
    rw [this, w_u8]
    have : x &&& 64 ≤ 64 := Nat.and_le_right
    omega
  rw [e, ← and64n hx]
  by_cases h : x &&& 64 = 0
  · simp [h]
  · have h1 : ((x &&& 64 : Nat) : Int) ≠ 0 := by omega
    simp only [bne, beq_eq_false_iff_ne.2 h1, beq_eq_false_iff_ne.2 h]

/-- An unsigned number: its value, how many bytes it takes, the error. -/
def decU (b : List UInt8) (bits : Nat) : Nat × Nat × Int :=
  if lstE b bits ≠ 0 then (0, 0, lstE b bits) else
  if (nth b (lstI b bits)).toNat / 2 ^ cnt bits (lstI b bits) ≠ 0 then (0, 0, 4) else
  (val7 (b.take (lstI b bits + 1)) % 18446744073709551616, lstI b bits + 1, 0)
def sgn (b : List UInt8) (i : Nat) : Int := IntKind.i64.wrap ((val7 (b.take (i + 1)) : Int) - (if 64 ≤ (nth b i).toNat % 128 then 2 ^ (7 * (i + 1)) else 0))
def decS (b : List UInt8) (bits : Nat) : Int × Nat × Int :=
  if lstE b bits ≠ 0 then (0, 0, lstE b bits) else
  if (nth b (lstI b bits)).toNat / 2 ^ (cnt bits (lstI b bits) - 1) ≠ 0 ∧ (nth b (lstI b bits)).toNat / 2 ^ (cnt bits (lstI b bits) - 1) ≠ 127 / 2 ^ (cnt bits (lstI b bits) - 1) then (0, 0, 4) else
  (sgn b (lstI b bits), lstI b bits + 1, 0)

theorem cnt_le {bits i : Nat} (h : 1 ≤ bits ∧ bits ≤ 64) (hi : i < mst bits) : 1 ≤ cnt bits i ∧ cnt bits i ≤ 7 := by
  unfold cnt mst at *
  split <;> omega
theorem mst_le {bits : Nat} (h : 1 ≤ bits ∧ bits ≤ 64) : mst bits ≤ 10 := by unfold mst; omega
theorem i64_congr {a b : Int} (h : a % 18446744073709551616 = b % 18446744073709551616) : IntKind.i64.wrap a = IntKind.i64.wrap b := by
  rw [w_i64, w_i64]; omega
end Go.Proofs.YtkejmhpodhbeeaaDoor
