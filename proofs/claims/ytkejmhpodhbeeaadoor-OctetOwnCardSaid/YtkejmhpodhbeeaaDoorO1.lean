/-
  Arithmetic of machine integers.
-/
import Derived.Test.YtkejmhpodhbeeaaDoorO0
namespace Go.Proofs.YtkejmhpodhbeeaaDoor
open Go Go.Mw

theorem w_u8 (n : Int) : IntKind.u8.wrap n = n % 256 := by simp [IntKind.wrap, IntKind.bits, IntKind.signed]
theorem w_u32 (n : Int) : IntKind.u32.wrap n = n % 4294967296 := by simp [IntKind.wrap, IntKind.bits, IntKind.signed]
theorem w_u64 (n : Int) : IntKind.u64.wrap n = n % 18446744073709551616 := by simp [IntKind.wrap, IntKind.bits, IntKind.signed]
theorem w_i64 (n : Int) : IntKind.i64.wrap n = (n + 9223372036854775808) % 18446744073709551616 - 9223372036854775808 := by
  simp [IntKind.wrap, IntKind.bits, IntKind.signed]
  split <;> omega
theorem w_i32 (n : Int) : IntKind.i32.wrap n = (n + 2147483648) % 4294967296 - 2147483648 := by
  simp [IntKind.wrap, IntKind.bits, IntKind.signed]
  split <;> omega

theorem bv_nat (k : Nat) (a : Nat) : BitVec.ofInt k (a : Int) = BitVec.ofNat k a := BitVec.ofInt_natCast k a
theorem or_nat {k a b : Nat} (ha : a < 2 ^ k) (hb : b < 2 ^ k) : (BitVec.ofInt k (a : Int) ||| BitVec.ofInt k (b : Int)).toNat = a ||| b := by
  rw [bv_nat, bv_nat, BitVec.toNat_or, BitVec.toNat_ofNat, BitVec.toNat_ofNat, Nat.mod_eq_of_lt ha, Nat.mod_eq_of_lt hb]
theorem and_nat {k a b : Nat} (ha : a < 2 ^ k) (hb : b < 2 ^ k) : (BitVec.ofInt k (a : Int) &&& BitVec.ofInt k (b : Int)).toNat = a &&& b := by
  rw [bv_nat, bv_nat, BitVec.toNat_and, BitVec.toNat_ofNat, BitVec.toNat_ofNat, Nat.mod_eq_of_lt ha, Nat.mod_eq_of_lt hb]

theorem and127 {x : Nat} (hx : x < 256) : b_and .u8 (x : Int) 127 = ((x % 128 : Nat) : Int) := by
  have : (BitVec.ofInt 8 (x : Int) &&& BitVec.ofInt 8 ((127 : Nat) : Int)).toNat = x &&& 127 := and_nat hx (by decide)
  show IntKind.u8.wrap ((BitVec.ofInt 8 (x : Int) &&& BitVec.ofInt 8 ((127 : Nat) : Int)).toNat) = _
  rw [this, show (127 : Nat) = 2 ^ 7 - 1 from rfl, Nat.and_two_pow_sub_one_eq_mod, w_u8]
  omega
set_option maxRecDepth 100000 in
theorem or128n {x : Nat} (hx : x < 256) : x ||| 128 = x % 128 + 128 := by
  have key : ∀ y : Fin 256, y.val ||| 128 = y.val % 128 + 128 := by decide
  exact key ⟨x, hx⟩
theorem or128 {x : Nat} (hx : x < 256) : b_or .u8 (x : Int) 128 = ((x % 128 + 128 : Nat) : Int) := by
  have : (BitVec.ofInt 8 (x : Int) ||| BitVec.ofInt 8 ((128 : Nat) : Int)).toNat = x ||| 128 := or_nat hx (by decide)
  show IntKind.u8.wrap ((BitVec.ofInt 8 (x : Int) ||| BitVec.ofInt 8 ((128 : Nat) : Int)).toNat) = _
  rw [this, or128n hx, w_u8]
  omega
theorem shl64 {y s : Nat} (hs : s < 64) : b_shl .u64 (y : Int) (s : Int) = ((y * 2 ^ s % 18446744073709551616 : Nat) : Int) := by
  unfold b_shl
  rw [Int.toNat_natCast, show min s IntKind.u64.bits = s from Nat.min_eq_left (by show s ≤ 64; omega), w_u64, Int.natCast_emod (_ * _), Int.natCast_mul, Int.natCast_pow]
  rfl
/-- Or of what lies apart is the sum, within 64 bits. -/
theorem or_shift {n y s : Nat} (hs : s < 64) (hn : n < 2 ^ s) : b_or .u64 (n : Int) (((y * 2 ^ s) % 18446744073709551616 : Nat) : Int) = (((n + y * 2 ^ s) % 18446744073709551616 : Nat) : Int) := by
  have hp : 2 ^ s ≤ 2 ^ 63 := Nat.pow_le_pow_right (by decide) (by omega)
  have e64 : 18446744073709551616 = 2 ^ s * 2 ^ (64 - s) := by rw [← Nat.pow_add, show s + (64 - s) = 64 by omega]
  have hm : (y * 2 ^ s) % 18446744073709551616 = 2 ^ s * (y % 2 ^ (64 - s)) := by rw [e64, Nat.mul_comm y, Nat.mul_mod_mul_left]
  have hlt : y % 2 ^ (64 - s) < 2 ^ (64 - s) := Nat.mod_lt _ (Nat.two_pow_pos _)
  have hsum : 2 ^ s * (y % 2 ^ (64 - s)) + n < 18446744073709551616 := by
    rw [e64]
    have h1 : 2 ^ s * (y % 2 ^ (64 - s) + 1) ≤ 2 ^ s * 2 ^ (64 - s) := Nat.mul_le_mul_left _ hlt
    rw [Nat.mul_add, Nat.mul_one] at h1
    omega
  have h1 : (BitVec.ofInt 64 (n : Int) ||| BitVec.ofInt 64 (((y * 2 ^ s) % 18446744073709551616 : Nat) : Int)).toNat = n ||| ((y * 2 ^ s) % 18446744073709551616) :=
    or_nat (by omega) (Nat.mod_lt _ (by decide))
  show IntKind.u64.wrap ((BitVec.ofInt 64 (n : Int) ||| BitVec.ofInt 64 (((y * 2 ^ s) % 18446744073709551616 : Nat) : Int)).toNat) = _
  rw [h1, hm, Nat.or_comm, ← Nat.two_pow_add_eq_or_of_lt hn, w_u64]
  have h2 : (n + y * 2 ^ s) % 18446744073709551616 = 2 ^ s * (y % 2 ^ (64 - s)) + n := by
    rw [Nat.add_mod, hm, Nat.mod_eq_of_lt (show n < 18446744073709551616 by omega), Nat.mod_eq_of_lt (by omega)]
    omega
  rw [h2]
  omega

theorem val7_app (l m : List UInt8) : val7 (l ++ m) = val7 l + 128 ^ l.length * val7 m := by
  induction l with
  | nil => simp [val7]
  | cons b l ih =>
    simp only [List.cons_append, val7, ih, List.length_cons, Nat.pow_succ, Nat.mul_add]
    rw [Nat.mul_comm (128 ^ l.length) 128, Nat.mul_assoc]
    omega
theorem val7_lt (l : List UInt8) : val7 l < 128 ^ l.length := by
  induction l with
  | nil => simp [val7]
  | cons b l ih =>
    simp only [val7, List.length_cons, Nat.pow_succ]
    have := Nat.mod_lt b.toNat (show 128 > 0 by decide)
    omega
theorem val7_take {b : List UInt8} {i : Nat} (h : i < b.length) : val7 (b.take (i + 1)) = val7 (b.take i) + (nth b i).toNat % 128 * 2 ^ (7 * i) := by
  rw [List.take_add_one, nth_some h, Option.toList_some, val7_app]
  simp only [val7, Nat.mul_zero, Nat.add_zero, List.length_take, Nat.min_eq_left (Nat.le_of_lt h)]
  rw [show (128 : Nat) = 2 ^ 7 from rfl, ← Nat.pow_mul, Nat.mul_comm (2 ^ (7 * i))]
theorem val7_take_lt {b : List UInt8} {i : Nat} (h : i ≤ b.length) : val7 (b.take i) < 2 ^ (7 * i) := by
  have := val7_lt (b.take i)
  rw [List.length_take, Nat.min_eq_left h, show (128 : Nat) = 2 ^ 7 from rfl, ← Nat.pow_mul] at this
  exact this
end Go.Proofs.YtkejmhpodhbeeaaDoor
