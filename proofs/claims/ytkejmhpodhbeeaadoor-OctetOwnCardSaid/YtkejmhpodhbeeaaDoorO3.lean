/-
  LEB128 in plain Lean: what is encoded.
-/
import Derived.Test.YtkejmhpodhbeeaaDoorO2
namespace Go.Proofs.YtkejmhpodhbeeaaDoor
open Go Go.Mw

def putU (n : Nat) : List UInt8 := if n < 128 then [UInt8.ofNat n] else UInt8.ofNat (n % 128 + 128) :: putU (n / 128)
termination_by n
decreasing_by omega
def putS (n : Int) : List UInt8 := if -64 ≤ n ∧ n ≤ 63 then [UInt8.ofNat (n % 128).toNat] else UInt8.ofNat ((n % 128).toNat + 128) :: putS (n / 128)
termination_by n.natAbs
decreasing_by omega
theorem putU_lo {n : Nat} (h : n < 128) : putU n = [UInt8.ofNat n] := by rw [putU, if_pos h]
theorem putU_hi {n : Nat} (h : ¬ n < 128) : putU n = UInt8.ofNat (n % 128 + 128) :: putU (n / 128) := by rw [putU, if_neg h]
theorem putS_lo {n : Int} (h : -64 ≤ n ∧ n ≤ 63) : putS n = [UInt8.ofNat (n % 128).toNat] := by rw [putS, if_pos h]
theorem putS_hi {n : Int} (h : ¬ (-64 ≤ n ∧ n ≤ 63)) : putS n = UInt8.ofNat ((n % 128).toNat + 128) :: putS (n / 128) := by rw [putS, if_neg h]
theorem ofNat_toNat {n : Nat} (h : n < 256) : (UInt8.ofNat n).toNat = n := by simp [UInt8.toNat_ofNat', Nat.mod_eq_of_lt h]
/-- A byte that was reckoned. -/
theorem by_of {n : Nat} (h : n < 256) : by_ (UInt8.ofNat n) = [.int .u8 n] := by rw [by_e, ofNat_toNat h]
theorem putU_len {k : Nat} : ∀ {n : Nat}, n < 128 ^ (k + 1) → (putU n).length ≤ k + 1 := by
  induction k with
  | zero => intro n h; rw [putU_lo (by simpa using h)]; simp
  | succ k ih =>
    intro n h
    by_cases h1 : n < 128
    · rw [putU_lo h1]; simp
    · rw [putU_hi h1]
      have := ih (n := n / 128) (by rw [Nat.pow_succ] at h; omega)
      simp; omega
theorem putU_pos (n : Nat) : 0 < (putU n).length := by
  by_cases h1 : n < 128
  · rw [putU_lo h1]; simp
  · rw [putU_hi h1]; simp
end Go.Proofs.YtkejmhpodhbeeaaDoor
