/-
  Chapter 1 and 2 in plain Lean: bytes, LEB128.
-/
import Derived.Test.YtkejmhpodhbeeaaDoorT0
namespace Go.Proofs.YtkejmhpodhbeeaaDoor
open Go Go.Mw

/-- A byte, as a row. -/
def by_ (b : UInt8) : List AV := [.int .u8 b.toNat]
theorem by_e (b : UInt8) : by_ b = [.int .u8 b.toNat] := rfl
attribute [go_sem] by_e

/-- The index of the last byte of an encoding, or an error. -/
def lst (b : List UInt8) : Nat → Nat → Int × Nat
  | 0, _ => (4, 0)
  | f + 1, i => if i ≥ b.length then (3, 0) else if 128 ≤ (nth b i).toNat then lst b f (i + 1) else (0, i)
/-- How many bytes a number of so many bits takes at most. -/
def mst (bits : Nat) : Nat := (bits + 6) / 7
def lstE (b : List UInt8) (bits : Nat) : Int := (lst b (mst bits) 0).1
def lstI (b : List UInt8) (bits : Nat) : Nat := (lst b (mst bits) 0).2
/-- How many bits of the last byte count. -/
def cnt (bits i : Nat) : Nat := if i + 1 = mst bits then bits - 7 * i else 7
def val7 : List UInt8 → Nat
  | [] => 0
  | b :: r => b.toNat % 128 + 128 * val7 r
theorem lst_spec (b : List UInt8) : ∀ f i, i ≤ b.length → ((lst b f i).1 = 0 ∧ (lst b f i).2 < b.length ∧ i ≤ (lst b f i).2 ∧ (lst b f i).2 < i + f ∧ (nth b (lst b f i).2).toNat < 128) ∨ ((lst b f i).1 = 3 ∨ (lst b f i).1 = 4) ∧ (lst b f i).2 = 0
  | 0, i, _ => .inr ⟨.inr rfl, rfl⟩
  | f + 1, i, hi => by
    simp only [lst]
    by_cases h1 : i ≥ b.length
    · rw [if_pos h1]; exact .inr ⟨.inl rfl, rfl⟩
    · rw [if_neg h1]
      by_cases h2 : 128 ≤ (nth b i).toNat
      · rw [if_pos h2]
        rcases lst_spec b f (i + 1) (by omega) with ⟨g1, g2, g3, g4, g5⟩ | h
        · exact .inl ⟨g1, g2, by omega, by omega, g5⟩
        · exact .inr h
      · rw [if_neg h2]; exact .inl ⟨rfl, by simp; omega, by simp, by simp, by simp; omega⟩
theorem lst_cases (b : List UInt8) (bits : Nat) : (lstE b bits = 0 ∧ lstI b bits < b.length ∧ lstI b bits < mst bits ∧ (nth b (lstI b bits)).toNat < 128) ∨ (lstE b bits = 3 ∨ lstE b bits = 4) ∧ lstI b bits = 0 := by
  rcases lst_spec b (mst bits) 0 (Nat.zero_le _) with ⟨g1, g2, g3, g4, g5⟩ | h
  · exact .inl ⟨g1, g2, by rw [Nat.zero_add] at g4; exact g4, g5⟩
  · exact .inr h
end Go.Proofs.YtkejmhpodhbeeaaDoor
