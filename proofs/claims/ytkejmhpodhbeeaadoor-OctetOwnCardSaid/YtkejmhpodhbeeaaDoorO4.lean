/-
  Chapter 2 in plain Lean: what a Reader does. 'ok': it is usable and has no error.
-/
import Derived.Test.YtkejmhpodhbeeaaDoorO2
namespace Go.Proofs.YtkejmhpodhbeeaaDoor
open Go Go.Mw

/-- A slice of bytes that may be nil. -/
def slv : Option (List UInt8) → AV
  | none => .nl
  | some l => .sl 1 (l.map by_)
theorem slv_ids (o : Option (List UInt8)) : idsV (slv o) = [] := by cases o <;> rfl
theorem slv_none : slv none = .nl := rfl
theorem slv_some (l : List UInt8) : slv (some l) = .sl 1 (l.map by_) := rfl
attribute [go_sem] slv_none slv_some

def rTake (ok : Bool) (b : List UInt8) (a : Nat) (e n : Int) : Option (List UInt8) × Nat × Int :=
  if ok = true then (if n < 0 then (none, a, 1) else if n > (b.length : Int) - a then (none, a, 3) else (some ((b.drop a).take n.toNat), a + n.toNat, e)) else (none, a, e)
def rByte (ok : Bool) (b : List UInt8) (a : Nat) (e : Int) : UInt8 × Nat × Int :=
  if ok = true then (if (b.length : Int) - a < 1 then (0, a, 3) else (nth b a, a + 1, e)) else (0, a, e)
def rU (ok : Bool) (bits : Nat) (b : List UInt8) (a : Nat) (e : Int) : Nat × Nat × Int :=
  if ok = true then (if (decU (b.drop a) bits).2.2 ≠ 0 then (0, a, (decU (b.drop a) bits).2.2) else ((decU (b.drop a) bits).1, a + (decU (b.drop a) bits).2.1, e)) else (0, a, e)
def rS (ok : Bool) (bits : Nat) (b : List UInt8) (a : Nat) (e : Int) : Int × Nat × Int :=
  if ok = true then (if (decS (b.drop a) bits).2.2 ≠ 0 then (0, a, (decS (b.drop a) bits).2.2) else ((decS (b.drop a) bits).1, a + (decS (b.drop a) bits).2.1, e)) else (0, a, e)
def rCount (ok : Bool) (b : List UInt8) (a : Nat) (e most : Int) : Nat × Nat × Int :=
  if ok = true then (if (rU true 32 b a e).2.2 = 0 ∧ ((rU true 32 b a e).1 : Int) > most then (0, a, 6) else rU true 32 b a e) else (0, a, e)

theorem decU_lt (b : List UInt8) (bits : Nat) (h : 1 ≤ bits ∧ bits ≤ 64) : (decU b bits).1 < 2 ^ bits := by
  have hp := Nat.two_pow_pos bits
  unfold decU
  split
  · exact hp
  split
  · exact hp
  rename_i h1 h2
  rcases lst_cases b bits with ⟨g1, g2, g3, g4⟩ | ⟨g1, g2⟩
  · refine Nat.lt_of_le_of_lt (Nat.mod_le _ _) ?_
    by_cases hq : lstI b bits + 1 = mst bits
    · rw [val7_take g2]
      have hv := val7_take_lt (b := b) (i := lstI b bits) (Nat.le_of_lt g2)
      have h3 : (nth b (lstI b bits)).toNat / 2 ^ (bits - 7 * lstI b bits) = 0 := by
        have := Classical.not_not.1 h2
        rw [cnt, if_pos hq] at this
        exact this
      have h4 : (nth b (lstI b bits)).toNat < 2 ^ (bits - 7 * lstI b bits) := by
        rcases Nat.div_eq_zero_iff.1 h3 with h | h
        · exact absurd h (Nat.pos_iff_ne_zero.1 (Nat.two_pow_pos _))
        · exact h
      have h5 : 7 * lstI b bits ≤ bits := by unfold mst at hq; omega
      have e : 2 ^ bits = 2 ^ (bits - 7 * lstI b bits) * 2 ^ (7 * lstI b bits) := by rw [← Nat.pow_add, Nat.sub_add_cancel h5]
      rw [e]
      have h6 : (nth b (lstI b bits)).toNat % 128 + 1 ≤ 2 ^ (bits - 7 * lstI b bits) := Nat.lt_of_le_of_lt (Nat.mod_le _ _) h4
      have h7 := Nat.mul_le_mul_right (2 ^ (7 * lstI b bits)) h6
      rw [Nat.add_mul, Nat.one_mul] at h7
      omega
    · have hv := val7_take_lt (b := b) (i := lstI b bits + 1) (by omega)
      have h5 : 7 * (lstI b bits + 1) ≤ bits := by unfold mst at *; omega
      exact Nat.lt_of_lt_of_le hv (Nat.pow_le_pow_right (by decide) h5)
  · rcases g1 with g1 | g1 <;> rw [g1] at h1 <;> exact absurd (by decide) h1
theorem decU_k (b : List UInt8) (bits : Nat) : (decU b bits).2.1 ≤ b.length := by
  unfold decU
  split
  · exact Nat.zero_le _
  split
  · exact Nat.zero_le _
  rename_i h1 h2
  rcases lst_cases b bits with ⟨g1, g2, g3, g4⟩ | ⟨g1, g2⟩
  · exact g2
  · rcases g1 with g1 | g1 <;> rw [g1] at h1 <;> exact absurd (by decide) h1
theorem decS_k (b : List UInt8) (bits : Nat) : (decS b bits).2.1 ≤ b.length := by
  unfold decS
  split
  · exact Nat.zero_le _
  split
  · exact Nat.zero_le _
  rename_i h1 h2
  rcases lst_cases b bits with ⟨g1, g2, g3, g4⟩ | ⟨g1, g2⟩
  · exact g2
  · rcases g1 with g1 | g1 <;> rw [g1] at h1 <;> exact absurd (by decide) h1
theorem rTake_a {ok : Bool} {b : List UInt8} {a : Nat} {e n : Int} (h : a ≤ b.length) : (rTake ok b a e n).2.1 ≤ b.length := by
  unfold rTake
  repeat' split
  all_goals first | exact h | (simp only; omega)
theorem rU_a {ok : Bool} {bits : Nat} {b : List UInt8} {a : Nat} {e : Int} (h : a ≤ b.length) : (rU ok bits b a e).2.1 ≤ b.length := by
  have := decU_k (b.drop a) bits
  simp only [List.length_drop] at this
  unfold rU
  repeat' split
  all_goals first | exact h | (simp only; omega)
theorem rS_a {ok : Bool} {bits : Nat} {b : List UInt8} {a : Nat} {e : Int} (h : a ≤ b.length) : (rS ok bits b a e).2.1 ≤ b.length := by
  have := decS_k (b.drop a) bits
  simp only [List.length_drop] at this
  unfold rS
  repeat' split
  all_goals first | exact h | (simp only; omega)
theorem rU_lt (ok : Bool) (b : List UInt8) (a : Nat) (e : Int) : (rU ok 32 b a e).1 < 4294967296 := by
  have := decU_lt (b.drop a) 32 (by decide)
  unfold rU
  repeat' split
  all_goals first | exact this | exact (by decide : (0 : Nat) < 4294967296)
end Go.Proofs.YtkejmhpodhbeeaaDoor
