/-
  Chapter 1 and 2 in plain Lean: bytes, LEB128.
-/
import Derived.Test.YtdhiiannngjjpaaDoorQd
import Derived.Shelf.Unicode.DecodeSlow
import Derived.Test.YtdhiiannngjjpaaDoorQc
set_option linter.unusedVariables false
set_option linter.unusedSimpArgs false
set_option linter.unusedSectionVars false
set_option linter.unusedVariables false
namespace Go.Proofs.YtdhiiannngjjpaaDoor
open Go Go.Mw

def by_ (b : UInt8) : List AV := [.int .u8 b.toNat]
theorem by_e (b : UInt8) : by_ b = [.int .u8 b.toNat] := rfl
attribute [go_sem] by_e
def lst (b : List UInt8) : Nat → Nat → Int × Nat
  | 0, _ => (4, 0)
  | f + 1, i => if i ≥ b.length then (3, 0) else if 128 ≤ (nth b i).toNat then lst b f (i + 1) else (0, i)
def mst (bits : Nat) : Nat := (bits + 6) / 7
def lstE (b : List UInt8) (bits : Nat) : Int := (lst b (mst bits) 0).1
def lstI (b : List UInt8) (bits : Nat) : Nat := (lst b (mst bits) 0).2
def cnt (bits i : Nat) : Nat := if i + 1 = mst bits then bits - 7 * i else 7
def val7 : List UInt8 → Nat
  | [] => 0
  | b :: r => b.toNat % 128 + 128 * val7 r
theorem lst_spec (b : List UInt8) : ∀ f i, i ≤ b.length → ((lst b f i).1 = 0 ∧ (lst b f i).2 < b.length ∧ i ≤ (lst b f i).2 ∧ (lst b f i).2 < i + f ∧ (nth b (lst b f i).2).toNat < 128) ∨ ((lst b f i).1 = 3 ∨ (lst b f i).1 = 4) ∧ (lst b f i).2 = 0
  | 0, i, _ => .inr ⟨.inr rfl, rfl⟩
  | f + 1, i, hi => by
    simp only [lst]
    by_cases h1 : i ≥ b.length
    · rw [if_pos h1]; exact .inr ⟨.inl rfl, rfl⟩
    · rw [if_neg h1]
      by_cases h2 : 128 ≤ (nth b i).toNat
      · rw [if_pos h2]
        rcases lst_spec b f (i + 1) (by omega) with ⟨g1, g2, g3, g4, g5⟩ | h
        · exact .inl ⟨g1, g2, by omega, by omega, g5⟩
        · exact .inr h
      · rw [if_neg h2]; exact .inl ⟨rfl, by simp; omega, by simp, by simp, by simp; omega⟩
theorem lst_cases (b : List UInt8) (bits : Nat) : (lstE b bits = 0 ∧ lstI b bits < b.length ∧ lstI b bits < mst bits ∧ (nth b (lstI b bits)).toNat < 128) ∨ (lstE b bits = 3 ∨ lstE b bits = 4) ∧ lstI b bits = 0 := by
  rcases lst_spec b (mst bits) 0 (Nat.zero_le _) with ⟨g1, g2, g3, g4, g5⟩ | h
  · exact .inl ⟨g1, g2, by rw [Nat.zero_add] at g4; exact g4, g5⟩
  · exact .inr h
end Go.Proofs.YtdhiiannngjjpaaDoor
set_option linter.unusedVariables false
namespace Go.Proofs.YtdhiiannngjjpaaDoor
open Go Go.Mw

theorem w_u8 (n : Int) : IntKind.u8.wrap n = n % 256 := by simp [IntKind.wrap, IntKind.bits, IntKind.signed]
theorem w_u64 (n : Int) : IntKind.u64.wrap n = n % 18446744073709551616 := by simp [IntKind.wrap, IntKind.bits, IntKind.signed]
theorem w_i64 (n : Int) : IntKind.i64.wrap n = (n + 9223372036854775808) % 18446744073709551616 - 9223372036854775808 := by
  simp [IntKind.wrap, IntKind.bits, IntKind.signed]
  split <;> omega
theorem w_i32 (n : Int) : IntKind.i32.wrap n = (n + 2147483648) % 4294967296 - 2147483648 := by
  simp [IntKind.wrap, IntKind.bits, IntKind.signed]
  split <;> omega

theorem bv_nat (k : Nat) (a : Nat) : BitVec.ofInt k (a : Int) = BitVec.ofNat k a := BitVec.ofInt_natCast k a
theorem or_nat {k a b : Nat} (ha : a < 2 ^ k) (hb : b < 2 ^ k) : (BitVec.ofInt k (a : Int) ||| BitVec.ofInt k (b : Int)).toNat = a ||| b := by
  rw [bv_nat, bv_nat, BitVec.toNat_or, BitVec.toNat_ofNat, BitVec.toNat_ofNat, Nat.mod_eq_of_lt ha, Nat.mod_eq_of_lt hb]
theorem and_nat {k a b : Nat} (ha : a < 2 ^ k) (hb : b < 2 ^ k) : (BitVec.ofInt k (a : Int) &&& BitVec.ofInt k (b : Int)).toNat = a &&& b := by
  rw [bv_nat, bv_nat, BitVec.toNat_and, BitVec.toNat_ofNat, BitVec.toNat_ofNat, Nat.mod_eq_of_lt ha, Nat.mod_eq_of_lt hb]

theorem and127 {x : Nat} (hx : x < 256) : b_and .u8 (x : Int) 127 = ((x % 128 : Nat) : Int) := by
  have : (BitVec.ofInt 8 (x : Int) &&& BitVec.ofInt 8 ((127 : Nat) : Int)).toNat = x &&& 127 := and_nat hx (by decide)
  show IntKind.u8.wrap ((BitVec.ofInt 8 (x : Int) &&& BitVec.ofInt 8 ((127 : Nat) : Int)).toNat) = _
  rw [this, show (127 : Nat) = 2 ^ 7 - 1 from rfl, Nat.and_two_pow_sub_one_eq_mod, w_u8]
  omega
set_option maxRecDepth 100000 in
theorem or128n {x : Nat} (hx : x < 256) : x ||| 128 = x % 128 + 128 := by
  have key : ∀ y : Fin 256, y.val ||| 128 = y.val % 128 + 128 := by decide
  exact key ⟨x, hx⟩
theorem or128 {x : Nat} (hx : x < 256) : b_or .u8 (x : Int) 128 = ((x % 128 + 128 : Nat) : Int) := by
  have : (BitVec.ofInt 8 (x : Int) ||| BitVec.ofInt 8 ((128 : Nat) : Int)).toNat = x ||| 128 := or_nat hx (by decide)
  show IntKind.u8.wrap ((BitVec.ofInt 8 (x : Int) ||| BitVec.ofInt 8 ((128 : Nat) : Int)).toNat) = _
  rw [this, or128n hx, w_u8]
  omega
theorem shl64 {y s : Nat} (hs : s < 64) : b_shl .u64 (y : Int) (s : Int) = ((y * 2 ^ s % 18446744073709551616 : Nat) : Int) := by
  unfold b_shl
  rw [Int.toNat_natCast, show min s IntKind.u64.bits = s from Nat.min_eq_left (by show s ≤ 64; omega), w_u64, Int.natCast_emod (_ * _), Int.natCast_mul, Int.natCast_pow]
  rfl
theorem or_shift {n y s : Nat} (hs : s < 64) (hn : n < 2 ^ s) : b_or .u64 (n : Int) (((y * 2 ^ s) % 18446744073709551616 : Nat) : Int) = (((n + y * 2 ^ s) % 18446744073709551616 : Nat) : Int) := by
  have hp : 2 ^ s ≤ 2 ^ 63 := Nat.pow_le_pow_right (by decide) (by omega)
  have e64 : 18446744073709551616 = 2 ^ s * 2 ^ (64 - s) := by rw [← Nat.pow_add, show s + (64 - s) = 64 by omega]
  have hm : (y * 2 ^ s) % 18446744073709551616 = 2 ^ s * (y % 2 ^ (64 - s)) := by rw [e64, Nat.mul_comm y, Nat.mul_mod_mul_left]
  have hlt : y % 2 ^ (64 - s) < 2 ^ (64 - s) := Nat.mod_lt _ (Nat.two_pow_pos _)
  have hsum : 2 ^ s * (y % 2 ^ (64 - s)) + n < 18446744073709551616 := by
    rw [e64]
    have h1 : 2 ^ s * (y % 2 ^ (64 - s) + 1) ≤ 2 ^ s * 2 ^ (64 - s) := Nat.mul_le_mul_left _ hlt
    rw [Nat.mul_add, Nat.mul_one] at h1
    omega
  have h1 : (BitVec.ofInt 64 (n : Int) ||| BitVec.ofInt 64 (((y * 2 ^ s) % 18446744073709551616 : Nat) : Int)).toNat = n ||| ((y * 2 ^ s) % 18446744073709551616) :=
    or_nat (by omega) (Nat.mod_lt _ (by decide))
  show IntKind.u64.wrap ((BitVec.ofInt 64 (n : Int) ||| BitVec.ofInt 64 (((y * 2 ^ s) % 18446744073709551616 : Nat) : Int)).toNat) = _
  rw [h1, hm, Nat.or_comm, ← Nat.two_pow_add_eq_or_of_lt hn, w_u64]
  have h2 : (n + y * 2 ^ s) % 18446744073709551616 = 2 ^ s * (y % 2 ^ (64 - s)) + n := by
    rw [Nat.add_mod, hm, Nat.mod_eq_of_lt (show n < 18446744073709551616 by omega), Nat.mod_eq_of_lt (by omega)]
    omega
  rw [h2]
  omega

theorem val7_app (l m : List UInt8) : val7 (l ++ m) = val7 l + 128 ^ l.length * val7 m := by
  induction l with
  | nil => simp [val7]
  | cons b l ih =>
    simp only [List.cons_append, val7, ih, List.length_cons, Nat.pow_succ, Nat.mul_add]
    rw [Nat.mul_comm (128 ^ l.length) 128, Nat.mul_assoc]
    omega
theorem val7_lt (l : List UInt8) : val7 l < 128 ^ l.length := by
  induction l with
  | nil => simp [val7]
  | cons b l ih =>
    simp only [val7, List.length_cons, Nat.pow_succ]
    have := Nat.mod_lt b.toNat (show 128 > 0 by decide)
    omega
theorem val7_take {b : List UInt8} {i : Nat} (h : i < b.length) : val7 (b.take (i + 1)) = val7 (b.take i) + (nth b i).toNat % 128 * 2 ^ (7 * i) := by
  rw [List.take_add_one, nth_some h, Option.toList_some, val7_app]
  simp only [val7, Nat.mul_zero, Nat.add_zero, List.length_take, Nat.min_eq_left (Nat.le_of_lt h)]
  rw [show (128 : Nat) = 2 ^ 7 from rfl, ← Nat.pow_mul, Nat.mul_comm (2 ^ (7 * i))]
theorem val7_take_lt {b : List UInt8} {i : Nat} (h : i ≤ b.length) : val7 (b.take i) < 2 ^ (7 * i) := by
  have := val7_lt (b.take i)
  rw [List.length_take, Nat.min_eq_left h, show (128 : Nat) = 2 ^ 7 from rfl, ← Nat.pow_mul] at this
  exact this
end Go.Proofs.YtdhiiannngjjpaaDoor
set_option linter.unusedVariables false
namespace Go.Proofs.YtdhiiannngjjpaaDoor
open Go Go.Mw

theorem shr_nat (k : IntKind) {x s : Nat} (hs : s ≤ k.bits) : b_shr k (x : Int) (s : Int) = ((x / 2 ^ s : Nat) : Int) := by
  unfold b_shr
  rw [Int.toNat_natCast, Nat.min_eq_left hs, Int.fdiv_eq_ediv_of_nonneg _ (by exact Int.le_of_lt (Int.pow_pos (by decide)))]
  rw [Int.natCast_ediv, Int.natCast_pow]
  rfl
set_option maxRecDepth 100000 in
theorem and64n {x : Nat} (hx : x < 256) : (x &&& 64 != 0) = decide (64 ≤ x % 128) := by
  have key : ∀ y : Fin 256, (y.val &&& 64 != 0) = decide (64 ≤ y.val % 128) := by decide
  exact key ⟨x, hx⟩
theorem and64 {x : Nat} (hx : x < 256) : (b_and .u8 (x : Int) 64 != 0) = decide (64 ≤ x % 128) := by
  have : (BitVec.ofInt 8 (x : Int) &&& BitVec.ofInt 8 ((64 : Nat) : Int)).toNat = x &&& 64 := and_nat hx (by decide)
  have e : b_and .u8 (x : Int) 64 = ((x &&& 64 : Nat) : Int) := by
    show IntKind.u8.wrap ((BitVec.ofInt 8 (x : Int) &&& BitVec.ofInt 8 ((64 : Nat) : Int)).toNat) = _
    rw [this, w_u8]
    have : x &&& 64 ≤ 64 := Nat.and_le_right
    omega
  rw [e, ← and64n hx]
  by_cases h : x &&& 64 = 0
  · simp [h]
  · have h1 : ((x &&& 64 : Nat) : Int) ≠ 0 := by omega
    simp only [bne, beq_eq_false_iff_ne.2 h1, beq_eq_false_iff_ne.2 h]

def decU (b : List UInt8) (bits : Nat) : Nat × Nat × Int :=
  if lstE b bits ≠ 0 then (0, 0, lstE b bits) else
  if (nth b (lstI b bits)).toNat / 2 ^ cnt bits (lstI b bits) ≠ 0 then (0, 0, 4) else
  (val7 (b.take (lstI b bits + 1)) % 18446744073709551616, lstI b bits + 1, 0)
def sgn (b : List UInt8) (i : Nat) : Int := IntKind.i64.wrap ((val7 (b.take (i + 1)) : Int) - (if 64 ≤ (nth b i).toNat % 128 then 2 ^ (7 * (i + 1)) else 0))
def decS (b : List UInt8) (bits : Nat) : Int × Nat × Int :=
  if lstE b bits ≠ 0 then (0, 0, lstE b bits) else
  if (nth b (lstI b bits)).toNat / 2 ^ (cnt bits (lstI b bits) - 1) ≠ 0 ∧ (nth b (lstI b bits)).toNat / 2 ^ (cnt bits (lstI b bits) - 1) ≠ 127 / 2 ^ (cnt bits (lstI b bits) - 1) then (0, 0, 4) else
  (sgn b (lstI b bits), lstI b bits + 1, 0)

theorem cnt_le {bits i : Nat} (h : 1 ≤ bits ∧ bits ≤ 64) (hi : i < mst bits) : 1 ≤ cnt bits i ∧ cnt bits i ≤ 7 := by
  unfold cnt mst at *
  split <;> omega
theorem mst_le {bits : Nat} (h : 1 ≤ bits ∧ bits ≤ 64) : mst bits ≤ 10 := by unfold mst; omega
theorem i64_congr {a b : Int} (h : a % 18446744073709551616 = b % 18446744073709551616) : IntKind.i64.wrap a = IntKind.i64.wrap b := by
  rw [w_i64, w_i64]; omega
end Go.Proofs.YtdhiiannngjjpaaDoor
set_option linter.unusedVariables false
namespace Go.Proofs.YtdhiiannngjjpaaDoor
open Go Go.Mw

def slv : Option (List UInt8) → AV
  | none => .nl
  | some l => .sl 1 (l.map by_)
theorem slv_ids (o : Option (List UInt8)) : idsV (slv o) = [] := by cases o <;> rfl
theorem slv_none : slv none = .nl := rfl
theorem slv_some (l : List UInt8) : slv (some l) = .sl 1 (l.map by_) := rfl
attribute [go_sem] slv_none slv_some
def rTake (ok : Bool) (b : List UInt8) (a : Nat) (e n : Int) : Option (List UInt8) × Nat × Int :=
  if ok = true then (if n < 0 then (none, a, 1) else if n > (b.length : Int) - a then (none, a, 3) else (some ((b.drop a).take n.toNat), a + n.toNat, e)) else (none, a, e)
def rByte (ok : Bool) (b : List UInt8) (a : Nat) (e : Int) : UInt8 × Nat × Int :=
  if ok = true then (if (b.length : Int) - a < 1 then (0, a, 3) else (nth b a, a + 1, e)) else (0, a, e)
def rU (ok : Bool) (bits : Nat) (b : List UInt8) (a : Nat) (e : Int) : Nat × Nat × Int :=
  if ok = true then (if (decU (b.drop a) bits).2.2 ≠ 0 then (0, a, (decU (b.drop a) bits).2.2) else ((decU (b.drop a) bits).1, a + (decU (b.drop a) bits).2.1, e)) else (0, a, e)
def rS (ok : Bool) (bits : Nat) (b : List UInt8) (a : Nat) (e : Int) : Int × Nat × Int :=
  if ok = true then (if (decS (b.drop a) bits).2.2 ≠ 0 then (0, a, (decS (b.drop a) bits).2.2) else ((decS (b.drop a) bits).1, a + (decS (b.drop a) bits).2.1, e)) else (0, a, e)
def rCount (ok : Bool) (b : List UInt8) (a : Nat) (e most : Int) : Nat × Nat × Int :=
  if ok = true then (if (rU true 32 b a e).2.2 = 0 ∧ ((rU true 32 b a e).1 : Int) > most then (0, a, 6) else rU true 32 b a e) else (0, a, e)

theorem decU_lt (b : List UInt8) (bits : Nat) (h : 1 ≤ bits ∧ bits ≤ 64) : (decU b bits).1 < 2 ^ bits := by
  have hp := Nat.two_pow_pos bits
  unfold decU
  split
  · exact hp
  split
  · exact hp
  rename_i h1 h2
  rcases lst_cases b bits with ⟨g1, g2, g3, g4⟩ | ⟨g1, g2⟩
  · refine Nat.lt_of_le_of_lt (Nat.mod_le _ _) ?_
    by_cases hq : lstI b bits + 1 = mst bits
    · rw [val7_take g2]
      have hv := val7_take_lt (b := b) (i := lstI b bits) (Nat.le_of_lt g2)
      have h3 : (nth b (lstI b bits)).toNat / 2 ^ (bits - 7 * lstI b bits) = 0 := by
        have := Classical.not_not.1 h2
        rw [cnt, if_pos hq] at this
        exact this
      have h4 : (nth b (lstI b bits)).toNat < 2 ^ (bits - 7 * lstI b bits) := by
        rcases Nat.div_eq_zero_iff.1 h3 with h | h
        · exact absurd h (Nat.pos_iff_ne_zero.1 (Nat.two_pow_pos _))
        · exact h
      have h5 : 7 * lstI b bits ≤ bits := by unfold mst at hq; omega
      have e : 2 ^ bits = 2 ^ (bits - 7 * lstI b bits) * 2 ^ (7 * lstI b bits) := by rw [← Nat.pow_add, Nat.sub_add_cancel h5]
      rw [e]
      have h6 : (nth b (lstI b bits)).toNat % 128 + 1 ≤ 2 ^ (bits - 7 * lstI b bits) := Nat.lt_of_le_of_lt (Nat.mod_le _ _) h4
      have h7 := Nat.mul_le_mul_right (2 ^ (7 * lstI b bits)) h6
      rw [Nat.add_mul, Nat.one_mul] at h7
      omega
    · have hv := val7_take_lt (b := b) (i := lstI b bits + 1) (by omega)
      have h5 : 7 * (lstI b bits + 1) ≤ bits := by unfold mst at *; omega
      exact Nat.lt_of_lt_of_le hv (Nat.pow_le_pow_right (by decide) h5)
  · rcases g1 with g1 | g1 <;> rw [g1] at h1 <;> exact absurd (by decide) h1
theorem decU_k (b : List UInt8) (bits : Nat) : (decU b bits).2.1 ≤ b.length := by
  unfold decU
  split
  · exact Nat.zero_le _
  split
  · exact Nat.zero_le _
  rename_i h1 h2
  rcases lst_cases b bits with ⟨g1, g2, g3, g4⟩ | ⟨g1, g2⟩
  · exact g2
  · rcases g1 with g1 | g1 <;> rw [g1] at h1 <;> exact absurd (by decide) h1
theorem decS_k (b : List UInt8) (bits : Nat) : (decS b bits).2.1 ≤ b.length := by
  unfold decS
  split
  · exact Nat.zero_le _
  split
  · exact Nat.zero_le _
  rename_i h1 h2
  rcases lst_cases b bits with ⟨g1, g2, g3, g4⟩ | ⟨g1, g2⟩
  · exact g2
  · rcases g1 with g1 | g1 <;> rw [g1] at h1 <;> exact absurd (by decide) h1
theorem rU_lt (ok : Bool) (b : List UInt8) (a : Nat) (e : Int) : (rU ok 32 b a e).1 < 4294967296 := by
  have := decU_lt (b.drop a) 32 (by decide)
  unfold rU
  repeat' split
  all_goals first | exact this | exact (by decide : (0 : Nat) < 4294967296)
end Go.Proofs.YtdhiiannngjjpaaDoor
set_option linter.unusedVariables false
namespace Go.Proofs.YtdhiiannngjjpaaDoor
open Go Go.Mw

def putU (n : Nat) : List UInt8 := if n < 128 then [UInt8.ofNat n] else UInt8.ofNat (n % 128 + 128) :: putU (n / 128)
termination_by n
decreasing_by omega
def putS (n : Int) : List UInt8 := if -64 ≤ n ∧ n ≤ 63 then [UInt8.ofNat (n % 128).toNat] else UInt8.ofNat ((n % 128).toNat + 128) :: putS (n / 128)
termination_by n.natAbs
decreasing_by omega
theorem putU_lo {n : Nat} (h : n < 128) : putU n = [UInt8.ofNat n] := by rw [putU, if_pos h]
theorem putU_hi {n : Nat} (h : ¬ n < 128) : putU n = UInt8.ofNat (n % 128 + 128) :: putU (n / 128) := by rw [putU, if_neg h]
theorem putS_lo {n : Int} (h : -64 ≤ n ∧ n ≤ 63) : putS n = [UInt8.ofNat (n % 128).toNat] := by rw [putS, if_pos h]
theorem putS_hi {n : Int} (h : ¬ (-64 ≤ n ∧ n ≤ 63)) : putS n = UInt8.ofNat ((n % 128).toNat + 128) :: putS (n / 128) := by rw [putS, if_neg h]
theorem ofNat_toNat {n : Nat} (h : n < 256) : (UInt8.ofNat n).toNat = n := by simp [UInt8.toNat_ofNat', Nat.mod_eq_of_lt h]
theorem by_of {n : Nat} (h : n < 256) : by_ (UInt8.ofNat n) = [.int .u8 n] := by rw [by_e, ofNat_toNat h]
theorem putU_len {k : Nat} : ∀ {n : Nat}, n < 128 ^ (k + 1) → (putU n).length ≤ k + 1 := by
  induction k with
  | zero => intro n h; rw [putU_lo (by simpa using h)]; simp
  | succ k ih =>
    intro n h
    by_cases h1 : n < 128
    · rw [putU_lo h1]; simp
    · rw [putU_hi h1]
      have := ih (n := n / 128) (by rw [Nat.pow_succ] at h; omega)
      simp; omega
theorem putU_pos (n : Nat) : 0 < (putU n).length := by
  by_cases h1 : n < 128
  · rw [putU_lo h1]; simp
  · rw [putU_hi h1]; simp
end Go.Proofs.YtdhiiannngjjpaaDoor
set_option linter.unusedSimpArgs false
set_option maxRecDepth 100000
set_option maxHeartbeats 4000000
set_option linter.unusedVariables false
namespace Go.Proofs.YtdhiiannngjjpaaDoor
open Go Go.Mw

theorem s_PutU (n : Nat) (hn : n < 18446744073709551616) : PCalls Tryd.prog n_leb_PutU [.nl, .int .u64 n] (.sl 1 ((putU n).map by_)) := by
  refine pfun_sound (ic := F_leb_PutU.body) mixed c_leb_PutU rfl rfl ?_
  simp only [F_leb_PutU, go_sem]
  have a0 : appO 6 5 1 0 0 [] (some ⟨5, 1, [], false⟩) = some (.ms 6 1 0 0, .reb 6 ⟨5, 1, [], false⟩) := rfl
  simp only [go_sem, a0]
  refine loop_rule (fun q : List UInt8 × Nat => ⟨[(5, .ms 6 1 0 q.1.length), (1, .int .u64 q.2)], [(6, ⟨5, 1, q.1.map by_, false⟩)]⟩) (fun q => q.1 ++ putU q.2 = putU n ∧ q.2 ≤ n) (fun q => q.2) ([], n) ⟨rfl, Nat.le_refl _⟩ (Wk.of ?_ ?_) ?_
  · simp [go_sem]
  · simp [go_sem]
  rintro ⟨acc, m⟩ ⟨hq, hm⟩
  replace hq : acc ++ putU m = putU n := hq
  replace hm : m ≤ n := hm
  have hlen : acc.length + (putU m).length ≤ 10 := by
    have := putU_len (k := 9) (n := n) (by omega)
    rw [← hq] at this
    simpa using this
  have w1 : IntKind.u8.wrap (m : Int) = ((m % 256 : Nat) : Int) := by rw [w_u8]; omega
  have happ := fun ys => appO_map 6 5 1 acc.length by_ acc ys rfl
  by_cases h1 : m < 128
  · have d1 : decide ((m : Int) ≥ 128) = false := by simp; omega
    simp only [go_sem, d1, w1, happ]
    refine ⟨by omega, pdone [6] ?_ rfl⟩
    have e1 : m % 256 = m := by omega
    simp only [go_sem, w1, ← hq, putU_lo h1, List.map_append, by_of (show m < 256 by omega), e1]
    simp
    exact List.take_of_length_le (by simp)
  · have d1 : decide ((m : Int) ≥ 128) = true := by simp; omega
    have w2 := or128 (x := m % 256) (by omega)
    have e1 : m % 256 % 128 = m % 128 := by omega
    have w3 : b_shr .u64 (m : Int) 7 = ((m / 128 : Nat) : Int) := shr_nat .u64 (x := m) (s := 7) (by decide)
    simp only [go_sem, d1, w1, w2, e1, happ]
    refine ⟨by omega, by decide, klp_n (acc ++ [UInt8.ofNat (m % 128 + 128)], m / 128) ⟨by rw [List.append_assoc, ← hq, putU_hi h1]; rfl, by omega⟩ (show m / 128 < m by omega) (Wk.of ?_ ?_)⟩
    · simp only [go_sem, w3, List.length_append, List.length_singleton]
    · simp only [go_sem, List.map_append, by_of (show m % 128 + 128 < 256 by omega)]

theorem i64_shr (n : Int) : b_shr .i64 n 7 = n / 128 := by
  unfold b_shr
  rw [show min (7 : Int).toNat IntKind.i64.bits = 7 from rfl, Int.fdiv_eq_ediv_of_nonneg _ (by decide)]
  rfl
theorem putS_len {k : Nat} : ∀ {n : Int}, -(64 * 128 ^ k : Int) ≤ n → n < 64 * 128 ^ k → (putS n).length ≤ k + 1 := by
  induction k with
  | zero => intro n h1 h2; rw [putS_lo (by omega)]; simp
  | succ k ih =>
    intro n h1 h2
    by_cases h : -64 ≤ n ∧ n ≤ 63
    · rw [putS_lo h]; simp
    · rw [putS_hi h]
      rw [Int.pow_succ] at h1 h2
      generalize (128 : Int) ^ k = p at *
      have := ih (n := n / 128) (by omega) (by omega)
      simp; omega

theorem s_PutS (n : Int) (hn : -9223372036854775808 ≤ n ∧ n < 9223372036854775808) : PCalls Tryd.prog n_leb_PutS [.nl, .int .i64 n] (.sl 1 ((putS n).map by_)) := by
  refine pfun_sound (ic := F_leb_PutS.body) mixed c_leb_PutS rfl rfl ?_
  have a0 : appO 6 5 1 0 0 [] (some ⟨5, 1, [], false⟩) = some (.ms 6 1 0 0, .reb 6 ⟨5, 1, [], false⟩) := rfl
  simp only [F_leb_PutS, go_sem, a0]
  refine loop_rule (fun q : List UInt8 × Int => ⟨[(5, .ms 6 1 0 q.1.length), (1, .int .i64 q.2)], [(6, ⟨5, 1, q.1.map by_, false⟩)]⟩) (fun q => q.1 ++ putS q.2 = putS n ∧ -9223372036854775808 ≤ q.2 ∧ q.2 < 9223372036854775808) (fun q => q.2.natAbs) ([], n) ⟨rfl, hn⟩ (Wk.of ?_ ?_) ?_
  · simp [go_sem]
  · simp [go_sem]
  rintro ⟨acc, m⟩ ⟨hq, hm⟩
  replace hq : acc ++ putS m = putS n := hq
  replace hm : -9223372036854775808 ≤ m ∧ m < 9223372036854775808 := hm
  have hlen : acc.length + (putS m).length ≤ 10 := by
    have := putS_len (k := 9) (n := n) (by omega) (by omega)
    rw [← hq] at this
    simpa using this
  have w1 : IntKind.u8.wrap (m : Int) = (((m % 256).toNat : Nat) : Int) := by rw [w_u8]; omega
  have happ := fun ys => appO_map 6 5 1 acc.length by_ acc ys rfl
  have e1 : (m % 256).toNat % 128 = (m % 128).toNat := by omega
  by_cases h1 : -64 ≤ m ∧ m ≤ 63
  · have d1 : decide (m < -64) = false := by simp; omega
    have d2 : decide (m > 63) = false := by simp; omega
    have w2 := and127 (x := (m % 256).toNat) (by omega)
    simp only [go_sem, d1, d2, w1, w2, e1, happ]
    refine ⟨by omega, pdone [6] ?_ rfl⟩
    simp only [go_sem, ← hq, putS_lo h1, List.map_append, by_of (show (m % 128).toNat < 256 by omega), List.length_singleton]
    simp
    exact List.take_of_length_le (by simp)
  · have w2 := or128 (x := (m % 256).toNat) (by omega)
    have w3 := i64_shr m
    have fin : ∀ s : St, leE s.env [(5, .ms 6 1 0 (acc.length + 1)), (1, .int .i64 (m / 128))] → leH s.heap [(6, ⟨5, 1, acc.map by_ ++ [[.int .u8 (((m % 128).toNat + 128 : Nat) : Int)]], false⟩)] →
        ∀ K, klp (fun q : List UInt8 × Int => ⟨[(5, .ms 6 1 0 q.1.length), (1, .int .i64 q.2)], [(6, ⟨5, 1, q.1.map by_, false⟩)]⟩) (fun q => q.1 ++ putS q.2 = putS n ∧ -9223372036854775808 ≤ q.2 ∧ q.2 < 9223372036854775808) (fun q => q.2.natAbs) (acc, m) K .nrm s := fun s hs1 hs2 K => by
      refine klp_n (acc ++ [UInt8.ofNat ((m % 128).toNat + 128)], m / 128) ⟨by rw [List.append_assoc, ← hq, putS_hi h1]; rfl, by show _ ≤ m / 128; omega, by show m / 128 < _; omega⟩ (show (m / 128).natAbs < m.natAbs by omega) (Wk.of ?_ ?_)
      · simpa only [List.length_append, List.length_singleton] using hs1
      · simpa only [List.map_append, List.map_cons, List.map_nil, by_of (show (m % 128).toNat + 128 < 256 by omega)] using hs2
    by_cases h2 : m < -64
    · have d1 : decide (m < -64) = true := by simp; omega
      simp only [go_sem, d1, w1, w2, e1, happ]
      refine ⟨by omega, by decide, fin _ ?_ ?_ _⟩
      · simp only [go_sem, w3]
      · simp only [go_sem]
    · have d1 : decide (m < -64) = false := by simp; omega
      have d2 : decide (m > 63) = true := by simp; omega
      simp only [go_sem, d1, d2, w1, w2, e1, happ]
      refine ⟨by omega, by decide, fin _ ?_ ?_ _⟩
      · simp only [go_sem, w3]
      · simp only [go_sem]
end Go.Proofs.YtdhiiannngjjpaaDoor
set_option linter.unusedVariables false
namespace Go.Proofs.YtdhiiannngjjpaaDoor
open Go Go.Mw

end Go.Proofs.YtdhiiannngjjpaaDoor
set_option linter.unusedSimpArgs false
set_option maxRecDepth 100000
set_option maxHeartbeats 4000000
set_option linter.unusedVariables false
namespace Go.Proofs.YtdhiiannngjjpaaDoor
open Go Go.Mw

end Go.Proofs.YtdhiiannngjjpaaDoor
set_option linter.unusedSimpArgs false
set_option maxRecDepth 100000
set_option maxHeartbeats 8000000
set_option linter.unusedVariables false
namespace Go.Proofs.YtdhiiannngjjpaaDoor
open Go Go.Mw

end Go.Proofs.YtdhiiannngjjpaaDoor
set_option linter.unusedSimpArgs false
set_option maxRecDepth 100000
set_option maxHeartbeats 4000000
set_option linter.unusedVariables false
namespace Go.Proofs.YtdhiiannngjjpaaDoor
open Go Go.Mw

def wo (q : Nat) (m : Bool) (l : List UInt8) (e : Int) : AObj := ⟨54, 3, [[.bool m, .ms q 1 0 l.length, .int .i64 e]], true⟩
def wa (l : List UInt8) : AObj := ⟨5, 1, l.map by_, false⟩
def WM (f : FuncId) (rest : List AV) (m : Bool) (l : List UInt8) (e : Int) (r : AV) (l' : List UInt8) (e' : Int) : Prop :=
  ACalls Tryd.prog f (.mp 1000 3 0 0 :: rest) [(1000, wo 2000 m l e), (2000, wa l)] sb (fun r' σ' => r' = r ∧ σ' = [(1000, wo 2000 m l' e'), (2000, wa l')])

theorem call_w {f : FuncId} {rest : List AV} {m : Bool} {l : List UInt8} {e : Int} {r : AV} {l' : List UInt8} {e' : Int} {k j : Nat} {args : List AV} {d : Option Nat} {s : St} {K : St → Prop} (fs : List Nat)
    (h : WM f rest m l e r l' e') (hk : k ≠ 2000) (hj : j ≠ 1000) (hkj : k ≠ j) (hj2 : j < 1000 ∨ 2000 ≤ j) (hr : idsV r = []) (hrest : ∀ x ∈ rest, idsV x = [])
    (ha : args.map (frzVs fs s) = .mp k 3 0 0 :: rest) (h1 : hget (frzs fs s).heap k = some (wo j m l e)) (h2 : hget (frzs fs s).heap j = some (wa l))
    (hK : K ((St.mk (purE j (frzs fs s).env) ((k, wo j m l' e') :: (j, wa l') :: purH j (frzs fs s).heap)).put d r)) : icall Tryd.prog f args d s K := by
  have e1 : fw [(1000, k), (2000, j)] 2000 = j := by
    simp only [fw]; unfold swp
    by_cases q : (2000 : Nat) = k
    · exact absurd q.symm hk
    · simp [q]
  have e0 : fw [(1000, k), (2000, j)] 1000 = k := by
    simp only [fw]; unfold swp
    by_cases q : k = 2000
    · exact absurd q hk
    · simp [q, hkj]
  have b1 : bw [(1000, k), (2000, j)] j = 2000 := by have := bw_fw [(1000, k), (2000, j)] 2000; rwa [e1] at this
  have b0 : bw [(1000, k), (2000, j)] k = 1000 := by have := bw_fw [(1000, k), (2000, j)] 1000; rwa [e0] at this
  refine call_2 fs (ACalls.at2 (rk := wo j m l e) (rk' := wo j m l' e') h hk hj hkj hr hrest rfl rfl ?_ ?_) hkj ?_ hj2 ha h1 h2 hK
  · simp only [renO, wo, if_true, List.map_cons, List.map_nil, renC, renP, b1]
  · simp only [renO, wo, if_true, List.map_cons, List.map_nil, renC, renP, e1]
  · show sb (bw [(1000, k), (2000, j)] k)
    rw [b0]; exact ⟨by decide, by decide⟩

theorem s_wsound (m : Bool) (l : List UInt8) (e : Int) : WM n_Poctet_Writer_sound [] m l e (.bool (m && e == 0)) l e := by
  refine fun_sound (ic := F_Poctet_Writer_sound.body) mixed c_Poctet_Writer_sound rfl rfl ?_
  cases m
  · simp only [F_Poctet_Writer_sound, wo, wa, go_sem]
    exact done [] _ [(1000, wo 2000 false l e), (2000, wa l)] (by simp only [go_sem]) (by simp only [go_sem, wo, wa]) rfl ⟨rfl, rfl⟩
  · simp only [F_Poctet_Writer_sound, wo, wa, go_sem]
    exact done [] _ [(1000, wo 2000 true l e), (2000, wa l)] (by simp only [go_sem]) (by simp only [go_sem, wo, wa]) rfl ⟨rfl, rfl⟩
theorem s_wfail (m : Bool) (l : List UInt8) (e x : Int) : WM n_Poctet_Writer_Fail [.int .i64 x] m l e (.tup []) l (if (m && e == 0) = true then x else e) := by
  refine fun_sound (ic := F_Poctet_Writer_Fail.body) mixed c_Poctet_Writer_Fail rfl rfl ?_
  simp only [F_Poctet_Writer_Fail, wo, wa, go_sem]
  refine call_w [] (k := 1000) (j := 2000) (s_wsound m l e) (by decide) (by decide) (by decide) (by decide) rfl (by simp) (by rfl) (by rfl) (by rfl) ?_
  cases h : (m && e == 0)
  · simp only [go_sem, wo, wa]
    exact done_n [] _ [(1000, wo 2000 m l e), (2000, wa l)] (by simp only [go_sem]) (by simp only [go_sem, wo, wa]) rfl ⟨rfl, rfl⟩
  · simp only [go_sem, wo, wa]
    exact done_n [] _ [(1000, wo 2000 m l x), (2000, wa l)] (by simp only [go_sem]) (by simp only [go_sem, wo, wa]) rfl ⟨rfl, rfl⟩

def wB (ok : Bool) (l x : List UInt8) : List UInt8 := if ok = true then l ++ x else l
theorem s_wbytes (m : Bool) (l x : List UInt8) (e : Int) (hl : l.length < 60000000000 ∧ x.length < 60000000000) : WM n_Poctet_Writer_Bytes [.sl 1 (x.map by_)] m l e (.tup []) (wB (m && e == 0) l x) e := by
  refine fun_sound (ic := F_Poctet_Writer_Bytes.body) mixed c_Poctet_Writer_Bytes rfl rfl ?_
  simp only [F_Poctet_Writer_Bytes, wo, wa, go_sem]
  refine call_w [] (k := 1000) (j := 2000) (s_wsound m l e) (by decide) (by decide) (by decide) (by decide) rfl (by simp) (by rfl) (by rfl) (by rfl) ?_
  cases h : (m && e == 0)
  · simp only [go_sem, wo, wa, wB, Bool.false_eq_true]
    exact done_n [] _ [(1000, wo 2000 m l e), (2000, wa l)] (by simp only [go_sem]) (by simp only [go_sem, wo, wa]) rfl ⟨rfl, rfl⟩
  · have happ := appO_map 2000 5 1 l.length by_ l (x.map by_) rfl
    simp only [go_sem, wo, wa, wB, happ]
    refine ⟨by omega, done_n [] _ [(1000, wo 2000 m (l ++ x) e), (2000, wa (l ++ x))] (by simp only [go_sem]) ?_ rfl ⟨rfl, rfl⟩⟩
    simp only [go_sem, wo, wa, List.length_append, List.map_append]

theorem wB_len {ok : Bool} {l x : List UInt8} : (wB ok l x).length ≤ l.length + x.length := by
  unfold wB; split <;> simp
theorem s_wbyte (m : Bool) (l : List UInt8) (x : UInt8) (e : Int) (hl : l.length < 60000000000) : WM n_Poctet_Writer_Byte [.int .u8 x.toNat] m l e (.tup []) (wB (m && e == 0) l [x]) e := by
  refine fun_sound (ic := F_Poctet_Writer_Byte.body) mixed c_Poctet_Writer_Byte rfl rfl ?_
  simp only [F_Poctet_Writer_Byte, wo, wa, go_sem]
  refine call_w [6] (k := 1000) (j := 2000) (s_wbytes m l [x] e ⟨hl, by simp⟩) (by decide) (by decide) (by decide) (by decide) rfl (by simp [go_sem]) ?_ (by simp only [go_sem, wo]) (by simp only [go_sem, wa]) ?_
  · simp only [go_sem, Nat.le_refl]
  · simp only [go_sem, wo, wa]
    exact done_n [] _ [(1000, wo 2000 m (wB (m && e == 0) l [x]) e), (2000, wa (wB (m && e == 0) l [x]))] (by simp only [go_sem]) (by simp only [go_sem, wo, wa]) rfl ⟨rfl, rfl⟩

def wU (ok : Bool) (l : List UInt8) (e n : Int) : List UInt8 × Int :=
  if ok = true then (if n < 0 ∨ n > 4294967295 then (l, 1) else (l ++ putU n.toNat, e)) else (l, e)
theorem putU_32 {n : Nat} (h : n ≤ 4294967295) : (putU n).length ≤ 5 := putU_len (k := 4) (by omega)
theorem s_wU32 (m : Bool) (l : List UInt8) (e n : Int) (hl : l.length < 60000000000) : WM n_Poctet_Writer_U32 [.int .i64 n] m l e (.tup []) (wU (m && e == 0) l e n).1 (wU (m && e == 0) l e n).2 := by
  refine fun_sound (ic := F_Poctet_Writer_U32.body) mixed c_Poctet_Writer_U32 rfl rfl ?_
  by_cases h1 : n < 0 ∨ n > 4294967295
  · have r : wU (m && e == 0) l e n = (l, if (m && e == 0) = true then 1 else e) := by
      unfold wU; cases (m && e == 0) <;> simp [h1]
    rw [r]
    by_cases h2 : n < 0
    · have d1 : decide (n < 0) = true := decide_eq_true h2
      simp only [F_Poctet_Writer_U32, wo, wa, go_sem, d1]
      refine call_w [] (k := 1000) (j := 2000) (s_wfail m l e 1) (by decide) (by decide) (by decide) (by decide) rfl (by simp [go_sem]) (by rfl) (by rfl) (by rfl) ?_
      simp only [go_sem, wo, wa]
      exact done [] _ [(1000, wo 2000 m l (if (m && e == 0) = true then 1 else e)), (2000, wa l)] (by simp only [go_sem]) (by simp only [go_sem, wo, wa]) rfl ⟨rfl, rfl⟩
    · have d1 : decide (n < 0) = false := decide_eq_false h2
      have d2 : decide (n > 4294967295) = true := decide_eq_true (by omega)
      simp only [F_Poctet_Writer_U32, wo, wa, go_sem, d1, d2]
      refine call_w [] (k := 1000) (j := 2000) (s_wfail m l e 1) (by decide) (by decide) (by decide) (by decide) rfl (by simp [go_sem]) (by rfl) (by rfl) (by rfl) ?_
      simp only [go_sem, wo, wa]
      exact done [] _ [(1000, wo 2000 m l (if (m && e == 0) = true then 1 else e)), (2000, wa l)] (by simp only [go_sem]) (by simp only [go_sem, wo, wa]) rfl ⟨rfl, rfl⟩
  · have d1 : decide (n < 0) = false := decide_eq_false (by omega)
    have d2 : decide (n > 4294967295) = false := decide_eq_false (by omega)
    obtain ⟨k, rfl⟩ := Int.eq_ofNat_of_zero_le (show 0 ≤ n by omega)
    have r : wU (m && e == 0) l e k = (wB (m && e == 0) l (putU k), e) := by
      unfold wU wB; cases (m && e == 0) <;> simp only [if_true, if_neg h1, Bool.false_eq_true, if_false, Int.toNat_natCast]
    have w1 : IntKind.u64.wrap (k : Int) = (k : Int) := by rw [w_u64]; omega
    have hp := putU_32 (n := k) (by omega)
    rw [r]
    simp only [F_Poctet_Writer_U32, wo, wa, go_sem, d1, d2, w1]
    refine call_same (s_PutU k (by omega)) (by simp [go_sem]) ?_
    simp only [go_sem]
    refine call_w [] (k := 1000) (j := 2000) (s_wbytes m l (putU k) e ⟨hl, by omega⟩) (by decide) (by decide) (by decide) (by decide) rfl (by simp [go_sem]) (by rfl) (by rfl) (by rfl) ?_
    simp only [go_sem, wo, wa]
    exact done_n [] _ [(1000, wo 2000 m (wB (m && e == 0) l (putU k)) e), (2000, wa (wB (m && e == 0) l (putU k)))] (by simp only [go_sem]) (by simp only [go_sem, wo, wa]) rfl ⟨rfl, rfl⟩

def wD (m : Bool) (l : List UInt8) (e : Int) : Option (List UInt8) × Int := if m = true then (if e = 0 then (some l, 0) else (none, e)) else (none, 2)
theorem s_wdone (m : Bool) (l : List UInt8) (e : Int) (hl : l.length < 60000000000) : WM n_Poctet_Writer_Done [] m l e (.tup [slv (wD m l e).1, .int .i64 (wD m l e).2]) l e := by
  refine fun_sound (ic := F_Poctet_Writer_Done.body) mixed c_Poctet_Writer_Done rfl rfl ?_
  cases m
  · simp only [F_Poctet_Writer_Done, wo, wa, go_sem, wD, Bool.false_eq_true]
    exact done [] _ [(1000, wo 2000 false l e), (2000, wa l)] (by simp only [go_sem]) (by simp only [go_sem, wo, wa]) rfl ⟨rfl, rfl⟩
  · by_cases he : e = 0
    · subst he
      have d : ((0 : Int) != 0) = false := rfl
      have hr := rowO_map 1 l.length 5 by_ l rfl
      simp only [F_Poctet_Writer_Done, wo, wa, go_sem, wD, d, hr]
      refine ⟨by omega, done [28] _ [(1000, wo 2000 true l 0), (2000, wa l)] ?_ (by simp only [go_sem, wo, wa]) rfl ⟨rfl, rfl⟩⟩
      simp only [go_sem, Nat.le_refl, List.length_map]
      rw [List.take_of_length_le (by simp)]
    · have d : (e != 0) = true := by simp [he]
      have r : wD true l e = (none, e) := by simp [wD, he]
      rw [r]
      simp only [F_Poctet_Writer_Done, wo, wa, go_sem, d]
      exact done [] _ [(1000, wo 2000 true l e), (2000, wa l)] (by simp only [go_sem]) (by simp only [go_sem, wo, wa]) rfl ⟨rfl, rfl⟩
theorem s_wnew : ACalls Tryd.prog n_octet_New [] [] sb (fun r' σ' => r' = .mp 2 3 0 0 ∧ σ' = [(2, wo 2000 true [] 0), (2000, wa [])]) := by
  refine fun_sound (ic := F_octet_New.body) mixed c_octet_New rfl rfl ?_
  simp only [F_octet_New, go_sem]
  refine wdone ((Wk.new0 _ 2000 1 5 (by decide)).trans (Wk.nlm _ 2 (t := 54) (st := 3) (r := [.bool true, .nl, .int .i64 0]) (r' := [.bool true, .ms 2000 1 0 0, .int .i64 0]) ?_ ?_)) [] (.mp 2 3 0 0) [(2, wo 2000 true [] 0), (2000, wa [])] ?_ ?_ rfl ⟨rfl, rfl⟩
  · simp only [go_sem]
  · exact ⟨.inl rfl, .inr ⟨rfl, .inr ⟨2000, 1, rfl⟩⟩, .inl rfl, trivial⟩
  · simp only [go_sem]
  · simp only [go_sem, wo, wa, List.length_nil]
end Go.Proofs.YtdhiiannngjjpaaDoor
set_option linter.unusedSimpArgs false
set_option maxRecDepth 100000
set_option maxHeartbeats 4000000
set_option linter.unusedVariables false
namespace Go.Proofs.YtdhiiannngjjpaaDoor
open Go Go.Mw

theorem s_sum (b : List UInt8) (at_ : Nat) (h : at_ < b.length) (h9 : at_ ≤ 9) : PCalls Tryd.prog n_leb_sum [.sl 1 (b.map by_), .int .i64 at_] (.int .u64 ((val7 (b.take (at_ + 1)) % 18446744073709551616 : Nat) : Int)) := by
  refine pfun_sound (ic := F_leb_sum.body) mixed c_leb_sum rfl rfl ?_
  simp only [F_leb_sum, go_sem]
  refine loop_rule (fun i : Nat => ⟨[(9, .int .i64 i), (8, .int .i64 (at_ + 1)), (5, .int .u64 ((val7 (b.take i) % 18446744073709551616 : Nat) : Int)), (0, .sl 1 (b.map by_))], []⟩) (fun i => i ≤ at_ + 1) (fun i => at_ + 1 - i) 0 (Nat.zero_le _) (Wk.of ?_ ?_) ?_
  · simp [go_sem, wi (n := (at_ : Int) + 1) (by omega) (by omega), val7]
  · simp [go_sem]
  rintro i hi
  replace hi : i ≤ at_ + 1 := hi
  rcases Nat.lt_or_ge i (at_ + 1) with hlt | hge
  · have hd1 : decide ((i : Int) < (at_ : Int) + 1) = true := by simp; omega
    have hx : (nth b i).toNat < 256 := (nth b i).toNat_lt
    have hv := val7_take_lt (b := b) (i := i) (by omega)
    have hp : 2 ^ (7 * i) ≤ 2 ^ 63 := Nat.pow_le_pow_right (by decide) (by omega)
    have e1 : IntKind.u64.wrap (((nth b i).toNat % 128 : Nat) : Int) = (((nth b i).toNat % 128 : Nat) : Int) := by rw [w_u64]; omega
    have e2 : IntKind.i64.wrap (7 * (i : Int)) = ((7 * i : Nat) : Int) := by rw [wi (by omega) (by omega)]; omega
    have e3 : ¬ ((7 * i : Nat) : Int) < 0 := by omega
    have e5 := shl64 (y := (nth b i).toNat % 128) (s := 7 * i) (by omega)
    have e6 : val7 (b.take i) % 18446744073709551616 = val7 (b.take i) := Nat.mod_eq_of_lt (by omega)
    have e7 := or_shift (n := val7 (b.take i)) (y := (nth b i).toNat % 128) (s := 7 * i) (by omega) hv
    simp only [go_sem, hd1, e2, e3]
    refine ⟨by omega, by omega, klp_n (i + 1) (show i + 1 ≤ at_ + 1 by omega) (show at_ + 1 - (i + 1) < at_ + 1 - i by omega) (Wk.of ?_ ?_)⟩
    · have e8 := wi (n := (i : Int) + 1) (by omega) (by omega)
      have e9 := val7_take (show i < b.length by omega)
      simp only [go_sem, and127 hx, e1, e5, e6, e7, e8, e9]
      rfl
    · simp [go_sem]
  · have hd1 : decide ((i : Int) < (at_ : Int) + 1) = false := by simp; omega
    have : i = at_ + 1 := by omega
    subst this
    simp only [go_sem, hd1]
    exact pdone [] (by simp [go_sem]) rfl

def lastR (b : List UInt8) (bits : Nat) : AV := if lstE b bits = 0 then .tup [.int .i64 (lstI b bits), .int .i64 (cnt bits (lstI b bits)), .int .i64 0] else .tup [.int .i64 0, .int .i64 0, .int .i64 (lstE b bits)]
theorem s_last (b : List UInt8) (bits : Nat) (h : 1 ≤ bits ∧ bits ≤ 64) : PCalls Tryd.prog n_leb_last [.sl 1 (b.map by_), .int .i64 bits] (lastR b bits) := by
  have hm : mst bits ≤ 10 ∧ 1 ≤ mst bits ∧ 7 * mst bits ≤ bits + 6 := by unfold mst; omega
  refine pfun_sound (ic := F_leb_last.body) mixed c_leb_last rfl rfl ?_
  have d1 : decide ((bits : Int) < 1) = false := by simp; omega
  have d2 : decide ((bits : Int) > 64) = false := by simp; omega
  have e1 : IntKind.i64.wrap ((bits : Int) + 6) = ((bits + 6 : Nat) : Int) := by rw [wi (by omega) (by omega)]; omega
  have e2 : (((bits + 6 : Nat) : Int)).tdiv 7 = (mst bits : Int) := by rw [show (7 : Int) = ((7 : Nat) : Int) from rfl, ← Int.ofNat_tdiv]; rfl
  have e3 : IntKind.i64.wrap (mst bits : Int) = (mst bits : Int) := wi (by omega) (by omega)
  simp only [F_leb_last, go_sem, d1, d2, e1, e2, e3]
  refine ⟨by omega, ?_⟩
  refine loop_rule (fun i : Nat => ⟨[(19, .int .i64 i), (18, .int .i64 (mst bits)), (7, .int .i64 (mst bits)), (0, .sl 1 (b.map by_)), (1, .int .i64 bits)], []⟩) (fun i => i ≤ mst bits ∧ i ≤ b.length ∧ lst b (mst bits) 0 = lst b (mst bits - i) i) (fun i => mst bits - i) 0 ⟨Nat.zero_le _, Nat.zero_le _, rfl⟩ (Wk.of ?_ ?_) ?_
  · simp only [go_sem, e1, e2, e3]
    simp
  · simp [go_sem]
  rintro i ⟨hi, hib, hl⟩
  replace hi : i ≤ mst bits := hi
  replace hib : i ≤ b.length := hib
  replace hl : lst b (mst bits) 0 = lst b (mst bits - i) i := hl
  rcases Nat.lt_or_ge i (mst bits) with hlt | hge
  · have hd1 : decide ((i : Int) < (mst bits : Int)) = true := by simp; omega
    rw [show mst bits - i = (mst bits - (i + 1)) + 1 by omega, lst] at hl
    by_cases hb : i ≥ b.length
    · have hd2 : decide ((i : Int) ≥ (b.length : Int)) = true := by simp; omega
      rw [if_pos hb] at hl
      have r1 : lastR b bits = .tup [.int .i64 0, .int .i64 0, .int .i64 3] := by simp [lastR, lstE, hl]
      simp only [go_sem, hd1, hd2]
      rw [r1]
      exact pdone [] (by simp [go_sem]) rfl
    · have hd2 : decide ((i : Int) ≥ (b.length : Int)) = false := by simp; omega
      rw [if_neg hb] at hl
      by_cases hc : 128 ≤ (nth b i).toNat
      · have hd3 : decide (((nth b i).toNat : Int) ≥ 128) = true := by simp; omega
        rw [if_pos hc] at hl
        simp only [go_sem, hd1, hd2, hd3]
        refine ⟨by omega, by omega, klp_n (i + 1) ⟨by omega, by omega, hl⟩ (show mst bits - (i + 1) < mst bits - i by omega) (Wk.of ?_ ?_)⟩
        · have e8 := wi (n := (i : Int) + 1) (by omega) (by omega)
          simp [go_sem, e8]
        · simp [go_sem]
      · have hd3 : decide (((nth b i).toNat : Int) ≥ 128) = false := by simp; omega
        rw [if_neg hc] at hl
        have w1 : IntKind.i64.wrap ((mst bits : Int) - 1) = (mst bits : Int) - 1 := wi (by omega) (by omega)
        by_cases hq : i + 1 = mst bits
        · have hd4 : ((i : Int) == (mst bits : Int) - 1) = true := by simp; omega
          have r1 : lastR b bits = .tup [.int .i64 i, .int .i64 ((bits : Int) - 7 * i), .int .i64 0] := by
            have : ((bits - 7 * i : Nat) : Int) = (bits : Int) - 7 * i := by omega
            simp [lastR, lstE, lstI, hl, cnt, hq, this]
          have w2 : IntKind.i64.wrap (7 * (i : Int)) = 7 * (i : Int) := wi (by omega) (by omega)
          have w3 : IntKind.i64.wrap ((bits : Int) - 7 * (i : Int)) = (bits : Int) - 7 * (i : Int) := wi (by omega) (by omega)
          simp only [go_sem, hd1, hd2, hd3, w1, hd4]
          rw [r1]
          exact ⟨by omega, by omega, pdone [] (by simp [go_sem, w2, w3]) rfl⟩
        · have hd4 : ((i : Int) == (mst bits : Int) - 1) = false := by simp; omega
          have r1 : lastR b bits = .tup [.int .i64 i, .int .i64 7, .int .i64 0] := by simp [lastR, lstE, lstI, hl, cnt, hq]
          simp only [go_sem, hd1, hd2, hd3, w1, hd4]
          rw [r1]
          exact ⟨by omega, by omega, pdone [] (by simp [go_sem]) rfl⟩
  · have hd1 : decide ((i : Int) < (mst bits : Int)) = false := by simp; omega
    rw [show mst bits - i = 0 by omega, lst] at hl
    have r1 : lastR b bits = .tup [.int .i64 0, .int .i64 0, .int .i64 4] := by simp [lastR, lstE, hl]
    simp only [go_sem, hd1]
    rw [r1]
    exact pdone [] (by simp [go_sem]) rfl
end Go.Proofs.YtdhiiannngjjpaaDoor
set_option linter.unusedSimpArgs false
set_option maxRecDepth 100000
set_option maxHeartbeats 4000000
set_option linter.unusedVariables false
namespace Go.Proofs.YtdhiiannngjjpaaDoor
open Go Go.Mw

def uR (x : Nat × Nat × Int) : AV := .tup [.int .u64 x.1, .int .i64 x.2.1, .int .i64 x.2.2]
def sR (x : Int × Nat × Int) : AV := .tup [.int .i64 x.1, .int .i64 x.2.1, .int .i64 x.2.2]

theorem s_U (b : List UInt8) (bits : Nat) (h : 1 ≤ bits ∧ bits ≤ 64) : PCalls Tryd.prog n_leb_U [.sl 1 (b.map by_), .int .i64 bits] (uR (decU b bits)) := by
  refine pfun_sound (ic := F_leb_U.body) mixed c_leb_U rfl rfl ?_
  simp only [F_leb_U, go_sem]
  refine call_same (s_last b bits h) (by simp [go_sem]) ?_
  rcases lst_cases b bits with ⟨h1, h2, h3, h4⟩ | ⟨h1, h2⟩
  · have hc := cnt_le h h3
    have hm := mst_le h
    have e1 : lastR b bits = .tup [.int .i64 (lstI b bits), .int .i64 (cnt bits (lstI b bits)), .int .i64 0] := by rw [lastR, if_pos h1]
    have e2 := shr_nat .u8 (x := (nth b (lstI b bits)).toNat) (s := cnt bits (lstI b bits)) (by show _ ≤ 8; omega)
    have e3 : ¬ ((cnt bits (lstI b bits) : Nat) : Int) < 0 := by omega
    by_cases hq : (nth b (lstI b bits)).toNat / 2 ^ cnt bits (lstI b bits) = 0
    · have d1 : ((((nth b (lstI b bits)).toNat / 2 ^ cnt bits (lstI b bits) : Nat) : Int) != 0) = false := by rw [hq]; rfl
      have r : decU b bits = (val7 (b.take (lstI b bits + 1)) % 18446744073709551616, lstI b bits + 1, 0) := by simp [decU, h1, hq]
      simp only [go_sem, e1, bne_self_eq_false, e2, e3, d1]
      refine ⟨by omega, by omega, call_same (s_sum b (lstI b bits) h2 (by omega)) (by simp [go_sem]) ?_⟩
      have e8 := wi (n := (lstI b bits : Int) + 1) (by omega) (by omega)
      simp only [go_sem]
      rw [r]
      exact pdone [] (by simp [go_sem, e8, uR]) rfl
    · have d1 : ((((nth b (lstI b bits)).toNat / 2 ^ cnt bits (lstI b bits) : Nat) : Int) != 0) = true := by
        have : (((nth b (lstI b bits)).toNat / 2 ^ cnt bits (lstI b bits) : Nat) : Int) ≠ 0 := by omega
        simp only [bne, beq_eq_false_iff_ne.2 this]; rfl
      have r : decU b bits = (0, 0, 4) := by rw [decU, if_neg (by simp [h1]), if_pos hq]
      simp only [go_sem, e1, bne_self_eq_false, e2, e3, d1]
      rw [r]
      exact ⟨by omega, by omega, pdone [] (by simp [go_sem, uR]) rfl⟩
  · have hne : lstE b bits ≠ 0 := by rcases h1 with h1 | h1 <;> rw [h1] <;> decide
    have e1 : lastR b bits = .tup [.int .i64 0, .int .i64 0, .int .i64 (lstE b bits)] := by rw [lastR, if_neg hne]
    have d1 : (lstE b bits != 0) = true := by simp [hne]
    have r : decU b bits = (0, 0, lstE b bits) := by rw [decU, if_pos hne]
    simp only [go_sem, e1, d1]
    rw [r]
    exact pdone [] (by simp [go_sem, uR]) rfl

theorem s_S (b : List UInt8) (bits : Nat) (h : 1 ≤ bits ∧ bits ≤ 64) : PCalls Tryd.prog n_leb_S [.sl 1 (b.map by_), .int .i64 bits] (sR (decS b bits)) := by
  refine pfun_sound (ic := F_leb_S.body) mixed c_leb_S rfl rfl ?_
  simp only [F_leb_S, go_sem]
  refine call_same (s_last b bits h) (by simp [go_sem]) ?_
  rcases lst_cases b bits with ⟨h1, h2, h3, h4⟩ | ⟨h1, h2⟩
  · have hc := cnt_le h h3
    have hm := mst_le h
    generalize hi : lstI b bits = i at *
    generalize hcn : cnt bits i = c at *
    have hx : (nth b i).toNat < 256 := (nth b i).toNat_lt
    have e1 : lastR b bits = .tup [.int .i64 i, .int .i64 c, .int .i64 0] := by rw [lastR, if_pos h1, hi, hcn]
    have w1 : IntKind.i64.wrap ((c : Int) - 1) = ((c - 1 : Nat) : Int) := by rw [wi (by omega) (by omega)]; omega
    have e2 := shr_nat .u8 (x := (nth b i).toNat) (s := c - 1) (by show _ ≤ 8; omega)
    have e2' : b_shr .u8 127 ((c - 1 : Nat) : Int) = ((127 / 2 ^ (c - 1) : Nat) : Int) := shr_nat .u8 (x := 127) (s := c - 1) (by show _ ≤ 8; omega)
    have e3 : ¬ ((c - 1 : Nat) : Int) < 0 := by omega
    have w2 : IntKind.i64.wrap ((i : Int) + 1) = ((i + 1 : Nat) : Int) := by rw [wi (by omega) (by omega)]; omega
    have w3 : IntKind.i64.wrap (7 * ((i + 1 : Nat) : Int)) = ((7 * (i + 1) : Nat) : Int) := by rw [wi (by omega) (by omega)]; omega
    by_cases hq : (nth b i).toNat / 2 ^ (c - 1) ≠ 0 ∧ (nth b i).toNat / 2 ^ (c - 1) ≠ 127 / 2 ^ (c - 1)
    · have d1 : ((((nth b i).toNat / 2 ^ (c - 1) : Nat) : Int) != 0) = true := by
        have : (((nth b i).toNat / 2 ^ (c - 1) : Nat) : Int) ≠ 0 := by omega
        simp only [bne, beq_eq_false_iff_ne.2 this]; rfl
      have d2 : ((((nth b i).toNat / 2 ^ (c - 1) : Nat) : Int) != ((127 / 2 ^ (c - 1) : Nat) : Int)) = true := by
        have : (((nth b i).toNat / 2 ^ (c - 1) : Nat) : Int) ≠ ((127 / 2 ^ (c - 1) : Nat) : Int) := by omega
        simp only [bne, beq_eq_false_iff_ne.2 this]; rfl
      have r : decS b bits = (0, 0, 4) := by rw [decS, if_neg (by simp [h1]), hi, hcn, if_pos hq]
      simp only [go_sem, e1, bne_self_eq_false, w1, e2, e2', e3, d1, d2]
      rw [r]
      exact ⟨by omega, by omega, pdone [] (by simp [go_sem, sR]) rfl⟩
    · have r : decS b bits = (sgn b i, i + 1, 0) := by rw [decS, if_neg (by simp [h1]), hi, hcn, if_neg hq]
      have hv := val7_take_lt (b := b) (i := i + 1) (by omega)
      rw [r]
      by_cases hz : (nth b i).toNat / 2 ^ (c - 1) = 0
      · have d1 : ((((nth b i).toNat / 2 ^ (c - 1) : Nat) : Int) != 0) = false := by rw [hz]; rfl
        simp only [go_sem, e1, bne_self_eq_false, w1, e2, e2', e3, d1]
        refine ⟨by omega, by omega, call_same (s_sum b i h2 (by omega)) (by simp [go_sem]) ?_⟩
        by_cases hw : i = 9
        · subst hw
          have d3 : decide (((7 * (9 + 1) : Nat) : Int) < 64) = false := by decide
          simp only [go_sem, w2, w3, d3]
          have e9 : IntKind.i64.wrap ((val7 (b.take (9 + 1)) % 18446744073709551616 : Nat) : Int) = sgn b 9 := by
            unfold sgn
            refine i64_congr ?_
            split <;> omega
          exact pdone [] (by simp only [go_sem, sR, e9, w2]) rfl
        · have hp : 2 ^ (7 * (i + 1)) ≤ 2 ^ 63 := Nat.pow_le_pow_right (by decide) (by omega)
          have d3 : decide (((7 * (i + 1) : Nat) : Int) < 64) = true := by simp; omega
          have e6 : val7 (b.take (i + 1)) % 18446744073709551616 = val7 (b.take (i + 1)) := Nat.mod_eq_of_lt (by omega)
          by_cases hb : 64 ≤ (nth b i).toNat % 128
          · have d4 : (b_and .u8 ((nth b i).toNat : Int) 64 != 0) = true := by rw [and64 hx]; simpa using hb
            have e4 : ¬ ((7 * (i + 1) : Nat) : Int) < 0 := by omega
            have e5 : b_shl .u64 18446744073709551615 ((7 * (i + 1) : Nat) : Int) = ((18446744073709551615 * 2 ^ (7 * (i + 1)) % 18446744073709551616 : Nat) : Int) := shl64 (y := 18446744073709551615) (s := 7 * (i + 1)) (by omega)
            have e7 := or_shift (n := val7 (b.take (i + 1))) (y := 18446744073709551615) (s := 7 * (i + 1)) (by omega) hv
            have e9 : IntKind.i64.wrap (((val7 (b.take (i + 1)) + 18446744073709551615 * 2 ^ (7 * (i + 1))) % 18446744073709551616 : Nat) : Int) = sgn b i := by
              unfold sgn
              rw [if_pos hb]
              refine i64_congr ?_
              have e10 : (2 : Int) ^ (7 * (i + 1)) = ((2 ^ (7 * (i + 1)) : Nat) : Int) := by rw [Int.natCast_pow]; rfl
              rw [e10]
              generalize 2 ^ (7 * (i + 1)) = p
              omega
            simp only [go_sem, w2, w3, d3, d4, e4, e6, e5, e7]
            exact ⟨by omega, by omega, pdone [] (by simp only [go_sem, sR, e9, w2]) rfl⟩
          · have d4 : (b_and .u8 ((nth b i).toNat : Int) 64 != 0) = false := by rw [and64 hx]; simpa using hb
            have e9 : IntKind.i64.wrap ((val7 (b.take (i + 1)) : Nat) : Int) = sgn b i := by
              unfold sgn
              rw [if_neg hb, Int.sub_zero]
            simp only [go_sem, w2, w3, d3, d4, e6]
            exact ⟨by omega, by omega, pdone [] (by simp only [go_sem, sR, e9, w2]) rfl⟩
      · have d1 : ((((nth b i).toNat / 2 ^ (c - 1) : Nat) : Int) != 0) = true := by
          have : (((nth b i).toNat / 2 ^ (c - 1) : Nat) : Int) ≠ 0 := by omega
          simp only [bne, beq_eq_false_iff_ne.2 this]; rfl
        have d2 : ((((nth b i).toNat / 2 ^ (c - 1) : Nat) : Int) != ((127 / 2 ^ (c - 1) : Nat) : Int)) = false := by
          have : (nth b i).toNat / 2 ^ (c - 1) = 127 / 2 ^ (c - 1) := Classical.byContradiction fun hn => hq ⟨hz, hn⟩
          rw [this]; simp
        simp only [go_sem, e1, bne_self_eq_false, w1, e2, e2', e3, d1, d2]
        refine ⟨by omega, by omega, call_same (s_sum b i h2 (by omega)) (by simp [go_sem]) ?_⟩
        by_cases hw : i = 9
        · subst hw
          have d3 : decide (((7 * (9 + 1) : Nat) : Int) < 64) = false := by decide
          simp only [go_sem, w2, w3, d3]
          have e9 : IntKind.i64.wrap ((val7 (b.take (9 + 1)) % 18446744073709551616 : Nat) : Int) = sgn b 9 := by
            unfold sgn
            refine i64_congr ?_
            split <;> omega
          exact pdone [] (by simp only [go_sem, sR, e9, w2]) rfl
        · have hp : 2 ^ (7 * (i + 1)) ≤ 2 ^ 63 := Nat.pow_le_pow_right (by decide) (by omega)
          have d3 : decide (((7 * (i + 1) : Nat) : Int) < 64) = true := by simp; omega
          have e6 : val7 (b.take (i + 1)) % 18446744073709551616 = val7 (b.take (i + 1)) := Nat.mod_eq_of_lt (by omega)
          by_cases hb : 64 ≤ (nth b i).toNat % 128
          · have d4 : (b_and .u8 ((nth b i).toNat : Int) 64 != 0) = true := by rw [and64 hx]; simpa using hb
            have e4 : ¬ ((7 * (i + 1) : Nat) : Int) < 0 := by omega
            have e5 : b_shl .u64 18446744073709551615 ((7 * (i + 1) : Nat) : Int) = ((18446744073709551615 * 2 ^ (7 * (i + 1)) % 18446744073709551616 : Nat) : Int) := shl64 (y := 18446744073709551615) (s := 7 * (i + 1)) (by omega)
            have e7 := or_shift (n := val7 (b.take (i + 1))) (y := 18446744073709551615) (s := 7 * (i + 1)) (by omega) hv
            have e9 : IntKind.i64.wrap (((val7 (b.take (i + 1)) + 18446744073709551615 * 2 ^ (7 * (i + 1))) % 18446744073709551616 : Nat) : Int) = sgn b i := by
              unfold sgn
              rw [if_pos hb]
              refine i64_congr ?_
              have e10 : (2 : Int) ^ (7 * (i + 1)) = ((2 ^ (7 * (i + 1)) : Nat) : Int) := by rw [Int.natCast_pow]; rfl
              rw [e10]
              generalize 2 ^ (7 * (i + 1)) = p
              omega
            simp only [go_sem, w2, w3, d3, d4, e4, e6, e5, e7]
            exact ⟨by omega, by omega, pdone [] (by simp only [go_sem, sR, e9, w2]) rfl⟩
          · have d4 : (b_and .u8 ((nth b i).toNat : Int) 64 != 0) = false := by rw [and64 hx]; simpa using hb
            have e9 : IntKind.i64.wrap ((val7 (b.take (i + 1)) : Nat) : Int) = sgn b i := by
              unfold sgn
              rw [if_neg hb, Int.sub_zero]
            simp only [go_sem, w2, w3, d3, d4, e6]
            exact ⟨by omega, by omega, pdone [] (by simp only [go_sem, sR, e9, w2]) rfl⟩
  · have hne : lstE b bits ≠ 0 := by rcases h1 with h1 | h1 <;> rw [h1] <;> decide
    have e1 : lastR b bits = .tup [.int .i64 0, .int .i64 0, .int .i64 (lstE b bits)] := by rw [lastR, if_neg hne]
    have d1 : (lstE b bits != 0) = true := by simp [hne]
    have r : decS b bits = (0, 0, lstE b bits) := by rw [decS, if_pos hne]
    simp only [go_sem, e1, d1]
    rw [r]
    exact pdone [] (by simp [go_sem, sR]) rfl
end Go.Proofs.YtdhiiannngjjpaaDoor
set_option linter.unusedSimpArgs false
set_option maxRecDepth 100000
set_option maxHeartbeats 4000000
set_option linter.unusedVariables false
namespace Go.Proofs.YtdhiiannngjjpaaDoor
open Go Go.Mw

end Go.Proofs.YtdhiiannngjjpaaDoor
set_option linter.unusedSimpArgs false
set_option maxRecDepth 100000
set_option maxHeartbeats 4000000
set_option linter.unusedVariables false
namespace Go.Proofs.YtdhiiannngjjpaaDoor
open Go Go.Mw

end Go.Proofs.YtdhiiannngjjpaaDoor
set_option linter.unusedSimpArgs false
set_option maxRecDepth 100000
set_option maxHeartbeats 4000000
set_option linter.unusedVariables false
namespace Go.Proofs.YtdhiiannngjjpaaDoor
open Go Go.Mw

def ro (m : Bool) (b : List UInt8) (a e : Int) : AObj := ⟨57, 4, [[.bool m, .sl 1 (b.map by_), .int .i64 a, .int .i64 e]], true⟩
def RM (f : FuncId) (rest : List AV) (m : Bool) (b : List UInt8) (a e : Int) (r : AV) (a' e' : Int) : Prop :=
  ACalls Tryd.prog f (.mp 1000 4 0 0 :: rest) [(1000, ro m b a e)] (fun id => 1000 ≤ id ∧ id < 2000) (fun r' σ' => r' = r ∧ σ' = [(1000, ro m b a' e')])

theorem s_sound (m : Bool) (b : List UInt8) (a e : Int) : RM n_Poctet_Reader_sound [] m b a e (.bool (m && e == 0)) a e := by
  refine fun_sound (ic := F_Poctet_Reader_sound.body) mixed c_Poctet_Reader_sound rfl rfl ?_
  cases m
  · simp only [F_Poctet_Reader_sound, ro, go_sem]
    exact done [] _ [(1000, ro false b a e)] (by simp only [go_sem]) (by simp only [go_sem, ro]) rfl ⟨rfl, rfl⟩
  · simp only [F_Poctet_Reader_sound, ro, go_sem]
    exact done [] _ [(1000, ro true b a e)] (by simp only [go_sem]) (by simp only [go_sem, ro]) rfl ⟨rfl, rfl⟩
theorem s_fail (m : Bool) (b : List UInt8) (a e x : Int) : RM n_Poctet_Reader_Fail [.int .i64 x] m b a e (.tup []) a (if (m && e == 0) = true then x else e) := by
  refine fun_sound (ic := F_Poctet_Reader_Fail.body) mixed c_Poctet_Reader_Fail rfl rfl ?_
  simp only [F_Poctet_Reader_Fail, ro, go_sem]
  refine call_m (s_sound m b a e) ⟨by decide, by decide⟩ rfl (by simp) rfl rfl (by rfl) ?_
  cases h : (m && e == 0)
  · simp only [go_sem, ro]
    exact done_n [] _ [(1000, ro m b a e)] (by simp only [go_sem]) (by simp only [go_sem, ro]) rfl ⟨rfl, rfl⟩
  · simp only [go_sem, ro]
    exact done_n [] _ [(1000, ro m b a x)] (by simp only [go_sem]) (by simp only [go_sem, ro]) rfl ⟨rfl, rfl⟩
theorem s_fail_ok (b : List UInt8) (a x : Int) : RM n_Poctet_Reader_Fail [.int .i64 x] true b a 0 (.tup []) a x := s_fail true b a 0 x
theorem s_cut (b : List UInt8) (a n : Nat) (e : Int) (h : a + n ≤ b.length) (hb : b.length < 1000000000) : RM n_Poctet_Reader_cut [.int .i64 n] true b a e (.sl 1 (((b.drop a).take n).map by_)) ((a + n : Nat) : Int) e := by
  refine fun_sound (ic := F_Poctet_Reader_cut.body) mixed c_Poctet_Reader_cut rfl rfl ?_
  have w1 : IntKind.i64.wrap ((a : Int) + (n : Int)) = ((a + n : Nat) : Int) := by rw [wi (by omega) (by omega)]; omega
  have e1 : aSlc 1 (.sl 1 (b.map by_)) (some (.int .i64 (a : Int))) (some (.int .i64 ((a + n : Nat) : Int))) (some (.int .i64 ((a + n : Nat) : Int))) = some (.sl 1 (((b.drop a).take n).map by_)) := by
    have h1 : aBound (b.map by_).length (some (.int .i64 ((a + n : Nat) : Int))) = some (a + n) := by simp only [aBound]; rw [if_pos (by omega), Int.toNat_natCast]
    have h2 : aBound 0 (some (.int .i64 (a : Int))) = some a := by simp only [aBound]; rw [if_pos (by omega), Int.toNat_natCast]
    simp only [aSlc, h1, h2]
    rw [if_pos ⟨trivial, by omega, Nat.le_refl _, by simpa using h⟩, Nat.add_sub_cancel_left, List.map_take, List.map_drop]
  simp only [F_Poctet_Reader_cut, ro, go_sem, w1, e1]
  exact done [] _ [(1000, ro true b ((a + n : Nat) : Int) e)] (by simp only [go_sem]) (by simp only [go_sem, ro]) rfl ⟨rfl, rfl⟩

theorem s_take (m : Bool) (b : List UInt8) (a : Nat) (e n : Int) (ha : a ≤ b.length) (hb : b.length < 1000000000) (hn : -9223372036854775808 ≤ n ∧ n < 9223372036854775808) :
    RM n_Poctet_Reader_Take [.int .i64 n] m b a e (slv (rTake (m && e == 0) b a e n).1) (rTake (m && e == 0) b a e n).2.1 (rTake (m && e == 0) b a e n).2.2 := by
  refine fun_sound (ic := F_Poctet_Reader_Take.body) mixed c_Poctet_Reader_Take rfl rfl ?_
  simp only [F_Poctet_Reader_Take, ro, go_sem]
  refine call_m (s_sound m b a e) ⟨by decide, by decide⟩ rfl (by simp) rfl rfl (by rfl) ?_
  cases h : (m && e == 0)
  · simp only [go_sem, ro, rTake]
    exact done [] _ [(1000, ro m b a e)] (by simp only [go_sem]) (by simp only [go_sem, ro]) rfl ⟨rfl, rfl⟩
  · obtain ⟨rfl, h2⟩ := Bool.and_eq_true_iff.1 h
    obtain rfl : e = 0 := by simpa using h2
    by_cases h3 : n < 0
    · have d1 : decide (n < 0) = true := by simpa using h3
      have r : rTake true b a 0 n = (none, a, 1) := by simp [rTake, h3]
      simp only [go_sem, ro, d1]
      refine call_m (s_fail_ok b a 1) ⟨by decide, by decide⟩ rfl (by simp [go_sem]) rfl rfl (by rfl) ?_
      simp only [go_sem, ro]
      rw [r]
      exact done [] _ [(1000, ro true b a 1)] (by simp only [go_sem]) (by simp only [go_sem, ro]) rfl ⟨rfl, rfl⟩
    · have d1 : decide (n < 0) = false := by simpa using h3
      have w1 : IntKind.i64.wrap ((b.length : Int) - (a : Int)) = (b.length : Int) - (a : Int) := wi (by omega) (by omega)
      by_cases h4 : n > (b.length : Int) - a
      · have d2 : decide (n > (b.length : Int) - (a : Int)) = true := by simpa using h4
        have r : rTake true b a 0 n = (none, a, 3) := by simp [rTake, h3, h4]
        simp only [go_sem, ro, d1, w1, d2]
        refine call_m (s_fail_ok b a 3) ⟨by decide, by decide⟩ rfl (by simp [go_sem]) rfl rfl (by rfl) ?_
        simp only [go_sem, ro]
        rw [r]
        exact done [] _ [(1000, ro true b a 3)] (by simp only [go_sem]) (by simp only [go_sem, ro]) rfl ⟨rfl, rfl⟩
      · have d2 : decide (n > (b.length : Int) - (a : Int)) = false := by simpa using h4
        obtain ⟨k, rfl⟩ := Int.eq_ofNat_of_zero_le (show 0 ≤ n by omega)
        have r : rTake true b a 0 (k : Int) = (some ((b.drop a).take k), a + k, 0) := by
          have h5 : ¬ ((k : Int) > (b.length : Int) - a) := h4
          simp only [rTake, if_true, if_neg h3, if_neg h5, Int.toNat_natCast]
        simp only [go_sem, ro, d1, w1, d2]
        refine call_m (s_cut b a k 0 (by omega) hb) ⟨by decide, by decide⟩ rfl (by simp [go_sem]) rfl rfl (by rfl) ?_
        simp only [go_sem, ro]
        rw [r]
        refine ⟨by simp; omega, done [32] _ [(1000, ro true b ((a + k : Nat) : Int) 0)] ?_ (by simp only [go_sem, ro]) rfl ⟨rfl, rfl⟩⟩
        simp only [go_sem, Nat.le_refl]
        rw [List.take_of_length_le (by simp)]

theorem aI1 (st : Nat) (r : List AV) (k : IntKind) : aIadr st (.sl st [r]) (.int k 0) = some (.ip r) := by simp [aIadr]
theorem one1 : (((1 : Nat) : Int) == 1) = true := rfl
theorem s_byte (m : Bool) (b : List UInt8) (a : Nat) (e : Int) (ha : a ≤ b.length) (hb : b.length < 1000000000) :
    RM n_Poctet_Reader_Byte [] m b a e (.int .u8 (rByte (m && e == 0) b a e).1.toNat) (rByte (m && e == 0) b a e).2.1 (rByte (m && e == 0) b a e).2.2 := by
  refine fun_sound (ic := F_Poctet_Reader_Byte.body) mixed c_Poctet_Reader_Byte rfl rfl ?_
  simp only [F_Poctet_Reader_Byte, ro, go_sem]
  refine call_m (s_take m b a e 1 ha hb (by decide)) ⟨by decide, by decide⟩ (slv_ids _) (by simp [go_sem]) rfl rfl (by rfl) ?_
  have h1 : ¬ ((1 : Int) < 0) := by decide
  cases h : (m && e == 0)
  · have r : rTake false b a e 1 = (none, a, e) := by simp [rTake]
    simp only [go_sem, r, rByte, ro, Int.reduceBEq, Bool.false_eq_true]
    exact done [] _ [(1000, ro m b a e)] (by simp only [go_sem]; rfl) (by simp only [go_sem, ro]) rfl ⟨rfl, rfl⟩
  · by_cases h2 : (b.length : Int) - a < 1
    · have r : rTake true b a e 1 = (none, a, 3) := by simp only [rTake, if_true, if_neg h1]; rw [if_pos (by omega)]
      have r2 : rByte true b a e = (0, a, 3) := by simp only [rByte, if_true, if_pos h2]
      simp only [go_sem, r, r2, ro, Int.reduceBEq]
      exact done [] _ [(1000, ro m b a 3)] (by simp only [go_sem]; rfl) (by simp only [go_sem, ro]) rfl ⟨rfl, rfl⟩
    · have hl : a < b.length := by omega
      have e1 : (b.drop a).take 1 = [nth b a] := by rw [List.drop_eq_getElem_cons hl, nth_eq hl]; rfl
      have r : rTake true b a e 1 = (some [nth b a], a + 1, e) := by
        simp only [rTake, if_true, if_neg h1]; rw [if_neg (by omega)]
        rw [show (1 : Int).toNat = 1 from rfl, e1]
      have r2 : rByte true b a e = (nth b a, a + 1, e) := by simp only [rByte, if_true, if_neg h2]
      simp only [go_sem, r, r2, ro, one1, List.length_cons, List.length_nil, aI1]
      exact done [] _ [(1000, ro m b ((a + 1 : Nat) : Int) e)] (by simp only [go_sem]) (by simp only [go_sem, ro]) rfl ⟨rfl, rfl⟩

theorem s_err (m : Bool) (b : List UInt8) (a e : Int) : RM n_Poctet_Reader_Err [] m b a e (.int .i64 (if m = true then e else 2)) a e := by
  refine fun_sound (ic := F_Poctet_Reader_Err.body) mixed c_Poctet_Reader_Err rfl rfl ?_
  cases m
  · simp only [F_Poctet_Reader_Err, ro, go_sem]
    exact done [] _ [(1000, ro false b a e)] (by simp only [go_sem]) (by simp only [go_sem, ro]) rfl ⟨rfl, rfl⟩
  · simp only [F_Poctet_Reader_Err, ro, go_sem]
    exact done [] _ [(1000, ro true b a e)] (by simp only [go_sem]) (by simp only [go_sem, ro]) rfl ⟨rfl, rfl⟩
theorem s_unsigned (m : Bool) (bits : Nat) (b : List UInt8) (a : Nat) (e : Int) (hbits : 1 ≤ bits ∧ bits ≤ 64) (ha : a ≤ b.length) (hb : b.length < 1000000000) :
    RM n_Poctet_Reader_unsigned [.int .i64 bits] m b a e (.int .u64 (rU (m && e == 0) bits b a e).1) (rU (m && e == 0) bits b a e).2.1 (rU (m && e == 0) bits b a e).2.2 := by
  refine fun_sound (ic := F_Poctet_Reader_unsigned.body) mixed c_Poctet_Reader_unsigned rfl rfl ?_
  simp only [F_Poctet_Reader_unsigned, ro, go_sem]
  refine call_m (s_sound m b a e) ⟨by decide, by decide⟩ rfl (by simp) rfl rfl (by rfl) ?_
  cases h : (m && e == 0)
  · have r : rU false bits b a e = (0, a, e) := by simp [rU]
    simp only [go_sem, ro, r]
    exact done [] _ [(1000, ro m b a e)] (by simp only [go_sem]; rfl) (by simp only [go_sem, ro]) rfl ⟨rfl, rfl⟩
  · obtain ⟨rfl, h2⟩ := Bool.and_eq_true_iff.1 h
    obtain rfl : e = 0 := by simpa using h2
    simp only [go_sem, ro]
    have hk := decU_k (b.drop a) bits
    simp only [List.length_drop] at hk
    refine ⟨⟨by omega, by omega⟩, call_same (s_U (b.drop a) bits hbits) (by simp [go_sem]) ?_⟩
    by_cases hq : (decU (b.drop a) bits).2.2 = 0
    · have d : ((decU (b.drop a) bits).2.2 != 0) = false := by simp [hq]
      have r : rU true bits b a 0 = ((decU (b.drop a) bits).1, a + (decU (b.drop a) bits).2.1, 0) := by simp [rU, hq]
      have w1 : IntKind.i64.wrap ((a : Int) + ((decU (b.drop a) bits).2.1 : Int)) = ((a + (decU (b.drop a) bits).2.1 : Nat) : Int) := by rw [wi (by omega) (by omega)]; omega
      rw [r]
      simp only [go_sem, ro, uR, d, w1]
      exact done [] _ [(1000, ro true b ((a + (decU (b.drop a) bits).2.1 : Nat) : Int) 0)] (by simp only [go_sem]) (by simp only [go_sem, ro]) rfl ⟨rfl, rfl⟩
    · have d : ((decU (b.drop a) bits).2.2 != 0) = true := by simp [hq]
      have r : rU true bits b a 0 = (0, a, (decU (b.drop a) bits).2.2) := by simp [rU, hq]
      rw [r]
      simp only [go_sem, ro, uR, d]
      refine call_m (s_fail_ok b a (decU (b.drop a) bits).2.2) ⟨by decide, by decide⟩ rfl (by simp [go_sem]) rfl rfl (by rfl) ?_
      simp only [go_sem, ro]
      exact done [] _ [(1000, ro true b a (decU (b.drop a) bits).2.2)] (by simp only [go_sem]; rfl) (by simp only [go_sem, ro]) rfl ⟨rfl, rfl⟩

theorem s_signed (m : Bool) (bits : Nat) (b : List UInt8) (a : Nat) (e : Int) (hbits : 1 ≤ bits ∧ bits ≤ 64) (ha : a ≤ b.length) (hb : b.length < 1000000000) :
    RM n_Poctet_Reader_signed [.int .i64 bits] m b a e (.int .i64 (rS (m && e == 0) bits b a e).1) (rS (m && e == 0) bits b a e).2.1 (rS (m && e == 0) bits b a e).2.2 := by
  refine fun_sound (ic := F_Poctet_Reader_signed.body) mixed c_Poctet_Reader_signed rfl rfl ?_
  simp only [F_Poctet_Reader_signed, ro, go_sem]
  refine call_m (s_sound m b a e) ⟨by decide, by decide⟩ rfl (by simp) rfl rfl (by rfl) ?_
  cases h : (m && e == 0)
  · have r : rS false bits b a e = (0, a, e) := by simp [rS]
    simp only [go_sem, ro, r]
    exact done [] _ [(1000, ro m b a e)] (by simp only [go_sem]) (by simp only [go_sem, ro]) rfl ⟨rfl, rfl⟩
  · obtain ⟨rfl, h2⟩ := Bool.and_eq_true_iff.1 h
    obtain rfl : e = 0 := by simpa using h2
    simp only [go_sem, ro]
    have hk := decS_k (b.drop a) bits
    simp only [List.length_drop] at hk
    refine ⟨⟨by omega, by omega⟩, call_same (s_S (b.drop a) bits hbits) (by simp [go_sem]) ?_⟩
    by_cases hq : (decS (b.drop a) bits).2.2 = 0
    · have d : ((decS (b.drop a) bits).2.2 != 0) = false := by simp [hq]
      have r : rS true bits b a 0 = ((decS (b.drop a) bits).1, a + (decS (b.drop a) bits).2.1, 0) := by simp [rS, hq]
      have w1 : IntKind.i64.wrap ((a : Int) + ((decS (b.drop a) bits).2.1 : Int)) = ((a + (decS (b.drop a) bits).2.1 : Nat) : Int) := by rw [wi (by omega) (by omega)]; omega
      rw [r]
      simp only [go_sem, ro, sR, d, w1]
      exact done [] _ [(1000, ro true b ((a + (decS (b.drop a) bits).2.1 : Nat) : Int) 0)] (by simp only [go_sem]) (by simp only [go_sem, ro]) rfl ⟨rfl, rfl⟩
    · have d : ((decS (b.drop a) bits).2.2 != 0) = true := by simp [hq]
      have r : rS true bits b a 0 = (0, a, (decS (b.drop a) bits).2.2) := by simp [rS, hq]
      rw [r]
      simp only [go_sem, ro, sR, d]
      refine call_m (s_fail_ok b a (decS (b.drop a) bits).2.2) ⟨by decide, by decide⟩ rfl (by simp [go_sem]) rfl rfl (by rfl) ?_
      simp only [go_sem, ro]
      exact done [] _ [(1000, ro true b a (decS (b.drop a) bits).2.2)] (by simp only [go_sem]) (by simp only [go_sem, ro]) rfl ⟨rfl, rfl⟩

theorem s_U32 (m : Bool) (b : List UInt8) (a : Nat) (e : Int) (ha : a ≤ b.length) (hb : b.length < 1000000000) :
    RM n_Poctet_Reader_U32 [] m b a e (.int .i64 (rU (m && e == 0) 32 b a e).1) (rU (m && e == 0) 32 b a e).2.1 (rU (m && e == 0) 32 b a e).2.2 := by
  refine fun_sound (ic := F_Poctet_Reader_U32.body) mixed c_Poctet_Reader_U32 rfl rfl ?_
  have hl := rU_lt (m && e == 0) b a e
  have w1 : IntKind.i64.wrap ((rU (m && e == 0) 32 b a e).1 : Int) = ((rU (m && e == 0) 32 b a e).1 : Int) := wi (by omega) (by omega)
  simp only [F_Poctet_Reader_U32, ro, go_sem]
  refine call_m (s_unsigned m 32 b a e (by decide) ha hb) ⟨by decide, by decide⟩ rfl (by simp [go_sem]) rfl rfl (by rfl) ?_
  simp only [go_sem, ro, w1]
  exact done [] _ [(1000, ro m b (rU (m && e == 0) 32 b a e).2.1 (rU (m && e == 0) 32 b a e).2.2)] (by simp only [go_sem]) (by simp only [go_sem, ro]) rfl ⟨rfl, rfl⟩
theorem s_S32 (m : Bool) (b : List UInt8) (a : Nat) (e : Int) (ha : a ≤ b.length) (hb : b.length < 1000000000) :
    RM n_Poctet_Reader_S32 [] m b a e (.int .u64 (IntKind.u64.wrap (IntKind.u32.wrap (rS (m && e == 0) 32 b a e).1))) (rS (m && e == 0) 32 b a e).2.1 (rS (m && e == 0) 32 b a e).2.2 := by
  refine fun_sound (ic := F_Poctet_Reader_S32.body) mixed c_Poctet_Reader_S32 rfl rfl ?_
  simp only [F_Poctet_Reader_S32, ro, go_sem]
  refine call_m (s_signed m 32 b a e (by decide) ha hb) ⟨by decide, by decide⟩ rfl (by simp [go_sem]) rfl rfl (by rfl) ?_
  simp only [go_sem, ro]
  exact done [] _ [(1000, ro m b (rS (m && e == 0) 32 b a e).2.1 (rS (m && e == 0) 32 b a e).2.2)] (by simp only [go_sem]) (by simp only [go_sem, ro]) rfl ⟨rfl, rfl⟩
theorem s_S33 (m : Bool) (b : List UInt8) (a : Nat) (e : Int) (ha : a ≤ b.length) (hb : b.length < 1000000000) :
    RM n_Poctet_Reader_S33 [] m b a e (.int .i64 (rS (m && e == 0) 33 b a e).1) (rS (m && e == 0) 33 b a e).2.1 (rS (m && e == 0) 33 b a e).2.2 := by
  refine fun_sound (ic := F_Poctet_Reader_S33.body) mixed c_Poctet_Reader_S33 rfl rfl ?_
  simp only [F_Poctet_Reader_S33, ro, go_sem]
  refine call_m (s_signed m 33 b a e (by decide) ha hb) ⟨by decide, by decide⟩ rfl (by simp [go_sem]) rfl rfl (by rfl) ?_
  simp only [go_sem, ro]
  exact done [] _ [(1000, ro m b (rS (m && e == 0) 33 b a e).2.1 (rS (m && e == 0) 33 b a e).2.2)] (by simp only [go_sem]) (by simp only [go_sem, ro]) rfl ⟨rfl, rfl⟩
theorem s_S64 (m : Bool) (b : List UInt8) (a : Nat) (e : Int) (ha : a ≤ b.length) (hb : b.length < 1000000000) :
    RM n_Poctet_Reader_S64 [] m b a e (.int .u64 (IntKind.u64.wrap (rS (m && e == 0) 64 b a e).1)) (rS (m && e == 0) 64 b a e).2.1 (rS (m && e == 0) 64 b a e).2.2 := by
  refine fun_sound (ic := F_Poctet_Reader_S64.body) mixed c_Poctet_Reader_S64 rfl rfl ?_
  simp only [F_Poctet_Reader_S64, ro, go_sem]
  refine call_m (s_signed m 64 b a e (by decide) ha hb) ⟨by decide, by decide⟩ rfl (by simp [go_sem]) rfl rfl (by rfl) ?_
  simp only [go_sem, ro]
  exact done [] _ [(1000, ro m b (rS (m && e == 0) 64 b a e).2.1 (rS (m && e == 0) 64 b a e).2.2)] (by simp only [go_sem]) (by simp only [go_sem, ro]) rfl ⟨rfl, rfl⟩

theorem s_count (m : Bool) (b : List UInt8) (a : Nat) (e most : Int) (ha : a ≤ b.length) (hb : b.length < 1000000000) :
    RM n_Poctet_Reader_Count [.int .i64 most] m b a e (.int .i64 (rCount (m && e == 0) b a e most).1) (rCount (m && e == 0) b a e most).2.1 (rCount (m && e == 0) b a e most).2.2 := by
  refine fun_sound (ic := F_Poctet_Reader_Count.body) mixed c_Poctet_Reader_Count rfl rfl ?_
  simp only [F_Poctet_Reader_Count, ro, go_sem]
  refine call_m (s_sound m b a e) ⟨by decide, by decide⟩ rfl (by simp) rfl rfl (by rfl) ?_
  cases h : (m && e == 0)
  · have r : rCount false b a e most = (0, a, e) := by simp [rCount]
    simp only [go_sem, ro, r]
    exact done [] _ [(1000, ro m b a e)] (by simp only [go_sem]; rfl) (by simp only [go_sem, ro]) rfl ⟨rfl, rfl⟩
  · obtain ⟨rfl, h2⟩ := Bool.and_eq_true_iff.1 h
    obtain rfl : e = 0 := by simpa using h2
    simp only [go_sem, ro]
    refine call_m (s_U32 true b a 0 ha hb) ⟨by decide, by decide⟩ rfl (by simp [go_sem]) rfl rfl (by rfl) ?_
    rw [h]
    by_cases hq : (rU true 32 b a 0).2.2 = 0
    · have d : ((rU true 32 b a 0).2.2 == 0) = true := by simp [hq]
      by_cases hm : ((rU true 32 b a 0).1 : Int) > most
      · have d2 : decide (((rU true 32 b a 0).1 : Int) > most) = true := by simpa using hm
        have r : rCount true b a 0 most = (0, a, 6) := by simp only [rCount, if_true]; rw [if_pos ⟨hq, hm⟩]
        simp only [go_sem, ro, d, d2, hq]
        refine call_m (s_fail_ok b a 6) ⟨by decide, by decide⟩ rfl (by simp [go_sem]) rfl rfl (by rfl) ?_
        rw [r]
        simp only [go_sem, ro]
        exact done [] _ [(1000, ro true b a 6)] (by simp only [go_sem]; rfl) (by simp only [go_sem, ro]) rfl ⟨rfl, rfl⟩
      · have d2 : decide (((rU true 32 b a 0).1 : Int) > most) = false := by simpa using hm
        have r : rCount true b a 0 most = rU true 32 b a 0 := by simp only [rCount, if_true]; rw [if_neg (fun hh => hm hh.2)]
        rw [r]
        simp only [go_sem, ro, d, d2]
        exact done [] _ [(1000, ro true b (rU true 32 b a 0).2.1 (rU true 32 b a 0).2.2)] (by simp only [go_sem]) (by simp only [go_sem, ro]) rfl ⟨rfl, rfl⟩
    · have d : ((rU true 32 b a 0).2.2 == 0) = false := by simp [hq]
      have r : rCount true b a 0 most = rU true 32 b a 0 := by simp only [rCount, if_true]; rw [if_neg (fun hh => hq hh.1)]
      rw [r]
      simp only [go_sem, ro, d]
      exact done [] _ [(1000, ro true b (rU true 32 b a 0).2.1 (rU true 32 b a 0).2.2)] (by simp only [go_sem]) (by simp only [go_sem, ro]) rfl ⟨rfl, rfl⟩
end Go.Proofs.YtdhiiannngjjpaaDoor
set_option linter.unusedSimpArgs false
set_option maxRecDepth 100000
set_option maxHeartbeats 4000000
set_option linter.unusedVariables false
namespace Go.Proofs.YtdhiiannngjjpaaDoor
open Go Go.Mw
-- @U: rx, ro, slv_none, slv_some

attribute [go_sem] bne_self_eq_false Bool.false_eq_true
def rx (b : List UInt8) (a e : Int) : AV := .agg [.sl 1 (b.map by_), .int .i64 a, .int .i64 e]

end Go.Proofs.YtdhiiannngjjpaaDoor
set_option linter.unusedSimpArgs false
set_option maxRecDepth 100000
set_option maxHeartbeats 4000000
set_option linter.unusedVariables false
namespace Go.Proofs.YtdhiiannngjjpaaDoor
open Go Go.Mw
-- @U: rx, ro, slv_none, slv_some

section
variable (b : List UInt8) (a : Nat) (e : Int) (ha : a ≤ b.length) (hb : b.length < 1000000000)
include ha hb
end
end Go.Proofs.YtdhiiannngjjpaaDoor
set_option linter.unusedSimpArgs false
set_option maxRecDepth 100000
set_option maxHeartbeats 4000000
set_option linter.unusedVariables false
namespace Go.Proofs.YtdhiiannngjjpaaDoor
open Go Go.Mw

theorem s_read (b : List UInt8) (hb : b.length < 1000000000) : ACalls Tryd.prog n_octet_Read [.sl 1 (b.map by_)] [] sb (fun r' σ' => r' = .mp 6 4 0 0 ∧ σ' = [(6, ro true b ((0 : Nat) : Int) 0)]) := by
  refine fun_sound (ic := F_octet_Read.body) mixed c_octet_Read rfl rfl ?_
  simp only [F_octet_Read, go_sem]
  refine ⟨by omega, done [4] _ [(6, ro true b ((0 : Nat) : Int) 0)] (by simp only [go_sem]) ?_ rfl ⟨rfl, rfl⟩⟩
  simp only [go_sem, ro, Nat.le_refl, List.length_map]
  rw [List.take_of_length_le (by simp)]
  rfl
theorem call_wnew {d : Option Nat} {s : St} {K : St → Prop} (k j : Nat) (hk : k < 1000) (hj : j < 1000 ∨ 2000 < j) (hkj : k ≠ j) (hfk : hget s.heap k = none) (hfj : hget s.heap j = none)
    (hK : K ((St.mk (purEs [k, j] s.env) ((k, wo j true [] 0) :: (j, wa []) :: purHs [k, j] s.heap)).put d (.mp k 3 0 0))) : icall Tryd.prog n_octet_New [] d s K := by
  have e0 : fw [(2, k), (2000, j)] 2 = k := by
    simp only [fw]; unfold swp
    have q : ¬ k = 2000 := by omega
    simp [q, hkj]
  have e1 : fw [(2, k), (2000, j)] 2000 = j := by
    simp only [fw]; unfold swp
    have q : ¬ (2000 = k) := by omega
    simp [q]
  refine call_obj (σ2 := []) (r3 := .mp k 3 0 0) (σ3 := [(k, wo j true [] 0), (j, wa [])]) s_wnew [(2, k), (2000, j)] [k, j] rfl rfl ?_ ?_ (fun p hp => by cases hp) (fun p hp => ?_) (fun p hp => by cases hp) hK
  · simp only [renV, renG, renC, renP, e0]
  · simp only [renH, renO, wo, wa, if_true, List.map_cons, List.map_nil, renC, renP, e0, e1, Bool.false_eq_true, if_false]
  · simp only [List.mem_cons, List.not_mem_nil, or_false] at hp
    rcases hp with rfl | rfl
    · exact .inr ⟨by simp, .inl hk, .inr hfk⟩
    · exact .inr ⟨by simp, by rcases hj with h | h <;> omega, .inr hfj⟩

theorem bytes_by : ∀ l : List UInt8, bytesA (l.map by_) = some l
  | [] => rfl
  | b :: l => by
    simp only [List.map_cons, by_, bytesA, bytes_by l, Option.map_some, Int.toNat_natCast, UInt8.ofNat_toNat]
end Go.Proofs.YtdhiiannngjjpaaDoor
set_option linter.unusedSimpArgs false
set_option maxRecDepth 100000
set_option maxHeartbeats 4000000
set_option linter.unusedVariables false
namespace Go.Proofs.YtdhiiannngjjpaaDoor
open Go Go.Mw

end Go.Proofs.YtdhiiannngjjpaaDoor
set_option linter.unusedSimpArgs false
set_option maxRecDepth 100000
set_option maxHeartbeats 4000000
set_option linter.unusedVariables false
namespace Go.Proofs.YtdhiiannngjjpaaDoor
open Go Go.Mw
-- @U: rx, ro, slv_none, slv_some

end Go.Proofs.YtdhiiannngjjpaaDoor
set_option linter.unusedSimpArgs false
set_option maxRecDepth 100000
set_option maxHeartbeats 4000000
set_option linter.unusedVariables false
namespace Go.Proofs.YtdhiiannngjjpaaDoor
open Go Go.Mw
-- @U: rx, ro, slv_none, slv_some

end Go.Proofs.YtdhiiannngjjpaaDoor
set_option linter.unusedSimpArgs false
set_option maxRecDepth 100000
set_option maxHeartbeats 4000000
set_option linter.unusedVariables false
set_option linter.unusedSectionVars false
namespace Go.Proofs.YtdhiiannngjjpaaDoor
open Go Go.Mw
-- @U: rx, ro, slv_none, slv_some

section
variable (n : Int) (b : List UInt8) (a : Nat) (e : Int) (b2 : List UInt8) (a2 : Nat) (e2 : Int) (hn : -9223372036854775808 ≤ n ∧ n < 9223372036854775808) (ha : a ≤ b.length) (hb : b.length < 1000000000) (ha2 : a2 ≤ b2.length) (hb2 : b2.length < 1000000000)
include hn ha hb ha2 hb2
end
end Go.Proofs.YtdhiiannngjjpaaDoor
set_option linter.unusedSimpArgs false
set_option maxRecDepth 100000
set_option maxHeartbeats 4000000
set_option linter.unusedVariables false
namespace Go.Proofs.YtdhiiannngjjpaaDoor
open Go Go.Mw
-- @U: rx, ro, slv_none, slv_some

end Go.Proofs.YtdhiiannngjjpaaDoor
set_option linter.unusedSimpArgs false
set_option maxRecDepth 100000
set_option maxHeartbeats 4000000
set_option linter.unusedVariables false
namespace Go.Proofs.YtdhiiannngjjpaaDoor
open Go Go.Mw
-- @U: rx, ro, slv_none, slv_some

def act_ (x : Int × Int) : List AV := [.int .i64 x.1, .int .i64 x.2]
theorem act_e (x : Int × Int) : act_ x = [.int .i64 x.1, .int .i64 x.2] := rfl
attribute [go_sem] act_e
end Go.Proofs.YtdhiiannngjjpaaDoor
set_option linter.unusedSimpArgs false
set_option maxRecDepth 100000
set_option maxHeartbeats 4000000
set_option linter.unusedVariables false
namespace Go.Proofs.YtdhiiannngjjpaaDoor
open Go Go.Mw
-- @U: wo, wa, slv_none, slv_some

theorem doneW {l : List IRes} {s : St} {r : AV} {m : Bool} {x : List UInt8} {y : Int} {e : IX} (he : ∀ j, e ≠ .ext j) (h1 : iret l s = some r) (h2 : hget s.heap 1000 = some (wo 2000 m x y)) (h3 : hget s.heap 2000 = some (wa x)) (h4 : idsV r = []) :
    Done l (fun r' σ' => r' = r ∧ σ' = [(1000, wo 2000 m x y), (2000, wa x)]) e s := by
  refine ⟨he, s, fun _ _ _ h => h, [], r, [(1000, wo 2000 m x y), (2000, wa x)], h1, fun i o hi => ?_, clB_closed ?_, rfl, rfl⟩
  · simp only [hget] at hi
    split at hi
    · rename_i hki; subst hki; cases hi; exact h2
    · split at hi
      · rename_i hki; subst hki; cases hi; exact h3
      · cases hi
  · rw [clB, h4]; rfl
def wS (ok : Bool) (l : List UInt8) (n : Int) : List UInt8 := wB ok l (putS n)
def wS33 (ok : Bool) (l : List UInt8) (e n : Int) : List UInt8 × Int := if n < -4294967296 ∨ n > 4294967295 then (l, if ok = true then 1 else e) else (wS ok l n, e)
def s32 (x : Int) : Int := IntKind.i64.wrap (IntKind.i32.wrap (IntKind.u32.wrap x))
theorem s32_in (x : Int) : -2147483648 ≤ s32 x ∧ s32 x < 2147483648 := by
  unfold s32
  rw [w_i64, w_i32]
  omega
theorem i64_in (x : Int) : inI (IntKind.i64.wrap x) := by unfold inI; rw [w_i64]; omega
theorem putS_10 {n : Int} (h : inI n) : (putS n).length ≤ 10 := putS_len (k := 9) (by unfold inI at h; omega) (by unfold inI at h; omega)
section
variable (m : Bool) (l : List UInt8) (e : Int) (hl : l.length < 50000000000)
include hl
theorem s_wS32 (x : Int) : WM n_Poctet_Writer_S32 [.int .u64 x] m l e (.tup []) (wS (m && e == 0) l (s32 x)) e := by
  refine fun_sound (ic := F_Poctet_Writer_S32.body) mixed c_Poctet_Writer_S32 rfl rfl ?_
  have h1 := s32_in x
  have h2 := putS_10 (n := s32 x) ⟨by omega, by omega⟩
  simp only [go_sem, wo, wa, F_Poctet_Writer_S32]
  refine call_same (s_PutS (s32 x) (by omega)) (by simp [go_sem, wo, wa]) ?_
  simp only [go_sem, wo, wa]
  refine call_w [] (k := 1000) (j := 2000) (s_wbytes m l (putS (s32 x)) e ⟨by omega, by omega⟩) (by decide) (by decide) (by decide) (by decide) (by first | rfl | simp [go_sem, slv_ids, wo, wa]) (by simp [go_sem, wo, wa]) (by rfl) (by rfl) (by rfl) ?_
  simp only [go_sem, wo, wa]
  exact doneW (fun _ h => by cases h) (by simp only [go_sem, wo, wa]) (by simp only [go_sem, wo, wa]; rfl) (by simp only [go_sem, wo, wa]; rfl) rfl
theorem s_wS64 (x : Int) : WM n_Poctet_Writer_S64 [.int .u64 x] m l e (.tup []) (wS (m && e == 0) l (IntKind.i64.wrap x)) e := by
  refine fun_sound (ic := F_Poctet_Writer_S64.body) mixed c_Poctet_Writer_S64 rfl rfl ?_
  have h2 := putS_10 (i64_in x)
  simp only [go_sem, wo, wa, F_Poctet_Writer_S64]
  refine call_same (s_PutS (IntKind.i64.wrap x) (i64_in x)) (by simp [go_sem, wo, wa]) ?_
  simp only [go_sem, wo, wa]
  refine call_w [] (k := 1000) (j := 2000) (s_wbytes m l (putS (IntKind.i64.wrap x)) e ⟨by omega, by omega⟩) (by decide) (by decide) (by decide) (by decide) (by first | rfl | simp [go_sem, slv_ids, wo, wa]) (by simp [go_sem, wo, wa]) (by rfl) (by rfl) (by rfl) ?_
  simp only [go_sem, wo, wa]
  exact doneW (fun _ h => by cases h) (by simp only [go_sem, wo, wa]) (by simp only [go_sem, wo, wa]; rfl) (by simp only [go_sem, wo, wa]; rfl) rfl
theorem s_wS33 (x : Int) (hx : inI x) : WM n_Poctet_Writer_S33 [.int .i64 x] m l e (.tup []) (wS33 (m && e == 0) l e x).1 (wS33 (m && e == 0) l e x).2 := by
  refine fun_sound (ic := F_Poctet_Writer_S33.body) mixed c_Poctet_Writer_S33 rfl rfl ?_
  by_cases h1 : x < -4294967296
  · have r : wS33 (m && e == 0) l e x = (l, if (m && e == 0) = true then 1 else e) := by simp [wS33, h1]
    rw [r]
    simp only [go_sem, wo, wa, F_Poctet_Writer_S33, decide_eq_true h1]
    refine call_w [] (k := 1000) (j := 2000) (s_wfail m l e 1) (by decide) (by decide) (by decide) (by decide) (by first | rfl | simp [go_sem, slv_ids, wo, wa]) (by simp [go_sem, wo, wa]) (by rfl) (by rfl) (by rfl) ?_
    simp only [go_sem, wo, wa]
    exact doneW (fun _ h => by cases h) (by simp only [go_sem, wo, wa]) (by simp only [go_sem, wo, wa]) (by simp only [go_sem, wo, wa]) rfl
  · by_cases h2 : x > 4294967295
    · have r : wS33 (m && e == 0) l e x = (l, if (m && e == 0) = true then 1 else e) := by simp [wS33, h2]
      rw [r]
      simp only [go_sem, wo, wa, F_Poctet_Writer_S33, decide_eq_false h1, decide_eq_true h2]
      refine call_w [] (k := 1000) (j := 2000) (s_wfail m l e 1) (by decide) (by decide) (by decide) (by decide) (by first | rfl | simp [go_sem, slv_ids, wo, wa]) (by simp [go_sem, wo, wa]) (by rfl) (by rfl) (by rfl) ?_
      simp only [go_sem, wo, wa]
      exact doneW (fun _ h => by cases h) (by simp only [go_sem, wo, wa]) (by simp only [go_sem, wo, wa]) (by simp only [go_sem, wo, wa]) rfl
    · have r : wS33 (m && e == 0) l e x = (wS (m && e == 0) l x, e) := by simp [wS33, h1, h2]
      have h3 := putS_10 hx
      rw [r]
      simp only [go_sem, wo, wa, F_Poctet_Writer_S33, decide_eq_false h1, decide_eq_false h2]
      refine call_same (s_PutS x hx) (by simp [go_sem, wo, wa]) ?_
      simp only [go_sem, wo, wa]
      refine call_w [] (k := 1000) (j := 2000) (s_wbytes m l (putS x) e ⟨by omega, by omega⟩) (by decide) (by decide) (by decide) (by decide) (by first | rfl | simp [go_sem, slv_ids, wo, wa]) (by simp [go_sem, wo, wa]) (by rfl) (by rfl) (by rfl) ?_
      simp only [go_sem, wo, wa]
      exact doneW (fun _ h => by cases h) (by simp only [go_sem, wo, wa]) (by simp only [go_sem, wo, wa]; rfl) (by simp only [go_sem, wo, wa]; rfl) rfl

end
end Go.Proofs.YtdhiiannngjjpaaDoor
set_option linter.unusedVariables false
namespace Go.Proofs.YtdhiiannngjjpaaDoor
open Go Go.Mw

def ends (l : List UInt8) : Prop := 0 < l.length ∧ (∀ i, i + 1 < l.length → 128 ≤ (nth l i).toNat) ∧ (nth l (l.length - 1)).toNat < 128
theorem ends_one {x : UInt8} (h : x.toNat < 128) : ends [x] := ⟨by simp, fun i hi => absurd hi (by simp), h⟩
theorem ends_cons {x : UInt8} {l : List UInt8} (hx : 128 ≤ x.toNat) (h : ends l) : ends (x :: l) := by
  obtain ⟨h1, h2, h3⟩ := h
  refine ⟨by simp, fun i hi => ?_, ?_⟩
  · cases i with
    | zero => exact hx
    | succ i => rw [nth_succ]; exact h2 i (by simpa using hi)
  · rw [List.length_cons, Nat.add_sub_cancel, show l.length = (l.length - 1) + 1 by omega, nth_succ]
    exact h3
theorem putU_ends (n : Nat) : ends (putU n) := by
  induction n using Nat.strongRecOn with
  | _ n ih =>
    by_cases h : n < 128
    · rw [putU_lo h]; exact ends_one (by rw [ofNat_toNat (by omega)]; exact h)
    · rw [putU_hi h]
      exact ends_cons (by rw [ofNat_toNat (by omega)]; omega) (ih (n / 128) (by omega))
theorem putS_ends_aux : ∀ (k : Nat) (n : Int), n.natAbs ≤ k → ends (putS n) := by
  intro k
  induction k with
  | zero => intro n h; rw [putS_lo (by omega)]; exact ends_one (by rw [ofNat_toNat (by omega)]; omega)
  | succ k ih =>
    intro n h
    by_cases h1 : -64 ≤ n ∧ n ≤ 63
    · rw [putS_lo h1]; exact ends_one (by rw [ofNat_toNat (by omega)]; omega)
    · rw [putS_hi h1]
      exact ends_cons (by rw [ofNat_toNat (by omega)]; omega) (ih (n / 128) (by omega))
theorem putS_ends (n : Int) : ends (putS n) := putS_ends_aux _ n (Nat.le_refl _)

theorem lst_ends {l r : List UInt8} (h : ends l) : ∀ (d i f : Nat), i + d + 1 = l.length → d < f → lst (l ++ r) f i = (0, l.length - 1)
  | 0, i, f, hi, hf => by
    obtain ⟨g, rfl⟩ : ∃ g, f = g + 1 := ⟨f - 1, by omega⟩
    have hl : i = l.length - 1 := by omega
    have hn : nth (l ++ r) i = nth l i := nth_app_l (by omega)
    have := h.2.2
    rw [lst, if_neg (by simp; omega), hn, hl, if_neg (by omega)]
  | d + 1, i, f, hi, hf => by
    obtain ⟨g, rfl⟩ : ∃ g, f = g + 1 := ⟨f - 1, by omega⟩
    have hn : nth (l ++ r) i = nth l i := nth_app_l (by omega)
    have := h.2.1 i (by omega)
    rw [lst, if_neg (by simp; omega), hn, if_pos this]
    exact lst_ends h d (i + 1) g (by omega) (by omega)
theorem lst_enc {l r : List UInt8} {bits : Nat} (h : ends l) (hl : l.length ≤ mst bits) : lstE (l ++ r) bits = 0 ∧ lstI (l ++ r) bits = l.length - 1 := by
  have := lst_ends (r := r) h (l.length - 1) 0 (mst bits) (by have := h.1; omega) (by have := h.1; omega)
  exact ⟨by rw [lstE, this], by rw [lstI, this]⟩

theorem val7_putU (n : Nat) : val7 (putU n) = n := by
  induction n using Nat.strongRecOn with
  | _ n ih =>
    by_cases h : n < 128
    · rw [putU_lo h]
      simp only [val7, ofNat_toNat (show n < 256 by omega)]
      omega
    · rw [putU_hi h]
      simp only [val7, ofNat_toNat (show n % 128 + 128 < 256 by omega), ih (n / 128) (by omega)]
      omega
theorem last_putU (n : Nat) : (nth (putU n) ((putU n).length - 1)).toNat = n / 128 ^ ((putU n).length - 1) := by
  induction n using Nat.strongRecOn with
  | _ n ih =>
    by_cases h : n < 128
    · rw [putU_lo h]
      simp [nth, ofNat_toNat (show n < 256 by omega)]
    · rw [putU_hi h]
      have hp := putU_pos (n / 128)
      rw [List.length_cons, Nat.add_sub_cancel, show (putU (n / 128)).length = ((putU (n / 128)).length - 1) + 1 by omega, nth_succ, ih (n / 128) (by omega), Nat.pow_succ, Nat.mul_comm, ← Nat.div_div_eq_div_mul]
theorem two_pow7 (i : Nat) : 128 ^ i = 2 ^ (7 * i) := by rw [show (128 : Nat) = 2 ^ 7 from rfl, ← Nat.pow_mul]
theorem putU_mst {n bits : Nat} (hb : 1 ≤ bits) (hn : n < 2 ^ bits) : (putU n).length ≤ mst bits := by
  obtain ⟨k, hk⟩ : ∃ k, mst bits = k + 1 := ⟨mst bits - 1, by unfold mst; omega⟩
  rw [hk]
  refine putU_len (k := k) (Nat.lt_of_lt_of_le hn ?_)
  rw [two_pow7]
  exact Nat.pow_le_pow_right (by decide) (by unfold mst at hk; omega)
theorem decU_putU {n bits : Nat} (r : List UInt8) (hb : 1 ≤ bits ∧ bits ≤ 64) (hn : n < 2 ^ bits) : decU (putU n ++ r) bits = (n, (putU n).length, 0) := by
  have hl := putU_mst hb.1 hn
  have hp := putU_pos n
  obtain ⟨h1, h2⟩ := lst_enc (r := r) (putU_ends n) hl
  have h64 : n < 18446744073709551616 := Nat.lt_of_lt_of_le hn (Nat.pow_le_pow_right (by decide) hb.2 : 2 ^ bits ≤ 2 ^ 64)
  have h3 : (nth (putU n ++ r) ((putU n).length - 1)).toNat / 2 ^ cnt bits ((putU n).length - 1) = 0 := by
    rw [nth_app_l (by omega)]
    unfold cnt
    split
    · rename_i hq
      rw [last_putU, two_pow7, Nat.div_div_eq_div_mul, ← Nat.pow_add, show 7 * ((putU n).length - 1) + (bits - 7 * ((putU n).length - 1)) = bits by unfold mst at hq; omega]
      exact Nat.div_eq_of_lt hn
    · exact Nat.div_eq_of_lt (putU_ends n).2.2
  rw [decU, if_neg (by rw [h1]; simp), h2, if_neg (by rw [h3]; simp)]
  rw [show (putU n).length - 1 + 1 = (putU n).length by omega, List.take_left, val7_putU, Nat.mod_eq_of_lt h64]
end Go.Proofs.YtdhiiannngjjpaaDoor
set_option linter.unusedVariables false
namespace Go.Proofs.YtdhiiannngjjpaaDoor
open Go Go.Mw

theorem putS_pos (n : Int) : 0 < (putS n).length := (putS_ends n).1
theorem putS_spec : ∀ (k : Nat) (n : Int), n.natAbs ≤ k → ((val7 (putS n) : Int) - (if 64 ≤ (nth (putS n) ((putS n).length - 1)).toNat % 128 then 128 ^ (putS n).length else 0) = n) ∧
    (nth (putS n) ((putS n).length - 1)).toNat = ((n / 128 ^ ((putS n).length - 1)) % 128).toNat ∧ -64 ≤ n / 128 ^ ((putS n).length - 1) ∧ n / 128 ^ ((putS n).length - 1) ≤ 63 := by
  have base : ∀ n : Int, -64 ≤ n ∧ n ≤ 63 → ((val7 (putS n) : Int) - (if 64 ≤ (nth (putS n) ((putS n).length - 1)).toNat % 128 then 128 ^ (putS n).length else 0) = n) ∧
    (nth (putS n) ((putS n).length - 1)).toNat = ((n / 128 ^ ((putS n).length - 1)) % 128).toNat ∧ -64 ≤ n / 128 ^ ((putS n).length - 1) ∧ n / 128 ^ ((putS n).length - 1) ≤ 63 := fun n h => by
    have e : (UInt8.ofNat (n % 128).toNat).toNat = (n % 128).toNat := ofNat_toNat (by omega)
    have n0 : nth [UInt8.ofNat (n % 128).toNat] 0 = UInt8.ofNat (n % 128).toNat := rfl
    rw [putS_lo h]
    simp only [List.length_singleton, Nat.sub_self, Int.pow_zero, Int.ediv_one, n0, e, val7, Nat.mul_zero, Nat.add_zero, Int.pow_one]
    refine ⟨?_, trivial, h.1, h.2⟩
    split <;> omega
  intro k
  induction k with
  | zero => intro n h; exact base n (by omega)
  | succ k ih =>
    intro n h
    by_cases h1 : -64 ≤ n ∧ n ≤ 63
    · exact base n h1
    · obtain ⟨i1, i2, i3, i4⟩ := ih (n / 128) (by omega)
      have e : (UInt8.ofNat ((n % 128).toNat + 128)).toNat = (n % 128).toNat + 128 := ofNat_toNat (by omega)
      have hp := putS_pos (n / 128)
      have hlen : (putS n).length = (putS (n / 128)).length + 1 := by rw [putS_hi h1]; rfl
      have hlast : nth (putS n) ((putS n).length - 1) = nth (putS (n / 128)) ((putS (n / 128)).length - 1) := by
        rw [hlen, Nat.add_sub_cancel, putS_hi h1]
        rw [show (putS (n / 128)).length = ((putS (n / 128)).length - 1) + 1 by omega, nth_succ]
        rfl
      have hdiv : n / 128 ^ ((putS n).length - 1) = n / 128 / 128 ^ ((putS (n / 128)).length - 1) := by
        rw [hlen, Nat.add_sub_cancel, show (128 : Int) ^ (putS (n / 128)).length = 128 * 128 ^ ((putS (n / 128)).length - 1) by
          rw [show (putS (n / 128)).length = ((putS (n / 128)).length - 1) + 1 by omega, Int.pow_succ, Nat.add_sub_cancel, Int.mul_comm], Int.ediv_ediv, if_neg (fun h => absurd h.1 (by decide)), Int.sub_zero]
      rw [hlast, hdiv]
      refine ⟨?_, i2, i3, i4⟩
      have hv : (val7 (putS n) : Int) = n % 128 + 128 * val7 (putS (n / 128)) := by
        rw [putS_hi h1]
        simp only [val7, e]
        omega
      rw [hv, hlen, Int.pow_succ]
      generalize (128 : Int) ^ (putS (n / 128)).length = p at *
      split
      · rename_i h2
        rw [if_pos h2] at i1
        omega
      · rename_i h2
        rw [if_neg h2] at i1
        omega
theorem pow128 (k : Nat) : (128 : Int) ^ k = ((2 ^ (7 * k) : Nat) : Int) := by
  rw [← two_pow7, Int.natCast_pow]
  rfl
theorem putS_mst {n : Int} {bits : Nat} (hb : 1 ≤ bits) (h1 : -(2 ^ (bits - 1) : Int) ≤ n) (h2 : n < 2 ^ (bits - 1)) : (putS n).length ≤ mst bits := by
  obtain ⟨k, hk⟩ : ∃ k, mst bits = k + 1 := ⟨mst bits - 1, by unfold mst; omega⟩
  rw [hk]
  have e : (2 : Int) ^ (bits - 1) ≤ 64 * 128 ^ k := by
    rw [pow128, show (64 : Int) = ((2 ^ 6 : Nat) : Int) from rfl, ← Int.natCast_mul, ← Nat.pow_add, show (2 : Int) ^ (bits - 1) = ((2 ^ (bits - 1) : Nat) : Int) by rw [Int.natCast_pow]; rfl]
    exact Int.ofNat_le.2 (Nat.pow_le_pow_right (by decide) (by unfold mst at hk; omega))
  exact putS_len (k := k) (by omega) (by omega)
theorem top_ok {c : Nat} {m : Int} (hc : 1 ≤ c ∧ c ≤ 7) (h1 : -(2 ^ (c - 1) : Int) ≤ m) (h2 : m < 2 ^ (c - 1)) : (m % 128).toNat / 2 ^ (c - 1) = 0 ∨ (m % 128).toNat / 2 ^ (c - 1) = 127 / 2 ^ (c - 1) := by
  have : c = 1 ∨ c = 2 ∨ c = 3 ∨ c = 4 ∨ c = 5 ∨ c = 6 ∨ c = 7 := by omega
  rcases this with rfl | rfl | rfl | rfl | rfl | rfl | rfl <;> simp at h1 h2 ⊢ <;> omega
theorem decS_putS {n : Int} {bits : Nat} (r : List UInt8) (hb : 1 ≤ bits ∧ bits ≤ 64) (h1 : -(2 ^ (bits - 1) : Int) ≤ n) (h2 : n < 2 ^ (bits - 1)) : decS (putS n ++ r) bits = (n, (putS n).length, 0) := by
  have hl := putS_mst hb.1 h1 h2
  have hp := putS_pos n
  obtain ⟨s1, s2, s3, s4⟩ := putS_spec _ n (Nat.le_refl _)
  obtain ⟨g1, g2⟩ := lst_enc (r := r) (putS_ends n) hl
  have hx : nth (putS n ++ r) ((putS n).length - 1) = nth (putS n) ((putS n).length - 1) := nth_app_l (by omega)
  have hi : inI n := by
    have : (2 : Int) ^ (bits - 1) ≤ 2 ^ 63 := by
      rw [show (2 : Int) ^ (bits - 1) = ((2 ^ (bits - 1) : Nat) : Int) by rw [Int.natCast_pow]; rfl, show (2 : Int) ^ 63 = ((2 ^ 63 : Nat) : Int) by rw [Int.natCast_pow]; rfl]
      exact Int.ofNat_le.2 (Nat.pow_le_pow_right (by decide) (by omega))
    unfold inI
    omega
  have hc := cnt_le hb (i := (putS n).length - 1) (by omega)
  have ht : (nth (putS n ++ r) ((putS n).length - 1)).toNat / 2 ^ (cnt bits ((putS n).length - 1) - 1) = 0 ∨ (nth (putS n ++ r) ((putS n).length - 1)).toNat / 2 ^ (cnt bits ((putS n).length - 1) - 1) = 127 / 2 ^ (cnt bits ((putS n).length - 1) - 1) := by
    rw [hx, s2]
    refine top_ok hc ?_ ?_
    · unfold cnt
      split
      · rename_i hq
        have e : (2 : Int) ^ (bits - 1) = 2 ^ (bits - 7 * ((putS n).length - 1) - 1) * 128 ^ ((putS n).length - 1) := by
          rw [pow128, show (2 : Int) ^ (bits - 1) = ((2 ^ (bits - 1) : Nat) : Int) by rw [Int.natCast_pow]; rfl, show (2 : Int) ^ (bits - 7 * ((putS n).length - 1) - 1) = ((2 ^ (bits - 7 * ((putS n).length - 1) - 1) : Nat) : Int) by rw [Int.natCast_pow]; rfl, ← Int.natCast_mul, ← Nat.pow_add]
          congr 2
          unfold mst at hq
          omega
        rw [e, ← Int.neg_mul] at h1
        exact (Int.le_ediv_iff_mul_le (Int.pow_pos (by decide))).2 h1
      · exact s3
    · unfold cnt
      split
      · rename_i hq
        have e : (2 : Int) ^ (bits - 1) = 2 ^ (bits - 7 * ((putS n).length - 1) - 1) * 128 ^ ((putS n).length - 1) := by
          rw [pow128, show (2 : Int) ^ (bits - 1) = ((2 ^ (bits - 1) : Nat) : Int) by rw [Int.natCast_pow]; rfl, show (2 : Int) ^ (bits - 7 * ((putS n).length - 1) - 1) = ((2 ^ (bits - 7 * ((putS n).length - 1) - 1) : Nat) : Int) by rw [Int.natCast_pow]; rfl, ← Int.natCast_mul, ← Nat.pow_add]
          congr 2
          unfold mst at hq
          omega
        rw [e] at h2
        exact Int.ediv_lt_of_lt_mul (Int.pow_pos (by decide)) h2
      · omega
  rw [decS, if_neg (by rw [g1]; simp), g2, if_neg (by rcases ht with ht | ht <;> simp [ht])]
  have e1 : (putS n).length - 1 + 1 = (putS n).length := by omega
  have e2 : sgn (putS n ++ r) ((putS n).length - 1) = n := by
    unfold sgn
    rw [e1, List.take_left, hx, show (2 : Int) ^ (7 * (putS n).length) = 128 ^ (putS n).length by rw [pow128, Int.natCast_pow]; rfl, s1]
    exact wi hi.1 hi.2
  rw [e1, e2]
end Go.Proofs.YtdhiiannngjjpaaDoor
