/-
  Chapter 1, walks: leb.PutU, leb.PutS.
-/
import Derived.Test.YtkejmhpodhbeeaaDoorO3
set_option linter.unusedSimpArgs false
set_option maxRecDepth 100000
set_option maxHeartbeats 4000000
namespace Go.Proofs.YtkejmhpodhbeeaaDoor
open Go Go.Mw

theorem s_PutU (n : Nat) (hn : n < 18446744073709551616) : PCalls Tryd.prog n_leb_PutU [.nl, .int .u64 n] (.sl 1 ((putU n).map by_)) := by
  refine pfun_sound (ic := F_leb_PutU.body) mixed c_leb_PutU rfl rfl ?_
  simp only [F_leb_PutU, go_sem, ↓reduceIte, Nat.reduceEqDiff, Nat.reduceLT, reduceCtorEq, Nat.reduceAdd, Nat.zero_add, decide_eq_true_eq, decide_eq_false_iff_not, Nat.reduceLeDiff, Nat.reduceBEq, Nat.reduceBNe, beq_self_eq_true, Int.reduceNeg, Int.reduceToNat, Nat.lt_add_one]
  have a0 : appO 6 5 1 0 0 [] (some ⟨5, 1, [], false⟩) = some (.ms 6 1 0 0, .reb 6 ⟨5, 1, [], false⟩) := rfl
  simp only [go_sem, ↓reduceIte, Nat.reduceEqDiff, Nat.reduceLT, reduceCtorEq, Nat.reduceAdd, Nat.zero_add, decide_eq_true_eq, decide_eq_false_iff_not, Nat.reduceLeDiff, Nat.reduceBEq, Nat.reduceBNe, beq_self_eq_true, Int.reduceNeg, Int.reduceToNat, Nat.lt_add_one, a0]
  refine loop_rule (fun q : List UInt8 × Nat => ⟨[(5, .ms 6 1 0 q.1.length), (1, .int .u64 q.2)], [(6, ⟨5, 1, q.1.map by_, false⟩)]⟩) (fun q => q.1 ++ putU q.2 = putU n ∧ q.2 ≤ n) (fun q => q.2) ([], n) ⟨rfl, Nat.le_refl _⟩ (Wk.of ?_ ?_) ?_
  · simp [go_sem]
  · simp [go_sem]
  rintro ⟨acc, m⟩ ⟨hq, hm⟩
  replace hq : acc ++ putU m = putU n := hq
  replace hm : m ≤ n := hm
  have hlen : acc.length + (putU m).length ≤ 10 := by
    have := putU_len (k := 9) (n := n) (by omega)
    rw [← hq] at this
    simpa using this
  have w1 : IntKind.u8.wrap (m : Int) = ((m % 256 : Nat) : Int) := by rw [w_u8]; omega
  have happ := fun ys => appO_map 6 5 1 acc.length by_ acc ys rfl
  by_cases h1 : m < 128
  · have d1 : decide ((m : Int) ≥ 128) = false := by simp; omega
    simp only [go_sem, ↓reduceIte, Nat.reduceEqDiff, Nat.reduceLT, reduceCtorEq, Nat.reduceAdd, Nat.zero_add, decide_eq_true_eq, decide_eq_false_iff_not, Nat.reduceLeDiff, Nat.reduceBEq, Nat.reduceBNe, beq_self_eq_true, Int.reduceNeg, Int.reduceToNat, Nat.lt_add_one, d1, w1, happ]
    refine ⟨by omega, pdone [6] ?_ rfl⟩
    have e1 : m % 256 = m := by omega
    simp only [go_sem, ↓reduceIte, Nat.reduceEqDiff, Nat.reduceLT, reduceCtorEq, Nat.reduceAdd, Nat.zero_add, decide_eq_true_eq, decide_eq_false_iff_not, Nat.reduceLeDiff, Nat.reduceBEq, Nat.reduceBNe, beq_self_eq_true, Int.reduceNeg, Int.reduceToNat, Nat.lt_add_one, w1, ← hq, putU_lo h1, List.map_append, by_of (show m < 256 by omega), e1]
    simp
    exact List.take_of_length_le (by simp)
  · have d1 : decide ((m : Int) ≥ 128) = true := by simp; omega
    have w2 := or128 (x := m % 256) (by omega)
    have e1 : m % 256 % 128 = m % 128 := by omega
    have w3 : b_shr .u64 (m : Int) 7 = ((m / 128 : Nat) : Int) := shr_nat .u64 (x := m) (s := 7) (by decide)
    simp only [go_sem, ↓reduceIte, Nat.reduceEqDiff, Nat.reduceLT, reduceCtorEq, Nat.reduceAdd, Nat.zero_add, decide_eq_true_eq, decide_eq_false_iff_not, Nat.reduceLeDiff, Nat.reduceBEq, Nat.reduceBNe, beq_self_eq_true, Int.reduceNeg, Int.reduceToNat, Nat.lt_add_one, d1, w1, w2, e1, happ]
    refine ⟨by omega, by decide, klp_n (acc ++ [UInt8.ofNat (m % 128 + 128)], m / 128) ⟨by rw [List.append_assoc, ← hq, putU_hi h1]; rfl, by omega⟩ (show m / 128 < m by omega) (Wk.of ?_ ?_)⟩
    · simp only [go_sem, ↓reduceIte, Nat.reduceEqDiff, Nat.reduceLT, reduceCtorEq, Nat.reduceAdd, Nat.zero_add, decide_eq_true_eq, decide_eq_false_iff_not, Nat.reduceLeDiff, Nat.reduceBEq, Nat.reduceBNe, beq_self_eq_true, Int.reduceNeg, Int.reduceToNat, Nat.lt_add_one, w3, List.length_append, List.length_singleton]
    · simp only [go_sem, ↓reduceIte, Nat.reduceEqDiff, Nat.reduceLT, reduceCtorEq, Nat.reduceAdd, Nat.zero_add, decide_eq_true_eq, decide_eq_false_iff_not, Nat.reduceLeDiff, Nat.reduceBEq, Nat.reduceBNe, beq_self_eq_true, Int.reduceNeg, Int.reduceToNat, Nat.lt_add_one, List.map_append, by_of (show m % 128 + 128 < 256 by omega)]

theorem i64_shr (n : Int) : b_shr .i64 n 7 = n / 128 := by
  unfold b_shr
  rw [show min (7 : Int).toNat IntKind.i64.bits = 7 from rfl, Int.fdiv_eq_ediv_of_nonneg _ (by decide)]
  rfl
theorem and_i64 (n : Int) : b_and .i64 n 127 = n % 128 := by
  have key : (BitVec.ofInt 64 n &&& BitVec.ofInt 64 127).toNat = (n % 128).toNat := by
    have h1 : (BitVec.ofInt 64 n).toNat = (n % 18446744073709551616).toNat := by simp [BitVec.toNat_ofInt]
    have h2 : (BitVec.ofInt 64 127).toNat = 2 ^ 7 - 1 := by decide
    rw [BitVec.toNat_and, h1, h2, Nat.and_two_pow_sub_one_eq_mod]
    omega
  show IntKind.i64.wrap ((BitVec.ofInt 64 n &&& BitVec.ofInt 64 127).toNat) = _
  rw [key, w_i64]
  omega
theorem putS_len {k : Nat} : ∀ {n : Int}, -(64 * 128 ^ k : Int) ≤ n → n < 64 * 128 ^ k → (putS n).length ≤ k + 1 := by
  induction k with
  | zero => intro n h1 h2; rw [putS_lo (by omega)]; simp
  | succ k ih =>
    intro n h1 h2
    by_cases h : -64 ≤ n ∧ n ≤ 63
    · rw [putS_lo h]; simp
    · rw [putS_hi h]
      rw [Int.pow_succ] at h1 h2
      generalize (128 : Int) ^ k = p at *
      have := ih (n := n / 128) (by omega) (by omega)
      simp; omega

theorem s_PutS (n : Int) (hn : -9223372036854775808 ≤ n ∧ n < 9223372036854775808) : PCalls Tryd.prog n_leb_PutS [.nl, .int .i64 n] (.sl 1 ((putS n).map by_)) := by
  refine pfun_sound (ic := F_leb_PutS.body) mixed c_leb_PutS rfl rfl ?_
  have a0 : appO 6 5 1 0 0 [] (some ⟨5, 1, [], false⟩) = some (.ms 6 1 0 0, .reb 6 ⟨5, 1, [], false⟩) := rfl
  simp only [F_leb_PutS, go_sem, ↓reduceIte, Nat.reduceEqDiff, Nat.reduceLT, reduceCtorEq, Nat.reduceAdd, Nat.zero_add, decide_eq_true_eq, decide_eq_false_iff_not, Nat.reduceLeDiff, Nat.reduceBEq, Nat.reduceBNe, beq_self_eq_true, Int.reduceNeg, Int.reduceToNat, Nat.lt_add_one, a0]
  refine loop_rule (fun q : List UInt8 × Int => ⟨[(5, .ms 6 1 0 q.1.length), (1, .int .i64 q.2)], [(6, ⟨5, 1, q.1.map by_, false⟩)]⟩) (fun q => q.1 ++ putS q.2 = putS n ∧ -9223372036854775808 ≤ q.2 ∧ q.2 < 9223372036854775808) (fun q => q.2.natAbs) ([], n) ⟨rfl, hn⟩ (Wk.of ?_ ?_) ?_
  · simp [go_sem]
  · simp [go_sem]
  rintro ⟨acc, m⟩ ⟨hq, hm⟩
  replace hq : acc ++ putS m = putS n := hq
  replace hm : -9223372036854775808 ≤ m ∧ m < 9223372036854775808 := hm
  have hlen : acc.length + (putS m).length ≤ 10 := by
    have := putS_len (k := 9) (n := n) (by omega) (by omega)
    rw [← hq] at this
    simpa using this
  have w1 : IntKind.u8.wrap (m : Int) = (((m % 256).toNat : Nat) : Int) := by rw [w_u8]; omega
  have happ := fun ys => appO_map 6 5 1 acc.length by_ acc ys rfl
  have e1 : (m % 256).toNat % 128 = (m % 128).toNat := by omega
  by_cases h1 : -64 ≤ m ∧ m ≤ 63
  · have d1 : decide (m < -64) = false := by simp; omega
    have d2 : decide (m > 63) = false := by simp; omega
    have w2 := and127 (x := (m % 256).toNat) (by omega)
    simp only [go_sem, ↓reduceIte, Nat.reduceEqDiff, Nat.reduceLT, reduceCtorEq, Nat.reduceAdd, Nat.zero_add, decide_eq_true_eq, decide_eq_false_iff_not, Nat.reduceLeDiff, Nat.reduceBEq, Nat.reduceBNe, beq_self_eq_true, Int.reduceNeg, Int.reduceToNat, Nat.lt_add_one, d1, d2, w1, w2, e1, happ]
    refine ⟨by omega, pdone [6] ?_ rfl⟩
    simp only [go_sem, ↓reduceIte, Nat.reduceEqDiff, Nat.reduceLT, reduceCtorEq, Nat.reduceAdd, Nat.zero_add, decide_eq_true_eq, decide_eq_false_iff_not, Nat.reduceLeDiff, Nat.reduceBEq, Nat.reduceBNe, beq_self_eq_true, Int.reduceNeg, Int.reduceToNat, Nat.lt_add_one, ← hq, putS_lo h1, List.map_append, by_of (show (m % 128).toNat < 256 by omega), List.length_singleton]
    simp
    exact List.take_of_length_le (by simp)
  · have w2 := or128 (x := (m % 256).toNat) (by omega)
    have w3 := i64_shr m
    have fin : ∀ s : St, leE s.env [(5, .ms 6 1 0 (acc.length + 1)), (1, .int .i64 (m / 128))] → leH s.heap [(6, ⟨5, 1, acc.map by_ ++ [[.int .u8 (((m % 128).toNat + 128 : Nat) : Int)]], false⟩)] →
        ∀ K, klp (fun q : List UInt8 × Int => ⟨[(5, .ms 6 1 0 q.1.length), (1, .int .i64 q.2)], [(6, ⟨5, 1, q.1.map by_, false⟩)]⟩) (fun q => q.1 ++ putS q.2 = putS n ∧ -9223372036854775808 ≤ q.2 ∧ q.2 < 9223372036854775808) (fun q => q.2.natAbs) (acc, m) K .nrm s := fun s hs1 hs2 K => by
      refine klp_n (acc ++ [UInt8.ofNat ((m % 128).toNat + 128)], m / 128) ⟨by rw [List.append_assoc, ← hq, putS_hi h1]; rfl, by show _ ≤ m / 128; omega, by show m / 128 < _; omega⟩ (show (m / 128).natAbs < m.natAbs by omega) (Wk.of ?_ ?_)
      · simpa only [List.length_append, List.length_singleton] using hs1
      · simpa only [List.map_append, List.map_cons, List.map_nil, by_of (show (m % 128).toNat + 128 < 256 by omega)] using hs2
    by_cases h2 : m < -64
    · have d1 : decide (m < -64) = true := by simp; omega
      simp only [go_sem, ↓reduceIte, Nat.reduceEqDiff, Nat.reduceLT, reduceCtorEq, Nat.reduceAdd, Nat.zero_add, decide_eq_true_eq, decide_eq_false_iff_not, Nat.reduceLeDiff, Nat.reduceBEq, Nat.reduceBNe, beq_self_eq_true, Int.reduceNeg, Int.reduceToNat, Nat.lt_add_one, d1, w1, w2, e1, happ]
      refine ⟨by omega, by decide, fin _ ?_ ?_ _⟩
      · simp only [go_sem, ↓reduceIte, Nat.reduceEqDiff, Nat.reduceLT, reduceCtorEq, Nat.reduceAdd, Nat.zero_add, decide_eq_true_eq, decide_eq_false_iff_not, Nat.reduceLeDiff, Nat.reduceBEq, Nat.reduceBNe, beq_self_eq_true, Int.reduceNeg, Int.reduceToNat, Nat.lt_add_one, w3]
      · simp only [go_sem, ↓reduceIte, Nat.reduceEqDiff, Nat.reduceLT, reduceCtorEq, Nat.reduceAdd, Nat.zero_add, decide_eq_true_eq, decide_eq_false_iff_not, Nat.reduceLeDiff, Nat.reduceBEq, Nat.reduceBNe, beq_self_eq_true, Int.reduceNeg, Int.reduceToNat, Nat.lt_add_one]
    · have d1 : decide (m < -64) = false := by simp; omega
      have d2 : decide (m > 63) = true := by simp; omega
      simp only [go_sem, ↓reduceIte, Nat.reduceEqDiff, Nat.reduceLT, reduceCtorEq, Nat.reduceAdd, Nat.zero_add, decide_eq_true_eq, decide_eq_false_iff_not, Nat.reduceLeDiff, Nat.reduceBEq, Nat.reduceBNe, beq_self_eq_true, Int.reduceNeg, Int.reduceToNat, Nat.lt_add_one, d1, d2, w1, w2, e1, happ]
      refine ⟨by omega, by decide, fin _ ?_ ?_ _⟩
      · simp only [go_sem, ↓reduceIte, Nat.reduceEqDiff, Nat.reduceLT, reduceCtorEq, Nat.reduceAdd, Nat.zero_add, decide_eq_true_eq, decide_eq_false_iff_not, Nat.reduceLeDiff, Nat.reduceBEq, Nat.reduceBNe, beq_self_eq_true, Int.reduceNeg, Int.reduceToNat, Nat.lt_add_one, w3]
      · simp only [go_sem, ↓reduceIte, Nat.reduceEqDiff, Nat.reduceLT, reduceCtorEq, Nat.reduceAdd, Nat.zero_add, decide_eq_true_eq, decide_eq_false_iff_not, Nat.reduceLeDiff, Nat.reduceBEq, Nat.reduceBNe, beq_self_eq_true, Int.reduceNeg, Int.reduceToNat, Nat.lt_add_one]
end Go.Proofs.YtkejmhpodhbeeaaDoor
