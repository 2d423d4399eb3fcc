/-
  Chapter 1, walks: the reference's LEB128.
-/
import Derived.Test.YtkejmhpodhbeeaaDoorQd
import Derived.Test.YtkejmhpodhbeeaaDoorQc
set_option linter.unusedVariables false
set_option linter.unusedSimpArgs false
set_option linter.unusedSectionVars false
set_option linter.unusedSimpArgs false
set_option maxRecDepth 100000
set_option maxHeartbeats 4000000
set_option linter.unusedVariables false
namespace Go.Proofs.YtkejmhpodhbeeaaDoor
open Go Go.Mw

def formR (b : List UInt8) (bits : Nat) : AV := if lstE b bits = 0 then .tup [.int .i64 ((lstI b bits + 1 : Nat) : Int), .int .i64 0] else .tup [.int .i64 0, .int .i64 (lstE b bits)]
theorem s_rform (b : List UInt8) (bits : Nat) (h : 1 ≤ bits ∧ bits ≤ 64) : PCalls Tryd.prog n_ref01_form [.sl 1 (b.map by_), .int .i64 bits] (formR b bits) := by
  have hm : mst bits ≤ 10 ∧ 1 ≤ mst bits ∧ 7 * mst bits ≤ bits + 6 := by unfold mst; omega
  refine pfun_sound (ic := F_ref01_form.body) mixed c_ref01_form rfl rfl ?_
  have d1 : decide ((bits : Int) < 1) = false := decide_eq_false (by omega)
  have d2 : decide ((bits : Int) > 64) = false := decide_eq_false (by omega)
  have e1 : IntKind.i64.wrap ((bits : Int) + 6) = ((bits + 6 : Nat) : Int) := by rw [wi (by omega) (by omega)]; omega
  have e2 : (((bits + 6 : Nat) : Int)).tdiv 7 = (mst bits : Int) := by rw [show (7 : Int) = ((7 : Nat) : Int) from rfl, ← Int.ofNat_tdiv]; rfl
  have e3 : IntKind.i64.wrap (mst bits : Int) = (mst bits : Int) := wi (by omega) (by omega)
  simp only [F_ref01_form, go_sem, d1, d2, e1, e2, e3]
  refine ⟨by omega, ?_⟩
  refine loop_rule (fun i : Nat => ⟨[(7, .int .i64 i), (6, .int .i64 (mst bits)), (0, .sl 1 (b.map by_))], []⟩) (fun i => i ≤ mst bits ∧ i ≤ b.length ∧ lst b (mst bits) 0 = lst b (mst bits - i) i) (fun i => mst bits - i) 0 ⟨Nat.zero_le _, Nat.zero_le _, rfl⟩ (Wk.of ?_ ?_) ?_
  · simp only [go_sem, e1, e2, e3]
    simp
  · simp [go_sem]
  rintro i ⟨hi, hib, hl⟩
  replace hi : i ≤ mst bits := hi
  replace hib : i ≤ b.length := hib
  replace hl : lst b (mst bits) 0 = lst b (mst bits - i) i := hl
  have e8 := wi (n := (i : Int) + 1) (by omega) (by omega)
  by_cases hb : i < b.length
  · have d3 : decide ((i : Int) < (b.length : Int)) = true := decide_eq_true (by omega)
    by_cases hlt : i < mst bits
    · have d4 : decide ((i : Int) < (mst bits : Int)) = true := decide_eq_true (by omega)
      rw [show mst bits - i = (mst bits - (i + 1)) + 1 by omega, lst, if_neg (by omega)] at hl
      by_cases hc : 128 ≤ (nth b i).toNat
      · have d5 : decide (((nth b i).toNat : Int) < 128) = false := decide_eq_false (by omega)
        rw [if_pos hc] at hl
        simp only [go_sem, d3, d4, d5]
        refine ⟨by omega, by omega, klp_n (i + 1) ⟨by omega, by omega, hl⟩ (show mst bits - (i + 1) < mst bits - i by omega) (Wk.of ?_ ?_)⟩
        · simp only [go_sem, e8]; simp
        · simp [go_sem]
      · have d5 : decide (((nth b i).toNat : Int) < 128) = true := decide_eq_true (by omega)
        rw [if_neg hc] at hl
        have r1 : formR b bits = .tup [.int .i64 ((i : Int) + 1), .int .i64 0] := by
          have : ((i + 1 : Nat) : Int) = (i : Int) + 1 := by omega
          simp [formR, lstE, lstI, hl]
        simp only [go_sem, d3, d4, d5]
        rw [r1]
        exact ⟨by omega, by omega, pdone [] (by simp only [go_sem, e8]) rfl⟩
    · have d4 : decide ((i : Int) < (mst bits : Int)) = false := decide_eq_false (by omega)
      rw [show mst bits - i = 0 by omega, lst] at hl
      have d6 : decide ((b.length : Int) < (mst bits : Int)) = false := decide_eq_false (by omega)
      have r1 : formR b bits = .tup [.int .i64 0, .int .i64 4] := by simp [formR, lstE, hl]
      simp only [go_sem, d3, d4, d6]
      rw [r1]
      exact pdone [] (by simp only [go_sem]) rfl
  · have d3 : decide ((i : Int) < (b.length : Int)) = false := decide_eq_false (by omega)
    by_cases hlt : i < mst bits
    · have d6 : decide ((b.length : Int) < (mst bits : Int)) = true := decide_eq_true (by omega)
      rw [show mst bits - i = (mst bits - (i + 1)) + 1 by omega, lst, if_pos (by omega)] at hl
      have r1 : formR b bits = .tup [.int .i64 0, .int .i64 3] := by simp [formR, lstE, hl]
      simp only [go_sem, d3, d6]
      rw [r1]
      exact pdone [] (by simp only [go_sem]) rfl
    · have d6 : decide ((b.length : Int) < (mst bits : Int)) = false := decide_eq_false (by omega)
      rw [show mst bits - i = 0 by omega, lst] at hl
      have r1 : formR b bits = .tup [.int .i64 0, .int .i64 4] := by simp [formR, lstE, hl]
      simp only [go_sem, d3, d6]
      rw [r1]
      exact pdone [] (by simp only [go_sem]) rfl

theorem s_rPutU (n : Nat) (hn : n < 18446744073709551616) : PCalls Tryd.prog n_ref01_PutU [.nl, .int .u64 n] (.sl 1 ((putU n).map by_)) := by
  refine pfun_sound (ic := F_ref01_PutU.body) mixed c_ref01_PutU rfl rfl ?_
  have a0 : appO 6 5 1 0 0 [] (some ⟨5, 1, [], false⟩) = some (.ms 6 1 0 0, .reb 6 ⟨5, 1, [], false⟩) := rfl
  simp only [F_ref01_PutU, go_sem, a0]
  refine loop_rule (fun q : List UInt8 × Nat => ⟨[(5, .ms 6 1 0 q.1.length), (1, .int .u64 q.2)], [(6, ⟨5, 1, q.1.map by_, false⟩)]⟩) (fun q => q.1 ++ putU q.2 = putU n ∧ q.2 ≤ n) (fun q => q.2) ([], n) ⟨rfl, Nat.le_refl _⟩ (Wk.of ?_ ?_) ?_
  · simp [go_sem]
  · simp [go_sem]
  rintro ⟨acc, m⟩ ⟨hq, hm⟩
  replace hq : acc ++ putU m = putU n := hq
  replace hm : m ≤ n := hm
  have hlen : acc.length + (putU m).length ≤ 10 := by
    have := putU_len (k := 9) (n := n) (by omega)
    rw [← hq] at this
    simpa using this
  have w1 : IntKind.u8.wrap (m : Int) = ((m % 256 : Nat) : Int) := by rw [w_u8]; omega
  have happ := fun ys => appO_map 6 5 1 acc.length by_ acc ys rfl
  by_cases h1 : m < 128
  · have d1 : decide ((m : Int) ≥ 128) = false := decide_eq_false (by omega)
    simp only [go_sem, d1, w1, happ]
    refine ⟨by omega, pdone [6] ?_ rfl⟩
    have e1 : m % 256 = m := by omega
    simp only [go_sem, w1, ← hq, putU_lo h1, List.map_append, by_of (show m < 256 by omega), e1]
    simp
    exact List.take_of_length_le (by simp)
  · have d1 : decide ((m : Int) ≥ 128) = true := decide_eq_true (by omega)
    have t1 : (m : Int).tmod 128 = ((m % 128 : Nat) : Int) := (Int.ofNat_tmod m 128).symm
    have t2 : IntKind.u8.wrap ((m % 128 : Nat) : Int) = ((m % 128 : Nat) : Int) := by rw [w_u8]; omega
    have t3 : IntKind.u8.wrap (((m % 128 : Nat) : Int) + 128) = ((m % 128 + 128 : Nat) : Int) := by rw [w_u8]; omega
    have t4 : (m : Int).tdiv 128 = ((m / 128 : Nat) : Int) := (Int.ofNat_tdiv m 128).symm
    have t5 : IntKind.u64.wrap ((m / 128 : Nat) : Int) = ((m / 128 : Nat) : Int) := by rw [w_u64]; omega
    simp only [go_sem, d1, t1, t2, t3, happ]
    refine ⟨by omega, by omega, by omega, klp_n (acc ++ [UInt8.ofNat (m % 128 + 128)], m / 128) ⟨by rw [List.append_assoc, ← hq, putU_hi h1]; rfl, by show m / 128 ≤ n; omega⟩ (show m / 128 < m by omega) (Wk.of ?_ ?_)⟩
    · simp only [go_sem, t4, t5, List.length_append, List.length_singleton]
    · simp only [go_sem, List.map_append, by_of (show m % 128 + 128 < 256 by omega)]

theorem s_rPutS (n : Int) (hn : -9223372036854775808 ≤ n ∧ n < 9223372036854775808) : PCalls Tryd.prog n_ref01_PutS [.nl, .int .i64 n] (.sl 1 ((putS n).map by_)) := by
  refine pfun_sound (ic := F_ref01_PutS.body) mixed c_ref01_PutS rfl rfl ?_
  have a0 : appO 6 5 1 0 0 [] (some ⟨5, 1, [], false⟩) = some (.ms 6 1 0 0, .reb 6 ⟨5, 1, [], false⟩) := rfl
  simp only [F_ref01_PutS, go_sem, a0]
  refine loop_rule (fun q : List UInt8 × Int => ⟨[(5, .ms 6 1 0 q.1.length), (1, .int .i64 q.2)], [(6, ⟨5, 1, q.1.map by_, false⟩)]⟩) (fun q => q.1 ++ putS q.2 = putS n ∧ -9223372036854775808 ≤ q.2 ∧ q.2 < 9223372036854775808) (fun q => q.2.natAbs) ([], n) ⟨rfl, hn⟩ (Wk.of ?_ ?_) ?_
  · simp [go_sem]
  · simp [go_sem]
  rintro ⟨acc, m⟩ ⟨hq, hm⟩
  replace hq : acc ++ putS m = putS n := hq
  replace hm : -9223372036854775808 ≤ m ∧ m < 9223372036854775808 := hm
  have hlen : acc.length + (putS m).length ≤ 10 := by
    have := putS_len (k := 9) (n := n) (by omega) (by omega)
    rw [← hq] at this
    simpa using this
  have happ := fun ys => appO_map 6 5 1 acc.length by_ acc ys rfl
  have w0 := and_i64 m
  have w1 : IntKind.u8.wrap (m % 128) = (((m % 128).toNat : Nat) : Int) := by rw [w_u8]; omega
  by_cases h1 : -64 ≤ m ∧ m ≤ 63
  · have d1 : decide (m < -64) = false := decide_eq_false (by omega)
    have d2 : decide (m > 63) = false := decide_eq_false (by omega)
    simp only [go_sem, d1, d2, w0, w1, happ]
    refine ⟨by omega, pdone [6] ?_ rfl⟩
    simp only [go_sem, ← hq, putS_lo h1, List.map_append, by_of (show (m % 128).toNat < 256 by omega), List.length_singleton]
    simp
    exact List.take_of_length_le (by simp)
  · have w2 : IntKind.u8.wrap ((((m % 128).toNat : Nat) : Int) + 128) = (((m % 128).toNat + 128 : Nat) : Int) := by rw [w_u8]; omega
    have w3 := i64_shr m
    have fin : ∀ s : St, leE s.env [(5, .ms 6 1 0 (acc.length + 1)), (1, .int .i64 (m / 128))] → leH s.heap [(6, ⟨5, 1, acc.map by_ ++ [[.int .u8 (((m % 128).toNat + 128 : Nat) : Int)]], false⟩)] →
        ∀ K, klp (fun q : List UInt8 × Int => ⟨[(5, .ms 6 1 0 q.1.length), (1, .int .i64 q.2)], [(6, ⟨5, 1, q.1.map by_, false⟩)]⟩) (fun q => q.1 ++ putS q.2 = putS n ∧ -9223372036854775808 ≤ q.2 ∧ q.2 < 9223372036854775808) (fun q => q.2.natAbs) (acc, m) K .nrm s := fun s hs1 hs2 K => by
      refine klp_n (acc ++ [UInt8.ofNat ((m % 128).toNat + 128)], m / 128) ⟨by rw [List.append_assoc, ← hq, putS_hi h1]; rfl, by show _ ≤ m / 128; omega, by show m / 128 < _; omega⟩ (show (m / 128).natAbs < m.natAbs by omega) (Wk.of ?_ ?_)
      · simpa only [List.length_append, List.length_singleton] using hs1
      · simpa only [List.map_append, List.map_cons, List.map_nil, by_of (show (m % 128).toNat + 128 < 256 by omega)] using hs2
    by_cases h2 : m < -64
    · have d1 : decide (m < -64) = true := decide_eq_true (by omega)
      simp only [go_sem, d1, w0, w1, w2, happ]
      refine ⟨by omega, by decide, fin _ ?_ ?_ _⟩
      · simp only [go_sem, w3]
      · simp only [go_sem]
    · have d1 : decide (m < -64) = false := decide_eq_false (by omega)
      have d2 : decide (m > 63) = true := decide_eq_true (by omega)
      simp only [go_sem, d1, d2, w0, w1, w2, happ]
      refine ⟨by omega, by decide, fin _ ?_ ?_ _⟩
      · simp only [go_sem, w3]
      · simp only [go_sem]
end Go.Proofs.YtkejmhpodhbeeaaDoor
set_option linter.unusedSimpArgs false
set_option maxRecDepth 100000
set_option maxHeartbeats 4000000
set_option linter.unusedVariables false
namespace Go.Proofs.YtkejmhpodhbeeaaDoor
open Go Go.Mw

theorem val7_dropj {b : List UInt8} {j k : Nat} (h : j < k) (hk : k ≤ b.length) : val7 ((b.take k).drop j) = (nth b j).toNat % 128 + 128 * val7 ((b.take k).drop (j + 1)) := by
  have h1 : j < (b.take k).length := by simp; omega
  rw [List.drop_eq_getElem_cons h1, val7, List.getElem_take, ← nth_eq (show j < b.length by omega)]
theorem ne_b {x : Int} (h : x ≠ 0) : (x != 0) = true := by simp [h]
theorem ne_f {x : Int} (h : x = 0) : (x != 0) = false := by simp [h]

theorem s_rU (b : List UInt8) (bits : Nat) (h : 1 ≤ bits ∧ bits ≤ 64) : PCalls Tryd.prog n_ref01_U [.sl 1 (b.map by_), .int .i64 bits] (uR (decU b bits)) := by
  refine pfun_sound (ic := F_ref01_U.body) mixed c_ref01_U rfl rfl ?_
  simp only [F_ref01_U, go_sem]
  refine call_same (s_rform b bits h) (by simp [go_sem]) ?_
  rcases lst_cases b bits with ⟨h1, h2, h3, h4⟩ | ⟨h1, h2⟩
  · have hm := mst_le h
    generalize hi : lstI b bits = i at *
    have e1 : formR b bits = .tup [.int .i64 ((i + 1 : Nat) : Int), .int .i64 0] := by rw [formR, if_pos h1, hi]
    have w1 : IntKind.i64.wrap (((i + 1 : Nat) : Int) - 1) = (i : Int) := by rw [wi (by omega) (by omega)]; omega
    have hb7 : 7 * i < bits := by unfold mst at h3; omega
    have w2 : IntKind.i64.wrap (7 * (i : Int)) = ((7 * i : Nat) : Int) := by rw [wi (by omega) (by omega)]; omega
    have w3 : IntKind.i64.wrap ((bits : Int) - ((7 * i : Nat) : Int)) = ((bits - 7 * i : Nat) : Int) := by rw [wi (by omega) (by omega)]; omega
    have w4 : IntKind.i64.wrap ((nth b i).toNat : Int) = ((nth b i).toNat : Int) := wi (by omega) (by omega)
    have v0 : val7 ((b.take (i + 1)).drop (i + 1)) = 0 := by rw [List.drop_eq_nil_of_le (by simp; omega)]; rfl
    by_cases hl : bits - 7 * i < 7
    · have d1 : decide (((bits - 7 * i : Nat) : Int) < 7) = true := decide_eq_true (by omega)
      have e2 := shr_nat .i64 (x := (nth b i).toNat) (s := bits - 7 * i) (by show _ ≤ 64; omega)
      have e3 : ¬ ((bits - 7 * i : Nat) : Int) < 0 := by omega
      have hc : cnt bits i = bits - 7 * i := by unfold cnt; rw [if_pos (by unfold mst at *; omega)]
      by_cases hq : (nth b i).toNat / 2 ^ (bits - 7 * i) = 0
      · have r : decU b bits = (val7 (b.take (i + 1)) % 18446744073709551616, i + 1, 0) := by rw [decU, if_neg (by simp [h1]), hi, hc, if_neg (by simp [hq])]
        have d2 : (((((nth b i).toNat / 2 ^ (bits - 7 * i) : Nat) : Int)) != 0) = false := ne_f (by omega)
        rw [r]
        simp only [go_sem, e1, bne_self_eq_false, w1, w2, w3, w4, d1, e2, e3, d2]
        refine ⟨by omega, by omega, loop_rule (fun j : Nat => ⟨[(11, .int .i64 ((j : Int) - 1)), (10, .int .u64 ((val7 ((b.take (i + 1)).drop j) % 18446744073709551616 : Nat) : Int)), (7, .int .i64 ((i + 1 : Nat) : Int)), (0, .sl 1 (b.map by_))], []⟩) (fun j => j ≤ i + 1) (fun j => j) (i + 1) (Nat.le_refl _) (Wk.of ?_ ?_) ?_⟩
        · simp only [go_sem, w1, v0]
          rw [show ((i + 1 : Nat) : Int) - 1 = (i : Int) by omega]
          exact ⟨rfl, rfl⟩
        · simp [go_sem]
        rintro j hj
        replace hj : j ≤ i + 1 := hj
        cases j with
        | zero =>
          have d9 : decide (((0 : Nat) : Int) - 1 ≥ 0) = false := by decide
          simp only [go_sem, d9]
          exact pdone [] (by simp only [go_sem, uR, List.drop_zero]) rfl
        | succ j =>
          have c1 : ((j + 1 : Nat) : Int) - 1 = (j : Int) := by omega
          have d9 : decide ((j : Int) ≥ 0) = true := decide_eq_true (by omega)
          have hx : (nth b j).toNat < 256 := (nth b j).toNat_lt
          have t1 : ((nth b j).toNat : Int).tmod 128 = (((nth b j).toNat % 128 : Nat) : Int) := (Int.ofNat_tmod _ 128).symm
          have t2 : IntKind.u64.wrap (((nth b j).toNat % 128 : Nat) : Int) = (((nth b j).toNat % 128 : Nat) : Int) := by rw [w_u64]; omega
          have t3 : IntKind.u8.wrap (((nth b j).toNat % 128 : Nat) : Int) = (((nth b j).toNat % 128 : Nat) : Int) := by rw [w_u8]; omega
          have t4 : IntKind.u64.wrap (IntKind.u64.wrap (((val7 ((b.take (i + 1)).drop (j + 1)) % 18446744073709551616 : Nat) : Int) * 128) + (((nth b j).toNat % 128 : Nat) : Int)) = ((val7 ((b.take (i + 1)).drop j) % 18446744073709551616 : Nat) : Int) := by
            rw [val7_dropj (show j < i + 1 by omega) (show i + 1 ≤ b.length by omega), w_u64, w_u64]; omega
          have t5 := wi (n := (j : Int) - 1) (by omega) (by omega)
          simp only [go_sem, c1, d9, t1, t3]
          refine ⟨by omega, by omega, by decide, klp_n j (show j ≤ i + 1 by omega) (show j < j + 1 by omega) (Wk.of ?_ ?_)⟩
          · simp only [go_sem, t1, t2, t3, t4, t5]
          · simp [go_sem]
      · have r : decU b bits = (0, 0, 4) := by rw [decU, if_neg (by simp [h1]), hi, hc, if_pos hq]
        have d2 : (((((nth b i).toNat / 2 ^ (bits - 7 * i) : Nat) : Int)) != 0) = true := ne_b (by omega)
        rw [r]
        simp only [go_sem, e1, bne_self_eq_false, w1, w2, w3, w4, d1, e2, e3, d2]
        exact ⟨by omega, by omega, pdone [] (by simp [go_sem, uR]) rfl⟩
    · have d1 : decide (((bits - 7 * i : Nat) : Int) < 7) = false := decide_eq_false (by omega)
      have hc : cnt bits i = 7 := by
        unfold cnt
        by_cases hq : i + 1 = mst bits
        · rw [if_pos hq]; unfold mst at *; omega
        · rw [if_neg hq]
      have r : decU b bits = (val7 (b.take (i + 1)) % 18446744073709551616, i + 1, 0) := by rw [decU, if_neg (by simp [h1]), hi, hc, if_neg (by simp; omega)]
      rw [r]
      simp only [go_sem, e1, bne_self_eq_false, w1, w2, w3, d1]
      refine loop_rule (fun j : Nat => ⟨[(11, .int .i64 ((j : Int) - 1)), (10, .int .u64 ((val7 ((b.take (i + 1)).drop j) % 18446744073709551616 : Nat) : Int)), (7, .int .i64 ((i + 1 : Nat) : Int)), (0, .sl 1 (b.map by_))], []⟩) (fun j => j ≤ i + 1) (fun j => j) (i + 1) (Nat.le_refl _) (Wk.of ?_ ?_) ?_
      · simp only [go_sem, w1, v0]
        rw [show ((i + 1 : Nat) : Int) - 1 = (i : Int) by omega]
        exact ⟨rfl, rfl⟩
      · simp [go_sem]
      rintro j hj
      replace hj : j ≤ i + 1 := hj
      cases j with
      | zero =>
        have d9 : decide (((0 : Nat) : Int) - 1 ≥ 0) = false := by decide
        simp only [go_sem, d9]
        exact pdone [] (by simp only [go_sem, uR, List.drop_zero]) rfl
      | succ j =>
        have c1 : ((j + 1 : Nat) : Int) - 1 = (j : Int) := by omega
        have d9 : decide ((j : Int) ≥ 0) = true := decide_eq_true (by omega)
        have hx : (nth b j).toNat < 256 := (nth b j).toNat_lt
        have t1 : ((nth b j).toNat : Int).tmod 128 = (((nth b j).toNat % 128 : Nat) : Int) := (Int.ofNat_tmod _ 128).symm
        have t2 : IntKind.u64.wrap (((nth b j).toNat % 128 : Nat) : Int) = (((nth b j).toNat % 128 : Nat) : Int) := by rw [w_u64]; omega
        have t3 : IntKind.u8.wrap (((nth b j).toNat % 128 : Nat) : Int) = (((nth b j).toNat % 128 : Nat) : Int) := by rw [w_u8]; omega
        have t4 : IntKind.u64.wrap (IntKind.u64.wrap (((val7 ((b.take (i + 1)).drop (j + 1)) % 18446744073709551616 : Nat) : Int) * 128) + (((nth b j).toNat % 128 : Nat) : Int)) = ((val7 ((b.take (i + 1)).drop j) % 18446744073709551616 : Nat) : Int) := by
          rw [val7_dropj (show j < i + 1 by omega) (show i + 1 ≤ b.length by omega), w_u64, w_u64]; omega
        have t5 := wi (n := (j : Int) - 1) (by omega) (by omega)
        simp only [go_sem, c1, d9, t1, t3]
        refine ⟨by omega, by omega, by decide, klp_n j (show j ≤ i + 1 by omega) (show j < j + 1 by omega) (Wk.of ?_ ?_)⟩
        · simp only [go_sem, t1, t2, t3, t4, t5]
        · simp [go_sem]
  · have e1 : formR b bits = .tup [.int .i64 0, .int .i64 (lstE b bits)] := by rw [formR, if_neg (by omega)]
    have r : decU b bits = (0, 0, lstE b bits) := by rw [decU, if_pos (by omega)]
    have d2 : (lstE b bits != 0) = true := ne_b (by omega)
    simp only [go_sem, e1, d2]
    rw [r]
    exact pdone [] (by simp only [go_sem, uR]; rfl) rfl

theorem wrap_ex (a : Int) : ∃ k, IntKind.i64.wrap a = a + 18446744073709551616 * k := by
  refine ⟨-((a + 9223372036854775808) / 18446744073709551616), ?_⟩
  rw [w_i64]
  omega
theorem sstep {b : List UInt8} {i j : Nat} (h : j < i + 1) (hk : i + 1 ≤ b.length) :
    IntKind.i64.wrap (IntKind.i64.wrap (IntKind.i64.wrap ((val7 ((b.take (i + 1)).drop (j + 1)) : Int) - (if 64 ≤ (nth b i).toNat % 128 then 2 ^ (7 * (i + 1 - (j + 1))) else 0)) * 128) + (((nth b j).toNat % 128 : Nat) : Int)) =
      IntKind.i64.wrap ((val7 ((b.take (i + 1)).drop j) : Int) - (if 64 ≤ (nth b i).toNat % 128 then 2 ^ (7 * (i + 1 - j)) else 0)) := by
  rw [val7_dropj h hk, show 7 * (i + 1 - j) = 7 * (i + 1 - (j + 1)) + 7 by omega, Int.pow_add, show (2 : Int) ^ 7 = 128 from rfl]
  generalize (2 : Int) ^ (7 * (i + 1 - (j + 1))) = p
  generalize val7 ((b.take (i + 1)).drop (j + 1)) = v
  generalize (nth b j).toNat % 128 = y
  have e : ∀ q : Int, (if 64 ≤ (nth b i).toNat % 128 then q * 128 else 0) = (if 64 ≤ (nth b i).toNat % 128 then q else 0) * 128 := fun q => by split <;> simp
  rw [e]
  generalize (if 64 ≤ (nth b i).toNat % 128 then p else 0) = q
  obtain ⟨k, hk⟩ := wrap_ex ((v : Int) - q)
  obtain ⟨k2, hk2⟩ := wrap_ex (((v : Int) - q + 18446744073709551616 * k) * 128)
  rw [hk, hk2]
  refine i64_congr ?_
  omega
theorem top127 {l : Nat} (h1 : 1 ≤ l) (h2 : l < 7) : IntKind.i64.wrap (b_shl .i64 1 ((8 - l : Nat) : Int) - 1) = ((127 / 2 ^ (l - 1) : Nat) : Int) := by
  have e : b_shl .i64 1 ((8 - l : Nat) : Int) = IntKind.i64.wrap (2 ^ (8 - l)) := by
    unfold b_shl
    rw [Int.toNat_natCast, show min (8 - l) IntKind.i64.bits = 8 - l from Nat.min_eq_left (by show 8 - l ≤ 64; omega), Int.one_mul]
  rw [e, w_i64, w_i64]
  have : l = 1 ∨ l = 2 ∨ l = 3 ∨ l = 4 ∨ l = 5 ∨ l = 6 := by omega
  rcases this with rfl | rfl | rfl | rfl | rfl | rfl <;> simp

theorem s_rS (b : List UInt8) (bits : Nat) (h : 1 ≤ bits ∧ bits ≤ 64) : PCalls Tryd.prog n_ref01_S [.sl 1 (b.map by_), .int .i64 bits] (sR (decS b bits)) := by
  refine pfun_sound (ic := F_ref01_S.body) mixed c_ref01_S rfl rfl ?_
  simp only [F_ref01_S, go_sem]
  refine call_same (s_rform b bits h) (by simp [go_sem]) ?_
  rcases lst_cases b bits with ⟨h1, h2, h3, h4⟩ | ⟨h1, h2⟩
  · have hm := mst_le h
    generalize hi : lstI b bits = i at *
    have e1 : formR b bits = .tup [.int .i64 ((i + 1 : Nat) : Int), .int .i64 0] := by rw [formR, if_pos h1, hi]
    have w1 : IntKind.i64.wrap (((i + 1 : Nat) : Int) - 1) = (i : Int) := by rw [wi (by omega) (by omega)]; omega
    have hb7 : 7 * i < bits := by unfold mst at h3; omega
    have w2 : IntKind.i64.wrap (7 * (i : Int)) = ((7 * i : Nat) : Int) := by rw [wi (by omega) (by omega)]; omega
    have w3 : IntKind.i64.wrap ((bits : Int) - ((7 * i : Nat) : Int)) = ((bits - 7 * i : Nat) : Int) := by rw [wi (by omega) (by omega)]; omega
    have w4 : IntKind.i64.wrap ((nth b i).toNat : Int) = ((nth b i).toNat : Int) := wi (by omega) (by omega)
    have v0 : val7 ((b.take (i + 1)).drop (i + 1)) = 0 := by rw [List.drop_eq_nil_of_le (by simp; omega)]; rfl
    by_cases hl : bits - 7 * i < 7
    · have d1 : decide (((bits - 7 * i : Nat) : Int) < 7) = true := decide_eq_true (by omega)
      have w5 : IntKind.i64.wrap (((bits - 7 * i : Nat) : Int) - 1) = ((bits - 7 * i - 1 : Nat) : Int) := by rw [wi (by omega) (by omega)]; omega
      have w6 : IntKind.i64.wrap (8 - ((bits - 7 * i : Nat) : Int)) = ((8 - (bits - 7 * i) : Nat) : Int) := by rw [wi (by omega) (by omega)]; omega
      have e2 := shr_nat .i64 (x := (nth b i).toNat) (s := bits - 7 * i - 1) (by show _ ≤ 64; omega)
      have e3 : ¬ ((bits - 7 * i - 1 : Nat) : Int) < 0 := by omega
      have e4 : ¬ ((8 - (bits - 7 * i) : Nat) : Int) < 0 := by omega
      have e5 := top127 (l := bits - 7 * i) (by omega) hl
      have hc : cnt bits i = bits - 7 * i := by unfold cnt; rw [if_pos (by unfold mst at *; omega)]
      by_cases hz : (nth b i).toNat / 2 ^ (bits - 7 * i - 1) = 0
      · have r : decS b bits = (sgn b i, i + 1, 0) := by rw [decS, if_neg (by simp [h1]), hi, hc, if_neg (by simp [hz])]
        have d2 : (((((nth b i).toNat / 2 ^ (bits - 7 * i - 1) : Nat) : Int)) != 0) = false := ne_f (by omega)
        rw [r]
        by_cases h64 : 64 ≤ (nth b i).toNat % 128
        · have d8 : decide (((nth b i).toNat : Int) ≥ 64) = true := decide_eq_true (by omega)
          simp only [go_sem, e1, bne_self_eq_false, w1, w2, w3, w4, w5, w6, d1, e2, e3, e4, e5, d2, d8]
          refine ⟨by omega, by omega, by omega, by omega, ?_⟩
          refine loop_rule (fun j : Nat => ⟨[(12, .int .i64 ((j : Int) - 1)), (11, .int .i64 (IntKind.i64.wrap ((val7 ((b.take (i + 1)).drop j) : Int) - (if 64 ≤ (nth b i).toNat % 128 then 2 ^ (7 * (i + 1 - j)) else 0)))), (7, .int .i64 ((i + 1 : Nat) : Int)), (0, .sl 1 (b.map by_))], []⟩) (fun j => j ≤ i + 1) (fun j => j) (i + 1) (Nat.le_refl _) (Wk.of ?_ ?_) ?_
          · simp only [go_sem, w1, v0, Nat.sub_self, Nat.mul_zero, if_pos h64, Nat.pow_zero]
            rw [show ((i + 1 : Nat) : Int) - 1 = (i : Int) by omega]
            exact ⟨rfl, rfl⟩
          · simp [go_sem]
          rintro j hj
          replace hj : j ≤ i + 1 := hj
          cases j with
          | zero =>
            have d9 : decide (((0 : Nat) : Int) - 1 ≥ 0) = false := by decide
            simp only [go_sem, d9]
            exact pdone [] (by simp only [go_sem, sR, List.drop_zero, sgn, Nat.sub_zero]) rfl
          | succ j =>
            have c1 : ((j + 1 : Nat) : Int) - 1 = (j : Int) := by omega
            have d9 : decide ((j : Int) ≥ 0) = true := decide_eq_true (by omega)
            have hx : (nth b j).toNat < 256 := (nth b j).toNat_lt
            have t1 : ((nth b j).toNat : Int).tmod 128 = (((nth b j).toNat % 128 : Nat) : Int) := (Int.ofNat_tmod _ 128).symm
            have t2 : IntKind.i64.wrap (((nth b j).toNat % 128 : Nat) : Int) = (((nth b j).toNat % 128 : Nat) : Int) := wi (by omega) (by omega)
            have t3 : IntKind.u8.wrap (((nth b j).toNat % 128 : Nat) : Int) = (((nth b j).toNat % 128 : Nat) : Int) := by rw [w_u8]; omega
            have t4 := sstep (b := b) (i := i) (j := j) (by omega) (by omega)
            have t5 := wi (n := (j : Int) - 1) (by omega) (by omega)
            simp only [go_sem, c1, d9, t1, t3]
            refine ⟨by omega, by omega, by decide, klp_n j (show j ≤ i + 1 by omega) (show j < j + 1 by omega) (Wk.of ?_ ?_)⟩
            · simp only [go_sem, t1, t2, t3, t4, t5]
            · simp [go_sem]
        · have d8 : decide (((nth b i).toNat : Int) ≥ 64) = false := decide_eq_false (by omega)
          simp only [go_sem, e1, bne_self_eq_false, w1, w2, w3, w4, w5, w6, d1, e2, e3, e4, e5, d2, d8]
          refine ⟨by omega, by omega, by omega, by omega, ?_⟩
          refine loop_rule (fun j : Nat => ⟨[(12, .int .i64 ((j : Int) - 1)), (11, .int .i64 (IntKind.i64.wrap ((val7 ((b.take (i + 1)).drop j) : Int) - (if 64 ≤ (nth b i).toNat % 128 then 2 ^ (7 * (i + 1 - j)) else 0)))), (7, .int .i64 ((i + 1 : Nat) : Int)), (0, .sl 1 (b.map by_))], []⟩) (fun j => j ≤ i + 1) (fun j => j) (i + 1) (Nat.le_refl _) (Wk.of ?_ ?_) ?_
          · simp only [go_sem, w1, v0, Nat.sub_self, Nat.mul_zero, if_neg h64]
            rw [show ((i + 1 : Nat) : Int) - 1 = (i : Int) by omega]
            exact ⟨rfl, rfl⟩
          · simp [go_sem]
          rintro j hj
          replace hj : j ≤ i + 1 := hj
          cases j with
          | zero =>
            have d9 : decide (((0 : Nat) : Int) - 1 ≥ 0) = false := by decide
            simp only [go_sem, d9]
            exact pdone [] (by simp only [go_sem, sR, List.drop_zero, sgn, Nat.sub_zero]) rfl
          | succ j =>
            have c1 : ((j + 1 : Nat) : Int) - 1 = (j : Int) := by omega
            have d9 : decide ((j : Int) ≥ 0) = true := decide_eq_true (by omega)
            have hx : (nth b j).toNat < 256 := (nth b j).toNat_lt
            have t1 : ((nth b j).toNat : Int).tmod 128 = (((nth b j).toNat % 128 : Nat) : Int) := (Int.ofNat_tmod _ 128).symm
            have t2 : IntKind.i64.wrap (((nth b j).toNat % 128 : Nat) : Int) = (((nth b j).toNat % 128 : Nat) : Int) := wi (by omega) (by omega)
            have t3 : IntKind.u8.wrap (((nth b j).toNat % 128 : Nat) : Int) = (((nth b j).toNat % 128 : Nat) : Int) := by rw [w_u8]; omega
            have t4 := sstep (b := b) (i := i) (j := j) (by omega) (by omega)
            have t5 := wi (n := (j : Int) - 1) (by omega) (by omega)
            simp only [go_sem, c1, d9, t1, t3]
            refine ⟨by omega, by omega, by decide, klp_n j (show j ≤ i + 1 by omega) (show j < j + 1 by omega) (Wk.of ?_ ?_)⟩
            · simp only [go_sem, t1, t2, t3, t4, t5]
            · simp [go_sem]
      · have d2 : (((((nth b i).toNat / 2 ^ (bits - 7 * i - 1) : Nat) : Int)) != 0) = true := ne_b (by omega)
        by_cases hq : (nth b i).toNat / 2 ^ (bits - 7 * i - 1) = 127 / 2 ^ (bits - 7 * i - 1)
        · have r : decS b bits = (sgn b i, i + 1, 0) := by rw [decS, if_neg (by simp [h1]), hi, hc, if_neg (by simp [hq])]
          have d3 : (((((nth b i).toNat / 2 ^ (bits - 7 * i - 1) : Nat) : Int)) != ((127 / 2 ^ (bits - 7 * i - 1) : Nat) : Int)) = false := by rw [hq]; exact bne_self_eq_false _
          rw [r]
          by_cases h64 : 64 ≤ (nth b i).toNat % 128
          · have d8 : decide (((nth b i).toNat : Int) ≥ 64) = true := decide_eq_true (by omega)
            simp only [go_sem, e1, bne_self_eq_false, w1, w2, w3, w4, w5, w6, d1, e2, e3, e4, e5, d2, d3, d8]
            refine ⟨by omega, by omega, by omega, by omega, ?_⟩
            refine loop_rule (fun j : Nat => ⟨[(12, .int .i64 ((j : Int) - 1)), (11, .int .i64 (IntKind.i64.wrap ((val7 ((b.take (i + 1)).drop j) : Int) - (if 64 ≤ (nth b i).toNat % 128 then 2 ^ (7 * (i + 1 - j)) else 0)))), (7, .int .i64 ((i + 1 : Nat) : Int)), (0, .sl 1 (b.map by_))], []⟩) (fun j => j ≤ i + 1) (fun j => j) (i + 1) (Nat.le_refl _) (Wk.of ?_ ?_) ?_
            · simp only [go_sem, w1, v0, Nat.sub_self, Nat.mul_zero, if_pos h64, Nat.pow_zero]
              rw [show ((i + 1 : Nat) : Int) - 1 = (i : Int) by omega]
              exact ⟨rfl, rfl⟩
            · simp [go_sem]
            rintro j hj
            replace hj : j ≤ i + 1 := hj
            cases j with
            | zero =>
              have d9 : decide (((0 : Nat) : Int) - 1 ≥ 0) = false := by decide
              simp only [go_sem, d9]
              exact pdone [] (by simp only [go_sem, sR, List.drop_zero, sgn, Nat.sub_zero]) rfl
            | succ j =>
              have c1 : ((j + 1 : Nat) : Int) - 1 = (j : Int) := by omega
              have d9 : decide ((j : Int) ≥ 0) = true := decide_eq_true (by omega)
              have hx : (nth b j).toNat < 256 := (nth b j).toNat_lt
              have t1 : ((nth b j).toNat : Int).tmod 128 = (((nth b j).toNat % 128 : Nat) : Int) := (Int.ofNat_tmod _ 128).symm
              have t2 : IntKind.i64.wrap (((nth b j).toNat % 128 : Nat) : Int) = (((nth b j).toNat % 128 : Nat) : Int) := wi (by omega) (by omega)
              have t3 : IntKind.u8.wrap (((nth b j).toNat % 128 : Nat) : Int) = (((nth b j).toNat % 128 : Nat) : Int) := by rw [w_u8]; omega
              have t4 := sstep (b := b) (i := i) (j := j) (by omega) (by omega)
              have t5 := wi (n := (j : Int) - 1) (by omega) (by omega)
              simp only [go_sem, c1, d9, t1, t3]
              refine ⟨by omega, by omega, by decide, klp_n j (show j ≤ i + 1 by omega) (show j < j + 1 by omega) (Wk.of ?_ ?_)⟩
              · simp only [go_sem, t1, t2, t3, t4, t5]
              · simp [go_sem]
          · have d8 : decide (((nth b i).toNat : Int) ≥ 64) = false := decide_eq_false (by omega)
            simp only [go_sem, e1, bne_self_eq_false, w1, w2, w3, w4, w5, w6, d1, e2, e3, e4, e5, d2, d3, d8]
            refine ⟨by omega, by omega, by omega, by omega, ?_⟩
            refine loop_rule (fun j : Nat => ⟨[(12, .int .i64 ((j : Int) - 1)), (11, .int .i64 (IntKind.i64.wrap ((val7 ((b.take (i + 1)).drop j) : Int) - (if 64 ≤ (nth b i).toNat % 128 then 2 ^ (7 * (i + 1 - j)) else 0)))), (7, .int .i64 ((i + 1 : Nat) : Int)), (0, .sl 1 (b.map by_))], []⟩) (fun j => j ≤ i + 1) (fun j => j) (i + 1) (Nat.le_refl _) (Wk.of ?_ ?_) ?_
            · simp only [go_sem, w1, v0, Nat.sub_self, Nat.mul_zero, if_neg h64]
              rw [show ((i + 1 : Nat) : Int) - 1 = (i : Int) by omega]
              exact ⟨rfl, rfl⟩
            · simp [go_sem]
            rintro j hj
            replace hj : j ≤ i + 1 := hj
            cases j with
            | zero =>
              have d9 : decide (((0 : Nat) : Int) - 1 ≥ 0) = false := by decide
              simp only [go_sem, d9]
              exact pdone [] (by simp only [go_sem, sR, List.drop_zero, sgn, Nat.sub_zero]) rfl
            | succ j =>
              have c1 : ((j + 1 : Nat) : Int) - 1 = (j : Int) := by omega
              have d9 : decide ((j : Int) ≥ 0) = true := decide_eq_true (by omega)
              have hx : (nth b j).toNat < 256 := (nth b j).toNat_lt
              have t1 : ((nth b j).toNat : Int).tmod 128 = (((nth b j).toNat % 128 : Nat) : Int) := (Int.ofNat_tmod _ 128).symm
              have t2 : IntKind.i64.wrap (((nth b j).toNat % 128 : Nat) : Int) = (((nth b j).toNat % 128 : Nat) : Int) := wi (by omega) (by omega)
              have t3 : IntKind.u8.wrap (((nth b j).toNat % 128 : Nat) : Int) = (((nth b j).toNat % 128 : Nat) : Int) := by rw [w_u8]; omega
              have t4 := sstep (b := b) (i := i) (j := j) (by omega) (by omega)
              have t5 := wi (n := (j : Int) - 1) (by omega) (by omega)
              simp only [go_sem, c1, d9, t1, t3]
              refine ⟨by omega, by omega, by decide, klp_n j (show j ≤ i + 1 by omega) (show j < j + 1 by omega) (Wk.of ?_ ?_)⟩
              · simp only [go_sem, t1, t2, t3, t4, t5]
              · simp [go_sem]
        · have r : decS b bits = (0, 0, 4) := by rw [decS, if_neg (by simp [h1]), hi, hc, if_pos ⟨hz, hq⟩]
          have d3 : (((((nth b i).toNat / 2 ^ (bits - 7 * i - 1) : Nat) : Int)) != ((127 / 2 ^ (bits - 7 * i - 1) : Nat) : Int)) = true := by
            have : (((nth b i).toNat / 2 ^ (bits - 7 * i - 1) : Nat) : Int) ≠ ((127 / 2 ^ (bits - 7 * i - 1) : Nat) : Int) := by omega
            exact bne_iff_ne.2 this
          rw [r]
          simp only [go_sem, e1, bne_self_eq_false, w1, w2, w3, w4, w5, w6, d1, e2, e3, e4, e5, d2, d3]
          exact ⟨by omega, by omega, pdone [] (by simp [go_sem, sR]) rfl⟩
    · have d1 : decide (((bits - 7 * i : Nat) : Int) < 7) = false := decide_eq_false (by omega)
      have hc : cnt bits i = 7 := by
        unfold cnt
        by_cases hq : i + 1 = mst bits
        · rw [if_pos hq]; unfold mst at *; omega
        · rw [if_neg hq]
      have r : decS b bits = (sgn b i, i + 1, 0) := by rw [decS, if_neg (by simp [h1]), hi, hc, if_neg (by simp; omega)]
      rw [r]
      by_cases h64 : 64 ≤ (nth b i).toNat % 128
      · have d8 : decide (((nth b i).toNat : Int) ≥ 64) = true := decide_eq_true (by omega)
        simp only [go_sem, e1, bne_self_eq_false, w1, w2, w3, d1, d8]
        refine ⟨by omega, by omega, ?_⟩
        refine loop_rule (fun j : Nat => ⟨[(12, .int .i64 ((j : Int) - 1)), (11, .int .i64 (IntKind.i64.wrap ((val7 ((b.take (i + 1)).drop j) : Int) - (if 64 ≤ (nth b i).toNat % 128 then 2 ^ (7 * (i + 1 - j)) else 0)))), (7, .int .i64 ((i + 1 : Nat) : Int)), (0, .sl 1 (b.map by_))], []⟩) (fun j => j ≤ i + 1) (fun j => j) (i + 1) (Nat.le_refl _) (Wk.of ?_ ?_) ?_
        · simp only [go_sem, w1, v0, Nat.sub_self, Nat.mul_zero, if_pos h64, Nat.pow_zero]
          rw [show ((i + 1 : Nat) : Int) - 1 = (i : Int) by omega]
          exact ⟨rfl, rfl⟩
        · simp [go_sem]
        rintro j hj
        replace hj : j ≤ i + 1 := hj
        cases j with
        | zero =>
          have d9 : decide (((0 : Nat) : Int) - 1 ≥ 0) = false := by decide
          simp only [go_sem, d9]
          exact pdone [] (by simp only [go_sem, sR, List.drop_zero, sgn, Nat.sub_zero]) rfl
        | succ j =>
          have c1 : ((j + 1 : Nat) : Int) - 1 = (j : Int) := by omega
          have d9 : decide ((j : Int) ≥ 0) = true := decide_eq_true (by omega)
          have hx : (nth b j).toNat < 256 := (nth b j).toNat_lt
          have t1 : ((nth b j).toNat : Int).tmod 128 = (((nth b j).toNat % 128 : Nat) : Int) := (Int.ofNat_tmod _ 128).symm
          have t2 : IntKind.i64.wrap (((nth b j).toNat % 128 : Nat) : Int) = (((nth b j).toNat % 128 : Nat) : Int) := wi (by omega) (by omega)
          have t3 : IntKind.u8.wrap (((nth b j).toNat % 128 : Nat) : Int) = (((nth b j).toNat % 128 : Nat) : Int) := by rw [w_u8]; omega
          have t4 := sstep (b := b) (i := i) (j := j) (by omega) (by omega)
          have t5 := wi (n := (j : Int) - 1) (by omega) (by omega)
          simp only [go_sem, c1, d9, t1, t3]
          refine ⟨by omega, by omega, by decide, klp_n j (show j ≤ i + 1 by omega) (show j < j + 1 by omega) (Wk.of ?_ ?_)⟩
          · simp only [go_sem, t1, t2, t3, t4, t5]
          · simp [go_sem]
      · have d8 : decide (((nth b i).toNat : Int) ≥ 64) = false := decide_eq_false (by omega)
        simp only [go_sem, e1, bne_self_eq_false, w1, w2, w3, d1, d8]
        refine ⟨by omega, by omega, ?_⟩
        refine loop_rule (fun j : Nat => ⟨[(12, .int .i64 ((j : Int) - 1)), (11, .int .i64 (IntKind.i64.wrap ((val7 ((b.take (i + 1)).drop j) : Int) - (if 64 ≤ (nth b i).toNat % 128 then 2 ^ (7 * (i + 1 - j)) else 0)))), (7, .int .i64 ((i + 1 : Nat) : Int)), (0, .sl 1 (b.map by_))], []⟩) (fun j => j ≤ i + 1) (fun j => j) (i + 1) (Nat.le_refl _) (Wk.of ?_ ?_) ?_
        · simp only [go_sem, w1, v0, Nat.sub_self, Nat.mul_zero, if_neg h64]
          rw [show ((i + 1 : Nat) : Int) - 1 = (i : Int) by omega]
          exact ⟨rfl, rfl⟩
        · simp [go_sem]
        rintro j hj
        replace hj : j ≤ i + 1 := hj
        cases j with
        | zero =>
          have d9 : decide (((0 : Nat) : Int) - 1 ≥ 0) = false := by decide
          simp only [go_sem, d9]
          exact pdone [] (by simp only [go_sem, sR, List.drop_zero, sgn, Nat.sub_zero]) rfl
        | succ j =>
          have c1 : ((j + 1 : Nat) : Int) - 1 = (j : Int) := by omega
          have d9 : decide ((j : Int) ≥ 0) = true := decide_eq_true (by omega)
          have hx : (nth b j).toNat < 256 := (nth b j).toNat_lt
          have t1 : ((nth b j).toNat : Int).tmod 128 = (((nth b j).toNat % 128 : Nat) : Int) := (Int.ofNat_tmod _ 128).symm
          have t2 : IntKind.i64.wrap (((nth b j).toNat % 128 : Nat) : Int) = (((nth b j).toNat % 128 : Nat) : Int) := wi (by omega) (by omega)
          have t3 : IntKind.u8.wrap (((nth b j).toNat % 128 : Nat) : Int) = (((nth b j).toNat % 128 : Nat) : Int) := by rw [w_u8]; omega
          have t4 := sstep (b := b) (i := i) (j := j) (by omega) (by omega)
          have t5 := wi (n := (j : Int) - 1) (by omega) (by omega)
          simp only [go_sem, c1, d9, t1, t3]
          refine ⟨by omega, by omega, by decide, klp_n j (show j ≤ i + 1 by omega) (show j < j + 1 by omega) (Wk.of ?_ ?_)⟩
          · simp only [go_sem, t1, t2, t3, t4, t5]
          · simp [go_sem]
  · have e1 : formR b bits = .tup [.int .i64 0, .int .i64 (lstE b bits)] := by rw [formR, if_neg (by omega)]
    have r : decS b bits = (0, 0, lstE b bits) := by rw [decS, if_pos (by omega)]
    have d2 : (lstE b bits != 0) = true := ne_b (by omega)
    simp only [go_sem, e1, d2]
    rw [r]
    exact pdone [] (by simp only [go_sem, sR]; rfl) rfl
end Go.Proofs.YtkejmhpodhbeeaaDoor
set_option linter.unusedSimpArgs false
set_option maxRecDepth 100000
set_option maxHeartbeats 4000000
set_option linter.unusedVariables false
namespace Go.Proofs.YtkejmhpodhbeeaaDoor
open Go Go.Mw
-- @U: rx, ro, slv_none, slv_some

attribute [go_sem] bne_self_eq_false Bool.false_eq_true
def rx (b : List UInt8) (a e : Int) : AV := .agg [.sl 1 (b.map by_), .int .i64 a, .int .i64 e]

theorem q_Fail (b : List UInt8) (a e x : Int) : PCalls Tryd.prog n_ref02_Fail [rx b a e, .int .i64 x] (rx b a (if e = 0 then x else e)) := by
  refine pfun_sound (ic := F_ref02_Fail.body) mixed c_ref02_Fail rfl rfl ?_
  by_cases h : e = 0
  · subst h
    simp only [go_sem, rx, ro, F_ref02_Fail]
    exact pdone [] (by simp only [go_sem, rx, ro]) (by first | rfl | simp [go_sem, slv_ids, rx, ro])
  · simp only [go_sem, rx, ro, F_ref02_Fail, beq_f h, bne_t h, if_neg h]
    exact pdone [] (by simp only [go_sem, rx, ro]) (by first | rfl | simp [go_sem, slv_ids, rx, ro])
theorem q_Fail0 (b : List UInt8) (a x : Int) : PCalls Tryd.prog n_ref02_Fail [rx b a 0, .int .i64 x] (rx b a x) := q_Fail b a 0 x
theorem q_Left (b : List UInt8) (a : Nat) (e : Int) (ha : a ≤ b.length) (hb : b.length < 1000000000) : PCalls Tryd.prog n_ref02_Left [rx b a e] (.int .i64 (rLeft (e == 0) b a)) := by
  refine pfun_sound (ic := F_ref02_Left.body) mixed c_ref02_Left rfl rfl ?_
  have w1 : IntKind.i64.wrap ((b.length : Int) - (a : Int)) = (b.length : Int) - (a : Int) := wi (by omega) (by omega)
  by_cases h : e = 0
  · subst h
    simp only [go_sem, rx, ro, F_ref02_Left, rLeft, w1]
    exact pdone [] (by simp only [go_sem, rx, ro]) (by first | rfl | simp [go_sem, slv_ids, rx, ro])
  · simp only [go_sem, rx, ro, F_ref02_Left, beq_f h, bne_t h, rLeft]
    exact pdone [] (by simp only [go_sem, rx, ro]) (by first | rfl | simp [go_sem, slv_ids, rx, ro])
theorem q_Take (b : List UInt8) (a : Nat) (e n : Int) (ha : a ≤ b.length) (hb : b.length < 1000000000) (hn : -9223372036854775808 ≤ n ∧ n < 9223372036854775808) :
    PCalls Tryd.prog n_ref02_Take [rx b a e, .int .i64 n] (.tup [rx b (rTake (e == 0) b a e n).2.1 (rTake (e == 0) b a e n).2.2, slv (rTake (e == 0) b a e n).1]) := by
  refine pfun_sound (ic := F_ref02_Take.body) mixed c_ref02_Take rfl rfl ?_
  by_cases h : e = 0
  · subst h
    by_cases h1 : n < 0
    · have r : rTake ((0 : Int) == 0) b a 0 n = (none, a, 1) := by simp [rTake, h1]
      rw [r]
      simp only [go_sem, rx, ro, F_ref02_Take, decide_eq_true h1]
      refine call_same (q_Fail0 b a 1) (by simp [go_sem, rx, ro]) ?_
      simp only [go_sem, rx, ro]
      exact pdone [] (by simp only [go_sem, rx, ro]) (by first | rfl | simp [go_sem, slv_ids, rx, ro])
    · by_cases h2 : n > (b.length : Int) - a
      · have r : rTake ((0 : Int) == 0) b a 0 n = (none, a, 3) := by simp [rTake, h1, h2]
        rw [r]
        simp only [go_sem, rx, ro, F_ref02_Take, decide_eq_false h1]
        refine call_same (q_Left b a 0 ha hb) (by simp [go_sem, rx, ro]) ?_
        have l : rLeft true b a = (b.length : Int) - a := rfl
        simp only [go_sem, rx, ro, l, decide_eq_true h2]
        refine call_same (q_Fail0 b a 3) (by simp [go_sem, rx, ro]) ?_
        simp only [go_sem, rx, ro]
        exact pdone [] (by simp only [go_sem, rx, ro]) (by first | rfl | simp [go_sem, slv_ids, rx, ro])
      · obtain ⟨k, rfl⟩ := Int.eq_ofNat_of_zero_le (show 0 ≤ n by omega)
        have r : rTake ((0 : Int) == 0) b a 0 (k : Int) = (some ((b.drop a).take k), a + k, 0) := by
          simp only [rTake, beq_self_eq_true, if_true, if_neg h1, if_neg h2, Int.toNat_natCast]
        have w1 : IntKind.i64.wrap ((a : Int) + (k : Int)) = ((a + k : Nat) : Int) := by rw [wi (by omega) (by omega)]; omega
        have s1 : aSlc 1 (.sl 1 (b.map by_)) (some (.int .i64 (a : Int))) (some (.int .i64 ((a + k : Nat) : Int))) none = some (.sl 1 (((b.drop a).take k).map by_)) := by
          have h1 : aBound (b.map by_).length (some (.int .i64 ((a + k : Nat) : Int))) = some (a + k) := by simp only [aBound]; rw [if_pos (by omega), Int.toNat_natCast]
          have h2 : aBound 0 (some (.int .i64 (a : Int))) = some a := by simp only [aBound]; rw [if_pos (by omega), Int.toNat_natCast]
          have h3 : aBound (b.map by_).length none = some (b.map by_).length := rfl
          simp only [aSlc, h1, h2, h3]
          rw [if_pos ⟨trivial, by omega, by simp; omega, Nat.le_refl _⟩, Nat.add_sub_cancel_left, List.map_take, List.map_drop]
        have a0 : ∀ ys : List (List AV), ys.length < 1000000000 → appO 24 5 1 0 0 ys (some ⟨5, 1, [], false⟩) = some (.ms 24 1 0 ys.length, .reb 24 ⟨5, 1, ys, false⟩) := fun ys hy => by
          have h := appO_map 24 5 1 0 by_ [] ys rfl
          rw [if_pos ⟨by omega, by decide, by decide⟩] at h
          simpa using h
        rw [r]
        simp only [go_sem, rx, ro, F_ref02_Take, decide_eq_false h1]
        refine call_same (q_Left b a 0 ha hb) (by simp [go_sem, rx, ro]) ?_
        have l : rLeft true b a = (b.length : Int) - a := rfl
        simp only [go_sem, rx, ro, l, decide_eq_false h2, w1, s1, a0 _ (show (((b.drop a).take k).map by_).length < 1000000000 by simp; omega)]
        refine pdone [24] ?_ rfl
        simp only [go_sem, rx, ro, Nat.le_refl, List.length_map]
        rw [List.take_of_length_le (by simp)]
  · have r : rTake (e == 0) b a e n = (none, a, e) := by simp [rTake, h]
    rw [r]
    simp only [go_sem, rx, ro, F_ref02_Take, bne_t h]
    exact pdone [] (by simp only [go_sem, rx, ro]) (by first | rfl | simp [go_sem, slv_ids, rx, ro])
end Go.Proofs.YtkejmhpodhbeeaaDoor
set_option linter.unusedSimpArgs false
set_option maxRecDepth 100000
set_option maxHeartbeats 4000000
set_option linter.unusedVariables false
namespace Go.Proofs.YtkejmhpodhbeeaaDoor
open Go Go.Mw
-- @U: rx, ro, slv_none, slv_some

theorem q_Byte (b : List UInt8) (a : Nat) (e : Int) (ha : a ≤ b.length) (hb : b.length < 1000000000) :
    PCalls Tryd.prog n_ref02_Byte [rx b a e] (.tup [rx b (rByte (e == 0) b a e).2.1 (rByte (e == 0) b a e).2.2, .int .u8 (rByte (e == 0) b a e).1.toNat]) := by
  refine pfun_sound (ic := F_ref02_Byte.body) mixed c_ref02_Byte rfl rfl ?_
  have h1 : ¬ ((1 : Int) < 0) := by decide
  have c := q_Take b a e 1 ha hb (by decide)
  by_cases h : e = 0
  · subst h
    by_cases h2 : (b.length : Int) - a < 1
    · have r : rTake ((0 : Int) == 0) b a 0 1 = (none, a, 3) := by simp only [rTake, beq_self_eq_true, if_true, if_neg h1]; rw [if_pos (by omega)]
      have r2 : rByte ((0 : Int) == 0) b a 0 = (0, a, 3) := by simp only [rByte, beq_self_eq_true, if_true, if_pos h2]
      rw [r] at c
      rw [r2]
      simp only [go_sem, rx, ro, F_ref02_Byte]
      refine call_same (c) (by simp [go_sem, rx, ro]) ?_
      simp only [go_sem, rx, ro]
      exact pdone [] (by simp only [go_sem, rx, ro]; rfl) rfl
    · have hl : a < b.length := by omega
      have e1 : (b.drop a).take 1 = [nth b a] := by rw [List.drop_eq_getElem_cons hl, nth_eq hl]; rfl
      have r : rTake ((0 : Int) == 0) b a 0 1 = (some [nth b a], a + 1, 0) := by
        simp only [rTake, beq_self_eq_true, if_true, if_neg h1]; rw [if_neg (by omega)]
        rw [show (1 : Int).toNat = 1 from rfl, e1]
      have r2 : rByte ((0 : Int) == 0) b a 0 = (nth b a, a + 1, 0) := by simp only [rByte, beq_self_eq_true, if_true, if_neg h2]
      have n0 : (((1 : Nat) : Int) == 0) = false := rfl
      rw [r] at c
      rw [r2]
      simp only [go_sem, rx, ro, F_ref02_Byte]
      refine call_same (c) (by simp [go_sem, rx, ro]) ?_
      simp only [go_sem, rx, ro, List.length_cons, List.length_nil, aI1, n0]
      exact pdone [] (by simp only [go_sem, rx, ro]) rfl
  · have r : rTake (e == 0) b a e 1 = (none, a, e) := by simp [rTake, h]
    have r2 : rByte (e == 0) b a e = (0, a, e) := by simp [rByte, h]
    rw [r] at c
    rw [r2]
    simp only [go_sem, rx, ro, F_ref02_Byte]
    refine call_same (c) (by simp [go_sem, rx, ro]) ?_
    simp only [go_sem, rx, ro]
    exact pdone [] (by simp only [go_sem, rx, ro]; rfl) rfl

theorem q_unsigned (bits : Nat) (b : List UInt8) (a : Nat) (e : Int) (hbits : 1 ≤ bits ∧ bits ≤ 64) (ha : a ≤ b.length) (hb : b.length < 1000000000) :
    PCalls Tryd.prog n_ref02_unsigned [rx b a e, .int .i64 bits] (.tup [rx b (rU (e == 0) bits b a e).2.1 (rU (e == 0) bits b a e).2.2, .int .u64 (rU (e == 0) bits b a e).1]) := by
  refine pfun_sound (ic := F_ref02_unsigned.body) mixed c_ref02_unsigned rfl rfl ?_
  by_cases h : e = 0
  · subst h
    have hk := decU_k (b.drop a) bits
    simp only [List.length_drop] at hk
    simp only [go_sem, rx, ro, F_ref02_unsigned]
    refine ⟨⟨by omega, by omega⟩, ?_⟩
    refine call_same (s_rU (b.drop a) bits hbits) (by simp [go_sem, rx, ro]) ?_
    by_cases hq : (decU (b.drop a) bits).2.2 = 0
    · have r : rU true bits b a 0 = ((decU (b.drop a) bits).1, a + (decU (b.drop a) bits).2.1, 0) := by simp [rU, hq]
      have w1 : IntKind.i64.wrap ((a : Int) + ((decU (b.drop a) bits).2.1 : Int)) = ((a + (decU (b.drop a) bits).2.1 : Nat) : Int) := wn (by omega) (by omega) (by omega)
      rw [r]
      simp only [go_sem, rx, ro, uR, bne_f hq, w1]
      exact pdone [] (by simp only [go_sem, rx, ro]) (by first | rfl | simp [go_sem, slv_ids, rx, ro])
    · have r : rU true bits b a 0 = (0, a, (decU (b.drop a) bits).2.2) := by simp [rU, hq]
      rw [r]
      simp only [go_sem, rx, ro, uR, bne_t hq]
      refine call_same (q_Fail0 b a (decU (b.drop a) bits).2.2) (by simp [go_sem, rx, ro]) ?_
      simp only [go_sem, rx, ro]
      exact pdone [] (by simp only [go_sem, rx, ro]; rfl) rfl
  · have r : rU (e == 0) bits b a e = (0, a, e) := by simp [rU, h]
    rw [r]
    simp only [go_sem, rx, ro, F_ref02_unsigned, bne_t h]
    exact pdone [] (by simp only [go_sem, rx, ro]; rfl) rfl
theorem q_signed (bits : Nat) (b : List UInt8) (a : Nat) (e : Int) (hbits : 1 ≤ bits ∧ bits ≤ 64) (ha : a ≤ b.length) (hb : b.length < 1000000000) :
    PCalls Tryd.prog n_ref02_signed [rx b a e, .int .i64 bits] (.tup [rx b (rS (e == 0) bits b a e).2.1 (rS (e == 0) bits b a e).2.2, .int .i64 (rS (e == 0) bits b a e).1]) := by
  refine pfun_sound (ic := F_ref02_signed.body) mixed c_ref02_signed rfl rfl ?_
  by_cases h : e = 0
  · subst h
    have hk := decS_k (b.drop a) bits
    simp only [List.length_drop] at hk
    simp only [go_sem, rx, ro, F_ref02_signed]
    refine ⟨⟨by omega, by omega⟩, ?_⟩
    refine call_same (s_rS (b.drop a) bits hbits) (by simp [go_sem, rx, ro]) ?_
    by_cases hq : (decS (b.drop a) bits).2.2 = 0
    · have r : rS true bits b a 0 = ((decS (b.drop a) bits).1, a + (decS (b.drop a) bits).2.1, 0) := by simp [rS, hq]
      have w1 : IntKind.i64.wrap ((a : Int) + ((decS (b.drop a) bits).2.1 : Int)) = ((a + (decS (b.drop a) bits).2.1 : Nat) : Int) := wn (by omega) (by omega) (by omega)
      rw [r]
      simp only [go_sem, rx, ro, sR, bne_f hq, w1]
      exact pdone [] (by simp only [go_sem, rx, ro]) (by first | rfl | simp [go_sem, slv_ids, rx, ro])
    · have r : rS true bits b a 0 = (0, a, (decS (b.drop a) bits).2.2) := by simp [rS, hq]
      rw [r]
      simp only [go_sem, rx, ro, sR, bne_t hq]
      refine call_same (q_Fail0 b a (decS (b.drop a) bits).2.2) (by simp [go_sem, rx, ro]) ?_
      simp only [go_sem, rx, ro]
      exact pdone [] (by simp only [go_sem, rx, ro]) (by first | rfl | simp [go_sem, slv_ids, rx, ro])
  · have r : rS (e == 0) bits b a e = (0, a, e) := by simp [rS, h]
    rw [r]
    simp only [go_sem, rx, ro, F_ref02_signed, bne_t h]
    exact pdone [] (by simp only [go_sem, rx, ro]) (by first | rfl | simp [go_sem, slv_ids, rx, ro])
section
variable (b : List UInt8) (a : Nat) (e : Int) (ha : a ≤ b.length) (hb : b.length < 1000000000)
include ha hb
theorem q_U32 : PCalls Tryd.prog n_ref02_U32 [rx b a e] (.tup [rx b (rU (e == 0) 32 b a e).2.1 (rU (e == 0) 32 b a e).2.2, .int .i64 (rU (e == 0) 32 b a e).1]) := by
  refine pfun_sound (ic := F_ref02_U32.body) mixed c_ref02_U32 rfl rfl ?_
  have hl := rU_lt (e == 0) b a e
  have w1 : IntKind.i64.wrap ((rU (e == 0) 32 b a e).1 : Int) = ((rU (e == 0) 32 b a e).1 : Int) := wi (by omega) (by omega)
  simp only [go_sem, rx, ro, F_ref02_U32]
  refine call_same (q_unsigned 32 b a e (by decide) ha hb) (by simp [go_sem, rx, ro]) ?_
  simp only [go_sem, rx, ro, w1]
  exact pdone [] (by simp only [go_sem, rx, ro]) (by first | rfl | simp [go_sem, slv_ids, rx, ro])
theorem q_S32 : PCalls Tryd.prog n_ref02_S32 [rx b a e] (.tup [rx b (rS (e == 0) 32 b a e).2.1 (rS (e == 0) 32 b a e).2.2, .int .u64 (IntKind.u64.wrap (IntKind.u32.wrap (rS (e == 0) 32 b a e).1))]) := by
  refine pfun_sound (ic := F_ref02_S32.body) mixed c_ref02_S32 rfl rfl ?_
  simp only [go_sem, rx, ro, F_ref02_S32]
  refine call_same (q_signed 32 b a e (by decide) ha hb) (by simp [go_sem, rx, ro]) ?_
  simp only [go_sem, rx, ro]
  exact pdone [] (by simp only [go_sem, rx, ro]) (by first | rfl | simp [go_sem, slv_ids, rx, ro])
theorem q_S33 : PCalls Tryd.prog n_ref02_S33 [rx b a e] (.tup [rx b (rS (e == 0) 33 b a e).2.1 (rS (e == 0) 33 b a e).2.2, .int .i64 (rS (e == 0) 33 b a e).1]) := by
  refine pfun_sound (ic := F_ref02_S33.body) mixed c_ref02_S33 rfl rfl ?_
  simp only [go_sem, rx, ro, F_ref02_S33]
  refine call_same (q_signed 33 b a e (by decide) ha hb) (by simp [go_sem, rx, ro]) ?_
  simp only [go_sem, rx, ro]
  exact pdone [] (by simp only [go_sem, rx, ro]) (by first | rfl | simp [go_sem, slv_ids, rx, ro])
theorem q_S64 : PCalls Tryd.prog n_ref02_S64 [rx b a e] (.tup [rx b (rS (e == 0) 64 b a e).2.1 (rS (e == 0) 64 b a e).2.2, .int .u64 (IntKind.u64.wrap (rS (e == 0) 64 b a e).1)]) := by
  refine pfun_sound (ic := F_ref02_S64.body) mixed c_ref02_S64 rfl rfl ?_
  simp only [go_sem, rx, ro, F_ref02_S64]
  refine call_same (q_signed 64 b a e (by decide) ha hb) (by simp [go_sem, rx, ro]) ?_
  simp only [go_sem, rx, ro]
  exact pdone [] (by simp only [go_sem, rx, ro]) (by first | rfl | simp [go_sem, slv_ids, rx, ro])
theorem q_Count (most : Int) : PCalls Tryd.prog n_ref02_Count [rx b a e, .int .i64 most] (.tup [rx b (rCount (e == 0) b a e most).2.1 (rCount (e == 0) b a e most).2.2, .int .i64 (rCount (e == 0) b a e most).1]) := by
  refine pfun_sound (ic := F_ref02_Count.body) mixed c_ref02_Count rfl rfl ?_
  simp only [go_sem, rx, ro, F_ref02_Count]
  refine call_same (q_U32 b a e ha hb) (by simp [go_sem, rx, ro]) ?_
  by_cases h : e = 0
  · subst h
    by_cases hq : (rU true 32 b a 0).2.2 = 0
    · by_cases hm : ((rU true 32 b a 0).1 : Int) > most
      · have r : rCount true b a 0 most = (0, a, 6) := by simp only [rCount, if_true]; rw [if_pos ⟨hq, hm⟩]
        simp only [go_sem, rx, ro, beq_t hq, bne_f hq, decide_eq_true hm, r]
        refine call_same (q_Fail0 b a 6) (by simp [go_sem, rx, ro]) ?_
        simp only [go_sem, rx, ro]
        exact pdone [] (by simp only [go_sem, rx, ro]; rfl) rfl
      · have r : rCount true b a 0 most = rU true 32 b a 0 := by simp only [rCount, if_true]; rw [if_neg (fun hh => hm hh.2)]
        simp only [go_sem, rx, ro, beq_t hq, bne_f hq, decide_eq_false hm, r]
        exact pdone [] (by simp only [go_sem, rx, ro]) (by first | rfl | simp [go_sem, slv_ids, rx, ro])
    · have r : rCount true b a 0 most = rU true 32 b a 0 := by simp only [rCount, if_true]; rw [if_neg (fun hh => hq hh.1)]
      simp only [go_sem, rx, ro, beq_f hq, bne_t hq, r]
      exact pdone [] (by simp only [go_sem, rx, ro]) (by first | rfl | simp [go_sem, slv_ids, rx, ro])
  · have r : rCount (e == 0) b a e most = (0, a, e) := by simp [rCount, h]
    have r2 : rU (e == 0) 32 b a e = (0, a, e) := by simp [rU, h]
    rw [r, r2]
    simp only [go_sem, rx, ro, beq_f h, bne_t h]
    exact pdone [] (by simp only [go_sem, rx, ro]) rfl
theorem q_Peek : PCalls Tryd.prog n_ref02_Peek [rx b a e] (.tup [.int .u8 (rPeek (e == 0) b a).1.toNat, .bool (rPeek (e == 0) b a).2]) := by
  refine pfun_sound (ic := F_ref02_Peek.body) mixed c_ref02_Peek rfl rfl ?_
  simp only [go_sem, rx, ro, F_ref02_Peek]
  refine call_same (q_Left b a e ha hb) (by simp [go_sem, rx, ro]) ?_
  by_cases h : e = 0
  · subst h
    by_cases h2 : a < b.length
    · have d : (((b.length : Int) - (a : Int)) == 0) = false := beq_f (by omega)
      have r : rPeek true b a = (nth b a, true) := by simp [rPeek, h2]
      have l : rLeft true b a = (b.length : Int) - a := rfl
      simp only [go_sem, rx, ro, l, d, r]
      exact ⟨by omega, by omega, pdone [] (by simp only [go_sem, rx, ro]) rfl⟩
    · have d : (((b.length : Int) - (a : Int)) == 0) = true := beq_t (by omega)
      have r : rPeek true b a = (0, false) := by simp [rPeek, h2]
      have l : rLeft true b a = (b.length : Int) - a := rfl
      simp only [go_sem, rx, ro, l, d, r]
      exact pdone [] (by simp only [go_sem, rx, ro]; rfl) rfl
  · have r : rPeek (e == 0) b a = (0, false) := by simp [rPeek, h]
    have l : rLeft (e == 0) b a = 0 := by simp [rLeft, h]
    rw [l, r]
    simp only [go_sem, rx, ro]
    exact pdone [] (by simp only [go_sem, rx, ro]; rfl) rfl
theorem q_End : PCalls Tryd.prog n_ref02_End [rx b a e] (.int .i64 (rEnd true b a e)) := by
  refine pfun_sound (ic := F_ref02_End.body) mixed c_ref02_End rfl rfl ?_
  by_cases h : e = 0
  · subst h
    simp only [go_sem, rx, ro, F_ref02_End]
    refine call_same (q_Left b a 0 ha hb) (by simp [go_sem, rx, ro]) ?_
    have l : rLeft true b a = (b.length : Int) - a := rfl
    by_cases h2 : a = b.length
    · have d : decide ((b.length : Int) - (a : Int) > 0) = false := decide_eq_false (by omega)
      have r : rEnd true b a 0 = 0 := by simp [rEnd, h2]
      simp only [go_sem, rx, ro, l, d, r]
      exact pdone [] (by simp only [go_sem, rx, ro]) (by first | rfl | simp [go_sem, slv_ids, rx, ro])
    · have d : decide ((b.length : Int) - (a : Int) > 0) = true := decide_eq_true (by omega)
      have r : rEnd true b a 0 = 5 := by simp [rEnd, h2]
      simp only [go_sem, rx, ro, l, d, r]
      exact pdone [] (by simp only [go_sem, rx, ro]) (by first | rfl | simp [go_sem, slv_ids, rx, ro])
  · have r : rEnd true b a e = e := by simp [rEnd, h]
    simp only [go_sem, rx, ro, F_ref02_End, beq_f h, r]
    exact pdone [] (by simp only [go_sem, rx, ro]) (by first | rfl | simp [go_sem, slv_ids, rx, ro])
end
end Go.Proofs.YtkejmhpodhbeeaaDoor
set_option linter.unusedSimpArgs false
set_option maxRecDepth 100000
set_option maxHeartbeats 4000000
set_option linter.unusedVariables false
namespace Go.Proofs.YtkejmhpodhbeeaaDoor
open Go Go.Mw
-- @U: rx, ro, slv_none, slv_some

def nameT (b : List UInt8) (a : Nat) (t : Option (List UInt8) × Nat × Int) : List UInt8 × Nat × Int :=
  if t.2.2 ≠ 0 then ([], a, t.2.2) else if uv (t.1.getD []) = false then ([], a, 9) else (t.1.getD [], t.2.1, 0)
/-- A name that is read. -/
def rName (ok : Bool) (b : List UInt8) (a : Nat) (e : Int) : List UInt8 × Nat × Int :=
  if ok = true then nameT b a (rTake ((rCount true b a 0 64).2.2 == 0) b (rCount true b a 0 64).2.1 (rCount true b a 0 64).2.2 (rCount true b a 0 64).1) else ([], a, e)
theorem rCount_a {ok : Bool} {b : List UInt8} {a : Nat} {e most : Int} (h : a ≤ b.length) : (rCount ok b a e most).2.1 ≤ b.length := by
  unfold rCount
  split
  · split
    · exact h
    · exact rU_a h
  · exact h
theorem rCount_lt (ok : Bool) (b : List UInt8) (a : Nat) (e most : Int) : (rCount ok b a e most).1 < 4294967296 := by
  unfold rCount
  split
  · split
    · exact (by decide : (0 : Nat) < 4294967296)
    · exact rU_lt _ _ _ _
  · exact (by decide : (0 : Nat) < 4294967296)
/-- What is taken: nothing and an error, or bytes. -/
theorem rTake_cases (b : List UInt8) (a : Nat) (e n : Int) (ha : a ≤ b.length) : (∃ x, x ≠ 0 ∧ rTake (e == 0) b a e n = (none, a, x)) ∨ e = 0 ∧ ∃ l, l.length ≤ b.length ∧ rTake (e == 0) b a e n = (some l, a + n.toNat, 0) ∧ l = (b.drop a).take n.toNat := by
  by_cases h : e = 0
  · subst h
    by_cases h1 : n < 0
    · exact .inl ⟨1, by decide, by simp [rTake, h1]⟩
    · by_cases h2 : n > (b.length : Int) - a
      · exact .inl ⟨3, by decide, by simp [rTake, h1, h2]⟩
      · exact .inr ⟨rfl, (b.drop a).take n.toNat, by simp; omega, by simp only [rTake, beq_self_eq_true, if_true, if_neg h1, if_neg h2], rfl⟩
  · exact .inl ⟨e, h, by simp [rTake, h]⟩

theorem s_name (m : Bool) (b : List UInt8) (a : Nat) (e : Int) (ha : a ≤ b.length) (hb : b.length < 1000000000) :
    RM n_Poctet_Reader_Name [] m b a e (.str (rName (m && e == 0) b a e).1) (rName (m && e == 0) b a e).2.1 (rName (m && e == 0) b a e).2.2 := by
  refine fun_sound (ic := F_Poctet_Reader_Name.body) mixed c_Poctet_Reader_Name rfl rfl ?_
  simp only [go_sem, rx, ro, F_Poctet_Reader_Name]
  refine call_m (s_sound m b a e) ⟨by decide, by decide⟩ (by first | rfl | exact slv_ids _) (by simp [go_sem, rx, ro]) rfl rfl (by rfl) ?_
  cases h : (m && e == 0)
  · have r : rName false b a e = ([], a, e) := by simp [rName]
    rw [r]
    simp only [go_sem, rx, ro]
    exact done1 (fun _ h => by cases h) (by simp only [go_sem, rx, ro]) (by rfl) (by first | rfl | simp [go_sem, slv_ids, clB, rx, ro])
  · obtain ⟨rfl, h2⟩ := Bool.and_eq_true_iff.1 h
    obtain rfl : e = 0 := by simpa using h2
    simp only [go_sem, rx, ro]
    refine call_m (s_count true b a 0 64 ha hb) ⟨by decide, by decide⟩ (by first | rfl | exact slv_ids _) (by simp [go_sem, rx, ro]) rfl rfl (by rfl) ?_
    have hl := rCount_lt true b a 0 64
    have ha2 := rCount_a (ok := true) (e := 0) (most := 64) ha
    have r : rName true b a 0 = nameT b a (rTake ((rCount true b a 0 64).2.2 == 0) b (rCount true b a 0 64).2.1 (rCount true b a 0 64).2.2 (rCount true b a 0 64).1) := by simp [rName]
    rw [h, r]
    generalize hc : rCount true b a 0 64 = c at *
    obtain ⟨n, a1, e1⟩ := c
    simp only [go_sem, rx, ro]
    refine call_m (s_take true b a1 e1 n ha2 hb (by omega)) ⟨by decide, by decide⟩ (by first | rfl | exact slv_ids _) (by simp [go_sem, rx, ro]) rfl rfl (by rfl) ?_
    rw [Bool.true_and]
    rcases rTake_cases b a1 e1 (n : Int) ha2 with ⟨x, hx, ht⟩ | ⟨rfl, l, hl2, ht, _⟩
    · have r2 : nameT b a (none, a1, x) = ([], a, x) := by simp [nameT, hx]
      rw [ht, r2]
      simp only [go_sem, rx, ro, bytesA, Option.map_some, beq_f hx, bne_t hx]
      exact done1 (fun _ h => by cases h) (by simp only [go_sem, rx, ro]) (by rfl) (by first | rfl | simp [go_sem, slv_ids, clB, rx, ro])
    · have b1 := bytes_by l
      rw [Int.toNat_natCast] at ht
      rw [ht]
      simp only [go_sem, rx, ro, b1, Option.map_some]
      refine call_same (s_uvS l (by omega)) (by simp [go_sem, rx, ro]) ?_
      cases hv : uv l
      · have r2 : nameT b a (some l, a1 + n, 0) = ([], a, 9) := by simp [nameT, hv]
        rw [r2]
        simp only [go_sem, rx, ro]
        refine call_m (s_fail_ok b ((a1 + n : Nat) : Int) 9) ⟨by decide, by decide⟩ (by first | rfl | exact slv_ids _) (by simp [go_sem, rx, ro]) rfl rfl (by rfl) ?_
        simp only [go_sem, rx, ro]
        exact done1 (fun _ h => by cases h) (by simp only [go_sem, rx, ro]) (by rfl) (by first | rfl | simp [go_sem, slv_ids, clB, rx, ro])
      · have r2 : nameT b a (some l, a1 + n, 0) = (l, a1 + n, 0) := by simp [nameT, hv]
        rw [r2]
        simp only [go_sem, rx, ro]
        exact done1 (fun _ h => by cases h) (by simp only [go_sem, rx, ro]) (by rfl) (by first | rfl | simp [go_sem, slv_ids, clB, rx, ro])
theorem q_Name (b : List UInt8) (a : Nat) (e : Int) (ha : a ≤ b.length) (hb : b.length < 1000000000) :
    PCalls Tryd.prog n_ref02_Name [rx b a e] (.tup [rx b (rName (e == 0) b a e).2.1 (rName (e == 0) b a e).2.2, .str (rName (e == 0) b a e).1]) := by
  refine pfun_sound (ic := F_ref02_Name.body) mixed c_ref02_Name rfl rfl ?_
  have cc := q_Count b a e ha hb 64
  by_cases h : e = 0
  · subst h
    simp only [go_sem, rx, ro, F_ref02_Name]
    refine call_same (cc) (by simp [go_sem, rx, ro]) ?_
    have hl := rCount_lt true b a 0 64
    have ha2 := rCount_a (ok := true) (e := 0) (most := 64) ha
    have r : rName true b a 0 = nameT b a (rTake ((rCount true b a 0 64).2.2 == 0) b (rCount true b a 0 64).2.1 (rCount true b a 0 64).2.2 (rCount true b a 0 64).1) := by simp [rName]
    rw [r]
    simp only [go_sem, rx, ro]
    generalize hc : rCount true b a 0 64 = c at *
    obtain ⟨n, a1, e1⟩ := c
    have ct := q_Take b a1 e1 n ha2 hb (by omega)
    rcases rTake_cases b a1 e1 (n : Int) ha2 with ⟨x, hx, ht⟩ | ⟨rfl, l, hl2, ht, _⟩
    · have r2 : nameT b a (none, a1, x) = ([], a, x) := by simp [nameT, hx]
      rw [ht] at ct
      rw [ht, r2]
      refine call_same (ct) (by simp [go_sem, rx, ro]) ?_
      simp only [go_sem, rx, ro, beq_f hx, bne_t hx]
      refine call_same (q_Fail0 b a x) (by simp [go_sem, rx, ro]) ?_
      simp only [go_sem, rx, ro]
      exact pdone [] (by simp only [go_sem, rx, ro]) (by first | rfl | simp [go_sem, slv_ids, rx, ro])
    · have b1 := bytes_by l
      rw [Int.toNat_natCast] at ht
      rw [ht] at ct
      rw [ht]
      refine call_same (ct) (by simp [go_sem, rx, ro]) ?_
      simp only [go_sem, rx, ro]
      refine call_same (s_uvB l (by omega)) (by simp [go_sem, rx, ro]) ?_
      cases hv : uv l
      · have r2 : nameT b a (some l, a1 + n, 0) = ([], a, 9) := by simp [nameT, hv]
        rw [r2]
        simp only [go_sem, rx, ro]
        refine call_same (q_Fail0 b a 9) (by simp [go_sem, rx, ro]) ?_
        simp only [go_sem, rx, ro]
        exact pdone [] (by simp only [go_sem, rx, ro]) (by first | rfl | simp [go_sem, slv_ids, rx, ro])
      · have r2 : nameT b a (some l, a1 + n, 0) = (l, a1 + n, 0) := by simp [nameT, hv]
        rw [r2]
        simp only [go_sem, rx, ro, b1, Option.map_some]
        exact pdone [] (by simp only [go_sem, rx, ro]) (by first | rfl | simp [go_sem, slv_ids, rx, ro])
  · have r : rCount (e == 0) b a e 64 = (0, a, e) := by simp [rCount, h]
    have r1 : rTake (e == 0) b a e ((0 : Nat) : Int) = (none, a, e) := by simp [rTake, h]
    have r2 : rName (e == 0) b a e = ([], a, e) := by simp [rName, h]
    have ct := q_Take b a e ((0 : Nat) : Int) ha hb (by decide)
    rw [r] at cc
    rw [r1] at ct
    rw [r2]
    simp only [go_sem, rx, ro, F_ref02_Name]
    refine call_same (cc) (by simp [go_sem, rx, ro]) ?_
    simp only [go_sem, rx, ro]
    refine call_same (ct) (by simp [go_sem, rx, ro]) ?_
    simp only [go_sem, rx, ro, beq_f h, bne_t h]
    refine call_same (q_Fail b a e e) (by simp [go_sem, rx, ro]) ?_
    simp only [go_sem, rx, ro, if_neg h]
    exact pdone [] (by simp only [go_sem, rx, ro]) (by first | rfl | simp [go_sem, slv_ids, rx, ro])

/-- The Reader of a part. -/
theorem s_subG (b : List UInt8) (a : Nat) (e n : Int) (ha : a ≤ b.length) (hb : b.length < 1000000000) (hn : -9223372036854775808 ≤ n ∧ n < 9223372036854775808) :
    ACalls Tryd.prog n_Poctet_Reader_Sub [.mp 1000 4 0 0, .int .i64 n] [(1000, ro true b a e)] sb (fun r' σ' => r' = .mp 24 4 0 0 ∧ σ' = [(1000, ro true b (rTake (e == 0) b a e n).2.1 (rTake (e == 0) b a e n).2.2), (24, ro true ((rTake (e == 0) b a e n).1.getD []) ((0 : Nat) : Int) (rTake (e == 0) b a e n).2.2)]) := by
  refine fun_sound (ic := F_Poctet_Reader_Sub.body) mixed c_Poctet_Reader_Sub rfl rfl ?_
  simp only [go_sem, rx, ro, F_Poctet_Reader_Sub]
  refine call_m (s_take true b a e n ha hb hn) ⟨by decide, by decide⟩ (by first | rfl | exact slv_ids _) (by simp [go_sem, rx, ro]) rfl rfl (by rfl) ?_
  rw [Bool.true_and]
  cases hl : (rTake (e == 0) b a e n).1 with
  | none =>
    simp only [go_sem, rx, ro]
    refine wdone (Wk.nlh _ 24 (t := 48) (st := 4) (r := [.bool true, .nl, .int .i64 0, .int .i64 (rTake (e == 0) b a e n).2.2]) (r' := [.bool true, .sl 1 [], .int .i64 0, .int .i64 (rTake (e == 0) b a e n).2.2]) (by simp only [go_sem, rx, ro]) ⟨.inl rfl, .inr ⟨rfl, 1, rfl⟩, .inl rfl, .inl rfl, trivial⟩) [] (.mp 24 4 0 0) [(1000, ro true b (rTake (e == 0) b a e n).2.1 (rTake (e == 0) b a e n).2.2), (24, ro true [] ((0 : Nat) : Int) (rTake (e == 0) b a e n).2.2)] (by simp only [go_sem, rx, ro]) (by simp only [go_sem, rx, ro]; rfl) rfl ⟨rfl, rfl⟩
  | some l =>
    simp only [go_sem, rx, ro]
    exact done [] _ [(1000, ro true b (rTake (e == 0) b a e n).2.1 (rTake (e == 0) b a e n).2.2), (24, ro true l ((0 : Nat) : Int) (rTake (e == 0) b a e n).2.2)] (by simp only [go_sem, rx, ro]) (by simp only [go_sem, rx, ro]; rfl) rfl ⟨rfl, rfl⟩
theorem s_sub_un (b : List UInt8) (a e n : Int) : RM n_Poctet_Reader_Sub [.int .i64 n] false b a e .np a e := by
  refine fun_sound (ic := F_Poctet_Reader_Sub.body) mixed c_Poctet_Reader_Sub rfl rfl ?_
  simp only [go_sem, rx, ro, F_Poctet_Reader_Sub]
  exact done1 (fun _ h => by cases h) (by simp only [go_sem, rx, ro]) (by rfl) (by first | rfl | simp [go_sem, slv_ids, clB, rx, ro])
theorem s_sub_np (n : Int) : PCalls Tryd.prog n_Poctet_Reader_Sub [.np, .int .i64 n] .np := by
  refine pfun_sound (ic := F_Poctet_Reader_Sub.body) mixed c_Poctet_Reader_Sub rfl rfl ?_
  simp only [go_sem, rx, ro, F_Poctet_Reader_Sub]
  exact pdone [] (by simp only [go_sem, rx, ro]) (by first | rfl | simp [go_sem, slv_ids, rx, ro])
theorem q_Sub (b : List UInt8) (a : Nat) (e n : Int) (ha : a ≤ b.length) (hb : b.length < 1000000000) (hn : -9223372036854775808 ≤ n ∧ n < 9223372036854775808) :
    PCalls Tryd.prog n_ref02_Sub [rx b a e, .int .i64 n] (.tup [rx b (rTake (e == 0) b a e n).2.1 (rTake (e == 0) b a e n).2.2, rx ((rTake (e == 0) b a e n).1.getD []) 0 (rTake (e == 0) b a e n).2.2]) := by
  refine pfun_sound (ic := F_ref02_Sub.body) mixed c_ref02_Sub rfl rfl ?_
  simp only [go_sem, rx, ro, F_ref02_Sub]
  refine call_same (q_Take b a e n ha hb hn) (by simp [go_sem, rx, ro]) ?_
  cases hl : (rTake (e == 0) b a e n).1 with
  | none =>
    simp only [go_sem, rx, ro]
    exact wpdone (Wk.nlh _ 5 (t := 62) (st := 3) (r := [.nl, .int .i64 0, .int .i64 (rTake (e == 0) b a e n).2.2]) (r' := [.sl 1 [], .int .i64 0, .int .i64 (rTake (e == 0) b a e n).2.2]) (by simp only [go_sem, rx, ro]) ⟨.inr ⟨rfl, 1, rfl⟩, .inl rfl, .inl rfl, trivial⟩) [] (by simp only [go_sem, rx, ro]) rfl
  | some l =>
    simp only [go_sem, rx, ro]
    exact pdone [] (by simp only [go_sem, rx, ro]) rfl
end Go.Proofs.YtkejmhpodhbeeaaDoor
set_option linter.unusedSimpArgs false
set_option maxRecDepth 100000
set_option maxHeartbeats 4000000
set_option linter.unusedVariables false
namespace Go.Proofs.YtkejmhpodhbeeaaDoor
open Go Go.Mw
-- @U: rx, ro, slv_none, slv_some

/-- What 'same' tells. -/
def sameB (b : List UInt8) (a : Nat) (e : Int) (b2 : List UInt8) (a2 : Nat) (e2 : Int) : Bool :=
  ((((((a : Int) == a2) && (rLeft (e == 0) b a == rLeft (e2 == 0) b2 a2)) && (e == e2)) && (rEnd true b a e == rEnd true b2 a2 e2)) &&
    (((rPeek (e == 0) b a).1.toNat : Int) == (rPeek (e2 == 0) b2 a2).1.toNat)) && ((rPeek (e == 0) b a).2 == (rPeek (e2 == 0) b2 a2).2)
theorem sameB_self (b : List UInt8) (a : Nat) (e : Int) : sameB b a e b a e = true := by simp [sameB]
theorem s_same (b : List UInt8) (a : Nat) (e : Int) (b2 : List UInt8) (a2 : Nat) (e2 : Int) (ha : a ≤ b.length) (hb : b.length < 1000000000) (ha2 : a2 ≤ b2.length) (hb2 : b2.length < 1000000000) :
    RM n_law02_same [rx b2 a2 e2] true b a e (.bool (sameB b a e b2 a2 e2)) a e := by
  refine fun_sound (ic := F_law02_same.body) mixed c_law02_same rfl rfl ?_
  simp only [go_sem, rx, ro, F_law02_same]
  refine call_m (s_peek true b a e) ⟨by decide, by decide⟩ (by first | rfl | exact slv_ids _) (by simp [go_sem, rx, ro]) rfl rfl (by rfl) ?_
  simp only [go_sem, rx, ro]
  refine call_same (q_Peek b2 a2 e2 ha2 hb2) (by simp [go_sem, rx, ro]) ?_
  simp only [go_sem, rx, ro]
  refine dcall_m (s_at true b a e) ⟨by decide, by decide⟩ rfl (by simp) rfl rfl (by rfl) (by exact List.Mem.head _) ?_
  simp only [go_sem, rx, ro]
  cases h1 : ((a : Int) == (a2 : Int))
  · simp only [go_sem, rx, ro]
    have r : sameB b a e b2 a2 e2 = false := by simp [sameB, h1]
    rw [r]
    exact done1 (fun _ h => by cases h) (by simp only [go_sem, rx, ro]) (by rfl) (by first | rfl | simp [go_sem, slv_ids, clB, rx, ro])
  simp only [go_sem, rx, ro]
  refine dcall_m (s_left true b a e ha hb) ⟨by decide, by decide⟩ rfl (by simp) rfl rfl (by rfl) (by exact List.Mem.head _) ?_
  rw [Bool.true_and]
  simp only [go_sem, rx, ro]
  refine call_same (q_Left b2 a2 e2 ha2 hb2) (by simp [go_sem, rx, ro]) ?_
  simp only [go_sem, rx, ro]
  cases h2 : (rLeft (e == 0) b a == rLeft (e2 == 0) b2 a2)
  · simp only [go_sem, rx, ro]
    have r : sameB b a e b2 a2 e2 = false := by simp [sameB, h2]
    rw [r]
    exact done1 (fun _ h => by cases h) (by simp only [go_sem, rx, ro]) (by rfl) (by first | rfl | simp [go_sem, slv_ids, clB, rx, ro])
  simp only [go_sem, rx, ro]
  refine dcall_m (s_err true b a e) ⟨by decide, by decide⟩ rfl (by simp) rfl rfl (by rfl) (by exact List.Mem.head _) ?_
  simp only [go_sem, rx, ro]
  cases h3 : (e == e2)
  · simp only [go_sem, rx, ro]
    have r : sameB b a e b2 a2 e2 = false := by simp [sameB, h3]
    rw [r]
    exact done1 (fun _ h => by cases h) (by simp only [go_sem, rx, ro]) (by rfl) (by first | rfl | simp [go_sem, slv_ids, clB, rx, ro])
  simp only [go_sem, rx, ro]
  refine dcall_m (s_end true b a e) ⟨by decide, by decide⟩ rfl (by simp) rfl rfl (by rfl) (by exact List.Mem.head _) ?_
  simp only [go_sem, rx, ro]
  refine call_same (q_End b2 a2 e2 ha2 hb2) (by simp [go_sem, rx, ro]) ?_
  simp only [go_sem, rx, ro]
  cases h4 : (rEnd true b a e == rEnd true b2 a2 e2)
  · simp only [go_sem, rx, ro]
    have r : sameB b a e b2 a2 e2 = false := by simp [sameB, h4]
    rw [r]
    exact done1 (fun _ h => by cases h) (by simp only [go_sem, rx, ro]) (by rfl) (by first | rfl | simp [go_sem, slv_ids, clB, rx, ro])
  simp only [go_sem, rx, ro]
  cases h5 : (((rPeek (e == 0) b a).1.toNat : Int) == ((rPeek (e2 == 0) b2 a2).1.toNat : Int))
  · simp only [go_sem, rx, ro, Bool.true_and, h5]
    have r : sameB b a e b2 a2 e2 = false := by simp only [sameB, h5, Bool.and_false, Bool.false_and]
    rw [r]
    exact done1 (fun _ h => by cases h) (by simp only [go_sem, rx, ro]) (by rfl) (by first | rfl | simp [go_sem, slv_ids, clB, rx, ro])
  simp only [go_sem, rx, ro, Bool.true_and, h5]
  have r : sameB b a e b2 a2 e2 = ((rPeek (e == 0) b a).2 == (rPeek (e2 == 0) b2 a2).2) := by simp only [sameB, h1, h2, h3, h4, h5, Bool.true_and]
  rw [r]
  exact done1 (fun _ h => by cases h) (by simp only [go_sem, rx, ro]) (by rfl) (by first | rfl | simp [go_sem, slv_ids, clB, rx, ro])
end Go.Proofs.YtkejmhpodhbeeaaDoor
set_option linter.unusedSimpArgs false
set_option maxRecDepth 100000
set_option maxHeartbeats 4000000
set_option linter.unusedVariables false
set_option linter.unusedSectionVars false
namespace Go.Proofs.YtkejmhpodhbeeaaDoor
open Go Go.Mw
-- @U: rx, ro, slv_none, slv_some

/-- Where a Reader stands after a call, and its error. -/
def actS (d n : Int) (b : List UInt8) (a : Nat) (e : Int) : Nat × Int :=
  if d = 0 then (rByte (e == 0) b a e).2 else if d = 1 then (rU (e == 0) 32 b a e).2 else if d = 2 then (rS (e == 0) 32 b a e).2 else if d = 3 then (rS (e == 0) 33 b a e).2 else if d = 4 then (rS (e == 0) 64 b a e).2 else
  if d = 5 then (rTake (e == 0) b a e n).2 else if d = 6 then (rName (e == 0) b a e).2 else if d = 7 then (rCount (e == 0) b a e n).2 else if d = 8 then (rTake (e == 0) b a e n).2 else if d = 10 then (a, if e = 0 then n else e) else (a, e)
theorem rByte_a {ok : Bool} {b : List UInt8} {a : Nat} {e : Int} (h : a ≤ b.length) : (rByte ok b a e).2.1 ≤ b.length := by
  unfold rByte
  repeat' split
  all_goals first | exact h | (simp only; omega)
theorem nameT_a {b : List UInt8} {a : Nat} {t : Option (List UInt8) × Nat × Int} (h : a ≤ b.length) (h2 : t.2.1 ≤ b.length) : (nameT b a t).2.1 ≤ b.length := by
  unfold nameT
  repeat' split
  all_goals first | exact h | exact h2
theorem rName_a {ok : Bool} {b : List UInt8} {a : Nat} {e : Int} (h : a ≤ b.length) : (rName ok b a e).2.1 ≤ b.length := by
  unfold rName
  split
  · exact nameT_a h (rTake_a (rCount_a h))
  · exact h
/-- What a call on both Readers does: the first goes where it should, and so does the second; where they agree ahead of it the law is content. -/
def Acts (d n : Int) (b : List UInt8) (a : Nat) (e : Int) (b2 : List UInt8) (a2 : Nat) (e2 : Int) : Prop :=
  ∃ q : Bool, (b = b2 → a = a2 → e = e2 → q = true) ∧ RM n_law02_acts [rx b2 a2 e2, .agg [.int .i64 d, .int .i64 n]] true b a e (.tup [rx b2 (actS d n b2 a2 e2).1 (actS d n b2 a2 e2).2, .bool q]) (actS d n b a e).1 (actS d n b a e).2
section
variable (n : Int) (b : List UInt8) (a : Nat) (e : Int) (b2 : List UInt8) (a2 : Nat) (e2 : Int) (hn : -9223372036854775808 ≤ n ∧ n < 9223372036854775808) (ha : a ≤ b.length) (hb : b.length < 1000000000) (ha2 : a2 ≤ b2.length) (hb2 : b2.length < 1000000000)
include hn ha hb ha2 hb2
theorem acts_0 : Acts 0 n b a e b2 a2 e2 := by
  have hs1 : actS 0 n b a e = (rByte (e == 0) b a e).2 := rfl
  have hs2 : actS 0 n b2 a2 e2 = (rByte (e2 == 0) b2 a2 e2).2 := rfl
  unfold Acts
  rw [hs1, hs2]
  have p1 : (rByte (e == 0) b a e).2.1 ≤ b.length := rByte_a ha
  have p2 : (rByte (e2 == 0) b2 a2 e2).2.1 ≤ b2.length := rByte_a ha2
  refine ⟨(((rByte (e == 0) b a e).1.toNat : Int) == ((rByte (e2 == 0) b2 a2 e2).1.toNat : Int)) && sameB b (rByte (e == 0) b a e).2.1 (rByte (e == 0) b a e).2.2 b2 (rByte (e2 == 0) b2 a2 e2).2.1 (rByte (e2 == 0) b2 a2 e2).2.2, fun h1 h2 h3 => by subst h1 h2 h3; simp [sameB_self], ?_⟩
  refine fun_sound (ic := F_law02_acts.body) mixed c_law02_acts rfl rfl ?_
  simp only [go_sem, rx, ro, F_law02_acts]
  refine call_same (q_Byte b2 a2 e2 ha2 hb2) (by simp [go_sem, rx, ro]) ?_
  simp only [go_sem, rx, ro]
  refine dcall_m (s_byte true b a e ha hb) ⟨by decide, by decide⟩ (by first | rfl | exact slv_ids _) (by simp [go_sem]) rfl rfl (by rfl) (by exact List.Mem.head _) ?_
  rw [Bool.true_and]
  simp only [go_sem, rx, ro]
  cases hq : (((rByte (e == 0) b a e).1.toNat : Int) == ((rByte (e2 == 0) b2 a2 e2).1.toNat : Int))
  · simp only [go_sem, rx, ro, hq, Bool.false_and]
    exact done1 (fun _ h => by cases h) (by simp only [go_sem, rx, ro]) (by rfl) (by first | rfl | simp [go_sem, slv_ids, clB, rx, ro])
  · simp only [go_sem, rx, ro, hq, Bool.true_and]
    refine dcall_m (s_same b (rByte (e == 0) b a e).2.1 (rByte (e == 0) b a e).2.2 b2 (rByte (e2 == 0) b2 a2 e2).2.1 (rByte (e2 == 0) b2 a2 e2).2.2 p1 hb p2 hb2) ⟨by decide, by decide⟩ rfl (by simp [go_sem, rx]) rfl rfl (by rfl) (by exact List.Mem.head _) ?_
    simp only [go_sem, rx, ro]
    exact done1 (fun _ h => by cases h) (by simp only [go_sem, rx, ro]) (by rfl) (by first | rfl | simp [go_sem, slv_ids, clB, rx, ro])
theorem acts_1 : Acts 1 n b a e b2 a2 e2 := by
  have hs1 : actS 1 n b a e = (rU (e == 0) 32 b a e).2 := rfl
  have hs2 : actS 1 n b2 a2 e2 = (rU (e2 == 0) 32 b2 a2 e2).2 := rfl
  unfold Acts
  rw [hs1, hs2]
  have p1 : (rU (e == 0) 32 b a e).2.1 ≤ b.length := rU_a ha
  have p2 : (rU (e2 == 0) 32 b2 a2 e2).2.1 ≤ b2.length := rU_a ha2
  refine ⟨(((rU (e == 0) 32 b a e).1 : Int) == ((rU (e2 == 0) 32 b2 a2 e2).1 : Int)) && sameB b (rU (e == 0) 32 b a e).2.1 (rU (e == 0) 32 b a e).2.2 b2 (rU (e2 == 0) 32 b2 a2 e2).2.1 (rU (e2 == 0) 32 b2 a2 e2).2.2, fun h1 h2 h3 => by subst h1 h2 h3; simp [sameB_self], ?_⟩
  refine fun_sound (ic := F_law02_acts.body) mixed c_law02_acts rfl rfl ?_
  simp only [go_sem, rx, ro, F_law02_acts]
  refine call_same (q_U32 b2 a2 e2 ha2 hb2) (by simp [go_sem, rx, ro]) ?_
  simp only [go_sem, rx, ro]
  refine dcall_m (s_U32 true b a e ha hb) ⟨by decide, by decide⟩ (by first | rfl | exact slv_ids _) (by simp [go_sem]) rfl rfl (by rfl) (by exact List.Mem.head _) ?_
  rw [Bool.true_and]
  simp only [go_sem, rx, ro]
  cases hq : (((rU (e == 0) 32 b a e).1 : Int) == ((rU (e2 == 0) 32 b2 a2 e2).1 : Int))
  · simp only [go_sem, rx, ro, hq, Bool.false_and]
    exact done1 (fun _ h => by cases h) (by simp only [go_sem, rx, ro]) (by rfl) (by first | rfl | simp [go_sem, slv_ids, clB, rx, ro])
  · simp only [go_sem, rx, ro, hq, Bool.true_and]
    refine dcall_m (s_same b (rU (e == 0) 32 b a e).2.1 (rU (e == 0) 32 b a e).2.2 b2 (rU (e2 == 0) 32 b2 a2 e2).2.1 (rU (e2 == 0) 32 b2 a2 e2).2.2 p1 hb p2 hb2) ⟨by decide, by decide⟩ rfl (by simp [go_sem, rx]) rfl rfl (by rfl) (by exact List.Mem.head _) ?_
    simp only [go_sem, rx, ro]
    exact done1 (fun _ h => by cases h) (by simp only [go_sem, rx, ro]) (by rfl) (by first | rfl | simp [go_sem, slv_ids, clB, rx, ro])
theorem acts_2 : Acts 2 n b a e b2 a2 e2 := by
  have hs1 : actS 2 n b a e = (rS (e == 0) 32 b a e).2 := rfl
  have hs2 : actS 2 n b2 a2 e2 = (rS (e2 == 0) 32 b2 a2 e2).2 := rfl
  unfold Acts
  rw [hs1, hs2]
  have p1 : (rS (e == 0) 32 b a e).2.1 ≤ b.length := rS_a ha
  have p2 : (rS (e2 == 0) 32 b2 a2 e2).2.1 ≤ b2.length := rS_a ha2
  refine ⟨(IntKind.u64.wrap (IntKind.u32.wrap (rS (e == 0) 32 b a e).1) == IntKind.u64.wrap (IntKind.u32.wrap (rS (e2 == 0) 32 b2 a2 e2).1)) && sameB b (rS (e == 0) 32 b a e).2.1 (rS (e == 0) 32 b a e).2.2 b2 (rS (e2 == 0) 32 b2 a2 e2).2.1 (rS (e2 == 0) 32 b2 a2 e2).2.2, fun h1 h2 h3 => by subst h1 h2 h3; simp [sameB_self], ?_⟩
  refine fun_sound (ic := F_law02_acts.body) mixed c_law02_acts rfl rfl ?_
  simp only [go_sem, rx, ro, F_law02_acts]
  refine call_same (q_S32 b2 a2 e2 ha2 hb2) (by simp [go_sem, rx, ro]) ?_
  simp only [go_sem, rx, ro]
  refine dcall_m (s_S32 true b a e ha hb) ⟨by decide, by decide⟩ (by first | rfl | exact slv_ids _) (by simp [go_sem]) rfl rfl (by rfl) (by exact List.Mem.head _) ?_
  rw [Bool.true_and]
  simp only [go_sem, rx, ro]
  cases hq : (IntKind.u64.wrap (IntKind.u32.wrap (rS (e == 0) 32 b a e).1) == IntKind.u64.wrap (IntKind.u32.wrap (rS (e2 == 0) 32 b2 a2 e2).1))
  · simp only [go_sem, rx, ro, hq, Bool.false_and]
    exact done1 (fun _ h => by cases h) (by simp only [go_sem, rx, ro]) (by rfl) (by first | rfl | simp [go_sem, slv_ids, clB, rx, ro])
  · simp only [go_sem, rx, ro, hq, Bool.true_and]
    refine dcall_m (s_same b (rS (e == 0) 32 b a e).2.1 (rS (e == 0) 32 b a e).2.2 b2 (rS (e2 == 0) 32 b2 a2 e2).2.1 (rS (e2 == 0) 32 b2 a2 e2).2.2 p1 hb p2 hb2) ⟨by decide, by decide⟩ rfl (by simp [go_sem, rx]) rfl rfl (by rfl) (by exact List.Mem.head _) ?_
    simp only [go_sem, rx, ro]
    exact done1 (fun _ h => by cases h) (by simp only [go_sem, rx, ro]) (by rfl) (by first | rfl | simp [go_sem, slv_ids, clB, rx, ro])
theorem acts_3 : Acts 3 n b a e b2 a2 e2 := by
  have hs1 : actS 3 n b a e = (rS (e == 0) 33 b a e).2 := rfl
  have hs2 : actS 3 n b2 a2 e2 = (rS (e2 == 0) 33 b2 a2 e2).2 := rfl
  unfold Acts
  rw [hs1, hs2]
  have p1 : (rS (e == 0) 33 b a e).2.1 ≤ b.length := rS_a ha
  have p2 : (rS (e2 == 0) 33 b2 a2 e2).2.1 ≤ b2.length := rS_a ha2
  refine ⟨((rS (e == 0) 33 b a e).1 == (rS (e2 == 0) 33 b2 a2 e2).1) && sameB b (rS (e == 0) 33 b a e).2.1 (rS (e == 0) 33 b a e).2.2 b2 (rS (e2 == 0) 33 b2 a2 e2).2.1 (rS (e2 == 0) 33 b2 a2 e2).2.2, fun h1 h2 h3 => by subst h1 h2 h3; simp [sameB_self], ?_⟩
  refine fun_sound (ic := F_law02_acts.body) mixed c_law02_acts rfl rfl ?_
  simp only [go_sem, rx, ro, F_law02_acts]
  refine call_same (q_S33 b2 a2 e2 ha2 hb2) (by simp [go_sem, rx, ro]) ?_
  simp only [go_sem, rx, ro]
  refine dcall_m (s_S33 true b a e ha hb) ⟨by decide, by decide⟩ (by first | rfl | exact slv_ids _) (by simp [go_sem]) rfl rfl (by rfl) (by exact List.Mem.head _) ?_
  rw [Bool.true_and]
  simp only [go_sem, rx, ro]
  cases hq : ((rS (e == 0) 33 b a e).1 == (rS (e2 == 0) 33 b2 a2 e2).1)
  · simp only [go_sem, rx, ro, hq, Bool.false_and]
    exact done1 (fun _ h => by cases h) (by simp only [go_sem, rx, ro]) (by rfl) (by first | rfl | simp [go_sem, slv_ids, clB, rx, ro])
  · simp only [go_sem, rx, ro, hq, Bool.true_and]
    refine dcall_m (s_same b (rS (e == 0) 33 b a e).2.1 (rS (e == 0) 33 b a e).2.2 b2 (rS (e2 == 0) 33 b2 a2 e2).2.1 (rS (e2 == 0) 33 b2 a2 e2).2.2 p1 hb p2 hb2) ⟨by decide, by decide⟩ rfl (by simp [go_sem, rx]) rfl rfl (by rfl) (by exact List.Mem.head _) ?_
    simp only [go_sem, rx, ro]
    exact done1 (fun _ h => by cases h) (by simp only [go_sem, rx, ro]) (by rfl) (by first | rfl | simp [go_sem, slv_ids, clB, rx, ro])
theorem acts_4 : Acts 4 n b a e b2 a2 e2 := by
  have hs1 : actS 4 n b a e = (rS (e == 0) 64 b a e).2 := rfl
  have hs2 : actS 4 n b2 a2 e2 = (rS (e2 == 0) 64 b2 a2 e2).2 := rfl
  unfold Acts
  rw [hs1, hs2]
  have p1 : (rS (e == 0) 64 b a e).2.1 ≤ b.length := rS_a ha
  have p2 : (rS (e2 == 0) 64 b2 a2 e2).2.1 ≤ b2.length := rS_a ha2
  refine ⟨(IntKind.u64.wrap (rS (e == 0) 64 b a e).1 == IntKind.u64.wrap (rS (e2 == 0) 64 b2 a2 e2).1) && sameB b (rS (e == 0) 64 b a e).2.1 (rS (e == 0) 64 b a e).2.2 b2 (rS (e2 == 0) 64 b2 a2 e2).2.1 (rS (e2 == 0) 64 b2 a2 e2).2.2, fun h1 h2 h3 => by subst h1 h2 h3; simp [sameB_self], ?_⟩
  refine fun_sound (ic := F_law02_acts.body) mixed c_law02_acts rfl rfl ?_
  simp only [go_sem, rx, ro, F_law02_acts]
  refine call_same (q_S64 b2 a2 e2 ha2 hb2) (by simp [go_sem, rx, ro]) ?_
  simp only [go_sem, rx, ro]
  refine dcall_m (s_S64 true b a e ha hb) ⟨by decide, by decide⟩ (by first | rfl | exact slv_ids _) (by simp [go_sem]) rfl rfl (by rfl) (by exact List.Mem.head _) ?_
  rw [Bool.true_and]
  simp only [go_sem, rx, ro]
  cases hq : (IntKind.u64.wrap (rS (e == 0) 64 b a e).1 == IntKind.u64.wrap (rS (e2 == 0) 64 b2 a2 e2).1)
  · simp only [go_sem, rx, ro, hq, Bool.false_and]
    exact done1 (fun _ h => by cases h) (by simp only [go_sem, rx, ro]) (by rfl) (by first | rfl | simp [go_sem, slv_ids, clB, rx, ro])
  · simp only [go_sem, rx, ro, hq, Bool.true_and]
    refine dcall_m (s_same b (rS (e == 0) 64 b a e).2.1 (rS (e == 0) 64 b a e).2.2 b2 (rS (e2 == 0) 64 b2 a2 e2).2.1 (rS (e2 == 0) 64 b2 a2 e2).2.2 p1 hb p2 hb2) ⟨by decide, by decide⟩ rfl (by simp [go_sem, rx]) rfl rfl (by rfl) (by exact List.Mem.head _) ?_
    simp only [go_sem, rx, ro]
    exact done1 (fun _ h => by cases h) (by simp only [go_sem, rx, ro]) (by rfl) (by first | rfl | simp [go_sem, slv_ids, clB, rx, ro])
theorem acts_5 : Acts 5 n b a e b2 a2 e2 := by
  have hs1 : actS 5 n b a e = (rTake (e == 0) b a e n).2 := rfl
  have hs2 : actS 5 n b2 a2 e2 = (rTake (e2 == 0) b2 a2 e2 n).2 := rfl
  unfold Acts
  rw [hs1, hs2]
  have p1 : (rTake (e == 0) b a e n).2.1 ≤ b.length := rTake_a ha
  have p2 : (rTake (e2 == 0) b2 a2 e2 n).2.1 ≤ b2.length := rTake_a ha2
  refine ⟨((rTake (e == 0) b a e n).1.getD [] == (rTake (e2 == 0) b2 a2 e2 n).1.getD []) && sameB b (rTake (e == 0) b a e n).2.1 (rTake (e == 0) b a e n).2.2 b2 (rTake (e2 == 0) b2 a2 e2 n).2.1 (rTake (e2 == 0) b2 a2 e2 n).2.2, fun h1 h2 h3 => by subst h1 h2 h3; simp [sameB_self], ?_⟩
  refine fun_sound (ic := F_law02_acts.body) mixed c_law02_acts rfl rfl ?_
  have cq := q_Take b2 a2 e2 n ha2 hb2 hn
  have cs := s_take true b a e n ha hb hn
  rw [Bool.true_and] at cs
  generalize k1 : (rTake (e == 0) b a e n).1 = o1 at *
  generalize k2 : (rTake (e2 == 0) b2 a2 e2 n).1 = o2 at *
  cases o1 with
  | none =>
    cases o2 with
    | none =>
      simp only [go_sem, rx, ro, F_law02_acts]
      refine call_same (cq) (by simp [go_sem, rx, ro]) ?_
      simp only [go_sem, rx, ro]
      refine dcall_m cs ⟨by decide, by decide⟩ (by first | rfl | exact slv_ids _) (by simp [go_sem]) rfl rfl (by rfl) (by exact List.Mem.head _) ?_
      simp only [go_sem, rx, ro, bytesA, Option.map_some, Option.getD_none, Option.getD_some]
      refine dcall_m (s_same b (rTake (e == 0) b a e n).2.1 (rTake (e == 0) b a e n).2.2 b2 (rTake (e2 == 0) b2 a2 e2 n).2.1 (rTake (e2 == 0) b2 a2 e2 n).2.2 p1 hb p2 hb2) ⟨by decide, by decide⟩ rfl (by simp [go_sem, rx]) rfl rfl (by rfl) (by exact List.Mem.head _) ?_
      simp only [go_sem, rx, ro]
      exact done1 (fun _ h => by cases h) (by simp only [go_sem, rx, ro]) (by rfl) (by first | rfl | simp [go_sem, slv_ids, clB, rx, ro])
    | some l2 =>
      simp only [go_sem, rx, ro, F_law02_acts]
      refine call_same (cq) (by simp [go_sem, rx, ro]) ?_
      simp only [go_sem, rx, ro]
      refine dcall_m cs ⟨by decide, by decide⟩ (by first | rfl | exact slv_ids _) (by simp [go_sem]) rfl rfl (by rfl) (by exact List.Mem.head _) ?_
      simp only [go_sem, rx, ro, bytesA, Option.map_some, Option.getD_none, Option.getD_some, bytes_by l2]
      cases hq : (([] : List UInt8) == l2)
      · simp only [go_sem, rx, ro, hq, Bool.false_and]
        exact done1 (fun _ h => by cases h) (by simp only [go_sem, rx, ro]) (by rfl) (by first | rfl | simp [go_sem, slv_ids, clB, rx, ro])
      simp only [go_sem, rx, ro, hq, Bool.true_and]
      refine dcall_m (s_same b (rTake (e == 0) b a e n).2.1 (rTake (e == 0) b a e n).2.2 b2 (rTake (e2 == 0) b2 a2 e2 n).2.1 (rTake (e2 == 0) b2 a2 e2 n).2.2 p1 hb p2 hb2) ⟨by decide, by decide⟩ rfl (by simp [go_sem, rx]) rfl rfl (by rfl) (by exact List.Mem.head _) ?_
      simp only [go_sem, rx, ro]
      exact done1 (fun _ h => by cases h) (by simp only [go_sem, rx, ro]) (by rfl) (by first | rfl | simp [go_sem, slv_ids, clB, rx, ro])
  | some l1 =>
    cases o2 with
    | none =>
      simp only [go_sem, rx, ro, F_law02_acts]
      refine call_same (cq) (by simp [go_sem, rx, ro]) ?_
      simp only [go_sem, rx, ro]
      refine dcall_m cs ⟨by decide, by decide⟩ (by first | rfl | exact slv_ids _) (by simp [go_sem]) rfl rfl (by rfl) (by exact List.Mem.head _) ?_
      simp only [go_sem, rx, ro, bytesA, Option.map_some, Option.getD_none, Option.getD_some, bytes_by l1]
      cases hq : ((l1 : List UInt8) == [])
      · simp only [go_sem, rx, ro, hq, Bool.false_and]
        exact done1 (fun _ h => by cases h) (by simp only [go_sem, rx, ro]) (by rfl) (by first | rfl | simp [go_sem, slv_ids, clB, rx, ro])
      simp only [go_sem, rx, ro, hq, Bool.true_and]
      refine dcall_m (s_same b (rTake (e == 0) b a e n).2.1 (rTake (e == 0) b a e n).2.2 b2 (rTake (e2 == 0) b2 a2 e2 n).2.1 (rTake (e2 == 0) b2 a2 e2 n).2.2 p1 hb p2 hb2) ⟨by decide, by decide⟩ rfl (by simp [go_sem, rx]) rfl rfl (by rfl) (by exact List.Mem.head _) ?_
      simp only [go_sem, rx, ro]
      exact done1 (fun _ h => by cases h) (by simp only [go_sem, rx, ro]) (by rfl) (by first | rfl | simp [go_sem, slv_ids, clB, rx, ro])
    | some l2 =>
      simp only [go_sem, rx, ro, F_law02_acts]
      refine call_same (cq) (by simp [go_sem, rx, ro]) ?_
      simp only [go_sem, rx, ro]
      refine dcall_m cs ⟨by decide, by decide⟩ (by first | rfl | exact slv_ids _) (by simp [go_sem]) rfl rfl (by rfl) (by exact List.Mem.head _) ?_
      simp only [go_sem, rx, ro, bytesA, Option.map_some, Option.getD_none, Option.getD_some, bytes_by l1, bytes_by l2]
      cases hq : ((l1 : List UInt8) == l2)
      · simp only [go_sem, rx, ro, hq, Bool.false_and]
        exact done1 (fun _ h => by cases h) (by simp only [go_sem, rx, ro]) (by rfl) (by first | rfl | simp [go_sem, slv_ids, clB, rx, ro])
      simp only [go_sem, rx, ro, hq, Bool.true_and]
      refine dcall_m (s_same b (rTake (e == 0) b a e n).2.1 (rTake (e == 0) b a e n).2.2 b2 (rTake (e2 == 0) b2 a2 e2 n).2.1 (rTake (e2 == 0) b2 a2 e2 n).2.2 p1 hb p2 hb2) ⟨by decide, by decide⟩ rfl (by simp [go_sem, rx]) rfl rfl (by rfl) (by exact List.Mem.head _) ?_
      simp only [go_sem, rx, ro]
      exact done1 (fun _ h => by cases h) (by simp only [go_sem, rx, ro]) (by rfl) (by first | rfl | simp [go_sem, slv_ids, clB, rx, ro])
theorem acts_6 : Acts 6 n b a e b2 a2 e2 := by
  have hs1 : actS 6 n b a e = (rName (e == 0) b a e).2 := rfl
  have hs2 : actS 6 n b2 a2 e2 = (rName (e2 == 0) b2 a2 e2).2 := rfl
  unfold Acts
  rw [hs1, hs2]
  have p1 : (rName (e == 0) b a e).2.1 ≤ b.length := rName_a ha
  have p2 : (rName (e2 == 0) b2 a2 e2).2.1 ≤ b2.length := rName_a ha2
  refine ⟨((rName (e == 0) b a e).1 == (rName (e2 == 0) b2 a2 e2).1) && sameB b (rName (e == 0) b a e).2.1 (rName (e == 0) b a e).2.2 b2 (rName (e2 == 0) b2 a2 e2).2.1 (rName (e2 == 0) b2 a2 e2).2.2, fun h1 h2 h3 => by subst h1 h2 h3; simp [sameB_self], ?_⟩
  refine fun_sound (ic := F_law02_acts.body) mixed c_law02_acts rfl rfl ?_
  simp only [go_sem, rx, ro, F_law02_acts]
  refine call_same (q_Name b2 a2 e2 ha2 hb2) (by simp [go_sem, rx, ro]) ?_
  simp only [go_sem, rx, ro]
  refine dcall_m (s_name true b a e ha hb) ⟨by decide, by decide⟩ (by first | rfl | exact slv_ids _) (by simp [go_sem]) rfl rfl (by rfl) (by exact List.Mem.head _) ?_
  rw [Bool.true_and]
  simp only [go_sem, rx, ro]
  cases hq : ((rName (e == 0) b a e).1 == (rName (e2 == 0) b2 a2 e2).1)
  · simp only [go_sem, rx, ro, hq, Bool.false_and]
    exact done1 (fun _ h => by cases h) (by simp only [go_sem, rx, ro]) (by rfl) (by first | rfl | simp [go_sem, slv_ids, clB, rx, ro])
  · simp only [go_sem, rx, ro, hq, Bool.true_and]
    refine dcall_m (s_same b (rName (e == 0) b a e).2.1 (rName (e == 0) b a e).2.2 b2 (rName (e2 == 0) b2 a2 e2).2.1 (rName (e2 == 0) b2 a2 e2).2.2 p1 hb p2 hb2) ⟨by decide, by decide⟩ rfl (by simp [go_sem, rx]) rfl rfl (by rfl) (by exact List.Mem.head _) ?_
    simp only [go_sem, rx, ro]
    exact done1 (fun _ h => by cases h) (by simp only [go_sem, rx, ro]) (by rfl) (by first | rfl | simp [go_sem, slv_ids, clB, rx, ro])
theorem acts_7 : Acts 7 n b a e b2 a2 e2 := by
  have hs1 : actS 7 n b a e = (rCount (e == 0) b a e n).2 := rfl
  have hs2 : actS 7 n b2 a2 e2 = (rCount (e2 == 0) b2 a2 e2 n).2 := rfl
  unfold Acts
  rw [hs1, hs2]
  have p1 : (rCount (e == 0) b a e n).2.1 ≤ b.length := rCount_a ha
  have p2 : (rCount (e2 == 0) b2 a2 e2 n).2.1 ≤ b2.length := rCount_a ha2
  refine ⟨(((rCount (e == 0) b a e n).1 : Int) == ((rCount (e2 == 0) b2 a2 e2 n).1 : Int)) && sameB b (rCount (e == 0) b a e n).2.1 (rCount (e == 0) b a e n).2.2 b2 (rCount (e2 == 0) b2 a2 e2 n).2.1 (rCount (e2 == 0) b2 a2 e2 n).2.2, fun h1 h2 h3 => by subst h1 h2 h3; simp [sameB_self], ?_⟩
  refine fun_sound (ic := F_law02_acts.body) mixed c_law02_acts rfl rfl ?_
  simp only [go_sem, rx, ro, F_law02_acts]
  refine call_same (q_Count b2 a2 e2 ha2 hb2 n) (by simp [go_sem, rx, ro]) ?_
  simp only [go_sem, rx, ro]
  refine dcall_m (s_count true b a e n ha hb) ⟨by decide, by decide⟩ (by first | rfl | exact slv_ids _) (by simp [go_sem]) rfl rfl (by rfl) (by exact List.Mem.head _) ?_
  rw [Bool.true_and]
  simp only [go_sem, rx, ro]
  cases hq : (((rCount (e == 0) b a e n).1 : Int) == ((rCount (e2 == 0) b2 a2 e2 n).1 : Int))
  · simp only [go_sem, rx, ro, hq, Bool.false_and]
    exact done1 (fun _ h => by cases h) (by simp only [go_sem, rx, ro]) (by rfl) (by first | rfl | simp [go_sem, slv_ids, clB, rx, ro])
  · simp only [go_sem, rx, ro, hq, Bool.true_and]
    refine dcall_m (s_same b (rCount (e == 0) b a e n).2.1 (rCount (e == 0) b a e n).2.2 b2 (rCount (e2 == 0) b2 a2 e2 n).2.1 (rCount (e2 == 0) b2 a2 e2 n).2.2 p1 hb p2 hb2) ⟨by decide, by decide⟩ rfl (by simp [go_sem, rx]) rfl rfl (by rfl) (by exact List.Mem.head _) ?_
    simp only [go_sem, rx, ro]
    exact done1 (fun _ h => by cases h) (by simp only [go_sem, rx, ro]) (by rfl) (by first | rfl | simp [go_sem, slv_ids, clB, rx, ro])
theorem acts_10 : Acts 10 n b a e b2 a2 e2 := by
  have hs1 : actS 10 n b a e = (a, if e = 0 then n else e) := rfl
  have hs2 : actS 10 n b2 a2 e2 = (a2, if e2 = 0 then n else e2) := rfl
  unfold Acts
  rw [hs1, hs2]
  refine ⟨sameB b a (if e = 0 then n else e) b2 a2 (if e2 = 0 then n else e2), fun h1 h2 h3 => by subst h1 h2 h3; simp [sameB_self], ?_⟩
  refine fun_sound (ic := F_law02_acts.body) mixed c_law02_acts rfl rfl ?_
  have hf : (if (true && e == 0) = true then n else e) = (if e = 0 then n else e) := by simp
  have cf := s_fail true b a e n
  rw [hf] at cf
  simp only [go_sem, rx, ro, F_law02_acts]
  refine call_m (cf) ⟨by decide, by decide⟩ (by first | rfl | exact slv_ids _) (by simp [go_sem, rx, ro]) rfl rfl (by rfl) ?_
  simp only [go_sem, rx, ro]
  refine call_same (q_Fail b2 a2 e2 n) (by simp [go_sem, rx, ro]) ?_
  simp only [go_sem, rx, ro]
  refine dcall_m (s_same b a (if e = 0 then n else e) b2 a2 (if e2 = 0 then n else e2) ha hb ha2 hb2) ⟨by decide, by decide⟩ rfl (by simp [go_sem, rx]) rfl rfl (by rfl) (by exact List.Mem.head _) ?_
  simp only [go_sem, rx, ro]
  exact done1 (fun _ h => by cases h) (by simp only [go_sem, rx, ro]) (by rfl) (by first | rfl | simp [go_sem, slv_ids, clB, rx, ro])
theorem acts_e (d : Int) (h0 : ¬ d = 0) (h1 : ¬ d = 1) (h2 : ¬ d = 2) (h3 : ¬ d = 3) (h4 : ¬ d = 4) (h5 : ¬ d = 5) (h6 : ¬ d = 6) (h7 : ¬ d = 7) (h8 : ¬ d = 8) (h10 : ¬ d = 10) : Acts d n b a e b2 a2 e2 := by
  have hs : ∀ b a e, actS d n b a e = (a, e) := fun b a e => by simp [actS, h0, h1, h2, h3, h4, h5, h6, h7, h8, h10]
  unfold Acts
  rw [hs, hs]
  refine ⟨sameB b a e b2 a2 e2, fun h1 h2 h3 => by subst h1 h2 h3; simp [sameB_self], ?_⟩
  refine fun_sound (ic := F_law02_acts.body) mixed c_law02_acts rfl rfl ?_
  simp only [go_sem, rx, ro, F_law02_acts, beq_f h0, beq_f h1, beq_f h2, beq_f h3, beq_f h4, beq_f h5, beq_f h6, beq_f h7, beq_f h8, beq_f h10]
  refine dcall_m (s_same b a e b2 a2 e2 ha hb ha2 hb2) ⟨by decide, by decide⟩ rfl (by simp [go_sem, rx]) rfl rfl (by rfl) (by exact List.Mem.head _) ?_
  simp only [go_sem, rx, ro]
  exact done1 (fun _ h => by cases h) (by simp only [go_sem, rx, ro]) (by rfl) (by first | rfl | simp [go_sem, slv_ids, clB, rx, ro])
end
end Go.Proofs.YtkejmhpodhbeeaaDoor
set_option linter.unusedSimpArgs false
set_option maxRecDepth 100000
set_option maxHeartbeats 4000000
set_option linter.unusedVariables false
namespace Go.Proofs.YtkejmhpodhbeeaaDoor
open Go Go.Mw
-- @U: rx, ro, slv_none, slv_some

theorem acts_8 (n : Int) (b : List UInt8) (a : Nat) (e : Int) (b2 : List UInt8) (a2 : Nat) (e2 : Int) (hn : -9223372036854775808 ≤ n ∧ n < 9223372036854775808) (ha : a ≤ b.length) (hb : b.length < 1000000000) (ha2 : a2 ≤ b2.length) (hb2 : b2.length < 1000000000) :
    Acts 8 n b a e b2 a2 e2 := by
  have hs1 : actS 8 n b a e = (rTake (e == 0) b a e n).2 := rfl
  have hs2 : actS 8 n b2 a2 e2 = (rTake (e2 == 0) b2 a2 e2 n).2 := rfl
  unfold Acts
  rw [hs1, hs2]
  have p1 : (rTake (e == 0) b a e n).2.1 ≤ b.length := rTake_a ha
  have p2 : (rTake (e2 == 0) b2 a2 e2 n).2.1 ≤ b2.length := rTake_a ha2
  have hl : ∀ (b : List UInt8) (a : Nat) (e : Int), b.length < 1000000000 → ((rTake (e == 0) b a e n).1.getD []).length < 1000000000 := fun b a e hb => by
    unfold rTake
    repeat' split
    all_goals first | (simp only [Option.getD_some, List.length_take, List.length_drop]; omega) | exact (by decide : (0 : Nat) < 1000000000)
  have cb := s_subG b a e n ha hb hn
  have cq := q_Sub b2 a2 e2 n ha2 hb2 hn
  have l1 := hl b a e hb
  have l2 := hl b2 a2 e2 hb2
  have key : b = b2 → a = a2 → e = e2 → rTake (e == 0) b a e n = rTake (e2 == 0) b2 a2 e2 n := fun h1 h2 h3 => by subst h1 h2 h3; rfl
  generalize rTake (e == 0) b a e n = t1 at *
  generalize rTake (e2 == 0) b2 a2 e2 n = t2 at *
  generalize hu1 : t1.1.getD [] = u1 at *
  generalize hu2 : t2.1.getD [] = u2 at *
  refine ⟨((sameB u1 0 t1.2.2 u2 0 t2.2.2 && (((rByte (t1.2.2 == 0) u1 0 t1.2.2).1.toNat : Int) == ((rByte (t2.2.2 == 0) u2 0 t2.2.2).1.toNat : Int))) && sameB u1 (rByte (t1.2.2 == 0) u1 0 t1.2.2).2.1 (rByte (t1.2.2 == 0) u1 0 t1.2.2).2.2 u2 (rByte (t2.2.2 == 0) u2 0 t2.2.2).2.1 (rByte (t2.2.2 == 0) u2 0 t2.2.2).2.2) && sameB b t1.2.1 t1.2.2 b2 t2.2.1 t2.2.2, fun h1 h2 h3 => ?_, ?_⟩
  · have k := key h1 h2 h3
    subst k h1
    rw [← hu1, ← hu2]
    simp [sameB_self]
  refine fun_sound (ic := F_law02_acts.body) mixed c_law02_acts rfl rfl ?_
  simp only [go_sem, rx, ro, F_law02_acts]
  refine call_same (cq) (by simp [go_sem, rx, ro]) ?_
  simp only [go_sem, rx, ro]
  refine call_obj (σ2 := [(1000, ro true b a e)]) (r3 := .mp 903 4 0 0) (σ3 := [(1000, ro true b t1.2.1 t1.2.2), (903, ro true u1 ((0 : Nat) : Int) t1.2.2)]) cb [(24, 903)] [903] rfl rfl rfl rfl ?_ ?_ ?_ ?_
  · simp only [go_sem, rx, ro]; simp
  · simp only [go_sem, rx, ro]; simp [sb, bw, swp, hget]
  · simp only [go_sem, rx, ro]; simp [hget]
  simp only [go_sem, rx, ro]
  refine call_same (q_Byte u2 0 t2.2.2 (Nat.zero_le _) l2) (by simp [go_sem, rx, ro]) ?_
  simp only [go_sem, rx, ro]
  refine dcall_m (s_same u1 0 t1.2.2 u2 0 t2.2.2 (Nat.zero_le _) l1 (Nat.zero_le _) l2) ⟨by decide, by decide⟩ rfl (by simp [go_sem, rx]) rfl rfl (by rfl) (by exact List.Mem.head _) ?_
  simp only [go_sem, rx, ro]
  have fin : ∀ q : Bool, q = true ∨ q = false := fun q => by cases q <;> simp
  cases hq1 : sameB u1 0 t1.2.2 u2 0 t2.2.2
  · simp only [go_sem, rx, ro, Bool.false_and]
    exact done1 (fun _ h => by cases h) (by simp only [go_sem, rx, ro]) (by rfl) (by first | rfl | simp [go_sem, slv_ids, clB, rx, ro])
  simp only [go_sem, rx, ro, Bool.true_and]
  refine dcall_m (s_byte true u1 0 t1.2.2 (Nat.zero_le _) l1) ⟨by decide, by decide⟩ rfl (by simp [go_sem, rx]) rfl rfl (by rfl) (by exact List.Mem.head _) ?_
  rw [Bool.true_and]
  simp only [go_sem, rx, ro]
  cases hq2 : (((rByte (t1.2.2 == 0) u1 0 t1.2.2).1.toNat : Int) == ((rByte (t2.2.2 == 0) u2 0 t2.2.2).1.toNat : Int))
  · simp only [go_sem, rx, ro, hq2, Bool.false_and]
    exact done1 (fun _ h => by cases h) (by simp only [go_sem, rx, ro]) (by rfl) (by first | rfl | simp [go_sem, slv_ids, clB, rx, ro])
  simp only [go_sem, rx, ro, hq2, Bool.true_and]
  refine dcall_m (s_same u1 (rByte (t1.2.2 == 0) u1 0 t1.2.2).2.1 (rByte (t1.2.2 == 0) u1 0 t1.2.2).2.2 u2 (rByte (t2.2.2 == 0) u2 0 t2.2.2).2.1 (rByte (t2.2.2 == 0) u2 0 t2.2.2).2.2 (rByte_a (Nat.zero_le _)) l1 (rByte_a (Nat.zero_le _)) l2) ⟨by decide, by decide⟩ rfl (by simp [go_sem, rx]) rfl rfl (by rfl) (by exact List.Mem.head _) ?_
  simp only [go_sem, rx, ro]
  cases hq3 : sameB u1 (rByte (t1.2.2 == 0) u1 0 t1.2.2).2.1 (rByte (t1.2.2 == 0) u1 0 t1.2.2).2.2 u2 (rByte (t2.2.2 == 0) u2 0 t2.2.2).2.1 (rByte (t2.2.2 == 0) u2 0 t2.2.2).2.2
  · simp only [go_sem, rx, ro, hq3, Bool.false_and]
    exact done1 (fun _ h => by cases h) (by simp only [go_sem, rx, ro]) (by rfl) (by first | rfl | simp [go_sem, slv_ids, clB, rx, ro])
  simp only [go_sem, rx, ro, hq3, Bool.true_and]
  refine dcall_m (s_same b t1.2.1 t1.2.2 b2 t2.2.1 t2.2.2 p1 hb p2 hb2) ⟨by decide, by decide⟩ rfl (by simp [go_sem, rx]) rfl rfl (by rfl) (by exact List.Mem.head _) ?_
  simp only [go_sem, rx, ro]
  exact done1 (fun _ h => by cases h) (by simp only [go_sem, rx, ro]) (by rfl) (by first | rfl | simp [go_sem, slv_ids, clB, rx, ro])
theorem acts_all (d n : Int) (b : List UInt8) (a : Nat) (e : Int) (b2 : List UInt8) (a2 : Nat) (e2 : Int) (hn : -9223372036854775808 ≤ n ∧ n < 9223372036854775808) (ha : a ≤ b.length) (hb : b.length < 1000000000) (ha2 : a2 ≤ b2.length) (hb2 : b2.length < 1000000000) :
    Acts d n b a e b2 a2 e2 := by
  by_cases h0 : d = 0
  · subst h0; exact acts_0 n b a e b2 a2 e2 hn ha hb ha2 hb2
  by_cases h1 : d = 1
  · subst h1; exact acts_1 n b a e b2 a2 e2 hn ha hb ha2 hb2
  by_cases h2 : d = 2
  · subst h2; exact acts_2 n b a e b2 a2 e2 hn ha hb ha2 hb2
  by_cases h3 : d = 3
  · subst h3; exact acts_3 n b a e b2 a2 e2 hn ha hb ha2 hb2
  by_cases h4 : d = 4
  · subst h4; exact acts_4 n b a e b2 a2 e2 hn ha hb ha2 hb2
  by_cases h5 : d = 5
  · subst h5; exact acts_5 n b a e b2 a2 e2 hn ha hb ha2 hb2
  by_cases h6 : d = 6
  · subst h6; exact acts_6 n b a e b2 a2 e2 hn ha hb ha2 hb2
  by_cases h7 : d = 7
  · subst h7; exact acts_7 n b a e b2 a2 e2 hn ha hb ha2 hb2
  by_cases h8 : d = 8
  · subst h8; exact acts_8 n b a e b2 a2 e2 hn ha hb ha2 hb2
  by_cases h10 : d = 10
  · subst h10; exact acts_10 n b a e b2 a2 e2 hn ha hb ha2 hb2
  exact acts_e n b a e b2 a2 e2 hn ha hb ha2 hb2 d h0 h1 h2 h3 h4 h5 h6 h7 h8 h10
theorem actS_a (d n : Int) {b : List UInt8} {a : Nat} {e : Int} (ha : a ≤ b.length) : (actS d n b a e).1 ≤ b.length := by
  unfold actS
  repeat' split
  all_goals first | exact rByte_a ha | exact rU_a ha | exact rS_a ha | exact rTake_a ha | exact rName_a ha | exact rCount_a ha | exact ha
end Go.Proofs.YtkejmhpodhbeeaaDoor
set_option linter.unusedSimpArgs false
set_option maxRecDepth 100000
set_option maxHeartbeats 4000000
set_option linter.unusedVariables false
namespace Go.Proofs.YtkejmhpodhbeeaaDoor
open Go Go.Mw
-- @U: rx, ro, slv_none, slv_some

/-- A call, as a row. -/
def act_ (x : Int × Int) : List AV := [.int .i64 x.1, .int .i64 x.2]
theorem act_e (x : Int × Int) : act_ x = [.int .i64 x.1, .int .i64 x.2] := rfl
attribute [go_sem] act_e
def inI (n : Int) : Prop := -9223372036854775808 ≤ n ∧ n < 9223372036854775808

theorem w_few (b : List UInt8) (L : List (Int × Int)) : PCalls Tryd.prog n_law02_few [.sl 1 (b.map by_), .sl 2 (L.map act_)] (.bool (decide ((b.length : Int) ≤ 500) && decide ((L.length : Int) ≤ 30))) := by
  refine pfun_sound (ic := F_law02_few.body) mixed c_law02_few rfl rfl ?_
  cases h : decide ((b.length : Int) ≤ 500)
  · simp only [go_sem, rx, ro, F_law02_few, h, Bool.false_and]
    exact pdone [] (by simp only [go_sem, rx, ro]) (by first | rfl | simp [go_sem, slv_ids, rx, ro])
  · simp only [go_sem, rx, ro, F_law02_few, h, Bool.true_and]
    exact pdone [] (by simp only [go_sem, rx, ro]) (by first | rfl | simp [go_sem, slv_ids, rx, ro])
theorem q_Read (b : List UInt8) : PCalls Tryd.prog n_ref02_Read [.sl 1 (b.map by_)] (rx b 0 0) := by
  refine pfun_sound (ic := F_ref02_Read.body) mixed c_ref02_Read rfl rfl ?_
  simp only [go_sem, rx, ro, F_ref02_Read]
  exact pdone [] (by simp only [go_sem, rx, ro]) (by first | rfl | simp [go_sem, slv_ids, rx, ro])
theorem w_reads (b : List UInt8) (L : List (Int × Int)) (hL : ∀ x ∈ L, inI x.2) : PCalls Tryd.prog n_law02_OctetReads [.sl 1 (b.map by_), .sl 2 (L.map act_)] (.bool true) := by
  refine pfun_sound (ic := F_law02_OctetReads.body) mixed c_law02_OctetReads rfl rfl ?_
  simp only [go_sem, rx, ro, F_law02_OctetReads]
  refine call_same (w_few b L) (by simp [go_sem, rx, ro]) ?_
  cases h : (decide ((b.length : Int) ≤ 500) && decide ((L.length : Int) ≤ 30))
  · simp only [go_sem, rx, ro]
    refine call_same (s_alive) (by simp [go_sem, rx, ro]) ?_
    simp only [go_sem, rx, ro]
    exact pdone [] (by simp only [go_sem, rx, ro]) (by first | rfl | simp [go_sem, slv_ids, rx, ro])
  simp only [go_sem, rx, ro]
  simp only [Bool.and_eq_true, decide_eq_true_eq] at h
  have hb : b.length < 1000000000 := by omega
  refine call_nrec (s_read b hb) rfl (by simp [go_sem]) 901 (by decide) (by simp only [go_sem, rx, ro]) ?_
  simp only [go_sem, rx, ro]
  refine call_same (q_Read b) (by simp [go_sem, rx, ro]) ?_
  simp only [go_sem, rx, ro]
  refine call_m (s_same b 0 0 b 0 0 (Nat.zero_le _) hb (Nat.zero_le _) hb) ⟨by decide, by decide⟩ (by first | rfl | exact slv_ids _) (by simp [go_sem, rx, ro]) rfl rfl (by rfl) ?_
  rw [sameB_self]
  simp only [go_sem, rx, ro]
  refine loop_rule (fun q : Nat × Nat × Int => ⟨[(7, .int .i64 q.1), (5, .mp 901 4 0 0), (6, .mp 6 3 0 0), (0, .sl 1 (b.map by_)), (1, .sl 2 (L.map act_))], [(6, ⟨62, 3, [[.sl 1 (b.map by_), .int .i64 q.2.1, .int .i64 q.2.2]], true⟩), (901, ro true b q.2.1 q.2.2)]⟩)
    (fun q => q.1 ≤ L.length ∧ q.2.1 ≤ b.length) (fun q => L.length - q.1) (0, 0, 0) ⟨Nat.zero_le _, Nat.zero_le _⟩ (Wk.of ?_ ?_) ?_
  · simp only [go_sem, rx, ro]; simp
  · simp only [go_sem, rx, ro]; simp
  rintro ⟨i, a, e⟩ ⟨hi, ha⟩
  replace hi : i ≤ L.length := hi
  replace ha : a ≤ b.length := ha
  rcases Nat.lt_or_ge i L.length with hlt | hge
  · have d3 : decide ((i : Int) < (L.length : Int)) = true := decide_eq_true (by omega)
    have e8 := wi (n := (i : Int) + 1) (by omega) (by omega)
    have hx : inI (nth L i).2 := hL _ (by rw [nth_eq hlt]; exact List.getElem_mem hlt)
    obtain ⟨q, hq, hc⟩ := acts_all (nth L i).1 (nth L i).2 b a e b a e hx ha hb ha hb
    rw [hq rfl rfl rfl] at hc
    have ha2 := actS_a (nth L i).1 (nth L i).2 (e := e) ha
    simp only [go_sem, rx, ro, d3]
    refine ⟨by omega, by omega, ?_⟩
    refine dcall_m hc ⟨by decide, by decide⟩ rfl (by simp [go_sem, rx]) rfl rfl (by rfl) (by exact List.Mem.head _) ?_
    simp only [go_sem, rx, ro]
    refine klp_n (i + 1, actS (nth L i).1 (nth L i).2 b a e) ⟨show i + 1 ≤ L.length by omega, ha2⟩ (show L.length - (i + 1) < L.length - i by omega) (Wk.of ?_ ?_)
    · simp only [go_sem, rx, ro, e8]
      simp
    · simp only [go_sem, rx, ro]
  have d3 : decide ((i : Int) < (L.length : Int)) = false := decide_eq_false (by omega)
  simp only [go_sem, rx, ro, d3]
  refine call_same (s_alive) (by simp [go_sem, rx, ro]) ?_
  simp only [go_sem, rx, ro]
  exact pdone [] (by simp only [go_sem, rx, ro]) (by first | rfl | simp [go_sem, slv_ids, rx, ro])
end Go.Proofs.YtkejmhpodhbeeaaDoor
