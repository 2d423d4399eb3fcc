/-
  Chapter 1, walks: leb.U, leb.S.
-/
import Derived.Test.YtkejmhpodhbeeaaDoorO2
import Derived.Test.YtkejmhpodhbeeaaDoorXa
set_option linter.unusedSimpArgs false
set_option maxRecDepth 100000
set_option maxHeartbeats 4000000
namespace Go.Proofs.YtkejmhpodhbeeaaDoor
open Go Go.Mw

def uR (x : Nat × Nat × Int) : AV := .tup [.int .u64 x.1, .int .i64 x.2.1, .int .i64 x.2.2]
def sR (x : Int × Nat × Int) : AV := .tup [.int .i64 x.1, .int .i64 x.2.1, .int .i64 x.2.2]

theorem s_U (b : List UInt8) (bits : Nat) (h : 1 ≤ bits ∧ bits ≤ 64) : PCalls Tryd.prog n_leb_U [.sl 1 (b.map by_), .int .i64 bits] (uR (decU b bits)) := by
  refine pfun_sound (ic := F_leb_U.body) mixed c_leb_U rfl rfl ?_
  simp only [F_leb_U, go_sem, ↓reduceIte, Nat.reduceEqDiff, Nat.reduceLT, reduceCtorEq, Nat.reduceAdd, Nat.zero_add, decide_eq_true_eq, decide_eq_false_iff_not, Nat.reduceLeDiff, Nat.reduceBEq, Nat.reduceBNe, beq_self_eq_true, Int.reduceNeg, Int.reduceToNat, Nat.lt_add_one]
  refine call_same (s_last b bits h) (by simp [go_sem]) ?_
  rcases lst_cases b bits with ⟨h1, h2, h3, h4⟩ | ⟨h1, h2⟩
  · have hc := cnt_le h h3
    have hm := mst_le h
    have e1 : lastR b bits = .tup [.int .i64 (lstI b bits), .int .i64 (cnt bits (lstI b bits)), .int .i64 0] := by rw [lastR, if_pos h1]
    have e2 := shr_nat .u8 (x := (nth b (lstI b bits)).toNat) (s := cnt bits (lstI b bits)) (by show _ ≤ 8; omega)
    have e3 : ¬ ((cnt bits (lstI b bits) : Nat) : Int) < 0 := by omega
    by_cases hq : (nth b (lstI b bits)).toNat / 2 ^ cnt bits (lstI b bits) = 0
    · have d1 : ((((nth b (lstI b bits)).toNat / 2 ^ cnt bits (lstI b bits) : Nat) : Int) != 0) = false := by rw [hq]; rfl
      have r : decU b bits = (val7 (b.take (lstI b bits + 1)) % 18446744073709551616, lstI b bits + 1, 0) := by simp [decU, h1, hq]
      simp only [go_sem, ↓reduceIte, Nat.reduceEqDiff, Nat.reduceLT, reduceCtorEq, Nat.reduceAdd, Nat.zero_add, decide_eq_true_eq, decide_eq_false_iff_not, Nat.reduceLeDiff, Nat.reduceBEq, Nat.reduceBNe, beq_self_eq_true, Int.reduceNeg, Int.reduceToNat, Nat.lt_add_one, e1, bne_self_eq_false, e2, e3, d1]
      refine ⟨by omega, by omega, call_same (s_sum b (lstI b bits) h2 (by omega)) (by simp [go_sem]) ?_⟩
      have e8 := wi (n := (lstI b bits : Int) + 1) (by omega) (by omega)
      simp only [go_sem, ↓reduceIte, Nat.reduceEqDiff, Nat.reduceLT, reduceCtorEq, Nat.reduceAdd, Nat.zero_add, decide_eq_true_eq, decide_eq_false_iff_not, Nat.reduceLeDiff, Nat.reduceBEq, Nat.reduceBNe, beq_self_eq_true, Int.reduceNeg, Int.reduceToNat, Nat.lt_add_one]
      rw [r]
      exact pdone [] (by simp [go_sem, e8, uR]) rfl
    · have d1 : ((((nth b (lstI b bits)).toNat / 2 ^ cnt bits (lstI b bits) : Nat) : Int) != 0) = true := by
        have : (((nth b (lstI b bits)).toNat / 2 ^ cnt bits (lstI b bits) : Nat) : Int) ≠ 0 := by omega
        simp only [bne, beq_eq_false_iff_ne.2 this]; rfl
      have r : decU b bits = (0, 0, 4) := by rw [decU, if_neg (by simp [h1]), if_pos hq]
      simp only [go_sem, ↓reduceIte, Nat.reduceEqDiff, Nat.reduceLT, reduceCtorEq, Nat.reduceAdd, Nat.zero_add, decide_eq_true_eq, decide_eq_false_iff_not, Nat.reduceLeDiff, Nat.reduceBEq, Nat.reduceBNe, beq_self_eq_true, Int.reduceNeg, Int.reduceToNat, Nat.lt_add_one, e1, bne_self_eq_false, e2, e3, d1]
      rw [r]
      exact ⟨by omega, by omega, pdone [] (by simp [go_sem, uR]) rfl⟩
  · have hne : lstE b bits ≠ 0 := by rcases h1 with h1 | h1 <;> rw [h1] <;> decide
    have e1 : lastR b bits = .tup [.int .i64 0, .int .i64 0, .int .i64 (lstE b bits)] := by rw [lastR, if_neg hne]
    have d1 : (lstE b bits != 0) = true := by simp [hne]
    have r : decU b bits = (0, 0, lstE b bits) := by rw [decU, if_pos hne]
    simp only [go_sem, ↓reduceIte, Nat.reduceEqDiff, Nat.reduceLT, reduceCtorEq, Nat.reduceAdd, Nat.zero_add, decide_eq_true_eq, decide_eq_false_iff_not, Nat.reduceLeDiff, Nat.reduceBEq, Nat.reduceBNe, beq_self_eq_true, Int.reduceNeg, Int.reduceToNat, Nat.lt_add_one, e1, d1]
    rw [r]
    exact pdone [] (by simp [go_sem, uR]) rfl

theorem s_S (b : List UInt8) (bits : Nat) (h : 1 ≤ bits ∧ bits ≤ 64) : PCalls Tryd.prog n_leb_S [.sl 1 (b.map by_), .int .i64 bits] (sR (decS b bits)) := by
  refine pfun_sound (ic := F_leb_S.body) mixed c_leb_S rfl rfl ?_
  simp only [F_leb_S, go_sem, ↓reduceIte, Nat.reduceEqDiff, Nat.reduceLT, reduceCtorEq, Nat.reduceAdd, Nat.zero_add, decide_eq_true_eq, decide_eq_false_iff_not, Nat.reduceLeDiff, Nat.reduceBEq, Nat.reduceBNe, beq_self_eq_true, Int.reduceNeg, Int.reduceToNat, Nat.lt_add_one]
  refine call_same (s_last b bits h) (by simp [go_sem]) ?_
  rcases lst_cases b bits with ⟨h1, h2, h3, h4⟩ | ⟨h1, h2⟩
  · have hc := cnt_le h h3
    have hm := mst_le h
    generalize hi : lstI b bits = i at *
    generalize hcn : cnt bits i = c at *
    have hx : (nth b i).toNat < 256 := (nth b i).toNat_lt
    have e1 : lastR b bits = .tup [.int .i64 i, .int .i64 c, .int .i64 0] := by rw [lastR, if_pos h1, hi, hcn]
    have w1 : IntKind.i64.wrap ((c : Int) - 1) = ((c - 1 : Nat) : Int) := by rw [wi (by omega) (by omega)]; omega
    have e2 := shr_nat .u8 (x := (nth b i).toNat) (s := c - 1) (by show _ ≤ 8; omega)
    have e2' : b_shr .u8 127 ((c - 1 : Nat) : Int) = ((127 / 2 ^ (c - 1) : Nat) : Int) := shr_nat .u8 (x := 127) (s := c - 1) (by show _ ≤ 8; omega)
    have e3 : ¬ ((c - 1 : Nat) : Int) < 0 := by omega
    have w2 : IntKind.i64.wrap ((i : Int) + 1) = ((i + 1 : Nat) : Int) := by rw [wi (by omega) (by omega)]; omega
    have w3 : IntKind.i64.wrap (7 * ((i + 1 : Nat) : Int)) = ((7 * (i + 1) : Nat) : Int) := by rw [wi (by omega) (by omega)]; omega
    by_cases hq : (nth b i).toNat / 2 ^ (c - 1) ≠ 0 ∧ (nth b i).toNat / 2 ^ (c - 1) ≠ 127 / 2 ^ (c - 1)
    · have d1 : ((((nth b i).toNat / 2 ^ (c - 1) : Nat) : Int) != 0) = true := by
        have : (((nth b i).toNat / 2 ^ (c - 1) : Nat) : Int) ≠ 0 := by omega
        simp only [bne, beq_eq_false_iff_ne.2 this]; rfl
      have d2 : ((((nth b i).toNat / 2 ^ (c - 1) : Nat) : Int) != ((127 / 2 ^ (c - 1) : Nat) : Int)) = true := by
        have : (((nth b i).toNat / 2 ^ (c - 1) : Nat) : Int) ≠ ((127 / 2 ^ (c - 1) : Nat) : Int) := by omega
        simp only [bne, beq_eq_false_iff_ne.2 this]; rfl
      have r : decS b bits = (0, 0, 4) := by rw [decS, if_neg (by simp [h1]), hi, hcn, if_pos hq]
      simp only [go_sem, ↓reduceIte, Nat.reduceEqDiff, Nat.reduceLT, reduceCtorEq, Nat.reduceAdd, Nat.zero_add, decide_eq_true_eq, decide_eq_false_iff_not, Nat.reduceLeDiff, Nat.reduceBEq, Nat.reduceBNe, beq_self_eq_true, Int.reduceNeg, Int.reduceToNat, Nat.lt_add_one, e1, bne_self_eq_false, w1, e2, e2', e3, d1, d2]
      rw [r]
      exact ⟨by omega, by omega, pdone [] (by simp [go_sem, sR]) rfl⟩
    · have r : decS b bits = (sgn b i, i + 1, 0) := by rw [decS, if_neg (by simp [h1]), hi, hcn, if_neg hq]
      have hv := val7_take_lt (b := b) (i := i + 1) (by omega)
      rw [r]
      by_cases hz : (nth b i).toNat / 2 ^ (c - 1) = 0
      · have d1 : ((((nth b i).toNat / 2 ^ (c - 1) : Nat) : Int) != 0) = false := by rw [hz]; rfl
        simp only [go_sem, ↓reduceIte, Nat.reduceEqDiff, Nat.reduceLT, reduceCtorEq, Nat.reduceAdd, Nat.zero_add, decide_eq_true_eq, decide_eq_false_iff_not, Nat.reduceLeDiff, Nat.reduceBEq, Nat.reduceBNe, beq_self_eq_true, Int.reduceNeg, Int.reduceToNat, Nat.lt_add_one, e1, bne_self_eq_false, w1, e2, e2', e3, d1]
        refine ⟨by omega, by omega, call_same (s_sum b i h2 (by omega)) (by simp [go_sem]) ?_⟩
        by_cases hw : i = 9
        · subst hw
          have d3 : decide (((7 * (9 + 1) : Nat) : Int) < 64) = false := by decide
          simp only [go_sem, ↓reduceIte, Nat.reduceEqDiff, Nat.reduceLT, reduceCtorEq, Nat.reduceAdd, Nat.zero_add, decide_eq_true_eq, decide_eq_false_iff_not, Nat.reduceLeDiff, Nat.reduceBEq, Nat.reduceBNe, beq_self_eq_true, Int.reduceNeg, Int.reduceToNat, Nat.lt_add_one, w2, w3, d3]
          have e9 : IntKind.i64.wrap ((val7 (b.take (9 + 1)) % 18446744073709551616 : Nat) : Int) = sgn b 9 := by
            unfold sgn
            refine i64_congr ?_
            split <;> omega
          exact pdone [] (by simp only [go_sem, ↓reduceIte, Nat.reduceEqDiff, Nat.reduceLT, reduceCtorEq, Nat.reduceAdd, Nat.zero_add, decide_eq_true_eq, decide_eq_false_iff_not, Nat.reduceLeDiff, Nat.reduceBEq, Nat.reduceBNe, beq_self_eq_true, Int.reduceNeg, Int.reduceToNat, Nat.lt_add_one, sR, e9, w2]) rfl
        · have hp : 2 ^ (7 * (i + 1)) ≤ 2 ^ 63 := Nat.pow_le_pow_right (by decide) (by omega)
          have d3 : decide (((7 * (i + 1) : Nat) : Int) < 64) = true := by simp; omega
          have e6 : val7 (b.take (i + 1)) % 18446744073709551616 = val7 (b.take (i + 1)) := Nat.mod_eq_of_lt (by omega)
          by_cases hb : 64 ≤ (nth b i).toNat % 128
          · have d4 : (b_and .u8 ((nth b i).toNat : Int) 64 != 0) = true := by rw [and64 hx]; simpa using hb
            have e4 : ¬ ((7 * (i + 1) : Nat) : Int) < 0 := by omega
            have e5 : b_shl .u64 18446744073709551615 ((7 * (i + 1) : Nat) : Int) = ((18446744073709551615 * 2 ^ (7 * (i + 1)) % 18446744073709551616 : Nat) : Int) := shl64 (y := 18446744073709551615) (s := 7 * (i + 1)) (by omega)
            have e7 := or_shift (n := val7 (b.take (i + 1))) (y := 18446744073709551615) (s := 7 * (i + 1)) (by omega) hv
            have e9 : IntKind.i64.wrap (((val7 (b.take (i + 1)) + 18446744073709551615 * 2 ^ (7 * (i + 1))) % 18446744073709551616 : Nat) : Int) = sgn b i := by
              unfold sgn
              rw [if_pos hb]
              refine i64_congr ?_
              have e10 : (2 : Int) ^ (7 * (i + 1)) = ((2 ^ (7 * (i + 1)) : Nat) : Int) := by rw [Int.natCast_pow]; rfl
              rw [e10]
              generalize 2 ^ (7 * (i + 1)) = p
              omega
            simp only [go_sem, ↓reduceIte, Nat.reduceEqDiff, Nat.reduceLT, reduceCtorEq, Nat.reduceAdd, Nat.zero_add, decide_eq_true_eq, decide_eq_false_iff_not, Nat.reduceLeDiff, Nat.reduceBEq, Nat.reduceBNe, beq_self_eq_true, Int.reduceNeg, Int.reduceToNat, Nat.lt_add_one, w2, w3, d3, d4, e4, e6, e5, e7]
            exact ⟨by omega, by omega, pdone [] (by simp only [go_sem, ↓reduceIte, Nat.reduceEqDiff, Nat.reduceLT, reduceCtorEq, Nat.reduceAdd, Nat.zero_add, decide_eq_true_eq, decide_eq_false_iff_not, Nat.reduceLeDiff, Nat.reduceBEq, Nat.reduceBNe, beq_self_eq_true, Int.reduceNeg, Int.reduceToNat, Nat.lt_add_one, sR, e9, w2]) rfl⟩
          · have d4 : (b_and .u8 ((nth b i).toNat : Int) 64 != 0) = false := by rw [and64 hx]; simpa using hb
            have e9 : IntKind.i64.wrap ((val7 (b.take (i + 1)) : Nat) : Int) = sgn b i := by
              unfold sgn
              rw [if_neg hb, Int.sub_zero]
            simp only [go_sem, ↓reduceIte, Nat.reduceEqDiff, Nat.reduceLT, reduceCtorEq, Nat.reduceAdd, Nat.zero_add, decide_eq_true_eq, decide_eq_false_iff_not, Nat.reduceLeDiff, Nat.reduceBEq, Nat.reduceBNe, beq_self_eq_true, Int.reduceNeg, Int.reduceToNat, Nat.lt_add_one, w2, w3, d3, d4, e6]
            exact ⟨by omega, by omega, pdone [] (by simp only [go_sem, ↓reduceIte, Nat.reduceEqDiff, Nat.reduceLT, reduceCtorEq, Nat.reduceAdd, Nat.zero_add, decide_eq_true_eq, decide_eq_false_iff_not, Nat.reduceLeDiff, Nat.reduceBEq, Nat.reduceBNe, beq_self_eq_true, Int.reduceNeg, Int.reduceToNat, Nat.lt_add_one, sR, e9, w2]) rfl⟩
      · have d1 : ((((nth b i).toNat / 2 ^ (c - 1) : Nat) : Int) != 0) = true := by
          have : (((nth b i).toNat / 2 ^ (c - 1) : Nat) : Int) ≠ 0 := by omega
          simp only [bne, beq_eq_false_iff_ne.2 this]; rfl
        have d2 : ((((nth b i).toNat / 2 ^ (c - 1) : Nat) : Int) != ((127 / 2 ^ (c - 1) : Nat) : Int)) = false := by
          have : (nth b i).toNat / 2 ^ (c - 1) = 127 / 2 ^ (c - 1) := Classical.byContradiction fun hn => hq ⟨hz, hn⟩
          rw [this]; simp
        simp only [go_sem, ↓reduceIte, Nat.reduceEqDiff, Nat.reduceLT, reduceCtorEq, Nat.reduceAdd, Nat.zero_add, decide_eq_true_eq, decide_eq_false_iff_not, Nat.reduceLeDiff, Nat.reduceBEq, Nat.reduceBNe, beq_self_eq_true, Int.reduceNeg, Int.reduceToNat, Nat.lt_add_one, e1, bne_self_eq_false, w1, e2, e2', e3, d1, d2]
        refine ⟨by omega, by omega, call_same (s_sum b i h2 (by omega)) (by simp [go_sem]) ?_⟩
        by_cases hw : i = 9
        · subst hw
          have d3 : decide (((7 * (9 + 1) : Nat) : Int) < 64) = false := by decide
          simp only [go_sem, ↓reduceIte, Nat.reduceEqDiff, Nat.reduceLT, reduceCtorEq, Nat.reduceAdd, Nat.zero_add, decide_eq_true_eq, decide_eq_false_iff_not, Nat.reduceLeDiff, Nat.reduceBEq, Nat.reduceBNe, beq_self_eq_true, Int.reduceNeg, Int.reduceToNat, Nat.lt_add_one, w2, w3, d3]
          have e9 : IntKind.i64.wrap ((val7 (b.take (9 + 1)) % 18446744073709551616 : Nat) : Int) = sgn b 9 := by
            unfold sgn
            refine i64_congr ?_
            split <;> omega
          exact pdone [] (by simp only [go_sem, ↓reduceIte, Nat.reduceEqDiff, Nat.reduceLT, reduceCtorEq, Nat.reduceAdd, Nat.zero_add, decide_eq_true_eq, decide_eq_false_iff_not, Nat.reduceLeDiff, Nat.reduceBEq, Nat.reduceBNe, beq_self_eq_true, Int.reduceNeg, Int.reduceToNat, Nat.lt_add_one, sR, e9, w2]) rfl
        · have hp : 2 ^ (7 * (i + 1)) ≤ 2 ^ 63 := Nat.pow_le_pow_right (by decide) (by omega)
          have d3 : decide (((7 * (i + 1) : Nat) : Int) < 64) = true := by simp; omega
          have e6 : val7 (b.take (i + 1)) % 18446744073709551616 = val7 (b.take (i + 1)) := Nat.mod_eq_of_lt (by omega)
          by_cases hb : 64 ≤ (nth b i).toNat % 128
          · have d4 : (b_and .u8 ((nth b i).toNat : Int) 64 != 0) = true := by rw [and64 hx]; simpa using hb
            have e4 : ¬ ((7 * (i + 1) : Nat) : Int) < 0 := by omega
            have e5 : b_shl .u64 18446744073709551615 ((7 * (i + 1) : Nat) : Int) = ((18446744073709551615 * 2 ^ (7 * (i + 1)) % 18446744073709551616 : Nat) : Int) := shl64 (y := 18446744073709551615) (s := 7 * (i + 1)) (by omega)
            have e7 := or_shift (n := val7 (b.take (i + 1))) (y := 18446744073709551615) (s := 7 * (i + 1)) (by omega) hv
            have e9 : IntKind.i64.wrap (((val7 (b.take (i + 1)) + 18446744073709551615 * 2 ^ (7 * (i + 1))) % 18446744073709551616 : Nat) : Int) = sgn b i := by
              unfold sgn
              rw [if_pos hb]
              refine i64_congr ?_
              have e10 : (2 : Int) ^ (7 * (i + 1)) = ((2 ^ (7 * (i + 1)) : Nat) : Int) := by rw [Int.natCast_pow]; rfl
              rw [e10]
              generalize 2 ^ (7 * (i + 1)) = p
              omega
            simp only [go_sem, ↓reduceIte, Nat.reduceEqDiff, Nat.reduceLT, reduceCtorEq, Nat.reduceAdd, Nat.zero_add, decide_eq_true_eq, decide_eq_false_iff_not, Nat.reduceLeDiff, Nat.reduceBEq, Nat.reduceBNe, beq_self_eq_true, Int.reduceNeg, Int.reduceToNat, Nat.lt_add_one, w2, w3, d3, d4, e4, e6, e5, e7]
            exact ⟨by omega, by omega, pdone [] (by simp only [go_sem, ↓reduceIte, Nat.reduceEqDiff, Nat.reduceLT, reduceCtorEq, Nat.reduceAdd, Nat.zero_add, decide_eq_true_eq, decide_eq_false_iff_not, Nat.reduceLeDiff, Nat.reduceBEq, Nat.reduceBNe, beq_self_eq_true, Int.reduceNeg, Int.reduceToNat, Nat.lt_add_one, sR, e9, w2]) rfl⟩
          · have d4 : (b_and .u8 ((nth b i).toNat : Int) 64 != 0) = false := by rw [and64 hx]; simpa using hb
            have e9 : IntKind.i64.wrap ((val7 (b.take (i + 1)) : Nat) : Int) = sgn b i := by
              unfold sgn
              rw [if_neg hb, Int.sub_zero]
            simp only [go_sem, ↓reduceIte, Nat.reduceEqDiff, Nat.reduceLT, reduceCtorEq, Nat.reduceAdd, Nat.zero_add, decide_eq_true_eq, decide_eq_false_iff_not, Nat.reduceLeDiff, Nat.reduceBEq, Nat.reduceBNe, beq_self_eq_true, Int.reduceNeg, Int.reduceToNat, Nat.lt_add_one, w2, w3, d3, d4, e6]
            exact ⟨by omega, by omega, pdone [] (by simp only [go_sem, ↓reduceIte, Nat.reduceEqDiff, Nat.reduceLT, reduceCtorEq, Nat.reduceAdd, Nat.zero_add, decide_eq_true_eq, decide_eq_false_iff_not, Nat.reduceLeDiff, Nat.reduceBEq, Nat.reduceBNe, beq_self_eq_true, Int.reduceNeg, Int.reduceToNat, Nat.lt_add_one, sR, e9, w2]) rfl⟩
  · have hne : lstE b bits ≠ 0 := by rcases h1 with h1 | h1 <;> rw [h1] <;> decide
    have e1 : lastR b bits = .tup [.int .i64 0, .int .i64 0, .int .i64 (lstE b bits)] := by rw [lastR, if_neg hne]
    have d1 : (lstE b bits != 0) = true := by simp [hne]
    have r : decS b bits = (0, 0, lstE b bits) := by rw [decS, if_pos hne]
    simp only [go_sem, ↓reduceIte, Nat.reduceEqDiff, Nat.reduceLT, reduceCtorEq, Nat.reduceAdd, Nat.zero_add, decide_eq_true_eq, decide_eq_false_iff_not, Nat.reduceLeDiff, Nat.reduceBEq, Nat.reduceBNe, beq_self_eq_true, Int.reduceNeg, Int.reduceToNat, Nat.lt_add_one, e1, d1]
    rw [r]
    exact pdone [] (by simp [go_sem, sR]) rfl
end Go.Proofs.YtkejmhpodhbeeaaDoor
