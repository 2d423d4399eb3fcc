/-
  Chapter 1, walks: leb.
-/
import Derived.Test.YtkejmhpodhbeeaaDoorO1
set_option linter.unusedSimpArgs false
set_option maxRecDepth 100000
set_option maxHeartbeats 4000000
namespace Go.Proofs.YtkejmhpodhbeeaaDoor
open Go Go.Mw

theorem nat_lt {x y : Nat} : ((x : Int) < (y : Int)) ↔ x < y := Int.ofNat_lt

theorem s_sum (b : List UInt8) (at_ : Nat) (h : at_ < b.length) (h9 : at_ ≤ 9) : PCalls Tryd.prog n_leb_sum [.sl 1 (b.map by_), .int .i64 at_] (.int .u64 ((val7 (b.take (at_ + 1)) % 18446744073709551616 : Nat) : Int)) := by
  refine pfun_sound (ic := F_leb_sum.body) mixed c_leb_sum rfl rfl ?_
  simp only [F_leb_sum, go_sem, ↓reduceIte, Nat.reduceEqDiff, Nat.reduceLT, reduceCtorEq, Nat.reduceAdd, Nat.zero_add, decide_eq_true_eq, decide_eq_false_iff_not, Nat.reduceLeDiff, Nat.reduceBEq, Nat.reduceBNe, beq_self_eq_true, Int.reduceNeg, Int.reduceToNat, Nat.lt_add_one]
  refine loop_rule (fun i : Nat => ⟨[(9, .int .i64 i), (8, .int .i64 (at_ + 1)), (5, .int .u64 ((val7 (b.take i) % 18446744073709551616 : Nat) : Int)), (0, .sl 1 (b.map by_))], []⟩) (fun i => i ≤ at_ + 1) (fun i => at_ + 1 - i) 0 (Nat.zero_le _) (Wk.of ?_ ?_) ?_
  · simp [go_sem, wi (n := (at_ : Int) + 1) (by omega) (by omega), val7]
  · simp [go_sem]
  rintro i hi
  replace hi : i ≤ at_ + 1 := hi
  rcases Nat.lt_or_ge i (at_ + 1) with hlt | hge
  · have hd1 : decide ((i : Int) < (at_ : Int) + 1) = true := by simp; omega
    have hx : (nth b i).toNat < 256 := (nth b i).toNat_lt
    have hv := val7_take_lt (b := b) (i := i) (by omega)
    have hp : 2 ^ (7 * i) ≤ 2 ^ 63 := Nat.pow_le_pow_right (by decide) (by omega)
    have e1 : IntKind.u64.wrap (((nth b i).toNat % 128 : Nat) : Int) = (((nth b i).toNat % 128 : Nat) : Int) := by rw [w_u64]; omega
    have e2 : IntKind.i64.wrap (7 * (i : Int)) = ((7 * i : Nat) : Int) := by rw [wi (by omega) (by omega)]; omega
    have e3 : ¬ ((7 * i : Nat) : Int) < 0 := by omega
    have e5 := shl64 (y := (nth b i).toNat % 128) (s := 7 * i) (by omega)
    have e6 : val7 (b.take i) % 18446744073709551616 = val7 (b.take i) := Nat.mod_eq_of_lt (by omega)
    have e7 := or_shift (n := val7 (b.take i)) (y := (nth b i).toNat % 128) (s := 7 * i) (by omega) hv
    simp only [go_sem, ↓reduceIte, Nat.reduceEqDiff, Nat.reduceLT, reduceCtorEq, Nat.reduceAdd, Nat.zero_add, decide_eq_true_eq, decide_eq_false_iff_not, Nat.reduceLeDiff, Nat.reduceBEq, Nat.reduceBNe, beq_self_eq_true, Int.reduceNeg, Int.reduceToNat, Nat.lt_add_one, hd1, e2, e3]
    refine ⟨by omega, by omega, klp_n (i + 1) (show i + 1 ≤ at_ + 1 by omega) (show at_ + 1 - (i + 1) < at_ + 1 - i by omega) (Wk.of ?_ ?_)⟩
    · have e8 := wi (n := (i : Int) + 1) (by omega) (by omega)
      have e9 := val7_take (show i < b.length by omega)
      simp only [go_sem, ↓reduceIte, Nat.reduceEqDiff, Nat.reduceLT, reduceCtorEq, Nat.reduceAdd, Nat.zero_add, decide_eq_true_eq, decide_eq_false_iff_not, Nat.reduceLeDiff, Nat.reduceBEq, Nat.reduceBNe, beq_self_eq_true, Int.reduceNeg, Int.reduceToNat, Nat.lt_add_one, and127 hx, e1, e5, e6, e7, e8, e9]
      rfl
    · simp [go_sem]
  · have hd1 : decide ((i : Int) < (at_ : Int) + 1) = false := by simp; omega
    have : i = at_ + 1 := by omega
    subst this
    simp only [go_sem, ↓reduceIte, Nat.reduceEqDiff, Nat.reduceLT, reduceCtorEq, Nat.reduceAdd, Nat.zero_add, decide_eq_true_eq, decide_eq_false_iff_not, Nat.reduceLeDiff, Nat.reduceBEq, Nat.reduceBNe, beq_self_eq_true, Int.reduceNeg, Int.reduceToNat, Nat.lt_add_one, hd1]
    exact pdone [] (by simp [go_sem]) rfl

def lastR (b : List UInt8) (bits : Nat) : AV := if lstE b bits = 0 then .tup [.int .i64 (lstI b bits), .int .i64 (cnt bits (lstI b bits)), .int .i64 0] else .tup [.int .i64 0, .int .i64 0, .int .i64 (lstE b bits)]
theorem lastR_ids (b : List UInt8) (bits : Nat) : idsV (lastR b bits) = [] := by unfold lastR; split <;> rfl

theorem s_last (b : List UInt8) (bits : Nat) (h : 1 ≤ bits ∧ bits ≤ 64) : PCalls Tryd.prog n_leb_last [.sl 1 (b.map by_), .int .i64 bits] (lastR b bits) := by
  have hm : mst bits ≤ 10 ∧ 1 ≤ mst bits ∧ 7 * mst bits ≤ bits + 6 := by unfold mst; omega
  refine pfun_sound (ic := F_leb_last.body) mixed c_leb_last rfl rfl ?_
  have d1 : decide ((bits : Int) < 1) = false := by simp; omega
  have d2 : decide ((bits : Int) > 64) = false := by simp; omega
  have e1 : IntKind.i64.wrap ((bits : Int) + 6) = ((bits + 6 : Nat) : Int) := by rw [wi (by omega) (by omega)]; omega
  have e2 : (((bits + 6 : Nat) : Int)).tdiv 7 = (mst bits : Int) := by rw [show (7 : Int) = ((7 : Nat) : Int) from rfl, ← Int.ofNat_tdiv]; rfl
  have e3 : IntKind.i64.wrap (mst bits : Int) = (mst bits : Int) := wi (by omega) (by omega)
  simp only [F_leb_last, go_sem, ↓reduceIte, Nat.reduceEqDiff, Nat.reduceLT, reduceCtorEq, Nat.reduceAdd, Nat.zero_add, decide_eq_true_eq, decide_eq_false_iff_not, Nat.reduceLeDiff, Nat.reduceBEq, Nat.reduceBNe, beq_self_eq_true, Int.reduceNeg, Int.reduceToNat, Nat.lt_add_one, d1, d2, e1, e2, e3]
  refine ⟨by omega, ?_⟩
  refine loop_rule (fun i : Nat => ⟨[(19, .int .i64 i), (18, .int .i64 (mst bits)), (7, .int .i64 (mst bits)), (0, .sl 1 (b.map by_)), (1, .int .i64 bits)], []⟩) (fun i => i ≤ mst bits ∧ i ≤ b.length ∧ lst b (mst bits) 0 = lst b (mst bits - i) i) (fun i => mst bits - i) 0 ⟨Nat.zero_le _, Nat.zero_le _, rfl⟩ (Wk.of ?_ ?_) ?_
  · simp only [go_sem, ↓reduceIte, Nat.reduceEqDiff, Nat.reduceLT, reduceCtorEq, Nat.reduceAdd, Nat.zero_add, decide_eq_true_eq, decide_eq_false_iff_not, Nat.reduceLeDiff, Nat.reduceBEq, Nat.reduceBNe, beq_self_eq_true, Int.reduceNeg, Int.reduceToNat, Nat.lt_add_one, e1, e2, e3]
    simp
  · simp [go_sem]
  rintro i ⟨hi, hib, hl⟩
  replace hi : i ≤ mst bits := hi
  replace hib : i ≤ b.length := hib
  replace hl : lst b (mst bits) 0 = lst b (mst bits - i) i := hl
  rcases Nat.lt_or_ge i (mst bits) with hlt | hge
  · have hd1 : decide ((i : Int) < (mst bits : Int)) = true := by simp; omega
    rw [show mst bits - i = (mst bits - (i + 1)) + 1 by omega, lst] at hl
    by_cases hb : i ≥ b.length
    · have hd2 : decide ((i : Int) ≥ (b.length : Int)) = true := by simp; omega
      rw [if_pos hb] at hl
      have r1 : lastR b bits = .tup [.int .i64 0, .int .i64 0, .int .i64 3] := by simp [lastR, lstE, hl]
      simp only [go_sem, ↓reduceIte, Nat.reduceEqDiff, Nat.reduceLT, reduceCtorEq, Nat.reduceAdd, Nat.zero_add, decide_eq_true_eq, decide_eq_false_iff_not, Nat.reduceLeDiff, Nat.reduceBEq, Nat.reduceBNe, beq_self_eq_true, Int.reduceNeg, Int.reduceToNat, Nat.lt_add_one, hd1, hd2]
      rw [r1]
      exact pdone [] (by simp [go_sem]) rfl
    · have hd2 : decide ((i : Int) ≥ (b.length : Int)) = false := by simp; omega
      rw [if_neg hb] at hl
      by_cases hc : 128 ≤ (nth b i).toNat
      · have hd3 : decide (((nth b i).toNat : Int) ≥ 128) = true := by simp; omega
        rw [if_pos hc] at hl
        simp only [go_sem, ↓reduceIte, Nat.reduceEqDiff, Nat.reduceLT, reduceCtorEq, Nat.reduceAdd, Nat.zero_add, decide_eq_true_eq, decide_eq_false_iff_not, Nat.reduceLeDiff, Nat.reduceBEq, Nat.reduceBNe, beq_self_eq_true, Int.reduceNeg, Int.reduceToNat, Nat.lt_add_one, hd1, hd2, hd3]
        refine ⟨by omega, by omega, klp_n (i + 1) ⟨by omega, by omega, hl⟩ (show mst bits - (i + 1) < mst bits - i by omega) (Wk.of ?_ ?_)⟩
        · have e8 := wi (n := (i : Int) + 1) (by omega) (by omega)
          simp [go_sem, e8]
        · simp [go_sem]
      · have hd3 : decide (((nth b i).toNat : Int) ≥ 128) = false := by simp; omega
        rw [if_neg hc] at hl
        have w1 : IntKind.i64.wrap ((mst bits : Int) - 1) = (mst bits : Int) - 1 := wi (by omega) (by omega)
        by_cases hq : i + 1 = mst bits
        · have hd4 : ((i : Int) == (mst bits : Int) - 1) = true := by simp; omega
          have r1 : lastR b bits = .tup [.int .i64 i, .int .i64 ((bits : Int) - 7 * i), .int .i64 0] := by
            have : ((bits - 7 * i : Nat) : Int) = (bits : Int) - 7 * i := by omega
            simp [lastR, lstE, lstI, hl, cnt, hq, this]
          have w2 : IntKind.i64.wrap (7 * (i : Int)) = 7 * (i : Int) := wi (by omega) (by omega)
          have w3 : IntKind.i64.wrap ((bits : Int) - 7 * (i : Int)) = (bits : Int) - 7 * (i : Int) := wi (by omega) (by omega)
          simp only [go_sem, ↓reduceIte, Nat.reduceEqDiff, Nat.reduceLT, reduceCtorEq, Nat.reduceAdd, Nat.zero_add, decide_eq_true_eq, decide_eq_false_iff_not, Nat.reduceLeDiff, Nat.reduceBEq, Nat.reduceBNe, beq_self_eq_true, Int.reduceNeg, Int.reduceToNat, Nat.lt_add_one, hd1, hd2, hd3, w1, hd4]
          rw [r1]
          exact ⟨by omega, by omega, pdone [] (by simp [go_sem, w2, w3]) rfl⟩
        · have hd4 : ((i : Int) == (mst bits : Int) - 1) = false := by simp; omega
          have r1 : lastR b bits = .tup [.int .i64 i, .int .i64 7, .int .i64 0] := by simp [lastR, lstE, lstI, hl, cnt, hq]
          simp only [go_sem, ↓reduceIte, Nat.reduceEqDiff, Nat.reduceLT, reduceCtorEq, Nat.reduceAdd, Nat.zero_add, decide_eq_true_eq, decide_eq_false_iff_not, Nat.reduceLeDiff, Nat.reduceBEq, Nat.reduceBNe, beq_self_eq_true, Int.reduceNeg, Int.reduceToNat, Nat.lt_add_one, hd1, hd2, hd3, w1, hd4]
          rw [r1]
          exact ⟨by omega, by omega, pdone [] (by simp [go_sem]) rfl⟩
  · have hd1 : decide ((i : Int) < (mst bits : Int)) = false := by simp; omega
    rw [show mst bits - i = 0 by omega, lst] at hl
    have r1 : lastR b bits = .tup [.int .i64 0, .int .i64 0, .int .i64 4] := by simp [lastR, lstE, hl]
    simp only [go_sem, ↓reduceIte, Nat.reduceEqDiff, Nat.reduceLT, reduceCtorEq, Nat.reduceAdd, Nat.zero_add, decide_eq_true_eq, decide_eq_false_iff_not, Nat.reduceLeDiff, Nat.reduceBEq, Nat.reduceBNe, beq_self_eq_true, Int.reduceNeg, Int.reduceToNat, Nat.lt_add_one, hd1]
    rw [r1]
    exact pdone [] (by simp [go_sem]) rfl
end Go.Proofs.YtkejmhpodhbeeaaDoor
