/-
  unicode/utf8, walks: ValidString, Valid. Printed by tools/genu.py.
-/
import Derived.Test.YtkejmhpodhbeeaaDoorUa
set_option linter.unusedSimpArgs false
set_option maxRecDepth 100000
set_option maxHeartbeats 8000000
namespace Go.Proofs.YtkejmhpodhbeeaaDoor
open Go Go.Mw

theorem and7 {x : Nat} (hx : x < 256) : b_and .u8 (x : Int) 7 = ((x % 8 : Nat) : Int) := by
  have : (BitVec.ofInt 8 (x : Int) &&& BitVec.ofInt 8 ((7 : Nat) : Int)).toNat = x &&& 7 := and_nat hx (by decide)
  show IntKind.u8.wrap ((BitVec.ofInt 8 (x : Int) &&& BitVec.ofInt 8 ((7 : Nat) : Int)).toNat) = _
  rw [this, show (7 : Nat) = 2 ^ 3 - 1 from rfl, Nat.and_two_pow_sub_one_eq_mod, w_u8]
  omega
theorem run2 {l : List UInt8} (z : Lib.firstT (nth l 0).toNat % 8 = 2) : run1 l = if 2 ≤ l.length ∧ Lib.accLo (Lib.firstT (nth l 0).toNat / 16) ≤ (nth l 1).toNat ∧ (nth l 1).toNat ≤ Lib.accHi (Lib.firstT (nth l 0).toNat / 16) then some 2 else none := by
  unfold run1
  simp only
  rw [if_pos z]
theorem run3 {l : List UInt8} (z : Lib.firstT (nth l 0).toNat % 8 = 3) : run1 l = if 3 ≤ l.length ∧ Lib.accLo (Lib.firstT (nth l 0).toNat / 16) ≤ (nth l 1).toNat ∧ (nth l 1).toNat ≤ Lib.accHi (Lib.firstT (nth l 0).toNat / 16) ∧ 128 ≤ (nth l 2).toNat ∧ (nth l 2).toNat ≤ 191 then some 3 else none := by
  unfold run1
  simp only
  rw [if_neg (by omega), if_pos z]
theorem run4 {l : List UInt8} (z : Lib.firstT (nth l 0).toNat % 8 = 4) : run1 l = if 4 ≤ l.length ∧ Lib.accLo (Lib.firstT (nth l 0).toNat / 16) ≤ (nth l 1).toNat ∧ (nth l 1).toNat ≤ Lib.accHi (Lib.firstT (nth l 0).toNat / 16) ∧ 128 ≤ (nth l 2).toNat ∧ (nth l 2).toNat ≤ 191 ∧ 128 ≤ (nth l 3).toNat ∧ (nth l 3).toNat ≤ 191 then some 4 else none := by
  unfold run1
  simp only
  rw [if_neg (by omega), if_neg (by omega), if_pos z]
theorem runN {l : List UInt8} (z2 : ¬ Lib.firstT (nth l 0).toNat % 8 = 2) (z3 : ¬ Lib.firstT (nth l 0).toNat % 8 = 3) (z4 : ¬ Lib.firstT (nth l 0).toNat % 8 = 4) : run1 l = none := by
  unfold run1
  simp only
  rw [if_neg z2, if_neg z3, if_neg z4]
theorem first_lt (b : Nat) : Lib.firstT b < 256 := by
  rcases Lib.firstT_cases b with h | h | h | h | h | h | h | h | h <;> rw [h] <;> decide
theorem ld_first {x : Nat} (hx : x < 256) : ldc none (tab0.drop (x * 1)) = some (.int .u8 (Lib.firstT x)) := by
  have : (tab0.drop x)[0]? = some (.int .u8 (Lib.firstT x)) := by
    rw [List.getElem?_drop, Nat.add_zero, tab0, List.getElem?_map, List.getElem?_range hx]; rfl
  rw [Nat.mul_one]
  simp only [ldc]
  exact this
theorem ld_acc {i : Nat} (hi : i < 16) : ldc (some 2) (tab1.drop (i * 2)) = some (.agg [.int .u8 (Lib.accLo i), .int .u8 (Lib.accHi i)]) := by
  have hl : tab1.length = 32 := by simp [tab1]
  have e0 : tab1[i * 2]? = some (.int .u8 (Lib.accLo i)) := by
    rw [tab1, List.getElem?_map, List.getElem?_range (by omega)]
    simp only [Option.map_some]
    rw [if_pos (by omega), show i * 2 / 2 = i by omega]
  have e1 : tab1[i * 2 + 1]? = some (.int .u8 (Lib.accHi i)) := by
    rw [tab1, List.getElem?_map, List.getElem?_range (by omega)]
    simp only [Option.map_some]
    rw [if_neg (by omega), show (i * 2 + 1) / 2 = i by omega]
  have h0 : i * 2 < tab1.length := by omega
  have h1 : i * 2 + 1 < tab1.length := by omega
  simp only [ldc]
  rw [if_pos (by simp [hl]; omega), List.drop_eq_getElem_cons h0, List.drop_eq_getElem_cons h1]
  rw [List.getElem?_eq_getElem h0] at e0
  rw [List.getElem?_eq_getElem h1] at e1
  simp only [List.take_succ_cons, List.take_zero, Option.some.inj e0, Option.some.inj e1]


theorem s_uvS (s : List UInt8) (hs : s.length < 1000000000) : PCalls Tryd.prog n_utf8_ValidString [.str s] (.bool (uv s)) := by
  refine pfun_soundT (ic := F_utf8_ValidString.body) [(1000000, .ip tab0), (1000001, .ip tab1)] (fun p hp => hp) mixed c_utf8_ValidString rfl rfl ?_
  simp only [F_utf8_ValidString, go_sem, ↓reduceIte, Nat.reduceEqDiff, Nat.reduceLT, reduceCtorEq, Nat.reduceAdd, Nat.zero_add, decide_eq_true_eq, decide_eq_false_iff_not, Nat.reduceLeDiff, Nat.reduceBEq, Nat.reduceBNe, beq_self_eq_true, Int.reduceNeg, Int.reduceToNat, Nat.lt_add_one]
  refine loop_rule (fun q : List UInt8 => ⟨[(0, .str q), (1000000, .ip tab0), (1000001, .ip tab1)], []⟩) (fun q => uv q = uv s ∧ q.length ≤ s.length) (fun q => q.length) s ⟨rfl, Nat.le_refl _⟩ (Wk.of ?_ ?_) ?_
  · simp only [go_sem, ↓reduceIte, Nat.reduceEqDiff, Nat.reduceLT, reduceCtorEq, Nat.reduceAdd, Nat.zero_add, decide_eq_true_eq, decide_eq_false_iff_not, Nat.reduceLeDiff, Nat.reduceBEq, Nat.reduceBNe, beq_self_eq_true, Int.reduceNeg, Int.reduceToNat, Nat.lt_add_one]
  · simp only [go_sem, ↓reduceIte, Nat.reduceEqDiff, Nat.reduceLT, reduceCtorEq, Nat.reduceAdd, Nat.zero_add, decide_eq_true_eq, decide_eq_false_iff_not, Nat.reduceLeDiff, Nat.reduceBEq, Nat.reduceBNe, beq_self_eq_true, Int.reduceNeg, Int.reduceToNat, Nat.lt_add_one]
  rintro q ⟨hq, hl⟩
  replace hq : uv q = uv s := hq
  replace hl : q.length ≤ s.length := hl
  have fin : ∀ (s1 : St) (q' : List UInt8), get s1.env 0 = .str q' → get s1.env 1000000 = .ip tab0 → get s1.env 1000001 = .ip tab1 → uv q' = uv s → q'.length < q.length → ∀ K,
      klp (fun q : List UInt8 => ⟨[(0, .str q), (1000000, .ip tab0), (1000001, .ip tab1)], []⟩) (fun q => uv q = uv s ∧ q.length ≤ s.length) (fun q => q.length) q K .nrm s1 := fun s1 q' h0 h1 h2 h3 h4 K =>
    klp_n q' ⟨h3, by omega⟩ h4 (Wk.of ⟨h0, h1, h2, trivial⟩ trivial)
  by_cases h0 : q.length = 0
  · have d0 : decide ((q.length : Int) > 0) = false := decide_eq_false (by omega)
    have : q = [] := List.eq_nil_of_length_eq_zero h0
    subst this
    rw [← hq, uv_nil]
    simp only [go_sem, ↓reduceIte, Nat.reduceEqDiff, Nat.reduceLT, reduceCtorEq, Nat.reduceAdd, Nat.zero_add, decide_eq_true_eq, decide_eq_false_iff_not, Nat.reduceLeDiff, Nat.reduceBEq, Nat.reduceBNe, beq_self_eq_true, Int.reduceNeg, Int.reduceToNat, Nat.lt_add_one, d0, List.length_nil, Int.natCast_zero, gt_iff_lt, Int.lt_irrefl, decide_false]
    exact pdone [] (by simp only [go_sem, ↓reduceIte, Nat.reduceEqDiff, Nat.reduceLT, reduceCtorEq, Nat.reduceAdd, Nat.zero_add, decide_eq_true_eq, decide_eq_false_iff_not, Nat.reduceLeDiff, Nat.reduceBEq, Nat.reduceBNe, beq_self_eq_true, Int.reduceNeg, Int.reduceToNat, Nat.lt_add_one]) rfl
  have d0 : decide ((q.length : Int) > 0) = true := by simp; omega
  have hx : (nth q 0).toNat < 256 := (nth q 0).toNat_lt
  by_cases ha : (nth q 0).toNat < 128
  · have da : decide (((nth q 0).toNat : Int) < 128) = true := by simp; omega
    have hq1 : uv (q.drop 1) = uv s := by rw [← uv_asc (by omega) ha]; exact hq
    have l1 : (q.drop 1).length = q.length - 1 := by simp
    by_cases h8 : (q.drop 1).length > 8
    · have d8 : decide (((q.drop 1).length : Int) > 8) = true := by simp only [decide_eq_true_eq]; omega
      simp only [go_sem, ↓reduceIte, Nat.reduceEqDiff, Nat.reduceLT, reduceCtorEq, Nat.reduceAdd, Nat.zero_add, decide_eq_true_eq, decide_eq_false_iff_not, Nat.reduceLeDiff, Nat.reduceBEq, Nat.reduceBNe, beq_self_eq_true, Int.reduceNeg, Int.reduceToNat, Nat.lt_add_one, d0, da, d8]
      refine ⟨by omega, by omega, ⟨by omega, by omega⟩, call_same (s_wordS (q.drop 1) (by omega)) (by simp [go_sem]) ?_⟩
      have a1 := and_hi (wrd_lt (q.drop 1))
      by_cases t1 : wrd (q.drop 1) &&& 9259542123273814144 = 0
      · have b1 : (((wrd (q.drop 1) &&& 9259542123273814144 : Nat) : Int) == 0) = true := by rw [t1]; rfl
        have hq2 : uv ((q.drop 1).drop 8) = uv s := by rw [← uv_word (by omega) t1]; exact hq1
        have l2 : ((q.drop 1).drop 8).length = q.length - 9 := by simp <;> omega
        generalize hq2e : (q.drop 1).drop 8 = q2 at *
        by_cases h16 : q2.length > 16
        · have d16 : decide ((q2.length : Int) > 16) = true := decide_eq_true (by omega)
          simp only [go_sem, ↓reduceIte, Nat.reduceEqDiff, Nat.reduceLT, reduceCtorEq, Nat.reduceAdd, Nat.zero_add, decide_eq_true_eq, decide_eq_false_iff_not, Nat.reduceLeDiff, Nat.reduceBEq, Nat.reduceBNe, beq_self_eq_true, Int.reduceNeg, Int.reduceToNat, Nat.lt_add_one, a1, b1, hq2e, d16]
          refine ⟨⟨by omega, by omega⟩, dcall_same (s_wordS q2 (by omega)) (by simp [go_sem]) rfl ?_⟩
          simp only [go_sem, ↓reduceIte, Nat.reduceEqDiff, Nat.reduceLT, reduceCtorEq, Nat.reduceAdd, Nat.zero_add, decide_eq_true_eq, decide_eq_false_iff_not, Nat.reduceLeDiff, Nat.reduceBEq, Nat.reduceBNe, beq_self_eq_true, Int.reduceNeg, Int.reduceToNat, Nat.lt_add_one]
          refine ⟨⟨by omega, by omega⟩, dcall_same (s_wordS (q2.drop 8) (by simp; omega)) (by simp [go_sem]) rfl ?_⟩
          have o1 := or_w (wrd_lt q2) (wrd_lt (q2.drop 8))
          have a2 := and_hi o1.2
          by_cases t2 : (wrd q2 ||| wrd (q2.drop 8)) &&& 9259542123273814144 = 0
          · have b2 : ((((wrd q2 ||| wrd (q2.drop 8)) &&& 9259542123273814144 : Nat) : Int) == 0) = true := by rw [t2]; rfl
            have hq3 : uv (q2.drop 16) = uv s := by
              have := or_and_zero t2
              rw [show q2.drop 16 = (q2.drop 8).drop 8 by rw [List.drop_drop], ← uv_word (by simp; omega) this.2, ← uv_word (by omega) this.1]
              exact hq2
            have l3 : (q2.drop 16).length = q2.length - 16 := by simp
            simp only [go_sem, ↓reduceIte, Nat.reduceEqDiff, Nat.reduceLT, reduceCtorEq, Nat.reduceAdd, Nat.zero_add, decide_eq_true_eq, decide_eq_false_iff_not, Nat.reduceLeDiff, Nat.reduceBEq, Nat.reduceBNe, beq_self_eq_true, Int.reduceNeg, Int.reduceToNat, Nat.lt_add_one, o1.1, a2, b2]
            refine ⟨⟨by omega, by omega⟩, ?_⟩
            refine loop_rule (fun r : List UInt8 => ⟨[(0, .str r), (1000000, .ip tab0), (1000001, .ip tab1)], []⟩) (fun r => uv r = uv s ∧ r.length < q.length) (fun r => r.length) (q2.drop 16) ⟨hq3, by omega⟩ (Wk.of ?_ ?_) ?_
            · simp only [go_sem, ↓reduceIte, Nat.reduceEqDiff, Nat.reduceLT, reduceCtorEq, Nat.reduceAdd, Nat.zero_add, decide_eq_true_eq, decide_eq_false_iff_not, Nat.reduceLeDiff, Nat.reduceBEq, Nat.reduceBNe, beq_self_eq_true, Int.reduceNeg, Int.reduceToNat, Nat.lt_add_one]
            · simp only [go_sem, ↓reduceIte, Nat.reduceEqDiff, Nat.reduceLT, reduceCtorEq, Nat.reduceAdd, Nat.zero_add, decide_eq_true_eq, decide_eq_false_iff_not, Nat.reduceLeDiff, Nat.reduceBEq, Nat.reduceBNe, beq_self_eq_true, Int.reduceNeg, Int.reduceToNat, Nat.lt_add_one]
            rintro r ⟨hr, hrl⟩
            replace hr : uv r = uv s := hr
            replace hrl : r.length < q.length := hrl
            by_cases h32 : r.length > 32
            · have d32 : decide ((r.length : Int) > 32) = true := decide_eq_true (by omega)
              simp only [go_sem, ↓reduceIte, Nat.reduceEqDiff, Nat.reduceLT, reduceCtorEq, Nat.reduceAdd, Nat.zero_add, decide_eq_true_eq, decide_eq_false_iff_not, Nat.reduceLeDiff, Nat.reduceBEq, Nat.reduceBNe, beq_self_eq_true, Int.reduceNeg, Int.reduceToNat, Nat.lt_add_one, d32]
              refine dcall_same (s_wordS r (by omega)) (by simp [go_sem]) rfl ?_
              simp only [go_sem, ↓reduceIte, Nat.reduceEqDiff, Nat.reduceLT, reduceCtorEq, Nat.reduceAdd, Nat.zero_add, decide_eq_true_eq, decide_eq_false_iff_not, Nat.reduceLeDiff, Nat.reduceBEq, Nat.reduceBNe, beq_self_eq_true, Int.reduceNeg, Int.reduceToNat, Nat.lt_add_one]
              refine ⟨⟨by omega, by omega⟩, dcall_same (s_wordS (r.drop 8) (by simp; omega)) (by simp [go_sem]) rfl ?_⟩
              simp only [go_sem, ↓reduceIte, Nat.reduceEqDiff, Nat.reduceLT, reduceCtorEq, Nat.reduceAdd, Nat.zero_add, decide_eq_true_eq, decide_eq_false_iff_not, Nat.reduceLeDiff, Nat.reduceBEq, Nat.reduceBNe, beq_self_eq_true, Int.reduceNeg, Int.reduceToNat, Nat.lt_add_one]
              refine ⟨⟨by omega, by omega⟩, dcall_same (s_wordS (r.drop 16) (by simp; omega)) (by simp [go_sem]) rfl ?_⟩
              simp only [go_sem, ↓reduceIte, Nat.reduceEqDiff, Nat.reduceLT, reduceCtorEq, Nat.reduceAdd, Nat.zero_add, decide_eq_true_eq, decide_eq_false_iff_not, Nat.reduceLeDiff, Nat.reduceBEq, Nat.reduceBNe, beq_self_eq_true, Int.reduceNeg, Int.reduceToNat, Nat.lt_add_one]
              refine ⟨⟨by omega, by omega⟩, dcall_same (s_wordS (r.drop 24) (by simp; omega)) (by simp [go_sem]) rfl ?_⟩
              have o2 := or_w (wrd_lt r) (wrd_lt (r.drop 8))
              have o3 := or_w (wrd_lt (r.drop 16)) (wrd_lt (r.drop 24))
              have o4 := or_w o2.2 o3.2
              have a3 := and_hi o4.2
              by_cases t3 : ((wrd r ||| wrd (r.drop 8)) ||| (wrd (r.drop 16) ||| wrd (r.drop 24))) &&& 9259542123273814144 = 0
              · have b3 : (((((wrd r ||| wrd (r.drop 8)) ||| (wrd (r.drop 16) ||| wrd (r.drop 24))) &&& 9259542123273814144 : Nat) : Int) == 0) = true := by rw [t3]; rfl
                have hr4 : uv (r.drop 32) = uv s := by
                  have g1 := or_and_zero t3
                  have g2 := or_and_zero g1.1
                  have g3 := or_and_zero g1.2
                  rw [show r.drop 32 = (r.drop 24).drop 8 by rw [List.drop_drop], ← uv_word (by simp; omega) g3.2, show r.drop 24 = (r.drop 16).drop 8 by rw [List.drop_drop], ← uv_word (by simp; omega) g3.1,
                    show r.drop 16 = (r.drop 8).drop 8 by rw [List.drop_drop], ← uv_word (by simp; omega) g2.2, ← uv_word (by omega) g2.1]
                  exact hr
                simp only [go_sem, ↓reduceIte, Nat.reduceEqDiff, Nat.reduceLT, reduceCtorEq, Nat.reduceAdd, Nat.zero_add, decide_eq_true_eq, decide_eq_false_iff_not, Nat.reduceLeDiff, Nat.reduceBEq, Nat.reduceBNe, beq_self_eq_true, Int.reduceNeg, Int.reduceToNat, Nat.lt_add_one, o2.1, o3.1, o4.1, a3, b3]
                exact ⟨⟨by omega, by omega⟩, klp_n (r.drop 32) ⟨hr4, by simp; omega⟩ (show (r.drop 32).length < r.length by simp; omega) (Wk.of (by simp only [go_sem, ↓reduceIte, Nat.reduceEqDiff, Nat.reduceLT, reduceCtorEq, Nat.reduceAdd, Nat.zero_add, decide_eq_true_eq, decide_eq_false_iff_not, Nat.reduceLeDiff, Nat.reduceBEq, Nat.reduceBNe, beq_self_eq_true, Int.reduceNeg, Int.reduceToNat, Nat.lt_add_one]) (by simp only [go_sem, ↓reduceIte, Nat.reduceEqDiff, Nat.reduceLT, reduceCtorEq, Nat.reduceAdd, Nat.zero_add, decide_eq_true_eq, decide_eq_false_iff_not, Nat.reduceLeDiff, Nat.reduceBEq, Nat.reduceBNe, beq_self_eq_true, Int.reduceNeg, Int.reduceToNat, Nat.lt_add_one]))⟩
              · have b3 : (((((wrd r ||| wrd (r.drop 8)) ||| (wrd (r.drop 16) ||| wrd (r.drop 24))) &&& 9259542123273814144 : Nat) : Int) == 0) = false := by rw [beq_eq_false_iff_ne]; omega
                simp only [go_sem, ↓reduceIte, Nat.reduceEqDiff, Nat.reduceLT, reduceCtorEq, Nat.reduceAdd, Nat.zero_add, decide_eq_true_eq, decide_eq_false_iff_not, Nat.reduceLeDiff, Nat.reduceBEq, Nat.reduceBNe, beq_self_eq_true, Int.reduceNeg, Int.reduceToNat, Nat.lt_add_one, o2.1, o3.1, o4.1, a3, b3]
                exact fin _ r (by simp only [go_sem, ↓reduceIte, Nat.reduceEqDiff, Nat.reduceLT, reduceCtorEq, Nat.reduceAdd, Nat.zero_add, decide_eq_true_eq, decide_eq_false_iff_not, Nat.reduceLeDiff, Nat.reduceBEq, Nat.reduceBNe, beq_self_eq_true, Int.reduceNeg, Int.reduceToNat, Nat.lt_add_one]) (by simp only [go_sem, ↓reduceIte, Nat.reduceEqDiff, Nat.reduceLT, reduceCtorEq, Nat.reduceAdd, Nat.zero_add, decide_eq_true_eq, decide_eq_false_iff_not, Nat.reduceLeDiff, Nat.reduceBEq, Nat.reduceBNe, beq_self_eq_true, Int.reduceNeg, Int.reduceToNat, Nat.lt_add_one]) (by simp only [go_sem, ↓reduceIte, Nat.reduceEqDiff, Nat.reduceLT, reduceCtorEq, Nat.reduceAdd, Nat.zero_add, decide_eq_true_eq, decide_eq_false_iff_not, Nat.reduceLeDiff, Nat.reduceBEq, Nat.reduceBNe, beq_self_eq_true, Int.reduceNeg, Int.reduceToNat, Nat.lt_add_one]) hr hrl _
            · have d32 : decide ((r.length : Int) > 32) = false := decide_eq_false (by omega)
              simp only [go_sem, ↓reduceIte, Nat.reduceEqDiff, Nat.reduceLT, reduceCtorEq, Nat.reduceAdd, Nat.zero_add, decide_eq_true_eq, decide_eq_false_iff_not, Nat.reduceLeDiff, Nat.reduceBEq, Nat.reduceBNe, beq_self_eq_true, Int.reduceNeg, Int.reduceToNat, Nat.lt_add_one, d32]
              exact fin _ r (by simp only [go_sem, ↓reduceIte, Nat.reduceEqDiff, Nat.reduceLT, reduceCtorEq, Nat.reduceAdd, Nat.zero_add, decide_eq_true_eq, decide_eq_false_iff_not, Nat.reduceLeDiff, Nat.reduceBEq, Nat.reduceBNe, beq_self_eq_true, Int.reduceNeg, Int.reduceToNat, Nat.lt_add_one]) (by simp only [go_sem, ↓reduceIte, Nat.reduceEqDiff, Nat.reduceLT, reduceCtorEq, Nat.reduceAdd, Nat.zero_add, decide_eq_true_eq, decide_eq_false_iff_not, Nat.reduceLeDiff, Nat.reduceBEq, Nat.reduceBNe, beq_self_eq_true, Int.reduceNeg, Int.reduceToNat, Nat.lt_add_one]) (by simp only [go_sem, ↓reduceIte, Nat.reduceEqDiff, Nat.reduceLT, reduceCtorEq, Nat.reduceAdd, Nat.zero_add, decide_eq_true_eq, decide_eq_false_iff_not, Nat.reduceLeDiff, Nat.reduceBEq, Nat.reduceBNe, beq_self_eq_true, Int.reduceNeg, Int.reduceToNat, Nat.lt_add_one]) hr hrl _
          · have b2 : ((((wrd q2 ||| wrd (q2.drop 8)) &&& 9259542123273814144 : Nat) : Int) == 0) = false := by rw [beq_eq_false_iff_ne]; omega
            simp only [go_sem, ↓reduceIte, Nat.reduceEqDiff, Nat.reduceLT, reduceCtorEq, Nat.reduceAdd, Nat.zero_add, decide_eq_true_eq, decide_eq_false_iff_not, Nat.reduceLeDiff, Nat.reduceBEq, Nat.reduceBNe, beq_self_eq_true, Int.reduceNeg, Int.reduceToNat, Nat.lt_add_one, o1.1, a2, b2]
            exact fin _ q2 (by simp only [go_sem, ↓reduceIte, Nat.reduceEqDiff, Nat.reduceLT, reduceCtorEq, Nat.reduceAdd, Nat.zero_add, decide_eq_true_eq, decide_eq_false_iff_not, Nat.reduceLeDiff, Nat.reduceBEq, Nat.reduceBNe, beq_self_eq_true, Int.reduceNeg, Int.reduceToNat, Nat.lt_add_one]) (by simp only [go_sem, ↓reduceIte, Nat.reduceEqDiff, Nat.reduceLT, reduceCtorEq, Nat.reduceAdd, Nat.zero_add, decide_eq_true_eq, decide_eq_false_iff_not, Nat.reduceLeDiff, Nat.reduceBEq, Nat.reduceBNe, beq_self_eq_true, Int.reduceNeg, Int.reduceToNat, Nat.lt_add_one]) (by simp only [go_sem, ↓reduceIte, Nat.reduceEqDiff, Nat.reduceLT, reduceCtorEq, Nat.reduceAdd, Nat.zero_add, decide_eq_true_eq, decide_eq_false_iff_not, Nat.reduceLeDiff, Nat.reduceBEq, Nat.reduceBNe, beq_self_eq_true, Int.reduceNeg, Int.reduceToNat, Nat.lt_add_one]) hq2 (by omega) _
        · have d16 : decide ((q2.length : Int) > 16) = false := decide_eq_false (by omega)
          simp only [go_sem, ↓reduceIte, Nat.reduceEqDiff, Nat.reduceLT, reduceCtorEq, Nat.reduceAdd, Nat.zero_add, decide_eq_true_eq, decide_eq_false_iff_not, Nat.reduceLeDiff, Nat.reduceBEq, Nat.reduceBNe, beq_self_eq_true, Int.reduceNeg, Int.reduceToNat, Nat.lt_add_one, a1, b1, hq2e, d16]
          exact ⟨⟨by omega, by omega⟩, fin _ q2 (by simp only [go_sem, ↓reduceIte, Nat.reduceEqDiff, Nat.reduceLT, reduceCtorEq, Nat.reduceAdd, Nat.zero_add, decide_eq_true_eq, decide_eq_false_iff_not, Nat.reduceLeDiff, Nat.reduceBEq, Nat.reduceBNe, beq_self_eq_true, Int.reduceNeg, Int.reduceToNat, Nat.lt_add_one]) (by simp only [go_sem, ↓reduceIte, Nat.reduceEqDiff, Nat.reduceLT, reduceCtorEq, Nat.reduceAdd, Nat.zero_add, decide_eq_true_eq, decide_eq_false_iff_not, Nat.reduceLeDiff, Nat.reduceBEq, Nat.reduceBNe, beq_self_eq_true, Int.reduceNeg, Int.reduceToNat, Nat.lt_add_one]) (by simp only [go_sem, ↓reduceIte, Nat.reduceEqDiff, Nat.reduceLT, reduceCtorEq, Nat.reduceAdd, Nat.zero_add, decide_eq_true_eq, decide_eq_false_iff_not, Nat.reduceLeDiff, Nat.reduceBEq, Nat.reduceBNe, beq_self_eq_true, Int.reduceNeg, Int.reduceToNat, Nat.lt_add_one]) hq2 (by omega) _⟩
      · have b1 : (((wrd (q.drop 1) &&& 9259542123273814144 : Nat) : Int) == 0) = false := by rw [beq_eq_false_iff_ne]; omega
        simp only [go_sem, ↓reduceIte, Nat.reduceEqDiff, Nat.reduceLT, reduceCtorEq, Nat.reduceAdd, Nat.zero_add, decide_eq_true_eq, decide_eq_false_iff_not, Nat.reduceLeDiff, Nat.reduceBEq, Nat.reduceBNe, beq_self_eq_true, Int.reduceNeg, Int.reduceToNat, Nat.lt_add_one, a1, b1]
        exact fin _ (q.drop 1) (by simp only [go_sem, ↓reduceIte, Nat.reduceEqDiff, Nat.reduceLT, reduceCtorEq, Nat.reduceAdd, Nat.zero_add, decide_eq_true_eq, decide_eq_false_iff_not, Nat.reduceLeDiff, Nat.reduceBEq, Nat.reduceBNe, beq_self_eq_true, Int.reduceNeg, Int.reduceToNat, Nat.lt_add_one]) (by simp only [go_sem, ↓reduceIte, Nat.reduceEqDiff, Nat.reduceLT, reduceCtorEq, Nat.reduceAdd, Nat.zero_add, decide_eq_true_eq, decide_eq_false_iff_not, Nat.reduceLeDiff, Nat.reduceBEq, Nat.reduceBNe, beq_self_eq_true, Int.reduceNeg, Int.reduceToNat, Nat.lt_add_one]) (by simp only [go_sem, ↓reduceIte, Nat.reduceEqDiff, Nat.reduceLT, reduceCtorEq, Nat.reduceAdd, Nat.zero_add, decide_eq_true_eq, decide_eq_false_iff_not, Nat.reduceLeDiff, Nat.reduceBEq, Nat.reduceBNe, beq_self_eq_true, Int.reduceNeg, Int.reduceToNat, Nat.lt_add_one]) hq1 (by omega) _
    · have d8 : decide (((q.drop 1).length : Int) > 8) = false := by simp only [decide_eq_false_iff_not]; omega
      simp only [go_sem, ↓reduceIte, Nat.reduceEqDiff, Nat.reduceLT, reduceCtorEq, Nat.reduceAdd, Nat.zero_add, decide_eq_true_eq, decide_eq_false_iff_not, Nat.reduceLeDiff, Nat.reduceBEq, Nat.reduceBNe, beq_self_eq_true, Int.reduceNeg, Int.reduceToNat, Nat.lt_add_one, d0, da, d8]
      exact ⟨by omega, by omega, ⟨by omega, by omega⟩, fin _ (q.drop 1) (by simp only [go_sem, ↓reduceIte, Nat.reduceEqDiff, Nat.reduceLT, reduceCtorEq, Nat.reduceAdd, Nat.zero_add, decide_eq_true_eq, decide_eq_false_iff_not, Nat.reduceLeDiff, Nat.reduceBEq, Nat.reduceBNe, beq_self_eq_true, Int.reduceNeg, Int.reduceToNat, Nat.lt_add_one]) (by simp only [go_sem, ↓reduceIte, Nat.reduceEqDiff, Nat.reduceLT, reduceCtorEq, Nat.reduceAdd, Nat.zero_add, decide_eq_true_eq, decide_eq_false_iff_not, Nat.reduceLeDiff, Nat.reduceBEq, Nat.reduceBNe, beq_self_eq_true, Int.reduceNeg, Int.reduceToNat, Nat.lt_add_one]) (by simp only [go_sem, ↓reduceIte, Nat.reduceEqDiff, Nat.reduceLT, reduceCtorEq, Nat.reduceAdd, Nat.zero_add, decide_eq_true_eq, decide_eq_false_iff_not, Nat.reduceLeDiff, Nat.reduceBEq, Nat.reduceBNe, beq_self_eq_true, Int.reduceNeg, Int.reduceToNat, Nat.lt_add_one]) hq1 (by omega) _⟩
  · have da : decide (((nth q 0).toNat : Int) < 128) = false := by simp; omega
    have hf := first_lt (nth q 0).toNat
    have e1 := ld_first hx
    have e2 := and7 hf
    have e3 : IntKind.i64.wrap ((Lib.firstT (nth q 0).toNat % 8 : Nat) : Int) = ((Lib.firstT (nth q 0).toNat % 8 : Nat) : Int) := wi (by omega) (by omega)
    have e4 : b_shr .u8 (Lib.firstT (nth q 0).toNat : Int) 4 = ((Lib.firstT (nth q 0).toNat / 16 : Nat) : Int) := shr_nat .u8 (x := Lib.firstT (nth q 0).toNat) (s := 4) (by decide)
    have e5 := ld_acc (i := Lib.firstT (nth q 0).toNat / 16) (by omega)
    have bad : run1 q = none → ∀ s1 : St, get s1.env 2 = .bool false → PDone [.tmp 2] (.bool (uv s)) .ret s1 := fun hr s1 hg => by
      rw [← hq, uv_bad (by omega) ha hr]
      exact pdone [] (by simp only [iret, ires, ires1, frzs, hg, okRes, ↓reduceIte]) rfl
    have good : ∀ k, run1 q = some k → uv (q.drop k) = uv s ∧ (q.drop k).length < q.length := fun k hk => by
      have := run1_pos hk
      exact ⟨by rw [← uv_run (by omega) ha hk]; exact hq, by simp; omega⟩
    by_cases z2 : Lib.firstT (nth q 0).toNat % 8 = 2
    · have b2 : (((Lib.firstT (nth q 0).toNat % 8 : Nat) : Int) == 2) = true := by rw [z2]; rfl
      have r2 := run2 z2
      simp (config := { maxSteps := 1000000 }) only [go_sem, ↓reduceIte, Nat.reduceEqDiff, Nat.reduceLT, reduceCtorEq, Nat.reduceAdd, Nat.zero_add, decide_eq_true_eq, decide_eq_false_iff_not, Nat.reduceLeDiff, Nat.reduceBEq, Nat.reduceBNe, beq_self_eq_true, Int.reduceNeg, Int.reduceToNat, Nat.lt_add_one, d0, da, e1, e2, e3, e4, e5, b2]
      exact ⟨by omega, by omega, ⟨by omega, by omega⟩, by decide, ⟨by omega, by omega⟩, fun h1 => bad (by rw [r2, if_neg (by omega)]) _ (by simp only [go_sem, ↓reduceIte, Nat.reduceEqDiff, Nat.reduceLT, reduceCtorEq, Nat.reduceAdd, Nat.zero_add, decide_eq_true_eq, decide_eq_false_iff_not, Nat.reduceLeDiff, Nat.reduceBEq, Nat.reduceBNe, beq_self_eq_true, Int.reduceNeg, Int.reduceToNat, Nat.lt_add_one]), fun h1 => ⟨by omega, by omega, fun h2 => bad (by rw [r2, if_neg (by omega)]) _ (by simp only [go_sem, ↓reduceIte, Nat.reduceEqDiff, Nat.reduceLT, reduceCtorEq, Nat.reduceAdd, Nat.zero_add, decide_eq_true_eq, decide_eq_false_iff_not, Nat.reduceLeDiff, Nat.reduceBEq, Nat.reduceBNe, beq_self_eq_true, Int.reduceNeg, Int.reduceToNat, Nat.lt_add_one]), fun h2 => ⟨by omega, by omega, fun h3 => bad (by rw [r2, if_neg (by omega)]) _ (by simp only [go_sem, ↓reduceIte, Nat.reduceEqDiff, Nat.reduceLT, reduceCtorEq, Nat.reduceAdd, Nat.zero_add, decide_eq_true_eq, decide_eq_false_iff_not, Nat.reduceLeDiff, Nat.reduceBEq, Nat.reduceBNe, beq_self_eq_true, Int.reduceNeg, Int.reduceToNat, Nat.lt_add_one]), fun h3 => ⟨⟨by omega, by omega⟩, fin _ (q.drop 2) (by simp only [go_sem, ↓reduceIte, Nat.reduceEqDiff, Nat.reduceLT, reduceCtorEq, Nat.reduceAdd, Nat.zero_add, decide_eq_true_eq, decide_eq_false_iff_not, Nat.reduceLeDiff, Nat.reduceBEq, Nat.reduceBNe, beq_self_eq_true, Int.reduceNeg, Int.reduceToNat, Nat.lt_add_one]) (by simp only [go_sem, ↓reduceIte, Nat.reduceEqDiff, Nat.reduceLT, reduceCtorEq, Nat.reduceAdd, Nat.zero_add, decide_eq_true_eq, decide_eq_false_iff_not, Nat.reduceLeDiff, Nat.reduceBEq, Nat.reduceBNe, beq_self_eq_true, Int.reduceNeg, Int.reduceToNat, Nat.lt_add_one]) (by simp only [go_sem, ↓reduceIte, Nat.reduceEqDiff, Nat.reduceLT, reduceCtorEq, Nat.reduceAdd, Nat.zero_add, decide_eq_true_eq, decide_eq_false_iff_not, Nat.reduceLeDiff, Nat.reduceBEq, Nat.reduceBNe, beq_self_eq_true, Int.reduceNeg, Int.reduceToNat, Nat.lt_add_one]) (good 2 (by rw [r2, if_pos (by omega)])).1 (good 2 (by rw [r2, if_pos (by omega)])).2 _⟩⟩⟩⟩
    have n2 : (((Lib.firstT (nth q 0).toNat % 8 : Nat) : Int) == 2) = false := by rw [beq_eq_false_iff_ne]; omega
    by_cases z3 : Lib.firstT (nth q 0).toNat % 8 = 3
    · have b3 : (((Lib.firstT (nth q 0).toNat % 8 : Nat) : Int) == 3) = true := by rw [z3]; rfl
      have r3 := run3 z3
      simp (config := { maxSteps := 1000000 }) only [go_sem, ↓reduceIte, Nat.reduceEqDiff, Nat.reduceLT, reduceCtorEq, Nat.reduceAdd, Nat.zero_add, decide_eq_true_eq, decide_eq_false_iff_not, Nat.reduceLeDiff, Nat.reduceBEq, Nat.reduceBNe, beq_self_eq_true, Int.reduceNeg, Int.reduceToNat, Nat.lt_add_one, d0, da, e1, e2, e3, e4, e5, b3, n2]
      exact ⟨by omega, by omega, ⟨by omega, by omega⟩, by decide, ⟨by omega, by omega⟩, fun h1 => bad (by rw [r3, if_neg (by omega)]) _ (by simp only [go_sem, ↓reduceIte, Nat.reduceEqDiff, Nat.reduceLT, reduceCtorEq, Nat.reduceAdd, Nat.zero_add, decide_eq_true_eq, decide_eq_false_iff_not, Nat.reduceLeDiff, Nat.reduceBEq, Nat.reduceBNe, beq_self_eq_true, Int.reduceNeg, Int.reduceToNat, Nat.lt_add_one]), fun h1 => ⟨by omega, by omega, fun h2 => bad (by rw [r3, if_neg (by omega)]) _ (by simp only [go_sem, ↓reduceIte, Nat.reduceEqDiff, Nat.reduceLT, reduceCtorEq, Nat.reduceAdd, Nat.zero_add, decide_eq_true_eq, decide_eq_false_iff_not, Nat.reduceLeDiff, Nat.reduceBEq, Nat.reduceBNe, beq_self_eq_true, Int.reduceNeg, Int.reduceToNat, Nat.lt_add_one]), fun h2 => ⟨by omega, by omega, fun h3 => bad (by rw [r3, if_neg (by omega)]) _ (by simp only [go_sem, ↓reduceIte, Nat.reduceEqDiff, Nat.reduceLT, reduceCtorEq, Nat.reduceAdd, Nat.zero_add, decide_eq_true_eq, decide_eq_false_iff_not, Nat.reduceLeDiff, Nat.reduceBEq, Nat.reduceBNe, beq_self_eq_true, Int.reduceNeg, Int.reduceToNat, Nat.lt_add_one]), fun h3 => ⟨by omega, by omega, fun h4 => bad (by rw [r3, if_neg (by omega)]) _ (by simp only [go_sem, ↓reduceIte, Nat.reduceEqDiff, Nat.reduceLT, reduceCtorEq, Nat.reduceAdd, Nat.zero_add, decide_eq_true_eq, decide_eq_false_iff_not, Nat.reduceLeDiff, Nat.reduceBEq, Nat.reduceBNe, beq_self_eq_true, Int.reduceNeg, Int.reduceToNat, Nat.lt_add_one]), fun h4 => ⟨by omega, by omega, fun h5 => bad (by rw [r3, if_neg (by omega)]) _ (by simp only [go_sem, ↓reduceIte, Nat.reduceEqDiff, Nat.reduceLT, reduceCtorEq, Nat.reduceAdd, Nat.zero_add, decide_eq_true_eq, decide_eq_false_iff_not, Nat.reduceLeDiff, Nat.reduceBEq, Nat.reduceBNe, beq_self_eq_true, Int.reduceNeg, Int.reduceToNat, Nat.lt_add_one]), fun h5 => ⟨⟨by omega, by omega⟩, fin _ (q.drop 3) (by simp only [go_sem, ↓reduceIte, Nat.reduceEqDiff, Nat.reduceLT, reduceCtorEq, Nat.reduceAdd, Nat.zero_add, decide_eq_true_eq, decide_eq_false_iff_not, Nat.reduceLeDiff, Nat.reduceBEq, Nat.reduceBNe, beq_self_eq_true, Int.reduceNeg, Int.reduceToNat, Nat.lt_add_one]) (by simp only [go_sem, ↓reduceIte, Nat.reduceEqDiff, Nat.reduceLT, reduceCtorEq, Nat.reduceAdd, Nat.zero_add, decide_eq_true_eq, decide_eq_false_iff_not, Nat.reduceLeDiff, Nat.reduceBEq, Nat.reduceBNe, beq_self_eq_true, Int.reduceNeg, Int.reduceToNat, Nat.lt_add_one]) (by simp only [go_sem, ↓reduceIte, Nat.reduceEqDiff, Nat.reduceLT, reduceCtorEq, Nat.reduceAdd, Nat.zero_add, decide_eq_true_eq, decide_eq_false_iff_not, Nat.reduceLeDiff, Nat.reduceBEq, Nat.reduceBNe, beq_self_eq_true, Int.reduceNeg, Int.reduceToNat, Nat.lt_add_one]) (good 3 (by rw [r3, if_pos (by omega)])).1 (good 3 (by rw [r3, if_pos (by omega)])).2 _⟩⟩⟩⟩⟩⟩
    have n3 : (((Lib.firstT (nth q 0).toNat % 8 : Nat) : Int) == 3) = false := by rw [beq_eq_false_iff_ne]; omega
    by_cases z4 : Lib.firstT (nth q 0).toNat % 8 = 4
    · have b4 : (((Lib.firstT (nth q 0).toNat % 8 : Nat) : Int) == 4) = true := by rw [z4]; rfl
      have r4 := run4 z4
      simp (config := { maxSteps := 1000000 }) only [go_sem, ↓reduceIte, Nat.reduceEqDiff, Nat.reduceLT, reduceCtorEq, Nat.reduceAdd, Nat.zero_add, decide_eq_true_eq, decide_eq_false_iff_not, Nat.reduceLeDiff, Nat.reduceBEq, Nat.reduceBNe, beq_self_eq_true, Int.reduceNeg, Int.reduceToNat, Nat.lt_add_one, d0, da, e1, e2, e3, e4, e5, b4, n2, n3]
      exact ⟨by omega, by omega, ⟨by omega, by omega⟩, by decide, ⟨by omega, by omega⟩, fun h1 => bad (by rw [r4, if_neg (by omega)]) _ (by simp only [go_sem, ↓reduceIte, Nat.reduceEqDiff, Nat.reduceLT, reduceCtorEq, Nat.reduceAdd, Nat.zero_add, decide_eq_true_eq, decide_eq_false_iff_not, Nat.reduceLeDiff, Nat.reduceBEq, Nat.reduceBNe, beq_self_eq_true, Int.reduceNeg, Int.reduceToNat, Nat.lt_add_one]), fun h1 => ⟨by omega, by omega, fun h2 => bad (by rw [r4, if_neg (by omega)]) _ (by simp only [go_sem, ↓reduceIte, Nat.reduceEqDiff, Nat.reduceLT, reduceCtorEq, Nat.reduceAdd, Nat.zero_add, decide_eq_true_eq, decide_eq_false_iff_not, Nat.reduceLeDiff, Nat.reduceBEq, Nat.reduceBNe, beq_self_eq_true, Int.reduceNeg, Int.reduceToNat, Nat.lt_add_one]), fun h2 => ⟨by omega, by omega, fun h3 => bad (by rw [r4, if_neg (by omega)]) _ (by simp only [go_sem, ↓reduceIte, Nat.reduceEqDiff, Nat.reduceLT, reduceCtorEq, Nat.reduceAdd, Nat.zero_add, decide_eq_true_eq, decide_eq_false_iff_not, Nat.reduceLeDiff, Nat.reduceBEq, Nat.reduceBNe, beq_self_eq_true, Int.reduceNeg, Int.reduceToNat, Nat.lt_add_one]), fun h3 => ⟨by omega, by omega, fun h4 => bad (by rw [r4, if_neg (by omega)]) _ (by simp only [go_sem, ↓reduceIte, Nat.reduceEqDiff, Nat.reduceLT, reduceCtorEq, Nat.reduceAdd, Nat.zero_add, decide_eq_true_eq, decide_eq_false_iff_not, Nat.reduceLeDiff, Nat.reduceBEq, Nat.reduceBNe, beq_self_eq_true, Int.reduceNeg, Int.reduceToNat, Nat.lt_add_one]), fun h4 => ⟨by omega, by omega, fun h5 => bad (by rw [r4, if_neg (by omega)]) _ (by simp only [go_sem, ↓reduceIte, Nat.reduceEqDiff, Nat.reduceLT, reduceCtorEq, Nat.reduceAdd, Nat.zero_add, decide_eq_true_eq, decide_eq_false_iff_not, Nat.reduceLeDiff, Nat.reduceBEq, Nat.reduceBNe, beq_self_eq_true, Int.reduceNeg, Int.reduceToNat, Nat.lt_add_one]), fun h5 => ⟨by omega, by omega, fun h6 => bad (by rw [r4, if_neg (by omega)]) _ (by simp only [go_sem, ↓reduceIte, Nat.reduceEqDiff, Nat.reduceLT, reduceCtorEq, Nat.reduceAdd, Nat.zero_add, decide_eq_true_eq, decide_eq_false_iff_not, Nat.reduceLeDiff, Nat.reduceBEq, Nat.reduceBNe, beq_self_eq_true, Int.reduceNeg, Int.reduceToNat, Nat.lt_add_one]), fun h6 => ⟨by omega, by omega, fun h7 => bad (by rw [r4, if_neg (by omega)]) _ (by simp only [go_sem, ↓reduceIte, Nat.reduceEqDiff, Nat.reduceLT, reduceCtorEq, Nat.reduceAdd, Nat.zero_add, decide_eq_true_eq, decide_eq_false_iff_not, Nat.reduceLeDiff, Nat.reduceBEq, Nat.reduceBNe, beq_self_eq_true, Int.reduceNeg, Int.reduceToNat, Nat.lt_add_one]), fun h7 => ⟨⟨by omega, by omega⟩, fin _ (q.drop 4) (by simp only [go_sem, ↓reduceIte, Nat.reduceEqDiff, Nat.reduceLT, reduceCtorEq, Nat.reduceAdd, Nat.zero_add, decide_eq_true_eq, decide_eq_false_iff_not, Nat.reduceLeDiff, Nat.reduceBEq, Nat.reduceBNe, beq_self_eq_true, Int.reduceNeg, Int.reduceToNat, Nat.lt_add_one]) (by simp only [go_sem, ↓reduceIte, Nat.reduceEqDiff, Nat.reduceLT, reduceCtorEq, Nat.reduceAdd, Nat.zero_add, decide_eq_true_eq, decide_eq_false_iff_not, Nat.reduceLeDiff, Nat.reduceBEq, Nat.reduceBNe, beq_self_eq_true, Int.reduceNeg, Int.reduceToNat, Nat.lt_add_one]) (by simp only [go_sem, ↓reduceIte, Nat.reduceEqDiff, Nat.reduceLT, reduceCtorEq, Nat.reduceAdd, Nat.zero_add, decide_eq_true_eq, decide_eq_false_iff_not, Nat.reduceLeDiff, Nat.reduceBEq, Nat.reduceBNe, beq_self_eq_true, Int.reduceNeg, Int.reduceToNat, Nat.lt_add_one]) (good 4 (by rw [r4, if_pos (by omega)])).1 (good 4 (by rw [r4, if_pos (by omega)])).2 _⟩⟩⟩⟩⟩⟩⟩⟩
    have n4 : (((Lib.firstT (nth q 0).toNat % 8 : Nat) : Int) == 4) = false := by rw [beq_eq_false_iff_ne]; omega
    simp only [go_sem, ↓reduceIte, Nat.reduceEqDiff, Nat.reduceLT, reduceCtorEq, Nat.reduceAdd, Nat.zero_add, decide_eq_true_eq, decide_eq_false_iff_not, Nat.reduceLeDiff, Nat.reduceBEq, Nat.reduceBNe, beq_self_eq_true, Int.reduceNeg, Int.reduceToNat, Nat.lt_add_one, d0, da, e1, e2, e3, e4, e5, n2, n3, n4]
    exact ⟨by omega, by omega, ⟨by omega, by omega⟩, by decide, ⟨by omega, by omega⟩, bad (runN z2 z3 z4) _ (by simp only [go_sem, ↓reduceIte, Nat.reduceEqDiff, Nat.reduceLT, reduceCtorEq, Nat.reduceAdd, Nat.zero_add, decide_eq_true_eq, decide_eq_false_iff_not, Nat.reduceLeDiff, Nat.reduceBEq, Nat.reduceBNe, beq_self_eq_true, Int.reduceNeg, Int.reduceToNat, Nat.lt_add_one])⟩

theorem s_uvB (s : List UInt8) (hs : s.length < 1000000000) : PCalls Tryd.prog n_utf8_Valid [.sl 1 (List.map by_ s)] (.bool (uv s)) := by
  refine pfun_soundT (ic := F_utf8_Valid.body) [(1000000, .ip tab0), (1000001, .ip tab1)] (fun p hp => hp) mixed c_utf8_Valid rfl rfl ?_
  simp only [F_utf8_Valid, go_sem, ↓reduceIte, Nat.reduceEqDiff, Nat.reduceLT, reduceCtorEq, Nat.reduceAdd, Nat.zero_add, decide_eq_true_eq, decide_eq_false_iff_not, Nat.reduceLeDiff, Nat.reduceBEq, Nat.reduceBNe, beq_self_eq_true, Int.reduceNeg, Int.reduceToNat, Nat.lt_add_one]
  have e0 : aSlc 1 (.sl 1 (List.map by_ s)) none (some (.int .i64 (s.length : Int))) (some (.int .i64 (s.length : Int))) = some (.sl 1 (List.map by_ s)) := by
    have h1 : aBound (List.map by_ s).length (some (.int .i64 (s.length : Int))) = some s.length := by simp only [aBound]; rw [if_pos (by omega), Int.toNat_natCast]
    have h2 : aBound 0 none = some 0 := rfl
    simp only [aSlc, h1, h2]
    rw [if_pos ⟨trivial, Nat.zero_le _, Nat.le_refl _, by simp⟩, List.drop_zero, Nat.sub_zero, List.take_of_length_le (by simp)]
  simp only [go_sem, ↓reduceIte, Nat.reduceEqDiff, Nat.reduceLT, reduceCtorEq, Nat.reduceAdd, Nat.zero_add, decide_eq_true_eq, decide_eq_false_iff_not, Nat.reduceLeDiff, Nat.reduceBEq, Nat.reduceBNe, beq_self_eq_true, Int.reduceNeg, Int.reduceToNat, Nat.lt_add_one, e0]
  refine loop_rule (fun q : List UInt8 => ⟨[(0, .sl 1 (List.map by_ q)), (1000000, .ip tab0), (1000001, .ip tab1)], []⟩) (fun q => uv q = uv s ∧ q.length ≤ s.length) (fun q => q.length) s ⟨rfl, Nat.le_refl _⟩ (Wk.of ?_ ?_) ?_
  · simp only [go_sem, ↓reduceIte, Nat.reduceEqDiff, Nat.reduceLT, reduceCtorEq, Nat.reduceAdd, Nat.zero_add, decide_eq_true_eq, decide_eq_false_iff_not, Nat.reduceLeDiff, Nat.reduceBEq, Nat.reduceBNe, beq_self_eq_true, Int.reduceNeg, Int.reduceToNat, Nat.lt_add_one]
  · simp only [go_sem, ↓reduceIte, Nat.reduceEqDiff, Nat.reduceLT, reduceCtorEq, Nat.reduceAdd, Nat.zero_add, decide_eq_true_eq, decide_eq_false_iff_not, Nat.reduceLeDiff, Nat.reduceBEq, Nat.reduceBNe, beq_self_eq_true, Int.reduceNeg, Int.reduceToNat, Nat.lt_add_one]
  rintro q ⟨hq, hl⟩
  replace hq : uv q = uv s := hq
  replace hl : q.length ≤ s.length := hl
  have fin : ∀ (s1 : St) (q' : List UInt8), get s1.env 0 = .sl 1 (List.map by_ q') → get s1.env 1000000 = .ip tab0 → get s1.env 1000001 = .ip tab1 → uv q' = uv s → q'.length < q.length → ∀ K,
      klp (fun q : List UInt8 => ⟨[(0, .sl 1 (List.map by_ q)), (1000000, .ip tab0), (1000001, .ip tab1)], []⟩) (fun q => uv q = uv s ∧ q.length ≤ s.length) (fun q => q.length) q K .nrm s1 := fun s1 q' h0 h1 h2 h3 h4 K =>
    klp_n q' ⟨h3, by omega⟩ h4 (Wk.of ⟨h0, h1, h2, trivial⟩ trivial)
  by_cases h0 : q.length = 0
  · have d0 : decide ((q.length : Int) > 0) = false := decide_eq_false (by omega)
    have : q = [] := List.eq_nil_of_length_eq_zero h0
    subst this
    rw [← hq, uv_nil]
    simp only [go_sem, ↓reduceIte, Nat.reduceEqDiff, Nat.reduceLT, reduceCtorEq, Nat.reduceAdd, Nat.zero_add, decide_eq_true_eq, decide_eq_false_iff_not, Nat.reduceLeDiff, Nat.reduceBEq, Nat.reduceBNe, beq_self_eq_true, Int.reduceNeg, Int.reduceToNat, Nat.lt_add_one, d0, List.length_nil, Int.natCast_zero, gt_iff_lt, Int.lt_irrefl, decide_false]
    exact pdone [] (by simp only [go_sem, ↓reduceIte, Nat.reduceEqDiff, Nat.reduceLT, reduceCtorEq, Nat.reduceAdd, Nat.zero_add, decide_eq_true_eq, decide_eq_false_iff_not, Nat.reduceLeDiff, Nat.reduceBEq, Nat.reduceBNe, beq_self_eq_true, Int.reduceNeg, Int.reduceToNat, Nat.lt_add_one]) rfl
  have d0 : decide ((q.length : Int) > 0) = true := by simp; omega
  have hx : (nth q 0).toNat < 256 := (nth q 0).toNat_lt
  by_cases ha : (nth q 0).toNat < 128
  · have da : decide (((nth q 0).toNat : Int) < 128) = true := by simp; omega
    have hq1 : uv (q.drop 1) = uv s := by rw [← uv_asc (by omega) ha]; exact hq
    have l1 : (q.drop 1).length = q.length - 1 := by simp
    by_cases h8 : (q.drop 1).length > 8
    · have d8 : decide (((q.drop 1).length : Int) > 8) = true := by simp only [decide_eq_true_eq]; omega
      simp only [go_sem, ↓reduceIte, Nat.reduceEqDiff, Nat.reduceLT, reduceCtorEq, Nat.reduceAdd, Nat.zero_add, decide_eq_true_eq, decide_eq_false_iff_not, Nat.reduceLeDiff, Nat.reduceBEq, Nat.reduceBNe, beq_self_eq_true, Int.reduceNeg, Int.reduceToNat, Nat.lt_add_one, d0, da, d8]
      refine ⟨by omega, by omega, ⟨by omega, by omega⟩, call_same (s_wordB (q.drop 1) (by omega)) (by simp [go_sem]) ?_⟩
      have a1 := and_hi (wrd_lt (q.drop 1))
      by_cases t1 : wrd (q.drop 1) &&& 9259542123273814144 = 0
      · have b1 : (((wrd (q.drop 1) &&& 9259542123273814144 : Nat) : Int) == 0) = true := by rw [t1]; rfl
        have hq2 : uv ((q.drop 1).drop 8) = uv s := by rw [← uv_word (by omega) t1]; exact hq1
        have l2 : ((q.drop 1).drop 8).length = q.length - 9 := by simp <;> omega
        generalize hq2e : (q.drop 1).drop 8 = q2 at *
        by_cases h16 : q2.length > 16
        · have d16 : decide ((q2.length : Int) > 16) = true := decide_eq_true (by omega)
          simp only [go_sem, ↓reduceIte, Nat.reduceEqDiff, Nat.reduceLT, reduceCtorEq, Nat.reduceAdd, Nat.zero_add, decide_eq_true_eq, decide_eq_false_iff_not, Nat.reduceLeDiff, Nat.reduceBEq, Nat.reduceBNe, beq_self_eq_true, Int.reduceNeg, Int.reduceToNat, Nat.lt_add_one, a1, b1, hq2e, d16]
          refine ⟨⟨by omega, by omega⟩, dcall_same (s_wordB q2 (by omega)) (by simp [go_sem]) rfl ?_⟩
          simp only [go_sem, ↓reduceIte, Nat.reduceEqDiff, Nat.reduceLT, reduceCtorEq, Nat.reduceAdd, Nat.zero_add, decide_eq_true_eq, decide_eq_false_iff_not, Nat.reduceLeDiff, Nat.reduceBEq, Nat.reduceBNe, beq_self_eq_true, Int.reduceNeg, Int.reduceToNat, Nat.lt_add_one]
          refine ⟨⟨by omega, by omega⟩, dcall_same (s_wordB (q2.drop 8) (by simp; omega)) (by simp [go_sem]) rfl ?_⟩
          have o1 := or_w (wrd_lt q2) (wrd_lt (q2.drop 8))
          have a2 := and_hi o1.2
          by_cases t2 : (wrd q2 ||| wrd (q2.drop 8)) &&& 9259542123273814144 = 0
          · have b2 : ((((wrd q2 ||| wrd (q2.drop 8)) &&& 9259542123273814144 : Nat) : Int) == 0) = true := by rw [t2]; rfl
            have hq3 : uv (q2.drop 16) = uv s := by
              have := or_and_zero t2
              rw [show q2.drop 16 = (q2.drop 8).drop 8 by rw [List.drop_drop], ← uv_word (by simp; omega) this.2, ← uv_word (by omega) this.1]
              exact hq2
            have l3 : (q2.drop 16).length = q2.length - 16 := by simp
            simp only [go_sem, ↓reduceIte, Nat.reduceEqDiff, Nat.reduceLT, reduceCtorEq, Nat.reduceAdd, Nat.zero_add, decide_eq_true_eq, decide_eq_false_iff_not, Nat.reduceLeDiff, Nat.reduceBEq, Nat.reduceBNe, beq_self_eq_true, Int.reduceNeg, Int.reduceToNat, Nat.lt_add_one, o1.1, a2, b2]
            refine ⟨⟨by omega, by omega⟩, ?_⟩
            refine loop_rule (fun r : List UInt8 => ⟨[(0, .sl 1 (List.map by_ r)), (1000000, .ip tab0), (1000001, .ip tab1)], []⟩) (fun r => uv r = uv s ∧ r.length < q.length) (fun r => r.length) (q2.drop 16) ⟨hq3, by omega⟩ (Wk.of ?_ ?_) ?_
            · simp only [go_sem, ↓reduceIte, Nat.reduceEqDiff, Nat.reduceLT, reduceCtorEq, Nat.reduceAdd, Nat.zero_add, decide_eq_true_eq, decide_eq_false_iff_not, Nat.reduceLeDiff, Nat.reduceBEq, Nat.reduceBNe, beq_self_eq_true, Int.reduceNeg, Int.reduceToNat, Nat.lt_add_one]
            · simp only [go_sem, ↓reduceIte, Nat.reduceEqDiff, Nat.reduceLT, reduceCtorEq, Nat.reduceAdd, Nat.zero_add, decide_eq_true_eq, decide_eq_false_iff_not, Nat.reduceLeDiff, Nat.reduceBEq, Nat.reduceBNe, beq_self_eq_true, Int.reduceNeg, Int.reduceToNat, Nat.lt_add_one]
            rintro r ⟨hr, hrl⟩
            replace hr : uv r = uv s := hr
            replace hrl : r.length < q.length := hrl
            by_cases h32 : r.length > 32
            · have d32 : decide ((r.length : Int) > 32) = true := decide_eq_true (by omega)
              simp only [go_sem, ↓reduceIte, Nat.reduceEqDiff, Nat.reduceLT, reduceCtorEq, Nat.reduceAdd, Nat.zero_add, decide_eq_true_eq, decide_eq_false_iff_not, Nat.reduceLeDiff, Nat.reduceBEq, Nat.reduceBNe, beq_self_eq_true, Int.reduceNeg, Int.reduceToNat, Nat.lt_add_one, d32]
              refine dcall_same (s_wordB r (by omega)) (by simp [go_sem]) rfl ?_
              simp only [go_sem, ↓reduceIte, Nat.reduceEqDiff, Nat.reduceLT, reduceCtorEq, Nat.reduceAdd, Nat.zero_add, decide_eq_true_eq, decide_eq_false_iff_not, Nat.reduceLeDiff, Nat.reduceBEq, Nat.reduceBNe, beq_self_eq_true, Int.reduceNeg, Int.reduceToNat, Nat.lt_add_one]
              refine ⟨⟨by omega, by omega⟩, dcall_same (s_wordB (r.drop 8) (by simp; omega)) (by simp [go_sem]) rfl ?_⟩
              simp only [go_sem, ↓reduceIte, Nat.reduceEqDiff, Nat.reduceLT, reduceCtorEq, Nat.reduceAdd, Nat.zero_add, decide_eq_true_eq, decide_eq_false_iff_not, Nat.reduceLeDiff, Nat.reduceBEq, Nat.reduceBNe, beq_self_eq_true, Int.reduceNeg, Int.reduceToNat, Nat.lt_add_one]
              refine ⟨⟨by omega, by omega⟩, dcall_same (s_wordB (r.drop 16) (by simp; omega)) (by simp [go_sem]) rfl ?_⟩
              simp only [go_sem, ↓reduceIte, Nat.reduceEqDiff, Nat.reduceLT, reduceCtorEq, Nat.reduceAdd, Nat.zero_add, decide_eq_true_eq, decide_eq_false_iff_not, Nat.reduceLeDiff, Nat.reduceBEq, Nat.reduceBNe, beq_self_eq_true, Int.reduceNeg, Int.reduceToNat, Nat.lt_add_one]
              refine ⟨⟨by omega, by omega⟩, dcall_same (s_wordB (r.drop 24) (by simp; omega)) (by simp [go_sem]) rfl ?_⟩
              have o2 := or_w (wrd_lt r) (wrd_lt (r.drop 8))
              have o3 := or_w (wrd_lt (r.drop 16)) (wrd_lt (r.drop 24))
              have o4 := or_w o2.2 o3.2
              have a3 := and_hi o4.2
              by_cases t3 : ((wrd r ||| wrd (r.drop 8)) ||| (wrd (r.drop 16) ||| wrd (r.drop 24))) &&& 9259542123273814144 = 0
              · have b3 : (((((wrd r ||| wrd (r.drop 8)) ||| (wrd (r.drop 16) ||| wrd (r.drop 24))) &&& 9259542123273814144 : Nat) : Int) == 0) = true := by rw [t3]; rfl
                have hr4 : uv (r.drop 32) = uv s := by
                  have g1 := or_and_zero t3
                  have g2 := or_and_zero g1.1
                  have g3 := or_and_zero g1.2
                  rw [show r.drop 32 = (r.drop 24).drop 8 by rw [List.drop_drop], ← uv_word (by simp; omega) g3.2, show r.drop 24 = (r.drop 16).drop 8 by rw [List.drop_drop], ← uv_word (by simp; omega) g3.1,
                    show r.drop 16 = (r.drop 8).drop 8 by rw [List.drop_drop], ← uv_word (by simp; omega) g2.2, ← uv_word (by omega) g2.1]
                  exact hr
                simp only [go_sem, ↓reduceIte, Nat.reduceEqDiff, Nat.reduceLT, reduceCtorEq, Nat.reduceAdd, Nat.zero_add, decide_eq_true_eq, decide_eq_false_iff_not, Nat.reduceLeDiff, Nat.reduceBEq, Nat.reduceBNe, beq_self_eq_true, Int.reduceNeg, Int.reduceToNat, Nat.lt_add_one, o2.1, o3.1, o4.1, a3, b3]
                exact ⟨⟨by omega, by omega⟩, klp_n (r.drop 32) ⟨hr4, by simp; omega⟩ (show (r.drop 32).length < r.length by simp; omega) (Wk.of (by simp only [go_sem, ↓reduceIte, Nat.reduceEqDiff, Nat.reduceLT, reduceCtorEq, Nat.reduceAdd, Nat.zero_add, decide_eq_true_eq, decide_eq_false_iff_not, Nat.reduceLeDiff, Nat.reduceBEq, Nat.reduceBNe, beq_self_eq_true, Int.reduceNeg, Int.reduceToNat, Nat.lt_add_one]) (by simp only [go_sem, ↓reduceIte, Nat.reduceEqDiff, Nat.reduceLT, reduceCtorEq, Nat.reduceAdd, Nat.zero_add, decide_eq_true_eq, decide_eq_false_iff_not, Nat.reduceLeDiff, Nat.reduceBEq, Nat.reduceBNe, beq_self_eq_true, Int.reduceNeg, Int.reduceToNat, Nat.lt_add_one]))⟩
              · have b3 : (((((wrd r ||| wrd (r.drop 8)) ||| (wrd (r.drop 16) ||| wrd (r.drop 24))) &&& 9259542123273814144 : Nat) : Int) == 0) = false := by rw [beq_eq_false_iff_ne]; omega
                simp only [go_sem, ↓reduceIte, Nat.reduceEqDiff, Nat.reduceLT, reduceCtorEq, Nat.reduceAdd, Nat.zero_add, decide_eq_true_eq, decide_eq_false_iff_not, Nat.reduceLeDiff, Nat.reduceBEq, Nat.reduceBNe, beq_self_eq_true, Int.reduceNeg, Int.reduceToNat, Nat.lt_add_one, o2.1, o3.1, o4.1, a3, b3]
                exact fin _ r (by simp only [go_sem, ↓reduceIte, Nat.reduceEqDiff, Nat.reduceLT, reduceCtorEq, Nat.reduceAdd, Nat.zero_add, decide_eq_true_eq, decide_eq_false_iff_not, Nat.reduceLeDiff, Nat.reduceBEq, Nat.reduceBNe, beq_self_eq_true, Int.reduceNeg, Int.reduceToNat, Nat.lt_add_one]) (by simp only [go_sem, ↓reduceIte, Nat.reduceEqDiff, Nat.reduceLT, reduceCtorEq, Nat.reduceAdd, Nat.zero_add, decide_eq_true_eq, decide_eq_false_iff_not, Nat.reduceLeDiff, Nat.reduceBEq, Nat.reduceBNe, beq_self_eq_true, Int.reduceNeg, Int.reduceToNat, Nat.lt_add_one]) (by simp only [go_sem, ↓reduceIte, Nat.reduceEqDiff, Nat.reduceLT, reduceCtorEq, Nat.reduceAdd, Nat.zero_add, decide_eq_true_eq, decide_eq_false_iff_not, Nat.reduceLeDiff, Nat.reduceBEq, Nat.reduceBNe, beq_self_eq_true, Int.reduceNeg, Int.reduceToNat, Nat.lt_add_one]) hr hrl _
            · have d32 : decide ((r.length : Int) > 32) = false := decide_eq_false (by omega)
              simp only [go_sem, ↓reduceIte, Nat.reduceEqDiff, Nat.reduceLT, reduceCtorEq, Nat.reduceAdd, Nat.zero_add, decide_eq_true_eq, decide_eq_false_iff_not, Nat.reduceLeDiff, Nat.reduceBEq, Nat.reduceBNe, beq_self_eq_true, Int.reduceNeg, Int.reduceToNat, Nat.lt_add_one, d32]
              exact fin _ r (by simp only [go_sem, ↓reduceIte, Nat.reduceEqDiff, Nat.reduceLT, reduceCtorEq, Nat.reduceAdd, Nat.zero_add, decide_eq_true_eq, decide_eq_false_iff_not, Nat.reduceLeDiff, Nat.reduceBEq, Nat.reduceBNe, beq_self_eq_true, Int.reduceNeg, Int.reduceToNat, Nat.lt_add_one]) (by simp only [go_sem, ↓reduceIte, Nat.reduceEqDiff, Nat.reduceLT, reduceCtorEq, Nat.reduceAdd, Nat.zero_add, decide_eq_true_eq, decide_eq_false_iff_not, Nat.reduceLeDiff, Nat.reduceBEq, Nat.reduceBNe, beq_self_eq_true, Int.reduceNeg, Int.reduceToNat, Nat.lt_add_one]) (by simp only [go_sem, ↓reduceIte, Nat.reduceEqDiff, Nat.reduceLT, reduceCtorEq, Nat.reduceAdd, Nat.zero_add, decide_eq_true_eq, decide_eq_false_iff_not, Nat.reduceLeDiff, Nat.reduceBEq, Nat.reduceBNe, beq_self_eq_true, Int.reduceNeg, Int.reduceToNat, Nat.lt_add_one]) hr hrl _
          · have b2 : ((((wrd q2 ||| wrd (q2.drop 8)) &&& 9259542123273814144 : Nat) : Int) == 0) = false := by rw [beq_eq_false_iff_ne]; omega
            simp only [go_sem, ↓reduceIte, Nat.reduceEqDiff, Nat.reduceLT, reduceCtorEq, Nat.reduceAdd, Nat.zero_add, decide_eq_true_eq, decide_eq_false_iff_not, Nat.reduceLeDiff, Nat.reduceBEq, Nat.reduceBNe, beq_self_eq_true, Int.reduceNeg, Int.reduceToNat, Nat.lt_add_one, o1.1, a2, b2]
            exact fin _ q2 (by simp only [go_sem, ↓reduceIte, Nat.reduceEqDiff, Nat.reduceLT, reduceCtorEq, Nat.reduceAdd, Nat.zero_add, decide_eq_true_eq, decide_eq_false_iff_not, Nat.reduceLeDiff, Nat.reduceBEq, Nat.reduceBNe, beq_self_eq_true, Int.reduceNeg, Int.reduceToNat, Nat.lt_add_one]) (by simp only [go_sem, ↓reduceIte, Nat.reduceEqDiff, Nat.reduceLT, reduceCtorEq, Nat.reduceAdd, Nat.zero_add, decide_eq_true_eq, decide_eq_false_iff_not, Nat.reduceLeDiff, Nat.reduceBEq, Nat.reduceBNe, beq_self_eq_true, Int.reduceNeg, Int.reduceToNat, Nat.lt_add_one]) (by simp only [go_sem, ↓reduceIte, Nat.reduceEqDiff, Nat.reduceLT, reduceCtorEq, Nat.reduceAdd, Nat.zero_add, decide_eq_true_eq, decide_eq_false_iff_not, Nat.reduceLeDiff, Nat.reduceBEq, Nat.reduceBNe, beq_self_eq_true, Int.reduceNeg, Int.reduceToNat, Nat.lt_add_one]) hq2 (by omega) _
        · have d16 : decide ((q2.length : Int) > 16) = false := decide_eq_false (by omega)
          simp only [go_sem, ↓reduceIte, Nat.reduceEqDiff, Nat.reduceLT, reduceCtorEq, Nat.reduceAdd, Nat.zero_add, decide_eq_true_eq, decide_eq_false_iff_not, Nat.reduceLeDiff, Nat.reduceBEq, Nat.reduceBNe, beq_self_eq_true, Int.reduceNeg, Int.reduceToNat, Nat.lt_add_one, a1, b1, hq2e, d16]
          exact ⟨⟨by omega, by omega⟩, fin _ q2 (by simp only [go_sem, ↓reduceIte, Nat.reduceEqDiff, Nat.reduceLT, reduceCtorEq, Nat.reduceAdd, Nat.zero_add, decide_eq_true_eq, decide_eq_false_iff_not, Nat.reduceLeDiff, Nat.reduceBEq, Nat.reduceBNe, beq_self_eq_true, Int.reduceNeg, Int.reduceToNat, Nat.lt_add_one]) (by simp only [go_sem, ↓reduceIte, Nat.reduceEqDiff, Nat.reduceLT, reduceCtorEq, Nat.reduceAdd, Nat.zero_add, decide_eq_true_eq, decide_eq_false_iff_not, Nat.reduceLeDiff, Nat.reduceBEq, Nat.reduceBNe, beq_self_eq_true, Int.reduceNeg, Int.reduceToNat, Nat.lt_add_one]) (by simp only [go_sem, ↓reduceIte, Nat.reduceEqDiff, Nat.reduceLT, reduceCtorEq, Nat.reduceAdd, Nat.zero_add, decide_eq_true_eq, decide_eq_false_iff_not, Nat.reduceLeDiff, Nat.reduceBEq, Nat.reduceBNe, beq_self_eq_true, Int.reduceNeg, Int.reduceToNat, Nat.lt_add_one]) hq2 (by omega) _⟩
      · have b1 : (((wrd (q.drop 1) &&& 9259542123273814144 : Nat) : Int) == 0) = false := by rw [beq_eq_false_iff_ne]; omega
        simp only [go_sem, ↓reduceIte, Nat.reduceEqDiff, Nat.reduceLT, reduceCtorEq, Nat.reduceAdd, Nat.zero_add, decide_eq_true_eq, decide_eq_false_iff_not, Nat.reduceLeDiff, Nat.reduceBEq, Nat.reduceBNe, beq_self_eq_true, Int.reduceNeg, Int.reduceToNat, Nat.lt_add_one, a1, b1]
        exact fin _ (q.drop 1) (by simp only [go_sem, ↓reduceIte, Nat.reduceEqDiff, Nat.reduceLT, reduceCtorEq, Nat.reduceAdd, Nat.zero_add, decide_eq_true_eq, decide_eq_false_iff_not, Nat.reduceLeDiff, Nat.reduceBEq, Nat.reduceBNe, beq_self_eq_true, Int.reduceNeg, Int.reduceToNat, Nat.lt_add_one]) (by simp only [go_sem, ↓reduceIte, Nat.reduceEqDiff, Nat.reduceLT, reduceCtorEq, Nat.reduceAdd, Nat.zero_add, decide_eq_true_eq, decide_eq_false_iff_not, Nat.reduceLeDiff, Nat.reduceBEq, Nat.reduceBNe, beq_self_eq_true, Int.reduceNeg, Int.reduceToNat, Nat.lt_add_one]) (by simp only [go_sem, ↓reduceIte, Nat.reduceEqDiff, Nat.reduceLT, reduceCtorEq, Nat.reduceAdd, Nat.zero_add, decide_eq_true_eq, decide_eq_false_iff_not, Nat.reduceLeDiff, Nat.reduceBEq, Nat.reduceBNe, beq_self_eq_true, Int.reduceNeg, Int.reduceToNat, Nat.lt_add_one]) hq1 (by omega) _
    · have d8 : decide (((q.drop 1).length : Int) > 8) = false := by simp only [decide_eq_false_iff_not]; omega
      simp only [go_sem, ↓reduceIte, Nat.reduceEqDiff, Nat.reduceLT, reduceCtorEq, Nat.reduceAdd, Nat.zero_add, decide_eq_true_eq, decide_eq_false_iff_not, Nat.reduceLeDiff, Nat.reduceBEq, Nat.reduceBNe, beq_self_eq_true, Int.reduceNeg, Int.reduceToNat, Nat.lt_add_one, d0, da, d8]
      exact ⟨by omega, by omega, ⟨by omega, by omega⟩, fin _ (q.drop 1) (by simp only [go_sem, ↓reduceIte, Nat.reduceEqDiff, Nat.reduceLT, reduceCtorEq, Nat.reduceAdd, Nat.zero_add, decide_eq_true_eq, decide_eq_false_iff_not, Nat.reduceLeDiff, Nat.reduceBEq, Nat.reduceBNe, beq_self_eq_true, Int.reduceNeg, Int.reduceToNat, Nat.lt_add_one]) (by simp only [go_sem, ↓reduceIte, Nat.reduceEqDiff, Nat.reduceLT, reduceCtorEq, Nat.reduceAdd, Nat.zero_add, decide_eq_true_eq, decide_eq_false_iff_not, Nat.reduceLeDiff, Nat.reduceBEq, Nat.reduceBNe, beq_self_eq_true, Int.reduceNeg, Int.reduceToNat, Nat.lt_add_one]) (by simp only [go_sem, ↓reduceIte, Nat.reduceEqDiff, Nat.reduceLT, reduceCtorEq, Nat.reduceAdd, Nat.zero_add, decide_eq_true_eq, decide_eq_false_iff_not, Nat.reduceLeDiff, Nat.reduceBEq, Nat.reduceBNe, beq_self_eq_true, Int.reduceNeg, Int.reduceToNat, Nat.lt_add_one]) hq1 (by omega) _⟩
  · have da : decide (((nth q 0).toNat : Int) < 128) = false := by simp; omega
    have hf := first_lt (nth q 0).toNat
    have e1 := ld_first hx
    have e2 := and7 hf
    have e3 : IntKind.i64.wrap ((Lib.firstT (nth q 0).toNat % 8 : Nat) : Int) = ((Lib.firstT (nth q 0).toNat % 8 : Nat) : Int) := wi (by omega) (by omega)
    have e4 : b_shr .u8 (Lib.firstT (nth q 0).toNat : Int) 4 = ((Lib.firstT (nth q 0).toNat / 16 : Nat) : Int) := shr_nat .u8 (x := Lib.firstT (nth q 0).toNat) (s := 4) (by decide)
    have e5 := ld_acc (i := Lib.firstT (nth q 0).toNat / 16) (by omega)
    have bad : run1 q = none → ∀ s1 : St, get s1.env 2 = .bool false → PDone [.tmp 2] (.bool (uv s)) .ret s1 := fun hr s1 hg => by
      rw [← hq, uv_bad (by omega) ha hr]
      exact pdone [] (by simp only [iret, ires, ires1, frzs, hg, okRes, ↓reduceIte]) rfl
    have good : ∀ k, run1 q = some k → uv (q.drop k) = uv s ∧ (q.drop k).length < q.length := fun k hk => by
      have := run1_pos hk
      exact ⟨by rw [← uv_run (by omega) ha hk]; exact hq, by simp; omega⟩
    by_cases z2 : Lib.firstT (nth q 0).toNat % 8 = 2
    · have b2 : (((Lib.firstT (nth q 0).toNat % 8 : Nat) : Int) == 2) = true := by rw [z2]; rfl
      have r2 := run2 z2
      simp (config := { maxSteps := 1000000 }) only [go_sem, ↓reduceIte, Nat.reduceEqDiff, Nat.reduceLT, reduceCtorEq, Nat.reduceAdd, Nat.zero_add, decide_eq_true_eq, decide_eq_false_iff_not, Nat.reduceLeDiff, Nat.reduceBEq, Nat.reduceBNe, beq_self_eq_true, Int.reduceNeg, Int.reduceToNat, Nat.lt_add_one, d0, da, e1, e2, e3, e4, e5, b2]
      exact ⟨by omega, by omega, ⟨by omega, by omega⟩, by decide, ⟨by omega, by omega⟩, fun h1 => bad (by rw [r2, if_neg (by omega)]) _ (by simp only [go_sem, ↓reduceIte, Nat.reduceEqDiff, Nat.reduceLT, reduceCtorEq, Nat.reduceAdd, Nat.zero_add, decide_eq_true_eq, decide_eq_false_iff_not, Nat.reduceLeDiff, Nat.reduceBEq, Nat.reduceBNe, beq_self_eq_true, Int.reduceNeg, Int.reduceToNat, Nat.lt_add_one]), fun h1 => ⟨by omega, by omega, fun h2 => bad (by rw [r2, if_neg (by omega)]) _ (by simp only [go_sem, ↓reduceIte, Nat.reduceEqDiff, Nat.reduceLT, reduceCtorEq, Nat.reduceAdd, Nat.zero_add, decide_eq_true_eq, decide_eq_false_iff_not, Nat.reduceLeDiff, Nat.reduceBEq, Nat.reduceBNe, beq_self_eq_true, Int.reduceNeg, Int.reduceToNat, Nat.lt_add_one]), fun h2 => ⟨by omega, by omega, fun h3 => bad (by rw [r2, if_neg (by omega)]) _ (by simp only [go_sem, ↓reduceIte, Nat.reduceEqDiff, Nat.reduceLT, reduceCtorEq, Nat.reduceAdd, Nat.zero_add, decide_eq_true_eq, decide_eq_false_iff_not, Nat.reduceLeDiff, Nat.reduceBEq, Nat.reduceBNe, beq_self_eq_true, Int.reduceNeg, Int.reduceToNat, Nat.lt_add_one]), fun h3 => ⟨⟨by omega, by omega⟩, fin _ (q.drop 2) (by simp only [go_sem, ↓reduceIte, Nat.reduceEqDiff, Nat.reduceLT, reduceCtorEq, Nat.reduceAdd, Nat.zero_add, decide_eq_true_eq, decide_eq_false_iff_not, Nat.reduceLeDiff, Nat.reduceBEq, Nat.reduceBNe, beq_self_eq_true, Int.reduceNeg, Int.reduceToNat, Nat.lt_add_one]) (by simp only [go_sem, ↓reduceIte, Nat.reduceEqDiff, Nat.reduceLT, reduceCtorEq, Nat.reduceAdd, Nat.zero_add, decide_eq_true_eq, decide_eq_false_iff_not, Nat.reduceLeDiff, Nat.reduceBEq, Nat.reduceBNe, beq_self_eq_true, Int.reduceNeg, Int.reduceToNat, Nat.lt_add_one]) (by simp only [go_sem, ↓reduceIte, Nat.reduceEqDiff, Nat.reduceLT, reduceCtorEq, Nat.reduceAdd, Nat.zero_add, decide_eq_true_eq, decide_eq_false_iff_not, Nat.reduceLeDiff, Nat.reduceBEq, Nat.reduceBNe, beq_self_eq_true, Int.reduceNeg, Int.reduceToNat, Nat.lt_add_one]) (good 2 (by rw [r2, if_pos (by omega)])).1 (good 2 (by rw [r2, if_pos (by omega)])).2 _⟩⟩⟩⟩
    have n2 : (((Lib.firstT (nth q 0).toNat % 8 : Nat) : Int) == 2) = false := by rw [beq_eq_false_iff_ne]; omega
    by_cases z3 : Lib.firstT (nth q 0).toNat % 8 = 3
    · have b3 : (((Lib.firstT (nth q 0).toNat % 8 : Nat) : Int) == 3) = true := by rw [z3]; rfl
      have r3 := run3 z3
      simp (config := { maxSteps := 1000000 }) only [go_sem, ↓reduceIte, Nat.reduceEqDiff, Nat.reduceLT, reduceCtorEq, Nat.reduceAdd, Nat.zero_add, decide_eq_true_eq, decide_eq_false_iff_not, Nat.reduceLeDiff, Nat.reduceBEq, Nat.reduceBNe, beq_self_eq_true, Int.reduceNeg, Int.reduceToNat, Nat.lt_add_one, d0, da, e1, e2, e3, e4, e5, b3, n2]
      exact ⟨by omega, by omega, ⟨by omega, by omega⟩, by decide, ⟨by omega, by omega⟩, fun h1 => bad (by rw [r3, if_neg (by omega)]) _ (by simp only [go_sem, ↓reduceIte, Nat.reduceEqDiff, Nat.reduceLT, reduceCtorEq, Nat.reduceAdd, Nat.zero_add, decide_eq_true_eq, decide_eq_false_iff_not, Nat.reduceLeDiff, Nat.reduceBEq, Nat.reduceBNe, beq_self_eq_true, Int.reduceNeg, Int.reduceToNat, Nat.lt_add_one]), fun h1 => ⟨by omega, by omega, fun h2 => bad (by rw [r3, if_neg (by omega)]) _ (by simp only [go_sem, ↓reduceIte, Nat.reduceEqDiff, Nat.reduceLT, reduceCtorEq, Nat.reduceAdd, Nat.zero_add, decide_eq_true_eq, decide_eq_false_iff_not, Nat.reduceLeDiff, Nat.reduceBEq, Nat.reduceBNe, beq_self_eq_true, Int.reduceNeg, Int.reduceToNat, Nat.lt_add_one]), fun h2 => ⟨by omega, by omega, fun h3 => bad (by rw [r3, if_neg (by omega)]) _ (by simp only [go_sem, ↓reduceIte, Nat.reduceEqDiff, Nat.reduceLT, reduceCtorEq, Nat.reduceAdd, Nat.zero_add, decide_eq_true_eq, decide_eq_false_iff_not, Nat.reduceLeDiff, Nat.reduceBEq, Nat.reduceBNe, beq_self_eq_true, Int.reduceNeg, Int.reduceToNat, Nat.lt_add_one]), fun h3 => ⟨by omega, by omega, fun h4 => bad (by rw [r3, if_neg (by omega)]) _ (by simp only [go_sem, ↓reduceIte, Nat.reduceEqDiff, Nat.reduceLT, reduceCtorEq, Nat.reduceAdd, Nat.zero_add, decide_eq_true_eq, decide_eq_false_iff_not, Nat.reduceLeDiff, Nat.reduceBEq, Nat.reduceBNe, beq_self_eq_true, Int.reduceNeg, Int.reduceToNat, Nat.lt_add_one]), fun h4 => ⟨by omega, by omega, fun h5 => bad (by rw [r3, if_neg (by omega)]) _ (by simp only [go_sem, ↓reduceIte, Nat.reduceEqDiff, Nat.reduceLT, reduceCtorEq, Nat.reduceAdd, Nat.zero_add, decide_eq_true_eq, decide_eq_false_iff_not, Nat.reduceLeDiff, Nat.reduceBEq, Nat.reduceBNe, beq_self_eq_true, Int.reduceNeg, Int.reduceToNat, Nat.lt_add_one]), fun h5 => ⟨⟨by omega, by omega⟩, fin _ (q.drop 3) (by simp only [go_sem, ↓reduceIte, Nat.reduceEqDiff, Nat.reduceLT, reduceCtorEq, Nat.reduceAdd, Nat.zero_add, decide_eq_true_eq, decide_eq_false_iff_not, Nat.reduceLeDiff, Nat.reduceBEq, Nat.reduceBNe, beq_self_eq_true, Int.reduceNeg, Int.reduceToNat, Nat.lt_add_one]) (by simp only [go_sem, ↓reduceIte, Nat.reduceEqDiff, Nat.reduceLT, reduceCtorEq, Nat.reduceAdd, Nat.zero_add, decide_eq_true_eq, decide_eq_false_iff_not, Nat.reduceLeDiff, Nat.reduceBEq, Nat.reduceBNe, beq_self_eq_true, Int.reduceNeg, Int.reduceToNat, Nat.lt_add_one]) (by simp only [go_sem, ↓reduceIte, Nat.reduceEqDiff, Nat.reduceLT, reduceCtorEq, Nat.reduceAdd, Nat.zero_add, decide_eq_true_eq, decide_eq_false_iff_not, Nat.reduceLeDiff, Nat.reduceBEq, Nat.reduceBNe, beq_self_eq_true, Int.reduceNeg, Int.reduceToNat, Nat.lt_add_one]) (good 3 (by rw [r3, if_pos (by omega)])).1 (good 3 (by rw [r3, if_pos (by omega)])).2 _⟩⟩⟩⟩⟩⟩
    have n3 : (((Lib.firstT (nth q 0).toNat % 8 : Nat) : Int) == 3) = false := by rw [beq_eq_false_iff_ne]; omega
    by_cases z4 : Lib.firstT (nth q 0).toNat % 8 = 4
    · have b4 : (((Lib.firstT (nth q 0).toNat % 8 : Nat) : Int) == 4) = true := by rw [z4]; rfl
      have r4 := run4 z4
      simp (config := { maxSteps := 1000000 }) only [go_sem, ↓reduceIte, Nat.reduceEqDiff, Nat.reduceLT, reduceCtorEq, Nat.reduceAdd, Nat.zero_add, decide_eq_true_eq, decide_eq_false_iff_not, Nat.reduceLeDiff, Nat.reduceBEq, Nat.reduceBNe, beq_self_eq_true, Int.reduceNeg, Int.reduceToNat, Nat.lt_add_one, d0, da, e1, e2, e3, e4, e5, b4, n2, n3]
      exact ⟨by omega, by omega, ⟨by omega, by omega⟩, by decide, ⟨by omega, by omega⟩, fun h1 => bad (by rw [r4, if_neg (by omega)]) _ (by simp only [go_sem, ↓reduceIte, Nat.reduceEqDiff, Nat.reduceLT, reduceCtorEq, Nat.reduceAdd, Nat.zero_add, decide_eq_true_eq, decide_eq_false_iff_not, Nat.reduceLeDiff, Nat.reduceBEq, Nat.reduceBNe, beq_self_eq_true, Int.reduceNeg, Int.reduceToNat, Nat.lt_add_one]), fun h1 => ⟨by omega, by omega, fun h2 => bad (by rw [r4, if_neg (by omega)]) _ (by simp only [go_sem, ↓reduceIte, Nat.reduceEqDiff, Nat.reduceLT, reduceCtorEq, Nat.reduceAdd, Nat.zero_add, decide_eq_true_eq, decide_eq_false_iff_not, Nat.reduceLeDiff, Nat.reduceBEq, Nat.reduceBNe, beq_self_eq_true, Int.reduceNeg, Int.reduceToNat, Nat.lt_add_one]), fun h2 => ⟨by omega, by omega, fun h3 => bad (by rw [r4, if_neg (by omega)]) _ (by simp only [go_sem, ↓reduceIte, Nat.reduceEqDiff, Nat.reduceLT, reduceCtorEq, Nat.reduceAdd, Nat.zero_add, decide_eq_true_eq, decide_eq_false_iff_not, Nat.reduceLeDiff, Nat.reduceBEq, Nat.reduceBNe, beq_self_eq_true, Int.reduceNeg, Int.reduceToNat, Nat.lt_add_one]), fun h3 => ⟨by omega, by omega, fun h4 => bad (by rw [r4, if_neg (by omega)]) _ (by simp only [go_sem, ↓reduceIte, Nat.reduceEqDiff, Nat.reduceLT, reduceCtorEq, Nat.reduceAdd, Nat.zero_add, decide_eq_true_eq, decide_eq_false_iff_not, Nat.reduceLeDiff, Nat.reduceBEq, Nat.reduceBNe, beq_self_eq_true, Int.reduceNeg, Int.reduceToNat, Nat.lt_add_one]), fun h4 => ⟨by omega, by omega, fun h5 => bad (by rw [r4, if_neg (by omega)]) _ (by simp only [go_sem, ↓reduceIte, Nat.reduceEqDiff, Nat.reduceLT, reduceCtorEq, Nat.reduceAdd, Nat.zero_add, decide_eq_true_eq, decide_eq_false_iff_not, Nat.reduceLeDiff, Nat.reduceBEq, Nat.reduceBNe, beq_self_eq_true, Int.reduceNeg, Int.reduceToNat, Nat.lt_add_one]), fun h5 => ⟨by omega, by omega, fun h6 => bad (by rw [r4, if_neg (by omega)]) _ (by simp only [go_sem, ↓reduceIte, Nat.reduceEqDiff, Nat.reduceLT, reduceCtorEq, Nat.reduceAdd, Nat.zero_add, decide_eq_true_eq, decide_eq_false_iff_not, Nat.reduceLeDiff, Nat.reduceBEq, Nat.reduceBNe, beq_self_eq_true, Int.reduceNeg, Int.reduceToNat, Nat.lt_add_one]), fun h6 => ⟨by omega, by omega, fun h7 => bad (by rw [r4, if_neg (by omega)]) _ (by simp only [go_sem, ↓reduceIte, Nat.reduceEqDiff, Nat.reduceLT, reduceCtorEq, Nat.reduceAdd, Nat.zero_add, decide_eq_true_eq, decide_eq_false_iff_not, Nat.reduceLeDiff, Nat.reduceBEq, Nat.reduceBNe, beq_self_eq_true, Int.reduceNeg, Int.reduceToNat, Nat.lt_add_one]), fun h7 => ⟨⟨by omega, by omega⟩, fin _ (q.drop 4) (by simp only [go_sem, ↓reduceIte, Nat.reduceEqDiff, Nat.reduceLT, reduceCtorEq, Nat.reduceAdd, Nat.zero_add, decide_eq_true_eq, decide_eq_false_iff_not, Nat.reduceLeDiff, Nat.reduceBEq, Nat.reduceBNe, beq_self_eq_true, Int.reduceNeg, Int.reduceToNat, Nat.lt_add_one]) (by simp only [go_sem, ↓reduceIte, Nat.reduceEqDiff, Nat.reduceLT, reduceCtorEq, Nat.reduceAdd, Nat.zero_add, decide_eq_true_eq, decide_eq_false_iff_not, Nat.reduceLeDiff, Nat.reduceBEq, Nat.reduceBNe, beq_self_eq_true, Int.reduceNeg, Int.reduceToNat, Nat.lt_add_one]) (by simp only [go_sem, ↓reduceIte, Nat.reduceEqDiff, Nat.reduceLT, reduceCtorEq, Nat.reduceAdd, Nat.zero_add, decide_eq_true_eq, decide_eq_false_iff_not, Nat.reduceLeDiff, Nat.reduceBEq, Nat.reduceBNe, beq_self_eq_true, Int.reduceNeg, Int.reduceToNat, Nat.lt_add_one]) (good 4 (by rw [r4, if_pos (by omega)])).1 (good 4 (by rw [r4, if_pos (by omega)])).2 _⟩⟩⟩⟩⟩⟩⟩⟩
    have n4 : (((Lib.firstT (nth q 0).toNat % 8 : Nat) : Int) == 4) = false := by rw [beq_eq_false_iff_ne]; omega
    simp only [go_sem, ↓reduceIte, Nat.reduceEqDiff, Nat.reduceLT, reduceCtorEq, Nat.reduceAdd, Nat.zero_add, decide_eq_true_eq, decide_eq_false_iff_not, Nat.reduceLeDiff, Nat.reduceBEq, Nat.reduceBNe, beq_self_eq_true, Int.reduceNeg, Int.reduceToNat, Nat.lt_add_one, d0, da, e1, e2, e3, e4, e5, n2, n3, n4]
    exact ⟨by omega, by omega, ⟨by omega, by omega⟩, by decide, ⟨by omega, by omega⟩, bad (runN z2 z3 z4) _ (by simp only [go_sem, ↓reduceIte, Nat.reduceEqDiff, Nat.reduceLT, reduceCtorEq, Nat.reduceAdd, Nat.zero_add, decide_eq_true_eq, decide_eq_false_iff_not, Nat.reduceLeDiff, Nat.reduceBEq, Nat.reduceBNe, beq_self_eq_true, Int.reduceNeg, Int.reduceToNat, Nat.lt_add_one])⟩
end Go.Proofs.YtkejmhpodhbeeaaDoor
