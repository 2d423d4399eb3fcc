/-
  Chapter 9, walks: the laws NestWithin and NestFronts.
-/
import Derived.Test.YtlmnepdibhdpaaaWh
import Derived.Test.YtlmnepdibhdpaaaF
set_option linter.unusedSimpArgs false
set_option maxRecDepth 100000
set_option maxHeartbeats 4000000
namespace Go.Proofs.Ytlmnepdibhdpaaa
open Go Go.Mw

theorem wi0 : IntKind.i64.wrap 0 = 0 := by decide

theorem t2 : decide ((-1 : Int) < -1) = false := by decide
theorem t3 : decide ((-1 : Int) ≥ 0) = false := by decide
theorem t4 : decide ((-1 : Int) < 0) = true := by decide

theorem w_within (B : List Ins) : PCalls Try.prog 6 [.sl 9 (B.map Ins.row)] (.bool true) := by
  refine pfun_sound (ic := F_law09_NestWithin.body) mixed c_law09_NestWithin rfl rfl ?_
  simp only [F_law09_NestWithin, go_sem, ↓reduceIte, Nat.reduceEqDiff, Nat.reduceLT, reduceCtorEq, Nat.reduceAdd, Nat.zero_add, decide_eq_true_eq, decide_eq_false_iff_not, Nat.reduceLeDiff, Nat.reduceBEq, Nat.reduceBNe, beq_self_eq_true, Int.reduceNeg, Int.reduceToNat, Nat.lt_add_one]
  refine ⟨fun h => call_same s_alive (by simp [go_sem]) ?_, fun h => call_same (s_check B (by omega)) (by simp [go_sem]) ?_⟩
  · simp only [go_sem, ↓reduceIte, Nat.reduceEqDiff, Nat.reduceLT, reduceCtorEq, Nat.reduceAdd, Nat.zero_add, decide_eq_true_eq, decide_eq_false_iff_not, Nat.reduceLeDiff, Nat.reduceBEq, Nat.reduceBNe, beq_self_eq_true, Int.reduceNeg, Int.reduceToNat, Nat.lt_add_one]
    refine pdone [] ?_ rfl
    simp [go_sem]
  have hn : B.length ≤ 200 := by omega
  by_cases hg : (chk B).2 = 0
  · have hg1 : ((chk B).2 != 0) = false := by simp [hg]
    have hG := (good_iff B).1 hg
    have hor : ∀ l, orNil B l = .sl 1 (l.map ri) := fun l => by simp [orNil, hg]
    simp only [go_sem, ↓reduceIte, Nat.reduceEqDiff, Nat.reduceLT, reduceCtorEq, Nat.reduceAdd, Nat.zero_add, decide_eq_true_eq, decide_eq_false_iff_not, Nat.reduceLeDiff, Nat.reduceBEq, Nat.reduceBNe, beq_self_eq_true, Int.reduceNeg, Int.reduceToNat, Nat.lt_add_one, hg1]
    refine call_same (s_ends B (by omega)) (by simp [go_sem]) ?_
    simp only [go_sem, ↓reduceIte, Nat.reduceEqDiff, Nat.reduceLT, reduceCtorEq, Nat.reduceAdd, Nat.zero_add, decide_eq_true_eq, decide_eq_false_iff_not, Nat.reduceLeDiff, Nat.reduceBEq, Nat.reduceBNe, beq_self_eq_true, Int.reduceNeg, Int.reduceToNat, Nat.lt_add_one]
    refine call_same (s_elses B (by omega)) (by simp [go_sem]) ?_
    simp only [go_sem, ↓reduceIte, Nat.reduceEqDiff, Nat.reduceLT, reduceCtorEq, Nat.reduceAdd, Nat.zero_add, decide_eq_true_eq, decide_eq_false_iff_not, Nat.reduceLeDiff, Nat.reduceBEq, Nat.reduceBNe, beq_self_eq_true, Int.reduceNeg, Int.reduceToNat, Nat.lt_add_one]
    refine call_same (s_depths B (by omega)) (by simp [go_sem]) ?_
    simp only [go_sem, ↓reduceIte, Nat.reduceEqDiff, Nat.reduceLT, reduceCtorEq, Nat.reduceAdd, Nat.zero_add, decide_eq_true_eq, decide_eq_false_iff_not, Nat.reduceLeDiff, Nat.reduceBEq, Nat.reduceBNe, beq_self_eq_true, Int.reduceNeg, Int.reduceToNat, Nat.lt_add_one]
    refine call_same (s_heads B (by omega)) (by simp [go_sem]) ?_
    have hl1 := endsA_len B B.length
    have hl2 := elsesA_len B B.length
    have hl3 := depthsA_len B B.length
    have hl4 := headsA_len B B.length
    simp only [go_sem, ↓reduceIte, Nat.reduceEqDiff, Nat.reduceLT, reduceCtorEq, Nat.reduceAdd, Nat.zero_add, decide_eq_true_eq, decide_eq_false_iff_not, Nat.reduceLeDiff, Nat.reduceBEq, Nat.reduceBNe, beq_self_eq_true, Int.reduceNeg, Int.reduceToNat, Nat.lt_add_one, hor, hl1, hl2, hl3, hl4, bne_self_eq_false, List.length_map]
    refine loop_rule (fun i : Nat => ⟨[(9, .int .i64 i), (8, .sl 1 ((headsA B B.length).map ri)), (7, .sl 1 ((depthsA B B.length).map ri)), (6, .sl 1 ((elsesA B B.length).map ri)), (5, .sl 1 ((endsA B B.length).map ri)), (2, .bool false), (0, .sl 9 (B.map Ins.row))], []⟩)
      (fun i => i ≤ B.length) (fun i => B.length - i) 0 (Nat.zero_le _) (Wk.of ?_ ?_) ?_
    · simp [go_sem, hor]
    · simp [go_sem]
    intro i hi
    replace hi : i ≤ B.length := hi
    rcases Nat.lt_or_ge i B.length with hlt | hge
    · have hd1 : decide ((i : Int) < (B.length : Int)) = true := by simp <;> omega
      have hwi := wi (n := (i : Int) + 1) (by omega) (by omega)
      have e1 := nth_headsA (B := B) (n := B.length) hlt
      have e2 := nth_depthsA (B := B) (n := B.length) hlt
      rcases within_head hG hlt with ⟨a1, a2⟩ | ⟨j, a1, a2, a3, a4⟩
      · rcases within_end hG hlt with b1 | ⟨e, b1, b2, b3, b4, b5⟩
        · rcases within_else hG hlt with c1 | ⟨f, c1, c2, c3, c4, c5⟩
          · have f1 : decide ((-1 : Int) ≥ (i : Int)) = false := by simp <;> omega
            have f2 : (((rnd B i).length : Int) != 1) = false := by simp [a2]
            simp (config := { maxSteps := 1000000 }) only [go_sem, ↓reduceIte, Nat.reduceEqDiff, Nat.reduceLT, reduceCtorEq, Nat.reduceAdd, Nat.zero_add, decide_eq_true_eq, decide_eq_false_iff_not, Nat.reduceLeDiff, Nat.reduceBEq, Nat.reduceBNe, beq_self_eq_true, Int.reduceNeg, Int.reduceToNat, Nat.lt_add_one, hd1, e1, e2, hl1, hl2, hl3, hl4, hwi, a1, f1, f2, t2, t3, t4, b1, t3, c1, t3]
            repeat (with_reducible refine And.intro (by omega) ?_)
            refine klp_n (i + 1) (show i + 1 ≤ B.length by omega) (show B.length - (i + 1) < B.length - i by omega) (Wk.of ?_ ?_) <;> simp [go_sem]
          · omega
        · rcases within_else hG hlt with c1 | ⟨f, c1, c2, c3, c4, c5⟩
          · have f1 : decide ((-1 : Int) ≥ (i : Int)) = false := by simp <;> omega
            have f2 : (((rnd B i).length : Int) != 1) = false := by simp [a2]
            have g1 : decide ((e : Int) ≥ 0) = true := by simp
            have g2 : decide ((e : Int) ≤ (i : Int)) = false := by simp <;> omega
            have g3 : decide ((e : Int) ≥ (B.length : Int)) = false := by simp <;> omega
            have g4 := nth_headsA (B := B) (n := B.length) b3
            simp (config := { maxSteps := 1000000 }) only [go_sem, ↓reduceIte, Nat.reduceEqDiff, Nat.reduceLT, reduceCtorEq, Nat.reduceAdd, Nat.zero_add, decide_eq_true_eq, decide_eq_false_iff_not, Nat.reduceLeDiff, Nat.reduceBEq, Nat.reduceBNe, beq_self_eq_true, Int.reduceNeg, Int.reduceToNat, Nat.lt_add_one, hd1, e1, e2, hl1, hl2, hl3, hl4, hwi, a1, f1, f2, t2, t3, t4, b1, g1, g2, g3, g4, b4, b5, bne_self_eq_false, c1, t3]
            repeat (with_reducible refine And.intro (by omega) ?_)
            refine klp_n (i + 1) (show i + 1 ≤ B.length by omega) (show B.length - (i + 1) < B.length - i by omega) (Wk.of ?_ ?_) <;> simp [go_sem]
          · have f1 : decide ((-1 : Int) ≥ (i : Int)) = false := by simp <;> omega
            have f2 : (((rnd B i).length : Int) != 1) = false := by simp [a2]
            have g1 : decide ((e : Int) ≥ 0) = true := by simp
            have g2 : decide ((e : Int) ≤ (i : Int)) = false := by simp <;> omega
            have g3 : decide ((e : Int) ≥ (B.length : Int)) = false := by simp <;> omega
            have g4 := nth_headsA (B := B) (n := B.length) b3
            have k1 : decide ((f : Int) ≥ 0) = true := by simp
            have k2 : decide ((f : Int) ≤ (i : Int)) = false := by simp <;> omega
            have k4 := nth_headsA (B := B) (n := B.length) c3
            have k3 : decide ((f : Int) ≥ (e : Int)) = false := by simp <;> omega
            simp (config := { maxSteps := 1000000 }) only [go_sem, ↓reduceIte, Nat.reduceEqDiff, Nat.reduceLT, reduceCtorEq, Nat.reduceAdd, Nat.zero_add, decide_eq_true_eq, decide_eq_false_iff_not, Nat.reduceLeDiff, Nat.reduceBEq, Nat.reduceBNe, beq_self_eq_true, Int.reduceNeg, Int.reduceToNat, Nat.lt_add_one, hd1, e1, e2, hl1, hl2, hl3, hl4, hwi, a1, f1, f2, t2, t3, t4, b1, g1, g2, g3, g4, b4, b5, bne_self_eq_false, c1, k1, k2, k4, c5, k3, bne_self_eq_false]
            repeat (with_reducible refine And.intro (by omega) ?_)
            refine klp_n (i + 1) (show i + 1 ≤ B.length by omega) (show B.length - (i + 1) < B.length - i by omega) (Wk.of ?_ ?_) <;> simp [go_sem]
      · rcases within_end hG hlt with b1 | ⟨e, b1, b2, b3, b4, b5⟩
        · rcases within_else hG hlt with c1 | ⟨f, c1, c2, c3, c4, c5⟩
          · have f1 : decide ((j : Int) ≥ (i : Int)) = false := by simp <;> omega
            have f2 : decide ((j : Int) < -1) = false := by simp <;> omega
            have f3 : decide ((j : Int) ≥ 0) = true := by simp
            have f4 : decide (nth (endsA B B.length) j < (i : Int)) = false := by simp <;> omega
            have f5 := nth_depthsA (B := B) (n := B.length) (j := j) (by omega)
            have f9 := rnd_len B j
            have f6 : IntKind.i64.wrap (((rnd B j).length : Int) + 1) = ((rnd B j).length : Int) + 1 := wi (by omega) (by omega)
            have f7 : (((rnd B i).length : Int) != ((rnd B j).length : Int) + 1) = false := by simp [a4]
            have f8 : decide ((j : Int) < 0) = false := by simp
            simp (config := { maxSteps := 1000000 }) only [go_sem, ↓reduceIte, Nat.reduceEqDiff, Nat.reduceLT, reduceCtorEq, Nat.reduceAdd, Nat.zero_add, decide_eq_true_eq, decide_eq_false_iff_not, Nat.reduceLeDiff, Nat.reduceBEq, Nat.reduceBNe, beq_self_eq_true, Int.reduceNeg, Int.reduceToNat, Nat.lt_add_one, hd1, e1, e2, hl1, hl2, hl3, hl4, hwi, a1, f1, f2, f3, f4, f5, f6, f7, f8, b1, t3, c1, t3]
            repeat (with_reducible refine And.intro (by omega) ?_)
            refine klp_n (i + 1) (show i + 1 ≤ B.length by omega) (show B.length - (i + 1) < B.length - i by omega) (Wk.of ?_ ?_) <;> simp [go_sem]
          · omega
        · rcases within_else hG hlt with c1 | ⟨f, c1, c2, c3, c4, c5⟩
          · have f1 : decide ((j : Int) ≥ (i : Int)) = false := by simp <;> omega
            have f2 : decide ((j : Int) < -1) = false := by simp <;> omega
            have f3 : decide ((j : Int) ≥ 0) = true := by simp
            have f4 : decide (nth (endsA B B.length) j < (i : Int)) = false := by simp <;> omega
            have f5 := nth_depthsA (B := B) (n := B.length) (j := j) (by omega)
            have f9 := rnd_len B j
            have f6 : IntKind.i64.wrap (((rnd B j).length : Int) + 1) = ((rnd B j).length : Int) + 1 := wi (by omega) (by omega)
            have f7 : (((rnd B i).length : Int) != ((rnd B j).length : Int) + 1) = false := by simp [a4]
            have f8 : decide ((j : Int) < 0) = false := by simp
            have g1 : decide ((e : Int) ≥ 0) = true := by simp
            have g2 : decide ((e : Int) ≤ (i : Int)) = false := by simp <;> omega
            have g3 : decide ((e : Int) ≥ (B.length : Int)) = false := by simp <;> omega
            have g4 := nth_headsA (B := B) (n := B.length) b3
            simp (config := { maxSteps := 1000000 }) only [go_sem, ↓reduceIte, Nat.reduceEqDiff, Nat.reduceLT, reduceCtorEq, Nat.reduceAdd, Nat.zero_add, decide_eq_true_eq, decide_eq_false_iff_not, Nat.reduceLeDiff, Nat.reduceBEq, Nat.reduceBNe, beq_self_eq_true, Int.reduceNeg, Int.reduceToNat, Nat.lt_add_one, hd1, e1, e2, hl1, hl2, hl3, hl4, hwi, a1, f1, f2, f3, f4, f5, f6, f7, f8, b1, g1, g2, g3, g4, b4, b5, bne_self_eq_false, c1, t3]
            repeat (with_reducible refine And.intro (by omega) ?_)
            refine klp_n (i + 1) (show i + 1 ≤ B.length by omega) (show B.length - (i + 1) < B.length - i by omega) (Wk.of ?_ ?_) <;> simp [go_sem]
          · have f1 : decide ((j : Int) ≥ (i : Int)) = false := by simp <;> omega
            have f2 : decide ((j : Int) < -1) = false := by simp <;> omega
            have f3 : decide ((j : Int) ≥ 0) = true := by simp
            have f4 : decide (nth (endsA B B.length) j < (i : Int)) = false := by simp <;> omega
            have f5 := nth_depthsA (B := B) (n := B.length) (j := j) (by omega)
            have f9 := rnd_len B j
            have f6 : IntKind.i64.wrap (((rnd B j).length : Int) + 1) = ((rnd B j).length : Int) + 1 := wi (by omega) (by omega)
            have f7 : (((rnd B i).length : Int) != ((rnd B j).length : Int) + 1) = false := by simp [a4]
            have f8 : decide ((j : Int) < 0) = false := by simp
            have g1 : decide ((e : Int) ≥ 0) = true := by simp
            have g2 : decide ((e : Int) ≤ (i : Int)) = false := by simp <;> omega
            have g3 : decide ((e : Int) ≥ (B.length : Int)) = false := by simp <;> omega
            have g4 := nth_headsA (B := B) (n := B.length) b3
            have k1 : decide ((f : Int) ≥ 0) = true := by simp
            have k2 : decide ((f : Int) ≤ (i : Int)) = false := by simp <;> omega
            have k4 := nth_headsA (B := B) (n := B.length) c3
            have k3 : decide ((f : Int) ≥ (e : Int)) = false := by simp <;> omega
            simp (config := { maxSteps := 1000000 }) only [go_sem, ↓reduceIte, Nat.reduceEqDiff, Nat.reduceLT, reduceCtorEq, Nat.reduceAdd, Nat.zero_add, decide_eq_true_eq, decide_eq_false_iff_not, Nat.reduceLeDiff, Nat.reduceBEq, Nat.reduceBNe, beq_self_eq_true, Int.reduceNeg, Int.reduceToNat, Nat.lt_add_one, hd1, e1, e2, hl1, hl2, hl3, hl4, hwi, a1, f1, f2, f3, f4, f5, f6, f7, f8, b1, g1, g2, g3, g4, b4, b5, bne_self_eq_false, c1, k1, k2, k4, c5, k3, bne_self_eq_false]
            repeat (with_reducible refine And.intro (by omega) ?_)
            refine klp_n (i + 1) (show i + 1 ≤ B.length by omega) (show B.length - (i + 1) < B.length - i by omega) (Wk.of ?_ ?_) <;> simp [go_sem]
    · have hd1 : decide ((i : Int) < (B.length : Int)) = false := by simp <;> omega
      simp only [go_sem, ↓reduceIte, Nat.reduceEqDiff, Nat.reduceLT, reduceCtorEq, Nat.reduceAdd, Nat.zero_add, decide_eq_true_eq, decide_eq_false_iff_not, Nat.reduceLeDiff, Nat.reduceBEq, Nat.reduceBNe, beq_self_eq_true, Int.reduceNeg, Int.reduceToNat, Nat.lt_add_one, hd1]
      refine call_same s_alive (by simp [go_sem]) ?_
      simp only [go_sem, ↓reduceIte, Nat.reduceEqDiff, Nat.reduceLT, reduceCtorEq, Nat.reduceAdd, Nat.zero_add, decide_eq_true_eq, decide_eq_false_iff_not, Nat.reduceLeDiff, Nat.reduceBEq, Nat.reduceBNe, beq_self_eq_true, Int.reduceNeg, Int.reduceToNat, Nat.lt_add_one]
      refine pdone [] ?_ rfl
      simp [go_sem]
  · have hg1 : ((chk B).2 != 0) = true := by simp [hg]
    have hor : ∀ l, orNil B l = .nl := fun l => by simp [orNil, hg]
    simp only [go_sem, ↓reduceIte, Nat.reduceEqDiff, Nat.reduceLT, reduceCtorEq, Nat.reduceAdd, Nat.zero_add, decide_eq_true_eq, decide_eq_false_iff_not, Nat.reduceLeDiff, Nat.reduceBEq, Nat.reduceBNe, beq_self_eq_true, Int.reduceNeg, Int.reduceToNat, Nat.lt_add_one, hg1]
    refine call_same (s_ends B (by omega)) (by simp [go_sem]) ?_
    simp only [go_sem, ↓reduceIte, Nat.reduceEqDiff, Nat.reduceLT, reduceCtorEq, Nat.reduceAdd, Nat.zero_add, decide_eq_true_eq, decide_eq_false_iff_not, Nat.reduceLeDiff, Nat.reduceBEq, Nat.reduceBNe, beq_self_eq_true, Int.reduceNeg, Int.reduceToNat, Nat.lt_add_one, hor]
    refine call_same (s_elses B (by omega)) (by simp [go_sem]) ?_
    simp only [go_sem, ↓reduceIte, Nat.reduceEqDiff, Nat.reduceLT, reduceCtorEq, Nat.reduceAdd, Nat.zero_add, decide_eq_true_eq, decide_eq_false_iff_not, Nat.reduceLeDiff, Nat.reduceBEq, Nat.reduceBNe, beq_self_eq_true, Int.reduceNeg, Int.reduceToNat, Nat.lt_add_one, hor]
    refine call_same (s_depths B (by omega)) (by simp [go_sem]) ?_
    simp only [go_sem, ↓reduceIte, Nat.reduceEqDiff, Nat.reduceLT, reduceCtorEq, Nat.reduceAdd, Nat.zero_add, decide_eq_true_eq, decide_eq_false_iff_not, Nat.reduceLeDiff, Nat.reduceBEq, Nat.reduceBNe, beq_self_eq_true, Int.reduceNeg, Int.reduceToNat, Nat.lt_add_one, hor]
    refine call_same (s_heads B (by omega)) (by simp [go_sem]) ?_
    simp only [go_sem, ↓reduceIte, Nat.reduceEqDiff, Nat.reduceLT, reduceCtorEq, Nat.reduceAdd, Nat.zero_add, decide_eq_true_eq, decide_eq_false_iff_not, Nat.reduceLeDiff, Nat.reduceBEq, Nat.reduceBNe, beq_self_eq_true, Int.reduceNeg, Int.reduceToNat, Nat.lt_add_one, hor, Int.natCast_zero, List.length_nil, Int.reduceAdd, wi0, beq_self_eq_true]
    refine call_same s_alive (by simp [go_sem]) ?_
    simp only [go_sem, ↓reduceIte, Nat.reduceEqDiff, Nat.reduceLT, reduceCtorEq, Nat.reduceAdd, Nat.zero_add, decide_eq_true_eq, decide_eq_false_iff_not, Nat.reduceLeDiff, Nat.reduceBEq, Nat.reduceBNe, beq_self_eq_true, Int.reduceNeg, Int.reduceToNat, Nat.lt_add_one]
    refine pdone [] ?_ rfl
    simp [go_sem]
end Go.Proofs.Ytlmnepdibhdpaaa
