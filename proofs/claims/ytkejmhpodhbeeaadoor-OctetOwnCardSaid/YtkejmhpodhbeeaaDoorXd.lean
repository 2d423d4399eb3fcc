/-
  Chapter 2, walks: octet.Reader.
-/
import Derived.Test.YtkejmhpodhbeeaaDoorXb
import Derived.Test.YtkejmhpodhbeeaaDoorO4
set_option linter.unusedSimpArgs false
set_option maxRecDepth 100000
set_option maxHeartbeats 4000000
namespace Go.Proofs.YtkejmhpodhbeeaaDoor
open Go Go.Mw

def ro (m : Bool) (b : List UInt8) (a e : Int) : AObj := ⟨48, 4, [[.bool m, .sl 1 (b.map by_), .int .i64 a, .int .i64 e]], true⟩
theorem ro_ids (m : Bool) (b : List UInt8) (a e : Int) : idsO (ro m b a e) = [] := rfl
/-- A method of a Reader. -/
def RM (f : FuncId) (rest : List AV) (m : Bool) (b : List UInt8) (a e : Int) (r : AV) (a' e' : Int) : Prop :=
  ACalls Tryd.prog f (.mp 1000 4 0 0 :: rest) [(1000, ro m b a e)] (fun id => 1000 ≤ id ∧ id < 2000) (fun r' σ' => r' = r ∧ σ' = [(1000, ro m b a' e')])

theorem s_sound (m : Bool) (b : List UInt8) (a e : Int) : RM n_Poctet_Reader_sound [] m b a e (.bool (m && e == 0)) a e := by
  refine fun_sound (ic := F_Poctet_Reader_sound.body) mixed c_Poctet_Reader_sound rfl rfl ?_
  cases m
  · simp only [F_Poctet_Reader_sound, ro, go_sem, ↓reduceIte, Nat.reduceEqDiff, Nat.reduceLT, reduceCtorEq, Nat.reduceAdd, Nat.zero_add, decide_eq_true_eq, decide_eq_false_iff_not, Nat.reduceLeDiff, Nat.reduceBEq, Nat.reduceBNe, beq_self_eq_true, Int.reduceNeg, Int.reduceToNat, Nat.lt_add_one]
    exact done [] _ [(1000, ro false b a e)] (by simp only [go_sem, ↓reduceIte, Nat.reduceEqDiff, Nat.reduceLT, reduceCtorEq, Nat.reduceAdd, Nat.zero_add, decide_eq_true_eq, decide_eq_false_iff_not, Nat.reduceLeDiff, Nat.reduceBEq, Nat.reduceBNe, beq_self_eq_true, Int.reduceNeg, Int.reduceToNat, Nat.lt_add_one]) (by simp only [go_sem, ↓reduceIte, Nat.reduceEqDiff, Nat.reduceLT, reduceCtorEq, Nat.reduceAdd, Nat.zero_add, decide_eq_true_eq, decide_eq_false_iff_not, Nat.reduceLeDiff, Nat.reduceBEq, Nat.reduceBNe, beq_self_eq_true, Int.reduceNeg, Int.reduceToNat, Nat.lt_add_one, ro]) rfl ⟨rfl, rfl⟩
  · simp only [F_Poctet_Reader_sound, ro, go_sem, ↓reduceIte, Nat.reduceEqDiff, Nat.reduceLT, reduceCtorEq, Nat.reduceAdd, Nat.zero_add, decide_eq_true_eq, decide_eq_false_iff_not, Nat.reduceLeDiff, Nat.reduceBEq, Nat.reduceBNe, beq_self_eq_true, Int.reduceNeg, Int.reduceToNat, Nat.lt_add_one]
    exact done [] _ [(1000, ro true b a e)] (by simp only [go_sem, ↓reduceIte, Nat.reduceEqDiff, Nat.reduceLT, reduceCtorEq, Nat.reduceAdd, Nat.zero_add, decide_eq_true_eq, decide_eq_false_iff_not, Nat.reduceLeDiff, Nat.reduceBEq, Nat.reduceBNe, beq_self_eq_true, Int.reduceNeg, Int.reduceToNat, Nat.lt_add_one]) (by simp only [go_sem, ↓reduceIte, Nat.reduceEqDiff, Nat.reduceLT, reduceCtorEq, Nat.reduceAdd, Nat.zero_add, decide_eq_true_eq, decide_eq_false_iff_not, Nat.reduceLeDiff, Nat.reduceBEq, Nat.reduceBNe, beq_self_eq_true, Int.reduceNeg, Int.reduceToNat, Nat.lt_add_one, ro]) rfl ⟨rfl, rfl⟩
theorem s_sound_np : PCalls Tryd.prog n_Poctet_Reader_sound [.np] (.bool false) := by
  refine pfun_sound (ic := F_Poctet_Reader_sound.body) mixed c_Poctet_Reader_sound rfl rfl ?_
  simp only [F_Poctet_Reader_sound, go_sem, ↓reduceIte, Nat.reduceEqDiff, Nat.reduceLT, reduceCtorEq, Nat.reduceAdd, Nat.zero_add, decide_eq_true_eq, decide_eq_false_iff_not, Nat.reduceLeDiff, Nat.reduceBEq, Nat.reduceBNe, beq_self_eq_true, Int.reduceNeg, Int.reduceToNat, Nat.lt_add_one]
  exact pdone [] (by simp only [go_sem, ↓reduceIte, Nat.reduceEqDiff, Nat.reduceLT, reduceCtorEq, Nat.reduceAdd, Nat.zero_add, decide_eq_true_eq, decide_eq_false_iff_not, Nat.reduceLeDiff, Nat.reduceBEq, Nat.reduceBNe, beq_self_eq_true, Int.reduceNeg, Int.reduceToNat, Nat.lt_add_one]) rfl

/-- The call of 'sound', and what follows in either case. -/
theorem s_fail (m : Bool) (b : List UInt8) (a e x : Int) : RM n_Poctet_Reader_Fail [.int .i64 x] m b a e (.tup []) a (if (m && e == 0) = true then x else e) := by
  refine fun_sound (ic := F_Poctet_Reader_Fail.body) mixed c_Poctet_Reader_Fail rfl rfl ?_
  simp only [F_Poctet_Reader_Fail, ro, go_sem, ↓reduceIte, Nat.reduceEqDiff, Nat.reduceLT, reduceCtorEq, Nat.reduceAdd, Nat.zero_add, decide_eq_true_eq, decide_eq_false_iff_not, Nat.reduceLeDiff, Nat.reduceBEq, Nat.reduceBNe, beq_self_eq_true, Int.reduceNeg, Int.reduceToNat, Nat.lt_add_one]
  refine call_m (s_sound m b a e) ⟨by decide, by decide⟩ rfl (by simp) rfl rfl (by simp only [go_sem, ↓reduceIte, Nat.reduceEqDiff, Nat.reduceLT, reduceCtorEq, Nat.reduceAdd, Nat.zero_add, decide_eq_true_eq, decide_eq_false_iff_not, Nat.reduceLeDiff, Nat.reduceBEq, Nat.reduceBNe, beq_self_eq_true, Int.reduceNeg, Int.reduceToNat, Nat.lt_add_one, ro]) ?_
  cases h : (m && e == 0)
  · simp only [go_sem, ↓reduceIte, Nat.reduceEqDiff, Nat.reduceLT, reduceCtorEq, Nat.reduceAdd, Nat.zero_add, decide_eq_true_eq, decide_eq_false_iff_not, Nat.reduceLeDiff, Nat.reduceBEq, Nat.reduceBNe, beq_self_eq_true, Int.reduceNeg, Int.reduceToNat, Nat.lt_add_one, ro]
    exact done_n [] _ [(1000, ro m b a e)] (by simp only [go_sem, ↓reduceIte, Nat.reduceEqDiff, Nat.reduceLT, reduceCtorEq, Nat.reduceAdd, Nat.zero_add, decide_eq_true_eq, decide_eq_false_iff_not, Nat.reduceLeDiff, Nat.reduceBEq, Nat.reduceBNe, beq_self_eq_true, Int.reduceNeg, Int.reduceToNat, Nat.lt_add_one]) (by simp only [go_sem, ↓reduceIte, Nat.reduceEqDiff, Nat.reduceLT, reduceCtorEq, Nat.reduceAdd, Nat.zero_add, decide_eq_true_eq, decide_eq_false_iff_not, Nat.reduceLeDiff, Nat.reduceBEq, Nat.reduceBNe, beq_self_eq_true, Int.reduceNeg, Int.reduceToNat, Nat.lt_add_one, ro]) rfl ⟨rfl, rfl⟩
  · simp only [go_sem, ↓reduceIte, Nat.reduceEqDiff, Nat.reduceLT, reduceCtorEq, Nat.reduceAdd, Nat.zero_add, decide_eq_true_eq, decide_eq_false_iff_not, Nat.reduceLeDiff, Nat.reduceBEq, Nat.reduceBNe, beq_self_eq_true, Int.reduceNeg, Int.reduceToNat, Nat.lt_add_one, ro]
    exact done_n [] _ [(1000, ro m b a x)] (by simp only [go_sem, ↓reduceIte, Nat.reduceEqDiff, Nat.reduceLT, reduceCtorEq, Nat.reduceAdd, Nat.zero_add, decide_eq_true_eq, decide_eq_false_iff_not, Nat.reduceLeDiff, Nat.reduceBEq, Nat.reduceBNe, beq_self_eq_true, Int.reduceNeg, Int.reduceToNat, Nat.lt_add_one]) (by simp only [go_sem, ↓reduceIte, Nat.reduceEqDiff, Nat.reduceLT, reduceCtorEq, Nat.reduceAdd, Nat.zero_add, decide_eq_true_eq, decide_eq_false_iff_not, Nat.reduceLeDiff, Nat.reduceBEq, Nat.reduceBNe, beq_self_eq_true, Int.reduceNeg, Int.reduceToNat, Nat.lt_add_one, ro]) rfl ⟨rfl, rfl⟩
theorem s_fail_ok (b : List UInt8) (a x : Int) : RM n_Poctet_Reader_Fail [.int .i64 x] true b a 0 (.tup []) a x := s_fail true b a 0 x
theorem s_fail_np (x : Int) : PCalls Tryd.prog n_Poctet_Reader_Fail [.np, .int .i64 x] (.tup []) := by
  refine pfun_sound (ic := F_Poctet_Reader_Fail.body) mixed c_Poctet_Reader_Fail rfl rfl ?_
  simp only [F_Poctet_Reader_Fail, go_sem, ↓reduceIte, Nat.reduceEqDiff, Nat.reduceLT, reduceCtorEq, Nat.reduceAdd, Nat.zero_add, decide_eq_true_eq, decide_eq_false_iff_not, Nat.reduceLeDiff, Nat.reduceBEq, Nat.reduceBNe, beq_self_eq_true, Int.reduceNeg, Int.reduceToNat, Nat.lt_add_one]
  refine call_same s_sound_np (by simp [go_sem]) ?_
  simp only [go_sem, ↓reduceIte, Nat.reduceEqDiff, Nat.reduceLT, reduceCtorEq, Nat.reduceAdd, Nat.zero_add, decide_eq_true_eq, decide_eq_false_iff_not, Nat.reduceLeDiff, Nat.reduceBEq, Nat.reduceBNe, beq_self_eq_true, Int.reduceNeg, Int.reduceToNat, Nat.lt_add_one]
  exact pdone_n [] (by simp only [go_sem, ↓reduceIte, Nat.reduceEqDiff, Nat.reduceLT, reduceCtorEq, Nat.reduceAdd, Nat.zero_add, decide_eq_true_eq, decide_eq_false_iff_not, Nat.reduceLeDiff, Nat.reduceBEq, Nat.reduceBNe, beq_self_eq_true, Int.reduceNeg, Int.reduceToNat, Nat.lt_add_one]) rfl

theorem s_cut (b : List UInt8) (a n : Nat) (e : Int) (h : a + n ≤ b.length) (hb : b.length < 1000000000) : RM n_Poctet_Reader_cut [.int .i64 n] true b a e (.sl 1 (((b.drop a).take n).map by_)) ((a + n : Nat) : Int) e := by
  refine fun_sound (ic := F_Poctet_Reader_cut.body) mixed c_Poctet_Reader_cut rfl rfl ?_
  have w1 : IntKind.i64.wrap ((a : Int) + (n : Int)) = ((a + n : Nat) : Int) := by rw [wi (by omega) (by omega)]; omega
  have e1 : aSlc 1 (.sl 1 (b.map by_)) (some (.int .i64 (a : Int))) (some (.int .i64 ((a + n : Nat) : Int))) (some (.int .i64 ((a + n : Nat) : Int))) = some (.sl 1 (((b.drop a).take n).map by_)) := by
    have h1 : aBound (b.map by_).length (some (.int .i64 ((a + n : Nat) : Int))) = some (a + n) := by simp only [aBound]; rw [if_pos (by omega), Int.toNat_natCast]
    have h2 : aBound 0 (some (.int .i64 (a : Int))) = some a := by simp only [aBound]; rw [if_pos (by omega), Int.toNat_natCast]
    simp only [aSlc, h1, h2]
    rw [if_pos ⟨trivial, by omega, Nat.le_refl _, by simpa using h⟩, Nat.add_sub_cancel_left, List.map_take, List.map_drop]
  simp only [F_Poctet_Reader_cut, ro, go_sem, ↓reduceIte, Nat.reduceEqDiff, Nat.reduceLT, reduceCtorEq, Nat.reduceAdd, Nat.zero_add, decide_eq_true_eq, decide_eq_false_iff_not, Nat.reduceLeDiff, Nat.reduceBEq, Nat.reduceBNe, beq_self_eq_true, Int.reduceNeg, Int.reduceToNat, Nat.lt_add_one, w1, e1]
  exact done [] _ [(1000, ro true b ((a + n : Nat) : Int) e)] (by simp only [go_sem, ↓reduceIte, Nat.reduceEqDiff, Nat.reduceLT, reduceCtorEq, Nat.reduceAdd, Nat.zero_add, decide_eq_true_eq, decide_eq_false_iff_not, Nat.reduceLeDiff, Nat.reduceBEq, Nat.reduceBNe, beq_self_eq_true, Int.reduceNeg, Int.reduceToNat, Nat.lt_add_one]) (by simp only [go_sem, ↓reduceIte, Nat.reduceEqDiff, Nat.reduceLT, reduceCtorEq, Nat.reduceAdd, Nat.zero_add, decide_eq_true_eq, decide_eq_false_iff_not, Nat.reduceLeDiff, Nat.reduceBEq, Nat.reduceBNe, beq_self_eq_true, Int.reduceNeg, Int.reduceToNat, Nat.lt_add_one, ro]) rfl ⟨rfl, rfl⟩

theorem s_take (m : Bool) (b : List UInt8) (a : Nat) (e n : Int) (ha : a ≤ b.length) (hb : b.length < 1000000000) (hn : -9223372036854775808 ≤ n ∧ n < 9223372036854775808) :
    RM n_Poctet_Reader_Take [.int .i64 n] m b a e (slv (rTake (m && e == 0) b a e n).1) (rTake (m && e == 0) b a e n).2.1 (rTake (m && e == 0) b a e n).2.2 := by
  refine fun_sound (ic := F_Poctet_Reader_Take.body) mixed c_Poctet_Reader_Take rfl rfl ?_
  simp only [F_Poctet_Reader_Take, ro, go_sem, ↓reduceIte, Nat.reduceEqDiff, Nat.reduceLT, reduceCtorEq, Nat.reduceAdd, Nat.zero_add, decide_eq_true_eq, decide_eq_false_iff_not, Nat.reduceLeDiff, Nat.reduceBEq, Nat.reduceBNe, beq_self_eq_true, Int.reduceNeg, Int.reduceToNat, Nat.lt_add_one]
  refine call_m (s_sound m b a e) ⟨by decide, by decide⟩ rfl (by simp) rfl rfl (by simp only [go_sem, ↓reduceIte, Nat.reduceEqDiff, Nat.reduceLT, reduceCtorEq, Nat.reduceAdd, Nat.zero_add, decide_eq_true_eq, decide_eq_false_iff_not, Nat.reduceLeDiff, Nat.reduceBEq, Nat.reduceBNe, beq_self_eq_true, Int.reduceNeg, Int.reduceToNat, Nat.lt_add_one, ro]) ?_
  cases h : (m && e == 0)
  · simp only [go_sem, ↓reduceIte, Nat.reduceEqDiff, Nat.reduceLT, reduceCtorEq, Nat.reduceAdd, Nat.zero_add, decide_eq_true_eq, decide_eq_false_iff_not, Nat.reduceLeDiff, Nat.reduceBEq, Nat.reduceBNe, beq_self_eq_true, Int.reduceNeg, Int.reduceToNat, Nat.lt_add_one, ro, rTake]
    exact done [] _ [(1000, ro m b a e)] (by simp only [go_sem, ↓reduceIte, Nat.reduceEqDiff, Nat.reduceLT, reduceCtorEq, Nat.reduceAdd, Nat.zero_add, decide_eq_true_eq, decide_eq_false_iff_not, Nat.reduceLeDiff, Nat.reduceBEq, Nat.reduceBNe, beq_self_eq_true, Int.reduceNeg, Int.reduceToNat, Nat.lt_add_one]) (by simp only [go_sem, ↓reduceIte, Nat.reduceEqDiff, Nat.reduceLT, reduceCtorEq, Nat.reduceAdd, Nat.zero_add, decide_eq_true_eq, decide_eq_false_iff_not, Nat.reduceLeDiff, Nat.reduceBEq, Nat.reduceBNe, beq_self_eq_true, Int.reduceNeg, Int.reduceToNat, Nat.lt_add_one, ro]) rfl ⟨rfl, rfl⟩
  · obtain ⟨rfl, h2⟩ := Bool.and_eq_true_iff.1 h
    obtain rfl : e = 0 := by simpa using h2
    by_cases h3 : n < 0
    · have d1 : decide (n < 0) = true := by simpa using h3
      have r : rTake true b a 0 n = (none, a, 1) := by simp [rTake, h3]
      simp only [go_sem, ↓reduceIte, Nat.reduceEqDiff, Nat.reduceLT, reduceCtorEq, Nat.reduceAdd, Nat.zero_add, decide_eq_true_eq, decide_eq_false_iff_not, Nat.reduceLeDiff, Nat.reduceBEq, Nat.reduceBNe, beq_self_eq_true, Int.reduceNeg, Int.reduceToNat, Nat.lt_add_one, ro, d1]
      refine call_m (s_fail_ok b a 1) ⟨by decide, by decide⟩ rfl (by simp [go_sem]) rfl rfl (by simp only [go_sem, ↓reduceIte, Nat.reduceEqDiff, Nat.reduceLT, reduceCtorEq, Nat.reduceAdd, Nat.zero_add, decide_eq_true_eq, decide_eq_false_iff_not, Nat.reduceLeDiff, Nat.reduceBEq, Nat.reduceBNe, beq_self_eq_true, Int.reduceNeg, Int.reduceToNat, Nat.lt_add_one, ro]) ?_
      simp only [go_sem, ↓reduceIte, Nat.reduceEqDiff, Nat.reduceLT, reduceCtorEq, Nat.reduceAdd, Nat.zero_add, decide_eq_true_eq, decide_eq_false_iff_not, Nat.reduceLeDiff, Nat.reduceBEq, Nat.reduceBNe, beq_self_eq_true, Int.reduceNeg, Int.reduceToNat, Nat.lt_add_one, ro]
      rw [r]
      exact done [] _ [(1000, ro true b a 1)] (by simp only [go_sem, ↓reduceIte, Nat.reduceEqDiff, Nat.reduceLT, reduceCtorEq, Nat.reduceAdd, Nat.zero_add, decide_eq_true_eq, decide_eq_false_iff_not, Nat.reduceLeDiff, Nat.reduceBEq, Nat.reduceBNe, beq_self_eq_true, Int.reduceNeg, Int.reduceToNat, Nat.lt_add_one]) (by simp only [go_sem, ↓reduceIte, Nat.reduceEqDiff, Nat.reduceLT, reduceCtorEq, Nat.reduceAdd, Nat.zero_add, decide_eq_true_eq, decide_eq_false_iff_not, Nat.reduceLeDiff, Nat.reduceBEq, Nat.reduceBNe, beq_self_eq_true, Int.reduceNeg, Int.reduceToNat, Nat.lt_add_one, ro]) rfl ⟨rfl, rfl⟩
    · have d1 : decide (n < 0) = false := by simpa using h3
      have w1 : IntKind.i64.wrap ((b.length : Int) - (a : Int)) = (b.length : Int) - (a : Int) := wi (by omega) (by omega)
      by_cases h4 : n > (b.length : Int) - a
      · have d2 : decide (n > (b.length : Int) - (a : Int)) = true := by simpa using h4
        have r : rTake true b a 0 n = (none, a, 3) := by simp [rTake, h3, h4]
        simp only [go_sem, ↓reduceIte, Nat.reduceEqDiff, Nat.reduceLT, reduceCtorEq, Nat.reduceAdd, Nat.zero_add, decide_eq_true_eq, decide_eq_false_iff_not, Nat.reduceLeDiff, Nat.reduceBEq, Nat.reduceBNe, beq_self_eq_true, Int.reduceNeg, Int.reduceToNat, Nat.lt_add_one, ro, d1, w1, d2]
        refine call_m (s_fail_ok b a 3) ⟨by decide, by decide⟩ rfl (by simp [go_sem]) rfl rfl (by simp only [go_sem, ↓reduceIte, Nat.reduceEqDiff, Nat.reduceLT, reduceCtorEq, Nat.reduceAdd, Nat.zero_add, decide_eq_true_eq, decide_eq_false_iff_not, Nat.reduceLeDiff, Nat.reduceBEq, Nat.reduceBNe, beq_self_eq_true, Int.reduceNeg, Int.reduceToNat, Nat.lt_add_one, ro]) ?_
        simp only [go_sem, ↓reduceIte, Nat.reduceEqDiff, Nat.reduceLT, reduceCtorEq, Nat.reduceAdd, Nat.zero_add, decide_eq_true_eq, decide_eq_false_iff_not, Nat.reduceLeDiff, Nat.reduceBEq, Nat.reduceBNe, beq_self_eq_true, Int.reduceNeg, Int.reduceToNat, Nat.lt_add_one, ro]
        rw [r]
        exact done [] _ [(1000, ro true b a 3)] (by simp only [go_sem, ↓reduceIte, Nat.reduceEqDiff, Nat.reduceLT, reduceCtorEq, Nat.reduceAdd, Nat.zero_add, decide_eq_true_eq, decide_eq_false_iff_not, Nat.reduceLeDiff, Nat.reduceBEq, Nat.reduceBNe, beq_self_eq_true, Int.reduceNeg, Int.reduceToNat, Nat.lt_add_one]) (by simp only [go_sem, ↓reduceIte, Nat.reduceEqDiff, Nat.reduceLT, reduceCtorEq, Nat.reduceAdd, Nat.zero_add, decide_eq_true_eq, decide_eq_false_iff_not, Nat.reduceLeDiff, Nat.reduceBEq, Nat.reduceBNe, beq_self_eq_true, Int.reduceNeg, Int.reduceToNat, Nat.lt_add_one, ro]) rfl ⟨rfl, rfl⟩
      · have d2 : decide (n > (b.length : Int) - (a : Int)) = false := by simpa using h4
        obtain ⟨k, rfl⟩ := Int.eq_ofNat_of_zero_le (show 0 ≤ n by omega)
        have r : rTake true b a 0 (k : Int) = (some ((b.drop a).take k), a + k, 0) := by
          have h5 : ¬ ((k : Int) > (b.length : Int) - a) := h4
          simp only [rTake, if_true, if_neg h3, if_neg h5, Int.toNat_natCast]
        simp only [go_sem, ↓reduceIte, Nat.reduceEqDiff, Nat.reduceLT, reduceCtorEq, Nat.reduceAdd, Nat.zero_add, decide_eq_true_eq, decide_eq_false_iff_not, Nat.reduceLeDiff, Nat.reduceBEq, Nat.reduceBNe, beq_self_eq_true, Int.reduceNeg, Int.reduceToNat, Nat.lt_add_one, ro, d1, w1, d2]
        refine call_m (s_cut b a k 0 (by omega) hb) ⟨by decide, by decide⟩ rfl (by simp [go_sem]) rfl rfl (by simp only [go_sem, ↓reduceIte, Nat.reduceEqDiff, Nat.reduceLT, reduceCtorEq, Nat.reduceAdd, Nat.zero_add, decide_eq_true_eq, decide_eq_false_iff_not, Nat.reduceLeDiff, Nat.reduceBEq, Nat.reduceBNe, beq_self_eq_true, Int.reduceNeg, Int.reduceToNat, Nat.lt_add_one, ro]) ?_
        simp only [go_sem, ↓reduceIte, Nat.reduceEqDiff, Nat.reduceLT, reduceCtorEq, Nat.reduceAdd, Nat.zero_add, decide_eq_true_eq, decide_eq_false_iff_not, Nat.reduceLeDiff, Nat.reduceBEq, Nat.reduceBNe, beq_self_eq_true, Int.reduceNeg, Int.reduceToNat, Nat.lt_add_one, ro]
        rw [r]
        refine ⟨by simp; omega, done [32] _ [(1000, ro true b ((a + k : Nat) : Int) 0)] ?_ (by simp only [go_sem, ↓reduceIte, Nat.reduceEqDiff, Nat.reduceLT, reduceCtorEq, Nat.reduceAdd, Nat.zero_add, decide_eq_true_eq, decide_eq_false_iff_not, Nat.reduceLeDiff, Nat.reduceBEq, Nat.reduceBNe, beq_self_eq_true, Int.reduceNeg, Int.reduceToNat, Nat.lt_add_one, ro]) rfl ⟨rfl, rfl⟩⟩
        simp only [go_sem, ↓reduceIte, Nat.reduceEqDiff, Nat.reduceLT, reduceCtorEq, Nat.reduceAdd, Nat.zero_add, decide_eq_true_eq, decide_eq_false_iff_not, Nat.reduceLeDiff, Nat.reduceBEq, Nat.reduceBNe, beq_self_eq_true, Int.reduceNeg, Int.reduceToNat, Nat.lt_add_one, Nat.le_refl]
        rw [List.take_of_length_le (by simp)]

theorem aI1 (st : Nat) (r : List AV) (k : IntKind) : aIadr st (.sl st [r]) (.int k 0) = some (.ip r) := by simp [aIadr]
theorem one1 : (((1 : Nat) : Int) == 1) = true := rfl
theorem s_take_np (n : Int) : PCalls Tryd.prog n_Poctet_Reader_Take [.np, .int .i64 n] .nl := by
  refine pfun_sound (ic := F_Poctet_Reader_Take.body) mixed c_Poctet_Reader_Take rfl rfl ?_
  simp only [F_Poctet_Reader_Take, go_sem, ↓reduceIte, Nat.reduceEqDiff, Nat.reduceLT, reduceCtorEq, Nat.reduceAdd, Nat.zero_add, decide_eq_true_eq, decide_eq_false_iff_not, Nat.reduceLeDiff, Nat.reduceBEq, Nat.reduceBNe, beq_self_eq_true, Int.reduceNeg, Int.reduceToNat, Nat.lt_add_one]
  refine call_same s_sound_np (by simp [go_sem]) ?_
  simp only [go_sem, ↓reduceIte, Nat.reduceEqDiff, Nat.reduceLT, reduceCtorEq, Nat.reduceAdd, Nat.zero_add, decide_eq_true_eq, decide_eq_false_iff_not, Nat.reduceLeDiff, Nat.reduceBEq, Nat.reduceBNe, beq_self_eq_true, Int.reduceNeg, Int.reduceToNat, Nat.lt_add_one]
  exact pdone [] (by simp only [go_sem, ↓reduceIte, Nat.reduceEqDiff, Nat.reduceLT, reduceCtorEq, Nat.reduceAdd, Nat.zero_add, decide_eq_true_eq, decide_eq_false_iff_not, Nat.reduceLeDiff, Nat.reduceBEq, Nat.reduceBNe, beq_self_eq_true, Int.reduceNeg, Int.reduceToNat, Nat.lt_add_one]) rfl

theorem s_byte (m : Bool) (b : List UInt8) (a : Nat) (e : Int) (ha : a ≤ b.length) (hb : b.length < 1000000000) :
    RM n_Poctet_Reader_Byte [] m b a e (.int .u8 (rByte (m && e == 0) b a e).1.toNat) (rByte (m && e == 0) b a e).2.1 (rByte (m && e == 0) b a e).2.2 := by
  refine fun_sound (ic := F_Poctet_Reader_Byte.body) mixed c_Poctet_Reader_Byte rfl rfl ?_
  simp only [F_Poctet_Reader_Byte, ro, go_sem, ↓reduceIte, Nat.reduceEqDiff, Nat.reduceLT, reduceCtorEq, Nat.reduceAdd, Nat.zero_add, decide_eq_true_eq, decide_eq_false_iff_not, Nat.reduceLeDiff, Nat.reduceBEq, Nat.reduceBNe, beq_self_eq_true, Int.reduceNeg, Int.reduceToNat, Nat.lt_add_one]
  refine call_m (s_take m b a e 1 ha hb (by decide)) ⟨by decide, by decide⟩ (slv_ids _) (by simp [go_sem]) rfl rfl (by simp only [go_sem, ↓reduceIte, Nat.reduceEqDiff, Nat.reduceLT, reduceCtorEq, Nat.reduceAdd, Nat.zero_add, decide_eq_true_eq, decide_eq_false_iff_not, Nat.reduceLeDiff, Nat.reduceBEq, Nat.reduceBNe, beq_self_eq_true, Int.reduceNeg, Int.reduceToNat, Nat.lt_add_one, ro]) ?_
  have h1 : ¬ ((1 : Int) < 0) := by decide
  cases h : (m && e == 0)
  · have r : rTake false b a e 1 = (none, a, e) := by simp [rTake]
    simp only [go_sem, ↓reduceIte, Nat.reduceEqDiff, Nat.reduceLT, reduceCtorEq, Nat.reduceAdd, Nat.zero_add, decide_eq_true_eq, decide_eq_false_iff_not, Nat.reduceLeDiff, Nat.reduceBEq, Nat.reduceBNe, beq_self_eq_true, Int.reduceNeg, Int.reduceToNat, Nat.lt_add_one, r, rByte, ro, Int.reduceBEq, Bool.false_eq_true]
    exact done [] _ [(1000, ro m b a e)] (by simp only [go_sem, ↓reduceIte, Nat.reduceEqDiff, Nat.reduceLT, reduceCtorEq, Nat.reduceAdd, Nat.zero_add, decide_eq_true_eq, decide_eq_false_iff_not, Nat.reduceLeDiff, Nat.reduceBEq, Nat.reduceBNe, beq_self_eq_true, Int.reduceNeg, Int.reduceToNat, Nat.lt_add_one]; rfl) (by simp only [go_sem, ↓reduceIte, Nat.reduceEqDiff, Nat.reduceLT, reduceCtorEq, Nat.reduceAdd, Nat.zero_add, decide_eq_true_eq, decide_eq_false_iff_not, Nat.reduceLeDiff, Nat.reduceBEq, Nat.reduceBNe, beq_self_eq_true, Int.reduceNeg, Int.reduceToNat, Nat.lt_add_one, ro]) rfl ⟨rfl, rfl⟩
  · by_cases h2 : (b.length : Int) - a < 1
    · have r : rTake true b a e 1 = (none, a, 3) := by simp only [rTake, if_true, if_neg h1]; rw [if_pos (by omega)]
      have r2 : rByte true b a e = (0, a, 3) := by simp only [rByte, if_true, if_pos h2]
      simp only [go_sem, ↓reduceIte, Nat.reduceEqDiff, Nat.reduceLT, reduceCtorEq, Nat.reduceAdd, Nat.zero_add, decide_eq_true_eq, decide_eq_false_iff_not, Nat.reduceLeDiff, Nat.reduceBEq, Nat.reduceBNe, beq_self_eq_true, Int.reduceNeg, Int.reduceToNat, Nat.lt_add_one, r, r2, ro, Int.reduceBEq]
      exact done [] _ [(1000, ro m b a 3)] (by simp only [go_sem, ↓reduceIte, Nat.reduceEqDiff, Nat.reduceLT, reduceCtorEq, Nat.reduceAdd, Nat.zero_add, decide_eq_true_eq, decide_eq_false_iff_not, Nat.reduceLeDiff, Nat.reduceBEq, Nat.reduceBNe, beq_self_eq_true, Int.reduceNeg, Int.reduceToNat, Nat.lt_add_one]; rfl) (by simp only [go_sem, ↓reduceIte, Nat.reduceEqDiff, Nat.reduceLT, reduceCtorEq, Nat.reduceAdd, Nat.zero_add, decide_eq_true_eq, decide_eq_false_iff_not, Nat.reduceLeDiff, Nat.reduceBEq, Nat.reduceBNe, beq_self_eq_true, Int.reduceNeg, Int.reduceToNat, Nat.lt_add_one, ro]) rfl ⟨rfl, rfl⟩
    · have hl : a < b.length := by omega
      have e1 : (b.drop a).take 1 = [nth b a] := by rw [List.drop_eq_getElem_cons hl, nth_eq hl]; rfl
      have r : rTake true b a e 1 = (some [nth b a], a + 1, e) := by
        simp only [rTake, if_true, if_neg h1]; rw [if_neg (by omega)]
        rw [show (1 : Int).toNat = 1 from rfl, e1]
      have r2 : rByte true b a e = (nth b a, a + 1, e) := by simp only [rByte, if_true, if_neg h2]
      simp only [go_sem, ↓reduceIte, Nat.reduceEqDiff, Nat.reduceLT, reduceCtorEq, Nat.reduceAdd, Nat.zero_add, decide_eq_true_eq, decide_eq_false_iff_not, Nat.reduceLeDiff, Nat.reduceBEq, Nat.reduceBNe, beq_self_eq_true, Int.reduceNeg, Int.reduceToNat, Nat.lt_add_one, r, r2, ro, one1, List.length_cons, List.length_nil, aI1]
      exact done [] _ [(1000, ro m b ((a + 1 : Nat) : Int) e)] (by simp only [go_sem, ↓reduceIte, Nat.reduceEqDiff, Nat.reduceLT, reduceCtorEq, Nat.reduceAdd, Nat.zero_add, decide_eq_true_eq, decide_eq_false_iff_not, Nat.reduceLeDiff, Nat.reduceBEq, Nat.reduceBNe, beq_self_eq_true, Int.reduceNeg, Int.reduceToNat, Nat.lt_add_one]) (by simp only [go_sem, ↓reduceIte, Nat.reduceEqDiff, Nat.reduceLT, reduceCtorEq, Nat.reduceAdd, Nat.zero_add, decide_eq_true_eq, decide_eq_false_iff_not, Nat.reduceLeDiff, Nat.reduceBEq, Nat.reduceBNe, beq_self_eq_true, Int.reduceNeg, Int.reduceToNat, Nat.lt_add_one, ro]) rfl ⟨rfl, rfl⟩

/-- A method of a Reader that only looks at it. -/
theorem s_at (m : Bool) (b : List UInt8) (a e : Int) : RM n_Poctet_Reader_At [] m b a e (.int .i64 a) a e := by
  refine fun_sound (ic := F_Poctet_Reader_At.body) mixed c_Poctet_Reader_At rfl rfl ?_
  simp only [F_Poctet_Reader_At, ro, go_sem, ↓reduceIte, Nat.reduceEqDiff, Nat.reduceLT, reduceCtorEq, Nat.reduceAdd, Nat.zero_add, decide_eq_true_eq, decide_eq_false_iff_not, Nat.reduceLeDiff, Nat.reduceBEq, Nat.reduceBNe, beq_self_eq_true, Int.reduceNeg, Int.reduceToNat, Nat.lt_add_one]
  exact done [] _ [(1000, ro m b a e)] (by simp only [go_sem, ↓reduceIte, Nat.reduceEqDiff, Nat.reduceLT, reduceCtorEq, Nat.reduceAdd, Nat.zero_add, decide_eq_true_eq, decide_eq_false_iff_not, Nat.reduceLeDiff, Nat.reduceBEq, Nat.reduceBNe, beq_self_eq_true, Int.reduceNeg, Int.reduceToNat, Nat.lt_add_one]) (by simp only [go_sem, ↓reduceIte, Nat.reduceEqDiff, Nat.reduceLT, reduceCtorEq, Nat.reduceAdd, Nat.zero_add, decide_eq_true_eq, decide_eq_false_iff_not, Nat.reduceLeDiff, Nat.reduceBEq, Nat.reduceBNe, beq_self_eq_true, Int.reduceNeg, Int.reduceToNat, Nat.lt_add_one, ro]) rfl ⟨rfl, rfl⟩
theorem s_err (m : Bool) (b : List UInt8) (a e : Int) : RM n_Poctet_Reader_Err [] m b a e (.int .i64 (if m = true then e else 2)) a e := by
  refine fun_sound (ic := F_Poctet_Reader_Err.body) mixed c_Poctet_Reader_Err rfl rfl ?_
  cases m
  · simp only [F_Poctet_Reader_Err, ro, go_sem, ↓reduceIte, Nat.reduceEqDiff, Nat.reduceLT, reduceCtorEq, Nat.reduceAdd, Nat.zero_add, decide_eq_true_eq, decide_eq_false_iff_not, Nat.reduceLeDiff, Nat.reduceBEq, Nat.reduceBNe, beq_self_eq_true, Int.reduceNeg, Int.reduceToNat, Nat.lt_add_one]
    exact done [] _ [(1000, ro false b a e)] (by simp only [go_sem, ↓reduceIte, Nat.reduceEqDiff, Nat.reduceLT, reduceCtorEq, Nat.reduceAdd, Nat.zero_add, decide_eq_true_eq, decide_eq_false_iff_not, Nat.reduceLeDiff, Nat.reduceBEq, Nat.reduceBNe, beq_self_eq_true, Int.reduceNeg, Int.reduceToNat, Nat.lt_add_one]) (by simp only [go_sem, ↓reduceIte, Nat.reduceEqDiff, Nat.reduceLT, reduceCtorEq, Nat.reduceAdd, Nat.zero_add, decide_eq_true_eq, decide_eq_false_iff_not, Nat.reduceLeDiff, Nat.reduceBEq, Nat.reduceBNe, beq_self_eq_true, Int.reduceNeg, Int.reduceToNat, Nat.lt_add_one, ro]) rfl ⟨rfl, rfl⟩
  · simp only [F_Poctet_Reader_Err, ro, go_sem, ↓reduceIte, Nat.reduceEqDiff, Nat.reduceLT, reduceCtorEq, Nat.reduceAdd, Nat.zero_add, decide_eq_true_eq, decide_eq_false_iff_not, Nat.reduceLeDiff, Nat.reduceBEq, Nat.reduceBNe, beq_self_eq_true, Int.reduceNeg, Int.reduceToNat, Nat.lt_add_one]
    exact done [] _ [(1000, ro true b a e)] (by simp only [go_sem, ↓reduceIte, Nat.reduceEqDiff, Nat.reduceLT, reduceCtorEq, Nat.reduceAdd, Nat.zero_add, decide_eq_true_eq, decide_eq_false_iff_not, Nat.reduceLeDiff, Nat.reduceBEq, Nat.reduceBNe, beq_self_eq_true, Int.reduceNeg, Int.reduceToNat, Nat.lt_add_one]) (by simp only [go_sem, ↓reduceIte, Nat.reduceEqDiff, Nat.reduceLT, reduceCtorEq, Nat.reduceAdd, Nat.zero_add, decide_eq_true_eq, decide_eq_false_iff_not, Nat.reduceLeDiff, Nat.reduceBEq, Nat.reduceBNe, beq_self_eq_true, Int.reduceNeg, Int.reduceToNat, Nat.lt_add_one, ro]) rfl ⟨rfl, rfl⟩
def rLeft (ok : Bool) (b : List UInt8) (a : Nat) : Int := if ok = true then (b.length : Int) - a else 0
theorem s_left (m : Bool) (b : List UInt8) (a : Nat) (e : Int) (ha : a ≤ b.length) (hb : b.length < 1000000000) : RM n_Poctet_Reader_Left [] m b a e (.int .i64 (rLeft (m && e == 0) b a)) a e := by
  refine fun_sound (ic := F_Poctet_Reader_Left.body) mixed c_Poctet_Reader_Left rfl rfl ?_
  simp only [F_Poctet_Reader_Left, ro, go_sem, ↓reduceIte, Nat.reduceEqDiff, Nat.reduceLT, reduceCtorEq, Nat.reduceAdd, Nat.zero_add, decide_eq_true_eq, decide_eq_false_iff_not, Nat.reduceLeDiff, Nat.reduceBEq, Nat.reduceBNe, beq_self_eq_true, Int.reduceNeg, Int.reduceToNat, Nat.lt_add_one]
  refine call_m (s_sound m b a e) ⟨by decide, by decide⟩ rfl (by simp) rfl rfl (by simp only [go_sem, ↓reduceIte, Nat.reduceEqDiff, Nat.reduceLT, reduceCtorEq, Nat.reduceAdd, Nat.zero_add, decide_eq_true_eq, decide_eq_false_iff_not, Nat.reduceLeDiff, Nat.reduceBEq, Nat.reduceBNe, beq_self_eq_true, Int.reduceNeg, Int.reduceToNat, Nat.lt_add_one, ro]) ?_
  have w1 : IntKind.i64.wrap ((b.length : Int) - (a : Int)) = (b.length : Int) - (a : Int) := wi (by omega) (by omega)
  cases h : (m && e == 0)
  · simp only [go_sem, ↓reduceIte, Nat.reduceEqDiff, Nat.reduceLT, reduceCtorEq, Nat.reduceAdd, Nat.zero_add, decide_eq_true_eq, decide_eq_false_iff_not, Nat.reduceLeDiff, Nat.reduceBEq, Nat.reduceBNe, beq_self_eq_true, Int.reduceNeg, Int.reduceToNat, Nat.lt_add_one, ro, rLeft, Bool.false_eq_true]
    exact done [] _ [(1000, ro m b a e)] (by simp only [go_sem, ↓reduceIte, Nat.reduceEqDiff, Nat.reduceLT, reduceCtorEq, Nat.reduceAdd, Nat.zero_add, decide_eq_true_eq, decide_eq_false_iff_not, Nat.reduceLeDiff, Nat.reduceBEq, Nat.reduceBNe, beq_self_eq_true, Int.reduceNeg, Int.reduceToNat, Nat.lt_add_one]) (by simp only [go_sem, ↓reduceIte, Nat.reduceEqDiff, Nat.reduceLT, reduceCtorEq, Nat.reduceAdd, Nat.zero_add, decide_eq_true_eq, decide_eq_false_iff_not, Nat.reduceLeDiff, Nat.reduceBEq, Nat.reduceBNe, beq_self_eq_true, Int.reduceNeg, Int.reduceToNat, Nat.lt_add_one, ro]) rfl ⟨rfl, rfl⟩
  · simp only [go_sem, ↓reduceIte, Nat.reduceEqDiff, Nat.reduceLT, reduceCtorEq, Nat.reduceAdd, Nat.zero_add, decide_eq_true_eq, decide_eq_false_iff_not, Nat.reduceLeDiff, Nat.reduceBEq, Nat.reduceBNe, beq_self_eq_true, Int.reduceNeg, Int.reduceToNat, Nat.lt_add_one, ro, rLeft, w1]
    exact done [] _ [(1000, ro m b a e)] (by simp only [go_sem, ↓reduceIte, Nat.reduceEqDiff, Nat.reduceLT, reduceCtorEq, Nat.reduceAdd, Nat.zero_add, decide_eq_true_eq, decide_eq_false_iff_not, Nat.reduceLeDiff, Nat.reduceBEq, Nat.reduceBNe, beq_self_eq_true, Int.reduceNeg, Int.reduceToNat, Nat.lt_add_one]) (by simp only [go_sem, ↓reduceIte, Nat.reduceEqDiff, Nat.reduceLT, reduceCtorEq, Nat.reduceAdd, Nat.zero_add, decide_eq_true_eq, decide_eq_false_iff_not, Nat.reduceLeDiff, Nat.reduceBEq, Nat.reduceBNe, beq_self_eq_true, Int.reduceNeg, Int.reduceToNat, Nat.lt_add_one, ro]) rfl ⟨rfl, rfl⟩
def rEnd (m : Bool) (b : List UInt8) (a : Nat) (e : Int) : Int := if m = true then (if e ≠ 0 then e else if a = b.length then 0 else 5) else 2
theorem s_end (m : Bool) (b : List UInt8) (a : Nat) (e : Int) : RM n_Poctet_Reader_End [] m b a e (.int .i64 (rEnd m b a e)) a e := by
  refine fun_sound (ic := F_Poctet_Reader_End.body) mixed c_Poctet_Reader_End rfl rfl ?_
  simp only [F_Poctet_Reader_End, ro, go_sem, ↓reduceIte, Nat.reduceEqDiff, Nat.reduceLT, reduceCtorEq, Nat.reduceAdd, Nat.zero_add, decide_eq_true_eq, decide_eq_false_iff_not, Nat.reduceLeDiff, Nat.reduceBEq, Nat.reduceBNe, beq_self_eq_true, Int.reduceNeg, Int.reduceToNat, Nat.lt_add_one]
  refine call_m (s_err m b a e) ⟨by decide, by decide⟩ rfl (by simp) rfl rfl (by simp only [go_sem, ↓reduceIte, Nat.reduceEqDiff, Nat.reduceLT, reduceCtorEq, Nat.reduceAdd, Nat.zero_add, decide_eq_true_eq, decide_eq_false_iff_not, Nat.reduceLeDiff, Nat.reduceBEq, Nat.reduceBNe, beq_self_eq_true, Int.reduceNeg, Int.reduceToNat, Nat.lt_add_one, ro]) ?_
  cases m
  · have d : ((2 : Int) != 0) = true := rfl
    simp only [go_sem, ↓reduceIte, Nat.reduceEqDiff, Nat.reduceLT, reduceCtorEq, Nat.reduceAdd, Nat.zero_add, decide_eq_true_eq, decide_eq_false_iff_not, Nat.reduceLeDiff, Nat.reduceBEq, Nat.reduceBNe, beq_self_eq_true, Int.reduceNeg, Int.reduceToNat, Nat.lt_add_one, ro, rEnd, Bool.false_eq_true, d]
    exact done [] _ [(1000, ro false b a e)] (by simp only [go_sem, ↓reduceIte, Nat.reduceEqDiff, Nat.reduceLT, reduceCtorEq, Nat.reduceAdd, Nat.zero_add, decide_eq_true_eq, decide_eq_false_iff_not, Nat.reduceLeDiff, Nat.reduceBEq, Nat.reduceBNe, beq_self_eq_true, Int.reduceNeg, Int.reduceToNat, Nat.lt_add_one]) (by simp only [go_sem, ↓reduceIte, Nat.reduceEqDiff, Nat.reduceLT, reduceCtorEq, Nat.reduceAdd, Nat.zero_add, decide_eq_true_eq, decide_eq_false_iff_not, Nat.reduceLeDiff, Nat.reduceBEq, Nat.reduceBNe, beq_self_eq_true, Int.reduceNeg, Int.reduceToNat, Nat.lt_add_one, ro]) rfl ⟨rfl, rfl⟩
  · by_cases he : e = 0
    · subst he
      have d : ((0 : Int) != 0) = false := rfl
      by_cases h2 : a = b.length
      · have d2 : ((a : Int) == (b.length : Int)) = true := by simp [h2]
        have r : rEnd true b a 0 = 0 := by simp [rEnd, h2]
        simp only [go_sem, ↓reduceIte, Nat.reduceEqDiff, Nat.reduceLT, reduceCtorEq, Nat.reduceAdd, Nat.zero_add, decide_eq_true_eq, decide_eq_false_iff_not, Nat.reduceLeDiff, Nat.reduceBEq, Nat.reduceBNe, beq_self_eq_true, Int.reduceNeg, Int.reduceToNat, Nat.lt_add_one, ro, d, d2, r]
        exact done [] _ [(1000, ro true b a 0)] (by simp only [go_sem, ↓reduceIte, Nat.reduceEqDiff, Nat.reduceLT, reduceCtorEq, Nat.reduceAdd, Nat.zero_add, decide_eq_true_eq, decide_eq_false_iff_not, Nat.reduceLeDiff, Nat.reduceBEq, Nat.reduceBNe, beq_self_eq_true, Int.reduceNeg, Int.reduceToNat, Nat.lt_add_one]) (by simp only [go_sem, ↓reduceIte, Nat.reduceEqDiff, Nat.reduceLT, reduceCtorEq, Nat.reduceAdd, Nat.zero_add, decide_eq_true_eq, decide_eq_false_iff_not, Nat.reduceLeDiff, Nat.reduceBEq, Nat.reduceBNe, beq_self_eq_true, Int.reduceNeg, Int.reduceToNat, Nat.lt_add_one, ro]) rfl ⟨rfl, rfl⟩
      · have d2 : ((a : Int) == (b.length : Int)) = false := by rw [beq_eq_false_iff_ne]; omega
        have r : rEnd true b a 0 = 5 := by simp [rEnd, h2]
        simp only [go_sem, ↓reduceIte, Nat.reduceEqDiff, Nat.reduceLT, reduceCtorEq, Nat.reduceAdd, Nat.zero_add, decide_eq_true_eq, decide_eq_false_iff_not, Nat.reduceLeDiff, Nat.reduceBEq, Nat.reduceBNe, beq_self_eq_true, Int.reduceNeg, Int.reduceToNat, Nat.lt_add_one, ro, d, d2, r]
        exact done [] _ [(1000, ro true b a 0)] (by simp only [go_sem, ↓reduceIte, Nat.reduceEqDiff, Nat.reduceLT, reduceCtorEq, Nat.reduceAdd, Nat.zero_add, decide_eq_true_eq, decide_eq_false_iff_not, Nat.reduceLeDiff, Nat.reduceBEq, Nat.reduceBNe, beq_self_eq_true, Int.reduceNeg, Int.reduceToNat, Nat.lt_add_one]) (by simp only [go_sem, ↓reduceIte, Nat.reduceEqDiff, Nat.reduceLT, reduceCtorEq, Nat.reduceAdd, Nat.zero_add, decide_eq_true_eq, decide_eq_false_iff_not, Nat.reduceLeDiff, Nat.reduceBEq, Nat.reduceBNe, beq_self_eq_true, Int.reduceNeg, Int.reduceToNat, Nat.lt_add_one, ro]) rfl ⟨rfl, rfl⟩
    · have d : (e != 0) = true := by simp [he]
      have r : rEnd true b a e = e := by simp [rEnd, he]
      simp only [go_sem, ↓reduceIte, Nat.reduceEqDiff, Nat.reduceLT, reduceCtorEq, Nat.reduceAdd, Nat.zero_add, decide_eq_true_eq, decide_eq_false_iff_not, Nat.reduceLeDiff, Nat.reduceBEq, Nat.reduceBNe, beq_self_eq_true, Int.reduceNeg, Int.reduceToNat, Nat.lt_add_one, ro, d, r]
      exact done [] _ [(1000, ro true b a e)] (by simp only [go_sem, ↓reduceIte, Nat.reduceEqDiff, Nat.reduceLT, reduceCtorEq, Nat.reduceAdd, Nat.zero_add, decide_eq_true_eq, decide_eq_false_iff_not, Nat.reduceLeDiff, Nat.reduceBEq, Nat.reduceBNe, beq_self_eq_true, Int.reduceNeg, Int.reduceToNat, Nat.lt_add_one]) (by simp only [go_sem, ↓reduceIte, Nat.reduceEqDiff, Nat.reduceLT, reduceCtorEq, Nat.reduceAdd, Nat.zero_add, decide_eq_true_eq, decide_eq_false_iff_not, Nat.reduceLeDiff, Nat.reduceBEq, Nat.reduceBNe, beq_self_eq_true, Int.reduceNeg, Int.reduceToNat, Nat.lt_add_one, ro]) rfl ⟨rfl, rfl⟩
def rPeek (ok : Bool) (b : List UInt8) (a : Nat) : UInt8 × Bool := if ok = true ∧ a < b.length then (nth b a, true) else (0, false)
theorem s_peek (m : Bool) (b : List UInt8) (a : Nat) (e : Int) : RM n_Poctet_Reader_Peek [] m b a e (.tup [.int .u8 (rPeek (m && e == 0) b a).1.toNat, .bool (rPeek (m && e == 0) b a).2]) a e := by
  refine fun_sound (ic := F_Poctet_Reader_Peek.body) mixed c_Poctet_Reader_Peek rfl rfl ?_
  simp only [F_Poctet_Reader_Peek, ro, go_sem, ↓reduceIte, Nat.reduceEqDiff, Nat.reduceLT, reduceCtorEq, Nat.reduceAdd, Nat.zero_add, decide_eq_true_eq, decide_eq_false_iff_not, Nat.reduceLeDiff, Nat.reduceBEq, Nat.reduceBNe, beq_self_eq_true, Int.reduceNeg, Int.reduceToNat, Nat.lt_add_one]
  refine dcall_m (s_sound m b a e) ⟨by decide, by decide⟩ rfl (by simp) rfl rfl (by simp only [go_sem, ↓reduceIte, Nat.reduceEqDiff, Nat.reduceLT, reduceCtorEq, Nat.reduceAdd, Nat.zero_add, decide_eq_true_eq, decide_eq_false_iff_not, Nat.reduceLeDiff, Nat.reduceBEq, Nat.reduceBNe, beq_self_eq_true, Int.reduceNeg, Int.reduceToNat, Nat.lt_add_one, ro]) (by simp only [go_sem, ↓reduceIte, Nat.reduceEqDiff, Nat.reduceLT, reduceCtorEq, Nat.reduceAdd, Nat.zero_add, decide_eq_true_eq, decide_eq_false_iff_not, Nat.reduceLeDiff, Nat.reduceBEq, Nat.reduceBNe, beq_self_eq_true, Int.reduceNeg, Int.reduceToNat, Nat.lt_add_one]; simp) ?_
  cases h : (m && e == 0)
  · have r : rPeek false b a = (0, false) := by simp [rPeek]
    simp only [go_sem, ↓reduceIte, Nat.reduceEqDiff, Nat.reduceLT, reduceCtorEq, Nat.reduceAdd, Nat.zero_add, decide_eq_true_eq, decide_eq_false_iff_not, Nat.reduceLeDiff, Nat.reduceBEq, Nat.reduceBNe, beq_self_eq_true, Int.reduceNeg, Int.reduceToNat, Nat.lt_add_one, ro, r]
    exact done [] _ [(1000, ro m b a e)] (by simp only [go_sem, ↓reduceIte, Nat.reduceEqDiff, Nat.reduceLT, reduceCtorEq, Nat.reduceAdd, Nat.zero_add, decide_eq_true_eq, decide_eq_false_iff_not, Nat.reduceLeDiff, Nat.reduceBEq, Nat.reduceBNe, beq_self_eq_true, Int.reduceNeg, Int.reduceToNat, Nat.lt_add_one]; rfl) (by simp only [go_sem, ↓reduceIte, Nat.reduceEqDiff, Nat.reduceLT, reduceCtorEq, Nat.reduceAdd, Nat.zero_add, decide_eq_true_eq, decide_eq_false_iff_not, Nat.reduceLeDiff, Nat.reduceBEq, Nat.reduceBNe, beq_self_eq_true, Int.reduceNeg, Int.reduceToNat, Nat.lt_add_one, ro]) rfl ⟨rfl, rfl⟩
  · by_cases h2 : a < b.length
    · have d : decide ((a : Int) ≥ (b.length : Int)) = false := by simp; omega
      have r : rPeek true b a = (nth b a, true) := by simp [rPeek, h2]
      simp only [go_sem, ↓reduceIte, Nat.reduceEqDiff, Nat.reduceLT, reduceCtorEq, Nat.reduceAdd, Nat.zero_add, decide_eq_true_eq, decide_eq_false_iff_not, Nat.reduceLeDiff, Nat.reduceBEq, Nat.reduceBNe, beq_self_eq_true, Int.reduceNeg, Int.reduceToNat, Nat.lt_add_one, ro, r, d]
      exact ⟨by omega, by omega, done [] _ [(1000, ro m b a e)] (by simp only [go_sem, ↓reduceIte, Nat.reduceEqDiff, Nat.reduceLT, reduceCtorEq, Nat.reduceAdd, Nat.zero_add, decide_eq_true_eq, decide_eq_false_iff_not, Nat.reduceLeDiff, Nat.reduceBEq, Nat.reduceBNe, beq_self_eq_true, Int.reduceNeg, Int.reduceToNat, Nat.lt_add_one]) (by simp only [go_sem, ↓reduceIte, Nat.reduceEqDiff, Nat.reduceLT, reduceCtorEq, Nat.reduceAdd, Nat.zero_add, decide_eq_true_eq, decide_eq_false_iff_not, Nat.reduceLeDiff, Nat.reduceBEq, Nat.reduceBNe, beq_self_eq_true, Int.reduceNeg, Int.reduceToNat, Nat.lt_add_one, ro]) rfl ⟨rfl, rfl⟩⟩
    · have d : decide ((a : Int) ≥ (b.length : Int)) = true := by simp; omega
      have r : rPeek true b a = (0, false) := by simp [rPeek, h2]
      simp only [go_sem, ↓reduceIte, Nat.reduceEqDiff, Nat.reduceLT, reduceCtorEq, Nat.reduceAdd, Nat.zero_add, decide_eq_true_eq, decide_eq_false_iff_not, Nat.reduceLeDiff, Nat.reduceBEq, Nat.reduceBNe, beq_self_eq_true, Int.reduceNeg, Int.reduceToNat, Nat.lt_add_one, ro, r, d]
      exact done [] _ [(1000, ro m b a e)] (by simp only [go_sem, ↓reduceIte, Nat.reduceEqDiff, Nat.reduceLT, reduceCtorEq, Nat.reduceAdd, Nat.zero_add, decide_eq_true_eq, decide_eq_false_iff_not, Nat.reduceLeDiff, Nat.reduceBEq, Nat.reduceBNe, beq_self_eq_true, Int.reduceNeg, Int.reduceToNat, Nat.lt_add_one]; rfl) (by simp only [go_sem, ↓reduceIte, Nat.reduceEqDiff, Nat.reduceLT, reduceCtorEq, Nat.reduceAdd, Nat.zero_add, decide_eq_true_eq, decide_eq_false_iff_not, Nat.reduceLeDiff, Nat.reduceBEq, Nat.reduceBNe, beq_self_eq_true, Int.reduceNeg, Int.reduceToNat, Nat.lt_add_one, ro]) rfl ⟨rfl, rfl⟩

theorem slc_from {b : List UInt8} {a : Nat} (ha : a ≤ b.length) : aSlc 1 (.sl 1 (b.map by_)) (some (.int .i64 (a : Int))) none none = some (.sl 1 ((b.drop a).map by_)) := by
  have h2 : aBound 0 (some (.int .i64 (a : Int))) = some a := by simp only [aBound]; rw [if_pos (by omega), Int.toNat_natCast]
  have h1 : aBound (b.map by_).length none = some (b.map by_).length := rfl
  simp only [aSlc, h1, h2]
  rw [if_pos ⟨trivial, by simpa using ha, Nat.le_refl _, Nat.le_refl _⟩, ← List.map_drop, List.take_of_length_le (by simp)]
theorem s_unsigned (m : Bool) (bits : Nat) (b : List UInt8) (a : Nat) (e : Int) (hbits : 1 ≤ bits ∧ bits ≤ 64) (ha : a ≤ b.length) (hb : b.length < 1000000000) :
    RM n_Poctet_Reader_unsigned [.int .i64 bits] m b a e (.int .u64 (rU (m && e == 0) bits b a e).1) (rU (m && e == 0) bits b a e).2.1 (rU (m && e == 0) bits b a e).2.2 := by
  refine fun_sound (ic := F_Poctet_Reader_unsigned.body) mixed c_Poctet_Reader_unsigned rfl rfl ?_
  simp only [F_Poctet_Reader_unsigned, ro, go_sem, ↓reduceIte, Nat.reduceEqDiff, Nat.reduceLT, reduceCtorEq, Nat.reduceAdd, Nat.zero_add, decide_eq_true_eq, decide_eq_false_iff_not, Nat.reduceLeDiff, Nat.reduceBEq, Nat.reduceBNe, beq_self_eq_true, Int.reduceNeg, Int.reduceToNat, Nat.lt_add_one]
  refine call_m (s_sound m b a e) ⟨by decide, by decide⟩ rfl (by simp) rfl rfl (by simp only [go_sem, ↓reduceIte, Nat.reduceEqDiff, Nat.reduceLT, reduceCtorEq, Nat.reduceAdd, Nat.zero_add, decide_eq_true_eq, decide_eq_false_iff_not, Nat.reduceLeDiff, Nat.reduceBEq, Nat.reduceBNe, beq_self_eq_true, Int.reduceNeg, Int.reduceToNat, Nat.lt_add_one, ro]) ?_
  cases h : (m && e == 0)
  · have r : rU false bits b a e = (0, a, e) := by simp [rU]
    simp only [go_sem, ↓reduceIte, Nat.reduceEqDiff, Nat.reduceLT, reduceCtorEq, Nat.reduceAdd, Nat.zero_add, decide_eq_true_eq, decide_eq_false_iff_not, Nat.reduceLeDiff, Nat.reduceBEq, Nat.reduceBNe, beq_self_eq_true, Int.reduceNeg, Int.reduceToNat, Nat.lt_add_one, ro, r]
    exact done [] _ [(1000, ro m b a e)] (by simp only [go_sem, ↓reduceIte, Nat.reduceEqDiff, Nat.reduceLT, reduceCtorEq, Nat.reduceAdd, Nat.zero_add, decide_eq_true_eq, decide_eq_false_iff_not, Nat.reduceLeDiff, Nat.reduceBEq, Nat.reduceBNe, beq_self_eq_true, Int.reduceNeg, Int.reduceToNat, Nat.lt_add_one]; rfl) (by simp only [go_sem, ↓reduceIte, Nat.reduceEqDiff, Nat.reduceLT, reduceCtorEq, Nat.reduceAdd, Nat.zero_add, decide_eq_true_eq, decide_eq_false_iff_not, Nat.reduceLeDiff, Nat.reduceBEq, Nat.reduceBNe, beq_self_eq_true, Int.reduceNeg, Int.reduceToNat, Nat.lt_add_one, ro]) rfl ⟨rfl, rfl⟩
  · obtain ⟨rfl, h2⟩ := Bool.and_eq_true_iff.1 h
    obtain rfl : e = 0 := by simpa using h2
    simp only [go_sem, ↓reduceIte, Nat.reduceEqDiff, Nat.reduceLT, reduceCtorEq, Nat.reduceAdd, Nat.zero_add, decide_eq_true_eq, decide_eq_false_iff_not, Nat.reduceLeDiff, Nat.reduceBEq, Nat.reduceBNe, beq_self_eq_true, Int.reduceNeg, Int.reduceToNat, Nat.lt_add_one, ro]
    have hk := decU_k (b.drop a) bits
    simp only [List.length_drop] at hk
    refine ⟨⟨by omega, by omega⟩, dcall_same (s_U (b.drop a) bits hbits) (by simp [go_sem]) (by rfl) ?_⟩
    by_cases hq : (decU (b.drop a) bits).2.2 = 0
    · have d : ((decU (b.drop a) bits).2.2 != 0) = false := by simp [hq]
      have r : rU true bits b a 0 = ((decU (b.drop a) bits).1, a + (decU (b.drop a) bits).2.1, 0) := by simp [rU, hq]
      have w1 : IntKind.i64.wrap ((a : Int) + ((decU (b.drop a) bits).2.1 : Int)) = ((a + (decU (b.drop a) bits).2.1 : Nat) : Int) := by rw [wi (by omega) (by omega)]; omega
      rw [r]
      simp only [go_sem, ↓reduceIte, Nat.reduceEqDiff, Nat.reduceLT, reduceCtorEq, Nat.reduceAdd, Nat.zero_add, decide_eq_true_eq, decide_eq_false_iff_not, Nat.reduceLeDiff, Nat.reduceBEq, Nat.reduceBNe, beq_self_eq_true, Int.reduceNeg, Int.reduceToNat, Nat.lt_add_one, ro, uR, d, w1]
      exact done [] _ [(1000, ro true b ((a + (decU (b.drop a) bits).2.1 : Nat) : Int) 0)] (by simp only [go_sem, ↓reduceIte, Nat.reduceEqDiff, Nat.reduceLT, reduceCtorEq, Nat.reduceAdd, Nat.zero_add, decide_eq_true_eq, decide_eq_false_iff_not, Nat.reduceLeDiff, Nat.reduceBEq, Nat.reduceBNe, beq_self_eq_true, Int.reduceNeg, Int.reduceToNat, Nat.lt_add_one]) (by simp only [go_sem, ↓reduceIte, Nat.reduceEqDiff, Nat.reduceLT, reduceCtorEq, Nat.reduceAdd, Nat.zero_add, decide_eq_true_eq, decide_eq_false_iff_not, Nat.reduceLeDiff, Nat.reduceBEq, Nat.reduceBNe, beq_self_eq_true, Int.reduceNeg, Int.reduceToNat, Nat.lt_add_one, ro]) rfl ⟨rfl, rfl⟩
    · have d : ((decU (b.drop a) bits).2.2 != 0) = true := by simp [hq]
      have r : rU true bits b a 0 = (0, a, (decU (b.drop a) bits).2.2) := by simp [rU, hq]
      rw [r]
      simp only [go_sem, ↓reduceIte, Nat.reduceEqDiff, Nat.reduceLT, reduceCtorEq, Nat.reduceAdd, Nat.zero_add, decide_eq_true_eq, decide_eq_false_iff_not, Nat.reduceLeDiff, Nat.reduceBEq, Nat.reduceBNe, beq_self_eq_true, Int.reduceNeg, Int.reduceToNat, Nat.lt_add_one, ro, uR, d]
      refine call_m (s_fail_ok b a (decU (b.drop a) bits).2.2) ⟨by decide, by decide⟩ rfl (by simp [go_sem]) rfl rfl (by simp only [go_sem, ↓reduceIte, Nat.reduceEqDiff, Nat.reduceLT, reduceCtorEq, Nat.reduceAdd, Nat.zero_add, decide_eq_true_eq, decide_eq_false_iff_not, Nat.reduceLeDiff, Nat.reduceBEq, Nat.reduceBNe, beq_self_eq_true, Int.reduceNeg, Int.reduceToNat, Nat.lt_add_one, ro]) ?_
      simp only [go_sem, ↓reduceIte, Nat.reduceEqDiff, Nat.reduceLT, reduceCtorEq, Nat.reduceAdd, Nat.zero_add, decide_eq_true_eq, decide_eq_false_iff_not, Nat.reduceLeDiff, Nat.reduceBEq, Nat.reduceBNe, beq_self_eq_true, Int.reduceNeg, Int.reduceToNat, Nat.lt_add_one, ro]
      exact done [] _ [(1000, ro true b a (decU (b.drop a) bits).2.2)] (by simp only [go_sem, ↓reduceIte, Nat.reduceEqDiff, Nat.reduceLT, reduceCtorEq, Nat.reduceAdd, Nat.zero_add, decide_eq_true_eq, decide_eq_false_iff_not, Nat.reduceLeDiff, Nat.reduceBEq, Nat.reduceBNe, beq_self_eq_true, Int.reduceNeg, Int.reduceToNat, Nat.lt_add_one]; rfl) (by simp only [go_sem, ↓reduceIte, Nat.reduceEqDiff, Nat.reduceLT, reduceCtorEq, Nat.reduceAdd, Nat.zero_add, decide_eq_true_eq, decide_eq_false_iff_not, Nat.reduceLeDiff, Nat.reduceBEq, Nat.reduceBNe, beq_self_eq_true, Int.reduceNeg, Int.reduceToNat, Nat.lt_add_one, ro]) rfl ⟨rfl, rfl⟩

theorem s_signed (m : Bool) (bits : Nat) (b : List UInt8) (a : Nat) (e : Int) (hbits : 1 ≤ bits ∧ bits ≤ 64) (ha : a ≤ b.length) (hb : b.length < 1000000000) :
    RM n_Poctet_Reader_signed [.int .i64 bits] m b a e (.int .i64 (rS (m && e == 0) bits b a e).1) (rS (m && e == 0) bits b a e).2.1 (rS (m && e == 0) bits b a e).2.2 := by
  refine fun_sound (ic := F_Poctet_Reader_signed.body) mixed c_Poctet_Reader_signed rfl rfl ?_
  simp only [F_Poctet_Reader_signed, ro, go_sem, ↓reduceIte, Nat.reduceEqDiff, Nat.reduceLT, reduceCtorEq, Nat.reduceAdd, Nat.zero_add, decide_eq_true_eq, decide_eq_false_iff_not, Nat.reduceLeDiff, Nat.reduceBEq, Nat.reduceBNe, beq_self_eq_true, Int.reduceNeg, Int.reduceToNat, Nat.lt_add_one]
  refine call_m (s_sound m b a e) ⟨by decide, by decide⟩ rfl (by simp) rfl rfl (by simp only [go_sem, ↓reduceIte, Nat.reduceEqDiff, Nat.reduceLT, reduceCtorEq, Nat.reduceAdd, Nat.zero_add, decide_eq_true_eq, decide_eq_false_iff_not, Nat.reduceLeDiff, Nat.reduceBEq, Nat.reduceBNe, beq_self_eq_true, Int.reduceNeg, Int.reduceToNat, Nat.lt_add_one, ro]) ?_
  cases h : (m && e == 0)
  · have r : rS false bits b a e = (0, a, e) := by simp [rS]
    simp only [go_sem, ↓reduceIte, Nat.reduceEqDiff, Nat.reduceLT, reduceCtorEq, Nat.reduceAdd, Nat.zero_add, decide_eq_true_eq, decide_eq_false_iff_not, Nat.reduceLeDiff, Nat.reduceBEq, Nat.reduceBNe, beq_self_eq_true, Int.reduceNeg, Int.reduceToNat, Nat.lt_add_one, ro, r]
    exact done [] _ [(1000, ro m b a e)] (by simp only [go_sem, ↓reduceIte, Nat.reduceEqDiff, Nat.reduceLT, reduceCtorEq, Nat.reduceAdd, Nat.zero_add, decide_eq_true_eq, decide_eq_false_iff_not, Nat.reduceLeDiff, Nat.reduceBEq, Nat.reduceBNe, beq_self_eq_true, Int.reduceNeg, Int.reduceToNat, Nat.lt_add_one]) (by simp only [go_sem, ↓reduceIte, Nat.reduceEqDiff, Nat.reduceLT, reduceCtorEq, Nat.reduceAdd, Nat.zero_add, decide_eq_true_eq, decide_eq_false_iff_not, Nat.reduceLeDiff, Nat.reduceBEq, Nat.reduceBNe, beq_self_eq_true, Int.reduceNeg, Int.reduceToNat, Nat.lt_add_one, ro]) rfl ⟨rfl, rfl⟩
  · obtain ⟨rfl, h2⟩ := Bool.and_eq_true_iff.1 h
    obtain rfl : e = 0 := by simpa using h2
    simp only [go_sem, ↓reduceIte, Nat.reduceEqDiff, Nat.reduceLT, reduceCtorEq, Nat.reduceAdd, Nat.zero_add, decide_eq_true_eq, decide_eq_false_iff_not, Nat.reduceLeDiff, Nat.reduceBEq, Nat.reduceBNe, beq_self_eq_true, Int.reduceNeg, Int.reduceToNat, Nat.lt_add_one, ro]
    have hk := decS_k (b.drop a) bits
    simp only [List.length_drop] at hk
    refine ⟨⟨by omega, by omega⟩, dcall_same (s_S (b.drop a) bits hbits) (by simp [go_sem]) (by rfl) ?_⟩
    by_cases hq : (decS (b.drop a) bits).2.2 = 0
    · have d : ((decS (b.drop a) bits).2.2 != 0) = false := by simp [hq]
      have r : rS true bits b a 0 = ((decS (b.drop a) bits).1, a + (decS (b.drop a) bits).2.1, 0) := by simp [rS, hq]
      have w1 : IntKind.i64.wrap ((a : Int) + ((decS (b.drop a) bits).2.1 : Int)) = ((a + (decS (b.drop a) bits).2.1 : Nat) : Int) := by rw [wi (by omega) (by omega)]; omega
      rw [r]
      simp only [go_sem, ↓reduceIte, Nat.reduceEqDiff, Nat.reduceLT, reduceCtorEq, Nat.reduceAdd, Nat.zero_add, decide_eq_true_eq, decide_eq_false_iff_not, Nat.reduceLeDiff, Nat.reduceBEq, Nat.reduceBNe, beq_self_eq_true, Int.reduceNeg, Int.reduceToNat, Nat.lt_add_one, ro, sR, d, w1]
      exact done [] _ [(1000, ro true b ((a + (decS (b.drop a) bits).2.1 : Nat) : Int) 0)] (by simp only [go_sem, ↓reduceIte, Nat.reduceEqDiff, Nat.reduceLT, reduceCtorEq, Nat.reduceAdd, Nat.zero_add, decide_eq_true_eq, decide_eq_false_iff_not, Nat.reduceLeDiff, Nat.reduceBEq, Nat.reduceBNe, beq_self_eq_true, Int.reduceNeg, Int.reduceToNat, Nat.lt_add_one]) (by simp only [go_sem, ↓reduceIte, Nat.reduceEqDiff, Nat.reduceLT, reduceCtorEq, Nat.reduceAdd, Nat.zero_add, decide_eq_true_eq, decide_eq_false_iff_not, Nat.reduceLeDiff, Nat.reduceBEq, Nat.reduceBNe, beq_self_eq_true, Int.reduceNeg, Int.reduceToNat, Nat.lt_add_one, ro]) rfl ⟨rfl, rfl⟩
    · have d : ((decS (b.drop a) bits).2.2 != 0) = true := by simp [hq]
      have r : rS true bits b a 0 = (0, a, (decS (b.drop a) bits).2.2) := by simp [rS, hq]
      rw [r]
      simp only [go_sem, ↓reduceIte, Nat.reduceEqDiff, Nat.reduceLT, reduceCtorEq, Nat.reduceAdd, Nat.zero_add, decide_eq_true_eq, decide_eq_false_iff_not, Nat.reduceLeDiff, Nat.reduceBEq, Nat.reduceBNe, beq_self_eq_true, Int.reduceNeg, Int.reduceToNat, Nat.lt_add_one, ro, sR, d]
      refine call_m (s_fail_ok b a (decS (b.drop a) bits).2.2) ⟨by decide, by decide⟩ rfl (by simp [go_sem]) rfl rfl (by simp only [go_sem, ↓reduceIte, Nat.reduceEqDiff, Nat.reduceLT, reduceCtorEq, Nat.reduceAdd, Nat.zero_add, decide_eq_true_eq, decide_eq_false_iff_not, Nat.reduceLeDiff, Nat.reduceBEq, Nat.reduceBNe, beq_self_eq_true, Int.reduceNeg, Int.reduceToNat, Nat.lt_add_one, ro]) ?_
      simp only [go_sem, ↓reduceIte, Nat.reduceEqDiff, Nat.reduceLT, reduceCtorEq, Nat.reduceAdd, Nat.zero_add, decide_eq_true_eq, decide_eq_false_iff_not, Nat.reduceLeDiff, Nat.reduceBEq, Nat.reduceBNe, beq_self_eq_true, Int.reduceNeg, Int.reduceToNat, Nat.lt_add_one, ro]
      exact done [] _ [(1000, ro true b a (decS (b.drop a) bits).2.2)] (by simp only [go_sem, ↓reduceIte, Nat.reduceEqDiff, Nat.reduceLT, reduceCtorEq, Nat.reduceAdd, Nat.zero_add, decide_eq_true_eq, decide_eq_false_iff_not, Nat.reduceLeDiff, Nat.reduceBEq, Nat.reduceBNe, beq_self_eq_true, Int.reduceNeg, Int.reduceToNat, Nat.lt_add_one]) (by simp only [go_sem, ↓reduceIte, Nat.reduceEqDiff, Nat.reduceLT, reduceCtorEq, Nat.reduceAdd, Nat.zero_add, decide_eq_true_eq, decide_eq_false_iff_not, Nat.reduceLeDiff, Nat.reduceBEq, Nat.reduceBNe, beq_self_eq_true, Int.reduceNeg, Int.reduceToNat, Nat.lt_add_one, ro]) rfl ⟨rfl, rfl⟩

theorem s_U32 (m : Bool) (b : List UInt8) (a : Nat) (e : Int) (ha : a ≤ b.length) (hb : b.length < 1000000000) :
    RM n_Poctet_Reader_U32 [] m b a e (.int .i64 (rU (m && e == 0) 32 b a e).1) (rU (m && e == 0) 32 b a e).2.1 (rU (m && e == 0) 32 b a e).2.2 := by
  refine fun_sound (ic := F_Poctet_Reader_U32.body) mixed c_Poctet_Reader_U32 rfl rfl ?_
  have hl := rU_lt (m && e == 0) b a e
  have w1 : IntKind.i64.wrap ((rU (m && e == 0) 32 b a e).1 : Int) = ((rU (m && e == 0) 32 b a e).1 : Int) := wi (by omega) (by omega)
  simp only [F_Poctet_Reader_U32, ro, go_sem, ↓reduceIte, Nat.reduceEqDiff, Nat.reduceLT, reduceCtorEq, Nat.reduceAdd, Nat.zero_add, decide_eq_true_eq, decide_eq_false_iff_not, Nat.reduceLeDiff, Nat.reduceBEq, Nat.reduceBNe, beq_self_eq_true, Int.reduceNeg, Int.reduceToNat, Nat.lt_add_one]
  refine call_m (s_unsigned m 32 b a e (by decide) ha hb) ⟨by decide, by decide⟩ rfl (by simp [go_sem]) rfl rfl (by simp only [go_sem, ↓reduceIte, Nat.reduceEqDiff, Nat.reduceLT, reduceCtorEq, Nat.reduceAdd, Nat.zero_add, decide_eq_true_eq, decide_eq_false_iff_not, Nat.reduceLeDiff, Nat.reduceBEq, Nat.reduceBNe, beq_self_eq_true, Int.reduceNeg, Int.reduceToNat, Nat.lt_add_one, ro]) ?_
  simp only [go_sem, ↓reduceIte, Nat.reduceEqDiff, Nat.reduceLT, reduceCtorEq, Nat.reduceAdd, Nat.zero_add, decide_eq_true_eq, decide_eq_false_iff_not, Nat.reduceLeDiff, Nat.reduceBEq, Nat.reduceBNe, beq_self_eq_true, Int.reduceNeg, Int.reduceToNat, Nat.lt_add_one, ro, w1]
  exact done [] _ [(1000, ro m b (rU (m && e == 0) 32 b a e).2.1 (rU (m && e == 0) 32 b a e).2.2)] (by simp only [go_sem, ↓reduceIte, Nat.reduceEqDiff, Nat.reduceLT, reduceCtorEq, Nat.reduceAdd, Nat.zero_add, decide_eq_true_eq, decide_eq_false_iff_not, Nat.reduceLeDiff, Nat.reduceBEq, Nat.reduceBNe, beq_self_eq_true, Int.reduceNeg, Int.reduceToNat, Nat.lt_add_one]) (by simp only [go_sem, ↓reduceIte, Nat.reduceEqDiff, Nat.reduceLT, reduceCtorEq, Nat.reduceAdd, Nat.zero_add, decide_eq_true_eq, decide_eq_false_iff_not, Nat.reduceLeDiff, Nat.reduceBEq, Nat.reduceBNe, beq_self_eq_true, Int.reduceNeg, Int.reduceToNat, Nat.lt_add_one, ro]) rfl ⟨rfl, rfl⟩
theorem s_S32 (m : Bool) (b : List UInt8) (a : Nat) (e : Int) (ha : a ≤ b.length) (hb : b.length < 1000000000) :
    RM n_Poctet_Reader_S32 [] m b a e (.int .u64 (IntKind.u64.wrap (IntKind.u32.wrap (rS (m && e == 0) 32 b a e).1))) (rS (m && e == 0) 32 b a e).2.1 (rS (m && e == 0) 32 b a e).2.2 := by
  refine fun_sound (ic := F_Poctet_Reader_S32.body) mixed c_Poctet_Reader_S32 rfl rfl ?_
  simp only [F_Poctet_Reader_S32, ro, go_sem, ↓reduceIte, Nat.reduceEqDiff, Nat.reduceLT, reduceCtorEq, Nat.reduceAdd, Nat.zero_add, decide_eq_true_eq, decide_eq_false_iff_not, Nat.reduceLeDiff, Nat.reduceBEq, Nat.reduceBNe, beq_self_eq_true, Int.reduceNeg, Int.reduceToNat, Nat.lt_add_one]
  refine call_m (s_signed m 32 b a e (by decide) ha hb) ⟨by decide, by decide⟩ rfl (by simp [go_sem]) rfl rfl (by simp only [go_sem, ↓reduceIte, Nat.reduceEqDiff, Nat.reduceLT, reduceCtorEq, Nat.reduceAdd, Nat.zero_add, decide_eq_true_eq, decide_eq_false_iff_not, Nat.reduceLeDiff, Nat.reduceBEq, Nat.reduceBNe, beq_self_eq_true, Int.reduceNeg, Int.reduceToNat, Nat.lt_add_one, ro]) ?_
  simp only [go_sem, ↓reduceIte, Nat.reduceEqDiff, Nat.reduceLT, reduceCtorEq, Nat.reduceAdd, Nat.zero_add, decide_eq_true_eq, decide_eq_false_iff_not, Nat.reduceLeDiff, Nat.reduceBEq, Nat.reduceBNe, beq_self_eq_true, Int.reduceNeg, Int.reduceToNat, Nat.lt_add_one, ro]
  exact done [] _ [(1000, ro m b (rS (m && e == 0) 32 b a e).2.1 (rS (m && e == 0) 32 b a e).2.2)] (by simp only [go_sem, ↓reduceIte, Nat.reduceEqDiff, Nat.reduceLT, reduceCtorEq, Nat.reduceAdd, Nat.zero_add, decide_eq_true_eq, decide_eq_false_iff_not, Nat.reduceLeDiff, Nat.reduceBEq, Nat.reduceBNe, beq_self_eq_true, Int.reduceNeg, Int.reduceToNat, Nat.lt_add_one]) (by simp only [go_sem, ↓reduceIte, Nat.reduceEqDiff, Nat.reduceLT, reduceCtorEq, Nat.reduceAdd, Nat.zero_add, decide_eq_true_eq, decide_eq_false_iff_not, Nat.reduceLeDiff, Nat.reduceBEq, Nat.reduceBNe, beq_self_eq_true, Int.reduceNeg, Int.reduceToNat, Nat.lt_add_one, ro]) rfl ⟨rfl, rfl⟩
theorem s_S33 (m : Bool) (b : List UInt8) (a : Nat) (e : Int) (ha : a ≤ b.length) (hb : b.length < 1000000000) :
    RM n_Poctet_Reader_S33 [] m b a e (.int .i64 (rS (m && e == 0) 33 b a e).1) (rS (m && e == 0) 33 b a e).2.1 (rS (m && e == 0) 33 b a e).2.2 := by
  refine fun_sound (ic := F_Poctet_Reader_S33.body) mixed c_Poctet_Reader_S33 rfl rfl ?_
  simp only [F_Poctet_Reader_S33, ro, go_sem, ↓reduceIte, Nat.reduceEqDiff, Nat.reduceLT, reduceCtorEq, Nat.reduceAdd, Nat.zero_add, decide_eq_true_eq, decide_eq_false_iff_not, Nat.reduceLeDiff, Nat.reduceBEq, Nat.reduceBNe, beq_self_eq_true, Int.reduceNeg, Int.reduceToNat, Nat.lt_add_one]
  refine call_m (s_signed m 33 b a e (by decide) ha hb) ⟨by decide, by decide⟩ rfl (by simp [go_sem]) rfl rfl (by simp only [go_sem, ↓reduceIte, Nat.reduceEqDiff, Nat.reduceLT, reduceCtorEq, Nat.reduceAdd, Nat.zero_add, decide_eq_true_eq, decide_eq_false_iff_not, Nat.reduceLeDiff, Nat.reduceBEq, Nat.reduceBNe, beq_self_eq_true, Int.reduceNeg, Int.reduceToNat, Nat.lt_add_one, ro]) ?_
  simp only [go_sem, ↓reduceIte, Nat.reduceEqDiff, Nat.reduceLT, reduceCtorEq, Nat.reduceAdd, Nat.zero_add, decide_eq_true_eq, decide_eq_false_iff_not, Nat.reduceLeDiff, Nat.reduceBEq, Nat.reduceBNe, beq_self_eq_true, Int.reduceNeg, Int.reduceToNat, Nat.lt_add_one, ro]
  exact done [] _ [(1000, ro m b (rS (m && e == 0) 33 b a e).2.1 (rS (m && e == 0) 33 b a e).2.2)] (by simp only [go_sem, ↓reduceIte, Nat.reduceEqDiff, Nat.reduceLT, reduceCtorEq, Nat.reduceAdd, Nat.zero_add, decide_eq_true_eq, decide_eq_false_iff_not, Nat.reduceLeDiff, Nat.reduceBEq, Nat.reduceBNe, beq_self_eq_true, Int.reduceNeg, Int.reduceToNat, Nat.lt_add_one]) (by simp only [go_sem, ↓reduceIte, Nat.reduceEqDiff, Nat.reduceLT, reduceCtorEq, Nat.reduceAdd, Nat.zero_add, decide_eq_true_eq, decide_eq_false_iff_not, Nat.reduceLeDiff, Nat.reduceBEq, Nat.reduceBNe, beq_self_eq_true, Int.reduceNeg, Int.reduceToNat, Nat.lt_add_one, ro]) rfl ⟨rfl, rfl⟩
theorem s_S64 (m : Bool) (b : List UInt8) (a : Nat) (e : Int) (ha : a ≤ b.length) (hb : b.length < 1000000000) :
    RM n_Poctet_Reader_S64 [] m b a e (.int .u64 (IntKind.u64.wrap (rS (m && e == 0) 64 b a e).1)) (rS (m && e == 0) 64 b a e).2.1 (rS (m && e == 0) 64 b a e).2.2 := by
  refine fun_sound (ic := F_Poctet_Reader_S64.body) mixed c_Poctet_Reader_S64 rfl rfl ?_
  simp only [F_Poctet_Reader_S64, ro, go_sem, ↓reduceIte, Nat.reduceEqDiff, Nat.reduceLT, reduceCtorEq, Nat.reduceAdd, Nat.zero_add, decide_eq_true_eq, decide_eq_false_iff_not, Nat.reduceLeDiff, Nat.reduceBEq, Nat.reduceBNe, beq_self_eq_true, Int.reduceNeg, Int.reduceToNat, Nat.lt_add_one]
  refine call_m (s_signed m 64 b a e (by decide) ha hb) ⟨by decide, by decide⟩ rfl (by simp [go_sem]) rfl rfl (by simp only [go_sem, ↓reduceIte, Nat.reduceEqDiff, Nat.reduceLT, reduceCtorEq, Nat.reduceAdd, Nat.zero_add, decide_eq_true_eq, decide_eq_false_iff_not, Nat.reduceLeDiff, Nat.reduceBEq, Nat.reduceBNe, beq_self_eq_true, Int.reduceNeg, Int.reduceToNat, Nat.lt_add_one, ro]) ?_
  simp only [go_sem, ↓reduceIte, Nat.reduceEqDiff, Nat.reduceLT, reduceCtorEq, Nat.reduceAdd, Nat.zero_add, decide_eq_true_eq, decide_eq_false_iff_not, Nat.reduceLeDiff, Nat.reduceBEq, Nat.reduceBNe, beq_self_eq_true, Int.reduceNeg, Int.reduceToNat, Nat.lt_add_one, ro]
  exact done [] _ [(1000, ro m b (rS (m && e == 0) 64 b a e).2.1 (rS (m && e == 0) 64 b a e).2.2)] (by simp only [go_sem, ↓reduceIte, Nat.reduceEqDiff, Nat.reduceLT, reduceCtorEq, Nat.reduceAdd, Nat.zero_add, decide_eq_true_eq, decide_eq_false_iff_not, Nat.reduceLeDiff, Nat.reduceBEq, Nat.reduceBNe, beq_self_eq_true, Int.reduceNeg, Int.reduceToNat, Nat.lt_add_one]) (by simp only [go_sem, ↓reduceIte, Nat.reduceEqDiff, Nat.reduceLT, reduceCtorEq, Nat.reduceAdd, Nat.zero_add, decide_eq_true_eq, decide_eq_false_iff_not, Nat.reduceLeDiff, Nat.reduceBEq, Nat.reduceBNe, beq_self_eq_true, Int.reduceNeg, Int.reduceToNat, Nat.lt_add_one, ro]) rfl ⟨rfl, rfl⟩

theorem s_count (m : Bool) (b : List UInt8) (a : Nat) (e most : Int) (ha : a ≤ b.length) (hb : b.length < 1000000000) :
    RM n_Poctet_Reader_Count [.int .i64 most] m b a e (.int .i64 (rCount (m && e == 0) b a e most).1) (rCount (m && e == 0) b a e most).2.1 (rCount (m && e == 0) b a e most).2.2 := by
  refine fun_sound (ic := F_Poctet_Reader_Count.body) mixed c_Poctet_Reader_Count rfl rfl ?_
  simp only [F_Poctet_Reader_Count, ro, go_sem, ↓reduceIte, Nat.reduceEqDiff, Nat.reduceLT, reduceCtorEq, Nat.reduceAdd, Nat.zero_add, decide_eq_true_eq, decide_eq_false_iff_not, Nat.reduceLeDiff, Nat.reduceBEq, Nat.reduceBNe, beq_self_eq_true, Int.reduceNeg, Int.reduceToNat, Nat.lt_add_one]
  refine call_m (s_sound m b a e) ⟨by decide, by decide⟩ rfl (by simp) rfl rfl (by simp only [go_sem, ↓reduceIte, Nat.reduceEqDiff, Nat.reduceLT, reduceCtorEq, Nat.reduceAdd, Nat.zero_add, decide_eq_true_eq, decide_eq_false_iff_not, Nat.reduceLeDiff, Nat.reduceBEq, Nat.reduceBNe, beq_self_eq_true, Int.reduceNeg, Int.reduceToNat, Nat.lt_add_one, ro]) ?_
  cases h : (m && e == 0)
  · have r : rCount false b a e most = (0, a, e) := by simp [rCount]
    simp only [go_sem, ↓reduceIte, Nat.reduceEqDiff, Nat.reduceLT, reduceCtorEq, Nat.reduceAdd, Nat.zero_add, decide_eq_true_eq, decide_eq_false_iff_not, Nat.reduceLeDiff, Nat.reduceBEq, Nat.reduceBNe, beq_self_eq_true, Int.reduceNeg, Int.reduceToNat, Nat.lt_add_one, ro, r]
    exact done [] _ [(1000, ro m b a e)] (by simp only [go_sem, ↓reduceIte, Nat.reduceEqDiff, Nat.reduceLT, reduceCtorEq, Nat.reduceAdd, Nat.zero_add, decide_eq_true_eq, decide_eq_false_iff_not, Nat.reduceLeDiff, Nat.reduceBEq, Nat.reduceBNe, beq_self_eq_true, Int.reduceNeg, Int.reduceToNat, Nat.lt_add_one]; rfl) (by simp only [go_sem, ↓reduceIte, Nat.reduceEqDiff, Nat.reduceLT, reduceCtorEq, Nat.reduceAdd, Nat.zero_add, decide_eq_true_eq, decide_eq_false_iff_not, Nat.reduceLeDiff, Nat.reduceBEq, Nat.reduceBNe, beq_self_eq_true, Int.reduceNeg, Int.reduceToNat, Nat.lt_add_one, ro]) rfl ⟨rfl, rfl⟩
  · obtain ⟨rfl, h2⟩ := Bool.and_eq_true_iff.1 h
    obtain rfl : e = 0 := by simpa using h2
    simp only [go_sem, ↓reduceIte, Nat.reduceEqDiff, Nat.reduceLT, reduceCtorEq, Nat.reduceAdd, Nat.zero_add, decide_eq_true_eq, decide_eq_false_iff_not, Nat.reduceLeDiff, Nat.reduceBEq, Nat.reduceBNe, beq_self_eq_true, Int.reduceNeg, Int.reduceToNat, Nat.lt_add_one, ro]
    refine call_m (s_U32 true b a 0 ha hb) ⟨by decide, by decide⟩ rfl (by simp [go_sem]) rfl rfl (by simp only [go_sem, ↓reduceIte, Nat.reduceEqDiff, Nat.reduceLT, reduceCtorEq, Nat.reduceAdd, Nat.zero_add, decide_eq_true_eq, decide_eq_false_iff_not, Nat.reduceLeDiff, Nat.reduceBEq, Nat.reduceBNe, beq_self_eq_true, Int.reduceNeg, Int.reduceToNat, Nat.lt_add_one, ro]) ?_
    rw [h]
    by_cases hq : (rU true 32 b a 0).2.2 = 0
    · have d : ((rU true 32 b a 0).2.2 == 0) = true := by simp [hq]
      by_cases hm : ((rU true 32 b a 0).1 : Int) > most
      · have d2 : decide (((rU true 32 b a 0).1 : Int) > most) = true := by simpa using hm
        have r : rCount true b a 0 most = (0, a, 6) := by simp only [rCount, if_true]; rw [if_pos ⟨hq, hm⟩]
        simp only [go_sem, ↓reduceIte, Nat.reduceEqDiff, Nat.reduceLT, reduceCtorEq, Nat.reduceAdd, Nat.zero_add, decide_eq_true_eq, decide_eq_false_iff_not, Nat.reduceLeDiff, Nat.reduceBEq, Nat.reduceBNe, beq_self_eq_true, Int.reduceNeg, Int.reduceToNat, Nat.lt_add_one, ro, d, d2, hq]
        refine call_m (s_fail_ok b a 6) ⟨by decide, by decide⟩ rfl (by simp [go_sem]) rfl rfl (by simp only [go_sem, ↓reduceIte, Nat.reduceEqDiff, Nat.reduceLT, reduceCtorEq, Nat.reduceAdd, Nat.zero_add, decide_eq_true_eq, decide_eq_false_iff_not, Nat.reduceLeDiff, Nat.reduceBEq, Nat.reduceBNe, beq_self_eq_true, Int.reduceNeg, Int.reduceToNat, Nat.lt_add_one, ro]) ?_
        rw [r]
        simp only [go_sem, ↓reduceIte, Nat.reduceEqDiff, Nat.reduceLT, reduceCtorEq, Nat.reduceAdd, Nat.zero_add, decide_eq_true_eq, decide_eq_false_iff_not, Nat.reduceLeDiff, Nat.reduceBEq, Nat.reduceBNe, beq_self_eq_true, Int.reduceNeg, Int.reduceToNat, Nat.lt_add_one, ro]
        exact done [] _ [(1000, ro true b a 6)] (by simp only [go_sem, ↓reduceIte, Nat.reduceEqDiff, Nat.reduceLT, reduceCtorEq, Nat.reduceAdd, Nat.zero_add, decide_eq_true_eq, decide_eq_false_iff_not, Nat.reduceLeDiff, Nat.reduceBEq, Nat.reduceBNe, beq_self_eq_true, Int.reduceNeg, Int.reduceToNat, Nat.lt_add_one]; rfl) (by simp only [go_sem, ↓reduceIte, Nat.reduceEqDiff, Nat.reduceLT, reduceCtorEq, Nat.reduceAdd, Nat.zero_add, decide_eq_true_eq, decide_eq_false_iff_not, Nat.reduceLeDiff, Nat.reduceBEq, Nat.reduceBNe, beq_self_eq_true, Int.reduceNeg, Int.reduceToNat, Nat.lt_add_one, ro]) rfl ⟨rfl, rfl⟩
      · have d2 : decide (((rU true 32 b a 0).1 : Int) > most) = false := by simpa using hm
        have r : rCount true b a 0 most = rU true 32 b a 0 := by simp only [rCount, if_true]; rw [if_neg (fun hh => hm hh.2)]
        rw [r]
        simp only [go_sem, ↓reduceIte, Nat.reduceEqDiff, Nat.reduceLT, reduceCtorEq, Nat.reduceAdd, Nat.zero_add, decide_eq_true_eq, decide_eq_false_iff_not, Nat.reduceLeDiff, Nat.reduceBEq, Nat.reduceBNe, beq_self_eq_true, Int.reduceNeg, Int.reduceToNat, Nat.lt_add_one, ro, d, d2]
        exact done [] _ [(1000, ro true b (rU true 32 b a 0).2.1 (rU true 32 b a 0).2.2)] (by simp only [go_sem, ↓reduceIte, Nat.reduceEqDiff, Nat.reduceLT, reduceCtorEq, Nat.reduceAdd, Nat.zero_add, decide_eq_true_eq, decide_eq_false_iff_not, Nat.reduceLeDiff, Nat.reduceBEq, Nat.reduceBNe, beq_self_eq_true, Int.reduceNeg, Int.reduceToNat, Nat.lt_add_one]) (by simp only [go_sem, ↓reduceIte, Nat.reduceEqDiff, Nat.reduceLT, reduceCtorEq, Nat.reduceAdd, Nat.zero_add, decide_eq_true_eq, decide_eq_false_iff_not, Nat.reduceLeDiff, Nat.reduceBEq, Nat.reduceBNe, beq_self_eq_true, Int.reduceNeg, Int.reduceToNat, Nat.lt_add_one, ro]) rfl ⟨rfl, rfl⟩
    · have d : ((rU true 32 b a 0).2.2 == 0) = false := by simp [hq]
      have r : rCount true b a 0 most = rU true 32 b a 0 := by simp only [rCount, if_true]; rw [if_neg (fun hh => hq hh.1)]
      rw [r]
      simp only [go_sem, ↓reduceIte, Nat.reduceEqDiff, Nat.reduceLT, reduceCtorEq, Nat.reduceAdd, Nat.zero_add, decide_eq_true_eq, decide_eq_false_iff_not, Nat.reduceLeDiff, Nat.reduceBEq, Nat.reduceBNe, beq_self_eq_true, Int.reduceNeg, Int.reduceToNat, Nat.lt_add_one, ro, d]
      exact done [] _ [(1000, ro true b (rU true 32 b a 0).2.1 (rU true 32 b a 0).2.2)] (by simp only [go_sem, ↓reduceIte, Nat.reduceEqDiff, Nat.reduceLT, reduceCtorEq, Nat.reduceAdd, Nat.zero_add, decide_eq_true_eq, decide_eq_false_iff_not, Nat.reduceLeDiff, Nat.reduceBEq, Nat.reduceBNe, beq_self_eq_true, Int.reduceNeg, Int.reduceToNat, Nat.lt_add_one]) (by simp only [go_sem, ↓reduceIte, Nat.reduceEqDiff, Nat.reduceLT, reduceCtorEq, Nat.reduceAdd, Nat.zero_add, decide_eq_true_eq, decide_eq_false_iff_not, Nat.reduceLeDiff, Nat.reduceBEq, Nat.reduceBNe, beq_self_eq_true, Int.reduceNeg, Int.reduceToNat, Nat.lt_add_one, ro]) rfl ⟨rfl, rfl⟩
end Go.Proofs.YtkejmhpodhbeeaaDoor
