/-
  Chapter 2, walks: methods of a Reader that hand out arrays; the law OctetOwn.
-/
import Derived.Test.YtkejmhpodhbeeaaDoorXf
set_option linter.unusedSimpArgs false
set_option maxRecDepth 100000
set_option maxHeartbeats 4000000
namespace Go.Proofs.YtkejmhpodhbeeaaDoor
open Go Go.Mw

theorem s_read_own (b : List UInt8) (hb : b.length < 1000000000) : ACalls Tryd.prog n_octet_Read [.ms 1001 1 0 b.length] [(1001, wa b)] sb (fun r' σ' => r' = .mp 6 4 0 0 ∧ σ' = [(1001, wa b), (6, ro true b ((0 : Nat) : Int) 0)]) := by
  refine fun_sound (ic := F_octet_Read.body) mixed c_octet_Read rfl rfl ?_
  have hr := rowO_map 1 b.length 5 by_ b rfl
  simp only [F_octet_Read, wa, go_sem, ↓reduceIte, Nat.reduceEqDiff, Nat.reduceLT, reduceCtorEq, Nat.reduceAdd, Nat.zero_add, decide_eq_true_eq, decide_eq_false_iff_not, Nat.reduceLeDiff, Nat.reduceBEq, Nat.reduceBNe, beq_self_eq_true, Int.reduceNeg, Int.reduceToNat, Nat.lt_add_one, hr]
  refine ⟨by omega, done [4] _ [(1001, wa b), (6, ro true b ((0 : Nat) : Int) 0)] (by simp only [go_sem, ↓reduceIte, Nat.reduceEqDiff, Nat.reduceLT, reduceCtorEq, Nat.reduceAdd, Nat.zero_add, decide_eq_true_eq, decide_eq_false_iff_not, Nat.reduceLeDiff, Nat.reduceBEq, Nat.reduceBNe, beq_self_eq_true, Int.reduceNeg, Int.reduceToNat, Nat.lt_add_one]) ?_ rfl ⟨rfl, rfl⟩⟩
  simp only [go_sem, ↓reduceIte, Nat.reduceEqDiff, Nat.reduceLT, reduceCtorEq, Nat.reduceAdd, Nat.zero_add, decide_eq_true_eq, decide_eq_false_iff_not, Nat.reduceLeDiff, Nat.reduceBEq, Nat.reduceBNe, beq_self_eq_true, Int.reduceNeg, Int.reduceToNat, Nat.lt_add_one, ro, wa, Nat.le_refl, List.length_map]
  rw [List.take_of_length_le (by simp)]
  rfl
theorem s_take_own (b : List UInt8) (a k : Nat) (ha : a + k ≤ b.length) (hb : b.length < 1000000000) :
    ACalls Tryd.prog n_Poctet_Reader_Take [.mp 1000 4 0 0, .int .i64 k] [(1000, ro true b a 0)] sb (fun r' σ' => r' = .ms 32 1 0 k ∧ σ' = [(1000, ro true b ((a + k : Nat) : Int) 0), (32, wa ((b.drop a).take k))]) := by
  refine fun_sound (ic := F_Poctet_Reader_Take.body) mixed c_Poctet_Reader_Take rfl rfl ?_
  simp only [F_Poctet_Reader_Take, ro, go_sem, ↓reduceIte, Nat.reduceEqDiff, Nat.reduceLT, reduceCtorEq, Nat.reduceAdd, Nat.zero_add, decide_eq_true_eq, decide_eq_false_iff_not, Nat.reduceLeDiff, Nat.reduceBEq, Nat.reduceBNe, beq_self_eq_true, Int.reduceNeg, Int.reduceToNat, Nat.lt_add_one]
  refine call_m (s_sound true b a 0) ⟨by decide, by decide⟩ rfl (by simp) rfl rfl (by simp only [go_sem, ↓reduceIte, Nat.reduceEqDiff, Nat.reduceLT, reduceCtorEq, Nat.reduceAdd, Nat.zero_add, decide_eq_true_eq, decide_eq_false_iff_not, Nat.reduceLeDiff, Nat.reduceBEq, Nat.reduceBNe, beq_self_eq_true, Int.reduceNeg, Int.reduceToNat, Nat.lt_add_one, ro]) ?_
  have d1 : decide ((k : Int) < 0) = false := decide_eq_false (by omega)
  have w1 : IntKind.i64.wrap ((b.length : Int) - (a : Int)) = (b.length : Int) - (a : Int) := wi (by omega) (by omega)
  have d2 : decide ((k : Int) > (b.length : Int) - (a : Int)) = false := decide_eq_false (by omega)
  have e1 : (true && (0 : Int) == 0) = true := rfl
  simp only [go_sem, ↓reduceIte, Nat.reduceEqDiff, Nat.reduceLT, reduceCtorEq, Nat.reduceAdd, Nat.zero_add, decide_eq_true_eq, decide_eq_false_iff_not, Nat.reduceLeDiff, Nat.reduceBEq, Nat.reduceBNe, beq_self_eq_true, Int.reduceNeg, Int.reduceToNat, Nat.lt_add_one, ro, d1, w1, d2, e1]
  refine call_m (s_cut b a k 0 (by omega) hb) ⟨by decide, by decide⟩ rfl (by simp [go_sem]) rfl rfl (by simp only [go_sem, ↓reduceIte, Nat.reduceEqDiff, Nat.reduceLT, reduceCtorEq, Nat.reduceAdd, Nat.zero_add, decide_eq_true_eq, decide_eq_false_iff_not, Nat.reduceLeDiff, Nat.reduceBEq, Nat.reduceBNe, beq_self_eq_true, Int.reduceNeg, Int.reduceToNat, Nat.lt_add_one, ro]) ?_
  have hl : ((b.drop a).take k).length = k := by simp; omega
  simp only [go_sem, ↓reduceIte, Nat.reduceEqDiff, Nat.reduceLT, reduceCtorEq, Nat.reduceAdd, Nat.zero_add, decide_eq_true_eq, decide_eq_false_iff_not, Nat.reduceLeDiff, Nat.reduceBEq, Nat.reduceBNe, beq_self_eq_true, Int.reduceNeg, Int.reduceToNat, Nat.lt_add_one, ro, hl]
  exact ⟨by omega, done [] _ [(1000, ro true b ((a + k : Nat) : Int) 0), (32, wa ((b.drop a).take k))] (by simp only [go_sem, ↓reduceIte, Nat.reduceEqDiff, Nat.reduceLT, reduceCtorEq, Nat.reduceAdd, Nat.zero_add, decide_eq_true_eq, decide_eq_false_iff_not, Nat.reduceLeDiff, Nat.reduceBEq, Nat.reduceBNe, beq_self_eq_true, Int.reduceNeg, Int.reduceToNat, Nat.lt_add_one]) (by simp only [go_sem, ↓reduceIte, Nat.reduceEqDiff, Nat.reduceLT, reduceCtorEq, Nat.reduceAdd, Nat.zero_add, decide_eq_true_eq, decide_eq_false_iff_not, Nat.reduceLeDiff, Nat.reduceBEq, Nat.reduceBNe, beq_self_eq_true, Int.reduceNeg, Int.reduceToNat, Nat.lt_add_one, ro, wa]) rfl ⟨rfl, rfl⟩⟩
theorem s_sub (b : List UInt8) (a k : Nat) (ha : a + k ≤ b.length) (hb : b.length < 1000000000) :
    ACalls Tryd.prog n_Poctet_Reader_Sub [.mp 1000 4 0 0, .int .i64 k] [(1000, ro true b a 0)] sb (fun r' σ' => r' = .mp 24 4 0 0 ∧ σ' = [(1000, ro true b ((a + k : Nat) : Int) 0), (24, ro true ((b.drop a).take k) ((0 : Nat) : Int) 0)]) := by
  refine fun_sound (ic := F_Poctet_Reader_Sub.body) mixed c_Poctet_Reader_Sub rfl rfl ?_
  have c1 := s_take true b a 0 k (by omega) hb (by omega)
  have r : rTake (true && (0 : Int) == 0) b a 0 (k : Int) = (some ((b.drop a).take k), a + k, 0) := by
    show rTake true b a 0 (k : Int) = _
    have h3 : ¬ ((k : Int) < 0) := by omega
    have h5 : ¬ ((k : Int) > (b.length : Int) - a) := by omega
    simp only [rTake, if_true, if_neg h3, if_neg h5, Int.toNat_natCast]
  rw [r] at c1
  simp only [F_Poctet_Reader_Sub, ro, go_sem, ↓reduceIte, Nat.reduceEqDiff, Nat.reduceLT, reduceCtorEq, Nat.reduceAdd, Nat.zero_add, decide_eq_true_eq, decide_eq_false_iff_not, Nat.reduceLeDiff, Nat.reduceBEq, Nat.reduceBNe, beq_self_eq_true, Int.reduceNeg, Int.reduceToNat, Nat.lt_add_one]
  refine call_m c1 ⟨by decide, by decide⟩ rfl (by simp [go_sem]) rfl rfl (by simp only [go_sem, ↓reduceIte, Nat.reduceEqDiff, Nat.reduceLT, reduceCtorEq, Nat.reduceAdd, Nat.zero_add, decide_eq_true_eq, decide_eq_false_iff_not, Nat.reduceLeDiff, Nat.reduceBEq, Nat.reduceBNe, beq_self_eq_true, Int.reduceNeg, Int.reduceToNat, Nat.lt_add_one, ro]) ?_
  simp only [go_sem, ↓reduceIte, Nat.reduceEqDiff, Nat.reduceLT, reduceCtorEq, Nat.reduceAdd, Nat.zero_add, decide_eq_true_eq, decide_eq_false_iff_not, Nat.reduceLeDiff, Nat.reduceBEq, Nat.reduceBNe, beq_self_eq_true, Int.reduceNeg, Int.reduceToNat, Nat.lt_add_one, ro]
  exact done [] _ [(1000, ro true b ((a + k : Nat) : Int) 0), (24, ro true ((b.drop a).take k) ((0 : Nat) : Int) 0)] (by simp only [go_sem, ↓reduceIte, Nat.reduceEqDiff, Nat.reduceLT, reduceCtorEq, Nat.reduceAdd, Nat.zero_add, decide_eq_true_eq, decide_eq_false_iff_not, Nat.reduceLeDiff, Nat.reduceBEq, Nat.reduceBNe, beq_self_eq_true, Int.reduceNeg, Int.reduceToNat, Nat.lt_add_one]) (by simp only [go_sem, ↓reduceIte, Nat.reduceEqDiff, Nat.reduceLT, reduceCtorEq, Nat.reduceAdd, Nat.zero_add, decide_eq_true_eq, decide_eq_false_iff_not, Nat.reduceLeDiff, Nat.reduceBEq, Nat.reduceBNe, beq_self_eq_true, Int.reduceNeg, Int.reduceToNat, Nat.lt_add_one, ro]; rfl) rfl ⟨rfl, rfl⟩
end Go.Proofs.YtkejmhpodhbeeaaDoor
