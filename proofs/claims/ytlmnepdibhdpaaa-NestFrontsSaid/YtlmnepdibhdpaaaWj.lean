/-
  Chapter 9, walks: the law NestFronts.
-/
import Derived.Test.YtlmnepdibhdpaaaWh
import Derived.Test.YtlmnepdibhdpaaaF
set_option linter.unusedSimpArgs false
set_option maxRecDepth 100000
set_option maxHeartbeats 4000000
namespace Go.Proofs.Ytlmnepdibhdpaaa
open Go Go.Mw

theorem dcall_lend {P : Program} {f : FuncId} {args args' : List AV} {i : Nat} {bf : List Nat} {op : IOp} {d : Option Nat} {hist : List HI} {s : St} {K : List HI → St → Prop} {r : AV} (hp : PCalls P f args' r) (hid : ∀ x ∈ args', idsV x = []) (hc : All2 (coe true (hget s.heap)) args args') (hf : flatV r = true) (hr : idsV r = [])
    (hk : plainOk op s .no = true ∧ histOk bf ⟨i, opIds op s.env, [], [], false, false⟩ hist = true ∧ K (⟨i, opIds op s.env, [], [], false, false⟩ :: hist) (s.put d r)) : idcall P f args i bf op d hist s K :=
  ⟨args', r, true, hp, hid, hc, fun _ => hf, hr, hk⟩

theorem w_fronts (B : List Ins) (c : Int) (x : Ins) (hc : 0 ≤ c ∧ c < 256) : PCalls Try.prog 7 [.sl 9 (B.map Ins.row), .int .u8 c, .agg x.row] (.bool true) := by
  refine pfun_sound (ic := F_law09_NestFronts.body) mixed c_law09_NestFronts rfl rfl ?_
  by_cases h1 : B.length > 200
  · have d1 : decide ((B.length : Int) > 200) = true := by simp <;> omega
    simp only [F_law09_NestFronts, go_sem, ↓reduceIte, Nat.reduceEqDiff, Nat.reduceLT, reduceCtorEq, Nat.reduceAdd, Nat.zero_add, decide_eq_true_eq, decide_eq_false_iff_not, Nat.reduceLeDiff, Nat.reduceBEq, Nat.reduceBNe, beq_self_eq_true, Int.reduceNeg, Int.reduceToNat, Nat.lt_add_one, d1, ↓row_not, ↓row_any, ↓row_all, ↓row_pur, ↓row_ids]
    refine call_same s_alive (by simp [go_sem]) ?_
    simp only [go_sem, ↓reduceIte, Nat.reduceEqDiff, Nat.reduceLT, reduceCtorEq, Nat.reduceAdd, Nat.zero_add, decide_eq_true_eq, decide_eq_false_iff_not, Nat.reduceLeDiff, Nat.reduceBEq, Nat.reduceBNe, beq_self_eq_true, Int.reduceNeg, Int.reduceToNat, Nat.lt_add_one]
    refine pdone [] ?_ rfl
    simp [go_sem]
  have d1 : decide ((B.length : Int) > 200) = false := by simp <;> omega
  by_cases h2 : B.length = 0
  · have d2 : ((B.length : Int) == 0) = true := by simp [h2]
    simp only [F_law09_NestFronts, go_sem, ↓reduceIte, Nat.reduceEqDiff, Nat.reduceLT, reduceCtorEq, Nat.reduceAdd, Nat.zero_add, decide_eq_true_eq, decide_eq_false_iff_not, Nat.reduceLeDiff, Nat.reduceBEq, Nat.reduceBNe, beq_self_eq_true, Int.reduceNeg, Int.reduceToNat, Nat.lt_add_one, d1, d2, ↓row_not, ↓row_any, ↓row_all, ↓row_pur, ↓row_ids]
    refine call_same s_alive (by simp [go_sem]) ?_
    simp only [go_sem, ↓reduceIte, Nat.reduceEqDiff, Nat.reduceLT, reduceCtorEq, Nat.reduceAdd, Nat.zero_add, decide_eq_true_eq, decide_eq_false_iff_not, Nat.reduceLeDiff, Nat.reduceBEq, Nat.reduceBNe, beq_self_eq_true, Int.reduceNeg, Int.reduceToNat, Nat.lt_add_one]
    refine pdone [] ?_ rfl
    simp [go_sem]
  have d2 : ((B.length : Int) == 0) = false := beq_eq_false_iff_ne.2 (by omega)
  simp only [F_law09_NestFronts, go_sem, ↓reduceIte, Nat.reduceEqDiff, Nat.reduceLT, reduceCtorEq, Nat.reduceAdd, Nat.zero_add, decide_eq_true_eq, decide_eq_false_iff_not, Nat.reduceLeDiff, Nat.reduceBEq, Nat.reduceBNe, beq_self_eq_true, Int.reduceNeg, Int.reduceToNat, Nat.lt_add_one, d1, d2, ↓row_not, ↓row_any, ↓row_all, ↓row_pur, ↓row_ids]
  refine call_same (s_check B (by omega)) (by simp [go_sem]) ?_
  by_cases hg : (chk B).2 = 0
  · have hg1 : ((chk B).2 != 0) = false := by simp [hg]
    have hG := (good_iff B).1 hg
    obtain ⟨k, hk, hkl⟩ : ∃ k : Nat, (IntKind.i64.wrap c).tmod (B.length : Int) = k ∧ k < B.length := by
      obtain ⟨n, rfl⟩ := Int.eq_ofNat_of_zero_le hc.1
      exact ⟨n % B.length, by rw [wi (by omega) (by omega)]; exact (Int.ofNat_tmod n B.length).symm, Nat.mod_lt _ (by omega)⟩
    have d3 : ¬ (B.length : Int) = 0 := by omega
    simp only [go_sem, ↓reduceIte, Nat.reduceEqDiff, Nat.reduceLT, reduceCtorEq, Nat.reduceAdd, Nat.zero_add, decide_eq_true_eq, decide_eq_false_iff_not, Nat.reduceLeDiff, Nat.reduceBEq, Nat.reduceBNe, beq_self_eq_true, Int.reduceNeg, Int.reduceToNat, Nat.lt_add_one, hg1, hk, d3, not_false_eq_true, true_and]
    refine ⟨by omega, ?_⟩
    refine call_same (s_check (B.take k) (by rw [List.length_take]; omega)) (by simp [go_sem]) ?_
    have e1 := chk_front hG hkl
    have e2 := chk_more hG x
    have a1 : appO 44 41 9 0 0 (B.map Ins.row) (some ⟨41, 9, [], false⟩) = some (.ms 44 9 0 B.length, .reb 44 ⟨41, 9, B.map Ins.row, false⟩) := by
      simp [appO]; omega
    have a2 : appO 44 41 9 0 B.length [x.row] (some ⟨41, 9, B.map Ins.row, false⟩) = some (.ms 44 9 0 (B.length + 1), .reb 44 ⟨41, 9, B.map Ins.row ++ [x.row], false⟩) := by
      rw [appO_map _ _ _ _ _ _ _ rfl, if_pos ⟨by simp, by omega, by omega⟩]; rfl
    simp only [go_sem, ↓reduceIte, Nat.reduceEqDiff, Nat.reduceLT, reduceCtorEq, Nat.reduceAdd, Nat.zero_add, decide_eq_true_eq, decide_eq_false_iff_not, Nat.reduceLeDiff, Nat.reduceBEq, Nat.reduceBNe, beq_self_eq_true, Int.reduceNeg, Int.reduceToNat, Nat.lt_add_one, e1, ↓row_not, ↓row_any, ↓row_all, ↓row_pur, ↓row_ids, a1, a2]
    have e3 : (List.drop 0 (B.map Ins.row ++ [x.row])).take (B.length + 1) = (B ++ [x]).map Ins.row := by
      rw [List.drop_zero, List.take_of_length_le (by simp)]; simp
    refine dcall_lend (args' := [.sl 9 ((B ++ [x]).map Ins.row)]) (s_check (B ++ [x]) (by simp; omega)) (by simp [go_sem]) ⟨.inr (.inr ⟨rfl, 44, 9, 0, B.length + 1, ⟨41, 9, B.map Ins.row ++ [x.row], false⟩, rfl, by simp [go_sem], rfl, rfl, by simp, by rw [e3]⟩), trivial⟩ rfl rfl ?_
    simp only [go_sem, ↓reduceIte, Nat.reduceEqDiff, Nat.reduceLT, reduceCtorEq, Nat.reduceAdd, Nat.zero_add, decide_eq_true_eq, decide_eq_false_iff_not, Nat.reduceLeDiff, Nat.reduceBEq, Nat.reduceBNe, beq_self_eq_true, Int.reduceNeg, Int.reduceToNat, Nat.lt_add_one, e2, ↓row_not, ↓row_any, ↓row_all, ↓row_pur, ↓row_ids, beq_self_eq_true]
    refine call_same s_alive (by simp [go_sem]) ?_
    simp only [go_sem, ↓reduceIte, Nat.reduceEqDiff, Nat.reduceLT, reduceCtorEq, Nat.reduceAdd, Nat.zero_add, decide_eq_true_eq, decide_eq_false_iff_not, Nat.reduceLeDiff, Nat.reduceBEq, Nat.reduceBNe, beq_self_eq_true, Int.reduceNeg, Int.reduceToNat, Nat.lt_add_one]
    refine pdone [] ?_ rfl
    simp [go_sem]
  · have hg1 : ((chk B).2 != 0) = true := by simp [hg]
    simp only [go_sem, ↓reduceIte, Nat.reduceEqDiff, Nat.reduceLT, reduceCtorEq, Nat.reduceAdd, Nat.zero_add, decide_eq_true_eq, decide_eq_false_iff_not, Nat.reduceLeDiff, Nat.reduceBEq, Nat.reduceBNe, beq_self_eq_true, Int.reduceNeg, Int.reduceToNat, Nat.lt_add_one, hg1]
    refine call_same s_alive (by simp [go_sem]) ?_
    simp only [go_sem, ↓reduceIte, Nat.reduceEqDiff, Nat.reduceLT, reduceCtorEq, Nat.reduceAdd, Nat.zero_add, decide_eq_true_eq, decide_eq_false_iff_not, Nat.reduceLeDiff, Nat.reduceBEq, Nat.reduceBNe, beq_self_eq_true, Int.reduceNeg, Int.reduceToNat, Nat.lt_add_one]
    refine pdone [] ?_ rfl
    simp [go_sem]
end Go.Proofs.Ytlmnepdibhdpaaa
