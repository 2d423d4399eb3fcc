/-
  Chapter 2, walks: the law OctetOwn.
-/
import Derived.Test.YtkejmhpodhbeeaaDoorXg
set_option linter.unusedSimpArgs false
set_option maxRecDepth 100000
set_option maxHeartbeats 4000000
namespace Go.Proofs.YtkejmhpodhbeeaaDoor
open Go Go.Mw

theorem inc8 (x : UInt8) : IntKind.u8.wrap ((x.toNat : Int) + 1) = (((x + 1).toNat : Nat) : Int) := by
  have := x.toNat_lt
  rw [w_u8, UInt8.toNat_add]
  simp
theorem stO_by (id st row : Nat) (t : TypeId) (l : List UInt8) (v : UInt8) : stO id 1 st row 0 (some ⟨t, st, l.map by_, false⟩) (some [.int .u8 (v.toNat : Int)]) = if row < l.length then some (.put id ⟨t, st, (l.set row v).map by_, false⟩) else none := stO_map id 1 st row t by_ l v (fun _ => rfl) rfl

theorem w_own (b : List UInt8) (c : Int) (hc : 0 ≤ c ∧ c < 256) : PCalls Tryd.prog n_law02_OctetOwn [.sl 1 (b.map by_), .int .u8 c] (.bool true) := by
  refine pfun_sound (ic := F_law02_OctetOwn.body) mixed c_law02_OctetOwn rfl rfl ?_
  by_cases h1 : b.length > 300
  · have d1 : decide ((b.length : Int) > 300) = true := decide_eq_true (by omega)
    simp only [F_law02_OctetOwn, go_sem, ↓reduceIte, Nat.reduceEqDiff, Nat.reduceLT, reduceCtorEq, Nat.reduceAdd, Nat.zero_add, decide_eq_true_eq, decide_eq_false_iff_not, Nat.reduceLeDiff, Nat.reduceBEq, Nat.reduceBNe, beq_self_eq_true, Int.reduceNeg, Int.reduceToNat, Nat.lt_add_one, d1]
    refine call_same s_alive (by simp [go_sem]) ?_
    simp only [go_sem, ↓reduceIte, Nat.reduceEqDiff, Nat.reduceLT, reduceCtorEq, Nat.reduceAdd, Nat.zero_add, decide_eq_true_eq, decide_eq_false_iff_not, Nat.reduceLeDiff, Nat.reduceBEq, Nat.reduceBNe, beq_self_eq_true, Int.reduceNeg, Int.reduceToNat, Nat.lt_add_one]
    exact pdone [] (by simp only [go_sem, ↓reduceIte, Nat.reduceEqDiff, Nat.reduceLT, reduceCtorEq, Nat.reduceAdd, Nat.zero_add, decide_eq_true_eq, decide_eq_false_iff_not, Nat.reduceLeDiff, Nat.reduceBEq, Nat.reduceBNe, beq_self_eq_true, Int.reduceNeg, Int.reduceToNat, Nat.lt_add_one]) rfl
  have d1 : decide ((b.length : Int) > 300) = false := decide_eq_false (by omega)
  by_cases h2 : b.length = 0
  · have d2 : ((b.length : Int) == 0) = true := by rw [h2]; rfl
    simp only [F_law02_OctetOwn, go_sem, ↓reduceIte, Nat.reduceEqDiff, Nat.reduceLT, reduceCtorEq, Nat.reduceAdd, Nat.zero_add, decide_eq_true_eq, decide_eq_false_iff_not, Nat.reduceLeDiff, Nat.reduceBEq, Nat.reduceBNe, beq_self_eq_true, Int.reduceNeg, Int.reduceToNat, Nat.lt_add_one, d1, d2]
    refine call_same s_alive (by simp [go_sem]) ?_
    simp only [go_sem, ↓reduceIte, Nat.reduceEqDiff, Nat.reduceLT, reduceCtorEq, Nat.reduceAdd, Nat.zero_add, decide_eq_true_eq, decide_eq_false_iff_not, Nat.reduceLeDiff, Nat.reduceBEq, Nat.reduceBNe, beq_self_eq_true, Int.reduceNeg, Int.reduceToNat, Nat.lt_add_one]
    exact pdone [] (by simp only [go_sem, ↓reduceIte, Nat.reduceEqDiff, Nat.reduceLT, reduceCtorEq, Nat.reduceAdd, Nat.zero_add, decide_eq_true_eq, decide_eq_false_iff_not, Nat.reduceLeDiff, Nat.reduceBEq, Nat.reduceBNe, beq_self_eq_true, Int.reduceNeg, Int.reduceToNat, Nat.lt_add_one]) rfl
  have d2 : ((b.length : Int) == 0) = false := by rw [beq_eq_false_iff_ne]; omega
  have a0 : appO 22 5 1 0 0 (b.map by_) (some ⟨5, 1, [], false⟩) = some (.ms 22 1 0 b.length, .reb 22 ⟨5, 1, b.map by_, false⟩) := by
    have h := appO_map 22 5 1 0 by_ [] (b.map by_) rfl
    rw [if_pos ⟨by simp; omega, by decide, by decide⟩] at h
    simpa using h
  simp only [F_law02_OctetOwn, go_sem, ↓reduceIte, Nat.reduceEqDiff, Nat.reduceLT, reduceCtorEq, Nat.reduceAdd, Nat.zero_add, decide_eq_true_eq, decide_eq_false_iff_not, Nat.reduceLeDiff, Nat.reduceBEq, Nat.reduceBNe, beq_self_eq_true, Int.reduceNeg, Int.reduceToNat, Nat.lt_add_one, d1, d2, a0]
  refine call_obj (σ2 := [(22, wa b)]) (r3 := .mp 901 4 0 0) (σ3 := [(22, wa b), (901, ro true b ((0 : Nat) : Int) 0)]) (s_read_own b (by omega)) [(1001, 22), (6, 901)] [901] rfl rfl rfl rfl ?_ ?_ ?_ ?_
  · simp only [go_sem, ↓reduceIte, Nat.reduceEqDiff, Nat.reduceLT, reduceCtorEq, Nat.reduceAdd, Nat.zero_add, decide_eq_true_eq, decide_eq_false_iff_not, Nat.reduceLeDiff, Nat.reduceBEq, Nat.reduceBNe, beq_self_eq_true, Int.reduceNeg, Int.reduceToNat, Nat.lt_add_one, wa]
    simp
  · simp only [go_sem, ↓reduceIte, Nat.reduceEqDiff, Nat.reduceLT, reduceCtorEq, Nat.reduceAdd, Nat.zero_add, decide_eq_true_eq, decide_eq_false_iff_not, Nat.reduceLeDiff, Nat.reduceBEq, Nat.reduceBNe, beq_self_eq_true, Int.reduceNeg, Int.reduceToNat, Nat.lt_add_one, ro, wa]
    simp [sb, bw, swp, hget]
  · simp only [go_sem, ↓reduceIte, Nat.reduceEqDiff, Nat.reduceLT, reduceCtorEq, Nat.reduceAdd, Nat.zero_add, decide_eq_true_eq, decide_eq_false_iff_not, Nat.reduceLeDiff, Nat.reduceBEq, Nat.reduceBNe, beq_self_eq_true, Int.reduceNeg, Int.reduceToNat, Nat.lt_add_one, ro, wa]
    simp [hget]
  obtain ⟨k, hk, hkl⟩ : ∃ k : Nat, (IntKind.i64.wrap c).tmod (IntKind.i64.wrap ((b.length : Int) + 1)) = k ∧ k ≤ b.length := by
    obtain ⟨n, rfl⟩ := Int.eq_ofNat_of_zero_le hc.1
    have e : (b.length : Int) + 1 = ((b.length + 1 : Nat) : Int) := by omega
    refine ⟨n % (b.length + 1), ?_, Nat.le_of_lt_succ (Nat.mod_lt _ (by omega))⟩
    rw [wi (by omega) (by omega), wi (by omega) (by omega), e]
    exact (Int.ofNat_tmod n (b.length + 1)).symm
  have w0 : ¬ IntKind.i64.wrap ((b.length : Int) + 1) = 0 := by rw [wi (by omega) (by omega)]; omega
  simp only [go_sem, ↓reduceIte, Nat.reduceEqDiff, Nat.reduceLT, reduceCtorEq, Nat.reduceAdd, Nat.zero_add, decide_eq_true_eq, decide_eq_false_iff_not, Nat.reduceLeDiff, Nat.reduceBEq, Nat.reduceBNe, beq_self_eq_true, Int.reduceNeg, Int.reduceToNat, Nat.lt_add_one, ro, wa, hk, w0, not_false_eq_true, true_and]
  refine call_obj (σ2 := [(901, ro true b ((0 : Nat) : Int) 0)]) (r3 := .ms 902 1 0 k) (σ3 := [(901, ro true b ((0 + k : Nat) : Int) 0), (902, wa ((b.drop 0).take k))]) (s_take_own b 0 k (by omega) (by omega)) [(1000, 901), (32, 902)] [902] rfl rfl rfl rfl ?_ ?_ ?_ ?_
  · simp only [go_sem, ↓reduceIte, Nat.reduceEqDiff, Nat.reduceLT, reduceCtorEq, Nat.reduceAdd, Nat.zero_add, decide_eq_true_eq, decide_eq_false_iff_not, Nat.reduceLeDiff, Nat.reduceBEq, Nat.reduceBNe, beq_self_eq_true, Int.reduceNeg, Int.reduceToNat, Nat.lt_add_one, ro]
    simp
  · simp only [go_sem, ↓reduceIte, Nat.reduceEqDiff, Nat.reduceLT, reduceCtorEq, Nat.reduceAdd, Nat.zero_add, decide_eq_true_eq, decide_eq_false_iff_not, Nat.reduceLeDiff, Nat.reduceBEq, Nat.reduceBNe, beq_self_eq_true, Int.reduceNeg, Int.reduceToNat, Nat.lt_add_one, ro, wa]
    simp [sb, bw, swp, hget]
  · simp only [go_sem, ↓reduceIte, Nat.reduceEqDiff, Nat.reduceLT, reduceCtorEq, Nat.reduceAdd, Nat.zero_add, decide_eq_true_eq, decide_eq_false_iff_not, Nat.reduceLeDiff, Nat.reduceBEq, Nat.reduceBNe, beq_self_eq_true, Int.reduceNeg, Int.reduceToNat, Nat.lt_add_one, ro, wa]
    simp [hget]
  have w1 : IntKind.i64.wrap ((b.length : Int) - (k : Int)) = ((b.length - k : Nat) : Int) := by rw [wi (by omega) (by omega)]; omega
  rw [Nat.zero_add, List.drop_zero]
  simp only [go_sem, ↓reduceIte, Nat.reduceEqDiff, Nat.reduceLT, reduceCtorEq, Nat.reduceAdd, Nat.zero_add, decide_eq_true_eq, decide_eq_false_iff_not, Nat.reduceLeDiff, Nat.reduceBEq, Nat.reduceBNe, beq_self_eq_true, Int.reduceNeg, Int.reduceToNat, Nat.lt_add_one, ro, wa, w1]
  refine call_obj (σ2 := [(901, ro true b (k : Int) 0)]) (r3 := .mp 903 4 0 0) (σ3 := [(901, ro true b ((k + (b.length - k) : Nat) : Int) 0), (903, ro true ((b.drop k).take (b.length - k)) ((0 : Nat) : Int) 0)]) (s_sub b k (b.length - k) (by omega) (by omega)) [(1000, 901), (24, 903)] [903] rfl rfl rfl rfl ?_ ?_ ?_ ?_
  · simp only [go_sem, ↓reduceIte, Nat.reduceEqDiff, Nat.reduceLT, reduceCtorEq, Nat.reduceAdd, Nat.zero_add, decide_eq_true_eq, decide_eq_false_iff_not, Nat.reduceLeDiff, Nat.reduceBEq, Nat.reduceBNe, beq_self_eq_true, Int.reduceNeg, Int.reduceToNat, Nat.lt_add_one, ro]
    simp
  · simp only [go_sem, ↓reduceIte, Nat.reduceEqDiff, Nat.reduceLT, reduceCtorEq, Nat.reduceAdd, Nat.zero_add, decide_eq_true_eq, decide_eq_false_iff_not, Nat.reduceLeDiff, Nat.reduceBEq, Nat.reduceBNe, beq_self_eq_true, Int.reduceNeg, Int.reduceToNat, Nat.lt_add_one, ro, wa]
    simp [sb, bw, swp, hget]
  · simp only [go_sem, ↓reduceIte, Nat.reduceEqDiff, Nat.reduceLT, reduceCtorEq, Nat.reduceAdd, Nat.zero_add, decide_eq_true_eq, decide_eq_false_iff_not, Nat.reduceLeDiff, Nat.reduceBEq, Nat.reduceBNe, beq_self_eq_true, Int.reduceNeg, Int.reduceToNat, Nat.lt_add_one, ro, wa]
    simp [hget]
  rw [List.take_of_length_le (show (b.drop k).length ≤ b.length - k by simp)]
  have n1 : ((k : Int) != (k : Int)) = false := by simp
  simp only [go_sem, ↓reduceIte, Nat.reduceEqDiff, Nat.reduceLT, reduceCtorEq, Nat.reduceAdd, Nat.zero_add, decide_eq_true_eq, decide_eq_false_iff_not, Nat.reduceLeDiff, Nat.reduceBEq, Nat.reduceBNe, beq_self_eq_true, Int.reduceNeg, Int.reduceToNat, Nat.lt_add_one, ro, wa, n1]
  refine loop_rule (fun q : Nat × List UInt8 => ⟨[(10, .int .i64 q.1), (9, .mp 903 4 0 0), (8, .ms 902 1 0 k), (7, .int .i64 k), (5, .ms 22 1 0 b.length), (0, .sl 1 (b.map by_))], [(22, ⟨5, 1, q.2.map by_, false⟩), (902, ⟨5, 1, (b.take k).map by_, false⟩), (903, ro true (b.drop k) ((0 : Nat) : Int) 0)]⟩)
    (fun q => q.1 ≤ b.length ∧ q.2.length = b.length) (fun q => b.length - q.1) (0, b) ⟨Nat.zero_le _, rfl⟩ (Wk.of ?_ ?_) ?_
  · simp only [go_sem, ↓reduceIte, Nat.reduceEqDiff, Nat.reduceLT, reduceCtorEq, Nat.reduceAdd, Nat.zero_add, decide_eq_true_eq, decide_eq_false_iff_not, Nat.reduceLeDiff, Nat.reduceBEq, Nat.reduceBNe, beq_self_eq_true, Int.reduceNeg, Int.reduceToNat, Nat.lt_add_one]; simp
  · simp only [go_sem, ↓reduceIte, Nat.reduceEqDiff, Nat.reduceLT, reduceCtorEq, Nat.reduceAdd, Nat.zero_add, decide_eq_true_eq, decide_eq_false_iff_not, Nat.reduceLeDiff, Nat.reduceBEq, Nat.reduceBNe, beq_self_eq_true, Int.reduceNeg, Int.reduceToNat, Nat.lt_add_one, ro]
  rintro ⟨i, L⟩ ⟨hi, hL⟩
  replace hi : i ≤ b.length := hi
  replace hL : L.length = b.length := hL
  rcases Nat.lt_or_ge i b.length with hlt | hge
  · have d3 : decide ((i : Int) < (b.length : Int)) = true := decide_eq_true (by omega)
    have e8 := wi (n := (i : Int) + 1) (by omega) (by omega)
    simp only [go_sem, ↓reduceIte, Nat.reduceEqDiff, Nat.reduceLT, reduceCtorEq, Nat.reduceAdd, Nat.zero_add, decide_eq_true_eq, decide_eq_false_iff_not, Nat.reduceLeDiff, Nat.reduceBEq, Nat.reduceBNe, beq_self_eq_true, Int.reduceNeg, Int.reduceToNat, Nat.lt_add_one, d3, inc8, stO_by, hL]
    refine ⟨⟨by omega, by omega⟩, by omega, ⟨by omega, by omega⟩, by omega, klp_n (i + 1, L.set i (nth L i + 1)) ⟨show i + 1 ≤ b.length by omega, by simpa using hL⟩ (show b.length - (i + 1) < b.length - i by omega) (Wk.of ?_ ?_)⟩
    · simp only [go_sem, ↓reduceIte, Nat.reduceEqDiff, Nat.reduceLT, reduceCtorEq, Nat.reduceAdd, Nat.zero_add, decide_eq_true_eq, decide_eq_false_iff_not, Nat.reduceLeDiff, Nat.reduceBEq, Nat.reduceBNe, beq_self_eq_true, Int.reduceNeg, Int.reduceToNat, Nat.lt_add_one, e8]
      rfl
    · simp only [go_sem, ↓reduceIte, Nat.reduceEqDiff, Nat.reduceLT, reduceCtorEq, Nat.reduceAdd, Nat.zero_add, decide_eq_true_eq, decide_eq_false_iff_not, Nat.reduceLeDiff, Nat.reduceBEq, Nat.reduceBNe, beq_self_eq_true, Int.reduceNeg, Int.reduceToNat, Nat.lt_add_one, ro]
  have d3 : decide ((i : Int) < (b.length : Int)) = false := decide_eq_false (by omega)
  simp only [go_sem, ↓reduceIte, Nat.reduceEqDiff, Nat.reduceLT, reduceCtorEq, Nat.reduceAdd, Nat.zero_add, decide_eq_true_eq, decide_eq_false_iff_not, Nat.reduceLeDiff, Nat.reduceBEq, Nat.reduceBNe, beq_self_eq_true, Int.reduceNeg, Int.reduceToNat, Nat.lt_add_one, d3]
  refine loop_rule (fun q : Nat × List UInt8 => ⟨[(11, .int .i64 q.1), (9, .mp 903 4 0 0), (8, .ms 902 1 0 k), (7, .int .i64 k), (0, .sl 1 (b.map by_))], [(902, ⟨5, 1, q.2.map by_, false⟩), (903, ro true (b.drop k) ((0 : Nat) : Int) 0)]⟩)
    (fun q => q.1 ≤ k ∧ q.2.length = k) (fun q => k - q.1) (0, b.take k) ⟨Nat.zero_le _, by simp; omega⟩ (Wk.of ?_ ?_) ?_
  · simp only [go_sem, ↓reduceIte, Nat.reduceEqDiff, Nat.reduceLT, reduceCtorEq, Nat.reduceAdd, Nat.zero_add, decide_eq_true_eq, decide_eq_false_iff_not, Nat.reduceLeDiff, Nat.reduceBEq, Nat.reduceBNe, beq_self_eq_true, Int.reduceNeg, Int.reduceToNat, Nat.lt_add_one]; simp
  · simp only [go_sem, ↓reduceIte, Nat.reduceEqDiff, Nat.reduceLT, reduceCtorEq, Nat.reduceAdd, Nat.zero_add, decide_eq_true_eq, decide_eq_false_iff_not, Nat.reduceLeDiff, Nat.reduceBEq, Nat.reduceBNe, beq_self_eq_true, Int.reduceNeg, Int.reduceToNat, Nat.lt_add_one, ro]
  clear hL hi hge d3
  rintro ⟨j, M⟩ ⟨hj, hM⟩
  replace hj : j ≤ k := hj
  replace hM : M.length = k := hM
  rcases Nat.lt_or_ge j k with hlt | hge
  · have d3 : decide ((j : Int) < (k : Int)) = true := decide_eq_true (by omega)
    have e8 := wi (n := (j : Int) + 1) (by omega) (by omega)
    simp only [go_sem, ↓reduceIte, Nat.reduceEqDiff, Nat.reduceLT, reduceCtorEq, Nat.reduceAdd, Nat.zero_add, decide_eq_true_eq, decide_eq_false_iff_not, Nat.reduceLeDiff, Nat.reduceBEq, Nat.reduceBNe, beq_self_eq_true, Int.reduceNeg, Int.reduceToNat, Nat.lt_add_one, d3, inc8, stO_by, hM]
    refine ⟨⟨by omega, by omega⟩, by omega, ⟨by omega, by omega⟩, by omega, klp_n (j + 1, M.set j (nth M j + 1)) ⟨show j + 1 ≤ k by omega, by simpa using hM⟩ (show k - (j + 1) < k - j by omega) (Wk.of ?_ ?_)⟩
    · simp only [go_sem, ↓reduceIte, Nat.reduceEqDiff, Nat.reduceLT, reduceCtorEq, Nat.reduceAdd, Nat.zero_add, decide_eq_true_eq, decide_eq_false_iff_not, Nat.reduceLeDiff, Nat.reduceBEq, Nat.reduceBNe, beq_self_eq_true, Int.reduceNeg, Int.reduceToNat, Nat.lt_add_one, e8]
      rfl
    · simp only [go_sem, ↓reduceIte, Nat.reduceEqDiff, Nat.reduceLT, reduceCtorEq, Nat.reduceAdd, Nat.zero_add, decide_eq_true_eq, decide_eq_false_iff_not, Nat.reduceLeDiff, Nat.reduceBEq, Nat.reduceBNe, beq_self_eq_true, Int.reduceNeg, Int.reduceToNat, Nat.lt_add_one, ro]
  have d3 : decide ((j : Int) < (k : Int)) = false := decide_eq_false (by omega)
  simp only [go_sem, ↓reduceIte, Nat.reduceEqDiff, Nat.reduceLT, reduceCtorEq, Nat.reduceAdd, Nat.zero_add, decide_eq_true_eq, decide_eq_false_iff_not, Nat.reduceLeDiff, Nat.reduceBEq, Nat.reduceBNe, beq_self_eq_true, Int.reduceNeg, Int.reduceToNat, Nat.lt_add_one, d3]
  refine call_obj (σ2 := [(903, ro true (b.drop k) ((0 : Nat) : Int) 0)]) (r3 := .ms 904 1 0 0) (σ3 := [(903, ro true (b.drop k) ((0 : Nat) : Int) 0), (904, wa [])]) (s_take_own (b.drop k) 0 0 (by omega) (by simp; omega)) [(1000, 903), (32, 904)] [904] rfl rfl rfl rfl ?_ ?_ ?_ ?_
  · simp only [go_sem, ↓reduceIte, Nat.reduceEqDiff, Nat.reduceLT, reduceCtorEq, Nat.reduceAdd, Nat.zero_add, decide_eq_true_eq, decide_eq_false_iff_not, Nat.reduceLeDiff, Nat.reduceBEq, Nat.reduceBNe, beq_self_eq_true, Int.reduceNeg, Int.reduceToNat, Nat.lt_add_one, ro]
    simp
  · simp only [go_sem, ↓reduceIte, Nat.reduceEqDiff, Nat.reduceLT, reduceCtorEq, Nat.reduceAdd, Nat.zero_add, decide_eq_true_eq, decide_eq_false_iff_not, Nat.reduceLeDiff, Nat.reduceBEq, Nat.reduceBNe, beq_self_eq_true, Int.reduceNeg, Int.reduceToNat, Nat.lt_add_one, ro, wa]
    simp [sb, bw, swp, hget]
  · simp only [go_sem, ↓reduceIte, Nat.reduceEqDiff, Nat.reduceLT, reduceCtorEq, Nat.reduceAdd, Nat.zero_add, decide_eq_true_eq, decide_eq_false_iff_not, Nat.reduceLeDiff, Nat.reduceBEq, Nat.reduceBNe, beq_self_eq_true, Int.reduceNeg, Int.reduceToNat, Nat.lt_add_one, ro, wa]
    simp [hget]
  have a1 : appO 904 5 1 0 0 [[.int .u8 7]] (some ⟨5, 1, [], false⟩) = some (.ms 904 1 0 1, .reb 904 ⟨5, 1, [[.int .u8 7]], false⟩) := rfl
  have n2 : (((1 : Nat) : Int) == 1) = true := rfl
  simp only [go_sem, ↓reduceIte, Nat.reduceEqDiff, Nat.reduceLT, reduceCtorEq, Nat.reduceAdd, Nat.zero_add, decide_eq_true_eq, decide_eq_false_iff_not, Nat.reduceLeDiff, Nat.reduceBEq, Nat.reduceBNe, beq_self_eq_true, Int.reduceNeg, Int.reduceToNat, Nat.lt_add_one, ro, wa, a1, n2, w1]
  have hl : (b.drop k).length = b.length - k := by simp
  have c2 := s_take true (b.drop k) 0 0 ((b.length - k : Nat) : Int) (by omega) (by omega) (by omega)
  have r2 : rTake (true && (0 : Int) == 0) (b.drop k) 0 0 ((b.length - k : Nat) : Int) = (some (b.drop k), b.length - k, 0) := by
    show rTake true (b.drop k) 0 0 ((b.length - k : Nat) : Int) = _
    have h3 : ¬ (((b.length - k : Nat) : Int) < 0) := by omega
    have h5 : ¬ (((b.length - k : Nat) : Int) > ((b.drop k).length : Int) - ((0 : Nat) : Int)) := by rw [hl]; omega
    simp only [rTake, if_true, if_neg h3, if_neg h5, Int.toNat_natCast, Nat.zero_add, List.drop_zero]
    rw [List.take_of_length_le (by omega)]
  rw [r2] at c2
  refine dcall_m c2 ⟨by decide, by decide⟩ rfl (by simp [go_sem]) rfl rfl (by simp only [go_sem, ↓reduceIte, Nat.reduceEqDiff, Nat.reduceLT, reduceCtorEq, Nat.reduceAdd, Nat.zero_add, decide_eq_true_eq, decide_eq_false_iff_not, Nat.reduceLeDiff, Nat.reduceBEq, Nat.reduceBNe, beq_self_eq_true, Int.reduceNeg, Int.reduceToNat, Nat.lt_add_one, ro]) (by simp only [go_sem, ↓reduceIte, Nat.reduceEqDiff, Nat.reduceLT, reduceCtorEq, Nat.reduceAdd, Nat.zero_add, decide_eq_true_eq, decide_eq_false_iff_not, Nat.reduceLeDiff, Nat.reduceBEq, Nat.reduceBNe, beq_self_eq_true, Int.reduceNeg, Int.reduceToNat, Nat.lt_add_one]; simp) ?_
  have b1 := bytes_by (b.drop k)
  have r3 : rEnd true (b.drop k) (b.length - k) 0 = 0 := by simp [rEnd, hl]
  simp only [go_sem, ↓reduceIte, Nat.reduceEqDiff, Nat.reduceLT, reduceCtorEq, Nat.reduceAdd, Nat.zero_add, decide_eq_true_eq, decide_eq_false_iff_not, Nat.reduceLeDiff, Nat.reduceBEq, Nat.reduceBNe, beq_self_eq_true, Int.reduceNeg, Int.reduceToNat, Nat.lt_add_one, ro, wa, b1]
  refine ⟨⟨by omega, by omega⟩, ?_⟩
  refine dcall_m (s_end true (b.drop k) (b.length - k) 0) ⟨by decide, by decide⟩ rfl (by simp [go_sem]) rfl rfl (by simp only [go_sem, ↓reduceIte, Nat.reduceEqDiff, Nat.reduceLT, reduceCtorEq, Nat.reduceAdd, Nat.zero_add, decide_eq_true_eq, decide_eq_false_iff_not, Nat.reduceLeDiff, Nat.reduceBEq, Nat.reduceBNe, beq_self_eq_true, Int.reduceNeg, Int.reduceToNat, Nat.lt_add_one, ro]) (by simp only [go_sem, ↓reduceIte, Nat.reduceEqDiff, Nat.reduceLT, reduceCtorEq, Nat.reduceAdd, Nat.zero_add, decide_eq_true_eq, decide_eq_false_iff_not, Nat.reduceLeDiff, Nat.reduceBEq, Nat.reduceBNe, beq_self_eq_true, Int.reduceNeg, Int.reduceToNat, Nat.lt_add_one]; simp) ?_
  rw [r3]
  simp only [go_sem, ↓reduceIte, Nat.reduceEqDiff, Nat.reduceLT, reduceCtorEq, Nat.reduceAdd, Nat.zero_add, decide_eq_true_eq, decide_eq_false_iff_not, Nat.reduceLeDiff, Nat.reduceBEq, Nat.reduceBNe, beq_self_eq_true, Int.reduceNeg, Int.reduceToNat, Nat.lt_add_one, ro, wa, Int.reduceBEq]
  refine dcall_same s_alive (by simp [go_sem]) rfl ?_
  simp only [go_sem, ↓reduceIte, Nat.reduceEqDiff, Nat.reduceLT, reduceCtorEq, Nat.reduceAdd, Nat.zero_add, decide_eq_true_eq, decide_eq_false_iff_not, Nat.reduceLeDiff, Nat.reduceBEq, Nat.reduceBNe, beq_self_eq_true, Int.reduceNeg, Int.reduceToNat, Nat.lt_add_one, ro, wa]
  exact pdone [] (by simp only [go_sem, ↓reduceIte, Nat.reduceEqDiff, Nat.reduceLT, reduceCtorEq, Nat.reduceAdd, Nat.zero_add, decide_eq_true_eq, decide_eq_false_iff_not, Nat.reduceLeDiff, Nat.reduceBEq, Nat.reduceBNe, beq_self_eq_true, Int.reduceNeg, Int.reduceToNat, Nat.lt_add_one]) rfl
end Go.Proofs.YtkejmhpodhbeeaaDoor
