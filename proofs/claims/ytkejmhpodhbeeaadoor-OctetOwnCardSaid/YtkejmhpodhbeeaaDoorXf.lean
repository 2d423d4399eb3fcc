/-
  Chapter 2, walks: octet.Read, Sub, Name; the examples.
-/
import Derived.Test.YtkejmhpodhbeeaaDoorXd
import Derived.Test.YtkejmhpodhbeeaaDoorXe
set_option linter.unusedSimpArgs false
set_option maxRecDepth 100000
set_option maxHeartbeats 4000000
namespace Go.Proofs.YtkejmhpodhbeeaaDoor
open Go Go.Mw

theorem s_read (b : List UInt8) (hb : b.length < 1000000000) : ACalls Tryd.prog n_octet_Read [.sl 1 (b.map by_)] [] sb (fun r' σ' => r' = .mp 6 4 0 0 ∧ σ' = [(6, ro true b ((0 : Nat) : Int) 0)]) := by
  refine fun_sound (ic := F_octet_Read.body) mixed c_octet_Read rfl rfl ?_
  simp only [F_octet_Read, go_sem, ↓reduceIte, Nat.reduceEqDiff, Nat.reduceLT, reduceCtorEq, Nat.reduceAdd, Nat.zero_add, decide_eq_true_eq, decide_eq_false_iff_not, Nat.reduceLeDiff, Nat.reduceBEq, Nat.reduceBNe, beq_self_eq_true, Int.reduceNeg, Int.reduceToNat, Nat.lt_add_one]
  refine ⟨by omega, done [4] _ [(6, ro true b ((0 : Nat) : Int) 0)] (by simp only [go_sem, ↓reduceIte, Nat.reduceEqDiff, Nat.reduceLT, reduceCtorEq, Nat.reduceAdd, Nat.zero_add, decide_eq_true_eq, decide_eq_false_iff_not, Nat.reduceLeDiff, Nat.reduceBEq, Nat.reduceBNe, beq_self_eq_true, Int.reduceNeg, Int.reduceToNat, Nat.lt_add_one]) ?_ rfl ⟨rfl, rfl⟩⟩
  simp only [go_sem, ↓reduceIte, Nat.reduceEqDiff, Nat.reduceLT, reduceCtorEq, Nat.reduceAdd, Nat.zero_add, decide_eq_true_eq, decide_eq_false_iff_not, Nat.reduceLeDiff, Nat.reduceBEq, Nat.reduceBNe, beq_self_eq_true, Int.reduceNeg, Int.reduceToNat, Nat.lt_add_one, ro, Nat.le_refl, List.length_map]
  rw [List.take_of_length_le (by simp)]
  rfl
/-- A new Writer. -/
theorem call_wnew {d : Option Nat} {s : St} {K : St → Prop} (k j : Nat) (hk : k < 1000) (hj : j < 1000 ∨ 2000 < j) (hkj : k ≠ j) (hfk : hget s.heap k = none) (hfj : hget s.heap j = none)
    (hK : K ((St.mk (purEs [k, j] s.env) ((k, wo j true [] 0) :: (j, wa []) :: purHs [k, j] s.heap)).put d (.mp k 3 0 0))) : icall Tryd.prog n_octet_New [] d s K := by
  have e0 : fw [(2, k), (2000, j)] 2 = k := by
    simp only [fw]; unfold swp
    have q : ¬ k = 2000 := by omega
    simp [q, hkj]
  have e1 : fw [(2, k), (2000, j)] 2000 = j := by
    simp only [fw]; unfold swp
    have q : ¬ (2000 = k) := by omega
    simp [q]
  refine call_obj (σ2 := []) (r3 := .mp k 3 0 0) (σ3 := [(k, wo j true [] 0), (j, wa [])]) s_wnew [(2, k), (2000, j)] [k, j] rfl rfl ?_ ?_ (fun p hp => by cases hp) (fun p hp => ?_) (fun p hp => by cases hp) hK
  · simp only [renV, renG, renC, renP, e0]
  · simp only [renH, renO, wo, wa, if_true, List.map_cons, List.map_nil, renC, renP, e0, e1, Bool.false_eq_true, if_false]
  · simp only [List.mem_cons, List.not_mem_nil, or_false] at hp
    rcases hp with rfl | rfl
    · exact .inr ⟨by simp, .inl hk, .inr hfk⟩
    · exact .inr ⟨by simp, by rcases hj with h | h <;> omega, .inr hfj⟩

theorem bytes_by : ∀ l : List UInt8, bytesA (l.map by_) = some l
  | [] => rfl
  | b :: l => by
    simp only [List.map_cons, by_, bytesA, bytes_by l, Option.map_some, Int.toNat_natCast, UInt8.ofNat_toNat]
def exB : List UInt8 := [172, 2, 255]
theorem exB_u : rU true 32 exB 0 0 = (300, 2, 0) := by decide +kernel
theorem exB_u2 : rU true 32 exB 2 0 = (0, 2, 3) := by decide +kernel
theorem exB_b : rByte false exB 2 3 = (0, 2, 3) := by decide +kernel
theorem ex_uv : uv [195, 169] = true := by decide +kernel
theorem ex_n : wN true [] 0 [195, 169] = ([2, 195, 169], 0) := by
  simp only [wN, if_true, ex_uv]
  rw [if_neg (by decide), if_neg (by decide), putU_lo (by decide)]
  rfl
theorem exB_m : exB.map by_ = [[.int .u8 172], [.int .u8 2], [.int .u8 255]] := rfl

theorem s_alive : PCalls Tryd.prog n_law02_alive [] (.bool true) := by
  refine pfun_sound (ic := F_law02_alive.body) mixed c_law02_alive rfl rfl ?_
  simp only [F_law02_alive, go_sem, ↓reduceIte, Nat.reduceEqDiff, Nat.reduceLT, reduceCtorEq, Nat.reduceAdd, Nat.zero_add, decide_eq_true_eq, decide_eq_false_iff_not, Nat.reduceLeDiff, Nat.reduceBEq, Nat.reduceBNe, beq_self_eq_true, Int.reduceNeg, Int.reduceToNat, Nat.lt_add_one]
  refine call_nrecF [8] (s_read exB (by decide)) (by simp only [go_sem, ↓reduceIte, Nat.reduceEqDiff, Nat.reduceLT, reduceCtorEq, Nat.reduceAdd, Nat.zero_add, decide_eq_true_eq, decide_eq_false_iff_not, Nat.reduceLeDiff, Nat.reduceBEq, Nat.reduceBNe, beq_self_eq_true, Int.reduceNeg, Int.reduceToNat, Nat.lt_add_one, Nat.le_refl, List.take_succ_cons, List.take_zero]; rfl) rfl (by simp [go_sem]) 901 (by decide) (by simp only [go_sem, ↓reduceIte, Nat.reduceEqDiff, Nat.reduceLT, reduceCtorEq, Nat.reduceAdd, Nat.zero_add, decide_eq_true_eq, decide_eq_false_iff_not, Nat.reduceLeDiff, Nat.reduceBEq, Nat.reduceBNe, beq_self_eq_true, Int.reduceNeg, Int.reduceToNat, Nat.lt_add_one, wo, wa, ro]) ?_
  simp only [go_sem, ↓reduceIte, Nat.reduceEqDiff, Nat.reduceLT, reduceCtorEq, Nat.reduceAdd, Nat.zero_add, decide_eq_true_eq, decide_eq_false_iff_not, Nat.reduceLeDiff, Nat.reduceBEq, Nat.reduceBNe, beq_self_eq_true, Int.reduceNeg, Int.reduceToNat, Nat.lt_add_one, wo, wa, ro]
  have c1 := s_U32 true exB 0 0 (by decide) (by decide)
  rw [show (true && (0 : Int) == 0) = true from rfl, exB_u] at c1
  refine call_m c1 ⟨by decide, by decide⟩ rfl (by simp [go_sem]) rfl rfl (by simp only [go_sem, ↓reduceIte, Nat.reduceEqDiff, Nat.reduceLT, reduceCtorEq, Nat.reduceAdd, Nat.zero_add, decide_eq_true_eq, decide_eq_false_iff_not, Nat.reduceLeDiff, Nat.reduceBEq, Nat.reduceBNe, beq_self_eq_true, Int.reduceNeg, Int.reduceToNat, Nat.lt_add_one, wo, wa, ro]) ?_
  simp only [go_sem, ↓reduceIte, Nat.reduceEqDiff, Nat.reduceLT, reduceCtorEq, Nat.reduceAdd, Nat.zero_add, decide_eq_true_eq, decide_eq_false_iff_not, Nat.reduceLeDiff, Nat.reduceBEq, Nat.reduceBNe, beq_self_eq_true, Int.reduceNeg, Int.reduceToNat, Nat.lt_add_one, wo, wa, ro]
  refine call_m (s_at true exB ((2 : Nat) : Int) 0) ⟨by decide, by decide⟩ rfl (by simp [go_sem]) rfl rfl (by simp only [go_sem, ↓reduceIte, Nat.reduceEqDiff, Nat.reduceLT, reduceCtorEq, Nat.reduceAdd, Nat.zero_add, decide_eq_true_eq, decide_eq_false_iff_not, Nat.reduceLeDiff, Nat.reduceBEq, Nat.reduceBNe, beq_self_eq_true, Int.reduceNeg, Int.reduceToNat, Nat.lt_add_one, wo, wa, ro]) ?_
  simp only [go_sem, ↓reduceIte, Nat.reduceEqDiff, Nat.reduceLT, reduceCtorEq, Nat.reduceAdd, Nat.zero_add, decide_eq_true_eq, decide_eq_false_iff_not, Nat.reduceLeDiff, Nat.reduceBEq, Nat.reduceBNe, beq_self_eq_true, Int.reduceNeg, Int.reduceToNat, Nat.lt_add_one, wo, wa, ro]
  have c2 := s_U32 true exB 2 0 (by decide) (by decide)
  rw [show (true && (0 : Int) == 0) = true from rfl, exB_u2] at c2
  refine call_m c2 ⟨by decide, by decide⟩ rfl (by simp [go_sem]) rfl rfl (by simp only [go_sem, ↓reduceIte, Nat.reduceEqDiff, Nat.reduceLT, reduceCtorEq, Nat.reduceAdd, Nat.zero_add, decide_eq_true_eq, decide_eq_false_iff_not, Nat.reduceLeDiff, Nat.reduceBEq, Nat.reduceBNe, beq_self_eq_true, Int.reduceNeg, Int.reduceToNat, Nat.lt_add_one, wo, wa, ro]) ?_
  simp only [go_sem, ↓reduceIte, Nat.reduceEqDiff, Nat.reduceLT, reduceCtorEq, Nat.reduceAdd, Nat.zero_add, decide_eq_true_eq, decide_eq_false_iff_not, Nat.reduceLeDiff, Nat.reduceBEq, Nat.reduceBNe, beq_self_eq_true, Int.reduceNeg, Int.reduceToNat, Nat.lt_add_one, wo, wa, ro]
  have c3 := s_byte true exB 2 3 (by decide) (by decide)
  rw [show (true && (3 : Int) == 0) = false from rfl, exB_b] at c3
  refine call_m c3 ⟨by decide, by decide⟩ rfl (by simp [go_sem]) rfl rfl (by simp only [go_sem, ↓reduceIte, Nat.reduceEqDiff, Nat.reduceLT, reduceCtorEq, Nat.reduceAdd, Nat.zero_add, decide_eq_true_eq, decide_eq_false_iff_not, Nat.reduceLeDiff, Nat.reduceBEq, Nat.reduceBNe, beq_self_eq_true, Int.reduceNeg, Int.reduceToNat, Nat.lt_add_one, wo, wa, ro]) ?_
  simp only [go_sem, ↓reduceIte, Nat.reduceEqDiff, Nat.reduceLT, reduceCtorEq, Nat.reduceAdd, Nat.zero_add, decide_eq_true_eq, decide_eq_false_iff_not, Nat.reduceLeDiff, Nat.reduceBEq, Nat.reduceBNe, beq_self_eq_true, Int.reduceNeg, Int.reduceToNat, Nat.lt_add_one, wo, wa, ro]
  refine call_wnew 902 903 (by decide) (by decide) (by decide) (by simp only [go_sem, ↓reduceIte, Nat.reduceEqDiff, Nat.reduceLT, reduceCtorEq, Nat.reduceAdd, Nat.zero_add, decide_eq_true_eq, decide_eq_false_iff_not, Nat.reduceLeDiff, Nat.reduceBEq, Nat.reduceBNe, beq_self_eq_true, Int.reduceNeg, Int.reduceToNat, Nat.lt_add_one, wo, wa, ro]) (by simp only [go_sem, ↓reduceIte, Nat.reduceEqDiff, Nat.reduceLT, reduceCtorEq, Nat.reduceAdd, Nat.zero_add, decide_eq_true_eq, decide_eq_false_iff_not, Nat.reduceLeDiff, Nat.reduceBEq, Nat.reduceBNe, beq_self_eq_true, Int.reduceNeg, Int.reduceToNat, Nat.lt_add_one, wo, wa, ro]) ?_
  simp only [go_sem, ↓reduceIte, Nat.reduceEqDiff, Nat.reduceLT, reduceCtorEq, Nat.reduceAdd, Nat.zero_add, decide_eq_true_eq, decide_eq_false_iff_not, Nat.reduceLeDiff, Nat.reduceBEq, Nat.reduceBNe, beq_self_eq_true, Int.reduceNeg, Int.reduceToNat, Nat.lt_add_one, wo, wa, ro]
  have c4 := s_wname true [] [195, 169] 0 (by decide)
  rw [show (true && (0 : Int) == 0) = true from rfl, ex_n] at c4
  refine call_w [] (k := 902) (j := 903) c4 (by decide) (by decide) (by decide) (by decide) rfl (by simp [go_sem]) (by simp only [go_sem, ↓reduceIte, Nat.reduceEqDiff, Nat.reduceLT, reduceCtorEq, Nat.reduceAdd, Nat.zero_add, decide_eq_true_eq, decide_eq_false_iff_not, Nat.reduceLeDiff, Nat.reduceBEq, Nat.reduceBNe, beq_self_eq_true, Int.reduceNeg, Int.reduceToNat, Nat.lt_add_one, wo, wa, ro]) (by simp only [go_sem, ↓reduceIte, Nat.reduceEqDiff, Nat.reduceLT, reduceCtorEq, Nat.reduceAdd, Nat.zero_add, decide_eq_true_eq, decide_eq_false_iff_not, Nat.reduceLeDiff, Nat.reduceBEq, Nat.reduceBNe, beq_self_eq_true, Int.reduceNeg, Int.reduceToNat, Nat.lt_add_one, wo, wa, ro]) (by simp only [go_sem, ↓reduceIte, Nat.reduceEqDiff, Nat.reduceLT, reduceCtorEq, Nat.reduceAdd, Nat.zero_add, decide_eq_true_eq, decide_eq_false_iff_not, Nat.reduceLeDiff, Nat.reduceBEq, Nat.reduceBNe, beq_self_eq_true, Int.reduceNeg, Int.reduceToNat, Nat.lt_add_one, wo, wa, ro]) ?_
  simp only [go_sem, ↓reduceIte, Nat.reduceEqDiff, Nat.reduceLT, reduceCtorEq, Nat.reduceAdd, Nat.zero_add, decide_eq_true_eq, decide_eq_false_iff_not, Nat.reduceLeDiff, Nat.reduceBEq, Nat.reduceBNe, beq_self_eq_true, Int.reduceNeg, Int.reduceToNat, Nat.lt_add_one, wo, wa, ro]
  refine call_w [] (k := 902) (j := 903) (s_wdone true [2, 195, 169] 0 (by decide)) (by decide) (by decide) (by decide) (by decide) rfl (by simp [go_sem]) (by simp only [go_sem, ↓reduceIte, Nat.reduceEqDiff, Nat.reduceLT, reduceCtorEq, Nat.reduceAdd, Nat.zero_add, decide_eq_true_eq, decide_eq_false_iff_not, Nat.reduceLeDiff, Nat.reduceBEq, Nat.reduceBNe, beq_self_eq_true, Int.reduceNeg, Int.reduceToNat, Nat.lt_add_one, wo, wa, ro]) (by simp only [go_sem, ↓reduceIte, Nat.reduceEqDiff, Nat.reduceLT, reduceCtorEq, Nat.reduceAdd, Nat.zero_add, decide_eq_true_eq, decide_eq_false_iff_not, Nat.reduceLeDiff, Nat.reduceBEq, Nat.reduceBNe, beq_self_eq_true, Int.reduceNeg, Int.reduceToNat, Nat.lt_add_one, wo, wa, ro]) (by simp only [go_sem, ↓reduceIte, Nat.reduceEqDiff, Nat.reduceLT, reduceCtorEq, Nat.reduceAdd, Nat.zero_add, decide_eq_true_eq, decide_eq_false_iff_not, Nat.reduceLeDiff, Nat.reduceBEq, Nat.reduceBNe, beq_self_eq_true, Int.reduceNeg, Int.reduceToNat, Nat.lt_add_one, wo, wa, ro]) ?_
  have d1 : wD true [2, 195, 169] 0 = (some [2, 195, 169], 0) := rfl
  have n1 : (((300 : Nat) : Int) == 300) = true := rfl
  have n2 : (((2 : Nat) : Int) == 2) = true := rfl
  simp only [go_sem, ↓reduceIte, Nat.reduceEqDiff, Nat.reduceLT, reduceCtorEq, Nat.reduceAdd, Nat.zero_add, decide_eq_true_eq, decide_eq_false_iff_not, Nat.reduceLeDiff, Nat.reduceBEq, Nat.reduceBNe, beq_self_eq_true, Int.reduceNeg, Int.reduceToNat, Nat.lt_add_one, wo, wa, ro, d1, n1, n2]
  refine call_m (s_err true exB ((2 : Nat) : Int) 3) ⟨by decide, by decide⟩ rfl (by simp [go_sem]) rfl rfl (by simp only [go_sem, ↓reduceIte, Nat.reduceEqDiff, Nat.reduceLT, reduceCtorEq, Nat.reduceAdd, Nat.zero_add, decide_eq_true_eq, decide_eq_false_iff_not, Nat.reduceLeDiff, Nat.reduceBEq, Nat.reduceBNe, beq_self_eq_true, Int.reduceNeg, Int.reduceToNat, Nat.lt_add_one, wo, wa, ro]) ?_
  have n3 : ((if true = true then (3 : Int) else 2) == 3) = true := rfl
  have n4 : ((((0 : UInt8).toNat : Nat) : Int) == 0) = true := rfl
  simp only [go_sem, ↓reduceIte, Nat.reduceEqDiff, Nat.reduceLT, reduceCtorEq, Nat.reduceAdd, Nat.zero_add, decide_eq_true_eq, decide_eq_false_iff_not, Nat.reduceLeDiff, Nat.reduceBEq, Nat.reduceBNe, beq_self_eq_true, Int.reduceNeg, Int.reduceToNat, Nat.lt_add_one, wo, wa, ro, n3, n4, Int.reduceBEq]
  refine call_m (s_at true exB ((2 : Nat) : Int) 3) ⟨by decide, by decide⟩ rfl (by simp [go_sem]) rfl rfl (by simp only [go_sem, ↓reduceIte, Nat.reduceEqDiff, Nat.reduceLT, reduceCtorEq, Nat.reduceAdd, Nat.zero_add, decide_eq_true_eq, decide_eq_false_iff_not, Nat.reduceLeDiff, Nat.reduceBEq, Nat.reduceBNe, beq_self_eq_true, Int.reduceNeg, Int.reduceToNat, Nat.lt_add_one, wo, wa, ro]) ?_
  have b1 : bytesA [[.int .u8 ((UInt8.toNat 2 : Nat) : Int)], [.int .u8 ((UInt8.toNat 195 : Nat) : Int)], [.int .u8 ((UInt8.toNat 169 : Nat) : Int)]] = some [2, 195, 169] := rfl
  simp only [go_sem, ↓reduceIte, Nat.reduceEqDiff, Nat.reduceLT, reduceCtorEq, Nat.reduceAdd, Nat.zero_add, decide_eq_true_eq, decide_eq_false_iff_not, Nat.reduceLeDiff, Nat.reduceBEq, Nat.reduceBNe, beq_self_eq_true, Int.reduceNeg, Int.reduceToNat, Nat.lt_add_one, wo, wa, ro, n2, b1]
  exact ⟨fun _ => pdone [] (by simp only [go_sem, ↓reduceIte, Nat.reduceEqDiff, Nat.reduceLT, reduceCtorEq, Nat.reduceAdd, Nat.zero_add, decide_eq_true_eq, decide_eq_false_iff_not, Nat.reduceLeDiff, Nat.reduceBEq, Nat.reduceBNe, beq_self_eq_true, Int.reduceNeg, Int.reduceToNat, Nat.lt_add_one]) rfl, fun h => absurd h (by decide)⟩
end Go.Proofs.YtkejmhpodhbeeaaDoor
