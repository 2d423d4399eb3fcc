/-
  Chapter 5: the reference's Sig, whose slices are new arrays.
-/
import Derived.Test.YtnhnghpnejobfaaDoorQp
set_option linter.unusedVariables false
set_option linter.unusedSimpArgs false
set_option linter.unusedSectionVars false
set_option maxRecDepth 100000
set_option maxHeartbeats 8000000
set_option linter.unusedVariables false
set_option linter.unusedSimpArgs false
namespace Go.Proofs.YtnhnghpnejobfaaDoor
open Go Go.Mw
-- @U: vl_e, List.length_map

def rdT : List (Int × SgD) := [(1, none, none), (64525, none, none), (64521, none, none), (65, none, some [1]), (63, none, some [1]), (64528, none, some [1]), (66, none, some [2]), (210, none, some [3]), (64, some (1, [1]), some [1]), (64523, some (3, [1, 1, 1]), none), (64522, some (3, [1, 1, 1]), none), (64520, some (3, [1, 1, 1]), none), (64526, some (3, [1, 1, 1]), none), (64524, some (3, [1, 1, 1]), none), (167, some (1, [2]), some [1]), (172, some (1, [1]), some [2]), (173, some (1, [1]), some [2])]
def rpD (op : Int) : SgD × Bool := match rdT.find? (fun p => p.1 == op) with
  | some p => (p.2, true)
  | none => ((none, none), false)
theorem n_rplain (op : Int) : ACalls Tryd.prog n_ref05_plain [.int .i64 op] [] (fun _ => False) (fun r σ' => r = .tup [sgV (rpD op).1, .bool (rpD op).2] ∧ σ' = sgO (rpD op).1) := by
  by_cases h0 : op = 1
  · subst h0
    have r : rpD 1 = ((none, none), true) := rfl
    rw [r]
    refine canon (Sb := sb) (r1 := .tup [.agg [.nl, .nl], .bool true]) (σ1 := []) [] ?_ rfl rfl rfl
    refine fun_sound (ic := F_ref05_plain.body) mixed c_ref05_plain rfl rfl ?_
    simp only [go_sem, vl_e, List.length_map, F_ref05_plain]
    exact done [] _ [] (by rfl) (by first | trivial | simp only [go_sem, vl_e, List.length_map]) rfl ⟨rfl, rfl⟩
  by_cases h1 : op = 64525
  · subst h1
    have r : rpD 64525 = ((none, none), true) := rfl
    rw [r]
    refine canon (Sb := sb) (r1 := .tup [.agg [.nl, .nl], .bool true]) (σ1 := []) [] ?_ rfl rfl rfl
    refine fun_sound (ic := F_ref05_plain.body) mixed c_ref05_plain rfl rfl ?_
    simp only [go_sem, vl_e, List.length_map, F_ref05_plain]
    exact done [] _ [] (by rfl) (by first | trivial | simp only [go_sem, vl_e, List.length_map]) rfl ⟨rfl, rfl⟩
  by_cases h2 : op = 64521
  · subst h2
    have r : rpD 64521 = ((none, none), true) := rfl
    rw [r]
    refine canon (Sb := sb) (r1 := .tup [.agg [.nl, .nl], .bool true]) (σ1 := []) [] ?_ rfl rfl rfl
    refine fun_sound (ic := F_ref05_plain.body) mixed c_ref05_plain rfl rfl ?_
    simp only [go_sem, vl_e, List.length_map, F_ref05_plain]
    exact done [] _ [] (by rfl) (by first | trivial | simp only [go_sem, vl_e, List.length_map]) rfl ⟨rfl, rfl⟩
  by_cases h3 : op = 65
  · subst h3
    have r : rpD 65 = ((none, some [1]), true) := rfl
    rw [r]
    refine canon (Sb := sb) (r1 := .tup [.agg [.nl, .ms 16 1 0 1], .bool true]) (σ1 := [(16, ob_ [1])]) [(16, 2)] ?_ rfl rfl rfl
    refine fun_sound (ic := F_ref05_plain.body) mixed c_ref05_plain rfl rfl ?_
    simp only [go_sem, vl_e, List.length_map, F_ref05_plain]
    refine call_0 (R := [1]) o_fn0 (by decide) (by rfl) ?_
    simp only [go_sem, vl_e, List.length_map]
    exact done [] _ [(16, ob_ [1])] (by rfl) (by first | trivial | simp only [go_sem, vl_e, List.length_map]) rfl ⟨rfl, rfl⟩
  by_cases h4 : op = 63
  · subst h4
    have r : rpD 63 = ((none, some [1]), true) := rfl
    rw [r]
    refine canon (Sb := sb) (r1 := .tup [.agg [.nl, .ms 16 1 0 1], .bool true]) (σ1 := [(16, ob_ [1])]) [(16, 2)] ?_ rfl rfl rfl
    refine fun_sound (ic := F_ref05_plain.body) mixed c_ref05_plain rfl rfl ?_
    simp only [go_sem, vl_e, List.length_map, F_ref05_plain]
    refine call_0 (R := [1]) o_fn0 (by decide) (by rfl) ?_
    simp only [go_sem, vl_e, List.length_map]
    exact done [] _ [(16, ob_ [1])] (by rfl) (by first | trivial | simp only [go_sem, vl_e, List.length_map]) rfl ⟨rfl, rfl⟩
  by_cases h5 : op = 64528
  · subst h5
    have r : rpD 64528 = ((none, some [1]), true) := rfl
    rw [r]
    refine canon (Sb := sb) (r1 := .tup [.agg [.nl, .ms 16 1 0 1], .bool true]) (σ1 := [(16, ob_ [1])]) [(16, 2)] ?_ rfl rfl rfl
    refine fun_sound (ic := F_ref05_plain.body) mixed c_ref05_plain rfl rfl ?_
    simp only [go_sem, vl_e, List.length_map, F_ref05_plain]
    refine call_0 (R := [1]) o_fn0 (by decide) (by rfl) ?_
    simp only [go_sem, vl_e, List.length_map]
    exact done [] _ [(16, ob_ [1])] (by rfl) (by first | trivial | simp only [go_sem, vl_e, List.length_map]) rfl ⟨rfl, rfl⟩
  by_cases h6 : op = 66
  · subst h6
    have r : rpD 66 = ((none, some [2]), true) := rfl
    rw [r]
    refine canon (Sb := sb) (r1 := .tup [.agg [.nl, .ms 20 1 0 1], .bool true]) (σ1 := [(20, ob_ [2])]) [(20, 2)] ?_ rfl rfl rfl
    refine fun_sound (ic := F_ref05_plain.body) mixed c_ref05_plain rfl rfl ?_
    simp only [go_sem, vl_e, List.length_map, F_ref05_plain]
    refine call_0 (R := [2]) o_fn0 (by decide) (by rfl) ?_
    simp only [go_sem, vl_e, List.length_map]
    exact done [] _ [(20, ob_ [2])] (by rfl) (by first | trivial | simp only [go_sem, vl_e, List.length_map]) rfl ⟨rfl, rfl⟩
  by_cases h7 : op = 210
  · subst h7
    have r : rpD 210 = ((none, some [3]), true) := rfl
    rw [r]
    refine canon (Sb := sb) (r1 := .tup [.agg [.nl, .ms 24 1 0 1], .bool true]) (σ1 := [(24, ob_ [3])]) [(24, 2)] ?_ rfl rfl rfl
    refine fun_sound (ic := F_ref05_plain.body) mixed c_ref05_plain rfl rfl ?_
    simp only [go_sem, vl_e, List.length_map, F_ref05_plain]
    refine call_0 (R := [3]) o_fn0 (by decide) (by rfl) ?_
    simp only [go_sem, vl_e, List.length_map]
    exact done [] _ [(24, ob_ [3])] (by rfl) (by first | trivial | simp only [go_sem, vl_e, List.length_map]) rfl ⟨rfl, rfl⟩
  by_cases h8 : op = 64
  · subst h8
    have r : rpD 64 = ((some (1, [1]), some [1]), true) := rfl
    rw [r]
    refine canon (Sb := sb) (r1 := .tup [.agg [.ms 28 1 0 1, .ms 29 1 0 1], .bool true]) (σ1 := [(28, ob_ [1]), (29, ob_ [1])]) [(28, 1), (29, 2)] ?_ rfl rfl rfl
    refine fun_sound (ic := F_ref05_plain.body) mixed c_ref05_plain rfl rfl ?_
    simp only [go_sem, vl_e, List.length_map, F_ref05_plain]
    refine call_2 (R := [1]) (L := [1]) o_fn2 (by decide) (by decide) (by decide) (by rfl) (by rfl) ?_
    simp only [go_sem, vl_e, List.length_map]
    exact done [] _ [(28, ob_ [1]), (29, ob_ [1])] (by rfl) (by first | trivial | simp only [go_sem, vl_e, List.length_map]) rfl ⟨rfl, rfl⟩
  by_cases h9 : op = 64523
  · subst h9
    have r : rpD 64523 = ((some (3, [1, 1, 1]), none), true) := rfl
    rw [r]
    refine canon (Sb := sb) (r1 := .tup [.agg [.ms 5 1 0 3, .nl], .bool true]) (σ1 := [(5, ob_ [1, 1, 1])]) [(5, 1)] ?_ rfl rfl rfl
    refine fun_sound (ic := F_ref05_plain.body) mixed c_ref05_plain rfl rfl ?_
    simp only [go_sem, vl_e, List.length_map, F_ref05_plain]
    refine call_1 (R := [1, 1, 1]) o_fn1 (by decide) (by rfl) ?_
    simp only [go_sem, vl_e, List.length_map]
    exact done [] _ [(5, ob_ [1, 1, 1])] (by rfl) (by first | trivial | simp only [go_sem, vl_e, List.length_map]) rfl ⟨rfl, rfl⟩
  by_cases h10 : op = 64522
  · subst h10
    have r : rpD 64522 = ((some (3, [1, 1, 1]), none), true) := rfl
    rw [r]
    refine canon (Sb := sb) (r1 := .tup [.agg [.ms 5 1 0 3, .nl], .bool true]) (σ1 := [(5, ob_ [1, 1, 1])]) [(5, 1)] ?_ rfl rfl rfl
    refine fun_sound (ic := F_ref05_plain.body) mixed c_ref05_plain rfl rfl ?_
    simp only [go_sem, vl_e, List.length_map, F_ref05_plain]
    refine call_1 (R := [1, 1, 1]) o_fn1 (by decide) (by rfl) ?_
    simp only [go_sem, vl_e, List.length_map]
    exact done [] _ [(5, ob_ [1, 1, 1])] (by rfl) (by first | trivial | simp only [go_sem, vl_e, List.length_map]) rfl ⟨rfl, rfl⟩
  by_cases h11 : op = 64520
  · subst h11
    have r : rpD 64520 = ((some (3, [1, 1, 1]), none), true) := rfl
    rw [r]
    refine canon (Sb := sb) (r1 := .tup [.agg [.ms 5 1 0 3, .nl], .bool true]) (σ1 := [(5, ob_ [1, 1, 1])]) [(5, 1)] ?_ rfl rfl rfl
    refine fun_sound (ic := F_ref05_plain.body) mixed c_ref05_plain rfl rfl ?_
    simp only [go_sem, vl_e, List.length_map, F_ref05_plain]
    refine call_1 (R := [1, 1, 1]) o_fn1 (by decide) (by rfl) ?_
    simp only [go_sem, vl_e, List.length_map]
    exact done [] _ [(5, ob_ [1, 1, 1])] (by rfl) (by first | trivial | simp only [go_sem, vl_e, List.length_map]) rfl ⟨rfl, rfl⟩
  by_cases h12 : op = 64526
  · subst h12
    have r : rpD 64526 = ((some (3, [1, 1, 1]), none), true) := rfl
    rw [r]
    refine canon (Sb := sb) (r1 := .tup [.agg [.ms 5 1 0 3, .nl], .bool true]) (σ1 := [(5, ob_ [1, 1, 1])]) [(5, 1)] ?_ rfl rfl rfl
    refine fun_sound (ic := F_ref05_plain.body) mixed c_ref05_plain rfl rfl ?_
    simp only [go_sem, vl_e, List.length_map, F_ref05_plain]
    refine call_1 (R := [1, 1, 1]) o_fn1 (by decide) (by rfl) ?_
    simp only [go_sem, vl_e, List.length_map]
    exact done [] _ [(5, ob_ [1, 1, 1])] (by rfl) (by first | trivial | simp only [go_sem, vl_e, List.length_map]) rfl ⟨rfl, rfl⟩
  by_cases h13 : op = 64524
  · subst h13
    have r : rpD 64524 = ((some (3, [1, 1, 1]), none), true) := rfl
    rw [r]
    refine canon (Sb := sb) (r1 := .tup [.agg [.ms 5 1 0 3, .nl], .bool true]) (σ1 := [(5, ob_ [1, 1, 1])]) [(5, 1)] ?_ rfl rfl rfl
    refine fun_sound (ic := F_ref05_plain.body) mixed c_ref05_plain rfl rfl ?_
    simp only [go_sem, vl_e, List.length_map, F_ref05_plain]
    refine call_1 (R := [1, 1, 1]) o_fn1 (by decide) (by rfl) ?_
    simp only [go_sem, vl_e, List.length_map]
    exact done [] _ [(5, ob_ [1, 1, 1])] (by rfl) (by first | trivial | simp only [go_sem, vl_e, List.length_map]) rfl ⟨rfl, rfl⟩
  by_cases h14 : op = 167
  · subst h14
    have r : rpD 167 = ((some (1, [2]), some [1]), true) := rfl
    rw [r]
    refine canon (Sb := sb) (r1 := .tup [.agg [.ms 41 1 0 1, .ms 42 1 0 1], .bool true]) (σ1 := [(41, ob_ [2]), (42, ob_ [1])]) [(41, 1), (42, 2)] ?_ rfl rfl rfl
    refine fun_sound (ic := F_ref05_plain.body) mixed c_ref05_plain rfl rfl ?_
    simp only [go_sem, vl_e, List.length_map, F_ref05_plain]
    refine call_2 (R := [2]) (L := [1]) o_fn2 (by decide) (by decide) (by decide) (by rfl) (by rfl) ?_
    simp only [go_sem, vl_e, List.length_map]
    exact done [] _ [(41, ob_ [2]), (42, ob_ [1])] (by rfl) (by first | trivial | simp only [go_sem, vl_e, List.length_map]) rfl ⟨rfl, rfl⟩
  by_cases h15 : op = 172
  · subst h15
    have r : rpD 172 = ((some (1, [1]), some [2]), true) := rfl
    rw [r]
    refine canon (Sb := sb) (r1 := .tup [.agg [.ms 47 1 0 1, .ms 48 1 0 1], .bool true]) (σ1 := [(47, ob_ [1]), (48, ob_ [2])]) [(47, 1), (48, 2)] ?_ rfl rfl rfl
    refine fun_sound (ic := F_ref05_plain.body) mixed c_ref05_plain rfl rfl ?_
    simp only [go_sem, vl_e, List.length_map, F_ref05_plain]
    refine call_2 (R := [1]) (L := [2]) o_fn2 (by decide) (by decide) (by decide) (by rfl) (by rfl) ?_
    simp only [go_sem, vl_e, List.length_map]
    exact done [] _ [(47, ob_ [1]), (48, ob_ [2])] (by rfl) (by first | trivial | simp only [go_sem, vl_e, List.length_map]) rfl ⟨rfl, rfl⟩
  by_cases h16 : op = 173
  · subst h16
    have r : rpD 173 = ((some (1, [1]), some [2]), true) := rfl
    rw [r]
    refine canon (Sb := sb) (r1 := .tup [.agg [.ms 47 1 0 1, .ms 48 1 0 1], .bool true]) (σ1 := [(47, ob_ [1]), (48, ob_ [2])]) [(47, 1), (48, 2)] ?_ rfl rfl rfl
    refine fun_sound (ic := F_ref05_plain.body) mixed c_ref05_plain rfl rfl ?_
    simp only [go_sem, vl_e, List.length_map, F_ref05_plain]
    refine call_2 (R := [1]) (L := [2]) o_fn2 (by decide) (by decide) (by decide) (by rfl) (by rfl) ?_
    simp only [go_sem, vl_e, List.length_map]
    exact done [] _ [(47, ob_ [1]), (48, ob_ [2])] (by rfl) (by first | trivial | simp only [go_sem, vl_e, List.length_map]) rfl ⟨rfl, rfl⟩
  have e : rdT.find? (fun p => p.1 == op) = none := by
    simp only [rdT, List.find?_cons, List.find?_nil, beq_f (fun e : (1 : Int) = op => h0 e.symm), beq_f (fun e : (64525 : Int) = op => h1 e.symm), beq_f (fun e : (64521 : Int) = op => h2 e.symm), beq_f (fun e : (65 : Int) = op => h3 e.symm), beq_f (fun e : (63 : Int) = op => h4 e.symm), beq_f (fun e : (64528 : Int) = op => h5 e.symm), beq_f (fun e : (66 : Int) = op => h6 e.symm), beq_f (fun e : (210 : Int) = op => h7 e.symm), beq_f (fun e : (64 : Int) = op => h8 e.symm), beq_f (fun e : (64523 : Int) = op => h9 e.symm), beq_f (fun e : (64522 : Int) = op => h10 e.symm), beq_f (fun e : (64520 : Int) = op => h11 e.symm), beq_f (fun e : (64526 : Int) = op => h12 e.symm), beq_f (fun e : (64524 : Int) = op => h13 e.symm), beq_f (fun e : (167 : Int) = op => h14 e.symm), beq_f (fun e : (172 : Int) = op => h15 e.symm), beq_f (fun e : (173 : Int) = op => h16 e.symm)]
  have r : rpD op = ((none, none), false) := by rw [rpD, e]
  rw [r]
  refine canon (Sb := sb) (r1 := .tup [.agg [.nl, .nl], .bool false]) (σ1 := []) [] ?_ rfl rfl rfl
  refine fun_sound (ic := F_ref05_plain.body) mixed c_ref05_plain rfl rfl ?_
  simp only [go_sem, vl_e, List.length_map, F_ref05_plain, beq_f h0, beq_f h1, beq_f h2, beq_f h3, beq_f h4, beq_f h5, beq_f h6, beq_f h7, beq_f h8, beq_f h9, beq_f h10, beq_f h11, beq_f h12, beq_f h13, beq_f h14, beq_f h15, beq_f h16]
  exact done [] _ [] (by rfl) trivial rfl ⟨rfl, rfl⟩
def tyR (s : List UInt8) : Int := if (s.length : Int) > 4 ∧ s.take 4 = [105, 54, 52, 46] then 2 else 1
theorem r_typ5 (s : List UInt8) : PCalls Tryd.prog n_ref05_typ [.str s] (.int .i64 (tyR s)) := by
  refine pfun_sound (ic := F_ref05_typ.body) mixed c_ref05_typ rfl rfl ?_
  unfold tyR
  by_cases h : (s.length : Int) > 4
  · simp only [go_sem, vl_e, List.length_map, F_ref05_typ, decide_eq_true h]
    refine ⟨⟨by decide, by omega⟩, fun h2 => ?_, fun h2 => ?_⟩
    · rw [if_pos ⟨h, by simpa using h2⟩]
      exact pdone [] (by rfl) rfl
    · rw [if_neg (fun e => by rw [e.2] at h2; simp at h2)]
      exact pdone [] (by rfl) rfl
  · rw [if_neg (fun e => h e.1)]
    simp only [go_sem, vl_e, List.length_map, F_ref05_typ, decide_eq_false h]
    exact pdone [] (by rfl) rfl

def refN (op : Int) : SgD × Bool :=
  if rIm op = 17 then (if wthn (rNm op) [108, 111, 97, 100] = true then (sg2 [1] [tyR (rNm op)], true) else ((some (2, [1, tyR (rNm op)]), none), true)) else
  if op = 69 ∨ op = 80 then (sg2 [tyR (rNm op)] [1], true) else
  if (op > 69 ∧ op ≤ 79) ∨ (op > 80 ∧ op ≤ 90) then (sg2 [tyR (rNm op), tyR (rNm op)] [1], true) else
  if (op ≥ 103 ∧ op ≤ 105) ∨ (op ≥ 121 ∧ op ≤ 123) ∨ wthn (rNm op) [101, 120, 116, 101, 110, 100] = true then (sg2 [tyR (rNm op)] [tyR (rNm op)], true) else
  if (op ≥ 106 ∧ op ≤ 120) ∨ (op ≥ 124 ∧ op ≤ 138) then (sg2 [tyR (rNm op), tyR (rNm op)] [tyR (rNm op)], true) else ((none, none), false)
def refD (op : Int) : SgD × Bool := match rdT.find? (fun p => p.1 == op) with
  | some p => (p.2, true)
  | none => refN op
theorem n_rsig (op : Int) : ACalls Tryd.prog n_ref05_Sig [.int .i64 op] [] (fun _ => False) (fun r σ' => r = .tup [sgV (refD op).1, .bool (refD op).2] ∧ σ' = sgO (refD op).1) := by
  have m0 := n_rplain op
  unfold refD
  unfold rpD at m0
  cases hf : rdT.find? (fun p => p.1 == op) with
  | some p =>
    rw [hf] at m0
    simp only at m0 ⊢
    obtain ⟨p1, dp, dq⟩ := p
    simp only at m0 ⊢
    cases dp with
    | none =>
      cases dq with
      | none =>
        refine canon (Sb := sb) (r1 := .tup [.agg [.nl, .nl], .bool true]) (σ1 := []) [] ?_ rfl rfl rfl
        refine fun_sound (ic := F_ref05_Sig.body) mixed c_ref05_Sig rfl rfl ?_
        simp only [go_sem, vl_e, List.length_map, F_ref05_Sig]
        refine call_same (show PCalls Tryd.prog n_ref05_plain [.int .i64 op] (.tup [.agg [.nl, .nl], .bool true]) from m0) (by simp [go_sem]) ?_
        simp only [go_sem, vl_e, List.length_map]
        exact done [] _ [] (by rfl) trivial rfl ⟨rfl, rfl⟩
      | some L =>
        refine canon (Sb := sb) (r1 := .tup [.agg [.nl, .ms 902 1 0 L.length], .bool true]) (σ1 := [(902, ob_ L)]) [(902, 2)] ?_ rfl rfl rfl
        refine fun_sound (ic := F_ref05_Sig.body) mixed c_ref05_Sig rfl rfl ?_
        simp only [go_sem, vl_e, List.length_map, F_ref05_Sig]
        refine call_obj (σ2 := []) (r3 := .tup [.agg [.nl, .ms 902 1 0 L.length], .bool true]) (σ3 := [(902, ob_ L)]) m0 [(2, 902)] [902] rfl rfl rfl rfl (fun p hp => by cases hp) (fun p hp => by simp only [List.mem_cons, List.not_mem_nil, or_false] at hp; subst hp; exact .inr ⟨by simp, by simp, .inr (by rfl)⟩) (fun p hp => by cases hp) ?_
        simp only [go_sem, vl_e, List.length_map, purEs_cons, purEs_nil, purHs_cons, purHs_nil, List.cons_append, List.nil_append]
        exact done [] _ [(902, ob_ L)] (by rfl) (by first | trivial | simp only [go_sem, vl_e, List.length_map]) rfl ⟨rfl, rfl⟩
    | some x =>
      obtain ⟨n, R⟩ := x
      cases dq with
      | none =>
        refine canon (Sb := sb) (r1 := .tup [.agg [.ms 901 1 0 n, .nl], .bool true]) (σ1 := [(901, ob_ R)]) [(901, 1)] ?_ rfl rfl rfl
        refine fun_sound (ic := F_ref05_Sig.body) mixed c_ref05_Sig rfl rfl ?_
        simp only [go_sem, vl_e, List.length_map, F_ref05_Sig]
        refine call_obj (σ2 := []) (r3 := .tup [.agg [.ms 901 1 0 n, .nl], .bool true]) (σ3 := [(901, ob_ R)]) m0 [(1, 901)] [901] rfl rfl rfl rfl (fun p hp => by cases hp) (fun p hp => by simp only [List.mem_cons, List.not_mem_nil, or_false] at hp; subst hp; exact .inr ⟨by simp, by simp, .inr (by rfl)⟩) (fun p hp => by cases hp) ?_
        simp only [go_sem, vl_e, List.length_map, purEs_cons, purEs_nil, purHs_cons, purHs_nil, List.cons_append, List.nil_append]
        exact done [] _ [(901, ob_ R)] (by rfl) (by first | trivial | simp only [go_sem, vl_e, List.length_map]) rfl ⟨rfl, rfl⟩
      | some L =>
        refine canon (Sb := sb) (r1 := .tup [.agg [.ms 901 1 0 n, .ms 902 1 0 L.length], .bool true]) (σ1 := [(901, ob_ R), (902, ob_ L)]) [(901, 1), (902, 2)] ?_ rfl rfl rfl
        refine fun_sound (ic := F_ref05_Sig.body) mixed c_ref05_Sig rfl rfl ?_
        simp only [go_sem, vl_e, List.length_map, F_ref05_Sig]
        refine call_obj (σ2 := []) (r3 := .tup [.agg [.ms 901 1 0 n, .ms 902 1 0 L.length], .bool true]) (σ3 := [(901, ob_ R), (902, ob_ L)]) m0 [(1, 901), (2, 902)] [901, 902] rfl rfl rfl rfl (fun p hp => by cases hp) (fun p hp => by simp only [List.mem_cons, List.not_mem_nil, or_false] at hp; rcases hp with rfl | rfl <;> exact .inr ⟨by simp, by simp, .inr (by rfl)⟩) (fun p hp => by cases hp) ?_
        simp only [go_sem, vl_e, List.length_map, purEs_cons, purEs_nil, purHs_cons, purHs_nil, List.cons_append, List.nil_append]
        exact done [] _ [(901, ob_ R), (902, ob_ L)] (by rfl) (by first | trivial | simp only [go_sem, vl_e, List.length_map]) rfl ⟨rfl, rfl⟩
  | none =>
    rw [hf] at m0
    simp only at m0 ⊢
    replace m0 : PCalls Tryd.prog n_ref05_plain [.int .i64 op] (.tup [.agg [.nl, .nl], .bool false]) := m0
    have hl := rNm_len op
    have n0 := r_rname op
    have n1 := r_typ5 (rNm op)
    have n2 := r_rof op
    have n3 := r_within (rNm op) [108, 111, 97, 100] (by omega) (by decide)
    have n4 := r_within (rNm op) [101, 120, 116, 101, 110, 100] (by omega) (by decide)
    unfold refN
    generalize tyR (rNm op) = t at n1
    generalize rNm op = s at n0 n1 n3 n4 hl
    generalize rIm op = im at n2
    by_cases c1 : im = 17
    · rw [if_pos c1]
      cases c2 : wthn s [108, 111, 97, 100]
      · rw [if_neg (by decide)]
        rw [c2] at n3
        refine canon (Sb := sb) (r1 := .tup [.agg [.ms 43 1 0 2, .nl], .bool true]) (σ1 := [(43, ob_ [1, t])]) [(43, 1)] ?_ rfl rfl rfl
        refine fun_sound (ic := F_ref05_Sig.body) mixed c_ref05_Sig rfl rfl ?_
        simp only [go_sem, vl_e, List.length_map, F_ref05_Sig]
        refine call_same (m0) (by simp [go_sem, vl_e, List.length_map]) ?_
        simp only [go_sem, vl_e, List.length_map]
        refine call_same (n0) (by simp [go_sem, vl_e, List.length_map]) ?_
        simp only [go_sem, vl_e, List.length_map]
        refine call_same (n1) (by simp [go_sem, vl_e, List.length_map]) ?_
        simp only [go_sem, vl_e, List.length_map]
        refine call_same (n2) (by simp [go_sem, vl_e, List.length_map]) ?_
        simp only [go_sem, vl_e, List.length_map, beq_t c1]
        refine call_same (n3) (by simp [go_sem, vl_e, List.length_map]) ?_
        simp only [go_sem, vl_e, List.length_map]
        refine call_same (n2) (by simp [go_sem, vl_e, List.length_map]) ?_
        simp only [go_sem, vl_e, List.length_map, beq_t c1]
        refine call_1 (R := [1, t]) o_fn1 (by decide) (by rfl) ?_
        simp only [go_sem, vl_e, List.length_map]
        exact done [] _ [(43, ob_ [1, t])] (by rfl) (by simp only [go_sem, vl_e, List.length_map]) rfl ⟨rfl, rfl⟩
      · rw [if_pos rfl]
        rw [c2] at n3
        refine canon (Sb := sb) (r1 := .tup [.agg [.ms 34 1 0 1, .ms 36 1 0 1], .bool true]) (σ1 := [(34, ob_ [1]), (36, ob_ [t])]) [(34, 1), (36, 2)] ?_ rfl rfl rfl
        refine fun_sound (ic := F_ref05_Sig.body) mixed c_ref05_Sig rfl rfl ?_
        simp only [go_sem, vl_e, List.length_map, F_ref05_Sig]
        refine call_same (m0) (by simp [go_sem, vl_e, List.length_map]) ?_
        simp only [go_sem, vl_e, List.length_map]
        refine call_same (n0) (by simp [go_sem, vl_e, List.length_map]) ?_
        simp only [go_sem, vl_e, List.length_map]
        refine call_same (n1) (by simp [go_sem, vl_e, List.length_map]) ?_
        simp only [go_sem, vl_e, List.length_map]
        refine call_same (n2) (by simp [go_sem, vl_e, List.length_map]) ?_
        simp only [go_sem, vl_e, List.length_map, beq_t c1]
        refine call_same (n3) (by simp [go_sem, vl_e, List.length_map]) ?_
        simp only [go_sem, vl_e, List.length_map]
        refine call_2 (R := [1]) (L := [t]) o_fn2 (by decide) (by decide) (by decide) (by rfl) (by rfl) ?_
        simp only [go_sem, vl_e, List.length_map]
        exact done [] _ [(34, ob_ [1]), (36, ob_ [t])] (by rfl) (by simp only [go_sem, vl_e, List.length_map]) rfl ⟨rfl, rfl⟩
    rw [if_neg c1]
    by_cases d69 : op = 69
    · rw [if_pos (.inl d69)]
      refine canon (Sb := sb) (r1 := .tup [.agg [.ms 22 1 0 1, .ms 53 1 0 1], .bool true]) (σ1 := [(22, ob_ [t]), (53, ob_ [1])]) [(22, 1), (53, 2)] ?_ rfl rfl rfl
      refine fun_sound (ic := F_ref05_Sig.body) mixed c_ref05_Sig rfl rfl ?_
      simp only [go_sem, vl_e, List.length_map, F_ref05_Sig]
      refine call_same (m0) (by simp [go_sem, vl_e, List.length_map]) ?_
      simp only [go_sem, vl_e, List.length_map]
      refine call_same (n0) (by simp [go_sem, vl_e, List.length_map]) ?_
      simp only [go_sem, vl_e, List.length_map]
      refine call_same (n1) (by simp [go_sem, vl_e, List.length_map]) ?_
      simp only [go_sem, vl_e, List.length_map]
      refine call_same (n2) (by simp [go_sem, vl_e, List.length_map]) ?_
      simp only [go_sem, vl_e, List.length_map, beq_f c1]
      refine call_same (n2) (by simp [go_sem, vl_e, List.length_map]) ?_
      simp only [go_sem, vl_e, List.length_map, beq_f c1, beq_t d69]
      refine call_2 (R := [t]) (L := [1]) o_fn2 (by decide) (by decide) (by decide) (by rfl) (by rfl) ?_
      simp only [go_sem, vl_e, List.length_map]
      exact done [] _ [(22, ob_ [t]), (53, ob_ [1])] (by rfl) (by simp only [go_sem, vl_e, List.length_map]) rfl ⟨rfl, rfl⟩
    by_cases d80 : op = 80
    · rw [if_pos (.inr d80)]
      refine canon (Sb := sb) (r1 := .tup [.agg [.ms 22 1 0 1, .ms 53 1 0 1], .bool true]) (σ1 := [(22, ob_ [t]), (53, ob_ [1])]) [(22, 1), (53, 2)] ?_ rfl rfl rfl
      refine fun_sound (ic := F_ref05_Sig.body) mixed c_ref05_Sig rfl rfl ?_
      simp only [go_sem, vl_e, List.length_map, F_ref05_Sig]
      refine call_same (m0) (by simp [go_sem, vl_e, List.length_map]) ?_
      simp only [go_sem, vl_e, List.length_map]
      refine call_same (n0) (by simp [go_sem, vl_e, List.length_map]) ?_
      simp only [go_sem, vl_e, List.length_map]
      refine call_same (n1) (by simp [go_sem, vl_e, List.length_map]) ?_
      simp only [go_sem, vl_e, List.length_map]
      refine call_same (n2) (by simp [go_sem, vl_e, List.length_map]) ?_
      simp only [go_sem, vl_e, List.length_map, beq_f c1]
      refine call_same (n2) (by simp [go_sem, vl_e, List.length_map]) ?_
      simp only [go_sem, vl_e, List.length_map, beq_f c1, beq_f d69, beq_t d80]
      refine call_2 (R := [t]) (L := [1]) o_fn2 (by decide) (by decide) (by decide) (by rfl) (by rfl) ?_
      simp only [go_sem, vl_e, List.length_map]
      exact done [] _ [(22, ob_ [t]), (53, ob_ [1])] (by rfl) (by simp only [go_sem, vl_e, List.length_map]) rfl ⟨rfl, rfl⟩
    rw [if_neg (fun h => h.elim d69 d80)]
    by_cases g0 : op ≤ 68
    · rw [if_neg (by omega)]
      cases c4 : wthn s [101, 120, 116, 101, 110, 100]
      · rw [if_neg (by rintro (h | h | h); omega; omega; cases h)]
        rw [c4] at n4
        rw [if_neg (by omega)]
        refine canon (Sb := sb) (r1 := .tup [.agg [.nl, .nl], .bool false]) (σ1 := []) [] ?_ rfl rfl rfl
        refine fun_sound (ic := F_ref05_Sig.body) mixed c_ref05_Sig rfl rfl ?_
        simp only [go_sem, vl_e, List.length_map, F_ref05_Sig]
        refine call_same (m0) (by simp [go_sem, vl_e, List.length_map]) ?_
        simp only [go_sem, vl_e, List.length_map]
        refine call_same (n0) (by simp [go_sem, vl_e, List.length_map]) ?_
        simp only [go_sem, vl_e, List.length_map]
        refine call_same (n1) (by simp [go_sem, vl_e, List.length_map]) ?_
        simp only [go_sem, vl_e, List.length_map]
        refine call_same (n2) (by simp [go_sem, vl_e, List.length_map]) ?_
        simp only [go_sem, vl_e, List.length_map, beq_f c1]
        refine call_same (n2) (by simp [go_sem, vl_e, List.length_map]) ?_
        simp only [go_sem, vl_e, List.length_map, beq_f c1, beq_f d69, beq_f d80, decide_eq_false (show ¬ op > 69 by omega), decide_eq_true (show op ≤ 79 by omega), decide_eq_false (show ¬ op > 80 by omega), decide_eq_true (show op ≤ 90 by omega), decide_eq_false (show ¬ op ≥ 103 by omega), decide_eq_true (show op ≤ 105 by omega), decide_eq_false (show ¬ op ≥ 121 by omega), decide_eq_true (show op ≤ 123 by omega), decide_eq_false (show ¬ op ≥ 106 by omega), decide_eq_true (show op ≤ 120 by omega), decide_eq_false (show ¬ op ≥ 124 by omega), decide_eq_true (show op ≤ 138 by omega)]
        refine call_same (n4) (by simp [go_sem, vl_e, List.length_map]) ?_
        simp only [go_sem, vl_e, List.length_map, beq_f c1, beq_f d69, beq_f d80, decide_eq_false (show ¬ op > 69 by omega), decide_eq_true (show op ≤ 79 by omega), decide_eq_false (show ¬ op > 80 by omega), decide_eq_true (show op ≤ 90 by omega), decide_eq_false (show ¬ op ≥ 103 by omega), decide_eq_true (show op ≤ 105 by omega), decide_eq_false (show ¬ op ≥ 121 by omega), decide_eq_true (show op ≤ 123 by omega), decide_eq_false (show ¬ op ≥ 106 by omega), decide_eq_true (show op ≤ 120 by omega), decide_eq_false (show ¬ op ≥ 124 by omega), decide_eq_true (show op ≤ 138 by omega)]
        exact done [] _ [] (by rfl) trivial rfl ⟨rfl, rfl⟩
      · rw [if_pos (.inr (.inr rfl))]
        rw [c4] at n4
        refine canon (Sb := sb) (r1 := .tup [.agg [.ms 22 1 0 1, .ms 94 1 0 1], .bool true]) (σ1 := [(22, ob_ [t]), (94, ob_ [t])]) [(22, 1), (94, 2)] ?_ rfl rfl rfl
        refine fun_sound (ic := F_ref05_Sig.body) mixed c_ref05_Sig rfl rfl ?_
        simp only [go_sem, vl_e, List.length_map, F_ref05_Sig]
        refine call_same (m0) (by simp [go_sem, vl_e, List.length_map]) ?_
        simp only [go_sem, vl_e, List.length_map]
        refine call_same (n0) (by simp [go_sem, vl_e, List.length_map]) ?_
        simp only [go_sem, vl_e, List.length_map]
        refine call_same (n1) (by simp [go_sem, vl_e, List.length_map]) ?_
        simp only [go_sem, vl_e, List.length_map]
        refine call_same (n2) (by simp [go_sem, vl_e, List.length_map]) ?_
        simp only [go_sem, vl_e, List.length_map, beq_f c1]
        refine call_same (n2) (by simp [go_sem, vl_e, List.length_map]) ?_
        simp only [go_sem, vl_e, List.length_map, beq_f c1, beq_f d69, beq_f d80, decide_eq_false (show ¬ op > 69 by omega), decide_eq_true (show op ≤ 79 by omega), decide_eq_false (show ¬ op > 80 by omega), decide_eq_true (show op ≤ 90 by omega), decide_eq_false (show ¬ op ≥ 103 by omega), decide_eq_true (show op ≤ 105 by omega), decide_eq_false (show ¬ op ≥ 121 by omega), decide_eq_true (show op ≤ 123 by omega), decide_eq_false (show ¬ op ≥ 106 by omega), decide_eq_true (show op ≤ 120 by omega), decide_eq_false (show ¬ op ≥ 124 by omega), decide_eq_true (show op ≤ 138 by omega)]
        refine call_same (n4) (by simp [go_sem, vl_e, List.length_map]) ?_
        simp only [go_sem, vl_e, List.length_map]
        refine call_2 (R := [t]) (L := [t]) o_fn2 (by decide) (by decide) (by decide) (by rfl) (by rfl) ?_
        simp only [go_sem, vl_e, List.length_map]
        exact done [] _ [(22, ob_ [t]), (94, ob_ [t])] (by rfl) (by simp only [go_sem, vl_e, List.length_map]) rfl ⟨rfl, rfl⟩
    by_cases g1 : op ≤ 79
    · rw [if_pos (by omega)]
      refine canon (Sb := sb) (r1 := .tup [.agg [.ms 25 1 0 2, .ms 71 1 0 1], .bool true]) (σ1 := [(25, ob_ [t, t]), (71, ob_ [1])]) [(25, 1), (71, 2)] ?_ rfl rfl rfl
      refine fun_sound (ic := F_ref05_Sig.body) mixed c_ref05_Sig rfl rfl ?_
      simp only [go_sem, vl_e, List.length_map, F_ref05_Sig]
      refine call_same (m0) (by simp [go_sem, vl_e, List.length_map]) ?_
      simp only [go_sem, vl_e, List.length_map]
      refine call_same (n0) (by simp [go_sem, vl_e, List.length_map]) ?_
      simp only [go_sem, vl_e, List.length_map]
      refine call_same (n1) (by simp [go_sem, vl_e, List.length_map]) ?_
      simp only [go_sem, vl_e, List.length_map]
      refine call_same (n2) (by simp [go_sem, vl_e, List.length_map]) ?_
      simp only [go_sem, vl_e, List.length_map, beq_f c1]
      refine call_same (n2) (by simp [go_sem, vl_e, List.length_map]) ?_
      simp only [go_sem, vl_e, List.length_map, beq_f c1, beq_f d69, beq_f d80, decide_eq_true (show op > 69 by omega), decide_eq_true (show op ≤ 79 by omega), decide_eq_false (show ¬ op > 80 by omega), decide_eq_true (show op ≤ 90 by omega), decide_eq_false (show ¬ op ≥ 103 by omega), decide_eq_true (show op ≤ 105 by omega), decide_eq_false (show ¬ op ≥ 121 by omega), decide_eq_true (show op ≤ 123 by omega), decide_eq_false (show ¬ op ≥ 106 by omega), decide_eq_true (show op ≤ 120 by omega), decide_eq_false (show ¬ op ≥ 124 by omega), decide_eq_true (show op ≤ 138 by omega)]
      refine call_2 (R := [t, t]) (L := [1]) o_fn2 (by decide) (by decide) (by decide) (by rfl) (by rfl) ?_
      simp only [go_sem, vl_e, List.length_map]
      exact done [] _ [(25, ob_ [t, t]), (71, ob_ [1])] (by rfl) (by simp only [go_sem, vl_e, List.length_map]) rfl ⟨rfl, rfl⟩
    by_cases g2 : op ≤ 90
    · rw [if_pos (by omega)]
      refine canon (Sb := sb) (r1 := .tup [.agg [.ms 25 1 0 2, .ms 71 1 0 1], .bool true]) (σ1 := [(25, ob_ [t, t]), (71, ob_ [1])]) [(25, 1), (71, 2)] ?_ rfl rfl rfl
      refine fun_sound (ic := F_ref05_Sig.body) mixed c_ref05_Sig rfl rfl ?_
      simp only [go_sem, vl_e, List.length_map, F_ref05_Sig]
      refine call_same (m0) (by simp [go_sem, vl_e, List.length_map]) ?_
      simp only [go_sem, vl_e, List.length_map]
      refine call_same (n0) (by simp [go_sem, vl_e, List.length_map]) ?_
      simp only [go_sem, vl_e, List.length_map]
      refine call_same (n1) (by simp [go_sem, vl_e, List.length_map]) ?_
      simp only [go_sem, vl_e, List.length_map]
      refine call_same (n2) (by simp [go_sem, vl_e, List.length_map]) ?_
      simp only [go_sem, vl_e, List.length_map, beq_f c1]
      refine call_same (n2) (by simp [go_sem, vl_e, List.length_map]) ?_
      simp only [go_sem, vl_e, List.length_map, beq_f c1, beq_f d69, beq_f d80, decide_eq_true (show op > 69 by omega), decide_eq_false (show ¬ op ≤ 79 by omega), decide_eq_true (show op > 80 by omega), decide_eq_true (show op ≤ 90 by omega), decide_eq_false (show ¬ op ≥ 103 by omega), decide_eq_true (show op ≤ 105 by omega), decide_eq_false (show ¬ op ≥ 121 by omega), decide_eq_true (show op ≤ 123 by omega), decide_eq_false (show ¬ op ≥ 106 by omega), decide_eq_true (show op ≤ 120 by omega), decide_eq_false (show ¬ op ≥ 124 by omega), decide_eq_true (show op ≤ 138 by omega)]
      refine call_2 (R := [t, t]) (L := [1]) o_fn2 (by decide) (by decide) (by decide) (by rfl) (by rfl) ?_
      simp only [go_sem, vl_e, List.length_map]
      exact done [] _ [(25, ob_ [t, t]), (71, ob_ [1])] (by rfl) (by simp only [go_sem, vl_e, List.length_map]) rfl ⟨rfl, rfl⟩
    by_cases g3 : op ≤ 102
    · rw [if_neg (by omega)]
      cases c4 : wthn s [101, 120, 116, 101, 110, 100]
      · rw [if_neg (by rintro (h | h | h); omega; omega; cases h)]
        rw [c4] at n4
        rw [if_neg (by omega)]
        refine canon (Sb := sb) (r1 := .tup [.agg [.nl, .nl], .bool false]) (σ1 := []) [] ?_ rfl rfl rfl
        refine fun_sound (ic := F_ref05_Sig.body) mixed c_ref05_Sig rfl rfl ?_
        simp only [go_sem, vl_e, List.length_map, F_ref05_Sig]
        refine call_same (m0) (by simp [go_sem, vl_e, List.length_map]) ?_
        simp only [go_sem, vl_e, List.length_map]
        refine call_same (n0) (by simp [go_sem, vl_e, List.length_map]) ?_
        simp only [go_sem, vl_e, List.length_map]
        refine call_same (n1) (by simp [go_sem, vl_e, List.length_map]) ?_
        simp only [go_sem, vl_e, List.length_map]
        refine call_same (n2) (by simp [go_sem, vl_e, List.length_map]) ?_
        simp only [go_sem, vl_e, List.length_map, beq_f c1]
        refine call_same (n2) (by simp [go_sem, vl_e, List.length_map]) ?_
        simp only [go_sem, vl_e, List.length_map, beq_f c1, beq_f d69, beq_f d80, decide_eq_true (show op > 69 by omega), decide_eq_false (show ¬ op ≤ 79 by omega), decide_eq_true (show op > 80 by omega), decide_eq_false (show ¬ op ≤ 90 by omega), decide_eq_false (show ¬ op ≥ 103 by omega), decide_eq_true (show op ≤ 105 by omega), decide_eq_false (show ¬ op ≥ 121 by omega), decide_eq_true (show op ≤ 123 by omega), decide_eq_false (show ¬ op ≥ 106 by omega), decide_eq_true (show op ≤ 120 by omega), decide_eq_false (show ¬ op ≥ 124 by omega), decide_eq_true (show op ≤ 138 by omega)]
        refine call_same (n4) (by simp [go_sem, vl_e, List.length_map]) ?_
        simp only [go_sem, vl_e, List.length_map, beq_f c1, beq_f d69, beq_f d80, decide_eq_true (show op > 69 by omega), decide_eq_false (show ¬ op ≤ 79 by omega), decide_eq_true (show op > 80 by omega), decide_eq_false (show ¬ op ≤ 90 by omega), decide_eq_false (show ¬ op ≥ 103 by omega), decide_eq_true (show op ≤ 105 by omega), decide_eq_false (show ¬ op ≥ 121 by omega), decide_eq_true (show op ≤ 123 by omega), decide_eq_false (show ¬ op ≥ 106 by omega), decide_eq_true (show op ≤ 120 by omega), decide_eq_false (show ¬ op ≥ 124 by omega), decide_eq_true (show op ≤ 138 by omega)]
        exact done [] _ [] (by rfl) trivial rfl ⟨rfl, rfl⟩
      · rw [if_pos (.inr (.inr rfl))]
        rw [c4] at n4
        refine canon (Sb := sb) (r1 := .tup [.agg [.ms 22 1 0 1, .ms 94 1 0 1], .bool true]) (σ1 := [(22, ob_ [t]), (94, ob_ [t])]) [(22, 1), (94, 2)] ?_ rfl rfl rfl
        refine fun_sound (ic := F_ref05_Sig.body) mixed c_ref05_Sig rfl rfl ?_
        simp only [go_sem, vl_e, List.length_map, F_ref05_Sig]
        refine call_same (m0) (by simp [go_sem, vl_e, List.length_map]) ?_
        simp only [go_sem, vl_e, List.length_map]
        refine call_same (n0) (by simp [go_sem, vl_e, List.length_map]) ?_
        simp only [go_sem, vl_e, List.length_map]
        refine call_same (n1) (by simp [go_sem, vl_e, List.length_map]) ?_
        simp only [go_sem, vl_e, List.length_map]
        refine call_same (n2) (by simp [go_sem, vl_e, List.length_map]) ?_
        simp only [go_sem, vl_e, List.length_map, beq_f c1]
        refine call_same (n2) (by simp [go_sem, vl_e, List.length_map]) ?_
        simp only [go_sem, vl_e, List.length_map, beq_f c1, beq_f d69, beq_f d80, decide_eq_true (show op > 69 by omega), decide_eq_false (show ¬ op ≤ 79 by omega), decide_eq_true (show op > 80 by omega), decide_eq_false (show ¬ op ≤ 90 by omega), decide_eq_false (show ¬ op ≥ 103 by omega), decide_eq_true (show op ≤ 105 by omega), decide_eq_false (show ¬ op ≥ 121 by omega), decide_eq_true (show op ≤ 123 by omega), decide_eq_false (show ¬ op ≥ 106 by omega), decide_eq_true (show op ≤ 120 by omega), decide_eq_false (show ¬ op ≥ 124 by omega), decide_eq_true (show op ≤ 138 by omega)]
        refine call_same (n4) (by simp [go_sem, vl_e, List.length_map]) ?_
        simp only [go_sem, vl_e, List.length_map]
        refine call_2 (R := [t]) (L := [t]) o_fn2 (by decide) (by decide) (by decide) (by rfl) (by rfl) ?_
        simp only [go_sem, vl_e, List.length_map]
        exact done [] _ [(22, ob_ [t]), (94, ob_ [t])] (by rfl) (by simp only [go_sem, vl_e, List.length_map]) rfl ⟨rfl, rfl⟩
    by_cases g4 : op ≤ 105
    · rw [if_neg (by omega)]
      rw [if_pos (.inl ⟨by omega, by omega⟩)]
      refine canon (Sb := sb) (r1 := .tup [.agg [.ms 22 1 0 1, .ms 94 1 0 1], .bool true]) (σ1 := [(22, ob_ [t]), (94, ob_ [t])]) [(22, 1), (94, 2)] ?_ rfl rfl rfl
      refine fun_sound (ic := F_ref05_Sig.body) mixed c_ref05_Sig rfl rfl ?_
      simp only [go_sem, vl_e, List.length_map, F_ref05_Sig]
      refine call_same (m0) (by simp [go_sem, vl_e, List.length_map]) ?_
      simp only [go_sem, vl_e, List.length_map]
      refine call_same (n0) (by simp [go_sem, vl_e, List.length_map]) ?_
      simp only [go_sem, vl_e, List.length_map]
      refine call_same (n1) (by simp [go_sem, vl_e, List.length_map]) ?_
      simp only [go_sem, vl_e, List.length_map]
      refine call_same (n2) (by simp [go_sem, vl_e, List.length_map]) ?_
      simp only [go_sem, vl_e, List.length_map, beq_f c1]
      refine call_same (n2) (by simp [go_sem, vl_e, List.length_map]) ?_
      simp only [go_sem, vl_e, List.length_map, beq_f c1, beq_f d69, beq_f d80, decide_eq_true (show op > 69 by omega), decide_eq_false (show ¬ op ≤ 79 by omega), decide_eq_true (show op > 80 by omega), decide_eq_false (show ¬ op ≤ 90 by omega), decide_eq_true (show op ≥ 103 by omega), decide_eq_true (show op ≤ 105 by omega), decide_eq_false (show ¬ op ≥ 121 by omega), decide_eq_true (show op ≤ 123 by omega), decide_eq_false (show ¬ op ≥ 106 by omega), decide_eq_true (show op ≤ 120 by omega), decide_eq_false (show ¬ op ≥ 124 by omega), decide_eq_true (show op ≤ 138 by omega)]
      refine call_2 (R := [t]) (L := [t]) o_fn2 (by decide) (by decide) (by decide) (by rfl) (by rfl) ?_
      simp only [go_sem, vl_e, List.length_map]
      exact done [] _ [(22, ob_ [t]), (94, ob_ [t])] (by rfl) (by simp only [go_sem, vl_e, List.length_map]) rfl ⟨rfl, rfl⟩
    by_cases g5 : op ≤ 120
    · rw [if_neg (by omega)]
      cases c4 : wthn s [101, 120, 116, 101, 110, 100]
      · rw [if_neg (by rintro (h | h | h); omega; omega; cases h)]
        rw [c4] at n4
        rw [if_pos (by omega)]
        refine canon (Sb := sb) (r1 := .tup [.agg [.ms 25 1 0 2, .ms 113 1 0 1], .bool true]) (σ1 := [(25, ob_ [t, t]), (113, ob_ [t])]) [(25, 1), (113, 2)] ?_ rfl rfl rfl
        refine fun_sound (ic := F_ref05_Sig.body) mixed c_ref05_Sig rfl rfl ?_
        simp only [go_sem, vl_e, List.length_map, F_ref05_Sig]
        refine call_same (m0) (by simp [go_sem, vl_e, List.length_map]) ?_
        simp only [go_sem, vl_e, List.length_map]
        refine call_same (n0) (by simp [go_sem, vl_e, List.length_map]) ?_
        simp only [go_sem, vl_e, List.length_map]
        refine call_same (n1) (by simp [go_sem, vl_e, List.length_map]) ?_
        simp only [go_sem, vl_e, List.length_map]
        refine call_same (n2) (by simp [go_sem, vl_e, List.length_map]) ?_
        simp only [go_sem, vl_e, List.length_map, beq_f c1]
        refine call_same (n2) (by simp [go_sem, vl_e, List.length_map]) ?_
        simp only [go_sem, vl_e, List.length_map, beq_f c1, beq_f d69, beq_f d80, decide_eq_true (show op > 69 by omega), decide_eq_false (show ¬ op ≤ 79 by omega), decide_eq_true (show op > 80 by omega), decide_eq_false (show ¬ op ≤ 90 by omega), decide_eq_true (show op ≥ 103 by omega), decide_eq_false (show ¬ op ≤ 105 by omega), decide_eq_false (show ¬ op ≥ 121 by omega), decide_eq_true (show op ≤ 123 by omega), decide_eq_true (show op ≥ 106 by omega), decide_eq_true (show op ≤ 120 by omega), decide_eq_false (show ¬ op ≥ 124 by omega), decide_eq_true (show op ≤ 138 by omega)]
        refine call_same (n4) (by simp [go_sem, vl_e, List.length_map]) ?_
        simp only [go_sem, vl_e, List.length_map, beq_f c1, beq_f d69, beq_f d80, decide_eq_true (show op > 69 by omega), decide_eq_false (show ¬ op ≤ 79 by omega), decide_eq_true (show op > 80 by omega), decide_eq_false (show ¬ op ≤ 90 by omega), decide_eq_true (show op ≥ 103 by omega), decide_eq_false (show ¬ op ≤ 105 by omega), decide_eq_false (show ¬ op ≥ 121 by omega), decide_eq_true (show op ≤ 123 by omega), decide_eq_true (show op ≥ 106 by omega), decide_eq_true (show op ≤ 120 by omega), decide_eq_false (show ¬ op ≥ 124 by omega), decide_eq_true (show op ≤ 138 by omega)]
        refine call_2 (R := [t, t]) (L := [t]) o_fn2 (by decide) (by decide) (by decide) (by rfl) (by rfl) ?_
        simp only [go_sem, vl_e, List.length_map]
        exact done [] _ [(25, ob_ [t, t]), (113, ob_ [t])] (by rfl) (by simp only [go_sem, vl_e, List.length_map]) rfl ⟨rfl, rfl⟩
      · rw [if_pos (.inr (.inr rfl))]
        rw [c4] at n4
        refine canon (Sb := sb) (r1 := .tup [.agg [.ms 22 1 0 1, .ms 94 1 0 1], .bool true]) (σ1 := [(22, ob_ [t]), (94, ob_ [t])]) [(22, 1), (94, 2)] ?_ rfl rfl rfl
        refine fun_sound (ic := F_ref05_Sig.body) mixed c_ref05_Sig rfl rfl ?_
        simp only [go_sem, vl_e, List.length_map, F_ref05_Sig]
        refine call_same (m0) (by simp [go_sem, vl_e, List.length_map]) ?_
        simp only [go_sem, vl_e, List.length_map]
        refine call_same (n0) (by simp [go_sem, vl_e, List.length_map]) ?_
        simp only [go_sem, vl_e, List.length_map]
        refine call_same (n1) (by simp [go_sem, vl_e, List.length_map]) ?_
        simp only [go_sem, vl_e, List.length_map]
        refine call_same (n2) (by simp [go_sem, vl_e, List.length_map]) ?_
        simp only [go_sem, vl_e, List.length_map, beq_f c1]
        refine call_same (n2) (by simp [go_sem, vl_e, List.length_map]) ?_
        simp only [go_sem, vl_e, List.length_map, beq_f c1, beq_f d69, beq_f d80, decide_eq_true (show op > 69 by omega), decide_eq_false (show ¬ op ≤ 79 by omega), decide_eq_true (show op > 80 by omega), decide_eq_false (show ¬ op ≤ 90 by omega), decide_eq_true (show op ≥ 103 by omega), decide_eq_false (show ¬ op ≤ 105 by omega), decide_eq_false (show ¬ op ≥ 121 by omega), decide_eq_true (show op ≤ 123 by omega), decide_eq_true (show op ≥ 106 by omega), decide_eq_true (show op ≤ 120 by omega), decide_eq_false (show ¬ op ≥ 124 by omega), decide_eq_true (show op ≤ 138 by omega)]
        refine call_same (n4) (by simp [go_sem, vl_e, List.length_map]) ?_
        simp only [go_sem, vl_e, List.length_map]
        refine call_2 (R := [t]) (L := [t]) o_fn2 (by decide) (by decide) (by decide) (by rfl) (by rfl) ?_
        simp only [go_sem, vl_e, List.length_map]
        exact done [] _ [(22, ob_ [t]), (94, ob_ [t])] (by rfl) (by simp only [go_sem, vl_e, List.length_map]) rfl ⟨rfl, rfl⟩
    by_cases g6 : op ≤ 123
    · rw [if_neg (by omega)]
      rw [if_pos (.inr (.inl ⟨by omega, by omega⟩))]
      refine canon (Sb := sb) (r1 := .tup [.agg [.ms 22 1 0 1, .ms 94 1 0 1], .bool true]) (σ1 := [(22, ob_ [t]), (94, ob_ [t])]) [(22, 1), (94, 2)] ?_ rfl rfl rfl
      refine fun_sound (ic := F_ref05_Sig.body) mixed c_ref05_Sig rfl rfl ?_
      simp only [go_sem, vl_e, List.length_map, F_ref05_Sig]
      refine call_same (m0) (by simp [go_sem, vl_e, List.length_map]) ?_
      simp only [go_sem, vl_e, List.length_map]
      refine call_same (n0) (by simp [go_sem, vl_e, List.length_map]) ?_
      simp only [go_sem, vl_e, List.length_map]
      refine call_same (n1) (by simp [go_sem, vl_e, List.length_map]) ?_
      simp only [go_sem, vl_e, List.length_map]
      refine call_same (n2) (by simp [go_sem, vl_e, List.length_map]) ?_
      simp only [go_sem, vl_e, List.length_map, beq_f c1]
      refine call_same (n2) (by simp [go_sem, vl_e, List.length_map]) ?_
      simp only [go_sem, vl_e, List.length_map, beq_f c1, beq_f d69, beq_f d80, decide_eq_true (show op > 69 by omega), decide_eq_false (show ¬ op ≤ 79 by omega), decide_eq_true (show op > 80 by omega), decide_eq_false (show ¬ op ≤ 90 by omega), decide_eq_true (show op ≥ 103 by omega), decide_eq_false (show ¬ op ≤ 105 by omega), decide_eq_true (show op ≥ 121 by omega), decide_eq_true (show op ≤ 123 by omega), decide_eq_true (show op ≥ 106 by omega), decide_eq_false (show ¬ op ≤ 120 by omega), decide_eq_false (show ¬ op ≥ 124 by omega), decide_eq_true (show op ≤ 138 by omega)]
      refine call_2 (R := [t]) (L := [t]) o_fn2 (by decide) (by decide) (by decide) (by rfl) (by rfl) ?_
      simp only [go_sem, vl_e, List.length_map]
      exact done [] _ [(22, ob_ [t]), (94, ob_ [t])] (by rfl) (by simp only [go_sem, vl_e, List.length_map]) rfl ⟨rfl, rfl⟩
    by_cases g7 : op ≤ 138
    · rw [if_neg (by omega)]
      cases c4 : wthn s [101, 120, 116, 101, 110, 100]
      · rw [if_neg (by rintro (h | h | h); omega; omega; cases h)]
        rw [c4] at n4
        rw [if_pos (by omega)]
        refine canon (Sb := sb) (r1 := .tup [.agg [.ms 25 1 0 2, .ms 113 1 0 1], .bool true]) (σ1 := [(25, ob_ [t, t]), (113, ob_ [t])]) [(25, 1), (113, 2)] ?_ rfl rfl rfl
        refine fun_sound (ic := F_ref05_Sig.body) mixed c_ref05_Sig rfl rfl ?_
        simp only [go_sem, vl_e, List.length_map, F_ref05_Sig]
        refine call_same (m0) (by simp [go_sem, vl_e, List.length_map]) ?_
        simp only [go_sem, vl_e, List.length_map]
        refine call_same (n0) (by simp [go_sem, vl_e, List.length_map]) ?_
        simp only [go_sem, vl_e, List.length_map]
        refine call_same (n1) (by simp [go_sem, vl_e, List.length_map]) ?_
        simp only [go_sem, vl_e, List.length_map]
        refine call_same (n2) (by simp [go_sem, vl_e, List.length_map]) ?_
        simp only [go_sem, vl_e, List.length_map, beq_f c1]
        refine call_same (n2) (by simp [go_sem, vl_e, List.length_map]) ?_
        simp only [go_sem, vl_e, List.length_map, beq_f c1, beq_f d69, beq_f d80, decide_eq_true (show op > 69 by omega), decide_eq_false (show ¬ op ≤ 79 by omega), decide_eq_true (show op > 80 by omega), decide_eq_false (show ¬ op ≤ 90 by omega), decide_eq_true (show op ≥ 103 by omega), decide_eq_false (show ¬ op ≤ 105 by omega), decide_eq_true (show op ≥ 121 by omega), decide_eq_false (show ¬ op ≤ 123 by omega), decide_eq_true (show op ≥ 106 by omega), decide_eq_false (show ¬ op ≤ 120 by omega), decide_eq_true (show op ≥ 124 by omega), decide_eq_true (show op ≤ 138 by omega)]
        refine call_same (n4) (by simp [go_sem, vl_e, List.length_map]) ?_
        simp only [go_sem, vl_e, List.length_map, beq_f c1, beq_f d69, beq_f d80, decide_eq_true (show op > 69 by omega), decide_eq_false (show ¬ op ≤ 79 by omega), decide_eq_true (show op > 80 by omega), decide_eq_false (show ¬ op ≤ 90 by omega), decide_eq_true (show op ≥ 103 by omega), decide_eq_false (show ¬ op ≤ 105 by omega), decide_eq_true (show op ≥ 121 by omega), decide_eq_false (show ¬ op ≤ 123 by omega), decide_eq_true (show op ≥ 106 by omega), decide_eq_false (show ¬ op ≤ 120 by omega), decide_eq_true (show op ≥ 124 by omega), decide_eq_true (show op ≤ 138 by omega)]
        refine call_2 (R := [t, t]) (L := [t]) o_fn2 (by decide) (by decide) (by decide) (by rfl) (by rfl) ?_
        simp only [go_sem, vl_e, List.length_map]
        exact done [] _ [(25, ob_ [t, t]), (113, ob_ [t])] (by rfl) (by simp only [go_sem, vl_e, List.length_map]) rfl ⟨rfl, rfl⟩
      · rw [if_pos (.inr (.inr rfl))]
        rw [c4] at n4
        refine canon (Sb := sb) (r1 := .tup [.agg [.ms 22 1 0 1, .ms 94 1 0 1], .bool true]) (σ1 := [(22, ob_ [t]), (94, ob_ [t])]) [(22, 1), (94, 2)] ?_ rfl rfl rfl
        refine fun_sound (ic := F_ref05_Sig.body) mixed c_ref05_Sig rfl rfl ?_
        simp only [go_sem, vl_e, List.length_map, F_ref05_Sig]
        refine call_same (m0) (by simp [go_sem, vl_e, List.length_map]) ?_
        simp only [go_sem, vl_e, List.length_map]
        refine call_same (n0) (by simp [go_sem, vl_e, List.length_map]) ?_
        simp only [go_sem, vl_e, List.length_map]
        refine call_same (n1) (by simp [go_sem, vl_e, List.length_map]) ?_
        simp only [go_sem, vl_e, List.length_map]
        refine call_same (n2) (by simp [go_sem, vl_e, List.length_map]) ?_
        simp only [go_sem, vl_e, List.length_map, beq_f c1]
        refine call_same (n2) (by simp [go_sem, vl_e, List.length_map]) ?_
        simp only [go_sem, vl_e, List.length_map, beq_f c1, beq_f d69, beq_f d80, decide_eq_true (show op > 69 by omega), decide_eq_false (show ¬ op ≤ 79 by omega), decide_eq_true (show op > 80 by omega), decide_eq_false (show ¬ op ≤ 90 by omega), decide_eq_true (show op ≥ 103 by omega), decide_eq_false (show ¬ op ≤ 105 by omega), decide_eq_true (show op ≥ 121 by omega), decide_eq_false (show ¬ op ≤ 123 by omega), decide_eq_true (show op ≥ 106 by omega), decide_eq_false (show ¬ op ≤ 120 by omega), decide_eq_true (show op ≥ 124 by omega), decide_eq_true (show op ≤ 138 by omega)]
        refine call_same (n4) (by simp [go_sem, vl_e, List.length_map]) ?_
        simp only [go_sem, vl_e, List.length_map]
        refine call_2 (R := [t]) (L := [t]) o_fn2 (by decide) (by decide) (by decide) (by rfl) (by rfl) ?_
        simp only [go_sem, vl_e, List.length_map]
        exact done [] _ [(22, ob_ [t]), (94, ob_ [t])] (by rfl) (by simp only [go_sem, vl_e, List.length_map]) rfl ⟨rfl, rfl⟩
    rw [if_neg (by omega)]
    cases c4 : wthn s [101, 120, 116, 101, 110, 100]
    · rw [if_neg (by rintro (h | h | h); omega; omega; cases h)]
      rw [c4] at n4
      rw [if_neg (by omega)]
      refine canon (Sb := sb) (r1 := .tup [.agg [.nl, .nl], .bool false]) (σ1 := []) [] ?_ rfl rfl rfl
      refine fun_sound (ic := F_ref05_Sig.body) mixed c_ref05_Sig rfl rfl ?_
      simp only [go_sem, vl_e, List.length_map, F_ref05_Sig]
      refine call_same (m0) (by simp [go_sem, vl_e, List.length_map]) ?_
      simp only [go_sem, vl_e, List.length_map]
      refine call_same (n0) (by simp [go_sem, vl_e, List.length_map]) ?_
      simp only [go_sem, vl_e, List.length_map]
      refine call_same (n1) (by simp [go_sem, vl_e, List.length_map]) ?_
      simp only [go_sem, vl_e, List.length_map]
      refine call_same (n2) (by simp [go_sem, vl_e, List.length_map]) ?_
      simp only [go_sem, vl_e, List.length_map, beq_f c1]
      refine call_same (n2) (by simp [go_sem, vl_e, List.length_map]) ?_
      simp only [go_sem, vl_e, List.length_map, beq_f c1, beq_f d69, beq_f d80, decide_eq_true (show op > 69 by omega), decide_eq_false (show ¬ op ≤ 79 by omega), decide_eq_true (show op > 80 by omega), decide_eq_false (show ¬ op ≤ 90 by omega), decide_eq_true (show op ≥ 103 by omega), decide_eq_false (show ¬ op ≤ 105 by omega), decide_eq_true (show op ≥ 121 by omega), decide_eq_false (show ¬ op ≤ 123 by omega), decide_eq_true (show op ≥ 106 by omega), decide_eq_false (show ¬ op ≤ 120 by omega), decide_eq_true (show op ≥ 124 by omega), decide_eq_false (show ¬ op ≤ 138 by omega)]
      refine call_same (n4) (by simp [go_sem, vl_e, List.length_map]) ?_
      simp only [go_sem, vl_e, List.length_map, beq_f c1, beq_f d69, beq_f d80, decide_eq_true (show op > 69 by omega), decide_eq_false (show ¬ op ≤ 79 by omega), decide_eq_true (show op > 80 by omega), decide_eq_false (show ¬ op ≤ 90 by omega), decide_eq_true (show op ≥ 103 by omega), decide_eq_false (show ¬ op ≤ 105 by omega), decide_eq_true (show op ≥ 121 by omega), decide_eq_false (show ¬ op ≤ 123 by omega), decide_eq_true (show op ≥ 106 by omega), decide_eq_false (show ¬ op ≤ 120 by omega), decide_eq_true (show op ≥ 124 by omega), decide_eq_false (show ¬ op ≤ 138 by omega)]
      exact done [] _ [] (by rfl) trivial rfl ⟨rfl, rfl⟩
    · rw [if_pos (.inr (.inr rfl))]
      rw [c4] at n4
      refine canon (Sb := sb) (r1 := .tup [.agg [.ms 22 1 0 1, .ms 94 1 0 1], .bool true]) (σ1 := [(22, ob_ [t]), (94, ob_ [t])]) [(22, 1), (94, 2)] ?_ rfl rfl rfl
      refine fun_sound (ic := F_ref05_Sig.body) mixed c_ref05_Sig rfl rfl ?_
      simp only [go_sem, vl_e, List.length_map, F_ref05_Sig]
      refine call_same (m0) (by simp [go_sem, vl_e, List.length_map]) ?_
      simp only [go_sem, vl_e, List.length_map]
      refine call_same (n0) (by simp [go_sem, vl_e, List.length_map]) ?_
      simp only [go_sem, vl_e, List.length_map]
      refine call_same (n1) (by simp [go_sem, vl_e, List.length_map]) ?_
      simp only [go_sem, vl_e, List.length_map]
      refine call_same (n2) (by simp [go_sem, vl_e, List.length_map]) ?_
      simp only [go_sem, vl_e, List.length_map, beq_f c1]
      refine call_same (n2) (by simp [go_sem, vl_e, List.length_map]) ?_
      simp only [go_sem, vl_e, List.length_map, beq_f c1, beq_f d69, beq_f d80, decide_eq_true (show op > 69 by omega), decide_eq_false (show ¬ op ≤ 79 by omega), decide_eq_true (show op > 80 by omega), decide_eq_false (show ¬ op ≤ 90 by omega), decide_eq_true (show op ≥ 103 by omega), decide_eq_false (show ¬ op ≤ 105 by omega), decide_eq_true (show op ≥ 121 by omega), decide_eq_false (show ¬ op ≤ 123 by omega), decide_eq_true (show op ≥ 106 by omega), decide_eq_false (show ¬ op ≤ 120 by omega), decide_eq_true (show op ≥ 124 by omega), decide_eq_false (show ¬ op ≤ 138 by omega)]
      refine call_same (n4) (by simp [go_sem, vl_e, List.length_map]) ?_
      simp only [go_sem, vl_e, List.length_map]
      refine call_2 (R := [t]) (L := [t]) o_fn2 (by decide) (by decide) (by decide) (by rfl) (by rfl) ?_
      simp only [go_sem, vl_e, List.length_map]
      exact done [] _ [(22, ob_ [t]), (94, ob_ [t])] (by rfl) (by simp only [go_sem, vl_e, List.length_map]) rfl ⟨rfl, rfl⟩
end Go.Proofs.YtnhnghpnejobfaaDoor
