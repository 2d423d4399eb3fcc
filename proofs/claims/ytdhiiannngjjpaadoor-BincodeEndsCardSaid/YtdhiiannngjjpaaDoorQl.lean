/-
  Chapter 5, the law OpcodePlain: what Plain accepts.
-/
import Derived.Test.YtdhiiannngjjpaaDoorQd
set_option linter.unusedVariables false
set_option linter.unusedSimpArgs false
set_option linter.unusedSectionVars false
set_option maxRecDepth 100000
set_option maxHeartbeats 8000000
set_option linter.unusedVariables false
set_option linter.unusedSimpArgs false
namespace Go.Proofs.YtdhiiannngjjpaaDoor
open Go Go.Mw
-- @U: vl_e, List.length_map

def ixB (n : Int) : Bool := decide (n ≥ 0) && decide (n < 4294967296)
def vaB (n : Int) : Bool := decide (n ≥ 1) && decide (n ≤ 4)
def blB (k v z : Int) : Bool := if k = 0 then (v == 0) && (z == 0) else if k = 1 then vaB v && (z == 0) else if k = 2 then (v == 0) && ixB z else false
theorem s_ix (n : Int) : PCalls Tryd.prog n_opcode_index [.int .i64 n] (.bool (ixB n)) := s_index n
theorem s_va (n : Int) : PCalls Tryd.prog n_opcode_val [.int .i64 n] (.bool (vaB n)) := by
  refine pfun_sound (ic := F_opcode_val.body) mixed c_opcode_val rfl rfl ?_
  unfold vaB
  by_cases h : n ≥ 1
  · simp only [go_sem, vl_e, List.length_map, F_opcode_val, decide_eq_true h, Bool.true_and]
    exact pdone [] (by simp only [go_sem, vl_e, List.length_map]) (by first | rfl | simp [go_sem, slv_ids, vl_e, List.length_map])
  · simp only [go_sem, vl_e, List.length_map, F_opcode_val, decide_eq_false h, Bool.false_and]
    exact pdone [] (by simp only [go_sem, vl_e, List.length_map]) (by first | rfl | simp [go_sem, slv_ids, vl_e, List.length_map])
theorem nt_ {a b : Int} (h : (a != b) = true) : (a == b) = false := by simpa using h
theorem nf_ {a b : Int} (h : (a != b) = false) : (a == b) = true := by simpa using h
theorem nb_ {b : Bool} (h : (!b) = true) : b = false := by cases b <;> first | rfl | cases h
theorem nc_ {b : Bool} (h : (!b) = false) : b = true := by cases b <;> first | rfl | cases h
theorem s_block5 (k v z : Int) : PCalls Tryd.prog n_opcode_block [.agg [.int .i64 k, .int .i64 v, .int .i64 z]] (.bool (blB k v z)) := by
  refine pfun_sound (ic := F_opcode_block.body) mixed c_opcode_block rfl rfl ?_
  unfold blB
  by_cases h0 : k = 0
  · subst h0
    rw [if_pos rfl]
    simp only [go_sem, vl_e, List.length_map, F_opcode_block]
    exact pdone [] (by rfl) rfl
  by_cases h1 : k = 1
  · subst h1
    rw [if_neg h0, if_pos rfl]
    simp only [go_sem, vl_e, List.length_map, F_opcode_block]
    refine call_same (s_va v) (by simp [go_sem, vl_e, List.length_map]) ?_
    cases vaB v
    · simp only [go_sem, vl_e, List.length_map]
      exact pdone [] (by rfl) rfl
    · simp only [go_sem, vl_e, List.length_map]
      exact pdone [] (by rfl) rfl
  by_cases h2 : k = 2
  · subst h2
    rw [if_neg h0, if_neg h1, if_pos rfl]
    simp only [go_sem, vl_e, List.length_map, F_opcode_block]
    refine ⟨fun h => ?_, fun h => ?_⟩
    · refine call_same (s_ix z) (by simp [go_sem, vl_e, List.length_map]) ?_
      rw [h]
      simp only [go_sem, vl_e, List.length_map]
      exact pdone [] (by rfl) rfl
    · rw [h]
      exact pdone [] (by rfl) rfl
  rw [if_neg h0, if_neg h1, if_neg h2]
  simp only [go_sem, vl_e, List.length_map, F_opcode_block, beq_f h0, beq_f h1, beq_f h2]
  exact pdone [] (by rfl) rfl
theorem all_nth {f : Int → Bool} {l : List Int} (h : ∀ k, k < l.length → f (nth l k) = true) : l.all f = true := by
  rw [List.all_eq_true]
  intro x hx
  obtain ⟨k, hk, rfl⟩ := List.mem_iff_getElem.1 hx
  have := h k hk
  rwa [nth_eq hk] at this
theorem all_not {f : Int → Bool} {l : List Int} {k : Nat} (hk : k < l.length) (h : f (nth l k) = false) : l.all f = false := by
  rw [List.all_eq_false]
  exact ⟨nth l k, by rw [nth_eq hk]; exact List.getElem_mem hk, by rw [h]; decide⟩
end Go.Proofs.YtdhiiannngjjpaaDoor
set_option maxRecDepth 100000
set_option maxHeartbeats 20000000
set_option linter.unusedVariables false
set_option linter.unusedSimpArgs false
namespace Go.Proofs.YtdhiiannngjjpaaDoor
open Go Go.Mw
-- @U: vl_e, List.length_map, ins_e

def finP (i : Int) (x : Ins) : Bool :=
  if i = 1 then blB x.k x.v x.x else if i = 6 then ((x.ty.length : Int) == 1) && vaB (nth x.ty 0) else if i = 17 then decide (x.a ≤ 63) else if i = 20 then (x.a == 3) || (x.a == 4) else x.lb.all ixB
def plP (i : Int) (kn : Bool) (u : Bool × Bool × Bool) (x : Ins) : Bool :=
  kn && ((u.1 || (x.a == 0)) && ((u.2.1 || (x.b == 0)) && ((u.2.2 || (x.n == 0)) && (ixB x.a && (ixB x.b &&
  (((i == 19) || !decide (x.n ≥ 4294967296)) && (((i == 1) || ((x.k == 0) && ((x.v == 0) && (x.x == 0)))) && (((i == 6) || !decide ((x.ty.length : Int) > 0)) && (((i == 3) || !decide ((x.lb.length : Int) > 0)) && finP i x)))))))))
def CL : List (Bool × Bool × Bool × Bool × Bool × Bool × Bool × Bool × Bool) :=
  [(false, false, false, true, false, false, false, false, false),
   (true, false, false, false, true, false, false, false, false),
   (false, false, false, false, false, true, false, false, false),
   (true, true, true, false, false, false, true, false, false),
   (false, false, true, false, false, false, false, true, false),
   (true, false, false, false, false, false, false, false, true),
   (true, false, false, false, false, false, false, false, false),
   (true, true, false, false, false, false, false, false, false),
   (false, true, false, false, false, false, false, false, false),
   (false, false, true, false, false, false, false, false, false),
   (false, false, false, false, false, false, false, false, false)]
theorem cls (i : Int) (hi : 0 ≤ i ∧ i ≤ 20) : ((usd i).1, (usd i).2.1, (usd i).2.2, (i == 1), (i == 3), (i == 6), (i == 17), (i == 19), (i == 20)) ∈ CL := by
  obtain ⟨h1, h2⟩ := hi
  obtain ⟨n, rfl⟩ := Int.eq_ofNat_of_zero_le h1
  have hn : n ≤ 20 := by omega
  clear h1 h2
  have : ∀ n : Fin 21, ((usd (n.val : Nat)).1, (usd (n.val : Nat)).2.1, (usd (n.val : Nat)).2.2, (((n.val : Nat) : Int) == 1), (((n.val : Nat) : Int) == 3), (((n.val : Nat) : Int) == 6), (((n.val : Nat) : Int) == 17), (((n.val : Nat) : Int) == 19), (((n.val : Nat) : Int) == 20)) ∈ CL := by decide +kernel
  exact this ⟨n, by omega⟩
theorem s_plain5 (x : Ins) (i : Int) (hi : 0 ≤ i ∧ i ≤ 20) (him : immP x.op = i) (hl : x.lb.length ≤ 9223372036854775807) : PCalls Tryd.prog n_opcode_Plain [ins_ x] (.bool (plP i (!(nameOf x.op == [])) (usd i) x)) := by
  refine pfun_sound (ic := F_opcode_Plain.body) mixed c_opcode_Plain rfl rfl ?_
  have a1 := s_of5 x.op
  rw [him] at a1
  have a2 := s_used i
  have a3 := s_known5 x.op
  have hc := cls i hi
  unfold plP
  generalize (usd i).1 = ua at hc a2
  generalize (usd i).2.1 = ub at hc a2
  generalize (usd i).2.2 = un at hc a2
  generalize h1 : (i == 1) = k1 at hc
  generalize h3 : (i == 3) = k3 at hc
  generalize h6 : (i == 6) = k6 at hc
  generalize h17 : (i == 17) = k17 at hc
  generalize h19 : (i == 19) = k19 at hc
  generalize h20 : (i == 20) = k20 at hc
  simp only [CL, List.mem_cons, List.not_mem_nil, or_false, Prod.mk.injEq] at hc
  rcases hc with ⟨rfl, rfl, rfl, rfl, rfl, rfl, rfl, rfl, rfl⟩ | ⟨rfl, rfl, rfl, rfl, rfl, rfl, rfl, rfl, rfl⟩ | ⟨rfl, rfl, rfl, rfl, rfl, rfl, rfl, rfl, rfl⟩ | ⟨rfl, rfl, rfl, rfl, rfl, rfl, rfl, rfl, rfl⟩ | ⟨rfl, rfl, rfl, rfl, rfl, rfl, rfl, rfl, rfl⟩ | ⟨rfl, rfl, rfl, rfl, rfl, rfl, rfl, rfl, rfl⟩ | ⟨rfl, rfl, rfl, rfl, rfl, rfl, rfl, rfl, rfl⟩ | ⟨rfl, rfl, rfl, rfl, rfl, rfl, rfl, rfl, rfl⟩ | ⟨rfl, rfl, rfl, rfl, rfl, rfl, rfl, rfl, rfl⟩ | ⟨rfl, rfl, rfl, rfl, rfl, rfl, rfl, rfl, rfl⟩ | ⟨rfl, rfl, rfl, rfl, rfl, rfl, rfl, rfl, rfl⟩
  all_goals
    have d1 : (i != 1) = !(i == 1) := rfl
    have d3 : (i != 3) = !(i == 3) := rfl
    have d6 : (i != 6) = !(i == 6) := rfl
    have d19 : (i != 19) = !(i == 19) := rfl
    rw [h1] at d1
    rw [h3] at d3
    rw [h6] at d6
    rw [h19] at d19
    simp only [h1, h3, h6, h19, Bool.true_or, Bool.false_or, Bool.true_and]
    simp only [go_sem, vl_e, List.length_map, ins_e, F_opcode_Plain]
    refine call_same (a1) (by simp [go_sem, vl_e, List.length_map, ins_e]) ?_
    simp only [go_sem, vl_e, List.length_map, ins_e]
    refine call_same (a2) (by simp [go_sem, vl_e, List.length_map, ins_e]) ?_
    simp only [go_sem, vl_e, List.length_map, ins_e]
    refine call_same (a3) (by simp [go_sem, vl_e, List.length_map, ins_e]) ?_
    cases hk : !(nameOf x.op == [])
    · simp only [go_sem, vl_e, List.length_map, ins_e]
      exact pdone [] (by rfl) rfl
    rw [Bool.true_and]
    simp only [go_sem, vl_e, List.length_map, ins_e]
    iterate 3 (first | (refine ⟨fun h => ?_, fun h => ?_⟩
                        · rw [nt_ h, Bool.false_and]
                          exact pdone [] (by rfl) rfl
                        rw [nf_ h, Bool.true_and]) | skip)
    refine call_same (s_ix x.a) (by simp [go_sem, vl_e, List.length_map, ins_e]) ?_
    cases hA : ixB x.a
    · rw [Bool.false_and]
      simp only [go_sem, vl_e, List.length_map, ins_e]
      exact pdone [] (by rfl) rfl
    rw [Bool.true_and]
    simp only [go_sem, vl_e, List.length_map, ins_e]
    refine call_same (s_ix x.b) (by simp [go_sem, vl_e, List.length_map, ins_e]) ?_
    cases hB : ixB x.b
    · rw [Bool.false_and]
      simp only [go_sem, vl_e, List.length_map, ins_e]
      exact pdone [] (by rfl) rfl
    rw [Bool.true_and]
    simp only [go_sem, vl_e, List.length_map, ins_e, d1, d3, d6, d19, h1, h6, h17, h20, Bool.not_true, Bool.not_false]
    iterate 4 (first | (refine ⟨fun h => ?_, fun h => ?_⟩
                        · (first | rw [decide_eq_true h, Bool.not_true, Bool.false_and] | rw [nb_ h, Bool.false_and])
                          exact pdone [] (by rfl) rfl
                        (first | rw [decide_eq_false h, Bool.not_false, Bool.true_and] | rw [nc_ h, Bool.true_and])) | skip)
  · have r : finP i x = blB x.k x.v x.x := by rw [finP, if_pos (eq_of_beq h1)]
    rw [r]
    refine call_same (s_block5 x.k x.v x.x) (by simp [go_sem, vl_e, List.length_map, ins_e]) ?_
    simp only [go_sem, vl_e, List.length_map, ins_e]
    exact pdone [] (by rfl) rfl
  rotate_left
  · have r : finP i x = (((x.ty.length : Int) == 1) && vaB (nth x.ty 0)) := by rw [finP, if_neg (ne_of_beq_false h1), if_pos (eq_of_beq h6)]
    rw [r]
    refine ⟨fun h => ⟨by decide, ?_, ?_⟩, fun h => ?_⟩
    · have := eq_of_beq h
      omega
    · rw [h, Bool.true_and]
      refine call_same (s_va (nth x.ty 0)) (by simp [go_sem, vl_e, List.length_map, ins_e]) ?_
      simp only [go_sem, vl_e, List.length_map, ins_e]
      exact pdone [] (by rfl) rfl
    · rw [h, Bool.false_and]
      exact pdone [] (by rfl) rfl
  · have r : finP i x = decide (x.a ≤ 63) := by rw [finP, if_neg (ne_of_beq_false h1), if_neg (ne_of_beq_false h6), if_pos (eq_of_beq h17)]
    rw [r]
    exact pdone [] (by rfl) rfl
  rotate_left
  · have r : finP i x = ((x.a == 3) || (x.a == 4)) := by rw [finP, if_neg (ne_of_beq_false h1), if_neg (ne_of_beq_false h6), if_neg (ne_of_beq_false h17), if_pos (eq_of_beq h20)]
    rw [r]
    refine ⟨fun h => ?_, fun h => ?_⟩
    · rw [h, Bool.true_or]
      exact pdone [] (by rfl) rfl
    · rw [h, Bool.false_or]
      exact pdone [] (by rfl) rfl
  all_goals
    have r : finP i x = x.lb.all ixB := by rw [finP, if_neg (ne_of_beq_false h1), if_neg (ne_of_beq_false h6), if_neg (ne_of_beq_false h17), if_neg (ne_of_beq_false h20)]
    rw [r]
    refine loop_rule (fun i : Nat => ⟨[(133, .sl 1 (x.lb.map vl_)), (134, .int .i64 x.lb.length), (135, .int .i64 i)], []⟩) (fun i => i ≤ x.lb.length ∧ ∀ k, k < i → ixB (nth x.lb k) = true) (fun i => x.lb.length - i) 0 ⟨Nat.zero_le _, fun k hk => absurd hk (Nat.not_lt_zero k)⟩ (Wk.of ?_ ?_) ?_
    · simp only [go_sem, vl_e, List.length_map, ins_e]; try simp
    · trivial
    rintro j ⟨hj, hk⟩
    by_cases q1 : (j : Int) < (x.lb.length : Int)
    · have e8 := wi (n := (j : Int) + 1) (by omega) (by omega)
      simp only [go_sem, vl_e, List.length_map, ins_e, decide_eq_true q1]
      refine ⟨by omega, q1, ?_⟩
      refine call_same (s_ix (nth x.lb j)) (by simp [go_sem, vl_e, List.length_map, ins_e]) ?_
      cases q2 : ixB (nth x.lb j)
      · rw [all_not (by omega) q2]
        simp only [go_sem, vl_e, List.length_map, ins_e]
        exact pdone [] (by rfl) rfl
      · simp only [go_sem, vl_e, List.length_map, ins_e]
        refine klp_n (j + 1) ⟨by omega, fun k hk2 => ?_⟩ (show x.lb.length - (j + 1) < x.lb.length - j by omega) (Wk.of ?_ ?_)
        · rcases Nat.lt_or_ge k j with h4 | h4
          · exact hk k h4
          · obtain rfl : k = j := by omega
            exact q2
        · simp only [go_sem, vl_e, List.length_map, ins_e, e8]
          try simp
        · simp only [go_sem, vl_e, List.length_map, ins_e]
    · rw [all_nth (fun k hk2 => hk k (by omega))]
      simp only [go_sem, vl_e, List.length_map, ins_e, decide_eq_false q1]
      exact pdone [] (by rfl) rfl
end Go.Proofs.YtdhiiannngjjpaaDoor
