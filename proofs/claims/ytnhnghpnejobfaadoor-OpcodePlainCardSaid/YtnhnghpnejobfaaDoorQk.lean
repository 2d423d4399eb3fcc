/-
  Chapter 5, the law OpcodePlain: what Plain accepts.
-/
import Derived.Test.YtnhnghpnejobfaaDoorQe
set_option linter.unusedVariables false
set_option linter.unusedSimpArgs false
set_option linter.unusedSectionVars false
set_option maxRecDepth 100000
set_option maxHeartbeats 8000000
set_option linter.unusedVariables false
set_option linter.unusedSimpArgs false
namespace Go.Proofs.YtnhnghpnejobfaaDoor
open Go Go.Mw
-- @U: vl_e, List.length_map

def ixB (n : Int) : Bool := decide (n ≥ 0) && decide (n < 4294967296)
def vaB (n : Int) : Bool := decide (n ≥ 1) && decide (n ≤ 4)
def blB (k v z : Int) : Bool := if k = 0 then (v == 0) && (z == 0) else if k = 1 then vaB v && (z == 0) else if k = 2 then (v == 0) && ixB z else false
theorem s_ix (n : Int) : PCalls Tryd.prog n_opcode_index [.int .i64 n] (.bool (ixB n)) := s_index n
theorem r_ix (n : Int) : PCalls Tryd.prog n_ref05_index [.int .i64 n] (.bool (ixB n)) := by
  refine pfun_sound (ic := F_ref05_index.body) mixed c_ref05_index rfl rfl ?_
  unfold ixB
  by_cases h : n ≥ 0
  · simp only [go_sem, vl_e, List.length_map, F_ref05_index, decide_eq_true h, Bool.true_and]
    exact pdone [] (by simp only [go_sem, vl_e, List.length_map]) (by first | rfl | simp [go_sem, slv_ids, vl_e, List.length_map])
  · simp only [go_sem, vl_e, List.length_map, F_ref05_index, decide_eq_false h, Bool.false_and]
    exact pdone [] (by simp only [go_sem, vl_e, List.length_map]) (by first | rfl | simp [go_sem, slv_ids, vl_e, List.length_map])
theorem s_va (n : Int) : PCalls Tryd.prog n_opcode_val [.int .i64 n] (.bool (vaB n)) := by
  refine pfun_sound (ic := F_opcode_val.body) mixed c_opcode_val rfl rfl ?_
  unfold vaB
  by_cases h : n ≥ 1
  · simp only [go_sem, vl_e, List.length_map, F_opcode_val, decide_eq_true h, Bool.true_and]
    exact pdone [] (by simp only [go_sem, vl_e, List.length_map]) (by first | rfl | simp [go_sem, slv_ids, vl_e, List.length_map])
  · simp only [go_sem, vl_e, List.length_map, F_opcode_val, decide_eq_false h, Bool.false_and]
    exact pdone [] (by simp only [go_sem, vl_e, List.length_map]) (by first | rfl | simp [go_sem, slv_ids, vl_e, List.length_map])
theorem r_va (n : Int) : PCalls Tryd.prog n_ref05_val [.int .i64 n] (.bool (vaB n)) := by
  refine pfun_sound (ic := F_ref05_val.body) mixed c_ref05_val rfl rfl ?_
  unfold vaB
  by_cases h : n ≥ 1
  · simp only [go_sem, vl_e, List.length_map, F_ref05_val, decide_eq_true h, Bool.true_and]
    exact pdone [] (by simp only [go_sem, vl_e, List.length_map]) (by first | rfl | simp [go_sem, slv_ids, vl_e, List.length_map])
  · simp only [go_sem, vl_e, List.length_map, F_ref05_val, decide_eq_false h, Bool.false_and]
    exact pdone [] (by simp only [go_sem, vl_e, List.length_map]) (by first | rfl | simp [go_sem, slv_ids, vl_e, List.length_map])
theorem nt_ {a b : Int} (h : (a != b) = true) : (a == b) = false := by simpa using h
theorem nf_ {a b : Int} (h : (a != b) = false) : (a == b) = true := by simpa using h
theorem nb_ {b : Bool} (h : (!b) = true) : b = false := by cases b <;> first | rfl | cases h
theorem nc_ {b : Bool} (h : (!b) = false) : b = true := by cases b <;> first | rfl | cases h
theorem s_block5 (k v z : Int) : PCalls Tryd.prog n_opcode_block [.agg [.int .i64 k, .int .i64 v, .int .i64 z]] (.bool (blB k v z)) := by
  refine pfun_sound (ic := F_opcode_block.body) mixed c_opcode_block rfl rfl ?_
  unfold blB
  by_cases h0 : k = 0
  · subst h0
    rw [if_pos rfl]
    simp only [go_sem, vl_e, List.length_map, F_opcode_block]
    exact pdone [] (by rfl) rfl
  by_cases h1 : k = 1
  · subst h1
    rw [if_neg h0, if_pos rfl]
    simp only [go_sem, vl_e, List.length_map, F_opcode_block]
    refine call_same (s_va v) (by simp [go_sem, vl_e, List.length_map]) ?_
    cases vaB v
    · simp only [go_sem, vl_e, List.length_map]
      exact pdone [] (by rfl) rfl
    · simp only [go_sem, vl_e, List.length_map]
      exact pdone [] (by rfl) rfl
  by_cases h2 : k = 2
  · subst h2
    rw [if_neg h0, if_neg h1, if_pos rfl]
    simp only [go_sem, vl_e, List.length_map, F_opcode_block]
    refine ⟨fun h => ?_, fun h => ?_⟩
    · refine call_same (s_ix z) (by simp [go_sem, vl_e, List.length_map]) ?_
      rw [h]
      simp only [go_sem, vl_e, List.length_map]
      exact pdone [] (by rfl) rfl
    · rw [h]
      exact pdone [] (by rfl) rfl
  rw [if_neg h0, if_neg h1, if_neg h2]
  simp only [go_sem, vl_e, List.length_map, F_opcode_block, beq_f h0, beq_f h1, beq_f h2]
  exact pdone [] (by rfl) rfl
theorem r_block5 (k v z : Int) : PCalls Tryd.prog n_ref05_block [.agg [.int .i64 k, .int .i64 v, .int .i64 z]] (.bool (blB k v z)) := by
  refine pfun_sound (ic := F_ref05_block.body) mixed c_ref05_block rfl rfl ?_
  unfold blB
  by_cases h0 : k = 0
  · subst h0
    rw [if_pos rfl]
    simp only [go_sem, vl_e, List.length_map, F_ref05_block]
    refine ⟨fun h => ?_, fun h => ?_⟩
    · rw [h]
      exact pdone [] (by rfl) rfl
    · rw [h]
      exact pdone [] (by rfl) rfl
  by_cases h1 : k = 1
  · subst h1
    rw [if_neg h0, if_pos rfl]
    simp only [go_sem, vl_e, List.length_map, F_ref05_block]
    refine call_same (r_va v) (by simp [go_sem, vl_e, List.length_map]) ?_
    cases vaB v
    · simp only [go_sem, vl_e, List.length_map]
      exact pdone [] (by rfl) rfl
    · simp only [go_sem, vl_e, List.length_map]
      exact pdone [] (by rfl) rfl
  by_cases h2 : k = 2
  · subst h2
    rw [if_neg h0, if_neg h1, if_pos rfl]
    simp only [go_sem, vl_e, List.length_map, F_ref05_block]
    refine ⟨fun h => ?_, fun h => ?_⟩
    · refine call_same (r_ix z) (by simp [go_sem, vl_e, List.length_map]) ?_
      rw [h]
      simp only [go_sem, vl_e, List.length_map]
      exact pdone [] (by rfl) rfl
    · rw [h]
      exact pdone [] (by rfl) rfl
  rw [if_neg h0, if_neg h1, if_neg h2]
  simp only [go_sem, vl_e, List.length_map, F_ref05_block, beq_f h0, beq_f h1, beq_f h2]
  exact pdone [] (by rfl) rfl
theorem all_nth {f : Int → Bool} {l : List Int} (h : ∀ k, k < l.length → f (nth l k) = true) : l.all f = true := by
  rw [List.all_eq_true]
  intro x hx
  obtain ⟨k, hk, rfl⟩ := List.mem_iff_getElem.1 hx
  have := h k hk
  rwa [nth_eq hk] at this
theorem all_not {f : Int → Bool} {l : List Int} {k : Nat} (hk : k < l.length) (h : f (nth l k) = false) : l.all f = false := by
  rw [List.all_eq_false]
  exact ⟨nth l k, by rw [nth_eq hk]; exact List.getElem_mem hk, by rw [h]; decide⟩
theorem r_labels5 (l : List Int) (hl : l.length ≤ 9223372036854775807) : PCalls Tryd.prog n_ref05_labels [.sl 1 (l.map vl_)] (.bool (l.all ixB)) := by
  refine pfun_sound (ic := F_ref05_labels.body) mixed c_ref05_labels rfl rfl ?_
  simp only [go_sem, vl_e, List.length_map, F_ref05_labels]
  refine loop_rule (fun i : Nat => ⟨[(0, .sl 1 (l.map vl_)), (3, .int .i64 i)], []⟩) (fun i => i ≤ l.length ∧ ∀ k, k < i → ixB (nth l k) = true) (fun i => l.length - i) 0 ⟨Nat.zero_le _, fun k hk => absurd hk (Nat.not_lt_zero k)⟩ (Wk.of ?_ ?_) ?_
  · simp only [go_sem, vl_e, List.length_map]; try simp
  · simp only [go_sem, vl_e, List.length_map]
  rintro i ⟨hi, hk⟩
  by_cases h1 : (i : Int) < (l.length : Int)
  · have e8 := wi (n := (i : Int) + 1) (by omega) (by omega)
    simp only [go_sem, vl_e, List.length_map, decide_eq_true h1]
    refine ⟨by omega, h1, ?_⟩
    refine call_same (r_ix (nth l i)) (by simp [go_sem, vl_e, List.length_map]) ?_
    cases h2 : ixB (nth l i)
    · rw [all_not (by omega) h2]
      simp only [go_sem, vl_e, List.length_map]
      exact pdone [] (by rfl) rfl
    · simp only [go_sem, vl_e, List.length_map]
      refine klp_n (i + 1) ⟨by omega, fun k hk2 => ?_⟩ (show l.length - (i + 1) < l.length - i by omega) (Wk.of ?_ ?_)
      · rcases Nat.lt_or_ge k i with h4 | h4
        · exact hk k h4
        · obtain rfl : k = i := by omega
          exact h2
      · simp only [go_sem, vl_e, List.length_map, e8]
        try simp
      · simp only [go_sem, vl_e, List.length_map]
  · rw [all_nth (fun k hk2 => hk k (by omega))]
    simp only [go_sem, vl_e, List.length_map, decide_eq_false h1]
    exact pdone [] (by rfl) rfl
end Go.Proofs.YtnhnghpnejobfaaDoor
