/-
  Chapter 14, walks: the law NamesecChecks.
-/
import Derived.Test.YtoikbadfbneahaaGreatDoorQy
import Derived.Test.YtoikbadfbneahaaGreatDoorQl
import Derived.Test.YtoikbadfbneahaaGreatDoorQm
set_option linter.unusedVariables false
set_option linter.unusedSimpArgs false
set_option linter.unusedSectionVars false
set_option maxRecDepth 100000
set_option maxHeartbeats 40000000
set_option linter.unusedVariables false
set_option linter.unusedSimpArgs false
namespace Go.Proofs.YtoikbadfbneahaaGreatDoor
open Go Go.Mw
-- @U: List.length_map

theorem smN_b {n : Ns} (h : bNs 1048576 n) : smN n := ⟨h.1, fun x hx => h.2.1.2 x hx, fun x hx y hy => (h.2.2.2 x hx).2 y hy⟩
theorem w_checks14 (n : Ns) (bn : bNs 1048576 n) : PCalls Tryz.prog n_law14_NamesecChecks [ns_ n] (.bool true) := by
  refine pfun_sound (ic := F_law14_NamesecChecks.body) mixed c_law14_NamesecChecks rfl rfl ?_
  have hn := smN_b bn
  have cf := s_few14 n
  have c1 := s_encode n hn
  have c2 := u_encode n hn
  have c3 := s_check n hn
  have c4 := u_check n hn
  simp only [ns_e] at cf c1 c2 c3 c4
  simp only [go_sem, List.length_map, F_law14_NamesecChecks]
  refine call_same (cf) (by simp [go_sem, List.length_map]) ?_
  cases hf : few14 n
  · simp only [go_sem, List.length_map]
    refine call_same (s_alive14) (by simp [go_sem, List.length_map]) ?_
    simp only [go_sem, List.length_map]
    exact pdone [] (by simp only [go_sem, List.length_map]) (by first | rfl | simp [go_sem, slv_ids, List.length_map])
  · simp only [go_sem, List.length_map]
    refine call_same (c1) (by simp [go_sem, List.length_map]) ?_
    simp only [go_sem, List.length_map]
    refine call_same (c2) (by simp [go_sem, List.length_map]) ?_
    simp only [go_sem, List.length_map]
    refine dcall_same c3 (by simp [go_sem]) rfl ?_
    simp only [go_sem, List.length_map]
    refine call_same (c4) (by simp [go_sem, List.length_map]) ?_
    simp only [go_sem, List.length_map, bytes_by, Option.map_some, beq_self_eq_true]
    refine call_same (s_alive14) (by simp [go_sem, List.length_map]) ?_
    simp only [go_sem, List.length_map]
    exact pdone [] (by simp only [go_sem, List.length_map]) (by first | rfl | simp [go_sem, slv_ids, List.length_map])
end Go.Proofs.YtoikbadfbneahaaGreatDoor
