/-
  Chapter 14, walks: the laws NamesecFinds, NamesecReads.
-/
import Derived.Test.YtoikbadfbneahaaDoorQl
import Derived.Test.YtoikbadfbneahaaDoorQj
set_option linter.unusedVariables false
set_option linter.unusedSimpArgs false
set_option linter.unusedSectionVars false
set_option maxRecDepth 100000
set_option maxHeartbeats 40000000
set_option linter.unusedVariables false
set_option linter.unusedSimpArgs false
namespace Go.Proofs.YtoikbadfbneahaaDoor
open Go Go.Mw
-- @U: List.length_map

theorem w_finds14 (n : Ns) (hn : lnN n) (f i : Int) : PCalls Tryd.prog n_law14_NamesecFinds [ns_ n, .int .i64 f, .int .i64 i] (.bool true) := by
  refine pfun_sound (ic := F_law14_NamesecFinds.body) mixed c_law14_NamesecFinds rfl rfl ?_
  have cf := s_few14 n
  have c1 := s_func14 n hn i
  have c2 := u_func14 n hn i
  have c3 := s_local14 n hn f i
  have c4 := u_local14 n hn f i
  simp only [ns_e] at cf c1 c2 c3 c4
  simp only [go_sem, List.length_map, F_law14_NamesecFinds]
  refine call_same (cf) (by simp [go_sem, List.length_map]) ?_
  cases hf : few14 n
  · simp only [go_sem, List.length_map]
    refine call_same (s_alive14) (by simp [go_sem, List.length_map]) ?_
    simp only [go_sem, List.length_map]
    exact pdone [] (by simp only [go_sem, List.length_map]) (by first | rfl | simp [go_sem, slv_ids, List.length_map])
  · simp only [go_sem, List.length_map]
    refine dcall_same c1 (by simp [go_sem]) rfl ?_
    simp only [go_sem, List.length_map]
    refine call_same (c2) (by simp [go_sem, List.length_map]) ?_
    simp only [go_sem, List.length_map, show (fnd n.fs i == fnd n.fs i) = true by simp]
    refine dcall_same c3 (by simp [go_sem]) rfl ?_
    simp only [go_sem, List.length_map]
    refine call_same (c4) (by simp [go_sem, List.length_map]) ?_
    simp only [go_sem, List.length_map, show (lcF n.ls f i == lcF n.ls f i) = true by simp]
    refine call_same (s_alive14) (by simp [go_sem, List.length_map]) ?_
    simp only [go_sem, List.length_map]
    exact pdone [] (by simp only [go_sem, List.length_map]) (by first | rfl | simp [go_sem, slv_ids, List.length_map])
end Go.Proofs.YtoikbadfbneahaaDoor
