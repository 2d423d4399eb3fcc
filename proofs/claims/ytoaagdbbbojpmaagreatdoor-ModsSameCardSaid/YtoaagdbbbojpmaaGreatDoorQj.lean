/-
  Chapter 14,walks: the reference's UTF-8; what it checks of names.
-/
import Derived.Test.YtoaagdbbbojpmaaGreatDoorQh
import Derived.Test.YtoaagdbbbojpmaaGreatDoorQg
set_option linter.unusedVariables false
set_option linter.unusedSimpArgs false
set_option linter.unusedSectionVars false
set_option maxRecDepth 100000
set_option maxHeartbeats 40000000
set_option linter.unusedVariables false
set_option linter.unusedSimpArgs false
namespace Go.Proofs.YtoaagdbbbojpmaaGreatDoor
open Go Go.Mw
-- @U: List.length_map

end Go.Proofs.YtoaagdbbbojpmaaGreatDoor
set_option maxRecDepth 100000
set_option maxHeartbeats 20000000
set_option linter.unusedVariables false
set_option linter.unusedSimpArgs false
namespace Go.Proofs.YtoaagdbbbojpmaaGreatDoor
open Go Go.Mw
-- @U: List.length_map

end Go.Proofs.YtoaagdbbbojpmaaGreatDoor
set_option maxRecDepth 100000
set_option maxHeartbeats 40000000
set_option linter.unusedVariables false
set_option linter.unusedSimpArgs false
namespace Go.Proofs.YtoaagdbbbojpmaaGreatDoor
open Go Go.Mw
-- @U: List.length_map,mdC_e,ftC_e,imC_e,tbC_e,lmC_e,cdC_e,exC_e,elC_e,daC_e,cuC_e,inL_e,fa_,faO

end Go.Proofs.YtoaagdbbbojpmaaGreatDoor
set_option maxRecDepth 100000
set_option maxHeartbeats 40000000
set_option linter.unusedVariables false
set_option linter.unusedSimpArgs false
namespace Go.Proofs.YtoaagdbbbojpmaaGreatDoor
open Go Go.Mw
-- @U: List.length_map,mdC_e,ftC_e,imC_e,tbC_e,lmC_e,cdC_e,exC_e,elC_e,daC_e,cuC_e,inL_e,fa_,faO

end Go.Proofs.YtoaagdbbbojpmaaGreatDoor
set_option maxRecDepth 100000
set_option maxHeartbeats 40000000
set_option linter.unusedVariables false
set_option linter.unusedSimpArgs false
namespace Go.Proofs.YtoaagdbbbojpmaaGreatDoor
open Go Go.Mw
-- @U: List.length_map,mdC_e,ftC_e,imC_e,tbC_e,lmC_e,cdC_e,exC_e,elC_e,daC_e,cuC_e,inL_e,fa_,faO

end Go.Proofs.YtoaagdbbbojpmaaGreatDoor
set_option maxRecDepth 100000
set_option maxHeartbeats 40000000
set_option linter.unusedVariables false
set_option linter.unusedSimpArgs false
namespace Go.Proofs.YtoaagdbbbojpmaaGreatDoor
open Go Go.Mw
-- @U: List.length_map,mdC_e,ftC_e,imC_e,tbC_e,lmC_e,cdC_e,exC_e,elC_e,daC_e,cuC_e,inL_e,fa_,faO

end Go.Proofs.YtoaagdbbbojpmaaGreatDoor
set_option maxRecDepth 100000
set_option maxHeartbeats 40000000
set_option linter.unusedVariables false
set_option linter.unusedSimpArgs false
namespace Go.Proofs.YtoaagdbbbojpmaaGreatDoor
open Go Go.Mw
-- @U: List.length_map,mdC_e,ftC_e,imC_e,tbC_e,lmC_e,cdC_e,exC_e,elC_e,daC_e,cuC_e,inL_e,fa_,faO

end Go.Proofs.YtoaagdbbbojpmaaGreatDoor
set_option maxRecDepth 100000
set_option maxHeartbeats 40000000
set_option linter.unusedVariables false
set_option linter.unusedSimpArgs false
namespace Go.Proofs.YtoaagdbbbojpmaaGreatDoor
open Go Go.Mw
-- @U: List.length_map,mdC_e,ftC_e,imC_e,tbC_e,lmC_e,cdC_e,exC_e,elC_e,daC_e,cuC_e,inL_e,fa_,faO

end Go.Proofs.YtoaagdbbbojpmaaGreatDoor
set_option maxRecDepth 100000
set_option maxHeartbeats 40000000
set_option linter.unusedVariables false
set_option linter.unusedSimpArgs false
namespace Go.Proofs.YtoaagdbbbojpmaaGreatDoor
open Go Go.Mw
-- @U: List.length_map,mdC_e,ftC_e,imC_e,tbC_e,lmC_e,cdC_e,exC_e,elC_e,daC_e,cuC_e,inL_e,fa_,faO

end Go.Proofs.YtoaagdbbbojpmaaGreatDoor
set_option maxRecDepth 100000
set_option maxHeartbeats 40000000
set_option linter.unusedVariables false
set_option linter.unusedSimpArgs false
namespace Go.Proofs.YtoaagdbbbojpmaaGreatDoor
open Go Go.Mw
-- @U: List.length_map,mdC_e,ftC_e,imC_e,tbC_e,lmC_e,cdC_e,exC_e,elC_e,daC_e,cuC_e,inL_e,fa_,faO

end Go.Proofs.YtoaagdbbbojpmaaGreatDoor
set_option maxRecDepth 100000
set_option maxHeartbeats 40000000
set_option linter.unusedVariables false
set_option linter.unusedSimpArgs false
namespace Go.Proofs.YtoaagdbbbojpmaaGreatDoor
open Go Go.Mw
-- @U: elO,List.length_map,mdC_e,ftC_e,imC_e,tbC_e,lmC_e,cdC_e,exC_e,elC_e,daC_e,cuC_e,inL_e,fa_,faO

end Go.Proofs.YtoaagdbbbojpmaaGreatDoor
set_option maxRecDepth 100000
set_option maxHeartbeats 4000000
set_option linter.unusedVariables false
set_option linter.unusedSimpArgs false
namespace Go.Proofs.YtoaagdbbbojpmaaGreatDoor
open Go Go.Mw

end Go.Proofs.YtoaagdbbbojpmaaGreatDoor
set_option maxRecDepth 100000
set_option maxHeartbeats 40000000
set_option linter.unusedVariables false
set_option linter.unusedSimpArgs false
namespace Go.Proofs.YtoaagdbbbojpmaaGreatDoor
open Go Go.Mw
-- @U: List.length_map,mdC_e,fa_,faO,faR_e

instance:Inhabited Fa:=⟨lm0⟩
end Go.Proofs.YtoaagdbbbojpmaaGreatDoor
set_option maxRecDepth 100000
set_option maxHeartbeats 20000000
set_option linter.unusedVariables false
set_option linter.unusedSimpArgs false
namespace Go.Proofs.YtoaagdbbbojpmaaGreatDoor
open Go Go.Mw
-- @U: List.length_map

end Go.Proofs.YtoaagdbbbojpmaaGreatDoor
set_option maxRecDepth 100000
set_option maxHeartbeats 40000000
set_option linter.unusedVariables false
set_option linter.unusedSimpArgs false
namespace Go.Proofs.YtoaagdbbbojpmaaGreatDoor
open Go Go.Mw
-- @U: List.length_map,mdC_e

end Go.Proofs.YtoaagdbbbojpmaaGreatDoor
set_option maxRecDepth 100000
set_option maxHeartbeats 40000000
set_option linter.unusedVariables false
set_option linter.unusedSimpArgs false
namespace Go.Proofs.YtoaagdbbbojpmaaGreatDoor
open Go Go.Mw
-- @U: List.length_map,mdC_e

theorem SameP_comm (a b:Md):SameP b a ↔ SameP a b:=by
  have key:∀ a b:Md,SameP a b → SameP b a:=fun a b ⟨h1,h2,h3,h4,h5,⟨h6,h6b⟩,h7,h8,h9,h10,h11⟩=>⟨h1.symm,fun h=>(h2 (h1.trans h)).symm,h3.symm,h4.symm,h5.symm,⟨h6.symm,h6b.symm⟩,h7.symm,h8.symm,h9.symm,h10.symm,h11.symm⟩
  exact ⟨key b a,key a b⟩
attribute [local go_sem] List.length_map mdC_e
theorem w_same7 (a b:Md) (ha:bMod maxLen a) (hb:bMod maxLen b):PCalls Tryz.prog nX58 [md_ a,md_ b] (.bool true):=by
  refine pfun_sound (ic:=FX58.body) mixed cX58 rfl rfl ?_
  have la:=s_light a ha
  have lb:=s_light b hb
  have al:=s_alive7
  simp only [md_,mdC_e] at la lb
  simp only [go_sem,FX58,md_]
  refine call_pe la ?_
  intro x hx
  cases x
  · simp only [go_sem]
    refine call_same (al) (by simp [go_sem]) ?_
    simp only [go_sem]
    exact pdone [] (by simp only [go_sem]) (by first | rfl | simp [go_sem,slv_ids])
  simp only [go_sem]
  refine call_pe lb ?_
  intro y hy
  cases y
  · simp only [go_sem]
    refine call_same (al) (by simp [go_sem]) ?_
    simp only [go_sem]
    exact pdone [] (by simp only [go_sem]) (by first | rfl | simp [go_sem,slv_ids])
  have sa:=lg_sm ha (hx rfl)
  have sb:=lg_sm hb (hy rfl)
  have c1:=m_same7 a b sa
  have c2:=r_same7 a b sa
  have c3:=m_same7 b a sb
  have c4:=m_same7 a a sa
  have c5:=m_instrs a sa
  have c6:=r_instrs a sa
  have e3:decide (SameP b a) = decide (SameP a b):=decide_eq_decide.2 (SameP_comm a b)
  rw [e3] at c3
  rw [decide_eq_true (SameP_refl a)] at c4
  simp only [md_,mdC_e] at c1 c2 c3 c4 c5 c6
  simp only [go_sem]
  refine dcall_same c1 (by simp [go_sem]) rfl ?_
  simp only [go_sem]
  refine call_same (c2) (by simp [go_sem]) ?_
  simp only [go_sem]
  refine dcall_same c3 (by simp [go_sem]) rfl ?_
  simp only [go_sem]
  refine call_same (c2) (by simp [go_sem]) ?_
  simp only [go_sem]
  refine call_same (c4) (by simp [go_sem]) ?_
  simp only [go_sem]
  refine dcall_same c5 (by simp [go_sem]) rfl ?_
  simp only [go_sem]
  refine call_same (c6) (by simp [go_sem]) ?_
  simp only [go_sem]
  refine call_same (al) (by simp [go_sem]) ?_
  simp only [go_sem]
  exact pdone [] (by simp only [go_sem]) (by first | rfl | simp [go_sem,slv_ids])
end Go.Proofs.YtoaagdbbbojpmaaGreatDoor
set_option maxRecDepth 100000
set_option linter.unusedVariables false
set_option linter.unusedSimpArgs false
namespace Go.Proofs.YtoaagdbbbojpmaaGreatDoor
open Go Go.Mw

end Go.Proofs.YtoaagdbbbojpmaaGreatDoor
