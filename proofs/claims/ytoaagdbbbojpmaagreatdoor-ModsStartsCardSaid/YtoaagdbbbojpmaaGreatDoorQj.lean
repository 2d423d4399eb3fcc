/-
  Chapter 14,walks: the reference's UTF-8; what it checks of names.
-/
import Derived.Test.YtoaagdbbbojpmaaGreatDoorQh
import Derived.Test.YtoaagdbbbojpmaaGreatDoorQg
set_option linter.unusedVariables false
set_option linter.unusedSimpArgs false
set_option linter.unusedSectionVars false
set_option maxRecDepth 100000
set_option maxHeartbeats 40000000
set_option linter.unusedVariables false
set_option linter.unusedSimpArgs false
namespace Go.Proofs.YtoaagdbbbojpmaaGreatDoor
open Go Go.Mw
-- @U: List.length_map

end Go.Proofs.YtoaagdbbbojpmaaGreatDoor
set_option maxRecDepth 100000
set_option maxHeartbeats 20000000
set_option linter.unusedVariables false
set_option linter.unusedSimpArgs false
namespace Go.Proofs.YtoaagdbbbojpmaaGreatDoor
open Go Go.Mw
-- @U: List.length_map

end Go.Proofs.YtoaagdbbbojpmaaGreatDoor
set_option maxRecDepth 100000
set_option maxHeartbeats 40000000
set_option linter.unusedVariables false
set_option linter.unusedSimpArgs false
namespace Go.Proofs.YtoaagdbbbojpmaaGreatDoor
open Go Go.Mw
-- @U: List.length_map,mdC_e,ftC_e,imC_e,tbC_e,lmC_e,cdC_e,exC_e,elC_e,daC_e,cuC_e,inL_e,fa_,faO

end Go.Proofs.YtoaagdbbbojpmaaGreatDoor
set_option maxRecDepth 100000
set_option maxHeartbeats 40000000
set_option linter.unusedVariables false
set_option linter.unusedSimpArgs false
namespace Go.Proofs.YtoaagdbbbojpmaaGreatDoor
open Go Go.Mw
-- @U: List.length_map,mdC_e,ftC_e,imC_e,tbC_e,lmC_e,cdC_e,exC_e,elC_e,daC_e,cuC_e,inL_e,fa_,faO

end Go.Proofs.YtoaagdbbbojpmaaGreatDoor
set_option maxRecDepth 100000
set_option maxHeartbeats 40000000
set_option linter.unusedVariables false
set_option linter.unusedSimpArgs false
namespace Go.Proofs.YtoaagdbbbojpmaaGreatDoor
open Go Go.Mw
-- @U: List.length_map,mdC_e,ftC_e,imC_e,tbC_e,lmC_e,cdC_e,exC_e,elC_e,daC_e,cuC_e,inL_e,fa_,faO

end Go.Proofs.YtoaagdbbbojpmaaGreatDoor
set_option maxRecDepth 100000
set_option maxHeartbeats 40000000
set_option linter.unusedVariables false
set_option linter.unusedSimpArgs false
namespace Go.Proofs.YtoaagdbbbojpmaaGreatDoor
open Go Go.Mw
-- @U: List.length_map,mdC_e,ftC_e,imC_e,tbC_e,lmC_e,cdC_e,exC_e,elC_e,daC_e,cuC_e,inL_e,fa_,faO

end Go.Proofs.YtoaagdbbbojpmaaGreatDoor
set_option maxRecDepth 100000
set_option maxHeartbeats 40000000
set_option linter.unusedVariables false
set_option linter.unusedSimpArgs false
namespace Go.Proofs.YtoaagdbbbojpmaaGreatDoor
open Go Go.Mw
-- @U: List.length_map,mdC_e,ftC_e,imC_e,tbC_e,lmC_e,cdC_e,exC_e,elC_e,daC_e,cuC_e,inL_e,fa_,faO

end Go.Proofs.YtoaagdbbbojpmaaGreatDoor
set_option maxRecDepth 100000
set_option maxHeartbeats 40000000
set_option linter.unusedVariables false
set_option linter.unusedSimpArgs false
namespace Go.Proofs.YtoaagdbbbojpmaaGreatDoor
open Go Go.Mw
-- @U: List.length_map,mdC_e,ftC_e,imC_e,tbC_e,lmC_e,cdC_e,exC_e,elC_e,daC_e,cuC_e,inL_e,fa_,faO

end Go.Proofs.YtoaagdbbbojpmaaGreatDoor
set_option maxRecDepth 100000
set_option maxHeartbeats 40000000
set_option linter.unusedVariables false
set_option linter.unusedSimpArgs false
namespace Go.Proofs.YtoaagdbbbojpmaaGreatDoor
open Go Go.Mw
-- @U: List.length_map,mdC_e,ftC_e,imC_e,tbC_e,lmC_e,cdC_e,exC_e,elC_e,daC_e,cuC_e,inL_e,fa_,faO

end Go.Proofs.YtoaagdbbbojpmaaGreatDoor
set_option maxRecDepth 100000
set_option maxHeartbeats 40000000
set_option linter.unusedVariables false
set_option linter.unusedSimpArgs false
namespace Go.Proofs.YtoaagdbbbojpmaaGreatDoor
open Go Go.Mw
-- @U: List.length_map,mdC_e,ftC_e,imC_e,tbC_e,lmC_e,cdC_e,exC_e,elC_e,daC_e,cuC_e,inL_e,fa_,faO

end Go.Proofs.YtoaagdbbbojpmaaGreatDoor
set_option maxRecDepth 100000
set_option maxHeartbeats 40000000
set_option linter.unusedVariables false
set_option linter.unusedSimpArgs false
namespace Go.Proofs.YtoaagdbbbojpmaaGreatDoor
open Go Go.Mw
-- @U: elO,List.length_map,mdC_e,ftC_e,imC_e,tbC_e,lmC_e,cdC_e,exC_e,elC_e,daC_e,cuC_e,inL_e,fa_,faO

end Go.Proofs.YtoaagdbbbojpmaaGreatDoor
set_option maxRecDepth 100000
set_option maxHeartbeats 4000000
set_option linter.unusedVariables false
set_option linter.unusedSimpArgs false
namespace Go.Proofs.YtoaagdbbbojpmaaGreatDoor
open Go Go.Mw

end Go.Proofs.YtoaagdbbbojpmaaGreatDoor
set_option maxRecDepth 100000
set_option maxHeartbeats 40000000
set_option linter.unusedVariables false
set_option linter.unusedSimpArgs false
namespace Go.Proofs.YtoaagdbbbojpmaaGreatDoor
open Go Go.Mw
-- @U: List.length_map,mdC_e,fa_,faO,faR_e

instance:Inhabited Fa:=⟨lm0⟩
end Go.Proofs.YtoaagdbbbojpmaaGreatDoor
set_option maxRecDepth 100000
set_option maxHeartbeats 20000000
set_option linter.unusedVariables false
set_option linter.unusedSimpArgs false
namespace Go.Proofs.YtoaagdbbbojpmaaGreatDoor
open Go Go.Mw
-- @U: List.length_map

end Go.Proofs.YtoaagdbbbojpmaaGreatDoor
set_option maxRecDepth 100000
set_option maxHeartbeats 40000000
set_option linter.unusedVariables false
set_option linter.unusedSimpArgs false
namespace Go.Proofs.YtoaagdbbbojpmaaGreatDoor
open Go Go.Mw
-- @U: List.length_map,mdC_e

end Go.Proofs.YtoaagdbbbojpmaaGreatDoor
set_option maxRecDepth 100000
set_option maxHeartbeats 40000000
set_option linter.unusedVariables false
set_option linter.unusedSimpArgs false
namespace Go.Proofs.YtoaagdbbbojpmaaGreatDoor
open Go Go.Mw
-- @U: List.length_map,mdC_e

attribute [local go_sem] List.length_map mdC_e
theorem w_starts7 (m:Md) (hm:bMod maxLen m) (start:Int):PCalls Tryz.prog nX47 [md_ m,.int .i64 start] (.bool true):=by
  refine pfun_sound (ic:=FX47.body) mixed cX47 rfl rfl ?_
  have la:=s_light m hm
  have al:=s_alive7
  simp only [md_,mdC_e] at la
  simp only [go_sem,FX47,md_]
  refine call_pe la ?_
  intro x hx
  cases x
  · simp only [go_sem]
    refine call_same (al) (by simp [go_sem]) ?_
    simp only [go_sem]
    exact pdone [] (by simp only [go_sem]) (by first | rfl | simp [go_sem,slv_ids])
  have sa:=lg_sm hm (hx rfl)
  have s2:smM { m with hs:=false }:=⟨sa.ts,sa.ims,sa.fs,sa.tbs,sa.ms,sa.gs,sa.exs,sa.els,sa.ds,sa.cs⟩
  have s3:smM { m with hs:=false,st:=start }:=⟨sa.ts,sa.ims,sa.fs,sa.tbs,sa.ms,sa.gs,sa.exs,sa.els,sa.ds,sa.cs⟩
  have c1:=m_same7 m { m with st:=start } sa
  have c2:=m_same7 { m with hs:=false } { m with hs:=false,st:=start } s2
  have c3:=m_limits plB { m with hs:=false } s2 s_plB
  have c4:=m_limits plB { m with hs:=false,st:=start } s3 s_plB
  have e2:SameP { m with hs:=false } { m with hs:=false,st:=start }:=⟨rfl,(fun h=>by cases h),rfl,rfl,rfl,⟨rfl,rfl⟩,rfl,rfl,rfl,rfl,rfl⟩
  have e4:limA plB { m with hs:=false,st:=start } = limA plB { m with hs:=false }:=by
    have k:lm8 plB { m with hs:=false,st:=start } = lm8 plB { m with hs:=false }:=by
      unfold lm8
      rw [if_neg (by simp),if_neg (by simp)]
      rfl
    unfold limA lm11 lm10 lm9
    rw [k]
  have e1:decide (SameP m { m with st:=start }) = (!m.hs || (m.st == start)):=by
    rw [Bool.eq_iff_iff,decide_eq_true_iff]
    have:SameP m { m with st:=start } ↔ (m.hs = true → m.st = start):=⟨fun h=>h.2.1,fun h=>⟨rfl,h,rfl,rfl,rfl,⟨rfl,rfl⟩,rfl,rfl,rfl,rfl,rfl⟩⟩
    rw [this]
    cases m.hs <;> simp
  rw [decide_eq_true e2] at c2
  rw [e4] at c4
  rw [e1] at c1
  simp only [md_,mdC_e,fa_] at c1 c2 c3 c4
  simp only [go_sem]
  refine dcall_same c1 (by simp [go_sem]) rfl ?_
  cases hh:m.hs
  · simp only [go_sem,hh,Bool.not_false,Bool.true_or]
    refine call_same (c2) (by simp [go_sem]) ?_
    simp only [go_sem]
    refine dcall_same c3 (by simp [go_sem]) rfl ?_
    simp only [go_sem]
    refine call_same (c4) (by simp [go_sem]) ?_
    simp only [go_sem]
    refine call_same (al) (by simp [go_sem]) ?_
    simp only [go_sem]
    exact pdone [] (by simp only [go_sem]) (by first | rfl | simp [go_sem,slv_ids])
  · simp only [go_sem,hh,Bool.not_true,Bool.false_or]
    refine call_same (c2) (by simp [go_sem]) ?_
    simp only [go_sem]
    refine dcall_same c3 (by simp [go_sem]) rfl ?_
    simp only [go_sem]
    refine call_same (c4) (by simp [go_sem]) ?_
    simp only [go_sem]
    refine call_same (al) (by simp [go_sem]) ?_
    simp only [go_sem]
    exact pdone [] (by simp only [go_sem]) (by first | rfl | simp [go_sem,slv_ids])
end Go.Proofs.YtoaagdbbbojpmaaGreatDoor
set_option maxRecDepth 100000
set_option linter.unusedVariables false
set_option linter.unusedSimpArgs false
namespace Go.Proofs.YtoaagdbbbojpmaaGreatDoor
open Go Go.Mw

end Go.Proofs.YtoaagdbbbojpmaaGreatDoor
