/-
  Chapter 7,the laws ModsNames,ModsFewer,walked.
-/
import Derived.Test.YtoaagdbbbojpmaaGreatDoorQj
import Derived.Test.YtoaagdbbbojpmaaGreatDoorQh
import Derived.Test.YtoaagdbbbojpmaaGreatDoorQe
set_option linter.unusedVariables false
set_option linter.unusedSimpArgs false
set_option linter.unusedSectionVars false
set_option maxRecDepth 100000
set_option maxHeartbeats 40000000
set_option linter.unusedVariables false
set_option linter.unusedSimpArgs false
namespace Go.Proofs.YtoaagdbbbojpmaaGreatDoor
open Go Go.Mw
-- @U: List.length_map,mdC_e,cdC_e,ins_e,insC,nm_e,lc_e,nsC

/-! ### Fewer -/
theorem fa_zero (F:Fa):((F.p == 0) && ((F.i == 0) && ((F.l == 0) && (F.c == 0)))) = decide (F = lm0):=by
  obtain ⟨p,i,l,c⟩:=F
  rw [Bool.eq_iff_iff,decide_eq_true_iff]
  simp [lm0]
def fwO (m:Md) (a b c:Nat):AObj:=⟨33,12,[[.sl 2 (m.ts.map ftC),.sl 13 (m.ims.map imC),.sl 3 (m.fs.map cdC),.sl 4 (m.tbs.map tbC),.sl 3 (m.ms.map lmC),.sl 3 (m.gs.map gdC),.sl 3 ((m.exs.take a).map exC),.bool m.hs,.int .i64 m.st,.sl 5 (m.els.map elC),.sl 4 ((m.ds.take b).map daC),.sl 3 ((m.cs.take c).map cuC)]],true⟩
def mdO (m:Md):AObj:=⟨33,12,[[.sl 2 (m.ts.map ftC),.sl 13 (m.ims.map imC),.sl 3 (m.fs.map cdC),.sl 4 (m.tbs.map tbC),.sl 3 (m.ms.map lmC),.sl 3 (m.gs.map gdC),.sl 3 (m.exs.map exC),.bool m.hs,.int .i64 m.st,.sl 5 (m.els.map elC),.sl 4 (m.ds.map daC),.sl 3 (m.cs.map cuC)]],true⟩
theorem sm_fewer {m:Md} (h:smM m) (a b c:Nat):smM (fewer m a b c) :=
  ⟨h.ts,h.ims,h.fs,h.tbs,h.ms,h.gs,Nat.le_trans (by simp [fewer]; omega) h.exs,h.els,⟨Nat.le_trans (by simp [fewer]; omega) h.ds.1,fun x hx=>h.ds.2 x (List.mem_of_mem_take hx)⟩,⟨Nat.le_trans (by simp [fewer]; omega) h.cs.1,fun x hx=>h.cs.2 x (List.mem_of_mem_take hx)⟩⟩
attribute [local go_sem] List.length_map mdC_e cdC_e ins_e insC nm_e lc_e nsC
theorem w_fewer7 (m:Md) (hm:bMod maxLen m):PCalls Tryz.prog nX49 [md_ m] (.bool true):=by
  refine pfun_sound (ic:=FX49.body) mixed cX49 rfl rfl ?_
  have la:=s_light m hm
  have al:=s_alive7
  simp only [md_,mdC_e] at la
  simp only [go_sem,FX49,md_]
  refine call_pe la ?_
  intro x hx
  cases x
  · simp only [go_sem]
    refine call_same (al) (by simp [go_sem]) ?_
    simp only [go_sem]
    exact pdone [] (by simp only [go_sem]) (by first | rfl | simp [go_sem,slv_ids])
  have lg:=hx rfl
  have sa:=lg_sm hm lg
  have c1:=m_limits plB m sa s_plB
  simp only [md_,mdC_e] at c1
  have kz:=fa_zero (limA plB m)
  simp only [go_sem]
  refine call_same (c1) (by simp [go_sem]) ?_
  by_cases hF:limA plB m = lm0
  rotate_left
  · rw [decide_eq_false hF] at kz
    simp only [go_sem,kz,Bool.not_false]
    refine call_same (al) (by simp [go_sem]) ?_
    simp only [go_sem]
    exact pdone [] (by simp only [go_sem]) (by first | rfl | simp [go_sem,slv_ids])
  rw [decide_eq_true hF] at kz
  have g7:=lg.exs
  have g10:=lg.ds
  have g11:=lg.cs
  have w:=fun (n:Nat) (h:n ≤ 100)=>(wi (by omega) (by omega):IntKind.i64.wrap ((n:Int) - 1) = (n:Int) - 1)
  have v:=fun (n:Nat)=>(by split <;> omega:(if (0:Int) < (n:Int) - 1 then (n:Int) - 1 else 0) = ((n - 1:Nat):Int))
  simp only [go_sem,kz,Bool.not_true,w _ g7,w _ g10,w _ g11,v]
  refine ⟨⟨by omega,by omega⟩,⟨by omega,by omega⟩,⟨by omega,by omega⟩,?_⟩
  have c2:=m_limits plB (fewer m (m.exs.length - 1) (m.ds.length - 1) (m.cs.length - 1)) (sm_fewer sa _ _ _) s_plB
  rw [few_lim sa hF _ _ _ (sm_fewer sa _ _ _)] at c2
  simp only [md_,mdC_e,fewer,lm0] at c2
  refine loop_rule (fun j:Nat=>⟨[(4,.int .i64 j),(3,.mp 3 12 0 0),(2,.bool false),(1,.mp 1 12 0 0)],[(3,fwO m (m.exs.length - 1) (m.ds.length - 1) (m.cs.length - 1)),(1,mdO m)]⟩) (fun j=>j ≤ m.fs.length) (fun j=>m.fs.length - j) 0 (Nat.zero_le _) (Wk.of ?_ ?_) ?_
  · simp only [go_sem]; try simp
  · simp only [go_sem,fwO,mdO]; try simp
  intro j hj
  by_cases h1:(j:Int) < (m.fs.length:Int)
  rotate_left
  · simp only [go_sem,decide_eq_false h1,fwO,mdO]
    refine call_same (c2) (by simp [go_sem]) ?_
    simp only [go_sem]
    refine call_same (al) (by simp [go_sem]) ?_
    simp only [go_sem]
    exact pdone [] (by simp only [go_sem]) (by first | rfl | simp [go_sem,slv_ids])
  have hj':j < m.fs.length:=by omega
  have g3:=sa.fs.1
  have g4:=(at_in sa.fs.2 hj').2
  have e8:=i_bd hj' (by omega)
  simp only [go_sem,decide_eq_true h1,fwO,mdO]
  refine loop_rule (fun k:Nat=>⟨[(5,.int .i64 k),(4,.int .i64 j),(3,.mp 3 12 0 0),(2,.bool false),(1,.mp 1 12 0 0)],[(3,fwO m (m.exs.length - 1) (m.ds.length - 1) (m.cs.length - 1)),(1,mdO m)]⟩) (fun k=>k ≤ (nth m.fs j).b.length) (fun k=>(nth m.fs j).b.length - k) 0 (Nat.zero_le _) (Wk.of ?_ ?_) ?_
  · simp only [go_sem]; try simp
  · simp only [go_sem,fwO,mdO]; try simp
  intro k hk
  by_cases h2:(k:Int) < ((nth m.fs j).b.length:Int)
  rotate_left
  · simp only [go_sem,decide_eq_false h2,fwO,mdO]
    refine ⟨by omega,h1,?_⟩
    refine klp_n (j + 1) (show j + 1 ≤ m.fs.length by omega) (show m.fs.length - (j + 1) < m.fs.length - j by omega) (Wk.of ?_ ?_)
    · simp only [go_sem,e8]; try simp
    · simp only [go_sem,fwO,mdO]; try simp
  have hk':k < (nth m.fs j).b.length:=by omega
  have e9:=i_bd hk' g4.1
  have cc:=r_plB (nth (nth m.fs j).b k) (at_in g4.2 hk')
  rw [plain_lim sa hF hj' hk'] at cc
  simp only [ins_e] at cc
  simp only [go_sem,decide_eq_true h2,fwO,mdO]
  refine ⟨by omega,h1,by omega,h1,by omega,h2,?_⟩
  refine call_same (cc) (by simp [go_sem]) ?_
  simp only [go_sem,Bool.not_true]
  refine klp_n (k + 1) (show k + 1 ≤ (nth m.fs j).b.length by omega) (show (nth m.fs j).b.length - (k + 1) < (nth m.fs j).b.length - k by omega) (Wk.of ?_ ?_)
  · simp only [go_sem,e9]; try simp
  · simp only [go_sem,fwO,mdO]; try simp
end Go.Proofs.YtoaagdbbbojpmaaGreatDoor
set_option maxRecDepth 100000
set_option maxHeartbeats 4000000
set_option linter.unusedVariables false
namespace Go.Proofs.YtoaagdbbbojpmaaGreatDoor
open Go Go.Mw
open Go.ChangeShapes Go.WideShapes Go.ChangeAt Go.RowKit

end Go.Proofs.YtoaagdbbbojpmaaGreatDoor
