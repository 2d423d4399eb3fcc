/-
  Chapter 8's law of few,walked: a module with few parts (printed by a program).
-/
import Derived.Test.YtoikbadfbneahaaGreatDoorQk
import Derived.Test.YtoikbadfbneahaaGreatDoorQf
set_option linter.unusedVariables false
set_option linter.unusedSimpArgs false
set_option linter.unusedSectionVars false
set_option maxRecDepth 100000
set_option maxHeartbeats 40000000
set_option linter.unusedVariables false
set_option linter.unusedSimpArgs false
namespace Go.Proofs.YtoikbadfbneahaaGreatDoor
open Go Go.Mw
-- @U: List.length_map,mdC_e,elC_e

def fw8:List El → Nat → Int → Int
  | [],_,a=>a
  | _ :: _,0,a=>a
  | x :: r,k + 1,a=>if a ≤ 500 then fw8 r k (IntKind.i64.wrap (a + (x.it.length:Int))) else a
def fewM (m:Md):Bool:=decide (fw8 m.els 100 0 ≤ 500) && decide ((m.ts.length:Int) ≤ 100) && decide ((m.ims.length:Int) ≤ 100) && decide ((m.fs.length:Int) ≤ 100) && decide ((m.tbs.length:Int) ≤ 50) && decide ((m.ms.length:Int) ≤ 50) && decide ((m.gs.length:Int) ≤ 100) && decide ((m.exs.length:Int) ≤ 200) && decide ((m.els.length:Int) ≤ 50) && decide ((m.ds.length:Int) ≤ 50)
theorem s_few8 (m:Md):PCalls Tryz.prog nX125 [md_ m] (.bool (fewM m)):=by
  refine pfun_sound (ic:=FX125.body) mixed cX125 rfl rfl ?_
  simp only [go_sem,List.length_map,mdC_e,elC_e,FX125,md_]
  obtain ⟨A,hA⟩:∃ A,fw8 m.els 100 0 = A:=⟨_,rfl⟩
  unfold fewM
  rw [hA]
  refine loop_rule (fun q:Nat × Int=>⟨[(4,.int .i64 q.1),(3,.int .i64 q.2),(1,.mp 1 12 0 0)],[(1,⟨44,12,[mdC m],true⟩)]⟩) (fun q=>q.1 ≤ m.els.length ∧ q.1 ≤ 100 ∧ fw8 (m.els.drop q.1) (100 - q.1) q.2 = A) (fun q=>m.els.length - q.1) (0,0) ⟨Nat.zero_le _,Nat.zero_le _,hA⟩ (Wk.of ?_ ?_) ?_
  · simp only [go_sem,List.length_map,mdC_e,elC_e]; try simp
  · simp only [go_sem,List.length_map,mdC_e,elC_e,mdC_e]
  rintro ⟨i,a⟩ ⟨hi,h100,hf⟩
  simp only at hi h100 hf
  by_cases hgo:i < m.els.length ∧ i < 100 ∧ a ≤ 500
  · obtain ⟨hi',h2,h3⟩:=hgo
    have e8:=wi (n:=(i:Int) + 1) (by omega) (by omega)
    rw [drop_c hi',show 100 - i = (100 - (i + 1)) + 1 by omega,fw8,if_pos h3] at hf
    simp only [go_sem,List.length_map,mdC_e,elC_e,decide_eq_true (show (i:Int) < (m.els.length:Int) by omega),decide_eq_true (show (i:Int) < 100 by omega),decide_eq_true h3,mdC_e]
    refine ⟨by omega,by omega,?_⟩
    refine klp_n (i + 1,IntKind.i64.wrap (a + ((nth m.els i).it.length:Int))) ⟨show i + 1 ≤ m.els.length by omega,show i + 1 ≤ 100 by omega,hf⟩ (show m.els.length - (i + 1) < m.els.length - i by omega) (Wk.of ?_ ?_)
    · simp only [go_sem,List.length_map,mdC_e,elC_e,e8]; try simp
    · simp only [go_sem,List.length_map,mdC_e,elC_e,mdC_e]
  obtain rfl:a = A:=by
    by_cases h1:i < m.els.length
    · by_cases h2:i < 100
      · rw [drop_c h1,show 100 - i = (100 - (i + 1)) + 1 by omega,fw8,if_neg (by omega)] at hf
        exact hf
      · rw [drop_c h1,show 100 - i = 0 by omega,fw8] at hf
        exact hf
    · rw [drop_end (by omega),fw8] at hf
      exact hf
  clear hf
  have stop:∀ K:Prop,(¬ i < m.els.length → K) → (i < m.els.length → ¬ i < 100 → K) → (i < m.els.length → i < 100 → ¬ a ≤ 500 → K) → K:=fun K k1 k2 k3=>by
    by_cases h1:i < m.els.length
    · by_cases h2:i < 100
      · exact k3 h1 h2 (fun h3=>hgo ⟨h1,h2,h3⟩)
      · exact k2 h1 h2
    · exact k1 h1
  refine stop _ (fun h1=>?_) (fun h1 h2=>?_) (fun h1 h2 h3=>?_)
  · cases g0:decide (a ≤ 500)
    · simp only [go_sem,List.length_map,mdC_e,elC_e,decide_eq_false (show ¬ (i:Int) < (m.els.length:Int) by omega),g0,mdC_e]
      exact pdone [] (by simp only [go_sem,List.length_map,mdC_e,elC_e,Bool.false_and]) (by first | rfl | simp [go_sem,slv_ids,List.length_map,mdC_e,elC_e])
    cases g1:decide ((m.ts.length:Int) ≤ 100)
    · simp only [go_sem,List.length_map,mdC_e,elC_e,decide_eq_false (show ¬ (i:Int) < (m.els.length:Int) by omega),g0,g1,mdC_e]
      exact pdone [] (by simp only [go_sem,List.length_map,mdC_e,elC_e,Bool.false_and,Bool.and_false,Bool.true_and]) (by first | rfl | simp [go_sem,slv_ids,List.length_map,mdC_e,elC_e])
    cases g2:decide ((m.ims.length:Int) ≤ 100)
    · simp only [go_sem,List.length_map,mdC_e,elC_e,decide_eq_false (show ¬ (i:Int) < (m.els.length:Int) by omega),g0,g1,g2,mdC_e]
      exact pdone [] (by simp only [go_sem,List.length_map,mdC_e,elC_e,Bool.false_and,Bool.and_false,Bool.true_and]) (by first | rfl | simp [go_sem,slv_ids,List.length_map,mdC_e,elC_e])
    cases g3:decide ((m.fs.length:Int) ≤ 100)
    · simp only [go_sem,List.length_map,mdC_e,elC_e,decide_eq_false (show ¬ (i:Int) < (m.els.length:Int) by omega),g0,g1,g2,g3,mdC_e]
      exact pdone [] (by simp only [go_sem,List.length_map,mdC_e,elC_e,Bool.false_and,Bool.and_false,Bool.true_and]) (by first | rfl | simp [go_sem,slv_ids,List.length_map,mdC_e,elC_e])
    cases g4:decide ((m.tbs.length:Int) ≤ 50)
    · simp only [go_sem,List.length_map,mdC_e,elC_e,decide_eq_false (show ¬ (i:Int) < (m.els.length:Int) by omega),g0,g1,g2,g3,g4,mdC_e]
      exact pdone [] (by simp only [go_sem,List.length_map,mdC_e,elC_e,Bool.false_and,Bool.and_false,Bool.true_and]) (by first | rfl | simp [go_sem,slv_ids,List.length_map,mdC_e,elC_e])
    cases g5:decide ((m.ms.length:Int) ≤ 50)
    · simp only [go_sem,List.length_map,mdC_e,elC_e,decide_eq_false (show ¬ (i:Int) < (m.els.length:Int) by omega),g0,g1,g2,g3,g4,g5,mdC_e]
      exact pdone [] (by simp only [go_sem,List.length_map,mdC_e,elC_e,Bool.false_and,Bool.and_false,Bool.true_and]) (by first | rfl | simp [go_sem,slv_ids,List.length_map,mdC_e,elC_e])
    cases g6:decide ((m.gs.length:Int) ≤ 100)
    · simp only [go_sem,List.length_map,mdC_e,elC_e,decide_eq_false (show ¬ (i:Int) < (m.els.length:Int) by omega),g0,g1,g2,g3,g4,g5,g6,mdC_e]
      exact pdone [] (by simp only [go_sem,List.length_map,mdC_e,elC_e,Bool.false_and,Bool.and_false,Bool.true_and]) (by first | rfl | simp [go_sem,slv_ids,List.length_map,mdC_e,elC_e])
    cases g7:decide ((m.exs.length:Int) ≤ 200)
    · simp only [go_sem,List.length_map,mdC_e,elC_e,decide_eq_false (show ¬ (i:Int) < (m.els.length:Int) by omega),g0,g1,g2,g3,g4,g5,g6,g7,mdC_e]
      exact pdone [] (by simp only [go_sem,List.length_map,mdC_e,elC_e,Bool.false_and,Bool.and_false,Bool.true_and]) (by first | rfl | simp [go_sem,slv_ids,List.length_map,mdC_e,elC_e])
    cases g8:decide ((m.els.length:Int) ≤ 50)
    · simp only [go_sem,List.length_map,mdC_e,elC_e,decide_eq_false (show ¬ (i:Int) < (m.els.length:Int) by omega),g0,g1,g2,g3,g4,g5,g6,g7,g8,mdC_e]
      exact pdone [] (by simp only [go_sem,List.length_map,mdC_e,elC_e,Bool.false_and,Bool.and_false,Bool.true_and]) (by first | rfl | simp [go_sem,slv_ids,List.length_map,mdC_e,elC_e])
    cases g9:decide ((m.ds.length:Int) ≤ 50)
    · simp only [go_sem,List.length_map,mdC_e,elC_e,decide_eq_false (show ¬ (i:Int) < (m.els.length:Int) by omega),g0,g1,g2,g3,g4,g5,g6,g7,g8,g9,mdC_e]
      exact pdone [] (by simp only [go_sem,List.length_map,mdC_e,elC_e,Bool.false_and,Bool.and_false,Bool.true_and]) (by first | rfl | simp [go_sem,slv_ids,List.length_map,mdC_e,elC_e])
    simp only [go_sem,List.length_map,mdC_e,elC_e,decide_eq_false (show ¬ (i:Int) < (m.els.length:Int) by omega),g0,g1,g2,g3,g4,g5,g6,g7,g8,g9,mdC_e]
    exact pdone [] (by simp only [go_sem,List.length_map,mdC_e,elC_e,Bool.and_true,Bool.true_and]) (by first | rfl | simp [go_sem,slv_ids,List.length_map,mdC_e,elC_e])
  · cases g0:decide (a ≤ 500)
    · simp only [go_sem,List.length_map,mdC_e,elC_e,decide_eq_true (show (i:Int) < (m.els.length:Int) by omega),decide_eq_false (show ¬ (i:Int) < 100 by omega),g0,mdC_e]
      exact pdone [] (by simp only [go_sem,List.length_map,mdC_e,elC_e,Bool.false_and]) (by first | rfl | simp [go_sem,slv_ids,List.length_map,mdC_e,elC_e])
    cases g1:decide ((m.ts.length:Int) ≤ 100)
    · simp only [go_sem,List.length_map,mdC_e,elC_e,decide_eq_true (show (i:Int) < (m.els.length:Int) by omega),decide_eq_false (show ¬ (i:Int) < 100 by omega),g0,g1,mdC_e]
      exact pdone [] (by simp only [go_sem,List.length_map,mdC_e,elC_e,Bool.false_and,Bool.and_false,Bool.true_and]) (by first | rfl | simp [go_sem,slv_ids,List.length_map,mdC_e,elC_e])
    cases g2:decide ((m.ims.length:Int) ≤ 100)
    · simp only [go_sem,List.length_map,mdC_e,elC_e,decide_eq_true (show (i:Int) < (m.els.length:Int) by omega),decide_eq_false (show ¬ (i:Int) < 100 by omega),g0,g1,g2,mdC_e]
      exact pdone [] (by simp only [go_sem,List.length_map,mdC_e,elC_e,Bool.false_and,Bool.and_false,Bool.true_and]) (by first | rfl | simp [go_sem,slv_ids,List.length_map,mdC_e,elC_e])
    cases g3:decide ((m.fs.length:Int) ≤ 100)
    · simp only [go_sem,List.length_map,mdC_e,elC_e,decide_eq_true (show (i:Int) < (m.els.length:Int) by omega),decide_eq_false (show ¬ (i:Int) < 100 by omega),g0,g1,g2,g3,mdC_e]
      exact pdone [] (by simp only [go_sem,List.length_map,mdC_e,elC_e,Bool.false_and,Bool.and_false,Bool.true_and]) (by first | rfl | simp [go_sem,slv_ids,List.length_map,mdC_e,elC_e])
    cases g4:decide ((m.tbs.length:Int) ≤ 50)
    · simp only [go_sem,List.length_map,mdC_e,elC_e,decide_eq_true (show (i:Int) < (m.els.length:Int) by omega),decide_eq_false (show ¬ (i:Int) < 100 by omega),g0,g1,g2,g3,g4,mdC_e]
      exact pdone [] (by simp only [go_sem,List.length_map,mdC_e,elC_e,Bool.false_and,Bool.and_false,Bool.true_and]) (by first | rfl | simp [go_sem,slv_ids,List.length_map,mdC_e,elC_e])
    cases g5:decide ((m.ms.length:Int) ≤ 50)
    · simp only [go_sem,List.length_map,mdC_e,elC_e,decide_eq_true (show (i:Int) < (m.els.length:Int) by omega),decide_eq_false (show ¬ (i:Int) < 100 by omega),g0,g1,g2,g3,g4,g5,mdC_e]
      exact pdone [] (by simp only [go_sem,List.length_map,mdC_e,elC_e,Bool.false_and,Bool.and_false,Bool.true_and]) (by first | rfl | simp [go_sem,slv_ids,List.length_map,mdC_e,elC_e])
    cases g6:decide ((m.gs.length:Int) ≤ 100)
    · simp only [go_sem,List.length_map,mdC_e,elC_e,decide_eq_true (show (i:Int) < (m.els.length:Int) by omega),decide_eq_false (show ¬ (i:Int) < 100 by omega),g0,g1,g2,g3,g4,g5,g6,mdC_e]
      exact pdone [] (by simp only [go_sem,List.length_map,mdC_e,elC_e,Bool.false_and,Bool.and_false,Bool.true_and]) (by first | rfl | simp [go_sem,slv_ids,List.length_map,mdC_e,elC_e])
    cases g7:decide ((m.exs.length:Int) ≤ 200)
    · simp only [go_sem,List.length_map,mdC_e,elC_e,decide_eq_true (show (i:Int) < (m.els.length:Int) by omega),decide_eq_false (show ¬ (i:Int) < 100 by omega),g0,g1,g2,g3,g4,g5,g6,g7,mdC_e]
      exact pdone [] (by simp only [go_sem,List.length_map,mdC_e,elC_e,Bool.false_and,Bool.and_false,Bool.true_and]) (by first | rfl | simp [go_sem,slv_ids,List.length_map,mdC_e,elC_e])
    cases g8:decide ((m.els.length:Int) ≤ 50)
    · simp only [go_sem,List.length_map,mdC_e,elC_e,decide_eq_true (show (i:Int) < (m.els.length:Int) by omega),decide_eq_false (show ¬ (i:Int) < 100 by omega),g0,g1,g2,g3,g4,g5,g6,g7,g8,mdC_e]
      exact pdone [] (by simp only [go_sem,List.length_map,mdC_e,elC_e,Bool.false_and,Bool.and_false,Bool.true_and]) (by first | rfl | simp [go_sem,slv_ids,List.length_map,mdC_e,elC_e])
    cases g9:decide ((m.ds.length:Int) ≤ 50)
    · simp only [go_sem,List.length_map,mdC_e,elC_e,decide_eq_true (show (i:Int) < (m.els.length:Int) by omega),decide_eq_false (show ¬ (i:Int) < 100 by omega),g0,g1,g2,g3,g4,g5,g6,g7,g8,g9,mdC_e]
      exact pdone [] (by simp only [go_sem,List.length_map,mdC_e,elC_e,Bool.false_and,Bool.and_false,Bool.true_and]) (by first | rfl | simp [go_sem,slv_ids,List.length_map,mdC_e,elC_e])
    simp only [go_sem,List.length_map,mdC_e,elC_e,decide_eq_true (show (i:Int) < (m.els.length:Int) by omega),decide_eq_false (show ¬ (i:Int) < 100 by omega),g0,g1,g2,g3,g4,g5,g6,g7,g8,g9,mdC_e]
    exact pdone [] (by simp only [go_sem,List.length_map,mdC_e,elC_e,Bool.and_true,Bool.true_and]) (by first | rfl | simp [go_sem,slv_ids,List.length_map,mdC_e,elC_e])
  · simp only [go_sem,List.length_map,mdC_e,elC_e,decide_eq_true (show (i:Int) < (m.els.length:Int) by omega),decide_eq_true (show (i:Int) < 100 by omega),decide_eq_false h3,mdC_e]
    exact pdone [] (by simp only [go_sem,List.length_map,mdC_e,elC_e,Bool.false_and]) (by first | rfl | simp [go_sem,slv_ids,List.length_map,mdC_e,elC_e])
end Go.Proofs.YtoikbadfbneahaaGreatDoor
