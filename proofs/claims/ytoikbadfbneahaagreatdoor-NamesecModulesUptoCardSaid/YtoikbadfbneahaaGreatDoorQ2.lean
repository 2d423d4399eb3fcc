/-
  Chapter 7,walks: the reference's Same of data and element segments,of tables and memories,of modules (printed by tools/gm3.py).
-/
import Derived.Test.YtoikbadfbneahaaGreatDoorQ1
set_option linter.unusedVariables false
set_option linter.unusedSimpArgs false
set_option linter.unusedSectionVars false
set_option maxRecDepth 100000
set_option maxHeartbeats 40000000
set_option linter.unusedVariables false
set_option linter.unusedSimpArgs false
namespace Go.Proofs.YtoikbadfbneahaaGreatDoor
open Go Go.Mw
-- @U: List.length_map,ftC_e,imC_e,cdC_e,tbC_e,lmC_e,gdC_e,exC_e,daC_e,cuC_e,elC_e,inL_e,insC

theorem r_dats (a b:List Da) (ha:a.length ≤ 1048576 ∧ ∀ x ∈ a,smDa x):PCalls Tryz.prog nX49 [.sl 4 (a.map daC),.sl 4 (b.map daC)] (.bool (decide (a = b))):=by
  refine pfun_sound (ic:=FX49.body) mixed cX49 rfl rfl ?_
  by_cases hl:(a.length:Int) = (b.length:Int)
  rotate_left
  · rw [decide_eq_false (fun h=>hl (by rw [h]))]
    simp only [go_sem,List.length_map,ftC_e,imC_e,cdC_e,tbC_e,lmC_e,gdC_e,exC_e,daC_e,cuC_e,elC_e,inL_e,insC,FX49,bne_t hl]
    exact pdone [] (by simp only [go_sem,List.length_map,ftC_e,imC_e,cdC_e,tbC_e,lmC_e,gdC_e,exC_e,daC_e,cuC_e,elC_e,inL_e,insC]) (by first | rfl | simp [go_sem,slv_ids,List.length_map,ftC_e,imC_e,cdC_e,tbC_e,lmC_e,gdC_e,exC_e,daC_e,cuC_e,elC_e,inL_e,insC])
  simp only [go_sem,List.length_map,ftC_e,imC_e,cdC_e,tbC_e,lmC_e,gdC_e,exC_e,daC_e,cuC_e,elC_e,inL_e,insC,FX49,bne_f hl]
  refine loop_rule (fun j:Nat=>⟨[(5,.int .i64 j),(0,.sl 4 (a.map daC)),(1,.sl 4 (b.map daC))],[]⟩) (fun j=>j ≤ a.length ∧ ∀ k,k < j → nth a k = nth b k) (fun j=>a.length - j) 0 ⟨Nat.zero_le _,fun k hk=>by omega⟩ (Wk.of ?_ ?_) ?_
  · simp only [go_sem,List.length_map,ftC_e,imC_e,cdC_e,tbC_e,lmC_e,gdC_e,exC_e,daC_e,cuC_e,elC_e,inL_e,insC]; try simp
  · simp only [go_sem,List.length_map,ftC_e,imC_e,cdC_e,tbC_e,lmC_e,gdC_e,exC_e,daC_e,cuC_e,elC_e,inL_e,insC]
  rintro j ⟨hj,hx⟩
  by_cases h1:(j:Int) < (a.length:Int)
  rotate_left
  · rw [decide_eq_true (ext_nt (by omega) fun k hk=>hx k (by omega))]
    simp only [go_sem,List.length_map,ftC_e,imC_e,cdC_e,tbC_e,lmC_e,gdC_e,exC_e,daC_e,cuC_e,elC_e,inL_e,insC,decide_eq_false h1]
    exact pdone [] (by simp only [go_sem,List.length_map,ftC_e,imC_e,cdC_e,tbC_e,lmC_e,gdC_e,exC_e,daC_e,cuC_e,elC_e,inL_e,insC]) (by first | rfl | simp [go_sem,slv_ids,List.length_map,ftC_e,imC_e,cdC_e,tbC_e,lmC_e,gdC_e,exC_e,daC_e,cuC_e,elC_e,inL_e,insC])
  have hj':j < a.length:=by omega
  have hjb:(j:Int) < (b.length:Int):=by omega
  have e8:=i_bd hj' (by omega)
  obtain ⟨ha,hs⟩:=ha
  have hX:=at_in hs hj'
  clear hs
  have neq:nth a j ≠ nth b j → decide (a = b) = false:=fun h=>decide_eq_false (fun e=>h (by rw [e]))
  by_cases c1:(nth a j).mo = (nth b j).mo
  rotate_left
  · rw [neq (fun e=>c1 (by rw [e]))]
    simp only [go_sem,List.length_map,ftC_e,imC_e,cdC_e,tbC_e,lmC_e,gdC_e,exC_e,daC_e,cuC_e,elC_e,inL_e,insC,decide_eq_true h1,bne_t c1]
    refine ⟨by omega,h1,by omega,hjb,?_⟩
    exact pdone [] (by simp only [go_sem,List.length_map,ftC_e,imC_e,cdC_e,tbC_e,lmC_e,gdC_e,exC_e,daC_e,cuC_e,elC_e,inL_e,insC]) (by first | rfl | simp [go_sem,slv_ids,List.length_map,ftC_e,imC_e,cdC_e,tbC_e,lmC_e,gdC_e,exC_e,daC_e,cuC_e,elC_e,inL_e,insC])
  by_cases c2:(nth a j).me = (nth b j).me
  rotate_left
  · rw [neq (fun e=>c2 (by rw [e]))]
    simp only [go_sem,List.length_map,ftC_e,imC_e,cdC_e,tbC_e,lmC_e,gdC_e,exC_e,daC_e,cuC_e,elC_e,inL_e,insC,decide_eq_true h1,bne_f c1,bne_t c2]
    refine ⟨by omega,h1,by omega,hjb,?_⟩
    exact pdone [] (by simp only [go_sem,List.length_map,ftC_e,imC_e,cdC_e,tbC_e,lmC_e,gdC_e,exC_e,daC_e,cuC_e,elC_e,inL_e,insC]) (by first | rfl | simp [go_sem,slv_ids,List.length_map,ftC_e,imC_e,cdC_e,tbC_e,lmC_e,gdC_e,exC_e,daC_e,cuC_e,elC_e,inL_e,insC])
  by_cases c3:(nth a j).o = (nth b j).o
  rotate_left
  · rw [neq (fun e=>c3 (by rw [e]))]
    simp only [go_sem,List.length_map,ftC_e,imC_e,cdC_e,tbC_e,lmC_e,gdC_e,exC_e,daC_e,cuC_e,elC_e,inL_e,insC,decide_eq_true h1,bne_f c1,bne_f c2]
    refine ⟨by omega,h1,by omega,hjb,?_⟩
    have cc2:=r_sameall (nth a j).o (nth b j).o hX.1
    rw [decide_eq_false c3] at cc2
    refine call_same (cc2) (by simp [go_sem,List.length_map,ftC_e,imC_e,cdC_e,tbC_e,lmC_e,gdC_e,exC_e,daC_e,cuC_e,elC_e,inL_e,insC]) ?_
    simp only [go_sem,List.length_map,ftC_e,imC_e,cdC_e,tbC_e,lmC_e,gdC_e,exC_e,daC_e,cuC_e,elC_e,inL_e,insC,decide_eq_true h1,bne_f c1,bne_f c2]
    exact pdone [] (by simp only [go_sem,List.length_map,ftC_e,imC_e,cdC_e,tbC_e,lmC_e,gdC_e,exC_e,daC_e,cuC_e,elC_e,inL_e,insC]) (by first | rfl | simp [go_sem,slv_ids,List.length_map,ftC_e,imC_e,cdC_e,tbC_e,lmC_e,gdC_e,exC_e,daC_e,cuC_e,elC_e,inL_e,insC])
  by_cases c4:(nth a j).b = (nth b j).b
  rotate_left
  · rw [neq (fun e=>c4 (by rw [e]))]
    simp only [go_sem,List.length_map,ftC_e,imC_e,cdC_e,tbC_e,lmC_e,gdC_e,exC_e,daC_e,cuC_e,elC_e,inL_e,insC,decide_eq_true h1,bne_f c1,bne_f c2,bytes_by,Option.map_some,bst c4,Bool.not_true,Bool.not_false]
    refine ⟨by omega,h1,by omega,hjb,?_⟩
    have cc2:=r_sameall (nth a j).o (nth b j).o hX.1
    rw [decide_eq_true c3] at cc2
    refine call_same (cc2) (by simp [go_sem,List.length_map,ftC_e,imC_e,cdC_e,tbC_e,lmC_e,gdC_e,exC_e,daC_e,cuC_e,elC_e,inL_e,insC]) ?_
    simp only [go_sem,List.length_map,ftC_e,imC_e,cdC_e,tbC_e,lmC_e,gdC_e,exC_e,daC_e,cuC_e,elC_e,inL_e,insC,decide_eq_true h1,bne_f c1,bne_f c2,bytes_by,Option.map_some,bst c4,Bool.not_true,Bool.not_false]
    exact pdone [] (by simp only [go_sem,List.length_map,ftC_e,imC_e,cdC_e,tbC_e,lmC_e,gdC_e,exC_e,daC_e,cuC_e,elC_e,inL_e,insC]) (by first | rfl | simp [go_sem,slv_ids,List.length_map,ftC_e,imC_e,cdC_e,tbC_e,lmC_e,gdC_e,exC_e,daC_e,cuC_e,elC_e,inL_e,insC])
  have h2:nth a j = nth b j:=by
    generalize nth a j = X at *
    generalize nth b j = Y at *
    obtain ⟨x0,x1,x2,x3⟩:=X
    obtain ⟨y0,y1,y2,y3⟩:=Y
    simp only at c1 c2 c3 c4
    simp only [c1,c2,c3,c4]
  simp only [go_sem,List.length_map,ftC_e,imC_e,cdC_e,tbC_e,lmC_e,gdC_e,exC_e,daC_e,cuC_e,elC_e,inL_e,insC,decide_eq_true h1,bne_f c1,bne_f c2,bytes_by,Option.map_some,bsf c4,Bool.not_true,Bool.not_false]
  refine ⟨by omega,h1,by omega,hjb,?_⟩
  have cc2:=r_sameall (nth a j).o (nth b j).o hX.1
  rw [decide_eq_true c3] at cc2
  refine call_same (cc2) (by simp [go_sem,List.length_map,ftC_e,imC_e,cdC_e,tbC_e,lmC_e,gdC_e,exC_e,daC_e,cuC_e,elC_e,inL_e,insC]) ?_
  simp only [go_sem,List.length_map,ftC_e,imC_e,cdC_e,tbC_e,lmC_e,gdC_e,exC_e,daC_e,cuC_e,elC_e,inL_e,insC,decide_eq_true h1,bne_f c1,bne_f c2,bytes_by,Option.map_some,bsf c4,Bool.not_true,Bool.not_false]
  refine klp_n (j + 1) ⟨show j + 1 ≤ a.length by omega,fun k hk=>?_⟩ (show a.length - (j + 1) < a.length - j by omega) (Wk.of ?_ ?_)
  · rcases Nat.lt_or_ge k j with h | h
    · exact hx k h
    · rw [show k = j by omega]; exact h2
  · simp only [go_sem,List.length_map,ftC_e,imC_e,cdC_e,tbC_e,lmC_e,gdC_e,exC_e,daC_e,cuC_e,elC_e,inL_e,insC,e8]; try simp
  · simp only [go_sem,List.length_map,ftC_e,imC_e,cdC_e,tbC_e,lmC_e,gdC_e,exC_e,daC_e,cuC_e,elC_e,inL_e,insC]
theorem r_elems (a b:List El) (ha:a.length ≤ 1048576 ∧ ∀ x ∈ a,smEl x):PCalls Tryz.prog nX48 [.sl 5 (a.map elC),.sl 5 (b.map elC)] (.bool (decide (a = b))):=by
  refine pfun_sound (ic:=FX48.body) mixed cX48 rfl rfl ?_
  by_cases hl:(a.length:Int) = (b.length:Int)
  rotate_left
  · rw [decide_eq_false (fun h=>hl (by rw [h]))]
    simp only [go_sem,List.length_map,ftC_e,imC_e,cdC_e,tbC_e,lmC_e,gdC_e,exC_e,daC_e,cuC_e,elC_e,inL_e,insC,FX48,bne_t hl]
    exact pdone [] (by simp only [go_sem,List.length_map,ftC_e,imC_e,cdC_e,tbC_e,lmC_e,gdC_e,exC_e,daC_e,cuC_e,elC_e,inL_e,insC]) (by first | rfl | simp [go_sem,slv_ids,List.length_map,ftC_e,imC_e,cdC_e,tbC_e,lmC_e,gdC_e,exC_e,daC_e,cuC_e,elC_e,inL_e,insC])
  simp only [go_sem,List.length_map,ftC_e,imC_e,cdC_e,tbC_e,lmC_e,gdC_e,exC_e,daC_e,cuC_e,elC_e,inL_e,insC,FX48,bne_f hl]
  refine loop_rule (fun j:Nat=>⟨[(5,.int .i64 j),(0,.sl 5 (a.map elC)),(1,.sl 5 (b.map elC))],[]⟩) (fun j=>j ≤ a.length ∧ ∀ k,k < j → nth a k = nth b k) (fun j=>a.length - j) 0 ⟨Nat.zero_le _,fun k hk=>by omega⟩ (Wk.of ?_ ?_) ?_
  · simp only [go_sem,List.length_map,ftC_e,imC_e,cdC_e,tbC_e,lmC_e,gdC_e,exC_e,daC_e,cuC_e,elC_e,inL_e,insC]; try simp
  · simp only [go_sem,List.length_map,ftC_e,imC_e,cdC_e,tbC_e,lmC_e,gdC_e,exC_e,daC_e,cuC_e,elC_e,inL_e,insC]
  rintro j ⟨hj,hx⟩
  by_cases h1:(j:Int) < (a.length:Int)
  rotate_left
  · rw [decide_eq_true (ext_nt (by omega) fun k hk=>hx k (by omega))]
    simp only [go_sem,List.length_map,ftC_e,imC_e,cdC_e,tbC_e,lmC_e,gdC_e,exC_e,daC_e,cuC_e,elC_e,inL_e,insC,decide_eq_false h1]
    exact pdone [] (by simp only [go_sem,List.length_map,ftC_e,imC_e,cdC_e,tbC_e,lmC_e,gdC_e,exC_e,daC_e,cuC_e,elC_e,inL_e,insC]) (by first | rfl | simp [go_sem,slv_ids,List.length_map,ftC_e,imC_e,cdC_e,tbC_e,lmC_e,gdC_e,exC_e,daC_e,cuC_e,elC_e,inL_e,insC])
  have hj':j < a.length:=by omega
  have hjb:(j:Int) < (b.length:Int):=by omega
  have e8:=i_bd hj' (by omega)
  obtain ⟨ha,hs⟩:=ha
  have hX:=at_in hs hj'
  clear hs
  have neq:nth a j ≠ nth b j → decide (a = b) = false:=fun h=>decide_eq_false (fun e=>h (by rw [e]))
  by_cases c1:(nth a j).mo = (nth b j).mo
  rotate_left
  · rw [neq (fun e=>c1 (by rw [e]))]
    simp only [go_sem,List.length_map,ftC_e,imC_e,cdC_e,tbC_e,lmC_e,gdC_e,exC_e,daC_e,cuC_e,elC_e,inL_e,insC,decide_eq_true h1,bne_t c1]
    refine ⟨by omega,h1,by omega,hjb,?_⟩
    exact pdone [] (by simp only [go_sem,List.length_map,ftC_e,imC_e,cdC_e,tbC_e,lmC_e,gdC_e,exC_e,daC_e,cuC_e,elC_e,inL_e,insC]) (by first | rfl | simp [go_sem,slv_ids,List.length_map,ftC_e,imC_e,cdC_e,tbC_e,lmC_e,gdC_e,exC_e,daC_e,cuC_e,elC_e,inL_e,insC])
  by_cases c2:(nth a j).tb = (nth b j).tb
  rotate_left
  · rw [neq (fun e=>c2 (by rw [e]))]
    simp only [go_sem,List.length_map,ftC_e,imC_e,cdC_e,tbC_e,lmC_e,gdC_e,exC_e,daC_e,cuC_e,elC_e,inL_e,insC,decide_eq_true h1,bne_f c1,bne_t c2]
    refine ⟨by omega,h1,by omega,hjb,?_⟩
    exact pdone [] (by simp only [go_sem,List.length_map,ftC_e,imC_e,cdC_e,tbC_e,lmC_e,gdC_e,exC_e,daC_e,cuC_e,elC_e,inL_e,insC]) (by first | rfl | simp [go_sem,slv_ids,List.length_map,ftC_e,imC_e,cdC_e,tbC_e,lmC_e,gdC_e,exC_e,daC_e,cuC_e,elC_e,inL_e,insC])
  by_cases c3:(nth a j).ty = (nth b j).ty
  rotate_left
  · rw [neq (fun e=>c3 (by rw [e]))]
    simp only [go_sem,List.length_map,ftC_e,imC_e,cdC_e,tbC_e,lmC_e,gdC_e,exC_e,daC_e,cuC_e,elC_e,inL_e,insC,decide_eq_true h1,bne_f c1,bne_f c2,bne_t c3]
    refine ⟨by omega,h1,by omega,hjb,?_⟩
    exact pdone [] (by simp only [go_sem,List.length_map,ftC_e,imC_e,cdC_e,tbC_e,lmC_e,gdC_e,exC_e,daC_e,cuC_e,elC_e,inL_e,insC]) (by first | rfl | simp [go_sem,slv_ids,List.length_map,ftC_e,imC_e,cdC_e,tbC_e,lmC_e,gdC_e,exC_e,daC_e,cuC_e,elC_e,inL_e,insC])
  by_cases c4:(nth a j).o = (nth b j).o
  rotate_left
  · rw [neq (fun e=>c4 (by rw [e]))]
    simp only [go_sem,List.length_map,ftC_e,imC_e,cdC_e,tbC_e,lmC_e,gdC_e,exC_e,daC_e,cuC_e,elC_e,inL_e,insC,decide_eq_true h1,bne_f c1,bne_f c2,bne_f c3]
    refine ⟨by omega,h1,by omega,hjb,?_⟩
    have cc3:=r_sameall (nth a j).o (nth b j).o hX.1
    rw [decide_eq_false c4] at cc3
    refine call_same (cc3) (by simp [go_sem,List.length_map,ftC_e,imC_e,cdC_e,tbC_e,lmC_e,gdC_e,exC_e,daC_e,cuC_e,elC_e,inL_e,insC]) ?_
    simp only [go_sem,List.length_map,ftC_e,imC_e,cdC_e,tbC_e,lmC_e,gdC_e,exC_e,daC_e,cuC_e,elC_e,inL_e,insC,decide_eq_true h1,bne_f c1,bne_f c2,bne_f c3]
    exact pdone [] (by simp only [go_sem,List.length_map,ftC_e,imC_e,cdC_e,tbC_e,lmC_e,gdC_e,exC_e,daC_e,cuC_e,elC_e,inL_e,insC]) (by first | rfl | simp [go_sem,slv_ids,List.length_map,ftC_e,imC_e,cdC_e,tbC_e,lmC_e,gdC_e,exC_e,daC_e,cuC_e,elC_e,inL_e,insC])
  by_cases c5:((nth a j).it.length:Int) = ((nth b j).it.length:Int)
  rotate_left
  · rw [neq (fun e=>c5 (by rw [e]))]
    simp only [go_sem,List.length_map,ftC_e,imC_e,cdC_e,tbC_e,lmC_e,gdC_e,exC_e,daC_e,cuC_e,elC_e,inL_e,insC,decide_eq_true h1,bne_f c1,bne_f c2,bne_f c3,bne_t c5]
    refine ⟨by omega,h1,by omega,hjb,?_⟩
    have cc3:=r_sameall (nth a j).o (nth b j).o hX.1
    rw [decide_eq_true c4] at cc3
    refine call_same (cc3) (by simp [go_sem,List.length_map,ftC_e,imC_e,cdC_e,tbC_e,lmC_e,gdC_e,exC_e,daC_e,cuC_e,elC_e,inL_e,insC]) ?_
    simp only [go_sem,List.length_map,ftC_e,imC_e,cdC_e,tbC_e,lmC_e,gdC_e,exC_e,daC_e,cuC_e,elC_e,inL_e,insC,decide_eq_true h1,bne_f c1,bne_f c2,bne_f c3,bne_t c5]
    exact pdone [] (by simp only [go_sem,List.length_map,ftC_e,imC_e,cdC_e,tbC_e,lmC_e,gdC_e,exC_e,daC_e,cuC_e,elC_e,inL_e,insC]) (by first | rfl | simp [go_sem,slv_ids,List.length_map,ftC_e,imC_e,cdC_e,tbC_e,lmC_e,gdC_e,exC_e,daC_e,cuC_e,elC_e,inL_e,insC])
  simp only [go_sem,List.length_map,ftC_e,imC_e,cdC_e,tbC_e,lmC_e,gdC_e,exC_e,daC_e,cuC_e,elC_e,inL_e,insC,decide_eq_true h1,bne_f c1,bne_f c2,bne_f c3,bne_f c5]
  refine ⟨by omega,h1,by omega,hjb,?_⟩
  have cc3:=r_sameall (nth a j).o (nth b j).o hX.1
  rw [decide_eq_true c4] at cc3
  refine call_same (cc3) (by simp [go_sem,List.length_map,ftC_e,imC_e,cdC_e,tbC_e,lmC_e,gdC_e,exC_e,daC_e,cuC_e,elC_e,inL_e,insC]) ?_
  simp only [go_sem,List.length_map,ftC_e,imC_e,cdC_e,tbC_e,lmC_e,gdC_e,exC_e,daC_e,cuC_e,elC_e,inL_e,insC,decide_eq_true h1,bne_f c1,bne_f c2,bne_f c3,bne_f c5]
  have hi3:=hX.2.2
  have hi2:=hX.2.1
  refine loop_rule (fun q:Nat=>⟨[(8,.int .i64 q),(6,.mp 6 5 0 0),(7,.mp 7 5 0 0),(5,.int .i64 j),(0,.sl 5 (a.map elC)),(1,.sl 5 (b.map elC))],[(6,⟨90,5,[[.int .i64 (nth a j).mo,.int .i64 (nth a j).tb,.sl 9 ((nth a j).o.map insC),.int .i64 (nth a j).ty,.sl 1 ((nth a j).it.map inL_)]],true⟩),(7,⟨90,5,[[.int .i64 (nth b j).mo,.int .i64 (nth b j).tb,.sl 9 ((nth b j).o.map insC),.int .i64 (nth b j).ty,.sl 1 ((nth b j).it.map inL_)]],true⟩)]⟩) (fun q=>q ≤ (nth a j).it.length ∧ ∀ k,k < q → nth (nth a j).it k = nth (nth b j).it k) (fun q=>(nth a j).it.length - q) 0 ⟨Nat.zero_le _,fun k hk=>by omega⟩ (Wk.of ?_ ?_) ?_
  · simp only [go_sem,List.length_map,ftC_e,imC_e,cdC_e,tbC_e,lmC_e,gdC_e,exC_e,daC_e,cuC_e,elC_e,inL_e,insC]; try simp
  · simp only [go_sem,List.length_map,ftC_e,imC_e,cdC_e,tbC_e,lmC_e,gdC_e,exC_e,daC_e,cuC_e,elC_e,inL_e,insC]
  rintro q ⟨hq,hy⟩
  by_cases q1:(q:Int) < ((nth a j).it.length:Int)
  · have hq':q < (nth a j).it.length:=by omega
    have hqb:(q:Int) < ((nth b j).it.length:Int):=by omega
    have e9:=i_bd hq' (by omega)
    have hL:=at_in hi3 hq'
    have cd:=r_sameall (nth (nth a j).it q) (nth (nth b j).it q) hL
    by_cases q2:nth (nth a j).it q = nth (nth b j).it q
    · rw [decide_eq_true q2] at cd
      simp only [go_sem,List.length_map,ftC_e,imC_e,cdC_e,tbC_e,lmC_e,gdC_e,exC_e,daC_e,cuC_e,elC_e,inL_e,insC,decide_eq_true q1]
      refine ⟨by omega,q1,by omega,hqb,?_⟩
      refine call_same (cd) (by simp [go_sem,List.length_map,ftC_e,imC_e,cdC_e,tbC_e,lmC_e,gdC_e,exC_e,daC_e,cuC_e,elC_e,inL_e,insC]) ?_
      simp only [go_sem,List.length_map,ftC_e,imC_e,cdC_e,tbC_e,lmC_e,gdC_e,exC_e,daC_e,cuC_e,elC_e,inL_e,insC]
      refine klp_n (q + 1) ⟨show q + 1 ≤ (nth a j).it.length by omega,fun k hk=>?_⟩ (show (nth a j).it.length - (q + 1) < (nth a j).it.length - q by omega) (Wk.of ?_ ?_)
      · rcases Nat.lt_or_ge k q with h | h
        · exact hy k h
        · rw [show k = q by omega]; exact q2
      · simp only [go_sem,List.length_map,ftC_e,imC_e,cdC_e,tbC_e,lmC_e,gdC_e,exC_e,daC_e,cuC_e,elC_e,inL_e,insC,e9]; try simp
      · simp only [go_sem,List.length_map,ftC_e,imC_e,cdC_e,tbC_e,lmC_e,gdC_e,exC_e,daC_e,cuC_e,elC_e,inL_e,insC]
    · rw [decide_eq_false q2] at cd
      rw [neq (fun e=>q2 (by rw [e]))]
      simp only [go_sem,List.length_map,ftC_e,imC_e,cdC_e,tbC_e,lmC_e,gdC_e,exC_e,daC_e,cuC_e,elC_e,inL_e,insC,decide_eq_true q1]
      refine ⟨by omega,q1,by omega,hqb,?_⟩
      refine call_same (cd) (by simp [go_sem,List.length_map,ftC_e,imC_e,cdC_e,tbC_e,lmC_e,gdC_e,exC_e,daC_e,cuC_e,elC_e,inL_e,insC]) ?_
      simp only [go_sem,List.length_map,ftC_e,imC_e,cdC_e,tbC_e,lmC_e,gdC_e,exC_e,daC_e,cuC_e,elC_e,inL_e,insC]
      exact pdone [] (by simp only [go_sem,List.length_map,ftC_e,imC_e,cdC_e,tbC_e,lmC_e,gdC_e,exC_e,daC_e,cuC_e,elC_e,inL_e,insC]) (by first | rfl | simp [go_sem,slv_ids,List.length_map,ftC_e,imC_e,cdC_e,tbC_e,lmC_e,gdC_e,exC_e,daC_e,cuC_e,elC_e,inL_e,insC])
  have c6:(nth a j).it = (nth b j).it:=ext_nt (by omega) fun k hk=>hy k (by omega)
  have h2:nth a j = nth b j:=by
    generalize nth a j = X at *
    generalize nth b j = Y at *
    obtain ⟨x1,x2,x3,x4,x5⟩:=X
    obtain ⟨y1,y2,y3,y4,y5⟩:=Y
    simp only at c1 c2 c3 c4 c6
    simp only [c1,c2,c3,c4,c6]
  simp only [go_sem,List.length_map,ftC_e,imC_e,cdC_e,tbC_e,lmC_e,gdC_e,exC_e,daC_e,cuC_e,elC_e,inL_e,insC,decide_eq_false q1]
  refine klp_n (j + 1) ⟨show j + 1 ≤ a.length by omega,fun k hk=>?_⟩ (show a.length - (j + 1) < a.length - j by omega) (Wk.of ?_ ?_)
  · rcases Nat.lt_or_ge k j with h | h
    · exact hx k h
    · rw [show k = j by omega]; exact h2
  · simp only [go_sem,List.length_map,ftC_e,imC_e,cdC_e,tbC_e,lmC_e,gdC_e,exC_e,daC_e,cuC_e,elC_e,inL_e,insC,e8]; try simp
  · simp only [go_sem,List.length_map,ftC_e,imC_e,cdC_e,tbC_e,lmC_e,gdC_e,exC_e,daC_e,cuC_e,elC_e,inL_e,insC]
end Go.Proofs.YtoikbadfbneahaaGreatDoor
