/-
  Chapter 7,walks: the reference's Same of the parts of modules,more (printed by tools/gm3.py).
-/
import Derived.Test.YtoikbadfbneahaaGreatDoorQ0
import Derived.Test.YtoikbadfbneahaaGreatDoorQe
set_option linter.unusedVariables false
set_option linter.unusedSimpArgs false
set_option linter.unusedSectionVars false
set_option maxRecDepth 100000
set_option maxHeartbeats 40000000
set_option linter.unusedVariables false
set_option linter.unusedSimpArgs false
namespace Go.Proofs.YtoikbadfbneahaaGreatDoor
open Go Go.Mw
-- @U: List.length_map,ftC_e,imC_e,cdC_e,tbC_e,lmC_e,gdC_e,exC_e,daC_e,cuC_e,insC

theorem bsf {x y:List UInt8} (h:x = y):(x == y) = true:=by simpa using h
theorem bst {x y:List UInt8} (h:¬ x = y):(x == y) = false:=by simpa using h
theorem r_codes (a b:List Cd) (ha:a.length ≤ 1048576 ∧ ∀ x ∈ a,smCd x):PCalls Tryz.prog nX46 [.sl 3 (a.map cdC),.sl 3 (b.map cdC)] (.bool (decide (a = b))):=by
  refine pfun_sound (ic:=FX46.body) mixed cX46 rfl rfl ?_
  by_cases hl:(a.length:Int) = (b.length:Int)
  rotate_left
  · rw [decide_eq_false (fun h=>hl (by rw [h]))]
    simp only [go_sem,List.length_map,ftC_e,imC_e,cdC_e,tbC_e,lmC_e,gdC_e,exC_e,daC_e,cuC_e,insC,FX46,bne_t hl]
    exact pdone [] (by simp only [go_sem,List.length_map,ftC_e,imC_e,cdC_e,tbC_e,lmC_e,gdC_e,exC_e,daC_e,cuC_e,insC]) (by first | rfl | simp [go_sem,slv_ids,List.length_map,ftC_e,imC_e,cdC_e,tbC_e,lmC_e,gdC_e,exC_e,daC_e,cuC_e,insC])
  simp only [go_sem,List.length_map,ftC_e,imC_e,cdC_e,tbC_e,lmC_e,gdC_e,exC_e,daC_e,cuC_e,insC,FX46,bne_f hl]
  refine loop_rule (fun j:Nat=>⟨[(5,.int .i64 j),(0,.sl 3 (a.map cdC)),(1,.sl 3 (b.map cdC))],[]⟩) (fun j=>j ≤ a.length ∧ ∀ k,k < j → nth a k = nth b k) (fun j=>a.length - j) 0 ⟨Nat.zero_le _,fun k hk=>by omega⟩ (Wk.of ?_ ?_) ?_
  · simp only [go_sem,List.length_map,ftC_e,imC_e,cdC_e,tbC_e,lmC_e,gdC_e,exC_e,daC_e,cuC_e,insC]; try simp
  · simp only [go_sem,List.length_map,ftC_e,imC_e,cdC_e,tbC_e,lmC_e,gdC_e,exC_e,daC_e,cuC_e,insC]
  rintro j ⟨hj,hx⟩
  by_cases h1:(j:Int) < (a.length:Int)
  rotate_left
  · rw [decide_eq_true (ext_nt (by omega) fun k hk=>hx k (by omega))]
    simp only [go_sem,List.length_map,ftC_e,imC_e,cdC_e,tbC_e,lmC_e,gdC_e,exC_e,daC_e,cuC_e,insC,decide_eq_false h1]
    exact pdone [] (by simp only [go_sem,List.length_map,ftC_e,imC_e,cdC_e,tbC_e,lmC_e,gdC_e,exC_e,daC_e,cuC_e,insC]) (by first | rfl | simp [go_sem,slv_ids,List.length_map,ftC_e,imC_e,cdC_e,tbC_e,lmC_e,gdC_e,exC_e,daC_e,cuC_e,insC])
  have hj':j < a.length:=by omega
  have hjb:(j:Int) < (b.length:Int):=by omega
  have e8:=i_bd hj' (by omega)
  obtain ⟨ha,hs⟩:=ha
  have hX:=at_in hs hj'
  clear hs
  have neq:nth a j ≠ nth b j → decide (a = b) = false:=fun h=>decide_eq_false (fun e=>h (by rw [e]))
  by_cases c1:(nth a j).t = (nth b j).t
  rotate_left
  · rw [neq (fun e=>c1 (by rw [e]))]
    simp only [go_sem,List.length_map,ftC_e,imC_e,cdC_e,tbC_e,lmC_e,gdC_e,exC_e,daC_e,cuC_e,insC,decide_eq_true h1,bne_t c1]
    refine ⟨by omega,h1,by omega,hjb,?_⟩
    exact pdone [] (by simp only [go_sem,List.length_map,ftC_e,imC_e,cdC_e,tbC_e,lmC_e,gdC_e,exC_e,daC_e,cuC_e,insC]) (by first | rfl | simp [go_sem,slv_ids,List.length_map,ftC_e,imC_e,cdC_e,tbC_e,lmC_e,gdC_e,exC_e,daC_e,cuC_e,insC])
  by_cases c2:(nth a j).lo = (nth b j).lo
  rotate_left
  · rw [neq (fun e=>c2 (by rw [e]))]
    simp only [go_sem,List.length_map,ftC_e,imC_e,cdC_e,tbC_e,lmC_e,gdC_e,exC_e,daC_e,cuC_e,insC,decide_eq_true h1,bne_f c1]
    refine ⟨by omega,h1,by omega,hjb,?_⟩
    refine ⟨by omega,h1,by omega,hjb,?_⟩
    have cc1:=r_vals (nth a j).lo (nth b j).lo hX.1
    rw [decide_eq_false c2] at cc1
    refine call_same (cc1) (by simp [go_sem,List.length_map,ftC_e,imC_e,cdC_e,tbC_e,lmC_e,gdC_e,exC_e,daC_e,cuC_e,insC]) ?_
    simp only [go_sem,List.length_map,ftC_e,imC_e,cdC_e,tbC_e,lmC_e,gdC_e,exC_e,daC_e,cuC_e,insC,decide_eq_true h1,bne_f c1]
    exact pdone [] (by simp only [go_sem,List.length_map,ftC_e,imC_e,cdC_e,tbC_e,lmC_e,gdC_e,exC_e,daC_e,cuC_e,insC]) (by first | rfl | simp [go_sem,slv_ids,List.length_map,ftC_e,imC_e,cdC_e,tbC_e,lmC_e,gdC_e,exC_e,daC_e,cuC_e,insC])
  by_cases c3:(nth a j).b = (nth b j).b
  rotate_left
  · rw [neq (fun e=>c3 (by rw [e]))]
    simp only [go_sem,List.length_map,ftC_e,imC_e,cdC_e,tbC_e,lmC_e,gdC_e,exC_e,daC_e,cuC_e,insC,decide_eq_true h1,bne_f c1]
    refine ⟨by omega,h1,by omega,hjb,?_⟩
    refine ⟨by omega,h1,by omega,hjb,?_⟩
    have cc1:=r_vals (nth a j).lo (nth b j).lo hX.1
    rw [decide_eq_true c2] at cc1
    refine call_same (cc1) (by simp [go_sem,List.length_map,ftC_e,imC_e,cdC_e,tbC_e,lmC_e,gdC_e,exC_e,daC_e,cuC_e,insC]) ?_
    simp only [go_sem,List.length_map,ftC_e,imC_e,cdC_e,tbC_e,lmC_e,gdC_e,exC_e,daC_e,cuC_e,insC,decide_eq_true h1,bne_f c1]
    refine ⟨by omega,h1,by omega,hjb,?_⟩
    have cc2:=r_sameall (nth a j).b (nth b j).b hX.2
    rw [decide_eq_false c3] at cc2
    refine call_same (cc2) (by simp [go_sem,List.length_map,ftC_e,imC_e,cdC_e,tbC_e,lmC_e,gdC_e,exC_e,daC_e,cuC_e,insC]) ?_
    simp only [go_sem,List.length_map,ftC_e,imC_e,cdC_e,tbC_e,lmC_e,gdC_e,exC_e,daC_e,cuC_e,insC,decide_eq_true h1,bne_f c1]
    exact pdone [] (by simp only [go_sem,List.length_map,ftC_e,imC_e,cdC_e,tbC_e,lmC_e,gdC_e,exC_e,daC_e,cuC_e,insC]) (by first | rfl | simp [go_sem,slv_ids,List.length_map,ftC_e,imC_e,cdC_e,tbC_e,lmC_e,gdC_e,exC_e,daC_e,cuC_e,insC])
  have h2:nth a j = nth b j:=by
    generalize nth a j = X at *
    generalize nth b j = Y at *
    obtain ⟨x0,x1,x2⟩:=X
    obtain ⟨y0,y1,y2⟩:=Y
    simp only at c1 c2 c3
    simp only [c1,c2,c3]
  simp only [go_sem,List.length_map,ftC_e,imC_e,cdC_e,tbC_e,lmC_e,gdC_e,exC_e,daC_e,cuC_e,insC,decide_eq_true h1,bne_f c1]
  refine ⟨by omega,h1,by omega,hjb,?_⟩
  refine ⟨by omega,h1,by omega,hjb,?_⟩
  have cc1:=r_vals (nth a j).lo (nth b j).lo hX.1
  rw [decide_eq_true c2] at cc1
  refine call_same (cc1) (by simp [go_sem,List.length_map,ftC_e,imC_e,cdC_e,tbC_e,lmC_e,gdC_e,exC_e,daC_e,cuC_e,insC]) ?_
  simp only [go_sem,List.length_map,ftC_e,imC_e,cdC_e,tbC_e,lmC_e,gdC_e,exC_e,daC_e,cuC_e,insC,decide_eq_true h1,bne_f c1]
  refine ⟨by omega,h1,by omega,hjb,?_⟩
  have cc2:=r_sameall (nth a j).b (nth b j).b hX.2
  rw [decide_eq_true c3] at cc2
  refine call_same (cc2) (by simp [go_sem,List.length_map,ftC_e,imC_e,cdC_e,tbC_e,lmC_e,gdC_e,exC_e,daC_e,cuC_e,insC]) ?_
  simp only [go_sem,List.length_map,ftC_e,imC_e,cdC_e,tbC_e,lmC_e,gdC_e,exC_e,daC_e,cuC_e,insC,decide_eq_true h1,bne_f c1]
  refine klp_n (j + 1) ⟨show j + 1 ≤ a.length by omega,fun k hk=>?_⟩ (show a.length - (j + 1) < a.length - j by omega) (Wk.of ?_ ?_)
  · rcases Nat.lt_or_ge k j with h | h
    · exact hx k h
    · rw [show k = j by omega]; exact h2
  · simp only [go_sem,List.length_map,ftC_e,imC_e,cdC_e,tbC_e,lmC_e,gdC_e,exC_e,daC_e,cuC_e,insC,e8]; try simp
  · simp only [go_sem,List.length_map,ftC_e,imC_e,cdC_e,tbC_e,lmC_e,gdC_e,exC_e,daC_e,cuC_e,insC]
theorem r_globs (a b:List Gd) (ha:a.length ≤ 1048576 ∧ ∀ x ∈ a,smGd x):PCalls Tryz.prog nX40 [.sl 3 (a.map gdC),.sl 3 (b.map gdC)] (.bool (decide (a = b))):=by
  refine pfun_sound (ic:=FX40.body) mixed cX40 rfl rfl ?_
  by_cases hl:(a.length:Int) = (b.length:Int)
  rotate_left
  · rw [decide_eq_false (fun h=>hl (by rw [h]))]
    simp only [go_sem,List.length_map,ftC_e,imC_e,cdC_e,tbC_e,lmC_e,gdC_e,exC_e,daC_e,cuC_e,insC,FX40,bne_t hl]
    exact pdone [] (by simp only [go_sem,List.length_map,ftC_e,imC_e,cdC_e,tbC_e,lmC_e,gdC_e,exC_e,daC_e,cuC_e,insC]) (by first | rfl | simp [go_sem,slv_ids,List.length_map,ftC_e,imC_e,cdC_e,tbC_e,lmC_e,gdC_e,exC_e,daC_e,cuC_e,insC])
  simp only [go_sem,List.length_map,ftC_e,imC_e,cdC_e,tbC_e,lmC_e,gdC_e,exC_e,daC_e,cuC_e,insC,FX40,bne_f hl]
  refine loop_rule (fun j:Nat=>⟨[(5,.int .i64 j),(0,.sl 3 (a.map gdC)),(1,.sl 3 (b.map gdC))],[]⟩) (fun j=>j ≤ a.length ∧ ∀ k,k < j → nth a k = nth b k) (fun j=>a.length - j) 0 ⟨Nat.zero_le _,fun k hk=>by omega⟩ (Wk.of ?_ ?_) ?_
  · simp only [go_sem,List.length_map,ftC_e,imC_e,cdC_e,tbC_e,lmC_e,gdC_e,exC_e,daC_e,cuC_e,insC]; try simp
  · simp only [go_sem,List.length_map,ftC_e,imC_e,cdC_e,tbC_e,lmC_e,gdC_e,exC_e,daC_e,cuC_e,insC]
  rintro j ⟨hj,hx⟩
  by_cases h1:(j:Int) < (a.length:Int)
  rotate_left
  · rw [decide_eq_true (ext_nt (by omega) fun k hk=>hx k (by omega))]
    simp only [go_sem,List.length_map,ftC_e,imC_e,cdC_e,tbC_e,lmC_e,gdC_e,exC_e,daC_e,cuC_e,insC,decide_eq_false h1]
    exact pdone [] (by simp only [go_sem,List.length_map,ftC_e,imC_e,cdC_e,tbC_e,lmC_e,gdC_e,exC_e,daC_e,cuC_e,insC]) (by first | rfl | simp [go_sem,slv_ids,List.length_map,ftC_e,imC_e,cdC_e,tbC_e,lmC_e,gdC_e,exC_e,daC_e,cuC_e,insC])
  have hj':j < a.length:=by omega
  have hjb:(j:Int) < (b.length:Int):=by omega
  have e8:=i_bd hj' (by omega)
  obtain ⟨ha,hs⟩:=ha
  have hX:=at_in hs hj'
  clear hs
  have neq:nth a j ≠ nth b j → decide (a = b) = false:=fun h=>decide_eq_false (fun e=>h (by rw [e]))
  by_cases c1:(nth a j).g = (nth b j).g
  rotate_left
  · rw [neq (fun e=>c1 (by rw [e]))]
    simp only [go_sem,List.length_map,ftC_e,imC_e,cdC_e,tbC_e,lmC_e,gdC_e,exC_e,daC_e,cuC_e,insC,decide_eq_true h1,gl_eq,decide_eq_false c1,Bool.not_true,Bool.not_false]
    refine ⟨by omega,h1,by omega,hjb,?_⟩
    exact pdone [] (by simp only [go_sem,List.length_map,ftC_e,imC_e,cdC_e,tbC_e,lmC_e,gdC_e,exC_e,daC_e,cuC_e,insC]) (by first | rfl | simp [go_sem,slv_ids,List.length_map,ftC_e,imC_e,cdC_e,tbC_e,lmC_e,gdC_e,exC_e,daC_e,cuC_e,insC])
  by_cases c2:(nth a j).i = (nth b j).i
  rotate_left
  · rw [neq (fun e=>c2 (by rw [e]))]
    simp only [go_sem,List.length_map,ftC_e,imC_e,cdC_e,tbC_e,lmC_e,gdC_e,exC_e,daC_e,cuC_e,insC,decide_eq_true h1,gl_eq,decide_eq_true c1,Bool.not_true,Bool.not_false]
    refine ⟨by omega,h1,by omega,hjb,?_⟩
    refine ⟨by omega,h1,by omega,hjb,?_⟩
    have cc1:=r_sameall (nth a j).i (nth b j).i hX
    rw [decide_eq_false c2] at cc1
    refine call_same (cc1) (by simp [go_sem,List.length_map,ftC_e,imC_e,cdC_e,tbC_e,lmC_e,gdC_e,exC_e,daC_e,cuC_e,insC]) ?_
    simp only [go_sem,List.length_map,ftC_e,imC_e,cdC_e,tbC_e,lmC_e,gdC_e,exC_e,daC_e,cuC_e,insC,decide_eq_true h1,gl_eq,decide_eq_true c1,Bool.not_true,Bool.not_false]
    exact pdone [] (by simp only [go_sem,List.length_map,ftC_e,imC_e,cdC_e,tbC_e,lmC_e,gdC_e,exC_e,daC_e,cuC_e,insC]) (by first | rfl | simp [go_sem,slv_ids,List.length_map,ftC_e,imC_e,cdC_e,tbC_e,lmC_e,gdC_e,exC_e,daC_e,cuC_e,insC])
  have h2:nth a j = nth b j:=by
    generalize nth a j = X at *
    generalize nth b j = Y at *
    obtain ⟨x0,x1⟩:=X
    obtain ⟨y0,y1⟩:=Y
    simp only at c1 c2
    simp only [c1,c2]
  simp only [go_sem,List.length_map,ftC_e,imC_e,cdC_e,tbC_e,lmC_e,gdC_e,exC_e,daC_e,cuC_e,insC,decide_eq_true h1,gl_eq,decide_eq_true c1,Bool.not_true,Bool.not_false]
  refine ⟨by omega,h1,by omega,hjb,?_⟩
  refine ⟨by omega,h1,by omega,hjb,?_⟩
  have cc1:=r_sameall (nth a j).i (nth b j).i hX
  rw [decide_eq_true c2] at cc1
  refine call_same (cc1) (by simp [go_sem,List.length_map,ftC_e,imC_e,cdC_e,tbC_e,lmC_e,gdC_e,exC_e,daC_e,cuC_e,insC]) ?_
  simp only [go_sem,List.length_map,ftC_e,imC_e,cdC_e,tbC_e,lmC_e,gdC_e,exC_e,daC_e,cuC_e,insC,decide_eq_true h1,gl_eq,decide_eq_true c1,Bool.not_true,Bool.not_false]
  refine klp_n (j + 1) ⟨show j + 1 ≤ a.length by omega,fun k hk=>?_⟩ (show a.length - (j + 1) < a.length - j by omega) (Wk.of ?_ ?_)
  · rcases Nat.lt_or_ge k j with h | h
    · exact hx k h
    · rw [show k = j by omega]; exact h2
  · simp only [go_sem,List.length_map,ftC_e,imC_e,cdC_e,tbC_e,lmC_e,gdC_e,exC_e,daC_e,cuC_e,insC,e8]; try simp
  · simp only [go_sem,List.length_map,ftC_e,imC_e,cdC_e,tbC_e,lmC_e,gdC_e,exC_e,daC_e,cuC_e,insC]
theorem r_custs (a b:List Cu) (ha:a.length ≤ 1048576):PCalls Tryz.prog nX38 [.sl 3 (a.map cuC),.sl 3 (b.map cuC)] (.bool (decide (a = b))):=by
  refine pfun_sound (ic:=FX38.body) mixed cX38 rfl rfl ?_
  by_cases hl:(a.length:Int) = (b.length:Int)
  rotate_left
  · rw [decide_eq_false (fun h=>hl (by rw [h]))]
    simp only [go_sem,List.length_map,ftC_e,imC_e,cdC_e,tbC_e,lmC_e,gdC_e,exC_e,daC_e,cuC_e,insC,FX38,bne_t hl]
    exact pdone [] (by simp only [go_sem,List.length_map,ftC_e,imC_e,cdC_e,tbC_e,lmC_e,gdC_e,exC_e,daC_e,cuC_e,insC]) (by first | rfl | simp [go_sem,slv_ids,List.length_map,ftC_e,imC_e,cdC_e,tbC_e,lmC_e,gdC_e,exC_e,daC_e,cuC_e,insC])
  simp only [go_sem,List.length_map,ftC_e,imC_e,cdC_e,tbC_e,lmC_e,gdC_e,exC_e,daC_e,cuC_e,insC,FX38,bne_f hl]
  refine loop_rule (fun j:Nat=>⟨[(5,.int .i64 j),(0,.sl 3 (a.map cuC)),(1,.sl 3 (b.map cuC))],[]⟩) (fun j=>j ≤ a.length ∧ ∀ k,k < j → nth a k = nth b k) (fun j=>a.length - j) 0 ⟨Nat.zero_le _,fun k hk=>by omega⟩ (Wk.of ?_ ?_) ?_
  · simp only [go_sem,List.length_map,ftC_e,imC_e,cdC_e,tbC_e,lmC_e,gdC_e,exC_e,daC_e,cuC_e,insC]; try simp
  · simp only [go_sem,List.length_map,ftC_e,imC_e,cdC_e,tbC_e,lmC_e,gdC_e,exC_e,daC_e,cuC_e,insC]
  rintro j ⟨hj,hx⟩
  by_cases h1:(j:Int) < (a.length:Int)
  rotate_left
  · rw [decide_eq_true (ext_nt (by omega) fun k hk=>hx k (by omega))]
    simp only [go_sem,List.length_map,ftC_e,imC_e,cdC_e,tbC_e,lmC_e,gdC_e,exC_e,daC_e,cuC_e,insC,decide_eq_false h1]
    exact pdone [] (by simp only [go_sem,List.length_map,ftC_e,imC_e,cdC_e,tbC_e,lmC_e,gdC_e,exC_e,daC_e,cuC_e,insC]) (by first | rfl | simp [go_sem,slv_ids,List.length_map,ftC_e,imC_e,cdC_e,tbC_e,lmC_e,gdC_e,exC_e,daC_e,cuC_e,insC])
  have hj':j < a.length:=by omega
  have hjb:(j:Int) < (b.length:Int):=by omega
  have e8:=i_bd hj' (by omega)
  have neq:nth a j ≠ nth b j → decide (a = b) = false:=fun h=>decide_eq_false (fun e=>h (by rw [e]))
  by_cases c1:(nth a j).af = (nth b j).af
  rotate_left
  · rw [neq (fun e=>c1 (by rw [e]))]
    simp only [go_sem,List.length_map,ftC_e,imC_e,cdC_e,tbC_e,lmC_e,gdC_e,exC_e,daC_e,cuC_e,insC,decide_eq_true h1,bne_t c1]
    refine ⟨by omega,h1,by omega,hjb,?_⟩
    exact pdone [] (by simp only [go_sem,List.length_map,ftC_e,imC_e,cdC_e,tbC_e,lmC_e,gdC_e,exC_e,daC_e,cuC_e,insC]) (by first | rfl | simp [go_sem,slv_ids,List.length_map,ftC_e,imC_e,cdC_e,tbC_e,lmC_e,gdC_e,exC_e,daC_e,cuC_e,insC])
  by_cases c2:(nth a j).n = (nth b j).n
  rotate_left
  · rw [neq (fun e=>c2 (by rw [e]))]
    simp only [go_sem,List.length_map,ftC_e,imC_e,cdC_e,tbC_e,lmC_e,gdC_e,exC_e,daC_e,cuC_e,insC,decide_eq_true h1,bne_f c1,bst c2,Bool.not_true,Bool.not_false]
    refine ⟨by omega,h1,by omega,hjb,?_⟩
    refine ⟨by omega,h1,by omega,hjb,?_⟩
    exact pdone [] (by simp only [go_sem,List.length_map,ftC_e,imC_e,cdC_e,tbC_e,lmC_e,gdC_e,exC_e,daC_e,cuC_e,insC]) (by first | rfl | simp [go_sem,slv_ids,List.length_map,ftC_e,imC_e,cdC_e,tbC_e,lmC_e,gdC_e,exC_e,daC_e,cuC_e,insC])
  by_cases c3:(nth a j).b = (nth b j).b
  rotate_left
  · rw [neq (fun e=>c3 (by rw [e]))]
    simp only [go_sem,List.length_map,ftC_e,imC_e,cdC_e,tbC_e,lmC_e,gdC_e,exC_e,daC_e,cuC_e,insC,decide_eq_true h1,bne_f c1,bsf c2,Bool.not_true,Bool.not_false,bytes_by,Option.map_some,bst c3,Bool.not_true,Bool.not_false]
    refine ⟨by omega,h1,by omega,hjb,?_⟩
    refine ⟨by omega,h1,by omega,hjb,?_⟩
    refine ⟨by omega,h1,by omega,hjb,?_⟩
    exact pdone [] (by simp only [go_sem,List.length_map,ftC_e,imC_e,cdC_e,tbC_e,lmC_e,gdC_e,exC_e,daC_e,cuC_e,insC]) (by first | rfl | simp [go_sem,slv_ids,List.length_map,ftC_e,imC_e,cdC_e,tbC_e,lmC_e,gdC_e,exC_e,daC_e,cuC_e,insC])
  have h2:nth a j = nth b j:=by
    generalize nth a j = X at *
    generalize nth b j = Y at *
    obtain ⟨x0,x1,x2⟩:=X
    obtain ⟨y0,y1,y2⟩:=Y
    simp only at c1 c2 c3
    simp only [c1,c2,c3]
  simp only [go_sem,List.length_map,ftC_e,imC_e,cdC_e,tbC_e,lmC_e,gdC_e,exC_e,daC_e,cuC_e,insC,decide_eq_true h1,bne_f c1,bsf c2,Bool.not_true,Bool.not_false,bytes_by,Option.map_some,bsf c3,Bool.not_true,Bool.not_false]
  refine ⟨by omega,h1,by omega,hjb,?_⟩
  refine ⟨by omega,h1,by omega,hjb,?_⟩
  refine ⟨by omega,h1,by omega,hjb,?_⟩
  refine klp_n (j + 1) ⟨show j + 1 ≤ a.length by omega,fun k hk=>?_⟩ (show a.length - (j + 1) < a.length - j by omega) (Wk.of ?_ ?_)
  · rcases Nat.lt_or_ge k j with h | h
    · exact hx k h
    · rw [show k = j by omega]; exact h2
  · simp only [go_sem,List.length_map,ftC_e,imC_e,cdC_e,tbC_e,lmC_e,gdC_e,exC_e,daC_e,cuC_e,insC,e8]; try simp
  · simp only [go_sem,List.length_map,ftC_e,imC_e,cdC_e,tbC_e,lmC_e,gdC_e,exC_e,daC_e,cuC_e,insC]
end Go.Proofs.YtoikbadfbneahaaGreatDoor
