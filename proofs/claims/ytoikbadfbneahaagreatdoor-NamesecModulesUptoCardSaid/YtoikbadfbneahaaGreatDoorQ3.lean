/-
  Chapter 7,walks: the reference's Same of modules (printed by tools/gm7.py).
-/
import Derived.Test.YtoikbadfbneahaaGreatDoorQ2
set_option linter.unusedVariables false
set_option linter.unusedSimpArgs false
set_option linter.unusedSectionVars false
set_option maxRecDepth 100000
set_option maxHeartbeats 40000000
set_option linter.unusedVariables false
set_option linter.unusedSimpArgs false
namespace Go.Proofs.YtoikbadfbneahaaGreatDoor
open Go Go.Mw
-- @U: List.length_map,mdC_e,tbC_e,lmC_e

def SameP (a b:Md):Prop:=a.hs = b.hs ∧ (a.hs = true → a.st = b.st) ∧ a.ts = b.ts ∧ a.ims = b.ims ∧ a.fs = b.fs ∧ (a.tbs = b.tbs ∧ a.ms = b.ms) ∧ a.gs = b.gs ∧ a.exs = b.exs ∧ a.els = b.els ∧ a.ds = b.ds ∧ a.cs = b.cs
instance (a b:Md):Decidable (SameP a b):=by unfold SameP; exact inferInstance
theorem SameP_refl (a:Md):SameP a a:=⟨rfl,fun _=>rfl,rfl,rfl,rfl,⟨rfl,rfl⟩,rfl,rfl,rfl,rfl,rfl⟩
theorem r_sizes (a b:Md) (ha:a.tbs.length ≤ 1048576) (hb:a.ms.length ≤ 1048576):PCalls Tryz.prog nX45 [md_ a,md_ b] (.bool (decide (a.tbs = b.tbs ∧ a.ms = b.ms))):=by
  refine pfun_sound (ic:=FX45.body) mixed cX45 rfl rfl ?_
  by_cases l1:(a.tbs.length:Int) = (b.tbs.length:Int)
  rotate_left
  · rw [decide_eq_false (fun h=>l1 (by rw [h.1]))]
    simp only [go_sem,List.length_map,mdC_e,tbC_e,lmC_e,FX45,md_,bne_t l1]
    exact pdone [] (by simp only [go_sem,List.length_map,mdC_e,tbC_e,lmC_e]) (by first | rfl | simp [go_sem,slv_ids,List.length_map,mdC_e,tbC_e,lmC_e])
  by_cases l2:(a.ms.length:Int) = (b.ms.length:Int)
  rotate_left
  · rw [decide_eq_false (fun h=>l2 (by rw [h.2]))]
    simp only [go_sem,List.length_map,mdC_e,tbC_e,lmC_e,FX45,md_,bne_f l1,bne_t l2]
    exact pdone [] (by simp only [go_sem,List.length_map,mdC_e,tbC_e,lmC_e]) (by first | rfl | simp [go_sem,slv_ids,List.length_map,mdC_e,tbC_e,lmC_e])
  simp only [go_sem,List.length_map,mdC_e,tbC_e,lmC_e,FX45,md_,bne_f l1,bne_f l2]
  refine loop_rule (fun j:Nat=>⟨[(5,.int .i64 j),(2,.mp 2 12 0 0),(3,.mp 3 12 0 0)],[(2,⟨44,12,[mdC a],true⟩),(3,⟨44,12,[mdC b],true⟩)]⟩) (fun j=>j ≤ a.tbs.length ∧ ∀ k,k < j → nth a.tbs k = nth b.tbs k) (fun j=>a.tbs.length - j) 0 ⟨Nat.zero_le _,fun k hk=>by omega⟩ (Wk.of ?_ ?_) ?_
  · simp only [go_sem,List.length_map,mdC_e,tbC_e,lmC_e]; try simp
  · simp only [go_sem,List.length_map,mdC_e,tbC_e,lmC_e]
  rintro j ⟨hj,hx⟩
  by_cases h1:(j:Int) < (a.tbs.length:Int)
  · have hj':j < a.tbs.length:=by omega
    have hjb:(j:Int) < (b.tbs.length:Int):=by omega
    have e8:=i_bd hj' (by omega)
    by_cases h2:nth a.tbs j = nth b.tbs j
    · simp only [go_sem,List.length_map,mdC_e,tbC_e,lmC_e,decide_eq_true h1,tb_eq,decide_eq_true h2,Bool.not_true]
      refine ⟨by omega,h1,by omega,hjb,klp_n (j + 1) ⟨show j + 1 ≤ a.tbs.length by omega,fun k hk=>?_⟩ (show a.tbs.length - (j + 1) < a.tbs.length - j by omega) (Wk.of ?_ ?_)⟩
      · rcases Nat.lt_or_ge k j with h | h
        · exact hx k h
        · rw [show k = j by omega]; exact h2
      · simp only [go_sem,List.length_map,mdC_e,tbC_e,lmC_e,e8]; try simp
      · simp only [go_sem,List.length_map,mdC_e,tbC_e,lmC_e]
    · rw [decide_eq_false (fun e=>h2 (by rw [e.1]))]
      simp only [go_sem,List.length_map,mdC_e,tbC_e,lmC_e,decide_eq_true h1,tb_eq,decide_eq_false h2,Bool.not_false]
      refine ⟨by omega,h1,by omega,hjb,?_⟩
      exact pdone [] (by simp only [go_sem,List.length_map,mdC_e,tbC_e,lmC_e]) (by first | rfl | simp [go_sem,slv_ids,List.length_map,mdC_e,tbC_e,lmC_e])
  have g1:a.tbs = b.tbs:=ext_nt (by omega) fun k hk=>hx k (by omega)
  simp only [go_sem,List.length_map,mdC_e,tbC_e,lmC_e,decide_eq_false h1]
  clear hx h1 hj
  refine loop_rule (fun j:Nat=>⟨[(6,.int .i64 j),(2,.mp 2 12 0 0),(3,.mp 3 12 0 0)],[(2,⟨44,12,[mdC a],true⟩),(3,⟨44,12,[mdC b],true⟩)]⟩) (fun j=>j ≤ a.ms.length ∧ ∀ k,k < j → nth a.ms k = nth b.ms k) (fun j=>a.ms.length - j) 0 ⟨Nat.zero_le _,fun k hk=>by omega⟩ (Wk.of ?_ ?_) ?_
  · simp only [go_sem,List.length_map,mdC_e,tbC_e,lmC_e]; try simp
  · simp only [go_sem,List.length_map,mdC_e,tbC_e,lmC_e]
  rintro j ⟨hj,hx⟩
  by_cases h1:(j:Int) < (a.ms.length:Int)
  · have hj':j < a.ms.length:=by omega
    have hjb:(j:Int) < (b.ms.length:Int):=by omega
    have e8:=i_bd hj' (by omega)
    by_cases h2:nth a.ms j = nth b.ms j
    · simp only [go_sem,List.length_map,mdC_e,tbC_e,lmC_e,decide_eq_true h1,lm_eq,decide_eq_true h2,Bool.not_true]
      refine ⟨by omega,h1,by omega,hjb,klp_n (j + 1) ⟨show j + 1 ≤ a.ms.length by omega,fun k hk=>?_⟩ (show a.ms.length - (j + 1) < a.ms.length - j by omega) (Wk.of ?_ ?_)⟩
      · rcases Nat.lt_or_ge k j with h | h
        · exact hx k h
        · rw [show k = j by omega]; exact h2
      · simp only [go_sem,List.length_map,mdC_e,tbC_e,lmC_e,e8]; try simp
      · simp only [go_sem,List.length_map,mdC_e,tbC_e,lmC_e]
    · rw [decide_eq_false (fun e=>h2 (by rw [e.2]))]
      simp only [go_sem,List.length_map,mdC_e,tbC_e,lmC_e,decide_eq_true h1,lm_eq,decide_eq_false h2,Bool.not_false]
      refine ⟨by omega,h1,by omega,hjb,?_⟩
      exact pdone [] (by simp only [go_sem,List.length_map,mdC_e,tbC_e,lmC_e]) (by first | rfl | simp [go_sem,slv_ids,List.length_map,mdC_e,tbC_e,lmC_e])
  have g2:a.ms = b.ms:=ext_nt (by omega) fun k hk=>hx k (by omega)
  rw [decide_eq_true ⟨g1,g2⟩]
  simp only [go_sem,List.length_map,mdC_e,tbC_e,lmC_e,decide_eq_false h1]
  exact pdone [] (by simp only [go_sem,List.length_map,mdC_e,tbC_e,lmC_e]) (by first | rfl | simp [go_sem,slv_ids,List.length_map,mdC_e,tbC_e,lmC_e])
theorem r_same7 (a b:Md) (h:smM a):PCalls Tryz.prog nX107 [md_ a,md_ b] (.bool (decide (SameP a b))):=by
  refine pfun_sound (ic:=FX107.body) mixed cX107 rfl rfl ?_
  have d0:=r_types a.ts b.ts h.ts
  have d1:=r_imps a.ims b.ims h.ims
  have d2:=r_codes a.fs b.fs h.fs
  have d3:=r_sizes a b h.tbs h.ms
  have d4:=r_globs a.gs b.gs h.gs
  have d5:=r_exps a.exs b.exs h.exs
  have d6:=r_elems a.els b.els h.els
  have d7:=r_dats a.ds b.ds h.ds
  have d8:=r_custs a.cs b.cs h.cs.1
  simp only [md_,mdC_e] at d3
  by_cases e1:a.hs = b.hs
  rotate_left
  · rw [decide_eq_false (fun e:SameP a b=>e1 e.1)]
    cases ha:a.hs <;> cases hb:b.hs
    · exact absurd (ha.trans hb.symm) e1
    · simp only [go_sem,List.length_map,mdC_e,tbC_e,lmC_e,FX107,md_,ha,hb,show (false == true) = false from rfl,Bool.not_false,Bool.not_true]
      exact pdone [] (by simp only [go_sem,List.length_map,mdC_e,tbC_e,lmC_e]) (by first | rfl | simp [go_sem,slv_ids,List.length_map,mdC_e,tbC_e,lmC_e])
    · simp only [go_sem,List.length_map,mdC_e,tbC_e,lmC_e,FX107,md_,ha,hb,show (true == false) = false from rfl,Bool.not_false,Bool.not_true]
      exact pdone [] (by simp only [go_sem,List.length_map,mdC_e,tbC_e,lmC_e]) (by first | rfl | simp [go_sem,slv_ids,List.length_map,mdC_e,tbC_e,lmC_e])
    · exact absurd (ha.trans hb.symm) e1
  cases ha:a.hs
  · have hb:b.hs = false:=by rw [← e1]; exact ha
    rw [ha,hb] at d3
    by_cases c0:a.ts = b.ts
    rotate_left
    · rw [decide_eq_false c0] at d0
      rw [decide_eq_false (fun e:SameP a b=>c0 e.2.2.1)]
      simp only [go_sem,List.length_map,mdC_e,tbC_e,lmC_e,FX107,md_,ha,hb,show (false == false) = true from rfl,Bool.not_false,Bool.not_true]
      refine call_same (d0) (by simp [go_sem,List.length_map,mdC_e,tbC_e,lmC_e]) ?_
      simp only [go_sem,List.length_map,mdC_e,tbC_e,lmC_e]
      exact pdone [] (by simp only [go_sem,List.length_map,mdC_e,tbC_e,lmC_e]) (by first | rfl | simp [go_sem,slv_ids,List.length_map,mdC_e,tbC_e,lmC_e])
    rw [decide_eq_true c0] at d0
    by_cases c1:a.ims = b.ims
    rotate_left
    · rw [decide_eq_false c1] at d1
      rw [decide_eq_false (fun e:SameP a b=>c1 e.2.2.2.1)]
      simp only [go_sem,List.length_map,mdC_e,tbC_e,lmC_e,FX107,md_,ha,hb,show (false == false) = true from rfl,Bool.not_false,Bool.not_true]
      refine call_same (d0) (by simp [go_sem,List.length_map,mdC_e,tbC_e,lmC_e]) ?_
      simp only [go_sem,List.length_map,mdC_e,tbC_e,lmC_e]
      refine call_same (d1) (by simp [go_sem,List.length_map,mdC_e,tbC_e,lmC_e]) ?_
      simp only [go_sem,List.length_map,mdC_e,tbC_e,lmC_e]
      exact pdone [] (by simp only [go_sem,List.length_map,mdC_e,tbC_e,lmC_e]) (by first | rfl | simp [go_sem,slv_ids,List.length_map,mdC_e,tbC_e,lmC_e])
    rw [decide_eq_true c1] at d1
    by_cases c2:a.fs = b.fs
    rotate_left
    · rw [decide_eq_false c2] at d2
      rw [decide_eq_false (fun e:SameP a b=>c2 e.2.2.2.2.1)]
      simp only [go_sem,List.length_map,mdC_e,tbC_e,lmC_e,FX107,md_,ha,hb,show (false == false) = true from rfl,Bool.not_false,Bool.not_true]
      refine call_same (d0) (by simp [go_sem,List.length_map,mdC_e,tbC_e,lmC_e]) ?_
      simp only [go_sem,List.length_map,mdC_e,tbC_e,lmC_e]
      refine call_same (d1) (by simp [go_sem,List.length_map,mdC_e,tbC_e,lmC_e]) ?_
      simp only [go_sem,List.length_map,mdC_e,tbC_e,lmC_e]
      refine call_same (d2) (by simp [go_sem,List.length_map,mdC_e,tbC_e,lmC_e]) ?_
      simp only [go_sem,List.length_map,mdC_e,tbC_e,lmC_e]
      exact pdone [] (by simp only [go_sem,List.length_map,mdC_e,tbC_e,lmC_e]) (by first | rfl | simp [go_sem,slv_ids,List.length_map,mdC_e,tbC_e,lmC_e])
    rw [decide_eq_true c2] at d2
    by_cases c3:a.tbs = b.tbs ∧ a.ms = b.ms
    rotate_left
    · rw [decide_eq_false c3] at d3
      rw [decide_eq_false (fun e:SameP a b=>c3 e.2.2.2.2.2.1)]
      simp only [go_sem,List.length_map,mdC_e,tbC_e,lmC_e,FX107,md_,ha,hb,show (false == false) = true from rfl,Bool.not_false,Bool.not_true]
      refine call_same (d0) (by simp [go_sem,List.length_map,mdC_e,tbC_e,lmC_e]) ?_
      simp only [go_sem,List.length_map,mdC_e,tbC_e,lmC_e]
      refine call_same (d1) (by simp [go_sem,List.length_map,mdC_e,tbC_e,lmC_e]) ?_
      simp only [go_sem,List.length_map,mdC_e,tbC_e,lmC_e]
      refine call_same (d2) (by simp [go_sem,List.length_map,mdC_e,tbC_e,lmC_e]) ?_
      simp only [go_sem,List.length_map,mdC_e,tbC_e,lmC_e]
      refine call_same (d3) (by simp [go_sem,List.length_map,mdC_e,tbC_e,lmC_e]) ?_
      simp only [go_sem,List.length_map,mdC_e,tbC_e,lmC_e]
      exact pdone [] (by simp only [go_sem,List.length_map,mdC_e,tbC_e,lmC_e]) (by first | rfl | simp [go_sem,slv_ids,List.length_map,mdC_e,tbC_e,lmC_e])
    rw [decide_eq_true c3] at d3
    by_cases c4:a.gs = b.gs
    rotate_left
    · rw [decide_eq_false c4] at d4
      rw [decide_eq_false (fun e:SameP a b=>c4 e.2.2.2.2.2.2.1)]
      simp only [go_sem,List.length_map,mdC_e,tbC_e,lmC_e,FX107,md_,ha,hb,show (false == false) = true from rfl,Bool.not_false,Bool.not_true]
      refine call_same (d0) (by simp [go_sem,List.length_map,mdC_e,tbC_e,lmC_e]) ?_
      simp only [go_sem,List.length_map,mdC_e,tbC_e,lmC_e]
      refine call_same (d1) (by simp [go_sem,List.length_map,mdC_e,tbC_e,lmC_e]) ?_
      simp only [go_sem,List.length_map,mdC_e,tbC_e,lmC_e]
      refine call_same (d2) (by simp [go_sem,List.length_map,mdC_e,tbC_e,lmC_e]) ?_
      simp only [go_sem,List.length_map,mdC_e,tbC_e,lmC_e]
      refine call_same (d3) (by simp [go_sem,List.length_map,mdC_e,tbC_e,lmC_e]) ?_
      simp only [go_sem,List.length_map,mdC_e,tbC_e,lmC_e]
      refine call_same (d4) (by simp [go_sem,List.length_map,mdC_e,tbC_e,lmC_e]) ?_
      simp only [go_sem,List.length_map,mdC_e,tbC_e,lmC_e]
      exact pdone [] (by simp only [go_sem,List.length_map,mdC_e,tbC_e,lmC_e]) (by first | rfl | simp [go_sem,slv_ids,List.length_map,mdC_e,tbC_e,lmC_e])
    rw [decide_eq_true c4] at d4
    by_cases c5:a.exs = b.exs
    rotate_left
    · rw [decide_eq_false c5] at d5
      rw [decide_eq_false (fun e:SameP a b=>c5 e.2.2.2.2.2.2.2.1)]
      simp only [go_sem,List.length_map,mdC_e,tbC_e,lmC_e,FX107,md_,ha,hb,show (false == false) = true from rfl,Bool.not_false,Bool.not_true]
      refine call_same (d0) (by simp [go_sem,List.length_map,mdC_e,tbC_e,lmC_e]) ?_
      simp only [go_sem,List.length_map,mdC_e,tbC_e,lmC_e]
      refine call_same (d1) (by simp [go_sem,List.length_map,mdC_e,tbC_e,lmC_e]) ?_
      simp only [go_sem,List.length_map,mdC_e,tbC_e,lmC_e]
      refine call_same (d2) (by simp [go_sem,List.length_map,mdC_e,tbC_e,lmC_e]) ?_
      simp only [go_sem,List.length_map,mdC_e,tbC_e,lmC_e]
      refine call_same (d3) (by simp [go_sem,List.length_map,mdC_e,tbC_e,lmC_e]) ?_
      simp only [go_sem,List.length_map,mdC_e,tbC_e,lmC_e]
      refine call_same (d4) (by simp [go_sem,List.length_map,mdC_e,tbC_e,lmC_e]) ?_
      simp only [go_sem,List.length_map,mdC_e,tbC_e,lmC_e]
      refine call_same (d5) (by simp [go_sem,List.length_map,mdC_e,tbC_e,lmC_e]) ?_
      simp only [go_sem,List.length_map,mdC_e,tbC_e,lmC_e]
      exact pdone [] (by simp only [go_sem,List.length_map,mdC_e,tbC_e,lmC_e]) (by first | rfl | simp [go_sem,slv_ids,List.length_map,mdC_e,tbC_e,lmC_e])
    rw [decide_eq_true c5] at d5
    by_cases c6:a.els = b.els
    rotate_left
    · rw [decide_eq_false c6] at d6
      rw [decide_eq_false (fun e:SameP a b=>c6 e.2.2.2.2.2.2.2.2.1)]
      simp only [go_sem,List.length_map,mdC_e,tbC_e,lmC_e,FX107,md_,ha,hb,show (false == false) = true from rfl,Bool.not_false,Bool.not_true]
      refine call_same (d0) (by simp [go_sem,List.length_map,mdC_e,tbC_e,lmC_e]) ?_
      simp only [go_sem,List.length_map,mdC_e,tbC_e,lmC_e]
      refine call_same (d1) (by simp [go_sem,List.length_map,mdC_e,tbC_e,lmC_e]) ?_
      simp only [go_sem,List.length_map,mdC_e,tbC_e,lmC_e]
      refine call_same (d2) (by simp [go_sem,List.length_map,mdC_e,tbC_e,lmC_e]) ?_
      simp only [go_sem,List.length_map,mdC_e,tbC_e,lmC_e]
      refine call_same (d3) (by simp [go_sem,List.length_map,mdC_e,tbC_e,lmC_e]) ?_
      simp only [go_sem,List.length_map,mdC_e,tbC_e,lmC_e]
      refine call_same (d4) (by simp [go_sem,List.length_map,mdC_e,tbC_e,lmC_e]) ?_
      simp only [go_sem,List.length_map,mdC_e,tbC_e,lmC_e]
      refine call_same (d5) (by simp [go_sem,List.length_map,mdC_e,tbC_e,lmC_e]) ?_
      simp only [go_sem,List.length_map,mdC_e,tbC_e,lmC_e]
      refine call_same (d6) (by simp [go_sem,List.length_map,mdC_e,tbC_e,lmC_e]) ?_
      simp only [go_sem,List.length_map,mdC_e,tbC_e,lmC_e]
      exact pdone [] (by simp only [go_sem,List.length_map,mdC_e,tbC_e,lmC_e]) (by first | rfl | simp [go_sem,slv_ids,List.length_map,mdC_e,tbC_e,lmC_e])
    rw [decide_eq_true c6] at d6
    by_cases c7:a.ds = b.ds
    rotate_left
    · rw [decide_eq_false c7] at d7
      rw [decide_eq_false (fun e:SameP a b=>c7 e.2.2.2.2.2.2.2.2.2.1)]
      simp only [go_sem,List.length_map,mdC_e,tbC_e,lmC_e,FX107,md_,ha,hb,show (false == false) = true from rfl,Bool.not_false,Bool.not_true]
      refine call_same (d0) (by simp [go_sem,List.length_map,mdC_e,tbC_e,lmC_e]) ?_
      simp only [go_sem,List.length_map,mdC_e,tbC_e,lmC_e]
      refine call_same (d1) (by simp [go_sem,List.length_map,mdC_e,tbC_e,lmC_e]) ?_
      simp only [go_sem,List.length_map,mdC_e,tbC_e,lmC_e]
      refine call_same (d2) (by simp [go_sem,List.length_map,mdC_e,tbC_e,lmC_e]) ?_
      simp only [go_sem,List.length_map,mdC_e,tbC_e,lmC_e]
      refine call_same (d3) (by simp [go_sem,List.length_map,mdC_e,tbC_e,lmC_e]) ?_
      simp only [go_sem,List.length_map,mdC_e,tbC_e,lmC_e]
      refine call_same (d4) (by simp [go_sem,List.length_map,mdC_e,tbC_e,lmC_e]) ?_
      simp only [go_sem,List.length_map,mdC_e,tbC_e,lmC_e]
      refine call_same (d5) (by simp [go_sem,List.length_map,mdC_e,tbC_e,lmC_e]) ?_
      simp only [go_sem,List.length_map,mdC_e,tbC_e,lmC_e]
      refine call_same (d6) (by simp [go_sem,List.length_map,mdC_e,tbC_e,lmC_e]) ?_
      simp only [go_sem,List.length_map,mdC_e,tbC_e,lmC_e]
      refine call_same (d7) (by simp [go_sem,List.length_map,mdC_e,tbC_e,lmC_e]) ?_
      simp only [go_sem,List.length_map,mdC_e,tbC_e,lmC_e]
      exact pdone [] (by simp only [go_sem,List.length_map,mdC_e,tbC_e,lmC_e]) (by first | rfl | simp [go_sem,slv_ids,List.length_map,mdC_e,tbC_e,lmC_e])
    rw [decide_eq_true c7] at d7
    by_cases c8:a.cs = b.cs
    rotate_left
    · rw [decide_eq_false c8] at d8
      rw [decide_eq_false (fun e:SameP a b=>c8 e.2.2.2.2.2.2.2.2.2.2)]
      simp only [go_sem,List.length_map,mdC_e,tbC_e,lmC_e,FX107,md_,ha,hb,show (false == false) = true from rfl,Bool.not_false,Bool.not_true]
      refine call_same (d0) (by simp [go_sem,List.length_map,mdC_e,tbC_e,lmC_e]) ?_
      simp only [go_sem,List.length_map,mdC_e,tbC_e,lmC_e]
      refine call_same (d1) (by simp [go_sem,List.length_map,mdC_e,tbC_e,lmC_e]) ?_
      simp only [go_sem,List.length_map,mdC_e,tbC_e,lmC_e]
      refine call_same (d2) (by simp [go_sem,List.length_map,mdC_e,tbC_e,lmC_e]) ?_
      simp only [go_sem,List.length_map,mdC_e,tbC_e,lmC_e]
      refine call_same (d3) (by simp [go_sem,List.length_map,mdC_e,tbC_e,lmC_e]) ?_
      simp only [go_sem,List.length_map,mdC_e,tbC_e,lmC_e]
      refine call_same (d4) (by simp [go_sem,List.length_map,mdC_e,tbC_e,lmC_e]) ?_
      simp only [go_sem,List.length_map,mdC_e,tbC_e,lmC_e]
      refine call_same (d5) (by simp [go_sem,List.length_map,mdC_e,tbC_e,lmC_e]) ?_
      simp only [go_sem,List.length_map,mdC_e,tbC_e,lmC_e]
      refine call_same (d6) (by simp [go_sem,List.length_map,mdC_e,tbC_e,lmC_e]) ?_
      simp only [go_sem,List.length_map,mdC_e,tbC_e,lmC_e]
      refine call_same (d7) (by simp [go_sem,List.length_map,mdC_e,tbC_e,lmC_e]) ?_
      simp only [go_sem,List.length_map,mdC_e,tbC_e,lmC_e]
      refine call_same (d8) (by simp [go_sem,List.length_map,mdC_e,tbC_e,lmC_e]) ?_
      simp only [go_sem,List.length_map,mdC_e,tbC_e,lmC_e]
      exact pdone [] (by simp only [go_sem,List.length_map,mdC_e,tbC_e,lmC_e]) (by first | rfl | simp [go_sem,slv_ids,List.length_map,mdC_e,tbC_e,lmC_e])
    rw [decide_eq_true c8] at d8
    rw [decide_eq_true (show SameP a b from ⟨e1,fun q=>absurd (ha.symm.trans q) (by decide),c0,c1,c2,c3,c4,c5,c6,c7,c8⟩)]
    simp only [go_sem,List.length_map,mdC_e,tbC_e,lmC_e,FX107,md_,ha,hb,show (false == false) = true from rfl,Bool.not_false,Bool.not_true]
    refine call_same (d0) (by simp [go_sem,List.length_map,mdC_e,tbC_e,lmC_e]) ?_
    simp only [go_sem,List.length_map,mdC_e,tbC_e,lmC_e]
    refine call_same (d1) (by simp [go_sem,List.length_map,mdC_e,tbC_e,lmC_e]) ?_
    simp only [go_sem,List.length_map,mdC_e,tbC_e,lmC_e]
    refine call_same (d2) (by simp [go_sem,List.length_map,mdC_e,tbC_e,lmC_e]) ?_
    simp only [go_sem,List.length_map,mdC_e,tbC_e,lmC_e]
    refine call_same (d3) (by simp [go_sem,List.length_map,mdC_e,tbC_e,lmC_e]) ?_
    simp only [go_sem,List.length_map,mdC_e,tbC_e,lmC_e]
    refine call_same (d4) (by simp [go_sem,List.length_map,mdC_e,tbC_e,lmC_e]) ?_
    simp only [go_sem,List.length_map,mdC_e,tbC_e,lmC_e]
    refine call_same (d5) (by simp [go_sem,List.length_map,mdC_e,tbC_e,lmC_e]) ?_
    simp only [go_sem,List.length_map,mdC_e,tbC_e,lmC_e]
    refine call_same (d6) (by simp [go_sem,List.length_map,mdC_e,tbC_e,lmC_e]) ?_
    simp only [go_sem,List.length_map,mdC_e,tbC_e,lmC_e]
    refine call_same (d7) (by simp [go_sem,List.length_map,mdC_e,tbC_e,lmC_e]) ?_
    simp only [go_sem,List.length_map,mdC_e,tbC_e,lmC_e]
    refine call_same (d8) (by simp [go_sem,List.length_map,mdC_e,tbC_e,lmC_e]) ?_
    simp only [go_sem,List.length_map,mdC_e,tbC_e,lmC_e]
    exact pdone [] (by simp only [go_sem,List.length_map,mdC_e,tbC_e,lmC_e]) (by first | rfl | simp [go_sem,slv_ids,List.length_map,mdC_e,tbC_e,lmC_e])
  · have hb:b.hs = true:=by rw [← e1]; exact ha
    rw [ha,hb] at d3
    by_cases e2:a.st = b.st
    rotate_left
    · rw [decide_eq_false (fun e:SameP a b=>e2 (e.2.1 ha))]
      simp only [go_sem,List.length_map,mdC_e,tbC_e,lmC_e,FX107,md_,ha,hb,show (true == true) = true from rfl,Bool.not_false,Bool.not_true,bne_t e2]
      exact pdone [] (by simp only [go_sem,List.length_map,mdC_e,tbC_e,lmC_e]) (by first | rfl | simp [go_sem,slv_ids,List.length_map,mdC_e,tbC_e,lmC_e])
    by_cases c0:a.ts = b.ts
    rotate_left
    · rw [decide_eq_false c0] at d0
      rw [decide_eq_false (fun e:SameP a b=>c0 e.2.2.1)]
      simp only [go_sem,List.length_map,mdC_e,tbC_e,lmC_e,FX107,md_,ha,hb,show (true == true) = true from rfl,Bool.not_false,Bool.not_true,bne_f e2]
      refine call_same (d0) (by simp [go_sem,List.length_map,mdC_e,tbC_e,lmC_e]) ?_
      simp only [go_sem,List.length_map,mdC_e,tbC_e,lmC_e]
      exact pdone [] (by simp only [go_sem,List.length_map,mdC_e,tbC_e,lmC_e]) (by first | rfl | simp [go_sem,slv_ids,List.length_map,mdC_e,tbC_e,lmC_e])
    rw [decide_eq_true c0] at d0
    by_cases c1:a.ims = b.ims
    rotate_left
    · rw [decide_eq_false c1] at d1
      rw [decide_eq_false (fun e:SameP a b=>c1 e.2.2.2.1)]
      simp only [go_sem,List.length_map,mdC_e,tbC_e,lmC_e,FX107,md_,ha,hb,show (true == true) = true from rfl,Bool.not_false,Bool.not_true,bne_f e2]
      refine call_same (d0) (by simp [go_sem,List.length_map,mdC_e,tbC_e,lmC_e]) ?_
      simp only [go_sem,List.length_map,mdC_e,tbC_e,lmC_e]
      refine call_same (d1) (by simp [go_sem,List.length_map,mdC_e,tbC_e,lmC_e]) ?_
      simp only [go_sem,List.length_map,mdC_e,tbC_e,lmC_e]
      exact pdone [] (by simp only [go_sem,List.length_map,mdC_e,tbC_e,lmC_e]) (by first | rfl | simp [go_sem,slv_ids,List.length_map,mdC_e,tbC_e,lmC_e])
    rw [decide_eq_true c1] at d1
    by_cases c2:a.fs = b.fs
    rotate_left
    · rw [decide_eq_false c2] at d2
      rw [decide_eq_false (fun e:SameP a b=>c2 e.2.2.2.2.1)]
      simp only [go_sem,List.length_map,mdC_e,tbC_e,lmC_e,FX107,md_,ha,hb,show (true == true) = true from rfl,Bool.not_false,Bool.not_true,bne_f e2]
      refine call_same (d0) (by simp [go_sem,List.length_map,mdC_e,tbC_e,lmC_e]) ?_
      simp only [go_sem,List.length_map,mdC_e,tbC_e,lmC_e]
      refine call_same (d1) (by simp [go_sem,List.length_map,mdC_e,tbC_e,lmC_e]) ?_
      simp only [go_sem,List.length_map,mdC_e,tbC_e,lmC_e]
      refine call_same (d2) (by simp [go_sem,List.length_map,mdC_e,tbC_e,lmC_e]) ?_
      simp only [go_sem,List.length_map,mdC_e,tbC_e,lmC_e]
      exact pdone [] (by simp only [go_sem,List.length_map,mdC_e,tbC_e,lmC_e]) (by first | rfl | simp [go_sem,slv_ids,List.length_map,mdC_e,tbC_e,lmC_e])
    rw [decide_eq_true c2] at d2
    by_cases c3:a.tbs = b.tbs ∧ a.ms = b.ms
    rotate_left
    · rw [decide_eq_false c3] at d3
      rw [decide_eq_false (fun e:SameP a b=>c3 e.2.2.2.2.2.1)]
      simp only [go_sem,List.length_map,mdC_e,tbC_e,lmC_e,FX107,md_,ha,hb,show (true == true) = true from rfl,Bool.not_false,Bool.not_true,bne_f e2]
      refine call_same (d0) (by simp [go_sem,List.length_map,mdC_e,tbC_e,lmC_e]) ?_
      simp only [go_sem,List.length_map,mdC_e,tbC_e,lmC_e]
      refine call_same (d1) (by simp [go_sem,List.length_map,mdC_e,tbC_e,lmC_e]) ?_
      simp only [go_sem,List.length_map,mdC_e,tbC_e,lmC_e]
      refine call_same (d2) (by simp [go_sem,List.length_map,mdC_e,tbC_e,lmC_e]) ?_
      simp only [go_sem,List.length_map,mdC_e,tbC_e,lmC_e]
      refine call_same (d3) (by simp [go_sem,List.length_map,mdC_e,tbC_e,lmC_e]) ?_
      simp only [go_sem,List.length_map,mdC_e,tbC_e,lmC_e]
      exact pdone [] (by simp only [go_sem,List.length_map,mdC_e,tbC_e,lmC_e]) (by first | rfl | simp [go_sem,slv_ids,List.length_map,mdC_e,tbC_e,lmC_e])
    rw [decide_eq_true c3] at d3
    by_cases c4:a.gs = b.gs
    rotate_left
    · rw [decide_eq_false c4] at d4
      rw [decide_eq_false (fun e:SameP a b=>c4 e.2.2.2.2.2.2.1)]
      simp only [go_sem,List.length_map,mdC_e,tbC_e,lmC_e,FX107,md_,ha,hb,show (true == true) = true from rfl,Bool.not_false,Bool.not_true,bne_f e2]
      refine call_same (d0) (by simp [go_sem,List.length_map,mdC_e,tbC_e,lmC_e]) ?_
      simp only [go_sem,List.length_map,mdC_e,tbC_e,lmC_e]
      refine call_same (d1) (by simp [go_sem,List.length_map,mdC_e,tbC_e,lmC_e]) ?_
      simp only [go_sem,List.length_map,mdC_e,tbC_e,lmC_e]
      refine call_same (d2) (by simp [go_sem,List.length_map,mdC_e,tbC_e,lmC_e]) ?_
      simp only [go_sem,List.length_map,mdC_e,tbC_e,lmC_e]
      refine call_same (d3) (by simp [go_sem,List.length_map,mdC_e,tbC_e,lmC_e]) ?_
      simp only [go_sem,List.length_map,mdC_e,tbC_e,lmC_e]
      refine call_same (d4) (by simp [go_sem,List.length_map,mdC_e,tbC_e,lmC_e]) ?_
      simp only [go_sem,List.length_map,mdC_e,tbC_e,lmC_e]
      exact pdone [] (by simp only [go_sem,List.length_map,mdC_e,tbC_e,lmC_e]) (by first | rfl | simp [go_sem,slv_ids,List.length_map,mdC_e,tbC_e,lmC_e])
    rw [decide_eq_true c4] at d4
    by_cases c5:a.exs = b.exs
    rotate_left
    · rw [decide_eq_false c5] at d5
      rw [decide_eq_false (fun e:SameP a b=>c5 e.2.2.2.2.2.2.2.1)]
      simp only [go_sem,List.length_map,mdC_e,tbC_e,lmC_e,FX107,md_,ha,hb,show (true == true) = true from rfl,Bool.not_false,Bool.not_true,bne_f e2]
      refine call_same (d0) (by simp [go_sem,List.length_map,mdC_e,tbC_e,lmC_e]) ?_
      simp only [go_sem,List.length_map,mdC_e,tbC_e,lmC_e]
      refine call_same (d1) (by simp [go_sem,List.length_map,mdC_e,tbC_e,lmC_e]) ?_
      simp only [go_sem,List.length_map,mdC_e,tbC_e,lmC_e]
      refine call_same (d2) (by simp [go_sem,List.length_map,mdC_e,tbC_e,lmC_e]) ?_
      simp only [go_sem,List.length_map,mdC_e,tbC_e,lmC_e]
      refine call_same (d3) (by simp [go_sem,List.length_map,mdC_e,tbC_e,lmC_e]) ?_
      simp only [go_sem,List.length_map,mdC_e,tbC_e,lmC_e]
      refine call_same (d4) (by simp [go_sem,List.length_map,mdC_e,tbC_e,lmC_e]) ?_
      simp only [go_sem,List.length_map,mdC_e,tbC_e,lmC_e]
      refine call_same (d5) (by simp [go_sem,List.length_map,mdC_e,tbC_e,lmC_e]) ?_
      simp only [go_sem,List.length_map,mdC_e,tbC_e,lmC_e]
      exact pdone [] (by simp only [go_sem,List.length_map,mdC_e,tbC_e,lmC_e]) (by first | rfl | simp [go_sem,slv_ids,List.length_map,mdC_e,tbC_e,lmC_e])
    rw [decide_eq_true c5] at d5
    by_cases c6:a.els = b.els
    rotate_left
    · rw [decide_eq_false c6] at d6
      rw [decide_eq_false (fun e:SameP a b=>c6 e.2.2.2.2.2.2.2.2.1)]
      simp only [go_sem,List.length_map,mdC_e,tbC_e,lmC_e,FX107,md_,ha,hb,show (true == true) = true from rfl,Bool.not_false,Bool.not_true,bne_f e2]
      refine call_same (d0) (by simp [go_sem,List.length_map,mdC_e,tbC_e,lmC_e]) ?_
      simp only [go_sem,List.length_map,mdC_e,tbC_e,lmC_e]
      refine call_same (d1) (by simp [go_sem,List.length_map,mdC_e,tbC_e,lmC_e]) ?_
      simp only [go_sem,List.length_map,mdC_e,tbC_e,lmC_e]
      refine call_same (d2) (by simp [go_sem,List.length_map,mdC_e,tbC_e,lmC_e]) ?_
      simp only [go_sem,List.length_map,mdC_e,tbC_e,lmC_e]
      refine call_same (d3) (by simp [go_sem,List.length_map,mdC_e,tbC_e,lmC_e]) ?_
      simp only [go_sem,List.length_map,mdC_e,tbC_e,lmC_e]
      refine call_same (d4) (by simp [go_sem,List.length_map,mdC_e,tbC_e,lmC_e]) ?_
      simp only [go_sem,List.length_map,mdC_e,tbC_e,lmC_e]
      refine call_same (d5) (by simp [go_sem,List.length_map,mdC_e,tbC_e,lmC_e]) ?_
      simp only [go_sem,List.length_map,mdC_e,tbC_e,lmC_e]
      refine call_same (d6) (by simp [go_sem,List.length_map,mdC_e,tbC_e,lmC_e]) ?_
      simp only [go_sem,List.length_map,mdC_e,tbC_e,lmC_e]
      exact pdone [] (by simp only [go_sem,List.length_map,mdC_e,tbC_e,lmC_e]) (by first | rfl | simp [go_sem,slv_ids,List.length_map,mdC_e,tbC_e,lmC_e])
    rw [decide_eq_true c6] at d6
    by_cases c7:a.ds = b.ds
    rotate_left
    · rw [decide_eq_false c7] at d7
      rw [decide_eq_false (fun e:SameP a b=>c7 e.2.2.2.2.2.2.2.2.2.1)]
      simp only [go_sem,List.length_map,mdC_e,tbC_e,lmC_e,FX107,md_,ha,hb,show (true == true) = true from rfl,Bool.not_false,Bool.not_true,bne_f e2]
      refine call_same (d0) (by simp [go_sem,List.length_map,mdC_e,tbC_e,lmC_e]) ?_
      simp only [go_sem,List.length_map,mdC_e,tbC_e,lmC_e]
      refine call_same (d1) (by simp [go_sem,List.length_map,mdC_e,tbC_e,lmC_e]) ?_
      simp only [go_sem,List.length_map,mdC_e,tbC_e,lmC_e]
      refine call_same (d2) (by simp [go_sem,List.length_map,mdC_e,tbC_e,lmC_e]) ?_
      simp only [go_sem,List.length_map,mdC_e,tbC_e,lmC_e]
      refine call_same (d3) (by simp [go_sem,List.length_map,mdC_e,tbC_e,lmC_e]) ?_
      simp only [go_sem,List.length_map,mdC_e,tbC_e,lmC_e]
      refine call_same (d4) (by simp [go_sem,List.length_map,mdC_e,tbC_e,lmC_e]) ?_
      simp only [go_sem,List.length_map,mdC_e,tbC_e,lmC_e]
      refine call_same (d5) (by simp [go_sem,List.length_map,mdC_e,tbC_e,lmC_e]) ?_
      simp only [go_sem,List.length_map,mdC_e,tbC_e,lmC_e]
      refine call_same (d6) (by simp [go_sem,List.length_map,mdC_e,tbC_e,lmC_e]) ?_
      simp only [go_sem,List.length_map,mdC_e,tbC_e,lmC_e]
      refine call_same (d7) (by simp [go_sem,List.length_map,mdC_e,tbC_e,lmC_e]) ?_
      simp only [go_sem,List.length_map,mdC_e,tbC_e,lmC_e]
      exact pdone [] (by simp only [go_sem,List.length_map,mdC_e,tbC_e,lmC_e]) (by first | rfl | simp [go_sem,slv_ids,List.length_map,mdC_e,tbC_e,lmC_e])
    rw [decide_eq_true c7] at d7
    by_cases c8:a.cs = b.cs
    rotate_left
    · rw [decide_eq_false c8] at d8
      rw [decide_eq_false (fun e:SameP a b=>c8 e.2.2.2.2.2.2.2.2.2.2)]
      simp only [go_sem,List.length_map,mdC_e,tbC_e,lmC_e,FX107,md_,ha,hb,show (true == true) = true from rfl,Bool.not_false,Bool.not_true,bne_f e2]
      refine call_same (d0) (by simp [go_sem,List.length_map,mdC_e,tbC_e,lmC_e]) ?_
      simp only [go_sem,List.length_map,mdC_e,tbC_e,lmC_e]
      refine call_same (d1) (by simp [go_sem,List.length_map,mdC_e,tbC_e,lmC_e]) ?_
      simp only [go_sem,List.length_map,mdC_e,tbC_e,lmC_e]
      refine call_same (d2) (by simp [go_sem,List.length_map,mdC_e,tbC_e,lmC_e]) ?_
      simp only [go_sem,List.length_map,mdC_e,tbC_e,lmC_e]
      refine call_same (d3) (by simp [go_sem,List.length_map,mdC_e,tbC_e,lmC_e]) ?_
      simp only [go_sem,List.length_map,mdC_e,tbC_e,lmC_e]
      refine call_same (d4) (by simp [go_sem,List.length_map,mdC_e,tbC_e,lmC_e]) ?_
      simp only [go_sem,List.length_map,mdC_e,tbC_e,lmC_e]
      refine call_same (d5) (by simp [go_sem,List.length_map,mdC_e,tbC_e,lmC_e]) ?_
      simp only [go_sem,List.length_map,mdC_e,tbC_e,lmC_e]
      refine call_same (d6) (by simp [go_sem,List.length_map,mdC_e,tbC_e,lmC_e]) ?_
      simp only [go_sem,List.length_map,mdC_e,tbC_e,lmC_e]
      refine call_same (d7) (by simp [go_sem,List.length_map,mdC_e,tbC_e,lmC_e]) ?_
      simp only [go_sem,List.length_map,mdC_e,tbC_e,lmC_e]
      refine call_same (d8) (by simp [go_sem,List.length_map,mdC_e,tbC_e,lmC_e]) ?_
      simp only [go_sem,List.length_map,mdC_e,tbC_e,lmC_e]
      exact pdone [] (by simp only [go_sem,List.length_map,mdC_e,tbC_e,lmC_e]) (by first | rfl | simp [go_sem,slv_ids,List.length_map,mdC_e,tbC_e,lmC_e])
    rw [decide_eq_true c8] at d8
    rw [decide_eq_true (show SameP a b from ⟨e1,fun _=>e2,c0,c1,c2,c3,c4,c5,c6,c7,c8⟩)]
    simp only [go_sem,List.length_map,mdC_e,tbC_e,lmC_e,FX107,md_,ha,hb,show (true == true) = true from rfl,Bool.not_false,Bool.not_true,bne_f e2]
    refine call_same (d0) (by simp [go_sem,List.length_map,mdC_e,tbC_e,lmC_e]) ?_
    simp only [go_sem,List.length_map,mdC_e,tbC_e,lmC_e]
    refine call_same (d1) (by simp [go_sem,List.length_map,mdC_e,tbC_e,lmC_e]) ?_
    simp only [go_sem,List.length_map,mdC_e,tbC_e,lmC_e]
    refine call_same (d2) (by simp [go_sem,List.length_map,mdC_e,tbC_e,lmC_e]) ?_
    simp only [go_sem,List.length_map,mdC_e,tbC_e,lmC_e]
    refine call_same (d3) (by simp [go_sem,List.length_map,mdC_e,tbC_e,lmC_e]) ?_
    simp only [go_sem,List.length_map,mdC_e,tbC_e,lmC_e]
    refine call_same (d4) (by simp [go_sem,List.length_map,mdC_e,tbC_e,lmC_e]) ?_
    simp only [go_sem,List.length_map,mdC_e,tbC_e,lmC_e]
    refine call_same (d5) (by simp [go_sem,List.length_map,mdC_e,tbC_e,lmC_e]) ?_
    simp only [go_sem,List.length_map,mdC_e,tbC_e,lmC_e]
    refine call_same (d6) (by simp [go_sem,List.length_map,mdC_e,tbC_e,lmC_e]) ?_
    simp only [go_sem,List.length_map,mdC_e,tbC_e,lmC_e]
    refine call_same (d7) (by simp [go_sem,List.length_map,mdC_e,tbC_e,lmC_e]) ?_
    simp only [go_sem,List.length_map,mdC_e,tbC_e,lmC_e]
    refine call_same (d8) (by simp [go_sem,List.length_map,mdC_e,tbC_e,lmC_e]) ?_
    simp only [go_sem,List.length_map,mdC_e,tbC_e,lmC_e]
    exact pdone [] (by simp only [go_sem,List.length_map,mdC_e,tbC_e,lmC_e]) (by first | rfl | simp [go_sem,slv_ids,List.length_map,mdC_e,tbC_e,lmC_e])
end Go.Proofs.YtoikbadfbneahaaGreatDoor
