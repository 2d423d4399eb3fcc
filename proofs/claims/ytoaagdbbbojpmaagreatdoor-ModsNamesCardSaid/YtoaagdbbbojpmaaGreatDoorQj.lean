/-
  Chapter 14,walks: the reference's UTF-8; what it checks of names.
-/
import Derived.Test.YtoaagdbbbojpmaaGreatDoorQh
import Derived.Test.YtoaagdbbbojpmaaGreatDoorQg
set_option linter.unusedVariables false
set_option linter.unusedSimpArgs false
set_option linter.unusedSectionVars false
set_option maxRecDepth 100000
set_option maxHeartbeats 40000000
set_option linter.unusedVariables false
set_option linter.unusedSimpArgs false
namespace Go.Proofs.YtoaagdbbbojpmaaGreatDoor
open Go Go.Mw
-- @U: List.length_map

end Go.Proofs.YtoaagdbbbojpmaaGreatDoor
set_option maxRecDepth 100000
set_option maxHeartbeats 20000000
set_option linter.unusedVariables false
set_option linter.unusedSimpArgs false
namespace Go.Proofs.YtoaagdbbbojpmaaGreatDoor
open Go Go.Mw
-- @U: List.length_map

end Go.Proofs.YtoaagdbbbojpmaaGreatDoor
set_option maxRecDepth 100000
set_option maxHeartbeats 40000000
set_option linter.unusedVariables false
set_option linter.unusedSimpArgs false
namespace Go.Proofs.YtoaagdbbbojpmaaGreatDoor
open Go Go.Mw
-- @U: List.length_map,mdC_e,ftC_e,imC_e,tbC_e,lmC_e,cdC_e,exC_e,elC_e,daC_e,cuC_e,inL_e,fa_,faO

end Go.Proofs.YtoaagdbbbojpmaaGreatDoor
set_option maxRecDepth 100000
set_option maxHeartbeats 40000000
set_option linter.unusedVariables false
set_option linter.unusedSimpArgs false
namespace Go.Proofs.YtoaagdbbbojpmaaGreatDoor
open Go Go.Mw
-- @U: List.length_map,mdC_e,ftC_e,imC_e,tbC_e,lmC_e,cdC_e,exC_e,elC_e,daC_e,cuC_e,inL_e,fa_,faO

end Go.Proofs.YtoaagdbbbojpmaaGreatDoor
set_option maxRecDepth 100000
set_option maxHeartbeats 40000000
set_option linter.unusedVariables false
set_option linter.unusedSimpArgs false
namespace Go.Proofs.YtoaagdbbbojpmaaGreatDoor
open Go Go.Mw
-- @U: List.length_map,mdC_e,ftC_e,imC_e,tbC_e,lmC_e,cdC_e,exC_e,elC_e,daC_e,cuC_e,inL_e,fa_,faO

end Go.Proofs.YtoaagdbbbojpmaaGreatDoor
set_option maxRecDepth 100000
set_option maxHeartbeats 40000000
set_option linter.unusedVariables false
set_option linter.unusedSimpArgs false
namespace Go.Proofs.YtoaagdbbbojpmaaGreatDoor
open Go Go.Mw
-- @U: List.length_map,mdC_e,ftC_e,imC_e,tbC_e,lmC_e,cdC_e,exC_e,elC_e,daC_e,cuC_e,inL_e,fa_,faO

end Go.Proofs.YtoaagdbbbojpmaaGreatDoor
set_option maxRecDepth 100000
set_option maxHeartbeats 40000000
set_option linter.unusedVariables false
set_option linter.unusedSimpArgs false
namespace Go.Proofs.YtoaagdbbbojpmaaGreatDoor
open Go Go.Mw
-- @U: List.length_map,mdC_e,ftC_e,imC_e,tbC_e,lmC_e,cdC_e,exC_e,elC_e,daC_e,cuC_e,inL_e,fa_,faO

end Go.Proofs.YtoaagdbbbojpmaaGreatDoor
set_option maxRecDepth 100000
set_option maxHeartbeats 40000000
set_option linter.unusedVariables false
set_option linter.unusedSimpArgs false
namespace Go.Proofs.YtoaagdbbbojpmaaGreatDoor
open Go Go.Mw
-- @U: List.length_map,mdC_e,ftC_e,imC_e,tbC_e,lmC_e,cdC_e,exC_e,elC_e,daC_e,cuC_e,inL_e,fa_,faO

end Go.Proofs.YtoaagdbbbojpmaaGreatDoor
set_option maxRecDepth 100000
set_option maxHeartbeats 40000000
set_option linter.unusedVariables false
set_option linter.unusedSimpArgs false
namespace Go.Proofs.YtoaagdbbbojpmaaGreatDoor
open Go Go.Mw
-- @U: List.length_map,mdC_e,ftC_e,imC_e,tbC_e,lmC_e,cdC_e,exC_e,elC_e,daC_e,cuC_e,inL_e,fa_,faO

end Go.Proofs.YtoaagdbbbojpmaaGreatDoor
set_option maxRecDepth 100000
set_option maxHeartbeats 40000000
set_option linter.unusedVariables false
set_option linter.unusedSimpArgs false
namespace Go.Proofs.YtoaagdbbbojpmaaGreatDoor
open Go Go.Mw
-- @U: List.length_map,mdC_e,ftC_e,imC_e,tbC_e,lmC_e,cdC_e,exC_e,elC_e,daC_e,cuC_e,inL_e,fa_,faO

end Go.Proofs.YtoaagdbbbojpmaaGreatDoor
set_option maxRecDepth 100000
set_option maxHeartbeats 40000000
set_option linter.unusedVariables false
set_option linter.unusedSimpArgs false
namespace Go.Proofs.YtoaagdbbbojpmaaGreatDoor
open Go Go.Mw
-- @U: elO,List.length_map,mdC_e,ftC_e,imC_e,tbC_e,lmC_e,cdC_e,exC_e,elC_e,daC_e,cuC_e,inL_e,fa_,faO

end Go.Proofs.YtoaagdbbbojpmaaGreatDoor
set_option maxRecDepth 100000
set_option maxHeartbeats 4000000
set_option linter.unusedVariables false
set_option linter.unusedSimpArgs false
namespace Go.Proofs.YtoaagdbbbojpmaaGreatDoor
open Go Go.Mw

end Go.Proofs.YtoaagdbbbojpmaaGreatDoor
set_option maxRecDepth 100000
set_option maxHeartbeats 40000000
set_option linter.unusedVariables false
set_option linter.unusedSimpArgs false
namespace Go.Proofs.YtoaagdbbbojpmaaGreatDoor
open Go Go.Mw
-- @U: List.length_map,mdC_e,fa_,faO,faR_e

instance:Inhabited Fa:=⟨lm0⟩
end Go.Proofs.YtoaagdbbbojpmaaGreatDoor
set_option maxRecDepth 100000
set_option maxHeartbeats 20000000
set_option linter.unusedVariables false
set_option linter.unusedSimpArgs false
namespace Go.Proofs.YtoaagdbbbojpmaaGreatDoor
open Go Go.Mw
-- @U: List.length_map

theorem ext_nth {α:Type} [Inhabited α] {a b:List α} (hl:a.length = b.length) (h:∀ k,k < a.length → nth a k = nth b k):a = b:=by
  apply List.ext_getElem hl
  intro i h1 h2
  have:=h i h1
  rwa [nth_eq h1,nth_eq h2] at this
theorem i_bound {i n:Nat} (h:i < n) (hn:n ≤ 9223372036854775807):IntKind.i64.wrap ((i:Int) + 1) = (i:Int) + 1:=wi (by omega) (by omega)
def lnN (n:Ns):Prop:=n.fs.length ≤ 9223372036854775807 ∧ n.ls.length ≤ 9223372036854775807 ∧ ∀ x ∈ n.ls,x.l.length ≤ 9223372036854775807
theorem lnN_at {n:Ns} (h:lnN n) {i:Nat} (hi:i < n.ls.length):(nth n.ls i).l.length ≤ 9223372036854775807:=by
  rw [nth_eq hi]; exact h.2.2 _ (List.getElem_mem hi)
/-! ### Compared -/
theorem nm_eq {x y:Nm}:((x.i == y.i) && (x.s == y.s)) = decide (x = y):=by
  obtain ⟨a,b⟩:=x
  obtain ⟨c,d⟩:=y
  by_cases h:a = c <;> by_cases g:b = d <;> simp [h,g]
attribute [local go_sem] List.length_map
theorem u_names14 (a b:List Nm) (ha:a.length ≤ 9223372036854775807):PCalls Tryz.prog nX102 [.sl 2 (a.map nm_),.sl 2 (b.map nm_)] (.bool (decide (a = b))):=by
  refine pfun_sound (ic:=FX102.body) mixed cX102 rfl rfl ?_
  by_cases hl:(a.length:Int) = (b.length:Int)
  rotate_left
  · rw [decide_eq_false (fun h=>hl (by rw [h]))]
    simp only [go_sem,FX102,bne_t hl]
    exact pdone [] (by simp only [go_sem]) (by first | rfl | simp [go_sem,slv_ids])
  simp only [go_sem,FX102,bne_f hl]
  refine loop_rule (fun j:Nat=>⟨[(5,.int .i64 j),(0,.sl 2 (a.map nm_)),(1,.sl 2 (b.map nm_))],[]⟩) (fun j=>j ≤ a.length ∧ ∀ k,k < j → nth a k = nth b k) (fun j=>a.length - j) 0 ⟨Nat.zero_le _,fun k hk=>by omega⟩ (Wk.of ?_ ?_) ?_
  · simp only [go_sem]; try simp
  · simp only [go_sem]
  rintro j ⟨hj,hx⟩
  by_cases h1:(j:Int) < (a.length:Int)
  · have hj':j < a.length:=by omega
    have hjb:(j:Int) < (b.length:Int):=by omega
    have e8:=i_bound hj' ha
    by_cases h2:nth a j = nth b j
    · simp only [go_sem,decide_eq_true h1,nm_eq,h2,decide_eq_true (rfl:nth b j = nth b j)]
      refine ⟨by omega,h1,by omega,hjb,klp_n (j + 1) ⟨show j + 1 ≤ a.length by omega,fun k hk=>?_⟩ (show a.length - (j + 1) < a.length - j by omega) (Wk.of ?_ ?_)⟩
      · rcases Nat.lt_or_ge k j with h | h
        · exact hx k h
        · rw [show k = j by omega]; exact h2
      · simp only [go_sem,e8]; try simp
      · simp only [go_sem]
    · rw [decide_eq_false (fun h=>h2 (by rw [h]))]
      simp only [go_sem,decide_eq_true h1,nm_eq,decide_eq_false h2]
      refine ⟨by omega,h1,by omega,hjb,?_⟩
      exact pdone [] (by simp only [go_sem]) (by first | rfl | simp [go_sem,slv_ids])
  · rw [decide_eq_true (ext_nth (by omega) fun k hk=>hx k (by omega))]
    simp only [go_sem,decide_eq_false h1]
    exact pdone [] (by simp only [go_sem]) (by first | rfl | simp [go_sem,slv_ids])
theorem u_samenames (a b:Ns) (ha:lnN a) (hb:lnN b):PCalls Tryz.prog nX54 [ns_ a,ns_ b] (.bool (decide (a = b))):=by
  refine pfun_sound (ic:=FX54.body) mixed cX54 rfl rfl ?_
  have c1:=u_names14 a.fs b.fs ha.1
  by_cases h1:a.m = b.m
  rotate_left
  · rw [decide_eq_false (fun h=>h1 (by rw [h]))]
    simp only [go_sem,FX54,show (a.m == b.m) = false by simpa using h1]
    exact pdone [] (by simp only [go_sem]) (by first | rfl | simp [go_sem,slv_ids])
  by_cases h2:a.fs = b.fs
  rotate_left
  · rw [decide_eq_false (fun h=>h2 (by rw [h]))]
    rw [decide_eq_false h2] at c1
    simp only [go_sem,FX54,show (a.m == b.m) = true by simpa using h1]
    refine call_same (c1) (by simp [go_sem]) ?_
    simp only [go_sem]
    exact pdone [] (by simp only [go_sem]) (by first | rfl | simp [go_sem,slv_ids])
  rw [decide_eq_true h2] at c1
  by_cases hl:(a.ls.length:Int) = (b.ls.length:Int)
  rotate_left
  · rw [decide_eq_false (fun h=>hl (by rw [h]))]
    simp only [go_sem,FX54,show (a.m == b.m) = true by simpa using h1]
    refine call_same (c1) (by simp [go_sem]) ?_
    simp only [go_sem,bne_t hl]
    exact pdone [] (by simp only [go_sem]) (by first | rfl | simp [go_sem,slv_ids])
  simp only [go_sem,FX54,show (a.m == b.m) = true by simpa using h1]
  refine call_same (c1) (by simp [go_sem]) ?_
  simp only [go_sem,bne_f hl]
  refine loop_rule (fun j:Nat=>⟨[(5,.int .i64 j),(2,.mp 2 3 0 0),(3,.mp 3 3 0 0)],[(2,⟨65,3,[nsC a],true⟩),(3,⟨65,3,[nsC b],true⟩)]⟩) (fun j=>j ≤ a.ls.length ∧ ∀ k,k < j → nth a.ls k = nth b.ls k) (fun j=>a.ls.length - j) 0 ⟨Nat.zero_le _,fun k hk=>by omega⟩ (Wk.of ?_ ?_) ?_
  · simp only [go_sem]; try simp
  · simp only [go_sem,nsC]
  rintro j ⟨hj,hx⟩
  by_cases h3:(j:Int) < (a.ls.length:Int)
  · have hj':j < a.ls.length:=by omega
    have hjb:(j:Int) < (b.ls.length:Int):=by omega
    have e8:=i_bound hj' ha.2.1
    have c2:=u_names14 (nth a.ls j).l (nth b.ls j).l (lnN_at ha hj')
    by_cases h4:(nth a.ls j).f = (nth b.ls j).f
    · by_cases h5:(nth a.ls j).l = (nth b.ls j).l
      · rw [decide_eq_true h5] at c2
        simp only [go_sem,decide_eq_true h3,nsC,bne_f h4]
        refine ⟨by omega,h3,by omega,hjb,by omega,h3,by omega,hjb,?_⟩
        refine call_same (c2) (by simp [go_sem]) ?_
        simp only [go_sem]
        refine klp_n (j + 1) ⟨show j + 1 ≤ a.ls.length by omega,fun k hk=>?_⟩ (show a.ls.length - (j + 1) < a.ls.length - j by omega) (Wk.of ?_ ?_)
        · rcases Nat.lt_or_ge k j with h | h
          · exact hx k h
          · rw [show k = j by omega]
            generalize nth a.ls j = x at *
            generalize nth b.ls j = y at *
            obtain ⟨x1,x2⟩:=x
            obtain ⟨y1,y2⟩:=y
            simp only at h4 h5
            rw [h4,h5]
        · simp only [go_sem,e8]; try simp
        · simp only [go_sem,nsC]
      · rw [decide_eq_false (fun h=>h5 (by rw [h]))]
        rw [decide_eq_false h5] at c2
        simp only [go_sem,decide_eq_true h3,nsC,bne_f h4]
        refine ⟨by omega,h3,by omega,hjb,by omega,h3,by omega,hjb,?_⟩
        refine call_same (c2) (by simp [go_sem]) ?_
        simp only [go_sem]
        exact pdone [] (by simp only [go_sem]) (by first | rfl | simp [go_sem,slv_ids])
    · rw [decide_eq_false (fun h=>h4 (by rw [h]))]
      simp only [go_sem,decide_eq_true h3,nsC,bne_t h4]
      refine ⟨by omega,h3,by omega,hjb,?_⟩
      exact pdone [] (by simp only [go_sem]) (by first | rfl | simp [go_sem,slv_ids])
  · have h6:a.ls = b.ls:=ext_nth (by omega) fun k hk=>hx k (by omega)
    rw [decide_eq_true (show a = b by
      obtain ⟨a1,a2,a3⟩:=a
      obtain ⟨b1,b2,b3⟩:=b
      simp only at h1 h2 h6
      rw [h1,h2,h6])]
    simp only [go_sem,decide_eq_false h3,nsC]
    exact pdone [] (by simp only [go_sem]) (by first | rfl | simp [go_sem,slv_ids])
end Go.Proofs.YtoaagdbbbojpmaaGreatDoor
set_option maxRecDepth 100000
set_option maxHeartbeats 40000000
set_option linter.unusedVariables false
set_option linter.unusedSimpArgs false
namespace Go.Proofs.YtoaagdbbbojpmaaGreatDoor
open Go Go.Mw
-- @U: List.length_map,mdC_e

attribute [local go_sem] List.length_map mdC_e
theorem m_sameNm {f:FuncId} (hb:hasBody Tryz.prog f = true) (a b:List Nm) (ha:a.length ≤ 9223372036854775807) (hf:∀ x ∈ a,∀ y,PCalls Tryz.prog f [.agg (nm_ x),.agg (nm_ y)] (.bool (decide (x = y)))):PCalls Tryz.prog nX47 [.sl 2 (a.map nm_),.sl 2 (b.map nm_),.fn f []] (.bool (decide (a = b))):=by
  refine pfun_sound (ic:=FX47.body) mixed cX47 rfl rfl ?_
  by_cases hl:(a.length:Int) = (b.length:Int)
  rotate_left
  · rw [decide_eq_false (fun h=>hl (by rw [h]))]
    simp only [go_sem,FX47,bne_t hl]
    exact pdone [] (by simp only [go_sem]) (by first | rfl | simp [go_sem,slv_ids])
  simp only [go_sem,FX47,bne_f hl]
  refine loop_rule (fun j:Nat=>⟨[(15,.int .i64 j),(14,.int .i64 a.length),(0,.sl 2 (a.map nm_)),(1,.sl 2 (b.map nm_)),(2,.fn f [])],[]⟩) (fun j=>j ≤ a.length ∧ ∀ k,k < j → nth a k = nth b k) (fun j=>a.length - j) 0 ⟨Nat.zero_le _,fun k hk=>by omega⟩ (Wk.of ?_ ?_) ?_
  · simp only [go_sem,hl]; try simp
  · simp only [go_sem]
  rintro j ⟨hj,hx⟩
  by_cases h1:(j:Int) < (a.length:Int)
  rotate_left
  · rw [decide_eq_true (ext_nt (by omega) fun k hk=>hx k (by omega))]
    simp only [go_sem,decide_eq_false h1]
    exact pdone [] (by simp only [go_sem]) (by first | rfl | simp [go_sem,slv_ids])
  have hj':j < a.length:=by omega
  have hjb:(j:Int) < (b.length:Int):=by omega
  have e8:=i_bd hj' (by omega)
  have cc:=at_in hf hj' (nth b j)
  try simp only [nm_e,lc_e] at cc
  by_cases h2:nth a j = nth b j
  · rw [decide_eq_true h2] at cc
    simp only [go_sem,decide_eq_true h1]
    refine ⟨by omega,h1,by omega,hjb,?_⟩
    refine ⟨hb,?_⟩
    refine call_same (cc) (by simp [go_sem]) ?_
    simp only [go_sem]
    refine klp_n (j + 1) ⟨show j + 1 ≤ a.length by omega,fun k hk=>?_⟩ (show a.length - (j + 1) < a.length - j by omega) (Wk.of ?_ ?_)
    · rcases Nat.lt_or_ge k j with h | h
      · exact hx k h
      · rw [show k = j by omega]; exact h2
    · simp only [go_sem,e8]; try simp
    · simp only [go_sem]
  · rw [decide_eq_false h2] at cc
    rw [decide_eq_false (fun e=>h2 (by rw [e]))]
    simp only [go_sem,decide_eq_true h1]
    refine ⟨by omega,h1,by omega,hjb,?_⟩
    refine ⟨hb,?_⟩
    refine call_same (cc) (by simp [go_sem]) ?_
    simp only [go_sem]
    exact pdone [] (by simp only [go_sem]) (by first | rfl | simp [go_sem,slv_ids])
theorem m_sameLc {f:FuncId} (hb:hasBody Tryz.prog f = true) (a b:List Lc) (ha:a.length ≤ 9223372036854775807) (hf:∀ x ∈ a,∀ y,PCalls Tryz.prog f [.agg (lc_ x),.agg (lc_ y)] (.bool (decide (x = y)))):PCalls Tryz.prog nX27 [.sl 2 (a.map lc_),.sl 2 (b.map lc_),.fn f []] (.bool (decide (a = b))):=by
  refine pfun_sound (ic:=FX27.body) mixed cX27 rfl rfl ?_
  by_cases hl:(a.length:Int) = (b.length:Int)
  rotate_left
  · rw [decide_eq_false (fun h=>hl (by rw [h]))]
    simp only [go_sem,FX27,bne_t hl]
    exact pdone [] (by simp only [go_sem]) (by first | rfl | simp [go_sem,slv_ids])
  simp only [go_sem,FX27,bne_f hl]
  refine loop_rule (fun j:Nat=>⟨[(15,.int .i64 j),(14,.int .i64 a.length),(0,.sl 2 (a.map lc_)),(1,.sl 2 (b.map lc_)),(2,.fn f [])],[]⟩) (fun j=>j ≤ a.length ∧ ∀ k,k < j → nth a k = nth b k) (fun j=>a.length - j) 0 ⟨Nat.zero_le _,fun k hk=>by omega⟩ (Wk.of ?_ ?_) ?_
  · simp only [go_sem,hl]; try simp
  · simp only [go_sem]
  rintro j ⟨hj,hx⟩
  by_cases h1:(j:Int) < (a.length:Int)
  rotate_left
  · rw [decide_eq_true (ext_nt (by omega) fun k hk=>hx k (by omega))]
    simp only [go_sem,decide_eq_false h1]
    exact pdone [] (by simp only [go_sem]) (by first | rfl | simp [go_sem,slv_ids])
  have hj':j < a.length:=by omega
  have hjb:(j:Int) < (b.length:Int):=by omega
  have e8:=i_bd hj' (by omega)
  have cc:=at_in hf hj' (nth b j)
  try simp only [nm_e,lc_e] at cc
  by_cases h2:nth a j = nth b j
  · rw [decide_eq_true h2] at cc
    simp only [go_sem,decide_eq_true h1]
    refine ⟨by omega,h1,by omega,hjb,?_⟩
    refine ⟨hb,?_⟩
    refine call_same (cc) (by simp [go_sem]) ?_
    simp only [go_sem]
    refine klp_n (j + 1) ⟨show j + 1 ≤ a.length by omega,fun k hk=>?_⟩ (show a.length - (j + 1) < a.length - j by omega) (Wk.of ?_ ?_)
    · rcases Nat.lt_or_ge k j with h | h
      · exact hx k h
      · rw [show k = j by omega]; exact h2
    · simp only [go_sem,e8]; try simp
    · simp only [go_sem]
  · rw [decide_eq_false h2] at cc
    rw [decide_eq_false (fun e=>h2 (by rw [e]))]
    simp only [go_sem,decide_eq_true h1]
    refine ⟨by omega,h1,by omega,hjb,?_⟩
    refine ⟨hb,?_⟩
    refine call_same (cc) (by simp [go_sem]) ?_
    simp only [go_sem]
    exact pdone [] (by simp only [go_sem]) (by first | rfl | simp [go_sem,slv_ids])
theorem m_eqNm (x y:Nm):PCalls Tryz.prog nX31 [.agg (nm_ x),.agg (nm_ y)] (.bool (decide (x = y))):=by
  refine pfun_sound (ic:=FX31.body) mixed cX31 rfl rfl ?_
  simp only [go_sem,FX31,nm_eq]
  exact pdone [] (by simp only [go_sem]) (by first | rfl | simp [go_sem,slv_ids])
theorem m_nms (a b:List Nm) (ha:a.length ≤ 9223372036854775807):PCalls Tryz.prog nX47 [.sl 2 (a.map nm_),.sl 2 (b.map nm_),.fn nX31 []] (.bool (decide (a = b))):=m_sameNm (by kernel_rfl) a b ha (fun x hx y=>m_eqNm x y)
theorem m_lc (x y:Lc) (h:x.l.length ≤ 9223372036854775807):PCalls Tryz.prog nX50 [.agg (lc_ x),.agg (lc_ y)] (.bool (decide (x = y))):=by
  refine pfun_sound (ic:=FX50.body) mixed cX50 rfl rfl ?_
  have d:=m_nms x.l y.l h
  by_cases c0:x.f = y.f
  rotate_left
  · rw [decide_eq_false (fun e=>c0 (by rw [e]))]
    simp only [go_sem,FX50,beq_f c0]
    exact pdone [] (by simp only [go_sem]) (by first | rfl | simp [go_sem,slv_ids])
  by_cases c1:x.l = y.l
  · rw [decide_eq_true c1] at d
    rw [decide_eq_true (show x = y by obtain ⟨a1,a2⟩:=x; obtain ⟨b1,b2⟩:=y; simp only at c0 c1; rw [c0,c1])]
    simp only [go_sem,FX50,beq_t c0]
    refine call_same (d) (by simp [go_sem]) ?_
    simp only [go_sem]
    exact pdone [] (by simp only [go_sem]) (by first | rfl | simp [go_sem,slv_ids])
  · rw [decide_eq_false c1] at d
    rw [decide_eq_false (fun e=>c1 (by rw [e]))]
    simp only [go_sem,FX50,beq_t c0]
    refine call_same (d) (by simp [go_sem]) ?_
    simp only [go_sem]
    exact pdone [] (by simp only [go_sem]) (by first | rfl | simp [go_sem,slv_ids])
theorem m_samenames (a b:Ns) (ha:lnN a):PCalls Tryz.prog nX57 [ns_ a,ns_ b] (.bool (decide (a = b))):=by
  refine pfun_sound (ic:=FX57.body) mixed cX57 rfl rfl ?_
  have d1:=m_nms a.fs b.fs ha.1
  have d2:=m_sameLc (f:=nX50) (by kernel_rfl) a.ls b.ls ha.2.1 (fun x hx y=>m_lc x y (ha.2.2 x hx))
  by_cases c0:a.m = b.m
  rotate_left
  · rw [decide_eq_false (fun e=>c0 (by rw [e]))]
    simp only [go_sem,FX57,bst c0]
    exact pdone [] (by simp only [go_sem]) (by first | rfl | simp [go_sem,slv_ids])
  by_cases c1:a.fs = b.fs
  rotate_left
  · rw [decide_eq_false c1] at d1
    rw [decide_eq_false (fun e=>c1 (by rw [e]))]
    simp only [go_sem,FX57,bsf c0]
    refine call_same (d1) (by simp [go_sem]) ?_
    simp only [go_sem]
    exact pdone [] (by simp only [go_sem]) (by first | rfl | simp [go_sem,slv_ids])
  rw [decide_eq_true c1] at d1
  by_cases c2:a.ls = b.ls
  · rw [decide_eq_true c2] at d2
    rw [decide_eq_true (show a = b by obtain ⟨a1,a2,a3⟩:=a; obtain ⟨b1,b2,b3⟩:=b; simp only at c0 c1 c2; rw [c0,c1,c2])]
    simp only [go_sem,FX57,bsf c0]
    refine call_same (d1) (by simp [go_sem]) ?_
    simp only [go_sem]
    refine call_same (d2) (by simp [go_sem]) ?_
    simp only [go_sem]
    exact pdone [] (by simp only [go_sem]) (by first | rfl | simp [go_sem,slv_ids])
  · rw [decide_eq_false c2] at d2
    rw [decide_eq_false (fun e=>c2 (by rw [e]))]
    simp only [go_sem,FX57,bsf c0]
    refine call_same (d1) (by simp [go_sem]) ?_
    simp only [go_sem]
    refine call_same (d2) (by simp [go_sem]) ?_
    simp only [go_sem]
    exact pdone [] (by simp only [go_sem]) (by first | rfl | simp [go_sem,slv_ids])
end Go.Proofs.YtoaagdbbbojpmaaGreatDoor
set_option maxRecDepth 100000
set_option maxHeartbeats 40000000
set_option linter.unusedVariables false
set_option linter.unusedSimpArgs false
namespace Go.Proofs.YtoaagdbbbojpmaaGreatDoor
open Go Go.Mw
-- @U: List.length_map,mdC_e

end Go.Proofs.YtoaagdbbbojpmaaGreatDoor
set_option maxRecDepth 100000
set_option linter.unusedVariables false
set_option linter.unusedSimpArgs false
namespace Go.Proofs.YtoaagdbbbojpmaaGreatDoor
open Go Go.Mw

end Go.Proofs.YtoaagdbbbojpmaaGreatDoor
