/-
  Chapter 14,walks: the reference's Of,last,With.
-/
import Derived.Test.YtoikbadfbneahaaGreatDoorQy
import Derived.Test.YtoikbadfbneahaaGreatDoorQj
import Derived.Test.YtoikbadfbneahaaGreatDoorQl
set_option linter.unusedVariables false
set_option linter.unusedSimpArgs false
set_option linter.unusedSectionVars false
set_option maxRecDepth 100000
set_option maxHeartbeats 40000000
set_option linter.unusedVariables false
set_option linter.unusedSimpArgs false
namespace Go.Proofs.YtoikbadfbneahaaGreatDoor
open Go Go.Mw
-- @U: List.length_map,mdC_e,cuC_e

theorem u_of14 (m:Md) (h:m.cs.length ≤ 9223372036854775807) (hb:∀ c ∈ m.cs,c.b.length < 1000000000):PCalls Tryz.prog nX135 [md_ m] (.tup [ns_ (ofA m.cs).1,.bool (ofA m.cs).2.1,.int .i64 (ofA m.cs).2.2]):=by
  refine pfun_sound (ic:=FX135.body) mixed cX135 rfl rfl ?_
  obtain ⟨G,hG⟩:∃ G,ofA m.cs = G:=⟨_,rfl⟩
  rw [hG]
  simp only [go_sem,List.length_map,mdC_e,cuC_e,FX135,md_]
  refine loop_rule (fun j:Nat=>⟨[(5,.int .i64 j),(1,.mp 1 12 0 0),(2,.mp 2 3 0 0)],[(1,⟨44,12,[mdC m],true⟩),(2,⟨25,3,[[.str [],.nl,.nl]],true⟩)]⟩) (fun j=>j ≤ m.cs.length ∧ G = ofA (m.cs.drop j)) (fun j=>m.cs.length - j) 0 ⟨Nat.zero_le _,hG.symm⟩ (Wk.of ?_ ?_) ?_
  · simp only [go_sem,List.length_map,mdC_e,cuC_e]; try simp
  · simp only [go_sem,List.length_map,mdC_e,cuC_e]
  rintro j ⟨hj,hx⟩
  by_cases h1:(j:Int) < (m.cs.length:Int)
  · have hj':j < m.cs.length:=by omega
    rw [ofA_at hj'] at hx
    have e8:=wi (n:=(j:Int) + 1) (by omega) (by omega)
    by_cases h2:(nth m.cs j).n = nmB
    · rw [if_pos h2] at hx
      subst hx
      have cd:=u_decode (nth m.cs j).b (at_in hb hj')
      simp only [go_sem,List.length_map,mdC_e,cuC_e,decide_eq_true h1,cuC_e,h2,nmB]
      refine ⟨by omega,h1,by omega,h1,?_⟩
      refine call_same (cd) (by simp [go_sem,List.length_map,mdC_e,cuC_e]) ?_
      simp only [go_sem,List.length_map,mdC_e,cuC_e]
      exact pdone [] (by simp only [go_sem,List.length_map,mdC_e,cuC_e]) (by first | rfl | simp [go_sem,slv_ids,List.length_map,mdC_e,cuC_e])
    · rw [if_neg h2] at hx
      simp only [go_sem,List.length_map,mdC_e,cuC_e,decide_eq_true h1,cuC_e,show ((nth m.cs j).n == [110,97,109,101]) = false by simpa [nmB] using h2]
      refine ⟨by omega,h1,klp_n (j + 1) ⟨show j + 1 ≤ m.cs.length by omega,hx⟩ (show m.cs.length - (j + 1) < m.cs.length - j by omega) (Wk.of ?_ ?_)⟩
      · simp only [go_sem,List.length_map,mdC_e,cuC_e,e8]; try simp
      · simp only [go_sem,List.length_map,mdC_e,cuC_e]
  · rw [drop_end (by omega)] at hx
    subst hx
    simp only [go_sem,List.length_map,mdC_e,cuC_e,decide_eq_false h1]
    exact wpdone (Wk.nlm _ 2 (r':=nsC default) (by rfl) nsC_0) [] (by first | rfl | simp only [go_sem,List.length_map,mdC_e,cuC_e,nsC]) rfl
theorem u_last14 (m:Md):PCalls Tryz.prog nX112 [md_ m] (.int .i64 (lastM m)):=by
  refine pfun_sound (ic:=FX112.body) mixed cX112 rfl rfl ?_
  cases g0:decide ((m.ds.length:Int) > 0)
  rotate_left
  · rw [show lastM m = 12 by simp only [lastM,lsL,lstN,g0]; rfl]
    simp only [go_sem,List.length_map,mdC_e,cuC_e,FX112,md_,g0]
    exact pdone [] (by simp only [go_sem,List.length_map,mdC_e,cuC_e]) (by first | rfl | simp [go_sem,slv_ids,List.length_map,mdC_e,cuC_e])
  cases g1:decide ((m.fs.length:Int) > 0)
  rotate_left
  · rw [show lastM m = 11 by simp only [lastM,lsL,lstN,g0,g1]; rfl]
    simp only [go_sem,List.length_map,mdC_e,cuC_e,FX112,md_,g0,g1]
    exact pdone [] (by simp only [go_sem,List.length_map,mdC_e,cuC_e]) (by first | rfl | simp [go_sem,slv_ids,List.length_map,mdC_e,cuC_e])
  cases g2:decide ((m.els.length:Int) > 0)
  rotate_left
  · rw [show lastM m = 9 by simp only [lastM,lsL,lstN,g0,g1,g2]; rfl]
    simp only [go_sem,List.length_map,mdC_e,cuC_e,FX112,md_,g0,g1,g2]
    exact pdone [] (by simp only [go_sem,List.length_map,mdC_e,cuC_e]) (by first | rfl | simp [go_sem,slv_ids,List.length_map,mdC_e,cuC_e])
  cases g3:m.hs
  rotate_left
  · rw [show lastM m = 8 by simp only [lastM,lsL,lstN,g0,g1,g2,g3]; rfl]
    simp only [go_sem,List.length_map,mdC_e,cuC_e,FX112,md_,g0,g1,g2,g3]
    exact pdone [] (by simp only [go_sem,List.length_map,mdC_e,cuC_e]) (by first | rfl | simp [go_sem,slv_ids,List.length_map,mdC_e,cuC_e])
  cases g4:decide ((m.exs.length:Int) > 0)
  rotate_left
  · rw [show lastM m = 7 by simp only [lastM,lsL,lstN,g0,g1,g2,g3,g4]; rfl]
    simp only [go_sem,List.length_map,mdC_e,cuC_e,FX112,md_,g0,g1,g2,g3,g4]
    exact pdone [] (by simp only [go_sem,List.length_map,mdC_e,cuC_e]) (by first | rfl | simp [go_sem,slv_ids,List.length_map,mdC_e,cuC_e])
  cases g5:decide ((m.gs.length:Int) > 0)
  rotate_left
  · rw [show lastM m = 6 by simp only [lastM,lsL,lstN,g0,g1,g2,g3,g4,g5]; rfl]
    simp only [go_sem,List.length_map,mdC_e,cuC_e,FX112,md_,g0,g1,g2,g3,g4,g5]
    exact pdone [] (by simp only [go_sem,List.length_map,mdC_e,cuC_e]) (by first | rfl | simp [go_sem,slv_ids,List.length_map,mdC_e,cuC_e])
  cases g6:decide ((m.ms.length:Int) > 0)
  rotate_left
  · rw [show lastM m = 5 by simp only [lastM,lsL,lstN,g0,g1,g2,g3,g4,g5,g6]; rfl]
    simp only [go_sem,List.length_map,mdC_e,cuC_e,FX112,md_,g0,g1,g2,g3,g4,g5,g6]
    exact pdone [] (by simp only [go_sem,List.length_map,mdC_e,cuC_e]) (by first | rfl | simp [go_sem,slv_ids,List.length_map,mdC_e,cuC_e])
  cases g7:decide ((m.tbs.length:Int) > 0)
  rotate_left
  · rw [show lastM m = 4 by simp only [lastM,lsL,lstN,g0,g1,g2,g3,g4,g5,g6,g7]; rfl]
    simp only [go_sem,List.length_map,mdC_e,cuC_e,FX112,md_,g0,g1,g2,g3,g4,g5,g6,g7]
    exact pdone [] (by simp only [go_sem,List.length_map,mdC_e,cuC_e]) (by first | rfl | simp [go_sem,slv_ids,List.length_map,mdC_e,cuC_e])
  cases g8:decide ((m.ims.length:Int) > 0)
  rotate_left
  · rw [show lastM m = 2 by simp only [lastM,lsL,lstN,g0,g1,g2,g3,g4,g5,g6,g7,g8]; rfl]
    simp only [go_sem,List.length_map,mdC_e,cuC_e,FX112,md_,g0,g1,g2,g3,g4,g5,g6,g7,g8]
    exact pdone [] (by simp only [go_sem,List.length_map,mdC_e,cuC_e]) (by first | rfl | simp [go_sem,slv_ids,List.length_map,mdC_e,cuC_e])
  cases g9:decide ((m.ts.length:Int) > 0)
  rotate_left
  · rw [show lastM m = 1 by simp only [lastM,lsL,lstN,g0,g1,g2,g3,g4,g5,g6,g7,g8,g9]; rfl]
    simp only [go_sem,List.length_map,mdC_e,cuC_e,FX112,md_,g0,g1,g2,g3,g4,g5,g6,g7,g8,g9]
    exact pdone [] (by simp only [go_sem,List.length_map,mdC_e,cuC_e]) (by first | rfl | simp [go_sem,slv_ids,List.length_map,mdC_e,cuC_e])
  rw [show lastM m = 0 by simp only [lastM,lsL,lstN,g0,g1,g2,g3,g4,g5,g6,g7,g8,g9]; rfl]
  simp only [go_sem,List.length_map,mdC_e,cuC_e,FX112,md_,g0,g1,g2,g3,g4,g5,g6,g7,g8,g9]
  exact pdone [] (by simp only [go_sem,List.length_map,mdC_e,cuC_e]) (by first | rfl | simp [go_sem,slv_ids,List.length_map,mdC_e,cuC_e])
theorem u_with14 (m:Md) (n:Ns) (hm:m.cs.length ≤ 1048576) (hn:smN n):PCalls Tryz.prog nX108 [md_ m,ns_ n] (.tup [md_ (withA m n).1,.int .i64 (withA m n).2]):=by
  refine pfun_sound (ic:=FX108.body) mixed cX108 rfl rfl ?_
  have ce:=u_encode n hn
  have cl:=u_last14 m
  simp only [ns_e] at ce
  simp only [md_,mdC_e] at cl
  unfold withA
  generalize encA n = E at *
  obtain ⟨b,e⟩:=E
  simp only at ce ⊢
  by_cases he:e = 0
  rotate_left
  · rw [if_pos he]
    simp only [go_sem,List.length_map,mdC_e,cuC_e,FX108,md_,mdC_e]
    refine call_same (ce) (by simp [go_sem,List.length_map,mdC_e,cuC_e]) ?_
    simp only [go_sem,List.length_map,mdC_e,cuC_e,bne_t he]
    exact wpdone (Wk.nlm _ 4 (r':=mdC default) (by rfl) mdC_0) [] (by first | rfl | simp only [go_sem,List.length_map,mdC_e,cuC_e,mdC_e]) rfl
  subst he
  rw [if_neg (by decide)]
  simp only [go_sem,List.length_map,mdC_e,cuC_e,FX108,md_,mdC_e]
  refine call_same (ce) (by simp [go_sem,List.length_map,mdC_e,cuC_e]) ?_
  simp only [go_sem,List.length_map,mdC_e,cuC_e]
  refine loop_rule (fun i:Nat=>⟨[(9,.int .i64 i),(8,.ms 900 3 0 (flt (m.cs.take i)).length),(6,.sl 1 (b.map by_)),(2,.mp 2 12 0 0),(4,.mp 4 12 0 0)],[(900,⟨60,3,(flt (m.cs.take i)).map cuC,false⟩),(2,⟨44,12,[mdC m],true⟩),(4,⟨44,12,[[.nl,.nl,.nl,.nl,.nl,.nl,.nl,.bool false,.int .i64 0,.nl,.nl,.nl]],true⟩)]⟩) (fun i=>i ≤ m.cs.length) (fun i=>m.cs.length - i) 0 (Nat.zero_le _) ((Wk.nil _ 8 900 3 60 (by simp only [go_sem,List.length_map,mdC_e,cuC_e]) (.inl (by decide))).trans (Wk.of ?_ ?_)) ?_
  · simp only [go_sem,List.length_map,mdC_e,cuC_e,St.mknil,List.take_zero,flt,List.filter_nil]; try simp [go_sem]
  · simp only [go_sem,List.length_map,mdC_e,cuC_e,St.mknil,List.take_zero,flt,List.filter_nil,mdC_e]; try simp [go_sem]
  intro i hi
  have hfl:=flt_len (m.cs.take i)
  rw [List.length_take] at hfl
  have happ:=fun ys=>appO_map 900 60 3 (flt (m.cs.take i)).length cuC (flt (m.cs.take i)) ys rfl
  by_cases h1:(i:Int) < (m.cs.length:Int)
  · have hi':i < m.cs.length:=by omega
    have e8:=wi (n:=(i:Int) + 1) (by omega) (by omega)
    have ht:=flt_tk hi'
    by_cases h2:(nth m.cs i).n = nmB
    · rw [if_pos h2,List.append_nil] at ht
      simp only [go_sem,List.length_map,mdC_e,cuC_e,decide_eq_true h1,cuC_e,h2,nmB]
      refine ⟨by omega,h1,klp_n (i + 1) (show i + 1 ≤ m.cs.length by omega) (show m.cs.length - (i + 1) < m.cs.length - i by omega) (Wk.of ?_ ?_)⟩
      · simp only [go_sem,List.length_map,mdC_e,cuC_e,e8,ht]; try simp
      · simp only [go_sem,List.length_map,mdC_e,cuC_e,ht]; try simp
    · rw [if_neg h2] at ht
      simp only [go_sem,List.length_map,mdC_e,cuC_e,decide_eq_true h1,show ((nth m.cs i).n == [110,97,109,101]) = false by simpa [nmB] using h2,happ]
      refine ⟨by omega,h1,by omega,h1,by omega,klp_n (i + 1) (show i + 1 ≤ m.cs.length by omega) (show m.cs.length - (i + 1) < m.cs.length - i by omega) (Wk.of ?_ ?_)⟩
      · simp only [go_sem,List.length_map,mdC_e,cuC_e,e8,ht,List.length_append,List.length_singleton]; try simp
      · simp only [go_sem,List.length_map,mdC_e,cuC_e,ht,List.map_append]; try simp [cuC_e]
  · obtain rfl:i = m.cs.length:=by omega
    rw [List.take_length] at *
    by_cases hb0:b.length = 0
    · rw [if_pos hb0]
      simp only [go_sem,List.length_map,mdC_e,cuC_e,decide_eq_false h1,List.take_length,decide_eq_false (show ¬ (b.length:Int) > 0 by omega)]
      refine pdone [900] ?_ rfl
      simp only [go_sem,List.length_map,mdC_e,cuC_e,Nat.le_refl,md_]
      rw [List.take_of_length_le (by simp)]
    rw [if_neg hb0]
    have hbp:(b.length:Int) > 0:=by omega
    by_cases hb1:(b.length:Int) > 4096
    · rw [if_pos (.inl (by omega))]
      simp only [go_sem,List.length_map,mdC_e,cuC_e,decide_eq_false h1,List.take_length,decide_eq_true hbp,decide_eq_true hb1]
      exact wpdone (Wk.nlm _ 4 (r':=mdC default) (by rfl) mdC_0) [] (by first | rfl | simp only [go_sem,List.length_map,mdC_e,cuC_e,md_]) rfl
    by_cases hb2:((flt m.cs).length:Int) ≥ 8
    · rw [if_pos (.inr (by omega))]
      simp only [go_sem,List.length_map,mdC_e,cuC_e,decide_eq_false h1,List.take_length,decide_eq_true hbp,decide_eq_false hb1,decide_eq_true hb2]
      exact wpdone (Wk.nlm _ 4 (r':=mdC default) (by rfl) mdC_0) [] (by first | rfl | simp only [go_sem,List.length_map,mdC_e,cuC_e,md_]) rfl
    rw [if_neg (by omega)]
    simp only [go_sem,List.length_map,mdC_e,cuC_e,decide_eq_false h1,List.take_length,decide_eq_true hbp,decide_eq_false hb1,decide_eq_false hb2]
    refine call_same (cl) (by simp [go_sem,List.length_map,mdC_e,cuC_e]) ?_
    simp only [go_sem,List.length_map,mdC_e,cuC_e,happ]
    refine ⟨by omega,pdone [900] ?_ rfl⟩
    simp only [go_sem,List.length_map,mdC_e,cuC_e,md_,List.length_append,List.length_singleton,List.map_append,nmB]
    rw [if_pos (by simp),List.take_of_length_le (by simp)]
    try rfl
end Go.Proofs.YtoikbadfbneahaaGreatDoor
