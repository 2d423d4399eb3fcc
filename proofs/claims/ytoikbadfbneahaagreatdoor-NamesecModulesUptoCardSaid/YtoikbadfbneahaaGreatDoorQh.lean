/-
  Chapter 14,walks: lists of names read.
-/
import Derived.Test.YtoikbadfbneahaaGreatDoorQf
import Derived.Test.YtoikbadfbneahaaGreatDoorQe
set_option linter.unusedVariables false
set_option linter.unusedSimpArgs false
set_option linter.unusedSectionVars false
set_option maxRecDepth 100000
set_option maxHeartbeats 20000000
set_option linter.unusedVariables false
set_option linter.unusedSimpArgs false
namespace Go.Proofs.YtoikbadfbneahaaGreatDoor
open Go Go.Mw
-- @U: List.length_map,ro

theorem tt14:(true && (0:Int) == 0) = true:=rfl
theorem lastI_e {l:List Nm} (h:l ≠ []):lastI l = (nth l (l.length - 1)).i:=by
  have hp:=List.length_pos_iff.2 h
  unfold lastI
  rw [List.getLast?_eq_getElem?,nth_some (by omega)]
theorem lastF_e {l:List Lc} (h:l ≠ []):lastF l = (nth l (l.length - 1)).f:=by
  have hp:=List.length_pos_iff.2 h
  unfold lastF
  rw [List.getLast?_eq_getElem?,nth_some (by omega)]
theorem gt_ok {k:Nat} {b:List UInt8} {a:Nat} {out:List Nm} {v a1:Nat} {e1:Int} {s:List UInt8} {a2:Nat} {e2:Int} (hU:rU true 32 b a 0 = (v,a1,e1)) (hN:rName (e1 == 0) b a1 e1 = (s,a2,e2)) :
    gt (k + 1) b a 0 out = gt k b a2 (gtE out v e2) (out ++ [⟨v,s⟩]):=by
  rw [gt,if_neg (by decide)]
  simp only [hU,hN]
theorem gt_stop {k:Nat} {b:List UInt8} {a:Nat} {e:Int} {out:List Nm} (h:e ≠ 0 ∨ k = 0):gt k b a e out = (out,a,e):=by
  cases k with
  | zero=>rfl
  | succ k=>rw [gt,if_pos (by simpa using h)]
theorem gc_ok {k:Nat} {b:List UInt8} {a:Nat} {out:List Lc} {v a1:Nat} {e1:Int} {l:List Nm} {a2:Nat} {e2:Int} (hU:rU true 32 b a 0 = (v,a1,e1)) (hN:gtN b a1 (gcE out v e1) 72 = (l,a2,e2)) :
    gc (k + 1) b a 0 out = gc k b a2 e2 (out ++ [⟨v,l⟩]):=by
  rw [gc,if_neg (by decide)]
  simp only [hU,hN]
theorem gc_stop {k:Nat} {b:List UInt8} {a:Nat} {e:Int} {out:List Lc} (h:e ≠ 0 ∨ k = 0):gc k b a e out = (out,a,e):=by
  cases k with
  | zero=>rfl
  | succ k=>rw [gc,if_pos (by simpa using h)]
theorem gt_a:∀ (k:Nat) {b:List UInt8} {a:Nat} {e:Int} {out:List Nm},a ≤ b.length → (gt k b a e out).2.1 ≤ b.length
  | 0,b,a,e,out,h=>h
  | k + 1,b,a,e,out,h=>by
    rw [gt]
    split
    · exact h
    · exact gt_a k (rName_a (rU_a h))
theorem gtN_a {b:List UInt8} {a:Nat} {e most:Int} (h:a ≤ b.length):(gtN b a e most).2.1 ≤ b.length:=gt_a _ (rCount_a h)
theorem v_get (b:List UInt8) (a:Nat) (e most:Int) (ha:a ≤ b.length) (hb:b.length < 1000000000) (hm:most ≤ 1000) :
    RM nX126 [.int .i64 most] true b a e (.sl 2 ((gtN b a e most).1.map nm_)) (gtN b a e most).2.1 (gtN b a e most).2.2:=by
  refine fun_sound (ic:=FX126.body) mixed cX126 rfl rfl ?_
  have hc:=s_count true b a e most ha hb
  rw [Bool.true_and] at hc
  have hca:=rCount_a (ok:=e == 0) (e:=e) (most:=most) ha
  have hcl:=rCount_lt (e == 0) b a e most
  unfold gtN
  generalize rCount (e == 0) b a e most = c at *
  obtain ⟨N,a0,e0⟩:=c
  simp only at hc hca hcl
  obtain ⟨G,hG⟩:∃ G,gt N b a0 e0 [] = G:=⟨_,rfl⟩
  rw [hG]
  simp only [go_sem,List.length_map,ro,FX126]
  refine call_m (hc) ⟨by decide,by decide⟩ (by first | rfl | exact slv_ids _) (by simp [go_sem,List.length_map,ro]) rfl rfl (by rfl) ?_
  simp only [go_sem,List.length_map,ro]
  refine loop_rule (fun q:Nat × Nat × Int × List Nm=>⟨[(6,.int .i64 q.1),(5,.ms 900 2 0 q.2.2.2.length),(0,.mp 1000 4 0 0)],[(900,⟨129,2,q.2.2.2.map nm_,false⟩),(1000,ro true b q.2.1 q.2.2.1)]⟩)
    (fun q=>q.2.1 ≤ b.length ∧ q.1 + q.2.2.2.length ≤ 4294967296 ∧ G = gt q.1 b q.2.1 q.2.2.1 q.2.2.2) (fun q=>q.1) (N,a0,e0,[]) ⟨hca,by simp; omega,hG.symm⟩ ((Wk.nil _ 5 900 2 129 (by simp only [go_sem,List.length_map,ro]) (.inl (by decide))).trans (Wk.of ?_ ?_)) ?_
  · simp only [go_sem,List.length_map,ro,St.mknil]; try simp [go_sem]
  · simp only [go_sem,List.length_map,ro,St.mknil]; try simp [go_sem]
  rintro ⟨k,a1,e1,out⟩ ⟨h1,h2,h3⟩
  simp only at h1 h2 h3
  have happ:=fun ys=>appO_map 900 129 2 out.length nm_ out ys rfl
  by_cases hk:(k:Int) > 0
  rotate_left
  · rw [gt_stop (.inr (by omega))] at h3
    subst h3
    simp only [go_sem,List.length_map,ro,decide_eq_false hk]
    refine done [900] (.sl 2 (out.map nm_)) [(1000,ro true b a1 e1)] ?_ (by simp only [go_sem,List.length_map,ro]) rfl ⟨rfl,rfl⟩
    simp only [go_sem,List.length_map,ro,Nat.le_refl]
    rw [List.take_of_length_le (by simp)]
  by_cases he:e1 = 0
  rotate_left
  · rw [gt_stop (.inl he)] at h3
    subst h3
    simp only [go_sem,List.length_map,ro,decide_eq_true hk]
    refine call_m (s_err true b a1 e1) ⟨by decide,by decide⟩ (by first | rfl | exact slv_ids _) (by simp [go_sem,List.length_map,ro]) rfl rfl (by rfl) ?_
    simp only [go_sem,List.length_map,ro,beq_f he]
    refine done [900] (.sl 2 (out.map nm_)) [(1000,ro true b a1 e1)] ?_ (by simp only [go_sem,List.length_map,ro]) rfl ⟨rfl,rfl⟩
    simp only [go_sem,List.length_map,ro,Nat.le_refl]
    rw [List.take_of_length_le (by simp)]
  subst he
  obtain ⟨k,rfl⟩:∃ k',k = k' + 1:=⟨k - 1,by omega⟩
  have e9:IntKind.i64.wrap (((k + 1:Nat):Int) - 1) = (k:Int):=by rw [wi (by omega) (by omega)]; omega
  have cU:=s_U32 true b a1 0 h1 hb
  rw [tt14] at cU
  have uA:=rU_a (ok:=true) (bits:=32) (e:=0) h1
  have uL:=rU_lt true b a1 0
  rcases hU:rU true 32 b a1 0 with ⟨v,a2,e2⟩
  rw [hU] at cU uA uL
  simp only at cU uA uL
  have cN:=s_name true b a2 e2 uA hb
  rw [Bool.true_and] at cN
  have nA:=rName_a (ok:=e2 == 0) (e:=e2) uA
  rcases hN:rName (e2 == 0) b a2 e2 with ⟨s,a3,e3⟩
  rw [hN] at cN nA
  simp only at cN nA
  rw [gt_ok hU hN] at h3
  have hl2:(out ++ [⟨(v:Int),s⟩]:List Nm).length = out.length + 1:=by simp
  have hk':k < k + 1:=by omega
  by_cases hz:out.length = 0
  · rw [show gtE out v e3 = e3 by unfold gtE; rw [if_neg (fun h=>h.2.1 (List.eq_nil_of_length_eq_zero hz))]] at h3
    simp only [go_sem,List.length_map,ro,decide_eq_true hk]
    refine call_m (s_err true b a1 0) ⟨by decide,by decide⟩ (by first | rfl | exact slv_ids _) (by simp [go_sem,List.length_map,ro]) rfl rfl (by rfl) ?_
    simp only [go_sem,List.length_map,ro]
    refine call_m (cU) ⟨by decide,by decide⟩ (by first | rfl | exact slv_ids _) (by simp [go_sem,List.length_map,ro]) rfl rfl (by rfl) ?_
    simp only [go_sem,List.length_map,ro]
    refine call_m (cN) ⟨by decide,by decide⟩ (by first | rfl | exact slv_ids _) (by simp [go_sem,List.length_map,ro]) rfl rfl (by rfl) ?_
    simp only [go_sem,List.length_map,ro,happ,decide_eq_false (show ¬ (out.length:Int) > 0 by omega)]
    refine ⟨by omega,klp_n (k,a3,e3,out ++ [⟨v,s⟩]) ⟨nA,show k + (out ++ [(⟨v,s⟩:Nm)]).length ≤ 4294967296 by omega,h3⟩ hk' (Wk.of ?_ ?_)⟩
    · simp only [go_sem,List.length_map,ro,e9]; try simp
    · simp only [go_sem,List.length_map,ro]; try simp [nm_e]
  · have hne:out ≠ []:=fun h=>hz (by rw [h]; rfl)
    have e7:IntKind.i64.wrap ((out.length:Int) - 1) = ((out.length - 1:Nat):Int):=by rw [wi (by omega) (by omega)]; omega
    have hlt:out.length - 1 < out.length:=by omega
    by_cases hle:(v:Int) ≤ (nth out (out.length - 1)).i
    · have hg:gtE out v e3 = if (true && e3 == 0) = true then 7 else e3:=by
        unfold gtE
        rw [lastI_e hne]
        by_cases q:e3 = 0
        · rw [if_pos ⟨q,hne,hle⟩,if_pos (by simp [q])]
        · rw [if_neg (fun h=>q h.1),if_neg (by simp [q])]
      rw [hg] at h3
      simp only [go_sem,List.length_map,ro,decide_eq_true hk]
      refine call_m (s_err true b a1 0) ⟨by decide,by decide⟩ (by first | rfl | exact slv_ids _) (by simp [go_sem,List.length_map,ro]) rfl rfl (by rfl) ?_
      simp only [go_sem,List.length_map,ro]
      refine call_m (cU) ⟨by decide,by decide⟩ (by first | rfl | exact slv_ids _) (by simp [go_sem,List.length_map,ro]) rfl rfl (by rfl) ?_
      simp only [go_sem,List.length_map,ro]
      refine call_m (cN) ⟨by decide,by decide⟩ (by first | rfl | exact slv_ids _) (by simp [go_sem,List.length_map,ro]) rfl rfl (by rfl) ?_
      simp only [go_sem,List.length_map,ro,decide_eq_true (show (out.length:Int) > 0 by omega),e7,hlt,decide_eq_true hle]
      refine ⟨by omega,?_⟩
      refine call_m (s_fail true b a3 e3 7) ⟨by decide,by decide⟩ (by first | rfl | exact slv_ids _) (by simp [go_sem,List.length_map,ro]) rfl rfl (by rfl) ?_
      simp only [go_sem,List.length_map,ro,happ]
      refine ⟨by omega,klp_n (k,a3,if (true && e3 == 0) = true then 7 else e3,out ++ [⟨v,s⟩]) ⟨nA,show k + (out ++ [(⟨v,s⟩:Nm)]).length ≤ 4294967296 by omega,h3⟩ hk' (Wk.of ?_ ?_)⟩
      · simp only [go_sem,List.length_map,ro,e9]; try simp
      · simp only [go_sem,List.length_map,ro]; try simp [nm_e]
    · have hg:gtE out v e3 = e3:=by
        unfold gtE
        rw [lastI_e hne,if_neg (fun h=>hle h.2.2)]
      rw [hg] at h3
      simp only [go_sem,List.length_map,ro,decide_eq_true hk]
      refine call_m (s_err true b a1 0) ⟨by decide,by decide⟩ (by first | rfl | exact slv_ids _) (by simp [go_sem,List.length_map,ro]) rfl rfl (by rfl) ?_
      simp only [go_sem,List.length_map,ro]
      refine call_m (cU) ⟨by decide,by decide⟩ (by first | rfl | exact slv_ids _) (by simp [go_sem,List.length_map,ro]) rfl rfl (by rfl) ?_
      simp only [go_sem,List.length_map,ro]
      refine call_m (cN) ⟨by decide,by decide⟩ (by first | rfl | exact slv_ids _) (by simp [go_sem,List.length_map,ro]) rfl rfl (by rfl) ?_
      simp only [go_sem,List.length_map,ro,decide_eq_true (show (out.length:Int) > 0 by omega),e7,hlt,decide_eq_false hle,happ]
      refine ⟨by omega,by omega,klp_n (k,a3,e3,out ++ [⟨v,s⟩]) ⟨nA,show k + (out ++ [(⟨v,s⟩:Nm)]).length ≤ 4294967296 by omega,h3⟩ hk' (Wk.of ?_ ?_)⟩
      · simp only [go_sem,List.length_map,ro,e9]; try simp
      · simp only [go_sem,List.length_map,ro]; try simp [nm_e]
theorem v_locals (b:List UInt8) (a:Nat) (e:Int) (ha:a ≤ b.length) (hb:b.length < 1000000000) :
    RM nX66 [] true b a e (.sl 2 ((gcN b a e).1.map lc_)) (gcN b a e).2.1 (gcN b a e).2.2:=by
  refine fun_sound (ic:=FX66.body) mixed cX66 rfl rfl ?_
  have hc:=s_count true b a e 64 ha hb
  rw [Bool.true_and] at hc
  have hca:=rCount_a (ok:=e == 0) (e:=e) (most:=64) ha
  have hcl:=rCount_lt (e == 0) b a e 64
  unfold gcN
  generalize rCount (e == 0) b a e 64 = c at *
  obtain ⟨N,a0,e0⟩:=c
  simp only at hc hca hcl
  obtain ⟨G,hG⟩:∃ G,gc N b a0 e0 [] = G:=⟨_,rfl⟩
  rw [hG]
  simp only [go_sem,List.length_map,ro,FX66]
  refine call_m (hc) ⟨by decide,by decide⟩ (by first | rfl | exact slv_ids _) (by simp [go_sem,List.length_map,ro]) rfl rfl (by rfl) ?_
  simp only [go_sem,List.length_map,ro]
  refine loop_rule (fun q:Nat × Nat × Int × List Lc=>⟨[(4,.int .i64 q.1),(3,.ms 900 2 0 q.2.2.2.length),(0,.mp 1000 4 0 0)],[(900,⟨55,2,q.2.2.2.map lc_,false⟩),(1000,ro true b q.2.1 q.2.2.1)]⟩)
    (fun q=>q.2.1 ≤ b.length ∧ q.1 + q.2.2.2.length ≤ 4294967296 ∧ G = gc q.1 b q.2.1 q.2.2.1 q.2.2.2) (fun q=>q.1) (N,a0,e0,[]) ⟨hca,by simp; omega,hG.symm⟩ ((Wk.nil _ 3 900 2 55 (by simp only [go_sem,List.length_map,ro]) (.inl (by decide))).trans (Wk.of ?_ ?_)) ?_
  · simp only [go_sem,List.length_map,ro,St.mknil]; try simp [go_sem]
  · simp only [go_sem,List.length_map,ro,St.mknil]; try simp [go_sem]
  rintro ⟨k,a1,e1,out⟩ ⟨h1,h2,h3⟩
  simp only at h1 h2 h3
  have happ:=fun ys=>appO_map 900 55 2 out.length lc_ out ys rfl
  by_cases hk:(k:Int) > 0
  rotate_left
  · rw [gc_stop (.inr (by omega))] at h3
    subst h3
    simp only [go_sem,List.length_map,ro,decide_eq_false hk]
    refine done [900] (.sl 2 (out.map lc_)) [(1000,ro true b a1 e1)] ?_ (by simp only [go_sem,List.length_map,ro]) rfl ⟨rfl,rfl⟩
    simp only [go_sem,List.length_map,ro,Nat.le_refl]
    rw [List.take_of_length_le (by simp)]
  by_cases he:e1 = 0
  rotate_left
  · rw [gc_stop (.inl he)] at h3
    subst h3
    simp only [go_sem,List.length_map,ro,decide_eq_true hk]
    refine call_m (s_err true b a1 e1) ⟨by decide,by decide⟩ (by first | rfl | exact slv_ids _) (by simp [go_sem,List.length_map,ro]) rfl rfl (by rfl) ?_
    simp only [go_sem,List.length_map,ro,beq_f he]
    refine done [900] (.sl 2 (out.map lc_)) [(1000,ro true b a1 e1)] ?_ (by simp only [go_sem,List.length_map,ro]) rfl ⟨rfl,rfl⟩
    simp only [go_sem,List.length_map,ro,Nat.le_refl]
    rw [List.take_of_length_le (by simp)]
  subst he
  obtain ⟨k,rfl⟩:∃ k',k = k' + 1:=⟨k - 1,by omega⟩
  have e9:IntKind.i64.wrap (((k + 1:Nat):Int) - 1) = (k:Int):=by rw [wi (by omega) (by omega)]; omega
  have cU:=s_U32 true b a1 0 h1 hb
  rw [tt14] at cU
  have uA:=rU_a (ok:=true) (bits:=32) (e:=0) h1
  have uL:=rU_lt true b a1 0
  rcases hU:rU true 32 b a1 0 with ⟨v,a2,e2⟩
  rw [hU] at cU uA uL
  simp only at cU uA uL
  have cN:=v_get b a2 (gcE out v e2) 72 uA hb (by decide)
  have nA:=gtN_a (e:=gcE out v e2) (most:=72) uA
  rcases hN:gtN b a2 (gcE out v e2) 72 with ⟨s,a3,e3⟩
  rw [hN] at cN nA
  simp only at cN nA
  rw [gc_ok hU hN] at h3
  have hl2:(out ++ [⟨(v:Int),s⟩]:List Lc).length = out.length + 1:=by simp
  have hk':k < k + 1:=by omega
  by_cases hz:out.length = 0
  · rw [show gcE out v e2 = e2 by unfold gcE; rw [if_neg (fun h=>h.2.1 (List.eq_nil_of_length_eq_zero hz))]] at cN
    simp only [go_sem,List.length_map,ro,decide_eq_true hk]
    refine call_m (s_err true b a1 0) ⟨by decide,by decide⟩ (by first | rfl | exact slv_ids _) (by simp [go_sem,List.length_map,ro]) rfl rfl (by rfl) ?_
    simp only [go_sem,List.length_map,ro]
    refine call_m (cU) ⟨by decide,by decide⟩ (by first | rfl | exact slv_ids _) (by simp [go_sem,List.length_map,ro]) rfl rfl (by rfl) ?_
    simp only [go_sem,List.length_map,ro,decide_eq_false (show ¬ (out.length:Int) > 0 by omega)]
    refine call_m (cN) ⟨by decide,by decide⟩ (by first | rfl | exact slv_ids _) (by simp [go_sem,List.length_map,ro]) rfl rfl (by rfl) ?_
    simp only [go_sem,List.length_map,ro,happ]
    refine ⟨by omega,klp_n (k,a3,e3,out ++ [⟨v,s⟩]) ⟨nA,show k + (out ++ [(⟨v,s⟩:Lc)]).length ≤ 4294967296 by omega,h3⟩ hk' (Wk.of ?_ ?_)⟩
    · simp only [go_sem,List.length_map,ro,e9]; try simp
    · simp only [go_sem,List.length_map,ro]; try simp [lc_e]
  · have hne:out ≠ []:=fun h=>hz (by rw [h]; rfl)
    have e7:IntKind.i64.wrap ((out.length:Int) - 1) = ((out.length - 1:Nat):Int):=by rw [wi (by omega) (by omega)]; omega
    have hlt:out.length - 1 < out.length:=by omega
    by_cases hle:(v:Int) ≤ (nth out (out.length - 1)).f
    · have hg:gcE out v e2 = if (true && e2 == 0) = true then 7 else e2:=by
        unfold gcE
        rw [lastF_e hne]
        by_cases q:e2 = 0
        · rw [if_pos ⟨q,hne,hle⟩,if_pos (by simp [q])]
        · rw [if_neg (fun h=>q h.1),if_neg (by simp [q])]
      rw [hg] at cN
      simp only [go_sem,List.length_map,ro,decide_eq_true hk]
      refine call_m (s_err true b a1 0) ⟨by decide,by decide⟩ (by first | rfl | exact slv_ids _) (by simp [go_sem,List.length_map,ro]) rfl rfl (by rfl) ?_
      simp only [go_sem,List.length_map,ro]
      refine call_m (cU) ⟨by decide,by decide⟩ (by first | rfl | exact slv_ids _) (by simp [go_sem,List.length_map,ro]) rfl rfl (by rfl) ?_
      simp only [go_sem,List.length_map,ro,decide_eq_true (show (out.length:Int) > 0 by omega),e7,hlt,decide_eq_true hle]
      refine ⟨by omega,?_⟩
      refine call_m (s_fail true b a2 e2 7) ⟨by decide,by decide⟩ (by first | rfl | exact slv_ids _) (by simp [go_sem,List.length_map,ro]) rfl rfl (by rfl) ?_
      simp only [go_sem,List.length_map,ro]
      refine call_m (cN) ⟨by decide,by decide⟩ (by first | rfl | exact slv_ids _) (by simp [go_sem,List.length_map,ro]) rfl rfl (by rfl) ?_
      simp only [go_sem,List.length_map,ro,happ]
      refine ⟨by omega,klp_n (k,a3,e3,out ++ [⟨v,s⟩]) ⟨nA,show k + (out ++ [(⟨v,s⟩:Lc)]).length ≤ 4294967296 by omega,h3⟩ hk' (Wk.of ?_ ?_)⟩
      · simp only [go_sem,List.length_map,ro,e9]; try simp
      · simp only [go_sem,List.length_map,ro]; try simp [lc_e]
    · have hg:gcE out v e2 = e2:=by
        unfold gcE
        rw [lastF_e hne,if_neg (fun h=>hle h.2.2)]
      rw [hg] at cN
      simp only [go_sem,List.length_map,ro,decide_eq_true hk]
      refine call_m (s_err true b a1 0) ⟨by decide,by decide⟩ (by first | rfl | exact slv_ids _) (by simp [go_sem,List.length_map,ro]) rfl rfl (by rfl) ?_
      simp only [go_sem,List.length_map,ro]
      refine call_m (cU) ⟨by decide,by decide⟩ (by first | rfl | exact slv_ids _) (by simp [go_sem,List.length_map,ro]) rfl rfl (by rfl) ?_
      simp only [go_sem,List.length_map,ro,decide_eq_true (show (out.length:Int) > 0 by omega),e7,hlt,decide_eq_false hle]
      refine ⟨by omega,?_⟩
      refine call_m (cN) ⟨by decide,by decide⟩ (by first | rfl | exact slv_ids _) (by simp [go_sem,List.length_map,ro]) rfl rfl (by rfl) ?_
      simp only [go_sem,List.length_map,ro,happ]
      refine ⟨by omega,klp_n (k,a3,e3,out ++ [⟨v,s⟩]) ⟨nA,show k + (out ++ [(⟨v,s⟩:Lc)]).length ≤ 4294967296 by omega,h3⟩ hk' (Wk.of ?_ ?_)⟩
      · simp only [go_sem,List.length_map,ro,e9]; try simp
      · simp only [go_sem,List.length_map,ro]; try simp [lc_e]
end Go.Proofs.YtoikbadfbneahaaGreatDoor
set_option maxRecDepth 100000
set_option maxHeartbeats 20000000
set_option linter.unusedVariables false
set_option linter.unusedSimpArgs false
namespace Go.Proofs.YtoikbadfbneahaaGreatDoor
open Go Go.Mw
-- @U: List.length_map,ro,nsC

theorem nsC_0:nlm [.str [],.nl,.nl] (nsC default):=⟨.inl rfl,.inr ⟨rfl,.inl ⟨2,rfl⟩⟩,.inr ⟨rfl,.inl ⟨2,rfl⟩⟩,trivial⟩
theorem rEnd_e {b:List UInt8} {a:Nat} {e:Int} (h:e ≠ 0):rEnd true b a e = e:=by simp [rEnd,h]
theorem prtN_e {n:Ns} {id:Nat} {x:List UInt8} {e:Int} (h:e ≠ 0):(prtN n id x e).2 = e:=by
  have hb:(e == 0) = false:=beq_f h
  unfold prtN
  split
  · simp only [hb,show rName false x 0 e = ([],0,e) from rfl,rEnd_e h]
  · split
    · simp only [gtN,hb,show rCount false x 0 e 64 = (0,0,e) from rfl,gt_stop (.inl h),rEnd_e h]
    · simp only [gcN,hb,show rCount false x 0 e 64 = (0,0,e) from rfl,gc_stop (.inl h),rEnd_e h]
theorem dcA_end {f:Nat} {b:List UInt8} {a:Nat} {l:Int} {n:Ns} (h:b.length ≤ a):dcA f b a l n = (n,0):=by
  cases f with
  | zero=>rfl
  | succ f=>rw [dcA,if_pos h]
theorem dcA_4 {f:Nat} {b:List UInt8} {a:Nat} {l:Int} {n:Ns} (h:a < b.length) (h2:(nth b a).toNat > 2):dcA (f + 1) b a l n = (default,4):=by
  rw [dcA,if_neg (by omega),if_pos h2]
theorem dcA_7 {f:Nat} {b:List UInt8} {a:Nat} {l:Int} {n:Ns} (h:a < b.length) (h2:¬ (nth b a).toNat > 2) (h3:((nth b a).toNat:Int) ≤ l):dcA (f + 1) b a l n = (default,7):=by
  rw [dcA,if_neg (by omega),if_neg h2,if_pos h3]
theorem dcA_s {f:Nat} {b:List UInt8} {a:Nat} {l:Int} {n:Ns} (h:a < b.length) (h2:¬ (nth b a).toNat > 2) (h3:¬ ((nth b a).toNat:Int) ≤ l) {o:Option (List UInt8)} {a3:Nat} {e3:Int} (hS:sbT b a = (o,a3,e3)) {n':Ns} {e4:Int} (hP:prtN n (nth b a).toNat (o.getD []) e3 = (n',e4)) :
    dcA (f + 1) b a l n = if e4 ≠ 0 then (default,e4) else dcA f b a3 ((nth b a).toNat:Int) n':=by
  rw [dcA,if_neg (by omega),if_neg h2,if_neg h3]
  simp only [hS,hP]
theorem sb_len {b:List UInt8} {a:Nat} {e n:Int} (ha:a ≤ b.length):((rTake (e == 0) b a e n).1.getD []).length ≤ b.length:=by
  rcases rTake_cases b a e n ha with ⟨x,_,h⟩ | ⟨_,l,h1,h2,_⟩
  · rw [h]; simp
  · rw [h2]; simpa using h1
theorem v_decode (b:List UInt8) (hb:b.length < 1000000000):PCalls Tryz.prog nX67 [.sl 1 (b.map by_)] (.tup [ns_ (decA b).1,.int .i64 (decA b).2]):=by
  refine pfun_sound (ic:=FX67.body) mixed cX67 rfl rfl ?_
  obtain ⟨G,hG⟩:∃ G,decA b = G:=⟨_,rfl⟩
  rw [hG]
  simp only [go_sem,List.length_map,ro,nsC,FX67]
  refine call_nrec (s_read b hb) rfl (by simp [go_sem]) 901 (by decide) (by simp only [go_sem,List.length_map,ro,nsC]) ?_
  simp only [go_sem,List.length_map,ro,nsC]
  refine loop_rule (fun q:Nat × Int × Ns × Nat=>⟨[(4,.mp 901 4 0 0),(6,.int .i64 q.2.1),(5,.mp 5 3 0 0),(2,.mp 2 3 0 0)],[(901,ro true b q.1 0),(5,⟨25,3,[nsC q.2.2.1],true⟩),(2,⟨25,3,[[.str [],.nl,.nl]],true⟩)]⟩)
    (fun q=>q.1 ≤ b.length ∧ (-1 ≤ q.2.1 ∧ q.2.1 ≤ 2) ∧ (q.2.2.2:Int) ≥ 3 - q.2.1 ∧ G = dcA q.2.2.2 b q.1 q.2.1 q.2.2.1) (fun q=>q.2.2.2) (0,-1,default,4) ⟨Nat.zero_le _,by decide,by decide,hG.symm⟩ ((Wk.nlm _ 5 (r':=nsC default) (by rfl) nsC_0).trans (Wk.of ?_ ?_)) ?_
  · simp only [go_sem,List.length_map,ro,nsC]; try simp [go_sem]
  · simp only [go_sem,List.length_map,ro,nsC]; try simp [go_sem]
  rintro ⟨a,la,n,f⟩ ⟨h1,h2,h3,h4⟩
  simp only at h1 h2 h3 h4
  have cL:=s_left true b a 0 h1 hb
  rw [show rLeft (true && (0:Int) == 0) b a = (b.length:Int) - a from rfl] at cL
  by_cases hlt:(b.length:Int) - a > 0
  rotate_left
  · rw [dcA_end (by omega)] at h4
    subst h4
    simp only [go_sem,List.length_map,ro,nsC]
    refine call_m (cL) ⟨by decide,by decide⟩ (by first | rfl | exact slv_ids _) (by simp [go_sem,List.length_map,ro,nsC]) rfl rfl (by rfl) ?_
    simp only [go_sem,List.length_map,ro,nsC,decide_eq_false hlt]
    exact pdone [] (by simp only [go_sem,List.length_map,ro,nsC]) (by first | rfl | simp [go_sem,slv_ids,List.length_map,ro,nsC])
  have ha:a < b.length:=by omega
  obtain ⟨f,rfl⟩:∃ f',f = f' + 1:=⟨f - 1,by omega⟩
  have cB:=s_byte true b a 0 h1 hb
  rw [show rByte (true && (0:Int) == 0) b a 0 = (nth b a,a + 1,0) by unfold rByte; rw [if_pos tt14,if_neg (by omega)]] at cB
  simp only at cB
  have wB:IntKind.i64.wrap ((nth b a).toNat:Int) = ((nth b a).toNat:Int):=wi (by omega) (by have:=(nth b a).toNat_lt; omega)
  by_cases g2:(nth b a).toNat > 2
  · rw [dcA_4 ha g2] at h4
    subst h4
    simp only [go_sem,List.length_map,ro,nsC]
    refine call_m (cL) ⟨by decide,by decide⟩ (by first | rfl | exact slv_ids _) (by simp [go_sem,List.length_map,ro,nsC]) rfl rfl (by rfl) ?_
    simp only [go_sem,List.length_map,ro,nsC,decide_eq_true hlt]
    refine call_m (cB) ⟨by decide,by decide⟩ (by first | rfl | exact slv_ids _) (by simp [go_sem,List.length_map,ro,nsC]) rfl rfl (by rfl) ?_
    simp only [go_sem,List.length_map,ro,nsC,wB,decide_eq_true (show ((nth b a).toNat:Int) > 2 by omega)]
    exact wpdone (Wk.nlm _ 2 (r':=nsC default) (by rfl) nsC_0) [] (by first | rfl | simp only [go_sem,List.length_map,ro,nsC]) rfl
  by_cases g3:((nth b a).toNat:Int) ≤ la
  · rw [dcA_7 ha g2 g3] at h4
    subst h4
    simp only [go_sem,List.length_map,ro,nsC]
    refine call_m (cL) ⟨by decide,by decide⟩ (by first | rfl | exact slv_ids _) (by simp [go_sem,List.length_map,ro,nsC]) rfl rfl (by rfl) ?_
    simp only [go_sem,List.length_map,ro,nsC,decide_eq_true hlt]
    refine call_m (cB) ⟨by decide,by decide⟩ (by first | rfl | exact slv_ids _) (by simp [go_sem,List.length_map,ro,nsC]) rfl rfl (by rfl) ?_
    simp only [go_sem,List.length_map,ro,nsC,wB,decide_eq_false (show ¬ ((nth b a).toNat:Int) > 2 by omega),decide_eq_true g3]
    exact wpdone (Wk.nlm _ 2 (r':=nsC default) (by rfl) nsC_0) [] (by first | rfl | simp only [go_sem,List.length_map,ro,nsC]) rfl
  have cU:=s_U32 true b (a + 1) 0 ha hb
  rw [tt14] at cU
  have uA:=rU_a (ok:=true) (bits:=32) (e:=0) (show a + 1 ≤ b.length from ha)
  have uL:=rU_lt true b (a + 1) 0
  have hS0:sbT b a = rTake ((rU true 32 b (a + 1) 0).2.2 == 0) b (rU true 32 b (a + 1) 0).2.1 (rU true 32 b (a + 1) 0).2.2 (rU true 32 b (a + 1) 0).1:=rfl
  rcases hU:rU true 32 b (a + 1) 0 with ⟨v,a2,e2⟩
  rw [hU] at cU uA uL hS0
  simp only at cU uA uL hS0
  have cS:=s_subG b a2 e2 v uA hb (by omega)
  have sA:=rTake_a (ok:=e2 == 0) (e:=e2) (n:=v) uA
  have sL:=sb_len (e:=e2) (n:=v) uA
  rw [← hS0] at cS sA sL
  rcases hS:sbT b a with ⟨o,a3,e3⟩
  rw [hS] at cS sA sL
  simp only at cS sA sL
  generalize hx:o.getD [] = x at *
  have hP:=fun n' e4 h=>dcA_s (f:=f) (n:=n) (n':=n') (e4:=e4) ha g2 g3 hS (by rw [hx]; exact h)
  simp only [go_sem,List.length_map,ro,nsC]
  refine call_m (cL) ⟨by decide,by decide⟩ (by first | rfl | exact slv_ids _) (by simp [go_sem,List.length_map,ro,nsC]) rfl rfl (by rfl) ?_
  simp only [go_sem,List.length_map,ro,nsC,decide_eq_true hlt]
  refine call_m (cB) ⟨by decide,by decide⟩ (by first | rfl | exact slv_ids _) (by simp [go_sem,List.length_map,ro,nsC]) rfl rfl (by rfl) ?_
  simp only [go_sem,List.length_map,ro,nsC,wB,decide_eq_false (show ¬ ((nth b a).toNat:Int) > 2 by omega),decide_eq_false g3]
  refine call_m (cU) ⟨by decide,by decide⟩ (by first | rfl | exact slv_ids _) (by simp [go_sem,List.length_map,ro,nsC]) rfl rfl (by rfl) ?_
  simp only [go_sem,List.length_map,ro,nsC]
  refine call_obj (σ2:=[(901,ro true b a2 e2)]) (r3:=.mp 902 4 0 0) (σ3:=[(901,ro true b a3 e3),(902,ro true x ((0:Nat):Int) e3)]) cS [(1000,901),(24,902)] [902] rfl rfl rfl rfl ?_ ?_ ?_ ?_
  · simp only [go_sem,List.length_map,ro,nsC]; simp
  · simp only [go_sem,List.length_map,ro,nsC]; simp [sb,bw,swp,hget]
  · simp only [go_sem,List.length_map,ro,nsC]; simp [hget]
  rcases (show (nth b a).toNat = 0 ∨ (nth b a).toNat = 1 ∨ (nth b a).toNat = 2 by omega) with hid | hid | hid
  · have hi:(nth b a).toNat = 0:=hid
    have cN:=s_name true x 0 e3 (Nat.zero_le _) (by omega)
    rw [Bool.true_and] at cN
    have nA:=rName_a (b:=x) (a:=0) (ok:=e3 == 0) (e:=e3) (Nat.zero_le _)
    rcases hN:rName (e3 == 0) x 0 e3 with ⟨s,a4,e4⟩
    rw [hN] at cN nA
    simp only at cN nA
    have hp:prtN n (nth b a).toNat x e3 = (⟨s,n.fs,n.ls⟩,rEnd true x a4 e4):=by
      rw [hi]
      unfold prtN
      simp only [hN,Nat.reduceEqDiff,if_true,if_false]
    rw [hP _ _ hp] at h4
    have he3:rEnd true x a4 e4 = 0 → e3 = 0:=fun hz=>Classical.byContradiction fun hne=>hne (by
      have:=prtN_e (n:=n) (id:=(nth b a).toNat) (x:=x) hne
      rw [hp] at this
      exact this.symm.trans hz)
    simp only [go_sem,List.length_map,ro,nsC,hi,show (((0:Nat):Int) == 0) = true from rfl]
    refine call_m (cN) ⟨by decide,by decide⟩ (by first | rfl | exact slv_ids _) (by simp [go_sem,List.length_map,ro,nsC]) rfl rfl (by rfl) ?_
    simp only [go_sem,List.length_map,ro,nsC]
    refine call_m (s_end true x a4 e4) ⟨by decide,by decide⟩ (by first | rfl | exact slv_ids _) (by simp [go_sem,List.length_map,ro,nsC]) rfl rfl (by rfl) ?_
    by_cases hz:rEnd true x a4 e4 = 0
    · have h0:=he3 hz
      subst h0
      rw [if_neg (by simpa using hz),hi] at h4
      simp only [go_sem,List.length_map,ro,nsC,bne_f hz]
      refine klp_n (a3,0,⟨s,n.fs,n.ls⟩,f) ⟨sA,show (-1:Int) ≤ 0 ∧ (0:Int) ≤ 2 by decide,show (f:Int) ≥ 3 - 0 by omega,h4⟩ (show f < f + 1 by omega) (Wk.of ?_ ?_)
      · simp only [go_sem,List.length_map,ro,nsC]; try simp
      · simp only [go_sem,List.length_map,ro,nsC]; try simp
    · rw [if_pos hz] at h4
      subst h4
      simp only [go_sem,List.length_map,ro,nsC,bne_t hz]
      exact wpdone (Wk.nlm _ 2 (r':=nsC default) (by rfl) nsC_0) [] (by first | rfl | simp only [go_sem,List.length_map,ro,nsC]) rfl
  · have hi:(nth b a).toNat = 1:=hid
    have cN:=v_get x 0 e3 64 (Nat.zero_le _) (by omega) (by decide)
    have nA:=gtN_a (b:=x) (a:=0) (e:=e3) (most:=64) (Nat.zero_le _)
    rcases hN:gtN x 0 e3 64 with ⟨s,a4,e4⟩
    rw [hN] at cN nA
    simp only at cN nA
    have hp:prtN n (nth b a).toNat x e3 = (⟨n.m,s,n.ls⟩,rEnd true x a4 e4):=by
      rw [hi]
      unfold prtN
      simp only [hN,Nat.reduceEqDiff,if_true,if_false]
    rw [hP _ _ hp] at h4
    have he3:rEnd true x a4 e4 = 0 → e3 = 0:=fun hz=>Classical.byContradiction fun hne=>hne (by
      have:=prtN_e (n:=n) (id:=(nth b a).toNat) (x:=x) hne
      rw [hp] at this
      exact this.symm.trans hz)
    simp only [go_sem,List.length_map,ro,nsC,hi,show (((1:Nat):Int) == 0) = false from rfl,show (((1:Nat):Int) == 1) = true from rfl]
    refine call_m (cN) ⟨by decide,by decide⟩ (by first | rfl | exact slv_ids _) (by simp [go_sem,List.length_map,ro,nsC]) rfl rfl (by rfl) ?_
    simp only [go_sem,List.length_map,ro,nsC]
    refine call_m (s_end true x a4 e4) ⟨by decide,by decide⟩ (by first | rfl | exact slv_ids _) (by simp [go_sem,List.length_map,ro,nsC]) rfl rfl (by rfl) ?_
    by_cases hz:rEnd true x a4 e4 = 0
    · have h0:=he3 hz
      subst h0
      rw [if_neg (by simpa using hz),hi] at h4
      simp only [go_sem,List.length_map,ro,nsC,bne_f hz]
      refine klp_n (a3,1,⟨n.m,s,n.ls⟩,f) ⟨sA,show (-1:Int) ≤ 1 ∧ (1:Int) ≤ 2 by decide,show (f:Int) ≥ 3 - 1 by omega,h4⟩ (show f < f + 1 by omega) (Wk.of ?_ ?_)
      · simp only [go_sem,List.length_map,ro,nsC]; try simp
      · simp only [go_sem,List.length_map,ro,nsC]; try simp
    · rw [if_pos hz] at h4
      subst h4
      simp only [go_sem,List.length_map,ro,nsC,bne_t hz]
      exact wpdone (Wk.nlm _ 2 (r':=nsC default) (by rfl) nsC_0) [] (by first | rfl | simp only [go_sem,List.length_map,ro,nsC]) rfl
  · have hi:(nth b a).toNat = 2:=hid
    have cN:=v_locals x 0 e3 (Nat.zero_le _) (by omega)
    rcases hN:gcN x 0 e3 with ⟨s,a4,e4⟩
    rw [hN] at cN
    simp only at cN
    have hp:prtN n (nth b a).toNat x e3 = (⟨n.m,n.fs,s⟩,rEnd true x a4 e4):=by
      rw [hi]
      unfold prtN
      simp only [hN,Nat.reduceEqDiff,if_true,if_false]
    rw [hP _ _ hp] at h4
    have he3:rEnd true x a4 e4 = 0 → e3 = 0:=fun hz=>Classical.byContradiction fun hne=>hne (by
      have:=prtN_e (n:=n) (id:=(nth b a).toNat) (x:=x) hne
      rw [hp] at this
      exact this.symm.trans hz)
    simp only [go_sem,List.length_map,ro,nsC,hi,show (((2:Nat):Int) == 0) = false from rfl,show (((2:Nat):Int) == 1) = false from rfl]
    refine call_m (cN) ⟨by decide,by decide⟩ (by first | rfl | exact slv_ids _) (by simp [go_sem,List.length_map,ro,nsC]) rfl rfl (by rfl) ?_
    simp only [go_sem,List.length_map,ro,nsC]
    refine call_m (s_end true x a4 e4) ⟨by decide,by decide⟩ (by first | rfl | exact slv_ids _) (by simp [go_sem,List.length_map,ro,nsC]) rfl rfl (by rfl) ?_
    by_cases hz:rEnd true x a4 e4 = 0
    · have h0:=he3 hz
      subst h0
      rw [if_neg (by simpa using hz),hi] at h4
      simp only [go_sem,List.length_map,ro,nsC,bne_f hz]
      refine klp_n (a3,2,⟨n.m,n.fs,s⟩,f) ⟨sA,show (-1:Int) ≤ 2 ∧ (2:Int) ≤ 2 by decide,show (f:Int) ≥ 3 - 2 by omega,h4⟩ (show f < f + 1 by omega) (Wk.of ?_ ?_)
      · simp only [go_sem,List.length_map,ro,nsC]; try simp
      · simp only [go_sem,List.length_map,ro,nsC]; try simp
    · rw [if_pos hz] at h4
      subst h4
      simp only [go_sem,List.length_map,ro,nsC,bne_t hz]
      exact wpdone (Wk.nlm _ 2 (r':=nsC default) (by rfl) nsC_0) [] (by first | rfl | simp only [go_sem,List.length_map,ro,nsC]) rfl
end Go.Proofs.YtoikbadfbneahaaGreatDoor
