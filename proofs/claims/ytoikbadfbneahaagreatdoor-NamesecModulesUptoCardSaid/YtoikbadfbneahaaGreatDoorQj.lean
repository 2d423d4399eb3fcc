/-
  Chapter 14,walks: the reference reads lists of names.
-/
import Derived.Test.YtoikbadfbneahaaGreatDoorQh
import Derived.Test.YtoikbadfbneahaaGreatDoorQe
set_option linter.unusedVariables false
set_option linter.unusedSimpArgs false
set_option linter.unusedSectionVars false
set_option maxRecDepth 100000
set_option maxHeartbeats 20000000
set_option linter.unusedVariables false
set_option linter.unusedSimpArgs false
namespace Go.Proofs.YtoikbadfbneahaaGreatDoor
open Go Go.Mw
-- @U: List.length_map,rx

theorem gc_a:∀ (k:Nat) {b:List UInt8} {a:Nat} {e:Int} {out:List Lc},a ≤ b.length → (gc k b a e out).2.1 ≤ b.length
  | 0,b,a,e,out,h=>h
  | k + 1,b,a,e,out,h=>by
    rw [gc]
    split
    · exact h
    · exact gc_a k (gtN_a (rU_a h))
theorem gcN_a {b:List UInt8} {a:Nat} {e:Int} (h:a ≤ b.length):(gcN b a e).2.1 ≤ b.length:=gc_a _ (rCount_a h)
theorem u_list (b:List UInt8) (a:Nat) (e most:Int) (ha:a ≤ b.length) (hb:b.length < 1000000000) :
    PCalls Tryz.prog nX111 [rx b a e,.int .i64 most] (.tup [rx b (gtN b a e most).2.1 (gtN b a e most).2.2,.sl 2 ((gtN b a e most).1.map nm_)]):=by
  refine pfun_sound (ic:=FX111.body) mixed cX111 rfl rfl ?_
  have hc:=q_Count b a e ha hb most
  have hca:=rCount_a (ok:=e == 0) (e:=e) (most:=most) ha
  have hcl:=rCount_lt (e == 0) b a e most
  unfold gtN
  generalize rCount (e == 0) b a e most = c at *
  obtain ⟨N,a0,e0⟩:=c
  simp only at hc hca hcl
  obtain ⟨G,hG⟩:∃ G,gt N b a0 e0 [] = G:=⟨_,rfl⟩
  rw [hG]
  simp only [go_sem,List.length_map,rx,FX111]
  refine call_same (hc) (by simp [go_sem,List.length_map,rx]) ?_
  simp only [go_sem,List.length_map,rx]
  refine loop_rule (fun q:Nat × Nat × Int × List Nm=>⟨[(8,.int .i64 q.1),(6,.int .i64 N),(7,.ms 900 2 0 q.2.2.2.length),(4,.mp 4 3 0 0),(2,.mp 2 3 0 0)],[(900,⟨129,2,q.2.2.2.map nm_,false⟩),(2,⟨193,3,[[.sl 1 (b.map by_),.int .i64 q.2.1,.int .i64 q.2.2.1]],true⟩),(4,⟨193,3,[[.nl,.int .i64 0,.int .i64 0]],true⟩)]⟩)
    (fun q=>q.2.1 ≤ b.length ∧ q.1 ≤ N ∧ q.2.2.2.length = q.1 ∧ G = gt (N - q.1) b q.2.1 q.2.2.1 q.2.2.2) (fun q=>N - q.1) (0,a0,e0,[]) ⟨hca,Nat.zero_le _,rfl,hG.symm⟩ ((Wk.nil _ 7 900 2 129 (by simp only [go_sem,List.length_map,rx]) (.inl (by decide))).trans (Wk.of ?_ ?_)) ?_
  · simp only [go_sem,List.length_map,rx,St.mknil]; try simp [go_sem]
  · simp only [go_sem,List.length_map,rx,St.mknil]; try simp [go_sem]
  rintro ⟨k,a1,e1,out⟩ ⟨h1,h2,hk0,h3⟩
  simp only at h1 h2 hk0 h3
  have happ:=fun ys=>appO_map 900 129 2 out.length nm_ out ys rfl
  by_cases hk:(k:Int) < (N:Int)
  rotate_left
  · rw [gt_stop (.inr (by omega))] at h3
    subst h3
    simp only [go_sem,List.length_map,rx,decide_eq_false hk]
    refine pdone [900] ?_ rfl
    simp only [go_sem,List.length_map,rx,Nat.le_refl]
    rw [List.take_of_length_le (by simp)]
  by_cases he:e1 = 0
  rotate_left
  · rw [gt_stop (.inl he)] at h3
    subst h3
    simp only [go_sem,List.length_map,rx,decide_eq_true hk,beq_f he]
    refine pdone [900] ?_ rfl
    simp only [go_sem,List.length_map,rx,Nat.le_refl]
    rw [List.take_of_length_le (by simp)]
  subst he
  have e9:=wi (n:=(k:Int) + 1) (by omega) (by omega)
  have cU:=q_U32 b a1 0 h1 hb
  rw [show ((0:Int) == 0) = true from rfl] at cU
  have uA:=rU_a (ok:=true) (bits:=32) (e:=0) h1
  have uL:=rU_lt true b a1 0
  rcases hU:rU true 32 b a1 0 with ⟨v,a2,e2⟩
  rw [hU] at cU uA uL
  simp only at cU uA uL
  have cN:=q_Name b a2 e2 uA hb
  have nA:=rName_a (ok:=e2 == 0) (e:=e2) uA
  rcases hN:rName (e2 == 0) b a2 e2 with ⟨s,a3,e3⟩
  rw [hN] at cN nA
  simp only at cN nA
  rw [show N - k = (N - (k + 1)) + 1 by omega,gt_ok hU hN] at h3
  have hl2:(out ++ [⟨(v:Int),s⟩]:List Nm).length = k + 1:=by simp; omega
  have hk':N - (k + 1) < N - k:=by omega
  by_cases h0:e3 = 0
  rotate_left
  · rw [show gtE out v e3 = e3 by unfold gtE; rw [if_neg (fun h=>h0 h.1)]] at h3
    simp only [go_sem,List.length_map,rx,decide_eq_true hk]
    refine call_same (cU) (by simp [go_sem,List.length_map,rx]) ?_
    simp only [go_sem,List.length_map,rx]
    refine call_same (cN) (by simp [go_sem,List.length_map,rx]) ?_
    simp only [go_sem,List.length_map,rx,happ,beq_f h0]
    refine ⟨by omega,klp_n (k + 1,a3,e3,out ++ [⟨v,s⟩]) ⟨nA,show k + 1 ≤ N by omega,hl2,h3⟩ hk' (Wk.of ?_ ?_)⟩
    · simp only [go_sem,List.length_map,rx,e9,hk0]; try simp
      try omega
    · simp only [go_sem,List.length_map,rx]; try simp [nm_e]
  subst h0
  by_cases hz:out.length = 0
  · rw [show gtE out v 0 = 0 by unfold gtE; rw [if_neg (fun h=>h.2.1 (List.eq_nil_of_length_eq_zero hz))]] at h3
    simp only [go_sem,List.length_map,rx,decide_eq_true hk]
    refine call_same (cU) (by simp [go_sem,List.length_map,rx]) ?_
    simp only [go_sem,List.length_map,rx]
    refine call_same (cN) (by simp [go_sem,List.length_map,rx]) ?_
    simp only [go_sem,List.length_map,rx,happ,decide_eq_false (show ¬ (out.length:Int) > 0 by omega)]
    refine ⟨by omega,klp_n (k + 1,a3,0,out ++ [⟨v,s⟩]) ⟨nA,show k + 1 ≤ N by omega,hl2,h3⟩ hk' (Wk.of ?_ ?_)⟩
    · simp only [go_sem,List.length_map,rx,e9,hk0]; try simp
      try omega
    · simp only [go_sem,List.length_map,rx]; try simp [nm_e]
  have hne:out ≠ []:=fun h=>hz (by rw [h]; rfl)
  have e7:IntKind.i64.wrap ((out.length:Int) - 1) = ((out.length - 1:Nat):Int):=by rw [wi (by omega) (by omega)]; omega
  have hlt:out.length - 1 < out.length:=by omega
  by_cases hle:(v:Int) ≤ (nth out (out.length - 1)).i
  · rw [show gtE out v 0 = 7 by unfold gtE; rw [lastI_e hne,if_pos ⟨rfl,hne,hle⟩]] at h3
    simp only [go_sem,List.length_map,rx,decide_eq_true hk]
    refine call_same (cU) (by simp [go_sem,List.length_map,rx]) ?_
    simp only [go_sem,List.length_map,rx]
    refine call_same (cN) (by simp [go_sem,List.length_map,rx]) ?_
    simp only [go_sem,List.length_map,rx,decide_eq_true (show (out.length:Int) > 0 by omega),e7,hlt,decide_eq_true hle]
    refine ⟨by omega,?_⟩
    refine call_same (q_Fail0 b a3 7) (by simp [go_sem,List.length_map,rx]) ?_
    simp only [go_sem,List.length_map,rx,happ]
    refine ⟨by omega,klp_n (k + 1,a3,7,out ++ [⟨v,s⟩]) ⟨nA,show k + 1 ≤ N by omega,hl2,h3⟩ hk' (Wk.of ?_ ?_)⟩
    · simp only [go_sem,List.length_map,rx,e9,hk0]; try simp
      try omega
    · simp only [go_sem,List.length_map,rx]; try simp [nm_e]
  · rw [show gtE out v 0 = 0 by unfold gtE; rw [lastI_e hne,if_neg (fun h=>hle h.2.2)]] at h3
    simp only [go_sem,List.length_map,rx,decide_eq_true hk]
    refine call_same (cU) (by simp [go_sem,List.length_map,rx]) ?_
    simp only [go_sem,List.length_map,rx]
    refine call_same (cN) (by simp [go_sem,List.length_map,rx]) ?_
    simp only [go_sem,List.length_map,rx,decide_eq_true (show (out.length:Int) > 0 by omega),e7,hlt,decide_eq_false hle,happ]
    refine ⟨by omega,?_⟩
    refine ⟨by omega,klp_n (k + 1,a3,0,out ++ [⟨v,s⟩]) ⟨nA,show k + 1 ≤ N by omega,hl2,h3⟩ hk' (Wk.of ?_ ?_)⟩
    · simp only [go_sem,List.length_map,rx,e9,hk0]; try simp
      try omega
    · simp only [go_sem,List.length_map,rx]; try simp [nm_e]
theorem u_locals (b:List UInt8) (a:Nat) (e:Int) (ha:a ≤ b.length) (hb:b.length < 1000000000) :
    PCalls Tryz.prog nX69 [rx b a e] (.tup [rx b (gcN b a e).2.1 (gcN b a e).2.2,.sl 2 ((gcN b a e).1.map lc_)]):=by
  refine pfun_sound (ic:=FX69.body) mixed cX69 rfl rfl ?_
  have hc:=q_Count b a e ha hb 64
  have hca:=rCount_a (ok:=e == 0) (e:=e) (most:=64) ha
  have hcl:=rCount_lt (e == 0) b a e 64
  unfold gcN
  generalize rCount (e == 0) b a e 64 = c at *
  obtain ⟨N,a0,e0⟩:=c
  simp only at hc hca hcl
  obtain ⟨G,hG⟩:∃ G,gc N b a0 e0 [] = G:=⟨_,rfl⟩
  rw [hG]
  simp only [go_sem,List.length_map,rx,FX69]
  refine call_same (hc) (by simp [go_sem,List.length_map,rx]) ?_
  simp only [go_sem,List.length_map,rx]
  refine loop_rule (fun q:Nat × Nat × Int × List Lc=>⟨[(6,.int .i64 q.1),(4,.int .i64 N),(5,.ms 900 2 0 q.2.2.2.length),(2,.mp 2 3 0 0),(1,.mp 1 3 0 0)],[(900,⟨55,2,q.2.2.2.map lc_,false⟩),(1,⟨193,3,[[.sl 1 (b.map by_),.int .i64 q.2.1,.int .i64 q.2.2.1]],true⟩),(2,⟨193,3,[[.nl,.int .i64 0,.int .i64 0]],true⟩)]⟩)
    (fun q=>q.2.1 ≤ b.length ∧ q.1 ≤ N ∧ q.2.2.2.length = q.1 ∧ G = gc (N - q.1) b q.2.1 q.2.2.1 q.2.2.2) (fun q=>N - q.1) (0,a0,e0,[]) ⟨hca,Nat.zero_le _,rfl,hG.symm⟩ ((Wk.nil _ 5 900 2 55 (by simp only [go_sem,List.length_map,rx]) (.inl (by decide))).trans (Wk.of ?_ ?_)) ?_
  · simp only [go_sem,List.length_map,rx,St.mknil]; try simp [go_sem]
  · simp only [go_sem,List.length_map,rx,St.mknil]; try simp [go_sem]
  rintro ⟨k,a1,e1,out⟩ ⟨h1,h2,hk0,h3⟩
  simp only at h1 h2 hk0 h3
  have happ:=fun ys=>appO_map 900 55 2 out.length lc_ out ys rfl
  by_cases hk:(k:Int) < (N:Int)
  rotate_left
  · rw [gc_stop (.inr (by omega))] at h3
    subst h3
    simp only [go_sem,List.length_map,rx,decide_eq_false hk]
    refine pdone [900] ?_ rfl
    simp only [go_sem,List.length_map,rx,Nat.le_refl]
    rw [List.take_of_length_le (by simp)]
  by_cases he:e1 = 0
  rotate_left
  · rw [gc_stop (.inl he)] at h3
    subst h3
    simp only [go_sem,List.length_map,rx,decide_eq_true hk,beq_f he]
    refine pdone [900] ?_ rfl
    simp only [go_sem,List.length_map,rx,Nat.le_refl]
    rw [List.take_of_length_le (by simp)]
  subst he
  have e9:=wi (n:=(k:Int) + 1) (by omega) (by omega)
  have cU:=q_U32 b a1 0 h1 hb
  rw [show ((0:Int) == 0) = true from rfl] at cU
  have uA:=rU_a (ok:=true) (bits:=32) (e:=0) h1
  have uL:=rU_lt true b a1 0
  rcases hU:rU true 32 b a1 0 with ⟨v,a2,e2⟩
  rw [hU] at cU uA uL
  simp only at cU uA uL
  have cN:=u_list b a2 (gcE out v e2) 72 uA hb
  have nA:=gtN_a (e:=gcE out v e2) (most:=72) uA
  rcases hN:gtN b a2 (gcE out v e2) 72 with ⟨s,a3,e3⟩
  rw [hN] at cN nA
  simp only at cN nA
  rw [show N - k = (N - (k + 1)) + 1 by omega,gc_ok hU hN] at h3
  have hl2:(out ++ [⟨(v:Int),s⟩]:List Lc).length = k + 1:=by simp; omega
  have hk':N - (k + 1) < N - k:=by omega
  by_cases h0:e2 = 0
  rotate_left
  · rw [show gcE out v e2 = e2 by unfold gcE; rw [if_neg (fun h=>h0 h.1)]] at cN
    simp only [go_sem,List.length_map,rx,decide_eq_true hk]
    refine call_same (cU) (by simp [go_sem,List.length_map,rx]) ?_
    simp only [go_sem,List.length_map,rx,beq_f h0]
    refine call_same (cN) (by simp [go_sem,List.length_map,rx]) ?_
    simp only [go_sem,List.length_map,rx,happ]
    refine ⟨by omega,klp_n (k + 1,a3,e3,out ++ [⟨v,s⟩]) ⟨nA,show k + 1 ≤ N by omega,hl2,h3⟩ hk' (Wk.of ?_ ?_)⟩
    · simp only [go_sem,List.length_map,rx,e9,hk0]; try simp
      try omega
    · simp only [go_sem,List.length_map,rx]; try simp [lc_e]
  subst h0
  by_cases hz:out.length = 0
  · rw [show gcE out v 0 = 0 by unfold gcE; rw [if_neg (fun h=>h.2.1 (List.eq_nil_of_length_eq_zero hz))]] at cN
    simp only [go_sem,List.length_map,rx,decide_eq_true hk]
    refine call_same (cU) (by simp [go_sem,List.length_map,rx]) ?_
    simp only [go_sem,List.length_map,rx,decide_eq_false (show ¬ (out.length:Int) > 0 by omega)]
    refine call_same (cN) (by simp [go_sem,List.length_map,rx]) ?_
    simp only [go_sem,List.length_map,rx,happ]
    refine ⟨by omega,klp_n (k + 1,a3,e3,out ++ [⟨v,s⟩]) ⟨nA,show k + 1 ≤ N by omega,hl2,h3⟩ hk' (Wk.of ?_ ?_)⟩
    · simp only [go_sem,List.length_map,rx,e9,hk0]; try simp
      try omega
    · simp only [go_sem,List.length_map,rx]; try simp [lc_e]
  have hne:out ≠ []:=fun h=>hz (by rw [h]; rfl)
  have e7:IntKind.i64.wrap ((out.length:Int) - 1) = ((out.length - 1:Nat):Int):=by rw [wi (by omega) (by omega)]; omega
  have hlt:out.length - 1 < out.length:=by omega
  by_cases hle:(v:Int) ≤ (nth out (out.length - 1)).f
  · rw [show gcE out v 0 = 7 by unfold gcE; rw [lastF_e hne,if_pos ⟨rfl,hne,hle⟩]] at cN
    simp only [go_sem,List.length_map,rx,decide_eq_true hk]
    refine call_same (cU) (by simp [go_sem,List.length_map,rx]) ?_
    simp only [go_sem,List.length_map,rx,decide_eq_true (show (out.length:Int) > 0 by omega),e7,hlt,decide_eq_true hle]
    refine ⟨by omega,?_⟩
    refine call_same (q_Fail0 b a2 7) (by simp [go_sem,List.length_map,rx]) ?_
    simp only [go_sem,List.length_map,rx]
    refine call_same (cN) (by simp [go_sem,List.length_map,rx]) ?_
    simp only [go_sem,List.length_map,rx,happ]
    refine ⟨by omega,klp_n (k + 1,a3,e3,out ++ [⟨v,s⟩]) ⟨nA,show k + 1 ≤ N by omega,hl2,h3⟩ hk' (Wk.of ?_ ?_)⟩
    · simp only [go_sem,List.length_map,rx,e9,hk0]; try simp
      try omega
    · simp only [go_sem,List.length_map,rx]; try simp [lc_e]
  · rw [show gcE out v 0 = 0 by unfold gcE; rw [lastF_e hne,if_neg (fun h=>hle h.2.2)]] at cN
    simp only [go_sem,List.length_map,rx,decide_eq_true hk]
    refine call_same (cU) (by simp [go_sem,List.length_map,rx]) ?_
    simp only [go_sem,List.length_map,rx,decide_eq_true (show (out.length:Int) > 0 by omega),e7,hlt,decide_eq_false hle]
    refine ⟨by omega,?_⟩
    refine call_same (cN) (by simp [go_sem,List.length_map,rx]) ?_
    simp only [go_sem,List.length_map,rx,happ]
    refine ⟨by omega,klp_n (k + 1,a3,e3,out ++ [⟨v,s⟩]) ⟨nA,show k + 1 ≤ N by omega,hl2,h3⟩ hk' (Wk.of ?_ ?_)⟩
    · simp only [go_sem,List.length_map,rx,e9,hk0]; try simp
      try omega
    · simp only [go_sem,List.length_map,rx]; try simp [lc_e]
end Go.Proofs.YtoikbadfbneahaaGreatDoor
set_option maxRecDepth 100000
set_option maxHeartbeats 20000000
set_option linter.unusedVariables false
set_option linter.unusedSimpArgs false
namespace Go.Proofs.YtoikbadfbneahaaGreatDoor
open Go Go.Mw
-- @U: List.length_map,rx

theorem k00:(((0:Nat):Int) == 0) = true:=rfl
theorem k10:(((1:Nat):Int) == 0) = false:=rfl
theorem k11:(((1:Nat):Int) == 1) = true:=rfl
theorem k20:(((2:Nat):Int) == 0) = false:=rfl
theorem k21:(((2:Nat):Int) == 1) = false:=rfl
theorem k22:(((2:Nat):Int) == 2) = true:=rfl
theorem u_part (n:Ns) (id:UInt8) (hid:id.toNat ≤ 2) (x:List UInt8) (e:Int) (hx:x.length < 1000000000) :
    PCalls Tryz.prog nX117 [ns_ n,.int .u8 id.toNat,rx x 0 e] (.tup [ns_ (prtN n id.toNat x e).1,.int .i64 (prtN n id.toNat x e).2]):=by
  refine pfun_sound (ic:=FX117.body) mixed cX117 rfl rfl ?_
  rcases (show id.toNat = 0 ∨ id.toNat = 1 ∨ id.toNat = 2 by omega) with hi | hi | hi
  · have cN:=q_Name x 0 e (Nat.zero_le _) hx
    have nA:=rName_a (b:=x) (a:=0) (ok:=e == 0) (e:=e) (Nat.zero_le _)
    rw [hi]
    unfold prtN
    simp only [if_true]
    rcases hN:rName (e == 0) x 0 e with ⟨s,a4,e4⟩
    rw [hN] at cN nA
    simp only at cN nA
    simp only [go_sem,List.length_map,rx,FX117,k00]
    refine call_same (cN) (by simp [go_sem,List.length_map,rx]) ?_
    simp only [go_sem,List.length_map,rx]
    refine dcall_same (q_End x a4 e4 nA hx) (by simp [go_sem,rx]) rfl ?_
    simp only [go_sem,List.length_map,rx]
    exact pdone [] (by simp only [go_sem,List.length_map,rx]) (by first | rfl | simp [go_sem,slv_ids,List.length_map,rx])
  · have cN:=u_list x 0 e 64 (Nat.zero_le _) hx
    have nA:=gtN_a (b:=x) (a:=0) (e:=e) (most:=64) (Nat.zero_le _)
    rw [hi]
    unfold prtN
    simp only [if_true,if_false,Nat.reduceEqDiff]
    rcases hN:gtN x 0 e 64 with ⟨s,a4,e4⟩
    rw [hN] at cN nA
    simp only at cN nA
    simp only [go_sem,List.length_map,rx,FX117,k10,k11]
    refine call_same (cN) (by simp [go_sem,List.length_map,rx]) ?_
    simp only [go_sem,List.length_map,rx]
    refine dcall_same (q_End x a4 e4 nA hx) (by simp [go_sem,rx]) rfl ?_
    simp only [go_sem,List.length_map,rx]
    exact pdone [] (by simp only [go_sem,List.length_map,rx]) (by first | rfl | simp [go_sem,slv_ids,List.length_map,rx])
  · have cN:=u_locals x 0 e (Nat.zero_le _) hx
    have nA:=gcN_a (b:=x) (a:=0) (e:=e) (Nat.zero_le _)
    rw [hi]
    unfold prtN
    simp only [if_true,if_false,Nat.reduceEqDiff]
    rcases hN:gcN x 0 e with ⟨s,a4,e4⟩
    rw [hN] at cN nA
    simp only at cN nA
    simp only [go_sem,List.length_map,rx,FX117,k20,k21,k22]
    refine call_same (cN) (by simp [go_sem,List.length_map,rx]) ?_
    simp only [go_sem,List.length_map,rx]
    refine dcall_same (q_End x a4 e4 nA hx) (by simp [go_sem,rx]) rfl ?_
    simp only [go_sem,List.length_map,rx]
    exact pdone [] (by simp only [go_sem,List.length_map,rx]) (by first | rfl | simp [go_sem,slv_ids,List.length_map,rx])
theorem u_decode (b:List UInt8) (hb:b.length < 1000000000):PCalls Tryz.prog nX73 [.sl 1 (b.map by_)] (.tup [ns_ (decA b).1,.int .i64 (decA b).2]):=by
  refine pfun_sound (ic:=FX73.body) mixed cX73 rfl rfl ?_
  obtain ⟨G,hG⟩:∃ G,decA b = G:=⟨_,rfl⟩
  rw [hG]
  simp only [go_sem,List.length_map,rx,FX73]
  refine call_same (q_Read b) (by simp [go_sem,List.length_map,rx]) ?_
  simp only [go_sem,List.length_map,rx]
  refine loop_rule (fun q:Nat × Int × Ns × Nat=>⟨[(6,.int .i64 q.2.1),(5,.mp 5 3 0 0),(4,.mp 4 3 0 0),(2,.mp 2 3 0 0)],[(4,⟨193,3,[[.sl 1 (b.map by_),.int .i64 q.1,.int .i64 0]],true⟩),(5,⟨25,3,[nsC q.2.2.1],true⟩),(2,⟨25,3,[[.str [],.nl,.nl]],true⟩)]⟩)
    (fun q=>q.1 ≤ b.length ∧ (-1 ≤ q.2.1 ∧ q.2.1 ≤ 2) ∧ (q.2.2.2:Int) ≥ 3 - q.2.1 ∧ G = dcA q.2.2.2 b q.1 q.2.1 q.2.2.1) (fun q=>q.2.2.2) (0,-1,default,4) ⟨Nat.zero_le _,by decide,by decide,hG.symm⟩ ((Wk.nlm _ 5 (r':=nsC default) (by rfl) nsC_0).trans (Wk.of ?_ ?_)) ?_
  · simp only [go_sem,List.length_map,rx]; try simp [go_sem]
  · simp only [go_sem,List.length_map,rx]; try simp [go_sem]
  rintro ⟨a,la,n,f⟩ ⟨h1,h2,h3,h4⟩
  simp only at h1 h2 h3 h4
  have cL:=q_Left b a 0 h1 hb
  rw [show rLeft ((0:Int) == 0) b a = (b.length:Int) - a from rfl] at cL
  by_cases hlt:(b.length:Int) - a > 0
  rotate_left
  · rw [dcA_end (by omega)] at h4
    subst h4
    simp only [go_sem,List.length_map,rx,nsC]
    refine call_same (cL) (by simp [go_sem,List.length_map,rx]) ?_
    simp only [go_sem,List.length_map,rx,decide_eq_false hlt]
    exact pdone [] (by simp only [go_sem,List.length_map,rx]) (by first | rfl | simp [go_sem,slv_ids,List.length_map,rx])
  have ha:a < b.length:=by omega
  obtain ⟨f,rfl⟩:∃ f',f = f' + 1:=⟨f - 1,by omega⟩
  have cB:=q_Byte b a 0 h1 hb
  rw [show rByte ((0:Int) == 0) b a 0 = (nth b a,a + 1,0) by unfold rByte; rw [if_pos (show ((0:Int) == 0) = true from rfl),if_neg (by omega)]] at cB
  simp only at cB
  have wB:IntKind.i64.wrap ((nth b a).toNat:Int) = ((nth b a).toNat:Int):=wi (by omega) (by have:=(nth b a).toNat_lt; omega)
  by_cases g2:(nth b a).toNat > 2
  · rw [dcA_4 ha g2] at h4
    subst h4
    simp only [go_sem,List.length_map,rx,nsC]
    refine call_same (cL) (by simp [go_sem,List.length_map,rx]) ?_
    simp only [go_sem,List.length_map,rx,decide_eq_true hlt]
    refine call_same (cB) (by simp [go_sem,List.length_map,rx]) ?_
    simp only [go_sem,List.length_map,rx,decide_eq_true (show ((nth b a).toNat:Int) > 2 by omega)]
    exact wpdone (Wk.nlm _ 2 (r':=nsC default) (by rfl) nsC_0) [] (by first | rfl | simp only [go_sem,List.length_map,rx,nsC]) rfl
  by_cases g3:((nth b a).toNat:Int) ≤ la
  · rw [dcA_7 ha g2 g3] at h4
    subst h4
    simp only [go_sem,List.length_map,rx,nsC]
    refine call_same (cL) (by simp [go_sem,List.length_map,rx]) ?_
    simp only [go_sem,List.length_map,rx,decide_eq_true hlt]
    refine call_same (cB) (by simp [go_sem,List.length_map,rx]) ?_
    simp only [go_sem,List.length_map,rx,wB,decide_eq_false (show ¬ ((nth b a).toNat:Int) > 2 by omega),decide_eq_true g3]
    exact wpdone (Wk.nlm _ 2 (r':=nsC default) (by rfl) nsC_0) [] (by first | rfl | simp only [go_sem,List.length_map,rx,nsC]) rfl
  have cU:=q_U32 b (a + 1) 0 ha hb
  rw [show ((0:Int) == 0) = true from rfl] at cU
  have uA:=rU_a (ok:=true) (bits:=32) (e:=0) (show a + 1 ≤ b.length from ha)
  have uL:=rU_lt true b (a + 1) 0
  have hS0:sbT b a = rTake ((rU true 32 b (a + 1) 0).2.2 == 0) b (rU true 32 b (a + 1) 0).2.1 (rU true 32 b (a + 1) 0).2.2 (rU true 32 b (a + 1) 0).1:=rfl
  rcases hU:rU true 32 b (a + 1) 0 with ⟨v,a2,e2⟩
  rw [hU] at cU uA uL hS0
  simp only at cU uA uL hS0
  have cS:=q_Sub b a2 e2 v uA hb (by omega)
  have sA:=rTake_a (ok:=e2 == 0) (e:=e2) (n:=v) uA
  have sL:=sb_len (e:=e2) (n:=v) uA
  rw [← hS0] at cS sA sL
  rcases hS:sbT b a with ⟨o,a3,e3⟩
  rw [hS] at cS sA sL
  simp only at cS sA sL
  generalize hx:o.getD [] = x at *
  have hP:=fun n' e4 h=>dcA_s (f:=f) (n:=n) (n':=n') (e4:=e4) ha g2 g3 hS (by rw [hx]; exact h)
  have cP:=u_part n (nth b a) (by omega) x e3 (by omega)
  have hPe:=fun h=>prtN_e (n:=n) (id:=(nth b a).toNat) (x:=x) (e:=e3) h
  rcases hp:prtN n (nth b a).toNat x e3 with ⟨n',e4⟩
  rw [hp] at cP hPe
  simp only at cP hPe
  rw [hP _ _ hp] at h4
  simp only [ns_e] at cP
  simp only [go_sem,List.length_map,rx,nsC]
  refine call_same (cL) (by simp [go_sem,List.length_map,rx]) ?_
  simp only [go_sem,List.length_map,rx,decide_eq_true hlt]
  refine call_same (cB) (by simp [go_sem,List.length_map,rx]) ?_
  simp only [go_sem,List.length_map,rx,wB,decide_eq_false (show ¬ ((nth b a).toNat:Int) > 2 by omega),decide_eq_false g3]
  refine call_same (cU) (by simp [go_sem,List.length_map,rx]) ?_
  simp only [go_sem,List.length_map,rx]
  refine call_same (cS) (by simp [go_sem,List.length_map,rx]) ?_
  by_cases he:e3 = 0
  rotate_left
  · obtain rfl:e4 = e3:=hPe he
    rw [if_pos he] at h4
    subst h4
    simp only [go_sem,List.length_map,rx,bne_t he]
    exact wpdone (Wk.nlm _ 2 (r':=nsC default) (by rfl) nsC_0) [] (by first | rfl | simp only [go_sem,List.length_map,rx,nsC]) rfl
  subst he
  simp only [go_sem,List.length_map,rx]
  refine call_same (cP) (by simp [go_sem,List.length_map,rx]) ?_
  by_cases hz:e4 = 0
  · rw [if_neg (by simpa using hz)] at h4
    simp only [go_sem,List.length_map,rx,bne_f hz]
    refine klp_n (a3,((nth b a).toNat:Int),n',f) ⟨sA,show (-1:Int) ≤ ((nth b a).toNat:Int) ∧ ((nth b a).toNat:Int) ≤ 2 by omega,show (f:Int) ≥ 3 - ((nth b a).toNat:Int) by omega,h4⟩ (show f < f + 1 by omega) (Wk.of ?_ ?_)
    · simp only [go_sem,List.length_map,rx]; try simp
    · simp only [go_sem,List.length_map,rx,nsC]; try simp
  · rw [if_pos hz] at h4
    subst h4
    simp only [go_sem,List.length_map,rx,bne_t hz]
    exact wpdone (Wk.nlm _ 2 (r':=nsC default) (by rfl) nsC_0) [] (by first | rfl | simp only [go_sem,List.length_map,rx,nsC]) rfl
end Go.Proofs.YtoikbadfbneahaaGreatDoor
