/-
  Chapter 14,walks: the reference's Check.
-/
import Derived.Test.YtoikbadfbneahaaGreatDoorQw
import Derived.Test.YtoikbadfbneahaaGreatDoorQf
import Derived.Test.YtoikbadfbneahaaGreatDoorQe
import Derived.Test.YtoikbadfbneahaaGreatDoorQc
set_option linter.unusedVariables false
set_option linter.unusedSimpArgs false
set_option linter.unusedSectionVars false
set_option maxRecDepth 100000
set_option maxHeartbeats 40000000
set_option linter.unusedVariables false
set_option linter.unusedSimpArgs false
namespace Go.Proofs.YtoikbadfbneahaaGreatDoor
open Go Go.Mw
-- @U: List.length_map

theorem u_check (n:Ns) (hn:smN n):PCalls Tryz.prog nX84 [ns_ n] (.int .i64 (chk n)):=by
  refine pfun_sound (ic:=FX84.body) mixed cX84 rfl rfl ?_
  have ca:=u_all n hn
  simp only [ns_e] at ca
  simp only [go_sem,List.length_map,FX84]
  refine call_same (ca) (by simp [go_sem,List.length_map]) ?_
  by_cases hA:allE n = 0
  rotate_left
  · rw [show chk n = allE n by unfold chk; simp [hA]]
    simp only [go_sem,List.length_map,bne_t hA]
    exact pdone [] (by simp only [go_sem,List.length_map]) (by first | rfl | simp [go_sem,slv_ids,List.length_map])
  obtain ⟨hf,hl,hx⟩:=allE_sh hA
  have l1:(ixs n.fs).length ≤ 100000000:=by simp [ixs]; omega
  have l2:(fxs n.ls).length ≤ 100000000:=by simp [fxs]; omega
  have hck:chk n = if (rowsI n).all win = false then 1 else if (rowsI n).all ris = false then 7 else 0:=by unfold chk; simp [hA]
  rw [hck,← Wb_l,← Rb_l]
  have p1:=u_indexes n.fs (by omega)
  have p2:=u_within _ l1
  have p3:=u_funcs n.ls (by omega)
  have p4:=u_within _ l2
  have p5:=u_rise _ l1
  have p6:=u_rise _ l2
  have z1:=Wb_0 n
  have z2:=Rb_0 n
  have q1:∀ i,i < n.ls.length → PCalls Tryz.prog nX63 [.sl 2 ((nth n.ls i).l.map nm_)] (.sl 1 ((ixs (nth n.ls i).l).map vl_)):=fun i hi=>u_indexes _ (by have:=hx (nth n.ls i) (by rw [nth_eq hi]; exact List.getElem_mem hi); omega)
  have q2:∀ i,i < n.ls.length → PCalls Tryz.prog nX70 [.sl 1 ((ixs (nth n.ls i).l).map vl_)] (.bool (win (ixs (nth n.ls i).l))):=fun i hi=>u_within _ (by have:=hx (nth n.ls i) (by rw [nth_eq hi]; exact List.getElem_mem hi); simp [ixs]; omega)
  have q3:∀ i,i < n.ls.length → PCalls Tryz.prog nX98 [.sl 1 ((ixs (nth n.ls i).l).map vl_)] (.bool (ris (ixs (nth n.ls i).l))):=fun i hi=>u_rise _ (by have:=hx (nth n.ls i) (by rw [nth_eq hi]; exact List.getElem_mem hi); simp [ixs]; omega)
  simp only [go_sem,List.length_map,bne_f hA]
  refine call_same (p1) (by simp [go_sem,List.length_map]) ?_
  simp only [go_sem,List.length_map]
  refine call_same (p2) (by simp [go_sem,List.length_map]) ?_
  cases b1:win (ixs n.fs)
  · simp only [go_sem,List.length_map]
    refine call_same (p1) (by simp [go_sem,List.length_map]) ?_
    simp only [go_sem,List.length_map]
    refine call_same (p5) (by simp [go_sem,List.length_map]) ?_
    cases b3:ris (ixs n.fs)
    · simp only [go_sem,List.length_map]
      refine loop_rule (fun i:Nat=>⟨[(6,.int .i64 i),(5,.bool (Rb n i)),(4,.bool (Wb n i)),(1,.mp 1 3 0 0)],[(1,⟨25,3,[nsC n],true⟩)]⟩) (fun i=>i ≤ n.ls.length) (fun i=>n.ls.length - i) 0 (Nat.zero_le _) (Wk.of ?_ ?_) ?_
      · rw [z1,z2,b1,b3]
        simp only [go_sem,List.length_map]; try simp
      · simp only [go_sem,List.length_map,nsC]
      intro i hi
      by_cases h3:(i:Int) < (n.ls.length:Int)
      · have hi':i < n.ls.length:=by omega
        have e8:=wi (n:=(i:Int) + 1) (by omega) (by omega)
        have c1:=q1 i hi'
        have c2:=q2 i hi'
        have c3:=q3 i hi'
        have t1:=Wb_s hi'
        have t2:=Rb_s hi'
        cases bw:Wb n i <;> cases br:Rb n i
        · simp only [go_sem,List.length_map,decide_eq_true h3,nsC]
          refine klp_n (i + 1) (show i + 1 ≤ n.ls.length by omega) (show n.ls.length - (i + 1) < n.ls.length - i by omega) (Wk.of ?_ ?_)
          · rw [t1,t2,bw,br]
            simp only [go_sem,List.length_map,e8]; try simp
          · simp only [go_sem,List.length_map,nsC]
        · simp only [go_sem,List.length_map,decide_eq_true h3,nsC]
          refine ⟨by omega,h3,?_⟩
          refine call_same (c1) (by simp [go_sem,List.length_map]) ?_
          simp only [go_sem,List.length_map]
          refine call_same (c3) (by simp [go_sem,List.length_map]) ?_
          simp only [go_sem,List.length_map]
          refine klp_n (i + 1) (show i + 1 ≤ n.ls.length by omega) (show n.ls.length - (i + 1) < n.ls.length - i by omega) (Wk.of ?_ ?_)
          · rw [t1,t2,bw,br]
            simp only [go_sem,List.length_map,e8]; try simp
          · simp only [go_sem,List.length_map,nsC]
        · simp only [go_sem,List.length_map,decide_eq_true h3,nsC]
          refine ⟨by omega,h3,?_⟩
          refine call_same (c1) (by simp [go_sem,List.length_map]) ?_
          simp only [go_sem,List.length_map]
          refine call_same (c2) (by simp [go_sem,List.length_map]) ?_
          simp only [go_sem,List.length_map]
          refine klp_n (i + 1) (show i + 1 ≤ n.ls.length by omega) (show n.ls.length - (i + 1) < n.ls.length - i by omega) (Wk.of ?_ ?_)
          · rw [t1,t2,bw,br]
            simp only [go_sem,List.length_map,e8]; try simp
          · simp only [go_sem,List.length_map,nsC]
        · simp only [go_sem,List.length_map,decide_eq_true h3,nsC]
          refine ⟨by omega,h3,?_⟩
          refine call_same (c1) (by simp [go_sem,List.length_map]) ?_
          simp only [go_sem,List.length_map]
          refine call_same (c2) (by simp [go_sem,List.length_map]) ?_
          simp only [go_sem,List.length_map]
          refine ⟨by omega,h3,?_⟩
          refine call_same (c1) (by simp [go_sem,List.length_map]) ?_
          simp only [go_sem,List.length_map]
          refine call_same (c3) (by simp [go_sem,List.length_map]) ?_
          simp only [go_sem,List.length_map]
          refine klp_n (i + 1) (show i + 1 ≤ n.ls.length by omega) (show n.ls.length - (i + 1) < n.ls.length - i by omega) (Wk.of ?_ ?_)
          · rw [t1,t2,bw,br]
            simp only [go_sem,List.length_map,e8]; try simp
          · simp only [go_sem,List.length_map,nsC]
      · obtain rfl:i = n.ls.length:=by omega
        cases bw:Wb n n.ls.length <;> cases br:Rb n n.ls.length
        all_goals
          simp only [go_sem,List.length_map,decide_eq_false h3,nsC]
          exact pdone [] (by simp only [go_sem,List.length_map]) (by first | rfl | simp [go_sem,slv_ids,List.length_map])
    · simp only [go_sem,List.length_map]
      refine call_same (p3) (by simp [go_sem,List.length_map]) ?_
      simp only [go_sem,List.length_map]
      refine call_same (p6) (by simp [go_sem,List.length_map]) ?_
      simp only [go_sem,List.length_map]
      refine loop_rule (fun i:Nat=>⟨[(6,.int .i64 i),(5,.bool (Rb n i)),(4,.bool (Wb n i)),(1,.mp 1 3 0 0)],[(1,⟨25,3,[nsC n],true⟩)]⟩) (fun i=>i ≤ n.ls.length) (fun i=>n.ls.length - i) 0 (Nat.zero_le _) (Wk.of ?_ ?_) ?_
      · rw [z1,z2,b1,b3]
        simp only [go_sem,List.length_map]; try simp
      · simp only [go_sem,List.length_map,nsC]
      intro i hi
      by_cases h3:(i:Int) < (n.ls.length:Int)
      · have hi':i < n.ls.length:=by omega
        have e8:=wi (n:=(i:Int) + 1) (by omega) (by omega)
        have c1:=q1 i hi'
        have c2:=q2 i hi'
        have c3:=q3 i hi'
        have t1:=Wb_s hi'
        have t2:=Rb_s hi'
        cases bw:Wb n i <;> cases br:Rb n i
        · simp only [go_sem,List.length_map,decide_eq_true h3,nsC]
          refine klp_n (i + 1) (show i + 1 ≤ n.ls.length by omega) (show n.ls.length - (i + 1) < n.ls.length - i by omega) (Wk.of ?_ ?_)
          · rw [t1,t2,bw,br]
            simp only [go_sem,List.length_map,e8]; try simp
          · simp only [go_sem,List.length_map,nsC]
        · simp only [go_sem,List.length_map,decide_eq_true h3,nsC]
          refine ⟨by omega,h3,?_⟩
          refine call_same (c1) (by simp [go_sem,List.length_map]) ?_
          simp only [go_sem,List.length_map]
          refine call_same (c3) (by simp [go_sem,List.length_map]) ?_
          simp only [go_sem,List.length_map]
          refine klp_n (i + 1) (show i + 1 ≤ n.ls.length by omega) (show n.ls.length - (i + 1) < n.ls.length - i by omega) (Wk.of ?_ ?_)
          · rw [t1,t2,bw,br]
            simp only [go_sem,List.length_map,e8]; try simp
          · simp only [go_sem,List.length_map,nsC]
        · simp only [go_sem,List.length_map,decide_eq_true h3,nsC]
          refine ⟨by omega,h3,?_⟩
          refine call_same (c1) (by simp [go_sem,List.length_map]) ?_
          simp only [go_sem,List.length_map]
          refine call_same (c2) (by simp [go_sem,List.length_map]) ?_
          simp only [go_sem,List.length_map]
          refine klp_n (i + 1) (show i + 1 ≤ n.ls.length by omega) (show n.ls.length - (i + 1) < n.ls.length - i by omega) (Wk.of ?_ ?_)
          · rw [t1,t2,bw,br]
            simp only [go_sem,List.length_map,e8]; try simp
          · simp only [go_sem,List.length_map,nsC]
        · simp only [go_sem,List.length_map,decide_eq_true h3,nsC]
          refine ⟨by omega,h3,?_⟩
          refine call_same (c1) (by simp [go_sem,List.length_map]) ?_
          simp only [go_sem,List.length_map]
          refine call_same (c2) (by simp [go_sem,List.length_map]) ?_
          simp only [go_sem,List.length_map]
          refine ⟨by omega,h3,?_⟩
          refine call_same (c1) (by simp [go_sem,List.length_map]) ?_
          simp only [go_sem,List.length_map]
          refine call_same (c3) (by simp [go_sem,List.length_map]) ?_
          simp only [go_sem,List.length_map]
          refine klp_n (i + 1) (show i + 1 ≤ n.ls.length by omega) (show n.ls.length - (i + 1) < n.ls.length - i by omega) (Wk.of ?_ ?_)
          · rw [t1,t2,bw,br]
            simp only [go_sem,List.length_map,e8]; try simp
          · simp only [go_sem,List.length_map,nsC]
      · obtain rfl:i = n.ls.length:=by omega
        cases bw:Wb n n.ls.length <;> cases br:Rb n n.ls.length
        all_goals
          simp only [go_sem,List.length_map,decide_eq_false h3,nsC]
          exact pdone [] (by simp only [go_sem,List.length_map]) (by first | rfl | simp [go_sem,slv_ids,List.length_map])
  · simp only [go_sem,List.length_map]
    refine call_same (p3) (by simp [go_sem,List.length_map]) ?_
    simp only [go_sem,List.length_map]
    refine call_same (p4) (by simp [go_sem,List.length_map]) ?_
    simp only [go_sem,List.length_map]
    refine call_same (p1) (by simp [go_sem,List.length_map]) ?_
    simp only [go_sem,List.length_map]
    refine call_same (p5) (by simp [go_sem,List.length_map]) ?_
    cases b3:ris (ixs n.fs)
    · simp only [go_sem,List.length_map]
      refine loop_rule (fun i:Nat=>⟨[(6,.int .i64 i),(5,.bool (Rb n i)),(4,.bool (Wb n i)),(1,.mp 1 3 0 0)],[(1,⟨25,3,[nsC n],true⟩)]⟩) (fun i=>i ≤ n.ls.length) (fun i=>n.ls.length - i) 0 (Nat.zero_le _) (Wk.of ?_ ?_) ?_
      · rw [z1,z2,b1,b3]
        simp only [go_sem,List.length_map]; try simp
      · simp only [go_sem,List.length_map,nsC]
      intro i hi
      by_cases h3:(i:Int) < (n.ls.length:Int)
      · have hi':i < n.ls.length:=by omega
        have e8:=wi (n:=(i:Int) + 1) (by omega) (by omega)
        have c1:=q1 i hi'
        have c2:=q2 i hi'
        have c3:=q3 i hi'
        have t1:=Wb_s hi'
        have t2:=Rb_s hi'
        cases bw:Wb n i <;> cases br:Rb n i
        · simp only [go_sem,List.length_map,decide_eq_true h3,nsC]
          refine klp_n (i + 1) (show i + 1 ≤ n.ls.length by omega) (show n.ls.length - (i + 1) < n.ls.length - i by omega) (Wk.of ?_ ?_)
          · rw [t1,t2,bw,br]
            simp only [go_sem,List.length_map,e8]; try simp
          · simp only [go_sem,List.length_map,nsC]
        · simp only [go_sem,List.length_map,decide_eq_true h3,nsC]
          refine ⟨by omega,h3,?_⟩
          refine call_same (c1) (by simp [go_sem,List.length_map]) ?_
          simp only [go_sem,List.length_map]
          refine call_same (c3) (by simp [go_sem,List.length_map]) ?_
          simp only [go_sem,List.length_map]
          refine klp_n (i + 1) (show i + 1 ≤ n.ls.length by omega) (show n.ls.length - (i + 1) < n.ls.length - i by omega) (Wk.of ?_ ?_)
          · rw [t1,t2,bw,br]
            simp only [go_sem,List.length_map,e8]; try simp
          · simp only [go_sem,List.length_map,nsC]
        · simp only [go_sem,List.length_map,decide_eq_true h3,nsC]
          refine ⟨by omega,h3,?_⟩
          refine call_same (c1) (by simp [go_sem,List.length_map]) ?_
          simp only [go_sem,List.length_map]
          refine call_same (c2) (by simp [go_sem,List.length_map]) ?_
          simp only [go_sem,List.length_map]
          refine klp_n (i + 1) (show i + 1 ≤ n.ls.length by omega) (show n.ls.length - (i + 1) < n.ls.length - i by omega) (Wk.of ?_ ?_)
          · rw [t1,t2,bw,br]
            simp only [go_sem,List.length_map,e8]; try simp
          · simp only [go_sem,List.length_map,nsC]
        · simp only [go_sem,List.length_map,decide_eq_true h3,nsC]
          refine ⟨by omega,h3,?_⟩
          refine call_same (c1) (by simp [go_sem,List.length_map]) ?_
          simp only [go_sem,List.length_map]
          refine call_same (c2) (by simp [go_sem,List.length_map]) ?_
          simp only [go_sem,List.length_map]
          refine ⟨by omega,h3,?_⟩
          refine call_same (c1) (by simp [go_sem,List.length_map]) ?_
          simp only [go_sem,List.length_map]
          refine call_same (c3) (by simp [go_sem,List.length_map]) ?_
          simp only [go_sem,List.length_map]
          refine klp_n (i + 1) (show i + 1 ≤ n.ls.length by omega) (show n.ls.length - (i + 1) < n.ls.length - i by omega) (Wk.of ?_ ?_)
          · rw [t1,t2,bw,br]
            simp only [go_sem,List.length_map,e8]; try simp
          · simp only [go_sem,List.length_map,nsC]
      · obtain rfl:i = n.ls.length:=by omega
        cases bw:Wb n n.ls.length <;> cases br:Rb n n.ls.length
        all_goals
          simp only [go_sem,List.length_map,decide_eq_false h3,nsC]
          exact pdone [] (by simp only [go_sem,List.length_map]) (by first | rfl | simp [go_sem,slv_ids,List.length_map])
    · simp only [go_sem,List.length_map]
      refine call_same (p3) (by simp [go_sem,List.length_map]) ?_
      simp only [go_sem,List.length_map]
      refine call_same (p6) (by simp [go_sem,List.length_map]) ?_
      simp only [go_sem,List.length_map]
      refine loop_rule (fun i:Nat=>⟨[(6,.int .i64 i),(5,.bool (Rb n i)),(4,.bool (Wb n i)),(1,.mp 1 3 0 0)],[(1,⟨25,3,[nsC n],true⟩)]⟩) (fun i=>i ≤ n.ls.length) (fun i=>n.ls.length - i) 0 (Nat.zero_le _) (Wk.of ?_ ?_) ?_
      · rw [z1,z2,b1,b3]
        simp only [go_sem,List.length_map]; try simp
      · simp only [go_sem,List.length_map,nsC]
      intro i hi
      by_cases h3:(i:Int) < (n.ls.length:Int)
      · have hi':i < n.ls.length:=by omega
        have e8:=wi (n:=(i:Int) + 1) (by omega) (by omega)
        have c1:=q1 i hi'
        have c2:=q2 i hi'
        have c3:=q3 i hi'
        have t1:=Wb_s hi'
        have t2:=Rb_s hi'
        cases bw:Wb n i <;> cases br:Rb n i
        · simp only [go_sem,List.length_map,decide_eq_true h3,nsC]
          refine klp_n (i + 1) (show i + 1 ≤ n.ls.length by omega) (show n.ls.length - (i + 1) < n.ls.length - i by omega) (Wk.of ?_ ?_)
          · rw [t1,t2,bw,br]
            simp only [go_sem,List.length_map,e8]; try simp
          · simp only [go_sem,List.length_map,nsC]
        · simp only [go_sem,List.length_map,decide_eq_true h3,nsC]
          refine ⟨by omega,h3,?_⟩
          refine call_same (c1) (by simp [go_sem,List.length_map]) ?_
          simp only [go_sem,List.length_map]
          refine call_same (c3) (by simp [go_sem,List.length_map]) ?_
          simp only [go_sem,List.length_map]
          refine klp_n (i + 1) (show i + 1 ≤ n.ls.length by omega) (show n.ls.length - (i + 1) < n.ls.length - i by omega) (Wk.of ?_ ?_)
          · rw [t1,t2,bw,br]
            simp only [go_sem,List.length_map,e8]; try simp
          · simp only [go_sem,List.length_map,nsC]
        · simp only [go_sem,List.length_map,decide_eq_true h3,nsC]
          refine ⟨by omega,h3,?_⟩
          refine call_same (c1) (by simp [go_sem,List.length_map]) ?_
          simp only [go_sem,List.length_map]
          refine call_same (c2) (by simp [go_sem,List.length_map]) ?_
          simp only [go_sem,List.length_map]
          refine klp_n (i + 1) (show i + 1 ≤ n.ls.length by omega) (show n.ls.length - (i + 1) < n.ls.length - i by omega) (Wk.of ?_ ?_)
          · rw [t1,t2,bw,br]
            simp only [go_sem,List.length_map,e8]; try simp
          · simp only [go_sem,List.length_map,nsC]
        · simp only [go_sem,List.length_map,decide_eq_true h3,nsC]
          refine ⟨by omega,h3,?_⟩
          refine call_same (c1) (by simp [go_sem,List.length_map]) ?_
          simp only [go_sem,List.length_map]
          refine call_same (c2) (by simp [go_sem,List.length_map]) ?_
          simp only [go_sem,List.length_map]
          refine ⟨by omega,h3,?_⟩
          refine call_same (c1) (by simp [go_sem,List.length_map]) ?_
          simp only [go_sem,List.length_map]
          refine call_same (c3) (by simp [go_sem,List.length_map]) ?_
          simp only [go_sem,List.length_map]
          refine klp_n (i + 1) (show i + 1 ≤ n.ls.length by omega) (show n.ls.length - (i + 1) < n.ls.length - i by omega) (Wk.of ?_ ?_)
          · rw [t1,t2,bw,br]
            simp only [go_sem,List.length_map,e8]; try simp
          · simp only [go_sem,List.length_map,nsC]
      · obtain rfl:i = n.ls.length:=by omega
        cases bw:Wb n n.ls.length <;> cases br:Rb n n.ls.length
        all_goals
          simp only [go_sem,List.length_map,decide_eq_false h3,nsC]
          exact pdone [] (by simp only [go_sem,List.length_map]) (by first | rfl | simp [go_sem,slv_ids,List.length_map])
end Go.Proofs.YtoikbadfbneahaaGreatDoor
set_option maxRecDepth 100000
set_option maxHeartbeats 20000000
set_option linter.unusedVariables false
set_option linter.unusedSimpArgs false
namespace Go.Proofs.YtoikbadfbneahaaGreatDoor
open Go Go.Mw
-- @U: List.length_map,wx

theorem x_u {l:List UInt8} (n:Nat) (hn:n < 4294967296) (hl:l.length < 45000000000):PCalls Tryz.prog nX71 [wx l 0,.int .i64 (n:Int)] (wx (l ++ putU n) 0):=by
  have h:=p_U32 l 0 hl (n:Int)
  rw [show wU ((0:Int) == 0) l 0 (n:Int) = (l ++ putU n,0) by
    unfold wU
    rw [if_pos (show ((0:Int) == 0) = true from rfl),if_neg (by omega)]
    rfl] at h
  exact h
theorem x_t {l s:List UInt8} (h:gdT s) (hl:l.length < 45000000000):PCalls Tryz.prog nX60 [wx l 0,.str s] (wx (l ++ encT s) 0):=by
  have hw:=p_Name l 0 hl s (by have:=h.2; omega)
  rw [show wN ((0:Int) == 0) l 0 s = (l ++ encT s,0) by
    unfold wN encT
    rw [if_pos (show ((0:Int) == 0) = true from rfl),if_neg (by rw [h.1]; decide),if_neg (by have:=h.2; omega),List.append_assoc]] at hw
  exact hw
theorem x_y {l:List UInt8} (b:UInt8) (hl:l.length < 45000000000):PCalls Tryz.prog nX61 [wx l 0,.int .u8 b.toNat] (wx (l ++ [b]) 0):=p_Byte l 0 hl b
theorem x_p {l x:List UInt8} (b:UInt8) (hl:l.length < 40000000000) (hx:x.length < 1000000):PCalls Tryz.prog nX65 [wx (l ++ [b]) 0,wx x 0] (wx (l ++ prt b x) 0):=by
  have h:=p_Part (l ++ [b]) 0 (by simp; omega) x 0 hx
  rw [show wP ((0:Int) == 0) (l ++ [b]) 0 true x 0 = (l ++ prt b x,0) by simp [wP,wB,prt]] at h
  exact h
theorem x_d (l:List UInt8):PCalls Tryz.prog nX96 [wx l 0] (.tup [.sl 1 (l.map by_),.int .i64 0]):=p_Done l 0
theorem nlW:nld (.agg [.nl,.int .i64 0]) (wx [] 0):=.inr ⟨_,_,rfl,rfl,.nl 1,.rfl _,trivial⟩
theorem x_u0 (n:Nat) (hn:n < 4294967296):PCalls Tryz.prog nX71 [.agg [.nl,.int .i64 0],.int .i64 (n:Int)] (wx (putU n) 0):=PCalls_nld (x_u (l:=[]) n hn (by decide)) ⟨nlW,.inl (.rfl _),trivial⟩
theorem x_t0 {s:List UInt8} (h:gdT s):PCalls Tryz.prog nX60 [.agg [.nl,.int .i64 0],.str s] (wx (encT s) 0):=PCalls_nld (x_t (l:=[]) h (by decide)) ⟨nlW,.inl (.rfl _),trivial⟩
theorem x_y0 (b:UInt8):PCalls Tryz.prog nX61 [.agg [.nl,.int .i64 0],.int .u8 b.toNat] (wx ([] ++ [b]) 0):=PCalls_nld (x_y (l:=[]) b (by decide)) ⟨nlW,.inl (.rfl _),trivial⟩
theorem x_d0:PCalls Tryz.prog nX96 [.agg [.nl,.int .i64 0]] (.tup [.sl 1 (([]:List UInt8).map by_),.int .i64 0]):=PCalls_nld (x_d []) ⟨nlW,trivial⟩
theorem u_names (l:List Nm) (h:gdL l) {b:List UInt8} (hb:b.length < 9000000):PCalls Tryz.prog nX80 [wx b 0,.sl 2 (l.map nm_)] (wx (b ++ encN l) 0):=by
  refine pfun_sound (ic:=FX80.body) mixed cX80 rfl rfl ?_
  obtain ⟨hl,hg⟩:=h
  have hu:=pU (n:=l.length) (by omega)
  have c1:=x_u (l:=b) l.length (by omega) (by omega)
  simp only [go_sem,List.length_map,wx,FX80]
  refine call_same (c1) (by simp [go_sem,List.length_map,wx]) ?_
  simp only [go_sem,List.length_map,wx]
  refine loop_rule (fun i:Nat=>⟨[(5,.int .i64 i),(1,.sl 2 (l.map nm_)),(2,.mp 2 2 0 0),(4,.mp 4 2 0 0)],[(2,⟨71,2,[[.sl 1 ((b ++ putU l.length ++ encL (l.take i)).map by_),.int .i64 0]],true⟩),(4,⟨71,2,[[.nl,.int .i64 0]],true⟩)]⟩) (fun i=>i ≤ l.length) (fun i=>l.length - i) 0 (Nat.zero_le _) (Wk.of ?_ ?_) ?_
  · simp only [go_sem,List.length_map,wx]; try simp
  · simp only [go_sem,List.length_map,wx,List.take_zero,encL,List.append_nil]; try simp
  intro i hi
  have hlen:(b ++ putU l.length ++ encL (l.take i)).length < 9500000:=by
    have:=encL_tlen ⟨hl,hg⟩ i
    simp only [List.length_append]
    omega
  by_cases h1:(i:Int) < (l.length:Int)
  · have hi':i < l.length:=by omega
    have e8:=wi (n:=(i:Int) + 1) (by omega) (by omega)
    obtain ⟨g1,g2⟩:=gdM_at hg hi'
    have hs:encL (l.take (i + 1)) = encL (l.take i) ++ encN1 (nth l i):=encL_tk hi'
    unfold encN1 at hs
    obtain ⟨k,hk,hk2⟩:=gdI_nat g1
    rw [hk,Int.toNat_natCast] at hs
    have hu2:=pU hk2
    have hw:b ++ putU l.length ++ encL (l.take i) ++ putU k ++ encT (nth l i).s = b ++ putU l.length ++ encL (l.take (i + 1)):=by rw [hs]; simp only [List.append_assoc]
    generalize b ++ putU l.length ++ encL (l.take i) = B at *
    have c2:=x_u (l:=B) k hk2 (by omega)
    have c3:=x_t (l:=B ++ putU k) g2 (by rw [List.length_append]; omega)
    simp only [go_sem,List.length_map,wx,decide_eq_true h1,hk]
    refine ⟨by omega,h1,?_⟩
    refine dcall_same c2 (by simp [go_sem,wx]) rfl ?_
    simp only [go_sem,List.length_map,wx]
    refine ⟨by omega,h1,?_⟩
    refine call_same (c3) (by simp [go_sem,List.length_map,wx]) ?_
    simp only [go_sem,List.length_map,wx]
    rw [hw]
    refine klp_n (i + 1) (show i + 1 ≤ l.length by omega) (show l.length - (i + 1) < l.length - i by omega) (Wk.of ?_ ?_)
    · simp only [go_sem,List.length_map,wx,e8]; try simp
    · simp only [go_sem,List.length_map,wx]; try simp [go_sem]
  · obtain rfl:i = l.length:=by omega
    simp only [go_sem,List.length_map,wx,decide_eq_false h1]
    rw [List.take_length]
    refine pdone [] ?_ rfl
    simp only [go_sem,List.length_map,wx,encN,List.append_assoc]
theorem u_names0 (l:List Nm) (h:gdL l):PCalls Tryz.prog nX80 [.agg [.nl,.int .i64 0],.sl 2 (l.map nm_)] (wx (encN l) 0):=PCalls_nld (u_names l h (b:=[]) (by decide)) ⟨nlW,.inl (.rfl _),trivial⟩
end Go.Proofs.YtoikbadfbneahaaGreatDoor
