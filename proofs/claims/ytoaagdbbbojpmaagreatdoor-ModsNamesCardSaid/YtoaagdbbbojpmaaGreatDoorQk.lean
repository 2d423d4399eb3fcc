/-
  Chapter 7,the laws ModsNames,ModsFewer,walked.
-/
import Derived.Test.YtoaagdbbbojpmaaGreatDoorQj
import Derived.Test.YtoaagdbbbojpmaaGreatDoorQh
import Derived.Test.YtoaagdbbbojpmaaGreatDoorQe
set_option linter.unusedVariables false
set_option linter.unusedSimpArgs false
set_option linter.unusedSectionVars false
set_option maxRecDepth 100000
set_option maxHeartbeats 40000000
set_option linter.unusedVariables false
set_option linter.unusedSimpArgs false
namespace Go.Proofs.YtoaagdbbbojpmaaGreatDoor
open Go Go.Mw
-- @U: List.length_map,mdC_e,cdC_e,ins_e,insC,nm_e,lc_e,nsC

attribute [local go_sem] List.length_map mdC_e cdC_e ins_e insC nm_e lc_e nsC
theorem w_names7 (a b:Ns) (ha:lnN a) (hb:lnN b):PCalls Tryz.prog nX53 [ns_ a,ns_ b] (.bool true):=by
  refine pfun_sound (ic:=FX53.body) mixed cX53 rfl rfl ?_
  have al:=s_alive7
  by_cases q1:(a.fs.length:Int) > 60
  · simp only [go_sem,FX53,ns_,decide_eq_true q1]
    refine call_same (al) (by simp [go_sem]) ?_
    simp only [go_sem]
    exact pdone [] (by simp only [go_sem]) (by first | rfl | simp [go_sem,slv_ids])
  by_cases q2:(b.fs.length:Int) > 60
  · simp only [go_sem,FX53,ns_,decide_eq_false q1,decide_eq_true q2]
    refine call_same (al) (by simp [go_sem]) ?_
    simp only [go_sem]
    exact pdone [] (by simp only [go_sem]) (by first | rfl | simp [go_sem,slv_ids])
  by_cases q3:(a.ls.length:Int) > 60
  · simp only [go_sem,FX53,ns_,decide_eq_false q1,decide_eq_false q2,decide_eq_true q3]
    refine call_same (al) (by simp [go_sem]) ?_
    simp only [go_sem]
    exact pdone [] (by simp only [go_sem]) (by first | rfl | simp [go_sem,slv_ids])
  by_cases q4:(b.ls.length:Int) > 60
  · simp only [go_sem,FX53,ns_,decide_eq_false q1,decide_eq_false q2,decide_eq_false q3,decide_eq_true q4]
    refine call_same (al) (by simp [go_sem]) ?_
    simp only [go_sem]
    exact pdone [] (by simp only [go_sem]) (by first | rfl | simp [go_sem,slv_ids])
  have c1:=m_samenames a b ha
  have c2:=u_samenames a b ha hb
  have c3:=m_samenames b a hb
  have e3:decide (b = a) = decide (a = b):=decide_eq_decide.2 ⟨fun h=>h.symm,fun h=>h.symm⟩
  rw [e3] at c3
  simp only [ns_,nsC] at c1 c2 c3
  simp only [go_sem,FX53,ns_,decide_eq_false q1,decide_eq_false q2,decide_eq_false q3,decide_eq_false q4]
  refine loop_rule (fun j:Nat=>⟨[(5,.int .i64 j),(2,.mp 2 3 0 0),(3,.mp 3 3 0 0),(4,.bool false)],[(2,⟨65,3,[[.str a.m,.sl 2 (a.fs.map nm_),.sl 2 (a.ls.map lc_)]],true⟩),(3,⟨65,3,[[.str b.m,.sl 2 (b.fs.map nm_),.sl 2 (b.ls.map lc_)]],true⟩)]⟩) (fun j=>j ≤ a.ls.length) (fun j=>a.ls.length - j) 0 (Nat.zero_le _) (Wk.of ?_ ?_) ?_
  · simp only [go_sem]; try simp
  · simp only [go_sem]; try simp
  intro j hj
  by_cases h1:(j:Int) < (a.ls.length:Int)
  · by_cases h2:(j:Int) < (b.ls.length:Int)
    · have e8:=i_bd (show j < a.ls.length by omega) (by omega)
      by_cases q5:((nth a.ls j).l.length:Int) > 60
      · simp only [go_sem,decide_eq_true h1,decide_eq_true h2,decide_eq_true q5]
        refine ⟨by omega,h1,?_⟩
        refine call_same (al) (by simp [go_sem]) ?_
        simp only [go_sem]
        exact pdone [] (by simp only [go_sem]) (by first | rfl | simp [go_sem,slv_ids])
      by_cases q6:((nth b.ls j).l.length:Int) > 60
      · simp only [go_sem,decide_eq_true h1,decide_eq_true h2,decide_eq_false q5,decide_eq_true q6]
        refine ⟨by omega,h1,by omega,h2,?_⟩
        refine call_same (al) (by simp [go_sem]) ?_
        simp only [go_sem]
        exact pdone [] (by simp only [go_sem]) (by first | rfl | simp [go_sem,slv_ids])
      simp only [go_sem,decide_eq_true h1,decide_eq_true h2,decide_eq_false q5,decide_eq_false q6]
      refine ⟨by omega,h1,by omega,h2,?_⟩
      refine klp_n (j + 1) (show j + 1 ≤ a.ls.length by omega) (show a.ls.length - (j + 1) < a.ls.length - j by omega) (Wk.of ?_ ?_)
      · simp only [go_sem,e8]; try simp
      · simp only [go_sem]; try simp
    · simp only [go_sem,decide_eq_true h1,decide_eq_false h2]
      refine dcall_same c1 (by simp [go_sem]) rfl ?_
      simp only [go_sem]
      refine call_same (c2) (by simp [go_sem]) ?_
      simp only [go_sem]
      refine dcall_same c3 (by simp [go_sem]) rfl ?_
      simp only [go_sem]
      refine call_same (c2) (by simp [go_sem]) ?_
      simp only [go_sem]
      refine call_same (al) (by simp [go_sem]) ?_
      simp only [go_sem]
      exact pdone [] (by simp only [go_sem]) (by first | rfl | simp [go_sem,slv_ids])
  · simp only [go_sem,decide_eq_false h1]
    refine dcall_same c1 (by simp [go_sem]) rfl ?_
    simp only [go_sem]
    refine call_same (c2) (by simp [go_sem]) ?_
    simp only [go_sem]
    refine dcall_same c3 (by simp [go_sem]) rfl ?_
    simp only [go_sem]
    refine call_same (c2) (by simp [go_sem]) ?_
    simp only [go_sem]
    refine call_same (al) (by simp [go_sem]) ?_
    simp only [go_sem]
    exact pdone [] (by simp only [go_sem]) (by first | rfl | simp [go_sem,slv_ids])
end Go.Proofs.YtoaagdbbbojpmaaGreatDoor
set_option maxRecDepth 100000
set_option maxHeartbeats 4000000
set_option linter.unusedVariables false
namespace Go.Proofs.YtoaagdbbbojpmaaGreatDoor
open Go Go.Mw
open Go.ChangeShapes Go.WideShapes Go.ChangeAt Go.RowKit

def tyNm:Ty:=.cons (.int .i64) (.cons .str .nil)
def bNm (B:Nat) (n:Nm):Prop:=n.s.length ≤ B
theorem el_Nm:El1 tyNm nm_ bNm:=fun r h=>by
  obtain ⟨_,_,rfl,⟨i,rfl,w_i⟩,_,_,rfl,⟨s,rfl,w_s⟩,rfl⟩:=h
  exact ⟨⟨i,s⟩,⟨.rfl _,.rfl _,trivial⟩,w_s,fun B hB=>hB.2.1 _ rfl⟩
def tyLc:Ty:=.cons (.int .i64) (.cons (.sl tyNm) .nil)
def bLc (B:Nat) (x:Lc):Prop:=bL bNm B x.l
theorem el_Lc:El1 tyLc lc_ bLc:=fun r h=>by
  obtain ⟨_,_,rfl,⟨i,rfl,w_i⟩,_,_,rfl,h_l,rfl⟩:=h
  obtain ⟨x,l,rfl,d,m,b⟩:=slN el_Nm h_l
  exact ⟨⟨i,l⟩,⟨.rfl _,d,trivial⟩,m,fun B hB=>b B hB.2.1⟩
def tyNs:Ty:=.cons .str (.cons (.sl tyNm) (.cons (.sl tyLc) .nil))
def bNs (B:Nat) (n:Ns):Prop:=n.m.length ≤ B ∧ bL bNm B n.fs ∧ bL bLc B n.ls
theorem el_Ns:El1 tyNs nsC bNs:=fun r h=>by
  obtain ⟨_,_,rfl,⟨s,rfl,w_s⟩,_,_,rfl,h_f,_,_,rfl,h_l,rfl⟩:=h
  obtain ⟨x,l,rfl,d,m,b⟩:=slN el_Nm h_f
  obtain ⟨x2,l2,rfl,d2,m2,b2⟩:=slN el_Lc h_l
  exact ⟨⟨s,l,l2⟩,⟨.rfl _,d,d2,trivial⟩,⟨w_s,m,m2⟩,fun B hB=>⟨hB.1 _ rfl,b B hB.2.1,b2 B hB.2.2.1⟩⟩
theorem tyM65:tyOf Tryz.prog 9 65 = some tyNs:=by kernel_rfl
theorem maxLen_le:maxLen ≤ 9223372036854775807:=by decide
end Go.Proofs.YtoaagdbbbojpmaaGreatDoor
