/-
  Chapter 14,walks: the law NamesecModules.
-/
import Derived.Test.YtoikbadfbneahaaGreatDoorQp
import Derived.Test.YtoikbadfbneahaaGreatDoorQ3
import Derived.Test.YtoikbadfbneahaaGreatDoorQt
import Derived.Test.YtoikbadfbneahaaGreatDoorQl
import Derived.Test.YtoikbadfbneahaaGreatDoorQo
import Derived.Test.YtoikbadfbneahaaGreatDoorQm
set_option linter.unusedVariables false
set_option linter.unusedSimpArgs false
set_option linter.unusedSectionVars false
set_option maxRecDepth 100000
set_option maxHeartbeats 40000000
set_option linter.unusedVariables false
set_option linter.unusedSimpArgs false
namespace Go.Proofs.YtoikbadfbneahaaGreatDoor
open Go Go.Mw
-- @U: List.length_map,mdC_e

theorem smIs_c {l:List Ins} (h:bL bIns 1048576 l):smIs l:=⟨h.1,fun x hx=>⟨(h.2 x hx).2.1.1,(h.2 x hx).2.2.1⟩⟩
theorem smM_c {m:Md} (h:bMod 1048576 m):smM m:=by
  obtain ⟨h1,h2,h3,h4,h5,h6,h7,h8,h9,h10⟩:=h
  exact ⟨⟨h1.1,fun x hx=>⟨(h1.2 x hx).1.1,(h1.2 x hx).2.1⟩⟩,h2.1,⟨h3.1,fun x hx=>⟨(h3.2 x hx).1.1,smIs_c (h3.2 x hx).2⟩⟩,h4.1,h5.1,⟨h6.1,fun x hx=>smIs_c (h6.2 x hx)⟩,h7.1,⟨h8.1,fun x hx=>⟨smIs_c (h8.2 x hx).1,(h8.2 x hx).2.1,fun l hl=>smIs_c ((h8.2 x hx).2.2 l hl)⟩⟩,⟨h9.1,fun x hx=>⟨smIs_c (h9.2 x hx).1,(h9.2 x hx).2.1⟩⟩,⟨h10.1,fun x hx=>(h10.2 x hx).2.1⟩⟩
theorem smN_c {n:Ns} (h:bNs 1048576 n):smN n:=⟨h.1,fun x hx=>h.2.1.2 x hx,fun x hx y hy=>(h.2.2.2 x hx).2 y hy⟩
theorem ofA_ln:∀ l:List Cu,lnN (ofA l).1
  | []=>lnN_0
  | c :: r=>by
    unfold ofA
    split
    · exact decA_ln c.b
    · exact ofA_ln r
theorem smM_w {m:Md} {n:Ns} (hm:smM m) (h30:m.cs.length ≤ 30):smM (withA m n).1:=by
  have hf:=flt_len m.cs
  have hfm:∀ c ∈ flt m.cs,smCu c:=fun c hc=>hm.cs.2 c (List.mem_filter.1 hc).1
  unfold withA
  split
  · exact smM_0
  split
  · exact ⟨hm.ts,hm.ims,hm.fs,hm.tbs,hm.ms,hm.gs,hm.exs,hm.els,hm.ds,⟨by simp only; omega,hfm⟩⟩
  split
  · exact smM_0
  rename_i h1
  refine ⟨hm.ts,hm.ims,hm.fs,hm.tbs,hm.ms,hm.gs,hm.exs,hm.els,hm.ds,⟨by simp only [List.length_append,List.length_singleton]; omega,fun c hc=>?_⟩⟩
  rcases List.mem_append.1 hc with hc | hc
  · exact hfm c hc
  · simp only [List.mem_singleton] at hc
    subst hc
    unfold smCu
    simp only
    omega
theorem w_modules14 (m:Md) (n:Ns) (bm:bMod 1048576 m) (bn:bNs 1048576 n):PCalls Tryz.prog nX11 [md_ m,ns_ n] (.bool true):=by
  refine pfun_sound (ic:=FX11.body) mixed cX11 rfl rfl ?_
  have hm:=smM_c bm
  have hn:=smN_c bn
  have hcb:∀ c ∈ m.cs,c.b.length < 1000000000:=fun c hc=>by have:=hm.cs.2 c hc; unfold smCu at this; omega
  have hcl:=hm.cs.1
  have cf:=s_few14 n
  have cg:=s_few8 m
  have c1:=s_of14 m (by omega) hcb
  have c2:=u_of14 m (by omega) hcb
  have c3:=s_with14 m n hm hn
  have c4:=u_with14 m n hcl hn
  have c5:=u_samenames (ofA m.cs).1 (ofA m.cs).1 (ofA_ln _) (ofA_ln _)
  rw [decide_eq_true rfl] at c5
  simp only [ns_e] at cf c1 c2 c3 c4 c5
  simp only [md_,mdC_e] at cg c1 c2 c3 c4
  simp only [go_sem,List.length_map,mdC_e,FX11,md_]
  refine call_same (cf) (by simp [go_sem,List.length_map,mdC_e]) ?_
  cases few14 n
  · simp only [go_sem,List.length_map,mdC_e]
    refine call_same (s_alive14) (by simp [go_sem,List.length_map,mdC_e]) ?_
    simp only [go_sem,List.length_map,mdC_e]
    exact pdone [] (by simp only [go_sem,List.length_map,mdC_e]) (by first | rfl | simp [go_sem,slv_ids,List.length_map,mdC_e])
  simp only [go_sem,List.length_map,mdC_e]
  refine call_same (cg) (by simp [go_sem,List.length_map,mdC_e]) ?_
  cases fewM m
  · simp only [go_sem,List.length_map,mdC_e]
    refine call_same (s_alive14) (by simp [go_sem,List.length_map,mdC_e]) ?_
    simp only [go_sem,List.length_map,mdC_e]
    exact pdone [] (by simp only [go_sem,List.length_map,mdC_e]) (by first | rfl | simp [go_sem,slv_ids,List.length_map,mdC_e])
  by_cases h30:(m.cs.length:Int) > 30
  · simp only [go_sem,List.length_map,mdC_e,decide_eq_true h30]
    refine call_same (s_alive14) (by simp [go_sem,List.length_map,mdC_e]) ?_
    simp only [go_sem,List.length_map,mdC_e]
    exact pdone [] (by simp only [go_sem,List.length_map,mdC_e]) (by first | rfl | simp [go_sem,slv_ids,List.length_map,mdC_e])
  have c6:=r_same7 (withA m n).1 (withA m n).1 (smM_w hm (by omega))
  rw [decide_eq_true (SameP_refl _)] at c6
  simp only [md_,mdC_e] at c6
  simp only [go_sem,List.length_map,mdC_e,decide_eq_false h30]
  refine call_same (c1) (by simp [go_sem,List.length_map,mdC_e]) ?_
  simp only [go_sem,List.length_map,mdC_e]
  refine call_same (c2) (by simp [go_sem,List.length_map,mdC_e]) ?_
  simp only [go_sem,List.length_map,mdC_e]
  refine call_same (c3) (by simp [go_sem,List.length_map,mdC_e]) ?_
  simp only [go_sem,List.length_map,mdC_e]
  refine call_same (c4) (by simp [go_sem,List.length_map,mdC_e]) ?_
  simp only [go_sem,List.length_map,mdC_e]
  refine call_same (c5) (by simp [go_sem,List.length_map,mdC_e]) ?_
  simp only [go_sem,List.length_map,mdC_e]
  refine call_same (c6) (by simp [go_sem,List.length_map,mdC_e]) ?_
  simp only [go_sem,List.length_map,mdC_e]
  refine call_same (s_alive14) (by simp [go_sem,List.length_map,mdC_e]) ?_
  simp only [go_sem,List.length_map,mdC_e]
  exact pdone [] (by simp only [go_sem,List.length_map,mdC_e]) (by first | rfl | simp [go_sem,slv_ids,List.length_map,mdC_e])
end Go.Proofs.YtoikbadfbneahaaGreatDoor
