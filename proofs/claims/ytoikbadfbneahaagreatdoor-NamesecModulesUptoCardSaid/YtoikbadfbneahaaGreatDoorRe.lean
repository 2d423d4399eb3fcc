/-
  Chapter 14,the law NamesecModules,the second form: for every input the call returns true,and the arguments read as before: Of and With return the specified results for any module.
  Condition: unicode/utf8's tables lie as its own initialisers lay them (the card says so); what the arguments hold is of bulk at most 1048576 (the second form).
-/
import Derived.Test.YtoikbadfbneahaaGreatDoorQm
import Derived.Test.YtoikbadfbneahaaGreatDoorQs
set_option linter.unusedVariables false
set_option linter.unusedSimpArgs false
set_option linter.unusedSectionVars false
set_option maxRecDepth 100000
set_option linter.unusedVariables false
namespace Go.Proofs.YtoikbadfbneahaaGreatDoor
open Go Go.Mw
open Go.ChangeShapes Go.WideShapes Go.ChangeAt Go.RowKit

theorem p_modules14 (xs:List AV) (h:All2 Ty.okV [tyMod,tyNs] xs) (hb:All2 (Ty.bdV 1048576) [tyMod,tyNs] xs):PCalls Tryz.prog 5 xs (.bool true):=by
  obtain ⟨x,y,rfl,h0,h1⟩:=ok_2 h
  obtain ⟨m,hm,_,bm⟩:=recV el_Mod rfl h0
  obtain ⟨n,hn,_,bn⟩:=recV el_Ns rfl h1
  exact PCalls_nld (w_modules14 m n (bm _ hb.1) (bn _ hb.2.1)) ⟨hm,hn,trivial⟩

theorem mem_namesecModules:∀ t ∈ [44,25],Tryz.prog.readableRec t = true ∧ t < Tryz.prog.types.size:=by
  intro t ht
  simp only [List.mem_cons,List.not_mem_nil,or_false] at ht
  rcases ht with rfl | rfl
  all_goals exact ⟨by kernel_rfl,of_decide_eq_true (by kernel_rfl)⟩
theorem contract_namesecModules (H:Type) (enc:TypeId × Value → H) (W:World) (base:Nat) (args:Array Value) (ds gs:List (DataW H)) (before:List MemPlace)
    (hval:∀ (j:Nat) t v,Tryz.f5.params[j]? = some t → args[j]? = some v → Value.okWide Tryz.prog W .any base t v)
    (hW:DataW.Whole enc Tryz.prog Tryz.f5.params.toList Rows.namesecModulesSpec.vars false W args.toList ds gs before) (hL:laidMetH Tryz.prog Rows.namesecModulesUptoRow.laid W) (hk:Rows.uptoSmall H (ds ++ gs) = true) :
    Calls Tryz.prog 5 args W fun e W'=>∃ v,e = .returned v ∧ Rows.namesecModulesSpec.post enc Tryz.prog Tryz.f5 false true false false W args v W':=by
  refine law_contractB (bk14 H) (B:=1048576) (s:=Rows.namesecModulesSpec) (f:=Tryz.f5) (tb:=4) [tyMod,tyNs] ?_ laidOut ?_ rfl ?_ (by kernel_rfl) (by kernel_rfl) (p_modules14) W base args ds gs before (tabs_of hL) hval hW (fun d hd=>bk_small hk d (List.mem_append_left _ hd))
  · rw [Tryz.params5]; exact ⟨tyM44,tyM25,trivial⟩
  · rw [Tryz.params5]; exact mem_namesecModules
  · intro ds h
    match ds,h with
    | [d0,d1],_=>exact ⟨rfl,rfl,rfl⟩
theorem laid_namesecModules (os:Os):laidMet Tryz.prog Rows.namesecModulesUptoRow.laid ((laidWorld os).forCall (fun _ _=>0) ⟨#[],#[.agg #[.slice none 0 0,.slice none 0 0,.slice none 0 0,.slice none 0 0,.slice none 0 0,.slice none 0 0,.slice none 0 0,.bool false,.int .i64 0,.slice none 0 0,.slice none 0 0,.slice none 0 0],.agg #[.string ⟨#[]⟩,.slice none 0 0,.slice none 0 0]],[]⟩).memory :=
  laidMet_of_run' 8 (by kernel_rfl) (by kernel_rfl)
theorem reads_namesecModules (os:Os) {H:Type} (enc:TypeId × Value → H):∃ places,DataW.whole enc Tryz.prog ((laidWorld os).forCall (fun _ _=>0) ⟨#[],#[.agg #[.slice none 0 0,.slice none 0 0,.slice none 0 0,.slice none 0 0,.slice none 0 0,.slice none 0 0,.slice none 0 0,.bool false,.int .i64 0,.slice none 0 0,.slice none 0 0,.slice none 0 0],.agg #[.string ⟨#[]⟩,.slice none 0 0,.slice none 0 0]],[]⟩).memory Tryz.f5.params.toList Rows.namesecModulesSpec.vars false #[.agg #[.slice none 0 0,.slice none 0 0,.slice none 0 0,.slice none 0 0,.slice none 0 0,.slice none 0 0,.slice none 0 0,.bool false,.int .i64 0,.slice none 0 0,.slice none 0 0,.slice none 0 0],.agg #[.string ⟨#[]⟩,.slice none 0 0,.slice none 0 0]].toList 8 = some ([.agg [.nil,.nil,.nil,.nil,.nil,.nil,.nil,.lit (.bool false),.lit (.int .i64 0),.nil,.nil,.nil],.agg [.lit (.string []),.nil,.nil]],[],places) :=
  ⟨[],by kernel_rfl⟩
theorem lifted_namesecModules (os:Os) (started:os.Started) (H:Type) (enc:TypeId × Value → H) (F:Stop.Interp) :
    ReturnsInHanded {} Tryz.checked os 5 .any ((Rows.OpenSpec.upto Rows.namesecModulesSpec).preRow enc Tryz.prog Tryz.f5 Rows.namesecModulesUptoRow.domain false Rows.namesecModulesUptoRow.laid) (((Rows.OpenSpec.upto Rows.namesecModulesSpec).at F).post enc Tryz.prog Tryz.f5 false true false false):=by
  obtain ⟨places,hx⟩:=reads_namesecModules os enc
  refine returnsInHanded_of_row (C:=Tryz.checked) (s:=Rows.OpenSpec.upto Rows.namesecModulesSpec) own started (by kernel_rfl) Tryz.func5
    (witness_row_at (enc:=enc) (C:=Tryz.checked) false (laidWorld os) #[.agg #[.slice none 0 0,.slice none 0 0,.slice none 0 0,.slice none 0 0,.slice none 0 0,.slice none 0 0,.slice none 0 0,.bool false,.int .i64 0,.slice none 0 0,.slice none 0 0,.slice none 0 0],.agg #[.string ⟨#[]⟩,.slice none 0 0,.slice none 0 0]] rfl (by kernel_rfl) (by kernel_rfl) (by kernel_rfl)
      (OpenSpec.preRow_of_cond 8 hx (by kernel_rfl) (fun k hk=>by cases hk; kernel_rfl) (by kernel_rfl) (laid_namesecModules os))) ?_
  intro W base args ds gs before hval hW _ hcond _ hL _ _
  exact contract_namesecModules H enc W base args ds gs before hval hW hL (hcond _ rfl)
theorem said_namesecModules:Rows.NamesecModulesUptoSaid :=
  OpenClaim.holds_of_cond 5 Tryz.f5 rfl rfl rfl rfl rfl rfl rfl ⟨rfl,rfl,rfl,rfl,rfl⟩ rfl rfl rfl rfl rfl (by kernel_rfl) Tryz.func5 (by kernel_rfl)
    (of_decide_eq_true (by kernel_rfl)) (by unfold Func.isWrapper; first | (rw [if_pos (by decide +kernel)]; kernel_rfl) | (rw [if_neg (by decide +kernel)]; exact ⟨rfl,rfl⟩))
    (fun os started H enc _ F=>by rw [OpenClaim.pre_eq_preRow]; exact lifted_namesecModules os started H enc F)
theorem plain_namesecModules (f:FuncId) (fn:Func) (hf:Tryz.pinned.checked.prog.funcNamed Rows.namesecModulesUptoRow.func = some f) (hfn:Tryz.pinned.checked.prog.funcs[f]? = some fn) :
    false = Tryz.pinned.checked.prog.looks [] ∧ ∀ (j:Nat) t,fn.params[j]? = some t → Tryz.pinned.checked.prog.wantsStandIn t = false:=by
  obtain rfl:f = 5:=Option.some.inj ((show Tryz.prog.funcNamed Rows.namesecModulesUptoRow.func = some 5 by kernel_rfl).symm.trans hf) |>.symm
  obtain rfl:fn = Tryz.f5:=(Option.some.inj (Tryz.func5.symm.trans hfn)).symm
  refine ⟨by kernel_rfl,fun j t ht=>?_⟩
  rw [Tryz.params5] at ht
  have hm:=Array.mem_of_getElem? ht
  simp only [List.mem_toArray,List.mem_cons,List.not_mem_nil,or_false] at hm
  rcases hm with rfl | rfl
  · exact (show Tryz.prog.wantsStandIn 44 = false by kernel_rfl)
  · exact (show Tryz.prog.wantsStandIn 25 = false by kernel_rfl)
theorem namesecModulesUpto_holds:Rows.NamesecModulesUptoCardSaid :=
  Claim7.holds_tied_plain_at .later [] _ _ _ _ said_namesecModules (fun _ h=>by cases h) (by kernel_rfl) (fun _ h=>by cases h) namesecModulesUpto_row_tie rfl ⟨rfl,rfl⟩ (by kernel_rfl) rfl plain_namesecModules (by kernel_rfl)

end Go.Proofs.YtoikbadfbneahaaGreatDoor
