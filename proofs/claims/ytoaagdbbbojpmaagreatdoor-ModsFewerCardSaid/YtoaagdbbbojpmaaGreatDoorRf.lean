/-
  Chapter 7,the law ModsFewer: for every input the call returns true,and the arguments read as before: a module without faults has none after its last export,data segment and custom section are removed.
  Condition: unicode/utf8's tables,strings.asciiSpace and unicode.White_Space lie as their own initialisers lay them (the card says so).
-/
import Derived.Test.YtoaagdbbbojpmaaGreatDoorQh
import Derived.Test.YtoaagdbbbojpmaaGreatDoorQk
set_option linter.unusedVariables false
set_option linter.unusedSimpArgs false
set_option linter.unusedSectionVars false
set_option maxRecDepth 100000
set_option linter.unusedVariables false
namespace Go.Proofs.YtoaagdbbbojpmaaGreatDoor
open Go Go.Mw
open Go.ChangeShapes Go.WideShapes Go.ChangeAt Go.RowKit

theorem p_fewer07 (xs:List AV) (h:All2 Ty.okV [tyMod] xs):∃ ys,All2 nlc xs ys ∧ PCalls Tryz.prog 8 ys (.bool true):=by
  obtain ⟨x,rfl,h0⟩:=ok_1 h
  obtain ⟨m,hm,bm,_⟩:=recV el_Mod rfl h0
  exact ⟨[x],⟨.inl rfl,trivial⟩,PCalls_nld (w_fewer7 m bm) ⟨hm,trivial⟩⟩

theorem mem_modsFewer:∀ t ∈ [33],Tryz.prog.readableRec t = true ∧ t < Tryz.prog.types.size:=by
  intro t ht
  simp only [List.mem_cons,List.not_mem_nil,or_false] at ht
  rcases ht with rfl
  all_goals exact ⟨by kernel_rfl,of_decide_eq_true (by kernel_rfl)⟩
theorem contract_modsFewer (H:Type) (enc:TypeId × Value → H) (W:World) (base:Nat) (args:Array Value) (ds gs:List (DataW H)) (before:List MemPlace)
    (hval:∀ (j:Nat) t v,Tryz.f8.params[j]? = some t → args[j]? = some v → Value.okWide Tryz.prog W .any base t v)
    (hW:DataW.Whole enc Tryz.prog Tryz.f8.params.toList Rows.modsFewerSpec.vars false W args.toList ds gs before) (hL:laidMetH Tryz.prog Rows.modsFewerRow.laid W) (hS:W.ShapedOpen Tryz.prog) :
    Calls Tryz.prog 8 args W fun e W'=>∃ v,e = .returned v ∧ Rows.modsFewerSpec.post enc Tryz.prog Tryz.f8 false true false false W args v W':=by
  refine law_contract (s:=Rows.modsFewerSpec) (f:=Tryz.f8) (tb:=4) [tyMod] ?_ laidOut ?_ rfl ?_ (by kernel_rfl) (by kernel_rfl) (p_fewer07) W base args ds gs before (tabs_of hL hS) hval hW
  · rw [Tryz.params8]; exact ⟨tyM33,trivial⟩
  · rw [Tryz.params8]; exact mem_modsFewer
  · intro ds h
    match ds,h with
    | [d0],_=>exact ⟨rfl,rfl,rfl⟩
theorem laid_modsFewer (os:Os):laidMet Tryz.prog Rows.modsFewerRow.laid ((laidWorld os).forCall (fun _ _=>0) ⟨#[],#[.agg #[.slice none 0 0,.slice none 0 0,.slice none 0 0,.slice none 0 0,.slice none 0 0,.slice none 0 0,.slice none 0 0,.bool false,.int .i64 0,.slice none 0 0,.slice none 0 0,.slice none 0 0]],[]⟩).memory :=
  laidMet_laidAll _ (by kernel_rfl) (by kernel_rfl)
theorem reads_modsFewer (os:Os) {H:Type} (enc:TypeId × Value → H):∃ places,DataW.whole enc Tryz.prog ((laidWorld os).forCall (fun _ _=>0) ⟨#[],#[.agg #[.slice none 0 0,.slice none 0 0,.slice none 0 0,.slice none 0 0,.slice none 0 0,.slice none 0 0,.slice none 0 0,.bool false,.int .i64 0,.slice none 0 0,.slice none 0 0,.slice none 0 0]],[]⟩).memory Tryz.f8.params.toList Rows.modsFewerSpec.vars false #[.agg #[.slice none 0 0,.slice none 0 0,.slice none 0 0,.slice none 0 0,.slice none 0 0,.slice none 0 0,.slice none 0 0,.bool false,.int .i64 0,.slice none 0 0,.slice none 0 0,.slice none 0 0]].toList 8 = some ([.agg [.nil,.nil,.nil,.nil,.nil,.nil,.nil,.lit (.bool false),.lit (.int .i64 0),.nil,.nil,.nil]],[],places) :=
  ⟨[],by kernel_rfl⟩
theorem lifted_modsFewer (os:Os) (started:os.Started) (H:Type) (enc:TypeId × Value → H) (F:Stop.Interp) :
    ReturnsInHanded {} Tryz.checked os 8 .any ((OpenSpec.ofChange Rows.modsFewerSpec).preRow enc Tryz.prog Tryz.f8 Rows.modsFewerRow.domain false Rows.modsFewerRow.laid) (((OpenSpec.ofChange Rows.modsFewerSpec).at F).post enc Tryz.prog Tryz.f8 false true false false):=by
  obtain ⟨places,hx⟩:=reads_modsFewer os enc
  refine returnsInHanded_of_row (C:=Tryz.checked) (s:=OpenSpec.ofChange Rows.modsFewerSpec) own started (by kernel_rfl) Tryz.func8
    (witness_row_atRef (enc:=enc) (C:=Tryz.checked) false (laidWorld os) #[.agg #[.slice none 0 0,.slice none 0 0,.slice none 0 0,.slice none 0 0,.slice none 0 0,.slice none 0 0,.slice none 0 0,.bool false,.int .i64 0,.slice none 0 0,.slice none 0 0,.slice none 0 0]] (World.laidAll_os _ _ _) (by kernel_rfl) (by kernel_rfl) (by kernel_rfl)
      (OpenSpec.preRow_of_cond 8 hx (by kernel_rfl) (fun k hk=>by cases hk) (by kernel_rfl) (laid_modsFewer os))) ?_
  intro W base args ds gs before hval hW _ _ _ hL hS _
  exact contract_modsFewer H enc W base args ds gs before hval hW hL hS
theorem zf_modsFewer_1:(Rows.modsFewerRow.wf (OpenSpec.ofChange Rows.modsFewerSpec)) = true:=by kernel_rfl
theorem zf_modsFewer_2:(laidOutB Tryz.prog) = true:=by kernel_rfl
theorem zf_modsFewer_3:(mapsRowed Tryz.prog) = true:=by kernel_rfl
theorem zf_modsFewer_4:(Tryz.f8.params.all (Tryz.prog.readableRec ·)) = true:=by kernel_rfl
theorem zf_modsFewer_5:(namedTie Tryz.prog Rows.modsFewerRow.named Rows.modsFewerSpec.vars) = true:=by kernel_rfl
theorem zf_modsFewer_6:((Rows.modsFewerRow.stops == [])) = true:=by kernel_rfl
theorem zf_modsFewer_7:((Tryz.prog.stops == [])) = true:=by kernel_rfl
theorem zf_modsFewer_8:((Rows.modsFewerRow.knobs == [])) = true:=by kernel_rfl
theorem zf_modsFewer_9:((Tryz.prog.stopKnobs == [])) = true:=by kernel_rfl
theorem zf_modsFewer_10:((Rows.modsFewerRow.inPlace == Tryz.prog.inPlace 8)) = true:=by kernel_rfl
theorem zf_modsFewer_11:((Rows.modsFewerRow.unfollowed == Tryz.prog.unfollowed 8)) = true:=by kernel_rfl
theorem zf_modsFewer_12:((Rows.modsFewerRow.recurses == Tryz.prog.recurses 8)) = true:=by kernel_rfl
theorem zf_modsFewer_13:((Rows.modsFewerRow.named == Tryz.prog.varsNamed 8)) = true:=by kernel_rfl
theorem zf_modsFewer_14:((Rows.modsFewerRow.maps == (Tryz.f8.params.toList ++ Rows.modsFewerSpec.plain.varTypes Tryz.prog).any (Tryz.prog.mapsRec ·))) = true:=by kernel_rfl
theorem zf_modsFewer_15:((Rows.modsFewerRow.ifaces == (Tryz.f8.params.toList ++ Rows.modsFewerSpec.plain.varTypes Tryz.prog).any (Tryz.prog.ifacesRec ·))) = true:=by kernel_rfl
theorem zf_modsFewer_16:((Rows.modsFewerRow.mapsOut == Tryz.prog.mapsAmong Tryz.f8.resultTypes.toList)) = true:=by kernel_rfl
theorem zf_modsFewer_17:((Rows.modsFewerRow.loops == (Tryz.f8.params.toList ++ Rows.modsFewerSpec.plain.varTypes Tryz.prog).any (Tryz.prog.loopsFrom ·))) = true:=by kernel_rfl
theorem zf_modsFewer_18:((Rows.modsFewerRow.wideKeys == (Tryz.f8.params.toList ++ Rows.modsFewerSpec.plain.varTypes Tryz.prog ++ Tryz.f8.resultTypes.toList).any (Tryz.prog.wideKeysFrom ·))) = true:=by kernel_rfl
theorem zf_modsFewer_19:(Rows.modsFewerSpec.vars.all (Tryz.prog.varReadable ·)) = true:=by kernel_rfl
theorem zf_modsFewer_20:(Tryz.f8.resultTypes.all (fun t=>Tryz.prog.readableRec t && decide (t < Tryz.prog.types.size))) = true:=by kernel_rfl
theorem zf_modsFewer_21:((Rows.modsFewerRow.ifacesOut == Tryz.f8.resultTypes.toList.any (Tryz.prog.ifacesRec ·))) = true:=by kernel_rfl
theorem zf_modsFewer_22:((Rows.modsFewerRow.loopsOut == Tryz.f8.resultTypes.toList.any (Tryz.prog.loopsFrom ·))) = true:=by kernel_rfl
theorem zf_modsFewer_23:((Rows.modsFewerRow.plainKeys == Tryz.prog.plainKeys)) = true:=by kernel_rfl
theorem zf_modsFewer_24:(Rows.modsFewerRow.shortTexts.isNone) = true:=by kernel_rfl
theorem zf_modsFewer_25:(Tryz.prog.stopsHeard) = true:=by kernel_rfl
theorem zf_modsFewer_26:(Tryz.prog.mayEnter) = true:=by kernel_rfl
theorem zf_modsFewer_27:((Rows.modsFewerRow.lifted == Tryz.prog.liftsFinal)) = true:=by kernel_rfl
theorem zf_modsFewer_28:((Tryz.prog.make == some Rows.modsFewerRow.make)) = true:=by kernel_rfl
theorem zf_modsFewer_29:((Rows.modsFewerRow.kinds == (if Rows.modsFewerRow.domain.isEmpty then [] else Tryz.f8.params.toList.map fun t=>match Tryz.prog.underlying t with | some (.int k)=>some k | _=>none))) = true:=by kernel_rfl
theorem zf_modsFewer_30:((Rows.modsFewerRow.pinned == Rows.modsFewerRow.pinnedBy)) = true:=by kernel_rfl
theorem zf_modsFewer_31:((Rows.modsFewerRow.veiled == (Tryz.f8.params.toList ++ Rows.modsFewerSpec.plain.varTypes Tryz.prog ++ Tryz.f8.resultTypes.toList).any (Tryz.prog.veiledRec ·))) = true:=by kernel_rfl
theorem zf_modsFewer_32:(Rows.modsFewerRow.veiledFits Tryz.prog Tryz.f8.params.toList (Tryz.f8.params.toList ++ Rows.modsFewerSpec.plain.varTypes Tryz.prog ++ Tryz.f8.resultTypes.toList)) = true:=by kernel_rfl
theorem andT {a b:Bool} (h:a = true) (g:b = true):(a && b) = true:=by rw [h,g]; rfl
theorem closed_modsFewer:joinedFacts Tryz.prog 8 Tryz.f8 Rows.modsFewerSpec Rows.modsFewerRow = true :=
  andT (andT (andT (andT (andT (andT (andT (andT (andT (andT (andT (andT (andT (andT (andT (andT (andT (andT (andT (andT (andT (andT (andT (andT (andT (andT (andT (andT (andT (andT (andT zf_modsFewer_1 zf_modsFewer_2) zf_modsFewer_3) zf_modsFewer_4) zf_modsFewer_5) zf_modsFewer_6) zf_modsFewer_7) zf_modsFewer_8) zf_modsFewer_9) zf_modsFewer_10) zf_modsFewer_11) zf_modsFewer_12) zf_modsFewer_13) zf_modsFewer_14) zf_modsFewer_15) zf_modsFewer_16) zf_modsFewer_17) zf_modsFewer_18) zf_modsFewer_19) zf_modsFewer_20) zf_modsFewer_21) zf_modsFewer_22) zf_modsFewer_23) zf_modsFewer_24) zf_modsFewer_25) zf_modsFewer_26) zf_modsFewer_27) zf_modsFewer_28) zf_modsFewer_29) zf_modsFewer_30) zf_modsFewer_31) zf_modsFewer_32
theorem said_modsFewer:Rows.ModsFewerSaid :=
  OpenClaim.holds_of_cond 8 Tryz.f8 rfl rfl rfl rfl rfl rfl rfl ⟨rfl,rfl,rfl,rfl,rfl⟩ rfl rfl rfl rfl rfl (by kernel_rfl) Tryz.func8 closed_modsFewer
    (of_decide_eq_true (by kernel_rfl)) (by unfold Func.isWrapper; first | (rw [if_pos (by decide +kernel)]; kernel_rfl) | (rw [if_neg (by decide +kernel)]; exact ⟨rfl,rfl⟩))
    (fun os started H enc _ F=>by rw [OpenClaim.pre_eq_preRow]; exact lifted_modsFewer os started H enc F)
theorem plain_modsFewer (f:FuncId) (fn:Func) (hf:Tryz.pinned.checked.prog.funcNamed Rows.modsFewerRow.func = some f) (hfn:Tryz.pinned.checked.prog.funcs[f]? = some fn) :
    false = Tryz.pinned.checked.prog.looks [] ∧ ∀ (j:Nat) t,fn.params[j]? = some t → Tryz.pinned.checked.prog.wantsStandIn t = false:=by
  obtain rfl:f = 8:=Option.some.inj ((show Tryz.prog.funcNamed Rows.modsFewerRow.func = some 8 by kernel_rfl).symm.trans hf) |>.symm
  obtain rfl:fn = Tryz.f8:=(Option.some.inj (Tryz.func8.symm.trans hfn)).symm
  refine ⟨by kernel_rfl,fun j t ht=>?_⟩
  rw [Tryz.params8] at ht
  have hm:=Array.mem_of_getElem? ht
  simp only [List.mem_toArray,List.mem_cons,List.not_mem_nil,or_false] at hm
  rcases hm with rfl
  · exact (show Tryz.prog.wantsStandIn 33 = false by kernel_rfl)
theorem modsFewer_holds:Rows.ModsFewerCardSaid :=
  Claim7.holds_tied_plain_at .later [] _ _ _ _ said_modsFewer (fun _ h=>by cases h) (by kernel_rfl) (fun _ h=>by cases h) modsFewer_row_tie rfl ⟨rfl,rfl⟩ (by kernel_rfl) rfl plain_modsFewer (by kernel_rfl)

end Go.Proofs.YtoaagdbbbojpmaaGreatDoor
