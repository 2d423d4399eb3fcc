/-
  Chapter 7,the law ModsLimits: for every input the call returns true,and the arguments read as before: Limits returns the first fault as in the reference.
  Condition: unicode/utf8's tables,strings.asciiSpace and unicode.White_Space lie as their own initialisers lay them (the card says so).
-/
import Derived.Test.YtoaagdbbbojpmaaGreatDoorQh
import Derived.Test.YtoaagdbbbojpmaaGreatDoorQj
set_option linter.unusedVariables false
set_option linter.unusedSimpArgs false
set_option linter.unusedSectionVars false
set_option maxRecDepth 100000
set_option linter.unusedVariables false
namespace Go.Proofs.YtoaagdbbbojpmaaGreatDoor
open Go Go.Mw
open Go.ChangeShapes Go.WideShapes Go.ChangeAt Go.RowKit

theorem p_limits07 (xs:List AV) (h:All2 Ty.okV [tyMod] xs):∃ ys,All2 nlc xs ys ∧ PCalls Tryz.prog 4 ys (.bool true):=by
  obtain ⟨x,rfl,h0⟩:=ok_1 h
  obtain ⟨m,hm,bm,_⟩:=recV el_Mod rfl h0
  exact ⟨[x],⟨.inl rfl,trivial⟩,PCalls_nld (w_limits7 m bm) ⟨hm,trivial⟩⟩

theorem mem_modsLimits:∀ t ∈ [33],Tryz.prog.readableRec t = true ∧ t < Tryz.prog.types.size:=by
  intro t ht
  simp only [List.mem_cons,List.not_mem_nil,or_false] at ht
  rcases ht with rfl
  all_goals exact ⟨by kernel_rfl,of_decide_eq_true (by kernel_rfl)⟩
theorem contract_modsLimits (H:Type) (enc:TypeId × Value → H) (W:World) (base:Nat) (args:Array Value) (ds gs:List (DataW H)) (before:List MemPlace)
    (hval:∀ (j:Nat) t v,Tryz.f4.params[j]? = some t → args[j]? = some v → Value.okWide Tryz.prog W .any base t v)
    (hW:DataW.Whole enc Tryz.prog Tryz.f4.params.toList Rows.modsLimitsSpec.vars false W args.toList ds gs before) (hL:laidMetH Tryz.prog Rows.modsLimitsRow.laid W) (hS:W.ShapedOpen Tryz.prog) :
    Calls Tryz.prog 4 args W fun e W'=>∃ v,e = .returned v ∧ Rows.modsLimitsSpec.post enc Tryz.prog Tryz.f4 false true false false W args v W':=by
  refine law_contract (s:=Rows.modsLimitsSpec) (f:=Tryz.f4) (tb:=4) [tyMod] ?_ laidOut ?_ rfl ?_ (by kernel_rfl) (by kernel_rfl) (p_limits07) W base args ds gs before (tabs_of hL hS) hval hW
  · rw [Tryz.params4]; exact ⟨tyM33,trivial⟩
  · rw [Tryz.params4]; exact mem_modsLimits
  · intro ds h
    match ds,h with
    | [d0],_=>exact ⟨rfl,rfl,rfl⟩
theorem laid_modsLimits (os:Os):laidMet Tryz.prog Rows.modsLimitsRow.laid ((laidWorld os).forCall (fun _ _=>0) ⟨#[],#[.agg #[.slice none 0 0,.slice none 0 0,.slice none 0 0,.slice none 0 0,.slice none 0 0,.slice none 0 0,.slice none 0 0,.bool false,.int .i64 0,.slice none 0 0,.slice none 0 0,.slice none 0 0]],[]⟩).memory :=
  laidMet_laidAll _ (by kernel_rfl) (by kernel_rfl)
theorem reads_modsLimits (os:Os) {H:Type} (enc:TypeId × Value → H):∃ places,DataW.whole enc Tryz.prog ((laidWorld os).forCall (fun _ _=>0) ⟨#[],#[.agg #[.slice none 0 0,.slice none 0 0,.slice none 0 0,.slice none 0 0,.slice none 0 0,.slice none 0 0,.slice none 0 0,.bool false,.int .i64 0,.slice none 0 0,.slice none 0 0,.slice none 0 0]],[]⟩).memory Tryz.f4.params.toList Rows.modsLimitsSpec.vars false #[.agg #[.slice none 0 0,.slice none 0 0,.slice none 0 0,.slice none 0 0,.slice none 0 0,.slice none 0 0,.slice none 0 0,.bool false,.int .i64 0,.slice none 0 0,.slice none 0 0,.slice none 0 0]].toList 8 = some ([.agg [.nil,.nil,.nil,.nil,.nil,.nil,.nil,.lit (.bool false),.lit (.int .i64 0),.nil,.nil,.nil]],[],places) :=
  ⟨[],by kernel_rfl⟩
theorem lifted_modsLimits (os:Os) (started:os.Started) (H:Type) (enc:TypeId × Value → H) (F:Stop.Interp) :
    ReturnsInHanded {} Tryz.checked os 4 .any ((OpenSpec.ofChange Rows.modsLimitsSpec).preRow enc Tryz.prog Tryz.f4 Rows.modsLimitsRow.domain false Rows.modsLimitsRow.laid) (((OpenSpec.ofChange Rows.modsLimitsSpec).at F).post enc Tryz.prog Tryz.f4 false true false false):=by
  obtain ⟨places,hx⟩:=reads_modsLimits os enc
  refine returnsInHanded_of_row (C:=Tryz.checked) (s:=OpenSpec.ofChange Rows.modsLimitsSpec) own started (by kernel_rfl) Tryz.func4
    (witness_row_atRef (enc:=enc) (C:=Tryz.checked) false (laidWorld os) #[.agg #[.slice none 0 0,.slice none 0 0,.slice none 0 0,.slice none 0 0,.slice none 0 0,.slice none 0 0,.slice none 0 0,.bool false,.int .i64 0,.slice none 0 0,.slice none 0 0,.slice none 0 0]] (World.laidAll_os _ _ _) (by kernel_rfl) (by kernel_rfl) (by kernel_rfl)
      (OpenSpec.preRow_of_cond 8 hx (by kernel_rfl) (fun k hk=>by cases hk) (by kernel_rfl) (laid_modsLimits os))) ?_
  intro W base args ds gs before hval hW _ _ _ hL hS _
  exact contract_modsLimits H enc W base args ds gs before hval hW hL hS
theorem zf_modsLimits_1:(Rows.modsLimitsRow.wf (OpenSpec.ofChange Rows.modsLimitsSpec)) = true:=by kernel_rfl
theorem zf_modsLimits_2:(laidOutB Tryz.prog) = true:=by kernel_rfl
theorem zf_modsLimits_3:(mapsRowed Tryz.prog) = true:=by kernel_rfl
theorem zf_modsLimits_4:(Tryz.f4.params.all (Tryz.prog.readableRec ·)) = true:=by kernel_rfl
theorem zf_modsLimits_5:(namedTie Tryz.prog Rows.modsLimitsRow.named Rows.modsLimitsSpec.vars) = true:=by kernel_rfl
theorem zf_modsLimits_6:((Rows.modsLimitsRow.stops == [])) = true:=by kernel_rfl
theorem zf_modsLimits_7:((Tryz.prog.stops == [])) = true:=by kernel_rfl
theorem zf_modsLimits_8:((Rows.modsLimitsRow.knobs == [])) = true:=by kernel_rfl
theorem zf_modsLimits_9:((Tryz.prog.stopKnobs == [])) = true:=by kernel_rfl
theorem zf_modsLimits_10:((Rows.modsLimitsRow.inPlace == Tryz.prog.inPlace 4)) = true:=by kernel_rfl
theorem zf_modsLimits_11:((Rows.modsLimitsRow.unfollowed == Tryz.prog.unfollowed 4)) = true:=by kernel_rfl
theorem zf_modsLimits_12:((Rows.modsLimitsRow.recurses == Tryz.prog.recurses 4)) = true:=by kernel_rfl
theorem zf_modsLimits_13:((Rows.modsLimitsRow.named == Tryz.prog.varsNamed 4)) = true:=by kernel_rfl
theorem zf_modsLimits_14:((Rows.modsLimitsRow.maps == (Tryz.f4.params.toList ++ Rows.modsLimitsSpec.plain.varTypes Tryz.prog).any (Tryz.prog.mapsRec ·))) = true:=by kernel_rfl
theorem zf_modsLimits_15:((Rows.modsLimitsRow.ifaces == (Tryz.f4.params.toList ++ Rows.modsLimitsSpec.plain.varTypes Tryz.prog).any (Tryz.prog.ifacesRec ·))) = true:=by kernel_rfl
theorem zf_modsLimits_16:((Rows.modsLimitsRow.mapsOut == Tryz.prog.mapsAmong Tryz.f4.resultTypes.toList)) = true:=by kernel_rfl
theorem zf_modsLimits_17:((Rows.modsLimitsRow.loops == (Tryz.f4.params.toList ++ Rows.modsLimitsSpec.plain.varTypes Tryz.prog).any (Tryz.prog.loopsFrom ·))) = true:=by kernel_rfl
theorem zf_modsLimits_18:((Rows.modsLimitsRow.wideKeys == (Tryz.f4.params.toList ++ Rows.modsLimitsSpec.plain.varTypes Tryz.prog ++ Tryz.f4.resultTypes.toList).any (Tryz.prog.wideKeysFrom ·))) = true:=by kernel_rfl
theorem zf_modsLimits_19:(Rows.modsLimitsSpec.vars.all (Tryz.prog.varReadable ·)) = true:=by kernel_rfl
theorem zf_modsLimits_20:(Tryz.f4.resultTypes.all (fun t=>Tryz.prog.readableRec t && decide (t < Tryz.prog.types.size))) = true:=by kernel_rfl
theorem zf_modsLimits_21:((Rows.modsLimitsRow.ifacesOut == Tryz.f4.resultTypes.toList.any (Tryz.prog.ifacesRec ·))) = true:=by kernel_rfl
theorem zf_modsLimits_22:((Rows.modsLimitsRow.loopsOut == Tryz.f4.resultTypes.toList.any (Tryz.prog.loopsFrom ·))) = true:=by kernel_rfl
theorem zf_modsLimits_23:((Rows.modsLimitsRow.plainKeys == Tryz.prog.plainKeys)) = true:=by kernel_rfl
theorem zf_modsLimits_24:(Rows.modsLimitsRow.shortTexts.isNone) = true:=by kernel_rfl
theorem zf_modsLimits_25:(Tryz.prog.stopsHeard) = true:=by kernel_rfl
theorem zf_modsLimits_26:(Tryz.prog.mayEnter) = true:=by kernel_rfl
theorem zf_modsLimits_27:((Rows.modsLimitsRow.lifted == Tryz.prog.liftsFinal)) = true:=by kernel_rfl
theorem zf_modsLimits_28:((Tryz.prog.make == some Rows.modsLimitsRow.make)) = true:=by kernel_rfl
theorem zf_modsLimits_29:((Rows.modsLimitsRow.kinds == (if Rows.modsLimitsRow.domain.isEmpty then [] else Tryz.f4.params.toList.map fun t=>match Tryz.prog.underlying t with | some (.int k)=>some k | _=>none))) = true:=by kernel_rfl
theorem zf_modsLimits_30:((Rows.modsLimitsRow.pinned == Rows.modsLimitsRow.pinnedBy)) = true:=by kernel_rfl
theorem zf_modsLimits_31:((Rows.modsLimitsRow.veiled == (Tryz.f4.params.toList ++ Rows.modsLimitsSpec.plain.varTypes Tryz.prog ++ Tryz.f4.resultTypes.toList).any (Tryz.prog.veiledRec ·))) = true:=by kernel_rfl
theorem zf_modsLimits_32:(Rows.modsLimitsRow.veiledFits Tryz.prog Tryz.f4.params.toList (Tryz.f4.params.toList ++ Rows.modsLimitsSpec.plain.varTypes Tryz.prog ++ Tryz.f4.resultTypes.toList)) = true:=by kernel_rfl
theorem andT {a b:Bool} (h:a = true) (g:b = true):(a && b) = true:=by rw [h,g]; rfl
theorem closed_modsLimits:joinedFacts Tryz.prog 4 Tryz.f4 Rows.modsLimitsSpec Rows.modsLimitsRow = true :=
  andT (andT (andT (andT (andT (andT (andT (andT (andT (andT (andT (andT (andT (andT (andT (andT (andT (andT (andT (andT (andT (andT (andT (andT (andT (andT (andT (andT (andT (andT (andT zf_modsLimits_1 zf_modsLimits_2) zf_modsLimits_3) zf_modsLimits_4) zf_modsLimits_5) zf_modsLimits_6) zf_modsLimits_7) zf_modsLimits_8) zf_modsLimits_9) zf_modsLimits_10) zf_modsLimits_11) zf_modsLimits_12) zf_modsLimits_13) zf_modsLimits_14) zf_modsLimits_15) zf_modsLimits_16) zf_modsLimits_17) zf_modsLimits_18) zf_modsLimits_19) zf_modsLimits_20) zf_modsLimits_21) zf_modsLimits_22) zf_modsLimits_23) zf_modsLimits_24) zf_modsLimits_25) zf_modsLimits_26) zf_modsLimits_27) zf_modsLimits_28) zf_modsLimits_29) zf_modsLimits_30) zf_modsLimits_31) zf_modsLimits_32
theorem said_modsLimits:Rows.ModsLimitsSaid :=
  OpenClaim.holds_of_cond 4 Tryz.f4 rfl rfl rfl rfl rfl rfl rfl ⟨rfl,rfl,rfl,rfl,rfl⟩ rfl rfl rfl rfl rfl (by kernel_rfl) Tryz.func4 closed_modsLimits
    (of_decide_eq_true (by kernel_rfl)) (by unfold Func.isWrapper; first | (rw [if_pos (by decide +kernel)]; kernel_rfl) | (rw [if_neg (by decide +kernel)]; exact ⟨rfl,rfl⟩))
    (fun os started H enc _ F=>by rw [OpenClaim.pre_eq_preRow]; exact lifted_modsLimits os started H enc F)
theorem plain_modsLimits (f:FuncId) (fn:Func) (hf:Tryz.pinned.checked.prog.funcNamed Rows.modsLimitsRow.func = some f) (hfn:Tryz.pinned.checked.prog.funcs[f]? = some fn) :
    false = Tryz.pinned.checked.prog.looks [] ∧ ∀ (j:Nat) t,fn.params[j]? = some t → Tryz.pinned.checked.prog.wantsStandIn t = false:=by
  obtain rfl:f = 4:=Option.some.inj ((show Tryz.prog.funcNamed Rows.modsLimitsRow.func = some 4 by kernel_rfl).symm.trans hf) |>.symm
  obtain rfl:fn = Tryz.f4:=(Option.some.inj (Tryz.func4.symm.trans hfn)).symm
  refine ⟨by kernel_rfl,fun j t ht=>?_⟩
  rw [Tryz.params4] at ht
  have hm:=Array.mem_of_getElem? ht
  simp only [List.mem_toArray,List.mem_cons,List.not_mem_nil,or_false] at hm
  rcases hm with rfl
  · exact (show Tryz.prog.wantsStandIn 33 = false by kernel_rfl)
theorem modsLimits_holds:Rows.ModsLimitsCardSaid :=
  Claim7.holds_tied_plain_at .later [] _ _ _ _ said_modsLimits (fun _ h=>by cases h) (by kernel_rfl) (fun _ h=>by cases h) modsLimits_row_tie rfl ⟨rfl,rfl⟩ (by kernel_rfl) rfl plain_modsLimits (by kernel_rfl)

end Go.Proofs.YtoaagdbbbojpmaaGreatDoor
