/-
  Chapter 7,the law ModsStarts: for every input the call returns true,and the arguments read as before: the field Start matters only if HasStart is true.
  Condition: unicode/utf8's tables,strings.asciiSpace and unicode.White_Space lie as their own initialisers lay them (the card says so).
-/
import Derived.Test.YtoaagdbbbojpmaaGreatDoorQh
import Derived.Test.YtoaagdbbbojpmaaGreatDoorQj
set_option linter.unusedVariables false
set_option linter.unusedSimpArgs false
set_option linter.unusedSectionVars false
set_option maxRecDepth 100000
set_option linter.unusedVariables false
namespace Go.Proofs.YtoaagdbbbojpmaaGreatDoor
open Go Go.Mw
open Go.ChangeShapes Go.WideShapes Go.ChangeAt Go.RowKit

theorem p_starts07 (xs:List AV) (h:All2 Ty.okV [tyMod,.int .i64] xs):∃ ys,All2 nlc xs ys ∧ PCalls Tryz.prog 7 ys (.bool true):=by
  obtain ⟨x,y,rfl,h0,h1⟩:=ok_2 h
  obtain ⟨m,hm,bm,_⟩:=recV el_Mod rfl h0
  obtain ⟨i,rfl,_⟩:=intV h1
  exact ⟨[x,.int .i64 i],⟨.inl rfl,.inl rfl,trivial⟩,PCalls_nld (w_starts7 m bm i) ⟨hm,.inl (.rfl _),trivial⟩⟩

theorem mem_modsStarts:∀ t ∈ [33,3],Tryz.prog.readableRec t = true ∧ t < Tryz.prog.types.size:=by
  intro t ht
  simp only [List.mem_cons,List.not_mem_nil,or_false] at ht
  rcases ht with rfl | rfl
  all_goals exact ⟨by kernel_rfl,of_decide_eq_true (by kernel_rfl)⟩
theorem contract_modsStarts (H:Type) (enc:TypeId × Value → H) (W:World) (base:Nat) (args:Array Value) (ds gs:List (DataW H)) (before:List MemPlace)
    (hval:∀ (j:Nat) t v,Tryz.f7.params[j]? = some t → args[j]? = some v → Value.okWide Tryz.prog W .any base t v)
    (hW:DataW.Whole enc Tryz.prog Tryz.f7.params.toList Rows.modsStartsSpec.vars false W args.toList ds gs before) (hL:laidMetH Tryz.prog Rows.modsStartsRow.laid W) (hS:W.ShapedOpen Tryz.prog) :
    Calls Tryz.prog 7 args W fun e W'=>∃ v,e = .returned v ∧ Rows.modsStartsSpec.post enc Tryz.prog Tryz.f7 false true false false W args v W':=by
  refine law_contract (s:=Rows.modsStartsSpec) (f:=Tryz.f7) (tb:=4) [tyMod,.int .i64] ?_ laidOut ?_ rfl ?_ (by kernel_rfl) (by kernel_rfl) (p_starts07) W base args ds gs before (tabs_of hL hS) hval hW
  · rw [Tryz.params7]; exact ⟨tyM33,tyM3,trivial⟩
  · rw [Tryz.params7]; exact mem_modsStarts
  · intro ds h
    match ds,h with
    | [d0,d1],_=>exact ⟨rfl,rfl,rfl⟩
theorem laid_modsStarts (os:Os):laidMet Tryz.prog Rows.modsStartsRow.laid ((laidWorld os).forCall (fun _ _=>0) ⟨#[],#[.agg #[.slice none 0 0,.slice none 0 0,.slice none 0 0,.slice none 0 0,.slice none 0 0,.slice none 0 0,.slice none 0 0,.bool false,.int .i64 0,.slice none 0 0,.slice none 0 0,.slice none 0 0],.int .i64 0],[]⟩).memory :=
  laidMet_laidAll _ (by kernel_rfl) (by kernel_rfl)
theorem reads_modsStarts (os:Os) {H:Type} (enc:TypeId × Value → H):∃ places,DataW.whole enc Tryz.prog ((laidWorld os).forCall (fun _ _=>0) ⟨#[],#[.agg #[.slice none 0 0,.slice none 0 0,.slice none 0 0,.slice none 0 0,.slice none 0 0,.slice none 0 0,.slice none 0 0,.bool false,.int .i64 0,.slice none 0 0,.slice none 0 0,.slice none 0 0],.int .i64 0],[]⟩).memory Tryz.f7.params.toList Rows.modsStartsSpec.vars false #[.agg #[.slice none 0 0,.slice none 0 0,.slice none 0 0,.slice none 0 0,.slice none 0 0,.slice none 0 0,.slice none 0 0,.bool false,.int .i64 0,.slice none 0 0,.slice none 0 0,.slice none 0 0],.int .i64 0].toList 8 = some ([.agg [.nil,.nil,.nil,.nil,.nil,.nil,.nil,.lit (.bool false),.lit (.int .i64 0),.nil,.nil,.nil],.lit (.int .i64 0)],[],places) :=
  ⟨[],by kernel_rfl⟩
theorem lifted_modsStarts (os:Os) (started:os.Started) (H:Type) (enc:TypeId × Value → H) (F:Stop.Interp) :
    ReturnsInHanded {} Tryz.checked os 7 .any ((OpenSpec.ofChange Rows.modsStartsSpec).preRow enc Tryz.prog Tryz.f7 Rows.modsStartsRow.domain false Rows.modsStartsRow.laid) (((OpenSpec.ofChange Rows.modsStartsSpec).at F).post enc Tryz.prog Tryz.f7 false true false false):=by
  obtain ⟨places,hx⟩:=reads_modsStarts os enc
  refine returnsInHanded_of_row (C:=Tryz.checked) (s:=OpenSpec.ofChange Rows.modsStartsSpec) own started (by kernel_rfl) Tryz.func7
    (witness_row_atRef (enc:=enc) (C:=Tryz.checked) false (laidWorld os) #[.agg #[.slice none 0 0,.slice none 0 0,.slice none 0 0,.slice none 0 0,.slice none 0 0,.slice none 0 0,.slice none 0 0,.bool false,.int .i64 0,.slice none 0 0,.slice none 0 0,.slice none 0 0],.int .i64 0] (World.laidAll_os _ _ _) (by kernel_rfl) (by kernel_rfl) (by kernel_rfl)
      (OpenSpec.preRow_of_cond 8 hx (by kernel_rfl) (fun k hk=>by cases hk) (by kernel_rfl) (laid_modsStarts os))) ?_
  intro W base args ds gs before hval hW _ _ _ hL hS _
  exact contract_modsStarts H enc W base args ds gs before hval hW hL hS
theorem zf_modsStarts_1:(Rows.modsStartsRow.wf (OpenSpec.ofChange Rows.modsStartsSpec)) = true:=by kernel_rfl
theorem zf_modsStarts_2:(laidOutB Tryz.prog) = true:=by kernel_rfl
theorem zf_modsStarts_3:(mapsRowed Tryz.prog) = true:=by kernel_rfl
theorem zf_modsStarts_4:(Tryz.f7.params.all (Tryz.prog.readableRec ·)) = true:=by kernel_rfl
theorem zf_modsStarts_5:(namedTie Tryz.prog Rows.modsStartsRow.named Rows.modsStartsSpec.vars) = true:=by kernel_rfl
theorem zf_modsStarts_6:((Rows.modsStartsRow.stops == [])) = true:=by kernel_rfl
theorem zf_modsStarts_7:((Tryz.prog.stops == [])) = true:=by kernel_rfl
theorem zf_modsStarts_8:((Rows.modsStartsRow.knobs == [])) = true:=by kernel_rfl
theorem zf_modsStarts_9:((Tryz.prog.stopKnobs == [])) = true:=by kernel_rfl
theorem zf_modsStarts_10:((Rows.modsStartsRow.inPlace == Tryz.prog.inPlace 7)) = true:=by kernel_rfl
theorem zf_modsStarts_11:((Rows.modsStartsRow.unfollowed == Tryz.prog.unfollowed 7)) = true:=by kernel_rfl
theorem zf_modsStarts_12:((Rows.modsStartsRow.recurses == Tryz.prog.recurses 7)) = true:=by kernel_rfl
theorem zf_modsStarts_13:((Rows.modsStartsRow.named == Tryz.prog.varsNamed 7)) = true:=by kernel_rfl
theorem zf_modsStarts_14:((Rows.modsStartsRow.maps == (Tryz.f7.params.toList ++ Rows.modsStartsSpec.plain.varTypes Tryz.prog).any (Tryz.prog.mapsRec ·))) = true:=by kernel_rfl
theorem zf_modsStarts_15:((Rows.modsStartsRow.ifaces == (Tryz.f7.params.toList ++ Rows.modsStartsSpec.plain.varTypes Tryz.prog).any (Tryz.prog.ifacesRec ·))) = true:=by kernel_rfl
theorem zf_modsStarts_16:((Rows.modsStartsRow.mapsOut == Tryz.prog.mapsAmong Tryz.f7.resultTypes.toList)) = true:=by kernel_rfl
theorem zf_modsStarts_17:((Rows.modsStartsRow.loops == (Tryz.f7.params.toList ++ Rows.modsStartsSpec.plain.varTypes Tryz.prog).any (Tryz.prog.loopsFrom ·))) = true:=by kernel_rfl
theorem zf_modsStarts_18:((Rows.modsStartsRow.wideKeys == (Tryz.f7.params.toList ++ Rows.modsStartsSpec.plain.varTypes Tryz.prog ++ Tryz.f7.resultTypes.toList).any (Tryz.prog.wideKeysFrom ·))) = true:=by kernel_rfl
theorem zf_modsStarts_19:(Rows.modsStartsSpec.vars.all (Tryz.prog.varReadable ·)) = true:=by kernel_rfl
theorem zf_modsStarts_20:(Tryz.f7.resultTypes.all (fun t=>Tryz.prog.readableRec t && decide (t < Tryz.prog.types.size))) = true:=by kernel_rfl
theorem zf_modsStarts_21:((Rows.modsStartsRow.ifacesOut == Tryz.f7.resultTypes.toList.any (Tryz.prog.ifacesRec ·))) = true:=by kernel_rfl
theorem zf_modsStarts_22:((Rows.modsStartsRow.loopsOut == Tryz.f7.resultTypes.toList.any (Tryz.prog.loopsFrom ·))) = true:=by kernel_rfl
theorem zf_modsStarts_23:((Rows.modsStartsRow.plainKeys == Tryz.prog.plainKeys)) = true:=by kernel_rfl
theorem zf_modsStarts_24:(Rows.modsStartsRow.shortTexts.isNone) = true:=by kernel_rfl
theorem zf_modsStarts_25:(Tryz.prog.stopsHeard) = true:=by kernel_rfl
theorem zf_modsStarts_26:(Tryz.prog.mayEnter) = true:=by kernel_rfl
theorem zf_modsStarts_27:((Rows.modsStartsRow.lifted == Tryz.prog.liftsFinal)) = true:=by kernel_rfl
theorem zf_modsStarts_28:((Tryz.prog.make == some Rows.modsStartsRow.make)) = true:=by kernel_rfl
theorem zf_modsStarts_29:((Rows.modsStartsRow.kinds == (if Rows.modsStartsRow.domain.isEmpty then [] else Tryz.f7.params.toList.map fun t=>match Tryz.prog.underlying t with | some (.int k)=>some k | _=>none))) = true:=by kernel_rfl
theorem zf_modsStarts_30:((Rows.modsStartsRow.pinned == Rows.modsStartsRow.pinnedBy)) = true:=by kernel_rfl
theorem zf_modsStarts_31:((Rows.modsStartsRow.veiled == (Tryz.f7.params.toList ++ Rows.modsStartsSpec.plain.varTypes Tryz.prog ++ Tryz.f7.resultTypes.toList).any (Tryz.prog.veiledRec ·))) = true:=by kernel_rfl
theorem zf_modsStarts_32:(Rows.modsStartsRow.veiledFits Tryz.prog Tryz.f7.params.toList (Tryz.f7.params.toList ++ Rows.modsStartsSpec.plain.varTypes Tryz.prog ++ Tryz.f7.resultTypes.toList)) = true:=by kernel_rfl
theorem andT {a b:Bool} (h:a = true) (g:b = true):(a && b) = true:=by rw [h,g]; rfl
theorem closed_modsStarts:joinedFacts Tryz.prog 7 Tryz.f7 Rows.modsStartsSpec Rows.modsStartsRow = true :=
  andT (andT (andT (andT (andT (andT (andT (andT (andT (andT (andT (andT (andT (andT (andT (andT (andT (andT (andT (andT (andT (andT (andT (andT (andT (andT (andT (andT (andT (andT (andT zf_modsStarts_1 zf_modsStarts_2) zf_modsStarts_3) zf_modsStarts_4) zf_modsStarts_5) zf_modsStarts_6) zf_modsStarts_7) zf_modsStarts_8) zf_modsStarts_9) zf_modsStarts_10) zf_modsStarts_11) zf_modsStarts_12) zf_modsStarts_13) zf_modsStarts_14) zf_modsStarts_15) zf_modsStarts_16) zf_modsStarts_17) zf_modsStarts_18) zf_modsStarts_19) zf_modsStarts_20) zf_modsStarts_21) zf_modsStarts_22) zf_modsStarts_23) zf_modsStarts_24) zf_modsStarts_25) zf_modsStarts_26) zf_modsStarts_27) zf_modsStarts_28) zf_modsStarts_29) zf_modsStarts_30) zf_modsStarts_31) zf_modsStarts_32
theorem said_modsStarts:Rows.ModsStartsSaid :=
  OpenClaim.holds_of_cond 7 Tryz.f7 rfl rfl rfl rfl rfl rfl rfl ⟨rfl,rfl,rfl,rfl,rfl⟩ rfl rfl rfl rfl rfl (by kernel_rfl) Tryz.func7 closed_modsStarts
    (of_decide_eq_true (by kernel_rfl)) (by unfold Func.isWrapper; first | (rw [if_pos (by decide +kernel)]; kernel_rfl) | (rw [if_neg (by decide +kernel)]; exact ⟨rfl,rfl⟩))
    (fun os started H enc _ F=>by rw [OpenClaim.pre_eq_preRow]; exact lifted_modsStarts os started H enc F)
theorem plain_modsStarts (f:FuncId) (fn:Func) (hf:Tryz.pinned.checked.prog.funcNamed Rows.modsStartsRow.func = some f) (hfn:Tryz.pinned.checked.prog.funcs[f]? = some fn) :
    false = Tryz.pinned.checked.prog.looks [] ∧ ∀ (j:Nat) t,fn.params[j]? = some t → Tryz.pinned.checked.prog.wantsStandIn t = false:=by
  obtain rfl:f = 7:=Option.some.inj ((show Tryz.prog.funcNamed Rows.modsStartsRow.func = some 7 by kernel_rfl).symm.trans hf) |>.symm
  obtain rfl:fn = Tryz.f7:=(Option.some.inj (Tryz.func7.symm.trans hfn)).symm
  refine ⟨by kernel_rfl,fun j t ht=>?_⟩
  rw [Tryz.params7] at ht
  have hm:=Array.mem_of_getElem? ht
  simp only [List.mem_toArray,List.mem_cons,List.not_mem_nil,or_false] at hm
  rcases hm with rfl | rfl
  · exact (show Tryz.prog.wantsStandIn 33 = false by kernel_rfl)
  · exact (show Tryz.prog.wantsStandIn 3 = false by kernel_rfl)
theorem modsStarts_holds:Rows.ModsStartsCardSaid :=
  Claim7.holds_tied_plain_at .later [] _ _ _ _ said_modsStarts (fun _ h=>by cases h) (by kernel_rfl) (fun _ h=>by cases h) modsStarts_row_tie rfl ⟨rfl,rfl⟩ (by kernel_rfl) rfl plain_modsStarts (by kernel_rfl)

end Go.Proofs.YtoaagdbbbojpmaaGreatDoor
