/-
  Chapter 7,the law ModsSame: for every input the call returns true,and the arguments read as before: Same and Instrs agree with the reference,Same is symmetric and reflexive.
  Condition: unicode/utf8's tables,strings.asciiSpace and unicode.White_Space lie as their own initialisers lay them (the card says so).
-/
import Derived.Test.YtoaagdbbbojpmaaGreatDoorQh
import Derived.Test.YtoaagdbbbojpmaaGreatDoorQj
set_option linter.unusedVariables false
set_option linter.unusedSimpArgs false
set_option linter.unusedSectionVars false
set_option maxRecDepth 100000
set_option linter.unusedVariables false
namespace Go.Proofs.YtoaagdbbbojpmaaGreatDoor
open Go Go.Mw
open Go.ChangeShapes Go.WideShapes Go.ChangeAt Go.RowKit

theorem p_same07 (xs:List AV) (h:All2 Ty.okV [tyMod,tyMod] xs):∃ ys,All2 nlc xs ys ∧ PCalls Tryz.prog 3 ys (.bool true):=by
  obtain ⟨x,y,rfl,h0,h1⟩:=ok_2 h
  obtain ⟨m,hm,bm,_⟩:=recV el_Mod rfl h0
  obtain ⟨n,hn,bn,_⟩:=recV el_Mod rfl h1
  exact ⟨[x,y],⟨.inl rfl,.inl rfl,trivial⟩,PCalls_nld (w_same7 m n bm bn) ⟨hm,hn,trivial⟩⟩

theorem mem_modsSame:∀ t ∈ [33,33],Tryz.prog.readableRec t = true ∧ t < Tryz.prog.types.size:=by
  intro t ht
  simp only [List.mem_cons,List.not_mem_nil,or_false] at ht
  rcases ht with rfl | rfl
  all_goals exact ⟨by kernel_rfl,of_decide_eq_true (by kernel_rfl)⟩
theorem contract_modsSame (H:Type) (enc:TypeId × Value → H) (W:World) (base:Nat) (args:Array Value) (ds gs:List (DataW H)) (before:List MemPlace)
    (hval:∀ (j:Nat) t v,Tryz.f3.params[j]? = some t → args[j]? = some v → Value.okWide Tryz.prog W .any base t v)
    (hW:DataW.Whole enc Tryz.prog Tryz.f3.params.toList Rows.modsSameSpec.vars false W args.toList ds gs before) (hL:laidMetH Tryz.prog Rows.modsSameRow.laid W) (hS:W.ShapedOpen Tryz.prog) :
    Calls Tryz.prog 3 args W fun e W'=>∃ v,e = .returned v ∧ Rows.modsSameSpec.post enc Tryz.prog Tryz.f3 false true false false W args v W':=by
  refine law_contract (s:=Rows.modsSameSpec) (f:=Tryz.f3) (tb:=4) [tyMod,tyMod] ?_ laidOut ?_ rfl ?_ (by kernel_rfl) (by kernel_rfl) (p_same07) W base args ds gs before (tabs_of hL hS) hval hW
  · rw [Tryz.params3]; exact ⟨tyM33,tyM33,trivial⟩
  · rw [Tryz.params3]; exact mem_modsSame
  · intro ds h
    match ds,h with
    | [d0,d1],_=>exact ⟨rfl,rfl,rfl⟩
theorem laid_modsSame (os:Os):laidMet Tryz.prog Rows.modsSameRow.laid ((laidWorld os).forCall (fun _ _=>0) ⟨#[],#[.agg #[.slice none 0 0,.slice none 0 0,.slice none 0 0,.slice none 0 0,.slice none 0 0,.slice none 0 0,.slice none 0 0,.bool false,.int .i64 0,.slice none 0 0,.slice none 0 0,.slice none 0 0],.agg #[.slice none 0 0,.slice none 0 0,.slice none 0 0,.slice none 0 0,.slice none 0 0,.slice none 0 0,.slice none 0 0,.bool false,.int .i64 0,.slice none 0 0,.slice none 0 0,.slice none 0 0]],[]⟩).memory :=
  laidMet_laidAll _ (by kernel_rfl) (by kernel_rfl)
theorem reads_modsSame (os:Os) {H:Type} (enc:TypeId × Value → H):∃ places,DataW.whole enc Tryz.prog ((laidWorld os).forCall (fun _ _=>0) ⟨#[],#[.agg #[.slice none 0 0,.slice none 0 0,.slice none 0 0,.slice none 0 0,.slice none 0 0,.slice none 0 0,.slice none 0 0,.bool false,.int .i64 0,.slice none 0 0,.slice none 0 0,.slice none 0 0],.agg #[.slice none 0 0,.slice none 0 0,.slice none 0 0,.slice none 0 0,.slice none 0 0,.slice none 0 0,.slice none 0 0,.bool false,.int .i64 0,.slice none 0 0,.slice none 0 0,.slice none 0 0]],[]⟩).memory Tryz.f3.params.toList Rows.modsSameSpec.vars false #[.agg #[.slice none 0 0,.slice none 0 0,.slice none 0 0,.slice none 0 0,.slice none 0 0,.slice none 0 0,.slice none 0 0,.bool false,.int .i64 0,.slice none 0 0,.slice none 0 0,.slice none 0 0],.agg #[.slice none 0 0,.slice none 0 0,.slice none 0 0,.slice none 0 0,.slice none 0 0,.slice none 0 0,.slice none 0 0,.bool false,.int .i64 0,.slice none 0 0,.slice none 0 0,.slice none 0 0]].toList 8 = some ([.agg [.nil,.nil,.nil,.nil,.nil,.nil,.nil,.lit (.bool false),.lit (.int .i64 0),.nil,.nil,.nil],.agg [.nil,.nil,.nil,.nil,.nil,.nil,.nil,.lit (.bool false),.lit (.int .i64 0),.nil,.nil,.nil]],[],places) :=
  ⟨[],by kernel_rfl⟩
theorem lifted_modsSame (os:Os) (started:os.Started) (H:Type) (enc:TypeId × Value → H) (F:Stop.Interp) :
    ReturnsInHanded {} Tryz.checked os 3 .any ((OpenSpec.ofChange Rows.modsSameSpec).preRow enc Tryz.prog Tryz.f3 Rows.modsSameRow.domain false Rows.modsSameRow.laid) (((OpenSpec.ofChange Rows.modsSameSpec).at F).post enc Tryz.prog Tryz.f3 false true false false):=by
  obtain ⟨places,hx⟩:=reads_modsSame os enc
  refine returnsInHanded_of_row (C:=Tryz.checked) (s:=OpenSpec.ofChange Rows.modsSameSpec) own started (by kernel_rfl) Tryz.func3
    (witness_row_atRef (enc:=enc) (C:=Tryz.checked) false (laidWorld os) #[.agg #[.slice none 0 0,.slice none 0 0,.slice none 0 0,.slice none 0 0,.slice none 0 0,.slice none 0 0,.slice none 0 0,.bool false,.int .i64 0,.slice none 0 0,.slice none 0 0,.slice none 0 0],.agg #[.slice none 0 0,.slice none 0 0,.slice none 0 0,.slice none 0 0,.slice none 0 0,.slice none 0 0,.slice none 0 0,.bool false,.int .i64 0,.slice none 0 0,.slice none 0 0,.slice none 0 0]] (World.laidAll_os _ _ _) (by kernel_rfl) (by kernel_rfl) (by kernel_rfl)
      (OpenSpec.preRow_of_cond 8 hx (by kernel_rfl) (fun k hk=>by cases hk) (by kernel_rfl) (laid_modsSame os))) ?_
  intro W base args ds gs before hval hW _ _ _ hL hS _
  exact contract_modsSame H enc W base args ds gs before hval hW hL hS
theorem zf_modsSame_1:(Rows.modsSameRow.wf (OpenSpec.ofChange Rows.modsSameSpec)) = true:=by kernel_rfl
theorem zf_modsSame_2:(laidOutB Tryz.prog) = true:=by kernel_rfl
theorem zf_modsSame_3:(mapsRowed Tryz.prog) = true:=by kernel_rfl
theorem zf_modsSame_4:(Tryz.f3.params.all (Tryz.prog.readableRec ·)) = true:=by kernel_rfl
theorem zf_modsSame_5:(namedTie Tryz.prog Rows.modsSameRow.named Rows.modsSameSpec.vars) = true:=by kernel_rfl
theorem zf_modsSame_6:((Rows.modsSameRow.stops == [])) = true:=by kernel_rfl
theorem zf_modsSame_7:((Tryz.prog.stops == [])) = true:=by kernel_rfl
theorem zf_modsSame_8:((Rows.modsSameRow.knobs == [])) = true:=by kernel_rfl
theorem zf_modsSame_9:((Tryz.prog.stopKnobs == [])) = true:=by kernel_rfl
theorem zf_modsSame_10:((Rows.modsSameRow.inPlace == Tryz.prog.inPlace 3)) = true:=by kernel_rfl
theorem zf_modsSame_11:((Rows.modsSameRow.unfollowed == Tryz.prog.unfollowed 3)) = true:=by kernel_rfl
theorem zf_modsSame_12:((Rows.modsSameRow.recurses == Tryz.prog.recurses 3)) = true:=by kernel_rfl
theorem zf_modsSame_13:((Rows.modsSameRow.named == Tryz.prog.varsNamed 3)) = true:=by kernel_rfl
theorem zf_modsSame_14:((Rows.modsSameRow.maps == (Tryz.f3.params.toList ++ Rows.modsSameSpec.plain.varTypes Tryz.prog).any (Tryz.prog.mapsRec ·))) = true:=by kernel_rfl
theorem zf_modsSame_15:((Rows.modsSameRow.ifaces == (Tryz.f3.params.toList ++ Rows.modsSameSpec.plain.varTypes Tryz.prog).any (Tryz.prog.ifacesRec ·))) = true:=by kernel_rfl
theorem zf_modsSame_16:((Rows.modsSameRow.mapsOut == Tryz.prog.mapsAmong Tryz.f3.resultTypes.toList)) = true:=by kernel_rfl
theorem zf_modsSame_17:((Rows.modsSameRow.loops == (Tryz.f3.params.toList ++ Rows.modsSameSpec.plain.varTypes Tryz.prog).any (Tryz.prog.loopsFrom ·))) = true:=by kernel_rfl
theorem zf_modsSame_18:((Rows.modsSameRow.wideKeys == (Tryz.f3.params.toList ++ Rows.modsSameSpec.plain.varTypes Tryz.prog ++ Tryz.f3.resultTypes.toList).any (Tryz.prog.wideKeysFrom ·))) = true:=by kernel_rfl
theorem zf_modsSame_19:(Rows.modsSameSpec.vars.all (Tryz.prog.varReadable ·)) = true:=by kernel_rfl
theorem zf_modsSame_20:(Tryz.f3.resultTypes.all (fun t=>Tryz.prog.readableRec t && decide (t < Tryz.prog.types.size))) = true:=by kernel_rfl
theorem zf_modsSame_21:((Rows.modsSameRow.ifacesOut == Tryz.f3.resultTypes.toList.any (Tryz.prog.ifacesRec ·))) = true:=by kernel_rfl
theorem zf_modsSame_22:((Rows.modsSameRow.loopsOut == Tryz.f3.resultTypes.toList.any (Tryz.prog.loopsFrom ·))) = true:=by kernel_rfl
theorem zf_modsSame_23:((Rows.modsSameRow.plainKeys == Tryz.prog.plainKeys)) = true:=by kernel_rfl
theorem zf_modsSame_24:(Rows.modsSameRow.shortTexts.isNone) = true:=by kernel_rfl
theorem zf_modsSame_25:(Tryz.prog.stopsHeard) = true:=by kernel_rfl
theorem zf_modsSame_26:(Tryz.prog.mayEnter) = true:=by kernel_rfl
theorem zf_modsSame_27:((Rows.modsSameRow.lifted == Tryz.prog.liftsFinal)) = true:=by kernel_rfl
theorem zf_modsSame_28:((Tryz.prog.make == some Rows.modsSameRow.make)) = true:=by kernel_rfl
theorem zf_modsSame_29:((Rows.modsSameRow.kinds == (if Rows.modsSameRow.domain.isEmpty then [] else Tryz.f3.params.toList.map fun t=>match Tryz.prog.underlying t with | some (.int k)=>some k | _=>none))) = true:=by kernel_rfl
theorem zf_modsSame_30:((Rows.modsSameRow.pinned == Rows.modsSameRow.pinnedBy)) = true:=by kernel_rfl
theorem zf_modsSame_31:((Rows.modsSameRow.veiled == (Tryz.f3.params.toList ++ Rows.modsSameSpec.plain.varTypes Tryz.prog ++ Tryz.f3.resultTypes.toList).any (Tryz.prog.veiledRec ·))) = true:=by kernel_rfl
theorem zf_modsSame_32:(Rows.modsSameRow.veiledFits Tryz.prog Tryz.f3.params.toList (Tryz.f3.params.toList ++ Rows.modsSameSpec.plain.varTypes Tryz.prog ++ Tryz.f3.resultTypes.toList)) = true:=by kernel_rfl
theorem andT {a b:Bool} (h:a = true) (g:b = true):(a && b) = true:=by rw [h,g]; rfl
theorem closed_modsSame:joinedFacts Tryz.prog 3 Tryz.f3 Rows.modsSameSpec Rows.modsSameRow = true :=
  andT (andT (andT (andT (andT (andT (andT (andT (andT (andT (andT (andT (andT (andT (andT (andT (andT (andT (andT (andT (andT (andT (andT (andT (andT (andT (andT (andT (andT (andT (andT zf_modsSame_1 zf_modsSame_2) zf_modsSame_3) zf_modsSame_4) zf_modsSame_5) zf_modsSame_6) zf_modsSame_7) zf_modsSame_8) zf_modsSame_9) zf_modsSame_10) zf_modsSame_11) zf_modsSame_12) zf_modsSame_13) zf_modsSame_14) zf_modsSame_15) zf_modsSame_16) zf_modsSame_17) zf_modsSame_18) zf_modsSame_19) zf_modsSame_20) zf_modsSame_21) zf_modsSame_22) zf_modsSame_23) zf_modsSame_24) zf_modsSame_25) zf_modsSame_26) zf_modsSame_27) zf_modsSame_28) zf_modsSame_29) zf_modsSame_30) zf_modsSame_31) zf_modsSame_32
theorem said_modsSame:Rows.ModsSameSaid :=
  OpenClaim.holds_of_cond 3 Tryz.f3 rfl rfl rfl rfl rfl rfl rfl ⟨rfl,rfl,rfl,rfl,rfl⟩ rfl rfl rfl rfl rfl (by kernel_rfl) Tryz.func3 closed_modsSame
    (of_decide_eq_true (by kernel_rfl)) (by unfold Func.isWrapper; first | (rw [if_pos (by decide +kernel)]; kernel_rfl) | (rw [if_neg (by decide +kernel)]; exact ⟨rfl,rfl⟩))
    (fun os started H enc _ F=>by rw [OpenClaim.pre_eq_preRow]; exact lifted_modsSame os started H enc F)
theorem plain_modsSame (f:FuncId) (fn:Func) (hf:Tryz.pinned.checked.prog.funcNamed Rows.modsSameRow.func = some f) (hfn:Tryz.pinned.checked.prog.funcs[f]? = some fn) :
    false = Tryz.pinned.checked.prog.looks [] ∧ ∀ (j:Nat) t,fn.params[j]? = some t → Tryz.pinned.checked.prog.wantsStandIn t = false:=by
  obtain rfl:f = 3:=Option.some.inj ((show Tryz.prog.funcNamed Rows.modsSameRow.func = some 3 by kernel_rfl).symm.trans hf) |>.symm
  obtain rfl:fn = Tryz.f3:=(Option.some.inj (Tryz.func3.symm.trans hfn)).symm
  refine ⟨by kernel_rfl,fun j t ht=>?_⟩
  rw [Tryz.params3] at ht
  have hm:=Array.mem_of_getElem? ht
  simp only [List.mem_toArray,List.mem_cons,List.not_mem_nil,or_false] at hm
  rcases hm with rfl | rfl
  · exact (show Tryz.prog.wantsStandIn 33 = false by kernel_rfl)
  · exact (show Tryz.prog.wantsStandIn 33 = false by kernel_rfl)
theorem modsSame_holds:Rows.ModsSameCardSaid :=
  Claim7.holds_tied_plain_at .later [] _ _ _ _ said_modsSame (fun _ h=>by cases h) (by kernel_rfl) (fun _ h=>by cases h) modsSame_row_tie rfl ⟨rfl,rfl⟩ (by kernel_rfl) rfl plain_modsSame (by kernel_rfl)

end Go.Proofs.YtoaagdbbbojpmaaGreatDoor
