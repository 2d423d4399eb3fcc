/-
  Chapter 7,the law ModsNames: for every input the call returns true,and the arguments read as before: SameNames agrees with the reference and is symmetric.
  Condition: unicode/utf8's tables,strings.asciiSpace and unicode.White_Space lie as their own initialisers lay them (the card says so).
-/
import Derived.Test.YtoaagdbbbojpmaaGreatDoorQh
import Derived.Test.YtoaagdbbbojpmaaGreatDoorQk
set_option linter.unusedVariables false
set_option linter.unusedSimpArgs false
set_option linter.unusedSectionVars false
set_option maxRecDepth 100000
set_option linter.unusedVariables false
namespace Go.Proofs.YtoaagdbbbojpmaaGreatDoor
open Go Go.Mw
open Go.ChangeShapes Go.WideShapes Go.ChangeAt Go.RowKit

theorem p_names07 (xs:List AV) (h:All2 Ty.okV [tyNs,tyNs] xs):∃ ys,All2 nlc xs ys ∧ PCalls Tryz.prog 9 ys (.bool true):=by
  obtain ⟨x,y,rfl,h0,h1⟩:=ok_2 h
  obtain ⟨m,hm,bm,_⟩:=recV el_Ns rfl h0
  obtain ⟨n,hn,bn,_⟩:=recV el_Ns rfl h1
  have ln:=fun (n:Ns) (hm:bNs maxLen n)=>(⟨Nat.le_trans hm.2.1.1 maxLen_le,Nat.le_trans hm.2.2.1 maxLen_le,fun x hx=>Nat.le_trans (hm.2.2.2 x hx).1 maxLen_le⟩:lnN n)
  exact ⟨[x,y],⟨.inl rfl,.inl rfl,trivial⟩,PCalls_nld (w_names7 m n (ln m bm) (ln n bn)) ⟨hm,hn,trivial⟩⟩

theorem mem_modsNames:∀ t ∈ [65,65],Tryz.prog.readableRec t = true ∧ t < Tryz.prog.types.size:=by
  intro t ht
  simp only [List.mem_cons,List.not_mem_nil,or_false] at ht
  rcases ht with rfl | rfl
  all_goals exact ⟨by kernel_rfl,of_decide_eq_true (by kernel_rfl)⟩
theorem contract_modsNames (H:Type) (enc:TypeId × Value → H) (W:World) (base:Nat) (args:Array Value) (ds gs:List (DataW H)) (before:List MemPlace)
    (hval:∀ (j:Nat) t v,Tryz.f9.params[j]? = some t → args[j]? = some v → Value.okWide Tryz.prog W .any base t v)
    (hW:DataW.Whole enc Tryz.prog Tryz.f9.params.toList Rows.modsNamesSpec.vars false W args.toList ds gs before) (hL:laidMetH Tryz.prog Rows.modsNamesRow.laid W) (hS:W.ShapedOpen Tryz.prog) :
    Calls Tryz.prog 9 args W fun e W'=>∃ v,e = .returned v ∧ Rows.modsNamesSpec.post enc Tryz.prog Tryz.f9 false true false false W args v W':=by
  refine law_contract (s:=Rows.modsNamesSpec) (f:=Tryz.f9) (tb:=4) [tyNs,tyNs] ?_ laidOut ?_ rfl ?_ (by kernel_rfl) (by kernel_rfl) (p_names07) W base args ds gs before (tabs_of hL hS) hval hW
  · rw [Tryz.params9]; exact ⟨tyM65,tyM65,trivial⟩
  · rw [Tryz.params9]; exact mem_modsNames
  · intro ds h
    match ds,h with
    | [d0,d1],_=>exact ⟨rfl,rfl,rfl⟩
theorem laid_modsNames (os:Os):laidMet Tryz.prog Rows.modsNamesRow.laid ((laidWorld os).forCall (fun _ _=>0) ⟨#[],#[.agg #[.string ⟨#[]⟩,.slice none 0 0,.slice none 0 0],.agg #[.string ⟨#[]⟩,.slice none 0 0,.slice none 0 0]],[]⟩).memory :=
  laidMet_laidAll _ (by kernel_rfl) (by kernel_rfl)
theorem reads_modsNames (os:Os) {H:Type} (enc:TypeId × Value → H):∃ places,DataW.whole enc Tryz.prog ((laidWorld os).forCall (fun _ _=>0) ⟨#[],#[.agg #[.string ⟨#[]⟩,.slice none 0 0,.slice none 0 0],.agg #[.string ⟨#[]⟩,.slice none 0 0,.slice none 0 0]],[]⟩).memory Tryz.f9.params.toList Rows.modsNamesSpec.vars false #[.agg #[.string ⟨#[]⟩,.slice none 0 0,.slice none 0 0],.agg #[.string ⟨#[]⟩,.slice none 0 0,.slice none 0 0]].toList 8 = some ([.agg [.lit (.string []),.nil,.nil],.agg [.lit (.string []),.nil,.nil]],[],places) :=
  ⟨[],by kernel_rfl⟩
theorem lifted_modsNames (os:Os) (started:os.Started) (H:Type) (enc:TypeId × Value → H) (F:Stop.Interp) :
    ReturnsInHanded {} Tryz.checked os 9 .any ((OpenSpec.ofChange Rows.modsNamesSpec).preRow enc Tryz.prog Tryz.f9 Rows.modsNamesRow.domain false Rows.modsNamesRow.laid) (((OpenSpec.ofChange Rows.modsNamesSpec).at F).post enc Tryz.prog Tryz.f9 false true false false):=by
  obtain ⟨places,hx⟩:=reads_modsNames os enc
  refine returnsInHanded_of_row (C:=Tryz.checked) (s:=OpenSpec.ofChange Rows.modsNamesSpec) own started (by kernel_rfl) Tryz.func9
    (witness_row_atRef (enc:=enc) (C:=Tryz.checked) false (laidWorld os) #[.agg #[.string ⟨#[]⟩,.slice none 0 0,.slice none 0 0],.agg #[.string ⟨#[]⟩,.slice none 0 0,.slice none 0 0]] (World.laidAll_os _ _ _) (by kernel_rfl) (by kernel_rfl) (by kernel_rfl)
      (OpenSpec.preRow_of_cond 8 hx (by kernel_rfl) (fun k hk=>by cases hk) (by kernel_rfl) (laid_modsNames os))) ?_
  intro W base args ds gs before hval hW _ _ _ hL hS _
  exact contract_modsNames H enc W base args ds gs before hval hW hL hS
theorem zf_modsNames_1:(Rows.modsNamesRow.wf (OpenSpec.ofChange Rows.modsNamesSpec)) = true:=by kernel_rfl
theorem zf_modsNames_2:(laidOutB Tryz.prog) = true:=by kernel_rfl
theorem zf_modsNames_3:(mapsRowed Tryz.prog) = true:=by kernel_rfl
theorem zf_modsNames_4:(Tryz.f9.params.all (Tryz.prog.readableRec ·)) = true:=by kernel_rfl
theorem zf_modsNames_5:(namedTie Tryz.prog Rows.modsNamesRow.named Rows.modsNamesSpec.vars) = true:=by kernel_rfl
theorem zf_modsNames_6:((Rows.modsNamesRow.stops == [])) = true:=by kernel_rfl
theorem zf_modsNames_7:((Tryz.prog.stops == [])) = true:=by kernel_rfl
theorem zf_modsNames_8:((Rows.modsNamesRow.knobs == [])) = true:=by kernel_rfl
theorem zf_modsNames_9:((Tryz.prog.stopKnobs == [])) = true:=by kernel_rfl
theorem zf_modsNames_10:((Rows.modsNamesRow.inPlace == Tryz.prog.inPlace 9)) = true:=by kernel_rfl
theorem zf_modsNames_11:((Rows.modsNamesRow.unfollowed == Tryz.prog.unfollowed 9)) = true:=by kernel_rfl
theorem zf_modsNames_12:((Rows.modsNamesRow.recurses == Tryz.prog.recurses 9)) = true:=by kernel_rfl
theorem zf_modsNames_13:((Rows.modsNamesRow.named == Tryz.prog.varsNamed 9)) = true:=by kernel_rfl
theorem zf_modsNames_14:((Rows.modsNamesRow.maps == (Tryz.f9.params.toList ++ Rows.modsNamesSpec.plain.varTypes Tryz.prog).any (Tryz.prog.mapsRec ·))) = true:=by kernel_rfl
theorem zf_modsNames_15:((Rows.modsNamesRow.ifaces == (Tryz.f9.params.toList ++ Rows.modsNamesSpec.plain.varTypes Tryz.prog).any (Tryz.prog.ifacesRec ·))) = true:=by kernel_rfl
theorem zf_modsNames_16:((Rows.modsNamesRow.mapsOut == Tryz.prog.mapsAmong Tryz.f9.resultTypes.toList)) = true:=by kernel_rfl
theorem zf_modsNames_17:((Rows.modsNamesRow.loops == (Tryz.f9.params.toList ++ Rows.modsNamesSpec.plain.varTypes Tryz.prog).any (Tryz.prog.loopsFrom ·))) = true:=by kernel_rfl
theorem zf_modsNames_18:((Rows.modsNamesRow.wideKeys == (Tryz.f9.params.toList ++ Rows.modsNamesSpec.plain.varTypes Tryz.prog ++ Tryz.f9.resultTypes.toList).any (Tryz.prog.wideKeysFrom ·))) = true:=by kernel_rfl
theorem zf_modsNames_19:(Rows.modsNamesSpec.vars.all (Tryz.prog.varReadable ·)) = true:=by kernel_rfl
theorem zf_modsNames_20:(Tryz.f9.resultTypes.all (fun t=>Tryz.prog.readableRec t && decide (t < Tryz.prog.types.size))) = true:=by kernel_rfl
theorem zf_modsNames_21:((Rows.modsNamesRow.ifacesOut == Tryz.f9.resultTypes.toList.any (Tryz.prog.ifacesRec ·))) = true:=by kernel_rfl
theorem zf_modsNames_22:((Rows.modsNamesRow.loopsOut == Tryz.f9.resultTypes.toList.any (Tryz.prog.loopsFrom ·))) = true:=by kernel_rfl
theorem zf_modsNames_23:((Rows.modsNamesRow.plainKeys == Tryz.prog.plainKeys)) = true:=by kernel_rfl
theorem zf_modsNames_24:(Rows.modsNamesRow.shortTexts.isNone) = true:=by kernel_rfl
theorem zf_modsNames_25:(Tryz.prog.stopsHeard) = true:=by kernel_rfl
theorem zf_modsNames_26:(Tryz.prog.mayEnter) = true:=by kernel_rfl
theorem zf_modsNames_27:((Rows.modsNamesRow.lifted == Tryz.prog.liftsFinal)) = true:=by kernel_rfl
theorem zf_modsNames_28:((Tryz.prog.make == some Rows.modsNamesRow.make)) = true:=by kernel_rfl
theorem zf_modsNames_29:((Rows.modsNamesRow.kinds == (if Rows.modsNamesRow.domain.isEmpty then [] else Tryz.f9.params.toList.map fun t=>match Tryz.prog.underlying t with | some (.int k)=>some k | _=>none))) = true:=by kernel_rfl
theorem zf_modsNames_30:((Rows.modsNamesRow.pinned == Rows.modsNamesRow.pinnedBy)) = true:=by kernel_rfl
theorem zf_modsNames_31:((Rows.modsNamesRow.veiled == (Tryz.f9.params.toList ++ Rows.modsNamesSpec.plain.varTypes Tryz.prog ++ Tryz.f9.resultTypes.toList).any (Tryz.prog.veiledRec ·))) = true:=by kernel_rfl
theorem zf_modsNames_32:(Rows.modsNamesRow.veiledFits Tryz.prog Tryz.f9.params.toList (Tryz.f9.params.toList ++ Rows.modsNamesSpec.plain.varTypes Tryz.prog ++ Tryz.f9.resultTypes.toList)) = true:=by kernel_rfl
theorem andT {a b:Bool} (h:a = true) (g:b = true):(a && b) = true:=by rw [h,g]; rfl
theorem closed_modsNames:joinedFacts Tryz.prog 9 Tryz.f9 Rows.modsNamesSpec Rows.modsNamesRow = true :=
  andT (andT (andT (andT (andT (andT (andT (andT (andT (andT (andT (andT (andT (andT (andT (andT (andT (andT (andT (andT (andT (andT (andT (andT (andT (andT (andT (andT (andT (andT (andT zf_modsNames_1 zf_modsNames_2) zf_modsNames_3) zf_modsNames_4) zf_modsNames_5) zf_modsNames_6) zf_modsNames_7) zf_modsNames_8) zf_modsNames_9) zf_modsNames_10) zf_modsNames_11) zf_modsNames_12) zf_modsNames_13) zf_modsNames_14) zf_modsNames_15) zf_modsNames_16) zf_modsNames_17) zf_modsNames_18) zf_modsNames_19) zf_modsNames_20) zf_modsNames_21) zf_modsNames_22) zf_modsNames_23) zf_modsNames_24) zf_modsNames_25) zf_modsNames_26) zf_modsNames_27) zf_modsNames_28) zf_modsNames_29) zf_modsNames_30) zf_modsNames_31) zf_modsNames_32
theorem said_modsNames:Rows.ModsNamesSaid :=
  OpenClaim.holds_of_cond 9 Tryz.f9 rfl rfl rfl rfl rfl rfl rfl ⟨rfl,rfl,rfl,rfl,rfl⟩ rfl rfl rfl rfl rfl (by kernel_rfl) Tryz.func9 closed_modsNames
    (of_decide_eq_true (by kernel_rfl)) (by unfold Func.isWrapper; first | (rw [if_pos (by decide +kernel)]; kernel_rfl) | (rw [if_neg (by decide +kernel)]; exact ⟨rfl,rfl⟩))
    (fun os started H enc _ F=>by rw [OpenClaim.pre_eq_preRow]; exact lifted_modsNames os started H enc F)
theorem plain_modsNames (f:FuncId) (fn:Func) (hf:Tryz.pinned.checked.prog.funcNamed Rows.modsNamesRow.func = some f) (hfn:Tryz.pinned.checked.prog.funcs[f]? = some fn) :
    false = Tryz.pinned.checked.prog.looks [] ∧ ∀ (j:Nat) t,fn.params[j]? = some t → Tryz.pinned.checked.prog.wantsStandIn t = false:=by
  obtain rfl:f = 9:=Option.some.inj ((show Tryz.prog.funcNamed Rows.modsNamesRow.func = some 9 by kernel_rfl).symm.trans hf) |>.symm
  obtain rfl:fn = Tryz.f9:=(Option.some.inj (Tryz.func9.symm.trans hfn)).symm
  refine ⟨by kernel_rfl,fun j t ht=>?_⟩
  rw [Tryz.params9] at ht
  have hm:=Array.mem_of_getElem? ht
  simp only [List.mem_toArray,List.mem_cons,List.not_mem_nil,or_false] at hm
  rcases hm with rfl | rfl
  · exact (show Tryz.prog.wantsStandIn 65 = false by kernel_rfl)
  · exact (show Tryz.prog.wantsStandIn 65 = false by kernel_rfl)
theorem modsNames_holds:Rows.ModsNamesCardSaid :=
  Claim7.holds_tied_plain_at .later [] _ _ _ _ said_modsNames (fun _ h=>by cases h) (by kernel_rfl) (fun _ h=>by cases h) modsNames_row_tie rfl ⟨rfl,rfl⟩ (by kernel_rfl) rfl plain_modsNames (by kernel_rfl)

end Go.Proofs.YtoaagdbbbojpmaaGreatDoor
