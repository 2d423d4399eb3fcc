/-
  Chapter 5, the law OpcodeNames: for every input the call returns true, and the arguments read as before: All yields known opcodes in increasing order and supports early exit, and Find inverts Name except for the shared mnemonic select.
  Condition: strings.asciiSpace and unicode.White_Space lie as their own initialisers lay them (the card says so).
-/
import Derived.Test.YtnhnghpnejobfaaDoorQg
import Derived.Test.YtnhnghpnejobfaaDoorQv
set_option linter.unusedVariables false
set_option linter.unusedSimpArgs false
set_option linter.unusedSectionVars false
set_option maxRecDepth 100000
set_option linter.unusedVariables false
namespace Go.Proofs.YtnhnghpnejobfaaDoor
open Go Go.Mw
open Go.ChangeShapes Go.WideShapes Go.ChangeAt Go.RowKit

theorem u8_wf {n : Int} (h : (Lit.int .u8 n).wf = true) : 0 ≤ n ∧ n ≤ 255 := by simpa [Lit.wf, IntKind.min, IntKind.max, IntKind.signed, IntKind.bits] using h
theorem p_names (xs : List AV) (h : All2 Ty.okV [.str, .int .u8] xs) : ∃ ys, All2 nlc xs ys ∧ PCalls Tryd.prog 7 ys (.bool true) := by
  obtain ⟨x, y, rfl, ⟨s, hs, _⟩, ⟨m, hm, hw⟩⟩ := ok2 h
  simp only [List.cons.injEq, and_true] at hs hm
  subst hs
  subst hm
  exact ⟨[.str s, .int .u8 m], ⟨.inl rfl, .inl rfl, trivial⟩, w_names s m (u8_wf hw)⟩
theorem ty9 : tyOf Tryd.prog 9 9 = some .str := by kernel_rfl
theorem ty5 : tyOf Tryd.prog 9 5 = some (.int .u8) := by kernel_rfl

theorem mem_opcodeNames : ∀ t ∈ [9, 5], Tryd.prog.readableRec t = true ∧ t < Tryd.prog.types.size := by
  intro t ht
  simp only [List.mem_cons, List.not_mem_nil, or_false] at ht
  rcases ht with rfl | rfl
  all_goals exact ⟨by kernel_rfl, of_decide_eq_true (by kernel_rfl)⟩
theorem contract_opcodeNames (H : Type) (enc : TypeId × Value → H) (W : World) (base : Nat) (args : Array Value) (ds gs : List (DataW H)) (before : List MemPlace)
    (hval : ∀ (j : Nat) t v, Tryd.f7.params[j]? = some t → args[j]? = some v → Value.okWide Tryd.prog W .any base t v)
    (hW : DataW.Whole enc Tryd.prog Tryd.f7.params.toList Rows.opcodeNamesSpec.vars false W args.toList ds gs before) (hL : laidMetH Tryd.prog Rows.opcodeNamesRow.laid W) (hS : W.ShapedOpen Tryd.prog) :
    Calls Tryd.prog 7 args W fun e W' => ∃ v, e = .returned v ∧ Rows.opcodeNamesSpec.post enc Tryd.prog Tryd.f7 false true false false W args v W' := by
  refine law_contract (s := Rows.opcodeNamesSpec) (f := Tryd.f7) (tb := 4) [.str, .int .u8] ?_ laidOut ?_ rfl ?_ (by kernel_rfl) (by kernel_rfl) (p_names) W base args ds gs before (tabs_of hL hS) hval hW
  · rw [Tryd.params7]; exact ⟨ty9, ty5, trivial⟩
  · rw [Tryd.params7]; exact mem_opcodeNames
  · intro ds h
    match ds, h with
    | [d0, d1], _ => exact ⟨rfl, rfl, rfl⟩
theorem laid_opcodeNames (os : Os) : laidMet Tryd.prog Rows.opcodeNamesRow.laid ((laidWorld os).forCall (fun _ _ => 0) ⟨#[], #[.string ⟨#[]⟩, .int .u8 0], []⟩).memory :=
  laidMet_laidAll _ (by kernel_rfl) (by kernel_rfl)
theorem reads_opcodeNames (os : Os) {H : Type} (enc : TypeId × Value → H) : ∃ places, DataW.whole enc Tryd.prog ((laidWorld os).forCall (fun _ _ => 0) ⟨#[], #[.string ⟨#[]⟩, .int .u8 0], []⟩).memory Tryd.f7.params.toList Rows.opcodeNamesSpec.vars false #[.string ⟨#[]⟩, .int .u8 0].toList 8 = some ([.lit (.string []), .lit (.int .u8 0)], [], places) :=
  ⟨[], by kernel_rfl⟩
theorem lifted_opcodeNames (os : Os) (started : os.Started) (H : Type) (enc : TypeId × Value → H) (F : Stop.Interp) :
    ReturnsInHanded {} Tryd.checked os 7 .any ((OpenSpec.ofChange Rows.opcodeNamesSpec).preRow enc Tryd.prog Tryd.f7 Rows.opcodeNamesRow.domain false Rows.opcodeNamesRow.laid) (((OpenSpec.ofChange Rows.opcodeNamesSpec).at F).post enc Tryd.prog Tryd.f7 false true false false) := by
  obtain ⟨places, hx⟩ := reads_opcodeNames os enc
  refine returnsInHanded_of_row (C := Tryd.checked) (s := OpenSpec.ofChange Rows.opcodeNamesSpec) own started (by kernel_rfl) Tryd.func7
    (witness_row_atRef (enc := enc) (C := Tryd.checked) false (laidWorld os) #[.string ⟨#[]⟩, .int .u8 0] (World.laidAll_os _ _ _) (by kernel_rfl) (by kernel_rfl) (by kernel_rfl)
      (OpenSpec.preRow_of_cond 8 hx (by kernel_rfl) (fun k hk => by cases hk) (by kernel_rfl) (laid_opcodeNames os))) ?_
  intro W base args ds gs before hval hW _ _ _ hL hS _
  exact contract_opcodeNames H enc W base args ds gs before hval hW hL hS
theorem said_opcodeNames : Rows.OpcodeNamesSaid :=
  OpenClaim.holds_of_cond 7 Tryd.f7 rfl rfl rfl rfl rfl rfl rfl ⟨rfl, rfl, rfl, rfl, rfl⟩ rfl rfl rfl rfl rfl (by kernel_rfl) Tryd.func7 (by kernel_rfl)
    (of_decide_eq_true (by kernel_rfl)) (by unfold Func.isWrapper; first | (rw [if_pos (by decide +kernel)]; kernel_rfl) | (rw [if_neg (by decide +kernel)]; exact ⟨rfl, rfl⟩))
    (fun os started H enc _ F => by rw [OpenClaim.pre_eq_preRow]; exact lifted_opcodeNames os started H enc F)
theorem plain_opcodeNames (f : FuncId) (fn : Func) (hf : Tryd.pinned.checked.prog.funcNamed Rows.opcodeNamesRow.func = some f) (hfn : Tryd.pinned.checked.prog.funcs[f]? = some fn) :
    false = Tryd.pinned.checked.prog.looks [] ∧ ∀ (j : Nat) t, fn.params[j]? = some t → Tryd.pinned.checked.prog.wantsStandIn t = false := by
  obtain rfl : f = 7 := Option.some.inj ((show Tryd.prog.funcNamed Rows.opcodeNamesRow.func = some 7 by kernel_rfl).symm.trans hf) |>.symm
  obtain rfl : fn = Tryd.f7 := (Option.some.inj (Tryd.func7.symm.trans hfn)).symm
  refine ⟨by kernel_rfl, fun j t ht => ?_⟩
  rw [Tryd.params7] at ht
  have hm := Array.mem_of_getElem? ht
  simp only [List.mem_toArray, List.mem_cons, List.not_mem_nil, or_false] at hm
  rcases hm with rfl | rfl
  · exact (show Tryd.prog.wantsStandIn 9 = false by kernel_rfl)
  · exact (show Tryd.prog.wantsStandIn 5 = false by kernel_rfl)
theorem opcodeNames_holds : Rows.OpcodeNamesCardSaid :=
  Claim7.holds_tied_plain_at .later [] _ _ _ _ said_opcodeNames (fun _ h => by cases h) (by kernel_rfl) (fun _ h => by cases h) opcodeNames_row_tie rfl ⟨rfl, rfl⟩ (by kernel_rfl) rfl plain_opcodeNames (by kernel_rfl)
end Go.Proofs.YtnhnghpnejobfaaDoor
