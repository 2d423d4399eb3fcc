/-
  Chapter 5, the law OpcodeFinds: for every input the call returns true, and the argument reads as before: Find returns the specified opcode for every string, and All yields exactly the specified opcodes.
  Condition: strings.asciiSpace and unicode.White_Space lie as their own initialisers lay them (the card says so).
-/
import Derived.Test.YtnhnghpnejobfaaDoorQg
import Derived.Test.YtnhnghpnejobfaaDoorQu
set_option linter.unusedVariables false
set_option linter.unusedSimpArgs false
set_option linter.unusedSectionVars false
set_option maxRecDepth 100000
set_option linter.unusedVariables false
namespace Go.Proofs.YtnhnghpnejobfaaDoor
open Go Go.Mw
open Go.ChangeShapes Go.WideShapes Go.ChangeAt Go.RowKit

theorem p_finds (xs : List AV) (h : All2 Ty.okV [.str] xs) : ∃ ys, All2 nlc xs ys ∧ PCalls Tryd.prog 8 ys (.bool true) := by
  obtain ⟨x, rfl, h0⟩ := ok1 h
  obtain ⟨s, hs, _⟩ := h0
  simp only [List.cons.injEq, and_true] at hs
  subst hs
  exact ⟨[.str s], ⟨.inl rfl, trivial⟩, w_finds s⟩
theorem ty9 : tyOf Tryd.prog 9 9 = some .str := by kernel_rfl

theorem mem_opcodeFinds : ∀ t ∈ [9], Tryd.prog.readableRec t = true ∧ t < Tryd.prog.types.size := by
  intro t ht
  simp only [List.mem_cons, List.not_mem_nil, or_false] at ht
  rcases ht with rfl
  all_goals exact ⟨by kernel_rfl, of_decide_eq_true (by kernel_rfl)⟩
theorem contract_opcodeFinds (H : Type) (enc : TypeId × Value → H) (W : World) (base : Nat) (args : Array Value) (ds gs : List (DataW H)) (before : List MemPlace)
    (hval : ∀ (j : Nat) t v, Tryd.f8.params[j]? = some t → args[j]? = some v → Value.okWide Tryd.prog W .any base t v)
    (hW : DataW.Whole enc Tryd.prog Tryd.f8.params.toList Rows.opcodeFindsSpec.vars false W args.toList ds gs before) (hL : laidMetH Tryd.prog Rows.opcodeFindsRow.laid W) (hS : W.ShapedOpen Tryd.prog) :
    Calls Tryd.prog 8 args W fun e W' => ∃ v, e = .returned v ∧ Rows.opcodeFindsSpec.post enc Tryd.prog Tryd.f8 false true false false W args v W' := by
  refine law_contract (s := Rows.opcodeFindsSpec) (f := Tryd.f8) (tb := 4) [.str] ?_ laidOut ?_ rfl ?_ (by kernel_rfl) (by kernel_rfl) (p_finds) W base args ds gs before (tabs_of hL hS) hval hW
  · rw [Tryd.params8]; exact ⟨ty9, trivial⟩
  · rw [Tryd.params8]; exact mem_opcodeFinds
  · intro ds h
    match ds, h with
    | [d0], _ => exact ⟨rfl, rfl, rfl⟩
theorem laid_opcodeFinds (os : Os) : laidMet Tryd.prog Rows.opcodeFindsRow.laid ((laidWorld os).forCall (fun _ _ => 0) ⟨#[], #[.string ⟨#[]⟩], []⟩).memory :=
  laidMet_laidAll _ (by kernel_rfl) (by kernel_rfl)
theorem reads_opcodeFinds (os : Os) {H : Type} (enc : TypeId × Value → H) : ∃ places, DataW.whole enc Tryd.prog ((laidWorld os).forCall (fun _ _ => 0) ⟨#[], #[.string ⟨#[]⟩], []⟩).memory Tryd.f8.params.toList Rows.opcodeFindsSpec.vars false #[.string ⟨#[]⟩].toList 8 = some ([.lit (.string [])], [], places) :=
  ⟨[], by kernel_rfl⟩
theorem lifted_opcodeFinds (os : Os) (started : os.Started) (H : Type) (enc : TypeId × Value → H) (F : Stop.Interp) :
    ReturnsInHanded {} Tryd.checked os 8 .any ((OpenSpec.ofChange Rows.opcodeFindsSpec).preRow enc Tryd.prog Tryd.f8 Rows.opcodeFindsRow.domain false Rows.opcodeFindsRow.laid) (((OpenSpec.ofChange Rows.opcodeFindsSpec).at F).post enc Tryd.prog Tryd.f8 false true false false) := by
  obtain ⟨places, hx⟩ := reads_opcodeFinds os enc
  refine returnsInHanded_of_row (C := Tryd.checked) (s := OpenSpec.ofChange Rows.opcodeFindsSpec) own started (by kernel_rfl) Tryd.func8
    (witness_row_atRef (enc := enc) (C := Tryd.checked) false (laidWorld os) #[.string ⟨#[]⟩] (World.laidAll_os _ _ _) (by kernel_rfl) (by kernel_rfl) (by kernel_rfl)
      (OpenSpec.preRow_of_cond 8 hx (by kernel_rfl) (fun k hk => by cases hk) (by kernel_rfl) (laid_opcodeFinds os))) ?_
  intro W base args ds gs before hval hW _ _ _ hL hS _
  exact contract_opcodeFinds H enc W base args ds gs before hval hW hL hS
theorem said_opcodeFinds : Rows.OpcodeFindsSaid :=
  OpenClaim.holds_of_cond 8 Tryd.f8 rfl rfl rfl rfl rfl rfl rfl ⟨rfl, rfl, rfl, rfl, rfl⟩ rfl rfl rfl rfl rfl (by kernel_rfl) Tryd.func8 (by kernel_rfl)
    (of_decide_eq_true (by kernel_rfl)) (by unfold Func.isWrapper; first | (rw [if_pos (by decide +kernel)]; kernel_rfl) | (rw [if_neg (by decide +kernel)]; exact ⟨rfl, rfl⟩))
    (fun os started H enc _ F => by rw [OpenClaim.pre_eq_preRow]; exact lifted_opcodeFinds os started H enc F)
theorem plain_opcodeFinds (f : FuncId) (fn : Func) (hf : Tryd.pinned.checked.prog.funcNamed Rows.opcodeFindsRow.func = some f) (hfn : Tryd.pinned.checked.prog.funcs[f]? = some fn) :
    false = Tryd.pinned.checked.prog.looks [] ∧ ∀ (j : Nat) t, fn.params[j]? = some t → Tryd.pinned.checked.prog.wantsStandIn t = false := by
  obtain rfl : f = 8 := Option.some.inj ((show Tryd.prog.funcNamed Rows.opcodeFindsRow.func = some 8 by kernel_rfl).symm.trans hf) |>.symm
  obtain rfl : fn = Tryd.f8 := (Option.some.inj (Tryd.func8.symm.trans hfn)).symm
  refine ⟨by kernel_rfl, fun j t ht => ?_⟩
  rw [Tryd.params8] at ht
  have hm := Array.mem_of_getElem? ht
  simp only [List.mem_toArray, List.mem_cons, List.not_mem_nil, or_false] at hm
  rcases hm with rfl
  · exact (show Tryd.prog.wantsStandIn 9 = false by kernel_rfl)
theorem opcodeFinds_holds : Rows.OpcodeFindsCardSaid :=
  Claim7.holds_tied_plain_at .later [] _ _ _ _ said_opcodeFinds (fun _ h => by cases h) (by kernel_rfl) (fun _ h => by cases h) opcodeFinds_row_tie rfl ⟨rfl, rfl⟩ (by kernel_rfl) rfl plain_opcodeFinds (by kernel_rfl)
end Go.Proofs.YtnhnghpnejobfaaDoor
