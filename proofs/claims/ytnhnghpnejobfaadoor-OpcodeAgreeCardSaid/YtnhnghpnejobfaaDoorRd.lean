/-
  Chapter 5, the law OpcodeAgree: for every input the call returns true, and the argument reads as before: an opcode has a width exactly if it is a load or store; its width is two to the power of Align, and its signature begins with i32.
  Condition: strings.asciiSpace and unicode.White_Space lie as their own initialisers lay them (the card says so).
-/
import Derived.Test.YtnhnghpnejobfaaDoorQg
import Derived.Test.YtnhnghpnejobfaaDoorQo
set_option linter.unusedVariables false
set_option linter.unusedSimpArgs false
set_option linter.unusedSectionVars false
set_option maxRecDepth 100000
set_option linter.unusedVariables false
namespace Go.Proofs.YtnhnghpnejobfaaDoor
open Go Go.Mw
open Go.ChangeShapes Go.WideShapes Go.ChangeAt Go.RowKit

theorem p_agree (xs : List AV) (h : All2 Ty.okV [.int .i64] xs) : ∃ ys, All2 nlc xs ys ∧ PCalls Tryd.prog 6 ys (.bool true) := by
  obtain ⟨x, rfl, h0⟩ := ok1 h
  obtain ⟨n, rfl, hn⟩ := int_ok h0
  exact ⟨[.int .i64 n], ⟨.inl rfl, trivial⟩, w_agree n⟩

theorem mem_opcodeAgree : ∀ t ∈ [22], Tryd.prog.readableRec t = true ∧ t < Tryd.prog.types.size := by
  intro t ht
  simp only [List.mem_cons, List.not_mem_nil, or_false] at ht
  rcases ht with rfl
  all_goals exact ⟨by kernel_rfl, of_decide_eq_true (by kernel_rfl)⟩
theorem contract_opcodeAgree (H : Type) (enc : TypeId × Value → H) (W : World) (base : Nat) (args : Array Value) (ds gs : List (DataW H)) (before : List MemPlace)
    (hval : ∀ (j : Nat) t v, Tryd.f6.params[j]? = some t → args[j]? = some v → Value.okWide Tryd.prog W .any base t v)
    (hW : DataW.Whole enc Tryd.prog Tryd.f6.params.toList Rows.opcodeAgreeSpec.vars false W args.toList ds gs before) (hL : laidMetH Tryd.prog Rows.opcodeAgreeRow.laid W) (hS : W.ShapedOpen Tryd.prog) :
    Calls Tryd.prog 6 args W fun e W' => ∃ v, e = .returned v ∧ Rows.opcodeAgreeSpec.post enc Tryd.prog Tryd.f6 false true false false W args v W' := by
  refine law_contract (s := Rows.opcodeAgreeSpec) (f := Tryd.f6) (tb := 4) [.int .i64] ?_ laidOut ?_ rfl ?_ (by kernel_rfl) (by kernel_rfl) (p_agree) W base args ds gs before (tabs_of hL hS) hval hW
  · rw [Tryd.params6]; exact ⟨ty22, trivial⟩
  · rw [Tryd.params6]; exact mem_opcodeAgree
  · intro ds h
    match ds, h with
    | [d0], _ => exact ⟨rfl, rfl, rfl⟩
theorem laid_opcodeAgree (os : Os) : laidMet Tryd.prog Rows.opcodeAgreeRow.laid ((laidWorld os).forCall (fun _ _ => 0) ⟨#[], #[.int .i64 0], []⟩).memory :=
  laidMet_laidAll _ (by kernel_rfl) (by kernel_rfl)
theorem reads_opcodeAgree (os : Os) {H : Type} (enc : TypeId × Value → H) : ∃ places, DataW.whole enc Tryd.prog ((laidWorld os).forCall (fun _ _ => 0) ⟨#[], #[.int .i64 0], []⟩).memory Tryd.f6.params.toList Rows.opcodeAgreeSpec.vars false #[.int .i64 0].toList 8 = some ([.lit (.int .i64 0)], [], places) :=
  ⟨[], by kernel_rfl⟩
theorem lifted_opcodeAgree (os : Os) (started : os.Started) (H : Type) (enc : TypeId × Value → H) (F : Stop.Interp) :
    ReturnsInHanded {} Tryd.checked os 6 .any ((OpenSpec.ofChange Rows.opcodeAgreeSpec).preRow enc Tryd.prog Tryd.f6 Rows.opcodeAgreeRow.domain false Rows.opcodeAgreeRow.laid) (((OpenSpec.ofChange Rows.opcodeAgreeSpec).at F).post enc Tryd.prog Tryd.f6 false true false false) := by
  obtain ⟨places, hx⟩ := reads_opcodeAgree os enc
  refine returnsInHanded_of_row (C := Tryd.checked) (s := OpenSpec.ofChange Rows.opcodeAgreeSpec) own started (by kernel_rfl) Tryd.func6
    (witness_row_atRef (enc := enc) (C := Tryd.checked) false (laidWorld os) #[.int .i64 0] (World.laidAll_os _ _ _) (by kernel_rfl) (by kernel_rfl) (by kernel_rfl)
      (OpenSpec.preRow_of_cond 8 hx (by kernel_rfl) (fun k hk => by cases hk) (by kernel_rfl) (laid_opcodeAgree os))) ?_
  intro W base args ds gs before hval hW _ _ _ hL hS _
  exact contract_opcodeAgree H enc W base args ds gs before hval hW hL hS
theorem said_opcodeAgree : Rows.OpcodeAgreeSaid :=
  OpenClaim.holds_of_cond 6 Tryd.f6 rfl rfl rfl rfl rfl rfl rfl ⟨rfl, rfl, rfl, rfl, rfl⟩ rfl rfl rfl rfl rfl (by kernel_rfl) Tryd.func6 (by kernel_rfl)
    (of_decide_eq_true (by kernel_rfl)) (by unfold Func.isWrapper; first | (rw [if_pos (by decide +kernel)]; kernel_rfl) | (rw [if_neg (by decide +kernel)]; exact ⟨rfl, rfl⟩))
    (fun os started H enc _ F => by rw [OpenClaim.pre_eq_preRow]; exact lifted_opcodeAgree os started H enc F)
theorem plain_opcodeAgree (f : FuncId) (fn : Func) (hf : Tryd.pinned.checked.prog.funcNamed Rows.opcodeAgreeRow.func = some f) (hfn : Tryd.pinned.checked.prog.funcs[f]? = some fn) :
    false = Tryd.pinned.checked.prog.looks [] ∧ ∀ (j : Nat) t, fn.params[j]? = some t → Tryd.pinned.checked.prog.wantsStandIn t = false := by
  obtain rfl : f = 6 := Option.some.inj ((show Tryd.prog.funcNamed Rows.opcodeAgreeRow.func = some 6 by kernel_rfl).symm.trans hf) |>.symm
  obtain rfl : fn = Tryd.f6 := (Option.some.inj (Tryd.func6.symm.trans hfn)).symm
  refine ⟨by kernel_rfl, fun j t ht => ?_⟩
  rw [Tryd.params6] at ht
  have hm := Array.mem_of_getElem? ht
  simp only [List.mem_toArray, List.mem_cons, List.not_mem_nil, or_false] at hm
  rcases hm with rfl
  · exact (show Tryd.prog.wantsStandIn 22 = false by kernel_rfl)
theorem opcodeAgree_holds : Rows.OpcodeAgreeCardSaid :=
  Claim7.holds_tied_plain_at .later [] _ _ _ _ said_opcodeAgree (fun _ h => by cases h) (by kernel_rfl) (fun _ h => by cases h) opcodeAgree_row_tie rfl ⟨rfl, rfl⟩ (by kernel_rfl) rfl plain_opcodeAgree (by kernel_rfl)
end Go.Proofs.YtnhnghpnejobfaaDoor
