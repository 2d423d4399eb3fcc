/-
  Chapter 5, the law OpcodeTells: for every input the call returns true, and the argument reads as before: Known, Name, Of, Width, Align and Cost agree with the reference for every opcode.
  Condition: strings.asciiSpace and unicode.White_Space lie as their own initialisers lay them (the card says so).
-/
import Derived.Test.YtnhnghpnejobfaaDoorQg
import Derived.Test.YtnhnghpnejobfaaDoorQd
set_option linter.unusedVariables false
set_option linter.unusedSimpArgs false
set_option linter.unusedSectionVars false
set_option maxRecDepth 100000
set_option linter.unusedVariables false
namespace Go.Proofs.YtnhnghpnejobfaaDoor
open Go Go.Mw
open Go.ChangeShapes Go.WideShapes Go.ChangeAt Go.RowKit

theorem p_tells (xs : List AV) (h : All2 Ty.okV [.int .i64] xs) : ∃ ys, All2 nlc xs ys ∧ PCalls Tryd.prog 5 ys (.bool true) := by
  obtain ⟨x, rfl, h0⟩ := ok1 h
  obtain ⟨n, rfl, hn⟩ := int_ok h0
  exact ⟨[.int .i64 n], ⟨.inl rfl, trivial⟩, w_tells n⟩

theorem mem_opcodeTells : ∀ t ∈ [22], Tryd.prog.readableRec t = true ∧ t < Tryd.prog.types.size := by
  intro t ht
  simp only [List.mem_cons, List.not_mem_nil, or_false] at ht
  rcases ht with rfl
  all_goals exact ⟨by kernel_rfl, of_decide_eq_true (by kernel_rfl)⟩
theorem contract_opcodeTells (H : Type) (enc : TypeId × Value → H) (W : World) (base : Nat) (args : Array Value) (ds gs : List (DataW H)) (before : List MemPlace)
    (hval : ∀ (j : Nat) t v, Tryd.f5.params[j]? = some t → args[j]? = some v → Value.okWide Tryd.prog W .any base t v)
    (hW : DataW.Whole enc Tryd.prog Tryd.f5.params.toList Rows.opcodeTellsSpec.vars false W args.toList ds gs before) (hL : laidMetH Tryd.prog Rows.opcodeTellsRow.laid W) (hS : W.ShapedOpen Tryd.prog) :
    Calls Tryd.prog 5 args W fun e W' => ∃ v, e = .returned v ∧ Rows.opcodeTellsSpec.post enc Tryd.prog Tryd.f5 false true false false W args v W' := by
  refine law_contract (s := Rows.opcodeTellsSpec) (f := Tryd.f5) (tb := 4) [.int .i64] ?_ laidOut ?_ rfl ?_ (by kernel_rfl) (by kernel_rfl) (p_tells) W base args ds gs before (tabs_of hL hS) hval hW
  · rw [Tryd.params5]; exact ⟨ty22, trivial⟩
  · rw [Tryd.params5]; exact mem_opcodeTells
  · intro ds h
    match ds, h with
    | [d0], _ => exact ⟨rfl, rfl, rfl⟩
theorem laid_opcodeTells (os : Os) : laidMet Tryd.prog Rows.opcodeTellsRow.laid ((laidWorld os).forCall (fun _ _ => 0) ⟨#[], #[.int .i64 0], []⟩).memory :=
  laidMet_laidAll _ (by kernel_rfl) (by kernel_rfl)
theorem reads_opcodeTells (os : Os) {H : Type} (enc : TypeId × Value → H) : ∃ places, DataW.whole enc Tryd.prog ((laidWorld os).forCall (fun _ _ => 0) ⟨#[], #[.int .i64 0], []⟩).memory Tryd.f5.params.toList Rows.opcodeTellsSpec.vars false #[.int .i64 0].toList 8 = some ([.lit (.int .i64 0)], [], places) :=
  ⟨[], by kernel_rfl⟩
theorem lifted_opcodeTells (os : Os) (started : os.Started) (H : Type) (enc : TypeId × Value → H) (F : Stop.Interp) :
    ReturnsInHanded {} Tryd.checked os 5 .any ((OpenSpec.ofChange Rows.opcodeTellsSpec).preRow enc Tryd.prog Tryd.f5 Rows.opcodeTellsRow.domain false Rows.opcodeTellsRow.laid) (((OpenSpec.ofChange Rows.opcodeTellsSpec).at F).post enc Tryd.prog Tryd.f5 false true false false) := by
  obtain ⟨places, hx⟩ := reads_opcodeTells os enc
  refine returnsInHanded_of_row (C := Tryd.checked) (s := OpenSpec.ofChange Rows.opcodeTellsSpec) own started (by kernel_rfl) Tryd.func5
    (witness_row_atRef (enc := enc) (C := Tryd.checked) false (laidWorld os) #[.int .i64 0] (World.laidAll_os _ _ _) (by kernel_rfl) (by kernel_rfl) (by kernel_rfl)
      (OpenSpec.preRow_of_cond 8 hx (by kernel_rfl) (fun k hk => by cases hk) (by kernel_rfl) (laid_opcodeTells os))) ?_
  intro W base args ds gs before hval hW _ _ _ hL hS _
  exact contract_opcodeTells H enc W base args ds gs before hval hW hL hS
theorem said_opcodeTells : Rows.OpcodeTellsSaid :=
  OpenClaim.holds_of_cond 5 Tryd.f5 rfl rfl rfl rfl rfl rfl rfl ⟨rfl, rfl, rfl, rfl, rfl⟩ rfl rfl rfl rfl rfl (by kernel_rfl) Tryd.func5 (by kernel_rfl)
    (of_decide_eq_true (by kernel_rfl)) (by unfold Func.isWrapper; first | (rw [if_pos (by decide +kernel)]; kernel_rfl) | (rw [if_neg (by decide +kernel)]; exact ⟨rfl, rfl⟩))
    (fun os started H enc _ F => by rw [OpenClaim.pre_eq_preRow]; exact lifted_opcodeTells os started H enc F)
theorem plain_opcodeTells (f : FuncId) (fn : Func) (hf : Tryd.pinned.checked.prog.funcNamed Rows.opcodeTellsRow.func = some f) (hfn : Tryd.pinned.checked.prog.funcs[f]? = some fn) :
    false = Tryd.pinned.checked.prog.looks [] ∧ ∀ (j : Nat) t, fn.params[j]? = some t → Tryd.pinned.checked.prog.wantsStandIn t = false := by
  obtain rfl : f = 5 := Option.some.inj ((show Tryd.prog.funcNamed Rows.opcodeTellsRow.func = some 5 by kernel_rfl).symm.trans hf) |>.symm
  obtain rfl : fn = Tryd.f5 := (Option.some.inj (Tryd.func5.symm.trans hfn)).symm
  refine ⟨by kernel_rfl, fun j t ht => ?_⟩
  rw [Tryd.params5] at ht
  have hm := Array.mem_of_getElem? ht
  simp only [List.mem_toArray, List.mem_cons, List.not_mem_nil, or_false] at hm
  rcases hm with rfl
  · exact (show Tryd.prog.wantsStandIn 22 = false by kernel_rfl)
theorem opcodeTells_holds : Rows.OpcodeTellsCardSaid :=
  Claim7.holds_tied_plain_at .later [] _ _ _ _ said_opcodeTells (fun _ h => by cases h) (by kernel_rfl) (fun _ h => by cases h) opcodeTells_row_tie rfl ⟨rfl, rfl⟩ (by kernel_rfl) rfl plain_opcodeTells (by kernel_rfl)
end Go.Proofs.YtnhnghpnejobfaaDoor
