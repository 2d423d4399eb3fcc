/-
  Chapter 2, the law OctetWrites: for every input the call returns true, and the arguments read as before: any sequence of calls on a Writer produces the reference's output, length and error.
  Condition: unicode/utf8's tables lie as its own initialisers lay them (the card says so).
-/
import Derived.Test.YtkejmhpodhbeeaaDoorQg
set_option linter.unusedVariables false
set_option linter.unusedSimpArgs false
set_option linter.unusedSectionVars false
set_option maxRecDepth 100000
set_option linter.unusedVariables false
namespace Go.Proofs.YtkejmhpodhbeeaaDoor
open Go Go.Mw
open Go.ChangeShapes Go.WideShapes Go.ChangeAt Go.RowKit

theorem p_writes (xs : List AV) (h : All2 Ty.okV [.sl tyFld] xs) : ∃ ys, All2 nlc xs ys ∧ PCalls Tryd.prog 4 ys (.bool true) := by
  obtain ⟨x, rfl, h0⟩ := ok1 h
  obtain ⟨L, hL, hp⟩ := flds_nlc h0
  exact ⟨[.sl 4 (L.map fld_)], ⟨hL, trivial⟩, w_writes L fun f hf => (hp f hf).1⟩

theorem mem_octetWrites : ∀ t ∈ [31], Tryd.prog.readableRec t = true ∧ t < Tryd.prog.types.size := by
  intro t ht
  simp only [List.mem_cons, List.not_mem_nil, or_false] at ht
  rcases ht with rfl
  all_goals exact ⟨by kernel_rfl, of_decide_eq_true (by kernel_rfl)⟩
theorem contract_octetWrites (H : Type) (enc : TypeId × Value → H) (W : World) (base : Nat) (args : Array Value) (ds gs : List (DataW H)) (before : List MemPlace)
    (hval : ∀ (j : Nat) t v, Tryd.f4.params[j]? = some t → args[j]? = some v → Value.okWide Tryd.prog W .any base t v)
    (hW : DataW.Whole enc Tryd.prog Tryd.f4.params.toList Rows.octetWritesSpec.vars false W args.toList ds gs before) (hL : laidMetH Tryd.prog Rows.octetWritesRow.laid W) :
    Calls Tryd.prog 4 args W fun e W' => ∃ v, e = .returned v ∧ Rows.octetWritesSpec.post enc Tryd.prog Tryd.f4 false true false false W args v W' := by
  refine law_contract (s := Rows.octetWritesSpec) (f := Tryd.f4) (tb := 4) [.sl tyFld] ?_ laidOut ?_ rfl ?_ (by kernel_rfl) (by kernel_rfl) (p_writes) W base args ds gs before (tabs_of hL) hval hW
  · rw [Tryd.params4]; exact ⟨ty31, trivial⟩
  · rw [Tryd.params4]; exact mem_octetWrites
  · intro ds h
    match ds, h with
    | [d0], _ => exact ⟨rfl, rfl, rfl⟩
theorem laid_octetWrites (os : Os) : laidMet Tryd.prog Rows.octetWritesRow.laid ((laidWorld os).forCall (fun _ _ => 0) ⟨#[], #[.slice none 0 0], []⟩).memory :=
  laidMet_of_run' 8 (by kernel_rfl) (by kernel_rfl)
theorem reads_octetWrites (os : Os) {H : Type} (enc : TypeId × Value → H) : ∃ places, DataW.whole enc Tryd.prog ((laidWorld os).forCall (fun _ _ => 0) ⟨#[], #[.slice none 0 0], []⟩).memory Tryd.f4.params.toList Rows.octetWritesSpec.vars false #[.slice none 0 0].toList 8 = some ([.nil], [], places) :=
  ⟨[], by kernel_rfl⟩
theorem lifted_octetWrites (os : Os) (started : os.Started) (H : Type) (enc : TypeId × Value → H) (F : Stop.Interp) :
    ReturnsInHanded {} Tryd.checked os 4 .any ((OpenSpec.ofChange Rows.octetWritesSpec).preRow enc Tryd.prog Tryd.f4 Rows.octetWritesRow.domain false Rows.octetWritesRow.laid) (((OpenSpec.ofChange Rows.octetWritesSpec).at F).post enc Tryd.prog Tryd.f4 false true false false) := by
  obtain ⟨places, hx⟩ := reads_octetWrites os enc
  refine returnsInHanded_of_row (C := Tryd.checked) (s := OpenSpec.ofChange Rows.octetWritesSpec) own started (by kernel_rfl) Tryd.func4
    (witness_row_at (enc := enc) (C := Tryd.checked) false (laidWorld os) #[.slice none 0 0] rfl (by kernel_rfl) (by kernel_rfl) (by kernel_rfl)
      (OpenSpec.preRow_of_cond 8 hx (by kernel_rfl) (fun k hk => by cases hk) (by kernel_rfl) (laid_octetWrites os))) ?_
  intro W base args ds gs before hval hW _ _ _ hL _ _
  exact contract_octetWrites H enc W base args ds gs before hval hW hL
theorem said_octetWrites : Rows.OctetWritesSaid :=
  OpenClaim.holds_of_cond 4 Tryd.f4 rfl rfl rfl rfl rfl rfl rfl ⟨rfl, rfl, rfl, rfl, rfl⟩ rfl rfl rfl rfl rfl (by kernel_rfl) Tryd.func4 (by kernel_rfl)
    (of_decide_eq_true (by kernel_rfl)) (by unfold Func.isWrapper; first | (rw [if_pos (by decide +kernel)]; kernel_rfl) | (rw [if_neg (by decide +kernel)]; exact ⟨rfl, rfl⟩))
    (fun os started H enc _ F => by rw [OpenClaim.pre_eq_preRow]; exact lifted_octetWrites os started H enc F)
theorem plain_octetWrites (f : FuncId) (fn : Func) (hf : Tryd.pinned.checked.prog.funcNamed Rows.octetWritesRow.func = some f) (hfn : Tryd.pinned.checked.prog.funcs[f]? = some fn) :
    false = Tryd.pinned.checked.prog.looks [] ∧ ∀ (j : Nat) t, fn.params[j]? = some t → Tryd.pinned.checked.prog.wantsStandIn t = false := by
  obtain rfl : f = 4 := Option.some.inj ((show Tryd.prog.funcNamed Rows.octetWritesRow.func = some 4 by kernel_rfl).symm.trans hf) |>.symm
  obtain rfl : fn = Tryd.f4 := (Option.some.inj (Tryd.func4.symm.trans hfn)).symm
  refine ⟨by kernel_rfl, fun j t ht => ?_⟩
  rw [Tryd.params4] at ht
  have hm := Array.mem_of_getElem? ht
  simp only [List.mem_toArray, List.mem_cons, List.not_mem_nil, or_false] at hm
  rcases hm with rfl
  · exact (show Tryd.prog.wantsStandIn 31 = false by kernel_rfl)
theorem octetWrites_holds : Rows.OctetWritesCardSaid :=
  Claim7.holds_tied_plain_at .later [] _ _ _ _ said_octetWrites (fun _ h => by cases h) (by kernel_rfl) (fun _ h => by cases h) octetWrites_row_tie rfl ⟨rfl, rfl⟩ (by kernel_rfl) rfl plain_octetWrites (by kernel_rfl)

end Go.Proofs.YtkejmhpodhbeeaaDoor
