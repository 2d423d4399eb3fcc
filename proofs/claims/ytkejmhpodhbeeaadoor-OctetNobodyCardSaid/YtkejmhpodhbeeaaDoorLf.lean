/-
  Chapter 2, the law OctetNobody: for every input the call returns true, and the arguments read as before: nil Readers and Writers, and ones that no constructor made, return zero values and ErrNil.
  Condition: unicode/utf8's tables lie as its own initialisers lay them (the card says so).
-/
import Derived.Test.YtkejmhpodhbeeaaDoorQg
set_option linter.unusedVariables false
set_option linter.unusedSimpArgs false
set_option linter.unusedSectionVars false
set_option maxRecDepth 100000
set_option linter.unusedVariables false
namespace Go.Proofs.YtkejmhpodhbeeaaDoor
open Go Go.Mw
open Go.ChangeShapes Go.WideShapes Go.ChangeAt Go.RowKit

theorem p_nobody (xs : List AV) (h : All2 Ty.okV [tyAct, tyFld] xs) : ∃ ys, All2 nlc xs ys ∧ PCalls Tryd.prog 5 ys (.bool true) := by
  obtain ⟨x, y, rfl, ⟨xs, rfl, h0⟩, ⟨ys, rfl, h1⟩⟩ := ok2 h
  obtain ⟨a, rfl, ha⟩ := act_ok h0
  obtain ⟨f, rfl, hf⟩ := fld_ok h1
  exact ⟨[.agg (act_ a), .agg (fld_ f)], ⟨.inl rfl, .inl rfl, trivial⟩, w_nobody a.1 a.2 f ha hf.1⟩

theorem mem_octetNobody : ∀ t ∈ [46, 40], Tryd.prog.readableRec t = true ∧ t < Tryd.prog.types.size := by
  intro t ht
  simp only [List.mem_cons, List.not_mem_nil, or_false] at ht
  rcases ht with rfl | rfl
  all_goals exact ⟨by kernel_rfl, of_decide_eq_true (by kernel_rfl)⟩
theorem contract_octetNobody (H : Type) (enc : TypeId × Value → H) (W : World) (base : Nat) (args : Array Value) (ds gs : List (DataW H)) (before : List MemPlace)
    (hval : ∀ (j : Nat) t v, Tryd.f5.params[j]? = some t → args[j]? = some v → Value.okWide Tryd.prog W .any base t v)
    (hW : DataW.Whole enc Tryd.prog Tryd.f5.params.toList Rows.octetNobodySpec.vars false W args.toList ds gs before) (hL : laidMetH Tryd.prog Rows.octetNobodyRow.laid W) :
    Calls Tryd.prog 5 args W fun e W' => ∃ v, e = .returned v ∧ Rows.octetNobodySpec.post enc Tryd.prog Tryd.f5 false true false false W args v W' := by
  refine law_contract (s := Rows.octetNobodySpec) (f := Tryd.f5) (tb := 4) [tyAct, tyFld] ?_ laidOut ?_ rfl ?_ (by kernel_rfl) (by kernel_rfl) (p_nobody) W base args ds gs before (tabs_of hL) hval hW
  · rw [Tryd.params5]; exact ⟨ty46, ty40, trivial⟩
  · rw [Tryd.params5]; exact mem_octetNobody
  · intro ds h
    match ds, h with
    | [d0, d1], _ => exact ⟨rfl, rfl, rfl⟩
theorem laid_octetNobody (os : Os) : laidMet Tryd.prog Rows.octetNobodyRow.laid ((laidWorld os).forCall (fun _ _ => 0) ⟨#[], #[.agg #[.int .i64 0, .int .i64 0], .agg #[.int .i64 0, .int .i64 0, .int .u64 0, .string ⟨#[]⟩]], []⟩).memory :=
  laidMet_of_run' 8 (by kernel_rfl) (by kernel_rfl)
theorem reads_octetNobody (os : Os) {H : Type} (enc : TypeId × Value → H) : ∃ places, DataW.whole enc Tryd.prog ((laidWorld os).forCall (fun _ _ => 0) ⟨#[], #[.agg #[.int .i64 0, .int .i64 0], .agg #[.int .i64 0, .int .i64 0, .int .u64 0, .string ⟨#[]⟩]], []⟩).memory Tryd.f5.params.toList Rows.octetNobodySpec.vars false #[.agg #[.int .i64 0, .int .i64 0], .agg #[.int .i64 0, .int .i64 0, .int .u64 0, .string ⟨#[]⟩]].toList 8 = some ([.agg [.lit (.int .i64 0), .lit (.int .i64 0)], .agg [.lit (.int .i64 0), .lit (.int .i64 0), .lit (.int .u64 0), .lit (.string [])]], [], places) :=
  ⟨[], by kernel_rfl⟩
theorem lifted_octetNobody (os : Os) (started : os.Started) (H : Type) (enc : TypeId × Value → H) (F : Stop.Interp) :
    ReturnsInHanded {} Tryd.checked os 5 .any ((OpenSpec.ofChange Rows.octetNobodySpec).preRow enc Tryd.prog Tryd.f5 Rows.octetNobodyRow.domain false Rows.octetNobodyRow.laid) (((OpenSpec.ofChange Rows.octetNobodySpec).at F).post enc Tryd.prog Tryd.f5 false true false false) := by
  obtain ⟨places, hx⟩ := reads_octetNobody os enc
  refine returnsInHanded_of_row (C := Tryd.checked) (s := OpenSpec.ofChange Rows.octetNobodySpec) own started (by kernel_rfl) Tryd.func5
    (witness_row_at (enc := enc) (C := Tryd.checked) false (laidWorld os) #[.agg #[.int .i64 0, .int .i64 0], .agg #[.int .i64 0, .int .i64 0, .int .u64 0, .string ⟨#[]⟩]] rfl (by kernel_rfl) (by kernel_rfl) (by kernel_rfl)
      (OpenSpec.preRow_of_cond 8 hx (by kernel_rfl) (fun k hk => by cases hk) (by kernel_rfl) (laid_octetNobody os))) ?_
  intro W base args ds gs before hval hW _ _ _ hL _ _
  exact contract_octetNobody H enc W base args ds gs before hval hW hL
theorem said_octetNobody : Rows.OctetNobodySaid :=
  OpenClaim.holds_of_cond 5 Tryd.f5 rfl rfl rfl rfl rfl rfl rfl ⟨rfl, rfl, rfl, rfl, rfl⟩ rfl rfl rfl rfl rfl (by kernel_rfl) Tryd.func5 (by kernel_rfl)
    (of_decide_eq_true (by kernel_rfl)) (by unfold Func.isWrapper; first | (rw [if_pos (by decide +kernel)]; kernel_rfl) | (rw [if_neg (by decide +kernel)]; exact ⟨rfl, rfl⟩))
    (fun os started H enc _ F => by rw [OpenClaim.pre_eq_preRow]; exact lifted_octetNobody os started H enc F)
theorem plain_octetNobody (f : FuncId) (fn : Func) (hf : Tryd.pinned.checked.prog.funcNamed Rows.octetNobodyRow.func = some f) (hfn : Tryd.pinned.checked.prog.funcs[f]? = some fn) :
    false = Tryd.pinned.checked.prog.looks [] ∧ ∀ (j : Nat) t, fn.params[j]? = some t → Tryd.pinned.checked.prog.wantsStandIn t = false := by
  obtain rfl : f = 5 := Option.some.inj ((show Tryd.prog.funcNamed Rows.octetNobodyRow.func = some 5 by kernel_rfl).symm.trans hf) |>.symm
  obtain rfl : fn = Tryd.f5 := (Option.some.inj (Tryd.func5.symm.trans hfn)).symm
  refine ⟨by kernel_rfl, fun j t ht => ?_⟩
  rw [Tryd.params5] at ht
  have hm := Array.mem_of_getElem? ht
  simp only [List.mem_toArray, List.mem_cons, List.not_mem_nil, or_false] at hm
  rcases hm with rfl | rfl
  · exact (show Tryd.prog.wantsStandIn 46 = false by kernel_rfl)
  · exact (show Tryd.prog.wantsStandIn 40 = false by kernel_rfl)
theorem octetNobody_holds : Rows.OctetNobodyCardSaid :=
  Claim7.holds_tied_plain_at .later [] _ _ _ _ said_octetNobody (fun _ h => by cases h) (by kernel_rfl) (fun _ h => by cases h) octetNobody_row_tie rfl ⟨rfl, rfl⟩ (by kernel_rfl) rfl plain_octetNobody (by kernel_rfl)

end Go.Proofs.YtkejmhpodhbeeaaDoor
