/-
  Chapter 2, the law OctetReads: for every input the call returns true, and the arguments read as before: any sequence of calls on a Reader returns what the reference returns, and leaves it in the same state.
  Condition: unicode/utf8's tables lie as its own initialisers lay them (the card says so).
-/
import Derived.Test.YtkejmhpodhbeeaaDoorQg
set_option linter.unusedVariables false
set_option linter.unusedSimpArgs false
set_option linter.unusedSectionVars false
set_option maxRecDepth 100000
set_option linter.unusedVariables false
namespace Go.Proofs.YtkejmhpodhbeeaaDoor
open Go Go.Mw
open Go.ChangeShapes Go.WideShapes Go.ChangeAt Go.RowKit

theorem p_reads (xs : List AV) (h : All2 Ty.okV [.sl (.int .u8), .sl tyAct] xs) : ∃ ys, All2 nlc xs ys ∧ PCalls Tryd.prog 7 ys (.bool true) := by
  obtain ⟨x, y, rfl, h0, h1⟩ := ok2 h
  obtain ⟨B, hB⟩ := bytes_nlc h0
  obtain ⟨L, hL, hp⟩ := acts_nlc h1
  exact ⟨[.sl 1 (B.map by_), .sl 2 (L.map act_)], ⟨hB, hL, trivial⟩, w_reads B L hp⟩

theorem mem_octetReads : ∀ t ∈ [22, 59], Tryd.prog.readableRec t = true ∧ t < Tryd.prog.types.size := by
  intro t ht
  simp only [List.mem_cons, List.not_mem_nil, or_false] at ht
  rcases ht with rfl | rfl
  all_goals exact ⟨by kernel_rfl, of_decide_eq_true (by kernel_rfl)⟩
theorem contract_octetReads (H : Type) (enc : TypeId × Value → H) (W : World) (base : Nat) (args : Array Value) (ds gs : List (DataW H)) (before : List MemPlace)
    (hval : ∀ (j : Nat) t v, Tryd.f7.params[j]? = some t → args[j]? = some v → Value.okWide Tryd.prog W .any base t v)
    (hW : DataW.Whole enc Tryd.prog Tryd.f7.params.toList Rows.octetReadsSpec.vars false W args.toList ds gs before) (hL : laidMetH Tryd.prog Rows.octetReadsRow.laid W) :
    Calls Tryd.prog 7 args W fun e W' => ∃ v, e = .returned v ∧ Rows.octetReadsSpec.post enc Tryd.prog Tryd.f7 false true false false W args v W' := by
  refine law_contract (s := Rows.octetReadsSpec) (f := Tryd.f7) (tb := 4) [.sl (.int .u8), .sl tyAct] ?_ laidOut ?_ rfl ?_ (by kernel_rfl) (by kernel_rfl) (p_reads) W base args ds gs before (tabs_of hL) hval hW
  · rw [Tryd.params7]; exact ⟨ty22, ty59, trivial⟩
  · rw [Tryd.params7]; exact mem_octetReads
  · intro ds h
    match ds, h with
    | [d0, d1], _ => exact ⟨rfl, rfl, rfl⟩
theorem laid_octetReads (os : Os) : laidMet Tryd.prog Rows.octetReadsRow.laid ((laidWorld os).forCall (fun _ _ => 0) ⟨#[], #[.slice none 0 0, .slice none 0 0], []⟩).memory :=
  laidMet_of_run' 8 (by kernel_rfl) (by kernel_rfl)
theorem reads_octetReads (os : Os) {H : Type} (enc : TypeId × Value → H) : ∃ places, DataW.whole enc Tryd.prog ((laidWorld os).forCall (fun _ _ => 0) ⟨#[], #[.slice none 0 0, .slice none 0 0], []⟩).memory Tryd.f7.params.toList Rows.octetReadsSpec.vars false #[.slice none 0 0, .slice none 0 0].toList 8 = some ([.nil, .nil], [], places) :=
  ⟨[], by kernel_rfl⟩
theorem lifted_octetReads (os : Os) (started : os.Started) (H : Type) (enc : TypeId × Value → H) (F : Stop.Interp) :
    ReturnsInHanded {} Tryd.checked os 7 .any ((OpenSpec.ofChange Rows.octetReadsSpec).preRow enc Tryd.prog Tryd.f7 Rows.octetReadsRow.domain false Rows.octetReadsRow.laid) (((OpenSpec.ofChange Rows.octetReadsSpec).at F).post enc Tryd.prog Tryd.f7 false true false false) := by
  obtain ⟨places, hx⟩ := reads_octetReads os enc
  refine returnsInHanded_of_row (C := Tryd.checked) (s := OpenSpec.ofChange Rows.octetReadsSpec) own started (by kernel_rfl) Tryd.func7
    (witness_row_at (enc := enc) (C := Tryd.checked) false (laidWorld os) #[.slice none 0 0, .slice none 0 0] rfl (by kernel_rfl) (by kernel_rfl) (by kernel_rfl)
      (OpenSpec.preRow_of_cond 8 hx (by kernel_rfl) (fun k hk => by cases hk) (by kernel_rfl) (laid_octetReads os))) ?_
  intro W base args ds gs before hval hW _ _ _ hL _ _
  exact contract_octetReads H enc W base args ds gs before hval hW hL
theorem said_octetReads : Rows.OctetReadsSaid :=
  OpenClaim.holds_of_cond 7 Tryd.f7 rfl rfl rfl rfl rfl rfl rfl ⟨rfl, rfl, rfl, rfl, rfl⟩ rfl rfl rfl rfl rfl (by kernel_rfl) Tryd.func7 (by kernel_rfl)
    (of_decide_eq_true (by kernel_rfl)) (by unfold Func.isWrapper; first | (rw [if_pos (by decide +kernel)]; kernel_rfl) | (rw [if_neg (by decide +kernel)]; exact ⟨rfl, rfl⟩))
    (fun os started H enc _ F => by rw [OpenClaim.pre_eq_preRow]; exact lifted_octetReads os started H enc F)
theorem plain_octetReads (f : FuncId) (fn : Func) (hf : Tryd.pinned.checked.prog.funcNamed Rows.octetReadsRow.func = some f) (hfn : Tryd.pinned.checked.prog.funcs[f]? = some fn) :
    false = Tryd.pinned.checked.prog.looks [] ∧ ∀ (j : Nat) t, fn.params[j]? = some t → Tryd.pinned.checked.prog.wantsStandIn t = false := by
  obtain rfl : f = 7 := Option.some.inj ((show Tryd.prog.funcNamed Rows.octetReadsRow.func = some 7 by kernel_rfl).symm.trans hf) |>.symm
  obtain rfl : fn = Tryd.f7 := (Option.some.inj (Tryd.func7.symm.trans hfn)).symm
  refine ⟨by kernel_rfl, fun j t ht => ?_⟩
  rw [Tryd.params7] at ht
  have hm := Array.mem_of_getElem? ht
  simp only [List.mem_toArray, List.mem_cons, List.not_mem_nil, or_false] at hm
  rcases hm with rfl | rfl
  · exact (show Tryd.prog.wantsStandIn 22 = false by kernel_rfl)
  · exact (show Tryd.prog.wantsStandIn 59 = false by kernel_rfl)
theorem octetReads_holds : Rows.OctetReadsCardSaid :=
  Claim7.holds_tied_plain_at .later [] _ _ _ _ said_octetReads (fun _ h => by cases h) (by kernel_rfl) (fun _ h => by cases h) octetReads_row_tie rfl ⟨rfl, rfl⟩ (by kernel_rfl) rfl plain_octetReads (by kernel_rfl)

end Go.Proofs.YtkejmhpodhbeeaaDoor
