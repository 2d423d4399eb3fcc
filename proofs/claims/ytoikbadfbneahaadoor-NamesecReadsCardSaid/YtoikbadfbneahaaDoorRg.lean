/-
  Chapter 14, the law NamesecReads: for every input the call returns true, and the arguments read as before: Decode returns the specified names or error for any bytes.
  Condition: unicode/utf8's tables lie as its own initialisers lay them (the card says so).
-/
import Derived.Test.YtoikbadfbneahaaDoorQm
import Derived.Test.YtoikbadfbneahaaDoorQr
set_option linter.unusedVariables false
set_option linter.unusedSimpArgs false
set_option linter.unusedSectionVars false
set_option maxRecDepth 100000
set_option linter.unusedVariables false
namespace Go.Proofs.YtoikbadfbneahaaDoor
open Go Go.Mw
open Go.ChangeShapes Go.WideShapes Go.ChangeAt Go.RowKit

theorem p_reads14 (xs : List AV) (h : All2 Ty.okV [.sl (.int .u8)] xs) : ∃ ys, All2 nlc xs ys ∧ PCalls Tryd.prog 5 ys (.bool true) := by
  obtain ⟨x, rfl, h0⟩ := ok_1 h
  obtain ⟨l, hl, _⟩ := bytesV h0
  exact ⟨[x], ⟨.inl rfl, trivial⟩, PCalls_nld (w_reads14 l) ⟨hl, trivial⟩⟩

theorem mem_namesecReads : ∀ t ∈ [43], Tryd.prog.readableRec t = true ∧ t < Tryd.prog.types.size := by
  intro t ht
  simp only [List.mem_cons, List.not_mem_nil, or_false] at ht
  rcases ht with rfl
  all_goals exact ⟨by kernel_rfl, of_decide_eq_true (by kernel_rfl)⟩
theorem contract_namesecReads (H : Type) (enc : TypeId × Value → H) (W : World) (base : Nat) (args : Array Value) (ds gs : List (DataW H)) (before : List MemPlace)
    (hval : ∀ (j : Nat) t v, Tryd.f5.params[j]? = some t → args[j]? = some v → Value.okWide Tryd.prog W .any base t v)
    (hW : DataW.Whole enc Tryd.prog Tryd.f5.params.toList Rows.namesecReadsSpec.vars false W args.toList ds gs before) (hL : laidMetH Tryd.prog Rows.namesecReadsRow.laid W) :
    Calls Tryd.prog 5 args W fun e W' => ∃ v, e = .returned v ∧ Rows.namesecReadsSpec.post enc Tryd.prog Tryd.f5 false true false false W args v W' := by
  refine law_contract (s := Rows.namesecReadsSpec) (f := Tryd.f5) (tb := 4) [.sl (.int .u8)] ?_ laidOut ?_ rfl ?_ (by kernel_rfl) (by kernel_rfl) (p_reads14) W base args ds gs before (tabs_of hL) hval hW
  · rw [Tryd.params5]; exact ⟨tyM43, trivial⟩
  · rw [Tryd.params5]; exact mem_namesecReads
  · intro ds h
    match ds, h with
    | [d0], _ => exact ⟨rfl, rfl, rfl⟩
theorem laid_namesecReads (os : Os) : laidMet Tryd.prog Rows.namesecReadsRow.laid ((laidWorld os).forCall (fun _ _ => 0) ⟨#[], #[.slice none 0 0], []⟩).memory :=
  laidMet_of_run' 8 (by kernel_rfl) (by kernel_rfl)
theorem reads_namesecReads (os : Os) {H : Type} (enc : TypeId × Value → H) : ∃ places, DataW.whole enc Tryd.prog ((laidWorld os).forCall (fun _ _ => 0) ⟨#[], #[.slice none 0 0], []⟩).memory Tryd.f5.params.toList Rows.namesecReadsSpec.vars false #[.slice none 0 0].toList 8 = some ([.nil], [], places) :=
  ⟨[], by kernel_rfl⟩
theorem lifted_namesecReads (os : Os) (started : os.Started) (H : Type) (enc : TypeId × Value → H) (F : Stop.Interp) :
    ReturnsInHanded {} Tryd.checked os 5 .any ((OpenSpec.ofChange Rows.namesecReadsSpec).preRow enc Tryd.prog Tryd.f5 Rows.namesecReadsRow.domain false Rows.namesecReadsRow.laid) (((OpenSpec.ofChange Rows.namesecReadsSpec).at F).post enc Tryd.prog Tryd.f5 false true false false) := by
  obtain ⟨places, hx⟩ := reads_namesecReads os enc
  refine returnsInHanded_of_row (C := Tryd.checked) (s := OpenSpec.ofChange Rows.namesecReadsSpec) own started (by kernel_rfl) Tryd.func5
    (witness_row_at (enc := enc) (C := Tryd.checked) false (laidWorld os) #[.slice none 0 0] rfl (by kernel_rfl) (by kernel_rfl) (by kernel_rfl)
      (OpenSpec.preRow_of_cond 8 hx (by kernel_rfl) (fun k hk => by cases hk) (by kernel_rfl) (laid_namesecReads os))) ?_
  intro W base args ds gs before hval hW _ _ _ hL _ _
  exact contract_namesecReads H enc W base args ds gs before hval hW hL
theorem said_namesecReads : Rows.NamesecReadsSaid :=
  OpenClaim.holds_of_cond 5 Tryd.f5 rfl rfl rfl rfl rfl rfl rfl ⟨rfl, rfl, rfl, rfl, rfl⟩ rfl rfl rfl rfl rfl (by kernel_rfl) Tryd.func5 (by kernel_rfl)
    (of_decide_eq_true (by kernel_rfl)) (by unfold Func.isWrapper; first | (rw [if_pos (by decide +kernel)]; kernel_rfl) | (rw [if_neg (by decide +kernel)]; exact ⟨rfl, rfl⟩))
    (fun os started H enc _ F => by rw [OpenClaim.pre_eq_preRow]; exact lifted_namesecReads os started H enc F)
theorem plain_namesecReads (f : FuncId) (fn : Func) (hf : Tryd.pinned.checked.prog.funcNamed Rows.namesecReadsRow.func = some f) (hfn : Tryd.pinned.checked.prog.funcs[f]? = some fn) :
    false = Tryd.pinned.checked.prog.looks [] ∧ ∀ (j : Nat) t, fn.params[j]? = some t → Tryd.pinned.checked.prog.wantsStandIn t = false := by
  obtain rfl : f = 5 := Option.some.inj ((show Tryd.prog.funcNamed Rows.namesecReadsRow.func = some 5 by kernel_rfl).symm.trans hf) |>.symm
  obtain rfl : fn = Tryd.f5 := (Option.some.inj (Tryd.func5.symm.trans hfn)).symm
  refine ⟨by kernel_rfl, fun j t ht => ?_⟩
  rw [Tryd.params5] at ht
  have hm := Array.mem_of_getElem? ht
  simp only [List.mem_toArray, List.mem_cons, List.not_mem_nil, or_false] at hm
  rcases hm with rfl
  · exact (show Tryd.prog.wantsStandIn 43 = false by kernel_rfl)
theorem namesecReads_holds : Rows.NamesecReadsCardSaid :=
  Claim7.holds_tied_plain_at .later [] _ _ _ _ said_namesecReads (fun _ h => by cases h) (by kernel_rfl) (fun _ h => by cases h) namesecReads_row_tie rfl ⟨rfl, rfl⟩ (by kernel_rfl) rfl plain_namesecReads (by kernel_rfl)

end Go.Proofs.YtoikbadfbneahaaDoor
