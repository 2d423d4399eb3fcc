/-
  Chapter 12, the law SectionSplits: for every input the call returns true, and the arguments read as before: Split agrees with the reference for every byte slice.
  Condition: unicode/utf8's tables lie as its own initialisers lay them (the card says so).
-/
import Derived.Test.YtkejmhpodhbeeaaDoorQg
import Derived.Test.YtkejmhpodhbeeaaDoorQh
set_option linter.unusedVariables false
set_option linter.unusedSimpArgs false
set_option linter.unusedSectionVars false
set_option maxRecDepth 100000
set_option linter.unusedVariables false
namespace Go.Proofs.YtkejmhpodhbeeaaDoor
open Go Go.Mw
open Go.ChangeShapes Go.WideShapes Go.ChangeAt Go.RowKit

theorem p_splits (xs : List AV) (h : All2 Ty.okV [.sl (.int .u8)] xs) : ∃ ys, All2 nlc xs ys ∧ PCalls Tryd.prog 13 ys (.bool true) := by
  obtain ⟨x, rfl, h0⟩ := ok1 h
  obtain ⟨L, hL⟩ := bytes_nlc h0
  exact ⟨[.sl 1 (L.map by_)], ⟨hL, trivial⟩, w_splits s_alive12 L⟩

theorem mem_sectionSplits : ∀ t ∈ [22], Tryd.prog.readableRec t = true ∧ t < Tryd.prog.types.size := by
  intro t ht
  simp only [List.mem_cons, List.not_mem_nil, or_false] at ht
  rcases ht with rfl
  all_goals exact ⟨by kernel_rfl, of_decide_eq_true (by kernel_rfl)⟩
theorem contract_sectionSplits (H : Type) (enc : TypeId × Value → H) (W : World) (base : Nat) (args : Array Value) (ds gs : List (DataW H)) (before : List MemPlace)
    (hval : ∀ (j : Nat) t v, Tryd.f13.params[j]? = some t → args[j]? = some v → Value.okWide Tryd.prog W .any base t v)
    (hW : DataW.Whole enc Tryd.prog Tryd.f13.params.toList Rows.sectionSplitsSpec.vars false W args.toList ds gs before) (hL : laidMetH Tryd.prog Rows.sectionSplitsRow.laid W) :
    Calls Tryd.prog 13 args W fun e W' => ∃ v, e = .returned v ∧ Rows.sectionSplitsSpec.post enc Tryd.prog Tryd.f13 false true false false W args v W' := by
  refine law_contract (s := Rows.sectionSplitsSpec) (f := Tryd.f13) (tb := 4) [.sl (.int .u8)] ?_ laidOut ?_ rfl ?_ (by kernel_rfl) (by kernel_rfl) (p_splits) W base args ds gs before (tabs_of hL) hval hW
  · rw [Tryd.params13]; exact ⟨ty22, trivial⟩
  · rw [Tryd.params13]; exact mem_sectionSplits
  · intro ds h
    match ds, h with
    | [d0], _ => exact ⟨rfl, rfl, rfl⟩
theorem laid_sectionSplits (os : Os) : laidMet Tryd.prog Rows.sectionSplitsRow.laid ((laidWorld os).forCall (fun _ _ => 0) ⟨#[], #[.slice none 0 0], []⟩).memory :=
  laidMet_of_run' 8 (by kernel_rfl) (by kernel_rfl)
theorem reads_sectionSplits (os : Os) {H : Type} (enc : TypeId × Value → H) : ∃ places, DataW.whole enc Tryd.prog ((laidWorld os).forCall (fun _ _ => 0) ⟨#[], #[.slice none 0 0], []⟩).memory Tryd.f13.params.toList Rows.sectionSplitsSpec.vars false #[.slice none 0 0].toList 8 = some ([.nil], [], places) :=
  ⟨[], by kernel_rfl⟩
theorem lifted_sectionSplits (os : Os) (started : os.Started) (H : Type) (enc : TypeId × Value → H) (F : Stop.Interp) :
    ReturnsInHanded {} Tryd.checked os 13 .any ((OpenSpec.ofChange Rows.sectionSplitsSpec).preRow enc Tryd.prog Tryd.f13 Rows.sectionSplitsRow.domain false Rows.sectionSplitsRow.laid) (((OpenSpec.ofChange Rows.sectionSplitsSpec).at F).post enc Tryd.prog Tryd.f13 false true false false) := by
  obtain ⟨places, hx⟩ := reads_sectionSplits os enc
  refine returnsInHanded_of_row (C := Tryd.checked) (s := OpenSpec.ofChange Rows.sectionSplitsSpec) own started (by kernel_rfl) Tryd.func13
    (witness_row_at (enc := enc) (C := Tryd.checked) false (laidWorld os) #[.slice none 0 0] rfl (by kernel_rfl) (by kernel_rfl) (by kernel_rfl)
      (OpenSpec.preRow_of_cond 8 hx (by kernel_rfl) (fun k hk => by cases hk) (by kernel_rfl) (laid_sectionSplits os))) ?_
  intro W base args ds gs before hval hW _ _ _ hL _ _
  exact contract_sectionSplits H enc W base args ds gs before hval hW hL
theorem said_sectionSplits : Rows.SectionSplitsSaid :=
  OpenClaim.holds_of_cond 13 Tryd.f13 rfl rfl rfl rfl rfl rfl rfl ⟨rfl, rfl, rfl, rfl, rfl⟩ rfl rfl rfl rfl rfl (by kernel_rfl) Tryd.func13 (by kernel_rfl)
    (of_decide_eq_true (by kernel_rfl)) (by unfold Func.isWrapper; first | (rw [if_pos (by decide +kernel)]; kernel_rfl) | (rw [if_neg (by decide +kernel)]; exact ⟨rfl, rfl⟩))
    (fun os started H enc _ F => by rw [OpenClaim.pre_eq_preRow]; exact lifted_sectionSplits os started H enc F)
theorem plain_sectionSplits (f : FuncId) (fn : Func) (hf : Tryd.pinned.checked.prog.funcNamed Rows.sectionSplitsRow.func = some f) (hfn : Tryd.pinned.checked.prog.funcs[f]? = some fn) :
    false = Tryd.pinned.checked.prog.looks [] ∧ ∀ (j : Nat) t, fn.params[j]? = some t → Tryd.pinned.checked.prog.wantsStandIn t = false := by
  obtain rfl : f = 13 := Option.some.inj ((show Tryd.prog.funcNamed Rows.sectionSplitsRow.func = some 13 by kernel_rfl).symm.trans hf) |>.symm
  obtain rfl : fn = Tryd.f13 := (Option.some.inj (Tryd.func13.symm.trans hfn)).symm
  refine ⟨by kernel_rfl, fun j t ht => ?_⟩
  rw [Tryd.params13] at ht
  have hm := Array.mem_of_getElem? ht
  simp only [List.mem_toArray, List.mem_cons, List.not_mem_nil, or_false] at hm
  rcases hm with rfl
  · exact (show Tryd.prog.wantsStandIn 22 = false by kernel_rfl)
theorem sectionSplits_holds : Rows.SectionSplitsCardSaid :=
  Claim7.holds_tied_plain_at .later [] _ _ _ _ said_sectionSplits (fun _ h => by cases h) (by kernel_rfl) (fun _ h => by cases h) sectionSplits_row_tie rfl ⟨rfl, rfl⟩ (by kernel_rfl) rfl plain_sectionSplits (by kernel_rfl)

end Go.Proofs.YtkejmhpodhbeeaaDoor
