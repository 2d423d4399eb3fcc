/-
  Chapter 12, the law SectionBack: for every input the call returns true, and the arguments read as before: Split returns the sections that were joined.
  Condition: unicode/utf8's tables lie as its own initialisers lay them (the card says so).
-/
import Derived.Test.YtkejmhpodhbeeaaDoorQg
import Derived.Test.YtkejmhpodhbeeaaDoorQh
set_option linter.unusedVariables false
set_option linter.unusedSimpArgs false
set_option linter.unusedSectionVars false
set_option maxRecDepth 100000
set_option linter.unusedVariables false
namespace Go.Proofs.YtkejmhpodhbeeaaDoor
open Go Go.Mw
open Go.ChangeShapes Go.WideShapes Go.ChangeAt Go.RowKit

theorem p_back12 (xs : List AV) (h : All2 Ty.okV [.sl tySec] xs) : ∃ ys, All2 nlc xs ys ∧ PCalls Tryd.prog 10 ys (.bool true) := by
  obtain ⟨x, rfl, h0⟩ := ok1 h
  obtain ⟨L, hL⟩ := secs_nlc h0
  exact ⟨[.sl 3 (L.map sec_)], ⟨hL, trivial⟩, w_back12 s_alive12 L⟩

theorem mem_sectionBack : ∀ t ∈ [67], Tryd.prog.readableRec t = true ∧ t < Tryd.prog.types.size := by
  intro t ht
  simp only [List.mem_cons, List.not_mem_nil, or_false] at ht
  rcases ht with rfl
  all_goals exact ⟨by kernel_rfl, of_decide_eq_true (by kernel_rfl)⟩
theorem contract_sectionBack (H : Type) (enc : TypeId × Value → H) (W : World) (base : Nat) (args : Array Value) (ds gs : List (DataW H)) (before : List MemPlace)
    (hval : ∀ (j : Nat) t v, Tryd.f10.params[j]? = some t → args[j]? = some v → Value.okWide Tryd.prog W .any base t v)
    (hW : DataW.Whole enc Tryd.prog Tryd.f10.params.toList Rows.sectionBackSpec.vars false W args.toList ds gs before) (hL : laidMetH Tryd.prog Rows.sectionBackRow.laid W) :
    Calls Tryd.prog 10 args W fun e W' => ∃ v, e = .returned v ∧ Rows.sectionBackSpec.post enc Tryd.prog Tryd.f10 false true false false W args v W' := by
  refine law_contract (s := Rows.sectionBackSpec) (f := Tryd.f10) (tb := 4) [.sl tySec] ?_ laidOut ?_ rfl ?_ (by kernel_rfl) (by kernel_rfl) (p_back12) W base args ds gs before (tabs_of hL) hval hW
  · rw [Tryd.params10]; exact ⟨ty67, trivial⟩
  · rw [Tryd.params10]; exact mem_sectionBack
  · intro ds h
    match ds, h with
    | [d0], _ => exact ⟨rfl, rfl, rfl⟩
theorem laid_sectionBack (os : Os) : laidMet Tryd.prog Rows.sectionBackRow.laid ((laidWorld os).forCall (fun _ _ => 0) ⟨#[], #[.slice none 0 0], []⟩).memory :=
  laidMet_of_run' 8 (by kernel_rfl) (by kernel_rfl)
theorem reads_sectionBack (os : Os) {H : Type} (enc : TypeId × Value → H) : ∃ places, DataW.whole enc Tryd.prog ((laidWorld os).forCall (fun _ _ => 0) ⟨#[], #[.slice none 0 0], []⟩).memory Tryd.f10.params.toList Rows.sectionBackSpec.vars false #[.slice none 0 0].toList 8 = some ([.nil], [], places) :=
  ⟨[], by kernel_rfl⟩
theorem lifted_sectionBack (os : Os) (started : os.Started) (H : Type) (enc : TypeId × Value → H) (F : Stop.Interp) :
    ReturnsInHanded {} Tryd.checked os 10 .any ((OpenSpec.ofChange Rows.sectionBackSpec).preRow enc Tryd.prog Tryd.f10 Rows.sectionBackRow.domain false Rows.sectionBackRow.laid) (((OpenSpec.ofChange Rows.sectionBackSpec).at F).post enc Tryd.prog Tryd.f10 false true false false) := by
  obtain ⟨places, hx⟩ := reads_sectionBack os enc
  refine returnsInHanded_of_row (C := Tryd.checked) (s := OpenSpec.ofChange Rows.sectionBackSpec) own started (by kernel_rfl) Tryd.func10
    (witness_row_at (enc := enc) (C := Tryd.checked) false (laidWorld os) #[.slice none 0 0] rfl (by kernel_rfl) (by kernel_rfl) (by kernel_rfl)
      (OpenSpec.preRow_of_cond 8 hx (by kernel_rfl) (fun k hk => by cases hk) (by kernel_rfl) (laid_sectionBack os))) ?_
  intro W base args ds gs before hval hW _ _ _ hL _ _
  exact contract_sectionBack H enc W base args ds gs before hval hW hL
theorem said_sectionBack : Rows.SectionBackSaid :=
  OpenClaim.holds_of_cond 10 Tryd.f10 rfl rfl rfl rfl rfl rfl rfl ⟨rfl, rfl, rfl, rfl, rfl⟩ rfl rfl rfl rfl rfl (by kernel_rfl) Tryd.func10 (by kernel_rfl)
    (of_decide_eq_true (by kernel_rfl)) (by unfold Func.isWrapper; first | (rw [if_pos (by decide +kernel)]; kernel_rfl) | (rw [if_neg (by decide +kernel)]; exact ⟨rfl, rfl⟩))
    (fun os started H enc _ F => by rw [OpenClaim.pre_eq_preRow]; exact lifted_sectionBack os started H enc F)
theorem plain_sectionBack (f : FuncId) (fn : Func) (hf : Tryd.pinned.checked.prog.funcNamed Rows.sectionBackRow.func = some f) (hfn : Tryd.pinned.checked.prog.funcs[f]? = some fn) :
    false = Tryd.pinned.checked.prog.looks [] ∧ ∀ (j : Nat) t, fn.params[j]? = some t → Tryd.pinned.checked.prog.wantsStandIn t = false := by
  obtain rfl : f = 10 := Option.some.inj ((show Tryd.prog.funcNamed Rows.sectionBackRow.func = some 10 by kernel_rfl).symm.trans hf) |>.symm
  obtain rfl : fn = Tryd.f10 := (Option.some.inj (Tryd.func10.symm.trans hfn)).symm
  refine ⟨by kernel_rfl, fun j t ht => ?_⟩
  rw [Tryd.params10] at ht
  have hm := Array.mem_of_getElem? ht
  simp only [List.mem_toArray, List.mem_cons, List.not_mem_nil, or_false] at hm
  rcases hm with rfl
  · exact (show Tryd.prog.wantsStandIn 67 = false by kernel_rfl)
theorem sectionBack_holds : Rows.SectionBackCardSaid :=
  Claim7.holds_tied_plain_at .later [] _ _ _ _ said_sectionBack (fun _ h => by cases h) (by kernel_rfl) (fun _ h => by cases h) sectionBack_row_tie rfl ⟨rfl, rfl⟩ (by kernel_rfl) rfl plain_sectionBack (by kernel_rfl)

end Go.Proofs.YtkejmhpodhbeeaaDoor
