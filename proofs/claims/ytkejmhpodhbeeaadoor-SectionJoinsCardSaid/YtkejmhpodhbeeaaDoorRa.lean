/-
  Chapter 12, the law SectionJoins: for every input the call returns true, and the arguments read as before: Join agrees with the reference for all sections.
  Condition: unicode/utf8's tables lie as its own initialisers lay them (the card says so).
-/
import Derived.Test.YtkejmhpodhbeeaaDoorQg
import Derived.Test.YtkejmhpodhbeeaaDoorQh
set_option linter.unusedVariables false
set_option linter.unusedSimpArgs false
set_option linter.unusedSectionVars false
set_option maxRecDepth 100000
set_option linter.unusedVariables false
namespace Go.Proofs.YtkejmhpodhbeeaaDoor
open Go Go.Mw
open Go.ChangeShapes Go.WideShapes Go.ChangeAt Go.RowKit

theorem p_joins (xs : List AV) (h : All2 Ty.okV [.sl tySec] xs) : ∃ ys, All2 nlc xs ys ∧ PCalls Tryd.prog 8 ys (.bool true) := by
  obtain ⟨x, rfl, h0⟩ := ok1 h
  obtain ⟨L, hL⟩ := secs_nlc h0
  exact ⟨[.sl 3 (L.map sec_)], ⟨hL, trivial⟩, w_joins s_alive12 L⟩

theorem mem_sectionJoins : ∀ t ∈ [67], Tryd.prog.readableRec t = true ∧ t < Tryd.prog.types.size := by
  intro t ht
  simp only [List.mem_cons, List.not_mem_nil, or_false] at ht
  rcases ht with rfl
  all_goals exact ⟨by kernel_rfl, of_decide_eq_true (by kernel_rfl)⟩
theorem contract_sectionJoins (H : Type) (enc : TypeId × Value → H) (W : World) (base : Nat) (args : Array Value) (ds gs : List (DataW H)) (before : List MemPlace)
    (hval : ∀ (j : Nat) t v, Tryd.f8.params[j]? = some t → args[j]? = some v → Value.okWide Tryd.prog W .any base t v)
    (hW : DataW.Whole enc Tryd.prog Tryd.f8.params.toList Rows.sectionJoinsSpec.vars false W args.toList ds gs before) (hL : laidMetH Tryd.prog Rows.sectionJoinsRow.laid W) :
    Calls Tryd.prog 8 args W fun e W' => ∃ v, e = .returned v ∧ Rows.sectionJoinsSpec.post enc Tryd.prog Tryd.f8 false true false false W args v W' := by
  refine law_contract (s := Rows.sectionJoinsSpec) (f := Tryd.f8) (tb := 4) [.sl tySec] ?_ laidOut ?_ rfl ?_ (by kernel_rfl) (by kernel_rfl) (p_joins) W base args ds gs before (tabs_of hL) hval hW
  · rw [Tryd.params8]; exact ⟨ty67, trivial⟩
  · rw [Tryd.params8]; exact mem_sectionJoins
  · intro ds h
    match ds, h with
    | [d0], _ => exact ⟨rfl, rfl, rfl⟩
theorem laid_sectionJoins (os : Os) : laidMet Tryd.prog Rows.sectionJoinsRow.laid ((laidWorld os).forCall (fun _ _ => 0) ⟨#[], #[.slice none 0 0], []⟩).memory :=
  laidMet_of_run' 8 (by kernel_rfl) (by kernel_rfl)
theorem reads_sectionJoins (os : Os) {H : Type} (enc : TypeId × Value → H) : ∃ places, DataW.whole enc Tryd.prog ((laidWorld os).forCall (fun _ _ => 0) ⟨#[], #[.slice none 0 0], []⟩).memory Tryd.f8.params.toList Rows.sectionJoinsSpec.vars false #[.slice none 0 0].toList 8 = some ([.nil], [], places) :=
  ⟨[], by kernel_rfl⟩
theorem lifted_sectionJoins (os : Os) (started : os.Started) (H : Type) (enc : TypeId × Value → H) (F : Stop.Interp) :
    ReturnsInHanded {} Tryd.checked os 8 .any ((OpenSpec.ofChange Rows.sectionJoinsSpec).preRow enc Tryd.prog Tryd.f8 Rows.sectionJoinsRow.domain false Rows.sectionJoinsRow.laid) (((OpenSpec.ofChange Rows.sectionJoinsSpec).at F).post enc Tryd.prog Tryd.f8 false true false false) := by
  obtain ⟨places, hx⟩ := reads_sectionJoins os enc
  refine returnsInHanded_of_row (C := Tryd.checked) (s := OpenSpec.ofChange Rows.sectionJoinsSpec) own started (by kernel_rfl) Tryd.func8
    (witness_row_at (enc := enc) (C := Tryd.checked) false (laidWorld os) #[.slice none 0 0] rfl (by kernel_rfl) (by kernel_rfl) (by kernel_rfl)
      (OpenSpec.preRow_of_cond 8 hx (by kernel_rfl) (fun k hk => by cases hk) (by kernel_rfl) (laid_sectionJoins os))) ?_
  intro W base args ds gs before hval hW _ _ _ hL _ _
  exact contract_sectionJoins H enc W base args ds gs before hval hW hL
theorem said_sectionJoins : Rows.SectionJoinsSaid :=
  OpenClaim.holds_of_cond 8 Tryd.f8 rfl rfl rfl rfl rfl rfl rfl ⟨rfl, rfl, rfl, rfl, rfl⟩ rfl rfl rfl rfl rfl (by kernel_rfl) Tryd.func8 (by kernel_rfl)
    (of_decide_eq_true (by kernel_rfl)) (by unfold Func.isWrapper; first | (rw [if_pos (by decide +kernel)]; kernel_rfl) | (rw [if_neg (by decide +kernel)]; exact ⟨rfl, rfl⟩))
    (fun os started H enc _ F => by rw [OpenClaim.pre_eq_preRow]; exact lifted_sectionJoins os started H enc F)
theorem plain_sectionJoins (f : FuncId) (fn : Func) (hf : Tryd.pinned.checked.prog.funcNamed Rows.sectionJoinsRow.func = some f) (hfn : Tryd.pinned.checked.prog.funcs[f]? = some fn) :
    false = Tryd.pinned.checked.prog.looks [] ∧ ∀ (j : Nat) t, fn.params[j]? = some t → Tryd.pinned.checked.prog.wantsStandIn t = false := by
  obtain rfl : f = 8 := Option.some.inj ((show Tryd.prog.funcNamed Rows.sectionJoinsRow.func = some 8 by kernel_rfl).symm.trans hf) |>.symm
  obtain rfl : fn = Tryd.f8 := (Option.some.inj (Tryd.func8.symm.trans hfn)).symm
  refine ⟨by kernel_rfl, fun j t ht => ?_⟩
  rw [Tryd.params8] at ht
  have hm := Array.mem_of_getElem? ht
  simp only [List.mem_toArray, List.mem_cons, List.not_mem_nil, or_false] at hm
  rcases hm with rfl
  · exact (show Tryd.prog.wantsStandIn 67 = false by kernel_rfl)
theorem sectionJoins_holds : Rows.SectionJoinsCardSaid :=
  Claim7.holds_tied_plain_at .later [] _ _ _ _ said_sectionJoins (fun _ h => by cases h) (by kernel_rfl) (fun _ h => by cases h) sectionJoins_row_tie rfl ⟨rfl, rfl⟩ (by kernel_rfl) rfl plain_sectionJoins (by kernel_rfl)

end Go.Proofs.YtkejmhpodhbeeaaDoor
