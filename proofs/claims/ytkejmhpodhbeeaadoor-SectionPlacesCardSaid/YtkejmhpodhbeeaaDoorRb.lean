/-
  Chapter 12, the law SectionPlaces: for every input the call returns true, and the arguments read as before: Place and At agree with the reference and are inverse to each other.
  Condition: unicode/utf8's tables lie as its own initialisers lay them (the card says so).
-/
import Derived.Test.YtkejmhpodhbeeaaDoorQg
import Derived.Test.YtkejmhpodhbeeaaDoorQh
set_option linter.unusedVariables false
set_option linter.unusedSimpArgs false
set_option linter.unusedSectionVars false
set_option maxRecDepth 100000
set_option linter.unusedVariables false
namespace Go.Proofs.YtkejmhpodhbeeaaDoor
open Go Go.Mw
open Go.ChangeShapes Go.WideShapes Go.ChangeAt Go.RowKit

theorem p_places (xs : List AV) (h : All2 Ty.okV [.int .i64, .int .i64] xs) : ∃ ys, All2 nlc xs ys ∧ PCalls Tryd.prog 9 ys (.bool true) := by
  obtain ⟨x, y, rfl, ⟨a, ha, _⟩, ⟨b, hb, _⟩⟩ := ok2 h
  simp only [List.cons.injEq, and_true] at ha hb
  subst ha
  subst hb
  exact ⟨[.int .i64 a, .int .i64 b], ⟨.inl rfl, .inl rfl, trivial⟩, w_places s_alive12 a b⟩

theorem mem_sectionPlaces : ∀ t ∈ [3, 3], Tryd.prog.readableRec t = true ∧ t < Tryd.prog.types.size := by
  intro t ht
  simp only [List.mem_cons, List.not_mem_nil, or_false] at ht
  rcases ht with rfl | rfl
  all_goals exact ⟨by kernel_rfl, of_decide_eq_true (by kernel_rfl)⟩
theorem contract_sectionPlaces (H : Type) (enc : TypeId × Value → H) (W : World) (base : Nat) (args : Array Value) (ds gs : List (DataW H)) (before : List MemPlace)
    (hval : ∀ (j : Nat) t v, Tryd.f9.params[j]? = some t → args[j]? = some v → Value.okWide Tryd.prog W .any base t v)
    (hW : DataW.Whole enc Tryd.prog Tryd.f9.params.toList Rows.sectionPlacesSpec.vars false W args.toList ds gs before) (hL : laidMetH Tryd.prog Rows.sectionPlacesRow.laid W) :
    Calls Tryd.prog 9 args W fun e W' => ∃ v, e = .returned v ∧ Rows.sectionPlacesSpec.post enc Tryd.prog Tryd.f9 false true false false W args v W' := by
  refine law_contract (s := Rows.sectionPlacesSpec) (f := Tryd.f9) (tb := 4) [.int .i64, .int .i64] ?_ laidOut ?_ rfl ?_ (by kernel_rfl) (by kernel_rfl) (p_places) W base args ds gs before (tabs_of hL) hval hW
  · rw [Tryd.params9]; exact ⟨ty3, ty3, trivial⟩
  · rw [Tryd.params9]; exact mem_sectionPlaces
  · intro ds h
    match ds, h with
    | [d0, d1], _ => exact ⟨rfl, rfl, rfl⟩
theorem laid_sectionPlaces (os : Os) : laidMet Tryd.prog Rows.sectionPlacesRow.laid ((laidWorld os).forCall (fun _ _ => 0) ⟨#[], #[.int .i64 0, .int .i64 0], []⟩).memory :=
  laidMet_of_run' 8 (by kernel_rfl) (by kernel_rfl)
theorem reads_sectionPlaces (os : Os) {H : Type} (enc : TypeId × Value → H) : ∃ places, DataW.whole enc Tryd.prog ((laidWorld os).forCall (fun _ _ => 0) ⟨#[], #[.int .i64 0, .int .i64 0], []⟩).memory Tryd.f9.params.toList Rows.sectionPlacesSpec.vars false #[.int .i64 0, .int .i64 0].toList 8 = some ([.lit (.int .i64 0), .lit (.int .i64 0)], [], places) :=
  ⟨[], by kernel_rfl⟩
theorem lifted_sectionPlaces (os : Os) (started : os.Started) (H : Type) (enc : TypeId × Value → H) (F : Stop.Interp) :
    ReturnsInHanded {} Tryd.checked os 9 .any ((OpenSpec.ofChange Rows.sectionPlacesSpec).preRow enc Tryd.prog Tryd.f9 Rows.sectionPlacesRow.domain false Rows.sectionPlacesRow.laid) (((OpenSpec.ofChange Rows.sectionPlacesSpec).at F).post enc Tryd.prog Tryd.f9 false true false false) := by
  obtain ⟨places, hx⟩ := reads_sectionPlaces os enc
  refine returnsInHanded_of_row (C := Tryd.checked) (s := OpenSpec.ofChange Rows.sectionPlacesSpec) own started (by kernel_rfl) Tryd.func9
    (witness_row_at (enc := enc) (C := Tryd.checked) false (laidWorld os) #[.int .i64 0, .int .i64 0] rfl (by kernel_rfl) (by kernel_rfl) (by kernel_rfl)
      (OpenSpec.preRow_of_cond 8 hx (by kernel_rfl) (fun k hk => by cases hk) (by kernel_rfl) (laid_sectionPlaces os))) ?_
  intro W base args ds gs before hval hW _ _ _ hL _ _
  exact contract_sectionPlaces H enc W base args ds gs before hval hW hL
theorem said_sectionPlaces : Rows.SectionPlacesSaid :=
  OpenClaim.holds_of_cond 9 Tryd.f9 rfl rfl rfl rfl rfl rfl rfl ⟨rfl, rfl, rfl, rfl, rfl⟩ rfl rfl rfl rfl rfl (by kernel_rfl) Tryd.func9 (by kernel_rfl)
    (of_decide_eq_true (by kernel_rfl)) (by unfold Func.isWrapper; first | (rw [if_pos (by decide +kernel)]; kernel_rfl) | (rw [if_neg (by decide +kernel)]; exact ⟨rfl, rfl⟩))
    (fun os started H enc _ F => by rw [OpenClaim.pre_eq_preRow]; exact lifted_sectionPlaces os started H enc F)
theorem plain_sectionPlaces (f : FuncId) (fn : Func) (hf : Tryd.pinned.checked.prog.funcNamed Rows.sectionPlacesRow.func = some f) (hfn : Tryd.pinned.checked.prog.funcs[f]? = some fn) :
    false = Tryd.pinned.checked.prog.looks [] ∧ ∀ (j : Nat) t, fn.params[j]? = some t → Tryd.pinned.checked.prog.wantsStandIn t = false := by
  obtain rfl : f = 9 := Option.some.inj ((show Tryd.prog.funcNamed Rows.sectionPlacesRow.func = some 9 by kernel_rfl).symm.trans hf) |>.symm
  obtain rfl : fn = Tryd.f9 := (Option.some.inj (Tryd.func9.symm.trans hfn)).symm
  refine ⟨by kernel_rfl, fun j t ht => ?_⟩
  rw [Tryd.params9] at ht
  have hm := Array.mem_of_getElem? ht
  simp only [List.mem_toArray, List.mem_cons, List.not_mem_nil, or_false] at hm
  rcases hm with rfl | rfl
  · exact (show Tryd.prog.wantsStandIn 3 = false by kernel_rfl)
  · exact (show Tryd.prog.wantsStandIn 3 = false by kernel_rfl)
theorem sectionPlaces_holds : Rows.SectionPlacesCardSaid :=
  Claim7.holds_tied_plain_at .later [] _ _ _ _ said_sectionPlaces (fun _ h => by cases h) (by kernel_rfl) (fun _ h => by cases h) sectionPlaces_row_tie rfl ⟨rfl, rfl⟩ (by kernel_rfl) rfl plain_sectionPlaces (by kernel_rfl)

end Go.Proofs.YtkejmhpodhbeeaaDoor
