/-
  Chapter 2, the law OctetFaults: for every input the call returns true, and the arguments read as before: the first error is kept, later calls read or write nothing, and a call that fails consumes nothing.
  Condition: unicode/utf8's tables lie as its own initialisers lay them (the card says so).
-/
import Derived.Test.YtkejmhpodhbeeaaDoorQg
set_option linter.unusedVariables false
set_option linter.unusedSimpArgs false
set_option linter.unusedSectionVars false
set_option maxRecDepth 100000
set_option linter.unusedVariables false
namespace Go.Proofs.YtkejmhpodhbeeaaDoor
open Go Go.Mw
open Go.ChangeShapes Go.WideShapes Go.ChangeAt Go.RowKit

theorem p_faults (xs : List AV) (h : All2 Ty.okV [.sl (.int .u8), .sl tyAct, .sl tyAct, .sl tyFld] xs) : ∃ ys, All2 nlc xs ys ∧ PCalls Tryd.prog 12 ys (.bool true) := by
  obtain ⟨x, y, z, u, rfl, h0, h1, h2, h3⟩ := ok4 h
  obtain ⟨B, hB⟩ := bytes_nlc h0
  obtain ⟨L, hL, hp⟩ := acts_nlc h1
  obtain ⟨M, hM, hp2⟩ := acts_nlc h2
  obtain ⟨F, hF, hp3⟩ := flds_nlc h3
  exact ⟨[.sl 1 (B.map by_), .sl 2 (L.map act_), .sl 2 (M.map act_), .sl 4 (F.map fld_)], ⟨hB, hL, hM, hF, trivial⟩, w_faults B L M F hp hp2 fun f hf => (hp3 f hf).1⟩

theorem mem_octetFaults : ∀ t ∈ [22, 59, 59, 31], Tryd.prog.readableRec t = true ∧ t < Tryd.prog.types.size := by
  intro t ht
  simp only [List.mem_cons, List.not_mem_nil, or_false] at ht
  rcases ht with rfl | rfl | rfl | rfl
  all_goals exact ⟨by kernel_rfl, of_decide_eq_true (by kernel_rfl)⟩
theorem contract_octetFaults (H : Type) (enc : TypeId × Value → H) (W : World) (base : Nat) (args : Array Value) (ds gs : List (DataW H)) (before : List MemPlace)
    (hval : ∀ (j : Nat) t v, Tryd.f12.params[j]? = some t → args[j]? = some v → Value.okWide Tryd.prog W .any base t v)
    (hW : DataW.Whole enc Tryd.prog Tryd.f12.params.toList Rows.octetFaultsSpec.vars false W args.toList ds gs before) (hL : laidMetH Tryd.prog Rows.octetFaultsRow.laid W) :
    Calls Tryd.prog 12 args W fun e W' => ∃ v, e = .returned v ∧ Rows.octetFaultsSpec.post enc Tryd.prog Tryd.f12 false true false false W args v W' := by
  refine law_contract (s := Rows.octetFaultsSpec) (f := Tryd.f12) (tb := 4) [.sl (.int .u8), .sl tyAct, .sl tyAct, .sl tyFld] ?_ laidOut ?_ rfl ?_ (by kernel_rfl) (by kernel_rfl) (p_faults) W base args ds gs before (tabs_of hL) hval hW
  · rw [Tryd.params12]; exact ⟨ty22, ty59, ty59, ty31, trivial⟩
  · rw [Tryd.params12]; exact mem_octetFaults
  · intro ds h
    match ds, h with
    | [d0, d1, d2, d3], _ => exact ⟨rfl, rfl, rfl⟩
theorem laid_octetFaults (os : Os) : laidMet Tryd.prog Rows.octetFaultsRow.laid ((laidWorld os).forCall (fun _ _ => 0) ⟨#[], #[.slice none 0 0, .slice none 0 0, .slice none 0 0, .slice none 0 0], []⟩).memory :=
  laidMet_of_run' 8 (by kernel_rfl) (by kernel_rfl)
theorem reads_octetFaults (os : Os) {H : Type} (enc : TypeId × Value → H) : ∃ places, DataW.whole enc Tryd.prog ((laidWorld os).forCall (fun _ _ => 0) ⟨#[], #[.slice none 0 0, .slice none 0 0, .slice none 0 0, .slice none 0 0], []⟩).memory Tryd.f12.params.toList Rows.octetFaultsSpec.vars false #[.slice none 0 0, .slice none 0 0, .slice none 0 0, .slice none 0 0].toList 8 = some ([.nil, .nil, .nil, .nil], [], places) :=
  ⟨[], by kernel_rfl⟩
theorem lifted_octetFaults (os : Os) (started : os.Started) (H : Type) (enc : TypeId × Value → H) (F : Stop.Interp) :
    ReturnsInHanded {} Tryd.checked os 12 .any ((OpenSpec.ofChange Rows.octetFaultsSpec).preRow enc Tryd.prog Tryd.f12 Rows.octetFaultsRow.domain false Rows.octetFaultsRow.laid) (((OpenSpec.ofChange Rows.octetFaultsSpec).at F).post enc Tryd.prog Tryd.f12 false true false false) := by
  obtain ⟨places, hx⟩ := reads_octetFaults os enc
  refine returnsInHanded_of_row (C := Tryd.checked) (s := OpenSpec.ofChange Rows.octetFaultsSpec) own started (by kernel_rfl) Tryd.func12
    (witness_row_at (enc := enc) (C := Tryd.checked) false (laidWorld os) #[.slice none 0 0, .slice none 0 0, .slice none 0 0, .slice none 0 0] rfl (by kernel_rfl) (by kernel_rfl) (by kernel_rfl)
      (OpenSpec.preRow_of_cond 8 hx (by kernel_rfl) (fun k hk => by cases hk) (by kernel_rfl) (laid_octetFaults os))) ?_
  intro W base args ds gs before hval hW _ _ _ hL _ _
  exact contract_octetFaults H enc W base args ds gs before hval hW hL
theorem said_octetFaults : Rows.OctetFaultsSaid :=
  OpenClaim.holds_of_cond 12 Tryd.f12 rfl rfl rfl rfl rfl rfl rfl ⟨rfl, rfl, rfl, rfl, rfl⟩ rfl rfl rfl rfl rfl (by kernel_rfl) Tryd.func12 (by kernel_rfl)
    (of_decide_eq_true (by kernel_rfl)) (by unfold Func.isWrapper; first | (rw [if_pos (by decide +kernel)]; kernel_rfl) | (rw [if_neg (by decide +kernel)]; exact ⟨rfl, rfl⟩))
    (fun os started H enc _ F => by rw [OpenClaim.pre_eq_preRow]; exact lifted_octetFaults os started H enc F)
theorem plain_octetFaults (f : FuncId) (fn : Func) (hf : Tryd.pinned.checked.prog.funcNamed Rows.octetFaultsRow.func = some f) (hfn : Tryd.pinned.checked.prog.funcs[f]? = some fn) :
    false = Tryd.pinned.checked.prog.looks [] ∧ ∀ (j : Nat) t, fn.params[j]? = some t → Tryd.pinned.checked.prog.wantsStandIn t = false := by
  obtain rfl : f = 12 := Option.some.inj ((show Tryd.prog.funcNamed Rows.octetFaultsRow.func = some 12 by kernel_rfl).symm.trans hf) |>.symm
  obtain rfl : fn = Tryd.f12 := (Option.some.inj (Tryd.func12.symm.trans hfn)).symm
  refine ⟨by kernel_rfl, fun j t ht => ?_⟩
  rw [Tryd.params12] at ht
  have hm := Array.mem_of_getElem? ht
  simp only [List.mem_toArray, List.mem_cons, List.not_mem_nil, or_false] at hm
  rcases hm with rfl | rfl | rfl | rfl
  · exact (show Tryd.prog.wantsStandIn 22 = false by kernel_rfl)
  · exact (show Tryd.prog.wantsStandIn 59 = false by kernel_rfl)
  · exact (show Tryd.prog.wantsStandIn 59 = false by kernel_rfl)
  · exact (show Tryd.prog.wantsStandIn 31 = false by kernel_rfl)
theorem octetFaults_holds : Rows.OctetFaultsCardSaid :=
  Claim7.holds_tied_plain_at .later [] _ _ _ _ said_octetFaults (fun _ h => by cases h) (by kernel_rfl) (fun _ h => by cases h) octetFaults_row_tie rfl ⟨rfl, rfl⟩ (by kernel_rfl) rfl plain_octetFaults (by kernel_rfl)

end Go.Proofs.YtkejmhpodhbeeaaDoor
