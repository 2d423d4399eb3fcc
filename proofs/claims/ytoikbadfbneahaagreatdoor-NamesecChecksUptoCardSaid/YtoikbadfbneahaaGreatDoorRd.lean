/-
  Chapter 14, the law NamesecChecks, the second form: for every input the call returns true, and the arguments read as before: Check and Encode return the specified results for any names.
  Condition: unicode/utf8's tables lie as its own initialisers lay them (the card says so); what the arguments hold is of bulk at most 1048576 (the second form).
-/
import Derived.Test.YtoikbadfbneahaaGreatDoorQm
import Derived.Test.YtoikbadfbneahaaGreatDoorQr
set_option linter.unusedVariables false
set_option linter.unusedSimpArgs false
set_option linter.unusedSectionVars false
set_option maxRecDepth 100000
set_option linter.unusedVariables false
namespace Go.Proofs.YtoikbadfbneahaaGreatDoor
open Go Go.Mw
open Go.ChangeShapes Go.WideShapes Go.ChangeAt Go.RowKit

theorem p_checks14 (xs : List AV) (h : All2 Ty.okV [tyNs] xs) (hb : All2 (Ty.bdV 1048576) [tyNs] xs) : PCalls Tryz.prog 3 xs (.bool true) := by
  obtain ⟨x, rfl, h0⟩ := ok_1 h
  obtain ⟨n, hn, _, bn⟩ := recV el_Ns rfl h0
  exact PCalls_nld (w_checks14 n (bn _ hb.1)) ⟨hn, trivial⟩

theorem mem_namesecChecks : ∀ t ∈ [25], Tryz.prog.readableRec t = true ∧ t < Tryz.prog.types.size := by
  intro t ht
  simp only [List.mem_cons, List.not_mem_nil, or_false] at ht
  rcases ht with rfl
  all_goals exact ⟨by kernel_rfl, of_decide_eq_true (by kernel_rfl)⟩
theorem contract_namesecChecks (H : Type) (enc : TypeId × Value → H) (W : World) (base : Nat) (args : Array Value) (ds gs : List (DataW H)) (before : List MemPlace)
    (hval : ∀ (j : Nat) t v, Tryz.f3.params[j]? = some t → args[j]? = some v → Value.okWide Tryz.prog W .any base t v)
    (hW : DataW.Whole enc Tryz.prog Tryz.f3.params.toList Rows.namesecChecksSpec.vars false W args.toList ds gs before) (hL : laidMetH Tryz.prog Rows.namesecChecksUptoRow.laid W) (hk : Rows.uptoSmall H (ds ++ gs) = true) :
    Calls Tryz.prog 3 args W fun e W' => ∃ v, e = .returned v ∧ Rows.namesecChecksSpec.post enc Tryz.prog Tryz.f3 false true false false W args v W' := by
  refine law_contractB (bk14 H) (B := 1048576) (s := Rows.namesecChecksSpec) (f := Tryz.f3) (tb := 4) [tyNs] ?_ laidOut ?_ rfl ?_ (by kernel_rfl) (by kernel_rfl) (p_checks14) W base args ds gs before (tabs_of hL) hval hW (fun d hd => bk_small hk d (List.mem_append_left _ hd))
  · rw [Tryz.params3]; exact ⟨tyM25, trivial⟩
  · rw [Tryz.params3]; exact mem_namesecChecks
  · intro ds h
    match ds, h with
    | [d0], _ => exact ⟨rfl, rfl, rfl⟩
theorem laid_namesecChecks (os : Os) : laidMet Tryz.prog Rows.namesecChecksUptoRow.laid ((laidWorld os).forCall (fun _ _ => 0) ⟨#[], #[.agg #[.string ⟨#[]⟩, .slice none 0 0, .slice none 0 0]], []⟩).memory :=
  laidMet_of_run' 8 (by kernel_rfl) (by kernel_rfl)
theorem reads_namesecChecks (os : Os) {H : Type} (enc : TypeId × Value → H) : ∃ places, DataW.whole enc Tryz.prog ((laidWorld os).forCall (fun _ _ => 0) ⟨#[], #[.agg #[.string ⟨#[]⟩, .slice none 0 0, .slice none 0 0]], []⟩).memory Tryz.f3.params.toList Rows.namesecChecksSpec.vars false #[.agg #[.string ⟨#[]⟩, .slice none 0 0, .slice none 0 0]].toList 8 = some ([.agg [.lit (.string []), .nil, .nil]], [], places) :=
  ⟨[], by kernel_rfl⟩
theorem lifted_namesecChecks (os : Os) (started : os.Started) (H : Type) (enc : TypeId × Value → H) (F : Stop.Interp) :
    ReturnsInHanded {} Tryz.checked os 3 .any ((Rows.OpenSpec.upto Rows.namesecChecksSpec).preRow enc Tryz.prog Tryz.f3 Rows.namesecChecksUptoRow.domain false Rows.namesecChecksUptoRow.laid) (((Rows.OpenSpec.upto Rows.namesecChecksSpec).at F).post enc Tryz.prog Tryz.f3 false true false false) := by
  obtain ⟨places, hx⟩ := reads_namesecChecks os enc
  refine returnsInHanded_of_row (C := Tryz.checked) (s := Rows.OpenSpec.upto Rows.namesecChecksSpec) own started (by kernel_rfl) Tryz.func3
    (witness_row_at (enc := enc) (C := Tryz.checked) false (laidWorld os) #[.agg #[.string ⟨#[]⟩, .slice none 0 0, .slice none 0 0]] rfl (by kernel_rfl) (by kernel_rfl) (by kernel_rfl)
      (OpenSpec.preRow_of_cond 8 hx (by kernel_rfl) (fun k hk => by cases hk; kernel_rfl) (by kernel_rfl) (laid_namesecChecks os))) ?_
  intro W base args ds gs before hval hW _ hcond _ hL _ _
  exact contract_namesecChecks H enc W base args ds gs before hval hW hL (hcond _ rfl)
theorem said_namesecChecks : Rows.NamesecChecksUptoSaid :=
  OpenClaim.holds_of_cond 3 Tryz.f3 rfl rfl rfl rfl rfl rfl rfl ⟨rfl, rfl, rfl, rfl, rfl⟩ rfl rfl rfl rfl rfl (by kernel_rfl) Tryz.func3 (by kernel_rfl)
    (of_decide_eq_true (by kernel_rfl)) (by unfold Func.isWrapper; first | (rw [if_pos (by decide +kernel)]; kernel_rfl) | (rw [if_neg (by decide +kernel)]; exact ⟨rfl, rfl⟩))
    (fun os started H enc _ F => by rw [OpenClaim.pre_eq_preRow]; exact lifted_namesecChecks os started H enc F)
theorem plain_namesecChecks (f : FuncId) (fn : Func) (hf : Tryz.pinned.checked.prog.funcNamed Rows.namesecChecksUptoRow.func = some f) (hfn : Tryz.pinned.checked.prog.funcs[f]? = some fn) :
    false = Tryz.pinned.checked.prog.looks [] ∧ ∀ (j : Nat) t, fn.params[j]? = some t → Tryz.pinned.checked.prog.wantsStandIn t = false := by
  obtain rfl : f = 3 := Option.some.inj ((show Tryz.prog.funcNamed Rows.namesecChecksUptoRow.func = some 3 by kernel_rfl).symm.trans hf) |>.symm
  obtain rfl : fn = Tryz.f3 := (Option.some.inj (Tryz.func3.symm.trans hfn)).symm
  refine ⟨by kernel_rfl, fun j t ht => ?_⟩
  rw [Tryz.params3] at ht
  have hm := Array.mem_of_getElem? ht
  simp only [List.mem_toArray, List.mem_cons, List.not_mem_nil, or_false] at hm
  rcases hm with rfl
  · exact (show Tryz.prog.wantsStandIn 25 = false by kernel_rfl)
theorem namesecChecksUpto_holds : Rows.NamesecChecksUptoCardSaid :=
  Claim7.holds_tied_plain_at .later [] _ _ _ _ said_namesecChecks (fun _ h => by cases h) (by kernel_rfl) (fun _ h => by cases h) namesecChecksUpto_row_tie rfl ⟨rfl, rfl⟩ (by kernel_rfl) rfl plain_namesecChecks (by kernel_rfl)

end Go.Proofs.YtoikbadfbneahaaGreatDoor
