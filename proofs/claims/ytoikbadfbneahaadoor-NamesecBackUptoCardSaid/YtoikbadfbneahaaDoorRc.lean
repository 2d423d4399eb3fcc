/-
  Chapter 14, the law NamesecBack, the second form: for every input the call returns true, and the arguments read as before: Decode inverts Encode, Of returns what With stored, and names decoded from any bytes are valid.
  Condition: unicode/utf8's tables lie as its own initialisers lay them (the card says so); what the arguments hold is of bulk at most 1048576 (the second form).
-/
import Derived.Test.YtoikbadfbneahaaDoorQm
import Derived.Test.YtoikbadfbneahaaDoorQu
set_option linter.unusedVariables false
set_option linter.unusedSimpArgs false
set_option linter.unusedSectionVars false
set_option maxRecDepth 100000
set_option linter.unusedVariables false
namespace Go.Proofs.YtoikbadfbneahaaDoor
open Go Go.Mw
open Go.ChangeShapes Go.WideShapes Go.ChangeAt Go.RowKit

theorem p_back14 (xs : List AV) (h : All2 Ty.okV [tyMod, tyNs, .sl (.int .u8)] xs) (hb : All2 (Ty.bdV 1048576) [tyMod, tyNs, .sl (.int .u8)] xs) : PCalls Tryd.prog 4 xs (.bool true) := by
  obtain ⟨x, y, z, rfl, h0, h1, h2⟩ := ok_3 h
  obtain ⟨m, hm, _, bm⟩ := recV el_Mod rfl h0
  obtain ⟨n, hn, _, bn⟩ := recV el_Ns rfl h1
  obtain ⟨l, hl, _, bl⟩ := bytesV h2
  exact PCalls_nld (w_back14 m n l (bm _ hb.1) (bn _ hb.2.1)) ⟨hm, hn, hl, trivial⟩

theorem mem_namesecBack : ∀ t ∈ [42, 25, 43], Tryd.prog.readableRec t = true ∧ t < Tryd.prog.types.size := by
  intro t ht
  simp only [List.mem_cons, List.not_mem_nil, or_false] at ht
  rcases ht with rfl | rfl | rfl
  all_goals exact ⟨by kernel_rfl, of_decide_eq_true (by kernel_rfl)⟩
theorem contract_namesecBack (H : Type) (enc : TypeId × Value → H) (W : World) (base : Nat) (args : Array Value) (ds gs : List (DataW H)) (before : List MemPlace)
    (hval : ∀ (j : Nat) t v, Tryd.f4.params[j]? = some t → args[j]? = some v → Value.okWide Tryd.prog W .any base t v)
    (hW : DataW.Whole enc Tryd.prog Tryd.f4.params.toList Rows.namesecBackSpec.vars false W args.toList ds gs before) (hL : laidMetH Tryd.prog Rows.namesecBackUptoRow.laid W) (hk : Rows.uptoSmall H (ds ++ gs) = true) :
    Calls Tryd.prog 4 args W fun e W' => ∃ v, e = .returned v ∧ Rows.namesecBackSpec.post enc Tryd.prog Tryd.f4 false true false false W args v W' := by
  refine law_contractB (bk14 H) (B := 1048576) (s := Rows.namesecBackSpec) (f := Tryd.f4) (tb := 4) [tyMod, tyNs, .sl (.int .u8)] ?_ laidOut ?_ rfl ?_ (by kernel_rfl) (by kernel_rfl) (p_back14) W base args ds gs before (tabs_of hL) hval hW (fun d hd => bk_small hk d (List.mem_append_left _ hd))
  · rw [Tryd.params4]; exact ⟨tyM42, tyM25, tyM43, trivial⟩
  · rw [Tryd.params4]; exact mem_namesecBack
  · intro ds h
    match ds, h with
    | [d0, d1, d2], _ => exact ⟨rfl, rfl, rfl⟩
theorem laid_namesecBack (os : Os) : laidMet Tryd.prog Rows.namesecBackUptoRow.laid ((laidWorld os).forCall (fun _ _ => 0) ⟨#[], #[.agg #[.slice none 0 0, .slice none 0 0, .slice none 0 0, .slice none 0 0, .slice none 0 0, .slice none 0 0, .slice none 0 0, .bool false, .int .i64 0, .slice none 0 0, .slice none 0 0, .slice none 0 0], .agg #[.string ⟨#[]⟩, .slice none 0 0, .slice none 0 0], .slice none 0 0], []⟩).memory :=
  laidMet_of_run' 8 (by kernel_rfl) (by kernel_rfl)
theorem reads_namesecBack (os : Os) {H : Type} (enc : TypeId × Value → H) : ∃ places, DataW.whole enc Tryd.prog ((laidWorld os).forCall (fun _ _ => 0) ⟨#[], #[.agg #[.slice none 0 0, .slice none 0 0, .slice none 0 0, .slice none 0 0, .slice none 0 0, .slice none 0 0, .slice none 0 0, .bool false, .int .i64 0, .slice none 0 0, .slice none 0 0, .slice none 0 0], .agg #[.string ⟨#[]⟩, .slice none 0 0, .slice none 0 0], .slice none 0 0], []⟩).memory Tryd.f4.params.toList Rows.namesecBackSpec.vars false #[.agg #[.slice none 0 0, .slice none 0 0, .slice none 0 0, .slice none 0 0, .slice none 0 0, .slice none 0 0, .slice none 0 0, .bool false, .int .i64 0, .slice none 0 0, .slice none 0 0, .slice none 0 0], .agg #[.string ⟨#[]⟩, .slice none 0 0, .slice none 0 0], .slice none 0 0].toList 8 = some ([.agg [.nil, .nil, .nil, .nil, .nil, .nil, .nil, .lit (.bool false), .lit (.int .i64 0), .nil, .nil, .nil], .agg [.lit (.string []), .nil, .nil], .nil], [], places) :=
  ⟨[], by kernel_rfl⟩
theorem lifted_namesecBack (os : Os) (started : os.Started) (H : Type) (enc : TypeId × Value → H) (F : Stop.Interp) :
    ReturnsInHanded {} Tryd.checked os 4 .any ((Rows.OpenSpec.upto Rows.namesecBackSpec).preRow enc Tryd.prog Tryd.f4 Rows.namesecBackUptoRow.domain false Rows.namesecBackUptoRow.laid) (((Rows.OpenSpec.upto Rows.namesecBackSpec).at F).post enc Tryd.prog Tryd.f4 false true false false) := by
  obtain ⟨places, hx⟩ := reads_namesecBack os enc
  refine returnsInHanded_of_row (C := Tryd.checked) (s := Rows.OpenSpec.upto Rows.namesecBackSpec) own started (by kernel_rfl) Tryd.func4
    (witness_row_at (enc := enc) (C := Tryd.checked) false (laidWorld os) #[.agg #[.slice none 0 0, .slice none 0 0, .slice none 0 0, .slice none 0 0, .slice none 0 0, .slice none 0 0, .slice none 0 0, .bool false, .int .i64 0, .slice none 0 0, .slice none 0 0, .slice none 0 0], .agg #[.string ⟨#[]⟩, .slice none 0 0, .slice none 0 0], .slice none 0 0] rfl (by kernel_rfl) (by kernel_rfl) (by kernel_rfl)
      (OpenSpec.preRow_of_cond 8 hx (by kernel_rfl) (fun k hk => by cases hk; kernel_rfl) (by kernel_rfl) (laid_namesecBack os))) ?_
  intro W base args ds gs before hval hW _ hcond _ hL _ _
  exact contract_namesecBack H enc W base args ds gs before hval hW hL (hcond _ rfl)
theorem said_namesecBack : Rows.NamesecBackUptoSaid :=
  OpenClaim.holds_of_cond 4 Tryd.f4 rfl rfl rfl rfl rfl rfl rfl ⟨rfl, rfl, rfl, rfl, rfl⟩ rfl rfl rfl rfl rfl (by kernel_rfl) Tryd.func4 (by kernel_rfl)
    (of_decide_eq_true (by kernel_rfl)) (by unfold Func.isWrapper; first | (rw [if_pos (by decide +kernel)]; kernel_rfl) | (rw [if_neg (by decide +kernel)]; exact ⟨rfl, rfl⟩))
    (fun os started H enc _ F => by rw [OpenClaim.pre_eq_preRow]; exact lifted_namesecBack os started H enc F)
theorem plain_namesecBack (f : FuncId) (fn : Func) (hf : Tryd.pinned.checked.prog.funcNamed Rows.namesecBackUptoRow.func = some f) (hfn : Tryd.pinned.checked.prog.funcs[f]? = some fn) :
    false = Tryd.pinned.checked.prog.looks [] ∧ ∀ (j : Nat) t, fn.params[j]? = some t → Tryd.pinned.checked.prog.wantsStandIn t = false := by
  obtain rfl : f = 4 := Option.some.inj ((show Tryd.prog.funcNamed Rows.namesecBackUptoRow.func = some 4 by kernel_rfl).symm.trans hf) |>.symm
  obtain rfl : fn = Tryd.f4 := (Option.some.inj (Tryd.func4.symm.trans hfn)).symm
  refine ⟨by kernel_rfl, fun j t ht => ?_⟩
  rw [Tryd.params4] at ht
  have hm := Array.mem_of_getElem? ht
  simp only [List.mem_toArray, List.mem_cons, List.not_mem_nil, or_false] at hm
  rcases hm with rfl | rfl | rfl
  · exact (show Tryd.prog.wantsStandIn 42 = false by kernel_rfl)
  · exact (show Tryd.prog.wantsStandIn 25 = false by kernel_rfl)
  · exact (show Tryd.prog.wantsStandIn 43 = false by kernel_rfl)
theorem namesecBackUpto_holds : Rows.NamesecBackUptoCardSaid :=
  Claim7.holds_tied_plain_at .later [] _ _ _ _ said_namesecBack (fun _ h => by cases h) (by kernel_rfl) (fun _ h => by cases h) namesecBackUpto_row_tie rfl ⟨rfl, rfl⟩ (by kernel_rfl) rfl plain_namesecBack (by kernel_rfl)

end Go.Proofs.YtoikbadfbneahaaDoor
