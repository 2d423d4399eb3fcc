/-
  Chapter 14, the law NamesecFinds: for every input the call returns true, and the arguments read as before: Func and Local return the specified names for any indices.
  Condition: unicode/utf8's tables lie as its own initialisers lay them (the card says so).
-/
import Derived.Test.YtoikbadfbneahaaDoorQm
import Derived.Test.YtoikbadfbneahaaDoorQr
set_option linter.unusedVariables false
set_option linter.unusedSimpArgs false
set_option linter.unusedSectionVars false
set_option maxRecDepth 100000
set_option linter.unusedVariables false
namespace Go.Proofs.YtoikbadfbneahaaDoor
open Go Go.Mw
open Go.ChangeShapes Go.WideShapes Go.ChangeAt Go.RowKit

theorem p_finds14 (xs : List AV) (h : All2 Ty.okV [tyNs, .int .i64, .int .i64] xs) : ∃ ys, All2 nlc xs ys ∧ PCalls Tryd.prog 3 ys (.bool true) := by
  obtain ⟨x, y, z, rfl, h0, h1, h2⟩ := ok_3 h
  obtain ⟨n, hn, hm, _⟩ := recV el_Ns rfl h0
  obtain ⟨f, rfl, _⟩ := intV h1
  obtain ⟨i, rfl, _⟩ := intV h2
  exact ⟨[x, .int .i64 f, .int .i64 i], ⟨.inl rfl, .inl rfl, .inl rfl, trivial⟩, PCalls_nld (w_finds14 n ⟨Nat.le_trans hm.2.1.1 maxLen_le, Nat.le_trans hm.2.2.1 maxLen_le, fun x hx => Nat.le_trans (hm.2.2.2 x hx).1 maxLen_le⟩ f i) ⟨hn, .inl (.rfl _), .inl (.rfl _), trivial⟩⟩

theorem mem_namesecFinds : ∀ t ∈ [25, 3, 3], Tryd.prog.readableRec t = true ∧ t < Tryd.prog.types.size := by
  intro t ht
  simp only [List.mem_cons, List.not_mem_nil, or_false] at ht
  rcases ht with rfl | rfl | rfl
  all_goals exact ⟨by kernel_rfl, of_decide_eq_true (by kernel_rfl)⟩
theorem contract_namesecFinds (H : Type) (enc : TypeId × Value → H) (W : World) (base : Nat) (args : Array Value) (ds gs : List (DataW H)) (before : List MemPlace)
    (hval : ∀ (j : Nat) t v, Tryd.f3.params[j]? = some t → args[j]? = some v → Value.okWide Tryd.prog W .any base t v)
    (hW : DataW.Whole enc Tryd.prog Tryd.f3.params.toList Rows.namesecFindsSpec.vars false W args.toList ds gs before) (hL : laidMetH Tryd.prog Rows.namesecFindsRow.laid W) :
    Calls Tryd.prog 3 args W fun e W' => ∃ v, e = .returned v ∧ Rows.namesecFindsSpec.post enc Tryd.prog Tryd.f3 false true false false W args v W' := by
  refine law_contract (s := Rows.namesecFindsSpec) (f := Tryd.f3) (tb := 4) [tyNs, .int .i64, .int .i64] ?_ laidOut ?_ rfl ?_ (by kernel_rfl) (by kernel_rfl) (p_finds14) W base args ds gs before (tabs_of hL) hval hW
  · rw [Tryd.params3]; exact ⟨tyM25, tyM3, tyM3, trivial⟩
  · rw [Tryd.params3]; exact mem_namesecFinds
  · intro ds h
    match ds, h with
    | [d0, d1, d2], _ => exact ⟨rfl, rfl, rfl⟩
theorem laid_namesecFinds (os : Os) : laidMet Tryd.prog Rows.namesecFindsRow.laid ((laidWorld os).forCall (fun _ _ => 0) ⟨#[], #[.agg #[.string ⟨#[]⟩, .slice none 0 0, .slice none 0 0], .int .i64 0, .int .i64 0], []⟩).memory :=
  laidMet_of_run' 8 (by kernel_rfl) (by kernel_rfl)
theorem reads_namesecFinds (os : Os) {H : Type} (enc : TypeId × Value → H) : ∃ places, DataW.whole enc Tryd.prog ((laidWorld os).forCall (fun _ _ => 0) ⟨#[], #[.agg #[.string ⟨#[]⟩, .slice none 0 0, .slice none 0 0], .int .i64 0, .int .i64 0], []⟩).memory Tryd.f3.params.toList Rows.namesecFindsSpec.vars false #[.agg #[.string ⟨#[]⟩, .slice none 0 0, .slice none 0 0], .int .i64 0, .int .i64 0].toList 8 = some ([.agg [.lit (.string []), .nil, .nil], .lit (.int .i64 0), .lit (.int .i64 0)], [], places) :=
  ⟨[], by kernel_rfl⟩
theorem lifted_namesecFinds (os : Os) (started : os.Started) (H : Type) (enc : TypeId × Value → H) (F : Stop.Interp) :
    ReturnsInHanded {} Tryd.checked os 3 .any ((OpenSpec.ofChange Rows.namesecFindsSpec).preRow enc Tryd.prog Tryd.f3 Rows.namesecFindsRow.domain false Rows.namesecFindsRow.laid) (((OpenSpec.ofChange Rows.namesecFindsSpec).at F).post enc Tryd.prog Tryd.f3 false true false false) := by
  obtain ⟨places, hx⟩ := reads_namesecFinds os enc
  refine returnsInHanded_of_row (C := Tryd.checked) (s := OpenSpec.ofChange Rows.namesecFindsSpec) own started (by kernel_rfl) Tryd.func3
    (witness_row_at (enc := enc) (C := Tryd.checked) false (laidWorld os) #[.agg #[.string ⟨#[]⟩, .slice none 0 0, .slice none 0 0], .int .i64 0, .int .i64 0] rfl (by kernel_rfl) (by kernel_rfl) (by kernel_rfl)
      (OpenSpec.preRow_of_cond 8 hx (by kernel_rfl) (fun k hk => by cases hk) (by kernel_rfl) (laid_namesecFinds os))) ?_
  intro W base args ds gs before hval hW _ _ _ hL _ _
  exact contract_namesecFinds H enc W base args ds gs before hval hW hL
theorem said_namesecFinds : Rows.NamesecFindsSaid :=
  OpenClaim.holds_of_cond 3 Tryd.f3 rfl rfl rfl rfl rfl rfl rfl ⟨rfl, rfl, rfl, rfl, rfl⟩ rfl rfl rfl rfl rfl (by kernel_rfl) Tryd.func3 (by kernel_rfl)
    (of_decide_eq_true (by kernel_rfl)) (by unfold Func.isWrapper; first | (rw [if_pos (by decide +kernel)]; kernel_rfl) | (rw [if_neg (by decide +kernel)]; exact ⟨rfl, rfl⟩))
    (fun os started H enc _ F => by rw [OpenClaim.pre_eq_preRow]; exact lifted_namesecFinds os started H enc F)
theorem plain_namesecFinds (f : FuncId) (fn : Func) (hf : Tryd.pinned.checked.prog.funcNamed Rows.namesecFindsRow.func = some f) (hfn : Tryd.pinned.checked.prog.funcs[f]? = some fn) :
    false = Tryd.pinned.checked.prog.looks [] ∧ ∀ (j : Nat) t, fn.params[j]? = some t → Tryd.pinned.checked.prog.wantsStandIn t = false := by
  obtain rfl : f = 3 := Option.some.inj ((show Tryd.prog.funcNamed Rows.namesecFindsRow.func = some 3 by kernel_rfl).symm.trans hf) |>.symm
  obtain rfl : fn = Tryd.f3 := (Option.some.inj (Tryd.func3.symm.trans hfn)).symm
  refine ⟨by kernel_rfl, fun j t ht => ?_⟩
  rw [Tryd.params3] at ht
  have hm := Array.mem_of_getElem? ht
  simp only [List.mem_toArray, List.mem_cons, List.not_mem_nil, or_false] at hm
  rcases hm with rfl | rfl | rfl
  · exact (show Tryd.prog.wantsStandIn 25 = false by kernel_rfl)
  · exact (show Tryd.prog.wantsStandIn 3 = false by kernel_rfl)
  · exact (show Tryd.prog.wantsStandIn 3 = false by kernel_rfl)
theorem namesecFinds_holds : Rows.NamesecFindsCardSaid :=
  Claim7.holds_tied_plain_at .later [] _ _ _ _ said_namesecFinds (fun _ h => by cases h) (by kernel_rfl) (fun _ h => by cases h) namesecFinds_row_tie rfl ⟨rfl, rfl⟩ (by kernel_rfl) rfl plain_namesecFinds (by kernel_rfl)

end Go.Proofs.YtoikbadfbneahaaDoor
