/-
  Chapter 11, the law BincodeEnds: for every input the call returns true, and the arguments read as before: GetExpr stops at the matching end, and a limit that is smaller by one gives ErrLong.
  Condition: strings.asciiSpace and unicode.White_Space lie as their own initialisers lay them (the card says so).
-/
import Derived.Test.YtdhiiannngjjpaaDoorQg
import Derived.Test.YtdhiiannngjjpaaDoorQw
set_option linter.unusedVariables false
set_option linter.unusedSimpArgs false
set_option linter.unusedSectionVars false
set_option maxRecDepth 100000
set_option linter.unusedVariables false
namespace Go.Proofs.YtdhiiannngjjpaaDoor
open Go Go.Mw
open Go.ChangeShapes Go.WideShapes Go.ChangeAt Go.RowKit

theorem p_ends11 (xs : List AV) (h : All2 Ty.okV [.sl tyIns, .sl (.int .u8)] xs) : ∃ ys, All2 nlc xs ys ∧ PCalls Tryd.prog 5 ys (.bool true) := by
  obtain ⟨x, y, rfl, h0, h1⟩ := ok2 h
  obtain ⟨l, hl, hi⟩ := inss_ok h0
  obtain ⟨m, hm⟩ := bytes_ok h1
  exact ⟨[x, y], ⟨.inl rfl, .inl rfl, trivial⟩, PCalls_nld (w_ends11 l m hi) ⟨hl, hm, trivial⟩⟩

theorem mem_bincodeEnds : ∀ t ∈ [22, 37], Tryd.prog.readableRec t = true ∧ t < Tryd.prog.types.size := by
  intro t ht
  simp only [List.mem_cons, List.not_mem_nil, or_false] at ht
  rcases ht with rfl | rfl
  all_goals exact ⟨by kernel_rfl, of_decide_eq_true (by kernel_rfl)⟩
theorem contract_bincodeEnds (H : Type) (enc : TypeId × Value → H) (W : World) (base : Nat) (args : Array Value) (ds gs : List (DataW H)) (before : List MemPlace)
    (hval : ∀ (j : Nat) t v, Tryd.f5.params[j]? = some t → args[j]? = some v → Value.okWide Tryd.prog W .any base t v)
    (hW : DataW.Whole enc Tryd.prog Tryd.f5.params.toList Rows.bincodeEndsSpec.vars false W args.toList ds gs before) (hL : laidMetH Tryd.prog Rows.bincodeEndsRow.laid W) (hS : W.ShapedOpen Tryd.prog) :
    Calls Tryd.prog 5 args W fun e W' => ∃ v, e = .returned v ∧ Rows.bincodeEndsSpec.post enc Tryd.prog Tryd.f5 false true false false W args v W' := by
  refine law_contract (s := Rows.bincodeEndsSpec) (f := Tryd.f5) (tb := 4) [.sl tyIns, .sl (.int .u8)] ?_ laidOut ?_ rfl ?_ (by kernel_rfl) (by kernel_rfl) (p_ends11) W base args ds gs before (tabs_of hL hS) hval hW
  · rw [Tryd.params5]; exact ⟨ty22, ty37, trivial⟩
  · rw [Tryd.params5]; exact mem_bincodeEnds
  · intro ds h
    match ds, h with
    | [d0, d1], _ => exact ⟨rfl, rfl, rfl⟩
theorem laid_bincodeEnds (os : Os) : laidMet Tryd.prog Rows.bincodeEndsRow.laid ((laidWorld os).forCall (fun _ _ => 0) ⟨#[], #[.slice none 0 0, .slice none 0 0], []⟩).memory :=
  laidMet_laidAll _ (by kernel_rfl) (by kernel_rfl)
theorem reads_bincodeEnds (os : Os) {H : Type} (enc : TypeId × Value → H) : ∃ places, DataW.whole enc Tryd.prog ((laidWorld os).forCall (fun _ _ => 0) ⟨#[], #[.slice none 0 0, .slice none 0 0], []⟩).memory Tryd.f5.params.toList Rows.bincodeEndsSpec.vars false #[.slice none 0 0, .slice none 0 0].toList 8 = some ([.nil, .nil], [], places) :=
  ⟨[], by kernel_rfl⟩
theorem lifted_bincodeEnds (os : Os) (started : os.Started) (H : Type) (enc : TypeId × Value → H) (F : Stop.Interp) :
    ReturnsInHanded {} Tryd.checked os 5 .any ((OpenSpec.ofChange Rows.bincodeEndsSpec).preRow enc Tryd.prog Tryd.f5 Rows.bincodeEndsRow.domain false Rows.bincodeEndsRow.laid) (((OpenSpec.ofChange Rows.bincodeEndsSpec).at F).post enc Tryd.prog Tryd.f5 false true false false) := by
  obtain ⟨places, hx⟩ := reads_bincodeEnds os enc
  refine returnsInHanded_of_row (C := Tryd.checked) (s := OpenSpec.ofChange Rows.bincodeEndsSpec) own started (by kernel_rfl) Tryd.func5
    (witness_row_atRef (enc := enc) (C := Tryd.checked) false (laidWorld os) #[.slice none 0 0, .slice none 0 0] (World.laidAll_os _ _ _) (by kernel_rfl) (by kernel_rfl) (by kernel_rfl)
      (OpenSpec.preRow_of_cond 8 hx (by kernel_rfl) (fun k hk => by cases hk) (by kernel_rfl) (laid_bincodeEnds os))) ?_
  intro W base args ds gs before hval hW _ _ _ hL hS _
  exact contract_bincodeEnds H enc W base args ds gs before hval hW hL hS
theorem said_bincodeEnds : Rows.BincodeEndsSaid :=
  OpenClaim.holds_of_cond 5 Tryd.f5 rfl rfl rfl rfl rfl rfl rfl ⟨rfl, rfl, rfl, rfl, rfl⟩ rfl rfl rfl rfl rfl (by kernel_rfl) Tryd.func5 (by kernel_rfl)
    (of_decide_eq_true (by kernel_rfl)) (by unfold Func.isWrapper; first | (rw [if_pos (by decide +kernel)]; kernel_rfl) | (rw [if_neg (by decide +kernel)]; exact ⟨rfl, rfl⟩))
    (fun os started H enc _ F => by rw [OpenClaim.pre_eq_preRow]; exact lifted_bincodeEnds os started H enc F)
theorem plain_bincodeEnds (f : FuncId) (fn : Func) (hf : Tryd.pinned.checked.prog.funcNamed Rows.bincodeEndsRow.func = some f) (hfn : Tryd.pinned.checked.prog.funcs[f]? = some fn) :
    false = Tryd.pinned.checked.prog.looks [] ∧ ∀ (j : Nat) t, fn.params[j]? = some t → Tryd.pinned.checked.prog.wantsStandIn t = false := by
  obtain rfl : f = 5 := Option.some.inj ((show Tryd.prog.funcNamed Rows.bincodeEndsRow.func = some 5 by kernel_rfl).symm.trans hf) |>.symm
  obtain rfl : fn = Tryd.f5 := (Option.some.inj (Tryd.func5.symm.trans hfn)).symm
  refine ⟨by kernel_rfl, fun j t ht => ?_⟩
  rw [Tryd.params5] at ht
  have hm := Array.mem_of_getElem? ht
  simp only [List.mem_toArray, List.mem_cons, List.not_mem_nil, or_false] at hm
  rcases hm with rfl | rfl
  · exact (show Tryd.prog.wantsStandIn 22 = false by kernel_rfl)
  · exact (show Tryd.prog.wantsStandIn 37 = false by kernel_rfl)
theorem bincodeEnds_holds : Rows.BincodeEndsCardSaid :=
  Claim7.holds_tied_plain_at .later [] _ _ _ _ said_bincodeEnds (fun _ h => by cases h) (by kernel_rfl) (fun _ h => by cases h) bincodeEnds_row_tie rfl ⟨rfl, rfl⟩ (by kernel_rfl) rfl plain_bincodeEnds (by kernel_rfl)

end Go.Proofs.YtdhiiannngjjpaaDoor
