/-
  Chapter 11, the law BincodeGets: for every input the call returns true, and the arguments read as before: Get decodes any bytes as specified and reports the specified error.
  Condition: strings.asciiSpace and unicode.White_Space lie as their own initialisers lay them (the card says so).
-/
import Derived.Test.YtdhiiannngjjpaaGreatDoorQg
import Derived.Test.YtdhiiannngjjpaaGreatDoorQv
set_option linter.unusedVariables false
set_option linter.unusedSimpArgs false
set_option linter.unusedSectionVars false
set_option maxRecDepth 100000
set_option linter.unusedVariables false
namespace Go.Proofs.YtdhiiannngjjpaaGreatDoor
open Go Go.Mw
open Go.ChangeShapes Go.WideShapes Go.ChangeAt Go.RowKit

theorem p_gets (xs : List AV) (h : All2 Ty.okV [.sl (.int .u8)] xs) : ∃ ys, All2 nlc xs ys ∧ PCalls Tryz.prog 4 ys (.bool true) := by
  obtain ⟨x, rfl, h0⟩ := ok1 h
  obtain ⟨l, hl⟩ := bytes_ok h0
  exact ⟨[x], ⟨.inl rfl, trivial⟩, PCalls_nld (w_gets l) ⟨hl, trivial⟩⟩

theorem mem_bincodeGets : ∀ t ∈ [28], Tryz.prog.readableRec t = true ∧ t < Tryz.prog.types.size := by
  intro t ht
  simp only [List.mem_cons, List.not_mem_nil, or_false] at ht
  rcases ht with rfl
  all_goals exact ⟨by kernel_rfl, of_decide_eq_true (by kernel_rfl)⟩
theorem contract_bincodeGets (H : Type) (enc : TypeId × Value → H) (W : World) (base : Nat) (args : Array Value) (ds gs : List (DataW H)) (before : List MemPlace)
    (hval : ∀ (j : Nat) t v, Tryz.f4.params[j]? = some t → args[j]? = some v → Value.okWide Tryz.prog W .any base t v)
    (hW : DataW.Whole enc Tryz.prog Tryz.f4.params.toList Rows.bincodeGetsSpec.vars false W args.toList ds gs before) (hL : laidMetH Tryz.prog Rows.bincodeGetsRow.laid W) (hS : W.ShapedOpen Tryz.prog) :
    Calls Tryz.prog 4 args W fun e W' => ∃ v, e = .returned v ∧ Rows.bincodeGetsSpec.post enc Tryz.prog Tryz.f4 false true false false W args v W' := by
  refine law_contract (s := Rows.bincodeGetsSpec) (f := Tryz.f4) (tb := 4) [.sl (.int .u8)] ?_ laidOut ?_ rfl ?_ (by kernel_rfl) (by kernel_rfl) (p_gets) W base args ds gs before (tabs_of hL hS) hval hW
  · rw [Tryz.params4]; exact ⟨ty28, trivial⟩
  · rw [Tryz.params4]; exact mem_bincodeGets
  · intro ds h
    match ds, h with
    | [d0], _ => exact ⟨rfl, rfl, rfl⟩
theorem laid_bincodeGets (os : Os) : laidMet Tryz.prog Rows.bincodeGetsRow.laid ((laidWorld os).forCall (fun _ _ => 0) ⟨#[], #[.slice none 0 0], []⟩).memory :=
  laidMet_laidAll _ (by kernel_rfl) (by kernel_rfl)
theorem reads_bincodeGets (os : Os) {H : Type} (enc : TypeId × Value → H) : ∃ places, DataW.whole enc Tryz.prog ((laidWorld os).forCall (fun _ _ => 0) ⟨#[], #[.slice none 0 0], []⟩).memory Tryz.f4.params.toList Rows.bincodeGetsSpec.vars false #[.slice none 0 0].toList 8 = some ([.nil], [], places) :=
  ⟨[], by kernel_rfl⟩
theorem lifted_bincodeGets (os : Os) (started : os.Started) (H : Type) (enc : TypeId × Value → H) (F : Stop.Interp) :
    ReturnsInHanded {} Tryz.checked os 4 .any ((OpenSpec.ofChange Rows.bincodeGetsSpec).preRow enc Tryz.prog Tryz.f4 Rows.bincodeGetsRow.domain false Rows.bincodeGetsRow.laid) (((OpenSpec.ofChange Rows.bincodeGetsSpec).at F).post enc Tryz.prog Tryz.f4 false true false false) := by
  obtain ⟨places, hx⟩ := reads_bincodeGets os enc
  refine returnsInHanded_of_row (C := Tryz.checked) (s := OpenSpec.ofChange Rows.bincodeGetsSpec) own started (by kernel_rfl) Tryz.func4
    (witness_row_atRef (enc := enc) (C := Tryz.checked) false (laidWorld os) #[.slice none 0 0] (World.laidAll_os _ _ _) (by kernel_rfl) (by kernel_rfl) (by kernel_rfl)
      (OpenSpec.preRow_of_cond 8 hx (by kernel_rfl) (fun k hk => by cases hk) (by kernel_rfl) (laid_bincodeGets os))) ?_
  intro W base args ds gs before hval hW _ _ _ hL hS _
  exact contract_bincodeGets H enc W base args ds gs before hval hW hL hS
theorem said_bincodeGets : Rows.BincodeGetsSaid :=
  OpenClaim.holds_of_cond 4 Tryz.f4 rfl rfl rfl rfl rfl rfl rfl ⟨rfl, rfl, rfl, rfl, rfl⟩ rfl rfl rfl rfl rfl (by kernel_rfl) Tryz.func4 (by kernel_rfl)
    (of_decide_eq_true (by kernel_rfl)) (by unfold Func.isWrapper; first | (rw [if_pos (by decide +kernel)]; kernel_rfl) | (rw [if_neg (by decide +kernel)]; exact ⟨rfl, rfl⟩))
    (fun os started H enc _ F => by rw [OpenClaim.pre_eq_preRow]; exact lifted_bincodeGets os started H enc F)
theorem plain_bincodeGets (f : FuncId) (fn : Func) (hf : Tryz.pinned.checked.prog.funcNamed Rows.bincodeGetsRow.func = some f) (hfn : Tryz.pinned.checked.prog.funcs[f]? = some fn) :
    false = Tryz.pinned.checked.prog.looks [] ∧ ∀ (j : Nat) t, fn.params[j]? = some t → Tryz.pinned.checked.prog.wantsStandIn t = false := by
  obtain rfl : f = 4 := Option.some.inj ((show Tryz.prog.funcNamed Rows.bincodeGetsRow.func = some 4 by kernel_rfl).symm.trans hf) |>.symm
  obtain rfl : fn = Tryz.f4 := (Option.some.inj (Tryz.func4.symm.trans hfn)).symm
  refine ⟨by kernel_rfl, fun j t ht => ?_⟩
  rw [Tryz.params4] at ht
  have hm := Array.mem_of_getElem? ht
  simp only [List.mem_toArray, List.mem_cons, List.not_mem_nil, or_false] at hm
  rcases hm with rfl
  · exact (show Tryz.prog.wantsStandIn 28 = false by kernel_rfl)
theorem bincodeGets_holds : Rows.BincodeGetsCardSaid :=
  Claim7.holds_tied_plain_at .later [] _ _ _ _ said_bincodeGets (fun _ h => by cases h) (by kernel_rfl) (fun _ h => by cases h) bincodeGets_row_tie rfl ⟨rfl, rfl⟩ (by kernel_rfl) rfl plain_bincodeGets (by kernel_rfl)

end Go.Proofs.YtdhiiannngjjpaaGreatDoor
