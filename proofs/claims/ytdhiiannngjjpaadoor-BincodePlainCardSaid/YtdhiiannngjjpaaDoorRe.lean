/-
  Chapter 11, the law BincodePlain: for every input the call returns true, and the arguments read as before: every decoded instruction is plain; its encoding is not longer than the input and decodes to the same instruction.
  Condition: strings.asciiSpace and unicode.White_Space lie as their own initialisers lay them (the card says so).
-/
import Derived.Test.YtdhiiannngjjpaaDoorQg
import Derived.Test.YtdhiiannngjjpaaDoorQx
set_option linter.unusedVariables false
set_option linter.unusedSimpArgs false
set_option linter.unusedSectionVars false
set_option maxRecDepth 100000
set_option linter.unusedVariables false
namespace Go.Proofs.YtdhiiannngjjpaaDoor
open Go Go.Mw
open Go.ChangeShapes Go.WideShapes Go.ChangeAt Go.RowKit

theorem p_plain11 (xs : List AV) (h : All2 Ty.okV [.sl (.int .u8)] xs) : ∃ ys, All2 nlc xs ys ∧ PCalls Tryd.prog 4 ys (.bool true) := by
  obtain ⟨x, rfl, h0⟩ := ok1 h
  obtain ⟨l, hl⟩ := bytes_ok h0
  exact ⟨[x], ⟨.inl rfl, trivial⟩, PCalls_nld (w_plain11 l) ⟨hl, trivial⟩⟩

theorem mem_bincodePlain : ∀ t ∈ [37], Tryd.prog.readableRec t = true ∧ t < Tryd.prog.types.size := by
  intro t ht
  simp only [List.mem_cons, List.not_mem_nil, or_false] at ht
  rcases ht with rfl
  all_goals exact ⟨by kernel_rfl, of_decide_eq_true (by kernel_rfl)⟩
theorem contract_bincodePlain (H : Type) (enc : TypeId × Value → H) (W : World) (base : Nat) (args : Array Value) (ds gs : List (DataW H)) (before : List MemPlace)
    (hval : ∀ (j : Nat) t v, Tryd.f4.params[j]? = some t → args[j]? = some v → Value.okWide Tryd.prog W .any base t v)
    (hW : DataW.Whole enc Tryd.prog Tryd.f4.params.toList Rows.bincodePlainSpec.vars false W args.toList ds gs before) (hL : laidMetH Tryd.prog Rows.bincodePlainRow.laid W) (hS : W.ShapedOpen Tryd.prog) :
    Calls Tryd.prog 4 args W fun e W' => ∃ v, e = .returned v ∧ Rows.bincodePlainSpec.post enc Tryd.prog Tryd.f4 false true false false W args v W' := by
  refine law_contract (s := Rows.bincodePlainSpec) (f := Tryd.f4) (tb := 4) [.sl (.int .u8)] ?_ laidOut ?_ rfl ?_ (by kernel_rfl) (by kernel_rfl) (p_plain11) W base args ds gs before (tabs_of hL hS) hval hW
  · rw [Tryd.params4]; exact ⟨ty37, trivial⟩
  · rw [Tryd.params4]; exact mem_bincodePlain
  · intro ds h
    match ds, h with
    | [d0], _ => exact ⟨rfl, rfl, rfl⟩
theorem laid_bincodePlain (os : Os) : laidMet Tryd.prog Rows.bincodePlainRow.laid ((laidWorld os).forCall (fun _ _ => 0) ⟨#[], #[.slice none 0 0], []⟩).memory :=
  laidMet_laidAll _ (by kernel_rfl) (by kernel_rfl)
theorem reads_bincodePlain (os : Os) {H : Type} (enc : TypeId × Value → H) : ∃ places, DataW.whole enc Tryd.prog ((laidWorld os).forCall (fun _ _ => 0) ⟨#[], #[.slice none 0 0], []⟩).memory Tryd.f4.params.toList Rows.bincodePlainSpec.vars false #[.slice none 0 0].toList 8 = some ([.nil], [], places) :=
  ⟨[], by kernel_rfl⟩
theorem lifted_bincodePlain (os : Os) (started : os.Started) (H : Type) (enc : TypeId × Value → H) (F : Stop.Interp) :
    ReturnsInHanded {} Tryd.checked os 4 .any ((OpenSpec.ofChange Rows.bincodePlainSpec).preRow enc Tryd.prog Tryd.f4 Rows.bincodePlainRow.domain false Rows.bincodePlainRow.laid) (((OpenSpec.ofChange Rows.bincodePlainSpec).at F).post enc Tryd.prog Tryd.f4 false true false false) := by
  obtain ⟨places, hx⟩ := reads_bincodePlain os enc
  refine returnsInHanded_of_row (C := Tryd.checked) (s := OpenSpec.ofChange Rows.bincodePlainSpec) own started (by kernel_rfl) Tryd.func4
    (witness_row_atRef (enc := enc) (C := Tryd.checked) false (laidWorld os) #[.slice none 0 0] (World.laidAll_os _ _ _) (by kernel_rfl) (by kernel_rfl) (by kernel_rfl)
      (OpenSpec.preRow_of_cond 8 hx (by kernel_rfl) (fun k hk => by cases hk) (by kernel_rfl) (laid_bincodePlain os))) ?_
  intro W base args ds gs before hval hW _ _ _ hL hS _
  exact contract_bincodePlain H enc W base args ds gs before hval hW hL hS
theorem said_bincodePlain : Rows.BincodePlainSaid :=
  OpenClaim.holds_of_cond 4 Tryd.f4 rfl rfl rfl rfl rfl rfl rfl ⟨rfl, rfl, rfl, rfl, rfl⟩ rfl rfl rfl rfl rfl (by kernel_rfl) Tryd.func4 (by kernel_rfl)
    (of_decide_eq_true (by kernel_rfl)) (by unfold Func.isWrapper; first | (rw [if_pos (by decide +kernel)]; kernel_rfl) | (rw [if_neg (by decide +kernel)]; exact ⟨rfl, rfl⟩))
    (fun os started H enc _ F => by rw [OpenClaim.pre_eq_preRow]; exact lifted_bincodePlain os started H enc F)
theorem plain_bincodePlain (f : FuncId) (fn : Func) (hf : Tryd.pinned.checked.prog.funcNamed Rows.bincodePlainRow.func = some f) (hfn : Tryd.pinned.checked.prog.funcs[f]? = some fn) :
    false = Tryd.pinned.checked.prog.looks [] ∧ ∀ (j : Nat) t, fn.params[j]? = some t → Tryd.pinned.checked.prog.wantsStandIn t = false := by
  obtain rfl : f = 4 := Option.some.inj ((show Tryd.prog.funcNamed Rows.bincodePlainRow.func = some 4 by kernel_rfl).symm.trans hf) |>.symm
  obtain rfl : fn = Tryd.f4 := (Option.some.inj (Tryd.func4.symm.trans hfn)).symm
  refine ⟨by kernel_rfl, fun j t ht => ?_⟩
  rw [Tryd.params4] at ht
  have hm := Array.mem_of_getElem? ht
  simp only [List.mem_toArray, List.mem_cons, List.not_mem_nil, or_false] at hm
  rcases hm with rfl
  · exact (show Tryd.prog.wantsStandIn 37 = false by kernel_rfl)
theorem bincodePlain_holds : Rows.BincodePlainCardSaid :=
  Claim7.holds_tied_plain_at .later [] _ _ _ _ said_bincodePlain (fun _ h => by cases h) (by kernel_rfl) (fun _ h => by cases h) bincodePlain_row_tie rfl ⟨rfl, rfl⟩ (by kernel_rfl) rfl plain_bincodePlain (by kernel_rfl)

end Go.Proofs.YtdhiiannngjjpaaDoor
