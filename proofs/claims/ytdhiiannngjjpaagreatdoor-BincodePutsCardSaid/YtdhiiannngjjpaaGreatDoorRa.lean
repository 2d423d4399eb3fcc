/-
  Chapter 11, the law BincodePuts: for every input the call returns true, and the arguments read as before: Put and PutAll produce the specified encoding or error for any instructions.
  Condition: strings.asciiSpace and unicode.White_Space lie as their own initialisers lay them (the card says so).
-/
import Derived.Test.YtdhiiannngjjpaaGreatDoorQg
import Derived.Test.YtdhiiannngjjpaaGreatDoorQu
set_option linter.unusedVariables false
set_option linter.unusedSimpArgs false
set_option linter.unusedSectionVars false
set_option maxRecDepth 100000
set_option linter.unusedVariables false
namespace Go.Proofs.YtdhiiannngjjpaaGreatDoor
open Go Go.Mw
open Go.ChangeShapes Go.WideShapes Go.ChangeAt Go.RowKit

theorem p_puts (xs : List AV) (h : All2 Ty.okV [.sl tyIns] xs) : ∃ ys, All2 nlc xs ys ∧ PCalls Tryz.prog 3 ys (.bool true) := by
  obtain ⟨x, rfl, h0⟩ := ok1 h
  obtain ⟨l, hl, hi⟩ := inss_ok h0
  exact ⟨[x], ⟨.inl rfl, trivial⟩, PCalls_nld (w_puts l hi) ⟨hl, trivial⟩⟩

theorem mem_bincodePuts : ∀ t ∈ [22], Tryz.prog.readableRec t = true ∧ t < Tryz.prog.types.size := by
  intro t ht
  simp only [List.mem_cons, List.not_mem_nil, or_false] at ht
  rcases ht with rfl
  all_goals exact ⟨by kernel_rfl, of_decide_eq_true (by kernel_rfl)⟩
theorem contract_bincodePuts (H : Type) (enc : TypeId × Value → H) (W : World) (base : Nat) (args : Array Value) (ds gs : List (DataW H)) (before : List MemPlace)
    (hval : ∀ (j : Nat) t v, Tryz.f3.params[j]? = some t → args[j]? = some v → Value.okWide Tryz.prog W .any base t v)
    (hW : DataW.Whole enc Tryz.prog Tryz.f3.params.toList Rows.bincodePutsSpec.vars false W args.toList ds gs before) (hL : laidMetH Tryz.prog Rows.bincodePutsRow.laid W) (hS : W.ShapedOpen Tryz.prog) :
    Calls Tryz.prog 3 args W fun e W' => ∃ v, e = .returned v ∧ Rows.bincodePutsSpec.post enc Tryz.prog Tryz.f3 false true false false W args v W' := by
  refine law_contract (s := Rows.bincodePutsSpec) (f := Tryz.f3) (tb := 4) [.sl tyIns] ?_ laidOut ?_ rfl ?_ (by kernel_rfl) (by kernel_rfl) (p_puts) W base args ds gs before (tabs_of hL hS) hval hW
  · rw [Tryz.params3]; exact ⟨ty22, trivial⟩
  · rw [Tryz.params3]; exact mem_bincodePuts
  · intro ds h
    match ds, h with
    | [d0], _ => exact ⟨rfl, rfl, rfl⟩
theorem laid_bincodePuts (os : Os) : laidMet Tryz.prog Rows.bincodePutsRow.laid ((laidWorld os).forCall (fun _ _ => 0) ⟨#[], #[.slice none 0 0], []⟩).memory :=
  laidMet_laidAll _ (by kernel_rfl) (by kernel_rfl)
theorem reads_bincodePuts (os : Os) {H : Type} (enc : TypeId × Value → H) : ∃ places, DataW.whole enc Tryz.prog ((laidWorld os).forCall (fun _ _ => 0) ⟨#[], #[.slice none 0 0], []⟩).memory Tryz.f3.params.toList Rows.bincodePutsSpec.vars false #[.slice none 0 0].toList 8 = some ([.nil], [], places) :=
  ⟨[], by kernel_rfl⟩
theorem lifted_bincodePuts (os : Os) (started : os.Started) (H : Type) (enc : TypeId × Value → H) (F : Stop.Interp) :
    ReturnsInHanded {} Tryz.checked os 3 .any ((OpenSpec.ofChange Rows.bincodePutsSpec).preRow enc Tryz.prog Tryz.f3 Rows.bincodePutsRow.domain false Rows.bincodePutsRow.laid) (((OpenSpec.ofChange Rows.bincodePutsSpec).at F).post enc Tryz.prog Tryz.f3 false true false false) := by
  obtain ⟨places, hx⟩ := reads_bincodePuts os enc
  refine returnsInHanded_of_row (C := Tryz.checked) (s := OpenSpec.ofChange Rows.bincodePutsSpec) own started (by kernel_rfl) Tryz.func3
    (witness_row_atRef (enc := enc) (C := Tryz.checked) false (laidWorld os) #[.slice none 0 0] (World.laidAll_os _ _ _) (by kernel_rfl) (by kernel_rfl) (by kernel_rfl)
      (OpenSpec.preRow_of_cond 8 hx (by kernel_rfl) (fun k hk => by cases hk) (by kernel_rfl) (laid_bincodePuts os))) ?_
  intro W base args ds gs before hval hW _ _ _ hL hS _
  exact contract_bincodePuts H enc W base args ds gs before hval hW hL hS
theorem said_bincodePuts : Rows.BincodePutsSaid :=
  OpenClaim.holds_of_cond 3 Tryz.f3 rfl rfl rfl rfl rfl rfl rfl ⟨rfl, rfl, rfl, rfl, rfl⟩ rfl rfl rfl rfl rfl (by kernel_rfl) Tryz.func3 (by kernel_rfl)
    (of_decide_eq_true (by kernel_rfl)) (by unfold Func.isWrapper; first | (rw [if_pos (by decide +kernel)]; kernel_rfl) | (rw [if_neg (by decide +kernel)]; exact ⟨rfl, rfl⟩))
    (fun os started H enc _ F => by rw [OpenClaim.pre_eq_preRow]; exact lifted_bincodePuts os started H enc F)
theorem plain_bincodePuts (f : FuncId) (fn : Func) (hf : Tryz.pinned.checked.prog.funcNamed Rows.bincodePutsRow.func = some f) (hfn : Tryz.pinned.checked.prog.funcs[f]? = some fn) :
    false = Tryz.pinned.checked.prog.looks [] ∧ ∀ (j : Nat) t, fn.params[j]? = some t → Tryz.pinned.checked.prog.wantsStandIn t = false := by
  obtain rfl : f = 3 := Option.some.inj ((show Tryz.prog.funcNamed Rows.bincodePutsRow.func = some 3 by kernel_rfl).symm.trans hf) |>.symm
  obtain rfl : fn = Tryz.f3 := (Option.some.inj (Tryz.func3.symm.trans hfn)).symm
  refine ⟨by kernel_rfl, fun j t ht => ?_⟩
  rw [Tryz.params3] at ht
  have hm := Array.mem_of_getElem? ht
  simp only [List.mem_toArray, List.mem_cons, List.not_mem_nil, or_false] at hm
  rcases hm with rfl
  · exact (show Tryz.prog.wantsStandIn 22 = false by kernel_rfl)
theorem bincodePuts_holds : Rows.BincodePutsCardSaid :=
  Claim7.holds_tied_plain_at .later [] _ _ _ _ said_bincodePuts (fun _ h => by cases h) (by kernel_rfl) (fun _ h => by cases h) bincodePuts_row_tie rfl ⟨rfl, rfl⟩ (by kernel_rfl) rfl plain_bincodePuts (by kernel_rfl)

end Go.Proofs.YtdhiiannngjjpaaGreatDoor
