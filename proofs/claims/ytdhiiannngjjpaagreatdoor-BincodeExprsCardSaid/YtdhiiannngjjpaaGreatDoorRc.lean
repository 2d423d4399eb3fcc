/-
  Chapter 11, the law BincodeExprs: for every input the call returns true, and the arguments read as before: GetExpr decodes any bytes as specified, with any limit.
  Condition: strings.asciiSpace and unicode.White_Space lie as their own initialisers lay them (the card says so).
-/
import Derived.Test.YtdhiiannngjjpaaGreatDoorQg
import Derived.Test.YtdhiiannngjjpaaGreatDoorQw
set_option linter.unusedVariables false
set_option linter.unusedSimpArgs false
set_option linter.unusedSectionVars false
set_option maxRecDepth 100000
set_option linter.unusedVariables false
namespace Go.Proofs.YtdhiiannngjjpaaGreatDoor
open Go Go.Mw
open Go.ChangeShapes Go.WideShapes Go.ChangeAt Go.RowKit

theorem p_exprs (xs : List AV) (h : All2 Ty.okV [.sl (.int .u8), .int .i64] xs) : ∃ ys, All2 nlc xs ys ∧ PCalls Tryz.prog 5 ys (.bool true) := by
  obtain ⟨x, y, rfl, h0, h1⟩ := ok2 h
  obtain ⟨l, hl⟩ := bytes_ok h0
  obtain ⟨n, rfl, hn⟩ := int_ok h1
  exact ⟨[x, .int .i64 n], ⟨.inl rfl, .inl rfl, trivial⟩, PCalls_nld (w_exprs l n hn) ⟨hl, .inl (.rfl _), trivial⟩⟩

theorem mem_bincodeExprs : ∀ t ∈ [28, 3], Tryz.prog.readableRec t = true ∧ t < Tryz.prog.types.size := by
  intro t ht
  simp only [List.mem_cons, List.not_mem_nil, or_false] at ht
  rcases ht with rfl | rfl
  all_goals exact ⟨by kernel_rfl, of_decide_eq_true (by kernel_rfl)⟩
theorem contract_bincodeExprs (H : Type) (enc : TypeId × Value → H) (W : World) (base : Nat) (args : Array Value) (ds gs : List (DataW H)) (before : List MemPlace)
    (hval : ∀ (j : Nat) t v, Tryz.f5.params[j]? = some t → args[j]? = some v → Value.okWide Tryz.prog W .any base t v)
    (hW : DataW.Whole enc Tryz.prog Tryz.f5.params.toList Rows.bincodeExprsSpec.vars false W args.toList ds gs before) (hL : laidMetH Tryz.prog Rows.bincodeExprsRow.laid W) (hS : W.ShapedOpen Tryz.prog) :
    Calls Tryz.prog 5 args W fun e W' => ∃ v, e = .returned v ∧ Rows.bincodeExprsSpec.post enc Tryz.prog Tryz.f5 false true false false W args v W' := by
  refine law_contract (s := Rows.bincodeExprsSpec) (f := Tryz.f5) (tb := 4) [.sl (.int .u8), .int .i64] ?_ laidOut ?_ rfl ?_ (by kernel_rfl) (by kernel_rfl) (p_exprs) W base args ds gs before (tabs_of hL hS) hval hW
  · rw [Tryz.params5]; exact ⟨ty28, ty3, trivial⟩
  · rw [Tryz.params5]; exact mem_bincodeExprs
  · intro ds h
    match ds, h with
    | [d0, d1], _ => exact ⟨rfl, rfl, rfl⟩
theorem laid_bincodeExprs (os : Os) : laidMet Tryz.prog Rows.bincodeExprsRow.laid ((laidWorld os).forCall (fun _ _ => 0) ⟨#[], #[.slice none 0 0, .int .i64 0], []⟩).memory :=
  laidMet_laidAll _ (by kernel_rfl) (by kernel_rfl)
theorem reads_bincodeExprs (os : Os) {H : Type} (enc : TypeId × Value → H) : ∃ places, DataW.whole enc Tryz.prog ((laidWorld os).forCall (fun _ _ => 0) ⟨#[], #[.slice none 0 0, .int .i64 0], []⟩).memory Tryz.f5.params.toList Rows.bincodeExprsSpec.vars false #[.slice none 0 0, .int .i64 0].toList 8 = some ([.nil, .lit (.int .i64 0)], [], places) :=
  ⟨[], by kernel_rfl⟩
theorem lifted_bincodeExprs (os : Os) (started : os.Started) (H : Type) (enc : TypeId × Value → H) (F : Stop.Interp) :
    ReturnsInHanded {} Tryz.checked os 5 .any ((OpenSpec.ofChange Rows.bincodeExprsSpec).preRow enc Tryz.prog Tryz.f5 Rows.bincodeExprsRow.domain false Rows.bincodeExprsRow.laid) (((OpenSpec.ofChange Rows.bincodeExprsSpec).at F).post enc Tryz.prog Tryz.f5 false true false false) := by
  obtain ⟨places, hx⟩ := reads_bincodeExprs os enc
  refine returnsInHanded_of_row (C := Tryz.checked) (s := OpenSpec.ofChange Rows.bincodeExprsSpec) own started (by kernel_rfl) Tryz.func5
    (witness_row_atRef (enc := enc) (C := Tryz.checked) false (laidWorld os) #[.slice none 0 0, .int .i64 0] (World.laidAll_os _ _ _) (by kernel_rfl) (by kernel_rfl) (by kernel_rfl)
      (OpenSpec.preRow_of_cond 8 hx (by kernel_rfl) (fun k hk => by cases hk) (by kernel_rfl) (laid_bincodeExprs os))) ?_
  intro W base args ds gs before hval hW _ _ _ hL hS _
  exact contract_bincodeExprs H enc W base args ds gs before hval hW hL hS
theorem said_bincodeExprs : Rows.BincodeExprsSaid :=
  OpenClaim.holds_of_cond 5 Tryz.f5 rfl rfl rfl rfl rfl rfl rfl ⟨rfl, rfl, rfl, rfl, rfl⟩ rfl rfl rfl rfl rfl (by kernel_rfl) Tryz.func5 (by kernel_rfl)
    (of_decide_eq_true (by kernel_rfl)) (by unfold Func.isWrapper; first | (rw [if_pos (by decide +kernel)]; kernel_rfl) | (rw [if_neg (by decide +kernel)]; exact ⟨rfl, rfl⟩))
    (fun os started H enc _ F => by rw [OpenClaim.pre_eq_preRow]; exact lifted_bincodeExprs os started H enc F)
theorem plain_bincodeExprs (f : FuncId) (fn : Func) (hf : Tryz.pinned.checked.prog.funcNamed Rows.bincodeExprsRow.func = some f) (hfn : Tryz.pinned.checked.prog.funcs[f]? = some fn) :
    false = Tryz.pinned.checked.prog.looks [] ∧ ∀ (j : Nat) t, fn.params[j]? = some t → Tryz.pinned.checked.prog.wantsStandIn t = false := by
  obtain rfl : f = 5 := Option.some.inj ((show Tryz.prog.funcNamed Rows.bincodeExprsRow.func = some 5 by kernel_rfl).symm.trans hf) |>.symm
  obtain rfl : fn = Tryz.f5 := (Option.some.inj (Tryz.func5.symm.trans hfn)).symm
  refine ⟨by kernel_rfl, fun j t ht => ?_⟩
  rw [Tryz.params5] at ht
  have hm := Array.mem_of_getElem? ht
  simp only [List.mem_toArray, List.mem_cons, List.not_mem_nil, or_false] at hm
  rcases hm with rfl | rfl
  · exact (show Tryz.prog.wantsStandIn 28 = false by kernel_rfl)
  · exact (show Tryz.prog.wantsStandIn 3 = false by kernel_rfl)
theorem bincodeExprs_holds : Rows.BincodeExprsCardSaid :=
  Claim7.holds_tied_plain_at .later [] _ _ _ _ said_bincodeExprs (fun _ h => by cases h) (by kernel_rfl) (fun _ h => by cases h) bincodeExprs_row_tie rfl ⟨rfl, rfl⟩ (by kernel_rfl) rfl plain_bincodeExprs (by kernel_rfl)

end Go.Proofs.YtdhiiannngjjpaaGreatDoor
