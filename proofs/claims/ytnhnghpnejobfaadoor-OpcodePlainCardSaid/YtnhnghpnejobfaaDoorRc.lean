/-
  Chapter 5, the law OpcodePlain: for every input the call returns true, and the argument reads as before: Plain accepts exactly the specified instructions.
  Condition: strings.asciiSpace and unicode.White_Space lie as their own initialisers lay them (the card says so).
-/
import Derived.Test.YtnhnghpnejobfaaDoorQh
import Derived.Test.YtnhnghpnejobfaaDoorQn
set_option linter.unusedVariables false
set_option linter.unusedSimpArgs false
set_option linter.unusedSectionVars false
set_option maxRecDepth 100000
set_option linter.unusedVariables false
namespace Go.Proofs.YtnhnghpnejobfaaDoor
open Go Go.Mw
open Go.ChangeShapes Go.WideShapes Go.ChangeAt Go.RowKit

theorem u64_wf {n : Int} (h : (Lit.int .u64 n).wf = true) : 0 ≤ n := by
  have : 0 ≤ n ∧ n ≤ 18446744073709551615 := by simpa [Lit.wf, IntKind.min, IntKind.max, IntKind.signed, IntKind.bits] using h
  omega
theorem ins_n {x : AV} {i : Ins} (h : tyIns.okV x) (hi : nla x (ins_ i)) : 0 ≤ i.n := by
  obtain ⟨xs, rfl, _, _, rfl, ⟨op, rfl, _⟩, _, _, rfl, ⟨a, rfl, _⟩, _, _, rfl, ⟨b, rfl, _⟩, _, _, rfl, ⟨n, rfl, hn⟩, _⟩ := h
  rcases hi with hi | ⟨hi, _⟩ | ⟨l, m, hl, hm, hr⟩
  · have := congrArg (fun a => match a with | AV.agg (_ :: _ :: _ :: AV.int _ k :: _) => k | _ => 0) hi
    have e : n = i.n := this
    rw [← e]; exact u64_wf hn
  · cases hi
  · cases hl
    cases hm
    obtain ⟨_, _, _, h4, _⟩ := hr
    rcases h4 with h4 | ⟨h4, _⟩
    · have e : n = i.n := (AV.int.inj h4).2
      rw [← e]; exact u64_wf hn
    · cases h4
theorem p_plain (xs : List AV) (h : All2 Ty.okV [tyIns] xs) : ∃ ys, All2 nlc xs ys ∧ PCalls Tryd.prog 4 ys (.bool true) := by
  obtain ⟨x, rfl, h0⟩ := ok1 h
  obtain ⟨a, ha, la, lb⟩ := ins_ok h0
  exact ⟨[x], ⟨.inl rfl, trivial⟩, PCalls_nla (w_plain a la lb (ins_n h0 ha)) ⟨ha, trivial⟩⟩

theorem mem_opcodePlain : ∀ t ∈ [38], Tryd.prog.readableRec t = true ∧ t < Tryd.prog.types.size := by
  intro t ht
  simp only [List.mem_cons, List.not_mem_nil, or_false] at ht
  rcases ht with rfl
  all_goals exact ⟨by kernel_rfl, of_decide_eq_true (by kernel_rfl)⟩
theorem contract_opcodePlain (H : Type) (enc : TypeId × Value → H) (W : World) (base : Nat) (args : Array Value) (ds gs : List (DataW H)) (before : List MemPlace)
    (hval : ∀ (j : Nat) t v, Tryd.f4.params[j]? = some t → args[j]? = some v → Value.okWide Tryd.prog W .any base t v)
    (hW : DataW.Whole enc Tryd.prog Tryd.f4.params.toList Rows.opcodePlainSpec.vars false W args.toList ds gs before) (hL : laidMetH Tryd.prog Rows.opcodePlainRow.laid W) (hS : W.ShapedOpen Tryd.prog) :
    Calls Tryd.prog 4 args W fun e W' => ∃ v, e = .returned v ∧ Rows.opcodePlainSpec.post enc Tryd.prog Tryd.f4 false true false false W args v W' := by
  refine law_contract (s := Rows.opcodePlainSpec) (f := Tryd.f4) (tb := 4) [tyIns] ?_ laidOut ?_ rfl ?_ (by kernel_rfl) (by kernel_rfl) (p_plain) W base args ds gs before (tabs_of hL hS) hval hW
  · rw [Tryd.params4]; exact ⟨ty38, trivial⟩
  · rw [Tryd.params4]; exact mem_opcodePlain
  · intro ds h
    match ds, h with
    | [d0], _ => exact ⟨rfl, rfl, rfl⟩
theorem laid_opcodePlain (os : Os) : laidMet Tryd.prog Rows.opcodePlainRow.laid ((laidWorld os).forCall (fun _ _ => 0) ⟨#[], #[.agg #[.int .i64 0, .int .i64 0, .int .i64 0, .int .u64 0, .int .i64 0, .int .i64 0, .int .i64 0, .slice none 0 0, .slice none 0 0]], []⟩).memory :=
  laidMet_laidAll _ (by kernel_rfl) (by kernel_rfl)
theorem reads_opcodePlain (os : Os) {H : Type} (enc : TypeId × Value → H) : ∃ places, DataW.whole enc Tryd.prog ((laidWorld os).forCall (fun _ _ => 0) ⟨#[], #[.agg #[.int .i64 0, .int .i64 0, .int .i64 0, .int .u64 0, .int .i64 0, .int .i64 0, .int .i64 0, .slice none 0 0, .slice none 0 0]], []⟩).memory Tryd.f4.params.toList Rows.opcodePlainSpec.vars false #[.agg #[.int .i64 0, .int .i64 0, .int .i64 0, .int .u64 0, .int .i64 0, .int .i64 0, .int .i64 0, .slice none 0 0, .slice none 0 0]].toList 8 = some ([.agg [.lit (.int .i64 0), .lit (.int .i64 0), .lit (.int .i64 0), .lit (.int .u64 0), .agg [.lit (.int .i64 0), .lit (.int .i64 0), .lit (.int .i64 0)], .nil, .nil]], [], places) :=
  ⟨[], by kernel_rfl⟩
theorem lifted_opcodePlain (os : Os) (started : os.Started) (H : Type) (enc : TypeId × Value → H) (F : Stop.Interp) :
    ReturnsInHanded {} Tryd.checked os 4 .any ((OpenSpec.ofChange Rows.opcodePlainSpec).preRow enc Tryd.prog Tryd.f4 Rows.opcodePlainRow.domain false Rows.opcodePlainRow.laid) (((OpenSpec.ofChange Rows.opcodePlainSpec).at F).post enc Tryd.prog Tryd.f4 false true false false) := by
  obtain ⟨places, hx⟩ := reads_opcodePlain os enc
  refine returnsInHanded_of_row (C := Tryd.checked) (s := OpenSpec.ofChange Rows.opcodePlainSpec) own started (by kernel_rfl) Tryd.func4
    (witness_row_atRef (enc := enc) (C := Tryd.checked) false (laidWorld os) #[.agg #[.int .i64 0, .int .i64 0, .int .i64 0, .int .u64 0, .int .i64 0, .int .i64 0, .int .i64 0, .slice none 0 0, .slice none 0 0]] (World.laidAll_os _ _ _) (by kernel_rfl) (by kernel_rfl) (by kernel_rfl)
      (OpenSpec.preRow_of_cond 8 hx (by kernel_rfl) (fun k hk => by cases hk) (by kernel_rfl) (laid_opcodePlain os))) ?_
  intro W base args ds gs before hval hW _ _ _ hL hS _
  exact contract_opcodePlain H enc W base args ds gs before hval hW hL hS
theorem said_opcodePlain : Rows.OpcodePlainSaid :=
  OpenClaim.holds_of_cond 4 Tryd.f4 rfl rfl rfl rfl rfl rfl rfl ⟨rfl, rfl, rfl, rfl, rfl⟩ rfl rfl rfl rfl rfl (by kernel_rfl) Tryd.func4 (by kernel_rfl)
    (of_decide_eq_true (by kernel_rfl)) (by unfold Func.isWrapper; first | (rw [if_pos (by decide +kernel)]; kernel_rfl) | (rw [if_neg (by decide +kernel)]; exact ⟨rfl, rfl⟩))
    (fun os started H enc _ F => by rw [OpenClaim.pre_eq_preRow]; exact lifted_opcodePlain os started H enc F)
theorem plain_opcodePlain (f : FuncId) (fn : Func) (hf : Tryd.pinned.checked.prog.funcNamed Rows.opcodePlainRow.func = some f) (hfn : Tryd.pinned.checked.prog.funcs[f]? = some fn) :
    false = Tryd.pinned.checked.prog.looks [] ∧ ∀ (j : Nat) t, fn.params[j]? = some t → Tryd.pinned.checked.prog.wantsStandIn t = false := by
  obtain rfl : f = 4 := Option.some.inj ((show Tryd.prog.funcNamed Rows.opcodePlainRow.func = some 4 by kernel_rfl).symm.trans hf) |>.symm
  obtain rfl : fn = Tryd.f4 := (Option.some.inj (Tryd.func4.symm.trans hfn)).symm
  refine ⟨by kernel_rfl, fun j t ht => ?_⟩
  rw [Tryd.params4] at ht
  have hm := Array.mem_of_getElem? ht
  simp only [List.mem_toArray, List.mem_cons, List.not_mem_nil, or_false] at hm
  rcases hm with rfl
  · exact (show Tryd.prog.wantsStandIn 38 = false by kernel_rfl)
theorem opcodePlain_holds : Rows.OpcodePlainCardSaid :=
  Claim7.holds_tied_plain_at .later [] _ _ _ _ said_opcodePlain (fun _ h => by cases h) (by kernel_rfl) (fun _ h => by cases h) opcodePlain_row_tie rfl ⟨rfl, rfl⟩ (by kernel_rfl) rfl plain_opcodePlain (by kernel_rfl)
end Go.Proofs.YtnhnghpnejobfaaDoor
