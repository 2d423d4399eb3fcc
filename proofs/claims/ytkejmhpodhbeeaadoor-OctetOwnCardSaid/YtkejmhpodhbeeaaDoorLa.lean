/-
  Chapter 2: the law OctetOwn: for every input the call returns true, and the arguments read as before.
-/
import Derived.Test.YtkejmhpodhbeeaaDoorT1
import Derived.Test.YtkejmhpodhbeeaaDoorXh
set_option maxRecDepth 100000
namespace Go.Proofs.YtkejmhpodhbeeaaDoor
open Go Go.Mw
open Go.ChangeShapes Go.WideShapes Go.ChangeAt Go.RowKit

theorem map_of {α : Type} {f : α → List AV} : ∀ {rows : List (List AV)}, (∀ r ∈ rows, ∃ a, r = f a) → ∃ l : List α, rows = l.map f
  | [], _ => ⟨[], rfl⟩
  | r :: rows, h => by
    obtain ⟨a, rfl⟩ := h r (by simp)
    obtain ⟨l, rfl⟩ := map_of (f := f) (rows := rows) fun r hr => h r (by simp [hr])
    exact ⟨a :: l, rfl⟩
theorem u8_wf {n : Int} (h : (Lit.int .u8 n).wf = true) : 0 ≤ n ∧ n ≤ 255 := by simpa [Lit.wf, IntKind.min, IntKind.max, IntKind.signed, IntKind.bits] using h
theorem byte_ok {r : List AV} (h : (Ty.int .u8).ok r) : ∃ b : UInt8, r = by_ b := by
  obtain ⟨n, rfl, hw⟩ := h
  have hn := u8_wf hw
  refine ⟨UInt8.ofNat n.toNat, ?_⟩
  rw [by_of (by omega)]
  congr 2
  omega
/-- A slice of bytes, as an argument. -/
theorem bytes_nlc {x : AV} (h : (Ty.sl (.int .u8)).okV x) : ∃ B : List UInt8, nlc x (.sl 1 (B.map by_)) := by
  rcases h with h | ⟨rows, h, _, h3⟩ <;> simp only [List.cons.injEq, and_true] at h <;> subst h
  · exact ⟨[], .inr ⟨rfl, 1, rfl⟩⟩
  · obtain ⟨B, rfl⟩ := map_of (f := by_) (rows := rows) fun r hr => byte_ok (h3 r hr)
    exact ⟨B, .inl rfl⟩
theorem ok2 {τ τ1 : Ty} {xs : List AV} (h : All2 Ty.okV [τ, τ1] xs) : ∃ x y, xs = [x, y] ∧ τ.okV x ∧ τ1.okV y := by
  match xs, h with
  | [x, y], h => exact ⟨x, y, rfl, h.1, h.2.1⟩

theorem ty22 : tyOf Tryd.prog 9 22 = some (.sl (.int .u8)) := by kernel_rfl
theorem ty5 : tyOf Tryd.prog 9 5 = some (.int .u8) := by kernel_rfl
theorem p_own (xs : List AV) (h : All2 Ty.okV [.sl (.int .u8), .int .u8] xs) : ∃ ys, All2 nlc xs ys ∧ PCalls Tryd.prog 3 ys (.bool true) := by
  obtain ⟨x, y, rfl, h0, h1⟩ := ok2 h
  obtain ⟨B, hB⟩ := bytes_nlc h0
  obtain ⟨c, hc, hw⟩ := h1
  simp only [List.cons.injEq, and_true] at hc
  subst hc
  have hx := u8_wf hw
  exact ⟨[.sl 1 (B.map by_), .int .u8 c], ⟨hB, .inl rfl, trivial⟩, w_own B c (by omega)⟩

theorem mem_octetOwn : ∀ t ∈ [22, 5], Tryd.prog.readableRec t = true ∧ t < Tryd.prog.types.size := by
  intro t ht
  simp only [List.mem_cons, List.not_mem_nil, or_false] at ht
  rcases ht with rfl | rfl
  all_goals exact ⟨by kernel_rfl, of_decide_eq_true (by kernel_rfl)⟩
theorem contract_octetOwn (H : Type) (enc : TypeId × Value → H) (W : World) (base : Nat) (args : Array Value) (ds gs : List (DataW H)) (before : List MemPlace)
    (hval : ∀ (j : Nat) t v, Tryd.f3.params[j]? = some t → args[j]? = some v → Value.okWide Tryd.prog W .any base t v)
    (hW : DataW.Whole enc Tryd.prog Tryd.f3.params.toList Rows.octetOwnSpec.vars false W args.toList ds gs before) (hL : laidMetH Tryd.prog Rows.octetOwnRow.laid W) :
    Calls Tryd.prog 3 args W fun e W' => ∃ v, e = .returned v ∧ Rows.octetOwnSpec.post enc Tryd.prog Tryd.f3 false true false false W args v W' := by
  refine law_contract (s := Rows.octetOwnSpec) (f := Tryd.f3) (tb := 4) [.sl (.int .u8), .int .u8] ?_ laidOut ?_ rfl ?_ (by kernel_rfl) (by kernel_rfl) (p_own) W base args ds gs before (tabs_of hL) hval hW
  · rw [Tryd.params3]; exact ⟨ty22, ty5, trivial⟩
  · rw [Tryd.params3]; exact mem_octetOwn
  · intro ds h
    match ds, h with
    | [d0, d1], _ => exact ⟨rfl, rfl, rfl⟩
theorem laid_octetOwn (os : Os) : laidMet Tryd.prog Rows.octetOwnRow.laid ((laidWorld os).forCall (fun _ _ => 0) ⟨#[], #[.slice none 0 0, .int .u8 0], []⟩).memory :=
  laidMet_of_run' 8 (by kernel_rfl) (by kernel_rfl)
theorem reads_octetOwn (os : Os) {H : Type} (enc : TypeId × Value → H) : ∃ places, DataW.whole enc Tryd.prog ((laidWorld os).forCall (fun _ _ => 0) ⟨#[], #[.slice none 0 0, .int .u8 0], []⟩).memory Tryd.f3.params.toList Rows.octetOwnSpec.vars false #[.slice none 0 0, .int .u8 0].toList 8 = some ([.nil, .lit (.int .u8 0)], [], places) :=
  ⟨[], by kernel_rfl⟩
theorem lifted_octetOwn (os : Os) (started : os.Started) (H : Type) (enc : TypeId × Value → H) (F : Stop.Interp) :
    ReturnsInHanded {} Tryd.checked os 3 .any ((OpenSpec.ofChange Rows.octetOwnSpec).preRow enc Tryd.prog Tryd.f3 Rows.octetOwnRow.domain false Rows.octetOwnRow.laid) (((OpenSpec.ofChange Rows.octetOwnSpec).at F).post enc Tryd.prog Tryd.f3 false true false false) := by
  obtain ⟨places, hx⟩ := reads_octetOwn os enc
  refine returnsInHanded_of_row (C := Tryd.checked) (s := OpenSpec.ofChange Rows.octetOwnSpec) own started (by kernel_rfl) Tryd.func3
    (witness_row_at (enc := enc) (C := Tryd.checked) false (laidWorld os) #[.slice none 0 0, .int .u8 0] rfl (by kernel_rfl) (by kernel_rfl) (by kernel_rfl)
      (OpenSpec.preRow_of_cond 8 hx (by kernel_rfl) (fun k hk => by cases hk) (by kernel_rfl) (laid_octetOwn os))) ?_
  intro W base args ds gs before hval hW _ _ _ hL _ _
  exact contract_octetOwn H enc W base args ds gs before hval hW hL
theorem said_octetOwn : Rows.OctetOwnSaid :=
  OpenClaim.holds_of_cond 3 Tryd.f3 rfl rfl rfl rfl rfl rfl rfl ⟨rfl, rfl, rfl, rfl, rfl⟩ rfl rfl rfl rfl rfl (by kernel_rfl) Tryd.func3 (by kernel_rfl)
    (of_decide_eq_true (by kernel_rfl)) (by unfold Func.isWrapper; first | (rw [if_pos (by decide +kernel)]; kernel_rfl) | (rw [if_neg (by decide +kernel)]; exact ⟨rfl, rfl⟩))
    (fun os started H enc _ F => by rw [OpenClaim.pre_eq_preRow]; exact lifted_octetOwn os started H enc F)
theorem plain_octetOwn (f : FuncId) (fn : Func) (hf : Tryd.pinned.checked.prog.funcNamed Rows.octetOwnRow.func = some f) (hfn : Tryd.pinned.checked.prog.funcs[f]? = some fn) :
    false = Tryd.pinned.checked.prog.looks [] ∧ ∀ (j : Nat) t, fn.params[j]? = some t → Tryd.pinned.checked.prog.wantsStandIn t = false := by
  obtain rfl : f = 3 := Option.some.inj ((show Tryd.prog.funcNamed Rows.octetOwnRow.func = some 3 by kernel_rfl).symm.trans hf) |>.symm
  obtain rfl : fn = Tryd.f3 := (Option.some.inj (Tryd.func3.symm.trans hfn)).symm
  refine ⟨by kernel_rfl, fun j t ht => ?_⟩
  rw [Tryd.params3] at ht
  have hm := Array.mem_of_getElem? ht
  simp only [List.mem_toArray, List.mem_cons, List.not_mem_nil, or_false] at hm
  rcases hm with rfl | rfl
  · exact (show Tryd.prog.wantsStandIn 22 = false by kernel_rfl)
  · exact (show Tryd.prog.wantsStandIn 5 = false by kernel_rfl)
theorem octetOwn_holds : Rows.OctetOwnCardSaid :=
  Claim7.holds_tied_plain_at .later [] _ _ _ _ said_octetOwn (fun _ h => by cases h) (by kernel_rfl) (fun _ h => by cases h) octetOwn_row_tie rfl ⟨rfl, rfl⟩ (by kernel_rfl) rfl plain_octetOwn (by kernel_rfl)

end Go.Proofs.YtkejmhpodhbeeaaDoor
