/-
  Chapter 9: the laws NestChecks, NestBlocks and NestTargets: for every input the call returns true, and the arguments read as before.
-/
import Derived.Test.YtlmnepdibhdpaaaL0
import Derived.Test.YtlmnepdibhdpaaaMwZa
namespace Go.Proofs.Ytlmnepdibhdpaaa
open Go Go.Mw
open Go.ChangeShapes Go.WideShapes Go.ChangeAt Go.RowKit

theorem own : ownKnob Try.prog.godebug = none := by kernel_rfl
theorem laidOut : laidOutB Try.prog = true := by kernel_rfl
theorem ty22b : tyOf Try.prog 9 22 = some (.sl tyI) := by kernel_rfl
theorem ty3 : tyOf Try.prog 9 3 = some (.int .i64) := by kernel_rfl

theorem body_nlc {x : AV} (h : (Ty.sl tyI).okV x) : ∃ B : List Ins, nlc x (.sl 9 (B.map Ins.row)) := by
  rcases h with h | ⟨rows, h, _, h3⟩ <;> simp only [List.cons.injEq, and_true] at h <;> subst h
  · exact ⟨[], .inr ⟨rfl, 9, rfl⟩⟩
  · obtain ⟨B, rfl⟩ := map_of (f := Ins.row) (rows := rows) fun r hr => ins_ok (h3 r hr)
    exact ⟨B, .inl rfl⟩
theorem int_ok {k : IntKind} {x : AV} (h : (Ty.int k).okV x) : ∃ n, x = .int k n := by
  obtain ⟨n, h, _⟩ := h
  simp only [List.cons.injEq, and_true] at h
  exact ⟨n, h⟩

theorem ok1 {τ : Ty} {xs : List AV} (h : All2 Ty.okV [τ] xs) : ∃ x, xs = [x] ∧ τ.okV x := by
  match xs, h with
  | [x], h => exact ⟨x, rfl, h.1⟩
theorem ok3 {τ τ1 τ2 : Ty} {xs : List AV} (h : All2 Ty.okV [τ, τ1, τ2] xs) : ∃ x y z, xs = [x, y, z] ∧ τ.okV x ∧ τ1.okV y ∧ τ2.okV z := by
  match xs, h with
  | [x, y, z], h => exact ⟨x, y, z, rfl, h.1, h.2.1, h.2.2.1⟩
theorem p_one {f : FuncId} (hp : ∀ B : List Ins, PCalls Try.prog f [.sl 9 (B.map Ins.row)] (.bool true)) (xs : List AV) (h : All2 Ty.okV [.sl tyI] xs) : ∃ ys, All2 nlc xs ys ∧ PCalls Try.prog f ys (.bool true) := by
  obtain ⟨x, rfl, h1⟩ := ok1 h
  obtain ⟨B, hB⟩ := body_nlc h1
  exact ⟨[.sl 9 (B.map Ins.row)], ⟨hB, trivial⟩, hp B⟩
theorem p_targets (xs : List AV) (h : All2 Ty.okV [.sl tyI, .int .i64, .int .i64] xs) : ∃ ys, All2 nlc xs ys ∧ PCalls Try.prog 5 ys (.bool true) := by
  obtain ⟨x, y, z, rfl, h0, h1, h2⟩ := ok3 h
  obtain ⟨B, hB⟩ := body_nlc h0
  obtain ⟨p, rfl⟩ := int_ok h1
  obtain ⟨l, rfl⟩ := int_ok h2
  exact ⟨[.sl 9 (B.map Ins.row), .int .i64 p, .int .i64 l], ⟨hB, .inl rfl, .inl rfl, trivial⟩, w_targets B p l⟩


theorem mem_nestChecks : ∀ t ∈ [22], Try.prog.readableRec t = true ∧ t < Try.prog.types.size := by
  intro t ht
  simp only [List.mem_cons, List.not_mem_nil, or_false] at ht
  rcases ht with rfl
  all_goals exact ⟨by kernel_rfl, of_decide_eq_true (by kernel_rfl)⟩

theorem contract_nestChecks (H : Type) (enc : TypeId × Value → H) (W : World) (base : Nat) (args : Array Value) (ds gs : List (DataW H)) (before : List MemPlace)
    (hval : ∀ (j : Nat) t v, Try.f3.params[j]? = some t → args[j]? = some v → Value.okWide Try.prog W .any base t v)
    (hW : DataW.Whole enc Try.prog Try.f3.params.toList Rows.nestChecksSpec.vars false W args.toList ds gs before) :
    Calls Try.prog 3 args W fun e W' => ∃ v, e = .returned v ∧ Rows.nestChecksSpec.post enc Try.prog Try.f3 false true false false W args v W' := by
  refine law_contract (s := Rows.nestChecksSpec) (f := Try.f3) (tb := 4) [.sl tyI] ?_ laidOut ?_ rfl ?_ (by kernel_rfl) (by kernel_rfl) (p_one w_checks) W base args ds gs before hval hW
  · rw [Try.params3]; exact ⟨ty22b, trivial⟩
  · rw [Try.params3]; exact mem_nestChecks
  · intro ds h
    match ds, h with
    | [d0], _ => exact ⟨rfl, rfl, rfl⟩

set_option maxRecDepth 100000 in
theorem lifted_nestChecks (os : Os) (started : os.Started) (H : Type) (enc : TypeId × Value → H) :
    ReturnsInHanded {} Try.checked os 3 .any (Rows.nestChecksSpec.pre6 enc Try.prog Try.f3 Rows.nestChecksRow.domain false) (Rows.nestChecksSpec.post enc Try.prog Try.f3 false true false false) := by
  refine returnsInHanded_of_change (C := Try.checked) own started (by kernel_rfl) Try.func3
    (ChangeSpec.witness6 (enc := enc) (C := Try.checked) false ⟨#[], #[.slice none 0 0], []⟩ 8 (by kernel_rfl) (by kernel_rfl) (by kernel_rfl) (by kernel_rfl)) ?_
  intro W base args ds gs before hval hW _ _
  exact contract_nestChecks H enc W base args ds gs before hval hW

theorem nestChecks_holds : Rows.NestChecksSaid :=
  OpenClaim.holds_of_wide 3 Try.f3 rfl rfl rfl rfl rfl rfl rfl ⟨rfl, rfl, rfl, rfl, rfl⟩ rfl rfl rfl rfl rfl (by kernel_rfl) Try.func3 (by kernel_rfl)
    (of_decide_eq_true (by kernel_rfl)) (by unfold Func.isWrapper; first | (rw [if_pos (by decide +kernel)]; kernel_rfl) | (rw [if_neg (by decide +kernel)]; exact ⟨rfl, rfl⟩))
    (fun os started H enc _ => lifted_nestChecks os started H enc)

theorem mem_nestBlocks : ∀ t ∈ [22], Try.prog.readableRec t = true ∧ t < Try.prog.types.size := by
  intro t ht
  simp only [List.mem_cons, List.not_mem_nil, or_false] at ht
  rcases ht with rfl
  all_goals exact ⟨by kernel_rfl, of_decide_eq_true (by kernel_rfl)⟩

theorem contract_nestBlocks (H : Type) (enc : TypeId × Value → H) (W : World) (base : Nat) (args : Array Value) (ds gs : List (DataW H)) (before : List MemPlace)
    (hval : ∀ (j : Nat) t v, Try.f4.params[j]? = some t → args[j]? = some v → Value.okWide Try.prog W .any base t v)
    (hW : DataW.Whole enc Try.prog Try.f4.params.toList Rows.nestBlocksSpec.vars false W args.toList ds gs before) :
    Calls Try.prog 4 args W fun e W' => ∃ v, e = .returned v ∧ Rows.nestBlocksSpec.post enc Try.prog Try.f4 false true false false W args v W' := by
  refine law_contract (s := Rows.nestBlocksSpec) (f := Try.f4) (tb := 4) [.sl tyI] ?_ laidOut ?_ rfl ?_ (by kernel_rfl) (by kernel_rfl) (p_one w_blocks) W base args ds gs before hval hW
  · rw [Try.params4]; exact ⟨ty22b, trivial⟩
  · rw [Try.params4]; exact mem_nestBlocks
  · intro ds h
    match ds, h with
    | [d0], _ => exact ⟨rfl, rfl, rfl⟩

set_option maxRecDepth 100000 in
theorem lifted_nestBlocks (os : Os) (started : os.Started) (H : Type) (enc : TypeId × Value → H) :
    ReturnsInHanded {} Try.checked os 4 .any (Rows.nestBlocksSpec.pre6 enc Try.prog Try.f4 Rows.nestBlocksRow.domain false) (Rows.nestBlocksSpec.post enc Try.prog Try.f4 false true false false) := by
  refine returnsInHanded_of_change (C := Try.checked) own started (by kernel_rfl) Try.func4
    (ChangeSpec.witness6 (enc := enc) (C := Try.checked) false ⟨#[], #[.slice none 0 0], []⟩ 8 (by kernel_rfl) (by kernel_rfl) (by kernel_rfl) (by kernel_rfl)) ?_
  intro W base args ds gs before hval hW _ _
  exact contract_nestBlocks H enc W base args ds gs before hval hW

theorem nestBlocks_holds : Rows.NestBlocksSaid :=
  OpenClaim.holds_of_wide 4 Try.f4 rfl rfl rfl rfl rfl rfl rfl ⟨rfl, rfl, rfl, rfl, rfl⟩ rfl rfl rfl rfl rfl (by kernel_rfl) Try.func4 (by kernel_rfl)
    (of_decide_eq_true (by kernel_rfl)) (by unfold Func.isWrapper; first | (rw [if_pos (by decide +kernel)]; kernel_rfl) | (rw [if_neg (by decide +kernel)]; exact ⟨rfl, rfl⟩))
    (fun os started H enc _ => lifted_nestBlocks os started H enc)

theorem mem_nestTargets : ∀ t ∈ [22, 3, 3], Try.prog.readableRec t = true ∧ t < Try.prog.types.size := by
  intro t ht
  simp only [List.mem_cons, List.not_mem_nil, or_false] at ht
  rcases ht with rfl | rfl | rfl
  all_goals exact ⟨by kernel_rfl, of_decide_eq_true (by kernel_rfl)⟩

theorem contract_nestTargets (H : Type) (enc : TypeId × Value → H) (W : World) (base : Nat) (args : Array Value) (ds gs : List (DataW H)) (before : List MemPlace)
    (hval : ∀ (j : Nat) t v, Try.f5.params[j]? = some t → args[j]? = some v → Value.okWide Try.prog W .any base t v)
    (hW : DataW.Whole enc Try.prog Try.f5.params.toList Rows.nestTargetsSpec.vars false W args.toList ds gs before) :
    Calls Try.prog 5 args W fun e W' => ∃ v, e = .returned v ∧ Rows.nestTargetsSpec.post enc Try.prog Try.f5 false true false false W args v W' := by
  refine law_contract (s := Rows.nestTargetsSpec) (f := Try.f5) (tb := 4) [.sl tyI, .int .i64, .int .i64] ?_ laidOut ?_ rfl ?_ (by kernel_rfl) (by kernel_rfl) (p_targets) W base args ds gs before hval hW
  · rw [Try.params5]; exact ⟨ty22b, ty3, ty3, trivial⟩
  · rw [Try.params5]; exact mem_nestTargets
  · intro ds h
    match ds, h with
    | [d0, d1, d2], _ => exact ⟨rfl, rfl, rfl⟩

set_option maxRecDepth 100000 in
theorem lifted_nestTargets (os : Os) (started : os.Started) (H : Type) (enc : TypeId × Value → H) :
    ReturnsInHanded {} Try.checked os 5 .any (Rows.nestTargetsSpec.pre6 enc Try.prog Try.f5 Rows.nestTargetsRow.domain false) (Rows.nestTargetsSpec.post enc Try.prog Try.f5 false true false false) := by
  refine returnsInHanded_of_change (C := Try.checked) own started (by kernel_rfl) Try.func5
    (ChangeSpec.witness6 (enc := enc) (C := Try.checked) false ⟨#[], #[.slice none 0 0, .int .i64 0, .int .i64 0], []⟩ 8 (by kernel_rfl) (by kernel_rfl) (by kernel_rfl) (by kernel_rfl)) ?_
  intro W base args ds gs before hval hW _ _
  exact contract_nestTargets H enc W base args ds gs before hval hW

theorem nestTargets_holds : Rows.NestTargetsSaid :=
  OpenClaim.holds_of_wide 5 Try.f5 rfl rfl rfl rfl rfl rfl rfl ⟨rfl, rfl, rfl, rfl, rfl⟩ rfl rfl rfl rfl rfl (by kernel_rfl) Try.func5 (by kernel_rfl)
    (of_decide_eq_true (by kernel_rfl)) (by unfold Func.isWrapper; first | (rw [if_pos (by decide +kernel)]; kernel_rfl) | (rw [if_neg (by decide +kernel)]; exact ⟨rfl, rfl⟩))
    (fun os started H enc _ => lifted_nestTargets os started H enc)

end Go.Proofs.Ytlmnepdibhdpaaa
