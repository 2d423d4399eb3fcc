/-
  Chapter 9: the laws NestWithin and NestFronts: for every input the call returns true, and the arguments read as before.
-/
import Derived.Test.YtlmnepdibhdpaaaL1
import Derived.Test.YtlmnepdibhdpaaaWi
import Derived.Test.YtlmnepdibhdpaaaWj
namespace Go.Proofs.Ytlmnepdibhdpaaa
open Go Go.Mw
open Go.ChangeShapes Go.WideShapes Go.ChangeAt Go.RowKit

theorem ty5 : tyOf Try.prog 9 5 = some (.int .u8) := by kernel_rfl
theorem ty41 : tyOf Try.prog 9 41 = some tyI := by kernel_rfl

theorem p_fronts (xs : List AV) (h : All2 Ty.okV [.sl tyI, .int .u8, tyI] xs) : ∃ ys, All2 nlc xs ys ∧ PCalls Try.prog 7 ys (.bool true) := by
  obtain ⟨x, y, z, rfl, h0, h1, h2⟩ := ok3 h
  obtain ⟨B, hB⟩ := body_nlc h0
  obtain ⟨c, hc, hw⟩ := h1
  simp only [List.cons.injEq, and_true] at hc
  subst hc
  obtain ⟨zs, rfl, h3⟩ := h2
  obtain ⟨i, rfl⟩ := ins_ok h3
  have hx : 0 ≤ c ∧ c ≤ 255 := by simpa [Lit.wf, IntKind.min, IntKind.max, IntKind.signed, IntKind.bits] using hw
  exact ⟨[.sl 9 (B.map Ins.row), .int .u8 c, .agg i.row], ⟨hB, .inl rfl, .inl rfl, trivial⟩, w_fronts B c i (by omega)⟩

theorem mem_nestWithin : ∀ t ∈ [22], Try.prog.readableRec t = true ∧ t < Try.prog.types.size := by
  intro t ht
  simp only [List.mem_cons, List.not_mem_nil, or_false] at ht
  rcases ht with rfl
  all_goals exact ⟨by kernel_rfl, of_decide_eq_true (by kernel_rfl)⟩

theorem contract_nestWithin (H : Type) (enc : TypeId × Value → H) (W : World) (base : Nat) (args : Array Value) (ds gs : List (DataW H)) (before : List MemPlace)
    (hval : ∀ (j : Nat) t v, Try.f6.params[j]? = some t → args[j]? = some v → Value.okWide Try.prog W .any base t v)
    (hW : DataW.Whole enc Try.prog Try.f6.params.toList Rows.nestWithinSpec.vars false W args.toList ds gs before) :
    Calls Try.prog 6 args W fun e W' => ∃ v, e = .returned v ∧ Rows.nestWithinSpec.post enc Try.prog Try.f6 false true false false W args v W' := by
  refine law_contract (s := Rows.nestWithinSpec) (f := Try.f6) (tb := 4) [.sl tyI] ?_ laidOut ?_ rfl ?_ (by kernel_rfl) (by kernel_rfl) (p_one w_within) W base args ds gs before hval hW
  · rw [Try.params6]; exact ⟨ty22b, trivial⟩
  · rw [Try.params6]; exact mem_nestWithin
  · intro ds h
    match ds, h with
    | [d0], _ => exact ⟨rfl, rfl, rfl⟩

set_option maxRecDepth 100000 in
theorem lifted_nestWithin (os : Os) (started : os.Started) (H : Type) (enc : TypeId × Value → H) :
    ReturnsInHanded {} Try.checked os 6 .any (Rows.nestWithinSpec.pre6 enc Try.prog Try.f6 Rows.nestWithinRow.domain false) (Rows.nestWithinSpec.post enc Try.prog Try.f6 false true false false) := by
  refine returnsInHanded_of_change (C := Try.checked) own started (by kernel_rfl) Try.func6
    (ChangeSpec.witness6 (enc := enc) (C := Try.checked) false ⟨#[], #[.slice none 0 0], []⟩ 8 (by kernel_rfl) (by kernel_rfl) (by kernel_rfl) (by kernel_rfl)) ?_
  intro W base args ds gs before hval hW _ _
  exact contract_nestWithin H enc W base args ds gs before hval hW

theorem nestWithin_holds : Rows.NestWithinSaid :=
  OpenClaim.holds_of_wide 6 Try.f6 rfl rfl rfl rfl rfl rfl rfl ⟨rfl, rfl, rfl, rfl, rfl⟩ rfl rfl rfl rfl rfl (by kernel_rfl) Try.func6 (by kernel_rfl)
    (of_decide_eq_true (by kernel_rfl)) (by unfold Func.isWrapper; first | (rw [if_pos (by decide +kernel)]; kernel_rfl) | (rw [if_neg (by decide +kernel)]; exact ⟨rfl, rfl⟩))
    (fun os started H enc _ => lifted_nestWithin os started H enc)

theorem mem_nestFronts : ∀ t ∈ [22, 5, 41], Try.prog.readableRec t = true ∧ t < Try.prog.types.size := by
  intro t ht
  simp only [List.mem_cons, List.not_mem_nil, or_false] at ht
  rcases ht with rfl | rfl | rfl
  all_goals exact ⟨by kernel_rfl, of_decide_eq_true (by kernel_rfl)⟩

theorem contract_nestFronts (H : Type) (enc : TypeId × Value → H) (W : World) (base : Nat) (args : Array Value) (ds gs : List (DataW H)) (before : List MemPlace)
    (hval : ∀ (j : Nat) t v, Try.f7.params[j]? = some t → args[j]? = some v → Value.okWide Try.prog W .any base t v)
    (hW : DataW.Whole enc Try.prog Try.f7.params.toList Rows.nestFrontsSpec.vars false W args.toList ds gs before) :
    Calls Try.prog 7 args W fun e W' => ∃ v, e = .returned v ∧ Rows.nestFrontsSpec.post enc Try.prog Try.f7 false true false false W args v W' := by
  refine law_contract (s := Rows.nestFrontsSpec) (f := Try.f7) (tb := 4) [.sl tyI, .int .u8, tyI] ?_ laidOut ?_ rfl ?_ (by kernel_rfl) (by kernel_rfl) (p_fronts) W base args ds gs before hval hW
  · rw [Try.params7]; exact ⟨ty22b, ty5, ty41, trivial⟩
  · rw [Try.params7]; exact mem_nestFronts
  · intro ds h
    match ds, h with
    | [d0, d1, d2], _ => exact ⟨rfl, rfl, rfl⟩

set_option maxRecDepth 100000 in
theorem lifted_nestFronts (os : Os) (started : os.Started) (H : Type) (enc : TypeId × Value → H) :
    ReturnsInHanded {} Try.checked os 7 .any (Rows.nestFrontsSpec.pre6 enc Try.prog Try.f7 Rows.nestFrontsRow.domain false) (Rows.nestFrontsSpec.post enc Try.prog Try.f7 false true false false) := by
  refine returnsInHanded_of_change (C := Try.checked) own started (by kernel_rfl) Try.func7
    (ChangeSpec.witness6 (enc := enc) (C := Try.checked) false ⟨#[], #[.slice none 0 0, .int .u8 0, .agg #[.int .i64 0, .int .i64 0, .int .i64 0, .int .u64 0, .int .i64 0, .int .i64 0, .int .i64 0, .slice none 0 0, .slice none 0 0]], []⟩ 8 (by kernel_rfl) (by kernel_rfl) (by kernel_rfl) (by kernel_rfl)) ?_
  intro W base args ds gs before hval hW _ _
  exact contract_nestFronts H enc W base args ds gs before hval hW

theorem nestFronts_holds : Rows.NestFrontsSaid :=
  OpenClaim.holds_of_wide 7 Try.f7 rfl rfl rfl rfl rfl rfl rfl ⟨rfl, rfl, rfl, rfl, rfl⟩ rfl rfl rfl rfl rfl (by kernel_rfl) Try.func7 (by kernel_rfl)
    (of_decide_eq_true (by kernel_rfl)) (by unfold Func.isWrapper; first | (rw [if_pos (by decide +kernel)]; kernel_rfl) | (rw [if_neg (by decide +kernel)]; exact ⟨rfl, rfl⟩))
    (fun os started H enc _ => lifted_nestFronts os started H enc)

end Go.Proofs.Ytlmnepdibhdpaaa
