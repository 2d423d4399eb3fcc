/-
  A law whose body returns true over all abstract arguments of its parameters' types: its contract, in the form the statements want.
-/
import Derived.Test.YtkejmhpodhbeeaaDoorMwZ
set_option linter.unusedSectionVars false
namespace Go.Mw
open Go.ChangeShapes Go.WideShapes Go.ChangeAt Go.RowKit

def Ty.isRec : Ty → Bool
  | .nil => true
  | .cons _ _ => true
  | _ => false
/-- A whole value of a type. -/
def Ty.okV (τ : Ty) (x : AV) : Prop := match τ.isRec with
  | true => ∃ xs, x = .agg xs ∧ τ.ok xs
  | false => τ.ok [x]
/-- A nil slice may be taken as an empty one. -/
def nlc (x y : AV) : Prop := x = y ∨ (x = .nl ∧ ∃ st, y = .sl st [])

section
variable {H : Type} {enc : TypeId × Value → H} {P : Program} [Tabs P] {w : World} {base : Nat} {sp : Nat → Bool} {held : Bool}

theorem tyFs_isRec {g : TypeId → Option Ty} : ∀ {fs : List Field} {off : Nat} {τ : Ty}, tyFs g P off fs = some τ → τ.isRec = true
  | [], off, τ, h => by simp only [tyFs, Option.some.injEq] at h; subst h; rfl
  | f :: fs, off, τ, h => by
    simp only [tyFs] at h
    split at h
    case isFalse => cases h
    split at h
    case h_2 => cases h
    split at h
    case isFalse => cases h
    cases h
    rfl

theorem arg_ok {f : Nat} {t : TypeId} {τ : Ty} {r : Reach} {b : Nat} {v : Value} {d : DataW H} {p : List MemPlace} (ht : tyOf P f t = some τ) (hv : Value.okWide P w r b t v) (h : DataW.Trod enc P w base sp held t v d p) :
    ∃ x, τ.okV x ∧ VRel (fun _ => none) (fun _ => False) w v x := by
  obtain ⟨fuel, h⟩ := h
  obtain ⟨xs, h1, h2⟩ := trod_ok fuel f t _ _ _ ht h
  have one : τ.isRec = false → v.cells.toList = [v] → ∃ x, τ.okV x ∧ VRel (fun _ => none) (fun _ => False) w v x := fun hr hc => by
    rw [hc] at h2
    match xs, h2 with
    | [x], h2 => exact ⟨x, by unfold Ty.okV; rw [hr]; exact h1, h2.1.toV⟩
  cases f with
  | zero => simp [tyOf] at ht
  | succ f =>
    simp only [tyOf] at ht
    unfold Value.okWide at hv
    split at ht
    · rename_i hu
      rw [hu] at hv
      cases ht
      exact one rfl (by
        unfold Cell.okWide at hv; rw [hu] at hv
        simp only [Cell.ok, hu] at hv
        cases v <;> first | rfl | exact hv.elim)
    · rename_i k hu
      rw [hu] at hv
      cases ht
      exact one rfl (by
        unfold Cell.okWide at hv; rw [hu] at hv
        simp only [Cell.ok, hu] at hv
        cases v <;> first | rfl | exact hv.elim)
    · rename_i hu
      rw [hu] at hv
      cases ht
      exact one rfl (by
        unfold Cell.okWide at hv; rw [hu] at hv
        simp only [Cell.ok, hu] at hv
        cases v <;> first | rfl | exact hv.elim)
    · rename_i e hu
      rw [hu] at hv
      have hr : τ.isRec = false := by
        split at ht
        case h_2 => cases ht
        split at ht
        case isFalse => cases ht
        cases ht
        rfl
      exact one hr (by
        unfold Cell.okWide at hv; rw [hu] at hv
        simp only [Cell.ok, hu] at hv
        cases v <;> first | rfl | exact hv.elim)
    · rename_i fs hu
      rw [hu] at hv
      have hr : τ.isRec = true := by
        split at ht
        case h_2 => cases ht
        rename_i hfs
        split at ht
        case isFalse => cases ht
        cases ht
        exact tyFs_isRec hfs
      obtain ⟨cs, rfl, _, _⟩ := hv
      refine ⟨.agg xs, by unfold Ty.okV; rw [hr]; exact ⟨xs, rfl, h1⟩, cs.toList, by simp, ?_⟩
      exact All2.mono h2 fun a x _ h => h.toC
    · cases ht

theorem args_ok {r : Reach} {b : Nat} : ∀ {ts : List TypeId} {τs : List Ty} {vs : List Value} {ds : List (DataW H)} {ps : List MemPlace}, All2 (fun t τ => tyOf P 9 t = some τ) ts τs →
    DataW.TrodAll enc P w base sp held ts vs ds ps → (∀ (j : Nat) t v, ts[j]? = some t → vs[j]? = some v → Value.okWide P w r b t v) → ∃ xs, All2 Ty.okV τs xs ∧ All2 (VRel (fun _ => none) (fun _ => False) w) vs xs
  | [], [], [], ds, ps, _, h, _ => ⟨[], trivial, trivial⟩
  | t :: ts, τ :: τs, v :: vs, d :: ds, ps, ht, h, hv => by
    obtain ⟨p, q, h3, h4, rfl⟩ := h
    obtain ⟨x, h5, h6⟩ := arg_ok ht.1 (hv 0 t v rfl rfl) h3
    obtain ⟨xs, h7, h8⟩ := args_ok ht.2 h4 (fun j t v h1 h2 => hv (j + 1) t v (by simpa using h1) (by simpa using h2))
    exact ⟨x :: xs, ⟨h5, h7⟩, h6, h8⟩
  | [], [], _ :: _, _, _, _, h, _ => h.elim
  | _ :: _, [], _, _, _, ht, _, _ => ht.elim
  | [], _ :: _, _, _, _, ht, _, _ => ht.elim
  | _ :: _, _ :: _, [], _, _, _, h, _ => h.elim
  | _ :: _, _ :: _, _ :: _, [], _, _, h, _ => h.elim

theorem nlc_rel : ∀ {vs : List Value} {xs ys : List AV}, All2 nlc xs ys → All2 (VRel (fun _ => none) (fun _ => False) w) vs xs → All2 (VRel (fun _ => none) (fun _ => False) w) vs ys
  | [], [], [], _, h => h
  | v :: vs, x :: xs, y :: ys, hc, h => by
    refine ⟨?_, nlc_rel hc.2 h.2⟩
    rcases hc.1 with rfl | ⟨rfl, st, rfl⟩
    · exact h.1
    · have h1 : IRel (fun _ => False) w v .nl := h.1
      cases h1
      exact IRel.toV (.nls st)
  | _, [], _ :: _, h, _ => h.elim
  | _, _ :: _, [], h, _ => h.elim
  | [], _ :: _, _, _, h => h.elim
  | _ :: _, [], _, _, h => h.elim

theorem pcalls_run2 {f : FuncId} {args : List AV} {r : Bool} (hp : PCalls P f args (.bool r)) {w : World} {cargs : List Value} (hT : (Tabs.T P).H w) (ha : All2 (VRel (fun _ => none) (fun _ => False) w) cargs args) :
    Calls P f cargs.toArray w fun e w' => e = .returned (.bool r) ∧ Kept w w' := by
  have hM : Mut (fun _ => none) (fun _ => False) (hget []) = fun _ => False := by
    funext b
    apply propext
    constructor
    · rintro (h | ⟨i, o, h, _⟩)
      · exact h
      · simp [hget] at h
    · exact False.elim
  refine (hp (fun _ => none) (fun _ => False) w cargs hT (fun _ _ hm => hm.elim id fun ⟨_, _, hi, _⟩ => by simp [hget] at hi) ⟨fun i o h => by simp [hget] at h, fun i _ o _ _ h => by simp [hget] at h⟩ (fun _ h => h.elim) (by rw [hM]; exact ha)).mono fun e w' => ?_
  rintro ⟨v, r', σ', bl', rfl, ⟨rfl, rfl⟩, _, _, hv, hst, _, _⟩
  have hv' := hv.bool
  subst hv'
  exact ⟨rfl, hst.size, fun b hb => hst.keep b hb (fun ⟨i, o, h, _⟩ => by simp [hget] at h), hst.os, hst.out⟩

/-- The contract of a law. -/
theorem law_contract {fid : FuncId} {f : Func} {s : ChangeSpec} (τs : List Ty) {tb : TypeId} {apart fresh handsOn again : Bool} (hty : All2 (fun t τ => tyOf P 9 t = some τ) f.params.toList τs) (hl : laidOutB P = true)
    (hr : ∀ t ∈ f.params.toList, P.readableRec t = true ∧ t < P.types.size) (hvs : s.vars = [])
    (hfn : ∀ ds : List (DataW H), ds.length = τs.length → (s.fn H ds).results = [.lit (.bool true)] ∧ (s.fn H ds).args = ds ∧ (s.fn H ds).vars = [])
    (hrt : f.resultTypes = #[tb]) (htb : P.underlying tb = some .bool)
    (hp : ∀ xs, All2 Ty.okV τs xs → ∃ ys, All2 nlc xs ys ∧ PCalls P fid ys (.bool true))
    (W : World) (b : Nat) (args : Array Value) (ds gs : List (DataW H)) (before : List MemPlace) {r : Reach} (hT : (Tabs.T P).H W)
    (hval : ∀ (j : Nat) t v, f.params[j]? = some t → args[j]? = some v → Value.okWide P W r b t v)
    (hW : DataW.Whole enc P f.params.toList s.vars apart W args.toList ds gs before) :
    Calls P fid args W fun e W' => ∃ v, e = .returned v ∧ s.post enc P f apart fresh handsOn again W args v W' := by
  have hW' := hW
  obtain ⟨p, q, hA, hV, _, _, _⟩ := hW
  rw [hvs] at hV
  obtain ⟨rfl, rfl⟩ := trodVars_none hV
  obtain ⟨xs, h1, h2⟩ := args_ok hty hA (fun j t v h1 h2 => hval j t v (by simpa using h1) (by simpa using h2))
  obtain ⟨ys, h3, h4⟩ := hp xs h1
  have hlen : ds.length = τs.length := by
    have key : ∀ {ts : List TypeId} {vs : List Value} {ds : List (DataW H)} {ps : List MemPlace}, DataW.TrodAll enc P W 0 (fun _ => true) true ts vs ds ps → ds.length = ts.length := by
      intro ts
      induction ts with
      | nil => intro vs ds ps h; match vs, ds, h with | [], [], _ => rfl
      | cons t ts ih => intro vs ds ps h; match vs, ds, h with | v :: vs, d :: ds, ⟨_, _, _, h4, _⟩ => simp [ih h4]
    rw [key hA, hty.length]
  obtain ⟨g1, g2, g3⟩ := hfn ds hlen
  have := pcalls_run2 h4 hT (nlc_rel h3 h2)
  rw [show args.toList.toArray = args from by simp] at this
  refine this.mono fun e W' ⟨he, hk⟩ => ⟨_, he, ?_⟩
  exact law_post hl hr hvs (by simpa using g1) (by simpa using g2) (by simpa using g3) hrt htb hW' hk
end
end Go.Mw
