/-
  Regions whose order is open: any order comes to what the order of the text comes to.
-/
import Derived.Test.YtkejmhpodhbeeaaDoorMwP
set_option linter.unusedSectionVars false
namespace Go.Mw

structure Item where
  i : Nat
  bef : List Nat
  o : IOper
  ev : Option (AV × Eff)
  x : HI

def T (P : Program) [Tabs P] : List Item → (Nat → AV) → (Nat → Option AObj) → (Nat → AV) → (Nat → Option AObj) → Prop
  | [], g, h, g', h' => g' = g ∧ h' = h
  | t :: R, g, h, g', h' => ∃ g1 h1, StepC P t.o g h t.ev t.x g1 h1 ∧ T P R g1 h1 g' h'

section
variable {P : Program} [Tabs P]

theorem front : ∀ (A : List Item) (t : Item) (B : List Item) (g : Nat → AV) (h : Nat → Option AObj) (g' : Nat → AV) (h' : Nat → Option AObj), T P (A ++ t :: B) g h g' h' →
    (∀ m ∈ A, Apart m.o t.o ∧ Meet t.x m.x) → (∀ m ∈ A, constOk m.o.op = true) → constOk t.o.op = true → ∃ g1 h1, StepC P t.o g h t.ev t.x g1 h1 ∧ T P (A ++ B) g1 h1 g' h'
  | [], t, B, g, h, g', h', ht, _, _, _ => ht
  | m :: A, t, B, g, h, g', h', ht, hm, hc, hct => by
    obtain ⟨g1, h1, s1, ht⟩ := ht
    obtain ⟨g2, h2, s2, ht⟩ := front A t B g1 h1 g' h' ht (fun q hq => hm q (by simp [hq])) (fun q hq => hc q (by simp [hq])) hct
    obtain ⟨q1, q2⟩ := hm m (by simp)
    obtain ⟨g3, h3, s3, s4⟩ := swap s1 s2 q1 q2 (hc m (by simp)) hct
    exact ⟨g3, h3, s3, g2, h2, s4, ht⟩

/-- What the walk in the order of the text gives. -/
def Held (al : List (Nat × Nat)) : List HI → List Item → Prop
  | _, [] => True
  | hist, t :: R => t.x.i = t.i ∧ (∀ y ∈ hist, y.i ∈ t.bef ∨ Meet t.x y) ∧ (∀ d, d ∈ idsV (evV t.ev) ∨ d ∈ (evE t.ev).ids → ∀ m, (d, m) ∈ al → m = t.i ∨ m ∈ t.bef) ∧ Held al (t.x :: hist) R

theorem histOk_meet {bef : List Nat} {x : HI} {hist : List HI} (hh : histOk bef x hist = true) : ∀ y ∈ hist, y.i ∈ bef ∨ Meet x y := fun y hy => by
  have := List.all_eq_true.1 hh y hy
  simp only [Bool.or_eq_true, List.contains_eq_mem, decide_eq_true_eq] at this
  exact this.imp id Meet.of

theorem newOk_spec {al : List (Nat × Nat)} {bef : List Nat} {x : HI} (hh : newOk al bef x = true) : ∀ d ∈ x.res, ∀ m, (d, m) ∈ al → m = x.i ∨ m ∈ bef := fun d hd m hm => by
  have := List.all_eq_true.1 hh (d, m) hm
  simp only [Bool.or_eq_true, List.contains_eq_mem, decide_eq_true_eq, Bool.not_eq_true', decide_eq_false_iff_not, beq_iff_eq] at this
  rcases this with (h1 | h1) | h1
  · exact absurd hd h1
  · exact .inl h1
  · exact .inr h1

theorem put_env (s : St) (d : Option Nat) (x : AV) : get (s.put d x).env = putF (get s.env) d x := by
  funext k
  cases d with
  | none => rfl
  | some d =>
    simp only [St.put, get, putF, upd, get_del]
    by_cases hk : k = d
    · subst hk; simp
    · simp [hk, Ne.symm hk]
theorem put_heap (s : St) (d : Option Nat) (x : AV) : (s.put d x).heap = s.heap := by cases d <;> rfl

theorem plainOk_spec {o : IOp} {s : St} {e : Eff} (hp : plainOk o s e = true) : (∀ k ∈ opSlots o, get s.env k ≠ .any) ∧ ∀ i o', e = .reb i o' → ∀ j q, hget s.heap j = some q → i ∉ idsO q := by
  simp only [plainOk, Bool.and_eq_true, List.all_eq_true, Bool.or_eq_true, Bool.not_eq_true'] at hp
  refine ⟨fun k hk he => ?_, fun i o' he j q hq => ?_⟩
  · have := hp.1 k hk
    rw [he] at this
    cases this
  · subst he
    rcases hp.2 with h1 | h1
    · cases h1
    · have hmem : ∀ {σ : List (Nat × AObj)}, hget σ j = some q → (j, q) ∈ σ := by
        intro σ
        induction σ with
        | nil => intro hi; simp [hget] at hi
        | cons p l ih =>
          intro hi
          obtain ⟨k, x⟩ := p
          simp only [hget] at hi
          split at hi
          · rename_i hk; cases hi; subst hk; simp
          · exact List.mem_cons_of_mem _ (ih hi)
      have := h1 i (by simp [Eff.tch]) (j, q) (hmem hq)
      simpa using this

/-- The objects to be made are not there yet. -/
def Un (al : List (Nat × Nat)) (p : Nat → Prop) (g : Nat → AV) (h : Nat → Option AObj) : Prop := ∀ d m, (d, m) ∈ al → p m → h d = none ∧ Unnamed d g h

theorem aev_new {d : Nat} {op : IOp} {ρ : IV → AV} {h : Nat → Option AObj} {v : AV} {i : Nat} {ob : AObj} (hr : aev d op ρ h = some (v, .new i ob)) : allocs op = true ∧ i = d := by
  have happ : ∀ {t st x src}, aApp d t st x src h = some (v, .new i ob) → i = d := by
    intro t st x src ha
    unfold aApp at ha
    split at ha
    · cases ha
    · split at ha
      · split at ha
        · cases ha; rfl
        · split at ha
          · split at ha <;> cases ha
          · cases ha
        · cases ha
      · cases ha
  have hres : ∀ {y : Option AV}, res y ≠ some (v, .new i ob) := fun hh => by
    have := (res_some hh).2
    cases this
  cases op <;> simp only [aev] at hr
  case app => exact ⟨rfl, happ hr⟩
  case apps => exact ⟨rfl, happ hr⟩
  case new => cases hr; exact ⟨rfl, rfl⟩
  case box =>
    split at hr
    · split at hr
      · cases hr; exact ⟨rfl, rfl⟩
      · cases hr
    · cases hr
  case bsl =>
    split at hr
    · cases hr; exact ⟨rfl, rfl⟩
    · cases hr
  case cvb =>
    split at hr
    · split at hr
      · cases hr; exact ⟨rfl, rfl⟩
      · cases hr
    · cases hr
  case mks =>
    split at hr
    · split at hr
      · cases hr; exact ⟨rfl, rfl⟩
      · cases hr
    · cases hr
  all_goals
    exfalso
    first
      | exact hres hr
      | (cases hr; done)
      | (simp only [Option.map_eq_some_iff, Prod.mk.injEq] at hr
         obtain ⟨e', h1, _, h2⟩ := hr
         subst h2
         unfold aStore at h1
         repeat' (split at h1)
         all_goals cases h1)
      | (repeat' (split at hr)
         all_goals first | (cases hr; done) | exact hres hr)

/-- What an operation writes or binds anew is named by an operand. -/
theorem aev_tch {d : Nat} {op : IOp} {g : Nat → AV} {h : Nat → Option AObj} {v : AV} {e : Eff} (hr : aev d op (val g) h = some (v, e)) (hc : constOk op = true) : ∀ i ∈ e.tch, (∃ ob, e = .new i ob) ∨ ∃ k ∈ opSlots op, i ∈ idsV (g k) := by
  have iv : ∀ {x : IV} {i : Nat}, ivConst x = true → i ∈ idsV (val g x) → (∀ k ∈ ivSlots x, k ∈ opSlots op) → ∃ k ∈ opSlots op, i ∈ idsV (g k) := by
    intro x i hx hi hs
    cases x with
    | s k => exact ⟨k, hs k (by simp [ivSlots]), hi⟩
    | c y => simp [ivConst] at hx; rw [show val g (.c y) = y from rfl, hx] at hi; cases hi
  have happ : ∀ {t st src} {x : IV}, ivConst x = true → (∀ k ∈ ivSlots x, k ∈ opSlots op) → aApp d t st (val g x) src h = some (v, e) → ∀ i ∈ e.tch, (∃ ob, e = .new i ob) ∨ ∃ k ∈ opSlots op, i ∈ idsV (g k) := by
    intro t st src x hx hs ha i hi
    unfold aApp at ha
    split at ha
    · cases ha
    · split at ha
      · split at ha
        · cases ha; simp [Eff.tch] at hi; subst hi; exact .inl ⟨_, rfl⟩
        · rename_i hv
          split at ha
          · split at ha
            · cases ha
              simp [Eff.tch] at hi
              subst hi
              exact .inr (iv hx (by rw [hv]; simp [idsV_ms]) hs)
            · cases ha
          · cases ha
        · cases ha
      · cases ha
  intro i hi
  cases e with
  | no => simp [Eff.tch] at hi
  | new j ob => simp [Eff.tch] at hi; subst hi; exact .inl ⟨_, rfl⟩
  | put j ob =>
    cases op <;> simp only [aev] at hr
    case store n p x =>
      simp only [constOk, Bool.and_eq_true] at hc
      simp only [Option.map_eq_some_iff, Prod.mk.injEq] at hr
      obtain ⟨e', h1, _, h2⟩ := hr
      subst h2
      unfold aStore at h1
      split at h1
      · rename_i id st row off cs hv _
        refine .inr (iv hc.1 ?_ (fun k hk => by simp only [opSlots, List.mem_append]; exact .inl hk))
        rw [hv]
        repeat' (split at h1)
        all_goals first | (cases h1; done) | skip
        cases h1
        simp [Eff.tch] at hi
        simp [idsV_mp, hi]
      · cases h1
    case app t st x y => simp only [constOk, Bool.and_eq_true] at hc; exact happ hc.1 (fun k hk => by simp only [opSlots, List.mem_append]; exact .inl hk) hr i hi
    case apps t x y => simp only [constOk, Bool.and_eq_true] at hc; exact happ hc.1 (fun k hk => by simp only [opSlots, List.mem_append]; exact .inl hk) hr i hi
    all_goals
      exfalso
      first
        | exact absurd (res_some hr).2 (by simp)
        | (cases hr; done)
        | (repeat' (split at hr)
           all_goals first | (cases hr; done) | exact absurd (res_some hr).2 (by simp))
  | reb j ob =>
    cases op <;> simp only [aev] at hr
    case app t st x y => simp only [constOk, Bool.and_eq_true] at hc; exact happ hc.1 (fun k hk => by simp only [opSlots, List.mem_append]; exact .inl hk) hr i hi
    case apps t x y => simp only [constOk, Bool.and_eq_true] at hc; exact happ hc.1 (fun k hk => by simp only [opSlots, List.mem_append]; exact .inl hk) hr i hi
    all_goals
      exfalso
      first
        | exact absurd (res_some hr).2 (by simp)
        | (cases hr; done)
        | (simp only [Option.map_eq_some_iff, Prod.mk.injEq] at hr
           obtain ⟨e', h1, _, h2⟩ := hr
           subst h2
           unfold aStore at h1
           repeat' (split at h1)
           all_goals cases h1)
        | (repeat' (split at hr)
           all_goals first | (cases hr; done) | exact absurd (res_some hr).2 (by simp))
end
end Go.Mw
