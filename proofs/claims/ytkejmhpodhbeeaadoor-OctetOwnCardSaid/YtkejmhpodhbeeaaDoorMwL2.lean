/-
  Arrays that are written no more are frozen.
-/
import Derived.Test.YtkejmhpodhbeeaaDoorMwL
namespace Go.Mw

section
variable {c : Ctx} {bl : Nat → Option Nat} {g : Nat → AV} {h : Nat → Option AObj} {a : Act} {w : World}

theorem frzO_t (i : Nat) (o o1 : AObj) : (frzO i o o1).t = o1.t := by unfold frzO; split <;> rfl
theorem frzO_st (i : Nat) (o o1 : AObj) : (frzO i o o1).st = o1.st := by unfold frzO; split <;> rfl
theorem frzO_rec (i : Nat) (o o1 : AObj) : (frzO i o o1).isRec = o1.isRec := by unfold frzO; split <;> rfl

/-- An array is written no more: what names it reads it out. -/
theorem SatB.freeze (s : SatB c bl g h a w) {i : Nat} {o : AObj} (hi : h i = some o) (hrec : o.isRec = false) :
    SatB c bl (fun k => frzV i o (g k)) (fun j => if j = i then none else (h j).map (frzO i o)) a w ∧
      ∀ v x, VRel bl (Mut bl c.MF h) w v x → VRel bl (Mut bl c.MF (fun j => if j = i then none else (h j).map (frzO i o))) w v (frzV i o x) := by
  have hsub : ∀ {j q}, (if j = i then none else (h j).map (frzO i o)) = some q → j ≠ i ∧ ∃ q0, h j = some q0 ∧ q = frzO i o q0 := fun {j q} hj => by
    split at hj
    · cases hj
    · rename_i hne
      simp only [Option.map_eq_some_iff] at hj
      obtain ⟨q0, h1, h2⟩ := hj
      exact ⟨hne, q0, h1, h2.symm⟩
  have hmut : ∀ q, Mut bl c.MF (fun j => if j = i then none else (h j).map (frzO i o)) q → Mut bl c.MF h q := by
    rintro q (hm | ⟨j, oj, h1, h2⟩)
    · exact .inl hm
    · obtain ⟨_, q0, h3, _⟩ := hsub h1
      exact .inr ⟨j, q0, h3, h2⟩
  have ht : Tr (Mut bl c.MF h) (Mut bl c.MF (fun j => if j = i then none else (h j).map (frzO i o))) w w := ⟨fun b hb _ => ⟨fun hm => hb (hmut b hm), rfl⟩, fun _ c1 _ _ hb => ⟨c1, hb, rfl⟩⟩
  have hP : ∀ {v x}, PRel bl (Mut bl c.MF h) w v x → PRel bl (Mut bl c.MF (fun j => if j = i then none else (h j).map (frzO i o))) w v (frzP i o x) := fun {v x} hv => by
    rcases s.heap.1 i o hi with hn | ⟨b, hb, hO⟩
    · exact frzP_rel (b := w.heap.size) (MF := c.MF) ht (fun hm => by
        rcases hm with hm | ⟨j, oj, h1, h2⟩
        · exact absurd (s.mf _ hm) (Nat.not_lt.2 s.step.size)
        · obtain ⟨_, q0, h3, _⟩ := hsub h1
          rcases s.heap.1 j q0 h3 with hn2 | ⟨b', h4, c1, fr, h5, _⟩
          · rw [hn2.2.2] at h2; cases h2
          · rw [h2] at h4; cases h4; exact absurd (lt_of_heap h5) (Nat.lt_irrefl _)) (.inl ⟨hn.1, hn.2.2⟩) hrec hv
    · refine frzP_rel ht (fun hm => ?_) (.inr ⟨hb, hO⟩) hrec hv
      rcases hm with hm | ⟨j, oj, h1, h2⟩
      · obtain ⟨c1, fr, _, _, g4, _⟩ := hO
        exact g4 hm
      · obtain ⟨hne, q0, h3, _⟩ := hsub h1
        exact hne (s.heap.2 j i q0 o b h3 hi h2 hb)
  have hC : ∀ {v x}, CRel bl (Mut bl c.MF h) w v x → CRel bl (Mut bl c.MF (fun j => if j = i then none else (h j).map (frzO i o))) w v (frzC i o x) := fun {v x} hv => by
    cases x with
    | fn f caps =>
      obtain ⟨cs, h1, h2⟩ := hv
      exact ⟨cs, h1, h2.mapRight fun _ _ hr => hP hr⟩
    | agg cells => simp only [CRel, PRel] at hv; cases hv
    | tup vs => simp only [CRel, PRel] at hv; cases hv
    | ms id st off len =>
      have := hP (x := .ms id st off len) hv
      simp only [frzC]
      generalize hy : frzP i o (.ms id st off len) = y at this
      simp only [frzP] at hy
      split at hy
      · split at hy <;> (subst hy; exact this)
      · subst hy; exact this
    | mp id st row off =>
      have := hP (x := .mp id st row off) hv
      simp only [frzC]
      generalize hy : frzP i o (.mp id st row off) = y at this
      simp only [frzP] at hy
      split at hy
      · split at hy
        · split at hy <;> (subst hy; exact this)
        · subst hy; exact this
      · subst hy; exact this
    | _ =>
      simp only [CRel, PRel] at hv
      exact IRel.toC (IRel.tr hv ht.keep)
  have hG : ∀ {v x}, GRel bl (Mut bl c.MF h) w v x → GRel bl (Mut bl c.MF (fun j => if j = i then none else (h j).map (frzO i o))) w v (frzG i o x) := fun {v x} hv => by
    cases x with
    | agg cells =>
      obtain ⟨cs, h1, h2⟩ := hv
      exact ⟨cs, h1, h2.mapRight fun _ _ hr => hC hr⟩
    | _ =>
      simp only [GRel] at hv
      simp only [frzG]
      exact (hC hv).toG
  have hV : ∀ {v x}, VRel bl (Mut bl c.MF h) w v x → VRel bl (Mut bl c.MF (fun j => if j = i then none else (h j).map (frzO i o))) w v (frzV i o x) := fun {v x} hv => by
    cases x with
    | any => trivial
    | tup vs =>
      obtain ⟨cs, h1, h2⟩ := hv
      exact ⟨cs, h1, h2.mapRight fun _ _ hr => hG hr⟩
    | _ =>
      simp only [VRel] at hv
      simp only [frzV]
      exact (hG hv).toV
  refine ⟨⟨s.defers, s.size, fun k => hV (s.env k), ⟨fun j oj hj => ?_, fun j j' oj oj' q h1 h2 => ?_⟩, s.step, fun j oj q h1 h2 => ?_, s.stab, s.mf⟩, fun v x hv => hV hv⟩
  · obtain ⟨hne, q0, h1, rfl⟩ := hsub hj
    rcases s.heap.1 j q0 h1 with hn | ⟨b, hb, c1, fr, h2, h3, h4, h5, h6, h7⟩
    · exact .inl ⟨by simp [frzO, hn.2.1, hn.1], by rw [frzO_rec]; exact hn.2.1, hn.2.2⟩
    · refine .inr ⟨b, hb, c1, fr, by rw [frzO_t]; exact h2, h3, h4, fun k r hr => ?_, ?_, fun k q r x hr hx => ?_⟩
      · rw [frzO_st]
        unfold frzO at hr
        split at hr
        · simp only [List.getElem?_map, Option.map_eq_some_iff] at hr
          obtain ⟨r0, h8, rfl⟩ := hr
          simpa using h5 k r0 h8
        · exact h5 k r hr
      · rw [frzO_st]
        unfold frzO
        split <;> simpa using h6
      · rw [frzO_st, frzO_rec]
        unfold frzO at hr
        split at hr
        · rename_i hrc
          simp only [List.getElem?_map, Option.map_eq_some_iff] at hr
          obtain ⟨r0, h8, rfl⟩ := hr
          simp only [List.getElem?_map, Option.map_eq_some_iff] at hx
          obtain ⟨x0, h9, rfl⟩ := hx
          obtain ⟨u, hu1, hu2⟩ := h7 k q r0 x0 h8 h9
          rw [hrc] at hu2 ⊢
          exact ⟨u, hu1, hC hu2⟩
        · rename_i hrc
          obtain ⟨u, hu1, hu2⟩ := h7 k q r x hr hx
          have hrc' : q0.isRec = false := by simpa using hrc
          rw [hrc'] at hu2 ⊢
          exact ⟨u, hu1, IRel.tr hu2 ht.keep⟩
  · obtain ⟨_, q1, h3, _⟩ := hsub h1
    obtain ⟨_, q2, h4, _⟩ := hsub h2
    exact s.heap.2 j j' q1 q2 q h3 h4
  · obtain ⟨_, q1, h3, _⟩ := hsub h1
    exact s.own j q1 q h3 h2
end

def frzE (i : Nat) (o : AObj) : List (Nat × AV) → List (Nat × AV)
  | [] => []
  | (k, x) :: r => (k, frzV i o x) :: frzE i o r
def frzH (i : Nat) (o : AObj) : List (Nat × AObj) → List (Nat × AObj)
  | [] => []
  | (k, x) :: r => (k, frzO i o x) :: frzH i o r
def St.frz (s : St) (i : Nat) : St :=
  match hget s.heap i with
  | some o => if o.isRec then s else ⟨frzE i o s.env, frzH i o (hdel s.heap i)⟩
  | none => s
def frzs : List Nat → St → St
  | [], s => s
  | i :: r, s => frzs r (s.frz i)

theorem get_frzE (i : Nat) (o : AObj) : ∀ (l : List (Nat × AV)) (k : Nat), get (frzE i o l) k = frzV i o (get l k)
  | [], k => rfl
  | (j, x) :: r, k => by simp only [frzE, get, get_frzE i o r k]; split <;> rfl
theorem hget_frzH (i : Nat) (o : AObj) : ∀ (l : List (Nat × AObj)) (k : Nat), hget (frzH i o l) k = (hget l k).map (frzO i o)
  | [], k => rfl
  | (j, x) :: r, k => by simp only [frzH, hget, hget_frzH i o r k]; split <;> rfl

theorem SatS.frz {c : Ctx} {s : St} {a : Act} {w : World} (hs : SatS c s a w) (i : Nat) : SatS c (s.frz i) a w := by
  obtain ⟨bl, hs⟩ := hs
  unfold St.frz
  split
  · rename_i o ho
    split
    · exact ⟨bl, hs⟩
    · rename_i hr
      exact ⟨bl, (hs.freeze ho (by simpa using hr)).1.congr (fun k => get_frzE i o _ k) (fun j => by simp only [hget_frzH, hget_hdel]; split <;> simp)⟩
  · exact ⟨bl, hs⟩
theorem SatS.frzs {c : Ctx} {a : Act} {w : World} : ∀ (l : List Nat) {s : St}, SatS c s a w → SatS c (Mw.frzs l s) a w
  | [], _, h => h
  | i :: r, _, h => SatS.frzs r (h.frz i)


/-- A value after some arrays are frozen. -/
def frz1 (s : St) (i : Nat) (x : AV) : AV :=
  match hget s.heap i with
  | some o => if o.isRec then x else frzV i o x
  | none => x
def frzVs : List Nat → St → AV → AV
  | [], _, x => x
  | i :: r, s, x => frzVs r (s.frz i) (frz1 s i x)

theorem SatB.frz1 {c : Ctx} {bl : Nat → Option Nat} {s : St} {a : Act} {w : World} (hs : SatB c bl (get s.env) (hget s.heap) a w) (i : Nat) :
    SatB c bl (get (s.frz i).env) (hget (s.frz i).heap) a w ∧ ∀ v x, VRel bl (Mut bl c.MF (hget s.heap)) w v x → VRel bl (Mut bl c.MF (hget (s.frz i).heap)) w v (Mw.frz1 s i x) := by
  unfold St.frz Mw.frz1
  cases ho : hget s.heap i with
  | none => exact ⟨hs, fun _ _ h => h⟩
  | some o =>
    simp only
    by_cases hr : o.isRec = true
    · simp only [hr, if_true]; exact ⟨hs, fun _ _ h => h⟩
    · obtain ⟨h1, h2⟩ := hs.freeze ho (by simpa using hr)
      have hh : hget (frzH i o (hdel s.heap i)) = fun j => if j = i then none else (hget s.heap j).map (frzO i o) := by
        funext j
        simp only [hget_frzH, hget_hdel]
        split <;> simp
      simp only [hr, if_false, Bool.false_eq_true]
      exact ⟨h1.congr (fun k => get_frzE i o _ k) (fun j => by rw [hh]), fun v x hv => by rw [hh]; exact h2 v x hv⟩
theorem SatB.frzs {c : Ctx} {bl : Nat → Option Nat} {a : Act} {w : World} : ∀ (fs : List Nat) (s : St), SatB c bl (get s.env) (hget s.heap) a w →
    SatB c bl (get (Mw.frzs fs s).env) (hget (Mw.frzs fs s).heap) a w ∧ ∀ v x, VRel bl (Mut bl c.MF (hget s.heap)) w v x → VRel bl (Mut bl c.MF (hget (Mw.frzs fs s).heap)) w v (frzVs fs s x)
  | [], s, hs => ⟨hs, fun _ _ h => h⟩
  | i :: r, s, hs => by
    obtain ⟨h1, h2⟩ := hs.frz1 i
    obtain ⟨h3, h4⟩ := SatB.frzs r (s.frz i) h1
    exact ⟨h3, fun v x hv => h4 v _ (h2 v x hv)⟩
end Go.Mw
