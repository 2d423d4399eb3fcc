/-
  How the state relation is kept by a new object, a write into an object, by forgetting and by freezing.
-/
import Derived.Test.YtkejmhpodhbeeaaDoorMwA
namespace Go.Mw

def purV (i : Nat) (x : AV) : AV := if mV i x then .any else x
def purC (i : Nat) (x : AV) : AV := if mC i x then .any else x
def purO (i : Nat) (o : AObj) : AObj := if o.isRec then { o with rows := o.rows.map (fun r => r.map (purC i)) } else o

section
variable {c : Ctx} {bl : Nat → Option Nat} {g : Nat → AV} {h : Nat → Option AObj} {a : Act} {w w' : World}

theorem Mut.congr {MF : Nat → Prop} {h h' : Nat → Option AObj} (hh : ∀ j, (h' j).isSome = (h j).isSome) (b : Nat) : Mut bl MF h' b ↔ Mut bl MF h b := by
  have key : ∀ {h h' : Nat → Option AObj}, (∀ j, (h' j).isSome = (h j).isSome) → ∀ {j o}, h' j = some o → ∃ o', h j = some o' := fun hh j o hj => by
    have := hh j
    rw [hj] at this
    exact Option.isSome_iff_exists.1 this.symm
  constructor
  · rintro (hm | ⟨j, o, h1, h2⟩)
    · exact .inl hm
    · obtain ⟨o', h3⟩ := key hh h1
      exact .inr ⟨j, o', h3, h2⟩
  · rintro (hm | ⟨j, o, h1, h2⟩)
    · exact .inl hm
    · obtain ⟨o', h3⟩ := key (fun j => (hh j).symm) h1
      exact .inr ⟨j, o', h3, h2⟩

theorem Tr.of_iff {M M' : Nat → Prop} (h : ∀ b, M' b ↔ M b) : Tr M M' w w :=
  ⟨fun b hb _ => ⟨fun hm => hb ((h b).1 hm), rfl⟩, fun _ c _ _ hb => ⟨c, hb, rfl⟩⟩

theorem ORel.tr {r : Bool} {bl bl' : Nat → Option Nat} {M M' : Nat → Prop} {v : Value} {x : AV} (h : ORel r bl M w v x) (ht : Tr M M' w w') (hb : r = true → ∀ id, mC id x = true → bl' id = bl id) : ORel r bl' M' w' v x := by
  cases r
  · exact IRel.tr h ht.keep
  · exact CRel.tr h ht (hb rfl)

theorem ORel.one {r : Bool} {M : Nat → Prop} {v : Value} {x : AV} (h : ORel r bl M w v x) : oneCell v := by
  cases r
  · exact IRel.one h
  · exact CRel.one h

theorem purO_t (i : Nat) (o : AObj) : (purO i o).t = o.t := by unfold purO; split <;> rfl
theorem purO_st (i : Nat) (o : AObj) : (purO i o).st = o.st := by unfold purO; split <;> rfl
theorem purO_rec (i : Nat) (o : AObj) : (purO i o).isRec = o.isRec := by unfold purO; split <;> rfl

theorem purge_rel {M MF : Nat → Prop} {i : Nat} {o : AObj} {b : Nat} (hO : OBlock bl M MF w o b) : OBlock bl M MF w (purO i o) b := by
  obtain ⟨c1, fr, h2, h3, h4, h5, h6, h7⟩ := hO
  by_cases hr : o.isRec = true
  · refine ⟨c1, fr, by rw [purO_t]; exact h2, h3, h4, ?_, ?_, ?_⟩
    · intro k r hk
      rw [purO_st]
      simp only [purO, hr, if_true, List.getElem?_map, Option.map_eq_some_iff] at hk
      obtain ⟨r0, h0, rfl⟩ := hk
      simpa using h5 k r0 h0
    · rw [purO_st]; simpa [purO, hr] using h6
    · intro k j r x hk hx
      rw [purO_st, purO_rec]
      simp only [purO, hr, if_true, List.getElem?_map, Option.map_eq_some_iff] at hk
      obtain ⟨r0, h0, rfl⟩ := hk
      simp only [List.getElem?_map, Option.map_eq_some_iff] at hx
      obtain ⟨x0, hx0, rfl⟩ := hx
      obtain ⟨v, hv1, hv2⟩ := h7 k j r0 x0 h0 hx0
      refine ⟨v, hv1, ?_⟩
      rw [hr] at hv2 ⊢
      unfold purC
      split
      · exact IRel.toC (bl := bl) (.any v (CRel.one (bl := bl) hv2))
      · exact hv2
  · have e : purO i o = o := by simp [purO, hr]
    rw [e]
    exact ⟨c1, fr, h2, h3, h4, h5, h6, h7⟩

/-- All that names the object 'i' is forgotten; the object stays. -/
theorem SatB.purge (s : SatB c bl g h a w) (i : Nat) : SatB c bl (fun k => purV i (g k)) (fun j => (h j).map (purO i)) a w := by
  have hm : ∀ b, Mut bl c.MF (fun j => (h j).map (purO i)) b ↔ Mut bl c.MF h b := Mut.congr (fun j => by simp)
  have ht := Tr.of_iff (w := w) hm
  refine ⟨s.defers, s.size, fun k => ?_, ⟨fun id o hi => ?_, fun id id' o o' b h1 h2 => ?_⟩, s.step, fun id o b h1 => ?_, s.stab, s.mf⟩
  · show VRel _ _ _ _ (purV i (g k))
    unfold purV
    split
    · trivial
    · exact (s.env k).tr ht (fun _ _ => rfl)
  · simp only [Option.map_eq_some_iff] at hi
    obtain ⟨o0, h0, rfl⟩ := hi
    rcases s.heap.1 id o0 h0 with h1 | ⟨b, h1, hO⟩
    · refine .inl ⟨?_, by rw [purO_rec]; exact h1.2.1, h1.2.2⟩
      simp [purO, h1.2.1, h1.1]
    · refine .inr ⟨b, h1, ?_⟩
      obtain ⟨c1, fr, h2, h3, h4, h5, h6, h7⟩ := purge_rel (i := i) hO
      exact ⟨c1, fr, h2, h3, h4, h5, h6, fun k j r x hk hx => by
        obtain ⟨v, hv1, hv2⟩ := h7 k j r x hk hx
        exact ⟨v, hv1, hv2.tr ht (fun _ _ _ => rfl)⟩⟩
  · simp only [Option.map_eq_some_iff] at h1 h2
    obtain ⟨o1, h1, _⟩ := h1
    obtain ⟨o2, h2, _⟩ := h2
    exact s.heap.2 id id' o1 o2 b h1 h2
  · simp only [Option.map_eq_some_iff] at h1
    obtain ⟨o1, h1, _⟩ := h1
    exact s.own id o1 b h1

/-- Nothing names the object 'i'. -/
def Unnamed (i : Nat) (g : Nat → AV) (h : Nat → Option AObj) : Prop :=
  (∀ k, mV i (g k) = false) ∧ ∀ j o, h j = some o → o.isRec = true → ∀ r ∈ o.rows, ∀ x ∈ r, mC i x = false

theorem mC_purC (i : Nat) (x : AV) : mC i (purC i x) = false := by
  unfold purC
  split
  · rfl
  · simp_all

theorem unnamed_purge (i : Nat) (g : Nat → AV) (h : Nat → Option AObj) : Unnamed i (fun k => purV i (g k)) (fun j => if j = i then none else (h j).map (purO i)) := by
  refine ⟨fun k => ?_, fun j o hj hr r hmr x hmx => ?_⟩
  · show mV i (purV i (g k)) = false
    unfold purV
    split
    · rfl
    · simp_all
  · by_cases hji : j = i
    · simp [hji] at hj
    · simp only [hji, if_false, Option.map_eq_some_iff] at hj
      obtain ⟨o0, h0, rfl⟩ := hj
      rw [purO_rec] at hr
      simp only [purO, hr, if_true, List.mem_map] at hmr
      obtain ⟨r0, _, rfl⟩ := hmr
      simp only [List.mem_map] at hmx
      obtain ⟨x0, _, rfl⟩ := hmx
      exact mC_purC i x0

/-- The object 'i' is forgotten, and all that names it. -/
theorem SatB.kill (s : SatB c bl g h a w) (i : Nat) : SatB c bl (fun k => purV i (g k)) (fun j => if j = i then none else (h j).map (purO i)) a w :=
  (s.purge i).weaken (fun _ => .inr rfl) (fun j o hj => by
    by_cases hji : j = i
    · simp [hji] at hj
    · simpa [hji] using hj)

/-- What a new object's cells must be. -/
def Cells (bl : Nat → Option Nat) (M : Nat → Prop) (w : World) (o : AObj) (cs : Array Value) : Prop :=
  (∀ (i : Nat) (r : List AV), o.rows[i]? = some r → r.length = o.st) ∧ o.rows.length * o.st ≤ cs.size ∧
  ∀ (i j : Nat) (r : List AV) (x : AV), o.rows[i]? = some r → r[j]? = some x → ∃ v, cs[i * o.st + j]? = some v ∧ ORel o.isRec bl M w v x

theorem SatB.new (s : SatB c bl g h a w) {i : Nat} {o : AObj} {cs : Array Value} {fr : Nat × Nat} (hi : h i = none) (hu : Unnamed i g h)
    (hid : i < 1000 ∨ 2000 ≤ i) (hw : w'.heap = w.heap.push (.cells cs o.t fr)) (hos : w'.os = w.os) (hout : w'.output = w.output) (uf : unfrozen cs fr)
    (hc : Cells bl (Mut bl c.MF h) w o cs) (hno : o.isRec = true → ∀ r ∈ o.rows, ∀ x ∈ r, mC i x = false) :
    SatB c (upd bl i (some w.heap.size)) g (upd h i (some o)) a w' := by
  have hbl : ∀ j, j ≠ i → upd bl i (some w.heap.size) j = bl j := fun j hj => upd_ne _ _ hj
  have hlt : ∀ j oj b, h j = some oj → bl j = some b → b < w.heap.size := fun j oj b h1 h2 => by
    rcases s.heap.1 j oj h1 with h3 | ⟨b', h3, c1, f1, h4, _⟩
    · rw [h3.2.2] at h2; cases h2
    · rw [h2] at h3; cases h3; exact lt_of_heap h4
  have hmut : ∀ b, Mut (upd bl i (some w.heap.size)) c.MF (upd h i (some o)) b → Mut bl c.MF h b ∨ b = w.heap.size := by
    rintro b (hm | ⟨j, oj, h1, h2⟩)
    · exact .inl (.inl hm)
    · by_cases hj : j = i
      · subst hj; rw [upd_same] at h2; cases h2; exact .inr rfl
      · rw [upd_ne _ _ hj] at h1 h2; exact .inl (.inr ⟨j, oj, h1, h2⟩)
  have hpush : ∀ b, b < w.heap.size → w'.heap[b]? = w.heap[b]? := fun b hb => by
    rw [hw, Array.getElem?_push]; simp [Nat.ne_of_lt hb]
  have ht : Tr (Mut bl c.MF h) (Mut (upd bl i (some w.heap.size)) c.MF (upd h i (some o))) w w' := by
    refine ⟨fun b hb hlt' => ⟨fun hm => ?_, hpush b hlt'⟩, fun b c1 t f1 hb => ⟨c1, by rw [hpush b (lt_of_heap hb)]; exact hb, rfl⟩⟩
    rcases hmut b hm with hm | hm
    · exact hb hm
    · exact absurd hm (Nat.ne_of_lt hlt')
  refine ⟨s.defers, s.size, fun k => (s.env k).tr ht (fun id hmi => hbl id (fun e => ?_)), ⟨fun id o1 h1 => ?_, fun id id' o1 o2 b h1 h2 h3 h4 => ?_⟩, ?_, fun id o1 b h1 h2 => ?_, fun id h1 h2 => ?_, s.mf⟩
  · subst e; rw [hu.1 k] at hmi; cases hmi
  · by_cases hj : id = i
    · subst hj
      rw [upd_same] at h1
      cases h1
      refine .inr ⟨w.heap.size, upd_same _ _ _, cs, fr, by rw [hw]; simp, uf, fun hm => ?_, hc.1, hc.2.1, fun k j r x hk hx => ?_⟩
      · exact absurd (s.mf _ hm) (Nat.not_lt.2 s.step.size)
      · obtain ⟨v, hv1, hv2⟩ := hc.2.2 k j r x hk hx
        refine ⟨v, hv1, hv2.tr ht (fun hr id hmi => hbl id (fun e => ?_))⟩
        subst e
        rw [hno hr r (List.mem_of_getElem? hk) x (List.mem_of_getElem? hx)] at hmi
        cases hmi
    · rw [upd_ne _ _ hj] at h1
      rcases s.heap.1 id o1 h1 with h3 | ⟨b, h3, c1, f1, h4, h5, h6, h7, h8, h9⟩
      · exact .inl ⟨h3.1, h3.2.1, by rw [hbl id hj]; exact h3.2.2⟩
      · refine .inr ⟨b, by rw [hbl id hj]; exact h3, c1, f1, by rw [hpush b (lt_of_heap h4)]; exact h4, h5, h6, h7, h8, fun k j r x hk hx => ?_⟩
        obtain ⟨v, hv1, hv2⟩ := h9 k j r x hk hx
        refine ⟨v, hv1, hv2.tr ht (fun hr id' hmi => hbl id' (fun e => ?_))⟩
        subst e
        rw [hu.2 id o1 h1 hr r (List.mem_of_getElem? hk) x (List.mem_of_getElem? hx)] at hmi
        cases hmi
  · by_cases hj : id = i <;> by_cases hj' : id' = i
    · rw [hj, hj']
    · subst hj
      rw [upd_same] at h3
      cases h3
      rw [upd_ne _ _ hj'] at h2 h4
      exact absurd (hlt _ _ _ h2 h4) (Nat.lt_irrefl _)
    · subst hj'
      rw [upd_same] at h4
      cases h4
      rw [upd_ne _ _ hj] at h1 h3
      exact absurd (hlt _ _ _ h1 h3) (Nat.lt_irrefl _)
    · rw [upd_ne _ _ hj] at h1 h3
      rw [upd_ne _ _ hj'] at h2 h4
      exact s.heap.2 _ _ _ _ _ h1 h2 h3 h4
  · refine s.step.trans (X := fun _ => False) ⟨by rw [hw]; simp, fun b hb _ => hpush b hb, ht.shape, hos, hout⟩ (fun _ _ h => h.elim)
  · by_cases hj : id = i
    · subst hj
      rw [upd_same] at h2
      cases h2
      exact .inl s.step.size
    · rw [upd_ne _ _ hj] at h1 h2
      exact s.own id o1 b h1 h2
  · rw [hbl id (by omega)]
    exact s.stab id h1 h2

/-- An object without a block: nothing in it, and no value but nil speaks of it. -/
theorem SatB.new0 (s : SatB c bl g h a w) {i : Nat} {o : AObj} (hi : h i = none) (hu : Unnamed i g h) (hid : i < 1000 ∨ 2000 ≤ i) (hrows : o.rows = []) (hrec : o.isRec = false) :
    SatB c (upd bl i none) g (upd h i (some o)) a w := by
  have hbl : ∀ j, j ≠ i → upd bl i none j = bl j := fun j hj => upd_ne _ _ hj
  have hmut : ∀ b, Mut (upd bl i none) c.MF (upd h i (some o)) b → Mut bl c.MF h b := by
    rintro b (hm | ⟨j, oj, h1, h2⟩)
    · exact .inl hm
    · by_cases hj : j = i
      · subst hj; rw [upd_same] at h2; cases h2
      · rw [upd_ne _ _ hj] at h1 h2; exact .inr ⟨j, oj, h1, h2⟩
  have ht : Tr (Mut bl c.MF h) (Mut (upd bl i none) c.MF (upd h i (some o))) w w :=
    ⟨fun b hb _ => ⟨fun hm => hb (hmut b hm), rfl⟩, fun b c1 t f1 hb => ⟨c1, hb, rfl⟩⟩
  refine ⟨s.defers, s.size, fun k => (s.env k).tr ht (fun id hmi => hbl id (fun e => ?_)), ⟨fun id o1 h1 => ?_, fun id id' o1 o2 b h1 h2 h3 h4 => ?_⟩, s.step, fun id o1 b h1 h2 => ?_, fun id h1 h2 => ?_, s.mf⟩
  · subst e; rw [hu.1 k] at hmi; cases hmi
  · by_cases hj : id = i
    · subst hj
      rw [upd_same] at h1
      cases h1
      exact .inl ⟨hrows, hrec, upd_same _ _ _⟩
    · rw [upd_ne _ _ hj] at h1
      rcases s.heap.1 id o1 h1 with h3 | ⟨b, h3, c1, f1, h4, h5, h6, h7, h8, h9⟩
      · exact .inl ⟨h3.1, h3.2.1, by rw [hbl id hj]; exact h3.2.2⟩
      · refine .inr ⟨b, by rw [hbl id hj]; exact h3, c1, f1, h4, h5, h6, h7, h8, fun k j r x hk hx => ?_⟩
        obtain ⟨v, hv1, hv2⟩ := h9 k j r x hk hx
        refine ⟨v, hv1, hv2.tr ht (fun hr id' hmi => hbl id' (fun e => ?_))⟩
        subst e
        rw [hu.2 id o1 h1 hr r (List.mem_of_getElem? hk) x (List.mem_of_getElem? hx)] at hmi
        cases hmi
  · by_cases hj : id = i
    · subst hj; rw [upd_same] at h3; cases h3
    · by_cases hj' : id' = i
      · subst hj'; rw [upd_same] at h4; cases h4
      · rw [upd_ne _ _ hj] at h1 h3
        rw [upd_ne _ _ hj'] at h2 h4
        exact s.heap.2 _ _ _ _ _ h1 h2 h3 h4
  · by_cases hj : id = i
    · subst hj; rw [upd_same] at h2; cases h2
    · rw [upd_ne _ _ hj] at h1 h2
      exact s.own id o1 b h1 h2
  · rw [hbl id (by omega)]
    exact s.stab id h1 h2

/-- A write into the block of the object 'i'. -/
theorem SatB.write (s : SatB c bl g h a w) {i b : Nat} {o o' : AObj} {c1 c2 : Array Value} {fr : Nat × Nat} (hi : h i = some o) (hb : bl i = some b)
    (h1 : w.heap[b]? = some (.cells c1 o.t fr)) (h2 : w'.heap[b]? = some (.cells c2 o.t fr)) (hsz : c2.size = c1.size) (hsize : w'.heap.size = w.heap.size)
    (hother : ∀ b', b' ≠ b → w'.heap[b']? = w.heap[b']?) (hos : w'.os = w.os) (hout : w'.output = w.output) (ht' : o'.t = o.t)
    (hc : Cells bl (Mut bl c.MF h) w o' c2) : SatB c bl g (upd h i (some o')) a w' := by
  have hm : ∀ b, Mut bl c.MF (upd h i (some o')) b ↔ Mut bl c.MF h b := Mut.congr (fun j => by
    by_cases hj : j = i
    · subst hj; simp [upd_same, hi]
    · rw [upd_ne _ _ hj])
  have hmb : Mut bl c.MF h b := .inr ⟨i, o, hi, hb⟩
  have hshape : ∀ (b' : Nat) (c0 : Array Value) (t : TypeId) (f0 : Nat × Nat), w.heap[b']? = some (.cells c0 t f0) → ∃ c' : Array Value, w'.heap[b']? = some (.cells c' t f0) ∧ c'.size = c0.size := by
    intro b' c0 t f0 hb'
    by_cases hbb : b' = b
    · subst hbb
      rw [h1] at hb'
      cases hb'
      exact ⟨c2, h2, hsz⟩
    · exact ⟨c0, by rw [hother b' hbb]; exact hb', rfl⟩
  have ht : Tr (Mut bl c.MF h) (Mut bl c.MF (upd h i (some o'))) w w' :=
    ⟨fun b' hb' _ => ⟨fun hmm => hb' ((hm b').1 hmm), hother b' (fun e => hb' (e ▸ hmb))⟩, hshape⟩
  refine ⟨s.defers, s.size, fun k => (s.env k).tr ht (fun _ _ => rfl), ⟨fun id o1 h3 => ?_, fun id id' o1 o2 b' h3 h4 => ?_⟩, ?_, fun id o1 b' h3 => ?_, s.stab, s.mf⟩
  · by_cases hj : id = i
    · subst hj
      rw [upd_same] at h3
      cases h3
      refine .inr ⟨b, hb, c2, fr, by rw [ht']; exact h2, ?_, ?_, hc.1, hc.2.1, fun k j r x hk hx => ?_⟩
      · rcases s.heap.1 id o hi with hn | ⟨b', hb', c0, f0, g4, g5, _⟩
        · rw [hn.2.2] at hb; cases hb
        · rw [hb] at hb'
          cases hb'
          rw [h1] at g4
          cases g4
          intro j hj
          exact g5 j (by omega)
      · rcases s.heap.1 id o hi with hn | ⟨b', hb', c0, f0, g4, g5, g6, _⟩
        · rw [hn.2.2] at hb; cases hb
        · rw [hb] at hb'
          cases hb'
          exact g6
      · obtain ⟨v, hv1, hv2⟩ := hc.2.2 k j r x hk hx
        exact ⟨v, hv1, hv2.tr ht (fun _ _ _ => rfl)⟩
    · rw [upd_ne _ _ hj] at h3
      rcases s.heap.1 id o1 h3 with g3 | ⟨b', g3, c0, f0, g4, g5, g6, g7, g8, g9⟩
      · exact .inl g3
      · have hbb : b' ≠ b := fun e => hj (s.heap.2 id i o1 o b h3 hi (e ▸ g3) hb)
        refine .inr ⟨b', g3, c0, f0, by rw [hother b' hbb]; exact g4, g5, g6, g7, g8, fun k j r x hk hx => ?_⟩
        obtain ⟨v, hv1, hv2⟩ := g9 k j r x hk hx
        exact ⟨v, hv1, hv2.tr ht (fun _ _ _ => rfl)⟩
  · have key : ∀ {j oj}, upd h i (some o') j = some oj → ∃ o0, h j = some o0 := fun {j oj} hj => by
      by_cases hji : j = i
      · subst hji; exact ⟨o, hi⟩
      · rw [upd_ne _ _ hji] at hj; exact ⟨oj, hj⟩
    obtain ⟨p, hp⟩ := key h3
    obtain ⟨q, hq⟩ := key h4
    exact s.heap.2 id id' p q b' hp hq
  · refine s.step.trans (X := fun b' => b' = b) ⟨Nat.le_of_eq hsize.symm, fun b' _ hb' => hother b' hb', hshape, hos, hout⟩ (fun b' hlt hb' => ?_)
    subst hb'
    rcases s.own i o b' hi hb with h5 | h5
    · exact absurd hlt (Nat.not_lt.2 h5)
    · exact h5
  · by_cases hj : id = i
    · subst hj; exact s.own id o b' hi
    · rw [upd_ne _ _ hj] at h3; exact s.own id o1 b' h3

/-! ### Freezing -/
def frzP (i : Nat) (o : AObj) (x : AV) : AV :=
  match x with
  | .ms id st off len => if id = i then (if st = o.st ∧ off + len ≤ o.rows.length then .sl st ((o.rows.drop off).take len) else .any) else x
  | .mp id st row off => if id = i then (if st = o.st then (match o.rows[row]? with | some r => .ip (r.drop off) | none => .any) else .any) else x
  | x => x
def frzC (i : Nat) (o : AObj) (x : AV) : AV :=
  match x with
  | .fn f caps => .fn f (caps.map (frzP i o))
  | x => frzP i o x
def frzG (i : Nat) (o : AObj) (x : AV) : AV :=
  match x with
  | .agg cells => .agg (cells.map (frzC i o))
  | x => frzC i o x
def frzV (i : Nat) (o : AObj) (x : AV) : AV :=
  match x with
  | .tup vs => .tup (vs.map (frzG i o))
  | x => frzG i o x
def frzO (i : Nat) (o : AObj) (o1 : AObj) : AObj := if o1.isRec then { o1 with rows := o1.rows.map (fun r => r.map (frzC i o)) } else o1

theorem All2.mapRight {α β : Type} {R R' : α → β → Prop} {f : β → β} : ∀ {l : List α} {m : List β}, All2 R l m → (∀ a b, R a b → R' a (f b)) → All2 R' l (m.map f)
  | [], [], _, _ => trivial
  | _ :: _, _ :: _, h, hf => ⟨hf _ _ h.1, h.2.mapRight hf⟩
  | [], _ :: _, h, _ => h.elim
  | _ :: _, [], h, _ => h.elim

theorem frzP_rel {M M' : Nat → Prop} {MF : Nat → Prop} {i b : Nat} {o : AObj} {v : Value} {x : AV} (ht : Tr M M' w w) (hM' : ¬ M' b) (hO : (o.rows = [] ∧ bl i = none) ∨ (bl i = some b ∧ OBlock bl M MF w o b)) (hrec : o.isRec = false)
    (hx : PRel bl M w v x) : PRel bl M' w v (frzP i o x) := by
  have same : PRel bl M' w v x := hx.tr ht (fun _ _ => rfl)
  cases x <;> try exact same
  case ms id st off len =>
    simp only [frzP]
    split
    case isFalse => exact same
    rename_i hid
    subst hid
    have hone := PRel.one hx
    split
    case isFalse => exact IRel.any v hone
    rename_i hcond
    obtain ⟨rfl, hlen⟩ := hcond
    simp only [PRel] at hx
    rcases hx with ⟨rfl, rfl, rfl⟩ | ⟨rfl, _, a1, cap, rfl⟩ | ⟨b', cap, c, t, fr, h1, rfl, h3, h4, h5⟩
    · simp only [List.take_zero]; exact IRel.nls _
    · simp only [List.take_zero]
      show IRel M' w _ _
      exact IRel.sl0 _ a1 cap
    · rcases hO with hO | ⟨hb, c1, f1, g2, g3, g4, g5, g6, g7⟩
      · rw [hO.2] at h1; cases h1
      · rw [hb] at h1
        cases h1
        have hlen' : ((o.rows.drop off).take len).length = len := by simp; omega
        have key := IRel.sl (M := M') (w := w) b (off * o.st) cap o.st c1 o.t f1 ((o.rows.drop off).take len) (fun k j => (c1[off * o.st + k * o.st + j]?).getD default) g2 hM' (by omega)
          (fun k r hk => by
            have : o.rows[off + k]? = some r := by
              rw [List.getElem?_take] at hk
              split at hk
              · simpa using hk
              · cases hk
            exact g5 _ _ this)
          (fun k j hk hj => by
            have hk' : off + k < o.rows.length := by omega
            have e1 : o.rows[off + k]? = some o.rows[off + k] := List.getElem?_eq_getElem hk'
            have hl := g5 _ _ e1
            have e2 : (o.rows[off + k])[j]? = some (o.rows[off + k])[j] := List.getElem?_eq_getElem (by omega)
            obtain ⟨u, hu, _⟩ := g7 _ _ _ _ e1 e2
            have e3 : off * o.st + k * o.st + j = (off + k) * o.st + j := by rw [Nat.add_mul]
            rw [e3, hu]; rfl)
          (fun k j r x hk hx => by
            have hk' : o.rows[off + k]? = some r := by
              rw [List.getElem?_take] at hk
              split at hk
              · simpa using hk
              · cases hk
            obtain ⟨u, hu, hr⟩ := g7 _ _ _ _ hk' hx
            have e3 : off * o.st + k * o.st + j = (off + k) * o.st + j := by rw [Nat.add_mul]
            simp only [e3, hu, Option.getD_some]
            rw [hrec] at hr
            exact IRel.tr hr ht.keep)
        rw [hlen'] at key
        exact key
  case mp id st row off =>
    simp only [frzP]
    split
    case isFalse => exact same
    rename_i hid
    subst hid
    have hone := PRel.one hx
    split
    case isFalse => exact IRel.any v hone
    rename_i hst
    subst hst
    split
    case h_2 => exact IRel.any v hone
    rename_i r hr
    simp only [PRel] at hx
    obtain ⟨b', h1, rfl⟩ := hx
    rcases hO with hO | ⟨hb, c1, f1, g2, g3, g4, g5, g6, g7⟩
    · rw [hO.2] at h1; cases h1
    · rw [hb] at h1
      cases h1
      have cell : ∀ (j : Nat) (x : AV), (r.drop off)[j]? = some x → ∃ u, c1[row * o.st + off + j]? = some u ∧ IRel M' w u x := fun j x hx => by
        rw [List.getElem?_drop] at hx
        obtain ⟨u, hu, hr'⟩ := g7 _ _ _ _ hr hx
        rw [hrec] at hr'
        exact ⟨u, by rw [← hu]; congr 1; omega, IRel.tr hr' ht.keep⟩
      exact IRel.ip b (row * o.st + off) c1 o.t f1 (r.drop off) (fun j => (c1[row * o.st + off + j]?).getD default) g2 hM'
        (fun j hj => by
          obtain ⟨u, hu, _⟩ := cell j _ (List.getElem?_eq_getElem hj)
          rw [hu]; rfl)
        (fun j x hx => by
          obtain ⟨u, hu, hr'⟩ := cell j x hx
          simp only [hu, Option.getD_some]
          exact hr')
end
end Go.Mw
