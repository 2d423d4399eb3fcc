/-
  Regions whose order is open.
-/
import Derived.Test.YtkejmhpodhbeeaaDoorMwN
import Derived.Still
namespace Go.Mw

/-! ### An operation looks at its operands alone -/
section
variable {g g' : Nat → AV} {h h' : Nat → Option AObj}

theorem val_local {v : IV} (hg : ∀ k ∈ ivSlots v, g' k = g k) : val g' v = val g v := by
  cases v with
  | s k => exact hg k (by simp [ivSlots])
  | c x => rfl

theorem vals_local {l : List IV} (hg : ∀ v ∈ l, ∀ k ∈ ivSlots v, g' k = g k) : l.map (val g') = l.map (val g) := List.map_congr_left fun v hv => val_local (hg v hv)

theorem opt_local {v : Option IV} (hg : ∀ x, v = some x → ∀ k ∈ ivSlots x, g' k = g k) : v.map (val g') = v.map (val g) := by
  cases v with
  | none => rfl
  | some x => simp only [Option.map_some]; rw [val_local (hg x rfl)]

theorem idsV_ms (id st off len : Nat) : idsV (.ms id st off len) = [id] := rfl
theorem idsV_mp (id st row off : Nat) : idsV (.mp id st row off) = [id] := rfl

theorem aLoad_local {n : Option Nat} {p : AV} (hh : ∀ id ∈ idsV p, h' id = h id) : aLoad n p h' = aLoad n p h := by
  cases p <;> try rfl
  simp only [aLoad]
  rw [hh _ (by simp [idsV_mp])]
theorem aStore_local {n : Nat} {p x : AV} (hh : ∀ id ∈ idsV p, h' id = h id) : aStore n p x h' = aStore n p x h := by
  unfold aStore
  split
  · rename_i id st row off cs h1
    rw [hh id (by simp [idsV_mp])]
  · rfl
theorem rowsA_local {st : Nat} {x : AV} (hh : ∀ id ∈ idsV x, h' id = h id) : rowsA st h' x = rowsA st h x := by
  cases x <;> try rfl
  simp only [rowsA]
  rw [hh _ (by simp [idsV_ms])]
theorem aApp_local {d : Nat} {t : TypeId} {st : Nat} {x : AV} {src : Option (List (List AV))} (hh : ∀ id ∈ idsV x, h' id = h id) : aApp d t st x src h' = aApp d t st x src h := by
  unfold aApp
  cases src with
  | none => rfl
  | some ys =>
    cases x <;> try rfl
    simp only
    rw [hh _ (by simp [idsV_ms])]

theorem aParts_local {ps : List (Nat × Nat × IV)} (hg : ∀ p ∈ ps, ∀ k ∈ ivSlots p.2.2, g' k = g k) : ∀ cells, aParts (val g') cells ps = aParts (val g) cells ps := by
  induction ps with
  | nil => intro cells; rfl
  | cons p r ih =>
    intro cells
    obtain ⟨off, n, v⟩ := p
    have hv : val g' v = val g v := val_local (hg (off, n, v) (by simp))
    simp only [aParts, hv]
    cases cellsA (val g v) with
    | none => rfl
    | some cs => simp only [ih (fun p hp => hg p (by simp [hp]))]
theorem aRows_local {st : Nat} {ps : List (Nat × IV)} (hg : ∀ p ∈ ps, ∀ k ∈ ivSlots p.2, g' k = g k) : ∀ rows, aRows (val g') st rows ps = aRows (val g) st rows ps := by
  induction ps with
  | nil => intro cells; rfl
  | cons p r ih =>
    intro cells
    obtain ⟨off, v⟩ := p
    have hv : val g' v = val g v := val_local (hg (off, v) (by simp))
    simp only [aRows, hv]
    cases cellsA (val g v) with
    | none => rfl
    | some cs => simp only [ih (fun p hp => hg p (by simp [hp]))]

theorem heap_iv {v : IV} {S : List Nat} (hsub : ∀ k ∈ ivSlots v, k ∈ S) (hh : ∀ k ∈ S, ∀ id ∈ idsV (g k), h' id = h id) (hc : ∀ x, v = .c x → idsV x = []) : ∀ id ∈ idsV (val g v), h' id = h id := by
  cases v with
  | s k => intro id hid; exact hh k (hsub k (by simp [ivSlots])) id hid
  | c x => intro id hid; rw [show val g (.c x) = x from rfl, hc x rfl] at hid; cases hid

theorem const_iv {v : IV} (h : ivConst v = true) : ∀ x, v = .c x → idsV x = [] := by
  rintro x rfl
  simpa [ivConst] using h

theorem aev_local {d : Nat} {op : IOp} (hg : ∀ k ∈ opSlots op, g' k = g k) (hh : ∀ k ∈ opSlots op, ∀ id ∈ idsV (g k), h' id = h id) (hc : constOk op = true) : aev d op (val g') h' = aev d op (val g) h := by
  have v1 : ∀ {v : IV}, (∀ k ∈ ivSlots v, k ∈ opSlots op) → val g' v = val g v := fun hs => val_local fun k hk => hg k (hs k hk)
  have vo : ∀ {v : Option IV}, (∀ x, v = some x → ∀ k ∈ ivSlots x, k ∈ opSlots op) → v.map (val g') = v.map (val g) := fun hs => opt_local fun x hx k hk => hg k (hs x hx k hk)
  have hp : ∀ {v : IV}, (∀ k ∈ ivSlots v, k ∈ opSlots op) → (∀ x, v = .c x → idsV x = []) → ∀ id ∈ idsV (val g v), h' id = h id := fun hs hc => heap_iv hs hh hc
  cases op with
  | mov x => simp only [aev]; rw [v1 (fun k hk => by simp only [opSlots]; exact hk)]
  | pick c a b =>
    simp only [aev]
    rw [v1 (v := c) (fun k hk => by simp only [opSlots, List.mem_append]; simp [hk]), v1 (v := a) (fun k hk => by simp only [opSlots, List.mem_append]; simp [hk]), v1 (v := b) (fun k hk => by simp only [opSlots, List.mem_append]; simp [hk])]
  | new t cs => rfl
  | box t n x => simp only [aev]; rw [v1 (fun k hk => by simp only [opSlots]; exact hk)]
  | build cs ps =>
    simp only [aev]
    rw [aParts_local (fun p hp k hk => hg k (by simp only [opSlots, List.mem_flatMap]; exact ⟨p, hp, hk⟩))]
  | bsl t st rows ps =>
    simp only [aev]
    rw [aRows_local (fun p hp k hk => hg k (by simp only [opSlots, List.mem_flatMap]; exact ⟨p, hp, hk⟩))]
  | load n p =>
    have hs : ∀ k ∈ ivSlots p, k ∈ opSlots (.load n p) := fun k hk => by simp only [opSlots]; exact hk
    simp only [aev]
    rw [v1 hs, aLoad_local (hp hs (const_iv hc))]
  | store n p x =>
    simp only [constOk, Bool.and_eq_true] at hc
    have hs : ∀ k ∈ ivSlots p, k ∈ opSlots (.store n p x) := fun k hk => by simp only [opSlots, List.mem_append]; simp [hk]
    have hs2 : ∀ k ∈ ivSlots x, k ∈ opSlots (.store n p x) := fun k hk => by simp only [opSlots, List.mem_append]; simp [hk]
    simp only [aev]
    rw [v1 hs, v1 hs2, aStore_local (hp hs (const_iv hc.1))]
  | fadr off p => simp only [aev]; rw [v1 (fun k hk => by simp only [opSlots]; exact hk)]
  | fld off n x => simp only [aev]; rw [v1 (fun k hk => by simp only [opSlots]; exact hk)]
  | iadr st x i =>
    simp only [aev]
    rw [v1 (v := x) (fun k hk => by simp only [opSlots, List.mem_append]; simp [hk]), v1 (v := i) (fun k hk => by simp only [opSlots, List.mem_append]; simp [hk])]
  | aadr st n x i =>
    simp only [aev]
    rw [v1 (v := x) (fun k hk => by simp only [opSlots, List.mem_append]; simp [hk]), v1 (v := i) (fun k hk => by simp only [opSlots, List.mem_append]; simp [hk])]
  | mnx m x y =>
    simp only [aev]
    rw [v1 (v := x) (fun k hk => by simp only [opSlots, List.mem_append]; simp [hk]), v1 (v := y) (fun k hk => by simp only [opSlots, List.mem_append]; simp [hk])]
  | slc st x lo hi mx =>
    have e : ∀ {v : Option IV} {k : Nat}, k ∈ ioSlots v ↔ ∃ x, v = some x ∧ k ∈ ivSlots x := by
      intro v k
      cases v <;> simp [ioSlots]
    simp only [aev]
    rw [v1 (v := x) (fun k hk => by simp only [opSlots, List.mem_append]; simp [hk]), vo (v := lo) (fun y hy k hk => by simp only [opSlots, List.mem_append]; exact .inl (.inl (.inr (e.2 ⟨y, hy, hk⟩)))),
      vo (v := hi) (fun y hy k hk => by simp only [opSlots, List.mem_append]; exact .inl (.inr (e.2 ⟨y, hy, hk⟩))), vo (v := mx) (fun y hy k hk => by simp only [opSlots, List.mem_append]; exact .inr (e.2 ⟨y, hy, hk⟩))]
  | len x => simp only [aev]; rw [v1 (fun k hk => by simp only [opSlots]; exact hk)]
  | app t st x y =>
    simp only [constOk, Bool.and_eq_true] at hc
    have hs : ∀ k ∈ ivSlots x, k ∈ opSlots (.app t st x y) := fun k hk => by simp only [opSlots, List.mem_append]; simp [hk]
    have hs2 : ∀ k ∈ ivSlots y, k ∈ opSlots (.app t st x y) := fun k hk => by simp only [opSlots, List.mem_append]; simp [hk]
    simp only [aev]
    rw [v1 hs, v1 hs2, rowsA_local (hp hs2 (const_iv hc.2)), aApp_local (hp hs (const_iv hc.1))]
  | slen x => simp only [aev]; rw [v1 (fun k hk => by simp only [opSlots]; exact hk)]
  | sslc x lo hi =>
    have e : ∀ {v : Option IV} {k : Nat}, k ∈ ioSlots v ↔ ∃ x, v = some x ∧ k ∈ ivSlots x := by
      intro v k
      cases v <;> simp [ioSlots]
    simp only [aev]
    rw [v1 (v := x) (fun k hk => by simp only [opSlots, List.mem_append]; simp [hk]), vo (v := lo) (fun y hy k hk => by simp only [opSlots, List.mem_append]; exact .inl (.inr (e.2 ⟨y, hy, hk⟩))),
      vo (v := hi) (fun y hy k hk => by simp only [opSlots, List.mem_append]; exact .inr (e.2 ⟨y, hy, hk⟩))]
  | apps t x y =>
    simp only [constOk, Bool.and_eq_true] at hc
    have hs : ∀ k ∈ ivSlots x, k ∈ opSlots (.apps t x y) := fun k hk => by simp only [opSlots, List.mem_append]; simp [hk]
    have hs2 : ∀ k ∈ ivSlots y, k ∈ opSlots (.apps t x y) := fun k hk => by simp only [opSlots, List.mem_append]; simp [hk]
    simp only [aev]
    rw [v1 hs, v1 hs2, aApp_local (hp hs (const_iv hc.1))]
  | bin op x y =>
    simp only [aev]
    rw [v1 (v := x) (fun k hk => by simp only [opSlots, List.mem_append]; simp [hk]), v1 (v := y) (fun k hk => by simp only [opSlots, List.mem_append]; simp [hk])]
  | bbin op x y =>
    simp only [aev]
    rw [v1 (v := x) (fun k hk => by simp only [opSlots, List.mem_append]; simp [hk]), v1 (v := y) (fun k hk => by simp only [opSlots, List.mem_append]; simp [hk])]
  | pbin op x y =>
    simp only [aev]
    rw [v1 (v := x) (fun k hk => by simp only [opSlots, List.mem_append]; simp [hk]), v1 (v := y) (fun k hk => by simp only [opSlots, List.mem_append]; simp [hk])]
  | un op x => simp only [aev]; rw [v1 (fun k hk => by simp only [opSlots]; exact hk)]
  | cvi k' x => simp only [aev]; rw [v1 (fun k hk => by simp only [opSlots]; exact hk)]
  | cvs x =>
    have hs : ∀ k ∈ ivSlots x, k ∈ opSlots (.cvs x) := fun k hk => by simp only [opSlots]; exact hk
    simp only [aev]
    rw [v1 hs, rowsA_local (hp hs (const_iv hc))]
  | cvt x => simp only [aev]; rw [v1 (fun k hk => by simp only [opSlots]; exact hk)]
  | cvb t x => simp only [aev]; rw [v1 (fun k hk => by simp only [opSlots]; exact hk)]
  | call f args => rfl
  | callv f args => rfl
  | ext x i => simp only [aev]; rw [v1 (fun k hk => by simp only [opSlots]; exact hk)]
  | nchk x => simp only [aev]; rw [v1 (fun k hk => by simp only [opSlots]; exact hk)]
  | mkf f caps =>
    simp only [aev]
    rw [vals_local (fun v hv k hk => hg k (by simp only [opSlots, List.mem_flatMap]; exact ⟨v, hv, hk⟩))]
  | sidx x i =>
    simp only [aev]
    rw [v1 (v := x) (fun k hk => by simp only [opSlots, List.mem_append]; simp [hk]), v1 (v := i) (fun k hk => by simp only [opSlots, List.mem_append]; simp [hk])]
  | mks t st z x y =>
    simp only [aev]
    rw [v1 (v := x) (fun k hk => by simp only [opSlots, List.mem_append]; simp [hk]), v1 (v := y) (fun k hk => by simp only [opSlots, List.mem_append]; simp [hk])]

theorem coe_local {b : Bool} : ∀ {l l' : List AV}, (∀ x ∈ l, ∀ id ∈ idsV x, h' id = h id) → All2 (coe b h) l l' → All2 (coe b h') l l'
  | [], [], _, _ => trivial
  | x :: l, x' :: l', hh, hc => ⟨by
      rcases hc.1 with h1 | h1 | ⟨hb, id, st, off, len, o, h1, h2, h3⟩
      · exact .inl h1
      · exact .inr (.inl h1)
      · refine .inr (.inr ⟨hb, id, st, off, len, o, h1, ?_, h3⟩)
        rw [hh x (by simp) id (by rw [h1]; simp [idsV_ms])]
        exact h2, coe_local (fun y hy => hh y (by simp [hy])) hc.2⟩
  | [], _ :: _, _, hc => hc.elim
  | _ :: _, [], _, hc => hc.elim
end
end Go.Mw
