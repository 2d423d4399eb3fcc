/-
  Each operation, fourth part: new memory and writes.
-/
import Derived.Test.YtkejmhpodhbeeaaDoorMwF
import Derived.Great.BuildSlice
namespace Go.Mw

section
variable {P : Program} {c : Ctx} {bl : Nat → Option Nat} {g : Nat → AV} {h : Nat → Option AObj} {a : Act} {w : World} {o : Oper} {M : Nat → Prop}

theorem tZero_spec {t : TypeId} {z : List AV} (hz : tZero P t = some z) : ∃ i v, P.info? t = some i ∧ i.zero = some v ∧ All2 (IRel M w) v.cells.toList z ∧ cCells v.cells.toList = some z := by
  unfold tZero at hz
  split at hz
  · rename_i i hi
    split at hz
    · rename_i v hv
      exact ⟨i, v, hi, hv, cCells_rel hz, hz⟩
    · cases hz
  · cases hz

theorem fill_parts (s : SatB c bl g h a w) {places : List (Nat × Nat)} : ∀ (parts : List (Nat × Operand)) (ps : List (Nat × Nat × IV)) (cs : Array Value) (cells out : List AV), cParts places parts = some ps →
    All2 (CRel bl (Mut bl c.MF h) w) cs.toList cells → aParts (val g) cells ps = some out →
    ∃ cs', Instr.fill (places.toArray[·]?) cs (parts.map fun (i, x) => (i, a.eval x)) = some cs' ∧ All2 (CRel bl (Mut bl c.MF h) w) cs'.toList out
  | [], ps, cs, cells, out, hp, hc, ho => by
    simp only [cParts, Option.some.injEq] at hp
    subst hp
    simp only [aParts, Option.some.injEq] at ho
    subst ho
    exact ⟨cs, rfl, hc⟩
  | (i, x) :: r, ps, cs, cells, out, hp, hc, ho => by
    simp only [cParts] at hp
    split at hp
    case h_2 => cases hp
    rename_i off n v l h1 h2 h3
    cases hp
    simp only [aParts] at ho
    split at ho
    case h_2 => cases ho
    rename_i ys hys
    split at ho
    case isFalse => cases ho
    rename_i hcond
    obtain ⟨hl1, hl2⟩ := hcond
    have hv := cells_rel (cV_rel s h2) hys
    have e1 : (a.eval x).cells.size = n := by have := hv.length; simp only [Array.length_toList] at this; omega
    have e2 : cs.size = cells.length := by have := hc.length; simpa only [Array.length_toList] using this
    obtain ⟨cs', h4, h5⟩ := fill_parts s r l _ _ out h3 (fill_rel hc hv (by omega)) ho
    refine ⟨cs', ?_, h5⟩
    simp only [List.map_cons, Instr.fill]
    simp only [List.getElem?_toArray] at h4 ⊢
    rw [h1]
    have hcond2 : ¬ (decide ((a.eval x).cells.size ≠ n) || decide (off + (a.eval x).cells.size > cs.size)) = true := by simp; omega
    simp only [hcond2]
    exact h4

theorem ok_build (s : SatB c bl g h a w) {t : TypeId} {fs : Array Field} {z : List AV} {places : List (Nat × Nat)} {parts : Array (Nat × Operand)} {ps : List (Nat × Nat × IV)} (ho : o.op = .build t parts) (ht : P.underlying t = some (.struct fs))
    (hz : tZero P t = some z) (hpl : tPlaces P fs = some places) (hp : cParts places parts.toList = some ps) {out : List AV} (he : aParts (val g) z ps = some out) : OpOK P c o a w g h (.agg out) .no := by
  obtain ⟨i, v, h1, h2, h3, _⟩ := tZero_spec (M := Mut bl c.MF h) (w := w) hz
  obtain ⟨cs, h4, h5⟩ := fill_parts s parts.toList ps v.cells z out hp (h3.mono fun _ _ _ hr => IRel.toC hr) he
  have hb : P.built t (parts.map fun (i, x) => (i, a.eval x)).toList = some cs := by
    unfold tPlaces at hpl
    simp only [Program.built, h1, ht, h2, hpl]
    rw [Array.toList_map]
    exact h4
  exact OpOK.pure s (r := .agg cs) (by simp [execOp, ho, run_build w t _ cs hb]) ⟨cs.toList, by simp, h5⟩

/-! ### New objects -/

theorem mC_cCell {v : Value} {x : AV} (hc : cCell v = some x) (i : Nat) : mC i x = false := by
  unfold cCell at hc
  split at hc <;> first | (cases hc; done) | (cases hc; rfl)
theorem mC_cCells : ∀ {vs : List Value} {xs : List AV}, cCells vs = some xs → ∀ x ∈ xs, ∀ i, mC i x = false
  | [], xs, hc => by simp only [cCells, Option.some.injEq] at hc; subst hc; simp
  | v :: r, xs, hc => by
    simp only [cCells] at hc
    split at hc
    · rename_i x ys h1 h2
      simp only [Option.some.injEq] at hc
      subst hc
      intro y hy i
      rcases List.mem_cons.1 hy with rfl | hy
      · exact mC_cCell h1 i
      · exact mC_cCells h2 y hy i
    · cases hc

theorem unfrozen0 (cs : Array Value) : unfrozen cs (0, 0) := fun j _ h => by omega

/-- A new struct variable. -/
theorem ok_new_rec (s : SatB c bl g h a w) {d : Nat} {t : TypeId} {v : Value} {cs : List AV} (hd : h d = none) (hu : Unnamed d g h) (hid : d < 1000 ∨ 2000 ≤ d)
    (hrun : (execOp a.eval o).run P w = .ok (.value (.pointer (some ⟨w.heap.size, 0, none⟩))) (w.alloc (.cells v.cells t)))
    (hc : All2 (CRel bl (Mut bl c.MF h) w) v.cells.toList cs) (hno : ∀ x ∈ cs, mC d x = false) : OpOK P c o a w g h (.mp d cs.length 0 0) (.new d ⟨t, cs.length, [cs], true⟩) := by
  have e1 := hc.length
  simp only [Array.length_toList] at e1
  have hs := s.new (i := d) (o := ⟨t, cs.length, [cs], true⟩) (cs := v.cells) (fr := (0, 0)) (w' := w.alloc (.cells v.cells t)) hd hu hid rfl rfl rfl (unfrozen0 _)
    ⟨fun i r hr => by
      cases i with
      | zero => simp at hr; subst hr; rfl
      | succ i => simp at hr, by simp [e1], fun i j r x hr hx => by
      cases i with
      | zero =>
        simp at hr
        subst hr
        obtain ⟨u, hu1, hu2⟩ := hc.get hx
        exact ⟨u, by simpa using hu1, hu2⟩
      | succ i => simp at hr⟩ (fun _ r hr x hx => by
      simp at hr
      subst hr
      exact hno x hx)
  exact ⟨_, _, _, .inl hrun, hs, w.heap.size, upd_same _ _ _, by simp⟩

theorem ok_new (s : SatB c bl g h a w) {d : Nat} {t : TypeId} {z : List AV} (ho : o.op = .alloc t) (hz : tZero P t = some z) (hd : h d = none) (hu : Unnamed d g h) (hid : d < 1000 ∨ 2000 ≤ d) :
    OpOK P c o a w g h (.mp d z.length 0 0) (.new d ⟨t, z.length, [z], true⟩) := by
  obtain ⟨i, v, h1, h2, h3, h4⟩ := tZero_spec (M := Mut bl c.MF h) (w := w) hz
  refine ok_new_rec (v := v) s hd hu hid ?_ (h3.mono fun _ _ _ hr => IRel.toC hr) (fun x hx => mC_cCells h4 x hx d)
  simp [execOp, ho, Instr.alloc, zeroValue, typeInfo, h1, h2, newVar, newRow]

theorem ok_box (s : SatB c bl g h a w) {d : Nat} {t : TypeId} {x : Operand} {xv : IV} {cs : List AV} (ho : o.op = .box t x) (hx : cV x = some xv) (hc : cellsA (val g xv) = some cs) (hno : ∀ y ∈ cs, mC d y = false)
    (hd : h d = none) (hu : Unnamed d g h) (hid : d < 1000 ∨ 2000 ≤ d) : OpOK P c o a w g h (.mp d cs.length 0 0) (.new d ⟨t, cs.length, [cs], true⟩) := by
  refine ok_new_rec (v := a.eval x) s hd hu hid ?_ (cells_rel (cV_rel s hx) hc) hno
  simp [execOp, ho, Instr.box, newVar, newRow]

/-- Rows laid one behind the other. -/
def RowsRel (M : Nat → Prop) (w : World) (st : Nat) (cs : Array Value) (rows : List (List AV)) : Prop :=
  (∀ (i : Nat) (r : List AV), rows[i]? = some r → r.length = st) ∧ cs.size = rows.length * st ∧
  ∀ (i j : Nat) (r : List AV) (x : AV), rows[i]? = some r → r[j]? = some x → ∃ v, cs[i * st + j]? = some v ∧ IRel M w v x

theorem immA_rel {bl : Nat → Option Nat} {v : Value} {x : AV} (hv : CRel bl M w v x) (hi : immA x = true) : IRel M w v x := by
  cases x <;> first | (simp [immA] at hi; done) | exact hv

theorem row_index {st i j k : Nat} (hj : j < st) : (k * st ≤ i * st + j ∧ i * st + j < k * st + st) ↔ i = k := by
  constructor
  · rintro ⟨h1, h2⟩
    rcases Nat.lt_trichotomy i k with hlt | heq | hgt
    · have := Nat.mul_le_mul_right st (show i + 1 ≤ k by omega)
      rw [Nat.add_mul] at this
      omega
    · exact heq
    · have := Nat.mul_le_mul_right st (show k + 1 ≤ i by omega)
      rw [Nat.add_mul] at this
      omega
  · rintro rfl
    omega

theorem fill_rows (s : SatB c bl g h a w) {st : Nat} : ∀ (parts : List (Nat × Operand)) (ps : List (Nat × IV)) (cs : Array Value) (rows out : List (List AV)), cRows parts = some ps →
    RowsRel (Mut bl c.MF h) w st cs rows → aRows (val g) st rows ps = some out →
    ∃ cs', Instr.fill (fun i => some (i * st, st)) cs (parts.map fun (i, x) => (i, a.eval x)) = some cs' ∧ RowsRel (Mut bl c.MF h) w st cs' out
  | [], ps, cs, rows, out, hp, hc, ho => by
    simp only [cRows, Option.some.injEq] at hp
    subst hp
    simp only [aRows, Option.some.injEq] at ho
    subst ho
    exact ⟨cs, rfl, hc⟩
  | (k, x) :: r, ps, cs, rows, out, hp, hc, ho => by
    simp only [cRows] at hp
    split at hp
    case h_2 => cases hp
    rename_i v l h2 h3
    cases hp
    simp only [aRows] at ho
    split at ho
    case h_2 => cases ho
    rename_i ys hys
    split at ho
    case isFalse => cases ho
    rename_i hcond
    obtain ⟨hl1, hl2, himm⟩ := hcond
    have hv := cells_rel (cV_rel s h2) hys
    have e1 : (a.eval x).cells.size = st := by have := hv.length; simp only [Array.length_toList] at this; omega
    obtain ⟨hr1, hr2, hr3⟩ := hc
    have hle : k * st + st ≤ cs.size := by
      rw [hr2]
      have := Nat.mul_le_mul_right st (show k + 1 ≤ rows.length by omega)
      rw [Nat.add_mul] at this
      omega
    have hfold : (a.eval x).cells.zipIdx.foldl (fun (cs : Array Value) (p : Value × Nat) => cs.setIfInBounds (k * st + p.2) p.1) cs = ((a.eval x).cells.toList.zipIdx 0).foldl (fun (cs : Array Value) (p : Value × Nat) => cs.setIfInBounds (k * st + p.2) p.1) cs := by
      rw [← Array.foldl_toList, Array.toList_zipIdx]
    obtain ⟨cs', h4, h5⟩ := fill_rows s r l ((a.eval x).cells.zipIdx.foldl (fun (cs : Array Value) (p : Value × Nat) => cs.setIfInBounds (k * st + p.2) p.1) cs) (rows.set k ys) out h3 ⟨fun i q hq => by
        rw [List.getElem?_set] at hq
        split at hq
        · cases hq; exact hl1
        · exact hr1 i q hq, by rw [hfold, foldl_size, hr2]; simp, fun i j q y hq hy => by
        rw [hfold, foldl_get _ _ _ _ (by simp; omega)]
        simp only [Nat.add_zero, Array.length_toList, e1]
        rw [List.getElem?_set] at hq
        split at hq
        · rename_i hki
          subst hki
          cases hq
          have hj : j < st := by rw [← hl1]; exact (List.getElem?_eq_some_iff.1 hy).1
          obtain ⟨u, hu, hr⟩ := hv.get hy
          refine ⟨u, ?_, immA_rel hr (List.all_eq_true.1 himm y (List.mem_of_getElem? hy))⟩
          rw [if_pos (by omega), show k * st + j - k * st = j by omega]
          exact hu
        · rename_i hki
          have hj : j < st := by rw [← hr1 i q hq]; exact (List.getElem?_eq_some_iff.1 hy).1
          obtain ⟨u, hu, hr⟩ := hr3 i j q y hq hy
          refine ⟨u, ?_, hr⟩
          rw [if_neg (fun hh => hki ((row_index hj).1 hh).symm)]
          exact hu⟩ ho
    refine ⟨cs', ?_, h5⟩
    simp only [List.map_cons, Instr.fill]
    have hcond2 : ¬ (decide ((a.eval x).cells.size ≠ st) || decide (k * st + (a.eval x).cells.size > cs.size)) = true := by simp; omega
    simp only [hcond2]
    exact h4

theorem zeros_rel {z : Array Value} {zs : List AV} {st len : Nat} (hz : All2 (IRel M w) z.toList zs) (hl : zs.length = st) (h0 : 1 ≤ st) :
    RowsRel M w st ((Array.range (len * st)).map (z[· % z.size]!)) (List.replicate len zs) := by
  have e1 := hz.length
  simp only [Array.length_toList] at e1
  refine ⟨fun i r hr => ?_, by simp, fun i j r x hr hx => ?_⟩
  · rw [List.getElem?_replicate] at hr
    split at hr
    · cases hr; exact hl
    · cases hr
  · rw [List.getElem?_replicate] at hr
    split at hr
    case isFalse => cases hr
    rename_i hi
    cases hr
    have hj : j < st := by rw [← hl]; exact (List.getElem?_eq_some_iff.1 hx).1
    obtain ⟨u, hu, hr⟩ := hz.get hx
    refine ⟨u, ?_, hr⟩
    have hlt : i * st + j < len * st := by
      have := Nat.mul_le_mul_right st (show i + 1 ≤ len by omega)
      rw [Nat.add_mul] at this
      omega
    have hmod : (i * st + j) % z.size = j := by
      rw [show z.size = st by omega, Nat.add_comm, Nat.add_mul_mod_self_right]
      exact Nat.mod_eq_of_lt hj
    rw [Array.getElem?_map, Array.getElem?_range, if_pos hlt]
    simp only [Option.map_some, hmod]
    rw [Array.getElem?_toList] at hu
    rw [getElem!_pos z j (by omega)]
    rw [Array.getElem?_eq_getElem (by omega)] at hu
    exact hu

/-- A new array. -/
theorem ok_new_arr (s : SatB c bl g h a w) {d : Nat} {e : TypeId} {st : Nat} {cs : Array Value} {rows : List (List AV)} {fr : Nat × Nat} {len cap : Nat} {w' : World} (hd : h d = none) (hu : Unnamed d g h) (hid : d < 1000 ∨ 2000 ≤ d)
    (hrun : (execOp a.eval o).run P w = .ok (.value (.slice (some ⟨w.heap.size, 0, none⟩) len cap)) w') (hw : w'.heap = w.heap.push (.cells cs e fr)) (hos : w'.os = w.os) (hout : w'.output = w.output) (uf : unfrozen cs fr)
    (hr1 : ∀ (i : Nat) (r : List AV), rows[i]? = some r → r.length = st) (hr2 : rows.length * st ≤ cs.size) (hlen : len ≤ cap) (hcap : cap * st ≤ cs.size)
    (hr3 : ∀ (i j : Nat) (r : List AV) (x : AV), rows[i]? = some r → r[j]? = some x → ∃ v, cs[i * st + j]? = some v ∧ IRel (Mut bl c.MF h) w v x) :
    OpOK P c o a w g h (.ms d st 0 len) (.new d ⟨e, st, rows, false⟩) := by
  have hs := s.new (i := d) (o := ⟨e, st, rows, false⟩) (cs := cs) (fr := fr) (w' := w') hd hu hid hw hos hout uf ⟨hr1, hr2, hr3⟩ (fun hf => by cases hf)
  refine ⟨_, _, _, .inl hrun, hs, .inr (.inr ⟨w.heap.size, cap, cs, e, fr, upd_same _ _ _, by simp, hlen, by rw [hw]; simp, by simpa using hcap⟩)⟩

theorem ok_bsl (s : SatB c bl g h a w) {d : Nat} {t e : TypeId} {len n : Nat} {z : List AV} {parts : Array (Nat × Operand)} {ps : List (Nat × IV)} (ho : o.op = .buildSlice t len parts) (ht : P.underlying t = some (.slice e))
    (hz : tZero P e = some z) (hn : tSize P e = some n) (hp : cRows parts.toList = some ps) (hzl : z.length = n) (h1 : 1 ≤ n) (h3 : len * n ≤ 16777216) {out : List (List AV)} (he : aRows (val g) n (List.replicate len z) ps = some out)
    (hd : h d = none) (hu : Unnamed d g h) (hid : d < 1000 ∨ 2000 ≤ d) : OpOK P c o a w g h (.ms d n 0 out.length) (.new d ⟨e, n, out, false⟩) := by
  obtain ⟨i, v, h4, h5, h6, _⟩ := tZero_spec (M := Mut bl c.MF h) (w := w) hz
  have hsz : i.size = n := by simpa [tSize, h4] using hn
  obtain ⟨cs, h7, h8, h9, h10⟩ := fill_rows s parts.toList ps _ _ out hp (zeros_rel (len := len) h6 hzl h1) he
  have hlen : out.length = len := by
    have key : ∀ (ps : List (Nat × IV)) (rows out : List (List AV)), aRows (val g) n rows ps = some out → out.length = rows.length := by
      intro ps
      induction ps with
      | nil => intro rows out ho; simp only [aRows, Option.some.injEq] at ho; rw [ho]
      | cons p r ih =>
        intro rows out ho
        obtain ⟨k, q⟩ := p
        simp only [aRows] at ho
        split at ho
        · split at ho
          · rw [ih _ _ ho]; simp
          · cases ho
        · cases ho
    rw [key _ _ _ he]
    simp
  rw [hlen]
  by_cases hl0 : len = 0
  · subst hl0
    simp only [Nat.zero_mul] at h7
    have hr0 : (Array.range 0).map (v.cells[· % v.cells.size]!) = #[] := by simp
    have hr1 : (Array.range 0).map ((#[] : Array Value)[· % (#[] : Array Value).size]!) = #[] := by simp
    rw [hr0] at h7
    refine ok_new_arr (cs := cs) (fr := (0, 0)) (cap := 0) (w' := w.alloc (.cells cs e)) s hd hu hid ?_ rfl rfl rfl (unfrozen0 _) h8 (by omega) (Nat.le_refl _) (by simp) h10
    have h7' : Instr.fill (fun i => some (i * n, n)) #[] (parts.map fun (i, x) => (i, a.eval x)).toList = some cs := by rw [Array.toList_map]; exact h7
    have hra : Array.range 0 = #[] := by simp
    simp only [execOp, ho, Instr.buildSlice, Sem.run_bind, run_underlying ht, Result.andThen_ok, size_run hn, Nat.zero_mul, hra]
    simp [hra, h7, newRow]
  have hpos : 0 < len * n := Nat.mul_pos (by omega) (by omega)
  refine ok_new_arr (cs := cs) (fr := (0, 0)) (cap := len) (w' := w.alloc (.cells cs e)) s hd hu hid ?_ rfl rfl rfl (unfrozen0 _) h8 (by omega) (Nat.le_refl _) (by rw [h9, hlen]; exact Nat.le_refl _) h10
  have hb := run_buildSlice (P := P) w t e len (parts.map fun (i, x) => (i, a.eval x)) cs i v ht h4 h5 (by rw [hsz]; omega) (by rw [hsz]; omega) (by rw [hsz, Array.toList_map]; exact h7)
  simp [execOp, ho, hb]
end
end Go.Mw
