/-
  Each operation, fifth part: stores, make, append, conversions between strings and bytes.
-/
import Derived.Test.YtkejmhpodhbeeaaDoorMwG
namespace Go.Mw

section
variable {P : Program} {c : Ctx} {bl : Nat → Option Nat} {g : Nat → AV} {h : Nat → Option AObj} {a : Act} {w : World} {o : Oper} {M : Nat → Prop}

theorem setCells_heap (b : Nat) : ∀ (vs : List Value) (off : Nat) (w : World) {c1 : Array Value} {t : TypeId} {fr : Nat × Nat}, w.heap[b]? = some (.cells c1 t fr) → off + vs.length ≤ c1.size →
    ∃ c2 : Array Value, (w.setCells b off vs).heap[b]? = some (.cells c2 t fr) ∧ c2.size = c1.size ∧ (∀ i : Nat, c2[i]? = if off ≤ i ∧ i < off + vs.length then vs[i - off]? else c1[i]?) ∧
      (w.setCells b off vs).heap.size = w.heap.size ∧ (∀ b', b' ≠ b → (w.setCells b off vs).heap[b']? = w.heap[b']?) ∧ (w.setCells b off vs).os = w.os ∧ (w.setCells b off vs).output = w.output
  | [], off, w, c1, t, fr, hb, _ => ⟨c1, hb, rfl, fun i => by rw [if_neg (by simp only [List.length_nil]; omega)], rfl, fun _ _ => rfl, rfl, rfl⟩
  | v :: r, off, w, c1, t, fr, hb, hl => by
    simp only [List.length_cons] at hl
    have hb1 : (w.setCell ⟨b, off, none⟩ v).heap[b]? = some (.cells (c1.setIfInBounds off v) t fr) := by
      simp [World.setCell, Array.getElem?_modify, hb]
    obtain ⟨c2, h1, h2, h3, h4, h5, h6, h7⟩ := setCells_heap b r (off + 1) (w.setCell ⟨b, off, none⟩ v) hb1 (by simp; omega)
    refine ⟨c2, h1, by rw [h2]; simp, fun i => ?_, by rw [World.setCells, h4]; simp, fun b' hb' => ?_, by rw [World.setCells, h6]; rfl, by rw [World.setCells, h7]; rfl⟩
    · rw [h3 i, Array.getElem?_setIfInBounds]
      simp only [List.length_cons]
      by_cases e1 : off = i
      · subst e1
        rw [if_neg (by omega), if_pos (by omega)]
        simp; omega
      · by_cases e2 : off ≤ i ∧ i < off + (r.length + 1)
        · rw [if_pos (by omega), if_pos e2, show i - off = (i - (off + 1)) + 1 by omega, List.getElem?_cons_succ]
        · rw [if_neg (by omega), if_neg e2, if_neg e1]
    · rw [World.setCells, h5 b' hb']
      simp [World.setCell, Array.getElem?_modify, Ne.symm hb']

theorem one' {v : Value} (h : oneCell v) : v.oneCell' = true := by cases v <;> first | rfl | exact h.elim

theorem run_store_block {b off : Nat} {vs : List Value} {c1 : Array Value} {t : TypeId} {fr : Nat × Nat} (hb : w.heap[b]? = some (.cells c1 t fr)) (uf : unfrozen c1 fr) (hl : off + vs.length ≤ c1.size) (h1 : ∀ v ∈ vs, oneCell v) :
    (storeCells ⟨b, off, none⟩ vs).run P w = .ok () (w.setCells b off vs) := by
  have := run_storeCells_cells (P := P) b off vs 0 w (fun j hj => by rw [cell_of hb]; simp; omega) (fun j hj => by
    simp only [World.frozen?, hb]
    have := uf (off + 0 + j) (by omega)
    simp only [Bool.and_eq_false_iff, decide_eq_false_iff_not]
    omega) (fun v hv => one' (h1 v hv))
  simpa using this

theorem All2.left {α β : Type} {R : α → β → Prop} {p : α → Prop} : ∀ {l : List α} {m : List β}, All2 R l m → (∀ a b, R a b → p a) → ∀ a ∈ l, p a
  | [], [], _, _ => by simp
  | a :: _, _ :: _, h, f => fun x hx => by
    rcases List.mem_cons.1 hx with rfl | hx
    · exact f _ _ h.1
    · exact h.2.left f x hx
  | [], _ :: _, h, _ => h.elim
  | _ :: _, [], h, _ => h.elim

theorem ok_store (s : SatB c bl g h a w) {t : TypeId} {n : Nat} {p x : Operand} {pv xv : IV} (ho : o.op = .store t p x) (hn : tSize P t = some n) (hp : cV p = some pv) (hx : cV x = some xv)
    {e : Eff} (he : aStore n (val g pv) (val g xv) h = some e) : OpOK P c o a w g h .any e := by
  have h1 := cV_rel s hp
  unfold aStore at he
  split at he
  case h_2 => cases he
  rename_i id st row off cs e1 e2
  rw [e1] at h1
  split at he
  case h_2 => cases he
  rename_i ob hob
  split at he
  case isFalse => cases he
  rename_i hcond
  obtain ⟨hst, hlen, himm⟩ := hcond
  split at he
  case h_2 => cases he
  rename_i r hr
  split at he
  case isFalse => cases he
  rename_i hfit
  cases he
  have hv := cells_rel (cV_rel s hx) e2
  have el := hv.length
  simp only [Array.length_toList] at el
  obtain ⟨b, hb, hpv⟩ := h1.mp
  rcases s.heap.1 id ob hob with hn0 | ⟨b', h2, c1, fr, h3, h4, h5, h6, h7, h8⟩
  · rw [hn0.2.2] at hb; cases hb
  rw [hb] at h2
  cases h2
  have hrl := h6 _ _ hr
  have hrow : row < ob.rows.length := (List.getElem?_eq_some_iff.1 hr).1
  have hspace : row * ob.st + ob.st ≤ c1.size := by
    have := Nat.mul_le_mul_right ob.st (show row + 1 ≤ ob.rows.length by omega)
    rw [Nat.add_mul] at this
    omega
  have hsz : (sizeOf t).run P w = .ok n w := size_run hn
  have hrun : (execOp a.eval o).run P w = .ok .skip (w.setCells b (row * st + off) (a.eval x).cells.toList) := by
    have hst' := run_store_block (P := P) (w := w) (b := b) (off := row * st + off) (vs := (a.eval x).cells.toList) h3 h4 (by simp only [Array.length_toList]; rw [← hst]; omega) (hv.left fun _ _ hr => CRel.one hr)
    simp [execOp, ho, Instr.storeAt, Instr.sureAddr, hpv, storeVar, hsz, el, hlen, hst']
  obtain ⟨c2, g1, g2, g3, g4, g5, g6, g7⟩ := setCells_heap b (a.eval x).cells.toList (row * st + off) w h3 (by simp only [Array.length_toList]; rw [← hst]; omega)
  simp only [Array.length_toList, el, hlen] at g3
  have hspl : (splice r off cs).length = r.length := splice_length _ _ _ (by omega)
  have hs := s.write (o' := { ob with rows := ob.rows.set row (splice r off cs) }) hob hb h3 g1 g2 g4 g5 g6 g7 rfl ⟨fun i q hq => by
      simp only at hq ⊢
      rw [List.getElem?_set] at hq
      split at hq
      · cases hq; omega
      · exact h6 i q hq, by simpa [g2] using h7, fun i j q y hq hy => by
      simp only at hq hy ⊢
      rw [List.getElem?_set] at hq
      rw [g3]
      split at hq
      · rename_i hri
        subst hri
        cases hq
        rw [splice_get _ _ _ (by omega)] at hy
        by_cases hin : off ≤ j ∧ j < off + cs.length
        · rw [if_pos hin] at hy
          rw [if_pos (by rw [← hst]; omega)]
          obtain ⟨u, hu, hr'⟩ := hv.get hy
          refine ⟨u, by rw [← hu]; congr 1; rw [← hst]; omega, ?_⟩
          cases hrec : ob.isRec with
          | true => exact hr'
          | false =>
            rw [hrec] at himm
            simp only [Bool.false_or] at himm
            exact immA_rel hr' (List.all_eq_true.1 himm y (List.mem_of_getElem? hy))
        · rw [if_neg hin] at hy
          rw [if_neg (by rw [← hst]; omega)]
          exact h8 _ _ _ _ hr hy
      · rename_i hri
        have hj : j < ob.st := by rw [← h6 i q hq]; exact (List.getElem?_eq_some_iff.1 hy).1
        rw [if_neg (fun hh => hri (by
          rw [← hst] at hh
          exact ((row_index (k := row) hj).1 ⟨by omega, by omega⟩).symm))]
        exact h8 _ _ _ _ hq hy⟩
  exact ⟨undef, _, bl, .inr ⟨hrun, rfl⟩, hs, trivial⟩

/-! ### make -/
theorem ok_mks (s : SatB c bl g h a w) {d : Nat} {t e : TypeId} {st : Nat} {z : List AV} {l cp : Operand} {lv cv : IV} (ho : o.op = .makeSlice t l cp) (hap : appOk P t = some (e, st)) (hz : tZero P e = some z) (hl : cV l = some lv) (hcp : cV cp = some cv)
    {n m : Int} (e1 : val g lv = .int .i64 n) (e2 : val g cv = .int .i64 m) (h0 : 0 ≤ n) (h1 : n ≤ m) (h2 : m < 1073741824) (hzl : z.length = st)
    (hd : h d = none) (hu : Unnamed d g h) (hid : d < 1000 ∨ 2000 ≤ d) : OpOK P c o a w g h (.ms d st 0 n.toNat) (.new d ⟨e, st, List.replicate n.toNat z, false⟩) := by
  unfold appOk at hap
  split at hap
  case h_2 => cases hap
  rename_i e' ht
  split at hap
  case h_2 => cases hap
  rename_i i z' hi hz'
  split at hap
  case isFalse => cases hap
  rename_i hcond
  obtain ⟨hb1, hb2, hb3, hb4⟩ := hcond
  cases hap
  rw [hz] at hz'
  cases hz'
  obtain ⟨i', v, h4, h5, h6, _⟩ := tZero_spec (M := Mut bl c.MF h) (w := w) hz
  rw [hi] at h4
  cases h4
  have r1 := cV_rel s hl
  have r2 := cV_rel s hcp
  rw [e1] at r1
  rw [e2] at r2
  have hzr := zeros_rel (len := m.toNat) h6 rfl (by omega)
  rw [hb3] at hzr
  refine ok_new_arr (w' := w.alloc (.cells ((Array.range (m.toNat * i.size)).map (v.cells[· % v.cells.size]!)) e)) (cs := (Array.range (m.toNat * i.size)).map (v.cells[· % v.cells.size]!)) (fr := (0, 0)) (cap := m.toNat) s hd hu hid ?_ rfl rfl rfl (unfrozen0 _) ?_ ?_ (by omega) (by simp) ?_
  · have hwl : IntKind.i64.wrap n = n := IntWalk.i64_in _ (by omega)
    have hwm : IntKind.i64.wrap m = m := IntWalk.i64_in _ (by omega)
    have hbig : ¬ ((i.bytes : Int) * m > 2 ^ 48) := by
      have : (i.bytes : Int) * m ≤ 1024 * m := Int.mul_le_mul_of_nonneg_right (by omega) (by omega)
      omega
    have hbig2 : ¬ (281474976710656 : Int) < (i.bytes : Int) * m := by simpa using hbig
    have hm0 : ¬ m < 0 := by omega
    have hn0 : ¬ n < 0 := by omega
    have hnm : ¬ n > m := by omega
    have hnm' : ¬ m < n := by omega
    simp only [execOp, ho, r1.int, r2.int]
    by_cases hz0 : m.toNat * i.size = 0
    · simp [Instr.makeSlice, underlying, ht, asInt, asIntOf, typeInfo, hi, hwl, hwm, hbig2, hm0, hn0, hnm', sizeOf, hz0, newRow]
      have hr0 : Array.range 0 = #[] := by simp
      rw [hr0, Array.map_empty, Array.map_empty]
    · simp [Instr.makeSlice, underlying, ht, asInt, asIntOf, typeInfo, hi, hwl, hwm, hbig2, hm0, hn0, hnm', sizeOf, hz0, newRow, zeroValue, h5]
  · intro k r hr
    rw [List.getElem?_replicate] at hr
    split at hr
    · cases hr; exact hb3
    · cases hr
  · simp only [List.length_replicate, hzr.2.1]
    exact Nat.mul_le_mul_right _ (by omega)
  · intro k j r x hr hx
    refine hzr.2.2 k j r x ?_ hx
    rw [List.getElem?_replicate] at hr ⊢
    split at hr
    · cases hr; rw [if_pos (by omega)]
    · cases hr
end
end Go.Mw
