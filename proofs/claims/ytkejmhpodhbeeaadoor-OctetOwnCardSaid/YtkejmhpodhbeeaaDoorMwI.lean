/-
  Each operation, sixth part: append; strings and bytes; closures.
-/
import Derived.Test.YtkejmhpodhbeeaaDoorMwH
namespace Go.Mw

section
variable {P : Program} {c : Ctx} {bl : Nat → Option Nat} {g : Nat → AV} {h : Nat → Option AObj} {a : Act} {w : World} {o : Oper} {M : Nat → Prop}

theorem growBy_le (n : Nat) : ∀ (k c : Nat), 256 ≤ c → Builtin.growBy n k c ≤ 2 ^ k * c ∧ 256 ≤ Builtin.growBy n k c
  | 0, c, hc => by simp [Builtin.growBy, hc]
  | k + 1, c, hc => by
    simp only [Builtin.growBy]
    split
    · refine ⟨?_, hc⟩
      have : 1 ≤ 2 ^ (k + 1) := Nat.one_le_two_pow
      calc c = 1 * c := by simp
        _ ≤ 2 ^ (k + 1) * c := Nat.mul_le_mul_right c this
    · have h1 := growBy_le n k (c + (c + 768) / 4) (by omega)
      refine ⟨?_, h1.2⟩
      have h2 : c + (c + 768) / 4 ≤ 2 * c := by omega
      calc _ ≤ 2 ^ k * (c + (c + 768) / 4) := h1.1
        _ ≤ 2 ^ k * (2 * c) := Nat.mul_le_mul_left _ h2
        _ = 2 ^ (k + 1) * c := by rw [Nat.pow_succ, Nat.mul_assoc]

theorem nextcap_le {n c : Nat} (h : c < n) : Builtin.nextslicecap n c ≤ 16 * n := by
  unfold Builtin.nextslicecap
  split
  · omega
  · split
    · omega
    · have := (growBy_le n 4 c (by omega)).1
      omega

/-- What is appended. -/
structure Src (P : Program) (w : World) (st : Nat) (y : Value) (n : Nat) (ys : List Value) : Prop where
  len : ∀ w' : World, (Builtin.lenOf y).run P w' = .ok n w'
  vals : ∀ w' : World, w'.heap = w.heap → (Builtin.firstCells st n y).run P w' = .ok ys.toArray w'

def YRel (M : Nat → Prop) (w : World) (st : Nat) (ys : List Value) (rows : List (List AV)) : Prop :=
  (∀ (i : Nat) (r : List AV), rows[i]? = some r → r.length = st) ∧ ys.length = rows.length * st ∧
  ∀ (i j : Nat) (r : List AV) (x : AV), rows[i]? = some r → r[j]? = some x → ∃ v, ys[i * st + j]? = some v ∧ IRel M w v x

/-- The values of rows that lie in a block. -/
theorem rows_vals {b off st : Nat} {c1 : Array Value} {t : TypeId} {fr : Nat × Nat} {rows : List (List AV)} (hb : w.heap[b]? = some (.cells c1 t fr))
    (hr : ∀ (i : Nat) (r : List AV), rows[i]? = some r → r.length = st)
    (hx : ∀ (i j : Nat) (r : List AV) (x : AV), rows[i]? = some r → r[j]? = some x → ∃ v, c1[off + i * st + j]? = some v ∧ IRel M w v x) :
    ∃ ys : List Value, YRel M w st ys rows ∧ ∀ w' : World, w'.heap = w.heap → (loadCells ⟨b, off, none⟩ (rows.length * st)).run P w' = .ok ys.toArray w' := by
  have hcell : ∀ k, k < rows.length * st → ∃ v, c1[off + k]? = some v := fun k hk => by
    have hst : 0 < st := by
      rcases Nat.eq_zero_or_pos st with h0 | h0
      · subst h0; simp at hk
      · exact h0
    have hi : k / st < rows.length := Nat.div_lt_of_lt_mul (by rw [Nat.mul_comm]; exact hk)
    have e1 : rows[k / st]? = some rows[k / st] := List.getElem?_eq_getElem hi
    have hl := hr _ _ e1
    have hj : k % st < st := Nat.mod_lt _ hst
    obtain ⟨v, hv, _⟩ := hx _ (k % st) _ _ e1 (List.getElem?_eq_getElem (by omega))
    refine ⟨v, ?_⟩
    rw [← hv]
    congr 1
    have := Nat.div_add_mod k st
    rw [Nat.mul_comm] at this
    omega
  refine ⟨(List.range (rows.length * st)).map fun k => (c1[off + k]?).getD default, ⟨hr, by simp, fun i j r x hi hj => ?_⟩, fun w' hw => ?_⟩
  · obtain ⟨v, hv, hrel⟩ := hx i j r x hi hj
    refine ⟨v, ?_, hrel⟩
    have hj' : j < st := by rw [← hr i r hi]; exact (List.getElem?_eq_some_iff.1 hj).1
    have hi' : i < rows.length := (List.getElem?_eq_some_iff.1 hi).1
    have hlt : i * st + j < rows.length * st := by
      have := Nat.mul_le_mul_right st (show i + 1 ≤ rows.length by omega)
      rw [Nat.add_mul] at this
      omega
    rw [List.getElem?_map, List.getElem?_range hlt]
    simp only [Option.map_some]
    rw [← Nat.add_assoc, hv]
    rfl
  · have hld := run_loadCells_list (P := P) (w := w') ⟨b, off, none⟩ ((List.range (rows.length * st)).map fun k => (c1[off + k]?).getD default) (fun j v hv => by
      rw [List.getElem?_map] at hv
      simp only [Option.map_eq_some_iff] at hv
      obtain ⟨k, hk, rfl⟩ := hv
      obtain ⟨hlt, hk⟩ := List.getElem?_eq_some_iff.1 hk
      simp only [List.getElem_range] at hk
      subst hk
      simp only [List.length_range] at hlt
      obtain ⟨v, hv⟩ := hcell j hlt
      rw [addr_add, cell_of (w := w') (by rw [hw]; exact hb), hv]
      rfl)
    simpa using hld

theorem src_nil (st : Nat) : Src P w st (.slice none 0 0) 0 [] := ⟨fun w' => by simp [Builtin.lenOf], fun w' _ => by simp [Builtin.firstCells]⟩
theorem yrel_nil (st : Nat) : YRel M w st [] [] := ⟨fun i r hr => by simp at hr, by simp, fun i j r x hr => by simp at hr⟩
theorem src_empty (st : Nat) (ad : Addr) (cap : Nat) : Src P w st (.slice (some ad) 0 cap) 0 [] := ⟨fun w' => by simp [Builtin.lenOf], fun w' _ => by simp [Builtin.firstCells, loadCells, loadCellsFrom]⟩

theorem src_rel (s : SatB c bl g h a w) {st : Nat} {y : Operand} {yv : IV} (hy : cV y = some yv) {rows : List (List AV)} (hr : rowsA st h (val g yv) = some rows) :
    ∃ ys, Src P w st (a.eval y) rows.length ys ∧ YRel (Mut bl c.MF h) w st ys rows := by
  have h1 := cV_rel s hy
  cases hval : val g yv <;> rw [hval] at hr h1 <;> simp only [rowsA] at hr <;> try cases hr
  case nl =>
    have := h1.nl
    rw [this]
    exact ⟨[], src_nil st, yrel_nil st⟩
  case sl st' rows' =>
    split at hr
    case isFalse => cases hr
    rename_i hst
    subst hst
    cases hr
    generalize hu : a.eval y = u at h1
    have h2 := h1.sl
    cases h2 with
    | nls => exact ⟨[], src_nil _, yrel_nil _⟩
    | sl0 st ad cap => exact ⟨[], src_empty _ _ _, yrel_nil _⟩
    | sl b off cap st c1 t1 fr rows vs hb hM hl hrl hv hx =>
      obtain ⟨ys, h3, h4⟩ := rows_vals (P := P) (M := Mut bl c.MF h) (off := off) hb hrl (fun i j r x hi hj => ⟨vs i j, hv i j (List.getElem?_eq_some_iff.1 hi).1 (by rw [← hrl i r hi]; exact (List.getElem?_eq_some_iff.1 hj).1), hx i j r x hi hj⟩)
      exact ⟨ys, ⟨fun w' => by simp [Builtin.lenOf], fun w' hw => by simp [Builtin.firstCells, h4 w' hw]⟩, h3⟩
  case ms id st' off len =>
    split at hr
    case h_2 => cases hr
    rename_i ob hob
    split at hr
    case isFalse => cases hr
    rename_i hcond
    obtain ⟨rfl, hst, hrec, hfit⟩ := hcond
    cases hr
    have hlen : ((ob.rows.drop off).take len).length = len := by simp; omega
    rcases h1 with ⟨h2, h3, h4⟩ | ⟨h2, h3, ad, cap, h4⟩ | ⟨b, cap, c1, t1, fr, h2, h3, h4, h5, h6⟩
    · subst h3 h4
      rw [h2]
      simp only [List.take_zero, List.length_nil]
      exact ⟨[], src_nil _, yrel_nil _⟩
    · subst h2
      rw [h4]
      simp only [List.take_zero, List.length_nil]
      exact ⟨[], src_empty _ _ _, yrel_nil _⟩
    · rcases s.heap.1 id ob hob with hn0 | ⟨b', g2, c2, fr2, g3, g4, g5, g6, g7, g8⟩
      · rw [hn0.2.2] at h2; cases h2
      rw [h2] at g2
      cases g2
      have getr : ∀ (i : Nat) (r : List AV), ((ob.rows.drop off).take len)[i]? = some r → ob.rows[off + i]? = some r := fun i r hi => by
        rw [List.getElem?_take] at hi
        split at hi
        · simpa using hi
        · cases hi
      obtain ⟨ys, q3, q4⟩ := rows_vals (P := P) (M := Mut bl c.MF h) (w := w) (off := off * st') (st := st') (rows := (ob.rows.drop off).take len) g3 (fun i r hi => by rw [← hst]; exact g6 _ _ (getr i r hi)) (fun i j r x hi hj => by
        obtain ⟨v, hv, hrl⟩ := g8 _ _ _ _ (getr i r hi) hj
        rw [hrec] at hrl
        refine ⟨v, ?_, hrl⟩
        rw [← hv, hst, Nat.add_mul])
      rw [hlen] at q4
      refine ⟨ys, ?_, q3⟩
      rw [h3, hlen]
      exact ⟨fun w' => by simp [Builtin.lenOf], fun w' hw => by simp [Builtin.firstCells, q4 w' hw]⟩

theorem srcS_rel (s : SatB c bl g h a w) {y : Operand} {yv : IV} (hy : cV y = some yv) {rows : List (List AV)} (hr : srcS (val g yv) = some rows) :
    ∃ ys, Src P w 1 (a.eval y) rows.length ys ∧ YRel (Mut bl c.MF h) w 1 ys rows := by
  have h1 := cV_rel s hy
  cases hval : val g yv <;> rw [hval] at hr h1 <;> simp only [srcS, Option.some.injEq] at hr <;> try cases hr
  case str st =>
    rw [h1.str]
    refine ⟨st.map fun b => .int .u8 b.toNat, ⟨fun w' => by simp [Builtin.lenOf, ByteArray.size], fun w' _ => ?_⟩, fun i r hi => ?_, by simp, fun i j r x hi hj => ?_⟩
    · have hex : ((ByteArray.mk st.toArray).extract 0 st.length) = ByteArray.mk st.toArray := by
        apply ByteArray.ext
        simp [ByteArray.data_extract]
      simp [Builtin.firstCells, hex]
    · simp only [List.getElem?_map, Option.map_eq_some_iff] at hi
      obtain ⟨b, _, rfl⟩ := hi
      rfl
    · simp only [List.getElem?_map, Option.map_eq_some_iff] at hi
      obtain ⟨b, hb, rfl⟩ := hi
      cases j with
      | zero => simp at hj; subst hj; exact ⟨.int .u8 b.toNat, by simp [hb], IRel.int _ _⟩
      | succ j => simp at hj

/-- The types of an append. -/
theorem appOk_spec {t e : TypeId} {st : Nat} (hap : appOk P t = some (e, st)) : ∃ i z, P.underlying t = some (.slice e) ∧ P.info? e = some i ∧ i.zero = some z ∧ i.size = st ∧ i.bytes ≤ 1024 ∧ 1 ≤ i.bytes ∧ z.cells.size = st ∧ 1 ≤ st := by
  unfold appOk at hap
  split at hap
  case h_2 => cases hap
  rename_i e' ht
  split at hap
  case h_2 => cases hap
  rename_i i z' hi hz'
  split at hap
  case isFalse => cases hap
  rename_i hcond
  obtain ⟨hb1, hb2, hb3, hb4⟩ := hcond
  cases hap
  obtain ⟨i', v, h4, h5, h6, _⟩ := tZero_spec (M := fun _ => False) (w := default) hz'
  rw [hi] at h4
  cases h4
  have := h6.length
  simp only [Array.length_toList] at this
  exact ⟨i, v, ht, hi, h5, rfl, hb1, hb2, by omega, hb4⟩

section
variable {t t' e : TypeId} {st : Nat} {cl : Call} {x y : Operand}

/-- In the spare room of the array. -/
theorem run_app_room (ho : o.op = .call cl) (hcl : cl.callee = .builtin .append) (hat : cl.argTypes = #[t, t']) (har : cl.args = #[x, y]) (hap : appOk P t = some (e, st)) (ht' : (∃ e', P.underlying t' = some (.slice e')) ∨ P.underlying t' = some .string)
    {b len cap n : Nat} {ys : List Value} (hx : a.eval x = .slice (some ⟨b, 0, none⟩) len cap) (hs : Src P w st (a.eval y) n ys) (hcap : len + n ≤ cap)
    {c1 : Array Value} {t1 : TypeId} {fr : Nat × Nat} (hb : w.heap[b]? = some (.cells c1 t1 fr)) (uf : unfrozen c1 fr) (hl : len * st + ys.length ≤ c1.size) (h1 : ∀ v ∈ ys, oneCell v) :
    (execOp a.eval o).run P w = .ok (.value (.slice (some ⟨b, 0, none⟩) (len + n) cap)) (w.setCells b (len * st) ys) := by
  obtain ⟨i, z, g1, g2, g3, g4, g5, g6, g7, g8⟩ := appOk_spec hap
  have hz : (match P.underlying t' with | some (.int _) => true | _ => false) = false := by rcases ht' with ⟨e', h⟩ | h <;> rw [h]
  have hst := run_store_block (P := P) hb uf hl h1
  rcases ht' with ⟨e', ht'⟩ | ht' <;>
    simp [execOp, ho, resolve, hcl, har, hat, invoke, builtin, Builtin.append_, underlying, g1, hx, sizeOf, typeInfo, g2, g4, ht', hs.len w, hcap, hs.vals w rfl, addr_add, hst]

theorem run_app_none (ho : o.op = .call cl) (hcl : cl.callee = .builtin .append) (hat : cl.argTypes = #[t, t']) (har : cl.args = #[x, y]) (hap : appOk P t = some (e, st)) (ht' : (∃ e', P.underlying t' = some (.slice e')) ∨ P.underlying t' = some .string)
    (hx : a.eval x = .slice none 0 0) {ys : List Value} (hs : Src P w st (a.eval y) 0 ys) :
    (execOp a.eval o).run P w = .ok (.value (.slice none 0 0)) w := by
  obtain ⟨i, z, g1, g2, g3, g4, g5, g6, g7, g8⟩ := appOk_spec hap
  rcases ht' with ⟨e', ht'⟩ | ht' <;>
    simp [execOp, ho, resolve, hcl, har, hat, invoke, builtin, Builtin.append_, underlying, g1, hx, sizeOf, typeInfo, g2, g4, ht', hs.len w, hs.vals w rfl]

/-- Into a new array. -/
theorem run_app_grow (ho : o.op = .call cl) (hcl : cl.callee = .builtin .append) (hat : cl.argTypes = #[t, t']) (har : cl.args = #[x, y]) (hap : appOk P t = some (e, st)) (ht' : (∃ e', P.underlying t' = some (.slice e')) ∨ P.underlying t' = some .string)
    {base : Option Addr} {len cap n : Nat} {olds ys : List Value} (hx : a.eval x = .slice base len cap) (hs : Src P w st (a.eval y) n ys) (hcap : cap < len + n) (hbig : len + n < 2147483648)
    (hold : ∀ w' : World, w'.heap = w.heap → (Builtin.firstCells st len (.slice base len cap)).run P w' = .ok olds.toArray w') :
    ∃ (cs : Array Value) (w' : World) (cap' : Nat), (execOp a.eval o).run P w = .ok (.value (.slice (some ⟨w.heap.size, 0, none⟩) (len + n) cap')) w' ∧ w'.heap = w.heap.push (.cells cs e (0, 0)) ∧ w'.os = w.os ∧ w'.output = w.output ∧
      len + n ≤ cap' ∧ ∃ rest : List Value, cs = (olds ++ ys ++ rest).toArray ∧ rest.length = (cap' - (len + n)) * st := by
  obtain ⟨i, z, g1, g2, g3, g4, g5, g6, g7, g8⟩ := appOk_spec hap
  have hmax : ¬ ((len + n : Nat) : Int) > IntKind.i64.max := by simp [IntKind.max, IntKind.signed, IntKind.bits]; omega
  have hmax' : ¬ (9223372036854775807 : Int) < (len : Int) + (n : Int) := by omega
  have hnc := nextcap_le hcap
  have hroom : ¬ Builtin.nextslicecap (len + n) cap * i.bytes > 2 ^ 48 := by
    have : Builtin.nextslicecap (len + n) cap * i.bytes ≤ (16 * (len + n)) * 1024 := Nat.mul_le_mul hnc g5
    omega
  have hroom' : ¬ 281474976710656 < Builtin.nextslicecap (len + n) cap * i.bytes := by simpa using hroom
  have hcap' : ¬ len + n ≤ cap := by omega
  have hq : Question.forced (.appendCap (len + n) cap e) = false := rfl
  have hb0 : ¬ i.bytes = 0 := by omega
  let cp := (len + n) + (w.tape w.drawn (.appendCap (len + n) cap e)) % (2 ^ 63 - (len + n))
  refine ⟨(olds ++ ys ++ (Builtin.zeroCells z.cells (cp - (len + n))).toList).toArray, w.drew.alloc (.cells (olds ++ ys ++ (Builtin.zeroCells z.cells (cp - (len + n))).toList).toArray e), cp, ?_, rfl, rfl, rfl, Nat.le_add_right _ _, _, rfl, ?_⟩
  · have hv := hs.vals w.drew rfl
    have ho' := hold w.drew rfl
    rcases ht' with ⟨e', ht'⟩ | ht' <;>
      simp [execOp, ho, resolve, hcl, har, hat, invoke, builtin, Builtin.append_, underlying, g1, hx, sizeOf, typeInfo, g2, g4, ht', hs.len w, hcap', hmax', hroom', hq, ho', hv, zeroValue, g3, newRow, Question.cut, hb0, cp]
    all_goals
      congr 2
      apply Array.toList_inj.1
      simp
  · simp [Builtin.zeroCells, g7]

theorem SatB.congr {g' : Nat → AV} {h' : Nat → Option AObj} (s : SatB c bl g h a w) (hg : ∀ k, g' k = g k) (hh : ∀ j, h' j = h j) : SatB c bl g' h' a w :=
  s.weaken (fun k => .inr (hg k)) (fun j o ho => by rw [← hh j]; exact ho)

theorem one_of_yrel {ys : List Value} {rows : List (List AV)} (hy : YRel M w st ys rows) : ∀ v ∈ ys, oneCell v := fun v hv => by
  obtain ⟨k, hk⟩ := List.getElem?_of_mem hv
  have hlt : k < rows.length * st := by rw [← hy.2.1]; exact (List.getElem?_eq_some_iff.1 hk).1
  have hst : 0 < st := by
    rcases Nat.eq_zero_or_pos st with h0 | h0
    · subst h0; simp at hlt
    · exact h0
  have hi : k / st < rows.length := Nat.div_lt_of_lt_mul (by rw [Nat.mul_comm]; exact hlt)
  have e1 : rows[k / st]? = some rows[k / st] := List.getElem?_eq_getElem hi
  have hl := hy.1 _ _ e1
  have hj : k % st < st := Nat.mod_lt _ hst
  obtain ⟨u, hu, hr⟩ := hy.2.2 _ (k % st) _ _ e1 (List.getElem?_eq_getElem (by omega))
  have he : k / st * st + k % st = k := by
    have := Nat.div_add_mod k st
    rw [Nat.mul_comm] at this
    exact this
  rw [he, hk] at hu
  cases hu
  exact hr.one

/-- The rows of a new array that holds what was there and what is appended. -/
theorem grown_cells {olds ys rest : List Value} {rows yrows : List (List AV)} (ho : YRel M w st olds rows) (hy : YRel M w st ys yrows) :
    (∀ (i : Nat) (r : List AV), (rows ++ yrows)[i]? = some r → r.length = st) ∧
    ∀ (i j : Nat) (r : List AV) (x : AV), (rows ++ yrows)[i]? = some r → r[j]? = some x → ∃ v, (olds ++ ys ++ rest).toArray[i * st + j]? = some v ∧ IRel M w v x := by
  refine ⟨fun i r hr => ?_, fun i j r x hr hx => ?_⟩
  · rw [List.getElem?_append] at hr
    split at hr
    · exact ho.1 _ _ hr
    · exact hy.1 _ _ hr
  · rw [List.getElem?_append] at hr
    simp only [List.getElem?_toArray]
    split at hr
    · rename_i hlt
      obtain ⟨v, hv, hrel⟩ := ho.2.2 _ _ _ _ hr hx
      refine ⟨v, ?_, hrel⟩
      rw [List.append_assoc, List.getElem?_append_left (List.getElem?_eq_some_iff.1 hv).1]
      exact hv
    · rename_i hge
      obtain ⟨v, hv, hrel⟩ := hy.2.2 _ _ _ _ hr hx
      refine ⟨v, ?_, hrel⟩
      have e1 : i * st + j = olds.length + ((i - rows.length) * st + j) := by
        rw [ho.2.1, ← Nat.add_assoc, ← Nat.add_mul]
        congr 2
        omega
      rw [List.append_assoc, e1, List.getElem?_append_right (by omega), Nat.add_sub_cancel_left, List.getElem?_append_left (List.getElem?_eq_some_iff.1 hv).1]
      exact hv

theorem ok_app_nil (s : SatB c bl g h a w) {d : Nat} (ho : o.op = .call cl) (hcl : cl.callee = .builtin .append) (hat : cl.argTypes = #[t, t']) (har : cl.args = #[x, y]) (hap : appOk P t = some (e, st)) (ht' : (∃ e', P.underlying t' = some (.slice e')) ∨ P.underlying t' = some .string)
    {xv : IV} (hx : cV x = some xv) (hxv : val g xv = .nl) {yrows : List (List AV)} {ys : List Value} (hs : Src P w st (a.eval y) yrows.length ys) (hy : YRel (Mut bl c.MF h) w st ys yrows) (hbig : yrows.length < 1073741824)
    (hd : h d = none) (hu : Unnamed d g h) (hid : d < 1000 ∨ 2000 ≤ d) : OpOK P c o a w g h (.ms d st 0 yrows.length) (.new d ⟨e, st, yrows, false⟩) := by
  have h1 := cV_rel s hx
  rw [hxv] at h1
  have h2 := h1.nl
  by_cases h0 : yrows = []
  · subst h0
    have hrun := run_app_none ho hcl hat har hap ht' h2 hs
    refine ⟨_, _, _, .inl hrun, s.new0 (i := d) (o := ⟨e, st, [], false⟩) hd hu hid rfl rfl, .inl ⟨rfl, rfl, rfl⟩⟩
  · have hpos : 0 < yrows.length := List.length_pos_iff.2 h0
    obtain ⟨cs, w', cap', h3, h4, h5, h6, h7, rest, rfl, h9⟩ := run_app_grow (olds := []) (P := P) ho hcl hat har hap ht' h2 hs (by omega) (by omega) (fun w' _ => by simp [Builtin.firstCells])
    simp only [Nat.zero_add, List.nil_append] at h3 h7 h9
    have hg := grown_cells (rest := rest) (yrel_nil (M := Mut bl c.MF h) (w := w) st) hy
    simp only [List.nil_append] at hg h4
    have hsz : (ys ++ rest).toArray.size = cap' * st := by
      simp only [List.size_toArray, List.length_append, hy.2.1, h9]
      rw [← Nat.add_mul]
      congr 1
      omega
    exact ok_new_arr (rows := yrows) s hd hu hid h3 h4 h5 h6 (unfrozen0 _) hg.1 (by rw [hsz]; exact Nat.mul_le_mul_right _ h7) h7 (by rw [hsz]; exact Nat.le_refl _) hg.2

theorem ok_app_own (s : SatB c bl g h a w) (ho : o.op = .call cl) (hcl : cl.callee = .builtin .append) (hat : cl.argTypes = #[t, t']) (har : cl.args = #[x, y]) (hap : appOk P t = some (e, st)) (ht' : (∃ e', P.underlying t' = some (.slice e')) ∨ P.underlying t' = some .string)
    {xv : IV} (hx : cV x = some xv) {id len : Nat} (hxv : val g xv = .ms id st 0 len) {ob : AObj} (hob : h id = some ob) (hst : ob.st = st) (hte : ob.t = e) (hrec : ob.isRec = false) (hlen : len ≤ ob.rows.length) (hid : id < 1000 ∨ 2000 ≤ id)
    {yrows : List (List AV)} {ys : List Value} (hs : Src P w st (a.eval y) yrows.length ys) (hy : YRel (Mut bl c.MF h) w st ys yrows) (hbig : yrows.length < 1073741824) (hbig2 : len < 1073741824) :
    OpOK P c o a w g h (.ms id st 0 (len + yrows.length)) (.reb id ⟨e, st, ob.rows.take len ++ yrows, false⟩) := by
  have h1 := cV_rel s hx
  rw [hxv] at h1
  subst hst hte
  have hpur : ∀ r, purO id ⟨ob.t, ob.st, r, false⟩ = ⟨ob.t, ob.st, r, false⟩ := fun r => by simp [purO]
  -- into a new array
  have grow : ∀ {base : Option Addr} {cap : Nat} {olds : List Value}, a.eval x = .slice base len cap → cap < len + yrows.length → YRel (Mut bl c.MF h) w ob.st olds (ob.rows.take len) →
      (∀ w' : World, w'.heap = w.heap → (Builtin.firstCells ob.st len (.slice base len cap)).run P w' = .ok olds.toArray w') → OpOK P c o a w g h (.ms id ob.st 0 (len + yrows.length)) (.reb id ⟨ob.t, ob.st, ob.rows.take len ++ yrows, false⟩) := by
    intro base cap olds hv hc hold hrun
    obtain ⟨cs, w', cap', h3, h4, h5, h6, h7, rest, rfl, h9⟩ := run_app_grow (P := P) ho hcl hat har hap ht' hv hs hc (by omega) hrun
    have hk := s.kill id
    have hun := unnamed_purge id g h
    have hm : ∀ b, ¬ Mut bl c.MF h b → b < w.heap.size → ¬ Mut bl c.MF (fun j => if j = id then none else (h j).map (purO id)) b ∧ w.heap[b]? = w.heap[b]? := fun b hb _ => ⟨fun hmm => hb (by
      rcases hmm with hmm | ⟨j, oj, q1, q2⟩
      · exact .inl hmm
      · by_cases hj : j = id
        · simp [hj] at q1
        · simp only [hj, if_false, Option.map_eq_some_iff] at q1
          obtain ⟨o0, q1, _⟩ := q1
          exact .inr ⟨j, o0, q1, q2⟩), rfl⟩
    have hg := grown_cells (rest := rest) hold hy
    have hl1 : (ob.rows.take len).length = len := by simp; omega
    have hsz : (olds ++ ys ++ rest).toArray.size = cap' * ob.st := by
      simp only [List.size_toArray, List.length_append, hy.2.1, h9, hold.2.1, hl1]
      rw [← Nat.add_mul, ← Nat.add_mul]
      congr 1
      omega
    have hs2 := hk.new (i := id) (o := ⟨ob.t, ob.st, ob.rows.take len ++ yrows, false⟩) (cs := (olds ++ ys ++ rest).toArray) (fr := (0, 0)) (w' := w') (by simp) hun hid h4 h5 h6 (unfrozen0 _)
      ⟨hg.1, by rw [hsz]; simp only [List.length_append, hl1]; exact Nat.mul_le_mul_right _ h7, fun i j r x' hr hx' => by
        obtain ⟨v, q1, q2⟩ := hg.2 i j r x' hr hx'
        exact ⟨v, q1, q2.tr hm⟩⟩ (fun hf => by cases hf)
    refine ⟨_, _, _, .inl h3, hs2.congr (fun _ => rfl) (fun j => ?_), .inr (.inr ⟨w.heap.size, cap', (olds ++ ys ++ rest).toArray, ob.t, (0, 0), upd_same _ _ _, by simp, h7, by rw [h4]; simp, by rw [hsz]; simp⟩)⟩
    by_cases hj : j = id
    · subst hj; simp [Eff.hp, upd]
    · simp [Eff.hp, upd, hj]
  rcases h1 with ⟨h2, _, h4⟩ | ⟨_, h3, _⟩ | ⟨b, cap, c1, t1, fr, h2, h3, h4, h5, h6⟩
  · subst h4
    by_cases h0 : yrows = []
    · subst h0
      have hrun := run_app_none ho hcl hat har hap ht' h2 hs
      have hp := s.purge id
      refine ⟨_, _, bl, .inl hrun, ?_, .inl ⟨rfl, rfl, rfl⟩⟩
      -- the object forgets its rows
      have hm : ∀ q, Mut bl c.MF (Eff.hp h (.reb id ⟨ob.t, ob.st, ob.rows.take 0 ++ [], false⟩)) q ↔ Mut bl c.MF (fun j => (h j).map (purO id)) q := Mut.congr (fun j => by
        by_cases hj : j = id
        · subst hj; simp [Eff.hp, upd, hob]
        · simp [Eff.hp, upd, hj])
      have ht := Tr.of_iff (w := w) hm
      refine ⟨hp.defers, hp.size, fun k => (hp.env k).tr ht (fun _ _ => rfl), ⟨fun j oj hj => ?_, fun j j' oj oj' q q1 q2 => ?_⟩, hp.step, fun j oj q q1 => ?_, hp.stab, hp.mf⟩
      · by_cases hji : j = id
        · subst hji
          simp only [Eff.hp, upd, if_true, Option.some.injEq] at hj
          subst hj
          rcases s.heap.1 j ob hob with hn | ⟨b', g2, c2, fr2, g3, g4, g5, g6, g7, g8⟩
          · exact .inl ⟨by simp, rfl, hn.2.2⟩
          · exact .inr ⟨b', g2, c2, fr2, g3, g4, g5, by simp, by simp, by simp⟩
        · have hj' : (h j).map (purO id) = some oj := by simpa [Eff.hp, upd, hji] using hj
          rcases hp.heap.1 j oj hj' with hn | ⟨b', g2, c2, fr2, g3, g4, g5, g6, g7, g8⟩
          · exact .inl hn
          · exact .inr ⟨b', g2, c2, fr2, g3, g4, g5, g6, g7, fun i k r y' q1 q2 => by
              obtain ⟨v, q3, q4⟩ := g8 i k r y' q1 q2
              exact ⟨v, q3, q4.tr ht (fun _ _ _ => rfl)⟩⟩
      · have key : ∀ {j oj}, Eff.hp h (.reb id ⟨ob.t, ob.st, ob.rows.take 0 ++ [], false⟩) j = some oj → ∃ o0, (h j).map (purO id) = some o0 := fun {j oj} hj => by
          by_cases hji : j = id
          · subst hji; exact ⟨_, by rw [hob]; rfl⟩
          · exact ⟨oj, by simpa [Eff.hp, upd, hji] using hj⟩
        obtain ⟨p1, hp1⟩ := key q1
        obtain ⟨p2, hp2⟩ := key q2
        exact hp.heap.2 j j' p1 p2 q hp1 hp2
      · by_cases hji : j = id
        · subst hji; exact hp.own j (purO j ob) q (by simp [hob])
        · exact hp.own j oj q (by simpa [Eff.hp, upd, hji] using q1)
    · have hpos : 0 < yrows.length := List.length_pos_iff.2 h0
      exact grow (olds := []) h2 (by omega) (by simpa using yrel_nil _) (fun w' _ => by simp [Builtin.firstCells])
  · exact (h3 rfl).elim
  · rcases s.heap.1 id ob hob with hn0 | ⟨b', g2, c2, fr2, g3, g4, g5, g6, g7, g8⟩
    · rw [hn0.2.2] at h2; cases h2
    rw [h2] at g2
    cases g2
    rw [g3] at h5
    cases h5
    simp only [Nat.zero_mul, Nat.zero_add] at h3 h6
    have getr : ∀ (i : Nat) (r : List AV), (ob.rows.take len)[i]? = some r → ob.rows[i]? = some r ∧ i < len := fun i r hi => by
      rw [List.getElem?_take] at hi
      split at hi
      · exact ⟨hi, by assumption⟩
      · cases hi
    have hl1 : (ob.rows.take len).length = len := by simp; omega
    by_cases hcap : len + yrows.length ≤ cap
    · -- in place
      have hfit : len * ob.st + ys.length ≤ c1.size := by
        rw [hy.2.1, ← Nat.add_mul]
        have := Nat.mul_le_mul_right ob.st hcap
        omega
      have hrun := run_app_room (P := P) ho hcl hat har hap ht' h3 hs hcap g3 g4 hfit (one_of_yrel hy)
      obtain ⟨c3, q1, q2, q3, q4, q5, q6, q7⟩ := setCells_heap b ys (len * ob.st) w g3 hfit
      have hw := s.write (o' := ⟨ob.t, ob.st, ob.rows.take len ++ yrows, false⟩) hob h2 g3 q1 q2 q4 q5 q6 q7 rfl ⟨fun i r hr => by
          rw [List.getElem?_append] at hr
          split at hr
          · exact g6 _ _ (getr i r hr).1
          · exact hy.1 _ _ hr, by
          simp only [List.length_append, hl1, q2]
          have := Nat.mul_le_mul_right ob.st hcap
          omega, fun i j r x' hr hx' => by
          rw [List.getElem?_append] at hr
          split at hr
          · rename_i hlt
            rw [hl1] at hlt
            obtain ⟨hr', _⟩ := getr i r hr
            have hj : j < ob.st := by rw [← g6 i r hr']; exact (List.getElem?_eq_some_iff.1 hx').1
            obtain ⟨v, hv, hrel⟩ := g8 _ _ _ _ hr' hx'
            rw [hrec] at hrel
            refine ⟨v, ?_, hrel⟩
            have : i * ob.st + j < len * ob.st := by
              have := Nat.mul_le_mul_right ob.st (show i + 1 ≤ len by omega)
              rw [Nat.add_mul] at this
              omega
            simp only
            rw [q3, if_neg (by omega)]
            exact hv
          · rename_i hge
            rw [hl1] at hge hr
            obtain ⟨v, hv, hrel⟩ := hy.2.2 _ _ _ _ hr hx'
            refine ⟨v, ?_, hrel⟩
            have e1 : i * ob.st + j = len * ob.st + ((i - len) * ob.st + j) := by
              rw [← Nat.add_assoc, ← Nat.add_mul]; congr 2; omega
            have hlt := (List.getElem?_eq_some_iff.1 hv).1
            simp only
            rw [q3, if_pos (by omega), e1, Nat.add_sub_cancel_left]
            exact hv⟩
      refine ⟨_, _, bl, .inl hrun, (hw.purge id).congr (fun _ => rfl) (fun j => ?_), .inr (.inr ⟨b, cap, c3, ob.t, fr, h2, by simp, hcap, q1, by rw [q2]; simpa using h6⟩)⟩
      by_cases hj : j = id
      · subst hj; simp [Eff.hp, upd, hpur]
      · simp [Eff.hp, upd, hj]
    · obtain ⟨olds, hO, hrun⟩ := rows_vals (P := P) (M := Mut bl c.MF h) (w := w) (off := 0) (st := ob.st) (rows := ob.rows.take len) g3 (fun i r hi => g6 _ _ (getr i r hi).1) (fun i j r x' hi hj => by
        obtain ⟨v, hv, hrel⟩ := g8 _ _ _ _ (getr i r hi).1 hj
        rw [hrec] at hrel
        exact ⟨v, by simpa using hv, hrel⟩)
      rw [hl1] at hrun
      exact grow h3 (by omega) hO (fun w' hw' => by simp [Builtin.firstCells, hrun w' hw'])
end

/-! ### Bytes and strings -/
theorem bytesA_vals : ∀ {rows : List (List AV)} {bs : List UInt8} {ys : List Value}, bytesA rows = some bs → YRel M w 1 ys rows → ∃ ns : List Int, ys = ns.map (fun n => Value.int .u8 n) ∧ bs = ns.map (fun n => UInt8.ofNat n.toNat)
  | [], bs, ys, hb, hy => by
    simp only [bytesA, Option.some.injEq] at hb
    subst hb
    have := hy.2.1
    simp at this
    subst this
    exact ⟨[], rfl, rfl⟩
  | r :: rows, bs, ys, hb, hy => by
    have hl := hy.2.1
    simp only [List.length_cons, Nat.mul_one] at hl
    cases ys with
    | nil => simp at hl
    | cons y ys =>
      have hy' : YRel M w 1 ys rows := ⟨fun i q hq => hy.1 (i + 1) q (by simpa using hq), by simpa using hl, fun i j q z hq hz => by
        obtain ⟨v, hv, hr⟩ := hy.2.2 (i + 1) j q z (by simpa using hq) hz
        refine ⟨v, ?_, hr⟩
        rw [show (i + 1) * 1 + j = (i * 1 + j) + 1 by omega, List.getElem?_cons_succ] at hv
        exact hv⟩
      unfold bytesA at hb
      split at hb
      · rename_i heq; cases heq
      · rename_i n rest heq
        cases heq
        simp only [Option.map_eq_some_iff] at hb
        obtain ⟨bs', hb', rfl⟩ := hb
        obtain ⟨ns, rfl, rfl⟩ := bytesA_vals hb' hy'
        obtain ⟨v, hv, hr⟩ := hy.2.2 0 0 [.int .u8 n] (.int .u8 n) rfl rfl
        simp at hv
        subst hv
        cases hr
        exact ⟨n :: ns, rfl, rfl⟩
      · cases hb

theorem ok_cvs (s : SatB c bl g h a w) {sr ds e : TypeId} {x : Operand} {xv : IV} (ho : o.op = .convert sr ds x) (h1 : P.underlying sr = some (.slice e)) (h2 : P.underlying e = some (.int .u8)) (h3 : P.underlying ds = some .string) (hx : cV x = some xv)
    {rows : List (List AV)} {bs : List UInt8} (hr : rowsA 1 h (val g xv) = some rows) (hb : bytesA rows = some bs) : OpOK P c o a w g h (.str bs) .no := by
  obtain ⟨ys, hs, hy⟩ := src_rel (P := P) s hx hr
  obtain ⟨ns, rfl, rfl⟩ := bytesA_vals hb hy
  have hv : ∃ ad n cap, a.eval x = .slice ad n cap := by
    have hl := hs.len w
    cases hv : a.eval x <;> rw [hv] at hl <;> try (simp [Builtin.lenOf] at hl; done)
    · rename_i st
      exfalso
      have h4 := cV_rel s hx
      rw [hv] at h4
      cases hval : val g xv <;> rw [hval] at hr h4 <;> simp only [rowsA] at hr <;> try cases hr
      · exact absurd h4.nl (by simp)
      · have h5 := h4.sl; cases h5
      · rcases h4 with ⟨h5, _⟩ | ⟨_, _, _, _, h5⟩ | ⟨_, _, _, _, _, _, h5, _⟩ <;> cases h5
    · exact ⟨_, _, _, rfl⟩
  obtain ⟨ad, n, cap, hv⟩ := hv
  refine OpOK.pure s (r := .string ⟨(ns.map fun n => UInt8.ofNat n.toNat).toArray⟩) ?_ (rStr _)
  have hval := hs.vals w rfl
  have hlen := hs.len w
  rw [hv] at hval hlen
  simp only [Builtin.lenOf, Sem.run_pure, Result.ok.injEq, and_true] at hlen
  subst hlen
  cases ad with
  | none =>
    simp only [Builtin.firstCells, Sem.run_pure, Result.ok.injEq, and_true] at hval
    have hn : ns = [] := by
      have := congrArg Array.size hval
      simp at this
      exact List.length_eq_zero_iff.1 this.symm
    subst hn
    simp [execOp, ho, hv, run_convert_bytes_string w sr ds e none _ cap h1 h2 h3, Conv.bytesToString]
    try rfl
  | some ad =>
    simp only [Builtin.firstCells, Nat.mul_one] at hval
    simp [execOp, ho, hv, run_convert_bytes_string w sr ds e (some ad) _ cap h1 h2 h3, run_bytesToString w ad _ cap ns hval, foldl_push_bytes]
    try rfl

theorem ok_mkf (s : SatB c bl g h a w) {f : FuncId} {first caps : Array Operand} {cv : List IV} (ho : o.op = .makeFunc (.func f) first caps) (hf : first.isEmpty = true) (hc : cVs caps.toList = some cv)
    (hp : ∀ v ∈ cv, (∃ id st row off, val g v = .mp id st row off) ∨ (immA (val g v) = true ∧ val g v ≠ .any) ∨ ∃ id st off len, val g v = .ms id st off len) : OpOK P c o a w g h (.fn f (cv.map (val g))) .no := by
  have h1 := cVs_rel s hc
  have hfe : first = #[] := by simpa using hf
  refine OpOK.pure s (r := .func (.func f) #[] (caps.toList.map a.eval).toArray) (by
    have hm : caps.map a.eval = (caps.toList.map a.eval).toArray := by apply Array.toList_inj.1; simp
    simp only [execOp, ho, Instr.makeFunc, hfe, hm, Array.map_empty]
    rfl) ⟨caps.toList.map a.eval, rfl, ?_⟩
  refine h1.mono fun u x hm hr => ?_
  obtain ⟨v, hv, rfl⟩ := List.mem_map.1 hm
  rcases hp v hv with ⟨id, st, row, off, e1⟩ | ⟨e1, e2⟩ | ⟨id, st, off, len, e1⟩
  · rw [e1] at hr ⊢; exact hr
  · generalize val g v = y at *
    cases y <;> first | (simp [immA] at e1; done) | exact hr | exact (e2 rfl).elim
  · rw [e1] at hr ⊢; exact hr
end
end Go.Mw
