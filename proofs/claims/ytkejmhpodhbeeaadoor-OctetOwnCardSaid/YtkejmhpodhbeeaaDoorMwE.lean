/-
  Each operation, second part: reading memory, addresses, slices, structs.
-/
import Derived.Test.YtkejmhpodhbeeaaDoorMwD
namespace Go.Mw

theorem addr_add (b off n : Nat) : (⟨b, off, none⟩ : Addr).add n = ⟨b, off + n, none⟩ := by unfold Addr.add; split <;> simp_all

theorem cell_of {w : World} {b : Nat} {c : Array Value} {t : TypeId} {fr : Nat × Nat} (hb : w.heap[b]? = some (.cells c t fr)) (off : Nat) : w.cell? ⟨b, off, none⟩ = c[off]? := by
  simp [World.cell?, hb]

/-- From the cell 'off' of block 'b' on lie 'cells'. -/
def CellsAt (bl : Nat → Option Nat) (M : Nat → Prop) (w : World) (b off : Nat) (cells : List AV) : Prop :=
  ∃ c t fr, w.heap[b]? = some (.cells c t fr) ∧ ∀ (j : Nat) (x : AV), cells[j]? = some x → ∃ v, c[off + j]? = some v ∧ CRel bl M w v x

section
variable {P : Program} {c : Ctx} {bl : Nat → Option Nat} {g : Nat → AV} {h : Nat → Option AObj} {a : Act} {w : World} {o : Oper} {M : Nat → Prop}

theorem CellsAt.drop {b off : Nat} {cells : List AV} (hc : CellsAt bl M w b off cells) (n : Nat) : CellsAt bl M w b (off + n) (cells.drop n) := by
  obtain ⟨c1, t, fr, h1, h2⟩ := hc
  refine ⟨c1, t, fr, h1, fun j x hx => ?_⟩
  rw [List.getElem?_drop] at hx
  obtain ⟨v, h3, h4⟩ := h2 _ _ hx
  exact ⟨v, by rw [← h3]; congr 1; omega, h4⟩

/-- The values of some cells in a row. -/
theorem CellsAt.vals {b off : Nat} {cells : List AV} (hc : CellsAt bl M w b off cells) : ∃ vs : List Value, All2 (CRel bl M w) vs cells ∧ ∀ (j : Nat) (v : Value), vs[j]? = some v → w.cell? ⟨b, off + j, none⟩ = some v := by
  obtain ⟨c1, t, fr, h1, h2⟩ := hc
  have key : ∀ (cells : List AV) (off : Nat), (∀ (j : Nat) (x : AV), cells[j]? = some x → ∃ v, c1[off + j]? = some v ∧ CRel bl M w v x) →
      ∃ vs : List Value, All2 (CRel bl M w) vs cells ∧ ∀ (j : Nat) (v : Value), vs[j]? = some v → c1[off + j]? = some v := by
    intro cells
    induction cells with
    | nil => intro off _; exact ⟨[], trivial, fun j v hv => by simp at hv⟩
    | cons x r ih =>
      intro off hx
      obtain ⟨v, hv1, hv2⟩ := hx 0 x (by simp)
      obtain ⟨vs, h3, h4⟩ := ih (off + 1) (fun j y hy => by
        obtain ⟨u, hu1, hu2⟩ := hx (j + 1) y (by simpa using hy)
        exact ⟨u, by rw [← hu1]; congr 1; omega, hu2⟩)
      refine ⟨v :: vs, ⟨hv2, h3⟩, fun j u hu => ?_⟩
      cases j with
      | zero => simp at hu; subst hu; simpa using hv1
      | succ j =>
        simp at hu
        rw [← h4 j u hu]
        congr 1
        omega
  obtain ⟨vs, h3, h4⟩ := key cells off h2
  exact ⟨vs, h3, fun j v hv => by rw [cell_of h1]; exact h4 j v hv⟩

theorem CellsAt.of_ip {v : Value} {cells : List AV} (hv : VRel bl M w v (.ip cells)) : ∃ b off, v = .pointer (some ⟨b, off, none⟩) ∧ CellsAt bl M w b off cells := by
  have h1 := hv.ip
  cases h1 with
  | ip b off c1 t fr cells vs hb hM hv hx =>
    refine ⟨b, off, rfl, c1, t, fr, hb, fun j x hj => ⟨vs j, hv j (List.getElem?_eq_some_iff.1 hj).1, IRel.toC (hx j x hj)⟩⟩

theorem CellsAt.of_obj (s : SatB c bl g h a w) {id b : Nat} {ob : AObj} {row : Nat} {r : List AV} (hi : h id = some ob) (hb : bl id = some b) (hr : ob.rows[row]? = some r) : CellsAt bl (Mut bl c.MF h) w b (row * ob.st) r := by
  rcases s.heap.1 id ob hi with hn | ⟨b', h1, c1, fr, h2, h3, h4, h5, h6, h7⟩
  · rw [hn.2.2] at hb; cases hb
  · rw [hb] at h1
    cases h1
    refine ⟨c1, ob.t, fr, h2, fun j x hx => ?_⟩
    obtain ⟨v, hv1, hv2⟩ := h7 row j r x hr hx
    refine ⟨v, hv1, ?_⟩
    cases hrec : ob.isRec <;> simp only [hrec, ORel] at hv2
    · exact IRel.toC hv2
    · exact hv2

theorem tAgg_run {t : TypeId} {n : Option Nat} (ht : tAgg P t = some n) : (isAgg t).run P w = .ok n.isSome w ∧ ∀ m, n = some m → (sizeOf t).run P w = .ok m w := by
  unfold tAgg at ht
  split at ht <;> (try cases ht)
  · rename_i fs i h1 h2
    exact ⟨by simp [isAgg, underlying, h1], fun m hm => by cases hm; simp [sizeOf, typeInfo, h2]⟩
  · rename_i k e i h1 h2
    exact ⟨by simp [isAgg, underlying, h1], fun m hm => by cases hm; simp [sizeOf, typeInfo, h2]⟩
  · rename_i d i h1 h2 n1 n2
    refine ⟨?_, fun m hm => by cases hm⟩
    simp only [isAgg, underlying]
    simp only [Sem.run_bind, run_program, Result.andThen_ok, n2]
    cases d <;> simp_all

theorem run_loadVar_cells {t : TypeId} {n : Option Nat} (ht : tAgg P t = some n) {b off : Nat} {cells : List AV} (hc : CellsAt bl M w b off cells) {x : AV} (hx : ldc n cells = some x) :
    ∃ r, (loadVar t ⟨b, off, none⟩).run P w = .ok r w ∧ GRel bl M w r x := by
  obtain ⟨h1, h2⟩ := tAgg_run (w := w) ht
  cases n with
  | none =>
    simp only [ldc] at hx
    obtain ⟨c1, t1, fr, h3, h4⟩ := hc
    obtain ⟨v, hv1, hv2⟩ := h4 0 x hx
    refine ⟨v, ?_, hv2.toG⟩
    simp only [loadVar, Sem.run_bind, h1, Result.andThen_ok]
    simp [cell_of h3, show c1[off]? = some v by simpa using hv1]
  | some m =>
    simp only [ldc] at hx
    split at hx
    case isFalse => cases hx
    rename_i hm
    cases hx
    obtain ⟨vs, h3, h4⟩ := hc.vals
    have hl : vs.length = cells.length := h3.length
    refine ⟨.agg (vs.take m).toArray, ?_, vs.take m, rfl, h3.take m⟩
    have hld := run_loadCells_list (P := P) (w := w) ⟨b, off, none⟩ (vs.take m) (fun j v hv => by
      rw [addr_add]
      exact h4 j v (by rw [List.getElem?_take] at hv; split at hv <;> first | exact hv | cases hv))
    rw [List.length_take, hl, Nat.min_eq_left hm] at hld
    simp only [loadVar, Sem.run_bind, h1, Result.andThen_ok, h2 m rfl]
    simp [h2 m rfl, hld]

theorem ok_load (s : SatB c bl g h a w) {t : TypeId} {n : Option Nat} {p : Operand} {pv : IV} (ho : o.op = .load t p) (ht : tAgg P t = some n) (hp : cV p = some pv)
    {x : AV} (he : aLoad n (val g pv) h = some x) : OpOK P c o a w g h x .no := by
  have h1 := cV_rel s hp
  have fin : ∀ {b off : Nat} {cells : List AV}, a.eval p = .pointer (some ⟨b, off, none⟩) → CellsAt bl (Mut bl c.MF h) w b off cells → ldc n cells = some x → OpOK P c o a w g h x .no := fun hv hc hx => by
    obtain ⟨r, h2, h3⟩ := run_loadVar_cells ht hc hx
    exact OpOK.pure s (r := r) (by simp [execOp, ho, hv, Instr.loadAt, Instr.sureAddr, h2]) h3.toV
  cases hval : val g pv <;> rw [hval] at he h1 <;> simp only [aLoad] at he <;> try cases he
  case ip cells =>
    obtain ⟨b, off, h2, h3⟩ := CellsAt.of_ip h1
    exact fin h2 h3 he
  case mp id st row off =>
    split at he
    case h_2 => cases he
    rename_i ob hob
    split at he
    case isFalse => cases he
    rename_i hst
    split at he
    case h_2 => cases he
    rename_i r hr
    obtain ⟨b, hb, h2⟩ := h1.mp
    rw [← hst] at h2
    exact fin h2 ((CellsAt.of_obj s hob hb hr).drop off) he

theorem ok_fadr (s : SatB c bl g h a w) {t : TypeId} {f k n : Nat} {fs : Array Field} {fd : Field} {p : Operand} {pv : IV} (ho : o.op = .fieldAddr t p f) (ht : P.underlying t = some (.struct fs)) (hf : fs[f]? = some fd)
    (hn : tSize P fd.type = some (n + 1)) (hk : fd.offset = k) (hp : cV p = some pv) {x : AV} (he : aFadr k (val g pv) = some x) : OpOK P c o a w g h x .no := by
  have h1 := cV_rel s hp
  have hrun : ∀ {b off : Nat}, a.eval p = .pointer (some ⟨b, off, none⟩) → (execOp a.eval o).run P w = .ok (.value (.pointer (some ⟨b, off + k, none⟩))) w := fun {b off} hv => by
    unfold tSize at hn
    simp only [Option.map_eq_some_iff] at hn
    obtain ⟨i, hi1, hi2⟩ := hn
    simp [execOp, ho, hv, Instr.fieldAt, underlying, ht, hf, Instr.sureAddr, fieldPlace, sizeOf, typeInfo, hi1, hi2, addr_add, hk]
  cases hval : val g pv <;> rw [hval] at he h1 <;> simp only [aFadr, Option.some.injEq] at he <;> try cases he
  case ip cells =>
    generalize hu : a.eval p = u at h1
    have h2 := h1.ip
    cases h2 with
    | ip b off c1 t fr cells vs hb hM hv hx =>
      refine OpOK.pure s (hrun hu) ?_
      refine IRel.ip b (off + k) c1 t fr (cells.drop k) (fun j => vs (k + j)) hb hM (fun j hj => ?_) (fun j x hx' => ?_)
      · rw [← hv (k + j) (by simp at hj; omega)]; congr 1; omega
      · rw [List.getElem?_drop] at hx'; exact hx _ _ hx'
  case mp id st row off =>
    obtain ⟨b, hb, h2⟩ := h1.mp
    exact OpOK.pure s (hrun h2) ⟨b, hb, by congr 3; omega⟩

theorem run_part_cells {t : TypeId} {n : Option Nat} (ht : tAgg P t = some n) {cs : List Value} {cells : List AV} (hc : All2 (CRel bl M w) cs cells) {off : Nat} {x : AV} (hx : ldc n (cells.drop off) = some x) :
    ∃ r, (part t cs.toArray off).run P w = .ok r w ∧ GRel bl M w r x := by
  obtain ⟨h1, h2⟩ := tAgg_run (w := w) ht
  cases n with
  | none =>
    simp only [ldc, List.getElem?_drop, Nat.add_zero] at hx
    obtain ⟨v, hv1, hv2⟩ := hc.get hx
    refine ⟨v, ?_, hv2.toG⟩
    simp only [part, Sem.run_bind, h1, Result.andThen_ok]
    simp [hv1]
  | some m =>
    simp only [ldc] at hx
    split at hx
    case isFalse => cases hx
    rename_i hm
    cases hx
    refine ⟨.agg ((cs.drop off).take m).toArray, ?_, (cs.drop off).take m, rfl, (hc.drop off).take m⟩
    simp only [part, Sem.run_bind, h1, Result.andThen_ok]
    simp only [Option.isSome_some, if_true, Sem.run_bind, h2 m rfl, Result.andThen_ok, Sem.run_pure]
    congr 2
    simp [List.extract_toArray, List.extract_eq_take_drop]

theorem ok_fld (s : SatB c bl g h a w) {t : TypeId} {f k : Nat} {n : Option Nat} {fs : Array Field} {fd : Field} {p : Operand} {pv : IV} (ho : o.op = .field t p f) (ht : P.underlying t = some (.struct fs)) (hf : fs[f]? = some fd)
    (hn : tAgg P fd.type = some n) (hk : fd.offset = k) (hp : cV p = some pv) {x : AV} (he : aFld k n (val g pv) = some x) : OpOK P c o a w g h x .no := by
  have h1 := cV_rel s hp
  cases hval : val g pv <;> rw [hval] at he h1 <;> simp only [aFld] at he <;> try cases he
  case agg cells =>
    obtain ⟨cs, h2, h3⟩ := h1
    obtain ⟨r, h4, h5⟩ := run_part_cells hn h3 he
    exact OpOK.pure s (r := r) (by simp [execOp, ho, h2, Instr.field, underlying, ht, hf, asAgg, hk, h4]) h5.toV

theorem ok_iadr (s : SatB c bl g h a w) {t e : TypeId} {n : Nat} {x i : Operand} {xv iv : IV} (ho : o.op = .indexAddr t x i) (ht : P.underlying t = some (.slice e)) (hn : tSize P e = some n) (hx : cV x = some xv) (hi : cV i = some iv)
    {v : AV} (he : aIadr n (val g xv) (val g iv) = some v) : OpOK P c o a w g h v .no := by
  have h1 := cV_rel s hx
  have h2 := cV_rel s hi
  have hsz : (sizeOf e).run P w = .ok n w := by
    unfold tSize at hn
    simp only [Option.map_eq_some_iff] at hn
    obtain ⟨inf, hi1, hi2⟩ := hn
    simp [sizeOf, typeInfo, hi1, hi2]
  have hrun : ∀ {b off len cap : Nat} {k : IntKind} {j : Int}, a.eval x = .slice (some ⟨b, off, none⟩) len cap → a.eval i = .int k j → 0 ≤ j → j < len →
      (execOp a.eval o).run P w = .ok (.value (.pointer (some ⟨b, off + j.toNat * n, none⟩))) w := fun hv hj h0 hl => by
    simp [execOp, ho, hv, hj, Instr.indexAt, asIntOf, underlying, ht, h0, hl, hsz, addr_add]
  unfold aIadr at he
  split at he
  · rename_i st' rows k j e1 e2
    rw [e1] at h1; rw [e2] at h2
    split at he
    case isFalse => cases he
    rename_i hcond
    obtain ⟨rfl, h0⟩ := hcond
    split at he
    case h_2 => cases he
    rename_i r hr
    cases he
    generalize hu : a.eval x = u at h1
    have h3 := h1.sl
    have hlt := (List.getElem?_eq_some_iff.1 hr).1
    cases h3 with
    | nls => simp at hlt
    | sl0 st ad cap => simp at hlt
    | sl b off cap st c1 t1 fr rows vs hb hM hl hrl hv hx' =>
      refine OpOK.pure s (hrun hu h2.int h0 (by omega)) ?_
      have hrl' := hrl _ _ hr
      exact IRel.ip b (off + j.toNat * st') c1 t1 fr r (fun q => vs j.toNat q) hb hM (fun q hq => hv _ _ hlt (by omega)) (fun q y hy => hx' _ _ _ _ hr hy)
  · rename_i id st' off len k j e1 e2
    rw [e1] at h1; rw [e2] at h2
    split at he
    case isFalse => cases he
    rename_i hcond
    obtain ⟨rfl, h0, hl⟩ := hcond
    cases he
    rcases h1 with ⟨_, _, h4⟩ | ⟨h4, _⟩ | ⟨b, cap, c1, t1, fr, h3, h4, h5⟩
    · omega
    · omega
    · refine OpOK.pure s (hrun h4 h2.int h0 hl) ⟨b, h3, ?_⟩
      rw [Nat.add_mul, Nat.add_zero]
  · cases he

theorem ok_aadr (s : SatB c bl g h a w) {t e : TypeId} {n len : Nat} {x i : Operand} {xv iv : IV} (ho : o.op = .indexAddr t x i) (ht : P.underlying t = some (.array len e)) (hn : tSize P e = some n) (hx : cV x = some xv) (hi : cV i = some iv)
    {v : AV} (he : aAadr n len (val g xv) (val g iv) = some v) : OpOK P c o a w g h v .no := by
  have h1 := cV_rel s hx
  have h2 := cV_rel s hi
  have hsz : (sizeOf e).run P w = .ok n w := by
    unfold tSize at hn
    simp only [Option.map_eq_some_iff] at hn
    obtain ⟨inf, hi1, hi2⟩ := hn
    simp [sizeOf, typeInfo, hi1, hi2]
  have hrun : ∀ {b off : Nat} {k : IntKind} {j : Int}, a.eval x = .pointer (some ⟨b, off, none⟩) → a.eval i = .int k j → 0 ≤ j → j < len →
      (execOp a.eval o).run P w = .ok (.value (.pointer (some ⟨b, off + j.toNat * n, none⟩))) w := fun hv hj h0 hl => by
    simp [execOp, ho, hv, hj, Instr.indexAt, asIntOf, underlying, ht, h0, hl, hsz, addr_add, Instr.sureAddr]
  unfold aAadr at he
  split at he
  · rename_i cells k j e1 e2
    rw [e1] at h1; rw [e2] at h2
    split at he
    case isFalse => cases he
    rename_i hcond
    cases he
    generalize hu : a.eval x = u at h1
    have h3 := h1.ip
    cases h3 with
    | ip b off c1 t1 fr cells vs hb hM hv hx' =>
      refine OpOK.pure s (hrun hu h2.int hcond.1 hcond.2) ?_
      refine IRel.ip b (off + j.toNat * n) c1 t1 fr (cells.drop (j.toNat * n)) (fun q => vs (j.toNat * n + q)) hb hM (fun q hq => ?_) (fun q y hy => ?_)
      · rw [← hv (j.toNat * n + q) (by simp at hq; omega)]; congr 1; omega
      · rw [List.getElem?_drop] at hy; exact hx' _ _ hy
  · rename_i id st' row off k j e1 e2
    rw [e1] at h1; rw [e2] at h2
    split at he
    case isFalse => cases he
    rename_i hcond
    cases he
    obtain ⟨b, hb, h3⟩ := h1.mp
    exact OpOK.pure s (hrun h3 h2.int hcond.1 hcond.2) ⟨b, hb, by congr 3; omega⟩
  · cases he

theorem ok_mnx (s : SatB c bl g h a w) {cl : Call} {m : Bool} {x y : Operand} {xv yv : IV} (ho : o.op = .call cl) (hcl : cl.callee = .builtin (if m then .max else .min)) (har : cl.args = #[x, y]) (hx : cV x = some xv) (hy : cV y = some yv)
    {v : AV} (he : aMnx m (val g xv) (val g yv) = some v) : OpOK P c o a w g h v .no := by
  have h1 := cV_rel s hx
  have h2 := cV_rel s hy
  unfold aMnx at he
  split at he
  case h_2 => cases he
  rename_i k n k' q e1 e2
  split at he
  case isFalse => cases he
  rename_i hk
  subst hk
  cases he
  rw [e1] at h1; rw [e2] at h2
  have e3 := h1.int
  have e4 := h2.int
  cases m
  · refine OpOK.pure s (r := .int k (if q < n then q else n)) ?_ (rInt _ _)
    simp [execOp, ho, resolve, hcl, har, invoke, builtin, Builtin.min_, Builtin.min2, e3, e4]
  · refine OpOK.pure s (r := .int k (if n < q then q else n)) ?_ (rInt _ _)
    simp [execOp, ho, resolve, hcl, har, invoke, builtin, Builtin.max_, Builtin.max2, e3, e4]

/-- What a bound of a slice expression is. -/
theorem aBound_run (s : SatB c bl g h a w) {d n : Nat} {x : Option Operand} {xv : Option IV} (hx : cOpt x = some xv) (he : aBound d (xv.map (val g)) = some n) :
    (x = none ∧ n = d) ∨ ∃ y k, x = some y ∧ a.eval y = .int k n := by
  cases x with
  | none => simp only [cOpt, Option.some.injEq] at hx; subst hx; simp only [Option.map_none, aBound, Option.some.injEq] at he; exact .inl ⟨rfl, he.symm⟩
  | some y =>
    simp only [cOpt, Option.map_eq_some_iff] at hx
    obtain ⟨yv, hy, rfl⟩ := hx
    have h1 := cV_rel s hy
    simp only [Option.map_some] at he
    cases hval : val g yv <;> rw [hval] at he h1 <;> simp only [aBound] at he <;> try cases he
    case int k m =>
      split at he
      case isFalse => cases he
      rename_i h0
      cases he
      refine .inr ⟨y, k, rfl, ?_⟩
      rw [h1.int]
      congr 1
      omega

theorem run_bound {k : IntKind} {n y : Nat} {code : BoundsCode} (h : n ≤ y) : (Instr.sliceBound (.int k n) y code).run P w = .ok n w := by
  have h2 : (n : Int) ≤ y := by omega
  simp [Instr.sliceBound, asIntOf, h2]

theorem run_bounds (s : SatB c bl g h a w) {isS : Bool} {len cap l hh m : Nat} {lo hi mx : Option Operand} {lov hiv mxv : Option IV} (hlo : cOpt lo = some lov) (hhi : cOpt hi = some hiv) (hmx : cOpt mx = some mxv)
    (h1 : aBound 0 (lov.map (val g)) = some l) (h2 : aBound len (hiv.map (val g)) = some hh) (h3 : aBound len (mxv.map (val g)) = some m) (hl : l ≤ hh) (hm : hh ≤ m) (hc : m ≤ len) (hcap : len ≤ cap) (hb : mx.isSome = true → hi.isSome = true) :
    ∃ m', (Instr.sliceBounds isS len cap (lo.map a.eval) (hi.map a.eval) (mx.map a.eval)).run P w = .ok (l, hh, m') w ∧ hh ≤ m' ∧ m' ≤ cap := by
  have a1 := aBound_run s hlo h1
  have a2 := aBound_run s hhi h2
  have a3 := aBound_run s hmx h3
  rcases a3 with ⟨rfl, rfl⟩ | ⟨y3, k3, rfl, e3⟩
  · refine ⟨cap, ?_, by omega, Nat.le_refl _⟩
    rcases a2 with ⟨rfl, rfl⟩ | ⟨y2, k2, rfl, e2⟩
    · rcases a1 with ⟨rfl, rfl⟩ | ⟨y1, k1, rfl, e1⟩
      · simp [Instr.sliceBounds]
      · simp [Instr.sliceBounds, e1, run_bound (P := P) (w := w) hl]
    · rcases a1 with ⟨rfl, rfl⟩ | ⟨y1, k1, rfl, e1⟩
      · simp [Instr.sliceBounds, e2, run_bound (P := P) (w := w) (show hh ≤ cap by omega)]
      · simp [Instr.sliceBounds, e2, e1, run_bound (P := P) (w := w) (show hh ≤ cap by omega), run_bound (P := P) (w := w) hl]
  · refine ⟨m, ?_, hm, by omega⟩
    rcases a2 with ⟨rfl, rfl⟩ | ⟨y2, k2, rfl, e2⟩
    · simp at hb
    · rcases a1 with ⟨rfl, rfl⟩ | ⟨y1, k1, rfl, e1⟩
      · simp [Instr.sliceBounds, e3, e2, run_bound (P := P) (w := w) (show m ≤ cap by omega), run_bound (P := P) (w := w) hm]
      · simp [Instr.sliceBounds, e3, e2, e1, run_bound (P := P) (w := w) (show m ≤ cap by omega), run_bound (P := P) (w := w) hm, run_bound (P := P) (w := w) hl]
end
end Go.Mw
