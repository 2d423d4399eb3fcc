/-
  Each operation, third part: slices of slices, structs built, closures.
-/
import Derived.Test.YtkejmhpodhbeeaaDoorMwE
namespace Go.Mw

section
variable {P : Program} {c : Ctx} {bl : Nat → Option Nat} {g : Nat → AV} {h : Nat → Option AObj} {a : Act} {w : World} {o : Oper} {M : Nat → Prop}

theorem size_run {e : TypeId} {n : Nat} (hn : tSize P e = some n) : (sizeOf e).run P w = .ok n w := by
  unfold tSize at hn
  simp only [Option.map_eq_some_iff] at hn
  obtain ⟨inf, hi1, hi2⟩ := hn
  simp [sizeOf, typeInfo, hi1, hi2]

theorem run_slice_slice {t e : TypeId} {n : Nat} {x : Operand} {lo hi mx : Option Operand} (ho : o.op = .slice t x lo hi mx) (ht : P.underlying t = some (.slice e)) (hn : tSize P e = some n) {ad : Option Addr} {len cap l hh m : Nat}
    (hx : a.eval x = .slice ad len cap) (hb : (Instr.sliceBounds true len cap (lo.map a.eval) (hi.map a.eval) (mx.map a.eval)).run P w = .ok (l, hh, m) w) :
    (execOp a.eval o).run P w = .ok (.value (.slice (if m = l then ad else ad.map (·.add (l * n))) (hh - l) (m - l))) w := by
  simp only [execOp, ho, Instr.sliceAt, Sem.run_bind, hx]
  simp [underlying, ht, Instr.slice, hb, size_run (w := w) hn]

theorem ok_slc (s : SatB c bl g h a w) {t e : TypeId} {n : Nat} {x : Operand} {lo hi mx : Option Operand} {xv : IV} {lov hiv mxv : Option IV} (ho : o.op = .slice t x lo hi mx) (ht : P.underlying t = some (.slice e)) (hn : tSize P e = some n)
    (hx : cV x = some xv) (hlo : cOpt lo = some lov) (hhi : cOpt hi = some hiv) (hmx : cOpt mx = some mxv) (hb : mx.isSome = true → hi.isSome = true)
    {v : AV} (he : aSlc n (val g xv) (lov.map (val g)) (hiv.map (val g)) (mxv.map (val g)) = some v) : OpOK P c o a w g h v .no := by
  have h1 := cV_rel s hx
  cases hval : val g xv <;> rw [hval] at he h1 <;> simp only [aSlc] at he <;> try cases he
  case nl =>
    split at he
    case h_2 => cases he
    rename_i l hh m e1 e2 e3
    split at he
    case isFalse => cases he
    rename_i hcond
    obtain ⟨rfl, rfl, rfl⟩ := hcond
    cases he
    obtain ⟨m', hr, hm1, hm2⟩ := run_bounds (P := P) (isS := true) s hlo hhi hmx e1 e2 e3 (Nat.le_refl _) (Nat.le_refl _) (Nat.le_refl _) (Nat.le_refl 0) hb
    have hm0 : m' = 0 := by omega
    subst hm0
    exact OpOK.pure s (run_slice_slice ho ht hn h1.nl hr) (by simp; exact IRel.nl)
  case sl st rows =>
    split at he
    case h_2 => cases he
    rename_i l hh m e1 e2 e3
    split at he
    case isFalse => cases he
    rename_i hcond
    obtain ⟨rfl, hl1, hl2, hl3⟩ := hcond
    cases he
    generalize hu : a.eval x = u at h1
    have h3 := h1.sl
    cases h3 with
    | nls =>
      obtain ⟨m', hr, hm1, hm2⟩ := run_bounds (P := P) (isS := true) s hlo hhi hmx e1 e2 e3 hl1 hl2 hl3 (Nat.le_refl _) hb
      have hm0 : m' = 0 := by simpa using hm2
      subst hm0
      have hl0 : l = 0 := by omega
      have hh0 : hh = 0 := by omega
      subst hl0 hh0
      exact OpOK.pure s (run_slice_slice ho ht hn hu hr) (by simp; exact IRel.nls _)
    | sl0 st ad cap =>
      obtain ⟨m', hr, hm1, hm2⟩ := run_bounds (P := P) (isS := true) (cap := cap) s hlo hhi hmx e1 e2 e3 hl1 hl2 hl3 (Nat.zero_le _) hb
      have hl0 : l = 0 := by simp at hl3; omega
      have hh0 : hh = 0 := by simp at hl3; omega
      subst hl0 hh0
      refine OpOK.pure s (run_slice_slice ho ht hn hu hr) ?_
      have : (List.drop 0 ([] : List (List AV))).take (0 - 0) = [] := by simp
      rw [this]
      split
      · exact IRel.sl0 _ _ _
      · exact IRel.sl0 _ _ _
    | sl b off cap st c1 t1 fr rows vs hb' hM hl hrl hv hx' =>
      obtain ⟨m', hr, hm1, hm2⟩ := run_bounds (P := P) (isS := true) (cap := cap) s hlo hhi hmx e1 e2 e3 hl1 hl2 hl3 hl hb
      refine OpOK.pure s (run_slice_slice ho ht hn hu hr) ?_
      by_cases h0 : hh = l
      · subst h0
        have hnil : (List.drop hh rows).take (hh - hh) = [] := by simp
        rw [hnil, Nat.sub_self]
        split
        · exact IRel.sl0 _ _ _
        · exact IRel.sl0 _ _ _
      · have hne : m' ≠ l := by omega
        rw [if_neg hne]
        simp only [Option.map_some, addr_add]
        have hlen : ((rows.drop l).take (hh - l)).length = hh - l := by simp; omega
        have getr : ∀ (i : Nat) (r : List AV), ((rows.drop l).take (hh - l))[i]? = some r → rows[l + i]? = some r := fun i r hi => by
          rw [List.getElem?_take] at hi
          split at hi
          · simpa using hi
          · cases hi
        have key := IRel.sl (M := Mut bl c.MF h) (w := w) b (off + l * st) (m' - l) st c1 t1 fr ((rows.drop l).take (hh - l)) (fun i j => vs (l + i) j) hb' hM (by omega) (fun i r hi => hrl _ _ (getr i r hi))
          (fun i j hi hj => by
            rw [← hv (l + i) j (by omega) hj]
            congr 1
            rw [Nat.add_mul]
            omega)
          (fun i j r y hi hy => hx' _ _ _ _ (getr i r hi) hy)
        rw [hlen] at key
        exact key
  case ms id st off len =>
    split at he
    case h_2 => cases he
    rename_i l hh m e1 e2 e3
    split at he
    case isFalse => cases he
    rename_i hcond
    obtain ⟨rfl, hl1, hl2, hl3, hmn⟩ := hcond
    cases he
    have hmxn : mx = none := by
      cases mx with
      | none => rfl
      | some y =>
        simp only [cOpt, Option.map_eq_some_iff] at hmx
        obtain ⟨yv, _, rfl⟩ := hmx
        simp at hmn
    rcases h1 with ⟨h2, h3, h4⟩ | ⟨h2, h3, ad, cap, h4⟩ | ⟨b, cap, c1, t1, fr, h2, h3, h4, h5, h6⟩
    · subst h3 h4
      obtain ⟨m', hr, hm1, hm2⟩ := run_bounds (P := P) (isS := true) s hlo hhi hmx e1 e2 e3 hl1 hl2 hl3 (Nat.le_refl _) hb
      have hm0 : m' = 0 := by omega
      subst hm0
      have hl0 : l = 0 := by omega
      have hh0 : hh = 0 := by omega
      subst hl0 hh0
      exact OpOK.pure s (run_slice_slice ho ht hn h2 hr) (.inl ⟨by simp, by simp, by simp⟩)
    · subst h2
      obtain ⟨m', hr, hm1, hm2⟩ := run_bounds (P := P) (isS := true) (cap := cap) s hlo hhi hmx e1 e2 e3 hl1 hl2 hl3 (Nat.zero_le _) hb
      have hl0 : l = 0 := by omega
      have hh0 : hh = 0 := by omega
      subst hl0 hh0
      refine OpOK.pure s (run_slice_slice ho ht hn h4 hr) (.inr (.inl ⟨by simp, by simpa using h3, ?_⟩))
      split
      · exact ⟨_, _, rfl⟩
      · exact ⟨_, _, rfl⟩
    · obtain ⟨m', hr, hm1, hm2⟩ := run_bounds (P := P) (isS := true) (cap := cap) s hlo hhi hmx e1 e2 e3 hl1 hl2 hl3 h4 hb
      refine OpOK.pure s (run_slice_slice ho ht hn h3 hr) ?_
      by_cases h0 : hh = l ∧ off + l ≠ 0
      · obtain ⟨rfl, h0⟩ := h0
        refine .inr (.inl ⟨by simp, h0, ?_⟩)
        rw [Nat.sub_self]
        split
        · exact ⟨_, _, rfl⟩
        · exact ⟨_, _, rfl⟩
      · have hcap : (off + l) * st + (m' - l) * st ≤ c1.size := by
          have e1 : (off + l) * st + (m' - l) * st = off * st + m' * st := by
            rw [← Nat.add_mul, ← Nat.add_mul]; congr 1; omega
          have e2 : m' * st ≤ cap * st := Nat.mul_le_mul_right st hm2
          omega
        refine .inr (.inr ⟨b, m' - l, c1, t1, fr, h2, ?_, by omega, h5, hcap⟩)
        have e3 : (if m' = l then some (⟨b, off * st, none⟩ : Addr) else (some (⟨b, off * st, none⟩ : Addr)).map (·.add (l * st))) = some ⟨b, (off + l) * st, none⟩ := by
          split
          · have : l = 0 := by omega
            subst this
            simp
          · simp only [Option.map_some, addr_add, Nat.add_mul]
        rw [e3]

theorem ok_sslc (s : SatB c bl g h a w) {t : TypeId} {x : Operand} {lo hi : Option Operand} {xv : IV} {lov hiv : Option IV} (ho : o.op = .slice t x lo hi none) (ht : P.underlying t = some .string)
    (hx : cV x = some xv) (hlo : cOpt lo = some lov) (hhi : cOpt hi = some hiv) {v : AV} (he : aSslc (val g xv) (lov.map (val g)) (hiv.map (val g)) = some v) : OpOK P c o a w g h v .no := by
  have h1 := cV_rel s hx
  cases hval : val g xv <;> rw [hval] at he h1 <;> simp only [aSslc] at he <;> try cases he
  case str st =>
    split at he
    case h_2 => cases he
    rename_i l hh e1 e2
    split at he
    case isFalse => cases he
    rename_i hcond
    cases he
    have hsz : (ByteArray.mk st.toArray).size = st.length := by simp [ByteArray.size]
    obtain ⟨m', hr, hm1, hm2⟩ := run_bounds (P := P) (isS := false) (cap := st.length) (mx := none) (mxv := none) s hlo hhi rfl e1 e2 rfl hcond.1 hcond.2 (Nat.le_refl _) (Nat.le_refl _) (by simp)
    refine OpOK.pure s (r := .string ⟨((st.drop l).take (hh - l)).toArray⟩) ?_ (rStr _)
    have hex : (ByteArray.mk st.toArray).extract l hh = ByteArray.mk ((st.drop l).take (hh - l)).toArray := by
      apply ByteArray.ext
      simp [ByteArray.data_extract, List.extract_toArray, List.extract_eq_take_drop]
    simp only [Option.map_none] at hr
    simp [execOp, ho, Instr.sliceAt, underlying, ht, Instr.slice, h1.str, hsz, hr, hex]

/-! ### Structs -/
theorem cells_rel {bl : Nat → Option Nat} {v : Value} {x : AV} {cs : List AV} (hv : VRel bl M w v x) (hc : cellsA x = some cs) : All2 (CRel bl M w) v.cells.toList cs := by
  have key : ∀ y, CRel bl M w v y → All2 (CRel bl M w) v.cells.toList [y] := fun y h1 => by
    have h2 := CRel.one h1
    have h3 : v.cells = #[v] := by cases v <;> first | rfl | exact h2.elim
    rw [h3]
    exact ⟨h1, trivial⟩
  cases x with
  | agg cells =>
    simp only [cellsA, Option.some.injEq] at hc
    subst hc
    obtain ⟨vs, rfl, h2⟩ := hv
    simpa [Value.cells] using h2
  | tup vs => simp [cellsA] at hc
  | any => simp [cellsA] at hc
  | _ =>
    simp only [cellsA, Option.some.injEq] at hc
    subst hc
    exact key _ hv

theorem foldl_get (vs : List Value) : ∀ (k : Nat) (cs : Array Value) (off : Nat), off + k + vs.length ≤ cs.size → ∀ (i : Nat),
    ((vs.zipIdx k).foldl (fun (cs : Array Value) (p : Value × Nat) => cs.setIfInBounds (off + p.2) p.1) cs)[i]? = if off + k ≤ i ∧ i < off + k + vs.length then vs[i - (off + k)]? else cs[i]? := by
  induction vs with
  | nil => intro k cs off h i; simp; intro h1 h2; omega
  | cons v r ih =>
    intro k cs off h i
    simp only [List.zipIdx_cons, List.foldl_cons, List.length_cons] at h ⊢
    rw [ih (k + 1) (cs.setIfInBounds (off + k) v) off (by simp; omega) i, Array.getElem?_setIfInBounds]
    by_cases h1 : off + k = i
    · subst h1
      rw [if_neg (by omega), if_pos (by omega)]
      simp; omega
    · by_cases h2 : off + k ≤ i ∧ i < off + k + (r.length + 1)
      · rw [if_pos (by omega), if_pos h2, show i - (off + k) = (i - (off + (k + 1))) + 1 by omega, List.getElem?_cons_succ]
      · rw [if_neg (by omega), if_neg h2, if_neg h1]

theorem foldl_size (vs : List Value) : ∀ (k : Nat) (cs : Array Value) (off : Nat),
    ((vs.zipIdx k).foldl (fun (cs : Array Value) (p : Value × Nat) => cs.setIfInBounds (off + p.2) p.1) cs).size = cs.size := by
  induction vs with
  | nil => intro k cs off; simp
  | cons v r ih => intro k cs off; simp only [List.zipIdx_cons, List.foldl_cons]; rw [ih]; simp

theorem splice_get (r : List AV) (off : Nat) (cs : List AV) (h : off + cs.length ≤ r.length) (i : Nat) :
    (splice r off cs)[i]? = if off ≤ i ∧ i < off + cs.length then cs[i - off]? else r[i]? := by
  unfold splice
  by_cases h1 : i < off
  · rw [if_neg (by omega), List.append_assoc, List.getElem?_append_left (by simp; omega), List.getElem?_take, if_pos h1]
  · by_cases h2 : i < off + cs.length
    · rw [if_pos (by omega), List.getElem?_append_left (by simp; omega), List.getElem?_append_right (by simp; omega)]
      simp [Nat.min_eq_left (show off ≤ r.length by omega)]
    · rw [if_neg (by omega), List.getElem?_append_right (by simp; omega), List.getElem?_drop]
      congr 1
      simp
      omega

theorem splice_length (r : List AV) (off : Nat) (cs : List AV) (h : off + cs.length ≤ r.length) : (splice r off cs).length = r.length := by
  unfold splice; simp; omega

theorem fill_rel {bl : Nat → Option Nat} {cs : Array Value} {cells : List AV} {v : Value} {ys : List AV} {off : Nat} (hc : All2 (CRel bl M w) cs.toList cells) (hv : All2 (CRel bl M w) v.cells.toList ys) (hl : off + ys.length ≤ cells.length) :
    All2 (CRel bl M w) (v.cells.zipIdx.foldl (fun (cs : Array Value) (p : Value × Nat) => cs.setIfInBounds (off + p.2) p.1) cs).toList (splice cells off ys) := by
  have e1 := hc.length
  have e2 := hv.length
  simp only [Array.length_toList] at e1 e2
  have hf : v.cells.zipIdx.foldl (fun (cs : Array Value) (p : Value × Nat) => cs.setIfInBounds (off + p.2) p.1) cs = (v.cells.toList.zipIdx 0).foldl (fun (cs : Array Value) (p : Value × Nat) => cs.setIfInBounds (off + p.2) p.1) cs := by
    rw [← Array.foldl_toList, Array.toList_zipIdx]
  rw [hf]
  refine All2.of_get ?_ ?_
  · rw [splice_length _ _ _ hl, Array.length_toList, foldl_size, e1]
  · intro i x y hx hy
    rw [Array.getElem?_toList, foldl_get _ _ _ _ (by simp; omega)] at hx
    rw [splice_get _ _ _ hl] at hy
    simp only [Nat.add_zero, Array.length_toList, e2] at hx
    split at hx
    · rename_i h1
      rw [if_pos h1] at hy
      obtain ⟨u, hu, hr⟩ := hv.get hy
      rw [hu] at hx
      cases hx
      exact hr
    · rename_i h1
      rw [if_neg h1] at hy
      obtain ⟨u, hu, hr⟩ := hc.get hy
      rw [Array.getElem?_toList, hx] at hu
      cases hu
      exact hr
end
end Go.Mw
