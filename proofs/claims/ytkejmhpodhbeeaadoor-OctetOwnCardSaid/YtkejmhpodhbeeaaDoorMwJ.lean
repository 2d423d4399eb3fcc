/-
  Any operation but a call: one theorem.
-/
import Derived.Test.YtkejmhpodhbeeaaDoorMwI2
namespace Go.Mw

def allocs : IOp → Bool
  | .new .. => true
  | .box .. => true
  | .bsl .. => true
  | .app .. => true
  | .apps .. => true
  | .cvb .. => true
  | .mks .. => true
  | _ => false

section
variable {P : Program} {c : Ctx} {bl : Nat → Option Nat} {g : Nat → AV} {h : Nat → Option AObj} {a : Act} {w : World} {o : Oper}

theorem res_some {x : Option AV} {v : AV} {e : Eff} (h : res x = some (v, e)) : x = some v ∧ e = .no := by
  unfold res at h
  simp only [Option.map_eq_some_iff, Prod.mk.injEq] at h
  obtain ⟨y, h1, rfl, rfl⟩ := h
  exact ⟨h1, rfl⟩

theorem arr1 {α : Type} {x : Array α} {t : α} (h : x.toList = [t]) : x = #[t] := by cases x; simp_all
theorem arr2 {α : Type} {x : Array α} {t u : α} (h : x.toList = [t, u]) : x = #[t, u] := by cases x; simp_all

theorem aev_ok (s : SatB c bl g h a w) {op : IOp} (hc : cOp P o.op = some op) {d : Nat} {x : AV} {e : Eff} (he : aev d op (val g) h = some (x, e))
    (hnew : allocs op = true → h d = none ∧ Unnamed d g h ∧ (d < 1000 ∨ 2000 ≤ d)) : OpOK P c o a w g h x e := by
  generalize hoo : o.op = oo at hc
  cases oo with
  | move y =>
    simp only [cOp, Option.map_eq_some_iff] at hc
    obtain ⟨v, h1, rfl⟩ := hc
    simp only [aev, Option.some.injEq, Prod.mk.injEq] at he
    obtain ⟨rfl, rfl⟩ := he
    exact ok_mov s (.inl hoo) h1
  | assign y =>
    simp only [cOp, Option.map_eq_some_iff] at hc
    obtain ⟨v, h1, rfl⟩ := hc
    simp only [aev, Option.some.injEq, Prod.mk.injEq] at he
    obtain ⟨rfl, rfl⟩ := he
    exact ok_mov s (.inr hoo) h1
  | pick q y z =>
    simp only [cOp] at hc
    split at hc
    case h_2 => cases hc
    rename_i qv yv zv h1 h2 h3
    cases hc
    exact ok_pick s hoo h1 h2 h3 (by simpa [aev] using he)
  | alloc t =>
    simp only [cOp, Option.map_eq_some_iff] at hc
    obtain ⟨z, h1, rfl⟩ := hc
    simp only [aev, Option.some.injEq, Prod.mk.injEq] at he
    obtain ⟨rfl, rfl⟩ := he
    obtain ⟨n1, n2, n3⟩ := hnew rfl
    exact ok_new s hoo h1 n1 n2 n3
  | box t y =>
    simp only [cOp] at hc
    split at hc
    case h_2 => cases hc
    rename_i n yv h1 h2
    cases hc
    simp only [aev] at he
    split at he
    case h_2 => cases he
    rename_i cs h3
    split at he
    case isFalse => cases he
    rename_i hcond
    obtain ⟨rfl, h4⟩ := hcond
    cases he
    obtain ⟨n1, n2, n3⟩ := hnew rfl
    exact ok_box s hoo h2 h3 (fun y hy => by simpa using List.all_eq_true.1 h4 y hy) n1 n2 n3
  | build t parts =>
    simp only [cOp] at hc
    split at hc
    case h_2 => cases hc
    rename_i fs ht
    split at hc
    case h_2 => cases hc
    rename_i z places h1 h2
    simp only [Option.map_eq_some_iff] at hc
    obtain ⟨ps, h3, rfl⟩ := hc
    simp only [aev] at he
    obtain ⟨hz, rfl⟩ := res_some he
    simp only [Option.map_eq_some_iff] at hz
    obtain ⟨out, h4, rfl⟩ := hz
    exact ok_build s hoo ht h1 h2 h3 h4
  | buildSlice t len parts =>
    simp only [cOp] at hc
    split at hc
    case h_2 => cases hc
    rename_i e' ht
    split at hc
    case h_2 => cases hc
    rename_i z n ps h1 h2 h3
    split at hc
    case isFalse => cases hc
    rename_i hcond
    obtain ⟨h4, h5, h7⟩ := hcond
    cases hc
    simp only [aev] at he
    split at he
    case h_2 => cases he
    rename_i rs h8
    cases he
    obtain ⟨n1, n2, n3⟩ := hnew rfl
    exact ok_bsl s hoo ht h1 h2 h3 h4 h5 h7 h8 n1 n2 n3
  | load t p =>
    simp only [cOp] at hc
    split at hc
    case h_2 => cases hc
    rename_i n pv h1 h2
    cases hc
    simp only [aev] at he
    obtain ⟨hz, rfl⟩ := res_some he
    exact ok_load s hoo h1 h2 hz
  | store t p y =>
    simp only [cOp] at hc
    split at hc
    case h_2 => cases hc
    rename_i n pv yv h1 h2 h3
    cases hc
    simp only [aev, Option.map_eq_some_iff, Prod.mk.injEq] at he
    obtain ⟨e', h4, rfl, rfl⟩ := he
    exact ok_store s hoo h1 h2 h3 h4
  | nilCheck y =>
    simp only [cOp, Option.map_eq_some_iff] at hc
    obtain ⟨yv, h1, rfl⟩ := hc
    simp only [aev] at he
    split at he <;> try cases he
    · rename_i id st row off hv
      have := ok_nchk (P := P) s hoo h1 (.inl ⟨id, st, row, off, hv⟩)
      rwa [hv] at this
    · rename_i cells hv
      have := ok_nchk (P := P) s hoo h1 (.inr (.inl ⟨cells, hv⟩))
      rwa [hv] at this
    · rename_i f caps hv
      have := ok_nchk (P := P) s hoo h1 (.inr (.inr ⟨f, caps, hv⟩))
      rwa [hv] at this
  | binOp op' t y z t' =>
    simp only [cOp] at hc
    split at hc
    case h_2 => cases hc
    rename_i yv zv h1 h2
    unfold cBin at hc
    split at hc <;> (try cases hc) <;> simp only [aev] at he <;> obtain ⟨hz, rfl⟩ := res_some he
    · exact ok_bbin s hoo (by assumption) h1 h2 (by assumption)
    · exact ok_bin s hoo h1 h2 (by assumption)
    · exact ok_bin s hoo h1 h2 (by assumption)
    · exact ok_pbin s hoo (by assumption) h1 h2 (by assumption)
  | unOp op' t y =>
    simp only [cOp, Option.map_eq_some_iff] at hc
    obtain ⟨yv, h1, rfl⟩ := hc
    simp only [aev] at he
    obtain ⟨hz, rfl⟩ := res_some he
    exact ok_un s hoo h1 hz
  | convert sr ds y =>
    simp only [cOp] at hc
    split at hc
    case h_2 => cases hc
    rename_i yv h1
    unfold cConv at hc
    split at hc
    · rename_i k' k h2 h3
      cases hc
      simp only [aev] at he
      split at he
      case h_2 => cases he
      rename_i kk n hv
      cases he
      exact ok_cvi s hoo h2 h3 h1 hv
    · rename_i h2 h3
      cases hc
      simp only [aev] at he
      split at he
      case h_2 => cases he
      rename_i st hv
      cases he
      have := ok_cvss (P := P) s hoo h2 h3 h1 hv
      rwa [hv] at this
    · rename_i e' h2 h3
      split at hc
      case h_2 => cases hc
      rename_i h4
      cases hc
      simp only [aev] at he
      split at he
      case h_2 => cases he
      rename_i rows h5
      obtain ⟨hz, rfl⟩ := res_some he
      simp only [Option.map_eq_some_iff] at hz
      obtain ⟨bs, h6, rfl⟩ := hz
      exact ok_cvs s hoo h2 h4 h3 h1 h5 h6
    · rename_i e' h2 h3
      split at hc
      case h_2 => cases hc
      rename_i h4
      cases hc
      simp only [aev] at he
      split at he
      case h_2 => cases he
      rename_i st hv
      split at he
      case isFalse => cases he
      cases he
      obtain ⟨n1, n2, n3⟩ := hnew rfl
      exact ok_cvb s hoo h2 h4 h3 h1 hv n1 n2 n3
    · cases hc
  | makeFunc fn first caps =>
    cases fn <;> simp only [cOp] at hc <;> try cases hc
    rename_i f
    split at hc
    case isFalse => cases hc
    rename_i hf
    simp only [Option.map_eq_some_iff] at hc
    obtain ⟨cv, h1, rfl⟩ := hc
    simp only [aev] at he
    split at he
    case isFalse => cases he
    rename_i hall
    cases he
    refine ok_mkf s hoo hf h1 (fun v hv => ?_)
    have h2 := List.all_eq_true.1 hall (val g v) (List.mem_map.2 ⟨v, hv, rfl⟩)
    generalize val g v = y at h2
    cases y <;> first
      | (simp [capA] at h2; done)
      | exact .inl ⟨_, _, _, _, rfl⟩
      | exact .inr (.inr ⟨_, _, _, _, rfl⟩)
      | exact .inr (.inl ⟨rfl, by simp⟩)
  | makeSlice t l cp =>
    simp only [cOp] at hc
    split at hc
    case h_2 => cases hc
    rename_i e' st lv cv h1 h2 h3
    simp only [Option.map_eq_some_iff] at hc
    obtain ⟨z, h4, rfl⟩ := hc
    simp only [aev] at he
    split at he
    case h_2 => cases he
    rename_i n m h5 h6
    split at he
    case isFalse => cases he
    rename_i hcond
    obtain ⟨q1, q2, q3, q4⟩ := hcond
    cases he
    obtain ⟨n1, n2, n3⟩ := hnew rfl
    exact ok_mks s hoo h1 h4 h2 h3 h5 h6 q1 q2 q3 q4 n1 n2 n3
  | slice t y lo hi mx =>
    simp only [cOp] at hc
    split at hc
    · rename_i e' yv lov hiv mxv h1 h2 h3 h4 h5
      split at hc
      case isFalse => cases hc
      rename_i hb
      simp only [Option.map_eq_some_iff] at hc
      obtain ⟨n, h6, rfl⟩ := hc
      simp only [aev] at he
      obtain ⟨hz, rfl⟩ := res_some he
      exact ok_slc s hoo h1 h6 h2 h3 h4 h5 (by
        intro hm
        cases mx <;> simp_all) hz
    · rename_i yv lov hiv h1 h2 h3 h4 h5
      cases hc
      simp only [aev] at he
      obtain ⟨hz, rfl⟩ := res_some he
      have hm : mx = none := by
        cases mx with
        | none => rfl
        | some q => simp [cOpt] at h5
      subst hm
      exact ok_sslc s hoo h1 h2 h3 h4 hz
    · cases hc
  | fieldAddr t y f =>
    simp only [cOp] at hc
    split at hc
    case h_2 => cases hc
    rename_i fs yv h1 h2
    split at hc
    case h_2 => cases hc
    rename_i fd h3
    split at hc
    case h_2 => cases hc
    rename_i n h4
    cases hc
    simp only [aev] at he
    obtain ⟨hz, rfl⟩ := res_some he
    exact ok_fadr s hoo h1 h3 h4 rfl h2 hz
  | field t y f =>
    simp only [cOp] at hc
    split at hc
    case h_2 => cases hc
    rename_i fs yv h1 h2
    split at hc
    case h_2 => cases hc
    rename_i fd h3
    simp only [Option.map_eq_some_iff] at hc
    obtain ⟨n, h4, rfl⟩ := hc
    simp only [aev] at he
    obtain ⟨hz, rfl⟩ := res_some he
    exact ok_fld s hoo h1 h3 h4 rfl h2 hz
  | indexAddr t y i =>
    simp only [cOp] at hc
    split at hc
    case h_3 => cases hc
    case h_1 =>
      rename_i e' yv iv h1 h2 h3
      simp only [Option.map_eq_some_iff] at hc
      obtain ⟨n, h4, rfl⟩ := hc
      simp only [aev] at he
      obtain ⟨hz, rfl⟩ := res_some he
      exact ok_iadr s hoo h1 h4 h2 h3 hz
    case h_2 =>
      rename_i len e' yv iv h1 h2 h3
      simp only [Option.map_eq_some_iff] at hc
      obtain ⟨n, h4, rfl⟩ := hc
      simp only [aev] at he
      obtain ⟨hz, rfl⟩ := res_some he
      exact ok_aadr s hoo h1 h4 h2 h3 hz
  | index t y i =>
    simp only [cOp] at hc
    split at hc
    case h_2 => cases hc
    rename_i yv iv h1 h2 h3
    cases hc
    simp only [aev] at he
    split at he
    case h_2 => cases he
    rename_i st k n h4 h5
    split at he
    case isFalse => cases he
    rename_i h0
    split at he
    case h_2 => cases he
    rename_i b hb
    cases he
    exact ok_sidx s hoo h1 h2 h3 h4 h5 h0 hb
  | extract y i =>
    simp only [cOp, Option.map_eq_some_iff] at hc
    obtain ⟨yv, h1, rfl⟩ := hc
    simp only [aev] at he
    split at he
    case h_2 => cases he
    rename_i vs hv
    obtain ⟨hz, rfl⟩ := res_some he
    exact ok_ext s hoo h1 hv hz
  | call cl =>
    simp only [cOp] at hc
    unfold cCall at hc
    split at hc
    · split at hc
      · simp only [Option.map_eq_some_iff] at hc
        obtain ⟨_, _, rfl⟩ := hc
        simp [aev] at he
      · cases hc
    · split at hc
      · simp only [Option.map_eq_some_iff] at hc
        obtain ⟨_, _, rfl⟩ := hc
        simp [aev] at he
      · cases hc
    · cases hc
    · cases hc
    · rename_i hcl
      split at hc
      case h_2 => cases hc
      rename_i t y h1 h2
      split at hc <;> (try cases hc) <;> simp only [Option.map_eq_some_iff] at hc <;> obtain ⟨yv, h3, rfl⟩ := hc <;> simp only [aev] at he <;> obtain ⟨hz, rfl⟩ := res_some he
      · rename_i e' ht
        exact ok_len s hoo hcl (arr1 h1) (arr1 h2) ht h3 hz
      · rename_i ht
        exact ok_slen s hoo hcl (arr1 h1) (arr1 h2) ht h3 hz
    · rename_i hcl
      split at hc
      case h_2 => cases hc
      rename_i t t' y z h1 h2
      have fin : ∀ {e' : TypeId} {st : Nat} {yv zv : IV} {src : Option (List (List AV))}, appOk P t = some (e', st) → ((∃ e'', P.underlying t' = some (.slice e'')) ∨ P.underlying t' = some .string) → cV y = some yv →
          (∀ rows, src = some rows → ∃ ys, Src P w st (a.eval z) rows.length ys ∧ YRel (Mut bl c.MF h) w st ys rows) → aApp d e' st (val g yv) src h = some (x, e) → h d = none → Unnamed d g h → (d < 1000 ∨ 2000 ≤ d) → OpOK P c o a w g h x e := by
        intro e' st yv zv src hap ht' hy hsrc he n1 n2 n3
        unfold aApp at he
        split at he
        case h_1 => cases he
        rename_i ys
        split at he
        case isFalse => cases he
        rename_i hbig
        obtain ⟨vs, hs, hyr⟩ := hsrc ys rfl
        split at he
        · rename_i hv
          cases he
          exact ok_app_nil s hoo hcl (arr2 h1) (arr2 h2) hap ht' hy hv hs hyr hbig n1 n2 n3
        · rename_i id st' off len hv
          split at he
          case h_2 => cases he
          rename_i ob hob
          split at he
          case isFalse => cases he
          rename_i hcond
          obtain ⟨rfl, q2, q3, q4, rfl, q6, q7, q8⟩ := hcond
          cases he
          exact ok_app_own s hoo hcl (arr2 h1) (arr2 h2) hap ht' hy hv hob q2 q3 q4 q6 q8 hs hyr hbig q7
        · cases he
      split at hc
      · rename_i e' st e'' yv zv h3 h4 h5 h6
        cases hc
        simp only [aev] at he
        obtain ⟨n1, n2, n3⟩ := hnew rfl
        exact fin (zv := zv) h3 (.inl ⟨_, h4⟩) h5 (fun rows hr => src_rel s h6 hr) he n1 n2 n3
      · rename_i e' st yv zv h3 h4 h5 h6
        split at hc
        case isFalse => cases hc
        rename_i hst
        subst hst
        cases hc
        simp only [aev] at he
        obtain ⟨n1, n2, n3⟩ := hnew rfl
        exact fin (zv := zv) h3 (.inr h4) h5 (fun rows hr => srcS_rel s h6 hr) he n1 n2 n3
      · cases hc
    · rename_i hcl
      split at hc
      case h_2 => cases hc
      rename_i y z h1
      split at hc
      case h_2 => cases hc
      rename_i yv zv h2 h3
      cases hc
      simp only [aev] at he
      obtain ⟨hz, rfl⟩ := res_some he
      exact ok_mnx (m := false) s hoo hcl (arr2 h1) h2 h3 hz
    · rename_i hcl
      split at hc
      case h_2 => cases hc
      rename_i y z h1
      split at hc
      case h_2 => cases hc
      rename_i yv zv h2 h3
      cases hc
      simp only [aev] at he
      obtain ⟨hz, rfl⟩ := res_some he
      exact ok_mnx (m := true) s hoo hcl (arr2 h1) h2 h3 hz
    · cases hc
  | _ => simp [cOp] at hc
end
end Go.Mw
