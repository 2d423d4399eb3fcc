/-
  Chapter 5, the law OpcodeFinds: Find, and what All yields, are the reference's.
-/
import Derived.Test.YtnhnghpnejobfaaDoorQt
import Derived.Shelf.RegionOpen
set_option linter.unusedVariables false
set_option linter.unusedSimpArgs false
set_option linter.unusedSectionVars false
set_option maxRecDepth 100000
set_option maxHeartbeats 4000000
set_option linter.unusedVariables false
set_option linter.unusedSimpArgs false
namespace Go.Proofs.YtnhnghpnejobfaaDoor
open Go Go.Mw Go.RowKit Go.Shelf
-- @U: oc_e

theorem s_all5 : PCalls Tryd.prog n_opcode_All [] (.fn 56 []) := by
  refine pfun_sound (ic := F_opcode_All.body) mixed c_opcode_All rfl rfl ?_
  simp only [go_sem, oc_e, F_opcode_All]
  exact pdone [] (by simp only [go_sem, oc_e]) (by first | rfl | simp [go_sem, slv_ids, oc_e])
def opv (o : Oc) : List AV := [.int .i64 o.op]
theorem r_all5 : PCalls Tryd.prog n_ref05_All [] (.sl 1 (OC.map opv)) := by
  refine pfun_sound (ic := F_ref05_All.body) mixed c_ref05_All rfl rfl ?_
  have hOL := OC_len
  simp only [go_sem, oc_e, F_ref05_All]
  refine call_same (r_rows5) (by simp [go_sem, oc_e]) ?_
  simp only [go_sem, oc_e]
  refine loop_rule (fun i : Nat => ⟨[(1, .ms 900 1 0 i), (3, .int .i64 i), (2, .sl 3 (OC.map oc_))], [(900, ⟨22, 1, (OC.take i).map opv, false⟩)]⟩) (fun i => i ≤ OC.length) (fun i => OC.length - i) 0 (Nat.zero_le _) ((Wk.nil _ 1 900 1 22 (by simp only [go_sem, oc_e]) (.inl (by decide))).trans (Wk.of ?_ ?_)) ?_
  · simp only [go_sem, oc_e, St.mknil]; try simp [go_sem]
  · simp only [go_sem, oc_e, St.mknil]; try simp [go_sem]
  intro i hi
  replace hi : i ≤ OC.length := hi
  have e8 := wi (n := (i : Int) + 1) (by omega) (by omega)
  by_cases h1 : (i : Int) < (OC.length : Int)
  · have hi' : i < OC.length := by omega
    have hlen : (OC.take i).length = i := by rw [List.length_take]; omega
    have happ := fun ys => appO_map 900 22 1 i opv (OC.take i) ys hlen
    have et : OC.take (i + 1) = OC.take i ++ [nth OC i] := by rw [List.take_add_one, nth_some hi', Option.toList_some]
    simp only [go_sem, oc_e, decide_eq_true h1, happ]
    refine ⟨by omega, h1, by omega, klp_n (i + 1) (show i + 1 ≤ OC.length by omega) (show OC.length - (i + 1) < OC.length - i by omega) (Wk.of ?_ ?_)⟩
    · simp only [go_sem, oc_e, e8]
      try simp
    · simp only [go_sem, oc_e]
      rw [et, List.map_append]
      rfl
  · obtain rfl : i = OC.length := by omega
    simp only [go_sem, oc_e, decide_eq_false h1]
    rw [List.take_length]
    refine pdone [900] ?_ rfl
    simp only [go_sem, oc_e, List.length_map, Nat.le_refl]
    rw [List.take_of_length_le (by rw [List.length_map]; omega)]
attribute [local go_sem] Oper.semAt_some
theorem ops_cells {M : Nat → Prop} {w : World} {v : Value} (h : VRel (fun _ => none) M w v (.sl 1 (OC.map opv))) : ∃ b off cap, v = .slice (some ⟨b, off, none⟩) 125 cap ∧ ∀ i, i < 125 → w.cell? ⟨b, off + i, none⟩ = some (.int .i64 (nth OC i).op) := by
  have h1 : IRel M w v (.sl 1 (OC.map opv)) := h
  have hlen : (OC.map opv).length = 125 := by rfl
  generalize hr : OC.map opv = rows at h1 hlen
  cases h1 with
  | nls => simp at hlen
  | sl0 => simp at hlen
  | sl b off cap st c t fr rows vs hb hM hl hr1 hv hx =>
    refine ⟨b, off, cap, by rw [hlen], fun i hi => ?_⟩
    have hrow : rows[i]? = some (opv (nth OC i)) := by
      rw [← hr, List.getElem?_map, nth_some (by rw [← hlen, ← hr] at hi; simpa using hi)]
      rfl
    have a0 := hv i 0 (by omega) (by decide)
    have b0 := hx i 0 _ _ hrow rfl
    generalize vs i 0 = u at a0 b0
    cases b0
    rw [Nat.mul_one, Nat.add_zero] at a0
    exact (cell_of hb _).trans a0
theorem res_pair {bl : Nat → Option Nat} {M : Nat → Prop} {w : World} {v : Value} {n : Int} {b : Bool} (h : VRel bl M w v (.tup [.int .i64 n, .bool b])) : v = .tuple #[.int .i64 n, .bool b] := by
  obtain ⟨cs, rfl, h⟩ := h
  match cs, h with
  | [x, y], ⟨h1, h2, _⟩ =>
    cases (show IRel M w x (.int .i64 n) from h1)
    cases (show IRel M w y (.bool b) from h2)
    rfl
theorem find_same (s : List UInt8) : findOf s = rFd s := by
  have h : ∀ l : List Oc, (match (l.map fun o => (o.op, o.nm)).find? (fun x => x.2 == s) with | some p => (p.1, true) | none => ((0 : Int), false)) = (match l.find? (fun o => o.nm == s) with | some o => (o.op, true) | none => (0, false)) := by
    intro l
    induction l with
    | nil => rfl
    | cons a l ih =>
      simp only [List.map_cons, List.find?_cons]
      cases ha : a.nm == s
      · exact ih
      · rfl
  exact h OC
theorem stp_drew (A : World) : Stp No A A.drew := ⟨Nat.le_refl _, fun _ _ _ => rfl, fun b c t fr h => ⟨c, fr, h, rfl⟩, rfl, rfl⟩
theorem pre_at {pre : List (Int × List UInt8)} {x : Int × List UInt8} (h : pre ++ [x] <+: EN) : pre.length < 125 ∧ (nth OC pre.length).op = x.1 := by
  obtain ⟨r, hr⟩ := h
  have hl : EN.length = 125 := rfl
  have h1 : pre.length < 125 := by rw [← hl, ← hr]; simp
  have h2 : EN[pre.length]? = some x := by rw [← hr]; simp
  have h3 : EN[pre.length]? = some ((nth OC pre.length).op, (nth OC pre.length).nm) := by
    unfold EN
    rw [List.getElem?_map, nth_some (show pre.length < OC.length from h1)]
    rfl
  rw [h2] at h3
  exact ⟨h1, (congrArg Prod.fst (Option.some.inj h3)).symm⟩
theorem nil_func (A : World) : (binOp BinOp.eql 46 (.func (.func 56) #[] #[]) .nilFunc).run Tryd.prog A = .ok (.bool false) A := by rfl
theorem w_finds (s : List UInt8) : PCalls Tryd.prog 8 [.str s] (.bool true) := by
  refine PCalls.of (fun w bl M cargs hH hM ha => ?_) rfl
  match cargs, ha with
  | [a], ⟨h1, _⟩ =>
  obtain rfl := h1.str
  refine (callsIn_wide (n := 3)).1 ?_
  refine callsIn_of_wp_marks Tryd.func8 rfl trivial ?_ rfl
  have hs0 := Stp.ofAlloc w (.cells #[.bool false] 4)
  have st : ∀ {A B : World}, (Tabs.T Tryd.prog).H A → Stp No A B → (Tabs.T Tryd.prog).H B := fun hA hs => (Tabs.T Tryd.prog).stay _ _ hA fun q hq => hs.keep q ((Tabs.T Tryd.prog).low _ hA q hq) (fun h => h)
  have c1 := PCalls.run (s_find5 s) _ (st hH hs0) (cargs := [.string ⟨s.toArray⟩]) ⟨IRel.str _, trivial⟩
  simp only [Tryd.ntmps8, List.size_toArray, List.length_cons, List.length_nil, Nat.reduceAdd, Nat.reduceSub, Array.replicate_succ, Array.replicate_zero, List.push_toArray, List.append_toArray, List.nil_append, List.cons_append]
  gi_wp2
  refine ⟨trivial, (callsIn_wide.2 c1).mono ?_⟩
  rintro e W1 ⟨v, rfl, hv, hst1⟩
  obtain rfl := res_pair hv
  have hH1 := st (st hH hs0) hst1
  have c2 := PCalls.run (r_rfind s) _ hH1 (cargs := [.string ⟨s.toArray⟩]) ⟨IRel.str _, trivial⟩
  gi_wp2
  refine ⟨trivial, (callsIn_wide.2 c2).mono ?_⟩
  rintro e W2 ⟨v, rfl, hv2, hst2⟩
  obtain rfl := res_pair hv2
  have hs3 := Stp.ofAlloc W2 (.cells #[.int .i64 0] 3)
  have hH3 := st (st hH1 hst2) hs3
  have c3 := PCalls.run s_all5 _ hH3 (cargs := []) trivial
  gi_wp2
  refine ⟨trivial, (callsIn_wide.2 c3).mono ?_⟩
  rintro e W3 ⟨v, rfl, hv3, hst3⟩
  obtain rfl := fn_val hv3
  have hsB := (hs0.one hst1).one hst2
  have hsW := (hsB.one hs3).one hst3
  have hHW := st hH hsW
  have hb0 : W2.heap[w.heap.size]? = some (.cells #[.bool false] 4) := by
    have e := (hst1.one hst2).keep w.heap.size (by simp) (fun h => h)
    rw [e]; exact World.alloc_heap_new _ _
  have hb1 : W3.heap[w.heap.size]? = some (.cells #[.bool false] 4) := by
    rw [(hs3.one hst3).keep _ (lt_of_heap hb0) (fun h => h)]; exact hb0
  have hb2 : W3.heap[W2.heap.size]? = some (.cells #[.int .i64 0] 3) := by
    rw [hst3.keep _ (by simp) (fun h => h)]; exact World.alloc_heap_new _ _
  have hlt := lt_of_heap hb0
  have hz : W2.heap.size + 1 ≤ W3.heap.size := by have := hst3.size; simpa using this
  have hfs := find_same s
  rw [hfs]
  clear c1 c2 c3 hv hv2 hv3 hst1 hst2 hst3 hs0 hs3 hH1 hH3 hfs
  have hnil := nil_func W3
  gi_wp2
  refine wpIn_rngN (α := Int × List UInt8) (encs := encO) (E := EN) hHW (gf := 56) (lb := #[]) rfl (enters_of Tryd.func56 (by kernel_rfl) rfl) (all1 _ W3) (Stp.refl _ _) (fun _ => rfl)
    (fun pre A => Stp No w A ∧ A.heap[w.heap.size]? = some (.cells #[.bool false] 4) ∧ A.heap[W2.heap.size]? = some (.cells #[.int .i64 pre.length] 3) ∧ W3.heap.size ≤ A.heap.size)
    (fun _ _ _ => False)
    (fun s A B h hs => ⟨h.1.one hs, (hs.keep _ (lt_of_heap h.2.1) (fun h => h)).trans h.2.1, (hs.keep _ (lt_of_heap h.2.2.1) (fun h => h)).trans h.2.2.1, Nat.le_trans h.2.2.2 hs.size⟩)
    (fun c s A B h hs => h)
    (fun s A k o o' h hk hko ho => ⟨stp_putObj h.1 (by omega) hko ho, by rw [World.putObj_heap_other (by omega)]; exact h.2.1, by rw [World.putObj_heap_other (by omega)]; exact h.2.2.1, by simpa [World.putObj] using h.2.2.2⟩)
    (fun c s A k o o' h hk hko ho => h)
    ⟨hsW, hb1, hb2, Nat.le_refl _⟩
    (fun x => { tmps := #[.string ⟨s.toArray⟩, undef, .pointer (some ⟨w.heap.size, 0, none⟩), .int .i64 (rFd s).1, .bool (rFd s).2, .int .i64 (rFd s).1, .bool (rFd s).2, .pointer (some ⟨W2.heap.size, 0, none⟩), .func (.func 56) #[] #[], .int .i64 x.1, .tuple #[.int .i64 (rFd s).1, .bool (rFd s).2], .string ⟨s.toArray⟩, .tuple #[.int .i64 (rFd s).1, .bool (rFd s).2], .int .i64 (rFd s).1, .bool (rFd s).2, .tuple #[.int .i64 (rFd s).1, .bool (rFd s).2], .string ⟨s.toArray⟩, .tuple #[.int .i64 (rFd s).1, .bool (rFd s).2], .int .i64 (rFd s).1, .bool (rFd s).2, .func (.func 56) #[] #[], .func (.func 56) #[] #[], .bool false, .func (.func 56) #[] #[], .int .i64 x.1, undef, undef, undef, undef, undef, undef, undef, undef, undef, undef, undef, undef, undef, undef, undef, undef, undef, undef, undef, undef, undef, undef, undef, undef, undef, undef, undef, undef, undef, undef, undef], defers := [] }) ?assign ?body ?done ?stop
  case assign =>
    intro m l' x A K hK
    simp only [encO]
    gi_wp2
    exact hK
  case body =>
    rintro m l' pre x A ⟨hS, hB0, hB1, hB2⟩ hpre
    obtain ⟨hk, hop⟩ := pre_at hpre
    have hmx : Tryd.prog.follows .mixedOrders = true := by kernel_rfl
    have hsd := stp_drew A
    have hHd := st hH (hS.one hsd)
    have gd : A.drew.heap[W2.heap.size]? = some (.cells #[.int .i64 pre.length] 3) := hB1
    have n0 : A.drew.cell? ⟨W2.heap.size, 0, none⟩ = some (.int .i64 pre.length) := cell_of gd _
    have fin : ∀ A2 : World, Stp No A A2 → A2.heap[W2.heap.size]? = some (.cells #[.int .i64 pre.length] 3) → A2.heap[w.heap.size]? = some (.cells #[.bool false] 4) →
        KpA (Tabs.T Tryd.prog).B W3.heap.size A (A2.setCell ⟨W2.heap.size, 0, none⟩ (.int .i64 ((pre.length : Int) + 1))) ∧ Stp No w (A2.setCell ⟨W2.heap.size, 0, none⟩ (.int .i64 ((pre.length : Int) + 1))) ∧
        (A2.setCell ⟨W2.heap.size, 0, none⟩ (.int .i64 ((pre.length : Int) + 1))).heap[w.heap.size]? = some (.cells #[.bool false] 4) ∧ (A2.setCell ⟨W2.heap.size, 0, none⟩ (.int .i64 ((pre.length : Int) + 1))).heap[W2.heap.size]? = some (.cells #[.int .i64 (pre ++ [x]).length] 3) ∧
        W3.heap.size ≤ (A2.setCell ⟨W2.heap.size, 0, none⟩ (.int .i64 ((pre.length : Int) + 1))).heap.size := by
      intro A2 hS2 gd gr
      refine ⟨(KpA.ofStp hS2 (fun b hb => (Tabs.T Tryd.prog).low _ (st hH hS) b hb)).trans (KpA.setCell _ _ _ _ (show W2.heap.size < W3.heap.size by omega) (fun b hb => (Tabs.T Tryd.prog).low _ (st hH hsB) b hb)), stp_setCell (hS.one hS2) (show w.heap.size ≤ W2.heap.size by omega), ?_, ?_, ?_⟩
      · rw [heap_set_ne (by omega)]; exact gr
      · rw [heap_set gd]; simp
      · have := hS2.size; simpa [World.setCell] using Nat.le_trans hB2 this
    gi_wp2
    gi_region_with_o (
      refine ⟨trivial, fun h => (by cases h), (CallsIn.inRound l' (callsIn_wide.2 (PCalls.run r_all5 _ (by first | exact hHd | exact hH2) (cargs := []) trivial))).mono ?_⟩
      rintro e A2 ⟨v, rfl, hv, hst⟩
      obtain ⟨b, off, cap, rfl, hc⟩ := ops_cells hv
      have hH2 := st (by first | exact hHd | exact hH2) hst
      have hS2 := (by first | exact hsd | exact hS2 : Stp No A _).one hst
      have gd := (hst.keep _ (lt_of_heap gd) (fun h => h)).trans gd
      have n2 : A2.cell? ⟨W2.heap.size, 0, none⟩ = some (.int .i64 pre.length) := cell_of gd _
      have n3 : A2.cell? ⟨b, off + pre.length, none⟩ = some (.int .i64 x.1) := by rw [hc pre.length hk, hop])
    all_goals
      have f2 : A2.frozen? ⟨W2.heap.size, 0, none⟩ = false := by simp [World.frozen?, gd]
      have gr : A2.heap[w.heap.size]? = some (.cells #[.bool false] 4) := (hS2.keep _ (lt_of_heap hB0) (fun h => h)).trans hB0
      gi_wp2
      exact fin A2 hS2 gd gr
  case done =>
    rintro D A hD ⟨hS, hB0, hB1, hB2⟩ hK
    have hmx : Tryd.prog.follows .mixedOrders = true := by kernel_rfl
    have hlE : EN.length = 125 := rfl
    rw [hlE] at hB1
    have hsd := stp_drew A
    have hHd := st hH (hS.one hsd)
    have gd : A.drew.heap[W2.heap.size]? = some (.cells #[.int .i64 (125 : Nat)] 3) := hB1
    have gr : A.drew.heap[w.heap.size]? = some (.cells #[.bool false] 4) := hB0
    have gk : A.drew.heap[D]? = some (.deferred (some [])) := hK
    have n0 : A.drew.cell? ⟨W2.heap.size, 0, none⟩ = some (.int .i64 (125 : Nat)) := cell_of gd _
    gi_wp2
    refine wpIn_mono (Q := fun e a' w' => match e with
      | .normal => a'.defers = [{ target := .collected D, args := #[] }] ∧ a'.tmps.getD 2 undef = .pointer (some ⟨w.heap.size, 0, none⟩) ∧ Stp No w w' ∧ w'.heap[w.heap.size]? = some (.cells #[.bool true] 4) ∧ w'.heap[D]? = some (.deferred (some []))
      | _ => False) ?_ ?_
    rotate_left
    · intro e a' w' h
      cases e with
      | normal =>
        obtain ⟨g1, g2, g3, g4, g5⟩ := h
        obtain ⟨ta, da⟩ := a'
        simp only at g1 g2
        subst g1
        gi_wp2
        refine ⟨by simp, .inl ⟨_, _, rfl, run_takeDeferred g5, ?_⟩⟩
        have hS2 := stp_putObj g3 (by omega) g5 rfl (o' := .deferred none)
        have hB4 : (w'.putObj D (.deferred none)).heap[w.heap.size]? = some (.cells #[.bool true] 4) := by rw [World.putObj_heap_other (by omega)]; exact g4
        exact ⟨_, results_cell1 rfl _ _ _ g2 (Tryd.isAgg4 _) (cell_of hB4 _), _, rfl, hS2, IRel.bool _⟩
      | _ => exact h.elim
    gi_region_with_o (
      first
      | (refine ⟨trivial, (callsIn_wide.2 (PCalls.run r_all5 _ (by first | exact hHd | exact hH2) (cargs := []) trivial)).mono ?_⟩
         rintro e A2 ⟨v, rfl, hv, hst⟩
         obtain ⟨b, off, cap, rfl, hc⟩ := ops_cells hv
         have hH2 := st (by first | exact hHd | exact hH2) hst
         have hS2 := (by first | exact hsd | exact hS2 : Stp No A _).one hst
         have gd := (hst.keep _ (lt_of_heap gd) (fun h => h)).trans gd
         have gr := (hst.keep _ (lt_of_heap gr) (fun h => h)).trans gr
         have gk := (hst.keep _ (Array.getElem?_eq_some_iff.1 gk).1 (fun h => h)).trans gk
         have n2 : A2.cell? ⟨W2.heap.size, 0, none⟩ = some (.int .i64 (125 : Nat)) := cell_of gd _
         have f2 : A2.frozen? ⟨w.heap.size, 0, none⟩ = false := by simp [World.frozen?, gr]
         have n4 : A2.cell? ⟨w.heap.size, 0, none⟩ = some (.bool false) := cell_of gr _)
      | (refine ⟨trivial, (callsIn_wide.2 (PCalls.run s_alive5 _ (by first | exact hHd | exact hH2) (cargs := []) trivial)).mono ?_⟩
         rintro e A2 ⟨v, rfl, hv, hst⟩
         obtain rfl := hv.bool
         have hH2 := st (by first | exact hHd | exact hH2) hst
         have hS2 := (by first | exact hsd | exact hS2 : Stp No A _).one hst
         have gr := (hst.keep _ (lt_of_heap gr) (fun h => h)).trans gr
         have gk := (hst.keep _ (Array.getElem?_eq_some_iff.1 gk).1 (fun h => h)).trans gk
         have f2 : A2.frozen? ⟨w.heap.size, 0, none⟩ = false := by simp [World.frozen?, gr]
         have n4 : A2.cell? ⟨w.heap.size, 0, none⟩ = some (.bool false) := cell_of gr _))
    all_goals
      refine ⟨rfl, rfl, stp_setCell (hS.one hS2) (Nat.le_refl _), ?_, ?_⟩
      · rw [heap_set gr]; rfl
      · rw [heap_set_ne (by omega)]; exact gk
  case stop =>
    rintro D c pre A hD hp h hK
    exact h.elim
end Go.Proofs.YtnhnghpnejobfaaDoor
