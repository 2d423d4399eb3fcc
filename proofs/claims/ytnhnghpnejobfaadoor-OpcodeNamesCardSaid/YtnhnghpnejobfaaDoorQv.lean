/-
  Chapter 5, the law OpcodeNames: All yields known opcodes in increasing order and supports early exit, and Find inverts Name.
-/
import Derived.Test.YtnhnghpnejobfaaDoorQu
set_option linter.unusedVariables false
set_option linter.unusedSimpArgs false
set_option linter.unusedSectionVars false
set_option maxRecDepth 100000
set_option maxHeartbeats 8000000
set_option linter.unusedVariables false
set_option linter.unusedSimpArgs false
namespace Go.Proofs.YtnhnghpnejobfaaDoor
open Go Go.Mw Go.RowKit Go.Shelf
attribute [local go_sem] Oper.semAt_some

/-- The last opcode that has come. -/
def lastV (k : Nat) : Int := if k = 0 then -1 else (nth OC (k - 1)).op
theorem names_at (k : Nat) (h : k < 125) : (lastV k < (nth OC k).op) ∧ (nameOf (nth OC k).op == []) = false ∧ (findOf (nameOf (nth OC k).op)).2 = true ∧ ((findOf (nameOf (nth OC k).op)).1 = (nth OC k).op ∨ (nth OC k).op = 28) := by
  have : ∀ k : Fin 125, (lastV k.val < (nth OC k.val).op) ∧ (nameOf (nth OC k.val).op == []) = false ∧ (findOf (nameOf (nth OC k.val).op)).2 = true ∧ ((findOf (nameOf (nth OC k.val).op)).1 = (nth OC k.val).op ∨ (nth OC k.val).op = 28) := by decide +kernel
  exact this ⟨k, h⟩
theorem names_end : (nameOf (lastV 125) == []) = false := by decide +kernel
theorem find_name (s : List UInt8) : (findOf s = (0, false)) ∨ (∃ op, findOf s = (op, true) ∧ nameOf op = s ∧ (nameOf op == []) = false) := by
  unfold findOf
  cases hf : EN.find? (fun p => p.2 == s) with
  | none => exact .inl rfl
  | some p =>
    refine .inr ⟨p.1, rfl, ?_⟩
    have h1 := List.mem_of_find?_eq_some hf
    have h2 := List.find?_some hf
    simp only [beq_iff_eq] at h2
    have h3 : ∀ p ∈ EN, nameOf p.1 = p.2 ∧ (nameOf p.1 == []) = false := by decide +kernel
    obtain ⟨h4, h5⟩ := h3 p h1
    exact ⟨h4.trans h2, h5⟩
/-- What lies in the law's four variables: the limit, the answer, how many have come, the last. -/
def NmF (B : Nat) (mo : Int) (k : Nat) (z : Int) (A : World) : Prop := A.heap[B]? = some (.cells #[.int .u8 mo] 5) ∧ A.heap[B + 1]? = some (.cells #[.bool false] 4) ∧ A.heap[B + 1 + 1]? = some (.cells #[.int .i64 k] 3) ∧ A.heap[B + 1 + 1 + 1]? = some (.cells #[.int .i64 z] 22)
theorem NmF.stp {B k : Nat} {mo z : Int} {A A' : World} (h : NmF B mo k z A) (hs : Stp No A A') : NmF B mo k z A' :=
  ⟨(hs.keep _ (lt_of_heap h.1) (fun h => h)).trans h.1, (hs.keep _ (lt_of_heap h.2.1) (fun h => h)).trans h.2.1, (hs.keep _ (lt_of_heap h.2.2.1) (fun h => h)).trans h.2.2.1, (hs.keep _ (lt_of_heap h.2.2.2) (fun h => h)).trans h.2.2.2⟩
theorem NmF.put {B k l : Nat} {mo z : Int} {A : World} {o : Obj} (h : NmF B mo k z A) (hl : B + 4 ≤ l) : NmF B mo k z (A.putObj l o) :=
  ⟨by rw [World.putObj_heap_other (by omega)]; exact h.1, by rw [World.putObj_heap_other (by omega)]; exact h.2.1, by rw [World.putObj_heap_other (by omega)]; exact h.2.2.1, by rw [World.putObj_heap_other (by omega)]; exact h.2.2.2⟩
theorem w_names (s : List UInt8) (mo : Int) (hmo : 0 ≤ mo ∧ mo ≤ 255) : PCalls Tryd.prog 7 [.str s, .int .u8 mo] (.bool true) := by
  refine PCalls.of (fun w bl M cargs hH hM ha => ?_) rfl
  match cargs, ha with
  | [a, b], ⟨h1, h2, _⟩ =>
  obtain rfl := h1.str
  obtain rfl := h2.int
  refine (callsIn_wide (n := 3)).1 ?_
  refine callsIn_of_wp_marks Tryd.func7 rfl trivial ?_ rfl
  have st : ∀ {A B : World}, (Tabs.T Tryd.prog).H A → Stp No A B → (Tabs.T Tryd.prog).H B := fun hA hs => (Tabs.T Tryd.prog).stay _ _ hA fun q hq => hs.keep q ((Tabs.T Tryd.prog).low _ hA q hq) (fun h => h)
  obtain ⟨W0, hW0⟩ : ∃ W0, (((w.alloc (.cells #[.int .u8 mo] 5)).alloc (.cells #[.bool false] 4)).alloc (.cells #[.int .i64 0] 3)).alloc (.cells #[.int .i64 (-1)] 22) = W0 := ⟨_, rfl⟩
  have hs0 : Stp No w W0 := by rw [← hW0]; exact (((Stp.ofAlloc _ _).one (Stp.ofAlloc _ _)).one (Stp.ofAlloc _ _)).one (Stp.ofAlloc _ _)
  have hz0 : W0.heap.size = w.heap.size + 4 := by rw [← hW0]; simp
  have e3 : W0.heap[w.heap.size + 1 + 1 + 1]? = some (.cells #[.int .i64 (-1)] 22) := by
    rw [← hW0]
    have := World.alloc_heap_new (((w.alloc (.cells #[.int .u8 mo] 5)).alloc (.cells #[.bool false] 4)).alloc (.cells #[.int .i64 0] 3)) (.cells #[.int .i64 (-1)] 22)
    rwa [World.size_alloc, World.size_alloc, World.size_alloc] at this
  have e2 : W0.heap[w.heap.size + 1 + 1]? = some (.cells #[.int .i64 0] 3) := by
    rw [← hW0]
    have := World.alloc_heap_new ((w.alloc (.cells #[.int .u8 mo] 5)).alloc (.cells #[.bool false] 4)) (.cells #[.int .i64 0] 3)
    rw [World.size_alloc, World.size_alloc] at this
    exact (Below.heap_alloc _ _ _ (by simp)).trans this
  have e1 : W0.heap[w.heap.size + 1]? = some (.cells #[.bool false] 4) := by
    rw [← hW0]
    have := World.alloc_heap_new (w.alloc (.cells #[.int .u8 mo] 5)) (.cells #[.bool false] 4)
    rw [World.size_alloc] at this
    exact (Below.heap_alloc _ _ _ (by simp <;> omega)).trans ((Below.heap_alloc _ _ _ (by simp)).trans this)
  have e0 : W0.heap[w.heap.size]? = some (.cells #[.int .u8 mo] 5) := by
    rw [← hW0]
    exact (Below.heap_alloc _ _ _ (by simp <;> omega)).trans ((Below.heap_alloc _ _ _ (by simp <;> omega)).trans ((Below.heap_alloc _ _ _ (by simp)).trans (World.alloc_heap_new _ _)))
  have c3 := PCalls.run s_all5 _ (st hH hs0) (cargs := []) trivial
  simp only [Tryd.ntmps7, List.size_toArray, List.length_cons, List.length_nil, Nat.reduceAdd, Nat.reduceSub, Array.replicate_succ, Array.replicate_zero, List.push_toArray, List.append_toArray, List.nil_append, List.cons_append]
  gi_wp2
  refine ⟨trivial, (callsIn_wide.2 c3).mono ?_⟩
  rintro e W3 ⟨v, rfl, hv3, hst3⟩
  obtain rfl := fn_val hv3
  have hsW := hs0.one hst3
  have hHW := st hH hsW
  replace e0 := (hst3.keep _ (lt_of_heap e0) (fun h => h)).trans e0
  replace e1 := (hst3.keep _ (lt_of_heap e1) (fun h => h)).trans e1
  replace e2 := (hst3.keep _ (lt_of_heap e2) (fun h => h)).trans e2
  replace e3 := (hst3.keep _ (lt_of_heap e3) (fun h => h)).trans e3
  have hz : w.heap.size + 4 ≤ W3.heap.size := by have := hst3.size; omega
  have hnil := nil_func W3
  clear c3 hv3 hst3 hs0 hz0
  gi_wp2
  refine wpIn_rngN (α := Int × List UInt8) (encs := encO) (E := EN) hHW (gf := 56) (lb := #[]) rfl (enters_of Tryd.func56 (by kernel_rfl) rfl) (all1 _ W3) (Stp.refl _ _) (fun _ => rfl)
    (fun pre A => Stp No w A ∧ NmF w.heap.size mo pre.length (lastV pre.length) A ∧ W3.heap.size ≤ A.heap.size)
    (fun c pre A => c = .exit 0 ∧ Stp No w A ∧ (∃ (k : Nat) (z : Int), k ≤ 125 ∧ mo ≤ (k : Int) ∧ NmF w.heap.size mo k z A) ∧ W3.heap.size ≤ A.heap.size)
    (fun s A B h hs => ⟨h.1.one hs, h.2.1.stp hs, Nat.le_trans h.2.2 hs.size⟩)
    (fun c s A B h hs => ⟨h.1, h.2.1.one hs, by obtain ⟨k, z, h1, h2, h3⟩ := h.2.2.1; exact ⟨k, z, h1, h2, h3.stp hs⟩, Nat.le_trans h.2.2.2 hs.size⟩)
    (fun s A k o o' h hk hko ho => ⟨stp_putObj h.1 (by omega) hko ho, h.2.1.put (by omega), by simpa [World.putObj] using h.2.2⟩)
    (fun c s A k o o' h hk hko ho => ⟨h.1, stp_putObj h.2.1 (by omega) hko ho, by obtain ⟨k, z, h1, h2, h3⟩ := h.2.2.1; exact ⟨k, z, h1, h2, h3.put (by omega)⟩, by simpa [World.putObj] using h.2.2.2⟩)
    ⟨hsW, ⟨e0, e1, e2, e3⟩, Nat.le_refl _⟩
    (fun x => { tmps := #[.string ⟨s.toArray⟩, .int .u8 mo, undef, .pointer (some ⟨w.heap.size, 0, none⟩), .pointer (some ⟨w.heap.size + 1, 0, none⟩), .pointer (some ⟨w.heap.size + 1 + 1, 0, none⟩), .pointer (some ⟨w.heap.size + 1 + 1 + 1, 0, none⟩), .func (.func 56) #[] #[], .int .i64 x.1, undef, undef, undef, undef, .func (.func 56) #[] #[], .func (.func 56) #[] #[], .bool false, .func (.func 56) #[] #[], .int .i64 x.1, undef, undef, undef, undef, undef, undef, undef, undef, undef, undef, undef, undef, undef, undef, undef, undef, undef, undef, undef, undef, undef, undef, undef, undef, undef, undef, undef, undef, undef, undef, undef, undef, undef, undef, undef, undef, undef, undef, undef, undef, undef, undef, undef, undef, undef, undef, undef, undef, undef, undef, undef, undef, undef, undef, undef, undef, undef, undef, undef, undef, undef, undef, undef, undef, undef, undef, undef, undef, undef, undef, undef, undef, undef, undef, undef, undef, undef, undef, undef, undef, undef, undef, undef], defers := [] }) ?assign ?body ?done ?stop
  case assign =>
    intro m l' x A K hK
    simp only [encO]
    gi_wp2
    exact hK
  case body =>
    rintro m l' pre x A ⟨hS, hF, hB2⟩ hpre
    obtain ⟨hk, hop⟩ := pre_at hpre
    obtain ⟨q1, q2, q3, q4⟩ := names_at _ hk
    rw [hop] at q1 q2 q3 q4
    obtain ⟨d0, d1, d2, d3⟩ := id hF
    have n0 : A.cell? ⟨w.heap.size, 0, none⟩ = some (.int .u8 mo) := cell_of d0 _
    have n2 : A.cell? ⟨w.heap.size + 1 + 1, 0, none⟩ = some (.int .i64 pre.length) := cell_of d2 _
    have n3 : A.cell? ⟨w.heap.size + 1 + 1 + 1, 0, none⟩ = some (.int .i64 (lastV pre.length)) := cell_of d3 _
    obtain ⟨fo, hfo⟩ : ∃ fo, findOf (nameOf x.1) = (fo, true) := ⟨_, Prod.ext rfl q3⟩
    rw [hfo] at q4
    replace q4 : fo = x.1 ∨ x.1 = 28 := q4
    by_cases hge : mo ≤ (pre.length : Int)
    · gi_wp2
      exact ⟨KpA.refl _ _, rfl, hS, ⟨pre.length, _, by omega, hge, hF⟩, hB2⟩
    · have c1 := PCalls.run (s_name5 x.1) _ (st hH hS) (cargs := [.int .i64 x.1]) ⟨IRel.int _ _, trivial⟩
      gi_wp2
      refine ⟨trivial, fun h => (by cases h), (CallsIn.inRound l' (callsIn_wide.2 c1)).mono ?_⟩
      rintro e A1 ⟨v, rfl, hv, hst1⟩
      obtain rfl := hv.str
      have hS1 := hS.one hst1
      have c2 := PCalls.run (s_find5 (nameOf x.1)) _ (st hH hS1) (cargs := [.string ⟨(nameOf x.1).toArray⟩]) ⟨IRel.str _, trivial⟩
      rw [hfo] at c2
      gi_wp2
      refine ⟨trivial, fun h => (by cases h), (CallsIn.inRound l' (callsIn_wide.2 c2)).mono ?_⟩
      rintro e A2 ⟨v, rfl, hv, hst2⟩
      obtain rfl := res_pair hv
      have hS2 := hS1.one hst2
      have hF2 := (hF.stp hst1).stp hst2
      have m3 : A2.cell? ⟨w.heap.size + 1 + 1 + 1, 0, none⟩ = some (.int .i64 (lastV pre.length)) := cell_of hF2.2.2.2 _
      have c3 := PCalls.run (s_known5 x.1) _ (st hH hS2) (cargs := [.int .i64 x.1]) ⟨IRel.int _ _, trivial⟩
      rw [q2] at c3
      have hnl : ¬ x.1 ≤ lastV pre.length := by omega
      gi_wp2
      refine ⟨trivial, fun h => (by cases h), (CallsIn.inRound l' (callsIn_wide.2 c3)).mono ?_⟩
      rintro e A3 ⟨v, rfl, hv, hst3⟩
      obtain rfl := hv.bool
      have hS3 := hS2.one hst3
      have c4 := PCalls.run (s_name5 x.1) _ (st hH hS3) (cargs := [.int .i64 x.1]) ⟨IRel.int _ _, trivial⟩
      gi_wp2
      refine ⟨trivial, fun h => (by cases h), (CallsIn.inRound l' (callsIn_wide.2 c4)).mono ?_⟩
      rintro e A4 ⟨v, rfl, hv, hst4⟩
      obtain rfl := hv.str
      have hS4 := hS3.one hst4
      have hF4 := (hF2.stp hst3).stp hst4
      have hSA := ((hst1.one hst2).one hst3).one hst4
      obtain ⟨g0, g1, g2, g3⟩ := id hF4
      have u2 : A4.cell? ⟨w.heap.size + 1 + 1, 0, none⟩ = some (.int .i64 pre.length) := cell_of g2 _
      have v2 : A4.frozen? ⟨w.heap.size + 1 + 1, 0, none⟩ = false := by simp [World.frozen?, g2]
      have u3 : A4.cell? ⟨w.heap.size + 1 + 1 + 1, 0, none⟩ = some (.int .i64 (lastV pre.length)) := cell_of g3 _
      have v3 : A4.frozen? ⟨w.heap.size + 1 + 1 + 1, 0, none⟩ = false := by simp [World.frozen?, g3]
      have hne : ¬ (nameOf x.1 = []) := by
        intro e
        rw [e] at q2
        cases q2
      have hk3 : ¬ (300 < (pre.length : Int)) := by omega
      have fin : KpA (Tabs.T Tryd.prog).B W3.heap.size A ((A4.setCell ⟨w.heap.size + 1 + 1 + 1, 0, none⟩ (.int .i64 x.1)).setCell ⟨w.heap.size + 1 + 1, 0, none⟩ (.int .i64 ((pre.length : Int) + 1))) ∧ Stp No w ((A4.setCell ⟨w.heap.size + 1 + 1 + 1, 0, none⟩ (.int .i64 x.1)).setCell ⟨w.heap.size + 1 + 1, 0, none⟩ (.int .i64 ((pre.length : Int) + 1))) ∧
          NmF w.heap.size mo (pre ++ [x]).length (lastV (pre ++ [x]).length) ((A4.setCell ⟨w.heap.size + 1 + 1 + 1, 0, none⟩ (.int .i64 x.1)).setCell ⟨w.heap.size + 1 + 1, 0, none⟩ (.int .i64 ((pre.length : Int) + 1))) ∧ W3.heap.size ≤ ((A4.setCell ⟨w.heap.size + 1 + 1 + 1, 0, none⟩ (.int .i64 x.1)).setCell ⟨w.heap.size + 1 + 1, 0, none⟩ (.int .i64 ((pre.length : Int) + 1))).heap.size := by
        have lw : ∀ b, (Tabs.T Tryd.prog).B b → b < w.heap.size := fun b hb => (Tabs.T Tryd.prog).low _ hH b hb
        have hla : lastV (pre ++ [x]).length = x.1 := by
          rw [← hop]
          simp [lastV]
        refine ⟨((KpA.ofStp hSA (fun b hb => (Tabs.T Tryd.prog).low _ (st hH hS) b hb)).trans (KpA.setCell _ _ _ _ (show w.heap.size + 1 + 1 + 1 < W3.heap.size by omega) (fun b hb => Nat.lt_of_lt_of_le (lw b hb) (by simp; omega)))).trans (KpA.setCell _ _ _ _ (show w.heap.size + 1 + 1 < W3.heap.size by omega) (fun b hb => Nat.lt_of_lt_of_le (lw b hb) (by simp; omega))),
          stp_setCell (stp_setCell hS4 (by simp; omega)) (by simp; omega), ⟨?_, ?_, ?_, ?_⟩, ?_⟩
        · rw [heap_set_ne (by omega), heap_set_ne (by omega)]; exact g0
        · rw [heap_set_ne (by omega), heap_set_ne (by omega)]; exact g1
        · rw [heap_set (by rw [heap_set_ne (by omega)]; exact g2)]; simp
        · rw [heap_set_ne (by omega), heap_set g3, hla]; rfl
        · have := hSA.size; simpa [World.setCell] using Nat.le_trans hB2 this
      by_cases q5 : fo = x.1
      · gi_wp2
        exact fin
      · have q6 : x.1 = 28 := by rcases q4 with h | h; exact absurd h q5; exact h
        rw [q6] at hnl hne fin q5
        gi_wp2
        all_goals first
          | exact fin
          | exact absurd ‹(28 ≤ lastV pre.length ∨ (nameOf 28).isEmpty = true) ∨ 300 < (pre.length : Int)› (fun h => h.elim (fun h => h.elim (fun h => absurd h (by first | exact hnl | exact Int.not_le.2 hnl)) (fun h => absurd h (by decide +kernel))) (fun h => absurd h (by first | exact hk3 | exact Int.not_lt.2 hk3)))
  case done =>
    rintro D A hD ⟨hS, hF, hB2⟩ hK
    have hlE : EN.length = 125 := rfl
    rw [hlE] at hF
    obtain ⟨d0, d1, d2, d3⟩ := id hF
    have n0 : A.cell? ⟨w.heap.size, 0, none⟩ = some (.int .u8 mo) := cell_of d0 _
    have n2 : A.cell? ⟨w.heap.size + 1 + 1, 0, none⟩ = some (.int .i64 (125 : Nat)) := cell_of d2 _
    have n3 : A.cell? ⟨w.heap.size + 1 + 1 + 1, 0, none⟩ = some (.int .i64 (lastV 125)) := cell_of d3 _
    by_cases hge : mo ≤ 125
    · gi_wp2
      refine ⟨trivial, ?_⟩
      have hSX := hS
      have hFX : NmF w.heap.size mo 125 (lastV 125) A := hF
      have hKX := hK
      have c6 := PCalls.run (s_find5 s) _ (st hH hSX) (cargs := [.string ⟨s.toArray⟩]) ⟨IRel.str _, trivial⟩
      gi_wp2
      refine ⟨trivial, (callsIn_wide.2 c6).mono ?_⟩
      rintro e A6 ⟨v, rfl, hv, hst6⟩
      obtain rfl := res_pair hv
      have hS6 := hSX.one hst6
      have hF6 := hFX.stp hst6
      have hK6 := (hst6.keep _ (Array.getElem?_eq_some_iff.1 hKX).1 (fun h => h)).trans hKX
      rcases find_name s with hfs | ⟨op, hfs, hno, hnn⟩
      · rw [hfs]
        have c7 := PCalls.run s_alive5 _ (st hH hS6) (cargs := []) trivial
        gi_wp2
        refine ⟨trivial, ?_⟩
        gi_wp2
        refine ⟨trivial, ?_⟩
        gi_wp2
        refine ⟨trivial, (callsIn_wide.2 c7).mono ?_⟩
        rintro e A9 ⟨v, rfl, hv, hst9⟩
        obtain rfl := hv.bool
        have hS9 := hS6.one hst9
        have hF9 := hF6.stp hst9
        have hK9 := (hst9.keep _ (Array.getElem?_eq_some_iff.1 hK6).1 (fun h => h)).trans hK6
        have r1 : A9.cell? ⟨w.heap.size + 1, 0, none⟩ = some (.bool false) := cell_of hF9.2.1 _
        have r2 : A9.frozen? ⟨w.heap.size + 1, 0, none⟩ = false := by simp [World.frozen?, hF9.2.1]
        have hS0 := stp_setCell hS9 (a := ⟨w.heap.size + 1, 0, none⟩) (v := .bool true) (by simp)
        have hK0 : (A9.setCell ⟨w.heap.size + 1, 0, none⟩ (.bool true)).heap[D]? = some (.deferred (some [])) := by rw [heap_set_ne (by omega)]; exact hK9
        have hR0 : (A9.setCell ⟨w.heap.size + 1, 0, none⟩ (.bool true)).heap[w.heap.size + 1]? = some (.cells #[.bool true] 4) := by rw [heap_set hF9.2.1]; rfl
        gi_wp2
        refine ⟨by simp, .inl ⟨_, _, rfl, run_takeDeferred hK0, ?_⟩⟩
        have hSp := stp_putObj hS0 (by omega) hK0 rfl (o' := .deferred none)
        have hB4 : ((A9.setCell ⟨w.heap.size + 1, 0, none⟩ (.bool true)).putObj D (.deferred none)).heap[w.heap.size + 1]? = some (.cells #[.bool true] 4) := by rw [World.putObj_heap_other (by omega)]; exact hR0
        exact ⟨_, results_cell1 rfl _ _ _ rfl (Tryd.isAgg4 _) (cell_of hB4 _), _, rfl, hSp, IRel.bool _⟩
      · rw [hfs]
        have c7 := PCalls.run (s_name5 op) _ (st hH hS6) (cargs := [.int .i64 op]) ⟨IRel.int _ _, trivial⟩
        rw [hno] at c7
        gi_wp2
        refine ⟨trivial, (callsIn_wide.2 c7).mono ?_⟩
        rintro e A7 ⟨v, rfl, hv, hst7⟩
        obtain rfl := hv.str
        have hS7 := hS6.one hst7
        have hF7 := hF6.stp hst7
        have hK7 := (hst7.keep _ (Array.getElem?_eq_some_iff.1 hK6).1 (fun h => h)).trans hK6
        have c8 := PCalls.run (s_known5 op) _ (st hH hS7) (cargs := [.int .i64 op]) ⟨IRel.int _ _, trivial⟩
        rw [hnn] at c8
        gi_wp2
        refine ⟨trivial, (callsIn_wide.2 c8).mono ?_⟩
        rintro e A8 ⟨v, rfl, hv, hst8⟩
        obtain rfl := hv.bool
        have hS8 := hS7.one hst8
        have hF8 := hF7.stp hst8
        have hK8 := (hst8.keep _ (Array.getElem?_eq_some_iff.1 hK7).1 (fun h => h)).trans hK7
        have c9 := PCalls.run s_alive5 _ (st hH hS8) (cargs := []) trivial
        gi_wp2
        refine ⟨trivial, (callsIn_wide.2 c9).mono ?_⟩
        rintro e A9 ⟨v, rfl, hv, hst9⟩
        obtain rfl := hv.bool
        have hS9 := hS8.one hst9
        have hF9 := hF8.stp hst9
        have hK9 := (hst9.keep _ (Array.getElem?_eq_some_iff.1 hK8).1 (fun h => h)).trans hK8
        have r1 : A9.cell? ⟨w.heap.size + 1, 0, none⟩ = some (.bool false) := cell_of hF9.2.1 _
        have r2 : A9.frozen? ⟨w.heap.size + 1, 0, none⟩ = false := by simp [World.frozen?, hF9.2.1]
        have hS0 := stp_setCell hS9 (a := ⟨w.heap.size + 1, 0, none⟩) (v := .bool true) (by simp)
        have hK0 : (A9.setCell ⟨w.heap.size + 1, 0, none⟩ (.bool true)).heap[D]? = some (.deferred (some [])) := by rw [heap_set_ne (by omega)]; exact hK9
        have hR0 : (A9.setCell ⟨w.heap.size + 1, 0, none⟩ (.bool true)).heap[w.heap.size + 1]? = some (.cells #[.bool true] 4) := by rw [heap_set hF9.2.1]; rfl
        gi_wp2
        refine ⟨by simp, .inl ⟨_, _, rfl, run_takeDeferred hK0, ?_⟩⟩
        have hSp := stp_putObj hS0 (by omega) hK0 rfl (o' := .deferred none)
        have hB4 : ((A9.setCell ⟨w.heap.size + 1, 0, none⟩ (.bool true)).putObj D (.deferred none)).heap[w.heap.size + 1]? = some (.cells #[.bool true] 4) := by rw [World.putObj_heap_other (by omega)]; exact hR0
        exact ⟨_, results_cell1 rfl _ _ _ rfl (Tryd.isAgg4 _) (cell_of hB4 _), _, rfl, hSp, IRel.bool _⟩
    · have c5 := PCalls.run (s_known5 (lastV 125)) _ (st hH hS) (cargs := [.int .i64 (lastV 125)]) ⟨IRel.int _ _, trivial⟩
      rw [names_end] at c5
      gi_wp2
      refine ⟨trivial, (callsIn_wide.2 c5).mono ?_⟩
      rintro e A5 ⟨v, rfl, hv, hst5⟩
      obtain rfl := hv.bool
      have hSX := hS.one hst5
      have hFX := hF.stp hst5
      have hKX := (hst5.keep _ (Array.getElem?_eq_some_iff.1 hK).1 (fun h => h)).trans hK
      have c6 := PCalls.run (s_find5 s) _ (st hH hSX) (cargs := [.string ⟨s.toArray⟩]) ⟨IRel.str _, trivial⟩
      gi_wp2
      refine ⟨trivial, (callsIn_wide.2 c6).mono ?_⟩
      rintro e A6 ⟨v, rfl, hv, hst6⟩
      obtain rfl := res_pair hv
      have hS6 := hSX.one hst6
      have hF6 := hFX.stp hst6
      have hK6 := (hst6.keep _ (Array.getElem?_eq_some_iff.1 hKX).1 (fun h => h)).trans hKX
      rcases find_name s with hfs | ⟨op, hfs, hno, hnn⟩
      · rw [hfs]
        have c7 := PCalls.run s_alive5 _ (st hH hS6) (cargs := []) trivial
        gi_wp2
        refine ⟨trivial, ?_⟩
        gi_wp2
        refine ⟨trivial, ?_⟩
        gi_wp2
        refine ⟨trivial, (callsIn_wide.2 c7).mono ?_⟩
        rintro e A9 ⟨v, rfl, hv, hst9⟩
        obtain rfl := hv.bool
        have hS9 := hS6.one hst9
        have hF9 := hF6.stp hst9
        have hK9 := (hst9.keep _ (Array.getElem?_eq_some_iff.1 hK6).1 (fun h => h)).trans hK6
        have r1 : A9.cell? ⟨w.heap.size + 1, 0, none⟩ = some (.bool false) := cell_of hF9.2.1 _
        have r2 : A9.frozen? ⟨w.heap.size + 1, 0, none⟩ = false := by simp [World.frozen?, hF9.2.1]
        have hS0 := stp_setCell hS9 (a := ⟨w.heap.size + 1, 0, none⟩) (v := .bool true) (by simp)
        have hK0 : (A9.setCell ⟨w.heap.size + 1, 0, none⟩ (.bool true)).heap[D]? = some (.deferred (some [])) := by rw [heap_set_ne (by omega)]; exact hK9
        have hR0 : (A9.setCell ⟨w.heap.size + 1, 0, none⟩ (.bool true)).heap[w.heap.size + 1]? = some (.cells #[.bool true] 4) := by rw [heap_set hF9.2.1]; rfl
        gi_wp2
        refine ⟨by simp, .inl ⟨_, _, rfl, run_takeDeferred hK0, ?_⟩⟩
        have hSp := stp_putObj hS0 (by omega) hK0 rfl (o' := .deferred none)
        have hB4 : ((A9.setCell ⟨w.heap.size + 1, 0, none⟩ (.bool true)).putObj D (.deferred none)).heap[w.heap.size + 1]? = some (.cells #[.bool true] 4) := by rw [World.putObj_heap_other (by omega)]; exact hR0
        exact ⟨_, results_cell1 rfl _ _ _ rfl (Tryd.isAgg4 _) (cell_of hB4 _), _, rfl, hSp, IRel.bool _⟩
      · rw [hfs]
        have c7 := PCalls.run (s_name5 op) _ (st hH hS6) (cargs := [.int .i64 op]) ⟨IRel.int _ _, trivial⟩
        rw [hno] at c7
        gi_wp2
        refine ⟨trivial, (callsIn_wide.2 c7).mono ?_⟩
        rintro e A7 ⟨v, rfl, hv, hst7⟩
        obtain rfl := hv.str
        have hS7 := hS6.one hst7
        have hF7 := hF6.stp hst7
        have hK7 := (hst7.keep _ (Array.getElem?_eq_some_iff.1 hK6).1 (fun h => h)).trans hK6
        have c8 := PCalls.run (s_known5 op) _ (st hH hS7) (cargs := [.int .i64 op]) ⟨IRel.int _ _, trivial⟩
        rw [hnn] at c8
        gi_wp2
        refine ⟨trivial, (callsIn_wide.2 c8).mono ?_⟩
        rintro e A8 ⟨v, rfl, hv, hst8⟩
        obtain rfl := hv.bool
        have hS8 := hS7.one hst8
        have hF8 := hF7.stp hst8
        have hK8 := (hst8.keep _ (Array.getElem?_eq_some_iff.1 hK7).1 (fun h => h)).trans hK7
        have c9 := PCalls.run s_alive5 _ (st hH hS8) (cargs := []) trivial
        gi_wp2
        refine ⟨trivial, (callsIn_wide.2 c9).mono ?_⟩
        rintro e A9 ⟨v, rfl, hv, hst9⟩
        obtain rfl := hv.bool
        have hS9 := hS8.one hst9
        have hF9 := hF8.stp hst9
        have hK9 := (hst9.keep _ (Array.getElem?_eq_some_iff.1 hK8).1 (fun h => h)).trans hK8
        have r1 : A9.cell? ⟨w.heap.size + 1, 0, none⟩ = some (.bool false) := cell_of hF9.2.1 _
        have r2 : A9.frozen? ⟨w.heap.size + 1, 0, none⟩ = false := by simp [World.frozen?, hF9.2.1]
        have hS0 := stp_setCell hS9 (a := ⟨w.heap.size + 1, 0, none⟩) (v := .bool true) (by simp)
        have hK0 : (A9.setCell ⟨w.heap.size + 1, 0, none⟩ (.bool true)).heap[D]? = some (.deferred (some [])) := by rw [heap_set_ne (by omega)]; exact hK9
        have hR0 : (A9.setCell ⟨w.heap.size + 1, 0, none⟩ (.bool true)).heap[w.heap.size + 1]? = some (.cells #[.bool true] 4) := by rw [heap_set hF9.2.1]; rfl
        gi_wp2
        refine ⟨by simp, .inl ⟨_, _, rfl, run_takeDeferred hK0, ?_⟩⟩
        have hSp := stp_putObj hS0 (by omega) hK0 rfl (o' := .deferred none)
        have hB4 : ((A9.setCell ⟨w.heap.size + 1, 0, none⟩ (.bool true)).putObj D (.deferred none)).heap[w.heap.size + 1]? = some (.cells #[.bool true] 4) := by rw [World.putObj_heap_other (by omega)]; exact hR0
        exact ⟨_, results_cell1 rfl _ _ _ rfl (Tryd.isAgg4 _) (cell_of hB4 _), _, rfl, hSp, IRel.bool _⟩
  case stop =>
    rintro D c pre A hD hp ⟨rfl, hS, ⟨k, z, hk1, hk2, hF⟩, hB2⟩ hK
    obtain ⟨d0, d1, d2, d3⟩ := id hF
    have n0 : A.cell? ⟨w.heap.size, 0, none⟩ = some (.int .u8 mo) := cell_of d0 _
    have n2 : A.cell? ⟨w.heap.size + 1 + 1, 0, none⟩ = some (.int .i64 k) := cell_of d2 _
    have n3 : A.cell? ⟨w.heap.size + 1 + 1 + 1, 0, none⟩ = some (.int .i64 z) := cell_of d3 _
    have hk9 : ¬ (160 < (k : Int)) := by omega
    have hk8 : ¬ ((k : Int) < mo) := by omega
    gi_wp2
    refine ⟨trivial, ?_⟩
    have hSX := hS
    have hFX := hF
    have hKX := hK
    have c6 := PCalls.run (s_find5 s) _ (st hH hSX) (cargs := [.string ⟨s.toArray⟩]) ⟨IRel.str _, trivial⟩
    gi_wp2
    refine ⟨trivial, (callsIn_wide.2 c6).mono ?_⟩
    rintro e A6 ⟨v, rfl, hv, hst6⟩
    obtain rfl := res_pair hv
    have hS6 := hSX.one hst6
    have hF6 := hFX.stp hst6
    have hK6 := (hst6.keep _ (Array.getElem?_eq_some_iff.1 hKX).1 (fun h => h)).trans hKX
    rcases find_name s with hfs | ⟨op, hfs, hno, hnn⟩
    · rw [hfs]
      have c7 := PCalls.run s_alive5 _ (st hH hS6) (cargs := []) trivial
      gi_wp2
      refine ⟨trivial, ?_⟩
      gi_wp2
      refine ⟨trivial, ?_⟩
      gi_wp2
      refine ⟨trivial, (callsIn_wide.2 c7).mono ?_⟩
      rintro e A9 ⟨v, rfl, hv, hst9⟩
      obtain rfl := hv.bool
      have hS9 := hS6.one hst9
      have hF9 := hF6.stp hst9
      have hK9 := (hst9.keep _ (Array.getElem?_eq_some_iff.1 hK6).1 (fun h => h)).trans hK6
      have r1 : A9.cell? ⟨w.heap.size + 1, 0, none⟩ = some (.bool false) := cell_of hF9.2.1 _
      have r2 : A9.frozen? ⟨w.heap.size + 1, 0, none⟩ = false := by simp [World.frozen?, hF9.2.1]
      have hS0 := stp_setCell hS9 (a := ⟨w.heap.size + 1, 0, none⟩) (v := .bool true) (by simp)
      have hK0 : (A9.setCell ⟨w.heap.size + 1, 0, none⟩ (.bool true)).heap[D]? = some (.deferred (some [])) := by rw [heap_set_ne (by omega)]; exact hK9
      have hR0 : (A9.setCell ⟨w.heap.size + 1, 0, none⟩ (.bool true)).heap[w.heap.size + 1]? = some (.cells #[.bool true] 4) := by rw [heap_set hF9.2.1]; rfl
      gi_wp2
      refine ⟨by simp, .inl ⟨_, _, rfl, run_takeDeferred hK0, ?_⟩⟩
      have hSp := stp_putObj hS0 (by omega) hK0 rfl (o' := .deferred none)
      have hB4 : ((A9.setCell ⟨w.heap.size + 1, 0, none⟩ (.bool true)).putObj D (.deferred none)).heap[w.heap.size + 1]? = some (.cells #[.bool true] 4) := by rw [World.putObj_heap_other (by omega)]; exact hR0
      exact ⟨_, results_cell1 rfl _ _ _ rfl (Tryd.isAgg4 _) (cell_of hB4 _), _, rfl, hSp, IRel.bool _⟩
    · rw [hfs]
      have c7 := PCalls.run (s_name5 op) _ (st hH hS6) (cargs := [.int .i64 op]) ⟨IRel.int _ _, trivial⟩
      rw [hno] at c7
      gi_wp2
      refine ⟨trivial, (callsIn_wide.2 c7).mono ?_⟩
      rintro e A7 ⟨v, rfl, hv, hst7⟩
      obtain rfl := hv.str
      have hS7 := hS6.one hst7
      have hF7 := hF6.stp hst7
      have hK7 := (hst7.keep _ (Array.getElem?_eq_some_iff.1 hK6).1 (fun h => h)).trans hK6
      have c8 := PCalls.run (s_known5 op) _ (st hH hS7) (cargs := [.int .i64 op]) ⟨IRel.int _ _, trivial⟩
      rw [hnn] at c8
      gi_wp2
      refine ⟨trivial, (callsIn_wide.2 c8).mono ?_⟩
      rintro e A8 ⟨v, rfl, hv, hst8⟩
      obtain rfl := hv.bool
      have hS8 := hS7.one hst8
      have hF8 := hF7.stp hst8
      have hK8 := (hst8.keep _ (Array.getElem?_eq_some_iff.1 hK7).1 (fun h => h)).trans hK7
      have c9 := PCalls.run s_alive5 _ (st hH hS8) (cargs := []) trivial
      gi_wp2
      refine ⟨trivial, (callsIn_wide.2 c9).mono ?_⟩
      rintro e A9 ⟨v, rfl, hv, hst9⟩
      obtain rfl := hv.bool
      have hS9 := hS8.one hst9
      have hF9 := hF8.stp hst9
      have hK9 := (hst9.keep _ (Array.getElem?_eq_some_iff.1 hK8).1 (fun h => h)).trans hK8
      have r1 : A9.cell? ⟨w.heap.size + 1, 0, none⟩ = some (.bool false) := cell_of hF9.2.1 _
      have r2 : A9.frozen? ⟨w.heap.size + 1, 0, none⟩ = false := by simp [World.frozen?, hF9.2.1]
      have hS0 := stp_setCell hS9 (a := ⟨w.heap.size + 1, 0, none⟩) (v := .bool true) (by simp)
      have hK0 : (A9.setCell ⟨w.heap.size + 1, 0, none⟩ (.bool true)).heap[D]? = some (.deferred (some [])) := by rw [heap_set_ne (by omega)]; exact hK9
      have hR0 : (A9.setCell ⟨w.heap.size + 1, 0, none⟩ (.bool true)).heap[w.heap.size + 1]? = some (.cells #[.bool true] 4) := by rw [heap_set hF9.2.1]; rfl
      gi_wp2
      refine ⟨by simp, .inl ⟨_, _, rfl, run_takeDeferred hK0, ?_⟩⟩
      have hSp := stp_putObj hS0 (by omega) hK0 rfl (o' := .deferred none)
      have hB4 : ((A9.setCell ⟨w.heap.size + 1, 0, none⟩ (.bool true)).putObj D (.deferred none)).heap[w.heap.size + 1]? = some (.cells #[.bool true] 4) := by rw [World.putObj_heap_other (by omega)]; exact hR0
      exact ⟨_, results_cell1 rfl _ _ _ rfl (Tryd.isAgg4 _) (cell_of hB4 _), _, rfl, hSp, IRel.bool _⟩
end Go.Proofs.YtnhnghpnejobfaaDoor
