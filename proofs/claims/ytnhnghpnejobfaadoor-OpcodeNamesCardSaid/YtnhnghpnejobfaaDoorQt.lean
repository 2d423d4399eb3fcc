/-
  Chapter 5: the iterators, once more: All ranges over named.
-/
import Derived.Test.YtnhnghpnejobfaaDoorQd
import Derived.Test.YtnhnghpnejobfaaDoorQs
set_option linter.unusedVariables false
set_option linter.unusedSimpArgs false
set_option linter.unusedSectionVars false
set_option maxRecDepth 100000
set_option maxHeartbeats 4000000
set_option linter.unusedVariables false
set_option linter.unusedSimpArgs false
namespace Go.Proofs.YtnhnghpnejobfaaDoor
open Go Go.Mw Go.RowKit Go.Shelf
attribute [local go_sem] Oper.semAt_some

theorem named1N (n : Nat) (w : World) : SeqN n Tryd.prog 61 #[] encE EN w := by
  intro l J Jx W hH hW hJ hJx hJp hJxp hY h0
  refine callsIn_of_wp Tryd.func61 rfl trivial ?_ rfl
  have hE : preK 24 = EN := by rw [EN_HR]; exact preK_all
  have cr := PCalls.run s_rows5 W hH (cargs := []) trivial
  simp only [Tryd.ntmps61, List.size_toArray, List.length_cons, List.length_nil, Nat.reduceAdd, Nat.reduceSub, Array.replicate_succ, Array.replicate_zero, List.push_toArray, List.append_toArray, List.nil_append, List.cons_append]
  gi_wp2
  refine ⟨trivial, fun h => (by cases h), (callsIn_wide.2 cr).mono ?_⟩
  rintro e W1 ⟨v, rfl, hv, hst⟩
  obtain ⟨b, off, cap, rfl, hnb, c, t, fr, hb, hc⟩ := rows_cells hv
  gi_wp2
  gi_loopw [8] (fun i wr => ∃ k : Nat, k ≤ 24 ∧ i = .int .i64 k ∧ J (preK k) wr ∧ W.heap.size ≤ wr.heap.size ∧ wr.heap[b]? = some (.cells c t fr) ∧ (Tabs.T Tryd.prog).H wr) (fun i _ => 24 - (intOf i).toNat)
  case atStart => exact ⟨0, by omega, rfl, hJ _ _ _ h0 hst, hst.size, hb, (Tabs.T Tryd.prog).stay _ _ hH fun q hq => hst.keep q ((Tabs.T Tryd.prog).low _ hH q hq) (fun h => h)⟩
  case round =>
    obtain ⟨k, hk, rfl, hJk, hsz, hbk, hHk⟩ := hrel
    rename World => wo
    by_cases hlt : k < 24
    · have c0 : wo.cell? ⟨b, off + k * 3, none⟩ = some (.int .i64 (nth HR k).f) := (cell_of hbk _).trans (hc k hlt).1
      have c1 : wo.cell? ⟨b, off + k * 3 + 1, none⟩ = some (.string ⟨(nth HR k).h.toArray⟩) := (cell_of hbk _).trans (hc k hlt).2.1
      have c2 : wo.cell? ⟨b, off + k * 3 + 2, none⟩ = some (.string ⟨(nth HR k).t.toArray⟩) := (cell_of hbk _).trans (hc k hlt).2.2
      have hsA := Stp.ofAlloc wo (.cells #[.int .i64 (nth HR k).f, .string ⟨(nth HR k).h.toArray⟩, .string ⟨(nth HR k).t.toArray⟩] 80)
      have hHA := (Tabs.T Tryd.prog).stay _ _ hHk fun q hq => hsA.keep q ((Tabs.T Tryd.prog).low _ hHk q hq) (fun h => h)
      obtain ⟨hl, ha⟩ := HR_ok k hlt
      obtain ⟨hh, hf0, hf1, hfl, hfs⟩ := HR_ok2 k hlt
      have cf := fields_run (nth HR k).t hl ha _ hHA
      generalize hF : Lib.fields (nth HR k).t = fl at cf hfl hfs
      gi_wp2
      refine ⟨trivial, fun h => (by cases h), (callsIn_wide.2 cf).mono ?_⟩
      rintro e W2 ⟨rfl, rfl⟩
      gi_wp2
      gi_loopw [16] (fun i wr2 => ∃ j : Nat, j ≤ fl.length ∧ i = .int .i64 j ∧ J (preK k ++ (exR (nth HR k).f (nth HR k).h 0 fl).take j) wr2 ∧ W.heap.size ≤ wr2.heap.size ∧ wr2.heap[b]? = some (.cells c t fr) ∧
          wr2.heap[wo.heap.size]? = some (.cells #[.int .i64 (nth HR k).f, .string ⟨(nth HR k).h.toArray⟩, .string ⟨(nth HR k).t.toArray⟩] 80) ∧ wr2.heap[wo.heap.size + 1]? = some (.cells (fl.map fun l => Value.string ⟨l.toArray⟩).toArray 9) ∧ (Tabs.T Tryd.prog).H wr2) (fun i _ => fl.length - (intOf i).toNat)
      case atStart =>
        have hsF := hsA.one (Stp.ofAlloc _ (.cells (fl.map fun l => Value.string ⟨l.toArray⟩).toArray 9))
        refine ⟨0, Nat.zero_le _, rfl, ?_, by simp; omega, ?_, ?_, ?_, ?_⟩
        · rw [List.take_zero, List.append_nil]; exact hJ _ _ _ hJk hsF
        · rw [hsF.keep b (lt_of_heap hbk) (fun h => h)]; exact hbk
        · exact (Below.heap_alloc _ _ _ (by simp)).trans (World.alloc_heap_new _ _)
        · have := World.alloc_heap_new (wo.alloc (.cells #[.int .i64 (nth HR k).f, .string ⟨(nth HR k).h.toArray⟩, .string ⟨(nth HR k).t.toArray⟩] 80)) (.cells (fl.map fun l => Value.string ⟨l.toArray⟩).toArray 9)
          rwa [World.size_alloc] at this
        · exact (Tabs.T Tryd.prog).stay _ _ hHk fun q hq => hsF.keep q ((Tabs.T Tryd.prog).low _ hHk q hq) (fun h => h)
      case round =>
        obtain ⟨j, hj, rfl, hJj, hsz2, hb2, hx2, hs2, hH2⟩ := hrel
        by_cases hlt2 : j < fl.length
        · have d0 : wr.cell? ⟨wo.heap.size, 0, none⟩ = some (.int .i64 (nth HR k).f) := cell_of hx2 _
          have d1 : wr.cell? ⟨wo.heap.size, 1, none⟩ = some (.string ⟨(nth HR k).h.toArray⟩) := cell_of hx2 _
          have d3 : wr.cell? ⟨wo.heap.size + 1, j, none⟩ = some (.string ⟨(nth fl j).toArray⟩) := (cell_of hs2 _).trans (by rw [List.getElem?_toArray, List.getElem?_map, nth_some hlt2]; rfl)
          have hss := hfs (nth fl j) (by rw [nth_eq hlt2]; exact List.getElem_mem _)
          have hcat : ¬ 9223372036854775807 < (nth HR k).h.length + (nth fl j).length := by omega
          have hpre : (preK k ++ (exR (nth HR k).f (nth HR k).h 0 fl).take j) ++ [((nth HR k).f + (j : Int), (nth HR k).h ++ nth fl j)] <+: EN := by
            rw [List.append_assoc, ← exR_take hlt2, ← hE, ← hF]
            refine List.IsPrefix.trans ?_ (preK_pre (show k + 1 ≤ 24 by omega))
            rw [preK_step hlt]
            exact (List.prefix_append_right_inj _).2 (List.take_prefix _ _)
          obtain ⟨fn, tmps, assign, body, hy, hR⟩ := hY _ _ _ wr hJj hpre
          have hw : wrap64 ((nth HR k).f + (j : Int)) = (nth HR k).f + (j : Int) := IntWalk.wrap64_in _ (by omega)
          have hc2 : (ByteArray.mk (nth HR k).h.toArray ++ ByteArray.mk (nth fl j).toArray) = ByteArray.mk ((nth HR k).h ++ nth fl j).toArray := by apply ByteArray.ext; simp
          have hy2 : (Instr.yield l #[.int .i64 ((nth HR k).f + (j : Int)), .string (ByteArray.mk ((nth HR k).h ++ nth fl j).toArray)]).run Tryd.prog wr = .ok (.round l fn tmps assign body) wr := hy
          gi_wp2
          refine ⟨fun h => (by cases h), hR.mono ?_⟩
          rintro e W3 (⟨rfl, hJ3, hk3⟩ | ⟨rfl, hJx3, hk3⟩)
          · gi_wp2
            go_roundw
            case rel =>
              refine ⟨j + 1, by omega, by simp, ?_, Nat.le_trans hsz2 hk3.1, ?_, hk3.2.1 _ _ hsz hx2, hk3.2.1 _ _ (by omega) hs2, (Tabs.T Tryd.prog).stay _ _ hH2 fun q hq => hk3.2.2 q hq⟩
              · rw [exR_take hlt2, ← List.append_assoc]; exact hJ3
              · by_cases hbw : W.heap.size ≤ b
                · exact hk3.2.1 _ _ hbw hb2
                · rw [hk3.2.2 b (Classical.byContradiction fun hn => hnb ⟨by omega, hn⟩)]; exact hb2
            case measure => simp [intOf]; omega
          · gi_wp2
            refine bodyPost_ret (results_none rfl _ _ _) rfl ?_
            exact ⟨⟨_, rfl⟩, .inr ⟨_, hpre, hJx3⟩⟩
        · obtain rfl : j = fl.length := by omega
          gi_wp2
          refine ⟨⟨k + 1, by omega, by simp, ?_, hsz2, hb2, hH2⟩, by simp [intOf]; omega⟩
          rw [preK_step hlt, hF]
          rw [List.take_of_length_le (by rw [exR_len]; exact Nat.le_refl _)] at hJj
          exact hJj
    · obtain rfl : k = 24 := by omega
      gi_wp2
      go_end0
      exact ⟨⟨_, rfl⟩, .inl (hE ▸ hJk)⟩
def encO (x : Int × List UInt8) : Array Value := #[.int .i64 x.1]
theorem all1 (n : Nat) (w : World) : SeqN n Tryd.prog 56 #[] encO EN w := by
  intro l J Jx W hH hW hJ hJx hJp hJxp hY h0
  refine callsIn_of_wp_marks Tryd.func56 rfl trivial ?_ rfl
  have hs1 := Stp.ofAlloc W (.cells #[.func (.yield l) #[] #[]] 31)
  have hH1 := (Tabs.T Tryd.prog).stay _ _ hH fun q hq => hs1.keep q ((Tabs.T Tryd.prog).low _ hH q hq) (fun h => h)
  have cn := PCalls.run s_named5 _ hH1 (cargs := []) trivial
  simp only [Tryd.ntmps56, List.size_toArray, List.length_cons, List.length_nil, Nat.reduceAdd, Nat.reduceSub, Array.replicate_succ, Array.replicate_zero, List.push_toArray, List.append_toArray, List.nil_append, List.cons_append]
  gi_wp2
  refine ⟨trivial, fun h => (by cases h), (callsIn_wide.2 cn).mono ?_⟩
  rintro e W1 ⟨v, rfl, hv, hst⟩
  obtain rfl := fn_val hv
  have hsW := hs1.one hst
  have hHW := (Tabs.T Tryd.prog).stay _ _ hH fun q hq => hsW.keep q ((Tabs.T Tryd.prog).low _ hH q hq) (fun h => h)
  have hb0 : W1.heap[W.heap.size]? = some (.cells #[.func (.yield l) #[] #[]] 31) := by
    rw [hst.keep _ (by simp) (fun h => h)]; exact World.alloc_heap_new _ _
  have hz : W.heap.size + 1 ≤ W1.heap.size := by have := hst.size; simpa using this
  clear cn hst hs1 hH1 hv
  gi_wp2
  have lo : ∀ {k : Nat}, W1.heap.size ≤ k → W.heap.size ≤ k := fun h => by omega
  refine wpIn_rngN (α := Int × List UInt8) (encs := encE) (E := EN) hHW (gf := 61) (lb := #[]) rfl (enters_of Tryd.func61 (by kernel_rfl) rfl) (named1N _ W1) (Stp.refl _ _) (fun _ => rfl)
    (fun pre A => J pre A ∧ A.heap[W.heap.size]? = some (.cells #[.func (.yield l) #[] #[]] 31))
    (fun c pre A => c = .ret ∧ Jx pre A)
    (fun s A B h hs => ⟨hJ _ _ _ h.1 hs, (hs.keep _ (lt_of_heap h.2) (fun h => h)).trans h.2⟩)
    (fun c s A B h hs => ⟨h.1, hJx _ _ _ h.2 hs⟩)
    (fun s A k o o' h hk hko ho => ⟨hJp _ _ _ _ _ h.1 (lo hk) hko ho, by rw [World.putObj_heap_other (by omega)]; exact h.2⟩)
    (fun c s A k o o' h hk hko ho => ⟨h.1, hJxp _ _ _ _ _ h.2 (lo hk) hko ho⟩)
    ⟨hJ _ _ _ h0 hsW, hb0⟩
    (fun x => { tmps := #[.func (.yield l) #[] #[], .pointer (some ⟨W.heap.size, 0, none⟩), .int .i64 x.1, .func (.func 61) #[] #[], .int .i64 x.1, .string ⟨x.2.toArray⟩, undef, undef, undef, undef], defers := [] }) ?assign ?body ?done ?stop
  case assign =>
    intro m l' x A K hK
    simp only [encE]
    gi_wp2
    exact hK
  case body =>
    rintro m l' pre x A ⟨hJA, hBA⟩ hpre
    have c0 : A.cell? ⟨W.heap.size, 0, none⟩ = some (.func (.yield l) #[] #[]) := cell_of hBA _
    obtain ⟨fn, tmps, assign, body, hy, hR⟩ := hY (m - 1) _ _ A hJA hpre
    have hy2 : (Instr.yield l #[.int .i64 x.1]).run Tryd.prog A = .ok (.round l fn tmps assign body) A := hy
    have hR2 : RoundIn (Fence.wide.inRound l') (m - 1) Tryd.prog l fn tmps assign body A _ := hR
    gi_wp2
    refine ⟨fun h => (by cases h), hR2.mono ?_⟩
    rintro e A3 (⟨rfl, hJ3, hk3⟩ | ⟨rfl, hJ3, hk3⟩)
    · gi_wp2
      exact ⟨hk3.mono (by omega), hJ3, hk3.2.1 _ _ (Nat.le_refl _) hBA⟩
    · gi_wp2
      exact ⟨hk3.mono (by omega), rfl, hJ3⟩
  case done =>
    rintro D A hD ⟨hJA, hBA⟩ hK
    gi_wp2
    refine ⟨by simp, .inl ⟨_, _, rfl, run_takeDeferred hK, ?_⟩⟩
    exact ⟨_, results_none rfl _ _ _, ⟨_, rfl⟩, .inl (hJp _ _ _ _ _ hJA (by omega) hK rfl)⟩
  case stop =>
    rintro D c pre A hD hp ⟨rfl, hJA⟩ hK
    gi_wp2
    refine ⟨by simp, .inl ⟨_, _, rfl, run_takeDeferred hK, ?_⟩⟩
    exact ⟨_, results_none rfl _ _ _, ⟨_, rfl⟩, .inr ⟨_, hp, hJxp _ _ _ _ _ hJA (by omega) hK rfl⟩⟩
end Go.Proofs.YtnhnghpnejobfaaDoor
