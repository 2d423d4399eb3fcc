/-
  Chapter 11, walks: the law BincodeEnds.
-/
import Derived.Test.YtdhiiannngjjpaaDoorQv
import Derived.Test.YtdhiiannngjjpaaDoorQt
set_option linter.unusedVariables false
set_option linter.unusedSimpArgs false
set_option linter.unusedSectionVars false
set_option maxRecDepth 100000
set_option maxHeartbeats 40000000
set_option linter.unusedVariables false
set_option linter.unusedSimpArgs false
namespace Go.Proofs.YtdhiiannngjjpaaDoor
open Go Go.Mw
-- @U: ro, wo, wa, wx, rx, ins_e, vl_e, insC, slv_none, slv_some, exs

def dep (d : Nat) (l : List Ins) : Nat := l.foldl (fun d x => deepA x.op d) d
theorem gE_dep (f : Nat) : ∀ {d : Nat} {b : List UInt8} {a : Nat} {m : Int} {l : List Ins} {k : Nat}, 1 ≤ d → gE f d b a m = .ok (l, k) → dep d l = 0 ∧ ∀ i, i < l.length → 1 ≤ dep d (l.take i) := by
  induction f with
  | zero => intro d b a m l k hd h; cases h
  | succ f ih =>
    intro d b a m l k hd h
    unfold gE at h
    split at h
    · cases h
    split at h
    · cases h
    rename_i x k1 h1
    split at h
    · rename_i hx
      cases h
      refine ⟨?_, fun i hi => ?_⟩
      · show deepA x.op d = 0
        unfold deepA
        rw [if_neg (by omega), if_pos hx.1, hx.2]
      · obtain rfl : i = 0 := by simpa using hi
        exact hd
    · rename_i hx
      split at h
      · rename_i l2 k2 h2
        have hd2 : 1 ≤ deepA x.op d := by
          unfold deepA
          split
          · omega
          · split
            · omega
            · omega
        have g := ih hd2 h2
        cases h
        refine ⟨g.1, fun i hi => ?_⟩
        cases i with
        | zero => exact hd
        | succ i => exact g.2 i (by simpa using hi)
      · cases h
theorem gE_less (f : Nat) : ∀ {d : Nat} {b : List UInt8} {a : Nat} {m m' : Int} {l : List Ins} {k : Nat}, gE f d b a m = .ok (l, k) → m' < l.length → ∃ p, gE f d b a m' = .error (6, p) := by
  induction f with
  | zero => intro d b a m m' l k h _; cases h
  | succ f ih =>
    intro d b a m m' l k h hm
    unfold gE at h ⊢
    by_cases h0 : m' ≤ 0
    · exact ⟨a, if_pos h0⟩
    rw [if_neg h0]
    split at h
    · cases h
    split at h
    · cases h
    rename_i x k1 h1
    split at h
    · cases h
      simp at hm
      omega
    · rename_i hx
      rw [if_neg hx]
      split at h
      · rename_i l2 k2 h2
        cases h
        simp only [List.length_cons] at hm
        obtain ⟨p, hp⟩ := ih (m' := m' - 1) h2 (by omega)
        exact ⟨p, by rw [hp]⟩
      · cases h
theorem gE_err (f d : Nat) : ∀ {b : List UInt8} {a : Nat} {m : Int} {e : Int × Nat}, gE f d b a m = .error e → e.1 ≠ 0 := by
  induction f generalizing d with
  | zero => intro b a m e h; cases h; simp
  | succ f ih =>
    intro b a m e h
    unfold gE at h
    split at h
    · cases h; simp
    split at h
    · rename_i h1
      cases h
      exact gI_err h1
    split at h
    · cases h
    · split at h
      · cases h
      · rename_i h2
        cases h
        exact ih _ h2
theorem gE_len (f d : Nat) : ∀ {b : List UInt8} {a : Nat} {m : Int} {l : List Ins} {k : Nat}, a ≤ b.length → gE f d b a m = .ok (l, k) → a + l.length ≤ k ∧ k ≤ b.length ∧ 1 ≤ l.length := by
  induction f generalizing d with
  | zero => intro b a m l k ha h; cases h
  | succ f ih =>
    intro b a m l k ha h
    unfold gE at h
    split at h
    · cases h
    split at h
    · cases h
    rename_i x k1 h1
    have g := gI_adv h1
    split at h
    · cases h
      simp only [List.length_singleton]
      omega
    · split at h
      · rename_i l2 k2 h2
        have := ih _ g.2 h2
        cases h
        simp only [List.length_cons]
        omega
      · cases h
theorem dep_next {l : List Ins} {i : Nat} (h : i < l.length) : dep 1 (l.take (i + 1)) = deepA (nth l i).op (dep 1 (l.take i)) := by
  unfold dep
  rw [List.take_succ_eq_append_getElem h, List.foldl_append, nth_eq h]
  rfl
theorem dep_le (l : List Ins) : ∀ d, dep d l ≤ d + l.length := by
  induction l with
  | nil => intro d; exact Nat.le_refl _
  | cons x l ih =>
    intro d
    have h := ih (deepA x.op d)
    have h2 : deepA x.op d ≤ d + 1 := by
      unfold deepA
      repeat' split
      all_goals omega
    show dep (deepA x.op d) l ≤ _
    rw [List.length_cons]
    omega
theorem w_ends11 (L : List Ins) (M : List UInt8) (hi : inL L) : PCalls Tryd.prog n_law11_BincodeEnds [.sl 9 (L.map insC), .sl 1 (M.map by_)] (.bool true) := by
  refine pfun_sound (ic := F_law11_BincodeEnds.body) mixed c_law11_BincodeEnds rfl rfl ?_
  simp only [go_sem, ro, wo, wa, wx, rx, ins_e, vl_e, insC, exs, F_law11_BincodeEnds]
  refine call_same (s_few11 L) (by simp [go_sem, ro, wo, wa, wx, rx, ins_e, vl_e, insC, exs]) ?_
  cases hf : fewB L
  · simp only [go_sem, ro, wo, wa, wx, rx, ins_e, vl_e, insC, exs]
    refine call_same (s_alive11) (by simp [go_sem, ro, wo, wa, wx, rx, ins_e, vl_e, insC, exs]) ?_
    simp only [go_sem, ro, wo, wa, wx, rx, ins_e, vl_e, insC, exs]
    exact pdone [] (by simp only [go_sem, ro, wo, wa, wx, rx, ins_e, vl_e, insC, exs]) (by first | rfl | simp [go_sem, slv_ids, ro, wo, wa, wx, rx, ins_e, vl_e, insC, exs])
  obtain ⟨h60, ho⟩ := fewB_ok (fun x hx => (hi x hx).2.2) hf
  by_cases hM : (M.length : Int) > 100
  · simp only [go_sem, ro, wo, wa, wx, rx, ins_e, vl_e, insC, exs, decide_eq_true hM]
    refine call_same (s_alive11) (by simp [go_sem, ro, wo, wa, wx, rx, ins_e, vl_e, insC, exs]) ?_
    simp only [go_sem, ro, wo, wa, wx, rx, ins_e, vl_e, insC, exs]
    exact pdone [] (by simp only [go_sem, ro, wo, wa, wx, rx, ins_e, vl_e, insC, exs]) (by first | rfl | simp [go_sem, slv_ids, ro, wo, wa, wx, rx, ins_e, vl_e, insC, exs])
  have hp := s_putall (l := []) (e := 0) (by simp) L h60 ho hi
  have hln := pPuts_len ho [] 0 L.length
  rw [List.take_length, List.length_nil] at hln
  generalize pPuts L [] 0 = P at *
  obtain ⟨p, e⟩ := P
  simp only at hln hp
  have hw := s_wbytes true p M e ⟨by omega, by omega⟩
  have hwl := wB_len (ok := true && e == 0) (l := p) (x := M)
  have hd := s_wdone true (wB (true && e == 0) p M) e (by omega)
  simp only [go_sem, ro, wo, wa, wx, rx, ins_e, vl_e, insC, exs, decide_eq_false hM]
  refine call_wnew 904 905 (by decide) (by decide) (by decide) (by simp only [go_sem, ro, wo, wa, wx, rx, ins_e, vl_e, insC, exs]) (by simp only [go_sem, ro, wo, wa, wx, rx, ins_e, vl_e, insC, exs]) ?_
  simp only [go_sem, ro, wo, wa, wx, rx, ins_e, vl_e, insC, exs]
  refine call_w [] (k := 904) (j := 905) (hp) (by decide) (by decide) (by decide) (by decide) (by first | rfl | simp [go_sem, slv_ids, ro, wo, wa, wx, rx, ins_e, vl_e, insC, exs]) (by simp [go_sem, ro, wo, wa, wx, rx, ins_e, vl_e, insC, exs]) (by rfl) (by rfl) (by rfl) ?_
  simp only [go_sem, ro, wo, wa, wx, rx, ins_e, vl_e, insC, exs]
  refine call_w [] (k := 904) (j := 905) (hw) (by decide) (by decide) (by decide) (by decide) (by first | rfl | simp [go_sem, slv_ids, ro, wo, wa, wx, rx, ins_e, vl_e, insC, exs]) (by simp [go_sem, ro, wo, wa, wx, rx, ins_e, vl_e, insC, exs]) (by rfl) (by rfl) (by rfl) ?_
  simp only [go_sem, ro, wo, wa, wx, rx, ins_e, vl_e, insC, exs]
  by_cases he : e = 0
  rotate_left
  · rw [show wD true (wB (true && e == 0) p M) e = (none, e) by simp [wD, he]] at hd
    refine call_w [] (k := 904) (j := 905) (hd) (by decide) (by decide) (by decide) (by decide) (by first | rfl | simp [go_sem, slv_ids, ro, wo, wa, wx, rx, ins_e, vl_e, insC, exs]) (by simp [go_sem, ro, wo, wa, wx, rx, ins_e, vl_e, insC, exs]) (by rfl) (by rfl) (by rfl) ?_
    simp only [go_sem, ro, wo, wa, wx, rx, ins_e, vl_e, insC, exs, bne_t he]
    refine call_same (s_alive11) (by simp [go_sem, ro, wo, wa, wx, rx, ins_e, vl_e, insC, exs]) ?_
    simp only [go_sem, ro, wo, wa, wx, rx, ins_e, vl_e, insC, exs]
    exact pdone [] (by simp only [go_sem, ro, wo, wa, wx, rx, ins_e, vl_e, insC, exs]) (by first | rfl | simp [go_sem, slv_ids, ro, wo, wa, wx, rx, ins_e, vl_e, insC, exs])
  subst he
  rw [show wB (true && (0 : Int) == 0) p M = p ++ M from rfl] at hd hwl
  rw [show wB ((0 : Int) == 0) p M = p ++ M from rfl]
  rw [show wD true (p ++ M) 0 = (some (p ++ M), 0) from rfl] at hd
  generalize p ++ M = b at *
  have hb : b.length < 1000000000 := by omega
  refine call_w [] (k := 904) (j := 905) (hd) (by decide) (by decide) (by decide) (by decide) (by first | rfl | simp [go_sem, slv_ids, ro, wo, wa, wx, rx, ins_e, vl_e, insC, exs]) (by simp [go_sem, ro, wo, wa, wx, rx, ins_e, vl_e, insC, exs]) (by rfl) (by rfl) (by rfl) ?_
  simp only [go_sem, ro, wo, wa, wx, rx, ins_e, vl_e, insC, exs]
  refine call_nrec (s_read b hb) rfl (by simp [go_sem]) 901 (by decide) (by simp only [go_sem, ro, wo, wa, wx, rx, ins_e, vl_e, insC, exs]) ?_
  have hg := (s_getexpr (b := b) (a := 0) (Nat.zero_le _) hb 500 (by unfold inI; omega)).det
  cases hE : gE (b.length + 1) 1 b 0 500 with
  | error q =>
    obtain ⟨e2, a2⟩ := q
    have h2 : e2 ≠ 0 := gE_err _ _ hE
    rw [hE] at hg
    simp only [rq, exs, List.map_nil] at hg
    simp only [go_sem, ro, wo, wa, wx, rx, ins_e, vl_e, insC, exs]
    refine call_m (hg) ⟨by decide, by decide⟩ (by first | rfl | exact slv_ids _) (by simp [go_sem, ro, wo, wa, wx, rx, ins_e, vl_e, insC, exs]) rfl rfl (by rfl) ?_
    simp only [go_sem, ro, wo, wa, wx, rx, ins_e, vl_e, insC, exs]
    refine call_m (s_err true b a2 e2) ⟨by decide, by decide⟩ (by first | rfl | exact slv_ids _) (by simp [go_sem, ro, wo, wa, wx, rx, ins_e, vl_e, insC, exs]) rfl rfl (by rfl) ?_
    simp only [go_sem, ro, wo, wa, wx, rx, ins_e, vl_e, insC, exs, bne_t h2, show (((0 : Nat) : Int) == 0) = true from rfl]
    refine call_same (s_alive11) (by simp [go_sem, ro, wo, wa, wx, rx, ins_e, vl_e, insC, exs]) ?_
    simp only [go_sem, ro, wo, wa, wx, rx, ins_e, vl_e, insC, exs]
    exact pdone [] (by simp only [go_sem, ro, wo, wa, wx, rx, ins_e, vl_e, insC, exs]) (by first | rfl | simp [go_sem, slv_ids, ro, wo, wa, wx, rx, ins_e, vl_e, insC, exs])
  | ok q =>
    obtain ⟨l, a2⟩ := q
    obtain ⟨d1, d2⟩ := gE_dep _ (Nat.le_refl 1) hE
    obtain ⟨d3, d4, d5⟩ := gE_len _ _ (Nat.zero_le _) hE
    have w1 : IntKind.i64.wrap ((l.length : Int) - 1) = (l.length : Int) - 1 := wi (by omega) (by omega)
    obtain ⟨k6, h6⟩ := gE_less _ (m' := (l.length : Int) - 1) hE (by omega)
    have hg2 := (s_getexpr (b := b) (a := 0) (Nat.zero_le _) hb ((l.length : Int) - 1) (by unfold inI; omega)).det
    rw [hE] at hg
    rw [h6] at hg2
    simp only [rq, exs, List.map_nil] at hg hg2
    simp only [go_sem, ro, wo, wa, wx, rx, ins_e, vl_e, insC, exs]
    refine call_m (hg) ⟨by decide, by decide⟩ (by first | rfl | exact slv_ids _) (by simp [go_sem, ro, wo, wa, wx, rx, ins_e, vl_e, insC, exs]) rfl rfl (by rfl) ?_
    simp only [go_sem, ro, wo, wa, wx, rx, ins_e, vl_e, insC, exs]
    refine call_m (s_err true b a2 0) ⟨by decide, by decide⟩ (by first | rfl | exact slv_ids _) (by simp [go_sem, ro, wo, wa, wx, rx, ins_e, vl_e, insC, exs]) rfl rfl (by rfl) ?_
    simp only [go_sem, ro, wo, wa, wx, rx, ins_e, vl_e, insC, exs]
    refine loop_rule (fun i : Nat => ⟨[(11, .int .i64 i), (10, .int .i64 (dep 1 (l.take i))), (9, .sl 9 (l.map insC)), (6, .sl 1 (b.map by_))], []⟩) (fun i => i ≤ l.length) (fun i => l.length - i) 0 (Nat.zero_le _) (Wk.of ?_ ?_) ?_
    · simp only [go_sem, ro, wo, wa, wx, rx, ins_e, vl_e, insC, exs, List.take_zero, dep, List.foldl_nil]; try simp
    · simp only [go_sem, ro, wo, wa, wx, rx, ins_e, vl_e, insC, exs]
    intro i hi2
    by_cases h1 : (i : Int) < (l.length : Int)
    · have hi' : i < l.length := by omega
      have e8 := wi (n := (i : Int) + 1) (by omega) (by omega)
      have hd1 := d2 i hi'
      have hdn := dep_next hi'
      have hdl := dep_le (l.take i) 1
      rw [List.length_take] at hdl
      generalize dep 1 (l.take i) = d at *
      have hz : decide ((d : Int) < 1) = false := decide_eq_false (by omega)
      have hw1 : IntKind.i64.wrap ((d : Int) + 1) = ((d + 1 : Nat) : Int) := by rw [wi (by omega) (by omega)]; omega
      have hw2 : IntKind.i64.wrap ((d : Int) - 1) = ((d - 1 : Nat) : Int) := by rw [wi (by omega) (by omega)]; omega
      unfold deepA at hdn
      rcases op_cases (nth l i).op with h2 | ⟨h2, h3 | ⟨h3, h4 | ⟨h4, h5 | h5⟩⟩⟩
      · rw [if_pos (.inl (eq_of_beq h2))] at hdn
        simp only [go_sem, ro, wo, wa, wx, rx, ins_e, vl_e, insC, exs, decide_eq_true h1, hz, h2, hw1]
        refine ⟨by omega, h1, klp_n (i + 1) (show i + 1 ≤ l.length by omega) (show l.length - (i + 1) < l.length - i by omega) (Wk.of ?_ ?_)⟩
        · simp only [go_sem, ro, wo, wa, wx, rx, ins_e, vl_e, insC, exs, e8]; try simp [hdn]
        · simp only [go_sem, ro, wo, wa, wx, rx, ins_e, vl_e, insC, exs]
      · rw [if_pos (.inr (.inl (eq_of_beq h3)))] at hdn
        simp only [go_sem, ro, wo, wa, wx, rx, ins_e, vl_e, insC, exs, decide_eq_true h1, hz, h2, h3, hw1]
        refine ⟨by omega, h1, klp_n (i + 1) (show i + 1 ≤ l.length by omega) (show l.length - (i + 1) < l.length - i by omega) (Wk.of ?_ ?_)⟩
        · simp only [go_sem, ro, wo, wa, wx, rx, ins_e, vl_e, insC, exs, e8]; try simp [hdn]
        · simp only [go_sem, ro, wo, wa, wx, rx, ins_e, vl_e, insC, exs]
      · rw [if_pos (.inr (.inr (eq_of_beq h4)))] at hdn
        simp only [go_sem, ro, wo, wa, wx, rx, ins_e, vl_e, insC, exs, decide_eq_true h1, hz, h2, h3, h4, hw1]
        refine ⟨by omega, h1, klp_n (i + 1) (show i + 1 ≤ l.length by omega) (show l.length - (i + 1) < l.length - i by omega) (Wk.of ?_ ?_)⟩
        · simp only [go_sem, ro, wo, wa, wx, rx, ins_e, vl_e, insC, exs, e8]; try simp [hdn]
        · simp only [go_sem, ro, wo, wa, wx, rx, ins_e, vl_e, insC, exs]
      · rw [if_neg (by have := ne_of_beq_false h2; have := ne_of_beq_false h3; have := ne_of_beq_false h4; omega), if_pos (eq_of_beq h5)] at hdn
        simp only [go_sem, ro, wo, wa, wx, rx, ins_e, vl_e, insC, exs, decide_eq_true h1, hz, h2, h3, h4, h5, hw2]
        refine ⟨by omega, h1, klp_n (i + 1) (show i + 1 ≤ l.length by omega) (show l.length - (i + 1) < l.length - i by omega) (Wk.of ?_ ?_)⟩
        · simp only [go_sem, ro, wo, wa, wx, rx, ins_e, vl_e, insC, exs, e8]; try simp [hdn]
        · simp only [go_sem, ro, wo, wa, wx, rx, ins_e, vl_e, insC, exs]
      · rw [if_neg (by have := ne_of_beq_false h2; have := ne_of_beq_false h3; have := ne_of_beq_false h4; omega), if_neg (ne_of_beq_false h5)] at hdn
        simp only [go_sem, ro, wo, wa, wx, rx, ins_e, vl_e, insC, exs, decide_eq_true h1, hz, h2, h3, h4, h5]
        refine ⟨by omega, h1, klp_n (i + 1) (show i + 1 ≤ l.length by omega) (show l.length - (i + 1) < l.length - i by omega) (Wk.of ?_ ?_)⟩
        · simp only [go_sem, ro, wo, wa, wx, rx, ins_e, vl_e, insC, exs, e8]; try simp [hdn]
        · simp only [go_sem, ro, wo, wa, wx, rx, ins_e, vl_e, insC, exs]
    · obtain rfl : i = l.length := by omega
      rw [List.take_length, d1]
      simp only [go_sem, ro, wo, wa, wx, rx, ins_e, vl_e, insC, exs, decide_eq_false h1]
      refine call_nrec (s_read b hb) rfl (by simp [go_sem]) 902 (by decide) (by simp only [go_sem, ro, wo, wa, wx, rx, ins_e, vl_e, insC, exs]) ?_
      simp only [go_sem, ro, wo, wa, wx, rx, ins_e, vl_e, insC, exs, w1]
      refine call_m (hg2) ⟨by decide, by decide⟩ (by first | rfl | exact slv_ids _) (by simp [go_sem, ro, wo, wa, wx, rx, ins_e, vl_e, insC, exs]) rfl rfl (by rfl) ?_
      simp only [go_sem, ro, wo, wa, wx, rx, ins_e, vl_e, insC, exs, show (((0 : Nat) : Int) == 0) = true from rfl]
      refine call_m (s_err true b k6 6) ⟨by decide, by decide⟩ (by first | rfl | exact slv_ids _) (by simp [go_sem, ro, wo, wa, wx, rx, ins_e, vl_e, insC, exs]) rfl rfl (by rfl) ?_
      simp only [go_sem, ro, wo, wa, wx, rx, ins_e, vl_e, insC, exs]
      refine call_same (s_alive11) (by simp [go_sem, ro, wo, wa, wx, rx, ins_e, vl_e, insC, exs]) ?_
      simp only [go_sem, ro, wo, wa, wx, rx, ins_e, vl_e, insC, exs]
      exact pdone [] (by simp only [go_sem, ro, wo, wa, wx, rx, ins_e, vl_e, insC, exs]) (by first | rfl | simp [go_sem, slv_ids, ro, wo, wa, wx, rx, ins_e, vl_e, insC, exs])
end Go.Proofs.YtdhiiannngjjpaaDoor
