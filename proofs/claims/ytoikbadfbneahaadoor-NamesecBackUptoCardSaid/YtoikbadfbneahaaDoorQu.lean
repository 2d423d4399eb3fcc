/-
  Chapter 14, walks: the law NamesecBack.
-/
import Derived.Test.YtoikbadfbneahaaDoorQs
import Derived.Test.YtoikbadfbneahaaDoorQt
import Derived.Test.YtoikbadfbneahaaDoorQl
import Derived.Test.YtoikbadfbneahaaDoorQr
import Derived.Test.YtoikbadfbneahaaDoorQm
set_option linter.unusedVariables false
set_option linter.unusedSimpArgs false
set_option linter.unusedSectionVars false
set_option maxRecDepth 100000
set_option maxHeartbeats 40000000
set_option linter.unusedVariables false
set_option linter.unusedSimpArgs false
namespace Go.Proofs.YtoikbadfbneahaaDoor
open Go Go.Mw
-- @U: List.length_map, mdC_e

theorem smIs_b {l : List Ins} (h : bL bIns 1048576 l) : smIs l := ⟨h.1, fun x hx => ⟨(h.2 x hx).2.1.1, (h.2 x hx).2.2.1⟩⟩
theorem smM_b {m : Md} (h : bMod 1048576 m) : smM m := by
  obtain ⟨h1, h2, h3, h4, h5, h6, h7, h8, h9, h10⟩ := h
  exact ⟨⟨h1.1, fun x hx => ⟨(h1.2 x hx).1.1, (h1.2 x hx).2.1⟩⟩, h2.1, ⟨h3.1, fun x hx => ⟨(h3.2 x hx).1.1, smIs_b (h3.2 x hx).2⟩⟩, h4.1, h5.1, ⟨h6.1, fun x hx => smIs_b (h6.2 x hx)⟩, h7.1, ⟨h8.1, fun x hx => ⟨smIs_b (h8.2 x hx).1, (h8.2 x hx).2.1, fun l hl => smIs_b ((h8.2 x hx).2.2 l hl)⟩⟩, ⟨h9.1, fun x hx => ⟨smIs_b (h9.2 x hx).1, (h9.2 x hx).2.1⟩⟩, ⟨h10.1, fun x hx => (h10.2 x hx).2.1⟩⟩
theorem smN_b4 {n : Ns} (h : bNs 1048576 n) : smN n := ⟨h.1, fun x hx => h.2.1.2 x hx, fun x hx y hy => (h.2.2.2 x hx).2 y hy⟩
theorem lnN_b {n : Ns} (h : bNs 1048576 n) : lnN n := ⟨Nat.le_trans h.2.1.1 (by decide), Nat.le_trans h.2.2.1 (by decide), fun x hx => Nat.le_trans (h.2.2.2 x hx).1 (by decide)⟩
theorem smN_v {n : Ns} (h : VN n) : smN n := by
  obtain ⟨⟨g1, ⟨g2, g3⟩, g4, g5⟩, hr⟩ := h
  exact ⟨Nat.le_trans g1.2 (by decide), fun x hx => Nat.le_trans (g3.2 x hx).2.2 (by decide), fun x hx y hy => Nat.le_trans ((g5 x hx).2.2 y hy).2.2 (by decide)⟩
theorem ofA_flt : ∀ (l : List Cu) (c : List Cu), ofA (flt l ++ c) = ofA c
  | [], c => rfl
  | x :: r, c => by
    have ih := ofA_flt r c
    unfold flt at ih ⊢
    by_cases h : x.n = nmB
    · rw [List.filter_cons_of_neg (by simp [h])]
      exact ih
    · rw [List.filter_cons_of_pos (by simp [h])]
      show (if x.n = nmB then _ else ofA (List.filter _ r ++ c)) = _
      rw [if_neg h, ih]
theorem encA_bad {n : Ns} (h : chk n ≠ 0) : encA n = ([], chk n) := by unfold encA; rw [if_pos h]
theorem encA_ok {n : Ns} (h : chk n = 0) : encA n = (bytesN n, 0) := by unfold encA; rw [if_neg (by simp [h])]
theorem decA_ok {n : Ns} (h : chk n = 0) : decA (bytesN n) = (n, 0) := by
  obtain ⟨h1, h2⟩ := chk_ok h
  exact decA_enc h1 h2
theorem decA_nil : decA [] = (default, 0) := rfl
theorem of_with {m : Md} {n : Ns} (h : (withA m n).2 = 0) (hm : smM m) : chk n = 0 ∧ ofA (withA m n).1.cs = (n, decide (((encA n).1.length : Int) > 0), 0) ∧ (withA m n).1.cs.length ≤ 2000000 ∧ ∀ c ∈ (withA m n).1.cs, c.b.length < 1000000000 := by
  have hf := flt_len m.cs
  have hfm : ∀ c ∈ flt m.cs, c.b.length < 1000000000 := fun c hc => by
    have := hm.cs.2 c (List.mem_filter.1 hc).1
    unfold smCu at this
    omega
  have hml := hm.cs.1
  by_cases hc : chk n = 0
  rotate_left
  · unfold withA at h
    rw [encA_bad hc, if_pos hc] at h
    exact absurd h hc
  refine ⟨hc, ?_⟩
  have hd := decA_ok hc
  unfold withA at h ⊢
  rw [encA_ok hc] at h ⊢
  simp only at h ⊢
  rw [if_neg (by simp)] at h ⊢
  by_cases h0 : (bytesN n).length = 0
  · rw [if_pos h0]
    rw [List.length_eq_zero_iff.1 h0, decA_nil] at hd
    refine ⟨?_, by simp only; omega, hfm⟩
    have := ofA_flt m.cs []
    rw [List.append_nil] at this
    simp only
    rw [this, h0]
    rw [show n = default from (congrArg Prod.fst hd).symm]
    rfl
  rw [if_neg h0] at h ⊢
  split at h
  · cases h
  rename_i h1
  rw [if_neg h1]
  refine ⟨?_, by simp only [List.length_append, List.length_singleton]; omega, fun c hc => ?_⟩
  · simp only
    rw [ofA_flt, decide_eq_true (by omega)]
    show (if nmB = nmB then ((decA (bytesN n)).1, true, (decA (bytesN n)).2) else _) = _
    rw [if_pos rfl, hd]
  · rcases List.mem_append.1 hc with hc | hc
    · exact hfm c hc
    · simp only [List.mem_singleton] at hc
      subst hc
      simp only
      omega
theorem w_back14 (m : Md) (n : Ns) (l : List UInt8) (bm : bMod 1048576 m) (bn : bNs 1048576 n) : PCalls Tryd.prog n_law14_NamesecBack [md_ m, ns_ n, .sl 1 (l.map by_)] (.bool true) := by
  refine pfun_sound (ic := F_law14_NamesecBack.body) mixed c_law14_NamesecBack rfl rfl ?_
  have hm := smM_b bm
  have hn := smN_b4 bn
  have hl := lnN_b bn
  have cf := s_few14 n
  have cg := s_few8 m
  have c1 := s_encode n hn
  have c3 := s_with14 m n hm hn
  simp only [ns_e] at cf c1 c3
  simp only [md_, mdC_e] at cg c3
  simp only [go_sem, List.length_map, mdC_e, F_law14_NamesecBack, md_]
  refine call_same (cf) (by simp [go_sem, List.length_map, mdC_e]) ?_
  cases few14 n
  · simp only [go_sem, List.length_map, mdC_e]
    refine call_same (s_alive14) (by simp [go_sem, List.length_map, mdC_e]) ?_
    simp only [go_sem, List.length_map, mdC_e]
    exact pdone [] (by simp only [go_sem, List.length_map, mdC_e]) (by first | rfl | simp [go_sem, slv_ids, List.length_map, mdC_e])
  simp only [go_sem, List.length_map, mdC_e]
  refine call_same (cg) (by simp [go_sem, List.length_map, mdC_e]) ?_
  cases fewM m
  · simp only [go_sem, List.length_map, mdC_e]
    refine call_same (s_alive14) (by simp [go_sem, List.length_map, mdC_e]) ?_
    simp only [go_sem, List.length_map, mdC_e]
    exact pdone [] (by simp only [go_sem, List.length_map, mdC_e]) (by first | rfl | simp [go_sem, slv_ids, List.length_map, mdC_e])
  by_cases h30 : (m.cs.length : Int) > 30
  · simp only [go_sem, List.length_map, mdC_e, decide_eq_true h30]
    refine call_same (s_alive14) (by simp [go_sem, List.length_map, mdC_e]) ?_
    simp only [go_sem, List.length_map, mdC_e]
    exact pdone [] (by simp only [go_sem, List.length_map, mdC_e]) (by first | rfl | simp [go_sem, slv_ids, List.length_map, mdC_e])
  by_cases hb : (l.length : Int) > 1000
  · simp only [go_sem, List.length_map, mdC_e, decide_eq_false h30, decide_eq_true hb]
    refine call_same (s_alive14) (by simp [go_sem, List.length_map, mdC_e]) ?_
    simp only [go_sem, List.length_map, mdC_e]
    exact pdone [] (by simp only [go_sem, List.length_map, mdC_e]) (by first | rfl | simp [go_sem, slv_ids, List.length_map, mdC_e])
  have c5 := v_decode l (by omega)
  simp only [ns_e] at c5
  simp only [go_sem, List.length_map, mdC_e, decide_eq_false h30, decide_eq_false hb]
  refine call_same (c1) (by simp [go_sem, List.length_map, mdC_e]) ?_
  by_cases hc : chk n = 0
  rotate_left
  · have c2 := v_decode [] (by decide)
    rw [decA_nil] at c2
    simp only [ns_e] at c2
    have hw : (withA m n).2 ≠ 0 := by unfold withA; rw [encA_bad hc, if_pos hc]; exact hc
    rw [encA_bad hc]
    simp only [go_sem, List.length_map, mdC_e]
    refine call_same (c2) (by simp [go_sem, List.length_map, mdC_e]) ?_
    simp only [go_sem, List.length_map, mdC_e, beq_f hc]
    refine call_same (c3) (by simp [go_sem, List.length_map, mdC_e]) ?_
    generalize withA m n = U at *
    obtain ⟨u, g⟩ := U
    simp only at hw
    simp only [go_sem, List.length_map, mdC_e, beq_f hw]
    refine call_same (c5) (by simp [go_sem, List.length_map, mdC_e]) ?_
    by_cases hz : (decA l).2 = 0
    · have cv := s_check (decA l).1 (smN_v (decA_v hz))
      rw [chk_0 (decA_v hz)] at cv
      simp only [ns_e] at cv
      simp only [go_sem, List.length_map, mdC_e, bne_f hz]
      refine call_same (cv) (by simp [go_sem, List.length_map, mdC_e]) ?_
      simp only [go_sem, List.length_map, mdC_e]
      refine call_same (s_alive14) (by simp [go_sem, List.length_map, mdC_e]) ?_
      simp only [go_sem, List.length_map, mdC_e]
      exact pdone [] (by simp only [go_sem, List.length_map, mdC_e]) (by first | rfl | simp [go_sem, slv_ids, List.length_map, mdC_e])
    · simp only [go_sem, List.length_map, mdC_e, bne_t hz]
      refine call_same (s_alive14) (by simp [go_sem, List.length_map, mdC_e]) ?_
      simp only [go_sem, List.length_map, mdC_e]
      exact pdone [] (by simp only [go_sem, List.length_map, mdC_e]) (by first | rfl | simp [go_sem, slv_ids, List.length_map, mdC_e])
  have hbl := bytesN_len (chk_ok hc).1
  have c2 := v_decode (bytesN n) (by omega)
  rw [decA_ok hc] at c2
  have c4 := u_samenames n n hl hl
  rw [decide_eq_true rfl] at c4
  simp only [ns_e] at c2 c4
  have hw := fun h => of_with (m := m) (n := n) h hm
  rw [encA_ok hc] at *
  simp only [go_sem, List.length_map, mdC_e]
  refine call_same (c2) (by simp [go_sem, List.length_map, mdC_e]) ?_
  simp only [go_sem, List.length_map, mdC_e]
  refine call_same (c4) (by simp [go_sem, List.length_map, mdC_e]) ?_
  simp only [go_sem, List.length_map, mdC_e]
  refine call_same (c3) (by simp [go_sem, List.length_map, mdC_e]) ?_
  generalize withA m n = U at *
  obtain ⟨u, g⟩ := U
  simp only at hw c3
  by_cases hg : g = 0
  rotate_left
  · simp only [go_sem, List.length_map, mdC_e, beq_f hg]
    refine call_same (c5) (by simp [go_sem, List.length_map, mdC_e]) ?_
    by_cases hz : (decA l).2 = 0
    · have cv := s_check (decA l).1 (smN_v (decA_v hz))
      rw [chk_0 (decA_v hz)] at cv
      simp only [ns_e] at cv
      simp only [go_sem, List.length_map, mdC_e, bne_f hz]
      refine call_same (cv) (by simp [go_sem, List.length_map, mdC_e]) ?_
      simp only [go_sem, List.length_map, mdC_e]
      refine call_same (s_alive14) (by simp [go_sem, List.length_map, mdC_e]) ?_
      simp only [go_sem, List.length_map, mdC_e]
      exact pdone [] (by simp only [go_sem, List.length_map, mdC_e]) (by first | rfl | simp [go_sem, slv_ids, List.length_map, mdC_e])
    · simp only [go_sem, List.length_map, mdC_e, bne_t hz]
      refine call_same (s_alive14) (by simp [go_sem, List.length_map, mdC_e]) ?_
      simp only [go_sem, List.length_map, mdC_e]
      exact pdone [] (by simp only [go_sem, List.length_map, mdC_e]) (by first | rfl | simp [go_sem, slv_ids, List.length_map, mdC_e])
  subst hg
  obtain ⟨_, h2, h3, h4⟩ := hw rfl
  have c6 := s_of14 u (by omega) h4
  rw [h2] at c6
  simp only [md_, mdC_e, ns_e] at c6
  simp only [go_sem, List.length_map, mdC_e]
  refine call_same (c6) (by simp [go_sem, List.length_map, mdC_e]) ?_
  simp only [go_sem, List.length_map, mdC_e, show ∀ b : Bool, (b != b) = false by simp]
  refine call_same (c4) (by simp [go_sem, List.length_map, mdC_e]) ?_
  simp only [go_sem, List.length_map, mdC_e]
  refine call_same (c5) (by simp [go_sem, List.length_map, mdC_e]) ?_
  by_cases hz : (decA l).2 = 0
  · have cv := s_check (decA l).1 (smN_v (decA_v hz))
    rw [chk_0 (decA_v hz)] at cv
    simp only [ns_e] at cv
    simp only [go_sem, List.length_map, mdC_e, bne_f hz]
    refine call_same (cv) (by simp [go_sem, List.length_map, mdC_e]) ?_
    simp only [go_sem, List.length_map, mdC_e]
    refine call_same (s_alive14) (by simp [go_sem, List.length_map, mdC_e]) ?_
    simp only [go_sem, List.length_map, mdC_e]
    exact pdone [] (by simp only [go_sem, List.length_map, mdC_e]) (by first | rfl | simp [go_sem, slv_ids, List.length_map, mdC_e])
  · simp only [go_sem, List.length_map, mdC_e, bne_t hz]
    refine call_same (s_alive14) (by simp [go_sem, List.length_map, mdC_e]) ?_
    simp only [go_sem, List.length_map, mdC_e]
    exact pdone [] (by simp only [go_sem, List.length_map, mdC_e]) (by first | rfl | simp [go_sem, slv_ids, List.length_map, mdC_e])
end Go.Proofs.YtoikbadfbneahaaDoor
