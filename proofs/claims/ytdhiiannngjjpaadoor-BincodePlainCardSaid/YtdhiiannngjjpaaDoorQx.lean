/-
  Chapter 11, walks: the law BincodePlain.
-/
import Derived.Test.YtdhiiannngjjpaaDoorQv
import Derived.Test.YtdhiiannngjjpaaDoorQc
set_option linter.unusedVariables false
set_option linter.unusedSimpArgs false
set_option linter.unusedSectionVars false
set_option maxRecDepth 100000
set_option maxHeartbeats 40000000
set_option linter.unusedVariables false
set_option linter.unusedSimpArgs false
namespace Go.Proofs.YtdhiiannngjjpaaDoor
open Go Go.Mw
-- @U: ro, wo, wa, wx, rx, ins_e, vl_e, insC, slv_none, slv_some

theorem w_plain11 (b : List UInt8) : PCalls Tryd.prog n_law11_BincodePlain [.sl 1 (b.map by_)] (.bool true) := by
  refine pfun_sound (ic := freeA 59 F_law11_BincodePlain.body) mixed c_law11_BincodePlain rfl rfl ?_
  by_cases hb : (b.length : Int) > 300
  · simp only [go_sem, ro, wo, wa, wx, rx, ins_e, vl_e, insC, F_law11_BincodePlain, decide_eq_true hb]
    refine call_same (s_alive11) (by simp [go_sem, ro, wo, wa, wx, rx, ins_e, vl_e, insC]) ?_
    simp only [go_sem, ro, wo, wa, wx, rx, ins_e, vl_e, insC]
    exact pdone [] (by simp only [go_sem, ro, wo, wa, wx, rx, ins_e, vl_e, insC]) (by first | rfl | simp [go_sem, slv_ids, ro, wo, wa, wx, rx, ins_e, vl_e, insC])
  have hb2 : b.length < 1000000000 := by omega
  simp only [go_sem, ro, wo, wa, wx, rx, ins_e, vl_e, insC, F_law11_BincodePlain, decide_eq_false hb]
  refine call_nrec (s_read b hb2) rfl (by simp [go_sem]) 901 (by decide) (by simp only [go_sem, ro, wo, wa, wx, rx, ins_e, vl_e, insC]) ?_
  simp only [go_sem, ro, wo, wa, wx, rx, ins_e, vl_e, insC]
  refine loop_rule (fun q : Nat × Nat => ⟨[(4, .int .i64 q.1), (3, .mp 901 4 0 0), (0, .sl 1 (b.map by_))], [(901, ro true b q.2 0)]⟩)
    (fun q => q.1 ≤ 100 ∧ q.2 ≤ b.length) (fun q => 100 - q.1) (0, 0) ⟨Nat.zero_le _, Nat.zero_le _⟩ (Wk.of ?_ ?_) ?_
  · simp only [go_sem, ro, wo, wa, wx, rx, ins_e, vl_e, insC]; try simp
  · simp only [go_sem, ro, wo, wa, wx, rx, ins_e, vl_e, insC]; try simp
  rintro ⟨i, a⟩ ⟨hi, ha⟩
  replace hi : i ≤ 100 := hi
  replace ha : a ≤ b.length := ha
  by_cases h1 : (i : Int) < 100
  rotate_left
  · simp only [go_sem, ro, wo, wa, wx, rx, ins_e, vl_e, insC, decide_eq_false h1]
    refine call_same (s_alive11) (by simp [go_sem, ro, wo, wa, wx, rx, ins_e, vl_e, insC]) ?_
    simp only [go_sem, ro, wo, wa, wx, rx, ins_e, vl_e, insC]
    exact pdone [] (by simp only [go_sem, ro, wo, wa, wx, rx, ins_e, vl_e, insC]) (by first | rfl | simp [go_sem, slv_ids, ro, wo, wa, wx, rx, ins_e, vl_e, insC])
  have e8 := wi (n := (i : Int) + 1) (by omega) (by omega)
  have hg := (s_get11 ha hb2).det
  simp only [go_sem, ro, wo, wa, wx, rx, ins_e, vl_e, insC, decide_eq_true h1]
  refine call_m (s_left true b a 0 ha hb2) ⟨by decide, by decide⟩ (by first | rfl | exact slv_ids _) (by simp [go_sem, ro, wo, wa, wx, rx, ins_e, vl_e, insC]) rfl rfl (by rfl) ?_
  cases hl : decide (rLeft true b a > 0)
  · simp only [go_sem, ro, wo, wa, wx, rx, ins_e, vl_e, insC, hl]
    refine call_same (s_alive11) (by simp [go_sem, ro, wo, wa, wx, rx, ins_e, vl_e, insC]) ?_
    simp only [go_sem, ro, wo, wa, wx, rx, ins_e, vl_e, insC]
    exact pdone [] (by simp only [go_sem, ro, wo, wa, wx, rx, ins_e, vl_e, insC]) (by first | rfl | simp [go_sem, slv_ids, ro, wo, wa, wx, rx, ins_e, vl_e, insC])
  simp only [go_sem, ro, wo, wa, wx, rx, ins_e, vl_e, insC, hl]
  refine call_m (s_at true b a 0) ⟨by decide, by decide⟩ (by first | rfl | exact slv_ids _) (by simp [go_sem, ro, wo, wa, wx, rx, ins_e, vl_e, insC]) rfl rfl (by rfl) ?_
  cases hG : gI b a with
  | error q =>
    obtain ⟨e2, a2⟩ := q
    have h2 : e2 ≠ 0 := gI_err hG
    have hs := r_same z0 z0 (by decide) (by decide)
    rw [show smM z0 z0 = true from rfl] at hs
    rw [hG] at hg
    simp only [rq, ins_e] at hg hs
    simp only [go_sem, ro, wo, wa, wx, rx, ins_e, vl_e, insC]
    refine call_m (hg) ⟨by decide, by decide⟩ (by first | rfl | exact slv_ids _) (by simp [go_sem, ro, wo, wa, wx, rx, ins_e, vl_e, insC]) rfl rfl (by rfl) ?_
    simp only [go_sem, ro, wo, wa, wx, rx, ins_e, vl_e, insC]
    refine call_m (s_err true b a2 e2) ⟨by decide, by decide⟩ (by first | rfl | exact slv_ids _) (by simp [go_sem, ro, wo, wa, wx, rx, ins_e, vl_e, insC]) rfl rfl (by rfl) ?_
    simp only [go_sem, ro, wo, wa, wx, rx, ins_e, vl_e, insC, bne_t h2]
    refine call_nl [ins_ z0, ins_ z0] ⟨.inl rfl, .inr (.inr ⟨_, _, rfl, rfl, .inl rfl, .inl rfl, .inl rfl, .inl rfl, .inl rfl, .inl rfl, .inl rfl, .inr ⟨rfl, 1, rfl⟩, .inr ⟨rfl, 1, rfl⟩, trivial⟩), trivial⟩ ?_
    refine call_same (hs) (by simp [go_sem, ro, wo, wa, wx, rx, ins_e, vl_e, insC]) ?_
    simp only [go_sem, ro, wo, wa, wx, rx, ins_e, vl_e, insC]
    refine call_same (s_alive11) (by simp [go_sem, ro, wo, wa, wx, rx, ins_e, vl_e, insC]) ?_
    simp only [go_sem, ro, wo, wa, wx, rx, ins_e, vl_e, insC]
    exact pdone [] (by simp only [go_sem, ro, wo, wa, wx, rx, ins_e, vl_e, insC]) (by first | rfl | simp [go_sem, slv_ids, ro, wo, wa, wx, rx, ins_e, vl_e, insC])
  | ok q =>
    obtain ⟨x, a2⟩ := q
    obtain ⟨g1, g2, g3, g4⟩ := gI_can hG
    have ha2 := (gI_adv hG).2
    have hty : x.ty.length ≤ 1 := by
      rcases (pl_sl g1).2.1 with r | r
      · exact Nat.le_of_eq ((pl_sl g1).2.2 r)
      · omega
    have hs := r_same x x (by omega) (by omega)
    rw [show smM x x = true by simp [smM]] at hs
    have c1 := s_one x g3.1 (by omega)
    rw [o1_ok g1 (by omega)] at c1
    have c2 := r_plain5 x (rIm x.op) (imm_rng _) rfl (by omega)
    replace c2 : PCalls Tryd.prog n_ref05_Plain [ins_ x] (.bool (PL x)) := c2
    rw [g1] at c2
    have hle : (encI x).length < 1000000000 := by omega
    have hg2 := (s_get11 (b := encI x) (a := 0) (Nat.zero_le _) hle).det
    rw [gI_enc (b := encI x) (a := 0) (r := []) g1 g2 g3 (by simp)] at hg2
    rw [hG] at hg
    simp only [rq, ins_e] at hg hs c1 c2 hg2
    have w1 : IntKind.i64.wrap ((a2 : Int) - (a : Int)) = (a2 : Int) - (a : Int) := wi (by omega) (by omega)
    have d1 : decide (((encI x).length : Int) > (a2 : Int) - (a : Int)) = false := decide_eq_false (by omega)
    simp only [go_sem, ro, wo, wa, wx, rx, ins_e, vl_e, insC]
    refine call_m (hg) ⟨by decide, by decide⟩ (by first | rfl | exact slv_ids _) (by simp [go_sem, ro, wo, wa, wx, rx, ins_e, vl_e, insC]) rfl rfl (by rfl) ?_
    simp only [go_sem, ro, wo, wa, wx, rx, ins_e, vl_e, insC]
    refine call_m (s_err true b a2 0) ⟨by decide, by decide⟩ (by first | rfl | exact slv_ids _) (by simp [go_sem, ro, wo, wa, wx, rx, ins_e, vl_e, insC]) rfl rfl (by rfl) ?_
    simp only [go_sem, ro, wo, wa, wx, rx, ins_e, vl_e, insC]
    refine call_same (c1) (by simp [go_sem, ro, wo, wa, wx, rx, ins_e, vl_e, insC]) ?_
    simp only [go_sem, ro, wo, wa, wx, rx, ins_e, vl_e, insC]
    refine call_same (c2) (by simp [go_sem, ro, wo, wa, wx, rx, ins_e, vl_e, insC]) ?_
    simp only [go_sem, ro, wo, wa, wx, rx, ins_e, vl_e, insC]
    refine dcall_m (s_at true b a2 0) ⟨by decide, by decide⟩ rfl (by simp) rfl rfl (by rfl) (by exact List.Mem.head _) ?_
    simp only [go_sem, ro, wo, wa, wx, rx, ins_e, vl_e, insC, w1, d1]
    refine ⟨⟨?_, ?_⟩, ?_⟩
    ·
      refine call_nrec (s_read (encI x) hle) rfl (by simp [go_sem]) 902 (by decide) (by simp only [go_sem, ro, wo, wa, wx, rx, ins_e, vl_e, insC]) ?_
      simp only [go_sem, ro, wo, wa, wx, rx, ins_e, vl_e, insC]
      refine ⟨?_, ?_⟩
      ·
        refine call_m (hg2) ⟨by decide, by decide⟩ (by first | rfl | exact slv_ids _) (by simp [go_sem, ro, wo, wa, wx, rx, ins_e, vl_e, insC]) rfl rfl (by rfl) ?_
        simp only [go_sem, ro, wo, wa, wx, rx, ins_e, vl_e, insC]
        refine call_same (hs) (by simp [go_sem, ro, wo, wa, wx, rx, ins_e, vl_e, insC]) ?_
        simp only [go_sem, ro, wo, wa, wx, rx, ins_e, vl_e, insC]
        refine klp_n (i + 1, a2) ⟨show i + 1 ≤ 100 by omega, ha2⟩ (show 100 - (i + 1) < 100 - i by omega) (Wk.of ?_ ?_)
        · simp only [go_sem, ro, wo, wa, wx, rx, ins_e, vl_e, insC, e8]; try simp
        · simp only [go_sem, ro, wo, wa, wx, rx, ins_e, vl_e, insC]; try simp
      ·
        refine call_m (hg2) ⟨by decide, by decide⟩ (by first | rfl | exact slv_ids _) (by simp [go_sem, ro, wo, wa, wx, rx, ins_e, vl_e, insC]) rfl rfl (by rfl) ?_
        simp only [go_sem, ro, wo, wa, wx, rx, ins_e, vl_e, insC]
        refine call_same (hs) (by simp [go_sem, ro, wo, wa, wx, rx, ins_e, vl_e, insC]) ?_
        simp only [go_sem, ro, wo, wa, wx, rx, ins_e, vl_e, insC]
        refine klp_n (i + 1, a2) ⟨show i + 1 ≤ 100 by omega, ha2⟩ (show 100 - (i + 1) < 100 - i by omega) (Wk.of ?_ ?_)
        · simp only [go_sem, ro, wo, wa, wx, rx, ins_e, vl_e, insC, e8]; try simp
        · simp only [go_sem, ro, wo, wa, wx, rx, ins_e, vl_e, insC]; try simp
    ·
      refine call_nrec (s_read (encI x) hle) rfl (by simp [go_sem]) 902 (by decide) (by simp only [go_sem, ro, wo, wa, wx, rx, ins_e, vl_e, insC]) ?_
      simp only [go_sem, ro, wo, wa, wx, rx, ins_e, vl_e, insC]
      refine call_m (hg2) ⟨by decide, by decide⟩ (by first | rfl | exact slv_ids _) (by simp [go_sem, ro, wo, wa, wx, rx, ins_e, vl_e, insC]) rfl rfl (by rfl) ?_
      simp only [go_sem, ro, wo, wa, wx, rx, ins_e, vl_e, insC]
      refine call_same (hs) (by simp [go_sem, ro, wo, wa, wx, rx, ins_e, vl_e, insC]) ?_
      simp only [go_sem, ro, wo, wa, wx, rx, ins_e, vl_e, insC]
      refine klp_n (i + 1, a2) ⟨show i + 1 ≤ 100 by omega, ha2⟩ (show 100 - (i + 1) < 100 - i by omega) (Wk.of ?_ ?_)
      · simp only [go_sem, ro, wo, wa, wx, rx, ins_e, vl_e, insC, e8]; try simp
      · simp only [go_sem, ro, wo, wa, wx, rx, ins_e, vl_e, insC]; try simp
    ·
      refine call_nrec (s_read (encI x) hle) rfl (by simp [go_sem]) 902 (by decide) (by simp only [go_sem, ro, wo, wa, wx, rx, ins_e, vl_e, insC]) ?_
      simp only [go_sem, ro, wo, wa, wx, rx, ins_e, vl_e, insC]
      refine call_m (hg2) ⟨by decide, by decide⟩ (by first | rfl | exact slv_ids _) (by simp [go_sem, ro, wo, wa, wx, rx, ins_e, vl_e, insC]) rfl rfl (by rfl) ?_
      simp only [go_sem, ro, wo, wa, wx, rx, ins_e, vl_e, insC]
      refine call_same (hs) (by simp [go_sem, ro, wo, wa, wx, rx, ins_e, vl_e, insC]) ?_
      simp only [go_sem, ro, wo, wa, wx, rx, ins_e, vl_e, insC]
      refine klp_n (i + 1, a2) ⟨show i + 1 ≤ 100 by omega, ha2⟩ (show 100 - (i + 1) < 100 - i by omega) (Wk.of ?_ ?_)
      · simp only [go_sem, ro, wo, wa, wx, rx, ins_e, vl_e, insC, e8]; try simp
      · simp only [go_sem, ro, wo, wa, wx, rx, ins_e, vl_e, insC]; try simp
end Go.Proofs.YtdhiiannngjjpaaDoor
