/-
  Chapter 11, walks: the reference's GetExpr; sequences compared.
-/
import Derived.Test.YtdhiiannngjjpaaGreatDoorQt
set_option linter.unusedVariables false
set_option linter.unusedSimpArgs false
set_option linter.unusedSectionVars false
set_option maxRecDepth 100000
set_option maxHeartbeats 20000000
set_option linter.unusedVariables false
set_option linter.unusedSimpArgs false
namespace Go.Proofs.YtdhiiannngjjpaaGreatDoor
open Go Go.Mw
-- @U: ro, wo, wa, wx, rx, bk_e, vl_e, ac_, ins_e

variable {b : List UInt8} {a : Nat} (ha : a ≤ b.length) (hb : b.length < 1000000000)
include ha hb
end Go.Proofs.YtdhiiannngjjpaaGreatDoor
set_option maxRecDepth 100000
set_option maxHeartbeats 40000000
set_option linter.unusedVariables false
set_option linter.unusedSimpArgs false
namespace Go.Proofs.YtdhiiannngjjpaaGreatDoor
open Go Go.Mw
-- @U: ro, wo, wa, wx, rx, ins_e, vl_e, insC, slv_none, slv_some

def rq {α : Type} (res : Rd α) (d : α) : α × Nat × Int := match res with
  | .ok (x, k) => (x, k, 0)
  | .error (e, k) => (d, k, e)
theorem Out.det {α : Type} {b : List UInt8} {res : Rd α} {d : α} {q : α × Nat × Int} (h : Out b res d q) : q = rq res d := by
  obtain ⟨h1, ⟨x, k, rfl, rfl⟩ | ⟨e, rfl, h3, h4, h5⟩⟩ := h
  · rfl
  · obtain ⟨q1, q2, q3⟩ := q
    simp only at h4 h5
    subst h4 h5
    rfl
theorem RX.det {α : Type} {f : FuncId} {rest : List AV} {b : List UInt8} {a : Nat} {res : Rd α} {d : α} {av : α → AV} (h : RX f rest b a res d av) : RM f rest true b a 0 (av (rq res d).1) (rq res d).2.1 (rq res d).2.2 := by
  refine ACalls.mono h (fun _ h => h) ?_
  rintro r' σ' ⟨q, ho, rfl, rfl⟩
  obtain rfl := ho.det
  exact ⟨rfl, rfl⟩
theorem QX.det {α : Type} {f : FuncId} {rest : List AV} {b : List UInt8} {a : Nat} {res : Rd α} {d : α} {av : α → AV} (h : QX f rest b a res d av) : PCalls Tryz.prog f (rx b a 0 :: rest) (.tup [rx b (rq res d).2.1 (rq res d).2.2, av (rq res d).1]) := by
  refine ACalls.mono h (fun _ h => h.elim) ?_
  rintro r' σ' ⟨q, ho, rfl, rfl⟩
  obtain rfl := ho.det
  exact ⟨rfl, rfl⟩
theorem gB_err {b : List UInt8} {a : Nat} {e : Int × Nat} (h : gB b a = .error e) : e.1 ≠ 0 := by
  unfold gB at h
  split at h
  · cases h
  · cases h; simp
theorem gU_err {b : List UInt8} {a : Nat} {e : Int × Nat} (h : gU b a = .error e) : e.1 ≠ 0 := by
  unfold gU at h
  split at h
  · cases h
  · cases h; assumption
theorem gS_err {n : Nat} {b : List UInt8} {a : Nat} {e : Int × Nat} (h : gS n b a = .error e) : e.1 ≠ 0 := by
  unfold gS at h
  split at h
  · cases h
  · cases h; assumption
theorem gC_err {b : List UInt8} {a : Nat} {m : Int} {e : Int × Nat} (h : gC b a m = .error e) : e.1 ≠ 0 := by
  unfold gC at h
  repeat' split at h
  all_goals first | (cases h; done) | (cases h; simp; done) | (cases h; exact gU_err (by assumption))
theorem gV_err {b : List UInt8} {a : Nat} {e : Int × Nat} (h : gV b a = .error e) : e.1 ≠ 0 := by
  unfold gV at h
  repeat' split at h
  all_goals first | (cases h; done) | (cases h; simp; done) | (cases h; exact gB_err (by assumption))
theorem gK_err {b : List UInt8} {a : Nat} {e : Int × Nat} (h : gK b a = .error e) : e.1 ≠ 0 := by
  unfold gK at h
  repeat' split at h
  all_goals first | (cases h; done) | (cases h; simp; done) | (cases h; exact gS_err (by assumption))
theorem gL_err : ∀ (n : Nat) {b : List UInt8} {a : Nat} {e : Int × Nat}, gL n b a = .error e → e.1 ≠ 0
  | 0, _, _, _, h => by cases h
  | n + 1, b, a, e, h => by
    unfold gL at h
    repeat' split at h
    all_goals first | (cases h; done) | (cases h; exact gU_err (by assumption)) | (cases h; exact gL_err n (by assumption))
theorem gA_err {b : List UInt8} {a : Nat} {e : Int × Nat} (h : gA b a = .error e) : e.1 ≠ 0 := by
  unfold gA at h
  repeat' split at h
  all_goals first | (cases h; done) | (cases h; simp; done) | (cases h; exact gU_err (by assumption))
theorem gO_err {b : List UInt8} {a : Nat} {e : Int × Nat} (h : gO b a = .error e) : e.1 ≠ 0 := by
  unfold gO at h
  repeat' split at h
  all_goals first | (cases h; done) | (cases h; simp; done) | (cases h; exact gU_err (by assumption)) | (cases h; exact gB_err (by assumption))
theorem gM_err {i : Int} {b : List UInt8} {a : Nat} {e : Int × Nat} (h : gM i b a = .error e) : e.1 ≠ 0 := by
  unfold gM at h
  by_cases c0 : i = 1
  · rw [if_pos c0] at h
    repeat' split at h
    all_goals first | (cases h; done) | (cases h; simp; done) | (cases h; exact gU_err (by assumption)) | (cases h; exact gV_err (by assumption)) | (cases h; exact gK_err (by assumption)) | (cases h; exact gC_err (by assumption)) | (cases h; exact gL_err _ (by assumption)) | (cases h; exact gA_err (by assumption)) | (cases h; exact gS_err (by assumption))
  rw [if_neg c0] at h
  by_cases c1 : i = 3
  · rw [if_pos c1] at h
    repeat' split at h
    all_goals first | (cases h; done) | (cases h; simp; done) | (cases h; exact gU_err (by assumption)) | (cases h; exact gV_err (by assumption)) | (cases h; exact gK_err (by assumption)) | (cases h; exact gC_err (by assumption)) | (cases h; exact gL_err _ (by assumption)) | (cases h; exact gA_err (by assumption)) | (cases h; exact gS_err (by assumption))
  rw [if_neg c1] at h
  by_cases c2 : i = 5 ∨ i = 10 ∨ i = 11 ∨ i = 14 ∨ i = 15
  · rw [if_pos c2] at h
    repeat' split at h
    all_goals first | (cases h; done) | (cases h; simp; done) | (cases h; exact gU_err (by assumption)) | (cases h; exact gV_err (by assumption)) | (cases h; exact gK_err (by assumption)) | (cases h; exact gC_err (by assumption)) | (cases h; exact gL_err _ (by assumption)) | (cases h; exact gA_err (by assumption)) | (cases h; exact gS_err (by assumption))
  rw [if_neg c2] at h
  by_cases c3 : i = 6
  · rw [if_pos c3] at h
    repeat' split at h
    all_goals first | (cases h; done) | (cases h; simp; done) | (cases h; exact gU_err (by assumption)) | (cases h; exact gV_err (by assumption)) | (cases h; exact gK_err (by assumption)) | (cases h; exact gC_err (by assumption)) | (cases h; exact gL_err _ (by assumption)) | (cases h; exact gA_err (by assumption)) | (cases h; exact gS_err (by assumption))
  rw [if_neg c3] at h
  by_cases c4 : i = 13
  · rw [if_pos c4] at h
    repeat' split at h
    all_goals first | (cases h; done) | (cases h; simp; done) | (cases h; exact gU_err (by assumption)) | (cases h; exact gV_err (by assumption)) | (cases h; exact gK_err (by assumption)) | (cases h; exact gC_err (by assumption)) | (cases h; exact gL_err _ (by assumption)) | (cases h; exact gA_err (by assumption)) | (cases h; exact gS_err (by assumption))
  rw [if_neg c4] at h
  by_cases c5 : i = 17
  · rw [if_pos c5] at h
    repeat' split at h
    all_goals first | (cases h; done) | (cases h; simp; done) | (cases h; exact gU_err (by assumption)) | (cases h; exact gV_err (by assumption)) | (cases h; exact gK_err (by assumption)) | (cases h; exact gC_err (by assumption)) | (cases h; exact gL_err _ (by assumption)) | (cases h; exact gA_err (by assumption)) | (cases h; exact gS_err (by assumption))
  rw [if_neg c5] at h
  by_cases c6 : i = 18
  · rw [if_pos c6] at h
    repeat' split at h
    all_goals first | (cases h; done) | (cases h; simp; done) | (cases h; exact gU_err (by assumption)) | (cases h; exact gV_err (by assumption)) | (cases h; exact gK_err (by assumption)) | (cases h; exact gC_err (by assumption)) | (cases h; exact gL_err _ (by assumption)) | (cases h; exact gA_err (by assumption)) | (cases h; exact gS_err (by assumption))
  rw [if_neg c6] at h
  by_cases c7 : i = 19
  · rw [if_pos c7] at h
    repeat' split at h
    all_goals first | (cases h; done) | (cases h; simp; done) | (cases h; exact gU_err (by assumption)) | (cases h; exact gV_err (by assumption)) | (cases h; exact gK_err (by assumption)) | (cases h; exact gC_err (by assumption)) | (cases h; exact gL_err _ (by assumption)) | (cases h; exact gA_err (by assumption)) | (cases h; exact gS_err (by assumption))
  rw [if_neg c7] at h
  by_cases c8 : i = 20
  · rw [if_pos c8] at h
    repeat' split at h
    all_goals first | (cases h; done) | (cases h; simp; done) | (cases h; exact gU_err (by assumption)) | (cases h; exact gV_err (by assumption)) | (cases h; exact gK_err (by assumption)) | (cases h; exact gC_err (by assumption)) | (cases h; exact gL_err _ (by assumption)) | (cases h; exact gA_err (by assumption)) | (cases h; exact gS_err (by assumption))
  rw [if_neg c8] at h
  by_cases c9 : i = 0
  · rw [if_pos c9] at h
    repeat' split at h
    all_goals first | (cases h; done) | (cases h; simp; done) | (cases h; exact gU_err (by assumption)) | (cases h; exact gV_err (by assumption)) | (cases h; exact gK_err (by assumption)) | (cases h; exact gC_err (by assumption)) | (cases h; exact gL_err _ (by assumption)) | (cases h; exact gA_err (by assumption)) | (cases h; exact gS_err (by assumption))
  rw [if_neg c9] at h
  repeat' split at h
  all_goals first | (cases h; done) | (cases h; simp; done) | (cases h; exact gU_err (by assumption)) | (cases h; exact gV_err (by assumption)) | (cases h; exact gK_err (by assumption)) | (cases h; exact gC_err (by assumption)) | (cases h; exact gL_err _ (by assumption)) | (cases h; exact gA_err (by assumption)) | (cases h; exact gS_err (by assumption))
theorem gI_err {b : List UInt8} {a : Nat} {e : Int × Nat} (h : gI b a = .error e) : e.1 ≠ 0 := by
  unfold gI at h
  repeat' split at h
  all_goals first | (cases h; done) | (cases h; exact gM_err (by assumption)) | (cases h; exact gO_err (by assumption))
theorem gI_q (b : List UInt8) (a : Nat) : (rq (gI b a) z0).1.ty.length ≤ 1 ∧ (rq (gI b a) z0).1.lb.length ≤ 64 ∧ (((rq (gI b a) z0).2.2 = 0 ∧ gI b a = .ok ((rq (gI b a) z0).1, (rq (gI b a) z0).2.1) ∧ (rq (gI b a) z0).2.1 ≤ b.length) ∨ ((rq (gI b a) z0).2.2 ≠ 0 ∧ (rq (gI b a) z0).1 = z0)) := by
  cases h : gI b a with
  | ok p =>
    obtain ⟨x, k⟩ := p
    obtain ⟨g1, g2, g3, g4⟩ := gI_can h
    refine ⟨?_, g2, .inl ⟨rfl, rfl, (gI_adv h).2⟩⟩
    rcases (pl_sl g1).2.1 with r | r
    · exact Nat.le_of_eq ((pl_sl g1).2.2 r)
    · show x.ty.length ≤ 1
      omega
  | error e => exact ⟨show z0.ty.length ≤ 1 by decide, show z0.lb.length ≤ 64 by decide, .inr ⟨gI_err h, rfl⟩⟩
theorem w_gets (b : List UInt8) : PCalls Tryz.prog n_law11_BincodeGets [.sl 1 (b.map by_)] (.bool true) := by
  refine pfun_sound (ic := F_law11_BincodeGets.body) mixed c_law11_BincodeGets rfl rfl ?_
  by_cases hb : (b.length : Int) > 300
  · simp only [go_sem, ro, wo, wa, wx, rx, ins_e, vl_e, insC, F_law11_BincodeGets, decide_eq_true hb]
    refine call_same (s_alive11) (by simp [go_sem, ro, wo, wa, wx, rx, ins_e, vl_e, insC]) ?_
    simp only [go_sem, ro, wo, wa, wx, rx, ins_e, vl_e, insC]
    exact pdone [] (by simp only [go_sem, ro, wo, wa, wx, rx, ins_e, vl_e, insC]) (by first | rfl | simp [go_sem, slv_ids, ro, wo, wa, wx, rx, ins_e, vl_e, insC])
  have hb2 : b.length < 1000000000 := by omega
  simp only [go_sem, ro, wo, wa, wx, rx, ins_e, vl_e, insC, F_law11_BincodeGets, decide_eq_false hb]
  refine call_nrec (s_read b hb2) rfl (by simp [go_sem]) 901 (by decide) (by simp only [go_sem, ro, wo, wa, wx, rx, ins_e, vl_e, insC]) ?_
  simp only [go_sem, ro, wo, wa, wx, rx, ins_e, vl_e, insC]
  refine call_same (q_Read b) (by simp [go_sem, ro, wo, wa, wx, rx, ins_e, vl_e, insC]) ?_
  simp only [go_sem, ro, wo, wa, wx, rx, ins_e, vl_e, insC]
  refine loop_rule (fun q : Nat × Nat × Int => ⟨[(5, .int .i64 q.1), (4, .mp 4 3 0 0), (3, .mp 901 4 0 0), (0, .sl 1 (b.map by_))], [(4, ⟨50, 3, [[.sl 1 (b.map by_), .int .i64 q.2.1, .int .i64 q.2.2]], true⟩), (901, ro true b q.2.1 q.2.2)]⟩)
    (fun q => q.1 ≤ 40 ∧ (q.2.2 = 0 → q.2.1 ≤ b.length)) (fun q => 40 - q.1) (0, 0, 0) ⟨Nat.zero_le _, fun _ => Nat.zero_le _⟩ (Wk.of ?_ ?_) ?_
  · simp only [go_sem, ro, wo, wa, wx, rx, ins_e, vl_e, insC]; try simp
  · simp only [go_sem, ro, wo, wa, wx, rx, ins_e, vl_e, insC]; try simp
  rintro ⟨i, a, e⟩ ⟨hi, ha⟩
  simp only at hi ha
  by_cases h1 : (i : Int) < 40
  rotate_left
  · simp only [go_sem, ro, wo, wa, wx, rx, ins_e, vl_e, insC, decide_eq_false h1]
    refine call_same (s_alive11) (by simp [go_sem, ro, wo, wa, wx, rx, ins_e, vl_e, insC]) ?_
    simp only [go_sem, ro, wo, wa, wx, rx, ins_e, vl_e, insC]
    exact pdone [] (by simp only [go_sem, ro, wo, wa, wx, rx, ins_e, vl_e, insC]) (by first | rfl | simp [go_sem, slv_ids, ro, wo, wa, wx, rx, ins_e, vl_e, insC])
  by_cases he : e = 0
  rotate_left
  · simp only [go_sem, ro, wo, wa, wx, rx, ins_e, vl_e, insC, decide_eq_true h1, beq_f he]
    refine call_same (s_alive11) (by simp [go_sem, ro, wo, wa, wx, rx, ins_e, vl_e, insC]) ?_
    simp only [go_sem, ro, wo, wa, wx, rx, ins_e, vl_e, insC]
    exact pdone [] (by simp only [go_sem, ro, wo, wa, wx, rx, ins_e, vl_e, insC]) (by first | rfl | simp [go_sem, slv_ids, ro, wo, wa, wx, rx, ins_e, vl_e, insC])
  subst he
  have ha' := ha rfl
  have e8 := wi (n := (i : Int) + 1) (by omega) (by omega)
  have hg := (s_get11 ha' hb2).det
  have hr := (r_get11 ha' hb2).det
  obtain ⟨g1, g2, g3⟩ := gI_q b a
  generalize rq (gI b a) z0 = q at *
  obtain ⟨x, a2, e2⟩ := q
  simp only at g1 g2 g3 hg hr
  have hs := r_same x x (by omega) (by omega)
  rw [show smM x x = true by simp [smM]] at hs
  simp only [ins_e] at hg hr hs
  have n1 := bne_self_i e2
  have n2 := bne_self_i (a2 : Int)
  simp only [go_sem, ro, wo, wa, wx, rx, ins_e, vl_e, insC, decide_eq_true h1]
  refine call_same (hr) (by simp [go_sem, ro, wo, wa, wx, rx, ins_e, vl_e, insC]) ?_
  simp only [go_sem, ro, wo, wa, wx, rx, ins_e, vl_e, insC]
  refine dcall_m hg ⟨by decide, by decide⟩ rfl (by simp) rfl rfl (by rfl) (by exact List.Mem.head _) ?_
  simp only [go_sem, ro, wo, wa, wx, rx, ins_e, vl_e, insC]
  refine call_same (hs) (by simp [go_sem, ro, wo, wa, wx, rx, ins_e, vl_e, insC]) ?_
  simp only [go_sem, ro, wo, wa, wx, rx, ins_e, vl_e, insC]
  refine dcall_m (s_err true b a2 e2) ⟨by decide, by decide⟩ rfl (by simp) rfl rfl (by rfl) (by exact List.Mem.head _) ?_
  rcases g3 with ⟨rfl, g3, g4⟩ | ⟨g3, _⟩
  · simp only [go_sem, ro, wo, wa, wx, rx, ins_e, vl_e, insC, n1]
    refine dcall_m (s_at true b a2 0) ⟨by decide, by decide⟩ rfl (by simp) rfl rfl (by rfl) (by exact List.Mem.head _) ?_
    simp only [go_sem, ro, wo, wa, wx, rx, ins_e, vl_e, insC, n2]
    refine klp_n (i + 1, a2, 0) ⟨show i + 1 ≤ 40 by omega, fun _ => g4⟩ (show 40 - (i + 1) < 40 - i by omega) (Wk.of ?_ ?_)
    · simp only [go_sem, ro, wo, wa, wx, rx, ins_e, vl_e, insC, e8]; try simp
    · simp only [go_sem, ro, wo, wa, wx, rx, ins_e, vl_e, insC]; try simp
  · simp only [go_sem, ro, wo, wa, wx, rx, ins_e, vl_e, insC, n1, beq_f g3]
    refine klp_n (i + 1, a2, e2) ⟨show i + 1 ≤ 40 by omega, fun h => absurd h g3⟩ (show 40 - (i + 1) < 40 - i by omega) (Wk.of ?_ ?_)
    · simp only [go_sem, ro, wo, wa, wx, rx, ins_e, vl_e, insC, e8]; try simp
    · simp only [go_sem, ro, wo, wa, wx, rx, ins_e, vl_e, insC]; try simp
end Go.Proofs.YtdhiiannngjjpaaGreatDoor
