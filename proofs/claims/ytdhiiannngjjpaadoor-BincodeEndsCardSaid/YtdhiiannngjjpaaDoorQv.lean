/-
  Chapter 11, walks: the reference's GetExpr; sequences compared.
-/
import Derived.Test.YtdhiiannngjjpaaDoorQt
set_option linter.unusedVariables false
set_option linter.unusedSimpArgs false
set_option linter.unusedSectionVars false
set_option maxRecDepth 100000
set_option maxHeartbeats 20000000
set_option linter.unusedVariables false
set_option linter.unusedSimpArgs false
namespace Go.Proofs.YtdhiiannngjjpaaDoor
open Go Go.Mw
-- @U: ro, wo, wa, wx, rx, bk_e, vl_e, ac_, ins_e

variable {b : List UInt8} {a : Nat} (ha : a ≤ b.length) (hb : b.length < 1000000000)
include ha hb
end Go.Proofs.YtdhiiannngjjpaaDoor
set_option maxRecDepth 100000
set_option maxHeartbeats 40000000
set_option linter.unusedVariables false
set_option linter.unusedSimpArgs false
namespace Go.Proofs.YtdhiiannngjjpaaDoor
open Go Go.Mw
-- @U: ro, wo, wa, wx, rx, ins_e, vl_e, insC, slv_none, slv_some

def rq {α : Type} (res : Rd α) (d : α) : α × Nat × Int := match res with
  | .ok (x, k) => (x, k, 0)
  | .error (e, k) => (d, k, e)
theorem Out.det {α : Type} {b : List UInt8} {res : Rd α} {d : α} {q : α × Nat × Int} (h : Out b res d q) : q = rq res d := by
  obtain ⟨h1, ⟨x, k, rfl, rfl⟩ | ⟨e, rfl, h3, h4, h5⟩⟩ := h
  · rfl
  · obtain ⟨q1, q2, q3⟩ := q
    simp only at h4 h5
    subst h4 h5
    rfl
theorem RX.det {α : Type} {f : FuncId} {rest : List AV} {b : List UInt8} {a : Nat} {res : Rd α} {d : α} {av : α → AV} (h : RX f rest b a res d av) : RM f rest true b a 0 (av (rq res d).1) (rq res d).2.1 (rq res d).2.2 := by
  refine ACalls.mono h (fun _ h => h) ?_
  rintro r' σ' ⟨q, ho, rfl, rfl⟩
  obtain rfl := ho.det
  exact ⟨rfl, rfl⟩
theorem QX.det {α : Type} {f : FuncId} {rest : List AV} {b : List UInt8} {a : Nat} {res : Rd α} {d : α} {av : α → AV} (h : QX f rest b a res d av) : PCalls Tryd.prog f (rx b a 0 :: rest) (.tup [rx b (rq res d).2.1 (rq res d).2.2, av (rq res d).1]) := by
  refine ACalls.mono h (fun _ h => h.elim) ?_
  rintro r' σ' ⟨q, ho, rfl, rfl⟩
  obtain rfl := ho.det
  exact ⟨rfl, rfl⟩
theorem gB_err {b : List UInt8} {a : Nat} {e : Int × Nat} (h : gB b a = .error e) : e.1 ≠ 0 := by
  unfold gB at h
  split at h
  · cases h
  · cases h; simp
theorem gU_err {b : List UInt8} {a : Nat} {e : Int × Nat} (h : gU b a = .error e) : e.1 ≠ 0 := by
  unfold gU at h
  split at h
  · cases h
  · cases h; assumption
theorem gS_err {n : Nat} {b : List UInt8} {a : Nat} {e : Int × Nat} (h : gS n b a = .error e) : e.1 ≠ 0 := by
  unfold gS at h
  split at h
  · cases h
  · cases h; assumption
theorem gC_err {b : List UInt8} {a : Nat} {m : Int} {e : Int × Nat} (h : gC b a m = .error e) : e.1 ≠ 0 := by
  unfold gC at h
  repeat' split at h
  all_goals first | (cases h; done) | (cases h; simp; done) | (cases h; exact gU_err (by assumption))
theorem gV_err {b : List UInt8} {a : Nat} {e : Int × Nat} (h : gV b a = .error e) : e.1 ≠ 0 := by
  unfold gV at h
  repeat' split at h
  all_goals first | (cases h; done) | (cases h; simp; done) | (cases h; exact gB_err (by assumption))
theorem gK_err {b : List UInt8} {a : Nat} {e : Int × Nat} (h : gK b a = .error e) : e.1 ≠ 0 := by
  unfold gK at h
  repeat' split at h
  all_goals first | (cases h; done) | (cases h; simp; done) | (cases h; exact gS_err (by assumption))
theorem gL_err : ∀ (n : Nat) {b : List UInt8} {a : Nat} {e : Int × Nat}, gL n b a = .error e → e.1 ≠ 0
  | 0, _, _, _, h => by cases h
  | n + 1, b, a, e, h => by
    unfold gL at h
    repeat' split at h
    all_goals first | (cases h; done) | (cases h; exact gU_err (by assumption)) | (cases h; exact gL_err n (by assumption))
theorem gA_err {b : List UInt8} {a : Nat} {e : Int × Nat} (h : gA b a = .error e) : e.1 ≠ 0 := by
  unfold gA at h
  repeat' split at h
  all_goals first | (cases h; done) | (cases h; simp; done) | (cases h; exact gU_err (by assumption))
theorem gO_err {b : List UInt8} {a : Nat} {e : Int × Nat} (h : gO b a = .error e) : e.1 ≠ 0 := by
  unfold gO at h
  repeat' split at h
  all_goals first | (cases h; done) | (cases h; simp; done) | (cases h; exact gU_err (by assumption)) | (cases h; exact gB_err (by assumption))
theorem gM_err {i : Int} {b : List UInt8} {a : Nat} {e : Int × Nat} (h : gM i b a = .error e) : e.1 ≠ 0 := by
  unfold gM at h
  by_cases c0 : i = 1
  · rw [if_pos c0] at h
    repeat' split at h
    all_goals first | (cases h; done) | (cases h; simp; done) | (cases h; exact gU_err (by assumption)) | (cases h; exact gV_err (by assumption)) | (cases h; exact gK_err (by assumption)) | (cases h; exact gC_err (by assumption)) | (cases h; exact gL_err _ (by assumption)) | (cases h; exact gA_err (by assumption)) | (cases h; exact gS_err (by assumption))
  rw [if_neg c0] at h
  by_cases c1 : i = 3
  · rw [if_pos c1] at h
    repeat' split at h
    all_goals first | (cases h; done) | (cases h; simp; done) | (cases h; exact gU_err (by assumption)) | (cases h; exact gV_err (by assumption)) | (cases h; exact gK_err (by assumption)) | (cases h; exact gC_err (by assumption)) | (cases h; exact gL_err _ (by assumption)) | (cases h; exact gA_err (by assumption)) | (cases h; exact gS_err (by assumption))
  rw [if_neg c1] at h
  by_cases c2 : i = 5 ∨ i = 10 ∨ i = 11 ∨ i = 14 ∨ i = 15
  · rw [if_pos c2] at h
    repeat' split at h
    all_goals first | (cases h; done) | (cases h; simp; done) | (cases h; exact gU_err (by assumption)) | (cases h; exact gV_err (by assumption)) | (cases h; exact gK_err (by assumption)) | (cases h; exact gC_err (by assumption)) | (cases h; exact gL_err _ (by assumption)) | (cases h; exact gA_err (by assumption)) | (cases h; exact gS_err (by assumption))
  rw [if_neg c2] at h
  by_cases c3 : i = 6
  · rw [if_pos c3] at h
    repeat' split at h
    all_goals first | (cases h; done) | (cases h; simp; done) | (cases h; exact gU_err (by assumption)) | (cases h; exact gV_err (by assumption)) | (cases h; exact gK_err (by assumption)) | (cases h; exact gC_err (by assumption)) | (cases h; exact gL_err _ (by assumption)) | (cases h; exact gA_err (by assumption)) | (cases h; exact gS_err (by assumption))
  rw [if_neg c3] at h
  by_cases c4 : i = 13
  · rw [if_pos c4] at h
    repeat' split at h
    all_goals first | (cases h; done) | (cases h; simp; done) | (cases h; exact gU_err (by assumption)) | (cases h; exact gV_err (by assumption)) | (cases h; exact gK_err (by assumption)) | (cases h; exact gC_err (by assumption)) | (cases h; exact gL_err _ (by assumption)) | (cases h; exact gA_err (by assumption)) | (cases h; exact gS_err (by assumption))
  rw [if_neg c4] at h
  by_cases c5 : i = 17
  · rw [if_pos c5] at h
    repeat' split at h
    all_goals first | (cases h; done) | (cases h; simp; done) | (cases h; exact gU_err (by assumption)) | (cases h; exact gV_err (by assumption)) | (cases h; exact gK_err (by assumption)) | (cases h; exact gC_err (by assumption)) | (cases h; exact gL_err _ (by assumption)) | (cases h; exact gA_err (by assumption)) | (cases h; exact gS_err (by assumption))
  rw [if_neg c5] at h
  by_cases c6 : i = 18
  · rw [if_pos c6] at h
    repeat' split at h
    all_goals first | (cases h; done) | (cases h; simp; done) | (cases h; exact gU_err (by assumption)) | (cases h; exact gV_err (by assumption)) | (cases h; exact gK_err (by assumption)) | (cases h; exact gC_err (by assumption)) | (cases h; exact gL_err _ (by assumption)) | (cases h; exact gA_err (by assumption)) | (cases h; exact gS_err (by assumption))
  rw [if_neg c6] at h
  by_cases c7 : i = 19
  · rw [if_pos c7] at h
    repeat' split at h
    all_goals first | (cases h; done) | (cases h; simp; done) | (cases h; exact gU_err (by assumption)) | (cases h; exact gV_err (by assumption)) | (cases h; exact gK_err (by assumption)) | (cases h; exact gC_err (by assumption)) | (cases h; exact gL_err _ (by assumption)) | (cases h; exact gA_err (by assumption)) | (cases h; exact gS_err (by assumption))
  rw [if_neg c7] at h
  by_cases c8 : i = 20
  · rw [if_pos c8] at h
    repeat' split at h
    all_goals first | (cases h; done) | (cases h; simp; done) | (cases h; exact gU_err (by assumption)) | (cases h; exact gV_err (by assumption)) | (cases h; exact gK_err (by assumption)) | (cases h; exact gC_err (by assumption)) | (cases h; exact gL_err _ (by assumption)) | (cases h; exact gA_err (by assumption)) | (cases h; exact gS_err (by assumption))
  rw [if_neg c8] at h
  by_cases c9 : i = 0
  · rw [if_pos c9] at h
    repeat' split at h
    all_goals first | (cases h; done) | (cases h; simp; done) | (cases h; exact gU_err (by assumption)) | (cases h; exact gV_err (by assumption)) | (cases h; exact gK_err (by assumption)) | (cases h; exact gC_err (by assumption)) | (cases h; exact gL_err _ (by assumption)) | (cases h; exact gA_err (by assumption)) | (cases h; exact gS_err (by assumption))
  rw [if_neg c9] at h
  repeat' split at h
  all_goals first | (cases h; done) | (cases h; simp; done) | (cases h; exact gU_err (by assumption)) | (cases h; exact gV_err (by assumption)) | (cases h; exact gK_err (by assumption)) | (cases h; exact gC_err (by assumption)) | (cases h; exact gL_err _ (by assumption)) | (cases h; exact gA_err (by assumption)) | (cases h; exact gS_err (by assumption))
theorem gI_err {b : List UInt8} {a : Nat} {e : Int × Nat} (h : gI b a = .error e) : e.1 ≠ 0 := by
  unfold gI at h
  repeat' split at h
  all_goals first | (cases h; done) | (cases h; exact gM_err (by assumption)) | (cases h; exact gO_err (by assumption))
end Go.Proofs.YtdhiiannngjjpaaDoor
