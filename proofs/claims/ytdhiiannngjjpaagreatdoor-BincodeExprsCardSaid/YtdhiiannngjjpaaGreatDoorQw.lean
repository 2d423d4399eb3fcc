/-
  Chapter 11, walks: the law BincodeExprs.
-/
import Derived.Test.YtdhiiannngjjpaaGreatDoorQv
set_option linter.unusedVariables false
set_option linter.unusedSimpArgs false
set_option linter.unusedSectionVars false
set_option maxRecDepth 100000
set_option maxHeartbeats 40000000
set_option linter.unusedVariables false
set_option linter.unusedSimpArgs false
namespace Go.Proofs.YtdhiiannngjjpaaGreatDoor
open Go Go.Mw
-- @U: ro, wo, wa, wx, rx, ins_e, vl_e, insC, slv_none, slv_some, exs

theorem gE_all (f d : Nat) : ∀ {b : List UInt8} {a : Nat} {m : Int} {l : List Ins} {k : Nat}, gE f d b a m = .ok (l, k) → ∀ x ∈ l, PL x = true ∧ x.lb.length ≤ 64 ∧ x.ty.length ≤ 1 ∧ (0 ≤ x.n ∧ x.n < 18446744073709551616) := by
  induction f generalizing d with
  | zero => intro b a m l k h; cases h
  | succ f ih =>
    intro b a m l k h
    unfold gE at h
    split at h
    · cases h
    split at h
    · cases h
    rename_i x k1 h1
    obtain ⟨g1, g2, g3, g4⟩ := gI_can h1
    have hx : PL x = true ∧ x.lb.length ≤ 64 ∧ x.ty.length ≤ 1 ∧ (0 ≤ x.n ∧ x.n < 18446744073709551616) := by
      refine ⟨g1, g2, ?_, g3⟩
      rcases (pl_sl g1).2.1 with r | r
      · exact Nat.le_of_eq ((pl_sl g1).2.2 r)
      · omega
    split at h
    · cases h
      intro y hy
      obtain rfl := List.mem_singleton.1 hy
      exact hx
    · split at h
      · rename_i l2 k2 h2
        have := ih _ h2
        cases h
        intro y hy
        rcases List.mem_cons.1 hy with rfl | hy
        · exact hx
        · exact this y hy
      · cases h
theorem gE_len (f d : Nat) : ∀ {b : List UInt8} {a : Nat} {m : Int} {l : List Ins} {k : Nat}, a ≤ b.length → gE f d b a m = .ok (l, k) → a + l.length ≤ k ∧ k ≤ b.length := by
  induction f generalizing d with
  | zero => intro b a m l k ha h; cases h
  | succ f ih =>
    intro b a m l k ha h
    unfold gE at h
    split at h
    · cases h
    split at h
    · cases h
    rename_i x k1 h1
    have g := gI_adv h1
    split at h
    · cases h
      simp only [List.length_singleton]
      omega
    · split at h
      · rename_i l2 k2 h2
        have := ih _ g.2 h2
        cases h
        simp only [List.length_cons]
        omega
      · cases h
theorem r_sameall (l : List Ins) (hl : l.length ≤ 1000) (hb : ∀ x ∈ l, x.lb.length ≤ 64 ∧ x.ty.length ≤ 1) : PCalls Tryz.prog n_ref05_SameAll [exs l, exs l] (.bool true) := by
  refine pfun_sound (ic := F_ref05_SameAll.body) mixed c_ref05_SameAll rfl rfl ?_
  have n1 := bne_self_i ((l.length : Nat) : Int)
  simp only [go_sem, ro, wo, wa, wx, rx, ins_e, vl_e, insC, exs, F_ref05_SameAll, n1, List.length_map]
  refine loop_rule (fun i : Nat => ⟨[(5, .int .i64 i), (0, .sl 9 (l.map insC)), (1, .sl 9 (l.map insC))], []⟩) (fun i => i ≤ l.length) (fun i => l.length - i) 0 (Nat.zero_le _) (Wk.of ?_ ?_) ?_
  · simp only [go_sem, ro, wo, wa, wx, rx, ins_e, vl_e, insC, exs]; try simp
  · simp only [go_sem, ro, wo, wa, wx, rx, ins_e, vl_e, insC, exs]
  intro i hi
  by_cases h1 : (i : Int) < (l.length : Int)
  · have hi' : i < l.length := by omega
    have e8 := wi (n := (i : Int) + 1) (by omega) (by omega)
    have hx := hb (nth l i) (by rw [nth_eq hi']; exact List.getElem_mem hi')
    have hs := r_same (nth l i) (nth l i) (by omega) (by omega)
    rw [show smM (nth l i) (nth l i) = true by simp [smM]] at hs
    simp only [ins_e] at hs
    simp only [go_sem, ro, wo, wa, wx, rx, ins_e, vl_e, insC, exs, decide_eq_true h1]
    refine ⟨by omega, h1, by omega, h1, ?_⟩
    refine call_same (hs) (by simp [go_sem, ro, wo, wa, wx, rx, ins_e, vl_e, insC, exs]) ?_
    simp only [go_sem, ro, wo, wa, wx, rx, ins_e, vl_e, insC, exs]
    refine klp_n (i + 1) (show i + 1 ≤ l.length by omega) (show l.length - (i + 1) < l.length - i by omega) (Wk.of ?_ ?_)
    · simp only [go_sem, ro, wo, wa, wx, rx, ins_e, vl_e, insC, exs, e8]; try simp
    · simp only [go_sem, ro, wo, wa, wx, rx, ins_e, vl_e, insC, exs]
  · simp only [go_sem, ro, wo, wa, wx, rx, ins_e, vl_e, insC, exs, decide_eq_false h1]
    exact pdone [] (by rfl) rfl
theorem w_exprs (b : List UInt8) (most : Int) (hm : inI most) : PCalls Tryz.prog n_law11_BincodeExprs [.sl 1 (b.map by_), .int .i64 most] (.bool true) := by
  refine pfun_sound (ic := F_law11_BincodeExprs.body) mixed c_law11_BincodeExprs rfl rfl ?_
  by_cases hb : (b.length : Int) > 300
  · simp only [go_sem, ro, wo, wa, wx, rx, ins_e, vl_e, insC, exs, F_law11_BincodeExprs, decide_eq_true hb]
    refine call_same (s_alive11) (by simp [go_sem, ro, wo, wa, wx, rx, ins_e, vl_e, insC, exs]) ?_
    simp only [go_sem, ro, wo, wa, wx, rx, ins_e, vl_e, insC, exs]
    exact pdone [] (by simp only [go_sem, ro, wo, wa, wx, rx, ins_e, vl_e, insC, exs]) (by first | rfl | simp [go_sem, slv_ids, ro, wo, wa, wx, rx, ins_e, vl_e, insC, exs])
  have hb2 : b.length < 1000000000 := by omega
  have hg := (s_getexpr (b := b) (a := 0) (Nat.zero_le _) hb2 most hm).det
  have hr := (r_getexpr (b := b) (a := 0) (Nat.zero_le _) hb2 most hm).det
  have hq : (rq (gE (b.length + 1) 1 b 0 most) []).1.length ≤ 1000 ∧ ∀ x ∈ (rq (gE (b.length + 1) 1 b 0 most) []).1, x.lb.length ≤ 64 ∧ x.ty.length ≤ 1 := by
    cases h : gE (b.length + 1) 1 b 0 most with
    | ok p =>
      obtain ⟨l, k⟩ := p
      have h2 := gE_len _ _ (Nat.zero_le _) h
      have h3 := gE_all _ _ h
      exact ⟨by show l.length ≤ 1000; omega, fun x hx => ⟨(h3 x hx).2.1, (h3 x hx).2.2.1⟩⟩
    | error e => exact ⟨Nat.zero_le _, fun x hx => by cases hx⟩
  generalize rq (gE (b.length + 1) 1 b 0 most) [] = q at *
  obtain ⟨l, a2, e2⟩ := q
  simp only at hg hr hq
  have hs := r_sameall l hq.1 hq.2
  simp only [exs] at hs hg hr
  simp only [go_sem, ro, wo, wa, wx, rx, ins_e, vl_e, insC, exs, F_law11_BincodeExprs, decide_eq_false hb]
  refine call_nrec (s_read b hb2) rfl (by simp [go_sem]) 901 (by decide) (by simp only [go_sem, ro, wo, wa, wx, rx, ins_e, vl_e, insC, exs]) ?_
  simp only [go_sem, ro, wo, wa, wx, rx, ins_e, vl_e, insC, exs]
  refine call_m (hg) ⟨by decide, by decide⟩ (by first | rfl | exact slv_ids _) (by simp [go_sem, ro, wo, wa, wx, rx, ins_e, vl_e, insC, exs]) rfl rfl (by rfl) ?_
  simp only [go_sem, ro, wo, wa, wx, rx, ins_e, vl_e, insC, exs]
  refine call_same (q_Read b) (by simp [go_sem, ro, wo, wa, wx, rx, ins_e, vl_e, insC, exs]) ?_
  simp only [go_sem, ro, wo, wa, wx, rx, ins_e, vl_e, insC, exs]
  refine call_same (hr) (by simp [go_sem, ro, wo, wa, wx, rx, ins_e, vl_e, insC, exs]) ?_
  simp only [go_sem, ro, wo, wa, wx, rx, ins_e, vl_e, insC, exs]
  refine call_same (hs) (by simp [go_sem, ro, wo, wa, wx, rx, ins_e, vl_e, insC, exs]) ?_
  simp only [go_sem, ro, wo, wa, wx, rx, ins_e, vl_e, insC, exs]
  refine dcall_m (s_err true b a2 e2) ⟨by decide, by decide⟩ rfl (by simp) rfl rfl (by rfl) (by exact List.Mem.head _) ?_
  have n1 := beq_self_eq_true e2
  have n2 := beq_self_eq_true (a2 : Int)
  by_cases he : e2 = 0
  · subst he
    simp only [go_sem, ro, wo, wa, wx, rx, ins_e, vl_e, insC, exs]
    refine dcall_m (s_at true b a2 0) ⟨by decide, by decide⟩ rfl (by simp) rfl rfl (by rfl) (by exact List.Mem.head _) ?_
    simp only [go_sem, ro, wo, wa, wx, rx, ins_e, vl_e, insC, exs, n2]
    refine call_same (s_alive11) (by simp [go_sem, ro, wo, wa, wx, rx, ins_e, vl_e, insC, exs]) ?_
    simp only [go_sem, ro, wo, wa, wx, rx, ins_e, vl_e, insC, exs]
    exact pdone [] (by simp only [go_sem, ro, wo, wa, wx, rx, ins_e, vl_e, insC, exs]) (by first | rfl | simp [go_sem, slv_ids, ro, wo, wa, wx, rx, ins_e, vl_e, insC, exs])
  · simp only [go_sem, ro, wo, wa, wx, rx, ins_e, vl_e, insC, exs, n1, bne_t he]
    refine call_same (s_alive11) (by simp [go_sem, ro, wo, wa, wx, rx, ins_e, vl_e, insC, exs]) ?_
    simp only [go_sem, ro, wo, wa, wx, rx, ins_e, vl_e, insC, exs]
    exact pdone [] (by simp only [go_sem, ro, wo, wa, wx, rx, ins_e, vl_e, insC, exs]) (by first | rfl | simp [go_sem, slv_ids, ro, wo, wa, wx, rx, ins_e, vl_e, insC, exs])
end Go.Proofs.YtdhiiannngjjpaaGreatDoor
