/-
  Chapter 11, walks: the reference reads instructions.
-/
import Derived.Test.YtdhiiannngjjpaaDoorQo
set_option linter.unusedVariables false
set_option linter.unusedSimpArgs false
set_option linter.unusedSectionVars false
set_option maxRecDepth 100000
set_option maxHeartbeats 20000000
set_option linter.unusedVariables false
set_option linter.unusedSimpArgs false
namespace Go.Proofs.YtdhiiannngjjpaaDoor
open Go Go.Mw
-- @U: ro, wo, wa, wx, rx, bk_e, ins_e, vl_e

variable {b : List UInt8} {a : Nat} (ha : a ≤ b.length) (hb : b.length < 1000000000)
include ha hb
end Go.Proofs.YtdhiiannngjjpaaDoor
set_option maxRecDepth 100000
set_option maxHeartbeats 20000000
set_option linter.unusedVariables false
set_option linter.unusedSimpArgs false
namespace Go.Proofs.YtdhiiannngjjpaaDoor
open Go Go.Mw
-- @U: ro, wo, wa, wx, rx, bk_e, ins_e, vl_e, ac_

def wop (op : Int) : Rd Ins → Rd Ins
  | .ok (x, k) => .ok ({ x with op := op }, k)
  | .error e => .error e
theorem gI_op {b : List UInt8} {a : Nat} {op : Int} {k : Nat} (h : gO b a = .ok (op, k)) : gI b a = wop op (gM (rIm op) b k) := by
  simp only [gI, h, wop]
  cases gM (rIm op) b k <;> rfl
variable {b : List UInt8} {a : Nat} (ha : a ≤ b.length) (hb : b.length < 1000000000)
include ha hb
theorem s_get11 : RX n_bincode_Get [] b a (gI b a) z0 ins_ := by
  refine fun_sound (ic := F_bincode_Get.body) mixed c_bincode_Get rfl rfl ?_
  simp only [go_sem, ro, wo, wa, wx, rx, bk_e, ins_e, vl_e, ac_, F_bincode_Get]
  refine call_me (s_op ha hb) ⟨by decide, by decide⟩ (fun _ => rfl) (by simp) rfl (fun _ => rfl) (by rfl) ?_
  rintro ⟨op, a1, e1⟩ ⟨h1, h2⟩
  replace h1 : a1 ≤ b.length := h1
  rcases h2 with ⟨op', k, g1, g2⟩ | ⟨e, g1, he, _, g3⟩
  rotate_left
  · obtain rfl : e1 = e := g3
    simp only [go_sem, ro, wo, wa, wx, rx, bk_e, ins_e, vl_e, ac_]
    refine call_m (s_err true b a1 e1) ⟨by decide, by decide⟩ (by first | rfl | exact slv_ids _) (by simp [go_sem, ro, wo, wa, wx, rx, bk_e, ins_e, vl_e, ac_]) rfl rfl (by rfl) ?_
    simp only [go_sem, ro, wo, wa, wx, rx, bk_e, ins_e, vl_e, ac_, e_t he]
    refine wdone (Wk.nlm _ 2 (r' := insC z0) rfl (nl9 ..)) [] (ins_ z0) [(1000, ro true b a1 e1)] (by simp only [go_sem, ro, wo, wa, wx, rx, bk_e, ins_e, vl_e, ac_, insC]) (by simp only [go_sem, ro, wo, wa, wx, rx, bk_e, ins_e, vl_e, ac_]) rfl ⟨(z0, a1, e1), Out.er ?_ he h1, rfl, rfl⟩
    simp only [gI, g1]
  cases g2
  rw [gI_op g1]
  clear g1
  simp only [go_sem, ro, wo, wa, wx, rx, bk_e, ins_e, vl_e, ac_]
  refine call_m (s_err true b a1 0) ⟨by decide, by decide⟩ (by first | rfl | exact slv_ids _) (by simp [go_sem, ro, wo, wa, wx, rx, bk_e, ins_e, vl_e, ac_]) rfl rfl (by rfl) ?_
  simp only [go_sem, ro, wo, wa, wx, rx, bk_e, ins_e, vl_e, ac_]
  have hc := s_of5 op
  rw [(tells op).2.2.1] at hc
  have hi := imm_rng op
  generalize rIm op = i at *
  refine call_same hc (by simp [go_sem]) ?_
  rcases (show i = 0 ∨ i = 1 ∨ i = 2 ∨ i = 3 ∨ i = 4 ∨ i = 5 ∨ i = 6 ∨ i = 7 ∨ i = 8 ∨ i = 9 ∨ i = 10 ∨ i = 11 ∨ i = 12 ∨ i = 13 ∨ i = 14 ∨ i = 15 ∨ i = 16 ∨ i = 17 ∨ i = 18 ∨ i = 19 ∨ i = 20 by omega) with rfl | rfl | rfl | rfl | rfl | rfl | rfl | rfl | rfl | rfl | rfl | rfl | rfl | rfl | rfl | rfl | rfl | rfl | rfl | rfl | rfl
  · simp only [go_sem, ro, wo, wa, wx, rx, bk_e, ins_e, vl_e, ac_]
    refine call_m (s_err true b a1 0) ⟨by decide, by decide⟩ (by first | rfl | exact slv_ids _) (by simp [go_sem, ro, wo, wa, wx, rx, bk_e, ins_e, vl_e, ac_]) rfl rfl (by rfl) ?_
    simp only [go_sem, ro, wo, wa, wx, rx, bk_e, ins_e, vl_e, ac_]
    refine wdone (Wk.nlm _ 2 (r' := insC { z0 with op := op }) rfl (nl9 ..)) [] (ins_ { z0 with op := op }) [(1000, ro true b a1 0)] (by simp only [go_sem, ro, wo, wa, wx, rx, bk_e, ins_e, vl_e, ac_, insC]) (by simp only [go_sem, ro, wo, wa, wx, rx, bk_e, ins_e, vl_e, ac_]) rfl ⟨(_, a1, 0), Out.ok ?_ h1, rfl, rfl⟩
    rfl
  · simp only [go_sem, ro, wo, wa, wx, rx, bk_e, ins_e, vl_e, ac_]
    refine call_me (s_getblock h1 hb) ⟨by decide, by decide⟩ (fun _ => rfl) (by simp) rfl (fun _ => rfl) (by rfl) ?_
    rintro ⟨⟨k, v, x⟩, a2, e2⟩ ⟨p1, p2⟩
    replace p1 : a2 ≤ b.length := p1
    rcases p2 with ⟨q, k2, q1, q2⟩ | ⟨e, q1, he, q2, q3⟩
    · cases q2
      simp only [go_sem, ro, wo, wa, wx, rx, bk_e, ins_e, vl_e, ac_]
      refine call_m (s_err true b a2 0) ⟨by decide, by decide⟩ (by first | rfl | exact slv_ids _) (by simp [go_sem, ro, wo, wa, wx, rx, bk_e, ins_e, vl_e, ac_]) rfl rfl (by rfl) ?_
      simp only [go_sem, ro, wo, wa, wx, rx, bk_e, ins_e, vl_e, ac_]
      refine wdone (Wk.nlm _ 2 (r' := insC { z0 with op := op, k := k, v := v, x := x }) rfl (nl9 ..)) [] (ins_ { z0 with op := op, k := k, v := v, x := x }) [(1000, ro true b a2 0)] (by simp only [go_sem, ro, wo, wa, wx, rx, bk_e, ins_e, vl_e, ac_, insC]) (by simp only [go_sem, ro, wo, wa, wx, rx, bk_e, ins_e, vl_e, ac_]) rfl ⟨(_, a2, 0), Out.ok ?_ p1, rfl, rfl⟩
      simp only [gM, q1]
      rfl
    · obtain rfl : e2 = e := q3
      cases q2
      simp only [go_sem, ro, wo, wa, wx, rx, bk_e, ins_e, vl_e, ac_]
      refine call_m (s_err true b a2 e2) ⟨by decide, by decide⟩ (by first | rfl | exact slv_ids _) (by simp [go_sem, ro, wo, wa, wx, rx, bk_e, ins_e, vl_e, ac_]) rfl rfl (by rfl) ?_
      simp only [go_sem, ro, wo, wa, wx, rx, bk_e, ins_e, vl_e, ac_, e_t he]
      refine wdone (Wk.nlm _ 2 (r' := insC z0) rfl (nl9 ..)) [] (ins_ z0) [(1000, ro true b a2 e2)] (by simp only [go_sem, ro, wo, wa, wx, rx, bk_e, ins_e, vl_e, ac_, insC]) (by simp only [go_sem, ro, wo, wa, wx, rx, bk_e, ins_e, vl_e, ac_]) rfl ⟨(z0, a2, e2), Out.er ?_ he p1, rfl, rfl⟩
      simp only [gM, q1]
      rfl
  ·
    simp only [go_sem, ro, wo, wa, wx, rx, bk_e, ins_e, vl_e, ac_]
    refine call_m (s_U32 true b a1 0 h1 hb) ⟨by decide, by decide⟩ (by first | rfl | exact slv_ids _) (by simp [go_sem, ro, wo, wa, wx, rx, bk_e, ins_e, vl_e, ac_]) rfl rfl (by rfl) ?_
    rcases rU_g h1 with ⟨x, k, g1, g2, g3, g4⟩ | ⟨e, he, g1, g2⟩
    · simp only [go_sem, ro, wo, wa, wx, rx, bk_e, ins_e, vl_e, ac_, tt0, g2]
      refine call_m (s_err true b k 0) ⟨by decide, by decide⟩ (by first | rfl | exact slv_ids _) (by simp [go_sem, ro, wo, wa, wx, rx, bk_e, ins_e, vl_e, ac_]) rfl rfl (by rfl) ?_
      simp only [go_sem, ro, wo, wa, wx, rx, bk_e, ins_e, vl_e, ac_]
      refine wdone (Wk.nlm _ 2 (r' := insC { z0 with op := op, a := x }) rfl (nl9 ..)) [] (ins_ { z0 with op := op, a := x }) [(1000, ro true b k 0)] (by simp only [go_sem, ro, wo, wa, wx, rx, bk_e, ins_e, vl_e, ac_, insC]) (by simp only [go_sem, ro, wo, wa, wx, rx, bk_e, ins_e, vl_e, ac_]) rfl ⟨(_, k, 0), Out.ok ?_ g4, rfl, rfl⟩
      simp only [gM, g1]
      rfl
    · simp only [go_sem, ro, wo, wa, wx, rx, bk_e, ins_e, vl_e, ac_, tt0, g2]
      refine call_m (s_err true b a1 e) ⟨by decide, by decide⟩ (by first | rfl | exact slv_ids _) (by simp [go_sem, ro, wo, wa, wx, rx, bk_e, ins_e, vl_e, ac_]) rfl rfl (by rfl) ?_
      simp only [go_sem, ro, wo, wa, wx, rx, bk_e, ins_e, vl_e, ac_, e_t he]
      refine wdone (Wk.nlm _ 2 (r' := insC z0) rfl (nl9 ..)) [] (ins_ z0) [(1000, ro true b a1 e)] (by simp only [go_sem, ro, wo, wa, wx, rx, bk_e, ins_e, vl_e, ac_, insC]) (by simp only [go_sem, ro, wo, wa, wx, rx, bk_e, ins_e, vl_e, ac_]) rfl ⟨(z0, a1, e), Out.er ?_ he h1, rfl, rfl⟩
      simp only [gM, g1]
      rfl
  · simp only [go_sem, ro, wo, wa, wx, rx, bk_e, ins_e, vl_e, ac_]
    refine call_m (s_count true b a1 0 64 h1 hb) ⟨by decide, by decide⟩ (by first | rfl | exact slv_ids _) (by simp [go_sem, ro, wo, wa, wx, rx, bk_e, ins_e, vl_e, ac_]) rfl rfl (by rfl) ?_
    simp only [go_sem, ro, wo, wa, wx, rx, bk_e, ins_e, vl_e, ac_, tt0]
    refine loop_rule (fun q : Nat × List Int × Nat × Int => ⟨[(5, .int .i64 (((rCount true b a1 0 64).1 : Int) - q.1)), (3, .mp 3 9 0 0), (2, .mp 2 9 0 0), (0, .mp 1000 4 0 0)],
        [(900, ⟨3, 1, q.2.1.map vl_, false⟩), (3, ⟨33, 9, [[.int .i64 op, .int .i64 0, .int .i64 0, .int .u64 0, .int .i64 0, .int .i64 0, .int .i64 0, .nl, .ms 900 1 0 q.1]], true⟩), (2, ⟨33, 9, [[.int .i64 0, .int .i64 0, .int .i64 0, .int .u64 0, .int .i64 0, .int .i64 0, .int .i64 0, .nl, .nl]], true⟩), (1000, ro true b q.2.2.1 q.2.2.2)]⟩)
      (fun q => q.1 ≤ 64 ∧ q.2.1.length = q.1 ∧ q.2.2.1 ≤ b.length ∧ ((∃ n k, gC b a1 64 = .ok (n, k) ∧ (rCount true b a1 0 64).1 = n ∧ n ≤ 64 ∧ LI b n k q) ∨ ((rCount true b a1 0 64).1 = 0 ∧ q.1 = 0 ∧ q.2.2.2 ≠ 0 ∧ gC b a1 64 = .error (q.2.2.2, q.2.2.1))))
      (fun q => 64 - q.1) (0, [], (rCount true b a1 0 64).2.1, (rCount true b a1 0 64).2.2) ?_
      ((Wk.new0 _ 900 1 3 (by decide)).trans ((Wk.nlm _ 3 (t := 33) (st := 9) (r := [.int .i64 op, .int .i64 0, .int .i64 0, .int .u64 0, .int .i64 0, .int .i64 0, .int .i64 0, .nl, .nl]) (r' := [.int .i64 op, .int .i64 0, .int .i64 0, .int .u64 0, .int .i64 0, .int .i64 0, .int .i64 0, .nl, .ms 900 1 0 0]) (by simp only [go_sem, ro, wo, wa, wx, rx, bk_e, ins_e, vl_e, ac_]) ⟨.inl rfl, .inl rfl, .inl rfl, .inl rfl, .inl rfl, .inl rfl, .inl rfl, .inl rfl, .inr ⟨rfl, .inr ⟨900, 1, rfl⟩⟩, trivial⟩).trans (Wk.of ?_ ?_))) ?_
    · rcases rCount_g 64 h1 with ⟨n, k, g1, g2, g3, g4, g5⟩ | ⟨e, he, g1, g2⟩
      · rw [g2]
        exact ⟨(by decide : 0 ≤ 64), rfl, g5, .inl ⟨n, k, g1, rfl, by omega, Nat.zero_le _, rfl, g5, .inl ⟨rfl, by rw [pre_nil]; rfl⟩⟩⟩
      · rw [g2]
        exact ⟨(by decide : 0 ≤ 64), rfl, h1, .inr ⟨rfl, rfl, he, g1⟩⟩
    · simp only [go_sem, ro, wo, wa, wx, rx, bk_e, ins_e, vl_e, ac_]; try simp [go_sem]
    · simp only [go_sem, ro, wo, wa, wx, rx, bk_e, ins_e, vl_e, ac_]; try simp [go_sem]
    rintro ⟨i, l, a2, e2⟩ ⟨hi2, hl, ha2, hq⟩
    simp only at hi2 hl ha2 hq
    generalize hN : (rCount true b a1 0 64).1 = N at hq
    by_cases hlt : (N : Int) - (i : Int) > 0
    · have hi3 : i < N := by omega
      have e9 : IntKind.i64.wrap ((N : Int) - (i : Int) - 1) = (N : Int) - ((i + 1 : Nat) : Int) := by rw [wi (by omega) (by omega)]; omega
      have happ := fun ys => appO_map 900 3 1 i vl_ l ys hl
      simp only [go_sem, ro, wo, wa, wx, rx, bk_e, ins_e, vl_e, ac_, decide_eq_true hlt]
      refine dcall_m (s_U32 true b a2 e2 ha2 hb) ⟨by decide, by decide⟩ rfl (by simp [go_sem]) rfl rfl (by rfl) (by exact List.Mem.head _) ?_
      rcases hq with ⟨n, k, q1, q2, q3, q4⟩ | ⟨q2, q3, q4, q5⟩
      rotate_left
      · omega
      subst q2
      by_cases he1 : e2 = 0
      · subst he1
        rcases rU_g ha2 with ⟨x, k1, g1, g2, g3, g4⟩ | ⟨e, he, g1, g2⟩
        · simp only [go_sem, ro, wo, wa, wx, rx, bk_e, ins_e, vl_e, ac_, tt0, g2, happ]
          refine ⟨by omega, klp_n (i + 1, l ++ [(x : Int)], k1, 0) ⟨by omega, by simp; omega, g4, .inl ⟨N, k, q1, rfl, q3, LI_ok q4 hi3 g4 g1⟩⟩ (show 64 - (i + 1) < 64 - i by omega) (Wk.of ?_ ?_)⟩
          · simp only [go_sem, ro, wo, wa, wx, rx, bk_e, ins_e, vl_e, ac_, e9]
          · simp only [go_sem, ro, wo, wa, wx, rx, bk_e, ins_e, vl_e, ac_]
            try simp [vl_e]
        · simp only [go_sem, ro, wo, wa, wx, rx, bk_e, ins_e, vl_e, ac_, tt0, g2, happ]
          refine ⟨by omega, klp_n (i + 1, l ++ [0], a2, e) ⟨by omega, by simp; omega, ha2, .inl ⟨N, k, q1, rfl, q3, LI_er q4 hi3 he g1⟩⟩ (show 64 - (i + 1) < 64 - i by omega) (Wk.of ?_ ?_)⟩
          · simp only [go_sem, ro, wo, wa, wx, rx, bk_e, ins_e, vl_e, ac_, e9]
          · simp only [go_sem, ro, wo, wa, wx, rx, bk_e, ins_e, vl_e, ac_]
            try simp [vl_e]
      · simp only [go_sem, ro, wo, wa, wx, rx, bk_e, ins_e, vl_e, ac_, e_f he1, Bool.true_and, rU_f, happ]
        refine ⟨by omega, klp_n (i + 1, l ++ [0], a2, e2) ⟨by omega, by simp; omega, ha2, .inl ⟨N, k, q1, rfl, q3, LI_go q4 he1 hi3⟩⟩ (show 64 - (i + 1) < 64 - i by omega) (Wk.of ?_ ?_)⟩
        · simp only [go_sem, ro, wo, wa, wx, rx, bk_e, ins_e, vl_e, ac_, e9]
        · simp only [go_sem, ro, wo, wa, wx, rx, bk_e, ins_e, vl_e, ac_]
          try simp [vl_e]
    · have hge : N ≤ i := by omega
      simp only [go_sem, ro, wo, wa, wx, rx, bk_e, ins_e, vl_e, ac_, decide_eq_false hlt]
      refine call_m (s_U32 true b a2 e2 ha2 hb) ⟨by decide, by decide⟩ (by first | rfl | exact slv_ids _) (by simp [go_sem, ro, wo, wa, wx, rx, bk_e, ins_e, vl_e, ac_]) rfl rfl (by rfl) ?_
      have nlx : ∀ x : Int, nlm [.int .i64 op, .int .i64 x, .int .i64 0, .int .u64 0, .int .i64 0, .int .i64 0, .int .i64 0, .nl, .ms 900 1 0 i] [.int .i64 op, .int .i64 x, .int .i64 0, .int .u64 0, .int .i64 0, .int .i64 0, .int .i64 0, .sl 1 [], .ms 900 1 0 i] := fun x => nl8 ..
      by_cases he1 : e2 = 0
      · subst he1
        rcases hq with ⟨n, k, q1, q2, q3, q4⟩ | ⟨_, _, q4, _⟩
        rotate_left
        · exact absurd rfl q4
        subst q2
        obtain rfl : i = N := Nat.le_antisymm q4.1 hge
        rcases LI_end q4 with ⟨_, q5⟩ | ⟨q5, _⟩
        rotate_left
        · exact absurd rfl q5
        rcases rU_g ha2 with ⟨x, k1, g1, g2, g3, g4⟩ | ⟨e, he, g1, g2⟩
        · simp only [go_sem, ro, wo, wa, wx, rx, bk_e, ins_e, vl_e, ac_, tt0, g2]
          refine call_m (s_err true b k1 0) ⟨by decide, by decide⟩ (by first | rfl | exact slv_ids _) (by simp [go_sem, ro, wo, wa, wx, rx, bk_e, ins_e, vl_e, ac_]) rfl rfl (by rfl) ?_
          simp only [go_sem, ro, wo, wa, wx, rx, bk_e, ins_e, vl_e, ac_]
          refine wdone (Wk.nlm _ 2 rfl (nlx x)) [900] (ins_ { z0 with op := op, a := x, lb := l }) [(1000, ro true b k1 0)] ?_ (by simp only [go_sem, ro, wo, wa, wx, rx, bk_e, ins_e, vl_e, ac_]) rfl ⟨(_, k1, 0), Out.ok ?_ g4, rfl, rfl⟩
          · simp only [go_sem, ro, wo, wa, wx, rx, bk_e, ins_e, vl_e, ac_, List.length_map, hl, Nat.le_refl]
            rw [List.take_of_length_le (by rw [List.length_map]; omega)]
            rfl
          · simp only [gM, q1, q5, g1]
            rfl
        · simp only [go_sem, ro, wo, wa, wx, rx, bk_e, ins_e, vl_e, ac_, tt0, g2]
          refine call_m (s_err true b a2 e) ⟨by decide, by decide⟩ (by first | rfl | exact slv_ids _) (by simp [go_sem, ro, wo, wa, wx, rx, bk_e, ins_e, vl_e, ac_]) rfl rfl (by rfl) ?_
          simp only [go_sem, ro, wo, wa, wx, rx, bk_e, ins_e, vl_e, ac_, e_t he]
          refine wdone (Wk.nlm _ 2 (r' := insC z0) rfl (nl9 ..)) [] (ins_ z0) [(1000, ro true b a2 e)] (by simp only [go_sem, ro, wo, wa, wx, rx, bk_e, ins_e, vl_e, ac_, insC]) (by simp only [go_sem, ro, wo, wa, wx, rx, bk_e, ins_e, vl_e, ac_]) rfl ⟨(z0, a2, e), Out.er ?_ he ha2, rfl, rfl⟩
          simp only [gM, q1, q5, g1]
          rfl
      · have hE : gM 3 b a1 = .error (e2, a2) := by
          rcases hq with ⟨n, k, q1, q2, q3, q4⟩ | ⟨_, _, _, q4⟩
          · subst q2
            obtain rfl : i = N := Nat.le_antisymm q4.1 hge
            rcases LI_end q4 with ⟨q5, _⟩ | ⟨_, q5⟩
            · exact absurd q5 he1
            · simp only [gM, q1, q5]
              rfl
          · simp only [gM, q4]
            rfl
        simp only [go_sem, ro, wo, wa, wx, rx, bk_e, ins_e, vl_e, ac_, e_f he1, Bool.true_and, rU_f]
        refine call_m (s_err true b a2 e2) ⟨by decide, by decide⟩ (by first | rfl | exact slv_ids _) (by simp [go_sem, ro, wo, wa, wx, rx, bk_e, ins_e, vl_e, ac_]) rfl rfl (by rfl) ?_
        simp only [go_sem, ro, wo, wa, wx, rx, bk_e, ins_e, vl_e, ac_, e_t he1]
        refine wdone (Wk.nlm _ 2 (r' := insC z0) rfl (nl9 ..)) [] (ins_ z0) [(1000, ro true b a2 e2)] (by simp only [go_sem, ro, wo, wa, wx, rx, bk_e, ins_e, vl_e, ac_, insC]) (by simp only [go_sem, ro, wo, wa, wx, rx, bk_e, ins_e, vl_e, ac_]) rfl ⟨(z0, a2, e2), Out.er ?_ he1 ha2, rfl, rfl⟩
        rw [hE]
        rfl
  ·
    simp only [go_sem, ro, wo, wa, wx, rx, bk_e, ins_e, vl_e, ac_]
    refine call_m (s_U32 true b a1 0 h1 hb) ⟨by decide, by decide⟩ (by first | rfl | exact slv_ids _) (by simp [go_sem, ro, wo, wa, wx, rx, bk_e, ins_e, vl_e, ac_]) rfl rfl (by rfl) ?_
    rcases rU_g h1 with ⟨x, k, g1, g2, g3, g4⟩ | ⟨e, he, g1, g2⟩
    · simp only [go_sem, ro, wo, wa, wx, rx, bk_e, ins_e, vl_e, ac_, tt0, g2]
      refine call_m (s_err true b k 0) ⟨by decide, by decide⟩ (by first | rfl | exact slv_ids _) (by simp [go_sem, ro, wo, wa, wx, rx, bk_e, ins_e, vl_e, ac_]) rfl rfl (by rfl) ?_
      simp only [go_sem, ro, wo, wa, wx, rx, bk_e, ins_e, vl_e, ac_]
      refine wdone (Wk.nlm _ 2 (r' := insC { z0 with op := op, a := x }) rfl (nl9 ..)) [] (ins_ { z0 with op := op, a := x }) [(1000, ro true b k 0)] (by simp only [go_sem, ro, wo, wa, wx, rx, bk_e, ins_e, vl_e, ac_, insC]) (by simp only [go_sem, ro, wo, wa, wx, rx, bk_e, ins_e, vl_e, ac_]) rfl ⟨(_, k, 0), Out.ok ?_ g4, rfl, rfl⟩
      simp only [gM, g1]
      rfl
    · simp only [go_sem, ro, wo, wa, wx, rx, bk_e, ins_e, vl_e, ac_, tt0, g2]
      refine call_m (s_err true b a1 e) ⟨by decide, by decide⟩ (by first | rfl | exact slv_ids _) (by simp [go_sem, ro, wo, wa, wx, rx, bk_e, ins_e, vl_e, ac_]) rfl rfl (by rfl) ?_
      simp only [go_sem, ro, wo, wa, wx, rx, bk_e, ins_e, vl_e, ac_, e_t he]
      refine wdone (Wk.nlm _ 2 (r' := insC z0) rfl (nl9 ..)) [] (ins_ z0) [(1000, ro true b a1 e)] (by simp only [go_sem, ro, wo, wa, wx, rx, bk_e, ins_e, vl_e, ac_, insC]) (by simp only [go_sem, ro, wo, wa, wx, rx, bk_e, ins_e, vl_e, ac_]) rfl ⟨(z0, a1, e), Out.er ?_ he h1, rfl, rfl⟩
      simp only [gM, g1]
      rfl
  ·
    simp only [go_sem, ro, wo, wa, wx, rx, bk_e, ins_e, vl_e, ac_]
    refine call_m (s_U32 true b a1 0 h1 hb) ⟨by decide, by decide⟩ (by first | rfl | exact slv_ids _) (by simp [go_sem, ro, wo, wa, wx, rx, bk_e, ins_e, vl_e, ac_]) rfl rfl (by rfl) ?_
    rcases rU_g h1 with ⟨x, k, g1, g2, g3, g4⟩ | ⟨e, he, g1, g2⟩
    · simp only [go_sem, ro, wo, wa, wx, rx, bk_e, ins_e, vl_e, ac_, tt0, g2]
      refine call_m (s_U32 true b k 0 g4 hb) ⟨by decide, by decide⟩ (by first | rfl | exact slv_ids _) (by simp [go_sem, ro, wo, wa, wx, rx, bk_e, ins_e, vl_e, ac_]) rfl rfl (by rfl) ?_
      rcases rU_g g4 with ⟨y, k1, p1, p2, p3, p4⟩ | ⟨e, he, p1, p2⟩
      · simp only [go_sem, ro, wo, wa, wx, rx, bk_e, ins_e, vl_e, ac_, tt0, p2]
        refine call_m (s_err true b k1 0) ⟨by decide, by decide⟩ (by first | rfl | exact slv_ids _) (by simp [go_sem, ro, wo, wa, wx, rx, bk_e, ins_e, vl_e, ac_]) rfl rfl (by rfl) ?_
        simp only [go_sem, ro, wo, wa, wx, rx, bk_e, ins_e, vl_e, ac_]
        refine wdone (Wk.nlm _ 2 (r' := insC { z0 with op := op, a := x, b := y }) rfl (nl9 ..)) [] (ins_ { z0 with op := op, a := x, b := y }) [(1000, ro true b k1 0)] (by simp only [go_sem, ro, wo, wa, wx, rx, bk_e, ins_e, vl_e, ac_, insC]) (by simp only [go_sem, ro, wo, wa, wx, rx, bk_e, ins_e, vl_e, ac_]) rfl ⟨(_, k1, 0), Out.ok ?_ p4, rfl, rfl⟩
        simp only [gM, g1, p1]
        rfl
      · simp only [go_sem, ro, wo, wa, wx, rx, bk_e, ins_e, vl_e, ac_, tt0, p2]
        refine call_m (s_err true b k e) ⟨by decide, by decide⟩ (by first | rfl | exact slv_ids _) (by simp [go_sem, ro, wo, wa, wx, rx, bk_e, ins_e, vl_e, ac_]) rfl rfl (by rfl) ?_
        simp only [go_sem, ro, wo, wa, wx, rx, bk_e, ins_e, vl_e, ac_, e_t he]
        refine wdone (Wk.nlm _ 2 (r' := insC z0) rfl (nl9 ..)) [] (ins_ z0) [(1000, ro true b k e)] (by simp only [go_sem, ro, wo, wa, wx, rx, bk_e, ins_e, vl_e, ac_, insC]) (by simp only [go_sem, ro, wo, wa, wx, rx, bk_e, ins_e, vl_e, ac_]) rfl ⟨(z0, k, e), Out.er ?_ he g4, rfl, rfl⟩
        simp only [gM, g1, p1]
        rfl
    · simp only [go_sem, ro, wo, wa, wx, rx, bk_e, ins_e, vl_e, ac_, tt0, g2]
      refine call_m (s_U32 true b a1 e h1 hb) ⟨by decide, by decide⟩ (by first | rfl | exact slv_ids _) (by simp [go_sem, ro, wo, wa, wx, rx, bk_e, ins_e, vl_e, ac_]) rfl rfl (by rfl) ?_
      simp only [go_sem, ro, wo, wa, wx, rx, bk_e, ins_e, vl_e, ac_, e_f he, Bool.true_and, rU_f]
      refine call_m (s_err true b a1 e) ⟨by decide, by decide⟩ (by first | rfl | exact slv_ids _) (by simp [go_sem, ro, wo, wa, wx, rx, bk_e, ins_e, vl_e, ac_]) rfl rfl (by rfl) ?_
      simp only [go_sem, ro, wo, wa, wx, rx, bk_e, ins_e, vl_e, ac_, e_t he]
      refine wdone (Wk.nlm _ 2 (r' := insC z0) rfl (nl9 ..)) [] (ins_ z0) [(1000, ro true b a1 e)] (by simp only [go_sem, ro, wo, wa, wx, rx, bk_e, ins_e, vl_e, ac_, insC]) (by simp only [go_sem, ro, wo, wa, wx, rx, bk_e, ins_e, vl_e, ac_]) rfl ⟨(z0, a1, e), Out.er ?_ he h1, rfl, rfl⟩
      simp only [gM, g1]
      rfl
  · simp only [go_sem, ro, wo, wa, wx, rx, bk_e, ins_e, vl_e, ac_]
    refine call_m (s_U32 true b a1 0 h1 hb) ⟨by decide, by decide⟩ (by first | rfl | exact slv_ids _) (by simp [go_sem, ro, wo, wa, wx, rx, bk_e, ins_e, vl_e, ac_]) rfl rfl (by rfl) ?_
    rcases rU_g h1 with ⟨x, k, g1, g2, g3, g4⟩ | ⟨e, he, g1, g2⟩
    · by_cases hx : x = 1
      · subst hx
        have d : (((1 : Nat) : Int) != 1) = false := rfl
        simp only [go_sem, ro, wo, wa, wx, rx, bk_e, ins_e, vl_e, ac_, tt0, g2, d]
        refine call_me (s_getval g4 hb) ⟨by decide, by decide⟩ (fun _ => rfl) (by simp) rfl (fun _ => rfl) (by rfl) ?_
        rintro ⟨t, a2, e2⟩ ⟨p1, p2⟩
        replace p1 : a2 ≤ b.length := p1
        rcases p2 with ⟨q, k2, q1, q2⟩ | ⟨e, q1, he, q2, q3⟩
        · cases q2
          simp only [go_sem, ro, wo, wa, wx, rx, bk_e, ins_e, vl_e, ac_]
          refine call_m (s_err true b a2 0) ⟨by decide, by decide⟩ (by first | rfl | exact slv_ids _) (by simp [go_sem, ro, wo, wa, wx, rx, bk_e, ins_e, vl_e, ac_]) rfl rfl (by rfl) ?_
          simp only [go_sem, ro, wo, wa, wx, rx, bk_e, ins_e, vl_e, ac_]
          refine wdone (Wk.nlm _ 2 rfl (nl7 ..)) [80] (ins_ { z0 with op := op, ty := [t] }) [(1000, ro true b a2 0)] ?_ (by simp only [go_sem, ro, wo, wa, wx, rx, bk_e, ins_e, vl_e, ac_]) rfl ⟨(_, a2, 0), Out.ok ?_ p1, rfl, rfl⟩
          · simp only [go_sem, ro, wo, wa, wx, rx, bk_e, ins_e, vl_e, ac_]
            rfl
          · simp only [gM, g1, q1]
            rfl
        · obtain rfl : e2 = e := q3
          cases q2
          simp only [go_sem, ro, wo, wa, wx, rx, bk_e, ins_e, vl_e, ac_]
          refine call_m (s_err true b a2 e2) ⟨by decide, by decide⟩ (by first | rfl | exact slv_ids _) (by simp [go_sem, ro, wo, wa, wx, rx, bk_e, ins_e, vl_e, ac_]) rfl rfl (by rfl) ?_
          simp only [go_sem, ro, wo, wa, wx, rx, bk_e, ins_e, vl_e, ac_, e_t he]
          refine wdone (Wk.nlm _ 2 (r' := insC z0) rfl (nl9 ..)) [] (ins_ z0) [(1000, ro true b a2 e2)] (by simp only [go_sem, ro, wo, wa, wx, rx, bk_e, ins_e, vl_e, ac_, insC]) (by simp only [go_sem, ro, wo, wa, wx, rx, bk_e, ins_e, vl_e, ac_]) rfl ⟨(z0, a2, e2), Out.er ?_ he p1, rfl, rfl⟩
          simp only [gM, g1, q1]
          rfl
      · have d : ((x : Int) != 1) = true := by simp; omega
        simp only [go_sem, ro, wo, wa, wx, rx, bk_e, ins_e, vl_e, ac_, tt0, g2, d]
        refine call_m (s_fail_ok b k 4) ⟨by decide, by decide⟩ (by first | rfl | exact slv_ids _) (by simp [go_sem, ro, wo, wa, wx, rx, bk_e, ins_e, vl_e, ac_]) rfl rfl (by rfl) ?_
        simp only [go_sem, ro, wo, wa, wx, rx, bk_e, ins_e, vl_e, ac_]
        refine call_m (s_getval_e g4 hb (show (4 : Int) ≠ 0 by decide)) ⟨by decide, by decide⟩ (by first | rfl | exact slv_ids _) (by simp [go_sem, ro, wo, wa, wx, rx, bk_e, ins_e, vl_e, ac_]) rfl rfl (by rfl) ?_
        simp only [go_sem, ro, wo, wa, wx, rx, bk_e, ins_e, vl_e, ac_]
        refine call_m (s_err true b k 4) ⟨by decide, by decide⟩ (by first | rfl | exact slv_ids _) (by simp [go_sem, ro, wo, wa, wx, rx, bk_e, ins_e, vl_e, ac_]) rfl rfl (by rfl) ?_
        simp only [go_sem, ro, wo, wa, wx, rx, bk_e, ins_e, vl_e, ac_]
        refine wdone (Wk.nlm _ 2 (r' := insC z0) rfl (nl9 ..)) [] (ins_ z0) [(1000, ro true b k 4)] (by simp only [go_sem, ro, wo, wa, wx, rx, bk_e, ins_e, vl_e, ac_, insC]) (by simp only [go_sem, ro, wo, wa, wx, rx, bk_e, ins_e, vl_e, ac_]) rfl ⟨(z0, k, 4), Out.er ?_ (by decide) g4, rfl, rfl⟩
        simp only [gM, g1, hx]
        rfl
    · have d : (((0 : Nat) : Int) != 1) = true := rfl
      simp only [go_sem, ro, wo, wa, wx, rx, bk_e, ins_e, vl_e, ac_, tt0, g2, d]
      refine call_m (s_fail true b a1 e 4) ⟨by decide, by decide⟩ (by first | rfl | exact slv_ids _) (by simp [go_sem, ro, wo, wa, wx, rx, bk_e, ins_e, vl_e, ac_]) rfl rfl (by rfl) ?_
      simp only [go_sem, ro, wo, wa, wx, rx, bk_e, ins_e, vl_e, ac_, e_f he, Bool.true_and]
      refine call_m (s_getval_e h1 hb he) ⟨by decide, by decide⟩ (by first | rfl | exact slv_ids _) (by simp [go_sem, ro, wo, wa, wx, rx, bk_e, ins_e, vl_e, ac_]) rfl rfl (by rfl) ?_
      simp only [go_sem, ro, wo, wa, wx, rx, bk_e, ins_e, vl_e, ac_]
      refine call_m (s_err true b a1 e) ⟨by decide, by decide⟩ (by first | rfl | exact slv_ids _) (by simp [go_sem, ro, wo, wa, wx, rx, bk_e, ins_e, vl_e, ac_]) rfl rfl (by rfl) ?_
      simp only [go_sem, ro, wo, wa, wx, rx, bk_e, ins_e, vl_e, ac_, e_t he]
      refine wdone (Wk.nlm _ 2 (r' := insC z0) rfl (nl9 ..)) [] (ins_ z0) [(1000, ro true b a1 e)] (by simp only [go_sem, ro, wo, wa, wx, rx, bk_e, ins_e, vl_e, ac_, insC]) (by simp only [go_sem, ro, wo, wa, wx, rx, bk_e, ins_e, vl_e, ac_]) rfl ⟨(z0, a1, e), Out.er ?_ he h1, rfl, rfl⟩
      simp only [gM, g1]
      rfl
  ·
    simp only [go_sem, ro, wo, wa, wx, rx, bk_e, ins_e, vl_e, ac_]
    refine call_m (s_U32 true b a1 0 h1 hb) ⟨by decide, by decide⟩ (by first | rfl | exact slv_ids _) (by simp [go_sem, ro, wo, wa, wx, rx, bk_e, ins_e, vl_e, ac_]) rfl rfl (by rfl) ?_
    rcases rU_g h1 with ⟨x, k, g1, g2, g3, g4⟩ | ⟨e, he, g1, g2⟩
    · simp only [go_sem, ro, wo, wa, wx, rx, bk_e, ins_e, vl_e, ac_, tt0, g2]
      refine call_m (s_err true b k 0) ⟨by decide, by decide⟩ (by first | rfl | exact slv_ids _) (by simp [go_sem, ro, wo, wa, wx, rx, bk_e, ins_e, vl_e, ac_]) rfl rfl (by rfl) ?_
      simp only [go_sem, ro, wo, wa, wx, rx, bk_e, ins_e, vl_e, ac_]
      refine wdone (Wk.nlm _ 2 (r' := insC { z0 with op := op, a := x }) rfl (nl9 ..)) [] (ins_ { z0 with op := op, a := x }) [(1000, ro true b k 0)] (by simp only [go_sem, ro, wo, wa, wx, rx, bk_e, ins_e, vl_e, ac_, insC]) (by simp only [go_sem, ro, wo, wa, wx, rx, bk_e, ins_e, vl_e, ac_]) rfl ⟨(_, k, 0), Out.ok ?_ g4, rfl, rfl⟩
      simp only [gM, g1]
      rfl
    · simp only [go_sem, ro, wo, wa, wx, rx, bk_e, ins_e, vl_e, ac_, tt0, g2]
      refine call_m (s_err true b a1 e) ⟨by decide, by decide⟩ (by first | rfl | exact slv_ids _) (by simp [go_sem, ro, wo, wa, wx, rx, bk_e, ins_e, vl_e, ac_]) rfl rfl (by rfl) ?_
      simp only [go_sem, ro, wo, wa, wx, rx, bk_e, ins_e, vl_e, ac_, e_t he]
      refine wdone (Wk.nlm _ 2 (r' := insC z0) rfl (nl9 ..)) [] (ins_ z0) [(1000, ro true b a1 e)] (by simp only [go_sem, ro, wo, wa, wx, rx, bk_e, ins_e, vl_e, ac_, insC]) (by simp only [go_sem, ro, wo, wa, wx, rx, bk_e, ins_e, vl_e, ac_]) rfl ⟨(z0, a1, e), Out.er ?_ he h1, rfl, rfl⟩
      simp only [gM, g1]
      rfl
  ·
    simp only [go_sem, ro, wo, wa, wx, rx, bk_e, ins_e, vl_e, ac_]
    refine call_m (s_U32 true b a1 0 h1 hb) ⟨by decide, by decide⟩ (by first | rfl | exact slv_ids _) (by simp [go_sem, ro, wo, wa, wx, rx, bk_e, ins_e, vl_e, ac_]) rfl rfl (by rfl) ?_
    rcases rU_g h1 with ⟨x, k, g1, g2, g3, g4⟩ | ⟨e, he, g1, g2⟩
    · simp only [go_sem, ro, wo, wa, wx, rx, bk_e, ins_e, vl_e, ac_, tt0, g2]
      refine call_m (s_err true b k 0) ⟨by decide, by decide⟩ (by first | rfl | exact slv_ids _) (by simp [go_sem, ro, wo, wa, wx, rx, bk_e, ins_e, vl_e, ac_]) rfl rfl (by rfl) ?_
      simp only [go_sem, ro, wo, wa, wx, rx, bk_e, ins_e, vl_e, ac_]
      refine wdone (Wk.nlm _ 2 (r' := insC { z0 with op := op, a := x }) rfl (nl9 ..)) [] (ins_ { z0 with op := op, a := x }) [(1000, ro true b k 0)] (by simp only [go_sem, ro, wo, wa, wx, rx, bk_e, ins_e, vl_e, ac_, insC]) (by simp only [go_sem, ro, wo, wa, wx, rx, bk_e, ins_e, vl_e, ac_]) rfl ⟨(_, k, 0), Out.ok ?_ g4, rfl, rfl⟩
      simp only [gM, g1]
      rfl
    · simp only [go_sem, ro, wo, wa, wx, rx, bk_e, ins_e, vl_e, ac_, tt0, g2]
      refine call_m (s_err true b a1 e) ⟨by decide, by decide⟩ (by first | rfl | exact slv_ids _) (by simp [go_sem, ro, wo, wa, wx, rx, bk_e, ins_e, vl_e, ac_]) rfl rfl (by rfl) ?_
      simp only [go_sem, ro, wo, wa, wx, rx, bk_e, ins_e, vl_e, ac_, e_t he]
      refine wdone (Wk.nlm _ 2 (r' := insC z0) rfl (nl9 ..)) [] (ins_ z0) [(1000, ro true b a1 e)] (by simp only [go_sem, ro, wo, wa, wx, rx, bk_e, ins_e, vl_e, ac_, insC]) (by simp only [go_sem, ro, wo, wa, wx, rx, bk_e, ins_e, vl_e, ac_]) rfl ⟨(z0, a1, e), Out.er ?_ he h1, rfl, rfl⟩
      simp only [gM, g1]
      rfl
  ·
    simp only [go_sem, ro, wo, wa, wx, rx, bk_e, ins_e, vl_e, ac_]
    refine call_m (s_U32 true b a1 0 h1 hb) ⟨by decide, by decide⟩ (by first | rfl | exact slv_ids _) (by simp [go_sem, ro, wo, wa, wx, rx, bk_e, ins_e, vl_e, ac_]) rfl rfl (by rfl) ?_
    rcases rU_g h1 with ⟨x, k, g1, g2, g3, g4⟩ | ⟨e, he, g1, g2⟩
    · simp only [go_sem, ro, wo, wa, wx, rx, bk_e, ins_e, vl_e, ac_, tt0, g2]
      refine call_m (s_err true b k 0) ⟨by decide, by decide⟩ (by first | rfl | exact slv_ids _) (by simp [go_sem, ro, wo, wa, wx, rx, bk_e, ins_e, vl_e, ac_]) rfl rfl (by rfl) ?_
      simp only [go_sem, ro, wo, wa, wx, rx, bk_e, ins_e, vl_e, ac_]
      refine wdone (Wk.nlm _ 2 (r' := insC { z0 with op := op, a := x }) rfl (nl9 ..)) [] (ins_ { z0 with op := op, a := x }) [(1000, ro true b k 0)] (by simp only [go_sem, ro, wo, wa, wx, rx, bk_e, ins_e, vl_e, ac_, insC]) (by simp only [go_sem, ro, wo, wa, wx, rx, bk_e, ins_e, vl_e, ac_]) rfl ⟨(_, k, 0), Out.ok ?_ g4, rfl, rfl⟩
      simp only [gM, g1]
      rfl
    · simp only [go_sem, ro, wo, wa, wx, rx, bk_e, ins_e, vl_e, ac_, tt0, g2]
      refine call_m (s_err true b a1 e) ⟨by decide, by decide⟩ (by first | rfl | exact slv_ids _) (by simp [go_sem, ro, wo, wa, wx, rx, bk_e, ins_e, vl_e, ac_]) rfl rfl (by rfl) ?_
      simp only [go_sem, ro, wo, wa, wx, rx, bk_e, ins_e, vl_e, ac_, e_t he]
      refine wdone (Wk.nlm _ 2 (r' := insC z0) rfl (nl9 ..)) [] (ins_ z0) [(1000, ro true b a1 e)] (by simp only [go_sem, ro, wo, wa, wx, rx, bk_e, ins_e, vl_e, ac_, insC]) (by simp only [go_sem, ro, wo, wa, wx, rx, bk_e, ins_e, vl_e, ac_]) rfl ⟨(z0, a1, e), Out.er ?_ he h1, rfl, rfl⟩
      simp only [gM, g1]
      rfl
  ·
    simp only [go_sem, ro, wo, wa, wx, rx, bk_e, ins_e, vl_e, ac_]
    refine call_m (s_U32 true b a1 0 h1 hb) ⟨by decide, by decide⟩ (by first | rfl | exact slv_ids _) (by simp [go_sem, ro, wo, wa, wx, rx, bk_e, ins_e, vl_e, ac_]) rfl rfl (by rfl) ?_
    rcases rU_g h1 with ⟨x, k, g1, g2, g3, g4⟩ | ⟨e, he, g1, g2⟩
    · simp only [go_sem, ro, wo, wa, wx, rx, bk_e, ins_e, vl_e, ac_, tt0, g2]
      refine call_m (s_U32 true b k 0 g4 hb) ⟨by decide, by decide⟩ (by first | rfl | exact slv_ids _) (by simp [go_sem, ro, wo, wa, wx, rx, bk_e, ins_e, vl_e, ac_]) rfl rfl (by rfl) ?_
      rcases rU_g g4 with ⟨y, k1, p1, p2, p3, p4⟩ | ⟨e, he, p1, p2⟩
      · simp only [go_sem, ro, wo, wa, wx, rx, bk_e, ins_e, vl_e, ac_, tt0, p2]
        refine call_m (s_err true b k1 0) ⟨by decide, by decide⟩ (by first | rfl | exact slv_ids _) (by simp [go_sem, ro, wo, wa, wx, rx, bk_e, ins_e, vl_e, ac_]) rfl rfl (by rfl) ?_
        simp only [go_sem, ro, wo, wa, wx, rx, bk_e, ins_e, vl_e, ac_]
        refine wdone (Wk.nlm _ 2 (r' := insC { z0 with op := op, a := x, b := y }) rfl (nl9 ..)) [] (ins_ { z0 with op := op, a := x, b := y }) [(1000, ro true b k1 0)] (by simp only [go_sem, ro, wo, wa, wx, rx, bk_e, ins_e, vl_e, ac_, insC]) (by simp only [go_sem, ro, wo, wa, wx, rx, bk_e, ins_e, vl_e, ac_]) rfl ⟨(_, k1, 0), Out.ok ?_ p4, rfl, rfl⟩
        simp only [gM, g1, p1]
        rfl
      · simp only [go_sem, ro, wo, wa, wx, rx, bk_e, ins_e, vl_e, ac_, tt0, p2]
        refine call_m (s_err true b k e) ⟨by decide, by decide⟩ (by first | rfl | exact slv_ids _) (by simp [go_sem, ro, wo, wa, wx, rx, bk_e, ins_e, vl_e, ac_]) rfl rfl (by rfl) ?_
        simp only [go_sem, ro, wo, wa, wx, rx, bk_e, ins_e, vl_e, ac_, e_t he]
        refine wdone (Wk.nlm _ 2 (r' := insC z0) rfl (nl9 ..)) [] (ins_ z0) [(1000, ro true b k e)] (by simp only [go_sem, ro, wo, wa, wx, rx, bk_e, ins_e, vl_e, ac_, insC]) (by simp only [go_sem, ro, wo, wa, wx, rx, bk_e, ins_e, vl_e, ac_]) rfl ⟨(z0, k, e), Out.er ?_ he g4, rfl, rfl⟩
        simp only [gM, g1, p1]
        rfl
    · simp only [go_sem, ro, wo, wa, wx, rx, bk_e, ins_e, vl_e, ac_, tt0, g2]
      refine call_m (s_U32 true b a1 e h1 hb) ⟨by decide, by decide⟩ (by first | rfl | exact slv_ids _) (by simp [go_sem, ro, wo, wa, wx, rx, bk_e, ins_e, vl_e, ac_]) rfl rfl (by rfl) ?_
      simp only [go_sem, ro, wo, wa, wx, rx, bk_e, ins_e, vl_e, ac_, e_f he, Bool.true_and, rU_f]
      refine call_m (s_err true b a1 e) ⟨by decide, by decide⟩ (by first | rfl | exact slv_ids _) (by simp [go_sem, ro, wo, wa, wx, rx, bk_e, ins_e, vl_e, ac_]) rfl rfl (by rfl) ?_
      simp only [go_sem, ro, wo, wa, wx, rx, bk_e, ins_e, vl_e, ac_, e_t he]
      refine wdone (Wk.nlm _ 2 (r' := insC z0) rfl (nl9 ..)) [] (ins_ z0) [(1000, ro true b a1 e)] (by simp only [go_sem, ro, wo, wa, wx, rx, bk_e, ins_e, vl_e, ac_, insC]) (by simp only [go_sem, ro, wo, wa, wx, rx, bk_e, ins_e, vl_e, ac_]) rfl ⟨(z0, a1, e), Out.er ?_ he h1, rfl, rfl⟩
      simp only [gM, g1]
      rfl
  ·
    simp only [go_sem, ro, wo, wa, wx, rx, bk_e, ins_e, vl_e, ac_]
    refine call_m (s_U32 true b a1 0 h1 hb) ⟨by decide, by decide⟩ (by first | rfl | exact slv_ids _) (by simp [go_sem, ro, wo, wa, wx, rx, bk_e, ins_e, vl_e, ac_]) rfl rfl (by rfl) ?_
    rcases rU_g h1 with ⟨x, k, g1, g2, g3, g4⟩ | ⟨e, he, g1, g2⟩
    · simp only [go_sem, ro, wo, wa, wx, rx, bk_e, ins_e, vl_e, ac_, tt0, g2]
      refine call_m (s_U32 true b k 0 g4 hb) ⟨by decide, by decide⟩ (by first | rfl | exact slv_ids _) (by simp [go_sem, ro, wo, wa, wx, rx, bk_e, ins_e, vl_e, ac_]) rfl rfl (by rfl) ?_
      rcases rU_g g4 with ⟨y, k1, p1, p2, p3, p4⟩ | ⟨e, he, p1, p2⟩
      · simp only [go_sem, ro, wo, wa, wx, rx, bk_e, ins_e, vl_e, ac_, tt0, p2]
        refine call_m (s_err true b k1 0) ⟨by decide, by decide⟩ (by first | rfl | exact slv_ids _) (by simp [go_sem, ro, wo, wa, wx, rx, bk_e, ins_e, vl_e, ac_]) rfl rfl (by rfl) ?_
        simp only [go_sem, ro, wo, wa, wx, rx, bk_e, ins_e, vl_e, ac_]
        refine wdone (Wk.nlm _ 2 (r' := insC { z0 with op := op, a := x, b := y }) rfl (nl9 ..)) [] (ins_ { z0 with op := op, a := x, b := y }) [(1000, ro true b k1 0)] (by simp only [go_sem, ro, wo, wa, wx, rx, bk_e, ins_e, vl_e, ac_, insC]) (by simp only [go_sem, ro, wo, wa, wx, rx, bk_e, ins_e, vl_e, ac_]) rfl ⟨(_, k1, 0), Out.ok ?_ p4, rfl, rfl⟩
        simp only [gM, g1, p1]
        rfl
      · simp only [go_sem, ro, wo, wa, wx, rx, bk_e, ins_e, vl_e, ac_, tt0, p2]
        refine call_m (s_err true b k e) ⟨by decide, by decide⟩ (by first | rfl | exact slv_ids _) (by simp [go_sem, ro, wo, wa, wx, rx, bk_e, ins_e, vl_e, ac_]) rfl rfl (by rfl) ?_
        simp only [go_sem, ro, wo, wa, wx, rx, bk_e, ins_e, vl_e, ac_, e_t he]
        refine wdone (Wk.nlm _ 2 (r' := insC z0) rfl (nl9 ..)) [] (ins_ z0) [(1000, ro true b k e)] (by simp only [go_sem, ro, wo, wa, wx, rx, bk_e, ins_e, vl_e, ac_, insC]) (by simp only [go_sem, ro, wo, wa, wx, rx, bk_e, ins_e, vl_e, ac_]) rfl ⟨(z0, k, e), Out.er ?_ he g4, rfl, rfl⟩
        simp only [gM, g1, p1]
        rfl
    · simp only [go_sem, ro, wo, wa, wx, rx, bk_e, ins_e, vl_e, ac_, tt0, g2]
      refine call_m (s_U32 true b a1 e h1 hb) ⟨by decide, by decide⟩ (by first | rfl | exact slv_ids _) (by simp [go_sem, ro, wo, wa, wx, rx, bk_e, ins_e, vl_e, ac_]) rfl rfl (by rfl) ?_
      simp only [go_sem, ro, wo, wa, wx, rx, bk_e, ins_e, vl_e, ac_, e_f he, Bool.true_and, rU_f]
      refine call_m (s_err true b a1 e) ⟨by decide, by decide⟩ (by first | rfl | exact slv_ids _) (by simp [go_sem, ro, wo, wa, wx, rx, bk_e, ins_e, vl_e, ac_]) rfl rfl (by rfl) ?_
      simp only [go_sem, ro, wo, wa, wx, rx, bk_e, ins_e, vl_e, ac_, e_t he]
      refine wdone (Wk.nlm _ 2 (r' := insC z0) rfl (nl9 ..)) [] (ins_ z0) [(1000, ro true b a1 e)] (by simp only [go_sem, ro, wo, wa, wx, rx, bk_e, ins_e, vl_e, ac_, insC]) (by simp only [go_sem, ro, wo, wa, wx, rx, bk_e, ins_e, vl_e, ac_]) rfl ⟨(z0, a1, e), Out.er ?_ he h1, rfl, rfl⟩
      simp only [gM, g1]
      rfl
  ·
    simp only [go_sem, ro, wo, wa, wx, rx, bk_e, ins_e, vl_e, ac_]
    refine call_m (s_U32 true b a1 0 h1 hb) ⟨by decide, by decide⟩ (by first | rfl | exact slv_ids _) (by simp [go_sem, ro, wo, wa, wx, rx, bk_e, ins_e, vl_e, ac_]) rfl rfl (by rfl) ?_
    rcases rU_g h1 with ⟨x, k, g1, g2, g3, g4⟩ | ⟨e, he, g1, g2⟩
    · simp only [go_sem, ro, wo, wa, wx, rx, bk_e, ins_e, vl_e, ac_, tt0, g2]
      refine call_m (s_err true b k 0) ⟨by decide, by decide⟩ (by first | rfl | exact slv_ids _) (by simp [go_sem, ro, wo, wa, wx, rx, bk_e, ins_e, vl_e, ac_]) rfl rfl (by rfl) ?_
      simp only [go_sem, ro, wo, wa, wx, rx, bk_e, ins_e, vl_e, ac_]
      refine wdone (Wk.nlm _ 2 (r' := insC { z0 with op := op, a := x }) rfl (nl9 ..)) [] (ins_ { z0 with op := op, a := x }) [(1000, ro true b k 0)] (by simp only [go_sem, ro, wo, wa, wx, rx, bk_e, ins_e, vl_e, ac_, insC]) (by simp only [go_sem, ro, wo, wa, wx, rx, bk_e, ins_e, vl_e, ac_]) rfl ⟨(_, k, 0), Out.ok ?_ g4, rfl, rfl⟩
      simp only [gM, g1]
      rfl
    · simp only [go_sem, ro, wo, wa, wx, rx, bk_e, ins_e, vl_e, ac_, tt0, g2]
      refine call_m (s_err true b a1 e) ⟨by decide, by decide⟩ (by first | rfl | exact slv_ids _) (by simp [go_sem, ro, wo, wa, wx, rx, bk_e, ins_e, vl_e, ac_]) rfl rfl (by rfl) ?_
      simp only [go_sem, ro, wo, wa, wx, rx, bk_e, ins_e, vl_e, ac_, e_t he]
      refine wdone (Wk.nlm _ 2 (r' := insC z0) rfl (nl9 ..)) [] (ins_ z0) [(1000, ro true b a1 e)] (by simp only [go_sem, ro, wo, wa, wx, rx, bk_e, ins_e, vl_e, ac_, insC]) (by simp only [go_sem, ro, wo, wa, wx, rx, bk_e, ins_e, vl_e, ac_]) rfl ⟨(z0, a1, e), Out.er ?_ he h1, rfl, rfl⟩
      simp only [gM, g1]
      rfl
  · simp only [go_sem, ro, wo, wa, wx, rx, bk_e, ins_e, vl_e, ac_]
    refine call_m (s_U32 true b a1 0 h1 hb) ⟨by decide, by decide⟩ (by first | rfl | exact slv_ids _) (by simp [go_sem, ro, wo, wa, wx, rx, bk_e, ins_e, vl_e, ac_]) rfl rfl (by rfl) ?_
    rcases rU_g h1 with ⟨x, k, g1, g2, g3, g4⟩ | ⟨e, he, g1, g2⟩
    · simp only [go_sem, ro, wo, wa, wx, rx, bk_e, ins_e, vl_e, ac_, tt0, g2]
      refine call_m (s_err true b k 0) ⟨by decide, by decide⟩ (by first | rfl | exact slv_ids _) (by simp [go_sem, ro, wo, wa, wx, rx, bk_e, ins_e, vl_e, ac_]) rfl rfl (by rfl) ?_
      simp only [go_sem, ro, wo, wa, wx, rx, bk_e, ins_e, vl_e, ac_]
      refine wdone (Wk.nlm _ 2 (r' := insC { z0 with op := op, b := x }) rfl (nl9 ..)) [] (ins_ { z0 with op := op, b := x }) [(1000, ro true b k 0)] (by simp only [go_sem, ro, wo, wa, wx, rx, bk_e, ins_e, vl_e, ac_, insC]) (by simp only [go_sem, ro, wo, wa, wx, rx, bk_e, ins_e, vl_e, ac_]) rfl ⟨(_, k, 0), Out.ok ?_ g4, rfl, rfl⟩
      simp only [gM, g1]
      rfl
    · simp only [go_sem, ro, wo, wa, wx, rx, bk_e, ins_e, vl_e, ac_, tt0, g2]
      refine call_m (s_err true b a1 e) ⟨by decide, by decide⟩ (by first | rfl | exact slv_ids _) (by simp [go_sem, ro, wo, wa, wx, rx, bk_e, ins_e, vl_e, ac_]) rfl rfl (by rfl) ?_
      simp only [go_sem, ro, wo, wa, wx, rx, bk_e, ins_e, vl_e, ac_, e_t he]
      refine wdone (Wk.nlm _ 2 (r' := insC z0) rfl (nl9 ..)) [] (ins_ z0) [(1000, ro true b a1 e)] (by simp only [go_sem, ro, wo, wa, wx, rx, bk_e, ins_e, vl_e, ac_, insC]) (by simp only [go_sem, ro, wo, wa, wx, rx, bk_e, ins_e, vl_e, ac_]) rfl ⟨(z0, a1, e), Out.er ?_ he h1, rfl, rfl⟩
      simp only [gM, g1]
      rfl
  ·
    simp only [go_sem, ro, wo, wa, wx, rx, bk_e, ins_e, vl_e, ac_]
    refine call_m (s_U32 true b a1 0 h1 hb) ⟨by decide, by decide⟩ (by first | rfl | exact slv_ids _) (by simp [go_sem, ro, wo, wa, wx, rx, bk_e, ins_e, vl_e, ac_]) rfl rfl (by rfl) ?_
    rcases rU_g h1 with ⟨x, k, g1, g2, g3, g4⟩ | ⟨e, he, g1, g2⟩
    · simp only [go_sem, ro, wo, wa, wx, rx, bk_e, ins_e, vl_e, ac_, tt0, g2]
      refine call_m (s_U32 true b k 0 g4 hb) ⟨by decide, by decide⟩ (by first | rfl | exact slv_ids _) (by simp [go_sem, ro, wo, wa, wx, rx, bk_e, ins_e, vl_e, ac_]) rfl rfl (by rfl) ?_
      rcases rU_g g4 with ⟨y, k1, p1, p2, p3, p4⟩ | ⟨e, he, p1, p2⟩
      · simp only [go_sem, ro, wo, wa, wx, rx, bk_e, ins_e, vl_e, ac_, tt0, p2]
        refine call_m (s_err true b k1 0) ⟨by decide, by decide⟩ (by first | rfl | exact slv_ids _) (by simp [go_sem, ro, wo, wa, wx, rx, bk_e, ins_e, vl_e, ac_]) rfl rfl (by rfl) ?_
        simp only [go_sem, ro, wo, wa, wx, rx, bk_e, ins_e, vl_e, ac_]
        refine wdone (Wk.nlm _ 2 (r' := insC { z0 with op := op, a := x, b := y }) rfl (nl9 ..)) [] (ins_ { z0 with op := op, a := x, b := y }) [(1000, ro true b k1 0)] (by simp only [go_sem, ro, wo, wa, wx, rx, bk_e, ins_e, vl_e, ac_, insC]) (by simp only [go_sem, ro, wo, wa, wx, rx, bk_e, ins_e, vl_e, ac_]) rfl ⟨(_, k1, 0), Out.ok ?_ p4, rfl, rfl⟩
        simp only [gM, g1, p1]
        rfl
      · simp only [go_sem, ro, wo, wa, wx, rx, bk_e, ins_e, vl_e, ac_, tt0, p2]
        refine call_m (s_err true b k e) ⟨by decide, by decide⟩ (by first | rfl | exact slv_ids _) (by simp [go_sem, ro, wo, wa, wx, rx, bk_e, ins_e, vl_e, ac_]) rfl rfl (by rfl) ?_
        simp only [go_sem, ro, wo, wa, wx, rx, bk_e, ins_e, vl_e, ac_, e_t he]
        refine wdone (Wk.nlm _ 2 (r' := insC z0) rfl (nl9 ..)) [] (ins_ z0) [(1000, ro true b k e)] (by simp only [go_sem, ro, wo, wa, wx, rx, bk_e, ins_e, vl_e, ac_, insC]) (by simp only [go_sem, ro, wo, wa, wx, rx, bk_e, ins_e, vl_e, ac_]) rfl ⟨(z0, k, e), Out.er ?_ he g4, rfl, rfl⟩
        simp only [gM, g1, p1]
        rfl
    · simp only [go_sem, ro, wo, wa, wx, rx, bk_e, ins_e, vl_e, ac_, tt0, g2]
      refine call_m (s_U32 true b a1 e h1 hb) ⟨by decide, by decide⟩ (by first | rfl | exact slv_ids _) (by simp [go_sem, ro, wo, wa, wx, rx, bk_e, ins_e, vl_e, ac_]) rfl rfl (by rfl) ?_
      simp only [go_sem, ro, wo, wa, wx, rx, bk_e, ins_e, vl_e, ac_, e_f he, Bool.true_and, rU_f]
      refine call_m (s_err true b a1 e) ⟨by decide, by decide⟩ (by first | rfl | exact slv_ids _) (by simp [go_sem, ro, wo, wa, wx, rx, bk_e, ins_e, vl_e, ac_]) rfl rfl (by rfl) ?_
      simp only [go_sem, ro, wo, wa, wx, rx, bk_e, ins_e, vl_e, ac_, e_t he]
      refine wdone (Wk.nlm _ 2 (r' := insC z0) rfl (nl9 ..)) [] (ins_ z0) [(1000, ro true b a1 e)] (by simp only [go_sem, ro, wo, wa, wx, rx, bk_e, ins_e, vl_e, ac_, insC]) (by simp only [go_sem, ro, wo, wa, wx, rx, bk_e, ins_e, vl_e, ac_]) rfl ⟨(z0, a1, e), Out.er ?_ he h1, rfl, rfl⟩
      simp only [gM, g1]
      rfl
  ·
    simp only [go_sem, ro, wo, wa, wx, rx, bk_e, ins_e, vl_e, ac_]
    refine call_m (s_U32 true b a1 0 h1 hb) ⟨by decide, by decide⟩ (by first | rfl | exact slv_ids _) (by simp [go_sem, ro, wo, wa, wx, rx, bk_e, ins_e, vl_e, ac_]) rfl rfl (by rfl) ?_
    rcases rU_g h1 with ⟨x, k, g1, g2, g3, g4⟩ | ⟨e, he, g1, g2⟩
    · simp only [go_sem, ro, wo, wa, wx, rx, bk_e, ins_e, vl_e, ac_, tt0, g2]
      refine call_m (s_U32 true b k 0 g4 hb) ⟨by decide, by decide⟩ (by first | rfl | exact slv_ids _) (by simp [go_sem, ro, wo, wa, wx, rx, bk_e, ins_e, vl_e, ac_]) rfl rfl (by rfl) ?_
      rcases rU_g g4 with ⟨y, k1, p1, p2, p3, p4⟩ | ⟨e, he, p1, p2⟩
      · simp only [go_sem, ro, wo, wa, wx, rx, bk_e, ins_e, vl_e, ac_, tt0, p2]
        refine call_m (s_err true b k1 0) ⟨by decide, by decide⟩ (by first | rfl | exact slv_ids _) (by simp [go_sem, ro, wo, wa, wx, rx, bk_e, ins_e, vl_e, ac_]) rfl rfl (by rfl) ?_
        simp only [go_sem, ro, wo, wa, wx, rx, bk_e, ins_e, vl_e, ac_]
        refine wdone (Wk.nlm _ 2 (r' := insC { z0 with op := op, a := x, b := y }) rfl (nl9 ..)) [] (ins_ { z0 with op := op, a := x, b := y }) [(1000, ro true b k1 0)] (by simp only [go_sem, ro, wo, wa, wx, rx, bk_e, ins_e, vl_e, ac_, insC]) (by simp only [go_sem, ro, wo, wa, wx, rx, bk_e, ins_e, vl_e, ac_]) rfl ⟨(_, k1, 0), Out.ok ?_ p4, rfl, rfl⟩
        simp only [gM, g1, p1]
        rfl
      · simp only [go_sem, ro, wo, wa, wx, rx, bk_e, ins_e, vl_e, ac_, tt0, p2]
        refine call_m (s_err true b k e) ⟨by decide, by decide⟩ (by first | rfl | exact slv_ids _) (by simp [go_sem, ro, wo, wa, wx, rx, bk_e, ins_e, vl_e, ac_]) rfl rfl (by rfl) ?_
        simp only [go_sem, ro, wo, wa, wx, rx, bk_e, ins_e, vl_e, ac_, e_t he]
        refine wdone (Wk.nlm _ 2 (r' := insC z0) rfl (nl9 ..)) [] (ins_ z0) [(1000, ro true b k e)] (by simp only [go_sem, ro, wo, wa, wx, rx, bk_e, ins_e, vl_e, ac_, insC]) (by simp only [go_sem, ro, wo, wa, wx, rx, bk_e, ins_e, vl_e, ac_]) rfl ⟨(z0, k, e), Out.er ?_ he g4, rfl, rfl⟩
        simp only [gM, g1, p1]
        rfl
    · simp only [go_sem, ro, wo, wa, wx, rx, bk_e, ins_e, vl_e, ac_, tt0, g2]
      refine call_m (s_U32 true b a1 e h1 hb) ⟨by decide, by decide⟩ (by first | rfl | exact slv_ids _) (by simp [go_sem, ro, wo, wa, wx, rx, bk_e, ins_e, vl_e, ac_]) rfl rfl (by rfl) ?_
      simp only [go_sem, ro, wo, wa, wx, rx, bk_e, ins_e, vl_e, ac_, e_f he, Bool.true_and, rU_f]
      refine call_m (s_err true b a1 e) ⟨by decide, by decide⟩ (by first | rfl | exact slv_ids _) (by simp [go_sem, ro, wo, wa, wx, rx, bk_e, ins_e, vl_e, ac_]) rfl rfl (by rfl) ?_
      simp only [go_sem, ro, wo, wa, wx, rx, bk_e, ins_e, vl_e, ac_, e_t he]
      refine wdone (Wk.nlm _ 2 (r' := insC z0) rfl (nl9 ..)) [] (ins_ z0) [(1000, ro true b a1 e)] (by simp only [go_sem, ro, wo, wa, wx, rx, bk_e, ins_e, vl_e, ac_, insC]) (by simp only [go_sem, ro, wo, wa, wx, rx, bk_e, ins_e, vl_e, ac_]) rfl ⟨(z0, a1, e), Out.er ?_ he h1, rfl, rfl⟩
      simp only [gM, g1]
      rfl
  ·
    simp only [go_sem, ro, wo, wa, wx, rx, bk_e, ins_e, vl_e, ac_]
    refine call_m (s_U32 true b a1 0 h1 hb) ⟨by decide, by decide⟩ (by first | rfl | exact slv_ids _) (by simp [go_sem, ro, wo, wa, wx, rx, bk_e, ins_e, vl_e, ac_]) rfl rfl (by rfl) ?_
    rcases rU_g h1 with ⟨x, k, g1, g2, g3, g4⟩ | ⟨e, he, g1, g2⟩
    · simp only [go_sem, ro, wo, wa, wx, rx, bk_e, ins_e, vl_e, ac_, tt0, g2]
      refine call_m (s_err true b k 0) ⟨by decide, by decide⟩ (by first | rfl | exact slv_ids _) (by simp [go_sem, ro, wo, wa, wx, rx, bk_e, ins_e, vl_e, ac_]) rfl rfl (by rfl) ?_
      simp only [go_sem, ro, wo, wa, wx, rx, bk_e, ins_e, vl_e, ac_]
      refine wdone (Wk.nlm _ 2 (r' := insC { z0 with op := op, a := x }) rfl (nl9 ..)) [] (ins_ { z0 with op := op, a := x }) [(1000, ro true b k 0)] (by simp only [go_sem, ro, wo, wa, wx, rx, bk_e, ins_e, vl_e, ac_, insC]) (by simp only [go_sem, ro, wo, wa, wx, rx, bk_e, ins_e, vl_e, ac_]) rfl ⟨(_, k, 0), Out.ok ?_ g4, rfl, rfl⟩
      simp only [gM, g1]
      rfl
    · simp only [go_sem, ro, wo, wa, wx, rx, bk_e, ins_e, vl_e, ac_, tt0, g2]
      refine call_m (s_err true b a1 e) ⟨by decide, by decide⟩ (by first | rfl | exact slv_ids _) (by simp [go_sem, ro, wo, wa, wx, rx, bk_e, ins_e, vl_e, ac_]) rfl rfl (by rfl) ?_
      simp only [go_sem, ro, wo, wa, wx, rx, bk_e, ins_e, vl_e, ac_, e_t he]
      refine wdone (Wk.nlm _ 2 (r' := insC z0) rfl (nl9 ..)) [] (ins_ z0) [(1000, ro true b a1 e)] (by simp only [go_sem, ro, wo, wa, wx, rx, bk_e, ins_e, vl_e, ac_, insC]) (by simp only [go_sem, ro, wo, wa, wx, rx, bk_e, ins_e, vl_e, ac_]) rfl ⟨(z0, a1, e), Out.er ?_ he h1, rfl, rfl⟩
      simp only [gM, g1]
      rfl
  · simp only [go_sem, ro, wo, wa, wx, rx, bk_e, ins_e, vl_e, ac_]
    refine call_2e (s_access11 h1 hb op) ⟨by decide, by decide⟩ ⟨by decide, by decide⟩ (by decide) (fun _ => rfl) rfl rfl (fun _ => rfl) (fun _ => rfl) (by rfl) (by rfl) ?_
    rintro ⟨⟨x, y, z⟩, a2, e2⟩ ⟨p1, p2⟩
    replace p1 : a2 ≤ b.length := p1
    rcases p2 with ⟨q, k2, q1, q2⟩ | ⟨e, q1, he, _, q3⟩
    · cases q2
      simp only [go_sem, ro, wo, wa, wx, rx, bk_e, ins_e, vl_e, ac_]
      refine call_m (s_err true b a2 0) ⟨by decide, by decide⟩ (by first | rfl | exact slv_ids _) (by simp [go_sem, ro, wo, wa, wx, rx, bk_e, ins_e, vl_e, ac_]) rfl rfl (by rfl) ?_
      simp only [go_sem, ro, wo, wa, wx, rx, bk_e, ins_e, vl_e, ac_]
      refine wdone (Wk.nlm _ 2 (r' := insC { z0 with op := op, a := x, b := y, n := z }) rfl (nl9 ..)) [] (ins_ { z0 with op := op, a := x, b := y, n := z }) [(1000, ro true b a2 0)] (by simp only [go_sem, ro, wo, wa, wx, rx, bk_e, ins_e, vl_e, ac_, insC]) (by simp only [go_sem, ro, wo, wa, wx, rx, bk_e, ins_e, vl_e, ac_]) rfl ⟨(_, a2, 0), Out.ok ?_ p1, rfl, rfl⟩
      simp only [gM, q1]
      rfl
    · obtain rfl : e2 = e := q3
      simp only [go_sem, ro, wo, wa, wx, rx, bk_e, ins_e, vl_e, ac_]
      refine call_m (s_err true b a2 e2) ⟨by decide, by decide⟩ (by first | rfl | exact slv_ids _) (by simp [go_sem, ro, wo, wa, wx, rx, bk_e, ins_e, vl_e, ac_]) rfl rfl (by rfl) ?_
      simp only [go_sem, ro, wo, wa, wx, rx, bk_e, ins_e, vl_e, ac_, e_t he]
      refine wdone (Wk.nlm _ 2 (r' := insC z0) rfl (nl9 ..)) [] (ins_ z0) [(1000, ro true b a2 e2)] (by simp only [go_sem, ro, wo, wa, wx, rx, bk_e, ins_e, vl_e, ac_, insC]) (by simp only [go_sem, ro, wo, wa, wx, rx, bk_e, ins_e, vl_e, ac_]) rfl ⟨(z0, a2, e2), Out.er ?_ he p1, rfl, rfl⟩
      simp only [gM, q1]
      rfl
  · simp only [go_sem, ro, wo, wa, wx, rx, bk_e, ins_e, vl_e, ac_]
    refine call_m (s_S32 true b a1 0 h1 hb) ⟨by decide, by decide⟩ (by first | rfl | exact slv_ids _) (by simp [go_sem, ro, wo, wa, wx, rx, bk_e, ins_e, vl_e, ac_]) rfl rfl (by rfl) ?_
    rcases rS_g 32 h1 with ⟨x, k, g1, g2, g4⟩ | ⟨e, he, g1, g2⟩
    · simp only [go_sem, ro, wo, wa, wx, rx, bk_e, ins_e, vl_e, ac_, tt0, g2]
      refine call_m (s_err true b k 0) ⟨by decide, by decide⟩ (by first | rfl | exact slv_ids _) (by simp [go_sem, ro, wo, wa, wx, rx, bk_e, ins_e, vl_e, ac_]) rfl rfl (by rfl) ?_
      simp only [go_sem, ro, wo, wa, wx, rx, bk_e, ins_e, vl_e, ac_]
      refine wdone (Wk.nlm _ 2 (r' := insC { z0 with op := op, n := IntKind.u64.wrap (IntKind.u32.wrap x) }) rfl (nl9 ..)) [] (ins_ { z0 with op := op, n := IntKind.u64.wrap (IntKind.u32.wrap x) }) [(1000, ro true b k 0)] (by simp only [go_sem, ro, wo, wa, wx, rx, bk_e, ins_e, vl_e, ac_, insC]) (by simp only [go_sem, ro, wo, wa, wx, rx, bk_e, ins_e, vl_e, ac_]) rfl ⟨(_, k, 0), Out.ok ?_ g4, rfl, rfl⟩
      simp only [gM, g1]
      rfl
    · simp only [go_sem, ro, wo, wa, wx, rx, bk_e, ins_e, vl_e, ac_, tt0, g2]
      refine call_m (s_err true b a1 e) ⟨by decide, by decide⟩ (by first | rfl | exact slv_ids _) (by simp [go_sem, ro, wo, wa, wx, rx, bk_e, ins_e, vl_e, ac_]) rfl rfl (by rfl) ?_
      simp only [go_sem, ro, wo, wa, wx, rx, bk_e, ins_e, vl_e, ac_, e_t he]
      refine wdone (Wk.nlm _ 2 (r' := insC z0) rfl (nl9 ..)) [] (ins_ z0) [(1000, ro true b a1 e)] (by simp only [go_sem, ro, wo, wa, wx, rx, bk_e, ins_e, vl_e, ac_, insC]) (by simp only [go_sem, ro, wo, wa, wx, rx, bk_e, ins_e, vl_e, ac_]) rfl ⟨(z0, a1, e), Out.er ?_ he h1, rfl, rfl⟩
      simp only [gM, g1]
      rfl
  · simp only [go_sem, ro, wo, wa, wx, rx, bk_e, ins_e, vl_e, ac_]
    refine call_m (s_S64 true b a1 0 h1 hb) ⟨by decide, by decide⟩ (by first | rfl | exact slv_ids _) (by simp [go_sem, ro, wo, wa, wx, rx, bk_e, ins_e, vl_e, ac_]) rfl rfl (by rfl) ?_
    rcases rS_g 64 h1 with ⟨x, k, g1, g2, g4⟩ | ⟨e, he, g1, g2⟩
    · simp only [go_sem, ro, wo, wa, wx, rx, bk_e, ins_e, vl_e, ac_, tt0, g2]
      refine call_m (s_err true b k 0) ⟨by decide, by decide⟩ (by first | rfl | exact slv_ids _) (by simp [go_sem, ro, wo, wa, wx, rx, bk_e, ins_e, vl_e, ac_]) rfl rfl (by rfl) ?_
      simp only [go_sem, ro, wo, wa, wx, rx, bk_e, ins_e, vl_e, ac_]
      refine wdone (Wk.nlm _ 2 (r' := insC { z0 with op := op, n := IntKind.u64.wrap x }) rfl (nl9 ..)) [] (ins_ { z0 with op := op, n := IntKind.u64.wrap x }) [(1000, ro true b k 0)] (by simp only [go_sem, ro, wo, wa, wx, rx, bk_e, ins_e, vl_e, ac_, insC]) (by simp only [go_sem, ro, wo, wa, wx, rx, bk_e, ins_e, vl_e, ac_]) rfl ⟨(_, k, 0), Out.ok ?_ g4, rfl, rfl⟩
      simp only [gM, g1]
      rfl
    · simp only [go_sem, ro, wo, wa, wx, rx, bk_e, ins_e, vl_e, ac_, tt0, g2]
      refine call_m (s_err true b a1 e) ⟨by decide, by decide⟩ (by first | rfl | exact slv_ids _) (by simp [go_sem, ro, wo, wa, wx, rx, bk_e, ins_e, vl_e, ac_]) rfl rfl (by rfl) ?_
      simp only [go_sem, ro, wo, wa, wx, rx, bk_e, ins_e, vl_e, ac_, e_t he]
      refine wdone (Wk.nlm _ 2 (r' := insC z0) rfl (nl9 ..)) [] (ins_ z0) [(1000, ro true b a1 e)] (by simp only [go_sem, ro, wo, wa, wx, rx, bk_e, ins_e, vl_e, ac_, insC]) (by simp only [go_sem, ro, wo, wa, wx, rx, bk_e, ins_e, vl_e, ac_]) rfl ⟨(z0, a1, e), Out.er ?_ he h1, rfl, rfl⟩
      simp only [gM, g1]
      rfl
  · simp only [go_sem, ro, wo, wa, wx, rx, bk_e, ins_e, vl_e, ac_]
    refine call_me (s_getval h1 hb) ⟨by decide, by decide⟩ (fun _ => rfl) (by simp) rfl (fun _ => rfl) (by rfl) ?_
    rintro ⟨t, a2, e2⟩ ⟨p1, p2⟩
    replace p1 : a2 ≤ b.length := p1
    rcases p2 with ⟨q, k2, q1, q2⟩ | ⟨e, q1, he, q2, q3⟩
    · cases q2
      by_cases ht : t = 3 ∨ t = 4
      · rcases ht with rfl | rfl
        · simp only [go_sem, ro, wo, wa, wx, rx, bk_e, ins_e, vl_e, ac_]
          refine call_m (s_err true b a2 0) ⟨by decide, by decide⟩ (by first | rfl | exact slv_ids _) (by simp [go_sem, ro, wo, wa, wx, rx, bk_e, ins_e, vl_e, ac_]) rfl rfl (by rfl) ?_
          simp only [go_sem, ro, wo, wa, wx, rx, bk_e, ins_e, vl_e, ac_]
          refine wdone (Wk.nlm _ 2 (r' := insC { z0 with op := op, a := 3 }) rfl (nl9 ..)) [] (ins_ { z0 with op := op, a := 3 }) [(1000, ro true b a2 0)] (by simp only [go_sem, ro, wo, wa, wx, rx, bk_e, ins_e, vl_e, ac_, insC]) (by simp only [go_sem, ro, wo, wa, wx, rx, bk_e, ins_e, vl_e, ac_]) rfl ⟨(_, a2, 0), Out.ok ?_ p1, rfl, rfl⟩
          simp only [gM, q1]
          rfl
        · simp only [go_sem, ro, wo, wa, wx, rx, bk_e, ins_e, vl_e, ac_]
          refine call_m (s_err true b a2 0) ⟨by decide, by decide⟩ (by first | rfl | exact slv_ids _) (by simp [go_sem, ro, wo, wa, wx, rx, bk_e, ins_e, vl_e, ac_]) rfl rfl (by rfl) ?_
          simp only [go_sem, ro, wo, wa, wx, rx, bk_e, ins_e, vl_e, ac_]
          refine wdone (Wk.nlm _ 2 (r' := insC { z0 with op := op, a := 4 }) rfl (nl9 ..)) [] (ins_ { z0 with op := op, a := 4 }) [(1000, ro true b a2 0)] (by simp only [go_sem, ro, wo, wa, wx, rx, bk_e, ins_e, vl_e, ac_, insC]) (by simp only [go_sem, ro, wo, wa, wx, rx, bk_e, ins_e, vl_e, ac_]) rfl ⟨(_, a2, 0), Out.ok ?_ p1, rfl, rfl⟩
          simp only [gM, q1]
          rfl
      · have d3 : (t != 3) = true := by simp; omega
        have d4 : (t != 4) = true := by simp; omega
        simp only [go_sem, ro, wo, wa, wx, rx, bk_e, ins_e, vl_e, ac_, d3, d4]
        refine call_m (s_fail_ok b a2 12) ⟨by decide, by decide⟩ (by first | rfl | exact slv_ids _) (by simp [go_sem, ro, wo, wa, wx, rx, bk_e, ins_e, vl_e, ac_]) rfl rfl (by rfl) ?_
        simp only [go_sem, ro, wo, wa, wx, rx, bk_e, ins_e, vl_e, ac_]
        refine call_m (s_err true b a2 12) ⟨by decide, by decide⟩ (by first | rfl | exact slv_ids _) (by simp [go_sem, ro, wo, wa, wx, rx, bk_e, ins_e, vl_e, ac_]) rfl rfl (by rfl) ?_
        simp only [go_sem, ro, wo, wa, wx, rx, bk_e, ins_e, vl_e, ac_]
        refine wdone (Wk.nlm _ 2 (r' := insC z0) rfl (nl9 ..)) [] (ins_ z0) [(1000, ro true b a2 12)] (by simp only [go_sem, ro, wo, wa, wx, rx, bk_e, ins_e, vl_e, ac_, insC]) (by simp only [go_sem, ro, wo, wa, wx, rx, bk_e, ins_e, vl_e, ac_]) rfl ⟨(z0, a2, 12), Out.er ?_ (by decide) p1, rfl, rfl⟩
        simp only [gM, q1, if_neg ht]
        rfl
    · obtain rfl : e2 = e := q3
      obtain rfl : t = 0 := q2
      simp only [go_sem, ro, wo, wa, wx, rx, bk_e, ins_e, vl_e, ac_]
      refine call_m (s_fail true b a2 e2 12) ⟨by decide, by decide⟩ (by first | rfl | exact slv_ids _) (by simp [go_sem, ro, wo, wa, wx, rx, bk_e, ins_e, vl_e, ac_]) rfl rfl (by rfl) ?_
      simp only [go_sem, ro, wo, wa, wx, rx, bk_e, ins_e, vl_e, ac_, e_f he, Bool.true_and]
      refine call_m (s_err true b a2 e2) ⟨by decide, by decide⟩ (by first | rfl | exact slv_ids _) (by simp [go_sem, ro, wo, wa, wx, rx, bk_e, ins_e, vl_e, ac_]) rfl rfl (by rfl) ?_
      simp only [go_sem, ro, wo, wa, wx, rx, bk_e, ins_e, vl_e, ac_, e_t he]
      refine wdone (Wk.nlm _ 2 (r' := insC z0) rfl (nl9 ..)) [] (ins_ z0) [(1000, ro true b a2 e2)] (by simp only [go_sem, ro, wo, wa, wx, rx, bk_e, ins_e, vl_e, ac_, insC]) (by simp only [go_sem, ro, wo, wa, wx, rx, bk_e, ins_e, vl_e, ac_]) rfl ⟨(z0, a2, e2), Out.er ?_ he p1, rfl, rfl⟩
      simp only [gM, q1]
      rfl
end Go.Proofs.YtdhiiannngjjpaaDoor
