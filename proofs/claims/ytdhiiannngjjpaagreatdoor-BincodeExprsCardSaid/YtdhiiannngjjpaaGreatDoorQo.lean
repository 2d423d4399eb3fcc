/-
  Chapter 11, walks: the reference reads labels.
-/
import Derived.Test.YtdhiiannngjjpaaGreatDoorQf
set_option linter.unusedVariables false
set_option linter.unusedSimpArgs false
set_option linter.unusedSectionVars false
set_option maxRecDepth 100000
set_option maxHeartbeats 8000000
set_option linter.unusedVariables false
set_option linter.unusedSimpArgs false
namespace Go.Proofs.YtdhiiannngjjpaaGreatDoor
open Go Go.Mw
-- @U: ro, wo, wa, wx, rx, bk_e, ins_e, vl_e

def pre (l : List Int) : Rd (List Int) → Rd (List Int)
  | .ok (l2, k) => .ok (l ++ l2, k)
  | .error e => .error e
theorem pre_nil (r : Rd (List Int)) : pre [] r = r := by cases r <;> rfl
theorem pre_step {b : List UInt8} {a n k : Nat} {x : Nat} {l : List Int} (h : gU b a = .ok (x, k)) : pre l (gL (n + 1) b a) = pre (l ++ [(x : Int)]) (gL n b k) := by
  simp only [gL, h]
  cases gL n b k with
  | ok p => obtain ⟨l2, k2⟩ := p; simp [pre]
  | error e => rfl
theorem pre_err {b : List UInt8} {a n : Nat} {e : Int × Nat} {l : List Int} (h : gU b a = .error e) : pre l (gL (n + 1) b a) = .error e := by
  simp only [gL, h]; rfl
def LI (b : List UInt8) (n a0 : Nat) (q : Nat × List Int × Nat × Int) : Prop :=
  q.1 ≤ n ∧ q.2.1.length = q.1 ∧ q.2.2.1 ≤ b.length ∧ ((q.2.2.2 = 0 ∧ gL n b a0 = pre q.2.1 (gL (n - q.1) b q.2.2.1)) ∨ (q.2.2.2 ≠ 0 ∧ gL n b a0 = .error (q.2.2.2, q.2.2.1)))
theorem LI_ok {b : List UInt8} {n a0 i : Nat} {l : List Int} {a : Nat} (h : LI b n a0 (i, l, a, 0)) (hi : i < n) {x k : Nat} (hk : k ≤ b.length) (g : gU b a = .ok (x, k)) : LI b n a0 (i + 1, l ++ [(x : Int)], k, 0) := by
  obtain ⟨h1, h2, h3, h4⟩ := h
  refine ⟨hi, by simp only [List.length_append, List.length_singleton]; simp only at h2; omega, hk, .inl ⟨rfl, ?_⟩⟩
  rcases h4 with ⟨_, h4⟩ | ⟨h4, _⟩
  · simp only at h4 ⊢
    rw [h4, show n - i = (n - (i + 1)) + 1 by omega, pre_step g]
  · exact absurd rfl h4
theorem LI_er {b : List UInt8} {n a0 i : Nat} {l : List Int} {a : Nat} (h : LI b n a0 (i, l, a, 0)) (hi : i < n) {e : Int} (he : e ≠ 0) (g : gU b a = .error (e, a)) : LI b n a0 (i + 1, l ++ [0], a, e) := by
  obtain ⟨h1, h2, h3, h4⟩ := h
  refine ⟨hi, by simp only [List.length_append, List.length_singleton]; simp only at h2; omega, h3, .inr ⟨he, ?_⟩⟩
  rcases h4 with ⟨_, h4⟩ | ⟨h4, _⟩
  · simp only at h4 ⊢
    rw [h4, show n - i = (n - (i + 1)) + 1 by omega, pre_err g]
  · exact absurd rfl h4
theorem LI_go {b : List UInt8} {n a0 i : Nat} {l : List Int} {a : Nat} {e : Int} (h : LI b n a0 (i, l, a, e)) (he : e ≠ 0) (hi : i < n) : LI b n a0 (i + 1, l ++ [0], a, e) := by
  obtain ⟨h1, h2, h3, h4⟩ := h
  refine ⟨hi, by simp only [List.length_append, List.length_singleton]; simp only at h2; omega, h3, .inr ⟨he, ?_⟩⟩
  rcases h4 with ⟨h4, _⟩ | ⟨_, h4⟩
  · exact absurd h4 he
  · exact h4
theorem LI_end {b : List UInt8} {n a0 : Nat} {l : List Int} {a : Nat} {e : Int} (h : LI b n a0 (n, l, a, e)) : (e = 0 ∧ gL n b a0 = .ok (l, a)) ∨ (e ≠ 0 ∧ gL n b a0 = .error (e, a)) := by
  obtain ⟨h1, h2, h3, h4⟩ := h
  rcases h4 with ⟨h4, h5⟩ | h4
  · refine .inl ⟨h4, ?_⟩
    simp only at h5
    rw [h5, Nat.sub_self]
    simp only [gL, pre, List.append_nil]
  · exact .inr h4
variable {b : List UInt8} {a : Nat} (ha : a ≤ b.length) (hb : b.length < 1000000000)
include ha hb
theorem r_table : QI n_ref11_table [] b a (gM 3 b a) := by
  refine fun_sound (ic := F_ref11_table.body) mixed c_ref11_table rfl rfl ?_
  simp only [go_sem, ro, wo, wa, wx, rx, bk_e, ins_e, vl_e, F_ref11_table]
  refine call_same (q_Count b a 0 ha hb 64) (by simp [go_sem, ro, wo, wa, wx, rx, bk_e, ins_e, vl_e]) ?_
  simp only [go_sem, ro, wo, wa, wx, rx, bk_e, ins_e, vl_e, tt1]
  refine loop_rule (fun q : Nat × List Int × Nat × Int => ⟨[(7, .int .i64 q.1), (6, .ms 900 1 0 q.1), (5, .int .i64 (rCount true b a 0 64).1), (4, .mp 4 3 0 0), (3, .mp 3 9 0 0), (2, .mp 2 3 0 0)],
      [(900, ⟨3, 1, q.2.1.map vl_, false⟩), (4, ⟨50, 3, [[.sl 1 (b.map by_), .int .i64 q.2.2.1, .int .i64 q.2.2.2]], true⟩), (3, ⟨45, 9, [[.int .i64 0, .int .i64 0, .int .i64 0, .int .u64 0, .int .i64 0, .int .i64 0, .int .i64 0, .nl, .nl]], true⟩), (2, ⟨50, 3, [[.nl, .int .i64 0, .int .i64 0]], true⟩)]⟩)
    (fun q => q.1 ≤ 64 ∧ q.2.1.length = q.1 ∧ q.2.2.1 ≤ b.length ∧ ((∃ n k, gC b a 64 = .ok (n, k) ∧ (rCount true b a 0 64).1 = n ∧ n ≤ 64 ∧ LI b n k q) ∨ ((rCount true b a 0 64).1 = 0 ∧ q.1 = 0 ∧ q.2.2.2 ≠ 0 ∧ gC b a 64 = .error (q.2.2.2, q.2.2.1))))
    (fun q => 64 - q.1) (0, [], (rCount true b a 0 64).2.1, (rCount true b a 0 64).2.2) ?_ ((Wk.nil _ 6 900 1 3 (by simp only [go_sem, ro, wo, wa, wx, rx, bk_e, ins_e, vl_e]) (.inl (by decide))).trans (Wk.of ?_ ?_)) ?_
  · rcases rCount_g 64 ha with ⟨n, k, g1, g2, g3, g4, g5⟩ | ⟨e, he, g1, g2⟩
    · rw [g2]
      exact ⟨(by decide : 0 ≤ 64), rfl, g5, .inl ⟨n, k, g1, rfl, by omega, Nat.zero_le _, rfl, g5, .inl ⟨rfl, by rw [pre_nil]; rfl⟩⟩⟩
    · rw [g2]
      exact ⟨(by decide : 0 ≤ 64), rfl, ha, .inr ⟨rfl, rfl, he, g1⟩⟩
  · simp only [go_sem, ro, wo, wa, wx, rx, bk_e, ins_e, vl_e, St.mknil]; try simp [go_sem]
  · simp only [go_sem, ro, wo, wa, wx, rx, bk_e, ins_e, vl_e, St.mknil]; try simp [go_sem]
  rintro ⟨i, l, a1, e1⟩ ⟨hi, hl, ha1, hq⟩
  simp only at hi hl ha1 hq
  have e8 := wi (n := (i : Int) + 1) (by omega) (by omega)
  generalize hN : (rCount true b a 0 64).1 = N at hq
  by_cases hlt : (i : Int) < (N : Int)
  · have hi2 : i < N := by omega
    have happ := fun ys => appO_map 900 3 1 i vl_ l ys hl
    simp only [go_sem, ro, wo, wa, wx, rx, bk_e, ins_e, vl_e, decide_eq_true hlt]
    refine call_same (q_U32 b a1 e1 ha1 hb) (by simp [go_sem, ro, wo, wa, wx, rx, bk_e, ins_e, vl_e]) ?_
    rcases hq with ⟨n, k, h1, h2, h3, h4⟩ | ⟨h2, h3, h4, h5⟩
    rotate_left
    · omega
    subst h2
    by_cases he1 : e1 = 0
    · subst he1
      rcases rU_g ha1 with ⟨x, k1, g1, g2, g3, g4⟩ | ⟨e, he, g1, g2⟩
      · simp only [go_sem, ro, wo, wa, wx, rx, bk_e, ins_e, vl_e, tt1, g2, happ]
        refine ⟨by omega, klp_n (i + 1, l ++ [(x : Int)], k1, 0) ⟨by omega, by simp; omega, g4, .inl ⟨N, k, h1, rfl, h3, LI_ok h4 hi2 g4 g1⟩⟩ (show 64 - (i + 1) < 64 - i by omega) (Wk.of ?_ ?_)⟩
        · simp only [go_sem, ro, wo, wa, wx, rx, bk_e, ins_e, vl_e, e8]
          try simp
        · simp only [go_sem, ro, wo, wa, wx, rx, bk_e, ins_e, vl_e]
          try simp [vl_e]
      · simp only [go_sem, ro, wo, wa, wx, rx, bk_e, ins_e, vl_e, tt1, g2, happ]
        refine ⟨by omega, klp_n (i + 1, l ++ [0], a1, e) ⟨by omega, by simp; omega, ha1, .inl ⟨N, k, h1, rfl, h3, LI_er h4 hi2 he g1⟩⟩ (show 64 - (i + 1) < 64 - i by omega) (Wk.of ?_ ?_)⟩
        · simp only [go_sem, ro, wo, wa, wx, rx, bk_e, ins_e, vl_e, e8]
          try simp
        · simp only [go_sem, ro, wo, wa, wx, rx, bk_e, ins_e, vl_e]
          try simp [vl_e]
    · simp only [go_sem, ro, wo, wa, wx, rx, bk_e, ins_e, vl_e, e_f he1, rU_f, happ]
      refine ⟨by omega, klp_n (i + 1, l ++ [0], a1, e1) ⟨by omega, by simp; omega, ha1, .inl ⟨N, k, h1, rfl, h3, LI_go h4 he1 hi2⟩⟩ (show 64 - (i + 1) < 64 - i by omega) (Wk.of ?_ ?_)⟩
      · simp only [go_sem, ro, wo, wa, wx, rx, bk_e, ins_e, vl_e, e8]
        try simp
      · simp only [go_sem, ro, wo, wa, wx, rx, bk_e, ins_e, vl_e]
        try simp [vl_e]
  · have hge : N ≤ i := by omega
    simp only [go_sem, ro, wo, wa, wx, rx, bk_e, ins_e, vl_e, decide_eq_false hlt]
    refine call_same (q_U32 b a1 e1 ha1 hb) (by simp [go_sem, ro, wo, wa, wx, rx, bk_e, ins_e, vl_e]) ?_
    have fin : ∀ (e' : Int) (x : Nat) (k' : Nat), OutP b (gM 3 b a) (fun _ => True) ({ z0 with a := x, lb := l }, k', e') → ∃ q : Ins × Nat × Int, OutP b (gM 3 b a) (fun _ => True) q ∧ AV.tup [rx b (k' : Nat) e', ins_ { z0 with a := x, lb := l }] = .tup [rx b (q.2.1 : Nat) q.2.2, ins_ q.1] ∧ ([] : List (Nat × AObj)) = [] := fun e' x k' h => ⟨_, h, rfl, rfl⟩
    have nlx : ∀ x : Int, nlm [.int .i64 0, .int .i64 x, .int .i64 0, .int .u64 0, .int .i64 0, .int .i64 0, .int .i64 0, .nl, .ms 900 1 0 i] [.int .i64 0, .int .i64 x, .int .i64 0, .int .u64 0, .int .i64 0, .int .i64 0, .int .i64 0, .sl 1 [], .ms 900 1 0 i] := fun x => nl8 ..
    by_cases he1 : e1 = 0
    · subst he1
      rcases hq with ⟨n, k, h1, h2, h3, h4⟩ | ⟨_, _, h4, _⟩
      rotate_left
      · exact absurd rfl h4
      subst h2
      obtain rfl : i = N := Nat.le_antisymm h4.1 hge
      rcases LI_end h4 with ⟨_, h5⟩ | ⟨h5, _⟩
      rotate_left
      · exact absurd rfl h5
      rcases rU_g ha1 with ⟨x, k1, g1, g2, g3, g4⟩ | ⟨e, he, g1, g2⟩
      · simp only [go_sem, ro, wo, wa, wx, rx, bk_e, ins_e, vl_e, tt1, g2]
        refine wdone (Wk.nlm _ 3 rfl (nlx x)) [900] (.tup [rx b k1 0, ins_ { z0 with a := x, lb := l }]) [] ?_ trivial rfl (fin 0 x k1 (OutP.ok ?_ g4))
        · simp only [go_sem, ro, wo, wa, wx, rx, bk_e, ins_e, vl_e, List.length_map, hl, Nat.le_refl]
          rw [List.take_of_length_le (by rw [List.length_map]; omega)]
          rfl
        · simp only [gM, h1, h5, g1]
          rfl
      · simp only [go_sem, ro, wo, wa, wx, rx, bk_e, ins_e, vl_e, tt1, g2]
        refine wdone (Wk.nlm _ 3 rfl (nlx 0)) [900] (.tup [rx b a1 e, ins_ { z0 with a := 0, lb := l }]) [] ?_ trivial rfl (fin e 0 a1 (OutP.er ?_ he trivial ha1))
        · simp only [go_sem, ro, wo, wa, wx, rx, bk_e, ins_e, vl_e, List.length_map, hl, Nat.le_refl]
          rw [List.take_of_length_le (by rw [List.length_map]; omega)]
          rfl
        · simp only [gM, h1, h5, g1]
          rfl
    · have hE : gM 3 b a = .error (e1, a1) := by
        rcases hq with ⟨n, k, h1, h2, h3, h4⟩ | ⟨_, _, _, h4⟩
        · subst h2
          obtain rfl : i = N := Nat.le_antisymm h4.1 hge
          rcases LI_end h4 with ⟨h5, _⟩ | ⟨_, h5⟩
          · exact absurd h5 he1
          · simp only [gM, h1, h5]
            rfl
        · simp only [gM, h4]
          rfl
      simp only [go_sem, ro, wo, wa, wx, rx, bk_e, ins_e, vl_e, e_f he1, rU_f]
      refine wdone (Wk.nlm _ 3 rfl (nlx 0)) [900] (.tup [rx b a1 e1, ins_ { z0 with a := 0, lb := l }]) [] ?_ trivial rfl (fin e1 0 a1 (OutP.er hE he1 trivial ha1))
      simp only [go_sem, ro, wo, wa, wx, rx, bk_e, ins_e, vl_e, List.length_map, hl, Nat.le_refl]
      rw [List.take_of_length_le (by rw [List.length_map]; omega)]
      rfl
end Go.Proofs.YtdhiiannngjjpaaGreatDoor
set_option maxRecDepth 100000
set_option maxHeartbeats 20000000
set_option linter.unusedVariables false
set_option linter.unusedSimpArgs false
namespace Go.Proofs.YtdhiiannngjjpaaGreatDoor
open Go Go.Mw
-- @U: ro, wo, wa, wx, rx, bk_e, ins_e, vl_e

theorem r_rest_e {b : List UInt8} {a : Nat} {e op : Int} (hi : rIm op = 0) : ACalls Tryz.prog n_ref11_rest [rx b a e, .int .i64 op] [] sb (fun r' σ' => r' = .tup [rx b a e, ins_ z0] ∧ σ' = []) := by
  refine fun_sound (ic := F_ref11_rest.body) mixed c_ref11_rest rfl rfl ?_
  have hc := r_rof op
  rw [hi] at hc
  simp only [go_sem, ro, wo, wa, wx, rx, bk_e, ins_e, vl_e, F_ref11_rest]
  refine call_same (hc) (by simp [go_sem, ro, wo, wa, wx, rx, bk_e, ins_e, vl_e]) ?_
  simp only [go_sem, ro, wo, wa, wx, rx, bk_e, ins_e, vl_e]
  exact wdone (Wk.nlm _ 5 (r' := insC z0) rfl (nl9 ..)) [] (.tup [rx b a e, ins_ z0]) [] (by simp only [go_sem, ro, wo, wa, wx, rx, bk_e, ins_e, vl_e, insC]) trivial rfl ⟨rfl, rfl⟩
variable {b : List UInt8} {a : Nat} (ha : a ≤ b.length) (hb : b.length < 1000000000)
include ha hb
theorem r_getval_e {e : Int} (he : e ≠ 0) : PCalls Tryz.prog n_ref10_GetVal [rx b a e] (.tup [rx b a e, .int .i64 0]) := by
  refine pfun_sound (ic := F_ref10_GetVal.body) mixed c_ref10_GetVal rfl rfl ?_
  simp only [go_sem, ro, wo, wa, wx, rx, bk_e, ins_e, vl_e, F_ref10_GetVal]
  refine call_same (q_Byte b a e ha hb) (by simp [go_sem, ro, wo, wa, wx, rx, bk_e, ins_e, vl_e]) ?_
  simp only [go_sem, ro, wo, wa, wx, rx, bk_e, ins_e, vl_e, e_f he, rByte_f, e_t he]
  exact pdone [] (by rfl) rfl
theorem s_getval_e {e : Int} (he : e ≠ 0) : RM n_bintype_GetVal [] true b a e (.int .i64 0) a e := by
  refine fun_sound (ic := F_bintype_GetVal.body) mixed c_bintype_GetVal rfl rfl ?_
  simp only [go_sem, ro, wo, wa, wx, rx, bk_e, ins_e, vl_e, F_bintype_GetVal]
  refine call_m (s_byte true b a e ha hb) ⟨by decide, by decide⟩ (by first | rfl | exact slv_ids _) (by simp [go_sem, ro, wo, wa, wx, rx, bk_e, ins_e, vl_e]) rfl rfl (by rfl) ?_
  simp only [go_sem, ro, wo, wa, wx, rx, bk_e, ins_e, vl_e, e_f he, Bool.true_and, rByte_f]
  refine call_m (s_err true b a e) ⟨by decide, by decide⟩ (by first | rfl | exact slv_ids _) (by simp [go_sem, ro, wo, wa, wx, rx, bk_e, ins_e, vl_e]) rfl rfl (by rfl) ?_
  simp only [go_sem, ro, wo, wa, wx, rx, bk_e, ins_e, vl_e, e_t he]
  exact done [] _ [(1000, ro true b a e)] (by simp only [go_sem, ro, wo, wa, wx, rx, bk_e, ins_e, vl_e]) (by simp only [go_sem, ro, wo, wa, wx, rx, bk_e, ins_e, vl_e]) rfl ⟨rfl, rfl⟩
theorem r_rest (op i : Int) (hi : 0 ≤ i ∧ i ≤ 20) (him : rIm op = i) : QI n_ref11_rest [.int .i64 op] b a (gM i b a) := by
  refine fun_sound (ic := F_ref11_rest.body) mixed c_ref11_rest rfl rfl ?_
  have hc := r_rof op
  rw [him] at hc
  clear him
  rcases (show i = 0 ∨ i = 1 ∨ i = 2 ∨ i = 3 ∨ i = 4 ∨ i = 5 ∨ i = 6 ∨ i = 7 ∨ i = 8 ∨ i = 9 ∨ i = 10 ∨ i = 11 ∨ i = 12 ∨ i = 13 ∨ i = 14 ∨ i = 15 ∨ i = 16 ∨ i = 17 ∨ i = 18 ∨ i = 19 ∨ i = 20 by omega) with rfl | rfl | rfl | rfl | rfl | rfl | rfl | rfl | rfl | rfl | rfl | rfl | rfl | rfl | rfl | rfl | rfl | rfl | rfl | rfl | rfl
  · simp only [go_sem, ro, wo, wa, wx, rx, bk_e, ins_e, vl_e, F_ref11_rest]
    refine call_same (hc) (by simp [go_sem, ro, wo, wa, wx, rx, bk_e, ins_e, vl_e]) ?_
    simp only [go_sem, ro, wo, wa, wx, rx, bk_e, ins_e, vl_e]
    refine wdone (Wk.nlm _ 5 (r' := insC z0) rfl (nl9 ..)) [] (.tup [rx b a 0, ins_ z0]) [] (by simp only [go_sem, ro, wo, wa, wx, rx, bk_e, ins_e, vl_e, insC]) trivial rfl ⟨(z0, a, 0), OutP.ok ?_ ha, rfl, rfl⟩
    simp only [gM]
    rfl
  · simp only [go_sem, ro, wo, wa, wx, rx, bk_e, ins_e, vl_e, F_ref11_rest]
    refine call_same (hc) (by simp [go_sem, ro, wo, wa, wx, rx, bk_e, ins_e, vl_e]) ?_
    simp only [go_sem, ro, wo, wa, wx, rx, bk_e, ins_e, vl_e]
    refine call_pe (r_getblock ha hb) ?_
    rintro ⟨⟨k, v, x⟩, a1, e1⟩ ⟨h1, h2⟩
    replace h1 : a1 ≤ b.length := h1
    rcases h2 with ⟨q, k2, g1, g2⟩ | ⟨e, g1, he, g2, g3⟩
    · cases g2
      simp only [go_sem, ro, wo, wa, wx, rx, bk_e, ins_e, vl_e]
      refine wdone (Wk.nlm _ 5 (r' := insC { z0 with k := k, v := v, x := x }) rfl (nl9 ..)) [] (.tup [rx b a1 0, ins_ { z0 with k := k, v := v, x := x }]) [] (by simp only [go_sem, ro, wo, wa, wx, rx, bk_e, ins_e, vl_e, insC]) trivial rfl ⟨(_, a1, 0), OutP.ok ?_ h1, rfl, rfl⟩
      simp only [gM, g1]
      rfl
    · obtain rfl : e1 = e := g3
      cases g2
      simp only [go_sem, ro, wo, wa, wx, rx, bk_e, ins_e, vl_e]
      refine wdone (Wk.nlm _ 5 (r' := insC z0) rfl (nl9 ..)) [] (.tup [rx b a1 e1, ins_ z0]) [] (by simp only [go_sem, ro, wo, wa, wx, rx, bk_e, ins_e, vl_e, insC]) trivial rfl ⟨(z0, a1, e1), OutP.er ?_ he trivial h1, rfl, rfl⟩
      simp only [gM, g1]
      rfl
  ·
    rcases rU_g ha with ⟨x, k, g1, g2, g3, g4⟩ | ⟨e, he, g1, g2⟩
    · simp only [go_sem, ro, wo, wa, wx, rx, bk_e, ins_e, vl_e, F_ref11_rest]
      refine call_same (hc) (by simp [go_sem, ro, wo, wa, wx, rx, bk_e, ins_e, vl_e]) ?_
      simp only [go_sem, ro, wo, wa, wx, rx, bk_e, ins_e, vl_e]
      refine call_same (q_U32 b a 0 ha hb) (by simp [go_sem, ro, wo, wa, wx, rx, bk_e, ins_e, vl_e]) ?_
      simp only [go_sem, ro, wo, wa, wx, rx, bk_e, ins_e, vl_e, tt1, g2]
      refine wdone (Wk.nlm _ 5 (r' := insC { z0 with a := x }) rfl (nl9 ..)) [] (.tup [rx b k 0, ins_ { z0 with a := x }]) [] (by simp only [go_sem, ro, wo, wa, wx, rx, bk_e, ins_e, vl_e, insC]) trivial rfl ⟨(_, k, 0), OutP.ok ?_ g4, rfl, rfl⟩
      simp only [gM, g1]
      rfl
    · simp only [go_sem, ro, wo, wa, wx, rx, bk_e, ins_e, vl_e, F_ref11_rest]
      refine call_same (hc) (by simp [go_sem, ro, wo, wa, wx, rx, bk_e, ins_e, vl_e]) ?_
      simp only [go_sem, ro, wo, wa, wx, rx, bk_e, ins_e, vl_e]
      refine call_same (q_U32 b a 0 ha hb) (by simp [go_sem, ro, wo, wa, wx, rx, bk_e, ins_e, vl_e]) ?_
      simp only [go_sem, ro, wo, wa, wx, rx, bk_e, ins_e, vl_e, tt1, g2]
      refine wdone (Wk.nlm _ 5 (r' := insC z0) rfl (nl9 ..)) [] (.tup [rx b a e, ins_ z0]) [] (by simp only [go_sem, ro, wo, wa, wx, rx, bk_e, ins_e, vl_e, insC]) trivial rfl ⟨(z0, a, e), OutP.er ?_ he trivial ha, rfl, rfl⟩
      simp only [gM, g1]
      rfl
  · simp only [go_sem, ro, wo, wa, wx, rx, bk_e, ins_e, vl_e, F_ref11_rest]
    refine call_same (hc) (by simp [go_sem, ro, wo, wa, wx, rx, bk_e, ins_e, vl_e]) ?_
    simp only [go_sem, ro, wo, wa, wx, rx, bk_e, ins_e, vl_e]
    refine call_pe (r_table ha hb) ?_
    rintro ⟨x, a1, e1⟩ hq
    simp only [go_sem, ro, wo, wa, wx, rx, bk_e, ins_e, vl_e]
    exact done [] _ [] (by simp only [go_sem, ro, wo, wa, wx, rx, bk_e, ins_e, vl_e]) trivial rfl ⟨(x, a1, e1), hq, rfl, rfl⟩
  ·
    rcases rU_g ha with ⟨x, k, g1, g2, g3, g4⟩ | ⟨e, he, g1, g2⟩
    · simp only [go_sem, ro, wo, wa, wx, rx, bk_e, ins_e, vl_e, F_ref11_rest]
      refine call_same (hc) (by simp [go_sem, ro, wo, wa, wx, rx, bk_e, ins_e, vl_e]) ?_
      simp only [go_sem, ro, wo, wa, wx, rx, bk_e, ins_e, vl_e]
      refine call_same (q_U32 b a 0 ha hb) (by simp [go_sem, ro, wo, wa, wx, rx, bk_e, ins_e, vl_e]) ?_
      simp only [go_sem, ro, wo, wa, wx, rx, bk_e, ins_e, vl_e, tt1, g2]
      refine wdone (Wk.nlm _ 5 (r' := insC { z0 with a := x }) rfl (nl9 ..)) [] (.tup [rx b k 0, ins_ { z0 with a := x }]) [] (by simp only [go_sem, ro, wo, wa, wx, rx, bk_e, ins_e, vl_e, insC]) trivial rfl ⟨(_, k, 0), OutP.ok ?_ g4, rfl, rfl⟩
      simp only [gM, g1]
      rfl
    · simp only [go_sem, ro, wo, wa, wx, rx, bk_e, ins_e, vl_e, F_ref11_rest]
      refine call_same (hc) (by simp [go_sem, ro, wo, wa, wx, rx, bk_e, ins_e, vl_e]) ?_
      simp only [go_sem, ro, wo, wa, wx, rx, bk_e, ins_e, vl_e]
      refine call_same (q_U32 b a 0 ha hb) (by simp [go_sem, ro, wo, wa, wx, rx, bk_e, ins_e, vl_e]) ?_
      simp only [go_sem, ro, wo, wa, wx, rx, bk_e, ins_e, vl_e, tt1, g2]
      refine wdone (Wk.nlm _ 5 (r' := insC z0) rfl (nl9 ..)) [] (.tup [rx b a e, ins_ z0]) [] (by simp only [go_sem, ro, wo, wa, wx, rx, bk_e, ins_e, vl_e, insC]) trivial rfl ⟨(z0, a, e), OutP.er ?_ he trivial ha, rfl, rfl⟩
      simp only [gM, g1]
      rfl
  ·
    rcases rU_g ha with ⟨x, k, g1, g2, g3, g4⟩ | ⟨e, he, g1, g2⟩
    · simp only [go_sem, ro, wo, wa, wx, rx, bk_e, ins_e, vl_e, F_ref11_rest]
      refine call_same (hc) (by simp [go_sem, ro, wo, wa, wx, rx, bk_e, ins_e, vl_e]) ?_
      simp only [go_sem, ro, wo, wa, wx, rx, bk_e, ins_e, vl_e]
      refine call_same (q_U32 b a 0 ha hb) (by simp [go_sem, ro, wo, wa, wx, rx, bk_e, ins_e, vl_e]) ?_
      simp only [go_sem, ro, wo, wa, wx, rx, bk_e, ins_e, vl_e, tt1, g2]
      refine call_same (q_U32 b k 0 g4 hb) (by simp [go_sem, ro, wo, wa, wx, rx, bk_e, ins_e, vl_e]) ?_
      rcases rU_g g4 with ⟨y, k1, p1, p2, p3, p4⟩ | ⟨e, he, p1, p2⟩
      · simp only [go_sem, ro, wo, wa, wx, rx, bk_e, ins_e, vl_e, tt1, p2]
        refine wdone (Wk.nlm _ 5 (r' := insC { z0 with a := x, b := y }) rfl (nl9 ..)) [] (.tup [rx b k1 0, ins_ { z0 with a := x, b := y }]) [] (by simp only [go_sem, ro, wo, wa, wx, rx, bk_e, ins_e, vl_e, insC]) trivial rfl ⟨(_, k1, 0), OutP.ok ?_ p4, rfl, rfl⟩
        simp only [gM, g1, p1]
        rfl
      · simp only [go_sem, ro, wo, wa, wx, rx, bk_e, ins_e, vl_e, tt1, p2]
        refine wdone (Wk.nlm _ 5 (r' := insC { z0 with a := x }) rfl (nl9 ..)) [] (.tup [rx b k e, ins_ { z0 with a := x }]) [] (by simp only [go_sem, ro, wo, wa, wx, rx, bk_e, ins_e, vl_e, insC]) trivial rfl ⟨(_, k, e), OutP.er ?_ he trivial g4, rfl, rfl⟩
        simp only [gM, g1, p1]
        rfl
    · simp only [go_sem, ro, wo, wa, wx, rx, bk_e, ins_e, vl_e, F_ref11_rest]
      refine call_same (hc) (by simp [go_sem, ro, wo, wa, wx, rx, bk_e, ins_e, vl_e]) ?_
      simp only [go_sem, ro, wo, wa, wx, rx, bk_e, ins_e, vl_e]
      refine call_same (q_U32 b a 0 ha hb) (by simp [go_sem, ro, wo, wa, wx, rx, bk_e, ins_e, vl_e]) ?_
      simp only [go_sem, ro, wo, wa, wx, rx, bk_e, ins_e, vl_e, tt1, g2]
      refine call_same (q_U32 b a e ha hb) (by simp [go_sem, ro, wo, wa, wx, rx, bk_e, ins_e, vl_e]) ?_
      simp only [go_sem, ro, wo, wa, wx, rx, bk_e, ins_e, vl_e, e_f he, rU_f]
      refine wdone (Wk.nlm _ 5 (r' := insC z0) rfl (nl9 ..)) [] (.tup [rx b a e, ins_ z0]) [] (by simp only [go_sem, ro, wo, wa, wx, rx, bk_e, ins_e, vl_e, insC]) trivial rfl ⟨(z0, a, e), OutP.er ?_ he trivial ha, rfl, rfl⟩
      simp only [gM, g1]
      rfl
  · rcases rU_g ha with ⟨x, k, g1, g2, g3, g4⟩ | ⟨e, he, g1, g2⟩
    · by_cases hx : x = 1
      · subst hx
        have d : (((1 : Nat) : Int) != 1) = false := rfl
        simp only [go_sem, ro, wo, wa, wx, rx, bk_e, ins_e, vl_e, F_ref11_rest]
        refine call_same (hc) (by simp [go_sem, ro, wo, wa, wx, rx, bk_e, ins_e, vl_e]) ?_
        simp only [go_sem, ro, wo, wa, wx, rx, bk_e, ins_e, vl_e]
        refine call_same (q_U32 b a 0 ha hb) (by simp [go_sem, ro, wo, wa, wx, rx, bk_e, ins_e, vl_e]) ?_
        simp only [go_sem, ro, wo, wa, wx, rx, bk_e, ins_e, vl_e, tt1, g2, d]
        refine call_pe (r_getval g4 hb) ?_
        rintro ⟨t, a1, e1⟩ ⟨h1, h2⟩
        replace h1 : a1 ≤ b.length := h1
        rcases h2 with ⟨q, k2, p1, p2⟩ | ⟨e, p1, he, p2, p3⟩
        · cases p2
          simp only [go_sem, ro, wo, wa, wx, rx, bk_e, ins_e, vl_e]
          refine wdone (Wk.nlm _ 5 rfl (nl7 ..)) [104] (.tup [rx b a1 0, ins_ { z0 with ty := [t] }]) [] ?_ trivial rfl ⟨(_, a1, 0), OutP.ok ?_ h1, rfl, rfl⟩
          · simp only [go_sem, ro, wo, wa, wx, rx, bk_e, ins_e, vl_e]
            rfl
          · simp only [gM, g1, p1]
            rfl
        · obtain rfl : e1 = e := p3
          cases p2
          simp only [go_sem, ro, wo, wa, wx, rx, bk_e, ins_e, vl_e]
          refine wdone (Wk.nlm _ 5 rfl (nl7 ..)) [104] (.tup [rx b a1 e1, ins_ { z0 with ty := [0] }]) [] ?_ trivial rfl ⟨(_, a1, e1), OutP.er ?_ he trivial h1, rfl, rfl⟩
          · simp only [go_sem, ro, wo, wa, wx, rx, bk_e, ins_e, vl_e]
            rfl
          · simp only [gM, g1, p1]
            rfl
      · have d : ((x : Int) != 1) = true := by simp; omega
        simp only [go_sem, ro, wo, wa, wx, rx, bk_e, ins_e, vl_e, F_ref11_rest]
        refine call_same (hc) (by simp [go_sem, ro, wo, wa, wx, rx, bk_e, ins_e, vl_e]) ?_
        simp only [go_sem, ro, wo, wa, wx, rx, bk_e, ins_e, vl_e]
        refine call_same (q_U32 b a 0 ha hb) (by simp [go_sem, ro, wo, wa, wx, rx, bk_e, ins_e, vl_e]) ?_
        simp only [go_sem, ro, wo, wa, wx, rx, bk_e, ins_e, vl_e, tt1, g2, d]
        first | refine call_same (q_Fail0 b k 4) (by simp [go_sem, rx]) ?_ | refine dcall_same (q_Fail0 b k 4) (by simp [go_sem, rx]) rfl ?_
        simp only [go_sem, ro, wo, wa, wx, rx, bk_e, ins_e, vl_e]
        refine wdone (Wk.nlm _ 5 (r' := insC z0) rfl (nl9 ..)) [] (.tup [rx b k 4, ins_ z0]) [] (by simp only [go_sem, ro, wo, wa, wx, rx, bk_e, ins_e, vl_e, insC]) trivial rfl ⟨(z0, k, 4), OutP.er ?_ (by decide) trivial g4, rfl, rfl⟩
        simp only [gM, g1, hx]
        rfl
    · simp only [go_sem, ro, wo, wa, wx, rx, bk_e, ins_e, vl_e, F_ref11_rest]
      refine call_same (hc) (by simp [go_sem, ro, wo, wa, wx, rx, bk_e, ins_e, vl_e]) ?_
      simp only [go_sem, ro, wo, wa, wx, rx, bk_e, ins_e, vl_e]
      refine call_same (q_U32 b a 0 ha hb) (by simp [go_sem, ro, wo, wa, wx, rx, bk_e, ins_e, vl_e]) ?_
      simp only [go_sem, ro, wo, wa, wx, rx, bk_e, ins_e, vl_e, tt1, g2, e_f he]
      refine call_same (r_getval_e ha hb he) (by simp [go_sem, ro, wo, wa, wx, rx, bk_e, ins_e, vl_e]) ?_
      simp only [go_sem, ro, wo, wa, wx, rx, bk_e, ins_e, vl_e]
      refine wdone (Wk.nlm _ 5 rfl (nl7 ..)) [104] (.tup [rx b a e, ins_ { z0 with ty := [0] }]) [] ?_ trivial rfl ⟨(_, a, e), OutP.er ?_ he trivial ha, rfl, rfl⟩
      · simp only [go_sem, ro, wo, wa, wx, rx, bk_e, ins_e, vl_e]
        rfl
      · simp only [gM, g1]
        rfl
  ·
    rcases rU_g ha with ⟨x, k, g1, g2, g3, g4⟩ | ⟨e, he, g1, g2⟩
    · simp only [go_sem, ro, wo, wa, wx, rx, bk_e, ins_e, vl_e, F_ref11_rest]
      refine call_same (hc) (by simp [go_sem, ro, wo, wa, wx, rx, bk_e, ins_e, vl_e]) ?_
      simp only [go_sem, ro, wo, wa, wx, rx, bk_e, ins_e, vl_e]
      refine call_same (q_U32 b a 0 ha hb) (by simp [go_sem, ro, wo, wa, wx, rx, bk_e, ins_e, vl_e]) ?_
      simp only [go_sem, ro, wo, wa, wx, rx, bk_e, ins_e, vl_e, tt1, g2]
      refine wdone (Wk.nlm _ 5 (r' := insC { z0 with a := x }) rfl (nl9 ..)) [] (.tup [rx b k 0, ins_ { z0 with a := x }]) [] (by simp only [go_sem, ro, wo, wa, wx, rx, bk_e, ins_e, vl_e, insC]) trivial rfl ⟨(_, k, 0), OutP.ok ?_ g4, rfl, rfl⟩
      simp only [gM, g1]
      rfl
    · simp only [go_sem, ro, wo, wa, wx, rx, bk_e, ins_e, vl_e, F_ref11_rest]
      refine call_same (hc) (by simp [go_sem, ro, wo, wa, wx, rx, bk_e, ins_e, vl_e]) ?_
      simp only [go_sem, ro, wo, wa, wx, rx, bk_e, ins_e, vl_e]
      refine call_same (q_U32 b a 0 ha hb) (by simp [go_sem, ro, wo, wa, wx, rx, bk_e, ins_e, vl_e]) ?_
      simp only [go_sem, ro, wo, wa, wx, rx, bk_e, ins_e, vl_e, tt1, g2]
      refine wdone (Wk.nlm _ 5 (r' := insC z0) rfl (nl9 ..)) [] (.tup [rx b a e, ins_ z0]) [] (by simp only [go_sem, ro, wo, wa, wx, rx, bk_e, ins_e, vl_e, insC]) trivial rfl ⟨(z0, a, e), OutP.er ?_ he trivial ha, rfl, rfl⟩
      simp only [gM, g1]
      rfl
  ·
    rcases rU_g ha with ⟨x, k, g1, g2, g3, g4⟩ | ⟨e, he, g1, g2⟩
    · simp only [go_sem, ro, wo, wa, wx, rx, bk_e, ins_e, vl_e, F_ref11_rest]
      refine call_same (hc) (by simp [go_sem, ro, wo, wa, wx, rx, bk_e, ins_e, vl_e]) ?_
      simp only [go_sem, ro, wo, wa, wx, rx, bk_e, ins_e, vl_e]
      refine call_same (q_U32 b a 0 ha hb) (by simp [go_sem, ro, wo, wa, wx, rx, bk_e, ins_e, vl_e]) ?_
      simp only [go_sem, ro, wo, wa, wx, rx, bk_e, ins_e, vl_e, tt1, g2]
      refine wdone (Wk.nlm _ 5 (r' := insC { z0 with a := x }) rfl (nl9 ..)) [] (.tup [rx b k 0, ins_ { z0 with a := x }]) [] (by simp only [go_sem, ro, wo, wa, wx, rx, bk_e, ins_e, vl_e, insC]) trivial rfl ⟨(_, k, 0), OutP.ok ?_ g4, rfl, rfl⟩
      simp only [gM, g1]
      rfl
    · simp only [go_sem, ro, wo, wa, wx, rx, bk_e, ins_e, vl_e, F_ref11_rest]
      refine call_same (hc) (by simp [go_sem, ro, wo, wa, wx, rx, bk_e, ins_e, vl_e]) ?_
      simp only [go_sem, ro, wo, wa, wx, rx, bk_e, ins_e, vl_e]
      refine call_same (q_U32 b a 0 ha hb) (by simp [go_sem, ro, wo, wa, wx, rx, bk_e, ins_e, vl_e]) ?_
      simp only [go_sem, ro, wo, wa, wx, rx, bk_e, ins_e, vl_e, tt1, g2]
      refine wdone (Wk.nlm _ 5 (r' := insC z0) rfl (nl9 ..)) [] (.tup [rx b a e, ins_ z0]) [] (by simp only [go_sem, ro, wo, wa, wx, rx, bk_e, ins_e, vl_e, insC]) trivial rfl ⟨(z0, a, e), OutP.er ?_ he trivial ha, rfl, rfl⟩
      simp only [gM, g1]
      rfl
  ·
    rcases rU_g ha with ⟨x, k, g1, g2, g3, g4⟩ | ⟨e, he, g1, g2⟩
    · simp only [go_sem, ro, wo, wa, wx, rx, bk_e, ins_e, vl_e, F_ref11_rest]
      refine call_same (hc) (by simp [go_sem, ro, wo, wa, wx, rx, bk_e, ins_e, vl_e]) ?_
      simp only [go_sem, ro, wo, wa, wx, rx, bk_e, ins_e, vl_e]
      refine call_same (q_U32 b a 0 ha hb) (by simp [go_sem, ro, wo, wa, wx, rx, bk_e, ins_e, vl_e]) ?_
      simp only [go_sem, ro, wo, wa, wx, rx, bk_e, ins_e, vl_e, tt1, g2]
      refine wdone (Wk.nlm _ 5 (r' := insC { z0 with a := x }) rfl (nl9 ..)) [] (.tup [rx b k 0, ins_ { z0 with a := x }]) [] (by simp only [go_sem, ro, wo, wa, wx, rx, bk_e, ins_e, vl_e, insC]) trivial rfl ⟨(_, k, 0), OutP.ok ?_ g4, rfl, rfl⟩
      simp only [gM, g1]
      rfl
    · simp only [go_sem, ro, wo, wa, wx, rx, bk_e, ins_e, vl_e, F_ref11_rest]
      refine call_same (hc) (by simp [go_sem, ro, wo, wa, wx, rx, bk_e, ins_e, vl_e]) ?_
      simp only [go_sem, ro, wo, wa, wx, rx, bk_e, ins_e, vl_e]
      refine call_same (q_U32 b a 0 ha hb) (by simp [go_sem, ro, wo, wa, wx, rx, bk_e, ins_e, vl_e]) ?_
      simp only [go_sem, ro, wo, wa, wx, rx, bk_e, ins_e, vl_e, tt1, g2]
      refine wdone (Wk.nlm _ 5 (r' := insC z0) rfl (nl9 ..)) [] (.tup [rx b a e, ins_ z0]) [] (by simp only [go_sem, ro, wo, wa, wx, rx, bk_e, ins_e, vl_e, insC]) trivial rfl ⟨(z0, a, e), OutP.er ?_ he trivial ha, rfl, rfl⟩
      simp only [gM, g1]
      rfl
  ·
    rcases rU_g ha with ⟨x, k, g1, g2, g3, g4⟩ | ⟨e, he, g1, g2⟩
    · simp only [go_sem, ro, wo, wa, wx, rx, bk_e, ins_e, vl_e, F_ref11_rest]
      refine call_same (hc) (by simp [go_sem, ro, wo, wa, wx, rx, bk_e, ins_e, vl_e]) ?_
      simp only [go_sem, ro, wo, wa, wx, rx, bk_e, ins_e, vl_e]
      refine call_same (q_U32 b a 0 ha hb) (by simp [go_sem, ro, wo, wa, wx, rx, bk_e, ins_e, vl_e]) ?_
      simp only [go_sem, ro, wo, wa, wx, rx, bk_e, ins_e, vl_e, tt1, g2]
      refine call_same (q_U32 b k 0 g4 hb) (by simp [go_sem, ro, wo, wa, wx, rx, bk_e, ins_e, vl_e]) ?_
      rcases rU_g g4 with ⟨y, k1, p1, p2, p3, p4⟩ | ⟨e, he, p1, p2⟩
      · simp only [go_sem, ro, wo, wa, wx, rx, bk_e, ins_e, vl_e, tt1, p2]
        refine wdone (Wk.nlm _ 5 (r' := insC { z0 with a := x, b := y }) rfl (nl9 ..)) [] (.tup [rx b k1 0, ins_ { z0 with a := x, b := y }]) [] (by simp only [go_sem, ro, wo, wa, wx, rx, bk_e, ins_e, vl_e, insC]) trivial rfl ⟨(_, k1, 0), OutP.ok ?_ p4, rfl, rfl⟩
        simp only [gM, g1, p1]
        rfl
      · simp only [go_sem, ro, wo, wa, wx, rx, bk_e, ins_e, vl_e, tt1, p2]
        refine wdone (Wk.nlm _ 5 (r' := insC { z0 with a := x }) rfl (nl9 ..)) [] (.tup [rx b k e, ins_ { z0 with a := x }]) [] (by simp only [go_sem, ro, wo, wa, wx, rx, bk_e, ins_e, vl_e, insC]) trivial rfl ⟨(_, k, e), OutP.er ?_ he trivial g4, rfl, rfl⟩
        simp only [gM, g1, p1]
        rfl
    · simp only [go_sem, ro, wo, wa, wx, rx, bk_e, ins_e, vl_e, F_ref11_rest]
      refine call_same (hc) (by simp [go_sem, ro, wo, wa, wx, rx, bk_e, ins_e, vl_e]) ?_
      simp only [go_sem, ro, wo, wa, wx, rx, bk_e, ins_e, vl_e]
      refine call_same (q_U32 b a 0 ha hb) (by simp [go_sem, ro, wo, wa, wx, rx, bk_e, ins_e, vl_e]) ?_
      simp only [go_sem, ro, wo, wa, wx, rx, bk_e, ins_e, vl_e, tt1, g2]
      refine call_same (q_U32 b a e ha hb) (by simp [go_sem, ro, wo, wa, wx, rx, bk_e, ins_e, vl_e]) ?_
      simp only [go_sem, ro, wo, wa, wx, rx, bk_e, ins_e, vl_e, e_f he, rU_f]
      refine wdone (Wk.nlm _ 5 (r' := insC z0) rfl (nl9 ..)) [] (.tup [rx b a e, ins_ z0]) [] (by simp only [go_sem, ro, wo, wa, wx, rx, bk_e, ins_e, vl_e, insC]) trivial rfl ⟨(z0, a, e), OutP.er ?_ he trivial ha, rfl, rfl⟩
      simp only [gM, g1]
      rfl
  ·
    rcases rU_g ha with ⟨x, k, g1, g2, g3, g4⟩ | ⟨e, he, g1, g2⟩
    · simp only [go_sem, ro, wo, wa, wx, rx, bk_e, ins_e, vl_e, F_ref11_rest]
      refine call_same (hc) (by simp [go_sem, ro, wo, wa, wx, rx, bk_e, ins_e, vl_e]) ?_
      simp only [go_sem, ro, wo, wa, wx, rx, bk_e, ins_e, vl_e]
      refine call_same (q_U32 b a 0 ha hb) (by simp [go_sem, ro, wo, wa, wx, rx, bk_e, ins_e, vl_e]) ?_
      simp only [go_sem, ro, wo, wa, wx, rx, bk_e, ins_e, vl_e, tt1, g2]
      refine call_same (q_U32 b k 0 g4 hb) (by simp [go_sem, ro, wo, wa, wx, rx, bk_e, ins_e, vl_e]) ?_
      rcases rU_g g4 with ⟨y, k1, p1, p2, p3, p4⟩ | ⟨e, he, p1, p2⟩
      · simp only [go_sem, ro, wo, wa, wx, rx, bk_e, ins_e, vl_e, tt1, p2]
        refine wdone (Wk.nlm _ 5 (r' := insC { z0 with a := x, b := y }) rfl (nl9 ..)) [] (.tup [rx b k1 0, ins_ { z0 with a := x, b := y }]) [] (by simp only [go_sem, ro, wo, wa, wx, rx, bk_e, ins_e, vl_e, insC]) trivial rfl ⟨(_, k1, 0), OutP.ok ?_ p4, rfl, rfl⟩
        simp only [gM, g1, p1]
        rfl
      · simp only [go_sem, ro, wo, wa, wx, rx, bk_e, ins_e, vl_e, tt1, p2]
        refine wdone (Wk.nlm _ 5 (r' := insC { z0 with a := x }) rfl (nl9 ..)) [] (.tup [rx b k e, ins_ { z0 with a := x }]) [] (by simp only [go_sem, ro, wo, wa, wx, rx, bk_e, ins_e, vl_e, insC]) trivial rfl ⟨(_, k, e), OutP.er ?_ he trivial g4, rfl, rfl⟩
        simp only [gM, g1, p1]
        rfl
    · simp only [go_sem, ro, wo, wa, wx, rx, bk_e, ins_e, vl_e, F_ref11_rest]
      refine call_same (hc) (by simp [go_sem, ro, wo, wa, wx, rx, bk_e, ins_e, vl_e]) ?_
      simp only [go_sem, ro, wo, wa, wx, rx, bk_e, ins_e, vl_e]
      refine call_same (q_U32 b a 0 ha hb) (by simp [go_sem, ro, wo, wa, wx, rx, bk_e, ins_e, vl_e]) ?_
      simp only [go_sem, ro, wo, wa, wx, rx, bk_e, ins_e, vl_e, tt1, g2]
      refine call_same (q_U32 b a e ha hb) (by simp [go_sem, ro, wo, wa, wx, rx, bk_e, ins_e, vl_e]) ?_
      simp only [go_sem, ro, wo, wa, wx, rx, bk_e, ins_e, vl_e, e_f he, rU_f]
      refine wdone (Wk.nlm _ 5 (r' := insC z0) rfl (nl9 ..)) [] (.tup [rx b a e, ins_ z0]) [] (by simp only [go_sem, ro, wo, wa, wx, rx, bk_e, ins_e, vl_e, insC]) trivial rfl ⟨(z0, a, e), OutP.er ?_ he trivial ha, rfl, rfl⟩
      simp only [gM, g1]
      rfl
  ·
    rcases rU_g ha with ⟨x, k, g1, g2, g3, g4⟩ | ⟨e, he, g1, g2⟩
    · simp only [go_sem, ro, wo, wa, wx, rx, bk_e, ins_e, vl_e, F_ref11_rest]
      refine call_same (hc) (by simp [go_sem, ro, wo, wa, wx, rx, bk_e, ins_e, vl_e]) ?_
      simp only [go_sem, ro, wo, wa, wx, rx, bk_e, ins_e, vl_e]
      refine call_same (q_U32 b a 0 ha hb) (by simp [go_sem, ro, wo, wa, wx, rx, bk_e, ins_e, vl_e]) ?_
      simp only [go_sem, ro, wo, wa, wx, rx, bk_e, ins_e, vl_e, tt1, g2]
      refine wdone (Wk.nlm _ 5 (r' := insC { z0 with a := x }) rfl (nl9 ..)) [] (.tup [rx b k 0, ins_ { z0 with a := x }]) [] (by simp only [go_sem, ro, wo, wa, wx, rx, bk_e, ins_e, vl_e, insC]) trivial rfl ⟨(_, k, 0), OutP.ok ?_ g4, rfl, rfl⟩
      simp only [gM, g1]
      rfl
    · simp only [go_sem, ro, wo, wa, wx, rx, bk_e, ins_e, vl_e, F_ref11_rest]
      refine call_same (hc) (by simp [go_sem, ro, wo, wa, wx, rx, bk_e, ins_e, vl_e]) ?_
      simp only [go_sem, ro, wo, wa, wx, rx, bk_e, ins_e, vl_e]
      refine call_same (q_U32 b a 0 ha hb) (by simp [go_sem, ro, wo, wa, wx, rx, bk_e, ins_e, vl_e]) ?_
      simp only [go_sem, ro, wo, wa, wx, rx, bk_e, ins_e, vl_e, tt1, g2]
      refine wdone (Wk.nlm _ 5 (r' := insC z0) rfl (nl9 ..)) [] (.tup [rx b a e, ins_ z0]) [] (by simp only [go_sem, ro, wo, wa, wx, rx, bk_e, ins_e, vl_e, insC]) trivial rfl ⟨(z0, a, e), OutP.er ?_ he trivial ha, rfl, rfl⟩
      simp only [gM, g1]
      rfl
  · rcases rU_g ha with ⟨x, k, g1, g2, g3, g4⟩ | ⟨e, he, g1, g2⟩
    · simp only [go_sem, ro, wo, wa, wx, rx, bk_e, ins_e, vl_e, F_ref11_rest]
      refine call_same (hc) (by simp [go_sem, ro, wo, wa, wx, rx, bk_e, ins_e, vl_e]) ?_
      simp only [go_sem, ro, wo, wa, wx, rx, bk_e, ins_e, vl_e]
      refine call_same (q_U32 b a 0 ha hb) (by simp [go_sem, ro, wo, wa, wx, rx, bk_e, ins_e, vl_e]) ?_
      simp only [go_sem, ro, wo, wa, wx, rx, bk_e, ins_e, vl_e, tt1, g2]
      refine wdone (Wk.nlm _ 5 (r' := insC { z0 with b := x }) rfl (nl9 ..)) [] (.tup [rx b k 0, ins_ { z0 with b := x }]) [] (by simp only [go_sem, ro, wo, wa, wx, rx, bk_e, ins_e, vl_e, insC]) trivial rfl ⟨(_, k, 0), OutP.ok ?_ g4, rfl, rfl⟩
      simp only [gM, g1]
      rfl
    · simp only [go_sem, ro, wo, wa, wx, rx, bk_e, ins_e, vl_e, F_ref11_rest]
      refine call_same (hc) (by simp [go_sem, ro, wo, wa, wx, rx, bk_e, ins_e, vl_e]) ?_
      simp only [go_sem, ro, wo, wa, wx, rx, bk_e, ins_e, vl_e]
      refine call_same (q_U32 b a 0 ha hb) (by simp [go_sem, ro, wo, wa, wx, rx, bk_e, ins_e, vl_e]) ?_
      simp only [go_sem, ro, wo, wa, wx, rx, bk_e, ins_e, vl_e, tt1, g2]
      refine wdone (Wk.nlm _ 5 (r' := insC z0) rfl (nl9 ..)) [] (.tup [rx b a e, ins_ z0]) [] (by simp only [go_sem, ro, wo, wa, wx, rx, bk_e, ins_e, vl_e, insC]) trivial rfl ⟨(z0, a, e), OutP.er ?_ he trivial ha, rfl, rfl⟩
      simp only [gM, g1]
      rfl
  ·
    rcases rU_g ha with ⟨x, k, g1, g2, g3, g4⟩ | ⟨e, he, g1, g2⟩
    · simp only [go_sem, ro, wo, wa, wx, rx, bk_e, ins_e, vl_e, F_ref11_rest]
      refine call_same (hc) (by simp [go_sem, ro, wo, wa, wx, rx, bk_e, ins_e, vl_e]) ?_
      simp only [go_sem, ro, wo, wa, wx, rx, bk_e, ins_e, vl_e]
      refine call_same (q_U32 b a 0 ha hb) (by simp [go_sem, ro, wo, wa, wx, rx, bk_e, ins_e, vl_e]) ?_
      simp only [go_sem, ro, wo, wa, wx, rx, bk_e, ins_e, vl_e, tt1, g2]
      refine call_same (q_U32 b k 0 g4 hb) (by simp [go_sem, ro, wo, wa, wx, rx, bk_e, ins_e, vl_e]) ?_
      rcases rU_g g4 with ⟨y, k1, p1, p2, p3, p4⟩ | ⟨e, he, p1, p2⟩
      · simp only [go_sem, ro, wo, wa, wx, rx, bk_e, ins_e, vl_e, tt1, p2]
        refine wdone (Wk.nlm _ 5 (r' := insC { z0 with a := x, b := y }) rfl (nl9 ..)) [] (.tup [rx b k1 0, ins_ { z0 with a := x, b := y }]) [] (by simp only [go_sem, ro, wo, wa, wx, rx, bk_e, ins_e, vl_e, insC]) trivial rfl ⟨(_, k1, 0), OutP.ok ?_ p4, rfl, rfl⟩
        simp only [gM, g1, p1]
        rfl
      · simp only [go_sem, ro, wo, wa, wx, rx, bk_e, ins_e, vl_e, tt1, p2]
        refine wdone (Wk.nlm _ 5 (r' := insC { z0 with a := x }) rfl (nl9 ..)) [] (.tup [rx b k e, ins_ { z0 with a := x }]) [] (by simp only [go_sem, ro, wo, wa, wx, rx, bk_e, ins_e, vl_e, insC]) trivial rfl ⟨(_, k, e), OutP.er ?_ he trivial g4, rfl, rfl⟩
        simp only [gM, g1, p1]
        rfl
    · simp only [go_sem, ro, wo, wa, wx, rx, bk_e, ins_e, vl_e, F_ref11_rest]
      refine call_same (hc) (by simp [go_sem, ro, wo, wa, wx, rx, bk_e, ins_e, vl_e]) ?_
      simp only [go_sem, ro, wo, wa, wx, rx, bk_e, ins_e, vl_e]
      refine call_same (q_U32 b a 0 ha hb) (by simp [go_sem, ro, wo, wa, wx, rx, bk_e, ins_e, vl_e]) ?_
      simp only [go_sem, ro, wo, wa, wx, rx, bk_e, ins_e, vl_e, tt1, g2]
      refine call_same (q_U32 b a e ha hb) (by simp [go_sem, ro, wo, wa, wx, rx, bk_e, ins_e, vl_e]) ?_
      simp only [go_sem, ro, wo, wa, wx, rx, bk_e, ins_e, vl_e, e_f he, rU_f]
      refine wdone (Wk.nlm _ 5 (r' := insC z0) rfl (nl9 ..)) [] (.tup [rx b a e, ins_ z0]) [] (by simp only [go_sem, ro, wo, wa, wx, rx, bk_e, ins_e, vl_e, insC]) trivial rfl ⟨(z0, a, e), OutP.er ?_ he trivial ha, rfl, rfl⟩
      simp only [gM, g1]
      rfl
  ·
    rcases rU_g ha with ⟨x, k, g1, g2, g3, g4⟩ | ⟨e, he, g1, g2⟩
    · simp only [go_sem, ro, wo, wa, wx, rx, bk_e, ins_e, vl_e, F_ref11_rest]
      refine call_same (hc) (by simp [go_sem, ro, wo, wa, wx, rx, bk_e, ins_e, vl_e]) ?_
      simp only [go_sem, ro, wo, wa, wx, rx, bk_e, ins_e, vl_e]
      refine call_same (q_U32 b a 0 ha hb) (by simp [go_sem, ro, wo, wa, wx, rx, bk_e, ins_e, vl_e]) ?_
      simp only [go_sem, ro, wo, wa, wx, rx, bk_e, ins_e, vl_e, tt1, g2]
      refine call_same (q_U32 b k 0 g4 hb) (by simp [go_sem, ro, wo, wa, wx, rx, bk_e, ins_e, vl_e]) ?_
      rcases rU_g g4 with ⟨y, k1, p1, p2, p3, p4⟩ | ⟨e, he, p1, p2⟩
      · simp only [go_sem, ro, wo, wa, wx, rx, bk_e, ins_e, vl_e, tt1, p2]
        refine wdone (Wk.nlm _ 5 (r' := insC { z0 with a := x, b := y }) rfl (nl9 ..)) [] (.tup [rx b k1 0, ins_ { z0 with a := x, b := y }]) [] (by simp only [go_sem, ro, wo, wa, wx, rx, bk_e, ins_e, vl_e, insC]) trivial rfl ⟨(_, k1, 0), OutP.ok ?_ p4, rfl, rfl⟩
        simp only [gM, g1, p1]
        rfl
      · simp only [go_sem, ro, wo, wa, wx, rx, bk_e, ins_e, vl_e, tt1, p2]
        refine wdone (Wk.nlm _ 5 (r' := insC { z0 with a := x }) rfl (nl9 ..)) [] (.tup [rx b k e, ins_ { z0 with a := x }]) [] (by simp only [go_sem, ro, wo, wa, wx, rx, bk_e, ins_e, vl_e, insC]) trivial rfl ⟨(_, k, e), OutP.er ?_ he trivial g4, rfl, rfl⟩
        simp only [gM, g1, p1]
        rfl
    · simp only [go_sem, ro, wo, wa, wx, rx, bk_e, ins_e, vl_e, F_ref11_rest]
      refine call_same (hc) (by simp [go_sem, ro, wo, wa, wx, rx, bk_e, ins_e, vl_e]) ?_
      simp only [go_sem, ro, wo, wa, wx, rx, bk_e, ins_e, vl_e]
      refine call_same (q_U32 b a 0 ha hb) (by simp [go_sem, ro, wo, wa, wx, rx, bk_e, ins_e, vl_e]) ?_
      simp only [go_sem, ro, wo, wa, wx, rx, bk_e, ins_e, vl_e, tt1, g2]
      refine call_same (q_U32 b a e ha hb) (by simp [go_sem, ro, wo, wa, wx, rx, bk_e, ins_e, vl_e]) ?_
      simp only [go_sem, ro, wo, wa, wx, rx, bk_e, ins_e, vl_e, e_f he, rU_f]
      refine wdone (Wk.nlm _ 5 (r' := insC z0) rfl (nl9 ..)) [] (.tup [rx b a e, ins_ z0]) [] (by simp only [go_sem, ro, wo, wa, wx, rx, bk_e, ins_e, vl_e, insC]) trivial rfl ⟨(z0, a, e), OutP.er ?_ he trivial ha, rfl, rfl⟩
      simp only [gM, g1]
      rfl
  ·
    rcases rU_g ha with ⟨x, k, g1, g2, g3, g4⟩ | ⟨e, he, g1, g2⟩
    · simp only [go_sem, ro, wo, wa, wx, rx, bk_e, ins_e, vl_e, F_ref11_rest]
      refine call_same (hc) (by simp [go_sem, ro, wo, wa, wx, rx, bk_e, ins_e, vl_e]) ?_
      simp only [go_sem, ro, wo, wa, wx, rx, bk_e, ins_e, vl_e]
      refine call_same (q_U32 b a 0 ha hb) (by simp [go_sem, ro, wo, wa, wx, rx, bk_e, ins_e, vl_e]) ?_
      simp only [go_sem, ro, wo, wa, wx, rx, bk_e, ins_e, vl_e, tt1, g2]
      refine wdone (Wk.nlm _ 5 (r' := insC { z0 with a := x }) rfl (nl9 ..)) [] (.tup [rx b k 0, ins_ { z0 with a := x }]) [] (by simp only [go_sem, ro, wo, wa, wx, rx, bk_e, ins_e, vl_e, insC]) trivial rfl ⟨(_, k, 0), OutP.ok ?_ g4, rfl, rfl⟩
      simp only [gM, g1]
      rfl
    · simp only [go_sem, ro, wo, wa, wx, rx, bk_e, ins_e, vl_e, F_ref11_rest]
      refine call_same (hc) (by simp [go_sem, ro, wo, wa, wx, rx, bk_e, ins_e, vl_e]) ?_
      simp only [go_sem, ro, wo, wa, wx, rx, bk_e, ins_e, vl_e]
      refine call_same (q_U32 b a 0 ha hb) (by simp [go_sem, ro, wo, wa, wx, rx, bk_e, ins_e, vl_e]) ?_
      simp only [go_sem, ro, wo, wa, wx, rx, bk_e, ins_e, vl_e, tt1, g2]
      refine wdone (Wk.nlm _ 5 (r' := insC z0) rfl (nl9 ..)) [] (.tup [rx b a e, ins_ z0]) [] (by simp only [go_sem, ro, wo, wa, wx, rx, bk_e, ins_e, vl_e, insC]) trivial rfl ⟨(z0, a, e), OutP.er ?_ he trivial ha, rfl, rfl⟩
      simp only [gM, g1]
      rfl
  · simp only [go_sem, ro, wo, wa, wx, rx, bk_e, ins_e, vl_e, F_ref11_rest]
    refine call_same (hc) (by simp [go_sem, ro, wo, wa, wx, rx, bk_e, ins_e, vl_e]) ?_
    simp only [go_sem, ro, wo, wa, wx, rx, bk_e, ins_e, vl_e]
    refine call_pe (r_memory ha hb) ?_
    rintro ⟨x, a1, e1⟩ hq
    simp only [go_sem, ro, wo, wa, wx, rx, bk_e, ins_e, vl_e]
    exact done [] _ [] (by simp only [go_sem, ro, wo, wa, wx, rx, bk_e, ins_e, vl_e]) trivial rfl ⟨(x, a1, e1), hq, rfl, rfl⟩
  · rcases rS_g 32 ha with ⟨x, k, g1, g2, g4⟩ | ⟨e, he, g1, g2⟩
    · simp only [go_sem, ro, wo, wa, wx, rx, bk_e, ins_e, vl_e, F_ref11_rest]
      refine call_same (hc) (by simp [go_sem, ro, wo, wa, wx, rx, bk_e, ins_e, vl_e]) ?_
      simp only [go_sem, ro, wo, wa, wx, rx, bk_e, ins_e, vl_e]
      refine call_same (q_S32 b a 0 ha hb) (by simp [go_sem, ro, wo, wa, wx, rx, bk_e, ins_e, vl_e]) ?_
      simp only [go_sem, ro, wo, wa, wx, rx, bk_e, ins_e, vl_e, tt1, g2]
      refine wdone (Wk.nlm _ 5 (r' := insC { z0 with n := IntKind.u64.wrap (IntKind.u32.wrap x) }) rfl (nl9 ..)) [] (.tup [rx b k 0, ins_ { z0 with n := IntKind.u64.wrap (IntKind.u32.wrap x) }]) [] (by simp only [go_sem, ro, wo, wa, wx, rx, bk_e, ins_e, vl_e, insC]) trivial rfl ⟨(_, k, 0), OutP.ok ?_ g4, rfl, rfl⟩
      simp only [gM, g1]
      rfl
    · simp only [go_sem, ro, wo, wa, wx, rx, bk_e, ins_e, vl_e, F_ref11_rest]
      refine call_same (hc) (by simp [go_sem, ro, wo, wa, wx, rx, bk_e, ins_e, vl_e]) ?_
      simp only [go_sem, ro, wo, wa, wx, rx, bk_e, ins_e, vl_e]
      refine call_same (q_S32 b a 0 ha hb) (by simp [go_sem, ro, wo, wa, wx, rx, bk_e, ins_e, vl_e]) ?_
      simp only [go_sem, ro, wo, wa, wx, rx, bk_e, ins_e, vl_e, tt1, g2]
      refine wdone (Wk.nlm _ 5 (r' := insC { z0 with n := IntKind.u64.wrap (IntKind.u32.wrap 0) }) rfl (nl9 ..)) [] (.tup [rx b a e, ins_ { z0 with n := IntKind.u64.wrap (IntKind.u32.wrap 0) }]) [] (by simp only [go_sem, ro, wo, wa, wx, rx, bk_e, ins_e, vl_e, insC]) trivial rfl ⟨(_, a, e), OutP.er ?_ he trivial ha, rfl, rfl⟩
      simp only [gM, g1]
      rfl
  · rcases rS_g 64 ha with ⟨x, k, g1, g2, g4⟩ | ⟨e, he, g1, g2⟩
    · simp only [go_sem, ro, wo, wa, wx, rx, bk_e, ins_e, vl_e, F_ref11_rest]
      refine call_same (hc) (by simp [go_sem, ro, wo, wa, wx, rx, bk_e, ins_e, vl_e]) ?_
      simp only [go_sem, ro, wo, wa, wx, rx, bk_e, ins_e, vl_e]
      refine call_same (q_S64 b a 0 ha hb) (by simp [go_sem, ro, wo, wa, wx, rx, bk_e, ins_e, vl_e]) ?_
      simp only [go_sem, ro, wo, wa, wx, rx, bk_e, ins_e, vl_e, tt1, g2]
      refine wdone (Wk.nlm _ 5 (r' := insC { z0 with n := IntKind.u64.wrap x }) rfl (nl9 ..)) [] (.tup [rx b k 0, ins_ { z0 with n := IntKind.u64.wrap x }]) [] (by simp only [go_sem, ro, wo, wa, wx, rx, bk_e, ins_e, vl_e, insC]) trivial rfl ⟨(_, k, 0), OutP.ok ?_ g4, rfl, rfl⟩
      simp only [gM, g1]
      rfl
    · simp only [go_sem, ro, wo, wa, wx, rx, bk_e, ins_e, vl_e, F_ref11_rest]
      refine call_same (hc) (by simp [go_sem, ro, wo, wa, wx, rx, bk_e, ins_e, vl_e]) ?_
      simp only [go_sem, ro, wo, wa, wx, rx, bk_e, ins_e, vl_e]
      refine call_same (q_S64 b a 0 ha hb) (by simp [go_sem, ro, wo, wa, wx, rx, bk_e, ins_e, vl_e]) ?_
      simp only [go_sem, ro, wo, wa, wx, rx, bk_e, ins_e, vl_e, tt1, g2]
      refine wdone (Wk.nlm _ 5 (r' := insC { z0 with n := IntKind.u64.wrap 0 }) rfl (nl9 ..)) [] (.tup [rx b a e, ins_ { z0 with n := IntKind.u64.wrap 0 }]) [] (by simp only [go_sem, ro, wo, wa, wx, rx, bk_e, ins_e, vl_e, insC]) trivial rfl ⟨(_, a, e), OutP.er ?_ he trivial ha, rfl, rfl⟩
      simp only [gM, g1]
      rfl
  · simp only [go_sem, ro, wo, wa, wx, rx, bk_e, ins_e, vl_e, F_ref11_rest]
    refine call_same (hc) (by simp [go_sem, ro, wo, wa, wx, rx, bk_e, ins_e, vl_e]) ?_
    simp only [go_sem, ro, wo, wa, wx, rx, bk_e, ins_e, vl_e]
    refine call_pe (r_getval ha hb) ?_
    rintro ⟨t, a1, e1⟩ ⟨h1, h2⟩
    replace h1 : a1 ≤ b.length := h1
    rcases h2 with ⟨q, k2, p1, p2⟩ | ⟨e, p1, he, p2, p3⟩
    · cases p2
      by_cases ht : t = 3 ∨ t = 4
      · have d3 : (t != 3) = true ∨ ((t != 3) = false ∧ t = 3) := by rcases ht with rfl | rfl <;> simp
        rcases ht with rfl | rfl
        · simp only [go_sem, ro, wo, wa, wx, rx, bk_e, ins_e, vl_e]
          refine wdone (Wk.nlm _ 5 (r' := insC { z0 with a := 3 }) rfl (nl9 ..)) [] (.tup [rx b a1 0, ins_ { z0 with a := 3 }]) [] (by simp only [go_sem, ro, wo, wa, wx, rx, bk_e, ins_e, vl_e, insC]) trivial rfl ⟨(_, a1, 0), OutP.ok ?_ h1, rfl, rfl⟩
          simp only [gM, p1]
          rfl
        · simp only [go_sem, ro, wo, wa, wx, rx, bk_e, ins_e, vl_e]
          refine wdone (Wk.nlm _ 5 (r' := insC { z0 with a := 4 }) rfl (nl9 ..)) [] (.tup [rx b a1 0, ins_ { z0 with a := 4 }]) [] (by simp only [go_sem, ro, wo, wa, wx, rx, bk_e, ins_e, vl_e, insC]) trivial rfl ⟨(_, a1, 0), OutP.ok ?_ h1, rfl, rfl⟩
          simp only [gM, p1]
          rfl
      · have d3 : (t != 3) = true := by simp; omega
        have d4 : (t != 4) = true := by simp; omega
        simp only [go_sem, ro, wo, wa, wx, rx, bk_e, ins_e, vl_e, d3, d4]
        first | refine call_same (q_Fail0 b a1 12) (by simp [go_sem, rx]) ?_ | refine dcall_same (q_Fail0 b a1 12) (by simp [go_sem, rx]) rfl ?_
        simp only [go_sem, ro, wo, wa, wx, rx, bk_e, ins_e, vl_e]
        refine wdone (Wk.nlm _ 5 (r' := insC z0) rfl (nl9 ..)) [] (.tup [rx b a1 12, ins_ z0]) [] (by simp only [go_sem, ro, wo, wa, wx, rx, bk_e, ins_e, vl_e, insC]) trivial rfl ⟨(z0, a1, 12), OutP.er ?_ (by decide) trivial h1, rfl, rfl⟩
        simp only [gM, p1, if_neg ht]
        rfl
    · obtain rfl : e1 = e := p3
      cases p2
      simp only [go_sem, ro, wo, wa, wx, rx, bk_e, ins_e, vl_e, e_f he]
      refine wdone (Wk.nlm _ 5 (r' := insC z0) rfl (nl9 ..)) [] (.tup [rx b a1 e1, ins_ z0]) [] (by simp only [go_sem, ro, wo, wa, wx, rx, bk_e, ins_e, vl_e, insC]) trivial rfl ⟨(z0, a1, e1), OutP.er ?_ he trivial h1, rfl, rfl⟩
      simp only [gM, p1]
      rfl
end Go.Proofs.YtdhiiannngjjpaaGreatDoor
