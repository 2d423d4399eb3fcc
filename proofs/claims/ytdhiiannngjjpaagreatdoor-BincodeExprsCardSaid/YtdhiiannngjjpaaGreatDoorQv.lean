/-
  Chapter 11, walks: the reference's GetExpr; sequences compared.
-/
import Derived.Test.YtdhiiannngjjpaaGreatDoorQt
set_option linter.unusedVariables false
set_option linter.unusedSimpArgs false
set_option linter.unusedSectionVars false
set_option maxRecDepth 100000
set_option maxHeartbeats 20000000
set_option linter.unusedVariables false
set_option linter.unusedSimpArgs false
namespace Go.Proofs.YtdhiiannngjjpaaGreatDoor
open Go Go.Mw
-- @U: ro, wo, wa, wx, rx, bk_e, vl_e, ac_, ins_e

theorem z0op : z0.op = 0 := rfl
variable {b : List UInt8} {a : Nat} (ha : a ≤ b.length) (hb : b.length < 1000000000)
include ha hb
theorem r_getexpr (most : Int) (hm : inI most) : QX n_ref11_GetExpr [.int .i64 most] b a (gE (b.length + 1) 1 b a most) [] exs := by
  refine fun_sound (ic := F_ref11_GetExpr.body) mixed c_ref11_GetExpr rfl rfl ?_
  simp only [go_sem, ro, wo, wa, wx, rx, bk_e, vl_e, ac_, ins_e, F_ref11_GetExpr]
  refine loop_rule (fun q : List Ins × Nat × Nat × Int => ⟨[(7, .int .i64 q.2.2.1), (6, .ms 900 9 0 q.1.length), (5, .nl), (4, .mp 4 3 0 0), (2, .mp 2 3 0 0), (1, .int .i64 most)], [(900, ⟨45, 9, q.1.map insC, false⟩), (2, ⟨50, 3, [[.sl 1 (b.map by_), .int .i64 q.2.1, .int .i64 q.2.2.2]], true⟩), (4, ⟨50, 3, [[.nl, .int .i64 0, .int .i64 0]], true⟩)]⟩)
    (fun q => q.2.1 ≤ b.length ∧ q.1.length ≤ b.length + 1 ∧ ((q.2.2.2 = 0 ∧ EI b (b.length + 1) a most q.1 q.2.1 q.2.2.1) ∨ (q.2.2.2 ≠ 0 ∧ gE (b.length + 1) 1 b a most = .error (q.2.2.2, q.2.1)))) (fun q => if q.2.2.2 = 0 then b.length - q.2.1 + 1 else 0) ([], a, 1, 0) ⟨ha, Nat.zero_le _, .inl ⟨rfl, EI_0 ha (Nat.lt_succ_self _)⟩⟩ ((Wk.nil _ 6 900 9 45 (by simp only [go_sem, ro, wo, wa, wx, rx, bk_e, vl_e, ac_, ins_e]) (.inl (by decide))).trans (Wk.of ?_ ?_)) ?_
  · simp only [go_sem, ro, wo, wa, wx, rx, bk_e, vl_e, ac_, ins_e, St.mknil]; try simp [go_sem]
  · simp only [go_sem, ro, wo, wa, wx, rx, bk_e, vl_e, ac_, ins_e, St.mknil]; try simp [go_sem]
  rintro ⟨l, a1, d, e1⟩ ⟨ha1, hll, hq⟩
  simp only at ha1 hll hq
  by_cases he1 : e1 = 0
  rotate_left
  · have hE : gE (b.length + 1) 1 b a most = .error (e1, a1) := by
      rcases hq with ⟨h, _⟩ | ⟨_, h⟩
      · exact absurd h he1
      · exact h
    cases hd : decide ((d : Int) > 0)
    · simp only [go_sem, ro, wo, wa, wx, rx, bk_e, vl_e, ac_, ins_e, hd, e_t he1]
      refine wdone (Wk.nil _ 5 901 9 45 (by simp only [go_sem, ro, wo, wa, wx, rx, bk_e, vl_e, ac_, ins_e]) (.inl (by decide))) [901] (.tup [rx b a1 e1, exs []]) [] ?_ trivial rfl ⟨([], a1, e1), Out.er hE he1 ha1, rfl, rfl⟩
      simp only [go_sem, ro, wo, wa, wx, rx, bk_e, vl_e, ac_, ins_e, St.mknil]
      rfl
    · simp only [go_sem, ro, wo, wa, wx, rx, bk_e, vl_e, ac_, ins_e, hd, e_t he1, e_f he1]
      refine wdone (Wk.nil _ 5 901 9 45 (by simp only [go_sem, ro, wo, wa, wx, rx, bk_e, vl_e, ac_, ins_e]) (.inl (by decide))) [901] (.tup [rx b a1 e1, exs []]) [] ?_ trivial rfl ⟨([], a1, e1), Out.er hE he1 ha1, rfl, rfl⟩
      simp only [go_sem, ro, wo, wa, wx, rx, bk_e, vl_e, ac_, ins_e, St.mknil]
      rfl
  subst he1
  have hE : EI b (b.length + 1) a most l a1 d := by
    rcases hq with ⟨_, h⟩ | ⟨h, _⟩
    · exact h
    · exact absurd rfl h
  clear hq
  have hl1 : l.length + a ≤ a1 := hE.2.1
  have hd1 : d ≤ l.length + 1 := hE.2.2.1
  by_cases hd : (d : Int) > 0
  · have hd' : 1 ≤ d := by omega
    by_cases hmo : (l.length : Int) ≥ most
    · simp only [go_sem, ro, wo, wa, wx, rx, bk_e, vl_e, ac_, ins_e, decide_eq_true hd, decide_eq_true hmo]
      refine call_same (q_Fail0 b a1 6) (by simp [go_sem, ro, wo, wa, wx, rx, bk_e, vl_e, ac_, ins_e]) ?_
      simp only [go_sem, ro, wo, wa, wx, rx, bk_e, vl_e, ac_, ins_e]
      refine wdone (Wk.nil _ 5 901 9 45 (by simp only [go_sem, ro, wo, wa, wx, rx, bk_e, vl_e, ac_, ins_e]) (.inl (by decide))) [901] (.tup [rx b a1 6, exs []]) [] ?_ trivial rfl ⟨([], a1, 6), Out.er (EI_most hE hd' hmo) (by decide) ha1, rfl, rfl⟩
      simp only [go_sem, ro, wo, wa, wx, rx, bk_e, vl_e, ac_, ins_e, St.mknil]
      rfl
    · simp only [go_sem, ro, wo, wa, wx, rx, bk_e, vl_e, ac_, ins_e, decide_eq_true hd, decide_eq_false hmo]
      refine call_pe (r_get11 ha1 hb) ?_
      rintro ⟨x, a2, e2⟩ ⟨p1, p2⟩
      replace p1 : a2 ≤ b.length := p1
      have happ := fun ys => appO_map 900 45 9 l.length insC l ys rfl
      rcases p2 with ⟨x', k2, q1, q2⟩ | ⟨e, q1, he, q2, q3⟩
      · cases q2
        have hE2 := EI_ok hE hd' hmo q1
        have hadv := gI_adv q1
        have hw1 : IntKind.i64.wrap ((d : Int) + 1) = ((d + 1 : Nat) : Int) := by rw [wi (by omega) (by omega)]; omega
        have hw2 : IntKind.i64.wrap ((d : Int) - 1) = ((d - 1 : Nat) : Int) := by rw [wi (by omega) (by omega)]; omega
        have hda : deepA x.op d = if x.op = 2 ∨ x.op = 3 ∨ x.op = 4 then d + 1 else if x.op = 11 then d - 1 else d := rfl
        have hms : (if (0 : Int) = 0 then b.length - a2 + 1 else 0) < (if (0 : Int) = 0 then b.length - a1 + 1 else 0) := by simp only [if_true]; omega
        have hlx : (l ++ [x]).length ≤ b.length + 1 := by simp; omega
        rcases op_cases x.op with h2 | ⟨h2, h3 | ⟨h3, h4 | ⟨h4, h5 | h5⟩⟩⟩
        · rw [show deepA x.op d = d + 1 by rw [hda, if_pos (.inl (eq_of_beq h2))]] at hE2
          simp only [go_sem, ro, wo, wa, wx, rx, bk_e, vl_e, ac_, ins_e, h2, happ, hw1]
          refine ⟨by omega, klp_n (l ++ [x], a2, d + 1, 0) ⟨p1, hlx, .inl ⟨rfl, hE2⟩⟩ hms (Wk.of ?_ ?_)⟩
          · simp only [go_sem, ro, wo, wa, wx, rx, bk_e, vl_e, ac_, ins_e]
            try simp
          · simp only [go_sem, ro, wo, wa, wx, rx, bk_e, vl_e, ac_, ins_e]
            try simp [insC, vl_e, z0op]
        · rw [show deepA x.op d = d + 1 by rw [hda, if_pos (.inr (.inl (eq_of_beq h3)))]] at hE2
          simp only [go_sem, ro, wo, wa, wx, rx, bk_e, vl_e, ac_, ins_e, h2, h3, happ, hw1]
          refine ⟨by omega, klp_n (l ++ [x], a2, d + 1, 0) ⟨p1, hlx, .inl ⟨rfl, hE2⟩⟩ hms (Wk.of ?_ ?_)⟩
          · simp only [go_sem, ro, wo, wa, wx, rx, bk_e, vl_e, ac_, ins_e]
            try simp
          · simp only [go_sem, ro, wo, wa, wx, rx, bk_e, vl_e, ac_, ins_e]
            try simp [insC, vl_e, z0op]
        · rw [show deepA x.op d = d + 1 by rw [hda, if_pos (.inr (.inr (eq_of_beq h4)))]] at hE2
          simp only [go_sem, ro, wo, wa, wx, rx, bk_e, vl_e, ac_, ins_e, h2, h3, h4, happ, hw1]
          refine ⟨by omega, klp_n (l ++ [x], a2, d + 1, 0) ⟨p1, hlx, .inl ⟨rfl, hE2⟩⟩ hms (Wk.of ?_ ?_)⟩
          · simp only [go_sem, ro, wo, wa, wx, rx, bk_e, vl_e, ac_, ins_e]
            try simp
          · simp only [go_sem, ro, wo, wa, wx, rx, bk_e, vl_e, ac_, ins_e]
            try simp [insC, vl_e, z0op]
        · rw [show deepA x.op d = d - 1 by rw [hda, if_neg (by have := ne_of_beq_false h2; have := ne_of_beq_false h3; have := ne_of_beq_false h4; omega), if_pos (eq_of_beq h5)]] at hE2
          simp only [go_sem, ro, wo, wa, wx, rx, bk_e, vl_e, ac_, ins_e, h2, h3, h4, h5, happ, hw2]
          refine ⟨by omega, klp_n (l ++ [x], a2, d - 1, 0) ⟨p1, hlx, .inl ⟨rfl, hE2⟩⟩ hms (Wk.of ?_ ?_)⟩
          · simp only [go_sem, ro, wo, wa, wx, rx, bk_e, vl_e, ac_, ins_e]
            try simp
          · simp only [go_sem, ro, wo, wa, wx, rx, bk_e, vl_e, ac_, ins_e]
            try simp [insC, vl_e, z0op]
        · rw [show deepA x.op d = d by rw [hda, if_neg (by have := ne_of_beq_false h2; have := ne_of_beq_false h3; have := ne_of_beq_false h4; omega), if_neg (ne_of_beq_false h5)]] at hE2
          simp only [go_sem, ro, wo, wa, wx, rx, bk_e, vl_e, ac_, ins_e, h2, h3, h4, h5, happ]
          refine ⟨by omega, klp_n (l ++ [x], a2, d, 0) ⟨p1, hlx, .inl ⟨rfl, hE2⟩⟩ hms (Wk.of ?_ ?_)⟩
          · simp only [go_sem, ro, wo, wa, wx, rx, bk_e, vl_e, ac_, ins_e]
            try simp
          · simp only [go_sem, ro, wo, wa, wx, rx, bk_e, vl_e, ac_, ins_e]
            try simp [insC, vl_e, z0op]
      · obtain rfl : e2 = e := q3
        obtain rfl : x = z0 := q2
        simp only [go_sem, ro, wo, wa, wx, rx, bk_e, vl_e, ac_, ins_e, happ, z0op]
        refine ⟨by omega, klp_n (l ++ [z0], a2, d, e2) ⟨p1, by simp; omega, .inr ⟨he, EI_err hE hd' hmo q1⟩⟩ ?_ (Wk.of ?_ ?_)⟩
        · show (if e2 = 0 then b.length - a2 + 1 else 0) < (if (0 : Int) = 0 then b.length - a1 + 1 else 0)
          rw [if_neg he, if_pos rfl]; omega
        · simp only [go_sem, ro, wo, wa, wx, rx, bk_e, vl_e, ac_, ins_e]
          try simp
        · simp only [go_sem, ro, wo, wa, wx, rx, bk_e, vl_e, ac_, ins_e]
          try simp [insC, vl_e, z0op]
  · obtain rfl : d = 0 := by omega
    simp only [go_sem, ro, wo, wa, wx, rx, bk_e, vl_e, ac_, ins_e, decide_eq_false hd]
    refine done [900] (.tup [rx b a1 0, exs l]) [] ?_ trivial rfl ⟨(l, a1, 0), Out.ok (EI_end hE) ha1, rfl, rfl⟩
    simp only [go_sem, ro, wo, wa, wx, rx, bk_e, vl_e, ac_, ins_e, List.length_map, Nat.le_refl]
    rw [List.take_of_length_le (by rw [List.length_map]; omega)]
    rfl
end Go.Proofs.YtdhiiannngjjpaaGreatDoor
set_option maxRecDepth 100000
set_option maxHeartbeats 40000000
set_option linter.unusedVariables false
set_option linter.unusedSimpArgs false
namespace Go.Proofs.YtdhiiannngjjpaaGreatDoor
open Go Go.Mw
-- @U: ro, wo, wa, wx, rx, ins_e, vl_e, insC, slv_none, slv_some

def rq {α : Type} (res : Rd α) (d : α) : α × Nat × Int := match res with
  | .ok (x, k) => (x, k, 0)
  | .error (e, k) => (d, k, e)
theorem Out.det {α : Type} {b : List UInt8} {res : Rd α} {d : α} {q : α × Nat × Int} (h : Out b res d q) : q = rq res d := by
  obtain ⟨h1, ⟨x, k, rfl, rfl⟩ | ⟨e, rfl, h3, h4, h5⟩⟩ := h
  · rfl
  · obtain ⟨q1, q2, q3⟩ := q
    simp only at h4 h5
    subst h4 h5
    rfl
theorem RX.det {α : Type} {f : FuncId} {rest : List AV} {b : List UInt8} {a : Nat} {res : Rd α} {d : α} {av : α → AV} (h : RX f rest b a res d av) : RM f rest true b a 0 (av (rq res d).1) (rq res d).2.1 (rq res d).2.2 := by
  refine ACalls.mono h (fun _ h => h) ?_
  rintro r' σ' ⟨q, ho, rfl, rfl⟩
  obtain rfl := ho.det
  exact ⟨rfl, rfl⟩
theorem QX.det {α : Type} {f : FuncId} {rest : List AV} {b : List UInt8} {a : Nat} {res : Rd α} {d : α} {av : α → AV} (h : QX f rest b a res d av) : PCalls Tryz.prog f (rx b a 0 :: rest) (.tup [rx b (rq res d).2.1 (rq res d).2.2, av (rq res d).1]) := by
  refine ACalls.mono h (fun _ h => h.elim) ?_
  rintro r' σ' ⟨q, ho, rfl, rfl⟩
  obtain rfl := ho.det
  exact ⟨rfl, rfl⟩
end Go.Proofs.YtdhiiannngjjpaaGreatDoor
