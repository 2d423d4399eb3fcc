/-
  Chapter 5, the law OpcodeSames: two instructions are the same exactly if all their fields are.
-/
import Derived.Test.YtnhnghpnejobfaaDoorQd
set_option linter.unusedVariables false
set_option linter.unusedSimpArgs false
set_option linter.unusedSectionVars false
set_option maxRecDepth 100000
set_option maxHeartbeats 4000000
set_option linter.unusedVariables false
set_option linter.unusedSimpArgs false
namespace Go.Proofs.YtnhnghpnejobfaaDoor
open Go Go.Mw

structure Ins where
  op : Int
  a : Int
  b : Int
  n : Int
  k : Int
  v : Int
  x : Int
  ty : List Int
  lb : List Int
def ins_ (i : Ins) : AV := .agg [.int .i64 i.op, .int .i64 i.a, .int .i64 i.b, .int .u64 i.n, .int .i64 i.k, .int .i64 i.v, .int .i64 i.x, .sl 1 (i.ty.map vl_), .sl 1 (i.lb.map vl_)]
theorem ins_e (i : Ins) : ins_ i = .agg [.int .i64 i.op, .int .i64 i.a, .int .i64 i.b, .int .u64 i.n, .int .i64 i.k, .int .i64 i.v, .int .i64 i.x, .sl 1 (i.ty.map vl_), .sl 1 (i.lb.map vl_)] := rfl
-- @U: ins_e, vl_e, List.length_map
theorem nth_cons_eq {a b : List Int} (hl : a.length = b.length) (h : ∀ k, k < a.length → nth a k = nth b k) : a = b := by
  apply List.ext_getElem hl
  intro i h1 h2
  have := h i h1
  rwa [nth_eq h1, nth_eq h2] at this
theorem s_eq1 (a b : List Int) (ha : a.length ≤ 9223372036854775807) : PCalls Tryd.prog n_slices_Equal_int_int [.sl 1 (a.map vl_), .sl 1 (b.map vl_)] (.bool (a == b)) := by
  refine pfun_sound (ic := F_slices_Equal_int_int.body) mixed c_slices_Equal_int_int rfl rfl ?_
  by_cases hl : (a.length : Int) = b.length
  · simp only [go_sem, ins_e, vl_e, List.length_map, F_slices_Equal_int_int, hl, bne_self_eq_false]
    refine loop_rule (fun i : Nat => ⟨[(0, .sl 1 (a.map vl_)), (1, .sl 1 (b.map vl_)), (12, .int .i64 a.length), (13, .int .i64 i)], []⟩) (fun i => i ≤ a.length ∧ ∀ k, k < i → nth a k = nth b k) (fun i => a.length - i) 0 ⟨Nat.zero_le _, fun k hk => absurd hk (Nat.not_lt_zero k)⟩ (Wk.of ?_ ?_) ?_
    · simp only [go_sem, ins_e, vl_e, List.length_map, hl]; try simp
    · simp only [go_sem, ins_e, vl_e, List.length_map]
    rintro i ⟨hi, hk⟩
    by_cases h1 : (i : Int) < (a.length : Int)
    · have e8 := wi (n := (i : Int) + 1) (by omega) (by omega)
      simp only [go_sem, ins_e, vl_e, List.length_map, decide_eq_true h1]
      refine ⟨by omega, h1, by omega, by omega, fun h2 => ?_, fun h2 => klp_n (i + 1) ⟨by omega, fun k hk2 => ?_⟩ (show a.length - (i + 1) < a.length - i by omega) (Wk.of ?_ ?_)⟩
      · have r : (a == b) = false := by
          rw [beq_eq_false_iff_ne]
          intro e
          rw [e] at h2
          simp at h2
        rw [r]
        exact pdone [] (by rfl) rfl
      · rcases Nat.lt_or_ge k i with h4 | h4
        · exact hk k h4
        · obtain rfl : k = i := by omega
          simpa using h2
      · simp only [go_sem, ins_e, vl_e, List.length_map, e8]
        try simp
      · simp only [go_sem, ins_e, vl_e, List.length_map]
    · have r : a = b := nth_cons_eq (by omega) (fun k hk2 => hk k (by omega))
      have r2 : (a == b) = true := by rw [r]; exact beq_self_eq_true b
      simp only [go_sem, ins_e, vl_e, List.length_map, decide_eq_false h1]
      rw [r2]
      exact pdone [] (by rfl) rfl
  · have r : (a == b) = false := by
      rw [beq_eq_false_iff_ne]
      intro e; rw [e] at hl; exact hl rfl
    have b1 : ((a.length : Int) != (b.length : Int)) = true := by simpa using hl
    simp only [go_sem, ins_e, vl_e, List.length_map, F_slices_Equal_int_int, b1]
    rw [r]
    exact pdone [] (by rfl) rfl
theorem s_eq2 (a b : List Int) (ha : a.length ≤ 9223372036854775807) : PCalls Tryd.prog n_api_Val [.sl 1 (a.map vl_), .sl 1 (b.map vl_)] (.bool (a == b)) := by
  refine pfun_sound (ic := F_api_Val.body) mixed c_api_Val rfl rfl ?_
  by_cases hl : (a.length : Int) = b.length
  · simp only [go_sem, ins_e, vl_e, List.length_map, F_api_Val, hl, bne_self_eq_false]
    refine loop_rule (fun i : Nat => ⟨[(0, .sl 1 (a.map vl_)), (1, .sl 1 (b.map vl_)), (12, .int .i64 a.length), (13, .int .i64 i)], []⟩) (fun i => i ≤ a.length ∧ ∀ k, k < i → nth a k = nth b k) (fun i => a.length - i) 0 ⟨Nat.zero_le _, fun k hk => absurd hk (Nat.not_lt_zero k)⟩ (Wk.of ?_ ?_) ?_
    · simp only [go_sem, ins_e, vl_e, List.length_map, hl]; try simp
    · simp only [go_sem, ins_e, vl_e, List.length_map]
    rintro i ⟨hi, hk⟩
    by_cases h1 : (i : Int) < (a.length : Int)
    · have e8 := wi (n := (i : Int) + 1) (by omega) (by omega)
      simp only [go_sem, ins_e, vl_e, List.length_map, decide_eq_true h1]
      refine ⟨by omega, h1, by omega, by omega, fun h2 => ?_, fun h2 => klp_n (i + 1) ⟨by omega, fun k hk2 => ?_⟩ (show a.length - (i + 1) < a.length - i by omega) (Wk.of ?_ ?_)⟩
      · have r : (a == b) = false := by
          rw [beq_eq_false_iff_ne]
          intro e
          rw [e] at h2
          simp at h2
        rw [r]
        exact pdone [] (by rfl) rfl
      · rcases Nat.lt_or_ge k i with h4 | h4
        · exact hk k h4
        · obtain rfl : k = i := by omega
          simpa using h2
      · simp only [go_sem, ins_e, vl_e, List.length_map, e8]
        try simp
      · simp only [go_sem, ins_e, vl_e, List.length_map]
    · have r : a = b := nth_cons_eq (by omega) (fun k hk2 => hk k (by omega))
      have r2 : (a == b) = true := by rw [r]; exact beq_self_eq_true b
      simp only [go_sem, ins_e, vl_e, List.length_map, decide_eq_false h1]
      rw [r2]
      exact pdone [] (by rfl) rfl
  · have r : (a == b) = false := by
      rw [beq_eq_false_iff_ne]
      intro e; rw [e] at hl; exact hl rfl
    have b1 : ((a.length : Int) != (b.length : Int)) = true := by simpa using hl
    simp only [go_sem, ins_e, vl_e, List.length_map, F_api_Val, b1]
    rw [r]
    exact pdone [] (by rfl) rfl
def smM (x y : Ins) : Bool := (x.op == y.op) && ((x.a == y.a) && ((x.b == y.b) && ((x.n == y.n) && (((x.k == y.k) && ((x.v == y.v) && (x.x == y.x))) && ((x.ty == y.ty) && (x.lb == y.lb))))))
theorem s_same (x y : Ins) (h1 : x.ty.length ≤ 9223372036854775807) (h2 : x.lb.length ≤ 9223372036854775807) : PCalls Tryd.prog n_opcode_Same [ins_ x, ins_ y] (.bool (smM x y)) := by
  refine pfun_sound (ic := F_opcode_Same.body) mixed c_opcode_Same rfl rfl ?_
  have a1 := s_eq2 x.ty y.ty (by omega)
  have a2 := s_eq1 x.lb y.lb (by omega)
  have ft : ∀ b : Bool, (true && b) = b := fun _ => rfl
  have ff : ∀ b : Bool, (false && b) = false := fun _ => rfl
  unfold smM
  simp only [go_sem, ins_e, vl_e, List.length_map, F_opcode_Same]
  refine ⟨fun c1 => ⟨fun c2 => ⟨fun c3 => ⟨fun c4 => ⟨fun c5 => ?_, fun c5 => ?_⟩, fun c4 => ?_⟩, fun c3 => ?_⟩, fun c2 => ?_⟩, fun c1 => ?_⟩
  · rw [c1, c2, c3, c4, c5, ft, ft, ft, ft, ft]
    refine call_same (a1) (by simp [go_sem, ins_e, vl_e, List.length_map]) ?_
    cases c6 : x.ty == y.ty
    · simp only [go_sem, ins_e, vl_e, List.length_map]
      exact pdone [] (by rfl) rfl
    · simp only [go_sem, ins_e, vl_e, List.length_map, ft]
      refine call_same (a2) (by simp [go_sem, ins_e, vl_e, List.length_map]) ?_
      simp only [go_sem, ins_e, vl_e, List.length_map]
      exact pdone [] (by rfl) rfl
  · rw [c1, c2, c3, c4, c5]
    exact pdone [] (by rfl) rfl
  · rw [c1, c2, c3, c4]
    exact pdone [] (by rfl) rfl
  · rw [c1, c2, c3]
    exact pdone [] (by rfl) rfl
  · rw [c1, c2]
    exact pdone [] (by rfl) rfl
  · rw [c1]
    exact pdone [] (by rfl) rfl
theorem r_same (x y : Ins) (h1 : x.ty.length ≤ 9223372036854775807) (h2 : x.lb.length ≤ 9223372036854775807) : PCalls Tryd.prog n_ref05_Same [ins_ x, ins_ y] (.bool (smM x y)) := by
  refine pfun_sound (ic := F_ref05_Same.body) mixed c_ref05_Same rfl rfl ?_
  have ft : ∀ b : Bool, (true && b) = b := fun _ => rfl
  have ff : ∀ b : Bool, (false && b) = false := fun _ => rfl
  have nt : ∀ {a b : Int}, (a != b) = true → (a == b) = false := fun h => by simpa using h
  have nf : ∀ {a b : Int}, (a != b) = false → (a == b) = true := fun h => by simpa using h
  have lt : ∀ {a b : List Int}, ((a.length : Int) != (b.length : Int)) = true → (a == b) = false := fun {a b} h => by
    rw [beq_eq_false_iff_ne]
    intro e; rw [e] at h; simp at h
  have lf : ∀ {a b : List Int}, ((a.length : Int) != (b.length : Int)) = false → a.length = b.length := fun {a b} h => by
    have h2 : ¬ ((a.length : Int) ≠ (b.length : Int)) := by simpa using h
    omega
  have nb : ∀ {b : Bool}, (!b) = true → b = false := fun {b} h => by cases b <;> first | rfl | cases h
  have nc : ∀ {b : Bool}, (!b) = false → b = true := fun {b} h => by cases b <;> first | rfl | cases h
  unfold smM
  simp only [go_sem, ins_e, vl_e, List.length_map, F_ref05_Same]
  refine ⟨fun c1 => ?_, fun c1 => ⟨fun c2 => ?_, fun c2 => ⟨fun c3 => ?_, fun c3 => ⟨fun c4 => ?_, fun c4 => ⟨fun c5 => ?_, fun c5 => ⟨fun c6 => ?_, fun c6 => ⟨fun c7 => ?_, fun c7 => ?_⟩⟩⟩⟩⟩⟩⟩
  · rw [nt c1]
    exact pdone [] (by rfl) rfl
  · rw [nf c1, nt c2]
    exact pdone [] (by rfl) rfl
  · rw [nf c1, nf c2, nt c3]
    exact pdone [] (by rfl) rfl
  · rw [nf c1, nf c2, nf c3, nt c4]
    exact pdone [] (by rfl) rfl
  · rw [nf c1, nf c2, nf c3, nf c4, nb c5]
    exact pdone [] (by rfl) rfl
  · rw [nf c1, nf c2, nf c3, nf c4, nc c5, lt c6]
    exact pdone [] (by rfl) rfl
  · rw [nf c1, nf c2, nf c3, nf c4, nc c5, lt c7, Bool.and_false]
    exact pdone [] (by rfl) rfl
  rw [nf c1, nf c2, nf c3, nf c4, nc c5, ft, ft, ft, ft, ft]
  replace c6 := lf c6
  replace c7 := lf c7
  refine loop_rule (fun i : Nat => ⟨[(2, .mp 2 9 0 0), (3, .mp 3 9 0 0), (5, .int .i64 i)], [(3, ⟨38, 9, [[.int .i64 y.op, .int .i64 y.a, .int .i64 y.b, .int .u64 y.n, .int .i64 y.k, .int .i64 y.v, .int .i64 y.x, .sl 1 (y.ty.map vl_), .sl 1 (y.lb.map vl_)]], true⟩), (2, ⟨38, 9, [[.int .i64 x.op, .int .i64 x.a, .int .i64 x.b, .int .u64 x.n, .int .i64 x.k, .int .i64 x.v, .int .i64 x.x, .sl 1 (x.ty.map vl_), .sl 1 (x.lb.map vl_)]], true⟩)]⟩) (fun i => i ≤ x.ty.length ∧ ∀ k, k < i → nth x.ty k = nth y.ty k) (fun i => x.ty.length - i) 0 ⟨Nat.zero_le _, fun k hk => absurd hk (Nat.not_lt_zero k)⟩ (Wk.of ?_ ?_) ?_
  · simp only [go_sem, ins_e, vl_e, List.length_map]; try simp
  · simp only [go_sem, ins_e, vl_e, List.length_map]
  rintro i ⟨hi, hk⟩
  by_cases q1 : (i : Int) < (x.ty.length : Int)
  · have e8 := wi (n := (i : Int) + 1) (by omega) (by omega)
    simp only [go_sem, ins_e, vl_e, List.length_map, decide_eq_true q1]
    refine ⟨by omega, q1, by omega, by omega, fun g2 => ?_, fun g2 => klp_n (i + 1) ⟨by omega, fun k hk9 => ?_⟩ (show x.ty.length - (i + 1) < x.ty.length - i by omega) (Wk.of ?_ ?_)⟩
    · have r : (x.ty == y.ty) = false := by
        rw [beq_eq_false_iff_ne]
        intro e
        rw [e] at g2
        simp at g2
      rw [r, ff]
      exact pdone [] (by rfl) rfl
    · rcases Nat.lt_or_ge k i with h4 | h4
      · exact hk k h4
      · obtain rfl : k = i := by omega
        simpa using g2
    · simp only [go_sem, ins_e, vl_e, List.length_map, e8]
      try simp
    · simp only [go_sem, ins_e, vl_e, List.length_map]
  · have r : (x.ty == y.ty) = true := by rw [nth_cons_eq c6 (fun k hk2 => hk k (by omega))]; exact beq_self_eq_true _
    rw [r, ft]
    simp only [go_sem, ins_e, vl_e, List.length_map, decide_eq_false q1]
    refine loop_rule (fun i : Nat => ⟨[(2, .mp 2 9 0 0), (3, .mp 3 9 0 0), (6, .int .i64 i)], [(3, ⟨38, 9, [[.int .i64 y.op, .int .i64 y.a, .int .i64 y.b, .int .u64 y.n, .int .i64 y.k, .int .i64 y.v, .int .i64 y.x, .sl 1 (y.ty.map vl_), .sl 1 (y.lb.map vl_)]], true⟩), (2, ⟨38, 9, [[.int .i64 x.op, .int .i64 x.a, .int .i64 x.b, .int .u64 x.n, .int .i64 x.k, .int .i64 x.v, .int .i64 x.x, .sl 1 (x.ty.map vl_), .sl 1 (x.lb.map vl_)]], true⟩)]⟩) (fun i => i ≤ x.lb.length ∧ ∀ k, k < i → nth x.lb k = nth y.lb k) (fun i => x.lb.length - i) 0 ⟨Nat.zero_le _, fun k hk => absurd hk (Nat.not_lt_zero k)⟩ (Wk.of ?_ ?_) ?_
    · simp only [go_sem, ins_e, vl_e, List.length_map]; try simp
    · simp only [go_sem, ins_e, vl_e, List.length_map]
    rintro j ⟨hj, hk2⟩
    by_cases q2 : (j : Int) < (x.lb.length : Int)
    · have e9 := wi (n := (j : Int) + 1) (by omega) (by omega)
      simp only [go_sem, ins_e, vl_e, List.length_map, decide_eq_true q2]
      refine ⟨by omega, q2, by omega, by omega, fun g2 => ?_, fun g2 => klp_n (j + 1) ⟨by omega, fun k hk9 => ?_⟩ (show x.lb.length - (j + 1) < x.lb.length - j by omega) (Wk.of ?_ ?_)⟩
      · have r : (x.lb == y.lb) = false := by
          rw [beq_eq_false_iff_ne]
          intro e
          rw [e] at g2
          simp at g2
        rw [r]
        exact pdone [] (by rfl) rfl
      · rcases Nat.lt_or_ge k j with h4 | h4
        · exact hk2 k h4
        · obtain rfl : k = j := by omega
          simpa using g2
      · simp only [go_sem, ins_e, vl_e, List.length_map, e9]
        try simp
      · simp only [go_sem, ins_e, vl_e, List.length_map]
    · have r : (x.lb == y.lb) = true := by rw [nth_cons_eq c7 (fun k hk3 => hk2 k (by omega))]; exact beq_self_eq_true _
      rw [r]
      simp only [go_sem, ins_e, vl_e, List.length_map, decide_eq_false q2]
      exact pdone [] (by rfl) rfl
theorem w_sames (x y : Ins) (h1 : x.ty.length ≤ 9223372036854775807) (h2 : x.lb.length ≤ 9223372036854775807) : PCalls Tryd.prog n_law05_OpcodeSames [ins_ x, ins_ y] (.bool true) := by
  refine pfun_sound (ic := F_law05_OpcodeSames.body) mixed c_law05_OpcodeSames rfl rfl ?_
  have m1 : smM x x = true := by simp [smM]
  have a5 := s_alive5
  by_cases q1 : IntKind.i64.wrap ((x.lb.length : Int) + y.lb.length) > 300
  · simp only [go_sem, ins_e, vl_e, List.length_map, F_law05_OpcodeSames, decide_eq_true q1]
    refine call_same (a5) (by simp [go_sem, ins_e, vl_e, List.length_map]) ?_
    simp only [go_sem, ins_e, vl_e, List.length_map]
    exact pdone [] (by rfl) rfl
  by_cases q2 : IntKind.i64.wrap ((x.ty.length : Int) + y.ty.length) > 300
  · simp only [go_sem, ins_e, vl_e, List.length_map, F_law05_OpcodeSames, decide_eq_false q1, decide_eq_true q2]
    refine call_same (a5) (by simp [go_sem, ins_e, vl_e, List.length_map]) ?_
    simp only [go_sem, ins_e, vl_e, List.length_map]
    exact pdone [] (by rfl) rfl
  have a1 := s_same x y (by omega) (by omega)
  have a2 := r_same x y (by omega) (by omega)
  have a3 := s_same x x (by omega) (by omega)
  rw [m1] at a3
  simp only [ins_e] at a1 a2 a3
  have t := beq_self_eq_true (smM x y)
  simp only [go_sem, ins_e, vl_e, List.length_map, F_law05_OpcodeSames, decide_eq_false q1, decide_eq_false q2]
  refine dcall_same a1 (by simp [go_sem, vl_e]) rfl ?_
  simp only [go_sem, ins_e, vl_e, List.length_map]
  refine call_same (a2) (by simp [go_sem, ins_e, vl_e, List.length_map]) ?_
  simp only [go_sem, ins_e, vl_e, List.length_map, t]
  refine call_same (a3) (by simp [go_sem, ins_e, vl_e, List.length_map]) ?_
  simp only [go_sem, ins_e, vl_e, List.length_map]
  refine call_same (a5) (by simp [go_sem, ins_e, vl_e, List.length_map]) ?_
  simp only [go_sem, ins_e, vl_e, List.length_map]
  exact pdone [] (by rfl) rfl
end Go.Proofs.YtnhnghpnejobfaaDoor
