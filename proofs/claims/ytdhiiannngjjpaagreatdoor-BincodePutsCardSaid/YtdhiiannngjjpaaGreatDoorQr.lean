/-
  Chapter 11, walks: the reference's Put.
-/
import Derived.Test.YtdhiiannngjjpaaGreatDoorQq
import Derived.Test.YtdhiiannngjjpaaGreatDoorQo
set_option linter.unusedVariables false
set_option linter.unusedSimpArgs false
set_option linter.unusedSectionVars false
set_option maxRecDepth 100000
set_option maxHeartbeats 40000000
set_option linter.unusedVariables false
set_option linter.unusedSimpArgs false
namespace Go.Proofs.YtdhiiannngjjpaaGreatDoor
open Go Go.Mw
-- @U: ro, wo, wa, wx, rx, ins_e, vl_e, insC

theorem r_prefixed (op : Int) : PCalls Tryz.prog n_ref11_prefixed [.int .i64 op] (.bool (decide (op ≥ 64512))) := by
  refine pfun_sound (ic := F_ref11_prefixed.body) mixed c_ref11_prefixed rfl rfl ?_
  simp only [go_sem, ro, wo, wa, wx, rx, ins_e, vl_e, insC, F_ref11_prefixed]
  exact pdone [] (by rfl) rfl
theorem p_u9 {l : List UInt8} (hl : l.length < 45000000000) (n : Nat) (hn : n < 4294967296) : PCalls Tryz.prog n_ref02_PutU32 [wx l 0, .int .i64 (n : Int)] (wx (l ++ putU n) 0) := p_wU (l := l) (e := 0) hl n hn
section
variable {l : List UInt8} (hl : l.length < 2000000000)
include hl
theorem p_b0 (y : UInt8) : PCalls Tryz.prog n_ref02_PutByte [wx l 0, .int .u8 y.toNat] (wx (l ++ [y]) 0) := p_Byte (l := l) (e := 0) (hl := by omega) y
theorem p_u0 (n : Nat) (hn : n < 4294967296) : PCalls Tryz.prog n_ref02_PutU32 [wx l 0, .int .i64 (n : Int)] (wx (l ++ putU n) 0) := p_wU (l := l) (e := 0) (by omega) n hn
theorem p_i0 (n : Int) (hn : ixB n = true) : PCalls Tryz.prog n_ref02_PutU32 [wx l 0, .int .i64 n] (wx (l ++ putU n.toNat) 0) := by
  obtain ⟨k, rfl, hk⟩ := ix_nat hn
  exact p_u0 hl k hk
theorem r_labels11 (x : Ins) (h : x.lb.all ixB = true) (ha : ixB x.a = true) (hb : x.lb.length < 4294967296) : PCalls Tryz.prog n_ref11_labels [wx l 0, ins_ x] (wx (l ++ (putU x.lb.length ++ encL x.lb ++ putU x.a.toNat)) 0) := by
  refine pfun_sound (ic := F_ref11_labels.body) mixed c_ref11_labels rfl rfl ?_
  have c1 := putU_5 (n := x.lb.length) (by omega)
  have c2 := encL_len h
  simp only [go_sem, ro, wo, wa, wx, rx, ins_e, vl_e, insC, F_ref11_labels]
  refine call_same (p_u0 hl x.lb.length (by omega)) (by simp [go_sem, ro, wo, wa, wx, rx, ins_e, vl_e, insC]) ?_
  simp only [go_sem, ro, wo, wa, wx, rx, ins_e, vl_e, insC]
  refine loop_rule (fun i : Nat => ⟨[(5, .int .i64 i), (4, .mp 4 2 0 0), (3, .mp 3 9 0 0), (2, .mp 2 2 0 0)], [(2, ⟨34, 2, [[.sl 1 ((l ++ putU x.lb.length ++ encL (x.lb.take i)).map by_), .int .i64 0]], true⟩), (3, ⟨45, 9, [insC x], true⟩), (4, ⟨34, 2, [[.nl, .int .i64 0]], true⟩)]⟩) (fun i => i ≤ x.lb.length) (fun i => x.lb.length - i) 0 (Nat.zero_le _) (Wk.of ?_ ?_) ?_
  · simp only [go_sem, ro, wo, wa, wx, rx, ins_e, vl_e, insC]; try simp
  · simp only [go_sem, ro, wo, wa, wx, rx, ins_e, vl_e, insC, List.take_zero, encL, List.flatMap_nil, List.append_nil]; try simp [go_sem]
  intro i hi
  have ht := encL_take_len h i
  have hlen : (l ++ putU x.lb.length ++ encL (x.lb.take i)).length < 40000000000 := by simp only [List.length_append]; omega
  by_cases h1 : (i : Int) < (x.lb.length : Int)
  · have hi' : i < x.lb.length := by omega
    have hs := encL_snoc hi'
    have e8 := wi (n := (i : Int) + 1) (by omega) (by omega)
    have cc := p_u9 (l := l ++ putU x.lb.length ++ encL (x.lb.take i)) (by omega)
    have hat := all_at h hi'
    obtain ⟨m, hm1, hm2⟩ := ix_nat hat
    rw [hm1, Int.toNat_natCast] at hs
    simp only [go_sem, ro, wo, wa, wx, rx, ins_e, vl_e, insC, decide_eq_true h1, hm1]
    refine ⟨by omega, h1, ?_⟩
    refine call_same (cc m hm2) (by simp [go_sem, ro, wo, wa, wx, rx, ins_e, vl_e, insC]) ?_
    simp only [go_sem, ro, wo, wa, wx, rx, ins_e, vl_e, insC]
    have hw : l ++ putU x.lb.length ++ encL (x.lb.take i) ++ putU m = l ++ putU x.lb.length ++ encL (x.lb.take (i + 1)) := by
      rw [hs]
      simp only [List.append_assoc]
    rw [hw]
    refine klp_n (i + 1) (show i + 1 ≤ x.lb.length by omega) (show x.lb.length - (i + 1) < x.lb.length - i by omega) (Wk.of ?_ ?_)
    · simp only [go_sem, ro, wo, wa, wx, rx, ins_e, vl_e, insC, e8]; try simp
    · simp only [go_sem, ro, wo, wa, wx, rx, ins_e, vl_e, insC]; try simp [go_sem]
  · obtain rfl : i = x.lb.length := by omega
    rw [List.take_length] at hlen
    have cc := p_u9 (l := l ++ putU x.lb.length ++ encL x.lb) (by omega)
    obtain ⟨m, hm1, hm2⟩ := ix_nat ha
    rw [List.take_length, hm1, Int.toNat_natCast]
    simp only [go_sem, ro, wo, wa, wx, rx, ins_e, vl_e, insC, decide_eq_false h1, hm1]
    refine call_same (cc m hm2) (by simp [go_sem, ro, wo, wa, wx, rx, ins_e, vl_e, insC]) ?_
    have hw : l ++ putU x.lb.length ++ encL x.lb ++ putU m = l ++ (putU x.lb.length ++ encL x.lb ++ putU m) := by
      simp only [List.append_assoc]
    simp only [go_sem, ro, wo, wa, wx, rx, ins_e, vl_e, insC, hw]
    exact pdone [] (by simp only [go_sem, ro, wo, wa, wx, rx, ins_e, vl_e, insC]) (by first | rfl | simp [go_sem, slv_ids, ro, wo, wa, wx, rx, ins_e, vl_e, insC])
theorem r_labels_big (x : Ins) (h : x.lb.all ixB = true) (ha : ixB x.a = true) (hb : 4294967296 ≤ x.lb.length) (hb2 : x.lb.length ≤ 9223372036854775807) : PCalls Tryz.prog n_ref11_labels [wx l 0, ins_ x] (wx l 1) := by
  refine pfun_sound (ic := F_ref11_labels.body) mixed c_ref11_labels rfl rfl ?_
  have c0 := p_U32 l 0 (by omega) (x.lb.length : Int)
  rw [show wU ((0 : Int) == 0) l 0 (x.lb.length : Int) = (l, 1) by unfold wU; simp; omega] at c0
  simp only [go_sem, ro, wo, wa, wx, rx, ins_e, vl_e, insC, F_ref11_labels]
  refine call_same (c0) (by simp [go_sem, ro, wo, wa, wx, rx, ins_e, vl_e, insC]) ?_
  simp only [go_sem, ro, wo, wa, wx, rx, ins_e, vl_e, insC]
  refine loop_rule (fun i : Nat => ⟨[(5, .int .i64 i), (4, .mp 4 2 0 0), (3, .mp 3 9 0 0), (2, .mp 2 2 0 0)], [(2, ⟨34, 2, [[.sl 1 (l.map by_), .int .i64 1]], true⟩), (3, ⟨45, 9, [insC x], true⟩), (4, ⟨34, 2, [[.nl, .int .i64 0]], true⟩)]⟩) (fun i => i ≤ x.lb.length) (fun i => x.lb.length - i) 0 (Nat.zero_le _) (Wk.of ?_ ?_) ?_
  · simp only [go_sem, ro, wo, wa, wx, rx, ins_e, vl_e, insC]; try simp
  · simp only [go_sem, ro, wo, wa, wx, rx, ins_e, vl_e, insC]; try simp [go_sem]
  intro i hi
  by_cases h1 : (i : Int) < (x.lb.length : Int)
  · have hi' : i < x.lb.length := by omega
    have e8 := wi (n := (i : Int) + 1) (by omega) (by omega)
    obtain ⟨m, hm1, hm2⟩ := ix_nat (all_at h hi')
    have cc : PCalls Tryz.prog n_ref02_PutU32 [wx l 1, .int .i64 (m : Int)] (wx l 1) := p_wU (l := l) (e := 1) (by omega) m hm2
    simp only [go_sem, ro, wo, wa, wx, rx, ins_e, vl_e, insC, decide_eq_true h1, hm1]
    refine ⟨by omega, h1, ?_⟩
    refine call_same (cc) (by simp [go_sem, ro, wo, wa, wx, rx, ins_e, vl_e, insC]) ?_
    simp only [go_sem, ro, wo, wa, wx, rx, ins_e, vl_e, insC]
    refine klp_n (i + 1) (show i + 1 ≤ x.lb.length by omega) (show x.lb.length - (i + 1) < x.lb.length - i by omega) (Wk.of ?_ ?_)
    · simp only [go_sem, ro, wo, wa, wx, rx, ins_e, vl_e, insC, e8]; try simp
    · simp only [go_sem, ro, wo, wa, wx, rx, ins_e, vl_e, insC]; try simp [go_sem]
  · obtain ⟨m, hm1, hm2⟩ := ix_nat ha
    have cc : PCalls Tryz.prog n_ref02_PutU32 [wx l 1, .int .i64 (m : Int)] (wx l 1) := p_wU (l := l) (e := 1) (by omega) m hm2
    simp only [go_sem, ro, wo, wa, wx, rx, ins_e, vl_e, insC, decide_eq_false h1, hm1]
    refine call_same (cc) (by simp [go_sem, ro, wo, wa, wx, rx, ins_e, vl_e, insC]) ?_
    simp only [go_sem, ro, wo, wa, wx, rx, ins_e, vl_e, insC]
    exact pdone [] (by simp only [go_sem, ro, wo, wa, wx, rx, ins_e, vl_e, insC]) (by first | rfl | simp [go_sem, slv_ids, ro, wo, wa, wx, rx, ins_e, vl_e, insC])
theorem r_access11 (x : Ins) (h1 : 0 ≤ x.a) (h2 : x.a ≤ 63) (hb : ixB x.b = true) (h3 : 0 ≤ x.n) (h4 : x.n < 4294967296) : PCalls Tryz.prog n_ref11_access [wx l 0, ins_ x] (wx (l ++ ((if x.b = 0 then putU x.a.toNat else putU (x.a + 64).toNat ++ putU x.b.toNat) ++ putU x.n.toNat)) 0) := by
  refine pfun_sound (ic := F_ref11_access.body) mixed c_ref11_access rfl rfl ?_
  obtain ⟨m3, e3⟩ := Int.eq_ofNat_of_zero_le h3
  obtain ⟨m1, e1⟩ := Int.eq_ofNat_of_zero_le h1
  have w3 : IntKind.i64.wrap (m3 : Int) = (m3 : Int) := wi (by omega) (by omega)
  rw [e3, Int.toNat_natCast]
  by_cases h0 : x.b = 0
  · rw [if_pos h0, e1, Int.toNat_natCast]
    have c1 := putU_5 (n := m1) (by omega)
    simp only [go_sem, ro, wo, wa, wx, rx, ins_e, vl_e, insC, F_ref11_access, e1, e3, h0]
    refine call_same (p_u0 hl m1 (by omega)) (by simp [go_sem, ro, wo, wa, wx, rx, ins_e, vl_e, insC]) ?_
    simp only [go_sem, ro, wo, wa, wx, rx, ins_e, vl_e, insC, w3]
    refine call_same (p_u9 (l := l ++ putU m1) (by simp only [List.length_append]; omega) m3 (by omega)) (by simp [go_sem, ro, wo, wa, wx, rx, ins_e, vl_e, insC]) ?_
    simp only [go_sem, ro, wo, wa, wx, rx, ins_e, vl_e, insC, List.append_assoc]
    exact pdone [] (by simp only [go_sem, ro, wo, wa, wx, rx, ins_e, vl_e, insC]) (by first | rfl | simp [go_sem, slv_ids, ro, wo, wa, wx, rx, ins_e, vl_e, insC])
  · rw [if_neg h0]
    obtain ⟨m2, e2, hm2⟩ := ix_nat hb
    have w1 : IntKind.i64.wrap (x.a + 64) = ((m1 + 64 : Nat) : Int) := by rw [wi (by omega) (by omega)]; omega
    have e4 : (x.a + 64).toNat = m1 + 64 := by omega
    have c1 := putU_5 (n := m1 + 64) (by omega)
    have c2 := putU_5 (n := m2) (by omega)
    rw [e2, e4, Int.toNat_natCast]
    have q0 := beq_f h0
    rw [e2] at q0
    simp only [go_sem, ro, wo, wa, wx, rx, ins_e, vl_e, insC, F_ref11_access, e2, e3, q0, w1]
    refine dcall_same (p_u0 hl (m1 + 64) (by omega)) (by simp [go_sem]) rfl ?_
    simp only [go_sem, ro, wo, wa, wx, rx, ins_e, vl_e, insC]
    refine call_same (p_u9 (l := l ++ putU (m1 + 64)) (by simp only [List.length_append]; omega) m2 hm2) (by simp [go_sem, ro, wo, wa, wx, rx, ins_e, vl_e, insC]) ?_
    simp only [go_sem, ro, wo, wa, wx, rx, ins_e, vl_e, insC, w3]
    refine call_same (p_u9 (l := l ++ putU (m1 + 64) ++ putU m2) (by simp only [List.length_append]; omega) m3 (by omega)) (by simp [go_sem, ro, wo, wa, wx, rx, ins_e, vl_e, insC]) ?_
    simp only [go_sem, ro, wo, wa, wx, rx, ins_e, vl_e, insC, List.append_assoc]
    exact pdone [] (by simp only [go_sem, ro, wo, wa, wx, rx, ins_e, vl_e, insC]) (by first | rfl | simp [go_sem, slv_ids, ro, wo, wa, wx, rx, ins_e, vl_e, insC])
end
end Go.Proofs.YtdhiiannngjjpaaGreatDoor
set_option maxRecDepth 100000
set_option maxHeartbeats 40000000
set_option linter.unusedVariables false
set_option linter.unusedSimpArgs false
namespace Go.Proofs.YtdhiiannngjjpaaGreatDoor
open Go Go.Mw
-- @U: ro, wo, wa, wx, rx, ins_e, vl_e, insC

section
variable {l : List UInt8} {e : Int} (hl : l.length < 1000000000)
include hl
theorem r_put (x : Ins) (hn : 0 ≤ x.n) (hlb : x.lb.length ≤ 9223372036854775807) : PCalls Tryz.prog n_ref11_Put [wx l e, ins_ x] (wx (pPut x l e).1 (pPut x l e).2) := by
  refine pfun_sound (ic := F_ref11_Put.body) mixed c_ref11_Put rfl rfl ?_
  by_cases he : e = 0
  rotate_left
  · have r : pPut x l e = (l, e) := by
      unfold pPut
      rw [beq_f he, if_neg he, if_neg he]
      repeat' split
      all_goals rfl
    rw [r]
    simp only [go_sem, ro, wo, wa, wx, rx, ins_e, vl_e, insC, F_ref11_Put, bne_t he]
    exact pdone [] (by simp only [go_sem, ro, wo, wa, wx, rx, ins_e, vl_e, insC]) (by first | rfl | simp [go_sem, slv_ids, ro, wo, wa, wx, rx, ins_e, vl_e, insC])
  subst he
  have a1 := r_plain5 x (rIm x.op) (imm_rng _) rfl (by omega)
  replace a1 : PCalls Tryz.prog n_ref05_Plain [ins_ x] (.bool (PL x)) := a1
  simp only [ins_e] at a1
  cases hp : PL x
  · rw [hp] at a1
    rw [pPut_no hp]
    simp only [go_sem, ro, wo, wa, wx, rx, ins_e, vl_e, insC, F_ref11_Put]
    refine call_same (a1) (by simp [go_sem, ro, wo, wa, wx, rx, ins_e, vl_e, insC]) ?_
    simp only [go_sem, ro, wo, wa, wx, rx, ins_e, vl_e, insC]
    refine call_same (p_Fail l 0 10) (by simp [go_sem, ro, wo, wa, wx, rx, ins_e, vl_e, insC]) ?_
    simp only [go_sem, ro, wo, wa, wx, rx, ins_e, vl_e, insC]
    exact pdone [] (by simp only [go_sem, ro, wo, wa, wx, rx, ins_e, vl_e, insC]) (by first | rfl | simp [go_sem, slv_ids, ro, wo, wa, wx, rx, ins_e, vl_e, insC])
  rw [hp] at a1
  have hk := pl_kn hp
  have hol := encO_len x.op hk
  have hc := r_rof x.op
  have hi := imm_rng x.op
  have hko := known_opx hk
  have hQ : (¬ (rIm x.op = 3 ∧ 4294967296 ≤ x.lb.length) ∧ pPut x l 0 = (wB ((0 : Int) == 0) (wB ((0 : Int) == 0) l (encO x.op)) (encM (rIm x.op) x), 0)) ∨ ((rIm x.op = 3 ∧ 4294967296 ≤ x.lb.length) ∧ pPut x l 0 = (wB ((0 : Int) == 0) l (encO x.op), 1)) := by
    by_cases hs : rIm x.op = 3 ∧ 4294967296 ≤ x.lb.length
    · exact .inr ⟨hs, pPut_big hp hs⟩
    · exact .inl ⟨hs, pPut_ok hp hs⟩
  generalize hq : pPut x l 0 = q at *
  clear hq
  obtain ⟨op, a0, b0, n, k, v, z, ty, lb⟩ := x
  simp only at a1 hn hlb hk hol hc hi hko hQ
  unfold PL plR rfin at hp
  simp only [hk, Bool.true_and] at hp
  have hO : (op ≥ 64512 ∧ ∃ m : Nat, m < 256 ∧ IntKind.i64.wrap (op - 64512) = (m : Int) ∧ wB ((0 : Int) == 0) l (encO op) = l ++ [252] ++ putU m) ∨ (¬ op ≥ 64512 ∧ ∃ y : UInt8, IntKind.u8.wrap op = (y.toNat : Int) ∧ wB ((0 : Int) == 0) l (encO op) = l ++ [y]) := by
    rcases hko with h | h
    · refine .inr ⟨by omega, UInt8.ofNat op.toNat, ?_, ?_⟩
      · rw [ofNat_toNat (by omega), w_u8]; omega
      · unfold encO; rw [if_neg (by omega)]; rfl
    · refine .inl ⟨by omega, (op - 64512).toNat, by omega, ?_, ?_⟩
      · rw [wi (by omega) (by omega)]; omega
      · unfold encO; rw [if_pos (by omega), List.append_assoc]; rfl
  have hl1 := wB_len (ok := (0 : Int) == 0) (l := l) (x := encO op)
  replace hl1 : (wB ((0 : Int) == 0) l (encO op)).length < 1100000000 := by omega
  generalize rIm op = i at *
  clear hko hk hol
  generalize wB ((0 : Int) == 0) l (encO op) = l1 at *
  have hz : ∀ y : List UInt8, wB ((0 : Int) == 0) l1 y = l1 ++ y := fun _ => rfl
  simp only [hz] at hQ
  rcases hO with ⟨ho, m, hm, hw, rfl⟩ | ⟨ho, y, hw, rfl⟩
  · simp only [go_sem, ro, wo, wa, wx, rx, ins_e, vl_e, insC, F_ref11_Put]
    refine call_same (a1) (by simp [go_sem, ro, wo, wa, wx, rx, ins_e, vl_e, insC]) ?_
    simp only [go_sem, ro, wo, wa, wx, rx, ins_e, vl_e, insC]
    refine call_same (r_prefixed op) (by simp [go_sem, ro, wo, wa, wx, rx, ins_e, vl_e, insC]) ?_
    simp only [go_sem, ro, wo, wa, wx, rx, ins_e, vl_e, insC, decide_eq_true ho, hw]
    refine dcall_same (p_b0 (l := l) (by omega) 252) (by simp [go_sem, wx]) rfl ?_
    simp only [go_sem, ro, wo, wa, wx, rx, ins_e, vl_e, insC, hw]
    refine call_same (p_u0 (l := l ++ [252]) (by simp only [List.length_append, List.length_singleton]; omega) m (by omega)) (by simp [go_sem, ro, wo, wa, wx, rx, ins_e, vl_e, insC]) ?_
    simp only [go_sem, ro, wo, wa, wx, rx, ins_e, vl_e, insC]
    refine call_same (hc) (by simp [go_sem, ro, wo, wa, wx, rx, ins_e, vl_e, insC]) ?_
    clear hw a1 hc hz
    generalize l ++ [252] ++ putU m = l1 at *
    rcases (show i = 0 ∨ i = 1 ∨ i = 2 ∨ i = 3 ∨ i = 4 ∨ i = 5 ∨ i = 6 ∨ i = 7 ∨ i = 8 ∨ i = 9 ∨ i = 10 ∨ i = 11 ∨ i = 12 ∨ i = 13 ∨ i = 14 ∨ i = 15 ∨ i = 16 ∨ i = 17 ∨ i = 18 ∨ i = 19 ∨ i = 20 by omega) with rfl | rfl | rfl | rfl | rfl | rfl | rfl | rfl | rfl | rfl | rfl | rfl | rfl | rfl | rfl | rfl | rfl | rfl | rfl | rfl | rfl
    all_goals
      simp only [Int.reduceEq, Int.reduceBEq, false_or, or_false, or_true, true_or, or_self, if_true, if_false, Bool.true_or, Bool.false_or, Bool.true_and, Bool.and_eq_true, beq_iff_eq, Bool.not_eq_true', decide_eq_false_iff_not, decide_eq_true_eq, Bool.or_eq_true] at hp
    · obtain rfl : q = _ := by
        rcases hQ with ⟨_, h⟩ | ⟨⟨h, _⟩, _⟩
        · exact h
        · exact absurd h (by decide)
      clear hQ
      rw [show l1 ++ encM 0 ⟨op, a0, b0, n, k, v, z, ty, lb⟩ = l1 from List.append_nil _]
      simp only [go_sem, ro, wo, wa, wx, rx, ins_e, vl_e, insC]
      exact pdone [] (by rfl) rfl
    · obtain rfl : q = _ := by
        rcases hQ with ⟨_, h⟩ | ⟨⟨h, _⟩, _⟩
        · exact h
        · exact absurd h (by decide)
      clear hQ
      obtain ⟨hlb, hty, rfl, rfl, rfl, hb⟩ := hp
      have cc : PCalls Tryz.prog n_ref10_PutBlock [wx l1 0, .agg [.int .i64 k, .int .i64 v, .int .i64 z]] (wx (l1 ++ encB k v z) 0) := r_putblock (l := l1) (e := 0) (by omega) k v z hb
      simp only [go_sem, ro, wo, wa, wx, rx, ins_e, vl_e, insC]
      refine call_same (cc) (by simp [go_sem, ro, wo, wa, wx, rx, ins_e, vl_e, insC]) ?_
      simp only [go_sem, ro, wo, wa, wx, rx, ins_e, vl_e, insC]
      exact pdone [] (by rfl) rfl
    · obtain rfl : q = _ := by
        rcases hQ with ⟨_, h⟩ | ⟨⟨h, _⟩, _⟩
        · exact h
        · exact absurd h (by decide)
      clear hQ
      obtain ⟨⟨rfl, rfl, rfl⟩, hlb, hty, ha, rfl, rfl⟩ := hp
      simp only [go_sem, ro, wo, wa, wx, rx, ins_e, vl_e, insC]
      refine call_same (p_i0 (l := l1) (by omega) a0 ha) (by simp [go_sem, ro, wo, wa, wx, rx, ins_e, vl_e, insC]) ?_
      simp only [go_sem, ro, wo, wa, wx, rx, ins_e, vl_e, insC]
      exact pdone [] (by rfl) rfl
    · obtain ⟨⟨rfl, rfl, rfl⟩, hty, ha, rfl, rfl, hal⟩ := hp
      rcases hQ with ⟨hs, rfl⟩ | ⟨⟨_, hs⟩, rfl⟩
      · have cc := r_labels11 (l := l1) (by omega) ⟨op, a0, 0, 0, 0, 0, 0, ty, lb⟩ hal ha (Nat.lt_of_not_le fun h => hs ⟨rfl, h⟩)
        simp only [ins_e] at cc
        simp only [go_sem, ro, wo, wa, wx, rx, ins_e, vl_e, insC]
        refine call_same (cc) (by simp [go_sem, ro, wo, wa, wx, rx, ins_e, vl_e, insC]) ?_
        simp only [go_sem, ro, wo, wa, wx, rx, ins_e, vl_e, insC]
        exact pdone [] (by rfl) rfl
      · have cc := r_labels_big (l := l1) (by omega) ⟨op, a0, 0, 0, 0, 0, 0, ty, lb⟩ hal ha hs hlb
        simp only [ins_e] at cc
        simp only [go_sem, ro, wo, wa, wx, rx, ins_e, vl_e, insC]
        refine call_same (cc) (by simp [go_sem, ro, wo, wa, wx, rx, ins_e, vl_e, insC]) ?_
        simp only [go_sem, ro, wo, wa, wx, rx, ins_e, vl_e, insC]
        exact pdone [] (by rfl) rfl
    · obtain rfl : q = _ := by
        rcases hQ with ⟨_, h⟩ | ⟨⟨h, _⟩, _⟩
        · exact h
        · exact absurd h (by decide)
      clear hQ
      obtain ⟨⟨rfl, rfl, rfl⟩, hlb, hty, ha, rfl, rfl⟩ := hp
      simp only [go_sem, ro, wo, wa, wx, rx, ins_e, vl_e, insC]
      refine call_same (p_i0 (l := l1) (by omega) a0 ha) (by simp [go_sem, ro, wo, wa, wx, rx, ins_e, vl_e, insC]) ?_
      simp only [go_sem, ro, wo, wa, wx, rx, ins_e, vl_e, insC]
      exact pdone [] (by rfl) rfl
    · obtain rfl : q = _ := by
        rcases hQ with ⟨_, h⟩ | ⟨⟨h, _⟩, _⟩
        · exact h
        · exact absurd h (by decide)
      clear hQ
      obtain ⟨⟨rfl, rfl, rfl⟩, hlb, hty, ha, hb, rfl⟩ := hp
      have hE : ∀ i, i = 5 ∨ i = 10 ∨ i = 11 ∨ i = 14 ∨ i = 15 → l1 ++ encM i ⟨op, a0, b0, 0, 0, 0, 0, ty, lb⟩ = l1 ++ putU a0.toNat ++ putU b0.toNat := fun i hi => by
        rw [List.append_assoc]
        rcases hi with rfl | rfl | rfl | rfl | rfl <;> rfl
      have c1 := putU_5 (n := a0.toNat) (by simp only [ixB, Bool.and_eq_true, decide_eq_true_eq] at ha; omega)
      rw [hE _ (by decide)]
      simp only [go_sem, ro, wo, wa, wx, rx, ins_e, vl_e, insC]
      refine dcall_same (p_i0 (l := l1) (by omega) a0 ha) (by simp [go_sem, wx]) rfl ?_
      simp only [go_sem, ro, wo, wa, wx, rx, ins_e, vl_e, insC]
      refine call_same (p_i0 (l := l1 ++ putU a0.toNat) (by simp only [List.length_append]; omega) b0 hb) (by simp [go_sem, ro, wo, wa, wx, rx, ins_e, vl_e, insC]) ?_
      simp only [go_sem, ro, wo, wa, wx, rx, ins_e, vl_e, insC]
      exact pdone [] (by rfl) rfl
    · obtain rfl : q = _ := by
        rcases hQ with ⟨_, h⟩ | ⟨⟨h, _⟩, _⟩
        · exact h
        · exact absurd h (by decide)
      clear hQ
      obtain ⟨⟨rfl, rfl, rfl⟩, hlb, rfl, rfl, rfl, hlen, hv⟩ := hp
      have c1 := putU_5 (n := 1) (by omega)
      have cc : PCalls Tryz.prog n_ref10_PutVal [wx (l1 ++ putU 1) 0, .int .i64 (nth ty 0)] (wx (l1 ++ putU 1 ++ [(vo (nth ty 0)).1]) 0) := r_putval (l := l1 ++ putU 1) (e := 0) (by simp only [List.length_append]; omega) (nth ty 0) hv
      rw [show l1 ++ encM 6 ⟨op, 0, 0, 0, 0, 0, 0, ty, lb⟩ = l1 ++ putU 1 ++ [(vo (nth ty 0)).1] from (List.append_assoc ..).symm]
      simp only [go_sem, ro, wo, wa, wx, rx, ins_e, vl_e, insC]
      refine dcall_same (p_u0 (l := l1) (by omega) 1 (by omega)) (by simp [go_sem, wx]) rfl ?_
      simp only [go_sem, ro, wo, wa, wx, rx, ins_e, vl_e, insC]
      refine ⟨by decide, by omega, ?_⟩
      refine call_same (cc) (by simp [go_sem, ro, wo, wa, wx, rx, ins_e, vl_e, insC]) ?_
      simp only [go_sem, ro, wo, wa, wx, rx, ins_e, vl_e, insC]
      exact pdone [] (by rfl) rfl
    · obtain rfl : q = _ := by
        rcases hQ with ⟨_, h⟩ | ⟨⟨h, _⟩, _⟩
        · exact h
        · exact absurd h (by decide)
      clear hQ
      obtain ⟨⟨rfl, rfl, rfl⟩, hlb, hty, ha, rfl, rfl⟩ := hp
      simp only [go_sem, ro, wo, wa, wx, rx, ins_e, vl_e, insC]
      refine call_same (p_i0 (l := l1) (by omega) a0 ha) (by simp [go_sem, ro, wo, wa, wx, rx, ins_e, vl_e, insC]) ?_
      simp only [go_sem, ro, wo, wa, wx, rx, ins_e, vl_e, insC]
      exact pdone [] (by rfl) rfl
    · obtain rfl : q = _ := by
        rcases hQ with ⟨_, h⟩ | ⟨⟨h, _⟩, _⟩
        · exact h
        · exact absurd h (by decide)
      clear hQ
      obtain ⟨⟨rfl, rfl, rfl⟩, hlb, hty, ha, rfl, rfl⟩ := hp
      simp only [go_sem, ro, wo, wa, wx, rx, ins_e, vl_e, insC]
      refine call_same (p_i0 (l := l1) (by omega) a0 ha) (by simp [go_sem, ro, wo, wa, wx, rx, ins_e, vl_e, insC]) ?_
      simp only [go_sem, ro, wo, wa, wx, rx, ins_e, vl_e, insC]
      exact pdone [] (by rfl) rfl
    · obtain rfl : q = _ := by
        rcases hQ with ⟨_, h⟩ | ⟨⟨h, _⟩, _⟩
        · exact h
        · exact absurd h (by decide)
      clear hQ
      obtain ⟨⟨rfl, rfl, rfl⟩, hlb, hty, ha, rfl, rfl⟩ := hp
      simp only [go_sem, ro, wo, wa, wx, rx, ins_e, vl_e, insC]
      refine call_same (p_i0 (l := l1) (by omega) a0 ha) (by simp [go_sem, ro, wo, wa, wx, rx, ins_e, vl_e, insC]) ?_
      simp only [go_sem, ro, wo, wa, wx, rx, ins_e, vl_e, insC]
      exact pdone [] (by rfl) rfl
    · obtain rfl : q = _ := by
        rcases hQ with ⟨_, h⟩ | ⟨⟨h, _⟩, _⟩
        · exact h
        · exact absurd h (by decide)
      clear hQ
      obtain ⟨⟨rfl, rfl, rfl⟩, hlb, hty, ha, hb, rfl⟩ := hp
      have hE : ∀ i, i = 5 ∨ i = 10 ∨ i = 11 ∨ i = 14 ∨ i = 15 → l1 ++ encM i ⟨op, a0, b0, 0, 0, 0, 0, ty, lb⟩ = l1 ++ putU a0.toNat ++ putU b0.toNat := fun i hi => by
        rw [List.append_assoc]
        rcases hi with rfl | rfl | rfl | rfl | rfl <;> rfl
      have c1 := putU_5 (n := a0.toNat) (by simp only [ixB, Bool.and_eq_true, decide_eq_true_eq] at ha; omega)
      rw [hE _ (by decide)]
      simp only [go_sem, ro, wo, wa, wx, rx, ins_e, vl_e, insC]
      refine dcall_same (p_i0 (l := l1) (by omega) a0 ha) (by simp [go_sem, wx]) rfl ?_
      simp only [go_sem, ro, wo, wa, wx, rx, ins_e, vl_e, insC]
      refine call_same (p_i0 (l := l1 ++ putU a0.toNat) (by simp only [List.length_append]; omega) b0 hb) (by simp [go_sem, ro, wo, wa, wx, rx, ins_e, vl_e, insC]) ?_
      simp only [go_sem, ro, wo, wa, wx, rx, ins_e, vl_e, insC]
      exact pdone [] (by rfl) rfl
    · obtain rfl : q = _ := by
        rcases hQ with ⟨_, h⟩ | ⟨⟨h, _⟩, _⟩
        · exact h
        · exact absurd h (by decide)
      clear hQ
      obtain ⟨⟨rfl, rfl, rfl⟩, hlb, hty, ha, hb, rfl⟩ := hp
      have hE : ∀ i, i = 5 ∨ i = 10 ∨ i = 11 ∨ i = 14 ∨ i = 15 → l1 ++ encM i ⟨op, a0, b0, 0, 0, 0, 0, ty, lb⟩ = l1 ++ putU a0.toNat ++ putU b0.toNat := fun i hi => by
        rw [List.append_assoc]
        rcases hi with rfl | rfl | rfl | rfl | rfl <;> rfl
      have c1 := putU_5 (n := a0.toNat) (by simp only [ixB, Bool.and_eq_true, decide_eq_true_eq] at ha; omega)
      rw [hE _ (by decide)]
      simp only [go_sem, ro, wo, wa, wx, rx, ins_e, vl_e, insC]
      refine dcall_same (p_i0 (l := l1) (by omega) a0 ha) (by simp [go_sem, wx]) rfl ?_
      simp only [go_sem, ro, wo, wa, wx, rx, ins_e, vl_e, insC]
      refine call_same (p_i0 (l := l1 ++ putU a0.toNat) (by simp only [List.length_append]; omega) b0 hb) (by simp [go_sem, ro, wo, wa, wx, rx, ins_e, vl_e, insC]) ?_
      simp only [go_sem, ro, wo, wa, wx, rx, ins_e, vl_e, insC]
      exact pdone [] (by rfl) rfl
    · obtain rfl : q = _ := by
        rcases hQ with ⟨_, h⟩ | ⟨⟨h, _⟩, _⟩
        · exact h
        · exact absurd h (by decide)
      clear hQ
      obtain ⟨⟨rfl, rfl, rfl⟩, hlb, hty, ha, rfl, rfl⟩ := hp
      simp only [go_sem, ro, wo, wa, wx, rx, ins_e, vl_e, insC]
      refine call_same (p_i0 (l := l1) (by omega) a0 ha) (by simp [go_sem, ro, wo, wa, wx, rx, ins_e, vl_e, insC]) ?_
      simp only [go_sem, ro, wo, wa, wx, rx, ins_e, vl_e, insC]
      exact pdone [] (by rfl) rfl
    · obtain rfl : q = _ := by
        rcases hQ with ⟨_, h⟩ | ⟨⟨h, _⟩, _⟩
        · exact h
        · exact absurd h (by decide)
      clear hQ
      obtain ⟨⟨rfl, rfl, rfl⟩, hlb, hty, rfl, hb, rfl⟩ := hp
      simp only [go_sem, ro, wo, wa, wx, rx, ins_e, vl_e, insC]
      refine call_same (p_i0 (l := l1) (by omega) b0 hb) (by simp [go_sem, ro, wo, wa, wx, rx, ins_e, vl_e, insC]) ?_
      simp only [go_sem, ro, wo, wa, wx, rx, ins_e, vl_e, insC]
      exact pdone [] (by rfl) rfl
    · obtain rfl : q = _ := by
        rcases hQ with ⟨_, h⟩ | ⟨⟨h, _⟩, _⟩
        · exact h
        · exact absurd h (by decide)
      clear hQ
      obtain ⟨⟨rfl, rfl, rfl⟩, hlb, hty, ha, hb, rfl⟩ := hp
      have hE : ∀ i, i = 5 ∨ i = 10 ∨ i = 11 ∨ i = 14 ∨ i = 15 → l1 ++ encM i ⟨op, a0, b0, 0, 0, 0, 0, ty, lb⟩ = l1 ++ putU a0.toNat ++ putU b0.toNat := fun i hi => by
        rw [List.append_assoc]
        rcases hi with rfl | rfl | rfl | rfl | rfl <;> rfl
      have c1 := putU_5 (n := a0.toNat) (by simp only [ixB, Bool.and_eq_true, decide_eq_true_eq] at ha; omega)
      rw [hE _ (by decide)]
      simp only [go_sem, ro, wo, wa, wx, rx, ins_e, vl_e, insC]
      refine dcall_same (p_i0 (l := l1) (by omega) a0 ha) (by simp [go_sem, wx]) rfl ?_
      simp only [go_sem, ro, wo, wa, wx, rx, ins_e, vl_e, insC]
      refine call_same (p_i0 (l := l1 ++ putU a0.toNat) (by simp only [List.length_append]; omega) b0 hb) (by simp [go_sem, ro, wo, wa, wx, rx, ins_e, vl_e, insC]) ?_
      simp only [go_sem, ro, wo, wa, wx, rx, ins_e, vl_e, insC]
      exact pdone [] (by rfl) rfl
    · obtain rfl : q = _ := by
        rcases hQ with ⟨_, h⟩ | ⟨⟨h, _⟩, _⟩
        · exact h
        · exact absurd h (by decide)
      clear hQ
      obtain ⟨⟨rfl, rfl, rfl⟩, hlb, hty, ha, hb, rfl⟩ := hp
      have hE : ∀ i, i = 5 ∨ i = 10 ∨ i = 11 ∨ i = 14 ∨ i = 15 → l1 ++ encM i ⟨op, a0, b0, 0, 0, 0, 0, ty, lb⟩ = l1 ++ putU a0.toNat ++ putU b0.toNat := fun i hi => by
        rw [List.append_assoc]
        rcases hi with rfl | rfl | rfl | rfl | rfl <;> rfl
      have c1 := putU_5 (n := a0.toNat) (by simp only [ixB, Bool.and_eq_true, decide_eq_true_eq] at ha; omega)
      rw [hE _ (by decide)]
      simp only [go_sem, ro, wo, wa, wx, rx, ins_e, vl_e, insC]
      refine dcall_same (p_i0 (l := l1) (by omega) a0 ha) (by simp [go_sem, wx]) rfl ?_
      simp only [go_sem, ro, wo, wa, wx, rx, ins_e, vl_e, insC]
      refine call_same (p_i0 (l := l1 ++ putU a0.toNat) (by simp only [List.length_append]; omega) b0 hb) (by simp [go_sem, ro, wo, wa, wx, rx, ins_e, vl_e, insC]) ?_
      simp only [go_sem, ro, wo, wa, wx, rx, ins_e, vl_e, insC]
      exact pdone [] (by rfl) rfl
    · obtain rfl : q = _ := by
        rcases hQ with ⟨_, h⟩ | ⟨⟨h, _⟩, _⟩
        · exact h
        · exact absurd h (by decide)
      clear hQ
      obtain ⟨⟨rfl, rfl, rfl⟩, hlb, hty, ha, rfl, rfl⟩ := hp
      simp only [go_sem, ro, wo, wa, wx, rx, ins_e, vl_e, insC]
      refine call_same (p_i0 (l := l1) (by omega) a0 ha) (by simp [go_sem, ro, wo, wa, wx, rx, ins_e, vl_e, insC]) ?_
      simp only [go_sem, ro, wo, wa, wx, rx, ins_e, vl_e, insC]
      exact pdone [] (by rfl) rfl
    · obtain rfl : q = _ := by
        rcases hQ with ⟨_, h⟩ | ⟨⟨h, _⟩, _⟩
        · exact h
        · exact absurd h (by decide)
      clear hQ
      obtain ⟨⟨rfl, rfl, rfl⟩, hlb, hty, ha1, ha2, hb, hn2⟩ := hp
      have cc := r_access11 (l := l1) (by omega) ⟨op, a0, b0, n, 0, 0, 0, ty, lb⟩ ha1 ha2 hb hn hn2
      simp only [ins_e] at cc
      simp only [go_sem, ro, wo, wa, wx, rx, ins_e, vl_e, insC]
      refine call_same (cc) (by simp [go_sem, ro, wo, wa, wx, rx, ins_e, vl_e, insC]) ?_
      simp only [go_sem, ro, wo, wa, wx, rx, ins_e, vl_e, insC]
      exact pdone [] (by rfl) rfl
    · obtain rfl : q = _ := by
        rcases hQ with ⟨_, h⟩ | ⟨⟨h, _⟩, _⟩
        · exact h
        · exact absurd h (by decide)
      clear hQ
      obtain ⟨⟨rfl, rfl, rfl⟩, hlb, hty, rfl, rfl, hn2⟩ := hp
      have cc : PCalls Tryz.prog n_ref02_PutS32 [wx l1 0, .int .u64 n] (wx (l1 ++ putS (s32 n)) 0) := p_S32 l1 0 (by omega) n
      simp only [go_sem, ro, wo, wa, wx, rx, ins_e, vl_e, insC]
      refine call_same (cc) (by simp [go_sem, ro, wo, wa, wx, rx, ins_e, vl_e, insC]) ?_
      simp only [go_sem, ro, wo, wa, wx, rx, ins_e, vl_e, insC]
      exact pdone [] (by rfl) rfl
    · obtain rfl : q = _ := by
        rcases hQ with ⟨_, h⟩ | ⟨⟨h, _⟩, _⟩
        · exact h
        · exact absurd h (by decide)
      clear hQ
      obtain ⟨⟨rfl, rfl, rfl⟩, hlb, hty, rfl, rfl⟩ := hp
      have cc : PCalls Tryz.prog n_ref02_PutS64 [wx l1 0, .int .u64 n] (wx (l1 ++ putS (IntKind.i64.wrap n)) 0) := p_S64 l1 0 (by omega) n
      simp only [go_sem, ro, wo, wa, wx, rx, ins_e, vl_e, insC]
      refine call_same (cc) (by simp [go_sem, ro, wo, wa, wx, rx, ins_e, vl_e, insC]) ?_
      simp only [go_sem, ro, wo, wa, wx, rx, ins_e, vl_e, insC]
      exact pdone [] (by rfl) rfl
    · obtain rfl : q = _ := by
        rcases hQ with ⟨_, h⟩ | ⟨⟨h, _⟩, _⟩
        · exact h
        · exact absurd h (by decide)
      clear hQ
      obtain ⟨⟨rfl, rfl, rfl⟩, hlb, hty, ha, rfl, rfl⟩ := hp
      have hv : vaB a0 = true := by rcases ha with rfl | rfl <;> rfl
      have cc : PCalls Tryz.prog n_ref10_PutVal [wx l1 0, .int .i64 a0] (wx (l1 ++ [(vo a0).1]) 0) := r_putval (l := l1) (e := 0) (by omega) a0 hv
      simp only [go_sem, ro, wo, wa, wx, rx, ins_e, vl_e, insC]
      refine call_same (cc) (by simp [go_sem, ro, wo, wa, wx, rx, ins_e, vl_e, insC]) ?_
      simp only [go_sem, ro, wo, wa, wx, rx, ins_e, vl_e, insC]
      exact pdone [] (by rfl) rfl
  · simp only [go_sem, ro, wo, wa, wx, rx, ins_e, vl_e, insC, F_ref11_Put]
    refine call_same (a1) (by simp [go_sem, ro, wo, wa, wx, rx, ins_e, vl_e, insC]) ?_
    simp only [go_sem, ro, wo, wa, wx, rx, ins_e, vl_e, insC]
    refine call_same (r_prefixed op) (by simp [go_sem, ro, wo, wa, wx, rx, ins_e, vl_e, insC]) ?_
    simp only [go_sem, ro, wo, wa, wx, rx, ins_e, vl_e, insC, decide_eq_false ho, hw]
    refine call_same (p_b0 (l := l) (by omega) y) (by simp [go_sem, ro, wo, wa, wx, rx, ins_e, vl_e, insC]) ?_
    simp only [go_sem, ro, wo, wa, wx, rx, ins_e, vl_e, insC]
    refine call_same (hc) (by simp [go_sem, ro, wo, wa, wx, rx, ins_e, vl_e, insC]) ?_
    clear hw a1 hc hz
    generalize l ++ [y] = l1 at *
    rcases (show i = 0 ∨ i = 1 ∨ i = 2 ∨ i = 3 ∨ i = 4 ∨ i = 5 ∨ i = 6 ∨ i = 7 ∨ i = 8 ∨ i = 9 ∨ i = 10 ∨ i = 11 ∨ i = 12 ∨ i = 13 ∨ i = 14 ∨ i = 15 ∨ i = 16 ∨ i = 17 ∨ i = 18 ∨ i = 19 ∨ i = 20 by omega) with rfl | rfl | rfl | rfl | rfl | rfl | rfl | rfl | rfl | rfl | rfl | rfl | rfl | rfl | rfl | rfl | rfl | rfl | rfl | rfl | rfl
    all_goals
      simp only [Int.reduceEq, Int.reduceBEq, false_or, or_false, or_true, true_or, or_self, if_true, if_false, Bool.true_or, Bool.false_or, Bool.true_and, Bool.and_eq_true, beq_iff_eq, Bool.not_eq_true', decide_eq_false_iff_not, decide_eq_true_eq, Bool.or_eq_true] at hp
    · obtain rfl : q = _ := by
        rcases hQ with ⟨_, h⟩ | ⟨⟨h, _⟩, _⟩
        · exact h
        · exact absurd h (by decide)
      clear hQ
      rw [show l1 ++ encM 0 ⟨op, a0, b0, n, k, v, z, ty, lb⟩ = l1 from List.append_nil _]
      simp only [go_sem, ro, wo, wa, wx, rx, ins_e, vl_e, insC]
      exact pdone [] (by rfl) rfl
    · obtain rfl : q = _ := by
        rcases hQ with ⟨_, h⟩ | ⟨⟨h, _⟩, _⟩
        · exact h
        · exact absurd h (by decide)
      clear hQ
      obtain ⟨hlb, hty, rfl, rfl, rfl, hb⟩ := hp
      have cc : PCalls Tryz.prog n_ref10_PutBlock [wx l1 0, .agg [.int .i64 k, .int .i64 v, .int .i64 z]] (wx (l1 ++ encB k v z) 0) := r_putblock (l := l1) (e := 0) (by omega) k v z hb
      simp only [go_sem, ro, wo, wa, wx, rx, ins_e, vl_e, insC]
      refine call_same (cc) (by simp [go_sem, ro, wo, wa, wx, rx, ins_e, vl_e, insC]) ?_
      simp only [go_sem, ro, wo, wa, wx, rx, ins_e, vl_e, insC]
      exact pdone [] (by rfl) rfl
    · obtain rfl : q = _ := by
        rcases hQ with ⟨_, h⟩ | ⟨⟨h, _⟩, _⟩
        · exact h
        · exact absurd h (by decide)
      clear hQ
      obtain ⟨⟨rfl, rfl, rfl⟩, hlb, hty, ha, rfl, rfl⟩ := hp
      simp only [go_sem, ro, wo, wa, wx, rx, ins_e, vl_e, insC]
      refine call_same (p_i0 (l := l1) (by omega) a0 ha) (by simp [go_sem, ro, wo, wa, wx, rx, ins_e, vl_e, insC]) ?_
      simp only [go_sem, ro, wo, wa, wx, rx, ins_e, vl_e, insC]
      exact pdone [] (by rfl) rfl
    · obtain ⟨⟨rfl, rfl, rfl⟩, hty, ha, rfl, rfl, hal⟩ := hp
      rcases hQ with ⟨hs, rfl⟩ | ⟨⟨_, hs⟩, rfl⟩
      · have cc := r_labels11 (l := l1) (by omega) ⟨op, a0, 0, 0, 0, 0, 0, ty, lb⟩ hal ha (Nat.lt_of_not_le fun h => hs ⟨rfl, h⟩)
        simp only [ins_e] at cc
        simp only [go_sem, ro, wo, wa, wx, rx, ins_e, vl_e, insC]
        refine call_same (cc) (by simp [go_sem, ro, wo, wa, wx, rx, ins_e, vl_e, insC]) ?_
        simp only [go_sem, ro, wo, wa, wx, rx, ins_e, vl_e, insC]
        exact pdone [] (by rfl) rfl
      · have cc := r_labels_big (l := l1) (by omega) ⟨op, a0, 0, 0, 0, 0, 0, ty, lb⟩ hal ha hs hlb
        simp only [ins_e] at cc
        simp only [go_sem, ro, wo, wa, wx, rx, ins_e, vl_e, insC]
        refine call_same (cc) (by simp [go_sem, ro, wo, wa, wx, rx, ins_e, vl_e, insC]) ?_
        simp only [go_sem, ro, wo, wa, wx, rx, ins_e, vl_e, insC]
        exact pdone [] (by rfl) rfl
    · obtain rfl : q = _ := by
        rcases hQ with ⟨_, h⟩ | ⟨⟨h, _⟩, _⟩
        · exact h
        · exact absurd h (by decide)
      clear hQ
      obtain ⟨⟨rfl, rfl, rfl⟩, hlb, hty, ha, rfl, rfl⟩ := hp
      simp only [go_sem, ro, wo, wa, wx, rx, ins_e, vl_e, insC]
      refine call_same (p_i0 (l := l1) (by omega) a0 ha) (by simp [go_sem, ro, wo, wa, wx, rx, ins_e, vl_e, insC]) ?_
      simp only [go_sem, ro, wo, wa, wx, rx, ins_e, vl_e, insC]
      exact pdone [] (by rfl) rfl
    · obtain rfl : q = _ := by
        rcases hQ with ⟨_, h⟩ | ⟨⟨h, _⟩, _⟩
        · exact h
        · exact absurd h (by decide)
      clear hQ
      obtain ⟨⟨rfl, rfl, rfl⟩, hlb, hty, ha, hb, rfl⟩ := hp
      have hE : ∀ i, i = 5 ∨ i = 10 ∨ i = 11 ∨ i = 14 ∨ i = 15 → l1 ++ encM i ⟨op, a0, b0, 0, 0, 0, 0, ty, lb⟩ = l1 ++ putU a0.toNat ++ putU b0.toNat := fun i hi => by
        rw [List.append_assoc]
        rcases hi with rfl | rfl | rfl | rfl | rfl <;> rfl
      have c1 := putU_5 (n := a0.toNat) (by simp only [ixB, Bool.and_eq_true, decide_eq_true_eq] at ha; omega)
      rw [hE _ (by decide)]
      simp only [go_sem, ro, wo, wa, wx, rx, ins_e, vl_e, insC]
      refine dcall_same (p_i0 (l := l1) (by omega) a0 ha) (by simp [go_sem, wx]) rfl ?_
      simp only [go_sem, ro, wo, wa, wx, rx, ins_e, vl_e, insC]
      refine call_same (p_i0 (l := l1 ++ putU a0.toNat) (by simp only [List.length_append]; omega) b0 hb) (by simp [go_sem, ro, wo, wa, wx, rx, ins_e, vl_e, insC]) ?_
      simp only [go_sem, ro, wo, wa, wx, rx, ins_e, vl_e, insC]
      exact pdone [] (by rfl) rfl
    · obtain rfl : q = _ := by
        rcases hQ with ⟨_, h⟩ | ⟨⟨h, _⟩, _⟩
        · exact h
        · exact absurd h (by decide)
      clear hQ
      obtain ⟨⟨rfl, rfl, rfl⟩, hlb, rfl, rfl, rfl, hlen, hv⟩ := hp
      have c1 := putU_5 (n := 1) (by omega)
      have cc : PCalls Tryz.prog n_ref10_PutVal [wx (l1 ++ putU 1) 0, .int .i64 (nth ty 0)] (wx (l1 ++ putU 1 ++ [(vo (nth ty 0)).1]) 0) := r_putval (l := l1 ++ putU 1) (e := 0) (by simp only [List.length_append]; omega) (nth ty 0) hv
      rw [show l1 ++ encM 6 ⟨op, 0, 0, 0, 0, 0, 0, ty, lb⟩ = l1 ++ putU 1 ++ [(vo (nth ty 0)).1] from (List.append_assoc ..).symm]
      simp only [go_sem, ro, wo, wa, wx, rx, ins_e, vl_e, insC]
      refine dcall_same (p_u0 (l := l1) (by omega) 1 (by omega)) (by simp [go_sem, wx]) rfl ?_
      simp only [go_sem, ro, wo, wa, wx, rx, ins_e, vl_e, insC]
      refine ⟨by decide, by omega, ?_⟩
      refine call_same (cc) (by simp [go_sem, ro, wo, wa, wx, rx, ins_e, vl_e, insC]) ?_
      simp only [go_sem, ro, wo, wa, wx, rx, ins_e, vl_e, insC]
      exact pdone [] (by rfl) rfl
    · obtain rfl : q = _ := by
        rcases hQ with ⟨_, h⟩ | ⟨⟨h, _⟩, _⟩
        · exact h
        · exact absurd h (by decide)
      clear hQ
      obtain ⟨⟨rfl, rfl, rfl⟩, hlb, hty, ha, rfl, rfl⟩ := hp
      simp only [go_sem, ro, wo, wa, wx, rx, ins_e, vl_e, insC]
      refine call_same (p_i0 (l := l1) (by omega) a0 ha) (by simp [go_sem, ro, wo, wa, wx, rx, ins_e, vl_e, insC]) ?_
      simp only [go_sem, ro, wo, wa, wx, rx, ins_e, vl_e, insC]
      exact pdone [] (by rfl) rfl
    · obtain rfl : q = _ := by
        rcases hQ with ⟨_, h⟩ | ⟨⟨h, _⟩, _⟩
        · exact h
        · exact absurd h (by decide)
      clear hQ
      obtain ⟨⟨rfl, rfl, rfl⟩, hlb, hty, ha, rfl, rfl⟩ := hp
      simp only [go_sem, ro, wo, wa, wx, rx, ins_e, vl_e, insC]
      refine call_same (p_i0 (l := l1) (by omega) a0 ha) (by simp [go_sem, ro, wo, wa, wx, rx, ins_e, vl_e, insC]) ?_
      simp only [go_sem, ro, wo, wa, wx, rx, ins_e, vl_e, insC]
      exact pdone [] (by rfl) rfl
    · obtain rfl : q = _ := by
        rcases hQ with ⟨_, h⟩ | ⟨⟨h, _⟩, _⟩
        · exact h
        · exact absurd h (by decide)
      clear hQ
      obtain ⟨⟨rfl, rfl, rfl⟩, hlb, hty, ha, rfl, rfl⟩ := hp
      simp only [go_sem, ro, wo, wa, wx, rx, ins_e, vl_e, insC]
      refine call_same (p_i0 (l := l1) (by omega) a0 ha) (by simp [go_sem, ro, wo, wa, wx, rx, ins_e, vl_e, insC]) ?_
      simp only [go_sem, ro, wo, wa, wx, rx, ins_e, vl_e, insC]
      exact pdone [] (by rfl) rfl
    · obtain rfl : q = _ := by
        rcases hQ with ⟨_, h⟩ | ⟨⟨h, _⟩, _⟩
        · exact h
        · exact absurd h (by decide)
      clear hQ
      obtain ⟨⟨rfl, rfl, rfl⟩, hlb, hty, ha, hb, rfl⟩ := hp
      have hE : ∀ i, i = 5 ∨ i = 10 ∨ i = 11 ∨ i = 14 ∨ i = 15 → l1 ++ encM i ⟨op, a0, b0, 0, 0, 0, 0, ty, lb⟩ = l1 ++ putU a0.toNat ++ putU b0.toNat := fun i hi => by
        rw [List.append_assoc]
        rcases hi with rfl | rfl | rfl | rfl | rfl <;> rfl
      have c1 := putU_5 (n := a0.toNat) (by simp only [ixB, Bool.and_eq_true, decide_eq_true_eq] at ha; omega)
      rw [hE _ (by decide)]
      simp only [go_sem, ro, wo, wa, wx, rx, ins_e, vl_e, insC]
      refine dcall_same (p_i0 (l := l1) (by omega) a0 ha) (by simp [go_sem, wx]) rfl ?_
      simp only [go_sem, ro, wo, wa, wx, rx, ins_e, vl_e, insC]
      refine call_same (p_i0 (l := l1 ++ putU a0.toNat) (by simp only [List.length_append]; omega) b0 hb) (by simp [go_sem, ro, wo, wa, wx, rx, ins_e, vl_e, insC]) ?_
      simp only [go_sem, ro, wo, wa, wx, rx, ins_e, vl_e, insC]
      exact pdone [] (by rfl) rfl
    · obtain rfl : q = _ := by
        rcases hQ with ⟨_, h⟩ | ⟨⟨h, _⟩, _⟩
        · exact h
        · exact absurd h (by decide)
      clear hQ
      obtain ⟨⟨rfl, rfl, rfl⟩, hlb, hty, ha, hb, rfl⟩ := hp
      have hE : ∀ i, i = 5 ∨ i = 10 ∨ i = 11 ∨ i = 14 ∨ i = 15 → l1 ++ encM i ⟨op, a0, b0, 0, 0, 0, 0, ty, lb⟩ = l1 ++ putU a0.toNat ++ putU b0.toNat := fun i hi => by
        rw [List.append_assoc]
        rcases hi with rfl | rfl | rfl | rfl | rfl <;> rfl
      have c1 := putU_5 (n := a0.toNat) (by simp only [ixB, Bool.and_eq_true, decide_eq_true_eq] at ha; omega)
      rw [hE _ (by decide)]
      simp only [go_sem, ro, wo, wa, wx, rx, ins_e, vl_e, insC]
      refine dcall_same (p_i0 (l := l1) (by omega) a0 ha) (by simp [go_sem, wx]) rfl ?_
      simp only [go_sem, ro, wo, wa, wx, rx, ins_e, vl_e, insC]
      refine call_same (p_i0 (l := l1 ++ putU a0.toNat) (by simp only [List.length_append]; omega) b0 hb) (by simp [go_sem, ro, wo, wa, wx, rx, ins_e, vl_e, insC]) ?_
      simp only [go_sem, ro, wo, wa, wx, rx, ins_e, vl_e, insC]
      exact pdone [] (by rfl) rfl
    · obtain rfl : q = _ := by
        rcases hQ with ⟨_, h⟩ | ⟨⟨h, _⟩, _⟩
        · exact h
        · exact absurd h (by decide)
      clear hQ
      obtain ⟨⟨rfl, rfl, rfl⟩, hlb, hty, ha, rfl, rfl⟩ := hp
      simp only [go_sem, ro, wo, wa, wx, rx, ins_e, vl_e, insC]
      refine call_same (p_i0 (l := l1) (by omega) a0 ha) (by simp [go_sem, ro, wo, wa, wx, rx, ins_e, vl_e, insC]) ?_
      simp only [go_sem, ro, wo, wa, wx, rx, ins_e, vl_e, insC]
      exact pdone [] (by rfl) rfl
    · obtain rfl : q = _ := by
        rcases hQ with ⟨_, h⟩ | ⟨⟨h, _⟩, _⟩
        · exact h
        · exact absurd h (by decide)
      clear hQ
      obtain ⟨⟨rfl, rfl, rfl⟩, hlb, hty, rfl, hb, rfl⟩ := hp
      simp only [go_sem, ro, wo, wa, wx, rx, ins_e, vl_e, insC]
      refine call_same (p_i0 (l := l1) (by omega) b0 hb) (by simp [go_sem, ro, wo, wa, wx, rx, ins_e, vl_e, insC]) ?_
      simp only [go_sem, ro, wo, wa, wx, rx, ins_e, vl_e, insC]
      exact pdone [] (by rfl) rfl
    · obtain rfl : q = _ := by
        rcases hQ with ⟨_, h⟩ | ⟨⟨h, _⟩, _⟩
        · exact h
        · exact absurd h (by decide)
      clear hQ
      obtain ⟨⟨rfl, rfl, rfl⟩, hlb, hty, ha, hb, rfl⟩ := hp
      have hE : ∀ i, i = 5 ∨ i = 10 ∨ i = 11 ∨ i = 14 ∨ i = 15 → l1 ++ encM i ⟨op, a0, b0, 0, 0, 0, 0, ty, lb⟩ = l1 ++ putU a0.toNat ++ putU b0.toNat := fun i hi => by
        rw [List.append_assoc]
        rcases hi with rfl | rfl | rfl | rfl | rfl <;> rfl
      have c1 := putU_5 (n := a0.toNat) (by simp only [ixB, Bool.and_eq_true, decide_eq_true_eq] at ha; omega)
      rw [hE _ (by decide)]
      simp only [go_sem, ro, wo, wa, wx, rx, ins_e, vl_e, insC]
      refine dcall_same (p_i0 (l := l1) (by omega) a0 ha) (by simp [go_sem, wx]) rfl ?_
      simp only [go_sem, ro, wo, wa, wx, rx, ins_e, vl_e, insC]
      refine call_same (p_i0 (l := l1 ++ putU a0.toNat) (by simp only [List.length_append]; omega) b0 hb) (by simp [go_sem, ro, wo, wa, wx, rx, ins_e, vl_e, insC]) ?_
      simp only [go_sem, ro, wo, wa, wx, rx, ins_e, vl_e, insC]
      exact pdone [] (by rfl) rfl
    · obtain rfl : q = _ := by
        rcases hQ with ⟨_, h⟩ | ⟨⟨h, _⟩, _⟩
        · exact h
        · exact absurd h (by decide)
      clear hQ
      obtain ⟨⟨rfl, rfl, rfl⟩, hlb, hty, ha, hb, rfl⟩ := hp
      have hE : ∀ i, i = 5 ∨ i = 10 ∨ i = 11 ∨ i = 14 ∨ i = 15 → l1 ++ encM i ⟨op, a0, b0, 0, 0, 0, 0, ty, lb⟩ = l1 ++ putU a0.toNat ++ putU b0.toNat := fun i hi => by
        rw [List.append_assoc]
        rcases hi with rfl | rfl | rfl | rfl | rfl <;> rfl
      have c1 := putU_5 (n := a0.toNat) (by simp only [ixB, Bool.and_eq_true, decide_eq_true_eq] at ha; omega)
      rw [hE _ (by decide)]
      simp only [go_sem, ro, wo, wa, wx, rx, ins_e, vl_e, insC]
      refine dcall_same (p_i0 (l := l1) (by omega) a0 ha) (by simp [go_sem, wx]) rfl ?_
      simp only [go_sem, ro, wo, wa, wx, rx, ins_e, vl_e, insC]
      refine call_same (p_i0 (l := l1 ++ putU a0.toNat) (by simp only [List.length_append]; omega) b0 hb) (by simp [go_sem, ro, wo, wa, wx, rx, ins_e, vl_e, insC]) ?_
      simp only [go_sem, ro, wo, wa, wx, rx, ins_e, vl_e, insC]
      exact pdone [] (by rfl) rfl
    · obtain rfl : q = _ := by
        rcases hQ with ⟨_, h⟩ | ⟨⟨h, _⟩, _⟩
        · exact h
        · exact absurd h (by decide)
      clear hQ
      obtain ⟨⟨rfl, rfl, rfl⟩, hlb, hty, ha, rfl, rfl⟩ := hp
      simp only [go_sem, ro, wo, wa, wx, rx, ins_e, vl_e, insC]
      refine call_same (p_i0 (l := l1) (by omega) a0 ha) (by simp [go_sem, ro, wo, wa, wx, rx, ins_e, vl_e, insC]) ?_
      simp only [go_sem, ro, wo, wa, wx, rx, ins_e, vl_e, insC]
      exact pdone [] (by rfl) rfl
    · obtain rfl : q = _ := by
        rcases hQ with ⟨_, h⟩ | ⟨⟨h, _⟩, _⟩
        · exact h
        · exact absurd h (by decide)
      clear hQ
      obtain ⟨⟨rfl, rfl, rfl⟩, hlb, hty, ha1, ha2, hb, hn2⟩ := hp
      have cc := r_access11 (l := l1) (by omega) ⟨op, a0, b0, n, 0, 0, 0, ty, lb⟩ ha1 ha2 hb hn hn2
      simp only [ins_e] at cc
      simp only [go_sem, ro, wo, wa, wx, rx, ins_e, vl_e, insC]
      refine call_same (cc) (by simp [go_sem, ro, wo, wa, wx, rx, ins_e, vl_e, insC]) ?_
      simp only [go_sem, ro, wo, wa, wx, rx, ins_e, vl_e, insC]
      exact pdone [] (by rfl) rfl
    · obtain rfl : q = _ := by
        rcases hQ with ⟨_, h⟩ | ⟨⟨h, _⟩, _⟩
        · exact h
        · exact absurd h (by decide)
      clear hQ
      obtain ⟨⟨rfl, rfl, rfl⟩, hlb, hty, rfl, rfl, hn2⟩ := hp
      have cc : PCalls Tryz.prog n_ref02_PutS32 [wx l1 0, .int .u64 n] (wx (l1 ++ putS (s32 n)) 0) := p_S32 l1 0 (by omega) n
      simp only [go_sem, ro, wo, wa, wx, rx, ins_e, vl_e, insC]
      refine call_same (cc) (by simp [go_sem, ro, wo, wa, wx, rx, ins_e, vl_e, insC]) ?_
      simp only [go_sem, ro, wo, wa, wx, rx, ins_e, vl_e, insC]
      exact pdone [] (by rfl) rfl
    · obtain rfl : q = _ := by
        rcases hQ with ⟨_, h⟩ | ⟨⟨h, _⟩, _⟩
        · exact h
        · exact absurd h (by decide)
      clear hQ
      obtain ⟨⟨rfl, rfl, rfl⟩, hlb, hty, rfl, rfl⟩ := hp
      have cc : PCalls Tryz.prog n_ref02_PutS64 [wx l1 0, .int .u64 n] (wx (l1 ++ putS (IntKind.i64.wrap n)) 0) := p_S64 l1 0 (by omega) n
      simp only [go_sem, ro, wo, wa, wx, rx, ins_e, vl_e, insC]
      refine call_same (cc) (by simp [go_sem, ro, wo, wa, wx, rx, ins_e, vl_e, insC]) ?_
      simp only [go_sem, ro, wo, wa, wx, rx, ins_e, vl_e, insC]
      exact pdone [] (by rfl) rfl
    · obtain rfl : q = _ := by
        rcases hQ with ⟨_, h⟩ | ⟨⟨h, _⟩, _⟩
        · exact h
        · exact absurd h (by decide)
      clear hQ
      obtain ⟨⟨rfl, rfl, rfl⟩, hlb, hty, ha, rfl, rfl⟩ := hp
      have hv : vaB a0 = true := by rcases ha with rfl | rfl <;> rfl
      have cc : PCalls Tryz.prog n_ref10_PutVal [wx l1 0, .int .i64 a0] (wx (l1 ++ [(vo a0).1]) 0) := r_putval (l := l1) (e := 0) (by omega) a0 hv
      simp only [go_sem, ro, wo, wa, wx, rx, ins_e, vl_e, insC]
      refine call_same (cc) (by simp [go_sem, ro, wo, wa, wx, rx, ins_e, vl_e, insC]) ?_
      simp only [go_sem, ro, wo, wa, wx, rx, ins_e, vl_e, insC]
      exact pdone [] (by rfl) rfl
end
end Go.Proofs.YtdhiiannngjjpaaGreatDoor
