/-
  Chapter 5: the signature of an opcode.
-/
import Derived.Test.YtnhnghpnejobfaaDoorQd
set_option linter.unusedVariables false
set_option linter.unusedSimpArgs false
set_option linter.unusedSectionVars false
set_option maxRecDepth 100000
set_option maxHeartbeats 8000000
set_option linter.unusedVariables false
set_option linter.unusedSimpArgs false
namespace Go.Proofs.YtnhnghpnejobfaaDoor
open Go Go.Mw
-- @U: vl_e, List.length_map

theorem PCalls_ret {P : Program} [Tabs P] {f : FuncId} {args : List AV} {r r' : AV} (hp : PCalls P f args r) (hw : ∀ bl M w v, VRel bl M w v r → VRel bl M w v r') (hid : idsV r' = []) : PCalls P f args r' :=
  fun bl MF w cargs h1 h2 h3 h4 h5 => (hp bl MF w cargs h1 h2 h3 h4 h5).mono fun e w' h => by
    obtain ⟨v, r0, σ', bl', he, ⟨rfl, rfl⟩, _, h6, h7, h8⟩ := h
    exact ⟨v, r', [], bl', he, ⟨rfl, rfl⟩, ⟨fun i hi => (by rw [hid] at hi; cases hi), fun p hp => absurd hp List.not_mem_nil⟩, h6, hw _ _ _ _ h7, h8⟩
def sg_ (p q : List Int) : AV := .agg [.sl 1 (p.map vl_), .sl 1 (q.map vl_)]
def numM (op t : Int) (s : List UInt8) : List Int × List Int :=
  if hpf s [108, 111, 97, 100] = true then ([1], [t]) else
  if hpf s [115, 116, 111, 114, 101] = true then ([1, t], []) else
  if (s == [101, 113, 122]) = true then ([t], [1]) else
  if op ≥ 70 ∧ op ≤ 90 then ([t, t], [1]) else
  if (s == [99, 108, 122]) = true then ([t], [t]) else
  if (s == [99, 116, 122]) = true then ([t], [t]) else
  if (s == [112, 111, 112, 99, 110, 116]) = true then ([t], [t]) else
  if hpf s [101, 120, 116, 101, 110, 100] = true then ([t], [t]) else ([t, t], [t])
theorem s_number5 (op t : Int) (s : List UInt8) (hs : s.length < 1000000) : PCalls Tryd.prog n_opcode_number [.int .i64 op, .int .i64 t, .str s] (sg_ (numM op t s).1 (numM op t s).2) := by
  refine pfun_sound (ic := F_opcode_number.body) mixed c_opcode_number rfl rfl ?_
  unfold numM sg_
  simp only [go_sem, vl_e, List.length_map, F_opcode_number]
  refine call_same (s_hp s [108, 111, 97, 100] ⟨hs, by decide⟩) (by simp [go_sem, vl_e, List.length_map]) ?_
  cases q1 : hpf s [108, 111, 97, 100]
  case true =>
    rw [if_pos rfl]
    simp only [go_sem, vl_e, List.length_map]
    refine call_frz [10, 12] ?_ (s_of [1] [t]) (by simp [go_sem, vl_e]) ?_
    · simp only [go_sem, vl_e, List.length_map, Nat.le_refl]
      try rfl
    simp only [go_sem, vl_e, List.length_map]
    exact pdone [] (by rfl) rfl
  rw [if_neg (by decide)]
  simp only [go_sem, vl_e, List.length_map]
  refine call_same (s_hp s [115, 116, 111, 114, 101] ⟨hs, by decide⟩) (by simp [go_sem, vl_e, List.length_map]) ?_
  cases q2 : hpf s [115, 116, 111, 114, 101]
  case true =>
    rw [if_pos rfl]
    simp only [go_sem, vl_e, List.length_map]
    refine call_nl [.ms 18 1 0 2, .sl 1 []] ⟨.inl rfl, .inr (.inl ⟨rfl, 1, rfl⟩), trivial⟩ ?_
    refine call_frz [18] ?_ (s_of [1, t] []) (by simp [go_sem, vl_e]) ?_
    · simp only [go_sem, vl_e, List.length_map, Nat.le_refl]
      try rfl
    simp only [go_sem, vl_e, List.length_map]
    exact pdone [] (by rfl) rfl
  rw [if_neg (by decide)]
  cases q3 : s == [101, 113, 122]
  case true =>
    rw [if_pos rfl]
    simp only [go_sem, vl_e, List.length_map, q3]
    refine call_frz [24, 25] ?_ (s_of [t] [1]) (by simp [go_sem, vl_e]) ?_
    · simp only [go_sem, vl_e, List.length_map, Nat.le_refl]
      try rfl
    simp only [go_sem, vl_e, List.length_map]
    exact pdone [] (by rfl) rfl
  rw [if_neg (by decide)]
  by_cases q4 : op ≥ 70 ∧ op ≤ 90
  · rw [if_pos q4]
    simp only [go_sem, vl_e, List.length_map, q3, decide_eq_true q4.1, decide_eq_true q4.2]
    refine call_frz [36, 37] ?_ (s_of [t, t] [1]) (by simp [go_sem, vl_e]) ?_
    · simp only [go_sem, vl_e, List.length_map, Nat.le_refl]
      try rfl
    simp only [go_sem, vl_e, List.length_map]
    exact pdone [] (by rfl) rfl
  rw [if_neg q4]
  by_cases q5 : op ≥ 70
  · have q6 : ¬ op ≤ 90 := fun h => q4 ⟨q5, h⟩
    simp only [go_sem, vl_e, List.length_map, q3, decide_eq_true q5, decide_eq_false q6]
    cases q7 : s == [99, 108, 122]
    case true =>
      rw [if_pos rfl]
      simp only [go_sem, vl_e, List.length_map, q7]
      refine call_frz [55, 57] ?_ (s_of [t] [t]) (by simp [go_sem, vl_e]) ?_
      · simp only [go_sem, vl_e, List.length_map, Nat.le_refl]
        try rfl
      simp only [go_sem, vl_e, List.length_map]
      exact pdone [] (by rfl) rfl
    rw [if_neg (by decide)]
    cases q8 : s == [99, 116, 122]
    case true =>
      rw [if_pos rfl]
      simp only [go_sem, vl_e, List.length_map, q7, q8]
      refine call_frz [55, 57] ?_ (s_of [t] [t]) (by simp [go_sem, vl_e]) ?_
      · simp only [go_sem, vl_e, List.length_map, Nat.le_refl]
        try rfl
      simp only [go_sem, vl_e, List.length_map]
      exact pdone [] (by rfl) rfl
    rw [if_neg (by decide)]
    cases q9 : s == [112, 111, 112, 99, 110, 116]
    case true =>
      rw [if_pos rfl]
      simp only [go_sem, vl_e, List.length_map, q7, q8, q9]
      refine call_frz [55, 57] ?_ (s_of [t] [t]) (by simp [go_sem, vl_e]) ?_
      · simp only [go_sem, vl_e, List.length_map, Nat.le_refl]
        try rfl
      simp only [go_sem, vl_e, List.length_map]
      exact pdone [] (by rfl) rfl
    rw [if_neg (by decide)]
    simp only [go_sem, vl_e, List.length_map, q7, q8, q9]
    refine call_same (s_hp s [101, 120, 116, 101, 110, 100] ⟨hs, by decide⟩) (by simp [go_sem, vl_e, List.length_map]) ?_
    cases q10 : hpf s [101, 120, 116, 101, 110, 100]
    case true =>
      rw [if_pos rfl]
      simp only [go_sem, vl_e, List.length_map]
      refine call_frz [55, 57] ?_ (s_of [t] [t]) (by simp [go_sem, vl_e]) ?_
      · simp only [go_sem, vl_e, List.length_map, Nat.le_refl]
        try rfl
      simp only [go_sem, vl_e, List.length_map]
      exact pdone [] (by rfl) rfl
    rw [if_neg (by decide)]
    simp only [go_sem, vl_e, List.length_map]
    refine call_frz [61, 63] ?_ (s_of [t, t] [t]) (by simp [go_sem, vl_e]) ?_
    · simp only [go_sem, vl_e, List.length_map, Nat.le_refl]
      try rfl
    simp only [go_sem, vl_e, List.length_map]
    exact pdone [] (by rfl) rfl
  · simp only [go_sem, vl_e, List.length_map, q3, decide_eq_false q5]
    cases q7 : s == [99, 108, 122]
    case true =>
      rw [if_pos rfl]
      simp only [go_sem, vl_e, List.length_map, q7]
      refine call_frz [55, 57] ?_ (s_of [t] [t]) (by simp [go_sem, vl_e]) ?_
      · simp only [go_sem, vl_e, List.length_map, Nat.le_refl]
        try rfl
      simp only [go_sem, vl_e, List.length_map]
      exact pdone [] (by rfl) rfl
    rw [if_neg (by decide)]
    cases q8 : s == [99, 116, 122]
    case true =>
      rw [if_pos rfl]
      simp only [go_sem, vl_e, List.length_map, q7, q8]
      refine call_frz [55, 57] ?_ (s_of [t] [t]) (by simp [go_sem, vl_e]) ?_
      · simp only [go_sem, vl_e, List.length_map, Nat.le_refl]
        try rfl
      simp only [go_sem, vl_e, List.length_map]
      exact pdone [] (by rfl) rfl
    rw [if_neg (by decide)]
    cases q9 : s == [112, 111, 112, 99, 110, 116]
    case true =>
      rw [if_pos rfl]
      simp only [go_sem, vl_e, List.length_map, q7, q8, q9]
      refine call_frz [55, 57] ?_ (s_of [t] [t]) (by simp [go_sem, vl_e]) ?_
      · simp only [go_sem, vl_e, List.length_map, Nat.le_refl]
        try rfl
      simp only [go_sem, vl_e, List.length_map]
      exact pdone [] (by rfl) rfl
    rw [if_neg (by decide)]
    simp only [go_sem, vl_e, List.length_map, q7, q8, q9]
    refine call_same (s_hp s [101, 120, 116, 101, 110, 100] ⟨hs, by decide⟩) (by simp [go_sem, vl_e, List.length_map]) ?_
    cases q10 : hpf s [101, 120, 116, 101, 110, 100]
    case true =>
      rw [if_pos rfl]
      simp only [go_sem, vl_e, List.length_map]
      refine call_frz [55, 57] ?_ (s_of [t] [t]) (by simp [go_sem, vl_e]) ?_
      · simp only [go_sem, vl_e, List.length_map, Nat.le_refl]
        try rfl
      simp only [go_sem, vl_e, List.length_map]
      exact pdone [] (by rfl) rfl
    rw [if_neg (by decide)]
    simp only [go_sem, vl_e, List.length_map]
    refine call_frz [61, 63] ?_ (s_of [t, t] [t]) (by simp [go_sem, vl_e]) ?_
    · simp only [go_sem, vl_e, List.length_map, Nat.le_refl]
      try rfl
    simp only [go_sem, vl_e, List.length_map]
    exact pdone [] (by rfl) rfl
def sgT : List (Int × List Int × List Int) := [(1, [], []), (64525, [], []), (64521, [], []), (65, [], [1]), (63, [], [1]), (64528, [], [1]), (66, [], [2]), (210, [], [3]), (64, [1], [1]), (64523, [1, 1, 1], []), (64522, [1, 1, 1], []), (64520, [1, 1, 1], []), (64526, [1, 1, 1], []), (64524, [1, 1, 1], []), (167, [2], [1]), (172, [1], [2]), (173, [1], [2])]
def sgP (op : Int) : List Int × List Int × Bool := match sgT.find? (fun p => p.1 == op) with
  | some p => (p.2.1, p.2.2, true)
  | none => if (hpf (nameOf op) [105, 51, 50, 46] || hpf (nameOf op) [105, 54, 52, 46]) = true then ((numM op (if hpf (nameOf op) [105, 54, 52] = true then 2 else 1) ((nameOf op).drop 4)).1, (numM op (if hpf (nameOf op) [105, 54, 52] = true then 2 else 1) ((nameOf op).drop 4)).2, true) else ([], [], false)
theorem nl_tup (b : Bool) (bl : Nat → Option Nat) (M : Nat → Prop) (w : World) (v : Value) (h : VRel bl M w v (.tup [.agg [.nl, .nl], .bool b])) : VRel bl M w v (.tup [sg_ [] [], .bool b]) := by
  obtain ⟨cs, rfl, h⟩ := h
  refine ⟨cs, rfl, ?_⟩
  match cs, h with
  | [c, d], ⟨h1, h2, _⟩ => exact ⟨nla_rel (bl := bl) (M := M) (w := w) (v := c) (x := .agg [.nl, .nl]) (y := .agg [.sl 1 [], .sl 1 []]) (.inr (.inr ⟨_, _, rfl, rfl, .inr ⟨rfl, 1, rfl⟩, .inr ⟨rfl, 1, rfl⟩, trivial⟩)) h1, h2, trivial⟩
theorem hpf_len {s p : List UInt8} (h : hpf s p = true) : p.length ≤ s.length := by
  simp only [hpf, Bool.and_eq_true, decide_eq_true_eq] at h
  exact h.1
theorem s_sig5 (op : Int) : PCalls Tryd.prog n_opcode_Sig [.int .i64 op] (.tup [sg_ (sgP op).1 (sgP op).2.1, .bool (sgP op).2.2]) := by
  by_cases h0 : op = 1
  · subst h0
    have r : sgP 1 = ([], [], true) := rfl
    rw [r]
    refine PCalls_ret (r := .tup [.agg [.nl, .nl], .bool true]) ?_ (nl_tup true) rfl
    refine pfun_sound (ic := F_opcode_Sig.body) mixed c_opcode_Sig rfl rfl ?_
    simp only [go_sem, vl_e, List.length_map, F_opcode_Sig]
    exact pdone [] (by rfl) rfl
  by_cases h1 : op = 64525
  · subst h1
    have r : sgP 64525 = ([], [], true) := rfl
    rw [r]
    refine PCalls_ret (r := .tup [.agg [.nl, .nl], .bool true]) ?_ (nl_tup true) rfl
    refine pfun_sound (ic := F_opcode_Sig.body) mixed c_opcode_Sig rfl rfl ?_
    simp only [go_sem, vl_e, List.length_map, F_opcode_Sig]
    exact pdone [] (by rfl) rfl
  by_cases h2 : op = 64521
  · subst h2
    have r : sgP 64521 = ([], [], true) := rfl
    rw [r]
    refine PCalls_ret (r := .tup [.agg [.nl, .nl], .bool true]) ?_ (nl_tup true) rfl
    refine pfun_sound (ic := F_opcode_Sig.body) mixed c_opcode_Sig rfl rfl ?_
    simp only [go_sem, vl_e, List.length_map, F_opcode_Sig]
    exact pdone [] (by rfl) rfl
  by_cases h3 : op = 65
  · subst h3
    have r : sgP 65 = ([], [1], true) := rfl
    rw [r]
    unfold sg_
    refine pfun_sound (ic := F_opcode_Sig.body) mixed c_opcode_Sig rfl rfl ?_
    simp only [go_sem, vl_e, List.length_map, F_opcode_Sig]
    refine call_nl [.sl 1 [], .ms 17 1 0 1] ⟨.inr (.inl ⟨rfl, 1, rfl⟩), .inl rfl, trivial⟩ ?_
    refine call_frz [17] ?_ (s_of [] [1]) (by simp [go_sem, vl_e]) ?_
    · simp only [go_sem, vl_e, List.length_map, Nat.le_refl]
      try rfl
    simp only [go_sem, vl_e, List.length_map]
    exact pdone [] (by rfl) rfl
  by_cases h4 : op = 63
  · subst h4
    have r : sgP 63 = ([], [1], true) := rfl
    rw [r]
    unfold sg_
    refine pfun_sound (ic := F_opcode_Sig.body) mixed c_opcode_Sig rfl rfl ?_
    simp only [go_sem, vl_e, List.length_map, F_opcode_Sig]
    refine call_nl [.sl 1 [], .ms 17 1 0 1] ⟨.inr (.inl ⟨rfl, 1, rfl⟩), .inl rfl, trivial⟩ ?_
    refine call_frz [17] ?_ (s_of [] [1]) (by simp [go_sem, vl_e]) ?_
    · simp only [go_sem, vl_e, List.length_map, Nat.le_refl]
      try rfl
    simp only [go_sem, vl_e, List.length_map]
    exact pdone [] (by rfl) rfl
  by_cases h5 : op = 64528
  · subst h5
    have r : sgP 64528 = ([], [1], true) := rfl
    rw [r]
    unfold sg_
    refine pfun_sound (ic := F_opcode_Sig.body) mixed c_opcode_Sig rfl rfl ?_
    simp only [go_sem, vl_e, List.length_map, F_opcode_Sig]
    refine call_nl [.sl 1 [], .ms 17 1 0 1] ⟨.inr (.inl ⟨rfl, 1, rfl⟩), .inl rfl, trivial⟩ ?_
    refine call_frz [17] ?_ (s_of [] [1]) (by simp [go_sem, vl_e]) ?_
    · simp only [go_sem, vl_e, List.length_map, Nat.le_refl]
      try rfl
    simp only [go_sem, vl_e, List.length_map]
    exact pdone [] (by rfl) rfl
  by_cases h6 : op = 66
  · subst h6
    have r : sgP 66 = ([], [2], true) := rfl
    rw [r]
    unfold sg_
    refine pfun_sound (ic := F_opcode_Sig.body) mixed c_opcode_Sig rfl rfl ?_
    simp only [go_sem, vl_e, List.length_map, F_opcode_Sig]
    refine call_nl [.sl 1 [], .ms 21 1 0 1] ⟨.inr (.inl ⟨rfl, 1, rfl⟩), .inl rfl, trivial⟩ ?_
    refine call_frz [21] ?_ (s_of [] [2]) (by simp [go_sem, vl_e]) ?_
    · simp only [go_sem, vl_e, List.length_map, Nat.le_refl]
      try rfl
    simp only [go_sem, vl_e, List.length_map]
    exact pdone [] (by rfl) rfl
  by_cases h7 : op = 210
  · subst h7
    have r : sgP 210 = ([], [3], true) := rfl
    rw [r]
    unfold sg_
    refine pfun_sound (ic := F_opcode_Sig.body) mixed c_opcode_Sig rfl rfl ?_
    simp only [go_sem, vl_e, List.length_map, F_opcode_Sig]
    refine call_nl [.sl 1 [], .ms 25 1 0 1] ⟨.inr (.inl ⟨rfl, 1, rfl⟩), .inl rfl, trivial⟩ ?_
    refine call_frz [25] ?_ (s_of [] [3]) (by simp [go_sem, vl_e]) ?_
    · simp only [go_sem, vl_e, List.length_map, Nat.le_refl]
      try rfl
    simp only [go_sem, vl_e, List.length_map]
    exact pdone [] (by rfl) rfl
  by_cases h8 : op = 64
  · subst h8
    have r : sgP 64 = ([1], [1], true) := rfl
    rw [r]
    unfold sg_
    refine pfun_sound (ic := F_opcode_Sig.body) mixed c_opcode_Sig rfl rfl ?_
    simp only [go_sem, vl_e, List.length_map, F_opcode_Sig]
    refine ⟨⟨by decide, by decide⟩, ?_⟩
    refine call_frz [6, 31] ?_ (s_of [1] [1]) (by simp [go_sem, vl_e]) ?_
    · simp only [go_sem, vl_e, List.length_map, Nat.le_refl]
      try rfl
    simp only [go_sem, vl_e, List.length_map]
    exact pdone [] (by rfl) rfl
  by_cases h9 : op = 64523
  · subst h9
    have r : sgP 64523 = ([1, 1, 1], [], true) := rfl
    rw [r]
    unfold sg_
    refine pfun_sound (ic := F_opcode_Sig.body) mixed c_opcode_Sig rfl rfl ?_
    simp only [go_sem, vl_e, List.length_map, F_opcode_Sig]
    refine call_nl [.ms 6 1 0 3, .sl 1 []] ⟨.inl rfl, .inr (.inl ⟨rfl, 1, rfl⟩), trivial⟩ ?_
    refine call_frz [6] ?_ (s_of [1, 1, 1] []) (by simp [go_sem, vl_e]) ?_
    · simp only [go_sem, vl_e, List.length_map, Nat.le_refl]
      try rfl
    simp only [go_sem, vl_e, List.length_map]
    exact pdone [] (by rfl) rfl
  by_cases h10 : op = 64522
  · subst h10
    have r : sgP 64522 = ([1, 1, 1], [], true) := rfl
    rw [r]
    unfold sg_
    refine pfun_sound (ic := F_opcode_Sig.body) mixed c_opcode_Sig rfl rfl ?_
    simp only [go_sem, vl_e, List.length_map, F_opcode_Sig]
    refine call_nl [.ms 6 1 0 3, .sl 1 []] ⟨.inl rfl, .inr (.inl ⟨rfl, 1, rfl⟩), trivial⟩ ?_
    refine call_frz [6] ?_ (s_of [1, 1, 1] []) (by simp [go_sem, vl_e]) ?_
    · simp only [go_sem, vl_e, List.length_map, Nat.le_refl]
      try rfl
    simp only [go_sem, vl_e, List.length_map]
    exact pdone [] (by rfl) rfl
  by_cases h11 : op = 64520
  · subst h11
    have r : sgP 64520 = ([1, 1, 1], [], true) := rfl
    rw [r]
    unfold sg_
    refine pfun_sound (ic := F_opcode_Sig.body) mixed c_opcode_Sig rfl rfl ?_
    simp only [go_sem, vl_e, List.length_map, F_opcode_Sig]
    refine call_nl [.ms 6 1 0 3, .sl 1 []] ⟨.inl rfl, .inr (.inl ⟨rfl, 1, rfl⟩), trivial⟩ ?_
    refine call_frz [6] ?_ (s_of [1, 1, 1] []) (by simp [go_sem, vl_e]) ?_
    · simp only [go_sem, vl_e, List.length_map, Nat.le_refl]
      try rfl
    simp only [go_sem, vl_e, List.length_map]
    exact pdone [] (by rfl) rfl
  by_cases h12 : op = 64526
  · subst h12
    have r : sgP 64526 = ([1, 1, 1], [], true) := rfl
    rw [r]
    unfold sg_
    refine pfun_sound (ic := F_opcode_Sig.body) mixed c_opcode_Sig rfl rfl ?_
    simp only [go_sem, vl_e, List.length_map, F_opcode_Sig]
    refine call_nl [.ms 6 1 0 3, .sl 1 []] ⟨.inl rfl, .inr (.inl ⟨rfl, 1, rfl⟩), trivial⟩ ?_
    refine call_frz [6] ?_ (s_of [1, 1, 1] []) (by simp [go_sem, vl_e]) ?_
    · simp only [go_sem, vl_e, List.length_map, Nat.le_refl]
      try rfl
    simp only [go_sem, vl_e, List.length_map]
    exact pdone [] (by rfl) rfl
  by_cases h13 : op = 64524
  · subst h13
    have r : sgP 64524 = ([1, 1, 1], [], true) := rfl
    rw [r]
    unfold sg_
    refine pfun_sound (ic := F_opcode_Sig.body) mixed c_opcode_Sig rfl rfl ?_
    simp only [go_sem, vl_e, List.length_map, F_opcode_Sig]
    refine call_nl [.ms 6 1 0 3, .sl 1 []] ⟨.inl rfl, .inr (.inl ⟨rfl, 1, rfl⟩), trivial⟩ ?_
    refine call_frz [6] ?_ (s_of [1, 1, 1] []) (by simp [go_sem, vl_e]) ?_
    · simp only [go_sem, vl_e, List.length_map, Nat.le_refl]
      try rfl
    simp only [go_sem, vl_e, List.length_map]
    exact pdone [] (by rfl) rfl
  by_cases h14 : op = 167
  · subst h14
    have r : sgP 167 = ([2], [1], true) := rfl
    rw [r]
    unfold sg_
    refine pfun_sound (ic := F_opcode_Sig.body) mixed c_opcode_Sig rfl rfl ?_
    simp only [go_sem, vl_e, List.length_map, F_opcode_Sig]
    refine call_frz [43, 44] ?_ (s_of [2] [1]) (by simp [go_sem, vl_e]) ?_
    · simp only [go_sem, vl_e, List.length_map, Nat.le_refl]
      try rfl
    simp only [go_sem, vl_e, List.length_map]
    exact pdone [] (by rfl) rfl
  by_cases h15 : op = 172
  · subst h15
    have r : sgP 172 = ([1], [2], true) := rfl
    rw [r]
    unfold sg_
    refine pfun_sound (ic := F_opcode_Sig.body) mixed c_opcode_Sig rfl rfl ?_
    simp only [go_sem, vl_e, List.length_map, F_opcode_Sig]
    refine ⟨⟨by decide, by decide⟩, ?_⟩
    refine call_frz [6, 51] ?_ (s_of [1] [2]) (by simp [go_sem, vl_e]) ?_
    · simp only [go_sem, vl_e, List.length_map, Nat.le_refl]
      try rfl
    simp only [go_sem, vl_e, List.length_map]
    exact pdone [] (by rfl) rfl
  by_cases h16 : op = 173
  · subst h16
    have r : sgP 173 = ([1], [2], true) := rfl
    rw [r]
    unfold sg_
    refine pfun_sound (ic := F_opcode_Sig.body) mixed c_opcode_Sig rfl rfl ?_
    simp only [go_sem, vl_e, List.length_map, F_opcode_Sig]
    refine ⟨⟨by decide, by decide⟩, ?_⟩
    refine call_frz [6, 51] ?_ (s_of [1] [2]) (by simp [go_sem, vl_e]) ?_
    · simp only [go_sem, vl_e, List.length_map, Nat.le_refl]
      try rfl
    simp only [go_sem, vl_e, List.length_map]
    exact pdone [] (by rfl) rfl
  have e : sgT.find? (fun p => p.1 == op) = none := by
    simp only [sgT, List.find?_cons, List.find?_nil, beq_f (fun e : (1 : Int) = op => h0 e.symm), beq_f (fun e : (64525 : Int) = op => h1 e.symm), beq_f (fun e : (64521 : Int) = op => h2 e.symm), beq_f (fun e : (65 : Int) = op => h3 e.symm), beq_f (fun e : (63 : Int) = op => h4 e.symm), beq_f (fun e : (64528 : Int) = op => h5 e.symm), beq_f (fun e : (66 : Int) = op => h6 e.symm), beq_f (fun e : (210 : Int) = op => h7 e.symm), beq_f (fun e : (64 : Int) = op => h8 e.symm), beq_f (fun e : (64523 : Int) = op => h9 e.symm), beq_f (fun e : (64522 : Int) = op => h10 e.symm), beq_f (fun e : (64520 : Int) = op => h11 e.symm), beq_f (fun e : (64526 : Int) = op => h12 e.symm), beq_f (fun e : (64524 : Int) = op => h13 e.symm), beq_f (fun e : (167 : Int) = op => h14 e.symm), beq_f (fun e : (172 : Int) = op => h15 e.symm), beq_f (fun e : (173 : Int) = op => h16 e.symm)]
  have hl := nameOf_len op
  cases q1 : hpf (nameOf op) [105, 51, 50, 46] || hpf (nameOf op) [105, 54, 52, 46]
  · have r : sgP op = ([], [], false) := by rw [sgP, e]; simp only [q1]; rfl
    rw [r]
    refine PCalls_ret (r := .tup [.agg [.nl, .nl], .bool false]) ?_ (nl_tup false) rfl
    refine pfun_sound (ic := F_opcode_Sig.body) mixed c_opcode_Sig rfl rfl ?_
    have q2 : hpf (nameOf op) [105, 51, 50, 46] = false := by
      cases h : hpf (nameOf op) [105, 51, 50, 46]
      · rfl
      · rw [h] at q1; cases q1
    rw [q2, Bool.false_or] at q1
    have b1 := s_hp (nameOf op) [105, 51, 50, 46] ⟨by omega, by decide⟩
    have b2 := s_hp (nameOf op) [105, 54, 52, 46] ⟨by omega, by decide⟩
    rw [q2] at b1
    rw [q1] at b2
    simp only [go_sem, vl_e, List.length_map, F_opcode_Sig, beq_f h0, beq_f h1, beq_f h2, beq_f h3, beq_f h4, beq_f h5, beq_f h6, beq_f h7, beq_f h8, beq_f h9, beq_f h10, beq_f h11, beq_f h12, beq_f h13, beq_f h14, beq_f h15, beq_f h16]
    refine call_same (s_name5 op) (by simp [go_sem, vl_e, List.length_map]) ?_
    simp only [go_sem, vl_e, List.length_map]
    refine call_same (b1) (by simp [go_sem, vl_e, List.length_map]) ?_
    simp only [go_sem, vl_e, List.length_map]
    refine call_same (b2) (by simp [go_sem, vl_e, List.length_map]) ?_
    simp only [go_sem, vl_e, List.length_map]
    exact pdone [] (by rfl) rfl
  · have r : sgP op = ((numM op (if hpf (nameOf op) [105, 54, 52] = true then 2 else 1) ((nameOf op).drop 4)).1, (numM op (if hpf (nameOf op) [105, 54, 52] = true then 2 else 1) ((nameOf op).drop 4)).2, true) := by rw [sgP, e]; simp only [q1, if_true]
    rw [r]
    refine pfun_sound (ic := F_opcode_Sig.body) mixed c_opcode_Sig rfl rfl ?_
    have hq4 : 4 ≤ (nameOf op).length := by
      rcases Bool.or_eq_true_iff.1 q1 with h | h
      · exact hpf_len h
      · exact hpf_len h
    have b1 := s_hp (nameOf op) [105, 51, 50, 46] ⟨by omega, by decide⟩
    have b2 := s_hp (nameOf op) [105, 54, 52, 46] ⟨by omega, by decide⟩
    have b3 := s_begins (nameOf op) (by omega)
    generalize (if hpf (nameOf op) [105, 54, 52] = true then (2 : Int) else 1) = t at b3
    have e4 : ((nameOf op).drop 4).take ((nameOf op).length - 4) = (nameOf op).drop 4 := List.take_of_length_le (by simp)
    have b4 := s_number5 op t ((nameOf op).drop 4) (by simp; omega)
    unfold sg_ at b4 ⊢
    have n0 := s_name5 op
    generalize nameOf op = s at n0 b1 b2 b3 b4 hq4 e4 hl q1
    simp only [go_sem, vl_e, List.length_map, F_opcode_Sig, beq_f h0, beq_f h1, beq_f h2, beq_f h3, beq_f h4, beq_f h5, beq_f h6, beq_f h7, beq_f h8, beq_f h9, beq_f h10, beq_f h11, beq_f h12, beq_f h13, beq_f h14, beq_f h15, beq_f h16]
    refine call_same (n0) (by simp [go_sem, vl_e, List.length_map]) ?_
    simp only [go_sem, vl_e, List.length_map]
    refine call_same (b1) (by simp [go_sem, vl_e, List.length_map]) ?_
    cases q2 : hpf s [105, 51, 50, 46]
    · rw [q2, Bool.false_or] at q1
      rw [q1] at b2
      simp only [go_sem, vl_e, List.length_map]
      refine call_same (b2) (by simp [go_sem, vl_e, List.length_map]) ?_
      simp only [go_sem, vl_e, List.length_map]
      refine dcall_same b3 (by simp [go_sem]) rfl ?_
      simp only [go_sem, vl_e, List.length_map]
      refine ⟨⟨by decide, by omega⟩, ?_⟩
      refine call_same (b4) (by simp [go_sem, vl_e, List.length_map]) ?_
      simp only [go_sem, vl_e, List.length_map]
      exact pdone [] (by rfl) rfl
    · simp only [go_sem, vl_e, List.length_map]
      refine dcall_same b3 (by simp [go_sem]) rfl ?_
      simp only [go_sem, vl_e, List.length_map]
      refine ⟨⟨by decide, by omega⟩, ?_⟩
      refine call_same (b4) (by simp [go_sem, vl_e, List.length_map]) ?_
      simp only [go_sem, vl_e, List.length_map]
      exact pdone [] (by rfl) rfl
end Go.Proofs.YtnhnghpnejobfaaDoor
set_option maxRecDepth 100000
set_option maxHeartbeats 8000000
set_option linter.unusedVariables false
set_option linter.unusedSimpArgs false
namespace Go.Proofs.YtnhnghpnejobfaaDoor
open Go Go.Mw
-- @U: vl_e, List.length_map

theorem agree_no {op : Int} (h : rowOf op = none) : nameOf op = [] ∧ widP op = 0 ∧ immP op = 0 ∧ costP op = 0 ∧ sgP op = ([], [], false) := by
  obtain ⟨h1, h2, h3⟩ := row_none h
  obtain ⟨t1, t2, t3, t4, t5, t6⟩ := tells op
  have hn : nameOf op = [] := by rw [row_name, h1]
  have hw : widP op = 0 := by rw [t4, widR, h2]; rfl
  refine ⟨hn, hw, by rw [t3, h2], by rw [costP, hn]; split <;> rfl, ?_⟩
  have e : sgT.find? (fun p => p.1 == op) = none := by
    rw [List.find?_eq_none]
    intro p hp hq
    have := List.all_eq_true.1 (show sgT.all (fun p => (rowOf p.1).isSome) = true by decide +kernel) p hp
    simp only [beq_iff_eq] at hq
    rw [hq, h] at this
    cases this
  rw [sgP, e, hn]
  rfl
def agB (op : Int) : Bool := (decide (widP op > 0) == (immP op == 17)) &&
  (if widP op > 0 then (sgP op).2.2 && (((sgP op).1.head? == some 1) && (((sgP op).1.length + (sgP op).2.1.length) == 2)) else (!(sgP op).2.2 || !(nameOf op == [])))
theorem agree_in {op : Int} (h : rowOf op ≠ none) : agB op = true := row_in (p := agB) (by decide +kernel) h
theorem w_agree (op : Int) : PCalls Tryd.prog n_law05_OpcodeAgree [.int .i64 op] (.bool true) := by
  refine pfun_sound (ic := F_law05_OpcodeAgree.body) mixed c_law05_OpcodeAgree rfl rfl ?_
  have a1 := s_width5 op
  have a2 := s_sig5 op
  have a3 := s_of5 op
  have a4 := s_align5 op
  have a5 := s_known5 op
  have a6 := s_cost5 op
  have a7 := s_alive5
  by_cases hr : rowOf op = none
  · obtain ⟨h1, h2, h3, h4, h5⟩ := agree_no hr
    rw [h2] at a1
    rw [h5] at a2
    rw [h3] at a3
    rw [h2] at a4
    rw [h1] at a5
    rw [h4] at a6
    simp only [sg_] at a2
    have e1 : aliP 0 = 0 := rfl
    rw [e1] at a4
    have e2 : (!(([] : List UInt8) == [])) = false := rfl
    rw [e2] at a5
    have dz : decide ((0 : Int) > 0) = false := rfl
    simp only [go_sem, vl_e, List.length_map, F_law05_OpcodeAgree]
    refine call_same (a1) (by simp [go_sem, vl_e, List.length_map]) ?_
    simp only [go_sem, vl_e, List.length_map]
    refine call_same (a2) (by simp [go_sem, vl_e, List.length_map]) ?_
    simp only [go_sem, vl_e, List.length_map]
    refine call_same (a3) (by simp [go_sem, vl_e, List.length_map]) ?_
    simp only [go_sem, vl_e, List.length_map, dz, Bool.not_true]
    refine call_same (a4) (by simp [go_sem, vl_e, List.length_map]) ?_
    simp only [go_sem, vl_e, List.length_map]
    refine call_same (a5) (by simp [go_sem, vl_e, List.length_map]) ?_
    simp only [go_sem, vl_e, List.length_map]
    refine call_same (a3) (by simp [go_sem, vl_e, List.length_map]) ?_
    simp only [go_sem, vl_e, List.length_map]
    refine call_same (a6) (by simp [go_sem, vl_e, List.length_map]) ?_
    simp only [go_sem, vl_e, List.length_map]
    refine call_same (a7) (by simp [go_sem, vl_e, List.length_map]) ?_
    simp only [go_sem, vl_e, List.length_map]
    exact pdone [] (by rfl) rfl
  have hg := agree_in hr
  have hk : (!(nameOf op == [])) = true := by
    have := (tells op).1
    rw [this]
    cases h : rowOf op with
    | none => exact absurd h hr
    | some o => rw [rKn, h]; rfl
  rw [hk] at a5
  unfold agB at hg
  rw [hk] at hg
  simp only [Bool.and_eq_true, beq_iff_eq] at hg
  obtain ⟨g1, g2⟩ := hg
  generalize sgP op = sg at a2 g2
  obtain ⟨p, q, ok⟩ := sg
  simp only at a2 g2
  simp only [sg_] at a2
  rcases widP_cases op with hw | hw
  · rw [hw] at a1 a4 g1
    have dz : decide ((0 : Int) > 0) = false := rfl
    rw [dz] at g1
    have e1 : aliP 0 = 0 := rfl
    rw [e1] at a4
    have g3 := g1.symm
    simp only [go_sem, vl_e, List.length_map, F_law05_OpcodeAgree]
    refine call_same (a1) (by simp [go_sem, vl_e, List.length_map]) ?_
    simp only [go_sem, vl_e, List.length_map]
    refine call_same (a2) (by simp [go_sem, vl_e, List.length_map]) ?_
    simp only [go_sem, vl_e, List.length_map]
    refine call_same (a3) (by simp [go_sem, vl_e, List.length_map]) ?_
    simp only [go_sem, vl_e, List.length_map, dz, g3, Bool.not_true]
    refine call_same (a4) (by simp [go_sem, vl_e, List.length_map]) ?_
    cases ok
    · simp only [go_sem, vl_e, List.length_map]
      refine call_same (a5) (by simp [go_sem, vl_e, List.length_map]) ?_
      simp only [go_sem, vl_e, List.length_map]
      refine call_same (a7) (by simp [go_sem, vl_e, List.length_map]) ?_
      simp only [go_sem, vl_e, List.length_map]
      exact pdone [] (by rfl) rfl
    · simp only [go_sem, vl_e, List.length_map]
      refine call_same (a5) (by simp [go_sem, vl_e, List.length_map]) ?_
      simp only [go_sem, vl_e, List.length_map]
      refine call_same (a5) (by simp [go_sem, vl_e, List.length_map]) ?_
      simp only [go_sem, vl_e, List.length_map]
      refine call_same (a7) (by simp [go_sem, vl_e, List.length_map]) ?_
      simp only [go_sem, vl_e, List.length_map]
      exact pdone [] (by rfl) rfl
  have hpos : widP op > 0 := by omega
  rw [decide_eq_true hpos] at g1
  have g3 := g1.symm
  rw [if_pos hpos] at g2
  simp only [Bool.and_eq_true, beq_iff_eq] at g2
  obtain ⟨rfl, g4, g5⟩ := g2
  cases p with
  | nil => cases g4
  | cons y p =>
    simp only [List.head?_cons, Option.some.injEq] at g4
    subst g4
    have g6 : IntKind.i64.wrap (((p.length + 1 : Nat) : Int) + (q.length : Int)) = 2 := by
      simp only [List.length_cons] at g5
      rw [wi (by omega) (by omega)]
      omega
    have g7 : decide (((p.length + 1 : Nat) : Int) ≥ 1) = true := decide_eq_true (by omega)
    simp only [List.map_cons] at a2
    have z1 : decide ((1 : Int) > 0) = true := rfl
    have z2 : decide ((2 : Int) > 0) = true := rfl
    have z4 : decide ((4 : Int) > 0) = true := rfl
    have z8 : decide ((8 : Int) > 0) = true := rfl
    have x0 : (b_shl IntKind.i64 1 (IntKind.u64.wrap (Int.tmod 0 8)) == 1) = true := by decide
    have x1 : (b_shl IntKind.i64 1 (IntKind.u64.wrap (Int.tmod 1 8)) == 2) = true := by decide
    have x2 : (b_shl IntKind.i64 1 (IntKind.u64.wrap (Int.tmod 2 8)) == 4) = true := by decide
    have x3 : (b_shl IntKind.i64 1 (IntKind.u64.wrap (Int.tmod 3 8)) == 8) = true := by decide
    have i1 : aIadr 1 (.sl 1 ([.int .i64 1] :: List.map vl_ p)) (.int .i64 0) = some (.ip [.int .i64 1]) := rfl
    have y1 : aliP 1 = 0 := rfl
    have y2 : aliP 2 = 1 := rfl
    have y4 : aliP 4 = 2 := rfl
    have y8 : aliP 8 = 3 := rfl
    rcases hw with hw | hw | hw | hw
    all_goals
      rw [hw] at a1 a4
      simp only [y1, y2, y4, y8] at a4
      simp only [go_sem, vl_e, List.length_map, F_law05_OpcodeAgree]
      refine call_same (a1) (by simp [go_sem, vl_e, List.length_map]) ?_
      simp only [go_sem, vl_e, List.length_map]
      refine call_same (a2) (by simp [go_sem, vl_e, List.length_map]) ?_
      simp only [go_sem, vl_e, List.length_map]
      refine call_same (a3) (by simp [go_sem, vl_e, List.length_map]) ?_
      simp only [go_sem, vl_e, List.length_map, g3, Bool.not_true, z1, z2, z4, z8]
      refine call_same (a4) (by simp [go_sem, vl_e, List.length_map]) ?_
      simp only [go_sem, vl_e, List.length_map, g7, vl_e, x0, x1, x2, x3, i1, List.length_cons, g6]
      refine ⟨by decide, by decide, ?_⟩
      refine call_same (a7) (by simp [go_sem, vl_e, List.length_map]) ?_
      simp only [go_sem, vl_e, List.length_map]
      exact pdone [] (by rfl) rfl
end Go.Proofs.YtnhnghpnejobfaaDoor
