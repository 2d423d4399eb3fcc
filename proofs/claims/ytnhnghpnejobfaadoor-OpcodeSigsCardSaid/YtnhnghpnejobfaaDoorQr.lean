/-
  Chapter 5, the law OpcodeSigs: the parts.
-/
import Derived.Test.YtnhnghpnejobfaaDoorQq
set_option linter.unusedVariables false
set_option linter.unusedSimpArgs false
set_option linter.unusedSectionVars false
set_option maxRecDepth 100000
set_option maxHeartbeats 8000000
set_option linter.unusedVariables false
set_option linter.unusedSimpArgs false
namespace Go.Proofs.YtnhnghpnejobfaaDoor
open Go Go.Mw
-- @U: vl_e, List.length_map

theorem nth_cons_eq5 {a b : List Int} (hl : a.length = b.length) (h : ∀ k, k < a.length → nth a k = nth b k) : a = b := by
  apply List.ext_getElem hl
  intro i h1 h2
  have := h i h1
  rwa [nth_eq h1, nth_eq h2] at this
theorem w_types5 (a b : List Int) (ha : a.length < 1000000) : PCalls Tryd.prog n_law05_types [.sl 1 (a.map vl_), .sl 1 (b.map vl_)] (.bool (a == b)) := by
  refine pfun_sound (ic := F_law05_types.body) mixed c_law05_types rfl rfl ?_
  by_cases hl : (a.length : Int) = b.length
  · simp only [go_sem, vl_e, List.length_map, F_law05_types, hl, bne_self_eq_false]
    refine loop_rule (fun i : Nat => ⟨[(0, .sl 1 (a.map vl_)), (1, .sl 1 (b.map vl_)), (5, .int .i64 i)], []⟩) (fun i => i ≤ a.length ∧ ∀ k, k < i → nth a k = nth b k) (fun i => a.length - i) 0 ⟨Nat.zero_le _, fun k hk => absurd hk (Nat.not_lt_zero k)⟩ (Wk.of ?_ ?_) ?_
    · simp only [go_sem, vl_e, List.length_map, hl]; try simp
    · simp only [go_sem, vl_e, List.length_map]
    rintro i ⟨hi, hk⟩
    by_cases h1 : (i : Int) < (a.length : Int)
    · have e8 := wi (n := (i : Int) + 1) (by omega) (by omega)
      simp only [go_sem, vl_e, List.length_map, decide_eq_true h1]
      refine ⟨by omega, h1, by omega, by omega, fun h2 => ?_, fun h2 => klp_n (i + 1) ⟨by omega, fun k hk2 => ?_⟩ (show a.length - (i + 1) < a.length - i by omega) (Wk.of ?_ ?_)⟩
      · have r : (a == b) = false := by
          rw [beq_eq_false_iff_ne]
          intro e
          rw [e] at h2
          simp at h2
        rw [r]
        exact pdone [] (by rfl) rfl
      · rcases Nat.lt_or_ge k i with h4 | h4
        · exact hk k h4
        · obtain rfl : k = i := by omega
          simpa using h2
      · simp only [go_sem, vl_e, List.length_map, e8]
        try simp
      · simp only [go_sem, vl_e, List.length_map]
    · have r : a = b := nth_cons_eq5 (by omega) (fun k hk2 => hk k (by omega))
      have r2 : (a == b) = true := by rw [r]; exact beq_self_eq_true b
      simp only [go_sem, vl_e, List.length_map, decide_eq_false h1]
      rw [r2]
      exact pdone [] (by rfl) rfl
  · have r : (a == b) = false := by
      rw [beq_eq_false_iff_ne]
      intro e; rw [e] at hl; exact hl rfl
    have b1 : ((a.length : Int) != (b.length : Int)) = true := by simpa using hl
    simp only [go_sem, vl_e, List.length_map, F_law05_types, b1]
    rw [r]
    exact pdone [] (by rfl) rfl
/-- The first 'n' numbers turned. -/
def trn : Nat → List Int → List Int
  | 0, R => R
  | k + 1, R => (trn k R).set k (IntKind.i64.wrap (nth (trn k R) k + 50))
theorem trn_len : ∀ (n : Nat) (R : List Int), (trn n R).length = R.length
  | 0, _ => rfl
  | k + 1, R => by rw [trn, List.length_set, trn_len k R]
theorem stO_vl (id row : Nat) (l : List Int) (v : Int) : stO id 1 1 row 0 (some ⟨33, 1, l.map vl_, false⟩) (some [.int .i64 v]) = if row < l.length then some (.put id ⟨33, 1, (l.set row v).map vl_, false⟩) else none := stO_map id 1 1 row 33 vl_ l v (fun _ => rfl) rfl
theorem w_turn0 : PCalls Tryd.prog n_law05_turn [.sl 1 []] (.tup []) := by
  refine pfun_sound (ic := F_law05_turn.body) mixed c_law05_turn rfl rfl ?_
  simp only [go_sem, vl_e, List.length_map, F_law05_turn]
  refine loop_rule (fun i : Nat => ⟨[(0, .sl 1 []), (2, .int .i64 0)], []⟩) (fun i => True) (fun i => 0) 0 trivial (Wk.of ?_ ?_) ?_
  · simp only [go_sem, vl_e, List.length_map]
  · trivial
  intro i _
  have c0 : ((0 : Nat) : Int) = 0 := rfl
  simp only [go_sem, vl_e, List.length_map, List.length_nil, c0, decide_eq_false (show ¬ (0 : Int) < 0 by decide)]
  exact pdone_n [] (by rfl) rfl
theorem w_turn (R : List Int) (n : Nat) (hn : n ≤ R.length) (hb : n < 1000000) : ACalls Tryd.prog n_law05_turn [.ms 1000 1 0 n] [(1000, ob_ R)] sb (fun r σ' => r = .tup [] ∧ σ' = [(1000, ob_ (trn n R))]) := by
  refine fun_sound (ic := F_law05_turn.body) mixed c_law05_turn rfl rfl ?_
  simp only [go_sem, vl_e, List.length_map, F_law05_turn, ob_e]
  refine loop_rule (fun i : Nat => ⟨[(0, .ms 1000 1 0 n), (2, .int .i64 i)], [(1000, ⟨33, 1, (trn i R).map vl_, false⟩)]⟩) (fun i => i ≤ n) (fun i => n - i) 0 (Nat.zero_le _) (Wk.of ?_ ?_) ?_
  · simp only [go_sem, vl_e, List.length_map]
    try simp
  · simp only [go_sem, vl_e, List.length_map]
    try rfl
  intro i hi
  replace hi : i ≤ n := hi
  by_cases h1 : (i : Int) < (n : Int)
  · have e8 := wi (n := (i : Int) + 1) (by omega) (by omega)
    have e0 : (i : Int).toNat = i := by simp
    simp only [go_sem, vl_e, List.length_map, decide_eq_true h1, stO_vl, e0]
    refine ⟨⟨by omega, h1⟩, by rw [trn_len]; omega, ⟨by omega, h1⟩, by rw [trn_len]; omega, klp_n (i + 1) (show i + 1 ≤ n by omega) (show n - (i + 1) < n - i by omega) (Wk.of ?_ ?_)⟩
    · simp only [go_sem, vl_e, List.length_map, e8]
      try simp
    · exact ⟨rfl, trivial⟩
  · obtain rfl : i = n := by omega
    simp only [go_sem, vl_e, List.length_map, decide_eq_false h1]
    exact done_n [] _ [(1000, ob_ (trn i R))] (by rfl) (by simp only [go_sem, vl_e, List.length_map]; rfl) rfl ⟨rfl, rfl⟩
/-! ### The law, by the four shapes of a signature -/
theorem coe_ms {h : Nat → Option AObj} {i n : Nat} {R : List Int} (hh : h i = some (ob_ R)) (hn : n ≤ R.length) : coe true h (.ms i 1 0 n) (.sl 1 ((R.take n).map vl_)) :=
  .inr (.inr ⟨rfl, i, 1, 0, n, ob_ R, rfl, hh, rfl, rfl, by simp [ob_]; omega, by simp [ob_, List.map_take]⟩)
theorem coe_all {h : Nat → Option AObj} {i : Nat} {R : List Int} (hh : h i = some (ob_ R)) : coe true h (.ms i 1 0 R.length) (.sl 1 (R.map vl_)) := by
  have := coe_ms hh (Nat.le_refl R.length)
  rwa [List.take_length] at this
theorem call_turn (i : Nat) {R : List Int} {n : Nat} {d : Option Nat} {s : St} {K : St → Prop} (hn : n ≤ R.length) (hb : n < 1000000) (hi : i < 1000) (h1 : hget s.heap i = some (ob_ R))
    (hk : K ((St.mk s.env ((i, ob_ (trn n R)) :: s.heap)).put d (.tup []))) : icall Tryd.prog n_law05_turn [.ms i 1 0 n] d s K := by
  have n1 : i ≠ 1000 := by omega
  have b1 : bw [(1000, i)] i = 1000 := by simp [bw, swp, n1]
  have f1 : fw [(1000, i)] 1000 = i := by simp [fw, swp, n1]
  refine call_obj (σ2 := [(i, ob_ R)]) (r3 := .tup []) (σ3 := [(i, ob_ (trn n R))]) (w_turn R n hn hb) [(1000, i)] [] ?_ ?_ rfl ?_ ?_ ?_ ?_ hk
  · simp only [List.map_cons, List.map_nil, renV, renG, renC, renP, b1]
  · simp only [renH, b1, ren_noneO _ _ (ob_ids _)]
  · simp only [renH, f1, ren_noneO _ _ (ob_ids _)]
  · intro p hp
    simp only [List.mem_cons, List.not_mem_nil, or_false] at hp
    subst hp; exact h1
  · intro p hp
    simp only [List.mem_cons, List.not_mem_nil, or_false] at hp
    subst hp
    exact .inl ⟨by rw [b1]; exact ⟨by decide, by decide⟩, by simp [hget]⟩
  · intro p hp
    simp only [List.mem_cons, List.not_mem_nil, or_false] at hp
    subst hp
    simp [hget]
theorem w_sigs00 (op : Int) (ok : Bool)
    (hs : ACalls Tryd.prog n_opcode_Sig [.int .i64 op] [] (fun _ => False) (fun r σ' => r = .tup [sgV (none, none), .bool ok] ∧ σ' = sgO (none, none)))
    (hr : ACalls Tryd.prog n_ref05_Sig [.int .i64 op] [] (fun _ => False) (fun r σ' => r = .tup [sgV (none, none), .bool ok] ∧ σ' = sgO (none, none))) : PCalls Tryd.prog n_law05_OpcodeSigs [.int .i64 op] (.bool true) := by
  refine pfun_sound (ic := F_law05_OpcodeSigs.body) mixed c_law05_OpcodeSigs rfl rfl ?_
  have tp := w_types5 [] [] (by decide)
  have tq := w_types5 [] [] (by decide)
  have t := beq_self_eq_true ok
  have t2 : (ok == ok) = true := t
  simp only [go_sem, vl_e, List.length_map, F_law05_OpcodeSigs]
  refine call_obj (σ2 := []) (r3 := .tup [.agg [.nl, .nl], .bool ok]) (σ3 := []) hs [] [] rfl rfl rfl rfl (fun p hp => by cases hp) (fun p hp => by cases hp) (fun p hp => by cases hp) ?_
  simp only [go_sem, vl_e, List.length_map, purEs_cons, purEs_nil, purHs_cons, purHs_nil, List.cons_append, List.nil_append, ob_e]
  refine call_obj (σ2 := []) (r3 := .tup [.agg [.nl, .nl], .bool ok]) (σ3 := []) hr [] [] rfl rfl rfl rfl (fun p hp => by cases hp) (fun p hp => by cases hp) (fun p hp => by cases hp) ?_
  simp only [go_sem, vl_e, List.length_map, purEs_cons, purEs_nil, purHs_cons, purHs_nil, List.cons_append, List.nil_append, ob_e]
  refine call_lend tp (by simp [go_sem, vl_e]) ⟨.inr (.inl ⟨rfl, 1, rfl⟩), .inr (.inl ⟨rfl, 1, rfl⟩), trivial⟩ rfl ?_
  simp only [go_sem, vl_e, List.length_map, Bool.not_true]
  refine call_lend tq (by simp [go_sem, vl_e]) ⟨.inr (.inl ⟨rfl, 1, rfl⟩), .inr (.inl ⟨rfl, 1, rfl⟩), trivial⟩ rfl ?_
  simp only [go_sem, vl_e, List.length_map, Bool.not_true, t, t2, bne_self_eq_false]
  refine call_nl [.sl 1 []] ⟨.inr (.inl ⟨rfl, 1, rfl⟩), trivial⟩ ?_
  refine call_same (w_turn0) (by simp [go_sem, vl_e, List.length_map]) ?_
  simp only [go_sem, vl_e, List.length_map]
  refine call_nl [.sl 1 []] ⟨.inr (.inl ⟨rfl, 1, rfl⟩), trivial⟩ ?_
  refine call_same (w_turn0) (by simp [go_sem, vl_e, List.length_map]) ?_
  simp only [go_sem, vl_e, List.length_map]
  refine call_obj (σ2 := []) (r3 := .tup [.agg [.nl, .nl], .bool ok]) (σ3 := []) hs [] [] rfl rfl rfl rfl (fun p hp => by cases hp) (fun p hp => by cases hp) (fun p hp => by cases hp) ?_
  simp only [go_sem, vl_e, List.length_map, purEs_cons, purEs_nil, purHs_cons, purHs_nil, List.cons_append, List.nil_append, ob_e]
  refine call_obj (σ2 := []) (r3 := .tup [.agg [.nl, .nl], .bool ok]) (σ3 := []) hr [] [] rfl rfl rfl rfl (fun p hp => by cases hp) (fun p hp => by cases hp) (fun p hp => by cases hp) ?_
  simp only [go_sem, vl_e, List.length_map, purEs_cons, purEs_nil, purHs_cons, purHs_nil, List.cons_append, List.nil_append, ob_e]
  refine call_lend tp (by simp [go_sem, vl_e]) ⟨.inr (.inl ⟨rfl, 1, rfl⟩), .inr (.inl ⟨rfl, 1, rfl⟩), trivial⟩ rfl ?_
  simp only [go_sem, vl_e, List.length_map]
  refine call_lend tq (by simp [go_sem, vl_e]) ⟨.inr (.inl ⟨rfl, 1, rfl⟩), .inr (.inl ⟨rfl, 1, rfl⟩), trivial⟩ rfl ?_
  simp only [go_sem, vl_e, List.length_map, t, t2]
  refine call_same (s_alive5) (by simp [go_sem, vl_e, List.length_map]) ?_
  simp only [go_sem, vl_e, List.length_map]
  exact pdone [] (by rfl) rfl
theorem w_sigs01 (op : Int) (ok : Bool) (L : List Int) (hL : L.length < 1000000)
    (hs : ACalls Tryd.prog n_opcode_Sig [.int .i64 op] [] (fun _ => False) (fun r σ' => r = .tup [sgV (none, (some L)), .bool ok] ∧ σ' = sgO (none, (some L))))
    (hr : ACalls Tryd.prog n_ref05_Sig [.int .i64 op] [] (fun _ => False) (fun r σ' => r = .tup [sgV (none, (some L)), .bool ok] ∧ σ' = sgO (none, (some L)))) : PCalls Tryd.prog n_law05_OpcodeSigs [.int .i64 op] (.bool true) := by
  refine pfun_sound (ic := F_law05_OpcodeSigs.body) mixed c_law05_OpcodeSigs rfl rfl ?_
  have tp := w_types5 [] [] (by decide)
  have tq := w_types5 L L hL
  rw [beq_self_eq_true L] at tq
  have t := beq_self_eq_true ok
  have t2 : (ok == ok) = true := t
  simp only [go_sem, vl_e, List.length_map, F_law05_OpcodeSigs]
  refine call_obj (σ2 := []) (r3 := .tup [.agg [.nl, .ms 912 1 0 L.length], .bool ok]) (σ3 := [(912, ob_ L)]) hs [(2, 912)] [912] rfl rfl rfl rfl (fun p hp => by cases hp) (fun p hp => by simp only [List.mem_cons, List.not_mem_nil, or_false] at hp; subst hp <;> exact .inr ⟨by simp, by simp, .inr (by rfl)⟩) (fun p hp => by cases hp) ?_
  simp only [go_sem, vl_e, List.length_map, purEs_cons, purEs_nil, purHs_cons, purHs_nil, List.cons_append, List.nil_append, ob_e]
  refine call_obj (σ2 := []) (r3 := .tup [.agg [.nl, .ms 922 1 0 L.length], .bool ok]) (σ3 := [(922, ob_ L)]) hr [(2, 922)] [922] rfl rfl rfl rfl (fun p hp => by cases hp) (fun p hp => by simp only [List.mem_cons, List.not_mem_nil, or_false] at hp; subst hp <;> exact .inr ⟨by simp, by simp, .inr (by rfl)⟩) (fun p hp => by cases hp) ?_
  simp only [go_sem, vl_e, List.length_map, purEs_cons, purEs_nil, purHs_cons, purHs_nil, List.cons_append, List.nil_append, ob_e]
  refine call_lend tp (by simp [go_sem, vl_e]) ⟨.inr (.inl ⟨rfl, 1, rfl⟩), .inr (.inl ⟨rfl, 1, rfl⟩), trivial⟩ rfl ?_
  simp only [go_sem, vl_e, List.length_map, Bool.not_true]
  refine call_lend tq (by simp [go_sem, vl_e]) ⟨coe_all rfl, coe_all rfl, trivial⟩ rfl ?_
  simp only [go_sem, vl_e, List.length_map, Bool.not_true, t, t2, bne_self_eq_false]
  refine call_nl [.sl 1 []] ⟨.inr (.inl ⟨rfl, 1, rfl⟩), trivial⟩ ?_
  refine call_same (w_turn0) (by simp [go_sem, vl_e, List.length_map]) ?_
  simp only [go_sem, vl_e, List.length_map]
  refine call_turn 912 (R := L) (Nat.le_refl _) (by omega) (by decide) (by rfl) ?_
  simp only [go_sem, vl_e, List.length_map, ob_e]
  refine call_obj (σ2 := []) (r3 := .tup [.agg [.nl, .ms 932 1 0 L.length], .bool ok]) (σ3 := [(932, ob_ L)]) hs [(2, 932)] [932] rfl rfl rfl rfl (fun p hp => by cases hp) (fun p hp => by simp only [List.mem_cons, List.not_mem_nil, or_false] at hp; subst hp <;> exact .inr ⟨by simp, by simp, .inr (by rfl)⟩) (fun p hp => by cases hp) ?_
  simp only [go_sem, vl_e, List.length_map, purEs_cons, purEs_nil, purHs_cons, purHs_nil, List.cons_append, List.nil_append, ob_e]
  refine call_obj (σ2 := []) (r3 := .tup [.agg [.nl, .ms 942 1 0 L.length], .bool ok]) (σ3 := [(942, ob_ L)]) hr [(2, 942)] [942] rfl rfl rfl rfl (fun p hp => by cases hp) (fun p hp => by simp only [List.mem_cons, List.not_mem_nil, or_false] at hp; subst hp <;> exact .inr ⟨by simp, by simp, .inr (by rfl)⟩) (fun p hp => by cases hp) ?_
  simp only [go_sem, vl_e, List.length_map, purEs_cons, purEs_nil, purHs_cons, purHs_nil, List.cons_append, List.nil_append, ob_e]
  refine call_lend tp (by simp [go_sem, vl_e]) ⟨.inr (.inl ⟨rfl, 1, rfl⟩), .inr (.inl ⟨rfl, 1, rfl⟩), trivial⟩ rfl ?_
  simp only [go_sem, vl_e, List.length_map]
  refine call_lend tq (by simp [go_sem, vl_e]) ⟨coe_all rfl, coe_all rfl, trivial⟩ rfl ?_
  simp only [go_sem, vl_e, List.length_map, t, t2]
  refine call_same (s_alive5) (by simp [go_sem, vl_e, List.length_map]) ?_
  simp only [go_sem, vl_e, List.length_map]
  exact pdone [] (by rfl) rfl
theorem w_sigs10 (op : Int) (ok : Bool) (n m : Nat) (Rn Rm : List Int) (hn : n ≤ Rn.length) (hm : m ≤ Rm.length) (hb : Rn.length < 1000000) (he : Rn.take n = Rm.take m)
    (hs : ACalls Tryd.prog n_opcode_Sig [.int .i64 op] [] (fun _ => False) (fun r σ' => r = .tup [sgV ((some (n, Rn)), none), .bool ok] ∧ σ' = sgO ((some (n, Rn)), none)))
    (hr : ACalls Tryd.prog n_ref05_Sig [.int .i64 op] [] (fun _ => False) (fun r σ' => r = .tup [sgV ((some (m, Rm)), none), .bool ok] ∧ σ' = sgO ((some (m, Rm)), none))) : PCalls Tryd.prog n_law05_OpcodeSigs [.int .i64 op] (.bool true) := by
  refine pfun_sound (ic := F_law05_OpcodeSigs.body) mixed c_law05_OpcodeSigs rfl rfl ?_
  have tp := w_types5 (Rn.take n) (Rm.take m) (by simp; omega)
  rw [show (Rn.take n == Rm.take m) = true from by rw [he]; exact beq_self_eq_true _] at tp
  have tq := w_types5 [] [] (by decide)
  have t := beq_self_eq_true ok
  have t2 : (ok == ok) = true := t
  simp only [go_sem, vl_e, List.length_map, F_law05_OpcodeSigs]
  refine call_obj (σ2 := []) (r3 := .tup [.agg [.ms 911 1 0 n, .nl], .bool ok]) (σ3 := [(911, ob_ Rn)]) hs [(1, 911)] [911] rfl rfl rfl rfl (fun p hp => by cases hp) (fun p hp => by simp only [List.mem_cons, List.not_mem_nil, or_false] at hp; subst hp <;> exact .inr ⟨by simp, by simp, .inr (by rfl)⟩) (fun p hp => by cases hp) ?_
  simp only [go_sem, vl_e, List.length_map, purEs_cons, purEs_nil, purHs_cons, purHs_nil, List.cons_append, List.nil_append, ob_e]
  refine call_obj (σ2 := []) (r3 := .tup [.agg [.ms 921 1 0 m, .nl], .bool ok]) (σ3 := [(921, ob_ Rm)]) hr [(1, 921)] [921] rfl rfl rfl rfl (fun p hp => by cases hp) (fun p hp => by simp only [List.mem_cons, List.not_mem_nil, or_false] at hp; subst hp <;> exact .inr ⟨by simp, by simp, .inr (by rfl)⟩) (fun p hp => by cases hp) ?_
  simp only [go_sem, vl_e, List.length_map, purEs_cons, purEs_nil, purHs_cons, purHs_nil, List.cons_append, List.nil_append, ob_e]
  refine call_lend tp (by simp [go_sem, vl_e]) ⟨coe_ms rfl hn, coe_ms rfl hm, trivial⟩ rfl ?_
  simp only [go_sem, vl_e, List.length_map, Bool.not_true]
  refine call_lend tq (by simp [go_sem, vl_e]) ⟨.inr (.inl ⟨rfl, 1, rfl⟩), .inr (.inl ⟨rfl, 1, rfl⟩), trivial⟩ rfl ?_
  simp only [go_sem, vl_e, List.length_map, Bool.not_true, t, t2, bne_self_eq_false]
  refine call_turn 911 (R := Rn) hn (by omega) (by decide) (by rfl) ?_
  simp only [go_sem, vl_e, List.length_map, ob_e]
  refine call_nl [.sl 1 []] ⟨.inr (.inl ⟨rfl, 1, rfl⟩), trivial⟩ ?_
  refine call_same (w_turn0) (by simp [go_sem, vl_e, List.length_map]) ?_
  simp only [go_sem, vl_e, List.length_map]
  refine call_obj (σ2 := []) (r3 := .tup [.agg [.ms 931 1 0 n, .nl], .bool ok]) (σ3 := [(931, ob_ Rn)]) hs [(1, 931)] [931] rfl rfl rfl rfl (fun p hp => by cases hp) (fun p hp => by simp only [List.mem_cons, List.not_mem_nil, or_false] at hp; subst hp <;> exact .inr ⟨by simp, by simp, .inr (by rfl)⟩) (fun p hp => by cases hp) ?_
  simp only [go_sem, vl_e, List.length_map, purEs_cons, purEs_nil, purHs_cons, purHs_nil, List.cons_append, List.nil_append, ob_e]
  refine call_obj (σ2 := []) (r3 := .tup [.agg [.ms 941 1 0 m, .nl], .bool ok]) (σ3 := [(941, ob_ Rm)]) hr [(1, 941)] [941] rfl rfl rfl rfl (fun p hp => by cases hp) (fun p hp => by simp only [List.mem_cons, List.not_mem_nil, or_false] at hp; subst hp <;> exact .inr ⟨by simp, by simp, .inr (by rfl)⟩) (fun p hp => by cases hp) ?_
  simp only [go_sem, vl_e, List.length_map, purEs_cons, purEs_nil, purHs_cons, purHs_nil, List.cons_append, List.nil_append, ob_e]
  refine call_lend tp (by simp [go_sem, vl_e]) ⟨coe_ms rfl hn, coe_ms rfl hm, trivial⟩ rfl ?_
  simp only [go_sem, vl_e, List.length_map]
  refine call_lend tq (by simp [go_sem, vl_e]) ⟨.inr (.inl ⟨rfl, 1, rfl⟩), .inr (.inl ⟨rfl, 1, rfl⟩), trivial⟩ rfl ?_
  simp only [go_sem, vl_e, List.length_map, t, t2]
  refine call_same (s_alive5) (by simp [go_sem, vl_e, List.length_map]) ?_
  simp only [go_sem, vl_e, List.length_map]
  exact pdone [] (by rfl) rfl
theorem w_sigs11 (op : Int) (ok : Bool) (n m : Nat) (Rn Rm : List Int) (hn : n ≤ Rn.length) (hm : m ≤ Rm.length) (hb : Rn.length < 1000000) (he : Rn.take n = Rm.take m) (L : List Int) (hL : L.length < 1000000)
    (hs : ACalls Tryd.prog n_opcode_Sig [.int .i64 op] [] (fun _ => False) (fun r σ' => r = .tup [sgV ((some (n, Rn)), (some L)), .bool ok] ∧ σ' = sgO ((some (n, Rn)), (some L))))
    (hr : ACalls Tryd.prog n_ref05_Sig [.int .i64 op] [] (fun _ => False) (fun r σ' => r = .tup [sgV ((some (m, Rm)), (some L)), .bool ok] ∧ σ' = sgO ((some (m, Rm)), (some L)))) : PCalls Tryd.prog n_law05_OpcodeSigs [.int .i64 op] (.bool true) := by
  refine pfun_sound (ic := F_law05_OpcodeSigs.body) mixed c_law05_OpcodeSigs rfl rfl ?_
  have tp := w_types5 (Rn.take n) (Rm.take m) (by simp; omega)
  rw [show (Rn.take n == Rm.take m) = true from by rw [he]; exact beq_self_eq_true _] at tp
  have tq := w_types5 L L hL
  rw [beq_self_eq_true L] at tq
  have t := beq_self_eq_true ok
  have t2 : (ok == ok) = true := t
  simp only [go_sem, vl_e, List.length_map, F_law05_OpcodeSigs]
  refine call_obj (σ2 := []) (r3 := .tup [.agg [.ms 911 1 0 n, .ms 912 1 0 L.length], .bool ok]) (σ3 := [(911, ob_ Rn), (912, ob_ L)]) hs [(1, 911), (2, 912)] [911, 912] rfl rfl rfl rfl (fun p hp => by cases hp) (fun p hp => by simp only [List.mem_cons, List.not_mem_nil, or_false] at hp; rcases hp with rfl | rfl <;> exact .inr ⟨by simp, by simp, .inr (by rfl)⟩) (fun p hp => by cases hp) ?_
  simp only [go_sem, vl_e, List.length_map, purEs_cons, purEs_nil, purHs_cons, purHs_nil, List.cons_append, List.nil_append, ob_e]
  refine call_obj (σ2 := []) (r3 := .tup [.agg [.ms 921 1 0 m, .ms 922 1 0 L.length], .bool ok]) (σ3 := [(921, ob_ Rm), (922, ob_ L)]) hr [(1, 921), (2, 922)] [921, 922] rfl rfl rfl rfl (fun p hp => by cases hp) (fun p hp => by simp only [List.mem_cons, List.not_mem_nil, or_false] at hp; rcases hp with rfl | rfl <;> exact .inr ⟨by simp, by simp, .inr (by rfl)⟩) (fun p hp => by cases hp) ?_
  simp only [go_sem, vl_e, List.length_map, purEs_cons, purEs_nil, purHs_cons, purHs_nil, List.cons_append, List.nil_append, ob_e]
  refine call_lend tp (by simp [go_sem, vl_e]) ⟨coe_ms rfl hn, coe_ms rfl hm, trivial⟩ rfl ?_
  simp only [go_sem, vl_e, List.length_map, Bool.not_true]
  refine call_lend tq (by simp [go_sem, vl_e]) ⟨coe_all rfl, coe_all rfl, trivial⟩ rfl ?_
  simp only [go_sem, vl_e, List.length_map, Bool.not_true, t, t2, bne_self_eq_false]
  refine call_turn 911 (R := Rn) hn (by omega) (by decide) (by rfl) ?_
  simp only [go_sem, vl_e, List.length_map, ob_e]
  refine call_turn 912 (R := L) (Nat.le_refl _) (by omega) (by decide) (by rfl) ?_
  simp only [go_sem, vl_e, List.length_map, ob_e]
  refine call_obj (σ2 := []) (r3 := .tup [.agg [.ms 931 1 0 n, .ms 932 1 0 L.length], .bool ok]) (σ3 := [(931, ob_ Rn), (932, ob_ L)]) hs [(1, 931), (2, 932)] [931, 932] rfl rfl rfl rfl (fun p hp => by cases hp) (fun p hp => by simp only [List.mem_cons, List.not_mem_nil, or_false] at hp; rcases hp with rfl | rfl <;> exact .inr ⟨by simp, by simp, .inr (by rfl)⟩) (fun p hp => by cases hp) ?_
  simp only [go_sem, vl_e, List.length_map, purEs_cons, purEs_nil, purHs_cons, purHs_nil, List.cons_append, List.nil_append, ob_e]
  refine call_obj (σ2 := []) (r3 := .tup [.agg [.ms 941 1 0 m, .ms 942 1 0 L.length], .bool ok]) (σ3 := [(941, ob_ Rm), (942, ob_ L)]) hr [(1, 941), (2, 942)] [941, 942] rfl rfl rfl rfl (fun p hp => by cases hp) (fun p hp => by simp only [List.mem_cons, List.not_mem_nil, or_false] at hp; rcases hp with rfl | rfl <;> exact .inr ⟨by simp, by simp, .inr (by rfl)⟩) (fun p hp => by cases hp) ?_
  simp only [go_sem, vl_e, List.length_map, purEs_cons, purEs_nil, purHs_cons, purHs_nil, List.cons_append, List.nil_append, ob_e]
  refine call_lend tp (by simp [go_sem, vl_e]) ⟨coe_ms rfl hn, coe_ms rfl hm, trivial⟩ rfl ?_
  simp only [go_sem, vl_e, List.length_map]
  refine call_lend tq (by simp [go_sem, vl_e]) ⟨coe_all rfl, coe_all rfl, trivial⟩ rfl ?_
  simp only [go_sem, vl_e, List.length_map, t, t2]
  refine call_same (s_alive5) (by simp [go_sem, vl_e, List.length_map]) ?_
  simp only [go_sem, vl_e, List.length_map]
  exact pdone [] (by rfl) rfl
end Go.Proofs.YtnhnghpnejobfaaDoor
set_option maxRecDepth 100000
set_option maxHeartbeats 8000000
set_option linter.unusedVariables false
set_option linter.unusedSimpArgs false
namespace Go.Proofs.YtnhnghpnejobfaaDoor
open Go Go.Mw

def eqD : SgD → SgD → Bool
  | (none, q), (none, q') => (q == q') && decide ((q.getD []).length < 1000000)
  | (some (n, R), q), (some (m, R'), q') => decide (n ≤ R.length) && (decide (m ≤ R'.length) && (decide (R.length < 1000000) && ((R.take n == R'.take m) && ((q == q') && decide ((q.getD []).length < 1000000)))))
  | _, _ => false
def eqS (op : Int) : Bool := ((sigD op).2 == (refD op).2) && eqD (sigD op).1 (refD op).1
theorem eq_no {op : Int} (h : rowOf op = none) : eqS op = true := by
  obtain ⟨h1, h2, h3⟩ := row_none h
  have hn : nameOf op = [] := by rw [row_name, h1]
  have hf : ∀ (T : List (Int × SgD)), T.all (fun p => (rowOf p.1).isSome) = true → T.find? (fun p => p.1 == op) = none := by
    intro T hT
    rw [List.find?_eq_none]
    intro p hp hq
    have := List.all_eq_true.1 hT p hp
    simp only [beq_iff_eq] at hq
    rw [hq, h] at this
    cases this
  have e1 : sigD op = ((none, none), false) := by
    rw [sigD, hf sdT (by decide +kernel), hn]
    rfl
  have hk : ∀ k : Fin 36, (rowOf ((k.val : Int) + 103)).isSome = true := by decide +kernel
  have hk2 : ∀ k : Fin 22, (rowOf ((k.val : Int) + 69)).isSome = true := by decide +kernel
  have r1 : ¬ (op ≥ 103 ∧ op ≤ 138) := fun hh => by
    have := hk ⟨(op - 103).toNat, by omega⟩
    rw [show (((op - 103).toNat : Nat) : Int) + 103 = op by omega, h] at this
    cases this
  have r2 : ¬ (op ≥ 69 ∧ op ≤ 90) := fun hh => by
    have := hk2 ⟨(op - 69).toNat, by omega⟩
    rw [show (((op - 69).toNat : Nat) : Int) + 69 = op by omega, h] at this
    cases this
  have e2 : refD op = ((none, none), false) := by
    rw [refD, hf rdT (by decide +kernel)]
    simp only
    rw [refN, h2, h1, if_neg (by decide), if_neg (by omega), if_neg (by omega), if_neg ?_, if_neg (by omega)]
    rintro (hh | hh | hh)
    · omega
    · omega
    · revert hh; decide
  rw [eqS, e1, e2]
  rfl
theorem eq_all (op : Int) : eqS op = true := by
  by_cases h : rowOf op = none
  · exact eq_no h
  · exact row_in (p := eqS) (by decide +kernel) h
theorem w_sigs (op : Int) : PCalls Tryd.prog n_law05_OpcodeSigs [.int .i64 op] (.bool true) := by
  have h := eq_all op
  have hs := n_sig op
  have hr := n_rsig op
  rw [eqS, Bool.and_eq_true, beq_iff_eq] at h
  obtain ⟨h1, h2⟩ := h
  rw [← h1] at hr
  generalize (sigD op).2 = ok at hs hr
  generalize (sigD op).1 = d at hs h2
  generalize (refD op).1 = e at hr h2
  obtain ⟨dp, dq⟩ := d
  obtain ⟨ep, eq⟩ := e
  cases dp with
  | none =>
    cases ep with
    | none =>
      simp only [eqD, Bool.and_eq_true, beq_iff_eq, decide_eq_true_eq] at h2
      obtain ⟨rfl, h4⟩ := h2
      cases dq with
      | none => exact w_sigs00 op ok hs hr
      | some L => exact w_sigs01 op ok L h4 hs hr
    | some x => obtain ⟨m, R'⟩ := x; simp only [eqD] at h2; cases h2
  | some x =>
    obtain ⟨n, R⟩ := x
    cases ep with
    | none => simp only [eqD] at h2; cases h2
    | some y =>
      obtain ⟨m, R'⟩ := y
      simp only [eqD, Bool.and_eq_true, beq_iff_eq, decide_eq_true_eq] at h2
      obtain ⟨g1, g2, g3, g4, rfl, h4⟩ := h2
      cases dq with
      | none => exact w_sigs10 op ok n m R R' g1 g2 g3 g4 hs hr
      | some L => exact w_sigs11 op ok n m R R' g1 g2 g3 g4 L h4 hs hr
end Go.Proofs.YtnhnghpnejobfaaDoor
