/-
  Chapter 5: signatures whose slices are new arrays.
-/
import Derived.Test.YtnhnghpnejobfaaDoorQo
set_option linter.unusedVariables false
set_option linter.unusedSimpArgs false
set_option linter.unusedSectionVars false
set_option maxRecDepth 100000
set_option maxHeartbeats 8000000
set_option linter.unusedVariables false
set_option linter.unusedSimpArgs false
namespace Go.Proofs.YtnhnghpnejobfaaDoor
open Go Go.Mw
-- @U: vl_e, List.length_map

/-! ### Functions that hand their two slices back in a struct -/
def ob_ (R : List Int) : AObj := ⟨33, 1, R.map vl_, false⟩
theorem ob_e (R : List Int) : ob_ R = ⟨33, 1, R.map vl_, false⟩ := rfl
theorem ob_ids (R : List Int) : idsO (ob_ R) = [] := rfl
def P2 (f : FuncId) : Prop := ∀ (R L : List Int) (n m : Nat), ACalls Tryd.prog f [.ms 1000 1 0 n, .ms 1001 1 0 m] [(1000, ob_ R), (1001, ob_ L)] sb (fun r σ' => r = .agg [.ms 1000 1 0 n, .ms 1001 1 0 m] ∧ σ' = [(1000, ob_ R), (1001, ob_ L)])
def P1 (f : FuncId) : Prop := ∀ (R : List Int) (n : Nat), ACalls Tryd.prog f [.ms 1000 1 0 n, .nl] [(1000, ob_ R)] sb (fun r σ' => r = .agg [.ms 1000 1 0 n, .nl] ∧ σ' = [(1000, ob_ R)])
def P0 (f : FuncId) : Prop := ∀ (R : List Int) (n : Nat), ACalls Tryd.prog f [.nl, .ms 1000 1 0 n] [(1000, ob_ R)] sb (fun r σ' => r = .agg [.nl, .ms 1000 1 0 n] ∧ σ' = [(1000, ob_ R)])
theorem o_of2 : P2 n_opcode_of := fun R L n m => by
  refine fun_sound (ic := F_opcode_of.body) mixed c_opcode_of rfl rfl ?_
  simp only [go_sem, vl_e, List.length_map, F_opcode_of]
  exact done [] _ [(1000, ob_ R), (1001, ob_ L)] (by rfl) (by simp only [go_sem, vl_e, List.length_map]; exact ⟨rfl, rfl⟩) rfl ⟨rfl, rfl⟩
theorem o_of1 : P1 n_opcode_of := fun R n => by
  refine fun_sound (ic := F_opcode_of.body) mixed c_opcode_of rfl rfl ?_
  simp only [go_sem, vl_e, List.length_map, F_opcode_of]
  exact done [] _ [(1000, ob_ R)] (by rfl) (by simp only [go_sem, vl_e, List.length_map]; rfl) rfl ⟨rfl, rfl⟩
theorem o_of0 : P0 n_opcode_of := fun R n => by
  refine fun_sound (ic := F_opcode_of.body) mixed c_opcode_of rfl rfl ?_
  simp only [go_sem, vl_e, List.length_map, F_opcode_of]
  exact done [] _ [(1000, ob_ R)] (by rfl) (by simp only [go_sem, vl_e, List.length_map]; rfl) rfl ⟨rfl, rfl⟩
theorem o_fn2 : P2 n_ref05_fn := fun R L n m => by
  refine fun_sound (ic := F_ref05_fn.body) mixed c_ref05_fn rfl rfl ?_
  simp only [go_sem, vl_e, List.length_map, F_ref05_fn]
  exact done [] _ [(1000, ob_ R), (1001, ob_ L)] (by rfl) (by simp only [go_sem, vl_e, List.length_map]; exact ⟨rfl, rfl⟩) rfl ⟨rfl, rfl⟩
theorem o_fn1 : P1 n_ref05_fn := fun R n => by
  refine fun_sound (ic := F_ref05_fn.body) mixed c_ref05_fn rfl rfl ?_
  simp only [go_sem, vl_e, List.length_map, F_ref05_fn]
  exact done [] _ [(1000, ob_ R)] (by rfl) (by simp only [go_sem, vl_e, List.length_map]; rfl) rfl ⟨rfl, rfl⟩
theorem o_fn0 : P0 n_ref05_fn := fun R n => by
  refine fun_sound (ic := F_ref05_fn.body) mixed c_ref05_fn rfl rfl ?_
  simp only [go_sem, vl_e, List.length_map, F_ref05_fn]
  exact done [] _ [(1000, ob_ R)] (by rfl) (by simp only [go_sem, vl_e, List.length_map]; rfl) rfl ⟨rfl, rfl⟩
theorem call_2 {f : FuncId} (h : P2 f) {R L : List Int} {n m i j : Nat} {d : Option Nat} {s : St} {K : St → Prop} (hij : i ≠ j) (hi : i < 1000) (hj : j < 1000) (h1 : hget s.heap i = some (ob_ R)) (h2 : hget s.heap j = some (ob_ L))
    (hk : K ((St.mk s.env ((i, ob_ R) :: (j, ob_ L) :: s.heap)).put d (.agg [.ms i 1 0 n, .ms j 1 0 m]))) : icall Tryd.prog f [.ms i 1 0 n, .ms j 1 0 m] d s K := by
  have n1 : i ≠ 1000 := by omega
  have n2 : i ≠ 1001 := by omega
  have n3 : j ≠ 1000 := by omega
  have n4 : j ≠ 1001 := by omega
  have b1 : bw [(1000, i), (1001, j)] i = 1000 := by simp [bw, swp, n1, n2, n3, n4, hij, hij.symm]
  have b2 : bw [(1000, i), (1001, j)] j = 1001 := by simp [bw, swp, n1, n2.symm, n3, n4, hij, hij.symm]
  have f1 : fw [(1000, i), (1001, j)] 1000 = i := by simp [fw, swp, n1, n2, n3, n4, hij, hij.symm]
  have f2 : fw [(1000, i), (1001, j)] 1001 = j := by simp [fw, swp, n1, n2, n2.symm, n3, n4, hij, hij.symm]
  refine call_obj (σ2 := [(i, ob_ R), (j, ob_ L)]) (r3 := .agg [.ms i 1 0 n, .ms j 1 0 m]) (σ3 := [(i, ob_ R), (j, ob_ L)]) (h R L n m) [(1000, i), (1001, j)] [] ?_ ?_ ?_ ?_ ?_ ?_ ?_ hk
  · simp only [List.map_cons, List.map_nil, renV, renG, renC, renP, b1, b2]
  · simp only [renH, b1, b2, ren_noneO _ _ (ob_ids _)]
  · simp only [renV, renG, List.map_cons, List.map_nil, renC, renP, f1, f2]
  · simp only [renH, f1, f2, ren_noneO _ _ (ob_ids _)]
  · intro p hp
    simp only [List.mem_cons, List.not_mem_nil, or_false] at hp
    rcases hp with rfl | rfl
    · exact h1
    · exact h2
  · intro p hp
    simp only [List.mem_cons, List.not_mem_nil, or_false] at hp
    rcases hp with rfl | rfl
    · exact .inl ⟨by rw [b1]; exact ⟨by decide, by decide⟩, by simp [hget]⟩
    · exact .inl ⟨by rw [b2]; exact ⟨by decide, by decide⟩, by simp [hget, hij]⟩
  · intro p hp
    simp only [List.mem_cons, List.not_mem_nil, or_false] at hp
    rcases hp with rfl | rfl
    · simp [hget]
    · simp [hget, hij]
theorem call_1 {f : FuncId} (h : P1 f) {R : List Int} {n i : Nat} {d : Option Nat} {s : St} {K : St → Prop} (hi : i < 1000) (h1 : hget s.heap i = some (ob_ R))
    (hk : K ((St.mk s.env ((i, ob_ R) :: s.heap)).put d (.agg [.ms i 1 0 n, .nl]))) : icall Tryd.prog f [.ms i 1 0 n, .nl] d s K := by
  have n1 : i ≠ 1000 := by omega
  have b1 : bw [(1000, i)] i = 1000 := by simp [bw, swp, n1]
  have f1 : fw [(1000, i)] 1000 = i := by simp [fw, swp, n1]
  refine call_obj (σ2 := [(i, ob_ R)]) (r3 := .agg [.ms i 1 0 n, .nl]) (σ3 := [(i, ob_ R)]) (h R n) [(1000, i)] [] ?_ ?_ ?_ ?_ ?_ ?_ ?_ hk
  · simp only [List.map_cons, List.map_nil, renV, renG, renC, renP, b1]
  · simp only [renH, b1, ren_noneO _ _ (ob_ids _)]
  · simp only [renV, renG, List.map_cons, List.map_nil, renC, renP, f1]
  · simp only [renH, f1, ren_noneO _ _ (ob_ids _)]
  · intro p hp
    simp only [List.mem_cons, List.not_mem_nil, or_false] at hp
    subst hp; exact h1
  · intro p hp
    simp only [List.mem_cons, List.not_mem_nil, or_false] at hp
    subst hp
    exact .inl ⟨by rw [b1]; exact ⟨by decide, by decide⟩, by simp [hget]⟩
  · intro p hp
    simp only [List.mem_cons, List.not_mem_nil, or_false] at hp
    subst hp
    simp [hget]
theorem call_0 {f : FuncId} (h : P0 f) {R : List Int} {n i : Nat} {d : Option Nat} {s : St} {K : St → Prop} (hi : i < 1000) (h1 : hget s.heap i = some (ob_ R))
    (hk : K ((St.mk s.env ((i, ob_ R) :: s.heap)).put d (.agg [.nl, .ms i 1 0 n]))) : icall Tryd.prog f [.nl, .ms i 1 0 n] d s K := by
  have n1 : i ≠ 1000 := by omega
  have b1 : bw [(1000, i)] i = 1000 := by simp [bw, swp, n1]
  have f1 : fw [(1000, i)] 1000 = i := by simp [fw, swp, n1]
  refine call_obj (σ2 := [(i, ob_ R)]) (r3 := .agg [.nl, .ms i 1 0 n]) (σ3 := [(i, ob_ R)]) (h R n) [(1000, i)] [] ?_ ?_ ?_ ?_ ?_ ?_ ?_ hk
  · simp only [List.map_cons, List.map_nil, renV, renG, renC, renP, b1]
  · simp only [renH, b1, ren_noneO _ _ (ob_ids _)]
  · simp only [renV, renG, List.map_cons, List.map_nil, renC, renP, f1]
  · simp only [renH, f1, ren_noneO _ _ (ob_ids _)]
  · intro p hp
    simp only [List.mem_cons, List.not_mem_nil, or_false] at hp
    subst hp; exact h1
  · intro p hp
    simp only [List.mem_cons, List.not_mem_nil, or_false] at hp
    subst hp
    exact .inl ⟨by rw [b1]; exact ⟨by decide, by decide⟩, by simp [hget]⟩
  · intro p hp
    simp only [List.mem_cons, List.not_mem_nil, or_false] at hp
    subst hp
    simp [hget]
/-- A result of new objects, under other names. -/
theorem canon {f : FuncId} {args : List AV} {Sb : Nat → Prop} {r1 r3 : AV} {σ1 σ3 : List (Nat × AObj)} (ps : List (Nat × Nat)) (h : ACalls Tryd.prog f args [] Sb (fun r σ' => r = r1 ∧ σ' = σ1)) (hargs : args.map (renV (bw ps)) = args)
    (hr : renV (fw ps) r1 = r3) (h3 : renH (fw ps) σ1 = σ3) : ACalls Tryd.prog f args [] (fun _ => False) (fun r σ' => r = r3 ∧ σ' = σ3) := by
  refine (h.ren (args2 := args) (σ2 := []) (fw ps) (bw ps) (bw_fw ps) (fw_bw ps) hargs rfl).mono (fun _ h => h.elim) ?_
  rintro r σ' ⟨r0, σ0, ⟨rfl, rfl⟩, rfl, rfl⟩
  exact ⟨hr, h3⟩
end Go.Proofs.YtnhnghpnejobfaaDoor
set_option maxRecDepth 100000
set_option maxHeartbeats 8000000
set_option linter.unusedVariables false
set_option linter.unusedSimpArgs false
namespace Go.Proofs.YtnhnghpnejobfaaDoor
open Go Go.Mw
-- @U: vl_e, List.length_map

abbrev SgD := Option (Nat × List Int) × Option (List Int)
def pV : Option (Nat × List Int) → AV
  | some x => .ms 1 1 0 x.1
  | none => .nl
def qV : Option (List Int) → AV
  | some L => .ms 2 1 0 L.length
  | none => .nl
def sgV (d : SgD) : AV := .agg [pV d.1, qV d.2]
def sgO (d : SgD) : List (Nat × AObj) := (match d.1 with | some x => [(1, ob_ x.2)] | none => []) ++ (match d.2 with | some L => [(2, ob_ L)] | none => [])
def sg2 (p q : List Int) : SgD := (some (p.length, p), some q)
def numD (op t : Int) (s : List UInt8) : SgD :=
  if hpf s [108, 111, 97, 100] = true then sg2 [1] [t] else
  if hpf s [115, 116, 111, 114, 101] = true then (some (2, [1, t]), none) else
  if (s == [101, 113, 122]) = true then sg2 [t] [1] else
  if op ≥ 70 ∧ op ≤ 90 then sg2 [t, t] [1] else
  if (s == [99, 108, 122]) = true then sg2 [t] [t] else
  if (s == [99, 116, 122]) = true then sg2 [t] [t] else
  if (s == [112, 111, 112, 99, 110, 116]) = true then sg2 [t] [t] else
  if hpf s [101, 120, 116, 101, 110, 100] = true then sg2 [t] [t] else sg2 [t, t] [t]
theorem n_number (op t : Int) (s : List UInt8) (hs : s.length < 1000000) : ACalls Tryd.prog n_opcode_number [.int .i64 op, .int .i64 t, .str s] [] (fun _ => False) (fun r σ' => r = sgV (numD op t s) ∧ σ' = sgO (numD op t s)) := by
  have b1 := s_hp s [108, 111, 97, 100] ⟨hs, by decide⟩
  have b2 := s_hp s [115, 116, 111, 114, 101] ⟨hs, by decide⟩
  have b3 := s_hp s [101, 120, 116, 101, 110, 100] ⟨hs, by decide⟩
  unfold numD
  cases q1 : hpf s [108, 111, 97, 100]
  case true =>
    rw [if_pos rfl]
    rw [q1] at b1
    refine canon (Sb := sb) (r1 := .agg [.ms 10 1 0 1, .ms 12 1 0 1]) (σ1 := [(10, ob_ [1]), (12, ob_ [t])]) [(10, 1), (12, 2)] ?_ rfl rfl rfl
    refine fun_sound (ic := F_opcode_number.body) mixed c_opcode_number rfl rfl ?_
    simp only [go_sem, vl_e, List.length_map, F_opcode_number]
    refine call_same (b1) (by simp [go_sem, vl_e, List.length_map]) ?_
    simp only [go_sem, vl_e, List.length_map]
    refine call_2 (R := [1]) (L := [t]) o_of2 (by decide) (by decide) (by decide) (by rfl) (by rfl) ?_
    simp only [go_sem, vl_e, List.length_map]
    exact done [] _ [(10, ob_ [1]), (12, ob_ [t])] (by rfl) (by simp only [go_sem, vl_e, List.length_map]) rfl ⟨rfl, rfl⟩
  rw [if_neg (by decide)]
  rw [q1] at b1
  cases q2 : hpf s [115, 116, 111, 114, 101]
  case true =>
    rw [if_pos rfl]
    rw [q2] at b2
    refine canon (Sb := sb) (r1 := .agg [.ms 18 1 0 2, .nl]) (σ1 := [(18, ob_ [1, t])]) [(18, 1)] ?_ rfl rfl rfl
    refine fun_sound (ic := F_opcode_number.body) mixed c_opcode_number rfl rfl ?_
    simp only [go_sem, vl_e, List.length_map, F_opcode_number]
    refine call_same (b1) (by simp [go_sem, vl_e, List.length_map]) ?_
    simp only [go_sem, vl_e, List.length_map]
    refine call_same (b2) (by simp [go_sem, vl_e, List.length_map]) ?_
    simp only [go_sem, vl_e, List.length_map]
    refine call_1 (R := [1, t]) o_of1 (by decide) (by rfl) ?_
    simp only [go_sem, vl_e, List.length_map]
    exact done [] _ [(18, ob_ [1, t])] (by rfl) (by simp only [go_sem, vl_e, List.length_map]) rfl ⟨rfl, rfl⟩
  rw [if_neg (by decide)]
  rw [q2] at b2
  cases q3 : s == [101, 113, 122]
  case true =>
    rw [if_pos rfl]
    refine canon (Sb := sb) (r1 := .agg [.ms 24 1 0 1, .ms 25 1 0 1]) (σ1 := [(24, ob_ [t]), (25, ob_ [1])]) [(24, 1), (25, 2)] ?_ rfl rfl rfl
    refine fun_sound (ic := F_opcode_number.body) mixed c_opcode_number rfl rfl ?_
    simp only [go_sem, vl_e, List.length_map, F_opcode_number]
    refine call_same (b1) (by simp [go_sem, vl_e, List.length_map]) ?_
    simp only [go_sem, vl_e, List.length_map]
    refine call_same (b2) (by simp [go_sem, vl_e, List.length_map]) ?_
    simp only [go_sem, vl_e, List.length_map, q3]
    refine call_2 (R := [t]) (L := [1]) o_of2 (by decide) (by decide) (by decide) (by rfl) (by rfl) ?_
    simp only [go_sem, vl_e, List.length_map]
    exact done [] _ [(24, ob_ [t]), (25, ob_ [1])] (by rfl) (by simp only [go_sem, vl_e, List.length_map]) rfl ⟨rfl, rfl⟩
  rw [if_neg (by decide)]
  by_cases q4 : op ≥ 70 ∧ op ≤ 90
  · rw [if_pos q4]
    refine canon (Sb := sb) (r1 := .agg [.ms 36 1 0 2, .ms 37 1 0 1]) (σ1 := [(36, ob_ [t, t]), (37, ob_ [1])]) [(36, 1), (37, 2)] ?_ rfl rfl rfl
    refine fun_sound (ic := F_opcode_number.body) mixed c_opcode_number rfl rfl ?_
    simp only [go_sem, vl_e, List.length_map, F_opcode_number]
    refine call_same (b1) (by simp [go_sem, vl_e, List.length_map]) ?_
    simp only [go_sem, vl_e, List.length_map]
    refine call_same (b2) (by simp [go_sem, vl_e, List.length_map]) ?_
    simp only [go_sem, vl_e, List.length_map, q3, decide_eq_true q4.1, decide_eq_true q4.2]
    refine call_2 (R := [t, t]) (L := [1]) o_of2 (by decide) (by decide) (by decide) (by rfl) (by rfl) ?_
    simp only [go_sem, vl_e, List.length_map]
    exact done [] _ [(36, ob_ [t, t]), (37, ob_ [1])] (by rfl) (by simp only [go_sem, vl_e, List.length_map]) rfl ⟨rfl, rfl⟩
  rw [if_neg q4]
  by_cases q5 : op ≥ 70
  · have q6 : ¬ op ≤ 90 := fun h => q4 ⟨q5, h⟩
    cases q7 : s == [99, 108, 122]
    case true =>
      rw [if_pos rfl]
      refine canon (Sb := sb) (r1 := .agg [.ms 55 1 0 1, .ms 57 1 0 1]) (σ1 := [(55, ob_ [t]), (57, ob_ [t])]) [(55, 1), (57, 2)] ?_ rfl rfl rfl
      refine fun_sound (ic := F_opcode_number.body) mixed c_opcode_number rfl rfl ?_
      simp only [go_sem, vl_e, List.length_map, F_opcode_number]
      refine call_same (b1) (by simp [go_sem, vl_e, List.length_map]) ?_
      simp only [go_sem, vl_e, List.length_map]
      refine call_same (b2) (by simp [go_sem, vl_e, List.length_map]) ?_
      simp only [go_sem, vl_e, List.length_map, q3, decide_eq_true q5, decide_eq_false q6, q7]
      refine call_2 (R := [t]) (L := [t]) o_of2 (by decide) (by decide) (by decide) (by rfl) (by rfl) ?_
      simp only [go_sem, vl_e, List.length_map]
      exact done [] _ [(55, ob_ [t]), (57, ob_ [t])] (by rfl) (by simp only [go_sem, vl_e, List.length_map]) rfl ⟨rfl, rfl⟩
    rw [if_neg (by decide)]
    cases q8 : s == [99, 116, 122]
    case true =>
      rw [if_pos rfl]
      refine canon (Sb := sb) (r1 := .agg [.ms 55 1 0 1, .ms 57 1 0 1]) (σ1 := [(55, ob_ [t]), (57, ob_ [t])]) [(55, 1), (57, 2)] ?_ rfl rfl rfl
      refine fun_sound (ic := F_opcode_number.body) mixed c_opcode_number rfl rfl ?_
      simp only [go_sem, vl_e, List.length_map, F_opcode_number]
      refine call_same (b1) (by simp [go_sem, vl_e, List.length_map]) ?_
      simp only [go_sem, vl_e, List.length_map]
      refine call_same (b2) (by simp [go_sem, vl_e, List.length_map]) ?_
      simp only [go_sem, vl_e, List.length_map, q3, decide_eq_true q5, decide_eq_false q6, q7, q8]
      refine call_2 (R := [t]) (L := [t]) o_of2 (by decide) (by decide) (by decide) (by rfl) (by rfl) ?_
      simp only [go_sem, vl_e, List.length_map]
      exact done [] _ [(55, ob_ [t]), (57, ob_ [t])] (by rfl) (by simp only [go_sem, vl_e, List.length_map]) rfl ⟨rfl, rfl⟩
    rw [if_neg (by decide)]
    cases q9 : s == [112, 111, 112, 99, 110, 116]
    case true =>
      rw [if_pos rfl]
      refine canon (Sb := sb) (r1 := .agg [.ms 55 1 0 1, .ms 57 1 0 1]) (σ1 := [(55, ob_ [t]), (57, ob_ [t])]) [(55, 1), (57, 2)] ?_ rfl rfl rfl
      refine fun_sound (ic := F_opcode_number.body) mixed c_opcode_number rfl rfl ?_
      simp only [go_sem, vl_e, List.length_map, F_opcode_number]
      refine call_same (b1) (by simp [go_sem, vl_e, List.length_map]) ?_
      simp only [go_sem, vl_e, List.length_map]
      refine call_same (b2) (by simp [go_sem, vl_e, List.length_map]) ?_
      simp only [go_sem, vl_e, List.length_map, q3, decide_eq_true q5, decide_eq_false q6, q7, q8, q9]
      refine call_2 (R := [t]) (L := [t]) o_of2 (by decide) (by decide) (by decide) (by rfl) (by rfl) ?_
      simp only [go_sem, vl_e, List.length_map]
      exact done [] _ [(55, ob_ [t]), (57, ob_ [t])] (by rfl) (by simp only [go_sem, vl_e, List.length_map]) rfl ⟨rfl, rfl⟩
    rw [if_neg (by decide)]
    cases q10 : hpf s [101, 120, 116, 101, 110, 100]
    case true =>
      rw [if_pos rfl]
      rw [q10] at b3
      refine canon (Sb := sb) (r1 := .agg [.ms 55 1 0 1, .ms 57 1 0 1]) (σ1 := [(55, ob_ [t]), (57, ob_ [t])]) [(55, 1), (57, 2)] ?_ rfl rfl rfl
      refine fun_sound (ic := F_opcode_number.body) mixed c_opcode_number rfl rfl ?_
      simp only [go_sem, vl_e, List.length_map, F_opcode_number]
      refine call_same (b1) (by simp [go_sem, vl_e, List.length_map]) ?_
      simp only [go_sem, vl_e, List.length_map]
      refine call_same (b2) (by simp [go_sem, vl_e, List.length_map]) ?_
      simp only [go_sem, vl_e, List.length_map, q3, decide_eq_true q5, decide_eq_false q6, q7, q8, q9]
      refine call_same (b3) (by simp [go_sem, vl_e, List.length_map]) ?_
      simp only [go_sem, vl_e, List.length_map]
      refine call_2 (R := [t]) (L := [t]) o_of2 (by decide) (by decide) (by decide) (by rfl) (by rfl) ?_
      simp only [go_sem, vl_e, List.length_map]
      exact done [] _ [(55, ob_ [t]), (57, ob_ [t])] (by rfl) (by simp only [go_sem, vl_e, List.length_map]) rfl ⟨rfl, rfl⟩
    rw [if_neg (by decide)]
    rw [q10] at b3
    refine canon (Sb := sb) (r1 := .agg [.ms 61 1 0 2, .ms 63 1 0 1]) (σ1 := [(61, ob_ [t, t]), (63, ob_ [t])]) [(61, 1), (63, 2)] ?_ rfl rfl rfl
    refine fun_sound (ic := F_opcode_number.body) mixed c_opcode_number rfl rfl ?_
    simp only [go_sem, vl_e, List.length_map, F_opcode_number]
    refine call_same (b1) (by simp [go_sem, vl_e, List.length_map]) ?_
    simp only [go_sem, vl_e, List.length_map]
    refine call_same (b2) (by simp [go_sem, vl_e, List.length_map]) ?_
    simp only [go_sem, vl_e, List.length_map, q3, decide_eq_true q5, decide_eq_false q6, q7, q8, q9]
    refine call_same (b3) (by simp [go_sem, vl_e, List.length_map]) ?_
    simp only [go_sem, vl_e, List.length_map]
    refine call_2 (R := [t, t]) (L := [t]) o_of2 (by decide) (by decide) (by decide) (by rfl) (by rfl) ?_
    simp only [go_sem, vl_e, List.length_map]
    exact done [] _ [(61, ob_ [t, t]), (63, ob_ [t])] (by rfl) (by simp only [go_sem, vl_e, List.length_map]) rfl ⟨rfl, rfl⟩
  · cases q7 : s == [99, 108, 122]
    case true =>
      rw [if_pos rfl]
      refine canon (Sb := sb) (r1 := .agg [.ms 55 1 0 1, .ms 57 1 0 1]) (σ1 := [(55, ob_ [t]), (57, ob_ [t])]) [(55, 1), (57, 2)] ?_ rfl rfl rfl
      refine fun_sound (ic := F_opcode_number.body) mixed c_opcode_number rfl rfl ?_
      simp only [go_sem, vl_e, List.length_map, F_opcode_number]
      refine call_same (b1) (by simp [go_sem, vl_e, List.length_map]) ?_
      simp only [go_sem, vl_e, List.length_map]
      refine call_same (b2) (by simp [go_sem, vl_e, List.length_map]) ?_
      simp only [go_sem, vl_e, List.length_map, q3, decide_eq_false q5, q7]
      refine call_2 (R := [t]) (L := [t]) o_of2 (by decide) (by decide) (by decide) (by rfl) (by rfl) ?_
      simp only [go_sem, vl_e, List.length_map]
      exact done [] _ [(55, ob_ [t]), (57, ob_ [t])] (by rfl) (by simp only [go_sem, vl_e, List.length_map]) rfl ⟨rfl, rfl⟩
    rw [if_neg (by decide)]
    cases q8 : s == [99, 116, 122]
    case true =>
      rw [if_pos rfl]
      refine canon (Sb := sb) (r1 := .agg [.ms 55 1 0 1, .ms 57 1 0 1]) (σ1 := [(55, ob_ [t]), (57, ob_ [t])]) [(55, 1), (57, 2)] ?_ rfl rfl rfl
      refine fun_sound (ic := F_opcode_number.body) mixed c_opcode_number rfl rfl ?_
      simp only [go_sem, vl_e, List.length_map, F_opcode_number]
      refine call_same (b1) (by simp [go_sem, vl_e, List.length_map]) ?_
      simp only [go_sem, vl_e, List.length_map]
      refine call_same (b2) (by simp [go_sem, vl_e, List.length_map]) ?_
      simp only [go_sem, vl_e, List.length_map, q3, decide_eq_false q5, q7, q8]
      refine call_2 (R := [t]) (L := [t]) o_of2 (by decide) (by decide) (by decide) (by rfl) (by rfl) ?_
      simp only [go_sem, vl_e, List.length_map]
      exact done [] _ [(55, ob_ [t]), (57, ob_ [t])] (by rfl) (by simp only [go_sem, vl_e, List.length_map]) rfl ⟨rfl, rfl⟩
    rw [if_neg (by decide)]
    cases q9 : s == [112, 111, 112, 99, 110, 116]
    case true =>
      rw [if_pos rfl]
      refine canon (Sb := sb) (r1 := .agg [.ms 55 1 0 1, .ms 57 1 0 1]) (σ1 := [(55, ob_ [t]), (57, ob_ [t])]) [(55, 1), (57, 2)] ?_ rfl rfl rfl
      refine fun_sound (ic := F_opcode_number.body) mixed c_opcode_number rfl rfl ?_
      simp only [go_sem, vl_e, List.length_map, F_opcode_number]
      refine call_same (b1) (by simp [go_sem, vl_e, List.length_map]) ?_
      simp only [go_sem, vl_e, List.length_map]
      refine call_same (b2) (by simp [go_sem, vl_e, List.length_map]) ?_
      simp only [go_sem, vl_e, List.length_map, q3, decide_eq_false q5, q7, q8, q9]
      refine call_2 (R := [t]) (L := [t]) o_of2 (by decide) (by decide) (by decide) (by rfl) (by rfl) ?_
      simp only [go_sem, vl_e, List.length_map]
      exact done [] _ [(55, ob_ [t]), (57, ob_ [t])] (by rfl) (by simp only [go_sem, vl_e, List.length_map]) rfl ⟨rfl, rfl⟩
    rw [if_neg (by decide)]
    cases q10 : hpf s [101, 120, 116, 101, 110, 100]
    case true =>
      rw [if_pos rfl]
      rw [q10] at b3
      refine canon (Sb := sb) (r1 := .agg [.ms 55 1 0 1, .ms 57 1 0 1]) (σ1 := [(55, ob_ [t]), (57, ob_ [t])]) [(55, 1), (57, 2)] ?_ rfl rfl rfl
      refine fun_sound (ic := F_opcode_number.body) mixed c_opcode_number rfl rfl ?_
      simp only [go_sem, vl_e, List.length_map, F_opcode_number]
      refine call_same (b1) (by simp [go_sem, vl_e, List.length_map]) ?_
      simp only [go_sem, vl_e, List.length_map]
      refine call_same (b2) (by simp [go_sem, vl_e, List.length_map]) ?_
      simp only [go_sem, vl_e, List.length_map, q3, decide_eq_false q5, q7, q8, q9]
      refine call_same (b3) (by simp [go_sem, vl_e, List.length_map]) ?_
      simp only [go_sem, vl_e, List.length_map]
      refine call_2 (R := [t]) (L := [t]) o_of2 (by decide) (by decide) (by decide) (by rfl) (by rfl) ?_
      simp only [go_sem, vl_e, List.length_map]
      exact done [] _ [(55, ob_ [t]), (57, ob_ [t])] (by rfl) (by simp only [go_sem, vl_e, List.length_map]) rfl ⟨rfl, rfl⟩
    rw [if_neg (by decide)]
    rw [q10] at b3
    refine canon (Sb := sb) (r1 := .agg [.ms 61 1 0 2, .ms 63 1 0 1]) (σ1 := [(61, ob_ [t, t]), (63, ob_ [t])]) [(61, 1), (63, 2)] ?_ rfl rfl rfl
    refine fun_sound (ic := F_opcode_number.body) mixed c_opcode_number rfl rfl ?_
    simp only [go_sem, vl_e, List.length_map, F_opcode_number]
    refine call_same (b1) (by simp [go_sem, vl_e, List.length_map]) ?_
    simp only [go_sem, vl_e, List.length_map]
    refine call_same (b2) (by simp [go_sem, vl_e, List.length_map]) ?_
    simp only [go_sem, vl_e, List.length_map, q3, decide_eq_false q5, q7, q8, q9]
    refine call_same (b3) (by simp [go_sem, vl_e, List.length_map]) ?_
    simp only [go_sem, vl_e, List.length_map]
    refine call_2 (R := [t, t]) (L := [t]) o_of2 (by decide) (by decide) (by decide) (by rfl) (by rfl) ?_
    simp only [go_sem, vl_e, List.length_map]
    exact done [] _ [(61, ob_ [t, t]), (63, ob_ [t])] (by rfl) (by simp only [go_sem, vl_e, List.length_map]) rfl ⟨rfl, rfl⟩
end Go.Proofs.YtnhnghpnejobfaaDoor
set_option maxRecDepth 100000
set_option maxHeartbeats 8000000
set_option linter.unusedVariables false
set_option linter.unusedSimpArgs false
namespace Go.Proofs.YtnhnghpnejobfaaDoor
open Go Go.Mw
-- @U: vl_e, List.length_map

def sdT : List (Int × SgD) := [(1, none, none), (64525, none, none), (64521, none, none), (65, none, some [1]), (63, none, some [1]), (64528, none, some [1]), (66, none, some [2]), (210, none, some [3]), (64, some (1, [1, 1, 1]), some [1]), (64523, some (3, [1, 1, 1]), none), (64522, some (3, [1, 1, 1]), none), (64520, some (3, [1, 1, 1]), none), (64526, some (3, [1, 1, 1]), none), (64524, some (3, [1, 1, 1]), none), (167, some (1, [2]), some [1]), (172, some (1, [1, 1, 1]), some [2]), (173, some (1, [1, 1, 1]), some [2])]
def tyN (s : List UInt8) : Int := if hpf s [105, 54, 52] = true then 2 else 1
def sigD (op : Int) : SgD × Bool := match sdT.find? (fun p => p.1 == op) with
  | some p => (p.2, true)
  | none => if (hpf (nameOf op) [105, 51, 50, 46] || hpf (nameOf op) [105, 54, 52, 46]) = true then (numD op (tyN (nameOf op)) ((nameOf op).drop 4), true) else ((none, none), false)
theorem numD_cases (op t : Int) (s : List UInt8) : ∃ n R q, numD op t s = (some (n, R), q) := by
  unfold numD sg2
  repeat' split
  all_goals exact ⟨_, _, _, rfl⟩
theorem n_sig (op : Int) : ACalls Tryd.prog n_opcode_Sig [.int .i64 op] [] (fun _ => False) (fun r σ' => r = .tup [sgV (sigD op).1, .bool (sigD op).2] ∧ σ' = sgO (sigD op).1) := by
  by_cases h0 : op = 1
  · subst h0
    have r : sigD 1 = ((none, none), true) := rfl
    rw [r]
    refine canon (Sb := sb) (r1 := .tup [.agg [.nl, .nl], .bool true]) (σ1 := []) [] ?_ rfl rfl rfl
    refine fun_sound (ic := F_opcode_Sig.body) mixed c_opcode_Sig rfl rfl ?_
    simp only [go_sem, vl_e, List.length_map, F_opcode_Sig]
    exact done [] _ [] (by rfl) (by first | trivial | simp only [go_sem, vl_e, List.length_map]) rfl ⟨rfl, rfl⟩
  by_cases h1 : op = 64525
  · subst h1
    have r : sigD 64525 = ((none, none), true) := rfl
    rw [r]
    refine canon (Sb := sb) (r1 := .tup [.agg [.nl, .nl], .bool true]) (σ1 := []) [] ?_ rfl rfl rfl
    refine fun_sound (ic := F_opcode_Sig.body) mixed c_opcode_Sig rfl rfl ?_
    simp only [go_sem, vl_e, List.length_map, F_opcode_Sig]
    exact done [] _ [] (by rfl) (by first | trivial | simp only [go_sem, vl_e, List.length_map]) rfl ⟨rfl, rfl⟩
  by_cases h2 : op = 64521
  · subst h2
    have r : sigD 64521 = ((none, none), true) := rfl
    rw [r]
    refine canon (Sb := sb) (r1 := .tup [.agg [.nl, .nl], .bool true]) (σ1 := []) [] ?_ rfl rfl rfl
    refine fun_sound (ic := F_opcode_Sig.body) mixed c_opcode_Sig rfl rfl ?_
    simp only [go_sem, vl_e, List.length_map, F_opcode_Sig]
    exact done [] _ [] (by rfl) (by first | trivial | simp only [go_sem, vl_e, List.length_map]) rfl ⟨rfl, rfl⟩
  by_cases h3 : op = 65
  · subst h3
    have r : sigD 65 = ((none, some [1]), true) := rfl
    rw [r]
    refine canon (Sb := sb) (r1 := .tup [.agg [.nl, .ms 17 1 0 1], .bool true]) (σ1 := [(17, ob_ [1])]) [(17, 2)] ?_ rfl rfl rfl
    refine fun_sound (ic := F_opcode_Sig.body) mixed c_opcode_Sig rfl rfl ?_
    simp only [go_sem, vl_e, List.length_map, F_opcode_Sig]
    refine call_0 (R := [1]) o_of0 (by decide) (by rfl) ?_
    simp only [go_sem, vl_e, List.length_map]
    exact done [] _ [(17, ob_ [1])] (by rfl) (by first | trivial | simp only [go_sem, vl_e, List.length_map]) rfl ⟨rfl, rfl⟩
  by_cases h4 : op = 63
  · subst h4
    have r : sigD 63 = ((none, some [1]), true) := rfl
    rw [r]
    refine canon (Sb := sb) (r1 := .tup [.agg [.nl, .ms 17 1 0 1], .bool true]) (σ1 := [(17, ob_ [1])]) [(17, 2)] ?_ rfl rfl rfl
    refine fun_sound (ic := F_opcode_Sig.body) mixed c_opcode_Sig rfl rfl ?_
    simp only [go_sem, vl_e, List.length_map, F_opcode_Sig]
    refine call_0 (R := [1]) o_of0 (by decide) (by rfl) ?_
    simp only [go_sem, vl_e, List.length_map]
    exact done [] _ [(17, ob_ [1])] (by rfl) (by first | trivial | simp only [go_sem, vl_e, List.length_map]) rfl ⟨rfl, rfl⟩
  by_cases h5 : op = 64528
  · subst h5
    have r : sigD 64528 = ((none, some [1]), true) := rfl
    rw [r]
    refine canon (Sb := sb) (r1 := .tup [.agg [.nl, .ms 17 1 0 1], .bool true]) (σ1 := [(17, ob_ [1])]) [(17, 2)] ?_ rfl rfl rfl
    refine fun_sound (ic := F_opcode_Sig.body) mixed c_opcode_Sig rfl rfl ?_
    simp only [go_sem, vl_e, List.length_map, F_opcode_Sig]
    refine call_0 (R := [1]) o_of0 (by decide) (by rfl) ?_
    simp only [go_sem, vl_e, List.length_map]
    exact done [] _ [(17, ob_ [1])] (by rfl) (by first | trivial | simp only [go_sem, vl_e, List.length_map]) rfl ⟨rfl, rfl⟩
  by_cases h6 : op = 66
  · subst h6
    have r : sigD 66 = ((none, some [2]), true) := rfl
    rw [r]
    refine canon (Sb := sb) (r1 := .tup [.agg [.nl, .ms 21 1 0 1], .bool true]) (σ1 := [(21, ob_ [2])]) [(21, 2)] ?_ rfl rfl rfl
    refine fun_sound (ic := F_opcode_Sig.body) mixed c_opcode_Sig rfl rfl ?_
    simp only [go_sem, vl_e, List.length_map, F_opcode_Sig]
    refine call_0 (R := [2]) o_of0 (by decide) (by rfl) ?_
    simp only [go_sem, vl_e, List.length_map]
    exact done [] _ [(21, ob_ [2])] (by rfl) (by first | trivial | simp only [go_sem, vl_e, List.length_map]) rfl ⟨rfl, rfl⟩
  by_cases h7 : op = 210
  · subst h7
    have r : sigD 210 = ((none, some [3]), true) := rfl
    rw [r]
    refine canon (Sb := sb) (r1 := .tup [.agg [.nl, .ms 25 1 0 1], .bool true]) (σ1 := [(25, ob_ [3])]) [(25, 2)] ?_ rfl rfl rfl
    refine fun_sound (ic := F_opcode_Sig.body) mixed c_opcode_Sig rfl rfl ?_
    simp only [go_sem, vl_e, List.length_map, F_opcode_Sig]
    refine call_0 (R := [3]) o_of0 (by decide) (by rfl) ?_
    simp only [go_sem, vl_e, List.length_map]
    exact done [] _ [(25, ob_ [3])] (by rfl) (by first | trivial | simp only [go_sem, vl_e, List.length_map]) rfl ⟨rfl, rfl⟩
  by_cases h8 : op = 64
  · subst h8
    have r : sigD 64 = ((some (1, [1, 1, 1]), some [1]), true) := rfl
    rw [r]
    refine canon (Sb := sb) (r1 := .tup [.agg [.ms 6 1 0 1, .ms 31 1 0 1], .bool true]) (σ1 := [(6, ob_ [1, 1, 1]), (31, ob_ [1])]) [(6, 1), (31, 2)] ?_ rfl rfl rfl
    refine fun_sound (ic := F_opcode_Sig.body) mixed c_opcode_Sig rfl rfl ?_
    simp only [go_sem, vl_e, List.length_map, F_opcode_Sig]
    refine ⟨⟨by decide, by decide⟩, ?_⟩
    refine call_2 (R := [1, 1, 1]) (L := [1]) o_of2 (by decide) (by decide) (by decide) (by rfl) (by rfl) ?_
    simp only [go_sem, vl_e, List.length_map]
    exact done [] _ [(6, ob_ [1, 1, 1]), (31, ob_ [1])] (by rfl) (by first | trivial | simp only [go_sem, vl_e, List.length_map]) rfl ⟨rfl, rfl⟩
  by_cases h9 : op = 64523
  · subst h9
    have r : sigD 64523 = ((some (3, [1, 1, 1]), none), true) := rfl
    rw [r]
    refine canon (Sb := sb) (r1 := .tup [.agg [.ms 6 1 0 3, .nl], .bool true]) (σ1 := [(6, ob_ [1, 1, 1])]) [(6, 1)] ?_ rfl rfl rfl
    refine fun_sound (ic := F_opcode_Sig.body) mixed c_opcode_Sig rfl rfl ?_
    simp only [go_sem, vl_e, List.length_map, F_opcode_Sig]
    refine call_1 (R := [1, 1, 1]) o_of1 (by decide) (by rfl) ?_
    simp only [go_sem, vl_e, List.length_map]
    exact done [] _ [(6, ob_ [1, 1, 1])] (by rfl) (by first | trivial | simp only [go_sem, vl_e, List.length_map]) rfl ⟨rfl, rfl⟩
  by_cases h10 : op = 64522
  · subst h10
    have r : sigD 64522 = ((some (3, [1, 1, 1]), none), true) := rfl
    rw [r]
    refine canon (Sb := sb) (r1 := .tup [.agg [.ms 6 1 0 3, .nl], .bool true]) (σ1 := [(6, ob_ [1, 1, 1])]) [(6, 1)] ?_ rfl rfl rfl
    refine fun_sound (ic := F_opcode_Sig.body) mixed c_opcode_Sig rfl rfl ?_
    simp only [go_sem, vl_e, List.length_map, F_opcode_Sig]
    refine call_1 (R := [1, 1, 1]) o_of1 (by decide) (by rfl) ?_
    simp only [go_sem, vl_e, List.length_map]
    exact done [] _ [(6, ob_ [1, 1, 1])] (by rfl) (by first | trivial | simp only [go_sem, vl_e, List.length_map]) rfl ⟨rfl, rfl⟩
  by_cases h11 : op = 64520
  · subst h11
    have r : sigD 64520 = ((some (3, [1, 1, 1]), none), true) := rfl
    rw [r]
    refine canon (Sb := sb) (r1 := .tup [.agg [.ms 6 1 0 3, .nl], .bool true]) (σ1 := [(6, ob_ [1, 1, 1])]) [(6, 1)] ?_ rfl rfl rfl
    refine fun_sound (ic := F_opcode_Sig.body) mixed c_opcode_Sig rfl rfl ?_
    simp only [go_sem, vl_e, List.length_map, F_opcode_Sig]
    refine call_1 (R := [1, 1, 1]) o_of1 (by decide) (by rfl) ?_
    simp only [go_sem, vl_e, List.length_map]
    exact done [] _ [(6, ob_ [1, 1, 1])] (by rfl) (by first | trivial | simp only [go_sem, vl_e, List.length_map]) rfl ⟨rfl, rfl⟩
  by_cases h12 : op = 64526
  · subst h12
    have r : sigD 64526 = ((some (3, [1, 1, 1]), none), true) := rfl
    rw [r]
    refine canon (Sb := sb) (r1 := .tup [.agg [.ms 6 1 0 3, .nl], .bool true]) (σ1 := [(6, ob_ [1, 1, 1])]) [(6, 1)] ?_ rfl rfl rfl
    refine fun_sound (ic := F_opcode_Sig.body) mixed c_opcode_Sig rfl rfl ?_
    simp only [go_sem, vl_e, List.length_map, F_opcode_Sig]
    refine call_1 (R := [1, 1, 1]) o_of1 (by decide) (by rfl) ?_
    simp only [go_sem, vl_e, List.length_map]
    exact done [] _ [(6, ob_ [1, 1, 1])] (by rfl) (by first | trivial | simp only [go_sem, vl_e, List.length_map]) rfl ⟨rfl, rfl⟩
  by_cases h13 : op = 64524
  · subst h13
    have r : sigD 64524 = ((some (3, [1, 1, 1]), none), true) := rfl
    rw [r]
    refine canon (Sb := sb) (r1 := .tup [.agg [.ms 6 1 0 3, .nl], .bool true]) (σ1 := [(6, ob_ [1, 1, 1])]) [(6, 1)] ?_ rfl rfl rfl
    refine fun_sound (ic := F_opcode_Sig.body) mixed c_opcode_Sig rfl rfl ?_
    simp only [go_sem, vl_e, List.length_map, F_opcode_Sig]
    refine call_1 (R := [1, 1, 1]) o_of1 (by decide) (by rfl) ?_
    simp only [go_sem, vl_e, List.length_map]
    exact done [] _ [(6, ob_ [1, 1, 1])] (by rfl) (by first | trivial | simp only [go_sem, vl_e, List.length_map]) rfl ⟨rfl, rfl⟩
  by_cases h14 : op = 167
  · subst h14
    have r : sigD 167 = ((some (1, [2]), some [1]), true) := rfl
    rw [r]
    refine canon (Sb := sb) (r1 := .tup [.agg [.ms 43 1 0 1, .ms 44 1 0 1], .bool true]) (σ1 := [(43, ob_ [2]), (44, ob_ [1])]) [(43, 1), (44, 2)] ?_ rfl rfl rfl
    refine fun_sound (ic := F_opcode_Sig.body) mixed c_opcode_Sig rfl rfl ?_
    simp only [go_sem, vl_e, List.length_map, F_opcode_Sig]
    refine call_2 (R := [2]) (L := [1]) o_of2 (by decide) (by decide) (by decide) (by rfl) (by rfl) ?_
    simp only [go_sem, vl_e, List.length_map]
    exact done [] _ [(43, ob_ [2]), (44, ob_ [1])] (by rfl) (by first | trivial | simp only [go_sem, vl_e, List.length_map]) rfl ⟨rfl, rfl⟩
  by_cases h15 : op = 172
  · subst h15
    have r : sigD 172 = ((some (1, [1, 1, 1]), some [2]), true) := rfl
    rw [r]
    refine canon (Sb := sb) (r1 := .tup [.agg [.ms 6 1 0 1, .ms 51 1 0 1], .bool true]) (σ1 := [(6, ob_ [1, 1, 1]), (51, ob_ [2])]) [(6, 1), (51, 2)] ?_ rfl rfl rfl
    refine fun_sound (ic := F_opcode_Sig.body) mixed c_opcode_Sig rfl rfl ?_
    simp only [go_sem, vl_e, List.length_map, F_opcode_Sig]
    refine ⟨⟨by decide, by decide⟩, ?_⟩
    refine call_2 (R := [1, 1, 1]) (L := [2]) o_of2 (by decide) (by decide) (by decide) (by rfl) (by rfl) ?_
    simp only [go_sem, vl_e, List.length_map]
    exact done [] _ [(6, ob_ [1, 1, 1]), (51, ob_ [2])] (by rfl) (by first | trivial | simp only [go_sem, vl_e, List.length_map]) rfl ⟨rfl, rfl⟩
  by_cases h16 : op = 173
  · subst h16
    have r : sigD 173 = ((some (1, [1, 1, 1]), some [2]), true) := rfl
    rw [r]
    refine canon (Sb := sb) (r1 := .tup [.agg [.ms 6 1 0 1, .ms 51 1 0 1], .bool true]) (σ1 := [(6, ob_ [1, 1, 1]), (51, ob_ [2])]) [(6, 1), (51, 2)] ?_ rfl rfl rfl
    refine fun_sound (ic := F_opcode_Sig.body) mixed c_opcode_Sig rfl rfl ?_
    simp only [go_sem, vl_e, List.length_map, F_opcode_Sig]
    refine ⟨⟨by decide, by decide⟩, ?_⟩
    refine call_2 (R := [1, 1, 1]) (L := [2]) o_of2 (by decide) (by decide) (by decide) (by rfl) (by rfl) ?_
    simp only [go_sem, vl_e, List.length_map]
    exact done [] _ [(6, ob_ [1, 1, 1]), (51, ob_ [2])] (by rfl) (by first | trivial | simp only [go_sem, vl_e, List.length_map]) rfl ⟨rfl, rfl⟩
  have e : sdT.find? (fun p => p.1 == op) = none := by
    simp only [sdT, List.find?_cons, List.find?_nil, beq_f (fun e : (1 : Int) = op => h0 e.symm), beq_f (fun e : (64525 : Int) = op => h1 e.symm), beq_f (fun e : (64521 : Int) = op => h2 e.symm), beq_f (fun e : (65 : Int) = op => h3 e.symm), beq_f (fun e : (63 : Int) = op => h4 e.symm), beq_f (fun e : (64528 : Int) = op => h5 e.symm), beq_f (fun e : (66 : Int) = op => h6 e.symm), beq_f (fun e : (210 : Int) = op => h7 e.symm), beq_f (fun e : (64 : Int) = op => h8 e.symm), beq_f (fun e : (64523 : Int) = op => h9 e.symm), beq_f (fun e : (64522 : Int) = op => h10 e.symm), beq_f (fun e : (64520 : Int) = op => h11 e.symm), beq_f (fun e : (64526 : Int) = op => h12 e.symm), beq_f (fun e : (64524 : Int) = op => h13 e.symm), beq_f (fun e : (167 : Int) = op => h14 e.symm), beq_f (fun e : (172 : Int) = op => h15 e.symm), beq_f (fun e : (173 : Int) = op => h16 e.symm)]
  have hl := nameOf_len op
  have b1 := s_hp (nameOf op) [105, 51, 50, 46] ⟨by omega, by decide⟩
  have b2 := s_hp (nameOf op) [105, 54, 52, 46] ⟨by omega, by decide⟩
  cases q1 : hpf (nameOf op) [105, 51, 50, 46] || hpf (nameOf op) [105, 54, 52, 46]
  · have r : sigD op = ((none, none), false) := by rw [sigD, e]; simp only [q1]; rfl
    rw [r]
    refine canon (Sb := sb) (r1 := .tup [.agg [.nl, .nl], .bool false]) (σ1 := []) [] ?_ rfl rfl rfl
    refine fun_sound (ic := F_opcode_Sig.body) mixed c_opcode_Sig rfl rfl ?_
    have q2 : hpf (nameOf op) [105, 51, 50, 46] = false := by
      cases h : hpf (nameOf op) [105, 51, 50, 46]
      · rfl
      · rw [h] at q1; cases q1
    rw [q2, Bool.false_or] at q1
    rw [q2] at b1
    rw [q1] at b2
    simp only [go_sem, vl_e, List.length_map, F_opcode_Sig, beq_f h0, beq_f h1, beq_f h2, beq_f h3, beq_f h4, beq_f h5, beq_f h6, beq_f h7, beq_f h8, beq_f h9, beq_f h10, beq_f h11, beq_f h12, beq_f h13, beq_f h14, beq_f h15, beq_f h16]
    refine call_same (s_name5 op) (by simp [go_sem, vl_e, List.length_map]) ?_
    simp only [go_sem, vl_e, List.length_map]
    refine call_same (b1) (by simp [go_sem, vl_e, List.length_map]) ?_
    simp only [go_sem, vl_e, List.length_map]
    refine call_same (b2) (by simp [go_sem, vl_e, List.length_map]) ?_
    simp only [go_sem, vl_e, List.length_map]
    exact done [] _ [] (by rfl) trivial rfl ⟨rfl, rfl⟩
  · have r : sigD op = (numD op (tyN (nameOf op)) ((nameOf op).drop 4), true) := by rw [sigD, e]; simp only [q1, if_true]
    rw [r]
    have hq4 : 4 ≤ (nameOf op).length := by
      rcases Bool.or_eq_true_iff.1 q1 with h | h
      · exact hpf_len h
      · exact hpf_len h
    have b3 : PCalls Tryd.prog n_opcode_begins [.str (nameOf op)] (.int .i64 (tyN (nameOf op))) := s_begins (nameOf op) (by omega)
    have e4 : ((nameOf op).drop 4).take ((nameOf op).length - 4) = (nameOf op).drop 4 := List.take_of_length_le (by simp)
    have b4 := n_number op (tyN (nameOf op)) ((nameOf op).drop 4) (by simp; omega)
    generalize tyN (nameOf op) = t at b3 b4
    have n0 := s_name5 op
    obtain ⟨n, R, q, hd⟩ := numD_cases op t ((nameOf op).drop 4)
    rw [hd] at b4 ⊢
    clear hd
    generalize nameOf op = s at n0 b1 b2 b3 b4 hq4 e4 hl q1
    cases q with
    | none =>
      refine canon (Sb := sb) (r1 := .tup [.agg [.ms 901 1 0 n, .nl], .bool true]) (σ1 := [(901, ob_ R)]) [(901, 1)] ?_ rfl rfl rfl
      refine fun_sound (ic := F_opcode_Sig.body) mixed c_opcode_Sig rfl rfl ?_
      simp only [go_sem, vl_e, List.length_map, F_opcode_Sig, beq_f h0, beq_f h1, beq_f h2, beq_f h3, beq_f h4, beq_f h5, beq_f h6, beq_f h7, beq_f h8, beq_f h9, beq_f h10, beq_f h11, beq_f h12, beq_f h13, beq_f h14, beq_f h15, beq_f h16]
      refine call_same (n0) (by simp [go_sem, vl_e, List.length_map]) ?_
      simp only [go_sem, vl_e, List.length_map]
      refine call_same (b1) (by simp [go_sem, vl_e, List.length_map]) ?_
      cases q2 : hpf s [105, 51, 50, 46]
      · rw [q2, Bool.false_or] at q1
        rw [q1] at b2
        simp only [go_sem, vl_e, List.length_map]
        refine call_same (b2) (by simp [go_sem, vl_e, List.length_map]) ?_
        simp only [go_sem, vl_e, List.length_map]
        refine dcall_same b3 (by simp [go_sem]) rfl ?_
        simp only [go_sem, vl_e, List.length_map]
        refine ⟨⟨by decide, by omega⟩, ?_⟩
        refine call_obj (σ2 := []) (r3 := .agg [.ms 901 1 0 n, .nl]) (σ3 := [(901, ob_ R)]) b4 [(1, 901)] [901] rfl rfl rfl rfl (fun p hp => by cases hp) (fun p hp => by simp only [List.mem_cons, List.not_mem_nil, or_false] at hp; subst hp; exact .inr ⟨by simp, by simp, .inr (by rfl)⟩) (fun p hp => by cases hp) ?_
        simp only [go_sem, vl_e, List.length_map, purEs_cons, purEs_nil, purHs_cons, purHs_nil, List.cons_append, List.nil_append]
        exact done [] _ [(901, ob_ R)] (by rfl) (by first | trivial | simp only [go_sem, vl_e, List.length_map]) rfl ⟨rfl, rfl⟩
      · simp only [go_sem, vl_e, List.length_map]
        refine dcall_same b3 (by simp [go_sem]) rfl ?_
        simp only [go_sem, vl_e, List.length_map]
        refine ⟨⟨by decide, by omega⟩, ?_⟩
        refine call_obj (σ2 := []) (r3 := .agg [.ms 901 1 0 n, .nl]) (σ3 := [(901, ob_ R)]) b4 [(1, 901)] [901] rfl rfl rfl rfl (fun p hp => by cases hp) (fun p hp => by simp only [List.mem_cons, List.not_mem_nil, or_false] at hp; subst hp; exact .inr ⟨by simp, by simp, .inr (by rfl)⟩) (fun p hp => by cases hp) ?_
        simp only [go_sem, vl_e, List.length_map, purEs_cons, purEs_nil, purHs_cons, purHs_nil, List.cons_append, List.nil_append]
        exact done [] _ [(901, ob_ R)] (by rfl) (by first | trivial | simp only [go_sem, vl_e, List.length_map]) rfl ⟨rfl, rfl⟩
    | some L =>
      refine canon (Sb := sb) (r1 := .tup [.agg [.ms 901 1 0 n, .ms 902 1 0 L.length], .bool true]) (σ1 := [(901, ob_ R), (902, ob_ L)]) [(901, 1), (902, 2)] ?_ rfl rfl rfl
      refine fun_sound (ic := F_opcode_Sig.body) mixed c_opcode_Sig rfl rfl ?_
      simp only [go_sem, vl_e, List.length_map, F_opcode_Sig, beq_f h0, beq_f h1, beq_f h2, beq_f h3, beq_f h4, beq_f h5, beq_f h6, beq_f h7, beq_f h8, beq_f h9, beq_f h10, beq_f h11, beq_f h12, beq_f h13, beq_f h14, beq_f h15, beq_f h16]
      refine call_same (n0) (by simp [go_sem, vl_e, List.length_map]) ?_
      simp only [go_sem, vl_e, List.length_map]
      refine call_same (b1) (by simp [go_sem, vl_e, List.length_map]) ?_
      cases q2 : hpf s [105, 51, 50, 46]
      · rw [q2, Bool.false_or] at q1
        rw [q1] at b2
        simp only [go_sem, vl_e, List.length_map]
        refine call_same (b2) (by simp [go_sem, vl_e, List.length_map]) ?_
        simp only [go_sem, vl_e, List.length_map]
        refine dcall_same b3 (by simp [go_sem]) rfl ?_
        simp only [go_sem, vl_e, List.length_map]
        refine ⟨⟨by decide, by omega⟩, ?_⟩
        refine call_obj (σ2 := []) (r3 := .agg [.ms 901 1 0 n, .ms 902 1 0 L.length]) (σ3 := [(901, ob_ R), (902, ob_ L)]) b4 [(1, 901), (2, 902)] [901, 902] rfl rfl rfl rfl (fun p hp => by cases hp) (fun p hp => by simp only [List.mem_cons, List.not_mem_nil, or_false] at hp; rcases hp with rfl | rfl <;> exact .inr ⟨by simp, by simp, .inr (by rfl)⟩) (fun p hp => by cases hp) ?_
        simp only [go_sem, vl_e, List.length_map, purEs_cons, purEs_nil, purHs_cons, purHs_nil, List.cons_append, List.nil_append]
        exact done [] _ [(901, ob_ R), (902, ob_ L)] (by rfl) (by first | trivial | simp only [go_sem, vl_e, List.length_map]) rfl ⟨rfl, rfl⟩
      · simp only [go_sem, vl_e, List.length_map]
        refine dcall_same b3 (by simp [go_sem]) rfl ?_
        simp only [go_sem, vl_e, List.length_map]
        refine ⟨⟨by decide, by omega⟩, ?_⟩
        refine call_obj (σ2 := []) (r3 := .agg [.ms 901 1 0 n, .ms 902 1 0 L.length]) (σ3 := [(901, ob_ R), (902, ob_ L)]) b4 [(1, 901), (2, 902)] [901, 902] rfl rfl rfl rfl (fun p hp => by cases hp) (fun p hp => by simp only [List.mem_cons, List.not_mem_nil, or_false] at hp; rcases hp with rfl | rfl <;> exact .inr ⟨by simp, by simp, .inr (by rfl)⟩) (fun p hp => by cases hp) ?_
        simp only [go_sem, vl_e, List.length_map, purEs_cons, purEs_nil, purHs_cons, purHs_nil, List.cons_append, List.nil_append]
        exact done [] _ [(901, ob_ R), (902, ob_ L)] (by rfl) (by first | trivial | simp only [go_sem, vl_e, List.length_map]) rfl ⟨rfl, rfl⟩
end Go.Proofs.YtnhnghpnejobfaaDoor
