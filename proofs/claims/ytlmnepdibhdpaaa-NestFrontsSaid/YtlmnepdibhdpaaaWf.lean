/-
  Chapter 9, walks: Target.
-/
import Derived.Test.YtlmnepdibhdpaaaWe
set_option linter.unusedSimpArgs false
set_option maxRecDepth 100000
set_option maxHeartbeats 4000000
namespace Go.Proofs.Ytlmnepdibhdpaaa
open Go Go.Mw

/-- Where a branch out of a block leads. -/
def land (B : List Ins) (h : Int) : Int := if h < 0 then (B.length : Int) - 1 else if (nth B h.toNat).op == 3 then h + 1 else nth (endsA B B.length) h.toNat
def tgt (B : List Ins) (p lab : Int) : Int × Bool :=
  if (chk B).2 ≠ 0 then (0, false) else if p < 0 then (0, false) else if (B.length : Int) ≤ p then (0, false) else if lab < 0 then (0, false) else if ((rnd B p.toNat).length : Int) ≤ lab then (0, false) else
    (land B (nth (rnd B p.toNat) ((rnd B p.toNat).length - 1 - lab.toNat)), true)

theorem s_rtarget (B : List Ins) (p lab : Int) (hn : B.length < 1000000) : PCalls Try.prog 21 [.sl 9 (B.map Ins.row), .int .i64 p, .int .i64 lab] (.tup [.int .i64 (tgt B p lab).1, .bool (tgt B p lab).2]) := by
  refine pfun_sound (ic := F_ref09_Target.body) mixed c_ref09_Target rfl rfl ?_
  simp only [F_ref09_Target, go_sem, ↓reduceIte, Nat.reduceEqDiff, Nat.reduceLT, reduceCtorEq, Nat.reduceAdd, Nat.zero_add, decide_eq_true_eq, decide_eq_false_iff_not, Nat.reduceLeDiff, Nat.reduceBEq, Nat.reduceBNe, beq_self_eq_true, Int.reduceNeg, Int.reduceToNat, Nat.lt_add_one]
  refine call_same (s_rcheck B hn) (by simp [go_sem]) ?_
  by_cases h1 : (chk B).2 = 0
  case neg =>
    have h1' : ((chk B).2 != 0) = true := by simpa using h1
    simp only [go_sem, ↓reduceIte, Nat.reduceEqDiff, Nat.reduceLT, reduceCtorEq, Nat.reduceAdd, Nat.zero_add, decide_eq_true_eq, decide_eq_false_iff_not, Nat.reduceLeDiff, Nat.reduceBEq, Nat.reduceBNe, beq_self_eq_true, Int.reduceNeg, Int.reduceToNat, Nat.lt_add_one, h1']
    refine pdone [] ?_ rfl
    simp [go_sem, tgt, h1]
  have hg := (good_iff B).1 h1
  have h1' : ((chk B).2 != 0) = false := by simpa using h1
  by_cases h2 : p < 0
  case pos =>
    simp only [go_sem, ↓reduceIte, Nat.reduceEqDiff, Nat.reduceLT, reduceCtorEq, Nat.reduceAdd, Nat.zero_add, decide_eq_true_eq, decide_eq_false_iff_not, Nat.reduceLeDiff, Nat.reduceBEq, Nat.reduceBNe, beq_self_eq_true, Int.reduceNeg, Int.reduceToNat, Nat.lt_add_one, h1', decide_eq_true h2]
    refine pdone [] ?_ rfl
    simp [go_sem, tgt, h1, h2]
  by_cases h3 : (B.length : Int) ≤ p
  case pos =>
    simp only [go_sem, ↓reduceIte, Nat.reduceEqDiff, Nat.reduceLT, reduceCtorEq, Nat.reduceAdd, Nat.zero_add, decide_eq_true_eq, decide_eq_false_iff_not, Nat.reduceLeDiff, Nat.reduceBEq, Nat.reduceBNe, beq_self_eq_true, Int.reduceNeg, Int.reduceToNat, Nat.lt_add_one, h1', decide_eq_false h2, decide_eq_true (show p ≥ (B.length : Int) from h3)]
    refine pdone [] ?_ rfl
    simp [go_sem, tgt, h1, h2, h3]
  obtain ⟨m, rfl⟩ : ∃ m : Nat, p = m := ⟨p.toNat, by omega⟩
  have hne : ∀ j, j < B.length → 0 < (rnd B j).length := fun j hj => err_ne (hg.1 j hj)
  have hl := rnd_len B m
  simp only [go_sem, ↓reduceIte, Nat.reduceEqDiff, Nat.reduceLT, reduceCtorEq, Nat.reduceAdd, Nat.zero_add, decide_eq_true_eq, decide_eq_false_iff_not, Nat.reduceLeDiff, Nat.reduceBEq, Nat.reduceBNe, beq_self_eq_true, Int.reduceNeg, Int.reduceToNat, Nat.lt_add_one, h1', decide_eq_false h2, decide_eq_false (show ¬ (m : Int) ≥ (B.length : Int) from h3)]
  refine call_same (s_round B m (by omega) hn) (by simp [go_sem]) ?_
  by_cases h4 : lab < 0
  case pos =>
    simp only [go_sem, ↓reduceIte, Nat.reduceEqDiff, Nat.reduceLT, reduceCtorEq, Nat.reduceAdd, Nat.zero_add, decide_eq_true_eq, decide_eq_false_iff_not, Nat.reduceLeDiff, Nat.reduceBEq, Nat.reduceBNe, beq_self_eq_true, Int.reduceNeg, Int.reduceToNat, Nat.lt_add_one, decide_eq_true h4]
    refine pdone [] ?_ rfl
    simp [go_sem, tgt, h1, h3, h4]
  by_cases h5 : ((rnd B m).length : Int) ≤ lab
  case pos =>
    simp only [go_sem, ↓reduceIte, Nat.reduceEqDiff, Nat.reduceLT, reduceCtorEq, Nat.reduceAdd, Nat.zero_add, decide_eq_true_eq, decide_eq_false_iff_not, Nat.reduceLeDiff, Nat.reduceBEq, Nat.reduceBNe, beq_self_eq_true, Int.reduceNeg, Int.reduceToNat, Nat.lt_add_one, decide_eq_false h4, decide_eq_true (show lab ≥ ((rnd B m).length : Int) from h5)]
    refine pdone [] ?_ rfl
    simp [go_sem, tgt, h1, h3, h4, h5]
  obtain ⟨q, rfl⟩ : ∃ q : Nat, lab = q := ⟨lab.toNat, by omega⟩
  have hw : (IntKind.i64.wrap (↑(rnd B m).length - 1)) = ((rnd B m).length : Int) - 1 := wi (by omega) (by omega)
  have hw2 : (IntKind.i64.wrap (↑(rnd B m).length - 1 - ↑q)) = ((rnd B m).length : Int) - 1 - q := wi (by omega) (by omega)
  have hnt : ((rnd B m).length - 1 - q : Int).toNat = (rnd B m).length - 1 - q := by omega
  have ht : tgt B m q = (land B (nth (rnd B m) ((rnd B m).length - 1 - q)), true) := by simp only [tgt, h1, h2, h3, h4, h5, if_false, ne_eq, not_true_eq_false, Int.toNat_natCast]
  have hb : nth (rnd B m) ((rnd B m).length - 1 - q) < B.length := by
    rcases rnd_below B m (fun j hj => hne j (by omega)) ((rnd B m).length - 1 - q) (by omega) with ⟨_, g⟩ | ⟨_, j, g, g2, _⟩ <;> omega
  rw [ht]
  simp only [go_sem, ↓reduceIte, Nat.reduceEqDiff, Nat.reduceLT, reduceCtorEq, Nat.reduceAdd, Nat.zero_add, decide_eq_true_eq, decide_eq_false_iff_not, Nat.reduceLeDiff, Nat.reduceBEq, Nat.reduceBNe, beq_self_eq_true, Int.reduceNeg, Int.reduceToNat, Nat.lt_add_one, decide_eq_false h4, decide_eq_false (show ¬ (q : Int) ≥ ((rnd B m).length : Int) from h5), hw, hw2, hnt]
  generalize hx : nth (rnd B m) ((rnd B m).length - 1 - q) = x at hb ⊢
  refine ⟨by omega, by omega, fun h6 => pdone [] ?_ rfl, fun h6 => ⟨by omega, by omega, fun h7 => pdone [] ?_ rfl, fun h7 => call_same (s_rends B hn) (by simp [go_sem]) ?_⟩⟩
  · simp [go_sem, land, h6, wi (n := (B.length : Int) - 1) (by omega) (by omega)]
  · simp [go_sem, land, h6, h7, wi (n := x + 1) (by omega) (by omega)]
  · simp only [orNil, h1, go_sem, ↓reduceIte, Nat.reduceEqDiff, Nat.reduceLT, reduceCtorEq, Nat.reduceAdd, Nat.zero_add, decide_eq_true_eq, decide_eq_false_iff_not, Nat.reduceLeDiff, Nat.reduceBEq, Nat.reduceBNe, beq_self_eq_true, Int.reduceNeg, Int.reduceToNat, Nat.lt_add_one]
    refine ⟨by omega, by rw [endsA_len]; omega, pdone [] ?_ rfl⟩
    simp [go_sem, land, h6, h7]

theorem nth_headsA {B : List Ins} {n j : Nat} (h : j < n) : nth (headsA B n) j = hd B j := by
  rw [headsA, nth_map (by simpa using h), nth_eq (by simpa using h)]; simp
theorem nth_depthsA {B : List Ins} {n j : Nat} (h : j < n) : nth (depthsA B n) j = ((rnd B j).length : Int) := by
  rw [depthsA, nth_map (by simpa using h), nth_eq (by simpa using h)]; simp

theorem s_target (B : List Ins) (p lab : Int) (hn : B.length < 1000000) : PCalls Try.prog 20 [.sl 9 (B.map Ins.row), .int .i64 p, .int .i64 lab] (.tup [.int .i64 (tgt B p lab).1, .bool (tgt B p lab).2]) := by
  refine pfun_sound (ic := F_nest_Target.body) mixed c_nest_Target rfl rfl ?_
  simp only [F_nest_Target, go_sem, ↓reduceIte, Nat.reduceEqDiff, Nat.reduceLT, reduceCtorEq, Nat.reduceAdd, Nat.zero_add, decide_eq_true_eq, decide_eq_false_iff_not, Nat.reduceLeDiff, Nat.reduceBEq, Nat.reduceBNe, beq_self_eq_true, Int.reduceNeg, Int.reduceToNat, Nat.lt_add_one]
  refine call_same (s_look B hn) (by simp [go_sem]) ?_
  by_cases h1 : (chk B).2 = 0
  case neg =>
    have h1' : ((chk B).2 != 0) = true := by simpa using h1
    simp only [lookR, orNil, h1, go_sem, ↓reduceIte, Nat.reduceEqDiff, Nat.reduceLT, reduceCtorEq, Nat.reduceAdd, Nat.zero_add, decide_eq_true_eq, decide_eq_false_iff_not, Nat.reduceLeDiff, Nat.reduceBEq, Nat.reduceBNe, beq_self_eq_true, Int.reduceNeg, Int.reduceToNat, Nat.lt_add_one, h1']
    refine pdone [] ?_ rfl
    simp [go_sem, tgt, h1]
  have hg := (good_iff B).1 h1
  have h1' : ((chk B).2 != 0) = false := by simpa using h1
  by_cases h2 : p < 0
  case pos =>
    simp only [lookR, orNil, h1, go_sem, ↓reduceIte, Nat.reduceEqDiff, Nat.reduceLT, reduceCtorEq, Nat.reduceAdd, Nat.zero_add, decide_eq_true_eq, decide_eq_false_iff_not, Nat.reduceLeDiff, Nat.reduceBEq, Nat.reduceBNe, beq_self_eq_true, Int.reduceNeg, Int.reduceToNat, Nat.lt_add_one, h1', decide_eq_true h2, bne_self_eq_false]
    refine pdone [] ?_ rfl
    simp [go_sem, tgt, h1, h2]
  by_cases h3 : (B.length : Int) ≤ p
  case pos =>
    simp only [lookR, orNil, h1, go_sem, ↓reduceIte, Nat.reduceEqDiff, Nat.reduceLT, reduceCtorEq, Nat.reduceAdd, Nat.zero_add, decide_eq_true_eq, decide_eq_false_iff_not, Nat.reduceLeDiff, Nat.reduceBEq, Nat.reduceBNe, beq_self_eq_true, Int.reduceNeg, Int.reduceToNat, Nat.lt_add_one, h1', decide_eq_false h2, decide_eq_true (show p ≥ (B.length : Int) from h3), bne_self_eq_false]
    refine pdone [] ?_ rfl
    simp [go_sem, tgt, h1, h2, h3]
  obtain ⟨m, rfl⟩ : ∃ m : Nat, p = m := ⟨p.toNat, by omega⟩
  have hne : ∀ j, j < B.length → 0 < (rnd B j).length := fun j hj => err_ne (hg.1 j hj)
  have hl := rnd_len B m
  by_cases h4 : lab < 0
  case pos =>
    simp only [lookR, orNil, h1, go_sem, ↓reduceIte, Nat.reduceEqDiff, Nat.reduceLT, reduceCtorEq, Nat.reduceAdd, Nat.zero_add, decide_eq_true_eq, decide_eq_false_iff_not, Nat.reduceLeDiff, Nat.reduceBEq, Nat.reduceBNe, beq_self_eq_true, Int.reduceNeg, Int.reduceToNat, Nat.lt_add_one, h1', decide_eq_false h2, decide_eq_false (show ¬ (m : Int) ≥ (B.length : Int) from h3), decide_eq_true h4, bne_self_eq_false]
    refine pdone [] ?_ rfl
    simp only [go_sem, ↓reduceIte, Nat.reduceEqDiff, Nat.reduceLT, reduceCtorEq, Nat.reduceAdd, Nat.zero_add, decide_eq_true_eq, decide_eq_false_iff_not, Nat.reduceLeDiff, Nat.reduceBEq, Nat.reduceBNe, beq_self_eq_true, Int.reduceNeg, Int.reduceToNat, Nat.lt_add_one, tgt, h1, h2, h3, h4, if_false, ne_eq]
  have hnd := nth_depthsA (B := B) (show m < B.length by omega)
  have hnh := nth_headsA (B := B) (show m < B.length by omega)
  by_cases h5 : ((rnd B m).length : Int) ≤ lab
  case pos =>
    simp only [lookR, orNil, h1, go_sem, ↓reduceIte, Nat.reduceEqDiff, Nat.reduceLT, reduceCtorEq, Nat.reduceAdd, Nat.zero_add, decide_eq_true_eq, decide_eq_false_iff_not, Nat.reduceLeDiff, Nat.reduceBEq, Nat.reduceBNe, beq_self_eq_true, Int.reduceNeg, Int.reduceToNat, Nat.lt_add_one, h1', decide_eq_false h2, decide_eq_false (show ¬ (m : Int) ≥ (B.length : Int) from h3), decide_eq_false h4, hnd, decide_eq_true (show lab ≥ ((rnd B m).length : Int) from h5), bne_self_eq_false]
    refine ⟨by omega, by rw [depthsA_len]; omega, pdone [] ?_ rfl⟩
    simp only [go_sem, ↓reduceIte, Nat.reduceEqDiff, Nat.reduceLT, reduceCtorEq, Nat.reduceAdd, Nat.zero_add, decide_eq_true_eq, decide_eq_false_iff_not, Nat.reduceLeDiff, Nat.reduceBEq, Nat.reduceBNe, beq_self_eq_true, Int.reduceNeg, Int.reduceToNat, Nat.lt_add_one, tgt, h1, h2, h3, h4, h5, if_false, ne_eq]
  obtain ⟨q, rfl⟩ : ∃ q : Nat, lab = q := ⟨lab.toNat, by omega⟩
  have ht : tgt B m q = (land B (nth (rnd B m) ((rnd B m).length - 1 - q)), true) := by simp only [tgt, h1, h2, h3, h4, h5, if_false, ne_eq, not_true_eq_false, Int.toNat_natCast]
  rw [ht]
  simp only [lookR, orNil, h1, go_sem, ↓reduceIte, Nat.reduceEqDiff, Nat.reduceLT, reduceCtorEq, Nat.reduceAdd, Nat.zero_add, decide_eq_true_eq, decide_eq_false_iff_not, Nat.reduceLeDiff, Nat.reduceBEq, Nat.reduceBNe, beq_self_eq_true, Int.reduceNeg, Int.reduceToNat, Nat.lt_add_one, h1', decide_eq_false h2, decide_eq_false (show ¬ (m : Int) ≥ (B.length : Int) from h3), decide_eq_false h4, hnd, hnh, decide_eq_false (show ¬ (q : Int) ≥ ((rnd B m).length : Int) from h5), bne_self_eq_false]
  refine ⟨by omega, by rw [depthsA_len]; omega, by omega, by rw [headsA_len]; omega, ?_⟩
  refine loop_rule (fun r : Nat => ⟨[(11, .int .i64 (nth (rnd B m) ((rnd B m).length - 1 - (q - r)))), (8, .mp 8 4 0 0), (0, .sl 9 (B.map Ins.row)), (2, .int .i64 r)],
      [(8, ⟨46, 4, [[.sl 1 ((endsA B B.length).map ri), .sl 1 ((elsesA B B.length).map ri), .sl 1 ((depthsA B B.length).map ri), .sl 1 ((headsA B B.length).map ri)]], true⟩)]⟩) (fun r => r ≤ q) (fun r => r) q (Nat.le_refl _) (Wk.of ?_ ?_) ?_
  · simp [go_sem, hd]
  · simp [go_sem]
  rintro r hr
  replace hr : r ≤ q := hr
  have hbl := rnd_below B m (fun j hj => hne j (by omega)) ((rnd B m).length - 1 - (q - r)) (by omega)
  have hb : nth (rnd B m) ((rnd B m).length - 1 - (q - r)) < B.length := by
    rcases hbl with ⟨_, g⟩ | ⟨_, j, g, g2, _⟩ <;> omega
  simp only [go_sem, ↓reduceIte, Nat.reduceEqDiff, Nat.reduceLT, reduceCtorEq, Nat.reduceAdd, Nat.zero_add, decide_eq_true_eq, decide_eq_false_iff_not, Nat.reduceLeDiff, Nat.reduceBEq, Nat.reduceBNe, beq_self_eq_true, Int.reduceNeg, Int.reduceToNat, Nat.lt_add_one]
  refine ⟨fun h6 => ?_, fun h6 => ?_⟩
  · obtain ⟨_, g⟩ | ⟨g1, j, g2, g3, g4, _⟩ := hbl
    · omega
    have hj := nth_headsA (B := B) (show j < B.length by omega)
    have hs : hd B j = nth (rnd B m) ((rnd B m).length - 1 - (q - (r - 1))) := by
      rw [hd, g4, List.length_take, nth_take (by omega)]
      congr 1
      omega
    simp only [g2, go_sem, ↓reduceIte, Nat.reduceEqDiff, Nat.reduceLT, reduceCtorEq, Nat.reduceAdd, Nat.zero_add, decide_eq_true_eq, decide_eq_false_iff_not, Nat.reduceLeDiff, Nat.reduceBEq, Nat.reduceBNe, beq_self_eq_true, Int.reduceNeg, Int.reduceToNat, Nat.lt_add_one, hj]
    refine ⟨by omega, by rw [headsA_len]; omega, klp_n (r - 1) (show r - 1 ≤ q by omega) (show r - 1 < r by omega) (Wk.of ?_ ?_)⟩
    · have hw := wi (n := (r : Int) - 1) (by omega) (by omega)
      simp [go_sem, hs, hw]
      omega
    · simp [go_sem]
  · have h0 : r = 0 := by omega
    subst h0
    simp only [Nat.sub_zero] at hb ⊢
    generalize nth (rnd B m) ((rnd B m).length - 1 - q) = x at hb ⊢
    refine ⟨fun h6 => pdone [] ?_ rfl, fun h6 => ⟨by omega, by omega, fun h7 => pdone [] ?_ rfl, fun h7 => ⟨by omega, by rw [endsA_len]; omega, pdone [] ?_ rfl⟩⟩⟩
    · simp [go_sem, land, h6, wi (n := (B.length : Int) - 1) (by omega) (by omega)]
    · simp [go_sem, land, h6, h7, wi (n := x + 1) (by omega) (by omega)]
    · simp [go_sem, land, h6, h7]
end Go.Proofs.Ytlmnepdibhdpaaa
