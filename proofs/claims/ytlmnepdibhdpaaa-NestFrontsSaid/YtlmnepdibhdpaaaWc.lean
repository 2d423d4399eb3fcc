/-
  Chapter 9, walks: the reference's Ends, Elses, Depths, Heads.
-/
import Derived.Test.YtlmnepdibhdpaaaWb
set_option linter.unusedSimpArgs false
namespace Go.Proofs.Ytlmnepdibhdpaaa
open Go Go.Mw

/-- What the reference hands back: nil where the body is not sound. -/
def orNil (B : List Ins) (l : List Int) : AV := if (chk B).2 = 0 then .sl 1 (l.map ri) else .nl

theorem depthsA_succ (B : List Ins) (i : Nat) : depthsA B (i + 1) = depthsA B i ++ [((rnd B i).length : Int)] := by simp [depthsA, List.range_succ]
theorem headsA_succ (B : List Ins) (i : Nat) : headsA B (i + 1) = headsA B i ++ [hd B i] := by simp [headsA, List.range_succ]
theorem depthsA_len (B : List Ins) (i : Nat) : (depthsA B i).length = i := by simp [depthsA]
theorem headsA_len (B : List Ins) (i : Nat) : (headsA B i).length = i := by simp [headsA]
/-- An else that is not at fault lies in an if. -/
theorem else_hd {B : List Ins} {i : Nat} (h : err B i = 0) (h5 : ((nth B i).op == 5) = true) : 0 ≤ hd B i ∧ (nth B (hd B i).toNat).op = 4 ∧ els B (hd B i) i = false := by
  have := (err_neg h).1
  simp only [badElse, h5, Bool.true_and, Bool.or_eq_false_iff, decide_eq_false_iff_not, bne_eq_false_iff_eq] at this
  exact ⟨by omega, this.1.2, this.2⟩

theorem s_rends (B : List Ins) (hn : B.length < 1000000) : PCalls Try.prog 13 [.sl 9 (B.map Ins.row)] (orNil B (endsA B B.length)) := by
  refine pfun_sound (ic := F_ref09_Ends.body) mixed c_ref09_Ends rfl rfl ?_
  simp only [F_ref09_Ends, go_sem, ↓reduceIte, Nat.reduceEqDiff, Nat.reduceLT, reduceCtorEq, Nat.reduceAdd, Nat.zero_add, decide_eq_true_eq, decide_eq_false_iff_not, Nat.reduceLeDiff, Nat.reduceBEq, Nat.reduceBNe, beq_self_eq_true, Int.reduceNeg, Int.reduceToNat, Nat.lt_add_one]
  refine call_same (s_rcheck B hn) (by simp [go_sem]) ?_
  simp only [go_sem, ↓reduceIte, Nat.reduceEqDiff, Nat.reduceLT, reduceCtorEq, Nat.reduceAdd, Nat.zero_add, decide_eq_true_eq, decide_eq_false_iff_not, Nat.reduceLeDiff, Nat.reduceBEq, Nat.reduceBNe, beq_self_eq_true, Int.reduceNeg, Int.reduceToNat, Nat.lt_add_one]
  refine ⟨fun h => pdone [] ?_ ?_, fun h => ?_⟩
  · have h' : (chk B).2 ≠ 0 := by simpa using h
    simp [go_sem, orNil, h']
  · have h' : (chk B).2 ≠ 0 := by simpa using h
    simp [go_sem, orNil, h']
  have h' : (chk B).2 = 0 := by simpa using h
  have hg := (good_iff B).1 h'
  have hne : ∀ j, j < B.length → 0 < (rnd B j).length := fun j hj => err_ne (hg.1 j hj)
  refine call_new (s_rnone B hn) rfl (by simp [go_sem]) 901 (by omega) (by simp [go_sem]) ?_
  simp only [go_sem, ↓reduceIte, Nat.reduceEqDiff, Nat.reduceLT, reduceCtorEq, Nat.reduceAdd, Nat.zero_add, decide_eq_true_eq, decide_eq_false_iff_not, Nat.reduceLeDiff, Nat.reduceBEq, Nat.reduceBNe, beq_self_eq_true, Int.reduceNeg, Int.reduceToNat, Nat.lt_add_one]
  refine loop_rule (fun i : Nat => ⟨[(6, .int .i64 i), (5, .ms 901 1 0 B.length), (0, .sl 9 (B.map Ins.row))], [(901, ⟨3, 1, (endsA B i).map ri, false⟩)]⟩) (fun i => i ≤ B.length) (fun i => B.length - i) 0 (Nat.zero_le _) (Wk.of ?_ ?_) ?_
  · simp [go_sem]
  · simp [go_sem, endsA]
  rintro i hi
  replace hi : i ≤ B.length := hi
  have hl := rnd_len B i
  have hw : (IntKind.i64.wrap (↑(rnd B i).length - 1)) = ((rnd B i).length : Int) - 1 := wi (by omega) (by omega)
  have hnt : ((rnd B i).length - 1 : Int).toNat = (rnd B i).length - 1 := by omega
  have hhd : nth (rnd B i) ((rnd B i).length - 1) = hd B i := rfl
  simp only [go_sem, ↓reduceIte, Nat.reduceEqDiff, Nat.reduceLT, reduceCtorEq, Nat.reduceAdd, Nat.zero_add, decide_eq_true_eq, decide_eq_false_iff_not, Nat.reduceLeDiff, Nat.reduceBEq, Nat.reduceBNe, beq_self_eq_true, Int.reduceNeg, Int.reduceToNat, Nat.lt_add_one]
  refine ⟨fun h => call_same (s_round B i (by omega) hn) (by simp [go_sem]) ?_, fun h => pdone [901] ?_ ?_⟩
  · obtain ⟨hb1, hb2⟩ := hd_bounds (fun j hj => hne j (by omega)) (hne i (by omega))
    have h0 := hne i (by omega)
    simp only [go_sem, ↓reduceIte, Nat.reduceEqDiff, Nat.reduceLT, reduceCtorEq, Nat.reduceAdd, Nat.zero_add, decide_eq_true_eq, decide_eq_false_iff_not, Nat.reduceLeDiff, Nat.reduceBEq, Nat.reduceBNe, beq_self_eq_true, Int.reduceNeg, Int.reduceToNat, Nat.lt_add_one, hw, hnt, hhd]
    refine ⟨by omega, by omega, by omega, by omega, fun h11 => ⟨fun hp => ⟨by omega, ?_, klp_n (i + 1) (show i + 1 ≤ B.length by omega) (by omega) (Wk.of ?_ ?_)⟩, fun hp => klp_n (i + 1) (show i + 1 ≤ B.length by omega) (by omega) (Wk.of ?_ ?_)⟩, fun h11 => klp_n (i + 1) (show i + 1 ≤ B.length by omega) (by omega) (Wk.of ?_ ?_)⟩
    · rw [endsA_len]; omega
    · simp [go_sem, wi (n := i + 1) (by omega) (by omega)]
    · have hp' : 0 ≤ hd B i := by omega
      simp [go_sem, endsA, h11, hp']
    · simp [go_sem, wi (n := i + 1) (by omega) (by omega)]
    · have hp' : ¬ 0 ≤ hd B i := by omega
      simp [go_sem, endsA, h11, hp']
    · simp [go_sem, wi (n := i + 1) (by omega) (by omega)]
    · simp [go_sem, endsA, h11]
  · have : i = B.length := by omega
    subst this
    simp [go_sem, orNil, h', endsA_len]
    exact List.take_of_length_le (by simp [endsA_len])
  · simp [go_sem, orNil, h']

theorem s_relses (B : List Ins) (hn : B.length < 1000000) : PCalls Try.prog 15 [.sl 9 (B.map Ins.row)] (orNil B (elsesA B B.length)) := by
  refine pfun_sound (ic := F_ref09_Elses.body) mixed c_ref09_Elses rfl rfl ?_
  simp only [F_ref09_Elses, go_sem, ↓reduceIte, Nat.reduceEqDiff, Nat.reduceLT, reduceCtorEq, Nat.reduceAdd, Nat.zero_add, decide_eq_true_eq, decide_eq_false_iff_not, Nat.reduceLeDiff, Nat.reduceBEq, Nat.reduceBNe, beq_self_eq_true, Int.reduceNeg, Int.reduceToNat, Nat.lt_add_one]
  refine call_same (s_rcheck B hn) (by simp [go_sem]) ?_
  simp only [go_sem, ↓reduceIte, Nat.reduceEqDiff, Nat.reduceLT, reduceCtorEq, Nat.reduceAdd, Nat.zero_add, decide_eq_true_eq, decide_eq_false_iff_not, Nat.reduceLeDiff, Nat.reduceBEq, Nat.reduceBNe, beq_self_eq_true, Int.reduceNeg, Int.reduceToNat, Nat.lt_add_one]
  refine ⟨fun h => pdone [] ?_ ?_, fun h => ?_⟩
  · have h' : (chk B).2 ≠ 0 := by simpa using h
    simp [go_sem, orNil, h']
  · have h' : (chk B).2 ≠ 0 := by simpa using h
    simp [go_sem, orNil, h']
  have h' : (chk B).2 = 0 := by simpa using h
  have hg := (good_iff B).1 h'
  have hne : ∀ j, j < B.length → 0 < (rnd B j).length := fun j hj => err_ne (hg.1 j hj)
  refine call_new (s_rnone B hn) rfl (by simp [go_sem]) 901 (by omega) (by simp [go_sem]) ?_
  simp only [go_sem, ↓reduceIte, Nat.reduceEqDiff, Nat.reduceLT, reduceCtorEq, Nat.reduceAdd, Nat.zero_add, decide_eq_true_eq, decide_eq_false_iff_not, Nat.reduceLeDiff, Nat.reduceBEq, Nat.reduceBNe, beq_self_eq_true, Int.reduceNeg, Int.reduceToNat, Nat.lt_add_one]
  refine loop_rule (fun i : Nat => ⟨[(6, .int .i64 i), (5, .ms 901 1 0 B.length), (0, .sl 9 (B.map Ins.row))], [(901, ⟨3, 1, (elsesA B i).map ri, false⟩)]⟩) (fun i => i ≤ B.length) (fun i => B.length - i) 0 (Nat.zero_le _) (Wk.of ?_ ?_) ?_
  · simp [go_sem]
  · simp [go_sem, elsesA]
  rintro i hi
  replace hi : i ≤ B.length := hi
  have hl := rnd_len B i
  have hw : (IntKind.i64.wrap (↑(rnd B i).length - 1)) = ((rnd B i).length : Int) - 1 := wi (by omega) (by omega)
  have hnt : ((rnd B i).length - 1 : Int).toNat = (rnd B i).length - 1 := by omega
  have hhd : nth (rnd B i) ((rnd B i).length - 1) = hd B i := rfl
  simp only [go_sem, ↓reduceIte, Nat.reduceEqDiff, Nat.reduceLT, reduceCtorEq, Nat.reduceAdd, Nat.zero_add, decide_eq_true_eq, decide_eq_false_iff_not, Nat.reduceLeDiff, Nat.reduceBEq, Nat.reduceBNe, beq_self_eq_true, Int.reduceNeg, Int.reduceToNat, Nat.lt_add_one]
  refine ⟨fun h => call_same (s_round B i (by omega) hn) (by simp [go_sem]) ?_, fun h => pdone [901] ?_ ?_⟩
  · obtain ⟨hb1, hb2⟩ := hd_bounds (fun j hj => hne j (by omega)) (hne i (by omega))
    have h0 := hne i (by omega)
    simp only [go_sem, ↓reduceIte, Nat.reduceEqDiff, Nat.reduceLT, reduceCtorEq, Nat.reduceAdd, Nat.zero_add, decide_eq_true_eq, decide_eq_false_iff_not, Nat.reduceLeDiff, Nat.reduceBEq, Nat.reduceBNe, beq_self_eq_true, Int.reduceNeg, Int.reduceToNat, Nat.lt_add_one, hw, hnt, hhd]
    refine ⟨by omega, by omega, fun h5 => ?_, fun h5 => klp_n (i + 1) (show i + 1 ≤ B.length by omega) (by omega) (Wk.of ?_ ?_)⟩
    · obtain ⟨he, _⟩ := else_hd (hg.1 i (by omega)) h5
      refine ⟨by omega, by omega, by omega, ?_, klp_n (i + 1) (show i + 1 ≤ B.length by omega) (by omega) (Wk.of ?_ ?_)⟩
      · rw [elsesA_len]; omega
      · simp [go_sem, wi (n := i + 1) (by omega) (by omega)]
      · simp [go_sem, elsesA, h5]
    · simp [go_sem, wi (n := i + 1) (by omega) (by omega)]
    · simp [go_sem, elsesA, h5]
  · have : i = B.length := by omega
    subst this
    simp [go_sem, orNil, h', elsesA_len]
    exact List.take_of_length_le (by simp [elsesA_len])
  · simp [go_sem, orNil, h']

theorem s_rdepths (B : List Ins) (hn : B.length < 1000000) : PCalls Try.prog 17 [.sl 9 (B.map Ins.row)] (orNil B (depthsA B B.length)) := by
  refine pfun_sound (ic := F_ref09_Depths.body) mixed c_ref09_Depths rfl rfl ?_
  simp only [F_ref09_Depths, go_sem, ↓reduceIte, Nat.reduceEqDiff, Nat.reduceLT, reduceCtorEq, Nat.reduceAdd, Nat.zero_add, decide_eq_true_eq, decide_eq_false_iff_not, Nat.reduceLeDiff, Nat.reduceBEq, Nat.reduceBNe, beq_self_eq_true, Int.reduceNeg, Int.reduceToNat, Nat.lt_add_one]
  refine call_same (s_rcheck B hn) (by simp [go_sem]) ?_
  simp only [go_sem, ↓reduceIte, Nat.reduceEqDiff, Nat.reduceLT, reduceCtorEq, Nat.reduceAdd, Nat.zero_add, decide_eq_true_eq, decide_eq_false_iff_not, Nat.reduceLeDiff, Nat.reduceBEq, Nat.reduceBNe, beq_self_eq_true, Int.reduceNeg, Int.reduceToNat, Nat.lt_add_one]
  refine ⟨fun h => pdone [] ?_ ?_, fun h => ?_⟩
  · have h' : (chk B).2 ≠ 0 := by simpa using h
    simp [go_sem, orNil, h']
  · have h' : (chk B).2 ≠ 0 := by simpa using h
    simp [go_sem, orNil, h']
  have h' : (chk B).2 = 0 := by simpa using h
  have hg := (good_iff B).1 h'
  have hne : ∀ j, j < B.length → 0 < (rnd B j).length := fun j hj => err_ne (hg.1 j hj)
  refine loop_rule (fun i : Nat => ⟨[(6, .int .i64 i), (5, .ms 900 1 0 i), (0, .sl 9 (B.map Ins.row))], [(900, ⟨3, 1, (depthsA B i).map ri, false⟩)]⟩) (fun i => i ≤ B.length) (fun i => B.length - i) 0 (Nat.zero_le _) ((Wk.nil _ 5 900 1 3 ?_ (by omega)).trans (Wk.of ?_ ?_)) ?_
  · simp [go_sem]
  · simp [go_sem, St.mknil]
  · simp [go_sem, St.mknil, depthsA]
  rintro i hi
  replace hi : i ≤ B.length := hi
  have hl := rnd_len B i
  have hw : (IntKind.i64.wrap (↑(rnd B i).length - 1)) = ((rnd B i).length : Int) - 1 := wi (by omega) (by omega)
  have hnt : ((rnd B i).length - 1 : Int).toNat = (rnd B i).length - 1 := by omega
  have hhd : nth (rnd B i) ((rnd B i).length - 1) = hd B i := rfl
  have hA := depthsA_len B i
  simp only [go_sem, ↓reduceIte, Nat.reduceEqDiff, Nat.reduceLT, reduceCtorEq, Nat.reduceAdd, Nat.zero_add, decide_eq_true_eq, decide_eq_false_iff_not, Nat.reduceLeDiff, Nat.reduceBEq, Nat.reduceBNe, beq_self_eq_true, Int.reduceNeg, Int.reduceToNat, Nat.lt_add_one]
  refine ⟨fun h => call_same (s_round B i (by omega) hn) (by simp [go_sem]) ?_, fun h => pdone [900] ?_ ?_⟩
  · have h0 := hne i (by omega)
    simp only [go_sem, ↓reduceIte, Nat.reduceEqDiff, Nat.reduceLT, reduceCtorEq, Nat.reduceAdd, Nat.zero_add, decide_eq_true_eq, decide_eq_false_iff_not, Nat.reduceLeDiff, Nat.reduceBEq, Nat.reduceBNe, beq_self_eq_true, Int.reduceNeg, Int.reduceToNat, Nat.lt_add_one, hw, hnt, hhd, appO_map _ _ _ _ _ _ _ hA]
    refine ⟨by omega, klp_n (i + 1) (show i + 1 ≤ B.length by omega) (by omega) (Wk.of ?_ ?_)⟩
    · simp [go_sem, wi (n := i + 1) (by omega) (by omega)]
    · simp [go_sem, depthsA_succ]
  · have : i = B.length := by omega
    subst this
    simp [go_sem, orNil, h', depthsA_len]
    exact List.take_of_length_le (by simp [depthsA_len])
  · simp [go_sem, orNil, h']

theorem s_rheads (B : List Ins) (hn : B.length < 1000000) : PCalls Try.prog 19 [.sl 9 (B.map Ins.row)] (orNil B (headsA B B.length)) := by
  refine pfun_sound (ic := F_ref09_Heads.body) mixed c_ref09_Heads rfl rfl ?_
  simp only [F_ref09_Heads, go_sem, ↓reduceIte, Nat.reduceEqDiff, Nat.reduceLT, reduceCtorEq, Nat.reduceAdd, Nat.zero_add, decide_eq_true_eq, decide_eq_false_iff_not, Nat.reduceLeDiff, Nat.reduceBEq, Nat.reduceBNe, beq_self_eq_true, Int.reduceNeg, Int.reduceToNat, Nat.lt_add_one]
  refine call_same (s_rcheck B hn) (by simp [go_sem]) ?_
  simp only [go_sem, ↓reduceIte, Nat.reduceEqDiff, Nat.reduceLT, reduceCtorEq, Nat.reduceAdd, Nat.zero_add, decide_eq_true_eq, decide_eq_false_iff_not, Nat.reduceLeDiff, Nat.reduceBEq, Nat.reduceBNe, beq_self_eq_true, Int.reduceNeg, Int.reduceToNat, Nat.lt_add_one]
  refine ⟨fun h => pdone [] ?_ ?_, fun h => ?_⟩
  · have h' : (chk B).2 ≠ 0 := by simpa using h
    simp [go_sem, orNil, h']
  · have h' : (chk B).2 ≠ 0 := by simpa using h
    simp [go_sem, orNil, h']
  have h' : (chk B).2 = 0 := by simpa using h
  have hg := (good_iff B).1 h'
  have hne : ∀ j, j < B.length → 0 < (rnd B j).length := fun j hj => err_ne (hg.1 j hj)
  refine loop_rule (fun i : Nat => ⟨[(6, .int .i64 i), (5, .ms 900 1 0 i), (0, .sl 9 (B.map Ins.row))], [(900, ⟨3, 1, (headsA B i).map ri, false⟩)]⟩) (fun i => i ≤ B.length) (fun i => B.length - i) 0 (Nat.zero_le _) ((Wk.nil _ 5 900 1 3 ?_ (by omega)).trans (Wk.of ?_ ?_)) ?_
  · simp [go_sem]
  · simp [go_sem, St.mknil]
  · simp [go_sem, St.mknil, headsA]
  rintro i hi
  replace hi : i ≤ B.length := hi
  have hl := rnd_len B i
  have hw : (IntKind.i64.wrap (↑(rnd B i).length - 1)) = ((rnd B i).length : Int) - 1 := wi (by omega) (by omega)
  have hnt : ((rnd B i).length - 1 : Int).toNat = (rnd B i).length - 1 := by omega
  have hhd : nth (rnd B i) ((rnd B i).length - 1) = hd B i := rfl
  have hA := headsA_len B i
  simp only [go_sem, ↓reduceIte, Nat.reduceEqDiff, Nat.reduceLT, reduceCtorEq, Nat.reduceAdd, Nat.zero_add, decide_eq_true_eq, decide_eq_false_iff_not, Nat.reduceLeDiff, Nat.reduceBEq, Nat.reduceBNe, beq_self_eq_true, Int.reduceNeg, Int.reduceToNat, Nat.lt_add_one]
  refine ⟨fun h => call_same (s_round B i (by omega) hn) (by simp [go_sem]) ?_, fun h => pdone [900] ?_ ?_⟩
  · have h0 := hne i (by omega)
    simp only [go_sem, ↓reduceIte, Nat.reduceEqDiff, Nat.reduceLT, reduceCtorEq, Nat.reduceAdd, Nat.zero_add, decide_eq_true_eq, decide_eq_false_iff_not, Nat.reduceLeDiff, Nat.reduceBEq, Nat.reduceBNe, beq_self_eq_true, Int.reduceNeg, Int.reduceToNat, Nat.lt_add_one, hw, hnt, hhd, appO_map _ _ _ _ _ _ _ hA]
    refine ⟨by omega, by omega, by omega, klp_n (i + 1) (show i + 1 ≤ B.length by omega) (by omega) (Wk.of ?_ ?_)⟩
    · simp [go_sem, wi (n := i + 1) (by omega) (by omega)]
    · simp [go_sem, headsA_succ]
  · have : i = B.length := by omega
    subst this
    simp [go_sem, orNil, h', headsA_len]
    exact List.take_of_length_le (by simp [headsA_len])
  · simp [go_sem, orNil, h']

end Go.Proofs.Ytlmnepdibhdpaaa
