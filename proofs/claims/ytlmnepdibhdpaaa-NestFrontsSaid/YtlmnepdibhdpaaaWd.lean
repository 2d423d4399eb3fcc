/-
  Chapter 9, walks: nest.look.
-/
import Derived.Test.YtlmnepdibhdpaaaWc
set_option linter.unusedSimpArgs false
set_option maxRecDepth 100000
set_option maxHeartbeats 4000000
namespace Go.Proofs.Ytlmnepdibhdpaaa
open Go Go.Mw

/-- A block that has begun. -/
def rk (p : Int × Bool) : List AV := [.int .i64 p.1, .bool p.2]
theorem rk_e (p : Int × Bool) : rk p = [.int .i64 p.1, .bool p.2] := rfl
attribute [go_sem] rk_e

def depthsP (B : List Ins) (i : Nat) : List Int := depthsA B i ++ List.replicate (B.length - i) (-1)
def headsP (B : List Ins) (i : Nat) : List Int := headsA B i ++ List.replicate (B.length - i) (-1)
def stk (B : List Ins) (i : Nat) : List (Int × Bool) := (rnd B i).map fun h => (h, els B h i)

def lookR (B : List Ins) : AV := .tup [.agg [orNil B (endsA B B.length), orNil B (elsesA B B.length), orNil B (depthsA B B.length), orNil B (headsA B B.length)], .int .i64 (chk B).1, .int .i64 (chk B).2]

theorem lookR_err {B : List Ins} {a e : Int} (h : chk B = (a, e)) (he : e ≠ 0) : lookR B = .tup [.agg [.nl, .nl, .nl, .nl], .int .i64 a, .int .i64 e] := by simp [lookR, orNil, h, he]
theorem lookR_ok {B : List Ins} (h : chk B = (0, 0)) : lookR B = .tup [.agg [.sl 1 ((endsA B B.length).map ri), .sl 1 ((elsesA B B.length).map ri), .sl 1 ((depthsA B B.length).map ri), .sl 1 ((headsA B B.length).map ri)], .int .i64 0, .int .i64 0] := by simp [lookR, orNil, h]
theorem setP {l : List Int} {i n : Nat} {x : Int} (hl : l.length = i) (hi : i < n) : (l ++ List.replicate (n - i) (-1)).set i x = (l ++ [x]) ++ List.replicate (n - (i + 1)) (-1) := by
  subst hl
  rw [List.set_append_right _ _ (Nat.le_refl _), Nat.sub_self, show n - l.length = (n - (l.length + 1)) + 1 by omega, List.replicate_succ, List.set_cons_zero]
  simp
theorem depthsP_succ {B : List Ins} {i : Nat} (hi : i < B.length) : (depthsP B i).set i ((rnd B i).length : Int) = depthsP B (i + 1) := by
  rw [depthsP, setP (depthsA_len B i) hi, ← depthsA_succ, depthsP]
theorem headsP_succ {B : List Ins} {i : Nat} (hi : i < B.length) : (headsP B i).set i (hd B i) = headsP B (i + 1) := by
  rw [headsP, setP (headsA_len B i) hi, ← headsA_succ, headsP]
theorem stk_len (B : List Ins) (i : Nat) : (stk B i).length = (rnd B i).length := by simp [stk]
theorem stk_top {B : List Ins} {i : Nat} {J : List (Int × Bool)} (h : 0 < (rnd B i).length) : nth (stk B i ++ J) ((rnd B i).length - 1) = (hd B i, els B (hd B i) i) := by
  rw [nth_app_l (by rw [stk_len]; omega), stk, nth_map (by omega)]
  rfl
theorem els_same {B : List Ins} {h : Int} {i : Nat} (h5 : ((nth B i).op == 5) = false) : els B h (i + 1) = els B h i := by rw [els_succ, h5]; simp
theorem els_new {B : List Ins} {i : Nat} : els B i (i + 1) = false := by
  simp only [els, List.any_eq_false]
  intro j hj
  simp at hj ⊢
  omega
theorem stk_push {B : List Ins} {i : Nat} (h5 : ((nth B i).op == 5) = false) (hb : bg (nth B i).op = true) : stk B (i + 1) = stk B i ++ [((i : Int), false)] := by
  have hi0 : els B i i = false := by rw [← els_same h5]; exact els_new
  simp only [stk, rnd, stp, hb, if_true, List.map_append, List.map_cons, List.map_nil, els_same h5, hi0]
theorem stk_pop {B : List Ins} {i : Nat} (h5 : ((nth B i).op == 5) = false) (hb : bg (nth B i).op = false) (h11 : ((nth B i).op == 11) = true) : stk B (i + 1) = (stk B i).dropLast := by
  simp only [stk, rnd, stp, hb, h11, if_true, Bool.false_eq_true, if_false, els_same h5, List.map_dropLast]
theorem stk_same {B : List Ins} {i : Nat} (h5 : ((nth B i).op == 5) = false) (hb : bg (nth B i).op = false) (h11 : ((nth B i).op == 11) = false) : stk B (i + 1) = stk B i := by
  simp only [stk, rnd, stp, hb, h11, Bool.false_eq_true, if_false, els_same h5]
theorem stk_else {B : List Ins} {i : Nat} (hne : ∀ j, j < i → 0 < (rnd B j).length) (h0 : 0 < (rnd B i).length) (hh : hd B i < i) (h5 : ((nth B i).op == 5) = true) : stk B (i + 1) = (stk B i).set ((rnd B i).length - 1) (hd B i, true) := by
  have h5' : (nth B i).op = 5 := by simpa using h5
  have hr : rnd B (i + 1) = rnd B i := by simp [rnd, stp, bg, h5']
  refine List.ext_getElem (by simp [stk, hr]) fun k h1 h2 => ?_
  have hk : k < (rnd B i).length := by rw [stk_len, hr] at h1; exact h1
  simp only [stk, List.getElem_map, hr, List.getElem_set]
  by_cases hkl : (rnd B i).length - 1 = k
  · subst hkl
    rw [if_pos rfl]
    have : (rnd B i)[(rnd B i).length - 1] = hd B i := (nth_eq hk).symm
    rw [this, els_succ, h5]
    simp [hh, h0]
  · rw [if_neg hkl, els_succ, h5]
    have : (hd B i == (rnd B i)[k]) = false := by
      rw [beq_eq_false_iff_ne]
      intro he
      rcases hd_cases hne h0 with ⟨g1, _⟩ | ⟨_, j, g2, g3, g4, _⟩
      · omega
      · have hkj : k < (rnd B j).length := by rw [g4, List.length_take]; omega
        have e1 : nth (rnd B j) k = (rnd B i)[k] := by rw [g4, nth_take (by omega), nth_eq hk]
        rcases rnd_below B j (fun m hm => hne m (by omega)) k hkj with ⟨_, g5⟩ | ⟨_, m, g5, g6, _⟩ <;> omega
    rw [this]
    simp
theorem rnd_le32 (B : List Ins) : ∀ i, (∀ j, j < i → err B j = 0) → (rnd B i).length ≤ 32
  | 0, _ => by simp [rnd]
  | i + 1, he => by
    have ih := rnd_le32 B i (fun j hj => he j (by omega))
    have := (err_neg (he i (by omega))).2
    simp only [rnd, stp]
    split
    · rename_i hb
      rw [hb] at this
      simp at this ⊢
      omega
    · split
      · simp; omega
      · exact ih
theorem stO_had (id row : Nat) (t : TypeId) (l : List (Int × Bool)) : stO id 1 2 row 1 (some ⟨t, 2, l.map rk, false⟩) (some [.bool true]) = if row < l.length then some (.put id ⟨t, 2, (l.set row ((nth l row).1, true)).map rk, false⟩) else none :=
  stO_part id 1 2 row 1 t rk l [.bool true] (fun p => (p.1, true)) rfl rfl (fun _ => Nat.le_refl 2) (fun _ => rfl)

theorem s_look (B : List Ins) (hn : B.length < 1000000) : PCalls Try.prog 23 [.sl 9 (B.map Ins.row)] (lookR B) := by
  refine pfun_sound (ic := F_nest_look.body) mixed c_nest_look rfl rfl ?_
  simp only [F_nest_look, go_sem, ↓reduceIte, Nat.reduceEqDiff, Nat.reduceLT, reduceCtorEq, Nat.reduceAdd, Nat.zero_add, decide_eq_true_eq, decide_eq_false_iff_not, Nat.reduceLeDiff, Nat.reduceBEq, Nat.reduceBNe, beq_self_eq_true, Int.reduceNeg, Int.reduceToNat, Nat.lt_add_one]
  refine call_new (s_none B.length (by omega)) rfl (by simp [go_sem]) 901 (by omega) (by simp [go_sem]) ?_
  simp only [go_sem, ↓reduceIte, Nat.reduceEqDiff, Nat.reduceLT, reduceCtorEq, Nat.reduceAdd, Nat.zero_add, decide_eq_true_eq, decide_eq_false_iff_not, Nat.reduceLeDiff, Nat.reduceBEq, Nat.reduceBNe, beq_self_eq_true, Int.reduceNeg, Int.reduceToNat, Nat.lt_add_one]
  refine call_new (s_none B.length (by omega)) rfl (by simp [go_sem]) 902 (by omega) (by simp [go_sem]) ?_
  simp only [go_sem, ↓reduceIte, Nat.reduceEqDiff, Nat.reduceLT, reduceCtorEq, Nat.reduceAdd, Nat.zero_add, decide_eq_true_eq, decide_eq_false_iff_not, Nat.reduceLeDiff, Nat.reduceBEq, Nat.reduceBNe, beq_self_eq_true, Int.reduceNeg, Int.reduceToNat, Nat.lt_add_one]
  refine call_new (s_none B.length (by omega)) rfl (by simp [go_sem]) 903 (by omega) (by simp [go_sem]) ?_
  simp only [go_sem, ↓reduceIte, Nat.reduceEqDiff, Nat.reduceLT, reduceCtorEq, Nat.reduceAdd, Nat.zero_add, decide_eq_true_eq, decide_eq_false_iff_not, Nat.reduceLeDiff, Nat.reduceBEq, Nat.reduceBNe, beq_self_eq_true, Int.reduceNeg, Int.reduceToNat, Nat.lt_add_one]
  refine call_new (s_none B.length (by omega)) rfl (by simp [go_sem]) 904 (by omega) (by simp [go_sem]) ?_
  simp only [go_sem, ↓reduceIte, Nat.reduceEqDiff, Nat.reduceLT, reduceCtorEq, Nat.reduceAdd, Nat.zero_add, decide_eq_true_eq, decide_eq_false_iff_not, Nat.reduceLeDiff, Nat.reduceBEq, Nat.reduceBNe, beq_self_eq_true, Int.reduceNeg, Int.reduceToNat, Nat.lt_add_one]
  refine loop_rule (fun q : Nat × List (Int × Bool) => ⟨[(26, .int .i64 q.1), (25, .int .i64 B.length), (24, .sl 9 (B.map Ins.row)), (7, .ms 23 2 0 (rnd B q.1).length), (6, .mp 6 4 0 0), (5, .int .i64 B.length), (2, .mp 2 4 0 0), (0, .sl 9 (B.map Ins.row))],
      [(23, ⟨53, 2, (stk B q.1 ++ q.2).map rk, false⟩), (6, ⟨46, 4, [[.ms 901 1 0 B.length, .ms 902 1 0 B.length, .ms 903 1 0 B.length, .ms 904 1 0 B.length]], true⟩),
       (904, ⟨3, 1, (headsP B q.1).map ri, false⟩), (903, ⟨3, 1, (depthsP B q.1).map ri, false⟩), (902, ⟨3, 1, (elsesA B q.1).map ri, false⟩), (901, ⟨3, 1, (endsA B q.1).map ri, false⟩), (2, ⟨46, 4, [[.nl, .nl, .nl, .nl]], true⟩)]⟩)
    (fun q => q.1 ≤ B.length ∧ ∀ j, j < q.1 → err B j = 0) (fun q => B.length - q.1) (0, []) ⟨Nat.zero_le _, fun j hj => absurd hj (Nat.not_lt_zero _)⟩ (Wk.of ?_ ?_) ?_
  · simp [go_sem, rnd]
  · simp [go_sem, stk, rnd, headsP, depthsP, headsA, depthsA, endsA, elsesA, els]
  rintro ⟨i, J⟩ ⟨hi, he⟩
  replace hi : i ≤ B.length := hi
  replace he : ∀ j, j < i → err B j = 0 := he
  have hl := rnd_len B i
  have hsl := stk_len B i
  have hdl : (depthsP B i).length = B.length := by simp [depthsP, depthsA_len]; omega
  have hhl : (headsP B i).length = B.length := by simp [headsP, headsA_len]; omega
  have hw : (IntKind.i64.wrap (↑(rnd B i).length - 1)) = ((rnd B i).length : Int) - 1 := wi (by omega) (by omega)
  have hnt : ((rnd B i).length - 1 : Int).toNat = (rnd B i).length - 1 := by omega
  have hne : ∀ j, j < i → 0 < (rnd B j).length := fun j hj => err_ne (he j hj)
  rcases Nat.lt_or_ge i B.length with hlt | hge
  · have hd1 : decide ((i : Int) < (B.length : Int)) = true := by simp; omega
    by_cases h0 : (rnd B i).length = 0
    · have h0' : (((rnd B i).length : Int) == 0) = true := by simp [h0]
      have h16 : err B i = 16 := by simp only [err, h0, if_true]
      have hc : chk B = ((i : Int), 16) := by rw [chk_at hlt he (by rw [h16]; decide), h16]
      simp only [go_sem, ↓reduceIte, Nat.reduceEqDiff, Nat.reduceLT, reduceCtorEq, Nat.reduceAdd, Nat.zero_add, decide_eq_true_eq, decide_eq_false_iff_not, Nat.reduceLeDiff, Nat.reduceBEq, Nat.reduceBNe, beq_self_eq_true, Int.reduceNeg, Int.reduceToNat, Nat.lt_add_one, hd1, h0']
      refine ⟨by omega, by omega, pdone [] ?_ ?_⟩
      · rw [lookR_err hc (by decide)]; simp [go_sem]
      · rw [lookR_err hc (by decide)]; rfl
    have h0' : (((rnd B i).length : Int) == 0) = false := by simp; exact fun h => h0 (by simp [h])
    have hp : 0 < (rnd B i).length := by omega
    obtain ⟨hb1, hb2⟩ := hd_bounds hne hp
    have htop := stk_top (J := J) hp
    have herr : ∀ e : Int, e ≠ 0 → err B i = e → chk B = ((i : Int), e) := fun e h1 h2 => by rw [chk_at hlt he (by rw [h2]; exact h1), h2]
    have hsucc : err B i = 0 → ∀ j, j < i + 1 → err B j = 0 := fun h0 j hj => by
      rcases Nat.lt_or_eq_of_le (Nat.le_of_lt_succ hj) with h1 | h1
      · exact he j h1
      · rw [h1]; exact h0
    have happ := fun ys => appO_take 23 53 2 (rnd B i).length rk (stk B i ++ J) ys (by simp [hsl])
    have htk : List.take (rnd B i).length (stk B i ++ J) = stk B i := by rw [← hsl]; simp
    have hwi := wi (n := (i : Int) + 1) (by omega) (by omega)
    by_cases hb : bg (nth B i).op = true
    · have h5 : ((nth B i).op == 5) = false := by simp [bg] at hb ⊢; omega
      have hbe : badElse B i = false := by simp [badElse, h5]
      have key : ∀ b2 b3 b4 : Bool, ((nth B i).op == 2) = b2 → ((nth B i).op == 3) = b3 → ((nth B i).op == 4) = b4 → (b2 || b3 || b4) = true → True := fun _ _ _ _ _ _ _ => trivial
      have hop : (nth B i).op = 2 ∨ (nth B i).op = 3 ∨ (nth B i).op = 4 := by simp [bg] at hb; omega
      by_cases h32 : (rnd B i).length = 32
      · have h32' : (((rnd B i).length : Int) == 32) = true := by simp [h32]
        have hc := herr 6 (by decide) (by simp only [err, if_neg h0, hbe, hb]; simp [h32])
        rcases hop with hop | hop | hop
        all_goals
          simp only [go_sem, ↓reduceIte, Nat.reduceEqDiff, Nat.reduceLT, reduceCtorEq, Nat.reduceAdd, Nat.zero_add, decide_eq_true_eq, decide_eq_false_iff_not, Nat.reduceLeDiff, Nat.reduceBEq, Nat.reduceBNe, beq_self_eq_true, Int.reduceNeg, Int.reduceToNat, Nat.lt_add_one, hd1, h0', hw, hnt, htop, hop, Int.reduceBEq, h32']
          refine ⟨by omega, by omega, by omega, by omega, by omega, by simp; omega, by omega, by omega, pdone [] ?_ ?_⟩
          · rw [lookR_err hc (by decide)]; simp [go_sem]
          · rw [lookR_err hc (by decide)]; rfl
      · have h32' : (((rnd B i).length : Int) == 32) = false := by simp; omega
        have hlt32 : (rnd B i).length < 32 := by have := rnd_le32 B i he; omega
        have he0 : err B i = 0 := by simp only [err, if_neg h0, hbe, hb]; simp; omega
        rcases hop with hop | hop | hop
        all_goals
          have hpu := stk_push h5 hb
          simp only [go_sem, ↓reduceIte, Nat.reduceEqDiff, Nat.reduceLT, reduceCtorEq, Nat.reduceAdd, Nat.zero_add, decide_eq_true_eq, decide_eq_false_iff_not, Nat.reduceLeDiff, Nat.reduceBEq, Nat.reduceBNe, beq_self_eq_true, Int.reduceNeg, Int.reduceToNat, Nat.lt_add_one, hd1, h0', hw, hnt, htop, hop, Int.reduceBEq, h32', happ, htk, depthsP_succ hlt, headsP_succ hlt]
          refine ⟨by omega, by omega, by omega, by omega, by omega, by simp; omega, by omega, by omega, by omega, klp_n (i + 1, []) ⟨show i + 1 ≤ B.length by omega, hsucc he0⟩ (show B.length - (i + 1) < B.length - i by omega) (Wk.of ?_ ?_)⟩
          · simp [go_sem, hwi, rnd, stp, hb]
          · simp [go_sem, hpu, endsA, elsesA, hop]
    · have hb' : bg (nth B i).op = false := by simpa using hb
      have h2 : ((nth B i).op == 2) = false := by simp [bg] at hb'; simp [hb']
      have h3 : ((nth B i).op == 3) = false := by simp [bg] at hb'; simp [hb']
      have h4 : ((nth B i).op == 4) = false := by simp [bg] at hb'; simp [hb']
      by_cases h5 : ((nth B i).op == 5) = true
      · have h11 : ((nth B i).op == 11) = false := by simp at h5 ⊢; omega
        have hr : rnd B (i + 1) = rnd B i := by simp [rnd, stp, hb', h11]
        have hel := stk_else hne hp hb2 h5
        have hns : nth ((stk B i ++ J).set ((rnd B i).length - 1) (hd B i, true)) ((rnd B i).length - 1) = (hd B i, true) := nth_set_self (by simp; omega)
        simp only [go_sem, ↓reduceIte, Nat.reduceEqDiff, Nat.reduceLT, reduceCtorEq, Nat.reduceAdd, Nat.zero_add, decide_eq_true_eq, decide_eq_false_iff_not, Nat.reduceLeDiff, Nat.reduceBEq, Nat.reduceBNe, beq_self_eq_true, Int.reduceNeg, Int.reduceToNat, Nat.lt_add_one, hd1, h0', hw, hnt, htop, h2, h3, h4, h5, stO_had, hns, depthsP_succ hlt, headsP_succ hlt]
        have hbad : badElse B i = true → chk B = ((i : Int), 16) := fun hbe => herr 16 (by decide) (by simp only [err, if_neg h0, hbe, if_true])
        refine ⟨by omega, by omega, by omega, by omega, by omega, by simp; omega, by omega, by omega, by simp; omega, fun hneg => pdone [] ?_ ?_, fun hneg => ⟨by simp; omega, by omega, by omega, fun h4' => pdone [] ?_ ?_, fun h4' => ⟨by simp; omega, fun hels => pdone [] ?_ ?_, fun hels => ⟨by simp; omega, by simp; omega, by omega, ?_, klp_n (i + 1, J) ⟨show i + 1 ≤ B.length by omega, hsucc ?_⟩ (show B.length - (i + 1) < B.length - i by omega) (Wk.of ?_ ?_)⟩⟩⟩⟩
        · rw [lookR_err (hbad (by simp [badElse, h5, hneg])) (by decide)]; simp [go_sem]
        · rw [lookR_err (hbad (by simp [badElse, h5, hneg])) (by decide)]; rfl
        · rw [lookR_err (hbad (by simp [badElse, h5, h4'])) (by decide)]; simp [go_sem]
        · rw [lookR_err (hbad (by simp [badElse, h5, h4'])) (by decide)]; rfl
        · rw [lookR_err (hbad (by simp [badElse, h5, hels])) (by decide)]; simp [go_sem]
        · rw [lookR_err (hbad (by simp [badElse, h5, hels])) (by decide)]; rfl
        · rw [elsesA_len]; omega
        · have hbe : badElse B i = false := by simp [badElse, h4', hels]; intro _; omega
          simp only [err, if_neg h0, hbe, hb']
          rfl
        · simp [go_sem, hwi, hr]
        · have e1 : (stk B i ++ J).set ((rnd B i).length - 1) (hd B i, true) = (stk B i).set ((rnd B i).length - 1) (hd B i, true) ++ J := List.set_append_left _ _ (by omega)
          simp only [go_sem, ↓reduceIte, Nat.reduceEqDiff, Nat.reduceLT, reduceCtorEq, Nat.reduceAdd, Nat.zero_add, decide_eq_true_eq, decide_eq_false_iff_not, Nat.reduceLeDiff, Nat.reduceBEq, Nat.reduceBNe, beq_self_eq_true, Int.reduceNeg, Int.reduceToNat, Nat.lt_add_one, hel, e1, endsA, elsesA, h11, h5, Bool.false_and, Bool.false_eq_true]
      · have h5' : ((nth B i).op == 5) = false := by simpa using h5
        have hbe : badElse B i = false := by simp [badElse, h5']
        have he0 : err B i = 0 := by simp only [err, if_neg h0, hbe, hb']; rfl
        by_cases h11 : ((nth B i).op == 11) = true
        · have hpo := stk_pop h5' hb' h11
          have hr : rnd B (i + 1) = (rnd B i).dropLast := by simp [rnd, stp, hb', h11]
          have e1 : stk B i ++ J = (stk B i).dropLast ++ ((stk B i).drop ((rnd B i).length - 1) ++ J) := by
            rw [List.dropLast_eq_take, hsl, ← List.append_assoc, List.take_append_drop]
          simp only [go_sem, ↓reduceIte, Nat.reduceEqDiff, Nat.reduceLT, reduceCtorEq, Nat.reduceAdd, Nat.zero_add, decide_eq_true_eq, decide_eq_false_iff_not, Nat.reduceLeDiff, Nat.reduceBEq, Nat.reduceBNe, beq_self_eq_true, Int.reduceNeg, Int.reduceToNat, Nat.lt_add_one, hd1, h0', hw, hnt, htop, h2, h3, h4, h5', h11, depthsP_succ hlt, headsP_succ hlt]
          refine ⟨by omega, by omega, by omega, by omega, by omega, by simp; omega, by omega, by omega, by simp; omega, fun hge => ⟨by simp; omega, by omega, ?_, by omega, klp_n (i + 1, (stk B i).drop ((rnd B i).length - 1) ++ J) ⟨show i + 1 ≤ B.length by omega, hsucc he0⟩ (show B.length - (i + 1) < B.length - i by omega) (Wk.of ?_ ?_)⟩, fun hge => ⟨by omega, klp_n (i + 1, (stk B i).drop ((rnd B i).length - 1) ++ J) ⟨show i + 1 ≤ B.length by omega, hsucc he0⟩ (show B.length - (i + 1) < B.length - i by omega) (Wk.of ?_ ?_)⟩⟩
          · rw [endsA_len]; omega
          · simp [go_sem, hwi, hr]
          · have hge' : decide (0 ≤ hd B i) = true := by simp; omega
            simp only [go_sem, ↓reduceIte, Nat.reduceEqDiff, Nat.reduceLT, reduceCtorEq, Nat.reduceAdd, Nat.zero_add, decide_eq_true_eq, decide_eq_false_iff_not, Nat.reduceLeDiff, Nat.reduceBEq, Nat.reduceBNe, beq_self_eq_true, Int.reduceNeg, Int.reduceToNat, Nat.lt_add_one, hpo, ← e1, endsA, elsesA, h11, h5', hge', Bool.false_eq_true, Bool.and_self]
          · simp [go_sem, hwi, hr]
          · have hge' : decide (0 ≤ hd B i) = false := by simp; omega
            simp only [go_sem, ↓reduceIte, Nat.reduceEqDiff, Nat.reduceLT, reduceCtorEq, Nat.reduceAdd, Nat.zero_add, decide_eq_true_eq, decide_eq_false_iff_not, Nat.reduceLeDiff, Nat.reduceBEq, Nat.reduceBNe, beq_self_eq_true, Int.reduceNeg, Int.reduceToNat, Nat.lt_add_one, hpo, ← e1, endsA, elsesA, h11, h5', hge', Bool.false_eq_true, Bool.and_false]
        · have h11' : ((nth B i).op == 11) = false := by simpa using h11
          have hsm := stk_same h5' hb' h11'
          have hr : rnd B (i + 1) = rnd B i := by simp [rnd, stp, hb', h11']
          simp only [go_sem, ↓reduceIte, Nat.reduceEqDiff, Nat.reduceLT, reduceCtorEq, Nat.reduceAdd, Nat.zero_add, decide_eq_true_eq, decide_eq_false_iff_not, Nat.reduceLeDiff, Nat.reduceBEq, Nat.reduceBNe, beq_self_eq_true, Int.reduceNeg, Int.reduceToNat, Nat.lt_add_one, hd1, h0', hw, hnt, htop, h2, h3, h4, h5', h11', depthsP_succ hlt, headsP_succ hlt]
          refine ⟨by omega, by omega, by omega, by omega, by omega, by simp; omega, by omega, by omega, klp_n (i + 1, J) ⟨show i + 1 ≤ B.length by omega, hsucc he0⟩ (show B.length - (i + 1) < B.length - i by omega) (Wk.of ?_ ?_)⟩
          · simp [go_sem, hwi, hr]
          · simp only [go_sem, ↓reduceIte, Nat.reduceEqDiff, Nat.reduceLT, reduceCtorEq, Nat.reduceAdd, Nat.zero_add, decide_eq_true_eq, decide_eq_false_iff_not, Nat.reduceLeDiff, Nat.reduceBEq, Nat.reduceBNe, beq_self_eq_true, Int.reduceNeg, Int.reduceToNat, Nat.lt_add_one, hsm, endsA, elsesA, h11', h5', Bool.false_eq_true, Bool.false_and]
  · have hd1 : decide ((i : Int) < (B.length : Int)) = false := by simp; omega
    have hiB : i = B.length := by omega
    subst hiB
    simp only [go_sem, ↓reduceIte, Nat.reduceEqDiff, Nat.reduceLT, reduceCtorEq, Nat.reduceAdd, Nat.zero_add, decide_eq_true_eq, decide_eq_false_iff_not, Nat.reduceLeDiff, Nat.reduceBEq, Nat.reduceBNe, beq_self_eq_true, Int.reduceNeg, Int.reduceToNat, Nat.lt_add_one, hd1]
    have hc := chk_end he
    refine ⟨fun hp => pdone [] ?_ ?_, fun hp => pdone [901, 902, 903, 904] ?_ ?_⟩
    · rw [if_pos (by omega)] at hc
      rw [lookR_err hc (by decide)]; simp [go_sem]
    · rw [if_pos (by omega)] at hc
      rw [lookR_err hc (by decide)]; rfl
    · rw [if_neg (by omega)] at hc
      rw [lookR_ok hc]
      simp [go_sem, endsA_len, elsesA_len, depthsA_len, headsA_len, depthsP, headsP]
      exact ⟨List.take_of_length_le (by simp [endsA_len]), List.take_of_length_le (by simp [elsesA_len]), List.take_of_length_le (by simp [depthsA_len]), List.take_of_length_le (by simp [headsA_len])⟩
    · rw [if_neg (by omega)] at hc
      rw [lookR_ok hc]; rfl
end Go.Proofs.Ytlmnepdibhdpaaa
