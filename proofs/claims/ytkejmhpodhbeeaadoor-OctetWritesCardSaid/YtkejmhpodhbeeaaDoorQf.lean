/-
  Chapter 2, walks: the rest of octet.Writer; nil receivers.
-/
import Derived.Test.YtkejmhpodhbeeaaDoorQd
import Derived.Test.YtkejmhpodhbeeaaDoorQe
import Derived.Test.YtkejmhpodhbeeaaDoorQc
set_option linter.unusedVariables false
set_option linter.unusedSimpArgs false
set_option linter.unusedSectionVars false
set_option linter.unusedSimpArgs false
set_option maxRecDepth 100000
set_option maxHeartbeats 4000000
set_option linter.unusedVariables false
namespace Go.Proofs.YtkejmhpodhbeeaaDoor
open Go Go.Mw
-- @U: wo, wa, slv_none, slv_some

/-- The end of a method of a Writer. -/
theorem doneW {l : List IRes} {s : St} {r : AV} {m : Bool} {x : List UInt8} {y : Int} {e : IX} (he : ∀ j, e ≠ .ext j) (h1 : iret l s = some r) (h2 : hget s.heap 1000 = some (wo 2000 m x y)) (h3 : hget s.heap 2000 = some (wa x)) (h4 : idsV r = []) :
    Done l (fun r' σ' => r' = r ∧ σ' = [(1000, wo 2000 m x y), (2000, wa x)]) e s := by
  refine ⟨he, s, fun _ _ _ h => h, [], r, [(1000, wo 2000 m x y), (2000, wa x)], h1, fun i o hi => ?_, clB_closed ?_, rfl, rfl⟩
  · simp only [hget] at hi
    split at hi
    · rename_i hki; subst hki; cases hi; exact h2
    · split at hi
      · rename_i hki; subst hki; cases hi; exact h3
      · cases hi
  · rw [clB, h4]; rfl
/-- Numbers with a sign: what is written. -/
def wS (ok : Bool) (l : List UInt8) (n : Int) : List UInt8 := wB ok l (putS n)
def wS33 (ok : Bool) (l : List UInt8) (e n : Int) : List UInt8 × Int := if n < -4294967296 ∨ n > 4294967295 then (l, if ok = true then 1 else e) else (wS ok l n, e)
def s32 (x : Int) : Int := IntKind.i64.wrap (IntKind.i32.wrap (IntKind.u32.wrap x))
theorem s32_in (x : Int) : -2147483648 ≤ s32 x ∧ s32 x < 2147483648 := by
  unfold s32
  rw [w_i64, w_i32]
  omega
theorem i64_in (x : Int) : inI (IntKind.i64.wrap x) := by unfold inI; rw [w_i64]; omega
theorem putS_10 {n : Int} (h : inI n) : (putS n).length ≤ 10 := putS_len (k := 9) (by unfold inI at h; omega) (by unfold inI at h; omega)
section
variable (m : Bool) (l : List UInt8) (e : Int) (hl : l.length < 10000000)
include hl
theorem s_wS32 (x : Int) : WM n_Poctet_Writer_S32 [.int .u64 x] m l e (.tup []) (wS (m && e == 0) l (s32 x)) e := by
  refine fun_sound (ic := F_Poctet_Writer_S32.body) mixed c_Poctet_Writer_S32 rfl rfl ?_
  have h1 := s32_in x
  have h2 := putS_10 (n := s32 x) ⟨by omega, by omega⟩
  simp only [go_sem, ↓reduceIte, Nat.reduceEqDiff, Nat.reduceLT, reduceCtorEq, Nat.reduceAdd, Nat.reduceLeDiff, Nat.reduceBEq, Nat.reduceBNe, Int.reduceNeg, Int.reduceToNat, Int.reduceBEq, Int.reduceBNe, wo, wa, F_Poctet_Writer_S32]
  refine call_same (s_PutS (s32 x) (by omega)) (by simp [go_sem, wo, wa]) ?_
  simp only [go_sem, ↓reduceIte, Nat.reduceEqDiff, Nat.reduceLT, reduceCtorEq, Nat.reduceAdd, Nat.reduceLeDiff, Nat.reduceBEq, Nat.reduceBNe, Int.reduceNeg, Int.reduceToNat, Int.reduceBEq, Int.reduceBNe, wo, wa]
  refine call_w [] (k := 1000) (j := 2000) (s_wbytes m l (putS (s32 x)) e ⟨by omega, by omega⟩) (by decide) (by decide) (by decide) (by decide) (by first | rfl | simp [go_sem, slv_ids, wo, wa]) (by simp [go_sem, wo, wa]) (by rfl) (by rfl) (by rfl) ?_
  simp only [go_sem, ↓reduceIte, Nat.reduceEqDiff, Nat.reduceLT, reduceCtorEq, Nat.reduceAdd, Nat.reduceLeDiff, Nat.reduceBEq, Nat.reduceBNe, Int.reduceNeg, Int.reduceToNat, Int.reduceBEq, Int.reduceBNe, wo, wa]
  exact doneW (fun _ h => by cases h) (by simp only [go_sem, ↓reduceIte, Nat.reduceEqDiff, Nat.reduceLT, reduceCtorEq, Nat.reduceAdd, Nat.reduceLeDiff, Nat.reduceBEq, Nat.reduceBNe, Int.reduceNeg, Int.reduceToNat, Int.reduceBEq, Int.reduceBNe, wo, wa]) (by simp only [go_sem, ↓reduceIte, Nat.reduceEqDiff, Nat.reduceLT, reduceCtorEq, Nat.reduceAdd, Nat.reduceLeDiff, Nat.reduceBEq, Nat.reduceBNe, Int.reduceNeg, Int.reduceToNat, Int.reduceBEq, Int.reduceBNe, wo, wa]; rfl) (by simp only [go_sem, ↓reduceIte, Nat.reduceEqDiff, Nat.reduceLT, reduceCtorEq, Nat.reduceAdd, Nat.reduceLeDiff, Nat.reduceBEq, Nat.reduceBNe, Int.reduceNeg, Int.reduceToNat, Int.reduceBEq, Int.reduceBNe, wo, wa]; rfl) rfl
theorem s_wS64 (x : Int) : WM n_Poctet_Writer_S64 [.int .u64 x] m l e (.tup []) (wS (m && e == 0) l (IntKind.i64.wrap x)) e := by
  refine fun_sound (ic := F_Poctet_Writer_S64.body) mixed c_Poctet_Writer_S64 rfl rfl ?_
  have h2 := putS_10 (i64_in x)
  simp only [go_sem, ↓reduceIte, Nat.reduceEqDiff, Nat.reduceLT, reduceCtorEq, Nat.reduceAdd, Nat.reduceLeDiff, Nat.reduceBEq, Nat.reduceBNe, Int.reduceNeg, Int.reduceToNat, Int.reduceBEq, Int.reduceBNe, wo, wa, F_Poctet_Writer_S64]
  refine call_same (s_PutS (IntKind.i64.wrap x) (i64_in x)) (by simp [go_sem, wo, wa]) ?_
  simp only [go_sem, ↓reduceIte, Nat.reduceEqDiff, Nat.reduceLT, reduceCtorEq, Nat.reduceAdd, Nat.reduceLeDiff, Nat.reduceBEq, Nat.reduceBNe, Int.reduceNeg, Int.reduceToNat, Int.reduceBEq, Int.reduceBNe, wo, wa]
  refine call_w [] (k := 1000) (j := 2000) (s_wbytes m l (putS (IntKind.i64.wrap x)) e ⟨by omega, by omega⟩) (by decide) (by decide) (by decide) (by decide) (by first | rfl | simp [go_sem, slv_ids, wo, wa]) (by simp [go_sem, wo, wa]) (by rfl) (by rfl) (by rfl) ?_
  simp only [go_sem, ↓reduceIte, Nat.reduceEqDiff, Nat.reduceLT, reduceCtorEq, Nat.reduceAdd, Nat.reduceLeDiff, Nat.reduceBEq, Nat.reduceBNe, Int.reduceNeg, Int.reduceToNat, Int.reduceBEq, Int.reduceBNe, wo, wa]
  exact doneW (fun _ h => by cases h) (by simp only [go_sem, ↓reduceIte, Nat.reduceEqDiff, Nat.reduceLT, reduceCtorEq, Nat.reduceAdd, Nat.reduceLeDiff, Nat.reduceBEq, Nat.reduceBNe, Int.reduceNeg, Int.reduceToNat, Int.reduceBEq, Int.reduceBNe, wo, wa]) (by simp only [go_sem, ↓reduceIte, Nat.reduceEqDiff, Nat.reduceLT, reduceCtorEq, Nat.reduceAdd, Nat.reduceLeDiff, Nat.reduceBEq, Nat.reduceBNe, Int.reduceNeg, Int.reduceToNat, Int.reduceBEq, Int.reduceBNe, wo, wa]; rfl) (by simp only [go_sem, ↓reduceIte, Nat.reduceEqDiff, Nat.reduceLT, reduceCtorEq, Nat.reduceAdd, Nat.reduceLeDiff, Nat.reduceBEq, Nat.reduceBNe, Int.reduceNeg, Int.reduceToNat, Int.reduceBEq, Int.reduceBNe, wo, wa]; rfl) rfl
theorem s_wS33 (x : Int) (hx : inI x) : WM n_Poctet_Writer_S33 [.int .i64 x] m l e (.tup []) (wS33 (m && e == 0) l e x).1 (wS33 (m && e == 0) l e x).2 := by
  refine fun_sound (ic := F_Poctet_Writer_S33.body) mixed c_Poctet_Writer_S33 rfl rfl ?_
  by_cases h1 : x < -4294967296
  · have r : wS33 (m && e == 0) l e x = (l, if (m && e == 0) = true then 1 else e) := by simp [wS33, h1]
    rw [r]
    simp only [go_sem, ↓reduceIte, Nat.reduceEqDiff, Nat.reduceLT, reduceCtorEq, Nat.reduceAdd, Nat.reduceLeDiff, Nat.reduceBEq, Nat.reduceBNe, Int.reduceNeg, Int.reduceToNat, Int.reduceBEq, Int.reduceBNe, wo, wa, F_Poctet_Writer_S33, decide_eq_true h1]
    refine call_w [] (k := 1000) (j := 2000) (s_wfail m l e 1) (by decide) (by decide) (by decide) (by decide) (by first | rfl | simp [go_sem, slv_ids, wo, wa]) (by simp [go_sem, wo, wa]) (by rfl) (by rfl) (by rfl) ?_
    simp only [go_sem, ↓reduceIte, Nat.reduceEqDiff, Nat.reduceLT, reduceCtorEq, Nat.reduceAdd, Nat.reduceLeDiff, Nat.reduceBEq, Nat.reduceBNe, Int.reduceNeg, Int.reduceToNat, Int.reduceBEq, Int.reduceBNe, wo, wa]
    exact doneW (fun _ h => by cases h) (by simp only [go_sem, ↓reduceIte, Nat.reduceEqDiff, Nat.reduceLT, reduceCtorEq, Nat.reduceAdd, Nat.reduceLeDiff, Nat.reduceBEq, Nat.reduceBNe, Int.reduceNeg, Int.reduceToNat, Int.reduceBEq, Int.reduceBNe, wo, wa]) (by simp only [go_sem, ↓reduceIte, Nat.reduceEqDiff, Nat.reduceLT, reduceCtorEq, Nat.reduceAdd, Nat.reduceLeDiff, Nat.reduceBEq, Nat.reduceBNe, Int.reduceNeg, Int.reduceToNat, Int.reduceBEq, Int.reduceBNe, wo, wa]) (by simp only [go_sem, ↓reduceIte, Nat.reduceEqDiff, Nat.reduceLT, reduceCtorEq, Nat.reduceAdd, Nat.reduceLeDiff, Nat.reduceBEq, Nat.reduceBNe, Int.reduceNeg, Int.reduceToNat, Int.reduceBEq, Int.reduceBNe, wo, wa]) rfl
  · by_cases h2 : x > 4294967295
    · have r : wS33 (m && e == 0) l e x = (l, if (m && e == 0) = true then 1 else e) := by simp [wS33, h2]
      rw [r]
      simp only [go_sem, ↓reduceIte, Nat.reduceEqDiff, Nat.reduceLT, reduceCtorEq, Nat.reduceAdd, Nat.reduceLeDiff, Nat.reduceBEq, Nat.reduceBNe, Int.reduceNeg, Int.reduceToNat, Int.reduceBEq, Int.reduceBNe, wo, wa, F_Poctet_Writer_S33, decide_eq_false h1, decide_eq_true h2]
      refine call_w [] (k := 1000) (j := 2000) (s_wfail m l e 1) (by decide) (by decide) (by decide) (by decide) (by first | rfl | simp [go_sem, slv_ids, wo, wa]) (by simp [go_sem, wo, wa]) (by rfl) (by rfl) (by rfl) ?_
      simp only [go_sem, ↓reduceIte, Nat.reduceEqDiff, Nat.reduceLT, reduceCtorEq, Nat.reduceAdd, Nat.reduceLeDiff, Nat.reduceBEq, Nat.reduceBNe, Int.reduceNeg, Int.reduceToNat, Int.reduceBEq, Int.reduceBNe, wo, wa]
      exact doneW (fun _ h => by cases h) (by simp only [go_sem, ↓reduceIte, Nat.reduceEqDiff, Nat.reduceLT, reduceCtorEq, Nat.reduceAdd, Nat.reduceLeDiff, Nat.reduceBEq, Nat.reduceBNe, Int.reduceNeg, Int.reduceToNat, Int.reduceBEq, Int.reduceBNe, wo, wa]) (by simp only [go_sem, ↓reduceIte, Nat.reduceEqDiff, Nat.reduceLT, reduceCtorEq, Nat.reduceAdd, Nat.reduceLeDiff, Nat.reduceBEq, Nat.reduceBNe, Int.reduceNeg, Int.reduceToNat, Int.reduceBEq, Int.reduceBNe, wo, wa]) (by simp only [go_sem, ↓reduceIte, Nat.reduceEqDiff, Nat.reduceLT, reduceCtorEq, Nat.reduceAdd, Nat.reduceLeDiff, Nat.reduceBEq, Nat.reduceBNe, Int.reduceNeg, Int.reduceToNat, Int.reduceBEq, Int.reduceBNe, wo, wa]) rfl
    · have r : wS33 (m && e == 0) l e x = (wS (m && e == 0) l x, e) := by simp [wS33, h1, h2]
      have h3 := putS_10 hx
      rw [r]
      simp only [go_sem, ↓reduceIte, Nat.reduceEqDiff, Nat.reduceLT, reduceCtorEq, Nat.reduceAdd, Nat.reduceLeDiff, Nat.reduceBEq, Nat.reduceBNe, Int.reduceNeg, Int.reduceToNat, Int.reduceBEq, Int.reduceBNe, wo, wa, F_Poctet_Writer_S33, decide_eq_false h1, decide_eq_false h2]
      refine call_same (s_PutS x hx) (by simp [go_sem, wo, wa]) ?_
      simp only [go_sem, ↓reduceIte, Nat.reduceEqDiff, Nat.reduceLT, reduceCtorEq, Nat.reduceAdd, Nat.reduceLeDiff, Nat.reduceBEq, Nat.reduceBNe, Int.reduceNeg, Int.reduceToNat, Int.reduceBEq, Int.reduceBNe, wo, wa]
      refine call_w [] (k := 1000) (j := 2000) (s_wbytes m l (putS x) e ⟨by omega, by omega⟩) (by decide) (by decide) (by decide) (by decide) (by first | rfl | simp [go_sem, slv_ids, wo, wa]) (by simp [go_sem, wo, wa]) (by rfl) (by rfl) (by rfl) ?_
      simp only [go_sem, ↓reduceIte, Nat.reduceEqDiff, Nat.reduceLT, reduceCtorEq, Nat.reduceAdd, Nat.reduceLeDiff, Nat.reduceBEq, Nat.reduceBNe, Int.reduceNeg, Int.reduceToNat, Int.reduceBEq, Int.reduceBNe, wo, wa]
      exact doneW (fun _ h => by cases h) (by simp only [go_sem, ↓reduceIte, Nat.reduceEqDiff, Nat.reduceLT, reduceCtorEq, Nat.reduceAdd, Nat.reduceLeDiff, Nat.reduceBEq, Nat.reduceBNe, Int.reduceNeg, Int.reduceToNat, Int.reduceBEq, Int.reduceBNe, wo, wa]) (by simp only [go_sem, ↓reduceIte, Nat.reduceEqDiff, Nat.reduceLT, reduceCtorEq, Nat.reduceAdd, Nat.reduceLeDiff, Nat.reduceBEq, Nat.reduceBNe, Int.reduceNeg, Int.reduceToNat, Int.reduceBEq, Int.reduceBNe, wo, wa]; rfl) (by simp only [go_sem, ↓reduceIte, Nat.reduceEqDiff, Nat.reduceLT, reduceCtorEq, Nat.reduceAdd, Nat.reduceLeDiff, Nat.reduceBEq, Nat.reduceBNe, Int.reduceNeg, Int.reduceToNat, Int.reduceBEq, Int.reduceBNe, wo, wa]; rfl) rfl

/-- Part: what is written, and the error. -/
def wP (ok : Bool) (l : List UInt8) (e : Int) (mp : Bool) (lp : List UInt8) (ep : Int) : List UInt8 × Int :=
  if mp = true then (if ep ≠ 0 then (l, if ok = true then ep else e) else (wB ok (wB ok l (putU lp.length)) lp, e)) else (l, if ok = true then 2 else e)
theorem s_wpart (mp : Bool) (lp : List UInt8) (ep : Int) (hp : lp.length < 10000000) :
    ACalls Tryd.prog n_Poctet_Writer_Part [.mp 1000 3 0 0, .mp 1001 3 0 0] [(1000, wo 2000 m l e), (2000, wa l), (1001, wo 2001 mp lp ep), (2001, wa lp)] sb
      (fun r' σ' => r' = .tup [] ∧ σ' = [(1000, wo 2000 m (wP (m && e == 0) l e mp lp ep).1 (wP (m && e == 0) l e mp lp ep).2), (2000, wa (wP (m && e == 0) l e mp lp ep).1), (1001, wo 2001 mp lp ep), (2001, wa lp)]) := by
  refine fun_sound (ic := F_Poctet_Writer_Part.body) mixed c_Poctet_Writer_Part rfl rfl ?_
  cases mp
  · have r : wP (m && e == 0) l e false lp ep = (l, if (m && e == 0) = true then 2 else e) := by simp [wP]
    rw [r]
    simp only [go_sem, ↓reduceIte, Nat.reduceEqDiff, Nat.reduceLT, reduceCtorEq, Nat.reduceAdd, Nat.reduceLeDiff, Nat.reduceBEq, Nat.reduceBNe, Int.reduceNeg, Int.reduceToNat, Int.reduceBEq, Int.reduceBNe, wo, wa, F_Poctet_Writer_Part]
    refine call_w [] (k := 1000) (j := 2000) (s_wfail m l e 2) (by decide) (by decide) (by decide) (by decide) (by first | rfl | simp [go_sem, slv_ids, wo, wa]) (by simp [go_sem, wo, wa]) (by rfl) (by rfl) (by rfl) ?_
    simp only [go_sem, ↓reduceIte, Nat.reduceEqDiff, Nat.reduceLT, reduceCtorEq, Nat.reduceAdd, Nat.reduceLeDiff, Nat.reduceBEq, Nat.reduceBNe, Int.reduceNeg, Int.reduceToNat, Int.reduceBEq, Int.reduceBNe, wo, wa]
    exact done [] _ [(1000, wo 2000 m l (if (m && e == 0) = true then 2 else e)), (2000, wa l), (1001, wo 2001 false lp ep), (2001, wa lp)] (by simp only [go_sem, ↓reduceIte, Nat.reduceEqDiff, Nat.reduceLT, reduceCtorEq, Nat.reduceAdd, Nat.reduceLeDiff, Nat.reduceBEq, Nat.reduceBNe, Int.reduceNeg, Int.reduceToNat, Int.reduceBEq, Int.reduceBNe, wo, wa]) (by simp only [go_sem, ↓reduceIte, Nat.reduceEqDiff, Nat.reduceLT, reduceCtorEq, Nat.reduceAdd, Nat.reduceLeDiff, Nat.reduceBEq, Nat.reduceBNe, Int.reduceNeg, Int.reduceToNat, Int.reduceBEq, Int.reduceBNe, wo, wa]) rfl ⟨rfl, rfl⟩
  · by_cases h : ep = 0
    · subst h
      have r : wP (m && e == 0) l e true lp 0 = (wB (m && e == 0) (wB (m && e == 0) l (putU lp.length)) lp, e) := by simp [wP]
      have r1 : wU (m && e == 0) l e lp.length = (wB (m && e == 0) l (putU lp.length), e) := by
        unfold wU wB
        have h1 : ¬ ((lp.length : Int) < 0 ∨ (lp.length : Int) > 4294967295) := by omega
        cases (m && e == 0) <;> simp only [if_true, if_neg h1, Bool.false_eq_true, if_false, Int.toNat_natCast]
      have c1 := s_wU32 m l e lp.length (by omega)
      have hp2 := putU_32 (n := lp.length) (by omega)
      have hl2 := wB_len (ok := (m && e == 0)) (l := l) (x := putU lp.length)
      have hr := rowO_map 1 lp.length 5 by_ lp rfl
      rw [r1] at c1
      rw [r]
      simp only [go_sem, ↓reduceIte, Nat.reduceEqDiff, Nat.reduceLT, reduceCtorEq, Nat.reduceAdd, Nat.reduceLeDiff, Nat.reduceBEq, Nat.reduceBNe, Int.reduceNeg, Int.reduceToNat, Int.reduceBEq, Int.reduceBNe, wo, wa, F_Poctet_Writer_Part, hr]
      refine ⟨by omega, ?_⟩
      refine call_w [] (k := 1000) (j := 2000) (c1) (by decide) (by decide) (by decide) (by decide) (by first | rfl | simp [go_sem, slv_ids, wo, wa]) (by simp [go_sem, wo, wa]) (by rfl) (by rfl) (by rfl) ?_
      simp only [go_sem, ↓reduceIte, Nat.reduceEqDiff, Nat.reduceLT, reduceCtorEq, Nat.reduceAdd, Nat.reduceLeDiff, Nat.reduceBEq, Nat.reduceBNe, Int.reduceNeg, Int.reduceToNat, Int.reduceBEq, Int.reduceBNe, wo, wa]
      refine call_w [31] (k := 1000) (j := 2000) (s_wbytes m (wB (m && e == 0) l (putU lp.length)) lp e ⟨by omega, by omega⟩) (by decide) (by decide) (by decide) (by decide) (by first | rfl | simp [go_sem, slv_ids, wo, wa]) (by simp [go_sem, wo, wa]) ?_ (by rfl) (by rfl) ?_
      · simp only [go_sem, ↓reduceIte, Nat.reduceEqDiff, Nat.reduceLT, reduceCtorEq, Nat.reduceAdd, Nat.reduceLeDiff, Nat.reduceBEq, Nat.reduceBNe, Int.reduceNeg, Int.reduceToNat, Int.reduceBEq, Int.reduceBNe, wo, wa, Nat.le_refl, List.length_map]
        rw [List.take_of_length_le (by simp)]
      · simp only [go_sem, ↓reduceIte, Nat.reduceEqDiff, Nat.reduceLT, reduceCtorEq, Nat.reduceAdd, Nat.reduceLeDiff, Nat.reduceBEq, Nat.reduceBNe, Int.reduceNeg, Int.reduceToNat, Int.reduceBEq, Int.reduceBNe, wo, wa]
        exact done_n [] _ [(1000, wo 2000 m (wB (m && e == 0) (wB (m && e == 0) l (putU lp.length)) lp) e), (2000, wa (wB (m && e == 0) (wB (m && e == 0) l (putU lp.length)) lp)), (1001, wo 2001 true lp 0), (2001, wa lp)] (by simp only [go_sem, ↓reduceIte, Nat.reduceEqDiff, Nat.reduceLT, reduceCtorEq, Nat.reduceAdd, Nat.reduceLeDiff, Nat.reduceBEq, Nat.reduceBNe, Int.reduceNeg, Int.reduceToNat, Int.reduceBEq, Int.reduceBNe, wo, wa]) (by simp only [go_sem, ↓reduceIte, Nat.reduceEqDiff, Nat.reduceLT, reduceCtorEq, Nat.reduceAdd, Nat.reduceLeDiff, Nat.reduceBEq, Nat.reduceBNe, Int.reduceNeg, Int.reduceToNat, Int.reduceBEq, Int.reduceBNe, wo, wa]) rfl ⟨rfl, rfl⟩
    · have r : wP (m && e == 0) l e true lp ep = (l, if (m && e == 0) = true then ep else e) := by simp [wP, h]
      rw [r]
      simp only [go_sem, ↓reduceIte, Nat.reduceEqDiff, Nat.reduceLT, reduceCtorEq, Nat.reduceAdd, Nat.reduceLeDiff, Nat.reduceBEq, Nat.reduceBNe, Int.reduceNeg, Int.reduceToNat, Int.reduceBEq, Int.reduceBNe, wo, wa, F_Poctet_Writer_Part, bne_t h]
      refine call_w [] (k := 1000) (j := 2000) (s_wfail m l e ep) (by decide) (by decide) (by decide) (by decide) (by first | rfl | simp [go_sem, slv_ids, wo, wa]) (by simp [go_sem, wo, wa]) (by rfl) (by rfl) (by rfl) ?_
      simp only [go_sem, ↓reduceIte, Nat.reduceEqDiff, Nat.reduceLT, reduceCtorEq, Nat.reduceAdd, Nat.reduceLeDiff, Nat.reduceBEq, Nat.reduceBNe, Int.reduceNeg, Int.reduceToNat, Int.reduceBEq, Int.reduceBNe, wo, wa]
      exact done [] _ [(1000, wo 2000 m l (if (m && e == 0) = true then ep else e)), (2000, wa l), (1001, wo 2001 true lp ep), (2001, wa lp)] (by simp only [go_sem, ↓reduceIte, Nat.reduceEqDiff, Nat.reduceLT, reduceCtorEq, Nat.reduceAdd, Nat.reduceLeDiff, Nat.reduceBEq, Nat.reduceBNe, Int.reduceNeg, Int.reduceToNat, Int.reduceBEq, Int.reduceBNe, wo, wa]) (by simp only [go_sem, ↓reduceIte, Nat.reduceEqDiff, Nat.reduceLT, reduceCtorEq, Nat.reduceAdd, Nat.reduceLeDiff, Nat.reduceBEq, Nat.reduceBNe, Int.reduceNeg, Int.reduceToNat, Int.reduceBEq, Int.reduceBNe, wo, wa]) rfl ⟨rfl, rfl⟩
end
end Go.Proofs.YtkejmhpodhbeeaaDoor
set_option linter.unusedVariables false
namespace Go.Proofs.YtkejmhpodhbeeaaDoor
open Go Go.Mw

theorem putS_pos (n : Int) : 0 < (putS n).length := (putS_ends n).1
theorem putS_spec : ∀ (k : Nat) (n : Int), n.natAbs ≤ k → ((val7 (putS n) : Int) - (if 64 ≤ (nth (putS n) ((putS n).length - 1)).toNat % 128 then 128 ^ (putS n).length else 0) = n) ∧
    (nth (putS n) ((putS n).length - 1)).toNat = ((n / 128 ^ ((putS n).length - 1)) % 128).toNat ∧ -64 ≤ n / 128 ^ ((putS n).length - 1) ∧ n / 128 ^ ((putS n).length - 1) ≤ 63 := by
  have base : ∀ n : Int, -64 ≤ n ∧ n ≤ 63 → ((val7 (putS n) : Int) - (if 64 ≤ (nth (putS n) ((putS n).length - 1)).toNat % 128 then 128 ^ (putS n).length else 0) = n) ∧
    (nth (putS n) ((putS n).length - 1)).toNat = ((n / 128 ^ ((putS n).length - 1)) % 128).toNat ∧ -64 ≤ n / 128 ^ ((putS n).length - 1) ∧ n / 128 ^ ((putS n).length - 1) ≤ 63 := fun n h => by
    have e : (UInt8.ofNat (n % 128).toNat).toNat = (n % 128).toNat := ofNat_toNat (by omega)
    have n0 : nth [UInt8.ofNat (n % 128).toNat] 0 = UInt8.ofNat (n % 128).toNat := rfl
    rw [putS_lo h]
    simp only [List.length_singleton, Nat.sub_self, Int.pow_zero, Int.ediv_one, n0, e, val7, Nat.mul_zero, Nat.add_zero, Int.pow_one]
    refine ⟨?_, trivial, h.1, h.2⟩
    split <;> omega
  intro k
  induction k with
  | zero => intro n h; exact base n (by omega)
  | succ k ih =>
    intro n h
    by_cases h1 : -64 ≤ n ∧ n ≤ 63
    · exact base n h1
    · obtain ⟨i1, i2, i3, i4⟩ := ih (n / 128) (by omega)
      have e : (UInt8.ofNat ((n % 128).toNat + 128)).toNat = (n % 128).toNat + 128 := ofNat_toNat (by omega)
      have hp := putS_pos (n / 128)
      have hlen : (putS n).length = (putS (n / 128)).length + 1 := by rw [putS_hi h1]; rfl
      have hlast : nth (putS n) ((putS n).length - 1) = nth (putS (n / 128)) ((putS (n / 128)).length - 1) := by
        rw [hlen, Nat.add_sub_cancel, putS_hi h1]
        rw [show (putS (n / 128)).length = ((putS (n / 128)).length - 1) + 1 by omega, nth_succ]
        rfl
      have hdiv : n / 128 ^ ((putS n).length - 1) = n / 128 / 128 ^ ((putS (n / 128)).length - 1) := by
        rw [hlen, Nat.add_sub_cancel, show (128 : Int) ^ (putS (n / 128)).length = 128 * 128 ^ ((putS (n / 128)).length - 1) by
          rw [show (putS (n / 128)).length = ((putS (n / 128)).length - 1) + 1 by omega, Int.pow_succ, Nat.add_sub_cancel, Int.mul_comm], Int.ediv_ediv, if_neg (fun h => absurd h.1 (by decide)), Int.sub_zero]
      rw [hlast, hdiv]
      refine ⟨?_, i2, i3, i4⟩
      have hv : (val7 (putS n) : Int) = n % 128 + 128 * val7 (putS (n / 128)) := by
        rw [putS_hi h1]
        simp only [val7, e]
        omega
      rw [hv, hlen, Int.pow_succ]
      generalize (128 : Int) ^ (putS (n / 128)).length = p at *
      split
      · rename_i h2
        rw [if_pos h2] at i1
        omega
      · rename_i h2
        rw [if_neg h2] at i1
        omega
theorem pow128 (k : Nat) : (128 : Int) ^ k = ((2 ^ (7 * k) : Nat) : Int) := by
  rw [← two_pow7, Int.natCast_pow]
  rfl
theorem putS_mst {n : Int} {bits : Nat} (hb : 1 ≤ bits) (h1 : -(2 ^ (bits - 1) : Int) ≤ n) (h2 : n < 2 ^ (bits - 1)) : (putS n).length ≤ mst bits := by
  obtain ⟨k, hk⟩ : ∃ k, mst bits = k + 1 := ⟨mst bits - 1, by unfold mst; omega⟩
  rw [hk]
  have e : (2 : Int) ^ (bits - 1) ≤ 64 * 128 ^ k := by
    rw [pow128, show (64 : Int) = ((2 ^ 6 : Nat) : Int) from rfl, ← Int.natCast_mul, ← Nat.pow_add, show (2 : Int) ^ (bits - 1) = ((2 ^ (bits - 1) : Nat) : Int) by rw [Int.natCast_pow]; rfl]
    exact Int.ofNat_le.2 (Nat.pow_le_pow_right (by decide) (by unfold mst at hk; omega))
  exact putS_len (k := k) (by omega) (by omega)
theorem top_ok {c : Nat} {m : Int} (hc : 1 ≤ c ∧ c ≤ 7) (h1 : -(2 ^ (c - 1) : Int) ≤ m) (h2 : m < 2 ^ (c - 1)) : (m % 128).toNat / 2 ^ (c - 1) = 0 ∨ (m % 128).toNat / 2 ^ (c - 1) = 127 / 2 ^ (c - 1) := by
  have : c = 1 ∨ c = 2 ∨ c = 3 ∨ c = 4 ∨ c = 5 ∨ c = 6 ∨ c = 7 := by omega
  rcases this with rfl | rfl | rfl | rfl | rfl | rfl | rfl <;> simp at h1 h2 ⊢ <;> omega
/-- What was encoded is decoded. -/
theorem decS_putS {n : Int} {bits : Nat} (r : List UInt8) (hb : 1 ≤ bits ∧ bits ≤ 64) (h1 : -(2 ^ (bits - 1) : Int) ≤ n) (h2 : n < 2 ^ (bits - 1)) : decS (putS n ++ r) bits = (n, (putS n).length, 0) := by
  have hl := putS_mst hb.1 h1 h2
  have hp := putS_pos n
  obtain ⟨s1, s2, s3, s4⟩ := putS_spec _ n (Nat.le_refl _)
  obtain ⟨g1, g2⟩ := lst_enc (r := r) (putS_ends n) hl
  have hx : nth (putS n ++ r) ((putS n).length - 1) = nth (putS n) ((putS n).length - 1) := nth_app_l (by omega)
  have hi : inI n := by
    have : (2 : Int) ^ (bits - 1) ≤ 2 ^ 63 := by
      rw [show (2 : Int) ^ (bits - 1) = ((2 ^ (bits - 1) : Nat) : Int) by rw [Int.natCast_pow]; rfl, show (2 : Int) ^ 63 = ((2 ^ 63 : Nat) : Int) by rw [Int.natCast_pow]; rfl]
      exact Int.ofNat_le.2 (Nat.pow_le_pow_right (by decide) (by omega))
    unfold inI
    omega
  have hc := cnt_le hb (i := (putS n).length - 1) (by omega)
  have ht : (nth (putS n ++ r) ((putS n).length - 1)).toNat / 2 ^ (cnt bits ((putS n).length - 1) - 1) = 0 ∨ (nth (putS n ++ r) ((putS n).length - 1)).toNat / 2 ^ (cnt bits ((putS n).length - 1) - 1) = 127 / 2 ^ (cnt bits ((putS n).length - 1) - 1) := by
    rw [hx, s2]
    refine top_ok hc ?_ ?_
    · unfold cnt
      split
      · rename_i hq
        have e : (2 : Int) ^ (bits - 1) = 2 ^ (bits - 7 * ((putS n).length - 1) - 1) * 128 ^ ((putS n).length - 1) := by
          rw [pow128, show (2 : Int) ^ (bits - 1) = ((2 ^ (bits - 1) : Nat) : Int) by rw [Int.natCast_pow]; rfl, show (2 : Int) ^ (bits - 7 * ((putS n).length - 1) - 1) = ((2 ^ (bits - 7 * ((putS n).length - 1) - 1) : Nat) : Int) by rw [Int.natCast_pow]; rfl, ← Int.natCast_mul, ← Nat.pow_add]
          congr 2
          unfold mst at hq
          omega
        rw [e, ← Int.neg_mul] at h1
        exact (Int.le_ediv_iff_mul_le (Int.pow_pos (by decide))).2 h1
      · exact s3
    · unfold cnt
      split
      · rename_i hq
        have e : (2 : Int) ^ (bits - 1) = 2 ^ (bits - 7 * ((putS n).length - 1) - 1) * 128 ^ ((putS n).length - 1) := by
          rw [pow128, show (2 : Int) ^ (bits - 1) = ((2 ^ (bits - 1) : Nat) : Int) by rw [Int.natCast_pow]; rfl, show (2 : Int) ^ (bits - 7 * ((putS n).length - 1) - 1) = ((2 ^ (bits - 7 * ((putS n).length - 1) - 1) : Nat) : Int) by rw [Int.natCast_pow]; rfl, ← Int.natCast_mul, ← Nat.pow_add]
          congr 2
          unfold mst at hq
          omega
        rw [e] at h2
        exact Int.ediv_lt_of_lt_mul (Int.pow_pos (by decide)) h2
      · omega
  rw [decS, if_neg (by rw [g1]; simp), g2, if_neg (by rcases ht with ht | ht <;> simp [ht])]
  have e1 : (putS n).length - 1 + 1 = (putS n).length := by omega
  have e2 : sgn (putS n ++ r) ((putS n).length - 1) = n := by
    unfold sgn
    rw [e1, List.take_left, hx, show (2 : Int) ^ (7 * (putS n).length) = 128 ^ (putS n).length by rw [pow128, Int.natCast_pow]; rfl, s1]
    exact wi hi.1 hi.2
  rw [e1, e2]
end Go.Proofs.YtkejmhpodhbeeaaDoor
set_option linter.unusedSimpArgs false
set_option maxRecDepth 100000
set_option maxHeartbeats 4000000
set_option linter.unusedVariables false
set_option linter.unusedSectionVars false
namespace Go.Proofs.YtkejmhpodhbeeaaDoor
open Go Go.Mw
-- @U: wx, slv_none, slv_some

def wx (l : List UInt8) (e : Int) : AV := .agg [.sl 1 (l.map by_), .int .i64 e]
theorem appO_nil (id : Nat) (ys : List (List AV)) (hy : ys.length < 1000000000) (hid : id < 1000) : appO id 5 1 0 0 ys (some ⟨5, 1, [], false⟩) = some (.ms id 1 0 ys.length, .reb id ⟨5, 1, ys, false⟩) := by
  have h := appO_map id 5 1 0 by_ [] ys rfl
  rw [if_pos ⟨by omega, by decide, .inl hid⟩] at h
  simpa using h
theorem appO_by (id : Nat) (l x : List UInt8) (hl : l.length < 1000000000) (hx : x.length < 1000000000) (hid : id < 1000) : appO id 5 1 0 l.length (x.map by_) (some ⟨5, 1, l.map by_, false⟩) = some (.ms id 1 0 (l.length + x.length), .reb id ⟨5, 1, (l ++ x).map by_, false⟩) := by
  have h := appO_map id 5 1 l.length by_ l (x.map by_) rfl
  rw [if_pos ⟨by simp; omega, by omega, .inl hid⟩] at h
  rw [h, List.map_append, List.length_map]
theorem p_Fail (l : List UInt8) (e x : Int) : PCalls Tryd.prog n_ref02_PutFail [wx l e, .int .i64 x] (wx l (if e = 0 then x else e)) := by
  refine pfun_sound (ic := F_ref02_PutFail.body) mixed c_ref02_PutFail rfl rfl ?_
  by_cases h : e = 0
  · subst h
    simp only [go_sem, ↓reduceIte, Nat.reduceEqDiff, Nat.reduceLT, reduceCtorEq, Nat.reduceAdd, Nat.reduceLeDiff, Nat.reduceBEq, Nat.reduceBNe, Int.reduceNeg, Int.reduceToNat, Int.reduceBEq, Int.reduceBNe, wx, F_ref02_PutFail]
    exact pdone [] (by simp only [go_sem, ↓reduceIte, Nat.reduceEqDiff, Nat.reduceLT, reduceCtorEq, Nat.reduceAdd, Nat.reduceLeDiff, Nat.reduceBEq, Nat.reduceBNe, Int.reduceNeg, Int.reduceToNat, Int.reduceBEq, Int.reduceBNe, wx]) (by first | rfl | simp [go_sem, slv_ids, wx])
  · simp only [go_sem, ↓reduceIte, Nat.reduceEqDiff, Nat.reduceLT, reduceCtorEq, Nat.reduceAdd, Nat.reduceLeDiff, Nat.reduceBEq, Nat.reduceBNe, Int.reduceNeg, Int.reduceToNat, Int.reduceBEq, Int.reduceBNe, wx, F_ref02_PutFail, beq_f h, if_neg h]
    exact pdone [] (by simp only [go_sem, ↓reduceIte, Nat.reduceEqDiff, Nat.reduceLT, reduceCtorEq, Nat.reduceAdd, Nat.reduceLeDiff, Nat.reduceBEq, Nat.reduceBNe, Int.reduceNeg, Int.reduceToNat, Int.reduceBEq, Int.reduceBNe, wx]) (by first | rfl | simp [go_sem, slv_ids, wx])
theorem p_Bytes (l : List UInt8) (e : Int) (hl : l.length < 10000000) (x : List UInt8) (hx : x.length < 10000000) : PCalls Tryd.prog n_ref02_PutBytes [wx l e, .sl 1 (x.map by_)] (wx (wB (e == 0) l x) e) := by
  refine pfun_sound (ic := F_ref02_PutBytes.body) mixed c_ref02_PutBytes rfl rfl ?_
  by_cases h : e = 0
  · subst h
    have r : wB ((0 : Int) == 0) l x = l ++ x := rfl
    have a1 := appO_nil 9 (l.map by_) (by simp; omega) (by decide)
    have a2 := appO_by 9 l x (by omega) (by omega) (by decide)
    rw [List.length_map] at a1
    rw [r]
    simp only [go_sem, ↓reduceIte, Nat.reduceEqDiff, Nat.reduceLT, reduceCtorEq, Nat.reduceAdd, Nat.reduceLeDiff, Nat.reduceBEq, Nat.reduceBNe, Int.reduceNeg, Int.reduceToNat, Int.reduceBEq, Int.reduceBNe, wx, F_ref02_PutBytes, a1, a2, List.length_map]
    refine pdone [9] ?_ ?_
    · simp only [go_sem, ↓reduceIte, Nat.reduceEqDiff, Nat.reduceLT, reduceCtorEq, Nat.reduceAdd, Nat.reduceLeDiff, Nat.reduceBEq, Nat.reduceBNe, Int.reduceNeg, Int.reduceToNat, Int.reduceBEq, Int.reduceBNe, wx, Nat.le_refl, List.length_map, List.length_append]
      rw [List.take_of_length_le (by simp)]
    · rfl
  · have r : wB (e == 0) l x = l := by simp [wB, h]
    rw [r]
    simp only [go_sem, ↓reduceIte, Nat.reduceEqDiff, Nat.reduceLT, reduceCtorEq, Nat.reduceAdd, Nat.reduceLeDiff, Nat.reduceBEq, Nat.reduceBNe, Int.reduceNeg, Int.reduceToNat, Int.reduceBEq, Int.reduceBNe, wx, F_ref02_PutBytes, bne_t h]
    exact pdone [] (by simp only [go_sem, ↓reduceIte, Nat.reduceEqDiff, Nat.reduceLT, reduceCtorEq, Nat.reduceAdd, Nat.reduceLeDiff, Nat.reduceBEq, Nat.reduceBNe, Int.reduceNeg, Int.reduceToNat, Int.reduceBEq, Int.reduceBNe, wx]) (by first | rfl | simp [go_sem, slv_ids, wx])
section
variable (l : List UInt8) (e : Int) (hl : l.length < 9000000)
include hl
theorem p_Byte (x : UInt8) : PCalls Tryd.prog n_ref02_PutByte [wx l e, .int .u8 x.toNat] (wx (wB (e == 0) l [x]) e) := by
  refine pfun_sound (ic := F_ref02_PutByte.body) mixed c_ref02_PutByte rfl rfl ?_
  simp only [go_sem, ↓reduceIte, Nat.reduceEqDiff, Nat.reduceLT, reduceCtorEq, Nat.reduceAdd, Nat.reduceLeDiff, Nat.reduceBEq, Nat.reduceBNe, Int.reduceNeg, Int.reduceToNat, Int.reduceBEq, Int.reduceBNe, wx, F_ref02_PutByte]
  refine call_frz [7] ?_ (p_Bytes l e (by omega) [x] (by simp)) (by simp [go_sem, wx]) ?_
  · simp only [go_sem, ↓reduceIte, Nat.reduceEqDiff, Nat.reduceLT, reduceCtorEq, Nat.reduceAdd, Nat.reduceLeDiff, Nat.reduceBEq, Nat.reduceBNe, Int.reduceNeg, Int.reduceToNat, Int.reduceBEq, Int.reduceBNe, wx, Nat.le_refl, List.length_cons, List.length_nil]
  simp only [go_sem, ↓reduceIte, Nat.reduceEqDiff, Nat.reduceLT, reduceCtorEq, Nat.reduceAdd, Nat.reduceLeDiff, Nat.reduceBEq, Nat.reduceBNe, Int.reduceNeg, Int.reduceToNat, Int.reduceBEq, Int.reduceBNe, wx]
  exact pdone [] (by simp only [go_sem, ↓reduceIte, Nat.reduceEqDiff, Nat.reduceLT, reduceCtorEq, Nat.reduceAdd, Nat.reduceLeDiff, Nat.reduceBEq, Nat.reduceBNe, Int.reduceNeg, Int.reduceToNat, Int.reduceBEq, Int.reduceBNe, wx]) (by first | rfl | simp [go_sem, slv_ids, wx])
theorem p_U32 (n : Int) : PCalls Tryd.prog n_ref02_PutU32 [wx l e, .int .i64 n] (wx (wU (e == 0) l e n).1 (wU (e == 0) l e n).2) := by
  refine pfun_sound (ic := F_ref02_PutU32.body) mixed c_ref02_PutU32 rfl rfl ?_
  have bad : n < 0 ∨ n > 4294967295 → wU (e == 0) l e n = (l, if e = 0 then 1 else e) := fun h => by
    unfold wU
    by_cases h2 : e = 0 <;> simp [h, h2]
  by_cases h1 : n < 0
  · rw [bad (.inl h1)]
    simp only [go_sem, ↓reduceIte, Nat.reduceEqDiff, Nat.reduceLT, reduceCtorEq, Nat.reduceAdd, Nat.reduceLeDiff, Nat.reduceBEq, Nat.reduceBNe, Int.reduceNeg, Int.reduceToNat, Int.reduceBEq, Int.reduceBNe, wx, F_ref02_PutU32, decide_eq_true h1]
    refine call_same (p_Fail l e 1) (by simp [go_sem, wx]) ?_
    simp only [go_sem, ↓reduceIte, Nat.reduceEqDiff, Nat.reduceLT, reduceCtorEq, Nat.reduceAdd, Nat.reduceLeDiff, Nat.reduceBEq, Nat.reduceBNe, Int.reduceNeg, Int.reduceToNat, Int.reduceBEq, Int.reduceBNe, wx]
    exact pdone [] (by simp only [go_sem, ↓reduceIte, Nat.reduceEqDiff, Nat.reduceLT, reduceCtorEq, Nat.reduceAdd, Nat.reduceLeDiff, Nat.reduceBEq, Nat.reduceBNe, Int.reduceNeg, Int.reduceToNat, Int.reduceBEq, Int.reduceBNe, wx]) (by first | rfl | simp [go_sem, slv_ids, wx])
  · by_cases h2 : n ≥ 4294967296
    · rw [bad (.inr (by omega))]
      simp only [go_sem, ↓reduceIte, Nat.reduceEqDiff, Nat.reduceLT, reduceCtorEq, Nat.reduceAdd, Nat.reduceLeDiff, Nat.reduceBEq, Nat.reduceBNe, Int.reduceNeg, Int.reduceToNat, Int.reduceBEq, Int.reduceBNe, wx, F_ref02_PutU32, decide_eq_false h1, decide_eq_true h2]
      refine call_same (p_Fail l e 1) (by simp [go_sem, wx]) ?_
      simp only [go_sem, ↓reduceIte, Nat.reduceEqDiff, Nat.reduceLT, reduceCtorEq, Nat.reduceAdd, Nat.reduceLeDiff, Nat.reduceBEq, Nat.reduceBNe, Int.reduceNeg, Int.reduceToNat, Int.reduceBEq, Int.reduceBNe, wx]
      exact pdone [] (by simp only [go_sem, ↓reduceIte, Nat.reduceEqDiff, Nat.reduceLT, reduceCtorEq, Nat.reduceAdd, Nat.reduceLeDiff, Nat.reduceBEq, Nat.reduceBNe, Int.reduceNeg, Int.reduceToNat, Int.reduceBEq, Int.reduceBNe, wx]) (by first | rfl | simp [go_sem, slv_ids, wx])
    · obtain ⟨k, rfl⟩ := Int.eq_ofNat_of_zero_le (show 0 ≤ n by omega)
      have h3 : ¬ ((k : Int) < 0 ∨ (k : Int) > 4294967295) := by omega
      have r : wU (e == 0) l e k = (wB (e == 0) l (putU k), e) := by
        unfold wU wB
        cases (e == 0) <;> simp only [if_true, if_neg h3, Bool.false_eq_true, if_false, Int.toNat_natCast]
      have w1 : IntKind.u64.wrap (k : Int) = (k : Int) := by rw [w_u64]; omega
      have hp := putU_32 (n := k) (by omega)
      rw [r]
      simp only [go_sem, ↓reduceIte, Nat.reduceEqDiff, Nat.reduceLT, reduceCtorEq, Nat.reduceAdd, Nat.reduceLeDiff, Nat.reduceBEq, Nat.reduceBNe, Int.reduceNeg, Int.reduceToNat, Int.reduceBEq, Int.reduceBNe, wx, F_ref02_PutU32, decide_eq_false h1, decide_eq_false h2, w1]
      first | refine call_same (s_rPutU k (by omega)) (by simp [go_sem]) ?_ | refine dcall_same (s_rPutU k (by omega)) (by simp [go_sem]) rfl ?_
      simp only [go_sem, ↓reduceIte, Nat.reduceEqDiff, Nat.reduceLT, reduceCtorEq, Nat.reduceAdd, Nat.reduceLeDiff, Nat.reduceBEq, Nat.reduceBNe, Int.reduceNeg, Int.reduceToNat, Int.reduceBEq, Int.reduceBNe, wx]
      refine call_same (p_Bytes l e (by omega) (putU k) (by omega)) (by simp [go_sem, wx]) ?_
      simp only [go_sem, ↓reduceIte, Nat.reduceEqDiff, Nat.reduceLT, reduceCtorEq, Nat.reduceAdd, Nat.reduceLeDiff, Nat.reduceBEq, Nat.reduceBNe, Int.reduceNeg, Int.reduceToNat, Int.reduceBEq, Int.reduceBNe, wx]
      exact pdone [] (by simp only [go_sem, ↓reduceIte, Nat.reduceEqDiff, Nat.reduceLT, reduceCtorEq, Nat.reduceAdd, Nat.reduceLeDiff, Nat.reduceBEq, Nat.reduceBNe, Int.reduceNeg, Int.reduceToNat, Int.reduceBEq, Int.reduceBNe, wx]) (by first | rfl | simp [go_sem, slv_ids, wx])
theorem p_S32 (x : Int) : PCalls Tryd.prog n_ref02_PutS32 [wx l e, .int .u64 x] (wx (wS (e == 0) l (s32 x)) e) := by
  refine pfun_sound (ic := F_ref02_PutS32.body) mixed c_ref02_PutS32 rfl rfl ?_
  have h1 := s32_in x
  have h2 := putS_10 (n := s32 x) ⟨by omega, by omega⟩
  simp only [go_sem, ↓reduceIte, Nat.reduceEqDiff, Nat.reduceLT, reduceCtorEq, Nat.reduceAdd, Nat.reduceLeDiff, Nat.reduceBEq, Nat.reduceBNe, Int.reduceNeg, Int.reduceToNat, Int.reduceBEq, Int.reduceBNe, wx, F_ref02_PutS32]
  first | refine call_same (s_rPutS (s32 x) (by omega)) (by simp [go_sem]) ?_ | refine dcall_same (s_rPutS (s32 x) (by omega)) (by simp [go_sem]) rfl ?_
  simp only [go_sem, ↓reduceIte, Nat.reduceEqDiff, Nat.reduceLT, reduceCtorEq, Nat.reduceAdd, Nat.reduceLeDiff, Nat.reduceBEq, Nat.reduceBNe, Int.reduceNeg, Int.reduceToNat, Int.reduceBEq, Int.reduceBNe, wx]
  refine call_same (p_Bytes l e (by omega) (putS (s32 x)) (by omega)) (by simp [go_sem, wx]) ?_
  simp only [go_sem, ↓reduceIte, Nat.reduceEqDiff, Nat.reduceLT, reduceCtorEq, Nat.reduceAdd, Nat.reduceLeDiff, Nat.reduceBEq, Nat.reduceBNe, Int.reduceNeg, Int.reduceToNat, Int.reduceBEq, Int.reduceBNe, wx]
  exact pdone [] (by simp only [go_sem, ↓reduceIte, Nat.reduceEqDiff, Nat.reduceLT, reduceCtorEq, Nat.reduceAdd, Nat.reduceLeDiff, Nat.reduceBEq, Nat.reduceBNe, Int.reduceNeg, Int.reduceToNat, Int.reduceBEq, Int.reduceBNe, wx]; rfl) rfl
theorem p_S64 (x : Int) : PCalls Tryd.prog n_ref02_PutS64 [wx l e, .int .u64 x] (wx (wS (e == 0) l (IntKind.i64.wrap x)) e) := by
  refine pfun_sound (ic := F_ref02_PutS64.body) mixed c_ref02_PutS64 rfl rfl ?_
  have h2 := putS_10 (i64_in x)
  simp only [go_sem, ↓reduceIte, Nat.reduceEqDiff, Nat.reduceLT, reduceCtorEq, Nat.reduceAdd, Nat.reduceLeDiff, Nat.reduceBEq, Nat.reduceBNe, Int.reduceNeg, Int.reduceToNat, Int.reduceBEq, Int.reduceBNe, wx, F_ref02_PutS64]
  first | refine call_same (s_rPutS (IntKind.i64.wrap x) (i64_in x)) (by simp [go_sem]) ?_ | refine dcall_same (s_rPutS (IntKind.i64.wrap x) (i64_in x)) (by simp [go_sem]) rfl ?_
  simp only [go_sem, ↓reduceIte, Nat.reduceEqDiff, Nat.reduceLT, reduceCtorEq, Nat.reduceAdd, Nat.reduceLeDiff, Nat.reduceBEq, Nat.reduceBNe, Int.reduceNeg, Int.reduceToNat, Int.reduceBEq, Int.reduceBNe, wx]
  refine call_same (p_Bytes l e (by omega) (putS (IntKind.i64.wrap x)) (by omega)) (by simp [go_sem, wx]) ?_
  simp only [go_sem, ↓reduceIte, Nat.reduceEqDiff, Nat.reduceLT, reduceCtorEq, Nat.reduceAdd, Nat.reduceLeDiff, Nat.reduceBEq, Nat.reduceBNe, Int.reduceNeg, Int.reduceToNat, Int.reduceBEq, Int.reduceBNe, wx]
  exact pdone [] (by simp only [go_sem, ↓reduceIte, Nat.reduceEqDiff, Nat.reduceLT, reduceCtorEq, Nat.reduceAdd, Nat.reduceLeDiff, Nat.reduceBEq, Nat.reduceBNe, Int.reduceNeg, Int.reduceToNat, Int.reduceBEq, Int.reduceBNe, wx]; rfl) rfl
theorem p_S33 (x : Int) (hx : inI x) : PCalls Tryd.prog n_ref02_PutS33 [wx l e, .int .i64 x] (wx (wS33 (e == 0) l e x).1 (wS33 (e == 0) l e x).2) := by
  refine pfun_sound (ic := F_ref02_PutS33.body) mixed c_ref02_PutS33 rfl rfl ?_
  have bad : x < -4294967296 ∨ x > 4294967295 → wS33 (e == 0) l e x = (l, if e = 0 then 1 else e) := fun h => by
    unfold wS33
    by_cases h2 : e = 0 <;> simp [h, h2]
  by_cases h1 : x < -4294967296
  · rw [bad (.inl h1)]
    simp only [go_sem, ↓reduceIte, Nat.reduceEqDiff, Nat.reduceLT, reduceCtorEq, Nat.reduceAdd, Nat.reduceLeDiff, Nat.reduceBEq, Nat.reduceBNe, Int.reduceNeg, Int.reduceToNat, Int.reduceBEq, Int.reduceBNe, wx, F_ref02_PutS33, decide_eq_true h1]
    refine call_same (p_Fail l e 1) (by simp [go_sem, wx]) ?_
    simp only [go_sem, ↓reduceIte, Nat.reduceEqDiff, Nat.reduceLT, reduceCtorEq, Nat.reduceAdd, Nat.reduceLeDiff, Nat.reduceBEq, Nat.reduceBNe, Int.reduceNeg, Int.reduceToNat, Int.reduceBEq, Int.reduceBNe, wx]
    exact pdone [] (by simp only [go_sem, ↓reduceIte, Nat.reduceEqDiff, Nat.reduceLT, reduceCtorEq, Nat.reduceAdd, Nat.reduceLeDiff, Nat.reduceBEq, Nat.reduceBNe, Int.reduceNeg, Int.reduceToNat, Int.reduceBEq, Int.reduceBNe, wx]) (by first | rfl | simp [go_sem, slv_ids, wx])
  · by_cases h2 : x ≥ 4294967296
    · rw [bad (.inr (by omega))]
      simp only [go_sem, ↓reduceIte, Nat.reduceEqDiff, Nat.reduceLT, reduceCtorEq, Nat.reduceAdd, Nat.reduceLeDiff, Nat.reduceBEq, Nat.reduceBNe, Int.reduceNeg, Int.reduceToNat, Int.reduceBEq, Int.reduceBNe, wx, F_ref02_PutS33, decide_eq_false h1, decide_eq_true h2]
      refine call_same (p_Fail l e 1) (by simp [go_sem, wx]) ?_
      simp only [go_sem, ↓reduceIte, Nat.reduceEqDiff, Nat.reduceLT, reduceCtorEq, Nat.reduceAdd, Nat.reduceLeDiff, Nat.reduceBEq, Nat.reduceBNe, Int.reduceNeg, Int.reduceToNat, Int.reduceBEq, Int.reduceBNe, wx]
      exact pdone [] (by simp only [go_sem, ↓reduceIte, Nat.reduceEqDiff, Nat.reduceLT, reduceCtorEq, Nat.reduceAdd, Nat.reduceLeDiff, Nat.reduceBEq, Nat.reduceBNe, Int.reduceNeg, Int.reduceToNat, Int.reduceBEq, Int.reduceBNe, wx]) (by first | rfl | simp [go_sem, slv_ids, wx])
    · have h3 : ¬ (x < -4294967296 ∨ x > 4294967295) := by omega
      have r : wS33 (e == 0) l e x = (wS (e == 0) l x, e) := by rw [wS33, if_neg h3]
      have h4 := putS_10 hx
      rw [r]
      simp only [go_sem, ↓reduceIte, Nat.reduceEqDiff, Nat.reduceLT, reduceCtorEq, Nat.reduceAdd, Nat.reduceLeDiff, Nat.reduceBEq, Nat.reduceBNe, Int.reduceNeg, Int.reduceToNat, Int.reduceBEq, Int.reduceBNe, wx, F_ref02_PutS33, decide_eq_false h1, decide_eq_false h2]
      first | refine call_same (s_rPutS x hx) (by simp [go_sem]) ?_ | refine dcall_same (s_rPutS x hx) (by simp [go_sem]) rfl ?_
      simp only [go_sem, ↓reduceIte, Nat.reduceEqDiff, Nat.reduceLT, reduceCtorEq, Nat.reduceAdd, Nat.reduceLeDiff, Nat.reduceBEq, Nat.reduceBNe, Int.reduceNeg, Int.reduceToNat, Int.reduceBEq, Int.reduceBNe, wx]
      refine call_same (p_Bytes l e (by omega) (putS x) (by omega)) (by simp [go_sem, wx]) ?_
      simp only [go_sem, ↓reduceIte, Nat.reduceEqDiff, Nat.reduceLT, reduceCtorEq, Nat.reduceAdd, Nat.reduceLeDiff, Nat.reduceBEq, Nat.reduceBNe, Int.reduceNeg, Int.reduceToNat, Int.reduceBEq, Int.reduceBNe, wx]
      exact pdone [] (by simp only [go_sem, ↓reduceIte, Nat.reduceEqDiff, Nat.reduceLT, reduceCtorEq, Nat.reduceAdd, Nat.reduceLeDiff, Nat.reduceBEq, Nat.reduceBNe, Int.reduceNeg, Int.reduceToNat, Int.reduceBEq, Int.reduceBNe, wx]; rfl) rfl
theorem p_Name (x : List UInt8) (hx : x.length < 10000000) : PCalls Tryd.prog n_ref02_PutName [wx l e, .str x] (wx (wN (e == 0) l e x).1 (wN (e == 0) l e x).2) := by
  refine pfun_sound (ic := F_ref02_PutName.body) mixed c_ref02_PutName rfl rfl ?_
  simp only [go_sem, ↓reduceIte, Nat.reduceEqDiff, Nat.reduceLT, reduceCtorEq, Nat.reduceAdd, Nat.reduceLeDiff, Nat.reduceBEq, Nat.reduceBNe, Int.reduceNeg, Int.reduceToNat, Int.reduceBEq, Int.reduceBNe, wx, F_ref02_PutName]
  refine call_same (s_uvS x (by omega)) (by simp [go_sem, wx]) ?_
  cases hv : uv x
  · have r : wN (e == 0) l e x = (l, if e = 0 then 9 else e) := by
      unfold wN; by_cases h2 : e = 0 <;> simp [hv, h2]
    rw [r]
    simp only [go_sem, ↓reduceIte, Nat.reduceEqDiff, Nat.reduceLT, reduceCtorEq, Nat.reduceAdd, Nat.reduceLeDiff, Nat.reduceBEq, Nat.reduceBNe, Int.reduceNeg, Int.reduceToNat, Int.reduceBEq, Int.reduceBNe, wx]
    refine call_same (p_Fail l e 9) (by simp [go_sem, wx]) ?_
    simp only [go_sem, ↓reduceIte, Nat.reduceEqDiff, Nat.reduceLT, reduceCtorEq, Nat.reduceAdd, Nat.reduceLeDiff, Nat.reduceBEq, Nat.reduceBNe, Int.reduceNeg, Int.reduceToNat, Int.reduceBEq, Int.reduceBNe, wx]
    exact pdone [] (by simp only [go_sem, ↓reduceIte, Nat.reduceEqDiff, Nat.reduceLT, reduceCtorEq, Nat.reduceAdd, Nat.reduceLeDiff, Nat.reduceBEq, Nat.reduceBNe, Int.reduceNeg, Int.reduceToNat, Int.reduceBEq, Int.reduceBNe, wx]) (by first | rfl | simp [go_sem, slv_ids, wx])
  · by_cases h64 : x.length > 64
    · have d1 : decide ((x.length : Int) > 64) = true := decide_eq_true (by omega)
      have r : wN (e == 0) l e x = (l, if e = 0 then 6 else e) := by
        unfold wN; by_cases h2 : e = 0 <;> simp [hv, h64, h2]
      rw [r]
      simp only [go_sem, ↓reduceIte, Nat.reduceEqDiff, Nat.reduceLT, reduceCtorEq, Nat.reduceAdd, Nat.reduceLeDiff, Nat.reduceBEq, Nat.reduceBNe, Int.reduceNeg, Int.reduceToNat, Int.reduceBEq, Int.reduceBNe, wx, d1]
      refine call_same (p_Fail l e 6) (by simp [go_sem, wx]) ?_
      simp only [go_sem, ↓reduceIte, Nat.reduceEqDiff, Nat.reduceLT, reduceCtorEq, Nat.reduceAdd, Nat.reduceLeDiff, Nat.reduceBEq, Nat.reduceBNe, Int.reduceNeg, Int.reduceToNat, Int.reduceBEq, Int.reduceBNe, wx]
      exact pdone [] (by simp only [go_sem, ↓reduceIte, Nat.reduceEqDiff, Nat.reduceLT, reduceCtorEq, Nat.reduceAdd, Nat.reduceLeDiff, Nat.reduceBEq, Nat.reduceBNe, Int.reduceNeg, Int.reduceToNat, Int.reduceBEq, Int.reduceBNe, wx]) (by first | rfl | simp [go_sem, slv_ids, wx])
    · have d1 : decide ((x.length : Int) > 64) = false := decide_eq_false (by omega)
      have r1 : wU (e == 0) l e x.length = (wB (e == 0) l (putU x.length), e) := by
        unfold wU wB
        have h1 : ¬ ((x.length : Int) < 0 ∨ (x.length : Int) > 4294967295) := by omega
        cases (e == 0) <;> simp only [if_true, if_neg h1, Bool.false_eq_true, if_false, Int.toNat_natCast]
      have r : wN (e == 0) l e x = (wB (e == 0) (wB (e == 0) l (putU x.length)) x, e) := by
        unfold wN wB; cases (e == 0) <;> simp [hv, h64]
      have hp := putU_32 (n := x.length) (by omega)
      have hl2 := wB_len (ok := (e == 0)) (l := l) (x := putU x.length)
      have c1 := p_U32 l e hl x.length
      rw [r1] at c1
      rw [r]
      simp only [go_sem, ↓reduceIte, Nat.reduceEqDiff, Nat.reduceLT, reduceCtorEq, Nat.reduceAdd, Nat.reduceLeDiff, Nat.reduceBEq, Nat.reduceBNe, Int.reduceNeg, Int.reduceToNat, Int.reduceBEq, Int.reduceBNe, wx, d1]
      refine call_same (c1) (by simp [go_sem, wx]) ?_
      simp only [go_sem, ↓reduceIte, Nat.reduceEqDiff, Nat.reduceLT, reduceCtorEq, Nat.reduceAdd, Nat.reduceLeDiff, Nat.reduceBEq, Nat.reduceBNe, Int.reduceNeg, Int.reduceToNat, Int.reduceBEq, Int.reduceBNe, wx]
      refine ⟨by omega, ?_⟩
      refine call_frz [20] ?_ (p_Bytes (wB (e == 0) l (putU x.length)) e (by omega) x hx) (by simp [go_sem, wx]) ?_
      · simp only [go_sem, ↓reduceIte, Nat.reduceEqDiff, Nat.reduceLT, reduceCtorEq, Nat.reduceAdd, Nat.reduceLeDiff, Nat.reduceBEq, Nat.reduceBNe, Int.reduceNeg, Int.reduceToNat, Int.reduceBEq, Int.reduceBNe, wx, Nat.le_refl, List.length_map]
        rw [List.take_of_length_le (by simp)]
        rfl
      simp only [go_sem, ↓reduceIte, Nat.reduceEqDiff, Nat.reduceLT, reduceCtorEq, Nat.reduceAdd, Nat.reduceLeDiff, Nat.reduceBEq, Nat.reduceBNe, Int.reduceNeg, Int.reduceToNat, Int.reduceBEq, Int.reduceBNe, wx]
      exact pdone [] (by simp only [go_sem, ↓reduceIte, Nat.reduceEqDiff, Nat.reduceLT, reduceCtorEq, Nat.reduceAdd, Nat.reduceLeDiff, Nat.reduceBEq, Nat.reduceBNe, Int.reduceNeg, Int.reduceToNat, Int.reduceBEq, Int.reduceBNe, wx]) (by first | rfl | simp [go_sem, slv_ids, wx])
theorem p_Part (x : List UInt8) (ex : Int) (hx : x.length < 1000000) : PCalls Tryd.prog n_ref02_PutPart [wx l e, wx x ex] (wx (wP (e == 0) l e true x ex).1 (wP (e == 0) l e true x ex).2) := by
  refine pfun_sound (ic := F_ref02_PutPart.body) mixed c_ref02_PutPart rfl rfl ?_
  by_cases h : ex = 0
  · subst h
    have r1 : wU (e == 0) l e x.length = (wB (e == 0) l (putU x.length), e) := by
      unfold wU wB
      have h1 : ¬ ((x.length : Int) < 0 ∨ (x.length : Int) > 4294967295) := by omega
      cases (e == 0) <;> simp only [if_true, if_neg h1, Bool.false_eq_true, if_false, Int.toNat_natCast]
    have r : wP (e == 0) l e true x 0 = (wB (e == 0) (wB (e == 0) l (putU x.length)) x, e) := by simp [wP]
    have hp := putU_32 (n := x.length) (by omega)
    have hl2 := wB_len (ok := (e == 0)) (l := l) (x := putU x.length)
    have c1 := p_U32 l e hl x.length
    rw [r1] at c1
    rw [r]
    simp only [go_sem, ↓reduceIte, Nat.reduceEqDiff, Nat.reduceLT, reduceCtorEq, Nat.reduceAdd, Nat.reduceLeDiff, Nat.reduceBEq, Nat.reduceBNe, Int.reduceNeg, Int.reduceToNat, Int.reduceBEq, Int.reduceBNe, wx, F_ref02_PutPart, List.length_map]
    first | refine call_same c1 (by simp [go_sem, wx]) ?_ | refine dcall_same c1 (by simp [go_sem, wx]) rfl ?_
    simp only [go_sem, ↓reduceIte, Nat.reduceEqDiff, Nat.reduceLT, reduceCtorEq, Nat.reduceAdd, Nat.reduceLeDiff, Nat.reduceBEq, Nat.reduceBNe, Int.reduceNeg, Int.reduceToNat, Int.reduceBEq, Int.reduceBNe, wx]
    refine call_same (p_Bytes (wB (e == 0) l (putU x.length)) e (by omega) x (by omega)) (by simp [go_sem, wx]) ?_
    simp only [go_sem, ↓reduceIte, Nat.reduceEqDiff, Nat.reduceLT, reduceCtorEq, Nat.reduceAdd, Nat.reduceLeDiff, Nat.reduceBEq, Nat.reduceBNe, Int.reduceNeg, Int.reduceToNat, Int.reduceBEq, Int.reduceBNe, wx]
    exact pdone [] (by simp only [go_sem, ↓reduceIte, Nat.reduceEqDiff, Nat.reduceLT, reduceCtorEq, Nat.reduceAdd, Nat.reduceLeDiff, Nat.reduceBEq, Nat.reduceBNe, Int.reduceNeg, Int.reduceToNat, Int.reduceBEq, Int.reduceBNe, wx]) (by first | rfl | simp [go_sem, slv_ids, wx])
  · have r : wP (e == 0) l e true x ex = (l, if e = 0 then ex else e) := by simp [wP, h]
    rw [r]
    simp only [go_sem, ↓reduceIte, Nat.reduceEqDiff, Nat.reduceLT, reduceCtorEq, Nat.reduceAdd, Nat.reduceLeDiff, Nat.reduceBEq, Nat.reduceBNe, Int.reduceNeg, Int.reduceToNat, Int.reduceBEq, Int.reduceBNe, wx, F_ref02_PutPart, bne_t h]
    refine call_same (p_Fail l e ex) (by simp [go_sem, wx]) ?_
    simp only [go_sem, ↓reduceIte, Nat.reduceEqDiff, Nat.reduceLT, reduceCtorEq, Nat.reduceAdd, Nat.reduceLeDiff, Nat.reduceBEq, Nat.reduceBNe, Int.reduceNeg, Int.reduceToNat, Int.reduceBEq, Int.reduceBNe, wx]
    exact pdone [] (by simp only [go_sem, ↓reduceIte, Nat.reduceEqDiff, Nat.reduceLT, reduceCtorEq, Nat.reduceAdd, Nat.reduceLeDiff, Nat.reduceBEq, Nat.reduceBNe, Int.reduceNeg, Int.reduceToNat, Int.reduceBEq, Int.reduceBNe, wx]) (by first | rfl | simp [go_sem, slv_ids, wx])
end
def wDr (l : List UInt8) (e : Int) : Option (List UInt8) × Int := wD true l e
theorem p_Done (l : List UInt8) (e : Int) : PCalls Tryd.prog n_ref02_Done [wx l e] (.tup [slv (wD true l e).1, .int .i64 (wD true l e).2]) := by
  refine pfun_sound (ic := F_ref02_Done.body) mixed c_ref02_Done rfl rfl ?_
  by_cases h : e = 0
  · subst h
    have r : wD true l 0 = (some l, 0) := rfl
    rw [r]
    simp only [go_sem, ↓reduceIte, Nat.reduceEqDiff, Nat.reduceLT, reduceCtorEq, Nat.reduceAdd, Nat.reduceLeDiff, Nat.reduceBEq, Nat.reduceBNe, Int.reduceNeg, Int.reduceToNat, Int.reduceBEq, Int.reduceBNe, wx, F_ref02_Done]
    exact pdone [] (by simp only [go_sem, ↓reduceIte, Nat.reduceEqDiff, Nat.reduceLT, reduceCtorEq, Nat.reduceAdd, Nat.reduceLeDiff, Nat.reduceBEq, Nat.reduceBNe, Int.reduceNeg, Int.reduceToNat, Int.reduceBEq, Int.reduceBNe, wx]) (by first | rfl | simp [go_sem, slv_ids, wx])
  · have r : wD true l e = (none, e) := by simp [wD, h]
    rw [r]
    simp only [go_sem, ↓reduceIte, Nat.reduceEqDiff, Nat.reduceLT, reduceCtorEq, Nat.reduceAdd, Nat.reduceLeDiff, Nat.reduceBEq, Nat.reduceBNe, Int.reduceNeg, Int.reduceToNat, Int.reduceBEq, Int.reduceBNe, wx, F_ref02_Done, bne_t h]
    exact pdone [] (by simp only [go_sem, ↓reduceIte, Nat.reduceEqDiff, Nat.reduceLT, reduceCtorEq, Nat.reduceAdd, Nat.reduceLeDiff, Nat.reduceBEq, Nat.reduceBNe, Int.reduceNeg, Int.reduceToNat, Int.reduceBEq, Int.reduceBNe, wx]) (by first | rfl | simp [go_sem, slv_ids, wx])
end Go.Proofs.YtkejmhpodhbeeaaDoor
set_option linter.unusedSimpArgs false
set_option maxRecDepth 100000
set_option maxHeartbeats 4000000
set_option linter.unusedVariables false
set_option linter.unusedSectionVars false
namespace Go.Proofs.YtkejmhpodhbeeaaDoor
open Go Go.Mw
-- @U: wx, wo, wa, slv_none, slv_some

/-- A field. -/
structure Fld where
  d : Int
  n : Int
  x : Int
  s : List UInt8
  deriving Inhabited
def fld_ (f : Fld) : List AV := [.int .i64 f.d, .int .i64 f.n, .int .u64 f.x, .str f.s]
theorem fld_e (f : Fld) : fld_ f = [.int .i64 f.d, .int .i64 f.n, .int .u64 f.x, .str f.s] := rfl
attribute [go_sem] fld_e
def u8 (n : Int) : UInt8 := UInt8.ofNat (n % 256).toNat
theorem u8_w (n : Int) : IntKind.u8.wrap n = ((u8 n).toNat : Int) := by rw [w_u8, u8, ofNat_toNat (by omega)]; omega
/-- What is written, and the error. -/
def wrS (ok : Bool) (l : List UInt8) (e : Int) (f : Fld) : List UInt8 × Int :=
  if f.d = 0 then (wB ok l [u8 f.n], e) else if f.d = 1 then wU ok l e f.n else if f.d = 2 then (wS ok l (s32 f.x), e) else if f.d = 3 then wS33 ok l e f.n else if f.d = 4 then (wS ok l (IntKind.i64.wrap f.x), e) else
  if f.d = 5 then (wB ok l f.s, e) else if f.d = 6 then wN ok l e f.s else if f.d = 7 then wP ok l e true f.s 0 else if f.d = 8 then (l, if ok = true then f.n else e) else (l, e)
def Wr (m : Bool) (l : List UInt8) (e : Int) (l2 : List UInt8) (e2 : Int) (f : Fld) : Prop :=
  WM n_law02_write [wx l2 e2, .agg [.int .i64 f.d, .int .i64 f.n, .int .u64 f.x, .str f.s]] m l e (wx (wrS (e2 == 0) l2 e2 f).1 (wrS (e2 == 0) l2 e2 f).2) (wrS (m && e == 0) l e f).1 (wrS (m && e == 0) l e f).2
theorem if_eq0 (e x y : Int) : (if (e == 0) = true then x else y) = if e = 0 then x else y := by by_cases h : e = 0 <;> simp [h]
section
variable (m : Bool) (l : List UInt8) (e : Int) (l2 : List UInt8) (e2 : Int) (n x : Int) (s : List UInt8) (hn : inI n) (hl : l.length < 9000000) (hl2 : l2.length < 9000000) (hs : s.length < 1000000)
include hn hl hl2 hs
theorem wr_0 : Wr m l e l2 e2 ⟨0, n, x, s⟩ := by
  have r1 : wrS (m && e == 0) l e ⟨0, n, x, s⟩ = (wB (m && e == 0) l [u8 n], e) := rfl
  have r2 : wrS (e2 == 0) l2 e2 ⟨0, n, x, s⟩ = (wB (e2 == 0) l2 [u8 n], e2) := rfl
  unfold Wr
  rw [r1, r2]
  refine fun_sound (ic := F_law02_write.body) mixed c_law02_write rfl rfl ?_
  simp only [go_sem, ↓reduceIte, Nat.reduceEqDiff, Nat.reduceLT, reduceCtorEq, Nat.reduceAdd, Nat.reduceLeDiff, Nat.reduceBEq, Nat.reduceBNe, Int.reduceNeg, Int.reduceToNat, Int.reduceBEq, Int.reduceBNe, wx, wo, wa, F_law02_write, u8_w]
  refine call_w [] (k := 1000) (j := 2000) (s_wbyte m l (u8 n) e (by omega)) (by decide) (by decide) (by decide) (by decide) (by first | rfl | simp [go_sem, slv_ids, wx, wo, wa]) (by simp [go_sem, wx, wo, wa]) (by rfl) (by rfl) (by rfl) ?_
  simp only [go_sem, ↓reduceIte, Nat.reduceEqDiff, Nat.reduceLT, reduceCtorEq, Nat.reduceAdd, Nat.reduceLeDiff, Nat.reduceBEq, Nat.reduceBNe, Int.reduceNeg, Int.reduceToNat, Int.reduceBEq, Int.reduceBNe, wx, wo, wa, u8_w]
  refine call_same (p_Byte l2 e2 hl2 (u8 n)) (by simp [go_sem, wx, wo, wa]) ?_
  simp only [go_sem, ↓reduceIte, Nat.reduceEqDiff, Nat.reduceLT, reduceCtorEq, Nat.reduceAdd, Nat.reduceLeDiff, Nat.reduceBEq, Nat.reduceBNe, Int.reduceNeg, Int.reduceToNat, Int.reduceBEq, Int.reduceBNe, wx, wo, wa]
  exact doneW (fun _ h => by cases h) (by simp only [go_sem, ↓reduceIte, Nat.reduceEqDiff, Nat.reduceLT, reduceCtorEq, Nat.reduceAdd, Nat.reduceLeDiff, Nat.reduceBEq, Nat.reduceBNe, Int.reduceNeg, Int.reduceToNat, Int.reduceBEq, Int.reduceBNe, wx, wo, wa]) (by simp only [go_sem, ↓reduceIte, Nat.reduceEqDiff, Nat.reduceLT, reduceCtorEq, Nat.reduceAdd, Nat.reduceLeDiff, Nat.reduceBEq, Nat.reduceBNe, Int.reduceNeg, Int.reduceToNat, Int.reduceBEq, Int.reduceBNe, wx, wo, wa]) (by simp only [go_sem, ↓reduceIte, Nat.reduceEqDiff, Nat.reduceLT, reduceCtorEq, Nat.reduceAdd, Nat.reduceLeDiff, Nat.reduceBEq, Nat.reduceBNe, Int.reduceNeg, Int.reduceToNat, Int.reduceBEq, Int.reduceBNe, wx, wo, wa]) (by simp [go_sem, wx])
theorem wr_1 : Wr m l e l2 e2 ⟨1, n, x, s⟩ := by
  have r1 : wrS (m && e == 0) l e ⟨1, n, x, s⟩ = wU (m && e == 0) l e n := rfl
  have r2 : wrS (e2 == 0) l2 e2 ⟨1, n, x, s⟩ = wU (e2 == 0) l2 e2 n := rfl
  unfold Wr
  rw [r1, r2]
  refine fun_sound (ic := F_law02_write.body) mixed c_law02_write rfl rfl ?_
  simp only [go_sem, ↓reduceIte, Nat.reduceEqDiff, Nat.reduceLT, reduceCtorEq, Nat.reduceAdd, Nat.reduceLeDiff, Nat.reduceBEq, Nat.reduceBNe, Int.reduceNeg, Int.reduceToNat, Int.reduceBEq, Int.reduceBNe, wx, wo, wa, F_law02_write]
  refine call_w [] (k := 1000) (j := 2000) (s_wU32 m l e n (by omega)) (by decide) (by decide) (by decide) (by decide) (by first | rfl | simp [go_sem, slv_ids, wx, wo, wa]) (by simp [go_sem, wx, wo, wa]) (by rfl) (by rfl) (by rfl) ?_
  simp only [go_sem, ↓reduceIte, Nat.reduceEqDiff, Nat.reduceLT, reduceCtorEq, Nat.reduceAdd, Nat.reduceLeDiff, Nat.reduceBEq, Nat.reduceBNe, Int.reduceNeg, Int.reduceToNat, Int.reduceBEq, Int.reduceBNe, wx, wo, wa]
  refine call_same (p_U32 l2 e2 hl2 n) (by simp [go_sem, wx, wo, wa]) ?_
  simp only [go_sem, ↓reduceIte, Nat.reduceEqDiff, Nat.reduceLT, reduceCtorEq, Nat.reduceAdd, Nat.reduceLeDiff, Nat.reduceBEq, Nat.reduceBNe, Int.reduceNeg, Int.reduceToNat, Int.reduceBEq, Int.reduceBNe, wx, wo, wa]
  exact doneW (fun _ h => by cases h) (by simp only [go_sem, ↓reduceIte, Nat.reduceEqDiff, Nat.reduceLT, reduceCtorEq, Nat.reduceAdd, Nat.reduceLeDiff, Nat.reduceBEq, Nat.reduceBNe, Int.reduceNeg, Int.reduceToNat, Int.reduceBEq, Int.reduceBNe, wx, wo, wa]) (by simp only [go_sem, ↓reduceIte, Nat.reduceEqDiff, Nat.reduceLT, reduceCtorEq, Nat.reduceAdd, Nat.reduceLeDiff, Nat.reduceBEq, Nat.reduceBNe, Int.reduceNeg, Int.reduceToNat, Int.reduceBEq, Int.reduceBNe, wx, wo, wa]) (by simp only [go_sem, ↓reduceIte, Nat.reduceEqDiff, Nat.reduceLT, reduceCtorEq, Nat.reduceAdd, Nat.reduceLeDiff, Nat.reduceBEq, Nat.reduceBNe, Int.reduceNeg, Int.reduceToNat, Int.reduceBEq, Int.reduceBNe, wx, wo, wa]) (by simp [go_sem, wx])
theorem wr_2 : Wr m l e l2 e2 ⟨2, n, x, s⟩ := by
  have r1 : wrS (m && e == 0) l e ⟨2, n, x, s⟩ = (wS (m && e == 0) l (s32 x), e) := rfl
  have r2 : wrS (e2 == 0) l2 e2 ⟨2, n, x, s⟩ = (wS (e2 == 0) l2 (s32 x), e2) := rfl
  unfold Wr
  rw [r1, r2]
  refine fun_sound (ic := F_law02_write.body) mixed c_law02_write rfl rfl ?_
  simp only [go_sem, ↓reduceIte, Nat.reduceEqDiff, Nat.reduceLT, reduceCtorEq, Nat.reduceAdd, Nat.reduceLeDiff, Nat.reduceBEq, Nat.reduceBNe, Int.reduceNeg, Int.reduceToNat, Int.reduceBEq, Int.reduceBNe, wx, wo, wa, F_law02_write]
  refine call_w [] (k := 1000) (j := 2000) (s_wS32 m l e (by omega) x) (by decide) (by decide) (by decide) (by decide) (by first | rfl | simp [go_sem, slv_ids, wx, wo, wa]) (by simp [go_sem, wx, wo, wa]) (by rfl) (by rfl) (by rfl) ?_
  simp only [go_sem, ↓reduceIte, Nat.reduceEqDiff, Nat.reduceLT, reduceCtorEq, Nat.reduceAdd, Nat.reduceLeDiff, Nat.reduceBEq, Nat.reduceBNe, Int.reduceNeg, Int.reduceToNat, Int.reduceBEq, Int.reduceBNe, wx, wo, wa]
  refine call_same (p_S32 l2 e2 hl2 x) (by simp [go_sem, wx, wo, wa]) ?_
  simp only [go_sem, ↓reduceIte, Nat.reduceEqDiff, Nat.reduceLT, reduceCtorEq, Nat.reduceAdd, Nat.reduceLeDiff, Nat.reduceBEq, Nat.reduceBNe, Int.reduceNeg, Int.reduceToNat, Int.reduceBEq, Int.reduceBNe, wx, wo, wa]
  exact doneW (fun _ h => by cases h) (by simp only [go_sem, ↓reduceIte, Nat.reduceEqDiff, Nat.reduceLT, reduceCtorEq, Nat.reduceAdd, Nat.reduceLeDiff, Nat.reduceBEq, Nat.reduceBNe, Int.reduceNeg, Int.reduceToNat, Int.reduceBEq, Int.reduceBNe, wx, wo, wa]) (by simp only [go_sem, ↓reduceIte, Nat.reduceEqDiff, Nat.reduceLT, reduceCtorEq, Nat.reduceAdd, Nat.reduceLeDiff, Nat.reduceBEq, Nat.reduceBNe, Int.reduceNeg, Int.reduceToNat, Int.reduceBEq, Int.reduceBNe, wx, wo, wa]) (by simp only [go_sem, ↓reduceIte, Nat.reduceEqDiff, Nat.reduceLT, reduceCtorEq, Nat.reduceAdd, Nat.reduceLeDiff, Nat.reduceBEq, Nat.reduceBNe, Int.reduceNeg, Int.reduceToNat, Int.reduceBEq, Int.reduceBNe, wx, wo, wa]) (by simp [go_sem, wx])
theorem wr_3 : Wr m l e l2 e2 ⟨3, n, x, s⟩ := by
  have r1 : wrS (m && e == 0) l e ⟨3, n, x, s⟩ = wS33 (m && e == 0) l e n := rfl
  have r2 : wrS (e2 == 0) l2 e2 ⟨3, n, x, s⟩ = wS33 (e2 == 0) l2 e2 n := rfl
  unfold Wr
  rw [r1, r2]
  refine fun_sound (ic := F_law02_write.body) mixed c_law02_write rfl rfl ?_
  simp only [go_sem, ↓reduceIte, Nat.reduceEqDiff, Nat.reduceLT, reduceCtorEq, Nat.reduceAdd, Nat.reduceLeDiff, Nat.reduceBEq, Nat.reduceBNe, Int.reduceNeg, Int.reduceToNat, Int.reduceBEq, Int.reduceBNe, wx, wo, wa, F_law02_write]
  refine call_w [] (k := 1000) (j := 2000) (s_wS33 m l e (by omega) n hn) (by decide) (by decide) (by decide) (by decide) (by first | rfl | simp [go_sem, slv_ids, wx, wo, wa]) (by simp [go_sem, wx, wo, wa]) (by rfl) (by rfl) (by rfl) ?_
  simp only [go_sem, ↓reduceIte, Nat.reduceEqDiff, Nat.reduceLT, reduceCtorEq, Nat.reduceAdd, Nat.reduceLeDiff, Nat.reduceBEq, Nat.reduceBNe, Int.reduceNeg, Int.reduceToNat, Int.reduceBEq, Int.reduceBNe, wx, wo, wa]
  refine call_same (p_S33 l2 e2 hl2 n hn) (by simp [go_sem, wx, wo, wa]) ?_
  simp only [go_sem, ↓reduceIte, Nat.reduceEqDiff, Nat.reduceLT, reduceCtorEq, Nat.reduceAdd, Nat.reduceLeDiff, Nat.reduceBEq, Nat.reduceBNe, Int.reduceNeg, Int.reduceToNat, Int.reduceBEq, Int.reduceBNe, wx, wo, wa]
  exact doneW (fun _ h => by cases h) (by simp only [go_sem, ↓reduceIte, Nat.reduceEqDiff, Nat.reduceLT, reduceCtorEq, Nat.reduceAdd, Nat.reduceLeDiff, Nat.reduceBEq, Nat.reduceBNe, Int.reduceNeg, Int.reduceToNat, Int.reduceBEq, Int.reduceBNe, wx, wo, wa]) (by simp only [go_sem, ↓reduceIte, Nat.reduceEqDiff, Nat.reduceLT, reduceCtorEq, Nat.reduceAdd, Nat.reduceLeDiff, Nat.reduceBEq, Nat.reduceBNe, Int.reduceNeg, Int.reduceToNat, Int.reduceBEq, Int.reduceBNe, wx, wo, wa]) (by simp only [go_sem, ↓reduceIte, Nat.reduceEqDiff, Nat.reduceLT, reduceCtorEq, Nat.reduceAdd, Nat.reduceLeDiff, Nat.reduceBEq, Nat.reduceBNe, Int.reduceNeg, Int.reduceToNat, Int.reduceBEq, Int.reduceBNe, wx, wo, wa]) (by simp [go_sem, wx])
theorem wr_4 : Wr m l e l2 e2 ⟨4, n, x, s⟩ := by
  have r1 : wrS (m && e == 0) l e ⟨4, n, x, s⟩ = (wS (m && e == 0) l (IntKind.i64.wrap x), e) := rfl
  have r2 : wrS (e2 == 0) l2 e2 ⟨4, n, x, s⟩ = (wS (e2 == 0) l2 (IntKind.i64.wrap x), e2) := rfl
  unfold Wr
  rw [r1, r2]
  refine fun_sound (ic := F_law02_write.body) mixed c_law02_write rfl rfl ?_
  simp only [go_sem, ↓reduceIte, Nat.reduceEqDiff, Nat.reduceLT, reduceCtorEq, Nat.reduceAdd, Nat.reduceLeDiff, Nat.reduceBEq, Nat.reduceBNe, Int.reduceNeg, Int.reduceToNat, Int.reduceBEq, Int.reduceBNe, wx, wo, wa, F_law02_write]
  refine call_w [] (k := 1000) (j := 2000) (s_wS64 m l e (by omega) x) (by decide) (by decide) (by decide) (by decide) (by first | rfl | simp [go_sem, slv_ids, wx, wo, wa]) (by simp [go_sem, wx, wo, wa]) (by rfl) (by rfl) (by rfl) ?_
  simp only [go_sem, ↓reduceIte, Nat.reduceEqDiff, Nat.reduceLT, reduceCtorEq, Nat.reduceAdd, Nat.reduceLeDiff, Nat.reduceBEq, Nat.reduceBNe, Int.reduceNeg, Int.reduceToNat, Int.reduceBEq, Int.reduceBNe, wx, wo, wa]
  refine call_same (p_S64 l2 e2 hl2 x) (by simp [go_sem, wx, wo, wa]) ?_
  simp only [go_sem, ↓reduceIte, Nat.reduceEqDiff, Nat.reduceLT, reduceCtorEq, Nat.reduceAdd, Nat.reduceLeDiff, Nat.reduceBEq, Nat.reduceBNe, Int.reduceNeg, Int.reduceToNat, Int.reduceBEq, Int.reduceBNe, wx, wo, wa]
  exact doneW (fun _ h => by cases h) (by simp only [go_sem, ↓reduceIte, Nat.reduceEqDiff, Nat.reduceLT, reduceCtorEq, Nat.reduceAdd, Nat.reduceLeDiff, Nat.reduceBEq, Nat.reduceBNe, Int.reduceNeg, Int.reduceToNat, Int.reduceBEq, Int.reduceBNe, wx, wo, wa]) (by simp only [go_sem, ↓reduceIte, Nat.reduceEqDiff, Nat.reduceLT, reduceCtorEq, Nat.reduceAdd, Nat.reduceLeDiff, Nat.reduceBEq, Nat.reduceBNe, Int.reduceNeg, Int.reduceToNat, Int.reduceBEq, Int.reduceBNe, wx, wo, wa]) (by simp only [go_sem, ↓reduceIte, Nat.reduceEqDiff, Nat.reduceLT, reduceCtorEq, Nat.reduceAdd, Nat.reduceLeDiff, Nat.reduceBEq, Nat.reduceBNe, Int.reduceNeg, Int.reduceToNat, Int.reduceBEq, Int.reduceBNe, wx, wo, wa]) (by simp [go_sem, wx])
theorem wr_6 : Wr m l e l2 e2 ⟨6, n, x, s⟩ := by
  have r1 : wrS (m && e == 0) l e ⟨6, n, x, s⟩ = wN (m && e == 0) l e s := rfl
  have r2 : wrS (e2 == 0) l2 e2 ⟨6, n, x, s⟩ = wN (e2 == 0) l2 e2 s := rfl
  unfold Wr
  rw [r1, r2]
  refine fun_sound (ic := F_law02_write.body) mixed c_law02_write rfl rfl ?_
  simp only [go_sem, ↓reduceIte, Nat.reduceEqDiff, Nat.reduceLT, reduceCtorEq, Nat.reduceAdd, Nat.reduceLeDiff, Nat.reduceBEq, Nat.reduceBNe, Int.reduceNeg, Int.reduceToNat, Int.reduceBEq, Int.reduceBNe, wx, wo, wa, F_law02_write]
  refine call_w [] (k := 1000) (j := 2000) (s_wname m l s e ⟨by omega, by omega⟩) (by decide) (by decide) (by decide) (by decide) (by first | rfl | simp [go_sem, slv_ids, wx, wo, wa]) (by simp [go_sem, wx, wo, wa]) (by rfl) (by rfl) (by rfl) ?_
  simp only [go_sem, ↓reduceIte, Nat.reduceEqDiff, Nat.reduceLT, reduceCtorEq, Nat.reduceAdd, Nat.reduceLeDiff, Nat.reduceBEq, Nat.reduceBNe, Int.reduceNeg, Int.reduceToNat, Int.reduceBEq, Int.reduceBNe, wx, wo, wa]
  refine call_same (p_Name l2 e2 hl2 s (by omega)) (by simp [go_sem, wx, wo, wa]) ?_
  simp only [go_sem, ↓reduceIte, Nat.reduceEqDiff, Nat.reduceLT, reduceCtorEq, Nat.reduceAdd, Nat.reduceLeDiff, Nat.reduceBEq, Nat.reduceBNe, Int.reduceNeg, Int.reduceToNat, Int.reduceBEq, Int.reduceBNe, wx, wo, wa]
  exact doneW (fun _ h => by cases h) (by simp only [go_sem, ↓reduceIte, Nat.reduceEqDiff, Nat.reduceLT, reduceCtorEq, Nat.reduceAdd, Nat.reduceLeDiff, Nat.reduceBEq, Nat.reduceBNe, Int.reduceNeg, Int.reduceToNat, Int.reduceBEq, Int.reduceBNe, wx, wo, wa]) (by simp only [go_sem, ↓reduceIte, Nat.reduceEqDiff, Nat.reduceLT, reduceCtorEq, Nat.reduceAdd, Nat.reduceLeDiff, Nat.reduceBEq, Nat.reduceBNe, Int.reduceNeg, Int.reduceToNat, Int.reduceBEq, Int.reduceBNe, wx, wo, wa]) (by simp only [go_sem, ↓reduceIte, Nat.reduceEqDiff, Nat.reduceLT, reduceCtorEq, Nat.reduceAdd, Nat.reduceLeDiff, Nat.reduceBEq, Nat.reduceBNe, Int.reduceNeg, Int.reduceToNat, Int.reduceBEq, Int.reduceBNe, wx, wo, wa]) (by simp [go_sem, wx])
theorem wr_5 : Wr m l e l2 e2 ⟨5, n, x, s⟩ := by
  have r1 : wrS (m && e == 0) l e ⟨5, n, x, s⟩ = (wB (m && e == 0) l s, e) := rfl
  have r2 : wrS (e2 == 0) l2 e2 ⟨5, n, x, s⟩ = (wB (e2 == 0) l2 s, e2) := rfl
  unfold Wr
  rw [r1, r2]
  refine fun_sound (ic := F_law02_write.body) mixed c_law02_write rfl rfl ?_
  simp only [go_sem, ↓reduceIte, Nat.reduceEqDiff, Nat.reduceLT, reduceCtorEq, Nat.reduceAdd, Nat.reduceLeDiff, Nat.reduceBEq, Nat.reduceBNe, Int.reduceNeg, Int.reduceToNat, Int.reduceBEq, Int.reduceBNe, wx, wo, wa, F_law02_write]
  refine ⟨by omega, ?_⟩
  refine call_w [67] (k := 1000) (j := 2000) (s_wbytes m l s e ⟨by omega, by omega⟩) (by decide) (by decide) (by decide) (by decide) (by first | rfl | simp [go_sem, slv_ids, wx, wo, wa]) (by simp [go_sem, wx, wo, wa]) ?_ (by rfl) (by rfl) ?_
  · simp only [go_sem, ↓reduceIte, Nat.reduceEqDiff, Nat.reduceLT, reduceCtorEq, Nat.reduceAdd, Nat.reduceLeDiff, Nat.reduceBEq, Nat.reduceBNe, Int.reduceNeg, Int.reduceToNat, Int.reduceBEq, Int.reduceBNe, wx, wo, wa, Nat.le_refl, List.length_map]
    rw [List.take_of_length_le (by simp)]
    rfl
  simp only [go_sem, ↓reduceIte, Nat.reduceEqDiff, Nat.reduceLT, reduceCtorEq, Nat.reduceAdd, Nat.reduceLeDiff, Nat.reduceBEq, Nat.reduceBNe, Int.reduceNeg, Int.reduceToNat, Int.reduceBEq, Int.reduceBNe, wx, wo, wa]
  refine ⟨by omega, ?_⟩
  refine call_frz [72] ?_ (p_Bytes l2 e2 (by omega) s (by omega)) (by simp [go_sem, wx]) ?_
  · simp only [go_sem, ↓reduceIte, Nat.reduceEqDiff, Nat.reduceLT, reduceCtorEq, Nat.reduceAdd, Nat.reduceLeDiff, Nat.reduceBEq, Nat.reduceBNe, Int.reduceNeg, Int.reduceToNat, Int.reduceBEq, Int.reduceBNe, wx, wo, wa, Nat.le_refl, List.length_map]
    rw [List.take_of_length_le (by simp)]
    rfl
  simp only [go_sem, ↓reduceIte, Nat.reduceEqDiff, Nat.reduceLT, reduceCtorEq, Nat.reduceAdd, Nat.reduceLeDiff, Nat.reduceBEq, Nat.reduceBNe, Int.reduceNeg, Int.reduceToNat, Int.reduceBEq, Int.reduceBNe, wx, wo, wa]
  exact doneW (fun _ h => by cases h) (by simp only [go_sem, ↓reduceIte, Nat.reduceEqDiff, Nat.reduceLT, reduceCtorEq, Nat.reduceAdd, Nat.reduceLeDiff, Nat.reduceBEq, Nat.reduceBNe, Int.reduceNeg, Int.reduceToNat, Int.reduceBEq, Int.reduceBNe, wx, wo, wa]) (by simp only [go_sem, ↓reduceIte, Nat.reduceEqDiff, Nat.reduceLT, reduceCtorEq, Nat.reduceAdd, Nat.reduceLeDiff, Nat.reduceBEq, Nat.reduceBNe, Int.reduceNeg, Int.reduceToNat, Int.reduceBEq, Int.reduceBNe, wx, wo, wa]) (by simp only [go_sem, ↓reduceIte, Nat.reduceEqDiff, Nat.reduceLT, reduceCtorEq, Nat.reduceAdd, Nat.reduceLeDiff, Nat.reduceBEq, Nat.reduceBNe, Int.reduceNeg, Int.reduceToNat, Int.reduceBEq, Int.reduceBNe, wx, wo, wa]) (by simp [go_sem, wx])
theorem wr_7 : Wr m l e l2 e2 ⟨7, n, x, s⟩ := by
  have r1 : wrS (m && e == 0) l e ⟨7, n, x, s⟩ = wP (m && e == 0) l e true s 0 := rfl
  have r2 : wrS (e2 == 0) l2 e2 ⟨7, n, x, s⟩ = wP (e2 == 0) l2 e2 true s 0 := rfl
  unfold Wr
  rw [r1, r2]
  refine fun_sound (ic := F_law02_write.body) mixed c_law02_write rfl rfl ?_
  have cp := s_wpart m l e (by omega) true s 0 (by omega)
  have b1 : wB (true && (0 : Int) == 0) [] s = s := by simp [wB]
  have cb := s_wbytes true [] s 0 ⟨by simp, by omega⟩
  rw [b1] at cb
  simp only [go_sem, ↓reduceIte, Nat.reduceEqDiff, Nat.reduceLT, reduceCtorEq, Nat.reduceAdd, Nat.reduceLeDiff, Nat.reduceBEq, Nat.reduceBNe, Int.reduceNeg, Int.reduceToNat, Int.reduceBEq, Int.reduceBNe, wx, wo, wa, F_law02_write]
  refine call_wnew 902 903 (by decide) (by decide) (by decide) (by simp only [go_sem, ↓reduceIte, Nat.reduceEqDiff, Nat.reduceLT, reduceCtorEq, Nat.reduceAdd, Nat.reduceLeDiff, Nat.reduceBEq, Nat.reduceBNe, Int.reduceNeg, Int.reduceToNat, Int.reduceBEq, Int.reduceBNe, wx, wo, wa]) (by simp only [go_sem, ↓reduceIte, Nat.reduceEqDiff, Nat.reduceLT, reduceCtorEq, Nat.reduceAdd, Nat.reduceLeDiff, Nat.reduceBEq, Nat.reduceBNe, Int.reduceNeg, Int.reduceToNat, Int.reduceBEq, Int.reduceBNe, wx, wo, wa]) ?_
  simp only [go_sem, ↓reduceIte, Nat.reduceEqDiff, Nat.reduceLT, reduceCtorEq, Nat.reduceAdd, Nat.reduceLeDiff, Nat.reduceBEq, Nat.reduceBNe, Int.reduceNeg, Int.reduceToNat, Int.reduceBEq, Int.reduceBNe, wx, wo, wa]
  refine ⟨by omega, ?_⟩
  refine call_w [90] (k := 902) (j := 903) (cb) (by decide) (by decide) (by decide) (by decide) (by first | rfl | simp [go_sem, slv_ids, wx, wo, wa]) (by simp [go_sem, wx, wo, wa]) ?_ (by rfl) (by rfl) ?_
  · simp only [go_sem, ↓reduceIte, Nat.reduceEqDiff, Nat.reduceLT, reduceCtorEq, Nat.reduceAdd, Nat.reduceLeDiff, Nat.reduceBEq, Nat.reduceBNe, Int.reduceNeg, Int.reduceToNat, Int.reduceBEq, Int.reduceBNe, wx, wo, wa, Nat.le_refl, List.length_map]
    rw [List.take_of_length_le (by simp)]
    rfl
  simp only [go_sem, ↓reduceIte, Nat.reduceEqDiff, Nat.reduceLT, reduceCtorEq, Nat.reduceAdd, Nat.reduceLeDiff, Nat.reduceBEq, Nat.reduceBNe, Int.reduceNeg, Int.reduceToNat, Int.reduceBEq, Int.reduceBNe, wx, wo, wa]
  refine call_obj (σ2 := [(1000, wo 2000 m l e), (2000, wa l), (902, wo 903 true s 0), (903, wa s)]) (r3 := .tup [])
    (σ3 := [(1000, wo 2000 m (wP (m && e == 0) l e true s 0).1 (wP (m && e == 0) l e true s 0).2), (2000, wa (wP (m && e == 0) l e true s 0).1), (902, wo 903 true s 0), (903, wa s)]) cp [(1001, 902), (2001, 903)] [2000, 903] rfl rfl rfl rfl ?_ ?_ ?_ ?_
  · simp only [go_sem, ↓reduceIte, Nat.reduceEqDiff, Nat.reduceLT, reduceCtorEq, Nat.reduceAdd, Nat.reduceLeDiff, Nat.reduceBEq, Nat.reduceBNe, Int.reduceNeg, Int.reduceToNat, Int.reduceBEq, Int.reduceBNe, wx, wo, wa]; simp
  · simp only [go_sem, ↓reduceIte, Nat.reduceEqDiff, Nat.reduceLT, reduceCtorEq, Nat.reduceAdd, Nat.reduceLeDiff, Nat.reduceBEq, Nat.reduceBNe, Int.reduceNeg, Int.reduceToNat, Int.reduceBEq, Int.reduceBNe, wx, wo, wa]; simp [sb, bw, swp, hget]
  · simp only [go_sem, ↓reduceIte, Nat.reduceEqDiff, Nat.reduceLT, reduceCtorEq, Nat.reduceAdd, Nat.reduceLeDiff, Nat.reduceBEq, Nat.reduceBNe, Int.reduceNeg, Int.reduceToNat, Int.reduceBEq, Int.reduceBNe, wx, wo, wa]; simp [hget]
  simp only [go_sem, ↓reduceIte, Nat.reduceEqDiff, Nat.reduceLT, reduceCtorEq, Nat.reduceAdd, Nat.reduceLeDiff, Nat.reduceBEq, Nat.reduceBNe, Int.reduceNeg, Int.reduceToNat, Int.reduceBEq, Int.reduceBNe, wx, wo, wa]
  refine ⟨by omega, ?_⟩
  refine call_frz [98] ?_ (p_Part l2 e2 hl2 s 0 hs) (by simp [go_sem, wx]) ?_
  · simp only [go_sem, ↓reduceIte, Nat.reduceEqDiff, Nat.reduceLT, reduceCtorEq, Nat.reduceAdd, Nat.reduceLeDiff, Nat.reduceBEq, Nat.reduceBNe, Int.reduceNeg, Int.reduceToNat, Int.reduceBEq, Int.reduceBNe, wx, wo, wa, Nat.le_refl, List.length_map]
    rw [List.take_of_length_le (by simp)]
    rfl
  simp only [go_sem, ↓reduceIte, Nat.reduceEqDiff, Nat.reduceLT, reduceCtorEq, Nat.reduceAdd, Nat.reduceLeDiff, Nat.reduceBEq, Nat.reduceBNe, Int.reduceNeg, Int.reduceToNat, Int.reduceBEq, Int.reduceBNe, wx, wo, wa]
  exact doneW (fun _ h => by cases h) (by simp only [go_sem, ↓reduceIte, Nat.reduceEqDiff, Nat.reduceLT, reduceCtorEq, Nat.reduceAdd, Nat.reduceLeDiff, Nat.reduceBEq, Nat.reduceBNe, Int.reduceNeg, Int.reduceToNat, Int.reduceBEq, Int.reduceBNe, wx, wo, wa]) (by simp only [go_sem, ↓reduceIte, Nat.reduceEqDiff, Nat.reduceLT, reduceCtorEq, Nat.reduceAdd, Nat.reduceLeDiff, Nat.reduceBEq, Nat.reduceBNe, Int.reduceNeg, Int.reduceToNat, Int.reduceBEq, Int.reduceBNe, wx, wo, wa]) (by simp only [go_sem, ↓reduceIte, Nat.reduceEqDiff, Nat.reduceLT, reduceCtorEq, Nat.reduceAdd, Nat.reduceLeDiff, Nat.reduceBEq, Nat.reduceBNe, Int.reduceNeg, Int.reduceToNat, Int.reduceBEq, Int.reduceBNe, wx, wo, wa]) (by simp [go_sem, wx])
theorem wr_8 : Wr m l e l2 e2 ⟨8, n, x, s⟩ := by
  have r1 : wrS (m && e == 0) l e ⟨8, n, x, s⟩ = (l, if (m && e == 0) = true then n else e) := rfl
  have r2 : wrS (e2 == 0) l2 e2 ⟨8, n, x, s⟩ = (l2, if (e2 == 0) = true then n else e2) := rfl
  unfold Wr
  rw [r1, r2]
  refine fun_sound (ic := F_law02_write.body) mixed c_law02_write rfl rfl ?_
  rw [if_eq0 e2]
  simp only [go_sem, ↓reduceIte, Nat.reduceEqDiff, Nat.reduceLT, reduceCtorEq, Nat.reduceAdd, Nat.reduceLeDiff, Nat.reduceBEq, Nat.reduceBNe, Int.reduceNeg, Int.reduceToNat, Int.reduceBEq, Int.reduceBNe, wx, wo, wa, F_law02_write]
  refine call_w [] (k := 1000) (j := 2000) (s_wfail m l e n) (by decide) (by decide) (by decide) (by decide) (by first | rfl | simp [go_sem, slv_ids, wx, wo, wa]) (by simp [go_sem, wx, wo, wa]) (by rfl) (by rfl) (by rfl) ?_
  simp only [go_sem, ↓reduceIte, Nat.reduceEqDiff, Nat.reduceLT, reduceCtorEq, Nat.reduceAdd, Nat.reduceLeDiff, Nat.reduceBEq, Nat.reduceBNe, Int.reduceNeg, Int.reduceToNat, Int.reduceBEq, Int.reduceBNe, wx, wo, wa]
  refine call_same (p_Fail l2 e2 n) (by simp [go_sem, wx, wo, wa]) ?_
  simp only [go_sem, ↓reduceIte, Nat.reduceEqDiff, Nat.reduceLT, reduceCtorEq, Nat.reduceAdd, Nat.reduceLeDiff, Nat.reduceBEq, Nat.reduceBNe, Int.reduceNeg, Int.reduceToNat, Int.reduceBEq, Int.reduceBNe, wx, wo, wa]
  exact doneW (fun _ h => by cases h) (by simp only [go_sem, ↓reduceIte, Nat.reduceEqDiff, Nat.reduceLT, reduceCtorEq, Nat.reduceAdd, Nat.reduceLeDiff, Nat.reduceBEq, Nat.reduceBNe, Int.reduceNeg, Int.reduceToNat, Int.reduceBEq, Int.reduceBNe, wx, wo, wa]) (by simp only [go_sem, ↓reduceIte, Nat.reduceEqDiff, Nat.reduceLT, reduceCtorEq, Nat.reduceAdd, Nat.reduceLeDiff, Nat.reduceBEq, Nat.reduceBNe, Int.reduceNeg, Int.reduceToNat, Int.reduceBEq, Int.reduceBNe, wx, wo, wa]) (by simp only [go_sem, ↓reduceIte, Nat.reduceEqDiff, Nat.reduceLT, reduceCtorEq, Nat.reduceAdd, Nat.reduceLeDiff, Nat.reduceBEq, Nat.reduceBNe, Int.reduceNeg, Int.reduceToNat, Int.reduceBEq, Int.reduceBNe, wx, wo, wa]) (by simp [go_sem, wx])
theorem wr_e (d : Int) (h0 : ¬ d = 0) (h1 : ¬ d = 1) (h2 : ¬ d = 2) (h3 : ¬ d = 3) (h4 : ¬ d = 4) (h5 : ¬ d = 5) (h6 : ¬ d = 6) (h7 : ¬ d = 7) (h8 : ¬ d = 8) : Wr m l e l2 e2 ⟨d, n, x, s⟩ := by
  have hr : ∀ ok l e, wrS ok l e ⟨d, n, x, s⟩ = (l, e) := fun ok l e => by simp [wrS, h0, h1, h2, h3, h4, h5, h6, h7, h8]
  unfold Wr
  rw [hr, hr]
  refine fun_sound (ic := F_law02_write.body) mixed c_law02_write rfl rfl ?_
  simp only [go_sem, ↓reduceIte, Nat.reduceEqDiff, Nat.reduceLT, reduceCtorEq, Nat.reduceAdd, Nat.reduceLeDiff, Nat.reduceBEq, Nat.reduceBNe, Int.reduceNeg, Int.reduceToNat, Int.reduceBEq, Int.reduceBNe, wx, wo, wa, F_law02_write, beq_f h0, beq_f h1, beq_f h2, beq_f h3, beq_f h4, beq_f h5, beq_f h6, beq_f h7, beq_f h8]
  exact doneW (fun _ h => by cases h) (by simp only [go_sem, ↓reduceIte, Nat.reduceEqDiff, Nat.reduceLT, reduceCtorEq, Nat.reduceAdd, Nat.reduceLeDiff, Nat.reduceBEq, Nat.reduceBNe, Int.reduceNeg, Int.reduceToNat, Int.reduceBEq, Int.reduceBNe, wx, wo, wa]) (by simp only [go_sem, ↓reduceIte, Nat.reduceEqDiff, Nat.reduceLT, reduceCtorEq, Nat.reduceAdd, Nat.reduceLeDiff, Nat.reduceBEq, Nat.reduceBNe, Int.reduceNeg, Int.reduceToNat, Int.reduceBEq, Int.reduceBNe, wx, wo, wa]) (by simp only [go_sem, ↓reduceIte, Nat.reduceEqDiff, Nat.reduceLT, reduceCtorEq, Nat.reduceAdd, Nat.reduceLeDiff, Nat.reduceBEq, Nat.reduceBNe, Int.reduceNeg, Int.reduceToNat, Int.reduceBEq, Int.reduceBNe, wx, wo, wa]) (by simp [go_sem, wx])
end
theorem wr_all (m : Bool) (l : List UInt8) (e : Int) (l2 : List UInt8) (e2 : Int) (f : Fld) (hn : inI f.n) (hl : l.length < 9000000) (hl2 : l2.length < 9000000) (hs : f.s.length < 1000000) : Wr m l e l2 e2 f := by
  obtain ⟨d, n, x, s⟩ := f
  by_cases h0 : d = 0
  · subst h0; exact wr_0 m l e l2 e2 n x s hn hl hl2 hs
  by_cases h1 : d = 1
  · subst h1; exact wr_1 m l e l2 e2 n x s hn hl hl2 hs
  by_cases h2 : d = 2
  · subst h2; exact wr_2 m l e l2 e2 n x s hn hl hl2 hs
  by_cases h3 : d = 3
  · subst h3; exact wr_3 m l e l2 e2 n x s hn hl hl2 hs
  by_cases h4 : d = 4
  · subst h4; exact wr_4 m l e l2 e2 n x s hn hl hl2 hs
  by_cases h5 : d = 5
  · subst h5; exact wr_5 m l e l2 e2 n x s hn hl hl2 hs
  by_cases h6 : d = 6
  · subst h6; exact wr_6 m l e l2 e2 n x s hn hl hl2 hs
  by_cases h7 : d = 7
  · subst h7; exact wr_7 m l e l2 e2 n x s hn hl hl2 hs
  by_cases h8 : d = 8
  · subst h8; exact wr_8 m l e l2 e2 n x s hn hl hl2 hs
  exact wr_e m l e l2 e2 n x s hn hl hl2 hs d h0 h1 h2 h3 h4 h5 h6 h7 h8
end Go.Proofs.YtkejmhpodhbeeaaDoor
set_option linter.unusedSimpArgs false
set_option maxRecDepth 100000
set_option maxHeartbeats 4000000
set_option linter.unusedVariables false
namespace Go.Proofs.YtkejmhpodhbeeaaDoor
open Go Go.Mw
-- @U: wx, wo, wa, slv_none, slv_some

/-- Few fields, and none long. -/
def shortB (L : List Fld) : Bool := decide (L.length ≤ 25) && L.all (fun f => decide (f.s.length ≤ 200))
theorem w_short (L : List Fld) : ∃ q : Bool, (q = true → L.length ≤ 25 ∧ ∀ f ∈ L, f.s.length ≤ 200) ∧ PCalls Tryd.prog n_law02_short [.sl 4 (L.map fld_)] (.bool q) := by
  have key : ∀ i, i ≤ L.length → (∀ k, k < i → (nth L k).s.length ≤ 200) → ∃ q : Bool, (q = true → L.length ≤ 25 ∧ ∀ f ∈ L, f.s.length ≤ 200) := fun _ _ _ => ⟨false, fun h => by cases h⟩
  by_cases hall : ∀ k, k < L.length → k < 30 → (nth L k).s.length ≤ 200
  · refine ⟨decide ((L.length : Int) ≤ 25), fun hq => ?_, ?_⟩
    · have h1 : L.length ≤ 25 := by have := of_decide_eq_true hq; omega
      refine ⟨h1, fun f hf => ?_⟩
      obtain ⟨k, hk, rfl⟩ := List.getElem_of_mem hf
      rw [← nth_eq hk]
      exact hall k hk (by omega)
    · refine pfun_sound (ic := F_law02_short.body) mixed c_law02_short rfl rfl ?_
      simp only [go_sem, ↓reduceIte, Nat.reduceEqDiff, Nat.reduceLT, reduceCtorEq, Nat.reduceAdd, Nat.reduceLeDiff, Nat.reduceBEq, Nat.reduceBNe, Int.reduceNeg, Int.reduceToNat, Int.reduceBEq, Int.reduceBNe, wx, wo, wa, F_law02_short]
      refine loop_rule (fun i : Nat => ⟨[(3, .int .i64 i), (0, .sl 4 (L.map fld_))], []⟩) (fun i => i ≤ L.length ∧ i ≤ 30) (fun i => 30 - i) 0 ⟨Nat.zero_le _, Nat.zero_le _⟩ (Wk.of ?_ ?_) ?_
      · simp only [go_sem, ↓reduceIte, Nat.reduceEqDiff, Nat.reduceLT, reduceCtorEq, Nat.reduceAdd, Nat.reduceLeDiff, Nat.reduceBEq, Nat.reduceBNe, Int.reduceNeg, Int.reduceToNat, Int.reduceBEq, Int.reduceBNe, wx, wo, wa]; simp
      · simp only [go_sem, ↓reduceIte, Nat.reduceEqDiff, Nat.reduceLT, reduceCtorEq, Nat.reduceAdd, Nat.reduceLeDiff, Nat.reduceBEq, Nat.reduceBNe, Int.reduceNeg, Int.reduceToNat, Int.reduceBEq, Int.reduceBNe, wx, wo, wa]
      rintro i ⟨hi, hi2⟩
      have e8 := wi (n := (i : Int) + 1) (by omega) (by omega)
      by_cases h1 : (i : Int) < (L.length : Int)
      · by_cases h2 : (i : Int) < 30
        · have hs := hall i (by omega) (by omega)
          have d3 : decide (((nth L i).s.length : Int) > 200) = false := decide_eq_false (by omega)
          simp only [go_sem, ↓reduceIte, Nat.reduceEqDiff, Nat.reduceLT, reduceCtorEq, Nat.reduceAdd, Nat.reduceLeDiff, Nat.reduceBEq, Nat.reduceBNe, Int.reduceNeg, Int.reduceToNat, Int.reduceBEq, Int.reduceBNe, wx, wo, wa, decide_eq_true h1, decide_eq_true h2, d3]
          refine ⟨by omega, by omega, klp_n (i + 1) ⟨by omega, by omega⟩ (show 30 - (i + 1) < 30 - i by omega) (Wk.of ?_ ?_)⟩
          · simp only [go_sem, ↓reduceIte, Nat.reduceEqDiff, Nat.reduceLT, reduceCtorEq, Nat.reduceAdd, Nat.reduceLeDiff, Nat.reduceBEq, Nat.reduceBNe, Int.reduceNeg, Int.reduceToNat, Int.reduceBEq, Int.reduceBNe, wx, wo, wa, e8]
            simp
          · simp only [go_sem, ↓reduceIte, Nat.reduceEqDiff, Nat.reduceLT, reduceCtorEq, Nat.reduceAdd, Nat.reduceLeDiff, Nat.reduceBEq, Nat.reduceBNe, Int.reduceNeg, Int.reduceToNat, Int.reduceBEq, Int.reduceBNe, wx, wo, wa]
        · simp only [go_sem, ↓reduceIte, Nat.reduceEqDiff, Nat.reduceLT, reduceCtorEq, Nat.reduceAdd, Nat.reduceLeDiff, Nat.reduceBEq, Nat.reduceBNe, Int.reduceNeg, Int.reduceToNat, Int.reduceBEq, Int.reduceBNe, wx, wo, wa, decide_eq_true h1, decide_eq_false h2]
          exact pdone [] (by simp only [go_sem, ↓reduceIte, Nat.reduceEqDiff, Nat.reduceLT, reduceCtorEq, Nat.reduceAdd, Nat.reduceLeDiff, Nat.reduceBEq, Nat.reduceBNe, Int.reduceNeg, Int.reduceToNat, Int.reduceBEq, Int.reduceBNe, wx, wo, wa]) (by first | rfl | simp [go_sem, slv_ids, wx, wo, wa])
      · simp only [go_sem, ↓reduceIte, Nat.reduceEqDiff, Nat.reduceLT, reduceCtorEq, Nat.reduceAdd, Nat.reduceLeDiff, Nat.reduceBEq, Nat.reduceBNe, Int.reduceNeg, Int.reduceToNat, Int.reduceBEq, Int.reduceBNe, wx, wo, wa, decide_eq_false h1]
        exact pdone [] (by simp only [go_sem, ↓reduceIte, Nat.reduceEqDiff, Nat.reduceLT, reduceCtorEq, Nat.reduceAdd, Nat.reduceLeDiff, Nat.reduceBEq, Nat.reduceBNe, Int.reduceNeg, Int.reduceToNat, Int.reduceBEq, Int.reduceBNe, wx, wo, wa]) (by first | rfl | simp [go_sem, slv_ids, wx, wo, wa])
  · refine ⟨false, (fun h => by cases h), ?_⟩
    refine pfun_sound (ic := F_law02_short.body) mixed c_law02_short rfl rfl ?_
    simp only [go_sem, ↓reduceIte, Nat.reduceEqDiff, Nat.reduceLT, reduceCtorEq, Nat.reduceAdd, Nat.reduceLeDiff, Nat.reduceBEq, Nat.reduceBNe, Int.reduceNeg, Int.reduceToNat, Int.reduceBEq, Int.reduceBNe, wx, wo, wa, F_law02_short]
    refine loop_rule (fun i : Nat => ⟨[(3, .int .i64 i), (0, .sl 4 (L.map fld_))], []⟩) (fun i => i ≤ L.length ∧ i ≤ 30 ∧ ∀ k, k < i → (nth L k).s.length ≤ 200) (fun i => 30 - i) 0 ⟨Nat.zero_le _, Nat.zero_le _, fun k hk => absurd hk (Nat.not_lt_zero k)⟩ (Wk.of ?_ ?_) ?_
    · simp only [go_sem, ↓reduceIte, Nat.reduceEqDiff, Nat.reduceLT, reduceCtorEq, Nat.reduceAdd, Nat.reduceLeDiff, Nat.reduceBEq, Nat.reduceBNe, Int.reduceNeg, Int.reduceToNat, Int.reduceBEq, Int.reduceBNe, wx, wo, wa]; simp
    · simp only [go_sem, ↓reduceIte, Nat.reduceEqDiff, Nat.reduceLT, reduceCtorEq, Nat.reduceAdd, Nat.reduceLeDiff, Nat.reduceBEq, Nat.reduceBNe, Int.reduceNeg, Int.reduceToNat, Int.reduceBEq, Int.reduceBNe, wx, wo, wa]
    rintro i ⟨hi, hi2, hk⟩
    have e8 := wi (n := (i : Int) + 1) (by omega) (by omega)
    by_cases h1 : (i : Int) < (L.length : Int)
    · by_cases h2 : (i : Int) < 30
      · by_cases h3 : ((nth L i).s.length : Int) > 200
        · simp only [go_sem, ↓reduceIte, Nat.reduceEqDiff, Nat.reduceLT, reduceCtorEq, Nat.reduceAdd, Nat.reduceLeDiff, Nat.reduceBEq, Nat.reduceBNe, Int.reduceNeg, Int.reduceToNat, Int.reduceBEq, Int.reduceBNe, wx, wo, wa, decide_eq_true h1, decide_eq_true h2, decide_eq_true h3]
          exact ⟨by omega, by omega, by exact pdone [] (by simp only [go_sem, ↓reduceIte, Nat.reduceEqDiff, Nat.reduceLT, reduceCtorEq, Nat.reduceAdd, Nat.reduceLeDiff, Nat.reduceBEq, Nat.reduceBNe, Int.reduceNeg, Int.reduceToNat, Int.reduceBEq, Int.reduceBNe, wx, wo, wa]) (by first | rfl | simp [go_sem, slv_ids, wx, wo, wa])⟩
        · simp only [go_sem, ↓reduceIte, Nat.reduceEqDiff, Nat.reduceLT, reduceCtorEq, Nat.reduceAdd, Nat.reduceLeDiff, Nat.reduceBEq, Nat.reduceBNe, Int.reduceNeg, Int.reduceToNat, Int.reduceBEq, Int.reduceBNe, wx, wo, wa, decide_eq_true h1, decide_eq_true h2, decide_eq_false h3]
          refine ⟨by omega, by omega, klp_n (i + 1) ⟨by omega, by omega, fun k hk2 => ?_⟩ (show 30 - (i + 1) < 30 - i by omega) (Wk.of ?_ ?_)⟩
          · rcases Nat.lt_or_ge k i with h4 | h4
            · exact hk k h4
            · obtain rfl : k = i := by omega
              omega
          · simp only [go_sem, ↓reduceIte, Nat.reduceEqDiff, Nat.reduceLT, reduceCtorEq, Nat.reduceAdd, Nat.reduceLeDiff, Nat.reduceBEq, Nat.reduceBNe, Int.reduceNeg, Int.reduceToNat, Int.reduceBEq, Int.reduceBNe, wx, wo, wa, e8]
            simp
          · simp only [go_sem, ↓reduceIte, Nat.reduceEqDiff, Nat.reduceLT, reduceCtorEq, Nat.reduceAdd, Nat.reduceLeDiff, Nat.reduceBEq, Nat.reduceBNe, Int.reduceNeg, Int.reduceToNat, Int.reduceBEq, Int.reduceBNe, wx, wo, wa]
      · exfalso
        exact hall fun k h4 h5 => hk k (by omega)
    · exfalso
      exact hall fun k h4 h5 => hk k (by omega)
theorem putU_5 {n : Nat} (h : n < 1000000) : (putU n).length ≤ 5 := putU_32 (by omega)
theorem wrS_len (ok : Bool) (l : List UInt8) (e : Int) (f : Fld) (hn : inI f.n) (hs : f.s.length ≤ 200) : (wrS ok l e f).1.length ≤ l.length + 300 := by
  have h1 := putU_5 (n := f.s.length) (by omega)
  have b : ∀ (l x : List UInt8), x.length ≤ 205 → (wB ok l x).length ≤ l.length + x.length := fun l x h => wB_len
  have s1 := s32_in f.x
  have s2 := putS_10 (n := s32 f.x) ⟨by omega, by omega⟩
  have s3 := putS_10 (i64_in f.x)
  have s4 := putS_10 hn
  have u := wU_len (ok := ok) (l := l) (e := e) (n := f.n)
  unfold wrS
  split
  · have := b l [u8 f.n] (by simp); simp at this ⊢; omega
  split
  · omega
  split
  · have := b l (putS (s32 f.x)) (by omega); simp only [wS]; omega
  split
  · unfold wS33
    split
    · simp
    · have := b l (putS f.n) (by omega); simp only [wS]; omega
  split
  · have := b l (putS (IntKind.i64.wrap f.x)) (by omega); simp only [wS]; omega
  split
  · have := b l f.s (by omega); simp only; omega
  split
  · unfold wN
    repeat' split
    all_goals simp
    all_goals omega
  split
  · have e1 : wP ok l e true f.s 0 = (wB ok (wB ok l (putU f.s.length)) f.s, e) := by simp [wP]
    rw [e1]
    have t1 := b l (putU f.s.length) (by omega)
    have t2 := b (wB ok l (putU f.s.length)) f.s (by omega)
    simp only
    omega
  split <;> simp
theorem w_writes (L : List Fld) (hL : ∀ f ∈ L, inI f.n) : PCalls Tryd.prog n_law02_OctetWrites [.sl 4 (L.map fld_)] (.bool true) := by
  refine pfun_sound (ic := F_law02_OctetWrites.body) mixed c_law02_OctetWrites rfl rfl ?_
  obtain ⟨q, hq, hc⟩ := w_short L
  simp only [go_sem, ↓reduceIte, Nat.reduceEqDiff, Nat.reduceLT, reduceCtorEq, Nat.reduceAdd, Nat.reduceLeDiff, Nat.reduceBEq, Nat.reduceBNe, Int.reduceNeg, Int.reduceToNat, Int.reduceBEq, Int.reduceBNe, wx, wo, wa, F_law02_OctetWrites]
  refine call_same (hc) (by simp [go_sem, wx, wo, wa]) ?_
  cases q
  · simp only [go_sem, ↓reduceIte, Nat.reduceEqDiff, Nat.reduceLT, reduceCtorEq, Nat.reduceAdd, Nat.reduceLeDiff, Nat.reduceBEq, Nat.reduceBNe, Int.reduceNeg, Int.reduceToNat, Int.reduceBEq, Int.reduceBNe, wx, wo, wa]
    refine call_same (s_alive) (by simp [go_sem, wx, wo, wa]) ?_
    simp only [go_sem, ↓reduceIte, Nat.reduceEqDiff, Nat.reduceLT, reduceCtorEq, Nat.reduceAdd, Nat.reduceLeDiff, Nat.reduceBEq, Nat.reduceBNe, Int.reduceNeg, Int.reduceToNat, Int.reduceBEq, Int.reduceBNe, wx, wo, wa]
    exact pdone [] (by simp only [go_sem, ↓reduceIte, Nat.reduceEqDiff, Nat.reduceLT, reduceCtorEq, Nat.reduceAdd, Nat.reduceLeDiff, Nat.reduceBEq, Nat.reduceBNe, Int.reduceNeg, Int.reduceToNat, Int.reduceBEq, Int.reduceBNe, wx, wo, wa]) (by first | rfl | simp [go_sem, slv_ids, wx, wo, wa])
  obtain ⟨h25, h200⟩ := hq rfl
  simp only [go_sem, ↓reduceIte, Nat.reduceEqDiff, Nat.reduceLT, reduceCtorEq, Nat.reduceAdd, Nat.reduceLeDiff, Nat.reduceBEq, Nat.reduceBNe, Int.reduceNeg, Int.reduceToNat, Int.reduceBEq, Int.reduceBNe, wx, wo, wa]
  refine call_wnew 902 903 (by decide) (by decide) (by decide) (by simp only [go_sem, ↓reduceIte, Nat.reduceEqDiff, Nat.reduceLT, reduceCtorEq, Nat.reduceAdd, Nat.reduceLeDiff, Nat.reduceBEq, Nat.reduceBNe, Int.reduceNeg, Int.reduceToNat, Int.reduceBEq, Int.reduceBNe, wx, wo, wa]) (by simp only [go_sem, ↓reduceIte, Nat.reduceEqDiff, Nat.reduceLT, reduceCtorEq, Nat.reduceAdd, Nat.reduceLeDiff, Nat.reduceBEq, Nat.reduceBNe, Int.reduceNeg, Int.reduceToNat, Int.reduceBEq, Int.reduceBNe, wx, wo, wa]) ?_
  simp only [go_sem, ↓reduceIte, Nat.reduceEqDiff, Nat.reduceLT, reduceCtorEq, Nat.reduceAdd, Nat.reduceLeDiff, Nat.reduceBEq, Nat.reduceBNe, Int.reduceNeg, Int.reduceToNat, Int.reduceBEq, Int.reduceBNe, wx, wo, wa]
  refine loop_rule (fun q : Nat × List UInt8 × Int => ⟨[(5, .int .i64 q.1), (3, .mp 902 3 0 0), (4, .mp 4 2 0 0), (0, .sl 4 (L.map fld_))], [(4, ⟨36, 2, [[.sl 1 (q.2.1.map by_), .int .i64 q.2.2]], true⟩), (902, wo 903 true q.2.1 q.2.2), (903, wa q.2.1)]⟩)
    (fun q => q.1 ≤ L.length ∧ q.2.1.length ≤ q.1 * 300) (fun q => L.length - q.1) (0, [], 0) ⟨Nat.zero_le _, Nat.zero_le _⟩ ((Wk.nlh _ 4 (t := 36) (st := 2) (r := [.nl, .int .i64 0]) (r' := [.sl 1 [], .int .i64 0]) (by simp only [go_sem, ↓reduceIte, Nat.reduceEqDiff, Nat.reduceLT, reduceCtorEq, Nat.reduceAdd, Nat.reduceLeDiff, Nat.reduceBEq, Nat.reduceBNe, Int.reduceNeg, Int.reduceToNat, Int.reduceBEq, Int.reduceBNe, wx, wo, wa]) ⟨.inr ⟨rfl, 1, rfl⟩, .inl rfl, trivial⟩).trans (Wk.of ?_ ?_)) ?_
  · simp only [go_sem, ↓reduceIte, Nat.reduceEqDiff, Nat.reduceLT, reduceCtorEq, Nat.reduceAdd, Nat.reduceLeDiff, Nat.reduceBEq, Nat.reduceBNe, Int.reduceNeg, Int.reduceToNat, Int.reduceBEq, Int.reduceBNe, wx, wo, wa] <;> simp
  · simp only [go_sem, ↓reduceIte, Nat.reduceEqDiff, Nat.reduceLT, reduceCtorEq, Nat.reduceAdd, Nat.reduceLeDiff, Nat.reduceBEq, Nat.reduceBNe, Int.reduceNeg, Int.reduceToNat, Int.reduceBEq, Int.reduceBNe, wx, wo, wa] <;> simp
  rintro ⟨i, l, e⟩ ⟨hi, hl⟩
  replace hi : i ≤ L.length := hi
  replace hl : l.length ≤ i * 300 := hl
  rcases Nat.lt_or_ge i L.length with hlt | hge
  · have d3 : decide ((i : Int) < (L.length : Int)) = true := decide_eq_true (by omega)
    have e8 := wi (n := (i : Int) + 1) (by omega) (by omega)
    have hm : nth L i ∈ L := by rw [nth_eq hlt]; exact List.getElem_mem hlt
    have hx := hL _ hm
    have hs := h200 _ hm
    have hw := wr_all true l e l e (nth L i) hx (by omega) (by omega) (by omega)
    have hlen := wrS_len (e == 0) l e (nth L i) hx hs
    unfold Wr at hw
    rw [Bool.true_and] at hw
    generalize hp : wrS (e == 0) l e (nth L i) = p at *
    obtain ⟨l', e'⟩ := p
    replace hlen : l'.length ≤ l.length + 300 := hlen
    have hd := s_wdone true l' e' (by omega)
    have hd2 := p_Done l' e'
    have hln := s_wlen true l' e'
    have klp : ∀ s : St, leE s.env [(5, .int .i64 ((i : Int) + 1)), (3, .mp 902 3 0 0), (4, .mp 4 2 0 0), (0, .sl 4 (L.map fld_))] → leH s.heap [(4, ⟨36, 2, [[.sl 1 (l'.map by_), .int .i64 e']], true⟩), (902, wo 903 true l' e'), (903, wa l')] → Wk s ⟨[(5, .int .i64 ((i + 1 : Nat) : Int)), (3, .mp 902 3 0 0), (4, .mp 4 2 0 0), (0, .sl 4 (L.map fld_))], [(4, ⟨36, 2, [[.sl 1 (l'.map by_), .int .i64 e']], true⟩), (902, wo 903 true l' e'), (903, wa l')]⟩ := fun s h1 h2 => Wk.of (by simpa using h1) h2
    by_cases he : e' = 0
    · subst he
      have r : wD true l' 0 = (some l', 0) := rfl
      have n1 : (l' != l') = false := by simp
      rw [r] at hd hd2
      simp only [go_sem, ↓reduceIte, Nat.reduceEqDiff, Nat.reduceLT, reduceCtorEq, Nat.reduceAdd, Nat.reduceLeDiff, Nat.reduceBEq, Nat.reduceBNe, Int.reduceNeg, Int.reduceToNat, Int.reduceBEq, Int.reduceBNe, wx, wo, wa, d3]
      refine ⟨by omega, by omega, ?_⟩
      refine call_w [] (k := 902) (j := 903) (hw) (by decide) (by decide) (by decide) (by decide) (by first | rfl | simp [go_sem, slv_ids, wx, wo, wa]) (by simp [go_sem, wx, wo, wa]) (by rfl) (by rfl) (by rfl) ?_
      simp only [go_sem, ↓reduceIte, Nat.reduceEqDiff, Nat.reduceLT, reduceCtorEq, Nat.reduceAdd, Nat.reduceLeDiff, Nat.reduceBEq, Nat.reduceBNe, Int.reduceNeg, Int.reduceToNat, Int.reduceBEq, Int.reduceBNe, wx, wo, wa]
      refine call_w [] (k := 902) (j := 903) (hd) (by decide) (by decide) (by decide) (by decide) (by first | rfl | simp [go_sem, slv_ids, wx, wo, wa]) (by simp [go_sem, wx, wo, wa]) (by rfl) (by rfl) (by rfl) ?_
      simp only [go_sem, ↓reduceIte, Nat.reduceEqDiff, Nat.reduceLT, reduceCtorEq, Nat.reduceAdd, Nat.reduceLeDiff, Nat.reduceBEq, Nat.reduceBNe, Int.reduceNeg, Int.reduceToNat, Int.reduceBEq, Int.reduceBNe, wx, wo, wa]
      refine call_same (hd2) (by simp [go_sem, wx, wo, wa]) ?_
      simp only [go_sem, ↓reduceIte, Nat.reduceEqDiff, Nat.reduceLT, reduceCtorEq, Nat.reduceAdd, Nat.reduceLeDiff, Nat.reduceBEq, Nat.reduceBNe, Int.reduceNeg, Int.reduceToNat, Int.reduceBEq, Int.reduceBNe, wx, wo, wa, bytes_by l', Option.map_some, n1]
      refine call_w [] (k := 902) (j := 903) (hln) (by decide) (by decide) (by decide) (by decide) (by first | rfl | simp [go_sem, slv_ids, wx, wo, wa]) (by simp [go_sem, wx, wo, wa]) (by rfl) (by rfl) (by rfl) ?_
      simp only [go_sem, ↓reduceIte, Nat.reduceEqDiff, Nat.reduceLT, reduceCtorEq, Nat.reduceAdd, Nat.reduceLeDiff, Nat.reduceBEq, Nat.reduceBNe, Int.reduceNeg, Int.reduceToNat, Int.reduceBEq, Int.reduceBNe, wx, wo, wa]
      refine klp_n (i + 1, l', 0) ⟨show i + 1 ≤ L.length by omega, by show l'.length ≤ (i + 1) * 300; omega⟩ (show L.length - (i + 1) < L.length - i by omega) (klp _ ?_ ?_)
      · simp only [go_sem, ↓reduceIte, Nat.reduceEqDiff, Nat.reduceLT, reduceCtorEq, Nat.reduceAdd, Nat.reduceLeDiff, Nat.reduceBEq, Nat.reduceBNe, Int.reduceNeg, Int.reduceToNat, Int.reduceBEq, Int.reduceBNe, wx, wo, wa, e8]
      · simp only [go_sem, ↓reduceIte, Nat.reduceEqDiff, Nat.reduceLT, reduceCtorEq, Nat.reduceAdd, Nat.reduceLeDiff, Nat.reduceBEq, Nat.reduceBNe, Int.reduceNeg, Int.reduceToNat, Int.reduceBEq, Int.reduceBNe, wx, wo, wa]
    · have r : wD true l' e' = (none, e') := by simp [wD, he]
      have n1 : (([] : List UInt8) != []) = false := by simp
      rw [r] at hd hd2
      simp only [go_sem, ↓reduceIte, Nat.reduceEqDiff, Nat.reduceLT, reduceCtorEq, Nat.reduceAdd, Nat.reduceLeDiff, Nat.reduceBEq, Nat.reduceBNe, Int.reduceNeg, Int.reduceToNat, Int.reduceBEq, Int.reduceBNe, wx, wo, wa, d3]
      refine ⟨by omega, by omega, ?_⟩
      refine call_w [] (k := 902) (j := 903) (hw) (by decide) (by decide) (by decide) (by decide) (by first | rfl | simp [go_sem, slv_ids, wx, wo, wa]) (by simp [go_sem, wx, wo, wa]) (by rfl) (by rfl) (by rfl) ?_
      simp only [go_sem, ↓reduceIte, Nat.reduceEqDiff, Nat.reduceLT, reduceCtorEq, Nat.reduceAdd, Nat.reduceLeDiff, Nat.reduceBEq, Nat.reduceBNe, Int.reduceNeg, Int.reduceToNat, Int.reduceBEq, Int.reduceBNe, wx, wo, wa]
      refine call_w [] (k := 902) (j := 903) (hd) (by decide) (by decide) (by decide) (by decide) (by first | rfl | simp [go_sem, slv_ids, wx, wo, wa]) (by simp [go_sem, wx, wo, wa]) (by rfl) (by rfl) (by rfl) ?_
      simp only [go_sem, ↓reduceIte, Nat.reduceEqDiff, Nat.reduceLT, reduceCtorEq, Nat.reduceAdd, Nat.reduceLeDiff, Nat.reduceBEq, Nat.reduceBNe, Int.reduceNeg, Int.reduceToNat, Int.reduceBEq, Int.reduceBNe, wx, wo, wa]
      refine call_same (hd2) (by simp [go_sem, wx, wo, wa]) ?_
      simp only [go_sem, ↓reduceIte, Nat.reduceEqDiff, Nat.reduceLT, reduceCtorEq, Nat.reduceAdd, Nat.reduceLeDiff, Nat.reduceBEq, Nat.reduceBNe, Int.reduceNeg, Int.reduceToNat, Int.reduceBEq, Int.reduceBNe, wx, wo, wa, bytesA, Option.map_some, n1]
      refine call_w [] (k := 902) (j := 903) (hln) (by decide) (by decide) (by decide) (by decide) (by first | rfl | simp [go_sem, slv_ids, wx, wo, wa]) (by simp [go_sem, wx, wo, wa]) (by rfl) (by rfl) (by rfl) ?_
      simp only [go_sem, ↓reduceIte, Nat.reduceEqDiff, Nat.reduceLT, reduceCtorEq, Nat.reduceAdd, Nat.reduceLeDiff, Nat.reduceBEq, Nat.reduceBNe, Int.reduceNeg, Int.reduceToNat, Int.reduceBEq, Int.reduceBNe, wx, wo, wa, Bool.true_and, beq_f he]
      refine klp_n (i + 1, l', e') ⟨show i + 1 ≤ L.length by omega, by show l'.length ≤ (i + 1) * 300; omega⟩ (show L.length - (i + 1) < L.length - i by omega) (klp _ ?_ ?_)
      · simp only [go_sem, ↓reduceIte, Nat.reduceEqDiff, Nat.reduceLT, reduceCtorEq, Nat.reduceAdd, Nat.reduceLeDiff, Nat.reduceBEq, Nat.reduceBNe, Int.reduceNeg, Int.reduceToNat, Int.reduceBEq, Int.reduceBNe, wx, wo, wa, e8]
      · simp only [go_sem, ↓reduceIte, Nat.reduceEqDiff, Nat.reduceLT, reduceCtorEq, Nat.reduceAdd, Nat.reduceLeDiff, Nat.reduceBEq, Nat.reduceBNe, Int.reduceNeg, Int.reduceToNat, Int.reduceBEq, Int.reduceBNe, wx, wo, wa]
  have d3 : decide ((i : Int) < (L.length : Int)) = false := decide_eq_false (by omega)
  simp only [go_sem, ↓reduceIte, Nat.reduceEqDiff, Nat.reduceLT, reduceCtorEq, Nat.reduceAdd, Nat.reduceLeDiff, Nat.reduceBEq, Nat.reduceBNe, Int.reduceNeg, Int.reduceToNat, Int.reduceBEq, Int.reduceBNe, wx, wo, wa, d3]
  refine call_same (s_alive) (by simp [go_sem, wx, wo, wa]) ?_
  simp only [go_sem, ↓reduceIte, Nat.reduceEqDiff, Nat.reduceLT, reduceCtorEq, Nat.reduceAdd, Nat.reduceLeDiff, Nat.reduceBEq, Nat.reduceBNe, Int.reduceNeg, Int.reduceToNat, Int.reduceBEq, Int.reduceBNe, wx, wo, wa]
  exact pdone [] (by simp only [go_sem, ↓reduceIte, Nat.reduceEqDiff, Nat.reduceLT, reduceCtorEq, Nat.reduceAdd, Nat.reduceLeDiff, Nat.reduceBEq, Nat.reduceBNe, Int.reduceNeg, Int.reduceToNat, Int.reduceBEq, Int.reduceBNe, wx, wo, wa]) (by first | rfl | simp [go_sem, slv_ids, wx, wo, wa])
end Go.Proofs.YtkejmhpodhbeeaaDoor
set_option linter.unusedSimpArgs false
set_option maxRecDepth 100000
set_option maxHeartbeats 4000000
set_option linter.unusedVariables false
namespace Go.Proofs.YtkejmhpodhbeeaaDoor
open Go Go.Mw
-- @U: rx, ro, wx, wo, wa, slv_none, slv_some

theorem rTake_fail {b : List UInt8} {a : Nat} {e n : Int} (h : (rTake (e == 0) b a e n).2.2 ≠ 0) : (rTake (e == 0) b a e n).2.1 = a := by
  by_cases he : e = 0
  · subst he
    unfold rTake at h ⊢
    split
    · rename_i h1
      rw [if_pos h1] at h
      repeat' (split at h)
      all_goals (try split)
      all_goals first | rfl | (exfalso; exact h rfl) | skip
      all_goals (try split)
      all_goals first | rfl | contradiction
    · rfl
  · simp [rTake, he]
theorem rU_fail {b : List UInt8} {a bits : Nat} {e : Int} (h : (rU (e == 0) bits b a e).2.2 ≠ 0) : (rU (e == 0) bits b a e).2.1 = a := by
  by_cases he : e = 0
  · subst he
    unfold rU at h ⊢
    rw [if_pos (beq_self_eq_true (0 : Int))] at h ⊢
    split
    · rfl
    · rename_i h2
      rw [if_neg h2] at h
      exact absurd rfl h
  · simp [rU, he]
theorem rS_fail {b : List UInt8} {a bits : Nat} {e : Int} (h : (rS (e == 0) bits b a e).2.2 ≠ 0) : (rS (e == 0) bits b a e).2.1 = a := by
  by_cases he : e = 0
  · subst he
    unfold rS at h ⊢
    rw [if_pos (beq_self_eq_true (0 : Int))] at h ⊢
    split
    · rfl
    · rename_i h2
      rw [if_neg h2] at h
      exact absurd rfl h
  · simp [rS, he]
/-- A call that fails consumes nothing. -/
theorem actS_fail (d n : Int) (b : List UInt8) (a : Nat) (h : (actS d n b a 0).2 ≠ 0) : (actS d n b a 0).1 = a := by
  have nm : ∀ t, (nameT b a t).2.2 ≠ 0 → (nameT b a t).2.1 = a := fun t ht => by
    unfold nameT at ht ⊢
    split
    · rfl
    · rename_i h1
      rw [if_neg h1] at ht
      split
      · rfl
      · rename_i h2
        rw [if_neg h2] at ht
        exact absurd rfl ht
  unfold actS at h ⊢
  repeat' (split at h)
  all_goals (simp only [*, if_true, if_false, Int.reduceEq] at *)
  all_goals (try simp only [↓reduceIte])
  · unfold rByte at h ⊢
    rw [if_pos (beq_self_eq_true (0 : Int))] at h ⊢
    split
    · rfl
    · rename_i h2
      rw [if_neg h2] at h
      exact absurd rfl h
  · exact rU_fail h
  · exact rS_fail h
  · exact rS_fail h
  · exact rS_fail h
  · exact rTake_fail h
  · have e1 : rName ((0 : Int) == 0) b a 0 = nameT b a (rTake ((rCount true b a 0 64).2.2 == 0) b (rCount true b a 0 64).2.1 (rCount true b a 0 64).2.2 (rCount true b a 0 64).1) := by simp [rName]
    rw [e1] at h ⊢
    exact nm _ h
  · have e1 : rCount ((0 : Int) == 0) b a 0 n = if (rU true 32 b a 0).2.2 = 0 ∧ ((rU true 32 b a 0).1 : Int) > n then (0, a, 6) else rU true 32 b a 0 := by simp [rCount]
    rw [e1] at h ⊢
    split
    · rfl
    · rename_i h2
      rw [if_neg h2] at h
      exact rU_fail (e := 0) h
  · exact rTake_fail h
theorem actS_err (d n : Int) (b : List UInt8) (a : Nat) (e : Int) (h : e ≠ 0) : actS d n b a e = (a, e) := by
  have h1 : (e == 0) = false := by simpa using h
  simp [actS, h1, rByte, rU, rS, rTake, rName, rCount, h]
theorem wrS_false (l : List UInt8) (e : Int) (f : Fld) : wrS false l e f = (l, e) := by
  simp [wrS, wB, wU, wS, wS33, wN, wP]
theorem w_faults (b : List UInt8) (L M : List (Int × Int)) (F : List Fld) (hL : ∀ x ∈ L, inI x.2) (hM : ∀ x ∈ M, inI x.2) (hF : ∀ f ∈ F, inI f.n) :
    PCalls Tryd.prog n_law02_OctetFaults [.sl 1 (b.map by_), .sl 2 (L.map act_), .sl 2 (M.map act_), .sl 4 (F.map fld_)] (.bool true) := by
  refine pfun_sound (ic := F_law02_OctetFaults.body) mixed c_law02_OctetFaults rfl rfl ?_
  obtain ⟨q, hq, hc⟩ := w_short F
  simp only [go_sem, ↓reduceIte, Nat.reduceEqDiff, Nat.reduceLT, reduceCtorEq, Nat.reduceAdd, Nat.reduceLeDiff, Nat.reduceBEq, Nat.reduceBNe, Int.reduceNeg, Int.reduceToNat, Int.reduceBEq, Int.reduceBNe, rx, ro, wx, wo, wa, F_law02_OctetFaults]
  refine call_same (w_few b L) (by simp [go_sem, rx, ro, wx, wo, wa]) ?_
  cases h : (decide ((b.length : Int) ≤ 500) && decide ((L.length : Int) ≤ 30))
  · simp only [go_sem, ↓reduceIte, Nat.reduceEqDiff, Nat.reduceLT, reduceCtorEq, Nat.reduceAdd, Nat.reduceLeDiff, Nat.reduceBEq, Nat.reduceBNe, Int.reduceNeg, Int.reduceToNat, Int.reduceBEq, Int.reduceBNe, rx, ro, wx, wo, wa]
    refine call_same (s_alive) (by simp [go_sem, rx, ro, wx, wo, wa]) ?_
    simp only [go_sem, ↓reduceIte, Nat.reduceEqDiff, Nat.reduceLT, reduceCtorEq, Nat.reduceAdd, Nat.reduceLeDiff, Nat.reduceBEq, Nat.reduceBNe, Int.reduceNeg, Int.reduceToNat, Int.reduceBEq, Int.reduceBNe, rx, ro, wx, wo, wa]
    exact pdone [] (by simp only [go_sem, ↓reduceIte, Nat.reduceEqDiff, Nat.reduceLT, reduceCtorEq, Nat.reduceAdd, Nat.reduceLeDiff, Nat.reduceBEq, Nat.reduceBNe, Int.reduceNeg, Int.reduceToNat, Int.reduceBEq, Int.reduceBNe, rx, ro, wx, wo, wa]) (by first | rfl | simp [go_sem, slv_ids, rx, ro, wx, wo, wa])
  simp only [go_sem, ↓reduceIte, Nat.reduceEqDiff, Nat.reduceLT, reduceCtorEq, Nat.reduceAdd, Nat.reduceLeDiff, Nat.reduceBEq, Nat.reduceBNe, Int.reduceNeg, Int.reduceToNat, Int.reduceBEq, Int.reduceBNe, rx, ro, wx, wo, wa]
  refine call_nl [.sl 1 [], .sl 2 (M.map act_)] ⟨.inr (.inl ⟨rfl, 1, rfl⟩), .inl rfl, trivial⟩ ?_
  refine call_same (w_few [] M) (by simp [go_sem, rx, ro, wx, wo, wa]) ?_
  cases h2 : (decide ((([] : List UInt8).length : Int) ≤ 500) && decide ((M.length : Int) ≤ 30))
  · simp only [go_sem, ↓reduceIte, Nat.reduceEqDiff, Nat.reduceLT, reduceCtorEq, Nat.reduceAdd, Nat.reduceLeDiff, Nat.reduceBEq, Nat.reduceBNe, Int.reduceNeg, Int.reduceToNat, Int.reduceBEq, Int.reduceBNe, rx, ro, wx, wo, wa]
    refine call_same (s_alive) (by simp [go_sem, rx, ro, wx, wo, wa]) ?_
    simp only [go_sem, ↓reduceIte, Nat.reduceEqDiff, Nat.reduceLT, reduceCtorEq, Nat.reduceAdd, Nat.reduceLeDiff, Nat.reduceBEq, Nat.reduceBNe, Int.reduceNeg, Int.reduceToNat, Int.reduceBEq, Int.reduceBNe, rx, ro, wx, wo, wa]
    exact pdone [] (by simp only [go_sem, ↓reduceIte, Nat.reduceEqDiff, Nat.reduceLT, reduceCtorEq, Nat.reduceAdd, Nat.reduceLeDiff, Nat.reduceBEq, Nat.reduceBNe, Int.reduceNeg, Int.reduceToNat, Int.reduceBEq, Int.reduceBNe, rx, ro, wx, wo, wa]) (by first | rfl | simp [go_sem, slv_ids, rx, ro, wx, wo, wa])
  simp only [go_sem, ↓reduceIte, Nat.reduceEqDiff, Nat.reduceLT, reduceCtorEq, Nat.reduceAdd, Nat.reduceLeDiff, Nat.reduceBEq, Nat.reduceBNe, Int.reduceNeg, Int.reduceToNat, Int.reduceBEq, Int.reduceBNe, rx, ro, wx, wo, wa]
  refine call_same (hc) (by simp [go_sem, rx, ro, wx, wo, wa]) ?_
  cases q
  · simp only [go_sem, ↓reduceIte, Nat.reduceEqDiff, Nat.reduceLT, reduceCtorEq, Nat.reduceAdd, Nat.reduceLeDiff, Nat.reduceBEq, Nat.reduceBNe, Int.reduceNeg, Int.reduceToNat, Int.reduceBEq, Int.reduceBNe, rx, ro, wx, wo, wa]
    refine call_same (s_alive) (by simp [go_sem, rx, ro, wx, wo, wa]) ?_
    simp only [go_sem, ↓reduceIte, Nat.reduceEqDiff, Nat.reduceLT, reduceCtorEq, Nat.reduceAdd, Nat.reduceLeDiff, Nat.reduceBEq, Nat.reduceBNe, Int.reduceNeg, Int.reduceToNat, Int.reduceBEq, Int.reduceBNe, rx, ro, wx, wo, wa]
    exact pdone [] (by simp only [go_sem, ↓reduceIte, Nat.reduceEqDiff, Nat.reduceLT, reduceCtorEq, Nat.reduceAdd, Nat.reduceLeDiff, Nat.reduceBEq, Nat.reduceBNe, Int.reduceNeg, Int.reduceToNat, Int.reduceBEq, Int.reduceBNe, rx, ro, wx, wo, wa]) (by first | rfl | simp [go_sem, slv_ids, rx, ro, wx, wo, wa])
  obtain ⟨f25, f200⟩ := hq rfl
  simp only [Bool.and_eq_true, decide_eq_true_eq] at h h2
  have hb : b.length < 1000000000 := by omega
  simp only [go_sem, ↓reduceIte, Nat.reduceEqDiff, Nat.reduceLT, reduceCtorEq, Nat.reduceAdd, Nat.reduceLeDiff, Nat.reduceBEq, Nat.reduceBNe, Int.reduceNeg, Int.reduceToNat, Int.reduceBEq, Int.reduceBNe, rx, ro, wx, wo, wa]
  refine call_nrec (s_read b hb) rfl (by simp [go_sem]) 901 (by decide) (by simp only [go_sem, ↓reduceIte, Nat.reduceEqDiff, Nat.reduceLT, reduceCtorEq, Nat.reduceAdd, Nat.reduceLeDiff, Nat.reduceBEq, Nat.reduceBNe, Int.reduceNeg, Int.reduceToNat, Int.reduceBEq, Int.reduceBNe, rx, ro, wx, wo, wa]) ?_
  simp only [go_sem, ↓reduceIte, Nat.reduceEqDiff, Nat.reduceLT, reduceCtorEq, Nat.reduceAdd, Nat.reduceLeDiff, Nat.reduceBEq, Nat.reduceBNe, Int.reduceNeg, Int.reduceToNat, Int.reduceBEq, Int.reduceBNe, rx, ro, wx, wo, wa]
  refine loop_rule (fun q : Nat × Nat × Nat × Int => ⟨[(11, .int .i64 q.1), (10, .int .i64 q.2.1), (9, .mp 901 4 0 0), (0, .sl 1 (b.map by_)), (1, .sl 2 (L.map act_)), (2, .sl 2 (M.map act_)), (3, .sl 4 (F.map fld_))], [(901, ro true b q.2.2.1 q.2.2.2)]⟩)
    (fun q => q.1 ≤ L.length ∧ q.2.2.1 ≤ b.length ∧ (q.2.2.2 ≠ 0 → q.2.2.1 = q.2.1)) (fun q => L.length - q.1) (0, 0, 0, 0) ⟨Nat.zero_le _, Nat.zero_le _, fun h => absurd rfl h⟩ (Wk.of ?_ ?_) ?_
  · simp only [go_sem, ↓reduceIte, Nat.reduceEqDiff, Nat.reduceLT, reduceCtorEq, Nat.reduceAdd, Nat.reduceLeDiff, Nat.reduceBEq, Nat.reduceBNe, Int.reduceNeg, Int.reduceToNat, Int.reduceBEq, Int.reduceBNe, rx, ro, wx, wo, wa] <;> simp
  · simp only [go_sem, ↓reduceIte, Nat.reduceEqDiff, Nat.reduceLT, reduceCtorEq, Nat.reduceAdd, Nat.reduceLeDiff, Nat.reduceBEq, Nat.reduceBNe, Int.reduceNeg, Int.reduceToNat, Int.reduceBEq, Int.reduceBNe, rx, ro, wx, wo, wa] <;> simp
  rintro ⟨i, at_, a, e⟩ ⟨hi, ha, hae⟩
  replace hi : i ≤ L.length := hi
  replace ha : a ≤ b.length := ha
  replace hae : e ≠ 0 → a = at_ := hae
  by_cases he : e = 0
  · subst he
    rcases Nat.lt_or_ge i L.length with hlt | hge
    · have d3 : decide ((i : Int) < (L.length : Int)) = true := decide_eq_true (by omega)
      have e8 := wi (n := (i : Int) + 1) (by omega) (by omega)
      have hx : inI (nth L i).2 := hL _ (by rw [nth_eq hlt]; exact List.getElem_mem hlt)
      obtain ⟨q, _, hc⟩ := acts_all (nth L i).1 (nth L i).2 b a 0 [] 0 0 hx ha hb (Nat.zero_le _) (by simp)
      have ha2 := actS_a (nth L i).1 (nth L i).2 (e := 0) ha
      have hf := actS_fail (nth L i).1 (nth L i).2 b a
      simp only [go_sem, ↓reduceIte, Nat.reduceEqDiff, Nat.reduceLT, reduceCtorEq, Nat.reduceAdd, Nat.reduceLeDiff, Nat.reduceBEq, Nat.reduceBNe, Int.reduceNeg, Int.reduceToNat, Int.reduceBEq, Int.reduceBNe, rx, ro, wx, wo, wa, d3]
      refine call_m (s_err true b a 0) ⟨by decide, by decide⟩ (by first | rfl | exact slv_ids _) (by simp [go_sem, rx, ro, wx, wo, wa]) rfl rfl (by rfl) ?_
      simp only [go_sem, ↓reduceIte, Nat.reduceEqDiff, Nat.reduceLT, reduceCtorEq, Nat.reduceAdd, Nat.reduceLeDiff, Nat.reduceBEq, Nat.reduceBNe, Int.reduceNeg, Int.reduceToNat, Int.reduceBEq, Int.reduceBNe, rx, ro, wx, wo, wa]
      refine call_m (s_at true b a 0) ⟨by decide, by decide⟩ (by first | rfl | exact slv_ids _) (by simp [go_sem, rx, ro, wx, wo, wa]) rfl rfl (by rfl) ?_
      simp only [go_sem, ↓reduceIte, Nat.reduceEqDiff, Nat.reduceLT, reduceCtorEq, Nat.reduceAdd, Nat.reduceLeDiff, Nat.reduceBEq, Nat.reduceBNe, Int.reduceNeg, Int.reduceToNat, Int.reduceBEq, Int.reduceBNe, rx, ro, wx, wo, wa]
      refine ⟨by omega, by omega, ?_⟩
      refine call_nl [.mp 901 4 0 0, rx [] ((0 : Nat) : Int) 0, .agg [.int .i64 (nth L i).1, .int .i64 (nth L i).2]] ⟨.inl rfl, .inr (.inr ⟨_, _, rfl, rfl, .inr ⟨rfl, 1, rfl⟩, .inl rfl, .inl rfl, trivial⟩), .inl rfl, trivial⟩ ?_
      refine call_m (hc) ⟨by decide, by decide⟩ (by first | rfl | exact slv_ids _) (by simp [go_sem, rx, ro, wx, wo, wa]) rfl rfl (by rfl) ?_
      simp only [go_sem, ↓reduceIte, Nat.reduceEqDiff, Nat.reduceLT, reduceCtorEq, Nat.reduceAdd, Nat.reduceLeDiff, Nat.reduceBEq, Nat.reduceBNe, Int.reduceNeg, Int.reduceToNat, Int.reduceBEq, Int.reduceBNe, rx, ro, wx, wo, wa]
      refine klp_n (i + 1, a, actS (nth L i).1 (nth L i).2 b a 0) ⟨show i + 1 ≤ L.length by omega, ha2, hf⟩ (show L.length - (i + 1) < L.length - i by omega) (Wk.of ?_ ?_)
      · simp only [go_sem, ↓reduceIte, Nat.reduceEqDiff, Nat.reduceLT, reduceCtorEq, Nat.reduceAdd, Nat.reduceLeDiff, Nat.reduceBEq, Nat.reduceBNe, Int.reduceNeg, Int.reduceToNat, Int.reduceBEq, Int.reduceBNe, rx, ro, wx, wo, wa, e8] <;> simp
      · simp only [go_sem, ↓reduceIte, Nat.reduceEqDiff, Nat.reduceLT, reduceCtorEq, Nat.reduceAdd, Nat.reduceLeDiff, Nat.reduceBEq, Nat.reduceBNe, Int.reduceNeg, Int.reduceToNat, Int.reduceBEq, Int.reduceBNe, rx, ro, wx, wo, wa]
    · have d3 : decide ((i : Int) < (L.length : Int)) = false := decide_eq_false (by omega)
      simp only [go_sem, ↓reduceIte, Nat.reduceEqDiff, Nat.reduceLT, reduceCtorEq, Nat.reduceAdd, Nat.reduceLeDiff, Nat.reduceBEq, Nat.reduceBNe, Int.reduceNeg, Int.reduceToNat, Int.reduceBEq, Int.reduceBNe, rx, ro, wx, wo, wa, d3]
      refine call_m (s_err true b a 0) ⟨by decide, by decide⟩ (by first | rfl | exact slv_ids _) (by simp [go_sem, rx, ro, wx, wo, wa]) rfl rfl (by rfl) ?_
      simp only [go_sem, ↓reduceIte, Nat.reduceEqDiff, Nat.reduceLT, reduceCtorEq, Nat.reduceAdd, Nat.reduceLeDiff, Nat.reduceBEq, Nat.reduceBNe, Int.reduceNeg, Int.reduceToNat, Int.reduceBEq, Int.reduceBNe, rx, ro, wx, wo, wa]
      refine call_wnew 902 903 (by decide) (by decide) (by decide) (by simp only [go_sem, ↓reduceIte, Nat.reduceEqDiff, Nat.reduceLT, reduceCtorEq, Nat.reduceAdd, Nat.reduceLeDiff, Nat.reduceBEq, Nat.reduceBNe, Int.reduceNeg, Int.reduceToNat, Int.reduceBEq, Int.reduceBNe, rx, ro, wx, wo, wa]) (by simp only [go_sem, ↓reduceIte, Nat.reduceEqDiff, Nat.reduceLT, reduceCtorEq, Nat.reduceAdd, Nat.reduceLeDiff, Nat.reduceBEq, Nat.reduceBNe, Int.reduceNeg, Int.reduceToNat, Int.reduceBEq, Int.reduceBNe, rx, ro, wx, wo, wa]) ?_
      simp only [go_sem, ↓reduceIte, Nat.reduceEqDiff, Nat.reduceLT, reduceCtorEq, Nat.reduceAdd, Nat.reduceLeDiff, Nat.reduceBEq, Nat.reduceBNe, Int.reduceNeg, Int.reduceToNat, Int.reduceBEq, Int.reduceBNe, rx, ro, wx, wo, wa]
      refine call_w [] (k := 902) (j := 903) (s_wfail true [] 0 21) (by decide) (by decide) (by decide) (by decide) (by first | rfl | simp [go_sem, slv_ids, rx, ro, wx, wo, wa]) (by simp [go_sem, rx, ro, wx, wo, wa]) (by rfl) (by rfl) (by rfl) ?_
      simp only [go_sem, ↓reduceIte, Nat.reduceEqDiff, Nat.reduceLT, reduceCtorEq, Nat.reduceAdd, Nat.reduceLeDiff, Nat.reduceBEq, Nat.reduceBNe, Int.reduceNeg, Int.reduceToNat, Int.reduceBEq, Int.reduceBNe, rx, ro, wx, wo, wa]
      refine loop_rule (fun i : Nat => ⟨[(15, .int .i64 i), (14, .mp 902 3 0 0), (3, .sl 4 (F.map fld_))], [(902, wo 903 true [] 21), (903, wa [])]⟩)
        (fun i => i ≤ F.length) (fun i => F.length - i) 0 (Nat.zero_le _) (Wk.of ?_ ?_) ?_
      · simp only [go_sem, ↓reduceIte, Nat.reduceEqDiff, Nat.reduceLT, reduceCtorEq, Nat.reduceAdd, Nat.reduceLeDiff, Nat.reduceBEq, Nat.reduceBNe, Int.reduceNeg, Int.reduceToNat, Int.reduceBEq, Int.reduceBNe, rx, ro, wx, wo, wa] <;> simp
      · simp only [go_sem, ↓reduceIte, Nat.reduceEqDiff, Nat.reduceLT, reduceCtorEq, Nat.reduceAdd, Nat.reduceLeDiff, Nat.reduceBEq, Nat.reduceBNe, Int.reduceNeg, Int.reduceToNat, Int.reduceBEq, Int.reduceBNe, rx, ro, wx, wo, wa] <;> simp
      rintro i hi
      rcases Nat.lt_or_ge i F.length with hlt | hge
      · have d3 : decide ((i : Int) < (F.length : Int)) = true := decide_eq_true (by omega)
        have e8 := wi (n := (i : Int) + 1) (by omega) (by omega)
        have hm : nth F i ∈ F := by rw [nth_eq hlt]; exact List.getElem_mem hlt
        have hw := wr_all true [] 21 [] 0 (nth F i) (hF _ hm) (by simp) (by simp) (by have := f200 _ hm; omega)
        unfold Wr at hw
        rw [show (true && (21 : Int) == 0) = false from rfl, wrS_false] at hw
        simp only [go_sem, ↓reduceIte, Nat.reduceEqDiff, Nat.reduceLT, reduceCtorEq, Nat.reduceAdd, Nat.reduceLeDiff, Nat.reduceBEq, Nat.reduceBNe, Int.reduceNeg, Int.reduceToNat, Int.reduceBEq, Int.reduceBNe, rx, ro, wx, wo, wa, d3]
        refine ⟨by omega, by omega, ?_⟩
        refine call_nl [.mp 902 3 0 0, wx [] 0, .agg [.int .i64 (nth F i).d, .int .i64 (nth F i).n, .int .u64 (nth F i).x, .str (nth F i).s]] ⟨.inl rfl, .inr (.inr ⟨_, _, rfl, rfl, .inr ⟨rfl, 1, rfl⟩, .inl rfl, trivial⟩), .inl rfl, trivial⟩ ?_
        refine call_w [] (k := 902) (j := 903) (hw) (by decide) (by decide) (by decide) (by decide) (by first | rfl | simp [go_sem, slv_ids, rx, ro, wx, wo, wa]) (by simp [go_sem, rx, ro, wx, wo, wa]) (by rfl) (by rfl) (by rfl) ?_
        simp only [go_sem, ↓reduceIte, Nat.reduceEqDiff, Nat.reduceLT, reduceCtorEq, Nat.reduceAdd, Nat.reduceLeDiff, Nat.reduceBEq, Nat.reduceBNe, Int.reduceNeg, Int.reduceToNat, Int.reduceBEq, Int.reduceBNe, rx, ro, wx, wo, wa]
        refine klp_n (i + 1) (show i + 1 ≤ F.length by omega) (show F.length - (i + 1) < F.length - i by omega) (Wk.of ?_ ?_)
        · simp only [go_sem, ↓reduceIte, Nat.reduceEqDiff, Nat.reduceLT, reduceCtorEq, Nat.reduceAdd, Nat.reduceLeDiff, Nat.reduceBEq, Nat.reduceBNe, Int.reduceNeg, Int.reduceToNat, Int.reduceBEq, Int.reduceBNe, rx, ro, wx, wo, wa, e8] <;> simp
        · simp only [go_sem, ↓reduceIte, Nat.reduceEqDiff, Nat.reduceLT, reduceCtorEq, Nat.reduceAdd, Nat.reduceLeDiff, Nat.reduceBEq, Nat.reduceBNe, Int.reduceNeg, Int.reduceToNat, Int.reduceBEq, Int.reduceBNe, rx, ro, wx, wo, wa]
      have d3 : decide ((i : Int) < (F.length : Int)) = false := decide_eq_false (by omega)
      simp only [go_sem, ↓reduceIte, Nat.reduceEqDiff, Nat.reduceLT, reduceCtorEq, Nat.reduceAdd, Nat.reduceLeDiff, Nat.reduceBEq, Nat.reduceBNe, Int.reduceNeg, Int.reduceToNat, Int.reduceBEq, Int.reduceBNe, rx, ro, wx, wo, wa, d3]
      refine call_w [] (k := 902) (j := 903) (s_wdone true [] 21 (by simp)) (by decide) (by decide) (by decide) (by decide) (by first | rfl | simp [go_sem, slv_ids, rx, ro, wx, wo, wa]) (by simp [go_sem, rx, ro, wx, wo, wa]) (by rfl) (by rfl) (by rfl) ?_
      have r : wD true [] 21 = (none, 21) := rfl
      simp only [go_sem, ↓reduceIte, Nat.reduceEqDiff, Nat.reduceLT, reduceCtorEq, Nat.reduceAdd, Nat.reduceLeDiff, Nat.reduceBEq, Nat.reduceBNe, Int.reduceNeg, Int.reduceToNat, Int.reduceBEq, Int.reduceBNe, rx, ro, wx, wo, wa, r]
      refine call_w [] (k := 902) (j := 903) (s_wlen true [] 21) (by decide) (by decide) (by decide) (by decide) (by first | rfl | simp [go_sem, slv_ids, rx, ro, wx, wo, wa]) (by simp [go_sem, rx, ro, wx, wo, wa]) (by rfl) (by rfl) (by rfl) ?_
      simp only [go_sem, ↓reduceIte, Nat.reduceEqDiff, Nat.reduceLT, reduceCtorEq, Nat.reduceAdd, Nat.reduceLeDiff, Nat.reduceBEq, Nat.reduceBNe, Int.reduceNeg, Int.reduceToNat, Int.reduceBEq, Int.reduceBNe, rx, ro, wx, wo, wa, Bool.true_and]
      refine call_same (s_alive) (by simp [go_sem, rx, ro, wx, wo, wa]) ?_
      simp only [go_sem, ↓reduceIte, Nat.reduceEqDiff, Nat.reduceLT, reduceCtorEq, Nat.reduceAdd, Nat.reduceLeDiff, Nat.reduceBEq, Nat.reduceBNe, Int.reduceNeg, Int.reduceToNat, Int.reduceBEq, Int.reduceBNe, rx, ro, wx, wo, wa]
      exact pdone [] (by simp only [go_sem, ↓reduceIte, Nat.reduceEqDiff, Nat.reduceLT, reduceCtorEq, Nat.reduceAdd, Nat.reduceLeDiff, Nat.reduceBEq, Nat.reduceBNe, Int.reduceNeg, Int.reduceToNat, Int.reduceBEq, Int.reduceBNe, rx, ro, wx, wo, wa]) (by first | rfl | simp [go_sem, slv_ids, rx, ro, wx, wo, wa])
  · obtain rfl := hae he
    have hfin : ∀ j : Nat, j ≤ M.length → True := fun _ _ => trivial
    have ebf : (true && e == 0) = false := by simp [he]
    have rest : ∀ (s : St), True := fun _ => trivial
    rcases Nat.lt_or_ge i L.length with hlt | hge
    · have d3 : decide ((i : Int) < (L.length : Int)) = true := decide_eq_true (by omega)
      simp only [go_sem, ↓reduceIte, Nat.reduceEqDiff, Nat.reduceLT, reduceCtorEq, Nat.reduceAdd, Nat.reduceLeDiff, Nat.reduceBEq, Nat.reduceBNe, Int.reduceNeg, Int.reduceToNat, Int.reduceBEq, Int.reduceBNe, rx, ro, wx, wo, wa, d3]
      refine call_m (s_err true b a e) ⟨by decide, by decide⟩ (by first | rfl | exact slv_ids _) (by simp [go_sem, rx, ro, wx, wo, wa]) rfl rfl (by rfl) ?_
      simp only [go_sem, ↓reduceIte, Nat.reduceEqDiff, Nat.reduceLT, reduceCtorEq, Nat.reduceAdd, Nat.reduceLeDiff, Nat.reduceBEq, Nat.reduceBNe, Int.reduceNeg, Int.reduceToNat, Int.reduceBEq, Int.reduceBNe, rx, ro, wx, wo, wa, beq_f he]
      refine call_m (s_err true b a e) ⟨by decide, by decide⟩ (by first | rfl | exact slv_ids _) (by simp [go_sem, rx, ro, wx, wo, wa]) rfl rfl (by rfl) ?_
      simp only [go_sem, ↓reduceIte, Nat.reduceEqDiff, Nat.reduceLT, reduceCtorEq, Nat.reduceAdd, Nat.reduceLeDiff, Nat.reduceBEq, Nat.reduceBNe, Int.reduceNeg, Int.reduceToNat, Int.reduceBEq, Int.reduceBNe, rx, ro, wx, wo, wa, bne_t he]
      refine call_m (s_at true b a e) ⟨by decide, by decide⟩ (by first | rfl | exact slv_ids _) (by simp [go_sem, rx, ro, wx, wo, wa]) rfl rfl (by rfl) ?_
      have n1 : ((a : Int) != (a : Int)) = false := by simp
      simp only [go_sem, ↓reduceIte, Nat.reduceEqDiff, Nat.reduceLT, reduceCtorEq, Nat.reduceAdd, Nat.reduceLeDiff, Nat.reduceBEq, Nat.reduceBNe, Int.reduceNeg, Int.reduceToNat, Int.reduceBEq, Int.reduceBNe, rx, ro, wx, wo, wa, n1]
      refine call_m (s_left true b a e ha hb) ⟨by decide, by decide⟩ (by first | rfl | exact slv_ids _) (by simp [go_sem, rx, ro, wx, wo, wa]) rfl rfl (by rfl) ?_
      have l0 : rLeft (e == 0) b a = 0 := by simp [rLeft, he]
      simp only [go_sem, ↓reduceIte, Nat.reduceEqDiff, Nat.reduceLT, reduceCtorEq, Nat.reduceAdd, Nat.reduceLeDiff, Nat.reduceBEq, Nat.reduceBNe, Int.reduceNeg, Int.reduceToNat, Int.reduceBEq, Int.reduceBNe, rx, ro, wx, wo, wa, Bool.true_and, l0]
      refine loop_rule (fun i : Nat => ⟨[(13, .int .i64 i), (12, .int .i64 e), (10, .int .i64 a), (9, .mp 901 4 0 0), (2, .sl 2 (M.map act_)), (3, .sl 4 (F.map fld_))], [(901, ro true b a e)]⟩)
        (fun i => i ≤ M.length) (fun i => M.length - i) 0 (Nat.zero_le _) (Wk.of ?_ ?_) ?_
      · simp only [go_sem, ↓reduceIte, Nat.reduceEqDiff, Nat.reduceLT, reduceCtorEq, Nat.reduceAdd, Nat.reduceLeDiff, Nat.reduceBEq, Nat.reduceBNe, Int.reduceNeg, Int.reduceToNat, Int.reduceBEq, Int.reduceBNe, rx, ro, wx, wo, wa] <;> simp
      · simp only [go_sem, ↓reduceIte, Nat.reduceEqDiff, Nat.reduceLT, reduceCtorEq, Nat.reduceAdd, Nat.reduceLeDiff, Nat.reduceBEq, Nat.reduceBNe, Int.reduceNeg, Int.reduceToNat, Int.reduceBEq, Int.reduceBNe, rx, ro, wx, wo, wa] <;> simp
      rintro j hj
      rcases Nat.lt_or_ge j M.length with hlt | hge
      · have d4 : decide ((j : Int) < (M.length : Int)) = true := decide_eq_true (by omega)
        have e8 := wi (n := (j : Int) + 1) (by omega) (by omega)
        have hx : inI (nth M j).2 := hM _ (by rw [nth_eq hlt]; exact List.getElem_mem hlt)
        obtain ⟨q, _, hc⟩ := acts_all (nth M j).1 (nth M j).2 b a e [] 0 0 hx ha hb (Nat.zero_le _) (by simp)
        rw [actS_err (nth M j).1 (nth M j).2 b a e he] at hc
        simp only [go_sem, ↓reduceIte, Nat.reduceEqDiff, Nat.reduceLT, reduceCtorEq, Nat.reduceAdd, Nat.reduceLeDiff, Nat.reduceBEq, Nat.reduceBNe, Int.reduceNeg, Int.reduceToNat, Int.reduceBEq, Int.reduceBNe, rx, ro, wx, wo, wa, d4]
        refine ⟨by omega, by omega, ?_⟩
        refine call_nl [.mp 901 4 0 0, rx [] ((0 : Nat) : Int) 0, .agg [.int .i64 (nth M j).1, .int .i64 (nth M j).2]] ⟨.inl rfl, .inr (.inr ⟨_, _, rfl, rfl, .inr ⟨rfl, 1, rfl⟩, .inl rfl, .inl rfl, trivial⟩), .inl rfl, trivial⟩ ?_
        refine call_m (hc) ⟨by decide, by decide⟩ (by first | rfl | exact slv_ids _) (by simp [go_sem, rx, ro, wx, wo, wa]) rfl rfl (by rfl) ?_
        simp only [go_sem, ↓reduceIte, Nat.reduceEqDiff, Nat.reduceLT, reduceCtorEq, Nat.reduceAdd, Nat.reduceLeDiff, Nat.reduceBEq, Nat.reduceBNe, Int.reduceNeg, Int.reduceToNat, Int.reduceBEq, Int.reduceBNe, rx, ro, wx, wo, wa]
        refine klp_n (j + 1) (show j + 1 ≤ M.length by omega) (show M.length - (j + 1) < M.length - j by omega) (Wk.of ?_ ?_)
        · simp only [go_sem, ↓reduceIte, Nat.reduceEqDiff, Nat.reduceLT, reduceCtorEq, Nat.reduceAdd, Nat.reduceLeDiff, Nat.reduceBEq, Nat.reduceBNe, Int.reduceNeg, Int.reduceToNat, Int.reduceBEq, Int.reduceBNe, rx, ro, wx, wo, wa, e8] <;> simp
        · simp only [go_sem, ↓reduceIte, Nat.reduceEqDiff, Nat.reduceLT, reduceCtorEq, Nat.reduceAdd, Nat.reduceLeDiff, Nat.reduceBEq, Nat.reduceBNe, Int.reduceNeg, Int.reduceToNat, Int.reduceBEq, Int.reduceBNe, rx, ro, wx, wo, wa]
      have d4 : decide ((j : Int) < (M.length : Int)) = false := decide_eq_false (by omega)
      simp only [go_sem, ↓reduceIte, Nat.reduceEqDiff, Nat.reduceLT, reduceCtorEq, Nat.reduceAdd, Nat.reduceLeDiff, Nat.reduceBEq, Nat.reduceBNe, Int.reduceNeg, Int.reduceToNat, Int.reduceBEq, Int.reduceBNe, rx, ro, wx, wo, wa, d4]
      refine call_m (s_err true b a e) ⟨by decide, by decide⟩ (by first | rfl | exact slv_ids _) (by simp [go_sem, rx, ro, wx, wo, wa]) rfl rfl (by rfl) ?_
      have n2 : (e != e) = false := by simp
      simp only [go_sem, ↓reduceIte, Nat.reduceEqDiff, Nat.reduceLT, reduceCtorEq, Nat.reduceAdd, Nat.reduceLeDiff, Nat.reduceBEq, Nat.reduceBNe, Int.reduceNeg, Int.reduceToNat, Int.reduceBEq, Int.reduceBNe, rx, ro, wx, wo, wa, n2]
      refine call_m (s_at true b a e) ⟨by decide, by decide⟩ (by first | rfl | exact slv_ids _) (by simp [go_sem, rx, ro, wx, wo, wa]) rfl rfl (by rfl) ?_
      simp only [go_sem, ↓reduceIte, Nat.reduceEqDiff, Nat.reduceLT, reduceCtorEq, Nat.reduceAdd, Nat.reduceLeDiff, Nat.reduceBEq, Nat.reduceBNe, Int.reduceNeg, Int.reduceToNat, Int.reduceBEq, Int.reduceBNe, rx, ro, wx, wo, wa, n1]
      refine call_m (s_byte true b a e ha hb) ⟨by decide, by decide⟩ (by first | rfl | exact slv_ids _) (by simp [go_sem, rx, ro, wx, wo, wa]) rfl rfl (by rfl) ?_
      have b0 : rByte (e == 0) b a e = (0, a, e) := by simp [rByte, he]
      have b1 : (((0 : UInt8).toNat : Int) != 0) = false := rfl
      simp only [go_sem, ↓reduceIte, Nat.reduceEqDiff, Nat.reduceLT, reduceCtorEq, Nat.reduceAdd, Nat.reduceLeDiff, Nat.reduceBEq, Nat.reduceBNe, Int.reduceNeg, Int.reduceToNat, Int.reduceBEq, Int.reduceBNe, rx, ro, wx, wo, wa, Bool.true_and, b0, b1]
      refine call_m (s_name true b a e ha hb) ⟨by decide, by decide⟩ (by first | rfl | exact slv_ids _) (by simp [go_sem, rx, ro, wx, wo, wa]) rfl rfl (by rfl) ?_
      have n0 : rName (e == 0) b a e = ([], a, e) := by simp [rName, he]
      have n3 : (([] : List UInt8) != []) = false := by simp
      simp only [go_sem, ↓reduceIte, Nat.reduceEqDiff, Nat.reduceLT, reduceCtorEq, Nat.reduceAdd, Nat.reduceLeDiff, Nat.reduceBEq, Nat.reduceBNe, Int.reduceNeg, Int.reduceToNat, Int.reduceBEq, Int.reduceBNe, rx, ro, wx, wo, wa, Bool.true_and, n0, n3]
      refine call_m (s_take true b a e 1 ha hb (by decide)) ⟨by decide, by decide⟩ (by first | rfl | exact slv_ids _) (by simp [go_sem, rx, ro, wx, wo, wa]) rfl rfl (by rfl) ?_
      have t0 : rTake (e == 0) b a e 1 = (none, a, e) := by simp [rTake, he]
      simp only [go_sem, ↓reduceIte, Nat.reduceEqDiff, Nat.reduceLT, reduceCtorEq, Nat.reduceAdd, Nat.reduceLeDiff, Nat.reduceBEq, Nat.reduceBNe, Int.reduceNeg, Int.reduceToNat, Int.reduceBEq, Int.reduceBNe, rx, ro, wx, wo, wa, Bool.true_and, t0]
      refine call_wnew 902 903 (by decide) (by decide) (by decide) (by simp only [go_sem, ↓reduceIte, Nat.reduceEqDiff, Nat.reduceLT, reduceCtorEq, Nat.reduceAdd, Nat.reduceLeDiff, Nat.reduceBEq, Nat.reduceBNe, Int.reduceNeg, Int.reduceToNat, Int.reduceBEq, Int.reduceBNe, rx, ro, wx, wo, wa]) (by simp only [go_sem, ↓reduceIte, Nat.reduceEqDiff, Nat.reduceLT, reduceCtorEq, Nat.reduceAdd, Nat.reduceLeDiff, Nat.reduceBEq, Nat.reduceBNe, Int.reduceNeg, Int.reduceToNat, Int.reduceBEq, Int.reduceBNe, rx, ro, wx, wo, wa]) ?_
      simp only [go_sem, ↓reduceIte, Nat.reduceEqDiff, Nat.reduceLT, reduceCtorEq, Nat.reduceAdd, Nat.reduceLeDiff, Nat.reduceBEq, Nat.reduceBNe, Int.reduceNeg, Int.reduceToNat, Int.reduceBEq, Int.reduceBNe, rx, ro, wx, wo, wa]
      refine call_w [] (k := 902) (j := 903) (s_wfail true [] 0 21) (by decide) (by decide) (by decide) (by decide) (by first | rfl | simp [go_sem, slv_ids, rx, ro, wx, wo, wa]) (by simp [go_sem, rx, ro, wx, wo, wa]) (by rfl) (by rfl) (by rfl) ?_
      simp only [go_sem, ↓reduceIte, Nat.reduceEqDiff, Nat.reduceLT, reduceCtorEq, Nat.reduceAdd, Nat.reduceLeDiff, Nat.reduceBEq, Nat.reduceBNe, Int.reduceNeg, Int.reduceToNat, Int.reduceBEq, Int.reduceBNe, rx, ro, wx, wo, wa]
      refine loop_rule (fun i : Nat => ⟨[(15, .int .i64 i), (14, .mp 902 3 0 0), (3, .sl 4 (F.map fld_))], [(902, wo 903 true [] 21), (903, wa [])]⟩)
        (fun i => i ≤ F.length) (fun i => F.length - i) 0 (Nat.zero_le _) (Wk.of ?_ ?_) ?_
      · simp only [go_sem, ↓reduceIte, Nat.reduceEqDiff, Nat.reduceLT, reduceCtorEq, Nat.reduceAdd, Nat.reduceLeDiff, Nat.reduceBEq, Nat.reduceBNe, Int.reduceNeg, Int.reduceToNat, Int.reduceBEq, Int.reduceBNe, rx, ro, wx, wo, wa] <;> simp
      · simp only [go_sem, ↓reduceIte, Nat.reduceEqDiff, Nat.reduceLT, reduceCtorEq, Nat.reduceAdd, Nat.reduceLeDiff, Nat.reduceBEq, Nat.reduceBNe, Int.reduceNeg, Int.reduceToNat, Int.reduceBEq, Int.reduceBNe, rx, ro, wx, wo, wa] <;> simp
      rintro i hi
      rcases Nat.lt_or_ge i F.length with hlt | hge
      · have d3 : decide ((i : Int) < (F.length : Int)) = true := decide_eq_true (by omega)
        have e8 := wi (n := (i : Int) + 1) (by omega) (by omega)
        have hm : nth F i ∈ F := by rw [nth_eq hlt]; exact List.getElem_mem hlt
        have hw := wr_all true [] 21 [] 0 (nth F i) (hF _ hm) (by simp) (by simp) (by have := f200 _ hm; omega)
        unfold Wr at hw
        rw [show (true && (21 : Int) == 0) = false from rfl, wrS_false] at hw
        simp only [go_sem, ↓reduceIte, Nat.reduceEqDiff, Nat.reduceLT, reduceCtorEq, Nat.reduceAdd, Nat.reduceLeDiff, Nat.reduceBEq, Nat.reduceBNe, Int.reduceNeg, Int.reduceToNat, Int.reduceBEq, Int.reduceBNe, rx, ro, wx, wo, wa, d3]
        refine ⟨by omega, by omega, ?_⟩
        refine call_nl [.mp 902 3 0 0, wx [] 0, .agg [.int .i64 (nth F i).d, .int .i64 (nth F i).n, .int .u64 (nth F i).x, .str (nth F i).s]] ⟨.inl rfl, .inr (.inr ⟨_, _, rfl, rfl, .inr ⟨rfl, 1, rfl⟩, .inl rfl, trivial⟩), .inl rfl, trivial⟩ ?_
        refine call_w [] (k := 902) (j := 903) (hw) (by decide) (by decide) (by decide) (by decide) (by first | rfl | simp [go_sem, slv_ids, rx, ro, wx, wo, wa]) (by simp [go_sem, rx, ro, wx, wo, wa]) (by rfl) (by rfl) (by rfl) ?_
        simp only [go_sem, ↓reduceIte, Nat.reduceEqDiff, Nat.reduceLT, reduceCtorEq, Nat.reduceAdd, Nat.reduceLeDiff, Nat.reduceBEq, Nat.reduceBNe, Int.reduceNeg, Int.reduceToNat, Int.reduceBEq, Int.reduceBNe, rx, ro, wx, wo, wa]
        refine klp_n (i + 1) (show i + 1 ≤ F.length by omega) (show F.length - (i + 1) < F.length - i by omega) (Wk.of ?_ ?_)
        · simp only [go_sem, ↓reduceIte, Nat.reduceEqDiff, Nat.reduceLT, reduceCtorEq, Nat.reduceAdd, Nat.reduceLeDiff, Nat.reduceBEq, Nat.reduceBNe, Int.reduceNeg, Int.reduceToNat, Int.reduceBEq, Int.reduceBNe, rx, ro, wx, wo, wa, e8] <;> simp
        · simp only [go_sem, ↓reduceIte, Nat.reduceEqDiff, Nat.reduceLT, reduceCtorEq, Nat.reduceAdd, Nat.reduceLeDiff, Nat.reduceBEq, Nat.reduceBNe, Int.reduceNeg, Int.reduceToNat, Int.reduceBEq, Int.reduceBNe, rx, ro, wx, wo, wa]
      have d3 : decide ((i : Int) < (F.length : Int)) = false := decide_eq_false (by omega)
      simp only [go_sem, ↓reduceIte, Nat.reduceEqDiff, Nat.reduceLT, reduceCtorEq, Nat.reduceAdd, Nat.reduceLeDiff, Nat.reduceBEq, Nat.reduceBNe, Int.reduceNeg, Int.reduceToNat, Int.reduceBEq, Int.reduceBNe, rx, ro, wx, wo, wa, d3]
      refine call_w [] (k := 902) (j := 903) (s_wdone true [] 21 (by simp)) (by decide) (by decide) (by decide) (by decide) (by first | rfl | simp [go_sem, slv_ids, rx, ro, wx, wo, wa]) (by simp [go_sem, rx, ro, wx, wo, wa]) (by rfl) (by rfl) (by rfl) ?_
      have r : wD true [] 21 = (none, 21) := rfl
      simp only [go_sem, ↓reduceIte, Nat.reduceEqDiff, Nat.reduceLT, reduceCtorEq, Nat.reduceAdd, Nat.reduceLeDiff, Nat.reduceBEq, Nat.reduceBNe, Int.reduceNeg, Int.reduceToNat, Int.reduceBEq, Int.reduceBNe, rx, ro, wx, wo, wa, r]
      refine call_w [] (k := 902) (j := 903) (s_wlen true [] 21) (by decide) (by decide) (by decide) (by decide) (by first | rfl | simp [go_sem, slv_ids, rx, ro, wx, wo, wa]) (by simp [go_sem, rx, ro, wx, wo, wa]) (by rfl) (by rfl) (by rfl) ?_
      simp only [go_sem, ↓reduceIte, Nat.reduceEqDiff, Nat.reduceLT, reduceCtorEq, Nat.reduceAdd, Nat.reduceLeDiff, Nat.reduceBEq, Nat.reduceBNe, Int.reduceNeg, Int.reduceToNat, Int.reduceBEq, Int.reduceBNe, rx, ro, wx, wo, wa, Bool.true_and]
      refine call_same (s_alive) (by simp [go_sem, rx, ro, wx, wo, wa]) ?_
      simp only [go_sem, ↓reduceIte, Nat.reduceEqDiff, Nat.reduceLT, reduceCtorEq, Nat.reduceAdd, Nat.reduceLeDiff, Nat.reduceBEq, Nat.reduceBNe, Int.reduceNeg, Int.reduceToNat, Int.reduceBEq, Int.reduceBNe, rx, ro, wx, wo, wa]
      exact pdone [] (by simp only [go_sem, ↓reduceIte, Nat.reduceEqDiff, Nat.reduceLT, reduceCtorEq, Nat.reduceAdd, Nat.reduceLeDiff, Nat.reduceBEq, Nat.reduceBNe, Int.reduceNeg, Int.reduceToNat, Int.reduceBEq, Int.reduceBNe, rx, ro, wx, wo, wa]) (by first | rfl | simp [go_sem, slv_ids, rx, ro, wx, wo, wa])
    · have d3 : decide ((i : Int) < (L.length : Int)) = false := decide_eq_false (by omega)
      simp only [go_sem, ↓reduceIte, Nat.reduceEqDiff, Nat.reduceLT, reduceCtorEq, Nat.reduceAdd, Nat.reduceLeDiff, Nat.reduceBEq, Nat.reduceBNe, Int.reduceNeg, Int.reduceToNat, Int.reduceBEq, Int.reduceBNe, rx, ro, wx, wo, wa, d3]
      refine call_m (s_err true b a e) ⟨by decide, by decide⟩ (by first | rfl | exact slv_ids _) (by simp [go_sem, rx, ro, wx, wo, wa]) rfl rfl (by rfl) ?_
      simp only [go_sem, ↓reduceIte, Nat.reduceEqDiff, Nat.reduceLT, reduceCtorEq, Nat.reduceAdd, Nat.reduceLeDiff, Nat.reduceBEq, Nat.reduceBNe, Int.reduceNeg, Int.reduceToNat, Int.reduceBEq, Int.reduceBNe, rx, ro, wx, wo, wa, bne_t he]
      refine call_m (s_at true b a e) ⟨by decide, by decide⟩ (by first | rfl | exact slv_ids _) (by simp [go_sem, rx, ro, wx, wo, wa]) rfl rfl (by rfl) ?_
      have n1 : ((a : Int) != (a : Int)) = false := by simp
      simp only [go_sem, ↓reduceIte, Nat.reduceEqDiff, Nat.reduceLT, reduceCtorEq, Nat.reduceAdd, Nat.reduceLeDiff, Nat.reduceBEq, Nat.reduceBNe, Int.reduceNeg, Int.reduceToNat, Int.reduceBEq, Int.reduceBNe, rx, ro, wx, wo, wa, n1]
      refine call_m (s_left true b a e ha hb) ⟨by decide, by decide⟩ (by first | rfl | exact slv_ids _) (by simp [go_sem, rx, ro, wx, wo, wa]) rfl rfl (by rfl) ?_
      have l0 : rLeft (e == 0) b a = 0 := by simp [rLeft, he]
      simp only [go_sem, ↓reduceIte, Nat.reduceEqDiff, Nat.reduceLT, reduceCtorEq, Nat.reduceAdd, Nat.reduceLeDiff, Nat.reduceBEq, Nat.reduceBNe, Int.reduceNeg, Int.reduceToNat, Int.reduceBEq, Int.reduceBNe, rx, ro, wx, wo, wa, Bool.true_and, l0]
      refine loop_rule (fun i : Nat => ⟨[(13, .int .i64 i), (12, .int .i64 e), (10, .int .i64 a), (9, .mp 901 4 0 0), (2, .sl 2 (M.map act_)), (3, .sl 4 (F.map fld_))], [(901, ro true b a e)]⟩)
        (fun i => i ≤ M.length) (fun i => M.length - i) 0 (Nat.zero_le _) (Wk.of ?_ ?_) ?_
      · simp only [go_sem, ↓reduceIte, Nat.reduceEqDiff, Nat.reduceLT, reduceCtorEq, Nat.reduceAdd, Nat.reduceLeDiff, Nat.reduceBEq, Nat.reduceBNe, Int.reduceNeg, Int.reduceToNat, Int.reduceBEq, Int.reduceBNe, rx, ro, wx, wo, wa] <;> simp
      · simp only [go_sem, ↓reduceIte, Nat.reduceEqDiff, Nat.reduceLT, reduceCtorEq, Nat.reduceAdd, Nat.reduceLeDiff, Nat.reduceBEq, Nat.reduceBNe, Int.reduceNeg, Int.reduceToNat, Int.reduceBEq, Int.reduceBNe, rx, ro, wx, wo, wa] <;> simp
      rintro j hj
      rcases Nat.lt_or_ge j M.length with hlt | hge
      · have d4 : decide ((j : Int) < (M.length : Int)) = true := decide_eq_true (by omega)
        have e8 := wi (n := (j : Int) + 1) (by omega) (by omega)
        have hx : inI (nth M j).2 := hM _ (by rw [nth_eq hlt]; exact List.getElem_mem hlt)
        obtain ⟨q, _, hc⟩ := acts_all (nth M j).1 (nth M j).2 b a e [] 0 0 hx ha hb (Nat.zero_le _) (by simp)
        rw [actS_err (nth M j).1 (nth M j).2 b a e he] at hc
        simp only [go_sem, ↓reduceIte, Nat.reduceEqDiff, Nat.reduceLT, reduceCtorEq, Nat.reduceAdd, Nat.reduceLeDiff, Nat.reduceBEq, Nat.reduceBNe, Int.reduceNeg, Int.reduceToNat, Int.reduceBEq, Int.reduceBNe, rx, ro, wx, wo, wa, d4]
        refine ⟨by omega, by omega, ?_⟩
        refine call_nl [.mp 901 4 0 0, rx [] ((0 : Nat) : Int) 0, .agg [.int .i64 (nth M j).1, .int .i64 (nth M j).2]] ⟨.inl rfl, .inr (.inr ⟨_, _, rfl, rfl, .inr ⟨rfl, 1, rfl⟩, .inl rfl, .inl rfl, trivial⟩), .inl rfl, trivial⟩ ?_
        refine call_m (hc) ⟨by decide, by decide⟩ (by first | rfl | exact slv_ids _) (by simp [go_sem, rx, ro, wx, wo, wa]) rfl rfl (by rfl) ?_
        simp only [go_sem, ↓reduceIte, Nat.reduceEqDiff, Nat.reduceLT, reduceCtorEq, Nat.reduceAdd, Nat.reduceLeDiff, Nat.reduceBEq, Nat.reduceBNe, Int.reduceNeg, Int.reduceToNat, Int.reduceBEq, Int.reduceBNe, rx, ro, wx, wo, wa]
        refine klp_n (j + 1) (show j + 1 ≤ M.length by omega) (show M.length - (j + 1) < M.length - j by omega) (Wk.of ?_ ?_)
        · simp only [go_sem, ↓reduceIte, Nat.reduceEqDiff, Nat.reduceLT, reduceCtorEq, Nat.reduceAdd, Nat.reduceLeDiff, Nat.reduceBEq, Nat.reduceBNe, Int.reduceNeg, Int.reduceToNat, Int.reduceBEq, Int.reduceBNe, rx, ro, wx, wo, wa, e8] <;> simp
        · simp only [go_sem, ↓reduceIte, Nat.reduceEqDiff, Nat.reduceLT, reduceCtorEq, Nat.reduceAdd, Nat.reduceLeDiff, Nat.reduceBEq, Nat.reduceBNe, Int.reduceNeg, Int.reduceToNat, Int.reduceBEq, Int.reduceBNe, rx, ro, wx, wo, wa]
      have d4 : decide ((j : Int) < (M.length : Int)) = false := decide_eq_false (by omega)
      simp only [go_sem, ↓reduceIte, Nat.reduceEqDiff, Nat.reduceLT, reduceCtorEq, Nat.reduceAdd, Nat.reduceLeDiff, Nat.reduceBEq, Nat.reduceBNe, Int.reduceNeg, Int.reduceToNat, Int.reduceBEq, Int.reduceBNe, rx, ro, wx, wo, wa, d4]
      refine call_m (s_err true b a e) ⟨by decide, by decide⟩ (by first | rfl | exact slv_ids _) (by simp [go_sem, rx, ro, wx, wo, wa]) rfl rfl (by rfl) ?_
      have n2 : (e != e) = false := by simp
      simp only [go_sem, ↓reduceIte, Nat.reduceEqDiff, Nat.reduceLT, reduceCtorEq, Nat.reduceAdd, Nat.reduceLeDiff, Nat.reduceBEq, Nat.reduceBNe, Int.reduceNeg, Int.reduceToNat, Int.reduceBEq, Int.reduceBNe, rx, ro, wx, wo, wa, n2]
      refine call_m (s_at true b a e) ⟨by decide, by decide⟩ (by first | rfl | exact slv_ids _) (by simp [go_sem, rx, ro, wx, wo, wa]) rfl rfl (by rfl) ?_
      simp only [go_sem, ↓reduceIte, Nat.reduceEqDiff, Nat.reduceLT, reduceCtorEq, Nat.reduceAdd, Nat.reduceLeDiff, Nat.reduceBEq, Nat.reduceBNe, Int.reduceNeg, Int.reduceToNat, Int.reduceBEq, Int.reduceBNe, rx, ro, wx, wo, wa, n1]
      refine call_m (s_byte true b a e ha hb) ⟨by decide, by decide⟩ (by first | rfl | exact slv_ids _) (by simp [go_sem, rx, ro, wx, wo, wa]) rfl rfl (by rfl) ?_
      have b0 : rByte (e == 0) b a e = (0, a, e) := by simp [rByte, he]
      have b1 : (((0 : UInt8).toNat : Int) != 0) = false := rfl
      simp only [go_sem, ↓reduceIte, Nat.reduceEqDiff, Nat.reduceLT, reduceCtorEq, Nat.reduceAdd, Nat.reduceLeDiff, Nat.reduceBEq, Nat.reduceBNe, Int.reduceNeg, Int.reduceToNat, Int.reduceBEq, Int.reduceBNe, rx, ro, wx, wo, wa, Bool.true_and, b0, b1]
      refine call_m (s_name true b a e ha hb) ⟨by decide, by decide⟩ (by first | rfl | exact slv_ids _) (by simp [go_sem, rx, ro, wx, wo, wa]) rfl rfl (by rfl) ?_
      have n0 : rName (e == 0) b a e = ([], a, e) := by simp [rName, he]
      have n3 : (([] : List UInt8) != []) = false := by simp
      simp only [go_sem, ↓reduceIte, Nat.reduceEqDiff, Nat.reduceLT, reduceCtorEq, Nat.reduceAdd, Nat.reduceLeDiff, Nat.reduceBEq, Nat.reduceBNe, Int.reduceNeg, Int.reduceToNat, Int.reduceBEq, Int.reduceBNe, rx, ro, wx, wo, wa, Bool.true_and, n0, n3]
      refine call_m (s_take true b a e 1 ha hb (by decide)) ⟨by decide, by decide⟩ (by first | rfl | exact slv_ids _) (by simp [go_sem, rx, ro, wx, wo, wa]) rfl rfl (by rfl) ?_
      have t0 : rTake (e == 0) b a e 1 = (none, a, e) := by simp [rTake, he]
      simp only [go_sem, ↓reduceIte, Nat.reduceEqDiff, Nat.reduceLT, reduceCtorEq, Nat.reduceAdd, Nat.reduceLeDiff, Nat.reduceBEq, Nat.reduceBNe, Int.reduceNeg, Int.reduceToNat, Int.reduceBEq, Int.reduceBNe, rx, ro, wx, wo, wa, Bool.true_and, t0]
      refine call_wnew 902 903 (by decide) (by decide) (by decide) (by simp only [go_sem, ↓reduceIte, Nat.reduceEqDiff, Nat.reduceLT, reduceCtorEq, Nat.reduceAdd, Nat.reduceLeDiff, Nat.reduceBEq, Nat.reduceBNe, Int.reduceNeg, Int.reduceToNat, Int.reduceBEq, Int.reduceBNe, rx, ro, wx, wo, wa]) (by simp only [go_sem, ↓reduceIte, Nat.reduceEqDiff, Nat.reduceLT, reduceCtorEq, Nat.reduceAdd, Nat.reduceLeDiff, Nat.reduceBEq, Nat.reduceBNe, Int.reduceNeg, Int.reduceToNat, Int.reduceBEq, Int.reduceBNe, rx, ro, wx, wo, wa]) ?_
      simp only [go_sem, ↓reduceIte, Nat.reduceEqDiff, Nat.reduceLT, reduceCtorEq, Nat.reduceAdd, Nat.reduceLeDiff, Nat.reduceBEq, Nat.reduceBNe, Int.reduceNeg, Int.reduceToNat, Int.reduceBEq, Int.reduceBNe, rx, ro, wx, wo, wa]
      refine call_w [] (k := 902) (j := 903) (s_wfail true [] 0 21) (by decide) (by decide) (by decide) (by decide) (by first | rfl | simp [go_sem, slv_ids, rx, ro, wx, wo, wa]) (by simp [go_sem, rx, ro, wx, wo, wa]) (by rfl) (by rfl) (by rfl) ?_
      simp only [go_sem, ↓reduceIte, Nat.reduceEqDiff, Nat.reduceLT, reduceCtorEq, Nat.reduceAdd, Nat.reduceLeDiff, Nat.reduceBEq, Nat.reduceBNe, Int.reduceNeg, Int.reduceToNat, Int.reduceBEq, Int.reduceBNe, rx, ro, wx, wo, wa]
      refine loop_rule (fun i : Nat => ⟨[(15, .int .i64 i), (14, .mp 902 3 0 0), (3, .sl 4 (F.map fld_))], [(902, wo 903 true [] 21), (903, wa [])]⟩)
        (fun i => i ≤ F.length) (fun i => F.length - i) 0 (Nat.zero_le _) (Wk.of ?_ ?_) ?_
      · simp only [go_sem, ↓reduceIte, Nat.reduceEqDiff, Nat.reduceLT, reduceCtorEq, Nat.reduceAdd, Nat.reduceLeDiff, Nat.reduceBEq, Nat.reduceBNe, Int.reduceNeg, Int.reduceToNat, Int.reduceBEq, Int.reduceBNe, rx, ro, wx, wo, wa] <;> simp
      · simp only [go_sem, ↓reduceIte, Nat.reduceEqDiff, Nat.reduceLT, reduceCtorEq, Nat.reduceAdd, Nat.reduceLeDiff, Nat.reduceBEq, Nat.reduceBNe, Int.reduceNeg, Int.reduceToNat, Int.reduceBEq, Int.reduceBNe, rx, ro, wx, wo, wa] <;> simp
      rintro i hi
      rcases Nat.lt_or_ge i F.length with hlt | hge
      · have d3 : decide ((i : Int) < (F.length : Int)) = true := decide_eq_true (by omega)
        have e8 := wi (n := (i : Int) + 1) (by omega) (by omega)
        have hm : nth F i ∈ F := by rw [nth_eq hlt]; exact List.getElem_mem hlt
        have hw := wr_all true [] 21 [] 0 (nth F i) (hF _ hm) (by simp) (by simp) (by have := f200 _ hm; omega)
        unfold Wr at hw
        rw [show (true && (21 : Int) == 0) = false from rfl, wrS_false] at hw
        simp only [go_sem, ↓reduceIte, Nat.reduceEqDiff, Nat.reduceLT, reduceCtorEq, Nat.reduceAdd, Nat.reduceLeDiff, Nat.reduceBEq, Nat.reduceBNe, Int.reduceNeg, Int.reduceToNat, Int.reduceBEq, Int.reduceBNe, rx, ro, wx, wo, wa, d3]
        refine ⟨by omega, by omega, ?_⟩
        refine call_nl [.mp 902 3 0 0, wx [] 0, .agg [.int .i64 (nth F i).d, .int .i64 (nth F i).n, .int .u64 (nth F i).x, .str (nth F i).s]] ⟨.inl rfl, .inr (.inr ⟨_, _, rfl, rfl, .inr ⟨rfl, 1, rfl⟩, .inl rfl, trivial⟩), .inl rfl, trivial⟩ ?_
        refine call_w [] (k := 902) (j := 903) (hw) (by decide) (by decide) (by decide) (by decide) (by first | rfl | simp [go_sem, slv_ids, rx, ro, wx, wo, wa]) (by simp [go_sem, rx, ro, wx, wo, wa]) (by rfl) (by rfl) (by rfl) ?_
        simp only [go_sem, ↓reduceIte, Nat.reduceEqDiff, Nat.reduceLT, reduceCtorEq, Nat.reduceAdd, Nat.reduceLeDiff, Nat.reduceBEq, Nat.reduceBNe, Int.reduceNeg, Int.reduceToNat, Int.reduceBEq, Int.reduceBNe, rx, ro, wx, wo, wa]
        refine klp_n (i + 1) (show i + 1 ≤ F.length by omega) (show F.length - (i + 1) < F.length - i by omega) (Wk.of ?_ ?_)
        · simp only [go_sem, ↓reduceIte, Nat.reduceEqDiff, Nat.reduceLT, reduceCtorEq, Nat.reduceAdd, Nat.reduceLeDiff, Nat.reduceBEq, Nat.reduceBNe, Int.reduceNeg, Int.reduceToNat, Int.reduceBEq, Int.reduceBNe, rx, ro, wx, wo, wa, e8] <;> simp
        · simp only [go_sem, ↓reduceIte, Nat.reduceEqDiff, Nat.reduceLT, reduceCtorEq, Nat.reduceAdd, Nat.reduceLeDiff, Nat.reduceBEq, Nat.reduceBNe, Int.reduceNeg, Int.reduceToNat, Int.reduceBEq, Int.reduceBNe, rx, ro, wx, wo, wa]
      have d3 : decide ((i : Int) < (F.length : Int)) = false := decide_eq_false (by omega)
      simp only [go_sem, ↓reduceIte, Nat.reduceEqDiff, Nat.reduceLT, reduceCtorEq, Nat.reduceAdd, Nat.reduceLeDiff, Nat.reduceBEq, Nat.reduceBNe, Int.reduceNeg, Int.reduceToNat, Int.reduceBEq, Int.reduceBNe, rx, ro, wx, wo, wa, d3]
      refine call_w [] (k := 902) (j := 903) (s_wdone true [] 21 (by simp)) (by decide) (by decide) (by decide) (by decide) (by first | rfl | simp [go_sem, slv_ids, rx, ro, wx, wo, wa]) (by simp [go_sem, rx, ro, wx, wo, wa]) (by rfl) (by rfl) (by rfl) ?_
      have r : wD true [] 21 = (none, 21) := rfl
      simp only [go_sem, ↓reduceIte, Nat.reduceEqDiff, Nat.reduceLT, reduceCtorEq, Nat.reduceAdd, Nat.reduceLeDiff, Nat.reduceBEq, Nat.reduceBNe, Int.reduceNeg, Int.reduceToNat, Int.reduceBEq, Int.reduceBNe, rx, ro, wx, wo, wa, r]
      refine call_w [] (k := 902) (j := 903) (s_wlen true [] 21) (by decide) (by decide) (by decide) (by decide) (by first | rfl | simp [go_sem, slv_ids, rx, ro, wx, wo, wa]) (by simp [go_sem, rx, ro, wx, wo, wa]) (by rfl) (by rfl) (by rfl) ?_
      simp only [go_sem, ↓reduceIte, Nat.reduceEqDiff, Nat.reduceLT, reduceCtorEq, Nat.reduceAdd, Nat.reduceLeDiff, Nat.reduceBEq, Nat.reduceBNe, Int.reduceNeg, Int.reduceToNat, Int.reduceBEq, Int.reduceBNe, rx, ro, wx, wo, wa, Bool.true_and]
      refine call_same (s_alive) (by simp [go_sem, rx, ro, wx, wo, wa]) ?_
      simp only [go_sem, ↓reduceIte, Nat.reduceEqDiff, Nat.reduceLT, reduceCtorEq, Nat.reduceAdd, Nat.reduceLeDiff, Nat.reduceBEq, Nat.reduceBNe, Int.reduceNeg, Int.reduceToNat, Int.reduceBEq, Int.reduceBNe, rx, ro, wx, wo, wa]
      exact pdone [] (by simp only [go_sem, ↓reduceIte, Nat.reduceEqDiff, Nat.reduceLT, reduceCtorEq, Nat.reduceAdd, Nat.reduceLeDiff, Nat.reduceBEq, Nat.reduceBNe, Int.reduceNeg, Int.reduceToNat, Int.reduceBEq, Int.reduceBNe, rx, ro, wx, wo, wa]) (by first | rfl | simp [go_sem, slv_ids, rx, ro, wx, wo, wa])
end Go.Proofs.YtkejmhpodhbeeaaDoor
set_option linter.unusedSimpArgs false
set_option maxRecDepth 100000
set_option maxHeartbeats 4000000
set_option linter.unusedVariables false
set_option linter.unusedSectionVars false
namespace Go.Proofs.YtkejmhpodhbeeaaDoor
open Go Go.Mw
-- @U: rx, ro, slv_none, slv_some

/-- The bytes of a field; whether it can be written. -/
def encF (f : Fld) : List UInt8 :=
  if f.d = 0 then [u8 f.n] else if f.d = 1 then putU f.n.toNat else if f.d = 2 then putS (s32 f.x) else if f.d = 3 then putS f.n else if f.d = 4 then putS (IntKind.i64.wrap f.x) else if f.d = 5 then f.s else
  if f.d = 6 then putU f.s.length ++ f.s else if f.d = 7 then putU f.s.length ++ f.s else []
def okF (f : Fld) : Prop := (f.d = 1 → 0 ≤ f.n ∧ f.n ≤ 4294967295) ∧ (f.d = 3 → -4294967296 ≤ f.n ∧ f.n ≤ 4294967295) ∧ (f.d = 6 → uv f.s = true ∧ f.s.length ≤ 64)
theorem wrS_true (l : List UInt8) (f : Fld) (h : (wrS true l 0 f).2 = 0) : wrS true l 0 f = (l ++ encF f, 0) ∧ okF f := by
  have wb : ∀ x, wB true l x = l ++ x := fun x => rfl
  unfold wrS at h ⊢
  unfold encF okF
  by_cases h0 : f.d = 0
  · simp [h0, wb]
  by_cases h1 : f.d = 1
  · simp only [h1, Int.reduceEq, ↓reduceIte] at h ⊢
    unfold wU at h ⊢
    simp only [if_true] at h ⊢
    split at h
    · cases h
    · rename_i h2
      rw [if_neg h2]
      exact ⟨rfl, fun _ => by omega, False.elim, False.elim⟩
  by_cases h2 : f.d = 2
  · simp [h2, wS, wb]
  by_cases h3 : f.d = 3
  · simp only [h3, Int.reduceEq, ↓reduceIte] at h ⊢
    unfold wS33 at h ⊢
    split at h
    · cases h
    · rename_i h2
      rw [if_neg h2]
      exact ⟨by simp [wS, wb], False.elim, fun _ => by omega, False.elim⟩
  by_cases h4 : f.d = 4
  · simp [h4, wS, wb]
  by_cases h5 : f.d = 5
  · simp [h5, wb]
  by_cases h6 : f.d = 6
  · simp only [h6, Int.reduceEq, ↓reduceIte] at h ⊢
    unfold wN at h ⊢
    simp only [if_true] at h ⊢
    split at h
    · cases h
    · rename_i h7
      split at h
      · cases h
      · rename_i h8
        rw [if_neg h7, if_neg h8]
        exact ⟨by rw [List.append_assoc], False.elim, False.elim, fun _ => ⟨by simpa using h7, by omega⟩⟩
  by_cases h7 : f.d = 7
  · simp [h7, wP, wB]
  by_cases h8 : f.d = 8
  · simp [h8] at h ⊢
    exact h
  · simp [h0, h1, h2, h3, h4, h5, h6, h7, h8]
theorem drop_app {b x r : List UInt8} {a : Nat} (h : b.drop a = x ++ r) : (b.drop a).take x.length = x ∧ b.drop (a + x.length) = r ∧ (a ≤ b.length → b.length = a + x.length + r.length) := by
  refine ⟨by rw [h, List.take_left], by rw [← List.drop_drop, h, List.drop_left], fun ha => ?_⟩
  have := congrArg List.length h
  simp at this
  omega
theorem rTake_ok {b x r : List UInt8} {a : Nat} (ha : a ≤ b.length) (h : b.drop a = x ++ r) : rTake true b a 0 x.length = (some x, a + x.length, 0) := by
  obtain ⟨h1, h2, h3⟩ := drop_app h
  have h3 := h3 ha
  have n1 : ¬ ((x.length : Int) < 0) := by omega
  have n2 : ¬ ((x.length : Int) > (b.length : Int) - a) := by omega
  simp only [rTake, if_true, if_neg n1, if_neg n2, Int.toNat_natCast, h1]
theorem rU_ok {b r : List UInt8} {a n : Nat} (hn : n < 4294967296) (h : b.drop a = putU n ++ r) : rU true 32 b a 0 = (n, a + (putU n).length, 0) := by
  have := decU_putU (n := n) (bits := 32) r (by decide) hn
  simp [rU, h, this]
theorem rCount_ok {b r : List UInt8} {a n : Nat} {most : Int} (hn : n < 4294967296) (hm : (n : Int) ≤ most) (h : b.drop a = putU n ++ r) : rCount true b a 0 most = (n, a + (putU n).length, 0) := by
  have h1 := rU_ok hn h
  simp only [rCount, if_true, h1]
  rw [if_neg (by omega)]
theorem rS_ok {b r : List UInt8} {a bits : Nat} {n : Int} (hb : 1 ≤ bits ∧ bits ≤ 64) (h1 : -(2 ^ (bits - 1) : Int) ≤ n) (h2 : n < 2 ^ (bits - 1)) (h : b.drop a = putS n ++ r) : rS true bits b a 0 = (n, a + (putS n).length, 0) := by
  have := decS_putS r hb h1 h2
  simp [rS, h, this]
theorem s32_back (x : Int) : IntKind.u64.wrap (IntKind.u32.wrap (s32 x)) = IntKind.u64.wrap (IntKind.u32.wrap x) := by
  unfold s32
  simp only [w_u64, w_u32, w_i32, w_i64]
  omega
theorem i64_back {x : Int} (h : 0 ≤ x ∧ x < 18446744073709551616) : IntKind.u64.wrap (IntKind.i64.wrap x) = x := by
  simp only [w_u64, w_i64]
  omega
/-- A field is read back. -/
def Rd (f : Fld) (b r : List UInt8) (a : Nat) : Prop :=
  b.drop a = encF f ++ r → okF f → RM n_law02_read [.agg [.int .i64 f.d, .int .i64 f.n, .int .u64 f.x, .str f.s]] true b a 0 (.bool true) ((a + (encF f).length : Nat) : Int) 0
section
variable (n x : Int) (s : List UInt8) (b r : List UInt8) (a : Nat) (hn : inI n) (hx : 0 ≤ x ∧ x < 18446744073709551616) (hs : s.length ≤ 200) (ha : a ≤ b.length) (hb : b.length < 1000000000)
include hn hx hs ha hb
theorem rd_0 : Rd ⟨0, n, x, s⟩ b r a := by
  intro he ho
  refine fun_sound (ic := F_law02_read.body) mixed c_law02_read rfl rfl ?_
  have e1 : encF ⟨0, n, x, s⟩ = [u8 n] := rfl
  rw [e1] at he ⊢
  obtain ⟨h1, h2, h3⟩ := drop_app he
  have h3 := h3 ha
  simp only [List.length_singleton] at h3
  have hv : nth b a = u8 n := by
    have := congrArg (fun l => nth l 0) he
    simp only [nth_drop, Nat.add_zero] at this
    exact this
  have r1 : rByte true b a 0 = (u8 n, a + 1, 0) := by
    simp only [rByte, if_true]
    rw [if_neg (by omega), hv]
  have c := s_byte true b a 0 ha hb
  rw [show (true && (0 : Int) == 0) = true from rfl, r1] at c
  simp only [go_sem, ↓reduceIte, Nat.reduceEqDiff, Nat.reduceLT, reduceCtorEq, Nat.reduceAdd, Nat.reduceLeDiff, Nat.reduceBEq, Nat.reduceBNe, Int.reduceNeg, Int.reduceToNat, Int.reduceBEq, Int.reduceBNe, rx, ro, F_law02_read]
  refine dcall_m c ⟨by decide, by decide⟩ rfl (by simp [go_sem]) rfl rfl (by rfl) (by exact List.Mem.head _) ?_
  simp only [go_sem, ↓reduceIte, Nat.reduceEqDiff, Nat.reduceLT, reduceCtorEq, Nat.reduceAdd, Nat.reduceLeDiff, Nat.reduceBEq, Nat.reduceBNe, Int.reduceNeg, Int.reduceToNat, Int.reduceBEq, Int.reduceBNe, rx, ro, u8_w]
  exact done1 (fun _ h => by cases h) (by simp only [go_sem, ↓reduceIte, Nat.reduceEqDiff, Nat.reduceLT, reduceCtorEq, Nat.reduceAdd, Nat.reduceLeDiff, Nat.reduceBEq, Nat.reduceBNe, Int.reduceNeg, Int.reduceToNat, Int.reduceBEq, Int.reduceBNe, rx, ro]) (by rfl) (by first | rfl | simp [go_sem, slv_ids, clB, rx, ro])
theorem rd_1 : Rd ⟨1, n, x, s⟩ b r a := by
  intro he ho
  refine fun_sound (ic := F_law02_read.body) mixed c_law02_read rfl rfl ?_
  have e1 : encF ⟨1, n, x, s⟩ = putU n.toNat := rfl
  have hr := ho.1 rfl
  simp only at hr
  rw [e1] at he ⊢
  have c := s_U32 true b a 0 ha hb
  rw [show (true && (0 : Int) == 0) = true from rfl, rU_ok (by omega) he] at c
  have n1 : ((n.toNat : Nat) : Int) = n := by omega
  simp only [go_sem, ↓reduceIte, Nat.reduceEqDiff, Nat.reduceLT, reduceCtorEq, Nat.reduceAdd, Nat.reduceLeDiff, Nat.reduceBEq, Nat.reduceBNe, Int.reduceNeg, Int.reduceToNat, Int.reduceBEq, Int.reduceBNe, rx, ro, F_law02_read]
  refine dcall_m c ⟨by decide, by decide⟩ rfl (by simp [go_sem]) rfl rfl (by rfl) (by exact List.Mem.head _) ?_
  simp only [go_sem, ↓reduceIte, Nat.reduceEqDiff, Nat.reduceLT, reduceCtorEq, Nat.reduceAdd, Nat.reduceLeDiff, Nat.reduceBEq, Nat.reduceBNe, Int.reduceNeg, Int.reduceToNat, Int.reduceBEq, Int.reduceBNe, rx, ro, n1]
  exact done1 (fun _ h => by cases h) (by simp only [go_sem, ↓reduceIte, Nat.reduceEqDiff, Nat.reduceLT, reduceCtorEq, Nat.reduceAdd, Nat.reduceLeDiff, Nat.reduceBEq, Nat.reduceBNe, Int.reduceNeg, Int.reduceToNat, Int.reduceBEq, Int.reduceBNe, rx, ro]) (by rfl) (by first | rfl | simp [go_sem, slv_ids, clB, rx, ro])
theorem rd_2 : Rd ⟨2, n, x, s⟩ b r a := by
  intro he ho
  refine fun_sound (ic := F_law02_read.body) mixed c_law02_read rfl rfl ?_
  have e1 : encF ⟨2, n, x, s⟩ = putS (s32 x) := rfl
  rw [e1] at he ⊢
  have hr := s32_in x
  have c := s_S32 true b a 0 ha hb
  rw [show (true && (0 : Int) == 0) = true from rfl, rS_ok (n := s32 x) (by decide) (by simp; omega) (by simp; omega) he] at c
  simp only [go_sem, ↓reduceIte, Nat.reduceEqDiff, Nat.reduceLT, reduceCtorEq, Nat.reduceAdd, Nat.reduceLeDiff, Nat.reduceBEq, Nat.reduceBNe, Int.reduceNeg, Int.reduceToNat, Int.reduceBEq, Int.reduceBNe, rx, ro, F_law02_read]
  refine dcall_m c ⟨by decide, by decide⟩ rfl (by simp [go_sem]) rfl rfl (by rfl) (by exact List.Mem.head _) ?_
  simp only [go_sem, ↓reduceIte, Nat.reduceEqDiff, Nat.reduceLT, reduceCtorEq, Nat.reduceAdd, Nat.reduceLeDiff, Nat.reduceBEq, Nat.reduceBNe, Int.reduceNeg, Int.reduceToNat, Int.reduceBEq, Int.reduceBNe, rx, ro, s32_back]
  exact done1 (fun _ h => by cases h) (by simp only [go_sem, ↓reduceIte, Nat.reduceEqDiff, Nat.reduceLT, reduceCtorEq, Nat.reduceAdd, Nat.reduceLeDiff, Nat.reduceBEq, Nat.reduceBNe, Int.reduceNeg, Int.reduceToNat, Int.reduceBEq, Int.reduceBNe, rx, ro]) (by rfl) (by first | rfl | simp [go_sem, slv_ids, clB, rx, ro])
theorem rd_3 : Rd ⟨3, n, x, s⟩ b r a := by
  intro he ho
  refine fun_sound (ic := F_law02_read.body) mixed c_law02_read rfl rfl ?_
  have e1 : encF ⟨3, n, x, s⟩ = putS n := rfl
  rw [e1] at he ⊢
  have hr := ho.2.1 rfl
  simp only at hr
  have c := s_S33 true b a 0 ha hb
  rw [show (true && (0 : Int) == 0) = true from rfl, rS_ok (n := n) (by decide) (by simp; omega) (by simp; omega) he] at c
  simp only [go_sem, ↓reduceIte, Nat.reduceEqDiff, Nat.reduceLT, reduceCtorEq, Nat.reduceAdd, Nat.reduceLeDiff, Nat.reduceBEq, Nat.reduceBNe, Int.reduceNeg, Int.reduceToNat, Int.reduceBEq, Int.reduceBNe, rx, ro, F_law02_read]
  refine dcall_m c ⟨by decide, by decide⟩ rfl (by simp [go_sem]) rfl rfl (by rfl) (by exact List.Mem.head _) ?_
  simp only [go_sem, ↓reduceIte, Nat.reduceEqDiff, Nat.reduceLT, reduceCtorEq, Nat.reduceAdd, Nat.reduceLeDiff, Nat.reduceBEq, Nat.reduceBNe, Int.reduceNeg, Int.reduceToNat, Int.reduceBEq, Int.reduceBNe, rx, ro]
  exact done1 (fun _ h => by cases h) (by simp only [go_sem, ↓reduceIte, Nat.reduceEqDiff, Nat.reduceLT, reduceCtorEq, Nat.reduceAdd, Nat.reduceLeDiff, Nat.reduceBEq, Nat.reduceBNe, Int.reduceNeg, Int.reduceToNat, Int.reduceBEq, Int.reduceBNe, rx, ro]) (by rfl) (by first | rfl | simp [go_sem, slv_ids, clB, rx, ro])
theorem rd_4 : Rd ⟨4, n, x, s⟩ b r a := by
  intro he ho
  refine fun_sound (ic := F_law02_read.body) mixed c_law02_read rfl rfl ?_
  have e1 : encF ⟨4, n, x, s⟩ = putS (IntKind.i64.wrap x) := rfl
  rw [e1] at he ⊢
  have hr := i64_in x
  unfold inI at hr
  have c := s_S64 true b a 0 ha hb
  rw [show (true && (0 : Int) == 0) = true from rfl, rS_ok (n := IntKind.i64.wrap x) (by decide) (by simp; omega) (by simp; omega) he] at c
  simp only [go_sem, ↓reduceIte, Nat.reduceEqDiff, Nat.reduceLT, reduceCtorEq, Nat.reduceAdd, Nat.reduceLeDiff, Nat.reduceBEq, Nat.reduceBNe, Int.reduceNeg, Int.reduceToNat, Int.reduceBEq, Int.reduceBNe, rx, ro, F_law02_read]
  refine dcall_m c ⟨by decide, by decide⟩ rfl (by simp [go_sem]) rfl rfl (by rfl) (by exact List.Mem.head _) ?_
  simp only [go_sem, ↓reduceIte, Nat.reduceEqDiff, Nat.reduceLT, reduceCtorEq, Nat.reduceAdd, Nat.reduceLeDiff, Nat.reduceBEq, Nat.reduceBNe, Int.reduceNeg, Int.reduceToNat, Int.reduceBEq, Int.reduceBNe, rx, ro, i64_back hx]
  exact done1 (fun _ h => by cases h) (by simp only [go_sem, ↓reduceIte, Nat.reduceEqDiff, Nat.reduceLT, reduceCtorEq, Nat.reduceAdd, Nat.reduceLeDiff, Nat.reduceBEq, Nat.reduceBNe, Int.reduceNeg, Int.reduceToNat, Int.reduceBEq, Int.reduceBNe, rx, ro]) (by rfl) (by first | rfl | simp [go_sem, slv_ids, clB, rx, ro])
theorem rd_5 : Rd ⟨5, n, x, s⟩ b r a := by
  intro he ho
  refine fun_sound (ic := F_law02_read.body) mixed c_law02_read rfl rfl ?_
  have e1 : encF ⟨5, n, x, s⟩ = s := rfl
  rw [e1] at he ⊢
  have c := s_take true b a 0 s.length ha hb (by omega)
  rw [show (true && (0 : Int) == 0) = true from rfl, rTake_ok ha he] at c
  simp only [go_sem, ↓reduceIte, Nat.reduceEqDiff, Nat.reduceLT, reduceCtorEq, Nat.reduceAdd, Nat.reduceLeDiff, Nat.reduceBEq, Nat.reduceBNe, Int.reduceNeg, Int.reduceToNat, Int.reduceBEq, Int.reduceBNe, rx, ro, F_law02_read]
  refine dcall_m c ⟨by decide, by decide⟩ rfl (by simp [go_sem]) rfl rfl (by rfl) (by exact List.Mem.head _) ?_
  simp only [go_sem, ↓reduceIte, Nat.reduceEqDiff, Nat.reduceLT, reduceCtorEq, Nat.reduceAdd, Nat.reduceLeDiff, Nat.reduceBEq, Nat.reduceBNe, Int.reduceNeg, Int.reduceToNat, Int.reduceBEq, Int.reduceBNe, rx, ro, bytes_by s, Option.map_some]
  exact done1 (fun _ h => by cases h) (by simp only [go_sem, ↓reduceIte, Nat.reduceEqDiff, Nat.reduceLT, reduceCtorEq, Nat.reduceAdd, Nat.reduceLeDiff, Nat.reduceBEq, Nat.reduceBNe, Int.reduceNeg, Int.reduceToNat, Int.reduceBEq, Int.reduceBNe, rx, ro]) (by rfl) (by first | rfl | simp [go_sem, slv_ids, clB, rx, ro])
theorem rd_6 : Rd ⟨6, n, x, s⟩ b r a := by
  intro he ho
  refine fun_sound (ic := F_law02_read.body) mixed c_law02_read rfl rfl ?_
  have e1 : encF ⟨6, n, x, s⟩ = putU s.length ++ s := rfl
  rw [e1] at he ⊢
  obtain ⟨hv, h64⟩ := ho.2.2 rfl
  simp only at hv h64
  have he1 : b.drop a = putU s.length ++ (s ++ r) := by rw [he, List.append_assoc]
  obtain ⟨g1, g2, g3⟩ := drop_app he1
  have g3 := g3 ha
  have rc := rCount_ok (most := 64) (by omega) (by omega) he1
  have rt := rTake_ok (by omega) g2
  have rn : rName true b a 0 = (s, a + (putU s.length ++ s).length, 0) := by
    simp only [rName, if_true, rc]
    rw [show ((0 : Int) == 0) = true from rfl, rt]
    simp [nameT, hv, Nat.add_assoc]
  have c := s_name true b a 0 ha hb
  rw [show (true && (0 : Int) == 0) = true from rfl, rn] at c
  simp only [go_sem, ↓reduceIte, Nat.reduceEqDiff, Nat.reduceLT, reduceCtorEq, Nat.reduceAdd, Nat.reduceLeDiff, Nat.reduceBEq, Nat.reduceBNe, Int.reduceNeg, Int.reduceToNat, Int.reduceBEq, Int.reduceBNe, rx, ro, F_law02_read]
  refine dcall_m c ⟨by decide, by decide⟩ rfl (by simp [go_sem]) rfl rfl (by rfl) (by exact List.Mem.head _) ?_
  simp only [go_sem, ↓reduceIte, Nat.reduceEqDiff, Nat.reduceLT, reduceCtorEq, Nat.reduceAdd, Nat.reduceLeDiff, Nat.reduceBEq, Nat.reduceBNe, Int.reduceNeg, Int.reduceToNat, Int.reduceBEq, Int.reduceBNe, rx, ro]
  exact done1 (fun _ h => by cases h) (by simp only [go_sem, ↓reduceIte, Nat.reduceEqDiff, Nat.reduceLT, reduceCtorEq, Nat.reduceAdd, Nat.reduceLeDiff, Nat.reduceBEq, Nat.reduceBNe, Int.reduceNeg, Int.reduceToNat, Int.reduceBEq, Int.reduceBNe, rx, ro]) (by rfl) (by first | rfl | simp [go_sem, slv_ids, clB, rx, ro])
theorem rd_7 : Rd ⟨7, n, x, s⟩ b r a := by
  intro he ho
  refine fun_sound (ic := F_law02_read.body) mixed c_law02_read rfl rfl ?_
  have e1 : encF ⟨7, n, x, s⟩ = putU s.length ++ s := rfl
  rw [e1] at he ⊢
  have he1 : b.drop a = putU s.length ++ (s ++ r) := by rw [he, List.append_assoc]
  obtain ⟨g1, g2, g3⟩ := drop_app he1
  have g3 := g3 ha
  have rc := rCount_ok (most := s.length) (by omega) (by omega) he1
  have rt := rTake_ok (by omega) g2
  have c1 := s_count true b a 0 s.length ha hb
  rw [show (true && (0 : Int) == 0) = true from rfl, rc] at c1
  have c2 := s_subG b (a + (putU s.length).length) 0 s.length (by omega) hb (by omega)
  rw [show ((0 : Int) == 0) = true from rfl, rt] at c2
  have c3 := s_take true s 0 0 s.length (Nat.zero_le _) (by omega) (by omega)
  rw [show (true && (0 : Int) == 0) = true from rfl, rTake_ok (b := s) (x := s) (r := []) (Nat.zero_le _) (by simp)] at c3
  have l1 : rLeft true s 0 = (s.length : Int) := by simp [rLeft]
  have l2 : rEnd true s s.length 0 = 0 := by simp [rEnd]
  simp only [go_sem, ↓reduceIte, Nat.reduceEqDiff, Nat.reduceLT, reduceCtorEq, Nat.reduceAdd, Nat.reduceLeDiff, Nat.reduceBEq, Nat.reduceBNe, Int.reduceNeg, Int.reduceToNat, Int.reduceBEq, Int.reduceBNe, rx, ro, F_law02_read]
  refine call_m (c1) ⟨by decide, by decide⟩ (by first | rfl | exact slv_ids _) (by simp [go_sem, rx, ro]) rfl rfl (by rfl) ?_
  simp only [go_sem, ↓reduceIte, Nat.reduceEqDiff, Nat.reduceLT, reduceCtorEq, Nat.reduceAdd, Nat.reduceLeDiff, Nat.reduceBEq, Nat.reduceBNe, Int.reduceNeg, Int.reduceToNat, Int.reduceBEq, Int.reduceBNe, rx, ro]
  refine call_obj (σ2 := [(1000, ro true b ((a + (putU s.length).length : Nat) : Int) 0)]) (r3 := .mp 903 4 0 0) (σ3 := [(1000, ro true b ((a + (putU s.length).length + s.length : Nat) : Int) 0), (903, ro true s ((0 : Nat) : Int) 0)]) c2 [(24, 903)] [903] rfl rfl rfl rfl ?_ ?_ ?_ ?_
  · simp only [go_sem, ↓reduceIte, Nat.reduceEqDiff, Nat.reduceLT, reduceCtorEq, Nat.reduceAdd, Nat.reduceLeDiff, Nat.reduceBEq, Nat.reduceBNe, Int.reduceNeg, Int.reduceToNat, Int.reduceBEq, Int.reduceBNe, rx, ro]; simp
  · simp only [go_sem, ↓reduceIte, Nat.reduceEqDiff, Nat.reduceLT, reduceCtorEq, Nat.reduceAdd, Nat.reduceLeDiff, Nat.reduceBEq, Nat.reduceBNe, Int.reduceNeg, Int.reduceToNat, Int.reduceBEq, Int.reduceBNe, rx, ro]; simp [sb, bw, swp, hget]
  · simp only [go_sem, ↓reduceIte, Nat.reduceEqDiff, Nat.reduceLT, reduceCtorEq, Nat.reduceAdd, Nat.reduceLeDiff, Nat.reduceBEq, Nat.reduceBNe, Int.reduceNeg, Int.reduceToNat, Int.reduceBEq, Int.reduceBNe, rx, ro]; simp [hget]
  simp only [go_sem, ↓reduceIte, Nat.reduceEqDiff, Nat.reduceLT, reduceCtorEq, Nat.reduceAdd, Nat.reduceLeDiff, Nat.reduceBEq, Nat.reduceBNe, Int.reduceNeg, Int.reduceToNat, Int.reduceBEq, Int.reduceBNe, rx, ro]
  refine dcall_m (s_left true s 0 0 (Nat.zero_le _) (by omega)) ⟨by decide, by decide⟩ rfl (by simp [go_sem]) rfl rfl (by rfl) (by exact List.Mem.head _) ?_
  simp only [go_sem, ↓reduceIte, Nat.reduceEqDiff, Nat.reduceLT, reduceCtorEq, Nat.reduceAdd, Nat.reduceLeDiff, Nat.reduceBEq, Nat.reduceBNe, Int.reduceNeg, Int.reduceToNat, Int.reduceBEq, Int.reduceBNe, rx, ro, l1]
  refine dcall_m c3 ⟨by decide, by decide⟩ rfl (by simp [go_sem]) rfl rfl (by rfl) (by exact List.Mem.head _) ?_
  simp only [go_sem, ↓reduceIte, Nat.reduceEqDiff, Nat.reduceLT, reduceCtorEq, Nat.reduceAdd, Nat.reduceLeDiff, Nat.reduceBEq, Nat.reduceBNe, Int.reduceNeg, Int.reduceToNat, Int.reduceBEq, Int.reduceBNe, rx, ro, bytes_by s, Option.map_some]
  refine call_m (s_end true s s.length 0) ⟨by decide, by decide⟩ (by first | rfl | exact slv_ids _) (by simp [go_sem, rx, ro]) rfl rfl (by rfl) ?_
  simp only [go_sem, ↓reduceIte, Nat.reduceEqDiff, Nat.reduceLT, reduceCtorEq, Nat.reduceAdd, Nat.reduceLeDiff, Nat.reduceBEq, Nat.reduceBNe, Int.reduceNeg, Int.reduceToNat, Int.reduceBEq, Int.reduceBNe, rx, ro, l2]
  rw [show a + (putU s.length ++ s).length = a + (putU s.length).length + s.length by simp; omega]
  exact done1 (fun _ h => by cases h) (by simp only [go_sem, ↓reduceIte, Nat.reduceEqDiff, Nat.reduceLT, reduceCtorEq, Nat.reduceAdd, Nat.reduceLeDiff, Nat.reduceBEq, Nat.reduceBNe, Int.reduceNeg, Int.reduceToNat, Int.reduceBEq, Int.reduceBNe, rx, ro]) (by rfl) (by first | rfl | simp [go_sem, slv_ids, clB, rx, ro])
theorem rd_e (d : Int) (h0 : ¬ d = 0) (h1 : ¬ d = 1) (h2 : ¬ d = 2) (h3 : ¬ d = 3) (h4 : ¬ d = 4) (h5 : ¬ d = 5) (h6 : ¬ d = 6) (h7 : ¬ d = 7) : Rd ⟨d, n, x, s⟩ b r a := by
  intro he ho
  refine fun_sound (ic := F_law02_read.body) mixed c_law02_read rfl rfl ?_
  have e1 : encF ⟨d, n, x, s⟩ = [] := by simp [encF, h0, h1, h2, h3, h4, h5, h6, h7]
  rw [e1]
  simp only [go_sem, ↓reduceIte, Nat.reduceEqDiff, Nat.reduceLT, reduceCtorEq, Nat.reduceAdd, Nat.reduceLeDiff, Nat.reduceBEq, Nat.reduceBNe, Int.reduceNeg, Int.reduceToNat, Int.reduceBEq, Int.reduceBNe, rx, ro, F_law02_read, beq_f h0, beq_f h1, beq_f h2, beq_f h3, beq_f h4, beq_f h5, beq_f h6, beq_f h7]
  exact done1 (fun _ h => by cases h) (by simp only [go_sem, ↓reduceIte, Nat.reduceEqDiff, Nat.reduceLT, reduceCtorEq, Nat.reduceAdd, Nat.reduceLeDiff, Nat.reduceBEq, Nat.reduceBNe, Int.reduceNeg, Int.reduceToNat, Int.reduceBEq, Int.reduceBNe, rx, ro]) (by simp only [go_sem, ↓reduceIte, Nat.reduceEqDiff, Nat.reduceLT, reduceCtorEq, Nat.reduceAdd, Nat.reduceLeDiff, Nat.reduceBEq, Nat.reduceBNe, Int.reduceNeg, Int.reduceToNat, Int.reduceBEq, Int.reduceBNe, rx, ro]; rfl) rfl
end
theorem rd_all (f : Fld) (b r : List UInt8) (a : Nat) (hn : inI f.n) (hx : 0 ≤ f.x ∧ f.x < 18446744073709551616) (hs : f.s.length ≤ 200) (ha : a ≤ b.length) (hb : b.length < 1000000000) : Rd f b r a := by
  obtain ⟨d, n, x, s⟩ := f
  by_cases h0 : d = 0
  · subst h0; exact rd_0 n x s b r a hn hx hs ha hb
  by_cases h1 : d = 1
  · subst h1; exact rd_1 n x s b r a hn hx hs ha hb
  by_cases h2 : d = 2
  · subst h2; exact rd_2 n x s b r a hn hx hs ha hb
  by_cases h3 : d = 3
  · subst h3; exact rd_3 n x s b r a hn hx hs ha hb
  by_cases h4 : d = 4
  · subst h4; exact rd_4 n x s b r a hn hx hs ha hb
  by_cases h5 : d = 5
  · subst h5; exact rd_5 n x s b r a hn hx hs ha hb
  by_cases h6 : d = 6
  · subst h6; exact rd_6 n x s b r a hn hx hs ha hb
  by_cases h7 : d = 7
  · subst h7; exact rd_7 n x s b r a hn hx hs ha hb
  exact rd_e n x s b r a hn hx hs ha hb d h0 h1 h2 h3 h4 h5 h6 h7
end Go.Proofs.YtkejmhpodhbeeaaDoor
set_option linter.unusedSimpArgs false
set_option maxRecDepth 100000
set_option maxHeartbeats 4000000
set_option linter.unusedVariables false
namespace Go.Proofs.YtkejmhpodhbeeaaDoor
open Go Go.Mw
-- @U: rx, ro, wx, wo, wa, slv_none, slv_some

def encs (L : List Fld) : List UInt8 := L.flatMap encF
theorem take_next {L : List Fld} {i : Nat} (h : i < L.length) : L.take (i + 1) = L.take i ++ [nth L i] := by rw [List.take_add_one, nth_some h, Option.toList_some]
theorem encs_next {L : List Fld} {i : Nat} (h : i < L.length) : encs (L.take (i + 1)) = encs (L.take i) ++ encF (nth L i) := by rw [take_next h]; simp [encs]
theorem encs_drop {L : List Fld} {i : Nat} (h : i < L.length) : (encs L).drop (encs (L.take i)).length = encF (nth L i) ++ encs (L.drop (i + 1)) := by
  have e : encs L = encs (L.take i) ++ encs (L.drop i) := by
    conv => lhs; rw [← List.take_append_drop i L]
    simp only [encs, List.flatMap_append]
  rw [e, List.drop_left, List.drop_eq_getElem_cons h, ← nth_eq h]
  rfl
theorem encs_le (L : List Fld) (i : Nat) : (encs (L.take i)).length ≤ (encs L).length := by
  have e : encs L = encs (L.take i) ++ encs (L.drop i) := by
    conv => lhs; rw [← List.take_append_drop i L]
    simp only [encs, List.flatMap_append]
  rw [e]
  simp
theorem w_back (L : List Fld) (hL : ∀ f ∈ L, inI f.n ∧ 0 ≤ f.x ∧ f.x < 18446744073709551616) : PCalls Tryd.prog n_law02_OctetBack [.sl 4 (L.map fld_)] (.bool true) := by
  refine pfun_sound (ic := F_law02_OctetBack.body) mixed c_law02_OctetBack rfl rfl ?_
  obtain ⟨q, hq, hc⟩ := w_short L
  simp only [go_sem, ↓reduceIte, Nat.reduceEqDiff, Nat.reduceLT, reduceCtorEq, Nat.reduceAdd, Nat.reduceLeDiff, Nat.reduceBEq, Nat.reduceBNe, Int.reduceNeg, Int.reduceToNat, Int.reduceBEq, Int.reduceBNe, rx, ro, wx, wo, wa, F_law02_OctetBack]
  refine call_same (hc) (by simp [go_sem, rx, ro, wx, wo, wa]) ?_
  cases q
  · simp only [go_sem, ↓reduceIte, Nat.reduceEqDiff, Nat.reduceLT, reduceCtorEq, Nat.reduceAdd, Nat.reduceLeDiff, Nat.reduceBEq, Nat.reduceBNe, Int.reduceNeg, Int.reduceToNat, Int.reduceBEq, Int.reduceBNe, rx, ro, wx, wo, wa]
    refine call_same (s_alive) (by simp [go_sem, rx, ro, wx, wo, wa]) ?_
    simp only [go_sem, ↓reduceIte, Nat.reduceEqDiff, Nat.reduceLT, reduceCtorEq, Nat.reduceAdd, Nat.reduceLeDiff, Nat.reduceBEq, Nat.reduceBNe, Int.reduceNeg, Int.reduceToNat, Int.reduceBEq, Int.reduceBNe, rx, ro, wx, wo, wa]
    exact pdone [] (by simp only [go_sem, ↓reduceIte, Nat.reduceEqDiff, Nat.reduceLT, reduceCtorEq, Nat.reduceAdd, Nat.reduceLeDiff, Nat.reduceBEq, Nat.reduceBNe, Int.reduceNeg, Int.reduceToNat, Int.reduceBEq, Int.reduceBNe, rx, ro, wx, wo, wa]) (by first | rfl | simp [go_sem, slv_ids, rx, ro, wx, wo, wa])
  obtain ⟨h25, h200⟩ := hq rfl
  simp only [go_sem, ↓reduceIte, Nat.reduceEqDiff, Nat.reduceLT, reduceCtorEq, Nat.reduceAdd, Nat.reduceLeDiff, Nat.reduceBEq, Nat.reduceBNe, Int.reduceNeg, Int.reduceToNat, Int.reduceBEq, Int.reduceBNe, rx, ro, wx, wo, wa]
  refine call_wnew 902 903 (by decide) (by decide) (by decide) (by simp only [go_sem, ↓reduceIte, Nat.reduceEqDiff, Nat.reduceLT, reduceCtorEq, Nat.reduceAdd, Nat.reduceLeDiff, Nat.reduceBEq, Nat.reduceBNe, Int.reduceNeg, Int.reduceToNat, Int.reduceBEq, Int.reduceBNe, rx, ro, wx, wo, wa]) (by simp only [go_sem, ↓reduceIte, Nat.reduceEqDiff, Nat.reduceLT, reduceCtorEq, Nat.reduceAdd, Nat.reduceLeDiff, Nat.reduceBEq, Nat.reduceBNe, Int.reduceNeg, Int.reduceToNat, Int.reduceBEq, Int.reduceBNe, rx, ro, wx, wo, wa]) ?_
  simp only [go_sem, ↓reduceIte, Nat.reduceEqDiff, Nat.reduceLT, reduceCtorEq, Nat.reduceAdd, Nat.reduceLeDiff, Nat.reduceBEq, Nat.reduceBNe, Int.reduceNeg, Int.reduceToNat, Int.reduceBEq, Int.reduceBNe, rx, ro, wx, wo, wa]
  refine loop_rule (fun q : Nat × List UInt8 × Int => ⟨[(4, .int .i64 q.1), (3, .mp 902 3 0 0), (0, .sl 4 (L.map fld_))], [(902, wo 903 true q.2.1 q.2.2), (903, wa q.2.1)]⟩)
    (fun q => q.1 ≤ L.length ∧ q.2.1.length ≤ q.1 * 300 ∧ (q.2.2 = 0 → q.2.1 = encs (L.take q.1) ∧ ∀ f ∈ L.take q.1, okF f)) (fun q => L.length - q.1) (0, [], 0) ⟨Nat.zero_le _, Nat.zero_le _, fun _ => ⟨rfl, fun f hf => by cases hf⟩⟩ (Wk.of ?_ ?_) ?_
  · simp only [go_sem, ↓reduceIte, Nat.reduceEqDiff, Nat.reduceLT, reduceCtorEq, Nat.reduceAdd, Nat.reduceLeDiff, Nat.reduceBEq, Nat.reduceBNe, Int.reduceNeg, Int.reduceToNat, Int.reduceBEq, Int.reduceBNe, rx, ro, wx, wo, wa] <;> simp
  · simp only [go_sem, ↓reduceIte, Nat.reduceEqDiff, Nat.reduceLT, reduceCtorEq, Nat.reduceAdd, Nat.reduceLeDiff, Nat.reduceBEq, Nat.reduceBNe, Int.reduceNeg, Int.reduceToNat, Int.reduceBEq, Int.reduceBNe, rx, ro, wx, wo, wa] <;> simp
  rintro ⟨i, l, e⟩ ⟨hi, hl, hinv⟩
  replace hi : i ≤ L.length := hi
  replace hl : l.length ≤ i * 300 := hl
  replace hinv : e = 0 → l = encs (L.take i) ∧ ∀ f ∈ L.take i, okF f := hinv
  rcases Nat.lt_or_ge i L.length with hlt | hge
  · have d3 : decide ((i : Int) < (L.length : Int)) = true := decide_eq_true (by omega)
    have e8 := wi (n := (i : Int) + 1) (by omega) (by omega)
    have hm : nth L i ∈ L := by rw [nth_eq hlt]; exact List.getElem_mem hlt
    have hx := (hL _ hm).1
    have hs := h200 _ hm
    have hw := wr_all true l e [] 0 (nth L i) hx (by omega) (by simp) (by omega)
    have hlen := wrS_len (e == 0) l e (nth L i) hx hs
    have hinv' : (wrS (e == 0) l e (nth L i)).2 = 0 → (wrS (e == 0) l e (nth L i)).1 = encs (L.take (i + 1)) ∧ ∀ f ∈ L.take (i + 1), okF f := fun h0 => by
      by_cases he : e = 0
      · subst he
        obtain ⟨h1, h2⟩ := hinv rfl
        obtain ⟨h3, h4⟩ := wrS_true l (nth L i) h0
        have h3' : wrS ((0 : Int) == 0) l 0 (nth L i) = (l ++ encF (nth L i), 0) := h3
        rw [h3', encs_next hlt, ← h1]
        refine ⟨rfl, fun f hf => ?_⟩
        rw [take_next hlt, List.mem_append, List.mem_singleton] at hf
        rcases hf with hf | rfl
        · exact h2 f hf
        · exact h4
      · rw [beq_f he, wrS_false] at h0
        exact absurd h0 he
    unfold Wr at hw
    rw [Bool.true_and] at hw
    generalize hp : wrS (e == 0) l e (nth L i) = p at *
    obtain ⟨l', e'⟩ := p
    replace hlen : l'.length ≤ l.length + 300 := hlen
    simp only [go_sem, ↓reduceIte, Nat.reduceEqDiff, Nat.reduceLT, reduceCtorEq, Nat.reduceAdd, Nat.reduceLeDiff, Nat.reduceBEq, Nat.reduceBNe, Int.reduceNeg, Int.reduceToNat, Int.reduceBEq, Int.reduceBNe, rx, ro, wx, wo, wa, d3]
    refine ⟨by omega, by omega, ?_⟩
    refine call_nl [.mp 902 3 0 0, wx [] 0, .agg [.int .i64 (nth L i).d, .int .i64 (nth L i).n, .int .u64 (nth L i).x, .str (nth L i).s]] ⟨.inl rfl, .inr (.inr ⟨_, _, rfl, rfl, .inr ⟨rfl, 1, rfl⟩, .inl rfl, trivial⟩), .inl rfl, trivial⟩ ?_
    refine call_w [] (k := 902) (j := 903) (hw) (by decide) (by decide) (by decide) (by decide) (by first | rfl | simp [go_sem, slv_ids, rx, ro, wx, wo, wa]) (by simp [go_sem, rx, ro, wx, wo, wa]) (by rfl) (by rfl) (by rfl) ?_
    simp only [go_sem, ↓reduceIte, Nat.reduceEqDiff, Nat.reduceLT, reduceCtorEq, Nat.reduceAdd, Nat.reduceLeDiff, Nat.reduceBEq, Nat.reduceBNe, Int.reduceNeg, Int.reduceToNat, Int.reduceBEq, Int.reduceBNe, rx, ro, wx, wo, wa]
    refine klp_n (i + 1, l', e') ⟨show i + 1 ≤ L.length by omega, by show l'.length ≤ (i + 1) * 300; omega, hinv'⟩ (show L.length - (i + 1) < L.length - i by omega) (Wk.of ?_ ?_)
    · simp only [go_sem, ↓reduceIte, Nat.reduceEqDiff, Nat.reduceLT, reduceCtorEq, Nat.reduceAdd, Nat.reduceLeDiff, Nat.reduceBEq, Nat.reduceBNe, Int.reduceNeg, Int.reduceToNat, Int.reduceBEq, Int.reduceBNe, rx, ro, wx, wo, wa, e8] <;> simp
    · simp only [go_sem, ↓reduceIte, Nat.reduceEqDiff, Nat.reduceLT, reduceCtorEq, Nat.reduceAdd, Nat.reduceLeDiff, Nat.reduceBEq, Nat.reduceBNe, Int.reduceNeg, Int.reduceToNat, Int.reduceBEq, Int.reduceBNe, rx, ro, wx, wo, wa]
  obtain rfl : i = L.length := by omega
  rw [List.take_length] at hinv
  have d3 : decide ((L.length : Int) < (L.length : Int)) = false := decide_eq_false (by omega)
  have hd := s_wdone true l e (by omega)
  simp only [go_sem, ↓reduceIte, Nat.reduceEqDiff, Nat.reduceLT, reduceCtorEq, Nat.reduceAdd, Nat.reduceLeDiff, Nat.reduceBEq, Nat.reduceBNe, Int.reduceNeg, Int.reduceToNat, Int.reduceBEq, Int.reduceBNe, rx, ro, wx, wo, wa, d3]
  by_cases he : e = 0
  · subst he
    obtain ⟨h1, h2⟩ := hinv rfl
    have r : wD true l 0 = (some l, 0) := rfl
    rw [r] at hd
    have hb : l.length < 1000000000 := by omega
    refine call_w [] (k := 902) (j := 903) (hd) (by decide) (by decide) (by decide) (by decide) (by first | rfl | simp [go_sem, slv_ids, rx, ro, wx, wo, wa]) (by simp [go_sem, rx, ro, wx, wo, wa]) (by rfl) (by rfl) (by rfl) ?_
    simp only [go_sem, ↓reduceIte, Nat.reduceEqDiff, Nat.reduceLT, reduceCtorEq, Nat.reduceAdd, Nat.reduceLeDiff, Nat.reduceBEq, Nat.reduceBNe, Int.reduceNeg, Int.reduceToNat, Int.reduceBEq, Int.reduceBNe, rx, ro, wx, wo, wa]
    refine call_nrec (s_read l hb) rfl (by simp [go_sem]) 901 (by decide) (by simp only [go_sem, ↓reduceIte, Nat.reduceEqDiff, Nat.reduceLT, reduceCtorEq, Nat.reduceAdd, Nat.reduceLeDiff, Nat.reduceBEq, Nat.reduceBNe, Int.reduceNeg, Int.reduceToNat, Int.reduceBEq, Int.reduceBNe, rx, ro, wx, wo, wa]) ?_
    simp only [go_sem, ↓reduceIte, Nat.reduceEqDiff, Nat.reduceLT, reduceCtorEq, Nat.reduceAdd, Nat.reduceLeDiff, Nat.reduceBEq, Nat.reduceBNe, Int.reduceNeg, Int.reduceToNat, Int.reduceBEq, Int.reduceBNe, rx, ro, wx, wo, wa]
    refine loop_rule (fun i : Nat => ⟨[(8, .int .i64 i), (7, .mp 901 4 0 0), (5, .sl 1 (l.map by_)), (0, .sl 4 (L.map fld_))], [(901, ro true l ((encs (L.take i)).length : Nat) 0)]⟩)
      (fun i => i ≤ L.length) (fun i => L.length - i) 0 (Nat.zero_le _) (Wk.of ?_ ?_) ?_
    · simp only [go_sem, ↓reduceIte, Nat.reduceEqDiff, Nat.reduceLT, reduceCtorEq, Nat.reduceAdd, Nat.reduceLeDiff, Nat.reduceBEq, Nat.reduceBNe, Int.reduceNeg, Int.reduceToNat, Int.reduceBEq, Int.reduceBNe, rx, ro, wx, wo, wa] <;> simp
    · simp only [go_sem, ↓reduceIte, Nat.reduceEqDiff, Nat.reduceLT, reduceCtorEq, Nat.reduceAdd, Nat.reduceLeDiff, Nat.reduceBEq, Nat.reduceBNe, Int.reduceNeg, Int.reduceToNat, Int.reduceBEq, Int.reduceBNe, rx, ro, wx, wo, wa] <;> simp [encs]
    clear hi hge hl hinv d3
    rintro i hi
    have hle := encs_le L i
    rw [← h1] at hle
    rcases Nat.lt_or_ge i L.length with hlt | hge
    · have d3 : decide ((i : Int) < (L.length : Int)) = true := decide_eq_true (by omega)
      have e8 := wi (n := (i : Int) + 1) (by omega) (by omega)
      have hm : nth L i ∈ L := by rw [nth_eq hlt]; exact List.getElem_mem hlt
      have hr := rd_all (nth L i) l (encs (L.drop (i + 1))) (encs (L.take i)).length (hL _ hm).1 (hL _ hm).2 (h200 _ hm) hle hb (by rw [h1]; exact encs_drop hlt) (h2 _ hm)
      rw [show (encs (L.take i)).length + (encF (nth L i)).length = (encs (L.take (i + 1))).length by rw [encs_next hlt, List.length_append]] at hr
      simp only [go_sem, ↓reduceIte, Nat.reduceEqDiff, Nat.reduceLT, reduceCtorEq, Nat.reduceAdd, Nat.reduceLeDiff, Nat.reduceBEq, Nat.reduceBNe, Int.reduceNeg, Int.reduceToNat, Int.reduceBEq, Int.reduceBNe, rx, ro, wx, wo, wa, d3]
      refine ⟨by omega, by omega, ?_⟩
      refine call_m (hr) ⟨by decide, by decide⟩ (by first | rfl | exact slv_ids _) (by simp [go_sem, rx, ro, wx, wo, wa]) rfl rfl (by rfl) ?_
      simp only [go_sem, ↓reduceIte, Nat.reduceEqDiff, Nat.reduceLT, reduceCtorEq, Nat.reduceAdd, Nat.reduceLeDiff, Nat.reduceBEq, Nat.reduceBNe, Int.reduceNeg, Int.reduceToNat, Int.reduceBEq, Int.reduceBNe, rx, ro, wx, wo, wa]
      refine call_m (s_err true l (((encs (L.take (i + 1))).length : Nat) : Int) 0) ⟨by decide, by decide⟩ (by first | rfl | exact slv_ids _) (by simp [go_sem, rx, ro, wx, wo, wa]) rfl rfl (by rfl) ?_
      simp only [go_sem, ↓reduceIte, Nat.reduceEqDiff, Nat.reduceLT, reduceCtorEq, Nat.reduceAdd, Nat.reduceLeDiff, Nat.reduceBEq, Nat.reduceBNe, Int.reduceNeg, Int.reduceToNat, Int.reduceBEq, Int.reduceBNe, rx, ro, wx, wo, wa]
      refine klp_n (i + 1) (show i + 1 ≤ L.length by omega) (show L.length - (i + 1) < L.length - i by omega) (Wk.of ?_ ?_)
      · simp only [go_sem, ↓reduceIte, Nat.reduceEqDiff, Nat.reduceLT, reduceCtorEq, Nat.reduceAdd, Nat.reduceLeDiff, Nat.reduceBEq, Nat.reduceBNe, Int.reduceNeg, Int.reduceToNat, Int.reduceBEq, Int.reduceBNe, rx, ro, wx, wo, wa, e8] <;> simp
      · simp only [go_sem, ↓reduceIte, Nat.reduceEqDiff, Nat.reduceLT, reduceCtorEq, Nat.reduceAdd, Nat.reduceLeDiff, Nat.reduceBEq, Nat.reduceBNe, Int.reduceNeg, Int.reduceToNat, Int.reduceBEq, Int.reduceBNe, rx, ro, wx, wo, wa]
    obtain rfl : i = L.length := by omega
    have d3 : decide ((L.length : Int) < (L.length : Int)) = false := decide_eq_false (by omega)
    rw [List.take_length, ← h1]
    have r2 : rEnd true l l.length 0 = 0 := by simp [rEnd]
    have n1 : ((l.length : Int) == (l.length : Int)) = true := by simp
    simp only [go_sem, ↓reduceIte, Nat.reduceEqDiff, Nat.reduceLT, reduceCtorEq, Nat.reduceAdd, Nat.reduceLeDiff, Nat.reduceBEq, Nat.reduceBNe, Int.reduceNeg, Int.reduceToNat, Int.reduceBEq, Int.reduceBNe, rx, ro, wx, wo, wa, d3]
    refine call_m (s_end true l l.length 0) ⟨by decide, by decide⟩ (by first | rfl | exact slv_ids _) (by simp [go_sem, rx, ro, wx, wo, wa]) rfl rfl (by rfl) ?_
    simp only [go_sem, ↓reduceIte, Nat.reduceEqDiff, Nat.reduceLT, reduceCtorEq, Nat.reduceAdd, Nat.reduceLeDiff, Nat.reduceBEq, Nat.reduceBNe, Int.reduceNeg, Int.reduceToNat, Int.reduceBEq, Int.reduceBNe, rx, ro, wx, wo, wa, r2]
    refine call_m (s_at true l l.length 0) ⟨by decide, by decide⟩ (by first | rfl | exact slv_ids _) (by simp [go_sem, rx, ro, wx, wo, wa]) rfl rfl (by rfl) ?_
    simp only [go_sem, ↓reduceIte, Nat.reduceEqDiff, Nat.reduceLT, reduceCtorEq, Nat.reduceAdd, Nat.reduceLeDiff, Nat.reduceBEq, Nat.reduceBNe, Int.reduceNeg, Int.reduceToNat, Int.reduceBEq, Int.reduceBNe, rx, ro, wx, wo, wa, n1]
    refine call_same (s_alive) (by simp [go_sem, rx, ro, wx, wo, wa]) ?_
    simp only [go_sem, ↓reduceIte, Nat.reduceEqDiff, Nat.reduceLT, reduceCtorEq, Nat.reduceAdd, Nat.reduceLeDiff, Nat.reduceBEq, Nat.reduceBNe, Int.reduceNeg, Int.reduceToNat, Int.reduceBEq, Int.reduceBNe, rx, ro, wx, wo, wa]
    exact pdone [] (by simp only [go_sem, ↓reduceIte, Nat.reduceEqDiff, Nat.reduceLT, reduceCtorEq, Nat.reduceAdd, Nat.reduceLeDiff, Nat.reduceBEq, Nat.reduceBNe, Int.reduceNeg, Int.reduceToNat, Int.reduceBEq, Int.reduceBNe, rx, ro, wx, wo, wa]) (by first | rfl | simp [go_sem, slv_ids, rx, ro, wx, wo, wa])
  · have r : wD true l e = (none, e) := by simp [wD, he]
    rw [r] at hd
    refine call_w [] (k := 902) (j := 903) (hd) (by decide) (by decide) (by decide) (by decide) (by first | rfl | simp [go_sem, slv_ids, rx, ro, wx, wo, wa]) (by simp [go_sem, rx, ro, wx, wo, wa]) (by rfl) (by rfl) (by rfl) ?_
    simp only [go_sem, ↓reduceIte, Nat.reduceEqDiff, Nat.reduceLT, reduceCtorEq, Nat.reduceAdd, Nat.reduceLeDiff, Nat.reduceBEq, Nat.reduceBNe, Int.reduceNeg, Int.reduceToNat, Int.reduceBEq, Int.reduceBNe, rx, ro, wx, wo, wa, bne_t he]
    refine call_same (s_alive) (by simp [go_sem, rx, ro, wx, wo, wa]) ?_
    simp only [go_sem, ↓reduceIte, Nat.reduceEqDiff, Nat.reduceLT, reduceCtorEq, Nat.reduceAdd, Nat.reduceLeDiff, Nat.reduceBEq, Nat.reduceBNe, Int.reduceNeg, Int.reduceToNat, Int.reduceBEq, Int.reduceBNe, rx, ro, wx, wo, wa]
    exact pdone [] (by simp only [go_sem, ↓reduceIte, Nat.reduceEqDiff, Nat.reduceLT, reduceCtorEq, Nat.reduceAdd, Nat.reduceLeDiff, Nat.reduceBEq, Nat.reduceBNe, Int.reduceNeg, Int.reduceToNat, Int.reduceBEq, Int.reduceBNe, rx, ro, wx, wo, wa]) (by first | rfl | simp [go_sem, slv_ids, rx, ro, wx, wo, wa])
end Go.Proofs.YtkejmhpodhbeeaaDoor
set_option linter.unusedSimpArgs false
set_option maxRecDepth 100000
set_option maxHeartbeats 4000000
set_option linter.unusedVariables false
set_option linter.unusedSectionVars false
namespace Go.Proofs.YtkejmhpodhbeeaaDoor
open Go Go.Mw
-- @U: wx, wo, wa, slv_none, slv_some

theorem s_err_np : PCalls Tryd.prog n_Poctet_Reader_Err [.np] (.int .i64 2) := by
  refine pfun_sound (ic := F_Poctet_Reader_Err.body) mixed c_Poctet_Reader_Err rfl rfl ?_
  simp only [go_sem, ↓reduceIte, Nat.reduceEqDiff, Nat.reduceLT, reduceCtorEq, Nat.reduceAdd, Nat.reduceLeDiff, Nat.reduceBEq, Nat.reduceBNe, Int.reduceNeg, Int.reduceToNat, Int.reduceBEq, Int.reduceBNe, wx, wo, wa, F_Poctet_Reader_Err]
  exact pdone [] (by simp only [go_sem, ↓reduceIte, Nat.reduceEqDiff, Nat.reduceLT, reduceCtorEq, Nat.reduceAdd, Nat.reduceLeDiff, Nat.reduceBEq, Nat.reduceBNe, Int.reduceNeg, Int.reduceToNat, Int.reduceBEq, Int.reduceBNe, wx, wo, wa]) (by first | rfl | simp [go_sem, slv_ids, wx, wo, wa])
theorem s_at_np : PCalls Tryd.prog n_Poctet_Reader_At [.np] (.int .i64 0) := by
  refine pfun_sound (ic := F_Poctet_Reader_At.body) mixed c_Poctet_Reader_At rfl rfl ?_
  simp only [go_sem, ↓reduceIte, Nat.reduceEqDiff, Nat.reduceLT, reduceCtorEq, Nat.reduceAdd, Nat.reduceLeDiff, Nat.reduceBEq, Nat.reduceBNe, Int.reduceNeg, Int.reduceToNat, Int.reduceBEq, Int.reduceBNe, wx, wo, wa, F_Poctet_Reader_At]
  exact pdone [] (by simp only [go_sem, ↓reduceIte, Nat.reduceEqDiff, Nat.reduceLT, reduceCtorEq, Nat.reduceAdd, Nat.reduceLeDiff, Nat.reduceBEq, Nat.reduceBNe, Int.reduceNeg, Int.reduceToNat, Int.reduceBEq, Int.reduceBNe, wx, wo, wa]) (by first | rfl | simp [go_sem, slv_ids, wx, wo, wa])
theorem s_left_np : PCalls Tryd.prog n_Poctet_Reader_Left [.np] (.int .i64 0) := by
  refine pfun_sound (ic := F_Poctet_Reader_Left.body) mixed c_Poctet_Reader_Left rfl rfl ?_
  simp only [go_sem, ↓reduceIte, Nat.reduceEqDiff, Nat.reduceLT, reduceCtorEq, Nat.reduceAdd, Nat.reduceLeDiff, Nat.reduceBEq, Nat.reduceBNe, Int.reduceNeg, Int.reduceToNat, Int.reduceBEq, Int.reduceBNe, wx, wo, wa, F_Poctet_Reader_Left]
  refine call_same (s_sound_np) (by simp [go_sem, wx, wo, wa]) ?_
  simp only [go_sem, ↓reduceIte, Nat.reduceEqDiff, Nat.reduceLT, reduceCtorEq, Nat.reduceAdd, Nat.reduceLeDiff, Nat.reduceBEq, Nat.reduceBNe, Int.reduceNeg, Int.reduceToNat, Int.reduceBEq, Int.reduceBNe, wx, wo, wa]
  exact pdone [] (by simp only [go_sem, ↓reduceIte, Nat.reduceEqDiff, Nat.reduceLT, reduceCtorEq, Nat.reduceAdd, Nat.reduceLeDiff, Nat.reduceBEq, Nat.reduceBNe, Int.reduceNeg, Int.reduceToNat, Int.reduceBEq, Int.reduceBNe, wx, wo, wa]) (by first | rfl | simp [go_sem, slv_ids, wx, wo, wa])
theorem s_end_np : PCalls Tryd.prog n_Poctet_Reader_End [.np] (.int .i64 2) := by
  refine pfun_sound (ic := F_Poctet_Reader_End.body) mixed c_Poctet_Reader_End rfl rfl ?_
  simp only [go_sem, ↓reduceIte, Nat.reduceEqDiff, Nat.reduceLT, reduceCtorEq, Nat.reduceAdd, Nat.reduceLeDiff, Nat.reduceBEq, Nat.reduceBNe, Int.reduceNeg, Int.reduceToNat, Int.reduceBEq, Int.reduceBNe, wx, wo, wa, F_Poctet_Reader_End]
  refine call_same (s_err_np) (by simp [go_sem, wx, wo, wa]) ?_
  simp only [go_sem, ↓reduceIte, Nat.reduceEqDiff, Nat.reduceLT, reduceCtorEq, Nat.reduceAdd, Nat.reduceLeDiff, Nat.reduceBEq, Nat.reduceBNe, Int.reduceNeg, Int.reduceToNat, Int.reduceBEq, Int.reduceBNe, wx, wo, wa]
  exact pdone [] (by simp only [go_sem, ↓reduceIte, Nat.reduceEqDiff, Nat.reduceLT, reduceCtorEq, Nat.reduceAdd, Nat.reduceLeDiff, Nat.reduceBEq, Nat.reduceBNe, Int.reduceNeg, Int.reduceToNat, Int.reduceBEq, Int.reduceBNe, wx, wo, wa]) (by first | rfl | simp [go_sem, slv_ids, wx, wo, wa])
theorem s_byte_np : PCalls Tryd.prog n_Poctet_Reader_Byte [.np] (.int .u8 0) := by
  refine pfun_sound (ic := F_Poctet_Reader_Byte.body) mixed c_Poctet_Reader_Byte rfl rfl ?_
  simp only [go_sem, ↓reduceIte, Nat.reduceEqDiff, Nat.reduceLT, reduceCtorEq, Nat.reduceAdd, Nat.reduceLeDiff, Nat.reduceBEq, Nat.reduceBNe, Int.reduceNeg, Int.reduceToNat, Int.reduceBEq, Int.reduceBNe, wx, wo, wa, F_Poctet_Reader_Byte]
  refine call_same (s_take_np 1) (by simp [go_sem, wx, wo, wa]) ?_
  simp only [go_sem, ↓reduceIte, Nat.reduceEqDiff, Nat.reduceLT, reduceCtorEq, Nat.reduceAdd, Nat.reduceLeDiff, Nat.reduceBEq, Nat.reduceBNe, Int.reduceNeg, Int.reduceToNat, Int.reduceBEq, Int.reduceBNe, wx, wo, wa]
  exact pdone [] (by simp only [go_sem, ↓reduceIte, Nat.reduceEqDiff, Nat.reduceLT, reduceCtorEq, Nat.reduceAdd, Nat.reduceLeDiff, Nat.reduceBEq, Nat.reduceBNe, Int.reduceNeg, Int.reduceToNat, Int.reduceBEq, Int.reduceBNe, wx, wo, wa]) (by first | rfl | simp [go_sem, slv_ids, wx, wo, wa])
theorem n_wfail (x : Int) : PCalls Tryd.prog n_Poctet_Writer_Fail [.np, .int .i64 x] (.tup []) := by
  refine pfun_sound (ic := F_Poctet_Writer_Fail.body) mixed c_Poctet_Writer_Fail rfl rfl ?_
  simp only [go_sem, ↓reduceIte, Nat.reduceEqDiff, Nat.reduceLT, reduceCtorEq, Nat.reduceAdd, Nat.reduceLeDiff, Nat.reduceBEq, Nat.reduceBNe, Int.reduceNeg, Int.reduceToNat, Int.reduceBEq, Int.reduceBNe, wx, wo, wa, F_Poctet_Writer_Fail]
  refine call_same (s_wsound_np) (by simp [go_sem, wx, wo, wa]) ?_
  simp only [go_sem, ↓reduceIte, Nat.reduceEqDiff, Nat.reduceLT, reduceCtorEq, Nat.reduceAdd, Nat.reduceLeDiff, Nat.reduceBEq, Nat.reduceBNe, Int.reduceNeg, Int.reduceToNat, Int.reduceBEq, Int.reduceBNe, wx, wo, wa]
  exact pdone_n [] (by simp only [go_sem, ↓reduceIte, Nat.reduceEqDiff, Nat.reduceLT, reduceCtorEq, Nat.reduceAdd, Nat.reduceLeDiff, Nat.reduceBEq, Nat.reduceBNe, Int.reduceNeg, Int.reduceToNat, Int.reduceBEq, Int.reduceBNe, wx, wo, wa]) rfl
theorem n_wbytes (x : List UInt8) : PCalls Tryd.prog n_Poctet_Writer_Bytes [.np, .sl 1 (x.map by_)] (.tup []) := by
  refine pfun_sound (ic := F_Poctet_Writer_Bytes.body) mixed c_Poctet_Writer_Bytes rfl rfl ?_
  simp only [go_sem, ↓reduceIte, Nat.reduceEqDiff, Nat.reduceLT, reduceCtorEq, Nat.reduceAdd, Nat.reduceLeDiff, Nat.reduceBEq, Nat.reduceBNe, Int.reduceNeg, Int.reduceToNat, Int.reduceBEq, Int.reduceBNe, wx, wo, wa, F_Poctet_Writer_Bytes]
  refine call_same (s_wsound_np) (by simp [go_sem, wx, wo, wa]) ?_
  simp only [go_sem, ↓reduceIte, Nat.reduceEqDiff, Nat.reduceLT, reduceCtorEq, Nat.reduceAdd, Nat.reduceLeDiff, Nat.reduceBEq, Nat.reduceBNe, Int.reduceNeg, Int.reduceToNat, Int.reduceBEq, Int.reduceBNe, wx, wo, wa]
  exact pdone_n [] (by simp only [go_sem, ↓reduceIte, Nat.reduceEqDiff, Nat.reduceLT, reduceCtorEq, Nat.reduceAdd, Nat.reduceLeDiff, Nat.reduceBEq, Nat.reduceBNe, Int.reduceNeg, Int.reduceToNat, Int.reduceBEq, Int.reduceBNe, wx, wo, wa]) rfl
theorem n_wbyte (x : UInt8) : PCalls Tryd.prog n_Poctet_Writer_Byte [.np, .int .u8 x.toNat] (.tup []) := by
  refine pfun_sound (ic := F_Poctet_Writer_Byte.body) mixed c_Poctet_Writer_Byte rfl rfl ?_
  simp only [go_sem, ↓reduceIte, Nat.reduceEqDiff, Nat.reduceLT, reduceCtorEq, Nat.reduceAdd, Nat.reduceLeDiff, Nat.reduceBEq, Nat.reduceBNe, Int.reduceNeg, Int.reduceToNat, Int.reduceBEq, Int.reduceBNe, wx, wo, wa, F_Poctet_Writer_Byte]
  refine call_frz [6] ?_ (n_wbytes [x]) (by simp [go_sem]) ?_
  · simp only [go_sem, ↓reduceIte, Nat.reduceEqDiff, Nat.reduceLT, reduceCtorEq, Nat.reduceAdd, Nat.reduceLeDiff, Nat.reduceBEq, Nat.reduceBNe, Int.reduceNeg, Int.reduceToNat, Int.reduceBEq, Int.reduceBNe, wx, wo, wa, Nat.le_refl, List.length_cons, List.length_nil]
  simp only [go_sem, ↓reduceIte, Nat.reduceEqDiff, Nat.reduceLT, reduceCtorEq, Nat.reduceAdd, Nat.reduceLeDiff, Nat.reduceBEq, Nat.reduceBNe, Int.reduceNeg, Int.reduceToNat, Int.reduceBEq, Int.reduceBNe, wx, wo, wa]
  exact pdone_n [] (by simp only [go_sem, ↓reduceIte, Nat.reduceEqDiff, Nat.reduceLT, reduceCtorEq, Nat.reduceAdd, Nat.reduceLeDiff, Nat.reduceBEq, Nat.reduceBNe, Int.reduceNeg, Int.reduceToNat, Int.reduceBEq, Int.reduceBNe, wx, wo, wa]) rfl
theorem n_wU32 (n : Int) : PCalls Tryd.prog n_Poctet_Writer_U32 [.np, .int .i64 n] (.tup []) := by
  refine pfun_sound (ic := F_Poctet_Writer_U32.body) mixed c_Poctet_Writer_U32 rfl rfl ?_
  by_cases h1 : n < 0
  · simp only [go_sem, ↓reduceIte, Nat.reduceEqDiff, Nat.reduceLT, reduceCtorEq, Nat.reduceAdd, Nat.reduceLeDiff, Nat.reduceBEq, Nat.reduceBNe, Int.reduceNeg, Int.reduceToNat, Int.reduceBEq, Int.reduceBNe, wx, wo, wa, F_Poctet_Writer_U32, decide_eq_true h1]
    refine call_same (n_wfail 1) (by simp [go_sem, wx, wo, wa]) ?_
    simp only [go_sem, ↓reduceIte, Nat.reduceEqDiff, Nat.reduceLT, reduceCtorEq, Nat.reduceAdd, Nat.reduceLeDiff, Nat.reduceBEq, Nat.reduceBNe, Int.reduceNeg, Int.reduceToNat, Int.reduceBEq, Int.reduceBNe, wx, wo, wa]
    exact pdone [] (by simp only [go_sem, ↓reduceIte, Nat.reduceEqDiff, Nat.reduceLT, reduceCtorEq, Nat.reduceAdd, Nat.reduceLeDiff, Nat.reduceBEq, Nat.reduceBNe, Int.reduceNeg, Int.reduceToNat, Int.reduceBEq, Int.reduceBNe, wx, wo, wa]) (by first | rfl | simp [go_sem, slv_ids, wx, wo, wa])
  · by_cases h2 : n > 4294967295
    · simp only [go_sem, ↓reduceIte, Nat.reduceEqDiff, Nat.reduceLT, reduceCtorEq, Nat.reduceAdd, Nat.reduceLeDiff, Nat.reduceBEq, Nat.reduceBNe, Int.reduceNeg, Int.reduceToNat, Int.reduceBEq, Int.reduceBNe, wx, wo, wa, F_Poctet_Writer_U32, decide_eq_false h1, decide_eq_true h2]
      refine call_same (n_wfail 1) (by simp [go_sem, wx, wo, wa]) ?_
      simp only [go_sem, ↓reduceIte, Nat.reduceEqDiff, Nat.reduceLT, reduceCtorEq, Nat.reduceAdd, Nat.reduceLeDiff, Nat.reduceBEq, Nat.reduceBNe, Int.reduceNeg, Int.reduceToNat, Int.reduceBEq, Int.reduceBNe, wx, wo, wa]
      exact pdone [] (by simp only [go_sem, ↓reduceIte, Nat.reduceEqDiff, Nat.reduceLT, reduceCtorEq, Nat.reduceAdd, Nat.reduceLeDiff, Nat.reduceBEq, Nat.reduceBNe, Int.reduceNeg, Int.reduceToNat, Int.reduceBEq, Int.reduceBNe, wx, wo, wa]) (by first | rfl | simp [go_sem, slv_ids, wx, wo, wa])
    · obtain ⟨k, rfl⟩ := Int.eq_ofNat_of_zero_le (show 0 ≤ n by omega)
      have w1 : IntKind.u64.wrap (k : Int) = (k : Int) := by rw [w_u64]; omega
      simp only [go_sem, ↓reduceIte, Nat.reduceEqDiff, Nat.reduceLT, reduceCtorEq, Nat.reduceAdd, Nat.reduceLeDiff, Nat.reduceBEq, Nat.reduceBNe, Int.reduceNeg, Int.reduceToNat, Int.reduceBEq, Int.reduceBNe, wx, wo, wa, F_Poctet_Writer_U32, decide_eq_false h1, decide_eq_false h2, w1]
      refine call_same (s_PutU k (by omega)) (by simp [go_sem, wx, wo, wa]) ?_
      simp only [go_sem, ↓reduceIte, Nat.reduceEqDiff, Nat.reduceLT, reduceCtorEq, Nat.reduceAdd, Nat.reduceLeDiff, Nat.reduceBEq, Nat.reduceBNe, Int.reduceNeg, Int.reduceToNat, Int.reduceBEq, Int.reduceBNe, wx, wo, wa]
      refine call_same (n_wbytes (putU k)) (by simp [go_sem, wx, wo, wa]) ?_
      simp only [go_sem, ↓reduceIte, Nat.reduceEqDiff, Nat.reduceLT, reduceCtorEq, Nat.reduceAdd, Nat.reduceLeDiff, Nat.reduceBEq, Nat.reduceBNe, Int.reduceNeg, Int.reduceToNat, Int.reduceBEq, Int.reduceBNe, wx, wo, wa]
      exact pdone_n [] (by simp only [go_sem, ↓reduceIte, Nat.reduceEqDiff, Nat.reduceLT, reduceCtorEq, Nat.reduceAdd, Nat.reduceLeDiff, Nat.reduceBEq, Nat.reduceBNe, Int.reduceNeg, Int.reduceToNat, Int.reduceBEq, Int.reduceBNe, wx, wo, wa]) rfl
theorem n_wS32 (x : Int) : PCalls Tryd.prog n_Poctet_Writer_S32 [.np, .int .u64 x] (.tup []) := by
  refine pfun_sound (ic := F_Poctet_Writer_S32.body) mixed c_Poctet_Writer_S32 rfl rfl ?_
  have h1 := s32_in x
  simp only [go_sem, ↓reduceIte, Nat.reduceEqDiff, Nat.reduceLT, reduceCtorEq, Nat.reduceAdd, Nat.reduceLeDiff, Nat.reduceBEq, Nat.reduceBNe, Int.reduceNeg, Int.reduceToNat, Int.reduceBEq, Int.reduceBNe, wx, wo, wa, F_Poctet_Writer_S32]
  refine call_same (s_PutS (s32 x) (by omega)) (by simp [go_sem, wx, wo, wa]) ?_
  simp only [go_sem, ↓reduceIte, Nat.reduceEqDiff, Nat.reduceLT, reduceCtorEq, Nat.reduceAdd, Nat.reduceLeDiff, Nat.reduceBEq, Nat.reduceBNe, Int.reduceNeg, Int.reduceToNat, Int.reduceBEq, Int.reduceBNe, wx, wo, wa]
  refine call_same (n_wbytes (putS (s32 x))) (by simp [go_sem, wx, wo, wa]) ?_
  simp only [go_sem, ↓reduceIte, Nat.reduceEqDiff, Nat.reduceLT, reduceCtorEq, Nat.reduceAdd, Nat.reduceLeDiff, Nat.reduceBEq, Nat.reduceBNe, Int.reduceNeg, Int.reduceToNat, Int.reduceBEq, Int.reduceBNe, wx, wo, wa]
  exact pdone_n [] (by simp only [go_sem, ↓reduceIte, Nat.reduceEqDiff, Nat.reduceLT, reduceCtorEq, Nat.reduceAdd, Nat.reduceLeDiff, Nat.reduceBEq, Nat.reduceBNe, Int.reduceNeg, Int.reduceToNat, Int.reduceBEq, Int.reduceBNe, wx, wo, wa]) rfl
theorem n_wS64 (x : Int) : PCalls Tryd.prog n_Poctet_Writer_S64 [.np, .int .u64 x] (.tup []) := by
  refine pfun_sound (ic := F_Poctet_Writer_S64.body) mixed c_Poctet_Writer_S64 rfl rfl ?_
  simp only [go_sem, ↓reduceIte, Nat.reduceEqDiff, Nat.reduceLT, reduceCtorEq, Nat.reduceAdd, Nat.reduceLeDiff, Nat.reduceBEq, Nat.reduceBNe, Int.reduceNeg, Int.reduceToNat, Int.reduceBEq, Int.reduceBNe, wx, wo, wa, F_Poctet_Writer_S64]
  refine call_same (s_PutS (IntKind.i64.wrap x) (i64_in x)) (by simp [go_sem, wx, wo, wa]) ?_
  simp only [go_sem, ↓reduceIte, Nat.reduceEqDiff, Nat.reduceLT, reduceCtorEq, Nat.reduceAdd, Nat.reduceLeDiff, Nat.reduceBEq, Nat.reduceBNe, Int.reduceNeg, Int.reduceToNat, Int.reduceBEq, Int.reduceBNe, wx, wo, wa]
  refine call_same (n_wbytes (putS (IntKind.i64.wrap x))) (by simp [go_sem, wx, wo, wa]) ?_
  simp only [go_sem, ↓reduceIte, Nat.reduceEqDiff, Nat.reduceLT, reduceCtorEq, Nat.reduceAdd, Nat.reduceLeDiff, Nat.reduceBEq, Nat.reduceBNe, Int.reduceNeg, Int.reduceToNat, Int.reduceBEq, Int.reduceBNe, wx, wo, wa]
  exact pdone_n [] (by simp only [go_sem, ↓reduceIte, Nat.reduceEqDiff, Nat.reduceLT, reduceCtorEq, Nat.reduceAdd, Nat.reduceLeDiff, Nat.reduceBEq, Nat.reduceBNe, Int.reduceNeg, Int.reduceToNat, Int.reduceBEq, Int.reduceBNe, wx, wo, wa]) rfl
theorem n_wS33 (x : Int) (hx : inI x) : PCalls Tryd.prog n_Poctet_Writer_S33 [.np, .int .i64 x] (.tup []) := by
  refine pfun_sound (ic := F_Poctet_Writer_S33.body) mixed c_Poctet_Writer_S33 rfl rfl ?_
  by_cases h1 : x < -4294967296
  · simp only [go_sem, ↓reduceIte, Nat.reduceEqDiff, Nat.reduceLT, reduceCtorEq, Nat.reduceAdd, Nat.reduceLeDiff, Nat.reduceBEq, Nat.reduceBNe, Int.reduceNeg, Int.reduceToNat, Int.reduceBEq, Int.reduceBNe, wx, wo, wa, F_Poctet_Writer_S33, decide_eq_true h1]
    refine call_same (n_wfail 1) (by simp [go_sem, wx, wo, wa]) ?_
    simp only [go_sem, ↓reduceIte, Nat.reduceEqDiff, Nat.reduceLT, reduceCtorEq, Nat.reduceAdd, Nat.reduceLeDiff, Nat.reduceBEq, Nat.reduceBNe, Int.reduceNeg, Int.reduceToNat, Int.reduceBEq, Int.reduceBNe, wx, wo, wa]
    exact pdone [] (by simp only [go_sem, ↓reduceIte, Nat.reduceEqDiff, Nat.reduceLT, reduceCtorEq, Nat.reduceAdd, Nat.reduceLeDiff, Nat.reduceBEq, Nat.reduceBNe, Int.reduceNeg, Int.reduceToNat, Int.reduceBEq, Int.reduceBNe, wx, wo, wa]) (by first | rfl | simp [go_sem, slv_ids, wx, wo, wa])
  · by_cases h2 : x > 4294967295
    · simp only [go_sem, ↓reduceIte, Nat.reduceEqDiff, Nat.reduceLT, reduceCtorEq, Nat.reduceAdd, Nat.reduceLeDiff, Nat.reduceBEq, Nat.reduceBNe, Int.reduceNeg, Int.reduceToNat, Int.reduceBEq, Int.reduceBNe, wx, wo, wa, F_Poctet_Writer_S33, decide_eq_false h1, decide_eq_true h2]
      refine call_same (n_wfail 1) (by simp [go_sem, wx, wo, wa]) ?_
      simp only [go_sem, ↓reduceIte, Nat.reduceEqDiff, Nat.reduceLT, reduceCtorEq, Nat.reduceAdd, Nat.reduceLeDiff, Nat.reduceBEq, Nat.reduceBNe, Int.reduceNeg, Int.reduceToNat, Int.reduceBEq, Int.reduceBNe, wx, wo, wa]
      exact pdone [] (by simp only [go_sem, ↓reduceIte, Nat.reduceEqDiff, Nat.reduceLT, reduceCtorEq, Nat.reduceAdd, Nat.reduceLeDiff, Nat.reduceBEq, Nat.reduceBNe, Int.reduceNeg, Int.reduceToNat, Int.reduceBEq, Int.reduceBNe, wx, wo, wa]) (by first | rfl | simp [go_sem, slv_ids, wx, wo, wa])
    · simp only [go_sem, ↓reduceIte, Nat.reduceEqDiff, Nat.reduceLT, reduceCtorEq, Nat.reduceAdd, Nat.reduceLeDiff, Nat.reduceBEq, Nat.reduceBNe, Int.reduceNeg, Int.reduceToNat, Int.reduceBEq, Int.reduceBNe, wx, wo, wa, F_Poctet_Writer_S33, decide_eq_false h1, decide_eq_false h2]
      refine call_same (s_PutS x hx) (by simp [go_sem, wx, wo, wa]) ?_
      simp only [go_sem, ↓reduceIte, Nat.reduceEqDiff, Nat.reduceLT, reduceCtorEq, Nat.reduceAdd, Nat.reduceLeDiff, Nat.reduceBEq, Nat.reduceBNe, Int.reduceNeg, Int.reduceToNat, Int.reduceBEq, Int.reduceBNe, wx, wo, wa]
      refine call_same (n_wbytes (putS x)) (by simp [go_sem, wx, wo, wa]) ?_
      simp only [go_sem, ↓reduceIte, Nat.reduceEqDiff, Nat.reduceLT, reduceCtorEq, Nat.reduceAdd, Nat.reduceLeDiff, Nat.reduceBEq, Nat.reduceBNe, Int.reduceNeg, Int.reduceToNat, Int.reduceBEq, Int.reduceBNe, wx, wo, wa]
      exact pdone_n [] (by simp only [go_sem, ↓reduceIte, Nat.reduceEqDiff, Nat.reduceLT, reduceCtorEq, Nat.reduceAdd, Nat.reduceLeDiff, Nat.reduceBEq, Nat.reduceBNe, Int.reduceNeg, Int.reduceToNat, Int.reduceBEq, Int.reduceBNe, wx, wo, wa]) rfl
theorem n_wname (x : List UInt8) (hx : x.length < 10000000) : PCalls Tryd.prog n_Poctet_Writer_Name [.np, .str x] (.tup []) := by
  refine pfun_sound (ic := F_Poctet_Writer_Name.body) mixed c_Poctet_Writer_Name rfl rfl ?_
  simp only [go_sem, ↓reduceIte, Nat.reduceEqDiff, Nat.reduceLT, reduceCtorEq, Nat.reduceAdd, Nat.reduceLeDiff, Nat.reduceBEq, Nat.reduceBNe, Int.reduceNeg, Int.reduceToNat, Int.reduceBEq, Int.reduceBNe, wx, wo, wa, F_Poctet_Writer_Name]
  refine call_same (s_uvS x (by omega)) (by simp [go_sem, wx, wo, wa]) ?_
  cases hv : uv x
  · simp only [go_sem, ↓reduceIte, Nat.reduceEqDiff, Nat.reduceLT, reduceCtorEq, Nat.reduceAdd, Nat.reduceLeDiff, Nat.reduceBEq, Nat.reduceBNe, Int.reduceNeg, Int.reduceToNat, Int.reduceBEq, Int.reduceBNe, wx, wo, wa]
    refine call_same (n_wfail 9) (by simp [go_sem, wx, wo, wa]) ?_
    simp only [go_sem, ↓reduceIte, Nat.reduceEqDiff, Nat.reduceLT, reduceCtorEq, Nat.reduceAdd, Nat.reduceLeDiff, Nat.reduceBEq, Nat.reduceBNe, Int.reduceNeg, Int.reduceToNat, Int.reduceBEq, Int.reduceBNe, wx, wo, wa]
    exact pdone_n [] (by simp only [go_sem, ↓reduceIte, Nat.reduceEqDiff, Nat.reduceLT, reduceCtorEq, Nat.reduceAdd, Nat.reduceLeDiff, Nat.reduceBEq, Nat.reduceBNe, Int.reduceNeg, Int.reduceToNat, Int.reduceBEq, Int.reduceBNe, wx, wo, wa]) rfl
  · by_cases h64 : x.length > 64
    · have d1 : decide ((x.length : Int) > 64) = true := decide_eq_true (by omega)
      simp only [go_sem, ↓reduceIte, Nat.reduceEqDiff, Nat.reduceLT, reduceCtorEq, Nat.reduceAdd, Nat.reduceLeDiff, Nat.reduceBEq, Nat.reduceBNe, Int.reduceNeg, Int.reduceToNat, Int.reduceBEq, Int.reduceBNe, wx, wo, wa, d1]
      refine call_same (n_wfail 6) (by simp [go_sem, wx, wo, wa]) ?_
      simp only [go_sem, ↓reduceIte, Nat.reduceEqDiff, Nat.reduceLT, reduceCtorEq, Nat.reduceAdd, Nat.reduceLeDiff, Nat.reduceBEq, Nat.reduceBNe, Int.reduceNeg, Int.reduceToNat, Int.reduceBEq, Int.reduceBNe, wx, wo, wa]
      exact pdone_n [] (by simp only [go_sem, ↓reduceIte, Nat.reduceEqDiff, Nat.reduceLT, reduceCtorEq, Nat.reduceAdd, Nat.reduceLeDiff, Nat.reduceBEq, Nat.reduceBNe, Int.reduceNeg, Int.reduceToNat, Int.reduceBEq, Int.reduceBNe, wx, wo, wa]) rfl
    · have d1 : decide ((x.length : Int) > 64) = false := decide_eq_false (by omega)
      simp only [go_sem, ↓reduceIte, Nat.reduceEqDiff, Nat.reduceLT, reduceCtorEq, Nat.reduceAdd, Nat.reduceLeDiff, Nat.reduceBEq, Nat.reduceBNe, Int.reduceNeg, Int.reduceToNat, Int.reduceBEq, Int.reduceBNe, wx, wo, wa, d1]
      refine call_same (n_wU32 x.length) (by simp [go_sem, wx, wo, wa]) ?_
      simp only [go_sem, ↓reduceIte, Nat.reduceEqDiff, Nat.reduceLT, reduceCtorEq, Nat.reduceAdd, Nat.reduceLeDiff, Nat.reduceBEq, Nat.reduceBNe, Int.reduceNeg, Int.reduceToNat, Int.reduceBEq, Int.reduceBNe, wx, wo, wa]
      refine ⟨by omega, ?_⟩
      refine call_frz [10] ?_ (n_wbytes x) (by simp [go_sem]) ?_
      · simp only [go_sem, ↓reduceIte, Nat.reduceEqDiff, Nat.reduceLT, reduceCtorEq, Nat.reduceAdd, Nat.reduceLeDiff, Nat.reduceBEq, Nat.reduceBNe, Int.reduceNeg, Int.reduceToNat, Int.reduceBEq, Int.reduceBNe, wx, wo, wa, Nat.le_refl, List.length_map]
        rw [List.take_of_length_le (by simp)]
        rfl
      simp only [go_sem, ↓reduceIte, Nat.reduceEqDiff, Nat.reduceLT, reduceCtorEq, Nat.reduceAdd, Nat.reduceLeDiff, Nat.reduceBEq, Nat.reduceBNe, Int.reduceNeg, Int.reduceToNat, Int.reduceBEq, Int.reduceBNe, wx, wo, wa]
      exact pdone_n [] (by simp only [go_sem, ↓reduceIte, Nat.reduceEqDiff, Nat.reduceLT, reduceCtorEq, Nat.reduceAdd, Nat.reduceLeDiff, Nat.reduceBEq, Nat.reduceBNe, Int.reduceNeg, Int.reduceToNat, Int.reduceBEq, Int.reduceBNe, wx, wo, wa]) rfl
theorem n_wpart (lp : List UInt8) (hp : lp.length < 10000000) :
    ACalls Tryd.prog n_Poctet_Writer_Part [.np, .mp 1001 3 0 0] [(1001, wo 2001 true lp 0), (2001, wa lp)] sb (fun r' σ' => r' = .tup [] ∧ σ' = [(1001, wo 2001 true lp 0), (2001, wa lp)]) := by
  refine fun_sound (ic := F_Poctet_Writer_Part.body) mixed c_Poctet_Writer_Part rfl rfl ?_
  have hr := rowO_map 1 lp.length 5 by_ lp rfl
  simp only [go_sem, ↓reduceIte, Nat.reduceEqDiff, Nat.reduceLT, reduceCtorEq, Nat.reduceAdd, Nat.reduceLeDiff, Nat.reduceBEq, Nat.reduceBNe, Int.reduceNeg, Int.reduceToNat, Int.reduceBEq, Int.reduceBNe, wx, wo, wa, F_Poctet_Writer_Part, hr]
  refine ⟨by omega, ?_⟩
  refine call_same (n_wU32 lp.length) (by simp [go_sem, wx, wo, wa]) ?_
  simp only [go_sem, ↓reduceIte, Nat.reduceEqDiff, Nat.reduceLT, reduceCtorEq, Nat.reduceAdd, Nat.reduceLeDiff, Nat.reduceBEq, Nat.reduceBNe, Int.reduceNeg, Int.reduceToNat, Int.reduceBEq, Int.reduceBNe, wx, wo, wa]
  refine call_frz [31] ?_ (n_wbytes lp) (by simp [go_sem]) ?_
  · simp only [go_sem, ↓reduceIte, Nat.reduceEqDiff, Nat.reduceLT, reduceCtorEq, Nat.reduceAdd, Nat.reduceLeDiff, Nat.reduceBEq, Nat.reduceBNe, Int.reduceNeg, Int.reduceToNat, Int.reduceBEq, Int.reduceBNe, wx, wo, wa, Nat.le_refl, List.length_map]
    rw [List.take_of_length_le (by simp)]
  simp only [go_sem, ↓reduceIte, Nat.reduceEqDiff, Nat.reduceLT, reduceCtorEq, Nat.reduceAdd, Nat.reduceLeDiff, Nat.reduceBEq, Nat.reduceBNe, Int.reduceNeg, Int.reduceToNat, Int.reduceBEq, Int.reduceBNe, wx, wo, wa]
  exact done_n [] _ [(1001, wo 2001 true lp 0), (2001, wa lp)] (by simp only [go_sem, ↓reduceIte, Nat.reduceEqDiff, Nat.reduceLT, reduceCtorEq, Nat.reduceAdd, Nat.reduceLeDiff, Nat.reduceBEq, Nat.reduceBNe, Int.reduceNeg, Int.reduceToNat, Int.reduceBEq, Int.reduceBNe, wx, wo, wa]) (by simp only [go_sem, ↓reduceIte, Nat.reduceEqDiff, Nat.reduceLT, reduceCtorEq, Nat.reduceAdd, Nat.reduceLeDiff, Nat.reduceBEq, Nat.reduceBNe, Int.reduceNeg, Int.reduceToNat, Int.reduceBEq, Int.reduceBNe, wx, wo, wa]) rfl ⟨rfl, rfl⟩
theorem n_wdone : PCalls Tryd.prog n_Poctet_Writer_Done [.np] (.tup [.nl, .int .i64 2]) := by
  refine pfun_sound (ic := F_Poctet_Writer_Done.body) mixed c_Poctet_Writer_Done rfl rfl ?_
  simp only [go_sem, ↓reduceIte, Nat.reduceEqDiff, Nat.reduceLT, reduceCtorEq, Nat.reduceAdd, Nat.reduceLeDiff, Nat.reduceBEq, Nat.reduceBNe, Int.reduceNeg, Int.reduceToNat, Int.reduceBEq, Int.reduceBNe, wx, wo, wa, F_Poctet_Writer_Done]
  exact pdone [] (by simp only [go_sem, ↓reduceIte, Nat.reduceEqDiff, Nat.reduceLT, reduceCtorEq, Nat.reduceAdd, Nat.reduceLeDiff, Nat.reduceBEq, Nat.reduceBNe, Int.reduceNeg, Int.reduceToNat, Int.reduceBEq, Int.reduceBNe, wx, wo, wa]) (by first | rfl | simp [go_sem, slv_ids, wx, wo, wa])
theorem n_wlen : PCalls Tryd.prog n_Poctet_Writer_Len [.np] (.int .i64 0) := by
  refine pfun_sound (ic := F_Poctet_Writer_Len.body) mixed c_Poctet_Writer_Len rfl rfl ?_
  simp only [go_sem, ↓reduceIte, Nat.reduceEqDiff, Nat.reduceLT, reduceCtorEq, Nat.reduceAdd, Nat.reduceLeDiff, Nat.reduceBEq, Nat.reduceBNe, Int.reduceNeg, Int.reduceToNat, Int.reduceBEq, Int.reduceBNe, wx, wo, wa, F_Poctet_Writer_Len]
  refine call_same (s_wsound_np) (by simp [go_sem, wx, wo, wa]) ?_
  simp only [go_sem, ↓reduceIte, Nat.reduceEqDiff, Nat.reduceLT, reduceCtorEq, Nat.reduceAdd, Nat.reduceLeDiff, Nat.reduceBEq, Nat.reduceBNe, Int.reduceNeg, Int.reduceToNat, Int.reduceBEq, Int.reduceBNe, wx, wo, wa]
  exact pdone [] (by simp only [go_sem, ↓reduceIte, Nat.reduceEqDiff, Nat.reduceLT, reduceCtorEq, Nat.reduceAdd, Nat.reduceLeDiff, Nat.reduceBEq, Nat.reduceBNe, Int.reduceNeg, Int.reduceToNat, Int.reduceBEq, Int.reduceBNe, wx, wo, wa]) (by first | rfl | simp [go_sem, slv_ids, wx, wo, wa])
def Wn (l2 : List UInt8) (e2 : Int) (f : Fld) : Prop :=
  PCalls Tryd.prog n_law02_write [.np, wx l2 e2, .agg [.int .i64 f.d, .int .i64 f.n, .int .u64 f.x, .str f.s]] (wx (wrS (e2 == 0) l2 e2 f).1 (wrS (e2 == 0) l2 e2 f).2)
section
variable (l2 : List UInt8) (e2 : Int) (n x : Int) (s : List UInt8) (hn : inI n) (hl2 : l2.length < 9000000) (hs : s.length < 1000000)
include hn hl2 hs
theorem wn_0 : Wn l2 e2 ⟨0, n, x, s⟩ := by
  have r2 : wrS (e2 == 0) l2 e2 ⟨0, n, x, s⟩ = (wB (e2 == 0) l2 [u8 n], e2) := rfl
  unfold Wn
  rw [r2]
  refine pfun_sound (ic := F_law02_write.body) mixed c_law02_write rfl rfl ?_
  simp only [go_sem, ↓reduceIte, Nat.reduceEqDiff, Nat.reduceLT, reduceCtorEq, Nat.reduceAdd, Nat.reduceLeDiff, Nat.reduceBEq, Nat.reduceBNe, Int.reduceNeg, Int.reduceToNat, Int.reduceBEq, Int.reduceBNe, wx, wo, wa, F_law02_write, u8_w]
  refine call_same (n_wbyte (u8 n)) (by simp [go_sem, wx, wo, wa]) ?_
  simp only [go_sem, ↓reduceIte, Nat.reduceEqDiff, Nat.reduceLT, reduceCtorEq, Nat.reduceAdd, Nat.reduceLeDiff, Nat.reduceBEq, Nat.reduceBNe, Int.reduceNeg, Int.reduceToNat, Int.reduceBEq, Int.reduceBNe, wx, wo, wa, u8_w]
  refine call_same (p_Byte l2 e2 hl2 (u8 n)) (by simp [go_sem, wx, wo, wa]) ?_
  simp only [go_sem, ↓reduceIte, Nat.reduceEqDiff, Nat.reduceLT, reduceCtorEq, Nat.reduceAdd, Nat.reduceLeDiff, Nat.reduceBEq, Nat.reduceBNe, Int.reduceNeg, Int.reduceToNat, Int.reduceBEq, Int.reduceBNe, wx, wo, wa]
  exact pdone [] (by simp only [go_sem, ↓reduceIte, Nat.reduceEqDiff, Nat.reduceLT, reduceCtorEq, Nat.reduceAdd, Nat.reduceLeDiff, Nat.reduceBEq, Nat.reduceBNe, Int.reduceNeg, Int.reduceToNat, Int.reduceBEq, Int.reduceBNe, wx, wo, wa]) (by first | rfl | simp [go_sem, slv_ids, wx, wo, wa])
theorem wn_1 : Wn l2 e2 ⟨1, n, x, s⟩ := by
  have r2 : wrS (e2 == 0) l2 e2 ⟨1, n, x, s⟩ = wU (e2 == 0) l2 e2 n := rfl
  unfold Wn
  rw [r2]
  refine pfun_sound (ic := F_law02_write.body) mixed c_law02_write rfl rfl ?_
  simp only [go_sem, ↓reduceIte, Nat.reduceEqDiff, Nat.reduceLT, reduceCtorEq, Nat.reduceAdd, Nat.reduceLeDiff, Nat.reduceBEq, Nat.reduceBNe, Int.reduceNeg, Int.reduceToNat, Int.reduceBEq, Int.reduceBNe, wx, wo, wa, F_law02_write]
  refine call_same (n_wU32 n) (by simp [go_sem, wx, wo, wa]) ?_
  simp only [go_sem, ↓reduceIte, Nat.reduceEqDiff, Nat.reduceLT, reduceCtorEq, Nat.reduceAdd, Nat.reduceLeDiff, Nat.reduceBEq, Nat.reduceBNe, Int.reduceNeg, Int.reduceToNat, Int.reduceBEq, Int.reduceBNe, wx, wo, wa]
  refine call_same (p_U32 l2 e2 hl2 n) (by simp [go_sem, wx, wo, wa]) ?_
  simp only [go_sem, ↓reduceIte, Nat.reduceEqDiff, Nat.reduceLT, reduceCtorEq, Nat.reduceAdd, Nat.reduceLeDiff, Nat.reduceBEq, Nat.reduceBNe, Int.reduceNeg, Int.reduceToNat, Int.reduceBEq, Int.reduceBNe, wx, wo, wa]
  exact pdone [] (by simp only [go_sem, ↓reduceIte, Nat.reduceEqDiff, Nat.reduceLT, reduceCtorEq, Nat.reduceAdd, Nat.reduceLeDiff, Nat.reduceBEq, Nat.reduceBNe, Int.reduceNeg, Int.reduceToNat, Int.reduceBEq, Int.reduceBNe, wx, wo, wa]) (by first | rfl | simp [go_sem, slv_ids, wx, wo, wa])
theorem wn_2 : Wn l2 e2 ⟨2, n, x, s⟩ := by
  have r2 : wrS (e2 == 0) l2 e2 ⟨2, n, x, s⟩ = (wS (e2 == 0) l2 (s32 x), e2) := rfl
  unfold Wn
  rw [r2]
  refine pfun_sound (ic := F_law02_write.body) mixed c_law02_write rfl rfl ?_
  simp only [go_sem, ↓reduceIte, Nat.reduceEqDiff, Nat.reduceLT, reduceCtorEq, Nat.reduceAdd, Nat.reduceLeDiff, Nat.reduceBEq, Nat.reduceBNe, Int.reduceNeg, Int.reduceToNat, Int.reduceBEq, Int.reduceBNe, wx, wo, wa, F_law02_write]
  refine call_same (n_wS32 x) (by simp [go_sem, wx, wo, wa]) ?_
  simp only [go_sem, ↓reduceIte, Nat.reduceEqDiff, Nat.reduceLT, reduceCtorEq, Nat.reduceAdd, Nat.reduceLeDiff, Nat.reduceBEq, Nat.reduceBNe, Int.reduceNeg, Int.reduceToNat, Int.reduceBEq, Int.reduceBNe, wx, wo, wa]
  refine call_same (p_S32 l2 e2 hl2 x) (by simp [go_sem, wx, wo, wa]) ?_
  simp only [go_sem, ↓reduceIte, Nat.reduceEqDiff, Nat.reduceLT, reduceCtorEq, Nat.reduceAdd, Nat.reduceLeDiff, Nat.reduceBEq, Nat.reduceBNe, Int.reduceNeg, Int.reduceToNat, Int.reduceBEq, Int.reduceBNe, wx, wo, wa]
  exact pdone [] (by simp only [go_sem, ↓reduceIte, Nat.reduceEqDiff, Nat.reduceLT, reduceCtorEq, Nat.reduceAdd, Nat.reduceLeDiff, Nat.reduceBEq, Nat.reduceBNe, Int.reduceNeg, Int.reduceToNat, Int.reduceBEq, Int.reduceBNe, wx, wo, wa]) (by first | rfl | simp [go_sem, slv_ids, wx, wo, wa])
theorem wn_3 : Wn l2 e2 ⟨3, n, x, s⟩ := by
  have r2 : wrS (e2 == 0) l2 e2 ⟨3, n, x, s⟩ = wS33 (e2 == 0) l2 e2 n := rfl
  unfold Wn
  rw [r2]
  refine pfun_sound (ic := F_law02_write.body) mixed c_law02_write rfl rfl ?_
  simp only [go_sem, ↓reduceIte, Nat.reduceEqDiff, Nat.reduceLT, reduceCtorEq, Nat.reduceAdd, Nat.reduceLeDiff, Nat.reduceBEq, Nat.reduceBNe, Int.reduceNeg, Int.reduceToNat, Int.reduceBEq, Int.reduceBNe, wx, wo, wa, F_law02_write]
  refine call_same (n_wS33 n hn) (by simp [go_sem, wx, wo, wa]) ?_
  simp only [go_sem, ↓reduceIte, Nat.reduceEqDiff, Nat.reduceLT, reduceCtorEq, Nat.reduceAdd, Nat.reduceLeDiff, Nat.reduceBEq, Nat.reduceBNe, Int.reduceNeg, Int.reduceToNat, Int.reduceBEq, Int.reduceBNe, wx, wo, wa]
  refine call_same (p_S33 l2 e2 hl2 n hn) (by simp [go_sem, wx, wo, wa]) ?_
  simp only [go_sem, ↓reduceIte, Nat.reduceEqDiff, Nat.reduceLT, reduceCtorEq, Nat.reduceAdd, Nat.reduceLeDiff, Nat.reduceBEq, Nat.reduceBNe, Int.reduceNeg, Int.reduceToNat, Int.reduceBEq, Int.reduceBNe, wx, wo, wa]
  exact pdone [] (by simp only [go_sem, ↓reduceIte, Nat.reduceEqDiff, Nat.reduceLT, reduceCtorEq, Nat.reduceAdd, Nat.reduceLeDiff, Nat.reduceBEq, Nat.reduceBNe, Int.reduceNeg, Int.reduceToNat, Int.reduceBEq, Int.reduceBNe, wx, wo, wa]) (by first | rfl | simp [go_sem, slv_ids, wx, wo, wa])
theorem wn_4 : Wn l2 e2 ⟨4, n, x, s⟩ := by
  have r2 : wrS (e2 == 0) l2 e2 ⟨4, n, x, s⟩ = (wS (e2 == 0) l2 (IntKind.i64.wrap x), e2) := rfl
  unfold Wn
  rw [r2]
  refine pfun_sound (ic := F_law02_write.body) mixed c_law02_write rfl rfl ?_
  simp only [go_sem, ↓reduceIte, Nat.reduceEqDiff, Nat.reduceLT, reduceCtorEq, Nat.reduceAdd, Nat.reduceLeDiff, Nat.reduceBEq, Nat.reduceBNe, Int.reduceNeg, Int.reduceToNat, Int.reduceBEq, Int.reduceBNe, wx, wo, wa, F_law02_write]
  refine call_same (n_wS64 x) (by simp [go_sem, wx, wo, wa]) ?_
  simp only [go_sem, ↓reduceIte, Nat.reduceEqDiff, Nat.reduceLT, reduceCtorEq, Nat.reduceAdd, Nat.reduceLeDiff, Nat.reduceBEq, Nat.reduceBNe, Int.reduceNeg, Int.reduceToNat, Int.reduceBEq, Int.reduceBNe, wx, wo, wa]
  refine call_same (p_S64 l2 e2 hl2 x) (by simp [go_sem, wx, wo, wa]) ?_
  simp only [go_sem, ↓reduceIte, Nat.reduceEqDiff, Nat.reduceLT, reduceCtorEq, Nat.reduceAdd, Nat.reduceLeDiff, Nat.reduceBEq, Nat.reduceBNe, Int.reduceNeg, Int.reduceToNat, Int.reduceBEq, Int.reduceBNe, wx, wo, wa]
  exact pdone [] (by simp only [go_sem, ↓reduceIte, Nat.reduceEqDiff, Nat.reduceLT, reduceCtorEq, Nat.reduceAdd, Nat.reduceLeDiff, Nat.reduceBEq, Nat.reduceBNe, Int.reduceNeg, Int.reduceToNat, Int.reduceBEq, Int.reduceBNe, wx, wo, wa]) (by first | rfl | simp [go_sem, slv_ids, wx, wo, wa])
theorem wn_6 : Wn l2 e2 ⟨6, n, x, s⟩ := by
  have r2 : wrS (e2 == 0) l2 e2 ⟨6, n, x, s⟩ = wN (e2 == 0) l2 e2 s := rfl
  unfold Wn
  rw [r2]
  refine pfun_sound (ic := F_law02_write.body) mixed c_law02_write rfl rfl ?_
  simp only [go_sem, ↓reduceIte, Nat.reduceEqDiff, Nat.reduceLT, reduceCtorEq, Nat.reduceAdd, Nat.reduceLeDiff, Nat.reduceBEq, Nat.reduceBNe, Int.reduceNeg, Int.reduceToNat, Int.reduceBEq, Int.reduceBNe, wx, wo, wa, F_law02_write]
  refine call_same (n_wname s (by omega)) (by simp [go_sem, wx, wo, wa]) ?_
  simp only [go_sem, ↓reduceIte, Nat.reduceEqDiff, Nat.reduceLT, reduceCtorEq, Nat.reduceAdd, Nat.reduceLeDiff, Nat.reduceBEq, Nat.reduceBNe, Int.reduceNeg, Int.reduceToNat, Int.reduceBEq, Int.reduceBNe, wx, wo, wa]
  refine call_same (p_Name l2 e2 hl2 s (by omega)) (by simp [go_sem, wx, wo, wa]) ?_
  simp only [go_sem, ↓reduceIte, Nat.reduceEqDiff, Nat.reduceLT, reduceCtorEq, Nat.reduceAdd, Nat.reduceLeDiff, Nat.reduceBEq, Nat.reduceBNe, Int.reduceNeg, Int.reduceToNat, Int.reduceBEq, Int.reduceBNe, wx, wo, wa]
  exact pdone [] (by simp only [go_sem, ↓reduceIte, Nat.reduceEqDiff, Nat.reduceLT, reduceCtorEq, Nat.reduceAdd, Nat.reduceLeDiff, Nat.reduceBEq, Nat.reduceBNe, Int.reduceNeg, Int.reduceToNat, Int.reduceBEq, Int.reduceBNe, wx, wo, wa]) (by first | rfl | simp [go_sem, slv_ids, wx, wo, wa])
theorem wn_5 : Wn l2 e2 ⟨5, n, x, s⟩ := by
  have r2 : wrS (e2 == 0) l2 e2 ⟨5, n, x, s⟩ = (wB (e2 == 0) l2 s, e2) := rfl
  unfold Wn
  rw [r2]
  refine pfun_sound (ic := F_law02_write.body) mixed c_law02_write rfl rfl ?_
  simp only [go_sem, ↓reduceIte, Nat.reduceEqDiff, Nat.reduceLT, reduceCtorEq, Nat.reduceAdd, Nat.reduceLeDiff, Nat.reduceBEq, Nat.reduceBNe, Int.reduceNeg, Int.reduceToNat, Int.reduceBEq, Int.reduceBNe, wx, wo, wa, F_law02_write]
  refine ⟨by omega, ?_⟩
  refine call_frz [67] ?_ (n_wbytes s) (by simp [go_sem]) ?_
  · simp only [go_sem, ↓reduceIte, Nat.reduceEqDiff, Nat.reduceLT, reduceCtorEq, Nat.reduceAdd, Nat.reduceLeDiff, Nat.reduceBEq, Nat.reduceBNe, Int.reduceNeg, Int.reduceToNat, Int.reduceBEq, Int.reduceBNe, wx, wo, wa, Nat.le_refl, List.length_map]
    rw [List.take_of_length_le (by simp)]
    rfl
  simp only [go_sem, ↓reduceIte, Nat.reduceEqDiff, Nat.reduceLT, reduceCtorEq, Nat.reduceAdd, Nat.reduceLeDiff, Nat.reduceBEq, Nat.reduceBNe, Int.reduceNeg, Int.reduceToNat, Int.reduceBEq, Int.reduceBNe, wx, wo, wa]
  refine ⟨by omega, ?_⟩
  refine call_frz [72] ?_ (p_Bytes l2 e2 (by omega) s (by omega)) (by simp [go_sem, wx]) ?_
  · simp only [go_sem, ↓reduceIte, Nat.reduceEqDiff, Nat.reduceLT, reduceCtorEq, Nat.reduceAdd, Nat.reduceLeDiff, Nat.reduceBEq, Nat.reduceBNe, Int.reduceNeg, Int.reduceToNat, Int.reduceBEq, Int.reduceBNe, wx, wo, wa, Nat.le_refl, List.length_map]
    rw [List.take_of_length_le (by simp)]
    rfl
  simp only [go_sem, ↓reduceIte, Nat.reduceEqDiff, Nat.reduceLT, reduceCtorEq, Nat.reduceAdd, Nat.reduceLeDiff, Nat.reduceBEq, Nat.reduceBNe, Int.reduceNeg, Int.reduceToNat, Int.reduceBEq, Int.reduceBNe, wx, wo, wa]
  exact pdone [] (by simp only [go_sem, ↓reduceIte, Nat.reduceEqDiff, Nat.reduceLT, reduceCtorEq, Nat.reduceAdd, Nat.reduceLeDiff, Nat.reduceBEq, Nat.reduceBNe, Int.reduceNeg, Int.reduceToNat, Int.reduceBEq, Int.reduceBNe, wx, wo, wa]) (by first | rfl | simp [go_sem, slv_ids, wx, wo, wa])
theorem wn_7 : Wn l2 e2 ⟨7, n, x, s⟩ := by
  have r2 : wrS (e2 == 0) l2 e2 ⟨7, n, x, s⟩ = wP (e2 == 0) l2 e2 true s 0 := rfl
  unfold Wn
  rw [r2]
  refine pfun_sound (ic := F_law02_write.body) mixed c_law02_write rfl rfl ?_
  have cp := n_wpart s (by omega)
  have b1 : wB (true && (0 : Int) == 0) [] s = s := by simp [wB]
  have cb := s_wbytes true [] s 0 ⟨by simp, by omega⟩
  rw [b1] at cb
  simp only [go_sem, ↓reduceIte, Nat.reduceEqDiff, Nat.reduceLT, reduceCtorEq, Nat.reduceAdd, Nat.reduceLeDiff, Nat.reduceBEq, Nat.reduceBNe, Int.reduceNeg, Int.reduceToNat, Int.reduceBEq, Int.reduceBNe, wx, wo, wa, F_law02_write]
  refine call_wnew 902 903 (by decide) (by decide) (by decide) (by simp only [go_sem, ↓reduceIte, Nat.reduceEqDiff, Nat.reduceLT, reduceCtorEq, Nat.reduceAdd, Nat.reduceLeDiff, Nat.reduceBEq, Nat.reduceBNe, Int.reduceNeg, Int.reduceToNat, Int.reduceBEq, Int.reduceBNe, wx, wo, wa]) (by simp only [go_sem, ↓reduceIte, Nat.reduceEqDiff, Nat.reduceLT, reduceCtorEq, Nat.reduceAdd, Nat.reduceLeDiff, Nat.reduceBEq, Nat.reduceBNe, Int.reduceNeg, Int.reduceToNat, Int.reduceBEq, Int.reduceBNe, wx, wo, wa]) ?_
  simp only [go_sem, ↓reduceIte, Nat.reduceEqDiff, Nat.reduceLT, reduceCtorEq, Nat.reduceAdd, Nat.reduceLeDiff, Nat.reduceBEq, Nat.reduceBNe, Int.reduceNeg, Int.reduceToNat, Int.reduceBEq, Int.reduceBNe, wx, wo, wa]
  refine ⟨by omega, ?_⟩
  refine call_w [90] (k := 902) (j := 903) (cb) (by decide) (by decide) (by decide) (by decide) (by first | rfl | simp [go_sem, slv_ids, wx, wo, wa]) (by simp [go_sem, wx, wo, wa]) ?_ (by rfl) (by rfl) ?_
  · simp only [go_sem, ↓reduceIte, Nat.reduceEqDiff, Nat.reduceLT, reduceCtorEq, Nat.reduceAdd, Nat.reduceLeDiff, Nat.reduceBEq, Nat.reduceBNe, Int.reduceNeg, Int.reduceToNat, Int.reduceBEq, Int.reduceBNe, wx, wo, wa, Nat.le_refl, List.length_map]
    rw [List.take_of_length_le (by simp)]
    rfl
  simp only [go_sem, ↓reduceIte, Nat.reduceEqDiff, Nat.reduceLT, reduceCtorEq, Nat.reduceAdd, Nat.reduceLeDiff, Nat.reduceBEq, Nat.reduceBNe, Int.reduceNeg, Int.reduceToNat, Int.reduceBEq, Int.reduceBNe, wx, wo, wa]
  refine call_obj (σ2 := [(902, wo 903 true s 0), (903, wa s)]) (r3 := .tup []) (σ3 := [(902, wo 903 true s 0), (903, wa s)]) cp [(1001, 902), (2001, 903)] [903] rfl rfl rfl rfl ?_ ?_ ?_ ?_
  · simp only [go_sem, ↓reduceIte, Nat.reduceEqDiff, Nat.reduceLT, reduceCtorEq, Nat.reduceAdd, Nat.reduceLeDiff, Nat.reduceBEq, Nat.reduceBNe, Int.reduceNeg, Int.reduceToNat, Int.reduceBEq, Int.reduceBNe, wx, wo, wa]; simp
  · simp only [go_sem, ↓reduceIte, Nat.reduceEqDiff, Nat.reduceLT, reduceCtorEq, Nat.reduceAdd, Nat.reduceLeDiff, Nat.reduceBEq, Nat.reduceBNe, Int.reduceNeg, Int.reduceToNat, Int.reduceBEq, Int.reduceBNe, wx, wo, wa]; simp [sb, bw, swp, hget]
  · simp only [go_sem, ↓reduceIte, Nat.reduceEqDiff, Nat.reduceLT, reduceCtorEq, Nat.reduceAdd, Nat.reduceLeDiff, Nat.reduceBEq, Nat.reduceBNe, Int.reduceNeg, Int.reduceToNat, Int.reduceBEq, Int.reduceBNe, wx, wo, wa]; simp [hget]
  simp only [go_sem, ↓reduceIte, Nat.reduceEqDiff, Nat.reduceLT, reduceCtorEq, Nat.reduceAdd, Nat.reduceLeDiff, Nat.reduceBEq, Nat.reduceBNe, Int.reduceNeg, Int.reduceToNat, Int.reduceBEq, Int.reduceBNe, wx, wo, wa]
  refine ⟨by omega, ?_⟩
  refine call_frz [98] ?_ (p_Part l2 e2 hl2 s 0 hs) (by simp [go_sem, wx]) ?_
  · simp only [go_sem, ↓reduceIte, Nat.reduceEqDiff, Nat.reduceLT, reduceCtorEq, Nat.reduceAdd, Nat.reduceLeDiff, Nat.reduceBEq, Nat.reduceBNe, Int.reduceNeg, Int.reduceToNat, Int.reduceBEq, Int.reduceBNe, wx, wo, wa, Nat.le_refl, List.length_map]
    rw [List.take_of_length_le (by simp)]
    rfl
  simp only [go_sem, ↓reduceIte, Nat.reduceEqDiff, Nat.reduceLT, reduceCtorEq, Nat.reduceAdd, Nat.reduceLeDiff, Nat.reduceBEq, Nat.reduceBNe, Int.reduceNeg, Int.reduceToNat, Int.reduceBEq, Int.reduceBNe, wx, wo, wa]
  exact pdone [] (by simp only [go_sem, ↓reduceIte, Nat.reduceEqDiff, Nat.reduceLT, reduceCtorEq, Nat.reduceAdd, Nat.reduceLeDiff, Nat.reduceBEq, Nat.reduceBNe, Int.reduceNeg, Int.reduceToNat, Int.reduceBEq, Int.reduceBNe, wx, wo, wa]) (by first | rfl | simp [go_sem, slv_ids, wx, wo, wa])
theorem wn_8 : Wn l2 e2 ⟨8, n, x, s⟩ := by
  have r2 : wrS (e2 == 0) l2 e2 ⟨8, n, x, s⟩ = (l2, if (e2 == 0) = true then n else e2) := rfl
  unfold Wn
  rw [r2]
  refine pfun_sound (ic := F_law02_write.body) mixed c_law02_write rfl rfl ?_
  rw [if_eq0 e2]
  simp only [go_sem, ↓reduceIte, Nat.reduceEqDiff, Nat.reduceLT, reduceCtorEq, Nat.reduceAdd, Nat.reduceLeDiff, Nat.reduceBEq, Nat.reduceBNe, Int.reduceNeg, Int.reduceToNat, Int.reduceBEq, Int.reduceBNe, wx, wo, wa, F_law02_write]
  refine call_same (n_wfail n) (by simp [go_sem, wx, wo, wa]) ?_
  simp only [go_sem, ↓reduceIte, Nat.reduceEqDiff, Nat.reduceLT, reduceCtorEq, Nat.reduceAdd, Nat.reduceLeDiff, Nat.reduceBEq, Nat.reduceBNe, Int.reduceNeg, Int.reduceToNat, Int.reduceBEq, Int.reduceBNe, wx, wo, wa]
  refine call_same (p_Fail l2 e2 n) (by simp [go_sem, wx, wo, wa]) ?_
  simp only [go_sem, ↓reduceIte, Nat.reduceEqDiff, Nat.reduceLT, reduceCtorEq, Nat.reduceAdd, Nat.reduceLeDiff, Nat.reduceBEq, Nat.reduceBNe, Int.reduceNeg, Int.reduceToNat, Int.reduceBEq, Int.reduceBNe, wx, wo, wa]
  exact pdone [] (by simp only [go_sem, ↓reduceIte, Nat.reduceEqDiff, Nat.reduceLT, reduceCtorEq, Nat.reduceAdd, Nat.reduceLeDiff, Nat.reduceBEq, Nat.reduceBNe, Int.reduceNeg, Int.reduceToNat, Int.reduceBEq, Int.reduceBNe, wx, wo, wa]) (by first | rfl | simp [go_sem, slv_ids, wx, wo, wa])
theorem wn_e (d : Int) (h0 : ¬ d = 0) (h1 : ¬ d = 1) (h2 : ¬ d = 2) (h3 : ¬ d = 3) (h4 : ¬ d = 4) (h5 : ¬ d = 5) (h6 : ¬ d = 6) (h7 : ¬ d = 7) (h8 : ¬ d = 8) : Wn l2 e2 ⟨d, n, x, s⟩ := by
  have hr : ∀ ok l e, wrS ok l e ⟨d, n, x, s⟩ = (l, e) := fun ok l e => by simp [wrS, h0, h1, h2, h3, h4, h5, h6, h7, h8]
  unfold Wn
  rw [hr]
  refine pfun_sound (ic := F_law02_write.body) mixed c_law02_write rfl rfl ?_
  simp only [go_sem, ↓reduceIte, Nat.reduceEqDiff, Nat.reduceLT, reduceCtorEq, Nat.reduceAdd, Nat.reduceLeDiff, Nat.reduceBEq, Nat.reduceBNe, Int.reduceNeg, Int.reduceToNat, Int.reduceBEq, Int.reduceBNe, wx, wo, wa, F_law02_write, beq_f h0, beq_f h1, beq_f h2, beq_f h3, beq_f h4, beq_f h5, beq_f h6, beq_f h7, beq_f h8]
  exact pdone [] (by simp only [go_sem, ↓reduceIte, Nat.reduceEqDiff, Nat.reduceLT, reduceCtorEq, Nat.reduceAdd, Nat.reduceLeDiff, Nat.reduceBEq, Nat.reduceBNe, Int.reduceNeg, Int.reduceToNat, Int.reduceBEq, Int.reduceBNe, wx, wo, wa]) (by first | rfl | simp [go_sem, slv_ids, wx, wo, wa])
end
theorem wn_all (l2 : List UInt8) (e2 : Int) (f : Fld) (hn : inI f.n) (hl2 : l2.length < 9000000) (hs : f.s.length < 1000000) : Wn l2 e2 f := by
  obtain ⟨d, n, x, s⟩ := f
  by_cases h0 : d = 0
  · subst h0; exact wn_0 l2 e2 n x s hn hl2 hs
  by_cases h1 : d = 1
  · subst h1; exact wn_1 l2 e2 n x s hn hl2 hs
  by_cases h2 : d = 2
  · subst h2; exact wn_2 l2 e2 n x s hn hl2 hs
  by_cases h3 : d = 3
  · subst h3; exact wn_3 l2 e2 n x s hn hl2 hs
  by_cases h4 : d = 4
  · subst h4; exact wn_4 l2 e2 n x s hn hl2 hs
  by_cases h5 : d = 5
  · subst h5; exact wn_5 l2 e2 n x s hn hl2 hs
  by_cases h6 : d = 6
  · subst h6; exact wn_6 l2 e2 n x s hn hl2 hs
  by_cases h7 : d = 7
  · subst h7; exact wn_7 l2 e2 n x s hn hl2 hs
  by_cases h8 : d = 8
  · subst h8; exact wn_8 l2 e2 n x s hn hl2 hs
  exact wn_e l2 e2 n x s hn hl2 hs d h0 h1 h2 h3 h4 h5 h6 h7 h8
end Go.Proofs.YtkejmhpodhbeeaaDoor
set_option linter.unusedSimpArgs false
set_option maxRecDepth 100000
set_option maxHeartbeats 4000000
set_option linter.unusedVariables false
namespace Go.Proofs.YtkejmhpodhbeeaaDoor
open Go Go.Mw
-- @U: rx, ro, wx, wo, wa, slv_none, slv_some, cz

theorem cz : ((0 : Nat) : Int) = 0 := rfl
theorem w_nobody (d n : Int) (f : Fld) (hn : inI n) (hf : inI f.n) : PCalls Tryd.prog n_law02_OctetNobody [.agg [.int .i64 d, .int .i64 n], .agg [.int .i64 f.d, .int .i64 f.n, .int .u64 f.x, .str f.s]] (.bool true) := by
  refine pfun_sound (ic := F_law02_OctetNobody.body) mixed c_law02_OctetNobody rfl rfl ?_
  obtain ⟨q, hq, hc⟩ := w_short [f]
  simp only [go_sem, ↓reduceIte, Nat.reduceEqDiff, Nat.reduceLT, reduceCtorEq, Nat.reduceAdd, Nat.reduceLeDiff, Nat.reduceBEq, Nat.reduceBNe, Int.reduceNeg, Int.reduceToNat, Int.reduceBEq, Int.reduceBNe, rx, ro, wx, wo, wa, cz, F_law02_OctetNobody]
  refine call_same (s_fail_np 1) (by simp [go_sem, rx, ro, wx, wo, wa, cz]) ?_
  simp only [go_sem, ↓reduceIte, Nat.reduceEqDiff, Nat.reduceLT, reduceCtorEq, Nat.reduceAdd, Nat.reduceLeDiff, Nat.reduceBEq, Nat.reduceBNe, Int.reduceNeg, Int.reduceToNat, Int.reduceBEq, Int.reduceBNe, rx, ro, wx, wo, wa, cz]
  refine call_wk (WkA.nlm _ _ 19 (t := 48) (st := 4) (r := [.bool false, .nl, .int .i64 0, .int .i64 0]) (r' := [.bool false, .sl 1 [], .int .i64 0, .int .i64 0]) (by simp only [go_sem, ↓reduceIte, Nat.reduceEqDiff, Nat.reduceLT, reduceCtorEq, Nat.reduceAdd, Nat.reduceLeDiff, Nat.reduceBEq, Nat.reduceBNe, Int.reduceNeg, Int.reduceToNat, Int.reduceBEq, Int.reduceBNe, rx, ro, wx, wo, wa, cz]) ⟨.inl rfl, .inr ⟨rfl, .inl ⟨1, rfl⟩⟩, .inl rfl, .inl rfl, trivial⟩) ?_
  have c1 := s_fail false [] 0 0 1
  rw [show (if (false && (0 : Int) == 0) = true then (1 : Int) else 0) = 0 from rfl] at c1
  refine call_m (c1) ⟨by decide, by decide⟩ (by first | rfl | exact slv_ids _) (by simp [go_sem, rx, ro, wx, wo, wa, cz]) rfl rfl (by rfl) ?_
  simp only [go_sem, ↓reduceIte, Nat.reduceEqDiff, Nat.reduceLT, reduceCtorEq, Nat.reduceAdd, Nat.reduceLeDiff, Nat.reduceBEq, Nat.reduceBNe, Int.reduceNeg, Int.reduceToNat, Int.reduceBEq, Int.reduceBNe, rx, ro, wx, wo, wa, cz]
  refine call_frz [27] ?_ hc (by simp [go_sem]) ?_
  · simp only [go_sem, ↓reduceIte, Nat.reduceEqDiff, Nat.reduceLT, reduceCtorEq, Nat.reduceAdd, Nat.reduceLeDiff, Nat.reduceBEq, Nat.reduceBNe, Int.reduceNeg, Int.reduceToNat, Int.reduceBEq, Int.reduceBNe, rx, ro, wx, wo, wa, cz, Nat.le_refl, List.length_cons, List.length_nil]
  cases q
  · simp only [go_sem, ↓reduceIte, Nat.reduceEqDiff, Nat.reduceLT, reduceCtorEq, Nat.reduceAdd, Nat.reduceLeDiff, Nat.reduceBEq, Nat.reduceBNe, Int.reduceNeg, Int.reduceToNat, Int.reduceBEq, Int.reduceBNe, rx, ro, wx, wo, wa, cz]
    refine call_same (s_alive) (by simp [go_sem, rx, ro, wx, wo, wa, cz]) ?_
    simp only [go_sem, ↓reduceIte, Nat.reduceEqDiff, Nat.reduceLT, reduceCtorEq, Nat.reduceAdd, Nat.reduceLeDiff, Nat.reduceBEq, Nat.reduceBNe, Int.reduceNeg, Int.reduceToNat, Int.reduceBEq, Int.reduceBNe, rx, ro, wx, wo, wa, cz]
    exact pdone [] (by simp only [go_sem, ↓reduceIte, Nat.reduceEqDiff, Nat.reduceLT, reduceCtorEq, Nat.reduceAdd, Nat.reduceLeDiff, Nat.reduceBEq, Nat.reduceBNe, Int.reduceNeg, Int.reduceToNat, Int.reduceBEq, Int.reduceBNe, rx, ro, wx, wo, wa, cz]) (by first | rfl | simp [go_sem, slv_ids, rx, ro, wx, wo, wa, cz])
  have h200 : f.s.length ≤ 200 := (hq rfl).2 f (by simp)
  simp only [go_sem, ↓reduceIte, Nat.reduceEqDiff, Nat.reduceLT, reduceCtorEq, Nat.reduceAdd, Nat.reduceLeDiff, Nat.reduceBEq, Nat.reduceBNe, Int.reduceNeg, Int.reduceToNat, Int.reduceBEq, Int.reduceBNe, rx, ro, wx, wo, wa, cz]
  refine call_nl [.np, wx [] 0, .agg [.int .i64 f.d, .int .i64 f.n, .int .u64 f.x, .str f.s]] ⟨.inl rfl, .inr (.inr ⟨_, _, rfl, rfl, .inr ⟨rfl, 1, rfl⟩, .inl rfl, trivial⟩), .inl rfl, trivial⟩ ?_
  refine call_same (wn_all [] 0 f hf (by simp) (by omega)) (by simp [go_sem, rx, ro, wx, wo, wa, cz]) ?_
  simp only [go_sem, ↓reduceIte, Nat.reduceEqDiff, Nat.reduceLT, reduceCtorEq, Nat.reduceAdd, Nat.reduceLeDiff, Nat.reduceBEq, Nat.reduceBNe, Int.reduceNeg, Int.reduceToNat, Int.reduceBEq, Int.reduceBNe, rx, ro, wx, wo, wa, cz]
  refine call_nl [.mp 21 3 0 0, wx [] 0, .agg [.int .i64 f.d, .int .i64 f.n, .int .u64 f.x, .str f.s]] ⟨.inl rfl, .inr (.inr ⟨_, _, rfl, rfl, .inr ⟨rfl, 1, rfl⟩, .inl rfl, trivial⟩), .inl rfl, trivial⟩ ?_
  refine call_wk (WkA.new0 _ _ 903 1 5 (by decide) (by simp [go_sem, wx])) ?_
  refine call_wk (WkA.nlm _ _ 21 (t := 50) (st := 3) (r := [.bool false, .nl, .int .i64 0]) (r' := [.bool false, .ms 903 1 0 0, .int .i64 0]) (by simp only [go_sem, ↓reduceIte, Nat.reduceEqDiff, Nat.reduceLT, reduceCtorEq, Nat.reduceAdd, Nat.reduceLeDiff, Nat.reduceBEq, Nat.reduceBNe, Int.reduceNeg, Int.reduceToNat, Int.reduceBEq, Int.reduceBNe, rx, ro, wx, wo, wa, cz]) ⟨.inl rfl, .inr ⟨rfl, .inr ⟨903, 1, rfl⟩⟩, .inl rfl, trivial⟩) ?_
  have hw := wr_all false [] 0 [] 0 f hf (by simp) (by simp) (by omega)
  unfold Wr at hw
  rw [Bool.false_and, wrS_false] at hw
  refine call_w [] (k := 21) (j := 903) (hw) (by decide) (by decide) (by decide) (by decide) (by first | rfl | simp [go_sem, slv_ids, rx, ro, wx, wo, wa, cz]) (by simp [go_sem, rx, ro, wx, wo, wa, cz]) (by rfl) (by rfl) (by rfl) ?_
  simp only [go_sem, ↓reduceIte, Nat.reduceEqDiff, Nat.reduceLT, reduceCtorEq, Nat.reduceAdd, Nat.reduceLeDiff, Nat.reduceBEq, Nat.reduceBNe, Int.reduceNeg, Int.reduceToNat, Int.reduceBEq, Int.reduceBNe, rx, ro, wx, wo, wa, cz]
  refine call_same (n_wdone) (by simp [go_sem, rx, ro, wx, wo, wa, cz]) ?_
  have hd := s_wdone false [] 0 (by simp)
  have r : wD false [] 0 = (none, 2) := rfl
  rw [r] at hd
  simp only [go_sem, ↓reduceIte, Nat.reduceEqDiff, Nat.reduceLT, reduceCtorEq, Nat.reduceAdd, Nat.reduceLeDiff, Nat.reduceBEq, Nat.reduceBNe, Int.reduceNeg, Int.reduceToNat, Int.reduceBEq, Int.reduceBNe, rx, ro, wx, wo, wa, cz]
  refine call_w [] (k := 21) (j := 903) (hd) (by decide) (by decide) (by decide) (by decide) (by first | rfl | simp [go_sem, slv_ids, rx, ro, wx, wo, wa, cz]) (by simp [go_sem, rx, ro, wx, wo, wa, cz]) (by rfl) (by rfl) (by rfl) ?_
  simp only [go_sem, ↓reduceIte, Nat.reduceEqDiff, Nat.reduceLT, reduceCtorEq, Nat.reduceAdd, Nat.reduceLeDiff, Nat.reduceBEq, Nat.reduceBNe, Int.reduceNeg, Int.reduceToNat, Int.reduceBEq, Int.reduceBNe, rx, ro, wx, wo, wa, cz]
  refine call_same (s_err_np) (by simp [go_sem, rx, ro, wx, wo, wa, cz]) ?_
  simp only [go_sem, ↓reduceIte, Nat.reduceEqDiff, Nat.reduceLT, reduceCtorEq, Nat.reduceAdd, Nat.reduceLeDiff, Nat.reduceBEq, Nat.reduceBNe, Int.reduceNeg, Int.reduceToNat, Int.reduceBEq, Int.reduceBNe, rx, ro, wx, wo, wa, cz]
  refine call_m (s_err false [] 0 0) ⟨by decide, by decide⟩ (by first | rfl | exact slv_ids _) (by simp [go_sem, rx, ro, wx, wo, wa, cz]) rfl rfl (by rfl) ?_
  simp only [go_sem, ↓reduceIte, Nat.reduceEqDiff, Nat.reduceLT, reduceCtorEq, Nat.reduceAdd, Nat.reduceLeDiff, Nat.reduceBEq, Nat.reduceBNe, Int.reduceNeg, Int.reduceToNat, Int.reduceBEq, Int.reduceBNe, rx, ro, wx, wo, wa, cz]
  refine call_same (s_end_np) (by simp [go_sem, rx, ro, wx, wo, wa, cz]) ?_
  simp only [go_sem, ↓reduceIte, Nat.reduceEqDiff, Nat.reduceLT, reduceCtorEq, Nat.reduceAdd, Nat.reduceLeDiff, Nat.reduceBEq, Nat.reduceBNe, Int.reduceNeg, Int.reduceToNat, Int.reduceBEq, Int.reduceBNe, rx, ro, wx, wo, wa, cz]
  refine call_m (s_end false [] 0 0) ⟨by decide, by decide⟩ (by first | rfl | exact slv_ids _) (by simp [go_sem, rx, ro, wx, wo, wa, cz]) rfl rfl (by rfl) ?_
  have r2 : rEnd false [] 0 0 = 2 := rfl
  simp only [go_sem, ↓reduceIte, Nat.reduceEqDiff, Nat.reduceLT, reduceCtorEq, Nat.reduceAdd, Nat.reduceLeDiff, Nat.reduceBEq, Nat.reduceBNe, Int.reduceNeg, Int.reduceToNat, Int.reduceBEq, Int.reduceBNe, rx, ro, wx, wo, wa, cz, r2]
  refine call_same (s_sub_np n) (by simp [go_sem, rx, ro, wx, wo, wa, cz]) ?_
  simp only [go_sem, ↓reduceIte, Nat.reduceEqDiff, Nat.reduceLT, reduceCtorEq, Nat.reduceAdd, Nat.reduceLeDiff, Nat.reduceBEq, Nat.reduceBNe, Int.reduceNeg, Int.reduceToNat, Int.reduceBEq, Int.reduceBNe, rx, ro, wx, wo, wa, cz]
  refine call_m (s_sub_un [] 0 0 n) ⟨by decide, by decide⟩ (by first | rfl | exact slv_ids _) (by simp [go_sem, rx, ro, wx, wo, wa, cz]) rfl rfl (by rfl) ?_
  simp only [go_sem, ↓reduceIte, Nat.reduceEqDiff, Nat.reduceLT, reduceCtorEq, Nat.reduceAdd, Nat.reduceLeDiff, Nat.reduceBEq, Nat.reduceBNe, Int.reduceNeg, Int.reduceToNat, Int.reduceBEq, Int.reduceBNe, rx, ro, wx, wo, wa, cz]
  refine call_same (s_at_np) (by simp [go_sem, rx, ro, wx, wo, wa, cz]) ?_
  simp only [go_sem, ↓reduceIte, Nat.reduceEqDiff, Nat.reduceLT, reduceCtorEq, Nat.reduceAdd, Nat.reduceLeDiff, Nat.reduceBEq, Nat.reduceBNe, Int.reduceNeg, Int.reduceToNat, Int.reduceBEq, Int.reduceBNe, rx, ro, wx, wo, wa, cz]
  refine call_m (s_at false [] 0 0) ⟨by decide, by decide⟩ (by first | rfl | exact slv_ids _) (by simp [go_sem, rx, ro, wx, wo, wa, cz]) rfl rfl (by rfl) ?_
  simp only [go_sem, ↓reduceIte, Nat.reduceEqDiff, Nat.reduceLT, reduceCtorEq, Nat.reduceAdd, Nat.reduceLeDiff, Nat.reduceBEq, Nat.reduceBNe, Int.reduceNeg, Int.reduceToNat, Int.reduceBEq, Int.reduceBNe, rx, ro, wx, wo, wa, cz]
  refine call_same (s_left_np) (by simp [go_sem, rx, ro, wx, wo, wa, cz]) ?_
  simp only [go_sem, ↓reduceIte, Nat.reduceEqDiff, Nat.reduceLT, reduceCtorEq, Nat.reduceAdd, Nat.reduceLeDiff, Nat.reduceBEq, Nat.reduceBNe, Int.reduceNeg, Int.reduceToNat, Int.reduceBEq, Int.reduceBNe, rx, ro, wx, wo, wa, cz]
  refine call_m (s_left false [] 0 0 (Nat.zero_le _) (by simp)) ⟨by decide, by decide⟩ (by first | rfl | exact slv_ids _) (by simp [go_sem, rx, ro, wx, wo, wa, cz]) rfl rfl (by rfl) ?_
  have l0 : rLeft (false && (0 : Int) == 0) [] 0 = 0 := rfl
  have l1 : rLeft false [] 0 = 0 := rfl
  simp only [go_sem, ↓reduceIte, Nat.reduceEqDiff, Nat.reduceLT, reduceCtorEq, Nat.reduceAdd, Nat.reduceLeDiff, Nat.reduceBEq, Nat.reduceBNe, Int.reduceNeg, Int.reduceToNat, Int.reduceBEq, Int.reduceBNe, rx, ro, wx, wo, wa, cz, Bool.false_and, l1]
  refine call_same (n_wlen) (by simp [go_sem, rx, ro, wx, wo, wa, cz]) ?_
  simp only [go_sem, ↓reduceIte, Nat.reduceEqDiff, Nat.reduceLT, reduceCtorEq, Nat.reduceAdd, Nat.reduceLeDiff, Nat.reduceBEq, Nat.reduceBNe, Int.reduceNeg, Int.reduceToNat, Int.reduceBEq, Int.reduceBNe, rx, ro, wx, wo, wa, cz]
  refine call_w [] (k := 21) (j := 903) (s_wlen false [] 0) (by decide) (by decide) (by decide) (by decide) (by first | rfl | simp [go_sem, slv_ids, rx, ro, wx, wo, wa, cz]) (by simp [go_sem, rx, ro, wx, wo, wa, cz]) (by rfl) (by rfl) (by rfl) ?_
  have w0 : IntKind.i64.wrap (0 + 0) = 0 := by decide
  simp only [go_sem, ↓reduceIte, Nat.reduceEqDiff, Nat.reduceLT, reduceCtorEq, Nat.reduceAdd, Nat.reduceLeDiff, Nat.reduceBEq, Nat.reduceBNe, Int.reduceNeg, Int.reduceToNat, Int.reduceBEq, Int.reduceBNe, rx, ro, wx, wo, wa, cz, Bool.false_and, w0]
  refine call_m (s_peek false [] 0 0) ⟨by decide, by decide⟩ (by first | rfl | exact slv_ids _) (by simp [go_sem, rx, ro, wx, wo, wa, cz]) rfl rfl (by rfl) ?_
  have p0 : rPeek false [] 0 = (0, false) := rfl
  simp only [go_sem, ↓reduceIte, Nat.reduceEqDiff, Nat.reduceLT, reduceCtorEq, Nat.reduceAdd, Nat.reduceLeDiff, Nat.reduceBEq, Nat.reduceBNe, Int.reduceNeg, Int.reduceToNat, Int.reduceBEq, Int.reduceBNe, rx, ro, wx, wo, wa, cz, Bool.false_and, p0]
  refine call_wnew 904 905 (by decide) (by decide) (by decide) (by simp only [go_sem, ↓reduceIte, Nat.reduceEqDiff, Nat.reduceLT, reduceCtorEq, Nat.reduceAdd, Nat.reduceLeDiff, Nat.reduceBEq, Nat.reduceBNe, Int.reduceNeg, Int.reduceToNat, Int.reduceBEq, Int.reduceBNe, rx, ro, wx, wo, wa, cz]) (by simp only [go_sem, ↓reduceIte, Nat.reduceEqDiff, Nat.reduceLT, reduceCtorEq, Nat.reduceAdd, Nat.reduceLeDiff, Nat.reduceBEq, Nat.reduceBNe, Int.reduceNeg, Int.reduceToNat, Int.reduceBEq, Int.reduceBNe, rx, ro, wx, wo, wa, cz]) ?_
  simp only [go_sem, ↓reduceIte, Nat.reduceEqDiff, Nat.reduceLT, reduceCtorEq, Nat.reduceAdd, Nat.reduceLeDiff, Nat.reduceBEq, Nat.reduceBNe, Int.reduceNeg, Int.reduceToNat, Int.reduceBEq, Int.reduceBNe, rx, ro, wx, wo, wa, cz]
  have cp := s_wpart true [] 0 (by simp) false [] 0 (by simp)
  have rp : wP (true && (0 : Int) == 0) [] 0 false [] 0 = ([], 2) := rfl
  rw [rp] at cp
  refine call_obj (σ2 := [(904, wo 905 true [] 0), (905, wa []), (21, wo 903 false [] 0), (903, wa [])]) (r3 := .tup []) (σ3 := [(904, wo 905 true [] 2), (905, wa []), (21, wo 903 false [] 0), (903, wa [])]) cp [(1000, 904), (2000, 905), (1001, 21), (2001, 903)] [905, 903] rfl rfl rfl rfl ?_ ?_ ?_ ?_
  · simp only [go_sem, ↓reduceIte, Nat.reduceEqDiff, Nat.reduceLT, reduceCtorEq, Nat.reduceAdd, Nat.reduceLeDiff, Nat.reduceBEq, Nat.reduceBNe, Int.reduceNeg, Int.reduceToNat, Int.reduceBEq, Int.reduceBNe, rx, ro, wx, wo, wa, cz]; simp
  · simp only [go_sem, ↓reduceIte, Nat.reduceEqDiff, Nat.reduceLT, reduceCtorEq, Nat.reduceAdd, Nat.reduceLeDiff, Nat.reduceBEq, Nat.reduceBNe, Int.reduceNeg, Int.reduceToNat, Int.reduceBEq, Int.reduceBNe, rx, ro, wx, wo, wa, cz]; simp [sb, bw, swp, hget]
  · simp only [go_sem, ↓reduceIte, Nat.reduceEqDiff, Nat.reduceLT, reduceCtorEq, Nat.reduceAdd, Nat.reduceLeDiff, Nat.reduceBEq, Nat.reduceBNe, Int.reduceNeg, Int.reduceToNat, Int.reduceBEq, Int.reduceBNe, rx, ro, wx, wo, wa, cz]; simp [hget]
  have hd2 := s_wdone true [] 2 (by simp)
  have r3 : wD true [] 2 = (none, 2) := rfl
  rw [r3] at hd2
  simp only [go_sem, ↓reduceIte, Nat.reduceEqDiff, Nat.reduceLT, reduceCtorEq, Nat.reduceAdd, Nat.reduceLeDiff, Nat.reduceBEq, Nat.reduceBNe, Int.reduceNeg, Int.reduceToNat, Int.reduceBEq, Int.reduceBNe, rx, ro, wx, wo, wa, cz]
  refine call_w [] (k := 904) (j := 905) (hd2) (by decide) (by decide) (by decide) (by decide) (by first | rfl | simp [go_sem, slv_ids, rx, ro, wx, wo, wa, cz]) (by simp [go_sem, rx, ro, wx, wo, wa, cz]) (by rfl) (by rfl) (by rfl) ?_
  simp only [go_sem, ↓reduceIte, Nat.reduceEqDiff, Nat.reduceLT, reduceCtorEq, Nat.reduceAdd, Nat.reduceLeDiff, Nat.reduceBEq, Nat.reduceBNe, Int.reduceNeg, Int.reduceToNat, Int.reduceBEq, Int.reduceBNe, rx, ro, wx, wo, wa, cz]
  refine call_same (s_byte_np) (by simp [go_sem, rx, ro, wx, wo, wa, cz]) ?_
  simp only [go_sem, ↓reduceIte, Nat.reduceEqDiff, Nat.reduceLT, reduceCtorEq, Nat.reduceAdd, Nat.reduceLeDiff, Nat.reduceBEq, Nat.reduceBNe, Int.reduceNeg, Int.reduceToNat, Int.reduceBEq, Int.reduceBNe, rx, ro, wx, wo, wa, cz]
  refine call_m (s_U32 false [] 0 0 (Nat.zero_le _) (by simp)) ⟨by decide, by decide⟩ (by first | rfl | exact slv_ids _) (by simp [go_sem, rx, ro, wx, wo, wa, cz]) rfl rfl (by rfl) ?_
  have u0 : rU false 32 [] 0 0 = (0, 0, 0) := rfl
  have u1 : (((0 : Nat) : Int) == 0) = true := rfl
  simp only [go_sem, ↓reduceIte, Nat.reduceEqDiff, Nat.reduceLT, reduceCtorEq, Nat.reduceAdd, Nat.reduceLeDiff, Nat.reduceBEq, Nat.reduceBNe, Int.reduceNeg, Int.reduceToNat, Int.reduceBEq, Int.reduceBNe, rx, ro, wx, wo, wa, cz, Bool.false_and, u0, u1]
  refine call_m (s_name false [] 0 0 (Nat.zero_le _) (by simp)) ⟨by decide, by decide⟩ (by first | rfl | exact slv_ids _) (by simp [go_sem, rx, ro, wx, wo, wa, cz]) rfl rfl (by rfl) ?_
  have n0 : rName false [] 0 0 = ([], 0, 0) := rfl
  simp only [go_sem, ↓reduceIte, Nat.reduceEqDiff, Nat.reduceLT, reduceCtorEq, Nat.reduceAdd, Nat.reduceLeDiff, Nat.reduceBEq, Nat.reduceBNe, Int.reduceNeg, Int.reduceToNat, Int.reduceBEq, Int.reduceBNe, rx, ro, wx, wo, wa, cz, Bool.false_and, n0]
  refine call_m (s_take false [] 0 0 n (Nat.zero_le _) (by simp) hn) ⟨by decide, by decide⟩ (by first | rfl | exact slv_ids _) (by simp [go_sem, rx, ro, wx, wo, wa, cz]) rfl rfl (by rfl) ?_
  have t0 : rTake false [] 0 0 n = (none, 0, 0) := rfl
  simp only [go_sem, ↓reduceIte, Nat.reduceEqDiff, Nat.reduceLT, reduceCtorEq, Nat.reduceAdd, Nat.reduceLeDiff, Nat.reduceBEq, Nat.reduceBNe, Int.reduceNeg, Int.reduceToNat, Int.reduceBEq, Int.reduceBNe, rx, ro, wx, wo, wa, cz, Bool.false_and, t0]
  refine call_same (s_alive) (by simp [go_sem, rx, ro, wx, wo, wa, cz]) ?_
  simp only [go_sem, ↓reduceIte, Nat.reduceEqDiff, Nat.reduceLT, reduceCtorEq, Nat.reduceAdd, Nat.reduceLeDiff, Nat.reduceBEq, Nat.reduceBNe, Int.reduceNeg, Int.reduceToNat, Int.reduceBEq, Int.reduceBNe, rx, ro, wx, wo, wa, cz]
  exact pdone [] (by simp only [go_sem, ↓reduceIte, Nat.reduceEqDiff, Nat.reduceLT, reduceCtorEq, Nat.reduceAdd, Nat.reduceLeDiff, Nat.reduceBEq, Nat.reduceBNe, Int.reduceNeg, Int.reduceToNat, Int.reduceBEq, Int.reduceBNe, rx, ro, wx, wo, wa, cz]) (by first | rfl | simp [go_sem, slv_ids, rx, ro, wx, wo, wa, cz])
end Go.Proofs.YtkejmhpodhbeeaaDoor
