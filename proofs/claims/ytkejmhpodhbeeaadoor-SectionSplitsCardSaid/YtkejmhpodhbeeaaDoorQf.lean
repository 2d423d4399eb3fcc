/-
  Chapter 2, walks: the rest of octet.Writer; nil receivers.
-/
import Derived.Test.YtkejmhpodhbeeaaDoorQd
import Derived.Test.YtkejmhpodhbeeaaDoorQe
set_option linter.unusedVariables false
set_option linter.unusedSimpArgs false
set_option linter.unusedSectionVars false
set_option linter.unusedSimpArgs false
set_option maxRecDepth 100000
set_option maxHeartbeats 4000000
set_option linter.unusedVariables false
namespace Go.Proofs.YtkejmhpodhbeeaaDoor
open Go Go.Mw
-- @U: wo, wa, slv_none, slv_some

/-- The end of a method of a Writer. -/
theorem doneW {l : List IRes} {s : St} {r : AV} {m : Bool} {x : List UInt8} {y : Int} {e : IX} (he : ∀ j, e ≠ .ext j) (h1 : iret l s = some r) (h2 : hget s.heap 1000 = some (wo 2000 m x y)) (h3 : hget s.heap 2000 = some (wa x)) (h4 : idsV r = []) :
    Done l (fun r' σ' => r' = r ∧ σ' = [(1000, wo 2000 m x y), (2000, wa x)]) e s := by
  refine ⟨he, s, fun _ _ _ h => h, [], r, [(1000, wo 2000 m x y), (2000, wa x)], h1, fun i o hi => ?_, clB_closed ?_, rfl, rfl⟩
  · simp only [hget] at hi
    split at hi
    · rename_i hki; subst hki; cases hi; exact h2
    · split at hi
      · rename_i hki; subst hki; cases hi; exact h3
      · cases hi
  · rw [clB, h4]; rfl
/-- Numbers with a sign: what is written. -/
def wS (ok : Bool) (l : List UInt8) (n : Int) : List UInt8 := wB ok l (putS n)
def wS33 (ok : Bool) (l : List UInt8) (e n : Int) : List UInt8 × Int := if n < -4294967296 ∨ n > 4294967295 then (l, if ok = true then 1 else e) else (wS ok l n, e)
def s32 (x : Int) : Int := IntKind.i64.wrap (IntKind.i32.wrap (IntKind.u32.wrap x))
theorem s32_in (x : Int) : -2147483648 ≤ s32 x ∧ s32 x < 2147483648 := by
  unfold s32
  rw [w_i64, w_i32]
  omega
theorem i64_in (x : Int) : inI (IntKind.i64.wrap x) := by unfold inI; rw [w_i64]; omega
theorem putS_10 {n : Int} (h : inI n) : (putS n).length ≤ 10 := putS_len (k := 9) (by unfold inI at h; omega) (by unfold inI at h; omega)
section
variable (m : Bool) (l : List UInt8) (e : Int) (hl : l.length < 10000000)
include hl
theorem s_wS32 (x : Int) : WM n_Poctet_Writer_S32 [.int .u64 x] m l e (.tup []) (wS (m && e == 0) l (s32 x)) e := by
  refine fun_sound (ic := F_Poctet_Writer_S32.body) mixed c_Poctet_Writer_S32 rfl rfl ?_
  have h1 := s32_in x
  have h2 := putS_10 (n := s32 x) ⟨by omega, by omega⟩
  simp only [go_sem, wo, wa, F_Poctet_Writer_S32]
  refine call_same (s_PutS (s32 x) (by omega)) (by simp [go_sem, wo, wa]) ?_
  simp only [go_sem, wo, wa]
  refine call_w [] (k := 1000) (j := 2000) (s_wbytes m l (putS (s32 x)) e ⟨by omega, by omega⟩) (by decide) (by decide) (by decide) (by decide) (by first | rfl | simp [go_sem, slv_ids, wo, wa]) (by simp [go_sem, wo, wa]) (by rfl) (by rfl) (by rfl) ?_
  simp only [go_sem, wo, wa]
  exact doneW (fun _ h => by cases h) (by simp only [go_sem, wo, wa]) (by simp only [go_sem, wo, wa]; rfl) (by simp only [go_sem, wo, wa]; rfl) rfl
theorem s_wS64 (x : Int) : WM n_Poctet_Writer_S64 [.int .u64 x] m l e (.tup []) (wS (m && e == 0) l (IntKind.i64.wrap x)) e := by
  refine fun_sound (ic := F_Poctet_Writer_S64.body) mixed c_Poctet_Writer_S64 rfl rfl ?_
  have h2 := putS_10 (i64_in x)
  simp only [go_sem, wo, wa, F_Poctet_Writer_S64]
  refine call_same (s_PutS (IntKind.i64.wrap x) (i64_in x)) (by simp [go_sem, wo, wa]) ?_
  simp only [go_sem, wo, wa]
  refine call_w [] (k := 1000) (j := 2000) (s_wbytes m l (putS (IntKind.i64.wrap x)) e ⟨by omega, by omega⟩) (by decide) (by decide) (by decide) (by decide) (by first | rfl | simp [go_sem, slv_ids, wo, wa]) (by simp [go_sem, wo, wa]) (by rfl) (by rfl) (by rfl) ?_
  simp only [go_sem, wo, wa]
  exact doneW (fun _ h => by cases h) (by simp only [go_sem, wo, wa]) (by simp only [go_sem, wo, wa]; rfl) (by simp only [go_sem, wo, wa]; rfl) rfl
theorem s_wS33 (x : Int) (hx : inI x) : WM n_Poctet_Writer_S33 [.int .i64 x] m l e (.tup []) (wS33 (m && e == 0) l e x).1 (wS33 (m && e == 0) l e x).2 := by
  refine fun_sound (ic := F_Poctet_Writer_S33.body) mixed c_Poctet_Writer_S33 rfl rfl ?_
  by_cases h1 : x < -4294967296
  · have r : wS33 (m && e == 0) l e x = (l, if (m && e == 0) = true then 1 else e) := by simp [wS33, h1]
    rw [r]
    simp only [go_sem, wo, wa, F_Poctet_Writer_S33, decide_eq_true h1]
    refine call_w [] (k := 1000) (j := 2000) (s_wfail m l e 1) (by decide) (by decide) (by decide) (by decide) (by first | rfl | simp [go_sem, slv_ids, wo, wa]) (by simp [go_sem, wo, wa]) (by rfl) (by rfl) (by rfl) ?_
    simp only [go_sem, wo, wa]
    exact doneW (fun _ h => by cases h) (by simp only [go_sem, wo, wa]) (by simp only [go_sem, wo, wa]) (by simp only [go_sem, wo, wa]) rfl
  · by_cases h2 : x > 4294967295
    · have r : wS33 (m && e == 0) l e x = (l, if (m && e == 0) = true then 1 else e) := by simp [wS33, h2]
      rw [r]
      simp only [go_sem, wo, wa, F_Poctet_Writer_S33, decide_eq_false h1, decide_eq_true h2]
      refine call_w [] (k := 1000) (j := 2000) (s_wfail m l e 1) (by decide) (by decide) (by decide) (by decide) (by first | rfl | simp [go_sem, slv_ids, wo, wa]) (by simp [go_sem, wo, wa]) (by rfl) (by rfl) (by rfl) ?_
      simp only [go_sem, wo, wa]
      exact doneW (fun _ h => by cases h) (by simp only [go_sem, wo, wa]) (by simp only [go_sem, wo, wa]) (by simp only [go_sem, wo, wa]) rfl
    · have r : wS33 (m && e == 0) l e x = (wS (m && e == 0) l x, e) := by simp [wS33, h1, h2]
      have h3 := putS_10 hx
      rw [r]
      simp only [go_sem, wo, wa, F_Poctet_Writer_S33, decide_eq_false h1, decide_eq_false h2]
      refine call_same (s_PutS x hx) (by simp [go_sem, wo, wa]) ?_
      simp only [go_sem, wo, wa]
      refine call_w [] (k := 1000) (j := 2000) (s_wbytes m l (putS x) e ⟨by omega, by omega⟩) (by decide) (by decide) (by decide) (by decide) (by first | rfl | simp [go_sem, slv_ids, wo, wa]) (by simp [go_sem, wo, wa]) (by rfl) (by rfl) (by rfl) ?_
      simp only [go_sem, wo, wa]
      exact doneW (fun _ h => by cases h) (by simp only [go_sem, wo, wa]) (by simp only [go_sem, wo, wa]; rfl) (by simp only [go_sem, wo, wa]; rfl) rfl

/-- Part: what is written, and the error. -/
def wP (ok : Bool) (l : List UInt8) (e : Int) (mp : Bool) (lp : List UInt8) (ep : Int) : List UInt8 × Int :=
  if mp = true then (if ep ≠ 0 then (l, if ok = true then ep else e) else (wB ok (wB ok l (putU lp.length)) lp, e)) else (l, if ok = true then 2 else e)
theorem s_wpart (mp : Bool) (lp : List UInt8) (ep : Int) (hp : lp.length < 10000000) :
    ACalls Tryd.prog n_Poctet_Writer_Part [.mp 1000 3 0 0, .mp 1001 3 0 0] [(1000, wo 2000 m l e), (2000, wa l), (1001, wo 2001 mp lp ep), (2001, wa lp)] sb
      (fun r' σ' => r' = .tup [] ∧ σ' = [(1000, wo 2000 m (wP (m && e == 0) l e mp lp ep).1 (wP (m && e == 0) l e mp lp ep).2), (2000, wa (wP (m && e == 0) l e mp lp ep).1), (1001, wo 2001 mp lp ep), (2001, wa lp)]) := by
  refine fun_sound (ic := F_Poctet_Writer_Part.body) mixed c_Poctet_Writer_Part rfl rfl ?_
  cases mp
  · have r : wP (m && e == 0) l e false lp ep = (l, if (m && e == 0) = true then 2 else e) := by simp [wP]
    rw [r]
    simp only [go_sem, wo, wa, F_Poctet_Writer_Part]
    refine call_w [] (k := 1000) (j := 2000) (s_wfail m l e 2) (by decide) (by decide) (by decide) (by decide) (by first | rfl | simp [go_sem, slv_ids, wo, wa]) (by simp [go_sem, wo, wa]) (by rfl) (by rfl) (by rfl) ?_
    simp only [go_sem, wo, wa]
    exact done [] _ [(1000, wo 2000 m l (if (m && e == 0) = true then 2 else e)), (2000, wa l), (1001, wo 2001 false lp ep), (2001, wa lp)] (by simp only [go_sem, wo, wa]) (by simp only [go_sem, wo, wa]) rfl ⟨rfl, rfl⟩
  · by_cases h : ep = 0
    · subst h
      have r : wP (m && e == 0) l e true lp 0 = (wB (m && e == 0) (wB (m && e == 0) l (putU lp.length)) lp, e) := by simp [wP]
      have r1 : wU (m && e == 0) l e lp.length = (wB (m && e == 0) l (putU lp.length), e) := by
        unfold wU wB
        have h1 : ¬ ((lp.length : Int) < 0 ∨ (lp.length : Int) > 4294967295) := by omega
        cases (m && e == 0) <;> simp only [if_true, if_neg h1, Bool.false_eq_true, if_false, Int.toNat_natCast]
      have c1 := s_wU32 m l e lp.length (by omega)
      have hp2 := putU_32 (n := lp.length) (by omega)
      have hl2 := wB_len (ok := (m && e == 0)) (l := l) (x := putU lp.length)
      have hr := rowO_map 1 lp.length 5 by_ lp rfl
      rw [r1] at c1
      rw [r]
      simp only [go_sem, wo, wa, F_Poctet_Writer_Part, hr]
      refine ⟨by omega, ?_⟩
      refine call_w [] (k := 1000) (j := 2000) (c1) (by decide) (by decide) (by decide) (by decide) (by first | rfl | simp [go_sem, slv_ids, wo, wa]) (by simp [go_sem, wo, wa]) (by rfl) (by rfl) (by rfl) ?_
      simp only [go_sem, wo, wa]
      refine call_w [31] (k := 1000) (j := 2000) (s_wbytes m (wB (m && e == 0) l (putU lp.length)) lp e ⟨by omega, by omega⟩) (by decide) (by decide) (by decide) (by decide) (by first | rfl | simp [go_sem, slv_ids, wo, wa]) (by simp [go_sem, wo, wa]) ?_ (by rfl) (by rfl) ?_
      · simp only [go_sem, wo, wa, Nat.le_refl, List.length_map]
        rw [List.take_of_length_le (by simp)]
      · simp only [go_sem, wo, wa]
        exact done_n [] _ [(1000, wo 2000 m (wB (m && e == 0) (wB (m && e == 0) l (putU lp.length)) lp) e), (2000, wa (wB (m && e == 0) (wB (m && e == 0) l (putU lp.length)) lp)), (1001, wo 2001 true lp 0), (2001, wa lp)] (by simp only [go_sem, wo, wa]) (by simp only [go_sem, wo, wa]) rfl ⟨rfl, rfl⟩
    · have r : wP (m && e == 0) l e true lp ep = (l, if (m && e == 0) = true then ep else e) := by simp [wP, h]
      rw [r]
      simp only [go_sem, wo, wa, F_Poctet_Writer_Part, bne_t h]
      refine call_w [] (k := 1000) (j := 2000) (s_wfail m l e ep) (by decide) (by decide) (by decide) (by decide) (by first | rfl | simp [go_sem, slv_ids, wo, wa]) (by simp [go_sem, wo, wa]) (by rfl) (by rfl) (by rfl) ?_
      simp only [go_sem, wo, wa]
      exact done [] _ [(1000, wo 2000 m l (if (m && e == 0) = true then ep else e)), (2000, wa l), (1001, wo 2001 true lp ep), (2001, wa lp)] (by simp only [go_sem, wo, wa]) (by simp only [go_sem, wo, wa]) rfl ⟨rfl, rfl⟩
end
end Go.Proofs.YtkejmhpodhbeeaaDoor
set_option linter.unusedSimpArgs false
set_option maxRecDepth 100000
set_option maxHeartbeats 4000000
set_option linter.unusedVariables false
set_option linter.unusedSectionVars false
namespace Go.Proofs.YtkejmhpodhbeeaaDoor
open Go Go.Mw
-- @U: wx, slv_none, slv_some

def wx (l : List UInt8) (e : Int) : AV := .agg [.sl 1 (l.map by_), .int .i64 e]
theorem appO_nil (id : Nat) (ys : List (List AV)) (hy : ys.length < 1000000000) (hid : id < 1000) : appO id 5 1 0 0 ys (some ⟨5, 1, [], false⟩) = some (.ms id 1 0 ys.length, .reb id ⟨5, 1, ys, false⟩) := by
  have h := appO_map id 5 1 0 by_ [] ys rfl
  rw [if_pos ⟨by omega, by decide, .inl hid⟩] at h
  simpa using h
theorem appO_by (id : Nat) (l x : List UInt8) (hl : l.length < 1000000000) (hx : x.length < 1000000000) (hid : id < 1000) : appO id 5 1 0 l.length (x.map by_) (some ⟨5, 1, l.map by_, false⟩) = some (.ms id 1 0 (l.length + x.length), .reb id ⟨5, 1, (l ++ x).map by_, false⟩) := by
  have h := appO_map id 5 1 l.length by_ l (x.map by_) rfl
  rw [if_pos ⟨by simp; omega, by omega, .inl hid⟩] at h
  rw [h, List.map_append, List.length_map]
theorem p_Fail (l : List UInt8) (e x : Int) : PCalls Tryd.prog n_ref02_PutFail [wx l e, .int .i64 x] (wx l (if e = 0 then x else e)) := by
  refine pfun_sound (ic := F_ref02_PutFail.body) mixed c_ref02_PutFail rfl rfl ?_
  by_cases h : e = 0
  · subst h
    simp only [go_sem, wx, F_ref02_PutFail]
    exact pdone [] (by simp only [go_sem, wx]) (by first | rfl | simp [go_sem, slv_ids, wx])
  · simp only [go_sem, wx, F_ref02_PutFail, beq_f h, if_neg h]
    exact pdone [] (by simp only [go_sem, wx]) (by first | rfl | simp [go_sem, slv_ids, wx])
theorem p_Bytes (l : List UInt8) (e : Int) (hl : l.length < 10000000) (x : List UInt8) (hx : x.length < 10000000) : PCalls Tryd.prog n_ref02_PutBytes [wx l e, .sl 1 (x.map by_)] (wx (wB (e == 0) l x) e) := by
  refine pfun_sound (ic := F_ref02_PutBytes.body) mixed c_ref02_PutBytes rfl rfl ?_
  by_cases h : e = 0
  · subst h
    have r : wB ((0 : Int) == 0) l x = l ++ x := rfl
    have a1 := appO_nil 9 (l.map by_) (by simp; omega) (by decide)
    have a2 := appO_by 9 l x (by omega) (by omega) (by decide)
    rw [List.length_map] at a1
    rw [r]
    simp only [go_sem, wx, F_ref02_PutBytes, a1, a2, List.length_map]
    refine pdone [9] ?_ ?_
    · simp only [go_sem, wx, Nat.le_refl, List.length_map, List.length_append]
      rw [List.take_of_length_le (by simp)]
    · rfl
  · have r : wB (e == 0) l x = l := by simp [wB, h]
    rw [r]
    simp only [go_sem, wx, F_ref02_PutBytes, bne_t h]
    exact pdone [] (by simp only [go_sem, wx]) (by first | rfl | simp [go_sem, slv_ids, wx])
section
variable (l : List UInt8) (e : Int) (hl : l.length < 9000000)
include hl
theorem p_Byte (x : UInt8) : PCalls Tryd.prog n_ref02_PutByte [wx l e, .int .u8 x.toNat] (wx (wB (e == 0) l [x]) e) := by
  refine pfun_sound (ic := F_ref02_PutByte.body) mixed c_ref02_PutByte rfl rfl ?_
  simp only [go_sem, wx, F_ref02_PutByte]
  refine call_frz [7] ?_ (p_Bytes l e (by omega) [x] (by simp)) (by simp [go_sem, wx]) ?_
  · simp only [go_sem, wx, Nat.le_refl, List.length_cons, List.length_nil]
  simp only [go_sem, wx]
  exact pdone [] (by simp only [go_sem, wx]) (by first | rfl | simp [go_sem, slv_ids, wx])
theorem p_U32 (n : Int) : PCalls Tryd.prog n_ref02_PutU32 [wx l e, .int .i64 n] (wx (wU (e == 0) l e n).1 (wU (e == 0) l e n).2) := by
  refine pfun_sound (ic := F_ref02_PutU32.body) mixed c_ref02_PutU32 rfl rfl ?_
  have bad : n < 0 ∨ n > 4294967295 → wU (e == 0) l e n = (l, if e = 0 then 1 else e) := fun h => by
    unfold wU
    by_cases h2 : e = 0 <;> simp [h, h2]
  by_cases h1 : n < 0
  · rw [bad (.inl h1)]
    simp only [go_sem, wx, F_ref02_PutU32, decide_eq_true h1]
    refine call_same (p_Fail l e 1) (by simp [go_sem, wx]) ?_
    simp only [go_sem, wx]
    exact pdone [] (by simp only [go_sem, wx]) (by first | rfl | simp [go_sem, slv_ids, wx])
  · by_cases h2 : n ≥ 4294967296
    · rw [bad (.inr (by omega))]
      simp only [go_sem, wx, F_ref02_PutU32, decide_eq_false h1, decide_eq_true h2]
      refine call_same (p_Fail l e 1) (by simp [go_sem, wx]) ?_
      simp only [go_sem, wx]
      exact pdone [] (by simp only [go_sem, wx]) (by first | rfl | simp [go_sem, slv_ids, wx])
    · obtain ⟨k, rfl⟩ := Int.eq_ofNat_of_zero_le (show 0 ≤ n by omega)
      have h3 : ¬ ((k : Int) < 0 ∨ (k : Int) > 4294967295) := by omega
      have r : wU (e == 0) l e k = (wB (e == 0) l (putU k), e) := by
        unfold wU wB
        cases (e == 0) <;> simp only [if_true, if_neg h3, Bool.false_eq_true, if_false, Int.toNat_natCast]
      have w1 : IntKind.u64.wrap (k : Int) = (k : Int) := by rw [w_u64]; omega
      have hp := putU_32 (n := k) (by omega)
      rw [r]
      simp only [go_sem, wx, F_ref02_PutU32, decide_eq_false h1, decide_eq_false h2, w1]
      first | refine call_same (s_rPutU k (by omega)) (by simp [go_sem]) ?_ | refine dcall_same (s_rPutU k (by omega)) (by simp [go_sem]) rfl ?_
      simp only [go_sem, wx]
      refine call_same (p_Bytes l e (by omega) (putU k) (by omega)) (by simp [go_sem, wx]) ?_
      simp only [go_sem, wx]
      exact pdone [] (by simp only [go_sem, wx]) (by first | rfl | simp [go_sem, slv_ids, wx])
theorem p_S32 (x : Int) : PCalls Tryd.prog n_ref02_PutS32 [wx l e, .int .u64 x] (wx (wS (e == 0) l (s32 x)) e) := by
  refine pfun_sound (ic := F_ref02_PutS32.body) mixed c_ref02_PutS32 rfl rfl ?_
  have h1 := s32_in x
  have h2 := putS_10 (n := s32 x) ⟨by omega, by omega⟩
  simp only [go_sem, wx, F_ref02_PutS32]
  first | refine call_same (s_rPutS (s32 x) (by omega)) (by simp [go_sem]) ?_ | refine dcall_same (s_rPutS (s32 x) (by omega)) (by simp [go_sem]) rfl ?_
  simp only [go_sem, wx]
  refine call_same (p_Bytes l e (by omega) (putS (s32 x)) (by omega)) (by simp [go_sem, wx]) ?_
  simp only [go_sem, wx]
  exact pdone [] (by simp only [go_sem, wx]; rfl) rfl
theorem p_S64 (x : Int) : PCalls Tryd.prog n_ref02_PutS64 [wx l e, .int .u64 x] (wx (wS (e == 0) l (IntKind.i64.wrap x)) e) := by
  refine pfun_sound (ic := F_ref02_PutS64.body) mixed c_ref02_PutS64 rfl rfl ?_
  have h2 := putS_10 (i64_in x)
  simp only [go_sem, wx, F_ref02_PutS64]
  first | refine call_same (s_rPutS (IntKind.i64.wrap x) (i64_in x)) (by simp [go_sem]) ?_ | refine dcall_same (s_rPutS (IntKind.i64.wrap x) (i64_in x)) (by simp [go_sem]) rfl ?_
  simp only [go_sem, wx]
  refine call_same (p_Bytes l e (by omega) (putS (IntKind.i64.wrap x)) (by omega)) (by simp [go_sem, wx]) ?_
  simp only [go_sem, wx]
  exact pdone [] (by simp only [go_sem, wx]; rfl) rfl
theorem p_S33 (x : Int) (hx : inI x) : PCalls Tryd.prog n_ref02_PutS33 [wx l e, .int .i64 x] (wx (wS33 (e == 0) l e x).1 (wS33 (e == 0) l e x).2) := by
  refine pfun_sound (ic := F_ref02_PutS33.body) mixed c_ref02_PutS33 rfl rfl ?_
  have bad : x < -4294967296 ∨ x > 4294967295 → wS33 (e == 0) l e x = (l, if e = 0 then 1 else e) := fun h => by
    unfold wS33
    by_cases h2 : e = 0 <;> simp [h, h2]
  by_cases h1 : x < -4294967296
  · rw [bad (.inl h1)]
    simp only [go_sem, wx, F_ref02_PutS33, decide_eq_true h1]
    refine call_same (p_Fail l e 1) (by simp [go_sem, wx]) ?_
    simp only [go_sem, wx]
    exact pdone [] (by simp only [go_sem, wx]) (by first | rfl | simp [go_sem, slv_ids, wx])
  · by_cases h2 : x ≥ 4294967296
    · rw [bad (.inr (by omega))]
      simp only [go_sem, wx, F_ref02_PutS33, decide_eq_false h1, decide_eq_true h2]
      refine call_same (p_Fail l e 1) (by simp [go_sem, wx]) ?_
      simp only [go_sem, wx]
      exact pdone [] (by simp only [go_sem, wx]) (by first | rfl | simp [go_sem, slv_ids, wx])
    · have h3 : ¬ (x < -4294967296 ∨ x > 4294967295) := by omega
      have r : wS33 (e == 0) l e x = (wS (e == 0) l x, e) := by rw [wS33, if_neg h3]
      have h4 := putS_10 hx
      rw [r]
      simp only [go_sem, wx, F_ref02_PutS33, decide_eq_false h1, decide_eq_false h2]
      first | refine call_same (s_rPutS x hx) (by simp [go_sem]) ?_ | refine dcall_same (s_rPutS x hx) (by simp [go_sem]) rfl ?_
      simp only [go_sem, wx]
      refine call_same (p_Bytes l e (by omega) (putS x) (by omega)) (by simp [go_sem, wx]) ?_
      simp only [go_sem, wx]
      exact pdone [] (by simp only [go_sem, wx]; rfl) rfl
theorem p_Name (x : List UInt8) (hx : x.length < 10000000) : PCalls Tryd.prog n_ref02_PutName [wx l e, .str x] (wx (wN (e == 0) l e x).1 (wN (e == 0) l e x).2) := by
  refine pfun_sound (ic := F_ref02_PutName.body) mixed c_ref02_PutName rfl rfl ?_
  simp only [go_sem, wx, F_ref02_PutName]
  refine call_same (s_uvS x (by omega)) (by simp [go_sem, wx]) ?_
  cases hv : uv x
  · have r : wN (e == 0) l e x = (l, if e = 0 then 9 else e) := by
      unfold wN; by_cases h2 : e = 0 <;> simp [hv, h2]
    rw [r]
    simp only [go_sem, wx]
    refine call_same (p_Fail l e 9) (by simp [go_sem, wx]) ?_
    simp only [go_sem, wx]
    exact pdone [] (by simp only [go_sem, wx]) (by first | rfl | simp [go_sem, slv_ids, wx])
  · by_cases h64 : x.length > 64
    · have d1 : decide ((x.length : Int) > 64) = true := decide_eq_true (by omega)
      have r : wN (e == 0) l e x = (l, if e = 0 then 6 else e) := by
        unfold wN; by_cases h2 : e = 0 <;> simp [hv, h64, h2]
      rw [r]
      simp only [go_sem, wx, d1]
      refine call_same (p_Fail l e 6) (by simp [go_sem, wx]) ?_
      simp only [go_sem, wx]
      exact pdone [] (by simp only [go_sem, wx]) (by first | rfl | simp [go_sem, slv_ids, wx])
    · have d1 : decide ((x.length : Int) > 64) = false := decide_eq_false (by omega)
      have r1 : wU (e == 0) l e x.length = (wB (e == 0) l (putU x.length), e) := by
        unfold wU wB
        have h1 : ¬ ((x.length : Int) < 0 ∨ (x.length : Int) > 4294967295) := by omega
        cases (e == 0) <;> simp only [if_true, if_neg h1, Bool.false_eq_true, if_false, Int.toNat_natCast]
      have r : wN (e == 0) l e x = (wB (e == 0) (wB (e == 0) l (putU x.length)) x, e) := by
        unfold wN wB; cases (e == 0) <;> simp [hv, h64]
      have hp := putU_32 (n := x.length) (by omega)
      have hl2 := wB_len (ok := (e == 0)) (l := l) (x := putU x.length)
      have c1 := p_U32 l e hl x.length
      rw [r1] at c1
      rw [r]
      simp only [go_sem, wx, d1]
      refine call_same (c1) (by simp [go_sem, wx]) ?_
      simp only [go_sem, wx]
      refine ⟨by omega, ?_⟩
      refine call_frz [20] ?_ (p_Bytes (wB (e == 0) l (putU x.length)) e (by omega) x hx) (by simp [go_sem, wx]) ?_
      · simp only [go_sem, wx, Nat.le_refl, List.length_map]
        rw [List.take_of_length_le (by simp)]
        rfl
      simp only [go_sem, wx]
      exact pdone [] (by simp only [go_sem, wx]) (by first | rfl | simp [go_sem, slv_ids, wx])
theorem p_Part (x : List UInt8) (ex : Int) (hx : x.length < 1000000) : PCalls Tryd.prog n_ref02_PutPart [wx l e, wx x ex] (wx (wP (e == 0) l e true x ex).1 (wP (e == 0) l e true x ex).2) := by
  refine pfun_sound (ic := F_ref02_PutPart.body) mixed c_ref02_PutPart rfl rfl ?_
  by_cases h : ex = 0
  · subst h
    have r1 : wU (e == 0) l e x.length = (wB (e == 0) l (putU x.length), e) := by
      unfold wU wB
      have h1 : ¬ ((x.length : Int) < 0 ∨ (x.length : Int) > 4294967295) := by omega
      cases (e == 0) <;> simp only [if_true, if_neg h1, Bool.false_eq_true, if_false, Int.toNat_natCast]
    have r : wP (e == 0) l e true x 0 = (wB (e == 0) (wB (e == 0) l (putU x.length)) x, e) := by simp [wP]
    have hp := putU_32 (n := x.length) (by omega)
    have hl2 := wB_len (ok := (e == 0)) (l := l) (x := putU x.length)
    have c1 := p_U32 l e hl x.length
    rw [r1] at c1
    rw [r]
    simp only [go_sem, wx, F_ref02_PutPart, List.length_map]
    first | refine call_same c1 (by simp [go_sem, wx]) ?_ | refine dcall_same c1 (by simp [go_sem, wx]) rfl ?_
    simp only [go_sem, wx]
    refine call_same (p_Bytes (wB (e == 0) l (putU x.length)) e (by omega) x (by omega)) (by simp [go_sem, wx]) ?_
    simp only [go_sem, wx]
    exact pdone [] (by simp only [go_sem, wx]) (by first | rfl | simp [go_sem, slv_ids, wx])
  · have r : wP (e == 0) l e true x ex = (l, if e = 0 then ex else e) := by simp [wP, h]
    rw [r]
    simp only [go_sem, wx, F_ref02_PutPart, bne_t h]
    refine call_same (p_Fail l e ex) (by simp [go_sem, wx]) ?_
    simp only [go_sem, wx]
    exact pdone [] (by simp only [go_sem, wx]) (by first | rfl | simp [go_sem, slv_ids, wx])
end
def wDr (l : List UInt8) (e : Int) : Option (List UInt8) × Int := wD true l e
theorem p_Done (l : List UInt8) (e : Int) : PCalls Tryd.prog n_ref02_Done [wx l e] (.tup [slv (wD true l e).1, .int .i64 (wD true l e).2]) := by
  refine pfun_sound (ic := F_ref02_Done.body) mixed c_ref02_Done rfl rfl ?_
  by_cases h : e = 0
  · subst h
    have r : wD true l 0 = (some l, 0) := rfl
    rw [r]
    simp only [go_sem, wx, F_ref02_Done]
    exact pdone [] (by simp only [go_sem, wx]) (by first | rfl | simp [go_sem, slv_ids, wx])
  · have r : wD true l e = (none, e) := by simp [wD, h]
    rw [r]
    simp only [go_sem, wx, F_ref02_Done, bne_t h]
    exact pdone [] (by simp only [go_sem, wx]) (by first | rfl | simp [go_sem, slv_ids, wx])
end Go.Proofs.YtkejmhpodhbeeaaDoor
