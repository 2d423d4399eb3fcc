/-
  Chapter 11, walks: the reference reads labels.
-/
import Derived.Test.YtdhiiannngjjpaaDoorQf
set_option linter.unusedVariables false
set_option linter.unusedSimpArgs false
set_option linter.unusedSectionVars false
set_option maxRecDepth 100000
set_option maxHeartbeats 8000000
set_option linter.unusedVariables false
set_option linter.unusedSimpArgs false
namespace Go.Proofs.YtdhiiannngjjpaaDoor
open Go Go.Mw
-- @U: ro, wo, wa, wx, rx, bk_e, ins_e, vl_e

def pre (l : List Int) : Rd (List Int) → Rd (List Int)
  | .ok (l2, k) => .ok (l ++ l2, k)
  | .error e => .error e
theorem pre_nil (r : Rd (List Int)) : pre [] r = r := by cases r <;> rfl
theorem pre_step {b : List UInt8} {a n k : Nat} {x : Nat} {l : List Int} (h : gU b a = .ok (x, k)) : pre l (gL (n + 1) b a) = pre (l ++ [(x : Int)]) (gL n b k) := by
  simp only [gL, h]
  cases gL n b k with
  | ok p => obtain ⟨l2, k2⟩ := p; simp [pre]
  | error e => rfl
theorem pre_err {b : List UInt8} {a n : Nat} {e : Int × Nat} {l : List Int} (h : gU b a = .error e) : pre l (gL (n + 1) b a) = .error e := by
  simp only [gL, h]; rfl
def LI (b : List UInt8) (n a0 : Nat) (q : Nat × List Int × Nat × Int) : Prop :=
  q.1 ≤ n ∧ q.2.1.length = q.1 ∧ q.2.2.1 ≤ b.length ∧ ((q.2.2.2 = 0 ∧ gL n b a0 = pre q.2.1 (gL (n - q.1) b q.2.2.1)) ∨ (q.2.2.2 ≠ 0 ∧ gL n b a0 = .error (q.2.2.2, q.2.2.1)))
theorem LI_ok {b : List UInt8} {n a0 i : Nat} {l : List Int} {a : Nat} (h : LI b n a0 (i, l, a, 0)) (hi : i < n) {x k : Nat} (hk : k ≤ b.length) (g : gU b a = .ok (x, k)) : LI b n a0 (i + 1, l ++ [(x : Int)], k, 0) := by
  obtain ⟨h1, h2, h3, h4⟩ := h
  refine ⟨hi, by simp only [List.length_append, List.length_singleton]; simp only at h2; omega, hk, .inl ⟨rfl, ?_⟩⟩
  rcases h4 with ⟨_, h4⟩ | ⟨h4, _⟩
  · simp only at h4 ⊢
    rw [h4, show n - i = (n - (i + 1)) + 1 by omega, pre_step g]
  · exact absurd rfl h4
theorem LI_er {b : List UInt8} {n a0 i : Nat} {l : List Int} {a : Nat} (h : LI b n a0 (i, l, a, 0)) (hi : i < n) {e : Int} (he : e ≠ 0) (g : gU b a = .error (e, a)) : LI b n a0 (i + 1, l ++ [0], a, e) := by
  obtain ⟨h1, h2, h3, h4⟩ := h
  refine ⟨hi, by simp only [List.length_append, List.length_singleton]; simp only at h2; omega, h3, .inr ⟨he, ?_⟩⟩
  rcases h4 with ⟨_, h4⟩ | ⟨h4, _⟩
  · simp only at h4 ⊢
    rw [h4, show n - i = (n - (i + 1)) + 1 by omega, pre_err g]
  · exact absurd rfl h4
theorem LI_go {b : List UInt8} {n a0 i : Nat} {l : List Int} {a : Nat} {e : Int} (h : LI b n a0 (i, l, a, e)) (he : e ≠ 0) (hi : i < n) : LI b n a0 (i + 1, l ++ [0], a, e) := by
  obtain ⟨h1, h2, h3, h4⟩ := h
  refine ⟨hi, by simp only [List.length_append, List.length_singleton]; simp only at h2; omega, h3, .inr ⟨he, ?_⟩⟩
  rcases h4 with ⟨h4, _⟩ | ⟨_, h4⟩
  · exact absurd h4 he
  · exact h4
theorem LI_end {b : List UInt8} {n a0 : Nat} {l : List Int} {a : Nat} {e : Int} (h : LI b n a0 (n, l, a, e)) : (e = 0 ∧ gL n b a0 = .ok (l, a)) ∨ (e ≠ 0 ∧ gL n b a0 = .error (e, a)) := by
  obtain ⟨h1, h2, h3, h4⟩ := h
  rcases h4 with ⟨h4, h5⟩ | h4
  · refine .inl ⟨h4, ?_⟩
    simp only at h5
    rw [h5, Nat.sub_self]
    simp only [gL, pre, List.append_nil]
  · exact .inr h4
variable {b : List UInt8} {a : Nat} (ha : a ≤ b.length) (hb : b.length < 1000000000)
include ha hb
end Go.Proofs.YtdhiiannngjjpaaDoor
set_option maxRecDepth 100000
set_option maxHeartbeats 20000000
set_option linter.unusedVariables false
set_option linter.unusedSimpArgs false
namespace Go.Proofs.YtdhiiannngjjpaaDoor
open Go Go.Mw
-- @U: ro, wo, wa, wx, rx, bk_e, ins_e, vl_e

variable {b : List UInt8} {a : Nat} (ha : a ≤ b.length) (hb : b.length < 1000000000)
include ha hb
theorem s_getval_e {e : Int} (he : e ≠ 0) : RM n_bintype_GetVal [] true b a e (.int .i64 0) a e := by
  refine fun_sound (ic := F_bintype_GetVal.body) mixed c_bintype_GetVal rfl rfl ?_
  simp only [go_sem, ro, wo, wa, wx, rx, bk_e, ins_e, vl_e, F_bintype_GetVal]
  refine call_m (s_byte true b a e ha hb) ⟨by decide, by decide⟩ (by first | rfl | exact slv_ids _) (by simp [go_sem, ro, wo, wa, wx, rx, bk_e, ins_e, vl_e]) rfl rfl (by rfl) ?_
  simp only [go_sem, ro, wo, wa, wx, rx, bk_e, ins_e, vl_e, e_f he, Bool.true_and, rByte_f]
  refine call_m (s_err true b a e) ⟨by decide, by decide⟩ (by first | rfl | exact slv_ids _) (by simp [go_sem, ro, wo, wa, wx, rx, bk_e, ins_e, vl_e]) rfl rfl (by rfl) ?_
  simp only [go_sem, ro, wo, wa, wx, rx, bk_e, ins_e, vl_e, e_t he]
  exact done [] _ [(1000, ro true b a e)] (by simp only [go_sem, ro, wo, wa, wx, rx, bk_e, ins_e, vl_e]) (by simp only [go_sem, ro, wo, wa, wx, rx, bk_e, ins_e, vl_e]) rfl ⟨rfl, rfl⟩
end Go.Proofs.YtdhiiannngjjpaaDoor
