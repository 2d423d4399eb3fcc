/-
  Chapter 11 in plain Lean: instructions up to the matching end.
-/
import Derived.Test.YtdhiiannngjjpaaDoorQp
import Derived.Test.YtdhiiannngjjpaaDoorQq
import Derived.Test.YtdhiiannngjjpaaDoorQr
import Derived.Test.YtdhiiannngjjpaaDoorQe
set_option linter.unusedVariables false
set_option linter.unusedSimpArgs false
set_option linter.unusedSectionVars false
set_option maxRecDepth 100000
set_option maxHeartbeats 8000000
set_option linter.unusedVariables false
set_option linter.unusedSimpArgs false
namespace Go.Proofs.YtdhiiannngjjpaaDoor
open Go Go.Mw

theorem gB_adv {b : List UInt8} {a k : Nat} {x : UInt8} (h : gB b a = .ok (x, k)) : k = a + 1 ∧ k ≤ b.length := by
  unfold gB at h
  split at h
  · cases h; exact ⟨rfl, by omega⟩
  · cases h
theorem gU_adv {b : List UInt8} {a k n : Nat} (ha : a ≤ b.length) (h : gU b a = .ok (n, k)) : a ≤ k ∧ k ≤ b.length ∧ n < 4294967296 := by
  have h1 := decU_lt (b.drop a) 32 (by decide)
  have h2 := decU_k (b.drop a) 32
  simp only [List.length_drop] at h2
  unfold gU at h
  split at h
  · cases h; exact ⟨by omega, by omega, h1⟩
  · cases h
theorem gS_adv {bits : Nat} {b : List UInt8} {a k : Nat} {n : Int} (ha : a ≤ b.length) (h : gS bits b a = .ok (n, k)) : a ≤ k ∧ k ≤ b.length := by
  have h2 := decS_k (b.drop a) bits
  simp only [List.length_drop] at h2
  unfold gS at h
  split at h
  · cases h; exact ⟨by omega, by omega⟩
  · cases h
theorem gV_adv {b : List UInt8} {a k : Nat} {t : Int} (h : gV b a = .ok (t, k)) : a ≤ k ∧ k ≤ b.length := by
  unfold gV at h
  split at h
  · rename_i x k' h1
    have := gB_adv h1
    split at h
    · cases h; omega
    · cases h
  · cases h
theorem gC_adv {b : List UInt8} {a k n : Nat} {most : Int} (ha : a ≤ b.length) (h : gC b a most = .ok (n, k)) : a ≤ k ∧ k ≤ b.length ∧ (n : Int) ≤ most := by
  unfold gC at h
  split at h
  · rename_i x k' h1
    have := gU_adv ha h1
    split at h
    · cases h
    · cases h; omega
  · cases h
theorem gL_adv : ∀ (n : Nat) {b : List UInt8} {a k : Nat} {l : List Int}, a ≤ b.length → gL n b a = .ok (l, k) → a ≤ k ∧ k ≤ b.length ∧ l.length = n
  | 0, b, a, k, l, ha, h => by cases h; exact ⟨Nat.le_refl _, ha, rfl⟩
  | n + 1, b, a, k, l, ha, h => by
    unfold gL at h
    split at h
    · rename_i x k1 h1
      have := gU_adv ha h1
      split at h
      · rename_i l2 k2 h2
        have := gL_adv n this.2.1 h2
        cases h
        exact ⟨by omega, by omega, by simp; omega⟩
      · cases h
    · cases h
theorem gK_adv {b : List UInt8} {a k : Nat} {q : Int × Int × Int} (ha : a ≤ b.length) (h : gK b a = .ok (q, k)) : a ≤ k ∧ k ≤ b.length := by
  unfold gK at h
  split at h
  · rename_i n k' h1
    have := gS_adv ha h1
    split at h
    · cases h; exact this
    split at h
    · cases h; exact this
    split at h
    · cases h; exact this
    · cases h
  · cases h
theorem gA_adv {b : List UInt8} {a k : Nat} {q : Int × Int × Int} (ha : a ≤ b.length) (h : gA b a = .ok (q, k)) : a ≤ k ∧ k ≤ b.length := by
  unfold gA at h
  split at h
  · rename_i n k' h1
    have q1 := gU_adv ha h1
    split at h
    · cases h
    split at h
    · split at h
      · rename_i y k1 h2
        have q2 := gU_adv q1.2.1 h2
        split at h
        · rename_i z k2 h3
          have q3 := gU_adv q2.2.1 h3
          cases h; omega
        · cases h
      · cases h
    · split at h
      · rename_i z k2 h3
        have q3 := gU_adv q1.2.1 h3
        cases h; omega
      · cases h
  · cases h
theorem gM_adv {i : Int} {b : List UInt8} {a k : Nat} {x : Ins} (ha : a ≤ b.length) (h : gM i b a = .ok (x, k)) : a ≤ k ∧ k ≤ b.length := by
  unfold gM at h
  by_cases c1 : i = 1
  · rw [if_pos c1] at h
    split at h
    · rename_i h1
      have := gK_adv ha h1
      cases h; exact this
    · cases h
  rw [if_neg c1] at h
  by_cases c2 : i = 3
  · rw [if_pos c2] at h
    split at h
    · rename_i h1
      have q1 := gC_adv ha h1
      split at h
      · rename_i h2
        have q2 := gL_adv _ q1.2.1 h2
        split at h
        · rename_i h3
          have q3 := gU_adv q2.2.1 h3
          cases h; omega
        · cases h
      · cases h
    · cases h
  rw [if_neg c2] at h
  by_cases c3 : i = 5 ∨ i = 10 ∨ i = 11 ∨ i = 14 ∨ i = 15
  · rw [if_pos c3] at h
    split at h
    · rename_i h1
      have q1 := gU_adv ha h1
      split at h
      · rename_i h2
        have q2 := gU_adv q1.2.1 h2
        cases h; omega
      · cases h
    · cases h
  rw [if_neg c3] at h
  by_cases c4 : i = 6
  · rw [if_pos c4] at h
    split at h
    · rename_i h1
      have q1 := gU_adv ha h1
      split at h
      · split at h
        · rename_i h2
          have q2 := gV_adv h2
          cases h; omega
        · cases h
      · cases h
    · cases h
  rw [if_neg c4] at h
  by_cases c5 : i = 13
  · rw [if_pos c5] at h
    split at h
    · rename_i h1
      have q1 := gU_adv ha h1
      cases h; omega
    · cases h
  rw [if_neg c5] at h
  by_cases c6 : i = 17
  · rw [if_pos c6] at h
    split at h
    · rename_i h1
      have := gA_adv ha h1
      cases h; exact this
    · cases h
  rw [if_neg c6] at h
  by_cases c7 : i = 18
  · rw [if_pos c7] at h
    split at h
    · rename_i h1
      have := gS_adv ha h1
      cases h; exact this
    · cases h
  rw [if_neg c7] at h
  by_cases c8 : i = 19
  · rw [if_pos c8] at h
    split at h
    · rename_i h1
      have := gS_adv ha h1
      cases h; exact this
    · cases h
  rw [if_neg c8] at h
  by_cases c9 : i = 20
  · rw [if_pos c9] at h
    split at h
    · rename_i h1
      have := gV_adv h1
      split at h
      · cases h; exact this
      · cases h
    · cases h
  rw [if_neg c9] at h
  by_cases c10 : i = 0
  · rw [if_pos c10] at h
    cases h; exact ⟨Nat.le_refl _, ha⟩
  · rw [if_neg c10] at h
    split at h
    · rename_i h1
      have q1 := gU_adv ha h1
      cases h; omega
    · cases h
theorem gO_adv {b : List UInt8} {a k : Nat} {op : Int} (h : gO b a = .ok (op, k)) : a < k ∧ k ≤ b.length ∧ rKn op = true := by
  unfold gO at h
  split at h
  · rename_i x k' h1
    have q1 := gB_adv h1
    split at h
    · split at h
      · rename_i n k2 h2
        have q2 := gU_adv q1.2 h2
        split at h
        · rename_i h3
          cases h; exact ⟨by omega, by omega, h3⟩
        · cases h
      · cases h
    · split at h
      · rename_i h3
        cases h; exact ⟨by omega, by omega, h3⟩
      · cases h
  · cases h
theorem gI_adv {b : List UInt8} {a k : Nat} {x : Ins} (h : gI b a = .ok (x, k)) : a < k ∧ k ≤ b.length := by
  unfold gI at h
  split at h
  · rename_i op k1 h1
    have q1 := gO_adv h1
    split at h
    · rename_i h2
      have q2 := gM_adv q1.2.1 h2
      cases h; omega
    · cases h
  · cases h
def preI (l : List Ins) : Rd (List Ins) → Rd (List Ins)
  | .ok (l2, k) => .ok (l ++ l2, k)
  | .error e => .error e
theorem preI_nil (r : Rd (List Ins)) : preI [] r = r := by cases r <;> rfl
def deepA (op : Int) (d : Nat) : Nat := if op = 2 ∨ op = 3 ∨ op = 4 then d + 1 else if op = 11 then d - 1 else d
def EI (b : List UInt8) (F a0 : Nat) (most : Int) (l : List Ins) (a d : Nat) : Prop :=
  a ≤ b.length ∧ l.length + a0 ≤ a ∧ d ≤ l.length + 1 ∧ ((1 ≤ d ∧ b.length < F + a - l.length ∧ l.length < F ∧ gE F 1 b a0 most = preI l (gE (F - l.length) d b a (most - l.length))) ∨ (d = 0 ∧ gE F 1 b a0 most = .ok (l, a)))
theorem EI_0 {b : List UInt8} {F a0 : Nat} {most : Int} (h : a0 ≤ b.length) (hF : b.length < F) : EI b F a0 most [] a0 1 :=
  ⟨h, by simp, by simp, .inl ⟨Nat.le_refl _, by simp; omega, by simp; omega, by simp [preI_nil]⟩⟩
theorem EI_most {b : List UInt8} {F a0 : Nat} {most : Int} {l : List Ins} {a d : Nat} (h : EI b F a0 most l a d) (hd : 1 ≤ d) (hm : (l.length : Int) ≥ most) : gE F 1 b a0 most = .error (6, a) := by
  obtain ⟨h1, h2, h3, ⟨_, h4, h5, h6⟩ | ⟨h4, _⟩⟩ := h
  · rw [h6, show F - l.length = (F - l.length - 1) + 1 by omega, gE, if_pos (by omega)]
    rfl
  · omega
theorem EI_err {b : List UInt8} {F a0 : Nat} {most : Int} {l : List Ins} {a d : Nat} (h : EI b F a0 most l a d) (hd : 1 ≤ d) (hm : ¬ (l.length : Int) ≥ most) {e : Int × Nat} (g : gI b a = .error e) : gE F 1 b a0 most = .error e := by
  obtain ⟨h1, h2, h3, ⟨_, h4, h5, h6⟩ | ⟨h4, _⟩⟩ := h
  · rw [h6, show F - l.length = (F - l.length - 1) + 1 by omega, gE, if_neg (by omega), g]
    rfl
  · omega
theorem EI_ok {b : List UInt8} {F a0 : Nat} {most : Int} {l : List Ins} {a d : Nat} (h : EI b F a0 most l a d) (hd : 1 ≤ d) (hm : ¬ (l.length : Int) ≥ most) {x : Ins} {k : Nat} (g : gI b a = .ok (x, k)) : EI b F a0 most (l ++ [x]) k (deepA x.op d) := by
  have hk := gI_adv g
  obtain ⟨h1, h2, h3, ⟨_, h4, h5, h6⟩ | ⟨h4, _⟩⟩ := h
  · have hl : (l ++ [x]).length = l.length + 1 := by simp
    refine ⟨hk.2, by omega, ?_, ?_⟩
    · rw [hl]; unfold deepA; repeat' split
      all_goals omega
    rw [hl]
    rw [show F - l.length = (F - l.length - 1) + 1 by omega, gE, if_neg (by omega), g] at h6
    simp only at h6
    by_cases hx : x.op = 11 ∧ d = 1
    · rw [if_pos hx] at h6
      refine .inr ⟨?_, by rw [h6]; rfl⟩
      unfold deepA
      rw [if_neg (by omega), if_pos hx.1]
      omega
    · rw [if_neg hx] at h6
      refine .inl ⟨?_, by omega, by omega, ?_⟩
      · unfold deepA
        split
        · omega
        · split
          · omega
          · omega
      · rw [h6, show F - (l.length + 1) = F - l.length - 1 by omega, show most - ((l.length + 1 : Nat) : Int) = most - l.length - 1 by omega]
        show preI l (match gE (F - l.length - 1) (deepA x.op d) b k (most - ↑l.length - 1) with | .ok (l, k') => .ok (x :: l, k') | .error e => .error e) = _
        cases gE (F - l.length - 1) (deepA x.op d) b k (most - ↑l.length - 1) with
        | ok p => obtain ⟨l2, k2⟩ := p; simp [preI]
        | error e => rfl
  · omega
theorem EI_end {b : List UInt8} {F a0 : Nat} {most : Int} {l : List Ins} {a : Nat} (h : EI b F a0 most l a 0) : gE F 1 b a0 most = .ok (l, a) := by
  obtain ⟨h1, h2, h3, ⟨h4, _⟩ | ⟨_, h4⟩⟩ := h
  · omega
  · exact h4
end Go.Proofs.YtdhiiannngjjpaaDoor
set_option maxRecDepth 100000
set_option maxHeartbeats 4000000
set_option linter.unusedVariables false
set_option linter.unusedSimpArgs false
namespace Go.Proofs.YtdhiiannngjjpaaDoor
open Go Go.Mw

end Go.Proofs.YtdhiiannngjjpaaDoor
set_option maxRecDepth 100000
set_option maxHeartbeats 20000000
set_option linter.unusedVariables false
set_option linter.unusedSimpArgs false
namespace Go.Proofs.YtdhiiannngjjpaaDoor
open Go Go.Mw

instance : Inhabited Ins := ⟨z0⟩
theorem putS_5 {n : Int} (h : -4294967296 ≤ n ∧ n ≤ 4294967295) : (putS n).length ≤ 5 := putS_len (k := 4) (by omega) (by omega)
theorem ixP {n : Int} (h : ixB n = true) : (putU n.toNat).length ≤ 5 := by
  obtain ⟨k, rfl, hk⟩ := ix_nat h
  rw [Int.toNat_natCast]; exact putU_5 hk
theorem encB_len {k v x : Int} (h : blB k v x = true) : (encB k v x).length ≤ 5 := by
  unfold blB at h
  unfold encB
  split
  · simp
  rename_i h0
  rw [if_neg h0] at h
  split
  · simp
  rename_i h1
  rw [if_neg h1] at h
  split at h
  · simp only [Bool.and_eq_true, ixB, decide_eq_true_eq] at h
    exact putS_5 (by omega)
  · cases h
theorem encM_len {i : Int} (hi : 0 ≤ i ∧ i ≤ 20) {x : Ins} (h : plR i true x = true) (hb : ¬ (i = 3 ∧ 4294967296 ≤ x.lb.length)) : (encM i x).length ≤ 5 * x.lb.length + 20 := by
  obtain ⟨op, a0, b0, n, k, v, z, ty, lb⟩ := x
  unfold plR rfin at h
  simp only [Bool.true_and] at h hb ⊢
  rcases (show i = 0 ∨ i = 1 ∨ i = 2 ∨ i = 3 ∨ i = 4 ∨ i = 5 ∨ i = 6 ∨ i = 7 ∨ i = 8 ∨ i = 9 ∨ i = 10 ∨ i = 11 ∨ i = 12 ∨ i = 13 ∨ i = 14 ∨ i = 15 ∨ i = 16 ∨ i = 17 ∨ i = 18 ∨ i = 19 ∨ i = 20 by omega) with rfl | rfl | rfl | rfl | rfl | rfl | rfl | rfl | rfl | rfl | rfl | rfl | rfl | rfl | rfl | rfl | rfl | rfl | rfl | rfl | rfl
  all_goals
    simp only [Int.reduceEq, Int.reduceBEq, false_or, or_false, or_true, true_or, or_self, if_true, if_false, Bool.true_or, Bool.false_or, Bool.true_and, Bool.and_eq_true, beq_iff_eq, Bool.not_eq_true', decide_eq_false_iff_not, decide_eq_true_eq, Bool.or_eq_true] at h
    simp only [encM, Int.reduceEq, false_or, or_false, or_true, true_or, or_self, if_true, if_false, List.length_append, List.length_singleton, List.length_nil]
  · omega
  · have := encB_len h.2.2.2.2.2; omega
  · have := ixP h.2.2.2.1; omega
  · have h1 := ixP h.2.2.1
    have h2 := encL_len h.2.2.2.2.2
    have h3 := putU_5 (n := lb.length) (Nat.lt_of_not_le fun q => hb ⟨rfl, q⟩)
    omega
  · have := ixP h.2.2.2.1; omega
  · have h1 := ixP h.2.2.2.1
    have h2 := ixP h.2.2.2.2.1
    omega
  · have := putU_5 (n := 1) (by decide); omega
  · have := ixP h.2.2.2.1; omega
  · have := ixP h.2.2.2.1; omega
  · have := ixP h.2.2.2.1; omega
  · have h1 := ixP h.2.2.2.1
    have h2 := ixP h.2.2.2.2.1
    omega
  · have h1 := ixP h.2.2.2.1
    have h2 := ixP h.2.2.2.2.1
    omega
  · have := ixP h.2.2.2.1; omega
  · have := ixP h.2.2.2.2.1; omega
  · have h1 := ixP h.2.2.2.1
    have h2 := ixP h.2.2.2.2.1
    omega
  · have h1 := ixP h.2.2.2.1
    have h2 := ixP h.2.2.2.2.1
    omega
  · have := ixP h.2.2.2.1; omega
  · obtain ⟨_, _, _, h1, h2, h3, h4⟩ := h
    have g1 := ixP h3
    have g2 := putU_5 (n := n.toNat) (by omega)
    have g3 := putU_5 (n := a0.toNat) (by omega)
    have g4 := putU_5 (n := (a0 + 64).toNat) (by omega)
    split
    · omega
    · rw [List.length_append]; omega
  · have h1 := s32_in n
    have := putS_5 (n := s32 n) (by omega); omega
  · have := putS_10 (i64_in n); omega
  · omega
theorem encI_len {x : Ins} (h : PL x = true) (hb : ¬ (rIm x.op = 3 ∧ 4294967296 ≤ x.lb.length)) : (encI x).length ≤ 5 * x.lb.length + 30 := by
  have hk := pl_kn h
  have h1 := encO_len x.op hk
  have hp : plR (rIm x.op) true x = true := by
    have h' : plR (rIm x.op) (rKn x.op) x = true := h
    rwa [hk] at h'
  have h2 := encM_len (imm_rng x.op) hp hb
  show (encO x.op ++ encM (rIm x.op) x).length ≤ _
  rw [List.length_append]
  omega
theorem pl_sl {x : Ins} (h : PL x = true) : (rIm x.op = 3 ∨ x.lb.length = 0) ∧ (rIm x.op = 6 ∨ x.ty.length = 0) ∧ (rIm x.op = 6 → x.ty.length = 1) := by
  unfold PL plR at h
  simp only [Bool.and_eq_true, Bool.or_eq_true, beq_iff_eq, Bool.not_eq_true', decide_eq_false_iff_not] at h
  obtain ⟨_, _, h1, h2, h3⟩ := h
  refine ⟨h1.imp id (fun q => by omega), h2.imp id (fun q => by omega), fun q => ?_⟩
  rw [q] at h3
  unfold rfin at h3
  simp only [Int.reduceEq, false_or, or_self, if_true, if_false, Bool.and_eq_true, beq_iff_eq] at h3
  omega
def lens (x : Ins) : Nat := x.lb.length + x.ty.length
theorem pPut_e {x : Ins} {l : List UInt8} {e : Int} (h : e ≠ 0) : pPut x l e = (l, e) := by
  unfold pPut
  rw [beq_f h, if_neg h, if_neg h]
  repeat' split
  all_goals rfl
theorem pPut_len (x : Ins) (l : List UInt8) (e : Int) : (pPut x l e).1.length ≤ l.length + 21474836600 := by
  unfold pPut
  split
  · rename_i h
    split
    · have h1 := encO_len x.op (pl_kn h)
      have h2 := wB_len (ok := e == 0) (l := l) (x := encO x.op)
      simp only; omega
    · rename_i hs
      have h1 := encI_len h hs
      have h2 := wB_len (ok := e == 0) (l := l) (x := encI x)
      have h3 : x.lb.length < 4294967296 := by
        rcases Nat.lt_or_ge x.lb.length 4294967296 with q | q
        · exact q
        · have h4 : rIm x.op ≠ 3 := fun r => hs ⟨r, q⟩
          rcases (pl_sl h).1 with r | r
          · exact absurd r h4
          · omega
      simp only; omega
  · simp only; omega
theorem pPut_small {x : Ins} {l : List UInt8} {e : Int} (h : lens x ≤ 400) : (pPut x l e).1.length ≤ l.length + 2100 := by
  unfold lens at h
  unfold pPut
  split
  · rename_i hp
    rw [if_neg (by omega)]
    have h1 := encI_len hp (by omega)
    have h2 := wB_len (ok := e == 0) (l := l) (x := encI x)
    simp only; omega
  · simp only; omega
theorem pPut_huge {x : Ins} {l : List UInt8} {e : Int} (h : 4611686018427387904 ≤ lens x) : (pPut x l e).2 ≠ 0 ∧ (pPut x l e).1.length ≤ l.length + 6 := by
  unfold lens at h
  unfold pPut
  split
  · rename_i hp
    obtain ⟨g1, g2, g3⟩ := pl_sl hp
    have hb : rIm x.op = 3 ∧ 4294967296 ≤ x.lb.length := by
      by_cases q3 : rIm x.op = 3
      · exact ⟨q3, by omega⟩
      · by_cases q6 : rIm x.op = 6
        · have := g3 q6; omega
        · omega
    rw [if_pos hb]
    have h1 := encO_len x.op (pl_kn hp)
    have h2 := wB_len (ok := e == 0) (l := l) (x := encO x.op)
    refine ⟨?_, by simp only; omega⟩
    show (if e = 0 then (1 : Int) else e) ≠ 0
    split
    · decide
    · assumption
  · refine ⟨?_, by simp only; omega⟩
    show (if e = 0 then (10 : Int) else e) ≠ 0
    split
    · decide
    · assumption
theorem pPuts_app : ∀ (A B : List Ins) (l : List UInt8) (e : Int), pPuts (A ++ B) l e = pPuts B (pPuts A l e).1 (pPuts A l e).2
  | [], _, _, _ => rfl
  | x :: A, B, l, e => pPuts_app A B (pPut x l e).1 (pPut x l e).2
theorem pPuts_e : ∀ {B : List Ins} {l : List UInt8} {e : Int}, e ≠ 0 → pPuts B l e = (l, e)
  | [], _, _, _ => rfl
  | x :: B, l, e, h => by rw [pPuts, pPut_e h]; exact pPuts_e h
theorem pPuts_small : ∀ {A : List Ins} {l : List UInt8} {e : Int}, (∀ y ∈ A, lens y ≤ 400) → (pPuts A l e).1.length ≤ l.length + 2100 * A.length
  | [], _, _, _ => Nat.le_refl _
  | x :: A, l, e, h => by
    have h1 := pPut_small (l := l) (e := e) (h x (List.mem_cons_self ..))
    have h2 := pPuts_small (A := A) (l := (pPut x l e).1) (e := (pPut x l e).2) fun y hy => h y (List.mem_cons_of_mem _ hy)
    rw [pPuts, List.length_cons]
    omega
def okL (L : List Ins) : Prop := (∀ x ∈ L, lens x ≤ 400) ∨ ∃ A x B, L = A ++ x :: B ∧ (∀ y ∈ A, lens y ≤ 400) ∧ 4611686018427387904 ≤ lens x
theorem pPuts_len {L : List Ins} (h : okL L) (l : List UInt8) (e : Int) (i : Nat) : (pPuts (L.take i) l e).1.length ≤ l.length + 2100 * L.length + 6 := by
  rcases h with h | ⟨A, x, B, rfl, h1, h2⟩
  · have := pPuts_small (A := L.take i) (l := l) (e := e) fun y hy => h y (List.mem_of_mem_take hy)
    rw [List.length_take] at this
    omega
  · have hle : (A ++ x :: B).length = A.length + B.length + 1 := by simp; omega
    rcases Nat.lt_or_ge A.length i with hi | hi
    · obtain ⟨k, rfl⟩ : ∃ k, i = A.length + (k + 1) := ⟨i - A.length - 1, by omega⟩
      have hA := pPuts_small (A := A) (l := l) (e := e) h1
      rw [List.take_length_add_append, List.take_succ_cons, pPuts_app, pPuts]
      have h3 := pPut_huge (l := (pPuts A l e).1) (e := (pPuts A l e).2) h2
      rw [pPuts_e h3.1]
      simp only
      omega
    · rw [List.take_append_of_le_length hi]
      have := pPuts_small (A := A.take i) (l := l) (e := e) fun y hy => h1 y (List.mem_of_mem_take hy)
      rw [List.length_take] at this
      omega
theorem pPuts_next {L : List Ins} {i : Nat} (h : i < L.length) (l : List UInt8) (e : Int) : pPuts (L.take (i + 1)) l e = pPut (nth L i) (pPuts (L.take i) l e).1 (pPuts (L.take i) l e).2 := by
  rw [List.take_succ_eq_append_getElem h, pPuts_app, nth_eq h]
  rfl
def fwN : List Ins → Nat → Int → Int
  | [], _, n => n
  | _ :: _, 0, n => n
  | x :: L, k + 1, n => if n ≤ 400 then fwN L k (IntKind.i64.wrap (IntKind.i64.wrap (n + x.lb.length) + x.ty.length)) else n
def fewB (L : List Ins) : Bool := decide ((L.length : Int) ≤ 60) && decide (fwN L 100 0 ≤ 400)
theorem fwN_gt : ∀ (L : List Ins) (k : Nat) {n : Int}, ¬ n ≤ 400 → fwN L k n = n
  | [], _, _, _ => rfl
  | _ :: _, 0, _, _ => rfl
  | x :: L, k + 1, n, h => by rw [fwN, if_neg h]
theorem fwN_ok : ∀ (L : List Ins) (k : Nat) (n : Int), L.length ≤ k → 0 ≤ n → n ≤ 400 → (∀ x ∈ L, x.lb.length ≤ 9223372036854775807 ∧ x.ty.length ≤ 9223372036854775807) → fwN L k n ≤ 400 → okL L
  | [], _, _, _, _, _, _, _ => .inl fun x h => by cases h
  | x :: L, 0, _, h, _, _, _, _ => by simp at h
  | x :: L, k + 1, n, hk, h0, h4, hb, h => by
    obtain ⟨b1, b2⟩ := hb x (List.mem_cons_self ..)
    rw [fwN, if_pos h4] at h
    by_cases hs : n + x.lb.length + x.ty.length ≤ 400
    · rw [wi (n := n + x.lb.length) (by omega) (by omega), wi (n := n + x.lb.length + x.ty.length) (by omega) (by omega)] at h
      rcases fwN_ok L k _ (by simp at hk; omega) (by omega) hs (fun y hy => hb y (List.mem_cons_of_mem _ hy)) h with g | ⟨A, y, B, rfl, g1, g2⟩
      · refine .inl fun y hy => ?_
        rcases List.mem_cons.1 hy with rfl | hy
        · unfold lens; omega
        · exact g y hy
      · refine .inr ⟨x :: A, y, B, rfl, fun z hz => ?_, g2⟩
        rcases List.mem_cons.1 hz with rfl | hz
        · unfold lens; omega
        · exact g1 z hz
    · by_cases hh : 4611686018427387904 ≤ lens x
      · exact .inr ⟨[], x, L, rfl, (fun y hy => by cases hy), hh⟩
      · unfold lens at hh
        exfalso
        rw [wi (n := n + x.lb.length) (by omega) (by omega), wi (n := n + x.lb.length + x.ty.length) (by omega) (by omega), fwN_gt _ _ hs] at h
        exact hs h
theorem fewB_ok {L : List Ins} (hb : ∀ x ∈ L, x.lb.length ≤ 9223372036854775807 ∧ x.ty.length ≤ 9223372036854775807) (h : fewB L = true) : L.length ≤ 60 ∧ okL L := by
  unfold fewB at h
  simp only [Bool.and_eq_true, decide_eq_true_eq] at h
  exact ⟨by omega, fwN_ok L 100 0 (by omega) (by decide) (by decide) hb h.2⟩
end Go.Proofs.YtdhiiannngjjpaaDoor
set_option maxRecDepth 100000
set_option maxHeartbeats 20000000
set_option linter.unusedVariables false
set_option linter.unusedSimpArgs false
namespace Go.Proofs.YtdhiiannngjjpaaDoor
open Go Go.Mw
-- @U: ro, wo, wa, wx, rx, bk_e, vl_e, ac_

theorem op_cases (o : Int) : ((o == 2) = true ∨ ((o == 2) = false ∧ ((o == 3) = true ∨ ((o == 3) = false ∧ ((o == 4) = true ∨ ((o == 4) = false ∧ ((o == 11) = true ∨ (o == 11) = false))))))) := by
  cases o == 2 <;> cases o == 3 <;> cases o == 4 <;> cases o == 11 <;> simp
variable {b : List UInt8} {a : Nat} (ha : a ≤ b.length) (hb : b.length < 1000000000)
include ha hb
theorem s_op_e {e : Int} (he : e ≠ 0) : RM n_bincode_op [] true b a e (.int .i64 0) a e := by
  refine fun_sound (ic := F_bincode_op.body) mixed c_bincode_op rfl rfl ?_
  simp only [go_sem, ro, wo, wa, wx, rx, bk_e, vl_e, ac_, F_bincode_op]
  refine call_m (s_byte true b a e ha hb) ⟨by decide, by decide⟩ (by first | rfl | exact slv_ids _) (by simp [go_sem, ro, wo, wa, wx, rx, bk_e, vl_e, ac_]) rfl rfl (by rfl) ?_
  simp only [go_sem, ro, wo, wa, wx, rx, bk_e, vl_e, ac_, e_f he, Bool.true_and, rByte_f, to0, wr0]
  refine call_m (s_err true b a e) ⟨by decide, by decide⟩ (by first | rfl | exact slv_ids _) (by simp [go_sem, ro, wo, wa, wx, rx, bk_e, vl_e, ac_]) rfl rfl (by rfl) ?_
  simp only [go_sem, ro, wo, wa, wx, rx, bk_e, vl_e, ac_, e_f he]
  exact done [] _ [(1000, ro true b a e)] (by simp only [go_sem, ro, wo, wa, wx, rx, bk_e, vl_e, ac_]) (by simp only [go_sem, ro, wo, wa, wx, rx, bk_e, vl_e, ac_]) rfl ⟨rfl, rfl⟩
theorem s_get_e {e : Int} (he : e ≠ 0) : RM n_bincode_Get [] true b a e (ins_ z0) a e := by
  refine fun_sound (ic := F_bincode_Get.body) mixed c_bincode_Get rfl rfl ?_
  simp only [go_sem, ro, wo, wa, wx, rx, bk_e, vl_e, ac_, F_bincode_Get]
  refine call_m (s_op_e ha hb he) ⟨by decide, by decide⟩ (by first | rfl | exact slv_ids _) (by simp [go_sem, ro, wo, wa, wx, rx, bk_e, vl_e, ac_]) rfl rfl (by rfl) ?_
  simp only [go_sem, ro, wo, wa, wx, rx, bk_e, vl_e, ac_]
  refine call_m (s_err true b a e) ⟨by decide, by decide⟩ (by first | rfl | exact slv_ids _) (by simp [go_sem, ro, wo, wa, wx, rx, bk_e, vl_e, ac_]) rfl rfl (by rfl) ?_
  simp only [go_sem, ro, wo, wa, wx, rx, bk_e, vl_e, ac_, e_t he]
  exact wdone (Wk.nlm _ 2 (r' := insC z0) rfl (nl9 ..)) [] (ins_ z0) [(1000, ro true b a e)] (by simp only [go_sem, ro, wo, wa, wx, rx, bk_e, vl_e, ac_, insC]; rfl) (by simp only [go_sem, ro, wo, wa, wx, rx, bk_e, vl_e, ac_]) rfl ⟨rfl, rfl⟩
def exs (l : List Ins) : AV := .sl 9 (l.map insC)
theorem s_getexpr (most : Int) (hm : inI most) : RX n_bincode_GetExpr [.int .i64 most] b a (gE (b.length + 1) 1 b a most) [] exs := by
  refine fun_sound (ic := F_bincode_GetExpr.body) mixed c_bincode_GetExpr rfl rfl ?_
  simp only [go_sem, ro, wo, wa, wx, rx, bk_e, vl_e, ac_, F_bincode_GetExpr]
  refine loop_rule (fun q : List Ins × Nat × Nat => ⟨[(6, .int .i64 q.2.2), (5, .ms 900 9 0 q.1.length), (4, .nl), (1, .int .i64 most), (0, .mp 1000 4 0 0)], [(900, ⟨33, 9, q.1.map insC, false⟩), (1000, ro true b q.2.1 0)]⟩)
    (fun q => EI b (b.length + 1) a most q.1 q.2.1 q.2.2) (fun q => b.length - q.2.1) ([], a, 1) (EI_0 ha (Nat.lt_succ_self _)) ((Wk.nil _ 5 900 9 33 (by simp only [go_sem, ro, wo, wa, wx, rx, bk_e, vl_e, ac_]) (.inl (by decide))).trans (Wk.of ?_ ?_)) ?_
  · simp only [go_sem, ro, wo, wa, wx, rx, bk_e, vl_e, ac_, St.mknil]; try simp [go_sem]
  · simp only [go_sem, ro, wo, wa, wx, rx, bk_e, vl_e, ac_, St.mknil]; try simp [go_sem]
  rintro ⟨l, a1, d⟩ hE
  replace hE : EI b (b.length + 1) a most l a1 d := hE
  have ha1 : a1 ≤ b.length := hE.1
  have hl1 : l.length + a ≤ a1 := hE.2.1
  have hd1 : d ≤ l.length + 1 := hE.2.2.1
  by_cases hd : (d : Int) > 0
  · have hd' : 1 ≤ d := by omega
    by_cases hmo : (l.length : Int) ≥ most
    · simp only [go_sem, ro, wo, wa, wx, rx, bk_e, vl_e, ac_, decide_eq_true hd, decide_eq_true hmo]
      refine call_m (s_fail_ok b a1 6) ⟨by decide, by decide⟩ (by first | rfl | exact slv_ids _) (by simp [go_sem, ro, wo, wa, wx, rx, bk_e, vl_e, ac_]) rfl rfl (by rfl) ?_
      simp only [go_sem, ro, wo, wa, wx, rx, bk_e, vl_e, ac_]
      refine call_m (s_get_e ha1 hb (show (6 : Int) ≠ 0 by decide)) ⟨by decide, by decide⟩ (by first | rfl | exact slv_ids _) (by simp [go_sem, ro, wo, wa, wx, rx, bk_e, vl_e, ac_]) rfl rfl (by rfl) ?_
      simp only [go_sem, ro, wo, wa, wx, rx, bk_e, vl_e, ac_]
      refine call_m (s_err true b a1 6) ⟨by decide, by decide⟩ (by first | rfl | exact slv_ids _) (by simp [go_sem, ro, wo, wa, wx, rx, bk_e, vl_e, ac_]) rfl rfl (by rfl) ?_
      simp only [go_sem, ro, wo, wa, wx, rx, bk_e, vl_e, ac_]
      refine wdone (Wk.nil _ 4 901 9 33 (by simp only [go_sem, ro, wo, wa, wx, rx, bk_e, vl_e, ac_]) (.inl (by decide))) [901] (exs []) [(1000, ro true b a1 6)] ?_ ?_ rfl ⟨([], a1, 6), Out.er (EI_most hE hd' hmo) (by decide) ha1, rfl, rfl⟩
      · simp only [go_sem, ro, wo, wa, wx, rx, bk_e, vl_e, ac_, St.mknil]
        rfl
      · simp only [go_sem, ro, wo, wa, wx, rx, bk_e, vl_e, ac_, St.mknil]
    · simp only [go_sem, ro, wo, wa, wx, rx, bk_e, vl_e, ac_, decide_eq_true hd, decide_eq_false hmo]
      refine call_me (s_get11 ha1 hb) ⟨by decide, by decide⟩ (fun _ => rfl) (by simp) rfl (fun _ => rfl) (by rfl) ?_
      rintro ⟨x, a2, e2⟩ ⟨p1, p2⟩
      replace p1 : a2 ≤ b.length := p1
      rcases p2 with ⟨x', k2, q1, q2⟩ | ⟨e, q1, he, q2, q3⟩
      · cases q2
        have hE2 := EI_ok hE hd' hmo q1
        have hadv := gI_adv q1
        have happ := fun ys => appO_map 900 33 9 l.length insC l ys rfl
        simp only [go_sem, ro, wo, wa, wx, rx, bk_e, vl_e, ac_, ins_e]
        refine call_m (s_err true b a2 0) ⟨by decide, by decide⟩ (by first | rfl | exact slv_ids _) (by simp [go_sem, ro, wo, wa, wx, rx, bk_e, vl_e, ac_]) rfl rfl (by rfl) ?_
        have hw1 : IntKind.i64.wrap ((d : Int) + 1) = ((d + 1 : Nat) : Int) := by rw [wi (by omega) (by omega)]; omega
        have hw2 : IntKind.i64.wrap ((d : Int) - 1) = ((d - 1 : Nat) : Int) := by rw [wi (by omega) (by omega)]; omega
        have hda : deepA x.op d = if x.op = 2 ∨ x.op = 3 ∨ x.op = 4 then d + 1 else if x.op = 11 then d - 1 else d := rfl
        rcases op_cases x.op with h2 | ⟨h2, h3 | ⟨h3, h4 | ⟨h4, h5 | h5⟩⟩⟩
        · rw [show deepA x.op d = d + 1 by rw [hda, if_pos (.inl (eq_of_beq h2))]] at hE2
          simp only [go_sem, ro, wo, wa, wx, rx, bk_e, vl_e, ac_, h2, happ, hw1]
          refine ⟨by omega, klp_n (l ++ [x], a2, d + 1) hE2 (show b.length - a2 < b.length - a1 by omega) (Wk.of ?_ ?_)⟩
          · simp only [go_sem, ro, wo, wa, wx, rx, bk_e, vl_e, ac_]
            try simp
          · simp only [go_sem, ro, wo, wa, wx, rx, bk_e, vl_e, ac_]
            try simp [insC, vl_e]
        · rw [show deepA x.op d = d + 1 by rw [hda, if_pos (.inr (.inl (eq_of_beq h3)))]] at hE2
          simp only [go_sem, ro, wo, wa, wx, rx, bk_e, vl_e, ac_, h2, h3, happ, hw1]
          refine ⟨by omega, klp_n (l ++ [x], a2, d + 1) hE2 (show b.length - a2 < b.length - a1 by omega) (Wk.of ?_ ?_)⟩
          · simp only [go_sem, ro, wo, wa, wx, rx, bk_e, vl_e, ac_]
            try simp
          · simp only [go_sem, ro, wo, wa, wx, rx, bk_e, vl_e, ac_]
            try simp [insC, vl_e]
        · rw [show deepA x.op d = d + 1 by rw [hda, if_pos (.inr (.inr (eq_of_beq h4)))]] at hE2
          simp only [go_sem, ro, wo, wa, wx, rx, bk_e, vl_e, ac_, h2, h3, h4, happ, hw1]
          refine ⟨by omega, klp_n (l ++ [x], a2, d + 1) hE2 (show b.length - a2 < b.length - a1 by omega) (Wk.of ?_ ?_)⟩
          · simp only [go_sem, ro, wo, wa, wx, rx, bk_e, vl_e, ac_]
            try simp
          · simp only [go_sem, ro, wo, wa, wx, rx, bk_e, vl_e, ac_]
            try simp [insC, vl_e]
        · rw [show deepA x.op d = d - 1 by rw [hda, if_neg (by have := ne_of_beq_false h2; have := ne_of_beq_false h3; have := ne_of_beq_false h4; omega), if_pos (eq_of_beq h5)]] at hE2
          simp only [go_sem, ro, wo, wa, wx, rx, bk_e, vl_e, ac_, h2, h3, h4, h5, happ, hw2]
          refine ⟨by omega, klp_n (l ++ [x], a2, d - 1) hE2 (show b.length - a2 < b.length - a1 by omega) (Wk.of ?_ ?_)⟩
          · simp only [go_sem, ro, wo, wa, wx, rx, bk_e, vl_e, ac_]
            try simp
          · simp only [go_sem, ro, wo, wa, wx, rx, bk_e, vl_e, ac_]
            try simp [insC, vl_e]
        · rw [show deepA x.op d = d by rw [hda, if_neg (by have := ne_of_beq_false h2; have := ne_of_beq_false h3; have := ne_of_beq_false h4; omega), if_neg (ne_of_beq_false h5)]] at hE2
          simp only [go_sem, ro, wo, wa, wx, rx, bk_e, vl_e, ac_, h2, h3, h4, h5, happ]
          refine ⟨by omega, klp_n (l ++ [x], a2, d) hE2 (show b.length - a2 < b.length - a1 by omega) (Wk.of ?_ ?_)⟩
          · simp only [go_sem, ro, wo, wa, wx, rx, bk_e, vl_e, ac_]
            try simp
          · simp only [go_sem, ro, wo, wa, wx, rx, bk_e, vl_e, ac_]
            try simp [insC, vl_e]
      · obtain rfl : e2 = e := q3
        simp only [go_sem, ro, wo, wa, wx, rx, bk_e, vl_e, ac_]
        refine call_m (s_err true b a2 e2) ⟨by decide, by decide⟩ (by first | rfl | exact slv_ids _) (by simp [go_sem, ro, wo, wa, wx, rx, bk_e, vl_e, ac_]) rfl rfl (by rfl) ?_
        simp only [go_sem, ro, wo, wa, wx, rx, bk_e, vl_e, ac_, e_t he]
        refine wdone (Wk.nil _ 4 901 9 33 (by simp only [go_sem, ro, wo, wa, wx, rx, bk_e, vl_e, ac_]) (.inl (by decide))) [901] (exs []) [(1000, ro true b a2 e2)] ?_ ?_ rfl ⟨([], a2, e2), Out.er (EI_err hE hd' hmo q1) he p1, rfl, rfl⟩
        · simp only [go_sem, ro, wo, wa, wx, rx, bk_e, vl_e, ac_, St.mknil]
          rfl
        · simp only [go_sem, ro, wo, wa, wx, rx, bk_e, vl_e, ac_, St.mknil]
  · obtain rfl : d = 0 := by omega
    simp only [go_sem, ro, wo, wa, wx, rx, bk_e, vl_e, ac_, decide_eq_false hd]
    refine done [900] (exs l) [(1000, ro true b a1 0)] ?_ (by simp only [go_sem, ro, wo, wa, wx, rx, bk_e, vl_e, ac_]) rfl ⟨(l, a1, 0), Out.ok (EI_end hE) ha1, rfl, rfl⟩
    simp only [go_sem, ro, wo, wa, wx, rx, bk_e, vl_e, ac_, List.length_map, Nat.le_refl]
    rw [List.take_of_length_le (by rw [List.length_map]; omega)]
    rfl
end Go.Proofs.YtdhiiannngjjpaaDoor
set_option maxRecDepth 100000
set_option maxHeartbeats 40000000
set_option linter.unusedVariables false
set_option linter.unusedSimpArgs false
namespace Go.Proofs.YtdhiiannngjjpaaDoor
open Go Go.Mw
-- @U: ro, wo, wa, wx, rx, ins_e, vl_e, insC, slv_none, slv_some

def inL (L : List Ins) : Prop := ∀ x ∈ L, 0 ≤ x.n ∧ x.n < 18446744073709551616 ∧ x.lb.length ≤ 9223372036854775807 ∧ x.ty.length ≤ 9223372036854775807
theorem inL_at {L : List Ins} (h : inL L) {i : Nat} (hi : i < L.length) : 0 ≤ (nth L i).n ∧ (nth L i).n < 18446744073709551616 ∧ (nth L i).lb.length ≤ 9223372036854775807 ∧ (nth L i).ty.length ≤ 9223372036854775807 := by
  rw [nth_eq hi]
  exact h _ (List.getElem_mem hi)
section
variable {l : List UInt8} {e : Int} (hl : l.length ≤ 1000)
include hl
theorem s_putall (L : List Ins) (hL : L.length ≤ 60) (ho : okL L) (hi : inL L) : WM n_bincode_PutAll [.sl 9 (L.map insC)] true l e (.tup []) (pPuts L l e).1 (pPuts L l e).2 := by
  refine fun_sound (ic := F_bincode_PutAll.body) mixed c_bincode_PutAll rfl rfl ?_
  simp only [go_sem, ro, wo, wa, wx, rx, ins_e, vl_e, insC, F_bincode_PutAll]
  refine loop_rule (fun i : Nat => ⟨[(8, .int .i64 i), (7, .int .i64 L.length), (6, .sl 9 (L.map insC)), (0, .mp 1000 3 0 0)], [(1000, wo 2000 true (pPuts (L.take i) l e).1 (pPuts (L.take i) l e).2), (2000, wa (pPuts (L.take i) l e).1)]⟩) (fun i => i ≤ L.length) (fun i => L.length - i) 0 (Nat.zero_le _) (Wk.of ?_ ?_) ?_
  · simp only [go_sem, ro, wo, wa, wx, rx, ins_e, vl_e, insC]; try simp
  · simp only [go_sem, ro, wo, wa, wx, rx, ins_e, vl_e, insC, List.take_zero, pPuts]; try simp [go_sem]
  intro i hi2
  by_cases h1 : (i : Int) < (L.length : Int)
  · have hi' : i < L.length := by omega
    have e8 := wi (n := (i : Int) + 1) (by omega) (by omega)
    have hln := pPuts_len ho l e i
    obtain ⟨b1, b2, b3, b4⟩ := inL_at hi hi'
    have hp := s_put (l := (pPuts (L.take i) l e).1) (e := (pPuts (L.take i) l e).2) (by omega) (nth L i) b1 b3
    rw [← pPuts_next hi'] at hp
    simp only [ins_e] at hp
    simp only [go_sem, ro, wo, wa, wx, rx, ins_e, vl_e, insC, decide_eq_true h1]
    refine ⟨by omega, h1, ?_⟩
    refine call_w [] (k := 1000) (j := 2000) (hp) (by decide) (by decide) (by decide) (by decide) (by first | rfl | simp [go_sem, slv_ids, ro, wo, wa, wx, rx, ins_e, vl_e, insC]) (by simp [go_sem, ro, wo, wa, wx, rx, ins_e, vl_e, insC]) (by rfl) (by rfl) (by rfl) ?_
    simp only [go_sem, ro, wo, wa, wx, rx, ins_e, vl_e, insC]
    refine klp_n (i + 1) (show i + 1 ≤ L.length by omega) (show L.length - (i + 1) < L.length - i by omega) (Wk.of ?_ ?_)
    · simp only [go_sem, ro, wo, wa, wx, rx, ins_e, vl_e, insC, e8]; try simp
    · simp only [go_sem, ro, wo, wa, wx, rx, ins_e, vl_e, insC]; try simp [go_sem, wo, wa]
  · obtain rfl : i = L.length := by omega
    simp only [go_sem, ro, wo, wa, wx, rx, ins_e, vl_e, insC, decide_eq_false h1]
    rw [List.take_length]
    exact done_n [] _ [(1000, wo 2000 true (pPuts L l e).1 (pPuts L l e).2), (2000, wa (pPuts L l e).1)] (by simp only [go_sem, ro, wo, wa, wx, rx, ins_e, vl_e, insC]) (by simp only [go_sem, ro, wo, wa, wx, rx, ins_e, vl_e, insC]) rfl ⟨rfl, rfl⟩
end
theorem s_few11 (L : List Ins) : PCalls Tryd.prog n_law11_few [.sl 9 (L.map insC)] (.bool (fewB L)) := by
  refine pfun_sound (ic := F_law11_few.body) mixed c_law11_few rfl rfl ?_
  simp only [go_sem, ro, wo, wa, wx, rx, ins_e, vl_e, insC, F_law11_few]
  refine loop_rule (fun q : Nat × Int => ⟨[(4, .int .i64 q.1), (3, .int .i64 q.2), (0, .sl 9 (L.map insC))], []⟩) (fun q => q.1 ≤ L.length ∧ q.1 ≤ 100 ∧ fwN (L.drop q.1) (100 - q.1) q.2 = fwN L 100 0) (fun q => L.length - q.1) (0, 0) ⟨Nat.zero_le _, Nat.zero_le _, rfl⟩ (Wk.of ?_ ?_) ?_
  · simp only [go_sem, ro, wo, wa, wx, rx, ins_e, vl_e, insC]; try simp
  · simp only [go_sem, ro, wo, wa, wx, rx, ins_e, vl_e, insC]
  rintro ⟨i, n⟩ ⟨hi, h100, hf⟩
  simp only at hi h100 hf
  by_cases h1 : (i : Int) < (L.length : Int)
  · by_cases h2 : (i : Int) < 100
    · have hi' : i < L.length := by omega
      have hd : L.drop i = nth L i :: L.drop (i + 1) := by rw [nth_eq hi', List.drop_eq_getElem_cons hi']
      by_cases h3 : n ≤ 400
      · have e8 := wi (n := (i : Int) + 1) (by omega) (by omega)
        rw [hd, show 100 - i = (100 - (i + 1)) + 1 by omega, fwN, if_pos h3] at hf
        simp only [go_sem, ro, wo, wa, wx, rx, ins_e, vl_e, insC, decide_eq_true h1, decide_eq_true h2, decide_eq_true h3, List.length_map]
        refine ⟨by omega, h1, by omega, h1, ?_⟩
        refine klp_n (i + 1, IntKind.i64.wrap (IntKind.i64.wrap (n + (nth L i).lb.length) + (nth L i).ty.length)) ⟨show i + 1 ≤ L.length by omega, show i + 1 ≤ 100 by omega, hf⟩ (show L.length - (i + 1) < L.length - i by omega) (Wk.of ?_ ?_)
        · simp only [go_sem, ro, wo, wa, wx, rx, ins_e, vl_e, insC, e8]; try simp
        · simp only [go_sem, ro, wo, wa, wx, rx, ins_e, vl_e, insC]
      · rw [hd, show 100 - i = (100 - (i + 1)) + 1 by omega, fwN, if_neg h3] at hf
        unfold fewB
        rw [← hf]
        cases h4 : decide ((L.length : Int) ≤ 60)
        · simp only [go_sem, ro, wo, wa, wx, rx, ins_e, vl_e, insC, decide_eq_true h1, decide_eq_true h2, decide_eq_false h3, h4, Bool.false_and]
          exact pdone [] (by rfl) rfl
        · rw [decide_eq_false h3]
          simp only [go_sem, ro, wo, wa, wx, rx, ins_e, vl_e, insC, decide_eq_true h1, decide_eq_true h2, decide_eq_false h3, h4, Bool.true_and]
          exact pdone [] (by rfl) rfl
    · have h4 : decide ((L.length : Int) ≤ 60) = false := decide_eq_false (by omega)
      unfold fewB
      rw [h4]
      simp only [go_sem, ro, wo, wa, wx, rx, ins_e, vl_e, insC, decide_eq_true h1, decide_eq_false h2, h4, Bool.false_and]
      exact pdone [] (by rfl) rfl
  · have hi' : i = L.length := by omega
    subst hi'
    rw [List.drop_length, fwN] at hf
    unfold fewB
    rw [← hf]
    cases h4 : decide ((L.length : Int) ≤ 60)
    · simp only [go_sem, ro, wo, wa, wx, rx, ins_e, vl_e, insC, decide_eq_false h1, h4, Bool.false_and]
      exact pdone [] (by rfl) rfl
    · cases h5 : decide (n ≤ 400)
      · simp only [go_sem, ro, wo, wa, wx, rx, ins_e, vl_e, insC, decide_eq_false h1, h4, h5, Bool.true_and]
        exact pdone [] (by rfl) rfl
      · simp only [go_sem, ro, wo, wa, wx, rx, ins_e, vl_e, insC, decide_eq_false h1, h4, h5, Bool.true_and]
        exact pdone [] (by rfl) rfl
def o1 (x : Ins) : Option (List UInt8) × Int := wD true (pPut x [] 0).1 (pPut x [] 0).2
theorem s_one (x : Ins) (hn : 0 ≤ x.n) (hb : x.lb.length ≤ 9223372036854775807) : PCalls Tryd.prog n_law11_one [ins_ x] (.tup [slv (o1 x).1, .int .i64 (o1 x).2]) := by
  refine pfun_sound (ic := F_law11_one.body) mixed c_law11_one rfl rfl ?_
  have hp := s_put (l := []) (e := 0) (by simp) x hn hb
  have hln := pPut_len x [] 0
  rw [List.length_nil] at hln
  have hd := s_wdone true (pPut x [] 0).1 (pPut x [] 0).2 (by omega)
  rw [show wD true (pPut x [] 0).1 (pPut x [] 0).2 = o1 x from rfl] at hd
  simp only [ins_e] at hp
  generalize o1 x = o at hd ⊢
  obtain ⟨o, e⟩ := o
  cases o
  all_goals
    simp only [go_sem, ro, wo, wa, wx, rx, ins_e, vl_e, insC, F_law11_one]
    refine call_wnew 904 905 (by decide) (by decide) (by decide) (by simp only [go_sem, ro, wo, wa, wx, rx, ins_e, vl_e, insC]) (by simp only [go_sem, ro, wo, wa, wx, rx, ins_e, vl_e, insC]) ?_
    simp only [go_sem, ro, wo, wa, wx, rx, ins_e, vl_e, insC]
    refine call_w [] (k := 904) (j := 905) (hp) (by decide) (by decide) (by decide) (by decide) (by first | rfl | simp [go_sem, slv_ids, ro, wo, wa, wx, rx, ins_e, vl_e, insC]) (by simp [go_sem, ro, wo, wa, wx, rx, ins_e, vl_e, insC]) (by rfl) (by rfl) (by rfl) ?_
    simp only [go_sem, ro, wo, wa, wx, rx, ins_e, vl_e, insC]
    refine call_w [] (k := 904) (j := 905) (hd) (by decide) (by decide) (by decide) (by decide) (by first | rfl | simp [go_sem, slv_ids, ro, wo, wa, wx, rx, ins_e, vl_e, insC]) (by simp [go_sem, ro, wo, wa, wx, rx, ins_e, vl_e, insC]) (by rfl) (by rfl) (by rfl) ?_
    simp only [go_sem, ro, wo, wa, wx, rx, ins_e, vl_e, insC]
    exact pdone [] (by simp only [go_sem, ro, wo, wa, wx, rx, ins_e, vl_e, insC]) (by first | rfl | simp [go_sem, slv_ids, ro, wo, wa, wx, rx, ins_e, vl_e, insC])
theorem pl_1 : PL ⟨65, 0, 0, 4294967295, 0, 0, 0, [], []⟩ = true ∧ rIm 65 = 18 := by decide +kernel
theorem pl_2 : PL ⟨64522, 0, 1, 0, 0, 0, 0, [], []⟩ = true ∧ rIm 64522 = 14 := by decide +kernel
theorem pl_3 : PL ⟨40, 2, 1, 4, 0, 0, 0, [], []⟩ = true ∧ rIm 40 = 17 := by decide +kernel
theorem e_1 : encI ⟨65, 0, 0, 4294967295, 0, 0, 0, [], []⟩ = [65, 127] := by
  have h : s32 4294967295 = -1 := by decide
  simp only [encI, pl_1.2, encO, encM]
  simp [h, putS_lo]
theorem e_2 : encI ⟨64522, 0, 1, 0, 0, 0, 0, [], []⟩ = [252, 10, 0, 1] := by
  simp only [encI, pl_2.2, encO, encM]
  simp [putU_lo]
theorem e_3 : encI ⟨40, 2, 1, 4, 0, 0, 0, [], []⟩ = [40, 66, 1, 4] := by
  simp only [encI, pl_3.2, encO, encM]
  simp [putU_lo]
theorem o1_ok {x : Ins} (h : PL x = true) (hs : ¬ (rIm x.op = 3 ∧ 4294967296 ≤ x.lb.length)) : o1 x = (some (encI x), 0) := by
  unfold o1 pPut
  rw [if_pos h, if_neg hs]
  rfl
theorem g_1 : gI [65, 127] 0 = .ok (⟨65, 0, 0, 4294967295, 0, 0, 0, [], []⟩, 2) := by
  have h := gI_enc (x := ⟨65, 0, 0, 4294967295, 0, 0, 0, [], []⟩) (b := [65, 127]) (r := []) (a := 0) pl_1.1 (by decide) (by decide) (by rw [e_1]; rfl)
  rw [e_1] at h
  exact h
theorem s_alive11 : PCalls Tryd.prog n_law11_alive [] (.bool true) := by
  refine pfun_sound (ic := F_law11_alive.body) mixed c_law11_alive rfl rfl ?_
  have c1 := s_one ⟨65, 0, 0, 4294967295, 0, 0, 0, [], []⟩ (by decide) (by decide)
  have c2 := s_one ⟨64522, 0, 1, 0, 0, 0, 0, [], []⟩ (by decide) (by decide)
  have c3 := s_one ⟨40, 2, 1, 4, 0, 0, 0, [], []⟩ (by decide) (by decide)
  rw [o1_ok pl_1.1 (by decide +kernel), e_1] at c1
  rw [o1_ok pl_2.1 (by decide +kernel), e_2] at c2
  rw [o1_ok pl_3.1 (by decide +kernel), e_3] at c3
  have r1 := s_read [65, 127] (by decide)
  simp only [ins_e] at c1 c2 c3
  have hg := s_get11 (b := [65, 127]) (a := 0) (by decide) (by decide)
  rw [g_1] at hg
  simp only [go_sem, ro, wo, wa, wx, rx, ins_e, vl_e, insC, F_law11_alive]
  refine call_nl [.agg [.int .i64 65, .int .i64 0, .int .i64 0, .int .u64 4294967295, .int .i64 0, .int .i64 0, .int .i64 0, .sl 1 [], .sl 1 []]] ⟨.inr (.inr ⟨_, _, rfl, rfl, .inl rfl, .inl rfl, .inl rfl, .inl rfl, .inl rfl, .inl rfl, .inl rfl, .inr ⟨rfl, 1, rfl⟩, .inr ⟨rfl, 1, rfl⟩, trivial⟩), trivial⟩ ?_
  refine call_same (c1) (by simp [go_sem, ro, wo, wa, wx, rx, ins_e, vl_e, insC]) ?_
  simp only [go_sem, ro, wo, wa, wx, rx, ins_e, vl_e, insC]
  refine call_nl [.agg [.int .i64 64522, .int .i64 0, .int .i64 1, .int .u64 0, .int .i64 0, .int .i64 0, .int .i64 0, .sl 1 [], .sl 1 []]] ⟨.inr (.inr ⟨_, _, rfl, rfl, .inl rfl, .inl rfl, .inl rfl, .inl rfl, .inl rfl, .inl rfl, .inl rfl, .inr ⟨rfl, 1, rfl⟩, .inr ⟨rfl, 1, rfl⟩, trivial⟩), trivial⟩ ?_
  refine call_same (c2) (by simp [go_sem, ro, wo, wa, wx, rx, ins_e, vl_e, insC]) ?_
  simp only [go_sem, ro, wo, wa, wx, rx, ins_e, vl_e, insC]
  refine call_nl [.agg [.int .i64 40, .int .i64 2, .int .i64 1, .int .u64 4, .int .i64 0, .int .i64 0, .int .i64 0, .sl 1 [], .sl 1 []]] ⟨.inr (.inr ⟨_, _, rfl, rfl, .inl rfl, .inl rfl, .inl rfl, .inl rfl, .inl rfl, .inl rfl, .inl rfl, .inr ⟨rfl, 1, rfl⟩, .inr ⟨rfl, 1, rfl⟩, trivial⟩), trivial⟩ ?_
  refine call_same (c3) (by simp [go_sem, ro, wo, wa, wx, rx, ins_e, vl_e, insC]) ?_
  simp only [go_sem, ro, wo, wa, wx, rx, ins_e, vl_e, insC]
  refine call_nrecF [23] r1 ?_ rfl (by simp [go_sem]) 901 (by decide) (by simp only [go_sem, ro, wo, wa, wx, rx, ins_e, vl_e, insC]) ?_
  · simp only [go_sem, ro, wo, wa, wx, rx, ins_e, vl_e, insC, Nat.le_refl]
    rfl
  simp only [go_sem, ro, wo, wa, wx, rx, ins_e, vl_e, insC]
  refine call_me hg ⟨by decide, by decide⟩ (fun _ => rfl) (by simp) rfl (fun _ => rfl) (by rfl) ?_
  rintro ⟨x, a2, e2⟩ ⟨p1, p2⟩
  rcases p2 with ⟨x', k2, q1, q2⟩ | ⟨e, q1, _⟩
  rotate_left
  · cases q1
  cases q1
  cases q2
  simp only [go_sem, ro, wo, wa, wx, rx, ins_e, vl_e, insC, bytes_by]
  refine ⟨fun _ => ⟨fun _ => ⟨fun _ => ?_, fun h => absurd h (by decide)⟩, fun h => absurd h (by decide)⟩, fun h => absurd h (by decide)⟩
  exact pdone [] (by simp only [go_sem, ro, wo, wa, wx, rx, ins_e, vl_e, insC]) (by first | rfl | simp [go_sem, slv_ids, ro, wo, wa, wx, rx, ins_e, vl_e, insC])
end Go.Proofs.YtdhiiannngjjpaaDoor
