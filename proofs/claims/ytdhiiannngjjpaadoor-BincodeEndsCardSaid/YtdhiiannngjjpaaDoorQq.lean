/-
  Chapter 11 in plain Lean: what is written is read; what is read is plain, and its encoding is the shortest.
-/
import Derived.Test.YtdhiiannngjjpaaDoorQf
import Derived.Test.YtdhiiannngjjpaaDoorQe
import Derived.Test.YtdhiiannngjjpaaDoorQp
set_option linter.unusedVariables false
set_option linter.unusedSimpArgs false
set_option linter.unusedSectionVars false
set_option maxRecDepth 100000
set_option maxHeartbeats 4000000
set_option linter.unusedVariables false
set_option linter.unusedSimpArgs false
namespace Go.Proofs.YtdhiiannngjjpaaDoor
open Go Go.Mw

theorem drop_x {b x r : List UInt8} {a : Nat} (h : b.drop a = x ++ r) : b.drop (a + x.length) = r := by
  rw [← List.drop_drop, h, List.drop_left]
theorem drop_lt {b x r : List UInt8} {a : Nat} (h : b.drop a = x ++ r) (hx : 0 < x.length) : a + x.length + r.length = b.length := by
  have := congrArg List.length h
  simp only [List.length_drop, List.length_append] at this
  omega
theorem gB_ok {b r : List UInt8} {x : UInt8} {a : Nat} (h : b.drop a = [x] ++ r) : gB b a = .ok (x, a + 1) := by
  have hl := drop_lt h (by simp)
  simp only [List.length_singleton] at hl
  unfold gB
  rw [if_pos (by omega)]
  have : b.drop a = b[a]'(by omega) :: b.drop (a + 1) := List.drop_eq_getElem_cons (by omega)
  rw [this] at h
  simp only [List.singleton_append, List.cons.injEq] at h
  rw [nth_eq (by omega), h.1]
theorem gU_ok {b r : List UInt8} {a n : Nat} (hn : n < 4294967296) (h : b.drop a = putU n ++ r) : gU b a = .ok (n, a + (putU n).length) := by
  unfold gU
  rw [h, decU_putU r (by decide) hn]
  rfl
theorem gS_ok {b r : List UInt8} {a bits : Nat} {n : Int} (hb : 1 ≤ bits ∧ bits ≤ 64) (h1 : -(2 ^ (bits - 1) : Int) ≤ n) (h2 : n < 2 ^ (bits - 1)) (h : b.drop a = putS n ++ r) : gS bits b a = .ok (n, a + (putS n).length) := by
  unfold gS
  rw [h, decS_putS r hb h1 h2]
  rfl
theorem gC_ok {b r : List UInt8} {a n : Nat} {most : Int} (hn : n < 4294967296) (hm : (n : Int) ≤ most) (h : b.drop a = putU n ++ r) : gC b a most = .ok (n, a + (putU n).length) := by
  unfold gC
  rw [gU_ok hn h]
  simp only
  rw [if_neg (by omega)]
theorem ov_vo {t : Int} (h : 1 ≤ t ∧ t ≤ 4) : ov (vo t).1 = (t, true) := by
  rcases (show t = 1 ∨ t = 2 ∨ t = 3 ∨ t = 4 by omega) with rfl | rfl | rfl | rfl <;> rfl
theorem gV_ok {b r : List UInt8} {a : Nat} {t : Int} (ht : 1 ≤ t ∧ t ≤ 4) (h : b.drop a = [(vo t).1] ++ r) : gV b a = .ok (t, a + 1) := by
  unfold gV
  rw [gB_ok h]
  simp only [ov_vo ht, if_true]
theorem putS_val {t : Int} (ht : 1 ≤ t ∧ t ≤ 4) : ∃ n : Int, [(vo t).1] = putS n ∧ -17 ≤ n ∧ n < 0 ∧ UInt8.ofNat (n + 128).toNat = (vo t).1 := by
  rcases (show t = 1 ∨ t = 2 ∨ t = 3 ∨ t = 4 by omega) with rfl | rfl | rfl | rfl
  · exact ⟨-1, by rw [putS_lo (by decide)]; rfl, by decide, by decide, rfl⟩
  · exact ⟨-2, by rw [putS_lo (by decide)]; rfl, by decide, by decide, rfl⟩
  · exact ⟨-16, by rw [putS_lo (by decide)]; rfl, by decide, by decide, rfl⟩
  · exact ⟨-17, by rw [putS_lo (by decide)]; rfl, by decide, by decide, rfl⟩
theorem gK_ok {b r : List UInt8} {a : Nat} {k v x : Int} (hk : blB k v x = true) (h : b.drop a = encB k v x ++ r) : gK b a = .ok ((k, v, x), a + (encB k v x).length) := by
  unfold blB at hk
  unfold encB at h ⊢
  unfold gK
  by_cases h0 : k = 0
  · subst h0
    simp only [if_true, Bool.and_eq_true, beq_iff_eq] at hk h ⊢
    obtain ⟨rfl, rfl⟩ := hk
    have e : ([64] : List UInt8) = putS (-64) := by rw [putS_lo (by decide)]; rfl
    rw [gS_ok (n := -64) (by decide) (by decide) (by decide) (by rw [← e]; exact h), ← e]
    rfl
  · simp only [h0, if_false] at hk h ⊢
    by_cases h1 : k = 1
    · subst h1
      simp only [if_true, Bool.and_eq_true, beq_iff_eq, vaB, decide_eq_true_eq] at hk h ⊢
      obtain ⟨⟨g1, g2⟩, rfl⟩ := hk
      obtain ⟨n, e, n1, n2, n3⟩ := putS_val ⟨g1, g2⟩
      rw [gS_ok (n := n) (by decide) (by simp; omega) (by simp; omega) (by rw [← e]; exact h), ← e]
      simp only [n3, ov_vo ⟨g1, g2⟩]
      rw [if_neg (by omega), if_neg (by omega), if_pos ⟨by omega, trivial⟩]
    · simp only [h1, if_false] at hk h ⊢
      by_cases h2 : k = 2
      · subst h2
        simp only [if_true, Bool.and_eq_true, beq_iff_eq, ixB, decide_eq_true_eq] at hk h ⊢
        obtain ⟨rfl, g1, g2⟩ := hk
        rw [gS_ok (n := x) (by decide) (by simp; omega) (by simp; omega) h]
        simp only
        rw [if_neg (by omega), if_pos g1]
      · simp only [h2, if_false] at hk
        cases hk
theorem ix_nat {n : Int} (h : ixB n = true) : ∃ k : Nat, n = (k : Int) ∧ k < 4294967296 := by
  simp only [ixB, Bool.and_eq_true, decide_eq_true_eq] at h
  obtain ⟨k, rfl⟩ := Int.eq_ofNat_of_zero_le (show 0 ≤ n by omega)
  exact ⟨k, rfl, by omega⟩
theorem gL_ok : ∀ (l : List Int) {b r : List UInt8} {a : Nat}, l.all ixB = true → b.drop a = encL l ++ r → gL l.length b a = .ok (l, a + (encL l).length)
  | [], b, r, a, _, _ => rfl
  | n :: l, b, r, a, hl, h => by
    simp only [List.all_cons, Bool.and_eq_true] at hl
    obtain ⟨k, rfl, hk⟩ := ix_nat hl.1
    have e : encL ((k : Int) :: l) = putU k ++ encL l := rfl
    rw [e, List.append_assoc] at h
    rw [e, List.length_cons, gL, gU_ok hk h]
    simp only
    rw [gL_ok l hl.2 (drop_x h)]
    simp only [List.length_append, Nat.add_assoc]
theorem known_op {op : Int} (h : rKn op = true) : (0 ≤ op ∧ op < 256 ∧ op ≠ 252) ∨ (64512 ≤ op ∧ op < 64768) := by
  have := row_in (p := fun op => (decide (0 ≤ op) && (decide (op < 256) && !(op == 252))) || (decide (64512 ≤ op) && decide (op < 64768))) (by decide +kernel) (op := op) (fun q => by simp [rKn, q] at h)
  simpa using this
theorem encO_ok {op : Int} {b r : List UInt8} {a : Nat} (hk : rKn op = true) (h : b.drop a = encO op ++ r) : gO b a = .ok (op, a + (encO op).length) := by
  unfold gO
  rcases known_op hk with ⟨h1, h2, h3⟩ | ⟨h1, h2⟩
  · unfold encO at h ⊢
    rw [if_neg (by omega)] at h ⊢
    obtain ⟨n, rfl⟩ := Int.eq_ofNat_of_zero_le h1
    have e : (UInt8.ofNat n).toNat = n := ofNat_toNat (by omega)
    rw [Int.toNat_natCast] at h ⊢
    rw [gB_ok h]
    simp only
    rw [if_neg (fun q => h3 (by rw [← e, q]; rfl)), e, if_pos hk]
    rfl
  · unfold encO at h ⊢
    rw [if_pos (by omega)] at h ⊢
    rw [show 252 :: putU (op - 64512).toNat ++ r = [252] ++ (putU (op - 64512).toNat ++ r) from rfl] at h
    rw [gB_ok h]
    simp only [if_true]
    have h3 := drop_x h
    simp only [List.length_singleton] at h3
    rw [gU_ok (by omega) h3]
    simp only
    rw [show (64512 : Int) + ((op - 64512).toNat : Int) = op by omega, if_pos hk, List.length_cons]
    congr 2
    omega
theorem n_32 {n : Int} (h : 0 ≤ n ∧ n < 4294967296) : IntKind.u64.wrap (IntKind.u32.wrap (s32 n)) = n := by
  have e : IntKind.u32.wrap (s32 n) = (s32 n) % 4294967296 := rfl
  rw [w_u64, e]
  unfold s32
  rw [w_i64, w_i32, show IntKind.u32.wrap n = n % 4294967296 from rfl]
  omega
theorem n_64 {n : Int} (h : 0 ≤ n ∧ n < 18446744073709551616) : IntKind.u64.wrap (IntKind.i64.wrap n) = n := by
  rw [w_u64, w_i64]; omega
theorem nil_of {l : List Int} (h : ¬ (l.length : Int) > 0) : l = [] := List.eq_nil_of_length_eq_zero (by omega)
theorem one_of {l : List Int} (h : (l.length : Int) = 1) : l = [nth l 0] := by
  match l, h with
  | [x], _ => rfl
  | [], h => simp at h
  | _ :: _ :: _, h => simp at h; omega
theorem gI_enc {x : Ins} {b r : List UInt8} {a : Nat} (hp : PL x = true) (hl : x.lb.length ≤ 64) (hn : 0 ≤ x.n ∧ x.n < 18446744073709551616) (h : b.drop a = encI x ++ r) : gI b a = .ok (x, a + (encI x).length) := by
  obtain ⟨op, a0, b0, n, k, v, z, ty, lb⟩ := x
  have hk : rKn op = true := by
    unfold PL plR at hp
    simp only [Bool.and_eq_true] at hp
    exact hp.1
  unfold encI at h ⊢
  rw [List.append_assoc] at h
  unfold gI
  rw [encO_ok hk h]
  replace h := drop_x h
  rw [List.length_append, ← Nat.add_assoc]
  simp only at h hl hn ⊢
  generalize a + (encO op).length = a1 at h ⊢
  have hi := imm_rng op
  unfold PL plR rfin at hp
  simp only [hk, Bool.true_and] at hp
  generalize rIm op = i at *
  clear hk
  rcases (show i = 0 ∨ i = 1 ∨ i = 2 ∨ i = 3 ∨ i = 4 ∨ i = 5 ∨ i = 6 ∨ i = 7 ∨ i = 8 ∨ i = 9 ∨ i = 10 ∨ i = 11 ∨ i = 12 ∨ i = 13 ∨ i = 14 ∨ i = 15 ∨ i = 16 ∨ i = 17 ∨ i = 18 ∨ i = 19 ∨ i = 20 by omega) with rfl | rfl | rfl | rfl | rfl | rfl | rfl | rfl | rfl | rfl | rfl | rfl | rfl | rfl | rfl | rfl | rfl | rfl | rfl | rfl | rfl
  all_goals
    simp only [Int.reduceEq, Int.reduceBEq, false_or, or_false, or_true, true_or, or_self, if_true, if_false, Bool.true_or, Bool.false_or, Bool.true_and, Bool.and_eq_true, beq_iff_eq, Bool.not_eq_true', decide_eq_false_iff_not, decide_eq_true_eq, Bool.or_eq_true] at hp
    simp only [encM, gM, z0, Int.reduceEq, false_or, or_false, or_true, true_or, or_self, if_true, if_false] at h ⊢
  -- no immediates
  · obtain ⟨⟨rfl, rfl, rfl⟩, hlb, hty, rfl, rfl, rfl⟩ := hp
    rw [nil_of hlb, nil_of hty]; rfl
  -- a block type
  · obtain ⟨hlb, hty, rfl, rfl, rfl, hb⟩ := hp
    rw [gK_ok hb h, nil_of hlb, nil_of hty]
  · obtain ⟨⟨rfl, rfl, rfl⟩, hlb, hty, ha, rfl, rfl⟩ := hp
    obtain ⟨m, rfl, hm⟩ := ix_nat ha
    rw [Int.toNat_natCast] at h ⊢
    rw [gU_ok hm h, nil_of hlb, nil_of hty]
  · obtain ⟨⟨rfl, rfl, rfl⟩, hty, ha, rfl, rfl, hlb⟩ := hp
    obtain ⟨m, rfl, hm⟩ := ix_nat ha
    simp only [Int.toNat_natCast, List.append_assoc] at h
    rw [gC_ok (most := 64) (by omega) (by omega) h]
    have h2 := drop_x h
    simp only
    rw [gL_ok lb hlb h2]
    simp only
    rw [gU_ok hm (drop_x h2), nil_of hty]
    simp only [List.length_append, Int.toNat_natCast, Nat.add_assoc]
  · obtain ⟨⟨rfl, rfl, rfl⟩, hlb, hty, ha, rfl, rfl⟩ := hp
    obtain ⟨m, rfl, hm⟩ := ix_nat ha
    rw [Int.toNat_natCast] at h ⊢
    rw [gU_ok hm h, nil_of hlb, nil_of hty]
  · obtain ⟨⟨rfl, rfl, rfl⟩, hlb, hty, ha, hb, rfl⟩ := hp
    obtain ⟨m, rfl, hm⟩ := ix_nat ha
    obtain ⟨m2, rfl, hm2⟩ := ix_nat hb
    rw [Int.toNat_natCast, Int.toNat_natCast, List.append_assoc] at h
    rw [Int.toNat_natCast, Int.toNat_natCast, gU_ok hm h]
    simp only
    rw [gU_ok hm2 (drop_x h), nil_of hlb, nil_of hty, List.length_append, Nat.add_assoc]
  · obtain ⟨⟨rfl, rfl, rfl⟩, hlb, rfl, rfl, rfl, hlen, hv⟩ := hp
    obtain ⟨t, rfl⟩ : ∃ t, ty = [t] := ⟨nth ty 0, one_of hlen⟩
    simp only [show nth [t] 0 = t from rfl] at *
    rw [List.append_assoc] at h
    rw [gU_ok (n := 1) (by decide) h]
    simp only [if_true]
    simp only [vaB, Bool.and_eq_true, decide_eq_true_eq] at hv
    rw [gV_ok ⟨hv.1, hv.2⟩ (drop_x h), nil_of hlb, List.length_append, Nat.add_assoc]
    rfl
  · obtain ⟨⟨rfl, rfl, rfl⟩, hlb, hty, ha, rfl, rfl⟩ := hp
    obtain ⟨m, rfl, hm⟩ := ix_nat ha
    rw [Int.toNat_natCast] at h ⊢
    rw [gU_ok hm h, nil_of hlb, nil_of hty]
  · obtain ⟨⟨rfl, rfl, rfl⟩, hlb, hty, ha, rfl, rfl⟩ := hp
    obtain ⟨m, rfl, hm⟩ := ix_nat ha
    rw [Int.toNat_natCast] at h ⊢
    rw [gU_ok hm h, nil_of hlb, nil_of hty]
  · obtain ⟨⟨rfl, rfl, rfl⟩, hlb, hty, ha, rfl, rfl⟩ := hp
    obtain ⟨m, rfl, hm⟩ := ix_nat ha
    rw [Int.toNat_natCast] at h ⊢
    rw [gU_ok hm h, nil_of hlb, nil_of hty]
  · obtain ⟨⟨rfl, rfl, rfl⟩, hlb, hty, ha, hb, rfl⟩ := hp
    obtain ⟨m, rfl, hm⟩ := ix_nat ha
    obtain ⟨m2, rfl, hm2⟩ := ix_nat hb
    rw [Int.toNat_natCast, Int.toNat_natCast, List.append_assoc] at h
    rw [Int.toNat_natCast, Int.toNat_natCast, gU_ok hm h]
    simp only
    rw [gU_ok hm2 (drop_x h), nil_of hlb, nil_of hty, List.length_append, Nat.add_assoc]
  · obtain ⟨⟨rfl, rfl, rfl⟩, hlb, hty, ha, hb, rfl⟩ := hp
    obtain ⟨m, rfl, hm⟩ := ix_nat ha
    obtain ⟨m2, rfl, hm2⟩ := ix_nat hb
    rw [Int.toNat_natCast, Int.toNat_natCast, List.append_assoc] at h
    rw [Int.toNat_natCast, Int.toNat_natCast, gU_ok hm h]
    simp only
    rw [gU_ok hm2 (drop_x h), nil_of hlb, nil_of hty, List.length_append, Nat.add_assoc]
  · obtain ⟨⟨rfl, rfl, rfl⟩, hlb, hty, ha, rfl, rfl⟩ := hp
    obtain ⟨m, rfl, hm⟩ := ix_nat ha
    rw [Int.toNat_natCast] at h ⊢
    rw [gU_ok hm h, nil_of hlb, nil_of hty]
  · obtain ⟨⟨rfl, rfl, rfl⟩, hlb, hty, rfl, hb, rfl⟩ := hp
    obtain ⟨m, rfl, hm⟩ := ix_nat hb
    rw [Int.toNat_natCast] at h ⊢
    rw [gU_ok hm h, nil_of hlb, nil_of hty]
  · obtain ⟨⟨rfl, rfl, rfl⟩, hlb, hty, ha, hb, rfl⟩ := hp
    obtain ⟨m, rfl, hm⟩ := ix_nat ha
    obtain ⟨m2, rfl, hm2⟩ := ix_nat hb
    rw [Int.toNat_natCast, Int.toNat_natCast, List.append_assoc] at h
    rw [Int.toNat_natCast, Int.toNat_natCast, gU_ok hm h]
    simp only
    rw [gU_ok hm2 (drop_x h), nil_of hlb, nil_of hty, List.length_append, Nat.add_assoc]
  · obtain ⟨⟨rfl, rfl, rfl⟩, hlb, hty, ha, hb, rfl⟩ := hp
    obtain ⟨m, rfl, hm⟩ := ix_nat ha
    obtain ⟨m2, rfl, hm2⟩ := ix_nat hb
    rw [Int.toNat_natCast, Int.toNat_natCast, List.append_assoc] at h
    rw [Int.toNat_natCast, Int.toNat_natCast, gU_ok hm h]
    simp only
    rw [gU_ok hm2 (drop_x h), nil_of hlb, nil_of hty, List.length_append, Nat.add_assoc]
  · obtain ⟨⟨rfl, rfl, rfl⟩, hlb, hty, ha, rfl, rfl⟩ := hp
    obtain ⟨m, rfl, hm⟩ := ix_nat ha
    rw [Int.toNat_natCast] at h ⊢
    rw [gU_ok hm h, nil_of hlb, nil_of hty]
  · obtain ⟨⟨rfl, rfl, rfl⟩, hlb, hty, ha1, ha2, hb, hn2⟩ := hp
    obtain ⟨m2, rfl, hm2⟩ := ix_nat hb
    obtain ⟨m, rfl⟩ := Int.eq_ofNat_of_zero_le ha1
    obtain ⟨m3, rfl⟩ := Int.eq_ofNat_of_zero_le hn.1
    by_cases h0 : (m2 : Int) = 0
    · rw [if_pos h0, List.append_assoc] at h
      rw [if_pos h0]
      simp only [Int.toNat_natCast] at h ⊢
      unfold gA
      rw [gU_ok (by omega) h]
      simp only
      rw [if_neg (by omega), if_neg (by omega), gU_ok (by omega) (drop_x h)]
      simp only
      rw [nil_of hlb, nil_of hty, h0, List.length_append, Nat.add_assoc]
    · rw [if_neg h0] at h ⊢
      rw [show (m : Int) + 64 = ((m + 64 : Nat) : Int) by omega] at h ⊢
      simp only [Int.toNat_natCast, List.append_assoc] at h ⊢
      unfold gA
      rw [gU_ok (by omega) h]
      simp only
      have h2 := drop_x h
      rw [if_neg (by omega), if_pos (by omega), gU_ok hm2 h2]
      simp only
      rw [gU_ok (by omega) (drop_x h2)]
      simp only
      rw [nil_of hlb, nil_of hty, show ((m + 64 : Nat) : Int) - 64 = (m : Int) by omega]
      simp only [List.length_append, Nat.add_assoc]
  · obtain ⟨⟨rfl, rfl, rfl⟩, hlb, hty, rfl, rfl, hn2⟩ := hp
    have hs := s32_in n
    rw [gS_ok (bits := 32) (by decide) (by simp; omega) (by simp; omega) h]
    simp only
    rw [nil_of hlb, nil_of hty, n_32 ⟨hn.1, hn2⟩]
  · obtain ⟨⟨rfl, rfl, rfl⟩, hlb, hty, rfl, rfl⟩ := hp
    have hs := i64_in n
    unfold inI at hs
    rw [gS_ok (bits := 64) (by decide) (by simp; omega) (by simp; omega) h]
    simp only
    rw [nil_of hlb, nil_of hty, n_64 hn]
  · obtain ⟨⟨rfl, rfl, rfl⟩, hlb, hty, ha, rfl, rfl⟩ := hp
    rw [gV_ok (by omega) h]
    simp only [if_pos ha]
    rw [nil_of hlb, nil_of hty]
    rfl
end Go.Proofs.YtdhiiannngjjpaaDoor
set_option maxRecDepth 100000
set_option maxHeartbeats 20000000
set_option linter.unusedVariables false
set_option linter.unusedSimpArgs false
namespace Go.Proofs.YtdhiiannngjjpaaDoor
open Go Go.Mw
-- @U: ro, wo, wa, wx, rx, ins_e, vl_e, insC

theorem wB_wB (ok : Bool) (l x y : List UInt8) : wB ok (wB ok l x) y = wB ok l (x ++ y) := by cases ok <;> simp [wB]
theorem wB_0 (ok : Bool) (l : List UInt8) : wB ok l [] = l := by cases ok <;> simp [wB]
theorem wU_ok {ok : Bool} {l : List UInt8} {e : Int} {n : Nat} (h : n < 4294967296) : wU ok l e (n : Int) = (wB ok l (putU n), e) := by
  unfold wU wB
  cases ok
  · rfl
  · simp only [if_true, Int.toNat_natCast]
    rw [if_neg (by omega)]
theorem putU_5 {n : Nat} (h : n < 4294967296) : (putU n).length ≤ 5 := putU_len (k := 4) (by omega)
theorem encL_len : ∀ {ns : List Int}, ns.all ixB = true → (encL ns).length ≤ 5 * ns.length
  | [], _ => Nat.le_refl _
  | n :: ns, h => by
    simp only [List.all_cons, Bool.and_eq_true] at h
    obtain ⟨k, rfl, hk⟩ := ix_nat h.1
    have := encL_len h.2
    have := putU_5 hk
    rw [show encL ((k : Int) :: ns) = putU k ++ encL ns from rfl, List.length_append, List.length_cons]
    omega
theorem encL_snoc {ns : List Int} {i : Nat} (h : i < ns.length) : encL (ns.take (i + 1)) = encL (ns.take i) ++ putU (nth ns i).toNat := by
  unfold encL
  rw [List.take_succ_eq_append_getElem h, List.flatMap_append, nth_eq h]
  simp
theorem all_at {f : Int → Bool} {l : List Int} {k : Nat} (h : l.all f = true) (hk : k < l.length) : f (nth l k) = true := by
  rw [nth_eq hk]
  exact List.all_eq_true.1 h _ (List.getElem_mem hk)
theorem encL_take_len {ns : List Int} (h : ns.all ixB = true) (i : Nat) : (encL (ns.take i)).length ≤ 5 * ns.length := by
  have h1 : (ns.take i).all ixB = true := List.all_eq_true.2 fun x hx => List.all_eq_true.1 h x (List.mem_of_mem_take hx)
  have := encL_len h1
  rw [List.length_take] at this
  omega
section
variable {l : List UInt8} {e : Int} (hl : l.length < 45000000000)
include hl
theorem s_wU (n : Nat) (hn : n < 4294967296) : WM n_Poctet_Writer_U32 [.int .i64 (n : Int)] true l e (.tup []) (wB (e == 0) l (putU n)) e := by
  have h := s_wU32 true l e (n : Int) (by omega)
  rw [wU_ok hn] at h
  exact h
end
section
variable {l : List UInt8} {e : Int} (hl : l.length < 40000000000)
include hl
theorem s_puts (ns : List Int) (h : ns.all ixB = true) (hn : ns.length ≤ 9223372036854775807) (hg : e = 0 → l.length + 5 * ns.length < 40000000000) : WM n_bincode_puts [.sl 1 (ns.map vl_)] true l e (.tup []) (wB (e == 0) l (encL ns)) e := by
  refine fun_sound (ic := F_bincode_puts.body) mixed c_bincode_puts rfl rfl ?_
  have hwl : ∀ i, (wB (e == 0) l (encL (ns.take i))).length < 40000000000 := fun i => by
    by_cases he : e = 0
    · have := hg he
      have ht := encL_take_len h i
      have hwl := wB_len (ok := e == 0) (l := l) (x := encL (ns.take i))
      omega
    · rw [beq_f he]; exact hl
  simp only [go_sem, ro, wo, wa, wx, rx, ins_e, vl_e, insC, F_bincode_puts]
  refine loop_rule (fun i : Nat => ⟨[(8, .int .i64 i), (7, .int .i64 ns.length), (6, .sl 1 (ns.map vl_)), (0, .mp 1000 3 0 0)], [(1000, wo 2000 true (wB (e == 0) l (encL (ns.take i))) e), (2000, wa (wB (e == 0) l (encL (ns.take i))))]⟩) (fun i => i ≤ ns.length) (fun i => ns.length - i) 0 (Nat.zero_le _) (Wk.of ?_ ?_) ?_
  · simp only [go_sem, ro, wo, wa, wx, rx, ins_e, vl_e, insC]; try simp
  · simp only [go_sem, ro, wo, wa, wx, rx, ins_e, vl_e, insC, List.take_zero, encL, List.flatMap_nil, wB_0]; try simp [go_sem]
  intro i hi
  have hwi := hwl i
  by_cases h1 : (i : Int) < (ns.length : Int)
  · have hi' : i < ns.length := by omega
    obtain ⟨m, hm1, hm2⟩ := ix_nat (all_at h hi')
    have hs := encL_snoc hi'
    have e8 := wi (n := (i : Int) + 1) (by omega) (by omega)
    rw [hm1, Int.toNat_natCast] at hs
    simp only [go_sem, ro, wo, wa, wx, rx, ins_e, vl_e, insC, decide_eq_true h1, hm1]
    refine ⟨by omega, h1, ?_⟩
    refine call_w [] (k := 1000) (j := 2000) (s_wU (l := wB (e == 0) l (encL (ns.take i))) (e := e) (by omega) m hm2) (by decide) (by decide) (by decide) (by decide) (by first | rfl | simp [go_sem, slv_ids, ro, wo, wa, wx, rx, ins_e, vl_e, insC]) (by simp [go_sem, ro, wo, wa, wx, rx, ins_e, vl_e, insC]) (by rfl) (by rfl) (by rfl) ?_
    simp only [go_sem, ro, wo, wa, wx, rx, ins_e, vl_e, insC, wB_wB]
    rw [← hs]
    refine klp_n (i + 1) (show i + 1 ≤ ns.length by omega) (show ns.length - (i + 1) < ns.length - i by omega) (Wk.of ?_ ?_)
    · simp only [go_sem, ro, wo, wa, wx, rx, ins_e, vl_e, insC, e8]; try simp
    · simp only [go_sem, ro, wo, wa, wx, rx, ins_e, vl_e, insC]; try simp [go_sem, wo, wa]
  · obtain rfl : i = ns.length := by omega
    simp only [go_sem, ro, wo, wa, wx, rx, ins_e, vl_e, insC, decide_eq_false h1]
    rw [List.take_length]
    exact done_n [] _ [(1000, wo 2000 true (wB (e == 0) l (encL ns)) e), (2000, wa (wB (e == 0) l (encL ns)))] (by simp only [go_sem, ro, wo, wa, wx, rx, ins_e, vl_e, insC]) (by simp only [go_sem, ro, wo, wa, wx, rx, ins_e, vl_e, insC]) rfl ⟨rfl, rfl⟩
end
end Go.Proofs.YtdhiiannngjjpaaDoor
set_option maxRecDepth 100000
set_option maxHeartbeats 40000000
set_option linter.unusedVariables false
set_option linter.unusedSimpArgs false
namespace Go.Proofs.YtdhiiannngjjpaaDoor
open Go Go.Mw
-- @U: ro, wo, wa, wx, rx, ins_e, vl_e, insC

theorem encO_len (op : Int) (h : rKn op = true) : (encO op).length ≤ 6 := by
  rcases known_opx h with h | h
  · unfold encO; rw [if_neg (by omega)]; simp
  · unfold encO; rw [if_pos (by omega), List.length_cons]
    have := putU_5 (n := (op - 64512).toNat) (by omega)
    omega
theorem pl_kn {x : Ins} (h : PL x = true) : rKn x.op = true := by
  unfold PL plR at h
  simp only [Bool.and_eq_true] at h
  exact h.1
theorem pPut_ok {x : Ins} {l : List UInt8} {e : Int} (h : PL x = true) (hs : ¬ (rIm x.op = 3 ∧ 4294967296 ≤ x.lb.length)) : pPut x l e = (wB (e == 0) (wB (e == 0) l (encO x.op)) (encM (rIm x.op) x), e) := by
  unfold pPut
  rw [if_pos h, if_neg hs, wB_wB]
  rfl
theorem pPut_big {x : Ins} {l : List UInt8} {e : Int} (h : PL x = true) (hs : rIm x.op = 3 ∧ 4294967296 ≤ x.lb.length) : pPut x l e = (wB (e == 0) l (encO x.op), if (true && e == 0) = true then 1 else e) := by
  unfold pPut
  rw [if_pos h, if_pos hs, Bool.true_and]
  by_cases he : e = 0
  · subst he; rfl
  · rw [if_neg he, beq_eq_false_iff_ne.2 he]; rfl
theorem pPut_no {x : Ins} {l : List UInt8} {e : Int} (h : PL x = false) : pPut x l e = (l, if (true && e == 0) = true then 10 else e) := by
  unfold pPut
  rw [if_neg (by rw [h]; decide), Bool.true_and]
  by_cases he : e = 0
  · subst he; rfl
  · rw [if_neg he, beq_eq_false_iff_ne.2 he]; rfl
section
variable {l : List UInt8} {e : Int} (hl : l.length < 1000000000)
include hl
theorem s_put (x : Ins) (hn : 0 ≤ x.n) (hlb : x.lb.length ≤ 9223372036854775807) : WM n_bincode_Put [ins_ x] true l e (.tup []) (pPut x l e).1 (pPut x l e).2 := by
  refine fun_sound (ic := F_bincode_Put.body) mixed c_bincode_Put rfl rfl ?_
  have a1 := s_plain5 x (rIm x.op) (imm_rng _) (tells x.op).2.2.1 (by omega)
  rw [(tells x.op).1, pl_eq _ (imm_rng _) _ _ hn] at a1
  replace a1 : PCalls Tryd.prog n_opcode_Plain [ins_ x] (.bool (PL x)) := a1
  simp only [ins_e] at a1
  cases hp : PL x
  · rw [hp] at a1
    rw [pPut_no hp]
    simp only [go_sem, ro, wo, wa, wx, rx, ins_e, vl_e, insC, F_bincode_Put]
    refine call_same (a1) (by simp [go_sem, ro, wo, wa, wx, rx, ins_e, vl_e, insC]) ?_
    simp only [go_sem, ro, wo, wa, wx, rx, ins_e, vl_e, insC]
    refine call_w [] (k := 1000) (j := 2000) (s_wfail true l e 10) (by decide) (by decide) (by decide) (by decide) (by first | rfl | simp [go_sem, slv_ids, ro, wo, wa, wx, rx, ins_e, vl_e, insC]) (by simp [go_sem, ro, wo, wa, wx, rx, ins_e, vl_e, insC]) (by rfl) (by rfl) (by rfl) ?_
    simp only [go_sem, ro, wo, wa, wx, rx, ins_e, vl_e, insC]
    exact done [] _ [(1000, wo 2000 true l (if (true && e == 0) = true then 10 else e)), (2000, wa l)] (by simp only [go_sem, ro, wo, wa, wx, rx, ins_e, vl_e, insC]) (by simp only [go_sem, ro, wo, wa, wx, rx, ins_e, vl_e, insC]) rfl ⟨rfl, rfl⟩
  rw [hp] at a1
  have hk := pl_kn hp
  have hol := encO_len x.op hk
  have hc := s_of5 x.op
  rw [(tells x.op).2.2.1] at hc
  have hi := imm_rng x.op
  have hko := known_opx hk
  have hQ : (¬ (rIm x.op = 3 ∧ 4294967296 ≤ x.lb.length) ∧ pPut x l e = (wB (e == 0) (wB (e == 0) l (encO x.op)) (encM (rIm x.op) x), e)) ∨ ((rIm x.op = 3 ∧ 4294967296 ≤ x.lb.length) ∧ pPut x l e = (wB (e == 0) l (encO x.op), if (true && e == 0) = true then 1 else e)) := by
    by_cases hs : rIm x.op = 3 ∧ 4294967296 ≤ x.lb.length
    · exact .inr ⟨hs, pPut_big hp hs⟩
    · exact .inl ⟨hs, pPut_ok hp hs⟩
  generalize hq : pPut x l e = q at *
  clear hq
  obtain ⟨op, a0, b0, n, k, v, z, ty, lb⟩ := x
  simp only at a1 hn hlb hk hol hc hi hko hQ
  unfold PL plR rfin at hp
  simp only [hk, Bool.true_and] at hp
  have hO : (op ≥ 64512 ∧ ∃ m : Nat, m < 256 ∧ IntKind.i64.wrap (op - 64512) = (m : Int) ∧ wB (e == 0) l (encO op) = wB (e == 0) (wB (e == 0) l [252]) (putU m)) ∨ (¬ op ≥ 64512 ∧ ∃ y : UInt8, IntKind.u8.wrap op = (y.toNat : Int) ∧ wB (e == 0) l (encO op) = wB (e == 0) l [y]) := by
    rcases hko with h | h
    · refine .inr ⟨by omega, UInt8.ofNat op.toNat, ?_, ?_⟩
      · rw [ofNat_toNat (by omega), w_u8]; omega
      · unfold encO; rw [if_neg (by omega)]
    · refine .inl ⟨by omega, (op - 64512).toNat, by omega, ?_, ?_⟩
      · rw [wi (by omega) (by omega)]; omega
      · rw [wB_wB]; unfold encO; rw [if_pos (by omega)]; rfl
  have hl1 := wB_len (ok := e == 0) (l := l) (x := encO op)
  replace hl1 : (wB (e == 0) l (encO op)).length < 1100000000 := by omega
  generalize rIm op = i at *
  clear hko hk hol
  generalize wB (e == 0) l (encO op) = l1 at *
  rcases hO with ⟨ho, m, hm, hw, rfl⟩ | ⟨ho, y, hw, rfl⟩
  · have b1 := wB_len (ok := e == 0) (l := l) (x := [252])
    rw [List.length_singleton] at b1
    simp only [go_sem, ro, wo, wa, wx, rx, ins_e, vl_e, insC, F_bincode_Put]
    refine call_same (a1) (by simp [go_sem, ro, wo, wa, wx, rx, ins_e, vl_e, insC]) ?_
    simp only [go_sem, ro, wo, wa, wx, rx, ins_e, vl_e, insC, decide_eq_true ho]
    refine call_w [] (k := 1000) (j := 2000) (s_wbyte true l 252 e (by omega)) (by decide) (by decide) (by decide) (by decide) (by first | rfl | simp [go_sem, slv_ids, ro, wo, wa, wx, rx, ins_e, vl_e, insC]) (by simp [go_sem, ro, wo, wa, wx, rx, ins_e, vl_e, insC]) (by rfl) (by rfl) (by rfl) ?_
    simp only [go_sem, ro, wo, wa, wx, rx, ins_e, vl_e, insC, hw, Bool.true_and]
    refine call_w [] (k := 1000) (j := 2000) (s_wU (l := wB (e == 0) l [252]) (e := e) (by omega) m (by omega)) (by decide) (by decide) (by decide) (by decide) (by first | rfl | simp [go_sem, slv_ids, ro, wo, wa, wx, rx, ins_e, vl_e, insC]) (by simp [go_sem, ro, wo, wa, wx, rx, ins_e, vl_e, insC]) (by rfl) (by rfl) (by rfl) ?_
    simp only [go_sem, ro, wo, wa, wx, rx, ins_e, vl_e, insC]
    refine call_same (hc) (by simp [go_sem, ro, wo, wa, wx, rx, ins_e, vl_e, insC]) ?_
    clear hw a1 hc
    generalize wB (e == 0) (wB (e == 0) l [252]) (putU m) = l1 at *
    rcases (show i = 0 ∨ i = 1 ∨ i = 2 ∨ i = 3 ∨ i = 4 ∨ i = 5 ∨ i = 6 ∨ i = 7 ∨ i = 8 ∨ i = 9 ∨ i = 10 ∨ i = 11 ∨ i = 12 ∨ i = 13 ∨ i = 14 ∨ i = 15 ∨ i = 16 ∨ i = 17 ∨ i = 18 ∨ i = 19 ∨ i = 20 by omega) with rfl | rfl | rfl | rfl | rfl | rfl | rfl | rfl | rfl | rfl | rfl | rfl | rfl | rfl | rfl | rfl | rfl | rfl | rfl | rfl | rfl
    all_goals
      simp only [Int.reduceEq, Int.reduceBEq, false_or, or_false, or_true, true_or, or_self, if_true, if_false, Bool.true_or, Bool.false_or, Bool.true_and, Bool.and_eq_true, beq_iff_eq, Bool.not_eq_true', decide_eq_false_iff_not, decide_eq_true_eq, Bool.or_eq_true] at hp
    · obtain rfl : q = _ := by
        rcases hQ with ⟨_, h⟩ | ⟨⟨h, _⟩, _⟩
        · exact h
        · exact absurd h (by decide)
      clear hQ
      simp only [go_sem, ro, wo, wa, wx, rx, ins_e, vl_e, insC]
      have h0 : wB (e == 0) l1 (encM 0 ⟨op, a0, b0, n, k, v, z, ty, lb⟩) = l1 := wB_0 _ _
      rw [h0]
      exact done_n [] _ [(1000, wo 2000 true l1 e), (2000, wa l1)] (by simp only [go_sem, ro, wo, wa, wx, rx, ins_e, vl_e, insC]) (by simp only [go_sem, ro, wo, wa, wx, rx, ins_e, vl_e, insC]) rfl ⟨rfl, rfl⟩
    · obtain rfl : q = _ := by
        rcases hQ with ⟨_, h⟩ | ⟨⟨h, _⟩, _⟩
        · exact h
        · exact absurd h (by decide)
      clear hQ
      obtain ⟨hlb, hty, rfl, rfl, rfl, hb⟩ := hp
      simp only [go_sem, ro, wo, wa, wx, rx, ins_e, vl_e, insC]
      refine call_w [] (k := 1000) (j := 2000) (s_putblock (l := l1) (e := e) (by omega) k v z hb) (by decide) (by decide) (by decide) (by decide) (by first | rfl | simp [go_sem, slv_ids, ro, wo, wa, wx, rx, ins_e, vl_e, insC]) (by simp [go_sem, ro, wo, wa, wx, rx, ins_e, vl_e, insC]) (by rfl) (by rfl) (by rfl) ?_
      simp only [go_sem, ro, wo, wa, wx, rx, ins_e, vl_e, insC]
      exact done_n [] _ [(1000, wo 2000 true (wB (e == 0) l1 (encB k v z)) e), (2000, wa (wB (e == 0) l1 (encB k v z)))] (by simp only [go_sem, ro, wo, wa, wx, rx, ins_e, vl_e, insC]) (by simp only [go_sem, ro, wo, wa, wx, rx, ins_e, vl_e, insC]) rfl ⟨rfl, rfl⟩
    · obtain rfl : q = _ := by
        rcases hQ with ⟨_, h⟩ | ⟨⟨h, _⟩, _⟩
        · exact h
        · exact absurd h (by decide)
      clear hQ
      obtain ⟨⟨rfl, rfl, rfl⟩, hlb, hty, ha, rfl, rfl⟩ := hp
      obtain ⟨m, rfl, hm⟩ := ix_nat ha
      simp only [go_sem, ro, wo, wa, wx, rx, ins_e, vl_e, insC]
      refine call_w [] (k := 1000) (j := 2000) (s_wU (l := l1) (e := e) (by omega) m hm) (by decide) (by decide) (by decide) (by decide) (by first | rfl | simp [go_sem, slv_ids, ro, wo, wa, wx, rx, ins_e, vl_e, insC]) (by simp [go_sem, ro, wo, wa, wx, rx, ins_e, vl_e, insC]) (by rfl) (by rfl) (by rfl) ?_
      simp only [go_sem, ro, wo, wa, wx, rx, ins_e, vl_e, insC]
      exact done_n [] _ [(1000, wo 2000 true (wB (e == 0) l1 (putU m)) e), (2000, wa (wB (e == 0) l1 (putU m)))] (by simp only [go_sem, ro, wo, wa, wx, rx, ins_e, vl_e, insC]) (by simp only [go_sem, ro, wo, wa, wx, rx, ins_e, vl_e, insC]) rfl ⟨rfl, rfl⟩
    · obtain ⟨⟨rfl, rfl, rfl⟩, hty, ha, rfl, rfl, hal⟩ := hp
      obtain ⟨m, rfl, hm⟩ := ix_nat ha
      rcases hQ with ⟨hs, rfl⟩ | ⟨⟨_, hs⟩, rfl⟩
      · have hs' : lb.length < 4294967296 := Nat.lt_of_not_le fun h => hs ⟨rfl, h⟩
        have c1 := putU_5 (n := lb.length) hs'
        have c2 := encL_len hal
        have b1 := wB_len (ok := e == 0) (l := l1) (x := putU lb.length)
        have b2 := wB_len (ok := e == 0) (l := l1) (x := putU lb.length ++ encL lb)
        rw [List.length_append] at b2
        simp only [go_sem, ro, wo, wa, wx, rx, ins_e, vl_e, insC]
        refine call_w [] (k := 1000) (j := 2000) (s_wU (e := e) (l := l1) (by omega) lb.length (by omega)) (by decide) (by decide) (by decide) (by decide) (by first | rfl | simp [go_sem, slv_ids, ro, wo, wa, wx, rx, ins_e, vl_e, insC]) (by simp [go_sem, ro, wo, wa, wx, rx, ins_e, vl_e, insC]) (by rfl) (by rfl) (by rfl) ?_
        simp only [go_sem, ro, wo, wa, wx, rx, ins_e, vl_e, insC]
        refine call_w [] (k := 1000) (j := 2000) (s_puts (l := wB (e == 0) l1 (putU lb.length)) (e := e) (by omega) lb hal hlb (fun _ => by omega)) (by decide) (by decide) (by decide) (by decide) (by first | rfl | simp [go_sem, slv_ids, ro, wo, wa, wx, rx, ins_e, vl_e, insC]) (by simp [go_sem, ro, wo, wa, wx, rx, ins_e, vl_e, insC]) (by rfl) (by rfl) (by rfl) ?_
        simp only [go_sem, ro, wo, wa, wx, rx, ins_e, vl_e, insC, wB_wB]
        refine call_w [] (k := 1000) (j := 2000) (s_wU (l := wB (e == 0) l1 (putU lb.length ++ encL lb)) (e := e) (by omega) m hm) (by decide) (by decide) (by decide) (by decide) (by first | rfl | simp [go_sem, slv_ids, ro, wo, wa, wx, rx, ins_e, vl_e, insC]) (by simp [go_sem, ro, wo, wa, wx, rx, ins_e, vl_e, insC]) (by rfl) (by rfl) (by rfl) ?_
        simp only [go_sem, ro, wo, wa, wx, rx, ins_e, vl_e, insC, wB_wB]
        exact done_n [] _ [(1000, wo 2000 true (wB (e == 0) l1 (putU lb.length ++ encL lb ++ putU m)) e), (2000, wa (wB (e == 0) l1 (putU lb.length ++ encL lb ++ putU m)))] (by simp only [go_sem, ro, wo, wa, wx, rx, ins_e, vl_e, insC]) (by simp only [go_sem, ro, wo, wa, wx, rx, ins_e, vl_e, insC]) rfl ⟨rfl, rfl⟩
      · have hcu := s_wU32 true l1 e (lb.length : Int) (by omega)
        rw [show wU (true && e == 0) l1 e (lb.length : Int) = (l1, if (true && e == 0) = true then 1 else e) by unfold wU; cases (true && e == 0) <;> simp; omega] at hcu
        have he1 : (if (true && e == 0) = true then (1 : Int) else e) ≠ 0 := by
          by_cases he : e = 0
          · subst he; decide
          · rw [beq_f he]; exact he
        generalize (if (true && e == 0) = true then (1 : Int) else e) = e1 at *
        have hz : ∀ y, wB (e1 == 0) l1 y = l1 := fun y => by rw [beq_f he1]; rfl
        have hp1 := s_puts (l := l1) (e := e1) (by omega) lb hal hlb (fun h => absurd h he1)
        have hp2 := s_wU (l := l1) (e := e1) (by omega) m hm
        rw [hz] at hp1 hp2
        simp only [go_sem, ro, wo, wa, wx, rx, ins_e, vl_e, insC]
        refine call_w [] (k := 1000) (j := 2000) (hcu) (by decide) (by decide) (by decide) (by decide) (by first | rfl | simp [go_sem, slv_ids, ro, wo, wa, wx, rx, ins_e, vl_e, insC]) (by simp [go_sem, ro, wo, wa, wx, rx, ins_e, vl_e, insC]) (by rfl) (by rfl) (by rfl) ?_
        simp only [go_sem, ro, wo, wa, wx, rx, ins_e, vl_e, insC]
        refine call_w [] (k := 1000) (j := 2000) (hp1) (by decide) (by decide) (by decide) (by decide) (by first | rfl | simp [go_sem, slv_ids, ro, wo, wa, wx, rx, ins_e, vl_e, insC]) (by simp [go_sem, ro, wo, wa, wx, rx, ins_e, vl_e, insC]) (by rfl) (by rfl) (by rfl) ?_
        simp only [go_sem, ro, wo, wa, wx, rx, ins_e, vl_e, insC]
        refine call_w [] (k := 1000) (j := 2000) (hp2) (by decide) (by decide) (by decide) (by decide) (by first | rfl | simp [go_sem, slv_ids, ro, wo, wa, wx, rx, ins_e, vl_e, insC]) (by simp [go_sem, ro, wo, wa, wx, rx, ins_e, vl_e, insC]) (by rfl) (by rfl) (by rfl) ?_
        simp only [go_sem, ro, wo, wa, wx, rx, ins_e, vl_e, insC]
        exact done_n [] _ [(1000, wo 2000 true l1 e1), (2000, wa l1)] (by simp only [go_sem, ro, wo, wa, wx, rx, ins_e, vl_e, insC]) (by simp only [go_sem, ro, wo, wa, wx, rx, ins_e, vl_e, insC]) rfl ⟨rfl, rfl⟩
    · obtain rfl : q = _ := by
        rcases hQ with ⟨_, h⟩ | ⟨⟨h, _⟩, _⟩
        · exact h
        · exact absurd h (by decide)
      clear hQ
      obtain ⟨⟨rfl, rfl, rfl⟩, hlb, hty, ha, rfl, rfl⟩ := hp
      obtain ⟨m, rfl, hm⟩ := ix_nat ha
      simp only [go_sem, ro, wo, wa, wx, rx, ins_e, vl_e, insC]
      refine call_w [] (k := 1000) (j := 2000) (s_wU (l := l1) (e := e) (by omega) m hm) (by decide) (by decide) (by decide) (by decide) (by first | rfl | simp [go_sem, slv_ids, ro, wo, wa, wx, rx, ins_e, vl_e, insC]) (by simp [go_sem, ro, wo, wa, wx, rx, ins_e, vl_e, insC]) (by rfl) (by rfl) (by rfl) ?_
      simp only [go_sem, ro, wo, wa, wx, rx, ins_e, vl_e, insC]
      exact done_n [] _ [(1000, wo 2000 true (wB (e == 0) l1 (putU m)) e), (2000, wa (wB (e == 0) l1 (putU m)))] (by simp only [go_sem, ro, wo, wa, wx, rx, ins_e, vl_e, insC]) (by simp only [go_sem, ro, wo, wa, wx, rx, ins_e, vl_e, insC]) rfl ⟨rfl, rfl⟩
    · obtain rfl : q = _ := by
        rcases hQ with ⟨_, h⟩ | ⟨⟨h, _⟩, _⟩
        · exact h
        · exact absurd h (by decide)
      clear hQ
      obtain ⟨⟨rfl, rfl, rfl⟩, hlb, hty, ha, hb, rfl⟩ := hp
      have hps := s_puts (l := l1) (e := e) (by omega) [a0, b0] (by simp only [List.all_cons, List.all_nil, ha, hb, Bool.and_self]) (by simp) (fun _ => by simp; omega)
      have hEn : encL [a0, b0] = putU a0.toNat ++ putU b0.toNat := by simp [encL]
      rw [hEn] at hps
      simp only [go_sem, ro, wo, wa, wx, rx, ins_e, vl_e, insC]
      refine call_w [81] (k := 1000) (j := 2000) (hps) (by decide) (by decide) (by decide) (by decide) (by first | rfl | simp [go_sem, slv_ids, ro, wo, wa, wx, rx, ins_e, vl_e, insC]) (by simp [go_sem, ro, wo, wa, wx, rx, ins_e, vl_e, insC]) ?_ (by rfl) (by rfl) ?_
      · simp only [go_sem, ro, wo, wa, wx, rx, ins_e, vl_e, insC]; try simp [go_sem, vl_e]
      simp only [go_sem, ro, wo, wa, wx, rx, ins_e, vl_e, insC]
      exact done_n [] _ [(1000, wo 2000 true (wB (e == 0) l1 (putU a0.toNat ++ putU b0.toNat)) e), (2000, wa (wB (e == 0) l1 (putU a0.toNat ++ putU b0.toNat)))] (by simp only [go_sem, ro, wo, wa, wx, rx, ins_e, vl_e, insC]) (by simp only [go_sem, ro, wo, wa, wx, rx, ins_e, vl_e, insC]) rfl ⟨rfl, rfl⟩
    · obtain rfl : q = _ := by
        rcases hQ with ⟨_, h⟩ | ⟨⟨h, _⟩, _⟩
        · exact h
        · exact absurd h (by decide)
      clear hQ
      obtain ⟨⟨rfl, rfl, rfl⟩, hlb, rfl, rfl, rfl, hlen, hv⟩ := hp
      have b1 := wB_len (ok := e == 0) (l := l1) (x := putU 1)
      have c1 := putU_5 (n := 1) (by omega)
      simp only [go_sem, ro, wo, wa, wx, rx, ins_e, vl_e, insC]
      refine call_w [] (k := 1000) (j := 2000) (s_wU (e := e) (l := l1) (by omega) 1 (by omega)) (by decide) (by decide) (by decide) (by decide) (by first | rfl | simp [go_sem, slv_ids, ro, wo, wa, wx, rx, ins_e, vl_e, insC]) (by simp [go_sem, ro, wo, wa, wx, rx, ins_e, vl_e, insC]) (by rfl) (by rfl) (by rfl) ?_
      simp only [go_sem, ro, wo, wa, wx, rx, ins_e, vl_e, insC]
      refine ⟨by decide, by omega, ?_⟩
      refine call_w [] (k := 1000) (j := 2000) (s_putval (l := wB (e == 0) l1 (putU 1)) (e := e) (by omega) (nth ty 0) hv) (by decide) (by decide) (by decide) (by decide) (by first | rfl | simp [go_sem, slv_ids, ro, wo, wa, wx, rx, ins_e, vl_e, insC]) (by simp [go_sem, ro, wo, wa, wx, rx, ins_e, vl_e, insC]) (by rfl) (by rfl) (by rfl) ?_
      simp only [go_sem, ro, wo, wa, wx, rx, ins_e, vl_e, insC, wB_wB]
      exact done_n [] _ [(1000, wo 2000 true (wB (e == 0) l1 (putU 1 ++ [(vo (nth ty 0)).1])) e), (2000, wa (wB (e == 0) l1 (putU 1 ++ [(vo (nth ty 0)).1])))] (by simp only [go_sem, ro, wo, wa, wx, rx, ins_e, vl_e, insC]) (by simp only [go_sem, ro, wo, wa, wx, rx, ins_e, vl_e, insC]) rfl ⟨rfl, rfl⟩
    · obtain rfl : q = _ := by
        rcases hQ with ⟨_, h⟩ | ⟨⟨h, _⟩, _⟩
        · exact h
        · exact absurd h (by decide)
      clear hQ
      obtain ⟨⟨rfl, rfl, rfl⟩, hlb, hty, ha, rfl, rfl⟩ := hp
      obtain ⟨m, rfl, hm⟩ := ix_nat ha
      simp only [go_sem, ro, wo, wa, wx, rx, ins_e, vl_e, insC]
      refine call_w [] (k := 1000) (j := 2000) (s_wU (l := l1) (e := e) (by omega) m hm) (by decide) (by decide) (by decide) (by decide) (by first | rfl | simp [go_sem, slv_ids, ro, wo, wa, wx, rx, ins_e, vl_e, insC]) (by simp [go_sem, ro, wo, wa, wx, rx, ins_e, vl_e, insC]) (by rfl) (by rfl) (by rfl) ?_
      simp only [go_sem, ro, wo, wa, wx, rx, ins_e, vl_e, insC]
      exact done_n [] _ [(1000, wo 2000 true (wB (e == 0) l1 (putU m)) e), (2000, wa (wB (e == 0) l1 (putU m)))] (by simp only [go_sem, ro, wo, wa, wx, rx, ins_e, vl_e, insC]) (by simp only [go_sem, ro, wo, wa, wx, rx, ins_e, vl_e, insC]) rfl ⟨rfl, rfl⟩
    · obtain rfl : q = _ := by
        rcases hQ with ⟨_, h⟩ | ⟨⟨h, _⟩, _⟩
        · exact h
        · exact absurd h (by decide)
      clear hQ
      obtain ⟨⟨rfl, rfl, rfl⟩, hlb, hty, ha, rfl, rfl⟩ := hp
      obtain ⟨m, rfl, hm⟩ := ix_nat ha
      simp only [go_sem, ro, wo, wa, wx, rx, ins_e, vl_e, insC]
      refine call_w [] (k := 1000) (j := 2000) (s_wU (l := l1) (e := e) (by omega) m hm) (by decide) (by decide) (by decide) (by decide) (by first | rfl | simp [go_sem, slv_ids, ro, wo, wa, wx, rx, ins_e, vl_e, insC]) (by simp [go_sem, ro, wo, wa, wx, rx, ins_e, vl_e, insC]) (by rfl) (by rfl) (by rfl) ?_
      simp only [go_sem, ro, wo, wa, wx, rx, ins_e, vl_e, insC]
      exact done_n [] _ [(1000, wo 2000 true (wB (e == 0) l1 (putU m)) e), (2000, wa (wB (e == 0) l1 (putU m)))] (by simp only [go_sem, ro, wo, wa, wx, rx, ins_e, vl_e, insC]) (by simp only [go_sem, ro, wo, wa, wx, rx, ins_e, vl_e, insC]) rfl ⟨rfl, rfl⟩
    · obtain rfl : q = _ := by
        rcases hQ with ⟨_, h⟩ | ⟨⟨h, _⟩, _⟩
        · exact h
        · exact absurd h (by decide)
      clear hQ
      obtain ⟨⟨rfl, rfl, rfl⟩, hlb, hty, ha, rfl, rfl⟩ := hp
      obtain ⟨m, rfl, hm⟩ := ix_nat ha
      simp only [go_sem, ro, wo, wa, wx, rx, ins_e, vl_e, insC]
      refine call_w [] (k := 1000) (j := 2000) (s_wU (l := l1) (e := e) (by omega) m hm) (by decide) (by decide) (by decide) (by decide) (by first | rfl | simp [go_sem, slv_ids, ro, wo, wa, wx, rx, ins_e, vl_e, insC]) (by simp [go_sem, ro, wo, wa, wx, rx, ins_e, vl_e, insC]) (by rfl) (by rfl) (by rfl) ?_
      simp only [go_sem, ro, wo, wa, wx, rx, ins_e, vl_e, insC]
      exact done_n [] _ [(1000, wo 2000 true (wB (e == 0) l1 (putU m)) e), (2000, wa (wB (e == 0) l1 (putU m)))] (by simp only [go_sem, ro, wo, wa, wx, rx, ins_e, vl_e, insC]) (by simp only [go_sem, ro, wo, wa, wx, rx, ins_e, vl_e, insC]) rfl ⟨rfl, rfl⟩
    · obtain rfl : q = _ := by
        rcases hQ with ⟨_, h⟩ | ⟨⟨h, _⟩, _⟩
        · exact h
        · exact absurd h (by decide)
      clear hQ
      obtain ⟨⟨rfl, rfl, rfl⟩, hlb, hty, ha, hb, rfl⟩ := hp
      have hps := s_puts (l := l1) (e := e) (by omega) [a0, b0] (by simp only [List.all_cons, List.all_nil, ha, hb, Bool.and_self]) (by simp) (fun _ => by simp; omega)
      have hEn : encL [a0, b0] = putU a0.toNat ++ putU b0.toNat := by simp [encL]
      rw [hEn] at hps
      simp only [go_sem, ro, wo, wa, wx, rx, ins_e, vl_e, insC]
      refine call_w [81] (k := 1000) (j := 2000) (hps) (by decide) (by decide) (by decide) (by decide) (by first | rfl | simp [go_sem, slv_ids, ro, wo, wa, wx, rx, ins_e, vl_e, insC]) (by simp [go_sem, ro, wo, wa, wx, rx, ins_e, vl_e, insC]) ?_ (by rfl) (by rfl) ?_
      · simp only [go_sem, ro, wo, wa, wx, rx, ins_e, vl_e, insC]; try simp [go_sem, vl_e]
      simp only [go_sem, ro, wo, wa, wx, rx, ins_e, vl_e, insC]
      exact done_n [] _ [(1000, wo 2000 true (wB (e == 0) l1 (putU a0.toNat ++ putU b0.toNat)) e), (2000, wa (wB (e == 0) l1 (putU a0.toNat ++ putU b0.toNat)))] (by simp only [go_sem, ro, wo, wa, wx, rx, ins_e, vl_e, insC]) (by simp only [go_sem, ro, wo, wa, wx, rx, ins_e, vl_e, insC]) rfl ⟨rfl, rfl⟩
    · obtain rfl : q = _ := by
        rcases hQ with ⟨_, h⟩ | ⟨⟨h, _⟩, _⟩
        · exact h
        · exact absurd h (by decide)
      clear hQ
      obtain ⟨⟨rfl, rfl, rfl⟩, hlb, hty, ha, hb, rfl⟩ := hp
      have hps := s_puts (l := l1) (e := e) (by omega) [a0, b0] (by simp only [List.all_cons, List.all_nil, ha, hb, Bool.and_self]) (by simp) (fun _ => by simp; omega)
      have hEn : encL [a0, b0] = putU a0.toNat ++ putU b0.toNat := by simp [encL]
      rw [hEn] at hps
      simp only [go_sem, ro, wo, wa, wx, rx, ins_e, vl_e, insC]
      refine call_w [81] (k := 1000) (j := 2000) (hps) (by decide) (by decide) (by decide) (by decide) (by first | rfl | simp [go_sem, slv_ids, ro, wo, wa, wx, rx, ins_e, vl_e, insC]) (by simp [go_sem, ro, wo, wa, wx, rx, ins_e, vl_e, insC]) ?_ (by rfl) (by rfl) ?_
      · simp only [go_sem, ro, wo, wa, wx, rx, ins_e, vl_e, insC]; try simp [go_sem, vl_e]
      simp only [go_sem, ro, wo, wa, wx, rx, ins_e, vl_e, insC]
      exact done_n [] _ [(1000, wo 2000 true (wB (e == 0) l1 (putU a0.toNat ++ putU b0.toNat)) e), (2000, wa (wB (e == 0) l1 (putU a0.toNat ++ putU b0.toNat)))] (by simp only [go_sem, ro, wo, wa, wx, rx, ins_e, vl_e, insC]) (by simp only [go_sem, ro, wo, wa, wx, rx, ins_e, vl_e, insC]) rfl ⟨rfl, rfl⟩
    · obtain rfl : q = _ := by
        rcases hQ with ⟨_, h⟩ | ⟨⟨h, _⟩, _⟩
        · exact h
        · exact absurd h (by decide)
      clear hQ
      obtain ⟨⟨rfl, rfl, rfl⟩, hlb, hty, ha, rfl, rfl⟩ := hp
      obtain ⟨m, rfl, hm⟩ := ix_nat ha
      simp only [go_sem, ro, wo, wa, wx, rx, ins_e, vl_e, insC]
      refine call_w [] (k := 1000) (j := 2000) (s_wU (l := l1) (e := e) (by omega) m hm) (by decide) (by decide) (by decide) (by decide) (by first | rfl | simp [go_sem, slv_ids, ro, wo, wa, wx, rx, ins_e, vl_e, insC]) (by simp [go_sem, ro, wo, wa, wx, rx, ins_e, vl_e, insC]) (by rfl) (by rfl) (by rfl) ?_
      simp only [go_sem, ro, wo, wa, wx, rx, ins_e, vl_e, insC]
      exact done_n [] _ [(1000, wo 2000 true (wB (e == 0) l1 (putU m)) e), (2000, wa (wB (e == 0) l1 (putU m)))] (by simp only [go_sem, ro, wo, wa, wx, rx, ins_e, vl_e, insC]) (by simp only [go_sem, ro, wo, wa, wx, rx, ins_e, vl_e, insC]) rfl ⟨rfl, rfl⟩
    · obtain rfl : q = _ := by
        rcases hQ with ⟨_, h⟩ | ⟨⟨h, _⟩, _⟩
        · exact h
        · exact absurd h (by decide)
      clear hQ
      obtain ⟨⟨rfl, rfl, rfl⟩, hlb, hty, rfl, hb, rfl⟩ := hp
      obtain ⟨m, rfl, hm⟩ := ix_nat hb
      simp only [go_sem, ro, wo, wa, wx, rx, ins_e, vl_e, insC]
      refine call_w [] (k := 1000) (j := 2000) (s_wU (l := l1) (e := e) (by omega) m hm) (by decide) (by decide) (by decide) (by decide) (by first | rfl | simp [go_sem, slv_ids, ro, wo, wa, wx, rx, ins_e, vl_e, insC]) (by simp [go_sem, ro, wo, wa, wx, rx, ins_e, vl_e, insC]) (by rfl) (by rfl) (by rfl) ?_
      simp only [go_sem, ro, wo, wa, wx, rx, ins_e, vl_e, insC]
      exact done_n [] _ [(1000, wo 2000 true (wB (e == 0) l1 (putU m)) e), (2000, wa (wB (e == 0) l1 (putU m)))] (by simp only [go_sem, ro, wo, wa, wx, rx, ins_e, vl_e, insC]) (by simp only [go_sem, ro, wo, wa, wx, rx, ins_e, vl_e, insC]) rfl ⟨rfl, rfl⟩
    · obtain rfl : q = _ := by
        rcases hQ with ⟨_, h⟩ | ⟨⟨h, _⟩, _⟩
        · exact h
        · exact absurd h (by decide)
      clear hQ
      obtain ⟨⟨rfl, rfl, rfl⟩, hlb, hty, ha, hb, rfl⟩ := hp
      have hps := s_puts (l := l1) (e := e) (by omega) [a0, b0] (by simp only [List.all_cons, List.all_nil, ha, hb, Bool.and_self]) (by simp) (fun _ => by simp; omega)
      have hEn : encL [a0, b0] = putU a0.toNat ++ putU b0.toNat := by simp [encL]
      rw [hEn] at hps
      simp only [go_sem, ro, wo, wa, wx, rx, ins_e, vl_e, insC]
      refine call_w [81] (k := 1000) (j := 2000) (hps) (by decide) (by decide) (by decide) (by decide) (by first | rfl | simp [go_sem, slv_ids, ro, wo, wa, wx, rx, ins_e, vl_e, insC]) (by simp [go_sem, ro, wo, wa, wx, rx, ins_e, vl_e, insC]) ?_ (by rfl) (by rfl) ?_
      · simp only [go_sem, ro, wo, wa, wx, rx, ins_e, vl_e, insC]; try simp [go_sem, vl_e]
      simp only [go_sem, ro, wo, wa, wx, rx, ins_e, vl_e, insC]
      exact done_n [] _ [(1000, wo 2000 true (wB (e == 0) l1 (putU a0.toNat ++ putU b0.toNat)) e), (2000, wa (wB (e == 0) l1 (putU a0.toNat ++ putU b0.toNat)))] (by simp only [go_sem, ro, wo, wa, wx, rx, ins_e, vl_e, insC]) (by simp only [go_sem, ro, wo, wa, wx, rx, ins_e, vl_e, insC]) rfl ⟨rfl, rfl⟩
    · obtain rfl : q = _ := by
        rcases hQ with ⟨_, h⟩ | ⟨⟨h, _⟩, _⟩
        · exact h
        · exact absurd h (by decide)
      clear hQ
      obtain ⟨⟨rfl, rfl, rfl⟩, hlb, hty, ha, hb, rfl⟩ := hp
      have hps := s_puts (l := l1) (e := e) (by omega) [a0, b0] (by simp only [List.all_cons, List.all_nil, ha, hb, Bool.and_self]) (by simp) (fun _ => by simp; omega)
      have hEn : encL [a0, b0] = putU a0.toNat ++ putU b0.toNat := by simp [encL]
      rw [hEn] at hps
      simp only [go_sem, ro, wo, wa, wx, rx, ins_e, vl_e, insC]
      refine call_w [81] (k := 1000) (j := 2000) (hps) (by decide) (by decide) (by decide) (by decide) (by first | rfl | simp [go_sem, slv_ids, ro, wo, wa, wx, rx, ins_e, vl_e, insC]) (by simp [go_sem, ro, wo, wa, wx, rx, ins_e, vl_e, insC]) ?_ (by rfl) (by rfl) ?_
      · simp only [go_sem, ro, wo, wa, wx, rx, ins_e, vl_e, insC]; try simp [go_sem, vl_e]
      simp only [go_sem, ro, wo, wa, wx, rx, ins_e, vl_e, insC]
      exact done_n [] _ [(1000, wo 2000 true (wB (e == 0) l1 (putU a0.toNat ++ putU b0.toNat)) e), (2000, wa (wB (e == 0) l1 (putU a0.toNat ++ putU b0.toNat)))] (by simp only [go_sem, ro, wo, wa, wx, rx, ins_e, vl_e, insC]) (by simp only [go_sem, ro, wo, wa, wx, rx, ins_e, vl_e, insC]) rfl ⟨rfl, rfl⟩
    · obtain rfl : q = _ := by
        rcases hQ with ⟨_, h⟩ | ⟨⟨h, _⟩, _⟩
        · exact h
        · exact absurd h (by decide)
      clear hQ
      obtain ⟨⟨rfl, rfl, rfl⟩, hlb, hty, ha, rfl, rfl⟩ := hp
      obtain ⟨m, rfl, hm⟩ := ix_nat ha
      simp only [go_sem, ro, wo, wa, wx, rx, ins_e, vl_e, insC]
      refine call_w [] (k := 1000) (j := 2000) (s_wU (l := l1) (e := e) (by omega) m hm) (by decide) (by decide) (by decide) (by decide) (by first | rfl | simp [go_sem, slv_ids, ro, wo, wa, wx, rx, ins_e, vl_e, insC]) (by simp [go_sem, ro, wo, wa, wx, rx, ins_e, vl_e, insC]) (by rfl) (by rfl) (by rfl) ?_
      simp only [go_sem, ro, wo, wa, wx, rx, ins_e, vl_e, insC]
      exact done_n [] _ [(1000, wo 2000 true (wB (e == 0) l1 (putU m)) e), (2000, wa (wB (e == 0) l1 (putU m)))] (by simp only [go_sem, ro, wo, wa, wx, rx, ins_e, vl_e, insC]) (by simp only [go_sem, ro, wo, wa, wx, rx, ins_e, vl_e, insC]) rfl ⟨rfl, rfl⟩
    · obtain rfl : q = _ := by
        rcases hQ with ⟨_, h⟩ | ⟨⟨h, _⟩, _⟩
        · exact h
        · exact absurd h (by decide)
      clear hQ
      obtain ⟨⟨rfl, rfl, rfl⟩, hlb, hty, ha1, ha2, hb, hn2⟩ := hp
      obtain ⟨m3, rfl⟩ := Int.eq_ofNat_of_zero_le hn
      have w3 : IntKind.i64.wrap (m3 : Int) = (m3 : Int) := wi (by omega) (by omega)
      by_cases h0 : b0 = 0
      · subst h0
        obtain ⟨m, rfl⟩ := Int.eq_ofNat_of_zero_le ha1
        have b1 := wB_len (ok := e == 0) (l := l1) (x := putU m)
        have c1 := putU_5 (n := m) (by omega)
        simp only [go_sem, ro, wo, wa, wx, rx, ins_e, vl_e, insC]
        refine call_w [] (k := 1000) (j := 2000) (s_wU (e := e) (l := l1) (by omega) m (by omega)) (by decide) (by decide) (by decide) (by decide) (by first | rfl | simp [go_sem, slv_ids, ro, wo, wa, wx, rx, ins_e, vl_e, insC]) (by simp [go_sem, ro, wo, wa, wx, rx, ins_e, vl_e, insC]) (by rfl) (by rfl) (by rfl) ?_
        simp only [go_sem, ro, wo, wa, wx, rx, ins_e, vl_e, insC, w3]
        refine call_w [] (k := 1000) (j := 2000) (s_wU (l := wB (e == 0) l1 (putU m)) (e := e) (by omega) m3 (by omega)) (by decide) (by decide) (by decide) (by decide) (by first | rfl | simp [go_sem, slv_ids, ro, wo, wa, wx, rx, ins_e, vl_e, insC]) (by simp [go_sem, ro, wo, wa, wx, rx, ins_e, vl_e, insC]) (by rfl) (by rfl) (by rfl) ?_
        simp only [go_sem, ro, wo, wa, wx, rx, ins_e, vl_e, insC, wB_wB]
        exact done_n [] _ [(1000, wo 2000 true (wB (e == 0) l1 (putU m ++ putU m3)) e), (2000, wa (wB (e == 0) l1 (putU m ++ putU m3)))] (by simp only [go_sem, ro, wo, wa, wx, rx, ins_e, vl_e, insC]) (by simp only [go_sem, ro, wo, wa, wx, rx, ins_e, vl_e, insC]) rfl ⟨rfl, rfl⟩
      · have hE : encM 17 ⟨op, a0, b0, m3, 0, 0, 0, ty, lb⟩ = putU (a0 + 64).toNat ++ putU b0.toNat ++ putU m3 := by
          simp only [encM, Int.reduceEq, false_or, or_false, or_true, true_or, or_self, if_true, if_false, h0, Int.toNat_natCast]
        have w1 : IntKind.i64.wrap (a0 + 64) = a0 + 64 := wi (by omega) (by omega)
        have h64 : ixB (a0 + 64) = true := by simp only [ixB, Bool.and_eq_true, decide_eq_true_eq]; omega
        have hps := s_puts (l := l1) (e := e) (by omega) [a0 + 64, b0] (by simp only [List.all_cons, List.all_nil, hb, h64, Bool.and_self]) (by simp) (fun _ => by simp; omega)
        have hEn : encL [a0 + 64, b0] = putU (a0 + 64).toNat ++ putU b0.toNat := by simp [encL]
        have hb' : b0 ≥ 0 ∧ b0 < 4294967296 := by simpa only [ixB, Bool.and_eq_true, decide_eq_true_eq] using hb
        have b1 := wB_len (ok := e == 0) (l := l1) (x := putU (a0 + 64).toNat ++ putU b0.toNat)
        have c1 := putU_5 (n := (a0 + 64).toNat) (by omega)
        have c2 := putU_5 (n := b0.toNat) (by omega)
        rw [List.length_append] at b1
        rw [hEn] at hps
        rw [hE]
        simp only [go_sem, ro, wo, wa, wx, rx, ins_e, vl_e, insC, beq_f h0, w1]
        refine call_w [108] (k := 1000) (j := 2000) (hps) (by decide) (by decide) (by decide) (by decide) (by first | rfl | simp [go_sem, slv_ids, ro, wo, wa, wx, rx, ins_e, vl_e, insC]) (by simp [go_sem, ro, wo, wa, wx, rx, ins_e, vl_e, insC]) ?_ (by rfl) (by rfl) ?_
        · simp only [go_sem, ro, wo, wa, wx, rx, ins_e, vl_e, insC]; try simp [go_sem, vl_e]
        simp only [go_sem, ro, wo, wa, wx, rx, ins_e, vl_e, insC, w3]
        refine call_w [] (k := 1000) (j := 2000) (s_wU (l := wB (e == 0) l1 (putU (a0 + 64).toNat ++ putU b0.toNat)) (e := e) (by omega) m3 (by omega)) (by decide) (by decide) (by decide) (by decide) (by first | rfl | simp [go_sem, slv_ids, ro, wo, wa, wx, rx, ins_e, vl_e, insC]) (by simp [go_sem, ro, wo, wa, wx, rx, ins_e, vl_e, insC]) (by rfl) (by rfl) (by rfl) ?_
        simp only [go_sem, ro, wo, wa, wx, rx, ins_e, vl_e, insC, wB_wB]
        exact done_n [] _ [(1000, wo 2000 true (wB (e == 0) l1 (putU (a0 + 64).toNat ++ putU b0.toNat ++ putU m3)) e), (2000, wa (wB (e == 0) l1 (putU (a0 + 64).toNat ++ putU b0.toNat ++ putU m3)))] (by simp only [go_sem, ro, wo, wa, wx, rx, ins_e, vl_e, insC]) (by simp only [go_sem, ro, wo, wa, wx, rx, ins_e, vl_e, insC]) rfl ⟨rfl, rfl⟩
    · obtain rfl : q = _ := by
        rcases hQ with ⟨_, h⟩ | ⟨⟨h, _⟩, _⟩
        · exact h
        · exact absurd h (by decide)
      clear hQ
      obtain ⟨⟨rfl, rfl, rfl⟩, hlb, hty, rfl, rfl, hn2⟩ := hp
      simp only [go_sem, ro, wo, wa, wx, rx, ins_e, vl_e, insC]
      refine call_w [] (k := 1000) (j := 2000) (s_wS32 true l1 e (by omega) n) (by decide) (by decide) (by decide) (by decide) (by first | rfl | simp [go_sem, slv_ids, ro, wo, wa, wx, rx, ins_e, vl_e, insC]) (by simp [go_sem, ro, wo, wa, wx, rx, ins_e, vl_e, insC]) (by rfl) (by rfl) (by rfl) ?_
      simp only [go_sem, ro, wo, wa, wx, rx, ins_e, vl_e, insC, Bool.true_and, wS]
      exact done_n [] _ [(1000, wo 2000 true (wB (e == 0) l1 (putS (s32 n))) e), (2000, wa (wB (e == 0) l1 (putS (s32 n))))] (by simp only [go_sem, ro, wo, wa, wx, rx, ins_e, vl_e, insC]) (by simp only [go_sem, ro, wo, wa, wx, rx, ins_e, vl_e, insC]) rfl ⟨rfl, rfl⟩
    · obtain rfl : q = _ := by
        rcases hQ with ⟨_, h⟩ | ⟨⟨h, _⟩, _⟩
        · exact h
        · exact absurd h (by decide)
      clear hQ
      obtain ⟨⟨rfl, rfl, rfl⟩, hlb, hty, rfl, rfl⟩ := hp
      simp only [go_sem, ro, wo, wa, wx, rx, ins_e, vl_e, insC]
      refine call_w [] (k := 1000) (j := 2000) (s_wS64 true l1 e (by omega) n) (by decide) (by decide) (by decide) (by decide) (by first | rfl | simp [go_sem, slv_ids, ro, wo, wa, wx, rx, ins_e, vl_e, insC]) (by simp [go_sem, ro, wo, wa, wx, rx, ins_e, vl_e, insC]) (by rfl) (by rfl) (by rfl) ?_
      simp only [go_sem, ro, wo, wa, wx, rx, ins_e, vl_e, insC, Bool.true_and, wS]
      exact done_n [] _ [(1000, wo 2000 true (wB (e == 0) l1 (putS (IntKind.i64.wrap n))) e), (2000, wa (wB (e == 0) l1 (putS (IntKind.i64.wrap n))))] (by simp only [go_sem, ro, wo, wa, wx, rx, ins_e, vl_e, insC]) (by simp only [go_sem, ro, wo, wa, wx, rx, ins_e, vl_e, insC]) rfl ⟨rfl, rfl⟩
    · obtain rfl : q = _ := by
        rcases hQ with ⟨_, h⟩ | ⟨⟨h, _⟩, _⟩
        · exact h
        · exact absurd h (by decide)
      clear hQ
      obtain ⟨⟨rfl, rfl, rfl⟩, hlb, hty, ha, rfl, rfl⟩ := hp
      have hv : vaB a0 = true := by rcases ha with rfl | rfl <;> rfl
      simp only [go_sem, ro, wo, wa, wx, rx, ins_e, vl_e, insC]
      refine call_w [] (k := 1000) (j := 2000) (s_putval (l := l1) (e := e) (by omega) a0 hv) (by decide) (by decide) (by decide) (by decide) (by first | rfl | simp [go_sem, slv_ids, ro, wo, wa, wx, rx, ins_e, vl_e, insC]) (by simp [go_sem, ro, wo, wa, wx, rx, ins_e, vl_e, insC]) (by rfl) (by rfl) (by rfl) ?_
      simp only [go_sem, ro, wo, wa, wx, rx, ins_e, vl_e, insC]
      exact done_n [] _ [(1000, wo 2000 true (wB (e == 0) l1 ([(vo a0).1])) e), (2000, wa (wB (e == 0) l1 ([(vo a0).1])))] (by simp only [go_sem, ro, wo, wa, wx, rx, ins_e, vl_e, insC]) (by simp only [go_sem, ro, wo, wa, wx, rx, ins_e, vl_e, insC]) rfl ⟨rfl, rfl⟩
  · simp only [go_sem, ro, wo, wa, wx, rx, ins_e, vl_e, insC, F_bincode_Put]
    refine call_same (a1) (by simp [go_sem, ro, wo, wa, wx, rx, ins_e, vl_e, insC]) ?_
    simp only [go_sem, ro, wo, wa, wx, rx, ins_e, vl_e, insC, decide_eq_false ho, hw]
    refine call_w [] (k := 1000) (j := 2000) (s_wbyte true l y e (by omega)) (by decide) (by decide) (by decide) (by decide) (by first | rfl | simp [go_sem, slv_ids, ro, wo, wa, wx, rx, ins_e, vl_e, insC]) (by simp [go_sem, ro, wo, wa, wx, rx, ins_e, vl_e, insC]) (by rfl) (by rfl) (by rfl) ?_
    simp only [go_sem, ro, wo, wa, wx, rx, ins_e, vl_e, insC, Bool.true_and]
    refine call_same (hc) (by simp [go_sem, ro, wo, wa, wx, rx, ins_e, vl_e, insC]) ?_
    clear hw a1 hc
    generalize wB (e == 0) l [y] = l1 at *
    rcases (show i = 0 ∨ i = 1 ∨ i = 2 ∨ i = 3 ∨ i = 4 ∨ i = 5 ∨ i = 6 ∨ i = 7 ∨ i = 8 ∨ i = 9 ∨ i = 10 ∨ i = 11 ∨ i = 12 ∨ i = 13 ∨ i = 14 ∨ i = 15 ∨ i = 16 ∨ i = 17 ∨ i = 18 ∨ i = 19 ∨ i = 20 by omega) with rfl | rfl | rfl | rfl | rfl | rfl | rfl | rfl | rfl | rfl | rfl | rfl | rfl | rfl | rfl | rfl | rfl | rfl | rfl | rfl | rfl
    all_goals
      simp only [Int.reduceEq, Int.reduceBEq, false_or, or_false, or_true, true_or, or_self, if_true, if_false, Bool.true_or, Bool.false_or, Bool.true_and, Bool.and_eq_true, beq_iff_eq, Bool.not_eq_true', decide_eq_false_iff_not, decide_eq_true_eq, Bool.or_eq_true] at hp
    · obtain rfl : q = _ := by
        rcases hQ with ⟨_, h⟩ | ⟨⟨h, _⟩, _⟩
        · exact h
        · exact absurd h (by decide)
      clear hQ
      simp only [go_sem, ro, wo, wa, wx, rx, ins_e, vl_e, insC]
      have h0 : wB (e == 0) l1 (encM 0 ⟨op, a0, b0, n, k, v, z, ty, lb⟩) = l1 := wB_0 _ _
      rw [h0]
      exact done_n [] _ [(1000, wo 2000 true l1 e), (2000, wa l1)] (by simp only [go_sem, ro, wo, wa, wx, rx, ins_e, vl_e, insC]) (by simp only [go_sem, ro, wo, wa, wx, rx, ins_e, vl_e, insC]) rfl ⟨rfl, rfl⟩
    · obtain rfl : q = _ := by
        rcases hQ with ⟨_, h⟩ | ⟨⟨h, _⟩, _⟩
        · exact h
        · exact absurd h (by decide)
      clear hQ
      obtain ⟨hlb, hty, rfl, rfl, rfl, hb⟩ := hp
      simp only [go_sem, ro, wo, wa, wx, rx, ins_e, vl_e, insC]
      refine call_w [] (k := 1000) (j := 2000) (s_putblock (l := l1) (e := e) (by omega) k v z hb) (by decide) (by decide) (by decide) (by decide) (by first | rfl | simp [go_sem, slv_ids, ro, wo, wa, wx, rx, ins_e, vl_e, insC]) (by simp [go_sem, ro, wo, wa, wx, rx, ins_e, vl_e, insC]) (by rfl) (by rfl) (by rfl) ?_
      simp only [go_sem, ro, wo, wa, wx, rx, ins_e, vl_e, insC]
      exact done_n [] _ [(1000, wo 2000 true (wB (e == 0) l1 (encB k v z)) e), (2000, wa (wB (e == 0) l1 (encB k v z)))] (by simp only [go_sem, ro, wo, wa, wx, rx, ins_e, vl_e, insC]) (by simp only [go_sem, ro, wo, wa, wx, rx, ins_e, vl_e, insC]) rfl ⟨rfl, rfl⟩
    · obtain rfl : q = _ := by
        rcases hQ with ⟨_, h⟩ | ⟨⟨h, _⟩, _⟩
        · exact h
        · exact absurd h (by decide)
      clear hQ
      obtain ⟨⟨rfl, rfl, rfl⟩, hlb, hty, ha, rfl, rfl⟩ := hp
      obtain ⟨m, rfl, hm⟩ := ix_nat ha
      simp only [go_sem, ro, wo, wa, wx, rx, ins_e, vl_e, insC]
      refine call_w [] (k := 1000) (j := 2000) (s_wU (l := l1) (e := e) (by omega) m hm) (by decide) (by decide) (by decide) (by decide) (by first | rfl | simp [go_sem, slv_ids, ro, wo, wa, wx, rx, ins_e, vl_e, insC]) (by simp [go_sem, ro, wo, wa, wx, rx, ins_e, vl_e, insC]) (by rfl) (by rfl) (by rfl) ?_
      simp only [go_sem, ro, wo, wa, wx, rx, ins_e, vl_e, insC]
      exact done_n [] _ [(1000, wo 2000 true (wB (e == 0) l1 (putU m)) e), (2000, wa (wB (e == 0) l1 (putU m)))] (by simp only [go_sem, ro, wo, wa, wx, rx, ins_e, vl_e, insC]) (by simp only [go_sem, ro, wo, wa, wx, rx, ins_e, vl_e, insC]) rfl ⟨rfl, rfl⟩
    · obtain ⟨⟨rfl, rfl, rfl⟩, hty, ha, rfl, rfl, hal⟩ := hp
      obtain ⟨m, rfl, hm⟩ := ix_nat ha
      rcases hQ with ⟨hs, rfl⟩ | ⟨⟨_, hs⟩, rfl⟩
      · have hs' : lb.length < 4294967296 := Nat.lt_of_not_le fun h => hs ⟨rfl, h⟩
        have c1 := putU_5 (n := lb.length) hs'
        have c2 := encL_len hal
        have b1 := wB_len (ok := e == 0) (l := l1) (x := putU lb.length)
        have b2 := wB_len (ok := e == 0) (l := l1) (x := putU lb.length ++ encL lb)
        rw [List.length_append] at b2
        simp only [go_sem, ro, wo, wa, wx, rx, ins_e, vl_e, insC]
        refine call_w [] (k := 1000) (j := 2000) (s_wU (e := e) (l := l1) (by omega) lb.length (by omega)) (by decide) (by decide) (by decide) (by decide) (by first | rfl | simp [go_sem, slv_ids, ro, wo, wa, wx, rx, ins_e, vl_e, insC]) (by simp [go_sem, ro, wo, wa, wx, rx, ins_e, vl_e, insC]) (by rfl) (by rfl) (by rfl) ?_
        simp only [go_sem, ro, wo, wa, wx, rx, ins_e, vl_e, insC]
        refine call_w [] (k := 1000) (j := 2000) (s_puts (l := wB (e == 0) l1 (putU lb.length)) (e := e) (by omega) lb hal hlb (fun _ => by omega)) (by decide) (by decide) (by decide) (by decide) (by first | rfl | simp [go_sem, slv_ids, ro, wo, wa, wx, rx, ins_e, vl_e, insC]) (by simp [go_sem, ro, wo, wa, wx, rx, ins_e, vl_e, insC]) (by rfl) (by rfl) (by rfl) ?_
        simp only [go_sem, ro, wo, wa, wx, rx, ins_e, vl_e, insC, wB_wB]
        refine call_w [] (k := 1000) (j := 2000) (s_wU (l := wB (e == 0) l1 (putU lb.length ++ encL lb)) (e := e) (by omega) m hm) (by decide) (by decide) (by decide) (by decide) (by first | rfl | simp [go_sem, slv_ids, ro, wo, wa, wx, rx, ins_e, vl_e, insC]) (by simp [go_sem, ro, wo, wa, wx, rx, ins_e, vl_e, insC]) (by rfl) (by rfl) (by rfl) ?_
        simp only [go_sem, ro, wo, wa, wx, rx, ins_e, vl_e, insC, wB_wB]
        exact done_n [] _ [(1000, wo 2000 true (wB (e == 0) l1 (putU lb.length ++ encL lb ++ putU m)) e), (2000, wa (wB (e == 0) l1 (putU lb.length ++ encL lb ++ putU m)))] (by simp only [go_sem, ro, wo, wa, wx, rx, ins_e, vl_e, insC]) (by simp only [go_sem, ro, wo, wa, wx, rx, ins_e, vl_e, insC]) rfl ⟨rfl, rfl⟩
      · have hcu := s_wU32 true l1 e (lb.length : Int) (by omega)
        rw [show wU (true && e == 0) l1 e (lb.length : Int) = (l1, if (true && e == 0) = true then 1 else e) by unfold wU; cases (true && e == 0) <;> simp; omega] at hcu
        have he1 : (if (true && e == 0) = true then (1 : Int) else e) ≠ 0 := by
          by_cases he : e = 0
          · subst he; decide
          · rw [beq_f he]; exact he
        generalize (if (true && e == 0) = true then (1 : Int) else e) = e1 at *
        have hz : ∀ y, wB (e1 == 0) l1 y = l1 := fun y => by rw [beq_f he1]; rfl
        have hp1 := s_puts (l := l1) (e := e1) (by omega) lb hal hlb (fun h => absurd h he1)
        have hp2 := s_wU (l := l1) (e := e1) (by omega) m hm
        rw [hz] at hp1 hp2
        simp only [go_sem, ro, wo, wa, wx, rx, ins_e, vl_e, insC]
        refine call_w [] (k := 1000) (j := 2000) (hcu) (by decide) (by decide) (by decide) (by decide) (by first | rfl | simp [go_sem, slv_ids, ro, wo, wa, wx, rx, ins_e, vl_e, insC]) (by simp [go_sem, ro, wo, wa, wx, rx, ins_e, vl_e, insC]) (by rfl) (by rfl) (by rfl) ?_
        simp only [go_sem, ro, wo, wa, wx, rx, ins_e, vl_e, insC]
        refine call_w [] (k := 1000) (j := 2000) (hp1) (by decide) (by decide) (by decide) (by decide) (by first | rfl | simp [go_sem, slv_ids, ro, wo, wa, wx, rx, ins_e, vl_e, insC]) (by simp [go_sem, ro, wo, wa, wx, rx, ins_e, vl_e, insC]) (by rfl) (by rfl) (by rfl) ?_
        simp only [go_sem, ro, wo, wa, wx, rx, ins_e, vl_e, insC]
        refine call_w [] (k := 1000) (j := 2000) (hp2) (by decide) (by decide) (by decide) (by decide) (by first | rfl | simp [go_sem, slv_ids, ro, wo, wa, wx, rx, ins_e, vl_e, insC]) (by simp [go_sem, ro, wo, wa, wx, rx, ins_e, vl_e, insC]) (by rfl) (by rfl) (by rfl) ?_
        simp only [go_sem, ro, wo, wa, wx, rx, ins_e, vl_e, insC]
        exact done_n [] _ [(1000, wo 2000 true l1 e1), (2000, wa l1)] (by simp only [go_sem, ro, wo, wa, wx, rx, ins_e, vl_e, insC]) (by simp only [go_sem, ro, wo, wa, wx, rx, ins_e, vl_e, insC]) rfl ⟨rfl, rfl⟩
    · obtain rfl : q = _ := by
        rcases hQ with ⟨_, h⟩ | ⟨⟨h, _⟩, _⟩
        · exact h
        · exact absurd h (by decide)
      clear hQ
      obtain ⟨⟨rfl, rfl, rfl⟩, hlb, hty, ha, rfl, rfl⟩ := hp
      obtain ⟨m, rfl, hm⟩ := ix_nat ha
      simp only [go_sem, ro, wo, wa, wx, rx, ins_e, vl_e, insC]
      refine call_w [] (k := 1000) (j := 2000) (s_wU (l := l1) (e := e) (by omega) m hm) (by decide) (by decide) (by decide) (by decide) (by first | rfl | simp [go_sem, slv_ids, ro, wo, wa, wx, rx, ins_e, vl_e, insC]) (by simp [go_sem, ro, wo, wa, wx, rx, ins_e, vl_e, insC]) (by rfl) (by rfl) (by rfl) ?_
      simp only [go_sem, ro, wo, wa, wx, rx, ins_e, vl_e, insC]
      exact done_n [] _ [(1000, wo 2000 true (wB (e == 0) l1 (putU m)) e), (2000, wa (wB (e == 0) l1 (putU m)))] (by simp only [go_sem, ro, wo, wa, wx, rx, ins_e, vl_e, insC]) (by simp only [go_sem, ro, wo, wa, wx, rx, ins_e, vl_e, insC]) rfl ⟨rfl, rfl⟩
    · obtain rfl : q = _ := by
        rcases hQ with ⟨_, h⟩ | ⟨⟨h, _⟩, _⟩
        · exact h
        · exact absurd h (by decide)
      clear hQ
      obtain ⟨⟨rfl, rfl, rfl⟩, hlb, hty, ha, hb, rfl⟩ := hp
      have hps := s_puts (l := l1) (e := e) (by omega) [a0, b0] (by simp only [List.all_cons, List.all_nil, ha, hb, Bool.and_self]) (by simp) (fun _ => by simp; omega)
      have hEn : encL [a0, b0] = putU a0.toNat ++ putU b0.toNat := by simp [encL]
      rw [hEn] at hps
      simp only [go_sem, ro, wo, wa, wx, rx, ins_e, vl_e, insC]
      refine call_w [81] (k := 1000) (j := 2000) (hps) (by decide) (by decide) (by decide) (by decide) (by first | rfl | simp [go_sem, slv_ids, ro, wo, wa, wx, rx, ins_e, vl_e, insC]) (by simp [go_sem, ro, wo, wa, wx, rx, ins_e, vl_e, insC]) ?_ (by rfl) (by rfl) ?_
      · simp only [go_sem, ro, wo, wa, wx, rx, ins_e, vl_e, insC]; try simp [go_sem, vl_e]
      simp only [go_sem, ro, wo, wa, wx, rx, ins_e, vl_e, insC]
      exact done_n [] _ [(1000, wo 2000 true (wB (e == 0) l1 (putU a0.toNat ++ putU b0.toNat)) e), (2000, wa (wB (e == 0) l1 (putU a0.toNat ++ putU b0.toNat)))] (by simp only [go_sem, ro, wo, wa, wx, rx, ins_e, vl_e, insC]) (by simp only [go_sem, ro, wo, wa, wx, rx, ins_e, vl_e, insC]) rfl ⟨rfl, rfl⟩
    · obtain rfl : q = _ := by
        rcases hQ with ⟨_, h⟩ | ⟨⟨h, _⟩, _⟩
        · exact h
        · exact absurd h (by decide)
      clear hQ
      obtain ⟨⟨rfl, rfl, rfl⟩, hlb, rfl, rfl, rfl, hlen, hv⟩ := hp
      have b1 := wB_len (ok := e == 0) (l := l1) (x := putU 1)
      have c1 := putU_5 (n := 1) (by omega)
      simp only [go_sem, ro, wo, wa, wx, rx, ins_e, vl_e, insC]
      refine call_w [] (k := 1000) (j := 2000) (s_wU (e := e) (l := l1) (by omega) 1 (by omega)) (by decide) (by decide) (by decide) (by decide) (by first | rfl | simp [go_sem, slv_ids, ro, wo, wa, wx, rx, ins_e, vl_e, insC]) (by simp [go_sem, ro, wo, wa, wx, rx, ins_e, vl_e, insC]) (by rfl) (by rfl) (by rfl) ?_
      simp only [go_sem, ro, wo, wa, wx, rx, ins_e, vl_e, insC]
      refine ⟨by decide, by omega, ?_⟩
      refine call_w [] (k := 1000) (j := 2000) (s_putval (l := wB (e == 0) l1 (putU 1)) (e := e) (by omega) (nth ty 0) hv) (by decide) (by decide) (by decide) (by decide) (by first | rfl | simp [go_sem, slv_ids, ro, wo, wa, wx, rx, ins_e, vl_e, insC]) (by simp [go_sem, ro, wo, wa, wx, rx, ins_e, vl_e, insC]) (by rfl) (by rfl) (by rfl) ?_
      simp only [go_sem, ro, wo, wa, wx, rx, ins_e, vl_e, insC, wB_wB]
      exact done_n [] _ [(1000, wo 2000 true (wB (e == 0) l1 (putU 1 ++ [(vo (nth ty 0)).1])) e), (2000, wa (wB (e == 0) l1 (putU 1 ++ [(vo (nth ty 0)).1])))] (by simp only [go_sem, ro, wo, wa, wx, rx, ins_e, vl_e, insC]) (by simp only [go_sem, ro, wo, wa, wx, rx, ins_e, vl_e, insC]) rfl ⟨rfl, rfl⟩
    · obtain rfl : q = _ := by
        rcases hQ with ⟨_, h⟩ | ⟨⟨h, _⟩, _⟩
        · exact h
        · exact absurd h (by decide)
      clear hQ
      obtain ⟨⟨rfl, rfl, rfl⟩, hlb, hty, ha, rfl, rfl⟩ := hp
      obtain ⟨m, rfl, hm⟩ := ix_nat ha
      simp only [go_sem, ro, wo, wa, wx, rx, ins_e, vl_e, insC]
      refine call_w [] (k := 1000) (j := 2000) (s_wU (l := l1) (e := e) (by omega) m hm) (by decide) (by decide) (by decide) (by decide) (by first | rfl | simp [go_sem, slv_ids, ro, wo, wa, wx, rx, ins_e, vl_e, insC]) (by simp [go_sem, ro, wo, wa, wx, rx, ins_e, vl_e, insC]) (by rfl) (by rfl) (by rfl) ?_
      simp only [go_sem, ro, wo, wa, wx, rx, ins_e, vl_e, insC]
      exact done_n [] _ [(1000, wo 2000 true (wB (e == 0) l1 (putU m)) e), (2000, wa (wB (e == 0) l1 (putU m)))] (by simp only [go_sem, ro, wo, wa, wx, rx, ins_e, vl_e, insC]) (by simp only [go_sem, ro, wo, wa, wx, rx, ins_e, vl_e, insC]) rfl ⟨rfl, rfl⟩
    · obtain rfl : q = _ := by
        rcases hQ with ⟨_, h⟩ | ⟨⟨h, _⟩, _⟩
        · exact h
        · exact absurd h (by decide)
      clear hQ
      obtain ⟨⟨rfl, rfl, rfl⟩, hlb, hty, ha, rfl, rfl⟩ := hp
      obtain ⟨m, rfl, hm⟩ := ix_nat ha
      simp only [go_sem, ro, wo, wa, wx, rx, ins_e, vl_e, insC]
      refine call_w [] (k := 1000) (j := 2000) (s_wU (l := l1) (e := e) (by omega) m hm) (by decide) (by decide) (by decide) (by decide) (by first | rfl | simp [go_sem, slv_ids, ro, wo, wa, wx, rx, ins_e, vl_e, insC]) (by simp [go_sem, ro, wo, wa, wx, rx, ins_e, vl_e, insC]) (by rfl) (by rfl) (by rfl) ?_
      simp only [go_sem, ro, wo, wa, wx, rx, ins_e, vl_e, insC]
      exact done_n [] _ [(1000, wo 2000 true (wB (e == 0) l1 (putU m)) e), (2000, wa (wB (e == 0) l1 (putU m)))] (by simp only [go_sem, ro, wo, wa, wx, rx, ins_e, vl_e, insC]) (by simp only [go_sem, ro, wo, wa, wx, rx, ins_e, vl_e, insC]) rfl ⟨rfl, rfl⟩
    · obtain rfl : q = _ := by
        rcases hQ with ⟨_, h⟩ | ⟨⟨h, _⟩, _⟩
        · exact h
        · exact absurd h (by decide)
      clear hQ
      obtain ⟨⟨rfl, rfl, rfl⟩, hlb, hty, ha, rfl, rfl⟩ := hp
      obtain ⟨m, rfl, hm⟩ := ix_nat ha
      simp only [go_sem, ro, wo, wa, wx, rx, ins_e, vl_e, insC]
      refine call_w [] (k := 1000) (j := 2000) (s_wU (l := l1) (e := e) (by omega) m hm) (by decide) (by decide) (by decide) (by decide) (by first | rfl | simp [go_sem, slv_ids, ro, wo, wa, wx, rx, ins_e, vl_e, insC]) (by simp [go_sem, ro, wo, wa, wx, rx, ins_e, vl_e, insC]) (by rfl) (by rfl) (by rfl) ?_
      simp only [go_sem, ro, wo, wa, wx, rx, ins_e, vl_e, insC]
      exact done_n [] _ [(1000, wo 2000 true (wB (e == 0) l1 (putU m)) e), (2000, wa (wB (e == 0) l1 (putU m)))] (by simp only [go_sem, ro, wo, wa, wx, rx, ins_e, vl_e, insC]) (by simp only [go_sem, ro, wo, wa, wx, rx, ins_e, vl_e, insC]) rfl ⟨rfl, rfl⟩
    · obtain rfl : q = _ := by
        rcases hQ with ⟨_, h⟩ | ⟨⟨h, _⟩, _⟩
        · exact h
        · exact absurd h (by decide)
      clear hQ
      obtain ⟨⟨rfl, rfl, rfl⟩, hlb, hty, ha, hb, rfl⟩ := hp
      have hps := s_puts (l := l1) (e := e) (by omega) [a0, b0] (by simp only [List.all_cons, List.all_nil, ha, hb, Bool.and_self]) (by simp) (fun _ => by simp; omega)
      have hEn : encL [a0, b0] = putU a0.toNat ++ putU b0.toNat := by simp [encL]
      rw [hEn] at hps
      simp only [go_sem, ro, wo, wa, wx, rx, ins_e, vl_e, insC]
      refine call_w [81] (k := 1000) (j := 2000) (hps) (by decide) (by decide) (by decide) (by decide) (by first | rfl | simp [go_sem, slv_ids, ro, wo, wa, wx, rx, ins_e, vl_e, insC]) (by simp [go_sem, ro, wo, wa, wx, rx, ins_e, vl_e, insC]) ?_ (by rfl) (by rfl) ?_
      · simp only [go_sem, ro, wo, wa, wx, rx, ins_e, vl_e, insC]; try simp [go_sem, vl_e]
      simp only [go_sem, ro, wo, wa, wx, rx, ins_e, vl_e, insC]
      exact done_n [] _ [(1000, wo 2000 true (wB (e == 0) l1 (putU a0.toNat ++ putU b0.toNat)) e), (2000, wa (wB (e == 0) l1 (putU a0.toNat ++ putU b0.toNat)))] (by simp only [go_sem, ro, wo, wa, wx, rx, ins_e, vl_e, insC]) (by simp only [go_sem, ro, wo, wa, wx, rx, ins_e, vl_e, insC]) rfl ⟨rfl, rfl⟩
    · obtain rfl : q = _ := by
        rcases hQ with ⟨_, h⟩ | ⟨⟨h, _⟩, _⟩
        · exact h
        · exact absurd h (by decide)
      clear hQ
      obtain ⟨⟨rfl, rfl, rfl⟩, hlb, hty, ha, hb, rfl⟩ := hp
      have hps := s_puts (l := l1) (e := e) (by omega) [a0, b0] (by simp only [List.all_cons, List.all_nil, ha, hb, Bool.and_self]) (by simp) (fun _ => by simp; omega)
      have hEn : encL [a0, b0] = putU a0.toNat ++ putU b0.toNat := by simp [encL]
      rw [hEn] at hps
      simp only [go_sem, ro, wo, wa, wx, rx, ins_e, vl_e, insC]
      refine call_w [81] (k := 1000) (j := 2000) (hps) (by decide) (by decide) (by decide) (by decide) (by first | rfl | simp [go_sem, slv_ids, ro, wo, wa, wx, rx, ins_e, vl_e, insC]) (by simp [go_sem, ro, wo, wa, wx, rx, ins_e, vl_e, insC]) ?_ (by rfl) (by rfl) ?_
      · simp only [go_sem, ro, wo, wa, wx, rx, ins_e, vl_e, insC]; try simp [go_sem, vl_e]
      simp only [go_sem, ro, wo, wa, wx, rx, ins_e, vl_e, insC]
      exact done_n [] _ [(1000, wo 2000 true (wB (e == 0) l1 (putU a0.toNat ++ putU b0.toNat)) e), (2000, wa (wB (e == 0) l1 (putU a0.toNat ++ putU b0.toNat)))] (by simp only [go_sem, ro, wo, wa, wx, rx, ins_e, vl_e, insC]) (by simp only [go_sem, ro, wo, wa, wx, rx, ins_e, vl_e, insC]) rfl ⟨rfl, rfl⟩
    · obtain rfl : q = _ := by
        rcases hQ with ⟨_, h⟩ | ⟨⟨h, _⟩, _⟩
        · exact h
        · exact absurd h (by decide)
      clear hQ
      obtain ⟨⟨rfl, rfl, rfl⟩, hlb, hty, ha, rfl, rfl⟩ := hp
      obtain ⟨m, rfl, hm⟩ := ix_nat ha
      simp only [go_sem, ro, wo, wa, wx, rx, ins_e, vl_e, insC]
      refine call_w [] (k := 1000) (j := 2000) (s_wU (l := l1) (e := e) (by omega) m hm) (by decide) (by decide) (by decide) (by decide) (by first | rfl | simp [go_sem, slv_ids, ro, wo, wa, wx, rx, ins_e, vl_e, insC]) (by simp [go_sem, ro, wo, wa, wx, rx, ins_e, vl_e, insC]) (by rfl) (by rfl) (by rfl) ?_
      simp only [go_sem, ro, wo, wa, wx, rx, ins_e, vl_e, insC]
      exact done_n [] _ [(1000, wo 2000 true (wB (e == 0) l1 (putU m)) e), (2000, wa (wB (e == 0) l1 (putU m)))] (by simp only [go_sem, ro, wo, wa, wx, rx, ins_e, vl_e, insC]) (by simp only [go_sem, ro, wo, wa, wx, rx, ins_e, vl_e, insC]) rfl ⟨rfl, rfl⟩
    · obtain rfl : q = _ := by
        rcases hQ with ⟨_, h⟩ | ⟨⟨h, _⟩, _⟩
        · exact h
        · exact absurd h (by decide)
      clear hQ
      obtain ⟨⟨rfl, rfl, rfl⟩, hlb, hty, rfl, hb, rfl⟩ := hp
      obtain ⟨m, rfl, hm⟩ := ix_nat hb
      simp only [go_sem, ro, wo, wa, wx, rx, ins_e, vl_e, insC]
      refine call_w [] (k := 1000) (j := 2000) (s_wU (l := l1) (e := e) (by omega) m hm) (by decide) (by decide) (by decide) (by decide) (by first | rfl | simp [go_sem, slv_ids, ro, wo, wa, wx, rx, ins_e, vl_e, insC]) (by simp [go_sem, ro, wo, wa, wx, rx, ins_e, vl_e, insC]) (by rfl) (by rfl) (by rfl) ?_
      simp only [go_sem, ro, wo, wa, wx, rx, ins_e, vl_e, insC]
      exact done_n [] _ [(1000, wo 2000 true (wB (e == 0) l1 (putU m)) e), (2000, wa (wB (e == 0) l1 (putU m)))] (by simp only [go_sem, ro, wo, wa, wx, rx, ins_e, vl_e, insC]) (by simp only [go_sem, ro, wo, wa, wx, rx, ins_e, vl_e, insC]) rfl ⟨rfl, rfl⟩
    · obtain rfl : q = _ := by
        rcases hQ with ⟨_, h⟩ | ⟨⟨h, _⟩, _⟩
        · exact h
        · exact absurd h (by decide)
      clear hQ
      obtain ⟨⟨rfl, rfl, rfl⟩, hlb, hty, ha, hb, rfl⟩ := hp
      have hps := s_puts (l := l1) (e := e) (by omega) [a0, b0] (by simp only [List.all_cons, List.all_nil, ha, hb, Bool.and_self]) (by simp) (fun _ => by simp; omega)
      have hEn : encL [a0, b0] = putU a0.toNat ++ putU b0.toNat := by simp [encL]
      rw [hEn] at hps
      simp only [go_sem, ro, wo, wa, wx, rx, ins_e, vl_e, insC]
      refine call_w [81] (k := 1000) (j := 2000) (hps) (by decide) (by decide) (by decide) (by decide) (by first | rfl | simp [go_sem, slv_ids, ro, wo, wa, wx, rx, ins_e, vl_e, insC]) (by simp [go_sem, ro, wo, wa, wx, rx, ins_e, vl_e, insC]) ?_ (by rfl) (by rfl) ?_
      · simp only [go_sem, ro, wo, wa, wx, rx, ins_e, vl_e, insC]; try simp [go_sem, vl_e]
      simp only [go_sem, ro, wo, wa, wx, rx, ins_e, vl_e, insC]
      exact done_n [] _ [(1000, wo 2000 true (wB (e == 0) l1 (putU a0.toNat ++ putU b0.toNat)) e), (2000, wa (wB (e == 0) l1 (putU a0.toNat ++ putU b0.toNat)))] (by simp only [go_sem, ro, wo, wa, wx, rx, ins_e, vl_e, insC]) (by simp only [go_sem, ro, wo, wa, wx, rx, ins_e, vl_e, insC]) rfl ⟨rfl, rfl⟩
    · obtain rfl : q = _ := by
        rcases hQ with ⟨_, h⟩ | ⟨⟨h, _⟩, _⟩
        · exact h
        · exact absurd h (by decide)
      clear hQ
      obtain ⟨⟨rfl, rfl, rfl⟩, hlb, hty, ha, hb, rfl⟩ := hp
      have hps := s_puts (l := l1) (e := e) (by omega) [a0, b0] (by simp only [List.all_cons, List.all_nil, ha, hb, Bool.and_self]) (by simp) (fun _ => by simp; omega)
      have hEn : encL [a0, b0] = putU a0.toNat ++ putU b0.toNat := by simp [encL]
      rw [hEn] at hps
      simp only [go_sem, ro, wo, wa, wx, rx, ins_e, vl_e, insC]
      refine call_w [81] (k := 1000) (j := 2000) (hps) (by decide) (by decide) (by decide) (by decide) (by first | rfl | simp [go_sem, slv_ids, ro, wo, wa, wx, rx, ins_e, vl_e, insC]) (by simp [go_sem, ro, wo, wa, wx, rx, ins_e, vl_e, insC]) ?_ (by rfl) (by rfl) ?_
      · simp only [go_sem, ro, wo, wa, wx, rx, ins_e, vl_e, insC]; try simp [go_sem, vl_e]
      simp only [go_sem, ro, wo, wa, wx, rx, ins_e, vl_e, insC]
      exact done_n [] _ [(1000, wo 2000 true (wB (e == 0) l1 (putU a0.toNat ++ putU b0.toNat)) e), (2000, wa (wB (e == 0) l1 (putU a0.toNat ++ putU b0.toNat)))] (by simp only [go_sem, ro, wo, wa, wx, rx, ins_e, vl_e, insC]) (by simp only [go_sem, ro, wo, wa, wx, rx, ins_e, vl_e, insC]) rfl ⟨rfl, rfl⟩
    · obtain rfl : q = _ := by
        rcases hQ with ⟨_, h⟩ | ⟨⟨h, _⟩, _⟩
        · exact h
        · exact absurd h (by decide)
      clear hQ
      obtain ⟨⟨rfl, rfl, rfl⟩, hlb, hty, ha, rfl, rfl⟩ := hp
      obtain ⟨m, rfl, hm⟩ := ix_nat ha
      simp only [go_sem, ro, wo, wa, wx, rx, ins_e, vl_e, insC]
      refine call_w [] (k := 1000) (j := 2000) (s_wU (l := l1) (e := e) (by omega) m hm) (by decide) (by decide) (by decide) (by decide) (by first | rfl | simp [go_sem, slv_ids, ro, wo, wa, wx, rx, ins_e, vl_e, insC]) (by simp [go_sem, ro, wo, wa, wx, rx, ins_e, vl_e, insC]) (by rfl) (by rfl) (by rfl) ?_
      simp only [go_sem, ro, wo, wa, wx, rx, ins_e, vl_e, insC]
      exact done_n [] _ [(1000, wo 2000 true (wB (e == 0) l1 (putU m)) e), (2000, wa (wB (e == 0) l1 (putU m)))] (by simp only [go_sem, ro, wo, wa, wx, rx, ins_e, vl_e, insC]) (by simp only [go_sem, ro, wo, wa, wx, rx, ins_e, vl_e, insC]) rfl ⟨rfl, rfl⟩
    · obtain rfl : q = _ := by
        rcases hQ with ⟨_, h⟩ | ⟨⟨h, _⟩, _⟩
        · exact h
        · exact absurd h (by decide)
      clear hQ
      obtain ⟨⟨rfl, rfl, rfl⟩, hlb, hty, ha1, ha2, hb, hn2⟩ := hp
      obtain ⟨m3, rfl⟩ := Int.eq_ofNat_of_zero_le hn
      have w3 : IntKind.i64.wrap (m3 : Int) = (m3 : Int) := wi (by omega) (by omega)
      by_cases h0 : b0 = 0
      · subst h0
        obtain ⟨m, rfl⟩ := Int.eq_ofNat_of_zero_le ha1
        have b1 := wB_len (ok := e == 0) (l := l1) (x := putU m)
        have c1 := putU_5 (n := m) (by omega)
        simp only [go_sem, ro, wo, wa, wx, rx, ins_e, vl_e, insC]
        refine call_w [] (k := 1000) (j := 2000) (s_wU (e := e) (l := l1) (by omega) m (by omega)) (by decide) (by decide) (by decide) (by decide) (by first | rfl | simp [go_sem, slv_ids, ro, wo, wa, wx, rx, ins_e, vl_e, insC]) (by simp [go_sem, ro, wo, wa, wx, rx, ins_e, vl_e, insC]) (by rfl) (by rfl) (by rfl) ?_
        simp only [go_sem, ro, wo, wa, wx, rx, ins_e, vl_e, insC, w3]
        refine call_w [] (k := 1000) (j := 2000) (s_wU (l := wB (e == 0) l1 (putU m)) (e := e) (by omega) m3 (by omega)) (by decide) (by decide) (by decide) (by decide) (by first | rfl | simp [go_sem, slv_ids, ro, wo, wa, wx, rx, ins_e, vl_e, insC]) (by simp [go_sem, ro, wo, wa, wx, rx, ins_e, vl_e, insC]) (by rfl) (by rfl) (by rfl) ?_
        simp only [go_sem, ro, wo, wa, wx, rx, ins_e, vl_e, insC, wB_wB]
        exact done_n [] _ [(1000, wo 2000 true (wB (e == 0) l1 (putU m ++ putU m3)) e), (2000, wa (wB (e == 0) l1 (putU m ++ putU m3)))] (by simp only [go_sem, ro, wo, wa, wx, rx, ins_e, vl_e, insC]) (by simp only [go_sem, ro, wo, wa, wx, rx, ins_e, vl_e, insC]) rfl ⟨rfl, rfl⟩
      · have hE : encM 17 ⟨op, a0, b0, m3, 0, 0, 0, ty, lb⟩ = putU (a0 + 64).toNat ++ putU b0.toNat ++ putU m3 := by
          simp only [encM, Int.reduceEq, false_or, or_false, or_true, true_or, or_self, if_true, if_false, h0, Int.toNat_natCast]
        have w1 : IntKind.i64.wrap (a0 + 64) = a0 + 64 := wi (by omega) (by omega)
        have h64 : ixB (a0 + 64) = true := by simp only [ixB, Bool.and_eq_true, decide_eq_true_eq]; omega
        have hps := s_puts (l := l1) (e := e) (by omega) [a0 + 64, b0] (by simp only [List.all_cons, List.all_nil, hb, h64, Bool.and_self]) (by simp) (fun _ => by simp; omega)
        have hEn : encL [a0 + 64, b0] = putU (a0 + 64).toNat ++ putU b0.toNat := by simp [encL]
        have hb' : b0 ≥ 0 ∧ b0 < 4294967296 := by simpa only [ixB, Bool.and_eq_true, decide_eq_true_eq] using hb
        have b1 := wB_len (ok := e == 0) (l := l1) (x := putU (a0 + 64).toNat ++ putU b0.toNat)
        have c1 := putU_5 (n := (a0 + 64).toNat) (by omega)
        have c2 := putU_5 (n := b0.toNat) (by omega)
        rw [List.length_append] at b1
        rw [hEn] at hps
        rw [hE]
        simp only [go_sem, ro, wo, wa, wx, rx, ins_e, vl_e, insC, beq_f h0, w1]
        refine call_w [108] (k := 1000) (j := 2000) (hps) (by decide) (by decide) (by decide) (by decide) (by first | rfl | simp [go_sem, slv_ids, ro, wo, wa, wx, rx, ins_e, vl_e, insC]) (by simp [go_sem, ro, wo, wa, wx, rx, ins_e, vl_e, insC]) ?_ (by rfl) (by rfl) ?_
        · simp only [go_sem, ro, wo, wa, wx, rx, ins_e, vl_e, insC]; try simp [go_sem, vl_e]
        simp only [go_sem, ro, wo, wa, wx, rx, ins_e, vl_e, insC, w3]
        refine call_w [] (k := 1000) (j := 2000) (s_wU (l := wB (e == 0) l1 (putU (a0 + 64).toNat ++ putU b0.toNat)) (e := e) (by omega) m3 (by omega)) (by decide) (by decide) (by decide) (by decide) (by first | rfl | simp [go_sem, slv_ids, ro, wo, wa, wx, rx, ins_e, vl_e, insC]) (by simp [go_sem, ro, wo, wa, wx, rx, ins_e, vl_e, insC]) (by rfl) (by rfl) (by rfl) ?_
        simp only [go_sem, ro, wo, wa, wx, rx, ins_e, vl_e, insC, wB_wB]
        exact done_n [] _ [(1000, wo 2000 true (wB (e == 0) l1 (putU (a0 + 64).toNat ++ putU b0.toNat ++ putU m3)) e), (2000, wa (wB (e == 0) l1 (putU (a0 + 64).toNat ++ putU b0.toNat ++ putU m3)))] (by simp only [go_sem, ro, wo, wa, wx, rx, ins_e, vl_e, insC]) (by simp only [go_sem, ro, wo, wa, wx, rx, ins_e, vl_e, insC]) rfl ⟨rfl, rfl⟩
    · obtain rfl : q = _ := by
        rcases hQ with ⟨_, h⟩ | ⟨⟨h, _⟩, _⟩
        · exact h
        · exact absurd h (by decide)
      clear hQ
      obtain ⟨⟨rfl, rfl, rfl⟩, hlb, hty, rfl, rfl, hn2⟩ := hp
      simp only [go_sem, ro, wo, wa, wx, rx, ins_e, vl_e, insC]
      refine call_w [] (k := 1000) (j := 2000) (s_wS32 true l1 e (by omega) n) (by decide) (by decide) (by decide) (by decide) (by first | rfl | simp [go_sem, slv_ids, ro, wo, wa, wx, rx, ins_e, vl_e, insC]) (by simp [go_sem, ro, wo, wa, wx, rx, ins_e, vl_e, insC]) (by rfl) (by rfl) (by rfl) ?_
      simp only [go_sem, ro, wo, wa, wx, rx, ins_e, vl_e, insC, Bool.true_and, wS]
      exact done_n [] _ [(1000, wo 2000 true (wB (e == 0) l1 (putS (s32 n))) e), (2000, wa (wB (e == 0) l1 (putS (s32 n))))] (by simp only [go_sem, ro, wo, wa, wx, rx, ins_e, vl_e, insC]) (by simp only [go_sem, ro, wo, wa, wx, rx, ins_e, vl_e, insC]) rfl ⟨rfl, rfl⟩
    · obtain rfl : q = _ := by
        rcases hQ with ⟨_, h⟩ | ⟨⟨h, _⟩, _⟩
        · exact h
        · exact absurd h (by decide)
      clear hQ
      obtain ⟨⟨rfl, rfl, rfl⟩, hlb, hty, rfl, rfl⟩ := hp
      simp only [go_sem, ro, wo, wa, wx, rx, ins_e, vl_e, insC]
      refine call_w [] (k := 1000) (j := 2000) (s_wS64 true l1 e (by omega) n) (by decide) (by decide) (by decide) (by decide) (by first | rfl | simp [go_sem, slv_ids, ro, wo, wa, wx, rx, ins_e, vl_e, insC]) (by simp [go_sem, ro, wo, wa, wx, rx, ins_e, vl_e, insC]) (by rfl) (by rfl) (by rfl) ?_
      simp only [go_sem, ro, wo, wa, wx, rx, ins_e, vl_e, insC, Bool.true_and, wS]
      exact done_n [] _ [(1000, wo 2000 true (wB (e == 0) l1 (putS (IntKind.i64.wrap n))) e), (2000, wa (wB (e == 0) l1 (putS (IntKind.i64.wrap n))))] (by simp only [go_sem, ro, wo, wa, wx, rx, ins_e, vl_e, insC]) (by simp only [go_sem, ro, wo, wa, wx, rx, ins_e, vl_e, insC]) rfl ⟨rfl, rfl⟩
    · obtain rfl : q = _ := by
        rcases hQ with ⟨_, h⟩ | ⟨⟨h, _⟩, _⟩
        · exact h
        · exact absurd h (by decide)
      clear hQ
      obtain ⟨⟨rfl, rfl, rfl⟩, hlb, hty, ha, rfl, rfl⟩ := hp
      have hv : vaB a0 = true := by rcases ha with rfl | rfl <;> rfl
      simp only [go_sem, ro, wo, wa, wx, rx, ins_e, vl_e, insC]
      refine call_w [] (k := 1000) (j := 2000) (s_putval (l := l1) (e := e) (by omega) a0 hv) (by decide) (by decide) (by decide) (by decide) (by first | rfl | simp [go_sem, slv_ids, ro, wo, wa, wx, rx, ins_e, vl_e, insC]) (by simp [go_sem, ro, wo, wa, wx, rx, ins_e, vl_e, insC]) (by rfl) (by rfl) (by rfl) ?_
      simp only [go_sem, ro, wo, wa, wx, rx, ins_e, vl_e, insC]
      exact done_n [] _ [(1000, wo 2000 true (wB (e == 0) l1 ([(vo a0).1])) e), (2000, wa (wB (e == 0) l1 ([(vo a0).1])))] (by simp only [go_sem, ro, wo, wa, wx, rx, ins_e, vl_e, insC]) (by simp only [go_sem, ro, wo, wa, wx, rx, ins_e, vl_e, insC]) rfl ⟨rfl, rfl⟩
end
end Go.Proofs.YtdhiiannngjjpaaDoor
