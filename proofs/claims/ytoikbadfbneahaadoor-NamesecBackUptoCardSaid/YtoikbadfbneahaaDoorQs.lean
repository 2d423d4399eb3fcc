/-
  LEB128 in plain Lean: what was encoded is decoded.
-/
import Derived.Test.YtoikbadfbneahaaDoorQe
import Derived.Test.YtoikbadfbneahaaDoorQf
set_option linter.unusedVariables false
set_option linter.unusedSimpArgs false
set_option linter.unusedSectionVars false
set_option linter.unusedVariables false
namespace Go.Proofs.YtoikbadfbneahaaDoor
open Go Go.Mw

def ends (l : List UInt8) : Prop := 0 < l.length ∧ (∀ i, i + 1 < l.length → 128 ≤ (nth l i).toNat) ∧ (nth l (l.length - 1)).toNat < 128
theorem ends_one {x : UInt8} (h : x.toNat < 128) : ends [x] := ⟨by simp, fun i hi => absurd hi (by simp), h⟩
theorem ends_cons {x : UInt8} {l : List UInt8} (hx : 128 ≤ x.toNat) (h : ends l) : ends (x :: l) := by
  obtain ⟨h1, h2, h3⟩ := h
  refine ⟨by simp, fun i hi => ?_, ?_⟩
  · cases i with
    | zero => exact hx
    | succ i => rw [nth_succ]; exact h2 i (by simpa using hi)
  · rw [List.length_cons, Nat.add_sub_cancel, show l.length = (l.length - 1) + 1 by omega, nth_succ]
    exact h3
theorem putU_ends (n : Nat) : ends (putU n) := by
  induction n using Nat.strongRecOn with
  | _ n ih =>
    by_cases h : n < 128
    · rw [putU_lo h]; exact ends_one (by rw [ofNat_toNat (by omega)]; exact h)
    · rw [putU_hi h]
      exact ends_cons (by rw [ofNat_toNat (by omega)]; omega) (ih (n / 128) (by omega))
theorem lst_ends {l r : List UInt8} (h : ends l) : ∀ (d i f : Nat), i + d + 1 = l.length → d < f → lst (l ++ r) f i = (0, l.length - 1)
  | 0, i, f, hi, hf => by
    obtain ⟨g, rfl⟩ : ∃ g, f = g + 1 := ⟨f - 1, by omega⟩
    have hl : i = l.length - 1 := by omega
    have hn : nth (l ++ r) i = nth l i := nth_app_l (by omega)
    have := h.2.2
    rw [lst, if_neg (by simp; omega), hn, hl, if_neg (by omega)]
  | d + 1, i, f, hi, hf => by
    obtain ⟨g, rfl⟩ : ∃ g, f = g + 1 := ⟨f - 1, by omega⟩
    have hn : nth (l ++ r) i = nth l i := nth_app_l (by omega)
    have := h.2.1 i (by omega)
    rw [lst, if_neg (by simp; omega), hn, if_pos this]
    exact lst_ends h d (i + 1) g (by omega) (by omega)
theorem lst_enc {l r : List UInt8} {bits : Nat} (h : ends l) (hl : l.length ≤ mst bits) : lstE (l ++ r) bits = 0 ∧ lstI (l ++ r) bits = l.length - 1 := by
  have := lst_ends (r := r) h (l.length - 1) 0 (mst bits) (by have := h.1; omega) (by have := h.1; omega)
  exact ⟨by rw [lstE, this], by rw [lstI, this]⟩

theorem val7_putU (n : Nat) : val7 (putU n) = n := by
  induction n using Nat.strongRecOn with
  | _ n ih =>
    by_cases h : n < 128
    · rw [putU_lo h]
      simp only [val7, ofNat_toNat (show n < 256 by omega)]
      omega
    · rw [putU_hi h]
      simp only [val7, ofNat_toNat (show n % 128 + 128 < 256 by omega), ih (n / 128) (by omega)]
      omega
theorem last_putU (n : Nat) : (nth (putU n) ((putU n).length - 1)).toNat = n / 128 ^ ((putU n).length - 1) := by
  induction n using Nat.strongRecOn with
  | _ n ih =>
    by_cases h : n < 128
    · rw [putU_lo h]
      simp [nth, ofNat_toNat (show n < 256 by omega)]
    · rw [putU_hi h]
      have hp := putU_pos (n / 128)
      rw [List.length_cons, Nat.add_sub_cancel, show (putU (n / 128)).length = ((putU (n / 128)).length - 1) + 1 by omega, nth_succ, ih (n / 128) (by omega), Nat.pow_succ, Nat.mul_comm, ← Nat.div_div_eq_div_mul]
theorem two_pow7 (i : Nat) : 128 ^ i = 2 ^ (7 * i) := by rw [show (128 : Nat) = 2 ^ 7 from rfl, ← Nat.pow_mul]
theorem putU_mst {n bits : Nat} (hb : 1 ≤ bits) (hn : n < 2 ^ bits) : (putU n).length ≤ mst bits := by
  obtain ⟨k, hk⟩ : ∃ k, mst bits = k + 1 := ⟨mst bits - 1, by unfold mst; omega⟩
  rw [hk]
  refine putU_len (k := k) (Nat.lt_of_lt_of_le hn ?_)
  rw [two_pow7]
  exact Nat.pow_le_pow_right (by decide) (by unfold mst at hk; omega)
theorem decU_putU {n bits : Nat} (r : List UInt8) (hb : 1 ≤ bits ∧ bits ≤ 64) (hn : n < 2 ^ bits) : decU (putU n ++ r) bits = (n, (putU n).length, 0) := by
  have hl := putU_mst hb.1 hn
  have hp := putU_pos n
  obtain ⟨h1, h2⟩ := lst_enc (r := r) (putU_ends n) hl
  have h64 : n < 18446744073709551616 := Nat.lt_of_lt_of_le hn (Nat.pow_le_pow_right (by decide) hb.2 : 2 ^ bits ≤ 2 ^ 64)
  have h3 : (nth (putU n ++ r) ((putU n).length - 1)).toNat / 2 ^ cnt bits ((putU n).length - 1) = 0 := by
    rw [nth_app_l (by omega)]
    unfold cnt
    split
    · rename_i hq
      rw [last_putU, two_pow7, Nat.div_div_eq_div_mul, ← Nat.pow_add, show 7 * ((putU n).length - 1) + (bits - 7 * ((putU n).length - 1)) = bits by unfold mst at hq; omega]
      exact Nat.div_eq_of_lt hn
    · exact Nat.div_eq_of_lt (putU_ends n).2.2
  rw [decU, if_neg (by rw [h1]; simp), h2, if_neg (by rw [h3]; simp)]
  rw [show (putU n).length - 1 + 1 = (putU n).length by omega, List.take_left, val7_putU, Nat.mod_eq_of_lt h64]
end Go.Proofs.YtoikbadfbneahaaDoor
set_option linter.unusedSimpArgs false
set_option maxRecDepth 100000
set_option linter.unusedVariables false
namespace Go.Proofs.YtoikbadfbneahaaDoor
open Go Go.Mw

/-! ### Rising indices -/
theorem ris_app : ∀ (p : List Int) (a : Int) (q : List Int), ris (p ++ a :: q) = (ris (p ++ [a]) && ris (a :: q))
  | [], a, q => by simp [ris]
  | [x], a, q => by simp [ris]
  | x :: y :: r, a, q => by
    have h := ris_app (y :: r) a q
    simp only [List.cons_append] at h ⊢
    rw [ris, ris, h, Bool.and_assoc]
theorem ris_snoc (p : List Int) (z a : Int) : ris (p ++ [z] ++ [a]) = (ris (p ++ [z]) && decide (z < a)) := by
  rw [List.append_assoc]
  show ris (p ++ z :: [a]) = _
  rw [ris_app]
  simp [ris]
theorem ixs_app (a b : List Nm) : ixs (a ++ b) = ixs a ++ ixs b := by unfold ixs; rw [List.map_append]
theorem fxs_app (a b : List Lc) : fxs (a ++ b) = fxs a ++ fxs b := by unfold fxs; rw [List.map_append]
theorem lastI_sn (o : List Nm) (z : Nm) : lastI (o ++ [z]) = z.i := by simp [lastI]
theorem lastF_sn (o : List Lc) (z : Lc) : lastF (o ++ [z]) = z.f := by simp [lastF]
theorem ris_gt {o : List Nm} {n : Nm} (h : ris (ixs o) = true) : ris (ixs (o ++ [n])) = decide (¬ (o ≠ [] ∧ n.i ≤ lastI o)) := by
  rcases List.eq_nil_or_concat o with rfl | ⟨p, z, rfl⟩
  · simp [ixs, ris]
  · rw [List.concat_eq_append] at h ⊢
    rw [ixs_app (p ++ [z]), ixs_app p] at *
    rw [lastI_sn]
    show ris (ixs p ++ [z.i] ++ [n.i]) = _
    rw [ris_snoc, show ris (ixs p ++ [z.i]) = true from h, Bool.true_and]
    refine decide_eq_decide.2 ?_
    simp
theorem ris_gc {o : List Lc} {n : Lc} (h : ris (fxs o) = true) : ris (fxs (o ++ [n])) = decide (¬ (o ≠ [] ∧ n.f ≤ lastF o)) := by
  rcases List.eq_nil_or_concat o with rfl | ⟨p, z, rfl⟩
  · simp [fxs, ris]
  · rw [List.concat_eq_append] at h ⊢
    rw [fxs_app (p ++ [z]), fxs_app p] at *
    rw [lastF_sn]
    show ris (fxs p ++ [z.f] ++ [n.f]) = _
    rw [ris_snoc, show ris (fxs p ++ [z.f]) = true from h, Bool.true_and]
    refine decide_eq_decide.2 ?_
    simp
theorem ris_pre {p : List Int} {a : Int} {q : List Int} (h : ris (p ++ a :: q) = true) : ris (p ++ [a]) = true := by
  rw [ris_app, Bool.and_eq_true] at h
  exact h.1
theorem ris_init : ∀ {p : List Int} {a : Int}, ris (p ++ [a]) = true → ris p = true
  | [], _, _ => rfl
  | [x], _, _ => rfl
  | x :: y :: r, a, h => by
    simp only [List.cons_append] at h
    rw [ris, Bool.and_eq_true] at h ⊢
    exact ⟨h.1, ris_init (p := y :: r) h.2⟩

/-! ### What was encoded is read -/
theorem drop_14 {b x r : List UInt8} {a : Nat} (h : b.drop a = x ++ r) : (b.drop a).take x.length = x ∧ b.drop (a + x.length) = r ∧ (a ≤ b.length → b.length = a + x.length + r.length) := by
  refine ⟨by rw [h, List.take_left], by rw [← List.drop_drop, h, List.drop_left], fun ha => ?_⟩
  have := congrArg List.length h
  simp at this
  omega
theorem rTake_14 {b x r : List UInt8} {a : Nat} (ha : a ≤ b.length) (h : b.drop a = x ++ r) : rTake true b a 0 x.length = (some x, a + x.length, 0) := by
  obtain ⟨h1, h2, h3⟩ := drop_14 h
  have h3 := h3 ha
  have n1 : ¬ ((x.length : Int) < 0) := by omega
  have n2 : ¬ ((x.length : Int) > (b.length : Int) - a) := by omega
  simp only [rTake, if_true, if_neg n1, if_neg n2, Int.toNat_natCast, h1]
theorem rU_14 {b r : List UInt8} {a n : Nat} (hn : n < 4294967296) (h : b.drop a = putU n ++ r) : rU true 32 b a 0 = (n, a + (putU n).length, 0) := by
  have := decU_putU (n := n) (bits := 32) r (by decide) hn
  simp [rU, h, this]
theorem rCount_14 {b r : List UInt8} {a n : Nat} {most : Int} (hn : n < 4294967296) (hm : (n : Int) ≤ most) (h : b.drop a = putU n ++ r) : rCount true b a 0 most = (n, a + (putU n).length, 0) := by
  have h1 := rU_14 hn h
  simp only [rCount, if_true, h1]
  rw [if_neg (by omega)]
theorem rName_14 {b s r : List UInt8} {a : Nat} (ha : a ≤ b.length) (hs : gdT s) (h : b.drop a = encT s ++ r) : rName true b a 0 = (s, a + (encT s).length, 0) := by
  unfold encT at h ⊢
  rw [List.append_assoc] at h
  have hs2 := hs.2
  have hc := rCount_14 (most := 64) (by omega) (by omega) h
  obtain ⟨h1, h2, h3⟩ := drop_14 h
  have h3 := h3 ha
  have ht := rTake_14 (by omega) h2
  unfold rName
  rw [if_pos rfl, hc]
  simp only
  rw [show ((0 : Int) == 0) = true from rfl, ht]
  unfold nameT
  rw [if_neg (by simp), if_neg (by simp [hs.1])]
  simp only [Option.getD_some, List.length_append, Nat.add_assoc]
theorem gt_e : ∀ (l : List Nm) {b r : List UInt8} {a : Nat} {out : List Nm}, (∀ n ∈ l, gdM n) → ris (ixs (out ++ l)) = true → a ≤ b.length → b.drop a = encL l ++ r → gt l.length b a 0 out = (out ++ l, a + (encL l).length, 0)
  | [], b, r, a, out, _, _, _, _ => by simp [gt, encL]
  | n :: l, b, r, a, out, hg, hr, ha, h => by
    obtain ⟨g1, g2⟩ := hg n (by simp)
    obtain ⟨k, hk, hk2⟩ : ∃ k : Nat, n.i = k ∧ k < 4294967296 := ⟨n.i.toNat, by unfold gdI at g1; omega, by unfold gdI at g1; omega⟩
    have he : encL (n :: l) = putU k ++ (encT n.s ++ encL l) := by simp [encL, encN1, hk]
    rw [he] at h ⊢
    rw [List.append_assoc, List.append_assoc] at h
    have hu := rU_14 hk2 h
    obtain ⟨_, h2, h3⟩ := drop_14 h
    have h3 := h3 ha
    have hn := rName_14 (by omega) g2 h2
    obtain ⟨_, h4, h5⟩ := drop_14 h2
    have h5 := h5 (by omega)
    have e : out ++ [(⟨n.i, n.s⟩ : Nm)] ++ l = out ++ n :: l := by simp
    have hp : ris (ixs (out ++ [n])) = true := by
      rw [← e, ixs_app] at hr
      cases l with
      | nil => simpa [ixs] using hr
      | cons y l2 => exact ris_init (ris_pre (p := ixs (out ++ [n])) (a := y.i) (q := ixs l2) hr)
    have hq : ris (ixs out) = true := by
      rw [ixs_app] at hp
      exact ris_init hp
    have hl := ris_gt (n := n) hq
    rw [hp] at hl
    have hl := of_decide_eq_true hl.symm
    have ih := gt_e l (b := b) (r := r) (a := a + (putU k).length + (encT n.s).length) (out := out ++ [⟨n.i, n.s⟩]) (fun x hx => hg x (by simp [hx])) (by rw [e]; exact hr) (by omega) h4
    rw [List.length_cons, gt, if_neg (by simp), hu]
    simp only
    rw [show ((0 : Int) == 0) = true from rfl, hn]
    simp only
    rw [show gtE out (k : Int) 0 = 0 by unfold gtE; rw [← hk, if_neg (fun q => hl ⟨q.2.1, q.2.2⟩)], ← hk, ih, e]
    simp only [List.length_append, Nat.add_assoc]
theorem gtN_e {l : List Nm} {b r : List UInt8} {a : Nat} {most : Int} (hl : (l.length : Int) ≤ most) (hl2 : l.length ≤ 72) (hg : ∀ n ∈ l, gdM n) (hr : ris (ixs l) = true) (ha : a ≤ b.length) (h : b.drop a = encN l ++ r) : gtN b a 0 most = (l, a + (encN l).length, 0) := by
  unfold encN at h ⊢
  rw [List.append_assoc] at h
  have hc := rCount_14 (by omega) hl h
  obtain ⟨_, h2, h3⟩ := drop_14 h
  have h3 := h3 ha
  have := gt_e l (b := b) (r := r) (a := a + (putU l.length).length) (out := []) hg (by simpa using hr) (by omega) h2
  unfold gtN
  rw [show ((0 : Int) == 0) = true from rfl, hc, this]
  simp only [List.nil_append, List.length_append, Nat.add_assoc]
theorem gc_e : ∀ (l : List Lc) {b r : List UInt8} {a : Nat} {out : List Lc}, (∀ x ∈ l, gdLc x ∧ ris (ixs x.l) = true) → ris (fxs (out ++ l)) = true → a ≤ b.length → b.drop a = encC l ++ r → gc l.length b a 0 out = (out ++ l, a + (encC l).length, 0)
  | [], b, r, a, out, _, _, _, _ => by simp [gc, encC]
  | n :: l, b, r, a, out, hg, hr, ha, h => by
    obtain ⟨⟨g1, g2⟩, g3⟩ := hg n (by simp)
    obtain ⟨k, hk, hk2⟩ : ∃ k : Nat, n.f = k ∧ k < 4294967296 := ⟨n.f.toNat, by unfold gdI at g1; omega, by unfold gdI at g1; omega⟩
    have he : encC (n :: l) = putU k ++ (encN n.l ++ encC l) := by simp [encC, hk]
    rw [he] at h ⊢
    rw [List.append_assoc, List.append_assoc] at h
    have hu := rU_14 hk2 h
    obtain ⟨_, h2, h3⟩ := drop_14 h
    have h3 := h3 ha
    have hn := gtN_e (most := 72) (by have := g2.1; omega) g2.1 g2.2 g3 (by omega) h2
    obtain ⟨_, h4, h5⟩ := drop_14 h2
    have h5 := h5 (by omega)
    have e : out ++ [(⟨n.f, n.l⟩ : Lc)] ++ l = out ++ n :: l := by simp
    have hp : ris (fxs (out ++ [n])) = true := by
      rw [← e, fxs_app] at hr
      cases l with
      | nil => simpa [fxs] using hr
      | cons y l2 => exact ris_init (ris_pre (p := fxs (out ++ [n])) (a := y.f) (q := fxs l2) hr)
    have hq : ris (fxs out) = true := by
      rw [fxs_app] at hp
      exact ris_init hp
    have hl := ris_gc (n := n) hq
    rw [hp] at hl
    have hl := of_decide_eq_true hl.symm
    have ih := gc_e l (b := b) (r := r) (a := a + (putU k).length + (encN n.l).length) (out := out ++ [⟨n.f, n.l⟩]) (fun x hx => hg x (by simp [hx])) (by rw [e]; exact hr) (by omega) h4
    have h0 : gcE out (k : Int) 0 = 0 := by unfold gcE; rw [← hk, if_neg (fun q => hl ⟨q.2.1, q.2.2⟩)]
    rw [List.length_cons, gc, if_neg (by simp), hu]
    simp only
    rw [h0, hn]
    simp only
    rw [← hk, ih, e]
    simp only [List.length_append, Nat.add_assoc]
theorem gcN_e {l : List Lc} {b r : List UInt8} {a : Nat} (hl : l.length ≤ 64) (hg : ∀ x ∈ l, gdLc x ∧ ris (ixs x.l) = true) (hr : ris (fxs l) = true) (ha : a ≤ b.length) (h : b.drop a = encLs l ++ r) : gcN b a 0 = (l, a + (encLs l).length, 0) := by
  unfold encLs at h ⊢
  rw [List.append_assoc] at h
  have hc := rCount_14 (most := 64) (by omega) (by omega) h
  obtain ⟨_, h2, h3⟩ := drop_14 h
  have h3 := h3 ha
  have := gc_e l (b := b) (r := r) (a := a + (putU l.length).length) (out := []) hg (by simpa using hr) (by omega) h2
  unfold gcN
  rw [show ((0 : Int) == 0) = true from rfl, hc, this]
  simp only [List.nil_append, List.length_append, Nat.add_assoc]
theorem dcA_p {f : Nat} {b r x : List UInt8} {a : Nat} {last : Int} {n0 n1 : Ns} {id : UInt8} (ha : a ≤ b.length) (hx : x.length < 4294967296) (h : b.drop a = prt id x ++ r) (h2 : id.toNat ≤ 2) (hl : last < (id.toNat : Int)) (hp : prtN n0 id.toNat x 0 = (n1, 0)) :
    dcA (f + 1) b a last n0 = dcA f b (a + (prt id x).length) (id.toNat : Int) n1 := by
  have hlen := congrArg List.length h
  unfold prt at h hlen ⊢
  simp only [List.length_drop, List.length_append, List.length_cons] at hlen
  have hn : nth b a = id := by
    have := nth_drop (l := b) (i := 0) (k := a)
    rw [h] at this
    rw [Nat.add_zero] at this
    exact this.symm
  have h1 : b.drop (a + 1) = putU x.length ++ (x ++ r) := by
    rw [← List.drop_drop, h]
    simp
  have hu := rU_14 hx h1
  obtain ⟨_, h4, _⟩ := drop_14 h1
  have ht := rTake_14 (by omega) h4
  have hs : sbT b a = (some x, a + 1 + (putU x.length).length + x.length, 0) := by
    unfold sbT
    rw [hu]
    simp only
    rw [show ((0 : Int) == 0) = true from rfl, ht]
  rw [dcA, if_neg (by omega), hn, if_neg (by omega), if_neg (by omega), hs]
  simp only [Option.getD_some, hp]
  rw [if_neg (by simp)]
  congr 1
  simp only [List.length_cons, List.length_append]
  omega
theorem rEnd_14 (x : List UInt8) : rEnd true x x.length 0 = 0 := by simp [rEnd]
theorem dcA_stop (f : Nat) (b : List UInt8) (l : Int) (n : Ns) : dcA (f + 1) b b.length l n = (n, 0) := by rw [dcA, if_pos (Nat.le_refl _)]
theorem decA_enc {n : Ns} (hc : gdN n) (hr : (rowsI n).all ris = true) : decA (bytesN n) = (n, 0) := by
  obtain ⟨g1, ⟨g2, g3⟩, g4, g5⟩ := hc
  have a1 := encT_len g1
  have a3 := encN_len g3
  have a5 := encLs_len g4 g5
  simp only [rowsI, List.all_cons, Bool.and_eq_true, List.all_map, List.all_eq_true, Function.comp_apply] at hr
  obtain ⟨r1, r2, r3⟩ := hr
  have p1 : ∀ n0 : Ns, prtN n0 (0 : UInt8).toNat (encT n.m) 0 = (⟨n.m, n0.fs, n0.ls⟩, 0) := fun n0 => by
    have := rName_14 (b := encT n.m) (a := 0) (r := []) (Nat.zero_le _) g1 (by simp)
    unfold prtN
    rw [if_pos (by decide), show ((0 : Int) == 0) = true from rfl, this]
    simp only [Nat.zero_add, rEnd_14]
  have p2 : ∀ n0 : Ns, prtN n0 (1 : UInt8).toNat (encN n.fs) 0 = (⟨n0.m, n.fs, n0.ls⟩, 0) := fun n0 => by
    have := gtN_e (b := encN n.fs) (a := 0) (r := []) (most := 64) (by omega) g3.1 g3.2 r1 (Nat.zero_le _) (by simp)
    unfold prtN
    rw [if_neg (by decide), if_pos (by decide), this]
    simp only [Nat.zero_add, rEnd_14]
  have p3 : ∀ n0 : Ns, prtN n0 (2 : UInt8).toNat (encLs n.ls) 0 = (⟨n0.m, n0.fs, n.ls⟩, 0) := fun n0 => by
    have := gcN_e (b := encLs n.ls) (a := 0) (r := []) g4 (fun x hx => ⟨g5 x hx, r3 x hx⟩) r2 (Nat.zero_le _) (by simp)
    unfold prtN
    rw [if_neg (by decide), if_neg (by decide), this]
    simp only [Nat.zero_add, rEnd_14]
  unfold decA
  generalize hB : bytesN n = B
  have hB2 : B = (if n.m = [] then [] else prt 0 (encT n.m)) ++ ((if n.fs = [] then [] else prt 1 (encN n.fs)) ++ (if n.ls = [] then [] else prt 2 (encLs n.ls))) := by
    rw [← hB, bytesN, List.append_assoc]
  -- the first part
  obtain ⟨f1, A1, l1, hf1, hA1, hl1, hd1, s1⟩ : ∃ (f1 A1 : Nat) (l1 : Int), 3 ≤ f1 ∧ A1 ≤ B.length ∧ l1 < 1 ∧ B.drop A1 = (if n.fs = [] then [] else prt 1 (encN n.fs)) ++ (if n.ls = [] then [] else prt 2 (encLs n.ls)) ∧ dcA 4 B 0 (-1) default = dcA f1 B A1 l1 ⟨n.m, [], []⟩ := by
    by_cases h : n.m = []
    · rw [if_pos h, List.nil_append] at hB2
      exact ⟨4, 0, -1, by decide, Nat.zero_le _, by decide, by rw [List.drop_zero]; exact hB2, by rw [h]; rfl⟩
    · rw [if_neg h] at hB2
      have hd : B.drop 0 = prt 0 (encT n.m) ++ ((if n.fs = [] then [] else prt 1 (encN n.fs)) ++ (if n.ls = [] then [] else prt 2 (encLs n.ls))) := by rw [List.drop_zero]; exact hB2
      obtain ⟨_, q2, q3⟩ := drop_14 hd
      have q3 := q3 (Nat.zero_le _)
      exact ⟨3, 0 + (prt 0 (encT n.m)).length, 0, Nat.le_refl _, by omega, by decide, q2, dcA_p (Nat.zero_le _) (by omega) hd (by decide) (by decide) (p1 default)⟩
  rw [s1]
  obtain ⟨f2, A2, l2, hf2, hA2, hl2, hd2, s2⟩ : ∃ (f2 A2 : Nat) (l2 : Int), 2 ≤ f2 ∧ A2 ≤ B.length ∧ l2 < 2 ∧ B.drop A2 = (if n.ls = [] then [] else prt 2 (encLs n.ls)) ∧ dcA f1 B A1 l1 ⟨n.m, [], []⟩ = dcA f2 B A2 l2 ⟨n.m, n.fs, []⟩ := by
    by_cases h : n.fs = []
    · rw [if_pos h, List.nil_append] at hd1
      exact ⟨f1, A1, l1, by omega, hA1, by omega, hd1, by rw [h]⟩
    · rw [if_neg h] at hd1
      obtain ⟨_, q2, q3⟩ := drop_14 hd1
      have q3 := q3 hA1
      obtain ⟨f, rfl⟩ : ∃ f, f1 = f + 1 := ⟨f1 - 1, by omega⟩
      exact ⟨f, A1 + (prt 1 (encN n.fs)).length, 1, by omega, by omega, by decide, q2, dcA_p hA1 (by omega) hd1 (by decide) (by show l1 < 1; omega) (p2 ⟨n.m, [], []⟩)⟩
  rw [s2]
  by_cases h : n.ls = []
  · rw [if_pos h] at hd2
    have hA : A2 = B.length := by
      have := congrArg List.length hd2
      simp at this
      omega
    obtain ⟨f, rfl⟩ : ∃ f, f2 = f + 1 := ⟨f2 - 1, by omega⟩
    rw [hA, dcA_stop]
    rw [show (⟨n.m, n.fs, []⟩ : Ns) = n by rw [← h]]
  · rw [if_neg h] at hd2
    have hd3 : B.drop A2 = prt 2 (encLs n.ls) ++ [] := by rw [List.append_nil]; exact hd2
    obtain ⟨_, q2, q3⟩ := drop_14 hd3
    have q3 := q3 hA2
    obtain ⟨f, rfl⟩ : ∃ f, f2 = f + 1 + 1 := ⟨f2 - 2, by omega⟩
    rw [dcA_p hA2 (by omega) hd3 (by decide) (by show l2 < 2; omega) (p3 ⟨n.m, n.fs, []⟩), show A2 + (prt 2 (encLs n.ls)).length = B.length by simp at q3; omega, dcA_stop]
end Go.Proofs.YtoikbadfbneahaaDoor
set_option linter.unusedSimpArgs false
set_option maxRecDepth 100000
set_option linter.unusedVariables false
namespace Go.Proofs.YtoikbadfbneahaaDoor
open Go Go.Mw

def VN (n : Ns) : Prop := gdN n ∧ (rowsI n).all ris = true
theorem txt_0 {s : List UInt8} (h : gdT s) : txt s = 0 := by
  unfold txt
  rw [if_neg (by simp [h.1]), if_neg (by have := h.2; omega)]
theorem txl_0 : ∀ {l : List Nm}, (∀ n ∈ l, gdT n.s) → txl l = 0
  | [], _ => rfl
  | n :: r, h => by
    unfold txl
    rw [txt_0 (h n (by simp)), if_neg (by simp)]
    exact txl_0 fun x hx => h x (by simp [hx])
theorem txs_0 {l : List Nm} {m : Int} (hl : (l.length : Int) ≤ m) (h : ∀ n ∈ l, gdT n.s) : txs l m = 0 := by
  unfold txs
  rw [if_neg (by omega), txl_0 h]
theorem lcl_0 : ∀ {l : List Lc}, (∀ x ∈ l, gdLc x) → lcl l = 0
  | [], _ => rfl
  | x :: r, h => by
    have hx := (h x (by simp)).2
    unfold lcl
    rw [txs_0 (by have := hx.1; omega) (fun y hy => (hx.2 y hy).2), if_neg (by simp)]
    exact lcl_0 fun x hx => h x (by simp [hx])
theorem win_0 {l : List Int} (h : ∀ i ∈ l, gdI i) : win l = true := by
  unfold win
  rw [List.all_eq_true]
  intro i hi
  have := h i hi
  unfold gdI at this
  simp [inR, this.1, this.2]
theorem chk_0 {n : Ns} (h : VN n) : chk n = 0 := by
  obtain ⟨⟨g1, ⟨g2, g3⟩, g4, g5⟩, hr⟩ := h
  have hA : allE n = 0 := by
    unfold allE
    rw [txt_0 g1, if_neg (by simp), txs_0 (by omega) (fun y hy => (g3.2 y hy).2), if_neg (by simp), if_neg (by omega), lcl_0 g5]
  have hw : (rowsI n).all win = true := by
    rw [List.all_eq_true]
    intro r hr
    simp only [rowsI, List.mem_cons, List.mem_map] at hr
    rcases hr with rfl | rfl | ⟨x, hx, rfl⟩
    · refine win_0 fun i hi => ?_
      obtain ⟨y, hy, rfl⟩ := List.mem_map.1 hi
      exact (g3.2 y hy).1
    · refine win_0 fun i hi => ?_
      obtain ⟨y, hy, rfl⟩ := List.mem_map.1 hi
      exact (g5 y hy).1
    · refine win_0 fun i hi => ?_
      obtain ⟨y, hy, rfl⟩ := List.mem_map.1 hi
      exact ((g5 x hx).2.2 y hy).1
  unfold chk
  rw [hA, if_neg (by simp), if_neg (by simp [hw]), if_neg (by simp [hr])]
theorem VN_0 : VN default := ⟨⟨⟨uv_nil, by decide⟩, ⟨by decide, by decide, fun x h => by cases h⟩, by decide, fun x h => by cases h⟩, rfl⟩
theorem rName_v {b : List UInt8} {a : Nat} {e : Int} (h : (rName (e == 0) b a e).2.2 = 0) : e = 0 ∧ gdT (rName (e == 0) b a e).1 := by
  by_cases he : e = 0
  rotate_left
  · rw [show (e == 0) = false by simpa using he] at h
    exact absurd h he
  subst he
  refine ⟨rfl, ?_⟩
  rw [show ((0 : Int) == 0) = true from rfl] at h ⊢
  unfold rName at h ⊢
  rw [if_pos rfl] at h ⊢
  obtain ⟨c, hc⟩ : ∃ c, rCount true b a 0 64 = c := ⟨_, rfl⟩
  have hcm : c.2.2 = 0 → (c.1 : Int) ≤ 64 := fun h0 => by
    rw [← hc] at h0 ⊢
    unfold rCount at h0 ⊢
    rw [if_pos rfl] at h0 ⊢
    split at h0
    · cases h0
    · rename_i hn
      rw [if_neg hn]
      by_cases hu : (rU true 32 b a 0).2.2 = 0
      · have := fun q => hn ⟨hu, q⟩
        omega
      · exact absurd h0 hu
  rw [hc] at h ⊢
  unfold nameT at h ⊢
  split at h
  · rename_i hne; exact absurd h hne
  rename_i hz
  simp only [ne_eq, Decidable.not_not] at hz
  split at h
  · cases h
  rename_i hv
  rw [if_neg (by simp [hz]), if_neg hv]
  refine ⟨by simpa using hv, ?_⟩
  by_cases h0 : c.2.2 = 0
  · have hm := hcm h0
    rw [h0] at hz ⊢
    rw [show ((0 : Int) == 0) = true from rfl] at hz ⊢
    unfold rTake at hz ⊢
    rw [if_pos rfl] at hz ⊢
    split at hz
    · cases hz
    split at hz
    · cases hz
    rename_i q1 q2
    rw [if_neg q1, if_neg q2]
    simp only [Option.getD_some, List.length_take, Int.toNat_natCast]
    omega
  · rw [show (c.2.2 == 0) = false by simpa using h0] at hz
    exact absurd hz h0
theorem rU_v {b : List UInt8} {a : Nat} : gdI ((rU true 32 b a 0).1 : Int) := ⟨by omega, by have := rU_lt true b a 0; omega⟩
theorem gtE_v {o : List Nm} {i e : Int} (h : gtE o i e = 0) : e = 0 ∧ ¬ (o ≠ [] ∧ i ≤ lastI o) := by
  unfold gtE at h
  split at h
  · cases h
  · rename_i hn
    exact ⟨h, fun q => hn ⟨h, q.1, q.2⟩⟩
theorem gcE_v {o : List Lc} {i e : Int} (h : gcE o i e = 0) : e = 0 ∧ ¬ (o ≠ [] ∧ i ≤ lastF o) := by
  unfold gcE at h
  split at h
  · cases h
  · rename_i hn
    exact ⟨h, fun q => hn ⟨h, q.1, q.2⟩⟩
theorem gt_v {b : List UInt8} : ∀ {k : Nat} {a : Nat} {e : Int} {out : List Nm}, (e = 0 → (∀ n ∈ out, gdM n) ∧ ris (ixs out) = true) → (gt k b a e out).2.2 = 0 → e = 0 ∧ (∀ n ∈ (gt k b a e out).1, gdM n) ∧ ris (ixs (gt k b a e out).1) = true ∧ (gt k b a e out).1.length ≤ out.length + k
  | 0, a, e, out, h, hz => ⟨hz, (h hz).1, (h hz).2, Nat.le_refl _⟩
  | k + 1, a, e, out, h, hz => by
    rw [gt] at hz ⊢
    by_cases he : e = 0
    rotate_left
    · rw [if_pos he] at hz
      exact absurd hz he
    rw [if_neg (by simp [he])] at hz ⊢
    obtain ⟨o1, o2⟩ := h he
    obtain ⟨R, hR⟩ : ∃ R, rU true 32 b a 0 = R := ⟨_, rfl⟩
    have hv := rU_v (b := b) (a := a)
    rw [hR] at hz hv ⊢
    obtain ⟨T, hT⟩ : ∃ T, rName (R.2.2 == 0) b R.2.1 R.2.2 = T := ⟨_, rfl⟩
    have hn := rName_v (b := b) (a := R.2.1) (e := R.2.2)
    rw [hT] at hz hn ⊢
    obtain ⟨q1, q2, q3, q4⟩ := gt_v (k := k) (out := out ++ [⟨R.1, T.1⟩]) (fun h0 => by
      obtain ⟨p1, p2⟩ := gtE_v h0
      refine ⟨fun x hx => ?_, ?_⟩
      · rcases List.mem_append.1 hx with hx | hx
        · exact o1 x hx
        · simp only [List.mem_singleton] at hx
          subst hx
          exact ⟨hv, (hn p1).2⟩
      · rw [ris_gt (n := ⟨R.1, T.1⟩) o2]
        exact decide_eq_true p2) hz
    exact ⟨he, q2, q3, by simp only [List.length_append, List.length_singleton] at q4; omega⟩
theorem rCount_v {b : List UInt8} {a : Nat} {e most : Int} (h : (rCount (e == 0) b a e most).2.2 = 0) : e = 0 ∧ ((rCount (e == 0) b a e most).1 : Int) ≤ most := by
  by_cases he : e = 0
  rotate_left
  · rw [show (e == 0) = false by simpa using he] at h
    exact absurd h he
  subst he
  rw [show ((0 : Int) == 0) = true from rfl] at h ⊢
  refine ⟨rfl, ?_⟩
  unfold rCount at h ⊢
  rw [if_pos rfl] at h ⊢
  split at h
  · cases h
  · rename_i hn
    rw [if_neg hn]
    have := fun q => hn ⟨h, q⟩
    omega
theorem gtN_v {b : List UInt8} {a : Nat} {e most : Int} (h : (gtN b a e most).2.2 = 0) : e = 0 ∧ (∀ n ∈ (gtN b a e most).1, gdM n) ∧ ris (ixs (gtN b a e most).1) = true ∧ ((gtN b a e most).1.length : Int) ≤ most := by
  unfold gtN at h ⊢
  obtain ⟨q1, q2, q3, q4⟩ := gt_v (fun _ => ⟨fun x hx => (by cases hx), rfl⟩) h
  obtain ⟨p1, p2⟩ := rCount_v q1
  exact ⟨p1, q2, q3, by simp only [List.length_nil] at q4; omega⟩
theorem gc_v {b : List UInt8} : ∀ {k : Nat} {a : Nat} {e : Int} {out : List Lc}, (e = 0 → (∀ n ∈ out, gdLc n ∧ ris (ixs n.l) = true) ∧ ris (fxs out) = true) → (gc k b a e out).2.2 = 0 → e = 0 ∧ (∀ n ∈ (gc k b a e out).1, gdLc n ∧ ris (ixs n.l) = true) ∧ ris (fxs (gc k b a e out).1) = true ∧ (gc k b a e out).1.length ≤ out.length + k
  | 0, a, e, out, h, hz => ⟨hz, (h hz).1, (h hz).2, Nat.le_refl _⟩
  | k + 1, a, e, out, h, hz => by
    rw [gc] at hz ⊢
    by_cases he : e = 0
    rotate_left
    · rw [if_pos he] at hz
      exact absurd hz he
    rw [if_neg (by simp [he])] at hz ⊢
    obtain ⟨o1, o2⟩ := h he
    obtain ⟨R, hR⟩ : ∃ R, rU true 32 b a 0 = R := ⟨_, rfl⟩
    have hv := rU_v (b := b) (a := a)
    rw [hR] at hz hv ⊢
    obtain ⟨T, hT⟩ : ∃ T, gtN b R.2.1 (gcE out R.1 R.2.2) 72 = T := ⟨_, rfl⟩
    have hn := gtN_v (b := b) (a := R.2.1) (e := gcE out R.1 R.2.2) (most := 72)
    rw [hT] at hz hn ⊢
    obtain ⟨q1, q2, q3, q4⟩ := gc_v (k := k) (out := out ++ [⟨R.1, T.1⟩]) (fun h0 => by
      obtain ⟨p0, p3, p4, p5⟩ := hn h0
      obtain ⟨p1, p2⟩ := gcE_v p0
      refine ⟨fun x hx => ?_, ?_⟩
      · rcases List.mem_append.1 hx with hx | hx
        · exact o1 x hx
        · simp only [List.mem_singleton] at hx
          subst hx
          exact ⟨⟨hv, (show T.1.length ≤ 72 by omega), p3⟩, p4⟩
      · rw [ris_gc (n := ⟨R.1, T.1⟩) o2]
        exact decide_eq_true p2) hz
    exact ⟨he, q2, q3, by simp only [List.length_append, List.length_singleton] at q4; omega⟩
theorem gcN_v {b : List UInt8} {a : Nat} {e : Int} (h : (gcN b a e).2.2 = 0) : e = 0 ∧ (∀ n ∈ (gcN b a e).1, gdLc n ∧ ris (ixs n.l) = true) ∧ ris (fxs (gcN b a e).1) = true ∧ (gcN b a e).1.length ≤ 64 := by
  unfold gcN at h ⊢
  obtain ⟨q1, q2, q3, q4⟩ := gc_v (fun _ => ⟨fun x hx => (by cases hx), rfl⟩) h
  obtain ⟨p1, p2⟩ := rCount_v q1
  exact ⟨p1, q2, q3, by simp only [List.length_nil] at q4; omega⟩
theorem rEnd_v {x : List UInt8} {a : Nat} {e : Int} (h : rEnd true x a e = 0) : e = 0 := by
  unfold rEnd at h
  rw [if_pos rfl] at h
  split at h
  · rename_i hn; exact absurd h hn
  · rename_i hn; simpa using hn
theorem VN_e {m : List UInt8} {fs : List Nm} {ls : List Lc} : VN ⟨m, fs, ls⟩ ↔ gdT m ∧ (fs.length ≤ 64 ∧ (∀ n ∈ fs, gdM n) ∧ ris (ixs fs) = true) ∧ ls.length ≤ 64 ∧ (∀ n ∈ ls, gdLc n ∧ ris (ixs n.l) = true) ∧ ris (fxs ls) = true := by
  unfold VN gdN gdL
  simp only [rowsI, List.all_cons, Bool.and_eq_true, List.all_map, List.all_eq_true, Function.comp_apply]
  constructor
  · rintro ⟨⟨h1, ⟨h2, h3, h4⟩, h5, h6⟩, h7, h8, h9⟩
    exact ⟨h1, ⟨h2, h4, h7⟩, h5, fun x hx => ⟨h6 x hx, h9 x hx⟩, h8⟩
  · rintro ⟨h1, ⟨h2, h4, h7⟩, h5, h6, h8⟩
    exact ⟨⟨h1, ⟨h2, by omega, h4⟩, h5, fun x hx => (h6 x hx).1⟩, h7, h8, fun x hx => (h6 x hx).2⟩
theorem prtN_v {n : Ns} {id : Nat} {x : List UInt8} {e : Int} (h : VN n) (hz : (prtN n id x e).2 = 0) : VN (prtN n id x e).1 := by
  obtain ⟨m, fs, ls⟩ := n
  obtain ⟨h1, h2, h3, h4, h5⟩ := VN_e.1 h
  unfold prtN at hz ⊢
  by_cases i0 : id = 0
  · rw [if_pos i0] at hz ⊢
    exact VN_e.2 ⟨(rName_v (rEnd_v hz)).2, h2, h3, h4, h5⟩
  rw [if_neg i0] at hz ⊢
  by_cases i1 : id = 1
  · rw [if_pos i1] at hz ⊢
    obtain ⟨_, q2, q3, q4⟩ := gtN_v (rEnd_v hz)
    exact VN_e.2 ⟨h1, ⟨by omega, q2, q3⟩, h3, h4, h5⟩
  rw [if_neg i1] at hz ⊢
  obtain ⟨_, q2, q3, q4⟩ := gcN_v (rEnd_v hz)
  exact VN_e.2 ⟨h1, h2, q4, q2, q3⟩
theorem dcA_v {b : List UInt8} : ∀ {f a : Nat} {l : Int} {n : Ns}, VN n → (dcA f b a l n).2 = 0 → VN (dcA f b a l n).1
  | 0, _, _, n, h, _ => h
  | f + 1, a, l, n, h, hz => by
    rw [dcA] at hz ⊢
    split at hz
    · rename_i h0; rw [if_pos h0]; exact h
    rename_i h0
    rw [if_neg h0]
    split at hz
    · cases hz
    rename_i h1
    rw [if_neg h1]
    split at hz
    · cases hz
    rename_i h2
    rw [if_neg h2]
    split at hz
    · rename_i h3; exact absurd hz h3
    rename_i h3
    rw [if_neg h3]
    exact dcA_v (prtN_v h (by simpa using h3)) hz
theorem decA_v {b : List UInt8} (h : (decA b).2 = 0) : VN (decA b).1 := dcA_v VN_0 h
end Go.Proofs.YtoikbadfbneahaaDoor
