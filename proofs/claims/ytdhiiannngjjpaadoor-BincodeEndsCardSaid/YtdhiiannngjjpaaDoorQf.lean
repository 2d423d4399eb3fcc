/-
  Chapter 11 in plain Lean: what is written for an instruction, and what is read.
-/
import Derived.Test.YtdhiiannngjjpaaDoorQm
import Derived.Test.YtdhiiannngjjpaaDoorQe
import Derived.Test.YtdhiiannngjjpaaDoorQc
set_option linter.unusedVariables false
set_option linter.unusedSimpArgs false
set_option linter.unusedSectionVars false
set_option maxRecDepth 100000
set_option linter.unusedVariables false
namespace Go.Proofs.YtdhiiannngjjpaaDoor
open Go Go.Mw

def PL (x : Ins) : Bool := plR (rIm x.op) (rKn x.op) x
def vo (t : Int) : UInt8 × Bool := if t = 1 then (127, true) else if t = 2 then (126, true) else if t = 3 then (112, true) else if t = 4 then (111, true) else (0, false)
def ov (b : UInt8) : Int × Bool := if b = 127 then (1, true) else if b = 126 then (2, true) else if b = 112 then (3, true) else if b = 111 then (4, true) else (0, false)
def encB (k v x : Int) : List UInt8 := if k = 0 then [64] else if k = 1 then [(vo v).1] else putS x
def encO (op : Int) : List UInt8 := if op ≥ 64512 then 252 :: putU (op - 64512).toNat else [UInt8.ofNat op.toNat]
def encL (l : List Int) : List UInt8 := l.flatMap fun n => putU n.toNat
def encM (i : Int) (x : Ins) : List UInt8 :=
  if i = 1 then encB x.k x.v x.x else
  if i = 3 then putU x.lb.length ++ encL x.lb ++ putU x.a.toNat else
  if i = 5 ∨ i = 10 ∨ i = 11 ∨ i = 14 ∨ i = 15 then putU x.a.toNat ++ putU x.b.toNat else
  if i = 6 then putU 1 ++ [(vo (nth x.ty 0)).1] else
  if i = 13 then putU x.b.toNat else
  if i = 17 then (if x.b = 0 then putU x.a.toNat else putU (x.a + 64).toNat ++ putU x.b.toNat) ++ putU x.n.toNat else
  if i = 18 then putS (s32 x.n) else
  if i = 19 then putS (IntKind.i64.wrap x.n) else
  if i = 20 then [(vo x.a).1] else
  if i = 0 then [] else putU x.a.toNat
def encI (x : Ins) : List UInt8 := encO x.op ++ encM (rIm x.op) x
def pPut (x : Ins) (l : List UInt8) (e : Int) : List UInt8 × Int :=
  if PL x = true then (if rIm x.op = 3 ∧ 4294967296 ≤ x.lb.length then (wB (e == 0) l (encO x.op), if e = 0 then 1 else e) else (wB (e == 0) l (encI x), e)) else (l, if e = 0 then 10 else e)
def pPuts : List Ins → List UInt8 → Int → List UInt8 × Int
  | [], l, e => (l, e)
  | x :: r, l, e => pPuts r (pPut x l e).1 (pPut x l e).2

/-! ### Reading -/
abbrev Rd (α : Type) := Except (Int × Nat) (α × Nat)
def gB (b : List UInt8) (a : Nat) : Rd UInt8 := if a < b.length then .ok (nth b a, a + 1) else .error (3, a)
def gU (b : List UInt8) (a : Nat) : Rd Nat := if (decU (b.drop a) 32).2.2 = 0 then .ok ((decU (b.drop a) 32).1, a + (decU (b.drop a) 32).2.1) else .error ((decU (b.drop a) 32).2.2, a)
def gS (bits : Nat) (b : List UInt8) (a : Nat) : Rd Int := if (decS (b.drop a) bits).2.2 = 0 then .ok ((decS (b.drop a) bits).1, a + (decS (b.drop a) bits).2.1) else .error ((decS (b.drop a) bits).2.2, a)
def gC (b : List UInt8) (a : Nat) (most : Int) : Rd Nat := match gU b a with
  | .ok (n, k) => if (n : Int) > most then .error (6, a) else .ok (n, k)
  | .error e => .error e
def gV (b : List UInt8) (a : Nat) : Rd Int := match gB b a with
  | .ok (x, k) => if (ov x).2 = true then .ok ((ov x).1, k) else .error (4, k)
  | .error e => .error e
def gK (b : List UInt8) (a : Nat) : Rd (Int × Int × Int) := match gS 33 b a with
  | .ok (n, k) => if n = -64 then .ok ((0, 0, 0), k) else if n ≥ 0 then .ok ((2, 0, n), k) else
      if n ≥ -17 ∧ (ov (UInt8.ofNat (n + 128).toNat)).2 = true then .ok ((1, (ov (UInt8.ofNat (n + 128).toNat)).1, 0), k) else .error (4, k)
  | .error e => .error e
def gO (b : List UInt8) (a : Nat) : Rd Int := match gB b a with
  | .ok (x, k) => if x = 252 then (match gU b k with
      | .ok (n, k') => if rKn (64512 + n) = true then .ok (64512 + n, k') else .error (10, k')
      | .error e => .error e) else if rKn x.toNat = true then .ok ((x.toNat : Int), k) else .error (10, k)
  | .error e => .error e
def gL : Nat → List UInt8 → Nat → Rd (List Int)
  | 0, _, a => .ok ([], a)
  | n + 1, b, a => match gU b a with
    | .ok (x, k) => (match gL n b k with
      | .ok (l, k') => .ok ((x : Int) :: l, k')
      | .error e => .error e)
    | .error e => .error e
def gA (b : List UInt8) (a : Nat) : Rd (Int × Int × Int) := match gU b a with
  | .ok (x, k) => if x ≥ 128 then .error (4, k) else if x ≥ 64 then (match gU b k with
      | .ok (y, k1) => (match gU b k1 with
        | .ok (z, k2) => .ok (((x : Int) - 64, (y : Int), (z : Int)), k2)
        | .error e => .error e)
      | .error e => .error e) else (match gU b k with
      | .ok (z, k2) => .ok (((x : Int), 0, (z : Int)), k2)
      | .error e => .error e)
  | .error e => .error e
def z0 : Ins := ⟨0, 0, 0, 0, 0, 0, 0, [], []⟩
def gM (i : Int) (b : List UInt8) (a : Nat) : Rd Ins :=
  if i = 1 then (match gK b a with
    | .ok ((k, v, x), a1) => .ok ({ z0 with k := k, v := v, x := x }, a1)
    | .error e => .error e) else
  if i = 3 then (match gC b a 64 with
    | .ok (n, a1) => (match gL n b a1 with
      | .ok (l, a2) => (match gU b a2 with
        | .ok (x, a3) => .ok ({ z0 with a := x, lb := l }, a3)
        | .error e => .error e)
      | .error e => .error e)
    | .error e => .error e) else
  if i = 5 ∨ i = 10 ∨ i = 11 ∨ i = 14 ∨ i = 15 then (match gU b a with
    | .ok (x, a1) => (match gU b a1 with
      | .ok (y, a2) => .ok ({ z0 with a := x, b := y }, a2)
      | .error e => .error e)
    | .error e => .error e) else
  if i = 6 then (match gU b a with
    | .ok (x, a1) => if x = 1 then (match gV b a1 with
      | .ok (t, a2) => .ok ({ z0 with ty := [t] }, a2)
      | .error e => .error e) else .error (4, a1)
    | .error e => .error e) else
  if i = 13 then (match gU b a with
    | .ok (x, a1) => .ok ({ z0 with b := x }, a1)
    | .error e => .error e) else
  if i = 17 then (match gA b a with
    | .ok ((x, y, z), a1) => .ok ({ z0 with a := x, b := y, n := z }, a1)
    | .error e => .error e) else
  if i = 18 then (match gS 32 b a with
    | .ok (n, a1) => .ok ({ z0 with n := IntKind.u64.wrap (IntKind.u32.wrap n) }, a1)
    | .error e => .error e) else
  if i = 19 then (match gS 64 b a with
    | .ok (n, a1) => .ok ({ z0 with n := IntKind.u64.wrap n }, a1)
    | .error e => .error e) else
  if i = 20 then (match gV b a with
    | .ok (t, a1) => if t = 3 ∨ t = 4 then .ok ({ z0 with a := t }, a1) else .error (12, a1)
    | .error e => .error e) else
  if i = 0 then .ok (z0, a) else (match gU b a with
    | .ok (x, a1) => .ok ({ z0 with a := x }, a1)
    | .error e => .error e)
def gI (b : List UInt8) (a : Nat) : Rd Ins := match gO b a with
  | .ok (op, k) => (match gM (rIm op) b k with
    | .ok (x, k') => .ok ({ x with op := op }, k')
    | .error e => .error e)
  | .error e => .error e
def gE : Nat → Nat → List UInt8 → Nat → Int → Rd (List Ins)
  | 0, _, _, a, _ => .error (6, a)
  | f + 1, deep, b, a, most => if most ≤ 0 then .error (6, a) else match gI b a with
    | .error e => .error e
    | .ok (x, k) =>
      if x.op = 11 ∧ deep = 1 then .ok ([x], k) else match gE f (if x.op = 2 ∨ x.op = 3 ∨ x.op = 4 then deep + 1 else if x.op = 11 then deep - 1 else deep) b k (most - 1) with
        | .ok (l, k') => .ok (x :: l, k')
        | .error e => .error e

/-! ### The readers' steps, as they lie in chapter 2 -/
theorem rByte_g (b : List UInt8) (a : Nat) : (∃ x, gB b a = .ok (x, a + 1) ∧ rByte true b a 0 = (x, a + 1, 0) ∧ a + 1 ≤ b.length) ∨ (gB b a = .error (3, a) ∧ rByte true b a 0 = (0, a, 3)) := by
  unfold gB rByte
  by_cases h : a < b.length
  · rw [if_pos h, if_pos rfl, if_neg (by omega)]; exact .inl ⟨_, rfl, rfl, h⟩
  · rw [if_neg h, if_pos rfl, if_pos (by omega)]; exact .inr ⟨rfl, rfl⟩
theorem rU_g {b : List UInt8} {a : Nat} (ha : a ≤ b.length) : (∃ n k, gU b a = .ok (n, k) ∧ rU true 32 b a 0 = (n, k, 0) ∧ n < 4294967296 ∧ k ≤ b.length) ∨ ∃ e, e ≠ 0 ∧ gU b a = .error (e, a) ∧ rU true 32 b a 0 = (0, a, e) := by
  have h1 := decU_lt (b.drop a) 32 (by decide)
  have h2 := decU_k (b.drop a) 32
  simp only [List.length_drop] at h2
  unfold gU rU
  by_cases h : (decU (b.drop a) 32).2.2 = 0
  · rw [if_pos h, if_pos rfl, if_neg (by simp [h])]; exact .inl ⟨_, _, rfl, rfl, h1, by omega⟩
  · rw [if_neg h, if_pos rfl, if_pos h]; exact .inr ⟨_, h, rfl, rfl⟩
theorem rS_g {b : List UInt8} {a : Nat} (bits : Nat) (ha : a ≤ b.length) : (∃ n k, gS bits b a = .ok (n, k) ∧ rS true bits b a 0 = (n, k, 0) ∧ k ≤ b.length) ∨ ∃ e, e ≠ 0 ∧ gS bits b a = .error (e, a) ∧ rS true bits b a 0 = (0, a, e) := by
  have h2 := decS_k (b.drop a) bits
  simp only [List.length_drop] at h2
  unfold gS rS
  by_cases h : (decS (b.drop a) bits).2.2 = 0
  · rw [if_pos h, if_pos rfl, if_neg (by simp [h])]; exact .inl ⟨_, _, rfl, rfl, by omega⟩
  · rw [if_neg h, if_pos rfl, if_pos h]; exact .inr ⟨_, h, rfl, rfl⟩
theorem rCount_g {b : List UInt8} {a : Nat} (most : Int) (ha : a ≤ b.length) : (∃ n k, gC b a most = .ok (n, k) ∧ rCount true b a 0 most = (n, k, 0) ∧ (n : Int) ≤ most ∧ n < 4294967296 ∧ k ≤ b.length) ∨ ∃ e, e ≠ 0 ∧ gC b a most = .error (e, a) ∧ rCount true b a 0 most = (0, a, e) := by
  unfold gC rCount
  rcases rU_g ha with ⟨n, k, h1, h2, h3, h4⟩ | ⟨e, he, h1, h2⟩
  · rw [h1, h2, if_pos rfl]
    by_cases h : (n : Int) > most
    · exact .inr ⟨6, by decide, if_pos h, if_pos ⟨rfl, h⟩⟩
    · exact .inl ⟨n, k, if_neg h, if_neg (fun q => h q.2), by omega, h3, h4⟩
  · rw [h1, h2, if_pos rfl]
    exact .inr ⟨e, he, rfl, if_neg (fun q => he q.1)⟩
theorem rByte_f (b : List UInt8) (a : Nat) (e : Int) : rByte false b a e = (0, a, e) := rfl
theorem rU_f (bits : Nat) (b : List UInt8) (a : Nat) (e : Int) : rU false bits b a e = (0, a, e) := rfl
end Go.Proofs.YtdhiiannngjjpaaDoor
set_option linter.unusedSimpArgs false
set_option maxRecDepth 100000
set_option maxHeartbeats 4000000
set_option linter.unusedVariables false
set_option linter.unusedSectionVars false
namespace Go.Proofs.YtdhiiannngjjpaaDoor
open Go Go.Mw
-- @U: wx, slv_none, slv_some

def wx (l : List UInt8) (e : Int) : AV := .agg [.sl 1 (l.map by_), .int .i64 e]
section
variable (l : List UInt8) (e : Int) (hl : l.length < 45000000000)
include hl
end
end Go.Proofs.YtdhiiannngjjpaaDoor
set_option maxRecDepth 100000
set_option maxHeartbeats 8000000
set_option linter.unusedVariables false
set_option linter.unusedSimpArgs false
namespace Go.Proofs.YtdhiiannngjjpaaDoor
open Go Go.Mw
-- @U: ro, wo, wa, wx, rx

theorem vaB_vo (t : Int) : (vo t).2 = vaB t := by
  by_cases h : t = 1 ∨ t = 2 ∨ t = 3 ∨ t = 4
  · rcases h with rfl | rfl | rfl | rfl <;> rfl
  · have : vaB t = false := by simp only [vaB, Bool.and_eq_false_iff, decide_eq_false_iff_not]; omega
    rw [this]
    unfold vo
    rw [if_neg (by omega), if_neg (by omega), if_neg (by omega), if_neg (by omega)]
theorem s_tbyte (t : Int) : PCalls Tryd.prog n_types_Byte [.int .i64 t] (.tup [.int .u8 (vo t).1.toNat, .bool (vo t).2]) := by
  refine pfun_sound (ic := F_types_Byte.body) mixed c_types_Byte rfl rfl ?_
  by_cases h : t = 1 ∨ t = 2 ∨ t = 3 ∨ t = 4
  · rcases h with rfl | rfl | rfl | rfl
    all_goals
      simp only [go_sem, ro, wo, wa, wx, rx, F_types_Byte]
      exact pdone [] (by rfl) rfl
  · have h1 : (t == 1) = false := beq_eq_false_iff_ne.2 (by omega)
    have h2 : (t == 2) = false := beq_eq_false_iff_ne.2 (by omega)
    have h3 : (t == 3) = false := beq_eq_false_iff_ne.2 (by omega)
    have h4 : (t == 4) = false := beq_eq_false_iff_ne.2 (by omega)
    have e : vo t = (0, false) := by unfold vo; rw [if_neg (by omega), if_neg (by omega), if_neg (by omega), if_neg (by omega)]
    rw [e]
    simp only [go_sem, ro, wo, wa, wx, rx, F_types_Byte, h1, h2, h3, h4]
    exact pdone [] (by rfl) rfl
def loT (b : UInt8) (k : Nat) : Prop := ∀ t : Int, 1 ≤ t → t < k → (vo t).1 ≠ b
theorem ov_at {b : UInt8} {t : Int} (ht : 1 ≤ t ∧ t ≤ 4) (h : (vo t).1 = b) : ov b = (t, true) := by
  subst h
  rcases (show t = 1 ∨ t = 2 ∨ t = 3 ∨ t = 4 by omega) with rfl | rfl | rfl | rfl <;> rfl
theorem ov_no {b : UInt8} (h : loT b 5) : ov b = (0, false) := by
  have h1 := h 1 (by decide) (by decide)
  have h2 := h 2 (by decide) (by decide)
  have h3 := h 3 (by decide) (by decide)
  have h4 := h 4 (by decide) (by decide)
  unfold ov
  rw [if_neg (fun e => h1 e.symm), if_neg (fun e => h2 e.symm), if_neg (fun e => h3 e.symm), if_neg (fun e => h4 e.symm)]
theorem u8_beq (x y : UInt8) : (((x.toNat : Nat) : Int) == ((y.toNat : Nat) : Int)) = (x == y) := by
  by_cases h : x = y
  · subst h; simp
  · have : ¬ ((x.toNat : Nat) : Int) = ((y.toNat : Nat) : Int) := fun e => h (UInt8.toNat_inj.1 (by omega))
    rw [beq_eq_false_iff_ne.2 this, beq_eq_false_iff_ne.2 h]
theorem s_tofb (b : UInt8) : PCalls Tryd.prog n_types_OfByte [.int .u8 b.toNat] (.tup [.int .i64 (ov b).1, .bool (ov b).2]) := by
  refine pfun_sound (ic := F_types_OfByte.body) mixed c_types_OfByte rfl rfl ?_
  simp only [go_sem, ro, wo, wa, wx, rx, F_types_OfByte]
  refine loop_rule (fun k : Nat => ⟨[(0, .int .u8 b.toNat), (4, .int .i64 k)], []⟩) (fun k => 1 ≤ k ∧ k ≤ 5 ∧ loT b k) (fun k => 5 - k) 1 ⟨by decide, by decide, fun t h1 h2 => by omega⟩ (Wk.of ?_ ?_) ?_
  · simp only [go_sem, ro, wo, wa, wx, rx]; try simp
  · simp only [go_sem, ro, wo, wa, wx, rx]
  rintro k ⟨k1, k2, hk⟩
  by_cases h : k = 5
  · have hd : decide ((k : Int) ≤ 4) = false := decide_eq_false (by omega)
    subst h
    rw [ov_no hk]
    simp only [go_sem, ro, wo, wa, wx, rx, hd]
    exact pdone [] (by rfl) rfl
  · have hd : decide ((k : Int) ≤ 4) = true := decide_eq_true (by omega)
    have e8 := wi (n := (k : Int) + 1) (by omega) (by omega)
    simp only [go_sem, ro, wo, wa, wx, rx, hd]
    refine call_same (s_tbyte (k : Int)) (by simp [go_sem, ro, wo, wa, wx, rx]) ?_
    have hb := u8_beq (vo (k : Int)).1 b
    simp only [go_sem, ro, wo, wa, wx, rx, hb]
    cases hq : ((vo (k : Int)).1 == b)
    · simp only [go_sem, ro, wo, wa, wx, rx, hq]
      refine klp_n (k + 1) ⟨by omega, by omega, fun t h1 h2 => ?_⟩ (show 5 - (k + 1) < 5 - k by omega) (Wk.of ?_ ?_)
      · by_cases e : t = k
        · subst e; exact beq_eq_false_iff_ne.1 hq
        · exact hk t h1 (by omega)
      · simp only [go_sem, ro, wo, wa, wx, rx, e8]
        try simp
      · simp only [go_sem, ro, wo, wa, wx, rx]
    · have e := ov_at (b := b) (t := (k : Int)) ⟨by omega, by omega⟩ (by simpa using hq)
      rw [e]
      simp only [go_sem, ro, wo, wa, wx, rx, hq]
      exact pdone [] (by rfl) rfl
end Go.Proofs.YtdhiiannngjjpaaDoor
set_option maxRecDepth 100000
set_option maxHeartbeats 8000000
set_option linter.unusedVariables false
set_option linter.unusedSimpArgs false
namespace Go.Proofs.YtdhiiannngjjpaaDoor
open Go Go.Mw
-- @U: ro, wo, wa, wx, rx

theorem s_tnum (t : Int) : PCalls Tryd.prog n_types_Num [.int .i64 t] (.bool (t == 1 || t == 2)) := by
  refine pfun_sound (ic := F_types_Num.body) mixed c_types_Num rfl rfl ?_
  simp only [go_sem, ro, wo, wa, wx, rx, F_types_Num]
  refine ⟨fun h => ?_, fun h => ?_⟩
  · rw [h, Bool.true_or]
    exact pdone [] (by rfl) rfl
  · rw [h, Bool.false_or]
    exact pdone [] (by rfl) rfl
theorem s_tref (t : Int) : PCalls Tryd.prog n_types_Ref [.int .i64 t] (.bool (t == 3 || t == 4)) := by
  refine pfun_sound (ic := F_types_Ref.body) mixed c_types_Ref rfl rfl ?_
  simp only [go_sem, ro, wo, wa, wx, rx, F_types_Ref]
  refine ⟨fun h => ?_, fun h => ?_⟩
  · rw [h, Bool.true_or]
    exact pdone [] (by rfl) rfl
  · rw [h, Bool.false_or]
    exact pdone [] (by rfl) rfl
theorem vaB_or (t : Int) : ((t == 1 || t == 2) || (t == 3 || t == 4)) = vaB t := by
  rw [Bool.eq_iff_iff]
  simp only [vaB, Bool.or_eq_true, beq_iff_eq, Bool.and_eq_true, decide_eq_true_eq]
  omega
theorem s_tval (t : Int) : PCalls Tryd.prog n_types_Val [.int .i64 t] (.bool (vaB t)) := by
  refine pfun_sound (ic := F_types_Val.body) mixed c_types_Val rfl rfl ?_
  rw [← vaB_or]
  simp only [go_sem, ro, wo, wa, wx, rx, F_types_Val]
  refine call_same (s_tnum t) (by simp [go_sem, ro, wo, wa, wx, rx]) ?_
  cases h : (t == 1 || t == 2)
  · rw [Bool.false_or]
    simp only [go_sem, ro, wo, wa, wx, rx]
    refine call_same (s_tref t) (by simp [go_sem, ro, wo, wa, wx, rx]) ?_
    simp only [go_sem, ro, wo, wa, wx, rx]
    exact pdone [] (by rfl) rfl
  · rw [Bool.true_or]
    simp only [go_sem, ro, wo, wa, wx, rx]
    exact pdone [] (by rfl) rfl
section
variable {l : List UInt8} {e : Int} (hl : l.length < 40000000000)
include hl
theorem s_putval (t : Int) (h : vaB t = true) : WM n_bintype_PutVal [.int .i64 t] true l e (.tup []) (wB (e == 0) l [(vo t).1]) e := by
  refine fun_sound (ic := F_bintype_PutVal.body) mixed c_bintype_PutVal rfl rfl ?_
  simp only [go_sem, ro, wo, wa, wx, rx, F_bintype_PutVal]
  refine call_same (s_tbyte t) (by simp [go_sem, ro, wo, wa, wx, rx]) ?_
  have h2 := vaB_vo t
  rw [h] at h2
  simp only [go_sem, ro, wo, wa, wx, rx, h2]
  refine call_w [] (k := 1000) (j := 2000) (s_wbyte true l (vo t).1 e (by omega)) (by decide) (by decide) (by decide) (by decide) (by first | rfl | simp [go_sem, slv_ids, ro, wo, wa, wx, rx]) (by simp [go_sem, ro, wo, wa, wx, rx]) (by rfl) (by rfl) (by rfl) ?_
  simp only [go_sem, ro, wo, wa, wx, rx, Bool.true_and]
  exact done_n [] _ [(1000, wo 2000 true (wB (e == 0) l [(vo t).1]) e), (2000, wa (wB (e == 0) l [(vo t).1]))] (by simp only [go_sem, ro, wo, wa, wx, rx]) (by simp only [go_sem, ro, wo, wa, wx, rx]) rfl ⟨rfl, rfl⟩
theorem s_putblock (k v x : Int) (h : blB k v x = true) : WM n_bintype_PutBlock [.agg [.int .i64 k, .int .i64 v, .int .i64 x]] true l e (.tup []) (wB (e == 0) l (encB k v x)) e := by
  refine fun_sound (ic := F_bintype_PutBlock.body) mixed c_bintype_PutBlock rfl rfl ?_
  unfold blB at h
  unfold encB
  by_cases h0 : k = 0
  · subst h0
    simp only [if_true, Bool.and_eq_true, beq_iff_eq] at h ⊢
    obtain ⟨rfl, rfl⟩ := h
    simp only [go_sem, ro, wo, wa, wx, rx, F_bintype_PutBlock]
    refine call_w [] (k := 1000) (j := 2000) (s_wbyte true l 64 e (by omega)) (by decide) (by decide) (by decide) (by decide) (by first | rfl | simp [go_sem, slv_ids, ro, wo, wa, wx, rx]) (by simp [go_sem, ro, wo, wa, wx, rx]) (by rfl) (by rfl) (by rfl) ?_
    simp only [go_sem, ro, wo, wa, wx, rx, Bool.true_and]
    exact done_n [] _ [(1000, wo 2000 true (wB (e == 0) l [64]) e), (2000, wa (wB (e == 0) l [64]))] (by simp only [go_sem, ro, wo, wa, wx, rx]) (by simp only [go_sem, ro, wo, wa, wx, rx]) rfl ⟨rfl, rfl⟩
  · simp only [h0, if_false] at h ⊢
    by_cases h1 : k = 1
    · subst h1
      simp only [if_true, Bool.and_eq_true, beq_iff_eq] at h ⊢
      obtain ⟨h, rfl⟩ := h
      simp only [go_sem, ro, wo, wa, wx, rx, F_bintype_PutBlock]
      refine call_same (s_tval v) (by simp [go_sem, ro, wo, wa, wx, rx]) ?_
      simp only [go_sem, ro, wo, wa, wx, rx, h]
      refine call_w [] (k := 1000) (j := 2000) (s_putval hl v h) (by decide) (by decide) (by decide) (by decide) (by first | rfl | simp [go_sem, slv_ids, ro, wo, wa, wx, rx]) (by simp [go_sem, ro, wo, wa, wx, rx]) (by rfl) (by rfl) (by rfl) ?_
      simp only [go_sem, ro, wo, wa, wx, rx]
      exact done_n [] _ [(1000, wo 2000 true (wB (e == 0) l [(vo v).1]) e), (2000, wa (wB (e == 0) l [(vo v).1]))] (by simp only [go_sem, ro, wo, wa, wx, rx]) (by simp only [go_sem, ro, wo, wa, wx, rx]) rfl ⟨rfl, rfl⟩
    · simp only [h1, if_false] at h ⊢
      by_cases h2 : k = 2
      · subst h2
        simp only [if_true, Bool.and_eq_true, beq_iff_eq, ixB, decide_eq_true_eq] at h
        obtain ⟨rfl, g1, g2⟩ := h
        simp only [go_sem, ro, wo, wa, wx, rx, F_bintype_PutBlock, decide_eq_true g1, decide_eq_true (show x ≤ 4294967295 by omega)]
        have r : wS33 (true && e == 0) l e x = (wB (e == 0) l (putS x), e) := by
          unfold wS33; rw [if_neg (by omega)]; rfl
        have hx := s_wS33 true l e (by omega) x (by unfold inI; omega)
        rw [r] at hx
        refine call_w [] (k := 1000) (j := 2000) (hx) (by decide) (by decide) (by decide) (by decide) (by first | rfl | simp [go_sem, slv_ids, ro, wo, wa, wx, rx]) (by simp [go_sem, ro, wo, wa, wx, rx]) (by rfl) (by rfl) (by rfl) ?_
        simp only [go_sem, ro, wo, wa, wx, rx]
        exact done_n [] _ [(1000, wo 2000 true (wB (e == 0) l (putS x)) e), (2000, wa (wB (e == 0) l (putS x)))] (by simp only [go_sem, ro, wo, wa, wx, rx]) (by simp only [go_sem, ro, wo, wa, wx, rx]) rfl ⟨rfl, rfl⟩
      · simp only [h2, if_false] at h
        cases h
end
variable {l : List UInt8} {e : Int} (hl : l.length < 40000000000)
include hl
end Go.Proofs.YtdhiiannngjjpaaDoor
set_option maxRecDepth 100000
set_option maxHeartbeats 8000000
set_option linter.unusedVariables false
set_option linter.unusedSimpArgs false
namespace Go.Proofs.YtdhiiannngjjpaaDoor
open Go Go.Mw
-- @U: ro, wo, wa, wx, rx

def Out {α : Type} (b : List UInt8) (res : Rd α) (d : α) (q : α × Nat × Int) : Prop :=
  q.2.1 ≤ b.length ∧ ((∃ x k, res = .ok (x, k) ∧ q = (x, k, 0)) ∨ ∃ e, res = .error (e, q.2.1) ∧ e ≠ 0 ∧ q.1 = d ∧ q.2.2 = e)
def RX {α : Type} (f : FuncId) (rest : List AV) (b : List UInt8) (a : Nat) (res : Rd α) (d : α) (av : α → AV) : Prop :=
  ACalls Tryd.prog f (.mp 1000 4 0 0 :: rest) [(1000, ro true b a 0)] sb (fun r' σ' => ∃ q, Out b res d q ∧ r' = av q.1 ∧ σ' = [(1000, ro true b (q.2.1 : Nat) q.2.2)])
def QX {α : Type} (f : FuncId) (rest : List AV) (b : List UInt8) (a : Nat) (res : Rd α) (d : α) (av : α → AV) : Prop :=
  ACalls Tryd.prog f (rx b a 0 :: rest) [] sb (fun r' σ' => ∃ q, Out b res d q ∧ r' = .tup [rx b (q.2.1 : Nat) q.2.2, av q.1] ∧ σ' = [])
theorem Out.ok {α : Type} {b : List UInt8} {res : Rd α} {d x : α} {k : Nat} (h : res = .ok (x, k)) (hk : k ≤ b.length) : Out b res d (x, k, 0) := ⟨hk, .inl ⟨x, k, h, rfl⟩⟩
theorem Out.er {α : Type} {b : List UInt8} {res : Rd α} {d : α} {e : Int} {k : Nat} (h : res = .error (e, k)) (he : e ≠ 0) (hk : k ≤ b.length) : Out b res d (d, k, e) := ⟨hk, .inr ⟨e, h, he, rfl, rfl⟩⟩
theorem tt0 : (true && (0 : Int) == 0) = true := rfl
theorem e_f {e : Int} (h : e ≠ 0) : (e == 0) = false := beq_eq_false_iff_ne.2 h
theorem e_t {e : Int} (h : e ≠ 0) : (e != 0) = true := by simp [h]
variable {b : List UInt8} {a : Nat} (ha : a ≤ b.length) (hb : b.length < 1000000000)
include ha hb
theorem s_getval : RX n_bintype_GetVal [] b a (gV b a) 0 (.int .i64) := by
  refine fun_sound (ic := F_bintype_GetVal.body) mixed c_bintype_GetVal rfl rfl ?_
  simp only [go_sem, ro, wo, wa, wx, rx, F_bintype_GetVal]
  refine call_m (s_byte true b a 0 ha hb) ⟨by decide, by decide⟩ (by first | rfl | exact slv_ids _) (by simp [go_sem, ro, wo, wa, wx, rx]) rfl rfl (by rfl) ?_
  rcases rByte_g b a with ⟨x, h1, h2, h3⟩ | ⟨h1, h2⟩
  · simp only [go_sem, ro, wo, wa, wx, rx, tt0, h2]
    refine call_m (s_err true b ((a + 1 : Nat) : Int) 0) ⟨by decide, by decide⟩ (by first | rfl | exact slv_ids _) (by simp [go_sem, ro, wo, wa, wx, rx]) rfl rfl (by rfl) ?_
    simp only [go_sem, ro, wo, wa, wx, rx]
    refine call_same (s_tofb x) (by simp [go_sem, ro, wo, wa, wx, rx]) ?_
    cases hx : (ov x).2
    · simp only [go_sem, ro, wo, wa, wx, rx]
      refine call_m (s_fail_ok b ((a + 1 : Nat) : Int) 4) ⟨by decide, by decide⟩ (by first | rfl | exact slv_ids _) (by simp [go_sem, ro, wo, wa, wx, rx]) rfl rfl (by rfl) ?_
      simp only [go_sem, ro, wo, wa, wx, rx]
      refine done [] _ [(1000, ro true b ((a + 1 : Nat) : Int) 4)] (by simp only [go_sem, ro, wo, wa, wx, rx]) (by simp only [go_sem, ro, wo, wa, wx, rx]) rfl ⟨(0, a + 1, 4), Out.er ?_ (by decide) h3, rfl, rfl⟩
      simp only [gV, h1, hx, Bool.false_eq_true, if_false]
    · simp only [go_sem, ro, wo, wa, wx, rx]
      refine done [] _ [(1000, ro true b ((a + 1 : Nat) : Int) 0)] (by simp only [go_sem, ro, wo, wa, wx, rx]) (by simp only [go_sem, ro, wo, wa, wx, rx]) rfl ⟨((ov x).1, a + 1, 0), Out.ok ?_ h3, rfl, rfl⟩
      simp only [gV, h1, hx, if_true]
  · simp only [go_sem, ro, wo, wa, wx, rx, tt0, h2]
    refine call_m (s_err true b a 3) ⟨by decide, by decide⟩ (by first | rfl | exact slv_ids _) (by simp [go_sem, ro, wo, wa, wx, rx]) rfl rfl (by rfl) ?_
    simp only [go_sem, ro, wo, wa, wx, rx]
    refine done [] _ [(1000, ro true b a 3)] (by simp only [go_sem, ro, wo, wa, wx, rx]) (by simp only [go_sem, ro, wo, wa, wx, rx]) rfl ⟨(0, a, 3), Out.er ?_ (by decide) ha, rfl, rfl⟩
    simp only [gV, h1]
end Go.Proofs.YtdhiiannngjjpaaDoor
set_option maxRecDepth 100000
set_option maxHeartbeats 8000000
set_option linter.unusedVariables false
set_option linter.unusedSimpArgs false
namespace Go.Proofs.YtdhiiannngjjpaaDoor
open Go Go.Mw
-- @U: ro, wo, wa, wx, rx, bk_e

def bk_ (q : Int × Int × Int) : AV := .agg [.int .i64 q.1, .int .i64 q.2.1, .int .i64 q.2.2]
theorem bk_e (q : Int × Int × Int) : bk_ q = .agg [.int .i64 q.1, .int .i64 q.2.1, .int .i64 q.2.2] := rfl
theorem decS33 (b : List UInt8) : -9223372036854775808 ≤ (decS b 33).1 ∧ (decS b 33).1 < 9223372036854775808 := by
  unfold decS
  split
  · exact ⟨(by decide : (-9223372036854775808 : Int) ≤ 0), (by decide : (0 : Int) < 9223372036854775808)⟩
  split
  · exact ⟨(by decide : (-9223372036854775808 : Int) ≤ 0), (by decide : (0 : Int) < 9223372036854775808)⟩
  · simp only [sgn]
    rw [w_i64]
    omega
theorem rS33_g {b : List UInt8} {a : Nat} (ha : a ≤ b.length) : (∃ n k, gS 33 b a = .ok (n, k) ∧ rS true 33 b a 0 = (n, k, 0) ∧ k ≤ b.length ∧ -9223372036854775808 ≤ n ∧ n < 9223372036854775808) ∨ ∃ e, e ≠ 0 ∧ gS 33 b a = .error (e, a) ∧ rS true 33 b a 0 = (0, a, e) := by
  rcases rS_g 33 ha with ⟨n, k, h1, h2, h3⟩ | h
  · refine .inl ⟨n, k, h1, h2, h3, ?_⟩
    unfold gS at h1
    split at h1
    · cases h1; exact decS33 _
    · cases h1
  · exact .inr h
theorem u8_wr {n : Int} (h : -17 ≤ n ∧ n < 0) : IntKind.u8.wrap (n + 128) = (((UInt8.ofNat (n + 128).toNat).toNat : Nat) : Int) := by
  rw [ofNat_toNat (by omega), w_u8]
  omega
variable {b : List UInt8} {a : Nat} (ha : a ≤ b.length) (hb : b.length < 1000000000)
include ha hb
theorem s_getblock : RX n_bintype_GetBlock [] b a (gK b a) (0, 0, 0) bk_ := by
  refine fun_sound (ic := F_bintype_GetBlock.body) mixed c_bintype_GetBlock rfl rfl ?_
  simp only [go_sem, ro, wo, wa, wx, rx, bk_e, F_bintype_GetBlock]
  refine call_m (s_S33 true b a 0 ha hb) ⟨by decide, by decide⟩ (by first | rfl | exact slv_ids _) (by simp [go_sem, ro, wo, wa, wx, rx, bk_e]) rfl rfl (by rfl) ?_
  rcases rS33_g ha with ⟨n, k, h1, h2, h3, h4, h5⟩ | ⟨e, he, h1, h2⟩
  · simp only [go_sem, ro, wo, wa, wx, rx, bk_e, tt0, h2]
    refine call_m (s_err true b k 0) ⟨by decide, by decide⟩ (by first | rfl | exact slv_ids _) (by simp [go_sem, ro, wo, wa, wx, rx, bk_e]) rfl rfl (by rfl) ?_
    by_cases hn : n = -64
    · subst hn
      simp only [go_sem, ro, wo, wa, wx, rx, bk_e]
      refine done [] _ [(1000, ro true b k 0)] (by simp only [go_sem, ro, wo, wa, wx, rx, bk_e]) (by simp only [go_sem, ro, wo, wa, wx, rx, bk_e]) rfl ⟨((0, 0, 0), k, 0), Out.ok ?_ h3, rfl, rfl⟩
      simp only [gK, h1, if_true]
    have hn' := beq_eq_false_iff_ne.2 hn
    by_cases h0 : n ≥ 0
    · simp only [go_sem, ro, wo, wa, wx, rx, bk_e, hn', decide_eq_true h0]
      refine done [] _ [(1000, ro true b k 0)] (by simp only [go_sem, ro, wo, wa, wx, rx, bk_e]) (by simp only [go_sem, ro, wo, wa, wx, rx, bk_e]) rfl ⟨((2, 0, n), k, 0), Out.ok ?_ h3, rfl, rfl⟩
      simp only [gK, h1, if_neg hn, if_pos h0]
    by_cases h17 : n ≥ -17
    · have w1 : IntKind.i64.wrap (n + 128) = n + 128 := wi (by omega) (by omega)
      have w2 := u8_wr ⟨h17, Int.not_le.1 h0⟩
      generalize hy : UInt8.ofNat (n + 128).toNat = y at *
      simp only [go_sem, ro, wo, wa, wx, rx, bk_e, hn', decide_eq_false h0, decide_eq_true h17, w1, w2]
      refine call_same (s_tofb y) (by simp [go_sem, ro, wo, wa, wx, rx, bk_e]) ?_
      cases hx : (ov y).2
      · simp only [go_sem, ro, wo, wa, wx, rx, bk_e]
        refine call_m (s_fail_ok b k 4) ⟨by decide, by decide⟩ (by first | rfl | exact slv_ids _) (by simp [go_sem, ro, wo, wa, wx, rx, bk_e]) rfl rfl (by rfl) ?_
        simp only [go_sem, ro, wo, wa, wx, rx, bk_e]
        refine done [] _ [(1000, ro true b k 4)] (by simp only [go_sem, ro, wo, wa, wx, rx, bk_e]) (by simp only [go_sem, ro, wo, wa, wx, rx, bk_e]) rfl ⟨((0, 0, 0), k, 4), Out.er ?_ (by decide) h3, rfl, rfl⟩
        simp only [gK, h1, if_neg hn, if_neg h0, hy, hx, Bool.false_eq_true, and_false, if_false]
      · simp only [go_sem, ro, wo, wa, wx, rx, bk_e]
        refine done [] _ [(1000, ro true b k 0)] (by simp only [go_sem, ro, wo, wa, wx, rx, bk_e]) (by simp only [go_sem, ro, wo, wa, wx, rx, bk_e]) rfl ⟨((1, (ov y).1, 0), k, 0), Out.ok ?_ h3, rfl, rfl⟩
        simp only [gK, h1, if_neg hn, if_neg h0, hy, hx, h17, and_self, if_true]
    · simp only [go_sem, ro, wo, wa, wx, rx, bk_e, hn', decide_eq_false h0, decide_eq_false h17]
      refine call_m (s_fail_ok b k 4) ⟨by decide, by decide⟩ (by first | rfl | exact slv_ids _) (by simp [go_sem, ro, wo, wa, wx, rx, bk_e]) rfl rfl (by rfl) ?_
      simp only [go_sem, ro, wo, wa, wx, rx, bk_e]
      refine done [] _ [(1000, ro true b k 4)] (by simp only [go_sem, ro, wo, wa, wx, rx, bk_e]) (by simp only [go_sem, ro, wo, wa, wx, rx, bk_e]) rfl ⟨((0, 0, 0), k, 4), Out.er ?_ (by decide) h3, rfl, rfl⟩
      simp only [gK, h1, if_neg hn, if_neg h0, h17, false_and, if_false]
  · simp only [go_sem, ro, wo, wa, wx, rx, bk_e, tt0, h2]
    refine call_m (s_err true b a e) ⟨by decide, by decide⟩ (by first | rfl | exact slv_ids _) (by simp [go_sem, ro, wo, wa, wx, rx, bk_e]) rfl rfl (by rfl) ?_
    simp only [go_sem, ro, wo, wa, wx, rx, bk_e, e_t he]
    refine done [] _ [(1000, ro true b a e)] (by simp only [go_sem, ro, wo, wa, wx, rx, bk_e]) (by simp only [go_sem, ro, wo, wa, wx, rx, bk_e]) rfl ⟨((0, 0, 0), a, e), Out.er ?_ he ha, rfl, rfl⟩
    simp only [gK, h1]
end Go.Proofs.YtdhiiannngjjpaaDoor
set_option maxRecDepth 100000
set_option maxHeartbeats 8000000
set_option linter.unusedVariables false
set_option linter.unusedSimpArgs false
namespace Go.Proofs.YtdhiiannngjjpaaDoor
open Go Go.Mw
-- @U: ro, wo, wa, wx, rx, bk_e

def OutP {α : Type} (b : List UInt8) (res : Rd α) (p : α → Prop) (q : α × Nat × Int) : Prop :=
  q.2.1 ≤ b.length ∧ ((∃ x k, res = .ok (x, k) ∧ q = (x, k, 0)) ∨ ∃ e, res = .error (e, q.2.1) ∧ e ≠ 0 ∧ p q.1 ∧ q.2.2 = e)
theorem OutP.ok {α : Type} {b : List UInt8} {res : Rd α} {p : α → Prop} {x : α} {k : Nat} (h : res = .ok (x, k)) (hk : k ≤ b.length) : OutP b res p (x, k, 0) := ⟨hk, .inl ⟨x, k, h, rfl⟩⟩
theorem OutP.er {α : Type} {b : List UInt8} {res : Rd α} {p : α → Prop} {x : α} {e : Int} {k : Nat} (h : res = .error (e, k)) (he : e ≠ 0) (hp : p x) (hk : k ≤ b.length) : OutP b res p (x, k, e) := ⟨hk, .inr ⟨e, h, he, hp, rfl⟩⟩
theorem known_opx {op : Int} (h : rKn op = true) : (0 ≤ op ∧ op < 256 ∧ op ≠ 252) ∨ (64512 ≤ op ∧ op < 64768) := by
  have := row_in (p := fun op => (decide (0 ≤ op) && (decide (op < 256) && !(op == 252))) || (decide (64512 ≤ op) && decide (op < 64768))) (by decide +kernel) (op := op) (fun q => by simp [rKn, q] at h)
  simpa using this
theorem kn_hi {n : Nat} (h : 255 < n) : rKn (64512 + n) = false := by
  cases hk : rKn (64512 + (n : Int))
  · rfl
  · rcases known_opx hk with h | h <;> omega
theorem and255 {n : Nat} (h : n < 4294967296) : b_and .i64 (n : Int) 255 = ((n % 256 : Nat) : Int) := by
  have : (BitVec.ofInt 64 (n : Int) &&& BitVec.ofInt 64 ((255 : Nat) : Int)).toNat = n &&& 255 := and_nat (by omega) (by decide)
  show IntKind.i64.wrap ((BitVec.ofInt 64 (n : Int) &&& BitVec.ofInt 64 ((255 : Nat) : Int)).toNat) = _
  rw [this, show (255 : Nat) = 2 ^ 8 - 1 from rfl, Nat.and_two_pow_sub_one_eq_mod, w_i64]
  omega
theorem u8_i64 (x : UInt8) : IntKind.i64.wrap ((x.toNat : Nat) : Int) = ((x.toNat : Nat) : Int) := wi (by omega) (by have := x.toNat_lt; omega)
theorem not_kn (op : Int) : (!(nameOf op == [])) = rKn op := (tells op).1
theorem b252 (x : UInt8) : (((x.toNat : Nat) : Int) == 252) = decide (x = 252) := by
  have := u8_beq x 252
  rw [show (((252 : UInt8).toNat : Nat) : Int) = 252 from rfl] at this
  rw [this]; rfl
theorem to252 : ((252 : UInt8).toNat : Int) = 252 := rfl
theorem to0 : ((0 : UInt8).toNat : Int) = 0 := rfl
theorem w252 : IntKind.i64.wrap 252 = 252 := by decide
theorem wr0 : IntKind.i64.wrap 0 = 0 := by decide
variable {b : List UInt8} {a : Nat} (ha : a ≤ b.length) (hb : b.length < 1000000000)
include ha hb
theorem s_op : ACalls Tryd.prog n_bincode_op [.mp 1000 4 0 0] [(1000, ro true b a 0)] sb (fun r' σ' => ∃ q : Int × Nat × Int, OutP b (gO b a) (fun _ => True) q ∧ r' = .int .i64 q.1 ∧ σ' = [(1000, ro true b (q.2.1 : Nat) q.2.2)]) := by
  refine fun_sound (ic := F_bincode_op.body) mixed c_bincode_op rfl rfl ?_
  simp only [go_sem, ro, wo, wa, wx, rx, bk_e, F_bincode_op]
  refine call_m (s_byte true b a 0 ha hb) ⟨by decide, by decide⟩ (by first | rfl | exact slv_ids _) (by simp [go_sem, ro, wo, wa, wx, rx, bk_e]) rfl rfl (by rfl) ?_
  rcases rByte_g b a with ⟨x, h1, h2, h3⟩ | ⟨h1, h2⟩
  · have w0 := u8_i64 x
    by_cases hx : x = 252
    · subst hx
      simp only [go_sem, ro, wo, wa, wx, rx, bk_e, tt0, h2, to252, w252]
      refine call_m (s_U32 true b (a + 1) 0 h3 hb) ⟨by decide, by decide⟩ (by first | rfl | exact slv_ids _) (by simp [go_sem, ro, wo, wa, wx, rx, bk_e]) rfl rfl (by rfl) ?_
      rcases rU_g h3 with ⟨n, k, g1, g2, g3, g4⟩ | ⟨e, he, g1, g2⟩
      · have w2 := and255 g3
        by_cases hn : (n : Int) > 255
        · simp only [go_sem, ro, wo, wa, wx, rx, bk_e, tt0, g2, decide_eq_true hn]
          refine call_m (s_fail_ok b k 10) ⟨by decide, by decide⟩ (by first | rfl | exact slv_ids _) (by simp [go_sem, ro, wo, wa, wx, rx, bk_e]) rfl rfl (by rfl) ?_
          simp only [go_sem, ro, wo, wa, wx, rx, bk_e]
          refine call_m (s_err true b k 10) ⟨by decide, by decide⟩ (by first | rfl | exact slv_ids _) (by simp [go_sem, ro, wo, wa, wx, rx, bk_e]) rfl rfl (by rfl) ?_
          simp only [go_sem, ro, wo, wa, wx, rx, bk_e, w2]
          have w3 : IntKind.i64.wrap (64512 + ((n % 256 : Nat) : Int)) = 64512 + ((n % 256 : Nat) : Int) := wi (by omega) (by omega)
          refine done [] _ [(1000, ro true b k 10)] (by simp only [go_sem, ro, wo, wa, wx, rx, bk_e, w3]) (by simp only [go_sem, ro, wo, wa, wx, rx, bk_e]) rfl ⟨(64512 + ((n % 256 : Nat) : Int), k, 10), OutP.er ?_ (by decide) trivial g4, rfl, rfl⟩
          simp only [gO, h1, if_true, g1, kn_hi (show 255 < n by omega), Bool.false_eq_true, if_false]
        · have w3 : IntKind.i64.wrap (64512 + ((n % 256 : Nat) : Int)) = 64512 + (n : Int) := by rw [wi (by omega) (by omega)]; omega
          simp only [go_sem, ro, wo, wa, wx, rx, bk_e, tt0, g2, decide_eq_false hn]
          refine call_m (s_err true b k 0) ⟨by decide, by decide⟩ (by first | rfl | exact slv_ids _) (by simp [go_sem, ro, wo, wa, wx, rx, bk_e]) rfl rfl (by rfl) ?_
          simp only [go_sem, ro, wo, wa, wx, rx, bk_e, w2, w3]
          refine call_same (s_known5 (64512 + (n : Int))) (by simp [go_sem, ro, wo, wa, wx, rx, bk_e]) ?_
          rw [not_kn]
          cases hk : rKn (64512 + (n : Int))
          · simp only [go_sem, ro, wo, wa, wx, rx, bk_e]
            refine call_m (s_fail_ok b k 10) ⟨by decide, by decide⟩ (by first | rfl | exact slv_ids _) (by simp [go_sem, ro, wo, wa, wx, rx, bk_e]) rfl rfl (by rfl) ?_
            simp only [go_sem, ro, wo, wa, wx, rx, bk_e]
            refine done [] _ [(1000, ro true b k 10)] (by simp only [go_sem, ro, wo, wa, wx, rx, bk_e]) (by simp only [go_sem, ro, wo, wa, wx, rx, bk_e]) rfl ⟨(64512 + (n : Int), k, 10), OutP.er ?_ (by decide) trivial g4, rfl, rfl⟩
            simp only [gO, h1, if_true, g1, hk, Bool.false_eq_true, if_false]
          · simp only [go_sem, ro, wo, wa, wx, rx, bk_e]
            refine done [] _ [(1000, ro true b k 0)] (by simp only [go_sem, ro, wo, wa, wx, rx, bk_e]) (by simp only [go_sem, ro, wo, wa, wx, rx, bk_e]) rfl ⟨(64512 + (n : Int), k, 0), OutP.ok ?_ g4, rfl, rfl⟩
            simp only [gO, h1, if_true, g1, hk]
      · have d0 : decide (((0 : Nat) : Int) > 255) = false := by decide
        have a0 : b_and .i64 ((0 : Nat) : Int) 255 = 0 := by decide
        have w3 : IntKind.i64.wrap (64512 + 0) = 64512 := by decide
        simp only [go_sem, ro, wo, wa, wx, rx, bk_e, tt0, g2, d0, a0, w3]
        refine call_m (s_err true b ((a + 1 : Nat) : Int) e) ⟨by decide, by decide⟩ (by first | rfl | exact slv_ids _) (by simp [go_sem, ro, wo, wa, wx, rx, bk_e]) rfl rfl (by rfl) ?_
        simp only [go_sem, ro, wo, wa, wx, rx, bk_e, e_f he]
        refine done [] _ [(1000, ro true b ((a + 1 : Nat) : Int) e)] (by simp only [go_sem, ro, wo, wa, wx, rx, bk_e]) (by simp only [go_sem, ro, wo, wa, wx, rx, bk_e]) rfl ⟨(64512, a + 1, e), OutP.er ?_ he trivial h3, rfl, rfl⟩
        simp only [gO, h1, if_true, g1]
    · have d : (((x.toNat : Nat) : Int) == 252) = false := by rw [b252, decide_eq_false hx]
      simp only [go_sem, ro, wo, wa, wx, rx, bk_e, tt0, h2, w0, d]
      refine call_m (s_err true b ((a + 1 : Nat) : Int) 0) ⟨by decide, by decide⟩ (by first | rfl | exact slv_ids _) (by simp [go_sem, ro, wo, wa, wx, rx, bk_e]) rfl rfl (by rfl) ?_
      simp only [go_sem, ro, wo, wa, wx, rx, bk_e]
      refine call_same (s_known5 (x.toNat : Int)) (by simp [go_sem, ro, wo, wa, wx, rx, bk_e]) ?_
      rw [not_kn]
      cases hk : rKn (x.toNat : Int)
      · simp only [go_sem, ro, wo, wa, wx, rx, bk_e]
        refine call_m (s_fail_ok b ((a + 1 : Nat) : Int) 10) ⟨by decide, by decide⟩ (by first | rfl | exact slv_ids _) (by simp [go_sem, ro, wo, wa, wx, rx, bk_e]) rfl rfl (by rfl) ?_
        simp only [go_sem, ro, wo, wa, wx, rx, bk_e]
        refine done [] _ [(1000, ro true b ((a + 1 : Nat) : Int) 10)] (by simp only [go_sem, ro, wo, wa, wx, rx, bk_e]) (by simp only [go_sem, ro, wo, wa, wx, rx, bk_e]) rfl ⟨((x.toNat : Int), a + 1, 10), OutP.er ?_ (by decide) trivial h3, rfl, rfl⟩
        simp only [gO, h1, if_neg hx, hk, Bool.false_eq_true, if_false]
      · simp only [go_sem, ro, wo, wa, wx, rx, bk_e]
        refine done [] _ [(1000, ro true b ((a + 1 : Nat) : Int) 0)] (by simp only [go_sem, ro, wo, wa, wx, rx, bk_e]) (by simp only [go_sem, ro, wo, wa, wx, rx, bk_e]) rfl ⟨((x.toNat : Int), a + 1, 0), OutP.ok ?_ h3, rfl, rfl⟩
        simp only [gO, h1, if_neg hx, hk, if_true]
  · simp only [go_sem, ro, wo, wa, wx, rx, bk_e, tt0, h2, to0, wr0]
    refine call_m (s_err true b a 3) ⟨by decide, by decide⟩ (by first | rfl | exact slv_ids _) (by simp [go_sem, ro, wo, wa, wx, rx, bk_e]) rfl rfl (by rfl) ?_
    simp only [go_sem, ro, wo, wa, wx, rx, bk_e]
    refine done [] _ [(1000, ro true b a 3)] (by simp only [go_sem, ro, wo, wa, wx, rx, bk_e]) (by simp only [go_sem, ro, wo, wa, wx, rx, bk_e]) rfl ⟨(0, a, 3), OutP.er ?_ (by decide) trivial ha, rfl, rfl⟩
    simp only [gO, h1]
end Go.Proofs.YtdhiiannngjjpaaDoor
set_option maxRecDepth 100000
set_option maxHeartbeats 8000000
set_option linter.unusedVariables false
set_option linter.unusedSimpArgs false
namespace Go.Proofs.YtdhiiannngjjpaaDoor
open Go Go.Mw
-- @U: ro, wo, wa, wx, rx, bk_e

def ac_ (op : Int) (q : Int × Int × Int) : AObj := ⟨33, 9, [[.int .i64 op, .int .i64 q.1, .int .i64 q.2.1, .int .u64 q.2.2, .int .i64 0, .int .i64 0, .int .i64 0, .nl, .nl]], true⟩
theorem u64_nat {n : Nat} (h : n < 4294967296) : IntKind.u64.wrap (n : Int) = (n : Int) := by rw [w_u64]; omega
variable {b : List UInt8} {a : Nat} (ha : a ≤ b.length) (hb : b.length < 1000000000)
include ha hb
theorem s_access11 (op : Int) : ACalls Tryd.prog n_bincode_access [.mp 1000 4 0 0, .mp 1001 9 0 0] [(1000, ro true b a 0), (1001, ac_ op (0, 0, 0))] sb
    (fun r' σ' => ∃ q : (Int × Int × Int) × Nat × Int, OutP b (gA b a) (fun _ => True) q ∧ r' = .tup [] ∧ σ' = [(1000, ro true b (q.2.1 : Nat) q.2.2), (1001, ac_ op q.1)]) := by
  refine fun_sound (ic := F_bincode_access.body) mixed c_bincode_access rfl rfl ?_
  simp only [go_sem, ro, wo, wa, wx, rx, bk_e, F_bincode_access, ac_]
  refine call_m (s_U32 true b a 0 ha hb) ⟨by decide, by decide⟩ (by first | rfl | exact slv_ids _) (by simp [go_sem, ro, wo, wa, wx, rx, bk_e]) rfl rfl (by rfl) ?_
  rcases rU_g ha with ⟨n, k, g1, g2, g3, g4⟩ | ⟨e, he, g1, g2⟩
  · by_cases h1 : (n : Int) ≥ 128
    · have h2 : (n : Int) ≥ 64 := by omega
      have w1 : IntKind.i64.wrap ((n : Int) - 64) = (n : Int) - 64 := wi (by omega) (by omega)
      simp only [go_sem, ro, wo, wa, wx, rx, bk_e, tt0, g2, decide_eq_true h1]
      refine call_m (s_fail_ok b k 4) ⟨by decide, by decide⟩ (by first | rfl | exact slv_ids _) (by simp [go_sem, ro, wo, wa, wx, rx, bk_e]) rfl rfl (by rfl) ?_
      simp only [go_sem, ro, wo, wa, wx, rx, bk_e, decide_eq_true h2, w1]
      refine call_m (s_U32 true b k 4 g4 hb) ⟨by decide, by decide⟩ (by first | rfl | exact slv_ids _) (by simp [go_sem, ro, wo, wa, wx, rx, bk_e]) rfl rfl (by rfl) ?_
      simp only [go_sem, ro, wo, wa, wx, rx, bk_e, e_f (show (4 : Int) ≠ 0 by decide), Bool.true_and, rU_f]
      refine call_m (s_U32 true b k 4 g4 hb) ⟨by decide, by decide⟩ (by first | rfl | exact slv_ids _) (by simp [go_sem, ro, wo, wa, wx, rx, bk_e]) rfl rfl (by rfl) ?_
      have w2 := u64_nat (n := 0) (by decide)
      simp only [go_sem, ro, wo, wa, wx, rx, bk_e, e_f (show (4 : Int) ≠ 0 by decide), Bool.true_and, rU_f, w2]
      refine done_n [] _ [(1000, ro true b k 4), (1001, ac_ op ((n : Int) - 64, 0, 0))] (by simp only [go_sem, ro, wo, wa, wx, rx, bk_e]) (by simp only [go_sem, ro, wo, wa, wx, rx, bk_e, ac_]; try rfl) rfl ⟨(((n : Int) - 64, 0, 0), k, 4), OutP.er ?_ (by decide) trivial g4, rfl, rfl⟩
      simp only [gA, g1, if_pos (show n ≥ 128 by omega)]
    · have h1' : ¬ n ≥ 128 := by omega
      by_cases h2 : (n : Int) ≥ 64
      · have h2' : n ≥ 64 := by omega
        have w1 : IntKind.i64.wrap ((n : Int) - 64) = (n : Int) - 64 := wi (by omega) (by omega)
        simp only [go_sem, ro, wo, wa, wx, rx, bk_e, tt0, g2, decide_eq_false h1, decide_eq_true h2, w1]
        refine call_m (s_U32 true b k 0 g4 hb) ⟨by decide, by decide⟩ (by first | rfl | exact slv_ids _) (by simp [go_sem, ro, wo, wa, wx, rx, bk_e]) rfl rfl (by rfl) ?_
        rcases rU_g g4 with ⟨y, k1, p1, p2, p3, p4⟩ | ⟨e, he, p1, p2⟩
        · simp only [go_sem, ro, wo, wa, wx, rx, bk_e, tt0, p2]
          refine call_m (s_U32 true b k1 0 p4 hb) ⟨by decide, by decide⟩ (by first | rfl | exact slv_ids _) (by simp [go_sem, ro, wo, wa, wx, rx, bk_e]) rfl rfl (by rfl) ?_
          rcases rU_g p4 with ⟨z, k2, q1, q2, q3, q4⟩ | ⟨e, he, q1, q2⟩
          · have w2 := u64_nat q3
            simp only [go_sem, ro, wo, wa, wx, rx, bk_e, tt0, q2, w2]
            refine done_n [] _ [(1000, ro true b k2 0), (1001, ac_ op ((n : Int) - 64, (y : Int), (z : Int)))] (by simp only [go_sem, ro, wo, wa, wx, rx, bk_e]) (by simp only [go_sem, ro, wo, wa, wx, rx, bk_e, ac_]; try rfl) rfl ⟨(((n : Int) - 64, (y : Int), (z : Int)), k2, 0), OutP.ok ?_ q4, rfl, rfl⟩
            simp only [gA, g1, if_neg h1', if_pos h2', p1, q1]
          · have w2 := u64_nat (n := 0) (by decide)
            simp only [go_sem, ro, wo, wa, wx, rx, bk_e, tt0, q2, w2]
            refine done_n [] _ [(1000, ro true b k1 e), (1001, ac_ op ((n : Int) - 64, (y : Int), 0))] (by simp only [go_sem, ro, wo, wa, wx, rx, bk_e]) (by simp only [go_sem, ro, wo, wa, wx, rx, bk_e, ac_]; try rfl) rfl ⟨(((n : Int) - 64, (y : Int), 0), k1, e), OutP.er ?_ he trivial p4, rfl, rfl⟩
            simp only [gA, g1, if_neg h1', if_pos h2', p1, q1]
        · simp only [go_sem, ro, wo, wa, wx, rx, bk_e, tt0, p2]
          refine call_m (s_U32 true b k e g4 hb) ⟨by decide, by decide⟩ (by first | rfl | exact slv_ids _) (by simp [go_sem, ro, wo, wa, wx, rx, bk_e]) rfl rfl (by rfl) ?_
          have w2 := u64_nat (n := 0) (by decide)
          simp only [go_sem, ro, wo, wa, wx, rx, bk_e, e_f he, Bool.true_and, rU_f, w2]
          refine done_n [] _ [(1000, ro true b k e), (1001, ac_ op ((n : Int) - 64, 0, 0))] (by simp only [go_sem, ro, wo, wa, wx, rx, bk_e]) (by simp only [go_sem, ro, wo, wa, wx, rx, bk_e, ac_]; try rfl) rfl ⟨(((n : Int) - 64, 0, 0), k, e), OutP.er ?_ he trivial g4, rfl, rfl⟩
          simp only [gA, g1, if_neg h1', if_pos h2', p1]
      · have h2' : ¬ n ≥ 64 := by omega
        simp only [go_sem, ro, wo, wa, wx, rx, bk_e, tt0, g2, decide_eq_false h1, decide_eq_false h2]
        refine call_m (s_U32 true b k 0 g4 hb) ⟨by decide, by decide⟩ (by first | rfl | exact slv_ids _) (by simp [go_sem, ro, wo, wa, wx, rx, bk_e]) rfl rfl (by rfl) ?_
        rcases rU_g g4 with ⟨z, k2, q1, q2, q3, q4⟩ | ⟨e, he, q1, q2⟩
        · have w2 := u64_nat q3
          simp only [go_sem, ro, wo, wa, wx, rx, bk_e, tt0, q2, w2]
          refine done_n [] _ [(1000, ro true b k2 0), (1001, ac_ op ((n : Int), 0, (z : Int)))] (by simp only [go_sem, ro, wo, wa, wx, rx, bk_e]) (by simp only [go_sem, ro, wo, wa, wx, rx, bk_e, ac_]; try rfl) rfl ⟨(((n : Int), 0, (z : Int)), k2, 0), OutP.ok ?_ q4, rfl, rfl⟩
          simp only [gA, g1, if_neg h1', if_neg h2', q1]
        · have w2 := u64_nat (n := 0) (by decide)
          simp only [go_sem, ro, wo, wa, wx, rx, bk_e, tt0, q2, w2]
          refine done_n [] _ [(1000, ro true b k e), (1001, ac_ op ((n : Int), 0, 0))] (by simp only [go_sem, ro, wo, wa, wx, rx, bk_e]) (by simp only [go_sem, ro, wo, wa, wx, rx, bk_e, ac_]; try rfl) rfl ⟨(((n : Int), 0, 0), k, e), OutP.er ?_ he trivial g4, rfl, rfl⟩
          simp only [gA, g1, if_neg h1', if_neg h2', q1]
  · have d0 : decide (((0 : Nat) : Int) ≥ 128) = false := by decide
    have d1 : decide (((0 : Nat) : Int) ≥ 64) = false := by decide
    simp only [go_sem, ro, wo, wa, wx, rx, bk_e, tt0, g2, d0, d1]
    refine call_m (s_U32 true b a e ha hb) ⟨by decide, by decide⟩ (by first | rfl | exact slv_ids _) (by simp [go_sem, ro, wo, wa, wx, rx, bk_e]) rfl rfl (by rfl) ?_
    have w2 := u64_nat (n := 0) (by decide)
    simp only [go_sem, ro, wo, wa, wx, rx, bk_e, e_f he, Bool.true_and, rU_f, w2]
    refine done_n [] _ [(1000, ro true b a e), (1001, ac_ op (0, 0, 0))] (by simp only [go_sem, ro, wo, wa, wx, rx, bk_e]) (by simp only [go_sem, ro, wo, wa, wx, rx, bk_e, ac_]; try rfl) rfl ⟨((0, 0, 0), a, e), OutP.er ?_ he trivial ha, rfl, rfl⟩
    simp only [gA, g1]
end Go.Proofs.YtdhiiannngjjpaaDoor
set_option maxRecDepth 100000
set_option maxHeartbeats 8000000
set_option linter.unusedVariables false
set_option linter.unusedSimpArgs false
namespace Go.Proofs.YtdhiiannngjjpaaDoor
open Go Go.Mw
-- @U: ro, wo, wa, wx, rx, bk_e, ins_e, vl_e

def insC (i : Ins) : List AV := [.int .i64 i.op, .int .i64 i.a, .int .i64 i.b, .int .u64 i.n, .int .i64 i.k, .int .i64 i.v, .int .i64 i.x, .sl 1 (i.ty.map vl_), .sl 1 (i.lb.map vl_)]
theorem nl9 (a b c d e f g : AV) : nlm [a, b, c, d, e, f, g, .nl, .nl] [a, b, c, d, e, f, g, .sl 1 [], .sl 1 []] := ⟨.inl rfl, .inl rfl, .inl rfl, .inl rfl, .inl rfl, .inl rfl, .inl rfl, .inr ⟨rfl, .inl ⟨1, rfl⟩⟩, .inr ⟨rfl, .inl ⟨1, rfl⟩⟩, trivial⟩
theorem nl8 (a b c d e f g h : AV) : nlm [a, b, c, d, e, f, g, .nl, h] [a, b, c, d, e, f, g, .sl 1 [], h] := ⟨.inl rfl, .inl rfl, .inl rfl, .inl rfl, .inl rfl, .inl rfl, .inl rfl, .inr ⟨rfl, .inl ⟨1, rfl⟩⟩, .inl rfl, trivial⟩
theorem nl7 (a b c d e f g h : AV) : nlm [a, b, c, d, e, f, g, h, .nl] [a, b, c, d, e, f, g, h, .sl 1 []] := ⟨.inl rfl, .inl rfl, .inl rfl, .inl rfl, .inl rfl, .inl rfl, .inl rfl, .inl rfl, .inr ⟨rfl, .inl ⟨1, rfl⟩⟩, trivial⟩
variable {b : List UInt8} {a : Nat} (ha : a ≤ b.length) (hb : b.length < 1000000000)
include ha hb
end Go.Proofs.YtdhiiannngjjpaaDoor
