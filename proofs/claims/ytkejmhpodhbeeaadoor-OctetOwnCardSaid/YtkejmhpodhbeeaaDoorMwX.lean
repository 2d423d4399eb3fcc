/-
  States compared entry by entry; the ends of bodies; rows of one cell.
-/
import Derived.Test.YtkejmhpodhbeeaaDoorMwW
namespace Go.Mw

def leE (e : List (Nat × AV)) : List (Nat × AV) → Prop
  | [] => True
  | (k, x) :: r => get e k = x ∧ leE e r
def leH (e : List (Nat × AObj)) : List (Nat × AObj) → Prop
  | [] => True
  | (k, x) :: r => hget e k = some x ∧ leH e r
theorem leE_mem {e : List (Nat × AV)} : ∀ {l : List (Nat × AV)}, leE e l → ∀ p ∈ l, get e p.1 = p.2
  | [], _, p, hp => by cases hp
  | (k, x) :: r, h, p, hp => by
    rcases List.mem_cons.1 hp with rfl | hp
    · exact h.1
    · exact leE_mem h.2 p hp
theorem leH_mem {e : List (Nat × AObj)} : ∀ {l : List (Nat × AObj)}, leH e l → ∀ p ∈ l, hget e p.1 = some p.2
  | [], _, p, hp => by cases hp
  | (k, x) :: r, h, p, hp => by
    rcases List.mem_cons.1 hp with rfl | hp
    · exact h.1
    · exact leH_mem h.2 p hp
theorem Wk.of {s s' : St} (h1 : leE s.env s'.env) (h2 : leH s.heap s'.heap) : Wk s s' := Wk.le (leE_mem h1) (leH_mem h2)
/-- Some arrays frozen, then entry by entry. -/
theorem Wk.frzs : ∀ (fs : List Nat) (s : St), Wk s (Mw.frzs fs s)
  | [], s => Wk.refl s
  | i :: r, s => (Wk.frz s i).trans (Wk.frzs r (s.frz i))
theorem Wk.frz_of {s s' : St} (fs : List Nat) (h1 : leE (Mw.frzs fs s).env s'.env) (h2 : leH (Mw.frzs fs s).heap s'.heap) : Wk s s' := (Wk.frzs fs s).trans (Wk.of h1 h2)

/-- A nil slice taken as an empty array of one's own. -/
def St.mknil (s : St) (k i st : Nat) (t : TypeId) : St := ⟨(k, .ms i st 0 0) :: del (s.kill i).env k, (i, ⟨t, st, [], false⟩) :: (s.kill i).heap⟩
theorem Wk.nil (s : St) (k i st : Nat) (t : TypeId) (hk : get s.env k = .nl) (hid : i < 1000 ∨ 2000 ≤ i) : Wk s (s.mknil k i st t) := by
  intro c a w hs
  obtain ⟨bl, hs⟩ := hs.kill i
  obtain ⟨h1, h2⟩ := kill_unnamed s i
  have hn := hs.new0 (i := i) (o := ⟨t, st, [], false⟩) h1 h2 hid rfl rfl
  have hk' : get (s.kill i).env k = .nl := by simp [St.kill, get_purE, hk, purV, mV, mG, mC, mP]
  refine ⟨_, hn.defers, hn.size, fun j => ?_, ?_, hn.step, ?_, hn.stab, hn.mf⟩
  all_goals
    have hheap : hget (s.mknil k i st t).heap = upd (hget (s.kill i).heap) i (some ⟨t, st, [], false⟩) := by
      funext j
      simp only [St.mknil, hget, upd]
      by_cases h : i = j
      · rw [if_pos h, if_pos h.symm]
      · rw [if_neg h, if_neg (Ne.symm h)]
  · rw [hheap]
    have hj := hn.env j
    simp only [St.mknil, get]
    by_cases h : k = j
    · subst h
      rw [if_pos rfl]
      rw [hk'] at hj
      have hv : tv a k = .slice none 0 0 := by
        simp only [VRel, GRel, CRel, PRel] at hj
        generalize tv a k = v at hj
        cases hj
        rfl
      exact .inl ⟨hv, rfl, rfl⟩
    · rw [if_neg h, get_del, if_neg (Ne.symm h)]
      exact hj
  · rw [hheap]
    exact hn.heap
  · rw [hheap]
    exact hn.own

def clB (r : AV) (σ : List (Nat × AObj)) : Bool := (idsV r).all (fun i => (hget σ i).isSome) && σ.all fun p => (idsO p.2).all fun i => (hget σ i).isSome
theorem clB_closed {r : AV} {σ : List (Nat × AObj)} (h : clB r σ = true) : Closed r σ := by
  simp only [clB, Bool.and_eq_true, List.all_eq_true] at h
  exact ⟨fun i hi => h.1 i hi, fun p hp i hi => h.2 p hp i hi⟩

theorem done {l : List IRes} {Post : AV → List (Nat × AObj) → Prop} {s : St} (fs : List Nat) (r : AV) (σ' : List (Nat × AObj)) (h1 : iret l (frzs fs s) = some r) (h2 : leH (frzs fs s).heap σ') (h3 : clB r σ' = true) (h4 : Post r σ') : Done l Post .ret s :=
  ⟨(fun _ h => by cases h), s, Wk.refl s, fs, r, σ', h1, (fun i o hi => leH_mem h2 _ (mem_hget hi)), clB_closed h3, h4⟩
theorem done_n {l : List IRes} {Post : AV → List (Nat × AObj) → Prop} {s : St} (fs : List Nat) (r : AV) (σ' : List (Nat × AObj)) (h1 : iret l (frzs fs s) = some r) (h2 : leH (frzs fs s).heap σ') (h3 : clB r σ' = true) (h4 : Post r σ') : Done l Post .nrm s :=
  ⟨(fun _ h => by cases h), s, Wk.refl s, fs, r, σ', h1, (fun i o hi => leH_mem h2 _ (mem_hget hi)), clB_closed h3, h4⟩
theorem pdone_n {l : List IRes} {r : AV} {s : St} (fs : List Nat) (h : iret l (frzs fs s) = some r) (h2 : idsV r = []) : PDone l r .nrm s := ⟨(fun _ h => by cases h), s, Wk.refl s, fs, h, h2⟩

/-- Rows of one integer, one byte, one string, one truth value. -/
def ri (n : Int) : List AV := [.int .i64 n]
def ru (n : Int) : List AV := [.int .u8 n]
def rb (b : UInt8) : List AV := [.int .u8 b.toNat]
def rs (s : List UInt8) : List AV := [.str s]
def rt (b : Bool) : List AV := [.bool b]
theorem ri_e (n : Int) : ri n = [.int .i64 n] := rfl
theorem ru_e (n : Int) : ru n = [.int .u8 n] := rfl
theorem rb_e (b : UInt8) : rb b = [.int .u8 b.toNat] := rfl
theorem rs_e (s : List UInt8) : rs s = [.str s] := rfl
theorem rt_e (b : Bool) : rt b = [.bool b] := rfl

section
variable {α : Type}
/-- A whole row of an array is written. -/
theorem stO_map (id n st row : Nat) (t : TypeId) (f : α → List AV) (l : List α) (v : α) (hn : ∀ x, (f x).length = n) (hi : (f v).all immA = true) :
    stO id n st row 0 (some ⟨t, st, l.map f, false⟩) (some (f v)) = if row < l.length then some (.put id ⟨t, st, (l.set row v).map f, false⟩) else none := by
  rw [stO_arr _ _ _ _ _ _ _ (by simpa using fun x _ => hn x)]
  simp only [hn, hi, List.length_map, true_and, List.map_set]
theorem stO_ri (id st row : Nat) (t : TypeId) (l : List Int) (v : Int) : stO id 1 st row 0 (some ⟨t, st, l.map ri, false⟩) (some [.int .i64 v]) = if row < l.length then some (.put id ⟨t, st, (l.set row v).map ri, false⟩) else none := stO_map id 1 st row t ri l v (fun _ => rfl) rfl
theorem stO_ru (id st row : Nat) (t : TypeId) (l : List Int) (v : Int) : stO id 1 st row 0 (some ⟨t, st, l.map ru, false⟩) (some [.int .u8 v]) = if row < l.length then some (.put id ⟨t, st, (l.set row v).map ru, false⟩) else none := stO_map id 1 st row t ru l v (fun _ => rfl) rfl
theorem stO_rs (id st row : Nat) (t : TypeId) (l : List (List UInt8)) (v : List UInt8) : stO id 1 st row 0 (some ⟨t, st, l.map rs, false⟩) (some [.str v]) = if row < l.length then some (.put id ⟨t, st, (l.set row v).map rs, false⟩) else none := stO_map id 1 st row t rs l v (fun _ => rfl) rfl
theorem stO_rt (id st row : Nat) (t : TypeId) (l : List Bool) (v : Bool) : stO id 1 st row 0 (some ⟨t, st, l.map rt, false⟩) (some [.bool v]) = if row < l.length then some (.put id ⟨t, st, (l.set row v).map rt, false⟩) else none := stO_map id 1 st row t rt l v (fun _ => rfl) rfl
/-- Part of a row of an array is written. -/
theorem stO_part [Inhabited α] (id n st row off : Nat) (t : TypeId) (f : α → List AV) (l : List α) (cs : List AV) (g : α → α) (hl : cs.length = n) (hi : cs.all immA = true) (hn : ∀ x, off + n ≤ (f x).length) (hg : ∀ x, splice (f x) off cs = f (g x)) :
    stO id n st row off (some ⟨t, st, l.map f, false⟩) (some cs) = if row < l.length then some (.put id ⟨t, st, (l.set row (g (nth l row))).map f, false⟩) else none := by
  simp only [stO, hl, hi, Bool.false_or, and_self, if_true]
  by_cases h3 : row < l.length
  · rw [List.getElem?_map, List.getElem?_eq_getElem h3]
    simp only [Option.map_some, hn, if_true, h3, hg, List.map_set, nth_eq h3]
  · rw [List.getElem?_eq_none (by simpa using h3), if_neg h3]
/-- append onto an array of which the whole is named. -/
theorem appO_map (id : Nat) (t : TypeId) (st len : Nat) (f : α → List AV) (l : List α) (ys : List (List AV)) (hl : l.length = len) : appO id t st 0 len ys (some ⟨t, st, l.map f, false⟩) =
    if ys.length < 1073741824 ∧ len < 1073741824 ∧ (id < 1000 ∨ 2000 ≤ id) then some (.ms id st 0 (len + ys.length), .reb id ⟨t, st, l.map f ++ ys, false⟩) else none := appO_full id t st len _ ys (by simpa using hl)
theorem appO_take (id : Nat) (t : TypeId) (st len : Nat) (f : α → List AV) (l : List α) (ys : List (List AV)) (hl : len ≤ l.length) : appO id t st 0 len ys (some ⟨t, st, l.map f, false⟩) =
    if ys.length < 1073741824 ∧ len < 1073741824 ∧ (id < 1000 ∨ 2000 ≤ id) then some (.ms id st 0 (len + ys.length), .reb id ⟨t, st, (l.take len).map f ++ ys, false⟩) else none := by
  simp only [appO, true_and, List.length_map, hl, List.map_take]
  by_cases h1 : ys.length < 1073741824 <;> simp [h1]
theorem rowO_map (st len : Nat) (t : TypeId) (f : α → List AV) (l : List α) (hl : l.length = len) : rowO st 0 len (some ⟨t, st, l.map f, false⟩) = some (l.map f) := rowO_full st len t _ (by simpa using hl)
theorem rowO_lit (st : Nat) (t : TypeId) (r : List AV) : rowO st 0 1 (some ⟨t, st, [r], false⟩) = some [r] := rowO_full st 1 t _ rfl
end
theorem wi {n : Int} (h0 : -9223372036854775808 ≤ n) (h1 : n < 9223372036854775808) : IntKind.i64.wrap n = n := by
  unfold IntKind.wrap
  show (if (true && decide (n % 18446744073709551616 ≥ 9223372036854775808)) = true then n % 18446744073709551616 - 18446744073709551616 else n % 18446744073709551616) = n
  by_cases h : n % 18446744073709551616 ≥ 9223372036854775808
  · rw [decide_eq_true h]; simp only [Bool.true_and, if_true]; omega
  · rw [decide_eq_false h]; simp only [Bool.and_false, Bool.false_eq_true, if_false]; omega
theorem bslA_ite (d : Nat) (t : TypeId) (st : Nat) (c : Prop) [Decidable c] (x : Option (List (List AV))) : bslA d t st (if c then x else none) = if c then bslA d t st x else none := by split <;> rfl
theorem boxA_ite (d : Nat) (t : TypeId) (n : Nat) (c : Prop) [Decidable c] (x : Option (List AV)) : boxA d t n (if c then x else none) = if c then boxA d t n x else none := by split <;> rfl
theorem omap_ite {α β : Type} (f : α → β) (c : Prop) [Decidable c] (x : Option α) : Option.map f (if c then x else none) = if c then Option.map f x else none := by split <;> rfl
attribute [go_sem] bslA_ite boxA_ite omap_ite
attribute [go_sem] leE leH clB ri_e ru_e rb_e rs_e rt_e stO_ri stO_ru stO_rs stO_rt rowO_lit Int.toNat_natCast

/-- A nil slice taken as an empty one. -/
theorem Wk.nls (s : St) (k st : Nat) (hk : get s.env k = .nl) : Wk s ⟨(k, .sl st []) :: s.env, s.heap⟩ := by
  rintro c a w ⟨bl, hs⟩
  refine ⟨bl, hs.defers, hs.size, fun j => ?_, hs.heap, hs.step, hs.own, hs.stab, hs.mf⟩
  simp only [get]
  split
  · rename_i h
    subst h
    have := hs.env k
    rw [hk] at this
    rw [this.nl]
    exact IRel.nls st
  · exact hs.env j
theorem IRel.nl_sl {M : Nat → Prop} {w : World} {v : Value} (h : IRel M w v .nl) (st : Nat) : IRel M w v (.sl st []) := by
  cases h
  exact .nls st
/-- The same, of a cell of an object. -/
def nlr : List AV → List AV → Prop
  | [], [] => True
  | x :: l, y :: m => (x = y ∨ (x = .nl ∧ ∃ st, y = .sl st [])) ∧ nlr l m
  | _, _ => False
theorem nlr_len : ∀ {l m : List AV}, nlr l m → m.length = l.length
  | [], [], _ => rfl
  | _ :: _, _ :: _, h => by simp [nlr_len h.2]
  | [], _ :: _, h => h.elim
  | _ :: _, [], h => h.elim
theorem nlr_get : ∀ {l m : List AV}, nlr l m → ∀ {j : Nat} {y : AV}, m[j]? = some y → ∃ x, l[j]? = some x ∧ (x = y ∨ (x = .nl ∧ ∃ st, y = .sl st []))
  | [], [], _, j, y, hy => by simp at hy
  | x :: l, z :: m, h, 0, y, hy => by simp at hy; subst hy; exact ⟨x, rfl, h.1⟩
  | x :: l, z :: m, h, j + 1, y, hy => by simpa using nlr_get h.2 (j := j) (by simpa using hy)
  | [], _ :: _, h, _, _, _ => h.elim
  | _ :: _, [], h, _, _, _ => h.elim
theorem Wk.nlh (s : St) (i : Nat) {t : TypeId} {st : Nat} {r r' : List AV} (hi : hget s.heap i = some ⟨t, st, [r], true⟩) (hr : nlr r r') : Wk s ⟨s.env, (i, ⟨t, st, [r'], true⟩) :: s.heap⟩ := by
  rintro c a w ⟨bl, hs⟩
  have hm : ∀ b, Mut bl c.MF (hget ((i, ⟨t, st, [r'], true⟩) :: s.heap)) b ↔ Mut bl c.MF (hget s.heap) b := Mut.congr fun j => by
    simp only [hget]
    split
    · rename_i h; subst h; rw [hi]; rfl
    · rfl
  have ht := Tr.of_iff (w := w) fun b => (hm b)
  refine ⟨bl, hs.defers, hs.size, fun j => (hs.env j).tr ht (fun _ _ => rfl), ⟨fun j o hj => ?_, fun j j' o o' b h1 h2 => ?_⟩, hs.step, fun j o b h1 => ?_, hs.stab, hs.mf⟩
  · simp only [hget] at hj
    split at hj
    · rename_i hij
      subst hij
      cases hj
      rcases hs.heap.1 i _ hi with hn | ⟨b, g1, c1, fr, g2, g3, g4, g5, g6, g7⟩
      · cases hn.2.1
      · refine .inr ⟨b, g1, c1, fr, g2, g3, g4, fun k q hq => ?_, by simpa using g6, fun k q u x hu hx => ?_⟩
        · cases k with
          | zero => simp at hq; subst hq; rw [nlr_len hr]; exact g5 0 r rfl
          | succ k => simp at hq
        · cases k with
          | succ k => simp at hu
          | zero =>
            simp at hu
            subst hu
            obtain ⟨x0, h1, h2⟩ := nlr_get hr hx
            obtain ⟨v, hv1, hv2⟩ := g7 0 q r x0 rfl h1
            refine ⟨v, hv1, ?_⟩
            have hv3 : CRel bl (Mut bl c.MF (hget s.heap)) w v x0 := hv2
            rcases h2 with h2 | ⟨h2, st', h3⟩
            · subst h2; exact hv3.tr ht (fun _ _ => rfl)
            · subst h2 h3
              have : IRel (Mut bl c.MF (hget s.heap)) w v .nl := hv3
              exact (IRel.toC (bl := bl) (IRel.nl_sl this st')).tr ht (fun _ _ => rfl)
    · rcases hs.heap.1 j o hj with hn | ⟨b, g1, c1, fr, g2, g3, g4, g5, g6, g7⟩
      · exact .inl hn
      · refine .inr ⟨b, g1, c1, fr, g2, g3, g4, g5, g6, fun k q u x hu hx => ?_⟩
        obtain ⟨v, hv1, hv2⟩ := g7 k q u x hu hx
        refine ⟨v, hv1, ?_⟩
        cases hrec : o.isRec <;> simp only [hrec, ORel] at hv2 ⊢
        · exact hv2.tr ht.keep
        · exact hv2.tr ht (fun _ _ => rfl)
  · have key : ∀ {j : Nat} {o : AObj}, hget ((i, ⟨t, st, [r'], true⟩) :: s.heap) j = some o → ∃ o', hget s.heap j = some o' := fun {j o} hj => by
      simp only [hget] at hj
      split at hj
      · rename_i hij; subst hij; exact ⟨_, hi⟩
      · exact ⟨_, hj⟩
    obtain ⟨p1, q1⟩ := key h1
    obtain ⟨p2, q2⟩ := key h2
    exact hs.heap.2 j j' p1 p2 b q1 q2
  · simp only [hget] at h1
    split at h1
    · rename_i hij; subst hij; exact hs.own i _ b hi
    · exact hs.own j o b h1

theorem wdone {l : List IRes} {Post : AV → List (Nat × AObj) → Prop} {s s1 : St} (hw : Wk s s1) (fs : List Nat) (r : AV) (σ' : List (Nat × AObj)) (h1 : iret l (frzs fs s1) = some r) (h2 : leH (frzs fs s1).heap σ') (h3 : clB r σ' = true) (h4 : Post r σ') : Done l Post .ret s :=
  ⟨(fun _ h => by cases h), s1, hw, fs, r, σ', h1, (fun i o hi => leH_mem h2 _ (mem_hget hi)), clB_closed h3, h4⟩
theorem wpdone {l : List IRes} {r : AV} {s s1 : St} (hw : Wk s s1) (fs : List Nat) (h : iret l (frzs fs s1) = some r) (h2 : idsV r = []) : PDone l r .ret s := ⟨(fun _ h => by cases h), s1, hw, fs, h, h2⟩
end Go.Mw
