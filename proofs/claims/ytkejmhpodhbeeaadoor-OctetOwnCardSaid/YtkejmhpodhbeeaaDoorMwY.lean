/-
  The arguments of a law, as the statement reads them, in abstract values.
-/
import Derived.Test.YtkejmhpodhbeeaaDoorMwX
import Derived.WalkKit
import Derived.ProofKit
import Derived.OpenShut
import Derived.JoinedCond
namespace Go.Mw

/-- The types whose values are read: 'rec' of fields that lie one after the other. -/
inductive Ty where
  | bool
  | int (k : IntKind)
  | str
  | sl (e : Ty)
  | nil
  | cons (f : Ty) (r : Ty)
  deriving Inhabited

def Ty.n : Ty → Nat
  | .nil => 0
  | .cons f r => f.n + r.n
  | _ => 1

def Ty.ok : Ty → List AV → Prop
  | .bool, xs => ∃ b, xs = [.bool b]
  | .int k, xs => ∃ n, xs = [.int k n] ∧ (Lit.int k n).wf = true
  | .str, xs => ∃ s, xs = [.str s] ∧ s.length ≤ maxLen
  | .sl e, xs => xs = [.nl] ∨ ∃ rows, xs = [.sl e.n rows] ∧ rows.length ≤ maxLen ∧ ∀ r ∈ rows, e.ok r
  | .nil, xs => xs = []
  | .cons f r, xs => ∃ ys zs, xs = ys ++ zs ∧ f.ok ys ∧ r.ok zs

theorem Ty.ok_len : ∀ (τ : Ty) (xs : List AV), τ.ok xs → xs.length = τ.n
  | .bool, xs, h => by obtain ⟨b, rfl⟩ := h; rfl
  | .int k, xs, h => by obtain ⟨n, rfl, _⟩ := h; rfl
  | .str, xs, h => by obtain ⟨s, rfl, _⟩ := h; rfl
  | .sl e, xs, h => by rcases h with rfl | ⟨rows, rfl, _⟩ <;> rfl
  | .nil, xs, h => by subst h; rfl
  | .cons f r, xs, h => by
    obtain ⟨ys, zs, rfl, h1, h2⟩ := h
    simp only [List.length_append, Ty.n, Ty.ok_len f ys h1, Ty.ok_len r zs h2]

/-- The fields of a struct, one after the other from 'off'. -/
def tyFs (g : TypeId → Option Ty) (P : Program) (off : Nat) : List Field → Option Ty
  | [] => some .nil
  | f :: r => if f.offset = off then (match g f.type, tyFs g P (off + P.cellsOf f.type) r with
    | some a, some b => if a.n = P.cellsOf f.type then some (.cons a b) else none
    | _, _ => none) else none
def tyOf (P : Program) : Nat → TypeId → Option Ty
  | 0, _ => none
  | f + 1, t => match P.underlying t with
    | some .bool => some .bool
    | some (.int k) => some (.int k)
    | some .string => some .str
    | some (.slice e) => match tyOf P f e with
      | some a => if a.n = P.cellsOf e ∧ 0 < a.n then some (.sl a) else none
      | none => none
    | some (.struct fs) => match tyFs (tyOf P f) P 0 fs.toList with
      | some a => if a.n = P.cellsOf t then some a else none
      | none => none
    | _ => none

theorem mapM_get {α β : Type} {g : α → Option β} : ∀ {l : List α} {r : List β}, l.mapM g = some r → r.length = l.length ∧ ∀ (i : Nat) (x : α), l[i]? = some x → ∃ y, r[i]? = some y ∧ g x = some y
  | [], r, h => by
    simp only [List.mapM_nil, pure, Option.some.injEq] at h
    subst h
    exact ⟨rfl, fun i x hx => by simp at hx⟩
  | a :: l, r, h => by
    simp only [List.mapM_cons, bind, Option.bind_eq_some_iff, pure, Option.some.injEq] at h
    obtain ⟨y, h1, ys, h2, rfl⟩ := h
    obtain ⟨h3, h4⟩ := mapM_get h2
    refine ⟨by simp [h3], fun i x hx => ?_⟩
    cases i with
    | zero =>
      simp only [List.getElem?_cons_zero, Option.some.injEq] at hx
      subst hx
      exact ⟨y, rfl, h1⟩
    | succ i => exact h4 i x (by simpa using hx)
theorem mapM_range {β : Type} {g : Nat → Option β} {n : Nat} {r : List β} (h : (List.range n).mapM g = some r) : r.length = n ∧ ∀ i, i < n → ∃ y, r[i]? = some y ∧ g i = some y := by
  obtain ⟨h1, h2⟩ := mapM_get h
  exact ⟨by simpa using h1, fun i hi => h2 i i (by simp [hi])⟩

theorem cells_get {w : World} {base : Nat} {a : Addr} {n : Nat} {cs : List Value} (h : w.cells? base a n = some cs) : cs.length = n ∧ ∀ j, j < n → ∃ y, cs[j]? = some y ∧ w.cell? (a.add j) = some y := by
  unfold World.cells? at h
  split at h
  · exact mapM_range h
  · cases h
theorem cell_get {w : World} {a : Addr} {v : Value} (h : w.cell? a = some v) : a.spot = none ∧ ∃ c t fr, w.heap[a.block]? = some (.cells c t fr) ∧ c[a.off]? = some v := by
  unfold World.cell? at h
  split at h
  case h_2 => cases h
  rename_i c t fr hb
  split at h
  · cases h
  · rename_i hs
    exact ⟨by simpa using hs, c, t, fr, hb, h⟩

theorem All2.split {α β : Type} {R : α → β → Prop} : ∀ {l l' : List α} {m m' : List β}, l.length = m.length → All2 R l m → All2 R l' m' → All2 R (l ++ l') (m ++ m') := fun _ h h' => h.append h'

section
variable {H : Type} {enc : TypeId × Value → H} {P : Program} {w : World} {base : Nat} {sp : Nat → Bool} {held : Bool}

/-- The fields, from cell 'off' on. -/
theorem fields_ok {g : TypeId → Option Ty} {r : TypeId → List Value → Option (DataW H × List MemPlace)} (ih : ∀ t cs τ x, g t = some τ → r t cs = some x → ∃ xs, τ.ok xs ∧ All2 (IRel (fun _ => False) w) cs xs) (cs : List Value) :
    ∀ (fs : List Field) (off : Nat) (τ : Ty) (xs : List (DataW H × List MemPlace)), tyFs g P off fs = some τ → (fs.mapM fun f => r f.type ((cs.drop f.offset).take (P.cellsOf f.type))) = some xs → off + τ.n = cs.length →
      ∃ ys, τ.ok ys ∧ All2 (IRel (fun _ => False) w) (cs.drop off) ys
  | [], off, τ, xs, ht, _, hn => by
    simp only [tyFs, Option.some.injEq] at ht
    subst ht
    refine ⟨[], rfl, ?_⟩
    rw [List.drop_eq_nil_of_le (by simp [Ty.n] at hn; omega)]
    trivial
  | f :: fs, off, τ, xs, ht, hm, hn => by
    simp only [tyFs] at ht
    split at ht
    case isFalse => cases ht
    rename_i hoff
    split at ht
    case h_2 => cases ht
    rename_i a b ha hb
    split at ht
    case isFalse => cases ht
    rename_i hsz
    cases ht
    simp only [List.mapM_cons, bind, Option.bind_eq_some_iff, pure, Option.some.injEq] at hm
    obtain ⟨y, h1, zs, h2, rfl⟩ := hm
    obtain ⟨xs1, h3, h4⟩ := ih _ _ _ _ ha h1
    simp only [Ty.n] at hn
    obtain ⟨xs2, h5, h6⟩ := fields_ok ih cs fs (off + P.cellsOf f.type) b zs hb h2 (by omega)
    refine ⟨xs1 ++ xs2, ⟨xs1, xs2, rfl, h3, h5⟩, ?_⟩
    rw [hoff] at h4
    have : cs.drop off = (cs.drop off).take (P.cellsOf f.type) ++ cs.drop (off + P.cellsOf f.type) := by
      rw [← List.drop_drop, List.take_append_drop]
    rw [this]
    exact h4.append h6

theorem trod_ok : ∀ (fuel f : Nat) (t : TypeId) (cs : List Value) (τ : Ty) (x : DataW H × List MemPlace), tyOf P f t = some τ → DataW.trod enc P w base sp held fuel t cs = some x → ∃ xs, τ.ok xs ∧ All2 (IRel (fun _ => False) w) cs xs := by
  intro fuel
  induction fuel with
  | zero => intro f t cs τ x _ h; simp [DataW.trod] at h
  | succ fuel ih =>
    intro f t cs τ x ht h
    cases f with
    | zero => simp [tyOf] at ht
    | succ f =>
      simp only [tyOf] at ht
      split at ht
      case h_1 hu =>
        cases ht
        unfold DataW.trod at h
        split at h <;> rename_i heq <;> first | (rw [hu] at heq; cases heq; done) | (cases h; done) | skip
        rename_i b
        exact ⟨[.bool b], ⟨b, rfl⟩, .bool b, trivial⟩
      case h_2 k hu =>
        cases ht
        unfold DataW.trod at h
        split at h <;> rename_i heq <;> first | (rw [hu] at heq; cases heq; done) | (cases h; done) | skip
        rename_i k' k1 n
        rw [hu] at heq
        cases heq
        split at h
        · rename_i hk
          obtain ⟨rfl, hwf⟩ := hk
          exact ⟨[.int _ n], ⟨n, rfl, hwf⟩, .int _ n, trivial⟩
        · cases h
      case h_3 hu =>
        cases ht
        unfold DataW.trod at h
        split at h <;> rename_i heq <;> first | (rw [hu] at heq; cases heq; done) | (cases h; done) | skip
        rename_i s
        split at h
        · rename_i hs
          refine ⟨[.str s.data.toList], ⟨_, rfl, by simpa using hs⟩, ?_, trivial⟩
          have := IRel.str (M := fun _ => False) (w := w) s.data.toList
          simpa using this
        · cases h
      case h_4 e hu =>
        split at ht
        case h_2 => cases ht
        rename_i a ha
        split at ht
        case isFalse => cases ht
        rename_i hsz
        cases ht
        unfold DataW.trod at h
        split at h <;> rename_i heq <;> first | (rw [hu] at heq; cases heq; done) | (cases h; done) | skip
        · exact ⟨[.nl], .inl rfl, .nl, trivial⟩
        · rename_i e1 ad len cap
          rw [hu] at heq
          cases heq
          simp only at h
          split at h
          case isFalse => cases h
          rename_i hcap
          simp only [Option.bind_eq_some_iff] at h
          obtain ⟨elems, hel, _⟩ := h
          obtain ⟨hlen, hget⟩ := mapM_range hel
          have hrow : ∀ i, i < len → ∃ row xs, w.cells? base (ad.add (i * P.cellsOf e)) (P.cellsOf e) = some row ∧ a.ok xs ∧ All2 (IRel (fun _ => False) w) row xs := fun i hi => by
            obtain ⟨y, _, h2⟩ := hget i hi
            simp only [Option.bind_eq_some_iff] at h2
            obtain ⟨row, h3, h4⟩ := h2
            obtain ⟨xs, h5, h6⟩ := ih f e row a y ha h4
            exact ⟨row, xs, h3, h5, h6⟩
          by_cases h0 : len = 0
          · subst h0
            exact ⟨[.sl a.n []], .inr ⟨[], rfl, Nat.zero_le _, fun r hr => by cases hr⟩, .sl0 _ _ _, trivial⟩
          have hn : 0 < P.cellsOf e := by omega
          -- one cell of one row
          have hcell : ∀ i j, i < len → j < P.cellsOf e → ∀ row, w.cells? base (ad.add (i * P.cellsOf e)) (P.cellsOf e) = some row → ∃ y, row[j]? = some y ∧ w.cell? ((ad.add (i * P.cellsOf e)).add j) = some y := fun i j hi hj row hr => (cells_get hr).2 j hj
          obtain ⟨row0, xs0, r1, _, _⟩ := hrow 0 (by omega)
          obtain ⟨y0, _, c0⟩ := hcell 0 0 (by omega) hn row0 r1
          obtain ⟨hspot, c, tt, fr, hb, _⟩ := cell_get c0
          have hspot' : ad.spot = none := by simpa [Addr.add] using hspot
          have hblk : ∀ (q : Addr) m, (q.add m).block = q.block := fun q m => by unfold Addr.add; split <;> rfl
          have hoff : ∀ (q : Addr) m, (q.add m).off = q.off + m := fun q m => by
            unfold Addr.add
            split
            · rename_i hm; simp [hm]
            · rfl
          rw [hblk, hblk] at hb
          have hval : ∀ i j, i < len → j < P.cellsOf e → ∀ row, w.cells? base (ad.add (i * P.cellsOf e)) (P.cellsOf e) = some row → ∃ y, row[j]? = some y ∧ c[ad.off + i * P.cellsOf e + j]? = some y := fun i j hi hj row hr => by
            obtain ⟨y, g1, g2⟩ := hcell i j hi hj row hr
            obtain ⟨_, c', t', fr', g3, g4⟩ := cell_get g2
            rw [hblk, hblk, hb] at g3
            cases g3
            rw [hoff, hoff] at g4
            exact ⟨y, g1, g4⟩
          let R : Nat → List Value := fun i => if hi : i < len then Classical.choose (hrow i hi) else []
          let X : Nat → List AV := fun i => if hi : i < len then Classical.choose (Classical.choose_spec (hrow i hi)) else []
          have hRX : ∀ i, i < len → w.cells? base (ad.add (i * P.cellsOf e)) (P.cellsOf e) = some (R i) ∧ a.ok (X i) ∧ All2 (IRel (fun _ => False) w) (R i) (X i) := fun i hi => by
            have := Classical.choose_spec (Classical.choose_spec (hrow i hi))
            simp only [R, X, hi, dif_pos]
            exact this
          have hrows : ∀ (i : Nat) (r : List AV), ((List.range len).map X)[i]? = some r → i < len ∧ r = X i := fun i r hr => by
            simp only [List.getElem?_map, Option.map_eq_some_iff] at hr
            obtain ⟨j, h1, h2⟩ := hr
            have h3 := List.getElem?_eq_some_iff.1 h1
            obtain ⟨h4, h5⟩ := h3
            simp at h4 h5
            subst h5
            exact ⟨h4, h2.symm⟩
          refine ⟨[.sl a.n ((List.range len).map X)], .inr ⟨_, rfl, by simp; omega, fun r hr => ?_⟩, ?_, trivial⟩
          · obtain ⟨i, hi, rfl⟩ := List.mem_map.1 hr
            exact (hRX i (by simpa using hi)).2.1
          · obtain ⟨bk, of, so⟩ := ad
            simp only at hspot'
            subst hspot'
            have hll : ((List.range len).map X).length = len := by simp
            have key := IRel.sl (M := fun _ => False) (w := w) bk of cap a.n c tt fr ((List.range len).map X) (fun i j => (R i).getD j undef) hb (fun h => h) (by rw [hll]; omega)
              (fun i r hr => by obtain ⟨h1, rfl⟩ := hrows i r hr; exact Ty.ok_len _ _ (hRX i h1).2.1)
              (fun i j hi hj => by
                rw [hll] at hi
                rw [hsz.1] at hj ⊢
                obtain ⟨y, g1, g2⟩ := hval i j hi hj _ (hRX i hi).1
                rw [g2, List.getD_eq_getElem?_getD, g1]
                rfl)
              (fun i j r x hr hx => by
                obtain ⟨h1, rfl⟩ := hrows i r hr
                obtain ⟨y, g1, g2⟩ := (hRX i h1).2.2.get hx
                rw [List.getD_eq_getElem?_getD, g1]
                exact g2)
            rw [hll] at key
            exact key
      case h_5 fs hu =>
        split at ht
        case h_2 => cases ht
        rename_i a ha
        split at ht
        case isFalse => cases ht
        rename_i hsz
        cases ht
        unfold DataW.trod at h
        split at h <;> rename_i heq <;> first | (rw [hu] at heq; cases heq; done) | (cases h; done) | skip
        · rename_i cs1 fs1
          rw [hu] at heq
          cases heq
          split at h
          case isFalse => cases h
          rename_i hcl
          simp only [Option.map_eq_some_iff] at h
          obtain ⟨xs, h1, _⟩ := h
          have := fields_ok (P := P) (g := tyOf P f) (r := fun t cs => DataW.trod enc P w base sp held fuel t cs) (fun t cs τ x => ih f t cs τ x) _ _ 0 _ xs ha h1 (by omega)
          simpa using this
      case h_6 => cases ht
end
end Go.Mw
