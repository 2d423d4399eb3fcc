/-
  Abstract values and their relation to the machine's values and memory; how the relation is carried from one world to the next.
-/
import Derived.WalkKit
namespace Go.Mw

/-- Abstract values: what a value means, memory that nobody writes any more read out in full. -/
inductive AV where
  | bool (b : Bool)
  | int (k : IntKind) (n : Int)
  | str (s : List UInt8)
  | nl
  | sl (st : Nat) (rows : List (List AV))
  | ip (cells : List AV)
  | np
  | nf
  | any
  | ms (id st off len : Nat)
  | mp (id st row off : Nat)
  | fn (f : FuncId) (caps : List AV)
  | agg (cells : List AV)
  | tup (vs : List AV)
  deriving Inhabited

def oneCell : Value → Prop
  | .agg _ => False
  | .tuple _ => False
  | _ => True

def All2 {α β : Type} (R : α → β → Prop) : List α → List β → Prop
  | [], [] => True
  | a :: l, b :: m => R a b ∧ All2 R l m
  | _, _ => False

theorem All2.length {α β : Type} {R : α → β → Prop} : ∀ {l : List α} {m : List β}, All2 R l m → l.length = m.length
  | [], [], _ => rfl
  | _ :: _, _ :: _, h => by simp [All2.length h.2]
  | [], _ :: _, h => h.elim
  | _ :: _, [], h => h.elim

theorem All2.mono {α β : Type} {R R' : α → β → Prop} : ∀ {l : List α} {m : List β}, All2 R l m → (∀ a b, b ∈ m → R a b → R' a b) → All2 R' l m
  | [], [], _, _ => trivial
  | _ :: _, _ :: _, h, f => ⟨f _ _ (by simp) h.1, h.2.mono fun a b hb => f a b (by simp [hb])⟩
  | [], _ :: _, h, _ => h.elim
  | _ :: _, [], h, _ => h.elim

theorem All2.get {α β : Type} {R : α → β → Prop} : ∀ {l : List α} {m : List β}, All2 R l m → ∀ {i : Nat} {b : β}, m[i]? = some b → ∃ a, l[i]? = some a ∧ R a b
  | [], [], _, i, b, h => by simp at h
  | a :: _, c :: _, h, 0, b, hb => by
    simp only [List.getElem?_cons_zero, Option.some.injEq] at hb
    subst hb
    exact ⟨a, by simp, h.1⟩
  | _ :: _, _ :: _, h, i + 1, b, hb => by
    simp only [List.getElem?_cons_succ] at hb ⊢
    exact h.2.get hb
  | [], _ :: _, h, _, _, _ => h.elim
  | _ :: _, [], h, _, _, _ => h.elim

theorem All2.append {α β : Type} {R : α → β → Prop} : ∀ {l l' : List α} {m m' : List β}, All2 R l m → All2 R l' m' → All2 R (l ++ l') (m ++ m')
  | [], _, [], _, _, h => h
  | _ :: _, _, _ :: _, _, h, h' => ⟨h.1, h.2.append h'⟩
  | [], _, _ :: _, _, h, _ => h.elim
  | _ :: _, _, [], _, h, _ => h.elim

theorem All2.take {α β : Type} {R : α → β → Prop} : ∀ {l : List α} {m : List β} (n : Nat), All2 R l m → All2 R (l.take n) (m.take n)
  | _, _, 0, _ => by simp [All2]
  | [], [], _ + 1, _ => by simp [All2]
  | _ :: _, _ :: _, n + 1, h => ⟨h.1, h.2.take n⟩
  | [], _ :: _, _, h => h.elim
  | _ :: _, [], _, h => h.elim

theorem All2.drop {α β : Type} {R : α → β → Prop} : ∀ {l : List α} {m : List β} (n : Nat), All2 R l m → All2 R (l.drop n) (m.drop n)
  | _, _, 0, h => by simpa using h
  | [], [], _ + 1, _ => by simp [All2]
  | _ :: _, _ :: _, n + 1, h => by simpa using h.2.drop n
  | [], _ :: _, _, h => h.elim
  | _ :: _, [], _, h => h.elim

theorem All2.of_get {α β : Type} {R : α → β → Prop} : ∀ {l : List α} {m : List β}, l.length = m.length →
    (∀ (i : Nat) (a : α) (b : β), l[i]? = some a → m[i]? = some b → R a b) → All2 R l m
  | [], [], _, _ => trivial
  | a :: l, b :: m, hl, h => ⟨h 0 a b (by simp) (by simp), All2.of_get (by simpa using hl) fun i a b ha hb => h (i + 1) a b (by simpa using ha) (by simpa using hb)⟩
  | [], _ :: _, hl, _ => by simp at hl
  | _ :: _, [], hl, _ => by simp at hl

/-- Values over memory that stays as it is: 'M' holds of the blocks that may still be written. -/
inductive IRel (M : Nat → Prop) (w : World) : Value → AV → Prop where
  | bool (b : Bool) : IRel M w (.bool b) (.bool b)
  | int (k : IntKind) (n : Int) : IRel M w (.int k n) (.int k n)
  | str (s : List UInt8) : IRel M w (.string ⟨s.toArray⟩) (.str s)
  | nl : IRel M w (.slice none 0 0) .nl
  | nls (st : Nat) : IRel M w (.slice none 0 0) (.sl st [])
  | np : IRel M w (.pointer none) .np
  | nf : IRel M w .nilFunc .nf
  | any (v : Value) (h : oneCell v) : IRel M w v .any
  | sl0 (st : Nat) (a : Addr) (cap : Nat) : IRel M w (.slice (some a) 0 cap) (.sl st [])
  | sl (b off cap st : Nat) (c : Array Value) (t : TypeId) (fr : Nat × Nat) (rows : List (List AV)) (vs : Nat → Nat → Value)
      (hb : w.heap[b]? = some (.cells c t fr)) (hM : ¬ M b) (hl : rows.length ≤ cap)
      (hr : ∀ (i : Nat) (r : List AV), rows[i]? = some r → r.length = st)
      (hv : ∀ (i j : Nat), i < rows.length → j < st → c[off + i * st + j]? = some (vs i j))
      (hx : ∀ (i j : Nat) (r : List AV) (x : AV), rows[i]? = some r → r[j]? = some x → IRel M w (vs i j) x) :
      IRel M w (.slice (some ⟨b, off, none⟩) rows.length cap) (.sl st rows)
  | ip (b off : Nat) (c : Array Value) (t : TypeId) (fr : Nat × Nat) (cells : List AV) (vs : Nat → Value)
      (hb : w.heap[b]? = some (.cells c t fr)) (hM : ¬ M b)
      (hv : ∀ (j : Nat), j < cells.length → c[off + j]? = some (vs j))
      (hx : ∀ (j : Nat) (x : AV), cells[j]? = some x → IRel M w (vs j) x) :
      IRel M w (.pointer (some ⟨b, off, none⟩)) (.ip cells)

theorem IRel.one {M : Nat → Prop} {w : World} {v : Value} {x : AV} (h : IRel M w v x) : oneCell v := by
  cases h <;> first | trivial | assumption

theorem lt_of_heap {w : World} {b : Nat} {o : Obj} (h : w.heap[b]? = some o) : b < w.heap.size := by
  rcases Nat.lt_or_ge b w.heap.size with h' | h'
  · exact h'
  · simp [Array.getElem?_eq_none h'] at h

theorem IRel.tr {M M' : Nat → Prop} {w w' : World} {v : Value} {x : AV} (h : IRel M w v x)
    (hk : ∀ b, ¬ M b → b < w.heap.size → ¬ M' b ∧ w'.heap[b]? = w.heap[b]?) : IRel M' w' v x := by
  induction h with
  | bool b => exact .bool b
  | int k n => exact .int k n
  | str s => exact .str s
  | nl => exact .nl
  | nls st => exact .nls st
  | np => exact .np
  | nf => exact .nf
  | any v h => exact .any v h
  | sl0 st a cap => exact .sl0 st a cap
  | sl b off cap st c t fr rows vs hb hM hl hr hv hx ih =>
    obtain ⟨h1, h2⟩ := hk b hM (lt_of_heap hb)
    exact .sl b off cap st c t fr rows vs (h2.trans hb) h1 hl hr hv ih
  | ip b off c t fr cells vs hb hM hv hx ih =>
    obtain ⟨h1, h2⟩ := hk b hM (lt_of_heap hb)
    exact .ip b off c t fr cells vs (h2.trans hb) h1 hv ih

/-- Cells that may refer to memory that is still written, by a name. -/
def PRel (bl : Nat → Option Nat) (M : Nat → Prop) (w : World) (v : Value) (x : AV) : Prop :=
  match x with
  | .ms id st off len => (v = .slice none 0 0 ∧ off = 0 ∧ len = 0) ∨
      (len = 0 ∧ off ≠ 0 ∧ ∃ a cap, v = .slice (some a) 0 cap) ∨
      ∃ b cap c t fr, bl id = some b ∧ v = .slice (some ⟨b, off * st, none⟩) len cap ∧ len ≤ cap ∧ w.heap[b]? = some (.cells c t fr) ∧ off * st + cap * st ≤ c.size
  | .mp id st row off => ∃ b, bl id = some b ∧ v = .pointer (some ⟨b, row * st + off, none⟩)
  | x => IRel M w v x

def CRel (bl : Nat → Option Nat) (M : Nat → Prop) (w : World) (v : Value) (x : AV) : Prop :=
  match x with
  | .fn f caps => ∃ cs : List Value, v = .func (.func f) #[] cs.toArray ∧ All2 (PRel bl M w) cs caps
  | x => PRel bl M w v x

def GRel (bl : Nat → Option Nat) (M : Nat → Prop) (w : World) (v : Value) (x : AV) : Prop :=
  match x with
  | .agg cells => ∃ cs : List Value, v = .agg cs.toArray ∧ All2 (CRel bl M w) cs cells
  | x => CRel bl M w v x

def VRel (bl : Nat → Option Nat) (M : Nat → Prop) (w : World) (v : Value) (x : AV) : Prop :=
  match x with
  | .any => True
  | .tup vs => ∃ cs : List Value, v = .tuple cs.toArray ∧ All2 (GRel bl M w) cs vs
  | x => GRel bl M w v x

/-- Does the value name the object 'i'? -/
def mP (i : Nat) : AV → Bool
  | .ms id _ _ _ => id == i
  | .mp id _ _ _ => id == i
  | _ => false
def mC (i : Nat) : AV → Bool
  | .fn _ caps => caps.any (mP i)
  | x => mP i x
def mG (i : Nat) : AV → Bool
  | .agg cells => cells.any (mC i)
  | x => mC i x
def mV (i : Nat) : AV → Bool
  | .tup vs => vs.any (mG i)
  | x => mG i x

structure Tr (M M' : Nat → Prop) (w w' : World) : Prop where
  keep : ∀ b, ¬ M b → b < w.heap.size → ¬ M' b ∧ w'.heap[b]? = w.heap[b]?
  shape : ∀ (b : Nat) (c : Array Value) (t : TypeId) (fr : Nat × Nat), w.heap[b]? = some (.cells c t fr) → ∃ c' : Array Value, w'.heap[b]? = some (.cells c' t fr) ∧ c'.size = c.size

section
variable {bl bl' : Nat → Option Nat} {M M' : Nat → Prop} {w w' : World} {v : Value} {x : AV}

theorem PRel.tr (h : PRel bl M w v x) (ht : Tr M M' w w') (hb : ∀ id, mP id x = true → bl' id = bl id) : PRel bl' M' w' v x := by
  cases x <;> simp only [PRel] at h ⊢ <;> try exact h.tr ht.keep
  case ms id st off len =>
    rcases h with h | h | ⟨b, cap, c, t, fr, h1, h2, h3, h4, h5⟩
    · exact .inl h
    · exact .inr (.inl h)
    · obtain ⟨c', hc', hs⟩ := ht.shape b c t fr h4
      exact .inr (.inr ⟨b, cap, c', t, fr, (hb id (by simp [mP])).trans h1, h2, h3, hc', by omega⟩)
  case mp id st row off =>
    obtain ⟨b, h1, h2⟩ := h
    exact ⟨b, (hb id (by simp [mP])).trans h1, h2⟩

theorem CRel.tr (h : CRel bl M w v x) (ht : Tr M M' w w') (hb : ∀ id, mC id x = true → bl' id = bl id) : CRel bl' M' w' v x := by
  cases x <;> simp only [CRel] at h ⊢ <;> try exact PRel.tr h ht (fun id hi => hb id (by simpa [mC] using hi))
  case fn f caps =>
    obtain ⟨cs, h1, h2⟩ := h
    exact ⟨cs, h1, h2.mono fun a b hm hr => PRel.tr hr ht (fun id hi => hb id (by simp only [mC, List.any_eq_true]; exact ⟨b, hm, hi⟩))⟩

theorem GRel.tr (h : GRel bl M w v x) (ht : Tr M M' w w') (hb : ∀ id, mG id x = true → bl' id = bl id) : GRel bl' M' w' v x := by
  cases x <;> simp only [GRel] at h ⊢ <;> try exact CRel.tr h ht (fun id hi => hb id (by simpa [mG] using hi))
  case agg cells =>
    obtain ⟨cs, h1, h2⟩ := h
    exact ⟨cs, h1, h2.mono fun a b hm hr => CRel.tr hr ht (fun id hi => hb id (by simp only [mG, List.any_eq_true]; exact ⟨b, hm, hi⟩))⟩

theorem VRel.tr (h : VRel bl M w v x) (ht : Tr M M' w w') (hb : ∀ id, mV id x = true → bl' id = bl id) : VRel bl' M' w' v x := by
  cases x <;> simp only [VRel] at h ⊢ <;> try exact GRel.tr h ht (fun id hi => hb id (by simpa [mV] using hi))
  case tup vs =>
    obtain ⟨cs, h1, h2⟩ := h
    exact ⟨cs, h1, h2.mono fun a b hm hr => GRel.tr hr ht (fun id hi => hb id (by simp only [mV, List.any_eq_true]; exact ⟨b, hm, hi⟩))⟩

theorem PRel.one (h : PRel bl M w v x) : oneCell v := by
  cases x <;> simp only [PRel] at h <;> try exact h.one
  case ms id st off len =>
    rcases h with ⟨rfl, _⟩ | ⟨_, _, a, cap, rfl⟩ | ⟨b, cap, c, t, fr, h1, rfl, h3⟩ <;> trivial
  case mp id st row off =>
    obtain ⟨b, _, rfl⟩ := h
    trivial
theorem CRel.one (h : CRel bl M w v x) : oneCell v := by
  cases x <;> simp only [CRel] at h <;> try exact PRel.one h
  case fn f caps => obtain ⟨cs, rfl, _⟩ := h; trivial

/-- A value that is one cell. -/
theorem CRel.toV (h : CRel bl M w v x) : VRel bl M w v x := by
  cases x <;> try exact h
  case any => trivial
  case agg cells => exact (by simp only [CRel, PRel] at h; cases h)
  case tup vs => exact (by simp only [CRel, PRel] at h; cases h)
theorem CRel.toG (h : CRel bl M w v x) : GRel bl M w v x := by
  cases x <;> try exact h
  case agg cells => exact (by simp only [CRel, PRel] at h; cases h)
theorem GRel.toV (h : GRel bl M w v x) : VRel bl M w v x := by
  cases x <;> try exact h
  case any => trivial
  case tup vs => exact (by simp only [GRel, CRel, PRel] at h; cases h)
theorem IRel.toC (h : IRel M w v x) : CRel bl M w v x := by
  cases x <;> try exact h
  case ms => cases h
  case mp => cases h
  case fn => cases h
end

/-! ### The objects that are still written -/

structure AObj where
  t : TypeId
  st : Nat
  rows : List (List AV)
  isRec : Bool
  deriving Inhabited

/-- A cell of an object. -/
def ORel (r : Bool) (bl : Nat → Option Nat) (M : Nat → Prop) (w : World) (v : Value) (x : AV) : Prop :=
  match r with
  | true => CRel bl M w v x
  | false => IRel M w v x

def unfrozen (c : Array Value) (fr : Nat × Nat) : Prop := ∀ j, j < c.size → ¬ (fr.1 ≤ j ∧ j < fr.2)

/-- The object 'o' lies in block 'b'. -/
def OBlock (bl : Nat → Option Nat) (M MF : Nat → Prop) (w : World) (o : AObj) (b : Nat) : Prop :=
  ∃ c fr, w.heap[b]? = some (.cells c o.t fr) ∧ unfrozen c fr ∧ ¬ MF b ∧ (∀ (i : Nat) (r : List AV), o.rows[i]? = some r → r.length = o.st) ∧ o.rows.length * o.st ≤ c.size ∧
    ∀ (i j : Nat) (r : List AV) (x : AV), o.rows[i]? = some r → r[j]? = some x → ∃ v, c[i * o.st + j]? = some v ∧ ORel o.isRec bl M w v x

def HRel (bl : Nat → Option Nat) (M MF : Nat → Prop) (w : World) (h : Nat → Option AObj) : Prop :=
  (∀ id o, h id = some o → (o.rows = [] ∧ o.isRec = false ∧ bl id = none) ∨ ∃ b, bl id = some b ∧ OBlock bl M MF w o b) ∧
  ∀ id id' o o' b, h id = some o → h id' = some o' → bl id = some b → bl id' = some b → id = id'

def Mut (bl : Nat → Option Nat) (MF : Nat → Prop) (h : Nat → Option AObj) (b : Nat) : Prop := MF b ∨ ∃ id o, h id = some o ∧ bl id = some b

structure Stp (W : Nat → Prop) (w w' : World) : Prop where
  size : w.heap.size ≤ w'.heap.size
  keep : ∀ b, b < w.heap.size → ¬ W b → w'.heap[b]? = w.heap[b]?
  shape : ∀ (b : Nat) (c : Array Value) (t : TypeId) (fr : Nat × Nat), w.heap[b]? = some (.cells c t fr) → ∃ c' : Array Value, w'.heap[b]? = some (.cells c' t fr) ∧ c'.size = c.size
  os : w'.os = w.os
  out : w'.output = w.output

theorem Stp.refl (W : Nat → Prop) (w : World) : Stp W w w := ⟨Nat.le_refl _, fun _ _ _ => rfl, fun _ c _ _ h => ⟨c, h, rfl⟩, rfl, rfl⟩
theorem Stp.trans {W X : Nat → Prop} {w w' w'' : World} (h : Stp W w w') (h' : Stp X w' w'') (hx : ∀ b, b < w.heap.size → X b → W b) : Stp W w w'' where
  size := Nat.le_trans h.size h'.size
  keep b hb hw := (h'.keep b (Nat.lt_of_lt_of_le hb h.size) (fun hX => hw (hx b hb hX))).trans (h.keep b hb hw)
  shape b c t fr hb := by
    obtain ⟨c', h1, h2⟩ := h.shape b c t fr hb
    obtain ⟨c'', h3, h4⟩ := h'.shape b c' t fr h1
    exact ⟨c'', h3, h4.trans h2⟩
  os := h'.os.trans h.os
  out := h'.out.trans h.out

/-- What the program finds laid before it, and leaves as it is: tables in blocks 'B'. -/
structure TabT where
  B : Nat → Prop
  H : World → Prop
  env : List (Nat × AV)
  rel : ∀ (w : World) (M : Nat → Prop), H w → (∀ b, B b → ¬ M b) → ∀ p ∈ env, 1000000 ≤ p.1 ∧ IRel M w (.pointer (some ⟨p.1 - 1000000, 0, none⟩)) p.2
  stay : ∀ w w' : World, H w → (∀ b, B b → w'.heap[b]? = w.heap[b]?) → H w'
  low : ∀ w : World, H w → ∀ b, B b → b < w.heap.size
/-- No table. -/
def TabT.no : TabT := ⟨fun _ => False, fun _ => True, [], fun _ _ _ _ p hp => (by cases hp), fun _ _ _ _ => trivial, fun _ _ _ h => h.elim⟩
class Tabs (P : Program) where
  T : TabT

structure Ctx where
  w0 : World
  bl0 : Nat → Option Nat
  W : Nat → Prop
  MF : Nat → Prop
  n : Nat
  T : TabT
  tH : T.H w0
  tW : ∀ b, T.B b → ¬ W b
  tM : ∀ b, T.B b → ¬ MF b
  hn : n ≤ 1000000

/-- The tables are the program's. -/
class CT (c : Ctx) (P : Program) [Tabs P] : Prop where
  eq : c.T = Tabs.T P

/-- What lies in a slot; the slots from 1000000 on stand for the addresses of the package-level variables. -/
def tv (a : Act) (k : Nat) : Value := if k < 1000000 then a.tmps.getD k undef else .pointer (some ⟨k - 1000000, 0, none⟩)
theorem tv_lo {a : Act} {k : Nat} (h : k < 1000000) : tv a k = a.tmps.getD k undef := if_pos h
theorem tv_lo' {a : Act} {k : Nat} (h : ∀ b, tv a k ≠ .pointer b) : k < 1000000 ∧ tv a k = a.tmps.getD k undef := by
  rcases Nat.lt_or_ge k 1000000 with hl | hl
  · exact ⟨hl, tv_lo hl⟩
  · exact absurd (if_neg (by omega)) (h (some ⟨k - 1000000, 0, none⟩))

structure SatB (c : Ctx) (bl : Nat → Option Nat) (g : Nat → AV) (h : Nat → Option AObj) (a : Act) (w : World) : Prop where
  defers : a.defers = []
  size : a.tmps.size = c.n
  env : ∀ k, VRel bl (Mut bl c.MF h) w (tv a k) (g k)
  heap : HRel bl (Mut bl c.MF h) c.MF w h
  step : Stp c.W c.w0 w
  own : ∀ id o b, h id = some o → bl id = some b → c.w0.heap.size ≤ b ∨ c.W b
  stab : ∀ id, 1000 ≤ id → id < 2000 → bl id = c.bl0 id
  mf : ∀ b, c.MF b → b < c.w0.heap.size

def Sat (c : Ctx) (g : Nat → AV) (h : Nat → Option AObj) (a : Act) (w : World) : Prop := ∃ bl, SatB c bl g h a w

def upd {α : Type} (f : Nat → α) (k : Nat) (x : α) : Nat → α := fun j => if j = k then x else f j

theorem upd_same {α : Type} (f : Nat → α) (k : Nat) (x : α) : upd f k x k = x := by simp [upd]
theorem upd_ne {α : Type} (f : Nat → α) {k j : Nat} (x : α) (h : j ≠ k) : upd f k x j = f j := by simp [upd, h]

theorem put_getD (a : Act) (d : Nat) (v : Value) (k : Nat) (hd : d < a.tmps.size) : (a.put (some d) v).tmps.getD k undef = if k = d then v else a.tmps.getD k undef := by
  simp only [Act.put]
  by_cases h : k = d
  · subst h; simp [Array.getD_eq_getD_getElem?, hd]
  · have h' : ¬ d = k := fun e => h e.symm
    simp [h, h', Array.getD_eq_getD_getElem?, Array.getElem?_setIfInBounds]

theorem tv_put (a : Act) (d : Nat) (v : Value) (k : Nat) (hd : d < a.tmps.size) (hd' : d < 1000000) : tv (a.put (some d) v) k = if k = d then v else tv a k := by
  unfold tv
  by_cases hk : k < 1000000
  · rw [if_pos hk, if_pos hk, put_getD a d v k hd]
  · rw [if_neg hk, if_neg hk, if_neg (by omega)]

section
variable {c : Ctx} {bl : Nat → Option Nat} {g : Nat → AV} {h : Nat → Option AObj} {a : Act} {w : World}

theorem SatB.put (s : SatB c bl g h a w) {d : Nat} {v : Value} {x : AV} (hd : d < c.n) (hv : VRel bl (Mut bl c.MF h) w v x) :
    SatB c bl (upd g d x) h (a.put (some d) v) w where
  defers := s.defers
  size := by simpa [Act.put] using s.size
  env k := by
    rw [tv_put a d v k (by rw [s.size]; exact hd) (Nat.lt_of_lt_of_le hd c.hn)]
    by_cases hk : k = d
    · subst hk; simpa [upd] using hv
    · simpa [upd, hk] using s.env k
  heap := s.heap
  step := s.step
  own := s.own
  stab := s.stab
  mf := s.mf

theorem SatB.world (s : SatB c bl g h a w) {w' : World} (hh : w'.heap = w.heap) (ho : w'.os = w.os) (hp : w'.output = w.output) : SatB c bl g h a w' := by
  have ht : Tr (Mut bl c.MF h) (Mut bl c.MF h) w w' := ⟨fun b hb _ => ⟨hb, by rw [hh]⟩, fun b c t fr hb => ⟨c, by rw [hh]; exact hb, rfl⟩⟩
  refine ⟨s.defers, s.size, fun k => (s.env k).tr ht (fun _ _ => rfl), ⟨fun id o hi => ?_, s.heap.2⟩, ?_, s.own, s.stab, s.mf⟩
  · rcases s.heap.1 id o hi with h1 | ⟨b, h1, c1, fr, h2, h3, h4, h5, h6, h7⟩
    · exact .inl h1
    · refine .inr ⟨b, h1, c1, fr, by rw [hh]; exact h2, h3, h4, h5, h6, fun i j r x hr hx => ?_⟩
      obtain ⟨v, hv1, hv2⟩ := h7 i j r x hr hx
      refine ⟨v, hv1, ?_⟩
      cases hrec : o.isRec <;> simp only [hrec, ORel] at hv2 ⊢
      · exact hv2.tr ht.keep
      · exact hv2.tr ht (fun _ _ => rfl)
  · exact s.step.trans (X := fun _ => False) ⟨by rw [hh]; exact Nat.le_refl _, fun b _ _ => by rw [hh], fun b c t fr hb => ⟨c, by rw [hh]; exact hb, rfl⟩, ho, hp⟩ (fun _ _ h => h.elim)

/-- A weaker state: slots forgotten, objects forgotten. -/
theorem SatB.weaken (s : SatB c bl g h a w) {g' : Nat → AV} {h' : Nat → Option AObj} (hg : ∀ k, g' k = .any ∨ g' k = g k) (hh : ∀ i o, h' i = some o → h i = some o) : SatB c bl g' h' a w := by
  have ht : Tr (Mut bl c.MF h) (Mut bl c.MF h') w w := ⟨fun b hb _ => ⟨fun hm => hb (by
    rcases hm with hm | ⟨id, o, h1, h2⟩
    · exact .inl hm
    · exact .inr ⟨id, o, hh id o h1, h2⟩), rfl⟩, fun b c t fr hb => ⟨c, hb, rfl⟩⟩
  refine ⟨s.defers, s.size, fun k => ?_, ⟨fun id o hi => ?_, fun id id' o o' b h1 h2 => s.heap.2 id id' o o' b (hh _ _ h1) (hh _ _ h2)⟩, s.step, fun id o b h1 => s.own id o b (hh _ _ h1), s.stab, s.mf⟩
  · rcases hg k with hk | hk
    · rw [hk]; trivial
    · rw [hk]; exact (s.env k).tr ht (fun _ _ => rfl)
  · rcases s.heap.1 id o (hh _ _ hi) with h1 | ⟨b, h1, c1, fr, h2, h3, h4, h5, h6, h7⟩
    · exact .inl h1
    · refine .inr ⟨b, h1, c1, fr, h2, h3, h4, h5, h6, fun i j r x hr hx => ?_⟩
      obtain ⟨v, hv1, hv2⟩ := h7 i j r x hr hx
      refine ⟨v, hv1, ?_⟩
      cases hrec : o.isRec <;> simp only [hrec, ORel] at hv2 ⊢
      · exact hv2.tr ht.keep
      · exact hv2.tr ht (fun _ _ => rfl)
end
end Go.Mw
