/-
  The tables of unicode/utf8, as the rows list them.
-/
import Derived.Test.YtoikbadfbneahaaGreatDoorCards
import Derived.Test.YtoikbadfbneahaaGreatDoorTie
import Derived.Test.YtoikbadfbneahaaGreatDoorQe
import Derived.WalkKit
import Derived.ProofKit
import Derived.OpenShut
import Derived.Deep.DeepHandedRow
import Derived.Lib.LaidU8T
import Derived.Test.YtoikbadfbneahaaGreatDoorQk
import Derived.Test.YtoikbadfbneahaaGreatDoorQc
import Derived.Test.YtoikbadfbneahaaGreatDoorQf
set_option linter.unusedVariables false
set_option linter.unusedSimpArgs false
set_option linter.unusedSectionVars false
set_option maxRecDepth 100000
set_option linter.unusedVariables false
namespace Go.Proofs.YtoikbadfbneahaaGreatDoor
open Go Go.Mw
open Go.ChangeShapes Go.WideShapes Go.ChangeAt Go.RowKit

theorem own : ownKnob Tryz.prog.godebug = none := by kernel_rfl
theorem laidOut : laidOutB Tryz.prog = true := by kernel_rfl
def ren : Go.Shelf.Ren := ⟨fun x => x, fun t => if t = 119 then 208 else if t = 138 then 210 else if t = 139 then 211 else 5, fun g => if g = 3 then 0 else 1⟩
theorem u8t : U8Types Tryz.prog ren := ⟨by kernel_rfl, by kernel_rfl, by kernel_rfl, by kernel_rfl⟩
theorem u8x : U8Extra Tryz.prog ren := ⟨by kernel_rfl, by kernel_rfl, by kernel_rfl, by kernel_rfl, by kernel_rfl, by kernel_rfl, by kernel_rfl⟩
theorem accD : (Rows.laid_unicode_utf8_acceptRanges : DataW Unit) = Lib.acceptData := by kernel_rfl
theorem fstD : Rows.laid_unicode_utf8_first = Lib.firstData := by kernel_rfl
theorem tabs_of {W : World} (h : laidMetH Tryz.prog Rows.namesecChecksRow.laid W) : Lib.Utf8Tabs 0 1 W := by
  have h1 := Lib.laidMet.reads h (.head _)
  have h2 := Lib.laidMet.reads h (.tail _ (.head _))
  rw [accD] at h1
  rw [fstD] at h2
  exact utf8Tabs_of_readsT u8t u8x h2 h1

def lay (cs : List Value) : Obj → Obj
  | .cells _ t frozen => .cells cs.toArray t frozen
  | o => o
noncomputable def laidWorld (os : Os) : World :=
  { World.holding Tryz.prog os ⟨#[], #[], []⟩ with heap := ((World.holding Tryz.prog os ⟨#[], #[], []⟩).heap.modify 0 (lay ((List.range 256).map fun c => Value.int .u8 (Lib.firstT c)))).modify 1 (lay ((List.range 32).map fun i => Value.int .u8 (if i % 2 = 0 then Lib.accLo (i / 2) else Lib.accHi (i / 2)))) }
end Go.Proofs.YtoikbadfbneahaaGreatDoor
set_option maxRecDepth 100000
set_option maxHeartbeats 4000000
set_option linter.unusedVariables false
set_option linter.unusedSimpArgs false
namespace Go.Proofs.YtoikbadfbneahaaGreatDoor
open Go Go.Mw
open Go.ChangeShapes Go.WideShapes Go.ChangeAt Go.RowKit

def bL {α : Type} (p : Nat → α → Prop) (B : Nat) (l : List α) : Prop := l.length ≤ B ∧ ∀ a ∈ l, p B a
def El1 {α : Type} (τ : Ty) (f : α → List AV) (p : Nat → α → Prop) : Prop := ∀ r, τ.ok r → ∃ a, All2 Nd r (f a) ∧ p maxLen a ∧ ∀ B, τ.bd B r → p B a
theorem rowsN {α : Type} {τ : Ty} {f : α → List AV} {p : Nat → α → Prop} (h : El1 τ f p) : ∀ {rows : List (List AV)}, (∀ r ∈ rows, τ.ok r) → ∃ l : List α, All2 (All2 Nd) rows (l.map f) ∧ (∀ a ∈ l, p maxLen a) ∧ ∀ B, (∀ r ∈ rows, τ.bd B r) → ∀ a ∈ l, p B a
  | [], _ => ⟨[], trivial, (fun a h => by cases h), (fun _ _ a h => by cases h)⟩
  | r :: rows, hr => by
    obtain ⟨a, h1, h2, h3⟩ := h r (hr r (by simp))
    obtain ⟨l, g1, g2, g3⟩ := rowsN h (rows := rows) fun r hr' => hr r (by simp [hr'])
    refine ⟨a :: l, ⟨h1, g1⟩, fun b hb => ?_, fun B hB b hb => ?_⟩
    · rcases List.mem_cons.1 hb with rfl | hb
      · exact h2
      · exact g2 b hb
    · rcases List.mem_cons.1 hb with rfl | hb
      · exact h3 B (hB r (by simp))
      · exact g3 B (fun r hr' => hB r (by simp [hr'])) b hb
theorem ndRows {st : Nat} {rows rows' : List (List AV)} (h : All2 (All2 Nd) rows rows') : Nd (.sl st rows) (.sl st rows') := by
  refine .sl st _ _ h.length (fun i r r' h1 h2 => ?_) (fun i j r r' x y h1 h2 h3 h4 => ?_)
  · obtain ⟨a, e1, e2⟩ := h.get h2
    obtain rfl := Option.some.inj (h1.symm.trans e1)
    exact e2.length
  · obtain ⟨a, e1, e2⟩ := h.get h2
    obtain rfl := Option.some.inj (h1.symm.trans e1)
    obtain ⟨b, e3, e4⟩ := e2.get h4
    obtain rfl := Option.some.inj (h3.symm.trans e3)
    exact e4
theorem slN {α : Type} {τ : Ty} {f : α → List AV} {p : Nat → α → Prop} (h : El1 τ f p) {r : List AV} (hr : (Ty.sl τ).ok r) : ∃ x l, r = [x] ∧ Nd x (.sl τ.n (l.map f)) ∧ bL p maxLen l ∧ ∀ B, (Ty.sl τ).bd B [x] → bL p B l := by
  rcases hr with rfl | ⟨rows, rfl, h2, h3⟩
  · exact ⟨_, [], rfl, .nl _, ⟨Nat.zero_le _, fun a h => by cases h⟩, fun B _ => ⟨Nat.zero_le _, fun a h => by cases h⟩⟩
  · obtain ⟨l, g1, g2, g3⟩ := rowsN h h3
    have hl := g1.length
    rw [List.length_map] at hl
    refine ⟨_, l, rfl, ndRows g1, ⟨by omega, g2⟩, fun B hB => ?_⟩
    obtain ⟨q1, q2⟩ := hB _ _ rfl
    exact ⟨by omega, g3 B q2⟩
theorem recV {α : Type} {τ : Ty} {f : α → List AV} {p : Nat → α → Prop} (h : El1 τ f p) (hr : τ.isRec = true) {x : AV} (hx : τ.okV x) : ∃ a, nld x (.agg (f a)) ∧ p maxLen a ∧ ∀ B, τ.bdV B x → p B a := by
  unfold Ty.okV at hx
  rw [hr] at hx
  obtain ⟨xs, rfl, hx⟩ := hx
  obtain ⟨a, h1, h2, h3⟩ := h xs hx
  refine ⟨a, .inr ⟨_, _, rfl, rfl, h1⟩, h2, fun B hB => h3 B ?_⟩
  unfold Ty.bdV at hB
  rw [hr] at hB
  exact hB _ rfl
theorem ok_1 {τ : Ty} {xs : List AV} (h : All2 Ty.okV [τ] xs) : ∃ x, xs = [x] ∧ τ.okV x := by
  match xs, h with
  | [x], h => exact ⟨x, rfl, h.1⟩
end Go.Proofs.YtoikbadfbneahaaGreatDoor
set_option maxRecDepth 100000
set_option maxHeartbeats 4000000
set_option linter.unusedVariables false
namespace Go.Proofs.YtoikbadfbneahaaGreatDoor
open Go Go.Mw
open Go.ChangeShapes Go.WideShapes Go.ChangeAt Go.RowKit

def tyNm : Ty := .cons (.int .i64) (.cons .str .nil)
def bNm (B : Nat) (n : Nm) : Prop := n.s.length ≤ B
theorem el_Nm : El1 tyNm nm_ bNm := fun r h => by
  obtain ⟨_, _, rfl, ⟨i, rfl, w_i⟩, _, _, rfl, ⟨s, rfl, w_s⟩, rfl⟩ := h
  exact ⟨⟨i, s⟩, ⟨.rfl _, .rfl _, trivial⟩, w_s, fun B hB => hB.2.1 _ rfl⟩
def tyLc : Ty := .cons (.int .i64) (.cons (.sl tyNm) .nil)
def bLc (B : Nat) (x : Lc) : Prop := bL bNm B x.l
theorem el_Lc : El1 tyLc lc_ bLc := fun r h => by
  obtain ⟨_, _, rfl, ⟨i, rfl, w_i⟩, _, _, rfl, h_l, rfl⟩ := h
  obtain ⟨x, l, rfl, d, m, b⟩ := slN el_Nm h_l
  exact ⟨⟨i, l⟩, ⟨.rfl _, d, trivial⟩, m, fun B hB => b B hB.2.1⟩
def tyNs : Ty := .cons .str (.cons (.sl tyNm) (.cons (.sl tyLc) .nil))
def bNs (B : Nat) (n : Ns) : Prop := n.m.length ≤ B ∧ bL bNm B n.fs ∧ bL bLc B n.ls
theorem el_Ns : El1 tyNs nsC bNs := fun r h => by
  obtain ⟨_, _, rfl, ⟨s, rfl, w_s⟩, _, _, rfl, h_f, _, _, rfl, h_l, rfl⟩ := h
  obtain ⟨x, l, rfl, d, m, b⟩ := slN el_Nm h_f
  obtain ⟨x2, l2, rfl, d2, m2, b2⟩ := slN el_Lc h_l
  exact ⟨⟨s, l, l2⟩, ⟨.rfl _, d, d2, trivial⟩, ⟨w_s, m, m2⟩, fun B hB => ⟨hB.1 _ rfl, b B hB.2.1, b2 B hB.2.2.1⟩⟩
theorem tyM25 : tyOf Tryz.prog 9 25 = some tyNs := by kernel_rfl
theorem blk_part {H : Type} {d : DataW H} {l : List (DataW H)} (h : d ∈ l) : Rows.uptoBulk d ≤ Rows.uptoBulkAll l := by
  induction l with
  | nil => cases h
  | cons x r ih =>
    simp only [Rows.uptoBulkAll]
    cases List.mem_cons.1 h with
    | inl e => subst e; omega
    | inr e => have := ih e; omega
theorem blk_one {H : Type} (d : DataW H) : 1 ≤ Rows.uptoBulk d := by
  cases d with
  | lit l => cases l <;> simp [Rows.uptoBulk]
  | nil => simp [Rows.uptoBulk]
  | ptr d => simp [Rows.uptoBulk]
  | slice elems spare => simp [Rows.uptoBulk]
  | agg parts => simp [Rows.uptoBulk]
  | iface t d => simp [Rows.uptoBulk]
  | map entries => simp [Rows.uptoBulk]
  | held h => simp [Rows.uptoBulk]
theorem blk_len {H : Type} (l : List (DataW H)) : l.length ≤ Rows.uptoBulkAll l := by
  induction l with
  | nil => simp [Rows.uptoBulkAll]
  | cons x r ih => have := blk_one x; simp only [Rows.uptoBulkAll, List.length_cons]; omega
def bk14 (H : Type) : Bk H where
  f := Rows.uptoBulk
  str l := by simp [Rows.uptoBulk]
  sl es sp := by have := blk_len es; simp only [Rows.uptoBulk]; omega
  sle es sp d hd := by have := blk_part hd; simp only [Rows.uptoBulk]; omega
  ag ps d hd := by have := blk_part hd; simp only [Rows.uptoBulk]; omega
theorem bk_small {H : Type} {ds : List (DataW H)} (h : Rows.uptoSmall H ds = true) : ∀ d ∈ ds, (bk14 H).f d ≤ 1048576 := fun d hd => Nat.le_trans (blk_part hd) (of_decide_eq_true h)
end Go.Proofs.YtoikbadfbneahaaGreatDoor
