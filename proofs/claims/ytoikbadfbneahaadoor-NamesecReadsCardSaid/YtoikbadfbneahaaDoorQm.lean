/-
  The tables of unicode/utf8, as the rows list them.
-/
import Derived.Test.YtoikbadfbneahaaDoorCards
import Derived.Test.YtoikbadfbneahaaDoorTie
import Derived.Test.YtoikbadfbneahaaDoorQe
import Derived.WalkKit
import Derived.ProofKit
import Derived.OpenShut
import Derived.Deep.DeepHandedRow
import Derived.Lib.LaidU8T
import Derived.Test.YtoikbadfbneahaaDoorQk
import Derived.Test.YtoikbadfbneahaaDoorQc
import Derived.Test.YtoikbadfbneahaaDoorQf
set_option linter.unusedVariables false
set_option linter.unusedSimpArgs false
set_option linter.unusedSectionVars false
set_option maxRecDepth 100000
set_option linter.unusedVariables false
namespace Go.Proofs.YtoikbadfbneahaaDoor
open Go Go.Mw
open Go.ChangeShapes Go.WideShapes Go.ChangeAt Go.RowKit

theorem own : ownKnob Tryd.prog.godebug = none := by kernel_rfl
theorem laidOut : laidOutB Tryd.prog = true := by kernel_rfl
def ren : Go.Shelf.Ren := ⟨fun x => x, fun t => if t = 119 then 174 else if t = 138 then 176 else if t = 139 then 177 else 5, fun g => if g = 3 then 0 else 1⟩
theorem u8t : U8Types Tryd.prog ren := ⟨by kernel_rfl, by kernel_rfl, by kernel_rfl, by kernel_rfl⟩
theorem u8x : U8Extra Tryd.prog ren := ⟨by kernel_rfl, by kernel_rfl, by kernel_rfl, by kernel_rfl, by kernel_rfl, by kernel_rfl, by kernel_rfl⟩
theorem accD : (Rows.laid_unicode_utf8_acceptRanges : DataW Unit) = Lib.acceptData := by kernel_rfl
theorem fstD : Rows.laid_unicode_utf8_first = Lib.firstData := by kernel_rfl
theorem tabs_of {W : World} (h : laidMetH Tryd.prog Rows.namesecFindsRow.laid W) : Lib.Utf8Tabs 0 1 W := by
  have h1 := Lib.laidMet.reads h (.head _)
  have h2 := Lib.laidMet.reads h (.tail _ (.head _))
  rw [accD] at h1
  rw [fstD] at h2
  exact utf8Tabs_of_readsT u8t u8x h2 h1

def lay (cs : List Value) : Obj → Obj
  | .cells _ t frozen => .cells cs.toArray t frozen
  | o => o
noncomputable def laidWorld (os : Os) : World :=
  { World.holding Tryd.prog os ⟨#[], #[], []⟩ with heap := ((World.holding Tryd.prog os ⟨#[], #[], []⟩).heap.modify 0 (lay ((List.range 256).map fun c => Value.int .u8 (Lib.firstT c)))).modify 1 (lay ((List.range 32).map fun i => Value.int .u8 (if i % 2 = 0 then Lib.accLo (i / 2) else Lib.accHi (i / 2)))) }
end Go.Proofs.YtoikbadfbneahaaDoor
set_option maxRecDepth 100000
set_option maxHeartbeats 4000000
set_option linter.unusedVariables false
set_option linter.unusedSimpArgs false
namespace Go.Proofs.YtoikbadfbneahaaDoor
open Go Go.Mw
open Go.ChangeShapes Go.WideShapes Go.ChangeAt Go.RowKit

def bL {α : Type} (p : Nat → α → Prop) (B : Nat) (l : List α) : Prop := l.length ≤ B ∧ ∀ a ∈ l, p B a
def El1 {α : Type} (τ : Ty) (f : α → List AV) (p : Nat → α → Prop) : Prop := ∀ r, τ.ok r → ∃ a, All2 Nd r (f a) ∧ p maxLen a ∧ ∀ B, τ.bd B r → p B a
theorem rowsN {α : Type} {τ : Ty} {f : α → List AV} {p : Nat → α → Prop} (h : El1 τ f p) : ∀ {rows : List (List AV)}, (∀ r ∈ rows, τ.ok r) → ∃ l : List α, All2 (All2 Nd) rows (l.map f) ∧ (∀ a ∈ l, p maxLen a) ∧ ∀ B, (∀ r ∈ rows, τ.bd B r) → ∀ a ∈ l, p B a
  | [], _ => ⟨[], trivial, (fun a h => by cases h), (fun _ _ a h => by cases h)⟩
  | r :: rows, hr => by
    obtain ⟨a, h1, h2, h3⟩ := h r (hr r (by simp))
    obtain ⟨l, g1, g2, g3⟩ := rowsN h (rows := rows) fun r hr' => hr r (by simp [hr'])
    refine ⟨a :: l, ⟨h1, g1⟩, fun b hb => ?_, fun B hB b hb => ?_⟩
    · rcases List.mem_cons.1 hb with rfl | hb
      · exact h2
      · exact g2 b hb
    · rcases List.mem_cons.1 hb with rfl | hb
      · exact h3 B (hB r (by simp))
      · exact g3 B (fun r hr' => hB r (by simp [hr'])) b hb
theorem ndRows {st : Nat} {rows rows' : List (List AV)} (h : All2 (All2 Nd) rows rows') : Nd (.sl st rows) (.sl st rows') := by
  refine .sl st _ _ h.length (fun i r r' h1 h2 => ?_) (fun i j r r' x y h1 h2 h3 h4 => ?_)
  · obtain ⟨a, e1, e2⟩ := h.get h2
    obtain rfl := Option.some.inj (h1.symm.trans e1)
    exact e2.length
  · obtain ⟨a, e1, e2⟩ := h.get h2
    obtain rfl := Option.some.inj (h1.symm.trans e1)
    obtain ⟨b, e3, e4⟩ := e2.get h4
    obtain rfl := Option.some.inj (h3.symm.trans e3)
    exact e4
theorem slN {α : Type} {τ : Ty} {f : α → List AV} {p : Nat → α → Prop} (h : El1 τ f p) {r : List AV} (hr : (Ty.sl τ).ok r) : ∃ x l, r = [x] ∧ Nd x (.sl τ.n (l.map f)) ∧ bL p maxLen l ∧ ∀ B, (Ty.sl τ).bd B [x] → bL p B l := by
  rcases hr with rfl | ⟨rows, rfl, h2, h3⟩
  · exact ⟨_, [], rfl, .nl _, ⟨Nat.zero_le _, fun a h => by cases h⟩, fun B _ => ⟨Nat.zero_le _, fun a h => by cases h⟩⟩
  · obtain ⟨l, g1, g2, g3⟩ := rowsN h h3
    have hl := g1.length
    rw [List.length_map] at hl
    refine ⟨_, l, rfl, ndRows g1, ⟨by omega, g2⟩, fun B hB => ?_⟩
    obtain ⟨q1, q2⟩ := hB _ _ rfl
    exact ⟨by omega, g3 B q2⟩
theorem slNV {α : Type} {τ : Ty} {f : α → List AV} {p : Nat → α → Prop} (h : El1 τ f p) {x : AV} (hx : (Ty.sl τ).okV x) : ∃ l, nld x (.sl τ.n (l.map f)) ∧ bL p maxLen l ∧ ∀ B, (Ty.sl τ).bdV B x → bL p B l := by
  obtain ⟨y, l, h1, h2, h3, h4⟩ := slN h (r := [x]) hx
  simp only [List.cons.injEq, and_true] at h1
  subst h1
  exact ⟨l, .inl h2, h3, fun B hB => h4 B hB⟩
theorem u8_wf7 {n : Int} (h : (Lit.int .u8 n).wf = true) : 0 ≤ n ∧ n ≤ 255 := by simpa [Lit.wf, IntKind.min, IntKind.max, IntKind.signed, IntKind.bits] using h
def noB {α : Type} (_ : Nat) (_ : α) : Prop := True
theorem el_by : El1 (.int .u8) by_ noB := fun r h => by
  obtain ⟨n, rfl, hw⟩ := h
  have hn := u8_wf7 hw
  refine ⟨UInt8.ofNat n.toNat, ?_, trivial, fun _ _ => trivial⟩
  rw [by_of (by omega), show ((n.toNat : Nat) : Int) = n by omega]
  exact ⟨.rfl _, trivial⟩

-- names
theorem bytesV {x : AV} (h : (Ty.sl (.int .u8)).okV x) : ∃ l : List UInt8, nld x (.sl 1 (l.map by_)) ∧ l.length ≤ maxLen ∧ ∀ B, (Ty.sl (.int .u8)).bdV B x → l.length ≤ B := by
  obtain ⟨l, h1, h2, h3⟩ := slNV el_by h
  exact ⟨l, h1, h2.1, fun B hB => (h3 B hB).1⟩
theorem ok_1 {τ : Ty} {xs : List AV} (h : All2 Ty.okV [τ] xs) : ∃ x, xs = [x] ∧ τ.okV x := by
  match xs, h with
  | [x], h => exact ⟨x, rfl, h.1⟩
theorem tyM43 : tyOf Tryd.prog 9 43 = some (.sl (.int .u8)) := by kernel_rfl
end Go.Proofs.YtoikbadfbneahaaDoor
set_option maxRecDepth 100000
set_option maxHeartbeats 4000000
set_option linter.unusedVariables false
namespace Go.Proofs.YtoikbadfbneahaaDoor
open Go Go.Mw
open Go.ChangeShapes Go.WideShapes Go.ChangeAt Go.RowKit

end Go.Proofs.YtoikbadfbneahaaDoor
