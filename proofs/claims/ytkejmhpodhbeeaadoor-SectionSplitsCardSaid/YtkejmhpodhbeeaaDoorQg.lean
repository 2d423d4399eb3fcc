/-
  The tables of unicode/utf8, as the rows list them.
-/
import Derived.Test.YtkejmhpodhbeeaaDoorCards
import Derived.Test.YtkejmhpodhbeeaaDoorTie
import Derived.Test.YtkejmhpodhbeeaaDoorQd
import Derived.WalkKit
import Derived.ProofKit
import Derived.OpenShut
import Derived.Deep.DeepHandedRow
import Derived.Lib.LaidU8T
import Derived.Test.YtkejmhpodhbeeaaDoorQh
set_option linter.unusedVariables false
set_option linter.unusedSimpArgs false
set_option linter.unusedSectionVars false
set_option maxRecDepth 100000
set_option linter.unusedVariables false
namespace Go.Proofs.YtkejmhpodhbeeaaDoor
open Go Go.Mw
open Go.ChangeShapes Go.WideShapes Go.ChangeAt Go.RowKit

theorem own : ownKnob Tryd.prog.godebug = none := by kernel_rfl
theorem laidOut : laidOutB Tryd.prog = true := by kernel_rfl
def ren : Go.Shelf.Ren := ⟨fun x => x, fun t => if t = 119 then 138 else if t = 138 then 140 else if t = 139 then 141 else 5, fun g => if g = 3 then 0 else 1⟩
theorem u8t : U8Types Tryd.prog ren := ⟨by kernel_rfl, by kernel_rfl, by kernel_rfl, by kernel_rfl⟩
theorem u8x : U8Extra Tryd.prog ren := ⟨by kernel_rfl, by kernel_rfl, by kernel_rfl, by kernel_rfl, by kernel_rfl, by kernel_rfl, by kernel_rfl⟩
theorem accD : (Rows.laid_unicode_utf8_acceptRanges : DataW Unit) = Lib.acceptData := by kernel_rfl
theorem fstD : Rows.laid_unicode_utf8_first = Lib.firstData := by kernel_rfl
theorem tabs_of {W : World} (h : laidMetH Tryd.prog Rows.octetOwnRow.laid W) : Lib.Utf8Tabs 0 1 W := by
  have h1 := Lib.laidMet.reads h (.head _)
  have h2 := Lib.laidMet.reads h (.tail _ (.head _))
  rw [accD] at h1
  rw [fstD] at h2
  exact utf8Tabs_of_readsT u8t u8x h2 h1

def lay (cs : List Value) : Obj → Obj
  | .cells _ t frozen => .cells cs.toArray t frozen
  | o => o
noncomputable def laidWorld (os : Os) : World :=
  { World.holding Tryd.prog os ⟨#[], #[], []⟩ with heap := ((World.holding Tryd.prog os ⟨#[], #[], []⟩).heap.modify 0 (lay ((List.range 256).map fun c => Value.int .u8 (Lib.firstT c)))).modify 1 (lay ((List.range 32).map fun i => Value.int .u8 (if i % 2 = 0 then Lib.accLo (i / 2) else Lib.accHi (i / 2)))) }
end Go.Proofs.YtkejmhpodhbeeaaDoor
set_option maxRecDepth 100000
set_option linter.unusedVariables false
namespace Go.Proofs.YtkejmhpodhbeeaaDoor
open Go Go.Mw
open Go.ChangeShapes Go.WideShapes Go.ChangeAt Go.RowKit

theorem map_of {α : Type} {f : α → List AV} {p : α → Prop} : ∀ {rows : List (List AV)}, (∀ r ∈ rows, ∃ a, r = f a ∧ p a) → ∃ l : List α, rows = l.map f ∧ ∀ a ∈ l, p a
  | [], _ => ⟨[], rfl, fun a h => by cases h⟩
  | r :: rows, h => by
    obtain ⟨a, rfl, hp⟩ := h r (by simp)
    obtain ⟨l, rfl, hl⟩ := map_of (f := f) (p := p) (rows := rows) fun r hr => h r (by simp [hr])
    exact ⟨a :: l, rfl, fun b hb => by rcases List.mem_cons.1 hb with rfl | hb; exact hp; exact hl b hb⟩
theorem u8_wf {n : Int} (h : (Lit.int .u8 n).wf = true) : 0 ≤ n ∧ n ≤ 255 := by simpa [Lit.wf, IntKind.min, IntKind.max, IntKind.signed, IntKind.bits] using h
theorem i64_wf {n : Int} (h : (Lit.int .i64 n).wf = true) : inI n := by
  have : -9223372036854775808 ≤ n ∧ n ≤ 9223372036854775807 := by simpa [Lit.wf, IntKind.min, IntKind.max, IntKind.signed, IntKind.bits] using h
  unfold inI
  omega
theorem u64_wf {n : Int} (h : (Lit.int .u64 n).wf = true) : 0 ≤ n ∧ n < 18446744073709551616 := by
  have : 0 ≤ n ∧ n ≤ 18446744073709551615 := by simpa [Lit.wf, IntKind.min, IntKind.max, IntKind.signed, IntKind.bits] using h
  omega
theorem byte_ok {r : List AV} (h : (Ty.int .u8).ok r) : ∃ b : UInt8, r = by_ b ∧ True := by
  obtain ⟨n, rfl, hw⟩ := h
  have hn := u8_wf hw
  refine ⟨UInt8.ofNat n.toNat, ?_, trivial⟩
  rw [by_of (by omega)]
  congr 2
  omega
/-- A slice of bytes, as an argument. -/
theorem bytes_nlc {x : AV} (h : (Ty.sl (.int .u8)).okV x) : ∃ B : List UInt8, nlc x (.sl 1 (B.map by_)) := by
  rcases h with h | ⟨rows, h, _, h3⟩ <;> simp only [List.cons.injEq, and_true] at h <;> subst h
  · exact ⟨[], .inr ⟨rfl, 1, rfl⟩⟩
  · obtain ⟨B, rfl, _⟩ := map_of (f := by_) (p := fun _ => True) (rows := rows) fun r hr => byte_ok (h3 r hr)
    exact ⟨B, .inl rfl⟩
def tySec : Ty := .cons (.int .i64) (.cons .str (.cons (.sl (.int .u8)) .nil))
theorem sec_ok {r : List AV} (h : tySec.ok r) : ∃ s : Sec, r = sec_ s ∧ True := by
  obtain ⟨_, _, rfl, ⟨d, rfl, _⟩, _, _, rfl, ⟨n, rfl, _⟩, _, _, rfl, h3, rfl⟩ := h
  rcases h3 with rfl | ⟨rows, rfl, _, h4⟩
  · exact ⟨⟨d, n, none⟩, rfl, trivial⟩
  · obtain ⟨B, rfl, _⟩ := map_of (f := by_) (p := fun _ => True) (rows := rows) fun r hr => byte_ok (h4 r hr)
    exact ⟨⟨d, n, some B⟩, rfl, trivial⟩
theorem secs_nlc {x : AV} (h : (Ty.sl tySec).okV x) : ∃ L : List Sec, nlc x (.sl 3 (L.map sec_)) := by
  rcases h with h | ⟨rows, h, _, h3⟩ <;> simp only [List.cons.injEq, and_true] at h <;> subst h
  · exact ⟨[], .inr ⟨rfl, 3, rfl⟩⟩
  · obtain ⟨L, rfl, _⟩ := map_of (f := sec_) (p := fun _ => True) (rows := rows) fun r hr => sec_ok (h3 r hr)
    exact ⟨L, .inl rfl⟩
theorem ok1 {τ : Ty} {xs : List AV} (h : All2 Ty.okV [τ] xs) : ∃ x, xs = [x] ∧ τ.okV x := by
  match xs, h with
  | [x], h => exact ⟨x, rfl, h.1⟩
theorem ok2 {τ τ1 : Ty} {xs : List AV} (h : All2 Ty.okV [τ, τ1] xs) : ∃ x y, xs = [x, y] ∧ τ.okV x ∧ τ1.okV y := by
  match xs, h with
  | [x, y], h => exact ⟨x, y, rfl, h.1, h.2.1⟩
theorem ty22 : tyOf Tryd.prog 9 22 = some (.sl (.int .u8)) := by kernel_rfl
theorem ty3 : tyOf Tryd.prog 9 3 = some (.int .i64) := by kernel_rfl
theorem ty67 : tyOf Tryd.prog 9 67 = some (.sl tySec) := by kernel_rfl
end Go.Proofs.YtkejmhpodhbeeaaDoor
