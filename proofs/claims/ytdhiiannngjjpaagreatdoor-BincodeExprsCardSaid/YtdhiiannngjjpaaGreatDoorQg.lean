/-
  Chapter 5: the arguments of the laws; the tables, as the rows list them.
-/
import Derived.Test.YtdhiiannngjjpaaGreatDoorCards
import Derived.Test.YtdhiiannngjjpaaGreatDoorTie
import Derived.Test.YtdhiiannngjjpaaGreatDoorQd
import Derived.WalkKit
import Derived.ProofKit
import Derived.OpenShut
import Derived.Deep.DeepHandedRow
import Derived.Deep.DeepWitnessRowRef
import Derived.Lib.LaidTab
import Derived.Lib.LaidU8T
import Derived.Shelf.Vars
import Derived.Lay
import Derived.Test.YtdhiiannngjjpaaGreatDoorQt
import Derived.Test.YtdhiiannngjjpaaGreatDoorQc
set_option linter.unusedVariables false
set_option linter.unusedSimpArgs false
set_option linter.unusedSectionVars false
set_option maxRecDepth 100000
set_option linter.unusedVariables false
namespace Go.Proofs.YtdhiiannngjjpaaGreatDoor
open Go Go.Mw
open Go.ChangeShapes Go.WideShapes Go.ChangeAt Go.RowKit

theorem own : ownKnob Tryz.prog.godebug = none := by kernel_rfl
theorem laidOut : laidOutB Tryz.prog = true := by kernel_rfl
abbrev laidL : List (String × DataW Unit) := [("unicode.White_Space", Rows.laid_unicode_White_Space), ("strings.asciiSpace", Rows.laid_strings_asciiSpace)]
def spL : List Int := (List.range 256).map fun c => if Lib.isSp (UInt8.ofNat c) then 1 else 0
theorem spD : (Rows.laid_strings_asciiSpace : DataW Unit) = Lib.tabData .u8 spL := by kernel_rfl
theorem gSp : Tryz.prog.globalNamed "strings.asciiSpace" = some 0 := by kernel_rfl
theorem tSp : (Tryz.prog.globals[0]?).map (·.type) = some 169 := by kernel_rfl
theorem uSp : Tryz.prog.underlying 169 = some (.array 256 5) := by kernel_rfl
theorem uU8 : Tryz.prog.underlying 5 = some (.int .u8) := by kernel_rfl
theorem cU8 : Tryz.prog.cellsOf 5 = 1 := by kernel_rfl
theorem cSp : Tryz.prog.cellsOf 169 = 256 := by kernel_rfl
theorem sp_of {W : World} (h : laidMetH Tryz.prog laidL W) : Lib.TabIs Tryz.prog W "strings.asciiSpace" .u8 spL := by
  have h2 := Lib.laidMet.reads h (.tail _ (.head _))
  rw [spD] at h2
  obtain ⟨g', t', cs, fuel, p, hg', ht', hvar, hd⟩ := h2
  obtain rfl := Option.some.inj (gSp.symm.trans hg')
  obtain rfl := Option.some.inj (tSp.symm.trans ht')
  unfold Lib.TabIs
  rw [hvar, ← Lib.cells_of_tab uSp uU8 cU8 cSp hd]
theorem spL_at (c : Nat) (hc : c < 256) : Value.int .u8 (spL.getD c 0) = spT c := by
  simp [spL, spT, List.getD, hc]
theorem tabs_of {W : World} (h : laidMetH Tryz.prog laidL W) (hs : W.ShapedOpen Tryz.prog) : (Tabs.T Tryz.prog).H W :=
  ⟨fun c hc => by rw [(sp_of h).cell gSp c (by simpa [spL] using hc), spL_at c hc],
   Go.Proofs.cell_of_shapedOpen_int (g := 1) (t := 3) (k := .i64) (zero := #[.int .i64 0]) hs (of_decide_eq_true (by kernel_rfl)) (by kernel_rfl) rfl (by kernel_rfl) (by kernel_rfl) (by kernel_rfl)⟩
noncomputable abbrev laidWorld (os : Os) : World := World.laidAll Tryz.prog os laidL

theorem ok2 {τ τ1 : Ty} {xs : List AV} (h : All2 Ty.okV [τ, τ1] xs) : ∃ x y, xs = [x, y] ∧ τ.okV x ∧ τ1.okV y := by
  match xs, h with
  | [x, y], h => exact ⟨x, y, rfl, h.1, h.2.1⟩
theorem i64_wf {n : Int} (h : (Lit.int .i64 n).wf = true) : inI n := by
  have : -9223372036854775808 ≤ n ∧ n ≤ 9223372036854775807 := by simpa [Lit.wf, IntKind.min, IntKind.max, IntKind.signed, IntKind.bits] using h
  unfold inI
  omega
theorem int_ok {x : AV} (h : (Ty.int .i64).okV x) : ∃ n, x = .int .i64 n ∧ inI n := by
  obtain ⟨n, e, hw⟩ := h
  simp only [List.cons.injEq, and_true] at e
  exact ⟨n, e, i64_wf hw⟩
theorem ty3 : tyOf Tryz.prog 9 3 = some (.int .i64) := by kernel_rfl
end Go.Proofs.YtdhiiannngjjpaaGreatDoor
set_option maxRecDepth 100000
set_option linter.unusedVariables false
namespace Go.Proofs.YtdhiiannngjjpaaGreatDoor
open Go Go.Mw
open Go.ChangeShapes Go.WideShapes Go.ChangeAt Go.RowKit

theorem map_of {α : Type} {f : α → List AV} {p : α → Prop} : ∀ {rows : List (List AV)}, (∀ r ∈ rows, ∃ a, r = f a ∧ p a) → ∃ l : List α, rows = l.map f ∧ ∀ a ∈ l, p a
  | [], _ => ⟨[], rfl, fun a h => by cases h⟩
  | r :: rows, h => by
    obtain ⟨a, rfl, hp⟩ := h r (by simp)
    obtain ⟨l, rfl, hl⟩ := map_of (f := f) (p := p) (rows := rows) fun r hr => h r (by simp [hr])
    exact ⟨a :: l, rfl, fun b hb => by rcases List.mem_cons.1 hb with rfl | hb; exact hp; exact hl b hb⟩
end Go.Proofs.YtdhiiannngjjpaaGreatDoor
set_option maxRecDepth 100000
set_option linter.unusedVariables false
namespace Go.Proofs.YtdhiiannngjjpaaGreatDoor
open Go Go.Mw
open Go.ChangeShapes Go.WideShapes Go.ChangeAt Go.RowKit

theorem u8_wf {n : Int} (h : (Lit.int .u8 n).wf = true) : 0 ≤ n ∧ n ≤ 255 := by simpa [Lit.wf, IntKind.min, IntKind.max, IntKind.signed, IntKind.bits] using h
theorem byte_ok {r : List AV} (h : (Ty.int .u8).ok r) : ∃ b : UInt8, r = by_ b ∧ True := by
  obtain ⟨n, rfl, hw⟩ := h
  have hn := u8_wf hw
  refine ⟨UInt8.ofNat n.toNat, ?_, trivial⟩
  rw [by_of (by omega)]
  congr 2
  omega
theorem bytes_ok {x : AV} (h : (Ty.sl (.int .u8)).okV x) : ∃ B : List UInt8, nld x (.sl 1 (B.map by_)) := by
  rcases h with h | ⟨rows, h, _, h3⟩ <;> simp only [List.cons.injEq, and_true] at h <;> subst h
  · exact ⟨[], .inl (.nl 1)⟩
  · obtain ⟨B, rfl, _⟩ := map_of (f := by_) (p := fun _ => True) (rows := rows) fun r hr => byte_ok (h3 r hr)
    exact ⟨B, .inl (.rfl _)⟩
theorem ty28 : tyOf Tryz.prog 9 28 = some (.sl (.int .u8)) := by kernel_rfl
end Go.Proofs.YtdhiiannngjjpaaGreatDoor
