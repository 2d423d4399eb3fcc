/-
  Chapter 5: the arguments of the laws; the tables, as the rows list them.
-/
import Derived.Test.YtnhnghpnejobfaaDoorCards
import Derived.Test.YtnhnghpnejobfaaDoorTie
import Derived.Test.YtnhnghpnejobfaaDoorQd
import Derived.WalkKit
import Derived.ProofKit
import Derived.OpenShut
import Derived.Deep.DeepHandedRow
import Derived.Deep.DeepWitnessRowRef
import Derived.Lib.LaidTab
import Derived.Lib.LaidU8T
import Derived.Shelf.Vars
import Derived.Lay
set_option linter.unusedVariables false
set_option linter.unusedSimpArgs false
set_option linter.unusedSectionVars false
set_option maxRecDepth 100000
set_option linter.unusedVariables false
namespace Go.Proofs.YtnhnghpnejobfaaDoor
open Go Go.Mw
open Go.ChangeShapes Go.WideShapes Go.ChangeAt Go.RowKit

theorem own : ownKnob Tryd.prog.godebug = none := by kernel_rfl
theorem laidOut : laidOutB Tryd.prog = true := by kernel_rfl
abbrev laidL : List (String × DataW Unit) := [("unicode.White_Space", Rows.laid_unicode_White_Space), ("strings.asciiSpace", Rows.laid_strings_asciiSpace)]
def spL : List Int := (List.range 256).map fun c => if Lib.isSp (UInt8.ofNat c) then 1 else 0
theorem spD : (Rows.laid_strings_asciiSpace : DataW Unit) = Lib.tabData .u8 spL := by kernel_rfl
theorem gSp : Tryd.prog.globalNamed "strings.asciiSpace" = some 0 := by kernel_rfl
theorem tSp : (Tryd.prog.globals[0]?).map (·.type) = some 85 := by kernel_rfl
theorem uSp : Tryd.prog.underlying 85 = some (.array 256 5) := by kernel_rfl
theorem uU8 : Tryd.prog.underlying 5 = some (.int .u8) := by kernel_rfl
theorem cU8 : Tryd.prog.cellsOf 5 = 1 := by kernel_rfl
theorem cSp : Tryd.prog.cellsOf 85 = 256 := by kernel_rfl
theorem sp_of {W : World} (h : laidMetH Tryd.prog laidL W) : Lib.TabIs Tryd.prog W "strings.asciiSpace" .u8 spL := by
  have h2 := Lib.laidMet.reads h (.tail _ (.head _))
  rw [spD] at h2
  obtain ⟨g', t', cs, fuel, p, hg', ht', hvar, hd⟩ := h2
  obtain rfl := Option.some.inj (gSp.symm.trans hg')
  obtain rfl := Option.some.inj (tSp.symm.trans ht')
  unfold Lib.TabIs
  rw [hvar, ← Lib.cells_of_tab uSp uU8 cU8 cSp hd]
theorem spL_at (c : Nat) (hc : c < 256) : Value.int .u8 (spL.getD c 0) = spT c := by
  simp [spL, spT, List.getD, hc]
theorem tabs_of {W : World} (h : laidMetH Tryd.prog laidL W) (hs : W.ShapedOpen Tryd.prog) : (Tabs.T Tryd.prog).H W :=
  ⟨fun c hc => by rw [(sp_of h).cell gSp c (by simpa [spL] using hc), spL_at c hc],
   Go.Proofs.cell_of_shapedOpen_int (g := 2) (t := 3) (k := .i64) (zero := #[.int .i64 0]) hs (of_decide_eq_true (by kernel_rfl)) (by kernel_rfl) rfl (by kernel_rfl) (by kernel_rfl) (by kernel_rfl)⟩
noncomputable abbrev laidWorld (os : Os) : World := World.laidAll Tryd.prog os laidL

theorem ok1 {τ : Ty} {xs : List AV} (h : All2 Ty.okV [τ] xs) : ∃ x, xs = [x] ∧ τ.okV x := by
  match xs, h with
  | [x], h => exact ⟨x, rfl, h.1⟩
theorem ok2 {τ τ1 : Ty} {xs : List AV} (h : All2 Ty.okV [τ, τ1] xs) : ∃ x y, xs = [x, y] ∧ τ.okV x ∧ τ1.okV y := by
  match xs, h with
  | [x, y], h => exact ⟨x, y, rfl, h.1, h.2.1⟩
def inI (n : Int) : Prop := -9223372036854775808 ≤ n ∧ n < 9223372036854775808
theorem i64_wf {n : Int} (h : (Lit.int .i64 n).wf = true) : inI n := by
  have : -9223372036854775808 ≤ n ∧ n ≤ 9223372036854775807 := by simpa [Lit.wf, IntKind.min, IntKind.max, IntKind.signed, IntKind.bits] using h
  unfold inI
  omega
theorem int_ok {x : AV} (h : (Ty.int .i64).okV x) : ∃ n, x = .int .i64 n ∧ inI n := by
  obtain ⟨n, e, hw⟩ := h
  simp only [List.cons.injEq, and_true] at e
  exact ⟨n, e, i64_wf hw⟩
theorem ty22 : tyOf Tryd.prog 9 22 = some (.int .i64) := by kernel_rfl
theorem ty3 : tyOf Tryd.prog 9 3 = some (.int .i64) := by kernel_rfl
end Go.Proofs.YtnhnghpnejobfaaDoor
