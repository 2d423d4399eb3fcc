/-
  Chapter 5: the arguments of the laws; the tables, as the rows list them.
-/
import Derived.Test.YtdhiiannngjjpaaDoorCards
import Derived.Test.YtdhiiannngjjpaaDoorTie
import Derived.Test.YtdhiiannngjjpaaDoorQd
import Derived.WalkKit
import Derived.ProofKit
import Derived.OpenShut
import Derived.Deep.DeepHandedRow
import Derived.Deep.DeepWitnessRowRef
import Derived.Lib.LaidTab
import Derived.Lib.LaidU8T
import Derived.Shelf.Vars
import Derived.Lay
import Derived.Test.YtdhiiannngjjpaaDoorQt
import Derived.Test.YtdhiiannngjjpaaDoorQc
set_option linter.unusedVariables false
set_option linter.unusedSimpArgs false
set_option linter.unusedSectionVars false
set_option maxRecDepth 100000
set_option linter.unusedVariables false
namespace Go.Proofs.YtdhiiannngjjpaaDoor
open Go Go.Mw
open Go.ChangeShapes Go.WideShapes Go.ChangeAt Go.RowKit

theorem own : ownKnob Tryd.prog.godebug = none := by kernel_rfl
theorem laidOut : laidOutB Tryd.prog = true := by kernel_rfl
abbrev laidL : List (String × DataW Unit) := [("unicode.White_Space", Rows.laid_unicode_White_Space), ("strings.asciiSpace", Rows.laid_strings_asciiSpace)]
def spL : List Int := (List.range 256).map fun c => if Lib.isSp (UInt8.ofNat c) then 1 else 0
theorem spD : (Rows.laid_strings_asciiSpace : DataW Unit) = Lib.tabData .u8 spL := by kernel_rfl
theorem gSp : Tryd.prog.globalNamed "strings.asciiSpace" = some 0 := by kernel_rfl
theorem tSp : (Tryd.prog.globals[0]?).map (·.type) = some 124 := by kernel_rfl
theorem uSp : Tryd.prog.underlying 124 = some (.array 256 5) := by kernel_rfl
theorem uU8 : Tryd.prog.underlying 5 = some (.int .u8) := by kernel_rfl
theorem cU8 : Tryd.prog.cellsOf 5 = 1 := by kernel_rfl
theorem cSp : Tryd.prog.cellsOf 124 = 256 := by kernel_rfl
theorem sp_of {W : World} (h : laidMetH Tryd.prog laidL W) : Lib.TabIs Tryd.prog W "strings.asciiSpace" .u8 spL := by
  have h2 := Lib.laidMet.reads h (.tail _ (.head _))
  rw [spD] at h2
  obtain ⟨g', t', cs, fuel, p, hg', ht', hvar, hd⟩ := h2
  obtain rfl := Option.some.inj (gSp.symm.trans hg')
  obtain rfl := Option.some.inj (tSp.symm.trans ht')
  unfold Lib.TabIs
  rw [hvar, ← Lib.cells_of_tab uSp uU8 cU8 cSp hd]
theorem spL_at (c : Nat) (hc : c < 256) : Value.int .u8 (spL.getD c 0) = spT c := by
  simp [spL, spT, List.getD, hc]
theorem tabs_of {W : World} (h : laidMetH Tryd.prog laidL W) (hs : W.ShapedOpen Tryd.prog) : (Tabs.T Tryd.prog).H W :=
  ⟨fun c hc => by rw [(sp_of h).cell gSp c (by simpa [spL] using hc), spL_at c hc],
   Go.Proofs.cell_of_shapedOpen_int (g := 1) (t := 3) (k := .i64) (zero := #[.int .i64 0]) hs (of_decide_eq_true (by kernel_rfl)) (by kernel_rfl) rfl (by kernel_rfl) (by kernel_rfl) (by kernel_rfl)⟩
noncomputable abbrev laidWorld (os : Os) : World := World.laidAll Tryd.prog os laidL

theorem ok1 {τ : Ty} {xs : List AV} (h : All2 Ty.okV [τ] xs) : ∃ x, xs = [x] ∧ τ.okV x := by
  match xs, h with
  | [x], h => exact ⟨x, rfl, h.1⟩
end Go.Proofs.YtdhiiannngjjpaaDoor
set_option maxRecDepth 100000
set_option linter.unusedVariables false
namespace Go.Proofs.YtdhiiannngjjpaaDoor
open Go Go.Mw
open Go.ChangeShapes Go.WideShapes Go.ChangeAt Go.RowKit

theorem map_of {α : Type} {f : α → List AV} {p : α → Prop} : ∀ {rows : List (List AV)}, (∀ r ∈ rows, ∃ a, r = f a ∧ p a) → ∃ l : List α, rows = l.map f ∧ ∀ a ∈ l, p a
  | [], _ => ⟨[], rfl, fun a h => by cases h⟩
  | r :: rows, h => by
    obtain ⟨a, rfl, hp⟩ := h r (by simp)
    obtain ⟨l, rfl, hl⟩ := map_of (f := f) (p := p) (rows := rows) fun r hr => h r (by simp [hr])
    exact ⟨a :: l, rfl, fun b hb => by rcases List.mem_cons.1 hb with rfl | hb; exact hp; exact hl b hb⟩
end Go.Proofs.YtdhiiannngjjpaaDoor
set_option maxRecDepth 100000
set_option linter.unusedVariables false
namespace Go.Proofs.YtdhiiannngjjpaaDoor
open Go Go.Mw
open Go.ChangeShapes Go.WideShapes Go.ChangeAt Go.RowKit

theorem u8_wf {n : Int} (h : (Lit.int .u8 n).wf = true) : 0 ≤ n ∧ n ≤ 255 := by simpa [Lit.wf, IntKind.min, IntKind.max, IntKind.signed, IntKind.bits] using h
theorem byte_ok {r : List AV} (h : (Ty.int .u8).ok r) : ∃ b : UInt8, r = by_ b ∧ True := by
  obtain ⟨n, rfl, hw⟩ := h
  have hn := u8_wf hw
  refine ⟨UInt8.ofNat n.toNat, ?_, trivial⟩
  rw [by_of (by omega)]
  congr 2
  omega
theorem bytes_ok {x : AV} (h : (Ty.sl (.int .u8)).okV x) : ∃ B : List UInt8, nld x (.sl 1 (B.map by_)) := by
  rcases h with h | ⟨rows, h, _, h3⟩ <;> simp only [List.cons.injEq, and_true] at h <;> subst h
  · exact ⟨[], .inl (.nl 1)⟩
  · obtain ⟨B, rfl, _⟩ := map_of (f := by_) (p := fun _ => True) (rows := rows) fun r hr => byte_ok (h3 r hr)
    exact ⟨B, .inl (.rfl _)⟩
theorem ty37 : tyOf Tryd.prog 9 37 = some (.sl (.int .u8)) := by kernel_rfl
end Go.Proofs.YtdhiiannngjjpaaDoor
