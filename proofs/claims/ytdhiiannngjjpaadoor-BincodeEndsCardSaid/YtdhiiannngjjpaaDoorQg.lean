/-
  Chapter 5: the arguments of the laws; the tables, as the rows list them.
-/
import Derived.Test.YtdhiiannngjjpaaDoorCards
import Derived.Test.YtdhiiannngjjpaaDoorTie
import Derived.Test.YtdhiiannngjjpaaDoorQd
import Derived.WalkKit
import Derived.ProofKit
import Derived.OpenShut
import Derived.Deep.DeepHandedRow
import Derived.Deep.DeepWitnessRowRef
import Derived.Lib.LaidTab
import Derived.Lib.LaidU8T
import Derived.Shelf.Vars
import Derived.Lay
import Derived.Test.YtdhiiannngjjpaaDoorQt
import Derived.Test.YtdhiiannngjjpaaDoorQc
set_option linter.unusedVariables false
set_option linter.unusedSimpArgs false
set_option linter.unusedSectionVars false
set_option maxRecDepth 100000
set_option linter.unusedVariables false
namespace Go.Proofs.YtdhiiannngjjpaaDoor
open Go Go.Mw
open Go.ChangeShapes Go.WideShapes Go.ChangeAt Go.RowKit

theorem own : ownKnob Tryd.prog.godebug = none := by kernel_rfl
theorem laidOut : laidOutB Tryd.prog = true := by kernel_rfl
abbrev laidL : List (String × DataW Unit) := [("unicode.White_Space", Rows.laid_unicode_White_Space), ("strings.asciiSpace", Rows.laid_strings_asciiSpace)]
def spL : List Int := (List.range 256).map fun c => if Lib.isSp (UInt8.ofNat c) then 1 else 0
theorem spD : (Rows.laid_strings_asciiSpace : DataW Unit) = Lib.tabData .u8 spL := by kernel_rfl
theorem gSp : Tryd.prog.globalNamed "strings.asciiSpace" = some 0 := by kernel_rfl
theorem tSp : (Tryd.prog.globals[0]?).map (·.type) = some 124 := by kernel_rfl
theorem uSp : Tryd.prog.underlying 124 = some (.array 256 5) := by kernel_rfl
theorem uU8 : Tryd.prog.underlying 5 = some (.int .u8) := by kernel_rfl
theorem cU8 : Tryd.prog.cellsOf 5 = 1 := by kernel_rfl
theorem cSp : Tryd.prog.cellsOf 124 = 256 := by kernel_rfl
theorem sp_of {W : World} (h : laidMetH Tryd.prog laidL W) : Lib.TabIs Tryd.prog W "strings.asciiSpace" .u8 spL := by
  have h2 := Lib.laidMet.reads h (.tail _ (.head _))
  rw [spD] at h2
  obtain ⟨g', t', cs, fuel, p, hg', ht', hvar, hd⟩ := h2
  obtain rfl := Option.some.inj (gSp.symm.trans hg')
  obtain rfl := Option.some.inj (tSp.symm.trans ht')
  unfold Lib.TabIs
  rw [hvar, ← Lib.cells_of_tab uSp uU8 cU8 cSp hd]
theorem spL_at (c : Nat) (hc : c < 256) : Value.int .u8 (spL.getD c 0) = spT c := by
  simp [spL, spT, List.getD, hc]
theorem tabs_of {W : World} (h : laidMetH Tryd.prog laidL W) (hs : W.ShapedOpen Tryd.prog) : (Tabs.T Tryd.prog).H W :=
  ⟨fun c hc => by rw [(sp_of h).cell gSp c (by simpa [spL] using hc), spL_at c hc],
   Go.Proofs.cell_of_shapedOpen_int (g := 1) (t := 3) (k := .i64) (zero := #[.int .i64 0]) hs (of_decide_eq_true (by kernel_rfl)) (by kernel_rfl) rfl (by kernel_rfl) (by kernel_rfl) (by kernel_rfl)⟩
noncomputable abbrev laidWorld (os : Os) : World := World.laidAll Tryd.prog os laidL

theorem ok2 {τ τ1 : Ty} {xs : List AV} (h : All2 Ty.okV [τ, τ1] xs) : ∃ x y, xs = [x, y] ∧ τ.okV x ∧ τ1.okV y := by
  match xs, h with
  | [x, y], h => exact ⟨x, y, rfl, h.1, h.2.1⟩
end Go.Proofs.YtdhiiannngjjpaaDoor
set_option maxRecDepth 100000
set_option linter.unusedVariables false
namespace Go.Proofs.YtdhiiannngjjpaaDoor
open Go Go.Mw
open Go.ChangeShapes Go.WideShapes Go.ChangeAt Go.RowKit

def tyIns : Ty := .cons (.int .i64) (.cons (.int .i64) (.cons (.int .i64) (.cons (.int .u64) (.cons (.cons (.int .i64) (.cons (.int .i64) (.cons (.int .i64) .nil))) (.cons (.sl (.int .i64)) (.cons (.sl (.int .i64)) .nil))))))
theorem ints_ok {r : List AV} (h : (Ty.int .i64).ok r) : ∃ n, r = vl_ n ∧ True := by
  obtain ⟨n, rfl, _⟩ := h
  exact ⟨n, rfl, trivial⟩
theorem map_of {α : Type} {f : α → List AV} {p : α → Prop} : ∀ {rows : List (List AV)}, (∀ r ∈ rows, ∃ a, r = f a ∧ p a) → ∃ l : List α, rows = l.map f ∧ ∀ a ∈ l, p a
  | [], _ => ⟨[], rfl, fun a h => by cases h⟩
  | r :: rows, h => by
    obtain ⟨a, rfl, hp⟩ := h r (by simp)
    obtain ⟨l, rfl, hl⟩ := map_of (f := f) (p := p) (rows := rows) fun r hr => h r (by simp [hr])
    exact ⟨a :: l, rfl, fun b hb => by rcases List.mem_cons.1 hb with rfl | hb; exact hp; exact hl b hb⟩
theorem vls_ok {r : List AV} (h : (Ty.sl (.int .i64)).ok r) : ∃ (x : AV) (l : List Int), r = [x] ∧ l.length ≤ maxLen ∧ (x = .sl 1 (l.map vl_) ∨ (x = .nl ∧ ∃ st, AV.sl 1 (l.map vl_) = .sl st [])) := by
  rcases h with rfl | ⟨rows, rfl, h2, h3⟩
  · exact ⟨_, [], rfl, by simp, .inr ⟨rfl, 1, rfl⟩⟩
  · obtain ⟨l, rfl, _⟩ := map_of (f := vl_) (p := fun _ => True) (rows := rows) fun r hr => ints_ok (h3 r hr)
    exact ⟨_, l, rfl, by simpa using h2, .inl rfl⟩
end Go.Proofs.YtdhiiannngjjpaaDoor
set_option maxRecDepth 100000
set_option linter.unusedVariables false
namespace Go.Proofs.YtdhiiannngjjpaaDoor
open Go Go.Mw
open Go.ChangeShapes Go.WideShapes Go.ChangeAt Go.RowKit

theorem rows_nd {α : Type} {f : α → List AV} {p : α → Prop} : ∀ {rows : List (List AV)}, (∀ r ∈ rows, ∃ a, All2 Nd r (f a) ∧ p a) → ∃ l : List α, All2 (All2 Nd) rows (l.map f) ∧ ∀ a ∈ l, p a
  | [], _ => ⟨[], trivial, fun a h => by cases h⟩
  | r :: rows, h => by
    obtain ⟨a, ha, hp⟩ := h r (by simp)
    obtain ⟨l, hl, hq⟩ := rows_nd (f := f) (p := p) (rows := rows) fun r hr => h r (by simp [hr])
    exact ⟨a :: l, ⟨ha, hl⟩, fun b hb => by rcases List.mem_cons.1 hb with rfl | hb; exact hp; exact hq b hb⟩
theorem nd_rows {st : Nat} {rows rows' : List (List AV)} (h : All2 (All2 Nd) rows rows') : Nd (.sl st rows) (.sl st rows') := by
  refine .sl st _ _ h.length (fun i r r' h1 h2 => ?_) (fun i j r r' x y h1 h2 h3 h4 => ?_)
  · obtain ⟨a, e1, e2⟩ := h.get h2
    obtain rfl := Option.some.inj (h1.symm.trans e1)
    exact e2.length
  · obtain ⟨a, e1, e2⟩ := h.get h2
    obtain rfl := Option.some.inj (h1.symm.trans e1)
    obtain ⟨b, e3, e4⟩ := e2.get h4
    obtain rfl := Option.some.inj (h3.symm.trans e3)
    exact e4
theorem vls_nd {r : List AV} (h : (Ty.sl (.int .i64)).ok r) : ∃ (x : AV) (l : List Int), r = [x] ∧ l.length ≤ 9223372036854775807 ∧ Nd x (.sl 1 (l.map vl_)) := by
  obtain ⟨x, l, rfl, h1, h2⟩ := vls_ok h
  refine ⟨x, l, rfl, h1, ?_⟩
  rcases h2 with rfl | ⟨rfl, st, h2⟩
  · exact .rfl _
  · rw [h2]; exact .nl st
theorem u64_wf {n : Int} (h : (Lit.int .u64 n).wf = true) : 0 ≤ n ∧ n < 18446744073709551616 := by
  have : 0 ≤ n ∧ n ≤ 18446744073709551615 := by simpa [Lit.wf, IntKind.min, IntKind.max, IntKind.signed, IntKind.bits] using h
  omega
theorem insr_ok {r : List AV} (h : tyIns.ok r) : ∃ i : Ins, All2 Nd r (insC i) ∧ (0 ≤ i.n ∧ i.n < 18446744073709551616 ∧ i.lb.length ≤ 9223372036854775807 ∧ i.ty.length ≤ 9223372036854775807) := by
  obtain ⟨_, _, rfl, ⟨op, rfl, _⟩, _, _, rfl, ⟨a, rfl, _⟩, _, _, rfl, ⟨b, rfl, _⟩, _, _, rfl, ⟨n, rfl, hn⟩, _, _, rfl, ⟨_, _, rfl, ⟨k, rfl, _⟩, _, _, rfl, ⟨v, rfl, _⟩, _, _, rfl, ⟨z, rfl, _⟩, rfl⟩, _, _, rfl, h1, _, _, rfl, h2, rfl⟩ := h
  obtain ⟨x1, l1, rfl, m1, e1⟩ := vls_nd h1
  obtain ⟨x2, l2, rfl, m2, e2⟩ := vls_nd h2
  have hn := u64_wf hn
  exact ⟨⟨op, a, b, n, k, v, z, l1, l2⟩, ⟨.rfl _, .rfl _, .rfl _, .rfl _, .rfl _, .rfl _, .rfl _, e1, e2, trivial⟩, hn.1, hn.2, m2, m1⟩
theorem inss_ok {x : AV} (h : (Ty.sl tyIns).okV x) : ∃ L : List Ins, nld x (.sl 9 (L.map insC)) ∧ inL L := by
  rcases h with h | ⟨rows, h, _, h3⟩ <;> simp only [List.cons.injEq, and_true] at h <;> subst h
  · exact ⟨[], .inl (.nl 9), fun x hx => by cases hx⟩
  · obtain ⟨L, hL, hp⟩ := rows_nd (f := insC) (p := fun i : Ins => 0 ≤ i.n ∧ i.n < 18446744073709551616 ∧ i.lb.length ≤ 9223372036854775807 ∧ i.ty.length ≤ 9223372036854775807) (rows := rows) fun r hr => insr_ok (h3 r hr)
    exact ⟨L, .inl (nd_rows hL), hp⟩
theorem u8_wf {n : Int} (h : (Lit.int .u8 n).wf = true) : 0 ≤ n ∧ n ≤ 255 := by simpa [Lit.wf, IntKind.min, IntKind.max, IntKind.signed, IntKind.bits] using h
theorem byte_ok {r : List AV} (h : (Ty.int .u8).ok r) : ∃ b : UInt8, r = by_ b ∧ True := by
  obtain ⟨n, rfl, hw⟩ := h
  have hn := u8_wf hw
  refine ⟨UInt8.ofNat n.toNat, ?_, trivial⟩
  rw [by_of (by omega)]
  congr 2
  omega
theorem bytes_ok {x : AV} (h : (Ty.sl (.int .u8)).okV x) : ∃ B : List UInt8, nld x (.sl 1 (B.map by_)) := by
  rcases h with h | ⟨rows, h, _, h3⟩ <;> simp only [List.cons.injEq, and_true] at h <;> subst h
  · exact ⟨[], .inl (.nl 1)⟩
  · obtain ⟨B, rfl, _⟩ := map_of (f := by_) (p := fun _ => True) (rows := rows) fun r hr => byte_ok (h3 r hr)
    exact ⟨B, .inl (.rfl _)⟩
theorem ty37 : tyOf Tryd.prog 9 37 = some (.sl (.int .u8)) := by kernel_rfl
theorem ty22 : tyOf Tryd.prog 9 22 = some (.sl tyIns) := by kernel_rfl
end Go.Proofs.YtdhiiannngjjpaaDoor
