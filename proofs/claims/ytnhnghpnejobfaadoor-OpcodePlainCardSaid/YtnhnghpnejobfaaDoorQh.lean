/-
  Chapter 5: an instruction as an argument.
-/
import Derived.Test.YtnhnghpnejobfaaDoorQg
import Derived.Test.YtnhnghpnejobfaaDoorQe
set_option linter.unusedVariables false
set_option linter.unusedSimpArgs false
set_option linter.unusedSectionVars false
set_option maxRecDepth 100000
set_option linter.unusedVariables false
namespace Go.Proofs.YtnhnghpnejobfaaDoor
open Go Go.Mw
open Go.ChangeShapes Go.WideShapes Go.ChangeAt Go.RowKit

theorem PCalls_nla {P : Program} [Tabs P] {f : FuncId} {xs ys : List AV} {r : AV} (hp : PCalls P f ys r) (h : All2 nla xs ys) : PCalls P f xs r :=
  fun bl MF w cargs h1 h2 h3 h4 h5 => hp bl MF w cargs h1 h2 h3 h4 (nlas_rel h h5)
def tyIns : Ty := .cons (.int .i64) (.cons (.int .i64) (.cons (.int .i64) (.cons (.int .u64) (.cons (.cons (.int .i64) (.cons (.int .i64) (.cons (.int .i64) .nil))) (.cons (.sl (.int .i64)) (.cons (.sl (.int .i64)) .nil))))))
theorem ints_ok {r : List AV} (h : (Ty.int .i64).ok r) : ∃ n, r = vl_ n ∧ True := by
  obtain ⟨n, rfl, _⟩ := h
  exact ⟨n, rfl, trivial⟩
theorem map_of {α : Type} {f : α → List AV} {p : α → Prop} : ∀ {rows : List (List AV)}, (∀ r ∈ rows, ∃ a, r = f a ∧ p a) → ∃ l : List α, rows = l.map f ∧ ∀ a ∈ l, p a
  | [], _ => ⟨[], rfl, fun a h => by cases h⟩
  | r :: rows, h => by
    obtain ⟨a, rfl, hp⟩ := h r (by simp)
    obtain ⟨l, rfl, hl⟩ := map_of (f := f) (p := p) (rows := rows) fun r hr => h r (by simp [hr])
    exact ⟨a :: l, rfl, fun b hb => by rcases List.mem_cons.1 hb with rfl | hb; exact hp; exact hl b hb⟩
theorem vls_ok {r : List AV} (h : (Ty.sl (.int .i64)).ok r) : ∃ (x : AV) (l : List Int), r = [x] ∧ l.length ≤ maxLen ∧ (x = .sl 1 (l.map vl_) ∨ (x = .nl ∧ ∃ st, AV.sl 1 (l.map vl_) = .sl st [])) := by
  rcases h with rfl | ⟨rows, rfl, h2, h3⟩
  · exact ⟨_, [], rfl, by simp, .inr ⟨rfl, 1, rfl⟩⟩
  · obtain ⟨l, rfl, _⟩ := map_of (f := vl_) (p := fun _ => True) (rows := rows) fun r hr => ints_ok (h3 r hr)
    exact ⟨_, l, rfl, by simpa using h2, .inl rfl⟩
theorem ins_ok {x : AV} (h : tyIns.okV x) : ∃ i : Ins, nla x (ins_ i) ∧ i.ty.length ≤ maxLen ∧ i.lb.length ≤ maxLen := by
  obtain ⟨xs, rfl, _, _, rfl, ⟨op, rfl, _⟩, _, _, rfl, ⟨a, rfl, _⟩, _, _, rfl, ⟨b, rfl, _⟩, _, _, rfl, ⟨n, rfl, _⟩, _, _, rfl, ⟨_, _, rfl, ⟨k, rfl, _⟩, _, _, rfl, ⟨v, rfl, _⟩, _, _, rfl, ⟨z, rfl, _⟩, rfl⟩, _, _, rfl, h1, _, _, rfl, h2, rfl⟩ := h
  obtain ⟨x1, l1, rfl, m1, e1⟩ := vls_ok h1
  obtain ⟨x2, l2, rfl, m2, e2⟩ := vls_ok h2
  refine ⟨⟨op, a, b, n, k, v, z, l1, l2⟩, .inr (.inr ⟨_, _, rfl, rfl, .inl rfl, .inl rfl, .inl rfl, .inl rfl, .inl rfl, .inl rfl, .inl rfl, ?_, ?_, trivial⟩), m1, m2⟩
  · rcases e1 with e | ⟨e, st, e'⟩
    · exact .inl e
    · exact .inr ⟨e, st, e'⟩
  · rcases e2 with e | ⟨e, st, e'⟩
    · exact .inl e
    · exact .inr ⟨e, st, e'⟩
theorem ty38 : tyOf Tryd.prog 9 38 = some tyIns := by kernel_rfl
end Go.Proofs.YtnhnghpnejobfaaDoor
