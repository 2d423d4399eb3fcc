/-
  Chapter 9: the arguments of the laws, as abstract values.
-/
import Derived.Test.YtlmnepdibhdpaaaRows
import Derived.Test.YtlmnepdibhdpaaaWh
import Derived.Test.YtlmnepdibhdpaaaMwZ
namespace Go.Proofs.Ytlmnepdibhdpaaa
open Go Go.Mw

theorem map_of {α : Type} {f : α → List AV} : ∀ {rows : List (List AV)}, (∀ r ∈ rows, ∃ a, r = f a) → ∃ l : List α, rows = l.map f
  | [], _ => ⟨[], rfl⟩
  | r :: rows, h => by
    obtain ⟨a, rfl⟩ := h r (by simp)
    obtain ⟨l, rfl⟩ := map_of (f := f) (rows := rows) fun r hr => h r (by simp [hr])
    exact ⟨a :: l, rfl⟩

def tyI : Ty := .cons (.int .i64) (.cons (.int .i64) (.cons (.int .i64) (.cons (.int .u64) (.cons (.cons (.int .i64) (.cons (.int .i64) (.cons (.int .i64) .nil))) (.cons (.sl (.int .i64)) (.cons (.sl (.int .i64)) .nil))))))
theorem ty22 : tyOf Try.prog 6 22 = some (.sl tyI) := by kernel_rfl
theorem tyI_n : tyI.n = 9 := rfl

theorem ints_ok {xs : List AV} (h : (Ty.sl (.int .i64)).ok xs) : ∃ o, xs = [sv o] := by
  rcases h with rfl | ⟨rows, rfl, _, h⟩
  · exact ⟨none, rfl⟩
  · obtain ⟨l, rfl⟩ := map_of (f := ri) (rows := rows) fun r hr => by
      obtain ⟨n, rfl, _⟩ := h r hr
      exact ⟨n, rfl⟩
    exact ⟨some l, rfl⟩
theorem ins_ok {xs : List AV} (h : tyI.ok xs) : ∃ x : Ins, xs = x.row := by
  obtain ⟨_, _, rfl, ⟨op, rfl, _⟩, _, _, rfl, ⟨a, rfl, _⟩, _, _, rfl, ⟨b, rfl, _⟩, _, _, rfl, ⟨n, rfl, _⟩, _, _, rfl, ⟨_, _, rfl, ⟨bk, rfl, _⟩, _, _, rfl, ⟨bv, rfl, _⟩, _, _, rfl, ⟨bi, rfl, _⟩, rfl⟩, _, _, rfl, h1, _, _, rfl, h2, rfl⟩ := h
  obtain ⟨o1, rfl⟩ := ints_ok h1
  obtain ⟨o2, rfl⟩ := ints_ok h2
  exact ⟨⟨op, a, b, n, bk, bv, bi, o1, o2⟩, rfl⟩

theorem body_ok {H : Type} {enc : TypeId × Value → H} {W : World} {v : Value} {d : DataW H} {p : List MemPlace} (h : DataW.Trod enc Try.prog W 0 (fun _ => true) true 22 v d p) (hc : v.cells.toList = [v]) : ∃ B : List Ins, IRel (fun _ => False) W v (.sl 9 (B.map Ins.row)) := by
  obtain ⟨fuel, h⟩ := h
  obtain ⟨xs, h1, h2⟩ := trod_ok fuel 6 22 _ _ _ ty22 h
  rw [hc] at h2
  rcases h1 with rfl | ⟨rows, rfl, _, h3⟩
  · refine ⟨[], ?_⟩
    have := h2.1
    generalize v = u at this
    cases this
    exact .nls _
  · obtain ⟨B, rfl⟩ := map_of (f := Ins.row) (rows := rows) fun r hr => ins_ok (h3 r hr)
    exact ⟨B, h2.1⟩
end Go.Proofs.Ytlmnepdibhdpaaa
