/-
  The tables of unicode/utf8 that the program finds laid.
-/
import Derived.Test.YtkejmhpodhbeeaaDoorMwZb
import Derived.Test.YtkejmhpodhbeeaaDoorIc
import Derived.Shelf.Unicode.DecodeSlow
namespace Go.Proofs.YtkejmhpodhbeeaaDoor
open Go Go.Mw

def tab0 : List AV := (List.range 256).map fun c => .int .u8 (Lib.firstT c)
def tab1 : List AV := (List.range 32).map fun i => .int .u8 (if i % 2 = 0 then Lib.accLo (i / 2) else Lib.accHi (i / 2))

theorem cell_some {w : World} {b off : Nat} {v : Value} (h : w.cell? ⟨b, off, none⟩ = some v) : ∃ c t fr, w.heap[b]? = some (.cells c t fr) ∧ c[off]? = some v := by
  unfold World.cell? at h
  simp only at h
  split at h
  · rename_i c t fr hb
    exact ⟨c, t, fr, hb, h⟩
  · cases h

theorem ip_of_cells {w : World} {M : Nat → Prop} {b n : Nat} {f : Nat → Int} (hn : 0 < n) (h : ∀ j, j < n → w.cell? ⟨b, j, none⟩ = some (.int .u8 (f j))) (hM : ¬ M b) :
    IRel M w (.pointer (some ⟨b, 0, none⟩)) (.ip ((List.range n).map fun j => .int .u8 (f j))) := by
  obtain ⟨c, t, fr, hb, _⟩ := cell_some (h 0 hn)
  refine .ip b 0 c t fr _ (fun j => .int .u8 (f j)) hb hM (fun j hj => ?_) (fun j x hx => ?_)
  · simp at hj
    obtain ⟨c', t', fr', hb', hc⟩ := cell_some (h j hj)
    rw [hb] at hb'
    cases hb'
    simpa using hc
  · simp only [List.getElem?_map, Option.map_eq_some_iff, List.getElem?_range] at hx
    obtain ⟨q, hq, rfl⟩ := hx
    rw [List.getElem?_range] at hq
    cases hq
    exact .int _ _
    have := (List.getElem?_eq_some_iff.1 hq).1
    simpa using this

noncomputable def tabs : TabT where
  B b := b = 0 ∨ b = 1
  H w := Lib.Utf8Tabs 0 1 w
  env := [(1000000, .ip tab0), (1000001, .ip tab1)]
  rel w M h hM p hp := by
    simp only [List.mem_cons, List.not_mem_nil, or_false] at hp
    rcases hp with rfl | rfl
    · exact ⟨by decide, ip_of_cells (by decide) (fun j hj => h.1 j hj) (hM 0 (.inl rfl))⟩
    · refine ⟨by decide, ip_of_cells (by decide) (fun j hj => ?_) (hM 1 (.inr rfl))⟩
      obtain ⟨h1, h2⟩ := h.2 (j / 2) (by omega)
      by_cases h0 : j % 2 = 0
      · rw [if_pos h0]
        rw [show 2 * (j / 2) = j by omega] at h1
        exact h1
      · rw [if_neg h0]
        rw [show 2 * (j / 2) + 1 = j by omega] at h2
        exact h2
  stay w w' h hk := by
    have key : ∀ {b off : Nat} {v : Value}, (b = 0 ∨ b = 1) → w.cell? ⟨b, off, none⟩ = some v → w'.cell? ⟨b, off, none⟩ = some v := fun {b off v} hb hc => by
      rw [World.cell?_of_block (w := w) (hk b hb)]
      exact hc
    exact ⟨fun c hc => key (.inl rfl) (h.1 c hc), fun i hi => ⟨key (.inr rfl) (h.2 i hi).1, key (.inr rfl) (h.2 i hi).2⟩⟩
  low w h b hb := by
    have key : ∀ {b off : Nat} {v : Value}, w.cell? ⟨b, off, none⟩ = some v → b < w.heap.size := fun {b off v} hc => by
      obtain ⟨c, t, fr, h1, _⟩ := cell_some hc
      exact (Array.getElem?_eq_some_iff.1 h1).1
    rcases hb with rfl | rfl
    · exact key (h.1 0 (by decide))
    · exact key (h.2 0 (by decide)).1

noncomputable instance : Tabs Tryd.prog := ⟨tabs⟩
end Go.Proofs.YtkejmhpodhbeeaaDoor
