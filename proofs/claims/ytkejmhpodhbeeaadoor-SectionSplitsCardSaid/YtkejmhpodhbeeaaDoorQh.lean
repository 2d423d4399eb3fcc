/-
  Chapter 12 in plain Lean: sections, places.
-/
import Derived.Test.YtkejmhpodhbeeaaDoorQe
import Derived.Test.YtkejmhpodhbeeaaDoorQd
import Derived.Test.YtkejmhpodhbeeaaDoorQf
set_option linter.unusedVariables false
set_option linter.unusedSimpArgs false
set_option linter.unusedSectionVars false
set_option linter.unusedSimpArgs false
set_option maxRecDepth 100000
set_option linter.unusedVariables false
namespace Go.Proofs.YtkejmhpodhbeeaaDoor
open Go Go.Mw

structure Sec where
  id : Int
  name : List UInt8
  bs : Option (List UInt8)
instance : Inhabited Sec := ⟨⟨0, [], none⟩⟩
deriving instance DecidableEq for Sec
def gb (o : Option (List UInt8)) : List UInt8 := o.getD []
theorem gb_some (l : List UInt8) : gb (some l) = l := rfl
/-- A section, as a row. -/
def sec_ (s : Sec) : List AV := [.int .i64 s.id, .str s.name, slv s.bs]
theorem sec_e (s : Sec) : sec_ s = [.int .i64 s.id, .str s.name, slv s.bs] := rfl
theorem aLen_slv (o : Option (List UInt8)) : aLen (slv o) = some (.int .i64 (gb o).length) := by cases o <;> simp [slv, aLen, gb]
theorem rowsA_slv (h : Nat → Option AObj) (o : Option (List UInt8)) : rowsA 1 h (slv o) = some ((gb o).map by_) := by cases o <;> rfl
theorem idsG_slv (o : Option (List UInt8)) : idsG (slv o) = [] := by cases o <;> rfl
theorem idsC_slv (o : Option (List UInt8)) : idsC (slv o) = [] := by cases o <;> rfl
theorem mV_slv (i : Nat) (o : Option (List UInt8)) : mV i (slv o) = false := by cases o <;> rfl
theorem mG_slv (i : Nat) (o : Option (List UInt8)) : mG i (slv o) = false := by cases o <;> rfl
theorem mC_slv (i : Nat) (o : Option (List UInt8)) : mC i (slv o) = false := by cases o <;> rfl
theorem purV_slv (i : Nat) (o : Option (List UInt8)) : purV i (slv o) = slv o := by cases o <;> rfl
theorem immA_slv (o : Option (List UInt8)) : immA (slv o) = true := by cases o <;> rfl
theorem cellsA_slv (o : Option (List UInt8)) : cellsA (slv o) = some [slv o] := by cases o <;> rfl
section
variable {β : Type} (o : Option (List UInt8))
theorem cells_m (f1 f2 : List AV → β) (f3 : Unit → β) (f4 : AV → β) : cellsA.match_1 (fun _ => β) (slv o) f1 f2 f3 f4 = f4 (slv o) := by cases o <;> rfl
theorem idsV_m (f1 : List AV → β) (f2 : AV → β) : idsV.match_1 (fun _ => β) (slv o) f1 f2 = f2 (slv o) := by cases o <;> rfl
theorem idsG_m (f1 : List AV → β) (f2 : AV → β) : idsG.match_1 (fun _ => β) (slv o) f1 f2 = f2 (slv o) := by cases o <;> rfl
theorem idsC_m (f1 : FuncId → List AV → β) (f2 : AV → β) : idsC.match_1 (fun _ => β) (slv o) f1 f2 = f2 (slv o) := by cases o <;> rfl
theorem idsP_m (f1 f2 : Nat → Nat → Nat → Nat → β) (f3 : AV → β) : idsP.match_1 (fun _ => β) (slv o) f1 f2 f3 = f3 (slv o) := by cases o <;> rfl
theorem isAny_m (f1 : Unit → β) (f2 : AV → β) : isAny.match_1 (fun _ => β) (slv o) f1 f2 = f2 (slv o) := by cases o <;> rfl
end
attribute [go_sem] isAny_m cells_m idsV_m idsG_m idsC_m idsP_m
attribute [go_sem ↓] cellsA_slv slv_ids idsG_slv idsC_slv mV_slv mG_slv mC_slv purV_slv immA_slv
attribute [go_sem] sec_e aLen_slv rowsA_slv bytes_by

/-- The place of a section, and the section of a place. -/
def plc (id : Int) : Int := if id < 1 ∨ id > 12 then 0 else if id = 10 then 11 else if id = 11 then 12 else if id = 12 then 10 else id
def att (p : Int) : Int := if p < 1 ∨ p > 12 then 0 else if p = 10 then 12 else if p = 11 then 10 else if p = 12 then 11 else p
theorem plc_0 {id : Int} (h : id < 1 ∨ id > 12) : plc id = 0 := by unfold plc; rw [if_pos h]
theorem att_0 {p : Int} (h : p < 1 ∨ p > 12) : att p = 0 := by unfold att; rw [if_pos h]
theorem plc_in (id : Int) : 0 ≤ plc id ∧ plc id ≤ 12 := by unfold plc; repeat' split <;> omega
theorem att_in (p : Int) : 0 ≤ att p ∧ att p ≤ 12 := by unfold att; repeat' split <;> omega
theorem att_plc {id : Int} (h : 1 ≤ id ∧ id ≤ 12) : att (plc id) = id ∧ 1 ≤ plc id := by
  have h1 : ¬ (id < 1 ∨ id > 12) := by omega
  unfold plc
  rw [if_neg h1]
  unfold att
  repeat' split
  all_goals omega
theorem plc_att {p : Int} (h : 1 ≤ p ∧ p ≤ 12) : plc (att p) = p ∧ 1 ≤ att p := by
  have h1 : ¬ (p < 1 ∨ p > 12) := by omega
  unfold att
  rw [if_neg h1]
  unfold plc
  repeat' split
  all_goals omega
theorem twelve {id : Int} (h : 1 ≤ id ∧ id ≤ 12) : id = 1 ∨ id = 2 ∨ id = 3 ∨ id = 4 ∨ id = 5 ∨ id = 6 ∨ id = 7 ∨ id = 8 ∨ id = 9 ∨ id = 10 ∨ id = 11 ∨ id = 12 := by omega

/-- The head of a module. -/
def hdr : List UInt8 := [0, 97, 115, 109, 1, 0, 0, 0]
/-- What is in a section: the error, the section. -/
def parS (id : Int) (body : List UInt8) : Int × Sec :=
  if id = 0 then (if (rName true body 0 0).2.2 ≠ 0 then ((rName true body 0 0).2.2, default) else (0, ⟨0, (rName true body 0 0).1, some (body.drop (rName true body 0 0).2.1)⟩))
  else (0, ⟨id, [], some body⟩)
/-- The contents of the section at the head of 'd': the bytes, where they end, the error. -/
def tkS (d : List UInt8) : Option (List UInt8) × Nat × Int := rTake ((rU true 32 d 1 0).2.2 == 0) d (rU true 32 d 1 0).2.1 (rU true 32 d 1 0).2.2 (rU true 32 d 1 0).1
/-- One section at the head of 'd'; 'last' is the greatest place so far: the error, the section, the rest. -/
def oneS (d : List UInt8) (last : Int) : Int × Sec × List UInt8 :=
  if (nth d 0).toNat > 12 then (4, default, []) else if (tkS d).2.2 ≠ 0 then ((tkS d).2.2, default, []) else
  if (nth d 0).toNat ≠ 0 ∧ plc (nth d 0).toNat ≤ last then (7, default, []) else
  if (parS (nth d 0).toNat (gb (tkS d).1)).1 ≠ 0 then ((parS (nth d 0).toNat (gb (tkS d).1)).1, default, []) else
  (0, (parS (nth d 0).toNat (gb (tkS d).1)).2, d.drop (tkS d).2.1)
/-- All sections of 'd'. -/
def splA : Nat → List UInt8 → Int → List Sec → Int × List Sec
  | 0, _, _, acc => (0, acc)
  | f + 1, d, last, acc => if d.length = 0 then (0, acc) else
    if (oneS d last).1 ≠ 0 then ((oneS d last).1, []) else splA f (oneS d last).2.2 (max last (plc (oneS d last).2.1.id)) (acc ++ [(oneS d last).2.1])
def spS (d : List UInt8) (last : Int) (acc : List Sec) : Int × List Sec := splA d.length d last acc
def spl (b : List UInt8) : Int × List Sec :=
  if b.length > 262144 then (6, []) else if b.length < 8 ∨ b.take 8 ≠ hdr then (4, []) else spS (b.drop 8) 0 []
/-- Sections that are joined. -/
def inn (s : Sec) : List UInt8 := if s.id = 0 then putU s.name.length ++ s.name ++ gb s.bs else gb s.bs
def encS (s : Sec) : List UInt8 := UInt8.ofNat s.id.toNat :: (putU (inn s).length ++ inn s)
def joE (s : Sec) (last : Int) : Int :=
  if s.id < 0 ∨ s.id > 12 ∨ (s.id ≠ 0 ∧ s.name ≠ []) then 4 else if s.id ≠ 0 ∧ plc s.id ≤ last then 7 else
  if s.id = 0 then (if uv s.name = false then 9 else if s.name.length > 64 then 6 else 0) else 0
def joA : List Sec → Int → List UInt8 → Int × List UInt8
  | [], _, w => (0, w)
  | s :: r, last, w => if joE s last ≠ 0 then (joE s last, []) else joA r (max last (plc s.id)) (w ++ encS s)
def joi (l : List Sec) : Int × List UInt8 := joA l 0 hdr
theorem take_nx {α : Type} [Inhabited α] {l : List α} {i : Nat} (h : i < l.length) : l.take (i + 1) = l.take i ++ [nth l i] := by rw [List.take_add_one, nth_some h, Option.toList_some]
theorem drop_nx {α : Type} [Inhabited α] {l : List α} {i : Nat} (h : i < l.length) : l.drop i = nth l i :: l.drop (i + 1) := by
  rw [List.drop_eq_getElem_cons h, ← nth_eq h]
/-- How many bytes, names included. -/
def tot : List Sec → Nat
  | [] => 0
  | s :: r => (gb s.bs).length + s.name.length + tot r
end Go.Proofs.YtkejmhpodhbeeaaDoor
set_option linter.unusedSimpArgs false
set_option maxRecDepth 100000
set_option linter.unusedVariables false
namespace Go.Proofs.YtkejmhpodhbeeaaDoor
open Go Go.Mw

theorem rTake_len {b : List UInt8} {a : Nat} {n : Int} {ok : Bool} {e : Int} (h0 : ok = true → e = 0) (h : (rTake ok b a e n).2.2 = 0) (ho : ok = false → e ≠ 0) (ha : a ≤ b.length) :
    0 ≤ n ∧ ((n.toNat : Nat) : Int) = n ∧ a + n.toNat ≤ b.length ∧ rTake ok b a e n = (some ((b.drop a).take n.toNat), a + n.toNat, 0) := by
  cases ok with
  | false => exact absurd (by simpa [rTake] using h) (ho rfl)
  | true =>
    obtain rfl := h0 rfl
    unfold rTake at h ⊢
    simp only [if_true] at h ⊢
    by_cases h1 : n < 0
    · rw [if_pos h1] at h; exact absurd h (show ¬ ((1 : Int) = 0) by decide)
    rw [if_neg h1] at h ⊢
    by_cases h2 : n > (b.length : Int) - a
    · rw [if_pos h2] at h; exact absurd h (show ¬ ((3 : Int) = 0) by decide)
    rw [if_neg h2]
    exact ⟨by omega, by omega, by omega, rfl⟩
theorem rU_ge {bits : Nat} {b : List UInt8} {a : Nat} {e : Int} {ok : Bool} : a ≤ (rU ok bits b a e).2.1 := by
  unfold rU
  repeat' split
  all_goals first | exact Nat.le_refl _ | exact Nat.le_add_right _ _
/-- Where the number lies does not matter. -/
theorem rU_shift {bits : Nat} {b : List UInt8} {a : Nat} : rU true bits b (a + 1) 0 = ((rU true bits (b.drop a) 1 0).1, a + (rU true bits (b.drop a) 1 0).2.1, (rU true bits (b.drop a) 1 0).2.2) := by
  unfold rU
  rw [List.drop_drop]
  simp only [if_true]
  split
  · rfl
  · simp only [Nat.add_assoc]
theorem rTake_shift {ok : Bool} {b : List UInt8} {a x : Nat} {e n : Int} (ha : a ≤ b.length) : rTake ok b (a + x) e n = ((rTake ok (b.drop a) x e n).1, a + (rTake ok (b.drop a) x e n).2.1, (rTake ok (b.drop a) x e n).2.2) := by
  unfold rTake
  cases ok with
  | false => rfl
  | true =>
    simp only [if_true, List.length_drop, List.drop_drop]
    split
    · rfl
    have e1 : ((b.length - a : Nat) : Int) - (x : Int) = (b.length : Int) - ((a + x : Nat) : Int) := by omega
    rw [e1]
    split
    · rfl
    · simp only [Nat.add_assoc]
theorem tk_shift {b : List UInt8} {a : Nat} (ha : a ≤ b.length) :
    rTake ((rU true 32 b (a + 1) 0).2.2 == 0) b (rU true 32 b (a + 1) 0).2.1 (rU true 32 b (a + 1) 0).2.2 (rU true 32 b (a + 1) 0).1 = ((tkS (b.drop a)).1, a + (tkS (b.drop a)).2.1, (tkS (b.drop a)).2.2) := by
  rw [rU_shift]
  exact rTake_shift ha
theorem rByte_in {b : List UInt8} {a : Nat} (ha : a < b.length) : rByte true b a 0 = (nth (b.drop a) 0, a + 1, 0) := by
  unfold rByte
  rw [if_pos rfl, if_neg (by omega), nth_drop]
  rfl
theorem tkS_ok {d : List UInt8} (hd : 0 < d.length) (h : (tkS d).2.2 = 0) : ∃ x, (tkS d).1 = some x ∧ 1 ≤ (tkS d).2.1 ∧ (tkS d).2.1 ≤ d.length ∧ x.length ≤ d.length := by
  have h1 := rU_ge (bits := 32) (b := d) (a := 1) (e := 0) (ok := true)
  have h2 := rU_a (ok := true) (bits := 32) (b := d) (a := 1) (e := 0) (by omega)
  have h3 := rTake_len (ok := ((rU true 32 d 1 0).2.2 == 0)) (e := (rU true 32 d 1 0).2.2) (n := (rU true 32 d 1 0).1) (fun h => by simpa using h) h (fun h => by simpa using h) h2
  obtain ⟨g1, g2, g3, g4⟩ := h3
  unfold tkS
  rw [g4]
  exact ⟨_, rfl, by simp only; omega, by simp only; omega, by simp; omega⟩
theorem oneS_lt {d : List UInt8} {last : Int} (hd : 0 < d.length) (h : (oneS d last).1 = 0) : (oneS d last).2.2.length < d.length := by
  unfold oneS at h ⊢
  by_cases h1 : (nth d 0).toNat > 12
  · rw [if_pos h1]; exact hd
  rw [if_neg h1] at h ⊢
  by_cases h2 : (tkS d).2.2 ≠ 0
  · rw [if_pos h2]; exact hd
  rw [if_neg h2] at h ⊢
  obtain ⟨x, g1, g2, g3, g4⟩ := tkS_ok hd (Classical.not_not.1 h2)
  split
  · exact hd
  split
  · exact hd
  · simp only [List.length_drop]; omega
theorem splA_enough : ∀ (f g : Nat) (d : List UInt8) (last : Int) (acc : List Sec), d.length ≤ f → d.length ≤ g → splA f d last acc = splA g d last acc
  | 0, 0, _, _, _, _, _ => rfl
  | 0, g + 1, d, last, acc, h, _ => by rw [splA, splA, if_pos (by omega)]
  | f + 1, 0, d, last, acc, _, h => by rw [splA, splA, if_pos (by omega)]
  | f + 1, g + 1, d, last, acc, h1, h2 => by
    rw [splA, splA]
    by_cases h3 : d.length = 0
    · rw [if_pos h3, if_pos h3]
    rw [if_neg h3, if_neg h3]
    by_cases h4 : (oneS d last).1 ≠ 0
    · rw [if_pos h4, if_pos h4]
    rw [if_neg h4, if_neg h4]
    have := oneS_lt (by omega) (Classical.not_not.1 h4)
    exact splA_enough f g _ _ _ (by omega) (by omega)
theorem spS_nil (last : Int) (acc : List Sec) : spS [] last acc = (0, acc) := rfl
theorem spS_err {d : List UInt8} {last : Int} {acc : List Sec} (hd : 0 < d.length) (h : (oneS d last).1 ≠ 0) : spS d last acc = ((oneS d last).1, []) := by
  obtain ⟨n, hn⟩ : ∃ n, d.length = n + 1 := ⟨d.length - 1, by omega⟩
  rw [spS, hn, splA, if_neg (by omega), if_pos h]
theorem spS_step {d : List UInt8} {last : Int} {acc : List Sec} (hd : 0 < d.length) (h : (oneS d last).1 = 0) : spS d last acc = spS (oneS d last).2.2 (max last (plc (oneS d last).2.1.id)) (acc ++ [(oneS d last).2.1]) := by
  obtain ⟨n, hn⟩ : ∃ n, d.length = n + 1 := ⟨d.length - 1, by omega⟩
  have := oneS_lt hd h
  rw [spS, hn, splA, if_neg (by omega), if_neg (by rw [h]; simp), spS]
  exact splA_enough _ _ _ _ _ (by omega) (Nat.le_refl _)
/-- The section of which the head was right. -/
theorem oneS_ok {d : List UInt8} {last : Int} (h : (oneS d last).1 = 0) : (nth d 0).toNat ≤ 12 ∧ (tkS d).2.2 = 0 ∧ ¬ ((nth d 0).toNat ≠ 0 ∧ plc (nth d 0).toNat ≤ last) ∧ (parS (nth d 0).toNat (gb (tkS d).1)).1 = 0 ∧ (oneS d last).2 = ((parS (nth d 0).toNat (gb (tkS d).1)).2, d.drop (tkS d).2.1) ∧ (oneS d last).2.1.id = (nth d 0).toNat := by
  unfold oneS at h ⊢
  by_cases h1 : (nth d 0).toNat > 12
  · rw [if_pos h1] at h; exact absurd h (by decide)
  rw [if_neg h1] at h ⊢
  by_cases h2 : (tkS d).2.2 ≠ 0
  · rw [if_pos h2] at h; exact absurd h h2
  rw [if_neg h2] at h ⊢
  by_cases h3 : (nth d 0).toNat ≠ 0 ∧ plc (nth d 0).toNat ≤ last
  · rw [if_pos h3] at h; exact absurd h (by decide)
  rw [if_neg h3] at h ⊢
  by_cases h4 : (parS (nth d 0).toNat (gb (tkS d).1)).1 ≠ 0
  · rw [if_pos h4] at h; exact absurd h h4
  rw [if_neg h4]
  refine ⟨by omega, Classical.not_not.1 h2, h3, Classical.not_not.1 h4, rfl, ?_⟩
  have h5 := Classical.not_not.1 h4
  unfold parS at h5 ⊢
  by_cases h6 : ((nth d 0).toNat : Int) = 0
  · rw [if_pos h6] at h5 ⊢
    split at h5
    · rename_i h7; exact absurd h5 h7
    · rename_i h7; rw [if_neg h7]; exact h6.symm
  · rw [if_neg h6]
end Go.Proofs.YtkejmhpodhbeeaaDoor
set_option linter.unusedSimpArgs false
set_option maxRecDepth 100000
set_option maxHeartbeats 4000000
set_option linter.unusedVariables false
namespace Go.Proofs.YtkejmhpodhbeeaaDoor
open Go Go.Mw
-- @U: slv_none, slv_some

theorem s_sib1 (s : List UInt8) (n : Int) : PCalls Tryd.prog n_stringslite_IndexByte [.str s, .int .u8 n] (.int .i64 (sibN s n.toNat.toUInt8)) := by
  refine pfun_sound (ic := F_stringslite_IndexByte.body) mixed c_stringslite_IndexByte rfl rfl ?_
  simp only [go_sem, F_stringslite_IndexByte]
  exact pdone [] (by simp only [go_sem]) (by first | rfl | simp [go_sem, slv_ids])
theorem s_sib (s : List UInt8) (n : Int) : PCalls Tryd.prog n_strings_IndexByte [.str s, .int .u8 n] (.int .i64 (sibN s n.toNat.toUInt8)) := by
  refine pfun_sound (ic := F_strings_IndexByte.body) mixed c_strings_IndexByte rfl rfl ?_
  simp only [go_sem, F_strings_IndexByte]
  refine call_same (s_sib1 s n) (by simp [go_sem]) ?_
  simp only [go_sem]
  exact pdone [] (by simp only [go_sem]) (by first | rfl | simp [go_sem, slv_ids])
theorem s_place (id : Int) : PCalls Tryd.prog n_section_Place [.int .i64 id] (.int .i64 (plc id)) := by
  refine pfun_sound (ic := F_section_Place.body) mixed c_section_Place rfl rfl ?_
  by_cases h1 : id < 1
  · rw [plc_0 (.inl h1)]
    simp only [go_sem, F_section_Place, decide_eq_true h1]
    exact pdone [] (by simp only [go_sem]) (by first | rfl | simp [go_sem, slv_ids])
  by_cases h2 : id > 12
  · rw [plc_0 (.inr h2)]
    simp only [go_sem, F_section_Place, decide_eq_false h1, decide_eq_true h2]
    exact pdone [] (by simp only [go_sem]) (by first | rfl | simp [go_sem, slv_ids])
  have w1 : IntKind.u8.wrap id = id := by rw [w_u8]; omega
  have w2 : IntKind.i64.wrap (sibN [1, 2, 3, 4, 5, 6, 7, 8, 9, 12, 10, 11] id.toNat.toUInt8 + 1) = plc id := by
    rcases twelve (id := id) (by omega) with rfl | rfl | rfl | rfl | rfl | rfl | rfl | rfl | rfl | rfl | rfl | rfl <;> decide +kernel
  simp only [go_sem, F_section_Place, decide_eq_false h1, decide_eq_false h2, w1]
  refine call_same (s_sib [1, 2, 3, 4, 5, 6, 7, 8, 9, 12, 10, 11] id) (by simp [go_sem]) ?_
  simp only [go_sem, w2]
  exact pdone [] (by simp only [go_sem]) (by first | rfl | simp [go_sem, slv_ids])
theorem s_atp (p : Int) : PCalls Tryd.prog n_section_At [.int .i64 p] (.int .i64 (att p)) := by
  refine pfun_sound (ic := F_section_At.body) mixed c_section_At rfl rfl ?_
  by_cases h1 : p < 1
  · rw [att_0 (.inl h1)]
    simp only [go_sem, F_section_At, decide_eq_true h1]
    exact pdone [] (by simp only [go_sem]) (by first | rfl | simp [go_sem, slv_ids])
  by_cases h2 : p > 12
  · rw [att_0 (.inr h2)]
    simp only [go_sem, F_section_At, decide_eq_false h1, decide_eq_true h2]
    exact pdone [] (by simp only [go_sem]) (by first | rfl | simp [go_sem, slv_ids])
  have h3 : 1 ≤ p ∧ p ≤ 12 := by omega
  have w1 : IntKind.i64.wrap (p - 1) = p - 1 := wi (by omega) (by omega)
  have w2 : IntKind.i64.wrap ((nth ([1, 2, 3, 4, 5, 6, 7, 8, 9, 12, 10, 11] : List UInt8) (p - 1).toNat).toNat : Int) = att p := by
    clear h1 h2 w1
    rcases twelve h3 with rfl | rfl | rfl | rfl | rfl | rfl | rfl | rfl | rfl | rfl | rfl | rfl <;> decide +kernel
  simp only [go_sem, F_section_At, decide_eq_false h1, decide_eq_false h2, w1, w2]
  exact ⟨by omega, by simp; omega, by exact pdone [] (by simp only [go_sem]) (by first | rfl | simp [go_sem, slv_ids])⟩
theorem r_place (id : Int) : PCalls Tryd.prog n_ref12_Place [.int .i64 id] (.int .i64 (plc id)) := by
  refine pfun_sound (ic := F_ref12_Place.body) mixed c_ref12_Place rfl rfl ?_
  by_cases h1 : id < 1
  · rw [plc_0 (.inl h1)]
    simp only [go_sem, F_ref12_Place, decide_eq_true h1]
    exact pdone [] (by simp only [go_sem]) (by first | rfl | simp [go_sem, slv_ids])
  by_cases h2 : id > 12
  · rw [plc_0 (.inr h2)]
    simp only [go_sem, F_ref12_Place, decide_eq_false h1, decide_eq_true h2]
    exact pdone [] (by simp only [go_sem]) (by first | rfl | simp [go_sem, slv_ids])
  have h3 : 1 ≤ id ∧ id ≤ 12 := by omega
  have e1 : ldO none 1 id.toNat 0 (some ⟨3, 1, [[.int .i64 0], [.int .i64 1], [.int .i64 2], [.int .i64 3], [.int .i64 4], [.int .i64 5], [.int .i64 6], [.int .i64 7], [.int .i64 8], [.int .i64 9], [.int .i64 11], [.int .i64 12], [.int .i64 10]], false⟩) = some (.int .i64 (plc id)) := by
    clear h1 h2
    rcases twelve h3 with rfl | rfl | rfl | rfl | rfl | rfl | rfl | rfl | rfl | rfl | rfl | rfl <;> rfl
  simp only [go_sem, F_ref12_Place, decide_eq_false h1, decide_eq_false h2, e1]
  exact ⟨⟨by omega, by simp; omega⟩, by exact pdone [] (by simp only [go_sem]) (by first | rfl | simp [go_sem, slv_ids])⟩
theorem r_at (p : Int) : PCalls Tryd.prog n_ref12_At [.int .i64 p] (.int .i64 (att p)) := by
  refine pfun_sound (ic := F_ref12_At.body) mixed c_ref12_At rfl rfl ?_
  simp only [go_sem, F_ref12_At]
  refine loop_rule (fun i : Nat => ⟨[(3, .int .i64 ((i + 1 : Nat) : Int)), (0, .int .i64 p)], []⟩) (fun i => i ≤ 12 ∧ ∀ k : Nat, k < i → plc ((k + 1 : Nat) : Int) ≠ p) (fun i => 12 - i) 0 ⟨by omega, fun k hk => absurd hk (Nat.not_lt_zero k)⟩ (Wk.of ?_ ?_) ?_
  · simp only [go_sem]; simp
  · simp only [go_sem]
  rintro i ⟨hi, hk⟩
  by_cases h1 : ((i + 1 : Nat) : Int) ≤ 12
  · simp only [go_sem, decide_eq_true h1]
    refine call_same (r_place ((i + 1 : Nat) : Int)) (by simp [go_sem]) ?_
    by_cases h2 : plc ((i + 1 : Nat) : Int) = p
    · have r : att p = ((i + 1 : Nat) : Int) := by rw [← h2]; exact (att_plc ⟨by omega, by omega⟩).1
      rw [r]
      simp only [go_sem, beq_t h2]
      exact pdone [] (by simp only [go_sem]) (by first | rfl | simp [go_sem, slv_ids])
    · have w1 : IntKind.i64.wrap (((i + 1 : Nat) : Int) + 1) = ((i + 1 + 1 : Nat) : Int) := by rw [wi (by omega) (by omega)]; omega
      simp only [go_sem, beq_f h2]
      refine klp_n (i + 1) ⟨by omega, fun k hk2 => ?_⟩ (show 12 - (i + 1) < 12 - i by omega) (Wk.of ?_ ?_)
      · rcases Nat.lt_or_ge k i with h4 | h4
        · exact hk k h4
        · obtain rfl : k = i := by omega
          exact h2
      · simp only [go_sem, w1]
        try simp
      · simp only [go_sem]
  · simp only [go_sem, decide_eq_false h1]
    have r : att p = 0 := by
      by_cases hp : 1 ≤ p ∧ p ≤ 12
      · exfalso
        obtain ⟨g1, g2⟩ := plc_att hp
        have g3 := (att_in p).2
        refine hk (att p - 1).toNat (by omega) ?_
        rw [show (((att p - 1).toNat + 1 : Nat) : Int) = att p by omega]
        exact g1
      · exact att_0 (by omega)
    rw [r]
    exact pdone [] (by simp only [go_sem]) (by first | rfl | simp [go_sem, slv_ids])
theorem s_rises (id last : Int) : PCalls Tryd.prog n_section_rises [.int .i64 id, .int .i64 last] (.tup [.int .i64 (if id = 0 then last else plc id), .bool (decide (id = 0 ∨ plc id > last))]) := by
  refine pfun_sound (ic := F_section_rises.body) mixed c_section_rises rfl rfl ?_
  by_cases h : id = 0
  · subst h
    simp only [go_sem, F_section_rises, true_or, decide_true]
    exact pdone [] (by simp only [go_sem]) (by first | rfl | simp [go_sem, slv_ids])
  · simp only [go_sem, F_section_rises, beq_f h, if_neg h, false_or]
    refine call_same (s_place id) (by simp [go_sem]) ?_
    simp only [go_sem]
    exact pdone [] (by simp only [go_sem, h, false_or]) (by first | rfl | simp [go_sem, slv_ids])
theorem r_head : PCalls Tryd.prog n_ref12_head [] (.sl 1 (hdr.map by_)) := by
  refine pfun_sound (ic := F_ref12_head.body) mixed c_ref12_head rfl rfl ?_
  simp only [go_sem, F_ref12_head]
  exact pdone [1] (by rfl) rfl
theorem s_ours (l : List Sec) (hl : l.length < 1000000) : PCalls Tryd.prog n_law12_ours [.sl 3 (l.map sec_)] (.sl 3 (l.map sec_)) := by
  refine pfun_sound (ic := F_law12_ours.body) mixed c_law12_ours rfl rfl ?_
  simp only [go_sem, F_law12_ours]
  refine loop_rule (fun i : Nat => ⟨[(3, .ms 900 3 0 i), (4, .int .i64 i), (0, .sl 3 (l.map sec_))], [(900, ⟨122, 3, (l.take i).map sec_, false⟩)]⟩) (fun i => i ≤ l.length) (fun i => l.length - i) 0 (Nat.zero_le _) ((Wk.nil _ 3 900 3 122 (by simp only [go_sem]) (.inl (by decide))).trans (Wk.of ?_ ?_)) ?_
  · simp only [go_sem, St.mknil]; try simp [go_sem]
  · simp only [go_sem, St.mknil]; try simp [go_sem]
  intro i hi
  have e8 := wi (n := (i : Int) + 1) (by omega) (by omega)
  by_cases h1 : (i : Int) < (l.length : Int)
  · have happ := fun ys => appO_map 900 122 3 i sec_ (l.take i) ys (by simp; omega)
    simp only [go_sem, decide_eq_true h1, happ]
    simp only [show 0 ≤ (i : Int) by omega, h1, show i < 1073741824 by omega, true_and]
    refine klp_n (i + 1) (by omega) (show l.length - (i + 1) < l.length - i by omega) (Wk.of ?_ ?_)
    · simp only [go_sem, e8]
      try simp
    · simp only [go_sem]
      rw [take_nx (by omega), List.map_append]
      rfl
  · simp only [go_sem, decide_eq_false h1]
    obtain rfl : i = l.length := by omega
    refine pdone [900] ?_ rfl
    simp only [go_sem, List.take_length, Nat.le_refl, List.length_map]
    rw [List.take_of_length_le (by simp)]
theorem s_theirs (l : List Sec) (hl : l.length < 1000000) : PCalls Tryd.prog n_law12_theirs [.sl 3 (l.map sec_)] (.sl 3 (l.map sec_)) := by
  refine pfun_sound (ic := F_law12_theirs.body) mixed c_law12_theirs rfl rfl ?_
  simp only [go_sem, F_law12_theirs]
  refine loop_rule (fun i : Nat => ⟨[(3, .ms 900 3 0 i), (4, .int .i64 i), (0, .sl 3 (l.map sec_))], [(900, ⟨123, 3, (l.take i).map sec_, false⟩)]⟩) (fun i => i ≤ l.length) (fun i => l.length - i) 0 (Nat.zero_le _) ((Wk.nil _ 3 900 3 123 (by simp only [go_sem]) (.inl (by decide))).trans (Wk.of ?_ ?_)) ?_
  · simp only [go_sem, St.mknil]; try simp [go_sem]
  · simp only [go_sem, St.mknil]; try simp [go_sem]
  intro i hi
  have e8 := wi (n := (i : Int) + 1) (by omega) (by omega)
  by_cases h1 : (i : Int) < (l.length : Int)
  · have happ := fun ys => appO_map 900 123 3 i sec_ (l.take i) ys (by simp; omega)
    simp only [go_sem, decide_eq_true h1, happ]
    simp only [show 0 ≤ (i : Int) by omega, h1, show i < 1073741824 by omega, true_and]
    refine klp_n (i + 1) (by omega) (show l.length - (i + 1) < l.length - i by omega) (Wk.of ?_ ?_)
    · simp only [go_sem, e8]
      try simp
    · simp only [go_sem]
      rw [take_nx (by omega), List.map_append]
      rfl
  · simp only [go_sem, decide_eq_false h1]
    obtain rfl : i = l.length := by omega
    refine pdone [900] ?_ rfl
    simp only [go_sem, List.take_length, Nat.le_refl, List.length_map]
    rw [List.take_of_length_le (by simp)]
end Go.Proofs.YtkejmhpodhbeeaaDoor
set_option linter.unusedSimpArgs false
set_option maxRecDepth 100000
set_option maxHeartbeats 4000000
set_option linter.unusedVariables false
namespace Go.Proofs.YtkejmhpodhbeeaaDoor
open Go Go.Mw
-- @U: slv_none, slv_some

/-- Two sections that the law takes for one. -/
def eqS (s t : Sec) : Prop := s.id = t.id ∧ s.name = t.name ∧ gb s.bs = gb t.bs
theorem s_same12 (l m : List Sec) (hl : l.length < 1000000) (h1 : l.length = m.length) (h2 : ∀ k, k < l.length → eqS (nth l k) (nth m k)) : PCalls Tryd.prog n_ref12_Same [.sl 3 (l.map sec_), .sl 3 (m.map sec_)] (.bool true) := by
  refine pfun_sound (ic := F_ref12_Same.body) mixed c_ref12_Same rfl rfl ?_
  have d0 : ((l.length : Int) != (m.length : Int)) = false := by rw [h1]; simp
  simp only [go_sem, F_ref12_Same, d0]
  refine loop_rule (fun i : Nat => ⟨[(5, .int .i64 i), (0, .sl 3 (l.map sec_)), (1, .sl 3 (m.map sec_))], []⟩) (fun i => i ≤ l.length) (fun i => l.length - i) 0 (Nat.zero_le _) (Wk.of ?_ ?_) ?_
  · simp only [go_sem]; try simp
  · simp only [go_sem]
  intro i hi
  have e8 := wi (n := (i : Int) + 1) (by omega) (by omega)
  by_cases h3 : (i : Int) < (l.length : Int)
  · obtain ⟨g1, g2, g3⟩ := h2 i (by omega)
    have d1 : ((nth l i).id != (nth m i).id) = false := by rw [g1]; simp
    have d2 : ((nth l i).name == (nth m i).name) = true := by rw [g2]; simp
    have d3 : (gb (nth l i).bs == gb (nth m i).bs) = true := by rw [g3]; simp
    simp only [go_sem, decide_eq_true h3, d1, d2, d3]
    simp only [show 0 ≤ (i : Int) by omega, show (i : Int) < (l.length : Int) by omega, show (i : Int) < (m.length : Int) by omega, true_and]
    refine klp_n (i + 1) (by omega) (show l.length - (i + 1) < l.length - i by omega) (Wk.of ?_ ?_)
    · simp only [go_sem, e8]
      try simp
    · simp only [go_sem]
  · simp only [go_sem, decide_eq_false h3]
    exact pdone [] (by simp only [go_sem]) (by first | rfl | simp [go_sem, slv_ids])

theorem tot_app (l m : List Sec) : tot (l ++ m) = tot l + tot m := by
  induction l with
  | nil => simp [tot]
  | cons s l ih => simp only [List.cons_append, tot, ih]; omega
theorem tot_take {l : List Sec} {i : Nat} (h : i < l.length) : tot (l.take (i + 1)) = tot (l.take i) + (gb (nth l i).bs).length + (nth l i).name.length := by
  rw [take_nx h, tot_app]
  simp [tot]
  omega
theorem tot_le (l : List Sec) (i : Nat) : tot (l.take i) ≤ tot l := by
  have := tot_app (l.take i) (l.drop i)
  rw [List.take_append_drop] at this
  omega
/-- What 'few' counts. -/
def cnt5 (l : List Sec) : Nat → Nat
  | 0 => 0
  | i + 1 => cnt5 l i + min (gb (nth l i).bs).length 5000 + min (nth l i).name.length 5000
theorem cnt5_le (l : List Sec) : ∀ i, cnt5 l i ≤ 10000 * i
  | 0 => Nat.le_refl _
  | i + 1 => by have := cnt5_le l i; simp only [cnt5]; omega
theorem cnt5_tot (l : List Sec) : ∀ i, i ≤ l.length → cnt5 l i ≤ 4000 → tot (l.take i) = cnt5 l i
  | 0, _, _ => by simp [cnt5, tot]
  | i + 1, h, hc => by
    simp only [cnt5] at hc ⊢
    have := cnt5_tot l i (by omega) (by omega)
    rw [tot_take (by omega)]
    omega
def fewB (l : List Sec) : Bool := decide ((l.length : Int) ≤ 40) && decide (((cnt5 l (min l.length 100) : Nat) : Int) ≤ 4000)
theorem fewB_tot {l : List Sec} (h : fewB l = true) : l.length ≤ 40 ∧ tot l ≤ 4000 := by
  simp only [fewB, Bool.and_eq_true, decide_eq_true_eq] at h
  obtain ⟨h1, h2⟩ := h
  have e : min l.length 100 = l.length := by omega
  rw [e] at h2
  have := cnt5_tot l l.length (Nat.le_refl _) (by omega)
  rw [List.take_length] at this
  omega
theorem s_few (l : List Sec) : PCalls Tryd.prog n_law12_few [.sl 3 (l.map sec_)] (.bool (fewB l)) := by
  refine pfun_sound (ic := F_law12_few.body) mixed c_law12_few rfl rfl ?_
  simp only [go_sem, F_law12_few]
  refine loop_rule (fun i : Nat => ⟨[(4, .int .i64 i), (3, .int .i64 (cnt5 l i : Nat)), (0, .sl 3 (l.map sec_))], []⟩) (fun i => i ≤ l.length ∧ i ≤ 100) (fun i => l.length - i) 0 ⟨Nat.zero_le _, Nat.zero_le _⟩ (Wk.of ?_ ?_) ?_
  · simp only [go_sem]; try simp [cnt5]
  · simp only [go_sem]
  rintro i ⟨hi, hi2⟩
  have e8 := wi (n := (i : Int) + 1) (by omega) (by omega)
  have hc := cnt5_le l i
  by_cases h3 : (i : Int) < (l.length : Int)
  · by_cases h4 : (i : Int) < 100
    · have m1 : ∀ n : Nat, (if (5000 : Int) < (n : Int) then (5000 : Int) else (n : Int)) = ((min n 5000 : Nat) : Int) := fun n => by split <;> omega
      have w1 : IntKind.i64.wrap (((cnt5 l i : Nat) : Int) + ((min (gb (nth l i).bs).length 5000 : Nat) : Int)) = ((cnt5 l i + min (gb (nth l i).bs).length 5000 : Nat) : Int) := by rw [wi (by omega) (by omega)]; omega
      have w2 : IntKind.i64.wrap (((cnt5 l i + min (gb (nth l i).bs).length 5000 : Nat) : Int) + ((min (nth l i).name.length 5000 : Nat) : Int)) = ((cnt5 l (i + 1) : Nat) : Int) := by simp only [cnt5]; rw [wi (by omega) (by omega)]; omega
      simp only [go_sem, decide_eq_true h3, decide_eq_true h4, m1, w1, w2]
      simp only [show 0 ≤ (i : Int) by omega, h3, true_and]
      refine klp_n (i + 1) ⟨by omega, by omega⟩ (show l.length - (i + 1) < l.length - i by omega) (Wk.of ?_ ?_)
      · simp only [go_sem, e8]
        try simp
      · simp only [go_sem]
    · simp only [go_sem, decide_eq_true h3, decide_eq_false h4]
      have r : fewB l = false := by
        rw [fewB, decide_eq_false (by omega), Bool.false_and]
      rw [r]
      exact ⟨fun h => by omega, fun _ => by exact pdone [] (by simp only [go_sem]) (by first | rfl | simp [go_sem, slv_ids])⟩
  · simp only [go_sem, decide_eq_false h3]
    obtain rfl : i = l.length := by omega
    have e : min l.length 100 = l.length := by omega
    refine ⟨fun h => ?_, fun h => ?_⟩
    · rw [fewB, decide_eq_true h, Bool.true_and, e]
      exact pdone [] (by simp only [go_sem]) (by first | rfl | simp [go_sem, slv_ids])
    · rw [fewB, decide_eq_false h, Bool.false_and]
      exact pdone [] (by simp only [go_sem]) (by first | rfl | simp [go_sem, slv_ids])
end Go.Proofs.YtkejmhpodhbeeaaDoor
set_option linter.unusedSimpArgs false
set_option maxRecDepth 100000
set_option maxHeartbeats 4000000
set_option linter.unusedVariables false
namespace Go.Proofs.YtkejmhpodhbeeaaDoor
open Go Go.Mw
-- @U: rx, ro, slv_none, slv_some

theorem aslc_from (l : List UInt8) (a : Nat) (h : a ≤ l.length) : aSlc 1 (.sl 1 (l.map by_)) (some (.int .i64 (a : Int))) none none = some (.sl 1 ((l.drop a).map by_)) := by
  have h2 : aBound 0 (some (.int .i64 (a : Int))) = some a := by simp only [aBound]; rw [if_pos (by omega), Int.toNat_natCast]
  have h3 : aBound (l.map by_).length none = some l.length := by simp [aBound]
  simp only [aSlc, h2, h3]
  rw [if_pos ⟨trivial, h, Nat.le_refl _, by simp⟩, List.map_drop, List.take_of_length_le (by simp)]
theorem s_part (id : Int) (body : List UInt8) (hb : body.length < 100000000) : PCalls Tryd.prog n_section_part [.int .i64 id, .sl 1 (body.map by_)] (.tup [.agg (sec_ (parS id body).2), .int .i64 (parS id body).1]) := by
  refine pfun_sound (ic := F_section_part.body) mixed c_section_part rfl rfl ?_
  have cp := fun x : List UInt8 => cpyO_full 30 1 x.length 5 (List.replicate x.length [.int .u8 0]) (x.map by_) (by simp) (by simp)
  by_cases h : id = 0
  · subst h
    have hn := rName_a (ok := true) (b := body) (a := 0) (e := 0) (Nat.zero_le _)
    simp only [go_sem, rx, ro, F_section_part]
    refine call_nrec (s_read body (by omega)) rfl (by simp [go_sem]) 901 (by decide) (by simp only [go_sem, rx, ro]) ?_
    simp only [go_sem, rx, ro]
    have c1 := s_name true body 0 0 (Nat.zero_le _) (by omega)
    rw [show (true && (0 : Int) == 0) = true from rfl] at c1
    refine call_m (c1) ⟨by decide, by decide⟩ (by first | rfl | exact slv_ids _) (by simp [go_sem, rx, ro]) rfl rfl (by rfl) ?_
    simp only [go_sem, rx, ro]
    refine call_m (s_err true body ((rName true body 0 0).2.1 : Nat) (rName true body 0 0).2.2) ⟨by decide, by decide⟩ (by first | rfl | exact slv_ids _) (by simp [go_sem, rx, ro]) rfl rfl (by rfl) ?_
    by_cases he : (rName true body 0 0).2.2 = 0
    · have r : parS 0 body = (0, ⟨0, (rName true body 0 0).1, some (body.drop (rName true body 0 0).2.1)⟩) := by simp [parS, he]
      have hl : (body.drop (rName true body 0 0).2.1).length ≤ body.length := by simp
      rw [r]
      simp only [go_sem, rx, ro, bne_f he]
      refine call_m (s_at true body ((rName true body 0 0).2.1 : Nat) (rName true body 0 0).2.2) ⟨by decide, by decide⟩ (by first | rfl | exact slv_ids _) (by simp [go_sem, rx, ro]) rfl rfl (by rfl) ?_
      simp only [go_sem, rx, ro, aslc_from body (rName true body 0 0).2.1 hn, cp (body.drop (rName true body 0 0).2.1)]
      refine ⟨⟨by omega, by omega, by omega⟩, pdone [30] ?_ rfl⟩
      simp only [go_sem, rx, ro, Nat.le_refl, List.length_map]
      rw [List.take_of_length_le (by simp)]
    · have r : parS 0 body = ((rName true body 0 0).2.2, default) := by simp [parS, he]
      rw [r]
      simp only [go_sem, rx, ro, bne_t he]
      exact pdone [] (by first | rfl | simp only [go_sem, rx, ro]) rfl
  · have r : parS id body = (0, ⟨id, [], some body⟩) := by simp [parS, h]
    rw [r]
    simp only [go_sem, rx, ro, F_section_part, beq_f h, cp body, List.length_map]
    refine ⟨⟨by omega, by omega, by omega⟩, pdone [30] ?_ rfl⟩
    simp only [go_sem, rx, ro, Nat.le_refl, List.length_map]
    rw [List.take_of_length_le (by simp)]
end Go.Proofs.YtkejmhpodhbeeaaDoor
set_option linter.unusedSimpArgs false
set_option maxRecDepth 100000
set_option maxHeartbeats 4000000
set_option linter.unusedVariables false
namespace Go.Proofs.YtkejmhpodhbeeaaDoor
open Go Go.Mw
-- @U: rx, ro, slv_none, slv_some

theorem bytes_tk (b : List UInt8) (n : Nat) : bytesA ((b.map by_).take n) = some (b.take n) := by rw [← List.map_take, bytes_by]
theorem aslc_to (l : List UInt8) (a : Nat) (h : a ≤ l.length) : aSlc 1 (.sl 1 (l.map by_)) none (some (.int .i64 (a : Int))) none = some (.sl 1 ((l.take a).map by_)) := by
  have h2 : aBound (l.map by_).length (some (.int .i64 (a : Int))) = some a := by simp only [aBound]; rw [if_pos (by omega), Int.toNat_natCast]
  have h3 : aBound (l.map by_).length none = some l.length := by simp [aBound]
  have h4 : aBound 0 none = some 0 := rfl
  simp only [aSlc, h2, h3, h4]
  rw [if_pos ⟨trivial, Nat.zero_le _, by simpa using h, by simp⟩, List.drop_zero, Nat.sub_zero, List.map_take]
theorem s_split (b : List UInt8) (hb : b.length < 100000000) : PCalls Tryd.prog n_section_Split [.sl 1 (b.map by_)] (.tup [.sl 3 ((spl b).2.map sec_), .int .i64 (spl b).1]) := by
  refine pfun_sound (ic := F_section_Split.body) mixed c_section_Split rfl rfl ?_
  by_cases h1 : (b.length : Int) > 262144
  · have r : spl b = (6, []) := by rw [spl, if_pos (by omega)]
    rw [r]
    simp only [go_sem, rx, ro, F_section_Split, decide_eq_true h1]
    exact wpdone (Wk.nls _ 2 3 (by simp only [go_sem, rx, ro])) [] (by first | rfl | simp only [go_sem, rx, ro]) rfl
  by_cases h2 : (b.length : Int) < 8
  · have r : spl b = (4, []) := by rw [spl, if_neg (by omega), if_pos (.inl (by omega))]
    rw [r]
    simp only [go_sem, rx, ro, F_section_Split, decide_eq_false h1, decide_eq_true h2]
    exact wpdone (Wk.nls _ 2 3 (by simp only [go_sem, rx, ro])) [] (by first | rfl | simp only [go_sem, rx, ro]) rfl
  have a1 := aslc_to b 8 (by omega)
  have a2 := aslc_from b 8 (by omega)
  rw [show (((8 : Nat) : Int)) = 8 from rfl] at a1 a2
  by_cases h3 : b.take 8 = hdr
  · have r : spl b = spS (b.drop 8) 0 [] := by rw [spl, if_neg (by omega), if_neg (by simp [h3]; omega)]
    have d3 : (b.take 8 == [0, 97, 115, 109, 1, 0, 0, 0]) = true := by rw [h3]; rfl
    rw [r]
    generalize hd : b.drop 8 = d at *
    have hdl : d.length < 100000000 := by rw [← hd]; simp; omega
    simp only [go_sem, rx, ro, F_section_Split, decide_eq_false h1, decide_eq_false h2, a1, a2, bytes_by, d3, Bool.not_true]
    refine call_nrec (s_read d (by omega)) rfl (by simp [go_sem]) 901 (by decide) (by simp only [go_sem, rx, ro]) ?_
    simp only [go_sem, rx, ro]
    refine loop_rule (fun q : Nat × Int × List Sec => ⟨[(4, .ms 900 3 0 q.2.2.length), (5, .int .i64 q.2.1), (6, .mp 901 4 0 0)], [(900, ⟨123, 3, q.2.2.map sec_, false⟩), (901, ro true d (q.1 : Nat) 0)]⟩) (fun q => q.1 ≤ d.length ∧ 0 ≤ q.2.1 ∧ q.2.2.length ≤ q.1 ∧ spS (d.drop q.1) q.2.1 q.2.2 = spS d 0 []) (fun q => d.length - q.1) (0, 0, []) ⟨Nat.zero_le _, Int.le_refl _, Nat.le_refl _, rfl⟩ ((Wk.nil _ 4 900 3 123 (by simp only [go_sem, rx, ro]) (.inl (by decide))).trans (Wk.of ?_ ?_)) ?_
    · simp only [go_sem, rx, ro, St.mknil]; try simp [go_sem]
    · simp only [go_sem, rx, ro, St.mknil]; try simp [go_sem, ro]
    rintro ⟨a, last, acc⟩ ⟨ha, hla, hac, hs⟩
    replace ha : a ≤ d.length := ha
    replace hla : 0 ≤ last := hla
    replace hac : acc.length ≤ a := hac
    replace hs : spS (d.drop a) last acc = spS d 0 [] := hs
    simp only [go_sem, rx, ro]
    have cl := s_left true d a 0 ha (by omega)
    have rl : rLeft (true && (0 : Int) == 0) d a = (d.length : Int) - a := rfl
    rw [rl] at cl
    refine call_m (cl) ⟨by decide, by decide⟩ (by first | rfl | exact slv_ids _) (by simp [go_sem, rx, ro]) rfl rfl (by rfl) ?_
    by_cases hlt : a < d.length
    · have hdp : 0 < (d.drop a).length := by simp; omega
      have cb := s_byte true d a 0 ha (by omega)
      rw [show (true && (0 : Int) == 0) = true from rfl, rByte_in hlt] at cb
      simp only [go_sem, rx, ro, decide_eq_true (show (d.length : Int) - a > 0 by omega)]
      refine call_m (cb) ⟨by decide, by decide⟩ (by first | rfl | exact slv_ids _) (by simp [go_sem, rx, ro]) rfl rfl (by rfl) ?_
      have hx := (nth (d.drop a) 0).toNat_lt
      have w1 : IntKind.i64.wrap ((nth (d.drop a) 0).toNat : Int) = ((nth (d.drop a) 0).toNat : Int) := wi (by omega) (by omega)
      by_cases h12 : (nth (d.drop a) 0).toNat > 12
      · have r2 : oneS (d.drop a) last = (4, default, []) := by rw [oneS, if_pos h12]
        rw [← hs, spS_err hdp (by rw [r2]; simp), r2]
        simp only [go_sem, rx, ro, w1, decide_eq_true (show ((nth (d.drop a) 0).toNat : Int) > 12 by omega)]
        exact wpdone (Wk.nls _ 2 3 (by simp only [go_sem, rx, ro])) [] (by first | rfl | simp only [go_sem, rx, ro]) rfl
      have cu := s_U32 true d (a + 1) 0 (by omega) (by omega)
      have hua := rU_a (ok := true) (bits := 32) (b := d) (a := a + 1) (e := 0) (by omega)
      have hul := rU_lt true d (a + 1) 0
      have ct := s_take true d (rU true 32 d (a + 1) 0).2.1 (rU true 32 d (a + 1) 0).2.2 (rU true 32 d (a + 1) 0).1 hua (by omega) ⟨by omega, by omega⟩
      rw [show (true && (0 : Int) == 0) = true from rfl] at cu
      rw [Bool.true_and, tk_shift ha] at ct
      simp only [go_sem, rx, ro, w1, decide_eq_false (show ¬ ((nth (d.drop a) 0).toNat : Int) > 12 by omega)]
      refine call_m (cu) ⟨by decide, by decide⟩ (by first | rfl | exact slv_ids _) (by simp [go_sem, rx, ro]) rfl rfl (by rfl) ?_
      simp only [go_sem, rx, ro]
      refine call_m (ct) ⟨by decide, by decide⟩ (by first | rfl | exact slv_ids _) (by simp [go_sem, rx, ro]) rfl rfl (by rfl) ?_
      simp only [go_sem, rx, ro]
      refine call_m (s_err true d ((a + (tkS (d.drop a)).2.1 : Nat) : Int) (tkS (d.drop a)).2.2) ⟨by decide, by decide⟩ (by first | rfl | exact slv_ids _) (by simp [go_sem, rx, ro]) rfl rfl (by rfl) ?_
      by_cases he : (tkS (d.drop a)).2.2 = 0
      · obtain ⟨x, g1, g2, g3, g4⟩ := tkS_ok hdp he
        simp only [go_sem, rx, ro, bne_f he, g1]
        refine call_same (s_rises ((nth (d.drop a) 0).toNat : Int) last) (by simp [go_sem, rx, ro]) ?_
        have hd3 : (d.drop a).length = d.length - a := by simp
        by_cases hr : (nth (d.drop a) 0).toNat ≠ 0 ∧ plc (nth (d.drop a) 0).toNat ≤ last
        · have r2 : oneS (d.drop a) last = (7, default, []) := by rw [oneS, if_neg h12, if_neg (by rw [he]; simp), if_pos hr]
          have d5 : decide (((nth (d.drop a) 0).toNat : Int) = 0 ∨ plc ((nth (d.drop a) 0).toNat : Int) > last) = false := decide_eq_false (by omega)
          rw [← hs, spS_err hdp (by rw [r2]; simp), r2]
          simp only [go_sem, rx, ro, d5, Bool.not_false]
          exact wpdone (Wk.nls _ 2 3 (by simp only [go_sem, rx, ro])) [] (by first | rfl | simp only [go_sem, rx, ro]) rfl
        have d5 : decide (((nth (d.drop a) 0).toNat : Int) = 0 ∨ plc ((nth (d.drop a) 0).toNat : Int) > last) = true := decide_eq_true (by omega)
        simp only [go_sem, rx, ro, d5, Bool.not_true]
        refine call_same (s_part ((nth (d.drop a) 0).toNat : Int) x (by omega)) (by simp [go_sem, rx, ro]) ?_
        by_cases hp : (parS ((nth (d.drop a) 0).toNat : Int) x).1 = 0
        · have r2 : oneS (d.drop a) last = (0, (parS ((nth (d.drop a) 0).toNat : Int) x).2, (d.drop a).drop (tkS (d.drop a)).2.1) := by
            rw [oneS, if_neg h12, if_neg (by rw [he]; simp), if_neg hr, g1, gb_some, if_neg (by rw [hp]; simp)]
          have hid := (oneS_ok (d := d.drop a) (last := last) (by rw [r2])).2.2.2.2.2
          have hst := spS_step (last := last) (acc := acc) hdp (by rw [r2])
          rw [r2] at hid hst
          replace hid : (parS ((nth (d.drop a) 0).toNat : Int) x).2.id = ((nth (d.drop a) 0).toNat : Int) := hid
          have hmx : max last (plc (parS ((nth (d.drop a) 0).toNat : Int) x).2.id) = if ((nth (d.drop a) 0).toNat : Int) = 0 then last else plc ((nth (d.drop a) 0).toNat : Int) := by
            rw [hid]
            split
            · rename_i h0; rw [h0, plc_0 (by omega)]; omega
            · omega
          have happ := fun ys => appO_map 900 123 3 acc.length sec_ acc ys rfl
          simp only [go_sem, rx, ro, bne_f hp, happ]
          refine ⟨by omega, klp_n (a + (tkS (d.drop a)).2.1, (if ((nth (d.drop a) 0).toNat : Int) = 0 then last else plc ((nth (d.drop a) 0).toNat : Int)), acc ++ [(parS ((nth (d.drop a) 0).toNat : Int) x).2]) ⟨?_, ?_, ?_, ?_⟩ (show d.length - (a + (tkS (d.drop a)).2.1) < d.length - a by omega) (Wk.of ?_ ?_)⟩
          · show a + (tkS (d.drop a)).2.1 ≤ d.length
            omega
          · show (0 : Int) ≤ (if ((nth (d.drop a) 0).toNat : Int) = 0 then last else plc ((nth (d.drop a) 0).toNat : Int))
            have := (plc_in ((nth (d.drop a) 0).toNat : Int)).1
            split <;> omega
          · show (acc ++ [(parS ((nth (d.drop a) 0).toNat : Int) x).2]).length ≤ a + (tkS (d.drop a)).2.1
            rw [List.length_append, List.length_singleton]
            omega
          · show spS (d.drop (a + (tkS (d.drop a)).2.1)) (if ((nth (d.drop a) 0).toNat : Int) = 0 then last else plc ((nth (d.drop a) 0).toNat : Int)) (acc ++ [(parS ((nth (d.drop a) 0).toNat : Int) x).2]) = _
            rw [← hmx, ← List.drop_drop, ← hst, hs]
          · simp only [go_sem, rx, ro, List.length_append, List.length_singleton]
            try simp
          · simp only [go_sem, rx, ro, List.map_append, List.map_cons, List.map_nil, he]
        · have r2 : oneS (d.drop a) last = ((parS ((nth (d.drop a) 0).toNat : Int) x).1, default, []) := by
            rw [oneS, if_neg h12, if_neg (by rw [he]; simp), if_neg hr, g1, gb_some, if_pos hp]
          rw [← hs, spS_err hdp (by rw [r2]; exact hp), r2]
          simp only [go_sem, rx, ro, bne_t hp]
          exact wpdone (Wk.nls _ 2 3 (by simp only [go_sem, rx, ro])) [] (by first | rfl | simp only [go_sem, rx, ro]) rfl
      · have r2 : oneS (d.drop a) last = ((tkS (d.drop a)).2.2, default, []) := by rw [oneS, if_neg h12, if_pos he]
        rw [← hs, spS_err hdp (by rw [r2]; exact he), r2]
        simp only [go_sem, rx, ro, bne_t he]
        exact wpdone (Wk.nls _ 2 3 (by simp only [go_sem, rx, ro])) [] (by first | rfl | simp only [go_sem, rx, ro]) rfl
    · obtain rfl : a = d.length := by omega
      have r2 : spS (d.drop d.length) last acc = (0, acc) := by rw [List.drop_length]; rfl
      rw [← hs, r2]
      simp only [go_sem, rx, ro, decide_eq_false (show ¬ (d.length : Int) - (d.length : Int) > 0 by omega)]
      refine pdone [900] ?_ rfl
      simp only [go_sem, rx, ro, Nat.le_refl, List.length_map]
      rw [List.take_of_length_le (by simp)]
  · have r : spl b = (4, []) := by rw [spl, if_neg (by omega), if_pos (.inr h3)]
    have d3 : (b.take 8 == [0, 97, 115, 109, 1, 0, 0, 0]) = false := by simpa [hdr] using h3
    rw [r]
    simp only [go_sem, rx, ro, F_section_Split, decide_eq_false h1, decide_eq_false h2, a1, bytes_by, d3, Bool.not_false]
    exact wpdone (Wk.nls _ 2 3 (by simp only [go_sem, rx, ro])) [] (by first | rfl | simp only [go_sem, rx, ro]) rfl
end Go.Proofs.YtkejmhpodhbeeaaDoor
set_option linter.unusedSimpArgs false
set_option maxRecDepth 100000
set_option maxHeartbeats 4000000
set_option linter.unusedVariables false
namespace Go.Proofs.YtkejmhpodhbeeaaDoor
open Go Go.Mw
-- @U: rx, slv_none, slv_some

theorem r_one (d : List UInt8) (last : Int) (hd : 0 < d.length) (hb : d.length < 100000000) : PCalls Tryd.prog n_ref12_one [.sl 1 (d.map by_), .int .i64 last] (.tup [.agg (sec_ (oneS d last).2.1), .sl 1 ((oneS d last).2.2.map by_), .int .i64 (oneS d last).1]) := by
  refine pfun_sound (ic := F_ref12_one.body) mixed c_ref12_one rfl rfl ?_
  have cb := q_Byte d 0 0 (Nat.zero_le _) (by omega)
  have rb : rByte ((0 : Int) == 0) d 0 0 = (nth d 0, 1, 0) := rByte_in (a := 0) hd
  rw [rb] at cb
  have cu := q_U32 d 1 0 (by omega) (by omega)
  rw [show ((0 : Int) == 0) = true from rfl] at cu
  have hua := rU_a (ok := true) (bits := 32) (b := d) (a := 1) (e := 0) (by omega)
  have hul := rU_lt true d 1 0
  have ct := q_Take d (rU true 32 d 1 0).2.1 (rU true 32 d 1 0).2.2 (rU true 32 d 1 0).1 hua (by omega) ⟨by omega, by omega⟩
  rw [show rTake ((rU true 32 d 1 0).2.2 == 0) d (rU true 32 d 1 0).2.1 (rU true 32 d 1 0).2.2 (rU true 32 d 1 0).1 = tkS d from rfl] at ct
  have hx := (nth d 0).toNat_lt
  have w1 : IntKind.i64.wrap ((nth d 0).toNat : Int) = ((nth d 0).toNat : Int) := wi (by omega) (by omega)
  simp only [go_sem, rx, F_ref12_one]
  refine call_same (q_Read d) (by simp [go_sem, rx]) ?_
  simp only [go_sem, rx]
  refine call_same (cb) (by simp [go_sem, rx]) ?_
  by_cases h12 : (nth d 0).toNat > 12
  · have r2 : oneS d last = (4, default, []) := by rw [oneS, if_pos h12]
    rw [r2]
    simp only [go_sem, rx, decide_eq_true (show ((nth d 0).toNat : Int) > 12 by omega)]
    exact wpdone (Wk.nls _ 5 1 (by simp only [go_sem, rx])) [] (by first | rfl | simp only [go_sem, rx]) rfl
  simp only [go_sem, rx, decide_eq_false (show ¬ ((nth d 0).toNat : Int) > 12 by omega)]
  refine call_same (cu) (by simp [go_sem, rx]) ?_
  simp only [go_sem, rx]
  refine call_same (ct) (by simp [go_sem, rx]) ?_
  by_cases he : (tkS d).2.2 = 0
  · obtain ⟨x, g1, g2, g3, g4⟩ := tkS_ok hd he
    have e2 := aslc_from d (tkS d).2.1 g3
    by_cases h0 : (nth d 0).toNat = 0
    · have z : ((nth d 0).toNat : Int) = 0 := by omega
      have cn := q_Name x 0 0 (Nat.zero_le _) (by omega)
      rw [show ((0 : Int) == 0) = true from rfl] at cn
      have hn := rName_a (ok := true) (b := x) (a := 0) (e := 0) (Nat.zero_le _)
      simp only [go_sem, rx, bne_f he, g1, w1, bne_f z, beq_t z]
      refine call_same (q_Read x) (by simp [go_sem, rx]) ?_
      simp only [go_sem, rx]
      refine call_same (cn) (by simp [go_sem, rx]) ?_
      by_cases hp : (rName true x 0 0).2.2 = 0
      · have r2 : oneS d last = (0, ⟨0, (rName true x 0 0).1, some (x.drop (rName true x 0 0).2.1)⟩, d.drop (tkS d).2.1) := by
          rw [oneS, if_neg h12, if_neg (by rw [he]; simp), if_neg (by omega), g1, gb_some, parS, if_pos z, if_neg (Classical.not_not.2 hp), if_neg (by simp)]
        rw [r2]
        simp only [go_sem, rx, bne_f hp, aslc_from x (rName true x 0 0).2.1 hn, e2, z]
        exact pdone [] (by simp only [go_sem, rx]) (by first | rfl | simp [go_sem, slv_ids, rx])
      · have r2 : oneS d last = ((rName true x 0 0).2.2, default, []) := by
          rw [oneS, if_neg h12, if_neg (by rw [he]; simp), if_neg (by omega), g1, gb_some, parS, if_pos z, if_pos hp, if_pos hp]
        rw [r2]
        simp only [go_sem, rx, bne_t hp]
        exact wpdone (Wk.nls _ 5 1 (by simp only [go_sem, rx])) [] (by first | rfl | simp only [go_sem, rx]) rfl
    · have z : ¬ ((nth d 0).toNat : Int) = 0 := by omega
      simp only [go_sem, rx, bne_f he, g1, w1, bne_t z, beq_f z]
      refine call_same (r_place ((nth d 0).toNat : Int)) (by simp [go_sem, rx]) ?_
      by_cases hr : plc ((nth d 0).toNat : Int) ≤ last
      · have r2 : oneS d last = (7, default, []) := by rw [oneS, if_neg h12, if_neg (by rw [he]; simp), if_pos ⟨h0, hr⟩]
        rw [r2]
        simp only [go_sem, rx, decide_eq_true hr]
        exact wpdone (Wk.nls _ 5 1 (by simp only [go_sem, rx])) [] (by first | rfl | simp only [go_sem, rx]) rfl
      · have r2 : oneS d last = (0, ⟨(nth d 0).toNat, [], some x⟩, d.drop (tkS d).2.1) := by
          rw [oneS, if_neg h12, if_neg (by rw [he]; simp), if_neg (fun h => hr h.2), g1, gb_some, parS, if_neg z, if_neg (by simp)]
        rw [r2]
        simp only [go_sem, rx, decide_eq_false hr, bne_t z, beq_f z, e2]
        exact pdone [] (by simp only [go_sem, rx]) (by first | rfl | simp [go_sem, slv_ids, rx])
  · have r2 : oneS d last = ((tkS d).2.2, default, []) := by rw [oneS, if_neg h12, if_pos he]
    rw [r2]
    simp only [go_sem, rx, bne_t he]
    exact wpdone (Wk.nls _ 5 1 (by simp only [go_sem, rx])) [] (by first | rfl | simp only [go_sem, rx]) rfl
theorem r_split (b : List UInt8) (hb : b.length < 100000000) : PCalls Tryd.prog n_ref12_Split [.sl 1 (b.map by_)] (.tup [.sl 3 ((spl b).2.map sec_), .int .i64 (spl b).1]) := by
  refine pfun_sound (ic := F_ref12_Split.body) mixed c_ref12_Split rfl rfl ?_
  by_cases h1 : (b.length : Int) > 262144
  · have r : spl b = (6, []) := by rw [spl, if_pos (by omega)]
    rw [r]
    simp only [go_sem, rx, F_ref12_Split, decide_eq_true h1]
    exact wpdone (Wk.nls _ 2 3 (by simp only [go_sem, rx])) [] (by first | rfl | simp only [go_sem, rx]) rfl
  by_cases h2 : (b.length : Int) < 8
  · have r : spl b = (4, []) := by rw [spl, if_neg (by omega), if_pos (.inl (by omega))]
    rw [r]
    simp only [go_sem, rx, F_ref12_Split, decide_eq_false h1, decide_eq_true h2]
    exact wpdone (Wk.nls _ 2 3 (by simp only [go_sem, rx])) [] (by first | rfl | simp only [go_sem, rx]) rfl
  have a1 := aslc_to b 8 (by omega)
  have a2 := aslc_from b 8 (by omega)
  rw [show (((8 : Nat) : Int)) = 8 from rfl] at a1 a2
  by_cases h3 : b.take 8 = hdr
  · have r : spl b = spS (b.drop 8) 0 [] := by rw [spl, if_neg (by omega), if_neg (by simp [h3]; omega)]
    have d3 : (b.take 8 == hdr) = true := by rw [h3]; rfl
    rw [r]
    generalize hd : b.drop 8 = d at *
    have hdl : d.length < 100000000 := by rw [← hd]; simp; omega
    simp only [go_sem, rx, F_ref12_Split, decide_eq_false h1, decide_eq_false h2, a1, a2, bytes_by]
    first | refine call_same r_head (by simp [go_sem]) ?_ | refine dcall_same r_head (by simp [go_sem]) rfl ?_
    simp only [go_sem, rx, bytes_by, d3, Bool.not_true, a2]
    refine loop_rule (fun q : List UInt8 × Int × List Sec => ⟨[(4, .ms 900 3 0 q.2.2.length), (5, .int .i64 q.2.1), (0, .sl 1 (q.1.map by_))], [(900, ⟨122, 3, q.2.2.map sec_, false⟩)]⟩) (fun q => q.1.length ≤ d.length ∧ 0 ≤ q.2.1 ∧ q.2.2.length + q.1.length ≤ d.length ∧ spS q.1 q.2.1 q.2.2 = spS d 0 []) (fun q => q.1.length) (d, 0, []) ⟨Nat.le_refl _, Int.le_refl _, by simp, rfl⟩ ((Wk.nil _ 4 900 3 122 (by simp only [go_sem, rx]) (.inl (by decide))).trans (Wk.of ?_ ?_)) ?_
    · simp only [go_sem, rx, St.mknil]; try simp [go_sem]
    · simp only [go_sem, rx, St.mknil]; try simp [go_sem]
    rintro ⟨x, last, acc⟩ ⟨ha, hla, hac, hs⟩
    replace ha : x.length ≤ d.length := ha
    replace hla : 0 ≤ last := hla
    replace hac : acc.length + x.length ≤ d.length := hac
    replace hs : spS x last acc = spS d 0 [] := hs
    by_cases hx : 0 < x.length
    · simp only [go_sem, rx, decide_eq_true (show (x.length : Int) > 0 by omega)]
      refine call_same (r_one x last hx (by omega)) (by simp [go_sem, rx]) ?_
      by_cases he : (oneS x last).1 = 0
      · have hid := (oneS_ok he).2.2.2.2.2
        have hst := spS_step (acc := acc) hx he
        have hlt := oneS_lt hx he
        have hpc := plc_in (oneS x last).2.1.id
        have hmx : (if (last : Int) < plc (oneS x last).2.1.id then plc (oneS x last).2.1.id else last) = max last (plc (oneS x last).2.1.id) := by split <;> omega
        have happ := fun ys => appO_map 900 122 3 acc.length sec_ acc ys rfl
        simp only [go_sem, rx, bne_f he]
        refine call_same (r_place (oneS x last).2.1.id) (by simp [go_sem, rx]) ?_
        simp only [go_sem, rx, happ]
        refine ⟨by omega, klp_n ((oneS x last).2.2, max last (plc (oneS x last).2.1.id), acc ++ [(oneS x last).2.1]) ⟨?_, ?_, ?_, ?_⟩ hlt (Wk.of ?_ ?_)⟩
        · show (oneS x last).2.2.length ≤ d.length
          omega
        · show (0 : Int) ≤ max last (plc (oneS x last).2.1.id)
          omega
        · show (acc ++ [(oneS x last).2.1]).length + (oneS x last).2.2.length ≤ d.length
          rw [List.length_append, List.length_singleton]
          omega
        · show spS (oneS x last).2.2 (max last (plc (oneS x last).2.1.id)) (acc ++ [(oneS x last).2.1]) = _
          rw [← hst, hs]
        · simp only [go_sem, rx, List.length_append, List.length_singleton, hmx]
          try simp
        · simp only [go_sem, rx, List.map_append, List.map_cons, List.map_nil]
      · rw [← hs, spS_err hx he]
        simp only [go_sem, rx, bne_t he]
        exact wpdone (Wk.nls _ 2 3 (by simp only [go_sem, rx])) [] (by first | rfl | simp only [go_sem, rx]) rfl
    · have r0 : spS x last acc = (0, acc) := by
        rw [show x = [] from List.eq_nil_of_length_eq_zero (by omega)]; rfl
      rw [← hs, r0]
      simp only [go_sem, rx, decide_eq_false (show ¬ (x.length : Int) > 0 by omega)]
      refine pdone [900] ?_ rfl
      simp only [go_sem, rx, Nat.le_refl, List.length_map]
      rw [List.take_of_length_le (by simp)]
  · have r : spl b = (4, []) := by rw [spl, if_neg (by omega), if_pos (.inr h3)]
    have d3 : (b.take 8 == hdr) = false := by simpa using h3
    rw [r]
    simp only [go_sem, rx, F_ref12_Split, decide_eq_false h1, decide_eq_false h2, a1, bytes_by]
    first | refine call_same r_head (by simp [go_sem]) ?_ | refine dcall_same r_head (by simp [go_sem]) rfl ?_
    simp only [go_sem, rx, bytes_by, d3, Bool.not_false]
    exact wpdone (Wk.nls _ 2 3 (by simp only [go_sem, rx])) [] (by first | rfl | simp only [go_sem, rx]) rfl
end Go.Proofs.YtkejmhpodhbeeaaDoor
set_option linter.unusedSimpArgs false
set_option maxRecDepth 100000
set_option maxHeartbeats 4000000
set_option linter.unusedVariables false
namespace Go.Proofs.YtkejmhpodhbeeaaDoor
open Go Go.Mw
-- @U: wx, slv_none, slv_some

theorem nla_slv (o : Option (List UInt8)) : nla (slv o) (.sl 1 ((gb o).map by_)) := by
  cases o
  · exact .inr (.inl ⟨rfl, 1, rfl⟩)
  · exact .inl rfl
theorem nla_w (e : Int) : nla (.agg [.nl, .int .i64 e]) (wx [] e) := .inr (.inr ⟨_, _, rfl, rfl, .inr ⟨rfl, 1, rfl⟩, .inl rfl, trivial⟩)
theorem joE_4 {s : Sec} {last : Int} (h : s.id < 0 ∨ s.id > 12 ∨ (s.id ≠ 0 ∧ s.name ≠ [])) : joE s last = 4 := by rw [joE, if_pos h]
theorem joE_7 {s : Sec} {last : Int} (h : 1 ≤ s.id ∧ s.id ≤ 12) (hn : s.name = []) (hp : plc s.id ≤ last) : joE s last = 7 := by
  rw [joE, if_neg (by rw [hn]; simp; omega), if_pos ⟨by omega, hp⟩]
theorem joE_ok {s : Sec} {last : Int} (h : 1 ≤ s.id ∧ s.id ≤ 12) (hn : s.name = []) (hp : ¬ plc s.id ≤ last) : joE s last = 0 := by
  rw [joE, if_neg (by rw [hn]; simp; omega), if_neg (fun h => hp h.2), if_neg (by omega)]
theorem joE_0 {s : Sec} {last : Int} (h : s.id = 0) : joE s last = (wN true [] 0 s.name).2 ∧ ((wN true [] 0 s.name).2 = 0 → (wN true [] 0 s.name).1 = putU s.name.length ++ s.name) := by
  rw [joE, if_neg (by rw [h]; simp), if_neg (fun h2 => h2.1 h), if_pos h]
  unfold wN
  simp only [if_true]
  split
  · exact ⟨rfl, fun h => absurd h (by decide)⟩
  split
  · exact ⟨rfl, fun h => absurd h (by decide)⟩
  · exact ⟨rfl, fun _ => by simp⟩
theorem joA_err {l : List Sec} {i : Nat} {last : Int} {w : List UInt8} (hi : i < l.length) (h : joE (nth l i) last ≠ 0) : joA (l.drop i) last w = (joE (nth l i) last, []) := by
  rw [drop_nx hi, joA, if_pos h]
theorem joA_step {l : List Sec} {i : Nat} {last : Int} {w : List UInt8} (hi : i < l.length) (h : joE (nth l i) last = 0) : joA (l.drop i) last w = joA (l.drop (i + 1)) (max last (plc (nth l i).id)) (w ++ encS (nth l i)) := by
  rw [drop_nx hi, joA, if_neg (by rw [h]; simp)]
theorem inn_len (s : Sec) : (inn s).length ≤ (gb s.bs).length + s.name.length + (putU s.name.length).length := by
  unfold inn
  split
  · simp only [List.length_append]; omega
  · omega
theorem r_join (l : List Sec) (hl : l.length ≤ 10000) (ht : tot l ≤ 10000) : PCalls Tryd.prog n_ref12_Join [.sl 3 (l.map sec_)] (.tup [.sl 1 ((joi l).2.map by_), .int .i64 (joi l).1]) := by
  refine pfun_sound (ic := F_ref12_Join.body) mixed c_ref12_Join rfl rfl ?_
  simp only [go_sem, wx, F_ref12_Join]
  refine call_same (r_head) (by simp [go_sem, wx]) ?_
  simp only [go_sem, wx]
  refine call_nl [wx [] 0, .sl 1 (hdr.map by_)] ⟨nla_w 0, .inl rfl, trivial⟩ ?_
  have ch := p_Bytes [] 0 (by simp) hdr (by decide)
  rw [show wB ((0 : Int) == 0) [] hdr = hdr from rfl] at ch
  refine call_same (ch) (by simp [go_sem, wx]) ?_
  simp only [go_sem, wx]
  refine loop_rule (fun q : Nat × Int × List UInt8 => ⟨[(4, .mp 4 2 0 0), (5, .int .i64 q.2.1), (6, .int .i64 (q.1 : Nat)), (0, .sl 3 (l.map sec_))], [(4, ⟨36, 2, [[.sl 1 (q.2.2.map by_), .int .i64 0]], true⟩)]⟩) (fun q => q.1 ≤ l.length ∧ 0 ≤ q.2.1 ∧ q.2.2.length ≤ 8 + tot (l.take q.1) + 11 * q.1 ∧ joA (l.drop q.1) q.2.1 q.2.2 = joi l) (fun q => l.length - q.1) (0, 0, hdr) ⟨Nat.zero_le _, Int.le_refl _, by simp [hdr], rfl⟩ (Wk.of ?_ ?_) ?_
  · simp only [go_sem, wx]; try simp
  · simp only [go_sem, wx]
  rintro ⟨i, last, w⟩ ⟨hi, hla, hw, hj⟩
  replace hi : i ≤ l.length := hi
  replace hla : 0 ≤ last := hla
  replace hw : w.length ≤ 8 + tot (l.take i) + 11 * i := hw
  replace hj : joA (l.drop i) last w = joi l := hj
  have htl := tot_le l i
  have e8 := wi (n := (i : Int) + 1) (by omega) (by omega)
  by_cases h1 : (i : Int) < (l.length : Int)
  · have hi' : i < l.length := by omega
    have htk := tot_take hi'
    have hts := tot_le l (i + 1)
    have ferr : ∀ e, joE (nth l i) last = e → e ≠ 0 → joi l = (e, []) := fun e h h2 => by rw [← hj, joA_err hi' (by rw [h]; exact h2), h]
    by_cases c1 : (nth l i).id < 0
    · rw [ferr 4 (joE_4 (.inl c1)) (by decide)]
      simp only [go_sem, wx, decide_eq_true h1, decide_eq_true c1]
      exact ⟨by omega, h1, wpdone (Wk.nls _ 2 1 (by simp only [go_sem, wx])) [] (by first | rfl | simp only [go_sem, wx]) rfl⟩
    by_cases c2 : (nth l i).id > 12
    · rw [ferr 4 (joE_4 (.inr (.inl c2))) (by decide)]
      simp only [go_sem, wx, decide_eq_true h1, decide_eq_false c1, decide_eq_true c2]
      exact ⟨by omega, h1, wpdone (Wk.nls _ 2 1 (by simp only [go_sem, wx])) [] (by first | rfl | simp only [go_sem, wx]) rfl⟩
    have hpc := plc_in (nth l i).id
    have hmx : (if (last : Int) < plc (nth l i).id then plc (nth l i).id else last) = max last (plc (nth l i).id) := by split <;> omega
    have hla2 : (0 : Int) ≤ max last (plc (nth l i).id) := by omega
    have w8 : IntKind.u8.wrap (nth l i).id = ((UInt8.ofNat (nth l i).id.toNat).toNat : Int) := by rw [ofNat_toNat (by omega), w_u8]; omega
    have hil := inn_len (nth l i)
    have hpn := putU_32 (n := (nth l i).name.length) (by omega)
    have hpi := putU_32 (n := (inn (nth l i)).length) (by omega)
    have hel : (encS (nth l i)).length = 1 + (putU (inn (nth l i)).length).length + (inn (nth l i)).length := by simp [encS]; omega
    have hw2 : (w ++ encS (nth l i)).length ≤ 8 + tot (l.take (i + 1)) + 11 * (i + 1) := by rw [List.length_append]; omega
    have cp := p_Part (w ++ [UInt8.ofNat (nth l i).id.toNat]) 0 (by simp; omega) (inn (nth l i)) 0 (by omega)
    have rp : wP ((0 : Int) == 0) (w ++ [UInt8.ofNat (nth l i).id.toNat]) 0 true (inn (nth l i)) 0 = (w ++ encS (nth l i), 0) := by simp [wP, wB, encS]
    rw [rp] at cp
    have cy := p_Byte w 0 (by omega) (UInt8.ofNat (nth l i).id.toNat)
    rw [show wB ((0 : Int) == 0) w [UInt8.ofNat (nth l i).id.toNat] = w ++ [UInt8.ofNat (nth l i).id.toNat] from rfl] at cy
    by_cases c0 : (nth l i).id = 0
    · obtain ⟨j1, j2⟩ := joE_0 (last := last) c0
      have cn := p_Name [] 0 (by simp) (nth l i).name (by omega)
      rw [show ((0 : Int) == 0) = true from rfl] at cn
      simp only [go_sem, wx, decide_eq_true h1, decide_eq_false c1, decide_eq_false c2, bne_f c0, beq_t c0]
      refine ⟨by omega, h1, ?_⟩
      refine call_same (r_place (nth l i).id) (by simp [go_sem, wx]) ?_
      simp only [go_sem, wx, hmx, beq_t c0]
      refine call_nl [wx [] 0, .str (nth l i).name] ⟨nla_w 0, .inl rfl, trivial⟩ ?_
      refine call_same (cn) (by simp [go_sem, wx]) ?_
      by_cases he : (wN true [] 0 (nth l i).name).2 = 0
      · have hok : joE (nth l i) last = 0 := by rw [j1]; exact he
        have hin : putU (nth l i).name.length ++ (nth l i).name ++ gb (nth l i).bs = inn (nth l i) := by rw [inn, if_pos c0]
        have cB := p_Bytes (putU (nth l i).name.length ++ (nth l i).name) 0 (by simp; omega) (gb (nth l i).bs) (by omega)
        rw [show wB ((0 : Int) == 0) (putU (nth l i).name.length ++ (nth l i).name) (gb (nth l i).bs) = inn (nth l i) from hin] at cB
        simp only [go_sem, wx, bne_f he, he, j2 he, w8]
        refine call_nl [wx (putU (nth l i).name.length ++ (nth l i).name) 0, .sl 1 ((gb (nth l i).bs).map by_)] ⟨.inl rfl, nla_slv _, trivial⟩ ?_
        refine call_same (cB) (by simp [go_sem, wx]) ?_
        simp only [go_sem, wx, w8]
        refine call_same (cy) (by simp [go_sem, wx]) ?_
        simp only [go_sem, wx]
        first | refine call_same cp (by simp [go_sem, wx]) ?_ | refine dcall_same cp (by simp [go_sem, wx]) rfl ?_
        simp only [go_sem, wx]
        refine klp_n (i + 1, max last (plc (nth l i).id), w ++ encS (nth l i)) ⟨hi', hla2, hw2, by rw [← joA_step hi' hok, hj]⟩ (show l.length - (i + 1) < l.length - i by omega) (Wk.of ?_ ?_)
        · simp only [go_sem, wx, e8]
          try simp
        · simp only [go_sem, wx]
      · rw [ferr _ j1 he]
        simp only [go_sem, wx, bne_t he]
        exact wpdone (Wk.nls _ 2 1 (by simp only [go_sem, wx])) [] (by first | rfl | simp only [go_sem, wx]) rfl
    · by_cases cn : (nth l i).name = []
      · have n1 : ((nth l i).name == []) = true := by rw [cn]; rfl
        simp only [go_sem, wx, decide_eq_true h1, decide_eq_false c1, decide_eq_false c2, bne_t c0, n1]
        refine ⟨by omega, h1, ?_⟩
        refine call_same (r_place (nth l i).id) (by simp [go_sem, wx]) ?_
        by_cases hp : plc (nth l i).id ≤ last
        · rw [ferr 7 (joE_7 (by omega) cn hp) (by decide)]
          simp only [go_sem, wx, decide_eq_true hp]
          exact wpdone (Wk.nls _ 2 1 (by simp only [go_sem, wx])) [] (by first | rfl | simp only [go_sem, wx]) rfl
        · have hok := joE_ok (last := last) (show 1 ≤ (nth l i).id ∧ (nth l i).id ≤ 12 by omega) cn hp
          have hin : ([] : List UInt8) ++ gb (nth l i).bs = inn (nth l i) := by rw [inn, if_neg c0]; rfl
          have cB := p_Bytes [] 0 (by simp) (gb (nth l i).bs) (by omega)
          rw [show wB ((0 : Int) == 0) [] (gb (nth l i).bs) = inn (nth l i) from hin] at cB
          simp only [go_sem, wx, decide_eq_false hp]
          refine call_same (r_place (nth l i).id) (by simp [go_sem, wx]) ?_
          simp only [go_sem, wx, hmx, beq_f c0, w8]
          refine call_nl [wx [] 0, .sl 1 ((gb (nth l i).bs).map by_)] ⟨nla_w 0, nla_slv _, trivial⟩ ?_
          refine call_same (cB) (by simp [go_sem, wx]) ?_
          simp only [go_sem, wx, w8]
          refine call_same (cy) (by simp [go_sem, wx]) ?_
          simp only [go_sem, wx]
          first | refine call_same cp (by simp [go_sem, wx]) ?_ | refine dcall_same cp (by simp [go_sem, wx]) rfl ?_
          simp only [go_sem, wx]
          refine klp_n (i + 1, max last (plc (nth l i).id), w ++ encS (nth l i)) ⟨hi', hla2, hw2, by rw [← joA_step hi' hok, hj]⟩ (show l.length - (i + 1) < l.length - i by omega) (Wk.of ?_ ?_)
          · simp only [go_sem, wx, e8]
            try simp
          · simp only [go_sem, wx]
      · rw [ferr 4 (joE_4 (.inr (.inr ⟨c0, cn⟩))) (by decide)]
        have n1 : ((nth l i).name == []) = false := by simpa using cn
        simp only [go_sem, wx, decide_eq_true h1, decide_eq_false c1, decide_eq_false c2, bne_t c0, n1]
        exact ⟨by omega, h1, wpdone (Wk.nls _ 2 1 (by simp only [go_sem, wx])) [] (by first | rfl | simp only [go_sem, wx]) rfl⟩
  · simp only [go_sem, wx, decide_eq_false h1, decide_eq_false (show ¬ (w.length : Int) > 262144 by omega)]
    have r0 : joi l = (0, w) := by rw [← hj, List.drop_of_length_le (by omega)]; rfl
    rw [r0]
    exact pdone [] (by simp only [go_sem, wx]) (by first | rfl | simp [go_sem, slv_ids, wx])
end Go.Proofs.YtkejmhpodhbeeaaDoor
set_option linter.unusedSimpArgs false
set_option maxRecDepth 100000
set_option maxHeartbeats 4000000
set_option linter.unusedVariables false
namespace Go.Proofs.YtkejmhpodhbeeaaDoor
open Go Go.Mw
-- @U: wo, wa, slv_none, slv_some

theorem s_join (l : List Sec) (hl : l.length ≤ 10000) (ht : tot l ≤ 10000) : PCalls Tryd.prog n_section_Join [.sl 3 (l.map sec_)] (.tup [.sl 1 ((joi l).2.map by_), .int .i64 (joi l).1]) := by
  refine pfun_sound (ic := F_section_Join.body) mixed c_section_Join rfl rfl ?_
  simp only [go_sem, wo, wa, F_section_Join]
  refine call_wnew 904 905 (by decide) (by decide) (by decide) (by simp only [go_sem, wo, wa]) (by simp only [go_sem, wo, wa]) ?_
  have ch := s_wbytes true [] hdr 0 ⟨by simp, by decide⟩
  rw [show wB (true && (0 : Int) == 0) [] hdr = hdr from rfl] at ch
  simp only [go_sem, wo, wa]
  refine call_w [15] (k := 904) (j := 905) (ch) (by decide) (by decide) (by decide) (by decide) (by first | rfl | simp [go_sem, slv_ids, wo, wa]) (by simp [go_sem, wo, wa]) ?_ (by rfl) (by rfl) ?_
  · simp only [go_sem, wo, wa]; rfl
  simp only [go_sem, wo, wa]
  refine loop_rule (fun q : Nat × Int × List UInt8 => ⟨[(4, .mp 904 3 0 0), (5, .int .i64 q.2.1), (20, .int .i64 (q.1 : Nat)), (19, .int .i64 l.length), (18, .sl 3 (l.map sec_))], [(904, wo 905 true q.2.2 0), (905, wa q.2.2)]⟩) (fun q => q.1 ≤ l.length ∧ 0 ≤ q.2.1 ∧ q.2.2.length ≤ 8 + tot (l.take q.1) + 11 * q.1 ∧ joA (l.drop q.1) q.2.1 q.2.2 = joi l) (fun q => l.length - q.1) (0, 0, hdr) ⟨Nat.zero_le _, Int.le_refl _, by simp [hdr], rfl⟩ (Wk.of ?_ ?_) ?_
  · simp only [go_sem, wo, wa]; try simp
  · simp only [go_sem, wo, wa]; try simp [go_sem, wo, wa]
  rintro ⟨i, last, w⟩ ⟨hi, hla, hw, hj⟩
  replace hi : i ≤ l.length := hi
  replace hla : 0 ≤ last := hla
  replace hw : w.length ≤ 8 + tot (l.take i) + 11 * i := hw
  replace hj : joA (l.drop i) last w = joi l := hj
  have htl := tot_le l i
  have e8 := wi (n := (i : Int) + 1) (by omega) (by omega)
  by_cases h1 : (i : Int) < (l.length : Int)
  · have hi' : i < l.length := by omega
    have htk := tot_take hi'
    have hts := tot_le l (i + 1)
    have ferr : ∀ e, joE (nth l i) last = e → e ≠ 0 → joi l = (e, []) := fun e h h2 => by rw [← hj, joA_err hi' (by rw [h]; exact h2), h]
    by_cases c1 : (nth l i).id < 0
    · rw [ferr 4 (joE_4 (.inl c1)) (by decide)]
      simp only [go_sem, wo, wa, decide_eq_true h1, decide_eq_true c1]
      exact ⟨by omega, h1, wpdone (Wk.nls _ 2 1 (by simp only [go_sem, wo, wa])) [] (by first | rfl | simp only [go_sem, wo, wa]) rfl⟩
    by_cases c2 : (nth l i).id > 12
    · rw [ferr 4 (joE_4 (.inr (.inl c2))) (by decide)]
      simp only [go_sem, wo, wa, decide_eq_true h1, decide_eq_false c1, decide_eq_true c2]
      exact ⟨by omega, h1, wpdone (Wk.nls _ 2 1 (by simp only [go_sem, wo, wa])) [] (by first | rfl | simp only [go_sem, wo, wa]) rfl⟩
    have hpc := plc_in (nth l i).id
    have hla2 : (0 : Int) ≤ max last (plc (nth l i).id) := by omega
    have w8 : IntKind.u8.wrap (nth l i).id = ((UInt8.ofNat (nth l i).id.toNat).toNat : Int) := by rw [ofNat_toNat (by omega), w_u8]; omega
    have hil := inn_len (nth l i)
    have hpn := putU_32 (n := (nth l i).name.length) (by omega)
    have hpi := putU_32 (n := (inn (nth l i)).length) (by omega)
    have hel : (encS (nth l i)).length = 1 + (putU (inn (nth l i)).length).length + (inn (nth l i)).length := by simp [encS]; omega
    have hw2 : (w ++ encS (nth l i)).length ≤ 8 + tot (l.take (i + 1)) + 11 * (i + 1) := by rw [List.length_append]; omega
    have cy := s_wbyte true w (UInt8.ofNat (nth l i).id.toNat) 0 (by omega)
    rw [show wB (true && (0 : Int) == 0) w [UInt8.ofNat (nth l i).id.toNat] = w ++ [UInt8.ofNat (nth l i).id.toNat] from rfl] at cy
    have cp := s_wpart true (w ++ [UInt8.ofNat (nth l i).id.toNat]) 0 (by simp; omega) true (inn (nth l i)) 0 (by omega)
    have rp : wP (true && (0 : Int) == 0) (w ++ [UInt8.ofNat (nth l i).id.toNat]) 0 true (inn (nth l i)) 0 = (w ++ encS (nth l i), 0) := by simp [wP, wB, encS]
    rw [rp] at cp
    by_cases c0 : (nth l i).id = 0
    · obtain ⟨j1, j2⟩ := joE_0 (last := last) c0
      have hmx : max last (plc (nth l i).id) = last := by rw [c0, plc_0 (by omega)]; omega
      have d5 : decide ((nth l i).id = 0 ∨ plc (nth l i).id > last) = true := decide_eq_true (.inl c0)
      simp only [go_sem, wo, wa, decide_eq_true h1, decide_eq_false c1, decide_eq_false c2, bne_f c0, beq_t c0]
      refine ⟨by omega, h1, ?_⟩
      refine call_same (s_rises (nth l i).id last) (by simp [go_sem, wo, wa]) ?_
      simp only [go_sem, wo, wa, d5, Bool.not_true, if_pos c0]
      refine call_wnew 906 907 (by decide) (by decide) (by decide) (by simp only [go_sem, wo, wa]) (by simp only [go_sem, wo, wa]) ?_
      simp only [go_sem, wo, wa, beq_t c0]
      have cn := s_wname true [] (nth l i).name 0 ⟨by simp, by omega⟩
      rw [show (true && (0 : Int) == 0) = true from rfl] at cn
      refine call_w [] (k := 906) (j := 907) (cn) (by decide) (by decide) (by decide) (by decide) (by first | rfl | simp [go_sem, slv_ids, wo, wa]) (by simp [go_sem, wo, wa]) (by rfl) (by rfl) (by rfl) ?_
      by_cases he : (wN true [] 0 (nth l i).name).2 = 0
      · have hok : joE (nth l i) last = 0 := by rw [j1]; exact he
        have hin : putU (nth l i).name.length ++ (nth l i).name ++ gb (nth l i).bs = inn (nth l i) := by rw [inn, if_pos c0]
        have cB := s_wbytes true (putU (nth l i).name.length ++ (nth l i).name) (gb (nth l i).bs) 0 ⟨by simp; omega, by omega⟩
        rw [show wB (true && (0 : Int) == 0) (putU (nth l i).name.length ++ (nth l i).name) (gb (nth l i).bs) = inn (nth l i) from hin] at cB
        simp only [go_sem, wo, wa, he, j2 he]
        refine call_nl [.mp 906 3 0 0, .sl 1 ((gb (nth l i).bs).map by_)] ⟨.inl rfl, nla_slv _, trivial⟩ ?_
        refine call_w [] (k := 906) (j := 907) (cB) (by decide) (by decide) (by decide) (by decide) (by first | rfl | simp [go_sem, slv_ids, wo, wa]) (by simp [go_sem, wo, wa]) (by rfl) (by rfl) (by rfl) ?_
        simp only [go_sem, wo, wa, w8]
        refine call_w [] (k := 904) (j := 905) (cy) (by decide) (by decide) (by decide) (by decide) (by first | rfl | simp [go_sem, slv_ids, wo, wa]) (by simp [go_sem, wo, wa]) (by rfl) (by rfl) (by rfl) ?_
        simp only [go_sem, wo, wa]
        refine call_obj (σ2 := [(904, wo 905 true (w ++ [UInt8.ofNat (nth l i).id.toNat]) 0), (905, wa (w ++ [UInt8.ofNat (nth l i).id.toNat])), (906, wo 907 true (inn (nth l i)) 0), (907, wa (inn (nth l i)))]) (r3 := .tup []) (σ3 := [(904, wo 905 true (w ++ encS (nth l i)) 0), (905, wa (w ++ encS (nth l i))), (906, wo 907 true (inn (nth l i)) 0), (907, wa (inn (nth l i)))]) cp [(1000, 904), (2000, 905), (1001, 906), (2001, 907)] [905, 907] rfl rfl rfl rfl ?_ ?_ ?_ ?_
        · simp only [go_sem, wo, wa]; simp
        · simp only [go_sem, wo, wa]; simp [sb, bw, swp, hget]
        · simp only [go_sem, wo, wa]; simp [hget]
        have cd := s_wdone true (w ++ encS (nth l i)) 0 (by omega)
        rw [show wD true (w ++ encS (nth l i)) 0 = (some (w ++ encS (nth l i)), 0) from rfl] at cd
        simp only [go_sem, wo, wa]
        refine call_w [] (k := 904) (j := 905) (cd) (by decide) (by decide) (by decide) (by decide) (by first | rfl | simp [go_sem, slv_ids, wo, wa]) (by simp [go_sem, wo, wa]) (by rfl) (by rfl) (by rfl) ?_
        simp only [go_sem, wo, wa]
        refine klp_n (i + 1, max last (plc (nth l i).id), w ++ encS (nth l i)) ⟨hi', hla2, hw2, by rw [← joA_step hi' hok, hj]⟩ (show l.length - (i + 1) < l.length - i by omega) (Wk.of ?_ ?_)
        · simp only [go_sem, wo, wa, e8, hmx]
          try simp
        · simp only [go_sem, wo, wa]
          try simp [go_sem, wo, wa]
      · have hf : (true && (wN true [] 0 (nth l i).name).2 == 0) = false := by rw [beq_f he]; rfl
        have hnl : (wN true [] 0 (nth l i).name).1.length < 1000 := by
          have := hpn
          unfold wN
          simp only [if_true]
          repeat' split
          all_goals simp only [List.length_append, List.length_nil]
          all_goals omega
        have cB := s_wbytes true (wN true [] 0 (nth l i).name).1 (gb (nth l i).bs) (wN true [] 0 (nth l i).name).2 ⟨by omega, by omega⟩
        rw [show wB (true && (wN true [] 0 (nth l i).name).2 == 0) (wN true [] 0 (nth l i).name).1 (gb (nth l i).bs) = (wN true [] 0 (nth l i).name).1 by rw [hf]; rfl] at cB
        have cq := s_wpart true (w ++ [UInt8.ofNat (nth l i).id.toNat]) 0 (by simp; omega) true (wN true [] 0 (nth l i).name).1 (wN true [] 0 (nth l i).name).2 (by omega)
        have rq : wP (true && (0 : Int) == 0) (w ++ [UInt8.ofNat (nth l i).id.toNat]) 0 true (wN true [] 0 (nth l i).name).1 (wN true [] 0 (nth l i).name).2 = (w ++ [UInt8.ofNat (nth l i).id.toNat], (wN true [] 0 (nth l i).name).2) := by simp [wP, he]
        rw [rq] at cq
        have cd := s_wdone true (w ++ [UInt8.ofNat (nth l i).id.toNat]) (wN true [] 0 (nth l i).name).2 (by simp; omega)
        rw [show wD true (w ++ [UInt8.ofNat (nth l i).id.toNat]) (wN true [] 0 (nth l i).name).2 = (none, (wN true [] 0 (nth l i).name).2) by simp [wD, he]] at cd
        rw [ferr _ j1 he]
        simp only [go_sem, wo, wa]
        refine call_nl [.mp 906 3 0 0, .sl 1 ((gb (nth l i).bs).map by_)] ⟨.inl rfl, nla_slv _, trivial⟩ ?_
        refine call_w [] (k := 906) (j := 907) (cB) (by decide) (by decide) (by decide) (by decide) (by first | rfl | simp [go_sem, slv_ids, wo, wa]) (by simp [go_sem, wo, wa]) (by rfl) (by rfl) (by rfl) ?_
        simp only [go_sem, wo, wa, w8]
        refine call_w [] (k := 904) (j := 905) (cy) (by decide) (by decide) (by decide) (by decide) (by first | rfl | simp [go_sem, slv_ids, wo, wa]) (by simp [go_sem, wo, wa]) (by rfl) (by rfl) (by rfl) ?_
        simp only [go_sem, wo, wa]
        refine call_obj (σ2 := [(904, wo 905 true (w ++ [UInt8.ofNat (nth l i).id.toNat]) 0), (905, wa (w ++ [UInt8.ofNat (nth l i).id.toNat])), (906, wo 907 true (wN true [] 0 (nth l i).name).1 (wN true [] 0 (nth l i).name).2), (907, wa (wN true [] 0 (nth l i).name).1)]) (r3 := .tup []) (σ3 := [(904, wo 905 true (w ++ [UInt8.ofNat (nth l i).id.toNat]) (wN true [] 0 (nth l i).name).2), (905, wa (w ++ [UInt8.ofNat (nth l i).id.toNat])), (906, wo 907 true (wN true [] 0 (nth l i).name).1 (wN true [] 0 (nth l i).name).2), (907, wa (wN true [] 0 (nth l i).name).1)]) cq [(1000, 904), (2000, 905), (1001, 906), (2001, 907)] [905, 907] rfl rfl rfl rfl ?_ ?_ ?_ ?_
        · simp only [go_sem, wo, wa]; simp
        · simp only [go_sem, wo, wa]; simp [sb, bw, swp, hget]
        · simp only [go_sem, wo, wa]; simp [hget]
        simp only [go_sem, wo, wa]
        refine call_w [] (k := 904) (j := 905) (cd) (by decide) (by decide) (by decide) (by decide) (by first | rfl | simp [go_sem, slv_ids, wo, wa]) (by simp [go_sem, wo, wa]) (by rfl) (by rfl) (by rfl) ?_
        simp only [go_sem, wo, wa, bne_t he]
        exact wpdone (Wk.nls _ 2 1 (by simp only [go_sem, wo, wa])) [] (by first | rfl | simp only [go_sem, wo, wa]) rfl
    · by_cases cn : (nth l i).name = []
      · have n1 : ((nth l i).name == []) = true := by rw [cn]; rfl
        simp only [go_sem, wo, wa, decide_eq_true h1, decide_eq_false c1, decide_eq_false c2, bne_t c0, n1]
        refine ⟨by omega, h1, ?_⟩
        refine call_same (s_rises (nth l i).id last) (by simp [go_sem, wo, wa]) ?_
        by_cases hp : plc (nth l i).id ≤ last
        · rw [ferr 7 (joE_7 (by omega) cn hp) (by decide)]
          simp only [go_sem, wo, wa, decide_eq_false (show ¬ ((nth l i).id = 0 ∨ plc (nth l i).id > last) by omega), Bool.not_false]
          exact wpdone (Wk.nls _ 2 1 (by simp only [go_sem, wo, wa])) [] (by first | rfl | simp only [go_sem, wo, wa]) rfl
        · have hok := joE_ok (last := last) (show 1 ≤ (nth l i).id ∧ (nth l i).id ≤ 12 by omega) cn hp
          have hmx : max last (plc (nth l i).id) = plc (nth l i).id := by omega
          have hin : ([] : List UInt8) ++ gb (nth l i).bs = inn (nth l i) := by rw [inn, if_neg c0]; rfl
          simp only [go_sem, wo, wa, decide_eq_true (show ((nth l i).id = 0 ∨ plc (nth l i).id > last) by omega), Bool.not_true, if_neg c0]
          refine call_wnew 906 907 (by decide) (by decide) (by decide) (by simp only [go_sem, wo, wa]) (by simp only [go_sem, wo, wa]) ?_
          simp only [go_sem, wo, wa, beq_f c0]
          have cB := s_wbytes true [] (gb (nth l i).bs) 0 ⟨by simp, by omega⟩
          rw [show wB (true && (0 : Int) == 0) [] (gb (nth l i).bs) = inn (nth l i) from hin] at cB
          refine call_nl [.mp 906 3 0 0, .sl 1 ((gb (nth l i).bs).map by_)] ⟨.inl rfl, nla_slv _, trivial⟩ ?_
          refine call_w [] (k := 906) (j := 907) (cB) (by decide) (by decide) (by decide) (by decide) (by first | rfl | simp [go_sem, slv_ids, wo, wa]) (by simp [go_sem, wo, wa]) (by rfl) (by rfl) (by rfl) ?_
          simp only [go_sem, wo, wa, w8]
          refine call_w [] (k := 904) (j := 905) (cy) (by decide) (by decide) (by decide) (by decide) (by first | rfl | simp [go_sem, slv_ids, wo, wa]) (by simp [go_sem, wo, wa]) (by rfl) (by rfl) (by rfl) ?_
          simp only [go_sem, wo, wa]
          refine call_obj (σ2 := [(904, wo 905 true (w ++ [UInt8.ofNat (nth l i).id.toNat]) 0), (905, wa (w ++ [UInt8.ofNat (nth l i).id.toNat])), (906, wo 907 true (inn (nth l i)) 0), (907, wa (inn (nth l i)))]) (r3 := .tup []) (σ3 := [(904, wo 905 true (w ++ encS (nth l i)) 0), (905, wa (w ++ encS (nth l i))), (906, wo 907 true (inn (nth l i)) 0), (907, wa (inn (nth l i)))]) cp [(1000, 904), (2000, 905), (1001, 906), (2001, 907)] [905, 907] rfl rfl rfl rfl ?_ ?_ ?_ ?_
          · simp only [go_sem, wo, wa]; simp
          · simp only [go_sem, wo, wa]; simp [sb, bw, swp, hget]
          · simp only [go_sem, wo, wa]; simp [hget]
          have cd := s_wdone true (w ++ encS (nth l i)) 0 (by omega)
          rw [show wD true (w ++ encS (nth l i)) 0 = (some (w ++ encS (nth l i)), 0) from rfl] at cd
          simp only [go_sem, wo, wa]
          refine call_w [] (k := 904) (j := 905) (cd) (by decide) (by decide) (by decide) (by decide) (by first | rfl | simp [go_sem, slv_ids, wo, wa]) (by simp [go_sem, wo, wa]) (by rfl) (by rfl) (by rfl) ?_
          simp only [go_sem, wo, wa]
          refine klp_n (i + 1, max last (plc (nth l i).id), w ++ encS (nth l i)) ⟨hi', hla2, hw2, by rw [← joA_step hi' hok, hj]⟩ (show l.length - (i + 1) < l.length - i by omega) (Wk.of ?_ ?_)
          · simp only [go_sem, wo, wa, e8, hmx]
            try simp
          · simp only [go_sem, wo, wa]
            try simp [go_sem, wo, wa]
      · rw [ferr 4 (joE_4 (.inr (.inr ⟨c0, cn⟩))) (by decide)]
        have n1 : ((nth l i).name == []) = false := by simpa using cn
        simp only [go_sem, wo, wa, decide_eq_true h1, decide_eq_false c1, decide_eq_false c2, bne_t c0, n1]
        exact ⟨by omega, h1, wpdone (Wk.nls _ 2 1 (by simp only [go_sem, wo, wa])) [] (by first | rfl | simp only [go_sem, wo, wa]) rfl⟩
  · have r0 : joi l = (0, w) := by rw [← hj, List.drop_of_length_le (by omega)]; rfl
    have cl := s_wlen true w 0
    rw [show (if (true && (0 : Int) == 0) = true then (w.length : Int) else 0) = (w.length : Int) from rfl] at cl
    have cd := s_wdone true w 0 (by omega)
    rw [show wD true w 0 = (some w, 0) from rfl] at cd
    rw [r0]
    simp only [go_sem, wo, wa, decide_eq_false h1]
    refine call_w [] (k := 904) (j := 905) (cl) (by decide) (by decide) (by decide) (by decide) (by first | rfl | simp [go_sem, slv_ids, wo, wa]) (by simp [go_sem, wo, wa]) (by rfl) (by rfl) (by rfl) ?_
    simp only [go_sem, wo, wa, decide_eq_false (show ¬ (w.length : Int) > 262144 by omega)]
    refine call_w [] (k := 904) (j := 905) (cd) (by decide) (by decide) (by decide) (by decide) (by first | rfl | simp [go_sem, slv_ids, wo, wa]) (by simp [go_sem, wo, wa]) (by rfl) (by rfl) (by rfl) ?_
    simp only [go_sem, wo, wa]
    exact pdone [] (by simp only [go_sem, wo, wa]) (by first | rfl | simp [go_sem, slv_ids, wo, wa])
end Go.Proofs.YtkejmhpodhbeeaaDoor
set_option linter.unusedSimpArgs false
set_option maxRecDepth 100000
set_option linter.unusedVariables false
namespace Go.Proofs.YtkejmhpodhbeeaaDoor
open Go Go.Mw

theorem drop_ap {b x r : List UInt8} {a : Nat} (h : b.drop a = x ++ r) : (b.drop a).take x.length = x ∧ b.drop (a + x.length) = r ∧ (a ≤ b.length → b.length = a + x.length + r.length) := by
  refine ⟨by rw [h, List.take_left], by rw [← List.drop_drop, h, List.drop_left], fun ha => ?_⟩
  have := congrArg List.length h
  simp at this
  omega
theorem rTake_o {b x r : List UInt8} {a : Nat} (ha : a ≤ b.length) (h : b.drop a = x ++ r) : rTake true b a 0 x.length = (some x, a + x.length, 0) := by
  obtain ⟨h1, h2, h3⟩ := drop_ap h
  have h3 := h3 ha
  have n1 : ¬ ((x.length : Int) < 0) := by omega
  have n2 : ¬ ((x.length : Int) > (b.length : Int) - a) := by omega
  simp only [rTake, if_true, if_neg n1, if_neg n2, Int.toNat_natCast, h1]
theorem rU_o {b r : List UInt8} {a n : Nat} (hn : n < 4294967296) (h : b.drop a = putU n ++ r) : rU true 32 b a 0 = (n, a + (putU n).length, 0) := by
  have := decU_putU (n := n) (bits := 32) r (by decide) hn
  simp [rU, h, this]
theorem rCount_o {b r : List UInt8} {a n : Nat} {most : Int} (hn : n < 4294967296) (hm : (n : Int) ≤ most) (h : b.drop a = putU n ++ r) : rCount true b a 0 most = (n, a + (putU n).length, 0) := by
  have h1 := rU_o hn h
  simp only [rCount, if_true, h1]
  rw [if_neg (by omega)]
def nrm (s : Sec) : Sec := ⟨s.id, s.name, some (gb s.bs)⟩
def encs12 : List Sec → List UInt8
  | [] => []
  | s :: r => encS s ++ encs12 r
/-- What a section that can be joined is. -/
theorem joE_cases {s : Sec} {last : Int} (h : joE s last = 0) : 0 ≤ s.id ∧ s.id ≤ 12 ∧ (s.id ≠ 0 → s.name = [] ∧ last < plc s.id) ∧ (s.id = 0 → uv s.name = true ∧ s.name.length ≤ 64) := by
  unfold joE at h
  split at h
  · exact absurd h (by decide)
  rename_i h1
  split at h
  · exact absurd h (by decide)
  rename_i h2
  have h3 : 0 ≤ s.id ∧ s.id ≤ 12 := by omega
  refine ⟨h3.1, h3.2, fun h4 => ⟨?_, ?_⟩, fun h4 => ?_⟩
  · by_cases h5 : s.name = []
    · exact h5
    · exact absurd (.inr (.inr ⟨h4, h5⟩)) h1
  · have : ¬ plc s.id ≤ last := fun h5 => h2 ⟨h4, h5⟩
    omega
  · rw [if_pos h4] at h
    split at h
    · exact absurd h (by decide)
    rename_i h5
    split at h
    · exact absurd h (by decide)
    · exact ⟨by simpa using h5, by omega⟩
theorem name_enc {n r : List UInt8} (hu : uv n = true) (hl : n.length ≤ 64) : rName true (putU n.length ++ n ++ r) 0 0 = (n, (putU n.length).length + n.length, 0) := by
  have h1 : (putU n.length ++ n ++ r).drop 0 = putU n.length ++ (n ++ r) := by simp
  have hc := rCount_o (most := 64) (by omega) (by omega) h1
  rw [Nat.zero_add] at hc
  have h2 : (putU n.length ++ n ++ r).drop (putU n.length).length = n ++ r := by rw [List.append_assoc, List.drop_left]
  have ht := rTake_o (by simp <;> omega) h2
  unfold rName
  rw [if_pos rfl, hc]
  simp only [show ((0 : Int) == 0) = true from rfl]
  rw [ht, nameT, if_neg (by simp)]
  simp [hu]
theorem one_enc {s : Sec} {last : Int} {r : List UInt8} (h : joE s last = 0) (hb : (inn s).length < 1000000) : oneS (encS s ++ r) last = (0, nrm s, r) := by
  obtain ⟨h0, h12, hn, hz⟩ := joE_cases h
  have e0 : nth (encS s ++ r) 0 = UInt8.ofNat s.id.toNat := rfl
  have eN : (nth (encS s ++ r) 0).toNat = s.id.toNat := by rw [e0, ofNat_toNat (by omega)]
  have eI : ((nth (encS s ++ r) 0).toNat : Int) = s.id := by rw [eN]; omega
  have d1 : (encS s ++ r).drop 1 = putU (inn s).length ++ (inn s ++ r) := by simp [encS]
  have hu := rU_o (by omega) d1
  have d2 : (encS s ++ r).drop (1 + (putU (inn s).length).length) = inn s ++ r := by rw [← List.drop_drop, d1, List.drop_left]
  have ht := rTake_o (by simp [encS] <;> omega) d2
  have hk : tkS (encS s ++ r) = (some (inn s), 1 + (putU (inn s).length).length + (inn s).length, 0) := by
    unfold tkS
    rw [hu]
    exact ht
  have d3 : (encS s ++ r).drop (1 + (putU (inn s).length).length + (inn s).length) = r := by rw [← List.drop_drop, d2, List.drop_left]
  have hp : parS s.id (inn s) = (0, nrm s) := by
    unfold parS
    by_cases c : s.id = 0
    · obtain ⟨u1, u2⟩ := hz c
      have hi : inn s = putU s.name.length ++ s.name ++ gb s.bs := by rw [inn, if_pos c]
      rw [if_pos c, hi, name_enc u1 u2, if_neg (by simp)]
      simp only [nrm, c]
      rw [show (putU s.name.length).length + s.name.length = (putU s.name.length ++ s.name).length by simp, List.drop_left]
    · have hi : inn s = gb s.bs := by rw [inn, if_neg c]
      rw [if_neg c, hi]
      simp only [nrm, (hn c).1]
  unfold oneS
  rw [if_neg (by omega), hk, if_neg (by simp), if_neg (fun hh => by have := (hn (by omega)).2; rw [eI] at hh; omega), eI, gb_some, hp, if_neg (by simp)]
  rw [d3]
theorem split_encs : ∀ (l : List Sec) (last : Int) (w : List UInt8) (acc : List Sec), 0 ≤ last → (∀ s ∈ l, (inn s).length < 1000000) → (joA l last w).1 = 0 →
    spS (encs12 l) last acc = (0, acc ++ l.map nrm) ∧ (joA l last w).2 = w ++ encs12 l
  | [], last, w, acc, _, _, _ => by simp [encs12, spS_nil, joA]
  | s :: r, last, w, acc, hl, hb, h => by
    rw [joA] at h ⊢
    by_cases h1 : joE s last ≠ 0
    · rw [if_pos h1] at h; exact absurd h h1
    rw [if_neg h1] at h ⊢
    have h2 := one_enc (r := encs12 r) (Classical.not_not.1 h1) (hb s (by simp))
    have h3 := spS_step (d := encS s ++ encs12 r) (last := last) (acc := acc) (by simp [encS]) (by rw [h2])
    rw [h2] at h3
    have hpl := (plc_in s.id).1
    obtain ⟨g1, g2⟩ := split_encs r (max last (plc s.id)) (w ++ encS s) (acc ++ [nrm s]) (by omega) (fun x hx => hb x (by simp [hx])) h
    refine ⟨?_, ?_⟩
    · rw [encs12, h3]
      show spS (encs12 r) (max last (plc s.id)) (acc ++ [nrm s]) = _
      rw [g1, List.map_cons, List.append_assoc]
      rfl
    · rw [g2, encs12, List.append_assoc]
theorem joA_nil : ∀ (l : List Sec) (last : Int) (w : List UInt8), (joA l last w).1 ≠ 0 → (joA l last w).2 = []
  | [], _, _, h => absurd rfl h
  | s :: r, last, w, h => by
    rw [joA] at h ⊢
    by_cases h1 : joE s last ≠ 0
    · rw [if_pos h1]
    rw [if_neg h1] at h ⊢
    exact joA_nil r _ _ h
theorem tot_mem {l : List Sec} {s : Sec} (h : s ∈ l) : (gb s.bs).length + s.name.length ≤ tot l := by
  induction l with
  | nil => cases h
  | cons x r ih =>
    rcases List.mem_cons.1 h with rfl | h
    · simp only [tot]; omega
    · have := ih h; simp only [tot]; omega
theorem inn_mem {l : List Sec} {s : Sec} (h : s ∈ l) (ht : tot l ≤ 10000) : (inn s).length < 1000000 := by
  have h1 := tot_mem h
  have h2 := inn_len s
  have h3 := putU_32 (n := s.name.length) (by omega)
  omega
theorem encs_len : ∀ (l : List Sec), tot l ≤ 10000 → (encs12 l).length ≤ tot l + 11 * l.length
  | [], _ => by simp [encs12]
  | s :: r, h => by
    simp only [tot] at h
    have h1 := encs_len r (by omega)
    have h2 := inn_len s
    have h3 := putU_32 (n := s.name.length) (by omega)
    have h4 := putU_32 (n := (inn s).length) (by omega)
    simp only [encs12, encS, tot, List.length_append, List.length_cons]
    omega
/-- Split of what was joined. -/
theorem spl_joi {l : List Sec} (hl : l.length ≤ 10000) (ht : tot l ≤ 10000) (h : (joi l).1 = 0) : spl (joi l).2 = (0, l.map nrm) ∧ (joi l).2 = hdr ++ encs12 l := by
  obtain ⟨g1, g2⟩ := split_encs l 0 hdr [] (Int.le_refl _) (fun s hs => inn_mem hs ht) h
  have g3 : (joi l).2 = hdr ++ encs12 l := g2
  refine ⟨?_, g3⟩
  have h8 : hdr.length = 8 := rfl
  have hlen := encs_len l ht
  have t8 : (hdr ++ encs12 l).take 8 = hdr := by rw [← h8, List.take_left]
  have d8 : (hdr ++ encs12 l).drop 8 = encs12 l := by rw [← h8, List.drop_left]
  rw [g3, spl, if_neg (by simp [h8]; omega), if_neg (by rw [t8]; simp [h8]), d8, g1]
  rfl
end Go.Proofs.YtkejmhpodhbeeaaDoor
set_option linter.unusedSimpArgs false
set_option maxRecDepth 100000
set_option linter.unusedVariables false
namespace Go.Proofs.YtkejmhpodhbeeaaDoor
open Go Go.Mw

/-- The least encoding is not longer than the one that was read. -/
theorem decU_can {d : List UInt8} {m : Nat} (h : (decU d 32).2.2 = 0) (hm : m ≤ (decU d 32).1) : (putU m).length ≤ (decU d 32).2.1 := by
  unfold decU at h hm ⊢
  by_cases h1 : lstE d 32 ≠ 0
  · rw [if_pos h1] at h; exact absurd h h1
  rw [if_neg h1] at h hm ⊢
  by_cases h2 : (nth d (lstI d 32)).toNat / 2 ^ cnt 32 (lstI d 32) ≠ 0
  · rw [if_pos h2] at h; exact absurd h (show ¬ (4 : Int) = 0 by decide)
  rw [if_neg h2] at hm ⊢
  refine putU_len (k := lstI d 32) ?_
  have h3 := val7_lt (d.take (lstI d 32 + 1))
  rcases lst_cases d 32 with ⟨g1, g2, g3, g4⟩ | ⟨g1, g2⟩
  · rw [List.length_take, Nat.min_eq_left (by omega)] at h3
    have h4 := Nat.mod_le (val7 (d.take (lstI d 32 + 1))) 18446744073709551616
    simp only at hm
    omega
  · rcases g1 with g1 | g1 <;> rw [g1] at h1 <;> exact absurd (by decide) h1
theorem rU_can {d : List UInt8} {a m : Nat} (h : (rU true 32 d a 0).2.2 = 0) (hm : m ≤ (rU true 32 d a 0).1) : a + (putU m).length ≤ (rU true 32 d a 0).2.1 := by
  unfold rU at h hm ⊢
  simp only [if_true] at h hm ⊢
  by_cases h1 : (decU (d.drop a) 32).2.2 ≠ 0
  · rw [if_pos h1] at h; exact absurd h h1
  rw [if_neg h1] at hm ⊢
  have := decU_can (Classical.not_not.1 h1) hm
  simp only
  omega
theorem rTake_is {b : List UInt8} {a : Nat} {n : Nat} {e : Int} (h : (rTake (e == 0) b a e n).2.2 = 0) (ha : a ≤ b.length) : e = 0 ∧ a + n ≤ b.length ∧ rTake (e == 0) b a e n = (some ((b.drop a).take n), a + n, 0) := by
  obtain ⟨g1, g2, g3, g4⟩ := rTake_len (fun h => by simpa using h) h (fun h => by simpa using h) ha
  rw [Int.toNat_natCast] at g3 g4
  refine ⟨?_, g3, g4⟩
  by_cases he : e = 0
  · exact he
  · rw [beq_f he] at h
    exact absurd h (by simpa [rTake] using he)
theorem tkS_can {d : List UInt8} (hd : 0 < d.length) (h : (tkS d).2.2 = 0) : ∃ x, (tkS d).1 = some x ∧ (tkS d).2.1 ≤ d.length ∧ ∀ m : Nat, m ≤ x.length → 1 + (putU m).length + x.length ≤ (tkS d).2.1 := by
  have h2 := rU_a (ok := true) (bits := 32) (b := d) (a := 1) (e := 0) (by omega)
  obtain ⟨g1, g2, g3⟩ := rTake_is h h2
  unfold tkS
  rw [g3]
  refine ⟨_, rfl, g2, fun m hm => ?_⟩
  have hx : ((d.drop (rU true 32 d 1 0).2.1).take (rU true 32 d 1 0).1).length = (rU true 32 d 1 0).1 := by simp; omega
  rw [hx] at hm ⊢
  have := rU_can g1 hm
  simp only
  omega
theorem rCount_is {b : List UInt8} {most : Int} (h : (rCount true b 0 0 most).2.2 = 0) : rCount true b 0 0 most = rU true 32 b 0 0 ∧ (rU true 32 b 0 0).2.2 = 0 ∧ ((rU true 32 b 0 0).1 : Int) ≤ most := by
  unfold rCount at h ⊢
  simp only [if_true] at h ⊢
  by_cases h1 : (rU true 32 b 0 0).2.2 = 0 ∧ ((rU true 32 b 0 0).1 : Int) > most
  · rw [if_pos h1] at h; exact absurd h (show ¬ (6 : Int) = 0 by decide)
  · rw [if_neg h1] at h ⊢
    exact ⟨rfl, h, by
      by_cases h2 : ((rU true 32 b 0 0).1 : Int) ≤ most
      · exact h2
      · exact absurd ⟨h, by omega⟩ h1⟩
/-- A name that was read. -/
theorem name_is {x : List UInt8} (h : (rName true x 0 0).2.2 = 0) : uv (rName true x 0 0).1 = true ∧ (rName true x 0 0).1.length ≤ 64 ∧ (rName true x 0 0).2.1 ≤ x.length ∧ (putU (rName true x 0 0).1.length).length + (rName true x 0 0).1.length ≤ (rName true x 0 0).2.1 := by
  unfold rName at h ⊢
  rw [if_pos rfl] at h ⊢
  unfold nameT at h ⊢
  by_cases h1 : (rTake ((rCount true x 0 0 64).2.2 == 0) x (rCount true x 0 0 64).2.1 (rCount true x 0 0 64).2.2 (rCount true x 0 0 64).1).2.2 ≠ 0
  · rw [if_pos h1] at h; exact absurd h h1
  rw [if_neg h1] at h ⊢
  obtain ⟨g1, g2, g3⟩ := rTake_is (Classical.not_not.1 h1) (rCount_a (Nat.zero_le _))
  obtain ⟨k1, k2, k3⟩ := rCount_is g1
  rw [k1] at g2 g3 h ⊢
  rw [g3] at h ⊢
  by_cases h3 : uv ((some ((x.drop (rU true 32 x 0 0).2.1).take (rU true 32 x 0 0).1)).getD []) = false
  · rw [if_pos h3] at h; exact absurd h (show ¬ (9 : Int) = 0 by decide)
  rw [if_neg h3]
  have hx : ((x.drop (rU true 32 x 0 0).2.1).take (rU true 32 x 0 0).1).length = (rU true 32 x 0 0).1 := by simp; omega
  have hc := rU_can (m := (rU true 32 x 0 0).1) k2 (Nat.le_refl _)
  refine ⟨by simpa using h3, ?_, g2, ?_⟩
  · show ((x.drop (rU true 32 x 0 0).2.1).take (rU true 32 x 0 0).1).length ≤ 64
    omega
  · show (putU ((x.drop (rU true 32 x 0 0).2.1).take (rU true 32 x 0 0).1).length).length + ((x.drop (rU true 32 x 0 0).2.1).take (rU true 32 x 0 0).1).length ≤ (rU true 32 x 0 0).2.1 + (rU true 32 x 0 0).1
    rw [hx]
    omega
/-- One section that was read can be joined. -/
theorem one_can {d : List UInt8} {last : Int} (hd : 0 < d.length) (h : (oneS d last).1 = 0) (hdl : d.length < 1000000) :
    joE (oneS d last).2.1 last = 0 ∧ (encS (oneS d last).2.1).length + (oneS d last).2.2.length ≤ d.length ∧ (gb (oneS d last).2.1.bs).length + (oneS d last).2.1.name.length < (encS (oneS d last).2.1).length ∧ nrm (oneS d last).2.1 = (oneS d last).2.1 := by
  obtain ⟨h1, h2, h3, h4, h5, h6⟩ := oneS_ok h
  obtain ⟨x, g1, g2, g3⟩ := tkS_can hd h2
  have hx0 := (nth d 0).toNat_lt
  have hs : (oneS d last).2.1 = (parS (nth d 0).toNat x).2 := by rw [h5, g1, gb_some]
  have hr : (oneS d last).2.2 = d.drop (tkS d).2.1 := by rw [h5]
  rw [g1, gb_some] at h4
  rw [hr, List.length_drop]
  by_cases c : ((nth d 0).toNat : Int) = 0
  · have hp : (rName true x 0 0).2.2 = 0 := by
      unfold parS at h4
      rw [if_pos c] at h4
      by_cases h7 : (rName true x 0 0).2.2 ≠ 0
      · rw [if_pos h7] at h4; exact absurd h4 h7
      · exact Classical.not_not.1 h7
    have hs2 : (oneS d last).2.1 = ⟨0, (rName true x 0 0).1, some (x.drop (rName true x 0 0).2.1)⟩ := by
      rw [hs, parS, if_pos c, if_neg (Classical.not_not.2 hp)]
    obtain ⟨n1, n2, n3, n4⟩ := name_is hp
    rw [hs2]
    have hi : inn ⟨0, (rName true x 0 0).1, some (x.drop (rName true x 0 0).2.1)⟩ = putU (rName true x 0 0).1.length ++ (rName true x 0 0).1 ++ x.drop (rName true x 0 0).2.1 := by simp [inn, gb]
    have hl : (inn ⟨0, (rName true x 0 0).1, some (x.drop (rName true x 0 0).2.1)⟩).length = (putU (rName true x 0 0).1.length).length + (rName true x 0 0).1.length + (x.length - (rName true x 0 0).2.1) := by rw [hi]; simp; omega
    have hg := g3 (inn ⟨0, (rName true x 0 0).1, some (x.drop (rName true x 0 0).2.1)⟩).length (by omega)
    have he : (encS ⟨0, (rName true x 0 0).1, some (x.drop (rName true x 0 0).2.1)⟩).length = 1 + (putU (inn ⟨0, (rName true x 0 0).1, some (x.drop (rName true x 0 0).2.1)⟩).length).length + (inn ⟨0, (rName true x 0 0).1, some (x.drop (rName true x 0 0).2.1)⟩).length := by simp [encS]; omega
    refine ⟨?_, by omega, ?_, rfl⟩
    · rw [joE, if_neg (by simp), if_neg (by simp), if_pos rfl, if_neg (by rw [n1]; simp), if_neg (by show ¬ (rName true x 0 0).1.length > 64; omega)]
    · rw [he]
      simp only [gb_some, List.length_drop]
      omega
  · have hs2 : (oneS d last).2.1 = ⟨(nth d 0).toNat, [], some x⟩ := by rw [hs, parS, if_neg c]
    rw [hs2]
    have hi : inn ⟨(nth d 0).toNat, [], some x⟩ = x := by rw [inn, if_neg c]; rfl
    have hg := g3 x.length (Nat.le_refl _)
    have he : (encS ⟨(nth d 0).toNat, [], some x⟩).length = 1 + (putU x.length).length + x.length := by simp [encS, hi]; omega
    refine ⟨?_, by omega, ?_, rfl⟩
    · rw [joE, if_neg (by simp; omega), if_neg (fun hh => h3 ⟨by omega, hh.2⟩), if_neg c]
    · rw [he]
      simp only [gb_some, List.length_nil]
      omega
theorem split_can (f : Nat) : ∀ (d : List UInt8) (last : Int) (acc : List Sec) (w : List UInt8), d.length ≤ f → d.length < 1000000 → (spS d last acc).1 = 0 →
    ∃ l, (spS d last acc).2 = acc ++ l ∧ joA l last w = (0, w ++ encs12 l) ∧ (encs12 l).length ≤ d.length ∧ tot l + l.length ≤ (encs12 l).length ∧ l.map nrm = l := by
  induction f with
  | zero =>
    intro d last acc w h hdl he
    rw [show d = [] from List.eq_nil_of_length_eq_zero (by omega), spS_nil]
    exact ⟨[], by simp, by simp [joA, encs12], by simp [encs12], by simp [encs12, tot], rfl⟩
  | succ f ih =>
    intro d last acc w h hdl he
    by_cases hd : 0 < d.length
    · by_cases h1 : (oneS d last).1 = 0
      · have h2 := oneS_lt hd h1
        obtain ⟨c1, c2, c3, c4⟩ := one_can hd h1 hdl
        rw [spS_step hd h1] at he ⊢
        obtain ⟨l, e1, e2, e3, e4, e5⟩ := ih (oneS d last).2.2 (max last (plc (oneS d last).2.1.id)) (acc ++ [(oneS d last).2.1]) (w ++ encS (oneS d last).2.1) (by omega) (by omega) he
        refine ⟨(oneS d last).2.1 :: l, ?_, ?_, ?_, ?_, ?_⟩
        · rw [e1, List.append_assoc]; rfl
        · rw [joA, if_neg (by rw [c1]; simp), e2, encs12, List.append_assoc]
        · rw [encs12, List.length_append]; omega
        · rw [encs12, List.length_append, tot, List.length_cons]; omega
        · rw [List.map_cons, c4, e5]
      · rw [spS_err hd h1] at he; exact absurd he h1
    · rw [show d = [] from List.eq_nil_of_length_eq_zero (by omega), spS_nil]
      exact ⟨[], by simp, by simp [joA, encs12], by simp [encs12], by simp [encs12, tot], rfl⟩
/-- What was split can be joined, to no more bytes, which split into the same. -/
theorem spl_again {b : List UInt8} (hb : b.length ≤ 4000) (h : (spl b).1 = 0) : (joi (spl b).2).1 = 0 ∧ (joi (spl b).2).2.length ≤ b.length ∧ spl (joi (spl b).2).2 = (0, (spl b).2) ∧ tot (spl b).2 ≤ 10000 ∧ (spl b).2.length ≤ 10000 := by
  have h0 := h
  unfold spl at h
  split at h
  · exact absurd h (by decide)
  rename_i h1
  split at h
  · exact absurd h (by decide)
  rename_i h2
  have e : spl b = spS (b.drop 8) 0 [] := by rw [spl, if_neg h1, if_neg h2]
  obtain ⟨l, e1, e2, e3, e4, e5⟩ := split_can (b.drop 8).length (b.drop 8) 0 [] hdr (Nat.le_refl _) (by simp; omega) h
  have el : (spl b).2 = l := by rw [e, e1]; rfl
  have hlen : (b.drop 8).length = b.length - 8 := by simp
  have hj : joi (spl b).2 = (0, hdr ++ encs12 l) := by rw [el]; exact e2
  have h3 : (joi (spl b).2).1 = 0 := by rw [hj]
  have ht : tot (spl b).2 ≤ 10000 := by rw [el]; omega
  have hl : (spl b).2.length ≤ 10000 := by rw [el]; omega
  obtain ⟨k1, k2⟩ := spl_joi hl ht h3
  refine ⟨h3, ?_, ?_, ht, hl⟩
  · rw [hj, List.length_append, show hdr.length = 8 from rfl]; omega
  · rw [k1, el, e5]
theorem spl_nil {b : List UInt8} (h : (spl b).1 ≠ 0) : (spl b).2 = [] := by
  have key : ∀ (f : Nat) (d : List UInt8) (last : Int) (acc : List Sec), d.length ≤ f → (spS d last acc).1 ≠ 0 → (spS d last acc).2 = [] := by
    intro f
    induction f with
    | zero => intro d last acc hd he; rw [show d = [] from List.eq_nil_of_length_eq_zero (by omega), spS_nil] at he; exact absurd rfl he
    | succ f ih =>
      intro d last acc hf he
      by_cases hd : 0 < d.length
      · by_cases h1 : (oneS d last).1 = 0
        · have h2 := oneS_lt hd h1
          rw [spS_step hd h1] at he ⊢
          exact ih _ _ _ (by omega) he
        · rw [spS_err hd h1]
      · rw [show d = [] from List.eq_nil_of_length_eq_zero (by omega), spS_nil] at he; exact absurd rfl he
  unfold spl at h ⊢
  split
  · rfl
  rename_i h1
  rw [if_neg h1] at h
  split
  · rfl
  rename_i h2
  rw [if_neg h2] at h
  exact key _ _ _ _ (Nat.le_refl _) h
end Go.Proofs.YtkejmhpodhbeeaaDoor
set_option linter.unusedSimpArgs false
set_option maxRecDepth 100000
set_option maxHeartbeats 4000000
set_option linter.unusedVariables false
namespace Go.Proofs.YtkejmhpodhbeeaaDoor
open Go Go.Mw
-- @U: slv_none, slv_some

section
variable (s_alive12 : PCalls Tryd.prog n_law12_alive [] (.bool true))
include s_alive12

theorem w_places (id p : Int) : PCalls Tryd.prog n_law12_SectionPlaces [.int .i64 id, .int .i64 p] (.bool true) := by
  refine pfun_sound (ic := F_law12_SectionPlaces.body) mixed c_law12_SectionPlaces rfl rfl ?_
  have h1 : plc id = 0 ∨ (¬ plc id = 0 ∧ att (plc id) = id) := by
    by_cases h : 1 ≤ id ∧ id ≤ 12
    · have := att_plc h; exact .inr ⟨by omega, this.1⟩
    · exact .inl (plc_0 (by omega))
  have h2 : att p = 0 ∨ (¬ att p = 0 ∧ plc (att p) = p) := by
    by_cases h : 1 ≤ p ∧ p ≤ 12
    · have := plc_att h; exact .inr ⟨by omega, this.1⟩
    · exact .inl (att_0 (by omega))
  have b1 : (plc id != plc id) = false := by simp
  have b2 : (att p != att p) = false := by simp
  simp only [go_sem, F_law12_SectionPlaces]
  refine call_same (s_place id) (by simp [go_sem]) ?_
  simp only [go_sem]
  refine call_same (s_atp p) (by simp [go_sem]) ?_
  simp only [go_sem]
  refine call_same (r_place id) (by simp [go_sem]) ?_
  simp only [go_sem, b1]
  refine call_same (r_at p) (by simp [go_sem]) ?_
  simp only [go_sem, b2]
  rcases h1 with h1 | ⟨h1, g1⟩
  · simp only [go_sem, beq_t h1]
    rcases h2 with h2 | ⟨h2, g2⟩
    · simp only [go_sem, beq_t h2]
      refine call_same (s_alive12) (by simp [go_sem]) ?_
      simp only [go_sem]
      exact pdone [] (by simp only [go_sem]) (by first | rfl | simp [go_sem, slv_ids])
    · simp only [go_sem, beq_f h2]
      refine call_same (s_place (att p)) (by simp [go_sem]) ?_
      simp only [go_sem, beq_t g2]
      refine call_same (s_alive12) (by simp [go_sem]) ?_
      simp only [go_sem]
      exact pdone [] (by simp only [go_sem]) (by first | rfl | simp [go_sem, slv_ids])
  · simp only [go_sem, beq_f h1]
    refine call_same (s_atp (plc id)) (by simp [go_sem]) ?_
    simp only [go_sem, beq_t g1]
    rcases h2 with h2 | ⟨h2, g2⟩
    · simp only [go_sem, beq_t h2]
      refine call_same (s_alive12) (by simp [go_sem]) ?_
      simp only [go_sem]
      exact pdone [] (by simp only [go_sem]) (by first | rfl | simp [go_sem, slv_ids])
    · simp only [go_sem, beq_f h2]
      refine call_same (s_place (att p)) (by simp [go_sem]) ?_
      simp only [go_sem, beq_t g2]
      refine call_same (s_alive12) (by simp [go_sem]) ?_
      simp only [go_sem]
      exact pdone [] (by simp only [go_sem]) (by first | rfl | simp [go_sem, slv_ids])
theorem w_joins (l : List Sec) : PCalls Tryd.prog n_law12_SectionJoins [.sl 3 (l.map sec_)] (.bool true) := by
  refine pfun_sound (ic := F_law12_SectionJoins.body) mixed c_law12_SectionJoins rfl rfl ?_
  simp only [go_sem, F_law12_SectionJoins]
  refine call_same (s_few l) (by simp [go_sem]) ?_
  cases h : fewB l
  · simp only [go_sem]
    refine call_same (s_alive12) (by simp [go_sem]) ?_
    simp only [go_sem]
    exact pdone [] (by simp only [go_sem]) (by first | rfl | simp [go_sem, slv_ids])
  · obtain ⟨h1, h2⟩ := fewB_tot h
    have b1 : ((joi l).2 == (joi l).2) = true := by simp
    have b2 : ((joi l).1 == (joi l).1) = true := by simp
    simp only [go_sem]
    refine call_same (s_theirs l (by omega)) (by simp [go_sem]) ?_
    simp only [go_sem]
    refine call_same (s_join l (by omega) (by omega)) (by simp [go_sem]) ?_
    simp only [go_sem]
    refine call_same (r_join l (by omega) (by omega)) (by simp [go_sem]) ?_
    simp only [go_sem, bytes_by, b1, b2]
    refine call_same (s_alive12) (by simp [go_sem]) ?_
    simp only [go_sem]
    exact pdone [] (by simp only [go_sem]) (by first | rfl | simp [go_sem, slv_ids])
omit s_alive12 in
theorem spl_len (d : List UInt8) : ∀ (f : Nat) (last : Int) (acc : List Sec), d.length ≤ f → (spS d last acc).2.length ≤ acc.length + d.length := by
  intro f
  induction f generalizing d with
  | zero => intro last acc h; rw [show d = [] from List.eq_nil_of_length_eq_zero (by omega), spS_nil]; simp
  | succ f ih =>
    intro last acc h
    by_cases hd : 0 < d.length
    · by_cases he : (oneS d last).1 = 0
      · have := oneS_lt hd he
        have h2 := ih (oneS d last).2.2 (max last (plc (oneS d last).2.1.id)) (acc ++ [(oneS d last).2.1]) (by omega)
        rw [spS_step hd he]
        simp at h2
        omega
      · rw [spS_err hd he]; simp
    · rw [show d = [] from List.eq_nil_of_length_eq_zero (by omega), spS_nil]; simp
omit s_alive12 in
theorem spl_short (b : List UInt8) : (spl b).2.length ≤ b.length := by
  unfold spl
  split
  · simp
  split
  · simp
  · have := spl_len (b.drop 8) _ 0 [] (Nat.le_refl _)
    simp at this
    omega
theorem w_splits (b : List UInt8) : PCalls Tryd.prog n_law12_SectionSplits [.sl 1 (b.map by_)] (.bool true) := by
  refine pfun_sound (ic := F_law12_SectionSplits.body) mixed c_law12_SectionSplits rfl rfl ?_
  by_cases h : (b.length : Int) > 4000
  · simp only [go_sem, F_law12_SectionSplits, decide_eq_true h]
    refine call_same (s_alive12) (by simp [go_sem]) ?_
    simp only [go_sem]
    exact pdone [] (by simp only [go_sem]) (by first | rfl | simp [go_sem, slv_ids])
  · have hs := spl_short b
    have b2 : ((spl b).1 == (spl b).1) = true := by simp
    simp only [go_sem, F_law12_SectionSplits, decide_eq_false h]
    refine call_same (s_split b (by omega)) (by simp [go_sem]) ?_
    simp only [go_sem]
    refine call_same (r_split b (by omega)) (by simp [go_sem]) ?_
    simp only [go_sem]
    refine call_same (s_ours (spl b).2 (by omega)) (by simp [go_sem]) ?_
    simp only [go_sem]
    refine call_same (s_same12 (spl b).2 (spl b).2 (by omega) rfl (fun k hk => ⟨rfl, rfl, rfl⟩)) (by simp [go_sem]) ?_
    simp only [go_sem, b2]
    refine call_same (s_alive12) (by simp [go_sem]) ?_
    simp only [go_sem]
    exact pdone [] (by simp only [go_sem]) (by first | rfl | simp [go_sem, slv_ids])
omit s_alive12 in
theorem nth_nrm (l : List Sec) (k : Nat) (hk : k < l.length) : nth (l.map nrm) k = nrm (nth l k) := by
  rw [nth_eq (by simpa using hk), List.getElem_map, nth_eq hk]
theorem w_back12 (l : List Sec) : PCalls Tryd.prog n_law12_SectionBack [.sl 3 (l.map sec_)] (.bool true) := by
  refine pfun_sound (ic := F_law12_SectionBack.body) mixed c_law12_SectionBack rfl rfl ?_
  simp only [go_sem, F_law12_SectionBack]
  refine call_same (s_few l) (by simp [go_sem]) ?_
  cases h : fewB l
  · simp only [go_sem]
    refine call_same (s_alive12) (by simp [go_sem]) ?_
    simp only [go_sem]
    exact pdone [] (by simp only [go_sem]) (by first | rfl | simp [go_sem, slv_ids])
  · obtain ⟨h1, h2⟩ := fewB_tot h
    simp only [go_sem]
    refine call_same (s_theirs l (by omega)) (by simp [go_sem]) ?_
    simp only [go_sem]
    refine call_same (s_join l (by omega) (by omega)) (by simp [go_sem]) ?_
    by_cases he : (joi l).1 = 0
    · obtain ⟨g1, g2⟩ := spl_joi (by omega) (by omega) he
      have hlen := encs_len l (by omega)
      have hl2 : (joi l).2.length < 100000000 := by rw [g2, List.length_append, show hdr.length = 8 from rfl]; omega
      have cs := s_split (joi l).2 hl2
      rw [g1] at cs
      simp only [go_sem, bne_f he]
      refine call_same (cs) (by simp [go_sem]) ?_
      simp only [go_sem]
      refine call_same (s_ours (l.map nrm) (by simp; omega)) (by simp [go_sem]) ?_
      simp only [go_sem]
      refine call_same (s_same12 (l.map nrm) l (by simp; omega) (by simp) (fun k hk => by rw [nth_nrm l k (by simpa using hk)]; exact ⟨rfl, rfl, rfl⟩)) (by simp [go_sem]) ?_
      simp only [go_sem]
      refine call_same (s_alive12) (by simp [go_sem]) ?_
      simp only [go_sem]
      exact pdone [] (by simp only [go_sem]) (by first | rfl | simp [go_sem, slv_ids])
    · have hn := joA_nil l 0 hdr he
      have hn : (joi l).2 = [] := hn
      have z0 : (((0 : Nat) : Int) == 0) = true := rfl
      simp only [go_sem, bne_t he, hn, List.map_nil, List.length_nil, z0]
      refine call_same (s_alive12) (by simp [go_sem]) ?_
      simp only [go_sem]
      exact pdone [] (by simp only [go_sem]) (by first | rfl | simp [go_sem, slv_ids])
end
end Go.Proofs.YtkejmhpodhbeeaaDoor
set_option linter.unusedSimpArgs false
set_option maxRecDepth 100000
set_option maxHeartbeats 4000000
set_option linter.unusedVariables false
namespace Go.Proofs.YtkejmhpodhbeeaaDoor
open Go Go.Mw
-- @U: slv_none, slv_some

theorem w_again (s_alive12 : PCalls Tryd.prog n_law12_alive [] (.bool true)) (b : List UInt8) : PCalls Tryd.prog n_law12_SectionAgain [.sl 1 (b.map by_)] (.bool true) := by
  refine pfun_sound (ic := F_law12_SectionAgain.body) mixed c_law12_SectionAgain rfl rfl ?_
  by_cases h : (b.length : Int) > 4000
  · simp only [go_sem, F_law12_SectionAgain, decide_eq_true h]
    refine call_same (s_alive12) (by simp [go_sem]) ?_
    simp only [go_sem]
    exact pdone [] (by simp only [go_sem]) (by first | rfl | simp [go_sem, slv_ids])
  · simp only [go_sem, F_law12_SectionAgain, decide_eq_false h]
    refine call_same (s_split b (by omega)) (by simp [go_sem]) ?_
    by_cases he : (spl b).1 = 0
    · obtain ⟨g1, g2, g3, g4, g5⟩ := spl_again (by omega) he
      have cs := s_split (joi (spl b).2).2 (by omega)
      rw [g3] at cs
      have d1 : decide (((joi (spl b).2).2.length : Int) ≤ (b.length : Int)) = true := decide_eq_true (by omega)
      have hs := spl_short b
      simp only [go_sem, bne_f he]
      refine call_same (s_join (spl b).2 g5 g4) (by simp [go_sem]) ?_
      simp only [go_sem]
      refine call_same (cs) (by simp [go_sem]) ?_
      simp only [go_sem, beq_t g1, d1]
      refine call_same (s_ours (spl b).2 (by omega)) (by simp [go_sem]) ?_
      simp only [go_sem]
      refine call_same (s_ours (spl b).2 (by omega)) (by simp [go_sem]) ?_
      simp only [go_sem]
      refine call_same (s_same12 (spl b).2 (spl b).2 (by omega) rfl (fun k hk => ⟨rfl, rfl, rfl⟩)) (by simp [go_sem]) ?_
      simp only [go_sem]
      refine call_same (s_alive12) (by simp [go_sem]) ?_
      simp only [go_sem]
      exact pdone [] (by simp only [go_sem]) (by first | rfl | simp [go_sem, slv_ids])
    · have hn := spl_nil he
      have z0 : (((0 : Nat) : Int) == 0) = true := rfl
      simp only [go_sem, bne_t he, hn, List.map_nil, List.length_nil, z0]
      refine call_same (s_alive12) (by simp [go_sem]) ?_
      simp only [go_sem]
      exact pdone [] (by simp only [go_sem]) (by first | rfl | simp [go_sem, slv_ids])
end Go.Proofs.YtkejmhpodhbeeaaDoor
set_option linter.unusedSimpArgs false
set_option maxRecDepth 100000
set_option maxHeartbeats 4000000
set_option linter.unusedVariables false
namespace Go.Proofs.YtkejmhpodhbeeaaDoor
open Go Go.Mw
-- @U: slv_none, slv_some

def exS : Sec := ⟨0, [97], some [5]⟩
theorem ex_join : joi [exS] = (0, hdr ++ [0, 3, 1, 97, 5]) := by
  have u : uv [97] = true := by decide +kernel
  have e : joE exS 0 = 0 := by simp [joE, exS, u]
  have i : inn exS = [1, 97, 5] := by simp [inn, exS, putU_lo, gb]
  have c : encS exS = [0, 3, 1, 97, 5] := by unfold encS; rw [i]; simp [putU_lo, exS]
  simp [joi, joA, e, c]
theorem ex_split : spl (hdr ++ [3, 0, 2, 0]) = (7, []) := by decide +kernel
theorem s_alive12 : PCalls Tryd.prog n_law12_alive [] (.bool true) := by
  refine pfun_sound (ic := F_law12_alive.body) mixed c_law12_alive rfl rfl ?_
  have c0 : PCalls Tryd.prog n_section_Join [.sl 3 []] (.tup [.sl 1 (hdr.map by_), .int .i64 0]) := s_join [] (by simp) (by simp [tot])
  have c1 : PCalls Tryd.prog n_section_Join [.sl 3 [[.int .i64 0, .str [97], .sl 1 [[.int .u8 5]]]]] (.tup [.sl 1 ((hdr ++ [0, 3, 1, 97, 5]).map by_), .int .i64 0]) := by
    have c1 := s_join [exS] (by simp) (by simp [tot, exS, gb])
    rw [ex_join] at c1
    exact c1
  have c2 : PCalls Tryd.prog n_section_Split [.sl 1 ((hdr ++ [3, 0, 2, 0]).map by_)] (.tup [.sl 3 [], .int .i64 7]) := by
    have c2 := s_split (hdr ++ [3, 0, 2, 0]) (by decide)
    rw [ex_split] at c2
    exact c2
  have c3 : PCalls Tryd.prog n_section_Place [.int .i64 12] (.int .i64 10) := s_place 12
  have c4 : PCalls Tryd.prog n_section_At [.int .i64 11] (.int .i64 10) := s_atp 11
  have a1 := appO_nil 19 (hdr.map by_) (by decide) (by decide)
  have a2 := fun ys => appO_map 19 5 1 8 by_ hdr ys rfl
  rw [show (hdr.map by_).length = 8 from rfl] at a1
  have l8 : (hdr.map by_).length = 8 := rfl
  have hh : (hdr == [0, 97, 115, 109, 1, 0, 0, 0]) = true := rfl
  simp only [go_sem, F_law12_alive]
  refine call_nl [.sl 3 []] ⟨.inr (.inl ⟨rfl, 3, rfl⟩), trivial⟩ ?_
  refine call_same (c0) (by simp [go_sem]) ?_
  simp only [go_sem]
  refine ⟨_, Wk.frzs [12] _, ?_⟩
  simp only [opNew_bsl]
  simp only [go_sem]
  refine call_frz [14] ?_ c1 (by simp [go_sem]) ?_
  · simp only [go_sem, Nat.le_refl]
    try rfl
  simp only [go_sem, a1, a2, l8]
  refine call_frz [19] ?_ c2 (by simp [go_sem]) ?_
  · simp only [go_sem, Nat.le_refl]
    rfl
  simp only [go_sem, bytes_by, hh]
  refine ⟨by decide, ?_⟩
  refine call_same (c3) (by simp [go_sem]) ?_
  simp only [go_sem]
  refine call_same (c4) (by simp [go_sem]) ?_
  simp only [go_sem]
  exact pdone [] (by simp only [go_sem]) (by first | rfl | simp [go_sem, slv_ids])
end Go.Proofs.YtkejmhpodhbeeaaDoor
