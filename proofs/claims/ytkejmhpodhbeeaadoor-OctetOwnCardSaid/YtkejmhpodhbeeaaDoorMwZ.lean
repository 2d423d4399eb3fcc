/-
  From a contract to a law's statement: the law returns true, and what was there is as it was.
-/
import Derived.Test.YtkejmhpodhbeeaaDoorMwY
set_option linter.unusedSectionVars false
namespace Go.Mw
open Go.ChangeShapes Go.WideShapes Go.ChangeAt Go.RowKit

section
variable {H : Type} {enc : TypeId × Value → H} {P : Program} [Tabs P]

/-- What was there is as it was. -/
structure Kept (w w' : World) : Prop where
  size : w.heap.size ≤ w'.heap.size
  old : ∀ b, b < w.heap.size → w'.heap[b]? = w.heap[b]?
  os : w'.os = w.os
  out : w'.output = w.output

theorem IRel.toV {bl : Nat → Option Nat} {M : Nat → Prop} {w : World} {v : Value} {x : AV} (h : IRel M w v x) : VRel bl M w v x := h.toC.toG.toV

theorem pcalls_run {f : FuncId} {args : List AV} {r : Bool} (hp : PCalls P f args (.bool r)) {w : World} {cargs : List Value} (hT : (Tabs.T P).H w) (ha : All2 (IRel (fun _ => False) w) cargs args) :
    Calls P f cargs.toArray w fun e w' => e = .returned (.bool r) ∧ Kept w w' := by
  have hM : ∀ b, Mut (fun _ => none) (fun _ => False) (hget []) b → False := by
    rintro b (h | ⟨i, o, h, _⟩)
    · exact h
    · simp [hget] at h
  refine (hp (fun _ => none) (fun _ => False) w cargs hT (fun _ _ hm => hm.elim id fun ⟨_, _, hi, _⟩ => by simp [hget] at hi) ⟨fun i o h => by simp [hget] at h, fun i _ o _ _ h => by simp [hget] at h⟩ (fun _ h => h.elim) (ha.mono fun a b _ h => (h.mono hM).toV)).mono fun e w' => ?_
  rintro ⟨v, r', σ', bl', rfl, ⟨rfl, rfl⟩, _, _, hv, hst, _, _⟩
  have hv' := hv.bool
  subst hv'
  exact ⟨rfl, hst.size, fun b hb => hst.keep b hb (fun ⟨i, o, h, _⟩ => by simp [hget] at h), hst.os, hst.out⟩

theorem Kept.frame {w w' : World} (h : Kept w w') (may : MemPlace → Prop) : w.keptBut w' may := by
  refine ⟨h.os, h.out, fun i hi => ?_⟩
  rw [h.old i hi]
  cases ho : w.heap[i]? with
  | none => rfl
  | some o =>
    cases o with
    | cells c t fr => exact ⟨rfl, rfl, rfl, fun _ _ => rfl⟩
    | map es clock => exact .inr ⟨rfl, rfl⟩
    | _ => rfl
theorem Kept.frozen {w w' : World} (h : Kept w w') {a : Addr} (ha : a.block < w.heap.size) : w'.frozen? a = w.frozen? a := World.frozen?_of_block (w := w) (h.old a.block ha)
theorem Kept.same {w w' : World} (h : Kept w w') {p : MemPlace} (hp : p.block < w.heap.size) : w.sameAt w' p := by
  cases p with
  | cell b off => exact World.cell?_of_block (w := w) (h.old b hp)
  | map b => exact h.old b hp

/-- The arguments read as they did. -/
theorem trodAll_stays (hl : laidOutB P = true) {W W' : World} {sp : Nat → Bool} : ∀ {ts : List TypeId} {vs : List Value} {ds : List (DataW H)} {ps : List MemPlace}, (∀ t ∈ ts, P.readableRec t = true ∧ t < P.types.size) →
    DataW.TrodAll enc P W 0 (fun _ => true) true ts vs ds ps → (∀ p ∈ ps, W.sameAt W' p) → (∀ p ∈ ps, sp p.block = true) → DataW.TrodAll enc P W' 0 sp true ts vs ds ps
  | [], [], [], ps, _, h, _, _ => h
  | t :: ts, v :: vs, d :: ds, ps, hr, h, h1, h2 => by
    obtain ⟨p, q, h3, h4, rfl⟩ := h
    exact ⟨p, q, WideElems.Trod_stays hl (hr t (by simp)).1 (hr t (by simp)).2 h3 (fun x hx => h1 x (by simp [hx])) (fun x hx => h2 x (by simp [hx])),
      trodAll_stays hl (fun t ht => hr t (by simp [ht])) h4 (fun x hx => h1 x (by simp [hx])) (fun x hx => h2 x (by simp [hx])), rfl⟩
  | [], _ :: _, _, _, _, h, _, _ => h.elim
  | [], [], _ :: _, _, _, h, _, _ => h.elim
  | _ :: _, [], _, _, _, h, _, _ => h.elim
  | _ :: _, _ :: _, [], _, _, h, _, _ => h.elim

/-- A law that returns true and leaves what was there. -/
theorem law_post {f : Func} {s : ChangeSpec} {apart fresh handsOn again : Bool} {W W' : World} {args : Array Value} {ds gs : List (DataW H)} {before : List MemPlace} {tb : TypeId} (hl : laidOutB P = true)
    (hr : ∀ t ∈ f.params.toList, P.readableRec t = true ∧ t < P.types.size) (hv : s.vars = []) (hfn : (s.fn H (ds ++ gs)).results = [.lit (.bool true)]) (hfa : (s.fn H (ds ++ gs)).args = ds) (hfv : (s.fn H (ds ++ gs)).vars = [])
    (hrt : f.resultTypes = #[tb]) (htb : P.underlying tb = some .bool) (hW : DataW.Whole enc P f.params.toList s.vars apart W args.toList ds gs before) (hk : Kept W W') :
    s.post enc P f apart fresh handsOn again W args (.bool true) W' := by
  have hlt := hW.lt
  have hW0 := hW
  obtain ⟨p, q, hA, hV, rfl, hz, hn⟩ := hW0
  rw [hv] at hV
  obtain ⟨rfl, rfl⟩ := trodVars_none hV
  rw [List.append_nil] at *
  have hsame : ∀ x ∈ p, W.sameAt W' x := fun x hx => hk.same (by simpa using hlt x hx)
  have hargs : ∀ sp : Nat → Bool, (∀ x ∈ p, sp x.block = true) → DataW.TrodAll enc P W' 0 sp true f.params.toList args.toList ds p := fun sp hsp => trodAll_stays hl hr hA hsame hsp
  have hres : ∀ (b : Nat) (sp : Nat → Bool) (hd : Bool), DataW.TrodAll enc P W' b sp hd f.resultTypes.toList ((Value.bool true).resultList f.resultTypes.size) [.lit (.bool true)] [] := fun b sp hd => by
    rw [hrt]
    exact trodAll_cons_mk (shut_bool htb _) trodAll_mk0
  have hvars : ∀ sp : Nat → Bool, DataW.TrodVars enc P W' sp s.vars [] [] := fun sp => by rw [hv]; rfl
  refine ⟨ds, [], p, [], p, [], by simpa using hW, by rw [List.append_nil, hfn]; exact hres _ _ _, by rw [List.append_nil, hfa]; exact hargs _ (fun x hx => by simpa using hlt x (by simpa using hx)), by rw [List.append_nil, hfv]; exact hvars _, hk.frame _, fun _ => ?_⟩
  refine ⟨ok_one hrt rfl (okWide_bool_mk htb _), [.lit (.bool true)] ++ ds, [], p, ⟨[] ++ p, [], trodAll_append (hargs _ (fun _ _ => rfl)) (hres _ _ _), hvars _, by simp, ?_, ?_⟩, fun x hx _ => hx⟩
  · intro b off hp
    have hb : b < W.heap.size := hlt (.cell b off) (by simpa using hp)
    have := hz b off (by simpa using hp)
    rw [hk.frozen (a := ⟨b, off, none⟩) hb]
    exact this
  · intro ha
    simpa using hn ha
end
end Go.Mw
