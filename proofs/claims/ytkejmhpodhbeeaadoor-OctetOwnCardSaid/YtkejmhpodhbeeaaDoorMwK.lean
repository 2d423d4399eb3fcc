/-
  States as lists; contracts of functions; how a call is met by a contract.
-/
import Derived.Test.YtkejmhpodhbeeaaDoorMwJ
set_option linter.unusedSectionVars false
namespace Go.Mw

structure St where
  env : List (Nat × AV)
  heap : List (Nat × AObj)

def get : List (Nat × AV) → Nat → AV
  | [], _ => .any
  | (k, x) :: r, n => if k = n then x else get r n
def hget : List (Nat × AObj) → Nat → Option AObj
  | [], _ => none
  | (k, x) :: r, n => if k = n then some x else hget r n
def del : List (Nat × AV) → Nat → List (Nat × AV)
  | [], _ => []
  | (k, x) :: r, n => if k = n then del r n else (k, x) :: del r n
def hdel : List (Nat × AObj) → Nat → List (Nat × AObj)
  | [], _ => []
  | (k, x) :: r, n => if k = n then hdel r n else (k, x) :: hdel r n
def purE (i : Nat) : List (Nat × AV) → List (Nat × AV)
  | [] => []
  | (k, x) :: r => (k, purV i x) :: purE i r
def purH (i : Nat) : List (Nat × AObj) → List (Nat × AObj)
  | [] => []
  | (k, x) :: r => (k, purO i x) :: purH i r

def St.put (s : St) (d : Option Nat) (x : AV) : St :=
  match d with
  | some d => ⟨(d, x) :: s.env, s.heap⟩
  | none => s
def St.kill (s : St) (i : Nat) : St := ⟨purE i s.env, purH i (hdel s.heap i)⟩
def St.eff (s : St) (e : Eff) : St :=
  match e with
  | .no => s
  | .put i o => ⟨s.env, (i, o) :: hdel s.heap i⟩
  | .new i o => ⟨s.env, (i, o) :: hdel s.heap i⟩
  | .reb i o => ⟨purE i s.env, (i, o) :: purH i (hdel s.heap i)⟩
def kills : List Nat → St → St
  | [], s => s
  | i :: r, s => kills r (s.kill i)
def dels : List Nat → List (Nat × AV) → List (Nat × AV)
  | [], e => e
  | d :: r, e => dels r (del e d)

theorem get_del (n : Nat) : ∀ (l : List (Nat × AV)) (k : Nat), get (del l n) k = if k = n then .any else get l k
  | [], k => by simp [del, get]
  | (j, x) :: r, k => by
    simp only [del]
    by_cases h : j = n
    · rw [if_pos h, get_del n r k]
      subst h
      by_cases h2 : k = j
      · simp [h2]
      · simp [get, h2, Ne.symm h2]
    · rw [if_neg h]
      simp only [get]
      by_cases h2 : j = k
      · subst h2; simp [h]
      · simp only [h2, if_false, get_del n r k]
theorem hget_hdel (n : Nat) : ∀ (l : List (Nat × AObj)) (k : Nat), hget (hdel l n) k = if k = n then none else hget l k
  | [], k => by simp [hdel, hget]
  | (j, x) :: r, k => by
    simp only [hdel]
    by_cases h : j = n
    · rw [if_pos h, hget_hdel n r k]
      subst h
      by_cases h2 : k = j
      · simp [h2]
      · simp [hget, h2, Ne.symm h2]
    · rw [if_neg h]
      simp only [hget]
      by_cases h2 : j = k
      · subst h2; simp [h]
      · simp only [h2, if_false, hget_hdel n r k]
theorem get_purE (i : Nat) : ∀ (l : List (Nat × AV)) (k : Nat), get (purE i l) k = purV i (get l k)
  | [], k => by simp [purE, get, purV, mV, mG, mC, mP]
  | (j, x) :: r, k => by simp only [purE, get, get_purE i r k]; split <;> rfl
theorem hget_purH (i : Nat) : ∀ (l : List (Nat × AObj)) (k : Nat), hget (purH i l) k = (hget l k).map (purO i)
  | [], k => by simp [purH, hget]
  | (j, x) :: r, k => by simp only [purH, hget, hget_purH i r k]; split <;> rfl

def SatS (c : Ctx) (s : St) (a : Act) (w : World) : Prop := ∃ bl, SatB c bl (get s.env) (hget s.heap) a w

section
variable {P : Program} [Tabs P] {c : Ctx} [CT c P] {a : Act} {w : World} {s : St}

theorem SatS.kill (h : SatS c s a w) (i : Nat) : SatS c (s.kill i) a w := by
  obtain ⟨bl, h⟩ := h
  exact ⟨bl, (h.kill i).congr (fun k => by simp [St.kill, get_purE]) (fun j => by simp only [St.kill, hget_purH, hget_hdel]; split <;> simp)⟩

theorem SatS.kills : ∀ (l : List Nat) {s : St}, SatS c s a w → SatS c (Mw.kills l s) a w
  | [], _, h => h
  | i :: r, _, h => SatS.kills r (h.kill i)

theorem kill_unnamed (s : St) (i : Nat) : hget (s.kill i).heap i = none ∧ Unnamed i (get (s.kill i).env) (hget (s.kill i).heap) := by
  refine ⟨by simp [St.kill, hget_purH, hget_hdel], ?_⟩
  have := unnamed_purge i (get s.env) (hget s.heap)
  refine ⟨fun k => by simpa [St.kill, get_purE] using this.1 k, fun j o hj => this.2 j o ?_⟩
  rw [← hj]
  simp only [St.kill, hget_purH, hget_hdel]
  split <;> simp

/-- What a dropped slot, or a slot that was not written, holds. -/
theorem SatS.del (h : SatS c s a w) (d : Nat) : SatS c ⟨del s.env d, s.heap⟩ a w := by
  obtain ⟨bl, h⟩ := h
  exact ⟨bl, h.weaken (fun k => by rw [get_del]; split <;> simp) (fun _ _ h => h)⟩
theorem SatS.dels : ∀ (l : List Nat) {e : List (Nat × AV)} {hp : List (Nat × AObj)}, SatS c ⟨e, hp⟩ a w → SatS c ⟨Mw.dels l e, hp⟩ a w
  | [], _, _, h => h
  | d :: r, _, _, h => SatS.dels r (h.del d)

theorem sat_put {bl : Nat → Option Nat} {g : Nat → AV} {h : Nat → Option AObj} (hs : SatB c bl g h a w) (d : Option Nat) (hd : ∀ k, d = some k → k < c.n) {v : Value} {x : AV} (hv : VRel bl (Mut bl c.MF h) w v x)
    (hg : ∀ k, get s.env k = g k) (hh : ∀ j, hget s.heap j = h j) : SatS c (s.put d x) (a.put d v) w := by
  cases d with
  | none => exact ⟨bl, by simpa [St.put, Act.put] using hs.congr hg hh⟩
  | some d =>
    refine ⟨bl, (hs.put (hd d rfl) hv).congr (fun k => ?_) (fun j => by simpa [St.put] using hh j)⟩
    simp only [St.put, get, upd, get_del]
    by_cases hk : k = d
    · subst hk; simp
    · simp [hk, Ne.symm hk, hg]

theorem sat_skip (h : SatS c s a w) (d : Option Nat) (hd : ∀ k, d = some k → k < c.n) (_ : Unit) : SatS c (s.put d (.tup [])) (a.put d undef) w := by
  obtain ⟨bl, h⟩ := h
  exact sat_put h d hd (x := .tup []) ⟨[], rfl, trivial⟩ (fun _ => rfl) (fun _ => rfl)

theorem get_eff (s : St) (e : Eff) (k : Nat) : get (s.eff e).env k = e.env (get s.env) k := by
  cases e <;> simp [St.eff, Eff.env, get_purE]
theorem hget_eff (s : St) (e : Eff) (j : Nat) : hget (s.eff e).heap j = e.hp (hget s.heap) j := by
  cases e with
  | no => rfl
  | put i o => simp only [St.eff, Eff.hp, hget, upd, hget_hdel]; by_cases h : j = i <;> simp [h, eq_comm]
  | new i o => simp only [St.eff, Eff.hp, hget, upd, hget_hdel]; by_cases h : j = i <;> simp [h, eq_comm]
  | reb i o => simp only [St.eff, Eff.hp, hget, upd, hget_purH, hget_hdel]; by_cases h : j = i <;> simp [h, eq_comm]
end

/-! ### Contracts -/

def idsP : AV → List Nat
  | .ms id _ _ _ => [id]
  | .mp id _ _ _ => [id]
  | _ => []
def idsC : AV → List Nat
  | .fn _ caps => caps.flatMap idsP
  | x => idsP x
def idsG : AV → List Nat
  | .agg cells => cells.flatMap idsC
  | x => idsC x
def idsV : AV → List Nat
  | .tup vs => vs.flatMap idsG
  | x => idsG x
def idsO (o : AObj) : List Nat := if o.isRec then o.rows.flatMap (fun r => r.flatMap idsC) else []

theorem mP_ids {i : Nat} {x : AV} (h : mP i x = true) : i ∈ idsP x := by cases x <;> simp_all [mP, idsP]
theorem mC_ids {i : Nat} {x : AV} (h : mC i x = true) : i ∈ idsC x := by
  cases x with
  | fn f caps =>
    simp only [mC, List.any_eq_true] at h
    obtain ⟨y, h1, h2⟩ := h
    simp only [idsC, List.mem_flatMap]
    exact ⟨y, h1, mP_ids h2⟩
  | _ =>
    simp only [mC] at h
    simpa only [idsC] using mP_ids h
theorem mG_ids {i : Nat} {x : AV} (h : mG i x = true) : i ∈ idsG x := by
  cases x with
  | agg cells =>
    simp only [mG, List.any_eq_true] at h
    obtain ⟨y, h1, h2⟩ := h
    simp only [idsG, List.mem_flatMap]
    exact ⟨y, h1, mC_ids h2⟩
  | _ =>
    simp only [mG] at h
    simpa only [idsG] using mC_ids h
theorem mV_ids {i : Nat} {x : AV} (h : mV i x = true) : i ∈ idsV x := by
  cases x with
  | tup vs =>
    simp only [mV, List.any_eq_true] at h
    obtain ⟨y, h1, h2⟩ := h
    simp only [idsV, List.mem_flatMap]
    exact ⟨y, h1, mG_ids h2⟩
  | _ =>
    simp only [mV] at h
    simpa only [idsV] using mG_ids h

/-- All that the result and the objects name are among the objects. -/
def Closed (r : AV) (σ : List (Nat × AObj)) : Prop := (∀ i ∈ idsV r, (hget σ i).isSome = true) ∧ ∀ p ∈ σ, ∀ i ∈ idsO p.2, (hget σ i).isSome = true

/-- The blocks of some objects. -/
def Blocks (bl : Nat → Option Nat) (σ : List (Nat × AObj)) (b : Nat) : Prop := ∃ id o, hget σ id = some o ∧ bl id = some b

def ACalls (P : Program) [Tabs P] (f : FuncId) (args : List AV) (σ : List (Nat × AObj)) (Sb : Nat → Prop) (Post : AV → List (Nat × AObj) → Prop) : Prop :=
  ∀ (bl : Nat → Option Nat) (MF : Nat → Prop) (w : World) (cargs : List Value),
    (Tabs.T P).H w → (∀ b, (Tabs.T P).B b → ¬ Mut bl MF (hget σ) b) → HRel bl (Mut bl MF (hget σ)) MF w (hget σ) → (∀ b, MF b → b < w.heap.size) → All2 (VRel bl (Mut bl MF (hget σ)) w) cargs args →
    Calls P f cargs.toArray w fun e w' => ∃ v r σ' bl', e = .returned v ∧ Post r σ' ∧ Closed r σ' ∧ HRel bl' (Mut bl' MF (hget σ')) MF w' (hget σ') ∧ VRel bl' (Mut bl' MF (hget σ')) w' v r ∧
      Stp (Blocks bl σ) w w' ∧ (∀ id o b, hget σ' id = some o → bl' id = some b → w.heap.size ≤ b ∨ Blocks bl σ b) ∧ ∀ id, Sb id → bl' id = bl id

/-- A function that only computes, and hands back 'r'. -/
def PCalls (P : Program) [Tabs P] (f : FuncId) (args : List AV) (r : AV) : Prop := ACalls P f args [] (fun _ => False) fun r' σ' => r' = r ∧ σ' = []

/-- The value holds no address. -/
def flatC : AV → Bool
  | .bool _ => true
  | .int .. => true
  | .str _ => true
  | .nl => true
  | .np => true
  | .nf => true
  | .sl _ [] => true
  | _ => false
def flatG : AV → Bool
  | .agg cells => cells.all flatC
  | x => flatC x
def flatV : AV → Bool
  | .tup vs => vs.all flatG
  | x => flatG x

/-- How an argument may be handed over: as it is; nil as an empty slice; an array of the caller's own lent to be read. -/
def coe (b : Bool) (h : Nat → Option AObj) (x x' : AV) : Prop :=
  x = x' ∨ (x = .nl ∧ ∃ st, x' = .sl st []) ∨
  (b = true ∧ ∃ id st off len o, x = .ms id st off len ∧ h id = some o ∧ o.isRec = false ∧ o.st = st ∧ off + len ≤ o.rows.length ∧ x' = .sl st ((o.rows.drop off).take len))

section
variable {P : Program} [Tabs P] {c : Ctx} [CT c P] {bl : Nat → Option Nat} {g : Nat → AV} {h : Nat → Option AObj} {a : Act} {w w' : World} {M M' : Nat → Prop}

theorem flatC_rel {bl' : Nat → Option Nat} {v : Value} {x : AV} (hf : flatC x = true) (hv : CRel bl M w v x) : CRel bl' M' w' v x := by
  cases x <;> simp [flatC] at hf <;> simp only [CRel, PRel] at hv ⊢
  case sl st rows =>
    cases rows with
    | cons r l => simp [flatC] at hf
    | nil =>
      cases hv with
      | nls => exact .nls _
      | sl0 => exact .sl0 _ _ _
      | sl b off cap st c t fr rows vs => exact .sl0 _ _ _
  all_goals (cases hv; constructor)

theorem flatG_rel {bl' : Nat → Option Nat} {v : Value} {x : AV} (hf : flatG x = true) (hv : GRel bl M w v x) : GRel bl' M' w' v x := by
  cases x with
  | agg cells =>
    obtain ⟨cs, h1, h2⟩ := hv
    exact ⟨cs, h1, h2.mono fun _ y hy hr => flatC_rel (List.all_eq_true.1 hf y hy) hr⟩
  | _ =>
    simp only [flatG] at hf
    simp only [GRel] at hv ⊢
    exact flatC_rel hf hv

theorem flatV_rel {bl' : Nat → Option Nat} {v : Value} {x : AV} (hf : flatV x = true) (hv : VRel bl M w v x) : VRel bl' M' w' v x := by
  cases x with
  | any => trivial
  | tup vs =>
    obtain ⟨cs, h1, h2⟩ := hv
    exact ⟨cs, h1, h2.mono fun _ y hy hr => flatG_rel (List.all_eq_true.1 hf y hy) hr⟩
  | _ =>
    simp only [flatV] at hf
    simp only [VRel] at hv ⊢
    exact flatG_rel hf hv

/-- No old block is turned. -/
theorem SatB.grow (s : SatB c bl g h a w) (hst : Stp (fun _ => False) w w') : SatB c bl g h a w' := by
  have ht : Tr (Mut bl c.MF h) (Mut bl c.MF h) w w' := ⟨fun b hb hl => ⟨hb, hst.keep b hl (fun h => h)⟩, hst.shape⟩
  refine ⟨s.defers, s.size, fun k => (s.env k).tr ht (fun _ _ => rfl), ⟨fun id o hi => ?_, s.heap.2⟩, s.step.trans hst (fun _ _ h => h.elim), s.own, s.stab, s.mf⟩
  rcases s.heap.1 id o hi with h1 | ⟨b, h1, c1, fr, h2, h3, h4, h5, h6, h7⟩
  · exact .inl h1
  · refine .inr ⟨b, h1, c1, fr, by rw [hst.keep b (lt_of_heap h2) (fun h => h)]; exact h2, h3, h4, h5, h6, fun i j r x hr hx => ?_⟩
    obtain ⟨v, hv1, hv2⟩ := h7 i j r x hr hx
    exact ⟨v, hv1, hv2.tr ht (fun _ _ _ => rfl)⟩

theorem Mut_false (MF : Nat → Prop) (b : Nat) : Mut bl MF (hget []) b ↔ MF b := ⟨fun h => by
  rcases h with h | ⟨id, o, h, _⟩
  · exact h
  · simp [hget] at h, .inl⟩

theorem SatB.tab (s : SatB c bl g h a w) : (Tabs.T P).H w := by
  rw [← CT.eq (c := c) (P := P)]
  exact c.T.stay c.w0 w c.tH fun b hb => s.step.keep b (c.T.low _ c.tH b hb) (c.tW b hb)
theorem SatB.tabW (s : SatB c bl g h a w) (b : Nat) (hb : (Tabs.T P).B b) : ¬ Mut bl c.MF h b := by
  rw [← CT.eq (c := c) (P := P)] at hb
  rintro (hm | ⟨id, o, h1, h2⟩)
  · exact c.tM b hb hm
  rcases s.own id o b h1 h2 with h3 | h3
  · exact absurd (c.T.low _ c.tH b hb) (by omega)
  · exact c.tW b hb h3

/-- A call of a function that only computes. -/
theorem pure_call (s : SatB c bl g h a w) {f : FuncId} {cargs : List Value} {args args' : List AV} {r : AV} (hp : PCalls P f args' r) (ha : All2 (VRel bl (Mut bl c.MF h) w) cargs args) (hid : ∀ x ∈ args', idsV x = []) (b : Bool) (hc : All2 (coe b h) args args') (hf : b = true → flatV r = true) :
    Calls P f cargs.toArray w fun e w' => ∃ v, e = .returned v ∧ SatB c bl g h a w' ∧ VRel bl (Mut bl c.MF h) w' v r := by
  -- the blocks that the callee must leave out of what it reads
  let MF' : Nat → Prop := fun q => Mut bl c.MF h q ∧ (b = true → c.MF q)
  have hMF' : ∀ q, MF' q → q < w.heap.size := fun q hq => by
    rcases hq.1 with hm | ⟨id, o, h1, h2⟩
    · exact Nat.lt_of_lt_of_le (s.mf q hm) s.step.size
    · rcases s.heap.1 id o h1 with hn | ⟨b', g2, c2, fr2, g3, _⟩
      · rw [hn.2.2] at h2; cases h2
      · rw [h2] at g2; cases g2; exact lt_of_heap g3
  have hargs : All2 (VRel (fun _ => none) (Mut (fun _ => none) MF' (hget [])) w) cargs args' := by
    have key : ∀ {cs : List Value} {as as' : List AV}, All2 (VRel bl (Mut bl c.MF h) w) cs as → All2 (coe b h) as as' → (∀ x ∈ as', idsV x = []) → All2 (VRel (fun _ => none) (Mut (fun _ => none) MF' (hget [])) w) cs as' := by
      intro cs
      induction cs with
      | nil =>
        intro as as' h1 h2 _
        cases as with
        | cons => exact h1.elim
        | nil => cases as' with
          | cons => exact h2.elim
          | nil => trivial
      | cons v cs ih =>
        intro as as' h1 h2 h3
        cases as with
        | nil => exact h1.elim
        | cons x as =>
          cases as' with
          | nil => exact h2.elim
          | cons x' as' =>
            refine ⟨?_, ih h1.2 h2.2 (fun y hy => h3 y (by simp [hy]))⟩
            have ht : Tr (Mut bl c.MF h) (Mut (fun _ => none) MF' (hget [])) w w := ⟨fun q hq _ => ⟨fun hm => hq ((Mut_false MF' q).1 hm).1, rfl⟩, fun _ c1 _ _ hb => ⟨c1, hb, rfl⟩⟩
            have hno : ∀ id, mV id x' = true → (none : Option Nat) = bl id := fun id hm => by
              have := mV_ids hm
              rw [h3 x' (by simp)] at this
              simp at this
            rcases h2.1 with he | ⟨he, st, he'⟩ | ⟨hb, id, st, off, len, o, he, ho, hrec, hst, hfit, he'⟩
            · have h11 := h1.1
              rw [he] at h11
              exact h11.tr ht hno
            · rw [he']
              have h11 := h1.1
              rw [he] at h11
              have := h11.nl
              rw [this]
              exact IRel.nls st
            · have h11 := h1.1
              rw [he] at h11
              rw [he']
              have h4 : PRel bl (Mut bl c.MF h) w v (.ms id st off len) := h11
              rcases s.heap.1 id o ho with hn | ⟨bb, g2, hO⟩
              · have hlen : len = 0 := by rw [hn.1] at hfit; simp at hfit; omega
                subst hlen
                simp only [List.take_zero]
                rcases h4 with ⟨e1, _⟩ | ⟨_, _, ad, cap, e1⟩ | ⟨b', cap, c1, t, fr, e1, _⟩
                · rw [e1]; exact IRel.nls st
                · rw [e1]; exact IRel.sl0 st ad cap
                · rw [hn.2.2] at e1; cases e1
              · have hnb : ¬ Mut (fun _ => none) MF' (hget []) bb := fun hm => by
                  have := ((Mut_false MF' bb).1 hm).2 hb
                  obtain ⟨c1, fr, _, _, g4, _⟩ := hO
                  exact g4 this
                have := frzP_rel (M' := Mut (fun _ => none) MF' (hget [])) ht hnb (.inr ⟨g2, hO⟩) hrec h4
                simp only [frzP, if_true, hst, true_and, hfit] at this
                exact this
    exact key ha hc hid
  refine (hp (fun _ => none) MF' w cargs (SatB.tab (P := P) s) (fun q hq hm => SatB.tabW (P := P) s q hq ((Mut_false MF' q).1 hm).1) ⟨fun id o hi => by simp [hget] at hi, fun id id' o o' b hi => by simp [hget] at hi⟩ hMF' hargs).mono fun e w' hh => ?_
  obtain ⟨v, r', σ', bl', rfl, ⟨rfl, rfl⟩, hcl, _, hv, hst, _, _⟩ := hh
  have hst' : Stp (fun _ => False) w w' := ⟨hst.size, fun q hq _ => hst.keep q hq (fun hb => by
    obtain ⟨id, o, hi, _⟩ := hb
    simp [hget] at hi), hst.shape, hst.os, hst.out⟩
  refine ⟨v, rfl, s.grow hst', ?_⟩
  cases b with
  | true => exact flatV_rel (hf rfl) hv
  | false =>
    refine hv.tr ⟨fun q hq hl => ⟨fun hm => hq ((Mut_false MF' q).2 ⟨hm, fun h => by cases h⟩), rfl⟩, fun _ c1 _ _ hb => ⟨c1, hb, rfl⟩⟩ (fun id hm => ?_)
    have := hcl.1 id (mV_ids hm)
    simp [hget] at this
end
end Go.Mw
