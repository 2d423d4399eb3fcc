/-
  Contracts under other names of the objects; calls that hand back new objects.
-/
import Derived.Test.YtkejmhpodhbeeaaDoorMwV
set_option linter.unusedSectionVars false
namespace Go.Mw

def renP (ρ : Nat → Nat) : AV → AV
  | .ms id st off len => .ms (ρ id) st off len
  | .mp id st row off => .mp (ρ id) st row off
  | x => x
def renC (ρ : Nat → Nat) : AV → AV
  | .fn f caps => .fn f (caps.map (renP ρ))
  | x => renP ρ x
def renG (ρ : Nat → Nat) : AV → AV
  | .agg cells => .agg (cells.map (renC ρ))
  | x => renC ρ x
def renV (ρ : Nat → Nat) : AV → AV
  | .tup vs => .tup (vs.map (renG ρ))
  | x => renG ρ x
def renO (ρ : Nat → Nat) (o : AObj) : AObj := if o.isRec then { o with rows := o.rows.map (fun r => r.map (renC ρ)) } else o
def renH (ρ : Nat → Nat) : List (Nat × AObj) → List (Nat × AObj)
  | [] => []
  | (i, o) :: r => (ρ i, renO ρ o) :: renH ρ r

section
variable {P : Program} [Tabs P] {bl bl' : Nat → Option Nat} {M M' : Nat → Prop} {w : World} {ρ τ : Nat → Nat}

theorem IRel.mono {v : Value} {x : AV} (h : IRel M w v x) (hM : ∀ b, M' b → M b) : IRel M' w v x := h.tr fun b hb _ => ⟨fun h' => hb (hM b h'), rfl⟩

theorem renP_rel {v : Value} {x : AV} (h : PRel bl M w v x) (hb : ∀ i, bl' (ρ i) = bl i) (hM : ∀ b, M' b → M b) : PRel bl' M' w v (renP ρ x) := by
  cases x with
  | ms id st off len =>
    simp only [renP, PRel] at h ⊢
    rw [hb]
    exact h
  | mp id st row off =>
    simp only [renP, PRel] at h ⊢
    rw [hb]
    exact h
  | _ => exact IRel.mono h hM
theorem renC_rel {v : Value} {x : AV} (h : CRel bl M w v x) (hb : ∀ i, bl' (ρ i) = bl i) (hM : ∀ b, M' b → M b) : CRel bl' M' w v (renC ρ x) := by
  cases x with
  | fn f caps =>
    obtain ⟨cs, h1, h2⟩ := h
    exact ⟨cs, h1, h2.mapRight fun _ _ hr => renP_rel hr hb hM⟩
  | _ => simp only [CRel] at h; exact renP_rel (ρ := ρ) h hb hM
theorem renG_rel {v : Value} {x : AV} (h : GRel bl M w v x) (hb : ∀ i, bl' (ρ i) = bl i) (hM : ∀ b, M' b → M b) : GRel bl' M' w v (renG ρ x) := by
  cases x with
  | agg cells =>
    obtain ⟨cs, h1, h2⟩ := h
    exact ⟨cs, h1, h2.mapRight fun _ _ hr => renC_rel hr hb hM⟩
  | _ => simp only [GRel] at h; exact renC_rel (ρ := ρ) h hb hM
theorem renV_rel {v : Value} {x : AV} (h : VRel bl M w v x) (hb : ∀ i, bl' (ρ i) = bl i) (hM : ∀ b, M' b → M b) : VRel bl' M' w v (renV ρ x) := by
  cases x with
  | any => trivial
  | tup vs =>
    obtain ⟨cs, h1, h2⟩ := h
    exact ⟨cs, h1, h2.mapRight fun _ _ hr => renG_rel hr hb hM⟩
  | _ => simp only [VRel] at h; exact renG_rel (ρ := ρ) h hb hM

theorem renO_t (o : AObj) : (renO ρ o).t = o.t := by unfold renO; split <;> rfl
theorem renO_st (o : AObj) : (renO ρ o).st = o.st := by unfold renO; split <;> rfl
theorem renO_rec (o : AObj) : (renO ρ o).isRec = o.isRec := by unfold renO; split <;> rfl

theorem hget_renH (h1 : ∀ i, τ (ρ i) = i) (h2 : ∀ i, ρ (τ i) = i) : ∀ (σ : List (Nat × AObj)) (i : Nat), hget (renH ρ σ) i = (hget σ (τ i)).map (renO ρ)
  | [], i => rfl
  | (k, o) :: r, i => by
    simp only [renH, hget, hget_renH h1 h2 r i]
    by_cases h : ρ k = i
    · rw [if_pos h, if_pos (by rw [← h, h1])]; rfl
    · rw [if_neg h, if_neg (fun hk => h (by rw [hk, h2]))]

theorem renO_rel {MF : Nat → Prop} {o : AObj} {b : Nat} (h : OBlock bl M MF w o b) (hb : ∀ i, bl' (ρ i) = bl i) (hM : ∀ b, M' b → M b) : OBlock bl' M' MF w (renO ρ o) b := by
  obtain ⟨c1, fr, h2, h3, h4, h5, h6, h7⟩ := h
  refine ⟨c1, fr, by rw [renO_t]; exact h2, h3, h4, fun k r hr => ?_, ?_, fun k q r x hr hx => ?_⟩
  · rw [renO_st]
    unfold renO at hr
    split at hr
    · simp only [List.getElem?_map, Option.map_eq_some_iff] at hr
      obtain ⟨r0, h8, rfl⟩ := hr
      simpa using h5 k r0 h8
    · exact h5 k r hr
  · rw [renO_st]
    unfold renO
    split <;> simpa using h6
  · rw [renO_st, renO_rec]
    unfold renO at hr
    split at hr
    · rename_i hrc
      simp only [List.getElem?_map, Option.map_eq_some_iff] at hr
      obtain ⟨r0, h8, rfl⟩ := hr
      simp only [List.getElem?_map, Option.map_eq_some_iff] at hx
      obtain ⟨x0, h9, rfl⟩ := hx
      obtain ⟨u, hu1, hu2⟩ := h7 k q r0 x0 h8 h9
      rw [hrc] at hu2 ⊢
      exact ⟨u, hu1, renC_rel hu2 hb hM⟩
    · rename_i hrc
      obtain ⟨u, hu1, hu2⟩ := h7 k q r x hr hx
      have hrc' : o.isRec = false := by simpa using hrc
      rw [hrc'] at hu2 ⊢
      exact ⟨u, hu1, IRel.mono hu2 hM⟩

theorem renH_rel {MF : Nat → Prop} {σ : List (Nat × AObj)} (h1 : ∀ i, τ (ρ i) = i) (h2 : ∀ i, ρ (τ i) = i) (h : HRel bl M MF w (hget σ)) (hb : ∀ i, bl' (ρ i) = bl i) (hM : ∀ b, M' b → M b) : HRel bl' M' MF w (hget (renH ρ σ)) := by
  have hs : ∀ {i o}, hget (renH ρ σ) i = some o → ∃ o0, hget σ (τ i) = some o0 ∧ o = renO ρ o0 := fun {i o} hi => by
    rw [hget_renH h1 h2] at hi
    simp only [Option.map_eq_some_iff] at hi
    obtain ⟨o0, h3, h4⟩ := hi
    exact ⟨o0, h3, h4.symm⟩
  have hbt : ∀ i, bl' i = bl (τ i) := fun i => by rw [← hb, h2]
  refine ⟨fun i o hi => ?_, fun i i' o o' b hi hi' q q' => ?_⟩
  · obtain ⟨o0, h3, rfl⟩ := hs hi
    rcases h.1 _ o0 h3 with hn | ⟨b, h4, h5⟩
    · refine .inl ⟨?_, by rw [renO_rec]; exact hn.2.1, by rw [hbt]; exact hn.2.2⟩
      unfold renO
      rw [hn.2.1]
      exact hn.1
    · exact .inr ⟨b, by rw [hbt]; exact h4, renO_rel h5 hb hM⟩
  · obtain ⟨o0, h3, _⟩ := hs hi
    obtain ⟨o1, h4, _⟩ := hs hi'
    have := h.2 _ _ _ _ b h3 h4 (by rw [← hbt]; exact q) (by rw [← hbt]; exact q')
    rw [← h2 i, ← h2 i', this]

theorem renH_mut {MF : Nat → Prop} {σ : List (Nat × AObj)} (h1 : ∀ i, τ (ρ i) = i) (h2 : ∀ i, ρ (τ i) = i) (hb : ∀ i, bl' (ρ i) = bl i) (b : Nat) (h : Mut bl' MF (hget (renH ρ σ)) b) : Mut bl MF (hget σ) b := by
  rcases h with h | ⟨i, o, h3, h4⟩
  · exact .inl h
  · rw [hget_renH h1 h2] at h3
    simp only [Option.map_eq_some_iff] at h3
    obtain ⟨o0, h5, _⟩ := h3
    exact .inr ⟨_, o0, h5, by rw [← hb, h2]; exact h4⟩
theorem renH_blk {σ : List (Nat × AObj)} (h1 : ∀ i, τ (ρ i) = i) (h2 : ∀ i, ρ (τ i) = i) (hb : ∀ i, bl' (ρ i) = bl i) (b : Nat) (h : Blocks bl' (renH ρ σ) b) : Blocks bl σ b := by
  obtain ⟨i, o, h3, h4⟩ := h
  rw [hget_renH h1 h2] at h3
  simp only [Option.map_eq_some_iff] at h3
  obtain ⟨o0, h5, _⟩ := h3
  exact ⟨_, o0, h5, by rw [← hb, h2]; exact h4⟩

theorem idsP_ren (x : AV) : idsP (renP ρ x) = (idsP x).map ρ := by cases x <;> rfl
theorem flatMap_ren {f g : AV → List Nat} {r : AV → AV} (h : ∀ x, f (r x) = (g x).map ρ) : ∀ l : List AV, (l.map r).flatMap f = (l.flatMap g).map ρ
  | [] => rfl
  | x :: l => by simp only [List.map_cons, List.flatMap_cons, flatMap_ren h l, h, List.map_append]
theorem idsC_ren (x : AV) : idsC (renC ρ x) = (idsC x).map ρ := by
  cases x with
  | fn f caps => exact flatMap_ren idsP_ren caps
  | _ => rfl
theorem idsG_ren (x : AV) : idsG (renG ρ x) = (idsG x).map ρ := by
  cases x with
  | agg cells => exact flatMap_ren idsC_ren cells
  | fn f caps => exact flatMap_ren idsP_ren caps
  | _ => rfl
theorem idsV_ren (x : AV) : idsV (renV ρ x) = (idsV x).map ρ := by
  cases x with
  | tup vs => exact flatMap_ren idsG_ren vs
  | agg cells => exact flatMap_ren idsC_ren cells
  | fn f caps => exact flatMap_ren idsP_ren caps
  | _ => rfl
theorem idsO_ren (o : AObj) : idsO (renO ρ o) = (idsO o).map ρ := by
  unfold idsO
  rw [renO_rec]
  split
  · rename_i h
    simp only [renO, h, if_true]
    generalize o.rows = l
    induction l with
    | nil => rfl
    | cons r l ih => simp only [List.map_cons, List.flatMap_cons, ih, List.map_append]; congr 1; exact flatMap_ren idsC_ren r
  · rfl

theorem mem_renH : ∀ {σ : List (Nat × AObj)} {p : Nat × AObj}, p ∈ renH ρ σ → ∃ q ∈ σ, p = (ρ q.1, renO ρ q.2)
  | [], _, h => by cases h
  | (i, o) :: r, p, h => by
    simp only [renH, List.mem_cons] at h
    rcases h with h | h
    · exact ⟨(i, o), by simp, h⟩
    · obtain ⟨q, h1, h2⟩ := mem_renH h
      exact ⟨q, by simp [h1], h2⟩

theorem Closed.ren {r : AV} {σ : List (Nat × AObj)} (h1 : ∀ i, τ (ρ i) = i) (h2 : ∀ i, ρ (τ i) = i) (h : Closed r σ) : Closed (renV ρ r) (renH ρ σ) := by
  have key : ∀ {i}, (hget σ i).isSome = true → (hget (renH ρ σ) (ρ i)).isSome = true := fun {i} hi => by
    rw [hget_renH h1 h2, h1]
    simpa using hi
  refine ⟨fun i hi => ?_, fun p hp i hi => ?_⟩
  · rw [idsV_ren, List.mem_map] at hi
    obtain ⟨j, h3, rfl⟩ := hi
    exact key (h.1 j h3)
  · obtain ⟨q, h3, rfl⟩ := mem_renH hp
    simp only [idsO_ren, List.mem_map] at hi
    obtain ⟨j, h4, rfl⟩ := hi
    exact key (h.2 q h3 j h4)

/-- A contract under other names. -/
theorem ACalls.ren {f : FuncId} {args args2 : List AV} {σ σ2 : List (Nat × AObj)} {Sb : Nat → Prop} {Post : AV → List (Nat × AObj) → Prop} (h : ACalls P f args σ Sb Post) (ρ τ : Nat → Nat) (h1 : ∀ i, τ (ρ i) = i) (h2 : ∀ i, ρ (τ i) = i)
    (ha : args2.map (renV τ) = args) (hσ : renH τ σ2 = σ) : ACalls P f args2 σ2 (fun id => Sb (τ id)) (fun r σ' => ∃ r0 σ0, Post r0 σ0 ∧ r = renV ρ r0 ∧ σ' = renH ρ σ0) := by
  intro bl MF w cargs hTH hTW hH hMF hargs
  subst ha hσ
  have hb : ∀ i, (fun i => bl (ρ i)) (τ i) = bl i := fun i => by simp only [h2]
  have hmut : ∀ b, Mut (fun i => bl (ρ i)) MF (hget (renH τ σ2)) b → Mut bl MF (hget σ2) b := fun b hm => renH_mut h2 h1 hb b hm
  have hblk : ∀ b, Blocks (fun i => bl (ρ i)) (renH τ σ2) b → Blocks bl σ2 b := fun b hm => renH_blk h2 h1 hb b hm
  refine (h (fun i => bl (ρ i)) MF w cargs hTH (fun b hb hB => hTW b hb (hmut b hB)) (renH_rel h2 h1 hH hb hmut) hMF (hargs.mapRight fun _ _ hr => renV_rel hr hb hmut)).mono fun e w' => ?_
  rintro ⟨v, r, σ', bl', rfl, hp, hc, hH', hv, hst, hnew, hsb⟩
  have hb' : ∀ i, (fun i => bl' (τ i)) (ρ i) = bl' i := fun i => by simp only [h1]
  have hmut' : ∀ b, Mut (fun i => bl' (τ i)) MF (hget (renH ρ σ')) b → Mut bl' MF (hget σ') b := fun b hm => renH_mut h1 h2 hb' b hm
  refine ⟨v, renV ρ r, renH ρ σ', fun i => bl' (τ i), rfl, ⟨r, σ', hp, rfl, rfl⟩, hc.ren h1 h2, renH_rel h1 h2 hH' hb' hmut', renV_rel hv hb' hmut', ?_, fun id o b hi hq => ?_, fun id hid => ?_⟩
  · exact ⟨hst.size, fun b hlt hn => hst.keep b hlt fun hh => hn (hblk b hh), hst.shape, hst.os, hst.out⟩
  · rw [hget_renH h1 h2] at hi
    simp only [Option.map_eq_some_iff] at hi
    obtain ⟨o0, h5, _⟩ := hi
    exact (hnew _ o0 b h5 hq).imp_right (hblk b)
  · show bl' (τ id) = bl id
    rw [hsb _ hid]
    exact hb id

/-- Two names exchanged. -/
def swp (a b i : Nat) : Nat := if i = a then b else if i = b then a else i
theorem swp_swp (a b i : Nat) : swp a b (swp a b i) = i := by
  unfold swp
  by_cases h1 : i = a <;> by_cases h2 : i = b <;> simp [h1, h2] <;> (try split) <;> simp_all

/-- A new array handed back, under any name. -/
theorem ACalls.fresh {f : FuncId} {args : List AV} {Sb : Nat → Prop} {id st off len : Nat} {o : AObj} (h : ACalls P f args [] Sb (fun r σ' => r = .ms id st off len ∧ σ' = [(id, o)])) (ho : o.isRec = false) (hargs : ∀ x ∈ args, idsV x = []) (j : Nat) :
    ACalls P f args [] (fun _ => False) (fun r σ' => r = .ms j st off len ∧ σ' = [(j, o)]) := by
  have hren : ∀ x : AV, idsV x = [] → renV (swp id j) x = x := by
    have hP : ∀ x : AV, idsP x = [] → renP (swp id j) x = x := fun x hx => by cases x <;> first | rfl | (simp [idsP] at hx)
    have hL : ∀ {f : AV → List Nat} {r : AV → AV}, (∀ x, f x = [] → r x = x) → ∀ l : List AV, l.flatMap f = [] → l.map r = l := fun {f r} hh l => by
      induction l with
      | nil => exact fun _ => rfl
      | cons y l ih =>
        intro hl
        simp only [List.flatMap_cons, List.append_eq_nil_iff] at hl
        simp only [List.map_cons, hh y hl.1, ih hl.2]
    have hC : ∀ x : AV, idsC x = [] → renC (swp id j) x = x := fun x hx => by
      cases x with
      | fn f caps => simp only [renC, hL hP caps hx]
      | _ => first | rfl | (simp [idsC, idsP] at hx)
    have hG : ∀ x : AV, idsG x = [] → renG (swp id j) x = x := fun x hx => by
      cases x with
      | agg cells => simp only [renG, hL hC cells hx]
      | fn f caps => exact hC (.fn f caps) hx
      | _ => first | rfl | (simp [idsG, idsC, idsP] at hx)
    intro x hx
    cases x with
    | tup vs => simp only [renV, hL hG vs hx]
    | agg cells => exact hG (.agg cells) hx
    | fn f caps => exact hG (.fn f caps) hx
    | _ => first | rfl | (simp [idsV, idsG, idsC, idsP] at hx)
  have hmap : ∀ l : List AV, (∀ x ∈ l, idsV x = []) → l.map (renV (swp id j)) = l := fun l => by
    induction l with
    | nil => exact fun _ => rfl
    | cons y l ih => intro hl; simp only [List.map_cons, hren y (hl y (by simp)), ih fun x hx => hl x (by simp [hx])]
  refine (h.ren (args2 := args) (σ2 := []) (swp id j) (swp id j) (swp_swp _ _) (swp_swp _ _) (hmap args hargs) rfl).mono (fun _ hf => hf.elim) ?_
  rintro r σ' ⟨r0, σ0, ⟨rfl, rfl⟩, rfl, rfl⟩
  have hs : swp id j id = j := by simp [swp]
  refine ⟨by simp only [renV, renG, renC, renP, hs], ?_⟩
  simp only [renH, hs, renO, ho]
  rfl

theorem purLV_one (i : Nat) (x : AV) : purLV [i] x = purV i x := by simp [purLV, purV]
theorem purLO_one (i : Nat) (o : AObj) : purLO [i] o = purO i o := by
  unfold purLO purO purLC purC
  simp

/-- A call that hands back a new array: it gets a name that is free. -/
theorem call_new {f : FuncId} {args : List AV} {d : Option Nat} {s : St} {K : St → Prop} {Sb : Nat → Prop} {id st off len : Nat} {o : AObj} (h : ACalls P f args [] Sb (fun r σ' => r = .ms id st off len ∧ σ' = [(id, o)])) (ho : o.isRec = false) (hargs : ∀ x ∈ args, idsV x = [])
    (j : Nat) (hj : j < 1000 ∨ 2000 ≤ j) (hfree : hget s.heap j = none) (hk : K ((St.mk (purE j s.env) ((j, o) :: purH j s.heap)).put d (.ms j st off len))) : icall P f args d s K := by
  refine .inl (.inr ⟨[], fun _ => False, fun r σ' => r = .ms j st off len ∧ σ' = [(j, o)], [j], h.fresh ho hargs j, fun _ _ hh => by simp [hget] at hh, ?_, ?_⟩)
  · rintro r σ' ⟨rfl, rfl⟩ i hi
    simp only [hget] at hi
    split at hi
    · rename_i hji
      subst hji
      exact .inr ⟨by simp, hj, .inr hfree⟩
    · cases hi
  · rintro r σ' ⟨rfl, rfl⟩
    refine ⟨⟨purE j s.env, (j, o) :: purH j s.heap⟩, fun k => ?_, fun i => ?_, hk⟩
    · simp only [get_purE, purLV_one]
    · simp only [mrg, hget]
      split
      · rfl
      · simp only [hget_purH, Option.isSome_none, Bool.false_eq_true, if_false]
        congr 1
        funext o'
        exact (purLO_one j o').symm
end
end Go.Mw
