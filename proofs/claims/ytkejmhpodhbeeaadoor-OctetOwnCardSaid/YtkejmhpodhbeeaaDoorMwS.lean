/-
  What the abstract weakest precondition says holds of the machine: open orders, all code, functions.
-/
import Derived.Test.YtkejmhpodhbeeaaDoorMwR
set_option linter.unusedSectionVars false
namespace Go.Mw

section
variable {P : Program} [Tabs P] {c : Ctx} [CT c P] {a : Act} {w : World} {o : Oper} {io : IOper} {ops : Array Oper} {n : Nat}

/-- One step of the machine. -/
theorem step_sound {g g' : Nat → AV} {h h' : Nat → Option AObj} {ev : Option (AV × Eff)} {x : HI} {bl : Nat → Option Nat} (hc : cOper P n ops o = some io) (hn : c.n = n) (hst : StepC P io g h ev x g' h') (hs : SatB c bl g h a w)
    (hnew : allocs io.op = true → h (io.dst.getD 0) = none ∧ Unnamed (io.dst.getD 0) g h ∧ (io.dst.getD 0 < 1000 ∨ 2000 ≤ io.dst.getD 0)) {K : Act → World → Prop} {Q : Exit → Act → World → Prop}
    (hK : ∀ a' w' bl', SatB c bl' g' h' a' w' → K a' w') : if Region.wanted o (yielded ops a.tmps) then o.wp P a w K Q ∨ (o.asks P a w ∧ LetsOut Q) else K (a.put o.dst undef) w := by
  obtain ⟨h1, h2, h3, h4⟩ := cOper_spec hc
  have hd : ∀ k, io.dst = some k → k < c.n := fun k hk => by rw [hn]; exact h3 k (h2 ▸ hk)
  have putB : ∀ {bl : Nat → Option Nat} {g : Nat → AV} {h : Nat → Option AObj} {w : World} {v : Value} {y : AV}, SatB c bl g h a w → VRel bl (Mut bl c.MF h) w v y → SatB c bl (putF g io.dst y) h (a.put o.dst v) w := fun {bl g h w v y} hsb hv => by
    rw [← h2]
    cases hdd : io.dst with
    | none => exact hsb
    | some d => exact hsb.put (hd d hdd) hv
  have hwant : ∀ k b t, io.g = some (k, b) → g k = .bool t → Region.wanted o (yielded ops a.tmps) = (t == b) := fun k b t hg hv => by
    rcases h4 with ⟨_, g2⟩ | ⟨j, b', k', g1, g2, g3⟩
    · rw [g2] at hg; cases hg
    · rw [g3] at hg
      cases hg
      have hk := hs.env k
      rw [hv] at hk
      have hkv := hk.bool
      rw [(tv_lo' (a := a) (k := k) (fun b hb => by rw [hb] at hkv; cases hkv)).2] at hkv
      have hkn : k < a.tmps.size := by
        rcases Nat.lt_or_ge k a.tmps.size with hlt | hge
        · exact hlt
        · rw [Array.getD_eq_getD_getElem?, Array.getElem?_eq_none hge] at hkv
          cases hkv
      have hy : yielded ops a.tmps j = some t := by
        have : a.tmps[k]? = some (.bool t) := by
          rw [Array.getD_eq_getD_getElem?, Array.getElem?_eq_getElem hkn] at hkv
          rw [Array.getElem?_eq_getElem hkn]
          simpa using hkv
        simp [yielded, g2, this]
      simp only [Region.wanted, g1, hy]
      cases t <;> cases b <;> rfl
  cases ev with
  | none =>
    obtain ⟨⟨k, b, hg, hv⟩, rfl, rfl, _⟩ := hst
    have hnw : ¬ Region.wanted o (yielded ops a.tmps) = true := by
      rcases hv with hv | hv
      · rw [hwant k b _ hg hv]; cases b <;> simp
      · rcases h4 with ⟨_, g2⟩ | ⟨j, b', k', g1, g2, g3⟩
        · rw [g2] at hg; cases hg
        · rw [g3] at hg
          cases hg
          have hk := hs.env k
          rw [hv] at hk
          simp [Region.wanted, g1, yielded_undef (ops := ops) g2 hk]
    rw [if_neg hnw]
    exact hK _ _ _ (putB hs (y := .tup []) ⟨[], rfl, trivial⟩)
  | some p =>
    obtain ⟨v, e⟩ := p
    obtain ⟨hgd, hf⟩ := hst
    have hw : Region.wanted o (yielded ops a.tmps) = true := by
      rcases h4 with ⟨g1, _⟩ | ⟨j, b', k', g1, g2, g3⟩
      · simp [Region.wanted, g1]
      · rw [hwant k' b' b' g3 (hgd k' b' g3)]; simp
    rw [if_pos hw]
    refine .inl ?_
    have hr := hf.run
    unfold Run at hr
    split at hr
    · rename_i f args hop
      rw [hop] at h1
      obtain ⟨cl, hoo, hcl, hb, hv⟩ := cOp_call h1
      rcases hr with ⟨rfl, _, args', b, q1, q2, q3, q4⟩ | ⟨k, ob, ob', Sb, rfl, q1, q2, q3, q4, _⟩
      rotate_left
      · refine upon_calls (f := f) (args := cl.args.map a.eval) ?_ ?_
        · have := hasBody_run (w := w) hb (cl.args.map a.eval)
          simp [execOp, hoo, resolve, hcl, Act.eval, Deferred.ofValue, invoke, this]
        · have hσ : ∀ id o, hget [(k, ob)] id = some o → h id = some o := fun id o hi => by
            simp only [hget] at hi
            split at hi
            · rename_i hki; subst hki; cases hi; exact q4
            · cases hi
          have := obj_call hs q2 (call_args hs hv) hσ [] (fun r σ' hP id hid => by
            obtain ⟨rfl, rfl⟩ := hP
            simp only [hget] at hid
            split at hid
            · rename_i hki; subst hki; exact .inl ⟨q3, by simp [hget]⟩
            · cases hid)
          simp only [Array.toArray_toList] at this
          refine this.mono fun e' w' ⟨u, r, σ', bl2, he, hP, hs', hv'⟩ => ⟨u, he, ?_⟩
          obtain ⟨rfl, rfl⟩ := hP
          have eg : (fun j => purLV [] (g j)) = g := by funext j; simp [purLV]
          have eh : mrg [] (hget [(k, ob)]) (hget [(k, ob')]) h = (Eff.put k ob').hp h := by
            funext j
            simp only [mrg, hget, Eff.hp, upd]
            by_cases hj : k = j
            · subst hj; simp
            · have hj' : ¬ j = k := fun e => hj e.symm
              have : purLO [] = id := by funext o; unfold purLO purLC; simp
              simp [hj, hj', this]
          rw [eg, eh] at hs'
          rw [eh] at hv'
          refine hK _ _ bl2 ?_
          rw [hf.hg, hf.hh]
          exact putB hs' hv'
      refine upon_calls (f := f) (args := cl.args.map a.eval) ?_ ?_
      · have := hasBody_run (w := w) hb (cl.args.map a.eval)
        simp [execOp, hoo, resolve, hcl, Act.eval, Deferred.ofValue, invoke, this]
      · have := pure_call hs q1 (call_args hs hv) q2 b q3 q4
        simp only [Array.toArray_toList] at this
        refine this.mono fun e' w' ⟨u, he, hs', hv'⟩ => ⟨u, he, ?_⟩
        refine hK _ _ bl ?_
        rw [hf.hg, hf.hh]
        exact putB hs' hv'
    · exact hr.elim
    · refine upon_ok (aev_ok hs h1 hr hnew) (fun r w' bl' q1 q2 => hK _ _ bl' ?_)
      rw [hf.hg, hf.hh]
      exact putB q1 q2

theorem ready_iff {listed : Array Bool} {i : Nat} : i ∈ Region.ready .any ops listed ↔ i < ops.size ∧ listed.getD i true = false ∧ ∃ o, ops[i]? = some o ∧ ∀ d ∈ edges o, listed.getD d false = true := by
  unfold Region.ready
  simp only [List.mem_filter, List.mem_range, Bool.and_eq_true, Bool.not_eq_true']
  refine ⟨fun ⟨h1, h2, h3⟩ => ⟨h1, h2, ops[i], Array.getElem?_eq_getElem h1, ?_⟩, fun ⟨h1, h2, o, h3, h4⟩ => ⟨h1, h2, ?_⟩⟩
  · rw [Array.getElem?_eq_getElem h1] at h3
    simp only [Option.map_some, Option.getD_some, Array.all_eq_true_iff_forall_mem, Bool.or_eq_true, Bool.not_eq_true'] at h3
    intro d hd
    simp only [edges, List.mem_map, List.mem_filter, Array.mem_toList_iff] at hd
    obtain ⟨e, ⟨he1, he2⟩, rfl⟩ := hd
    rcases h3 e he1 with h5 | h5
    · rw [he2] at h5; cases h5
    · exact h5
  · rw [h3]
    simp only [Option.map_some, Option.getD_some, Array.all_eq_true_iff_forall_mem, Bool.or_eq_true, Bool.not_eq_true']
    intro e he
    cases hb : Region.binds .any e with
    | false => exact .inl rfl
    | true =>
      refine .inr (h4 e.on ?_)
      simp only [edges, List.mem_map, List.mem_filter, Array.mem_toList_iff]
      exact ⟨e, ⟨he, hb⟩, rfl⟩

/-- The orders, as they were reckoned. -/
structure OrdSpec (ops : Array Oper) (bs : List (List Nat)) : Prop where
  lt : ∀ i o, ops[i]? = some o → ∀ d ∈ edges o, d < i
  via : ∀ i o, ops[i]? = some o → ∀ d ∈ bs.getD i [], d ∈ edges o ∨ ∃ m ∈ edges o, d ∈ bs.getD m []

theorem ordOk_spec {bs : List (List Nat)} (h : ordOk ops.toList bs = true) : OrdSpec ops bs := by
  have key : ∀ i o, ops[i]? = some o → (∀ d ∈ edges o, d < i) ∧ ∀ d ∈ bs.getD i [], d ∈ edges o ∨ ∃ m ∈ edges o, d ∈ bs.getD m [] := fun i o hi => by
    have hlt : i < ops.toList.length := by
      have := (Array.getElem?_eq_some_iff.1 hi).1
      simpa using this
    have := List.all_eq_true.1 h i (List.mem_range.2 hlt)
    have hi' : ops.toList[i]? = some o := by rw [Array.getElem?_toList]; exact hi
    simp only [hi', Bool.and_eq_true, List.all_eq_true, decide_eq_true_eq, Bool.or_eq_true, List.any_eq_true, List.contains_eq_mem] at this
    exact this
  exact ⟨fun i o hi => (key i o hi).1, fun i o hi => (key i o hi).2⟩

theorem OrdSpec.bef_lt {bs : List (List Nat)} (hO : OrdSpec ops bs) : ∀ (i : Nat) (o : Oper), ops[i]? = some o → ∀ d ∈ bs.getD i [], d < i := by
  intro i
  induction i using Nat.strongRecOn with
  | _ i ih =>
    intro o hi d hd
    rcases hO.via i o hi d hd with h1 | ⟨m, h1, h2⟩
    · exact hO.lt i o hi d h1
    · have hm := hO.lt i o hi m h1
      have hms : m < ops.size := Nat.lt_trans hm (Array.getElem?_eq_some_iff.1 hi).1
      have := ih m hm ops[m] (Array.getElem?_eq_getElem hms) d h2
      omega

theorem OrdSpec.listed {bs : List (List Nat)} (hO : OrdSpec ops bs) {p : Nat → Prop} (hdc : ∀ i o, p i → ops[i]? = some o → ∀ d ∈ edges o, p d) : ∀ (i : Nat) (o : Oper), ops[i]? = some o → (∀ d ∈ edges o, p d) → ∀ d ∈ bs.getD i [], p d := by
  intro i
  induction i using Nat.strongRecOn with
  | _ i ih =>
    intro o hi he d hd
    rcases hO.via i o hi d hd with h1 | ⟨m, h1, h2⟩
    · exact he d h1
    · have hm := hO.lt i o hi m h1
      have hms : m < ops.size := Nat.lt_trans hm (Array.getElem?_eq_some_iff.1 hi).1
      exact ih m hm ops[m] (Array.getElem?_eq_getElem hms) (hdc m _ (he m h1) (Array.getElem?_eq_getElem hms)) d h2

/-- Any order. -/
theorem any_sound (hn : c.n = n) {al : List (Nat × Nat)} (hone : AlOne al) (hal : ∀ d m, (d, m) ∈ al → d < 1000) {bs : List (List Nat)} (hO : OrdSpec ops bs) {gf : Nat → AV} {hf : Nat → Option AObj} {Q : Exit → Act → World → Prop}
    (hQ : ∀ a w bl, SatB c bl gf hf a w → Q .normal a w) : ∀ (fuel : Nat) (R : List Item) (listed : Array Bool) (g : Nat → AV) (h : Nat → Option AObj) (a : Act) (w : World) (bl : Nat → Option Nat), R.length = fuel → listed.size = ops.size →
      SatB c bl g h a w → T P R g h gf hf → Un al (fun m => ∃ t ∈ R, t.i = m) g h →
      (∀ j, j < ops.size → (listed.getD j true = false ↔ ∃ t ∈ R, t.i = j)) →
      (∀ i o, listed.getD i false = true → ops[i]? = some o → ∀ d ∈ edges o, listed.getD d false = true) →
      (∀ t ∈ R, ∃ o, ops[t.i]? = some o ∧ cOper P n ops o = some t.o ∧ t.bef = bs.getD t.i [] ∧ constOk t.o.op = true ∧ (allocs t.o.op = true → (t.o.dst.getD 0, t.i) ∈ al) ∧
        (∀ d, d ∈ idsV (evV t.ev) ∨ d ∈ (evE t.ev).ids → ∀ m, (d, m) ∈ al → m = t.i ∨ m ∈ t.bef)) →
      R.Pairwise (fun m t => m.i < t.i ∧ (m.i ∈ t.bef ∨ (Apart m.o t.o ∧ Meet t.x m.x))) → wpAny P .any ops Q fuel listed a w := by
  intro fuel
  induction fuel with
  | zero =>
    intro R listed g h a w bl hlen hsz hs ht hu hli hdc hit hpw
    have hR : R = [] := List.length_eq_zero_iff.1 hlen
    subst hR
    obtain ⟨rfl, rfl⟩ := ht
    refine ⟨?_, hQ a w bl hs⟩
    refine List.eq_nil_iff_forall_not_mem.2 fun i hi => ?_
    obtain ⟨h1, h2, _⟩ := ready_iff.1 hi
    obtain ⟨t, ht, _⟩ := (hli i h1).1 h2
    cases ht
  | succ fuel ih =>
    intro R listed g h a w bl hlen hsz hs ht hu hli hdc hit hpw
    have hgetD : ∀ j, j < ops.size → listed.getD j true = listed.getD j false := fun j hj => by
      have : j < listed.size := by omega
      simp [Array.getD_eq_getD_getElem?, Array.getElem?_eq_getElem this]
    refine ⟨fun hr => ?_, fun i hi => ?_⟩
    · -- the first that is left may come up
      exfalso
      cases R with
      | nil => simp at hlen
      | cons t R =>
        obtain ⟨o, h1, _⟩ := hit t (by simp)
        have hlt := (Array.getElem?_eq_some_iff.1 h1).1
        have : t.i ∈ Region.ready .any ops listed := ready_iff.2 ⟨hlt, (hli t.i hlt).2 ⟨t, by simp, rfl⟩, o, h1, fun d hd => by
          have hdl := hO.lt t.i o h1 d hd
          have hds : d < ops.size := by omega
          cases hv : listed.getD d false with
          | true => rfl
          | false =>
            rw [← hgetD d hds] at hv
            obtain ⟨q, hq, hqi⟩ := (hli d hds).1 hv
            rcases List.mem_cons.1 hq with rfl | hq
            · omega
            · have := ((List.pairwise_cons.1 hpw).1 q hq).1
              omega⟩
        rw [hr] at this
        cases this
    · obtain ⟨h1, h2, o, h3, h4⟩ := ready_iff.1 hi
      obtain ⟨t, htR, hti⟩ := (hli i h1).1 h2
      subst hti
      obtain ⟨A, B, rfl⟩ := List.append_of_mem htR
      obtain ⟨o', q1, q2, q3, q4, q5, q6⟩ := hit t (by simp)
      rw [h3] at q1
      cases q1
      have hbef : ∀ d ∈ t.bef, listed.getD d false = true := by
        rw [q3]
        exact hO.listed hdc t.i o h3 h4
      have hpA : ∀ m ∈ A, m.i < t.i ∧ (m.i ∈ t.bef ∨ (Apart m.o t.o ∧ Meet t.x m.x)) := fun m hm => (List.pairwise_append.1 hpw).2.2 m hm t (by simp)
      have hun : ∀ m ∈ A ++ B, m.i ≠ t.i := fun m hm => by
        rcases List.mem_append.1 hm with hm | hm
        · have := (hpA m hm).1; omega
        · have := ((List.pairwise_cons.1 (List.pairwise_append.1 hpw).2.1).1 m hm).1; omega
      have hnot : ∀ m ∈ A ++ t :: B, listed.getD m.i false = false := fun m hm => by
        obtain ⟨om, hom, _⟩ := hit m hm
        have hl := (Array.getElem?_eq_some_iff.1 hom).1
        rw [← hgetD m.i hl]
        exact (hli m.i hl).2 ⟨m, hm, rfl⟩
      obtain ⟨g1, hh1, hst, hT⟩ := front A t B g h gf hf ht (fun m hm => by
        rcases (hpA m hm).2 with hb | hb
        · have := hbef m.i hb
          rw [hnot m (by simp [hm])] at this
          cases this
        · exact hb) (fun m hm => by obtain ⟨_, _, _, _, q, _⟩ := hit m (by simp [hm]); exact q) q4
      unfold wpOp
      rw [h3]
      simp only
      have hu' : Un al (fun m => ∃ q ∈ A ++ B, q.i = m) g1 hh1 := Un.step hst hu q4 q6 (fun m hm ⟨q, hq, hqi⟩ => by
        have := hbef m hm
        rw [← hqi, hnot q hq] at this
        cases this) q5 hone (fun m ⟨q, hq, hqi⟩ => ⟨⟨q, by
          rcases List.mem_append.1 hq with hq | hq
          · simp [hq]
          · simp [hq], hqi⟩, by rw [← hqi]; exact hun q hq⟩)
      refine step_sound q2 hn hst hs (fun ha => ?_) (fun a' w' bl' hs' => ?_)
      · obtain ⟨u1, u2⟩ := hu _ t.i (q5 ha) ⟨t, by simp, rfl⟩
        exact ⟨u1, u2, .inl (hal _ _ (q5 ha))⟩
      · refine ih (A ++ B) (listed.setIfInBounds t.i true) g1 hh1 a' w' bl' (by simp at hlen ⊢; omega) (by simpa using hsz) hs' hT hu' (fun j hj => ?_) (fun j oj hj hoj d hd => ?_) (fun m hm => ?_) ?_
        · have hset : (listed.setIfInBounds t.i true).getD j true = if t.i = j then true else listed.getD j true := by
            simp only [Array.getD_eq_getD_getElem?, Array.getElem?_setIfInBounds]
            split
            · rename_i e; subst e; simp [hsz, h1]
            · rfl
          rw [hset]
          constructor
          · intro hv
            split at hv
            · cases hv
            · rename_i hne
              obtain ⟨q, hq, hqi⟩ := (hli j hj).1 hv
              refine ⟨q, ?_, hqi⟩
              rcases List.mem_append.1 hq with hq | hq
              · simp [hq]
              · rcases List.mem_cons.1 hq with rfl | hq
                · exact absurd hqi hne
                · simp [hq]
          · rintro ⟨q, hq, hqi⟩
            rw [if_neg (fun e => hun q hq (by rw [hqi, e]))]
            refine (hli j hj).2 ⟨q, ?_, hqi⟩
            rcases List.mem_append.1 hq with hq | hq
            · simp [hq]
            · simp [hq]
        · have hset : ∀ k, (listed.setIfInBounds t.i true).getD k false = if t.i = k then true else listed.getD k false := fun k => by
            simp only [Array.getD_eq_getD_getElem?, Array.getElem?_setIfInBounds]
            split
            · rename_i e; subst e; simp [hsz, h1]
            · rfl
          rw [hset] at hj ⊢
          split
          · rfl
          · split at hj
            · rename_i e
              subst e
              rw [h3] at hoj
              cases hoj
              exact h4 d hd
            · exact hdc j oj hj hoj d hd
        · refine hit m ?_
          rcases List.mem_append.1 hm with hm | hm
          · simp [hm]
          · simp [hm]
        · have hsub : (A ++ B).Sublist (A ++ t :: B) := List.Sublist.append_left (List.sublist_cons_self t B) A
          exact hpw.sublist hsub
end
end Go.Mw
