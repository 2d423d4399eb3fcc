/-
  A call that is handed objects, or hands back new ones.
-/
import Derived.Test.YtkejmhpodhbeeaaDoorMwK
set_option linter.unusedSectionVars false
namespace Go.Mw

def purLV (ks : List Nat) (x : AV) : AV := if ks.any (fun i => mV i x) then .any else x
def purLC (ks : List Nat) (x : AV) : AV := if ks.any (fun i => mC i x) then .any else x
def purLO (ks : List Nat) (o : AObj) : AObj := if o.isRec then { o with rows := o.rows.map (fun r => r.map (purLC ks)) } else o

/-- What the caller's objects are after the call. -/
def mrg (ks : List Nat) (σ0 σ' : Nat → Option AObj) (h : Nat → Option AObj) (id : Nat) : Option AObj :=
  match σ' id with
  | some o => some o
  | none => if (σ0 id).isSome then none else (h id).map (purLO ks)

section
variable {P : Program} [Tabs P] {c : Ctx} [CT c P] {bl bl' bl2 : Nat → Option Nat} {g : Nat → AV} {h : Nat → Option AObj} {a : Act} {w w' : World} {M M' : Nat → Prop} {ks : List Nat}

theorem purLV_rel {v : Value} {x : AV} (hv : VRel bl M w v x) (ht : Tr M M' w w') (hb : ∀ id, id ∉ ks → bl2 id = bl id) : VRel bl2 M' w' v (purLV ks x) := by
  unfold purLV
  split
  · trivial
  · rename_i hn
    refine hv.tr ht (fun id hm => hb id (fun hk => hn ?_))
    exact List.any_eq_true.2 ⟨id, hk, hm⟩

theorem purLC_rel {v : Value} {x : AV} (hv : CRel bl M w v x) (ht : Tr M M' w w') (hb : ∀ id, id ∉ ks → bl2 id = bl id) : CRel bl2 M' w' v (purLC ks x) := by
  unfold purLC
  split
  · exact IRel.toC (.any v (CRel.one hv))
  · rename_i hn
    refine hv.tr ht (fun id hm => hb id (fun hk => hn ?_))
    exact List.any_eq_true.2 ⟨id, hk, hm⟩

theorem obj_call (s : SatB c bl g h a w) {f : FuncId} {cargs : List Value} {args : List AV} {σ0 : List (Nat × AObj)} {Sb : Nat → Prop} {Post : AV → List (Nat × AObj) → Prop}
    (hp : ACalls P f args σ0 Sb Post) (ha : All2 (VRel bl (Mut bl c.MF h) w) cargs args) (hσ : ∀ id o, hget σ0 id = some o → h id = some o) (ks : List Nat)
    (hks : ∀ r σ', Post r σ' → ∀ id, (hget σ' id).isSome = true → (Sb id ∧ (hget σ0 id).isSome = true) ∨ (id ∈ ks ∧ (id < 1000 ∨ 2000 ≤ id) ∧ ((hget σ0 id).isSome = true ∨ h id = none))) :
    Calls P f cargs.toArray w fun e w' => ∃ v r σ' bl2, e = .returned v ∧ Post r σ' ∧ SatB c bl2 (fun k => purLV ks (g k)) (mrg ks (hget σ0) (hget σ') h) a w' ∧ VRel bl2 (Mut bl2 c.MF (mrg ks (hget σ0) (hget σ') h)) w' v r := by
  let MF' : Nat → Prop := fun q => c.MF q ∨ ∃ id o, h id = some o ∧ hget σ0 id = none ∧ bl id = some q
  have blk : ∀ {id o q}, h id = some o → bl id = some q → OBlock bl (Mut bl c.MF h) c.MF w o q := fun {id o q} h1 h2 => by
    rcases s.heap.1 id o h1 with hn | ⟨b', g2, hO⟩
    · rw [hn.2.2] at h2; cases h2
    · rw [h2] at g2; cases g2; exact hO
  have hMF' : ∀ q, MF' q → q < w.heap.size := by
    rintro q (hq | ⟨id, o, h1, _, h2⟩)
    · exact Nat.lt_of_lt_of_le (s.mf q hq) s.step.size
    · obtain ⟨c2, fr2, g3, _⟩ := blk h1 h2
      exact lt_of_heap g3
  have hmut : ∀ q, Mut bl MF' (hget σ0) q ↔ Mut bl c.MF h q := fun q => by
    constructor
    · rintro ((hq | ⟨id, o, h1, _, h2⟩) | ⟨id, o, h1, h2⟩)
      · exact .inl hq
      · exact .inr ⟨id, o, h1, h2⟩
      · exact .inr ⟨id, o, hσ id o h1, h2⟩
    · rintro (hq | ⟨id, o, h1, h2⟩)
      · exact .inl (.inl hq)
      · cases h3 : hget σ0 id with
        | none => exact .inl (.inr ⟨id, o, h1, h3, h2⟩)
        | some o' => exact .inr ⟨id, o', h3, h2⟩
  have ht0 := Tr.of_iff (w := w) hmut
  have hH : HRel bl (Mut bl MF' (hget σ0)) MF' w (hget σ0) := by
    refine ⟨fun id o hi => ?_, fun id id' o o' q h1 h2 => s.heap.2 id id' o o' q (hσ _ _ h1) (hσ _ _ h2)⟩
    rcases s.heap.1 id o (hσ id o hi) with hn | ⟨b', g2, c2, fr2, g3, g4, g5, g6, g7, g8⟩
    · exact .inl hn
    · refine .inr ⟨b', g2, c2, fr2, g3, g4, ?_, g6, g7, fun i j r x hr hx => ?_⟩
      · rintro (hq | ⟨id2, o2, h1, h3, h2⟩)
        · exact g5 hq
        · have := s.heap.2 id2 id o2 o b' h1 (hσ id o hi) h2 g2
          subst this
          rw [hi] at h3
          cases h3
      · obtain ⟨v, hv1, hv2⟩ := g8 i j r x hr hx
        exact ⟨v, hv1, hv2.tr ht0 (fun _ _ _ => rfl)⟩
  refine (hp bl MF' w cargs (SatB.tab (P := P) s) (fun q hq hm => SatB.tabW (P := P) s q hq ((hmut q).1 hm)) hH hMF' (ha.mono fun _ _ _ hr => hr.tr ht0 (fun _ _ => rfl))).mono fun e w' hh => ?_
  obtain ⟨v, r, σ', bl1, rfl, hPost, hcl, hH', hv, hst, hown, hsb⟩ := hh
  have hks' := hks r σ' hPost
  let B : Nat → Option Nat := fun id => if (hget σ' id).isSome then bl1 id else bl id
  have B_in : ∀ id, (hget σ' id).isSome = true → B id = bl1 id := fun id hi => by simp [B, hi]
  have B_out : ∀ id, hget σ' id = none → B id = bl id := fun id hi => by simp [B, hi]
  have B_ks : ∀ id, id ∉ ks → B id = bl id := fun id hk => by
    cases hi : hget σ' id with
    | none => exact B_out id hi
    | some o =>
      rw [B_in id (by simp [hi])]
      rcases hks' id (by simp [hi]) with ⟨h1, _⟩ | ⟨h1, _⟩
      · exact hsb id h1
      · exact absurd h1 hk
  -- the objects of the caller that were not handed over
  have mrg_out : ∀ {id o}, mrg ks (hget σ0) (hget σ') h id = some o → hget σ' id = none → ∃ o0, h id = some o0 ∧ o = purLO ks o0 ∧ hget σ0 id = none := fun {id o} hm hn => by
    simp only [mrg, hn] at hm
    split at hm
    · cases hm
    · rename_i h0
      simp only [Option.map_eq_some_iff] at hm
      obtain ⟨o0, h1, rfl⟩ := hm
      exact ⟨o0, h1, rfl, by simpa using h0⟩
  have σblk : ∀ {id o q}, hget σ' id = some o → bl1 id = some q → OBlock bl1 (Mut bl1 MF' (hget σ')) MF' w' o q := fun {id o q} h1 h2 => by
    rcases hH'.1 id o h1 with hn | ⟨b', g2, hO⟩
    · rw [hn.2.2] at h2; cases h2
    · rw [h2] at g2; cases g2; exact hO
  have hmut2 : ∀ q, Mut B c.MF (mrg ks (hget σ0) (hget σ') h) q → Mut bl1 MF' (hget σ') q := by
    rintro q (hq | ⟨id, o, h1, h2⟩)
    · exact .inl (.inl hq)
    · cases hi : hget σ' id with
      | some o' => rw [B_in id (by simp [hi])] at h2; exact .inr ⟨id, o', hi, h2⟩
      | none =>
        obtain ⟨o0, h3, _, h4⟩ := mrg_out h1 hi
        rw [B_out id hi] at h2
        exact .inl (.inr ⟨id, o0, h3, h4, h2⟩)
  have hmut3 : ∀ q, q < w.heap.size → Mut bl1 MF' (hget σ') q → Mut bl c.MF h q := by
    rintro q hq ((hm | ⟨id, o, h1, _, h2⟩) | ⟨id, o, h1, h2⟩)
    · exact .inl hm
    · exact .inr ⟨id, o, h1, h2⟩
    · rcases hown id o q h1 h2 with h3 | ⟨id2, o2, h3, h4⟩
      · omega
      · exact .inr ⟨id2, o2, hσ _ _ h3, h4⟩
  have ht : Tr (Mut bl c.MF h) (Mut B c.MF (mrg ks (hget σ0) (hget σ') h)) w w' := ⟨fun q hq hl => ⟨fun hm => hq (hmut3 q hl (hmut2 q hm)), hst.keep q hl (fun hb => hq (by
    obtain ⟨id, o, h1, h2⟩ := hb
    exact .inr ⟨id, o, hσ _ _ h1, h2⟩))⟩, hst.shape⟩
  have ht1 : Tr (Mut bl1 MF' (hget σ')) (Mut B c.MF (mrg ks (hget σ0) (hget σ') h)) w' w' := ⟨fun q hq _ => ⟨fun hm => hq (hmut2 q hm), rfl⟩, fun _ c1 _ _ hb => ⟨c1, hb, rfl⟩⟩
  have hcl1 : ∀ id, mV id r = true → B id = bl1 id := fun id hm => B_in id (hcl.1 id (mV_ids hm))
  have hmem : ∀ {σ : List (Nat × AObj)} {id : Nat} {o : AObj}, hget σ id = some o → (id, o) ∈ σ := by
    intro σ
    induction σ with
    | nil => intro id o hi; simp [hget] at hi
    | cons p l ih =>
      intro id o hi
      obtain ⟨k, x⟩ := p
      simp only [hget] at hi
      split at hi
      · rename_i hk; cases hi; subst hk; simp
      · exact List.mem_cons_of_mem _ (ih hi)
  refine ⟨v, r, σ', B, rfl, hPost, ⟨s.defers, s.size, fun k => purLV_rel (s.env k) ht B_ks, ⟨fun id o hi => ?_, fun id id' o o' q h1 h2 h3 h4 => ?_⟩, ?_, fun id o q h1 h2 => ?_, fun id h1 h2 => ?_, s.mf⟩, hv.tr ht1 hcl1⟩
  · cases hi' : hget σ' id with
    | some o' =>
      have ho : o = o' := by simp only [mrg, hi', Option.some.injEq] at hi; exact hi.symm
      subst ho
      rcases hH'.1 id o hi' with hn | ⟨b', g2, c2, fr2, g3, g4, g5, g6, g7, g8⟩
      · exact .inl ⟨hn.1, hn.2.1, by rw [B_in id (by simp [hi'])]; exact hn.2.2⟩
      · refine .inr ⟨b', by rw [B_in id (by simp [hi'])]; exact g2, c2, fr2, g3, g4, fun hm => g5 (.inl hm), g6, g7, fun i j q x hr hx => ?_⟩
        obtain ⟨u, hu1, hu2⟩ := g8 i j q x hr hx
        refine ⟨u, hu1, hu2.tr ht1 (fun hrec id2 hm => B_in id2 (hcl.2 (id, o) (hmem hi') id2 ?_))⟩
        simp only [idsO, hrec, if_true, List.mem_flatMap]
        exact ⟨q, List.mem_of_getElem? hr, x, List.mem_of_getElem? hx, mC_ids hm⟩
    | none =>
      obtain ⟨o0, h1, rfl, h3⟩ := mrg_out hi hi'
      rcases s.heap.1 id o0 h1 with hn | ⟨b', g2, c2, fr2, g3, g4, g5, g6, g7, g8⟩
      · refine .inl ⟨?_, ?_, by rw [B_out id hi']; exact hn.2.2⟩
        · simp [purLO, hn.2.1, hn.1]
        · simp [purLO, hn.2.1]
      · have hkeep : w'.heap[b']? = w.heap[b']? := hst.keep b' (lt_of_heap g3) (fun hb => by
          obtain ⟨id2, o2, h4, h5⟩ := hb
          have := s.heap.2 id id2 o0 o2 b' h1 (hσ _ _ h4) g2 h5
          subst this
          rw [h3] at h4
          cases h4)
        refine .inr ⟨b', by rw [B_out id hi']; exact g2, c2, fr2, ?_, g4, g5, ?_, ?_, ?_⟩
        · rw [hkeep, g3]
          unfold purLO
          split <;> rfl
        · intro i q hq
          unfold purLO at hq ⊢
          split at hq
          · simp only [List.getElem?_map, Option.map_eq_some_iff] at hq
            obtain ⟨q0, hq0, rfl⟩ := hq
            rename_i hrec
            simpa [hrec] using g6 i q0 hq0
          · rename_i hrec
            simpa [hrec] using g6 i q hq
        · unfold purLO
          split <;> simpa using g7
        · intro i j q x hq hx
          unfold purLO at hq ⊢
          split at hq
          · rename_i hrec
            simp only [List.getElem?_map, Option.map_eq_some_iff] at hq
            obtain ⟨q0, hq0, rfl⟩ := hq
            simp only [List.getElem?_map, Option.map_eq_some_iff] at hx
            obtain ⟨x0, hx0, rfl⟩ := hx
            obtain ⟨u, hu1, hu2⟩ := g8 i j q0 x0 hq0 hx0
            simp only [hrec, if_true]
            rw [hrec] at hu2
            exact ⟨u, hu1, purLC_rel hu2 ht B_ks⟩
          · rename_i hrec
            obtain ⟨u, hu1, hu2⟩ := g8 i j q x hq hx
            have hrec' : o0.isRec = false := by simpa using hrec
            simp only [hrec', Bool.false_eq_true, if_false]
            rw [hrec'] at hu2
            exact ⟨u, hu1, IRel.tr hu2 ht.keep⟩
  · cases hi : hget σ' id with
    | some o1 =>
      rw [B_in id (by simp [hi])] at h3
      cases hi2 : hget σ' id' with
      | some o2 =>
        rw [B_in id' (by simp [hi2])] at h4
        exact hH'.2 id id' o1 o2 q hi hi2 h3 h4
      | none =>
        rw [B_out id' hi2] at h4
        obtain ⟨o2, h5, _, h6⟩ := mrg_out h2 hi2
        obtain ⟨c2, fr2, g3, g4, g5, _⟩ := σblk hi h3
        exact (g5 (.inr ⟨id', o2, h5, h6, h4⟩)).elim
    | none =>
      rw [B_out id hi] at h3
      obtain ⟨o1, h5, _, h6⟩ := mrg_out h1 hi
      cases hi2 : hget σ' id' with
      | some o2 =>
        rw [B_in id' (by simp [hi2])] at h4
        obtain ⟨c2, fr2, g3, g4, g5, _⟩ := σblk hi2 h4
        exact (g5 (.inr ⟨id, o1, h5, h6, h3⟩)).elim
      | none =>
        rw [B_out id' hi2] at h4
        obtain ⟨o2, h7, _, h8⟩ := mrg_out h2 hi2
        exact s.heap.2 id id' o1 o2 q h5 h7 h3 h4
  · refine s.step.trans hst (fun q hq hb => ?_)
    obtain ⟨id, o, h1, h2⟩ := hb
    rcases s.own id o q (hσ _ _ h1) h2 with h3 | h3
    · omega
    · exact h3
  · cases hi : hget σ' id with
    | some o1 =>
      rw [B_in id (by simp [hi])] at h2
      rcases hown id o1 q hi h2 with h3 | ⟨id2, o2, h3, h4⟩
      · exact .inl (Nat.le_trans s.step.size h3)
      · exact s.own id2 o2 q (hσ _ _ h3) h4
    | none =>
      rw [B_out id hi] at h2
      obtain ⟨o1, h5, _, h6⟩ := mrg_out h1 hi
      exact s.own id o1 q h5 h2
  · cases hi : hget σ' id with
    | none => rw [B_out id hi]; exact s.stab id h1 h2
    | some o1 =>
      rw [B_in id (by simp [hi])]
      rcases hks' id (by simp [hi]) with ⟨h3, _⟩ | ⟨_, h3, _⟩
      · rw [hsb id h3]; exact s.stab id h1 h2
      · omega
end
end Go.Mw
