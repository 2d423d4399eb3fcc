/-
  New empty arrays in cells; calls that are handed a record and an array that it holds.
-/
import Derived.Test.YtkejmhpodhbeeaaDoorMwZb
set_option linter.unusedSectionVars false
namespace Go.Mw

/-- An empty array more. -/
theorem Wk.new0 (s : St) (i st : Nat) (t : TypeId) (hid : i < 1000 ∨ 2000 ≤ i) : Wk s ⟨(s.kill i).env, (i, ⟨t, st, [], false⟩) :: (s.kill i).heap⟩ := by
  intro c a w hs
  obtain ⟨bl, hs⟩ := hs.kill i
  obtain ⟨h1, h2⟩ := kill_unnamed s i
  have hn := hs.new0 (i := i) (o := ⟨t, st, [], false⟩) h1 h2 hid rfl rfl
  refine ⟨_, hn.congr (fun _ => rfl) (fun j => ?_)⟩
  simp only [hget, upd]
  by_cases h : i = j
  · rw [if_pos h, if_pos h.symm]
  · rw [if_neg h, if_neg (Ne.symm h)]

/-- A nil cell taken as an empty slice, or as an empty array. -/
def nlm : List AV → List AV → Prop
  | [], [] => True
  | x :: l, y :: m => (x = y ∨ (x = .nl ∧ ((∃ st, y = .sl st []) ∨ ∃ id st, y = .ms id st 0 0))) ∧ nlm l m
  | _, _ => False
theorem nlm_len : ∀ {l m : List AV}, nlm l m → m.length = l.length
  | [], [], _ => rfl
  | _ :: _, _ :: _, h => by simp [nlm_len h.2]
  | [], _ :: _, h => h.elim
  | _ :: _, [], h => h.elim
theorem nlm_get : ∀ {l m : List AV}, nlm l m → ∀ {j : Nat} {y : AV}, m[j]? = some y → ∃ x, l[j]? = some x ∧ (x = y ∨ (x = .nl ∧ ((∃ st, y = .sl st []) ∨ ∃ id st, y = .ms id st 0 0)))
  | [], [], _, j, y, hy => by simp at hy
  | x :: l, z :: m, h, 0, y, hy => by simp at hy; subst hy; exact ⟨x, rfl, h.1⟩
  | x :: l, z :: m, h, j + 1, y, hy => by simpa using nlm_get h.2 (j := j) (by simpa using hy)
  | [], _ :: _, h, _, _, _ => h.elim
  | _ :: _, [], h, _, _, _ => h.elim
theorem Wk.nlm (s : St) (i : Nat) {t : TypeId} {st : Nat} {r r' : List AV} (hi : hget s.heap i = some ⟨t, st, [r], true⟩) (hr : Mw.nlm r r') : Wk s ⟨s.env, (i, ⟨t, st, [r'], true⟩) :: s.heap⟩ := by
  rintro c a w ⟨bl, hs⟩
  have hm : ∀ b, Mut bl c.MF (hget ((i, ⟨t, st, [r'], true⟩) :: s.heap)) b ↔ Mut bl c.MF (hget s.heap) b := Mut.congr fun j => by
    simp only [hget]
    split
    · rename_i h; subst h; rw [hi]; rfl
    · rfl
  have ht := Tr.of_iff (w := w) fun b => (hm b)
  refine ⟨bl, hs.defers, hs.size, fun j => (hs.env j).tr ht (fun _ _ => rfl), ⟨fun j o hj => ?_, fun j j' o o' b h1 h2 => ?_⟩, hs.step, fun j o b h1 => ?_, hs.stab, hs.mf⟩
  · simp only [hget] at hj
    split at hj
    · rename_i hij
      subst hij
      cases hj
      rcases hs.heap.1 i _ hi with hn | ⟨b, g1, c1, fr, g2, g3, g4, g5, g6, g7⟩
      · cases hn.2.1
      · refine .inr ⟨b, g1, c1, fr, g2, g3, g4, fun k q hq => ?_, by simpa using g6, fun k q u x hu hx => ?_⟩
        · cases k with
          | zero => simp at hq; subst hq; rw [nlm_len hr]; exact g5 0 r rfl
          | succ k => simp at hq
        · cases k with
          | succ k => simp at hu
          | zero =>
            simp at hu
            subst hu
            obtain ⟨x0, h1, h2⟩ := nlm_get hr hx
            obtain ⟨v, hv1, hv2⟩ := g7 0 q r x0 rfl h1
            refine ⟨v, hv1, ?_⟩
            have hv3 : CRel bl (Mut bl c.MF (hget s.heap)) w v x0 := hv2
            rcases h2 with h2 | ⟨h2, ⟨st', h3⟩ | ⟨id, st', h3⟩⟩
            · subst h2; exact hv3.tr ht (fun _ _ => rfl)
            · subst h2 h3
              have : IRel (Mut bl c.MF (hget s.heap)) w v .nl := hv3
              exact (IRel.toC (bl := bl) (IRel.nl_sl this st')).tr ht (fun _ _ => rfl)
            · subst h2 h3
              have : IRel (Mut bl c.MF (hget s.heap)) w v .nl := hv3
              cases this
              exact .inl ⟨rfl, rfl, rfl⟩
    · rcases hs.heap.1 j o hj with hn | ⟨b, g1, c1, fr, g2, g3, g4, g5, g6, g7⟩
      · exact .inl hn
      · refine .inr ⟨b, g1, c1, fr, g2, g3, g4, g5, g6, fun k q u x hu hx => ?_⟩
        obtain ⟨v, hv1, hv2⟩ := g7 k q u x hu hx
        refine ⟨v, hv1, ?_⟩
        cases hrec : o.isRec <;> simp only [hrec, ORel] at hv2 ⊢
        · exact hv2.tr ht.keep
        · exact hv2.tr ht (fun _ _ => rfl)
  · have key : ∀ {j : Nat} {o : AObj}, hget ((i, ⟨t, st, [r'], true⟩) :: s.heap) j = some o → ∃ o', hget s.heap j = some o' := fun {j o} hj => by
      simp only [hget] at hj
      split at hj
      · rename_i hij; subst hij; exact ⟨_, hi⟩
      · exact ⟨_, hj⟩
    obtain ⟨p1, q1⟩ := key h1
    obtain ⟨p2, q2⟩ := key h2
    exact hs.heap.2 j j' p1 p2 b q1 q2
  · simp only [hget] at h1
    split at h1
    · rename_i hij; subst hij; exact hs.own i _ b hi
    · exact hs.own j o b h1

section
variable {P : Program} [Tabs P]
/-- A contract on a record and an array that it holds, under other names. -/
theorem ACalls.at2 {f : FuncId} {st : Nat} {rest : List AV} {rc rc' rk rk' ar ar' : AObj} {Sb : Nat → Prop} {r : AV} {k j : Nat}
    (h : ACalls P f (.mp 1000 st 0 0 :: rest) [(1000, rc), (2000, ar)] Sb (fun r' σ' => r' = r ∧ σ' = [(1000, rc'), (2000, ar')]))
    (hk : k ≠ 2000) (hj : j ≠ 1000) (hkj : k ≠ j)
    (hr : idsV r = []) (hrest : ∀ x ∈ rest, idsV x = []) (ha : ar.isRec = false) (ha' : ar'.isRec = false)
    (h1 : renO (bw [(1000, k), (2000, j)]) rk = rc) (h2 : renO (fw [(1000, k), (2000, j)]) rc' = rk') :
    ACalls P f (.mp k st 0 0 :: rest) [(k, rk), (j, ar)] (fun id => Sb (bw [(1000, k), (2000, j)] id)) (fun r' σ' => r' = r ∧ σ' = [(k, rk'), (j, ar')]) := by
  have e1 : fw [(1000, k), (2000, j)] 1000 = k := by
    simp only [fw]; unfold swp
    by_cases q : k = 2000
    · exact absurd q hk
    · simp [q, hkj]
  have e2 : fw [(1000, k), (2000, j)] 2000 = j := by
    simp only [fw]; unfold swp
    by_cases q : (2000 : Nat) = k
    · exact absurd q.symm hk
    · simp [q]
  have b1 : bw [(1000, k), (2000, j)] k = 1000 := by have := bw_fw [(1000, k), (2000, j)] 1000; rwa [e1] at this
  have b2 : bw [(1000, k), (2000, j)] j = 2000 := by have := bw_fw [(1000, k), (2000, j)] 2000; rwa [e2] at this
  have ra : ∀ ρ : Nat → Nat, renO ρ ar = ar := fun ρ => by unfold renO; rw [ha]; rfl
  have ra' : ∀ ρ : Nat → Nat, renO ρ ar' = ar' := fun ρ => by unfold renO; rw [ha']; rfl
  refine (h.ren (args2 := .mp k st 0 0 :: rest) (σ2 := [(k, rk), (j, ar)]) (fw [(1000, k), (2000, j)]) (bw [(1000, k), (2000, j)]) (bw_fw _) (fw_bw _) ?_ ?_).mono (fun _ h => h) ?_
  · simp only [List.map_cons, ren_noneVs _ rest hrest, renV, renG, renC, renP, b1]
  · simp only [renH, b1, b2, ra, h1]
  · rintro r' σ' ⟨r0, σ0, ⟨rfl, rfl⟩, rfl, rfl⟩
    exact ⟨ren_noneV _ _ hr, by simp only [renH, e1, e2, ra', h2]⟩

/-- A call that is handed a record and an array that it holds. 'fs': arrays that are frozen first. -/
theorem call_2 {f : FuncId} {args args' : List AV} {rk rk' ar ar' : AObj} {Sb : Nat → Prop} {r : AV} {k j : Nat} {d : Option Nat} {s : St} {K : St → Prop} (fs : List Nat)
    (h : ACalls P f args' [(k, rk), (j, ar)] Sb (fun r' σ' => r' = r ∧ σ' = [(k, rk'), (j, ar')])) (hkj : k ≠ j) (hs : Sb k) (hj : j < 1000 ∨ 2000 ≤ j)
    (ha : args.map (frzVs fs s) = args') (h1 : hget (frzs fs s).heap k = some rk) (h2 : hget (frzs fs s).heap j = some ar)
    (hK : K ((St.mk (purE j (frzs fs s).env) ((k, rk') :: (j, ar') :: purH j (frzs fs s).heap)).put d r)) : icall P f args d s K := by
  subst ha
  have key : ∀ p : Nat × AObj, p ∈ [(k, rk), (j, ar)] → hget (frzs fs s).heap p.1 = some p.2 := fun p hp => by
    simp only [List.mem_cons, List.not_mem_nil, or_false] at hp
    rcases hp with rfl | rfl
    · exact h1
    · exact h2
  refine .inr ⟨fs, .inr ⟨[(k, rk), (j, ar)], _, _, [j], h, fun id o hh => key (id, o) (mem_hget hh), ?_, ?_⟩⟩
  · rintro r σ' ⟨rfl, rfl⟩ id hid
    simp only [hget] at hid ⊢
    by_cases hk : k = id
    · subst hk; exact .inl ⟨hs, by simp⟩
    · rw [if_neg hk] at hid
      by_cases hq : j = id
      · subst hq; exact .inr ⟨by simp, hj, .inl (by simp [hk])⟩
      · rw [if_neg hq] at hid; cases hid
  · rintro r σ' ⟨rfl, rfl⟩
    refine ⟨⟨purE j (frzs fs s).env, (k, rk') :: (j, ar') :: purH j (frzs fs s).heap⟩, fun q => by simp only [get_purE, purLV_one], fun q => ?_, hK⟩
    simp only [mrg, hget]
    by_cases hk : k = q
    · subst hk; simp
    · simp only [if_neg hk]
      by_cases hq : j = q
      · subst hq; simp
      · simp only [if_neg hq, hget_purH, Option.isSome_none, Bool.false_eq_true, if_false]
        congr 1
        funext o'
        exact (purLO_one j o').symm
theorem frzs_nil (s : St) : frzs [] s = s := rfl
/-- 'call_obj', some arrays being frozen first. -/
theorem call_objF {f : FuncId} {args0 args args1 : List AV} {σ0 σ2 σ1 σ3 : List (Nat × AObj)} {Sb : Nat → Prop} {r1 r3 : AV} {d : Option Nat} {s : St} {K : St → Prop} (fs : List Nat)
    (h : ACalls P f args0 σ0 Sb (fun r σ' => r = r1 ∧ σ' = σ1)) (ps : List (Nat × Nat)) (ks : List Nat) (hf : args.map (frzVs fs s) = args1)
    (ha : args1.map (renV (bw ps)) = args0) (hσ : renH (bw ps) σ2 = σ0) (hr : renV (fw ps) r1 = r3) (h3 : renH (fw ps) σ1 = σ3)
    (hin : ∀ p ∈ σ2, hget (frzs fs s).heap p.1 = some p.2)
    (hout : ∀ p ∈ σ3, (Sb (bw ps p.1) ∧ (hget σ2 p.1).isSome = true) ∨ (p.1 ∈ ks ∧ (p.1 < 1000 ∨ 2000 ≤ p.1) ∧ ((hget σ2 p.1).isSome = true ∨ hget (frzs fs s).heap p.1 = none)))
    (hall : ∀ p ∈ σ2, (hget σ3 p.1).isSome = true)
    (hk : K ((St.mk (purEs ks (frzs fs s).env) (σ3 ++ purHs ks (frzs fs s).heap)).put d r3)) : icall P f args d s K := by
  subst hf
  have h' := h.ren (args2 := args.map (frzVs fs s)) (σ2 := σ2) (fw ps) (bw ps) (bw_fw ps) (fw_bw ps) ha hσ
  refine .inr ⟨fs, .inr ⟨σ2, _, _, ks, h', fun id o hh => hin (id, o) (mem_hget hh), ?_, ?_⟩⟩
  · rintro r σ' ⟨r0, σ4, ⟨rfl, rfl⟩, rfl, rfl⟩ id hid
    rw [h3] at hid
    obtain ⟨o, ho⟩ := Option.isSome_iff_exists.1 hid
    exact hout (id, o) (mem_hget ho)
  · rintro r σ' ⟨r0, σ4, ⟨rfl, rfl⟩, rfl, rfl⟩
    rw [hr, h3]
    refine ⟨⟨purEs ks (frzs fs s).env, σ3 ++ purHs ks (frzs fs s).heap⟩, fun k => get_purEs k ks _, fun j => ?_, hk⟩
    simp only [hget_app, mrg]
    cases hn : hget σ3 j with
    | some o => rfl
    | none =>
      simp only
      by_cases h2 : (hget σ2 j).isSome = true
      · obtain ⟨o, ho⟩ := Option.isSome_iff_exists.1 h2
        have := hall (j, o) (mem_hget ho)
        simp only at this
        rw [hn] at this
        cases this
      · rw [if_neg h2, hget_purHs]
/-- A call that hands back a new record. -/
theorem call_nrecF {f : FuncId} {args args1 : List AV} {d : Option Nat} {s : St} {K : St → Prop} {Sb : Nat → Prop} {id st : Nat} {o : AObj} (fs : List Nat) (h : ACalls P f args1 [] Sb (fun r σ' => r = .mp id st 0 0 ∧ σ' = [(id, o)])) (hf : args.map (frzVs fs s) = args1) (ho : idsO o = []) (hargs : ∀ x ∈ args1, idsV x = [])
    (j : Nat) (hj : j < 1000 ∨ 2000 ≤ j) (hfree : hget (frzs fs s).heap j = none) (hk : K ((St.mk (purE j (frzs fs s).env) ((j, o) :: purH j (frzs fs s).heap)).put d (.mp j st 0 0))) : icall P f args d s K := by
  have e1 : swp id j id = j := by simp [swp]
  refine call_objF (σ2 := []) (r3 := .mp j st 0 0) (σ3 := [(j, o)]) fs h [(id, j)] [j] hf (ren_noneVs _ args1 hargs) rfl ?_ ?_ (fun p hp => by cases hp) (fun p hp => ?_) (fun p hp => by cases hp) ?_
  · simp only [fw, renV, renG, renC, renP, e1]
  · simp only [renH, fw, e1, ren_noneO _ o ho]
  · simp only [List.mem_singleton] at hp
    subst hp
    exact .inr ⟨by simp, hj, .inr hfree⟩
  · simpa only [purEs, purHs, List.cons_append, List.nil_append] using hk
end
end Go.Mw
