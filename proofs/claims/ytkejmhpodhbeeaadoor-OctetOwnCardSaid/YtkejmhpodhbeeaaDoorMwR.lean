/-
  Regions whose order is open: the walk in the order of the text serves every order.
-/
import Derived.Test.YtkejmhpodhbeeaaDoorMwQ
set_option linter.unusedSectionVars false
namespace Go.Mw

theorem ids_mP {i : Nat} {x : AV} (h : i ∈ idsP x) : mP i x = true := by cases x <;> simp_all [mP, idsP]
theorem ids_mC {i : Nat} {x : AV} (h : i ∈ idsC x) : mC i x = true := by
  cases x with
  | fn f caps =>
    simp only [idsC, List.mem_flatMap] at h
    obtain ⟨y, h1, h2⟩ := h
    simp only [mC, List.any_eq_true]
    exact ⟨y, h1, ids_mP h2⟩
  | _ => simp only [idsC] at h; simpa only [mC] using ids_mP h
theorem ids_mG {i : Nat} {x : AV} (h : i ∈ idsG x) : mG i x = true := by
  cases x with
  | agg cells =>
    simp only [idsG, List.mem_flatMap] at h
    obtain ⟨y, h1, h2⟩ := h
    simp only [mG, List.any_eq_true]
    exact ⟨y, h1, ids_mC h2⟩
  | _ => simp only [idsG] at h; simpa only [mG] using ids_mC h
theorem ids_mV {i : Nat} {x : AV} (h : i ∈ idsV x) : mV i x = true := by
  cases x with
  | tup vs =>
    simp only [idsV, List.mem_flatMap] at h
    obtain ⟨y, h1, h2⟩ := h
    simp only [mV, List.any_eq_true]
    exact ⟨y, h1, ids_mG h2⟩
  | _ => simp only [idsV] at h; simpa only [mV] using ids_mG h

section
variable {P : Program} [Tabs P] {al : List (Nat × Nat)} {g g' : Nat → AV} {h h' : Nat → Option AObj}

def AlOne (al : List (Nat × Nat)) : Prop := ∀ d m m', (d, m) ∈ al → (d, m') ∈ al → m = m'

theorem Un.step {p p' : Nat → Prop} {o : IOper} {i : Nat} {bef : List Nat} {ev : Option (AV × Eff)} {x : HI} (hs : StepC P o g h ev x g' h') (hu : Un al p g h) (hc : constOk o.op = true)
    (hnew : ∀ d, d ∈ idsV (evV ev) ∨ d ∈ (evE ev).ids → ∀ m, (d, m) ∈ al → m = i ∨ m ∈ bef) (hbef : ∀ m ∈ bef, ¬ p m) (hal : allocs o.op = true → (o.dst.getD 0, i) ∈ al) (hone : AlOne al)
    (hp : ∀ m, p' m → p m ∧ m ≠ i) : Un al p' g' h' := by
  intro d m hdm hpm
  obtain ⟨hp1, hp2⟩ := hp m hpm
  obtain ⟨hn, hun⟩ := hu d m hdm hp1
  obtain ⟨gs, hhs, _, _, _, _, _, _, _⟩ := hs.state
  have hno : ¬ (d ∈ idsV (evV ev) ∨ d ∈ (evE ev).ids) := fun hd => by
    rcases hnew d hd m hdm with h1 | h1
    · exact hp2 h1
    · exact hbef m h1 hp1
  have htch : d ∉ (evE ev).tch := fun ht => by
    cases ev with
    | none => simp [evE, Eff.tch] at ht
    | some q =>
      obtain ⟨v, e⟩ := q
      have hr := hs.2.run
      unfold Run at hr
      split at hr
      · rcases hr with hr | ⟨k, _, _, _, he, _, _, _, _, q, _, hid⟩
        · rw [show evE (some (v, e)) = e from rfl, hr.1] at ht; simp [Eff.tch] at ht
        · rw [show evE (some (v, e)) = e from rfl, he] at ht
          simp [Eff.tch] at ht
          subst ht
          have := ids_mV hid
          rw [hun.1 q] at this
          cases this
      · exact hr.elim
      · rcases aev_tch hr hc d ht with ⟨ob, he⟩ | ⟨k, hk, hid⟩
        · subst he
          obtain ⟨h1, h2⟩ := aev_new hr
          rw [← h2] at hal
          exact hp2 (hone d m i hdm (hal h1))
        · have := ids_mV hid
          rw [hun.1 k] at this
          cases this
  refine ⟨by rw [hhs, hpU_out htch]; exact hn, fun k => ?_, fun j q hq hrec r hr y hy => ?_⟩
  · rw [gs]
    have key : mV d ((evE ev).env g k) = false := by
      cases evE ev with
      | reb q ob =>
        simp only [Eff.env]
        unfold purV
        split
        · rfl
        · exact hun.1 k
      | _ => exact hun.1 k
    cases hd : o.dst with
    | none => exact key
    | some d' =>
      simp only [putF, upd]
      split
      · cases hv : mV d (evV ev) with
        | false => rfl
        | true => exact absurd (.inl (mV_ids hv)) hno
      · exact key
  · rw [hhs] at hq
    rcases hpU_in hq with h1 | h1
    · exact hun.2 j q h1 hrec r hr y hy
    · cases hv : mC d y with
      | false => rfl
      | true =>
        exfalso
        refine hno (.inr ?_)
        rw [← h1]
        simp only [idsO, hrec, if_true, List.mem_flatMap]
        exact ⟨r, hr, y, hy, mC_ids hv⟩

theorem eff_env (s : St) (e : Eff) : get (s.eff e).env = e.env (get s.env) := funext (get_eff s e)
theorem eff_heap (s : St) (e : Eff) : hget (s.eff e).heap = e.hp (hget s.heap) := funext (hget_eff s e)

theorem get_refine {s : St} {k : Nat} {t b : Bool} (hv : get s.env k = .bool t) (hb : t = b) : get (s.put (some k) (.bool b)).env = get s.env := by
  rw [put_env]
  funext j
  simp only [putF, upd]
  split
  · rename_i hj; subst hj; rw [hv, hb]
  · rfl

theorem idops_trace (hone : AlOne al) : ∀ (l : List IDOper) (i : Nat) (hist : List HI) (s : St) (K : St → Prop), idops P al i l hist s K → Un al (fun m => i ≤ m) (get s.env) (hget s.heap) →
    (∀ (j : Nat) (o : IDOper), l[j]? = some o → (allocs o.o.op = true → (o.o.dst.getD 0, i + j) ∈ al) ∧ (∀ m ∈ o.bef, m < i + j) ∧ constOk o.o.op = true) →
    ∃ (items : List Item) (s' : St), K s' ∧ T P items (get s.env) (hget s.heap) (get s'.env) (hget s'.heap) ∧ Held al hist items ∧ items.map Item.i = List.range' i l.length ∧ items.map (fun t => (⟨t.o, t.bef⟩ : IDOper)) = l
  | [], i, hist, s, K, hk, _, _ => ⟨[], s, hk, ⟨rfl, rfl⟩, trivial, by simp, rfl⟩
  | o :: r, i, hist, s, K, hk, hu, hl => by
    obtain ⟨hal, hbf, hcon⟩ := hl 0 o (by simp)
    have hl' : ∀ (j : Nat) (o : IDOper), r[j]? = some o → (allocs o.o.op = true → (o.o.dst.getD 0, i + 1 + j) ∈ al) ∧ (∀ m ∈ o.bef, m < i + 1 + j) ∧ constOk o.o.op = true := fun j o hj => by
      have := hl (j + 1) o (by simpa using hj)
      rwa [show i + (j + 1) = i + 1 + j by omega] at this
    -- one step, then the rest
    have fin : ∀ {s1 : St} {ev : Option (AV × Eff)} {x : HI}, StepC P o.o (get s.env) (hget s.heap) ev x (get s1.env) (hget s1.heap) → x.i = i → (∀ y ∈ hist, y.i ∈ o.bef ∨ Meet x y) →
        (∀ d, d ∈ idsV (evV ev) ∨ d ∈ (evE ev).ids → ∀ m, (d, m) ∈ al → m = i ∨ m ∈ o.bef) → idops P al (i + 1) r (x :: hist) s1 K →
        ∃ (items : List Item) (s' : St), K s' ∧ T P items (get s.env) (hget s.heap) (get s'.env) (hget s'.heap) ∧ Held al hist items ∧ items.map Item.i = List.range' i (o :: r).length ∧ items.map (fun t => (⟨t.o, t.bef⟩ : IDOper)) = o :: r := by
      intro s1 ev x hst hxi hhist hnew hrest
      have hu' : Un al (fun m => i + 1 ≤ m) (get s1.env) (hget s1.heap) := Un.step hst hu hcon hnew (fun m hm hle => by have := hbf m hm; omega) (by simpa using hal) hone (fun m hm => ⟨by omega, by omega⟩)
      obtain ⟨items, s', h1, h2, h3, h4, h5⟩ := idops_trace hone r (i + 1) (x :: hist) s1 K hrest hu' hl'
      exact ⟨⟨i, o.bef, o.o, ev, x⟩ :: items, s', h1, ⟨_, _, hst, h2⟩, ⟨hxi, hhist, hnew, h3⟩, by simp [List.range'_succ, h4], by simp [h5]⟩
    have run : ∀ {s2 : St}, get s2.env = get s.env → s2.heap = s.heap → (∀ k b, o.o.g = some (k, b) → get s.env k = .bool b) → idop P al i o hist s2 (fun hist' s' => idops P al (i + 1) r hist' s' K) →
        ∃ (items : List Item) (s' : St), K s' ∧ T P items (get s.env) (hget s.heap) (get s'.env) (hget s'.heap) ∧ Held al hist items ∧ items.map Item.i = List.range' i (o :: r).length ∧ items.map (fun t => (⟨t.o, t.bef⟩ : IDOper)) = o :: r := by
      intro s2 he2 hh2 hgd hop
      have hoi : ∀ k ∈ opSlots o.o.op, ∀ id ∈ idsV (get s.env k), id ∈ opIds o.o.op s2.env := fun k hk id hid => by
        simp only [opIds, List.mem_flatMap]
        exact ⟨k, hk, by rw [he2]; exact hid⟩
      unfold idop at hop
      split at hop
      · rename_i f args hopc
        rcases hop with ⟨args', rr, b, h1, h2, h3, h4, h5, h6, h7, h8⟩ | ⟨k, ob, ob', Sb, rr, h1, h2, h3, h4, h5, h6, h7, h8, h9⟩
        rotate_left
        · obtain ⟨p1, p2⟩ := plainOk_spec h7
          rw [he2] at p1
          have hq : ∃ q ∈ opSlots o.o.op, k ∈ idsV (get s.env q) := by
            simp only [opIds, List.mem_flatMap] at h6
            obtain ⟨q, q1, q2⟩ := h6
            exact ⟨q, q1, by rw [← he2]; exact q2⟩
          refine fin (s1 := (s2.eff (.put k ob')).put o.o.dst rr) (ev := some (rr, .put k ob')) ⟨hgd, ⟨?_, p1, hoi, (fun _ _ he => by cases he), (fun _ _ he => by cases he), fun d hd => ?_, rfl, rfl, rfl, ?_, ?_⟩⟩ rfl (histOk_meet h8) (fun d hd => ?_) h9
          · unfold Run
            rw [hopc]
            rw [hopc] at hq
            exact .inr ⟨k, ob, ob', Sb, rfl, h4, by rw [← he2]; exact h1, h2, by rw [← hh2]; exact h3, hq⟩
          · have hd' : d ∈ idsV rr ∨ d ∈ idsO ob' := hd
            rw [h4, h5] at hd'; simp at hd'
          · rw [put_env, eff_env, he2]
          · rw [put_heap, eff_heap, hh2]
          · have hd' : d ∈ idsV rr ∨ d ∈ idsO ob' := hd
            rw [h4, h5] at hd'; simp at hd'
        obtain ⟨p1, _⟩ := plainOk_spec h6
        rw [he2] at p1
        refine fin (s1 := s2.put o.o.dst rr) (ev := some (rr, .no)) ⟨hgd, ⟨?_, p1, hoi, (fun _ _ he => by cases he), (fun _ _ he => by cases he), fun d hd => ?_, rfl, rfl, rfl, ?_, ?_⟩⟩ rfl (histOk_meet h7) (fun d hd => ?_) h8
        · unfold Run
          rw [hopc]
          exact .inl ⟨rfl, h5, args', b, h1, h2, by rw [← he2, ← hh2]; exact h3, h4⟩
        · have hd' : d ∈ idsV rr ∨ d ∈ ([] : List Nat) := hd
          rw [h5] at hd'; simp at hd'
        · rw [put_env, he2]; rfl
        · rw [put_heap, hh2]; rfl
        · have hd' : d ∈ idsV rr ∨ d ∈ ([] : List Nat) := hd
          rw [h5] at hd'; simp at hd'
      · exact hop.elim
      · rename_i n1 n2
        split at hop
        case h_2 => exact hop.elim
        rename_i v e hev
        obtain ⟨h6, h7, h8, h9⟩ := hop
        obtain ⟨p1, p2⟩ := plainOk_spec h6
        rw [he2] at p1 hev
        rw [hh2] at p2 hev
        refine fin (s1 := (s2.eff e).put o.o.dst v) (ev := some (v, e)) ⟨hgd, ⟨?_, p1, hoi, p2, fun j ob he => ?_, fun d hd => ?_, rfl, rfl, rfl, ?_, ?_⟩⟩ rfl (histOk_meet h7) (fun d hd m hm => ?_) h9
        · unfold Run
          split
          · rename_i f args hopc; exact (n1 f args hopc).elim
          · rename_i f args hopc; exact (n2 f args hopc).elim
          · exact hev
        · subst he
          obtain ⟨q1, q2⟩ := aev_new hev
          subst q2
          exact (hu _ i (by simpa using hal q1) (Nat.le_refl i)).1
        · exact List.mem_append.2 hd
        · rw [put_env, eff_env, he2]
        · rw [put_heap, eff_heap, hh2]
        · exact newOk_spec h8 d (List.mem_append.2 hd) m hm
    unfold idops at hk
    split at hk
    · rename_i hg
      exact run rfl rfl (fun k b hkb => by rw [hg] at hkb; cases hkb) hk
    · rename_i k b hg
      split at hk
      case h_3 => exact hk.elim
      case h_2 =>
        rename_i hv
        refine fin (s1 := s.put o.o.dst (.tup [])) (ev := none) (x := ⟨i, [], [], [], false, false⟩) ⟨⟨k, b, hg, .inr hv⟩, ?_, by rw [put_heap], rfl, rfl, rfl⟩ rfl (fun y _ => .inr ⟨?_, ?_, ?_, ?_, ?_, ?_⟩) ?_ hk
        · rw [put_env]
        · intro d _; exact ⟨by simp, by simp⟩
        · intro d hd; cases hd
        · intro hr; cases hr
        · intro _ d hd hd2; cases hd2
        · rintro ⟨hr, _⟩; cases hr
        · rintro ⟨_, hr⟩; cases hr
        · intro d hd
          rcases hd with hd | hd
          · simp [evV, idsV] at hd
          · simp [evE, Eff.ids] at hd
      rename_i t hv
      by_cases htb : t = b
      · exact run (get_refine hv htb) (put_heap _ _ _) (fun k' b' hkb => by rw [hg] at hkb; cases hkb; rw [hv, htb]) (hk.1 htb)
      · have htb' : t = !b := by cases t <;> cases b <;> simp_all
        refine fin (s1 := (s.put (some k) (.bool (!b))).put o.o.dst (.tup [])) (ev := none) (x := ⟨i, [], [], [], false, false⟩) ⟨⟨k, b, hg, .inl (by rw [hv, htb'])⟩, ?_, by rw [put_heap, put_heap], rfl, rfl, rfl⟩ rfl (fun y _ => .inr ⟨?_, ?_, ?_, ?_, ?_, ?_⟩) ?_ (hk.2 htb')
        · rw [put_env, get_refine hv htb']
        · intro d _; exact ⟨by simp, by simp⟩
        · intro d hd; cases hd
        · intro hr; cases hr
        · intro _ d hd hd2; cases hd2
        · rintro ⟨hr, _⟩; cases hr
        · rintro ⟨_, hr⟩; cases hr
        · intro d hd
          rcases hd with hd | hd
          · simp [evV, idsV, idsG, idsC, idsP] at hd
          · simp [evE, Eff.ids] at hd
end
end Go.Mw
