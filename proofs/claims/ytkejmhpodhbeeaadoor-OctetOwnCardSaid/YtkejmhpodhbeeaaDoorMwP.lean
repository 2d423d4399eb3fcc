/-
  Regions whose order is open: two operations that do not meet may be exchanged.
-/
import Derived.Test.YtkejmhpodhbeeaaDoorMwO
set_option linter.unusedSectionVars false
namespace Go.Mw

def putF (g : Nat → AV) (d : Option Nat) (x : AV) : Nat → AV :=
  match d with
  | some d => upd g d x
  | none => g

def Run (P : Program) [Tabs P] (o : IOper) (g : Nat → AV) (h : Nat → Option AObj) (v : AV) (e : Eff) : Prop :=
  match o.op with
  | .call f args => (e = .no ∧ idsV v = [] ∧ ∃ args' b, PCalls P f args' v ∧ (∀ x ∈ args', idsV x = []) ∧ All2 (coe b h) (args.map (val g)) args' ∧ (b = true → flatV v = true)) ∨
      ∃ k ob ob' Sb, e = .put k ob' ∧ idsV v = [] ∧ ACalls P f (args.map (val g)) [(k, ob)] Sb (fun r' σ' => r' = v ∧ σ' = [(k, ob')]) ∧ Sb k ∧ h k = some ob ∧ ∃ q ∈ opSlots o.op, k ∈ idsV (g q)
  | .callv _ _ => False
  | op => aev (o.dst.getD 0) op (val g) h = some (v, e)

/-- One step: 'ev' is what the operation yields (none: its guard says no), 'x' what is kept of it. -/
structure Fin (P : Program) [Tabs P] (o : IOper) (g : Nat → AV) (h : Nat → Option AObj) (v : AV) (e : Eff) (x : HI) (g' : Nat → AV) (h' : Nat → Option AObj) : Prop where
  run : Run P o g h v e
  known : ∀ k ∈ opSlots o.op, g k ≠ .any
  opnd : ∀ k ∈ opSlots o.op, ∀ id ∈ idsV (g k), id ∈ x.op
  alone : ∀ i o', e = .reb i o' → ∀ j q, h j = some q → i ∉ idsO q
  fresh : ∀ i o', e = .new i o' → h i = none
  res : ∀ d, d ∈ idsV v ∨ d ∈ e.ids → d ∈ x.res
  tch : x.tch = e.tch
  rb : x.rb = e.isReb
  wr : x.wr = e.isPut
  hg : g' = putF (e.env g) o.dst v
  hh : h' = e.hp h

def StepC (P : Program) [Tabs P] (o : IOper) (g : Nat → AV) (h : Nat → Option AObj) (ev : Option (AV × Eff)) (x : HI) (g' : Nat → AV) (h' : Nat → Option AObj) : Prop :=
  match ev with
  | some (v, e) => (∀ k b, o.g = some (k, b) → g k = .bool b) ∧ Fin P o g h v e x g' h'
  | none => (∃ k b, o.g = some (k, b) ∧ (g k = .bool (!b) ∨ g k = .tup [])) ∧ g' = putF g o.dst (.tup []) ∧ h' = h ∧ x.tch = [] ∧ x.rb = false ∧ x.wr = false

section
variable {P : Program} [Tabs P] {o : IOper} {g g' g1 g2 : Nat → AV} {h h' h1 h2 : Nat → Option AObj} {v : AV} {e : Eff}

theorem Run.local (hr : Run P o g h v e) (hg : ∀ k ∈ opSlots o.op, g' k = g k) (hh : ∀ k ∈ opSlots o.op, ∀ id ∈ idsV (g k), h' id = h id) (hc : constOk o.op = true) : Run P o g' h' v e := by
  unfold Run at hr ⊢
  split at hr
  · rename_i f args hop
    rcases hr with ⟨h1, h2, args', b, h3, h4, h5, h6⟩ | ⟨k, ob, ob', Sb, h1, h2, h3, h4, h5, q, h6, h7⟩
    rotate_left
    · refine .inr ⟨k, ob, ob', Sb, h1, h2, ?_, h4, ?_, q, h6, by rw [hg q h6]; exact h7⟩
      · rw [hop] at hg
        rw [vals_local (fun v hv k hk => hg k (by simp only [opSlots, List.mem_flatMap]; exact ⟨v, hv, hk⟩))]
        exact h3
      · rw [hh q h6 k h7]; exact h5
    refine .inl ⟨h1, h2, args', b, h3, h4, ?_, h6⟩
    rw [hop] at hg hh hc
    rw [vals_local (fun v hv k hk => hg k (by simp only [opSlots, List.mem_flatMap]; exact ⟨v, hv, hk⟩))]
    refine coe_local (fun x hx id hid => ?_) h5
    obtain ⟨iv, hiv, rfl⟩ := List.mem_map.1 hx
    refine heap_iv (S := opSlots (.call f args)) (fun k hk => by simp only [opSlots, List.mem_flatMap]; exact ⟨iv, hiv, hk⟩) hh ?_ id hid
    simp only [constOk, List.all_eq_true] at hc
    exact const_iv (hc iv hiv)
  · exact hr
  · rename_i n1 n2
    rw [aev_local hg hh hc]
    exact hr

theorem env_noreb (he : e.isReb = false) : e.env g = g := by cases e <;> first | rfl | cases he
theorem putF_ne {d : Option Nat} {x : AV} {k : Nat} (hk : d ≠ some k) : putF g d x k = g k := by
  cases d with
  | none => rfl
  | some d => exact upd_ne _ _ (fun h => hk (by rw [h]))

theorem purV_ne {i : Nat} {x : AV} (hx : purV i x ≠ .any) : purV i x = x := by
  unfold purV at hx ⊢
  split
  · rename_i hm; simp [hm] at hx
  · rfl
theorem purV_no {i : Nat} {x : AV} (hx : i ∉ idsV x) : purV i x = x := by
  unfold purV
  rw [if_neg (fun hm => hx (mV_ids hm))]

theorem purO_no {i : Nat} {o : AObj} (hx : i ∉ idsO o) : purO i o = o := by
  unfold purO
  split
  · rename_i hr
    simp only [idsO, hr, if_true, List.mem_flatMap, not_exists, not_and] at hx
    have : o.rows.map (fun r => r.map (purC i)) = o.rows := by
      conv => rhs; rw [← List.map_id o.rows]
      refine List.map_congr_left fun r hr' => ?_
      conv => rhs; rw [id, ← List.map_id r]
      refine List.map_congr_left fun y hy => ?_
      unfold purC
      rw [if_neg (fun hm => hx r hr' y hy (mC_ids hm))]
      rfl
    rw [this]
  · rfl

/-- An object that is bound anew and named by none: as a write. -/
theorem hp_reb {i : Nat} {o' : AObj} (ha : ∀ j q, h j = some q → i ∉ idsO q) : Eff.hp h (.reb i o') = upd h i (some o') := by
  funext j
  simp only [Eff.hp, upd]
  split
  · rfl
  · cases hj : h j with
    | none => rfl
    | some q => simp only [Option.map_some]; rw [purO_no (ha j q hj)]

theorem purV_purV (i j : Nat) (x : AV) : purV i (purV j x) = purV j (purV i x) := by
  have hany : ∀ i, mV i .any = false := fun _ => rfl
  unfold purV
  by_cases h1 : mV i x = true <;> by_cases h2 : mV j x = true <;> simp only [h1, h2, hany, if_true, Bool.false_eq_true, if_false]

theorem env_env (e e' : Eff) : e.env (e'.env g) = e'.env (e.env g) := by
  cases e <;> cases e' <;> first | rfl | (funext k; exact purV_purV _ _ _)

def Eff.pur (e : Eff) (x : AV) : AV :=
  match e with
  | .reb i _ => purV i x
  | _ => x
theorem env_put (e : Eff) (d : Option Nat) (x : AV) : e.env (putF g d x) = putF (e.env g) d (e.pur x) := by
  cases d with
  | none => rfl
  | some d =>
    cases e with
    | reb i o' =>
      funext k
      simp only [Eff.env, putF, Eff.pur, upd]
      split <;> rfl
    | _ => rfl
theorem pur_no {e : Eff} {x : AV} (hx : e.isReb = true → ∀ d ∈ e.tch, d ∉ idsV x) : e.pur x = x := by
  cases e with
  | reb i o' => exact purV_no (hx rfl i (by simp [Eff.tch]))
  | _ => rfl

theorem putF_comm {d d' : Option Nat} {x x' : AV} (hd : ∀ k, d = some k → d' ≠ some k) : putF (putF g d x) d' x' = putF (putF g d' x') d x := by
  cases d with
  | none => rfl
  | some d =>
    cases d' with
    | none => rfl
    | some d' =>
      have hne : d ≠ d' := fun hh => hd d rfl (by rw [hh])
      funext k
      simp only [putF, upd]
      by_cases h1 : k = d <;> by_cases h2 : k = d' <;> simp_all

/-- What of an effect is seen in the heap. -/
def hpU (h : Nat → Option AObj) (e : Eff) : Nat → Option AObj :=
  match e with
  | .no => h
  | .put i o => upd h i (some o)
  | .new i o => upd h i (some o)
  | .reb i o => upd h i (some o)
theorem hp_eq (e : Eff) (ha : ∀ i o', e = .reb i o' → ∀ j q, h j = some q → i ∉ idsO q) : e.hp h = hpU h e := by
  cases e with
  | reb i ob => exact hp_reb (ha i ob rfl)
  | _ => rfl
theorem hpU_out {e : Eff} {id : Nat} (hid : id ∉ e.tch) : hpU h e id = h id := by
  cases e <;> first | rfl | exact upd_ne _ _ (fun hh => hid (by simp [Eff.tch, hh]))
theorem hpU_comm {e e' : Eff} (hd : ∀ d ∈ e.tch, d ∉ e'.tch) : hpU (hpU h e) e' = hpU (hpU h e') e := by
  have key : ∀ (i j : Nat) (p q : Option AObj), i ≠ j → upd (upd h i p) j q = upd (upd h j q) i p := fun i j p q hij => by
    funext k
    simp only [upd]
    by_cases h1 : k = i <;> by_cases h2 : k = j <;> simp_all
  cases e <;> cases e' <;> first | rfl | exact key _ _ _ _ (by simpa [Eff.tch] using hd)
theorem hpU_in {e : Eff} {j : Nat} {q : AObj} (hq : hpU h e j = some q) : (h j = some q) ∨ idsO q = e.ids := by
  cases e with
  | no => exact .inl hq
  | put i ob =>
    simp only [hpU, upd] at hq
    split at hq
    · cases hq; exact .inr rfl
    · exact .inl hq
  | new i ob =>
    simp only [hpU, upd] at hq
    split at hq
    · cases hq; exact .inr rfl
    · exact .inl hq
  | reb i ob =>
    simp only [hpU, upd] at hq
    split at hq
    · cases hq; exact .inr rfl
    · exact .inl hq

theorem aev_reb {d : Nat} {op : IOp} {ρ : IV → AV} {j : Nat} {o' : AObj} (hr : aev d op ρ h = some (v, .reb j o')) : ∃ q, h j = some q ∧ q.isRec = false := by
  have happ : ∀ {t st x src}, aApp d t st x src h = some (v, .reb j o') → ∃ q, h j = some q ∧ q.isRec = false := by
    intro t st x src ha
    unfold aApp at ha
    split at ha
    · cases ha
    · split at ha
      · split at ha
        · cases ha
        · split at ha
          · rename_i ob hob
            split at ha
            · rename_i hc
              cases ha
              exact ⟨ob, hob, hc.2.2.2.1⟩
            · cases ha
          · cases ha
        · cases ha
      · cases ha
  have hres : ∀ {y : Option AV}, res y ≠ some (v, .reb j o') := fun hh => by
    have := (res_some hh).2
    cases this
  cases op <;> simp only [aev] at hr
  case app => exact happ hr
  case apps => exact happ hr
  all_goals
    exfalso
    first
      | exact hres hr
      | (cases hr; done)
      | (simp only [Option.map_eq_some_iff, Prod.mk.injEq] at hr
         obtain ⟨e', h1, _, h2⟩ := hr
         subst h2
         unfold aStore at h1
         repeat' (split at h1)
         all_goals cases h1)
      | (repeat' (split at hr)
         all_goals first | (cases hr; done) | exact hres hr)

structure Meet (x y : HI) : Prop where
  a : ∀ d ∈ y.tch, d ∉ x.op ∧ d ∉ x.tch
  b : ∀ d ∈ x.tch, d ∉ y.op
  c : x.rb = true → ∀ d ∈ x.tch, d ∉ y.res
  d : y.rb = true → ∀ d ∈ y.tch, d ∉ x.res
  e : ¬ (x.rb = true ∧ y.wr = true)
  f : ¬ (y.rb = true ∧ x.wr = true)

theorem Meet.of {x y : HI} (hm : meetOk x y = true) : Meet x y := by
  simp only [meetOk, Bool.and_eq_true, List.all_eq_true, Bool.or_eq_true, Bool.not_eq_true', List.contains_eq_mem, decide_eq_false_iff_not] at hm
  obtain ⟨⟨⟨⟨⟨h1, h2⟩, h3⟩, h4⟩, h5⟩, h6⟩ := hm
  refine ⟨h1, h2, fun hr => ?_, fun hr => ?_, fun hr => ?_, fun hr => ?_⟩
  · rcases h3 with h3 | h3
    · rw [h3] at hr; cases hr
    · exact h3
  · rcases h4 with h4 | h4
    · rw [h4] at hr; cases hr
    · exact h4
  · simp [hr.1, hr.2] at h5
  · simp [hr.1, hr.2] at h6

structure Apart (o o' : IOper) : Prop where
  a : ∀ d, o.dst = some d → d ∉ operSlots o' ∧ o'.dst ≠ some d
  b : ∀ d, o'.dst = some d → d ∉ operSlots o

theorem mem_oper (k : Nat) (o : IOper) (hk : k ∈ opSlots o.op) : k ∈ operSlots o := by simp [operSlots, hk]
theorem mem_oper_g (k : Nat) (b : Bool) (o : IOper) (hk : o.g = some (k, b)) : k ∈ operSlots o := by simp [operSlots, hk]
/-- What an outcome comes to. -/
def evV (ev : Option (AV × Eff)) : AV := match ev with | some (v, _) => v | none => .tup []
def evE (ev : Option (AV × Eff)) : Eff := match ev with | some (_, e) => e | none => .no
def gSlots (o : IOper) : List Nat := match o.g with | some (k, _) => [k] | none => []

theorem StepC.state {ev : Option (AV × Eff)} {x : HI} (hs : StepC P o g h ev x g' h') : g' = putF ((evE ev).env g) o.dst (evV ev) ∧ h' = hpU h (evE ev) ∧ x.tch = (evE ev).tch ∧ x.rb = (evE ev).isReb ∧ x.wr = (evE ev).isPut ∧
    (∀ i o', evE ev = .reb i o' → ∀ j q, h j = some q → i ∉ idsO q) ∧ (∀ d, d ∈ idsV (evV ev) ∨ d ∈ (evE ev).ids → d ∈ x.res) ∧ (∀ i o', evE ev = .new i o' → h i = none) ∧ (∀ i o', evE ev = .reb i o' → ∃ q, h i = some q ∧ q.isRec = false) := by
  cases ev with
  | none => obtain ⟨_, h1, h2, h3, h4, h5⟩ := hs; exact ⟨h1, h2, h3, h4, h5, fun i o' he => by simp [evE] at he, fun d hd => by
      rcases hd with hd | hd
      · simp [evV, idsV, idsG, idsC, idsP] at hd
      · simp [evE, Eff.ids] at hd, fun i o' he => by simp [evE] at he, fun i o' he => by simp [evE] at he⟩
  | some p =>
    obtain ⟨v, e⟩ := p
    obtain ⟨_, hf⟩ := hs
    refine ⟨hf.hg, by rw [hf.hh]; exact hp_eq e hf.alone, hf.tch, hf.rb, hf.wr, hf.alone, hf.res, hf.fresh, fun i o' he => ?_⟩
    simp only [evE] at he
    subst he
    have hr := hf.run
    unfold Run at hr
    split at hr
    · rcases hr with hr | ⟨_, _, _, _, hr, _⟩
      · cases hr.1
      · cases hr
    · exact hr.elim
    · exact aev_reb hr

theorem StepC.local {ev : Option (AV × Eff)} {x : HI} (hs : StepC P o g h ev x g' h') (hg : ∀ k ∈ gSlots o, g1 k = g k) (hg2 : ev.isSome = true → ∀ k ∈ opSlots o.op, g1 k = g k) (hh : ev.isSome = true → ∀ k ∈ opSlots o.op, ∀ id ∈ idsV (g k), h1 id = h id) (hc : constOk o.op = true)
    (ha : ∀ i o', evE ev = .reb i o' → ∀ j q, h1 j = some q → i ∉ idsO q) (hn : ∀ i o', evE ev = .new i o' → h1 i = none) : StepC P o g1 h1 ev x (putF ((evE ev).env g1) o.dst (evV ev)) (hpU h1 (evE ev)) := by
  cases ev with
  | none =>
    obtain ⟨⟨k, b, h2, h3⟩, _, _, h4⟩ := hs
    exact ⟨⟨k, b, h2, by rw [hg k (by simp [gSlots, h2])]; exact h3⟩, rfl, rfl, h4⟩
  | some p =>
    obtain ⟨v, e⟩ := p
    obtain ⟨h2, hf⟩ := hs
    refine ⟨fun k b hk => by rw [hg k (by simp [gSlots, hk])]; exact h2 k b hk, ⟨?_, fun k hk => ?_, fun k hk id hid => ?_, ha, hn, hf.res, hf.tch, hf.rb, hf.wr, rfl, (hp_eq e ha).symm⟩⟩
    · exact hf.run.local (hg2 rfl) (hh rfl) hc
    · rw [hg2 rfl k hk]; exact hf.known k hk
    · rw [hg2 rfl k hk] at hid; exact hf.opnd k hk id hid

/-- Two operations that do not meet may be exchanged. -/
theorem swap {m i : IOper} {evm evi : Option (AV × Eff)} {y x : HI} (hm : StepC P m g h evm y g1 h1) (hi : StepC P i g1 h1 evi x g2 h2) (hap : Apart m i) (hmt : Meet x y) (hcm : constOk m.op = true) (hci : constOk i.op = true) :
    ∃ g3 h3, StepC P i g h evi x g3 h3 ∧ StepC P m g3 h3 evm y g2 h2 := by
  obtain ⟨gm, hhm, tm, rm, wm, am, resm, fm, bm⟩ := hm.state
  obtain ⟨gi, hhi, ti, ri, wi, ai, resi, fi, bi⟩ := hi.state
  have same : ∀ id, id ∉ (evE evm).tch → h1 id = h id := fun id hid => by rw [hhm]; exact hpU_out hid
  have gsub : ∀ (o : IOper) k, k ∈ gSlots o → k ∈ operSlots o := fun o k hk => by
    unfold gSlots at hk
    split at hk
    · rename_i k' b hg; simp at hk; subst hk; exact mem_oper_g k b o hg
    · simp at hk
  have gval : ∀ {o : IOper} {g h ev x g' h'}, StepC P o g h ev x g' h' → ∀ k ∈ gSlots o, (∃ b, g k = .bool b) ∨ g k = .tup [] := by
    intro o g h ev x g' h' hs k hk
    unfold gSlots at hk
    split at hk
    · rename_i k' b hg
      simp at hk
      subst hk
      cases ev with
      | none => obtain ⟨⟨k2, b2, h3, h4⟩, _⟩ := hs; rw [hg] at h3; cases h3; exact h4.imp (fun h => ⟨_, h⟩) (fun h => h)
      | some p => exact .inl ⟨b, hs.1 k b hg⟩
    · simp at hk
  -- the second looks at what the first leaves alone
  have keep1 : ∀ k, k ∈ operSlots i → g1 k ≠ .any → g1 k = g k := fun k hk hna => by
    rw [gm] at hna ⊢
    have e1 : putF ((evE evm).env g) m.dst (evV evm) k = (evE evm).env g k := putF_ne (fun hdk => (hap.a k hdk).1 hk)
    rw [e1] at hna ⊢
    cases he : evE evm with
    | reb q ob => rw [he] at hna; exact purV_ne hna
    | _ => rfl
  have rdg : ∀ k ∈ gSlots i, g k = g1 k := fun k hk => by
    rcases gval hi k hk with ⟨b, hb⟩ | hb <;> exact (keep1 k (gsub i k hk) (by rw [hb]; simp)).symm
  have rdo : evi.isSome = true → ∀ k ∈ opSlots i.op, g k = g1 k := fun hs k hk => by
    obtain ⟨p, rfl⟩ := Option.isSome_iff_exists.1 hs
    exact (keep1 k (mem_oper k i hk) (hi.2.known k hk)).symm
  have rdh : evi.isSome = true → ∀ k ∈ opSlots i.op, ∀ id ∈ idsV (g1 k), h id = h1 id := fun hs k hk id hid => by
    obtain ⟨p, rfl⟩ := Option.isSome_iff_exists.1 hs
    refine (same id (fun ht => ?_)).symm
    rw [← tm] at ht
    exact (hmt.a id ht).1 (hi.2.opnd k hk id hid)
  have ai' : ∀ q o', evE evi = .reb q o' → ∀ j p, h j = some p → q ∉ idsO p := fun q o' he j p hp => by
    by_cases hj : j ∈ (evE evm).tch
    · cases hem : evE evm with
      | no => rw [hem] at hj; simp [Eff.tch] at hj
      | put j' ob =>
        exfalso
        refine hmt.e ⟨by rw [ri, he]; rfl, by rw [wm, hem]; rfl⟩
      | new j' ob =>
        rw [hem] at hj
        simp [Eff.tch] at hj
        subst hj
        rw [fm j ob hem] at hp
        cases hp
      | reb j' ob =>
        rw [hem] at hj
        simp [Eff.tch] at hj
        subst hj
        obtain ⟨q', h3, h4⟩ := bm j ob hem
        rw [hp] at h3
        cases h3
        simp [idsO, h4]
    · exact ai q o' he j p (by rw [same j hj]; exact hp)
  have fi' : ∀ q o', evE evi = .new q o' → h q = none := fun q o' he => by
    rw [← same q (fun ht => by
      rw [← tm] at ht
      exact (hmt.a q ht).2 (by rw [ti, he]; simp [Eff.tch]))]
    exact fi q o' he
  have s1 := hi.local rdg rdo rdh hci ai' fi'
  refine ⟨_, _, s1, ?_⟩
  -- the first looks at what the second leaves alone
  have keep2 : ∀ k, k ∈ operSlots m → ((evE evi).isReb = true → ∀ d ∈ (evE evi).tch, d ∉ idsV (g k)) → putF ((evE evi).env g) i.dst (evV evi) k = g k := fun k hk hno => by
    have e1 : putF ((evE evi).env g) i.dst (evV evi) k = (evE evi).env g k := putF_ne (fun hdk => hap.b k hdk hk)
    rw [e1]
    cases he : evE evi with
    | reb q ob => exact purV_no (hno (by rw [he]; rfl) q (by rw [he]; simp [Eff.tch]))
    | _ => rfl
  have s2 := hm.local (g1 := putF ((evE evi).env g) i.dst (evV evi)) (h1 := hpU h (evE evi)) (fun k hk => keep2 k (gsub m k hk) (fun _ d _ => by
      rcases gval hm k hk with ⟨b, hb⟩ | hb <;> rw [hb] <;> simp [idsV, idsG, idsC, idsP])) (fun hs k hk => by
      obtain ⟨p, rfl⟩ := Option.isSome_iff_exists.1 hs
      exact keep2 k (mem_oper k m hk) (fun _ d hd hid => hmt.b d (by rw [ti]; exact hd) (hm.2.opnd k hk d hid))) (fun hs k hk id hid => by
      obtain ⟨p, rfl⟩ := Option.isSome_iff_exists.1 hs
      exact hpU_out (fun ht => hmt.b id (by rw [ti]; exact ht) (hm.2.opnd k hk id hid))) hcm (fun q o' he j p hp => by
      rcases hpU_in hp with h3 | h3
      · exact am q o' he j p h3
      · rw [h3]
        intro hq
        exact hmt.d (by rw [rm, he]; rfl) q (by rw [tm, he]; simp [Eff.tch]) (resi q (.inr hq))) (fun q o' he => by
      rw [hpU_out (fun ht => (hmt.a q (by rw [tm, he]; simp [Eff.tch])).2 (by rw [ti]; exact ht))]
      exact fm q o' he)
  have eg : putF ((evE evm).env (putF ((evE evi).env g) i.dst (evV evi))) m.dst (evV evm) = g2 := by
    rw [gi, gm, env_put, env_put, env_env (evE evi) (evE evm)]
    rw [pur_no (e := evE evm) (x := evV evi) (fun hr d hd hid => hmt.d (by rw [rm]; exact hr) d (by rw [tm]; exact hd) (resi d (.inl hid)))]
    rw [pur_no (e := evE evi) (x := evV evm) (fun hr d hd hid => hmt.c (by rw [ri]; exact hr) d (by rw [ti]; exact hd) (resm d (.inl hid)))]
    exact putF_comm (fun k hk hk' => (hap.a k hk').2 hk)
  have eh : hpU (hpU h (evE evi)) (evE evm) = h2 := by
    rw [hhi, hhm]
    exact hpU_comm (fun d hd hd' => (hmt.a d (by rw [tm]; exact hd')).2 (by rw [ti]; exact hd))
  rw [eg, eh] at s2
  exact s2
end
end Go.Mw
