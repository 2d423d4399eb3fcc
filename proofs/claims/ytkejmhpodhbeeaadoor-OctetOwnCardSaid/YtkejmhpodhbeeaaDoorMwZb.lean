/-
  Calls that are handed objects of the caller's, under the names of the contract.
-/
import Derived.Test.YtkejmhpodhbeeaaDoorMwZa
set_option linter.unusedSectionVars false
namespace Go.Mw

/-- Names exchanged, one pair after the other. -/
def fw : List (Nat × Nat) → Nat → Nat
  | [], i => i
  | (a, b) :: r, i => fw r (swp a b i)
def bw : List (Nat × Nat) → Nat → Nat
  | [], i => i
  | (a, b) :: r, i => swp a b (bw r i)
theorem bw_fw : ∀ (ps : List (Nat × Nat)) (i : Nat), bw ps (fw ps i) = i
  | [], _ => rfl
  | (a, b) :: r, i => by simp only [fw, bw, bw_fw r, swp_swp]
theorem fw_bw : ∀ (ps : List (Nat × Nat)) (i : Nat), fw ps (bw ps i) = i
  | [], _ => rfl
  | (a, b) :: r, i => by simp only [fw, bw, swp_swp, fw_bw r]

def purEs : List Nat → List (Nat × AV) → List (Nat × AV)
  | [], e => e
  | k :: ks, e => purE k (purEs ks e)
def purHs : List Nat → List (Nat × AObj) → List (Nat × AObj)
  | [], e => e
  | k :: ks, e => purH k (purHs ks e)
theorem purEs_nil (e : List (Nat × AV)) : purEs [] e = e := rfl
theorem purEs_cons (k : Nat) (ks : List Nat) (e : List (Nat × AV)) : purEs (k :: ks) e = purE k (purEs ks e) := rfl
theorem purHs_nil (e : List (Nat × AObj)) : purHs [] e = e := rfl
theorem purHs_cons (k : Nat) (ks : List Nat) (e : List (Nat × AObj)) : purHs (k :: ks) e = purH k (purHs ks e) := rfl
attribute [go_sem] purEs_nil purEs_cons purHs_nil purHs_cons

theorem if_any (a b : Bool) (x : AV) (p : AV → Bool) (hp : p .any = false) (hx : p x = a) : (if p (if b = true then .any else x) = true then AV.any else (if b = true then .any else x)) = if (a || b) = true then .any else x := by
  cases b <;> cases a <;> simp_all
theorem purV_L (k : Nat) (ks : List Nat) (x : AV) : purV k (purLV ks x) = purLV (k :: ks) x := by
  have := if_any (mV k x) (ks.any fun i => mV i x) x (mV k) rfl rfl
  exact this
theorem purC_L (k : Nat) (ks : List Nat) (x : AV) : purC k (purLC ks x) = purLC (k :: ks) x := by
  have := if_any (mC k x) (ks.any fun i => mC i x) x (mC k) rfl rfl
  exact this
theorem purO_L (k : Nat) (ks : List Nat) (o : AObj) : purO k (purLO ks o) = purLO (k :: ks) o := by
  unfold purO purLO
  by_cases h : o.isRec = true
  · simp only [h, if_true, List.map_map]
    congr 1
    funext
    apply List.map_congr_left
    intro r _
    simp only [Function.comp, List.map_map]
    apply List.map_congr_left
    intro x _
    exact purC_L k ks x
  · simp [h]
theorem get_purEs (k : Nat) : ∀ (ks : List Nat) (e : List (Nat × AV)), get (purEs ks e) k = purLV ks (get e k)
  | [], e => by simp [purEs, purLV]
  | i :: ks, e => by rw [purEs, get_purE, get_purEs k ks, purV_L]
theorem hget_purHs (k : Nat) : ∀ (ks : List Nat) (e : List (Nat × AObj)), hget (purHs ks e) k = (hget e k).map (purLO ks)
  | [], e => by
    have : purLO [] = id := by
      funext o
      unfold purLO purLC
      simp
    simp [purHs, this]
  | i :: ks, e => by
    rw [purHs, hget_purH, hget_purHs k ks, Option.map_map]
    congr 1
    funext o
    exact purO_L i ks o
theorem hget_app (j : Nat) : ∀ (a b : List (Nat × AObj)), hget (a ++ b) j = match hget a j with
    | some o => some o
    | none => hget b j
  | [], b => rfl
  | (k, o) :: r, b => by
    simp only [List.cons_append, hget]
    split
    · rfl
    · exact hget_app j r b

section
variable {P : Program} [Tabs P]
/-- A call that is handed some of the caller's objects, and hands them back; new ones may come with them. -/
theorem call_obj {f : FuncId} {args0 args : List AV} {σ0 σ2 σ1 σ3 : List (Nat × AObj)} {Sb : Nat → Prop} {r1 r3 : AV} {d : Option Nat} {s : St} {K : St → Prop}
    (h : ACalls P f args0 σ0 Sb (fun r σ' => r = r1 ∧ σ' = σ1)) (ps : List (Nat × Nat)) (ks : List Nat)
    (ha : args.map (renV (bw ps)) = args0) (hσ : renH (bw ps) σ2 = σ0) (hr : renV (fw ps) r1 = r3) (h3 : renH (fw ps) σ1 = σ3)
    (hin : ∀ p ∈ σ2, hget s.heap p.1 = some p.2)
    (hout : ∀ p ∈ σ3, (Sb (bw ps p.1) ∧ (hget σ2 p.1).isSome = true) ∨ (p.1 ∈ ks ∧ (p.1 < 1000 ∨ 2000 ≤ p.1) ∧ ((hget σ2 p.1).isSome = true ∨ hget s.heap p.1 = none)))
    (hall : ∀ p ∈ σ2, (hget σ3 p.1).isSome = true)
    (hk : K ((St.mk (purEs ks s.env) (σ3 ++ purHs ks s.heap)).put d r3)) : icall P f args d s K := by
  have h' := h.ren (args2 := args) (σ2 := σ2) (fw ps) (bw ps) (bw_fw ps) (fw_bw ps) ha hσ
  refine .inl (.inr ⟨σ2, _, _, ks, h', fun id o hh => hin (id, o) (mem_hget hh), ?_, ?_⟩)
  · rintro r σ' ⟨r0, σ4, ⟨rfl, rfl⟩, rfl, rfl⟩ id hid
    rw [h3] at hid
    obtain ⟨o, ho⟩ := Option.isSome_iff_exists.1 hid
    exact hout (id, o) (mem_hget ho)
  · rintro r σ' ⟨r0, σ4, ⟨rfl, rfl⟩, rfl, rfl⟩
    rw [hr, h3]
    refine ⟨⟨purEs ks s.env, σ3 ++ purHs ks s.heap⟩, fun k => get_purEs k ks s.env, fun j => ?_, hk⟩
    simp only [hget_app, mrg]
    cases hn : hget σ3 j with
    | some o => rfl
    | none =>
      simp only
      by_cases h2 : (hget σ2 j).isSome = true
      · obtain ⟨o, ho⟩ := Option.isSome_iff_exists.1 h2
        have := hall (j, o) (mem_hget ho)
        simp only at this
        rw [hn] at this
        cases this
      · rw [if_neg h2, hget_purHs]
/-- The contract's own names. -/
theorem call_own {f : FuncId} {args : List AV} {σ0 σ1 : List (Nat × AObj)} {Sb : Nat → Prop} {r1 : AV} {d : Option Nat} {s : St} {K : St → Prop}
    (h : ACalls P f args σ0 Sb (fun r σ' => r = r1 ∧ σ' = σ1)) (ks : List Nat)
    (hin : ∀ p ∈ σ0, hget s.heap p.1 = some p.2)
    (hout : ∀ p ∈ σ1, (Sb p.1 ∧ (hget σ0 p.1).isSome = true) ∨ (p.1 ∈ ks ∧ (p.1 < 1000 ∨ 2000 ≤ p.1) ∧ ((hget σ0 p.1).isSome = true ∨ hget s.heap p.1 = none)))
    (hall : ∀ p ∈ σ0, (hget σ1 p.1).isSome = true)
    (hk : K ((St.mk (purEs ks s.env) (σ1 ++ purHs ks s.heap)).put d r1)) : icall P f args d s K := by
  refine .inl (.inr ⟨σ0, _, _, ks, h, fun id o hh => hin (id, o) (mem_hget hh), ?_, ?_⟩)
  · rintro r σ' ⟨rfl, rfl⟩ id hid
    obtain ⟨o, ho⟩ := Option.isSome_iff_exists.1 hid
    exact hout (id, o) (mem_hget ho)
  · rintro r σ' ⟨rfl, rfl⟩
    refine ⟨⟨purEs ks s.env, σ' ++ purHs ks s.heap⟩, fun k => get_purEs k ks s.env, fun j => ?_, hk⟩
    simp only [hget_app, mrg]
    cases hn : hget σ' j with
    | some o => rfl
    | none =>
      simp only
      by_cases h2 : (hget σ0 j).isSome = true
      · obtain ⟨o, ho⟩ := Option.isSome_iff_exists.1 h2
        have := hall (j, o) (mem_hget ho)
        simp only at this
        rw [hn] at this
        cases this
      · rw [if_neg h2, hget_purHs]
/-- One record handed over and back, under the name that the contract has. -/
theorem call_r {f : FuncId} {args : List AV} {k : Nat} {ob ob' : AObj} {Sb : Nat → Prop} {r : AV} {d : Option Nat} {s : St} {K : St → Prop}
    (h : ACalls P f args [(k, ob)] Sb (fun r' σ' => r' = r ∧ σ' = [(k, ob')])) (hs : Sb k) (hk : hget s.heap k = some ob) (hK : K ((St.mk s.env ((k, ob') :: s.heap)).put d r)) : icall P f args d s K := by
  refine call_own h [] (fun p hp => ?_) (fun p hp => ?_) (fun p hp => ?_) (by simpa only [purEs, purHs, List.cons_append, List.nil_append] using hK)
  · simp only [List.mem_singleton] at hp; subst hp; exact hk
  · simp only [List.mem_singleton] at hp; subst hp; exact .inl ⟨hs, by simp [hget]⟩
  · simp only [List.mem_singleton] at hp; subst hp; simp [hget]

theorem ren_noneP (ρ : Nat → Nat) (x : AV) (hx : idsP x = []) : renP ρ x = x := by cases x <;> first | rfl | (simp [idsP] at hx)
theorem ren_noneL {ρ : Nat → Nat} {f : AV → List Nat} {r : AV → AV} (hh : ∀ x, f x = [] → r x = x) : ∀ l : List AV, l.flatMap f = [] → l.map r = l
  | [], _ => rfl
  | y :: l, hl => by
    simp only [List.flatMap_cons, List.append_eq_nil_iff] at hl
    simp only [List.map_cons, hh y hl.1, ren_noneL (ρ := ρ) hh l hl.2]
theorem ren_noneC (ρ : Nat → Nat) (x : AV) (hx : idsC x = []) : renC ρ x = x := by
  cases x with
  | fn f caps => simp only [renC, ren_noneL (ρ := ρ) (ren_noneP ρ) caps hx]
  | _ => first | rfl | (simp [idsC, idsP] at hx)
theorem ren_noneG (ρ : Nat → Nat) (x : AV) (hx : idsG x = []) : renG ρ x = x := by
  cases x with
  | agg cells => simp only [renG, ren_noneL (ρ := ρ) (ren_noneC ρ) cells hx]
  | fn f caps => exact ren_noneC ρ (.fn f caps) hx
  | _ => first | rfl | (simp [idsG, idsC, idsP] at hx)
theorem ren_noneV (ρ : Nat → Nat) (x : AV) (hx : idsV x = []) : renV ρ x = x := by
  cases x with
  | tup vs => simp only [renV, ren_noneL (ρ := ρ) (ren_noneG ρ) vs hx]
  | agg cells => exact ren_noneG ρ (.agg cells) hx
  | fn f caps => exact ren_noneG ρ (.fn f caps) hx
  | _ => first | rfl | (simp [idsV, idsG, idsC, idsP] at hx)
theorem ren_noneO (ρ : Nat → Nat) (o : AObj) (hx : idsO o = []) : renO ρ o = o := by
  unfold renO
  split
  · rename_i hr
    have : ∀ rows : List (List AV), rows.flatMap (fun r => r.flatMap idsC) = [] → rows.map (fun r => r.map (renC ρ)) = rows := fun rows => by
      induction rows with
      | nil => exact fun _ => rfl
      | cons r l ih =>
        intro hl
        simp only [List.flatMap_cons, List.append_eq_nil_iff] at hl
        simp only [List.map_cons, ih hl.2, ren_noneL (ρ := ρ) (ren_noneC ρ) r hl.1]
    simp only [idsO, hr, if_true] at hx
    rw [this _ hx]
  · rfl
theorem ren_noneVs (ρ : Nat → Nat) : ∀ l : List AV, (∀ x ∈ l, idsV x = []) → l.map (renV ρ) = l
  | [], _ => rfl
  | x :: l, h => by simp only [List.map_cons, ren_noneV ρ x (h x (by simp)), ren_noneVs ρ l fun y hy => h y (by simp [hy])]

/-- A call that hands back a new record. -/
theorem call_nrec {f : FuncId} {args : List AV} {d : Option Nat} {s : St} {K : St → Prop} {Sb : Nat → Prop} {id st : Nat} {o : AObj} (h : ACalls P f args [] Sb (fun r σ' => r = .mp id st 0 0 ∧ σ' = [(id, o)])) (ho : idsO o = []) (hargs : ∀ x ∈ args, idsV x = [])
    (j : Nat) (hj : j < 1000 ∨ 2000 ≤ j) (hfree : hget s.heap j = none) (hk : K ((St.mk (purE j s.env) ((j, o) :: purH j s.heap)).put d (.mp j st 0 0))) : icall P f args d s K := by
  have e1 : swp id j id = j := by simp [swp]
  refine call_obj (σ2 := []) (r3 := .mp j st 0 0) (σ3 := [(j, o)]) h [(id, j)] [j] (ren_noneVs _ args hargs) rfl ?_ ?_ (fun p hp => by cases hp) (fun p hp => ?_) (fun p hp => by cases hp) ?_
  · simp only [fw, renV, renG, renC, renP, e1]
  · simp only [renH, fw, e1, ren_noneO _ o ho]
  · simp only [List.mem_singleton] at hp
    subst hp
    exact .inr ⟨by simp, hj, .inr hfree⟩
  · simpa only [purEs, purHs, List.cons_append, List.nil_append] using hk
/-- A contract on one record, under another name. -/
theorem ACalls.at_ {f : FuncId} {st : Nat} {rest : List AV} {ob ob' : AObj} {Sb : Nat → Prop} {r : AV} (h : ACalls P f (.mp 1000 st 0 0 :: rest) [(1000, ob)] Sb (fun r' σ' => r' = r ∧ σ' = [(1000, ob')]))
    (hr : idsV r = []) (hrest : ∀ x ∈ rest, idsV x = []) (ho : idsO ob = []) (ho' : idsO ob' = []) (j : Nat) :
    ACalls P f (.mp j st 0 0 :: rest) [(j, ob)] (fun id => Sb (swp 1000 j id)) (fun r' σ' => r' = r ∧ σ' = [(j, ob')]) := by
  have e1 : swp 1000 j 1000 = j := by simp [swp]
  have e2 : swp 1000 j j = 1000 := by unfold swp; split <;> simp_all
  refine (h.ren (args2 := .mp j st 0 0 :: rest) (σ2 := [(j, ob)]) (swp 1000 j) (swp 1000 j) (swp_swp _ _) (swp_swp _ _) ?_ ?_).mono (fun _ h => h) ?_
  · simp only [List.map_cons, ren_noneVs _ rest hrest, renV, renG, renC, renP, e2]
  · simp only [renH, e2, ren_noneO _ ob ho]
  · rintro r' σ' ⟨r0, σ0, ⟨rfl, rfl⟩, rfl, rfl⟩
    exact ⟨ren_noneV _ _ hr, by simp only [renH, e1, ren_noneO _ ob' ho']⟩
theorem Sb_at {Sb : Nat → Prop} (j : Nat) (h : Sb 1000) : (fun id => Sb (swp 1000 j id)) j := by
  show Sb (swp 1000 j j)
  have e2 : swp 1000 j j = 1000 := by unfold swp; split <;> simp_all
  rw [e2]; exact h
/-- A method's contract, used on a record of any name. -/
theorem call_m {f : FuncId} {st : Nat} {rest : List AV} {ob ob' : AObj} {Sb : Nat → Prop} {r : AV} {j : Nat} {d : Option Nat} {s : St} {K : St → Prop} (h : ACalls P f (.mp 1000 st 0 0 :: rest) [(1000, ob)] Sb (fun r' σ' => r' = r ∧ σ' = [(1000, ob')]))
    (hs : Sb 1000) (hr : idsV r = []) (hrest : ∀ x ∈ rest, idsV x = []) (ho : idsO ob = []) (ho' : idsO ob' = []) (hk : hget s.heap j = some ob) (hK : K ((St.mk s.env ((j, ob') :: s.heap)).put d r)) : icall P f (.mp j st 0 0 :: rest) d s K :=
  call_r (h.at_ hr hrest ho ho' j) (Sb_at j hs) hk hK
theorem dcall_m {f : FuncId} {st : Nat} {rest : List AV} {ob ob' : AObj} {Sb : Nat → Prop} {r : AV} {j : Nat} {i : Nat} {bf : List Nat} {op : IOp} {d : Option Nat} {hist : List HI} {s : St} {K : List HI → St → Prop} (h : ACalls P f (.mp 1000 st 0 0 :: rest) [(1000, ob)] Sb (fun r' σ' => r' = r ∧ σ' = [(1000, ob')]))
    (hs : Sb 1000) (hr : idsV r = []) (hrest : ∀ x ∈ rest, idsV x = []) (ho : idsO ob = []) (ho' : idsO ob' = []) (hk : hget s.heap j = some ob) (hop : j ∈ opIds op s.env)
    (hK : plainOk op s (.put j ob') = true ∧ histOk bf ⟨i, opIds op s.env, [], [j], false, true⟩ hist = true ∧ K (⟨i, opIds op s.env, [], [j], false, true⟩ :: hist) ((s.eff (.put j ob')).put d r)) : idcall P f (.mp j st 0 0 :: rest) i bf op d hist s K :=
  dcall_rec (h.at_ hr hrest ho ho' j) (Sb_at j hs) hk hr ho' hop hK
end
end Go.Mw
