/-
  Freezing; functions: a walk of the body gives the contract.
-/
import Derived.Test.YtkejmhpodhbeeaaDoorMwT
set_option linter.unusedSectionVars false
namespace Go.Mw

/-! ### Results -/
def okRes : AV → Bool
  | .any => false
  | .tup _ => false
  | _ => true

def ires1 (s : St) : IRes → Option AV
  | .tmp k => if okRes (get s.env k) then some (get s.env k) else none
  | .cell k n => match aLoad n (get s.env k) (hget s.heap) with
    | some x => if okRes x then some x else none
    | none => none
def ires (s : St) : List IRes → Option (List AV)
  | [] => some []
  | x :: r => match ires1 s x, ires s r with
    | some y, some l => some (y :: l)
    | _, _ => none
def iret (l : List IRes) (s : St) : Option AV :=
  match ires s l with
  | some [x] => some x
  | some l => some (.tup l)
  | none => none

def argEnv : Nat → List AV → List (Nat × AV)
  | _, [] => []
  | i, x :: r => (i, x) :: argEnv (i + 1) r

theorem get_argEnv : ∀ (l : List AV) (i k : Nat), get (argEnv i l) k = if i ≤ k then (l[k - i]?).getD .any else .any
  | [], i, k => by simp [argEnv, get]
  | x :: r, i, k => by
    simp only [argEnv, get]
    by_cases h : i = k
    · subst h; simp
    · rw [if_neg h, get_argEnv r (i + 1) k]
      by_cases h2 : i + 1 ≤ k
      · rw [if_pos h2, if_pos (by omega), show k - i = (k - (i + 1)) + 1 by omega, List.getElem?_cons_succ]
      · rw [if_neg h2]
        by_cases h3 : i ≤ k
        · omega
        · rw [if_neg h3]

theorem get_argEnvE (E : List (Nat × AV)) : ∀ (l : List AV) (i k : Nat), get (argEnv i l ++ E) k = if i ≤ k then (match l[k - i]? with | some x => x | none => get E k) else get E k
  | [], i, k => by simp [argEnv]
  | x :: r, i, k => by
    simp only [argEnv, List.cons_append, get]
    by_cases h : i = k
    · subst h; simp
    · rw [if_neg h, get_argEnvE E r (i + 1) k]
      by_cases h2 : i + 1 ≤ k
      · rw [if_pos h2, if_pos (by omega), show k - i = (k - (i + 1)) + 1 by omega, List.getElem?_cons_succ]
      · rw [if_neg h2]
        by_cases h3 : i ≤ k
        · omega
        · rw [if_neg h3]
theorem get_mem : ∀ {l : List (Nat × AV)} {k : Nat}, get l k = .any ∨ (k, get l k) ∈ l
  | [], k => .inl rfl
  | (j, x) :: r, k => by
    simp only [get]
    split
    · rename_i h; subst h; exact .inr (by simp)
    · rcases get_mem (l := r) (k := k) with h | h
      · exact .inl h
      · exact .inr (by simp [h])

section
variable {P : Program} [Tabs P] {c : Ctx} [CT c P] {bl : Nat → Option Nat} {a : Act} {w : World} {s : St}

theorem okRes_G {M : Nat → Prop} {v : Value} {x : AV} (hx : okRes x = true) (hv : VRel bl M w v x) : GRel bl M w v x := by
  cases x <;> first | (simp [okRes] at hx; done) | exact hv

def rv1 (tmps : Array Value) : ResultVar → Sem Value
  | .tmp t => Pure.pure (tmps.getD t undef)
  | .cell q t => do loadVar t (← asAddr (tmps.getD q undef))

theorem results_eq (fn : Func) (tmps : Array Value) : results fn tmps = (do let vs ← fn.results.mapM (rv1 tmps); Pure.pure (if h : vs.size = 1 then vs[0] else .tuple vs)) := by
  unfold results
  congr 1

theorem ires_run (hs : SatB c bl (get s.env) (hget s.heap) a w) : ∀ (rv : List ResultVar) (l : List IRes), cRes P rv = some l → ∀ (xs : List AV), ires s l = some xs →
    ∃ vs : List Value, (rv.mapM (rv1 a.tmps)).run P w = .ok vs w ∧ All2 (GRel bl (Mut bl c.MF (hget s.heap)) w) vs xs
  | [], l, hc, xs, hx => by
    simp only [cRes, Option.some.injEq] at hc
    subst hc
    simp only [ires, Option.some.injEq] at hx
    subst hx
    exact ⟨[], by simp, trivial⟩
  | .tmp t :: r, l, hc, xs, hx => by
    simp only [cRes] at hc
    split at hc
    case isFalse => cases hc
    rename_i hlo
    simp only [Option.map_eq_some_iff] at hc
    obtain ⟨l', h1, rfl⟩ := hc
    simp only [ires] at hx
    split at hx
    case h_2 => cases hx
    rename_i y l2 h2 h3
    cases hx
    simp only [ires1] at h2
    split at h2
    case isFalse => cases h2
    rename_i hok
    cases h2
    obtain ⟨vs, h4, h5⟩ := ires_run hs r l' h1 l2 h3
    refine ⟨a.tmps.getD t undef :: vs, ?_, okRes_G hok (by rw [← tv_lo hlo]; exact hs.env t), h5⟩
    simp only [List.mapM_cons, rv1, Sem.run_bind, Sem.run_pure, Result.andThen_ok, h4]
  | .cell q t :: r, l, hc, xs, hx => by
    simp only [cRes] at hc
    split at hc
    case h_2 => cases hc
    rename_i n l' h0 h1
    split at hc
    case isFalse => cases hc
    rename_i hlo
    cases hc
    simp only [ires] at hx
    split at hx
    case h_2 => cases hx
    rename_i y l2 h2 h3
    cases hx
    simp only [ires1] at h2
    split at h2
    case h_2 => cases h2
    rename_i y' hld
    split at h2
    case isFalse => cases h2
    rename_i hok
    cases h2
    obtain ⟨vs, h4, h5⟩ := ires_run hs r l' h1 l2 h3
    have hq := hs.env q
    rw [tv_lo hlo] at hq
    have fin : ∀ {b off : Nat} {cells : List AV}, a.tmps.getD q undef = .pointer (some ⟨b, off, none⟩) → CellsAt bl (Mut bl c.MF (hget s.heap)) w b off cells → ldc n cells = some y →
        ∃ vs : List Value, ((ResultVar.cell q t :: r).mapM (rv1 a.tmps)).run P w = .ok vs w ∧ All2 (GRel bl (Mut bl c.MF (hget s.heap)) w) vs (y :: l2) := fun hv hcl hl => by
      obtain ⟨u, h6, h7⟩ := run_loadVar_cells h0 hcl hl
      refine ⟨u :: vs, ?_, h7, h5⟩
      simp only [List.mapM_cons, rv1, Sem.run_bind, hv, asAddr, Sem.run_pure, Result.andThen_ok, h6, h4]
    cases hval : get s.env q <;> rw [hval] at hld hq <;> simp only [aLoad] at hld <;> try cases hld
    case ip cells =>
      obtain ⟨b, off, h6, h7⟩ := CellsAt.of_ip hq
      exact fin h6 h7 hld
    case mp id st row off =>
      split at hld
      case h_2 => cases hld
      rename_i ob hob
      split at hld
      case isFalse => cases hld
      rename_i hst
      split at hld
      case h_2 => cases hld
      rename_i rr hr
      obtain ⟨b, hb, h6⟩ := hq.mp
      rw [← hst] at h6
      exact fin h6 ((CellsAt.of_obj hs hob hb hr).drop off) hld

theorem iret_run {fn : Func} {l : List IRes} {r : AV} (hs : SatB c bl (get s.env) (hget s.heap) a w) (hc : cRes P fn.results.toList = some l) (hr : iret l s = some r) :
    ∃ v, (results fn a.tmps).run P w = .ok v w ∧ VRel bl (Mut bl c.MF (hget s.heap)) w v r := by
  unfold iret at hr
  cases hx : ires s l with
  | none => rw [hx] at hr; cases hr
  | some xs =>
    obtain ⟨vs, h1, h2⟩ := ires_run hs _ l hc xs hx
    have hrun : ∀ v, v = (if h : vs.toArray.size = 1 then vs.toArray[0] else .tuple vs.toArray) → (results fn a.tmps).run P w = .ok v w := fun v hv => by
      subst hv
      rw [results_eq, Sem.run_bind, Array.mapM_eq_mapM_toList, Sem.run_map, h1]
      rfl
    rw [hx] at hr
    cases xs with
    | nil =>
      cases hr
      cases vs with
      | cons => exact h2.elim
      | nil => exact ⟨_, hrun _ rfl, [], by simp, trivial⟩
    | cons x xs =>
      cases xs with
      | nil =>
        cases hr
        cases vs with
        | nil => exact h2.elim
        | cons v vs =>
          cases vs with
          | cons => exact h2.2.elim
          | nil => exact ⟨v, hrun _ (by simp), h2.1.toV⟩
      | cons y ys =>
        cases hr
        have hl := h2.length
        refine ⟨_, hrun _ rfl, vs, ?_, h2⟩
        rw [dif_neg (by simp [hl])]

/-- The end of a body. -/
def Done (l : List IRes) (Post : AV → List (Nat × AObj) → Prop) (e : IX) (s : St) : Prop :=
  (∀ j, e ≠ .ext j) ∧ ∃ s1, Wk s s1 ∧ ∃ fs r σ', iret l (frzs fs s1) = some r ∧ (∀ i o, hget σ' i = some o → hget (frzs fs s1).heap i = some o) ∧ Closed r σ' ∧ Post r σ'

theorem fun_soundT {f : FuncId} {F : IFun} {ic : ICode} {args : List AV} {σ : List (Nat × AObj)} {Post : AV → List (Nat × AObj) → Prop} (E : List (Nat × AV)) (hE : ∀ p ∈ E, p ∈ (Tabs.T P).env) (hm : P.follows .mixedOrders = true) (hf : compF P f = some F) (hic : erase ic = F.body) (hlen : args.length = F.np)
    (hi : iwp P ic ⟨argEnv 0 args ++ E, σ⟩ (Done F.res Post)) : ACalls P f args σ (fun id => 1000 ≤ id ∧ id < 2000) Post := by
  unfold compF at hf
  split at hf
  · cases hf
  rename_i fn hfn
  split at hf
  · cases hf
  rename_i body hbody
  split at hf
  case h_2 => cases hf
  rename_i b rs hb hrs
  split at hf
  case isFalse => cases hf
  rename_i hnp
  cases hf
  intro bl MF w cargs hTH hTW hH hMF hargs
  have hal : cargs.length = fn.params.size + fn.nfree := by rw [hargs.length]; exact hlen
  let c : Ctx := ⟨w, bl, Blocks bl σ, MF, fn.ntmps, Tabs.T P, hTH, fun b hb ⟨id, o, h1, h2⟩ => hTW b hb (.inr ⟨id, o, h1, h2⟩), fun b hb hm => hTW b hb (.inl hm), hnp.2⟩
  haveI : CT c P := ⟨rfl⟩
  have hs : SatB c bl (get (argEnv 0 args ++ E)) (hget σ) ⟨cargs.toArray ++ Array.replicate (fn.ntmps - cargs.toArray.size) undef, []⟩ w := by
    refine ⟨rfl, by simp [c]; omega, fun k => ?_, hH, Stp.refl _ _, fun id o q h1 h2 => .inr ⟨id, o, h1, h2⟩, fun _ _ _ => rfl, hMF⟩
    rw [get_argEnvE]
    simp only [Nat.zero_le, if_true, Nat.sub_zero]
    cases hk : args[k]? with
    | none =>
      simp only
      rcases get_mem (l := E) (k := k) with hg | hg
      · rw [hg]; trivial
      · obtain ⟨h1, h2⟩ := (Tabs.T P).rel w (Mut bl MF (hget σ)) hTH hTW _ (hE _ hg)
        have e : tv ⟨cargs.toArray ++ Array.replicate (fn.ntmps - cargs.toArray.size) undef, []⟩ k = .pointer (some ⟨k - 1000000, 0, none⟩) := if_neg (by simp only at h1; omega)
        rw [e]
        exact h2.toC.toG.toV
    | some x =>
      obtain ⟨v, hv, hr⟩ := hargs.get hk
      have hlt := (List.getElem?_eq_some_iff.1 hv).1
      have : (cargs.toArray ++ Array.replicate (fn.ntmps - cargs.toArray.size) undef).getD k undef = v := by
        rw [Array.getD_eq_getD_getElem?, Array.getElem?_append_left (by simpa using hlt)]
        simp [hv]
      rw [tv_lo (by have := hnp.2; omega), this]
      exact hr
  refine calls_of_wp hfn hbody ?_
  refine Code.wp_mono (fun e a' w' hq => ?_) (code_sound (c := c) hm rfl body b hb ic hic ⟨argEnv 0 args ++ E, σ⟩ _ _ w hi ⟨bl, hs⟩)
  have fin : ∀ {s' : St} {ex : IX}, Done rs Post ex s' → SatS c s' a' w' → a'.defers = [] ∧ ∃ v, (results fn a'.tmps).run P w' = .ok v w' ∧ ∃ u r σ' bl', Ending.returned v = .returned u ∧ Post r σ' ∧ Closed r σ' ∧ HRel bl' (Mut bl' MF (hget σ')) MF w' (hget σ') ∧ VRel bl' (Mut bl' MF (hget σ')) w' u r ∧
      Stp (Blocks bl σ) w w' ∧ (∀ id o b, hget σ' id = some o → bl' id = some b → w.heap.size ≤ b ∨ Blocks bl σ b) ∧ ∀ id, (1000 ≤ id ∧ id < 2000) → bl' id = bl id := by
    rintro s0 ex ⟨_, s', hwk, fs, r, σ', h1, h2, h3, h4⟩ hs0
    obtain ⟨bl', hs2⟩ := SatS.frzs fs (hwk c a' w' hs0)
    obtain ⟨v, hv1, hv2⟩ := iret_run hs2 hrs h1
    have hs3 : SatB c bl' (get (frzs fs s').env) (hget σ') a' w' := hs2.weaken (fun _ => .inr rfl) h2
    refine ⟨hs2.defers, v, hv1, v, r, σ', bl', rfl, h4, h3, hs3.heap, ?_, hs3.step, hs3.own, fun id hid => hs3.stab id hid.1 hid.2⟩
    refine hv2.tr ⟨fun q hq _ => ⟨fun hm2 => hq ?_, rfl⟩, fun _ c1 _ _ hb => ⟨c1, hb, rfl⟩⟩ (fun _ _ => rfl)
    rcases hm2 with hm2 | ⟨id, o, h5, h6⟩
    · exact .inl hm2
    · exact .inr ⟨id, o, h2 id o h5, h6⟩
  cases e with
  | normal => obtain ⟨s', hk, hs'⟩ := hq; exact fin hk hs'
  | ret => obtain ⟨s', hk, hs'⟩ := hq; exact fin hk hs'
  | exit id => obtain ⟨s', hk, hs'⟩ := hq; exact absurd rfl (hk.1 id)
  | _ => exact hq.elim

theorem fun_sound {f : FuncId} {F : IFun} {ic : ICode} {args : List AV} {σ : List (Nat × AObj)} {Post : AV → List (Nat × AObj) → Prop} (hm : P.follows .mixedOrders = true) (hf : compF P f = some F) (hic : erase ic = F.body) (hlen : args.length = F.np)
    (hi : iwp P ic ⟨argEnv 0 args, σ⟩ (Done F.res Post)) : ACalls P f args σ (fun id => 1000 ≤ id ∧ id < 2000) Post :=
  fun_soundT [] (fun p hp => by cases hp) hm hf hic hlen (by rw [List.append_nil]; exact hi)

theorem ACalls.mono {f : FuncId} {args : List AV} {σ : List (Nat × AObj)} {Sb Sb' : Nat → Prop} {Post Post' : AV → List (Nat × AObj) → Prop} (h : ACalls P f args σ Sb Post) (hs : ∀ id, Sb' id → Sb id) (hp : ∀ r σ', Post r σ' → Post' r σ') : ACalls P f args σ Sb' Post' :=
  fun bl MF w cargs t1 t2 h1 h2 h3 => (h bl MF w cargs t1 t2 h1 h2 h3).mono fun _ _ ⟨v, r, σ', bl', q1, q2, q3, q4, q5, q6, q7, q8⟩ => ⟨v, r, σ', bl', q1, hp _ _ q2, q3, q4, q5, q6, q7, fun id hid => q8 id (hs id hid)⟩

/-- The end of a body that only computes. -/
def PDone (l : List IRes) (r : AV) (e : IX) (s : St) : Prop := (∀ j, e ≠ .ext j) ∧ ∃ s1, Wk s s1 ∧ ∃ fs, iret l (frzs fs s1) = some r ∧ idsV r = []

theorem iwp_mono : ∀ (x : ICode) (s : St) (K K' : IX → St → Prop), (∀ e s, K e s → K' e s) → iwp P x s K → iwp P x s K' := by
  have icallm0 : ∀ {f : FuncId} {args : List AV} {d : Option Nat} {s : St} {K K' : St → Prop}, (∀ s, K s → K' s) → icall0 P f args d s K → icall0 P f args d s K' := fun {f args d s K K'} hK h => by
    rcases h with ⟨args', r, b, h1, h2, h3, h4, h5⟩ | ⟨σ0, Sb, Post, ks, h1, h2, h3, h4⟩
    · exact .inl ⟨args', r, b, h1, h2, h3, h4, hK _ h5⟩
    · exact .inr ⟨σ0, Sb, Post, ks, h1, h2, h3, fun r σ' hp => by obtain ⟨s', q1, q2, q3⟩ := h4 r σ' hp; exact ⟨s', q1, q2, hK _ q3⟩⟩
  have icallm : ∀ {f : FuncId} {args : List AV} {d : Option Nat} {s : St} {K K' : St → Prop}, (∀ s, K s → K' s) → icall P f args d s K → icall P f args d s K' := fun {f args d s K K'} hK h => h.imp (icallm0 hK) fun ⟨fs, h⟩ => ⟨fs, icallm0 hK h⟩
  have iopm : ∀ {o : IOper} {s : St} {K K' : St → Prop}, (∀ s, K s → K' s) → iop P o s K → iop P o s K' := fun {o s K K'} hK h => by
    unfold iop at h ⊢
    split at h
    · exact icallm hK h
    · split at h
      · exact ⟨h.1, icallm hK h.2⟩
      · exact h
    · by_cases ha : allocs o.op = true
      · rw [if_pos ha] at h ⊢
        refine ⟨h.1, ?_⟩
        have h2 := h.2
        split at h2
        · exact hK _ h2
        · exact h2.elim
      · rw [if_neg ha] at h ⊢
        split at h
        · exact hK _ h
        · exact h
  have iopsm : ∀ (l : List IOper) (s : St) (K K' : St → Prop), (∀ s, K s → K' s) → iops P l s K → iops P l s K' := by
    intro l
    induction l with
    | nil => intro s K K' hK h; exact hK s h
    | cons o r ih =>
      intro s K K' hK h
      unfold iops at h ⊢
      split at h
      · exact iopm (fun s' hs' => ih s' K K' hK hs') h
      · split at h
        · exact ⟨fun ht => iopm (fun s' hs' => ih s' K K' hK hs') (h.1 ht), fun ht => ih _ K K' hK (h.2 ht)⟩
        · exact ih _ K K' hK h
        · exact h
  have idopm : ∀ {al : List (Nat × Nat)} {i : Nat} {o : IDOper} {hist : List HI} {s : St} {K K' : List HI → St → Prop}, (∀ x s, K x s → K' x s) → idop P al i o hist s K → idop P al i o hist s K' := fun {al i o hist s K K'} hK h => by
    unfold idop at h ⊢
    split at h
    · rcases h with ⟨args', r, b, h1, h2, h3, h4, h5, h6, h7, h8⟩ | ⟨k, ob, ob', Sb, r, h1, h2, h3, h4, h5, h6, h7, h8, h9⟩
      · exact .inl ⟨args', r, b, h1, h2, h3, h4, h5, h6, h7, hK _ _ h8⟩
      · exact .inr ⟨k, ob, ob', Sb, r, h1, h2, h3, h4, h5, h6, h7, h8, hK _ _ h9⟩
    · exact h
    · split at h
      · exact ⟨h.1, h.2.1, h.2.2.1, hK _ _ h.2.2.2⟩
      · exact h
  have idopsm : ∀ {al : List (Nat × Nat)} (l : List IDOper) (i : Nat) (hist : List HI) (s : St) (K K' : St → Prop), (∀ s, K s → K' s) → idops P al i l hist s K → idops P al i l hist s K' := by
    intro al l
    induction l with
    | nil => intro i hist s K K' hK h; exact hK s h
    | cons o r ih =>
      intro i hist s K K' hK h
      unfold idops at h ⊢
      split at h
      · exact idopm (fun x s' hs' => ih (i + 1) x s' K K' hK hs') h
      · split at h
        · exact ⟨fun ht => idopm (fun x s' hs' => ih (i + 1) x s' K K' hK hs') (h.1 ht), fun ht => ih _ _ _ K K' hK (h.2 ht)⟩
        · exact ih _ _ _ K K' hK h
        · exact h
  intro x
  induction x with
  | skip => intro s K K' hK h; exact hK _ _ h
  | ret => intro s K K' hK h; exact hK _ _ h
  | exit id => intro s K K' hK h; exact hK _ _ h
  | seq x y ihx ihy =>
    intro s K K' hK h
    refine ihx s _ _ (fun e s' hh => ?_) h
    cases e with
    | nrm => exact ihy s' K K' hK hh
    | _ => exact hK _ _ hh
  | cut x y ihx ihy =>
    intro s K K' hK h
    refine ihx s _ _ (fun e s' hh => ?_) h
    cases e with
    | nrm => obtain ⟨s'', h1, h2⟩ := hh; exact ⟨s'', h1, ihy s'' K K' hK h2⟩
    | _ => exact hK _ _ hh
  | cond v t e iht ihe =>
    intro s K K' hK h
    unfold iwp at h ⊢
    split at h
    · exact ⟨fun hb => iht _ K K' hK (h.1 hb), fun hb => ihe _ K K' hK (h.2 hb)⟩
    · exact h
  | block id x ih =>
    intro s K K' hK h
    refine ih s _ _ (fun e s' hh => ?_) h
    cases e with
    | ext j =>
      simp only at hh ⊢
      split
      · rename_i hj; rw [if_pos hj] at hh; exact hK _ _ hh
      · rename_i hj; rw [if_neg hj] at hh; exact hK _ _ hh
    | _ => exact hK _ _ hh
  | loop x ih =>
    intro s K K' hK h
    obtain ⟨I, h0, h1⟩ := h
    refine ⟨I, h0, fun n s hI => ih s _ _ (fun e s' hh => ?_) (h1 n s hI)⟩
    cases e with
    | nrm => exact hh
    | _ => exact hK _ _ hh
  | reg ops dr => intro s K K' hK h; exact iopsm ops s _ _ (fun s' hs' => hK _ _ hs') h
  | draw ops al dr => intro s K K' hK h; exact idopsm ops 0 [] _ _ _ (fun s' hs' => hK _ _ hs') h

theorem pfun_soundT {f : FuncId} {F : IFun} {ic : ICode} {args : List AV} {r : AV} (E : List (Nat × AV)) (hE : ∀ p ∈ E, p ∈ (Tabs.T P).env) (hm : P.follows .mixedOrders = true) (hf : compF P f = some F) (hic : erase ic = F.body) (hlen : args.length = F.np) (hi : iwp P ic ⟨argEnv 0 args ++ E, []⟩ (PDone F.res r)) : PCalls P f args r := by
  refine (fun_soundT (Post := fun r' σ' => r' = r ∧ σ' = []) E hE hm hf hic hlen (iwp_mono _ _ _ _ (fun e s ⟨h1, s1, hw, fs, h2, h3⟩ => ⟨h1, s1, hw, fs, r, [], h2, fun i o hi => by simp [hget] at hi, ⟨(fun i hi => by rw [h3] at hi; cases hi), (fun p hp => by cases hp)⟩, rfl, rfl⟩) hi)).mono (fun _ h => h.elim) (fun _ _ h => h)
theorem pfun_sound {f : FuncId} {F : IFun} {ic : ICode} {args : List AV} {r : AV} (hm : P.follows .mixedOrders = true) (hf : compF P f = some F) (hic : erase ic = F.body) (hlen : args.length = F.np) (hi : iwp P ic ⟨argEnv 0 args, []⟩ (PDone F.res r)) : PCalls P f args r := by
  refine (fun_sound (Post := fun r' σ' => r' = r ∧ σ' = []) hm hf hic hlen (iwp_mono _ _ _ _ (fun e s ⟨h1, s1, hw, fs, h2, h3⟩ => ⟨h1, s1, hw, fs, r, [], h2, fun i o hi => by simp [hget] at hi, ⟨(fun i hi => by rw [h3] at hi; cases hi), (fun p hp => by cases hp)⟩, rfl, rfl⟩) hi)).mono (fun _ h => h.elim) (fun _ _ h => h)
end
end Go.Mw
