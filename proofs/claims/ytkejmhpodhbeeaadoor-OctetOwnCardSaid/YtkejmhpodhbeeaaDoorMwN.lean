/-
  What the abstract weakest precondition says holds of the machine: operations and regions in the order of the text.
-/
import Derived.Test.YtkejmhpodhbeeaaDoorMwM
set_option linter.unusedSectionVars false
namespace Go.Mw

section
variable {P : Program} [Tabs P] {c : Ctx} [CT c P] {a : Act} {w : World} {s : St} {o : Oper} {io : IOper} {ops : Array Oper} {n : Nat}

theorem cOper_spec (hc : cOper P n ops o = some io) : cOp P o.op = some io.op ∧ io.dst = o.dst ∧ (∀ k, o.dst = some k → k < n) ∧
    ((o.guard = none ∧ io.g = none) ∨ ∃ j b k, o.guard = some (j, b) ∧ (ops[j]?).bind (·.dst) = some k ∧ io.g = some (k, b)) := by
  unfold cOper at hc
  split at hc
  case h_2 => cases hc
  rename_i op h1
  have hd : (match o.dst with | some d => decide (d < n) | none => true) = true → ∀ k, o.dst = some k → k < n := fun h k hk => by rw [hk] at h; simpa using h
  split at hc
  · rename_i h2 h3
    cases hc
    exact ⟨h1, rfl, hd h2, .inl ⟨h3, rfl⟩⟩
  · rename_i j b h2 h3
    split at hc
    case h_2 => cases hc
    rename_i k hk
    cases hc
    exact ⟨h1, rfl, hd h2, .inr ⟨j, b, k, h3, hk, rfl⟩⟩
  · cases hc

theorem hasBody_run {f : FuncId} (hb : hasBody P f = true) (args : Array Value) : (callFunc f args).run P w = .ok (.enter f args) w := by
  unfold hasBody at hb
  split at hb
  case h_2 => cases hb
  rename_i fn hf
  simp only [Bool.and_eq_true, bne_iff_ne] at hb
  obtain ⟨h1, h2⟩ := hb
  have h3 : fn.body.isNone = false := by cases h : fn.body <;> simp_all
  have h4 : ¬ fn.body = none := fun hn => by simp [hn] at h1
  simp [callFunc, hf, h2, h4]

theorem icall0_sound {f : FuncId} {cargs : List Value} {args : List AV} {d : Option Nat} (hd : ∀ k, d = some k → k < c.n) {K : St → Prop} {bl : Nat → Option Nat} (hs : SatB c bl (get s.env) (hget s.heap) a w)
    (ha : All2 (VRel bl (Mut bl c.MF (hget s.heap)) w) cargs args) (h : icall0 P f args d s K) :
    Calls P f cargs.toArray w fun e w' => ∃ v, e = .returned v ∧ ∃ s', K s' ∧ SatS c s' (a.put d v) w' := by
  rcases h with ⟨args', r, b, hp, hid, hco, hf, hk⟩ | ⟨σ0, Sb, Post, ks, hp, hσ, hks, hk⟩
  · refine (pure_call hs hp ha hid b hco hf).mono fun e w' ⟨v, he, hs', hv⟩ => ⟨v, he, s.put d r, hk, sat_put hs' d hd hv (fun _ => rfl) (fun _ => rfl)⟩
  · refine (obj_call hs hp ha hσ ks hks).mono fun e w' ⟨v, r, σ', bl2, he, hP, hs', hv⟩ => ?_
    obtain ⟨s', h1, h2, h3⟩ := hk r σ' hP
    exact ⟨v, he, s'.put d r, h3, sat_put hs' d hd hv h1 h2⟩

theorem icall_sound {f : FuncId} {cargs : List Value} {args : List AV} {d : Option Nat} (hd : ∀ k, d = some k → k < c.n) {K : St → Prop} {bl : Nat → Option Nat} (hs : SatB c bl (get s.env) (hget s.heap) a w)
    (ha : All2 (VRel bl (Mut bl c.MF (hget s.heap)) w) cargs args) (h : icall P f args d s K) :
    Calls P f cargs.toArray w fun e w' => ∃ v, e = .returned v ∧ ∃ s', K s' ∧ SatS c s' (a.put d v) w' := by
  rcases h with h | ⟨fs, h⟩
  · exact icall0_sound hd hs ha h
  · obtain ⟨h1, h2⟩ := SatB.frzs fs s hs
    exact icall0_sound hd h1 (ha.mapRight fun v x hv => h2 v x hv) h

theorem upon_calls {f : FuncId} {args : Array Value} {K : Act → World → Prop} {Q : Exit → Act → World → Prop} (hr : (execOp a.eval o).run P w = .ok (.enter f args) w)
    (h : Calls P f args w fun e w' => ∃ v, e = .returned v ∧ K (a.put o.dst v) w') : o.wp P a w K Q := by
  unfold Oper.wp
  rw [hr]
  simp only [Oper.upon]
  refine h.mono fun e w' ⟨v, he, hk⟩ => ?_
  subst he
  exact hk

theorem upon_ok {v : AV} {e : Eff} {K : Act → World → Prop} {Q : Exit → Act → World → Prop} {g : Nat → AV} {h : Nat → Option AObj} (hok : OpOK P c o a w g h v e)
    (hk : ∀ r w' bl', SatB c bl' (e.env g) (e.hp h) a w' → VRel bl' (Mut bl' c.MF (e.hp h)) w' r v → K (a.put o.dst r) w') : o.wp P a w K Q := by
  obtain ⟨r, w', bl', hr, h1, h2⟩ := hok
  unfold Oper.wp
  rcases hr with hr | ⟨hr, rfl⟩
  · rw [hr]; exact hk r w' bl' h1 h2
  · rw [hr]; exact hk undef w' bl' h1 h2

theorem call_args {bl : Nat → Option Nat} {g : Nat → AV} {h : Nat → Option AObj} (hs : SatB c bl g h a w) {cs : Array Operand} {vs : List IV} (hv : cVs cs.toList = some vs) : All2 (VRel bl (Mut bl c.MF h) w) (cs.map a.eval).toList (vs.map (val g)) := by
  rw [Array.toList_map]
  exact cVs_rel hs hv

theorem cOp_call {oo : Op} {f : FuncId} {args : List IV} (h : cOp P oo = some (.call f args)) : ∃ cl, oo = .call cl ∧ cl.callee = .value (.func f) ∧ hasBody P f = true ∧ cVs cl.args.toList = some args := by
  cases oo <;> simp only [cOp] at h
  case call cl =>
    unfold cCall at h
    split at h
    · rename_i f' hcl
      split at h
      case isFalse => cases h
      rename_i hb
      simp only [Option.map_eq_some_iff] at h
      obtain ⟨vs, hv, h⟩ := h
      cases h
      exact ⟨cl, rfl, hcl, hb, hv⟩
    all_goals
      exfalso
      repeat' (split at h)
      all_goals first
        | (cases h; done)
        | (simp only [Option.map_eq_some_iff] at h; obtain ⟨_, _, h⟩ := h; cases h)
  case binOp =>
    split at h
    · unfold cBin at h; split at h <;> cases h
    · cases h
  case convert =>
    split at h
    · unfold cConv at h
      repeat' (split at h)
      all_goals cases h
    · cases h
  case makeFunc fn first caps =>
    cases fn <;> simp only [cOp] at h <;> try (cases h; done)
    split at h
    · simp only [Option.map_eq_some_iff] at h; obtain ⟨_, _, h⟩ := h; cases h
    · cases h
  all_goals
    exfalso
    repeat' (split at h)
    all_goals first
      | (cases h; done)
      | (simp only [Option.map_eq_some_iff] at h; obtain ⟨_, _, h⟩ := h; cases h)

theorem cOp_callv {oo : Op} {f : IV} {args : List IV} (h : cOp P oo = some (.callv f args)) : ∃ cl t, oo = .call cl ∧ cl.callee = .value (.tmp t) ∧ f = .s t ∧ cVs cl.args.toList = some args := by
  cases oo <;> simp only [cOp] at h
  case call cl =>
    unfold cCall at h
    split at h
    case h_2 =>
      rename_i t hcl
      split at h
      case isFalse => cases h
      simp only [Option.map_eq_some_iff] at h
      obtain ⟨vs, hv, h⟩ := h
      cases h
      exact ⟨cl, t, rfl, hcl, rfl, hv⟩
    all_goals
      exfalso
      repeat' (split at h)
      all_goals first
        | (cases h; done)
        | (simp only [Option.map_eq_some_iff] at h; obtain ⟨_, _, h⟩ := h; cases h)
  case binOp =>
    split at h
    · unfold cBin at h; split at h <;> cases h
    · cases h
  case convert =>
    split at h
    · unfold cConv at h
      repeat' (split at h)
      all_goals cases h
    · cases h
  case makeFunc fn first caps =>
    cases fn <;> simp only [cOp] at h <;> try (cases h; done)
    split at h
    · simp only [Option.map_eq_some_iff] at h; obtain ⟨_, _, h⟩ := h; cases h
    · cases h
  all_goals
    exfalso
    repeat' (split at h)
    all_goals first
      | (cases h; done)
      | (simp only [Option.map_eq_some_iff] at h; obtain ⟨_, _, h⟩ := h; cases h)

theorem iop_sound (hc : cOper P n ops o = some io) (hn : c.n = n) {K : St → Prop} (h : iop P io s K) (hs : SatS c s a w) (Q : Exit → Act → World → Prop) :
    o.wp P a w (fun a' w' => ∃ s', K s' ∧ SatS c s' a' w') Q := by
  obtain ⟨h1, h2, h3, _⟩ := cOper_spec hc
  obtain ⟨bl, hs⟩ := hs
  have hd : ∀ k, io.dst = some k → k < c.n := fun k hk => by rw [hn]; exact h3 k (h2 ▸ hk)
  have plain : ∀ {s : St} {bl : Nat → Option Nat}, SatB c bl (get s.env) (hget s.heap) a w → (allocs io.op = true → hget s.heap (io.dst.getD 0) = none ∧ Unnamed (io.dst.getD 0) (get s.env) (hget s.heap) ∧ (io.dst.getD 0 < 1000 ∨ 2000 ≤ io.dst.getD 0)) →
      (match aev (io.dst.getD 0) io.op (val (get s.env)) (hget s.heap) with
        | some (v, e) => K ((s.eff e).put io.dst v)
        | none => False) → o.wp P a w (fun a' w' => ∃ s', K s' ∧ SatS c s' a' w') Q := by
    intro s bl hs hnew hm
    split at hm
    case h_2 => exact hm.elim
    rename_i v e he
    refine upon_ok (aev_ok hs h1 he hnew) (fun r w' bl' q1 q2 => ⟨_, hm, ?_⟩)
    rw [← h2]
    exact sat_put q1 io.dst hd q2 (get_eff s e) (hget_eff s e)
  unfold iop at h
  split at h
  · rename_i f args hop
    rw [hop] at h1
    obtain ⟨cl, hoo, hcl, hb, hv⟩ := cOp_call h1
    refine upon_calls (f := f) (args := cl.args.map a.eval) ?_ ?_
    · have := hasBody_run (w := w) hb (cl.args.map a.eval)
      simp [execOp, hoo, resolve, hcl, Act.eval, Deferred.ofValue, invoke, this]
    · have := icall_sound hd hs (call_args hs hv) h
      simp only [Array.toArray_toList] at this
      rw [← h2]
      exact this
  · rename_i f args hop
    rw [hop] at h1
    obtain ⟨cl, t, hoo, hcl, rfl, hv⟩ := cOp_callv h1
    split at h
    case h_2 => exact h.elim
    rename_i f caps hval
    obtain ⟨hb, h⟩ := h
    have hf := hs.env t
    simp only [val] at hval
    rw [hval] at hf
    obtain ⟨cs, hf1, hf2⟩ := hf
    refine upon_calls (f := f) (args := cl.args.map a.eval ++ cs.toArray) ?_ ?_
    · have := hasBody_run (w := w) hb (cl.args.map a.eval ++ cs.toArray)
      have hev : a.eval (.tmp t) = .func (.func f) #[] cs.toArray := by
        rw [(tv_lo' (a := a) (k := t) (fun b hb => by rw [hb] at hf1; cases hf1)).2] at hf1
        exact hf1
      simp [execOp, hoo, resolve, hcl, hev, Deferred.ofValue, invoke, this]
    · have hargs := (call_args hs hv).append (hf2.mono fun _ x _ hr => (show VRel bl (Mut bl c.MF (hget s.heap)) w _ x from by
        cases x <;> first | exact hr | trivial | (exfalso; simp only [PRel] at hr; cases hr)))
      have := icall_sound hd hs hargs h
      have e1 : ((cl.args.map a.eval).toList ++ cs).toArray = cl.args.map a.eval ++ cs.toArray := by apply Array.toList_inj.1; simp
      rw [e1] at this
      rw [← h2]
      exact this
  · split at h
    · rename_i hal
      obtain ⟨hlt, h⟩ := h
      obtain ⟨bl', hk⟩ := SatS.kill (i := io.dst.getD 0) ⟨bl, hs⟩
      exact plain hk (fun _ => ⟨(kill_unnamed s _).1, (kill_unnamed s _).2, .inl hlt⟩) h
    · rename_i hal
      exact plain hs (fun h => absurd h hal) h

theorem yielded_undef {bl : Nat → Option Nat} {M : Nat → Prop} {j k : Nat} (hj : (ops[j]?).bind (·.dst) = some k) (hk : VRel bl M w (tv a k) (.tup [])) : yielded ops a.tmps j = none := by
  obtain ⟨cs, h1, h2⟩ := hk
  rw [(tv_lo' (a := a) (k := k) (fun b hb => by rw [hb] at h1; cases h1)).2] at h1
  have hcs : cs = [] := by cases cs with | nil => rfl | cons => exact h2.elim
  subst hcs
  have : ∀ b, a.tmps[k]? ≠ some (.bool b) := fun b hb => by
    rw [Array.getD_eq_getD_getElem?, hb] at h1
    cases h1
  unfold yielded
  rw [hj]
  show (match a.tmps[k]? with | some (.bool b) => some b | _ => none) = none
  generalize a.tmps[k]? = x at this
  cases x with
  | none => rfl
  | some v => cases v <;> first | rfl | exact absurd rfl (this _)

/-- Operations in the order of the text. -/
theorem iops_sound (hn : c.n = n) (Q : Exit → Act → World → Prop) : ∀ (l : List Oper) (il : List IOper), cOps P n ops l = some il → ∀ (s : St) (K : St → Prop) (a : Act) (w : World), iops P il s K → SatS c s a w →
    (∀ s' a' w', K s' → SatS c s' a' w' → Q .normal a' w') → wpList P ops Q l a w
  | [], il, hc, s, K, a, w, h, hs, hQ => by
    simp only [cOps, Option.some.injEq] at hc
    subst hc
    exact hQ s a w h hs
  | o :: r, il, hc, s, K, a, w, h, hs, hQ => by
    simp only [cOps] at hc
    split at hc
    case h_2 => cases hc
    rename_i io il' h1 h2
    cases hc
    obtain ⟨_, hdst, hdn, hg⟩ := cOper_spec h1
    have run : ∀ {s : St}, iop P io s (fun s' => iops P il' s' K) → SatS c s a w → o.wp P a w (wpList P ops Q r) Q := fun {s} h hs =>
      Oper.wp_mono (fun a' w' ⟨s', h3, h4⟩ => iops_sound hn Q r il' h2 s' K a' w' h3 h4 hQ) (iop_sound h1 hn h hs Q)
    unfold wpList
    rcases hg with ⟨g1, g2⟩ | ⟨j, b, k, g1, g2, g3⟩
    · rw [if_pos (by simp [Region.wanted, g1])]
      simp only [iops, g2] at h
      exact .inl (run h hs)
    · simp only [iops, g3] at h
      split at h
      case h_3 => exact h.elim
      case h_2 =>
        rename_i hv
        obtain ⟨bl, hsb⟩ := hs
        have hk := hsb.env k
        rw [hv] at hk
        have hy := yielded_undef (ops := ops) g2 hk
        rw [if_neg (by simp [Region.wanted, g1, hy])]
        refine iops_sound hn Q r il' h2 _ K _ w h ?_ hQ
        rw [← hdst]
        exact sat_skip ⟨bl, hsb⟩ io.dst (fun q hq => by rw [hn]; exact hdn q (hdst ▸ hq)) ()
      rename_i t hv
      obtain ⟨bl, hsb⟩ := hs
      have hk := hsb.env k
      rw [hv] at hk
      have hkv := hk.bool
      rw [(tv_lo' (a := a) (k := k) (fun b hb => by rw [hb] at hkv; cases hkv)).2] at hkv
      have hkn : k < a.tmps.size := by
        rcases Nat.lt_or_ge k a.tmps.size with hlt | hge
        · exact hlt
        · rw [Array.getD_eq_getD_getElem?, Array.getElem?_eq_none hge] at hkv
          cases hkv
      have hy : yielded ops a.tmps j = some t := by
        have : a.tmps[k]? = some (.bool t) := by
          rw [Array.getD_eq_getD_getElem?, Array.getElem?_eq_getElem hkn] at hkv
          rw [Array.getElem?_eq_getElem hkn]
          simpa using hkv
        simp [yielded, g2, this]
      have hput : ∀ q : Bool, t = q → SatS c (s.put (some k) (.bool q)) a w := fun q hq => by
        refine ⟨bl, hsb.congr (fun i => ?_) (fun i => rfl)⟩
        simp only [St.put, get, get_del]
        by_cases hik : k = i
        · subst hik; simp [hv, hq]
        · have hik' : ¬ i = k := fun e => hik e.symm
          simp [hik, hik']
      by_cases htb : t = b
      · rw [if_pos (by simp [Region.wanted, g1, hy, htb])]
        exact .inl (run (h.1 htb) (hput b htb))
      · have htb' : t = !b := by cases t <;> cases b <;> simp_all
        rw [if_neg (by simp [Region.wanted, g1, hy, htb])]
        refine iops_sound hn Q r il' h2 _ K _ w (h.2 htb') ?_ hQ
        rw [← hdst]
        exact sat_skip (hput _ htb') io.dst (fun q hq => by rw [hn]; exact hdn q (hdst ▸ hq)) ()
end
end Go.Mw
