/-
  All code; functions: from the abstract weakest precondition of a function's body to its contract.
-/
import Derived.Test.YtkejmhpodhbeeaaDoorMwS
import Derived.Scope
set_option linter.unusedSectionVars false
namespace Go.Mw

/-- What is asked of the machine where the abstract walk asks 'K'. -/
def LQ (c : Ctx) (K : IX → St → Prop) : Exit → Act → World → Prop
  | .normal, a, w => ∃ s, K .nrm s ∧ SatS c s a w
  | .ret, a, w => ∃ s, K .ret s ∧ SatS c s a w
  | .exit id, a, w => ∃ s, K (.ext id) s ∧ SatS c s a w
  | _, _, _ => False

section
variable {P : Program} [Tabs P] {c : Ctx} [CT c P] {n : Nat}

theorem least {p : Nat → Prop} (h : ∃ n, p n) : ∃ n, p n ∧ ∀ m, m < n → ¬ p m := by
  obtain ⟨n, hn⟩ := h
  induction n using Nat.strongRecOn with
  | _ n ih =>
    by_cases hm : ∃ m, m < n ∧ p m
    · obtain ⟨m, h1, h2⟩ := hm
      exact ih m h1 h2
    · exact ⟨n, hn, fun m h1 h2 => hm ⟨m, h1, h2⟩⟩

open Classical in
theorem wp_loop_n {x : Code} {Q : Exit → Act → World → Prop} {a : Act} {w : World} (I : Nat → Act → World → Prop) (h0 : ∃ n, I n a w)
    (round : ∀ n a w, I n a w → x.wp P (Exit.then (fun a' w' => ∃ m, m < n ∧ I m a' w') Q) a w) : (Code.loop x).wp P Q a w := by
  refine wp_loop (fun a w => ∃ n, I n a w) (fun a w => if h : ∃ n, I n a w then Classical.choose (least h) else 0) h0 (fun a w hI => ?_)
  have hc := Classical.choose_spec (least hI)
  refine Code.wp_mono (fun e a' w' hq => ?_) (round _ a w hc.1)
  cases e <;> try exact hq
  obtain ⟨m, hm, hI'⟩ := hq
  refine ⟨⟨m, hI'⟩, ?_⟩
  rw [dif_pos ⟨m, hI'⟩, dif_pos hI]
  have hc' := Classical.choose_spec (least (p := fun n => I n a' w') ⟨m, hI'⟩)
  rcases Nat.lt_or_ge m (Classical.choose (least (p := fun n => I n a' w') ⟨m, hI'⟩)) with h1 | h1
  · exact absurd hI' (hc'.2 m h1)
  · omega

theorem cOps_get {ops : Array Oper} : ∀ {l : List Oper} {il : List IOper}, cOps P n ops l = some il → il.length = l.length ∧ ∀ (j : Nat) (io : IOper), il[j]? = some io → ∃ o, l[j]? = some o ∧ cOper P n ops o = some io
  | [], il, h => by simp only [cOps, Option.some.injEq] at h; subst h; simp
  | o :: r, il, h => by
    simp only [cOps] at h
    split at h
    case h_2 => cases h
    rename_i x xs h1 h2
    cases h
    obtain ⟨h3, h4⟩ := cOps_get h2
    refine ⟨by simp [h3], fun j io hj => ?_⟩
    cases j with
    | zero => simp at hj; subst hj; exact ⟨o, by simp, h1⟩
    | succ j => simp at hj; obtain ⟨o', h5, h6⟩ := h4 j io hj; exact ⟨o', by simpa using h5, h6⟩

theorem alPairs_mem : ∀ (l : List IOper) (i : Nat) (d m : Nat), (d, m) ∈ alPairs i l ↔ ∃ j o, l[j]? = some o ∧ allocs o.op = true ∧ d = o.dst.getD 0 ∧ m = i + j
  | [], i, d, m => by simp [alPairs]
  | o :: r, i, d, m => by
    have ih := alPairs_mem r (i + 1) d m
    have key : (∃ j o', (o :: r)[j]? = some o' ∧ allocs o'.op = true ∧ d = o'.dst.getD 0 ∧ m = i + j) ↔ (allocs o.op = true ∧ d = o.dst.getD 0 ∧ m = i) ∨ ∃ j o', r[j]? = some o' ∧ allocs o'.op = true ∧ d = o'.dst.getD 0 ∧ m = i + 1 + j := by
      constructor
      · rintro ⟨j, o', h1, h2, h3, h4⟩
        cases j with
        | zero => simp at h1; subst h1; exact .inl ⟨h2, h3, by omega⟩
        | succ j => exact .inr ⟨j, o', by simpa using h1, h2, h3, by omega⟩
      · rintro (⟨h2, h3, h4⟩ | ⟨j, o', h1, h2, h3, h4⟩)
        · exact ⟨0, o, by simp, h2, h3, by omega⟩
        · exact ⟨j + 1, o', by simpa using h1, h2, h3, by omega⟩
    rw [key, ← ih]
    by_cases ha : allocs o.op = true
    · rw [show alPairs i (o :: r) = (o.dst.getD 0, i) :: alPairs (i + 1) r from by simp [alPairs, ha]]
      simp [ha]
    · rw [show alPairs i (o :: r) = alPairs (i + 1) r from by simp [alPairs, ha]]
      simp [ha]

theorem nodupB_spec : ∀ {l : List Nat}, nodupB l = true → l.Nodup
  | [], _ => by simp
  | x :: r, h => by
    simp only [nodupB, Bool.and_eq_true, Bool.not_eq_true', List.contains_eq_mem, decide_eq_false_iff_not] at h
    exact List.nodup_cons.2 ⟨h.1, nodupB_spec h.2⟩

theorem alOne_of {al : List (Nat × Nat)} (h : (al.map (·.1)).Nodup) : AlOne al := by
  induction al with
  | nil => intro d m m' h1; cases h1
  | cons p r ih =>
    simp only [List.map_cons, List.nodup_cons] at h
    intro d m m' h1 h2
    rcases List.mem_cons.1 h1 with e1 | h1 <;> rcases List.mem_cons.1 h2 with e2 | h2
    · rw [← e1] at e2; cases e2; rfl
    · exact absurd (List.mem_map.2 ⟨(d, m'), h2, by rw [← e1]⟩) h.1
    · exact absurd (List.mem_map.2 ⟨(d, m), h1, by rw [← e2]⟩) h.1
    · exact ih h.2 d m m' h1 h2

theorem kills_unnamed : ∀ (l : List Nat) (s : St) (d : Nat), (hget s.heap d = none ∧ Unnamed d (get s.env) (hget s.heap)) ∨ d ∈ l → hget (kills l s).heap d = none ∧ Unnamed d (get (kills l s).env) (hget (kills l s).heap)
  | [], s, d, h => by rcases h with h | h; exact h; cases h
  | i :: r, s, d, h => by
    refine kills_unnamed r (s.kill i) d ?_
    by_cases hd : d = i
    · subst hd; exact .inl (kill_unnamed s d)
    · rcases h with ⟨h1, h2⟩ | h
      · refine .inl ⟨by simp [St.kill, hget_purH, hget_hdel, h1], fun k => ?_, fun j o hj hr q hq x hx => ?_⟩
        · simp only [St.kill, get_purE]
          unfold purV
          split
          · rfl
          · exact h2.1 k
        · simp only [St.kill, hget_purH, hget_hdel, Option.map_eq_some_iff] at hj
          obtain ⟨o0, h3, rfl⟩ := hj
          split at h3
          · cases h3
          · rw [purO_rec] at hr
            simp only [purO, hr, if_true, List.mem_map] at hq
            obtain ⟨q0, hq0, rfl⟩ := hq
            obtain ⟨x0, hx0, rfl⟩ := List.mem_map.1 hx
            unfold purC
            split
            · rfl
            · exact h2.2 j o0 h3 hr q0 hq0 x0 hx0
      · rcases List.mem_cons.1 h with h | h
        · exact absurd h hd
        · exact .inr h

theorem held_pairs {al : List (Nat × Nat)} : ∀ {items : List Item} {hist : List HI}, Held al hist items → (∀ t ∈ items, (∀ y ∈ hist, y.i ∈ t.bef ∨ Meet t.x y) ∧ t.x.i = t.i ∧ (∀ d, d ∈ idsV (evV t.ev) ∨ d ∈ (evE t.ev).ids → ∀ m, (d, m) ∈ al → m = t.i ∨ m ∈ t.bef)) ∧
    items.Pairwise (fun m t => m.i ∈ t.bef ∨ Meet t.x m.x)
  | [], _, _ => ⟨by simp, List.Pairwise.nil⟩
  | t :: R, hist, h => by
    obtain ⟨h1, h2, h3, h4⟩ := h
    obtain ⟨h5, h6⟩ := held_pairs h4
    refine ⟨fun q hq => ?_, List.pairwise_cons.2 ⟨fun q hq => ?_, h6⟩⟩
    · rcases List.mem_cons.1 hq with rfl | hq
      · exact ⟨h2, h1, h3⟩
      · exact ⟨fun y hy => (h5 q hq).1 y (by simp [hy]), (h5 q hq).2⟩
    · have := (h5 q hq).1 t.x (by simp)
      rwa [h1] at this

theorem draw_sound {ops : Array Oper} {dr : List Nat → List Nat} {ic : ICode} {id : Nat} {s : St} {K : IX → St → Prop} {a : Act} {w : World} (hm : P.follows .mixedOrders = true) (hc : cDraw P n ops dr = some ic) (hn : c.n = n) (hi : iwp P ic s K) (hs : SatS c s a w) :
    (Code.region id ops true).wp P (LQ c K) a w := by
  unfold cDraw at hc
  split at hc
  · cases hc
  rename_i l hl
  simp only at hc
  split at hc
  case isFalse => cases hc
  rename_i hcond
  simp only [Bool.and_eq_true] at hcond
  obtain ⟨⟨⟨⟨c1, c2⟩, c3⟩, c4⟩, c5⟩ := hcond
  cases hc
  obtain ⟨hlen, hget'⟩ := cOps_get hl
  simp only [Array.length_toList] at hlen
  have hO := ordOk_spec c1
  have hone : AlOne (alPairs 0 l) := alOne_of (nodupB_spec c4)
  have hal : ∀ d m, (d, m) ∈ alPairs 0 l → d < 1000 := fun d m hd => by simpa using List.all_eq_true.1 c3 (d, m) hd
  simp only [iwp] at hi
  have hlz : ∀ (j : Nat) (o : IDOper), (l.zipIdx.map fun p => (⟨p.1, (befs ops.toList []).getD p.2 []⟩ : IDOper))[j]? = some o → l[j]? = some o.o ∧ o.bef = (befs ops.toList []).getD j [] := fun j o hj => by
    simp only [List.getElem?_map, List.getElem?_zipIdx, Option.map_map, Option.map_eq_some_iff, Function.comp] at hj
    obtain ⟨io, h1, rfl⟩ := hj
    exact ⟨h1, by simp⟩
  have hopi : ∀ (j : Nat) (io : IOper), l[j]? = some io → ∃ o, ops[j]? = some o ∧ cOper P n ops o = some io := fun j io hj => by
    obtain ⟨o, h1, h2⟩ := hget' j io hj
    exact ⟨o, by rw [← Array.getElem?_toList]; exact h1, h2⟩
  obtain ⟨items, s', hK, hT, hH, hidx, hmap⟩ := idops_trace hone _ 0 [] _ _ hi (fun d m hdm _ => kills_unnamed _ s d (.inr (List.mem_map.2 ⟨(d, m), hdm, rfl⟩))) (fun j o hj => by
    obtain ⟨h1, h2⟩ := hlz j o hj
    obtain ⟨oo, h3, h4⟩ := hopi j o.o h1
    refine ⟨fun ha => (alPairs_mem l 0 _ _).2 ⟨j, o.o, h1, ha, rfl, by omega⟩, fun m hm => ?_, List.all_eq_true.1 c5 o.o (List.mem_of_getElem? h1)⟩
    rw [h2] at hm
    have := hO.bef_lt j oo h3 m hm
    omega)
  obtain ⟨bl, hk⟩ := SatS.kills ((alPairs 0 l).map (·.1)) hs
  have hilen : items.length = ops.size := by
    have := congrArg List.length hmap
    simp at this
    omega
  have hitem : ∀ (j : Nat) (t : Item), items[j]? = some t → t.i = j ∧ l[j]? = some t.o ∧ t.bef = (befs ops.toList []).getD j [] := fun j t hj => by
    have h1 : (items.map Item.i)[j]? = some t.i := by simp [hj]
    rw [hidx] at h1
    have h2 : (items.map fun t => (⟨t.o, t.bef⟩ : IDOper))[j]? = some ⟨t.o, t.bef⟩ := by simp [hj]
    rw [hmap] at h2
    obtain ⟨h3, h4⟩ := hlz j _ h2
    refine ⟨?_, h3, h4⟩
    rw [List.getElem?_range' (by
      have := (List.getElem?_eq_some_iff.1 h1).1
      simpa using this)] at h1
    simp at h1
    omega
  have hmem : ∀ t ∈ items, t.i < ops.size ∧ items[t.i]? = some t := fun t ht => by
    obtain ⟨j, hj⟩ := List.getElem?_of_mem ht
    have := (hitem j t hj).1
    subst this
    exact ⟨by rw [← hilen]; exact (List.getElem?_eq_some_iff.1 hj).1, hj⟩
  obtain ⟨hp1, hp2⟩ := held_pairs hH
  have hK' : ∀ (a' : Act) (w' : World) (bl' : Nat → Option Nat), SatB c bl' (get s'.env) (hget s'.heap) a' w' → LQ c K .normal a' w' := fun a' w' bl' hs' => ⟨_, hK, SatS.dels _ ⟨bl', hs'⟩⟩
  refine wp_region_any hm ?_
  refine any_sound hn hone hal hO hK' ops.size items (Array.replicate ops.size false) _ _ a _ bl hilen (by simp) (hk.world rfl rfl rfl) hT ?_ (fun j hj => ?_) (fun i o hi => ?_) (fun t ht => ?_) ?_
  · intro d m hdm _
    exact kills_unnamed _ s d (.inr (List.mem_map.2 ⟨(d, m), hdm, rfl⟩))
  · constructor
    · intro _
      have hj' : j < items.length := by omega
      exact ⟨items[j], List.getElem_mem hj', (hitem j _ (List.getElem?_eq_getElem hj')).1⟩
    · intro _; simp [Array.getD_eq_getD_getElem?, hj]
  · exfalso
    simp only [Array.getD_eq_getD_getElem?, Array.getElem?_replicate] at hi
    split at hi <;> simp at hi
  · obtain ⟨h1, h2⟩ := hmem t ht
    obtain ⟨_, h3, h4⟩ := hitem t.i t h2
    obtain ⟨oo, h5, h6⟩ := hopi t.i t.o h3
    exact ⟨oo, h5, h6, h4, List.all_eq_true.1 c5 t.o (List.mem_of_getElem? h3), fun ha => (alPairs_mem l 0 _ _).2 ⟨t.i, t.o, h3, ha, rfl, by omega⟩, (hp1 t ht).2.2⟩
  · refine List.pairwise_iff_getElem.2 fun i j hi hj hij => ?_
    have e1 := hitem i _ (List.getElem?_eq_getElem hi)
    have e2 := hitem j _ (List.getElem?_eq_getElem hj)
    refine ⟨by rw [e1.1, e2.1]; exact hij, ?_⟩
    rcases List.pairwise_iff_getElem.1 hp2 i j hi hj hij with h1 | h1
    · exact .inl h1
    · by_cases hb : items[i].i ∈ items[j].bef
      · exact .inl hb
      · refine .inr ⟨?_, h1⟩
        have hap := List.all_eq_true.1 (List.all_eq_true.1 c2 j (List.mem_range.2 (by rw [hlen]; omega))) i (List.mem_range.2 hij)
        simp only [e1.2.1, e2.2.1, Bool.or_eq_true, List.contains_eq_mem, decide_eq_true_eq, Bool.and_eq_true] at hap
        rw [e1.1, e2.2.2] at hb
        rcases hap with hap | ⟨hap1, hap2⟩
        · exact absurd hap hb
        · refine ⟨fun d hd => ?_, fun d hd => ?_⟩
          · rw [hd] at hap1
            simp only [Bool.and_eq_true, Bool.not_eq_true', decide_eq_false_iff_not, bne_iff_ne] at hap1
            exact ⟨hap1.1, hap1.2⟩
          · rw [hd] at hap2
            simpa using hap2

theorem erase_seq {ic x y : ICode} (h : erase ic = .seq x y) : ∃ x' y', erase x' = x ∧ erase y' = y ∧ (ic = .seq x' y' ∨ ic = .cut x' y') := by
  cases ic <;> simp only [erase] at h <;> first | (cases h; done) | skip
  · rename_i x' y'; cases h; exact ⟨x', y', rfl, rfl, .inl rfl⟩
  · rename_i x' y'; cases h; exact ⟨x', y', rfl, rfl, .inr rfl⟩
theorem erase_cond {ic x y : ICode} {v : IV} (h : erase ic = .cond v x y) : ∃ x' y', erase x' = x ∧ erase y' = y ∧ ic = .cond v x' y' := by
  cases ic <;> simp only [erase] at h <;> first | (cases h; done) | skip
  rename_i x' y'; cases h; exact ⟨x', y', rfl, rfl, rfl⟩
theorem erase_block {ic x : ICode} {id : Nat} (h : erase ic = .block id x) : ∃ x', erase x' = x ∧ ic = .block id x' := by
  cases ic <;> simp only [erase] at h <;> first | (cases h; done) | skip
  rename_i x'; cases h; exact ⟨x', rfl, rfl⟩
theorem erase_loop {ic x : ICode} (h : erase ic = .loop x) : ∃ x', erase x' = x ∧ ic = .loop x' := by
  cases ic <;> simp only [erase] at h <;> first | (cases h; done) | skip
  rename_i x'; cases h; exact ⟨x', rfl, rfl⟩
theorem erase_same {ic x : ICode} (h : erase ic = x) (hx : (∃ ops dr, x = .reg ops dr) ∨ (∃ ops al dr, x = .draw ops al dr) ∨ x = .skip ∨ x = .ret ∨ ∃ id, x = .exit id) : ic = x := by
  rcases hx with ⟨ops, dr, rfl⟩ | ⟨ops, al, dr, rfl⟩ | rfl | rfl | ⟨id, rfl⟩ <;> cases ic <;> simp only [erase] at h <;> first | (cases h; done) | rfl | exact h

/-- All code. -/
theorem code_sound (hm : P.follows .mixedOrders = true) (hn : c.n = n) {sh : List (List Nat)} : ∀ (x : Code) (ic0 : ICode), comp P n sh x = some ic0 → ∀ (ic : ICode), erase ic = ic0 → ∀ (s : St) (K : IX → St → Prop) (a : Act) (w : World), iwp P ic s K → SatS c s a w → x.wp P (LQ c K) a w := by
  intro x
  induction x with
  | skip => intro ic0 hc ic he s K a w hi hs; simp only [comp, Option.some.injEq] at hc; subst hc; rw [erase_same he (by simp)] at hi; exact wp_skip ⟨s, hi, hs⟩
  | ret => intro ic0 hc ic he s K a w hi hs; simp only [comp, Option.some.injEq] at hc; subst hc; rw [erase_same he (by simp)] at hi; exact wp_ret ⟨s, hi, hs⟩
  | exit id => intro ic0 hc ic he s K a w hi hs; simp only [comp, Option.some.injEq] at hc; subst hc; rw [erase_same he (by simp)] at hi; exact wp_exit ⟨s, hi, hs⟩
  | label l => intro ic0 hc ic he s K a w hi hs; simp only [comp, Option.some.injEq] at hc; subst hc; rw [erase_same he (by simp)] at hi; exact wp_label ⟨s, hi, hs⟩
  | seq x y ihx ihy =>
    intro ic0 hc ic he s K a w hi hs
    simp only [comp] at hc
    split at hc
    case h_2 => cases hc
    rename_i ix iy h1 h2
    cases hc
    obtain ⟨x', y', e1, e2, e3⟩ := erase_seq he
    rcases e3 with rfl | rfl
    · refine wp_seq (Code.wp_mono (fun e a' w' hq => ?_) (ihx ix h1 x' e1 s _ a w hi hs))
      cases e with
      | normal => obtain ⟨s', hk, hs'⟩ := hq; exact ihy iy h2 y' e2 s' K a' w' hk hs'
      | _ => exact hq
    · refine wp_seq (Code.wp_mono (fun e a' w' hq => ?_) (ihx ix h1 x' e1 s _ a w hi hs))
      cases e with
      | normal => obtain ⟨s', ⟨s'', hwk, hk⟩, hs'⟩ := hq; exact ihy iy h2 y' e2 s'' K a' w' hk (hwk _ _ _ hs')
      | _ => exact hq
  | cond v x y ihx ihy =>
    intro ic0 hc ic he s K a w hi hs
    simp only [comp] at hc
    split at hc
    case h_2 => cases hc
    rename_i iv ix iy h0 h1 h2
    cases hc
    obtain ⟨x', y', e1, e2, rfl⟩ := erase_cond he
    simp only [iwp] at hi
    split at hi
    case h_2 => exact hi.elim
    rename_i b hv
    obtain ⟨bl, hsb⟩ := hs
    have hvr := cV_rel hsb h0
    rw [hv] at hvr
    have href : ∀ q, b = q → SatS c (refine iv q s) a w := fun q hq => by
      cases iv with
      | c y => exact ⟨bl, hsb⟩
      | s k => exact ⟨bl, hsb.congr (fun j => by rw [show refine (.s k) q s = s.put (some k) (.bool q) from rfl, get_refine hv hq]) (fun j => rfl)⟩
    refine wp_cond hvr.bool ?_
    cases b with
    | true => exact ihx ix h1 x' e1 _ K a w (hi.1 rfl) (href true rfl)
    | false => exact ihy iy h2 y' e2 _ K a w (hi.2 rfl) (href false rfl)
  | block id x ih =>
    intro ic0 hc ic he s K a w hi hs
    simp only [comp, Option.map_eq_some_iff] at hc
    obtain ⟨ix, h1, rfl⟩ := hc
    obtain ⟨x', e1, rfl⟩ := erase_block he
    refine wp_block (Code.wp_mono (fun e a' w' hq => ?_) (ih ix h1 x' e1 s _ a w hi hs))
    cases e with
    | exit j =>
      obtain ⟨s', hk, hs'⟩ := hq
      simp only at hk
      simp only [Exit.inBlock]
      split
      · rename_i hj; rw [if_pos hj] at hk; exact ⟨s', hk, hs'⟩
      · rename_i hj; rw [if_neg hj] at hk; exact ⟨s', hk, hs'⟩
    | _ => exact hq
  | loop x ih =>
    intro ic0 hc ic he s K a w hi hs
    simp only [comp, Option.map_eq_some_iff] at hc
    obtain ⟨ix, h1, rfl⟩ := hc
    obtain ⟨x', e1, rfl⟩ := erase_loop he
    obtain ⟨I, ⟨m, s0, h0, hwk⟩, hstep⟩ := hi
    refine wp_loop_n (fun m a w => ∃ s, I m s ∧ SatS c s a w) ⟨m, s0, h0, hwk _ _ _ hs⟩ (fun m a w ⟨s, hI, hs⟩ => ?_)
    refine Code.wp_mono (fun e a' w' hq => ?_) (ih ix h1 x' e1 s _ a w (hstep m s hI) hs)
    cases e with
    | normal =>
      obtain ⟨s', ⟨m', s'', h2, h3, h4⟩, hs'⟩ := hq
      exact ⟨m', h2, s'', h3, h4 _ _ _ hs'⟩
    | _ => exact hq
  | scope x ih =>
    intro ic0 hc ic he s K a w hi hs
    simp only [comp] at hc
    refine wp_scope_straight (Code.wp_mono (fun e a' w' hq => ?_) (ih ic0 hc ic he s K a w hi hs))
    cases e <;> exact hq
  | region id ops d =>
    intro ic0 hc ic he s K a w hi hs
    cases d with
    | true =>
      have hd : ∃ ops' al dr, ic0 = .draw ops' al dr := by
        simp only [comp] at hc
        unfold cDraw at hc
        split at hc
        · cases hc
        · simp only at hc
          split at hc
          · cases hc; exact ⟨_, _, _, rfl⟩
          · cases hc
      rw [erase_same he (.inr (.inl hd))] at hi
      exact draw_sound hm hc hn hi hs
    | false =>
      simp only [comp] at hc
      split at hc
      case h_2 => cases hc
      rename_i l hl
      cases hc
      rw [erase_same he (.inl ⟨_, _, rfl⟩)] at hi
      simp only [iwp] at hi
      exact wp_region_list (iops_sound hn _ ops.toList l hl s _ a w hi hs (fun s' a' w' hk hs' => ⟨_, hk, SatS.dels _ hs'⟩))
  | rangeFunc f ps as b => intro ic0 hc; simp [comp] at hc
  | goto l => intro ic0 hc; simp [comp] at hc
  | refuse y => intro ic0 hc; simp [comp] at hc
end
end Go.Mw
