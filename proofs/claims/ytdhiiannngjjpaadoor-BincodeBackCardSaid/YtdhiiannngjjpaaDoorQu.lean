/-
  Chapter 11, walks: the law BincodeBack.
-/
import Derived.Test.YtdhiiannngjjpaaDoorQv
set_option linter.unusedVariables false
set_option linter.unusedSimpArgs false
set_option linter.unusedSectionVars false
set_option maxRecDepth 100000
set_option maxHeartbeats 40000000
set_option linter.unusedVariables false
set_option linter.unusedSimpArgs false
namespace Go.Proofs.YtdhiiannngjjpaaDoor
open Go Go.Mw
-- @U: ro, wo, wa, wx, rx, ins_e, vl_e, insC, slv_none, slv_some

def encA (L : List Ins) : List UInt8 := L.flatMap encI
theorem encA_next {L : List Ins} {i : Nat} (h : i < L.length) : encA (L.take (i + 1)) = encA (L.take i) ++ encI (nth L i) := by
  unfold encA
  rw [List.take_succ_eq_append_getElem h, List.flatMap_append, nth_eq h]
  simp
theorem encA_drop {L : List Ins} {i : Nat} (h : i < L.length) (r : List UInt8) : (encA L ++ r).drop (encA (L.take i)).length = encI (nth L i) ++ (encA (L.drop (i + 1)) ++ r) := by
  have e : encA L = encA (L.take i) ++ encA (L.drop i) := by
    conv => lhs; rw [← List.take_append_drop i L]
    simp only [encA, List.flatMap_append]
  rw [e, List.append_assoc, List.drop_left, List.drop_eq_getElem_cons h, ← nth_eq h]
  simp [encA]
theorem pPuts_ok : ∀ (L : List Ins) (l : List UInt8), (∀ x ∈ L, x.lb.length < 4294967296) → (pPuts L l 0 = (l ++ encA L, 0) ∧ ∀ x ∈ L, PL x = true) ∨ (pPuts L l 0).2 = 10
  | [], l, _ => .inl ⟨by simp [pPuts, encA], fun x hx => by cases hx⟩
  | x :: L, l, h => by
    have hx := h x (List.mem_cons_self ..)
    by_cases hp : PL x = true
    · have e : pPut x l 0 = (l ++ encI x, 0) := by
        unfold pPut
        rw [if_pos hp, if_neg (by omega)]
        rfl
      rw [pPuts, e]
      rcases pPuts_ok L (l ++ encI x) (fun y hy => h y (List.mem_cons_of_mem _ hy)) with ⟨g1, g2⟩ | g
      · refine .inl ⟨by rw [g1]; simp [encA], fun y hy => ?_⟩
        rcases List.mem_cons.1 hy with rfl | hy
        · exact hp
        · exact g2 y hy
      · exact .inr g
    · right
      have e : pPut x l 0 = (l, 10) := by
        unfold pPut
        rw [if_neg hp]
        rfl
      rw [pPuts, e, pPuts_e (show (10 : Int) ≠ 0 by decide)]
theorem w_back11 (L : List Ins) (hi : inL L) : PCalls Tryd.prog n_law11_BincodeBack [.sl 9 (L.map insC)] (.bool true) := by
  refine pfun_sound (ic := F_law11_BincodeBack.body) mixed c_law11_BincodeBack rfl rfl ?_
  simp only [go_sem, ro, wo, wa, wx, rx, ins_e, vl_e, insC, F_law11_BincodeBack]
  refine call_same (s_few11 L) (by simp [go_sem, ro, wo, wa, wx, rx, ins_e, vl_e, insC]) ?_
  cases hf : fewB L
  · simp only [go_sem, ro, wo, wa, wx, rx, ins_e, vl_e, insC]
    refine call_same (s_alive11) (by simp [go_sem, ro, wo, wa, wx, rx, ins_e, vl_e, insC]) ?_
    simp only [go_sem, ro, wo, wa, wx, rx, ins_e, vl_e, insC]
    exact pdone [] (by simp only [go_sem, ro, wo, wa, wx, rx, ins_e, vl_e, insC]) (by first | rfl | simp [go_sem, slv_ids, ro, wo, wa, wx, rx, ins_e, vl_e, insC])
  obtain ⟨h60, ho⟩ := fewB_ok (fun x hx => (hi x hx).2.2) hf
  simp only [go_sem, ro, wo, wa, wx, rx, ins_e, vl_e, insC]
  refine loop_rule (fun i : Nat => ⟨[(3, .int .i64 i), (0, .sl 9 (L.map insC))], []⟩) (fun i => i ≤ L.length ∧ ∀ k, k < i → (nth L k).lb.length ≤ 64) (fun i => L.length - i) 0 ⟨Nat.zero_le _, fun k hk => absurd hk (Nat.not_lt_zero k)⟩ (Wk.of ?_ ?_) ?_
  · simp only [go_sem, ro, wo, wa, wx, rx, ins_e, vl_e, insC]; try simp
  · simp only [go_sem, ro, wo, wa, wx, rx, ins_e, vl_e, insC]
  rintro i ⟨hi2, h64⟩
  by_cases h1 : (i : Int) < (L.length : Int)
  · have hi' : i < L.length := by omega
    have e8 := wi (n := (i : Int) + 1) (by omega) (by omega)
    by_cases h2 : ((nth L i).lb.length : Int) > 64
    · simp only [go_sem, ro, wo, wa, wx, rx, ins_e, vl_e, insC, decide_eq_true h1, List.length_map, decide_eq_true h2]
      refine ⟨by omega, h1, ?_⟩
      refine call_same (s_alive11) (by simp [go_sem, ro, wo, wa, wx, rx, ins_e, vl_e, insC]) ?_
      simp only [go_sem, ro, wo, wa, wx, rx, ins_e, vl_e, insC]
      exact pdone [] (by simp only [go_sem, ro, wo, wa, wx, rx, ins_e, vl_e, insC]) (by first | rfl | simp [go_sem, slv_ids, ro, wo, wa, wx, rx, ins_e, vl_e, insC])
    · simp only [go_sem, ro, wo, wa, wx, rx, ins_e, vl_e, insC, decide_eq_true h1, List.length_map, decide_eq_false h2]
      refine ⟨by omega, h1, ?_⟩
      refine klp_n (i + 1) ⟨by omega, fun k hk => ?_⟩ (show L.length - (i + 1) < L.length - i by omega) (Wk.of ?_ ?_)
      · rcases Nat.lt_or_ge k i with h4 | h4
        · exact h64 k h4
        · obtain rfl : k = i := by omega
          omega
      · simp only [go_sem, ro, wo, wa, wx, rx, ins_e, vl_e, insC, e8]; try simp
      · simp only [go_sem, ro, wo, wa, wx, rx, ins_e, vl_e, insC]
  have hlb : ∀ x ∈ L, x.lb.length ≤ 64 := fun x hx => by
    obtain ⟨k, hk, rfl⟩ := List.mem_iff_getElem.1 hx
    have := h64 k (by omega)
    rwa [nth_eq hk] at this
  have hp := s_putall (l := []) (e := 0) (by simp) L h60 ho hi
  have hln := pPuts_len ho [] 0 L.length
  have hok := pPuts_ok L [] (fun x hx => by have := hlb x hx; omega)
  rw [List.take_length, List.length_nil] at hln
  simp only [go_sem, ro, wo, wa, wx, rx, ins_e, vl_e, insC, decide_eq_false h1]
  refine call_wnew 904 905 (by decide) (by decide) (by decide) (by simp only [go_sem, ro, wo, wa, wx, rx, ins_e, vl_e, insC]) (by simp only [go_sem, ro, wo, wa, wx, rx, ins_e, vl_e, insC]) ?_
  simp only [go_sem, ro, wo, wa, wx, rx, ins_e, vl_e, insC]
  refine call_w [] (k := 904) (j := 905) (hp) (by decide) (by decide) (by decide) (by decide) (by first | rfl | simp [go_sem, slv_ids, ro, wo, wa, wx, rx, ins_e, vl_e, insC]) (by simp [go_sem, ro, wo, wa, wx, rx, ins_e, vl_e, insC]) (by rfl) (by rfl) (by rfl) ?_
  rcases hok with ⟨h2, h3⟩ | h2
  rotate_left
  · generalize pPuts L [] 0 = P at *
    obtain ⟨p, e⟩ := P
    obtain rfl : e = 10 := h2
    have hd := s_wdone true p 10 (by simp only at hln; omega)
    rw [show wD true p 10 = (none, 10) from rfl] at hd
    simp only [go_sem, ro, wo, wa, wx, rx, ins_e, vl_e, insC]
    refine call_w [] (k := 904) (j := 905) (hd) (by decide) (by decide) (by decide) (by decide) (by first | rfl | simp [go_sem, slv_ids, ro, wo, wa, wx, rx, ins_e, vl_e, insC]) (by simp [go_sem, ro, wo, wa, wx, rx, ins_e, vl_e, insC]) (by rfl) (by rfl) (by rfl) ?_
    simp only [go_sem, ro, wo, wa, wx, rx, ins_e, vl_e, insC]
    refine call_same (s_alive11) (by simp [go_sem, ro, wo, wa, wx, rx, ins_e, vl_e, insC]) ?_
    simp only [go_sem, ro, wo, wa, wx, rx, ins_e, vl_e, insC]
    exact pdone [] (by simp only [go_sem, ro, wo, wa, wx, rx, ins_e, vl_e, insC]) (by first | rfl | simp [go_sem, slv_ids, ro, wo, wa, wx, rx, ins_e, vl_e, insC])
  rw [h2, List.nil_append] at hln ⊢
  simp only at hln
  have hd := s_wdone true (encA L) 0 (by omega)
  rw [show wD true (encA L) 0 = (some (encA L), 0) from rfl] at hd
  have hb : (encA L).length < 1000000000 := by omega
  simp only [go_sem, ro, wo, wa, wx, rx, ins_e, vl_e, insC]
  refine call_w [] (k := 904) (j := 905) (hd) (by decide) (by decide) (by decide) (by decide) (by first | rfl | simp [go_sem, slv_ids, ro, wo, wa, wx, rx, ins_e, vl_e, insC]) (by simp [go_sem, ro, wo, wa, wx, rx, ins_e, vl_e, insC]) (by rfl) (by rfl) (by rfl) ?_
  simp only [go_sem, ro, wo, wa, wx, rx, ins_e, vl_e, insC]
  refine call_nrec (s_read (encA L) hb) rfl (by simp [go_sem]) 901 (by decide) (by simp only [go_sem, ro, wo, wa, wx, rx, ins_e, vl_e, insC]) ?_
  simp only [go_sem, ro, wo, wa, wx, rx, ins_e, vl_e, insC]
  refine loop_rule (fun i : Nat => ⟨[(8, .int .i64 i), (7, .mp 901 4 0 0), (0, .sl 9 (L.map insC))], [(901, ro true (encA L) ((encA (L.take i)).length : Nat) 0)]⟩) (fun i => i ≤ L.length) (fun i => L.length - i) 0 (Nat.zero_le _) (Wk.of ?_ ?_) ?_
  · simp only [go_sem, ro, wo, wa, wx, rx, ins_e, vl_e, insC]; try simp
  · simp only [go_sem, ro, wo, wa, wx, rx, ins_e, vl_e, insC, List.take_zero, encA, List.flatMap_nil, List.length_nil]; try simp
  clear h64 h1 hi2
  intro i hi2
  by_cases h1 : (i : Int) < (L.length : Int)
  · have hi' : i < L.length := by omega
    have e8 := wi (n := (i : Int) + 1) (by omega) (by omega)
    have hm : nth L i ∈ L := by rw [nth_eq hi']; exact List.getElem_mem hi'
    obtain ⟨b1, b2, b3, b4⟩ := inL_at hi hi'
    have hge := gI_enc (b := encA L) (a := (encA (L.take i)).length) (r := encA (L.drop (i + 1)) ++ []) (h3 _ hm) (hlb _ hm) ⟨b1, b2⟩ (by have := encA_drop hi' []; rwa [List.append_nil] at this)
    have hle := (gI_adv hge).2
    have hg := (s_get11 (b := encA L) (a := (encA (L.take i)).length) (by omega) hb).det
    rw [hge] at hg
    have hs := r_same (nth L i) (nth L i) (by omega) (by omega)
    rw [show smM (nth L i) (nth L i) = true by simp [smM]] at hs
    rw [show (rq (Except.ok (nth L i, (encA (L.take i)).length + (encI (nth L i)).length) : Rd Ins) z0) = (nth L i, (encA (L.take (i + 1))).length, 0) by rw [encA_next hi', List.length_append]; rfl] at hg
    simp only [ins_e] at hg hs
    simp only [go_sem, ro, wo, wa, wx, rx, ins_e, vl_e, insC, decide_eq_true h1]
    refine dcall_m hg ⟨by decide, by decide⟩ rfl (by simp) rfl rfl (by rfl) (by exact List.Mem.head _) ?_
    simp only [go_sem, ro, wo, wa, wx, rx, ins_e, vl_e, insC]
    refine ⟨by omega, h1, ?_⟩
    refine call_same (hs) (by simp [go_sem, ro, wo, wa, wx, rx, ins_e, vl_e, insC]) ?_
    simp only [go_sem, ro, wo, wa, wx, rx, ins_e, vl_e, insC]
    refine call_m (s_err true (encA L) (((encA (L.take (i + 1))).length : Nat) : Int) 0) ⟨by decide, by decide⟩ (by first | rfl | exact slv_ids _) (by simp [go_sem, ro, wo, wa, wx, rx, ins_e, vl_e, insC]) rfl rfl (by rfl) ?_
    simp only [go_sem, ro, wo, wa, wx, rx, ins_e, vl_e, insC]
    refine klp_n (i + 1) (show i + 1 ≤ L.length by omega) (show L.length - (i + 1) < L.length - i by omega) (Wk.of ?_ ?_)
    · simp only [go_sem, ro, wo, wa, wx, rx, ins_e, vl_e, insC, e8]; try simp
    · simp only [go_sem, ro, wo, wa, wx, rx, ins_e, vl_e, insC]; try simp
  · obtain rfl : i = L.length := by omega
    have r2 : rEnd true (encA L) (encA L).length 0 = 0 := by simp [rEnd]
    simp only [go_sem, ro, wo, wa, wx, rx, ins_e, vl_e, insC, decide_eq_false h1]
    rw [List.take_length]
    refine call_m (s_end true (encA L) (encA L).length 0) ⟨by decide, by decide⟩ (by first | rfl | exact slv_ids _) (by simp [go_sem, ro, wo, wa, wx, rx, ins_e, vl_e, insC]) rfl rfl (by rfl) ?_
    simp only [go_sem, ro, wo, wa, wx, rx, ins_e, vl_e, insC, r2]
    refine call_same (s_alive11) (by simp [go_sem, ro, wo, wa, wx, rx, ins_e, vl_e, insC]) ?_
    simp only [go_sem, ro, wo, wa, wx, rx, ins_e, vl_e, insC]
    exact pdone [] (by simp only [go_sem, ro, wo, wa, wx, rx, ins_e, vl_e, insC]) (by first | rfl | simp [go_sem, slv_ids, ro, wo, wa, wx, rx, ins_e, vl_e, insC])
end Go.Proofs.YtdhiiannngjjpaaDoor
