/-
  Chapter 11, walks: the law BincodePuts.
-/
import Derived.Test.YtdhiiannngjjpaaGreatDoorQt
set_option linter.unusedVariables false
set_option linter.unusedSimpArgs false
set_option linter.unusedSectionVars false
set_option maxRecDepth 100000
set_option maxHeartbeats 40000000
set_option linter.unusedVariables false
set_option linter.unusedSimpArgs false
namespace Go.Proofs.YtdhiiannngjjpaaGreatDoor
open Go Go.Mw
-- @U: ro, wo, wa, wx, rx, ins_e, vl_e, insC, slv_none, slv_some



theorem w_puts (L : List Ins) (hi : inL L) : PCalls Tryz.prog n_law11_BincodePuts [.sl 9 (L.map insC)] (.bool true) := by
  refine pfun_sound (ic := F_law11_BincodePuts.body) mixed c_law11_BincodePuts rfl rfl ?_
  simp only [go_sem, ro, wo, wa, wx, rx, ins_e, vl_e, insC, F_law11_BincodePuts]
  refine call_same (s_few11 L) (by simp [go_sem, ro, wo, wa, wx, rx, ins_e, vl_e, insC]) ?_
  cases hf : fewB L
  · simp only [go_sem, ro, wo, wa, wx, rx, ins_e, vl_e, insC]
    refine call_same (s_alive11) (by simp [go_sem, ro, wo, wa, wx, rx, ins_e, vl_e, insC]) ?_
    simp only [go_sem, ro, wo, wa, wx, rx, ins_e, vl_e, insC]
    exact pdone [] (by simp only [go_sem, ro, wo, wa, wx, rx, ins_e, vl_e, insC]) (by first | rfl | simp [go_sem, slv_ids, ro, wo, wa, wx, rx, ins_e, vl_e, insC])
  obtain ⟨h60, ho⟩ := fewB_ok (fun x hx => (hi x hx).2.2) hf
  have hp := s_putall (l := []) (e := 0) (by simp) L h60 ho hi
  have hq := r_putall (l := []) (e := 0) (by simp) L h60 ho hi
  have hln := pPuts_len ho [] 0 L.length
  rw [List.take_length, List.length_nil] at hln
  generalize pPuts L [] 0 = P at *
  obtain ⟨p, e⟩ := P
  simp only at hln hp hq
  have hd := s_wdone true p e (by omega)
  have hd2 := p_Done p e
  simp only [go_sem, ro, wo, wa, wx, rx, ins_e, vl_e, insC]
  refine call_wnew 904 905 (by decide) (by decide) (by decide) (by simp only [go_sem, ro, wo, wa, wx, rx, ins_e, vl_e, insC]) (by simp only [go_sem, ro, wo, wa, wx, rx, ins_e, vl_e, insC]) ?_
  simp only [go_sem, ro, wo, wa, wx, rx, ins_e, vl_e, insC]
  refine call_w [] (k := 904) (j := 905) (hp) (by decide) (by decide) (by decide) (by decide) (by first | rfl | simp [go_sem, slv_ids, ro, wo, wa, wx, rx, ins_e, vl_e, insC]) (by simp [go_sem, ro, wo, wa, wx, rx, ins_e, vl_e, insC]) (by rfl) (by rfl) (by rfl) ?_
  simp only [go_sem, ro, wo, wa, wx, rx, ins_e, vl_e, insC]
  by_cases he : e = 0
  · subst he
    have r : wD true p 0 = (some p, 0) := rfl
    have n1 := bne_self_by p
    rw [r] at hd hd2
    refine call_w [] (k := 904) (j := 905) (hd) (by decide) (by decide) (by decide) (by decide) (by first | rfl | simp [go_sem, slv_ids, ro, wo, wa, wx, rx, ins_e, vl_e, insC]) (by simp [go_sem, ro, wo, wa, wx, rx, ins_e, vl_e, insC]) (by rfl) (by rfl) (by rfl) ?_
    simp only [go_sem, ro, wo, wa, wx, rx, ins_e, vl_e, insC]
    refine call_nl [wx [] 0, .sl 9 (L.map insC)] ⟨.inr (.inr ⟨_, _, rfl, rfl, .inr ⟨rfl, 1, rfl⟩, .inl rfl, trivial⟩), .inl rfl, trivial⟩ ?_
    refine call_same (hq) (by simp [go_sem, ro, wo, wa, wx, rx, ins_e, vl_e, insC]) ?_
    simp only [go_sem, ro, wo, wa, wx, rx, ins_e, vl_e, insC]
    refine call_same (hd2) (by simp [go_sem, ro, wo, wa, wx, rx, ins_e, vl_e, insC]) ?_
    simp only [go_sem, ro, wo, wa, wx, rx, ins_e, vl_e, insC, bytes_by, Option.map_some, n1]
    refine loop_rule (fun i : Nat => ⟨[(8, .int .i64 i), (0, .sl 9 (L.map insC))], []⟩) (fun i => i ≤ L.length) (fun i => L.length - i) 0 (Nat.zero_le _) (Wk.of ?_ ?_) ?_
    · simp only [go_sem, ro, wo, wa, wx, rx, ins_e, vl_e, insC]; try simp
    · simp only [go_sem, ro, wo, wa, wx, rx, ins_e, vl_e, insC]
    intro i hi2
    by_cases h1 : (i : Int) < (L.length : Int)
    · have hi' : i < L.length := by omega
      have e8 := wi (n := (i : Int) + 1) (by omega) (by omega)
      obtain ⟨b1, b2, b3, b4⟩ := inL_at hi hi'
      have c1 := s_one (nth L i) b1 b3
      have c2 := r_put (l := []) (e := 0) (by simp) (nth L i) b1 b3
      have c3 := p_Done (pPut (nth L i) [] 0).1 (pPut (nth L i) [] 0).2
      rw [show wD true (pPut (nth L i) [] 0).1 (pPut (nth L i) [] 0).2 = o1 (nth L i) from rfl] at c3
      simp only [ins_e] at c1 c2
      generalize o1 (nth L i) = o at c1 c3
      obtain ⟨o, e1⟩ := o
      have n2 := bne_self_i e1
      cases o
      · simp only [go_sem, ro, wo, wa, wx, rx, ins_e, vl_e, insC, decide_eq_true h1]
        refine ⟨by omega, h1, ?_⟩
        refine call_same (c1) (by simp [go_sem, ro, wo, wa, wx, rx, ins_e, vl_e, insC]) ?_
        simp only [go_sem, ro, wo, wa, wx, rx, ins_e, vl_e, insC]
        refine ⟨by omega, h1, ?_⟩
        refine call_nl [wx [] 0, .agg (insC (nth L i))] ⟨.inr (.inr ⟨_, _, rfl, rfl, .inr ⟨rfl, 1, rfl⟩, .inl rfl, trivial⟩), .inl rfl, trivial⟩ ?_
        refine call_same (c2) (by simp [go_sem, ro, wo, wa, wx, rx, ins_e, vl_e, insC]) ?_
        simp only [go_sem, ro, wo, wa, wx, rx, ins_e, vl_e, insC]
        refine call_same (c3) (by simp [go_sem, ro, wo, wa, wx, rx, ins_e, vl_e, insC]) ?_
        simp only [go_sem, ro, wo, wa, wx, rx, ins_e, vl_e, insC, bytesA, Option.map_some, bne_self_by, n2]
        refine klp_n (i + 1) (show i + 1 ≤ L.length by omega) (show L.length - (i + 1) < L.length - i by omega) (Wk.of ?_ ?_)
        · simp only [go_sem, ro, wo, wa, wx, rx, ins_e, vl_e, insC, e8]; try simp
        · simp only [go_sem, ro, wo, wa, wx, rx, ins_e, vl_e, insC]
      · rename_i o
        have n1 := bne_self_by o
        simp only [go_sem, ro, wo, wa, wx, rx, ins_e, vl_e, insC, decide_eq_true h1]
        refine ⟨by omega, h1, ?_⟩
        refine call_same (c1) (by simp [go_sem, ro, wo, wa, wx, rx, ins_e, vl_e, insC]) ?_
        simp only [go_sem, ro, wo, wa, wx, rx, ins_e, vl_e, insC]
        refine ⟨by omega, h1, ?_⟩
        refine call_nl [wx [] 0, .agg (insC (nth L i))] ⟨.inr (.inr ⟨_, _, rfl, rfl, .inr ⟨rfl, 1, rfl⟩, .inl rfl, trivial⟩), .inl rfl, trivial⟩ ?_
        refine call_same (c2) (by simp [go_sem, ro, wo, wa, wx, rx, ins_e, vl_e, insC]) ?_
        simp only [go_sem, ro, wo, wa, wx, rx, ins_e, vl_e, insC]
        refine call_same (c3) (by simp [go_sem, ro, wo, wa, wx, rx, ins_e, vl_e, insC]) ?_
        simp only [go_sem, ro, wo, wa, wx, rx, ins_e, vl_e, insC, bytes_by, Option.map_some, n1, n2]
        refine klp_n (i + 1) (show i + 1 ≤ L.length by omega) (show L.length - (i + 1) < L.length - i by omega) (Wk.of ?_ ?_)
        · simp only [go_sem, ro, wo, wa, wx, rx, ins_e, vl_e, insC, e8]; try simp
        · simp only [go_sem, ro, wo, wa, wx, rx, ins_e, vl_e, insC]
    · simp only [go_sem, ro, wo, wa, wx, rx, ins_e, vl_e, insC, decide_eq_false h1]
      refine call_same (s_alive11) (by simp [go_sem, ro, wo, wa, wx, rx, ins_e, vl_e, insC]) ?_
      simp only [go_sem, ro, wo, wa, wx, rx, ins_e, vl_e, insC]
      exact pdone [] (by simp only [go_sem, ro, wo, wa, wx, rx, ins_e, vl_e, insC]) (by first | rfl | simp [go_sem, slv_ids, ro, wo, wa, wx, rx, ins_e, vl_e, insC])
  · have r : wD true p e = (none, e) := by simp [wD, he]
    have n2 := bne_self_i e
    rw [r] at hd hd2
    refine call_w [] (k := 904) (j := 905) (hd) (by decide) (by decide) (by decide) (by decide) (by first | rfl | simp [go_sem, slv_ids, ro, wo, wa, wx, rx, ins_e, vl_e, insC]) (by simp [go_sem, ro, wo, wa, wx, rx, ins_e, vl_e, insC]) (by rfl) (by rfl) (by rfl) ?_
    simp only [go_sem, ro, wo, wa, wx, rx, ins_e, vl_e, insC]
    refine call_nl [wx [] 0, .sl 9 (L.map insC)] ⟨.inr (.inr ⟨_, _, rfl, rfl, .inr ⟨rfl, 1, rfl⟩, .inl rfl, trivial⟩), .inl rfl, trivial⟩ ?_
    refine call_same (hq) (by simp [go_sem, ro, wo, wa, wx, rx, ins_e, vl_e, insC]) ?_
    simp only [go_sem, ro, wo, wa, wx, rx, ins_e, vl_e, insC]
    refine call_same (hd2) (by simp [go_sem, ro, wo, wa, wx, rx, ins_e, vl_e, insC]) ?_
    simp only [go_sem, ro, wo, wa, wx, rx, ins_e, vl_e, insC, bytesA, Option.map_some, bne_self_by, n2]
    refine loop_rule (fun i : Nat => ⟨[(8, .int .i64 i), (0, .sl 9 (L.map insC))], []⟩) (fun i => i ≤ L.length) (fun i => L.length - i) 0 (Nat.zero_le _) (Wk.of ?_ ?_) ?_
    · simp only [go_sem, ro, wo, wa, wx, rx, ins_e, vl_e, insC]; try simp
    · simp only [go_sem, ro, wo, wa, wx, rx, ins_e, vl_e, insC]
    intro i hi2
    by_cases h1 : (i : Int) < (L.length : Int)
    · have hi' : i < L.length := by omega
      have e8 := wi (n := (i : Int) + 1) (by omega) (by omega)
      obtain ⟨b1, b2, b3, b4⟩ := inL_at hi hi'
      have c1 := s_one (nth L i) b1 b3
      have c2 := r_put (l := []) (e := 0) (by simp) (nth L i) b1 b3
      have c3 := p_Done (pPut (nth L i) [] 0).1 (pPut (nth L i) [] 0).2
      rw [show wD true (pPut (nth L i) [] 0).1 (pPut (nth L i) [] 0).2 = o1 (nth L i) from rfl] at c3
      simp only [ins_e] at c1 c2
      generalize o1 (nth L i) = o at c1 c3
      obtain ⟨o, e1⟩ := o
      have n2 := bne_self_i e1
      cases o
      · simp only [go_sem, ro, wo, wa, wx, rx, ins_e, vl_e, insC, decide_eq_true h1]
        refine ⟨by omega, h1, ?_⟩
        refine call_same (c1) (by simp [go_sem, ro, wo, wa, wx, rx, ins_e, vl_e, insC]) ?_
        simp only [go_sem, ro, wo, wa, wx, rx, ins_e, vl_e, insC]
        refine ⟨by omega, h1, ?_⟩
        refine call_nl [wx [] 0, .agg (insC (nth L i))] ⟨.inr (.inr ⟨_, _, rfl, rfl, .inr ⟨rfl, 1, rfl⟩, .inl rfl, trivial⟩), .inl rfl, trivial⟩ ?_
        refine call_same (c2) (by simp [go_sem, ro, wo, wa, wx, rx, ins_e, vl_e, insC]) ?_
        simp only [go_sem, ro, wo, wa, wx, rx, ins_e, vl_e, insC]
        refine call_same (c3) (by simp [go_sem, ro, wo, wa, wx, rx, ins_e, vl_e, insC]) ?_
        simp only [go_sem, ro, wo, wa, wx, rx, ins_e, vl_e, insC, bytesA, Option.map_some, bne_self_by, n2]
        refine klp_n (i + 1) (show i + 1 ≤ L.length by omega) (show L.length - (i + 1) < L.length - i by omega) (Wk.of ?_ ?_)
        · simp only [go_sem, ro, wo, wa, wx, rx, ins_e, vl_e, insC, e8]; try simp
        · simp only [go_sem, ro, wo, wa, wx, rx, ins_e, vl_e, insC]
      · rename_i o
        have n1 := bne_self_by o
        simp only [go_sem, ro, wo, wa, wx, rx, ins_e, vl_e, insC, decide_eq_true h1]
        refine ⟨by omega, h1, ?_⟩
        refine call_same (c1) (by simp [go_sem, ro, wo, wa, wx, rx, ins_e, vl_e, insC]) ?_
        simp only [go_sem, ro, wo, wa, wx, rx, ins_e, vl_e, insC]
        refine ⟨by omega, h1, ?_⟩
        refine call_nl [wx [] 0, .agg (insC (nth L i))] ⟨.inr (.inr ⟨_, _, rfl, rfl, .inr ⟨rfl, 1, rfl⟩, .inl rfl, trivial⟩), .inl rfl, trivial⟩ ?_
        refine call_same (c2) (by simp [go_sem, ro, wo, wa, wx, rx, ins_e, vl_e, insC]) ?_
        simp only [go_sem, ro, wo, wa, wx, rx, ins_e, vl_e, insC]
        refine call_same (c3) (by simp [go_sem, ro, wo, wa, wx, rx, ins_e, vl_e, insC]) ?_
        simp only [go_sem, ro, wo, wa, wx, rx, ins_e, vl_e, insC, bytes_by, Option.map_some, n1, n2]
        refine klp_n (i + 1) (show i + 1 ≤ L.length by omega) (show L.length - (i + 1) < L.length - i by omega) (Wk.of ?_ ?_)
        · simp only [go_sem, ro, wo, wa, wx, rx, ins_e, vl_e, insC, e8]; try simp
        · simp only [go_sem, ro, wo, wa, wx, rx, ins_e, vl_e, insC]
    · simp only [go_sem, ro, wo, wa, wx, rx, ins_e, vl_e, insC, decide_eq_false h1]
      refine call_same (s_alive11) (by simp [go_sem, ro, wo, wa, wx, rx, ins_e, vl_e, insC]) ?_
      simp only [go_sem, ro, wo, wa, wx, rx, ins_e, vl_e, insC]
      exact pdone [] (by simp only [go_sem, ro, wo, wa, wx, rx, ins_e, vl_e, insC]) (by first | rfl | simp [go_sem, slv_ids, ro, wo, wa, wx, rx, ins_e, vl_e, insC])
end Go.Proofs.YtdhiiannngjjpaaGreatDoor
