/-
  Chapter 14,walks: the reference's UTF-8; what it checks of names.
-/
import Derived.Test.YtoikbadfbneahaaGreatDoorQf
set_option linter.unusedVariables false
set_option linter.unusedSimpArgs false
set_option linter.unusedSectionVars false
set_option maxRecDepth 100000
set_option maxHeartbeats 40000000
set_option linter.unusedVariables false
set_option linter.unusedSimpArgs false
namespace Go.Proofs.YtoikbadfbneahaaGreatDoor
open Go Go.Mw
-- @U: List.length_map

theorem u_is (n:Nat):PCalls Tryz.prog nX136 [.int .i64 n] (.bool (isR n)):=by
  refine pfun_sound (ic:=FX136.body) mixed cX136 rfl rfl ?_
  unfold isR
  by_cases h1:n < 55296
  · rw [decide_eq_true h1,Bool.true_or]
    simp only [go_sem,List.length_map,FX136,decide_eq_true (show (n:Int) ≥ 0 by omega),decide_eq_true (show (n:Int) < 55296 by omega)]
    exact pdone [] (by first | (simp only [go_sem,List.length_map]; done) | (simp only [go_sem,List.length_map]; rfl)) (by rfl)
  · rw [decide_eq_false h1,Bool.false_or]
    by_cases h2:n > 57343
    · rw [decide_eq_true h2,Bool.true_and]
      by_cases h3:n ≤ 1114111
      · rw [decide_eq_true h3]
        simp only [go_sem,List.length_map,FX136,decide_eq_true (show (n:Int) ≥ 0 by omega),decide_eq_false (show ¬ (n:Int) < 55296 by omega),decide_eq_true (show (n:Int) > 57343 by omega),decide_eq_true (show (n:Int) ≤ 1114111 by omega)]
        exact pdone [] (by first | (simp only [go_sem,List.length_map]; done) | (simp only [go_sem,List.length_map]; rfl)) (by rfl)
      · rw [decide_eq_false h3]
        simp only [go_sem,List.length_map,FX136,decide_eq_true (show (n:Int) ≥ 0 by omega),decide_eq_false (show ¬ (n:Int) < 55296 by omega),decide_eq_true (show (n:Int) > 57343 by omega),decide_eq_false (show ¬ (n:Int) ≤ 1114111 by omega)]
        exact pdone [] (by first | (simp only [go_sem,List.length_map]; done) | (simp only [go_sem,List.length_map]; rfl)) (by rfl)
    · rw [decide_eq_false h2,Bool.false_and]
      simp only [go_sem,List.length_map,FX136,decide_eq_true (show (n:Int) ≥ 0 by omega),decide_eq_false (show ¬ (n:Int) < 55296 by omega),decide_eq_false (show ¬ (n:Int) > 57343 by omega)]
      exact pdone [] (by first | (simp only [go_sem,List.length_map]; done) | (simp only [go_sem,List.length_map]; rfl)) (by rfl)
theorem bn_drop (s:List UInt8) (i k:Nat):bn (s.drop i) k = (nth s (i + k)).toNat:=by unfold bn; rw [nth_drop]
theorem u_rune1 (s:List UInt8) (hs:s.length ≤ 1048576) (i:Nat) (hi:i < s.length):PCalls Tryz.prog nX76 [.str s,.int .i64 i] (.tup [.int .i64 (rn3 (s.drop i)).1,.int .i64 (rn3 (s.drop i)).2]):=by
  refine pfun_sound (ic:=FX76.body) mixed cX76 rfl rfl ?_
  have hlen:(s.drop i).length = s.length - i:=by simp
  have hb:=bn_drop s i
  have h0:(nth s i).toNat = bn (s.drop i) 0:=by rw [hb]; rfl
  have hlt:=(nth s i).toNat_lt
  have wc:IntKind.i64.wrap ((nth s i).toNat:Int) = ((nth s i).toNat:Int):=wi (by omega) (by omega)
  generalize hl:s.drop i = l at *
  by_cases g0:bn l 0 < 128
  · rw [rn3_0 g0]
    simp only [go_sem,List.length_map,FX76,wc,decide_eq_true (show ((nth s i).toNat:Int) < 128 by omega)]
    refine ⟨by omega,by omega,?_⟩
    rw [← h0]
    exact pdone [] (by first | (simp only [go_sem,List.length_map]; done) | (simp only [go_sem,List.length_map]; rfl)) (by rfl)
  by_cases g1:bn l 0 < 192
  · rw [rn3_n (by omega) (.inl g1)]
    simp only [go_sem,List.length_map,FX76,wc,decide_eq_false (show ¬ ((nth s i).toNat:Int) < 128 by omega),decide_eq_false (show ¬ ((nth s i).toNat:Int) ≥ 192 by omega),decide_eq_false (show ¬ ((nth s i).toNat:Int) ≥ 224 by omega),decide_eq_false (show ¬ ((nth s i).toNat:Int) ≥ 240 by omega)]
    refine ⟨by omega,by omega,?_⟩
    exact pdone [] (by first | (simp only [go_sem,List.length_map]; done) | (simp only [go_sem,List.length_map]; rfl)) (by rfl)
  by_cases g2:bn l 0 < 224
  · have hx:bn l 0 - 192 < 32:=by omega
    have wx:IntKind.i64.wrap ((nth s i).toNat - 192:Int) = ((bn l 0 - 192:Nat):Int):=by rw [wi (by omega) (by omega)]; omega
    rw [rn3_2 (by omega) g2]
    have wn:IntKind.i64.wrap ((i:Int) + 2) = ((i + 2:Nat):Int):=by rw [wi (by omega) (by omega)]; omega
    by_cases gl:((i + 2:Nat):Int) > (s.length:Int)
    · rw [r3g_no (fun q=>by have:=q.1; omega)]
      simp only [go_sem,List.length_map,FX76,wc,decide_eq_false (show ¬ ((nth s i).toNat:Int) < 128 by omega),decide_eq_true (show ((nth s i).toNat:Int) ≥ 192 by omega),decide_eq_true (show ((nth s i).toNat:Int) < 224 by omega),wx,wn,decide_eq_true gl]
      refine ⟨by omega,by omega,?_⟩
      exact pdone [] (by first | (simp only [go_sem,List.length_map]; done) | (simp only [go_sem,List.length_map]; rfl)) (by rfl)
    simp only [go_sem,List.length_map,FX76,wc,decide_eq_false (show ¬ ((nth s i).toNat:Int) < 128 by omega),decide_eq_true (show ((nth s i).toNat:Int) ≥ 192 by omega),decide_eq_true (show ((nth s i).toNat:Int) < 224 by omega),wx,wn,decide_eq_false gl]
    refine ⟨by omega,by omega,?_⟩
    refine loop_rule (fun k:Nat=>⟨[(10,.int .i64 k),(9,.int .i64 (xk l (bn l 0 - 192) k:Nat)),(8,.int .i64 128),(7,.int .i64 2),(0,.str s),(1,.int .i64 i)],[]⟩) (fun k=>1 ≤ k ∧ k ≤ 2 ∧ ∀ j,1 ≤ j → j < k → ctb (bn l j)) (fun k=>2 - k) 1 ⟨Nat.le_refl _,by decide,fun j a b=>by omega⟩ (Wk.of ?_ ?_) ?_
    · simp only [go_sem,List.length_map,wx,xk]; try simp
    · simp only [go_sem,List.length_map]
    rintro k ⟨hk1,hk,hc⟩
    by_cases hkn:(k:Int) < 2
    · have w1:IntKind.i64.wrap ((i:Int) + (k:Int)) = ((i + k:Nat):Int):=by rw [wi (by omega) (by omega)]; omega
      have e8:IntKind.i64.wrap ((k:Int) + 1) = (k:Int) + 1:=wi (by omega) (by omega)
      have hd:=hb k
      have hdl:=(nth s (i + k)).toNat_lt
      have wd:IntKind.i64.wrap ((nth s (i + k)).toNat:Int) = ((nth s (i + k)).toNat:Int):=wi (by omega) (by omega)
      have hik:i + k < s.length:=by omega
      by_cases hct:ctb (bn l k)
      · have hct':=hct
        unfold ctb at hct'
        have hxk:=xk_lt hx (k - 1) (fun j a b=>hc j a (by omega))
        rw [show k - 1 + 1 = k by omega] at hxk
        have hp:(64:Nat) ^ (k - 1) ≤ 64 ^ 2:=Nat.pow_le_pow_right (by decide) (by omega)
        have hxs:=xk_s (l:=l) (x:=bn l 0 - 192) hk1
        generalize (64:Nat) ^ (k - 1) = p at *
        have wm:IntKind.i64.wrap ((xk l (bn l 0 - 192) k:Nat) * 64:Int) = ((xk l (bn l 0 - 192) k * 64:Nat):Int):=by rw [wi (by omega) (by omega)]; omega
        have wa:IntKind.i64.wrap (((xk l (bn l 0 - 192) k * 64:Nat):Int) + ((nth s (i + k)).toNat:Int)) = ((xk l (bn l 0 - 192) k * 64 + bn l k:Nat):Int):=by rw [wi (by omega) (by omega)]; omega
        have ws:IntKind.i64.wrap (((xk l (bn l 0 - 192) k * 64 + bn l k:Nat):Int) - 128) = ((xk l (bn l 0 - 192) (k + 1):Nat):Int):=by rw [wi (by omega) (by omega)]; omega
        simp only [go_sem,List.length_map,decide_eq_true hkn,w1,wd,decide_eq_false (show ¬ ((nth s (i + k)).toNat:Int) < 128 by omega),decide_eq_false (show ¬ ((nth s (i + k)).toNat:Int) ≥ 192 by omega),wm,wa,ws]
        refine ⟨by omega,by omega,klp_n (k + 1) ⟨by omega,show k + 1 ≤ 2 by omega,fun j a b=>?_⟩ (show 2 - (k + 1) < 2 - k by omega) (Wk.of ?_ ?_)⟩
        · rcases Nat.lt_or_ge j k with q | q
          · exact hc j a q
          · rw [show j = k by omega]; exact hct
        · simp only [go_sem,List.length_map,e8]; try simp
        · simp only [go_sem,List.length_map]
      · rw [r3g_no (fun q=>hct (q.2.1 k hk1 (by omega)))]
        unfold ctb at hct
        by_cases h1:(nth s (i + k)).toNat < 128
        · simp only [go_sem,List.length_map,decide_eq_true hkn,w1,wd,decide_eq_true (show ((nth s (i + k)).toNat:Int) < 128 by omega)]
          refine ⟨by omega,by omega,?_⟩
          exact pdone [] (by first | (simp only [go_sem,List.length_map]; done) | (simp only [go_sem,List.length_map]; rfl)) (by rfl)
        · simp only [go_sem,List.length_map,decide_eq_true hkn,w1,wd,decide_eq_false (show ¬ ((nth s (i + k)).toNat:Int) < 128 by omega),decide_eq_true (show ((nth s (i + k)).toNat:Int) ≥ 192 by omega)]
          refine ⟨by omega,by omega,?_⟩
          exact pdone [] (by first | (simp only [go_sem,List.length_map]; done) | (simp only [go_sem,List.length_map]; rfl)) (by rfl)
    · obtain rfl:k = 2:=by omega
      generalize hX:xk l (bn l 0 - 192) 2 = X at *
      by_cases h1:X < 128
      · rw [r3g_no (fun q=>by have:=q.2.2.1; rw [hX] at this; omega)]
        simp only [go_sem,List.length_map,decide_eq_false hkn,decide_eq_true (show (X:Int) < 128 by omega)]
        exact pdone [] (by first | (simp only [go_sem,List.length_map]; done) | (simp only [go_sem,List.length_map]; rfl)) (by rfl)
      · simp only [go_sem,List.length_map,decide_eq_false hkn,decide_eq_false (show ¬ (X:Int) < 128 by omega)]
        refine call_same (u_is X) (by simp [go_sem,List.length_map]) ?_
        cases h2:isR X
        · rw [r3g_no (fun q=>by have:=q.2.2.2; rw [hX,h2] at this; cases this)]
          simp only [go_sem,List.length_map]
          exact pdone [] (by first | (simp only [go_sem,List.length_map]; done) | (simp only [go_sem,List.length_map]; rfl)) (by rfl)
        · rw [r3g_yes ⟨by omega,hc,by rw [hX]; omega,by rw [hX]; exact h2⟩,hX]
          simp only [go_sem,List.length_map]
          exact pdone [] (by first | (simp only [go_sem,List.length_map]; done) | (simp only [go_sem,List.length_map]; rfl)) (by rfl)
  by_cases g3:bn l 0 < 240
  · have hx:bn l 0 - 224 < 32:=by omega
    have wx:IntKind.i64.wrap ((nth s i).toNat - 224:Int) = ((bn l 0 - 224:Nat):Int):=by rw [wi (by omega) (by omega)]; omega
    rw [rn3_3 (by omega) g3]
    have wn:IntKind.i64.wrap ((i:Int) + 3) = ((i + 3:Nat):Int):=by rw [wi (by omega) (by omega)]; omega
    by_cases gl:((i + 3:Nat):Int) > (s.length:Int)
    · rw [r3g_no (fun q=>by have:=q.1; omega)]
      simp only [go_sem,List.length_map,FX76,wc,decide_eq_false (show ¬ ((nth s i).toNat:Int) < 128 by omega),decide_eq_true (show ((nth s i).toNat:Int) ≥ 192 by omega),decide_eq_false (show ¬ ((nth s i).toNat:Int) < 224 by omega),decide_eq_true (show ((nth s i).toNat:Int) ≥ 224 by omega),decide_eq_true (show ((nth s i).toNat:Int) < 240 by omega),wx,wn,decide_eq_true gl]
      refine ⟨by omega,by omega,?_⟩
      exact pdone [] (by first | (simp only [go_sem,List.length_map]; done) | (simp only [go_sem,List.length_map]; rfl)) (by rfl)
    simp only [go_sem,List.length_map,FX76,wc,decide_eq_false (show ¬ ((nth s i).toNat:Int) < 128 by omega),decide_eq_true (show ((nth s i).toNat:Int) ≥ 192 by omega),decide_eq_false (show ¬ ((nth s i).toNat:Int) < 224 by omega),decide_eq_true (show ((nth s i).toNat:Int) ≥ 224 by omega),decide_eq_true (show ((nth s i).toNat:Int) < 240 by omega),wx,wn,decide_eq_false gl]
    refine ⟨by omega,by omega,?_⟩
    refine loop_rule (fun k:Nat=>⟨[(10,.int .i64 k),(9,.int .i64 (xk l (bn l 0 - 224) k:Nat)),(8,.int .i64 2048),(7,.int .i64 3),(0,.str s),(1,.int .i64 i)],[]⟩) (fun k=>1 ≤ k ∧ k ≤ 3 ∧ ∀ j,1 ≤ j → j < k → ctb (bn l j)) (fun k=>3 - k) 1 ⟨Nat.le_refl _,by decide,fun j a b=>by omega⟩ (Wk.of ?_ ?_) ?_
    · simp only [go_sem,List.length_map,wx,xk]; try simp
    · simp only [go_sem,List.length_map]
    rintro k ⟨hk1,hk,hc⟩
    by_cases hkn:(k:Int) < 3
    · have w1:IntKind.i64.wrap ((i:Int) + (k:Int)) = ((i + k:Nat):Int):=by rw [wi (by omega) (by omega)]; omega
      have e8:IntKind.i64.wrap ((k:Int) + 1) = (k:Int) + 1:=wi (by omega) (by omega)
      have hd:=hb k
      have hdl:=(nth s (i + k)).toNat_lt
      have wd:IntKind.i64.wrap ((nth s (i + k)).toNat:Int) = ((nth s (i + k)).toNat:Int):=wi (by omega) (by omega)
      have hik:i + k < s.length:=by omega
      by_cases hct:ctb (bn l k)
      · have hct':=hct
        unfold ctb at hct'
        have hxk:=xk_lt hx (k - 1) (fun j a b=>hc j a (by omega))
        rw [show k - 1 + 1 = k by omega] at hxk
        have hp:(64:Nat) ^ (k - 1) ≤ 64 ^ 2:=Nat.pow_le_pow_right (by decide) (by omega)
        have hxs:=xk_s (l:=l) (x:=bn l 0 - 224) hk1
        generalize (64:Nat) ^ (k - 1) = p at *
        have wm:IntKind.i64.wrap ((xk l (bn l 0 - 224) k:Nat) * 64:Int) = ((xk l (bn l 0 - 224) k * 64:Nat):Int):=by rw [wi (by omega) (by omega)]; omega
        have wa:IntKind.i64.wrap (((xk l (bn l 0 - 224) k * 64:Nat):Int) + ((nth s (i + k)).toNat:Int)) = ((xk l (bn l 0 - 224) k * 64 + bn l k:Nat):Int):=by rw [wi (by omega) (by omega)]; omega
        have ws:IntKind.i64.wrap (((xk l (bn l 0 - 224) k * 64 + bn l k:Nat):Int) - 128) = ((xk l (bn l 0 - 224) (k + 1):Nat):Int):=by rw [wi (by omega) (by omega)]; omega
        simp only [go_sem,List.length_map,decide_eq_true hkn,w1,wd,decide_eq_false (show ¬ ((nth s (i + k)).toNat:Int) < 128 by omega),decide_eq_false (show ¬ ((nth s (i + k)).toNat:Int) ≥ 192 by omega),wm,wa,ws]
        refine ⟨by omega,by omega,klp_n (k + 1) ⟨by omega,show k + 1 ≤ 3 by omega,fun j a b=>?_⟩ (show 3 - (k + 1) < 3 - k by omega) (Wk.of ?_ ?_)⟩
        · rcases Nat.lt_or_ge j k with q | q
          · exact hc j a q
          · rw [show j = k by omega]; exact hct
        · simp only [go_sem,List.length_map,e8]; try simp
        · simp only [go_sem,List.length_map]
      · rw [r3g_no (fun q=>hct (q.2.1 k hk1 (by omega)))]
        unfold ctb at hct
        by_cases h1:(nth s (i + k)).toNat < 128
        · simp only [go_sem,List.length_map,decide_eq_true hkn,w1,wd,decide_eq_true (show ((nth s (i + k)).toNat:Int) < 128 by omega)]
          refine ⟨by omega,by omega,?_⟩
          exact pdone [] (by first | (simp only [go_sem,List.length_map]; done) | (simp only [go_sem,List.length_map]; rfl)) (by rfl)
        · simp only [go_sem,List.length_map,decide_eq_true hkn,w1,wd,decide_eq_false (show ¬ ((nth s (i + k)).toNat:Int) < 128 by omega),decide_eq_true (show ((nth s (i + k)).toNat:Int) ≥ 192 by omega)]
          refine ⟨by omega,by omega,?_⟩
          exact pdone [] (by first | (simp only [go_sem,List.length_map]; done) | (simp only [go_sem,List.length_map]; rfl)) (by rfl)
    · obtain rfl:k = 3:=by omega
      generalize hX:xk l (bn l 0 - 224) 3 = X at *
      by_cases h1:X < 2048
      · rw [r3g_no (fun q=>by have:=q.2.2.1; rw [hX] at this; omega)]
        simp only [go_sem,List.length_map,decide_eq_false hkn,decide_eq_true (show (X:Int) < 2048 by omega)]
        exact pdone [] (by first | (simp only [go_sem,List.length_map]; done) | (simp only [go_sem,List.length_map]; rfl)) (by rfl)
      · simp only [go_sem,List.length_map,decide_eq_false hkn,decide_eq_false (show ¬ (X:Int) < 2048 by omega)]
        refine call_same (u_is X) (by simp [go_sem,List.length_map]) ?_
        cases h2:isR X
        · rw [r3g_no (fun q=>by have:=q.2.2.2; rw [hX,h2] at this; cases this)]
          simp only [go_sem,List.length_map]
          exact pdone [] (by first | (simp only [go_sem,List.length_map]; done) | (simp only [go_sem,List.length_map]; rfl)) (by rfl)
        · rw [r3g_yes ⟨by omega,hc,by rw [hX]; omega,by rw [hX]; exact h2⟩,hX]
          simp only [go_sem,List.length_map]
          exact pdone [] (by first | (simp only [go_sem,List.length_map]; done) | (simp only [go_sem,List.length_map]; rfl)) (by rfl)
  by_cases g4:bn l 0 < 248
  · have hx:bn l 0 - 240 < 32:=by omega
    have wx:IntKind.i64.wrap ((nth s i).toNat - 240:Int) = ((bn l 0 - 240:Nat):Int):=by rw [wi (by omega) (by omega)]; omega
    rw [rn3_4 (by omega) g4]
    have wn:IntKind.i64.wrap ((i:Int) + 4) = ((i + 4:Nat):Int):=by rw [wi (by omega) (by omega)]; omega
    by_cases gl:((i + 4:Nat):Int) > (s.length:Int)
    · rw [r3g_no (fun q=>by have:=q.1; omega)]
      simp only [go_sem,List.length_map,FX76,wc,decide_eq_false (show ¬ ((nth s i).toNat:Int) < 128 by omega),decide_eq_true (show ((nth s i).toNat:Int) ≥ 192 by omega),decide_eq_false (show ¬ ((nth s i).toNat:Int) < 224 by omega),decide_eq_true (show ((nth s i).toNat:Int) ≥ 224 by omega),decide_eq_false (show ¬ ((nth s i).toNat:Int) < 240 by omega),decide_eq_true (show ((nth s i).toNat:Int) ≥ 240 by omega),decide_eq_true (show ((nth s i).toNat:Int) < 248 by omega),wx,wn,decide_eq_true gl]
      refine ⟨by omega,by omega,?_⟩
      exact pdone [] (by first | (simp only [go_sem,List.length_map]; done) | (simp only [go_sem,List.length_map]; rfl)) (by rfl)
    simp only [go_sem,List.length_map,FX76,wc,decide_eq_false (show ¬ ((nth s i).toNat:Int) < 128 by omega),decide_eq_true (show ((nth s i).toNat:Int) ≥ 192 by omega),decide_eq_false (show ¬ ((nth s i).toNat:Int) < 224 by omega),decide_eq_true (show ((nth s i).toNat:Int) ≥ 224 by omega),decide_eq_false (show ¬ ((nth s i).toNat:Int) < 240 by omega),decide_eq_true (show ((nth s i).toNat:Int) ≥ 240 by omega),decide_eq_true (show ((nth s i).toNat:Int) < 248 by omega),wx,wn,decide_eq_false gl]
    refine ⟨by omega,by omega,?_⟩
    refine loop_rule (fun k:Nat=>⟨[(10,.int .i64 k),(9,.int .i64 (xk l (bn l 0 - 240) k:Nat)),(8,.int .i64 65536),(7,.int .i64 4),(0,.str s),(1,.int .i64 i)],[]⟩) (fun k=>1 ≤ k ∧ k ≤ 4 ∧ ∀ j,1 ≤ j → j < k → ctb (bn l j)) (fun k=>4 - k) 1 ⟨Nat.le_refl _,by decide,fun j a b=>by omega⟩ (Wk.of ?_ ?_) ?_
    · simp only [go_sem,List.length_map,wx,xk]; try simp
    · simp only [go_sem,List.length_map]
    rintro k ⟨hk1,hk,hc⟩
    by_cases hkn:(k:Int) < 4
    · have w1:IntKind.i64.wrap ((i:Int) + (k:Int)) = ((i + k:Nat):Int):=by rw [wi (by omega) (by omega)]; omega
      have e8:IntKind.i64.wrap ((k:Int) + 1) = (k:Int) + 1:=wi (by omega) (by omega)
      have hd:=hb k
      have hdl:=(nth s (i + k)).toNat_lt
      have wd:IntKind.i64.wrap ((nth s (i + k)).toNat:Int) = ((nth s (i + k)).toNat:Int):=wi (by omega) (by omega)
      have hik:i + k < s.length:=by omega
      by_cases hct:ctb (bn l k)
      · have hct':=hct
        unfold ctb at hct'
        have hxk:=xk_lt hx (k - 1) (fun j a b=>hc j a (by omega))
        rw [show k - 1 + 1 = k by omega] at hxk
        have hp:(64:Nat) ^ (k - 1) ≤ 64 ^ 2:=Nat.pow_le_pow_right (by decide) (by omega)
        have hxs:=xk_s (l:=l) (x:=bn l 0 - 240) hk1
        generalize (64:Nat) ^ (k - 1) = p at *
        have wm:IntKind.i64.wrap ((xk l (bn l 0 - 240) k:Nat) * 64:Int) = ((xk l (bn l 0 - 240) k * 64:Nat):Int):=by rw [wi (by omega) (by omega)]; omega
        have wa:IntKind.i64.wrap (((xk l (bn l 0 - 240) k * 64:Nat):Int) + ((nth s (i + k)).toNat:Int)) = ((xk l (bn l 0 - 240) k * 64 + bn l k:Nat):Int):=by rw [wi (by omega) (by omega)]; omega
        have ws:IntKind.i64.wrap (((xk l (bn l 0 - 240) k * 64 + bn l k:Nat):Int) - 128) = ((xk l (bn l 0 - 240) (k + 1):Nat):Int):=by rw [wi (by omega) (by omega)]; omega
        simp only [go_sem,List.length_map,decide_eq_true hkn,w1,wd,decide_eq_false (show ¬ ((nth s (i + k)).toNat:Int) < 128 by omega),decide_eq_false (show ¬ ((nth s (i + k)).toNat:Int) ≥ 192 by omega),wm,wa,ws]
        refine ⟨by omega,by omega,klp_n (k + 1) ⟨by omega,show k + 1 ≤ 4 by omega,fun j a b=>?_⟩ (show 4 - (k + 1) < 4 - k by omega) (Wk.of ?_ ?_)⟩
        · rcases Nat.lt_or_ge j k with q | q
          · exact hc j a q
          · rw [show j = k by omega]; exact hct
        · simp only [go_sem,List.length_map,e8]; try simp
        · simp only [go_sem,List.length_map]
      · rw [r3g_no (fun q=>hct (q.2.1 k hk1 (by omega)))]
        unfold ctb at hct
        by_cases h1:(nth s (i + k)).toNat < 128
        · simp only [go_sem,List.length_map,decide_eq_true hkn,w1,wd,decide_eq_true (show ((nth s (i + k)).toNat:Int) < 128 by omega)]
          refine ⟨by omega,by omega,?_⟩
          exact pdone [] (by first | (simp only [go_sem,List.length_map]; done) | (simp only [go_sem,List.length_map]; rfl)) (by rfl)
        · simp only [go_sem,List.length_map,decide_eq_true hkn,w1,wd,decide_eq_false (show ¬ ((nth s (i + k)).toNat:Int) < 128 by omega),decide_eq_true (show ((nth s (i + k)).toNat:Int) ≥ 192 by omega)]
          refine ⟨by omega,by omega,?_⟩
          exact pdone [] (by first | (simp only [go_sem,List.length_map]; done) | (simp only [go_sem,List.length_map]; rfl)) (by rfl)
    · obtain rfl:k = 4:=by omega
      generalize hX:xk l (bn l 0 - 240) 4 = X at *
      by_cases h1:X < 65536
      · rw [r3g_no (fun q=>by have:=q.2.2.1; rw [hX] at this; omega)]
        simp only [go_sem,List.length_map,decide_eq_false hkn,decide_eq_true (show (X:Int) < 65536 by omega)]
        exact pdone [] (by first | (simp only [go_sem,List.length_map]; done) | (simp only [go_sem,List.length_map]; rfl)) (by rfl)
      · simp only [go_sem,List.length_map,decide_eq_false hkn,decide_eq_false (show ¬ (X:Int) < 65536 by omega)]
        refine call_same (u_is X) (by simp [go_sem,List.length_map]) ?_
        cases h2:isR X
        · rw [r3g_no (fun q=>by have:=q.2.2.2; rw [hX,h2] at this; cases this)]
          simp only [go_sem,List.length_map]
          exact pdone [] (by first | (simp only [go_sem,List.length_map]; done) | (simp only [go_sem,List.length_map]; rfl)) (by rfl)
        · rw [r3g_yes ⟨by omega,hc,by rw [hX]; omega,by rw [hX]; exact h2⟩,hX]
          simp only [go_sem,List.length_map]
          exact pdone [] (by first | (simp only [go_sem,List.length_map]; done) | (simp only [go_sem,List.length_map]; rfl)) (by rfl)
  · rw [rn3_n (by omega) (.inr (by omega))]
    simp only [go_sem,List.length_map,FX76,wc,decide_eq_false (show ¬ ((nth s i).toNat:Int) < 128 by omega),decide_eq_true (show ((nth s i).toNat:Int) ≥ 192 by omega),decide_eq_false (show ¬ ((nth s i).toNat:Int) < 224 by omega),decide_eq_true (show ((nth s i).toNat:Int) ≥ 224 by omega),decide_eq_false (show ¬ ((nth s i).toNat:Int) < 240 by omega),decide_eq_true (show ((nth s i).toNat:Int) ≥ 240 by omega),decide_eq_false (show ¬ ((nth s i).toNat:Int) < 248 by omega)]
    refine ⟨by omega,by omega,?_⟩
    exact pdone [] (by first | (simp only [go_sem,List.length_map]; done) | (simp only [go_sem,List.length_map]; rfl)) (by rfl)
end Go.Proofs.YtoikbadfbneahaaGreatDoor
set_option maxRecDepth 100000
set_option maxHeartbeats 20000000
set_option linter.unusedVariables false
set_option linter.unusedSimpArgs false
namespace Go.Proofs.YtoikbadfbneahaaGreatDoor
open Go Go.Mw
-- @U: List.length_map

theorem u_runes (s:List UInt8) (hs:s.length ≤ 1048576):ACalls Tryz.prog nX74 [.str s] [] sb (fun r' σ'=>∃ v:AV,noId v ∧ r' = .tup [v,.bool (uv s)] ∧ σ' = []):=by
  refine fun_sound (ic:=FX74.body) mixed cX74 rfl rfl ?_
  simp only [go_sem,List.length_map,FX74]
  refine loop_rule (fun q:List Int × Nat=>⟨[(5,.int .i64 q.2),(4,.ms 900 1 0 q.1.length),(0,.str s)],[(900,⟨21,1,q.1.map r3,false⟩)]⟩) (fun q=>q.2 ≤ s.length ∧ q.1.length ≤ q.2 ∧ uv s = uv (s.drop q.2)) (fun q=>s.length - q.2) ([],0) ⟨Nat.zero_le _,Nat.zero_le _,rfl⟩ ((Wk.nil _ 4 900 1 21 (by simp only [go_sem,List.length_map]) (.inl (by decide))).trans (Wk.of ?_ ?_)) ?_
  · simp only [go_sem,List.length_map,St.mknil]; try simp [go_sem]
  · simp only [go_sem,List.length_map,St.mknil]; try simp [go_sem]
  rintro ⟨l,p⟩ ⟨h1,h2,h3⟩
  simp only at h1 h2 h3
  have happ:=fun ys=>appO_map 900 21 1 l.length r3 l ys rfl
  by_cases hp:(p:Int) < (s.length:Int)
  · have hp':p < s.length:=by omega
    have hd:0 < (s.drop p).length:=by simp; omega
    have ct:=u_rune1 s hs p hp'
    have hl3:(s.drop p).length = s.length - p:=by simp
    have hgo:=fun h=>uv_rn3 (l:=s.drop p) hd h
    have hno:=fun h=>uv_rno (l:=s.drop p) hd h
    generalize rn3 (s.drop p) = R at *
    obtain ⟨x,k⟩:=R
    simp only at ct hgo hno
    by_cases hk:k = 0
    · subst hk
      rw [h3,hno rfl]
      simp only [go_sem,List.length_map,decide_eq_true hp]
      refine call_same (ct) (by simp [go_sem,List.length_map]) ?_
      simp only [go_sem,List.length_map,show (((0:Nat):Int) == 0) = true from rfl]
      exact done [] _ [] (by simp only [go_sem,List.length_map]) trivial rfl ⟨.nl,rfl,rfl,rfl⟩
    · obtain ⟨q1,q2⟩:=hgo hk
      rw [List.drop_drop] at q1
      have e8:IntKind.i64.wrap ((p:Int) + (k:Int)) = ((p + k:Nat):Int):=by rw [wi (by omega) (by omega)]; omega
      simp only [go_sem,List.length_map,decide_eq_true hp]
      refine call_same (ct) (by simp [go_sem,List.length_map]) ?_
      simp only [go_sem,List.length_map,beq_f (show (k:Int) ≠ 0 by omega),happ]
      refine ⟨by omega,klp_n (l ++ [IntKind.i32.wrap (x:Int)],p + k) ⟨show p + k ≤ s.length by omega,show (l ++ [IntKind.i32.wrap (x:Int)]).length ≤ p + k by simp; omega,h3.trans q1⟩ (show s.length - (p + k) < s.length - p by omega) (Wk.of ?_ ?_)⟩
      · simp only [go_sem,List.length_map,e8]; try simp
      · simp only [go_sem,List.length_map]; try simp [r3_e]
  · obtain rfl:p = s.length:=by omega
    rw [h3,List.drop_length,uv_nil]
    simp only [go_sem,List.length_map,decide_eq_false hp]
    refine done [900] (.tup [.sl 1 (l.map r3),.bool true]) [] ?_ trivial rfl ⟨.sl 1 (l.map r3),rfl,rfl,rfl⟩
    simp only [go_sem,List.length_map,Nat.le_refl]
    rw [List.take_of_length_le (by simp)]
theorem u_uval (s:List UInt8) (hs:smS s):PCalls Tryz.prog nX75 [.str s] (.bool (uv s)):=by
  refine pfun_sound (ic:=FX75.body) mixed cX75 rfl rfl ?_
  simp only [go_sem,List.length_map,FX75]
  refine call_pe (u_runes s hs) ?_
  intro v hv
  simp only [go_sem,List.length_map]
  exact pdone [] (by simp only [go_sem,List.length_map]) (by first | rfl | simp [go_sem,slv_ids,List.length_map])
theorem u_text (s:List UInt8) (hs:smS s):PCalls Tryz.prog nX106 [.str s] (.int .i64 (txt s)):=by
  refine pfun_sound (ic:=FX106.body) mixed cX106 rfl rfl ?_
  unfold txt
  simp only [go_sem,List.length_map,FX106]
  refine call_same (u_uval s hs) (by simp [go_sem,List.length_map]) ?_
  cases uv s
  · simp only [go_sem,List.length_map]
    exact pdone [] (by simp only [go_sem,List.length_map]) (by first | rfl | simp [go_sem,slv_ids,List.length_map])
  · by_cases h:s.length > 64
    · simp only [go_sem,List.length_map,decide_eq_true (show (s.length:Int) > 64 by omega)]
      rw [if_pos h]
      exact pdone [] (by simp only [go_sem,List.length_map]) (by first | rfl | simp [go_sem,slv_ids,List.length_map])
    · simp only [go_sem,List.length_map,decide_eq_false (show ¬ (s.length:Int) > 64 by omega)]
      rw [if_neg h]
      exact pdone [] (by simp only [go_sem,List.length_map]) (by first | rfl | simp [go_sem,slv_ids,List.length_map])
theorem u_texts (l:List Nm) (hl:smL l) (most:Int) (hmo:most ≤ 1000):PCalls Tryz.prog nX89 [.sl 2 (l.map nm_),.int .i64 most] (.int .i64 (txs l most)):=by
  refine pfun_sound (ic:=FX89.body) mixed cX89 rfl rfl ?_
  unfold txs
  by_cases hm:(l.length:Int) > most
  · simp only [go_sem,List.length_map,FX89,decide_eq_true hm]
    rw [if_pos hm]
    exact pdone [] (by simp only [go_sem,List.length_map]) (by first | rfl | simp [go_sem,slv_ids,List.length_map])
  · simp only [go_sem,List.length_map,FX89,decide_eq_false hm]
    rw [if_neg hm]
    refine loop_rule (fun i:Nat=>⟨[(5,.int .i64 i),(0,.sl 2 (l.map nm_))],[]⟩) (fun i=>i ≤ l.length ∧ txl l = txl (l.drop i)) (fun i=>l.length - i) 0 ⟨Nat.zero_le _,rfl⟩ (Wk.of ?_ ?_) ?_
    · simp only [go_sem,List.length_map]; try simp
    · simp only [go_sem,List.length_map]
    rintro i ⟨hi,hx⟩
    by_cases h1:(i:Int) < (l.length:Int)
    · have hi':i < l.length:=by omega
      rw [txl_at hi'] at hx
      have e8:=wi (n:=(i:Int) + 1) (by omega) (by omega)
      have ct:=u_text _ (smL_at hl hi')
      simp only [go_sem,List.length_map,decide_eq_true h1]
      refine ⟨by omega,h1,?_⟩
      refine call_same (ct) (by simp [go_sem,List.length_map]) ?_
      by_cases hz:txt (nth l i).s = 0
      · rw [if_neg (by simp [hz])] at hx
        simp only [go_sem,List.length_map,bne_f hz]
        refine klp_n (i + 1) ⟨show i + 1 ≤ l.length by omega,hx⟩ (show l.length - (i + 1) < l.length - i by omega) (Wk.of ?_ ?_)
        · simp only [go_sem,List.length_map,e8]; try simp
        · simp only [go_sem,List.length_map]
      · rw [if_pos hz] at hx
        rw [hx]
        simp only [go_sem,List.length_map,bne_t hz]
        exact pdone [] (by simp only [go_sem,List.length_map]) (by first | rfl | simp [go_sem,slv_ids,List.length_map])
    · rw [drop_end (by omega)] at hx
      rw [hx]
      simp only [go_sem,List.length_map,decide_eq_false h1]
      exact pdone [] (by simp only [go_sem,List.length_map,txl]) (by first | rfl | simp [go_sem,slv_ids,List.length_map])
theorem u_indexes (l:List Nm) (hl:l.length ≤ 100000000):PCalls Tryz.prog nX63 [.sl 2 (l.map nm_)] (.sl 1 ((ixs l).map vl_)):=by
  refine pfun_sound (ic:=FX63.body) mixed cX63 rfl rfl ?_
  simp only [go_sem,List.length_map,FX63]
  refine loop_rule (fun i:Nat=>⟨[(4,.int .i64 i),(0,.sl 2 (l.map nm_)),(3,.ms 900 1 0 i)],[(900,⟨3,1,(ixs (l.take i)).map vl_,false⟩)]⟩) (fun i=>i ≤ l.length) (fun i=>l.length - i) 0 (Nat.zero_le _) ((Wk.nil _ 3 900 1 3 (by simp only [go_sem,List.length_map]) (.inl (by decide))).trans (Wk.of ?_ ?_)) ?_
  · simp only [go_sem,List.length_map,St.mknil]; try simp [go_sem]
  · simp only [go_sem,List.length_map,St.mknil,List.take_zero,ixs]; try simp [go_sem]
  intro i hi
  have hil:(ixs (l.take i)).length = i:=by simp [ixs]; omega
  have happ:=fun ys=>appO_map 900 3 1 i vl_ (ixs (l.take i)) ys hil
  by_cases h1:(i:Int) < (l.length:Int)
  · have hi':i < l.length:=by omega
    have e8:=wi (n:=(i:Int) + 1) (by omega) (by omega)
    simp only [go_sem,List.length_map,decide_eq_true h1,happ]
    refine ⟨by omega,h1,by omega,klp_n (i + 1) (show i + 1 ≤ l.length by omega) (show l.length - (i + 1) < l.length - i by omega) (Wk.of ?_ ?_)⟩
    · simp only [go_sem,List.length_map,e8]; try simp
    · simp only [go_sem,List.length_map,ixs_tk hi',List.map_append]; try simp [vl_e]
  · obtain rfl:i = l.length:=by omega
    simp only [go_sem,List.length_map,decide_eq_false h1]
    have hxl:(ixs l).length = l.length:=by simp [ixs]
    refine pdone [900] ?_ rfl
    simp only [go_sem,List.length_map,List.length_map,List.take_length,hxl,Nat.le_refl]
    rw [List.take_of_length_le (by simp [ixs])]
    try rfl
theorem u_funcs (l:List Lc) (hl:l.length ≤ 100000000):PCalls Tryz.prog nX79 [.sl 2 (l.map lc_)] (.sl 1 ((fxs l).map vl_)):=by
  refine pfun_sound (ic:=FX79.body) mixed cX79 rfl rfl ?_
  simp only [go_sem,List.length_map,FX79]
  refine loop_rule (fun i:Nat=>⟨[(4,.int .i64 i),(0,.sl 2 (l.map lc_)),(3,.ms 900 1 0 i)],[(900,⟨3,1,(fxs (l.take i)).map vl_,false⟩)]⟩) (fun i=>i ≤ l.length) (fun i=>l.length - i) 0 (Nat.zero_le _) ((Wk.nil _ 3 900 1 3 (by simp only [go_sem,List.length_map]) (.inl (by decide))).trans (Wk.of ?_ ?_)) ?_
  · simp only [go_sem,List.length_map,St.mknil]; try simp [go_sem]
  · simp only [go_sem,List.length_map,St.mknil,List.take_zero,fxs]; try simp [go_sem]
  intro i hi
  have hil:(fxs (l.take i)).length = i:=by simp [fxs]; omega
  have happ:=fun ys=>appO_map 900 3 1 i vl_ (fxs (l.take i)) ys hil
  by_cases h1:(i:Int) < (l.length:Int)
  · have hi':i < l.length:=by omega
    have e8:=wi (n:=(i:Int) + 1) (by omega) (by omega)
    simp only [go_sem,List.length_map,decide_eq_true h1,happ]
    refine ⟨by omega,h1,by omega,klp_n (i + 1) (show i + 1 ≤ l.length by omega) (show l.length - (i + 1) < l.length - i by omega) (Wk.of ?_ ?_)⟩
    · simp only [go_sem,List.length_map,e8]; try simp
    · simp only [go_sem,List.length_map,fxs_tk hi',List.map_append]; try simp [vl_e]
  · obtain rfl:i = l.length:=by omega
    simp only [go_sem,List.length_map,decide_eq_false h1]
    have hxl:(fxs l).length = l.length:=by simp [fxs]
    refine pdone [900] ?_ rfl
    simp only [go_sem,List.length_map,List.length_map,List.take_length,hxl,Nat.le_refl]
    rw [List.take_of_length_le (by simp [fxs])]
    try rfl
end Go.Proofs.YtoikbadfbneahaaGreatDoor
set_option maxRecDepth 100000
set_option maxHeartbeats 20000000
set_option linter.unusedVariables false
set_option linter.unusedSimpArgs false
namespace Go.Proofs.YtoikbadfbneahaaGreatDoor
open Go Go.Mw
-- @U: List.length_map

theorem u_all (n:Ns) (hn:smN n):PCalls Tryz.prog nX121 [ns_ n] (.int .i64 (allE n)):=by
  refine pfun_sound (ic:=FX121.body) mixed cX121 rfl rfl ?_
  obtain ⟨s1,s2,s3⟩:=hn
  simp only [go_sem,List.length_map,FX121]
  refine call_same (u_text n.m s1) (by simp [go_sem,List.length_map]) ?_
  by_cases h0:txt n.m = 0
  rotate_left
  · rw [show allE n = txt n.m by unfold allE; simp [h0]]
    simp only [go_sem,List.length_map,bne_t h0]
    exact pdone [] (by simp only [go_sem,List.length_map]) (by first | rfl | simp [go_sem,slv_ids,List.length_map])
  simp only [go_sem,List.length_map,bne_f h0]
  refine call_same (u_texts n.fs s2 64 (by decide)) (by simp [go_sem,List.length_map]) ?_
  by_cases h1:txs n.fs 64 = 0
  rotate_left
  · rw [show allE n = txs n.fs 64 by unfold allE; simp [h0,h1]]
    simp only [go_sem,List.length_map,bne_t h1]
    exact pdone [] (by simp only [go_sem,List.length_map]) (by first | rfl | simp [go_sem,slv_ids,List.length_map])
  by_cases h2:(n.ls.length:Int) > 64
  · rw [show allE n = 6 by unfold allE; simp [h0,h1,h2]]
    simp only [go_sem,List.length_map,bne_f h1,decide_eq_true h2]
    exact pdone [] (by simp only [go_sem,List.length_map]) (by first | rfl | simp [go_sem,slv_ids,List.length_map])
  simp only [go_sem,List.length_map,bne_f h1,decide_eq_false h2]
  refine loop_rule (fun i:Nat=>⟨[(5,.int .i64 i),(1,.mp 1 3 0 0)],[(1,⟨25,3,[nsC n],true⟩)]⟩) (fun i=>i ≤ n.ls.length ∧ lcl n.ls = lcl (n.ls.drop i)) (fun i=>n.ls.length - i) 0 ⟨Nat.zero_le _,rfl⟩ (Wk.of ?_ ?_) ?_
  · simp only [go_sem,List.length_map]; try simp
  · simp only [go_sem,List.length_map,nsC]
  rintro i ⟨hi,hx⟩
  by_cases h3:(i:Int) < (n.ls.length:Int)
  · have hi':i < n.ls.length:=by omega
    rw [lcl_at hi'] at hx
    have e8:=wi (n:=(i:Int) + 1) (by omega) (by omega)
    have ct:=u_texts (nth n.ls i).l (s3 _ (by rw [nth_eq hi']; exact List.getElem_mem hi')) 72 (by decide)
    simp only [go_sem,List.length_map,decide_eq_true h3,nsC]
    refine ⟨by omega,h3,?_⟩
    refine call_same (ct) (by simp [go_sem,List.length_map]) ?_
    by_cases hz:txs (nth n.ls i).l 72 = 0
    · rw [if_neg (by simp [hz])] at hx
      simp only [go_sem,List.length_map,bne_f hz]
      refine klp_n (i + 1) ⟨show i + 1 ≤ n.ls.length by omega,hx⟩ (show n.ls.length - (i + 1) < n.ls.length - i by omega) (Wk.of ?_ ?_)
      · simp only [go_sem,List.length_map,e8]; try simp
      · simp only [go_sem,List.length_map,nsC]
    · rw [if_pos hz] at hx
      rw [show allE n = txs (nth n.ls i).l 72 by unfold allE; simp [h0,h1,h2,hx,hz]]
      simp only [go_sem,List.length_map,bne_t hz]
      exact pdone [] (by simp only [go_sem,List.length_map]) (by first | rfl | simp [go_sem,slv_ids,List.length_map])
  rw [drop_end (by omega)] at hx
  have hA:allE n = 0:=by unfold allE; simp [h0,h1,h2,hx,lcl]
  rw [hA]
  simp only [go_sem,List.length_map,decide_eq_false h3,nsC]
  exact pdone [] (by simp only [go_sem,List.length_map]) (by first | rfl | simp [go_sem,slv_ids,List.length_map])
theorem u_within (r:List Int) (hr:r.length ≤ 100000000):PCalls Tryz.prog nX70 [.sl 1 (r.map vl_)] (.bool (win r)):=by
  refine pfun_sound (ic:=FX70.body) mixed cX70 rfl rfl ?_
  obtain ⟨G,hG⟩:∃ G,win r = G:=⟨_,rfl⟩
  rw [hG]
  simp only [go_sem,List.length_map,FX70]
  refine loop_rule (fun k:Nat=>⟨[(3,.int .i64 k),(0,.sl 1 (r.map vl_))],[]⟩) (fun k=>k ≤ r.length ∧ G = win (r.drop k)) (fun k=>r.length - k) 0 ⟨Nat.zero_le _,hG.symm⟩ (Wk.of ?_ ?_) ?_
  · simp only [go_sem,List.length_map]; try simp
  · simp only [go_sem,List.length_map]
  rintro k ⟨hk,hy⟩
  by_cases h5:(k:Int) < (r.length:Int)
  · have hk':k < r.length:=by omega
    rw [win_at hk'] at hy
    have e9:=wi (n:=(k:Int) + 1) (by omega) (by omega)
    by_cases h6:nth r k < 0
    · rw [show inR (nth r k) = false by simp [inR]; omega,Bool.false_and] at hy
      subst hy
      simp only [go_sem,List.length_map,decide_eq_true h5,decide_eq_true h6]
      refine ⟨by omega,h5,?_⟩
      exact pdone [] (by simp only [go_sem,List.length_map]) (by first | rfl | simp [go_sem,slv_ids,List.length_map])
    · by_cases h7:nth r k ≥ 4294967296
      · rw [show inR (nth r k) = false by simp [inR]; omega,Bool.false_and] at hy
        subst hy
        simp only [go_sem,List.length_map,decide_eq_true h5,decide_eq_false h6,decide_eq_true h7]
        refine ⟨by omega,h5,by omega,h5,?_⟩
        exact pdone [] (by simp only [go_sem,List.length_map]) (by first | rfl | simp [go_sem,slv_ids,List.length_map])
      · rw [show inR (nth r k) = true by simp [inR]; omega,Bool.true_and] at hy
        simp only [go_sem,List.length_map,decide_eq_true h5,decide_eq_false h6,decide_eq_false h7]
        refine ⟨by omega,h5,by omega,h5,klp_n (k + 1) ⟨show k + 1 ≤ r.length by omega,hy⟩ (show r.length - (k + 1) < r.length - k by omega) (Wk.of ?_ ?_)⟩
        · simp only [go_sem,List.length_map,e9]; try simp
        · simp only [go_sem,List.length_map]
  · rw [drop_end (by omega),show win [] = true from rfl] at hy
    subst hy
    simp only [go_sem,List.length_map,decide_eq_false h5]
    exact pdone [] (by simp only [go_sem,List.length_map]) (by first | rfl | simp [go_sem,slv_ids,List.length_map])
theorem u_rise (r:List Int) (hr:r.length ≤ 100000000):PCalls Tryz.prog nX98 [.sl 1 (r.map vl_)] (.bool (ris r)):=by
  refine pfun_sound (ic:=FX98.body) mixed cX98 rfl rfl ?_
  obtain ⟨G,hG⟩:∃ G,ris r = G:=⟨_,rfl⟩
  rw [hG]
  simp only [go_sem,List.length_map,FX98]
  refine loop_rule (fun k:Nat=>⟨[(3,.int .i64 k),(0,.sl 1 (r.map vl_))],[]⟩) (fun k=>1 ≤ k ∧ k ≤ r.length + 1 ∧ G = ris (r.drop (k - 1))) (fun k=>r.length + 1 - k) 1 ⟨Nat.le_refl _,by omega,hG.symm⟩ (Wk.of ?_ ?_) ?_
  · simp only [go_sem,List.length_map]; try simp
  · simp only [go_sem,List.length_map]
  rintro k ⟨hk1,hk,hy⟩
  by_cases h5:(k:Int) < (r.length:Int)
  · have hk':k < r.length:=by omega
    rw [ris_at hk1 hk'] at hy
    have e9:=wi (n:=(k:Int) + 1) (by omega) (by omega)
    have e7:IntKind.i64.wrap ((k:Int) - 1) = ((k - 1:Nat):Int):=by rw [wi (by omega) (by omega)]; omega
    by_cases h6:nth r k ≤ nth r (k - 1)
    · rw [decide_eq_false (by omega),Bool.false_and] at hy
      subst hy
      simp only [go_sem,List.length_map,decide_eq_true h5,e7,decide_eq_true h6]
      refine ⟨by omega,h5,by omega,by omega,?_⟩
      exact pdone [] (by simp only [go_sem,List.length_map]) (by first | rfl | simp [go_sem,slv_ids,List.length_map])
    · rw [decide_eq_true (by omega),Bool.true_and] at hy
      simp only [go_sem,List.length_map,decide_eq_true h5,e7,decide_eq_false h6]
      refine ⟨by omega,h5,by omega,by omega,klp_n (k + 1) ⟨by omega,show k + 1 ≤ r.length + 1 by omega,hy⟩ (show r.length + 1 - (k + 1) < r.length + 1 - k by omega) (Wk.of ?_ ?_)⟩
      · simp only [go_sem,List.length_map,e9]; try simp
      · simp only [go_sem,List.length_map]
  · rw [ris_end (by omega)] at hy
    subst hy
    simp only [go_sem,List.length_map,decide_eq_false h5]
    exact pdone [] (by simp only [go_sem,List.length_map]) (by first | rfl | simp [go_sem,slv_ids,List.length_map])
def Wb (n:Ns) (i:Nat):Bool:=(ixR n (n.ls.take i)).all win
def Rb (n:Ns) (i:Nat):Bool:=(ixR n (n.ls.take i)).all ris
theorem Wb_0 (n:Ns):Wb n 0 = (win (ixs n.fs) && win (fxs n.ls)):=by simp [Wb,ixR,ixl]
theorem Rb_0 (n:Ns):Rb n 0 = (ris (ixs n.fs) && ris (fxs n.ls)):=by simp [Rb,ixR,ixl]
theorem Wb_s {n:Ns} {i:Nat} (h:i < n.ls.length):Wb n (i + 1) = (Wb n i && win (ixs (nth n.ls i).l)):=by
  unfold Wb; rw [ixR_tk h,List.all_append]; simp
theorem Rb_s {n:Ns} {i:Nat} (h:i < n.ls.length):Rb n (i + 1) = (Rb n i && ris (ixs (nth n.ls i).l)):=by
  unfold Rb; rw [ixR_tk h,List.all_append]; simp
theorem Wb_l (n:Ns):Wb n n.ls.length = (rowsI n).all win:=by unfold Wb; rw [List.take_length]; rfl
theorem Rb_l (n:Ns):Rb n n.ls.length = (rowsI n).all ris:=by unfold Rb; rw [List.take_length]; rfl
theorem allE_sh {n:Ns} (h:allE n = 0):shN n:=by
  unfold allE at h
  split at h
  · rename_i hne; exact absurd h hne
  split at h
  · rename_i hne; exact absurd h hne
  rename_i h1
  split at h
  · cases h
  rename_i h2
  have:=txs_len (l:=n.fs) (m:=64) (by simpa using h1)
  exact ⟨by omega,by omega,lcl_len h⟩
end Go.Proofs.YtoikbadfbneahaaGreatDoor
