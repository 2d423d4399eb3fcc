/-
  Chapter 14,walks: the reference's UTF-8; what it checks of names.
-/
import Derived.Test.YtoaagdbbbojpmaaGreatDoorQh
import Derived.Test.YtoaagdbbbojpmaaGreatDoorQg
set_option linter.unusedVariables false
set_option linter.unusedSimpArgs false
set_option linter.unusedSectionVars false
set_option maxRecDepth 100000
set_option maxHeartbeats 40000000
set_option linter.unusedVariables false
set_option linter.unusedSimpArgs false
namespace Go.Proofs.YtoaagdbbbojpmaaGreatDoor
open Go Go.Mw
-- @U: List.length_map

attribute [local go_sem] List.length_map
theorem u_is (n:Nat):PCalls Tryz.prog nX162 [.int .i64 n] (.bool (isR n)):=by
  refine pfun_sound (ic:=FX162.body) mixed cX162 rfl rfl ?_
  unfold isR
  by_cases h1:n < 55296
  · rw [decide_eq_true h1,Bool.true_or]
    simp only [go_sem,FX162,decide_eq_true (show (n:Int) ≥ 0 by omega),decide_eq_true (show (n:Int) < 55296 by omega)]
    exact pdone [] (by first | (simp only [go_sem]; done) | (simp only [go_sem]; rfl)) (by rfl)
  · rw [decide_eq_false h1,Bool.false_or]
    by_cases h2:n > 57343
    · rw [decide_eq_true h2,Bool.true_and]
      by_cases h3:n ≤ 1114111
      · rw [decide_eq_true h3]
        simp only [go_sem,FX162,decide_eq_true (show (n:Int) ≥ 0 by omega),decide_eq_false (show ¬ (n:Int) < 55296 by omega),decide_eq_true (show (n:Int) > 57343 by omega),decide_eq_true (show (n:Int) ≤ 1114111 by omega)]
        exact pdone [] (by first | (simp only [go_sem]; done) | (simp only [go_sem]; rfl)) (by rfl)
      · rw [decide_eq_false h3]
        simp only [go_sem,FX162,decide_eq_true (show (n:Int) ≥ 0 by omega),decide_eq_false (show ¬ (n:Int) < 55296 by omega),decide_eq_true (show (n:Int) > 57343 by omega),decide_eq_false (show ¬ (n:Int) ≤ 1114111 by omega)]
        exact pdone [] (by first | (simp only [go_sem]; done) | (simp only [go_sem]; rfl)) (by rfl)
    · rw [decide_eq_false h2,Bool.false_and]
      simp only [go_sem,FX162,decide_eq_true (show (n:Int) ≥ 0 by omega),decide_eq_false (show ¬ (n:Int) < 55296 by omega),decide_eq_false (show ¬ (n:Int) > 57343 by omega)]
      exact pdone [] (by first | (simp only [go_sem]; done) | (simp only [go_sem]; rfl)) (by rfl)
theorem bn_drop (s:List UInt8) (i k:Nat):bn (s.drop i) k = (nth s (i + k)).toNat:=by unfold bn; rw [nth_drop]
theorem u_rune1 (s:List UInt8) (hs:s.length ≤ 1048576) (i:Nat) (hi:i < s.length):PCalls Tryz.prog nX114 [.str s,.int .i64 i] (.tup [.int .i64 (rn3 (s.drop i)).1,.int .i64 (rn3 (s.drop i)).2]):=by
  refine pfun_sound (ic:=FX114.body) mixed cX114 rfl rfl ?_
  have hlen:(s.drop i).length = s.length - i:=by simp
  have hb:=bn_drop s i
  have h0:(nth s i).toNat = bn (s.drop i) 0:=by rw [hb]; rfl
  have hlt:=(nth s i).toNat_lt
  have wc:IntKind.i64.wrap ((nth s i).toNat:Int) = ((nth s i).toNat:Int):=wi (by omega) (by omega)
  generalize hl:s.drop i = l at *
  by_cases g0:bn l 0 < 128
  · rw [rn3_0 g0]
    simp only [go_sem,FX114,wc,decide_eq_true (show ((nth s i).toNat:Int) < 128 by omega)]
    refine ⟨by omega,by omega,?_⟩
    rw [← h0]
    exact pdone [] (by first | (simp only [go_sem]; done) | (simp only [go_sem]; rfl)) (by rfl)
  by_cases g1:bn l 0 < 192
  · rw [rn3_n (by omega) (.inl g1)]
    simp only [go_sem,FX114,wc,decide_eq_false (show ¬ ((nth s i).toNat:Int) < 128 by omega),decide_eq_false (show ¬ ((nth s i).toNat:Int) ≥ 192 by omega),decide_eq_false (show ¬ ((nth s i).toNat:Int) ≥ 224 by omega),decide_eq_false (show ¬ ((nth s i).toNat:Int) ≥ 240 by omega)]
    refine ⟨by omega,by omega,?_⟩
    exact pdone [] (by first | (simp only [go_sem]; done) | (simp only [go_sem]; rfl)) (by rfl)
  by_cases g2:bn l 0 < 224
  · have hx:bn l 0 - 192 < 32:=by omega
    have wx:IntKind.i64.wrap ((nth s i).toNat - 192:Int) = ((bn l 0 - 192:Nat):Int):=by rw [wi (by omega) (by omega)]; omega
    rw [rn3_2 (by omega) g2]
    have wn:IntKind.i64.wrap ((i:Int) + 2) = ((i + 2:Nat):Int):=by rw [wi (by omega) (by omega)]; omega
    by_cases gl:((i + 2:Nat):Int) > (s.length:Int)
    · rw [r3g_no (fun q=>by have:=q.1; omega)]
      simp only [go_sem,FX114,wc,decide_eq_false (show ¬ ((nth s i).toNat:Int) < 128 by omega),decide_eq_true (show ((nth s i).toNat:Int) ≥ 192 by omega),decide_eq_true (show ((nth s i).toNat:Int) < 224 by omega),wx,wn,decide_eq_true gl]
      refine ⟨by omega,by omega,?_⟩
      exact pdone [] (by first | (simp only [go_sem]; done) | (simp only [go_sem]; rfl)) (by rfl)
    simp only [go_sem,FX114,wc,decide_eq_false (show ¬ ((nth s i).toNat:Int) < 128 by omega),decide_eq_true (show ((nth s i).toNat:Int) ≥ 192 by omega),decide_eq_true (show ((nth s i).toNat:Int) < 224 by omega),wx,wn,decide_eq_false gl]
    refine ⟨by omega,by omega,?_⟩
    refine loop_rule (fun k:Nat=>⟨[(10,.int .i64 k),(9,.int .i64 (xk l (bn l 0 - 192) k:Nat)),(8,.int .i64 128),(7,.int .i64 2),(0,.str s),(1,.int .i64 i)],[]⟩) (fun k=>1 ≤ k ∧ k ≤ 2 ∧ ∀ j,1 ≤ j → j < k → ctb (bn l j)) (fun k=>2 - k) 1 ⟨Nat.le_refl _,by decide,fun j a b=>by omega⟩ (Wk.of ?_ ?_) ?_
    · simp only [go_sem,wx,xk]; try simp
    · simp only [go_sem]
    rintro k ⟨hk1,hk,hc⟩
    by_cases hkn:(k:Int) < 2
    · have w1:IntKind.i64.wrap ((i:Int) + (k:Int)) = ((i + k:Nat):Int):=by rw [wi (by omega) (by omega)]; omega
      have e8:IntKind.i64.wrap ((k:Int) + 1) = (k:Int) + 1:=wi (by omega) (by omega)
      have hd:=hb k
      have hdl:=(nth s (i + k)).toNat_lt
      have wd:IntKind.i64.wrap ((nth s (i + k)).toNat:Int) = ((nth s (i + k)).toNat:Int):=wi (by omega) (by omega)
      have hik:i + k < s.length:=by omega
      by_cases hct:ctb (bn l k)
      · have hct':=hct
        unfold ctb at hct'
        have hxk:=xk_lt hx (k - 1) (fun j a b=>hc j a (by omega))
        rw [show k - 1 + 1 = k by omega] at hxk
        have hp:(64:Nat) ^ (k - 1) ≤ 64 ^ 2:=Nat.pow_le_pow_right (by decide) (by omega)
        have hxs:=xk_s (l:=l) (x:=bn l 0 - 192) hk1
        generalize (64:Nat) ^ (k - 1) = p at *
        have wm:IntKind.i64.wrap ((xk l (bn l 0 - 192) k:Nat) * 64:Int) = ((xk l (bn l 0 - 192) k * 64:Nat):Int):=by rw [wi (by omega) (by omega)]; omega
        have wa:IntKind.i64.wrap (((xk l (bn l 0 - 192) k * 64:Nat):Int) + ((nth s (i + k)).toNat:Int)) = ((xk l (bn l 0 - 192) k * 64 + bn l k:Nat):Int):=by rw [wi (by omega) (by omega)]; omega
        have ws:IntKind.i64.wrap (((xk l (bn l 0 - 192) k * 64 + bn l k:Nat):Int) - 128) = ((xk l (bn l 0 - 192) (k + 1):Nat):Int):=by rw [wi (by omega) (by omega)]; omega
        simp only [go_sem,decide_eq_true hkn,w1,wd,decide_eq_false (show ¬ ((nth s (i + k)).toNat:Int) < 128 by omega),decide_eq_false (show ¬ ((nth s (i + k)).toNat:Int) ≥ 192 by omega),wm,wa,ws]
        refine ⟨by omega,by omega,klp_n (k + 1) ⟨by omega,show k + 1 ≤ 2 by omega,fun j a b=>?_⟩ (show 2 - (k + 1) < 2 - k by omega) (Wk.of ?_ ?_)⟩
        · rcases Nat.lt_or_ge j k with q | q
          · exact hc j a q
          · rw [show j = k by omega]; exact hct
        · simp only [go_sem,e8]; try simp
        · simp only [go_sem]
      · rw [r3g_no (fun q=>hct (q.2.1 k hk1 (by omega)))]
        unfold ctb at hct
        by_cases h1:(nth s (i + k)).toNat < 128
        · simp only [go_sem,decide_eq_true hkn,w1,wd,decide_eq_true (show ((nth s (i + k)).toNat:Int) < 128 by omega)]
          refine ⟨by omega,by omega,?_⟩
          exact pdone [] (by first | (simp only [go_sem]; done) | (simp only [go_sem]; rfl)) (by rfl)
        · simp only [go_sem,decide_eq_true hkn,w1,wd,decide_eq_false (show ¬ ((nth s (i + k)).toNat:Int) < 128 by omega),decide_eq_true (show ((nth s (i + k)).toNat:Int) ≥ 192 by omega)]
          refine ⟨by omega,by omega,?_⟩
          exact pdone [] (by first | (simp only [go_sem]; done) | (simp only [go_sem]; rfl)) (by rfl)
    · obtain rfl:k = 2:=by omega
      generalize hX:xk l (bn l 0 - 192) 2 = X at *
      by_cases h1:X < 128
      · rw [r3g_no (fun q=>by have:=q.2.2.1; rw [hX] at this; omega)]
        simp only [go_sem,decide_eq_false hkn,decide_eq_true (show (X:Int) < 128 by omega)]
        exact pdone [] (by first | (simp only [go_sem]; done) | (simp only [go_sem]; rfl)) (by rfl)
      · simp only [go_sem,decide_eq_false hkn,decide_eq_false (show ¬ (X:Int) < 128 by omega)]
        refine call_same (u_is X) (by simp [go_sem]) ?_
        cases h2:isR X
        · rw [r3g_no (fun q=>by have:=q.2.2.2; rw [hX,h2] at this; cases this)]
          simp only [go_sem]
          exact pdone [] (by first | (simp only [go_sem]; done) | (simp only [go_sem]; rfl)) (by rfl)
        · rw [r3g_yes ⟨by omega,hc,by rw [hX]; omega,by rw [hX]; exact h2⟩,hX]
          simp only [go_sem]
          exact pdone [] (by first | (simp only [go_sem]; done) | (simp only [go_sem]; rfl)) (by rfl)
  by_cases g3:bn l 0 < 240
  · have hx:bn l 0 - 224 < 32:=by omega
    have wx:IntKind.i64.wrap ((nth s i).toNat - 224:Int) = ((bn l 0 - 224:Nat):Int):=by rw [wi (by omega) (by omega)]; omega
    rw [rn3_3 (by omega) g3]
    have wn:IntKind.i64.wrap ((i:Int) + 3) = ((i + 3:Nat):Int):=by rw [wi (by omega) (by omega)]; omega
    by_cases gl:((i + 3:Nat):Int) > (s.length:Int)
    · rw [r3g_no (fun q=>by have:=q.1; omega)]
      simp only [go_sem,FX114,wc,decide_eq_false (show ¬ ((nth s i).toNat:Int) < 128 by omega),decide_eq_true (show ((nth s i).toNat:Int) ≥ 192 by omega),decide_eq_false (show ¬ ((nth s i).toNat:Int) < 224 by omega),decide_eq_true (show ((nth s i).toNat:Int) ≥ 224 by omega),decide_eq_true (show ((nth s i).toNat:Int) < 240 by omega),wx,wn,decide_eq_true gl]
      refine ⟨by omega,by omega,?_⟩
      exact pdone [] (by first | (simp only [go_sem]; done) | (simp only [go_sem]; rfl)) (by rfl)
    simp only [go_sem,FX114,wc,decide_eq_false (show ¬ ((nth s i).toNat:Int) < 128 by omega),decide_eq_true (show ((nth s i).toNat:Int) ≥ 192 by omega),decide_eq_false (show ¬ ((nth s i).toNat:Int) < 224 by omega),decide_eq_true (show ((nth s i).toNat:Int) ≥ 224 by omega),decide_eq_true (show ((nth s i).toNat:Int) < 240 by omega),wx,wn,decide_eq_false gl]
    refine ⟨by omega,by omega,?_⟩
    refine loop_rule (fun k:Nat=>⟨[(10,.int .i64 k),(9,.int .i64 (xk l (bn l 0 - 224) k:Nat)),(8,.int .i64 2048),(7,.int .i64 3),(0,.str s),(1,.int .i64 i)],[]⟩) (fun k=>1 ≤ k ∧ k ≤ 3 ∧ ∀ j,1 ≤ j → j < k → ctb (bn l j)) (fun k=>3 - k) 1 ⟨Nat.le_refl _,by decide,fun j a b=>by omega⟩ (Wk.of ?_ ?_) ?_
    · simp only [go_sem,wx,xk]; try simp
    · simp only [go_sem]
    rintro k ⟨hk1,hk,hc⟩
    by_cases hkn:(k:Int) < 3
    · have w1:IntKind.i64.wrap ((i:Int) + (k:Int)) = ((i + k:Nat):Int):=by rw [wi (by omega) (by omega)]; omega
      have e8:IntKind.i64.wrap ((k:Int) + 1) = (k:Int) + 1:=wi (by omega) (by omega)
      have hd:=hb k
      have hdl:=(nth s (i + k)).toNat_lt
      have wd:IntKind.i64.wrap ((nth s (i + k)).toNat:Int) = ((nth s (i + k)).toNat:Int):=wi (by omega) (by omega)
      have hik:i + k < s.length:=by omega
      by_cases hct:ctb (bn l k)
      · have hct':=hct
        unfold ctb at hct'
        have hxk:=xk_lt hx (k - 1) (fun j a b=>hc j a (by omega))
        rw [show k - 1 + 1 = k by omega] at hxk
        have hp:(64:Nat) ^ (k - 1) ≤ 64 ^ 2:=Nat.pow_le_pow_right (by decide) (by omega)
        have hxs:=xk_s (l:=l) (x:=bn l 0 - 224) hk1
        generalize (64:Nat) ^ (k - 1) = p at *
        have wm:IntKind.i64.wrap ((xk l (bn l 0 - 224) k:Nat) * 64:Int) = ((xk l (bn l 0 - 224) k * 64:Nat):Int):=by rw [wi (by omega) (by omega)]; omega
        have wa:IntKind.i64.wrap (((xk l (bn l 0 - 224) k * 64:Nat):Int) + ((nth s (i + k)).toNat:Int)) = ((xk l (bn l 0 - 224) k * 64 + bn l k:Nat):Int):=by rw [wi (by omega) (by omega)]; omega
        have ws:IntKind.i64.wrap (((xk l (bn l 0 - 224) k * 64 + bn l k:Nat):Int) - 128) = ((xk l (bn l 0 - 224) (k + 1):Nat):Int):=by rw [wi (by omega) (by omega)]; omega
        simp only [go_sem,decide_eq_true hkn,w1,wd,decide_eq_false (show ¬ ((nth s (i + k)).toNat:Int) < 128 by omega),decide_eq_false (show ¬ ((nth s (i + k)).toNat:Int) ≥ 192 by omega),wm,wa,ws]
        refine ⟨by omega,by omega,klp_n (k + 1) ⟨by omega,show k + 1 ≤ 3 by omega,fun j a b=>?_⟩ (show 3 - (k + 1) < 3 - k by omega) (Wk.of ?_ ?_)⟩
        · rcases Nat.lt_or_ge j k with q | q
          · exact hc j a q
          · rw [show j = k by omega]; exact hct
        · simp only [go_sem,e8]; try simp
        · simp only [go_sem]
      · rw [r3g_no (fun q=>hct (q.2.1 k hk1 (by omega)))]
        unfold ctb at hct
        by_cases h1:(nth s (i + k)).toNat < 128
        · simp only [go_sem,decide_eq_true hkn,w1,wd,decide_eq_true (show ((nth s (i + k)).toNat:Int) < 128 by omega)]
          refine ⟨by omega,by omega,?_⟩
          exact pdone [] (by first | (simp only [go_sem]; done) | (simp only [go_sem]; rfl)) (by rfl)
        · simp only [go_sem,decide_eq_true hkn,w1,wd,decide_eq_false (show ¬ ((nth s (i + k)).toNat:Int) < 128 by omega),decide_eq_true (show ((nth s (i + k)).toNat:Int) ≥ 192 by omega)]
          refine ⟨by omega,by omega,?_⟩
          exact pdone [] (by first | (simp only [go_sem]; done) | (simp only [go_sem]; rfl)) (by rfl)
    · obtain rfl:k = 3:=by omega
      generalize hX:xk l (bn l 0 - 224) 3 = X at *
      by_cases h1:X < 2048
      · rw [r3g_no (fun q=>by have:=q.2.2.1; rw [hX] at this; omega)]
        simp only [go_sem,decide_eq_false hkn,decide_eq_true (show (X:Int) < 2048 by omega)]
        exact pdone [] (by first | (simp only [go_sem]; done) | (simp only [go_sem]; rfl)) (by rfl)
      · simp only [go_sem,decide_eq_false hkn,decide_eq_false (show ¬ (X:Int) < 2048 by omega)]
        refine call_same (u_is X) (by simp [go_sem]) ?_
        cases h2:isR X
        · rw [r3g_no (fun q=>by have:=q.2.2.2; rw [hX,h2] at this; cases this)]
          simp only [go_sem]
          exact pdone [] (by first | (simp only [go_sem]; done) | (simp only [go_sem]; rfl)) (by rfl)
        · rw [r3g_yes ⟨by omega,hc,by rw [hX]; omega,by rw [hX]; exact h2⟩,hX]
          simp only [go_sem]
          exact pdone [] (by first | (simp only [go_sem]; done) | (simp only [go_sem]; rfl)) (by rfl)
  by_cases g4:bn l 0 < 248
  · have hx:bn l 0 - 240 < 32:=by omega
    have wx:IntKind.i64.wrap ((nth s i).toNat - 240:Int) = ((bn l 0 - 240:Nat):Int):=by rw [wi (by omega) (by omega)]; omega
    rw [rn3_4 (by omega) g4]
    have wn:IntKind.i64.wrap ((i:Int) + 4) = ((i + 4:Nat):Int):=by rw [wi (by omega) (by omega)]; omega
    by_cases gl:((i + 4:Nat):Int) > (s.length:Int)
    · rw [r3g_no (fun q=>by have:=q.1; omega)]
      simp only [go_sem,FX114,wc,decide_eq_false (show ¬ ((nth s i).toNat:Int) < 128 by omega),decide_eq_true (show ((nth s i).toNat:Int) ≥ 192 by omega),decide_eq_false (show ¬ ((nth s i).toNat:Int) < 224 by omega),decide_eq_true (show ((nth s i).toNat:Int) ≥ 224 by omega),decide_eq_false (show ¬ ((nth s i).toNat:Int) < 240 by omega),decide_eq_true (show ((nth s i).toNat:Int) ≥ 240 by omega),decide_eq_true (show ((nth s i).toNat:Int) < 248 by omega),wx,wn,decide_eq_true gl]
      refine ⟨by omega,by omega,?_⟩
      exact pdone [] (by first | (simp only [go_sem]; done) | (simp only [go_sem]; rfl)) (by rfl)
    simp only [go_sem,FX114,wc,decide_eq_false (show ¬ ((nth s i).toNat:Int) < 128 by omega),decide_eq_true (show ((nth s i).toNat:Int) ≥ 192 by omega),decide_eq_false (show ¬ ((nth s i).toNat:Int) < 224 by omega),decide_eq_true (show ((nth s i).toNat:Int) ≥ 224 by omega),decide_eq_false (show ¬ ((nth s i).toNat:Int) < 240 by omega),decide_eq_true (show ((nth s i).toNat:Int) ≥ 240 by omega),decide_eq_true (show ((nth s i).toNat:Int) < 248 by omega),wx,wn,decide_eq_false gl]
    refine ⟨by omega,by omega,?_⟩
    refine loop_rule (fun k:Nat=>⟨[(10,.int .i64 k),(9,.int .i64 (xk l (bn l 0 - 240) k:Nat)),(8,.int .i64 65536),(7,.int .i64 4),(0,.str s),(1,.int .i64 i)],[]⟩) (fun k=>1 ≤ k ∧ k ≤ 4 ∧ ∀ j,1 ≤ j → j < k → ctb (bn l j)) (fun k=>4 - k) 1 ⟨Nat.le_refl _,by decide,fun j a b=>by omega⟩ (Wk.of ?_ ?_) ?_
    · simp only [go_sem,wx,xk]; try simp
    · simp only [go_sem]
    rintro k ⟨hk1,hk,hc⟩
    by_cases hkn:(k:Int) < 4
    · have w1:IntKind.i64.wrap ((i:Int) + (k:Int)) = ((i + k:Nat):Int):=by rw [wi (by omega) (by omega)]; omega
      have e8:IntKind.i64.wrap ((k:Int) + 1) = (k:Int) + 1:=wi (by omega) (by omega)
      have hd:=hb k
      have hdl:=(nth s (i + k)).toNat_lt
      have wd:IntKind.i64.wrap ((nth s (i + k)).toNat:Int) = ((nth s (i + k)).toNat:Int):=wi (by omega) (by omega)
      have hik:i + k < s.length:=by omega
      by_cases hct:ctb (bn l k)
      · have hct':=hct
        unfold ctb at hct'
        have hxk:=xk_lt hx (k - 1) (fun j a b=>hc j a (by omega))
        rw [show k - 1 + 1 = k by omega] at hxk
        have hp:(64:Nat) ^ (k - 1) ≤ 64 ^ 2:=Nat.pow_le_pow_right (by decide) (by omega)
        have hxs:=xk_s (l:=l) (x:=bn l 0 - 240) hk1
        generalize (64:Nat) ^ (k - 1) = p at *
        have wm:IntKind.i64.wrap ((xk l (bn l 0 - 240) k:Nat) * 64:Int) = ((xk l (bn l 0 - 240) k * 64:Nat):Int):=by rw [wi (by omega) (by omega)]; omega
        have wa:IntKind.i64.wrap (((xk l (bn l 0 - 240) k * 64:Nat):Int) + ((nth s (i + k)).toNat:Int)) = ((xk l (bn l 0 - 240) k * 64 + bn l k:Nat):Int):=by rw [wi (by omega) (by omega)]; omega
        have ws:IntKind.i64.wrap (((xk l (bn l 0 - 240) k * 64 + bn l k:Nat):Int) - 128) = ((xk l (bn l 0 - 240) (k + 1):Nat):Int):=by rw [wi (by omega) (by omega)]; omega
        simp only [go_sem,decide_eq_true hkn,w1,wd,decide_eq_false (show ¬ ((nth s (i + k)).toNat:Int) < 128 by omega),decide_eq_false (show ¬ ((nth s (i + k)).toNat:Int) ≥ 192 by omega),wm,wa,ws]
        refine ⟨by omega,by omega,klp_n (k + 1) ⟨by omega,show k + 1 ≤ 4 by omega,fun j a b=>?_⟩ (show 4 - (k + 1) < 4 - k by omega) (Wk.of ?_ ?_)⟩
        · rcases Nat.lt_or_ge j k with q | q
          · exact hc j a q
          · rw [show j = k by omega]; exact hct
        · simp only [go_sem,e8]; try simp
        · simp only [go_sem]
      · rw [r3g_no (fun q=>hct (q.2.1 k hk1 (by omega)))]
        unfold ctb at hct
        by_cases h1:(nth s (i + k)).toNat < 128
        · simp only [go_sem,decide_eq_true hkn,w1,wd,decide_eq_true (show ((nth s (i + k)).toNat:Int) < 128 by omega)]
          refine ⟨by omega,by omega,?_⟩
          exact pdone [] (by first | (simp only [go_sem]; done) | (simp only [go_sem]; rfl)) (by rfl)
        · simp only [go_sem,decide_eq_true hkn,w1,wd,decide_eq_false (show ¬ ((nth s (i + k)).toNat:Int) < 128 by omega),decide_eq_true (show ((nth s (i + k)).toNat:Int) ≥ 192 by omega)]
          refine ⟨by omega,by omega,?_⟩
          exact pdone [] (by first | (simp only [go_sem]; done) | (simp only [go_sem]; rfl)) (by rfl)
    · obtain rfl:k = 4:=by omega
      generalize hX:xk l (bn l 0 - 240) 4 = X at *
      by_cases h1:X < 65536
      · rw [r3g_no (fun q=>by have:=q.2.2.1; rw [hX] at this; omega)]
        simp only [go_sem,decide_eq_false hkn,decide_eq_true (show (X:Int) < 65536 by omega)]
        exact pdone [] (by first | (simp only [go_sem]; done) | (simp only [go_sem]; rfl)) (by rfl)
      · simp only [go_sem,decide_eq_false hkn,decide_eq_false (show ¬ (X:Int) < 65536 by omega)]
        refine call_same (u_is X) (by simp [go_sem]) ?_
        cases h2:isR X
        · rw [r3g_no (fun q=>by have:=q.2.2.2; rw [hX,h2] at this; cases this)]
          simp only [go_sem]
          exact pdone [] (by first | (simp only [go_sem]; done) | (simp only [go_sem]; rfl)) (by rfl)
        · rw [r3g_yes ⟨by omega,hc,by rw [hX]; omega,by rw [hX]; exact h2⟩,hX]
          simp only [go_sem]
          exact pdone [] (by first | (simp only [go_sem]; done) | (simp only [go_sem]; rfl)) (by rfl)
  · rw [rn3_n (by omega) (.inr (by omega))]
    simp only [go_sem,FX114,wc,decide_eq_false (show ¬ ((nth s i).toNat:Int) < 128 by omega),decide_eq_true (show ((nth s i).toNat:Int) ≥ 192 by omega),decide_eq_false (show ¬ ((nth s i).toNat:Int) < 224 by omega),decide_eq_true (show ((nth s i).toNat:Int) ≥ 224 by omega),decide_eq_false (show ¬ ((nth s i).toNat:Int) < 240 by omega),decide_eq_true (show ((nth s i).toNat:Int) ≥ 240 by omega),decide_eq_false (show ¬ ((nth s i).toNat:Int) < 248 by omega)]
    refine ⟨by omega,by omega,?_⟩
    exact pdone [] (by first | (simp only [go_sem]; done) | (simp only [go_sem]; rfl)) (by rfl)
end Go.Proofs.YtoaagdbbbojpmaaGreatDoor
set_option maxRecDepth 100000
set_option maxHeartbeats 20000000
set_option linter.unusedVariables false
set_option linter.unusedSimpArgs false
namespace Go.Proofs.YtoaagdbbbojpmaaGreatDoor
open Go Go.Mw
-- @U: List.length_map

attribute [local go_sem] List.length_map
theorem u_runes (s:List UInt8) (hs:s.length ≤ 1048576):ACalls Tryz.prog nX112 [.str s] [] sb (fun r' σ'=>∃ v:AV,noId v ∧ r' = .tup [v,.bool (uv s)] ∧ σ' = []):=by
  refine fun_sound (ic:=FX112.body) mixed cX112 rfl rfl ?_
  simp only [go_sem,FX112]
  refine loop_rule (fun q:List Int × Nat=>⟨[(5,.int .i64 q.2),(4,.ms 900 1 0 q.1.length),(0,.str s)],[(900,⟨21,1,q.1.map r3,false⟩)]⟩) (fun q=>q.2 ≤ s.length ∧ q.1.length ≤ q.2 ∧ uv s = uv (s.drop q.2)) (fun q=>s.length - q.2) ([],0) ⟨Nat.zero_le _,Nat.zero_le _,rfl⟩ ((Wk.nil _ 4 900 1 21 (by simp only [go_sem]) (.inl (by decide))).trans (Wk.of ?_ ?_)) ?_
  · simp only [go_sem,St.mknil]; try simp [go_sem]
  · simp only [go_sem,St.mknil]; try simp [go_sem]
  rintro ⟨l,p⟩ ⟨h1,h2,h3⟩
  simp only at h1 h2 h3
  have happ:=fun ys=>appO_map 900 21 1 l.length r3 l ys rfl
  by_cases hp:(p:Int) < (s.length:Int)
  · have hp':p < s.length:=by omega
    have hd:0 < (s.drop p).length:=by simp; omega
    have ct:=u_rune1 s hs p hp'
    have hl3:(s.drop p).length = s.length - p:=by simp
    have hgo:=fun h=>uv_rn3 (l:=s.drop p) hd h
    have hno:=fun h=>uv_rno (l:=s.drop p) hd h
    generalize rn3 (s.drop p) = R at *
    obtain ⟨x,k⟩:=R
    simp only at ct hgo hno
    by_cases hk:k = 0
    · subst hk
      rw [h3,hno rfl]
      simp only [go_sem,decide_eq_true hp]
      refine call_same (ct) (by simp [go_sem]) ?_
      simp only [go_sem,show (((0:Nat):Int) == 0) = true from rfl]
      exact done [] _ [] (by simp only [go_sem]) trivial rfl ⟨.nl,rfl,rfl,rfl⟩
    · obtain ⟨q1,q2⟩:=hgo hk
      rw [List.drop_drop] at q1
      have e8:IntKind.i64.wrap ((p:Int) + (k:Int)) = ((p + k:Nat):Int):=by rw [wi (by omega) (by omega)]; omega
      simp only [go_sem,decide_eq_true hp]
      refine call_same (ct) (by simp [go_sem]) ?_
      simp only [go_sem,beq_f (show (k:Int) ≠ 0 by omega),happ]
      refine ⟨by omega,klp_n (l ++ [IntKind.i32.wrap (x:Int)],p + k) ⟨show p + k ≤ s.length by omega,show (l ++ [IntKind.i32.wrap (x:Int)]).length ≤ p + k by simp; omega,h3.trans q1⟩ (show s.length - (p + k) < s.length - p by omega) (Wk.of ?_ ?_)⟩
      · simp only [go_sem,e8]; try simp
      · simp only [go_sem]; try simp [r3_e]
  · obtain rfl:p = s.length:=by omega
    rw [h3,List.drop_length,uv_nil]
    simp only [go_sem,decide_eq_false hp]
    refine done [900] (.tup [.sl 1 (l.map r3),.bool true]) [] ?_ trivial rfl ⟨.sl 1 (l.map r3),rfl,rfl,rfl⟩
    simp only [go_sem,Nat.le_refl]
    rw [List.take_of_length_le (by simp)]
theorem u_uval (s:List UInt8) (hs:smS s):PCalls Tryz.prog nX113 [.str s] (.bool (uv s)):=by
  refine pfun_sound (ic:=FX113.body) mixed cX113 rfl rfl ?_
  simp only [go_sem,FX113]
  refine call_pe (u_runes s hs) ?_
  intro v hv
  simp only [go_sem]
  exact pdone [] (by simp only [go_sem]) (by first | rfl | simp [go_sem,slv_ids])
end Go.Proofs.YtoaagdbbbojpmaaGreatDoor
set_option maxRecDepth 100000
set_option maxHeartbeats 40000000
set_option linter.unusedVariables false
set_option linter.unusedSimpArgs false
namespace Go.Proofs.YtoaagdbbbojpmaaGreatDoor
open Go Go.Mw
-- @U: List.length_map,mdC_e,ftC_e,imC_e,tbC_e,lmC_e,cdC_e,exC_e,elC_e,daC_e,cuC_e,inL_e,fa_,faO

theorem at_c (p i e:Int):(atF p i e).c = e:=by
  unfold atF
  split
  · rename_i h; rw [h]; rfl
  · rfl
attribute [local go_sem] List.length_map mdC_e ftC_e imC_e tbC_e lmC_e cdC_e exC_e elC_e daC_e cuC_e inL_e fa_ faO
theorem r_name7 (s:List UInt8):PCalls Tryz.prog nX136 [.str s] (.int .i64 (nmE s)):=by
  refine pfun_sound (ic:=FX136.body) mixed cX136 rfl rfl ?_
  unfold nmE
  by_cases q1:(s.length:Int) > 64
  · rw [if_pos (by omega)]
    simp only [go_sem,FX136,decide_eq_true q1]
    exact pdone [] (by simp only [go_sem]) (by first | rfl | simp [go_sem,slv_ids])
  rw [if_neg (by omega)]
  simp only [go_sem,FX136,decide_eq_false q1]
  have cc:=u_uval s (show s.length ≤ 1048576 by omega)
  refine call_same (cc) (by simp [go_sem]) ?_
  cases uv s
  · simp only [go_sem]
    exact pdone [] (by simp only [go_sem]; try rfl) (by rfl)
  · simp only [go_sem]
    exact pdone [] (by simp only [go_sem]; try rfl) (by rfl)
def imO (x:Im):Int:=if x.k < 0 ∨ x.k > 3 ∨ bareA x ≠ x then 1 else if x.k = 1 then tbE ⟨x.te,x.tl⟩ else if x.k = 2 then mmE x.me else if x.k = 3 then glE x.g else if inR x.f = false then 11 else 0
end Go.Proofs.YtoaagdbbbojpmaaGreatDoor
set_option maxRecDepth 100000
set_option maxHeartbeats 40000000
set_option linter.unusedVariables false
set_option linter.unusedSimpArgs false
namespace Go.Proofs.YtoaagdbbbojpmaaGreatDoor
open Go Go.Mw
-- @U: List.length_map,mdC_e,ftC_e,imC_e,tbC_e,lmC_e,cdC_e,exC_e,elC_e,daC_e,cuC_e,inL_e,fa_,faO

def exF (m:Md):Fa:=gr (fun i x=>atF 7 i (exE x)) 0 m.exs (lgF 7 m.exs.length 64)
attribute [local go_sem] List.length_map mdC_e ftC_e imC_e tbC_e lmC_e cdC_e exC_e elC_e daC_e cuC_e inL_e fa_ faO
theorem r_exs (m:Md) (h:smM m):PCalls Tryz.prog nX70 [md_ m] (fa_ (exF m)):=by
  refine pfun_sound (ic:=FX70.body) mixed cX70 rfl rfl ?_
  obtain ⟨G,hG⟩:∃ G,exF m = G:=⟨_,rfl⟩
  rw [hG]
  have hts:=h.exs
  have c0:=r_long 7 m.exs.length 64
  simp only [fa_] at c0
  simp only [go_sem,FX70,md_]
  refine call_same (c0) (by simp [go_sem]) ?_
  simp only [go_sem]
  refine loop_rule (fun q:Nat × Fa=>⟨[(4,.int .i64 q.1),(1,.mp 1 12 0 0),(3,.mp 3 4 0 0),(2,.mp 2 4 0 0)],[(3,faO q.2),(2,faO lm0),(1,⟨33,12,[mdC m],true⟩)]⟩) (fun q=>q.1 ≤ m.exs.length ∧ G = gr (fun i x=>atF 7 i (exE x)) q.1 (m.exs.drop q.1) q.2) (fun q=>m.exs.length - q.1) (0,lgF 7 m.exs.length 64) ⟨Nat.zero_le _,hG.symm⟩ (Wk.of ?_ ?_) ?_
  · simp only [go_sem]; try simp [lm0]
  · simp only [go_sem]; try simp [lm0]
  rintro ⟨j,E⟩ ⟨hj,hx⟩
  simp only at hj hx
  by_cases h1:(j:Int) < (m.exs.length:Int)
  rotate_left
  · rw [drop_end (by omega)] at hx
    obtain rfl:G = E:=hx
    simp only [go_sem,decide_eq_false h1]
    exact pdone [] (by simp only [go_sem]; try rfl) (by rfl)
  have hj':j < m.exs.length:=by omega
  have e8:=i_bd hj' (by omega)
  have cn:=r_none E
  simp only [fa_] at cn
  by_cases hE:E.c = 0
  rotate_left
  · rw [gr_no E hE] at hx
    obtain rfl:G = E:=hx
    rw [beq_f hE] at cn
    simp only [go_sem,decide_eq_true h1]
    refine call_same (cn) (by simp [go_sem]) ?_
    simp only [go_sem]
    exact pdone [] (by simp only [go_sem]; try rfl) (by rfl)
  rw [beq_t hE] at cn
  rw [gr_at hj' E hE] at hx
  have c1:=r_name7 (nth m.exs j).n
  have c2:=r_index7 (nth m.exs j).i
  have a1:=r_at 7 j (nmE (nth m.exs j).n)
  have n1:=r_none (atF 7 j (nmE (nth m.exs j).n))
  have a2:=r_at 7 j 1
  have n2:=r_none (atF 7 j 1)
  rw [beq_f (show (atF 7 j 1).c ≠ 0 by rw [at_c]; decide)] at n2
  have a3:=r_at 7 j 11
  simp only [fa_] at a1 n1 a2 n2 a3
  simp only [go_sem,decide_eq_true h1]
  refine call_same (cn) (by simp [go_sem]) ?_
  simp only [go_sem]
  refine ⟨by omega,h1,?_⟩
  refine call_same (c1) (by simp [go_sem]) ?_
  simp only [go_sem]
  refine call_same (a1) (by simp [go_sem]) ?_
  by_cases e0:nmE (nth m.exs j).n = 0
  rotate_left
  · have hf:exE (nth m.exs j) = nmE (nth m.exs j).n:=by unfold exE; rw [if_pos e0]
    rw [hf] at hx
    rw [beq_f (show (atF 7 j (nmE (nth m.exs j).n)).c ≠ 0 by rw [at_c]; exact e0)] at n1
    simp only [go_sem]
    refine call_same (n1) (by simp [go_sem]) ?_
    simp only [go_sem]
    refine call_same (n1) (by simp [go_sem]) ?_
    simp only [go_sem]
    refine klp_n (j + 1,atF 7 j (nmE (nth m.exs j).n)) ⟨show j + 1 ≤ m.exs.length by omega,hx⟩ (show m.exs.length - (j + 1) < m.exs.length - j by omega) (Wk.of ?_ ?_)
    · simp only [go_sem,e8]; try simp
    · simp only [go_sem]
  have hf0:exE (nth m.exs j) = if (nth m.exs j).k < 0 ∨ (nth m.exs j).k > 3 then 1 else if inR (nth m.exs j).i = false then 11 else 0:=by unfold exE; rw [if_neg (by simp [e0])]
  rw [beq_t (show (atF 7 j (nmE (nth m.exs j).n)).c = 0 by rw [at_c]; exact e0)] at n1
  simp only [go_sem]
  refine call_same (n1) (by simp [go_sem]) ?_
  by_cases q1:(nth m.exs j).k < 0
  · rw [hf0,if_pos (.inl q1)] at hx
    simp only [go_sem,decide_eq_true q1]
    refine call_same (a2) (by simp [go_sem]) ?_
    simp only [go_sem]
    refine call_same (n2) (by simp [go_sem]) ?_
    simp only [go_sem]
    refine klp_n (j + 1,atF 7 j 1) ⟨show j + 1 ≤ m.exs.length by omega,hx⟩ (show m.exs.length - (j + 1) < m.exs.length - j by omega) (Wk.of ?_ ?_)
    · simp only [go_sem,e8]; try simp
    · simp only [go_sem]
  by_cases q2:(nth m.exs j).k > 3
  · rw [hf0,if_pos (.inr q2)] at hx
    simp only [go_sem,decide_eq_false q1,decide_eq_true q2]
    refine call_same (a2) (by simp [go_sem]) ?_
    simp only [go_sem]
    refine call_same (n2) (by simp [go_sem]) ?_
    simp only [go_sem]
    refine klp_n (j + 1,atF 7 j 1) ⟨show j + 1 ≤ m.exs.length by omega,hx⟩ (show m.exs.length - (j + 1) < m.exs.length - j by omega) (Wk.of ?_ ?_)
    · simp only [go_sem,e8]; try simp
    · simp only [go_sem]
  rw [hf0,if_neg (by omega)] at hx
  simp only [go_sem,decide_eq_false q1,decide_eq_false q2]
  refine call_same (n1) (by simp [go_sem]) ?_
  simp only [go_sem]
  refine call_same (c2) (by simp [go_sem]) ?_
  cases v:inR (nth m.exs j).i
  · rw [if_pos v] at hx
    simp only [go_sem]
    refine call_same (a3) (by simp [go_sem]) ?_
    simp only [go_sem]
    refine klp_n (j + 1,atF 7 j 11) ⟨show j + 1 ≤ m.exs.length by omega,hx⟩ (show m.exs.length - (j + 1) < m.exs.length - j by omega) (Wk.of ?_ ?_)
    · simp only [go_sem,e8]; try simp
    · simp only [go_sem]
  · rw [if_neg (by simp [v]),← e0] at hx
    simp only [go_sem]
    refine klp_n (j + 1,atF 7 j (nmE (nth m.exs j).n)) ⟨show j + 1 ≤ m.exs.length by omega,hx⟩ (show m.exs.length - (j + 1) < m.exs.length - j by omega) (Wk.of ?_ ?_)
    · simp only [go_sem,e8]; try simp
    · simp only [go_sem]
end Go.Proofs.YtoaagdbbbojpmaaGreatDoor
set_option maxRecDepth 100000
set_option maxHeartbeats 40000000
set_option linter.unusedVariables false
set_option linter.unusedSimpArgs false
namespace Go.Proofs.YtoaagdbbbojpmaaGreatDoor
open Go Go.Mw
-- @U: List.length_map,mdC_e,ftC_e,imC_e,tbC_e,lmC_e,cdC_e,exC_e,elC_e,daC_e,cuC_e,inL_e,fa_,faO

def csF (m:Md):Fa:=gr (fun i x=>atF 11 i (cuE x)) 0 m.cs (lgF 11 m.cs.length 8)
attribute [local go_sem] List.length_map mdC_e ftC_e imC_e tbC_e lmC_e cdC_e exC_e elC_e daC_e cuC_e inL_e fa_ faO
theorem r_csl (m:Md) (h:smM m):PCalls Tryz.prog nX69 [md_ m] (fa_ (csF m)):=by
  refine pfun_sound (ic:=FX69.body) mixed cX69 rfl rfl ?_
  obtain ⟨G,hG⟩:∃ G,csF m = G:=⟨_,rfl⟩
  rw [hG]
  have hts:=h.cs
  have c0:=r_long 11 m.cs.length 8
  simp only [fa_] at c0
  simp only [go_sem,FX69,md_]
  refine call_same (c0) (by simp [go_sem]) ?_
  simp only [go_sem]
  refine loop_rule (fun q:Nat × Fa=>⟨[(4,.int .i64 q.1),(1,.mp 1 12 0 0),(3,.mp 3 4 0 0),(2,.mp 2 4 0 0)],[(3,faO q.2),(2,faO lm0),(1,⟨33,12,[mdC m],true⟩)]⟩) (fun q=>q.1 ≤ m.cs.length ∧ G = gr (fun i x=>atF 11 i (cuE x)) q.1 (m.cs.drop q.1) q.2) (fun q=>m.cs.length - q.1) (0,lgF 11 m.cs.length 8) ⟨Nat.zero_le _,hG.symm⟩ (Wk.of ?_ ?_) ?_
  · simp only [go_sem]; try simp [lm0]
  · simp only [go_sem]; try simp [lm0]
  rintro ⟨j,E⟩ ⟨hj,hx⟩
  simp only at hj hx
  by_cases h1:(j:Int) < (m.cs.length:Int)
  rotate_left
  · rw [drop_end (by omega)] at hx
    obtain rfl:G = E:=hx
    simp only [go_sem,decide_eq_false h1]
    exact pdone [] (by simp only [go_sem]; try rfl) (by rfl)
  have hj':j < m.cs.length:=by omega
  have e8:=i_bd hj' (by omega)
  have cn:=r_none E
  simp only [fa_] at cn
  by_cases hE:E.c = 0
  rotate_left
  · rw [gr_no E hE] at hx
    obtain rfl:G = E:=hx
    rw [beq_f hE] at cn
    simp only [go_sem,decide_eq_true h1]
    refine call_same (cn) (by simp [go_sem]) ?_
    simp only [go_sem]
    exact pdone [] (by simp only [go_sem]; try rfl) (by rfl)
  rw [beq_t hE] at cn
  rw [gr_at hj' E hE] at hx
  have c1:=r_name7 (nth m.cs j).n
  have a1:=r_at 11 j (nmE (nth m.cs j).n)
  have n1:=r_none (atF 11 j (nmE (nth m.cs j).n))
  have a2:=r_at 11 j 6
  have n2:=r_none (atF 11 j 6)
  rw [beq_f (show (atF 11 j 6).c ≠ 0 by rw [at_c]; decide)] at n2
  have a3:=r_at 11 j 1
  simp only [fa_] at a1 n1 a2 n2 a3
  simp only [go_sem,decide_eq_true h1]
  refine call_same (cn) (by simp [go_sem]) ?_
  simp only [go_sem]
  refine ⟨by omega,h1,?_⟩
  refine call_same (c1) (by simp [go_sem]) ?_
  simp only [go_sem]
  refine call_same (a1) (by simp [go_sem]) ?_
  by_cases e0:nmE (nth m.cs j).n = 0
  rotate_left
  · have hf:cuE (nth m.cs j) = nmE (nth m.cs j).n:=by unfold cuE; rw [if_pos e0]
    rw [hf] at hx
    rw [beq_f (show (atF 11 j (nmE (nth m.cs j).n)).c ≠ 0 by rw [at_c]; exact e0)] at n1
    simp only [go_sem]
    refine call_same (n1) (by simp [go_sem]) ?_
    simp only [go_sem]
    refine call_same (n1) (by simp [go_sem]) ?_
    simp only [go_sem]
    refine klp_n (j + 1,atF 11 j (nmE (nth m.cs j).n)) ⟨show j + 1 ≤ m.cs.length by omega,hx⟩ (show m.cs.length - (j + 1) < m.cs.length - j by omega) (Wk.of ?_ ?_)
    · simp only [go_sem,e8]; try simp
    · simp only [go_sem]
  have hf0:cuE (nth m.cs j) = if (nth m.cs j).b.length > 4096 then 6 else if (nth m.cs j).af < 0 ∨ (nth m.cs j).af > 12 then 1 else 0:=by unfold cuE; rw [if_neg (by simp [e0])]
  rw [beq_t (show (atF 11 j (nmE (nth m.cs j).n)).c = 0 by rw [at_c]; exact e0)] at n1
  simp only [go_sem]
  refine call_same (n1) (by simp [go_sem]) ?_
  by_cases q0:((nth m.cs j).b.length:Int) > 4096
  · rw [hf0,if_pos (by omega)] at hx
    simp only [go_sem,decide_eq_true q0]
    refine call_same (a2) (by simp [go_sem]) ?_
    simp only [go_sem]
    refine call_same (n2) (by simp [go_sem]) ?_
    simp only [go_sem]
    refine klp_n (j + 1,atF 11 j 6) ⟨show j + 1 ≤ m.cs.length by omega,hx⟩ (show m.cs.length - (j + 1) < m.cs.length - j by omega) (Wk.of ?_ ?_)
    · simp only [go_sem,e8]; try simp
    · simp only [go_sem]
  rw [hf0,if_neg (by omega)] at hx
  simp only [go_sem,decide_eq_false q0]
  refine call_same (n1) (by simp [go_sem]) ?_
  by_cases q1:(nth m.cs j).af < 0
  · rw [if_pos (.inl q1)] at hx
    simp only [go_sem,decide_eq_true q1]
    refine call_same (a3) (by simp [go_sem]) ?_
    simp only [go_sem]
    refine klp_n (j + 1,atF 11 j 1) ⟨show j + 1 ≤ m.cs.length by omega,hx⟩ (show m.cs.length - (j + 1) < m.cs.length - j by omega) (Wk.of ?_ ?_)
    · simp only [go_sem,e8]; try simp
    · simp only [go_sem]
  by_cases q2:(nth m.cs j).af > 12
  · rw [if_pos (.inr q2)] at hx
    simp only [go_sem,decide_eq_false q1,decide_eq_true q2]
    refine call_same (a3) (by simp [go_sem]) ?_
    simp only [go_sem]
    refine klp_n (j + 1,atF 11 j 1) ⟨show j + 1 ≤ m.cs.length by omega,hx⟩ (show m.cs.length - (j + 1) < m.cs.length - j by omega) (Wk.of ?_ ?_)
    · simp only [go_sem,e8]; try simp
    · simp only [go_sem]
  rw [if_neg (by omega),← e0] at hx
  simp only [go_sem,decide_eq_false q1,decide_eq_false q2]
  refine klp_n (j + 1,atF 11 j (nmE (nth m.cs j).n)) ⟨show j + 1 ≤ m.cs.length by omega,hx⟩ (show m.cs.length - (j + 1) < m.cs.length - j by omega) (Wk.of ?_ ?_)
  · simp only [go_sem,e8]; try simp
  · simp only [go_sem]
end Go.Proofs.YtoaagdbbbojpmaaGreatDoor
set_option maxRecDepth 100000
set_option maxHeartbeats 40000000
set_option linter.unusedVariables false
set_option linter.unusedSimpArgs false
namespace Go.Proofs.YtoaagdbbbojpmaaGreatDoor
open Go Go.Mw
-- @U: List.length_map,mdC_e,ftC_e,imC_e,tbC_e,lmC_e,cdC_e,exC_e,elC_e,daC_e,cuC_e,inL_e,fa_,faO

theorem one_k0 {x:Im} (h:x.k = 0):((x.te == 0) && ((x.tl.mn == 0) && ((x.tl.mx == 0) && ((x.tl.hs == false) && ((x.me.mn == 0) && ((x.me.mx == 0) && ((x.me.hs == false) && ((x.g.v == 0) && (x.g.mu == false))))))))) = decide (bareA x = x):=by
  obtain ⟨m,n,k,f,te,⟨t1,t2,t3⟩,⟨m1,m2,m3⟩,⟨v,u⟩⟩:=x
  simp only at h
  subst h
  rw [Bool.eq_iff_iff,decide_eq_true_iff]
  simp only [bareA,Int.reduceEq,if_true,if_false,Im.mk.injEq,Lm.mk.injEq,Gl.mk.injEq,Bool.and_eq_true,beq_iff_eq,true_and,and_true]
  grind
theorem one_k1 {x:Im} (h:x.k = 1):((x.f == 0) && ((x.me.mn == 0) && ((x.me.mx == 0) && ((x.me.hs == false) && ((x.g.v == 0) && (x.g.mu == false)))))) = decide (bareA x = x):=by
  obtain ⟨m,n,k,f,te,⟨t1,t2,t3⟩,⟨m1,m2,m3⟩,⟨v,u⟩⟩:=x
  simp only at h
  subst h
  rw [Bool.eq_iff_iff,decide_eq_true_iff]
  simp only [bareA,Int.reduceEq,if_true,if_false,Im.mk.injEq,Lm.mk.injEq,Gl.mk.injEq,Bool.and_eq_true,beq_iff_eq,true_and,and_true]
  grind
theorem one_k2 {x:Im} (h:x.k = 2):((x.f == 0) && ((x.te == 0) && ((x.tl.mn == 0) && ((x.tl.mx == 0) && ((x.tl.hs == false) && ((x.g.v == 0) && (x.g.mu == false))))))) = decide (bareA x = x):=by
  obtain ⟨m,n,k,f,te,⟨t1,t2,t3⟩,⟨m1,m2,m3⟩,⟨v,u⟩⟩:=x
  simp only at h
  subst h
  rw [Bool.eq_iff_iff,decide_eq_true_iff]
  simp only [bareA,Int.reduceEq,if_true,if_false,Im.mk.injEq,Lm.mk.injEq,Gl.mk.injEq,Bool.and_eq_true,beq_iff_eq,true_and,and_true]
  grind
theorem one_k3 {x:Im} (h:x.k = 3):((x.f == 0) && ((x.te == 0) && ((x.tl.mn == 0) && ((x.tl.mx == 0) && ((x.tl.hs == false) && ((x.me.mn == 0) && ((x.me.mx == 0) && (x.me.hs == false)))))))) = decide (bareA x = x):=by
  obtain ⟨m,n,k,f,te,⟨t1,t2,t3⟩,⟨m1,m2,m3⟩,⟨v,u⟩⟩:=x
  simp only at h
  subst h
  rw [Bool.eq_iff_iff,decide_eq_true_iff]
  simp only [bareA,Int.reduceEq,if_true,if_false,Im.mk.injEq,Lm.mk.injEq,Gl.mk.injEq,Bool.and_eq_true,beq_iff_eq,true_and,and_true]
  grind
attribute [local go_sem] List.length_map mdC_e ftC_e imC_e tbC_e lmC_e cdC_e exC_e elC_e daC_e cuC_e inL_e fa_ faO
theorem r_one7 (x:Im):PCalls Tryz.prog nX156 [.agg (imC x)] (.int .i64 (imO x)):=by
  refine pfun_sound (ic:=FX156.body) mixed cX156 rfl rfl ?_
  have c4:=r_tab7 ⟨x.te,x.tl⟩
  have c5:=r_mem7 x.me
  have c6:=r_glb x.g
  have c7:=r_index7 x.f
  obtain ⟨G,hG⟩:∃ G,imO x = G:=⟨_,rfl⟩
  rw [hG]
  unfold imO at hG
  by_cases q:x.k = 0
  · have key:=one_k0 q
    by_cases z:bareA x = x
    rotate_left
    · rw [decide_eq_false z] at key
      rw [if_pos (.inr (.inr z))] at hG
      subst hG
      simp only [go_sem,FX156,beq_t q,key,Bool.not_false]
      exact pdone [] (by simp only [go_sem]; try rfl) (by rfl)
    rw [decide_eq_true z] at key
    rw [if_neg (fun w=>by rcases w with w | w | w; omega; omega; exact w z)] at hG
    rw [if_neg (show ¬ x.k = 1 by omega)] at hG
    rw [if_neg (show ¬ x.k = 2 by omega)] at hG
    rw [if_neg (show ¬ x.k = 3 by omega)] at hG
    simp only [go_sem,FX156,beq_t q,key,Bool.not_true]
    refine call_same (c7) (by simp [go_sem]) ?_
    cases v:inR x.f
    · rw [if_pos v] at hG
      subst hG
      simp only [go_sem]
      exact pdone [] (by simp only [go_sem]; try rfl) (by rfl)
    · rw [if_neg (by simp [v])] at hG
      subst hG
      simp only [go_sem]
      exact pdone [] (by simp only [go_sem]; try rfl) (by rfl)
  by_cases q:x.k = 1
  · have key:=one_k1 q
    by_cases z:bareA x = x
    rotate_left
    · rw [decide_eq_false z] at key
      rw [if_pos (.inr (.inr z))] at hG
      subst hG
      simp only [go_sem,FX156,beq_f (show x.k ≠ 0 by omega),beq_t q,key,Bool.not_false]
      exact pdone [] (by simp only [go_sem]; try rfl) (by rfl)
    rw [decide_eq_true z] at key
    rw [if_neg (fun w=>by rcases w with w | w | w; omega; omega; exact w z)] at hG
    rw [if_pos q] at hG
    simp only [go_sem,FX156,beq_f (show x.k ≠ 0 by omega),beq_t q,key,Bool.not_true]
    refine call_same (c4) (by simp [go_sem]) ?_
    simp only [go_sem]
    subst hG
    exact pdone [] (by simp only [go_sem]) (by first | rfl | simp [go_sem,slv_ids])
  by_cases q:x.k = 2
  · have key:=one_k2 q
    by_cases z:bareA x = x
    rotate_left
    · rw [decide_eq_false z] at key
      rw [if_pos (.inr (.inr z))] at hG
      subst hG
      simp only [go_sem,FX156,beq_f (show x.k ≠ 0 by omega),beq_f (show x.k ≠ 1 by omega),beq_t q,key,Bool.not_false]
      exact pdone [] (by simp only [go_sem]; try rfl) (by rfl)
    rw [decide_eq_true z] at key
    rw [if_neg (fun w=>by rcases w with w | w | w; omega; omega; exact w z)] at hG
    rw [if_neg (show ¬ x.k = 1 by omega)] at hG
    rw [if_pos q] at hG
    simp only [go_sem,FX156,beq_f (show x.k ≠ 0 by omega),beq_f (show x.k ≠ 1 by omega),beq_t q,key,Bool.not_true]
    refine call_same (c5) (by simp [go_sem]) ?_
    simp only [go_sem]
    subst hG
    exact pdone [] (by simp only [go_sem]) (by first | rfl | simp [go_sem,slv_ids])
  by_cases q:x.k = 3
  · have key:=one_k3 q
    by_cases z:bareA x = x
    rotate_left
    · rw [decide_eq_false z] at key
      rw [if_pos (.inr (.inr z))] at hG
      subst hG
      simp only [go_sem,FX156,beq_f (show x.k ≠ 0 by omega),beq_f (show x.k ≠ 1 by omega),beq_f (show x.k ≠ 2 by omega),beq_t q,key,Bool.not_false]
      exact pdone [] (by simp only [go_sem]; try rfl) (by rfl)
    rw [decide_eq_true z] at key
    rw [if_neg (fun w=>by rcases w with w | w | w; omega; omega; exact w z)] at hG
    rw [if_neg (show ¬ x.k = 1 by omega)] at hG
    rw [if_neg (show ¬ x.k = 2 by omega)] at hG
    rw [if_pos q] at hG
    unfold glE at hG
    simp only [go_sem,FX156,beq_f (show x.k ≠ 0 by omega),beq_f (show x.k ≠ 1 by omega),beq_f (show x.k ≠ 2 by omega),beq_t q,key,Bool.not_true]
    refine call_same (c6) (by simp [go_sem]) ?_
    cases v:vlB x.g.v
    · rw [if_pos v] at hG
      subst hG
      simp only [go_sem]
      exact pdone [] (by simp only [go_sem]; try rfl) (by rfl)
    · rw [if_neg (by simp [v])] at hG
      subst hG
      simp only [go_sem]
      exact pdone [] (by simp only [go_sem]; try rfl) (by rfl)
  rw [if_pos (by omega)] at hG
  subst hG
  simp only [go_sem,FX156,beq_f (show x.k ≠ 0 by omega),beq_f (show x.k ≠ 1 by omega),beq_f (show x.k ≠ 2 by omega),beq_f (show x.k ≠ 3 by omega)]
  exact pdone [] (by simp only [go_sem]; try rfl) (by rfl)
end Go.Proofs.YtoaagdbbbojpmaaGreatDoor
set_option maxRecDepth 100000
set_option maxHeartbeats 40000000
set_option linter.unusedVariables false
set_option linter.unusedSimpArgs false
namespace Go.Proofs.YtoaagdbbbojpmaaGreatDoor
open Go Go.Mw
-- @U: List.length_map,mdC_e,ftC_e,imC_e,tbC_e,lmC_e,cdC_e,exC_e,elC_e,daC_e,cuC_e,inL_e,fa_,faO

def imF (m:Md):Fa:=gr (fun i x=>atF 2 i (imE x)) 0 m.ims (lgF 2 m.ims.length 32)
attribute [local go_sem] List.length_map mdC_e ftC_e imC_e tbC_e lmC_e cdC_e exC_e elC_e daC_e cuC_e inL_e fa_ faO
theorem r_imsL (m:Md) (h:smM m):PCalls Tryz.prog nX72 [md_ m] (fa_ (imF m)):=by
  refine pfun_sound (ic:=FX72.body) mixed cX72 rfl rfl ?_
  obtain ⟨G,hG⟩:∃ G,imF m = G:=⟨_,rfl⟩
  rw [hG]
  have hts:=h.ims
  have c0:=r_long 2 m.ims.length 32
  simp only [fa_] at c0
  simp only [go_sem,FX72,md_]
  refine call_same (c0) (by simp [go_sem]) ?_
  simp only [go_sem]
  refine loop_rule (fun q:Nat × Fa=>⟨[(4,.int .i64 q.1),(1,.mp 1 12 0 0),(3,.mp 3 4 0 0),(2,.mp 2 4 0 0)],[(3,faO q.2),(2,faO lm0),(1,⟨33,12,[mdC m],true⟩)]⟩) (fun q=>q.1 ≤ m.ims.length ∧ G = gr (fun i x=>atF 2 i (imE x)) q.1 (m.ims.drop q.1) q.2) (fun q=>m.ims.length - q.1) (0,lgF 2 m.ims.length 32) ⟨Nat.zero_le _,hG.symm⟩ (Wk.of ?_ ?_) ?_
  · simp only [go_sem]; try simp [lm0]
  · simp only [go_sem]; try simp [lm0]
  rintro ⟨j,E⟩ ⟨hj,hx⟩
  simp only at hj hx
  by_cases h1:(j:Int) < (m.ims.length:Int)
  rotate_left
  · rw [drop_end (by omega)] at hx
    obtain rfl:G = E:=hx
    simp only [go_sem,decide_eq_false h1]
    exact pdone [] (by simp only [go_sem]; try rfl) (by rfl)
  have hj':j < m.ims.length:=by omega
  have e8:=i_bd hj' (by omega)
  have cn:=r_none E
  simp only [fa_] at cn
  by_cases hE:E.c = 0
  rotate_left
  · rw [gr_no E hE] at hx
    obtain rfl:G = E:=hx
    rw [beq_f hE] at cn
    simp only [go_sem,decide_eq_true h1]
    refine call_same (cn) (by simp [go_sem]) ?_
    simp only [go_sem]
    exact pdone [] (by simp only [go_sem]; try rfl) (by rfl)
  rw [beq_t hE] at cn
  rw [gr_at hj' E hE] at hx
  have c1:=r_name7 (nth m.ims j).m
  have c2:=r_name7 (nth m.ims j).n
  have c3:=r_one7 (nth m.ims j)
  have a1:=r_at 2 j (nmE (nth m.ims j).m)
  have n1:=r_none (atF 2 j (nmE (nth m.ims j).m))
  have a2:=r_at 2 j (nmE (nth m.ims j).n)
  have n2:=r_none (atF 2 j (nmE (nth m.ims j).n))
  have a3:=r_at 2 j (imO (nth m.ims j))
  simp only [fa_] at a1 n1 a2 n2 a3
  simp only [imC_e] at c3
  simp only [go_sem,decide_eq_true h1]
  refine call_same (cn) (by simp [go_sem]) ?_
  simp only [go_sem]
  refine ⟨by omega,h1,?_⟩
  refine call_same (c1) (by simp [go_sem]) ?_
  simp only [go_sem]
  refine call_same (a1) (by simp [go_sem]) ?_
  by_cases e0:nmE (nth m.ims j).m = 0
  rotate_left
  · have hf:imE (nth m.ims j) = nmE (nth m.ims j).m:=by unfold imE; rw [if_pos e0]
    rw [hf] at hx
    rw [beq_f (show (atF 2 j (nmE (nth m.ims j).m)).c ≠ 0 by rw [at_c]; exact e0)] at n1
    simp only [go_sem]
    refine call_same (n1) (by simp [go_sem]) ?_
    simp only [go_sem]
    refine call_same (n1) (by simp [go_sem]) ?_
    simp only [go_sem]
    refine klp_n (j + 1,atF 2 j (nmE (nth m.ims j).m)) ⟨show j + 1 ≤ m.ims.length by omega,hx⟩ (show m.ims.length - (j + 1) < m.ims.length - j by omega) (Wk.of ?_ ?_)
    · simp only [go_sem,e8]; try simp
    · simp only [go_sem]
  rw [beq_t (show (atF 2 j (nmE (nth m.ims j).m)).c = 0 by rw [at_c]; exact e0)] at n1
  simp only [go_sem]
  refine call_same (n1) (by simp [go_sem]) ?_
  simp only [go_sem]
  refine ⟨by omega,h1,?_⟩
  refine call_same (c2) (by simp [go_sem]) ?_
  simp only [go_sem]
  refine call_same (a2) (by simp [go_sem]) ?_
  by_cases e1:nmE (nth m.ims j).n = 0
  rotate_left
  · have hf:imE (nth m.ims j) = nmE (nth m.ims j).n:=by unfold imE; rw [if_neg (by simp [e0]),if_pos e1]
    rw [hf] at hx
    rw [beq_f (show (atF 2 j (nmE (nth m.ims j).n)).c ≠ 0 by rw [at_c]; exact e1)] at n2
    simp only [go_sem]
    refine call_same (n2) (by simp [go_sem]) ?_
    simp only [go_sem]
    refine klp_n (j + 1,atF 2 j (nmE (nth m.ims j).n)) ⟨show j + 1 ≤ m.ims.length by omega,hx⟩ (show m.ims.length - (j + 1) < m.ims.length - j by omega) (Wk.of ?_ ?_)
    · simp only [go_sem,e8]; try simp
    · simp only [go_sem]
  have hf:imE (nth m.ims j) = imO (nth m.ims j):=by unfold imE imO; rw [if_neg (by simp [e0]),if_neg (by simp [e1])]
  rw [hf] at hx
  rw [beq_t (show (atF 2 j (nmE (nth m.ims j).n)).c = 0 by rw [at_c]; exact e1)] at n2
  simp only [go_sem]
  refine call_same (n2) (by simp [go_sem]) ?_
  simp only [go_sem]
  refine ⟨by omega,h1,?_⟩
  refine call_same (c3) (by simp [go_sem]) ?_
  simp only [go_sem]
  refine call_same (a3) (by simp [go_sem]) ?_
  simp only [go_sem]
  refine klp_n (j + 1,atF 2 j (imO (nth m.ims j))) ⟨show j + 1 ≤ m.ims.length by omega,hx⟩ (show m.ims.length - (j + 1) < m.ims.length - j by omega) (Wk.of ?_ ?_)
  · simp only [go_sem,e8]; try simp
  · simp only [go_sem]
end Go.Proofs.YtoaagdbbbojpmaaGreatDoor
set_option maxRecDepth 100000
set_option maxHeartbeats 40000000
set_option linter.unusedVariables false
set_option linter.unusedSimpArgs false
namespace Go.Proofs.YtoaagdbbbojpmaaGreatDoor
open Go Go.Mw
-- @U: List.length_map,mdC_e,ftC_e,imC_e,tbC_e,lmC_e,cdC_e,exC_e,elC_e,daC_e,cuC_e,inL_e,fa_,faO

def daR (P:Ins → Bool) (i:Nat) (x:Da):Fa:=if x.mo ≠ 0 ∧ (x.mo ≠ 1 ∨ x.me ≠ 0 ∨ x.o.length > 0) then atF 10 i 1 else if inR x.me = false then atF 10 i 11 else if x.b.length > 4096 then atF 10 i 6 else rwF P 10 i x.o
def dsF (P:Ins → Bool) (m:Md):Fa:=gr (daR P) 0 m.ds (lgF 10 m.ds.length 16)
attribute [local go_sem] List.length_map mdC_e ftC_e imC_e tbC_e lmC_e cdC_e exC_e elC_e daC_e cuC_e inL_e fa_ faO
theorem r_dsl (P:Ins → Bool) (m:Md) (h:smM m) (hP:∀ y,smI y → PCalls Tryz.prog nX116 [ins_ y] (.bool (P y))):PCalls Tryz.prog nX120 [md_ m] (fa_ (dsF P m)):=by
  refine pfun_sound (ic:=FX120.body) mixed cX120 rfl rfl ?_
  obtain ⟨G,hG⟩:∃ G,dsF P m = G:=⟨_,rfl⟩
  rw [hG]
  have hts:=h.ds
  have c0:=r_long 10 m.ds.length 16
  simp only [fa_] at c0
  simp only [go_sem,FX120,md_]
  refine call_same (c0) (by simp [go_sem]) ?_
  simp only [go_sem]
  refine loop_rule (fun q:Nat × Fa=>⟨[(4,.int .i64 q.1),(1,.mp 1 12 0 0),(3,.mp 3 4 0 0),(2,.mp 2 4 0 0)],[(3,faO q.2),(2,faO lm0),(1,⟨33,12,[mdC m],true⟩)]⟩) (fun q=>q.1 ≤ m.ds.length ∧ G = gr (daR P) q.1 (m.ds.drop q.1) q.2) (fun q=>m.ds.length - q.1) (0,lgF 10 m.ds.length 16) ⟨Nat.zero_le _,hG.symm⟩ (Wk.of ?_ ?_) ?_
  · simp only [go_sem]; try simp [lm0]
  · simp only [go_sem]; try simp [lm0]
  rintro ⟨j,E⟩ ⟨hj,hx⟩
  simp only at hj hx
  by_cases h1:(j:Int) < (m.ds.length:Int)
  rotate_left
  · rw [drop_end (by omega)] at hx
    obtain rfl:G = E:=hx
    simp only [go_sem,decide_eq_false h1]
    exact pdone [] (by simp only [go_sem]; try rfl) (by rfl)
  have hj':j < m.ds.length:=by omega
  have e8:=i_bd hj' (by omega)
  have cn:=r_none E
  simp only [fa_] at cn
  by_cases hE:E.c = 0
  rotate_left
  · rw [gr_no E hE] at hx
    obtain rfl:G = E:=hx
    rw [beq_f hE] at cn
    simp only [go_sem,decide_eq_true h1]
    refine call_same (cn) (by simp [go_sem]) ?_
    simp only [go_sem]
    exact pdone [] (by simp only [go_sem]; try rfl) (by rfl)
  rw [beq_t hE] at cn
  rw [gr_at hj' E hE] at hx
  have sx:=at_in hts.2 hj'
  have c1:=r_index7 (nth m.ds j).me
  have a1:=r_at 10 j 1
  have a2:=r_at 10 j 11
  have a3:=r_at 10 j 6
  have cr:=r_row7 P 10 j (nth m.ds j).o sx.1 (fun y hy=>hP y (sx.1.2 y hy))
  simp only [fa_] at a1 a2 a3 cr
  obtain ⟨D,hD⟩:∃ D,daR P j (nth m.ds j) = D:=⟨_,rfl⟩
  rw [hD] at hx
  unfold daR at hD
  simp only [go_sem,decide_eq_true h1]
  refine call_same (cn) (by simp [go_sem]) ?_
  by_cases q1:(nth m.ds j).mo = 0
  · rw [if_neg (fun q=>q.1 q1)] at hD
    simp only [go_sem,bne_f q1,beq_f (show (nth m.ds j).mo ≠ 1 by omega)]
    refine ⟨by omega,h1,?_⟩
    refine call_same (c1) (by simp [go_sem]) ?_
    cases v:inR (nth m.ds j).me
    · rw [if_pos v] at hD
      simp only [go_sem]
      refine call_same (a2) (by simp [go_sem]) ?_
      simp only [go_sem]
      subst hD
      refine klp_n (j + 1,atF 10 j 11) ⟨show j + 1 ≤ m.ds.length by omega,hx⟩ (show m.ds.length - (j + 1) < m.ds.length - j by omega) (Wk.of ?_ ?_)
      · simp only [go_sem,e8]; try simp
      · simp only [go_sem]
    rw [if_neg (by simp [v])] at hD
    by_cases q5:((nth m.ds j).b.length:Int) > 4096
    · rw [if_pos (by omega)] at hD
      simp only [go_sem,decide_eq_true q5]
      refine call_same (a3) (by simp [go_sem]) ?_
      simp only [go_sem]
      subst hD
      refine klp_n (j + 1,atF 10 j 6) ⟨show j + 1 ≤ m.ds.length by omega,hx⟩ (show m.ds.length - (j + 1) < m.ds.length - j by omega) (Wk.of ?_ ?_)
      · simp only [go_sem,e8]; try simp
      · simp only [go_sem]
    rw [if_neg (by omega)] at hD
    simp only [go_sem,decide_eq_false q5]
    refine call_same (cr) (by simp [go_sem]) ?_
    simp only [go_sem]
    subst hD
    refine klp_n (j + 1,rwF P 10 j (nth m.ds j).o) ⟨show j + 1 ≤ m.ds.length by omega,hx⟩ (show m.ds.length - (j + 1) < m.ds.length - j by omega) (Wk.of ?_ ?_)
    · simp only [go_sem,e8]; try simp
    · simp only [go_sem]
  by_cases q2:(nth m.ds j).mo = 1
  rotate_left
  · rw [if_pos ⟨q1,.inl q2⟩] at hD
    simp only [go_sem,bne_t q1,bne_t q2]
    refine ⟨by omega,h1,?_⟩
    refine call_same (a1) (by simp [go_sem]) ?_
    simp only [go_sem]
    subst hD
    refine klp_n (j + 1,atF 10 j 1) ⟨show j + 1 ≤ m.ds.length by omega,hx⟩ (show m.ds.length - (j + 1) < m.ds.length - j by omega) (Wk.of ?_ ?_)
    · simp only [go_sem,e8]; try simp
    · simp only [go_sem]
  by_cases q3:(nth m.ds j).me = 0
  rotate_left
  · rw [if_pos ⟨q1,.inr (.inl q3)⟩] at hD
    simp only [go_sem,bne_t q1,bne_f q2,beq_t q2,bne_t q3]
    refine ⟨by omega,h1,?_⟩
    refine call_same (a1) (by simp [go_sem]) ?_
    simp only [go_sem]
    subst hD
    refine klp_n (j + 1,atF 10 j 1) ⟨show j + 1 ≤ m.ds.length by omega,hx⟩ (show m.ds.length - (j + 1) < m.ds.length - j by omega) (Wk.of ?_ ?_)
    · simp only [go_sem,e8]; try simp
    · simp only [go_sem]
  by_cases q4:((nth m.ds j).o.length:Int) > 0
  · rw [if_pos ⟨q1,.inr (.inr (by omega))⟩] at hD
    simp only [go_sem,bne_t q1,bne_f q2,beq_t q2,bne_f q3,decide_eq_true q4]
    refine ⟨by omega,h1,?_⟩
    refine call_same (a1) (by simp [go_sem]) ?_
    simp only [go_sem]
    subst hD
    refine klp_n (j + 1,atF 10 j 1) ⟨show j + 1 ≤ m.ds.length by omega,hx⟩ (show m.ds.length - (j + 1) < m.ds.length - j by omega) (Wk.of ?_ ?_)
    · simp only [go_sem,e8]; try simp
    · simp only [go_sem]
  rw [if_neg (fun q=>by rcases q.2 with z | z | z; exact z q2; exact z q3; omega)] at hD
  simp only [go_sem,bne_t q1,bne_f q2,beq_t q2,bne_f q3,decide_eq_false q4]
  refine ⟨by omega,h1,?_⟩
  refine call_same (c1) (by simp [go_sem]) ?_
  cases v:inR (nth m.ds j).me
  · rw [if_pos v] at hD
    simp only [go_sem]
    refine call_same (a2) (by simp [go_sem]) ?_
    simp only [go_sem]
    subst hD
    refine klp_n (j + 1,atF 10 j 11) ⟨show j + 1 ≤ m.ds.length by omega,hx⟩ (show m.ds.length - (j + 1) < m.ds.length - j by omega) (Wk.of ?_ ?_)
    · simp only [go_sem,e8]; try simp
    · simp only [go_sem]
  rw [if_neg (by simp [v])] at hD
  by_cases q5:((nth m.ds j).b.length:Int) > 4096
  · rw [if_pos (by omega)] at hD
    simp only [go_sem,decide_eq_true q5]
    refine call_same (a3) (by simp [go_sem]) ?_
    simp only [go_sem]
    subst hD
    refine klp_n (j + 1,atF 10 j 6) ⟨show j + 1 ≤ m.ds.length by omega,hx⟩ (show m.ds.length - (j + 1) < m.ds.length - j by omega) (Wk.of ?_ ?_)
    · simp only [go_sem,e8]; try simp
    · simp only [go_sem]
  rw [if_neg (by omega)] at hD
  simp only [go_sem,decide_eq_false q5]
  refine call_same (cr) (by simp [go_sem]) ?_
  simp only [go_sem]
  subst hD
  refine klp_n (j + 1,rwF P 10 j (nth m.ds j).o) ⟨show j + 1 ≤ m.ds.length by omega,hx⟩ (show m.ds.length - (j + 1) < m.ds.length - j by omega) (Wk.of ?_ ?_)
  · simp only [go_sem,e8]; try simp
  · simp only [go_sem]
end Go.Proofs.YtoaagdbbbojpmaaGreatDoor
set_option maxRecDepth 100000
set_option maxHeartbeats 40000000
set_option linter.unusedVariables false
set_option linter.unusedSimpArgs false
namespace Go.Proofs.YtoaagdbbbojpmaaGreatDoor
open Go Go.Mw
-- @U: List.length_map,mdC_e,ftC_e,imC_e,tbC_e,lmC_e,cdC_e,exC_e,elC_e,daC_e,cuC_e,inL_e,fa_,faO

def boF (P:Ins → Bool) (m:Md):Fa:=gr (fun i x=>rwF P 12 i x.b) 0 m.fs (lm0)
attribute [local go_sem] List.length_map mdC_e ftC_e imC_e tbC_e lmC_e cdC_e exC_e elC_e daC_e cuC_e inL_e fa_ faO
theorem r_bodies (P:Ins → Bool) (m:Md) (h:smM m) (hP:∀ y,smI y → PCalls Tryz.prog nX116 [ins_ y] (.bool (P y))):PCalls Tryz.prog nX85 [md_ m] (fa_ (boF P m)):=by
  refine pfun_sound (ic:=FX85.body) mixed cX85 rfl rfl ?_
  obtain ⟨G,hG⟩:∃ G,boF P m = G:=⟨_,rfl⟩
  rw [hG]
  have hts:=h.fs
  simp only [go_sem,FX85,md_]
  refine loop_rule (fun q:Nat × Fa=>⟨[(4,.int .i64 q.1),(1,.mp 1 12 0 0),(3,.mp 3 4 0 0),(2,.mp 2 4 0 0)],[(3,faO q.2),(2,faO lm0),(1,⟨33,12,[mdC m],true⟩)]⟩) (fun q=>q.1 ≤ m.fs.length ∧ G = gr (fun i x=>rwF P 12 i x.b) q.1 (m.fs.drop q.1) q.2) (fun q=>m.fs.length - q.1) (0,lm0) ⟨Nat.zero_le _,hG.symm⟩ (Wk.of ?_ ?_) ?_
  · simp only [go_sem]; try simp [lm0]
  · simp only [go_sem]; try simp [lm0]
  rintro ⟨j,E⟩ ⟨hj,hx⟩
  simp only at hj hx
  by_cases h1:(j:Int) < (m.fs.length:Int)
  rotate_left
  · rw [drop_end (by omega)] at hx
    obtain rfl:G = E:=hx
    simp only [go_sem,decide_eq_false h1]
    exact pdone [] (by simp only [go_sem]; try rfl) (by rfl)
  have hj':j < m.fs.length:=by omega
  have e8:=i_bd hj' (by omega)
  have cn:=r_none E
  simp only [fa_] at cn
  by_cases hE:E.c = 0
  rotate_left
  · rw [gr_no E hE] at hx
    obtain rfl:G = E:=hx
    rw [beq_f hE] at cn
    simp only [go_sem,decide_eq_true h1]
    refine call_same (cn) (by simp [go_sem]) ?_
    simp only [go_sem]
    exact pdone [] (by simp only [go_sem]; try rfl) (by rfl)
  rw [beq_t hE] at cn
  rw [gr_at hj' E hE] at hx
  have sx:=at_in hts.2 hj'
  have cr:=r_row7 P 12 j (nth m.fs j).b sx.2 (fun y hy=>hP y (sx.2.2 y hy))
  simp only [fa_] at cr
  simp only [go_sem,decide_eq_true h1]
  refine call_same (cn) (by simp [go_sem]) ?_
  simp only [go_sem]
  refine ⟨by omega,h1,?_⟩
  refine call_same (cr) (by simp [go_sem]) ?_
  simp only [go_sem]
  refine klp_n (j + 1,rwF P 12 j (nth m.fs j).b) ⟨show j + 1 ≤ m.fs.length by omega,hx⟩ (show m.fs.length - (j + 1) < m.fs.length - j by omega) (Wk.of ?_ ?_)
  · simp only [go_sem,e8]; try simp
  · simp only [go_sem]
end Go.Proofs.YtoaagdbbbojpmaaGreatDoor
set_option maxRecDepth 100000
set_option maxHeartbeats 40000000
set_option linter.unusedVariables false
set_option linter.unusedSimpArgs false
namespace Go.Proofs.YtoaagdbbbojpmaaGreatDoor
open Go Go.Mw
-- @U: List.length_map,mdC_e,ftC_e,imC_e,tbC_e,lmC_e,cdC_e,exC_e,elC_e,daC_e,cuC_e,inL_e,fa_,faO

def elB (x:El):Int:=if x.mo < 0 ∨ x.mo > 2 ∨ (x.mo ≠ 0 ∧ (x.tb ≠ 0 ∨ x.o.length > 0)) then 1 else if inR x.tb = false then 11 else if rfB x.ty = false then 12 else if x.it.length > 256 then 6 else 0
attribute [local go_sem] List.length_map mdC_e ftC_e imC_e tbC_e lmC_e cdC_e exC_e elC_e daC_e cuC_e inL_e fa_ faO
theorem r_elem7 (x:El):PCalls Tryz.prog nX133 [.agg (elC x)] (.int .i64 (elB x)):=by
  refine pfun_sound (ic:=FX133.body) mixed cX133 rfl rfl ?_
  have c1:=r_index7 x.tb
  have c2:=r_ref x.ty
  unfold elB
  by_cases q1:x.mo < 0
  · rw [if_pos (.inl q1)]
    simp only [go_sem,FX133,decide_eq_true q1]
    exact pdone [] (by simp only [go_sem]; try rfl) (by rfl)
  by_cases q2:x.mo > 2
  · rw [if_pos (.inr (.inl q2))]
    simp only [go_sem,FX133,decide_eq_false q1,decide_eq_true q2]
    exact pdone [] (by simp only [go_sem]; try rfl) (by rfl)
  by_cases q3:x.mo = 0
  · rw [if_neg (fun q=>by rcases q with z | z | z; exact q1 z; exact q2 z; exact z.1 q3)]
    simp only [go_sem,FX133,decide_eq_false q1,decide_eq_false q2,bne_f q3]
    refine call_same (c1) (by simp [go_sem]) ?_
    cases v:inR x.tb
    · simp only [go_sem]
      exact pdone [] (by simp only [go_sem]; try rfl) (by rfl)
    rw [if_neg (by decide)]
    simp only [go_sem]
    refine call_same (c2) (by simp [go_sem]) ?_
    cases rfB x.ty
    · simp only [go_sem]
      exact pdone [] (by simp only [go_sem]; try rfl) (by rfl)
    rw [if_neg (by decide)]
    by_cases q5:(x.it.length:Int) > 256
    · rw [if_pos (by omega)]
      simp only [go_sem,decide_eq_true q5]
      exact pdone [] (by simp only [go_sem]; try rfl) (by rfl)
    rw [if_neg (by omega)]
    simp only [go_sem,decide_eq_false q5]
    exact pdone [] (by simp only [go_sem]; try rfl) (by rfl)
  by_cases q4:x.tb = 0
  rotate_left
  · rw [if_pos (.inr (.inr ⟨q3,.inl q4⟩))]
    simp only [go_sem,FX133,decide_eq_false q1,decide_eq_false q2,bne_t q3,bne_t q4]
    exact pdone [] (by simp only [go_sem]; try rfl) (by rfl)
  by_cases q6:(x.o.length:Int) > 0
  · rw [if_pos (.inr (.inr ⟨q3,.inr (by omega)⟩))]
    simp only [go_sem,FX133,decide_eq_false q1,decide_eq_false q2,bne_t q3,bne_f q4,decide_eq_true q6]
    exact pdone [] (by simp only [go_sem]; try rfl) (by rfl)
  rw [if_neg (fun q=>by rcases q with z | z | z; exact q1 z; exact q2 z; rcases z.2 with y | y; exact y q4; omega)]
  simp only [go_sem,FX133,decide_eq_false q1,decide_eq_false q2,bne_t q3,bne_f q4,decide_eq_false q6]
  refine call_same (c1) (by simp [go_sem]) ?_
  cases v:inR x.tb
  · simp only [go_sem]
    exact pdone [] (by simp only [go_sem]; try rfl) (by rfl)
  rw [if_neg (by decide)]
  simp only [go_sem]
  refine call_same (c2) (by simp [go_sem]) ?_
  cases rfB x.ty
  · simp only [go_sem]
    exact pdone [] (by simp only [go_sem]; try rfl) (by rfl)
  rw [if_neg (by decide)]
  by_cases q5:(x.it.length:Int) > 256
  · rw [if_pos (by omega)]
    simp only [go_sem,decide_eq_true q5]
    exact pdone [] (by simp only [go_sem]; try rfl) (by rfl)
  rw [if_neg (by omega)]
  simp only [go_sem,decide_eq_false q5]
  exact pdone [] (by simp only [go_sem]; try rfl) (by rfl)
def elR (P:Ins → Bool) (i:Nat) (x:El):Fa:=gr (fun _ l=>rwF P 9 i l) 0 x.it (if elB x = 0 then rwF P 9 i x.o else atF 9 i (elB x))
end Go.Proofs.YtoaagdbbbojpmaaGreatDoor
set_option maxRecDepth 100000
set_option maxHeartbeats 40000000
set_option linter.unusedVariables false
set_option linter.unusedSimpArgs false
namespace Go.Proofs.YtoaagdbbbojpmaaGreatDoor
open Go Go.Mw
-- @U: elO,List.length_map,mdC_e,ftC_e,imC_e,tbC_e,lmC_e,cdC_e,exC_e,elC_e,daC_e,cuC_e,inL_e,fa_,faO

def elO (x:El):AObj:=⟨86,5,[elC x],true⟩
def elF (P:Ins → Bool) (m:Md):Fa:=gr (elR P) 0 m.els (lgF 9 m.els.length 16)
attribute [local go_sem] elO List.length_map mdC_e ftC_e imC_e tbC_e lmC_e cdC_e exC_e elC_e daC_e cuC_e inL_e fa_ faO
theorem r_els (P:Ins → Bool) (m:Md) (h:smM m) (hP:∀ y,smI y → PCalls Tryz.prog nX116 [ins_ y] (.bool (P y))):PCalls Tryz.prog nX121 [md_ m] (fa_ (elF P m)):=by
  refine pfun_sound (ic:=FX121.body) mixed cX121 rfl rfl ?_
  obtain ⟨G,hG⟩:∃ G,elF P m = G:=⟨_,rfl⟩
  rw [hG]
  have hts:=h.els
  have c0:=r_long 9 m.els.length 16
  simp only [fa_] at c0
  simp only [go_sem,FX121,md_]
  refine call_same (c0) (by simp [go_sem]) ?_
  simp only [go_sem]
  refine loop_rule (fun q:Nat × Fa=>⟨[(4,.int .i64 q.1),(1,.mp 1 12 0 0),(3,.mp 3 4 0 0),(2,.mp 2 4 0 0)],[(3,faO q.2),(2,faO lm0),(1,⟨33,12,[mdC m],true⟩)]⟩) (fun q=>q.1 ≤ m.els.length ∧ G = gr (elR P) q.1 (m.els.drop q.1) q.2) (fun q=>m.els.length - q.1) (0,lgF 9 m.els.length 16) ⟨Nat.zero_le _,hG.symm⟩ (Wk.of ?_ ?_) ?_
  · simp only [go_sem]; try simp [lm0]
  · simp only [go_sem]; try simp [lm0]
  rintro ⟨j,E⟩ ⟨hj,hx⟩
  simp only at hj hx
  by_cases h1:(j:Int) < (m.els.length:Int)
  rotate_left
  · rw [drop_end (by omega)] at hx
    obtain rfl:G = E:=hx
    simp only [go_sem,decide_eq_false h1]
    exact pdone [] (by simp only [go_sem]; try rfl) (by rfl)
  have hj':j < m.els.length:=by omega
  have e8:=i_bd hj' (by omega)
  have cn:=r_none E
  simp only [fa_] at cn
  by_cases hE:E.c = 0
  rotate_left
  · rw [gr_no E hE] at hx
    obtain rfl:G = E:=hx
    rw [beq_f hE] at cn
    simp only [go_sem,decide_eq_true h1]
    refine call_same (cn) (by simp [go_sem]) ?_
    simp only [go_sem]
    exact pdone [] (by simp only [go_sem]; try rfl) (by rfl)
  rw [beq_t hE] at cn
  rw [gr_at hj' E hE] at hx
  have sx:=at_in hts.2 hj'
  have c1:=r_elem7 (nth m.els j)
  have a1:=r_at 9 j (elB (nth m.els j))
  have n1:=r_none (atF 9 j (elB (nth m.els j)))
  have cr:=r_row7 P 9 j (nth m.els j).o sx.1 (fun y hy=>hP y (sx.1.2 y hy))
  simp only [fa_] at a1 n1 cr
  simp only [elC_e] at c1
  obtain ⟨D,hD⟩:∃ D,elR P j (nth m.els j) = D:=⟨_,rfl⟩
  rw [hD] at hx
  unfold elR at hD
  simp only [go_sem,decide_eq_true h1]
  refine call_same (cn) (by simp [go_sem]) ?_
  simp only [go_sem]
  refine ⟨by omega,h1,?_⟩
  refine call_same (c1) (by simp [go_sem]) ?_
  simp only [go_sem]
  refine call_same (a1) (by simp [go_sem]) ?_
  by_cases e0:elB (nth m.els j) = 0
  · rw [if_pos e0] at hD
    rw [beq_t (show (atF 9 j (elB (nth m.els j))).c = 0 by rw [at_c]; exact e0)] at n1
    simp only [go_sem]
    refine call_same (n1) (by simp [go_sem]) ?_
    simp only [go_sem]
    refine call_same (cr) (by simp [go_sem]) ?_
    simp only [go_sem]
    refine loop_rule (fun q:Nat × Fa=>⟨[(6,.int .i64 q.1),(4,.int .i64 j),(5,.mp 5 5 0 0),(1,.mp 1 12 0 0),(3,.mp 3 4 0 0),(2,.mp 2 4 0 0)],[(5,elO (nth m.els j)),(3,faO q.2),(2,faO lm0),(1,⟨33,12,[mdC m],true⟩)]⟩) (fun q=>q.1 ≤ (nth m.els j).it.length ∧ D = gr (fun _ l=>rwF P 9 j l) q.1 ((nth m.els j).it.drop q.1) q.2) (fun q=>(nth m.els j).it.length - q.1) (0,rwF P 9 j (nth m.els j).o) ⟨Nat.zero_le _,hD.symm⟩ (Wk.of ?_ ?_) ?_
    · simp only [go_sem]; try simp [lm0]
    · simp only [go_sem]; try simp [lm0]
    rintro ⟨k,E2⟩ ⟨hk,hy⟩
    simp only at hk hy
    by_cases g1:(k:Int) < ((nth m.els j).it.length:Int)
    rotate_left
    · rw [drop_end (by omega)] at hy
      obtain rfl:D = E2:=hy
      simp only [go_sem,decide_eq_false g1]
      refine klp_n (j + 1,D) ⟨show j + 1 ≤ m.els.length by omega,hx⟩ (show m.els.length - (j + 1) < m.els.length - j by omega) (Wk.of ?_ ?_)
      · simp only [go_sem,e8]; try simp
      · simp only [go_sem]
    have hk':k < (nth m.els j).it.length:=by omega
    have e9:=i_bd hk' (by have:=sx.2.1; omega)
    have cn2:=r_none E2
    simp only [fa_] at cn2
    by_cases hE2:E2.c = 0
    rotate_left
    · rw [gr_no E2 hE2] at hy
      obtain rfl:D = E2:=hy
      rw [beq_f hE2] at cn2
      simp only [go_sem,decide_eq_true g1]
      refine call_same (cn2) (by simp [go_sem]) ?_
      simp only [go_sem]
      refine klp_n (j + 1,D) ⟨show j + 1 ≤ m.els.length by omega,hx⟩ (show m.els.length - (j + 1) < m.els.length - j by omega) (Wk.of ?_ ?_)
      · simp only [go_sem,e8]; try simp
      · simp only [go_sem]
    rw [beq_t hE2] at cn2
    rw [gr_at hk' E2 hE2] at hy
    have sy:=at_in sx.2.2 hk'
    have cr2:=r_row7 P 9 j (nth (nth m.els j).it k) sy (fun y hy=>hP y (sy.2 y hy))
    simp only [fa_] at cr2
    simp only [go_sem,decide_eq_true g1]
    refine call_same (cn2) (by simp [go_sem]) ?_
    simp only [go_sem]
    refine ⟨by omega,g1,?_⟩
    refine call_same (cr2) (by simp [go_sem]) ?_
    simp only [go_sem]
    refine klp_n (k + 1,rwF P 9 j (nth (nth m.els j).it k)) ⟨show k + 1 ≤ (nth m.els j).it.length by omega,hy⟩ (show (nth m.els j).it.length - (k + 1) < (nth m.els j).it.length - k by omega) (Wk.of ?_ ?_)
    · simp only [go_sem,e9]; try simp
    · simp only [go_sem]
  · rw [if_neg e0] at hD
    rw [beq_f (show (atF 9 j (elB (nth m.els j))).c ≠ 0 by rw [at_c]; exact e0)] at n1
    simp only [go_sem]
    refine call_same (n1) (by simp [go_sem]) ?_
    simp only [go_sem]
    refine loop_rule (fun q:Nat × Fa=>⟨[(6,.int .i64 q.1),(4,.int .i64 j),(5,.mp 5 5 0 0),(1,.mp 1 12 0 0),(3,.mp 3 4 0 0),(2,.mp 2 4 0 0)],[(5,elO (nth m.els j)),(3,faO q.2),(2,faO lm0),(1,⟨33,12,[mdC m],true⟩)]⟩) (fun q=>q.1 ≤ (nth m.els j).it.length ∧ D = gr (fun _ l=>rwF P 9 j l) q.1 ((nth m.els j).it.drop q.1) q.2) (fun q=>(nth m.els j).it.length - q.1) (0,atF 9 j (elB (nth m.els j))) ⟨Nat.zero_le _,hD.symm⟩ (Wk.of ?_ ?_) ?_
    · simp only [go_sem]; try simp [lm0]
    · simp only [go_sem]; try simp [lm0]
    rintro ⟨k,E2⟩ ⟨hk,hy⟩
    simp only at hk hy
    by_cases g1:(k:Int) < ((nth m.els j).it.length:Int)
    rotate_left
    · rw [drop_end (by omega)] at hy
      obtain rfl:D = E2:=hy
      simp only [go_sem,decide_eq_false g1]
      refine klp_n (j + 1,D) ⟨show j + 1 ≤ m.els.length by omega,hx⟩ (show m.els.length - (j + 1) < m.els.length - j by omega) (Wk.of ?_ ?_)
      · simp only [go_sem,e8]; try simp
      · simp only [go_sem]
    have hk':k < (nth m.els j).it.length:=by omega
    have e9:=i_bd hk' (by have:=sx.2.1; omega)
    have cn2:=r_none E2
    simp only [fa_] at cn2
    by_cases hE2:E2.c = 0
    rotate_left
    · rw [gr_no E2 hE2] at hy
      obtain rfl:D = E2:=hy
      rw [beq_f hE2] at cn2
      simp only [go_sem,decide_eq_true g1]
      refine call_same (cn2) (by simp [go_sem]) ?_
      simp only [go_sem]
      refine klp_n (j + 1,D) ⟨show j + 1 ≤ m.els.length by omega,hx⟩ (show m.els.length - (j + 1) < m.els.length - j by omega) (Wk.of ?_ ?_)
      · simp only [go_sem,e8]; try simp
      · simp only [go_sem]
    rw [beq_t hE2] at cn2
    rw [gr_at hk' E2 hE2] at hy
    have sy:=at_in sx.2.2 hk'
    have cr2:=r_row7 P 9 j (nth (nth m.els j).it k) sy (fun y hy=>hP y (sy.2 y hy))
    simp only [fa_] at cr2
    simp only [go_sem,decide_eq_true g1]
    refine call_same (cn2) (by simp [go_sem]) ?_
    simp only [go_sem]
    refine ⟨by omega,g1,?_⟩
    refine call_same (cr2) (by simp [go_sem]) ?_
    simp only [go_sem]
    refine klp_n (k + 1,rwF P 9 j (nth (nth m.els j).it k)) ⟨show k + 1 ≤ (nth m.els j).it.length by omega,hy⟩ (show (nth m.els j).it.length - (k + 1) < (nth m.els j).it.length - k by omega) (Wk.of ?_ ?_)
    · simp only [go_sem,e9]; try simp
    · simp only [go_sem]
end Go.Proofs.YtoaagdbbbojpmaaGreatDoor
set_option maxRecDepth 100000
set_option maxHeartbeats 4000000
set_option linter.unusedVariables false
set_option linter.unusedSimpArgs false
namespace Go.Proofs.YtoaagdbbbojpmaaGreatDoor
open Go Go.Mw

theorem fail_lm0 (n i l e:Int):failA lm0 n i l e = if e = 0 then lm0 else ⟨n,i,l,e⟩:=by
  unfold failA
  by_cases h:e = 0
  · rw [if_pos h,if_neg (fun q=>q.2 h)]
  · rw [if_neg h,if_pos ⟨rfl,h⟩]
theorem fail_ft (n i l e:Int):(failA lm0 n i l e).c = 0 → failA lm0 n i l e = lm0:=by
  rw [fail_lm0]
  split
  · exact fun _=>rfl
  · rename_i h; exact fun q=>absurd q h
theorem go_gr {α:Type} {n:Int} {f:α → Int × Int} {g:Nat → α → Fa} (hg:∀ (i:Nat) (x:α),failA lm0 n i (f x).1 (f x).2 = g i x):∀ (l:List α) (i:Nat) (F:Fa),(F.c = 0 → F = lm0) → goA n i (l.map f) F = gr g i l F ∧ ((gr g i l F).c = 0 → gr g i l F = lm0)
  | [],i,F,h=>⟨rfl,h⟩
  | x :: l,i,F,h=>by
    rw [List.map_cons,goA,gr]
    by_cases hF:F.c = 0
    · rw [if_neg (by simp [hF]),if_neg (by simp [hF]),h hF,hg]
      exact go_gr hg l (i + 1) _ (by rw [← hg]; exact fail_ft _ _ _ _)
    · rw [if_pos hF,if_pos hF]; exact ⟨rfl,h⟩
def fsF (E X:Fa):Fa:=if E.c ≠ 0 then E else X
theorem fsF_assoc (a b c:Fa):fsF (fsF a b) c = fsF a (fsF b c):=by
  unfold fsF
  by_cases h:a.c = 0 <;> simp [h]
theorem fsF_ft {a b:Fa} (ha:a.c = 0 → a = lm0) (hb:b.c = 0 → b = lm0):(fsF a b).c = 0 → fsF a b = lm0:=by
  unfold fsF
  by_cases h:a.c = 0
  · rw [if_neg (by simp [h])]; exact hb
  · rw [if_pos h]; exact ha
theorem part_gr {α:Type} {n most imp:Int} {f:α → Int × Int} {g:Nat → α → Fa} (hg:∀ (i:Nat) (x:α),failA lm0 n i (f x).1 (f x).2 = g i x) (l:List α) (h1:0 ≤ imp ∧ imp ≤ 1048576) (h3:l.length ≤ 1048576) (h4:0 ≤ most ∧ most ≤ 1048576) (E:Fa) (hE:E.c = 0 → E = lm0) :
    partA n most imp (l.map f) E = fsF E (gr g 0 l (lgF n l.length (most - imp))) ∧ ((gr g 0 l (lgF n l.length (most - imp))).c = 0 → gr g 0 l (lgF n l.length (most - imp)) = lm0):=by
  have z:=go_gr hg l 0 (lgF n l.length (most - imp)) lg_0
  refine ⟨?_,z.2⟩
  unfold partA
  rw [List.length_map,wi (by omega) (by omega),wi (by omega) (by omega)]
  unfold fsF
  by_cases h:E.c = 0
  · rw [if_neg (show ¬ E.c ≠ 0 by simp [h]),hE h,← z.1]
    congr 1
    unfold lgF
    by_cases q:(l.length:Int) + imp > most
    · rw [if_pos q,if_pos (show (l.length:Int) > most - imp by omega),fail_lm0,if_neg (by decide)]
      congr 1
      by_cases w:0 < most - imp
      · rw [if_pos w,if_neg (by omega)]
      · rw [if_neg w]
        by_cases w2:most - imp < 0
        · rw [if_pos w2]
        · rw [if_neg w2]; omega
    · rw [if_neg q,if_neg (show ¬ (l.length:Int) > most - imp by omega)]
  · rw [if_pos h,show (if (l.length:Int) + imp > most then failA E n (if 0 < most - imp then most - imp else 0) 0 6 else E) = E by
      split
      · unfold failA; rw [if_neg (fun q=>h q.1)]
      · rfl]
    exact goA_no E h
theorem at_fail (n:Int) (i:Nat) (e:Int):failA lm0 n i 0 e = atF n i e:=by rw [fail_lm0]; rfl
theorem rw_fail (P:Ins → Bool) (n:Int) (i:Nat) (l:List Ins):failA lm0 n i (rowE P l).1 (rowE P l).2 = rwF P n i l:=by rw [fail_lm0]; rfl
theorem gd_item (P:Ins → Bool) (i:Nat) (x:Gd):failA lm0 6 i (gdE P x).1 (gdE P x).2 = if vlB x.g.v = false then atF 6 i 12 else rwF P 6 i x.i:=by
  unfold gdE glE
  cases v:vlB x.g.v
  · rw [if_pos rfl,if_pos (by decide),if_pos rfl]; exact at_fail 6 i 12
  · rw [if_neg (by decide),if_neg (by decide)]; exact rw_fail P 6 i x.i
theorem da_item (P:Ins → Bool) (i:Nat) (x:Da):failA lm0 10 i (daE P x).1 (daE P x).2 = daR P i x:=by
  unfold daE daR
  split
  · exact at_fail 10 i 1
  split
  · exact at_fail 10 i 11
  split
  · exact at_fail 10 i 6
  · exact rw_fail P 10 i x.o
theorem rows_gr (P:Ins → Bool) (i:Nat):∀ (l:List (List Ins)) (j:Nat) (F:Fa),(F.c = 0 → F = lm0) → gr (fun _ r=>rwF P 9 i r) j l F = fsF F (failA lm0 9 i (rowsF P l).1 (rowsF P l).2)
  | [],j,F,h=>by
    rw [gr]
    unfold fsF
    by_cases q:F.c = 0
    · rw [if_neg (by simp [q]),h q]; rfl
    · rw [if_pos q]
  | x :: l,j,F,h=>by
    rw [gr]
    unfold fsF
    by_cases q:F.c = 0
    · rw [if_neg (by simp [q]),if_neg (by simp [q]),rows_gr P i l (j + 1) _ (by rw [← rw_fail]; exact fail_ft _ _ _ _)]
      rw [rowsF]
      unfold fsF
      rw [← rw_fail,fail_lm0]
      by_cases w:(rowE P x).2 = 0
      · rw [if_pos w,if_neg (show ¬ lm0.c ≠ 0 by decide),if_neg (by simp [w])]
      · rw [if_neg w,if_pos (show (⟨9,(i:Int),(rowE P x).1,(rowE P x).2⟩:Fa).c ≠ 0 from w),if_pos w,fail_lm0,if_neg w]
    · rw [if_pos q,if_pos q]
theorem el_item (P:Ins → Bool) (i:Nat) (x:El):failA lm0 9 i (elE P x).1 (elE P x).2 = elR P i x:=by
  unfold elE elR elB
  split
  · rw [if_neg (by decide),rows_gr P i _ _ _ at_0,at_fail]; rfl
  split
  · rw [if_neg (by decide),rows_gr P i _ _ _ at_0,at_fail]; rfl
  split
  · rw [if_neg (by decide),rows_gr P i _ _ _ at_0,at_fail]; rfl
  split
  · rw [if_neg (by decide),rows_gr P i _ _ _ at_0,at_fail]; rfl
  · rw [if_pos rfl,rows_gr P i _ _ _ (by rw [← rw_fail]; exact fail_ft _ _ _ _),rowsF]
    unfold fsF
    rw [← rw_fail]
    by_cases w:(rowE P x.o).2 = 0
    · rw [if_neg (show ¬ (rowE P x.o).2 ≠ 0 by simp [w]),fail_lm0 9 i (rowE P x.o).1 (rowE P x.o).2,if_pos w,if_neg (show ¬ lm0.c ≠ 0 by decide)]
    · rw [if_pos w,if_pos (show (failA lm0 9 i (rowE P x.o).1 (rowE P x.o).2).c ≠ 0 by rw [fail_lm0,if_neg w]; exact w)]
def fstF:List Fa → Fa
  | []=>lm0
  | F :: r=>if F.c ≠ 0 then F else fstF r
theorem fst_fsF (F:Fa) (r:List Fa):fstF (F :: r) = fsF F (fstF r):=rfl
def refA (P:Ins → Bool) (m:Md):Fa:=fstF [tyF m,imF m,cdF m,tbF m,mmF m,gdF P m,exF m,stF m,elF P m,dsF P m,csF m,boF P m]
theorem lim_eq (P:Ins → Bool) (m:Md) (h:smM m):limA P m = refA P m:=by
  have hc:∀ k,(0:Int) ≤ (cnI k m.ims:Nat) ∧ ((cnI k m.ims:Nat):Int) ≤ 1048576:=fun k=>⟨by omega,by have:=Nat.le_trans (cnI_le k m.ims) h.ims; omega⟩
  have z0:(0:Int) ≤ 0 ∧ (0:Int) ≤ 1048576:=by decide
  have ft0:lm0.c = 0 → lm0 = lm0:=fun _=>rfl
  obtain ⟨e1,t1⟩:=part_gr (n:=1) (most:=64) (imp:=0) (g:=fun i x=>atF 1 i (fnE x)) (f:=fun x=>(0,fnE x)) (fun i x=>at_fail 1 i _) m.ts z0 h.ts.1 (by decide) lm0 ft0
  have e1':lm1 m = tyF m:=e1
  have t1':(lm1 m).c = 0 → lm1 m = lm0:=by rw [e1']; exact t1
  obtain ⟨e2,t2⟩:=part_gr (n:=2) (most:=32) (imp:=0) (g:=fun i x=>atF 2 i (imE x)) (f:=fun x=>(0,imE x)) (fun i x=>at_fail 2 i _) m.ims z0 h.ims (by decide) (lm1 m) t1'
  have e2':lm2 m = fsF (lm1 m) (imF m):=e2
  have t2':=fsF_ft t1' t2
  rw [show fsF (lm1 m) _ = lm2 m from e2.symm] at t2'
  obtain ⟨e3,t3⟩:=part_gr (n:=3) (most:=64) (g:=fun i x=>atF 3 i (cdE x)) (f:=fun x=>(0,cdE x)) (fun i x=>at_fail 3 i _) m.fs (hc 0) h.fs.1 (by decide) (lm2 m) t2'
  have e3':lm3 m = fsF (lm2 m) (cdF m):=e3
  have t3':=fsF_ft t2' t3
  rw [show fsF (lm2 m) _ = lm3 m from e3.symm] at t3'
  obtain ⟨e4,t4⟩:=part_gr (n:=4) (most:=4) (g:=fun i x=>atF 4 i (tbE x)) (f:=fun x=>(0,tbE x)) (fun i x=>at_fail 4 i _) m.tbs (hc 1) h.tbs (by decide) (lm3 m) t3'
  have e4':lm4 m = fsF (lm3 m) (tbF m):=e4
  have t4':=fsF_ft t3' t4
  rw [show fsF (lm3 m) _ = lm4 m from e4.symm] at t4'
  obtain ⟨e5,t5⟩:=part_gr (n:=5) (most:=2) (g:=fun i x=>atF 5 i (mmE x)) (f:=fun x=>(0,mmE x)) (fun i x=>at_fail 5 i _) m.ms (hc 2) h.ms (by decide) (lm4 m) t4'
  have e5':lm5 m = fsF (lm4 m) (mmF m):=e5
  have t5':=fsF_ft t4' t5
  rw [show fsF (lm4 m) _ = lm5 m from e5.symm] at t5'
  obtain ⟨e6,t6⟩:=part_gr (n:=6) (most:=32) (g:=fun i x=>if vlB x.g.v = false then atF 6 i 12 else rwF P 6 i x.i) (f:=gdE P) (gd_item P) m.gs (hc 3) h.gs.1 (by decide) (lm5 m) t5'
  have e6':lm6 P m = fsF (lm5 m) (gdF P m):=e6
  have t6':=fsF_ft t5' t6
  rw [show fsF (lm5 m) _ = lm6 P m from e6.symm] at t6'
  obtain ⟨e7,t7⟩:=part_gr (n:=7) (most:=64) (imp:=0) (g:=fun i x=>atF 7 i (exE x)) (f:=fun x=>(0,exE x)) (fun i x=>at_fail 7 i _) m.exs z0 h.exs (by decide) (lm6 P m) t6'
  have e7':lm7 P m = fsF (lm6 P m) (exF m):=e7
  have t7':=fsF_ft t6' t7
  rw [show fsF (lm6 P m) _ = lm7 P m from e7.symm] at t7'
  have e8':lm8 P m = fsF (lm7 P m) (stF m):=by
    unfold lm8 stF fsF
    by_cases q:(lm7 P m).c = 0
    · rw [if_neg (show ¬ (lm7 P m).c ≠ 0 by simp [q])]
      split
      · rw [t7' q]; exact at_fail 8 0 11
      · exact t7' q
    · rw [if_pos q]
      split
      · unfold failA; rw [if_neg (fun w=>q w.1)]
      · rfl
  have t8':(lm8 P m).c = 0 → lm8 P m = lm0:=by
    rw [e8']
    refine fsF_ft t7' ?_
    unfold stF
    split
    · exact at_0
    · exact ft0
  obtain ⟨e9,t9⟩:=part_gr (n:=9) (most:=16) (imp:=0) (g:=elR P) (f:=elE P) (el_item P) m.els z0 h.els.1 (by decide) (lm8 P m) t8'
  have e9':lm9 P m = fsF (lm8 P m) (elF P m):=e9
  have t9':=fsF_ft t8' t9
  rw [show fsF (lm8 P m) _ = lm9 P m from e9.symm] at t9'
  obtain ⟨e10,t10⟩:=part_gr (n:=10) (most:=16) (imp:=0) (g:=daR P) (f:=daE P) (da_item P) m.ds z0 h.ds.1 (by decide) (lm9 P m) t9'
  have e10':lm10 P m = fsF (lm9 P m) (dsF P m):=e10
  have t10':=fsF_ft t9' t10
  rw [show fsF (lm9 P m) _ = lm10 P m from e10.symm] at t10'
  obtain ⟨e11,t11⟩:=part_gr (n:=11) (most:=8) (imp:=0) (g:=fun i x=>atF 11 i (cuE x)) (f:=fun x=>(0,cuE x)) (fun i x=>at_fail 11 i _) m.cs z0 h.cs.1 (by decide) (lm10 P m) t10'
  have e11':lm11 P m = fsF (lm10 P m) (csF m):=e11
  have t11':=fsF_ft t10' t11
  rw [show fsF (lm10 P m) _ = lm11 P m from e11.symm] at t11'
  have hfl:=h.fs.1
  obtain ⟨e12,t12⟩:=part_gr (n:=12) (most:=(m.fs.length:Int)) (imp:=0) (g:=fun i x=>rwF P 12 i x.b) (f:=fun x=>rowE P x.b) (fun i x=>rw_fail P 12 i x.b) m.fs z0 h.fs.1 (by omega) (lm11 P m) t11'
  rw [show lgF 12 m.fs.length ((m.fs.length:Int) - 0) = lm0 by unfold lgF; rw [if_neg (by omega)]] at e12 t12
  have e12':limA P m = fsF (lm11 P m) (boF P m):=by
    unfold limA
    by_cases q:(lm11 P m).c = 0
    · rw [if_pos q]; exact e12
    · rw [if_neg q]; unfold fsF; rw [if_pos q]
  have t12':fsF (boF P m) lm0 = boF P m:=by
    unfold fsF
    by_cases q:(boF P m).c = 0
    · rw [if_neg (by simp [q])]; exact (t12 q).symm
    · rw [if_pos q]
  rw [e12',e11',e10',e9',e8',e7',e6',e5',e4',e3',e2',e1']
  unfold refA
  simp only [fst_fsF,fsF_assoc]
  rw [show fstF [] = lm0 from rfl,t12']
end Go.Proofs.YtoaagdbbbojpmaaGreatDoor
set_option maxRecDepth 100000
set_option maxHeartbeats 40000000
set_option linter.unusedVariables false
set_option linter.unusedSimpArgs false
namespace Go.Proofs.YtoaagdbbbojpmaaGreatDoor
open Go Go.Mw
-- @U: List.length_map,mdC_e,fa_,faO,faR_e

instance:Inhabited Fa:=⟨lm0⟩
def faR (F:Fa):List AV:=[.int .i64 F.p,.int .i64 F.i,.int .i64 F.l,.int .i64 F.c]
theorem faR_e (F:Fa):faR F = [.int .i64 F.p,.int .i64 F.i,.int .i64 F.l,.int .i64 F.c]:=rfl
theorem fst_at {l:List Fa} {i:Nat} (h:i < l.length):fstF (l.drop i) = if (nth l i).c ≠ 0 then nth l i else fstF (l.drop (i + 1)):=by
  rw [drop_c h,fstF]
attribute [local go_sem] List.length_map mdC_e fa_ faO faR_e
theorem r_limits (P:Ins → Bool) (m:Md) (h:smM m) (hP:∀ y,smI y → PCalls Tryz.prog nX116 [ins_ y] (.bool (P y))):PCalls Tryz.prog nX84 [md_ m] (fa_ (limA P m)):=by
  rw [lim_eq P m h]
  refine pfun_sound (ic:=FX84.body) mixed cX84 rfl rfl ?_
  have d1:=r_tys m h
  have d2:=r_imsL m h
  have d3:=r_cds m h
  have d4:=r_tbs m h
  have d5:=r_mms m h
  have d6:=r_gds P m h hP
  have d7:=r_exs m h
  have d8:=r_start m
  have d9:=r_els P m h hP
  have d10:=r_dsl P m h hP
  have d11:=r_csl m h
  have d12:=r_bodies P m h hP
  unfold refA
  generalize tyF m = F1 at d1 ⊢
  generalize imF m = F2 at d2 ⊢
  generalize cdF m = F3 at d3 ⊢
  generalize tbF m = F4 at d4 ⊢
  generalize mmF m = F5 at d5 ⊢
  generalize gdF P m = F6 at d6 ⊢
  generalize exF m = F7 at d7 ⊢
  generalize stF m = F8 at d8 ⊢
  generalize elF P m = F9 at d9 ⊢
  generalize dsF P m = F10 at d10 ⊢
  generalize csF m = F11 at d11 ⊢
  generalize boF P m = F12 at d12 ⊢
  simp only [fa_,md_,mdC_e] at d1 d2 d3 d4 d5 d6 d7 d8 d9 d10 d11 d12
  obtain ⟨L,hL⟩:∃ L,L = [F1,F2,F3,F4,F5,F6,F7,F8,F9,F10,F11,F12]:=⟨_,rfl⟩
  rw [← hL]
  obtain ⟨G,hG⟩:∃ G,fstF L = G:=⟨_,rfl⟩
  rw [hG]
  have hlen:L.length = 12:=by rw [hL]; rfl
  simp only [go_sem,FX84,md_]
  refine dcall_same d1 (by simp [go_sem]) rfl ?_
  simp only [go_sem]
  refine dcall_same d2 (by simp [go_sem]) rfl ?_
  simp only [go_sem]
  refine dcall_same d3 (by simp [go_sem]) rfl ?_
  simp only [go_sem]
  refine dcall_same d4 (by simp [go_sem]) rfl ?_
  simp only [go_sem]
  refine dcall_same d5 (by simp [go_sem]) rfl ?_
  simp only [go_sem]
  refine dcall_same d6 (by simp [go_sem]) rfl ?_
  simp only [go_sem]
  refine dcall_same d7 (by simp [go_sem]) rfl ?_
  simp only [go_sem]
  refine dcall_same d8 (by simp [go_sem]) rfl ?_
  simp only [go_sem]
  refine dcall_same d9 (by simp [go_sem]) rfl ?_
  simp only [go_sem]
  refine dcall_same d10 (by simp [go_sem]) rfl ?_
  simp only [go_sem]
  refine dcall_same d11 (by simp [go_sem]) rfl ?_
  simp only [go_sem]
  refine call_same (d12) (by simp [go_sem]) ?_
  simp only [go_sem]
  refine loop_rule (fun j:Nat=>⟨[(4,.int .i64 j),(3,.ms 29 4 0 12),(2,.mp 2 4 0 0)],[(29,⟨40,4,L.map faR,false⟩),(2,faO lm0)]⟩) (fun j=>j ≤ 12 ∧ G = fstF (L.drop j)) (fun j=>12 - j) 0 ⟨Nat.zero_le _,hG.symm⟩ (Wk.of ?_ ?_) ?_
  · simp only [go_sem]; try simp
  · rw [hL]
    simp only [go_sem]; try simp [faR_e,lm0]
  rintro j ⟨hj,hx⟩
  by_cases h1:(j:Int) < ((12:Nat):Int)
  rotate_left
  · rw [drop_end (by omega)] at hx
    obtain rfl:G = lm0:=hx
    simp only [go_sem,decide_eq_false h1]
    exact pdone [] (by simp only [go_sem]; try rfl) (by rfl)
  have hj':j < L.length:=by omega
  have hj2:j < 12:=by omega
  have e8:=i_bd hj' (by omega)
  rw [fst_at hj'] at hx
  have cn:=r_none (nth L j)
  simp only [fa_] at cn
  by_cases z:(nth L j).c = 0
  · rw [if_neg (by simp [z])] at hx
    rw [beq_t z] at cn
    simp only [go_sem,decide_eq_true h1,hj2,hlen]
    refine ⟨by omega,?_⟩
    refine call_same (cn) (by simp [go_sem]) ?_
    simp only [go_sem]
    refine klp_n (j + 1) ⟨show j + 1 ≤ 12 by omega,hx⟩ (show 12 - (j + 1) < 12 - j by omega) (Wk.of ?_ ?_)
    · simp only [go_sem,e8]; try simp
    · simp only [go_sem]
  · rw [if_pos z] at hx
    subst hx
    rw [beq_f z] at cn
    simp only [go_sem,decide_eq_true h1,hj2,hlen]
    refine ⟨by omega,?_⟩
    refine call_same (cn) (by simp [go_sem]) ?_
    simp only [go_sem,hj2,hlen]
    refine ⟨by omega,?_⟩
    exact pdone [] (by simp only [go_sem]; try rfl) (by rfl)
end Go.Proofs.YtoaagdbbbojpmaaGreatDoor
set_option maxRecDepth 100000
set_option maxHeartbeats 20000000
set_option linter.unusedVariables false
set_option linter.unusedSimpArgs false
namespace Go.Proofs.YtoaagdbbbojpmaaGreatDoor
open Go Go.Mw
-- @U: List.length_map

end Go.Proofs.YtoaagdbbbojpmaaGreatDoor
set_option maxRecDepth 100000
set_option maxHeartbeats 40000000
set_option linter.unusedVariables false
set_option linter.unusedSimpArgs false
namespace Go.Proofs.YtoaagdbbbojpmaaGreatDoor
open Go Go.Mw
-- @U: List.length_map,mdC_e

end Go.Proofs.YtoaagdbbbojpmaaGreatDoor
set_option maxRecDepth 100000
set_option maxHeartbeats 40000000
set_option linter.unusedVariables false
set_option linter.unusedSimpArgs false
namespace Go.Proofs.YtoaagdbbbojpmaaGreatDoor
open Go Go.Mw
-- @U: List.length_map,mdC_e

attribute [local go_sem] List.length_map mdC_e
theorem w_limits7 (m:Md) (hm:bMod maxLen m):PCalls Tryz.prog nX47 [md_ m] (.bool true):=by
  refine pfun_sound (ic:=FX47.body) mixed cX47 rfl rfl ?_
  have la:=s_light m hm
  have al:=s_alive7
  simp only [md_,mdC_e] at la
  simp only [go_sem,FX47,md_]
  refine call_pe la ?_
  intro x hx
  cases x
  · simp only [go_sem]
    refine call_same (al) (by simp [go_sem]) ?_
    simp only [go_sem]
    exact pdone [] (by simp only [go_sem]) (by first | rfl | simp [go_sem,slv_ids])
  have sa:=lg_sm hm (hx rfl)
  have c1:=m_limits plB m sa s_plB
  have c2:=r_limits plB m sa r_plB
  simp only [md_,mdC_e,fa_] at c1 c2
  simp only [go_sem]
  refine dcall_same c1 (by simp [go_sem]) rfl ?_
  simp only [go_sem]
  refine call_same (c2) (by simp [go_sem]) ?_
  simp only [go_sem]
  refine call_same (al) (by simp [go_sem]) ?_
  simp only [go_sem]
  exact pdone [] (by simp only [go_sem]) (by first | rfl | simp [go_sem,slv_ids])
end Go.Proofs.YtoaagdbbbojpmaaGreatDoor
set_option maxRecDepth 100000
set_option linter.unusedVariables false
set_option linter.unusedSimpArgs false
namespace Go.Proofs.YtoaagdbbbojpmaaGreatDoor
open Go Go.Mw

end Go.Proofs.YtoaagdbbbojpmaaGreatDoor
