/-
  Chapter 1,walks: leb.PutU,leb.PutS.
-/
import Derived.Test.YtoaagdbbbojpmaaGreatDoorQd
import Derived.Shelf.Unicode.DecodeSlow
import Derived.Test.YtoaagdbbbojpmaaGreatDoorQc
set_option linter.unusedVariables false
set_option linter.unusedSimpArgs false
set_option linter.unusedSectionVars false
set_option linter.unusedSimpArgs false
set_option maxRecDepth 100000
set_option maxHeartbeats 4000000
set_option linter.unusedVariables false
namespace Go.Proofs.YtoaagdbbbojpmaaGreatDoor
open Go Go.Mw

end Go.Proofs.YtoaagdbbbojpmaaGreatDoor
set_option linter.unusedVariables false
namespace Go.Proofs.YtoaagdbbbojpmaaGreatDoor
open Go Go.Mw

theorem or_sh {n y s:Nat} (p:Nat) (hp:2 ^ s = p) (hs:s ≤ 56) (hn:n < p) (hy:y < 256):b_or .u64 (n:Int) (b_shl .u64 (y:Int) (s:Int)) = ((n + y * p:Nat):Int):=by
  subst hp
  rw [shl64 (by omega),or_shift (by omega) hn]
  have h1:2 ^ s ≤ 2 ^ 56:=Nat.pow_le_pow_right (by decide) hs
  have h2:y * 2 ^ s ≤ 255 * 2 ^ 56:=Nat.mul_le_mul (by omega) h1
  rw [Nat.mod_eq_of_lt (by omega)]

def wrd (l:List UInt8):Nat:=(nth l 0).toNat + (nth l 1).toNat * 256 + (nth l 2).toNat * 65536 + (nth l 3).toNat * 16777216 + (nth l 4).toNat * 4294967296 + (nth l 5).toNat * 1099511627776 + (nth l 6).toNat * 281474976710656 + (nth l 7).toNat * 72057594037927936
theorem wrd_lt (l:List UInt8):wrd l < 18446744073709551616:=by
  have h0:=(nth l 0).toNat_lt; have h1:=(nth l 1).toNat_lt; have h2:=(nth l 2).toNat_lt; have h3:=(nth l 3).toNat_lt
  have h4:=(nth l 4).toNat_lt; have h5:=(nth l 5).toNat_lt; have h6:=(nth l 6).toNat_lt; have h7:=(nth l 7).toNat_lt
  unfold wrd
  omega
theorem hi_bit {w:Nat} (h:w &&& 9259542123273814144 = 0) {k:Nat} (hk:(9259542123273814144:Nat).testBit k = true):w / 2 ^ k % 2 = 0:=by
  have h1:(w &&& 9259542123273814144).testBit k = false:=by rw [h]; simp
  rw [Nat.testBit_and,hk,Bool.and_true] at h1
  rw [Nat.testBit_eq_decide_div_mod_eq] at h1
  simp at h1
  omega
theorem top_bit {w p low b high:Nat} (hp:0 < p) (hl:low < p) (hb:b < 256) (e:w = low + p * (b + 256 * high)) (h:w / (p * 128) % 2 = 0):b < 128:=by
  have h1:w / p = b + 256 * high:=by rw [e,Nat.add_mul_div_left _ _ hp,Nat.div_eq_of_lt hl,Nat.zero_add]
  rw [← Nat.div_div_eq_div_mul,h1] at h
  omega
theorem wrd_asc {l:List UInt8} (h:wrd l &&& 9259542123273814144 = 0):∀ i,i < 8 → (nth l i).toNat < 128:=by
  have h0:=(nth l 0).toNat_lt; have h1:=(nth l 1).toNat_lt; have h2:=(nth l 2).toNat_lt; have h3:=(nth l 3).toNat_lt
  have h4:=(nth l 4).toNat_lt; have h5:=(nth l 5).toNat_lt; have h6:=(nth l 6).toNat_lt; have h7:=(nth l 7).toNat_lt
  have g0:(nth l 0).toNat < 128:=top_bit (w:=wrd l) (p:=1) (low:=0) (high:=0 + (nth l 1).toNat * 1 + (nth l 2).toNat * 256 + (nth l 3).toNat * 65536 + (nth l 4).toNat * 16777216 + (nth l 5).toNat * 4294967296 + (nth l 6).toNat * 1099511627776 + (nth l 7).toNat * 281474976710656) (by decide) (by omega) h0 (by unfold wrd; omega) (hi_bit h (k:=7) (by decide))
  have g1:(nth l 1).toNat < 128:=top_bit (w:=wrd l) (p:=256) (low:=0 + (nth l 0).toNat * 1) (high:=0 + (nth l 2).toNat * 1 + (nth l 3).toNat * 256 + (nth l 4).toNat * 65536 + (nth l 5).toNat * 16777216 + (nth l 6).toNat * 4294967296 + (nth l 7).toNat * 1099511627776) (by decide) (by omega) h1 (by unfold wrd; omega) (hi_bit h (k:=15) (by decide))
  have g2:(nth l 2).toNat < 128:=top_bit (w:=wrd l) (p:=65536) (low:=0 + (nth l 0).toNat * 1 + (nth l 1).toNat * 256) (high:=0 + (nth l 3).toNat * 1 + (nth l 4).toNat * 256 + (nth l 5).toNat * 65536 + (nth l 6).toNat * 16777216 + (nth l 7).toNat * 4294967296) (by decide) (by omega) h2 (by unfold wrd; omega) (hi_bit h (k:=23) (by decide))
  have g3:(nth l 3).toNat < 128:=top_bit (w:=wrd l) (p:=16777216) (low:=0 + (nth l 0).toNat * 1 + (nth l 1).toNat * 256 + (nth l 2).toNat * 65536) (high:=0 + (nth l 4).toNat * 1 + (nth l 5).toNat * 256 + (nth l 6).toNat * 65536 + (nth l 7).toNat * 16777216) (by decide) (by omega) h3 (by unfold wrd; omega) (hi_bit h (k:=31) (by decide))
  have g4:(nth l 4).toNat < 128:=top_bit (w:=wrd l) (p:=4294967296) (low:=0 + (nth l 0).toNat * 1 + (nth l 1).toNat * 256 + (nth l 2).toNat * 65536 + (nth l 3).toNat * 16777216) (high:=0 + (nth l 5).toNat * 1 + (nth l 6).toNat * 256 + (nth l 7).toNat * 65536) (by decide) (by omega) h4 (by unfold wrd; omega) (hi_bit h (k:=39) (by decide))
  have g5:(nth l 5).toNat < 128:=top_bit (w:=wrd l) (p:=1099511627776) (low:=0 + (nth l 0).toNat * 1 + (nth l 1).toNat * 256 + (nth l 2).toNat * 65536 + (nth l 3).toNat * 16777216 + (nth l 4).toNat * 4294967296) (high:=0 + (nth l 6).toNat * 1 + (nth l 7).toNat * 256) (by decide) (by omega) h5 (by unfold wrd; omega) (hi_bit h (k:=47) (by decide))
  have g6:(nth l 6).toNat < 128:=top_bit (w:=wrd l) (p:=281474976710656) (low:=0 + (nth l 0).toNat * 1 + (nth l 1).toNat * 256 + (nth l 2).toNat * 65536 + (nth l 3).toNat * 16777216 + (nth l 4).toNat * 4294967296 + (nth l 5).toNat * 1099511627776) (high:=0 + (nth l 7).toNat * 1) (by decide) (by omega) h6 (by unfold wrd; omega) (hi_bit h (k:=55) (by decide))
  have g7:(nth l 7).toNat < 128:=top_bit (w:=wrd l) (p:=72057594037927936) (low:=0 + (nth l 0).toNat * 1 + (nth l 1).toNat * 256 + (nth l 2).toNat * 65536 + (nth l 3).toNat * 16777216 + (nth l 4).toNat * 4294967296 + (nth l 5).toNat * 1099511627776 + (nth l 6).toNat * 281474976710656) (high:=0) (by decide) (by omega) h7 (by unfold wrd; omega) (hi_bit h (k:=63) (by decide))
  intro i hi
  have e:i = 0 ∨ i = 1 ∨ i = 2 ∨ i = 3 ∨ i = 4 ∨ i = 5 ∨ i = 6 ∨ i = 7:=by omega
  rcases e with rfl | rfl | rfl | rfl | rfl | rfl | rfl | rfl <;> assumption
theorem or_and_zero {a b h:Nat} (hh:(a ||| b) &&& h = 0):a &&& h = 0 ∧ b &&& h = 0:=by
  rw [Nat.and_or_distrib_right] at hh
  exact ⟨Nat.eq_zero_of_le_zero (by rw [← hh]; exact Nat.left_le_or),Nat.eq_zero_of_le_zero (by rw [← hh]; exact Nat.right_le_or)⟩
theorem and_hi {a:Nat} (ha:a < 18446744073709551616):b_and .u64 (a:Int) 9259542123273814144 = ((a &&& 9259542123273814144:Nat):Int):=by
  have h:(BitVec.ofInt 64 (a:Int) &&& BitVec.ofInt 64 ((9259542123273814144:Nat):Int)).toNat = a &&& 9259542123273814144:=and_nat ha (by decide)
  show IntKind.u64.wrap ((BitVec.ofInt 64 (a:Int) &&& BitVec.ofInt 64 ((9259542123273814144:Nat):Int)).toNat) = _
  rw [h,w_u64]
  have:a &&& 9259542123273814144 ≤ a:=Nat.and_le_left
  omega
theorem or_w {a b:Nat} (ha:a < 18446744073709551616) (hb:b < 18446744073709551616):b_or .u64 (a:Int) (b:Int) = ((a ||| b:Nat):Int) ∧ a ||| b < 18446744073709551616:=by
  have h:(BitVec.ofInt 64 (a:Int) ||| BitVec.ofInt 64 (b:Int)).toNat = a ||| b:=or_nat ha hb
  have hl:a ||| b < 2 ^ 64:=Nat.or_lt_two_pow ha hb
  refine ⟨?_,hl⟩
  show IntKind.u64.wrap ((BitVec.ofInt 64 (a:Int) ||| BitVec.ofInt 64 (b:Int)).toNat) = _
  rw [h,w_u64]
  omega

def run1 (l:List UInt8):Option Nat :=
  let x:=Lib.firstT (nth l 0).toNat
  let lo:=Lib.accLo (x / 16)
  let hi:=Lib.accHi (x / 16)
  if x % 8 = 2 then (if 2 ≤ l.length ∧ lo ≤ (nth l 1).toNat ∧ (nth l 1).toNat ≤ hi then some 2 else none)
  else if x % 8 = 3 then (if 3 ≤ l.length ∧ lo ≤ (nth l 1).toNat ∧ (nth l 1).toNat ≤ hi ∧ 128 ≤ (nth l 2).toNat ∧ (nth l 2).toNat ≤ 191 then some 3 else none)
  else if x % 8 = 4 then (if 4 ≤ l.length ∧ lo ≤ (nth l 1).toNat ∧ (nth l 1).toNat ≤ hi ∧ 128 ≤ (nth l 2).toNat ∧ (nth l 2).toNat ≤ 191 ∧ 128 ≤ (nth l 3).toNat ∧ (nth l 3).toNat ≤ 191 then some 4 else none)
  else none
def uvF:Nat → List UInt8 → Bool
  | 0,_=>true
  | _ + 1,[]=>true
  | f + 1,b :: r=>if b.toNat < 128 then uvF f r else match run1 (b :: r) with
    | some k=>uvF f ((b :: r).drop k)
    | none=>false
def uv (l:List UInt8):Bool:=uvF l.length l
theorem run1_pos {l:List UInt8} {k:Nat} (h:run1 l = some k):2 ≤ k ∧ k ≤ l.length:=by
  unfold run1 at h
  simp only at h
  repeat' split at h
  all_goals first | (cases h; done) | (cases h; rename_i hh; exact ⟨by omega,hh.1⟩)
theorem uvF_enough:∀ (f g:Nat) (l:List UInt8),l.length ≤ f → l.length ≤ g → uvF f l = uvF g l
  | 0,0,_,_,_=>rfl
  | 0,g + 1,l,h,_=>by
    have:l = []:=List.eq_nil_of_length_eq_zero (by omega)
    subst this; rfl
  | f + 1,0,l,_,h=>by
    have:l = []:=List.eq_nil_of_length_eq_zero (by omega)
    subst this; rfl
  | f + 1,g + 1,[],_,_=>rfl
  | f + 1,g + 1,b :: r,h1,h2=>by
    simp only [List.length_cons] at h1 h2
    simp only [uvF]
    split
    · exact uvF_enough f g r (by omega) (by omega)
    · cases hk:run1 (b :: r) with
      | none=>rfl
      | some k =>
        have:=run1_pos hk
        exact uvF_enough f g _ (by simp only [List.length_drop,List.length_cons]; omega) (by simp only [List.length_drop,List.length_cons]; omega)
theorem uv_nil:uv [] = true:=rfl
theorem uv_asc {l:List UInt8} (hl:0 < l.length) (h:(nth l 0).toNat < 128):uv l = uv (l.drop 1):=by
  cases l with
  | nil=>simp at hl
  | cons b r =>
    have h':b.toNat < 128:=h
    simp only [uv,List.length_cons,uvF,List.drop_succ_cons,List.drop_zero]
    rw [if_pos h']
theorem uv_run {l:List UInt8} {k:Nat} (hl:0 < l.length) (h:¬ (nth l 0).toNat < 128) (hk:run1 l = some k):uv l = uv (l.drop k):=by
  have hp:=run1_pos hk
  cases l with
  | nil=>simp at hl
  | cons b r =>
    have h':¬ b.toNat < 128:=h
    simp only [uv,List.length_cons,uvF]
    rw [if_neg h',hk]
    exact uvF_enough _ _ _ (by simp only [List.length_drop,List.length_cons]; omega) (Nat.le_refl _)
theorem uv_bad {l:List UInt8} (hl:0 < l.length) (h:¬ (nth l 0).toNat < 128) (hk:run1 l = none):uv l = false:=by
  cases l with
  | nil=>simp at hl
  | cons b r =>
    have h':¬ b.toNat < 128:=h
    simp only [uv,List.length_cons,uvF]
    rw [if_neg h',hk]
theorem uv_drop {l:List UInt8}:∀ k,k ≤ l.length → (∀ i,i < k → (nth l i).toNat < 128) → uv l = uv (l.drop k)
  | 0,_,_=>rfl
  | k + 1,hk,h=>by
    rw [uv_drop k (by omega) (fun i hi=>h i (by omega)),uv_asc (by simp; omega) (by rw [nth_drop]; exact h k (by omega)),List.drop_drop]
theorem uv_word {l:List UInt8} (hl:8 ≤ l.length) (h:wrd l &&& 9259542123273814144 = 0):uv l = uv (l.drop 8):=uv_drop 8 hl (wrd_asc h)
end Go.Proofs.YtoaagdbbbojpmaaGreatDoor
set_option linter.unusedSimpArgs false
set_option maxRecDepth 100000
set_option maxHeartbeats 4000000
set_option linter.unusedVariables false
namespace Go.Proofs.YtoaagdbbbojpmaaGreatDoor
open Go Go.Mw

theorem c64 (b:UInt8):IntKind.u64.wrap (b.toNat:Int) = (b.toNat:Int):=by
  have:=b.toNat_lt
  rw [w_u64]; omega
theorem wrd_or (l:List UInt8):b_or .u64 (b_or .u64 (b_or .u64 (b_or .u64 (b_or .u64 (b_or .u64 (b_or .u64 ((nth l 0).toNat:Int) (b_shl .u64 ((nth l 1).toNat:Int) 8)) (b_shl .u64 ((nth l 2).toNat:Int) 16)) (b_shl .u64 ((nth l 3).toNat:Int) 24)) (b_shl .u64 ((nth l 4).toNat:Int) 32)) (b_shl .u64 ((nth l 5).toNat:Int) 40)) (b_shl .u64 ((nth l 6).toNat:Int) 48)) (b_shl .u64 ((nth l 7).toNat:Int) 56) = ((wrd l:Nat):Int):=by
  have h0:=(nth l 0).toNat_lt; have h1:=(nth l 1).toNat_lt; have h2:=(nth l 2).toNat_lt; have h3:=(nth l 3).toNat_lt
  have h4:=(nth l 4).toNat_lt; have h5:=(nth l 5).toNat_lt; have h6:=(nth l 6).toNat_lt; have h7:=(nth l 7).toNat_lt
  have e1:b_or .u64 (((nth l 0).toNat:Nat):Int) (b_shl .u64 ((nth l 1).toNat:Int) 8) = (((nth l 0).toNat + (nth l 1).toNat * 256:Nat):Int):=or_sh (s:=8) 256 (by decide) (by decide) (by omega) h1
  have e2:b_or .u64 (((nth l 0).toNat + (nth l 1).toNat * 256:Nat):Int) (b_shl .u64 ((nth l 2).toNat:Int) 16) = (((nth l 0).toNat + (nth l 1).toNat * 256 + (nth l 2).toNat * 65536:Nat):Int):=or_sh (s:=16) 65536 (by decide) (by decide) (by omega) h2
  have e3:b_or .u64 (((nth l 0).toNat + (nth l 1).toNat * 256 + (nth l 2).toNat * 65536:Nat):Int) (b_shl .u64 ((nth l 3).toNat:Int) 24) = (((nth l 0).toNat + (nth l 1).toNat * 256 + (nth l 2).toNat * 65536 + (nth l 3).toNat * 16777216:Nat):Int):=or_sh (s:=24) 16777216 (by decide) (by decide) (by omega) h3
  have e4:b_or .u64 (((nth l 0).toNat + (nth l 1).toNat * 256 + (nth l 2).toNat * 65536 + (nth l 3).toNat * 16777216:Nat):Int) (b_shl .u64 ((nth l 4).toNat:Int) 32) = (((nth l 0).toNat + (nth l 1).toNat * 256 + (nth l 2).toNat * 65536 + (nth l 3).toNat * 16777216 + (nth l 4).toNat * 4294967296:Nat):Int):=or_sh (s:=32) 4294967296 (by decide) (by decide) (by omega) h4
  have e5:b_or .u64 (((nth l 0).toNat + (nth l 1).toNat * 256 + (nth l 2).toNat * 65536 + (nth l 3).toNat * 16777216 + (nth l 4).toNat * 4294967296:Nat):Int) (b_shl .u64 ((nth l 5).toNat:Int) 40) = (((nth l 0).toNat + (nth l 1).toNat * 256 + (nth l 2).toNat * 65536 + (nth l 3).toNat * 16777216 + (nth l 4).toNat * 4294967296 + (nth l 5).toNat * 1099511627776:Nat):Int):=or_sh (s:=40) 1099511627776 (by decide) (by decide) (by omega) h5
  have e6:b_or .u64 (((nth l 0).toNat + (nth l 1).toNat * 256 + (nth l 2).toNat * 65536 + (nth l 3).toNat * 16777216 + (nth l 4).toNat * 4294967296 + (nth l 5).toNat * 1099511627776:Nat):Int) (b_shl .u64 ((nth l 6).toNat:Int) 48) = (((nth l 0).toNat + (nth l 1).toNat * 256 + (nth l 2).toNat * 65536 + (nth l 3).toNat * 16777216 + (nth l 4).toNat * 4294967296 + (nth l 5).toNat * 1099511627776 + (nth l 6).toNat * 281474976710656:Nat):Int):=or_sh (s:=48) 281474976710656 (by decide) (by decide) (by omega) h6
  have e7:b_or .u64 (((nth l 0).toNat + (nth l 1).toNat * 256 + (nth l 2).toNat * 65536 + (nth l 3).toNat * 16777216 + (nth l 4).toNat * 4294967296 + (nth l 5).toNat * 1099511627776 + (nth l 6).toNat * 281474976710656:Nat):Int) (b_shl .u64 ((nth l 7).toNat:Int) 56) = (((nth l 0).toNat + (nth l 1).toNat * 256 + (nth l 2).toNat * 65536 + (nth l 3).toNat * 16777216 + (nth l 4).toNat * 4294967296 + (nth l 5).toNat * 1099511627776 + (nth l 6).toNat * 281474976710656 + (nth l 7).toNat * 72057594037927936:Nat):Int):=or_sh (s:=56) 72057594037927936 (by decide) (by decide) (by omega) h7
  rw [e1,e2,e3,e4,e5,e6,e7]
  rfl
theorem s_wordS (l:List UInt8) (h:8 ≤ l.length):PCalls Tryz.prog nX52 [.str l] (.int .u64 (wrd l)):=by
  refine pfun_sound (ic:=FX52.body) mixed cX52 rfl rfl ?_
  simp only [FX52,go_sem,c64]
  refine ⟨by omega,by omega,by omega,by omega,by omega,by omega,by omega,by omega,by omega,by omega,by omega,by omega,by omega,by omega,by omega,by omega,by omega,by omega,by omega,by omega,by omega,by omega,by omega,?_⟩
  exact pdone [] (by simp only [go_sem,wrd_or]) rfl
end Go.Proofs.YtoaagdbbbojpmaaGreatDoor
set_option linter.unusedSimpArgs false
set_option maxRecDepth 100000
set_option maxHeartbeats 8000000
set_option linter.unusedVariables false
namespace Go.Proofs.YtoaagdbbbojpmaaGreatDoor
open Go Go.Mw

theorem and7 {x:Nat} (hx:x < 256):b_and .u8 (x:Int) 7 = ((x % 8:Nat):Int):=by
  have:(BitVec.ofInt 8 (x:Int) &&& BitVec.ofInt 8 ((7:Nat):Int)).toNat = x &&& 7:=and_nat hx (by decide)
  show IntKind.u8.wrap ((BitVec.ofInt 8 (x:Int) &&& BitVec.ofInt 8 ((7:Nat):Int)).toNat) = _
  rw [this,show (7:Nat) = 2 ^ 3 - 1 from rfl,Nat.and_two_pow_sub_one_eq_mod,w_u8]
  omega
theorem run2 {l:List UInt8} (z:Lib.firstT (nth l 0).toNat % 8 = 2):run1 l = if 2 ≤ l.length ∧ Lib.accLo (Lib.firstT (nth l 0).toNat / 16) ≤ (nth l 1).toNat ∧ (nth l 1).toNat ≤ Lib.accHi (Lib.firstT (nth l 0).toNat / 16) then some 2 else none:=by
  unfold run1
  simp only
  rw [if_pos z]
theorem run3 {l:List UInt8} (z:Lib.firstT (nth l 0).toNat % 8 = 3):run1 l = if 3 ≤ l.length ∧ Lib.accLo (Lib.firstT (nth l 0).toNat / 16) ≤ (nth l 1).toNat ∧ (nth l 1).toNat ≤ Lib.accHi (Lib.firstT (nth l 0).toNat / 16) ∧ 128 ≤ (nth l 2).toNat ∧ (nth l 2).toNat ≤ 191 then some 3 else none:=by
  unfold run1
  simp only
  rw [if_neg (by omega),if_pos z]
theorem run4 {l:List UInt8} (z:Lib.firstT (nth l 0).toNat % 8 = 4):run1 l = if 4 ≤ l.length ∧ Lib.accLo (Lib.firstT (nth l 0).toNat / 16) ≤ (nth l 1).toNat ∧ (nth l 1).toNat ≤ Lib.accHi (Lib.firstT (nth l 0).toNat / 16) ∧ 128 ≤ (nth l 2).toNat ∧ (nth l 2).toNat ≤ 191 ∧ 128 ≤ (nth l 3).toNat ∧ (nth l 3).toNat ≤ 191 then some 4 else none:=by
  unfold run1
  simp only
  rw [if_neg (by omega),if_neg (by omega),if_pos z]
theorem runN {l:List UInt8} (z2:¬ Lib.firstT (nth l 0).toNat % 8 = 2) (z3:¬ Lib.firstT (nth l 0).toNat % 8 = 3) (z4:¬ Lib.firstT (nth l 0).toNat % 8 = 4):run1 l = none:=by
  unfold run1
  simp only
  rw [if_neg z2,if_neg z3,if_neg z4]
theorem first_lt (b:Nat):Lib.firstT b < 256:=by
  rcases Lib.firstT_cases b with h | h | h | h | h | h | h | h | h <;> rw [h] <;> decide
theorem ld_first {x:Nat} (hx:x < 256):ldc none (tab0.drop (x * 1)) = some (.int .u8 (Lib.firstT x)):=by
  have:(tab0.drop x)[0]? = some (.int .u8 (Lib.firstT x)):=by
    rw [List.getElem?_drop,Nat.add_zero,tab0,List.getElem?_map,List.getElem?_range hx]; rfl
  rw [Nat.mul_one]
  simp only [ldc]
  exact this
theorem ld_acc {i:Nat} (hi:i < 16):ldc (some 2) (tab1.drop (i * 2)) = some (.agg [.int .u8 (Lib.accLo i),.int .u8 (Lib.accHi i)]):=by
  have hl:tab1.length = 32:=by simp [tab1]
  have e0:tab1[i * 2]? = some (.int .u8 (Lib.accLo i)):=by
    rw [tab1,List.getElem?_map,List.getElem?_range (by omega)]
    simp only [Option.map_some]
    rw [if_pos (by omega),show i * 2 / 2 = i by omega]
  have e1:tab1[i * 2 + 1]? = some (.int .u8 (Lib.accHi i)):=by
    rw [tab1,List.getElem?_map,List.getElem?_range (by omega)]
    simp only [Option.map_some]
    rw [if_neg (by omega),show (i * 2 + 1) / 2 = i by omega]
  have h0:i * 2 < tab1.length:=by omega
  have h1:i * 2 + 1 < tab1.length:=by omega
  simp only [ldc]
  rw [if_pos (by simp [hl]; omega),List.drop_eq_getElem_cons h0,List.drop_eq_getElem_cons h1]
  rw [List.getElem?_eq_getElem h0] at e0
  rw [List.getElem?_eq_getElem h1] at e1
  simp only [List.take_succ_cons,List.take_zero,Option.some.inj e0,Option.some.inj e1]


theorem s_uvS (s:List UInt8) (hs:s.length < 1000000000):PCalls Tryz.prog nX51 [.str s] (.bool (uv s)):=by
  refine pfun_soundT (ic:=FX51.body) [(1000000,.ip tab0),(1000001,.ip tab1)] (fun p hp=>hp) mixed cX51 rfl rfl ?_
  simp only [FX51,go_sem]
  refine loop_rule (fun q:List UInt8=>⟨[(0,.str q),(1000000,.ip tab0),(1000001,.ip tab1)],[]⟩) (fun q=>uv q = uv s ∧ q.length ≤ s.length) (fun q=>q.length) s ⟨rfl,Nat.le_refl _⟩ (Wk.of ?_ ?_) ?_
  · simp only [go_sem]
  · simp only [go_sem]
  rintro q ⟨hq,hl⟩
  replace hq:uv q = uv s:=hq
  replace hl:q.length ≤ s.length:=hl
  have fin:∀ (s1:St) (q':List UInt8),get s1.env 0 = .str q' → get s1.env 1000000 = .ip tab0 → get s1.env 1000001 = .ip tab1 → uv q' = uv s → q'.length < q.length → ∀ K,
      klp (fun q:List UInt8=>⟨[(0,.str q),(1000000,.ip tab0),(1000001,.ip tab1)],[]⟩) (fun q=>uv q = uv s ∧ q.length ≤ s.length) (fun q=>q.length) q K .nrm s1:=fun s1 q' h0 h1 h2 h3 h4 K =>
    klp_n q' ⟨h3,by omega⟩ h4 (Wk.of ⟨h0,h1,h2,trivial⟩ trivial)
  by_cases h0:q.length = 0
  · have d0:decide ((q.length:Int) > 0) = false:=decide_eq_false (by omega)
    have:q = []:=List.eq_nil_of_length_eq_zero h0
    subst this
    rw [← hq,uv_nil]
    simp only [go_sem,d0,List.length_nil,Int.natCast_zero,gt_iff_lt,Int.lt_irrefl,decide_false]
    exact pdone [] (by simp only [go_sem]) rfl
  have d0:decide ((q.length:Int) > 0) = true:=by simp; omega
  have hx:(nth q 0).toNat < 256:=(nth q 0).toNat_lt
  by_cases ha:(nth q 0).toNat < 128
  · have da:decide (((nth q 0).toNat:Int) < 128) = true:=by simp; omega
    have hq1:uv (q.drop 1) = uv s:=by rw [← uv_asc (by omega) ha]; exact hq
    have l1:(q.drop 1).length = q.length - 1:=by simp
    by_cases h8:(q.drop 1).length > 8
    · have d8:decide (((q.drop 1).length:Int) > 8) = true:=by simp only [decide_eq_true_eq]; omega
      simp only [go_sem,d0,da,d8]
      refine ⟨by omega,by omega,⟨by omega,by omega⟩,call_same (s_wordS (q.drop 1) (by omega)) (by simp [go_sem]) ?_⟩
      have a1:=and_hi (wrd_lt (q.drop 1))
      by_cases t1:wrd (q.drop 1) &&& 9259542123273814144 = 0
      · have b1:(((wrd (q.drop 1) &&& 9259542123273814144:Nat):Int) == 0) = true:=by rw [t1]; rfl
        have hq2:uv ((q.drop 1).drop 8) = uv s:=by rw [← uv_word (by omega) t1]; exact hq1
        have l2:((q.drop 1).drop 8).length = q.length - 9:=by simp <;> omega
        generalize hq2e:(q.drop 1).drop 8 = q2 at *
        by_cases h16:q2.length > 16
        · have d16:decide ((q2.length:Int) > 16) = true:=decide_eq_true (by omega)
          simp only [go_sem,a1,b1,hq2e,d16]
          refine ⟨⟨by omega,by omega⟩,?_⟩
          first | refine call_same (s_wordS q2 (by omega)) (by simp [go_sem]) ?_ | refine dcall_same (s_wordS q2 (by omega)) (by simp [go_sem]) rfl ?_
          simp only [go_sem]
          refine ⟨⟨by omega,by omega⟩,?_⟩
          first | refine call_same (s_wordS (q2.drop 8) (by simp; omega)) (by simp [go_sem]) ?_ | refine dcall_same (s_wordS (q2.drop 8) (by simp; omega)) (by simp [go_sem]) rfl ?_
          have o1:=or_w (wrd_lt q2) (wrd_lt (q2.drop 8))
          have a2:=and_hi o1.2
          by_cases t2:(wrd q2 ||| wrd (q2.drop 8)) &&& 9259542123273814144 = 0
          · have b2:((((wrd q2 ||| wrd (q2.drop 8)) &&& 9259542123273814144:Nat):Int) == 0) = true:=by rw [t2]; rfl
            have hq3:uv (q2.drop 16) = uv s:=by
              have:=or_and_zero t2
              rw [show q2.drop 16 = (q2.drop 8).drop 8 by rw [List.drop_drop],← uv_word (by simp; omega) this.2,← uv_word (by omega) this.1]
              exact hq2
            have l3:(q2.drop 16).length = q2.length - 16:=by simp
            simp only [go_sem,o1.1,a2,b2]
            refine ⟨⟨by omega,by omega⟩,?_⟩
            refine loop_rule (fun r:List UInt8=>⟨[(0,.str r),(1000000,.ip tab0),(1000001,.ip tab1)],[]⟩) (fun r=>uv r = uv s ∧ r.length < q.length) (fun r=>r.length) (q2.drop 16) ⟨hq3,by omega⟩ (Wk.of ?_ ?_) ?_
            · simp only [go_sem]
            · simp only [go_sem]
            rintro r ⟨hr,hrl⟩
            replace hr:uv r = uv s:=hr
            replace hrl:r.length < q.length:=hrl
            by_cases h32:r.length > 32
            · have d32:decide ((r.length:Int) > 32) = true:=decide_eq_true (by omega)
              simp only [go_sem,d32]
              first | refine call_same (s_wordS r (by omega)) (by simp [go_sem]) ?_ | refine dcall_same (s_wordS r (by omega)) (by simp [go_sem]) rfl ?_
              simp only [go_sem]
              refine ⟨⟨by omega,by omega⟩,?_⟩
              first | refine call_same (s_wordS (r.drop 8) (by simp; omega)) (by simp [go_sem]) ?_ | refine dcall_same (s_wordS (r.drop 8) (by simp; omega)) (by simp [go_sem]) rfl ?_
              simp only [go_sem]
              refine ⟨⟨by omega,by omega⟩,?_⟩
              first | refine call_same (s_wordS (r.drop 16) (by simp; omega)) (by simp [go_sem]) ?_ | refine dcall_same (s_wordS (r.drop 16) (by simp; omega)) (by simp [go_sem]) rfl ?_
              simp only [go_sem]
              refine ⟨⟨by omega,by omega⟩,?_⟩
              first | refine call_same (s_wordS (r.drop 24) (by simp; omega)) (by simp [go_sem]) ?_ | refine dcall_same (s_wordS (r.drop 24) (by simp; omega)) (by simp [go_sem]) rfl ?_
              have o2:=or_w (wrd_lt r) (wrd_lt (r.drop 8))
              have o3:=or_w (wrd_lt (r.drop 16)) (wrd_lt (r.drop 24))
              have o4:=or_w o2.2 o3.2
              have a3:=and_hi o4.2
              by_cases t3:((wrd r ||| wrd (r.drop 8)) ||| (wrd (r.drop 16) ||| wrd (r.drop 24))) &&& 9259542123273814144 = 0
              · have b3:(((((wrd r ||| wrd (r.drop 8)) ||| (wrd (r.drop 16) ||| wrd (r.drop 24))) &&& 9259542123273814144:Nat):Int) == 0) = true:=by rw [t3]; rfl
                have hr4:uv (r.drop 32) = uv s:=by
                  have g1:=or_and_zero t3
                  have g2:=or_and_zero g1.1
                  have g3:=or_and_zero g1.2
                  rw [show r.drop 32 = (r.drop 24).drop 8 by rw [List.drop_drop],← uv_word (by simp; omega) g3.2,show r.drop 24 = (r.drop 16).drop 8 by rw [List.drop_drop],← uv_word (by simp; omega) g3.1,
                    show r.drop 16 = (r.drop 8).drop 8 by rw [List.drop_drop],← uv_word (by simp; omega) g2.2,← uv_word (by omega) g2.1]
                  exact hr
                simp only [go_sem,o2.1,o3.1,o4.1,a3,b3]
                exact ⟨⟨by omega,by omega⟩,klp_n (r.drop 32) ⟨hr4,by simp; omega⟩ (show (r.drop 32).length < r.length by simp; omega) (Wk.of (by simp only [go_sem]) (by simp only [go_sem]))⟩
              · have b3:(((((wrd r ||| wrd (r.drop 8)) ||| (wrd (r.drop 16) ||| wrd (r.drop 24))) &&& 9259542123273814144:Nat):Int) == 0) = false:=by rw [beq_eq_false_iff_ne]; omega
                simp only [go_sem,o2.1,o3.1,o4.1,a3,b3]
                exact fin _ r (by simp only [go_sem]) (by simp only [go_sem]) (by simp only [go_sem]) hr hrl _
            · have d32:decide ((r.length:Int) > 32) = false:=decide_eq_false (by omega)
              simp only [go_sem,d32]
              exact fin _ r (by simp only [go_sem]) (by simp only [go_sem]) (by simp only [go_sem]) hr hrl _
          · have b2:((((wrd q2 ||| wrd (q2.drop 8)) &&& 9259542123273814144:Nat):Int) == 0) = false:=by rw [beq_eq_false_iff_ne]; omega
            simp only [go_sem,o1.1,a2,b2]
            exact fin _ q2 (by simp only [go_sem]) (by simp only [go_sem]) (by simp only [go_sem]) hq2 (by omega) _
        · have d16:decide ((q2.length:Int) > 16) = false:=decide_eq_false (by omega)
          simp only [go_sem,a1,b1,hq2e,d16]
          exact ⟨⟨by omega,by omega⟩,fin _ q2 (by simp only [go_sem]) (by simp only [go_sem]) (by simp only [go_sem]) hq2 (by omega) _⟩
      · have b1:(((wrd (q.drop 1) &&& 9259542123273814144:Nat):Int) == 0) = false:=by rw [beq_eq_false_iff_ne]; omega
        simp only [go_sem,a1,b1]
        exact fin _ (q.drop 1) (by simp only [go_sem]) (by simp only [go_sem]) (by simp only [go_sem]) hq1 (by omega) _
    · have d8:decide (((q.drop 1).length:Int) > 8) = false:=by simp only [decide_eq_false_iff_not]; omega
      simp only [go_sem,d0,da,d8]
      exact ⟨by omega,by omega,⟨by omega,by omega⟩,fin _ (q.drop 1) (by simp only [go_sem]) (by simp only [go_sem]) (by simp only [go_sem]) hq1 (by omega) _⟩
  · have da:decide (((nth q 0).toNat:Int) < 128) = false:=by simp; omega
    have hf:=first_lt (nth q 0).toNat
    have e1:=ld_first hx
    have e2:=and7 hf
    have e3:IntKind.i64.wrap ((Lib.firstT (nth q 0).toNat % 8:Nat):Int) = ((Lib.firstT (nth q 0).toNat % 8:Nat):Int):=wi (by omega) (by omega)
    have e4:b_shr .u8 (Lib.firstT (nth q 0).toNat:Int) 4 = ((Lib.firstT (nth q 0).toNat / 16:Nat):Int):=shr_nat .u8 (x:=Lib.firstT (nth q 0).toNat) (s:=4) (by decide)
    have e5:=ld_acc (i:=Lib.firstT (nth q 0).toNat / 16) (by omega)
    have bad:run1 q = none → ∀ s1:St,get s1.env 2 = .bool false → PDone [.tmp 2] (.bool (uv s)) .ret s1:=fun hr s1 hg=>by
      rw [← hq,uv_bad (by omega) ha hr]
      exact pdone [] (by simp only [iret,ires,ires1,frzs,hg,okRes,↓reduceIte]) rfl
    have good:∀ k,run1 q = some k → uv (q.drop k) = uv s ∧ (q.drop k).length < q.length:=fun k hk=>by
      have:=run1_pos hk
      exact ⟨by rw [← uv_run (by omega) ha hk]; exact hq,by simp; omega⟩
    by_cases z2:Lib.firstT (nth q 0).toNat % 8 = 2
    · have b2:(((Lib.firstT (nth q 0).toNat % 8:Nat):Int) == 2) = true:=by rw [z2]; rfl
      have r2:=run2 z2
      simp (config:={ maxSteps:=1000000 }) only [go_sem,d0,da,e1,e2,e3,e4,e5,b2]
      exact ⟨by omega,by omega,⟨by omega,by omega⟩,by decide,⟨by omega,by omega⟩,fun h1=>bad (by rw [r2,if_neg (by omega)]) _ (by simp only [go_sem]),fun h1=>⟨by omega,by omega,fun h2=>bad (by rw [r2,if_neg (by omega)]) _ (by simp only [go_sem]),fun h2=>⟨by omega,by omega,fun h3=>bad (by rw [r2,if_neg (by omega)]) _ (by simp only [go_sem]),fun h3=>⟨⟨by omega,by omega⟩,fin _ (q.drop 2) (by simp only [go_sem]) (by simp only [go_sem]) (by simp only [go_sem]) (good 2 (by rw [r2,if_pos (by omega)])).1 (good 2 (by rw [r2,if_pos (by omega)])).2 _⟩⟩⟩⟩
    have n2:(((Lib.firstT (nth q 0).toNat % 8:Nat):Int) == 2) = false:=by rw [beq_eq_false_iff_ne]; omega
    by_cases z3:Lib.firstT (nth q 0).toNat % 8 = 3
    · have b3:(((Lib.firstT (nth q 0).toNat % 8:Nat):Int) == 3) = true:=by rw [z3]; rfl
      have r3:=run3 z3
      simp (config:={ maxSteps:=1000000 }) only [go_sem,d0,da,e1,e2,e3,e4,e5,b3,n2]
      exact ⟨by omega,by omega,⟨by omega,by omega⟩,by decide,⟨by omega,by omega⟩,fun h1=>bad (by rw [r3,if_neg (by omega)]) _ (by simp only [go_sem]),fun h1=>⟨by omega,by omega,fun h2=>bad (by rw [r3,if_neg (by omega)]) _ (by simp only [go_sem]),fun h2=>⟨by omega,by omega,fun h3=>bad (by rw [r3,if_neg (by omega)]) _ (by simp only [go_sem]),fun h3=>⟨by omega,by omega,fun h4=>bad (by rw [r3,if_neg (by omega)]) _ (by simp only [go_sem]),fun h4=>⟨by omega,by omega,fun h5=>bad (by rw [r3,if_neg (by omega)]) _ (by simp only [go_sem]),fun h5=>⟨⟨by omega,by omega⟩,fin _ (q.drop 3) (by simp only [go_sem]) (by simp only [go_sem]) (by simp only [go_sem]) (good 3 (by rw [r3,if_pos (by omega)])).1 (good 3 (by rw [r3,if_pos (by omega)])).2 _⟩⟩⟩⟩⟩⟩
    have n3:(((Lib.firstT (nth q 0).toNat % 8:Nat):Int) == 3) = false:=by rw [beq_eq_false_iff_ne]; omega
    by_cases z4:Lib.firstT (nth q 0).toNat % 8 = 4
    · have b4:(((Lib.firstT (nth q 0).toNat % 8:Nat):Int) == 4) = true:=by rw [z4]; rfl
      have r4:=run4 z4
      simp (config:={ maxSteps:=1000000 }) only [go_sem,d0,da,e1,e2,e3,e4,e5,b4,n2,n3]
      exact ⟨by omega,by omega,⟨by omega,by omega⟩,by decide,⟨by omega,by omega⟩,fun h1=>bad (by rw [r4,if_neg (by omega)]) _ (by simp only [go_sem]),fun h1=>⟨by omega,by omega,fun h2=>bad (by rw [r4,if_neg (by omega)]) _ (by simp only [go_sem]),fun h2=>⟨by omega,by omega,fun h3=>bad (by rw [r4,if_neg (by omega)]) _ (by simp only [go_sem]),fun h3=>⟨by omega,by omega,fun h4=>bad (by rw [r4,if_neg (by omega)]) _ (by simp only [go_sem]),fun h4=>⟨by omega,by omega,fun h5=>bad (by rw [r4,if_neg (by omega)]) _ (by simp only [go_sem]),fun h5=>⟨by omega,by omega,fun h6=>bad (by rw [r4,if_neg (by omega)]) _ (by simp only [go_sem]),fun h6=>⟨by omega,by omega,fun h7=>bad (by rw [r4,if_neg (by omega)]) _ (by simp only [go_sem]),fun h7=>⟨⟨by omega,by omega⟩,fin _ (q.drop 4) (by simp only [go_sem]) (by simp only [go_sem]) (by simp only [go_sem]) (good 4 (by rw [r4,if_pos (by omega)])).1 (good 4 (by rw [r4,if_pos (by omega)])).2 _⟩⟩⟩⟩⟩⟩⟩⟩
    have n4:(((Lib.firstT (nth q 0).toNat % 8:Nat):Int) == 4) = false:=by rw [beq_eq_false_iff_ne]; omega
    simp only [go_sem,d0,da,e1,e2,e3,e4,e5,n2,n3,n4]
    exact ⟨by omega,by omega,⟨by omega,by omega⟩,by decide,⟨by omega,by omega⟩,bad (runN z2 z3 z4) _ (by simp only [go_sem])⟩

end Go.Proofs.YtoaagdbbbojpmaaGreatDoor
set_option linter.unusedVariables false
namespace Go.Proofs.YtoaagdbbbojpmaaGreatDoor
open Go Go.Mw

def slv:Option (List UInt8) → AV
  | none=>.nl
  | some l=>.sl 1 (l.map by_)
theorem slv_ids (o:Option (List UInt8)):idsV (slv o) = []:=by cases o <;> rfl
theorem slv_none:slv none = .nl:=rfl
theorem slv_some (l:List UInt8):slv (some l) = .sl 1 (l.map by_):=rfl
attribute [go_sem] slv_none slv_some
end Go.Proofs.YtoaagdbbbojpmaaGreatDoor
set_option linter.unusedSimpArgs false
set_option maxRecDepth 100000
set_option maxHeartbeats 4000000
set_option linter.unusedVariables false
namespace Go.Proofs.YtoaagdbbbojpmaaGreatDoor
open Go Go.Mw

end Go.Proofs.YtoaagdbbbojpmaaGreatDoor
set_option linter.unusedSimpArgs false
set_option maxRecDepth 100000
set_option maxHeartbeats 4000000
set_option linter.unusedVariables false
namespace Go.Proofs.YtoaagdbbbojpmaaGreatDoor
open Go Go.Mw

end Go.Proofs.YtoaagdbbbojpmaaGreatDoor
set_option linter.unusedSimpArgs false
set_option maxRecDepth 100000
set_option maxHeartbeats 4000000
set_option linter.unusedVariables false
namespace Go.Proofs.YtoaagdbbbojpmaaGreatDoor
open Go Go.Mw

end Go.Proofs.YtoaagdbbbojpmaaGreatDoor
set_option linter.unusedSimpArgs false
set_option maxRecDepth 100000
set_option maxHeartbeats 4000000
set_option linter.unusedVariables false
namespace Go.Proofs.YtoaagdbbbojpmaaGreatDoor
open Go Go.Mw

end Go.Proofs.YtoaagdbbbojpmaaGreatDoor
set_option linter.unusedSimpArgs false
set_option maxRecDepth 100000
set_option maxHeartbeats 4000000
set_option linter.unusedVariables false
namespace Go.Proofs.YtoaagdbbbojpmaaGreatDoor
open Go Go.Mw

end Go.Proofs.YtoaagdbbbojpmaaGreatDoor
set_option linter.unusedSimpArgs false
set_option maxRecDepth 100000
set_option maxHeartbeats 4000000
set_option linter.unusedVariables false
namespace Go.Proofs.YtoaagdbbbojpmaaGreatDoor
open Go Go.Mw

end Go.Proofs.YtoaagdbbbojpmaaGreatDoor
set_option linter.unusedSimpArgs false
set_option maxRecDepth 100000
set_option maxHeartbeats 4000000
set_option linter.unusedVariables false
namespace Go.Proofs.YtoaagdbbbojpmaaGreatDoor
open Go Go.Mw
-- @U: rx,ro,slv_none,slv_some

attribute [go_sem] bne_self_eq_false Bool.false_eq_true
end Go.Proofs.YtoaagdbbbojpmaaGreatDoor
set_option linter.unusedSimpArgs false
set_option maxRecDepth 100000
set_option maxHeartbeats 4000000
set_option linter.unusedVariables false
namespace Go.Proofs.YtoaagdbbbojpmaaGreatDoor
open Go Go.Mw
-- @U: rx,ro,slv_none,slv_some

section
variable (b:List UInt8) (a:Nat) (e:Int) (ha:a ≤ b.length) (hb:b.length < 1000000000)
include ha hb
end
end Go.Proofs.YtoaagdbbbojpmaaGreatDoor
set_option linter.unusedSimpArgs false
set_option maxRecDepth 100000
set_option maxHeartbeats 4000000
set_option linter.unusedVariables false
namespace Go.Proofs.YtoaagdbbbojpmaaGreatDoor
open Go Go.Mw

theorem bytes_by:∀ l:List UInt8,bytesA (l.map by_) = some l
  | []=>rfl
  | b :: l=>by
    simp only [List.map_cons,by_,bytesA,bytes_by l,Option.map_some,Int.toNat_natCast,UInt8.ofNat_toNat]
end Go.Proofs.YtoaagdbbbojpmaaGreatDoor
set_option linter.unusedSimpArgs false
set_option maxRecDepth 100000
set_option maxHeartbeats 4000000
set_option linter.unusedVariables false
namespace Go.Proofs.YtoaagdbbbojpmaaGreatDoor
open Go Go.Mw

end Go.Proofs.YtoaagdbbbojpmaaGreatDoor
set_option linter.unusedSimpArgs false
set_option maxRecDepth 100000
set_option maxHeartbeats 4000000
set_option linter.unusedVariables false
namespace Go.Proofs.YtoaagdbbbojpmaaGreatDoor
open Go Go.Mw
-- @U: rx,ro,slv_none,slv_some

end Go.Proofs.YtoaagdbbbojpmaaGreatDoor
set_option linter.unusedSimpArgs false
set_option maxRecDepth 100000
set_option maxHeartbeats 4000000
set_option linter.unusedVariables false
namespace Go.Proofs.YtoaagdbbbojpmaaGreatDoor
open Go Go.Mw
-- @U: rx,ro,slv_none,slv_some

end Go.Proofs.YtoaagdbbbojpmaaGreatDoor
set_option linter.unusedSimpArgs false
set_option maxRecDepth 100000
set_option maxHeartbeats 4000000
set_option linter.unusedVariables false
set_option linter.unusedSectionVars false
namespace Go.Proofs.YtoaagdbbbojpmaaGreatDoor
open Go Go.Mw
-- @U: rx,ro,slv_none,slv_some

section
variable (n:Int) (b:List UInt8) (a:Nat) (e:Int) (b2:List UInt8) (a2:Nat) (e2:Int) (hn:-9223372036854775808 ≤ n ∧ n < 9223372036854775808) (ha:a ≤ b.length) (hb:b.length < 1000000000) (ha2:a2 ≤ b2.length) (hb2:b2.length < 1000000000)
include hn ha hb ha2 hb2
end
end Go.Proofs.YtoaagdbbbojpmaaGreatDoor
set_option linter.unusedSimpArgs false
set_option maxRecDepth 100000
set_option maxHeartbeats 4000000
set_option linter.unusedVariables false
namespace Go.Proofs.YtoaagdbbbojpmaaGreatDoor
open Go Go.Mw
-- @U: rx,ro,slv_none,slv_some

end Go.Proofs.YtoaagdbbbojpmaaGreatDoor
set_option linter.unusedSimpArgs false
set_option maxRecDepth 100000
set_option maxHeartbeats 4000000
set_option linter.unusedVariables false
namespace Go.Proofs.YtoaagdbbbojpmaaGreatDoor
open Go Go.Mw
-- @U: rx,ro,slv_none,slv_some

def act_ (x:Int × Int):List AV:=[.int .i64 x.1,.int .i64 x.2]
theorem act_e (x:Int × Int):act_ x = [.int .i64 x.1,.int .i64 x.2]:=rfl
attribute [go_sem] act_e
end Go.Proofs.YtoaagdbbbojpmaaGreatDoor
set_option linter.unusedSimpArgs false
set_option maxRecDepth 100000
set_option maxHeartbeats 4000000
set_option linter.unusedVariables false
namespace Go.Proofs.YtoaagdbbbojpmaaGreatDoor
open Go Go.Mw
-- @U: wo,wa,slv_none,slv_some

theorem i64_in (x:Int):inI (IntKind.i64.wrap x):=by unfold inI; rw [w_i64]; omega
section
variable (m:Bool) (l:List UInt8) (e:Int) (hl:l.length < 50000000000)
include hl
end
end Go.Proofs.YtoaagdbbbojpmaaGreatDoor
set_option linter.unusedSimpArgs false
set_option maxRecDepth 100000
set_option maxHeartbeats 4000000
set_option linter.unusedVariables false
set_option linter.unusedSectionVars false
namespace Go.Proofs.YtoaagdbbbojpmaaGreatDoor
open Go Go.Mw
-- @U: wx,slv_none,slv_some

section
variable (l:List UInt8) (e:Int) (hl:l.length < 45000000000)
include hl
end
end Go.Proofs.YtoaagdbbbojpmaaGreatDoor
set_option linter.unusedSimpArgs false
set_option maxRecDepth 100000
set_option linter.unusedVariables false
namespace Go.Proofs.YtoaagdbbbojpmaaGreatDoor
open Go Go.Mw

structure Nm where
  i:Int
  s:List UInt8
instance:Inhabited Nm:=⟨⟨0,[]⟩⟩
deriving instance DecidableEq for Nm
structure Lc where
  f:Int
  l:List Nm
instance:Inhabited Lc:=⟨⟨0,[]⟩⟩
deriving instance DecidableEq for Lc
structure Ns where
  m:List UInt8
  fs:List Nm
  ls:List Lc
instance:Inhabited Ns:=⟨⟨[],[],[]⟩⟩
deriving instance DecidableEq for Ns
def nm_ (n:Nm):List AV:=[.int .i64 n.i,.str n.s]
def lc_ (x:Lc):List AV:=[.int .i64 x.f,.sl 2 (x.l.map nm_)]
def nsC (x:Ns):List AV:=[.str x.m,.sl 2 (x.fs.map nm_),.sl 2 (x.ls.map lc_)]
def ns_ (x:Ns):AV:=.agg (nsC x)
theorem nm_e (n:Nm):nm_ n = [.int .i64 n.i,.str n.s]:=rfl
theorem lc_e (x:Lc):lc_ x = [.int .i64 x.f,.sl 2 (x.l.map nm_)]:=rfl
theorem ns_e (x:Ns):ns_ x = .agg [.str x.m,.sl 2 (x.fs.map nm_),.sl 2 (x.ls.map lc_)]:=rfl
attribute [go_sem] nm_e lc_e ns_e
def inR (i:Int):Bool:=decide (0 ≤ i) && decide (i < 4294967296)
/-! ### Finding -/
def fnd:List Nm → Int → List UInt8
  | [],_=>[]
  | n :: r,i=>if n.i = i then n.s else fnd r i
end Go.Proofs.YtoaagdbbbojpmaaGreatDoor
set_option linter.unusedSimpArgs false
set_option maxRecDepth 100000
set_option linter.unusedVariables false
namespace Go.Proofs.YtoaagdbbbojpmaaGreatDoor
open Go Go.Mw

theorem drop_c {α:Type} [Inhabited α] {l:List α} {i:Nat} (h:i < l.length):l.drop i = nth l i :: l.drop (i + 1):=by
  rw [nth_eq h,List.drop_eq_getElem_cons h]
theorem take_c {α:Type} [Inhabited α] {l:List α} {i:Nat} (h:i < l.length):l.take (i + 1) = l.take i ++ [nth l i]:=by rw [List.take_add_one,nth_some h,Option.toList_some]
theorem drop_end {α:Type} {l:List α} {i:Nat} (h:l.length ≤ i):l.drop i = []:=List.drop_eq_nil_of_le h
end Go.Proofs.YtoaagdbbbojpmaaGreatDoor
set_option maxRecDepth 100000
set_option maxHeartbeats 40000000
set_option linter.unusedVariables false
set_option linter.unusedSimpArgs false
namespace Go.Proofs.YtoaagdbbbojpmaaGreatDoor
open Go Go.Mw
-- @U: ins_e,vl_e,List.length_map

deriving instance DecidableEq for Ins,Ft,Lm,Gl,Im,Cd,Tb,Gd,Ex,El,Da,Cu,Md
theorem nth_eqI {a b:List Int} (hl:a.length = b.length) (h:∀ k,k < a.length → nth a k = nth b k):a = b:=by
  apply List.ext_getElem hl
  intro i h1 h2
  have:=h i h1
  rwa [nth_eq h1,nth_eq h2] at this
def sI (x y:Ins):Bool:=(x.op == y.op) && ((x.a == y.a) && ((x.b == y.b) && ((x.n == y.n) && (((x.k == y.k) && ((x.v == y.v) && (x.x == y.x))) && ((x.ty == y.ty) && (x.lb == y.lb))))))
theorem sI_eq (x y:Ins):sI x y = decide (x = y):=by
  obtain ⟨a1,a2,a3,a4,a5,a6,a7,a8,a9⟩:=x
  obtain ⟨b1,b2,b3,b4,b5,b6,b7,b8,b9⟩:=y
  unfold sI
  by_cases h1:a1 = b1 <;> by_cases h2:a2 = b2 <;> by_cases h3:a3 = b3 <;> by_cases h4:a4 = b4 <;> by_cases h5:a5 = b5 <;> by_cases h6:a6 = b6 <;> by_cases h7:a7 = b7 <;> by_cases h8:a8 = b8 <;> by_cases h9:a9 = b9 <;> simp [h1,h2,h3,h4,h5,h6,h7,h8,h9]
theorem i_bd {j n:Nat} (h:j < n) (hn:n ≤ 9223372036854775807):IntKind.i64.wrap ((j:Int) + 1) = (j:Int) + 1:=wi (by omega) (by omega)
theorem ext_nt {α:Type} [Inhabited α] {a b:List α} (hl:a.length = b.length) (h:∀ k,k < a.length → nth a k = nth b k):a = b:=by
  apply List.ext_getElem hl
  intro i h1 h2
  have:=h i h1
  rwa [nth_eq h1,nth_eq h2] at this
end Go.Proofs.YtoaagdbbbojpmaaGreatDoor
set_option maxRecDepth 100000
set_option maxHeartbeats 40000000
set_option linter.unusedVariables false
set_option linter.unusedSimpArgs false
namespace Go.Proofs.YtoaagdbbbojpmaaGreatDoor
open Go Go.Mw
-- @U: List.length_map,ftC_e,imC_e,cdC_e,tbC_e,lmC_e,gdC_e,exC_e,daC_e,cuC_e,ins_e,insC

theorem im_eq {x y:Im}:((x.m == y.m) && ((x.n == y.n) && ((x.k == y.k) && ((x.f == y.f) && ((x.te == y.te) && ((x.tl.mn == y.tl.mn) && ((x.tl.mx == y.tl.mx) && ((x.tl.hs == y.tl.hs) && ((x.me.mn == y.me.mn) && ((x.me.mx == y.me.mx) && ((x.me.hs == y.me.hs) && ((x.g.v == y.g.v) && (x.g.mu == y.g.mu))))))))))))) = decide (x = y):=by
  obtain ⟨a1,a2,a3,a4,a5,⟨a6,a7,a8⟩,⟨a9,a10,a11⟩,⟨a12,a13⟩⟩:=x
  obtain ⟨b1,b2,b3,b4,b5,⟨b6,b7,b8⟩,⟨b9,b10,b11⟩,⟨b12,b13⟩⟩:=y
  rw [Bool.eq_iff_iff]
  simp only [Bool.and_eq_true,beq_iff_eq,decide_eq_true_eq,Im.mk.injEq,Lm.mk.injEq,Gl.mk.injEq,and_assoc]
theorem lm_eq {x y:Lm}:((x.mn == y.mn) && ((x.mx == y.mx) && (x.hs == y.hs))) = decide (x = y):=by
  obtain ⟨a1,a2,a3⟩:=x
  obtain ⟨b1,b2,b3⟩:=y
  rw [Bool.eq_iff_iff]
  simp only [Bool.and_eq_true,beq_iff_eq,decide_eq_true_eq,Lm.mk.injEq,and_assoc]
theorem tb_eq {x y:Tb}:((x.e == y.e) && ((x.l.mn == y.l.mn) && ((x.l.mx == y.l.mx) && (x.l.hs == y.l.hs)))) = decide (x = y):=by
  obtain ⟨a1,⟨a2,a3,a4⟩⟩:=x
  obtain ⟨b1,⟨b2,b3,b4⟩⟩:=y
  rw [Bool.eq_iff_iff]
  simp only [Bool.and_eq_true,beq_iff_eq,decide_eq_true_eq,Tb.mk.injEq,Lm.mk.injEq,and_assoc]
theorem ex_eq {x y:Ex}:((x.n == y.n) && ((x.k == y.k) && (x.i == y.i))) = decide (x = y):=by
  obtain ⟨a1,a2,a3⟩:=x
  obtain ⟨b1,b2,b3⟩:=y
  rw [Bool.eq_iff_iff]
  simp only [Bool.and_eq_true,beq_iff_eq,decide_eq_true_eq,Ex.mk.injEq,and_assoc]
theorem gl_eq {x y:Gl}:((x.v == y.v) && (x.mu == y.mu)) = decide (x = y):=by
  obtain ⟨a1,a2⟩:=x
  obtain ⟨b1,b2⟩:=y
  rw [Bool.eq_iff_iff]
  simp only [Bool.and_eq_true,beq_iff_eq,decide_eq_true_eq,Gl.mk.injEq]
end Go.Proofs.YtoaagdbbbojpmaaGreatDoor
set_option maxRecDepth 100000
set_option maxHeartbeats 40000000
set_option linter.unusedVariables false
set_option linter.unusedSimpArgs false
namespace Go.Proofs.YtoaagdbbbojpmaaGreatDoor
open Go Go.Mw
-- @U: List.length_map,ftC_e,imC_e,cdC_e,tbC_e,lmC_e,gdC_e,exC_e,daC_e,cuC_e,insC

theorem bsf {x y:List UInt8} (h:x = y):(x == y) = true:=by simpa using h
theorem bst {x y:List UInt8} (h:¬ x = y):(x == y) = false:=by simpa using h
end Go.Proofs.YtoaagdbbbojpmaaGreatDoor
set_option maxRecDepth 100000
set_option maxHeartbeats 40000000
set_option linter.unusedVariables false
set_option linter.unusedSimpArgs false
namespace Go.Proofs.YtoaagdbbbojpmaaGreatDoor
open Go Go.Mw
-- @U: List.length_map,ftC_e,imC_e,cdC_e,tbC_e,lmC_e,gdC_e,exC_e,daC_e,cuC_e,elC_e,inL_e,insC

end Go.Proofs.YtoaagdbbbojpmaaGreatDoor
set_option linter.unusedSimpArgs false
set_option maxRecDepth 100000
set_option linter.unusedVariables false
namespace Go.Proofs.YtoaagdbbbojpmaaGreatDoor
open Go Go.Mw

end Go.Proofs.YtoaagdbbbojpmaaGreatDoor
set_option maxRecDepth 100000
set_option maxHeartbeats 40000000
set_option linter.unusedVariables false
set_option linter.unusedSimpArgs false
namespace Go.Proofs.YtoaagdbbbojpmaaGreatDoor
open Go Go.Mw
-- @U: List.length_map,ftC_e,lmC_e,tbC_e

/-! ### Plain -/
def nuB (t:Int):Bool:=(t == 1) || (t == 2)
def rfB (t:Int):Bool:=(t == 3) || (t == 4)
def vlB (t:Int):Bool:=nuB t || rfB t
def lmB (l:Lm) (most:Int):Bool:=if l.mn < 0 ∨ l.mn > most then false else if l.hs = false then l.mx == 0 else decide (l.mn ≤ l.mx) && decide (l.mx ≤ most)
def vlsB (l:List Int):Bool:=l.all vlB
def nmE (s:List UInt8):Int:=if s.length > 64 then 6 else if uv s = false then 9 else 0
def fnE (x:Ft):Int:=if x.ps.length > 8 ∨ x.rs.length > 8 then 6 else if vlsB x.ps = false ∨ vlsB x.rs = false then 12 else 0
def tbE (x:Tb):Int:=if rfB x.e = false then 12 else if lmB x.l 1024 = false then 20 else 0
def mmE (l:Lm):Int:=if lmB l 256 = false then 20 else 0
def glE (g:Gl):Int:=if vlB g.v = false then 12 else 0
def rowF (P:Ins → Bool):Nat → List Ins → Int × Int
  | _,[]=>(0,0)
  | i,x :: r=>if P x = false then ((i:Int),10) else if x.lb.length > 64 then ((i:Int),6) else rowF P (i + 1) r
def rowE (P:Ins → Bool) (l:List Ins):Int × Int:=if l.length > 2048 then (2048,6) else rowF P 0 l

attribute [local go_sem] List.length_map ftC_e lmC_e tbC_e
/-! ### Walks -/
theorem m_num (t:Int):PCalls Tryz.prog nX118 [.int .i64 t] (.bool (nuB t)):=by
  refine pfun_sound (ic:=FX118.body) mixed cX118 rfl rfl ?_
  unfold nuB
  cases h:(t == 1)
  · simp only [go_sem,FX118,h]
    exact pdone [] (by simp only [go_sem,Bool.false_or]) (by first | rfl | simp [go_sem,slv_ids])
  · simp only [go_sem,FX118,h]
    exact pdone [] (by simp only [go_sem,Bool.true_or]) (by first | rfl | simp [go_sem,slv_ids])
theorem m_ref (t:Int):PCalls Tryz.prog nX119 [.int .i64 t] (.bool (rfB t)):=by
  refine pfun_sound (ic:=FX119.body) mixed cX119 rfl rfl ?_
  unfold rfB
  cases h:(t == 3)
  · simp only [go_sem,FX119,h]
    exact pdone [] (by simp only [go_sem,Bool.false_or]) (by first | rfl | simp [go_sem,slv_ids])
  · simp only [go_sem,FX119,h]
    exact pdone [] (by simp only [go_sem,Bool.true_or]) (by first | rfl | simp [go_sem,slv_ids])
theorem m_val (t:Int):PCalls Tryz.prog nX120 [.int .i64 t] (.bool (vlB t)):=by
  refine pfun_sound (ic:=FX120.body) mixed cX120 rfl rfl ?_
  have c1:=m_num t
  have c2:=m_ref t
  unfold vlB
  simp only [go_sem,FX120]
  refine call_same (c1) (by simp [go_sem]) ?_
  cases nuB t
  · simp only [go_sem]
    refine call_same (c2) (by simp [go_sem]) ?_
    simp only [go_sem]
    exact pdone [] (by simp only [go_sem,Bool.false_or]) (by first | rfl | simp [go_sem,slv_ids])
  · simp only [go_sem]
    exact pdone [] (by simp only [go_sem,Bool.true_or]) (by first | rfl | simp [go_sem,slv_ids])
theorem m_vals1 (t:Int):PCalls Tryz.prog nX98 [.int .i64 t] (.bool (!vlB t)):=by
  refine pfun_sound (ic:=FX98.body) mixed cX98 rfl rfl ?_
  simp only [go_sem,FX98]
  refine call_same (m_val t) (by simp [go_sem]) ?_
  simp only [go_sem]
  exact pdone [] (by simp only [go_sem]) (by first | rfl | simp [go_sem,slv_ids])
theorem m_ixf (l:List Int) (hl:l.length ≤ 9223372036854775807):∃ r:Int,PCalls Tryz.prog nX5 [.sl 1 (l.map vl_),.fn nX98 []] (.int .i64 r) ∧ (vlsB l = true → r = -1) ∧ (vlsB l = false → 0 ≤ r):=by
  have key:∀ r:Int,(∀ i:Nat,i ≤ l.length → (∀ k,k < i → vlB (nth l k) = true) → (i < l.length → vlB (nth l i) = false → r = i) ∧ (i = l.length → r = -1)) → PCalls Tryz.prog nX5 [.sl 1 (l.map vl_),.fn nX98 []] (.int .i64 r):=fun r hr=>by
    refine pfun_sound (ic:=FX5.body) mixed cX5 rfl rfl ?_
    simp only [go_sem,FX5]
    refine loop_rule (fun j:Nat=>⟨[(8,.int .i64 j),(7,.int .i64 l.length),(0,.sl 1 (l.map vl_)),(1,.fn nX98 [])],[]⟩) (fun j=>j ≤ l.length ∧ ∀ k,k < j → vlB (nth l k) = true) (fun j=>l.length - j) 0 ⟨Nat.zero_le _,fun k hk=>by omega⟩ (Wk.of ?_ ?_) ?_
    · simp only [go_sem]; try simp
    · simp only [go_sem]
    rintro j ⟨hj,hx⟩
    obtain ⟨r1,r2⟩:=hr j hj hx
    by_cases h1:(j:Int) < (l.length:Int)
    · have hj':j < l.length:=by omega
      have e8:=i_bd hj' (by omega)
      have cc:=m_vals1 (nth l j)
      cases hb:vlB (nth l j)
      · rw [hb] at cc
        rw [r1 hj' hb]
        simp only [go_sem,decide_eq_true h1]
        refine ⟨by omega,h1,?_⟩
        refine ⟨by kernel_rfl,?_⟩
        refine call_same (cc) (by simp [go_sem]) ?_
        simp only [go_sem]
        exact pdone [] (by simp only [go_sem]) (by first | rfl | simp [go_sem,slv_ids])
      · rw [hb] at cc
        simp only [go_sem,decide_eq_true h1]
        refine ⟨by omega,h1,?_⟩
        refine ⟨by kernel_rfl,?_⟩
        refine call_same (cc) (by simp [go_sem]) ?_
        simp only [go_sem]
        refine klp_n (j + 1) ⟨show j + 1 ≤ l.length by omega,fun k hk=>?_⟩ (show l.length - (j + 1) < l.length - j by omega) (Wk.of ?_ ?_)
        · rcases Nat.lt_or_ge k j with h | h
          · exact hx k h
          · rw [show k = j by omega]; exact hb
        · simp only [go_sem,e8]; try simp
        · simp only [go_sem]
    · rw [r2 (by omega)]
      simp only [go_sem,decide_eq_false h1]
      exact pdone [] (by simp only [go_sem]) (by first | rfl | simp [go_sem,slv_ids])
  have fnd:(∀ k,k < l.length → vlB (nth l k) = true) ∨ ∃ j,j < l.length ∧ vlB (nth l j) = false ∧ ∀ k,k < j → vlB (nth l k) = true:=by
    have aux:∀ n,n ≤ l.length → (∀ k,k < n → vlB (nth l k) = true) ∨ ∃ j,j < l.length ∧ vlB (nth l j) = false ∧ ∀ k,k < j → vlB (nth l k) = true:=fun n=>by
      induction n with
      | zero=>exact fun _=>.inl fun k hk=>by omega
      | succ n ih =>
        intro hn
        rcases ih (by omega) with h | h
        · cases hb:vlB (nth l n)
          · exact .inr ⟨n,by omega,hb,h⟩
          · refine .inl fun k hk=>?_
            rcases Nat.lt_or_ge k n with q | q
            · exact h k q
            · rw [show k = n by omega]; exact hb
        · exact .inr h
    exact aux l.length (Nat.le_refl _)
  have all_t:(∀ k,k < l.length → vlB (nth l k) = true) → vlsB l = true:=fun h=>by
    unfold vlsB
    rw [List.all_eq_true]
    intro x hx
    obtain ⟨i,hi,rfl⟩:=List.getElem_of_mem hx
    have:=h i hi
    rwa [nth_eq hi] at this
  rcases fnd with h | ⟨j,hj,hb,h⟩
  · refine ⟨-1,key (-1) fun i hi hk=>⟨fun q qb=>?_,fun _=>rfl⟩,fun _=>rfl,fun q=>?_⟩
    · rw [h i q] at qb; cases qb
    · rw [all_t h] at q; cases q
  · refine ⟨(j:Int),key (j:Int) fun i hi hk=>⟨fun q qb=>?_,fun q=>?_⟩,fun q=>?_,fun _=>by omega⟩
    · rcases Nat.lt_or_ge i j with z | z
      · rw [h i z] at qb; cases qb
      · rcases Nat.lt_or_ge j i with z2 | z2
        · rw [hk j z2] at hb; cases hb
        · rw [show i = j by omega]
    · rw [hk j (by omega)] at hb; cases hb
    · unfold vlsB at q
      rw [List.all_eq_true] at q
      have:=q _ (List.getElem_mem hj)
      rw [nth_eq hj] at hb
      rw [hb] at this; cases this
theorem m_cont (l:List Int) (hl:l.length ≤ 9223372036854775807):PCalls Tryz.prog nX0 [.sl 1 (l.map vl_),.fn nX98 []] (.bool (!vlsB l)):=by
  obtain ⟨r,hr,h1,h2⟩:=m_ixf l hl
  refine pfun_sound (ic:=FX0.body) mixed cX0 rfl rfl ?_
  cases hb:vlsB l
  · simp only [go_sem,FX0]
    refine call_same (hr) (by simp [go_sem]) ?_
    simp only [go_sem,decide_eq_true (show r ≥ 0 from h2 hb)]
    exact pdone [] (by simp only [go_sem,Bool.not_false]) (by first | rfl | simp [go_sem,slv_ids])
  · simp only [go_sem,FX0]
    refine call_same (hr) (by simp [go_sem]) ?_
    simp only [go_sem,decide_eq_false (show ¬ r ≥ 0 by rw [h1 hb]; decide)]
    exact pdone [] (by simp only [go_sem,Bool.not_true]) (by first | rfl | simp [go_sem,slv_ids])
theorem m_valsL (l:List Int) (hl:l.length ≤ 9223372036854775807):PCalls Tryz.prog nX116 [.sl 1 (l.map vl_)] (.bool (vlsB l)):=by
  refine pfun_sound (ic:=FX116.body) mixed cX116 rfl rfl ?_
  simp only [go_sem,FX116]
  refine call_same (m_cont l hl) (by simp [go_sem]) ?_
  simp only [go_sem,Bool.not_not]
  exact pdone [] (by simp only [go_sem]) (by first | rfl | simp [go_sem,slv_ids])
theorem m_index (i:Int):PCalls Tryz.prog nX103 [.int .i64 i] (.bool (inR i)):=by
  refine pfun_sound (ic:=FX103.body) mixed cX103 rfl rfl ?_
  unfold inR
  by_cases h:(0:Int) ≤ i
  · simp only [go_sem,FX103,decide_eq_true (show i ≥ 0 from h)]
    exact pdone [] (by simp only [go_sem,decide_eq_true h,Bool.true_and]) (by first | rfl | simp [go_sem,slv_ids])
  · simp only [go_sem,FX103,decide_eq_false (show ¬ i ≥ 0 from h)]
    exact pdone [] (by simp only [go_sem,decide_eq_false h,Bool.false_and]) (by first | rfl | simp [go_sem,slv_ids])
theorem m_fun (x:Ft) (h:smF x):PCalls Tryz.prog nX68 [.agg (ftC x)] (.int .i64 (fnE x)):=by
  refine pfun_sound (ic:=FX68.body) mixed cX68 rfl rfl ?_
  have c1:=m_valsL x.ps (by have:=h.1; omega)
  have c2:=m_valsL x.rs (by have:=h.2; omega)
  unfold fnE
  by_cases q1:(x.ps.length:Int) > 8
  · rw [if_pos (.inl (by omega))]
    simp only [go_sem,FX68,decide_eq_true q1]
    exact pdone [] (by simp only [go_sem]) (by first | rfl | simp [go_sem,slv_ids])
  by_cases q2:(x.rs.length:Int) > 8
  · rw [if_pos (.inr (by omega))]
    simp only [go_sem,FX68,decide_eq_false q1,decide_eq_true q2]
    exact pdone [] (by simp only [go_sem]) (by first | rfl | simp [go_sem,slv_ids])
  rw [if_neg (by omega)]
  simp only [go_sem,FX68,decide_eq_false q1,decide_eq_false q2]
  refine call_same (c1) (by simp [go_sem]) ?_
  cases vlsB x.ps
  · simp only [go_sem]
    exact pdone [] (by simp only [go_sem]; try rfl) (by rfl)
  simp only [go_sem]
  refine call_same (c2) (by simp [go_sem]) ?_
  cases vlsB x.rs
  · simp only [go_sem]
    exact pdone [] (by simp only [go_sem]; try rfl) (by rfl)
  · simp only [go_sem]
    exact pdone [] (by simp only [go_sem]; try rfl) (by rfl)
end Go.Proofs.YtoaagdbbbojpmaaGreatDoor
