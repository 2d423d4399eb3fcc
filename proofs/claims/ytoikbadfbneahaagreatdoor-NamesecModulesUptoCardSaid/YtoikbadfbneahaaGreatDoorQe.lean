/-
  The tables of unicode/utf8 that the program finds laid.
-/
import Derived.Test.YtoikbadfbneahaaGreatDoorQc
import Derived.Test.YtoikbadfbneahaaGreatDoorQi
import Derived.Shelf.Unicode.DecodeSlow
set_option linter.unusedVariables false
set_option linter.unusedSimpArgs false
set_option linter.unusedSectionVars false
set_option linter.unusedVariables false
namespace Go.Proofs.YtoikbadfbneahaaGreatDoor
open Go Go.Mw

def tab0:List AV:=(List.range 256).map fun c=>.int .u8 (Lib.firstT c)
def tab1:List AV:=(List.range 32).map fun i=>.int .u8 (if i % 2 = 0 then Lib.accLo (i / 2) else Lib.accHi (i / 2))

theorem cell_some {w:World} {b off:Nat} {v:Value} (h:w.cell? ⟨b,off,none⟩ = some v):∃ c t fr,w.heap[b]? = some (.cells c t fr) ∧ c[off]? = some v:=by
  unfold World.cell? at h
  simp only at h
  split at h
  · rename_i c t fr hb
    exact ⟨c,t,fr,hb,h⟩
  · cases h

theorem ip_of_cells {w:World} {M:Nat → Prop} {b n:Nat} {f:Nat → Int} (hn:0 < n) (h:∀ j,j < n → w.cell? ⟨b,j,none⟩ = some (.int .u8 (f j))) (hM:¬ M b) :
    IRel M w (.pointer (some ⟨b,0,none⟩)) (.ip ((List.range n).map fun j=>.int .u8 (f j))):=by
  obtain ⟨c,t,fr,hb,_⟩:=cell_some (h 0 hn)
  refine .ip b 0 c t fr _ (fun j=>.int .u8 (f j)) hb hM (fun j hj=>?_) (fun j x hx=>?_)
  · simp at hj
    obtain ⟨c',t',fr',hb',hc⟩:=cell_some (h j hj)
    rw [hb] at hb'
    cases hb'
    simpa using hc
  · simp only [List.getElem?_map,Option.map_eq_some_iff,List.getElem?_range] at hx
    obtain ⟨q,hq,rfl⟩:=hx
    rw [List.getElem?_range] at hq
    cases hq
    exact .int _ _
    have:=(List.getElem?_eq_some_iff.1 hq).1
    simpa using this

noncomputable def tabs:TabT where
  B b:=b = 0 ∨ b = 1
  H w:=Lib.Utf8Tabs 0 1 w
  env:=[(1000000,.ip tab0),(1000001,.ip tab1)]
  rel w M h hM p hp:=by
    simp only [List.mem_cons,List.not_mem_nil,or_false] at hp
    rcases hp with rfl | rfl
    · exact ⟨by decide,ip_of_cells (by decide) (fun j hj=>h.1 j hj) (hM 0 (.inl rfl))⟩
    · refine ⟨by decide,ip_of_cells (by decide) (fun j hj=>?_) (hM 1 (.inr rfl))⟩
      obtain ⟨h1,h2⟩:=h.2 (j / 2) (by omega)
      by_cases h0:j % 2 = 0
      · rw [if_pos h0]
        rw [show 2 * (j / 2) = j by omega] at h1
        exact h1
      · rw [if_neg h0]
        rw [show 2 * (j / 2) + 1 = j by omega] at h2
        exact h2
  stay w w' h hk:=by
    have key:∀ {b off:Nat} {v:Value},(b = 0 ∨ b = 1) → w.cell? ⟨b,off,none⟩ = some v → w'.cell? ⟨b,off,none⟩ = some v:=fun {b off v} hb hc=>by
      rw [World.cell?_of_block (w:=w) (hk b hb)]
      exact hc
    exact ⟨fun c hc=>key (.inl rfl) (h.1 c hc),fun i hi=>⟨key (.inr rfl) (h.2 i hi).1,key (.inr rfl) (h.2 i hi).2⟩⟩
  low w h b hb:=by
    have key:∀ {b off:Nat} {v:Value},w.cell? ⟨b,off,none⟩ = some v → b < w.heap.size:=fun {b off v} hc=>by
      obtain ⟨c,t,fr,h1,_⟩:=cell_some hc
      exact (Array.getElem?_eq_some_iff.1 h1).1
    rcases hb with rfl | rfl
    · exact key (h.1 0 (by decide))
    · exact key (h.2 0 (by decide)).1

noncomputable instance:Tabs Tryz.prog:=⟨tabs⟩
end Go.Proofs.YtoikbadfbneahaaGreatDoor
set_option linter.unusedVariables false
namespace Go.Proofs.YtoikbadfbneahaaGreatDoor
open Go Go.Mw

def by_ (b:UInt8):List AV:=[.int .u8 b.toNat]
theorem by_e (b:UInt8):by_ b = [.int .u8 b.toNat]:=rfl
attribute [go_sem] by_e
def lst (b:List UInt8):Nat → Nat → Int × Nat
  | 0,_=>(4,0)
  | f + 1,i=>if i ≥ b.length then (3,0) else if 128 ≤ (nth b i).toNat then lst b f (i + 1) else (0,i)
def mst (bits:Nat):Nat:=(bits + 6) / 7
def lstE (b:List UInt8) (bits:Nat):Int:=(lst b (mst bits) 0).1
def lstI (b:List UInt8) (bits:Nat):Nat:=(lst b (mst bits) 0).2
def cnt (bits i:Nat):Nat:=if i + 1 = mst bits then bits - 7 * i else 7
def val7:List UInt8 → Nat
  | []=>0
  | b :: r=>b.toNat % 128 + 128 * val7 r
theorem lst_spec (b:List UInt8):∀ f i,i ≤ b.length → ((lst b f i).1 = 0 ∧ (lst b f i).2 < b.length ∧ i ≤ (lst b f i).2 ∧ (lst b f i).2 < i + f ∧ (nth b (lst b f i).2).toNat < 128) ∨ ((lst b f i).1 = 3 ∨ (lst b f i).1 = 4) ∧ (lst b f i).2 = 0
  | 0,i,_=>.inr ⟨.inr rfl,rfl⟩
  | f + 1,i,hi=>by
    simp only [lst]
    by_cases h1:i ≥ b.length
    · rw [if_pos h1]; exact .inr ⟨.inl rfl,rfl⟩
    · rw [if_neg h1]
      by_cases h2:128 ≤ (nth b i).toNat
      · rw [if_pos h2]
        rcases lst_spec b f (i + 1) (by omega) with ⟨g1,g2,g3,g4,g5⟩ | h
        · exact .inl ⟨g1,g2,by omega,by omega,g5⟩
        · exact .inr h
      · rw [if_neg h2]; exact .inl ⟨rfl,by simp; omega,by simp,by simp,by simp; omega⟩
theorem lst_cases (b:List UInt8) (bits:Nat):(lstE b bits = 0 ∧ lstI b bits < b.length ∧ lstI b bits < mst bits ∧ (nth b (lstI b bits)).toNat < 128) ∨ (lstE b bits = 3 ∨ lstE b bits = 4) ∧ lstI b bits = 0:=by
  rcases lst_spec b (mst bits) 0 (Nat.zero_le _) with ⟨g1,g2,g3,g4,g5⟩ | h
  · exact .inl ⟨g1,g2,by rw [Nat.zero_add] at g4; exact g4,g5⟩
  · exact .inr h
end Go.Proofs.YtoikbadfbneahaaGreatDoor
set_option linter.unusedVariables false
namespace Go.Proofs.YtoikbadfbneahaaGreatDoor
open Go Go.Mw

theorem w_u8 (n:Int):IntKind.u8.wrap n = n % 256:=by simp [IntKind.wrap,IntKind.bits,IntKind.signed]
theorem w_u64 (n:Int):IntKind.u64.wrap n = n % 18446744073709551616:=by simp [IntKind.wrap,IntKind.bits,IntKind.signed]
theorem w_i64 (n:Int):IntKind.i64.wrap n = (n + 9223372036854775808) % 18446744073709551616 - 9223372036854775808:=by
  simp [IntKind.wrap,IntKind.bits,IntKind.signed]
  split <;> omega
theorem bv_nat (k:Nat) (a:Nat):BitVec.ofInt k (a:Int) = BitVec.ofNat k a:=BitVec.ofInt_natCast k a
theorem or_nat {k a b:Nat} (ha:a < 2 ^ k) (hb:b < 2 ^ k):(BitVec.ofInt k (a:Int) ||| BitVec.ofInt k (b:Int)).toNat = a ||| b:=by
  rw [bv_nat,bv_nat,BitVec.toNat_or,BitVec.toNat_ofNat,BitVec.toNat_ofNat,Nat.mod_eq_of_lt ha,Nat.mod_eq_of_lt hb]
theorem and_nat {k a b:Nat} (ha:a < 2 ^ k) (hb:b < 2 ^ k):(BitVec.ofInt k (a:Int) &&& BitVec.ofInt k (b:Int)).toNat = a &&& b:=by
  rw [bv_nat,bv_nat,BitVec.toNat_and,BitVec.toNat_ofNat,BitVec.toNat_ofNat,Nat.mod_eq_of_lt ha,Nat.mod_eq_of_lt hb]

theorem and127 {x:Nat} (hx:x < 256):b_and .u8 (x:Int) 127 = ((x % 128:Nat):Int):=by
  have:(BitVec.ofInt 8 (x:Int) &&& BitVec.ofInt 8 ((127:Nat):Int)).toNat = x &&& 127:=and_nat hx (by decide)
  show IntKind.u8.wrap ((BitVec.ofInt 8 (x:Int) &&& BitVec.ofInt 8 ((127:Nat):Int)).toNat) = _
  rw [this,show (127:Nat) = 2 ^ 7 - 1 from rfl,Nat.and_two_pow_sub_one_eq_mod,w_u8]
  omega
set_option maxRecDepth 100000 in
theorem or128n {x:Nat} (hx:x < 256):x ||| 128 = x % 128 + 128:=by
  have key:∀ y:Fin 256,y.val ||| 128 = y.val % 128 + 128:=by decide
  exact key ⟨x,hx⟩
theorem or128 {x:Nat} (hx:x < 256):b_or .u8 (x:Int) 128 = ((x % 128 + 128:Nat):Int):=by
  have:(BitVec.ofInt 8 (x:Int) ||| BitVec.ofInt 8 ((128:Nat):Int)).toNat = x ||| 128:=or_nat hx (by decide)
  show IntKind.u8.wrap ((BitVec.ofInt 8 (x:Int) ||| BitVec.ofInt 8 ((128:Nat):Int)).toNat) = _
  rw [this,or128n hx,w_u8]
  omega
theorem shl64 {y s:Nat} (hs:s < 64):b_shl .u64 (y:Int) (s:Int) = ((y * 2 ^ s % 18446744073709551616:Nat):Int):=by
  unfold b_shl
  rw [Int.toNat_natCast,show min s IntKind.u64.bits = s from Nat.min_eq_left (by show s ≤ 64; omega),w_u64,Int.natCast_emod (_ * _),Int.natCast_mul,Int.natCast_pow]
  rfl
theorem or_shift {n y s:Nat} (hs:s < 64) (hn:n < 2 ^ s):b_or .u64 (n:Int) (((y * 2 ^ s) % 18446744073709551616:Nat):Int) = (((n + y * 2 ^ s) % 18446744073709551616:Nat):Int):=by
  have hp:2 ^ s ≤ 2 ^ 63:=Nat.pow_le_pow_right (by decide) (by omega)
  have e64:18446744073709551616 = 2 ^ s * 2 ^ (64 - s):=by rw [← Nat.pow_add,show s + (64 - s) = 64 by omega]
  have hm:(y * 2 ^ s) % 18446744073709551616 = 2 ^ s * (y % 2 ^ (64 - s)):=by rw [e64,Nat.mul_comm y,Nat.mul_mod_mul_left]
  have hlt:y % 2 ^ (64 - s) < 2 ^ (64 - s):=Nat.mod_lt _ (Nat.two_pow_pos _)
  have hsum:2 ^ s * (y % 2 ^ (64 - s)) + n < 18446744073709551616:=by
    rw [e64]
    have h1:2 ^ s * (y % 2 ^ (64 - s) + 1) ≤ 2 ^ s * 2 ^ (64 - s):=Nat.mul_le_mul_left _ hlt
    rw [Nat.mul_add,Nat.mul_one] at h1
    omega
  have h1:(BitVec.ofInt 64 (n:Int) ||| BitVec.ofInt 64 (((y * 2 ^ s) % 18446744073709551616:Nat):Int)).toNat = n ||| ((y * 2 ^ s) % 18446744073709551616) :=
    or_nat (by omega) (Nat.mod_lt _ (by decide))
  show IntKind.u64.wrap ((BitVec.ofInt 64 (n:Int) ||| BitVec.ofInt 64 (((y * 2 ^ s) % 18446744073709551616:Nat):Int)).toNat) = _
  rw [h1,hm,Nat.or_comm,← Nat.two_pow_add_eq_or_of_lt hn,w_u64]
  have h2:(n + y * 2 ^ s) % 18446744073709551616 = 2 ^ s * (y % 2 ^ (64 - s)) + n:=by
    rw [Nat.add_mod,hm,Nat.mod_eq_of_lt (show n < 18446744073709551616 by omega),Nat.mod_eq_of_lt (by omega)]
    omega
  rw [h2]
  omega

theorem val7_app (l m:List UInt8):val7 (l ++ m) = val7 l + 128 ^ l.length * val7 m:=by
  induction l with
  | nil=>simp [val7]
  | cons b l ih =>
    simp only [List.cons_append,val7,ih,List.length_cons,Nat.pow_succ,Nat.mul_add]
    rw [Nat.mul_comm (128 ^ l.length) 128,Nat.mul_assoc]
    omega
theorem val7_lt (l:List UInt8):val7 l < 128 ^ l.length:=by
  induction l with
  | nil=>simp [val7]
  | cons b l ih =>
    simp only [val7,List.length_cons,Nat.pow_succ]
    have:=Nat.mod_lt b.toNat (show 128 > 0 by decide)
    omega
theorem val7_take {b:List UInt8} {i:Nat} (h:i < b.length):val7 (b.take (i + 1)) = val7 (b.take i) + (nth b i).toNat % 128 * 2 ^ (7 * i):=by
  rw [List.take_add_one,nth_some h,Option.toList_some,val7_app]
  simp only [val7,Nat.mul_zero,Nat.add_zero,List.length_take,Nat.min_eq_left (Nat.le_of_lt h)]
  rw [show (128:Nat) = 2 ^ 7 from rfl,← Nat.pow_mul,Nat.mul_comm (2 ^ (7 * i))]
theorem val7_take_lt {b:List UInt8} {i:Nat} (h:i ≤ b.length):val7 (b.take i) < 2 ^ (7 * i):=by
  have:=val7_lt (b.take i)
  rw [List.length_take,Nat.min_eq_left h,show (128:Nat) = 2 ^ 7 from rfl,← Nat.pow_mul] at this
  exact this
end Go.Proofs.YtoikbadfbneahaaGreatDoor
set_option linter.unusedVariables false
namespace Go.Proofs.YtoikbadfbneahaaGreatDoor
open Go Go.Mw

theorem shr_nat (k:IntKind) {x s:Nat} (hs:s ≤ k.bits):b_shr k (x:Int) (s:Int) = ((x / 2 ^ s:Nat):Int):=by
  unfold b_shr
  rw [Int.toNat_natCast,Nat.min_eq_left hs,Int.fdiv_eq_ediv_of_nonneg _ (by exact Int.le_of_lt (Int.pow_pos (by decide)))]
  rw [Int.natCast_ediv,Int.natCast_pow]
  rfl
set_option maxRecDepth 100000 in
def decU (b:List UInt8) (bits:Nat):Nat × Nat × Int :=
  if lstE b bits ≠ 0 then (0,0,lstE b bits) else
  if (nth b (lstI b bits)).toNat / 2 ^ cnt bits (lstI b bits) ≠ 0 then (0,0,4) else
  (val7 (b.take (lstI b bits + 1)) % 18446744073709551616,lstI b bits + 1,0)
theorem cnt_le {bits i:Nat} (h:1 ≤ bits ∧ bits ≤ 64) (hi:i < mst bits):1 ≤ cnt bits i ∧ cnt bits i ≤ 7:=by
  unfold cnt mst at *
  split <;> omega
theorem mst_le {bits:Nat} (h:1 ≤ bits ∧ bits ≤ 64):mst bits ≤ 10:=by unfold mst; omega
end Go.Proofs.YtoikbadfbneahaaGreatDoor
set_option linter.unusedVariables false
namespace Go.Proofs.YtoikbadfbneahaaGreatDoor
open Go Go.Mw

def putU (n:Nat):List UInt8:=if n < 128 then [UInt8.ofNat n] else UInt8.ofNat (n % 128 + 128) :: putU (n / 128)
termination_by n
decreasing_by omega
theorem putU_lo {n:Nat} (h:n < 128):putU n = [UInt8.ofNat n]:=by rw [putU,if_pos h]
theorem putU_hi {n:Nat} (h:¬ n < 128):putU n = UInt8.ofNat (n % 128 + 128) :: putU (n / 128):=by rw [putU,if_neg h]
theorem ofNat_toNat {n:Nat} (h:n < 256):(UInt8.ofNat n).toNat = n:=by simp [UInt8.toNat_ofNat',Nat.mod_eq_of_lt h]
theorem by_of {n:Nat} (h:n < 256):by_ (UInt8.ofNat n) = [.int .u8 n]:=by rw [by_e,ofNat_toNat h]
theorem putU_len {k:Nat}:∀ {n:Nat},n < 128 ^ (k + 1) → (putU n).length ≤ k + 1:=by
  induction k with
  | zero=>intro n h; rw [putU_lo (by simpa using h)]; simp
  | succ k ih =>
    intro n h
    by_cases h1:n < 128
    · rw [putU_lo h1]; simp
    · rw [putU_hi h1]
      have:=ih (n:=n / 128) (by rw [Nat.pow_succ] at h; omega)
      simp; omega
end Go.Proofs.YtoikbadfbneahaaGreatDoor
set_option linter.unusedSimpArgs false
set_option maxRecDepth 100000
set_option maxHeartbeats 4000000
set_option linter.unusedVariables false
namespace Go.Proofs.YtoikbadfbneahaaGreatDoor
open Go Go.Mw

theorem s_sum (b:List UInt8) (at_:Nat) (h:at_ < b.length) (h9:at_ ≤ 9):PCalls Tryz.prog nX137 [.sl 1 (b.map by_),.int .i64 at_] (.int .u64 ((val7 (b.take (at_ + 1)) % 18446744073709551616:Nat):Int)):=by
  refine pfun_sound (ic:=FX137.body) mixed cX137 rfl rfl ?_
  simp only [FX137,go_sem]
  refine loop_rule (fun i:Nat=>⟨[(9,.int .i64 i),(8,.int .i64 (at_ + 1)),(5,.int .u64 ((val7 (b.take i) % 18446744073709551616:Nat):Int)),(0,.sl 1 (b.map by_))],[]⟩) (fun i=>i ≤ at_ + 1) (fun i=>at_ + 1 - i) 0 (Nat.zero_le _) (Wk.of ?_ ?_) ?_
  · simp [go_sem,wi (n:=(at_:Int) + 1) (by omega) (by omega),val7]
  · simp [go_sem]
  rintro i hi
  replace hi:i ≤ at_ + 1:=hi
  rcases Nat.lt_or_ge i (at_ + 1) with hlt | hge
  · have hd1:decide ((i:Int) < (at_:Int) + 1) = true:=by simp; omega
    have hx:(nth b i).toNat < 256:=(nth b i).toNat_lt
    have hv:=val7_take_lt (b:=b) (i:=i) (by omega)
    have hp:2 ^ (7 * i) ≤ 2 ^ 63:=Nat.pow_le_pow_right (by decide) (by omega)
    have e1:IntKind.u64.wrap (((nth b i).toNat % 128:Nat):Int) = (((nth b i).toNat % 128:Nat):Int):=by rw [w_u64]; omega
    have e2:IntKind.i64.wrap (7 * (i:Int)) = ((7 * i:Nat):Int):=by rw [wi (by omega) (by omega)]; omega
    have e3:¬ ((7 * i:Nat):Int) < 0:=by omega
    have e5:=shl64 (y:=(nth b i).toNat % 128) (s:=7 * i) (by omega)
    have e6:val7 (b.take i) % 18446744073709551616 = val7 (b.take i):=Nat.mod_eq_of_lt (by omega)
    have e7:=or_shift (n:=val7 (b.take i)) (y:=(nth b i).toNat % 128) (s:=7 * i) (by omega) hv
    simp only [go_sem,hd1,e2,e3]
    refine ⟨by omega,by omega,klp_n (i + 1) (show i + 1 ≤ at_ + 1 by omega) (show at_ + 1 - (i + 1) < at_ + 1 - i by omega) (Wk.of ?_ ?_)⟩
    · have e8:=wi (n:=(i:Int) + 1) (by omega) (by omega)
      have e9:=val7_take (show i < b.length by omega)
      simp only [go_sem,and127 hx,e1,e5,e6,e7,e8,e9]
      rfl
    · simp [go_sem]
  · have hd1:decide ((i:Int) < (at_:Int) + 1) = false:=by simp; omega
    have:i = at_ + 1:=by omega
    subst this
    simp only [go_sem,hd1]
    exact pdone [] (by simp [go_sem]) rfl

def lastR (b:List UInt8) (bits:Nat):AV:=if lstE b bits = 0 then .tup [.int .i64 (lstI b bits),.int .i64 (cnt bits (lstI b bits)),.int .i64 0] else .tup [.int .i64 0,.int .i64 0,.int .i64 (lstE b bits)]
theorem s_last (b:List UInt8) (bits:Nat) (h:1 ≤ bits ∧ bits ≤ 64):PCalls Tryz.prog nX132 [.sl 1 (b.map by_),.int .i64 bits] (lastR b bits):=by
  have hm:mst bits ≤ 10 ∧ 1 ≤ mst bits ∧ 7 * mst bits ≤ bits + 6:=by unfold mst; omega
  refine pfun_sound (ic:=FX132.body) mixed cX132 rfl rfl ?_
  have d1:decide ((bits:Int) < 1) = false:=by simp; omega
  have d2:decide ((bits:Int) > 64) = false:=by simp; omega
  have e1:IntKind.i64.wrap ((bits:Int) + 6) = ((bits + 6:Nat):Int):=by rw [wi (by omega) (by omega)]; omega
  have e2:(((bits + 6:Nat):Int)).tdiv 7 = (mst bits:Int):=by rw [show (7:Int) = ((7:Nat):Int) from rfl,← Int.ofNat_tdiv]; rfl
  have e3:IntKind.i64.wrap (mst bits:Int) = (mst bits:Int):=wi (by omega) (by omega)
  simp only [FX132,go_sem,d1,d2,e1,e2,e3]
  refine ⟨by omega,?_⟩
  refine loop_rule (fun i:Nat=>⟨[(19,.int .i64 i),(18,.int .i64 (mst bits)),(7,.int .i64 (mst bits)),(0,.sl 1 (b.map by_)),(1,.int .i64 bits)],[]⟩) (fun i=>i ≤ mst bits ∧ i ≤ b.length ∧ lst b (mst bits) 0 = lst b (mst bits - i) i) (fun i=>mst bits - i) 0 ⟨Nat.zero_le _,Nat.zero_le _,rfl⟩ (Wk.of ?_ ?_) ?_
  · simp only [go_sem,e1,e2,e3]
    simp
  · simp [go_sem]
  rintro i ⟨hi,hib,hl⟩
  replace hi:i ≤ mst bits:=hi
  replace hib:i ≤ b.length:=hib
  replace hl:lst b (mst bits) 0 = lst b (mst bits - i) i:=hl
  rcases Nat.lt_or_ge i (mst bits) with hlt | hge
  · have hd1:decide ((i:Int) < (mst bits:Int)) = true:=by simp; omega
    rw [show mst bits - i = (mst bits - (i + 1)) + 1 by omega,lst] at hl
    by_cases hb:i ≥ b.length
    · have hd2:decide ((i:Int) ≥ (b.length:Int)) = true:=by simp; omega
      rw [if_pos hb] at hl
      have r1:lastR b bits = .tup [.int .i64 0,.int .i64 0,.int .i64 3]:=by simp [lastR,lstE,hl]
      simp only [go_sem,hd1,hd2]
      rw [r1]
      exact pdone [] (by simp [go_sem]) rfl
    · have hd2:decide ((i:Int) ≥ (b.length:Int)) = false:=by simp; omega
      rw [if_neg hb] at hl
      by_cases hc:128 ≤ (nth b i).toNat
      · have hd3:decide (((nth b i).toNat:Int) ≥ 128) = true:=by simp; omega
        rw [if_pos hc] at hl
        simp only [go_sem,hd1,hd2,hd3]
        refine ⟨by omega,by omega,klp_n (i + 1) ⟨by omega,by omega,hl⟩ (show mst bits - (i + 1) < mst bits - i by omega) (Wk.of ?_ ?_)⟩
        · have e8:=wi (n:=(i:Int) + 1) (by omega) (by omega)
          simp [go_sem,e8]
        · simp [go_sem]
      · have hd3:decide (((nth b i).toNat:Int) ≥ 128) = false:=by simp; omega
        rw [if_neg hc] at hl
        have w1:IntKind.i64.wrap ((mst bits:Int) - 1) = (mst bits:Int) - 1:=wi (by omega) (by omega)
        by_cases hq:i + 1 = mst bits
        · have hd4:((i:Int) == (mst bits:Int) - 1) = true:=by simp; omega
          have r1:lastR b bits = .tup [.int .i64 i,.int .i64 ((bits:Int) - 7 * i),.int .i64 0]:=by
            have:((bits - 7 * i:Nat):Int) = (bits:Int) - 7 * i:=by omega
            simp [lastR,lstE,lstI,hl,cnt,hq,this]
          have w2:IntKind.i64.wrap (7 * (i:Int)) = 7 * (i:Int):=wi (by omega) (by omega)
          have w3:IntKind.i64.wrap ((bits:Int) - 7 * (i:Int)) = (bits:Int) - 7 * (i:Int):=wi (by omega) (by omega)
          simp only [go_sem,hd1,hd2,hd3,w1,hd4]
          rw [r1]
          exact ⟨by omega,by omega,pdone [] (by simp [go_sem,w2,w3]) rfl⟩
        · have hd4:((i:Int) == (mst bits:Int) - 1) = false:=by simp; omega
          have r1:lastR b bits = .tup [.int .i64 i,.int .i64 7,.int .i64 0]:=by simp [lastR,lstE,lstI,hl,cnt,hq]
          simp only [go_sem,hd1,hd2,hd3,w1,hd4]
          rw [r1]
          exact ⟨by omega,by omega,pdone [] (by simp [go_sem]) rfl⟩
  · have hd1:decide ((i:Int) < (mst bits:Int)) = false:=by simp; omega
    rw [show mst bits - i = 0 by omega,lst] at hl
    have r1:lastR b bits = .tup [.int .i64 0,.int .i64 0,.int .i64 4]:=by simp [lastR,lstE,hl]
    simp only [go_sem,hd1]
    rw [r1]
    exact pdone [] (by simp [go_sem]) rfl
end Go.Proofs.YtoikbadfbneahaaGreatDoor
set_option linter.unusedSimpArgs false
set_option maxRecDepth 100000
set_option maxHeartbeats 4000000
set_option linter.unusedVariables false
namespace Go.Proofs.YtoikbadfbneahaaGreatDoor
open Go Go.Mw

def uR (x:Nat × Nat × Int):AV:=.tup [.int .u64 x.1,.int .i64 x.2.1,.int .i64 x.2.2]
theorem s_U (b:List UInt8) (bits:Nat) (h:1 ≤ bits ∧ bits ≤ 64):PCalls Tryz.prog n_leb_U [.sl 1 (b.map by_),.int .i64 bits] (uR (decU b bits)):=by
  refine pfun_sound (ic:=F_leb_U.body) mixed c_leb_U rfl rfl ?_
  simp only [F_leb_U,go_sem]
  refine call_same (s_last b bits h) (by simp [go_sem]) ?_
  rcases lst_cases b bits with ⟨h1,h2,h3,h4⟩ | ⟨h1,h2⟩
  · have hc:=cnt_le h h3
    have hm:=mst_le h
    have e1:lastR b bits = .tup [.int .i64 (lstI b bits),.int .i64 (cnt bits (lstI b bits)),.int .i64 0]:=by rw [lastR,if_pos h1]
    have e2:=shr_nat .u8 (x:=(nth b (lstI b bits)).toNat) (s:=cnt bits (lstI b bits)) (by show _ ≤ 8; omega)
    have e3:¬ ((cnt bits (lstI b bits):Nat):Int) < 0:=by omega
    by_cases hq:(nth b (lstI b bits)).toNat / 2 ^ cnt bits (lstI b bits) = 0
    · have d1:((((nth b (lstI b bits)).toNat / 2 ^ cnt bits (lstI b bits):Nat):Int) != 0) = false:=by rw [hq]; rfl
      have r:decU b bits = (val7 (b.take (lstI b bits + 1)) % 18446744073709551616,lstI b bits + 1,0):=by simp [decU,h1,hq]
      simp only [go_sem,e1,bne_self_eq_false,e2,e3,d1]
      refine ⟨by omega,by omega,call_same (s_sum b (lstI b bits) h2 (by omega)) (by simp [go_sem]) ?_⟩
      have e8:=wi (n:=(lstI b bits:Int) + 1) (by omega) (by omega)
      simp only [go_sem]
      rw [r]
      exact pdone [] (by simp [go_sem,e8,uR]) rfl
    · have d1:((((nth b (lstI b bits)).toNat / 2 ^ cnt bits (lstI b bits):Nat):Int) != 0) = true:=by
        have:(((nth b (lstI b bits)).toNat / 2 ^ cnt bits (lstI b bits):Nat):Int) ≠ 0:=by omega
        simp only [bne,beq_eq_false_iff_ne.2 this]; rfl
      have r:decU b bits = (0,0,4):=by rw [decU,if_neg (by simp [h1]),if_pos hq]
      simp only [go_sem,e1,bne_self_eq_false,e2,e3,d1]
      rw [r]
      exact ⟨by omega,by omega,pdone [] (by simp [go_sem,uR]) rfl⟩
  · have hne:lstE b bits ≠ 0:=by rcases h1 with h1 | h1 <;> rw [h1] <;> decide
    have e1:lastR b bits = .tup [.int .i64 0,.int .i64 0,.int .i64 (lstE b bits)]:=by rw [lastR,if_neg hne]
    have d1:(lstE b bits != 0) = true:=by simp [hne]
    have r:decU b bits = (0,0,lstE b bits):=by rw [decU,if_pos hne]
    simp only [go_sem,e1,d1]
    rw [r]
    exact pdone [] (by simp [go_sem,uR]) rfl

end Go.Proofs.YtoikbadfbneahaaGreatDoor
set_option linter.unusedSimpArgs false
set_option maxRecDepth 100000
set_option maxHeartbeats 4000000
set_option linter.unusedVariables false
namespace Go.Proofs.YtoikbadfbneahaaGreatDoor
open Go Go.Mw

theorem s_PutU (n:Nat) (hn:n < 18446744073709551616):PCalls Tryz.prog nX133 [.nl,.int .u64 n] (.sl 1 ((putU n).map by_)):=by
  refine pfun_sound (ic:=FX133.body) mixed cX133 rfl rfl ?_
  simp only [FX133,go_sem]
  have a0:appO 6 5 1 0 0 [] (some ⟨5,1,[],false⟩) = some (.ms 6 1 0 0,.reb 6 ⟨5,1,[],false⟩):=rfl
  simp only [go_sem,a0]
  refine loop_rule (fun q:List UInt8 × Nat=>⟨[(5,.ms 6 1 0 q.1.length),(1,.int .u64 q.2)],[(6,⟨5,1,q.1.map by_,false⟩)]⟩) (fun q=>q.1 ++ putU q.2 = putU n ∧ q.2 ≤ n) (fun q=>q.2) ([],n) ⟨rfl,Nat.le_refl _⟩ (Wk.of ?_ ?_) ?_
  · simp [go_sem]
  · simp [go_sem]
  rintro ⟨acc,m⟩ ⟨hq,hm⟩
  replace hq:acc ++ putU m = putU n:=hq
  replace hm:m ≤ n:=hm
  have hlen:acc.length + (putU m).length ≤ 10:=by
    have:=putU_len (k:=9) (n:=n) (by omega)
    rw [← hq] at this
    simpa using this
  have w1:IntKind.u8.wrap (m:Int) = ((m % 256:Nat):Int):=by rw [w_u8]; omega
  have happ:=fun ys=>appO_map 6 5 1 acc.length by_ acc ys rfl
  by_cases h1:m < 128
  · have d1:decide ((m:Int) ≥ 128) = false:=by simp; omega
    simp only [go_sem,d1,w1,happ]
    refine ⟨by omega,pdone [6] ?_ rfl⟩
    have e1:m % 256 = m:=by omega
    simp only [go_sem,w1,← hq,putU_lo h1,List.map_append,by_of (show m < 256 by omega),e1]
    simp
    exact List.take_of_length_le (by simp)
  · have d1:decide ((m:Int) ≥ 128) = true:=by simp; omega
    have w2:=or128 (x:=m % 256) (by omega)
    have e1:m % 256 % 128 = m % 128:=by omega
    have w3:b_shr .u64 (m:Int) 7 = ((m / 128:Nat):Int):=shr_nat .u64 (x:=m) (s:=7) (by decide)
    simp only [go_sem,d1,w1,w2,e1,happ]
    refine ⟨by omega,by decide,klp_n (acc ++ [UInt8.ofNat (m % 128 + 128)],m / 128) ⟨by rw [List.append_assoc,← hq,putU_hi h1]; rfl,by omega⟩ (show m / 128 < m by omega) (Wk.of ?_ ?_)⟩
    · simp only [go_sem,w3,List.length_append,List.length_singleton]
    · simp only [go_sem,List.map_append,by_of (show m % 128 + 128 < 256 by omega)]

end Go.Proofs.YtoikbadfbneahaaGreatDoor
set_option linter.unusedSimpArgs false
set_option maxRecDepth 100000
set_option maxHeartbeats 4000000
set_option linter.unusedVariables false
namespace Go.Proofs.YtoikbadfbneahaaGreatDoor
open Go Go.Mw

def formR (b:List UInt8) (bits:Nat):AV:=if lstE b bits = 0 then .tup [.int .i64 ((lstI b bits + 1:Nat):Int),.int .i64 0] else .tup [.int .i64 0,.int .i64 (lstE b bits)]
theorem s_rform (b:List UInt8) (bits:Nat) (h:1 ≤ bits ∧ bits ≤ 64):PCalls Tryz.prog nX113 [.sl 1 (b.map by_),.int .i64 bits] (formR b bits):=by
  have hm:mst bits ≤ 10 ∧ 1 ≤ mst bits ∧ 7 * mst bits ≤ bits + 6:=by unfold mst; omega
  refine pfun_sound (ic:=FX113.body) mixed cX113 rfl rfl ?_
  have d1:decide ((bits:Int) < 1) = false:=decide_eq_false (by omega)
  have d2:decide ((bits:Int) > 64) = false:=decide_eq_false (by omega)
  have e1:IntKind.i64.wrap ((bits:Int) + 6) = ((bits + 6:Nat):Int):=by rw [wi (by omega) (by omega)]; omega
  have e2:(((bits + 6:Nat):Int)).tdiv 7 = (mst bits:Int):=by rw [show (7:Int) = ((7:Nat):Int) from rfl,← Int.ofNat_tdiv]; rfl
  have e3:IntKind.i64.wrap (mst bits:Int) = (mst bits:Int):=wi (by omega) (by omega)
  simp only [FX113,go_sem,d1,d2,e1,e2,e3]
  refine ⟨by omega,?_⟩
  refine loop_rule (fun i:Nat=>⟨[(7,.int .i64 i),(6,.int .i64 (mst bits)),(0,.sl 1 (b.map by_))],[]⟩) (fun i=>i ≤ mst bits ∧ i ≤ b.length ∧ lst b (mst bits) 0 = lst b (mst bits - i) i) (fun i=>mst bits - i) 0 ⟨Nat.zero_le _,Nat.zero_le _,rfl⟩ (Wk.of ?_ ?_) ?_
  · simp only [go_sem,e1,e2,e3]
    simp
  · simp [go_sem]
  rintro i ⟨hi,hib,hl⟩
  replace hi:i ≤ mst bits:=hi
  replace hib:i ≤ b.length:=hib
  replace hl:lst b (mst bits) 0 = lst b (mst bits - i) i:=hl
  have e8:=wi (n:=(i:Int) + 1) (by omega) (by omega)
  by_cases hb:i < b.length
  · have d3:decide ((i:Int) < (b.length:Int)) = true:=decide_eq_true (by omega)
    by_cases hlt:i < mst bits
    · have d4:decide ((i:Int) < (mst bits:Int)) = true:=decide_eq_true (by omega)
      rw [show mst bits - i = (mst bits - (i + 1)) + 1 by omega,lst,if_neg (by omega)] at hl
      by_cases hc:128 ≤ (nth b i).toNat
      · have d5:decide (((nth b i).toNat:Int) < 128) = false:=decide_eq_false (by omega)
        rw [if_pos hc] at hl
        simp only [go_sem,d3,d4,d5]
        refine ⟨by omega,by omega,klp_n (i + 1) ⟨by omega,by omega,hl⟩ (show mst bits - (i + 1) < mst bits - i by omega) (Wk.of ?_ ?_)⟩
        · simp only [go_sem,e8]; simp
        · simp [go_sem]
      · have d5:decide (((nth b i).toNat:Int) < 128) = true:=decide_eq_true (by omega)
        rw [if_neg hc] at hl
        have r1:formR b bits = .tup [.int .i64 ((i:Int) + 1),.int .i64 0]:=by
          have:((i + 1:Nat):Int) = (i:Int) + 1:=by omega
          simp [formR,lstE,lstI,hl]
        simp only [go_sem,d3,d4,d5]
        rw [r1]
        exact ⟨by omega,by omega,pdone [] (by simp only [go_sem,e8]) rfl⟩
    · have d4:decide ((i:Int) < (mst bits:Int)) = false:=decide_eq_false (by omega)
      rw [show mst bits - i = 0 by omega,lst] at hl
      have d6:decide ((b.length:Int) < (mst bits:Int)) = false:=decide_eq_false (by omega)
      have r1:formR b bits = .tup [.int .i64 0,.int .i64 4]:=by simp [formR,lstE,hl]
      simp only [go_sem,d3,d4,d6]
      rw [r1]
      exact pdone [] (by simp only [go_sem]) rfl
  · have d3:decide ((i:Int) < (b.length:Int)) = false:=decide_eq_false (by omega)
    by_cases hlt:i < mst bits
    · have d6:decide ((b.length:Int) < (mst bits:Int)) = true:=decide_eq_true (by omega)
      rw [show mst bits - i = (mst bits - (i + 1)) + 1 by omega,lst,if_pos (by omega)] at hl
      have r1:formR b bits = .tup [.int .i64 0,.int .i64 3]:=by simp [formR,lstE,hl]
      simp only [go_sem,d3,d6]
      rw [r1]
      exact pdone [] (by simp only [go_sem]) rfl
    · have d6:decide ((b.length:Int) < (mst bits:Int)) = false:=decide_eq_false (by omega)
      rw [show mst bits - i = 0 by omega,lst] at hl
      have r1:formR b bits = .tup [.int .i64 0,.int .i64 4]:=by simp [formR,lstE,hl]
      simp only [go_sem,d3,d6]
      rw [r1]
      exact pdone [] (by simp only [go_sem]) rfl

theorem s_rPutU (n:Nat) (hn:n < 18446744073709551616):PCalls Tryz.prog nX109 [.nl,.int .u64 n] (.sl 1 ((putU n).map by_)):=by
  refine pfun_sound (ic:=FX109.body) mixed cX109 rfl rfl ?_
  have a0:appO 6 5 1 0 0 [] (some ⟨5,1,[],false⟩) = some (.ms 6 1 0 0,.reb 6 ⟨5,1,[],false⟩):=rfl
  simp only [FX109,go_sem,a0]
  refine loop_rule (fun q:List UInt8 × Nat=>⟨[(5,.ms 6 1 0 q.1.length),(1,.int .u64 q.2)],[(6,⟨5,1,q.1.map by_,false⟩)]⟩) (fun q=>q.1 ++ putU q.2 = putU n ∧ q.2 ≤ n) (fun q=>q.2) ([],n) ⟨rfl,Nat.le_refl _⟩ (Wk.of ?_ ?_) ?_
  · simp [go_sem]
  · simp [go_sem]
  rintro ⟨acc,m⟩ ⟨hq,hm⟩
  replace hq:acc ++ putU m = putU n:=hq
  replace hm:m ≤ n:=hm
  have hlen:acc.length + (putU m).length ≤ 10:=by
    have:=putU_len (k:=9) (n:=n) (by omega)
    rw [← hq] at this
    simpa using this
  have w1:IntKind.u8.wrap (m:Int) = ((m % 256:Nat):Int):=by rw [w_u8]; omega
  have happ:=fun ys=>appO_map 6 5 1 acc.length by_ acc ys rfl
  by_cases h1:m < 128
  · have d1:decide ((m:Int) ≥ 128) = false:=decide_eq_false (by omega)
    simp only [go_sem,d1,w1,happ]
    refine ⟨by omega,pdone [6] ?_ rfl⟩
    have e1:m % 256 = m:=by omega
    simp only [go_sem,w1,← hq,putU_lo h1,List.map_append,by_of (show m < 256 by omega),e1]
    simp
    exact List.take_of_length_le (by simp)
  · have d1:decide ((m:Int) ≥ 128) = true:=decide_eq_true (by omega)
    have t1:(m:Int).tmod 128 = ((m % 128:Nat):Int):=(Int.ofNat_tmod m 128).symm
    have t2:IntKind.u8.wrap ((m % 128:Nat):Int) = ((m % 128:Nat):Int):=by rw [w_u8]; omega
    have t3:IntKind.u8.wrap (((m % 128:Nat):Int) + 128) = ((m % 128 + 128:Nat):Int):=by rw [w_u8]; omega
    have t4:(m:Int).tdiv 128 = ((m / 128:Nat):Int):=(Int.ofNat_tdiv m 128).symm
    have t5:IntKind.u64.wrap ((m / 128:Nat):Int) = ((m / 128:Nat):Int):=by rw [w_u64]; omega
    simp only [go_sem,d1,t1,t2,t3,happ]
    refine ⟨by omega,by omega,by omega,klp_n (acc ++ [UInt8.ofNat (m % 128 + 128)],m / 128) ⟨by rw [List.append_assoc,← hq,putU_hi h1]; rfl,by show m / 128 ≤ n; omega⟩ (show m / 128 < m by omega) (Wk.of ?_ ?_)⟩
    · simp only [go_sem,t4,t5,List.length_append,List.length_singleton]
    · simp only [go_sem,List.map_append,by_of (show m % 128 + 128 < 256 by omega)]

end Go.Proofs.YtoikbadfbneahaaGreatDoor
set_option linter.unusedSimpArgs false
set_option maxRecDepth 100000
set_option maxHeartbeats 4000000
set_option linter.unusedVariables false
namespace Go.Proofs.YtoikbadfbneahaaGreatDoor
open Go Go.Mw

theorem val7_dropj {b:List UInt8} {j k:Nat} (h:j < k) (hk:k ≤ b.length):val7 ((b.take k).drop j) = (nth b j).toNat % 128 + 128 * val7 ((b.take k).drop (j + 1)):=by
  have h1:j < (b.take k).length:=by simp; omega
  rw [List.drop_eq_getElem_cons h1,val7,List.getElem_take,← nth_eq (show j < b.length by omega)]
theorem ne_b {x:Int} (h:x ≠ 0):(x != 0) = true:=by simp [h]
theorem ne_f {x:Int} (h:x = 0):(x != 0) = false:=by simp [h]

theorem s_rU (b:List UInt8) (bits:Nat) (h:1 ≤ bits ∧ bits ≤ 64):PCalls Tryz.prog nX138 [.sl 1 (b.map by_),.int .i64 bits] (uR (decU b bits)):=by
  refine pfun_sound (ic:=FX138.body) mixed cX138 rfl rfl ?_
  simp only [FX138,go_sem]
  refine call_same (s_rform b bits h) (by simp [go_sem]) ?_
  rcases lst_cases b bits with ⟨h1,h2,h3,h4⟩ | ⟨h1,h2⟩
  · have hm:=mst_le h
    generalize hi:lstI b bits = i at *
    have e1:formR b bits = .tup [.int .i64 ((i + 1:Nat):Int),.int .i64 0]:=by rw [formR,if_pos h1,hi]
    have w1:IntKind.i64.wrap (((i + 1:Nat):Int) - 1) = (i:Int):=by rw [wi (by omega) (by omega)]; omega
    have hb7:7 * i < bits:=by unfold mst at h3; omega
    have w2:IntKind.i64.wrap (7 * (i:Int)) = ((7 * i:Nat):Int):=by rw [wi (by omega) (by omega)]; omega
    have w3:IntKind.i64.wrap ((bits:Int) - ((7 * i:Nat):Int)) = ((bits - 7 * i:Nat):Int):=by rw [wi (by omega) (by omega)]; omega
    have w4:IntKind.i64.wrap ((nth b i).toNat:Int) = ((nth b i).toNat:Int):=wi (by omega) (by omega)
    have v0:val7 ((b.take (i + 1)).drop (i + 1)) = 0:=by rw [List.drop_eq_nil_of_le (by simp; omega)]; rfl
    by_cases hl:bits - 7 * i < 7
    · have d1:decide (((bits - 7 * i:Nat):Int) < 7) = true:=decide_eq_true (by omega)
      have e2:=shr_nat .i64 (x:=(nth b i).toNat) (s:=bits - 7 * i) (by show _ ≤ 64; omega)
      have e3:¬ ((bits - 7 * i:Nat):Int) < 0:=by omega
      have hc:cnt bits i = bits - 7 * i:=by unfold cnt; rw [if_pos (by unfold mst at *; omega)]
      by_cases hq:(nth b i).toNat / 2 ^ (bits - 7 * i) = 0
      · have r:decU b bits = (val7 (b.take (i + 1)) % 18446744073709551616,i + 1,0):=by rw [decU,if_neg (by simp [h1]),hi,hc,if_neg (by simp [hq])]
        have d2:(((((nth b i).toNat / 2 ^ (bits - 7 * i):Nat):Int)) != 0) = false:=ne_f (by omega)
        rw [r]
        simp only [go_sem,e1,bne_self_eq_false,w1,w2,w3,w4,d1,e2,e3,d2]
        refine ⟨by omega,by omega,loop_rule (fun j:Nat=>⟨[(11,.int .i64 ((j:Int) - 1)),(10,.int .u64 ((val7 ((b.take (i + 1)).drop j) % 18446744073709551616:Nat):Int)),(7,.int .i64 ((i + 1:Nat):Int)),(0,.sl 1 (b.map by_))],[]⟩) (fun j=>j ≤ i + 1) (fun j=>j) (i + 1) (Nat.le_refl _) (Wk.of ?_ ?_) ?_⟩
        · simp only [go_sem,w1,v0]
          rw [show ((i + 1:Nat):Int) - 1 = (i:Int) by omega]
          exact ⟨rfl,rfl⟩
        · simp [go_sem]
        rintro j hj
        replace hj:j ≤ i + 1:=hj
        cases j with
        | zero =>
          have d9:decide (((0:Nat):Int) - 1 ≥ 0) = false:=by decide
          simp only [go_sem,d9]
          exact pdone [] (by simp only [go_sem,uR,List.drop_zero]) rfl
        | succ j =>
          have c1:((j + 1:Nat):Int) - 1 = (j:Int):=by omega
          have d9:decide ((j:Int) ≥ 0) = true:=decide_eq_true (by omega)
          have hx:(nth b j).toNat < 256:=(nth b j).toNat_lt
          have t1:((nth b j).toNat:Int).tmod 128 = (((nth b j).toNat % 128:Nat):Int):=(Int.ofNat_tmod _ 128).symm
          have t2:IntKind.u64.wrap (((nth b j).toNat % 128:Nat):Int) = (((nth b j).toNat % 128:Nat):Int):=by rw [w_u64]; omega
          have t3:IntKind.u8.wrap (((nth b j).toNat % 128:Nat):Int) = (((nth b j).toNat % 128:Nat):Int):=by rw [w_u8]; omega
          have t4:IntKind.u64.wrap (IntKind.u64.wrap (((val7 ((b.take (i + 1)).drop (j + 1)) % 18446744073709551616:Nat):Int) * 128) + (((nth b j).toNat % 128:Nat):Int)) = ((val7 ((b.take (i + 1)).drop j) % 18446744073709551616:Nat):Int):=by
            rw [val7_dropj (show j < i + 1 by omega) (show i + 1 ≤ b.length by omega),w_u64,w_u64]; omega
          have t5:=wi (n:=(j:Int) - 1) (by omega) (by omega)
          simp only [go_sem,c1,d9,t1,t3]
          refine ⟨by omega,by omega,by decide,klp_n j (show j ≤ i + 1 by omega) (show j < j + 1 by omega) (Wk.of ?_ ?_)⟩
          · simp only [go_sem,t1,t2,t3,t4,t5]
          · simp [go_sem]
      · have r:decU b bits = (0,0,4):=by rw [decU,if_neg (by simp [h1]),hi,hc,if_pos hq]
        have d2:(((((nth b i).toNat / 2 ^ (bits - 7 * i):Nat):Int)) != 0) = true:=ne_b (by omega)
        rw [r]
        simp only [go_sem,e1,bne_self_eq_false,w1,w2,w3,w4,d1,e2,e3,d2]
        exact ⟨by omega,by omega,pdone [] (by simp [go_sem,uR]) rfl⟩
    · have d1:decide (((bits - 7 * i:Nat):Int) < 7) = false:=decide_eq_false (by omega)
      have hc:cnt bits i = 7:=by
        unfold cnt
        by_cases hq:i + 1 = mst bits
        · rw [if_pos hq]; unfold mst at *; omega
        · rw [if_neg hq]
      have r:decU b bits = (val7 (b.take (i + 1)) % 18446744073709551616,i + 1,0):=by rw [decU,if_neg (by simp [h1]),hi,hc,if_neg (by simp; omega)]
      rw [r]
      simp only [go_sem,e1,bne_self_eq_false,w1,w2,w3,d1]
      refine loop_rule (fun j:Nat=>⟨[(11,.int .i64 ((j:Int) - 1)),(10,.int .u64 ((val7 ((b.take (i + 1)).drop j) % 18446744073709551616:Nat):Int)),(7,.int .i64 ((i + 1:Nat):Int)),(0,.sl 1 (b.map by_))],[]⟩) (fun j=>j ≤ i + 1) (fun j=>j) (i + 1) (Nat.le_refl _) (Wk.of ?_ ?_) ?_
      · simp only [go_sem,w1,v0]
        rw [show ((i + 1:Nat):Int) - 1 = (i:Int) by omega]
        exact ⟨rfl,rfl⟩
      · simp [go_sem]
      rintro j hj
      replace hj:j ≤ i + 1:=hj
      cases j with
      | zero =>
        have d9:decide (((0:Nat):Int) - 1 ≥ 0) = false:=by decide
        simp only [go_sem,d9]
        exact pdone [] (by simp only [go_sem,uR,List.drop_zero]) rfl
      | succ j =>
        have c1:((j + 1:Nat):Int) - 1 = (j:Int):=by omega
        have d9:decide ((j:Int) ≥ 0) = true:=decide_eq_true (by omega)
        have hx:(nth b j).toNat < 256:=(nth b j).toNat_lt
        have t1:((nth b j).toNat:Int).tmod 128 = (((nth b j).toNat % 128:Nat):Int):=(Int.ofNat_tmod _ 128).symm
        have t2:IntKind.u64.wrap (((nth b j).toNat % 128:Nat):Int) = (((nth b j).toNat % 128:Nat):Int):=by rw [w_u64]; omega
        have t3:IntKind.u8.wrap (((nth b j).toNat % 128:Nat):Int) = (((nth b j).toNat % 128:Nat):Int):=by rw [w_u8]; omega
        have t4:IntKind.u64.wrap (IntKind.u64.wrap (((val7 ((b.take (i + 1)).drop (j + 1)) % 18446744073709551616:Nat):Int) * 128) + (((nth b j).toNat % 128:Nat):Int)) = ((val7 ((b.take (i + 1)).drop j) % 18446744073709551616:Nat):Int):=by
          rw [val7_dropj (show j < i + 1 by omega) (show i + 1 ≤ b.length by omega),w_u64,w_u64]; omega
        have t5:=wi (n:=(j:Int) - 1) (by omega) (by omega)
        simp only [go_sem,c1,d9,t1,t3]
        refine ⟨by omega,by omega,by decide,klp_n j (show j ≤ i + 1 by omega) (show j < j + 1 by omega) (Wk.of ?_ ?_)⟩
        · simp only [go_sem,t1,t2,t3,t4,t5]
        · simp [go_sem]
  · have e1:formR b bits = .tup [.int .i64 0,.int .i64 (lstE b bits)]:=by rw [formR,if_neg (by omega)]
    have r:decU b bits = (0,0,lstE b bits):=by rw [decU,if_pos (by omega)]
    have d2:(lstE b bits != 0) = true:=ne_b (by omega)
    simp only [go_sem,e1,d2]
    rw [r]
    exact pdone [] (by simp only [go_sem,uR]; rfl) rfl

end Go.Proofs.YtoikbadfbneahaaGreatDoor
set_option linter.unusedVariables false
namespace Go.Proofs.YtoikbadfbneahaaGreatDoor
open Go Go.Mw

def slv:Option (List UInt8) → AV
  | none=>.nl
  | some l=>.sl 1 (l.map by_)
theorem slv_ids (o:Option (List UInt8)):idsV (slv o) = []:=by cases o <;> rfl
theorem slv_none:slv none = .nl:=rfl
theorem slv_some (l:List UInt8):slv (some l) = .sl 1 (l.map by_):=rfl
attribute [go_sem] slv_none slv_some
def rTake (ok:Bool) (b:List UInt8) (a:Nat) (e n:Int):Option (List UInt8) × Nat × Int :=
  if ok = true then (if n < 0 then (none,a,1) else if n > (b.length:Int) - a then (none,a,3) else (some ((b.drop a).take n.toNat),a + n.toNat,e)) else (none,a,e)
def rByte (ok:Bool) (b:List UInt8) (a:Nat) (e:Int):UInt8 × Nat × Int :=
  if ok = true then (if (b.length:Int) - a < 1 then (0,a,3) else (nth b a,a + 1,e)) else (0,a,e)
def rU (ok:Bool) (bits:Nat) (b:List UInt8) (a:Nat) (e:Int):Nat × Nat × Int :=
  if ok = true then (if (decU (b.drop a) bits).2.2 ≠ 0 then (0,a,(decU (b.drop a) bits).2.2) else ((decU (b.drop a) bits).1,a + (decU (b.drop a) bits).2.1,e)) else (0,a,e)
def rCount (ok:Bool) (b:List UInt8) (a:Nat) (e most:Int):Nat × Nat × Int :=
  if ok = true then (if (rU true 32 b a e).2.2 = 0 ∧ ((rU true 32 b a e).1:Int) > most then (0,a,6) else rU true 32 b a e) else (0,a,e)

theorem decU_lt (b:List UInt8) (bits:Nat) (h:1 ≤ bits ∧ bits ≤ 64):(decU b bits).1 < 2 ^ bits:=by
  have hp:=Nat.two_pow_pos bits
  unfold decU
  split
  · exact hp
  split
  · exact hp
  rename_i h1 h2
  rcases lst_cases b bits with ⟨g1,g2,g3,g4⟩ | ⟨g1,g2⟩
  · refine Nat.lt_of_le_of_lt (Nat.mod_le _ _) ?_
    by_cases hq:lstI b bits + 1 = mst bits
    · rw [val7_take g2]
      have hv:=val7_take_lt (b:=b) (i:=lstI b bits) (Nat.le_of_lt g2)
      have h3:(nth b (lstI b bits)).toNat / 2 ^ (bits - 7 * lstI b bits) = 0:=by
        have:=Classical.not_not.1 h2
        rw [cnt,if_pos hq] at this
        exact this
      have h4:(nth b (lstI b bits)).toNat < 2 ^ (bits - 7 * lstI b bits):=by
        rcases Nat.div_eq_zero_iff.1 h3 with h | h
        · exact absurd h (Nat.pos_iff_ne_zero.1 (Nat.two_pow_pos _))
        · exact h
      have h5:7 * lstI b bits ≤ bits:=by unfold mst at hq; omega
      have e:2 ^ bits = 2 ^ (bits - 7 * lstI b bits) * 2 ^ (7 * lstI b bits):=by rw [← Nat.pow_add,Nat.sub_add_cancel h5]
      rw [e]
      have h6:(nth b (lstI b bits)).toNat % 128 + 1 ≤ 2 ^ (bits - 7 * lstI b bits):=Nat.lt_of_le_of_lt (Nat.mod_le _ _) h4
      have h7:=Nat.mul_le_mul_right (2 ^ (7 * lstI b bits)) h6
      rw [Nat.add_mul,Nat.one_mul] at h7
      omega
    · have hv:=val7_take_lt (b:=b) (i:=lstI b bits + 1) (by omega)
      have h5:7 * (lstI b bits + 1) ≤ bits:=by unfold mst at *; omega
      exact Nat.lt_of_lt_of_le hv (Nat.pow_le_pow_right (by decide) h5)
  · rcases g1 with g1 | g1 <;> rw [g1] at h1 <;> exact absurd (by decide) h1
theorem decU_k (b:List UInt8) (bits:Nat):(decU b bits).2.1 ≤ b.length:=by
  unfold decU
  split
  · exact Nat.zero_le _
  split
  · exact Nat.zero_le _
  rename_i h1 h2
  rcases lst_cases b bits with ⟨g1,g2,g3,g4⟩ | ⟨g1,g2⟩
  · exact g2
  · rcases g1 with g1 | g1 <;> rw [g1] at h1 <;> exact absurd (by decide) h1
theorem rTake_a {ok:Bool} {b:List UInt8} {a:Nat} {e n:Int} (h:a ≤ b.length):(rTake ok b a e n).2.1 ≤ b.length:=by
  unfold rTake
  repeat' split
  all_goals first | exact h | (simp only; omega)
theorem rU_a {ok:Bool} {bits:Nat} {b:List UInt8} {a:Nat} {e:Int} (h:a ≤ b.length):(rU ok bits b a e).2.1 ≤ b.length:=by
  have:=decU_k (b.drop a) bits
  simp only [List.length_drop] at this
  unfold rU
  repeat' split
  all_goals first | exact h | (simp only; omega)
theorem rU_lt (ok:Bool) (b:List UInt8) (a:Nat) (e:Int):(rU ok 32 b a e).1 < 4294967296:=by
  have:=decU_lt (b.drop a) 32 (by decide)
  unfold rU
  repeat' split
  all_goals first | exact this | exact (by decide:(0:Nat) < 4294967296)
end Go.Proofs.YtoikbadfbneahaaGreatDoor
set_option linter.unusedSimpArgs false
set_option maxRecDepth 100000
set_option maxHeartbeats 4000000
set_option linter.unusedVariables false
namespace Go.Proofs.YtoikbadfbneahaaGreatDoor
open Go Go.Mw

def ro (m:Bool) (b:List UInt8) (a e:Int):AObj:=⟨204,4,[[.bool m,.sl 1 (b.map by_),.int .i64 a,.int .i64 e]],true⟩
def RM (f:FuncId) (rest:List AV) (m:Bool) (b:List UInt8) (a e:Int) (r:AV) (a' e':Int):Prop :=
  ACalls Tryz.prog f (.mp 1000 4 0 0 :: rest) [(1000,ro m b a e)] (fun id=>1000 ≤ id ∧ id < 2000) (fun r' σ'=>r' = r ∧ σ' = [(1000,ro m b a' e')])

theorem s_sound (m:Bool) (b:List UInt8) (a e:Int):RM nX16 [] m b a e (.bool (m && e == 0)) a e:=by
  refine fun_sound (ic:=FX16.body) mixed cX16 rfl rfl ?_
  cases m
  · simp only [FX16,ro,go_sem]
    exact done [] _ [(1000,ro false b a e)] (by simp only [go_sem]) (by simp only [go_sem,ro]) rfl ⟨rfl,rfl⟩
  · simp only [FX16,ro,go_sem]
    exact done [] _ [(1000,ro true b a e)] (by simp only [go_sem]) (by simp only [go_sem,ro]) rfl ⟨rfl,rfl⟩
theorem s_fail (m:Bool) (b:List UInt8) (a e x:Int):RM nX26 [.int .i64 x] m b a e (.tup []) a (if (m && e == 0) = true then x else e):=by
  refine fun_sound (ic:=FX26.body) mixed cX26 rfl rfl ?_
  simp only [FX26,ro,go_sem]
  refine call_m (s_sound m b a e) ⟨by decide,by decide⟩ rfl (by simp) rfl rfl (by rfl) ?_
  cases h:(m && e == 0)
  · simp only [go_sem,ro]
    exact done_n [] _ [(1000,ro m b a e)] (by simp only [go_sem]) (by simp only [go_sem,ro]) rfl ⟨rfl,rfl⟩
  · simp only [go_sem,ro]
    exact done_n [] _ [(1000,ro m b a x)] (by simp only [go_sem]) (by simp only [go_sem,ro]) rfl ⟨rfl,rfl⟩
theorem s_fail_ok (b:List UInt8) (a x:Int):RM nX26 [.int .i64 x] true b a 0 (.tup []) a x:=s_fail true b a 0 x
theorem s_cut (b:List UInt8) (a n:Nat) (e:Int) (h:a + n ≤ b.length) (hb:b.length < 1000000000):RM nX33 [.int .i64 n] true b a e (.sl 1 (((b.drop a).take n).map by_)) ((a + n:Nat):Int) e:=by
  refine fun_sound (ic:=FX33.body) mixed cX33 rfl rfl ?_
  have w1:IntKind.i64.wrap ((a:Int) + (n:Int)) = ((a + n:Nat):Int):=by rw [wi (by omega) (by omega)]; omega
  have e1:aSlc 1 (.sl 1 (b.map by_)) (some (.int .i64 (a:Int))) (some (.int .i64 ((a + n:Nat):Int))) (some (.int .i64 ((a + n:Nat):Int))) = some (.sl 1 (((b.drop a).take n).map by_)):=by
    have h1:aBound (b.map by_).length (some (.int .i64 ((a + n:Nat):Int))) = some (a + n):=by simp only [aBound]; rw [if_pos (by omega),Int.toNat_natCast]
    have h2:aBound 0 (some (.int .i64 (a:Int))) = some a:=by simp only [aBound]; rw [if_pos (by omega),Int.toNat_natCast]
    simp only [aSlc,h1,h2]
    rw [if_pos ⟨trivial,by omega,Nat.le_refl _,by simpa using h⟩,Nat.add_sub_cancel_left,List.map_take,List.map_drop]
  simp only [FX33,ro,go_sem,w1,e1]
  exact done [] _ [(1000,ro true b ((a + n:Nat):Int) e)] (by simp only [go_sem]) (by simp only [go_sem,ro]) rfl ⟨rfl,rfl⟩

theorem s_take (m:Bool) (b:List UInt8) (a:Nat) (e n:Int) (ha:a ≤ b.length) (hb:b.length < 1000000000) (hn:-9223372036854775808 ≤ n ∧ n < 9223372036854775808) :
    RM nX29 [.int .i64 n] m b a e (slv (rTake (m && e == 0) b a e n).1) (rTake (m && e == 0) b a e n).2.1 (rTake (m && e == 0) b a e n).2.2:=by
  refine fun_sound (ic:=FX29.body) mixed cX29 rfl rfl ?_
  simp only [FX29,ro,go_sem]
  refine call_m (s_sound m b a e) ⟨by decide,by decide⟩ rfl (by simp) rfl rfl (by rfl) ?_
  cases h:(m && e == 0)
  · simp only [go_sem,ro,rTake]
    exact done [] _ [(1000,ro m b a e)] (by simp only [go_sem]) (by simp only [go_sem,ro]) rfl ⟨rfl,rfl⟩
  · obtain ⟨rfl,h2⟩:=Bool.and_eq_true_iff.1 h
    obtain rfl:e = 0:=by simpa using h2
    by_cases h3:n < 0
    · have d1:decide (n < 0) = true:=by simpa using h3
      have r:rTake true b a 0 n = (none,a,1):=by simp [rTake,h3]
      simp only [go_sem,ro,d1]
      refine call_m (s_fail_ok b a 1) ⟨by decide,by decide⟩ rfl (by simp [go_sem]) rfl rfl (by rfl) ?_
      simp only [go_sem,ro]
      rw [r]
      exact done [] _ [(1000,ro true b a 1)] (by simp only [go_sem]) (by simp only [go_sem,ro]) rfl ⟨rfl,rfl⟩
    · have d1:decide (n < 0) = false:=by simpa using h3
      have w1:IntKind.i64.wrap ((b.length:Int) - (a:Int)) = (b.length:Int) - (a:Int):=wi (by omega) (by omega)
      by_cases h4:n > (b.length:Int) - a
      · have d2:decide (n > (b.length:Int) - (a:Int)) = true:=by simpa using h4
        have r:rTake true b a 0 n = (none,a,3):=by simp [rTake,h3,h4]
        simp only [go_sem,ro,d1,w1,d2]
        refine call_m (s_fail_ok b a 3) ⟨by decide,by decide⟩ rfl (by simp [go_sem]) rfl rfl (by rfl) ?_
        simp only [go_sem,ro]
        rw [r]
        exact done [] _ [(1000,ro true b a 3)] (by simp only [go_sem]) (by simp only [go_sem,ro]) rfl ⟨rfl,rfl⟩
      · have d2:decide (n > (b.length:Int) - (a:Int)) = false:=by simpa using h4
        obtain ⟨k,rfl⟩:=Int.eq_ofNat_of_zero_le (show 0 ≤ n by omega)
        have r:rTake true b a 0 (k:Int) = (some ((b.drop a).take k),a + k,0):=by
          have h5:¬ ((k:Int) > (b.length:Int) - a):=h4
          simp only [rTake,if_true,if_neg h3,if_neg h5,Int.toNat_natCast]
        simp only [go_sem,ro,d1,w1,d2]
        refine call_m (s_cut b a k 0 (by omega) hb) ⟨by decide,by decide⟩ rfl (by simp [go_sem]) rfl rfl (by rfl) ?_
        simp only [go_sem,ro]
        rw [r]
        refine ⟨by simp; omega,done [32] _ [(1000,ro true b ((a + k:Nat):Int) 0)] ?_ (by simp only [go_sem,ro]) rfl ⟨rfl,rfl⟩⟩
        simp only [go_sem,Nat.le_refl]
        rw [List.take_of_length_le (by simp)]

theorem aI1 (st:Nat) (r:List AV) (k:IntKind):aIadr st (.sl st [r]) (.int k 0) = some (.ip r):=by simp [aIadr]
theorem one1:(((1:Nat):Int) == 1) = true:=rfl
theorem s_byte (m:Bool) (b:List UInt8) (a:Nat) (e:Int) (ha:a ≤ b.length) (hb:b.length < 1000000000) :
    RM nX21 [] m b a e (.int .u8 (rByte (m && e == 0) b a e).1.toNat) (rByte (m && e == 0) b a e).2.1 (rByte (m && e == 0) b a e).2.2:=by
  refine fun_sound (ic:=FX21.body) mixed cX21 rfl rfl ?_
  simp only [FX21,ro,go_sem]
  refine call_m (s_take m b a e 1 ha hb (by decide)) ⟨by decide,by decide⟩ (slv_ids _) (by simp [go_sem]) rfl rfl (by rfl) ?_
  have h1:¬ ((1:Int) < 0):=by decide
  cases h:(m && e == 0)
  · have r:rTake false b a e 1 = (none,a,e):=by simp [rTake]
    simp only [go_sem,r,rByte,ro,Int.reduceBEq,Bool.false_eq_true]
    exact done [] _ [(1000,ro m b a e)] (by simp only [go_sem]; rfl) (by simp only [go_sem,ro]) rfl ⟨rfl,rfl⟩
  · by_cases h2:(b.length:Int) - a < 1
    · have r:rTake true b a e 1 = (none,a,3):=by simp only [rTake,if_true,if_neg h1]; rw [if_pos (by omega)]
      have r2:rByte true b a e = (0,a,3):=by simp only [rByte,if_true,if_pos h2]
      simp only [go_sem,r,r2,ro,Int.reduceBEq]
      exact done [] _ [(1000,ro m b a 3)] (by simp only [go_sem]; rfl) (by simp only [go_sem,ro]) rfl ⟨rfl,rfl⟩
    · have hl:a < b.length:=by omega
      have e1:(b.drop a).take 1 = [nth b a]:=by rw [List.drop_eq_getElem_cons hl,nth_eq hl]; rfl
      have r:rTake true b a e 1 = (some [nth b a],a + 1,e):=by
        simp only [rTake,if_true,if_neg h1]; rw [if_neg (by omega)]
        rw [show (1:Int).toNat = 1 from rfl,e1]
      have r2:rByte true b a e = (nth b a,a + 1,e):=by simp only [rByte,if_true,if_neg h2]
      simp only [go_sem,r,r2,ro,one1,List.length_cons,List.length_nil,aI1]
      exact done [] _ [(1000,ro m b ((a + 1:Nat):Int) e)] (by simp only [go_sem]) (by simp only [go_sem,ro]) rfl ⟨rfl,rfl⟩

theorem s_err (m:Bool) (b:List UInt8) (a e:Int):RM nX42 [] m b a e (.int .i64 (if m = true then e else 2)) a e:=by
  refine fun_sound (ic:=FX42.body) mixed cX42 rfl rfl ?_
  cases m
  · simp only [FX42,ro,go_sem]
    exact done [] _ [(1000,ro false b a e)] (by simp only [go_sem]) (by simp only [go_sem,ro]) rfl ⟨rfl,rfl⟩
  · simp only [FX42,ro,go_sem]
    exact done [] _ [(1000,ro true b a e)] (by simp only [go_sem]) (by simp only [go_sem,ro]) rfl ⟨rfl,rfl⟩
def rLeft (ok:Bool) (b:List UInt8) (a:Nat):Int:=if ok = true then (b.length:Int) - a else 0
theorem s_left (m:Bool) (b:List UInt8) (a:Nat) (e:Int) (ha:a ≤ b.length) (hb:b.length < 1000000000):RM nX25 [] m b a e (.int .i64 (rLeft (m && e == 0) b a)) a e:=by
  refine fun_sound (ic:=FX25.body) mixed cX25 rfl rfl ?_
  simp only [FX25,ro,go_sem]
  refine call_m (s_sound m b a e) ⟨by decide,by decide⟩ rfl (by simp) rfl rfl (by rfl) ?_
  have w1:IntKind.i64.wrap ((b.length:Int) - (a:Int)) = (b.length:Int) - (a:Int):=wi (by omega) (by omega)
  cases h:(m && e == 0)
  · simp only [go_sem,ro,rLeft,Bool.false_eq_true]
    exact done [] _ [(1000,ro m b a e)] (by simp only [go_sem]) (by simp only [go_sem,ro]) rfl ⟨rfl,rfl⟩
  · simp only [go_sem,ro,rLeft,w1]
    exact done [] _ [(1000,ro m b a e)] (by simp only [go_sem]) (by simp only [go_sem,ro]) rfl ⟨rfl,rfl⟩
def rEnd (m:Bool) (b:List UInt8) (a:Nat) (e:Int):Int:=if m = true then (if e ≠ 0 then e else if a = b.length then 0 else 5) else 2
theorem s_end (m:Bool) (b:List UInt8) (a:Nat) (e:Int):RM nX41 [] m b a e (.int .i64 (rEnd m b a e)) a e:=by
  refine fun_sound (ic:=FX41.body) mixed cX41 rfl rfl ?_
  simp only [FX41,ro,go_sem]
  refine call_m (s_err m b a e) ⟨by decide,by decide⟩ rfl (by simp) rfl rfl (by rfl) ?_
  cases m
  · have d:((2:Int) != 0) = true:=rfl
    simp only [go_sem,ro,rEnd,Bool.false_eq_true,d]
    exact done [] _ [(1000,ro false b a e)] (by simp only [go_sem]) (by simp only [go_sem,ro]) rfl ⟨rfl,rfl⟩
  · by_cases he:e = 0
    · subst he
      have d:((0:Int) != 0) = false:=rfl
      by_cases h2:a = b.length
      · have d2:((a:Int) == (b.length:Int)) = true:=by simp [h2]
        have r:rEnd true b a 0 = 0:=by simp [rEnd,h2]
        simp only [go_sem,ro,d,d2,r]
        exact done [] _ [(1000,ro true b a 0)] (by simp only [go_sem]) (by simp only [go_sem,ro]) rfl ⟨rfl,rfl⟩
      · have d2:((a:Int) == (b.length:Int)) = false:=by rw [beq_eq_false_iff_ne]; omega
        have r:rEnd true b a 0 = 5:=by simp [rEnd,h2]
        simp only [go_sem,ro,d,d2,r]
        exact done [] _ [(1000,ro true b a 0)] (by simp only [go_sem]) (by simp only [go_sem,ro]) rfl ⟨rfl,rfl⟩
    · have d:(e != 0) = true:=by simp [he]
      have r:rEnd true b a e = e:=by simp [rEnd,he]
      simp only [go_sem,ro,d,r]
      exact done [] _ [(1000,ro true b a e)] (by simp only [go_sem]) (by simp only [go_sem,ro]) rfl ⟨rfl,rfl⟩
theorem s_unsigned (m:Bool) (bits:Nat) (b:List UInt8) (a:Nat) (e:Int) (hbits:1 ≤ bits ∧ bits ≤ 64) (ha:a ≤ b.length) (hb:b.length < 1000000000) :
    RM nX7 [.int .i64 bits] m b a e (.int .u64 (rU (m && e == 0) bits b a e).1) (rU (m && e == 0) bits b a e).2.1 (rU (m && e == 0) bits b a e).2.2:=by
  refine fun_sound (ic:=FX7.body) mixed cX7 rfl rfl ?_
  simp only [FX7,ro,go_sem]
  refine call_m (s_sound m b a e) ⟨by decide,by decide⟩ rfl (by simp) rfl rfl (by rfl) ?_
  cases h:(m && e == 0)
  · have r:rU false bits b a e = (0,a,e):=by simp [rU]
    simp only [go_sem,ro,r]
    exact done [] _ [(1000,ro m b a e)] (by simp only [go_sem]; rfl) (by simp only [go_sem,ro]) rfl ⟨rfl,rfl⟩
  · obtain ⟨rfl,h2⟩:=Bool.and_eq_true_iff.1 h
    obtain rfl:e = 0:=by simpa using h2
    simp only [go_sem,ro]
    have hk:=decU_k (b.drop a) bits
    simp only [List.length_drop] at hk
    refine ⟨⟨by omega,by omega⟩,call_same (s_U (b.drop a) bits hbits) (by simp [go_sem]) ?_⟩
    by_cases hq:(decU (b.drop a) bits).2.2 = 0
    · have d:((decU (b.drop a) bits).2.2 != 0) = false:=by simp [hq]
      have r:rU true bits b a 0 = ((decU (b.drop a) bits).1,a + (decU (b.drop a) bits).2.1,0):=by simp [rU,hq]
      have w1:IntKind.i64.wrap ((a:Int) + ((decU (b.drop a) bits).2.1:Int)) = ((a + (decU (b.drop a) bits).2.1:Nat):Int):=by rw [wi (by omega) (by omega)]; omega
      rw [r]
      simp only [go_sem,ro,uR,d,w1]
      exact done [] _ [(1000,ro true b ((a + (decU (b.drop a) bits).2.1:Nat):Int) 0)] (by simp only [go_sem]) (by simp only [go_sem,ro]) rfl ⟨rfl,rfl⟩
    · have d:((decU (b.drop a) bits).2.2 != 0) = true:=by simp [hq]
      have r:rU true bits b a 0 = (0,a,(decU (b.drop a) bits).2.2):=by simp [rU,hq]
      rw [r]
      simp only [go_sem,ro,uR,d]
      refine call_m (s_fail_ok b a (decU (b.drop a) bits).2.2) ⟨by decide,by decide⟩ rfl (by simp [go_sem]) rfl rfl (by rfl) ?_
      simp only [go_sem,ro]
      exact done [] _ [(1000,ro true b a (decU (b.drop a) bits).2.2)] (by simp only [go_sem]; rfl) (by simp only [go_sem,ro]) rfl ⟨rfl,rfl⟩

theorem s_U32 (m:Bool) (b:List UInt8) (a:Nat) (e:Int) (ha:a ≤ b.length) (hb:b.length < 1000000000) :
    RM nX37 [] m b a e (.int .i64 (rU (m && e == 0) 32 b a e).1) (rU (m && e == 0) 32 b a e).2.1 (rU (m && e == 0) 32 b a e).2.2:=by
  refine fun_sound (ic:=FX37.body) mixed cX37 rfl rfl ?_
  have hl:=rU_lt (m && e == 0) b a e
  have w1:IntKind.i64.wrap ((rU (m && e == 0) 32 b a e).1:Int) = ((rU (m && e == 0) 32 b a e).1:Int):=wi (by omega) (by omega)
  simp only [FX37,ro,go_sem]
  refine call_m (s_unsigned m 32 b a e (by decide) ha hb) ⟨by decide,by decide⟩ rfl (by simp [go_sem]) rfl rfl (by rfl) ?_
  simp only [go_sem,ro,w1]
  exact done [] _ [(1000,ro m b (rU (m && e == 0) 32 b a e).2.1 (rU (m && e == 0) 32 b a e).2.2)] (by simp only [go_sem]) (by simp only [go_sem,ro]) rfl ⟨rfl,rfl⟩
theorem s_count (m:Bool) (b:List UInt8) (a:Nat) (e most:Int) (ha:a ≤ b.length) (hb:b.length < 1000000000) :
    RM nX17 [.int .i64 most] m b a e (.int .i64 (rCount (m && e == 0) b a e most).1) (rCount (m && e == 0) b a e most).2.1 (rCount (m && e == 0) b a e most).2.2:=by
  refine fun_sound (ic:=FX17.body) mixed cX17 rfl rfl ?_
  simp only [FX17,ro,go_sem]
  refine call_m (s_sound m b a e) ⟨by decide,by decide⟩ rfl (by simp) rfl rfl (by rfl) ?_
  cases h:(m && e == 0)
  · have r:rCount false b a e most = (0,a,e):=by simp [rCount]
    simp only [go_sem,ro,r]
    exact done [] _ [(1000,ro m b a e)] (by simp only [go_sem]; rfl) (by simp only [go_sem,ro]) rfl ⟨rfl,rfl⟩
  · obtain ⟨rfl,h2⟩:=Bool.and_eq_true_iff.1 h
    obtain rfl:e = 0:=by simpa using h2
    simp only [go_sem,ro]
    refine call_m (s_U32 true b a 0 ha hb) ⟨by decide,by decide⟩ rfl (by simp [go_sem]) rfl rfl (by rfl) ?_
    rw [h]
    by_cases hq:(rU true 32 b a 0).2.2 = 0
    · have d:((rU true 32 b a 0).2.2 == 0) = true:=by simp [hq]
      by_cases hm:((rU true 32 b a 0).1:Int) > most
      · have d2:decide (((rU true 32 b a 0).1:Int) > most) = true:=by simpa using hm
        have r:rCount true b a 0 most = (0,a,6):=by simp only [rCount,if_true]; rw [if_pos ⟨hq,hm⟩]
        simp only [go_sem,ro,d,d2,hq]
        refine call_m (s_fail_ok b a 6) ⟨by decide,by decide⟩ rfl (by simp [go_sem]) rfl rfl (by rfl) ?_
        rw [r]
        simp only [go_sem,ro]
        exact done [] _ [(1000,ro true b a 6)] (by simp only [go_sem]; rfl) (by simp only [go_sem,ro]) rfl ⟨rfl,rfl⟩
      · have d2:decide (((rU true 32 b a 0).1:Int) > most) = false:=by simpa using hm
        have r:rCount true b a 0 most = rU true 32 b a 0:=by simp only [rCount,if_true]; rw [if_neg (fun hh=>hm hh.2)]
        rw [r]
        simp only [go_sem,ro,d,d2]
        exact done [] _ [(1000,ro true b (rU true 32 b a 0).2.1 (rU true 32 b a 0).2.2)] (by simp only [go_sem]) (by simp only [go_sem,ro]) rfl ⟨rfl,rfl⟩
    · have d:((rU true 32 b a 0).2.2 == 0) = false:=by simp [hq]
      have r:rCount true b a 0 most = rU true 32 b a 0:=by simp only [rCount,if_true]; rw [if_neg (fun hh=>hq hh.1)]
      rw [r]
      simp only [go_sem,ro,d]
      exact done [] _ [(1000,ro true b (rU true 32 b a 0).2.1 (rU true 32 b a 0).2.2)] (by simp only [go_sem]) (by simp only [go_sem,ro]) rfl ⟨rfl,rfl⟩
end Go.Proofs.YtoikbadfbneahaaGreatDoor
set_option linter.unusedVariables false
namespace Go.Proofs.YtoikbadfbneahaaGreatDoor
open Go Go.Mw

theorem or_sh {n y s:Nat} (p:Nat) (hp:2 ^ s = p) (hs:s ≤ 56) (hn:n < p) (hy:y < 256):b_or .u64 (n:Int) (b_shl .u64 (y:Int) (s:Int)) = ((n + y * p:Nat):Int):=by
  subst hp
  rw [shl64 (by omega),or_shift (by omega) hn]
  have h1:2 ^ s ≤ 2 ^ 56:=Nat.pow_le_pow_right (by decide) hs
  have h2:y * 2 ^ s ≤ 255 * 2 ^ 56:=Nat.mul_le_mul (by omega) h1
  rw [Nat.mod_eq_of_lt (by omega)]

def wrd (l:List UInt8):Nat:=(nth l 0).toNat + (nth l 1).toNat * 256 + (nth l 2).toNat * 65536 + (nth l 3).toNat * 16777216 + (nth l 4).toNat * 4294967296 + (nth l 5).toNat * 1099511627776 + (nth l 6).toNat * 281474976710656 + (nth l 7).toNat * 72057594037927936
theorem wrd_lt (l:List UInt8):wrd l < 18446744073709551616:=by
  have h0:=(nth l 0).toNat_lt; have h1:=(nth l 1).toNat_lt; have h2:=(nth l 2).toNat_lt; have h3:=(nth l 3).toNat_lt
  have h4:=(nth l 4).toNat_lt; have h5:=(nth l 5).toNat_lt; have h6:=(nth l 6).toNat_lt; have h7:=(nth l 7).toNat_lt
  unfold wrd
  omega
theorem hi_bit {w:Nat} (h:w &&& 9259542123273814144 = 0) {k:Nat} (hk:(9259542123273814144:Nat).testBit k = true):w / 2 ^ k % 2 = 0:=by
  have h1:(w &&& 9259542123273814144).testBit k = false:=by rw [h]; simp
  rw [Nat.testBit_and,hk,Bool.and_true] at h1
  rw [Nat.testBit_eq_decide_div_mod_eq] at h1
  simp at h1
  omega
theorem top_bit {w p low b high:Nat} (hp:0 < p) (hl:low < p) (hb:b < 256) (e:w = low + p * (b + 256 * high)) (h:w / (p * 128) % 2 = 0):b < 128:=by
  have h1:w / p = b + 256 * high:=by rw [e,Nat.add_mul_div_left _ _ hp,Nat.div_eq_of_lt hl,Nat.zero_add]
  rw [← Nat.div_div_eq_div_mul,h1] at h
  omega
theorem wrd_asc {l:List UInt8} (h:wrd l &&& 9259542123273814144 = 0):∀ i,i < 8 → (nth l i).toNat < 128:=by
  have h0:=(nth l 0).toNat_lt; have h1:=(nth l 1).toNat_lt; have h2:=(nth l 2).toNat_lt; have h3:=(nth l 3).toNat_lt
  have h4:=(nth l 4).toNat_lt; have h5:=(nth l 5).toNat_lt; have h6:=(nth l 6).toNat_lt; have h7:=(nth l 7).toNat_lt
  have g0:(nth l 0).toNat < 128:=top_bit (w:=wrd l) (p:=1) (low:=0) (high:=0 + (nth l 1).toNat * 1 + (nth l 2).toNat * 256 + (nth l 3).toNat * 65536 + (nth l 4).toNat * 16777216 + (nth l 5).toNat * 4294967296 + (nth l 6).toNat * 1099511627776 + (nth l 7).toNat * 281474976710656) (by decide) (by omega) h0 (by unfold wrd; omega) (hi_bit h (k:=7) (by decide))
  have g1:(nth l 1).toNat < 128:=top_bit (w:=wrd l) (p:=256) (low:=0 + (nth l 0).toNat * 1) (high:=0 + (nth l 2).toNat * 1 + (nth l 3).toNat * 256 + (nth l 4).toNat * 65536 + (nth l 5).toNat * 16777216 + (nth l 6).toNat * 4294967296 + (nth l 7).toNat * 1099511627776) (by decide) (by omega) h1 (by unfold wrd; omega) (hi_bit h (k:=15) (by decide))
  have g2:(nth l 2).toNat < 128:=top_bit (w:=wrd l) (p:=65536) (low:=0 + (nth l 0).toNat * 1 + (nth l 1).toNat * 256) (high:=0 + (nth l 3).toNat * 1 + (nth l 4).toNat * 256 + (nth l 5).toNat * 65536 + (nth l 6).toNat * 16777216 + (nth l 7).toNat * 4294967296) (by decide) (by omega) h2 (by unfold wrd; omega) (hi_bit h (k:=23) (by decide))
  have g3:(nth l 3).toNat < 128:=top_bit (w:=wrd l) (p:=16777216) (low:=0 + (nth l 0).toNat * 1 + (nth l 1).toNat * 256 + (nth l 2).toNat * 65536) (high:=0 + (nth l 4).toNat * 1 + (nth l 5).toNat * 256 + (nth l 6).toNat * 65536 + (nth l 7).toNat * 16777216) (by decide) (by omega) h3 (by unfold wrd; omega) (hi_bit h (k:=31) (by decide))
  have g4:(nth l 4).toNat < 128:=top_bit (w:=wrd l) (p:=4294967296) (low:=0 + (nth l 0).toNat * 1 + (nth l 1).toNat * 256 + (nth l 2).toNat * 65536 + (nth l 3).toNat * 16777216) (high:=0 + (nth l 5).toNat * 1 + (nth l 6).toNat * 256 + (nth l 7).toNat * 65536) (by decide) (by omega) h4 (by unfold wrd; omega) (hi_bit h (k:=39) (by decide))
  have g5:(nth l 5).toNat < 128:=top_bit (w:=wrd l) (p:=1099511627776) (low:=0 + (nth l 0).toNat * 1 + (nth l 1).toNat * 256 + (nth l 2).toNat * 65536 + (nth l 3).toNat * 16777216 + (nth l 4).toNat * 4294967296) (high:=0 + (nth l 6).toNat * 1 + (nth l 7).toNat * 256) (by decide) (by omega) h5 (by unfold wrd; omega) (hi_bit h (k:=47) (by decide))
  have g6:(nth l 6).toNat < 128:=top_bit (w:=wrd l) (p:=281474976710656) (low:=0 + (nth l 0).toNat * 1 + (nth l 1).toNat * 256 + (nth l 2).toNat * 65536 + (nth l 3).toNat * 16777216 + (nth l 4).toNat * 4294967296 + (nth l 5).toNat * 1099511627776) (high:=0 + (nth l 7).toNat * 1) (by decide) (by omega) h6 (by unfold wrd; omega) (hi_bit h (k:=55) (by decide))
  have g7:(nth l 7).toNat < 128:=top_bit (w:=wrd l) (p:=72057594037927936) (low:=0 + (nth l 0).toNat * 1 + (nth l 1).toNat * 256 + (nth l 2).toNat * 65536 + (nth l 3).toNat * 16777216 + (nth l 4).toNat * 4294967296 + (nth l 5).toNat * 1099511627776 + (nth l 6).toNat * 281474976710656) (high:=0) (by decide) (by omega) h7 (by unfold wrd; omega) (hi_bit h (k:=63) (by decide))
  intro i hi
  have e:i = 0 ∨ i = 1 ∨ i = 2 ∨ i = 3 ∨ i = 4 ∨ i = 5 ∨ i = 6 ∨ i = 7:=by omega
  rcases e with rfl | rfl | rfl | rfl | rfl | rfl | rfl | rfl <;> assumption
theorem or_and_zero {a b h:Nat} (hh:(a ||| b) &&& h = 0):a &&& h = 0 ∧ b &&& h = 0:=by
  rw [Nat.and_or_distrib_right] at hh
  exact ⟨Nat.eq_zero_of_le_zero (by rw [← hh]; exact Nat.left_le_or),Nat.eq_zero_of_le_zero (by rw [← hh]; exact Nat.right_le_or)⟩
theorem and_hi {a:Nat} (ha:a < 18446744073709551616):b_and .u64 (a:Int) 9259542123273814144 = ((a &&& 9259542123273814144:Nat):Int):=by
  have h:(BitVec.ofInt 64 (a:Int) &&& BitVec.ofInt 64 ((9259542123273814144:Nat):Int)).toNat = a &&& 9259542123273814144:=and_nat ha (by decide)
  show IntKind.u64.wrap ((BitVec.ofInt 64 (a:Int) &&& BitVec.ofInt 64 ((9259542123273814144:Nat):Int)).toNat) = _
  rw [h,w_u64]
  have:a &&& 9259542123273814144 ≤ a:=Nat.and_le_left
  omega
theorem or_w {a b:Nat} (ha:a < 18446744073709551616) (hb:b < 18446744073709551616):b_or .u64 (a:Int) (b:Int) = ((a ||| b:Nat):Int) ∧ a ||| b < 18446744073709551616:=by
  have h:(BitVec.ofInt 64 (a:Int) ||| BitVec.ofInt 64 (b:Int)).toNat = a ||| b:=or_nat ha hb
  have hl:a ||| b < 2 ^ 64:=Nat.or_lt_two_pow ha hb
  refine ⟨?_,hl⟩
  show IntKind.u64.wrap ((BitVec.ofInt 64 (a:Int) ||| BitVec.ofInt 64 (b:Int)).toNat) = _
  rw [h,w_u64]
  omega

def run1 (l:List UInt8):Option Nat :=
  let x:=Lib.firstT (nth l 0).toNat
  let lo:=Lib.accLo (x / 16)
  let hi:=Lib.accHi (x / 16)
  if x % 8 = 2 then (if 2 ≤ l.length ∧ lo ≤ (nth l 1).toNat ∧ (nth l 1).toNat ≤ hi then some 2 else none)
  else if x % 8 = 3 then (if 3 ≤ l.length ∧ lo ≤ (nth l 1).toNat ∧ (nth l 1).toNat ≤ hi ∧ 128 ≤ (nth l 2).toNat ∧ (nth l 2).toNat ≤ 191 then some 3 else none)
  else if x % 8 = 4 then (if 4 ≤ l.length ∧ lo ≤ (nth l 1).toNat ∧ (nth l 1).toNat ≤ hi ∧ 128 ≤ (nth l 2).toNat ∧ (nth l 2).toNat ≤ 191 ∧ 128 ≤ (nth l 3).toNat ∧ (nth l 3).toNat ≤ 191 then some 4 else none)
  else none
def uvF:Nat → List UInt8 → Bool
  | 0,_=>true
  | _ + 1,[]=>true
  | f + 1,b :: r=>if b.toNat < 128 then uvF f r else match run1 (b :: r) with
    | some k=>uvF f ((b :: r).drop k)
    | none=>false
def uv (l:List UInt8):Bool:=uvF l.length l
theorem run1_pos {l:List UInt8} {k:Nat} (h:run1 l = some k):2 ≤ k ∧ k ≤ l.length:=by
  unfold run1 at h
  simp only at h
  repeat' split at h
  all_goals first | (cases h; done) | (cases h; rename_i hh; exact ⟨by omega,hh.1⟩)
theorem uvF_enough:∀ (f g:Nat) (l:List UInt8),l.length ≤ f → l.length ≤ g → uvF f l = uvF g l
  | 0,0,_,_,_=>rfl
  | 0,g + 1,l,h,_=>by
    have:l = []:=List.eq_nil_of_length_eq_zero (by omega)
    subst this; rfl
  | f + 1,0,l,_,h=>by
    have:l = []:=List.eq_nil_of_length_eq_zero (by omega)
    subst this; rfl
  | f + 1,g + 1,[],_,_=>rfl
  | f + 1,g + 1,b :: r,h1,h2=>by
    simp only [List.length_cons] at h1 h2
    simp only [uvF]
    split
    · exact uvF_enough f g r (by omega) (by omega)
    · cases hk:run1 (b :: r) with
      | none=>rfl
      | some k =>
        have:=run1_pos hk
        exact uvF_enough f g _ (by simp only [List.length_drop,List.length_cons]; omega) (by simp only [List.length_drop,List.length_cons]; omega)
theorem uv_nil:uv [] = true:=rfl
theorem uv_asc {l:List UInt8} (hl:0 < l.length) (h:(nth l 0).toNat < 128):uv l = uv (l.drop 1):=by
  cases l with
  | nil=>simp at hl
  | cons b r =>
    have h':b.toNat < 128:=h
    simp only [uv,List.length_cons,uvF,List.drop_succ_cons,List.drop_zero]
    rw [if_pos h']
theorem uv_run {l:List UInt8} {k:Nat} (hl:0 < l.length) (h:¬ (nth l 0).toNat < 128) (hk:run1 l = some k):uv l = uv (l.drop k):=by
  have hp:=run1_pos hk
  cases l with
  | nil=>simp at hl
  | cons b r =>
    have h':¬ b.toNat < 128:=h
    simp only [uv,List.length_cons,uvF]
    rw [if_neg h',hk]
    exact uvF_enough _ _ _ (by simp only [List.length_drop,List.length_cons]; omega) (Nat.le_refl _)
theorem uv_bad {l:List UInt8} (hl:0 < l.length) (h:¬ (nth l 0).toNat < 128) (hk:run1 l = none):uv l = false:=by
  cases l with
  | nil=>simp at hl
  | cons b r =>
    have h':¬ b.toNat < 128:=h
    simp only [uv,List.length_cons,uvF]
    rw [if_neg h',hk]
theorem uv_drop {l:List UInt8}:∀ k,k ≤ l.length → (∀ i,i < k → (nth l i).toNat < 128) → uv l = uv (l.drop k)
  | 0,_,_=>rfl
  | k + 1,hk,h=>by
    rw [uv_drop k (by omega) (fun i hi=>h i (by omega)),uv_asc (by simp; omega) (by rw [nth_drop]; exact h k (by omega)),List.drop_drop]
theorem uv_word {l:List UInt8} (hl:8 ≤ l.length) (h:wrd l &&& 9259542123273814144 = 0):uv l = uv (l.drop 8):=uv_drop 8 hl (wrd_asc h)
end Go.Proofs.YtoikbadfbneahaaGreatDoor
set_option linter.unusedSimpArgs false
set_option maxRecDepth 100000
set_option maxHeartbeats 4000000
set_option linter.unusedVariables false
namespace Go.Proofs.YtoikbadfbneahaaGreatDoor
open Go Go.Mw

theorem c64 (b:UInt8):IntKind.u64.wrap (b.toNat:Int) = (b.toNat:Int):=by
  have:=b.toNat_lt
  rw [w_u64]; omega
theorem wrd_or (l:List UInt8):b_or .u64 (b_or .u64 (b_or .u64 (b_or .u64 (b_or .u64 (b_or .u64 (b_or .u64 ((nth l 0).toNat:Int) (b_shl .u64 ((nth l 1).toNat:Int) 8)) (b_shl .u64 ((nth l 2).toNat:Int) 16)) (b_shl .u64 ((nth l 3).toNat:Int) 24)) (b_shl .u64 ((nth l 4).toNat:Int) 32)) (b_shl .u64 ((nth l 5).toNat:Int) 40)) (b_shl .u64 ((nth l 6).toNat:Int) 48)) (b_shl .u64 ((nth l 7).toNat:Int) 56) = ((wrd l:Nat):Int):=by
  have h0:=(nth l 0).toNat_lt; have h1:=(nth l 1).toNat_lt; have h2:=(nth l 2).toNat_lt; have h3:=(nth l 3).toNat_lt
  have h4:=(nth l 4).toNat_lt; have h5:=(nth l 5).toNat_lt; have h6:=(nth l 6).toNat_lt; have h7:=(nth l 7).toNat_lt
  have e1:b_or .u64 (((nth l 0).toNat:Nat):Int) (b_shl .u64 ((nth l 1).toNat:Int) 8) = (((nth l 0).toNat + (nth l 1).toNat * 256:Nat):Int):=or_sh (s:=8) 256 (by decide) (by decide) (by omega) h1
  have e2:b_or .u64 (((nth l 0).toNat + (nth l 1).toNat * 256:Nat):Int) (b_shl .u64 ((nth l 2).toNat:Int) 16) = (((nth l 0).toNat + (nth l 1).toNat * 256 + (nth l 2).toNat * 65536:Nat):Int):=or_sh (s:=16) 65536 (by decide) (by decide) (by omega) h2
  have e3:b_or .u64 (((nth l 0).toNat + (nth l 1).toNat * 256 + (nth l 2).toNat * 65536:Nat):Int) (b_shl .u64 ((nth l 3).toNat:Int) 24) = (((nth l 0).toNat + (nth l 1).toNat * 256 + (nth l 2).toNat * 65536 + (nth l 3).toNat * 16777216:Nat):Int):=or_sh (s:=24) 16777216 (by decide) (by decide) (by omega) h3
  have e4:b_or .u64 (((nth l 0).toNat + (nth l 1).toNat * 256 + (nth l 2).toNat * 65536 + (nth l 3).toNat * 16777216:Nat):Int) (b_shl .u64 ((nth l 4).toNat:Int) 32) = (((nth l 0).toNat + (nth l 1).toNat * 256 + (nth l 2).toNat * 65536 + (nth l 3).toNat * 16777216 + (nth l 4).toNat * 4294967296:Nat):Int):=or_sh (s:=32) 4294967296 (by decide) (by decide) (by omega) h4
  have e5:b_or .u64 (((nth l 0).toNat + (nth l 1).toNat * 256 + (nth l 2).toNat * 65536 + (nth l 3).toNat * 16777216 + (nth l 4).toNat * 4294967296:Nat):Int) (b_shl .u64 ((nth l 5).toNat:Int) 40) = (((nth l 0).toNat + (nth l 1).toNat * 256 + (nth l 2).toNat * 65536 + (nth l 3).toNat * 16777216 + (nth l 4).toNat * 4294967296 + (nth l 5).toNat * 1099511627776:Nat):Int):=or_sh (s:=40) 1099511627776 (by decide) (by decide) (by omega) h5
  have e6:b_or .u64 (((nth l 0).toNat + (nth l 1).toNat * 256 + (nth l 2).toNat * 65536 + (nth l 3).toNat * 16777216 + (nth l 4).toNat * 4294967296 + (nth l 5).toNat * 1099511627776:Nat):Int) (b_shl .u64 ((nth l 6).toNat:Int) 48) = (((nth l 0).toNat + (nth l 1).toNat * 256 + (nth l 2).toNat * 65536 + (nth l 3).toNat * 16777216 + (nth l 4).toNat * 4294967296 + (nth l 5).toNat * 1099511627776 + (nth l 6).toNat * 281474976710656:Nat):Int):=or_sh (s:=48) 281474976710656 (by decide) (by decide) (by omega) h6
  have e7:b_or .u64 (((nth l 0).toNat + (nth l 1).toNat * 256 + (nth l 2).toNat * 65536 + (nth l 3).toNat * 16777216 + (nth l 4).toNat * 4294967296 + (nth l 5).toNat * 1099511627776 + (nth l 6).toNat * 281474976710656:Nat):Int) (b_shl .u64 ((nth l 7).toNat:Int) 56) = (((nth l 0).toNat + (nth l 1).toNat * 256 + (nth l 2).toNat * 65536 + (nth l 3).toNat * 16777216 + (nth l 4).toNat * 4294967296 + (nth l 5).toNat * 1099511627776 + (nth l 6).toNat * 281474976710656 + (nth l 7).toNat * 72057594037927936:Nat):Int):=or_sh (s:=56) 72057594037927936 (by decide) (by decide) (by omega) h7
  rw [e1,e2,e3,e4,e5,e6,e7]
  rfl
theorem s_wordS (l:List UInt8) (h:8 ≤ l.length):PCalls Tryz.prog nX44 [.str l] (.int .u64 (wrd l)):=by
  refine pfun_sound (ic:=FX44.body) mixed cX44 rfl rfl ?_
  simp only [FX44,go_sem,c64]
  refine ⟨by omega,by omega,by omega,by omega,by omega,by omega,by omega,by omega,by omega,by omega,by omega,by omega,by omega,by omega,by omega,by omega,by omega,by omega,by omega,by omega,by omega,by omega,by omega,?_⟩
  exact pdone [] (by simp only [go_sem,wrd_or]) rfl
theorem s_wordB (l:List UInt8) (h:8 ≤ l.length):PCalls Tryz.prog nX54 [.sl 1 (l.map by_)] (.int .u64 (wrd l)):=by
  refine pfun_sound (ic:=FX54.body) mixed cX54 rfl rfl ?_
  simp only [FX54,go_sem,c64]
  refine ⟨by omega,by omega,by omega,by omega,by omega,by omega,by omega,by omega,by omega,by omega,by omega,by omega,by omega,by omega,by omega,by omega,by omega,by omega,by omega,by omega,by omega,by omega,by omega,?_⟩
  exact pdone [] (by simp only [go_sem,wrd_or]) rfl
end Go.Proofs.YtoikbadfbneahaaGreatDoor
set_option linter.unusedSimpArgs false
set_option maxRecDepth 100000
set_option maxHeartbeats 8000000
set_option linter.unusedVariables false
namespace Go.Proofs.YtoikbadfbneahaaGreatDoor
open Go Go.Mw

theorem and7 {x:Nat} (hx:x < 256):b_and .u8 (x:Int) 7 = ((x % 8:Nat):Int):=by
  have:(BitVec.ofInt 8 (x:Int) &&& BitVec.ofInt 8 ((7:Nat):Int)).toNat = x &&& 7:=and_nat hx (by decide)
  show IntKind.u8.wrap ((BitVec.ofInt 8 (x:Int) &&& BitVec.ofInt 8 ((7:Nat):Int)).toNat) = _
  rw [this,show (7:Nat) = 2 ^ 3 - 1 from rfl,Nat.and_two_pow_sub_one_eq_mod,w_u8]
  omega
theorem run2 {l:List UInt8} (z:Lib.firstT (nth l 0).toNat % 8 = 2):run1 l = if 2 ≤ l.length ∧ Lib.accLo (Lib.firstT (nth l 0).toNat / 16) ≤ (nth l 1).toNat ∧ (nth l 1).toNat ≤ Lib.accHi (Lib.firstT (nth l 0).toNat / 16) then some 2 else none:=by
  unfold run1
  simp only
  rw [if_pos z]
theorem run3 {l:List UInt8} (z:Lib.firstT (nth l 0).toNat % 8 = 3):run1 l = if 3 ≤ l.length ∧ Lib.accLo (Lib.firstT (nth l 0).toNat / 16) ≤ (nth l 1).toNat ∧ (nth l 1).toNat ≤ Lib.accHi (Lib.firstT (nth l 0).toNat / 16) ∧ 128 ≤ (nth l 2).toNat ∧ (nth l 2).toNat ≤ 191 then some 3 else none:=by
  unfold run1
  simp only
  rw [if_neg (by omega),if_pos z]
theorem run4 {l:List UInt8} (z:Lib.firstT (nth l 0).toNat % 8 = 4):run1 l = if 4 ≤ l.length ∧ Lib.accLo (Lib.firstT (nth l 0).toNat / 16) ≤ (nth l 1).toNat ∧ (nth l 1).toNat ≤ Lib.accHi (Lib.firstT (nth l 0).toNat / 16) ∧ 128 ≤ (nth l 2).toNat ∧ (nth l 2).toNat ≤ 191 ∧ 128 ≤ (nth l 3).toNat ∧ (nth l 3).toNat ≤ 191 then some 4 else none:=by
  unfold run1
  simp only
  rw [if_neg (by omega),if_neg (by omega),if_pos z]
theorem runN {l:List UInt8} (z2:¬ Lib.firstT (nth l 0).toNat % 8 = 2) (z3:¬ Lib.firstT (nth l 0).toNat % 8 = 3) (z4:¬ Lib.firstT (nth l 0).toNat % 8 = 4):run1 l = none:=by
  unfold run1
  simp only
  rw [if_neg z2,if_neg z3,if_neg z4]
theorem first_lt (b:Nat):Lib.firstT b < 256:=by
  rcases Lib.firstT_cases b with h | h | h | h | h | h | h | h | h <;> rw [h] <;> decide
theorem ld_first {x:Nat} (hx:x < 256):ldc none (tab0.drop (x * 1)) = some (.int .u8 (Lib.firstT x)):=by
  have:(tab0.drop x)[0]? = some (.int .u8 (Lib.firstT x)):=by
    rw [List.getElem?_drop,Nat.add_zero,tab0,List.getElem?_map,List.getElem?_range hx]; rfl
  rw [Nat.mul_one]
  simp only [ldc]
  exact this
theorem ld_acc {i:Nat} (hi:i < 16):ldc (some 2) (tab1.drop (i * 2)) = some (.agg [.int .u8 (Lib.accLo i),.int .u8 (Lib.accHi i)]):=by
  have hl:tab1.length = 32:=by simp [tab1]
  have e0:tab1[i * 2]? = some (.int .u8 (Lib.accLo i)):=by
    rw [tab1,List.getElem?_map,List.getElem?_range (by omega)]
    simp only [Option.map_some]
    rw [if_pos (by omega),show i * 2 / 2 = i by omega]
  have e1:tab1[i * 2 + 1]? = some (.int .u8 (Lib.accHi i)):=by
    rw [tab1,List.getElem?_map,List.getElem?_range (by omega)]
    simp only [Option.map_some]
    rw [if_neg (by omega),show (i * 2 + 1) / 2 = i by omega]
  have h0:i * 2 < tab1.length:=by omega
  have h1:i * 2 + 1 < tab1.length:=by omega
  simp only [ldc]
  rw [if_pos (by simp [hl]; omega),List.drop_eq_getElem_cons h0,List.drop_eq_getElem_cons h1]
  rw [List.getElem?_eq_getElem h0] at e0
  rw [List.getElem?_eq_getElem h1] at e1
  simp only [List.take_succ_cons,List.take_zero,Option.some.inj e0,Option.some.inj e1]


theorem s_uvS (s:List UInt8) (hs:s.length < 1000000000):PCalls Tryz.prog nX43 [.str s] (.bool (uv s)):=by
  refine pfun_soundT (ic:=FX43.body) [(1000000,.ip tab0),(1000001,.ip tab1)] (fun p hp=>hp) mixed cX43 rfl rfl ?_
  simp only [FX43,go_sem]
  refine loop_rule (fun q:List UInt8=>⟨[(0,.str q),(1000000,.ip tab0),(1000001,.ip tab1)],[]⟩) (fun q=>uv q = uv s ∧ q.length ≤ s.length) (fun q=>q.length) s ⟨rfl,Nat.le_refl _⟩ (Wk.of ?_ ?_) ?_
  · simp only [go_sem]
  · simp only [go_sem]
  rintro q ⟨hq,hl⟩
  replace hq:uv q = uv s:=hq
  replace hl:q.length ≤ s.length:=hl
  have fin:∀ (s1:St) (q':List UInt8),get s1.env 0 = .str q' → get s1.env 1000000 = .ip tab0 → get s1.env 1000001 = .ip tab1 → uv q' = uv s → q'.length < q.length → ∀ K,
      klp (fun q:List UInt8=>⟨[(0,.str q),(1000000,.ip tab0),(1000001,.ip tab1)],[]⟩) (fun q=>uv q = uv s ∧ q.length ≤ s.length) (fun q=>q.length) q K .nrm s1:=fun s1 q' h0 h1 h2 h3 h4 K =>
    klp_n q' ⟨h3,by omega⟩ h4 (Wk.of ⟨h0,h1,h2,trivial⟩ trivial)
  by_cases h0:q.length = 0
  · have d0:decide ((q.length:Int) > 0) = false:=decide_eq_false (by omega)
    have:q = []:=List.eq_nil_of_length_eq_zero h0
    subst this
    rw [← hq,uv_nil]
    simp only [go_sem,d0,List.length_nil,Int.natCast_zero,gt_iff_lt,Int.lt_irrefl,decide_false]
    exact pdone [] (by simp only [go_sem]) rfl
  have d0:decide ((q.length:Int) > 0) = true:=by simp; omega
  have hx:(nth q 0).toNat < 256:=(nth q 0).toNat_lt
  by_cases ha:(nth q 0).toNat < 128
  · have da:decide (((nth q 0).toNat:Int) < 128) = true:=by simp; omega
    have hq1:uv (q.drop 1) = uv s:=by rw [← uv_asc (by omega) ha]; exact hq
    have l1:(q.drop 1).length = q.length - 1:=by simp
    by_cases h8:(q.drop 1).length > 8
    · have d8:decide (((q.drop 1).length:Int) > 8) = true:=by simp only [decide_eq_true_eq]; omega
      simp only [go_sem,d0,da,d8]
      refine ⟨by omega,by omega,⟨by omega,by omega⟩,call_same (s_wordS (q.drop 1) (by omega)) (by simp [go_sem]) ?_⟩
      have a1:=and_hi (wrd_lt (q.drop 1))
      by_cases t1:wrd (q.drop 1) &&& 9259542123273814144 = 0
      · have b1:(((wrd (q.drop 1) &&& 9259542123273814144:Nat):Int) == 0) = true:=by rw [t1]; rfl
        have hq2:uv ((q.drop 1).drop 8) = uv s:=by rw [← uv_word (by omega) t1]; exact hq1
        have l2:((q.drop 1).drop 8).length = q.length - 9:=by simp <;> omega
        generalize hq2e:(q.drop 1).drop 8 = q2 at *
        by_cases h16:q2.length > 16
        · have d16:decide ((q2.length:Int) > 16) = true:=decide_eq_true (by omega)
          simp only [go_sem,a1,b1,hq2e,d16]
          refine ⟨⟨by omega,by omega⟩,?_⟩
          first | refine call_same (s_wordS q2 (by omega)) (by simp [go_sem]) ?_ | refine dcall_same (s_wordS q2 (by omega)) (by simp [go_sem]) rfl ?_
          simp only [go_sem]
          refine ⟨⟨by omega,by omega⟩,?_⟩
          first | refine call_same (s_wordS (q2.drop 8) (by simp; omega)) (by simp [go_sem]) ?_ | refine dcall_same (s_wordS (q2.drop 8) (by simp; omega)) (by simp [go_sem]) rfl ?_
          have o1:=or_w (wrd_lt q2) (wrd_lt (q2.drop 8))
          have a2:=and_hi o1.2
          by_cases t2:(wrd q2 ||| wrd (q2.drop 8)) &&& 9259542123273814144 = 0
          · have b2:((((wrd q2 ||| wrd (q2.drop 8)) &&& 9259542123273814144:Nat):Int) == 0) = true:=by rw [t2]; rfl
            have hq3:uv (q2.drop 16) = uv s:=by
              have:=or_and_zero t2
              rw [show q2.drop 16 = (q2.drop 8).drop 8 by rw [List.drop_drop],← uv_word (by simp; omega) this.2,← uv_word (by omega) this.1]
              exact hq2
            have l3:(q2.drop 16).length = q2.length - 16:=by simp
            simp only [go_sem,o1.1,a2,b2]
            refine ⟨⟨by omega,by omega⟩,?_⟩
            refine loop_rule (fun r:List UInt8=>⟨[(0,.str r),(1000000,.ip tab0),(1000001,.ip tab1)],[]⟩) (fun r=>uv r = uv s ∧ r.length < q.length) (fun r=>r.length) (q2.drop 16) ⟨hq3,by omega⟩ (Wk.of ?_ ?_) ?_
            · simp only [go_sem]
            · simp only [go_sem]
            rintro r ⟨hr,hrl⟩
            replace hr:uv r = uv s:=hr
            replace hrl:r.length < q.length:=hrl
            by_cases h32:r.length > 32
            · have d32:decide ((r.length:Int) > 32) = true:=decide_eq_true (by omega)
              simp only [go_sem,d32]
              first | refine call_same (s_wordS r (by omega)) (by simp [go_sem]) ?_ | refine dcall_same (s_wordS r (by omega)) (by simp [go_sem]) rfl ?_
              simp only [go_sem]
              refine ⟨⟨by omega,by omega⟩,?_⟩
              first | refine call_same (s_wordS (r.drop 8) (by simp; omega)) (by simp [go_sem]) ?_ | refine dcall_same (s_wordS (r.drop 8) (by simp; omega)) (by simp [go_sem]) rfl ?_
              simp only [go_sem]
              refine ⟨⟨by omega,by omega⟩,?_⟩
              first | refine call_same (s_wordS (r.drop 16) (by simp; omega)) (by simp [go_sem]) ?_ | refine dcall_same (s_wordS (r.drop 16) (by simp; omega)) (by simp [go_sem]) rfl ?_
              simp only [go_sem]
              refine ⟨⟨by omega,by omega⟩,?_⟩
              first | refine call_same (s_wordS (r.drop 24) (by simp; omega)) (by simp [go_sem]) ?_ | refine dcall_same (s_wordS (r.drop 24) (by simp; omega)) (by simp [go_sem]) rfl ?_
              have o2:=or_w (wrd_lt r) (wrd_lt (r.drop 8))
              have o3:=or_w (wrd_lt (r.drop 16)) (wrd_lt (r.drop 24))
              have o4:=or_w o2.2 o3.2
              have a3:=and_hi o4.2
              by_cases t3:((wrd r ||| wrd (r.drop 8)) ||| (wrd (r.drop 16) ||| wrd (r.drop 24))) &&& 9259542123273814144 = 0
              · have b3:(((((wrd r ||| wrd (r.drop 8)) ||| (wrd (r.drop 16) ||| wrd (r.drop 24))) &&& 9259542123273814144:Nat):Int) == 0) = true:=by rw [t3]; rfl
                have hr4:uv (r.drop 32) = uv s:=by
                  have g1:=or_and_zero t3
                  have g2:=or_and_zero g1.1
                  have g3:=or_and_zero g1.2
                  rw [show r.drop 32 = (r.drop 24).drop 8 by rw [List.drop_drop],← uv_word (by simp; omega) g3.2,show r.drop 24 = (r.drop 16).drop 8 by rw [List.drop_drop],← uv_word (by simp; omega) g3.1,
                    show r.drop 16 = (r.drop 8).drop 8 by rw [List.drop_drop],← uv_word (by simp; omega) g2.2,← uv_word (by omega) g2.1]
                  exact hr
                simp only [go_sem,o2.1,o3.1,o4.1,a3,b3]
                exact ⟨⟨by omega,by omega⟩,klp_n (r.drop 32) ⟨hr4,by simp; omega⟩ (show (r.drop 32).length < r.length by simp; omega) (Wk.of (by simp only [go_sem]) (by simp only [go_sem]))⟩
              · have b3:(((((wrd r ||| wrd (r.drop 8)) ||| (wrd (r.drop 16) ||| wrd (r.drop 24))) &&& 9259542123273814144:Nat):Int) == 0) = false:=by rw [beq_eq_false_iff_ne]; omega
                simp only [go_sem,o2.1,o3.1,o4.1,a3,b3]
                exact fin _ r (by simp only [go_sem]) (by simp only [go_sem]) (by simp only [go_sem]) hr hrl _
            · have d32:decide ((r.length:Int) > 32) = false:=decide_eq_false (by omega)
              simp only [go_sem,d32]
              exact fin _ r (by simp only [go_sem]) (by simp only [go_sem]) (by simp only [go_sem]) hr hrl _
          · have b2:((((wrd q2 ||| wrd (q2.drop 8)) &&& 9259542123273814144:Nat):Int) == 0) = false:=by rw [beq_eq_false_iff_ne]; omega
            simp only [go_sem,o1.1,a2,b2]
            exact fin _ q2 (by simp only [go_sem]) (by simp only [go_sem]) (by simp only [go_sem]) hq2 (by omega) _
        · have d16:decide ((q2.length:Int) > 16) = false:=decide_eq_false (by omega)
          simp only [go_sem,a1,b1,hq2e,d16]
          exact ⟨⟨by omega,by omega⟩,fin _ q2 (by simp only [go_sem]) (by simp only [go_sem]) (by simp only [go_sem]) hq2 (by omega) _⟩
      · have b1:(((wrd (q.drop 1) &&& 9259542123273814144:Nat):Int) == 0) = false:=by rw [beq_eq_false_iff_ne]; omega
        simp only [go_sem,a1,b1]
        exact fin _ (q.drop 1) (by simp only [go_sem]) (by simp only [go_sem]) (by simp only [go_sem]) hq1 (by omega) _
    · have d8:decide (((q.drop 1).length:Int) > 8) = false:=by simp only [decide_eq_false_iff_not]; omega
      simp only [go_sem,d0,da,d8]
      exact ⟨by omega,by omega,⟨by omega,by omega⟩,fin _ (q.drop 1) (by simp only [go_sem]) (by simp only [go_sem]) (by simp only [go_sem]) hq1 (by omega) _⟩
  · have da:decide (((nth q 0).toNat:Int) < 128) = false:=by simp; omega
    have hf:=first_lt (nth q 0).toNat
    have e1:=ld_first hx
    have e2:=and7 hf
    have e3:IntKind.i64.wrap ((Lib.firstT (nth q 0).toNat % 8:Nat):Int) = ((Lib.firstT (nth q 0).toNat % 8:Nat):Int):=wi (by omega) (by omega)
    have e4:b_shr .u8 (Lib.firstT (nth q 0).toNat:Int) 4 = ((Lib.firstT (nth q 0).toNat / 16:Nat):Int):=shr_nat .u8 (x:=Lib.firstT (nth q 0).toNat) (s:=4) (by decide)
    have e5:=ld_acc (i:=Lib.firstT (nth q 0).toNat / 16) (by omega)
    have bad:run1 q = none → ∀ s1:St,get s1.env 2 = .bool false → PDone [.tmp 2] (.bool (uv s)) .ret s1:=fun hr s1 hg=>by
      rw [← hq,uv_bad (by omega) ha hr]
      exact pdone [] (by simp only [iret,ires,ires1,frzs,hg,okRes,↓reduceIte]) rfl
    have good:∀ k,run1 q = some k → uv (q.drop k) = uv s ∧ (q.drop k).length < q.length:=fun k hk=>by
      have:=run1_pos hk
      exact ⟨by rw [← uv_run (by omega) ha hk]; exact hq,by simp; omega⟩
    by_cases z2:Lib.firstT (nth q 0).toNat % 8 = 2
    · have b2:(((Lib.firstT (nth q 0).toNat % 8:Nat):Int) == 2) = true:=by rw [z2]; rfl
      have r2:=run2 z2
      simp (config:={ maxSteps:=1000000 }) only [go_sem,d0,da,e1,e2,e3,e4,e5,b2]
      exact ⟨by omega,by omega,⟨by omega,by omega⟩,by decide,⟨by omega,by omega⟩,fun h1=>bad (by rw [r2,if_neg (by omega)]) _ (by simp only [go_sem]),fun h1=>⟨by omega,by omega,fun h2=>bad (by rw [r2,if_neg (by omega)]) _ (by simp only [go_sem]),fun h2=>⟨by omega,by omega,fun h3=>bad (by rw [r2,if_neg (by omega)]) _ (by simp only [go_sem]),fun h3=>⟨⟨by omega,by omega⟩,fin _ (q.drop 2) (by simp only [go_sem]) (by simp only [go_sem]) (by simp only [go_sem]) (good 2 (by rw [r2,if_pos (by omega)])).1 (good 2 (by rw [r2,if_pos (by omega)])).2 _⟩⟩⟩⟩
    have n2:(((Lib.firstT (nth q 0).toNat % 8:Nat):Int) == 2) = false:=by rw [beq_eq_false_iff_ne]; omega
    by_cases z3:Lib.firstT (nth q 0).toNat % 8 = 3
    · have b3:(((Lib.firstT (nth q 0).toNat % 8:Nat):Int) == 3) = true:=by rw [z3]; rfl
      have r3:=run3 z3
      simp (config:={ maxSteps:=1000000 }) only [go_sem,d0,da,e1,e2,e3,e4,e5,b3,n2]
      exact ⟨by omega,by omega,⟨by omega,by omega⟩,by decide,⟨by omega,by omega⟩,fun h1=>bad (by rw [r3,if_neg (by omega)]) _ (by simp only [go_sem]),fun h1=>⟨by omega,by omega,fun h2=>bad (by rw [r3,if_neg (by omega)]) _ (by simp only [go_sem]),fun h2=>⟨by omega,by omega,fun h3=>bad (by rw [r3,if_neg (by omega)]) _ (by simp only [go_sem]),fun h3=>⟨by omega,by omega,fun h4=>bad (by rw [r3,if_neg (by omega)]) _ (by simp only [go_sem]),fun h4=>⟨by omega,by omega,fun h5=>bad (by rw [r3,if_neg (by omega)]) _ (by simp only [go_sem]),fun h5=>⟨⟨by omega,by omega⟩,fin _ (q.drop 3) (by simp only [go_sem]) (by simp only [go_sem]) (by simp only [go_sem]) (good 3 (by rw [r3,if_pos (by omega)])).1 (good 3 (by rw [r3,if_pos (by omega)])).2 _⟩⟩⟩⟩⟩⟩
    have n3:(((Lib.firstT (nth q 0).toNat % 8:Nat):Int) == 3) = false:=by rw [beq_eq_false_iff_ne]; omega
    by_cases z4:Lib.firstT (nth q 0).toNat % 8 = 4
    · have b4:(((Lib.firstT (nth q 0).toNat % 8:Nat):Int) == 4) = true:=by rw [z4]; rfl
      have r4:=run4 z4
      simp (config:={ maxSteps:=1000000 }) only [go_sem,d0,da,e1,e2,e3,e4,e5,b4,n2,n3]
      exact ⟨by omega,by omega,⟨by omega,by omega⟩,by decide,⟨by omega,by omega⟩,fun h1=>bad (by rw [r4,if_neg (by omega)]) _ (by simp only [go_sem]),fun h1=>⟨by omega,by omega,fun h2=>bad (by rw [r4,if_neg (by omega)]) _ (by simp only [go_sem]),fun h2=>⟨by omega,by omega,fun h3=>bad (by rw [r4,if_neg (by omega)]) _ (by simp only [go_sem]),fun h3=>⟨by omega,by omega,fun h4=>bad (by rw [r4,if_neg (by omega)]) _ (by simp only [go_sem]),fun h4=>⟨by omega,by omega,fun h5=>bad (by rw [r4,if_neg (by omega)]) _ (by simp only [go_sem]),fun h5=>⟨by omega,by omega,fun h6=>bad (by rw [r4,if_neg (by omega)]) _ (by simp only [go_sem]),fun h6=>⟨by omega,by omega,fun h7=>bad (by rw [r4,if_neg (by omega)]) _ (by simp only [go_sem]),fun h7=>⟨⟨by omega,by omega⟩,fin _ (q.drop 4) (by simp only [go_sem]) (by simp only [go_sem]) (by simp only [go_sem]) (good 4 (by rw [r4,if_pos (by omega)])).1 (good 4 (by rw [r4,if_pos (by omega)])).2 _⟩⟩⟩⟩⟩⟩⟩⟩
    have n4:(((Lib.firstT (nth q 0).toNat % 8:Nat):Int) == 4) = false:=by rw [beq_eq_false_iff_ne]; omega
    simp only [go_sem,d0,da,e1,e2,e3,e4,e5,n2,n3,n4]
    exact ⟨by omega,by omega,⟨by omega,by omega⟩,by decide,⟨by omega,by omega⟩,bad (runN z2 z3 z4) _ (by simp only [go_sem])⟩

theorem s_uvB (s:List UInt8) (hs:s.length < 1000000000):PCalls Tryz.prog nX102 [.sl 1 (List.map by_ s)] (.bool (uv s)):=by
  refine pfun_soundT (ic:=FX102.body) [(1000000,.ip tab0),(1000001,.ip tab1)] (fun p hp=>hp) mixed cX102 rfl rfl ?_
  simp only [FX102,go_sem]
  have e0:aSlc 1 (.sl 1 (List.map by_ s)) none (some (.int .i64 (s.length:Int))) (some (.int .i64 (s.length:Int))) = some (.sl 1 (List.map by_ s)):=by
    have h1:aBound (List.map by_ s).length (some (.int .i64 (s.length:Int))) = some s.length:=by simp only [aBound]; rw [if_pos (by omega),Int.toNat_natCast]
    have h2:aBound 0 none = some 0:=rfl
    simp only [aSlc,h1,h2]
    rw [if_pos ⟨trivial,Nat.zero_le _,Nat.le_refl _,by simp⟩,List.drop_zero,Nat.sub_zero,List.take_of_length_le (by simp)]
  simp only [go_sem,e0]
  refine loop_rule (fun q:List UInt8=>⟨[(0,.sl 1 (List.map by_ q)),(1000000,.ip tab0),(1000001,.ip tab1)],[]⟩) (fun q=>uv q = uv s ∧ q.length ≤ s.length) (fun q=>q.length) s ⟨rfl,Nat.le_refl _⟩ (Wk.of ?_ ?_) ?_
  · simp only [go_sem]
  · simp only [go_sem]
  rintro q ⟨hq,hl⟩
  replace hq:uv q = uv s:=hq
  replace hl:q.length ≤ s.length:=hl
  have fin:∀ (s1:St) (q':List UInt8),get s1.env 0 = .sl 1 (List.map by_ q') → get s1.env 1000000 = .ip tab0 → get s1.env 1000001 = .ip tab1 → uv q' = uv s → q'.length < q.length → ∀ K,
      klp (fun q:List UInt8=>⟨[(0,.sl 1 (List.map by_ q)),(1000000,.ip tab0),(1000001,.ip tab1)],[]⟩) (fun q=>uv q = uv s ∧ q.length ≤ s.length) (fun q=>q.length) q K .nrm s1:=fun s1 q' h0 h1 h2 h3 h4 K =>
    klp_n q' ⟨h3,by omega⟩ h4 (Wk.of ⟨h0,h1,h2,trivial⟩ trivial)
  by_cases h0:q.length = 0
  · have d0:decide ((q.length:Int) > 0) = false:=decide_eq_false (by omega)
    have:q = []:=List.eq_nil_of_length_eq_zero h0
    subst this
    rw [← hq,uv_nil]
    simp only [go_sem,d0,List.length_nil,Int.natCast_zero,gt_iff_lt,Int.lt_irrefl,decide_false]
    exact pdone [] (by simp only [go_sem]) rfl
  have d0:decide ((q.length:Int) > 0) = true:=by simp; omega
  have hx:(nth q 0).toNat < 256:=(nth q 0).toNat_lt
  by_cases ha:(nth q 0).toNat < 128
  · have da:decide (((nth q 0).toNat:Int) < 128) = true:=by simp; omega
    have hq1:uv (q.drop 1) = uv s:=by rw [← uv_asc (by omega) ha]; exact hq
    have l1:(q.drop 1).length = q.length - 1:=by simp
    by_cases h8:(q.drop 1).length > 8
    · have d8:decide (((q.drop 1).length:Int) > 8) = true:=by simp only [decide_eq_true_eq]; omega
      simp only [go_sem,d0,da,d8]
      refine ⟨by omega,by omega,⟨by omega,by omega⟩,call_same (s_wordB (q.drop 1) (by omega)) (by simp [go_sem]) ?_⟩
      have a1:=and_hi (wrd_lt (q.drop 1))
      by_cases t1:wrd (q.drop 1) &&& 9259542123273814144 = 0
      · have b1:(((wrd (q.drop 1) &&& 9259542123273814144:Nat):Int) == 0) = true:=by rw [t1]; rfl
        have hq2:uv ((q.drop 1).drop 8) = uv s:=by rw [← uv_word (by omega) t1]; exact hq1
        have l2:((q.drop 1).drop 8).length = q.length - 9:=by simp <;> omega
        generalize hq2e:(q.drop 1).drop 8 = q2 at *
        by_cases h16:q2.length > 16
        · have d16:decide ((q2.length:Int) > 16) = true:=decide_eq_true (by omega)
          simp only [go_sem,a1,b1,hq2e,d16]
          refine ⟨⟨by omega,by omega⟩,?_⟩
          first | refine call_same (s_wordB q2 (by omega)) (by simp [go_sem]) ?_ | refine dcall_same (s_wordB q2 (by omega)) (by simp [go_sem]) rfl ?_
          simp only [go_sem]
          refine ⟨⟨by omega,by omega⟩,?_⟩
          first | refine call_same (s_wordB (q2.drop 8) (by simp; omega)) (by simp [go_sem]) ?_ | refine dcall_same (s_wordB (q2.drop 8) (by simp; omega)) (by simp [go_sem]) rfl ?_
          have o1:=or_w (wrd_lt q2) (wrd_lt (q2.drop 8))
          have a2:=and_hi o1.2
          by_cases t2:(wrd q2 ||| wrd (q2.drop 8)) &&& 9259542123273814144 = 0
          · have b2:((((wrd q2 ||| wrd (q2.drop 8)) &&& 9259542123273814144:Nat):Int) == 0) = true:=by rw [t2]; rfl
            have hq3:uv (q2.drop 16) = uv s:=by
              have:=or_and_zero t2
              rw [show q2.drop 16 = (q2.drop 8).drop 8 by rw [List.drop_drop],← uv_word (by simp; omega) this.2,← uv_word (by omega) this.1]
              exact hq2
            have l3:(q2.drop 16).length = q2.length - 16:=by simp
            simp only [go_sem,o1.1,a2,b2]
            refine ⟨⟨by omega,by omega⟩,?_⟩
            refine loop_rule (fun r:List UInt8=>⟨[(0,.sl 1 (List.map by_ r)),(1000000,.ip tab0),(1000001,.ip tab1)],[]⟩) (fun r=>uv r = uv s ∧ r.length < q.length) (fun r=>r.length) (q2.drop 16) ⟨hq3,by omega⟩ (Wk.of ?_ ?_) ?_
            · simp only [go_sem]
            · simp only [go_sem]
            rintro r ⟨hr,hrl⟩
            replace hr:uv r = uv s:=hr
            replace hrl:r.length < q.length:=hrl
            by_cases h32:r.length > 32
            · have d32:decide ((r.length:Int) > 32) = true:=decide_eq_true (by omega)
              simp only [go_sem,d32]
              first | refine call_same (s_wordB r (by omega)) (by simp [go_sem]) ?_ | refine dcall_same (s_wordB r (by omega)) (by simp [go_sem]) rfl ?_
              simp only [go_sem]
              refine ⟨⟨by omega,by omega⟩,?_⟩
              first | refine call_same (s_wordB (r.drop 8) (by simp; omega)) (by simp [go_sem]) ?_ | refine dcall_same (s_wordB (r.drop 8) (by simp; omega)) (by simp [go_sem]) rfl ?_
              simp only [go_sem]
              refine ⟨⟨by omega,by omega⟩,?_⟩
              first | refine call_same (s_wordB (r.drop 16) (by simp; omega)) (by simp [go_sem]) ?_ | refine dcall_same (s_wordB (r.drop 16) (by simp; omega)) (by simp [go_sem]) rfl ?_
              simp only [go_sem]
              refine ⟨⟨by omega,by omega⟩,?_⟩
              first | refine call_same (s_wordB (r.drop 24) (by simp; omega)) (by simp [go_sem]) ?_ | refine dcall_same (s_wordB (r.drop 24) (by simp; omega)) (by simp [go_sem]) rfl ?_
              have o2:=or_w (wrd_lt r) (wrd_lt (r.drop 8))
              have o3:=or_w (wrd_lt (r.drop 16)) (wrd_lt (r.drop 24))
              have o4:=or_w o2.2 o3.2
              have a3:=and_hi o4.2
              by_cases t3:((wrd r ||| wrd (r.drop 8)) ||| (wrd (r.drop 16) ||| wrd (r.drop 24))) &&& 9259542123273814144 = 0
              · have b3:(((((wrd r ||| wrd (r.drop 8)) ||| (wrd (r.drop 16) ||| wrd (r.drop 24))) &&& 9259542123273814144:Nat):Int) == 0) = true:=by rw [t3]; rfl
                have hr4:uv (r.drop 32) = uv s:=by
                  have g1:=or_and_zero t3
                  have g2:=or_and_zero g1.1
                  have g3:=or_and_zero g1.2
                  rw [show r.drop 32 = (r.drop 24).drop 8 by rw [List.drop_drop],← uv_word (by simp; omega) g3.2,show r.drop 24 = (r.drop 16).drop 8 by rw [List.drop_drop],← uv_word (by simp; omega) g3.1,
                    show r.drop 16 = (r.drop 8).drop 8 by rw [List.drop_drop],← uv_word (by simp; omega) g2.2,← uv_word (by omega) g2.1]
                  exact hr
                simp only [go_sem,o2.1,o3.1,o4.1,a3,b3]
                exact ⟨⟨by omega,by omega⟩,klp_n (r.drop 32) ⟨hr4,by simp; omega⟩ (show (r.drop 32).length < r.length by simp; omega) (Wk.of (by simp only [go_sem]) (by simp only [go_sem]))⟩
              · have b3:(((((wrd r ||| wrd (r.drop 8)) ||| (wrd (r.drop 16) ||| wrd (r.drop 24))) &&& 9259542123273814144:Nat):Int) == 0) = false:=by rw [beq_eq_false_iff_ne]; omega
                simp only [go_sem,o2.1,o3.1,o4.1,a3,b3]
                exact fin _ r (by simp only [go_sem]) (by simp only [go_sem]) (by simp only [go_sem]) hr hrl _
            · have d32:decide ((r.length:Int) > 32) = false:=decide_eq_false (by omega)
              simp only [go_sem,d32]
              exact fin _ r (by simp only [go_sem]) (by simp only [go_sem]) (by simp only [go_sem]) hr hrl _
          · have b2:((((wrd q2 ||| wrd (q2.drop 8)) &&& 9259542123273814144:Nat):Int) == 0) = false:=by rw [beq_eq_false_iff_ne]; omega
            simp only [go_sem,o1.1,a2,b2]
            exact fin _ q2 (by simp only [go_sem]) (by simp only [go_sem]) (by simp only [go_sem]) hq2 (by omega) _
        · have d16:decide ((q2.length:Int) > 16) = false:=decide_eq_false (by omega)
          simp only [go_sem,a1,b1,hq2e,d16]
          exact ⟨⟨by omega,by omega⟩,fin _ q2 (by simp only [go_sem]) (by simp only [go_sem]) (by simp only [go_sem]) hq2 (by omega) _⟩
      · have b1:(((wrd (q.drop 1) &&& 9259542123273814144:Nat):Int) == 0) = false:=by rw [beq_eq_false_iff_ne]; omega
        simp only [go_sem,a1,b1]
        exact fin _ (q.drop 1) (by simp only [go_sem]) (by simp only [go_sem]) (by simp only [go_sem]) hq1 (by omega) _
    · have d8:decide (((q.drop 1).length:Int) > 8) = false:=by simp only [decide_eq_false_iff_not]; omega
      simp only [go_sem,d0,da,d8]
      exact ⟨by omega,by omega,⟨by omega,by omega⟩,fin _ (q.drop 1) (by simp only [go_sem]) (by simp only [go_sem]) (by simp only [go_sem]) hq1 (by omega) _⟩
  · have da:decide (((nth q 0).toNat:Int) < 128) = false:=by simp; omega
    have hf:=first_lt (nth q 0).toNat
    have e1:=ld_first hx
    have e2:=and7 hf
    have e3:IntKind.i64.wrap ((Lib.firstT (nth q 0).toNat % 8:Nat):Int) = ((Lib.firstT (nth q 0).toNat % 8:Nat):Int):=wi (by omega) (by omega)
    have e4:b_shr .u8 (Lib.firstT (nth q 0).toNat:Int) 4 = ((Lib.firstT (nth q 0).toNat / 16:Nat):Int):=shr_nat .u8 (x:=Lib.firstT (nth q 0).toNat) (s:=4) (by decide)
    have e5:=ld_acc (i:=Lib.firstT (nth q 0).toNat / 16) (by omega)
    have bad:run1 q = none → ∀ s1:St,get s1.env 2 = .bool false → PDone [.tmp 2] (.bool (uv s)) .ret s1:=fun hr s1 hg=>by
      rw [← hq,uv_bad (by omega) ha hr]
      exact pdone [] (by simp only [iret,ires,ires1,frzs,hg,okRes,↓reduceIte]) rfl
    have good:∀ k,run1 q = some k → uv (q.drop k) = uv s ∧ (q.drop k).length < q.length:=fun k hk=>by
      have:=run1_pos hk
      exact ⟨by rw [← uv_run (by omega) ha hk]; exact hq,by simp; omega⟩
    by_cases z2:Lib.firstT (nth q 0).toNat % 8 = 2
    · have b2:(((Lib.firstT (nth q 0).toNat % 8:Nat):Int) == 2) = true:=by rw [z2]; rfl
      have r2:=run2 z2
      simp (config:={ maxSteps:=1000000 }) only [go_sem,d0,da,e1,e2,e3,e4,e5,b2]
      exact ⟨by omega,by omega,⟨by omega,by omega⟩,by decide,⟨by omega,by omega⟩,fun h1=>bad (by rw [r2,if_neg (by omega)]) _ (by simp only [go_sem]),fun h1=>⟨by omega,by omega,fun h2=>bad (by rw [r2,if_neg (by omega)]) _ (by simp only [go_sem]),fun h2=>⟨by omega,by omega,fun h3=>bad (by rw [r2,if_neg (by omega)]) _ (by simp only [go_sem]),fun h3=>⟨⟨by omega,by omega⟩,fin _ (q.drop 2) (by simp only [go_sem]) (by simp only [go_sem]) (by simp only [go_sem]) (good 2 (by rw [r2,if_pos (by omega)])).1 (good 2 (by rw [r2,if_pos (by omega)])).2 _⟩⟩⟩⟩
    have n2:(((Lib.firstT (nth q 0).toNat % 8:Nat):Int) == 2) = false:=by rw [beq_eq_false_iff_ne]; omega
    by_cases z3:Lib.firstT (nth q 0).toNat % 8 = 3
    · have b3:(((Lib.firstT (nth q 0).toNat % 8:Nat):Int) == 3) = true:=by rw [z3]; rfl
      have r3:=run3 z3
      simp (config:={ maxSteps:=1000000 }) only [go_sem,d0,da,e1,e2,e3,e4,e5,b3,n2]
      exact ⟨by omega,by omega,⟨by omega,by omega⟩,by decide,⟨by omega,by omega⟩,fun h1=>bad (by rw [r3,if_neg (by omega)]) _ (by simp only [go_sem]),fun h1=>⟨by omega,by omega,fun h2=>bad (by rw [r3,if_neg (by omega)]) _ (by simp only [go_sem]),fun h2=>⟨by omega,by omega,fun h3=>bad (by rw [r3,if_neg (by omega)]) _ (by simp only [go_sem]),fun h3=>⟨by omega,by omega,fun h4=>bad (by rw [r3,if_neg (by omega)]) _ (by simp only [go_sem]),fun h4=>⟨by omega,by omega,fun h5=>bad (by rw [r3,if_neg (by omega)]) _ (by simp only [go_sem]),fun h5=>⟨⟨by omega,by omega⟩,fin _ (q.drop 3) (by simp only [go_sem]) (by simp only [go_sem]) (by simp only [go_sem]) (good 3 (by rw [r3,if_pos (by omega)])).1 (good 3 (by rw [r3,if_pos (by omega)])).2 _⟩⟩⟩⟩⟩⟩
    have n3:(((Lib.firstT (nth q 0).toNat % 8:Nat):Int) == 3) = false:=by rw [beq_eq_false_iff_ne]; omega
    by_cases z4:Lib.firstT (nth q 0).toNat % 8 = 4
    · have b4:(((Lib.firstT (nth q 0).toNat % 8:Nat):Int) == 4) = true:=by rw [z4]; rfl
      have r4:=run4 z4
      simp (config:={ maxSteps:=1000000 }) only [go_sem,d0,da,e1,e2,e3,e4,e5,b4,n2,n3]
      exact ⟨by omega,by omega,⟨by omega,by omega⟩,by decide,⟨by omega,by omega⟩,fun h1=>bad (by rw [r4,if_neg (by omega)]) _ (by simp only [go_sem]),fun h1=>⟨by omega,by omega,fun h2=>bad (by rw [r4,if_neg (by omega)]) _ (by simp only [go_sem]),fun h2=>⟨by omega,by omega,fun h3=>bad (by rw [r4,if_neg (by omega)]) _ (by simp only [go_sem]),fun h3=>⟨by omega,by omega,fun h4=>bad (by rw [r4,if_neg (by omega)]) _ (by simp only [go_sem]),fun h4=>⟨by omega,by omega,fun h5=>bad (by rw [r4,if_neg (by omega)]) _ (by simp only [go_sem]),fun h5=>⟨by omega,by omega,fun h6=>bad (by rw [r4,if_neg (by omega)]) _ (by simp only [go_sem]),fun h6=>⟨by omega,by omega,fun h7=>bad (by rw [r4,if_neg (by omega)]) _ (by simp only [go_sem]),fun h7=>⟨⟨by omega,by omega⟩,fin _ (q.drop 4) (by simp only [go_sem]) (by simp only [go_sem]) (by simp only [go_sem]) (good 4 (by rw [r4,if_pos (by omega)])).1 (good 4 (by rw [r4,if_pos (by omega)])).2 _⟩⟩⟩⟩⟩⟩⟩⟩
    have n4:(((Lib.firstT (nth q 0).toNat % 8:Nat):Int) == 4) = false:=by rw [beq_eq_false_iff_ne]; omega
    simp only [go_sem,d0,da,e1,e2,e3,e4,e5,n2,n3,n4]
    exact ⟨by omega,by omega,⟨by omega,by omega⟩,by decide,⟨by omega,by omega⟩,bad (runN z2 z3 z4) _ (by simp only [go_sem])⟩
end Go.Proofs.YtoikbadfbneahaaGreatDoor
set_option linter.unusedSimpArgs false
set_option maxRecDepth 100000
set_option maxHeartbeats 4000000
set_option linter.unusedVariables false
namespace Go.Proofs.YtoikbadfbneahaaGreatDoor
open Go Go.Mw
-- @U: rx,ro,slv_none,slv_some

attribute [go_sem] bne_self_eq_false Bool.false_eq_true
def rx (b:List UInt8) (a e:Int):AV:=.agg [.sl 1 (b.map by_),.int .i64 a,.int .i64 e]

theorem q_Fail (b:List UInt8) (a e x:Int):PCalls Tryz.prog nX115 [rx b a e,.int .i64 x] (rx b a (if e = 0 then x else e)):=by
  refine pfun_sound (ic:=FX115.body) mixed cX115 rfl rfl ?_
  by_cases h:e = 0
  · subst h
    simp only [go_sem,rx,ro,FX115]
    exact pdone [] (by simp only [go_sem,rx,ro]) (by first | rfl | simp [go_sem,slv_ids,rx,ro])
  · simp only [go_sem,rx,ro,FX115,beq_f h,bne_t h,if_neg h]
    exact pdone [] (by simp only [go_sem,rx,ro]) (by first | rfl | simp [go_sem,slv_ids,rx,ro])
theorem q_Fail0 (b:List UInt8) (a x:Int):PCalls Tryz.prog nX115 [rx b a 0,.int .i64 x] (rx b a x):=q_Fail b a 0 x
theorem q_Left (b:List UInt8) (a:Nat) (e:Int) (ha:a ≤ b.length) (hb:b.length < 1000000000):PCalls Tryz.prog nX95 [rx b a e] (.int .i64 (rLeft (e == 0) b a)):=by
  refine pfun_sound (ic:=FX95.body) mixed cX95 rfl rfl ?_
  have w1:IntKind.i64.wrap ((b.length:Int) - (a:Int)) = (b.length:Int) - (a:Int):=wi (by omega) (by omega)
  by_cases h:e = 0
  · subst h
    simp only [go_sem,rx,ro,FX95,rLeft,w1]
    exact pdone [] (by simp only [go_sem,rx,ro]) (by first | rfl | simp [go_sem,slv_ids,rx,ro])
  · simp only [go_sem,rx,ro,FX95,beq_f h,bne_t h,rLeft]
    exact pdone [] (by simp only [go_sem,rx,ro]) (by first | rfl | simp [go_sem,slv_ids,rx,ro])
theorem q_Take (b:List UInt8) (a:Nat) (e n:Int) (ha:a ≤ b.length) (hb:b.length < 1000000000) (hn:-9223372036854775808 ≤ n ∧ n < 9223372036854775808) :
    PCalls Tryz.prog nX99 [rx b a e,.int .i64 n] (.tup [rx b (rTake (e == 0) b a e n).2.1 (rTake (e == 0) b a e n).2.2,slv (rTake (e == 0) b a e n).1]):=by
  refine pfun_sound (ic:=FX99.body) mixed cX99 rfl rfl ?_
  by_cases h:e = 0
  · subst h
    by_cases h1:n < 0
    · have r:rTake ((0:Int) == 0) b a 0 n = (none,a,1):=by simp [rTake,h1]
      rw [r]
      simp only [go_sem,rx,ro,FX99,decide_eq_true h1]
      refine call_same (q_Fail0 b a 1) (by simp [go_sem,rx,ro]) ?_
      simp only [go_sem,rx,ro]
      exact pdone [] (by simp only [go_sem,rx,ro]) (by first | rfl | simp [go_sem,slv_ids,rx,ro])
    · by_cases h2:n > (b.length:Int) - a
      · have r:rTake ((0:Int) == 0) b a 0 n = (none,a,3):=by simp [rTake,h1,h2]
        rw [r]
        simp only [go_sem,rx,ro,FX99,decide_eq_false h1]
        refine call_same (q_Left b a 0 ha hb) (by simp [go_sem,rx,ro]) ?_
        have l:rLeft true b a = (b.length:Int) - a:=rfl
        simp only [go_sem,rx,ro,l,decide_eq_true h2]
        refine call_same (q_Fail0 b a 3) (by simp [go_sem,rx,ro]) ?_
        simp only [go_sem,rx,ro]
        exact pdone [] (by simp only [go_sem,rx,ro]) (by first | rfl | simp [go_sem,slv_ids,rx,ro])
      · obtain ⟨k,rfl⟩:=Int.eq_ofNat_of_zero_le (show 0 ≤ n by omega)
        have r:rTake ((0:Int) == 0) b a 0 (k:Int) = (some ((b.drop a).take k),a + k,0):=by
          simp only [rTake,beq_self_eq_true,if_true,if_neg h1,if_neg h2,Int.toNat_natCast]
        have w1:IntKind.i64.wrap ((a:Int) + (k:Int)) = ((a + k:Nat):Int):=by rw [wi (by omega) (by omega)]; omega
        have s1:aSlc 1 (.sl 1 (b.map by_)) (some (.int .i64 (a:Int))) (some (.int .i64 ((a + k:Nat):Int))) none = some (.sl 1 (((b.drop a).take k).map by_)):=by
          have h1:aBound (b.map by_).length (some (.int .i64 ((a + k:Nat):Int))) = some (a + k):=by simp only [aBound]; rw [if_pos (by omega),Int.toNat_natCast]
          have h2:aBound 0 (some (.int .i64 (a:Int))) = some a:=by simp only [aBound]; rw [if_pos (by omega),Int.toNat_natCast]
          have h3:aBound (b.map by_).length none = some (b.map by_).length:=rfl
          simp only [aSlc,h1,h2,h3]
          rw [if_pos ⟨trivial,by omega,by simp; omega,Nat.le_refl _⟩,Nat.add_sub_cancel_left,List.map_take,List.map_drop]
        have a0:∀ ys:List (List AV),ys.length < 1000000000 → appO 24 5 1 0 0 ys (some ⟨5,1,[],false⟩) = some (.ms 24 1 0 ys.length,.reb 24 ⟨5,1,ys,false⟩):=fun ys hy=>by
          have h:=appO_map 24 5 1 0 by_ [] ys rfl
          rw [if_pos ⟨by omega,by decide,by decide⟩] at h
          simpa using h
        rw [r]
        simp only [go_sem,rx,ro,FX99,decide_eq_false h1]
        refine call_same (q_Left b a 0 ha hb) (by simp [go_sem,rx,ro]) ?_
        have l:rLeft true b a = (b.length:Int) - a:=rfl
        simp only [go_sem,rx,ro,l,decide_eq_false h2,w1,s1,a0 _ (show (((b.drop a).take k).map by_).length < 1000000000 by simp; omega)]
        refine pdone [24] ?_ rfl
        simp only [go_sem,rx,ro,Nat.le_refl,List.length_map]
        rw [List.take_of_length_le (by simp)]
  · have r:rTake (e == 0) b a e n = (none,a,e):=by simp [rTake,h]
    rw [r]
    simp only [go_sem,rx,ro,FX99,bne_t h]
    exact pdone [] (by simp only [go_sem,rx,ro]) (by first | rfl | simp [go_sem,slv_ids,rx,ro])
end Go.Proofs.YtoikbadfbneahaaGreatDoor
set_option linter.unusedSimpArgs false
set_option maxRecDepth 100000
set_option maxHeartbeats 4000000
set_option linter.unusedVariables false
namespace Go.Proofs.YtoikbadfbneahaaGreatDoor
open Go Go.Mw
-- @U: rx,ro,slv_none,slv_some

theorem q_Byte (b:List UInt8) (a:Nat) (e:Int) (ha:a ≤ b.length) (hb:b.length < 1000000000) :
    PCalls Tryz.prog nX116 [rx b a e] (.tup [rx b (rByte (e == 0) b a e).2.1 (rByte (e == 0) b a e).2.2,.int .u8 (rByte (e == 0) b a e).1.toNat]):=by
  refine pfun_sound (ic:=FX116.body) mixed cX116 rfl rfl ?_
  have h1:¬ ((1:Int) < 0):=by decide
  have c:=q_Take b a e 1 ha hb (by decide)
  by_cases h:e = 0
  · subst h
    by_cases h2:(b.length:Int) - a < 1
    · have r:rTake ((0:Int) == 0) b a 0 1 = (none,a,3):=by simp only [rTake,beq_self_eq_true,if_true,if_neg h1]; rw [if_pos (by omega)]
      have r2:rByte ((0:Int) == 0) b a 0 = (0,a,3):=by simp only [rByte,beq_self_eq_true,if_true,if_pos h2]
      rw [r] at c
      rw [r2]
      simp only [go_sem,rx,ro,FX116]
      refine call_same (c) (by simp [go_sem,rx,ro]) ?_
      simp only [go_sem,rx,ro]
      exact pdone [] (by simp only [go_sem,rx,ro]; rfl) rfl
    · have hl:a < b.length:=by omega
      have e1:(b.drop a).take 1 = [nth b a]:=by rw [List.drop_eq_getElem_cons hl,nth_eq hl]; rfl
      have r:rTake ((0:Int) == 0) b a 0 1 = (some [nth b a],a + 1,0):=by
        simp only [rTake,beq_self_eq_true,if_true,if_neg h1]; rw [if_neg (by omega)]
        rw [show (1:Int).toNat = 1 from rfl,e1]
      have r2:rByte ((0:Int) == 0) b a 0 = (nth b a,a + 1,0):=by simp only [rByte,beq_self_eq_true,if_true,if_neg h2]
      have n0:(((1:Nat):Int) == 0) = false:=rfl
      rw [r] at c
      rw [r2]
      simp only [go_sem,rx,ro,FX116]
      refine call_same (c) (by simp [go_sem,rx,ro]) ?_
      simp only [go_sem,rx,ro,List.length_cons,List.length_nil,aI1,n0]
      exact pdone [] (by simp only [go_sem,rx,ro]) rfl
  · have r:rTake (e == 0) b a e 1 = (none,a,e):=by simp [rTake,h]
    have r2:rByte (e == 0) b a e = (0,a,e):=by simp [rByte,h]
    rw [r] at c
    rw [r2]
    simp only [go_sem,rx,ro,FX116]
    refine call_same (c) (by simp [go_sem,rx,ro]) ?_
    simp only [go_sem,rx,ro]
    exact pdone [] (by simp only [go_sem,rx,ro]; rfl) rfl

theorem q_unsigned (bits:Nat) (b:List UInt8) (a:Nat) (e:Int) (hbits:1 ≤ bits ∧ bits ≤ 64) (ha:a ≤ b.length) (hb:b.length < 1000000000) :
    PCalls Tryz.prog nX58 [rx b a e,.int .i64 bits] (.tup [rx b (rU (e == 0) bits b a e).2.1 (rU (e == 0) bits b a e).2.2,.int .u64 (rU (e == 0) bits b a e).1]):=by
  refine pfun_sound (ic:=FX58.body) mixed cX58 rfl rfl ?_
  by_cases h:e = 0
  · subst h
    have hk:=decU_k (b.drop a) bits
    simp only [List.length_drop] at hk
    simp only [go_sem,rx,ro,FX58]
    refine ⟨⟨by omega,by omega⟩,?_⟩
    refine call_same (s_rU (b.drop a) bits hbits) (by simp [go_sem,rx,ro]) ?_
    by_cases hq:(decU (b.drop a) bits).2.2 = 0
    · have r:rU true bits b a 0 = ((decU (b.drop a) bits).1,a + (decU (b.drop a) bits).2.1,0):=by simp [rU,hq]
      have w1:IntKind.i64.wrap ((a:Int) + ((decU (b.drop a) bits).2.1:Int)) = ((a + (decU (b.drop a) bits).2.1:Nat):Int):=wn (by omega) (by omega) (by omega)
      rw [r]
      simp only [go_sem,rx,ro,uR,bne_f hq,w1]
      exact pdone [] (by simp only [go_sem,rx,ro]) (by first | rfl | simp [go_sem,slv_ids,rx,ro])
    · have r:rU true bits b a 0 = (0,a,(decU (b.drop a) bits).2.2):=by simp [rU,hq]
      rw [r]
      simp only [go_sem,rx,ro,uR,bne_t hq]
      refine call_same (q_Fail0 b a (decU (b.drop a) bits).2.2) (by simp [go_sem,rx,ro]) ?_
      simp only [go_sem,rx,ro]
      exact pdone [] (by simp only [go_sem,rx,ro]; rfl) rfl
  · have r:rU (e == 0) bits b a e = (0,a,e):=by simp [rU,h]
    rw [r]
    simp only [go_sem,rx,ro,FX58,bne_t h]
    exact pdone [] (by simp only [go_sem,rx,ro]; rfl) rfl
section
variable (b:List UInt8) (a:Nat) (e:Int) (ha:a ≤ b.length) (hb:b.length < 1000000000)
include ha hb
theorem q_U32:PCalls Tryz.prog nX118 [rx b a e] (.tup [rx b (rU (e == 0) 32 b a e).2.1 (rU (e == 0) 32 b a e).2.2,.int .i64 (rU (e == 0) 32 b a e).1]):=by
  refine pfun_sound (ic:=FX118.body) mixed cX118 rfl rfl ?_
  have hl:=rU_lt (e == 0) b a e
  have w1:IntKind.i64.wrap ((rU (e == 0) 32 b a e).1:Int) = ((rU (e == 0) 32 b a e).1:Int):=wi (by omega) (by omega)
  simp only [go_sem,rx,ro,FX118]
  refine call_same (q_unsigned 32 b a e (by decide) ha hb) (by simp [go_sem,rx,ro]) ?_
  simp only [go_sem,rx,ro,w1]
  exact pdone [] (by simp only [go_sem,rx,ro]) (by first | rfl | simp [go_sem,slv_ids,rx,ro])
theorem q_Count (most:Int):PCalls Tryz.prog nX78 [rx b a e,.int .i64 most] (.tup [rx b (rCount (e == 0) b a e most).2.1 (rCount (e == 0) b a e most).2.2,.int .i64 (rCount (e == 0) b a e most).1]):=by
  refine pfun_sound (ic:=FX78.body) mixed cX78 rfl rfl ?_
  simp only [go_sem,rx,ro,FX78]
  refine call_same (q_U32 b a e ha hb) (by simp [go_sem,rx,ro]) ?_
  by_cases h:e = 0
  · subst h
    by_cases hq:(rU true 32 b a 0).2.2 = 0
    · by_cases hm:((rU true 32 b a 0).1:Int) > most
      · have r:rCount true b a 0 most = (0,a,6):=by simp only [rCount,if_true]; rw [if_pos ⟨hq,hm⟩]
        simp only [go_sem,rx,ro,beq_t hq,bne_f hq,decide_eq_true hm,r]
        refine call_same (q_Fail0 b a 6) (by simp [go_sem,rx,ro]) ?_
        simp only [go_sem,rx,ro]
        exact pdone [] (by simp only [go_sem,rx,ro]; rfl) rfl
      · have r:rCount true b a 0 most = rU true 32 b a 0:=by simp only [rCount,if_true]; rw [if_neg (fun hh=>hm hh.2)]
        simp only [go_sem,rx,ro,beq_t hq,bne_f hq,decide_eq_false hm,r]
        exact pdone [] (by simp only [go_sem,rx,ro]) (by first | rfl | simp [go_sem,slv_ids,rx,ro])
    · have r:rCount true b a 0 most = rU true 32 b a 0:=by simp only [rCount,if_true]; rw [if_neg (fun hh=>hq hh.1)]
      simp only [go_sem,rx,ro,beq_f hq,bne_t hq,r]
      exact pdone [] (by simp only [go_sem,rx,ro]) (by first | rfl | simp [go_sem,slv_ids,rx,ro])
  · have r:rCount (e == 0) b a e most = (0,a,e):=by simp [rCount,h]
    have r2:rU (e == 0) 32 b a e = (0,a,e):=by simp [rU,h]
    rw [r,r2]
    simp only [go_sem,rx,ro,beq_f h,bne_t h]
    exact pdone [] (by simp only [go_sem,rx,ro]) rfl
theorem q_End:PCalls Tryz.prog nX124 [rx b a e] (.int .i64 (rEnd true b a e)):=by
  refine pfun_sound (ic:=FX124.body) mixed cX124 rfl rfl ?_
  by_cases h:e = 0
  · subst h
    simp only [go_sem,rx,ro,FX124]
    refine call_same (q_Left b a 0 ha hb) (by simp [go_sem,rx,ro]) ?_
    have l:rLeft true b a = (b.length:Int) - a:=rfl
    by_cases h2:a = b.length
    · have d:decide ((b.length:Int) - (a:Int) > 0) = false:=decide_eq_false (by omega)
      have r:rEnd true b a 0 = 0:=by simp [rEnd,h2]
      simp only [go_sem,rx,ro,l,d,r]
      exact pdone [] (by simp only [go_sem,rx,ro]) (by first | rfl | simp [go_sem,slv_ids,rx,ro])
    · have d:decide ((b.length:Int) - (a:Int) > 0) = true:=decide_eq_true (by omega)
      have r:rEnd true b a 0 = 5:=by simp [rEnd,h2]
      simp only [go_sem,rx,ro,l,d,r]
      exact pdone [] (by simp only [go_sem,rx,ro]) (by first | rfl | simp [go_sem,slv_ids,rx,ro])
  · have r:rEnd true b a e = e:=by simp [rEnd,h]
    simp only [go_sem,rx,ro,FX124,beq_f h,r]
    exact pdone [] (by simp only [go_sem,rx,ro]) (by first | rfl | simp [go_sem,slv_ids,rx,ro])
end
end Go.Proofs.YtoikbadfbneahaaGreatDoor
set_option linter.unusedSimpArgs false
set_option maxRecDepth 100000
set_option maxHeartbeats 4000000
set_option linter.unusedVariables false
namespace Go.Proofs.YtoikbadfbneahaaGreatDoor
open Go Go.Mw

def wo (q:Nat) (m:Bool) (l:List UInt8) (e:Int):AObj:=⟨124,3,[[.bool m,.ms q 1 0 l.length,.int .i64 e]],true⟩
def wa (l:List UInt8):AObj:=⟨5,1,l.map by_,false⟩
def WM (f:FuncId) (rest:List AV) (m:Bool) (l:List UInt8) (e:Int) (r:AV) (l':List UInt8) (e':Int):Prop :=
  ACalls Tryz.prog f (.mp 1000 3 0 0 :: rest) [(1000,wo 2000 m l e),(2000,wa l)] sb (fun r' σ'=>r' = r ∧ σ' = [(1000,wo 2000 m l' e'),(2000,wa l')])

theorem call_w {f:FuncId} {rest:List AV} {m:Bool} {l:List UInt8} {e:Int} {r:AV} {l':List UInt8} {e':Int} {k j:Nat} {args:List AV} {d:Option Nat} {s:St} {K:St → Prop} (fs:List Nat)
    (h:WM f rest m l e r l' e') (hk:k ≠ 2000) (hj:j ≠ 1000) (hkj:k ≠ j) (hj2:j < 1000 ∨ 2000 ≤ j) (hr:idsV r = []) (hrest:∀ x ∈ rest,idsV x = [])
    (ha:args.map (frzVs fs s) = .mp k 3 0 0 :: rest) (h1:hget (frzs fs s).heap k = some (wo j m l e)) (h2:hget (frzs fs s).heap j = some (wa l))
    (hK:K ((St.mk (purE j (frzs fs s).env) ((k,wo j m l' e') :: (j,wa l') :: purH j (frzs fs s).heap)).put d r)):icall Tryz.prog f args d s K:=by
  have e1:fw [(1000,k),(2000,j)] 2000 = j:=by
    simp only [fw]; unfold swp
    by_cases q:(2000:Nat) = k
    · exact absurd q.symm hk
    · simp [q]
  have e0:fw [(1000,k),(2000,j)] 1000 = k:=by
    simp only [fw]; unfold swp
    by_cases q:k = 2000
    · exact absurd q hk
    · simp [q,hkj]
  have b1:bw [(1000,k),(2000,j)] j = 2000:=by have:=bw_fw [(1000,k),(2000,j)] 2000; rwa [e1] at this
  have b0:bw [(1000,k),(2000,j)] k = 1000:=by have:=bw_fw [(1000,k),(2000,j)] 1000; rwa [e0] at this
  refine call_2 fs (ACalls.at2 (rk:=wo j m l e) (rk':=wo j m l' e') h hk hj hkj hr hrest rfl rfl ?_ ?_) hkj ?_ hj2 ha h1 h2 hK
  · simp only [renO,wo,if_true,List.map_cons,List.map_nil,renC,renP,b1]; rfl
  · simp only [renO,wo,if_true,List.map_cons,List.map_nil,renC,renP,e1]; rfl
  · show sb (bw [(1000,k),(2000,j)] k)
    rw [b0]; exact ⟨by decide,by decide⟩

theorem s_wsound (m:Bool) (l:List UInt8) (e:Int):WM nX15 [] m l e (.bool (m && e == 0)) l e:=by
  refine fun_sound (ic:=FX15.body) mixed cX15 rfl rfl ?_
  cases m
  · simp only [FX15,wo,wa,go_sem]
    exact done [] _ [(1000,wo 2000 false l e),(2000,wa l)] (by simp only [go_sem]) (by simp only [go_sem,wo,wa]) rfl ⟨rfl,rfl⟩
  · simp only [FX15,wo,wa,go_sem]
    exact done [] _ [(1000,wo 2000 true l e),(2000,wa l)] (by simp only [go_sem]) (by simp only [go_sem,wo,wa]) rfl ⟨rfl,rfl⟩
theorem s_wfail (m:Bool) (l:List UInt8) (e x:Int):WM nX23 [.int .i64 x] m l e (.tup []) l (if (m && e == 0) = true then x else e):=by
  refine fun_sound (ic:=FX23.body) mixed cX23 rfl rfl ?_
  simp only [FX23,wo,wa,go_sem]
  refine call_w [] (k:=1000) (j:=2000) (s_wsound m l e) (by decide) (by decide) (by decide) (by decide) rfl (by simp) (by rfl) (by rfl) (by rfl) ?_
  cases h:(m && e == 0)
  · simp only [go_sem,wo,wa]
    exact done_n [] _ [(1000,wo 2000 m l e),(2000,wa l)] (by simp only [go_sem]) (by simp only [go_sem,wo,wa]) rfl ⟨rfl,rfl⟩
  · simp only [go_sem,wo,wa]
    exact done_n [] _ [(1000,wo 2000 m l x),(2000,wa l)] (by simp only [go_sem]) (by simp only [go_sem,wo,wa]) rfl ⟨rfl,rfl⟩

def wB (ok:Bool) (l x:List UInt8):List UInt8:=if ok = true then l ++ x else l
theorem s_wbytes (m:Bool) (l x:List UInt8) (e:Int) (hl:l.length < 60000000000 ∧ x.length < 60000000000):WM nX13 [.sl 1 (x.map by_)] m l e (.tup []) (wB (m && e == 0) l x) e:=by
  refine fun_sound (ic:=FX13.body) mixed cX13 rfl rfl ?_
  simp only [FX13,wo,wa,go_sem]
  refine call_w [] (k:=1000) (j:=2000) (s_wsound m l e) (by decide) (by decide) (by decide) (by decide) rfl (by simp) (by rfl) (by rfl) (by rfl) ?_
  cases h:(m && e == 0)
  · simp only [go_sem,wo,wa,wB,Bool.false_eq_true]
    exact done_n [] _ [(1000,wo 2000 m l e),(2000,wa l)] (by simp only [go_sem]) (by simp only [go_sem,wo,wa]) rfl ⟨rfl,rfl⟩
  · have happ:=appO_map 2000 5 1 l.length by_ l (x.map by_) rfl
    simp only [go_sem,wo,wa,wB,happ]
    refine ⟨by omega,done_n [] _ [(1000,wo 2000 m (l ++ x) e),(2000,wa (l ++ x))] (by simp only [go_sem]) ?_ rfl ⟨rfl,rfl⟩⟩
    simp only [go_sem,wo,wa,List.length_append,List.map_append]

theorem wB_len {ok:Bool} {l x:List UInt8}:(wB ok l x).length ≤ l.length + x.length:=by
  unfold wB; split <;> simp
theorem s_wbyte (m:Bool) (l:List UInt8) (x:UInt8) (e:Int) (hl:l.length < 60000000000):WM nX28 [.int .u8 x.toNat] m l e (.tup []) (wB (m && e == 0) l [x]) e:=by
  refine fun_sound (ic:=FX28.body) mixed cX28 rfl rfl ?_
  simp only [FX28,wo,wa,go_sem]
  refine call_w [6] (k:=1000) (j:=2000) (s_wbytes m l [x] e ⟨hl,by simp⟩) (by decide) (by decide) (by decide) (by decide) rfl (by simp [go_sem]) ?_ (by simp only [go_sem,wo]) (by simp only [go_sem,wa]) ?_
  · simp only [go_sem,Nat.le_refl]
  · simp only [go_sem,wo,wa]
    exact done_n [] _ [(1000,wo 2000 m (wB (m && e == 0) l [x]) e),(2000,wa (wB (m && e == 0) l [x]))] (by simp only [go_sem]) (by simp only [go_sem,wo,wa]) rfl ⟨rfl,rfl⟩

def wU (ok:Bool) (l:List UInt8) (e n:Int):List UInt8 × Int :=
  if ok = true then (if n < 0 ∨ n > 4294967295 then (l,1) else (l ++ putU n.toNat,e)) else (l,e)
theorem putU_32 {n:Nat} (h:n ≤ 4294967295):(putU n).length ≤ 5:=putU_len (k:=4) (by omega)
theorem s_wU32 (m:Bool) (l:List UInt8) (e n:Int) (hl:l.length < 60000000000):WM nX32 [.int .i64 n] m l e (.tup []) (wU (m && e == 0) l e n).1 (wU (m && e == 0) l e n).2:=by
  refine fun_sound (ic:=FX32.body) mixed cX32 rfl rfl ?_
  by_cases h1:n < 0 ∨ n > 4294967295
  · have r:wU (m && e == 0) l e n = (l,if (m && e == 0) = true then 1 else e):=by
      unfold wU; cases (m && e == 0) <;> simp [h1]
    rw [r]
    by_cases h2:n < 0
    · have d1:decide (n < 0) = true:=decide_eq_true h2
      simp only [FX32,wo,wa,go_sem,d1]
      refine call_w [] (k:=1000) (j:=2000) (s_wfail m l e 1) (by decide) (by decide) (by decide) (by decide) rfl (by simp [go_sem]) (by rfl) (by rfl) (by rfl) ?_
      simp only [go_sem,wo,wa]
      exact done [] _ [(1000,wo 2000 m l (if (m && e == 0) = true then 1 else e)),(2000,wa l)] (by simp only [go_sem]) (by simp only [go_sem,wo,wa]) rfl ⟨rfl,rfl⟩
    · have d1:decide (n < 0) = false:=decide_eq_false h2
      have d2:decide (n > 4294967295) = true:=decide_eq_true (by omega)
      simp only [FX32,wo,wa,go_sem,d1,d2]
      refine call_w [] (k:=1000) (j:=2000) (s_wfail m l e 1) (by decide) (by decide) (by decide) (by decide) rfl (by simp [go_sem]) (by rfl) (by rfl) (by rfl) ?_
      simp only [go_sem,wo,wa]
      exact done [] _ [(1000,wo 2000 m l (if (m && e == 0) = true then 1 else e)),(2000,wa l)] (by simp only [go_sem]) (by simp only [go_sem,wo,wa]) rfl ⟨rfl,rfl⟩
  · have d1:decide (n < 0) = false:=decide_eq_false (by omega)
    have d2:decide (n > 4294967295) = false:=decide_eq_false (by omega)
    obtain ⟨k,rfl⟩:=Int.eq_ofNat_of_zero_le (show 0 ≤ n by omega)
    have r:wU (m && e == 0) l e k = (wB (m && e == 0) l (putU k),e):=by
      unfold wU wB; cases (m && e == 0) <;> simp only [if_true,if_neg h1,Bool.false_eq_true,if_false,Int.toNat_natCast]
    have w1:IntKind.u64.wrap (k:Int) = (k:Int):=by rw [w_u64]; omega
    have hp:=putU_32 (n:=k) (by omega)
    rw [r]
    simp only [FX32,wo,wa,go_sem,d1,d2,w1]
    refine call_same (s_PutU k (by omega)) (by simp [go_sem]) ?_
    simp only [go_sem]
    refine call_w [] (k:=1000) (j:=2000) (s_wbytes m l (putU k) e ⟨hl,by omega⟩) (by decide) (by decide) (by decide) (by decide) rfl (by simp [go_sem]) (by rfl) (by rfl) (by rfl) ?_
    simp only [go_sem,wo,wa]
    exact done_n [] _ [(1000,wo 2000 m (wB (m && e == 0) l (putU k)) e),(2000,wa (wB (m && e == 0) l (putU k)))] (by simp only [go_sem]) (by simp only [go_sem,wo,wa]) rfl ⟨rfl,rfl⟩

def wN (ok:Bool) (l:List UInt8) (e:Int) (x:List UInt8):List UInt8 × Int :=
  if ok = true then (if uv x = false then (l,9) else if x.length > 64 then (l,6) else (l ++ putU x.length ++ x,e)) else (l,e)
theorem s_wname (m:Bool) (l x:List UInt8) (e:Int) (hl:l.length < 10000000 ∧ x.length < 10000000):WM nX18 [.str x] m l e (.tup []) (wN (m && e == 0) l e x).1 (wN (m && e == 0) l e x).2:=by
  refine fun_sound (ic:=FX18.body) mixed cX18 rfl rfl ?_
  simp only [FX18,wo,wa,go_sem]
  refine call_same (s_uvS x (by omega)) (by simp [go_sem]) ?_
  cases hv:uv x
  · have r:wN (m && e == 0) l e x = (l,if (m && e == 0) = true then 9 else e):=by
      unfold wN; cases (m && e == 0) <;> simp [hv]
    rw [r]
    simp only [go_sem]
    refine call_w [] (k:=1000) (j:=2000) (s_wfail m l e 9) (by decide) (by decide) (by decide) (by decide) rfl (by simp [go_sem]) (by rfl) (by rfl) (by rfl) ?_
    simp only [go_sem,wo,wa]
    exact done_n [] _ [(1000,wo 2000 m l (if (m && e == 0) = true then 9 else e)),(2000,wa l)] (by simp only [go_sem]) (by simp only [go_sem,wo,wa]) rfl ⟨rfl,rfl⟩
  · by_cases h64:x.length > 64
    · have d1:decide ((x.length:Int) > 64) = true:=decide_eq_true (by omega)
      have r:wN (m && e == 0) l e x = (l,if (m && e == 0) = true then 6 else e):=by
        unfold wN; cases (m && e == 0) <;> simp [hv,h64]
      rw [r]
      simp only [go_sem,d1]
      refine call_w [] (k:=1000) (j:=2000) (s_wfail m l e 6) (by decide) (by decide) (by decide) (by decide) rfl (by simp [go_sem]) (by rfl) (by rfl) (by rfl) ?_
      simp only [go_sem,wo,wa]
      exact done_n [] _ [(1000,wo 2000 m l (if (m && e == 0) = true then 6 else e)),(2000,wa l)] (by simp only [go_sem]) (by simp only [go_sem,wo,wa]) rfl ⟨rfl,rfl⟩
    · have d1:decide ((x.length:Int) > 64) = false:=decide_eq_false (by omega)
      have r1:wU (m && e == 0) l e x.length = (wB (m && e == 0) l (putU x.length),e):=by
        unfold wU wB
        have h1:¬ ((x.length:Int) < 0 ∨ (x.length:Int) > 4294967295):=by omega
        cases (m && e == 0) <;> simp only [if_true,if_neg h1,Bool.false_eq_true,if_false,Int.toNat_natCast]
      have r:wN (m && e == 0) l e x = (wB (m && e == 0) (wB (m && e == 0) l (putU x.length)) x,e):=by
        unfold wN wB; cases (m && e == 0) <;> simp [hv,h64]
      have hp:=putU_32 (n:=x.length) (by omega)
      have hl2:=wB_len (ok:=(m && e == 0)) (l:=l) (x:=putU x.length)
      rw [r]
      simp only [go_sem,d1]
      have c1:=s_wU32 m l e x.length (by omega)
      rw [r1] at c1
      refine call_w [] (k:=1000) (j:=2000) c1 (by decide) (by decide) (by decide) (by decide) rfl (by simp [go_sem]) (by rfl) (by rfl) (by rfl) ?_
      simp only [go_sem,wo,wa]
      refine ⟨by omega,?_⟩
      refine call_w [10] (k:=1000) (j:=2000) (s_wbytes m (wB (m && e == 0) l (putU x.length)) x e ⟨by omega,by omega⟩) (by decide) (by decide) (by decide) (by decide) rfl (by simp [go_sem]) ?_ (by simp only [go_sem,wo]) (by simp only [go_sem,wa]) ?_
      · simp only [go_sem,Nat.le_refl,List.length_map]
        rw [List.take_of_length_le (by simp)]
        rfl
      · simp only [go_sem,wo,wa]
        exact done_n [] _ [(1000,wo 2000 m (wB (m && e == 0) (wB (m && e == 0) l (putU x.length)) x) e),(2000,wa (wB (m && e == 0) (wB (m && e == 0) l (putU x.length)) x))] (by simp only [go_sem]) (by simp only [go_sem,wo,wa]) rfl ⟨rfl,rfl⟩

def wD (m:Bool) (l:List UInt8) (e:Int):Option (List UInt8) × Int:=if m = true then (if e = 0 then (some l,0) else (none,e)) else (none,2)
theorem s_wdone (m:Bool) (l:List UInt8) (e:Int) (hl:l.length < 60000000000):WM nX19 [] m l e (.tup [slv (wD m l e).1,.int .i64 (wD m l e).2]) l e:=by
  refine fun_sound (ic:=FX19.body) mixed cX19 rfl rfl ?_
  cases m
  · simp only [FX19,wo,wa,go_sem,wD,Bool.false_eq_true]
    exact done [] _ [(1000,wo 2000 false l e),(2000,wa l)] (by simp only [go_sem]) (by simp only [go_sem,wo,wa]) rfl ⟨rfl,rfl⟩
  · by_cases he:e = 0
    · subst he
      have d:((0:Int) != 0) = false:=rfl
      have hr:=rowO_map 1 l.length 5 by_ l rfl
      simp only [FX19,wo,wa,go_sem,wD,d,hr]
      refine ⟨by omega,done [28] _ [(1000,wo 2000 true l 0),(2000,wa l)] ?_ (by simp only [go_sem,wo,wa]) rfl ⟨rfl,rfl⟩⟩
      simp only [go_sem,Nat.le_refl,List.length_map]
      rw [List.take_of_length_le (by simp)]
    · have d:(e != 0) = true:=by simp [he]
      have r:wD true l e = (none,e):=by simp [wD,he]
      rw [r]
      simp only [FX19,wo,wa,go_sem,d]
      exact done [] _ [(1000,wo 2000 true l e),(2000,wa l)] (by simp only [go_sem]) (by simp only [go_sem,wo,wa]) rfl ⟨rfl,rfl⟩
theorem s_wnew:ACalls Tryz.prog nX128 [] [] sb (fun r' σ'=>r' = .mp 2 3 0 0 ∧ σ' = [(2,wo 2000 true [] 0),(2000,wa [])]):=by
  refine fun_sound (ic:=FX128.body) mixed cX128 rfl rfl ?_
  simp only [FX128,go_sem]
  refine wdone ((Wk.new0 _ 2000 1 5 (by decide)).trans (Wk.nlm _ 2 (t:=124) (st:=3) (r:=[.bool true,.nl,.int .i64 0]) (r':=[.bool true,.ms 2000 1 0 0,.int .i64 0]) ?_ ?_)) [] (.mp 2 3 0 0) [(2,wo 2000 true [] 0),(2000,wa [])] ?_ ?_ rfl ⟨rfl,rfl⟩
  · simp only [go_sem]
  · exact ⟨.inl rfl,.inr ⟨rfl,.inr ⟨2000,1,rfl⟩⟩,.inl rfl,trivial⟩
  · simp only [go_sem]
  · simp only [go_sem,wo,wa,List.length_nil]
end Go.Proofs.YtoikbadfbneahaaGreatDoor
set_option linter.unusedSimpArgs false
set_option maxRecDepth 100000
set_option maxHeartbeats 4000000
set_option linter.unusedVariables false
namespace Go.Proofs.YtoikbadfbneahaaGreatDoor
open Go Go.Mw

theorem s_read (b:List UInt8) (hb:b.length < 1000000000):ACalls Tryz.prog nX101 [.sl 1 (b.map by_)] [] sb (fun r' σ'=>r' = .mp 6 4 0 0 ∧ σ' = [(6,ro true b ((0:Nat):Int) 0)]):=by
  refine fun_sound (ic:=FX101.body) mixed cX101 rfl rfl ?_
  simp only [FX101,go_sem]
  refine ⟨by omega,done [4] _ [(6,ro true b ((0:Nat):Int) 0)] (by simp only [go_sem]) ?_ rfl ⟨rfl,rfl⟩⟩
  simp only [go_sem,ro,Nat.le_refl,List.length_map]
  rw [List.take_of_length_le (by simp)]
  rfl
theorem call_wnew {d:Option Nat} {s:St} {K:St → Prop} (k j:Nat) (hk:k < 1000) (hj:j < 1000 ∨ 2000 < j) (hkj:k ≠ j) (hfk:hget s.heap k = none) (hfj:hget s.heap j = none)
    (hK:K ((St.mk (purEs [k,j] s.env) ((k,wo j true [] 0) :: (j,wa []) :: purHs [k,j] s.heap)).put d (.mp k 3 0 0))):icall Tryz.prog nX128 [] d s K:=by
  have e0:fw [(2,k),(2000,j)] 2 = k:=by
    simp only [fw]; unfold swp
    have q:¬ k = 2000:=by omega
    simp [q,hkj]
  have e1:fw [(2,k),(2000,j)] 2000 = j:=by
    simp only [fw]; unfold swp
    have q:¬ (2000 = k):=by omega
    simp [q]
  refine call_obj (σ2:=[]) (r3:=.mp k 3 0 0) (σ3:=[(k,wo j true [] 0),(j,wa [])]) s_wnew [(2,k),(2000,j)] [k,j] rfl rfl ?_ ?_ (fun p hp=>by cases hp) (fun p hp=>?_) (fun p hp=>by cases hp) hK
  · simp only [renV,renG,renC,renP,e0]
  · simp only [renH,renO,wo,wa,if_true,List.map_cons,List.map_nil,renC,renP,e0,e1,Bool.false_eq_true,if_false]; rfl
  · simp only [List.mem_cons,List.not_mem_nil,or_false] at hp
    rcases hp with rfl | rfl
    · exact .inr ⟨by simp,.inl hk,.inr hfk⟩
    · exact .inr ⟨by simp,by rcases hj with h | h <;> omega,.inr hfj⟩

theorem bytes_by:∀ l:List UInt8,bytesA (l.map by_) = some l
  | []=>rfl
  | b :: l=>by
    simp only [List.map_cons,by_,bytesA,bytes_by l,Option.map_some,Int.toNat_natCast,UInt8.ofNat_toNat]
end Go.Proofs.YtoikbadfbneahaaGreatDoor
set_option linter.unusedSimpArgs false
set_option maxRecDepth 100000
set_option maxHeartbeats 4000000
set_option linter.unusedVariables false
namespace Go.Proofs.YtoikbadfbneahaaGreatDoor
open Go Go.Mw

end Go.Proofs.YtoikbadfbneahaaGreatDoor
set_option linter.unusedSimpArgs false
set_option maxRecDepth 100000
set_option maxHeartbeats 4000000
set_option linter.unusedVariables false
namespace Go.Proofs.YtoikbadfbneahaaGreatDoor
open Go Go.Mw
-- @U: rx,ro,slv_none,slv_some

def nameT (b:List UInt8) (a:Nat) (t:Option (List UInt8) × Nat × Int):List UInt8 × Nat × Int :=
  if t.2.2 ≠ 0 then ([],a,t.2.2) else if uv (t.1.getD []) = false then ([],a,9) else (t.1.getD [],t.2.1,0)
def rName (ok:Bool) (b:List UInt8) (a:Nat) (e:Int):List UInt8 × Nat × Int :=
  if ok = true then nameT b a (rTake ((rCount true b a 0 64).2.2 == 0) b (rCount true b a 0 64).2.1 (rCount true b a 0 64).2.2 (rCount true b a 0 64).1) else ([],a,e)
theorem rCount_a {ok:Bool} {b:List UInt8} {a:Nat} {e most:Int} (h:a ≤ b.length):(rCount ok b a e most).2.1 ≤ b.length:=by
  unfold rCount
  split
  · split
    · exact h
    · exact rU_a h
  · exact h
theorem rCount_lt (ok:Bool) (b:List UInt8) (a:Nat) (e most:Int):(rCount ok b a e most).1 < 4294967296:=by
  unfold rCount
  split
  · split
    · exact (by decide:(0:Nat) < 4294967296)
    · exact rU_lt _ _ _ _
  · exact (by decide:(0:Nat) < 4294967296)
theorem rTake_cases (b:List UInt8) (a:Nat) (e n:Int) (ha:a ≤ b.length):(∃ x,x ≠ 0 ∧ rTake (e == 0) b a e n = (none,a,x)) ∨ e = 0 ∧ ∃ l,l.length ≤ b.length ∧ rTake (e == 0) b a e n = (some l,a + n.toNat,0) ∧ l = (b.drop a).take n.toNat:=by
  by_cases h:e = 0
  · subst h
    by_cases h1:n < 0
    · exact .inl ⟨1,by decide,by simp [rTake,h1]⟩
    · by_cases h2:n > (b.length:Int) - a
      · exact .inl ⟨3,by decide,by simp [rTake,h1,h2]⟩
      · exact .inr ⟨rfl,(b.drop a).take n.toNat,by simp; omega,by simp only [rTake,beq_self_eq_true,if_true,if_neg h1,if_neg h2],rfl⟩
  · exact .inl ⟨e,h,by simp [rTake,h]⟩

theorem s_name (m:Bool) (b:List UInt8) (a:Nat) (e:Int) (ha:a ≤ b.length) (hb:b.length < 1000000000) :
    RM nX22 [] m b a e (.str (rName (m && e == 0) b a e).1) (rName (m && e == 0) b a e).2.1 (rName (m && e == 0) b a e).2.2:=by
  refine fun_sound (ic:=FX22.body) mixed cX22 rfl rfl ?_
  simp only [go_sem,rx,ro,FX22]
  refine call_m (s_sound m b a e) ⟨by decide,by decide⟩ (by first | rfl | exact slv_ids _) (by simp [go_sem,rx,ro]) rfl rfl (by rfl) ?_
  cases h:(m && e == 0)
  · have r:rName false b a e = ([],a,e):=by simp [rName]
    rw [r]
    simp only [go_sem,rx,ro]
    exact done1 (fun _ h=>by cases h) (by simp only [go_sem,rx,ro]) (by rfl) (by first | rfl | simp [go_sem,slv_ids,clB,rx,ro])
  · obtain ⟨rfl,h2⟩:=Bool.and_eq_true_iff.1 h
    obtain rfl:e = 0:=by simpa using h2
    simp only [go_sem,rx,ro]
    refine call_m (s_count true b a 0 64 ha hb) ⟨by decide,by decide⟩ (by first | rfl | exact slv_ids _) (by simp [go_sem,rx,ro]) rfl rfl (by rfl) ?_
    have hl:=rCount_lt true b a 0 64
    have ha2:=rCount_a (ok:=true) (e:=0) (most:=64) ha
    have r:rName true b a 0 = nameT b a (rTake ((rCount true b a 0 64).2.2 == 0) b (rCount true b a 0 64).2.1 (rCount true b a 0 64).2.2 (rCount true b a 0 64).1):=by simp [rName]
    rw [h,r]
    generalize hc:rCount true b a 0 64 = c at *
    obtain ⟨n,a1,e1⟩:=c
    simp only [go_sem,rx,ro]
    refine call_m (s_take true b a1 e1 n ha2 hb (by omega)) ⟨by decide,by decide⟩ (by first | rfl | exact slv_ids _) (by simp [go_sem,rx,ro]) rfl rfl (by rfl) ?_
    rw [Bool.true_and]
    rcases rTake_cases b a1 e1 (n:Int) ha2 with ⟨x,hx,ht⟩ | ⟨rfl,l,hl2,ht,_⟩
    · have r2:nameT b a (none,a1,x) = ([],a,x):=by simp [nameT,hx]
      rw [ht,r2]
      simp only [go_sem,rx,ro,bytesA,Option.map_some,beq_f hx,bne_t hx]
      exact done1 (fun _ h=>by cases h) (by simp only [go_sem,rx,ro]) (by rfl) (by first | rfl | simp [go_sem,slv_ids,clB,rx,ro])
    · have b1:=bytes_by l
      rw [Int.toNat_natCast] at ht
      rw [ht]
      simp only [go_sem,rx,ro,b1,Option.map_some]
      refine call_same (s_uvS l (by omega)) (by simp [go_sem,rx,ro]) ?_
      cases hv:uv l
      · have r2:nameT b a (some l,a1 + n,0) = ([],a,9):=by simp [nameT,hv]
        rw [r2]
        simp only [go_sem,rx,ro]
        refine call_m (s_fail_ok b ((a1 + n:Nat):Int) 9) ⟨by decide,by decide⟩ (by first | rfl | exact slv_ids _) (by simp [go_sem,rx,ro]) rfl rfl (by rfl) ?_
        simp only [go_sem,rx,ro]
        exact done1 (fun _ h=>by cases h) (by simp only [go_sem,rx,ro]) (by rfl) (by first | rfl | simp [go_sem,slv_ids,clB,rx,ro])
      · have r2:nameT b a (some l,a1 + n,0) = (l,a1 + n,0):=by simp [nameT,hv]
        rw [r2]
        simp only [go_sem,rx,ro]
        exact done1 (fun _ h=>by cases h) (by simp only [go_sem,rx,ro]) (by rfl) (by first | rfl | simp [go_sem,slv_ids,clB,rx,ro])
theorem q_Name (b:List UInt8) (a:Nat) (e:Int) (ha:a ≤ b.length) (hb:b.length < 1000000000) :
    PCalls Tryz.prog nX104 [rx b a e] (.tup [rx b (rName (e == 0) b a e).2.1 (rName (e == 0) b a e).2.2,.str (rName (e == 0) b a e).1]):=by
  refine pfun_sound (ic:=FX104.body) mixed cX104 rfl rfl ?_
  have cc:=q_Count b a e ha hb 64
  by_cases h:e = 0
  · subst h
    simp only [go_sem,rx,ro,FX104]
    refine call_same (cc) (by simp [go_sem,rx,ro]) ?_
    have hl:=rCount_lt true b a 0 64
    have ha2:=rCount_a (ok:=true) (e:=0) (most:=64) ha
    have r:rName true b a 0 = nameT b a (rTake ((rCount true b a 0 64).2.2 == 0) b (rCount true b a 0 64).2.1 (rCount true b a 0 64).2.2 (rCount true b a 0 64).1):=by simp [rName]
    rw [r]
    simp only [go_sem,rx,ro]
    generalize hc:rCount true b a 0 64 = c at *
    obtain ⟨n,a1,e1⟩:=c
    have ct:=q_Take b a1 e1 n ha2 hb (by omega)
    rcases rTake_cases b a1 e1 (n:Int) ha2 with ⟨x,hx,ht⟩ | ⟨rfl,l,hl2,ht,_⟩
    · have r2:nameT b a (none,a1,x) = ([],a,x):=by simp [nameT,hx]
      rw [ht] at ct
      rw [ht,r2]
      refine call_same (ct) (by simp [go_sem,rx,ro]) ?_
      simp only [go_sem,rx,ro,beq_f hx,bne_t hx]
      refine call_same (q_Fail0 b a x) (by simp [go_sem,rx,ro]) ?_
      simp only [go_sem,rx,ro]
      exact pdone [] (by simp only [go_sem,rx,ro]) (by first | rfl | simp [go_sem,slv_ids,rx,ro])
    · have b1:=bytes_by l
      rw [Int.toNat_natCast] at ht
      rw [ht] at ct
      rw [ht]
      refine call_same (ct) (by simp [go_sem,rx,ro]) ?_
      simp only [go_sem,rx,ro]
      refine call_same (s_uvB l (by omega)) (by simp [go_sem,rx,ro]) ?_
      cases hv:uv l
      · have r2:nameT b a (some l,a1 + n,0) = ([],a,9):=by simp [nameT,hv]
        rw [r2]
        simp only [go_sem,rx,ro]
        refine call_same (q_Fail0 b a 9) (by simp [go_sem,rx,ro]) ?_
        simp only [go_sem,rx,ro]
        exact pdone [] (by simp only [go_sem,rx,ro]) (by first | rfl | simp [go_sem,slv_ids,rx,ro])
      · have r2:nameT b a (some l,a1 + n,0) = (l,a1 + n,0):=by simp [nameT,hv]
        rw [r2]
        simp only [go_sem,rx,ro,b1,Option.map_some]
        exact pdone [] (by simp only [go_sem,rx,ro]) (by first | rfl | simp [go_sem,slv_ids,rx,ro])
  · have r:rCount (e == 0) b a e 64 = (0,a,e):=by simp [rCount,h]
    have r1:rTake (e == 0) b a e ((0:Nat):Int) = (none,a,e):=by simp [rTake,h]
    have r2:rName (e == 0) b a e = ([],a,e):=by simp [rName,h]
    have ct:=q_Take b a e ((0:Nat):Int) ha hb (by decide)
    rw [r] at cc
    rw [r1] at ct
    rw [r2]
    simp only [go_sem,rx,ro,FX104]
    refine call_same (cc) (by simp [go_sem,rx,ro]) ?_
    simp only [go_sem,rx,ro]
    refine call_same (ct) (by simp [go_sem,rx,ro]) ?_
    simp only [go_sem,rx,ro,beq_f h,bne_t h]
    refine call_same (q_Fail b a e e) (by simp [go_sem,rx,ro]) ?_
    simp only [go_sem,rx,ro,if_neg h]
    exact pdone [] (by simp only [go_sem,rx,ro]) (by first | rfl | simp [go_sem,slv_ids,rx,ro])

theorem s_subG (b:List UInt8) (a:Nat) (e n:Int) (ha:a ≤ b.length) (hb:b.length < 1000000000) (hn:-9223372036854775808 ≤ n ∧ n < 9223372036854775808) :
    ACalls Tryz.prog nX34 [.mp 1000 4 0 0,.int .i64 n] [(1000,ro true b a e)] sb (fun r' σ'=>r' = .mp 24 4 0 0 ∧ σ' = [(1000,ro true b (rTake (e == 0) b a e n).2.1 (rTake (e == 0) b a e n).2.2),(24,ro true ((rTake (e == 0) b a e n).1.getD []) ((0:Nat):Int) (rTake (e == 0) b a e n).2.2)]):=by
  refine fun_sound (ic:=FX34.body) mixed cX34 rfl rfl ?_
  simp only [go_sem,rx,ro,FX34]
  refine call_m (s_take true b a e n ha hb hn) ⟨by decide,by decide⟩ (by first | rfl | exact slv_ids _) (by simp [go_sem,rx,ro]) rfl rfl (by rfl) ?_
  rw [Bool.true_and]
  cases hl:(rTake (e == 0) b a e n).1 with
  | none =>
    simp only [go_sem,rx,ro]
    refine wdone (Wk.nlh _ 24 (t:=204) (st:=4) (r:=[.bool true,.nl,.int .i64 0,.int .i64 (rTake (e == 0) b a e n).2.2]) (r':=[.bool true,.sl 1 [],.int .i64 0,.int .i64 (rTake (e == 0) b a e n).2.2]) (by simp only [go_sem,rx,ro]) ⟨.inl rfl,.inr ⟨rfl,1,rfl⟩,.inl rfl,.inl rfl,trivial⟩) [] (.mp 24 4 0 0) [(1000,ro true b (rTake (e == 0) b a e n).2.1 (rTake (e == 0) b a e n).2.2),(24,ro true [] ((0:Nat):Int) (rTake (e == 0) b a e n).2.2)] (by simp only [go_sem,rx,ro]) (by simp only [go_sem,rx,ro]; rfl) rfl ⟨rfl,rfl⟩
  | some l =>
    simp only [go_sem,rx,ro]
    exact done [] _ [(1000,ro true b (rTake (e == 0) b a e n).2.1 (rTake (e == 0) b a e n).2.2),(24,ro true l ((0:Nat):Int) (rTake (e == 0) b a e n).2.2)] (by simp only [go_sem,rx,ro]) (by simp only [go_sem,rx,ro]; rfl) rfl ⟨rfl,rfl⟩
theorem q_Sub (b:List UInt8) (a:Nat) (e n:Int) (ha:a ≤ b.length) (hb:b.length < 1000000000) (hn:-9223372036854775808 ≤ n ∧ n < 9223372036854775808) :
    PCalls Tryz.prog nX122 [rx b a e,.int .i64 n] (.tup [rx b (rTake (e == 0) b a e n).2.1 (rTake (e == 0) b a e n).2.2,rx ((rTake (e == 0) b a e n).1.getD []) 0 (rTake (e == 0) b a e n).2.2]):=by
  refine pfun_sound (ic:=FX122.body) mixed cX122 rfl rfl ?_
  simp only [go_sem,rx,ro,FX122]
  refine call_same (q_Take b a e n ha hb hn) (by simp [go_sem,rx,ro]) ?_
  cases hl:(rTake (e == 0) b a e n).1 with
  | none =>
    simp only [go_sem,rx,ro]
    exact wpdone (Wk.nlh _ 5 (t:=193) (st:=3) (r:=[.nl,.int .i64 0,.int .i64 (rTake (e == 0) b a e n).2.2]) (r':=[.sl 1 [],.int .i64 0,.int .i64 (rTake (e == 0) b a e n).2.2]) (by simp only [go_sem,rx,ro]) ⟨.inr ⟨rfl,1,rfl⟩,.inl rfl,.inl rfl,trivial⟩) [] (by simp only [go_sem,rx,ro]) rfl
  | some l =>
    simp only [go_sem,rx,ro]
    exact pdone [] (by simp only [go_sem,rx,ro]) rfl
end Go.Proofs.YtoikbadfbneahaaGreatDoor
set_option linter.unusedSimpArgs false
set_option maxRecDepth 100000
set_option maxHeartbeats 4000000
set_option linter.unusedVariables false
namespace Go.Proofs.YtoikbadfbneahaaGreatDoor
open Go Go.Mw
-- @U: rx,ro,slv_none,slv_some

end Go.Proofs.YtoikbadfbneahaaGreatDoor
set_option linter.unusedSimpArgs false
set_option maxRecDepth 100000
set_option maxHeartbeats 4000000
set_option linter.unusedVariables false
set_option linter.unusedSectionVars false
namespace Go.Proofs.YtoikbadfbneahaaGreatDoor
open Go Go.Mw
-- @U: rx,ro,slv_none,slv_some

theorem nameT_a {b:List UInt8} {a:Nat} {t:Option (List UInt8) × Nat × Int} (h:a ≤ b.length) (h2:t.2.1 ≤ b.length):(nameT b a t).2.1 ≤ b.length:=by
  unfold nameT
  repeat' split
  all_goals first | exact h | exact h2
theorem rName_a {ok:Bool} {b:List UInt8} {a:Nat} {e:Int} (h:a ≤ b.length):(rName ok b a e).2.1 ≤ b.length:=by
  unfold rName
  split
  · exact nameT_a h (rTake_a (rCount_a h))
  · exact h
section
variable (n:Int) (b:List UInt8) (a:Nat) (e:Int) (b2:List UInt8) (a2:Nat) (e2:Int) (hn:-9223372036854775808 ≤ n ∧ n < 9223372036854775808) (ha:a ≤ b.length) (hb:b.length < 1000000000) (ha2:a2 ≤ b2.length) (hb2:b2.length < 1000000000)
include hn ha hb ha2 hb2
end
end Go.Proofs.YtoikbadfbneahaaGreatDoor
set_option linter.unusedSimpArgs false
set_option maxRecDepth 100000
set_option maxHeartbeats 4000000
set_option linter.unusedVariables false
namespace Go.Proofs.YtoikbadfbneahaaGreatDoor
open Go Go.Mw
-- @U: rx,ro,slv_none,slv_some

end Go.Proofs.YtoikbadfbneahaaGreatDoor
set_option linter.unusedSimpArgs false
set_option maxRecDepth 100000
set_option maxHeartbeats 4000000
set_option linter.unusedVariables false
namespace Go.Proofs.YtoikbadfbneahaaGreatDoor
open Go Go.Mw
-- @U: rx,ro,slv_none,slv_some

def act_ (x:Int × Int):List AV:=[.int .i64 x.1,.int .i64 x.2]
theorem act_e (x:Int × Int):act_ x = [.int .i64 x.1,.int .i64 x.2]:=rfl
attribute [go_sem] act_e
theorem q_Read (b:List UInt8):PCalls Tryz.prog nX110 [.sl 1 (b.map by_)] (rx b 0 0):=by
  refine pfun_sound (ic:=FX110.body) mixed cX110 rfl rfl ?_
  simp only [go_sem,rx,ro,FX110]
  exact pdone [] (by simp only [go_sem,rx,ro]) (by first | rfl | simp [go_sem,slv_ids,rx,ro])
end Go.Proofs.YtoikbadfbneahaaGreatDoor
set_option linter.unusedSimpArgs false
set_option maxRecDepth 100000
set_option maxHeartbeats 4000000
set_option linter.unusedVariables false
namespace Go.Proofs.YtoikbadfbneahaaGreatDoor
open Go Go.Mw
-- @U: wo,wa,slv_none,slv_some

theorem i64_in (x:Int):inI (IntKind.i64.wrap x):=by unfold inI; rw [w_i64]; omega
section
variable (m:Bool) (l:List UInt8) (e:Int) (hl:l.length < 50000000000)
include hl
def wP (ok:Bool) (l:List UInt8) (e:Int) (mp:Bool) (lp:List UInt8) (ep:Int):List UInt8 × Int :=
  if mp = true then (if ep ≠ 0 then (l,if ok = true then ep else e) else (wB ok (wB ok l (putU lp.length)) lp,e)) else (l,if ok = true then 2 else e)
theorem s_wpart (mp:Bool) (lp:List UInt8) (ep:Int) (hp:lp.length < 4000000000) :
    ACalls Tryz.prog nX20 [.mp 1000 3 0 0,.mp 1001 3 0 0] [(1000,wo 2000 m l e),(2000,wa l),(1001,wo 2001 mp lp ep),(2001,wa lp)] sb
      (fun r' σ'=>r' = .tup [] ∧ σ' = [(1000,wo 2000 m (wP (m && e == 0) l e mp lp ep).1 (wP (m && e == 0) l e mp lp ep).2),(2000,wa (wP (m && e == 0) l e mp lp ep).1),(1001,wo 2001 mp lp ep),(2001,wa lp)]):=by
  refine fun_sound (ic:=FX20.body) mixed cX20 rfl rfl ?_
  cases mp
  · have r:wP (m && e == 0) l e false lp ep = (l,if (m && e == 0) = true then 2 else e):=by simp [wP]
    rw [r]
    simp only [go_sem,wo,wa,FX20]
    refine call_w [] (k:=1000) (j:=2000) (s_wfail m l e 2) (by decide) (by decide) (by decide) (by decide) (by first | rfl | simp [go_sem,slv_ids,wo,wa]) (by simp [go_sem,wo,wa]) (by rfl) (by rfl) (by rfl) ?_
    simp only [go_sem,wo,wa]
    exact done [] _ [(1000,wo 2000 m l (if (m && e == 0) = true then 2 else e)),(2000,wa l),(1001,wo 2001 false lp ep),(2001,wa lp)] (by simp only [go_sem,wo,wa]) (by simp only [go_sem,wo,wa]) rfl ⟨rfl,rfl⟩
  · by_cases h:ep = 0
    · subst h
      have r:wP (m && e == 0) l e true lp 0 = (wB (m && e == 0) (wB (m && e == 0) l (putU lp.length)) lp,e):=by simp [wP]
      have r1:wU (m && e == 0) l e lp.length = (wB (m && e == 0) l (putU lp.length),e):=by
        unfold wU wB
        have h1:¬ ((lp.length:Int) < 0 ∨ (lp.length:Int) > 4294967295):=by omega
        cases (m && e == 0) <;> simp only [if_true,if_neg h1,Bool.false_eq_true,if_false,Int.toNat_natCast]
      have c1:=s_wU32 m l e lp.length (by omega)
      have hp2:=putU_32 (n:=lp.length) (by omega)
      have hl2:=wB_len (ok:=(m && e == 0)) (l:=l) (x:=putU lp.length)
      have hr:=rowO_map 1 lp.length 5 by_ lp rfl
      rw [r1] at c1
      rw [r]
      simp only [go_sem,wo,wa,FX20,hr]
      refine ⟨by omega,?_⟩
      refine call_w [] (k:=1000) (j:=2000) (c1) (by decide) (by decide) (by decide) (by decide) (by first | rfl | simp [go_sem,slv_ids,wo,wa]) (by simp [go_sem,wo,wa]) (by rfl) (by rfl) (by rfl) ?_
      simp only [go_sem,wo,wa]
      refine call_w [31] (k:=1000) (j:=2000) (s_wbytes m (wB (m && e == 0) l (putU lp.length)) lp e ⟨by omega,by omega⟩) (by decide) (by decide) (by decide) (by decide) (by first | rfl | simp [go_sem,slv_ids,wo,wa]) (by simp [go_sem,wo,wa]) ?_ (by rfl) (by rfl) ?_
      · simp only [go_sem,wo,wa,Nat.le_refl,List.length_map]
        rw [List.take_of_length_le (by simp)]
      · simp only [go_sem,wo,wa]
        exact done_n [] _ [(1000,wo 2000 m (wB (m && e == 0) (wB (m && e == 0) l (putU lp.length)) lp) e),(2000,wa (wB (m && e == 0) (wB (m && e == 0) l (putU lp.length)) lp)),(1001,wo 2001 true lp 0),(2001,wa lp)] (by simp only [go_sem,wo,wa]) (by simp only [go_sem,wo,wa]) rfl ⟨rfl,rfl⟩
    · have r:wP (m && e == 0) l e true lp ep = (l,if (m && e == 0) = true then ep else e):=by simp [wP,h]
      rw [r]
      simp only [go_sem,wo,wa,FX20,bne_t h]
      refine call_w [] (k:=1000) (j:=2000) (s_wfail m l e ep) (by decide) (by decide) (by decide) (by decide) (by first | rfl | simp [go_sem,slv_ids,wo,wa]) (by simp [go_sem,wo,wa]) (by rfl) (by rfl) (by rfl) ?_
      simp only [go_sem,wo,wa]
      exact done [] _ [(1000,wo 2000 m l (if (m && e == 0) = true then ep else e)),(2000,wa l),(1001,wo 2001 true lp ep),(2001,wa lp)] (by simp only [go_sem,wo,wa]) (by simp only [go_sem,wo,wa]) rfl ⟨rfl,rfl⟩
end
end Go.Proofs.YtoikbadfbneahaaGreatDoor
set_option linter.unusedSimpArgs false
set_option maxRecDepth 100000
set_option maxHeartbeats 4000000
set_option linter.unusedVariables false
set_option linter.unusedSectionVars false
namespace Go.Proofs.YtoikbadfbneahaaGreatDoor
open Go Go.Mw
-- @U: wx,slv_none,slv_some

def wx (l:List UInt8) (e:Int):AV:=.agg [.sl 1 (l.map by_),.int .i64 e]
theorem appO_nil (id:Nat) (ys:List (List AV)) (hy:ys.length < 100000000000) (hid:id < 1000):appO id 5 1 0 0 ys (some ⟨5,1,[],false⟩) = some (.ms id 1 0 ys.length,.reb id ⟨5,1,ys,false⟩):=by
  have h:=appO_map id 5 1 0 by_ [] ys rfl
  rw [if_pos ⟨by omega,by decide,.inl hid⟩] at h
  simpa using h
theorem appO_by (id:Nat) (l x:List UInt8) (hl:l.length < 100000000000) (hx:x.length < 100000000000) (hid:id < 1000):appO id 5 1 0 l.length (x.map by_) (some ⟨5,1,l.map by_,false⟩) = some (.ms id 1 0 (l.length + x.length),.reb id ⟨5,1,(l ++ x).map by_,false⟩):=by
  have h:=appO_map id 5 1 l.length by_ l (x.map by_) rfl
  rw [if_pos ⟨by simp; omega,by omega,.inl hid⟩] at h
  rw [h,List.map_append,List.length_map]
theorem p_Fail (l:List UInt8) (e x:Int):PCalls Tryz.prog nX59 [wx l e,.int .i64 x] (wx l (if e = 0 then x else e)):=by
  refine pfun_sound (ic:=FX59.body) mixed cX59 rfl rfl ?_
  by_cases h:e = 0
  · subst h
    simp only [go_sem,wx,FX59]
    exact pdone [] (by simp only [go_sem,wx]) (by first | rfl | simp [go_sem,slv_ids,wx])
  · simp only [go_sem,wx,FX59,beq_f h,if_neg h]
    exact pdone [] (by simp only [go_sem,wx]) (by first | rfl | simp [go_sem,slv_ids,wx])
theorem p_Bytes (l:List UInt8) (e:Int) (hl:l.length < 50000000000) (x:List UInt8) (hx:x.length < 50000000000):PCalls Tryz.prog nX53 [wx l e,.sl 1 (x.map by_)] (wx (wB (e == 0) l x) e):=by
  refine pfun_sound (ic:=FX53.body) mixed cX53 rfl rfl ?_
  by_cases h:e = 0
  · subst h
    have r:wB ((0:Int) == 0) l x = l ++ x:=rfl
    have a1:=appO_nil 9 (l.map by_) (by simp; omega) (by decide)
    have a2:=appO_by 9 l x (by omega) (by omega) (by decide)
    rw [List.length_map] at a1
    rw [r]
    simp only [go_sem,wx,FX53,a1,a2,List.length_map]
    refine pdone [9] ?_ ?_
    · simp only [go_sem,wx,Nat.le_refl,List.length_map,List.length_append]
      rw [List.take_of_length_le (by simp)]
    · rfl
  · have r:wB (e == 0) l x = l:=by simp [wB,h]
    rw [r]
    simp only [go_sem,wx,FX53,bne_t h]
    exact pdone [] (by simp only [go_sem,wx]) (by first | rfl | simp [go_sem,slv_ids,wx])
section
variable (l:List UInt8) (e:Int) (hl:l.length < 45000000000)
include hl
theorem p_Byte (x:UInt8):PCalls Tryz.prog nX61 [wx l e,.int .u8 x.toNat] (wx (wB (e == 0) l [x]) e):=by
  refine pfun_sound (ic:=FX61.body) mixed cX61 rfl rfl ?_
  simp only [go_sem,wx,FX61]
  refine call_frz [7] ?_ (p_Bytes l e (by omega) [x] (by simp)) (by simp [go_sem,wx]) ?_
  · simp only [go_sem,wx,Nat.le_refl,List.length_cons,List.length_nil]
  simp only [go_sem,wx]
  exact pdone [] (by simp only [go_sem,wx]) (by first | rfl | simp [go_sem,slv_ids,wx])
theorem p_U32 (n:Int):PCalls Tryz.prog nX71 [wx l e,.int .i64 n] (wx (wU (e == 0) l e n).1 (wU (e == 0) l e n).2):=by
  refine pfun_sound (ic:=FX71.body) mixed cX71 rfl rfl ?_
  have bad:n < 0 ∨ n > 4294967295 → wU (e == 0) l e n = (l,if e = 0 then 1 else e):=fun h=>by
    unfold wU
    by_cases h2:e = 0 <;> simp [h,h2]
  by_cases h1:n < 0
  · rw [bad (.inl h1)]
    simp only [go_sem,wx,FX71,decide_eq_true h1]
    refine call_same (p_Fail l e 1) (by simp [go_sem,wx]) ?_
    simp only [go_sem,wx]
    exact pdone [] (by simp only [go_sem,wx]) (by first | rfl | simp [go_sem,slv_ids,wx])
  · by_cases h2:n ≥ 4294967296
    · rw [bad (.inr (by omega))]
      simp only [go_sem,wx,FX71,decide_eq_false h1,decide_eq_true h2]
      refine call_same (p_Fail l e 1) (by simp [go_sem,wx]) ?_
      simp only [go_sem,wx]
      exact pdone [] (by simp only [go_sem,wx]) (by first | rfl | simp [go_sem,slv_ids,wx])
    · obtain ⟨k,rfl⟩:=Int.eq_ofNat_of_zero_le (show 0 ≤ n by omega)
      have h3:¬ ((k:Int) < 0 ∨ (k:Int) > 4294967295):=by omega
      have r:wU (e == 0) l e k = (wB (e == 0) l (putU k),e):=by
        unfold wU wB
        cases (e == 0) <;> simp only [if_true,if_neg h3,Bool.false_eq_true,if_false,Int.toNat_natCast]
      have w1:IntKind.u64.wrap (k:Int) = (k:Int):=by rw [w_u64]; omega
      have hp:=putU_32 (n:=k) (by omega)
      rw [r]
      simp only [go_sem,wx,FX71,decide_eq_false h1,decide_eq_false h2,w1]
      first | refine call_same (s_rPutU k (by omega)) (by simp [go_sem]) ?_ | refine dcall_same (s_rPutU k (by omega)) (by simp [go_sem]) rfl ?_
      simp only [go_sem,wx]
      refine call_same (p_Bytes l e (by omega) (putU k) (by omega)) (by simp [go_sem,wx]) ?_
      simp only [go_sem,wx]
      exact pdone [] (by simp only [go_sem,wx]) (by first | rfl | simp [go_sem,slv_ids,wx])
theorem p_Name (x:List UInt8) (hx:x.length < 1000000000):PCalls Tryz.prog nX60 [wx l e,.str x] (wx (wN (e == 0) l e x).1 (wN (e == 0) l e x).2):=by
  refine pfun_sound (ic:=FX60.body) mixed cX60 rfl rfl ?_
  simp only [go_sem,wx,FX60]
  refine call_same (s_uvS x (by omega)) (by simp [go_sem,wx]) ?_
  cases hv:uv x
  · have r:wN (e == 0) l e x = (l,if e = 0 then 9 else e):=by
      unfold wN; by_cases h2:e = 0 <;> simp [hv,h2]
    rw [r]
    simp only [go_sem,wx]
    refine call_same (p_Fail l e 9) (by simp [go_sem,wx]) ?_
    simp only [go_sem,wx]
    exact pdone [] (by simp only [go_sem,wx]) (by first | rfl | simp [go_sem,slv_ids,wx])
  · by_cases h64:x.length > 64
    · have d1:decide ((x.length:Int) > 64) = true:=decide_eq_true (by omega)
      have r:wN (e == 0) l e x = (l,if e = 0 then 6 else e):=by
        unfold wN; by_cases h2:e = 0 <;> simp [hv,h64,h2]
      rw [r]
      simp only [go_sem,wx,d1]
      refine call_same (p_Fail l e 6) (by simp [go_sem,wx]) ?_
      simp only [go_sem,wx]
      exact pdone [] (by simp only [go_sem,wx]) (by first | rfl | simp [go_sem,slv_ids,wx])
    · have d1:decide ((x.length:Int) > 64) = false:=decide_eq_false (by omega)
      have r1:wU (e == 0) l e x.length = (wB (e == 0) l (putU x.length),e):=by
        unfold wU wB
        have h1:¬ ((x.length:Int) < 0 ∨ (x.length:Int) > 4294967295):=by omega
        cases (e == 0) <;> simp only [if_true,if_neg h1,Bool.false_eq_true,if_false,Int.toNat_natCast]
      have r:wN (e == 0) l e x = (wB (e == 0) (wB (e == 0) l (putU x.length)) x,e):=by
        unfold wN wB; cases (e == 0) <;> simp [hv,h64]
      have hp:=putU_32 (n:=x.length) (by omega)
      have hl2:=wB_len (ok:=(e == 0)) (l:=l) (x:=putU x.length)
      have c1:=p_U32 l e hl x.length
      rw [r1] at c1
      rw [r]
      simp only [go_sem,wx,d1]
      refine call_same (c1) (by simp [go_sem,wx]) ?_
      simp only [go_sem,wx]
      refine ⟨by omega,?_⟩
      refine call_frz [20] ?_ (p_Bytes (wB (e == 0) l (putU x.length)) e (by omega) x (by omega)) (by simp [go_sem,wx]) ?_
      · simp only [go_sem,wx,Nat.le_refl,List.length_map]
        rw [List.take_of_length_le (by simp)]
        rfl
      simp only [go_sem,wx]
      exact pdone [] (by simp only [go_sem,wx]) (by first | rfl | simp [go_sem,slv_ids,wx])
theorem p_Part (x:List UInt8) (ex:Int) (hx:x.length < 1000000):PCalls Tryz.prog nX65 [wx l e,wx x ex] (wx (wP (e == 0) l e true x ex).1 (wP (e == 0) l e true x ex).2):=by
  refine pfun_sound (ic:=FX65.body) mixed cX65 rfl rfl ?_
  by_cases h:ex = 0
  · subst h
    have r1:wU (e == 0) l e x.length = (wB (e == 0) l (putU x.length),e):=by
      unfold wU wB
      have h1:¬ ((x.length:Int) < 0 ∨ (x.length:Int) > 4294967295):=by omega
      cases (e == 0) <;> simp only [if_true,if_neg h1,Bool.false_eq_true,if_false,Int.toNat_natCast]
    have r:wP (e == 0) l e true x 0 = (wB (e == 0) (wB (e == 0) l (putU x.length)) x,e):=by simp [wP]
    have hp:=putU_32 (n:=x.length) (by omega)
    have hl2:=wB_len (ok:=(e == 0)) (l:=l) (x:=putU x.length)
    have c1:=p_U32 l e hl x.length
    rw [r1] at c1
    rw [r]
    simp only [go_sem,wx,FX65,List.length_map]
    first | refine call_same c1 (by simp [go_sem,wx]) ?_ | refine dcall_same c1 (by simp [go_sem,wx]) rfl ?_
    simp only [go_sem,wx]
    refine call_same (p_Bytes (wB (e == 0) l (putU x.length)) e (by omega) x (by omega)) (by simp [go_sem,wx]) ?_
    simp only [go_sem,wx]
    exact pdone [] (by simp only [go_sem,wx]) (by first | rfl | simp [go_sem,slv_ids,wx])
  · have r:wP (e == 0) l e true x ex = (l,if e = 0 then ex else e):=by simp [wP,h]
    rw [r]
    simp only [go_sem,wx,FX65,bne_t h]
    refine call_same (p_Fail l e ex) (by simp [go_sem,wx]) ?_
    simp only [go_sem,wx]
    exact pdone [] (by simp only [go_sem,wx]) (by first | rfl | simp [go_sem,slv_ids,wx])
end
theorem p_Done (l:List UInt8) (e:Int):PCalls Tryz.prog nX96 [wx l e] (.tup [slv (wD true l e).1,.int .i64 (wD true l e).2]):=by
  refine pfun_sound (ic:=FX96.body) mixed cX96 rfl rfl ?_
  by_cases h:e = 0
  · subst h
    have r:wD true l 0 = (some l,0):=rfl
    rw [r]
    simp only [go_sem,wx,FX96]
    exact pdone [] (by simp only [go_sem,wx]) (by first | rfl | simp [go_sem,slv_ids,wx])
  · have r:wD true l e = (none,e):=by simp [wD,h]
    rw [r]
    simp only [go_sem,wx,FX96,bne_t h]
    exact pdone [] (by simp only [go_sem,wx]) (by first | rfl | simp [go_sem,slv_ids,wx])
end Go.Proofs.YtoikbadfbneahaaGreatDoor
