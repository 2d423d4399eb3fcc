import Derived.Test.YtdfofedlbljnhaaGreatDoorQp
set_option linter.all false
set_option maxRecDepth 100000
set_option maxHeartbeats 20000000
namespace Go.Proofs.YtdfofedlbljnhaaGreatDoor
open Go Go.Mw
theorem RO {d:List UInt8} (h:(dZ d 32).2.2=0):(aq (dZ d 32).1).length≤(dZ d 32).2.1:=by
 unfold dZ at h ⊢
 by_cases h1:jO d 32≠0
 ·rw [ap h1] at h;exact absurd h h1
 rw [ah h1] at h ⊢
 by_cases h2:(ac d (bZ d 32)).toNat / 2 ^ vi 32 (bZ d 32)≠0
 ·rw [ap h2] at h;exact absurd h (show ¬(4:Int)=0 by decide)
 rw [ah h2]
 refine kv (k:=bZ d 32) ?_
 have h3:=Ji (d.take (bZ d 32+1))
 rcases iu d 32 with ⟨g1,g2,g3,g4⟩ | ⟨g1,g2⟩
 ·rw [pm,Nat.min_eq_left (by omega)] at h3
  have h4:=Nat.mod_le (dL (d.take (bZ d 32+1))) 18446744073709551616
  omega
 ·rcases g1 with g1 | g1<;>rw [g1] at h1<;>exact absurd (by decide) h1
theorem RN {d:List UInt8} {bits:Nat} (hb:1≤bits∧bits≤64) (h:(eV d bits).2.2=0):(br (eV d bits).1).length≤(eV d bits).2.1∧-(2 ^ (bits - 1):Int)≤(eV d bits).1∧(eV d bits).1<2 ^ (bits - 1):=by
 unfold eV at h ⊢
 by_cases h1:jO d bits≠0
 ·rw [ap h1] at h;exact absurd h h1
 rw [ah h1] at h ⊢
 by_cases h2:(ac d (bZ d bits)).toNat / 2 ^ (vi bits (bZ d bits) - 1)≠0∧(ac d (bZ d bits)).toNat / 2 ^ (vi bits (bZ d bits) - 1)≠127 / 2 ^ (vi bits (bZ d bits) - 1)
 ·rw [ap h2] at h;exact absurd h (show ¬(4:Int)=0 by decide)
 rw [ah h2]
 rcases iu d bits with ⟨g1,g2,g3,g4⟩ | ⟨g1,g2⟩
 rotate_left
 ·rcases g1 with g1 | g1<;>rw [g1] at h1<;>exact absurd (by decide) h1
 have hc:=HM hb g3
 have hci:vi bits (bZ d bits) - 1+7 * bZ d bits≤bits - 1:=by
  unfold vi mst at *
  split<;>omega
 generalize vi bits (bZ d bits)=c at *
 generalize bZ d bits=i at *
 have v1:=Aw g2
 have v2:=kz (Nat.le_of_lt g2)
 have hpow:2 ^ (c - 1) * 2 ^ (7 * i)≤2 ^ (bits - 1):=by rw [← Nat.pow_add];exact Nat.pow_le_pow_right (by decide) hci
 have hmax:2 ^ (bits - 1)≤2 ^ 63:=Nat.pow_le_pow_right (by decide) (by omega)
 have e128:(2:Int) ^ (7 * (i+1))=128 * ((2 ^ (7 * i):Nat):Int):=by
  rw [show 7 * (i+1)=7 * i+7 by omega,Int.pow_add,Int.mul_comm,Int.natCast_pow];rfl
 have eI:(2:Int) ^ (bits - 1)=((2 ^ (bits - 1):Nat):Int):=by rw [Int.natCast_pow];rfl
 have ep:(128:Int) ^ i=((2 ^ (7 * i):Nat):Int):=E1 i
 have key:-((2 ^ (c - 1) * 2 ^ (7 * i):Nat):Int)≤(dL (d.take (i+1)):Int) - (if 64≤(ac d i).toNat % 128 then 2 ^ (7 * (i+1)) else 0)∧(dL (d.take (i+1)):Int) - (if 64≤(ac d i).toNat % 128 then 2 ^ (7 * (i+1)) else 0)<((2 ^ (c - 1) * 2 ^ (7 * i):Nat):Int):=by
  rw [v1,e128,Nat.mod_eq_of_lt g4]
  generalize (ac d i).toNat=t at *
  generalize 2 ^ (7 * i)=p at *
  generalize dL (d.take i)=lo at *
  have:c=1∨c=2∨c=3∨c=4∨c=5∨c=6∨c=7:=by omega
  by_cases ht:t<64
  ·rw [ah (by omega)]
   have ht2:t≤2 ^ (c - 1) - 1:=by rcases this with rfl | rfl | rfl | rfl | rfl | rfl | rfl<;>simp at h2 ⊢ <;> omega
   have hm:=m6 p ht2
   have hq:1≤2 ^ (c - 1):=Nat.one_le_two_pow
   generalize 2 ^ (c - 1)=q at *
   obtain ⟨q,rfl⟩:∃q',q=q'+1:=⟨q - 1,by omega⟩
   rw [Nat.add_sub_cancel] at hm
   rw [kJ,Nat.one_mul]
   omega
  ·rw [ap (by omega)]
   have ht2:128 - 2 ^ (c - 1)≤t:=by rcases this with rfl | rfl | rfl | rfl | rfl | rfl | rfl<;>simp at h2 ⊢ <;> omega
   have ht3:t≤127:=by omega
   have hm:=m6 p ht2
   have hm3:=m6 p ht3
   have hq:2 ^ (c - 1)≤128:=by rcases this with rfl | rfl | rfl | rfl | rfl | rfl | rfl<;>decide
   rw [Nat.sub_mul] at hm
   have hq2:=m6 p hq
   generalize 2 ^ (c - 1) * p=qp at *
   have hq1:0≤qp:=cX _
   refine ⟨by omega,by omega⟩
 have hq64:2 ^ (c - 1) * 2 ^ (7 * i)≤64 * 2 ^ (7 * i):=m6 _ (show 2 ^ (c - 1)≤2 ^ 6 from Nat.pow_le_pow_right (by decide) (by omega))
 have es:I9 d i=(dL (d.take (i+1)):Int) - (if 64≤(ac d i).toNat % 128 then 2 ^ (7 * (i+1)) else 0):=by
  unfold I9
  exact wi (by omega) (by omega)
 simp only
 rw [es,eI]
 refine ⟨ut (k:=i) ?_ ?_,by omega,by omega⟩
 ·rw [ep];omega
 ·rw [ep];omega
theorem df {b:List UInt8} {a n k:Nat} (h:gU b a = .ok (n,k)):a+(aq n).length≤k∧n<4294967296:=by
 have h1:=Dq (b.drop a) 32 (by decide)
 unfold gU at h
 split at h
 ·rename_i h2
  have:=RO h2
  cases h;exact ⟨by omega,h1⟩
 ·cases h
theorem LX {bits:Nat} {b:List UInt8} {a k:Nat} {n:Int} (hb:1≤bits∧bits≤64) (h:gS bits b a = .ok (n,k)):a+(br n).length≤k∧-(2 ^ (bits - 1):Int)≤n∧n<2 ^ (bits - 1):=by
 unfold gS at h
 split at h
 ·rename_i h2
  have:=RN hb h2
  cases h;exact ⟨by omega,this.2⟩
 ·cases h
theorem Sa {b:List UInt8} {a k n:Nat} {most:Int} (h:gC b a most = .ok (n,k)):a+(aq n).length≤k∧(n:Int)≤most:=by
 unfold gC at h
 split at h
 ·rename_i x k' h1
  have:=df h1
  split at h
  ·cases h
  ·cases h;omega
 ·cases h
theorem Uh {x:UInt8} (h:(ov x).2=true):FL (ov x).1=true:=by
 unfold ov at h ⊢
 repeat' split
 all_goals first | rfl | (simp_all;done)
theorem LY {b:List UInt8} {a k:Nat} {t:Int} (h:gV b a = .ok (t,k)):a+1≤k∧FL t=true:=by
 unfold gV at h
 split at h
 ·rename_i x k' h1
  have:=H1 h1
  split at h
  ·rename_i h2
   cases h;exact ⟨by omega,Uh h2⟩
  ·cases h
 ·cases h
theorem abR {b:List UInt8} {a k:Nat} {q:Int×Int×Int} (h:gK b a = .ok (q,k)):a+(zM q.1 q.2.1 q.2.2).length≤k∧LA q.1 q.2.1 q.2.2=true:=by
 unfold gK at h
 split at h
 ·rename_i n k' h1
  obtain ⟨u1,u2,u3⟩:=LX (by decide) h1
  have up:=E3 n
  split at h
  ·cases h;exact ⟨by simp only [zM,aF,cM];omega,rfl⟩
  split at h
  ·rename_i h0
   cases h
   refine ⟨u1,?_⟩
   simp at u2 u3
   simp only [LA,pq,Int.reduceEq,bc,aF,beq_self_eq_true,bU,cC,fo]
   omega
  split at h
  ·rename_i h3
   cases h
   refine ⟨by simp only [zM,Int.reduceEq,bc,aF,cM];omega,?_⟩
   have:=Uh h3.2
   simp only [LA,Int.reduceEq,bc,aF,this,beq_self_eq_true,bU]
  ·cases h
 ·cases h
theorem FK {n:Nat} (h:n<4294967296):pq (n:Int)=true:=by
 simp only [pq,cC,fo];omega
theorem Sh:∀(n:Nat) {b:List UInt8} {a k:Nat} {l:List Int},gL n b a = .ok (l,k)→a+(fj l).length≤k∧l.all pq=true∧l.length=n
 | 0,b,a,k,l,h=>by cases h;exact ⟨bt _,rfl,rfl⟩
 | n+1,b,a,k,l,h=>by
  unfold gL at h
  split at h
  ·rename_i x k1 h1
   have u:=df h1
   split at h
   ·rename_i l2 k2 h2
    have v:=Sh n h2
    cases h
    refine ⟨?_,?_,by simp;omega⟩
    ·rw [show fj ((x:Int) :: l2)=aq x++fj l2 from rfl,bE];omega
    ·simp only [List.all_cons,FK u.2,v.2.1,bU]
   ·cases h
  ·cases h
theorem abV {b:List UInt8} {a k:Nat} {op:Int} (h:gO b a = .ok (op,k)):a+(kW op).length≤k∧yM op=true:=by
 refine ⟨?_,(Sj h).2.2⟩
 unfold gO at h
 split at h
 ·rename_i x k' h1
  have q1:=H1 h1
  split at h
  ·split at h
   ·rename_i n k2 h2
    have q2:=df h2
    split at h
    ·cases h
     unfold kW
     rw [ap (by omega),eA,show (64512+(n:Int) - 64512).toNat=n by omega]
     omega
    ·cases h
   ·cases h
  ·split at h
   ·cases h
    have:=x.toNat_lt
    unfold kW
    rw [ah (by omega),cM]
    omega
   ·cases h
 ·cases h
theorem aho (n:Int):0≤IntKind.u64.wrap n∧IntKind.u64.wrap n<18446744073709551616:=by rw [rf];omega
theorem UV {m:Int} (h:-2147483648≤m∧m<2147483648):K5 (IntKind.u64.wrap (IntKind.u32.wrap m))=m∧IntKind.u64.wrap (IntKind.u32.wrap m)<4294967296:=by
 have e:IntKind.u64.wrap (IntKind.u32.wrap m)=m % 4294967296:=by
  rw [rf,aaN];omega
 rw [e]
 unfold K5
 rw [wV,VA,aaN]
 omega
theorem UW {m:Int} (h:-9223372036854775808≤m∧m<9223372036854775808):IntKind.i64.wrap (IntKind.u64.wrap m)=m:=by
 rw [wV,rf];omega
def MC (i:Int) (x:aZ) (a k:Nat):Prop:=th i true x=true∧x.lb.length≤64∧(0≤x.n∧x.n<18446744073709551616)∧a+(jm i x).length≤k
theorem FX:z0.lb.length≤64:=by decide
theorem Jo:0≤z0.n∧z0.n<18446744073709551616:=by decide
theorem abT {i:Int} (hi:0≤i∧i≤20) {b:List UInt8} {a k:Nat} {x:aZ} (h:gM i b a = .ok (x,k)):MC i x a k:=by
 unfold MC
 rcases (show i=0∨i=1∨i=2∨i=3∨i=4∨i=5∨i=6∨i=7∨i=8∨i=9∨i=10∨i=11∨i=12∨i=13∨i=14∨i=15∨i=16∨i=17∨i=18∨i=19∨i=20 by omega) with rfl | rfl | rfl | rfl | rfl | rfl | rfl | rfl | rfl | rfl | rfl | rfl | rfl | rfl | rfl | rfl | rfl | rfl | rfl | rfl | rfl
 all_goals
  simp only [gM,Int.reduceEq,false_or,or_false,or_true,true_or,or_self,aF,bc] at h
 ·cases h
  exact ⟨rfl,FX,Jo,bt _⟩
 ·split at h
  ·rename_i q0 q1 q2 k1 h1
   obtain ⟨u1,u2⟩:=abR h1
   cases h
   refine ⟨?_,FX,Jo,?_⟩
   ·simp only [th,k_,z0,Int.reduceEq,Int.reduceBEq,false_or,or_false,or_true,true_or,or_self,aF,bc,eC,eE,bU,Bool.and_true,beq_self_eq_true,b_,Int.natCast_zero,gt_iff_lt,Int.lt_irrefl,decide_false,cD,u2]
   ·exact u1
  ·cases h
 ·split at h
  ·rename_i m k1 h1
   cases h
   obtain ⟨u1,u2⟩:=df h1
   refine ⟨?_,FX,Jo,?_⟩
   ·simp only [th,k_,z0,Int.reduceEq,Int.reduceBEq,false_or,or_false,or_true,true_or,or_self,aF,bc,eC,eE,bU,Bool.and_true,beq_self_eq_true,b_,Int.natCast_zero,gt_iff_lt,Int.lt_irrefl,decide_false,cD,FK u2]
   ·simp only [jm,Int.reduceEq,false_or,or_false,or_true,true_or,or_self,aF,bc,ce,bE,cM,b_]
    omega
  ·cases h
 ·split at h
  ·rename_i n k1 h1
   obtain ⟨u1,u2⟩:=Sa h1
   split at h
   ·rename_i l k2 h2
    obtain ⟨p1,p2,p3⟩:=Sh _ h2
    split at h
    ·rename_i m k3 h3
     obtain ⟨v1,v2⟩:=df h3
     cases h
     refine ⟨?_,?_,Jo,?_⟩
     ·simp only [th,k_,z0,Int.reduceEq,Int.reduceBEq,false_or,or_false,or_true,true_or,or_self,aF,bc,eC,eE,bU,Bool.and_true,beq_self_eq_true,b_,Int.natCast_zero,gt_iff_lt,Int.lt_irrefl,decide_false,cD,FK v2,p2]
     ·show l.length≤64
      omega
     ·simp only [jm,Int.reduceEq,false_or,or_false,or_true,true_or,or_self,aF,bc,ce,bE,cM,b_]
      rw [p3]
      omega
    ·cases h
   ·cases h
  ·cases h
 ·split at h
  ·rename_i m k1 h1
   cases h
   obtain ⟨u1,u2⟩:=df h1
   refine ⟨?_,FX,Jo,?_⟩
   ·simp only [th,k_,z0,Int.reduceEq,Int.reduceBEq,false_or,or_false,or_true,true_or,or_self,aF,bc,eC,eE,bU,Bool.and_true,beq_self_eq_true,b_,Int.natCast_zero,gt_iff_lt,Int.lt_irrefl,decide_false,cD,FK u2]
   ·simp only [jm,Int.reduceEq,false_or,or_false,or_true,true_or,or_self,aF,bc,ce,bE,cM,b_]
    omega
  ·cases h
 ·split at h
  ·rename_i m k1 h1
   obtain ⟨u1,u2⟩:=df h1
   split at h
   ·rename_i m2 k2 h2
    obtain ⟨p1,p2⟩:=df h2
    cases h
    refine ⟨?_,FX,Jo,?_⟩
    ·simp only [th,k_,z0,Int.reduceEq,Int.reduceBEq,false_or,or_false,or_true,true_or,or_self,aF,bc,eC,eE,bU,Bool.and_true,beq_self_eq_true,b_,Int.natCast_zero,gt_iff_lt,Int.lt_irrefl,decide_false,cD,FK u2,FK p2]
    ·simp only [jm,Int.reduceEq,false_or,or_false,or_true,true_or,or_self,aF,bc,ce,bE,cM,b_]
     omega
   ·cases h
  ·cases h
 ·split at h
  ·rename_i m k1 h1
   obtain ⟨u1,u2⟩:=df h1
   split at h
   ·rename_i h0
    subst h0
    split at h
    ·rename_i t k2 h2
     obtain ⟨p1,p2⟩:=LY h2
     cases h
     refine ⟨?_,FX,Jo,?_⟩
     ·simp only [th,k_,z0,Int.reduceEq,Int.reduceBEq,false_or,or_false,or_true,true_or,or_self,aF,bc,eC,eE,bU,Bool.and_true,beq_self_eq_true,b_,Int.natCast_zero,gt_iff_lt,Int.lt_irrefl,decide_false,cD,p2,cM]
      exact p2
     ·simp only [jm,Int.reduceEq,false_or,or_false,or_true,true_or,or_self,aF,bc,ce,bE,cM,b_]
      omega
    ·cases h
   ·cases h
  ·cases h
 ·split at h
  ·rename_i m k1 h1
   cases h
   obtain ⟨u1,u2⟩:=df h1
   refine ⟨?_,FX,Jo,?_⟩
   ·simp only [th,k_,z0,Int.reduceEq,Int.reduceBEq,false_or,or_false,or_true,true_or,or_self,aF,bc,eC,eE,bU,Bool.and_true,beq_self_eq_true,b_,Int.natCast_zero,gt_iff_lt,Int.lt_irrefl,decide_false,cD,FK u2]
   ·simp only [jm,Int.reduceEq,false_or,or_false,or_true,true_or,or_self,aF,bc,ce,bE,cM,b_]
    omega
  ·cases h
 ·split at h
  ·rename_i m k1 h1
   cases h
   obtain ⟨u1,u2⟩:=df h1
   refine ⟨?_,FX,Jo,?_⟩
   ·simp only [th,k_,z0,Int.reduceEq,Int.reduceBEq,false_or,or_false,or_true,true_or,or_self,aF,bc,eC,eE,bU,Bool.and_true,beq_self_eq_true,b_,Int.natCast_zero,gt_iff_lt,Int.lt_irrefl,decide_false,cD,FK u2]
   ·simp only [jm,Int.reduceEq,false_or,or_false,or_true,true_or,or_self,aF,bc,ce,bE,cM,b_]
    omega
  ·cases h
 ·split at h
  ·rename_i m k1 h1
   cases h
   obtain ⟨u1,u2⟩:=df h1
   refine ⟨?_,FX,Jo,?_⟩
   ·simp only [th,k_,z0,Int.reduceEq,Int.reduceBEq,false_or,or_false,or_true,true_or,or_self,aF,bc,eC,eE,bU,Bool.and_true,beq_self_eq_true,b_,Int.natCast_zero,gt_iff_lt,Int.lt_irrefl,decide_false,cD,FK u2]
   ·simp only [jm,Int.reduceEq,false_or,or_false,or_true,true_or,or_self,aF,bc,ce,bE,cM,b_]
    omega
  ·cases h
 ·split at h
  ·rename_i m k1 h1
   obtain ⟨u1,u2⟩:=df h1
   split at h
   ·rename_i m2 k2 h2
    obtain ⟨p1,p2⟩:=df h2
    cases h
    refine ⟨?_,FX,Jo,?_⟩
    ·simp only [th,k_,z0,Int.reduceEq,Int.reduceBEq,false_or,or_false,or_true,true_or,or_self,aF,bc,eC,eE,bU,Bool.and_true,beq_self_eq_true,b_,Int.natCast_zero,gt_iff_lt,Int.lt_irrefl,decide_false,cD,FK u2,FK p2]
    ·simp only [jm,Int.reduceEq,false_or,or_false,or_true,true_or,or_self,aF,bc,ce,bE,cM,b_]
     omega
   ·cases h
  ·cases h
 ·split at h
  ·rename_i m k1 h1
   obtain ⟨u1,u2⟩:=df h1
   split at h
   ·rename_i m2 k2 h2
    obtain ⟨p1,p2⟩:=df h2
    cases h
    refine ⟨?_,FX,Jo,?_⟩
    ·simp only [th,k_,z0,Int.reduceEq,Int.reduceBEq,false_or,or_false,or_true,true_or,or_self,aF,bc,eC,eE,bU,Bool.and_true,beq_self_eq_true,b_,Int.natCast_zero,gt_iff_lt,Int.lt_irrefl,decide_false,cD,FK u2,FK p2]
    ·simp only [jm,Int.reduceEq,false_or,or_false,or_true,true_or,or_self,aF,bc,ce,bE,cM,b_]
     omega
   ·cases h
  ·cases h
 ·split at h
  ·rename_i m k1 h1
   cases h
   obtain ⟨u1,u2⟩:=df h1
   refine ⟨?_,FX,Jo,?_⟩
   ·simp only [th,k_,z0,Int.reduceEq,Int.reduceBEq,false_or,or_false,or_true,true_or,or_self,aF,bc,eC,eE,bU,Bool.and_true,beq_self_eq_true,b_,Int.natCast_zero,gt_iff_lt,Int.lt_irrefl,decide_false,cD,FK u2]
   ·simp only [jm,Int.reduceEq,false_or,or_false,or_true,true_or,or_self,aF,bc,ce,bE,cM,b_]
    omega
  ·cases h
 ·split at h
  ·rename_i m k1 h1
   cases h
   obtain ⟨u1,u2⟩:=df h1
   refine ⟨?_,FX,Jo,?_⟩
   ·simp only [th,k_,z0,Int.reduceEq,Int.reduceBEq,false_or,or_false,or_true,true_or,or_self,aF,bc,eC,eE,bU,Bool.and_true,beq_self_eq_true,b_,Int.natCast_zero,gt_iff_lt,Int.lt_irrefl,decide_false,cD,FK u2]
   ·simp only [jm,Int.reduceEq,false_or,or_false,or_true,true_or,or_self,aF,bc,ce,bE,cM,b_]
    omega
  ·cases h
 ·split at h
  ·rename_i m k1 h1
   obtain ⟨u1,u2⟩:=df h1
   split at h
   ·rename_i m2 k2 h2
    obtain ⟨p1,p2⟩:=df h2
    cases h
    refine ⟨?_,FX,Jo,?_⟩
    ·simp only [th,k_,z0,Int.reduceEq,Int.reduceBEq,false_or,or_false,or_true,true_or,or_self,aF,bc,eC,eE,bU,Bool.and_true,beq_self_eq_true,b_,Int.natCast_zero,gt_iff_lt,Int.lt_irrefl,decide_false,cD,FK u2,FK p2]
    ·simp only [jm,Int.reduceEq,false_or,or_false,or_true,true_or,or_self,aF,bc,ce,bE,cM,b_]
     omega
   ·cases h
  ·cases h
 ·split at h
  ·rename_i m k1 h1
   obtain ⟨u1,u2⟩:=df h1
   split at h
   ·rename_i m2 k2 h2
    obtain ⟨p1,p2⟩:=df h2
    cases h
    refine ⟨?_,FX,Jo,?_⟩
    ·simp only [th,k_,z0,Int.reduceEq,Int.reduceBEq,false_or,or_false,or_true,true_or,or_self,aF,bc,eC,eE,bU,Bool.and_true,beq_self_eq_true,b_,Int.natCast_zero,gt_iff_lt,Int.lt_irrefl,decide_false,cD,FK u2,FK p2]
    ·simp only [jm,Int.reduceEq,false_or,or_false,or_true,true_or,or_self,aF,bc,ce,bE,cM,b_]
     omega
   ·cases h
  ·cases h
 ·split at h
  ·rename_i m k1 h1
   cases h
   obtain ⟨u1,u2⟩:=df h1
   refine ⟨?_,FX,Jo,?_⟩
   ·simp only [th,k_,z0,Int.reduceEq,Int.reduceBEq,false_or,or_false,or_true,true_or,or_self,aF,bc,eC,eE,bU,Bool.and_true,beq_self_eq_true,b_,Int.natCast_zero,gt_iff_lt,Int.lt_irrefl,decide_false,cD,FK u2]
   ·simp only [jm,Int.reduceEq,false_or,or_false,or_true,true_or,or_self,aF,bc,ce,bE,cM,b_]
    omega
  ·cases h
 ·split at h
  ·rename_i q0 q1 q2 k1 h1
   cases h
   unfold gA at h1
   split at h1
   ·rename_i n k1 g1
    obtain ⟨u1,u2⟩:=df g1
    split at h1
    ·cases h1
    split at h1
    ·split at h1
     ·rename_i y k2 g2
      obtain ⟨p1,p2⟩:=df g2
      split at h1
      ·rename_i z k3 g3
       obtain ⟨v1,v2⟩:=df g3
       cases h1
       refine ⟨?_,FX,⟨by simp only;omega,by simp only;omega⟩,?_⟩
       ·simp only [th,k_,z0,Int.reduceEq,Int.reduceBEq,false_or,or_false,or_true,true_or,or_self,aF,bc,eC,eE,bU,Bool.and_true,beq_self_eq_true,b_,Int.natCast_zero,gt_iff_lt,Int.lt_irrefl,decide_false,cD,FK p2]
        simp only [cC,fo]
        omega
       ·simp only [jm,Int.reduceEq,false_or,or_false,or_true,true_or,or_self,aF,bc]
        by_cases hy:(y:Int)=0
        ·rw [ap hy,bE,ce]
         have w1:(aq ((n:Int) - 64).toNat).length≤1:=kv (k:=0) (by omega)
         have w2:=kw n
         omega
        ·rw [ah hy,show ((n:Int) - 64+64).toNat=n by omega]
         simp only [bE,ce]
         omega
      ·cases h1
     ·cases h1
    ·split at h1
     ·rename_i z k3 g3
      obtain ⟨v1,v2⟩:=df g3
      cases h1
      refine ⟨?_,FX,⟨by simp only;omega,by simp only;omega⟩,?_⟩
      ·simp only [th,k_,z0,Int.reduceEq,Int.reduceBEq,false_or,or_false,or_true,true_or,or_self,aF,bc,eC,eE,bU,Bool.and_true,beq_self_eq_true,b_,Int.natCast_zero,gt_iff_lt,Int.lt_irrefl,decide_false,cD,FK u2,show pq 0=true from rfl]
       simp only [cC,fo]
       omega
      ·simp only [jm,Int.reduceEq,false_or,or_false,or_true,true_or,or_self,aF,bc,ce,bE,cM,b_]
       omega
     ·cases h1
   ·cases h1
  ·cases h
 ·split at h
  ·rename_i m k1 h1
   cases h
   obtain ⟨u1,u2⟩:=LX (by decide) h1
   have hs:=UV (m:=m) (by simp at u2;omega)
   refine ⟨?_,FX,aho _,?_⟩
   ·simp only [th,k_,z0,Int.reduceEq,Int.reduceBEq,false_or,or_false,or_true,true_or,or_self,aF,bc,eC,eE,bU,Bool.and_true,beq_self_eq_true,b_,Int.natCast_zero,gt_iff_lt,Int.lt_irrefl,decide_false,cD,hs.2,decide_true]
   ·simp only [jm,Int.reduceEq,false_or,or_false,or_true,true_or,or_self,aF,bc,hs.1]
    exact u1
  ·cases h
 ·split at h
  ·rename_i m k1 h1
   cases h
   obtain ⟨u1,u2⟩:=LX (by decide) h1
   have hs:=UW (m:=m) (by simp at u2;omega)
   refine ⟨?_,FX,aho _,?_⟩
   ·rfl
   ·simp only [jm,Int.reduceEq,false_or,or_false,or_true,true_or,or_self,aF,bc,hs]
    exact u1
  ·cases h
 ·split at h
  ·rename_i t k1 h1
   obtain ⟨u1,u2⟩:=LY h1
   split at h
   ·rename_i h2
    cases h
    refine ⟨?_,FX,Jo,?_⟩
    ·rcases h2 with rfl | rfl<;>rfl
    ·exact u1
   ·cases h
  ·cases h
theorem abO {b:List UInt8} {a k:Nat} {x:aZ} (h:gI b a = .ok (x,k)):PL x=true∧x.lb.length≤64∧(0≤x.n∧x.n<18446744073709551616)∧a+(xh x).length≤k:=by
 unfold gI at h
 split at h
 ·rename_i op k1 h1
  obtain ⟨u1,u2⟩:=abV h1
  split at h
  ·rename_i y k2 h2
   obtain ⟨p1,p2,p3,p4⟩:=abT (nR op) h2
   cases h
   refine ⟨?_,p2,p3,?_⟩
   ·show th (sZ op) (yM op) _=true
    rw [u2]
    exact p1
   ·show a+(kW op++jm (sZ op) y).length≤_
    rw [bE]
    omega
  ·cases h
 ·cases h
theorem Ux {n:Int} (h:-4294967296≤n∧n≤4294967295):(br n).length≤5:=ut (k:=4) (by omega) (by omega)
theorem G0 {n:Int} (h:pq n=true):(aq n.toNat).length≤5:=by
 obtain ⟨k,rfl,hk⟩:=cE h
 rw [ce];exact cG hk
theorem RU {k v x:Int} (h:LA k v x=true):(zM k v x).length≤5:=by
 unfold LA at h
 unfold zM
 split
 ·simp
 rename_i h0
 rw [ah h0] at h
 split
 ·simp
 rename_i h1
 rw [ah h1] at h
 split at h
 ·simp only [cC,pq,fo] at h
  exact Ux (by omega)
 ·cases h
theorem RW {i:Int} (hi:0≤i∧i≤20) {x:aZ} (h:th i true x=true) (hb:¬(i=3∧4294967296≤x.lb.length)):(jm i x).length≤5 * x.lb.length+20:=by
 obtain ⟨op,a0,b0,n,k,v,z,ty,lb⟩:=x
 unfold th k_ at h
 simp only [bU] at h hb ⊢
 rcases (show i=0∨i=1∨i=2∨i=3∨i=4∨i=5∨i=6∨i=7∨i=8∨i=9∨i=10∨i=11∨i=12∨i=13∨i=14∨i=15∨i=16∨i=17∨i=18∨i=19∨i=20 by omega) with rfl | rfl | rfl | rfl | rfl | rfl | rfl | rfl | rfl | rfl | rfl | rfl | rfl | rfl | rfl | rfl | rfl | rfl | rfl | rfl | rfl
 all_goals
  simp only [Int.reduceEq,Int.reduceBEq,false_or,or_false,or_true,true_or,or_self,aF,bc,eC,eE,bU,cC,beq_iff_eq,rg,decide_eq_false_iff_not,fo,qr] at h
  simp only [jm,Int.reduceEq,false_or,or_false,or_true,true_or,or_self,aF,bc,bE,cM,b_]
 ·omega
 ·have:=RU h.2.2.2.2.2;omega
 ·have:=G0 h.2.2.2.1;omega
 ·have h1:=G0 h.2.2.1
  have h2:=ya h.2.2.2.2.2
  have h3:=cG (n:=lb.length) (Nat.lt_of_not_le fun q=>hb ⟨rfl,q⟩)
  omega
 ·have:=G0 h.2.2.2.1;omega
 ·have h1:=G0 h.2.2.2.1
  have h2:=G0 h.2.2.2.2.1
  omega
 ·have:=cG (n:=1) (by decide);omega
 ·have:=G0 h.2.2.2.1;omega
 ·have:=G0 h.2.2.2.1;omega
 ·have:=G0 h.2.2.2.1;omega
 ·have h1:=G0 h.2.2.2.1
  have h2:=G0 h.2.2.2.2.1
  omega
 ·have h1:=G0 h.2.2.2.1
  have h2:=G0 h.2.2.2.2.1
  omega
 ·have:=G0 h.2.2.2.1;omega
 ·have:=G0 h.2.2.2.2.1;omega
 ·have h1:=G0 h.2.2.2.1
  have h2:=G0 h.2.2.2.2.1
  omega
 ·have h1:=G0 h.2.2.2.1
  have h2:=G0 h.2.2.2.2.1
  omega
 ·have:=G0 h.2.2.2.1;omega
 ·obtain ⟨_,_,_,h1,h2,h3,h4⟩:=h
  have g1:=G0 h3
  have g2:=cG (n:=n.toNat) (by omega)
  have g3:=cG (n:=a0.toNat) (by omega)
  have g4:=cG (n:=(a0+64).toNat) (by omega)
  split
  ·omega
  ·rw [bE];omega
 ·have h1:=ME n
  have:=Ux (n:=K5 n) (by omega);omega
 ·have:=DB (i64_in n);omega
 ·omega
theorem RV {x:aZ} (h:PL x=true) (hb:¬(sZ x.op=3∧4294967296≤x.lb.length)):(xh x).length≤5 * x.lb.length+30:=by
 have hk:=aat h
 have h1:=JP x.op hk
 have hp:th (sZ x.op) true x=true:=by
  have h':th (sZ x.op) (yM x.op) x=true:=h
  rwa [hk] at h'
 have h2:=RW (nR x.op) hp hb
 show (kW x.op++jm (sZ x.op) x).length≤_
 rw [bE]
 omega
structure dU where
 id:Int
 name:List UInt8
 bs:Option (List UInt8)
instance:Inhabited dU:=⟨⟨0,[],none⟩⟩
deriving instance DecidableEq for dU
def gb (o:Option (List UInt8)):List UInt8:=o.getD []
theorem cm (l:List UInt8):gb (some l)=l:=rfl
def uG (s:dU):List AV:=[.int .i64 s.id,.str s.name,MQ s.bs]
theorem ahf (s:dU):uG s=[.int .i64 s.id,.str s.name,MQ s.bs]:=rfl
theorem acs (i:Nat) (o:Option (List UInt8)):mC i (MQ o)=false:=by cases o<;>rfl
theorem Uw (i:Nat) (o:Option (List UInt8)):jb i (MQ o)=MQ o:=by cases o<;>rfl
theorem SN (o:Option (List UInt8)):qh (MQ o)=true:=by cases o<;>rfl
section
variable {β:Type} (o:Option (List UInt8))
end
attribute [go_sem ↓] bX acs Uw SN
attribute [go_sem] ahf fP
def fk (id:Int):Int:=if id<1∨id>12 then 0 else if id=10 then 11 else if id=11 then 12 else if id=12 then 10 else id
def HE (p:Int):Int:=if p<1∨p>12 then 0 else if p=10 then 12 else if p=11 then 10 else if p=12 then 11 else p
theorem Od {id:Int} (h:id<1∨id>12):fk id=0:=by unfold fk;rw [ap h]
theorem ZN {p:Int} (h:p<1∨p>12):HE p=0:=by unfold HE;rw [ap h]
theorem IU (id:Int):0≤fk id∧fk id≤12:=by unfold fk;repeat' split<;>omega
theorem Wy {id:Int} (h:1≤id∧id≤12):HE (fk id)=id∧1≤fk id:=by
 have h1:¬(id<1∨id>12):=by omega
 unfold fk
 rw [ah h1]
 unfold HE
 repeat' split
 all_goals omega
theorem IT {p:Int} (h:1≤p∧p≤12):fk (HE p)=p∧1≤HE p:=by
 have h1:¬(p<1∨p>12):=by omega
 unfold HE
 rw [ah h1]
 unfold fk
 repeat' split
 all_goals omega
theorem MZ {id:Int} (h:1≤id∧id≤12):id=1∨id=2∨id=3∨id=4∨id=5∨id=6∨id=7∨id=8∨id=9∨id=10∨id=11∨id=12:=by omega
def FJ:List UInt8:=[0,97,115,109,1,0,0,0]
def g_ (id:Int) (body:List UInt8):Int×dU :=
 if id=0 then (if (cO true body 0 0).2.2≠0 then ((cO true body 0 0).2.2,default) else (0,⟨0,(cO true body 0 0).1,some (body.drop (cO true body 0 0).2.1)⟩))
 else (0,⟨id,[],some body⟩)
def lc (d:List UInt8):Option (List UInt8)×Nat×Int:=bh ((rU true 32 d 1 0).2.2==0) d (rU true 32 d 1 0).2.1 (rU true 32 d 1 0).2.2 (rU true 32 d 1 0).1
def cP (d:List UInt8) (last:Int):Int×dU×List UInt8 :=
 if (ac d 0).toNat>12 then (4,default,[]) else if (lc d).2.2≠0 then ((lc d).2.2,default,[]) else
 if (ac d 0).toNat≠0∧fk (ac d 0).toNat≤last then (7,default,[]) else
 if (g_ (ac d 0).toNat (gb (lc d).1)).1≠0 then ((g_ (ac d 0).toNat (gb (lc d).1)).1,default,[]) else
 (0,(g_ (ac d 0).toNat (gb (lc d).1)).2,d.drop (lc d).2.1)
def qZ:Nat→List UInt8→Int→List dU→Int×List dU
 | 0,_,_,acc=>(0,acc)
 | f+1,d,last,acc=>if d.length=0 then (0,acc) else
  if (cP d last).1≠0 then ((cP d last).1,[]) else qZ f (cP d last).2.2 (max last (fk (cP d last).2.1.id)) (acc++[(cP d last).2.1])
def BV (d:List UInt8) (last:Int) (acc:List dU):Int×List dU:=qZ d.length d last acc
def qu (b:List UInt8):Int×List dU :=
 if b.length>262144 then (6,[]) else if b.length<8∨b.take 8≠FJ then (4,[]) else BV (b.drop 8) 0 []
def rn (s:dU):List UInt8:=if s.id=0 then aq s.name.length++s.name++gb s.bs else gb s.bs
def ir (s:dU):List UInt8:=UInt8.ofNat s.id.toNat :: (aq (rn s).length++rn s)
def FW (s:dU) (last:Int):Int :=
 if s.id<0∨s.id>12∨(s.id≠0∧s.name≠[]) then 4 else if s.id≠0∧fk s.id≤last then 7 else
 if s.id=0 then (if uv s.name=false then 9 else if s.name.length>64 then 6 else 0) else 0
def G1:List dU→Int→List UInt8→Int×List UInt8
 | [],_,w=>(0,w)
 | s :: r,last,w=>if FW s last≠0 then (FW s last,[]) else G1 r (max last (fk s.id)) (w++ir s)
def NM (l:List dU):Int×List UInt8:=G1 l 0 FJ
theorem Zw {α:Type} [Inhabited α] {l:List α} {i:Nat} (h:i<l.length):l.take (i+1)=l.take i++[ac l i]:=by rw [List.take_add_one,oY h,Option.toList_some]
theorem Nk {α:Type} [Inhabited α] {l:List α} {i:Nat} (h:i<l.length):l.drop i=ac l i :: l.drop (i+1):=by
 rw [List.drop_eq_getElem_cons h,← bp h]
def tot:List dU→Nat
 | []=>0
 | s :: r=>(gb s.bs).length+s.name.length+tot r
theorem adG (s:List UInt8) (n:Int):ao pg nX0 [.str s,.int .u8 n] (.int .i64 (MP s n.toNat.toUInt8)):=by
 refine aL FX0 ?_
 simp only [go_sem,FX0]
 exact aj
theorem ag1 (s:List UInt8) (n:Int):ao pg v6 [.str s,.int .u8 n] (.int .i64 (MP s n.toNat.toUInt8)):=by
 refine aL nv ?_
 simp only [go_sem,nv]
 refine aa (adG s n) ?_
 exact aj
theorem iB (id:Int):ao pg Cf [.int .i64 id] (.int .i64 (fk id)):=by
 refine aL jh ?_
 by_cases h1:id<1
 ·rw [Od (.inl h1)]
  simp only [go_sem,jh,aO h1]
  exact aj
 by_cases h2:id>12
 ·rw [Od (.inr h2)]
  simp only [go_sem,jh,aQ h1,aO h2]
  exact aj
 have w1:IntKind.u8.wrap id=id:=by rw [Fv];omega
 have w2:IntKind.i64.wrap (MP [1,2,3,4,5,6,7,8,9,12,10,11] id.toNat.toUInt8+1)=fk id:=by
  rcases MZ (id:=id) (by omega) with rfl | rfl | rfl | rfl | rfl | rfl | rfl | rfl | rfl | rfl | rfl | rfl<;>decide +kernel
 simp only [go_sem,jh,aQ h1,aQ h2,w1]
 refine ax (ag1 [1,2,3,4,5,6,7,8,9,12,10,11] id) ?_
 simp only [go_sem,w2]
 exact aj
theorem agX (p:Int):ao pg Iz [.int .i64 p] (.int .i64 (HE p)):=by
 refine aL nN ?_
 by_cases h1:p<1
 ·rw [ZN (.inl h1)]
  simp only [go_sem,nN,aO h1]
  exact aj
 by_cases h2:p>12
 ·rw [ZN (.inr h2)]
  simp only [go_sem,nN,aQ h1,aO h2]
  exact aj
 have h3:1≤p∧p≤12:=by omega
 have w1:IntKind.i64.wrap (p - 1)=p - 1:=wi (by omega) (by omega)
 have w2:IntKind.i64.wrap ((ac ([1,2,3,4,5,6,7,8,9,12,10,11]:List UInt8) (p - 1).toNat).toNat:Int)=HE p:=by
  clear h1 h2 w1
  rcases MZ h3 with rfl | rfl | rfl | rfl | rfl | rfl | rfl | rfl | rfl | rfl | rfl | rfl<;>decide +kernel
 simp only [go_sem,nN,aQ h1,aQ h2,w1,w2]
 exact ⟨by omega,by simp;omega,by exact aj⟩
theorem I6 (id last:Int):ao pg Ch [.int .i64 id,.int .i64 last] (.tup [.int .i64 (if id=0 then last else fk id),.bool (decide (id=0∨fk id>last))]):=by
 refine aL mJ ?_
 by_cases h:id=0
 ·subst h
  simp only [go_sem,mJ,true_or,decide_true]
  exact aj
 ·simp only [go_sem,mJ,ay h,ah h,false_or]
  refine aa (iB id) ?_
  exact aJ [] (by simp only [go_sem,h,false_or]) (by first | rfl | simp [go_sem,bX])
theorem DF (l m:List dU):tot (l++m)=tot l+tot m:=by
 induction l with
 | nil=>simp [tot]
 | cons s l ih=>simp only [jR,tot,ih];omega
theorem Vt {l:List dU} {i:Nat} (h:i<l.length):tot (l.take (i+1))=tot (l.take i)+(gb (ac l i).bs).length+(ac l i).name.length:=by
 rw [Zw h,DF]
 simp [tot]
 omega
theorem Vs (l:List dU) (i:Nat):tot (l.take i)≤tot l:=by
 have:=DF (l.take i) (l.drop i)
 rw [List.take_append_drop] at this
 omega
theorem Hj {b:List UInt8} {a:Nat} {n:Int} {ok:Bool} {e:Int} (h0:ok=true→e=0) (h:(bh ok b a e n).2.2=0) (ho:ok=false→e≠0) (ha:a≤b.length) :
  0≤n∧((n.toNat:Nat):Int)=n∧a+n.toNat≤b.length∧bh ok b a e n=(some ((b.drop a).take n.toNat),a+n.toNat,0):=by
 cases ok with
 | false=>exact absurd (by simpa [bh] using h) (ho rfl)
 | true =>
  obtain rfl:=h0 rfl
  unfold bh at h ⊢
  simp only [aF] at h ⊢
  by_cases h1:n<0
  ·rw [ap h1] at h;exact absurd h (show ¬((1:Int)=0) by decide)
  rw [ah h1] at h ⊢
  by_cases h2:n>(b.length:Int) - a
  ·rw [ap h2] at h;exact absurd h (show ¬((3:Int)=0) by decide)
  rw [ah h2]
  exact ⟨by omega,by omega,by omega,rfl⟩
theorem agN {bits:Nat} {b:List UInt8} {a:Nat} {e:Int} {ok:Bool}:a≤(rU ok bits b a e).2.1:=by
 unfold rU
 repeat' split
 all_goals first | exact bt _ | exact Nat.le_add_right _ _
theorem UH {bits:Nat} {b:List UInt8} {a:Nat}:rU true bits b (a+1) 0=((rU true bits (b.drop a) 1 0).1,a+(rU true bits (b.drop a) 1 0).2.1,(rU true bits (b.drop a) 1 0).2.2):=by
 unfold rU
 rw [List.drop_drop]
 simp only [aF]
 split
 ·rfl
 ·simp only [kI]
theorem KW {ok:Bool} {b:List UInt8} {a x:Nat} {e n:Int} (ha:a≤b.length):bh ok b (a+x) e n=((bh ok (b.drop a) x e n).1,a+(bh ok (b.drop a) x e n).2.1,(bh ok (b.drop a) x e n).2.2):=by
 unfold bh
 cases ok with
 | false=>rfl
 | true =>
  simp only [aF,iE,List.drop_drop]
  split
  ·rfl
  have e1:((b.length - a:Nat):Int) - (x:Int)=(b.length:Int) - ((a+x:Nat):Int):=by omega
  rw [e1]
  split
  ·rfl
  ·simp only [kI]
theorem Vr {b:List UInt8} {a:Nat} (ha:a≤b.length) :
  bh ((rU true 32 b (a+1) 0).2.2==0) b (rU true 32 b (a+1) 0).2.1 (rU true 32 b (a+1) 0).2.2 (rU true 32 b (a+1) 0).1=((lc (b.drop a)).1,a+(lc (b.drop a)).2.1,(lc (b.drop a)).2.2):=by
 rw [UH]
 exact KW ha
theorem UC {b:List UInt8} {a:Nat} (ha:a<b.length):kP true b a 0=(ac (b.drop a) 0,a+1,0):=by
 unfold kP
 rw [ap rfl,ah (by omega),KE]
 rfl
theorem Vq {d:List UInt8} (hd:0<d.length) (h:(lc d).2.2=0):∃x,(lc d).1=some x∧1≤(lc d).2.1∧(lc d).2.1≤d.length∧x.length≤d.length:=by
 have h1:=agN (bits:=32) (b:=d) (a:=1) (e:=0) (ok:=true)
 have h2:=P8 (ok:=true) (bits:=32) (b:=d) (a:=1) (e:=0) (by omega)
 have h3:=Hj (ok:=((rU true 32 d 1 0).2.2==0)) (e:=(rU true 32 d 1 0).2.2) (n:=(rU true 32 d 1 0).1) (fun h=>by simpa using h) h (fun h=>by simpa using h) h2
 obtain ⟨g1,g2,g3,g4⟩:=h3
 unfold lc
 rw [g4]
 exact ⟨_,rfl,by simp only;omega,by simp only;omega,by simp;omega⟩
theorem Dx {d:List UInt8} {last:Int} (hd:0<d.length) (h:(cP d last).1=0):(cP d last).2.2.length<d.length:=by
 unfold cP at h ⊢
 by_cases h1:(ac d 0).toNat>12
 ·rw [ap h1];exact hd
 rw [ah h1] at h ⊢
 by_cases h2:(lc d).2.2≠0
 ·rw [ap h2];exact hd
 rw [ah h2] at h ⊢
 obtain ⟨x,g1,g2,g3,g4⟩:=Vq hd (Classical.not_not.1 h2)
 split
 ·exact hd
 split
 ·exact hd
 ·simp only [iE];omega
theorem BW:∀(f g:Nat) (d:List UInt8) (last:Int) (acc:List dU),d.length≤f→d.length≤g→qZ f d last acc=qZ g d last acc
 | 0,0,_,_,_,_,_=>rfl
 | 0,g+1,d,last,acc,h,_=>by rw [qZ,qZ,ap (by omega)]
 | f+1,0,d,last,acc,_,h=>by rw [qZ,qZ,ap (by omega)]
 | f+1,g+1,d,last,acc,h1,h2=>by
  rw [qZ,qZ]
  by_cases h3:d.length=0
  ·rw [ap h3,ap h3]
  rw [ah h3,ah h3]
  by_cases h4:(cP d last).1≠0
  ·rw [ap h4,ap h4]
  rw [ah h4,ah h4]
  have:=Dx (by omega) (Classical.not_not.1 h4)
  exact BW f g _ _ _ (by omega) (by omega)
theorem Jb (last:Int) (acc:List dU):BV [] last acc=(0,acc):=rfl
theorem vB {d:List UInt8} {last:Int} {acc:List dU} (hd:0<d.length) (h:(cP d last).1≠0):BV d last acc=((cP d last).1,[]):=by
 obtain ⟨n,hn⟩:∃n,d.length=n+1:=⟨d.length - 1,by omega⟩
 rw [BV,hn,qZ,ah (by omega),ap h]
theorem uH {d:List UInt8} {last:Int} {acc:List dU} (hd:0<d.length) (h:(cP d last).1=0):BV d last acc=BV (cP d last).2.2 (max last (fk (cP d last).2.1.id)) (acc++[(cP d last).2.1]):=by
 obtain ⟨n,hn⟩:∃n,d.length=n+1:=⟨d.length - 1,by omega⟩
 have:=Dx hd h
 rw [BV,hn,qZ,ah (by omega),ah (by rw [h];simp),BV]
 exact BW _ _ _ _ _ (by omega) (bt _)
theorem Yw {d:List UInt8} {last:Int} (h:(cP d last).1=0):(ac d 0).toNat≤12∧(lc d).2.2=0∧¬((ac d 0).toNat≠0∧fk (ac d 0).toNat≤last)∧(g_ (ac d 0).toNat (gb (lc d).1)).1=0∧(cP d last).2=((g_ (ac d 0).toNat (gb (lc d).1)).2,d.drop (lc d).2.1)∧(cP d last).2.1.id=(ac d 0).toNat:=by
 unfold cP at h ⊢
 by_cases h1:(ac d 0).toNat>12
 ·rw [ap h1] at h;exact absurd h (by decide)
 rw [ah h1] at h ⊢
 by_cases h2:(lc d).2.2≠0
 ·rw [ap h2] at h;exact absurd h h2
 rw [ah h2] at h ⊢
 by_cases h3:(ac d 0).toNat≠0∧fk (ac d 0).toNat≤last
 ·rw [ap h3] at h;exact absurd h (by decide)
 rw [ah h3] at h ⊢
 by_cases h4:(g_ (ac d 0).toNat (gb (lc d).1)).1≠0
 ·rw [ap h4] at h;exact absurd h h4
 rw [ah h4]
 refine ⟨by omega,Classical.not_not.1 h2,h3,Classical.not_not.1 h4,rfl,?_⟩
 have h5:=Classical.not_not.1 h4
 unfold g_ at h5 ⊢
 by_cases h6:((ac d 0).toNat:Int)=0
 ·rw [ap h6] at h5 ⊢
  split at h5
  ·rename_i h7;exact absurd h5 h7
  ·rename_i h7;rw [ah h7];exact h6.symm
 ·rw [ah h6]
section
theorem Gt (l:List UInt8) (a:Nat) (h:a≤l.length):vC 1 (.sl 1 (l.map i5)) (some (.int .i64 (a:Int))) none none=some (.sl 1 ((l.drop a).map i5)):=by
 have h2:ci 0 (some (.int .i64 (a:Int)))=some a:=by simp only [ci];rw [ap (by omega),ce]
 have h3:ci (l.map i5).length none=some l.length:=by simp [ci]
 simp only [vC,h2,h3]
 rw [ap ⟨trivial,h,bt _,by simp⟩,List.map_drop,fL (by simp)]
attribute [local go_sem] rx ro
theorem adF (id:Int) (body:List UInt8) (hb:body.length<100000000):ao pg EM [.int .i64 id,.sl 1 (body.map i5)] (.tup [.agg (uG (g_ id body).2),.int .i64 (g_ id body).1]):=by
 refine aL oD ?_
 have cp:=fun x:List UInt8=>O1 30 1 x.length 5 (List.replicate x.length [.int .u8 0]) (x.map i5) (by simp) (by simp)
 by_cases h:id=0
 ·subst h
  have hn:=Og (ok:=true) (b:=body) (a:=0) (e:=0) (cX _)
  simp only [go_sem,oD]
  refine dv (kx body (by omega)) rfl (by simp [go_sem]) 901 (by decide) (by simp only [go_sem]) ?_
  simp only [go_sem]
  have c1:=U0 true body 0 0 (cX _) (by omega)
  rw [show (true&&(0:Int)==0)=true from rfl] at c1
  refine aA (c1) ?_
  refine ab (aP true body ((cO true body 0 0).2.1:Nat) (cO true body 0 0).2.2) ?_
  by_cases he:(cO true body 0 0).2.2=0
  ·have r:g_ 0 body=(0,⟨0,(cO true body 0 0).1,some (body.drop (cO true body 0 0).2.1)⟩):=by simp [g_,he]
   have hl:(body.drop (cO true body 0 0).2.1).length≤body.length:=by simp
   rw [r]
   simp only [go_sem,aD he]
   refine ab (ajt true body ((cO true body 0 0).2.1:Nat) (cO true body 0 0).2.2) ?_
   simp only [go_sem,Gt body (cO true body 0 0).2.1 hn,cp (body.drop (cO true body 0 0).2.1)]
   refine ⟨⟨by omega,by omega,by omega⟩,aJ [30] ?_ rfl⟩
   simp only [go_sem,bt,di]
   rw [fL (by simp)]
  ·have r:g_ 0 body=((cO true body 0 0).2.2,default):=by simp [g_,he]
   rw [r]
   simp only [go_sem,bv he]
   exact aJ [] (by first | rfl | simp only [go_sem]) rfl
 ·have r:g_ id body=(0,⟨id,[],some body⟩):=by simp [g_,h]
  rw [r]
  simp only [go_sem,oD,ay h,cp body,di]
  refine ⟨⟨by omega,by omega,by omega⟩,aJ [30] ?_ rfl⟩
  simp only [go_sem,bt,di]
  rw [fL (by simp)]
end
section
theorem Nb (l:List UInt8) (a:Nat) (h:a≤l.length):vC 1 (.sl 1 (l.map i5)) none (some (.int .i64 (a:Int))) none=some (.sl 1 ((l.take a).map i5)):=by
 have h2:ci (l.map i5).length (some (.int .i64 (a:Int)))=some a:=by simp only [ci];rw [ap (by omega),ce]
 have h3:ci (l.map i5).length none=some l.length:=by simp [ci]
 have h4:ci 0 none=some 0:=rfl
 simp only [vC,h2,h3,h4]
 rw [ap ⟨trivial,cX _,by simpa using h,by simp⟩,List.drop_zero,Nat.sub_zero,List.map_take]
attribute [local go_sem] rx ro
theorem Zi (b:List UInt8) (hb:b.length<100000000):ao pg Cg [.sl 1 (b.map i5)] (.tup [.sl 3 ((qu b).2.map uG),.int .i64 (qu b).1]):=by
 refine aL fN ?_
 by_cases h1:(b.length:Int)>262144
 ·have r:qu b=(6,[]):=by rw [qu,ap (by omega)]
  rw [r]
  simp only [go_sem,fN,aO h1]
  exact eB (Wk.nls _ 2 3 (by simp only [go_sem])) [] (by first | rfl | simp only [go_sem]) rfl
 by_cases h2:(b.length:Int)<8
 ·have r:qu b=(4,[]):=by rw [qu,ah (by omega),ap (.inl (by omega))]
  rw [r]
  simp only [go_sem,fN,aQ h1,aO h2]
  exact eB (Wk.nls _ 2 3 (by simp only [go_sem])) [] (by first | rfl | simp only [go_sem]) rfl
 have a1:=Nb b 8 (by omega)
 have a2:=Gt b 8 (by omega)
 rw [show (((8:Nat):Int))=8 from rfl] at a1 a2
 by_cases h3:b.take 8=FJ
 ·have r:qu b=BV (b.drop 8) 0 []:=by rw [qu,ah (by omega),ah (by simp [h3];omega)]
  have d3:(b.take 8==[0,97,115,109,1,0,0,0])=true:=by rw [h3];rfl
  rw [r]
  generalize hd:b.drop 8=d at *
  have hdl:d.length<100000000:=by rw [← hd];simp;omega
  simp only [go_sem,fN,aQ h1,aQ h2,a1,a2,fP,d3,dh]
  refine dv (kx d (by omega)) rfl (by simp [go_sem]) 901 (by decide) (by simp only [go_sem]) ?_
  simp only [go_sem]
  refine aw (fun q:Nat×Int×List dU=>⟨[(4,.ms 900 3 0 q.2.2.length),(5,.int .i64 q.2.1),(6,.mp 901 4 0 0)],[(900,⟨69,3,q.2.2.map uG,false⟩),(901,ro true d (q.1:Nat) 0)]⟩) (fun q=>q.1≤d.length∧0≤q.2.1∧q.2.2.length≤q.1∧BV (d.drop q.1) q.2.1 q.2.2=BV d 0 []) (fun q=>d.length - q.1) (0,0,[]) ⟨cX _,Int.le_refl _,bt _,rfl⟩ ((Wk.nil _ 4 900 3 69 (by simp only [go_sem]) (.inl (by decide))).trans (Wk.of ?_ ?_)) ?_
  ·simp only [go_sem,St.mknil];try simp [go_sem]
  ·simp only [go_sem,St.mknil];try simp [go_sem,ro]
  rintro ⟨a,last,acc⟩ ⟨ha,hla,hac,hs⟩
  replace ha:a≤d.length:=ha
  replace hla:0≤last:=hla
  replace hac:acc.length≤a:=hac
  replace hs:BV (d.drop a) last acc=BV d 0 []:=hs
  simp only [go_sem]
  have cl:=adD true d a 0 ha (by omega)
  have rl:Of (true&&(0:Int)==0) d a=(d.length:Int) - a:=rfl
  rw [rl] at cl
  refine ab (cl) ?_
  by_cases hlt:a<d.length
  ·have hdp:0<(d.drop a).length:=by simp;omega
   have cb:=pd true d a 0 ha (by omega)
   rw [show (true&&(0:Int)==0)=true from rfl,UC hlt] at cb
   simp only [go_sem,aO (show (d.length:Int) - a>0 by omega)]
   refine ab (cb) ?_
   have hx:=(ac (d.drop a) 0).toNat_lt
   have w1:IntKind.i64.wrap ((ac (d.drop a) 0).toNat:Int)=((ac (d.drop a) 0).toNat:Int):=wi (by omega) (by omega)
   by_cases h12:(ac (d.drop a) 0).toNat>12
   ·have r2:cP (d.drop a) last=(4,default,[]):=by rw [cP,ap h12]
    rw [← hs,vB hdp (by rw [r2];simp),r2]
    simp only [go_sem,w1,aO (show ((ac (d.drop a) 0).toNat:Int)>12 by omega)]
    exact eB (Wk.nls _ 2 3 (by simp only [go_sem])) [] (by first | rfl | simp only [go_sem]) rfl
   have cu:=fe true d (a+1) 0 (by omega) (by omega)
   have hua:=P8 (ok:=true) (bits:=32) (b:=d) (a:=a+1) (e:=0) (by omega)
   have hul:=E4 true d (a+1) 0
   have ct:=uF true d (rU true 32 d (a+1) 0).2.1 (rU true 32 d (a+1) 0).2.2 (rU true 32 d (a+1) 0).1 hua (by omega) ⟨by omega,by omega⟩
   rw [show (true&&(0:Int)==0)=true from rfl] at cu
   rw [bU,Vr ha] at ct
   simp only [go_sem,w1,aQ (show ¬((ac (d.drop a) 0).toNat:Int)>12 by omega)]
   refine aA (cu) ?_
   refine aA (ct) ?_
   refine ab (aP true d ((a+(lc (d.drop a)).2.1:Nat):Int) (lc (d.drop a)).2.2) ?_
   by_cases he:(lc (d.drop a)).2.2=0
   ·obtain ⟨x,g1,g2,g3,g4⟩:=Vq hdp he
    simp only [go_sem,aD he,g1]
    refine ax (I6 ((ac (d.drop a) 0).toNat:Int) last) ?_
    have hd3:(d.drop a).length=d.length - a:=by simp
    by_cases hr:(ac (d.drop a) 0).toNat≠0∧fk (ac (d.drop a) 0).toNat≤last
    ·have r2:cP (d.drop a) last=(7,default,[]):=by rw [cP,ah h12,ah (by rw [he];simp),ap hr]
     have d5:decide (((ac (d.drop a) 0).toNat:Int)=0∨fk ((ac (d.drop a) 0).toNat:Int)>last)=false:=aQ (by omega)
     rw [← hs,vB hdp (by rw [r2];simp),r2]
     simp only [go_sem,d5,cD]
     exact eB (Wk.nls _ 2 3 (by simp only [go_sem])) [] (by first | rfl | simp only [go_sem]) rfl
    have d5:decide (((ac (d.drop a) 0).toNat:Int)=0∨fk ((ac (d.drop a) 0).toNat:Int)>last)=true:=aO (by omega)
    simp only [go_sem,d5,dh]
    refine ax (adF ((ac (d.drop a) 0).toNat:Int) x (by omega)) ?_
    by_cases hp:(g_ ((ac (d.drop a) 0).toNat:Int) x).1=0
    ·have r2:cP (d.drop a) last=(0,(g_ ((ac (d.drop a) 0).toNat:Int) x).2,(d.drop a).drop (lc (d.drop a)).2.1):=by
      rw [cP,ah h12,ah (by rw [he];simp),ah hr,g1,cm,ah (by rw [hp];simp)]
     have hid:=(Yw (d:=d.drop a) (last:=last) (by rw [r2])).2.2.2.2.2
     have hst:=uH (last:=last) (acc:=acc) hdp (by rw [r2])
     rw [r2] at hid hst
     replace hid:(g_ ((ac (d.drop a) 0).toNat:Int) x).2.id=((ac (d.drop a) 0).toNat:Int):=hid
     have hmx:max last (fk (g_ ((ac (d.drop a) 0).toNat:Int) x).2.id)=if ((ac (d.drop a) 0).toNat:Int)=0 then last else fk ((ac (d.drop a) 0).toNat:Int):=by
      rw [hid]
      split
      ·rename_i h0;rw [h0,Od (by omega)];omega
      ·omega
     have happ:=fun ys=>cZ 900 69 3 acc.length uG acc ys rfl
     simp only [go_sem,aD hp,happ]
     refine ⟨by omega,aG (a+(lc (d.drop a)).2.1,(if ((ac (d.drop a) 0).toNat:Int)=0 then last else fk ((ac (d.drop a) 0).toNat:Int)),acc++[(g_ ((ac (d.drop a) 0).toNat:Int) x).2]) ⟨?_,?_,?_,?_⟩ (show d.length - (a+(lc (d.drop a)).2.1)<d.length - a by omega) (Wk.of ?_ ?_)⟩
     ·show a+(lc (d.drop a)).2.1≤d.length
      omega
     ·show (0:Int)≤(if ((ac (d.drop a) 0).toNat:Int)=0 then last else fk ((ac (d.drop a) 0).toNat:Int))
      have:=(IU ((ac (d.drop a) 0).toNat:Int)).1
      split<;>omega
     ·show (acc++[(g_ ((ac (d.drop a) 0).toNat:Int) x).2]).length≤a+(lc (d.drop a)).2.1
      rw [bE,cM]
      omega
     ·show BV (d.drop (a+(lc (d.drop a)).2.1)) (if ((ac (d.drop a) 0).toNat:Int)=0 then last else fk ((ac (d.drop a) 0).toNat:Int)) (acc++[(g_ ((ac (d.drop a) 0).toNat:Int) x).2])=_
      rw [← hmx,← List.drop_drop,← hst,hs]
     ·simp only [go_sem,bE,cM]
      try simp
     ·simp only [go_sem,List.map_append,ej,List.map_nil,he]
    ·have r2:cP (d.drop a) last=((g_ ((ac (d.drop a) 0).toNat:Int) x).1,default,[]):=by
      rw [cP,ah h12,ah (by rw [he];simp),ah hr,g1,cm,ap hp]
     rw [← hs,vB hdp (by rw [r2];exact hp),r2]
     simp only [go_sem,bv hp]
     exact eB (Wk.nls _ 2 3 (by simp only [go_sem])) [] (by first | rfl | simp only [go_sem]) rfl
   ·have r2:cP (d.drop a) last=((lc (d.drop a)).2.2,default,[]):=by rw [cP,ah h12,ap he]
    rw [← hs,vB hdp (by rw [r2];exact he),r2]
    simp only [go_sem,bv he]
    exact eB (Wk.nls _ 2 3 (by simp only [go_sem])) [] (by first | rfl | simp only [go_sem]) rfl
  ·obtain rfl:a=d.length:=by omega
   have r2:BV (d.drop d.length) last acc=(0,acc):=by rw [List.drop_length];rfl
   rw [← hs,r2]
   simp only [go_sem,aQ (show ¬(d.length:Int) - (d.length:Int)>0 by omega)]
   refine aJ [900] ?_ rfl
   simp only [go_sem,bt,di]
   rw [fL (by simp)]
 ·have r:qu b=(4,[]):=by rw [qu,ah (by omega),ap (.inr h3)]
  have d3:(b.take 8==[0,97,115,109,1,0,0,0])=false:=by simpa [FJ] using h3
  rw [r]
  simp only [go_sem,fN,aQ h1,aQ h2,a1,fP,d3,cD]
  exact eB (Wk.nls _ 2 3 (by simp only [go_sem])) [] (by first | rfl | simp only [go_sem]) rfl
end
section
attribute [local go_sem] rx
end
end Go.Proofs.YtdfofedlbljnhaaGreatDoor