import Derived.Test.YtjndcljjbpeljaaGreatDoorPQe
set_option linter.all false
set_option maxRecDepth 100000
set_option maxHeartbeats 4000000
namespace Go.Proofs.YtjndcljjbpeljaaGreatDoor
open Go Go.Mw
def ro (m:Bool) (b:List UInt8) (a e:Int):ao:=⟨184,4,[[.bool m,.sl 1 (b.map dJ),.int .i64 a,.int .i64 e]],true⟩
def RM (f:FuncId) (rest:List AV) (m:Bool) (b:List UInt8) (a e:Int) (r:AV) (a' e':Int):Prop :=
 br Tryz.prog f (.mp 1000 4 0 0 :: rest) [(1000,ro m b a e)] (fun id=>1000≤id∧id<2000) (fun r' σ'=>r'=r∧σ'=[(1000,ro m b a' e')])
theorem kW (m:Bool) (b:List UInt8) (a e:Int):RM YF [] m b a e (.bool (m&&e==0)) a e:=by
 refine aT (ic:=GV.body) aq WN rfl rfl ?_
 cases m
 ·simp only [GV,ro,go_sem]
  exact done [] _ [(1000,ro false b a e)] (by simp only [go_sem]) (by simp only [go_sem,ro]) rfl ⟨rfl,rfl⟩
 ·simp only [GV,ro,go_sem]
  exact done [] _ [(1000,ro true b a e)] (by simp only [go_sem]) (by simp only [go_sem,ro]) rfl ⟨rfl,rfl⟩
theorem xj (m:Bool) (b:List UInt8) (a e x:Int):RM UK [.int .i64 x] m b a e (.tup []) a (if (m&&e==0)=true then x else e):=by
 refine aT (ic:=Ma.body) aq WS rfl rfl ?_
 simp only [Ma,ro,go_sem]
 refine eQ (kW m b a e) ⟨by decide,by decide⟩ rfl (by simp) rfl rfl (by rfl) ?_
 cases h:(m&&e==0)
 ·simp only [go_sem,ro]
  exact ea [] _ [(1000,ro m b a e)] (by simp only [go_sem]) (by simp only [go_sem,ro]) rfl ⟨rfl,rfl⟩
 ·simp only [go_sem,ro]
  exact ea [] _ [(1000,ro m b a x)] (by simp only [go_sem]) (by simp only [go_sem,ro]) rfl ⟨rfl,rfl⟩
theorem jn (b:List UInt8) (a x:Int):RM UK [.int .i64 x] true b a 0 (.tup []) a x:=xj true b a 0 x
theorem Vz (b:List UInt8) (a n:Nat) (e:Int) (h:a+n≤b.length) (hb:b.length<1000000000):RM Y1 [.int .i64 n] true b a e (.sl 1 (((b.drop a).take n).map dJ)) ((a+n:Nat):Int) e:=by
 refine aT (ic:=Mq.body) aq W_ rfl rfl ?_
 have w1:IntKind.i64.wrap ((a:Int)+(n:Int))=((a+n:Nat):Int):=by rw [wi (by omega) (by omega)];omega
 have e1:qB 1 (.sl 1 (b.map dJ)) (some (.int .i64 (a:Int))) (some (.int .i64 ((a+n:Nat):Int))) (some (.int .i64 ((a+n:Nat):Int)))=some (.sl 1 (((b.drop a).take n).map dJ)):=by
  have h1:cK (b.map dJ).length (some (.int .i64 ((a+n:Nat):Int)))=some (a+n):=by simp only [cK];rw [aK (by omega),ib]
  have h2:cK 0 (some (.int .i64 (a:Int)))=some a:=by simp only [cK];rw [aK (by omega),ib]
  simp only [qB,h1,h2]
  rw [aK ⟨trivial,by omega,bj _,by simpa using h⟩,Nat.add_sub_cancel_left,List.map_take,List.map_drop]
 simp only [Mq,ro,go_sem,w1,e1]
 exact done [] _ [(1000,ro true b ((a+n:Nat):Int) e)] (by simp only [go_sem]) (by simp only [go_sem,ro]) rfl ⟨rfl,rfl⟩
theorem xl (m:Bool) (b:List UInt8) (a:Nat) (e n:Int) (ha:a≤b.length) (hb:b.length<1000000000) (hn:-9223372036854775808≤n∧n<9223372036854775808) :
  RM YM [.int .i64 n] m b a e (FW (b_ (m&&e==0) b a e n).1) (b_ (m&&e==0) b a e n).2.1 (b_ (m&&e==0) b a e n).2.2:=by
 refine aT (ic:=Me.body) aq WV rfl rfl ?_
 simp only [Me,ro,go_sem]
 refine eQ (kW m b a e) ⟨by decide,by decide⟩ rfl (by simp) rfl rfl (by rfl) ?_
 cases h:(m&&e==0)
 ·simp only [go_sem,ro,b_]
  exact done [] _ [(1000,ro m b a e)] (by simp only [go_sem]) (by simp only [go_sem,ro]) rfl ⟨rfl,rfl⟩
 ·obtain ⟨rfl,h2⟩:=Bool.and_eq_true_iff.1 h
  obtain rfl:e=0:=by simpa using h2
  by_cases h3:n<0
  ·have d1:decide (n<0)=true:=by simpa using h3
   have r:b_ true b a 0 n=(none,a,1):=by simp [b_,h3]
   simp only [go_sem,ro,d1]
   refine eQ (jn b a 1) ⟨by decide,by decide⟩ rfl (by simp [go_sem]) rfl rfl (by rfl) ?_
   simp only [go_sem,ro]
   rw [r]
   exact done [] _ [(1000,ro true b a 1)] (by simp only [go_sem]) (by simp only [go_sem,ro]) rfl ⟨rfl,rfl⟩
  ·have d1:decide (n<0)=false:=by simpa using h3
   have w1:IntKind.i64.wrap ((b.length:Int) - (a:Int))=(b.length:Int) - (a:Int):=wi (by omega) (by omega)
   by_cases h4:n>(b.length:Int) - a
   ·have d2:decide (n>(b.length:Int) - (a:Int))=true:=by simpa using h4
    have r:b_ true b a 0 n=(none,a,3):=by simp [b_,h3,h4]
    simp only [go_sem,ro,d1,w1,d2]
    refine eQ (jn b a 3) ⟨by decide,by decide⟩ rfl (by simp [go_sem]) rfl rfl (by rfl) ?_
    simp only [go_sem,ro]
    rw [r]
    exact done [] _ [(1000,ro true b a 3)] (by simp only [go_sem]) (by simp only [go_sem,ro]) rfl ⟨rfl,rfl⟩
   ·have d2:decide (n>(b.length:Int) - (a:Int))=false:=by simpa using h4
    obtain ⟨k,rfl⟩:=xG (show 0≤n by omega)
    have r:b_ true b a 0 (k:Int)=(some ((b.drop a).take k),a+k,0):=by
     have h5:¬((k:Int)>(b.length:Int) - a):=h4
     simp only [b_,bF,aD h3,aD h5,ib]
    simp only [go_sem,ro,d1,w1,d2]
    refine eQ (Vz b a k 0 (by omega) hb) ⟨by decide,by decide⟩ rfl (by simp [go_sem]) rfl rfl (by rfl) ?_
    simp only [go_sem,ro]
    rw [r]
    refine ⟨by simp;omega,done [32] _ [(1000,ro true b ((a+k:Nat):Int) 0)] ?_ (by simp only [go_sem,ro]) rfl ⟨rfl,rfl⟩⟩
    simp only [go_sem,bj]
    rw [dS (by simp)]
theorem aI1 (st:Nat) (r:List AV) (k:IntKind):ke st (.sl st [r]) (.int k 0)=some (.ip r):=by simp [ke]
theorem ZV:(((1:Nat):Int)==1)=true:=rfl
theorem P2 (m:Bool) (b:List UInt8) (a:Nat) (e:Int) (ha:a≤b.length) (hb:b.length<1000000000) :
  RM YJ [] m b a e (.int .u8 (lq (m&&e==0) b a e).1.toNat) (lq (m&&e==0) b a e).2.1 (lq (m&&e==0) b a e).2.2:=by
 refine aT (ic:=L_.body) aq WR rfl rfl ?_
 simp only [L_,ro,go_sem]
 refine eQ (xl m b a e 1 ha hb (by decide)) ⟨by decide,by decide⟩ (ac _) (by simp [go_sem]) rfl rfl (by rfl) ?_
 have h1:¬((1:Int)<0):=by decide
 cases h:(m&&e==0)
 ·have r:b_ false b a e 1=(none,a,e):=by simp [b_]
  simp only [go_sem,r,lq,ro,Int.reduceBEq,gK]
  exact done [] _ [(1000,ro m b a e)] (by simp only [go_sem];rfl) (by simp only [go_sem,ro]) rfl ⟨rfl,rfl⟩
 ·by_cases h2:(b.length:Int) - a<1
  ·have r:b_ true b a e 1=(none,a,3):=by simp only [b_,bF,aD h1];rw [aK (by omega)]
   have r2:lq true b a e=(0,a,3):=by simp only [lq,bF,aK h2]
   simp only [go_sem,r,r2,ro,Int.reduceBEq]
   exact done [] _ [(1000,ro m b a 3)] (by simp only [go_sem];rfl) (by simp only [go_sem,ro]) rfl ⟨rfl,rfl⟩
  ·have hl:a<b.length:=by omega
   have e1:(b.drop a).take 1=[ah b a]:=by rw [List.drop_eq_getElem_cons hl,bD hl];rfl
   have r:b_ true b a e 1=(some [ah b a],a+1,e):=by
    simp only [b_,bF,aD h1];rw [aD (by omega)]
    rw [show (1:Int).toNat=1 from rfl,e1]
   have r2:lq true b a e=(ah b a,a+1,e):=by simp only [lq,bF,aD h2]
   simp only [go_sem,r,r2,ro,ZV,aQ,ay,aI1]
   exact done [] _ [(1000,ro m b ((a+1:Nat):Int) e)] (by simp only [go_sem]) (by simp only [go_sem,ro]) rfl ⟨rfl,rfl⟩
theorem mM (m:Bool) (b:List UInt8) (a e:Int):RM YY [] m b a e (.int .i64 (if m=true then e else 2)) a e:=by
 refine aT (ic:=GX.body) aq W7 rfl rfl ?_
 cases m
 ·simp only [GX,ro,go_sem]
  exact done [] _ [(1000,ro false b a e)] (by simp only [go_sem]) (by simp only [go_sem,ro]) rfl ⟨rfl,rfl⟩
 ·simp only [GX,ro,go_sem]
  exact done [] _ [(1000,ro true b a e)] (by simp only [go_sem]) (by simp only [go_sem,ro]) rfl ⟨rfl,rfl⟩
def yO (ok:Bool) (b:List UInt8) (a:Nat):Int:=if ok=true then (b.length:Int) - a else 0
theorem P6 (m:Bool) (b:List UInt8) (a:Nat) (e:Int) (ha:a≤b.length) (hb:b.length<1000000000):RM YK [] m b a e (.int .i64 (yO (m&&e==0) b a)) a e:=by
 refine aT (ic:=Mb.body) aq WT rfl rfl ?_
 simp only [Mb,ro,go_sem]
 refine eQ (kW m b a e) ⟨by decide,by decide⟩ rfl (by simp) rfl rfl (by rfl) ?_
 have w1:IntKind.i64.wrap ((b.length:Int) - (a:Int))=(b.length:Int) - (a:Int):=wi (by omega) (by omega)
 cases h:(m&&e==0)
 ·simp only [go_sem,ro,yO,gK]
  exact done [] _ [(1000,ro m b a e)] (by simp only [go_sem]) (by simp only [go_sem,ro]) rfl ⟨rfl,rfl⟩
 ·simp only [go_sem,ro,yO,w1]
  exact done [] _ [(1000,ro m b a e)] (by simp only [go_sem]) (by simp only [go_sem,ro]) rfl ⟨rfl,rfl⟩
def iB (m:Bool) (b:List UInt8) (a:Nat) (e:Int):Int:=if m=true then (if e≠0 then e else if a=b.length then 0 else 5) else 2
theorem FN (m:Bool) (b:List UInt8) (a:Nat) (e:Int):RM YW [] m b a e (.int .i64 (iB m b a e)) a e:=by
 refine aT (ic:=Mn.body) aq W6 rfl rfl ?_
 simp only [Mn,ro,go_sem]
 refine eQ (mM m b a e) ⟨by decide,by decide⟩ rfl (by simp) rfl rfl (by rfl) ?_
 cases m
 ·have d:((2:Int) != 0)=true:=rfl
  simp only [go_sem,ro,iB,gK,d]
  exact done [] _ [(1000,ro false b a e)] (by simp only [go_sem]) (by simp only [go_sem,ro]) rfl ⟨rfl,rfl⟩
 ·by_cases he:e=0
  ·subst he
   have d:((0:Int) != 0)=false:=rfl
   by_cases h2:a=b.length
   ·have d2:((a:Int)==(b.length:Int))=true:=by simp [h2]
    have r:iB true b a 0=0:=by simp [iB,h2]
    simp only [go_sem,ro,d,d2,r]
    exact done [] _ [(1000,ro true b a 0)] (by simp only [go_sem]) (by simp only [go_sem,ro]) rfl ⟨rfl,rfl⟩
   ·have d2:((a:Int)==(b.length:Int))=false:=by rw [mT];omega
    have r:iB true b a 0=5:=by simp [iB,h2]
    simp only [go_sem,ro,d,d2,r]
    exact done [] _ [(1000,ro true b a 0)] (by simp only [go_sem]) (by simp only [go_sem,ro]) rfl ⟨rfl,rfl⟩
  ·have d:(e != 0)=true:=by simp [he]
   have r:iB true b a e=e:=by simp [iB,he]
   simp only [go_sem,ro,d,r]
   exact done [] _ [(1000,ro true b a e)] (by simp only [go_sem]) (by simp only [go_sem,ro]) rfl ⟨rfl,rfl⟩
theorem xm (m:Bool) (bits:Nat) (b:List UInt8) (a:Nat) (e:Int) (hbits:1≤bits∧bits≤64) (ha:a≤b.length) (hb:b.length<1000000000) :
  RM nX6 [.int .i64 bits] m b a e (.int .u64 (rU (m&&e==0) bits b a e).1) (rU (m&&e==0) bits b a e).2.1 (rU (m&&e==0) bits b a e).2.2:=by
 refine aT (ic:=Wo.body) aq cX6 rfl rfl ?_
 simp only [Wo,ro,go_sem]
 refine eQ (kW m b a e) ⟨by decide,by decide⟩ rfl (by simp) rfl rfl (by rfl) ?_
 cases h:(m&&e==0)
 ·have r:rU false bits b a e=(0,a,e):=by simp [rU]
  simp only [go_sem,ro,r]
  exact done [] _ [(1000,ro m b a e)] (by simp only [go_sem];rfl) (by simp only [go_sem,ro]) rfl ⟨rfl,rfl⟩
 ·obtain ⟨rfl,h2⟩:=Bool.and_eq_true_iff.1 h
  obtain rfl:e=0:=by simpa using h2
  simp only [go_sem,ro]
  have hk:=Dz (b.drop a) bits
  simp only [lW] at hk
  refine ⟨⟨by omega,by omega⟩,ck (s_U (b.drop a) bits hbits) (by simp [go_sem]) ?_⟩
  by_cases hq:(e_ (b.drop a) bits).2.2=0
  ·have d:((e_ (b.drop a) bits).2.2 != 0)=false:=by simp [hq]
   have r:rU true bits b a 0=((e_ (b.drop a) bits).1,a+(e_ (b.drop a) bits).2.1,0):=by simp [rU,hq]
   have w1:IntKind.i64.wrap ((a:Int)+((e_ (b.drop a) bits).2.1:Int))=((a+(e_ (b.drop a) bits).2.1:Nat):Int):=by rw [wi (by omega) (by omega)];omega
   rw [r]
   simp only [go_sem,ro,uR,d,w1]
   exact done [] _ [(1000,ro true b ((a+(e_ (b.drop a) bits).2.1:Nat):Int) 0)] (by simp only [go_sem]) (by simp only [go_sem,ro]) rfl ⟨rfl,rfl⟩
  ·have d:((e_ (b.drop a) bits).2.2 != 0)=true:=by simp [hq]
   have r:rU true bits b a 0=(0,a,(e_ (b.drop a) bits).2.2):=by simp [rU,hq]
   rw [r]
   simp only [go_sem,ro,uR,d]
   refine eQ (jn b a (e_ (b.drop a) bits).2.2) ⟨by decide,by decide⟩ rfl (by simp [go_sem]) rfl rfl (by rfl) ?_
   simp only [go_sem,ro]
   exact done [] _ [(1000,ro true b a (e_ (b.drop a) bits).2.2)] (by simp only [go_sem];rfl) (by simp only [go_sem,ro]) rfl ⟨rfl,rfl⟩
theorem yX (m:Bool) (b:List UInt8) (a:Nat) (e:Int) (ha:a≤b.length) (hb:b.length<1000000000) :
  RM Y0 [] m b a e (.int .i64 (rU (m&&e==0) 32 b a e).1) (rU (m&&e==0) 32 b a e).2.1 (rU (m&&e==0) 32 b a e).2.2:=by
 refine aT (ic:=Mp.body) aq W9 rfl rfl ?_
 have hl:=vt (m&&e==0) b a e
 have w1:IntKind.i64.wrap ((rU (m&&e==0) 32 b a e).1:Int)=((rU (m&&e==0) 32 b a e).1:Int):=wi (by omega) (by omega)
 simp only [Mp,ro,go_sem]
 refine eQ (xm m 32 b a e (by decide) ha hb) ⟨by decide,by decide⟩ rfl (by simp [go_sem]) rfl rfl (by rfl) ?_
 simp only [go_sem,ro,w1]
 exact done [] _ [(1000,ro m b (rU (m&&e==0) 32 b a e).2.1 (rU (m&&e==0) 32 b a e).2.2)] (by simp only [go_sem]) (by simp only [go_sem,ro]) rfl ⟨rfl,rfl⟩
theorem tN (m:Bool) (b:List UInt8) (a:Nat) (e most:Int) (ha:a≤b.length) (hb:b.length<1000000000) :
  RM YE [.int .i64 most] m b a e (.int .i64 (bH (m&&e==0) b a e most).1) (bH (m&&e==0) b a e most).2.1 (bH (m&&e==0) b a e most).2.2:=by
 refine aT (ic:=L7.body) aq WL rfl rfl ?_
 simp only [L7,ro,go_sem]
 refine eQ (kW m b a e) ⟨by decide,by decide⟩ rfl (by simp) rfl rfl (by rfl) ?_
 cases h:(m&&e==0)
 ·have r:bH false b a e most=(0,a,e):=by simp [bH]
  simp only [go_sem,ro,r]
  exact done [] _ [(1000,ro m b a e)] (by simp only [go_sem];rfl) (by simp only [go_sem,ro]) rfl ⟨rfl,rfl⟩
 ·obtain ⟨rfl,h2⟩:=Bool.and_eq_true_iff.1 h
  obtain rfl:e=0:=by simpa using h2
  simp only [go_sem,ro]
  refine eQ (yX true b a 0 ha hb) ⟨by decide,by decide⟩ rfl (by simp [go_sem]) rfl rfl (by rfl) ?_
  rw [h]
  by_cases hq:(rU true 32 b a 0).2.2=0
  ·have d:((rU true 32 b a 0).2.2==0)=true:=by simp [hq]
   by_cases hm:((rU true 32 b a 0).1:Int)>most
   ·have d2:decide (((rU true 32 b a 0).1:Int)>most)=true:=by simpa using hm
    have r:bH true b a 0 most=(0,a,6):=by simp only [bH,bF];rw [aK ⟨hq,hm⟩]
    simp only [go_sem,ro,d,d2,hq]
    refine eQ (jn b a 6) ⟨by decide,by decide⟩ rfl (by simp [go_sem]) rfl rfl (by rfl) ?_
    rw [r]
    simp only [go_sem,ro]
    exact done [] _ [(1000,ro true b a 6)] (by simp only [go_sem];rfl) (by simp only [go_sem,ro]) rfl ⟨rfl,rfl⟩
   ·have d2:decide (((rU true 32 b a 0).1:Int)>most)=false:=by simpa using hm
    have r:bH true b a 0 most=rU true 32 b a 0:=by simp only [bH,bF];rw [aD (fun hh=>hm hh.2)]
    rw [r]
    simp only [go_sem,ro,d,d2]
    exact done [] _ [(1000,ro true b (rU true 32 b a 0).2.1 (rU true 32 b a 0).2.2)] (by simp only [go_sem]) (by simp only [go_sem,ro]) rfl ⟨rfl,rfl⟩
  ·have d:((rU true 32 b a 0).2.2==0)=false:=by simp [hq]
   have r:bH true b a 0 most=rU true 32 b a 0:=by simp only [bH,bF];rw [aD (fun hh=>hq hh.1)]
   rw [r]
   simp only [go_sem,ro,d]
   exact done [] _ [(1000,ro true b (rU true 32 b a 0).2.1 (rU true 32 b a 0).2.2)] (by simp only [go_sem]) (by simp only [go_sem,ro]) rfl ⟨rfl,rfl⟩
attribute [go_sem] bne_self_eq_false gK
def rx (b:List UInt8) (a e:Int):AV:=.agg [.sl 1 (b.map dJ),.int .i64 a,.int .i64 e]
section
variable (b:List UInt8) (a:Nat) (e:Int) (ha:a≤b.length) (hb:b.length<1000000000)
include ha hb
end
theorem P7 (b:List UInt8) (hb:b.length<1000000000):br Tryz.prog Uc [.sl 1 (b.map dJ)] [] sb (fun r' σ'=>r' = .mp 6 4 0 0∧σ'=[(6,ro true b ((0:Nat):Int) 0)]):=by
 refine aT (ic:=BN.body) aq R9 rfl rfl ?_
 simp only [BN,go_sem]
 refine ⟨by omega,done [4] _ [(6,ro true b ((0:Nat):Int) 0)] (by simp only [go_sem]) ?_ rfl ⟨rfl,rfl⟩⟩
 simp only [go_sem,ro,bj,cY]
 rw [dS (by simp)]
 rfl
theorem ei {d:Option Nat} {s:St} {K:St→Prop} (k j:Nat) (hk:k<1000) (hj:j<1000∨2000<j) (hkj:k≠j) (hfk:ak s.heap k=none) (hfj:ak s.heap j=none)
  (hK:K ((St.mk (gB [k,j] s.env) ((k,wo j true [] 0) :: (j,wa []) :: fX [k,j] s.heap)).put d (.mp k 3 0 0))):cW Tryz.prog Ls [] d s K:=by
 have e0:fw [(2,k),(2000,j)] 2=k:=by
  simp only [fw];unfold jo
  have q:¬k=2000:=by omega
  simp [q,hkj]
 have e1:fw [(2,k),(2000,j)] 2000=j:=by
  simp only [fw];unfold jo
  have q:¬(2000=k):=by omega
  simp [q]
 refine cC (σ2:=[]) (r3:=.mp k 3 0 0) (σ3:=[(k,wo j true [] 0),(j,wa [])]) P_ [(2,k),(2000,j)] [k,j] rfl rfl ?_ ?_ (fun p hp=>by cases hp) (fun p hp=>?_) (fun p hp=>by cases hp) hK
 ·simp only [kE,qf,k9,k_,e0]
 ·simp only [fY,eU,wo,wa,bF,eW,List.map_nil,k9,k_,e0,e1,gK,dc];rfl
 ·simp only [eH,List.not_mem_nil,or_false] at hp
  rcases hp with rfl | rfl
  ·exact .inr ⟨by simp,.inl hk,.inr hfk⟩
  ·exact .inr ⟨by simp,by rcases hj with h | h<;>omega,.inr hfj⟩
theorem fg:∀l:List UInt8,f_ (l.map dJ)=some l
 | []=>rfl
 | b :: l=>by
  simp only [eW,dJ,f_,fg l,fe,ib,UInt8.ofNat_toNat]
section
def lm (b:List UInt8) (a:Nat) (t:Option (List UInt8)×Nat×Int):List UInt8×Nat×Int :=
 if t.2.2≠0 then ([],a,t.2.2) else if uv (t.1.getD [])=false then ([],a,9) else (t.1.getD [],t.2.1,0)
def fu (ok:Bool) (b:List UInt8) (a:Nat) (e:Int):List UInt8×Nat×Int :=
 if ok=true then lm b a (b_ ((bH true b a 0 64).2.2==0) b (bH true b a 0 64).2.1 (bH true b a 0 64).2.2 (bH true b a 0 64).1) else ([],a,e)
theorem kB {ok:Bool} {b:List UInt8} {a:Nat} {e most:Int} (h:a≤b.length):(bH ok b a e most).2.1≤b.length:=by
 unfold bH
 split
 ·split
  ·exact h
  ·exact Fn h
 ·exact h
theorem ny (ok:Bool) (b:List UInt8) (a:Nat) (e most:Int):(bH ok b a e most).1<4294967296:=by
 unfold bH
 split
 ·split
  ·exact (by decide:(0:Nat)<4294967296)
  ·exact vt _ _ _ _
 ·exact (by decide:(0:Nat)<4294967296)
theorem n_ (b:List UInt8) (a:Nat) (e n:Int) (ha:a≤b.length):(∃x,x≠0∧b_ (e==0) b a e n=(none,a,x))∨e=0∧∃l,l.length≤b.length∧b_ (e==0) b a e n=(some l,a+n.toNat,0)∧l=(b.drop a).take n.toNat:=by
 by_cases h:e=0
 ·subst h
  by_cases h1:n<0
  ·exact .inl ⟨1,by decide,by simp [b_,h1]⟩
  ·by_cases h2:n>(b.length:Int) - a
   ·exact .inl ⟨3,by decide,by simp [b_,h1,h2]⟩
   ·exact .inr ⟨rfl,(b.drop a).take n.toNat,by simp;omega,by simp only [b_,beq_self_eq_true,bF,aD h1,aD h2],rfl⟩
 ·exact .inl ⟨e,h,by simp [b_,h]⟩
attribute [local go_sem] rx ro
theorem FR (m:Bool) (b:List UInt8) (a:Nat) (e:Int) (ha:a≤b.length) (hb:b.length<1000000000) :
  RM YL [] m b a e (.str (fu (m&&e==0) b a e).1) (fu (m&&e==0) b a e).2.1 (fu (m&&e==0) b a e).2.2:=by
 refine aT (ic:=Mc.body) aq WU rfl rfl ?_
 simp only [go_sem,Mc]
 refine aY (kW m b a e) ?_
 cases h:(m&&e==0)
 ·have r:fu false b a e=([],a,e):=by simp [fu]
  rw [r]
  simp only [go_sem]
  exact xZ (fun _ h=>by cases h) (by simp only [go_sem]) (by rfl) (by first | rfl | simp [go_sem,ac,zK])
 ·obtain ⟨rfl,h2⟩:=Bool.and_eq_true_iff.1 h
  obtain rfl:e=0:=by simpa using h2
  simp only [go_sem]
  refine aY (tN true b a 0 64 ha hb) ?_
  have hl:=ny true b a 0 64
  have ha2:=kB (ok:=true) (e:=0) (most:=64) ha
  have r:fu true b a 0=lm b a (b_ ((bH true b a 0 64).2.2==0) b (bH true b a 0 64).2.1 (bH true b a 0 64).2.2 (bH true b a 0 64).1):=by simp [fu]
  rw [h,r]
  generalize hc:bH true b a 0 64=c at *
  obtain ⟨n,a1,e1⟩:=c
  simp only [go_sem]
  refine aY (xl true b a1 e1 n ha2 hb (by omega)) ?_
  rw [bR]
  rcases n_ b a1 e1 (n:Int) ha2 with ⟨x,hx,ht⟩ | ⟨rfl,l,hl2,ht,_⟩
  ·have r2:lm b a (none,a1,x)=([],a,x):=by simp [lm,hx]
   rw [ht,r2]
   simp only [go_sem,f_,fe,aN hx,aZ hx]
   exact xZ (fun _ h=>by cases h) (by simp only [go_sem]) (by rfl) (by first | rfl | simp [go_sem,ac,zK])
  ·have b1:=fg l
   rw [ib] at ht
   rw [ht]
   simp only [go_sem,b1,fe]
   refine aa (FT l (by omega)) ?_
   cases hv:uv l
   ·have r2:lm b a (some l,a1+n,0)=([],a,9):=by simp [lm,hv]
    rw [r2]
    simp only [go_sem]
    refine aY (jn b ((a1+n:Nat):Int) 9) ?_
    simp only [go_sem]
    exact xZ (fun _ h=>by cases h) (by simp only [go_sem]) (by rfl) (by first | rfl | simp [go_sem,ac,zK])
   ·have r2:lm b a (some l,a1+n,0)=(l,a1+n,0):=by simp [lm,hv]
    rw [r2]
    simp only [go_sem]
    exact xZ (fun _ h=>by cases h) (by simp only [go_sem]) (by rfl) (by first | rfl | simp [go_sem,ac,zK])
theorem P8 (b:List UInt8) (a:Nat) (e n:Int) (ha:a≤b.length) (hb:b.length<1000000000) (hn:-9223372036854775808≤n∧n<9223372036854775808) :
  br Tryz.prog YZ [.mp 1000 4 0 0,.int .i64 n] [(1000,ro true b a e)] sb (fun r' σ'=>r' = .mp 24 4 0 0∧σ'=[(1000,ro true b (b_ (e==0) b a e n).2.1 (b_ (e==0) b a e n).2.2),(24,ro true ((b_ (e==0) b a e n).1.getD []) ((0:Nat):Int) (b_ (e==0) b a e n).2.2)]):=by
 refine aT (ic:=Mo.body) aq W8 rfl rfl ?_
 simp only [go_sem,Mo]
 refine aY (xl true b a e n ha hb hn) ?_
 rw [bR]
 cases hl:(b_ (e==0) b a e n).1 with
 | none =>
  simp only [go_sem]
  refine L0 (Wk.nlh _ 24 (t:=184) (st:=4) (r:=[.bool true,.nl,.int .i64 0,.int .i64 (b_ (e==0) b a e n).2.2]) (r':=[.bool true,.sl 1 [],.int .i64 0,.int .i64 (b_ (e==0) b a e n).2.2]) (by simp only [go_sem]) ⟨.inl rfl,.inr ⟨rfl,1,rfl⟩,.inl rfl,.inl rfl,trivial⟩) [] (.mp 24 4 0 0) [(1000,ro true b (b_ (e==0) b a e n).2.1 (b_ (e==0) b a e n).2.2),(24,ro true [] ((0:Nat):Int) (b_ (e==0) b a e n).2.2)] (by simp only [go_sem]) (by simp only [go_sem];rfl) rfl ⟨rfl,rfl⟩
 | some l =>
  simp only [go_sem]
  exact done [] _ [(1000,ro true b (b_ (e==0) b a e n).2.1 (b_ (e==0) b a e n).2.2),(24,ro true l ((0:Nat):Int) (b_ (e==0) b a e n).2.2)] (by simp only [go_sem]) (by simp only [go_sem];rfl) rfl ⟨rfl,rfl⟩
end
theorem Jr {b:List UInt8} {a:Nat} {t:Option (List UInt8)×Nat×Int} (h:a≤b.length) (h2:t.2.1≤b.length):(lm b a t).2.1≤b.length:=by
 unfold lm
 repeat' split
 all_goals first | exact h | exact h2
theorem tI {ok:Bool} {b:List UInt8} {a:Nat} {e:Int} (h:a≤b.length):(fu ok b a e).2.1≤b.length:=by
 unfold fu
 split
 ·exact Jr h (yP (kB h))
 ·exact h
section
variable (n:Int) (b:List UInt8) (a:Nat) (e:Int) (b2:List UInt8) (a2:Nat) (e2:Int) (hn:-9223372036854775808≤n∧n<9223372036854775808) (ha:a≤b.length) (hb:b.length<1000000000) (ha2:a2≤b2.length) (hb2:b2.length<1000000000)
include hn ha hb ha2 hb2
end
def Wv (x:Int×Int):List AV:=[.int .i64 x.1,.int .i64 x.2]
theorem Q7 (x:Int×Int):Wv x=[.int .i64 x.1,.int .i64 x.2]:=rfl
attribute [go_sem] Q7
section
def wS (ok:Bool) (l:List UInt8) (n:Int):List UInt8:=wB ok l (fq n)
def vO (ok:Bool) (l:List UInt8) (e n:Int):List UInt8×Int:=if n < -4294967296∨n>4294967295 then (l,if ok=true then 1 else e) else (wS ok l n,e)
def Bh (x:Int):Int:=IntKind.i64.wrap (IntKind.i32.wrap (IntKind.u32.wrap x))
theorem FM (x:Int):-2147483648≤Bh x∧Bh x<2147483648:=by
 unfold Bh
 rw [GA,VX]
 omega
theorem i64_in (x:Int):Ov (IntKind.i64.wrap x):=by unfold Ov;rw [GA];omega
theorem oJ {n:Int} (h:Ov n):(fq n).length≤10:=p7 (k:=9) (by unfold Ov at h;omega) (by unfold Ov at h;omega)
attribute [local go_sem] wo wa
section
variable (m:Bool) (l:List UInt8) (e:Int) (hl:l.length<50000000000)
include hl
def wP (ok:Bool) (l:List UInt8) (e:Int) (mp:Bool) (lp:List UInt8) (ep:Int):List UInt8×Int :=
 if mp=true then (if ep≠0 then (l,if ok=true then ep else e) else (wB ok (wB ok l (aA lp.length)) lp,e)) else (l,if ok=true then 2 else e)
theorem Kv (mp:Bool) (lp:List UInt8) (ep:Int) (hp:lp.length<4000000000) :
  br Tryz.prog YQ [.mp 1000 3 0 0,.mp 1001 3 0 0] [(1000,wo 2000 m l e),(2000,wa l),(1001,wo 2001 mp lp ep),(2001,wa lp)] sb
   (fun r' σ'=>r' = .tup []∧σ'=[(1000,wo 2000 m (wP (m&&e==0) l e mp lp ep).1 (wP (m&&e==0) l e mp lp ep).2),(2000,wa (wP (m&&e==0) l e mp lp ep).1),(1001,wo 2001 mp lp ep),(2001,wa lp)]):=by
 refine aT (ic:=Cl.body) aq W0 rfl rfl ?_
 cases mp
 ·have r:wP (m&&e==0) l e false lp ep=(l,if (m&&e==0)=true then 2 else e):=by simp [wP]
  rw [r]
  simp only [go_sem,Cl]
  refine cG [] (k:=1000) (j:=2000) (kX m l e 2) ?_
  simp only [go_sem]
  exact DA [] _ [(1000,wo 2000 m l (if (m&&e==0)=true then 2 else e)),(2000,wa l),(1001,wo 2001 false lp ep),(2001,wa lp)] ⟨rfl,rfl⟩
 ·by_cases h:ep=0
  ·subst h
   have r:wP (m&&e==0) l e true lp 0=(wB (m&&e==0) (wB (m&&e==0) l (aA lp.length)) lp,e):=by simp [wP]
   have r1:wU (m&&e==0) l e lp.length=(wB (m&&e==0) l (aA lp.length),e):=by
    unfold wU wB
    have h1:¬((lp.length:Int)<0∨(lp.length:Int)>4294967295):=by omega
    cases (m&&e==0)<;>simp only [bF,aD h1,gK,dc,ib]
   have c1:=xn m l e lp.length (by omega)
   have hp2:=iI (n:=lp.length) (by omega)
   have hl2:=qs (ok:=(m&&e==0)) (l:=l) (x:=aA lp.length)
   have hr:=vE 1 lp.length 5 dJ lp rfl
   rw [r1] at c1
   rw [r]
   simp only [go_sem,Cl,hr]
   refine ⟨by omega,?_⟩
   refine cG [] (k:=1000) (j:=2000) (c1) ?_
   simp only [go_sem]
   refine ga [31] (k:=1000) (j:=2000) (mN m (wB (m&&e==0) l (aA lp.length)) lp e ⟨by omega,by omega⟩) (by decide) (by decide) (by decide) (by decide) (by first | rfl | simp [go_sem,ac]) (by simp [go_sem]) ?_ (by rfl) (by rfl) ?_
   ·simp only [go_sem,bj,cY]
    rw [dS (by simp)]
   ·simp only [go_sem]
    exact S7 [] _ [(1000,wo 2000 m (wB (m&&e==0) (wB (m&&e==0) l (aA lp.length)) lp) e),(2000,wa (wB (m&&e==0) (wB (m&&e==0) l (aA lp.length)) lp)),(1001,wo 2001 true lp 0),(2001,wa lp)] ⟨rfl,rfl⟩
  ·have r:wP (m&&e==0) l e true lp ep=(l,if (m&&e==0)=true then ep else e):=by simp [wP,h]
   rw [r]
   simp only [go_sem,Cl,aZ h]
   refine cG [] (k:=1000) (j:=2000) (kX m l e ep) ?_
   simp only [go_sem]
   exact DA [] _ [(1000,wo 2000 m l (if (m&&e==0)=true then ep else e)),(2000,wa l),(1001,wo 2001 true lp ep),(2001,wa lp)] ⟨rfl,rfl⟩
end
end
end Go.Proofs.YtjndcljjbpeljaaGreatDoor