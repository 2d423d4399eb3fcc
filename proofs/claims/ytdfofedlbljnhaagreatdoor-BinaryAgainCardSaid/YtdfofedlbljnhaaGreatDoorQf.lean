import Derived.Test.YtdfofedlbljnhaaGreatDoorQe
set_option linter.all false
set_option maxRecDepth 100000
set_option maxHeartbeats 4000000
namespace Go.Proofs.YtdfofedlbljnhaaGreatDoor
open Go Go.Mw
def ro (m:Bool) (b:List UInt8) (a e:Int):ak:=⟨287,4,[[.bool m,.sl 1 (b.map i5),.int .i64 a,.int .i64 e]],true⟩
def RM (f:FuncId) (rest:List AV) (m:Bool) (b:List UInt8) (a e:Int) (r:AV) (a' e':Int):Prop :=
 aX pg f (.mp 1000 4 0 0 :: rest) [(1000,ro m b a e)] (fun id=>1000≤id∧id<2000) (fun r' σ'=>r'=r∧σ'=[(1000,ro m b a' e')])
theorem r7 (m:Bool) (b:List UInt8) (a e:Int):RM sV [] m b a e (.bool (m&&e==0)) a e:=by
 refine bF f_ ?_
 cases m
 ·simp only [f_,ro,go_sem]
  exact done [] _ [(1000,ro false b a e)] (by simp only [go_sem]) (by simp only [go_sem,ro]) rfl ⟨rfl,rfl⟩
 ·simp only [f_,ro,go_sem]
  exact done [] _ [(1000,ro true b a e)] (by simp only [go_sem]) (by simp only [go_sem,ro]) rfl ⟨rfl,rfl⟩
theorem Fd (m:Bool) (b:List UInt8) (a e x:Int):RM gR [.int .i64 x] m b a e (.tup []) a (if (m&&e==0)=true then x else e):=by
 refine bF lx ?_
 simp only [lx,ro,go_sem]
 refine dW (r7 m b a e) ⟨by decide,by decide⟩ rfl (by simp) rfl rfl (by rfl) ?_
 cases h:(m&&e==0)
 ·simp only [go_sem,ro]
  exact fH [] _ [(1000,ro m b a e)] (by simp only [go_sem]) (by simp only [go_sem,ro]) rfl ⟨rfl,rfl⟩
 ·simp only [go_sem,ro]
  exact fH [] _ [(1000,ro m b a x)] (by simp only [go_sem]) (by simp only [go_sem,ro]) rfl ⟨rfl,rfl⟩
theorem cj (b:List UInt8) (a x:Int):RM gR [.int .i64 x] true b a 0 (.tup []) a x:=Fd true b a 0 x
theorem agY (b:List UInt8) (a n:Nat) (e:Int) (h:a+n≤b.length) (hb:b.length<1000000000):RM vP [.int .i64 n] true b a e (.sl 1 (((b.drop a).take n).map i5)) ((a+n:Nat):Int) e:=by
 refine bF nh ?_
 have w1:IntKind.i64.wrap ((a:Int)+(n:Int))=((a+n:Nat):Int):=by rw [wi (by omega) (by omega)];omega
 have e1:vC 1 (.sl 1 (b.map i5)) (some (.int .i64 (a:Int))) (some (.int .i64 ((a+n:Nat):Int))) (some (.int .i64 ((a+n:Nat):Int)))=some (.sl 1 (((b.drop a).take n).map i5)):=by
  have h1:ci (b.map i5).length (some (.int .i64 ((a+n:Nat):Int)))=some (a+n):=by simp only [ci];rw [ap (by omega),ce]
  have h2:ci 0 (some (.int .i64 (a:Int)))=some a:=by simp only [ci];rw [ap (by omega),ce]
  simp only [vC,h1,h2]
  rw [ap ⟨trivial,by omega,bt _,by simpa using h⟩,Nat.add_sub_cancel_left,List.map_take,List.map_drop]
 simp only [nh,ro,go_sem,w1,e1]
 exact done [] _ [(1000,ro true b ((a+n:Nat):Int) e)] (by simp only [go_sem]) (by simp only [go_sem,ro]) rfl ⟨rfl,rfl⟩
theorem uF (m:Bool) (b:List UInt8) (a:Nat) (e n:Int) (ha:a≤b.length) (hb:b.length<1000000000) (hn:-9223372036854775808≤n∧n<9223372036854775808) :
  RM uh [.int .i64 n] m b a e (MQ (bh (m&&e==0) b a e n).1) (bh (m&&e==0) b a e n).2.1 (bh (m&&e==0) b a e n).2.2:=by
 refine bF lA ?_
 simp only [lA,ro,go_sem]
 refine dW (r7 m b a e) ⟨by decide,by decide⟩ rfl (by simp) rfl rfl (by rfl) ?_
 cases h:(m&&e==0)
 ·simp only [go_sem,ro,bh]
  exact done [] _ [(1000,ro m b a e)] (by simp only [go_sem]) (by simp only [go_sem,ro]) rfl ⟨rfl,rfl⟩
 ·obtain ⟨rfl,h2⟩:=Bool.and_eq_true_iff.1 h
  obtain rfl:e=0:=by simpa using h2
  by_cases h3:n<0
  ·have d1:decide (n<0)=true:=by simpa using h3
   have r:bh true b a 0 n=(none,a,1):=by simp [bh,h3]
   simp only [go_sem,ro,d1]
   refine dW (cj b a 1) ⟨by decide,by decide⟩ rfl (by simp [go_sem]) rfl rfl (by rfl) ?_
   simp only [go_sem,ro]
   rw [r]
   exact done [] _ [(1000,ro true b a 1)] (by simp only [go_sem]) (by simp only [go_sem,ro]) rfl ⟨rfl,rfl⟩
  ·have d1:decide (n<0)=false:=by simpa using h3
   have w1:IntKind.i64.wrap ((b.length:Int) - (a:Int))=(b.length:Int) - (a:Int):=wi (by omega) (by omega)
   by_cases h4:n>(b.length:Int) - a
   ·have d2:decide (n>(b.length:Int) - (a:Int))=true:=by simpa using h4
    have r:bh true b a 0 n=(none,a,3):=by simp [bh,h3,h4]
    simp only [go_sem,ro,d1,w1,d2]
    refine dW (cj b a 3) ⟨by decide,by decide⟩ rfl (by simp [go_sem]) rfl rfl (by rfl) ?_
    simp only [go_sem,ro]
    rw [r]
    exact done [] _ [(1000,ro true b a 3)] (by simp only [go_sem]) (by simp only [go_sem,ro]) rfl ⟨rfl,rfl⟩
   ·have d2:decide (n>(b.length:Int) - (a:Int))=false:=by simpa using h4
    obtain ⟨k,rfl⟩:=Bt (show 0≤n by omega)
    have r:bh true b a 0 (k:Int)=(some ((b.drop a).take k),a+k,0):=by
     have h5:¬((k:Int)>(b.length:Int) - a):=h4
     simp only [bh,aF,ah h3,ah h5,ce]
    simp only [go_sem,ro,d1,w1,d2]
    refine dW (agY b a k 0 (by omega) hb) ⟨by decide,by decide⟩ rfl (by simp [go_sem]) rfl rfl (by rfl) ?_
    simp only [go_sem,ro]
    rw [r]
    refine ⟨by simp;omega,done [32] _ [(1000,ro true b ((a+k:Nat):Int) 0)] ?_ (by simp only [go_sem,ro]) rfl ⟨rfl,rfl⟩⟩
    simp only [go_sem,bt]
    rw [fL (by simp)]
theorem aI1 (st:Nat) (r:List AV) (k:IntKind):wC st (.sl st [r]) (.int k 0)=some (.ip r):=by simp [wC]
theorem aiT:(((1:Nat):Int)==1)=true:=rfl
theorem pd (m:Bool) (b:List UInt8) (a:Nat) (e:Int) (ha:a≤b.length) (hb:b.length<1000000000) :
  RM lW [] m b a e (.int .u8 (kP (m&&e==0) b a e).1.toNat) (kP (m&&e==0) b a e).2.1 (kP (m&&e==0) b a e).2.2:=by
 refine bF lw ?_
 simp only [lw,ro,go_sem]
 refine dW (uF m b a e 1 ha hb (by decide)) ⟨by decide,by decide⟩ (bX _) (by simp [go_sem]) rfl rfl (by rfl) ?_
 have h1:¬((1:Int)<0):=by decide
 cases h:(m&&e==0)
 ·have r:bh false b a e 1=(none,a,e):=by simp [bh]
  simp only [go_sem,r,kP,ro,Int.reduceBEq,iD]
  exact done [] _ [(1000,ro m b a e)] (by simp only [go_sem];rfl) (by simp only [go_sem,ro]) rfl ⟨rfl,rfl⟩
 ·by_cases h2:(b.length:Int) - a<1
  ·have r:bh true b a e 1=(none,a,3):=by simp only [bh,aF,ah h1];rw [ap (by omega)]
   have r2:kP true b a e=(0,a,3):=by simp only [kP,aF,ap h2]
   simp only [go_sem,r,r2,ro,Int.reduceBEq]
   exact done [] _ [(1000,ro m b a 3)] (by simp only [go_sem];rfl) (by simp only [go_sem,ro]) rfl ⟨rfl,rfl⟩
  ·have hl:a<b.length:=by omega
   have e1:(b.drop a).take 1=[ac b a]:=by rw [List.drop_eq_getElem_cons hl,bp hl];rfl
   have r:bh true b a e 1=(some [ac b a],a+1,e):=by
    simp only [bh,aF,ah h1];rw [ah (by omega)]
    rw [show (1:Int).toNat=1 from rfl,e1]
   have r2:kP true b a e=(ac b a,a+1,e):=by simp only [kP,aF,ah h2]
   simp only [go_sem,r,r2,ro,aiT,eA,b_,aI1]
   exact done [] _ [(1000,ro m b ((a+1:Nat):Int) e)] (by simp only [go_sem]) (by simp only [go_sem,ro]) rfl ⟨rfl,rfl⟩
theorem ajt (m:Bool) (b:List UInt8) (a e:Int):RM xt [] m b a e (.int .i64 a) a e:=by
 refine bF og ?_
 simp only [og,ro,go_sem]
 exact done [] _ [(1000,ro m b a e)] (by simp only [go_sem]) (by simp only [go_sem,ro]) rfl ⟨rfl,rfl⟩
theorem aP (m:Bool) (b:List UInt8) (a e:Int):RM dF [] m b a e (.int .i64 (if m=true then e else 2)) a e:=by
 refine bF iK ?_
 cases m
 ·simp only [iK,ro,go_sem]
  exact done [] _ [(1000,ro false b a e)] (by simp only [go_sem]) (by simp only [go_sem,ro]) rfl ⟨rfl,rfl⟩
 ·simp only [iK,ro,go_sem]
  exact done [] _ [(1000,ro true b a e)] (by simp only [go_sem]) (by simp only [go_sem,ro]) rfl ⟨rfl,rfl⟩
def Of (ok:Bool) (b:List UInt8) (a:Nat):Int:=if ok=true then (b.length:Int) - a else 0
theorem adD (m:Bool) (b:List UInt8) (a:Nat) (e:Int) (ha:a≤b.length) (hb:b.length<1000000000):RM ug [] m b a e (.int .i64 (Of (m&&e==0) b a)) a e:=by
 refine bF ly ?_
 simp only [ly,ro,go_sem]
 refine dW (r7 m b a e) ⟨by decide,by decide⟩ rfl (by simp) rfl rfl (by rfl) ?_
 have w1:IntKind.i64.wrap ((b.length:Int) - (a:Int))=(b.length:Int) - (a:Int):=wi (by omega) (by omega)
 cases h:(m&&e==0)
 ·simp only [go_sem,ro,Of,iD]
  exact done [] _ [(1000,ro m b a e)] (by simp only [go_sem]) (by simp only [go_sem,ro]) rfl ⟨rfl,rfl⟩
 ·simp only [go_sem,ro,Of,w1]
  exact done [] _ [(1000,ro m b a e)] (by simp only [go_sem]) (by simp only [go_sem,ro]) rfl ⟨rfl,rfl⟩
def Cn (m:Bool) (b:List UInt8) (a:Nat) (e:Int):Int:=if m=true then (if e≠0 then e else if a=b.length then 0 else 5) else 2
theorem pZ (m:Bool) (b:List UInt8) (a:Nat) (e:Int):RM vK [] m b a e (.int .i64 (Cn m b a e)) a e:=by
 refine bF m7 ?_
 simp only [m7,ro,go_sem]
 refine dW (aP m b a e) ⟨by decide,by decide⟩ rfl (by simp) rfl rfl (by rfl) ?_
 cases m
 ·have d:((2:Int) != 0)=true:=rfl
  simp only [go_sem,ro,Cn,iD,d]
  exact done [] _ [(1000,ro false b a e)] (by simp only [go_sem]) (by simp only [go_sem,ro]) rfl ⟨rfl,rfl⟩
 ·by_cases he:e=0
  ·subst he
   have d:((0:Int) != 0)=false:=rfl
   by_cases h2:a=b.length
   ·have d2:((a:Int)==(b.length:Int))=true:=by simp [h2]
    have r:Cn true b a 0=0:=by simp [Cn,h2]
    simp only [go_sem,ro,d,d2,r]
    exact done [] _ [(1000,ro true b a 0)] (by simp only [go_sem]) (by simp only [go_sem,ro]) rfl ⟨rfl,rfl⟩
   ·have d2:((a:Int)==(b.length:Int))=false:=by rw [gy];omega
    have r:Cn true b a 0=5:=by simp [Cn,h2]
    simp only [go_sem,ro,d,d2,r]
    exact done [] _ [(1000,ro true b a 0)] (by simp only [go_sem]) (by simp only [go_sem,ro]) rfl ⟨rfl,rfl⟩
  ·have d:(e != 0)=true:=by simp [he]
   have r:Cn true b a e=e:=by simp [Cn,he]
   simp only [go_sem,ro,d,r]
   exact done [] _ [(1000,ro true b a e)] (by simp only [go_sem]) (by simp only [go_sem,ro]) rfl ⟨rfl,rfl⟩
theorem ML (m:Bool) (bits:Nat) (b:List UInt8) (a:Nat) (e:Int) (hbits:1≤bits∧bits≤64) (ha:a≤b.length) (hb:b.length<1000000000) :
  RM ql [.int .i64 bits] m b a e (.int .u64 (rU (m&&e==0) bits b a e).1) (rU (m&&e==0) bits b a e).2.1 (rU (m&&e==0) bits b a e).2.2:=by
 refine bF i7 ?_
 simp only [i7,ro,go_sem]
 refine dW (r7 m b a e) ⟨by decide,by decide⟩ rfl (by simp) rfl rfl (by rfl) ?_
 cases h:(m&&e==0)
 ·have r:rU false bits b a e=(0,a,e):=by simp [rU]
  simp only [go_sem,ro,r]
  exact done [] _ [(1000,ro m b a e)] (by simp only [go_sem];rfl) (by simp only [go_sem,ro]) rfl ⟨rfl,rfl⟩
 ·obtain ⟨rfl,h2⟩:=Bool.and_eq_true_iff.1 h
  obtain rfl:e=0:=by simpa using h2
  simp only [go_sem,ro]
  have hk:=HP (b.drop a) bits
  simp only [iE] at hk
  refine ⟨⟨by omega,by omega⟩,fY (s_U (b.drop a) bits hbits) (by simp [go_sem]) ?_⟩
  by_cases hq:(dZ (b.drop a) bits).2.2=0
  ·have d:((dZ (b.drop a) bits).2.2 != 0)=false:=by simp [hq]
   have r:rU true bits b a 0=((dZ (b.drop a) bits).1,a+(dZ (b.drop a) bits).2.1,0):=by simp [rU,hq]
   have w1:IntKind.i64.wrap ((a:Int)+((dZ (b.drop a) bits).2.1:Int))=((a+(dZ (b.drop a) bits).2.1:Nat):Int):=by rw [wi (by omega) (by omega)];omega
   rw [r]
   simp only [go_sem,ro,uR,d,w1]
   exact done [] _ [(1000,ro true b ((a+(dZ (b.drop a) bits).2.1:Nat):Int) 0)] (by simp only [go_sem]) (by simp only [go_sem,ro]) rfl ⟨rfl,rfl⟩
  ·have d:((dZ (b.drop a) bits).2.2 != 0)=true:=by simp [hq]
   have r:rU true bits b a 0=(0,a,(dZ (b.drop a) bits).2.2):=by simp [rU,hq]
   rw [r]
   simp only [go_sem,ro,uR,d]
   refine dW (cj b a (dZ (b.drop a) bits).2.2) ⟨by decide,by decide⟩ rfl (by simp [go_sem]) rfl rfl (by rfl) ?_
   simp only [go_sem,ro]
   exact done [] _ [(1000,ro true b a (dZ (b.drop a) bits).2.2)] (by simp only [go_sem];rfl) (by simp only [go_sem,ro]) rfl ⟨rfl,rfl⟩
theorem Ff (m:Bool) (bits:Nat) (b:List UInt8) (a:Nat) (e:Int) (hbits:1≤bits∧bits≤64) (ha:a≤b.length) (hb:b.length<1000000000) :
  RM rR [.int .i64 bits] m b a e (.int .i64 (rS (m&&e==0) bits b a e).1) (rS (m&&e==0) bits b a e).2.1 (rS (m&&e==0) bits b a e).2.2:=by
 refine bF jT ?_
 simp only [jT,ro,go_sem]
 refine dW (r7 m b a e) ⟨by decide,by decide⟩ rfl (by simp) rfl rfl (by rfl) ?_
 cases h:(m&&e==0)
 ·have r:rS false bits b a e=(0,a,e):=by simp [rS]
  simp only [go_sem,ro,r]
  exact done [] _ [(1000,ro m b a e)] (by simp only [go_sem]) (by simp only [go_sem,ro]) rfl ⟨rfl,rfl⟩
 ·obtain ⟨rfl,h2⟩:=Bool.and_eq_true_iff.1 h
  obtain rfl:e=0:=by simpa using h2
  simp only [go_sem,ro]
  have hk:=HO (b.drop a) bits
  simp only [iE] at hk
  refine ⟨⟨by omega,by omega⟩,fY (s_S (b.drop a) bits hbits) (by simp [go_sem]) ?_⟩
  by_cases hq:(eV (b.drop a) bits).2.2=0
  ·have d:((eV (b.drop a) bits).2.2 != 0)=false:=by simp [hq]
   have r:rS true bits b a 0=((eV (b.drop a) bits).1,a+(eV (b.drop a) bits).2.1,0):=by simp [rS,hq]
   have w1:IntKind.i64.wrap ((a:Int)+((eV (b.drop a) bits).2.1:Int))=((a+(eV (b.drop a) bits).2.1:Nat):Int):=by rw [wi (by omega) (by omega)];omega
   rw [r]
   simp only [go_sem,ro,sR,d,w1]
   exact done [] _ [(1000,ro true b ((a+(eV (b.drop a) bits).2.1:Nat):Int) 0)] (by simp only [go_sem]) (by simp only [go_sem,ro]) rfl ⟨rfl,rfl⟩
  ·have d:((eV (b.drop a) bits).2.2 != 0)=true:=by simp [hq]
   have r:rS true bits b a 0=(0,a,(eV (b.drop a) bits).2.2):=by simp [rS,hq]
   rw [r]
   simp only [go_sem,ro,sR,d]
   refine dW (cj b a (eV (b.drop a) bits).2.2) ⟨by decide,by decide⟩ rfl (by simp [go_sem]) rfl rfl (by rfl) ?_
   simp only [go_sem,ro]
   exact done [] _ [(1000,ro true b a (eV (b.drop a) bits).2.2)] (by simp only [go_sem]) (by simp only [go_sem,ro]) rfl ⟨rfl,rfl⟩
theorem fe (m:Bool) (b:List UInt8) (a:Nat) (e:Int) (ha:a≤b.length) (hb:b.length<1000000000) :
  RM ny [] m b a e (.int .i64 (rU (m&&e==0) 32 b a e).1) (rU (m&&e==0) 32 b a e).2.1 (rU (m&&e==0) 32 b a e).2.2:=by
 refine bF ng ?_
 have hl:=E4 (m&&e==0) b a e
 have w1:IntKind.i64.wrap ((rU (m&&e==0) 32 b a e).1:Int)=((rU (m&&e==0) 32 b a e).1:Int):=wi (by omega) (by omega)
 simp only [ng,ro,go_sem]
 refine dW (ML m 32 b a e (by decide) ha hb) ⟨by decide,by decide⟩ rfl (by simp [go_sem]) rfl rfl (by rfl) ?_
 simp only [go_sem,ro,w1]
 exact done [] _ [(1000,ro m b (rU (m&&e==0) 32 b a e).2.1 (rU (m&&e==0) 32 b a e).2.2)] (by simp only [go_sem]) (by simp only [go_sem,ro]) rfl ⟨rfl,rfl⟩
theorem agU (m:Bool) (b:List UInt8) (a:Nat) (e:Int) (ha:a≤b.length) (hb:b.length<1000000000) :
  RM vL [] m b a e (.int .u64 (IntKind.u64.wrap (IntKind.u32.wrap (rS (m&&e==0) 32 b a e).1))) (rS (m&&e==0) 32 b a e).2.1 (rS (m&&e==0) 32 b a e).2.2:=by
 refine bF m8 ?_
 simp only [m8,ro,go_sem]
 refine dW (Ff m 32 b a e (by decide) ha hb) ⟨by decide,by decide⟩ rfl (by simp [go_sem]) rfl rfl (by rfl) ?_
 simp only [go_sem,ro]
 exact done [] _ [(1000,ro m b (rS (m&&e==0) 32 b a e).2.1 (rS (m&&e==0) 32 b a e).2.2)] (by simp only [go_sem]) (by simp only [go_sem,ro]) rfl ⟨rfl,rfl⟩
theorem agV (m:Bool) (b:List UInt8) (a:Nat) (e:Int) (ha:a≤b.length) (hb:b.length<1000000000) :
  RM vM [] m b a e (.int .i64 (rS (m&&e==0) 33 b a e).1) (rS (m&&e==0) 33 b a e).2.1 (rS (m&&e==0) 33 b a e).2.2:=by
 refine bF m9 ?_
 simp only [m9,ro,go_sem]
 refine dW (Ff m 33 b a e (by decide) ha hb) ⟨by decide,by decide⟩ rfl (by simp [go_sem]) rfl rfl (by rfl) ?_
 simp only [go_sem,ro]
 exact done [] _ [(1000,ro m b (rS (m&&e==0) 33 b a e).2.1 (rS (m&&e==0) 33 b a e).2.2)] (by simp only [go_sem]) (by simp only [go_sem,ro]) rfl ⟨rfl,rfl⟩
theorem agW (m:Bool) (b:List UInt8) (a:Nat) (e:Int) (ha:a≤b.length) (hb:b.length<1000000000) :
  RM vN [] m b a e (.int .u64 (IntKind.u64.wrap (rS (m&&e==0) 64 b a e).1)) (rS (m&&e==0) 64 b a e).2.1 (rS (m&&e==0) 64 b a e).2.2:=by
 refine bF m_ ?_
 simp only [m_,ro,go_sem]
 refine dW (Ff m 64 b a e (by decide) ha hb) ⟨by decide,by decide⟩ rfl (by simp [go_sem]) rfl rfl (by rfl) ?_
 simp only [go_sem,ro]
 exact done [] _ [(1000,ro m b (rS (m&&e==0) 64 b a e).2.1 (rS (m&&e==0) 64 b a e).2.2)] (by simp only [go_sem]) (by simp only [go_sem,ro]) rfl ⟨rfl,rfl⟩
theorem I5 (m:Bool) (b:List UInt8) (a:Nat) (e most:Int) (ha:a≤b.length) (hb:b.length<1000000000) :
  RM cJ [.int .i64 most] m b a e (.int .i64 (bS (m&&e==0) b a e most).1) (bS (m&&e==0) b a e most).2.1 (bS (m&&e==0) b a e most).2.2:=by
 refine bF kK ?_
 simp only [kK,ro,go_sem]
 refine dW (r7 m b a e) ⟨by decide,by decide⟩ rfl (by simp) rfl rfl (by rfl) ?_
 cases h:(m&&e==0)
 ·have r:bS false b a e most=(0,a,e):=by simp [bS]
  simp only [go_sem,ro,r]
  exact done [] _ [(1000,ro m b a e)] (by simp only [go_sem];rfl) (by simp only [go_sem,ro]) rfl ⟨rfl,rfl⟩
 ·obtain ⟨rfl,h2⟩:=Bool.and_eq_true_iff.1 h
  obtain rfl:e=0:=by simpa using h2
  simp only [go_sem,ro]
  refine dW (fe true b a 0 ha hb) ⟨by decide,by decide⟩ rfl (by simp [go_sem]) rfl rfl (by rfl) ?_
  rw [h]
  by_cases hq:(rU true 32 b a 0).2.2=0
  ·have d:((rU true 32 b a 0).2.2==0)=true:=by simp [hq]
   by_cases hm:((rU true 32 b a 0).1:Int)>most
   ·have d2:decide (((rU true 32 b a 0).1:Int)>most)=true:=by simpa using hm
    have r:bS true b a 0 most=(0,a,6):=by simp only [bS,aF];rw [ap ⟨hq,hm⟩]
    simp only [go_sem,ro,d,d2,hq]
    refine dW (cj b a 6) ⟨by decide,by decide⟩ rfl (by simp [go_sem]) rfl rfl (by rfl) ?_
    rw [r]
    simp only [go_sem,ro]
    exact done [] _ [(1000,ro true b a 6)] (by simp only [go_sem];rfl) (by simp only [go_sem,ro]) rfl ⟨rfl,rfl⟩
   ·have d2:decide (((rU true 32 b a 0).1:Int)>most)=false:=by simpa using hm
    have r:bS true b a 0 most=rU true 32 b a 0:=by simp only [bS,aF];rw [ah (fun hh=>hm hh.2)]
    rw [r]
    simp only [go_sem,ro,d,d2]
    exact done [] _ [(1000,ro true b (rU true 32 b a 0).2.1 (rU true 32 b a 0).2.2)] (by simp only [go_sem]) (by simp only [go_sem,ro]) rfl ⟨rfl,rfl⟩
  ·have d:((rU true 32 b a 0).2.2==0)=false:=by simp [hq]
   have r:bS true b a 0 most=rU true 32 b a 0:=by simp only [bS,aF];rw [ah (fun hh=>hq hh.1)]
   rw [r]
   simp only [go_sem,ro,d]
   exact done [] _ [(1000,ro true b (rU true 32 b a 0).2.1 (rU true 32 b a 0).2.2)] (by simp only [go_sem]) (by simp only [go_sem,ro]) rfl ⟨rfl,rfl⟩
section
attribute [go_sem] bne_self_eq_false iD
def rx (b:List UInt8) (a e:Int):AV:=.agg [.sl 1 (b.map i5),.int .i64 a,.int .i64 e]
attribute [local go_sem] rx ro
end
section
attribute [local go_sem] rx ro
section
variable (b:List UInt8) (a:Nat) (e:Int) (ha:a≤b.length) (hb:b.length<1000000000)
include ha hb
end
end
theorem kx (b:List UInt8) (hb:b.length<1000000000):aX pg Iu [.sl 1 (b.map i5)] [] sb (fun r' σ'=>r' = .mp 6 4 0 0∧σ'=[(6,ro true b ((0:Nat):Int) 0)]):=by
 refine bF xU ?_
 simp only [xU,go_sem]
 refine ⟨by omega,done [4] _ [(6,ro true b ((0:Nat):Int) 0)] (by simp only [go_sem]) ?_ rfl ⟨rfl,rfl⟩⟩
 simp only [go_sem,ro,bt,di]
 rw [fL (by simp)]
 rfl
theorem qH {d:Option Nat} {s:St} {K:St→Prop} (k j:Nat) (hk:k<1000) (hj:j<1000∨2000<j) (hkj:k≠j) (hfk:ae s.heap k=none) (hfj:ae s.heap j=none)
  (hK:K ((St.mk (dO [k,j] s.env) ((k,wo j true [] 0) :: (j,wa []) :: dP [k,j] s.heap)).put d (.mp k 3 0 0))):cT pg BK [] d s K:=by
 have e0:fw [(2,k),(2000,j)] 2=k:=by
  simp only [fw];unfold jk
  have q:¬k=2000:=by omega
  simp [q,hkj]
 have e1:fw [(2,k),(2000,j)] 2000=j:=by
  simp only [fw];unfold jk
  have q:¬(2000=k):=by omega
  simp [q]
 refine ew (σ2:=[]) (r3:=.mp k 3 0 0) (σ3:=[(k,wo j true [] 0),(j,wa [])]) adQ [(2,k),(2000,j)] [k,j] rfl rfl ?_ ?_ (fun p hp=>by cases hp) (fun p hp=>?_) (fun p hp=>by cases hp) hK
 ·simp only [n9,xF,qS,r5,e0]
 ·simp only [je,iY,wo,wa,aF,ej,List.map_nil,qS,r5,e0,e1,iD,bc];rfl
 ·simp only [dc,List.not_mem_nil,or_false] at hp
  rcases hp with rfl | rfl
  ·exact .inr ⟨by simp,.inl hk,.inr hfk⟩
  ·exact .inr ⟨by simp,by rcases hj with h | h<;>omega,.inr hfj⟩
theorem fP:∀l:List UInt8,mL (l.map i5)=some l
 | []=>rfl
 | b :: l=>by
  simp only [ej,i5,mL,fP l,ii,ce,UInt8.ofNat_toNat]
section
def sL (b:List UInt8) (a:Nat) (t:Option (List UInt8)×Nat×Int):List UInt8×Nat×Int :=
 if t.2.2≠0 then ([],a,t.2.2) else if uv (t.1.getD [])=false then ([],a,9) else (t.1.getD [],t.2.1,0)
def cO (ok:Bool) (b:List UInt8) (a:Nat) (e:Int):List UInt8×Nat×Int :=
 if ok=true then sL b a (bh ((bS true b a 0 64).2.2==0) b (bS true b a 0 64).2.1 (bS true b a 0 64).2.2 (bS true b a 0 64).1) else ([],a,e)
theorem o9 {ok:Bool} {b:List UInt8} {a:Nat} {e most:Int} (h:a≤b.length):(bS ok b a e most).2.1≤b.length:=by
 unfold bS
 split
 ·split
  ·exact h
  ·exact P8 h
 ·exact h
theorem P7 (ok:Bool) (b:List UInt8) (a:Nat) (e most:Int):(bS ok b a e most).1<4294967296:=by
 unfold bS
 split
 ·split
  ·exact (by decide:(0:Nat)<4294967296)
  ·exact E4 _ _ _ _
 ·exact (by decide:(0:Nat)<4294967296)
theorem KV (b:List UInt8) (a:Nat) (e n:Int) (ha:a≤b.length):(∃x,x≠0∧bh (e==0) b a e n=(none,a,x))∨e=0∧∃l,l.length≤b.length∧bh (e==0) b a e n=(some l,a+n.toNat,0)∧l=(b.drop a).take n.toNat:=by
 by_cases h:e=0
 ·subst h
  by_cases h1:n<0
  ·exact .inl ⟨1,by decide,by simp [bh,h1]⟩
  ·by_cases h2:n>(b.length:Int) - a
   ·exact .inl ⟨3,by decide,by simp [bh,h1,h2]⟩
   ·exact .inr ⟨rfl,(b.drop a).take n.toNat,by simp;omega,by simp only [bh,beq_self_eq_true,aF,ah h1,ah h2],rfl⟩
 ·exact .inl ⟨e,h,by simp [bh,h]⟩
attribute [local go_sem] rx ro
theorem U0 (m:Bool) (b:List UInt8) (a:Nat) (e:Int) (ha:a≤b.length) (hb:b.length<1000000000) :
  RM lX [] m b a e (.str (cO (m&&e==0) b a e).1) (cO (m&&e==0) b a e).2.1 (cO (m&&e==0) b a e).2.2:=by
 refine bF lz ?_
 simp only [go_sem,lz]
 refine ab (r7 m b a e) ?_
 cases h:(m&&e==0)
 ·have r:cO false b a e=([],a,e):=by simp [cO]
  rw [r]
  simp only [go_sem]
  exact Nj (fun _ h=>by cases h) (by simp only [go_sem]) (by rfl) (by first | rfl | simp [go_sem,bX,Ng])
 ·obtain ⟨rfl,h2⟩:=Bool.and_eq_true_iff.1 h
  obtain rfl:e=0:=by simpa using h2
  simp only [go_sem]
  refine ab (I5 true b a 0 64 ha hb) ?_
  have hl:=P7 true b a 0 64
  have ha2:=o9 (ok:=true) (e:=0) (most:=64) ha
  have r:cO true b a 0=sL b a (bh ((bS true b a 0 64).2.2==0) b (bS true b a 0 64).2.1 (bS true b a 0 64).2.2 (bS true b a 0 64).1):=by simp [cO]
  rw [h,r]
  generalize hc:bS true b a 0 64=c at *
  obtain ⟨n,a1,e1⟩:=c
  simp only [go_sem]
  refine ab (uF true b a1 e1 n ha2 hb (by omega)) ?_
  rw [bU]
  rcases KV b a1 e1 (n:Int) ha2 with ⟨x,hx,ht⟩ | ⟨rfl,l,hl2,ht,_⟩
  ·have r2:sL b a (none,a1,x)=([],a,x):=by simp [sL,hx]
   rw [ht,r2]
   simp only [go_sem,mL,ii,ay hx,bv hx]
   exact Nj (fun _ h=>by cases h) (by simp only [go_sem]) (by rfl) (by first | rfl | simp [go_sem,bX,Ng])
  ·have b1:=fP l
   rw [ce] at ht
   rw [ht]
   simp only [go_sem,b1,ii]
   refine ax (U5 l (by omega)) ?_
   cases hv:uv l
   ·have r2:sL b a (some l,a1+n,0)=([],a,9):=by simp [sL,hv]
    rw [r2]
    simp only [go_sem]
    refine aA (cj b ((a1+n:Nat):Int) 9) ?_
    exact Nj (fun _ h=>by cases h) (by simp only [go_sem]) (by rfl) (by first | rfl | simp [go_sem,bX,Ng])
   ·have r2:sL b a (some l,a1+n,0)=(l,a1+n,0):=by simp [sL,hv]
    rw [r2]
    simp only [go_sem]
    exact Nj (fun _ h=>by cases h) (by simp only [go_sem]) (by rfl) (by first | rfl | simp [go_sem,bX,Ng])
theorem adH (b:List UInt8) (a:Nat) (e n:Int) (ha:a≤b.length) (hb:b.length<1000000000) (hn:-9223372036854775808≤n∧n<9223372036854775808) :
  aX pg vO [.mp 1000 4 0 0,.int .i64 n] [(1000,ro true b a e)] sb (fun r' σ'=>r' = .mp 24 4 0 0∧σ'=[(1000,ro true b (bh (e==0) b a e n).2.1 (bh (e==0) b a e n).2.2),(24,ro true ((bh (e==0) b a e n).1.getD []) ((0:Nat):Int) (bh (e==0) b a e n).2.2)]):=by
 refine bF na ?_
 simp only [go_sem,na]
 refine ab (uF true b a e n ha hb hn) ?_
 rw [bU]
 cases hl:(bh (e==0) b a e n).1 with
 | none =>
  simp only [go_sem]
  refine bP (Wk.nlh _ 24 (t:=287) (st:=4) (r:=[.bool true,.nl,.int .i64 0,.int .i64 (bh (e==0) b a e n).2.2]) (r':=[.bool true,.sl 1 [],.int .i64 0,.int .i64 (bh (e==0) b a e n).2.2]) (by simp only [go_sem]) ⟨.inl rfl,.inr ⟨rfl,1,rfl⟩,.inl rfl,.inl rfl,trivial⟩) [] (.mp 24 4 0 0) [(1000,ro true b (bh (e==0) b a e n).2.1 (bh (e==0) b a e n).2.2),(24,ro true [] ((0:Nat):Int) (bh (e==0) b a e n).2.2)] (by simp only [go_sem]) (by simp only [go_sem];rfl) rfl ⟨rfl,rfl⟩
 | some l =>
  simp only [go_sem]
  exact done [] _ [(1000,ro true b (bh (e==0) b a e n).2.1 (bh (e==0) b a e n).2.2),(24,ro true l ((0:Nat):Int) (bh (e==0) b a e n).2.2)] (by simp only [go_sem]) (by simp only [go_sem];rfl) rfl ⟨rfl,rfl⟩
end
end Go.Proofs.YtdfofedlbljnhaaGreatDoor