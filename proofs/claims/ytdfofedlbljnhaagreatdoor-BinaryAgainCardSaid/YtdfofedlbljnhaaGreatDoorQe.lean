import Derived.Test.YtdfofedlbljnhaaGreatDoorQd
set_option linter.all false
set_option maxRecDepth 100000
set_option maxHeartbeats 8000000
namespace Go.Proofs.YtdfofedlbljnhaaGreatDoor
open Go Go.Mw
theorem ahY {x:Nat} (hx:x<256):bO .u8 (x:Int) 7=((x % 8:Nat):Int):=by
 have:(BitVec.ofInt 8 (x:Int) &&& BitVec.ofInt 8 ((7:Nat):Int)).toNat=x &&& 7:=xX hx (by decide)
 show IntKind.u8.wrap ((BitVec.ofInt 8 (x:Int) &&& BitVec.ofInt 8 ((7:Nat):Int)).toNat)=_
 rw [this,show (7:Nat)=2 ^ 3 - 1 from rfl,Nat.and_two_pow_sub_one_eq_mod,Fv]
 omega
theorem ajo {l:List UInt8} (z:Lib.firstT (ac l 0).toNat % 8=2):v7 l=if 2≤l.length∧Lib.accLo (Lib.firstT (ac l 0).toNat / 16)≤(ac l 1).toNat∧(ac l 1).toNat≤Lib.accHi (Lib.firstT (ac l 0).toNat / 16) then some 2 else none:=by
 unfold v7
 simp only
 rw [ap z]
theorem ajp {l:List UInt8} (z:Lib.firstT (ac l 0).toNat % 8=3):v7 l=if 3≤l.length∧Lib.accLo (Lib.firstT (ac l 0).toNat / 16)≤(ac l 1).toNat∧(ac l 1).toNat≤Lib.accHi (Lib.firstT (ac l 0).toNat / 16)∧128≤(ac l 2).toNat∧(ac l 2).toNat≤191 then some 3 else none:=by
 unfold v7
 simp only
 rw [ah (by omega),ap z]
theorem ajq {l:List UInt8} (z:Lib.firstT (ac l 0).toNat % 8=4):v7 l=if 4≤l.length∧Lib.accLo (Lib.firstT (ac l 0).toNat / 16)≤(ac l 1).toNat∧(ac l 1).toNat≤Lib.accHi (Lib.firstT (ac l 0).toNat / 16)∧128≤(ac l 2).toNat∧(ac l 2).toNat≤191∧128≤(ac l 3).toNat∧(ac l 3).toNat≤191 then some 4 else none:=by
 unfold v7
 simp only
 rw [ah (by omega),ah (by omega),ap z]
theorem ajr {l:List UInt8} (z2:¬Lib.firstT (ac l 0).toNat % 8=2) (z3:¬Lib.firstT (ac l 0).toNat % 8=3) (z4:¬Lib.firstT (ac l 0).toNat % 8=4):v7 l=none:=by
 unfold v7
 simp only
 rw [ah z2,ah z3,ah z4]
theorem R7 (b:Nat):Lib.firstT b<256:=by
 rcases Lib.firstT_cases b with h | h | h | h | h | h | h | h | h<;>rw [h]<;>decide
theorem Tg {x:Nat} (hx:x<256):vp none (Jg.drop (x * 1))=some (.int .u8 (Lib.firstT x)):=by
 have:(Jg.drop x)[0]? = some (.int .u8 (Lib.firstT x)):=by
  rw [List.getElem?_drop,Nat.add_zero,Jg,jy,List.getElem?_range hx];rfl
 rw [Nat.mul_one]
 simp only [vp]
 exact this
theorem acp {i:Nat} (hi:i<16):vp (some 2) (xI.drop (i * 2))=some (.agg [.int .u8 (Lib.accLo i),.int .u8 (Lib.accHi i)]):=by
 have hl:xI.length=32:=by simp [xI]
 have e0:xI[i * 2]? = some (.int .u8 (Lib.accLo i)):=by
  rw [xI,jy,List.getElem?_range (by omega)]
  simp only [ii]
  rw [ap (by omega),show i * 2 / 2=i by omega]
 have e1:xI[i * 2+1]? = some (.int .u8 (Lib.accHi i)):=by
  rw [xI,jy,List.getElem?_range (by omega)]
  simp only [ii]
  rw [ah (by omega),show (i * 2+1) / 2=i by omega]
 have h0:i * 2<xI.length:=by omega
 have h1:i * 2+1<xI.length:=by omega
 simp only [vp]
 rw [ap (by simp [hl];omega),List.drop_eq_getElem_cons h0,List.drop_eq_getElem_cons h1]
 rw [lg h0] at e0
 rw [lg h1] at e1
 simp only [List.take_succ_cons,oa,Option.some.inj e0,Option.some.inj e1]
theorem U5 (s:List UInt8) (hs:s.length<1000000000):ao pg nX1 [.str s] (.bool (uv s)):=by
 refine KP (ic:=FX1.body) [(1000000,.ip Jg),(1000001,.ip xI)] (fun p hp=>hp) ue (cF FX1) rfl rfl ?_
 simp only [FX1,go_sem]
 refine aw (fun q:List UInt8=>⟨[(0,.str q),(1000000,.ip Jg),(1000001,.ip xI)],[]⟩) (fun q=>uv q=uv s∧q.length≤s.length) (fun q=>q.length) s ⟨rfl,bt _⟩ (Wk.of ?_ ?_) ?_
 ·simp only [go_sem]
 ·simp only [go_sem]
 rintro q ⟨hq,hl⟩
 replace hq:uv q=uv s:=hq
 replace hl:q.length≤s.length:=hl
 have fin:∀(s1:St) (q':List UInt8),get s1.env 0 = .str q'→get s1.env 1000000 = .ip Jg→get s1.env 1000001 = .ip xI→uv q'=uv s→q'.length<q.length→∀K,
   klp (fun q:List UInt8=>⟨[(0,.str q),(1000000,.ip Jg),(1000001,.ip xI)],[]⟩) (fun q=>uv q=uv s∧q.length≤s.length) (fun q=>q.length) q K .nrm s1:=fun s1 q' h0 h1 h2 h3 h4 K =>
  aG q' ⟨h3,by omega⟩ h4 (Wk.of ⟨h0,h1,h2,trivial⟩ trivial)
 by_cases h0:q.length=0
 ·have d0:decide ((q.length:Int)>0)=false:=aQ (by omega)
  have:q=[]:=sc h0
  subst this
  rw [← hq,aej]
  simp only [go_sem,d0,b_,Int.natCast_zero,gt_iff_lt,Int.lt_irrefl,decide_false]
  exact aJ [] (by simp only [go_sem]) rfl
 have d0:decide ((q.length:Int)>0)=true:=by simp;omega
 have hx:(ac q 0).toNat<256:=(ac q 0).toNat_lt
 by_cases ha:(ac q 0).toNat<128
 ·have da:decide (((ac q 0).toNat:Int)<128)=true:=by simp;omega
  have hq1:uv (q.drop 1)=uv s:=by rw [← Vw (by omega) ha];exact hq
  have l1:(q.drop 1).length=q.length - 1:=by simp
  by_cases h8:(q.drop 1).length>8
  ·have d8:decide (((q.drop 1).length:Int)>8)=true:=by simp only [fo];omega
   simp only [go_sem,d0,da,d8]
   refine ⟨by omega,by omega,⟨by omega,by omega⟩,fY (iC (q.drop 1) (by omega)) (by simp [go_sem]) ?_⟩
   have a1:=Lz (xM (q.drop 1))
   by_cases t1:qo (q.drop 1) &&& 9259542123273814144=0
   ·have b1:(((qo (q.drop 1) &&& 9259542123273814144:Nat):Int)==0)=true:=by rw [t1];rfl
    have hq2:uv ((q.drop 1).drop 8)=uv s:=by rw [← r_ (by omega) t1];exact hq1
    have l2:((q.drop 1).drop 8).length=q.length - 9:=by simp<;>omega
    generalize hq2e:(q.drop 1).drop 8=q2 at *
    by_cases h16:q2.length>16
    ·have d16:decide ((q2.length:Int)>16)=true:=aO (by omega)
     simp only [go_sem,a1,b1,hq2e,d16]
     refine ⟨⟨by omega,by omega⟩,?_⟩
     first | refine ax (iC q2 (by omega)) ?_ | refine fG (iC q2 (by omega)) (by simp [go_sem]) rfl ?_
     simp only [go_sem]
     refine ⟨⟨by omega,by omega⟩,?_⟩
     first | refine ax (iC (q2.drop 8) (by simp;omega)) ?_ | refine fG (iC (q2.drop 8) (by simp;omega)) (by simp [go_sem]) rfl ?_
     have o1:=Yz (xM q2) (xM (q2.drop 8))
     have a2:=Lz o1.2
     by_cases t2:(qo q2 ||| qo (q2.drop 8)) &&& 9259542123273814144=0
     ·have b2:((((qo q2 ||| qo (q2.drop 8)) &&& 9259542123273814144:Nat):Int)==0)=true:=by rw [t2];rfl
      have hq3:uv (q2.drop 16)=uv s:=by
       have:=pX t2
       rw [show q2.drop 16=(q2.drop 8).drop 8 by rw [List.drop_drop],← r_ (by simp;omega) this.2,← r_ (by omega) this.1]
       exact hq2
      have l3:(q2.drop 16).length=q2.length - 16:=by simp
      simp only [go_sem,o1.1,a2,b2]
      refine ⟨⟨by omega,by omega⟩,?_⟩
      refine aw (fun r:List UInt8=>⟨[(0,.str r),(1000000,.ip Jg),(1000001,.ip xI)],[]⟩) (fun r=>uv r=uv s∧r.length<q.length) (fun r=>r.length) (q2.drop 16) ⟨hq3,by omega⟩ (Wk.of ?_ ?_) ?_
      ·simp only [go_sem]
      ·simp only [go_sem]
      rintro r ⟨hr,hrl⟩
      replace hr:uv r=uv s:=hr
      replace hrl:r.length<q.length:=hrl
      by_cases h32:r.length>32
      ·have d32:decide ((r.length:Int)>32)=true:=aO (by omega)
       simp only [go_sem,d32]
       first | refine ax (iC r (by omega)) ?_ | refine fG (iC r (by omega)) (by simp [go_sem]) rfl ?_
       simp only [go_sem]
       refine ⟨⟨by omega,by omega⟩,?_⟩
       first | refine ax (iC (r.drop 8) (by simp;omega)) ?_ | refine fG (iC (r.drop 8) (by simp;omega)) (by simp [go_sem]) rfl ?_
       simp only [go_sem]
       refine ⟨⟨by omega,by omega⟩,?_⟩
       first | refine ax (iC (r.drop 16) (by simp;omega)) ?_ | refine fG (iC (r.drop 16) (by simp;omega)) (by simp [go_sem]) rfl ?_
       simp only [go_sem]
       refine ⟨⟨by omega,by omega⟩,?_⟩
       first | refine ax (iC (r.drop 24) (by simp;omega)) ?_ | refine fG (iC (r.drop 24) (by simp;omega)) (by simp [go_sem]) rfl ?_
       have o2:=Yz (xM r) (xM (r.drop 8))
       have o3:=Yz (xM (r.drop 16)) (xM (r.drop 24))
       have o4:=Yz o2.2 o3.2
       have a3:=Lz o4.2
       by_cases t3:((qo r ||| qo (r.drop 8)) ||| (qo (r.drop 16) ||| qo (r.drop 24))) &&& 9259542123273814144=0
       ·have b3:(((((qo r ||| qo (r.drop 8)) ||| (qo (r.drop 16) ||| qo (r.drop 24))) &&& 9259542123273814144:Nat):Int)==0)=true:=by rw [t3];rfl
        have hr4:uv (r.drop 32)=uv s:=by
         have g1:=pX t3
         have g2:=pX g1.1
         have g3:=pX g1.2
         rw [show r.drop 32=(r.drop 24).drop 8 by rw [List.drop_drop],← r_ (by simp;omega) g3.2,show r.drop 24=(r.drop 16).drop 8 by rw [List.drop_drop],← r_ (by simp;omega) g3.1,
          show r.drop 16=(r.drop 8).drop 8 by rw [List.drop_drop],← r_ (by simp;omega) g2.2,← r_ (by omega) g2.1]
         exact hr
        simp only [go_sem,o2.1,o3.1,o4.1,a3,b3]
        exact ⟨⟨by omega,by omega⟩,aG (r.drop 32) ⟨hr4,by simp;omega⟩ (show (r.drop 32).length<r.length by simp;omega) (Wk.of (by simp only [go_sem]) (by simp only [go_sem]))⟩
       ·have b3:(((((qo r ||| qo (r.drop 8)) ||| (qo (r.drop 16) ||| qo (r.drop 24))) &&& 9259542123273814144:Nat):Int)==0)=false:=by rw [gy];omega
        simp only [go_sem,o2.1,o3.1,o4.1,a3,b3]
        exact fin _ r (by simp only [go_sem]) (by simp only [go_sem]) (by simp only [go_sem]) hr hrl _
      ·have d32:decide ((r.length:Int)>32)=false:=aQ (by omega)
       simp only [go_sem,d32]
       exact fin _ r (by simp only [go_sem]) (by simp only [go_sem]) (by simp only [go_sem]) hr hrl _
     ·have b2:((((qo q2 ||| qo (q2.drop 8)) &&& 9259542123273814144:Nat):Int)==0)=false:=by rw [gy];omega
      simp only [go_sem,o1.1,a2,b2]
      exact fin _ q2 (by simp only [go_sem]) (by simp only [go_sem]) (by simp only [go_sem]) hq2 (by omega) _
    ·have d16:decide ((q2.length:Int)>16)=false:=aQ (by omega)
     simp only [go_sem,a1,b1,hq2e,d16]
     exact ⟨⟨by omega,by omega⟩,fin _ q2 (by simp only [go_sem]) (by simp only [go_sem]) (by simp only [go_sem]) hq2 (by omega) _⟩
   ·have b1:(((qo (q.drop 1) &&& 9259542123273814144:Nat):Int)==0)=false:=by rw [gy];omega
    simp only [go_sem,a1,b1]
    exact fin _ (q.drop 1) (by simp only [go_sem]) (by simp only [go_sem]) (by simp only [go_sem]) hq1 (by omega) _
  ·have d8:decide (((q.drop 1).length:Int)>8)=false:=by simp only [decide_eq_false_iff_not];omega
   simp only [go_sem,d0,da,d8]
   exact ⟨by omega,by omega,⟨by omega,by omega⟩,fin _ (q.drop 1) (by simp only [go_sem]) (by simp only [go_sem]) (by simp only [go_sem]) hq1 (by omega) _⟩
 ·have da:decide (((ac q 0).toNat:Int)<128)=false:=by simp;omega
  have hf:=R7 (ac q 0).toNat
  have e1:=Tg hx
  have e2:=ahY hf
  have e3:IntKind.i64.wrap ((Lib.firstT (ac q 0).toNat % 8:Nat):Int)=((Lib.firstT (ac q 0).toNat % 8:Nat):Int):=wi (by omega) (by omega)
  have e4:BB .u8 (Lib.firstT (ac q 0).toNat:Int) 4=((Lib.firstT (ac q 0).toNat / 16:Nat):Int):=yY .u8 (x:=Lib.firstT (ac q 0).toNat) (s:=4) (by decide)
  have e5:=acp (i:=Lib.firstT (ac q 0).toNat / 16) (by omega)
  have bad:v7 q=none→∀s1:St,get s1.env 2 = .bool false→Bz [.tmp 2] (.bool (uv s)) .ret s1:=fun hr s1 hg=>by
   rw [← hq,aei (by omega) ha hr]
   exact aJ [] (by simp only [sS,If,Ka,frzs,hg,G_,↓reduceIte]) rfl
  have good:∀k,v7 q=some k→uv (q.drop k)=uv s∧(q.drop k).length<q.length:=fun k hk=>by
   have:=Fc hk
   exact ⟨by rw [← aek (by omega) ha hk];exact hq,by simp;omega⟩
  by_cases z2:Lib.firstT (ac q 0).toNat % 8=2
  ·have b2:(((Lib.firstT (ac q 0).toNat % 8:Nat):Int)==2)=true:=by rw [z2];rfl
   have r2:=ajo z2
   simp (config:={ maxSteps:=1000000 }) only [go_sem,d0,da,e1,e2,e3,e4,e5,b2]
   exact ⟨by omega,by omega,⟨by omega,by omega⟩,by decide,⟨by omega,by omega⟩,fun h1=>bad (by rw [r2,ah (by omega)]) _ (by simp only [go_sem]),fun h1=>⟨by omega,by omega,fun h2=>bad (by rw [r2,ah (by omega)]) _ (by simp only [go_sem]),fun h2=>⟨by omega,by omega,fun h3=>bad (by rw [r2,ah (by omega)]) _ (by simp only [go_sem]),fun h3=>⟨⟨by omega,by omega⟩,fin _ (q.drop 2) (by simp only [go_sem]) (by simp only [go_sem]) (by simp only [go_sem]) (good 2 (by rw [r2,ap (by omega)])).1 (good 2 (by rw [r2,ap (by omega)])).2 _⟩⟩⟩⟩
  have n2:(((Lib.firstT (ac q 0).toNat % 8:Nat):Int)==2)=false:=by rw [gy];omega
  by_cases z3:Lib.firstT (ac q 0).toNat % 8=3
  ·have b3:(((Lib.firstT (ac q 0).toNat % 8:Nat):Int)==3)=true:=by rw [z3];rfl
   have r3:=ajp z3
   simp (config:={ maxSteps:=1000000 }) only [go_sem,d0,da,e1,e2,e3,e4,e5,b3,n2]
   exact ⟨by omega,by omega,⟨by omega,by omega⟩,by decide,⟨by omega,by omega⟩,fun h1=>bad (by rw [r3,ah (by omega)]) _ (by simp only [go_sem]),fun h1=>⟨by omega,by omega,fun h2=>bad (by rw [r3,ah (by omega)]) _ (by simp only [go_sem]),fun h2=>⟨by omega,by omega,fun h3=>bad (by rw [r3,ah (by omega)]) _ (by simp only [go_sem]),fun h3=>⟨by omega,by omega,fun h4=>bad (by rw [r3,ah (by omega)]) _ (by simp only [go_sem]),fun h4=>⟨by omega,by omega,fun h5=>bad (by rw [r3,ah (by omega)]) _ (by simp only [go_sem]),fun h5=>⟨⟨by omega,by omega⟩,fin _ (q.drop 3) (by simp only [go_sem]) (by simp only [go_sem]) (by simp only [go_sem]) (good 3 (by rw [r3,ap (by omega)])).1 (good 3 (by rw [r3,ap (by omega)])).2 _⟩⟩⟩⟩⟩⟩
  have n3:(((Lib.firstT (ac q 0).toNat % 8:Nat):Int)==3)=false:=by rw [gy];omega
  by_cases z4:Lib.firstT (ac q 0).toNat % 8=4
  ·have b4:(((Lib.firstT (ac q 0).toNat % 8:Nat):Int)==4)=true:=by rw [z4];rfl
   have r4:=ajq z4
   simp (config:={ maxSteps:=1000000 }) only [go_sem,d0,da,e1,e2,e3,e4,e5,b4,n2,n3]
   exact ⟨by omega,by omega,⟨by omega,by omega⟩,by decide,⟨by omega,by omega⟩,fun h1=>bad (by rw [r4,ah (by omega)]) _ (by simp only [go_sem]),fun h1=>⟨by omega,by omega,fun h2=>bad (by rw [r4,ah (by omega)]) _ (by simp only [go_sem]),fun h2=>⟨by omega,by omega,fun h3=>bad (by rw [r4,ah (by omega)]) _ (by simp only [go_sem]),fun h3=>⟨by omega,by omega,fun h4=>bad (by rw [r4,ah (by omega)]) _ (by simp only [go_sem]),fun h4=>⟨by omega,by omega,fun h5=>bad (by rw [r4,ah (by omega)]) _ (by simp only [go_sem]),fun h5=>⟨by omega,by omega,fun h6=>bad (by rw [r4,ah (by omega)]) _ (by simp only [go_sem]),fun h6=>⟨by omega,by omega,fun h7=>bad (by rw [r4,ah (by omega)]) _ (by simp only [go_sem]),fun h7=>⟨⟨by omega,by omega⟩,fin _ (q.drop 4) (by simp only [go_sem]) (by simp only [go_sem]) (by simp only [go_sem]) (good 4 (by rw [r4,ap (by omega)])).1 (good 4 (by rw [r4,ap (by omega)])).2 _⟩⟩⟩⟩⟩⟩⟩⟩
  have n4:(((Lib.firstT (ac q 0).toNat % 8:Nat):Int)==4)=false:=by rw [gy];omega
  simp only [go_sem,d0,da,e1,e2,e3,e4,e5,n2,n3,n4]
  exact ⟨by omega,by omega,⟨by omega,by omega⟩,by decide,⟨by omega,by omega⟩,bad (ajr z2 z3 z4) _ (by simp only [go_sem])⟩
def MQ:Option (List UInt8)→AV
 | none=>.nl
 | some l=>.sl 1 (l.map i5)
theorem bX (o:Option (List UInt8)):aH (MQ o)=[]:=by cases o<;>rfl
theorem Vb:MQ none = .nl:=rfl
theorem Vc (l:List UInt8):MQ (some l) = .sl 1 (l.map i5):=rfl
attribute [go_sem] Vb Vc
def bh (ok:Bool) (b:List UInt8) (a:Nat) (e n:Int):Option (List UInt8)×Nat×Int :=
 if ok=true then (if n<0 then (none,a,1) else if n>(b.length:Int) - a then (none,a,3) else (some ((b.drop a).take n.toNat),a+n.toNat,e)) else (none,a,e)
def kP (ok:Bool) (b:List UInt8) (a:Nat) (e:Int):UInt8×Nat×Int :=
 if ok=true then (if (b.length:Int) - a<1 then (0,a,3) else (ac b a,a+1,e)) else (0,a,e)
def rU (ok:Bool) (bits:Nat) (b:List UInt8) (a:Nat) (e:Int):Nat×Nat×Int :=
 if ok=true then (if (dZ (b.drop a) bits).2.2≠0 then (0,a,(dZ (b.drop a) bits).2.2) else ((dZ (b.drop a) bits).1,a+(dZ (b.drop a) bits).2.1,e)) else (0,a,e)
def rS (ok:Bool) (bits:Nat) (b:List UInt8) (a:Nat) (e:Int):Int×Nat×Int :=
 if ok=true then (if (eV (b.drop a) bits).2.2≠0 then (0,a,(eV (b.drop a) bits).2.2) else ((eV (b.drop a) bits).1,a+(eV (b.drop a) bits).2.1,e)) else (0,a,e)
def bS (ok:Bool) (b:List UInt8) (a:Nat) (e most:Int):Nat×Nat×Int :=
 if ok=true then (if (rU true 32 b a e).2.2=0∧((rU true 32 b a e).1:Int)>most then (0,a,6) else rU true 32 b a e) else (0,a,e)
theorem Dq (b:List UInt8) (bits:Nat) (h:1≤bits∧bits≤64):(dZ b bits).1<2 ^ bits:=by
 have hp:=Nat.two_pow_pos bits
 unfold dZ
 split
 ·exact hp
 split
 ·exact hp
 rename_i h1 h2
 rcases iu b bits with ⟨g1,g2,g3,g4⟩ | ⟨g1,g2⟩
 ·refine Nat.lt_of_le_of_lt (Nat.mod_le _ _) ?_
  by_cases hq:bZ b bits+1=mst bits
  ·rw [Aw g2]
   have hv:=kz (b:=b) (i:=bZ b bits) (Nat.le_of_lt g2)
   have h3:(ac b (bZ b bits)).toNat / 2 ^ (bits - 7 * bZ b bits)=0:=by
    have:=Classical.not_not.1 h2
    rw [vi,ap hq] at this
    exact this
   have h4:(ac b (bZ b bits)).toNat<2 ^ (bits - 7 * bZ b bits):=by
    rcases Nat.div_eq_zero_iff.1 h3 with h | h
    ·exact absurd h (Nat.pos_iff_ne_zero.1 (Nat.two_pow_pos _))
    ·exact h
   have h5:7 * bZ b bits≤bits:=by unfold mst at hq;omega
   have e:2 ^ bits=2 ^ (bits - 7 * bZ b bits) * 2 ^ (7 * bZ b bits):=by rw [← Nat.pow_add,Nat.sub_add_cancel h5]
   rw [e]
   have h6:(ac b (bZ b bits)).toNat % 128+1≤2 ^ (bits - 7 * bZ b bits):=Nat.lt_of_le_of_lt (Nat.mod_le _ _) h4
   have h7:=m6 (2 ^ (7 * bZ b bits)) h6
   rw [kJ,Nat.one_mul] at h7
   omega
  ·have hv:=kz (b:=b) (i:=bZ b bits+1) (by omega)
   have h5:7 * (bZ b bits+1)≤bits:=by unfold mst at *;omega
   exact Nat.lt_of_lt_of_le hv (Nat.pow_le_pow_right (by decide) h5)
 ·rcases g1 with g1 | g1<;>rw [g1] at h1<;>exact absurd (by decide) h1
theorem HP (b:List UInt8) (bits:Nat):(dZ b bits).2.1≤b.length:=by
 unfold dZ
 split
 ·exact cX _
 split
 ·exact cX _
 rename_i h1 h2
 rcases iu b bits with ⟨g1,g2,g3,g4⟩ | ⟨g1,g2⟩
 ·exact g2
 ·rcases g1 with g1 | g1<;>rw [g1] at h1<;>exact absurd (by decide) h1
theorem HO (b:List UInt8) (bits:Nat):(eV b bits).2.1≤b.length:=by
 unfold eV
 split
 ·exact cX _
 split
 ·exact cX _
 rename_i h1 h2
 rcases iu b bits with ⟨g1,g2,g3,g4⟩ | ⟨g1,g2⟩
 ·exact g2
 ·rcases g1 with g1 | g1<;>rw [g1] at h1<;>exact absurd (by decide) h1
theorem I0 {ok:Bool} {b:List UInt8} {a:Nat} {e n:Int} (h:a≤b.length):(bh ok b a e n).2.1≤b.length:=by
 unfold bh
 repeat' split
 all_goals first | exact h | (simp only;omega)
theorem P8 {ok:Bool} {bits:Nat} {b:List UInt8} {a:Nat} {e:Int} (h:a≤b.length):(rU ok bits b a e).2.1≤b.length:=by
 have:=HP (b.drop a) bits
 simp only [iE] at this
 unfold rU
 repeat' split
 all_goals first | exact h | (simp only;omega)
theorem E4 (ok:Bool) (b:List UInt8) (a:Nat) (e:Int):(rU ok 32 b a e).1<4294967296:=by
 have:=Dq (b.drop a) 32 (by decide)
 unfold rU
 repeat' split
 all_goals first | exact this | exact (by decide:(0:Nat)<4294967296)
def wo (q:Nat) (m:Bool) (l:List UInt8) (e:Int):ak:=⟨165,3,[[.bool m,.ms q 1 0 l.length,.int .i64 e]],true⟩
def wa (l:List UInt8):ak:=⟨5,1,l.map i5,false⟩
def WM (f:FuncId) (rest:List AV) (m:Bool) (l:List UInt8) (e:Int) (r:AV) (l':List UInt8) (e':Int):Prop :=
 aX pg f (.mp 1000 3 0 0 :: rest) [(1000,wo 2000 m l e),(2000,wa l)] sb (fun r' σ'=>r'=r∧σ'=[(1000,wo 2000 m l' e'),(2000,wa l')])
theorem dX {f:FuncId} {rest:List AV} {m:Bool} {l:List UInt8} {e:Int} {r:AV} {l':List UInt8} {e':Int} {k j:Nat} {args:List AV} {d:Option Nat} {s:St} {K:St→Prop} (fs:List Nat)
  (h:WM f rest m l e r l' e') (hk:k≠2000) (hj:j≠1000) (hkj:k≠j) (hj2:j<1000∨2000≤j) (hr:aH r=[]) (hrest:∀x∈rest,aH x=[])
  (ha:args.map (wH fs s) = .mp k 3 0 0 :: rest) (h1:ae (frzs fs s).heap k=some (wo j m l e)) (h2:ae (frzs fs s).heap j=some (wa l))
  (hK:K ((St.mk (o6 j (frzs fs s).env) ((k,wo j m l' e') :: (j,wa l') :: o7 j (frzs fs s).heap)).put d r)):cT pg f args d s K:=by
 have e1:fw [(1000,k),(2000,j)] 2000=j:=by
  simp only [fw];unfold jk
  by_cases q:(2000:Nat)=k
  ·exact absurd q.symm hk
  ·simp [q]
 have e0:fw [(1000,k),(2000,j)] 1000=k:=by
  simp only [fw];unfold jk
  by_cases q:k=2000
  ·exact absurd q hk
  ·simp [q,hkj]
 have b1:bw [(1000,k),(2000,j)] j=2000:=by have:=tP [(1000,k),(2000,j)] 2000;rwa [e1] at this
 have b0:bw [(1000,k),(2000,j)] k=1000:=by have:=tP [(1000,k),(2000,j)] 1000;rwa [e0] at this
 refine abl fs (aX.at2 (rk:=wo j m l e) (rk':=wo j m l' e') h hk hj hkj hr hrest rfl rfl ?_ ?_) hkj ?_ hj2 ha h1 h2 hK
 ·simp only [iY,wo,aF,ej,List.map_nil,qS,r5,b1];rfl
 ·simp only [iY,wo,aF,ej,List.map_nil,qS,r5,e1];rfl
 ·show sb (bw [(1000,k),(2000,j)] k)
  rw [b0];exact ⟨by decide,by decide⟩
theorem aR {f:FuncId} {rest:List AV} {m:Bool} {l:List UInt8} {e:Int} {r:AV} {l':List UInt8} {e':Int} {k j:Nat} {args:List AV} {d:Option Nat} {s:St} {K:St→Prop} (fs:List Nat)
  (h:WM f rest m l e r l' e') (hK:K ((St.mk (o6 j (frzs fs s).env) ((k,wo j m l' e') :: (j,wa l') :: o7 j (frzs fs s).heap)).put d r)) (hk:k≠2000:=by decide) (hj:j≠1000:=by decide) (hkj:k≠j:=by decide) (hj2:j<1000∨2000≤j:=by decide)
  (hr:aH r=[]:=by first | rfl | simp [go_sem,bX]) (hrest:∀x∈rest,aH x=[]:=by simp [go_sem])
  (ha:args.map (wH fs s) = .mp k 3 0 0 :: rest:=by rfl) (h1:ae (frzs fs s).heap k=some (wo j m l e):=by rfl) (h2:ae (frzs fs s).heap j=some (wa l):=by rfl):cT pg f args d s K:=dX fs h hk hj hkj hj2 hr hrest ha h1 h2 hK
theorem Fg (m:Bool) (l:List UInt8) (e:Int):WM sW [] m l e (.bool (m&&e==0)) l e:=by
 refine bF ga ?_
 cases m
 ·simp only [ga,wo,wa,go_sem]
  exact done [] _ [(1000,wo 2000 false l e),(2000,wa l)] (by simp only [go_sem]) (by simp only [go_sem,wo,wa]) rfl ⟨rfl,rfl⟩
 ·simp only [ga,wo,wa,go_sem]
  exact done [] _ [(1000,wo 2000 true l e),(2000,wa l)] (by simp only [go_sem]) (by simp only [go_sem,wo,wa]) rfl ⟨rfl,rfl⟩
theorem n_ (m:Bool) (l:List UInt8) (e x:Int):WM uj [.int .i64 x] m l e (.tup []) l (if (m&&e==0)=true then x else e):=by
 refine bF lC ?_
 simp only [lC,wo,wa,go_sem]
 refine dX [] (k:=1000) (j:=2000) (Fg m l e) (by decide) (by decide) (by decide) (by decide) rfl (by simp) (by rfl) (by rfl) (by rfl) ?_
 cases h:(m&&e==0)
 ·simp only [go_sem,wo,wa]
  exact fH [] _ [(1000,wo 2000 m l e),(2000,wa l)] (by simp only [go_sem]) (by simp only [go_sem,wo,wa]) rfl ⟨rfl,rfl⟩
 ·simp only [go_sem,wo,wa]
  exact fH [] _ [(1000,wo 2000 m l x),(2000,wa l)] (by simp only [go_sem]) (by simp only [go_sem,wo,wa]) rfl ⟨rfl,rfl⟩
def wB (ok:Bool) (l x:List UInt8):List UInt8:=if ok=true then l++x else l
theorem fW (m:Bool) (l x:List UInt8) (e:Int) (hl:l.length<60000000000∧x.length<60000000000):WM kN [.sl 1 (x.map i5)] m l e (.tup []) (wB (m&&e==0) l x) e:=by
 refine bF kL ?_
 simp only [kL,wo,wa,go_sem]
 refine dX [] (k:=1000) (j:=2000) (Fg m l e) (by decide) (by decide) (by decide) (by decide) rfl (by simp) (by rfl) (by rfl) (by rfl) ?_
 cases h:(m&&e==0)
 ·simp only [go_sem,wo,wa,wB,iD]
  exact fH [] _ [(1000,wo 2000 m l e),(2000,wa l)] (by simp only [go_sem]) (by simp only [go_sem,wo,wa]) rfl ⟨rfl,rfl⟩
 ·have happ:=cZ 2000 5 1 l.length i5 l (x.map i5) rfl
  simp only [go_sem,wo,wa,wB,happ]
  refine ⟨by omega,fH [] _ [(1000,wo 2000 m (l++x) e),(2000,wa (l++x))] (by simp only [go_sem]) ?_ rfl ⟨rfl,rfl⟩⟩
  simp only [go_sem,wo,wa,bE,List.map_append]
theorem qn {ok:Bool} {l x:List UInt8}:(wB ok l x).length≤l.length+x.length:=by
 unfold wB;split<;>simp
theorem vA (m:Bool) (l:List UInt8) (x:UInt8) (e:Int) (hl:l.length<60000000000):WM lY [.int .u8 x.toNat] m l e (.tup []) (wB (m&&e==0) l [x]) e:=by
 refine bF lB ?_
 simp only [lB,wo,wa,go_sem]
 refine dX [6] (k:=1000) (j:=2000) (fW m l [x] e ⟨hl,by simp⟩) (by decide) (by decide) (by decide) (by decide) rfl (by simp [go_sem]) ?_ (by simp only [go_sem,wo]) (by simp only [go_sem,wa]) ?_
 ·simp only [go_sem,bt]
 ·simp only [go_sem,wo,wa]
  exact fH [] _ [(1000,wo 2000 m (wB (m&&e==0) l [x]) e),(2000,wa (wB (m&&e==0) l [x]))] (by simp only [go_sem]) (by simp only [go_sem,wo,wa]) rfl ⟨rfl,rfl⟩
def wU (ok:Bool) (l:List UInt8) (e n:Int):List UInt8×Int :=
 if ok=true then (if n<0∨n>4294967295 then (l,1) else (l++aq n.toNat,e)) else (l,e)
theorem yJ {n:Nat} (h:n≤4294967295):(aq n).length≤5:=kv (k:=4) (by omega)
theorem I7 (m:Bool) (l:List UInt8) (e n:Int) (hl:l.length<60000000000):WM bB [.int .i64 n] m l e (.tup []) (wU (m&&e==0) l e n).1 (wU (m&&e==0) l e n).2:=by
 refine bF eH ?_
 by_cases h1:n<0∨n>4294967295
 ·have r:wU (m&&e==0) l e n=(l,if (m&&e==0)=true then 1 else e):=by
   unfold wU;cases (m&&e==0)<;>simp [h1]
  rw [r]
  by_cases h2:n<0
  ·have d1:decide (n<0)=true:=aO h2
   simp only [eH,wo,wa,go_sem,d1]
   refine dX [] (k:=1000) (j:=2000) (n_ m l e 1) (by decide) (by decide) (by decide) (by decide) rfl (by simp [go_sem]) (by rfl) (by rfl) (by rfl) ?_
   simp only [go_sem,wo,wa]
   exact done [] _ [(1000,wo 2000 m l (if (m&&e==0)=true then 1 else e)),(2000,wa l)] (by simp only [go_sem]) (by simp only [go_sem,wo,wa]) rfl ⟨rfl,rfl⟩
  ·have d1:decide (n<0)=false:=aQ h2
   have d2:decide (n>4294967295)=true:=aO (by omega)
   simp only [eH,wo,wa,go_sem,d1,d2]
   refine dX [] (k:=1000) (j:=2000) (n_ m l e 1) (by decide) (by decide) (by decide) (by decide) rfl (by simp [go_sem]) (by rfl) (by rfl) (by rfl) ?_
   simp only [go_sem,wo,wa]
   exact done [] _ [(1000,wo 2000 m l (if (m&&e==0)=true then 1 else e)),(2000,wa l)] (by simp only [go_sem]) (by simp only [go_sem,wo,wa]) rfl ⟨rfl,rfl⟩
 ·have d1:decide (n<0)=false:=aQ (by omega)
  have d2:decide (n>4294967295)=false:=aQ (by omega)
  obtain ⟨k,rfl⟩:=Bt (show 0≤n by omega)
  have r:wU (m&&e==0) l e k=(wB (m&&e==0) l (aq k),e):=by
   unfold wU wB;cases (m&&e==0)<;>simp only [aF,ah h1,iD,bc,ce]
  have w1:IntKind.u64.wrap (k:Int)=(k:Int):=by rw [rf];omega
  have hp:=yJ (n:=k) (by omega)
  rw [r]
  simp only [eH,wo,wa,go_sem,d1,d2,w1]
  refine aa (adC k (by omega)) ?_
  refine dX [] (k:=1000) (j:=2000) (fW m l (aq k) e ⟨hl,by omega⟩) (by decide) (by decide) (by decide) (by decide) rfl (by simp [go_sem]) (by rfl) (by rfl) (by rfl) ?_
  simp only [go_sem,wo,wa]
  exact fH [] _ [(1000,wo 2000 m (wB (m&&e==0) l (aq k)) e),(2000,wa (wB (m&&e==0) l (aq k)))] (by simp only [go_sem]) (by simp only [go_sem,wo,wa]) rfl ⟨rfl,rfl⟩
def wN (ok:Bool) (l:List UInt8) (e:Int) (x:List UInt8):List UInt8×Int :=
 if ok=true then (if uv x=false then (l,9) else if x.length>64 then (l,6) else (l++aq x.length++x,e)) else (l,e)
theorem Om (m:Bool) (l x:List UInt8) (e:Int) (hl:l.length<40000000000∧x.length<10000000):WM lZ [.str x] m l e (.tup []) (wN (m&&e==0) l e x).1 (wN (m&&e==0) l e x).2:=by
 refine bF lD ?_
 simp only [lD,wo,wa,go_sem]
 refine ax (U5 x (by omega)) ?_
 cases hv:uv x
 ·have r:wN (m&&e==0) l e x=(l,if (m&&e==0)=true then 9 else e):=by
   unfold wN;cases (m&&e==0)<;>simp [hv]
  rw [r]
  simp only [go_sem]
  refine dX [] (k:=1000) (j:=2000) (n_ m l e 9) (by decide) (by decide) (by decide) (by decide) rfl (by simp [go_sem]) (by rfl) (by rfl) (by rfl) ?_
  simp only [go_sem,wo,wa]
  exact fH [] _ [(1000,wo 2000 m l (if (m&&e==0)=true then 9 else e)),(2000,wa l)] (by simp only [go_sem]) (by simp only [go_sem,wo,wa]) rfl ⟨rfl,rfl⟩
 ·by_cases h64:x.length>64
  ·have d1:decide ((x.length:Int)>64)=true:=aO (by omega)
   have r:wN (m&&e==0) l e x=(l,if (m&&e==0)=true then 6 else e):=by
    unfold wN;cases (m&&e==0)<;>simp [hv,h64]
   rw [r]
   simp only [go_sem,d1]
   refine dX [] (k:=1000) (j:=2000) (n_ m l e 6) (by decide) (by decide) (by decide) (by decide) rfl (by simp [go_sem]) (by rfl) (by rfl) (by rfl) ?_
   simp only [go_sem,wo,wa]
   exact fH [] _ [(1000,wo 2000 m l (if (m&&e==0)=true then 6 else e)),(2000,wa l)] (by simp only [go_sem]) (by simp only [go_sem,wo,wa]) rfl ⟨rfl,rfl⟩
  ·have d1:decide ((x.length:Int)>64)=false:=aQ (by omega)
   have r1:wU (m&&e==0) l e x.length=(wB (m&&e==0) l (aq x.length),e):=by
    unfold wU wB
    have h1:¬((x.length:Int)<0∨(x.length:Int)>4294967295):=by omega
    cases (m&&e==0)<;>simp only [aF,ah h1,iD,bc,ce]
   have r:wN (m&&e==0) l e x=(wB (m&&e==0) (wB (m&&e==0) l (aq x.length)) x,e):=by
    unfold wN wB;cases (m&&e==0)<;>simp [hv,h64]
   have hp:=yJ (n:=x.length) (by omega)
   have hl2:=qn (ok:=(m&&e==0)) (l:=l) (x:=aq x.length)
   rw [r]
   simp only [go_sem,d1]
   have c1:=I7 m l e x.length (by omega)
   rw [r1] at c1
   refine dX [] (k:=1000) (j:=2000) c1 (by decide) (by decide) (by decide) (by decide) rfl (by simp [go_sem]) (by rfl) (by rfl) (by rfl) ?_
   simp only [go_sem,wo,wa]
   refine ⟨by omega,?_⟩
   refine dX [10] (k:=1000) (j:=2000) (fW m (wB (m&&e==0) l (aq x.length)) x e ⟨by omega,by omega⟩) (by decide) (by decide) (by decide) (by decide) rfl (by simp [go_sem]) ?_ (by simp only [go_sem,wo]) (by simp only [go_sem,wa]) ?_
   ·simp only [go_sem,bt,di]
    rw [fL (by simp)]
    rfl
   ·simp only [go_sem,wo,wa]
    exact fH [] _ [(1000,wo 2000 m (wB (m&&e==0) (wB (m&&e==0) l (aq x.length)) x) e),(2000,wa (wB (m&&e==0) (wB (m&&e==0) l (aq x.length)) x))] (by simp only [go_sem]) (by simp only [go_sem,wo,wa]) rfl ⟨rfl,rfl⟩
def wD (m:Bool) (l:List UInt8) (e:Int):Option (List UInt8)×Int:=if m=true then (if e=0 then (some l,0) else (none,e)) else (none,2)
theorem yV (m:Bool) (l:List UInt8) (e:Int) (hl:l.length<60000000000):WM ui [] m l e (.tup [MQ (wD m l e).1,.int .i64 (wD m l e).2]) l e:=by
 refine bF et ?_
 cases m
 ·simp only [et,wo,wa,go_sem,wD,iD]
  exact done [] _ [(1000,wo 2000 false l e),(2000,wa l)] (by simp only [go_sem]) (by simp only [go_sem,wo,wa]) rfl ⟨rfl,rfl⟩
 ·by_cases he:e=0
  ·subst he
   have d:((0:Int) != 0)=false:=rfl
   have hr:=K1 1 l.length 5 i5 l rfl
   simp only [et,wo,wa,go_sem,wD,d,hr]
   refine ⟨by omega,done [28] _ [(1000,wo 2000 true l 0),(2000,wa l)] ?_ (by simp only [go_sem,wo,wa]) rfl ⟨rfl,rfl⟩⟩
   simp only [go_sem,bt,di]
   rw [fL (by simp)]
  ·have d:(e != 0)=true:=by simp [he]
   have r:wD true l e=(none,e):=by simp [wD,he]
   rw [r]
   simp only [et,wo,wa,go_sem,d]
   exact done [] _ [(1000,wo 2000 true l e),(2000,wa l)] (by simp only [go_sem]) (by simp only [go_sem,wo,wa]) rfl ⟨rfl,rfl⟩
theorem adP (m:Bool) (l:List UInt8) (e:Int):WM vQ [] m l e (.int .i64 (if (m&&e==0)=true then (l.length:Int) else 0)) l e:=by
 refine bF ni ?_
 simp only [ni,wo,wa,go_sem]
 refine dX [] (k:=1000) (j:=2000) (Fg m l e) (by decide) (by decide) (by decide) (by decide) rfl (by simp) (by rfl) (by rfl) (by rfl) ?_
 cases h:(m&&e==0)
 ·simp only [go_sem,wo,wa,iD]
  exact done [] _ [(1000,wo 2000 m l e),(2000,wa l)] (by simp only [go_sem]) (by simp only [go_sem,wo,wa]) rfl ⟨rfl,rfl⟩
 ·simp only [go_sem,wo,wa]
  exact done [] _ [(1000,wo 2000 m l e),(2000,wa l)] (by simp only [go_sem]) (by simp only [go_sem,wo,wa]) rfl ⟨rfl,rfl⟩
theorem adQ:aX pg BK [] [] sb (fun r' σ'=>r' = .mp 2 3 0 0∧σ'=[(2,wo 2000 true [] 0),(2000,wa [])]):=by
 refine bF By ?_
 simp only [By,go_sem]
 refine bP ((Wk.new0 _ 2000 1 5 (by decide)).trans (Wk.nlm _ 2 (t:=165) (st:=3) (r:=[.bool true,.nl,.int .i64 0]) (r':=[.bool true,.ms 2000 1 0 0,.int .i64 0]) ?_ ?_)) [] (.mp 2 3 0 0) [(2,wo 2000 true [] 0),(2000,wa [])] ?_ ?_ rfl ⟨rfl,rfl⟩
 ·simp only [go_sem]
 ·exact ⟨.inl rfl,.inr ⟨rfl,.inr ⟨2000,1,rfl⟩⟩,.inl rfl,trivial⟩
 ·simp only [go_sem]
 ·simp only [go_sem,wo,wa,b_]
theorem U3 (b:List UInt8) (at_:Nat) (h:at_<b.length) (h9:at_≤9):ao pg PO [.sl 1 (b.map i5),.int .i64 at_] (.int .u64 ((dL (b.take (at_+1)) % 18446744073709551616:Nat):Int)):=by
 refine aL Gn ?_
 simp only [Gn,go_sem]
 refine aw (fun i:Nat=>⟨[(9,.int .i64 i),(8,.int .i64 (at_+1)),(5,.int .u64 ((dL (b.take i) % 18446744073709551616:Nat):Int)),(0,.sl 1 (b.map i5))],[]⟩) (fun i=>i≤at_+1) (fun i=>at_+1 - i) 0 (cX _) (Wk.of ?_ ?_) ?_
 ·simp [go_sem,wi (n:=(at_:Int)+1) (by omega) (by omega),dL]
 ·simp [go_sem]
 rintro i hi
 replace hi:i≤at_+1:=hi
 rcases fX i (at_+1) with hlt | hge
 ·have hd1:decide ((i:Int)<(at_:Int)+1)=true:=by simp;omega
  have hx:(ac b i).toNat<256:=(ac b i).toNat_lt
  have hv:=kz (b:=b) (i:=i) (by omega)
  have hp:2 ^ (7 * i)≤2 ^ 63:=Nat.pow_le_pow_right (by decide) (by omega)
  have e1:IntKind.u64.wrap (((ac b i).toNat % 128:Nat):Int)=(((ac b i).toNat % 128:Nat):Int):=by rw [rf];omega
  have e2:IntKind.i64.wrap (7 * (i:Int))=((7 * i:Nat):Int):=by rw [wi (by omega) (by omega)];omega
  have e3:¬((7 * i:Nat):Int)<0:=by omega
  have e5:=Oq (y:=(ac b i).toNat % 128) (s:=7 * i) (by omega)
  have e6:dL (b.take i) % 18446744073709551616=dL (b.take i):=Nat.mod_eq_of_lt (by omega)
  have e7:=yC (n:=dL (b.take i)) (y:=(ac b i).toNat % 128) (s:=7 * i) (by omega) hv
  simp only [go_sem,hd1,e2,e3]
  refine ⟨by omega,by omega,aG (i+1) (show i+1≤at_+1 by omega) (show at_+1 - (i+1)<at_+1 - i by omega) (Wk.of ?_ ?_)⟩
  ·have e8:=wi (n:=(i:Int)+1) (by omega) (by omega)
   have e9:=Aw (show i<b.length by omega)
   simp only [go_sem,Ro hx,e1,e5,e6,e7,e8,e9]
   rfl
  ·simp [go_sem]
 ·have hd1:decide ((i:Int)<(at_:Int)+1)=false:=by simp;omega
  have:i=at_+1:=by omega
  subst this
  simp only [go_sem,hd1]
  exact aJ [] (by simp [go_sem]) rfl
def lU (b:List UInt8) (bits:Nat):AV:=if jO b bits=0 then .tup [.int .i64 (bZ b bits),.int .i64 (vi bits (bZ b bits)),.int .i64 0] else .tup [.int .i64 0,.int .i64 0,.int .i64 (jO b bits)]
theorem UZ (b:List UInt8) (bits:Nat) (h:1≤bits∧bits≤64):ao pg Mb [.sl 1 (b.map i5),.int .i64 bits] (lU b bits):=by
 have hm:mst bits≤10∧1≤mst bits∧7 * mst bits≤bits+6:=by unfold mst;omega
 refine aL DL ?_
 have d1:decide ((bits:Int)<1)=false:=by simp;omega
 have d2:decide ((bits:Int)>64)=false:=by simp;omega
 have e1:IntKind.i64.wrap ((bits:Int)+6)=((bits+6:Nat):Int):=by rw [wi (by omega) (by omega)];omega
 have e2:(((bits+6:Nat):Int)).tdiv 7=(mst bits:Int):=by rw [show (7:Int)=((7:Nat):Int) from rfl,← Int.ofNat_tdiv];rfl
 have e3:IntKind.i64.wrap (mst bits:Int)=(mst bits:Int):=wi (by omega) (by omega)
 simp only [DL,go_sem,d1,d2,e1,e2,e3]
 refine ⟨by omega,?_⟩
 refine aw (fun i:Nat=>⟨[(19,.int .i64 i),(18,.int .i64 (mst bits)),(7,.int .i64 (mst bits)),(0,.sl 1 (b.map i5)),(1,.int .i64 bits)],[]⟩) (fun i=>i≤mst bits∧i≤b.length∧z6 b (mst bits) 0=z6 b (mst bits - i) i) (fun i=>mst bits - i) 0 ⟨cX _,cX _,rfl⟩ (Wk.of ?_ ?_) ?_
 ·simp only [go_sem,e1,e2,e3]
  simp
 ·simp [go_sem]
 rintro i ⟨hi,hib,hl⟩
 replace hi:i≤mst bits:=hi
 replace hib:i≤b.length:=hib
 replace hl:z6 b (mst bits) 0=z6 b (mst bits - i) i:=hl
 rcases fX i (mst bits) with hlt | hge
 ·have hd1:decide ((i:Int)<(mst bits:Int))=true:=by simp;omega
  rw [show mst bits - i=(mst bits - (i+1))+1 by omega,z6] at hl
  by_cases hb:i≥b.length
  ·have hd2:decide ((i:Int)≥(b.length:Int))=true:=by simp;omega
   rw [ap hb] at hl
   have r1:lU b bits = .tup [.int .i64 0,.int .i64 0,.int .i64 3]:=by simp [lU,jO,hl]
   simp only [go_sem,hd1,hd2]
   rw [r1]
   exact aJ [] (by simp [go_sem]) rfl
  ·have hd2:decide ((i:Int)≥(b.length:Int))=false:=by simp;omega
   rw [ah hb] at hl
   by_cases hc:128≤(ac b i).toNat
   ·have hd3:decide (((ac b i).toNat:Int)≥128)=true:=by simp;omega
    rw [ap hc] at hl
    simp only [go_sem,hd1,hd2,hd3]
    refine ⟨by omega,by omega,aG (i+1) ⟨by omega,by omega,hl⟩ (show mst bits - (i+1)<mst bits - i by omega) (Wk.of ?_ ?_)⟩
    ·have e8:=wi (n:=(i:Int)+1) (by omega) (by omega)
     simp [go_sem,e8]
    ·simp [go_sem]
   ·have hd3:decide (((ac b i).toNat:Int)≥128)=false:=by simp;omega
    rw [ah hc] at hl
    have w1:IntKind.i64.wrap ((mst bits:Int) - 1)=(mst bits:Int) - 1:=wi (by omega) (by omega)
    by_cases hq:i+1=mst bits
    ·have hd4:((i:Int)==(mst bits:Int) - 1)=true:=by simp;omega
     have r1:lU b bits = .tup [.int .i64 i,.int .i64 ((bits:Int) - 7 * i),.int .i64 0]:=by
      have:((bits - 7 * i:Nat):Int)=(bits:Int) - 7 * i:=by omega
      simp [lU,jO,bZ,hl,vi,hq,this]
     have w2:IntKind.i64.wrap (7 * (i:Int))=7 * (i:Int):=wi (by omega) (by omega)
     have w3:IntKind.i64.wrap ((bits:Int) - 7 * (i:Int))=(bits:Int) - 7 * (i:Int):=wi (by omega) (by omega)
     simp only [go_sem,hd1,hd2,hd3,w1,hd4]
     rw [r1]
     exact ⟨by omega,by omega,aJ [] (by simp [go_sem,w2,w3]) rfl⟩
    ·have hd4:((i:Int)==(mst bits:Int) - 1)=false:=by simp;omega
     have r1:lU b bits = .tup [.int .i64 i,.int .i64 7,.int .i64 0]:=by simp [lU,jO,bZ,hl,vi,hq]
     simp only [go_sem,hd1,hd2,hd3,w1,hd4]
     rw [r1]
     exact ⟨by omega,by omega,aJ [] (by simp [go_sem]) rfl⟩
 ·have hd1:decide ((i:Int)<(mst bits:Int))=false:=by simp;omega
  rw [show mst bits - i=0 by omega,z6] at hl
  have r1:lU b bits = .tup [.int .i64 0,.int .i64 0,.int .i64 4]:=by simp [lU,jO,hl]
  simp only [go_sem,hd1]
  rw [r1]
  exact aJ [] (by simp [go_sem]) rfl
def uR (x:Nat×Nat×Int):AV:=.tup [.int .u64 x.1,.int .i64 x.2.1,.int .i64 x.2.2]
def sR (x:Int×Nat×Int):AV:=.tup [.int .i64 x.1,.int .i64 x.2.1,.int .i64 x.2.2]
theorem s_U (b:List UInt8) (bits:Nat) (h:1≤bits∧bits≤64):ao pg X7 [.sl 1 (b.map i5),.int .i64 bits] (uR (dZ b bits)):=by
 refine aL M7 ?_
 simp only [M7,go_sem]
 refine ax (UZ b bits h) ?_
 rcases iu b bits with ⟨h1,h2,h3,h4⟩ | ⟨h1,h2⟩
 ·have hc:=HM h h3
  have hm:=TK h
  have e1:lU b bits = .tup [.int .i64 (bZ b bits),.int .i64 (vi bits (bZ b bits)),.int .i64 0]:=by rw [lU,ap h1]
  have e2:=yY .u8 (x:=(ac b (bZ b bits)).toNat) (s:=vi bits (bZ b bits)) (by show _≤8;omega)
  have e3:¬((vi bits (bZ b bits):Nat):Int)<0:=by omega
  by_cases hq:(ac b (bZ b bits)).toNat / 2 ^ vi bits (bZ b bits)=0
  ·have d1:((((ac b (bZ b bits)).toNat / 2 ^ vi bits (bZ b bits):Nat):Int) != 0)=false:=by rw [hq];rfl
   have r:dZ b bits=(dL (b.take (bZ b bits+1)) % 18446744073709551616,bZ b bits+1,0):=by simp [dZ,h1,hq]
   simp only [go_sem,e1,bne_self_eq_false,e2,e3,d1]
   refine ⟨by omega,by omega,fY (U3 b (bZ b bits) h2 (by omega)) (by simp [go_sem]) ?_⟩
   have e8:=wi (n:=(bZ b bits:Int)+1) (by omega) (by omega)
   simp only [go_sem]
   rw [r]
   exact aJ [] (by simp [go_sem,e8,uR]) rfl
  ·have d1:((((ac b (bZ b bits)).toNat / 2 ^ vi bits (bZ b bits):Nat):Int) != 0)=true:=by
    have:(((ac b (bZ b bits)).toNat / 2 ^ vi bits (bZ b bits):Nat):Int)≠0:=by omega
    simp only [bne,gy.2 this];rfl
   have r:dZ b bits=(0,0,4):=by rw [dZ,ah (by simp [h1]),ap hq]
   simp only [go_sem,e1,bne_self_eq_false,e2,e3,d1]
   rw [r]
   exact ⟨by omega,by omega,aJ [] (by simp [go_sem,uR]) rfl⟩
 ·have hne:jO b bits≠0:=by rcases h1 with h1 | h1<;>rw [h1]<;>decide
  have e1:lU b bits = .tup [.int .i64 0,.int .i64 0,.int .i64 (jO b bits)]:=by rw [lU,ah hne]
  have d1:(jO b bits != 0)=true:=by simp [hne]
  have r:dZ b bits=(0,0,jO b bits):=by rw [dZ,ap hne]
  simp only [go_sem,e1,d1]
  rw [r]
  exact aJ [] (by simp [go_sem,uR]) rfl
theorem s_S (b:List UInt8) (bits:Nat) (h:1≤bits∧bits≤64):ao pg X6 [.sl 1 (b.map i5),.int .i64 bits] (sR (eV b bits)):=by
 refine aL M6 ?_
 simp only [M6,go_sem]
 refine ax (UZ b bits h) ?_
 rcases iu b bits with ⟨h1,h2,h3,h4⟩ | ⟨h1,h2⟩
 ·have hc:=HM h h3
  have hm:=TK h
  generalize hi:bZ b bits=i at *
  generalize hcn:vi bits i=c at *
  have hx:(ac b i).toNat<256:=(ac b i).toNat_lt
  have e1:lU b bits = .tup [.int .i64 i,.int .i64 c,.int .i64 0]:=by rw [lU,ap h1,hi,hcn]
  have w1:IntKind.i64.wrap ((c:Int) - 1)=((c - 1:Nat):Int):=by rw [wi (by omega) (by omega)];omega
  have e2:=yY .u8 (x:=(ac b i).toNat) (s:=c - 1) (by show _≤8;omega)
  have e2':BB .u8 127 ((c - 1:Nat):Int)=((127 / 2 ^ (c - 1):Nat):Int):=yY .u8 (x:=127) (s:=c - 1) (by show _≤8;omega)
  have e3:¬((c - 1:Nat):Int)<0:=by omega
  have w2:IntKind.i64.wrap ((i:Int)+1)=((i+1:Nat):Int):=by rw [wi (by omega) (by omega)];omega
  have w3:IntKind.i64.wrap (7 * ((i+1:Nat):Int))=((7 * (i+1):Nat):Int):=by rw [wi (by omega) (by omega)];omega
  by_cases hq:(ac b i).toNat / 2 ^ (c - 1)≠0∧(ac b i).toNat / 2 ^ (c - 1)≠127 / 2 ^ (c - 1)
  ·have d1:((((ac b i).toNat / 2 ^ (c - 1):Nat):Int) != 0)=true:=by
    have:(((ac b i).toNat / 2 ^ (c - 1):Nat):Int)≠0:=by omega
    simp only [bne,gy.2 this];rfl
   have d2:((((ac b i).toNat / 2 ^ (c - 1):Nat):Int) != ((127 / 2 ^ (c - 1):Nat):Int))=true:=by
    have:(((ac b i).toNat / 2 ^ (c - 1):Nat):Int)≠((127 / 2 ^ (c - 1):Nat):Int):=by omega
    simp only [bne,gy.2 this];rfl
   have r:eV b bits=(0,0,4):=by rw [eV,ah (by simp [h1]),hi,hcn,ap hq]
   simp only [go_sem,e1,bne_self_eq_false,w1,e2,e2',e3,d1,d2]
   rw [r]
   exact ⟨by omega,by omega,aJ [] (by simp [go_sem,sR]) rfl⟩
  ·have r:eV b bits=(I9 b i,i+1,0):=by rw [eV,ah (by simp [h1]),hi,hcn,ah hq]
   have hv:=kz (b:=b) (i:=i+1) (by omega)
   rw [r]
   by_cases hz:(ac b i).toNat / 2 ^ (c - 1)=0
   ·have d1:((((ac b i).toNat / 2 ^ (c - 1):Nat):Int) != 0)=false:=by rw [hz];rfl
    simp only [go_sem,e1,bne_self_eq_false,w1,e2,e2',e3,d1]
    refine ⟨by omega,by omega,fY (U3 b i h2 (by omega)) (by simp [go_sem]) ?_⟩
    by_cases hw:i=9
    ·subst hw
     have d3:decide (((7 * (9+1):Nat):Int)<64)=false:=by decide
     simp only [go_sem,w2,w3,d3]
     have e9:IntKind.i64.wrap ((dL (b.take (9+1)) % 18446744073709551616:Nat):Int)=I9 b 9:=by
      unfold I9
      refine vm ?_
      split<;>omega
     exact aJ [] (by simp only [go_sem,sR,e9,w2]) rfl
    ·have hp:2 ^ (7 * (i+1))≤2 ^ 63:=Nat.pow_le_pow_right (by decide) (by omega)
     have d3:decide (((7 * (i+1):Nat):Int)<64)=true:=by simp;omega
     have e6:dL (b.take (i+1)) % 18446744073709551616=dL (b.take (i+1)):=Nat.mod_eq_of_lt (by omega)
     by_cases hb:64≤(ac b i).toNat % 128
     ·have d4:(bO .u8 ((ac b i).toNat:Int) 64 != 0)=true:=by rw [Na hx];simpa using hb
      have e4:¬((7 * (i+1):Nat):Int)<0:=by omega
      have e5:jF .u64 18446744073709551615 ((7 * (i+1):Nat):Int)=((18446744073709551615 * 2 ^ (7 * (i+1)) % 18446744073709551616:Nat):Int):=Oq (y:=18446744073709551615) (s:=7 * (i+1)) (by omega)
      have e7:=yC (n:=dL (b.take (i+1))) (y:=18446744073709551615) (s:=7 * (i+1)) (by omega) hv
      have e9:IntKind.i64.wrap (((dL (b.take (i+1))+18446744073709551615 * 2 ^ (7 * (i+1))) % 18446744073709551616:Nat):Int)=I9 b i:=by
       unfold I9
       rw [ap hb]
       refine vm ?_
       have e10:(2:Int) ^ (7 * (i+1))=((2 ^ (7 * (i+1)):Nat):Int):=by rw [Int.natCast_pow];rfl
       rw [e10]
       generalize 2 ^ (7 * (i+1))=p
       omega
      simp only [go_sem,w2,w3,d3,d4,e4,e6,e5,e7]
      exact ⟨by omega,by omega,aJ [] (by simp only [go_sem,sR,e9,w2]) rfl⟩
     ·have d4:(bO .u8 ((ac b i).toNat:Int) 64 != 0)=false:=by rw [Na hx];simpa using hb
      have e9:IntKind.i64.wrap ((dL (b.take (i+1)):Nat):Int)=I9 b i:=by
       unfold I9
       rw [ah hb,Int.sub_zero]
      simp only [go_sem,w2,w3,d3,d4,e6]
      exact ⟨by omega,by omega,aJ [] (by simp only [go_sem,sR,e9,w2]) rfl⟩
   ·have d1:((((ac b i).toNat / 2 ^ (c - 1):Nat):Int) != 0)=true:=by
     have:(((ac b i).toNat / 2 ^ (c - 1):Nat):Int)≠0:=by omega
     simp only [bne,gy.2 this];rfl
    have d2:((((ac b i).toNat / 2 ^ (c - 1):Nat):Int) != ((127 / 2 ^ (c - 1):Nat):Int))=false:=by
     have:(ac b i).toNat / 2 ^ (c - 1)=127 / 2 ^ (c - 1):=Classical.byContradiction fun hn=>hq ⟨hz,hn⟩
     rw [this];simp
    simp only [go_sem,e1,bne_self_eq_false,w1,e2,e2',e3,d1,d2]
    refine ⟨by omega,by omega,fY (U3 b i h2 (by omega)) (by simp [go_sem]) ?_⟩
    by_cases hw:i=9
    ·subst hw
     have d3:decide (((7 * (9+1):Nat):Int)<64)=false:=by decide
     simp only [go_sem,w2,w3,d3]
     have e9:IntKind.i64.wrap ((dL (b.take (9+1)) % 18446744073709551616:Nat):Int)=I9 b 9:=by
      unfold I9
      refine vm ?_
      split<;>omega
     exact aJ [] (by simp only [go_sem,sR,e9,w2]) rfl
    ·have hp:2 ^ (7 * (i+1))≤2 ^ 63:=Nat.pow_le_pow_right (by decide) (by omega)
     have d3:decide (((7 * (i+1):Nat):Int)<64)=true:=by simp;omega
     have e6:dL (b.take (i+1)) % 18446744073709551616=dL (b.take (i+1)):=Nat.mod_eq_of_lt (by omega)
     by_cases hb:64≤(ac b i).toNat % 128
     ·have d4:(bO .u8 ((ac b i).toNat:Int) 64 != 0)=true:=by rw [Na hx];simpa using hb
      have e4:¬((7 * (i+1):Nat):Int)<0:=by omega
      have e5:jF .u64 18446744073709551615 ((7 * (i+1):Nat):Int)=((18446744073709551615 * 2 ^ (7 * (i+1)) % 18446744073709551616:Nat):Int):=Oq (y:=18446744073709551615) (s:=7 * (i+1)) (by omega)
      have e7:=yC (n:=dL (b.take (i+1))) (y:=18446744073709551615) (s:=7 * (i+1)) (by omega) hv
      have e9:IntKind.i64.wrap (((dL (b.take (i+1))+18446744073709551615 * 2 ^ (7 * (i+1))) % 18446744073709551616:Nat):Int)=I9 b i:=by
       unfold I9
       rw [ap hb]
       refine vm ?_
       have e10:(2:Int) ^ (7 * (i+1))=((2 ^ (7 * (i+1)):Nat):Int):=by rw [Int.natCast_pow];rfl
       rw [e10]
       generalize 2 ^ (7 * (i+1))=p
       omega
      simp only [go_sem,w2,w3,d3,d4,e4,e6,e5,e7]
      exact ⟨by omega,by omega,aJ [] (by simp only [go_sem,sR,e9,w2]) rfl⟩
     ·have d4:(bO .u8 ((ac b i).toNat:Int) 64 != 0)=false:=by rw [Na hx];simpa using hb
      have e9:IntKind.i64.wrap ((dL (b.take (i+1)):Nat):Int)=I9 b i:=by
       unfold I9
       rw [ah hb,Int.sub_zero]
      simp only [go_sem,w2,w3,d3,d4,e6]
      exact ⟨by omega,by omega,aJ [] (by simp only [go_sem,sR,e9,w2]) rfl⟩
 ·have hne:jO b bits≠0:=by rcases h1 with h1 | h1<;>rw [h1]<;>decide
  have e1:lU b bits = .tup [.int .i64 0,.int .i64 0,.int .i64 (jO b bits)]:=by rw [lU,ah hne]
  have d1:(jO b bits != 0)=true:=by simp [hne]
  have r:eV b bits=(0,0,jO b bits):=by rw [eV,ap hne]
  simp only [go_sem,e1,d1]
  rw [r]
  exact aJ [] (by simp [go_sem,sR]) rfl
end Go.Proofs.YtdfofedlbljnhaaGreatDoor