import Derived.Test.YteephfapgoncgaaGreatDoorUQe
set_option linter.all false
set_option maxRecDepth 100000
set_option maxHeartbeats 8000000
namespace Go.Proofs.YteephfapgoncgaaGreatDoor
open Go Go.Mw
theorem and7 {x:Nat} (hx:x<256):yA .u8 (x:Int) 7=((x % 8:Nat):Int):=by
 have:(BitVec.ofInt 8 (x:Int) &&& BitVec.ofInt 8 ((7:Nat):Int)).toNat=x &&& 7:=tT hx (by decide)
 show IntKind.u8.wrap ((BitVec.ofInt 8 (x:Int) &&& BitVec.ofInt 8 ((7:Nat):Int)).toNat)=_
 rw [this,show (7:Nat)=2 ^ 3 - 1 from rfl,Nat.and_two_pow_sub_one_eq_mod,RG]
 omega
theorem Rm {l:List UInt8} (z:Lib.firstT (ac l 0).toNat % 8=2):ju l=if 2≤l.length∧Lib.accLo (Lib.firstT (ac l 0).toNat / 16)≤(ac l 1).toNat∧(ac l 1).toNat≤Lib.accHi (Lib.firstT (ac l 0).toNat / 16) then some 2 else none:=by
 unfold ju
 simp only
 rw [bz z]
theorem Rn {l:List UInt8} (z:Lib.firstT (ac l 0).toNat % 8=3):ju l=if 3≤l.length∧Lib.accLo (Lib.firstT (ac l 0).toNat / 16)≤(ac l 1).toNat∧(ac l 1).toNat≤Lib.accHi (Lib.firstT (ac l 0).toNat / 16)∧128≤(ac l 2).toNat∧(ac l 2).toNat≤191 then some 3 else none:=by
 unfold ju
 simp only
 rw [aV (by omega),bz z]
theorem Ro {l:List UInt8} (z:Lib.firstT (ac l 0).toNat % 8=4):ju l=if 4≤l.length∧Lib.accLo (Lib.firstT (ac l 0).toNat / 16)≤(ac l 1).toNat∧(ac l 1).toNat≤Lib.accHi (Lib.firstT (ac l 0).toNat / 16)∧128≤(ac l 2).toNat∧(ac l 2).toNat≤191∧128≤(ac l 3).toNat∧(ac l 3).toNat≤191 then some 4 else none:=by
 unfold ju
 simp only
 rw [aV (by omega),aV (by omega),bz z]
theorem runN {l:List UInt8} (z2:¬Lib.firstT (ac l 0).toNat % 8=2) (z3:¬Lib.firstT (ac l 0).toNat % 8=3) (z4:¬Lib.firstT (ac l 0).toNat % 8=4):ju l=none:=by
 unfold ju
 simp only
 rw [aV z2,aV z3,aV z4]
theorem zb (b:Nat):Lib.firstT b<256:=by
 rcases Lib.firstT_cases b with h | h | h | h | h | h | h | h | h<;>rw [h]<;>decide
theorem Av {x:Nat} (hx:x<256):gd none (qk.drop (x * 1))=some (.int .u8 (Lib.firstT x)):=by
 have:(qk.drop x)[0]? = some (.int .u8 (Lib.firstT x)):=by
  rw [List.getElem?_drop,Nat.add_zero,qk,cQ,List.getElem?_range hx];rfl
 rw [Nat.mul_one]
 simp only [gd]
 exact this
theorem I2 {i:Nat} (hi:i<16):gd (some 2) (j0.drop (i * 2))=some (.agg [.int .u8 (Lib.accLo i),.int .u8 (Lib.accHi i)]):=by
 have hl:j0.length=32:=by simp [j0]
 have e0:j0[i * 2]? = some (.int .u8 (Lib.accLo i)):=by
  rw [j0,cQ,List.getElem?_range (by omega)]
  simp only [dM]
  rw [bz (by omega),show i * 2 / 2=i by omega]
 have e1:j0[i * 2+1]? = some (.int .u8 (Lib.accHi i)):=by
  rw [j0,cQ,List.getElem?_range (by omega)]
  simp only [dM]
  rw [aV (by omega),show (i * 2+1) / 2=i by omega]
 have h0:i * 2<j0.length:=by omega
 have h1:i * 2+1<j0.length:=by omega
 simp only [gd]
 rw [bz (by simp [hl];omega),List.drop_eq_getElem_cons h0,List.drop_eq_getElem_cons h1]
 rw [fu h0] at e0
 rw [fu h1] at e1
 simp only [List.take_succ_cons,bE,Option.some.inj e0,Option.some.inj e1]
theorem Nf (s:List UInt8) (hs:s.length<1000000000):aj Tryz.prog QJ [.str s] (.bool (uv s)):=by
 refine rE (ic:=GO.body) [(1000000,.ip qk),(1000001,.ip j0)] (fun p hp=>hp) aq OX rfl rfl ?_
 simp only [GO,go_sem]
 refine an (fun q:List UInt8=>⟨[(0,.str q),(1000000,.ip qk),(1000001,.ip j0)],[]⟩) (fun q=>uv q=uv s∧q.length≤s.length) (fun q=>q.length) s ⟨rfl,aB _⟩ (Wk.of ?_ ?_) ?_
 ·simp only [go_sem]
 ·simp only [go_sem]
 rintro q ⟨hq,hl⟩
 replace hq:uv q=uv s:=hq
 replace hl:q.length≤s.length:=hl
 have fin:∀(s1:St) (q':List UInt8),get s1.env 0 = .str q'→get s1.env 1000000 = .ip qk→get s1.env 1000001 = .ip j0→uv q'=uv s→q'.length<q.length→∀K,
   LI (fun q:List UInt8=>⟨[(0,.str q),(1000000,.ip qk),(1000001,.ip j0)],[]⟩) (fun q=>uv q=uv s∧q.length≤s.length) (fun q=>q.length) q K .nrm s1:=fun s1 q' h0 h1 h2 h3 h4 K =>
  aC q' ⟨h3,by omega⟩ h4 (Wk.of ⟨h0,h1,h2,trivial⟩ trivial)
 by_cases h0:q.length=0
 ·have d0:decide ((q.length:Int)>0)=false:=az (by omega)
  have:q=[]:=tJ h0
  subst this
  rw [← hq,Ko]
  simp only [go_sem,d0,kC,Int.natCast_zero,gt_iff_lt,Int.lt_irrefl,decide_false]
  exact aE [] (by simp only [go_sem]) rfl
 have d0:decide ((q.length:Int)>0)=true:=by simp;omega
 have hx:(ac q 0).toNat<256:=(ac q 0).toNat_lt
 by_cases ha:(ac q 0).toNat<128
 ·have da:decide (((ac q 0).toNat:Int)<128)=true:=by simp;omega
  have hq1:uv (q.drop 1)=uv s:=by rw [← B8 (by omega) ha];exact hq
  have l1:(q.drop 1).length=q.length - 1:=by simp
  by_cases h8:(q.drop 1).length>8
  ·have d8:decide (((q.drop 1).length:Int)>8)=true:=by simp only [j6];omega
   simp only [go_sem,d0,da,d8]
   refine ⟨by omega,by omega,⟨by omega,by omega⟩,kJ (dJ (q.drop 1) (by omega)) (by simp [go_sem]) ?_⟩
   have a1:=sn (j5 (q.drop 1))
   by_cases t1:gC (q.drop 1) &&& 9259542123273814144=0
   ·have b1:(((gC (q.drop 1) &&& 9259542123273814144:Nat):Int)==0)=true:=by rw [t1];rfl
    have hq2:uv ((q.drop 1).drop 8)=uv s:=by rw [← iw (by omega) t1];exact hq1
    have l2:((q.drop 1).drop 8).length=q.length - 9:=by simp<;>omega
    generalize hq2e:(q.drop 1).drop 8=q2 at *
    by_cases h16:q2.length>16
    ·have d16:decide ((q2.length:Int)>16)=true:=aI (by omega)
     simp only [go_sem,a1,b1,hq2e,d16]
     refine ⟨⟨by omega,by omega⟩,?_⟩
     first | refine aa (dJ q2 (by omega)) ?_ | refine ar (dJ q2 (by omega)) (by simp [go_sem]) rfl ?_
     simp only [go_sem]
     refine ⟨⟨by omega,by omega⟩,?_⟩
     first | refine aa (dJ (q2.drop 8) (by simp;omega)) ?_ | refine ar (dJ (q2.drop 8) (by simp;omega)) (by simp [go_sem]) rfl ?_
     have o1:=E4 (j5 q2) (j5 (q2.drop 8))
     have a2:=sn o1.2
     by_cases t2:(gC q2 ||| gC (q2.drop 8)) &&& 9259542123273814144=0
     ·have b2:((((gC q2 ||| gC (q2.drop 8)) &&& 9259542123273814144:Nat):Int)==0)=true:=by rw [t2];rfl
      have hq3:uv (q2.drop 16)=uv s:=by
       have:=gl t2
       rw [show q2.drop 16=(q2.drop 8).drop 8 by rw [List.drop_drop],← iw (by simp;omega) this.2,← iw (by omega) this.1]
       exact hq2
      have l3:(q2.drop 16).length=q2.length - 16:=by simp
      simp only [go_sem,o1.1,a2,b2]
      refine ⟨⟨by omega,by omega⟩,?_⟩
      refine an (fun r:List UInt8=>⟨[(0,.str r),(1000000,.ip qk),(1000001,.ip j0)],[]⟩) (fun r=>uv r=uv s∧r.length<q.length) (fun r=>r.length) (q2.drop 16) ⟨hq3,by omega⟩ (Wk.of ?_ ?_) ?_
      ·simp only [go_sem]
      ·simp only [go_sem]
      rintro r ⟨hr,hrl⟩
      replace hr:uv r=uv s:=hr
      replace hrl:r.length<q.length:=hrl
      by_cases h32:r.length>32
      ·have d32:decide ((r.length:Int)>32)=true:=aI (by omega)
       simp only [go_sem,d32]
       first | refine aa (dJ r (by omega)) ?_ | refine ar (dJ r (by omega)) (by simp [go_sem]) rfl ?_
       simp only [go_sem]
       refine ⟨⟨by omega,by omega⟩,?_⟩
       first | refine aa (dJ (r.drop 8) (by simp;omega)) ?_ | refine ar (dJ (r.drop 8) (by simp;omega)) (by simp [go_sem]) rfl ?_
       simp only [go_sem]
       refine ⟨⟨by omega,by omega⟩,?_⟩
       first | refine aa (dJ (r.drop 16) (by simp;omega)) ?_ | refine ar (dJ (r.drop 16) (by simp;omega)) (by simp [go_sem]) rfl ?_
       simp only [go_sem]
       refine ⟨⟨by omega,by omega⟩,?_⟩
       first | refine aa (dJ (r.drop 24) (by simp;omega)) ?_ | refine ar (dJ (r.drop 24) (by simp;omega)) (by simp [go_sem]) rfl ?_
       have o2:=E4 (j5 r) (j5 (r.drop 8))
       have o3:=E4 (j5 (r.drop 16)) (j5 (r.drop 24))
       have o4:=E4 o2.2 o3.2
       have a3:=sn o4.2
       by_cases t3:((gC r ||| gC (r.drop 8)) ||| (gC (r.drop 16) ||| gC (r.drop 24))) &&& 9259542123273814144=0
       ·have b3:(((((gC r ||| gC (r.drop 8)) ||| (gC (r.drop 16) ||| gC (r.drop 24))) &&& 9259542123273814144:Nat):Int)==0)=true:=by rw [t3];rfl
        have hr4:uv (r.drop 32)=uv s:=by
         have g1:=gl t3
         have g2:=gl g1.1
         have g3:=gl g1.2
         rw [show r.drop 32=(r.drop 24).drop 8 by rw [List.drop_drop],← iw (by simp;omega) g3.2,show r.drop 24=(r.drop 16).drop 8 by rw [List.drop_drop],← iw (by simp;omega) g3.1,
          show r.drop 16=(r.drop 8).drop 8 by rw [List.drop_drop],← iw (by simp;omega) g2.2,← iw (by omega) g2.1]
         exact hr
        simp only [go_sem,o2.1,o3.1,o4.1,a3,b3]
        exact ⟨⟨by omega,by omega⟩,aC (r.drop 32) ⟨hr4,by simp;omega⟩ (show (r.drop 32).length<r.length by simp;omega) (Wk.of (by simp only [go_sem]) (by simp only [go_sem]))⟩
       ·have b3:(((((gC r ||| gC (r.drop 8)) ||| (gC (r.drop 16) ||| gC (r.drop 24))) &&& 9259542123273814144:Nat):Int)==0)=false:=by rw [mz];omega
        simp only [go_sem,o2.1,o3.1,o4.1,a3,b3]
        exact fin _ r (by simp only [go_sem]) (by simp only [go_sem]) (by simp only [go_sem]) hr hrl _
      ·have d32:decide ((r.length:Int)>32)=false:=az (by omega)
       simp only [go_sem,d32]
       exact fin _ r (by simp only [go_sem]) (by simp only [go_sem]) (by simp only [go_sem]) hr hrl _
     ·have b2:((((gC q2 ||| gC (q2.drop 8)) &&& 9259542123273814144:Nat):Int)==0)=false:=by rw [mz];omega
      simp only [go_sem,o1.1,a2,b2]
      exact fin _ q2 (by simp only [go_sem]) (by simp only [go_sem]) (by simp only [go_sem]) hq2 (by omega) _
    ·have d16:decide ((q2.length:Int)>16)=false:=az (by omega)
     simp only [go_sem,a1,b1,hq2e,d16]
     exact ⟨⟨by omega,by omega⟩,fin _ q2 (by simp only [go_sem]) (by simp only [go_sem]) (by simp only [go_sem]) hq2 (by omega) _⟩
   ·have b1:(((gC (q.drop 1) &&& 9259542123273814144:Nat):Int)==0)=false:=by rw [mz];omega
    simp only [go_sem,a1,b1]
    exact fin _ (q.drop 1) (by simp only [go_sem]) (by simp only [go_sem]) (by simp only [go_sem]) hq1 (by omega) _
  ·have d8:decide (((q.drop 1).length:Int)>8)=false:=by simp only [decide_eq_false_iff_not];omega
   simp only [go_sem,d0,da,d8]
   exact ⟨by omega,by omega,⟨by omega,by omega⟩,fin _ (q.drop 1) (by simp only [go_sem]) (by simp only [go_sem]) (by simp only [go_sem]) hq1 (by omega) _⟩
 ·have da:decide (((ac q 0).toNat:Int)<128)=false:=by simp;omega
  have hf:=zb (ac q 0).toNat
  have e1:=Av hx
  have e2:=and7 hf
  have e3:IntKind.i64.wrap ((Lib.firstT (ac q 0).toNat % 8:Nat):Int)=((Lib.firstT (ac q 0).toNat % 8:Nat):Int):=wi (by omega) (by omega)
  have e4:tV .u8 (Lib.firstT (ac q 0).toNat:Int) 4=((Lib.firstT (ac q 0).toNat / 16:Nat):Int):=Fx .u8 (x:=Lib.firstT (ac q 0).toNat) (s:=4) (by decide)
  have e5:=I2 (i:=Lib.firstT (ac q 0).toNat / 16) (by omega)
  have bad:ju q=none→∀s1:St,get s1.env 2 = .bool false→mU [.tmp 2] (.bool (uv s)) .ret s1:=fun hr s1 hg=>by
   rw [← hq,Kn (by omega) ha hr]
   exact aE [] (by simp only [jU,pX,rh,frzs,hg,pk,↓reduceIte]) rfl
  have good:∀k,ju q=some k→uv (q.drop k)=uv s∧(q.drop k).length<q.length:=fun k hk=>by
   have:=nY hk
   exact ⟨by rw [← Kp (by omega) ha hk];exact hq,by simp;omega⟩
  by_cases z2:Lib.firstT (ac q 0).toNat % 8=2
  ·have b2:(((Lib.firstT (ac q 0).toNat % 8:Nat):Int)==2)=true:=by rw [z2];rfl
   have r2:=Rm z2
   simp (config:={ maxSteps:=1000000 }) only [go_sem,d0,da,e1,e2,e3,e4,e5,b2]
   exact ⟨by omega,by omega,⟨by omega,by omega⟩,by decide,⟨by omega,by omega⟩,fun h1=>bad (by rw [r2,aV (by omega)]) _ (by simp only [go_sem]),fun h1=>⟨by omega,by omega,fun h2=>bad (by rw [r2,aV (by omega)]) _ (by simp only [go_sem]),fun h2=>⟨by omega,by omega,fun h3=>bad (by rw [r2,aV (by omega)]) _ (by simp only [go_sem]),fun h3=>⟨⟨by omega,by omega⟩,fin _ (q.drop 2) (by simp only [go_sem]) (by simp only [go_sem]) (by simp only [go_sem]) (good 2 (by rw [r2,bz (by omega)])).1 (good 2 (by rw [r2,bz (by omega)])).2 _⟩⟩⟩⟩
  have n2:(((Lib.firstT (ac q 0).toNat % 8:Nat):Int)==2)=false:=by rw [mz];omega
  by_cases z3:Lib.firstT (ac q 0).toNat % 8=3
  ·have b3:(((Lib.firstT (ac q 0).toNat % 8:Nat):Int)==3)=true:=by rw [z3];rfl
   have r3:=Rn z3
   simp (config:={ maxSteps:=1000000 }) only [go_sem,d0,da,e1,e2,e3,e4,e5,b3,n2]
   exact ⟨by omega,by omega,⟨by omega,by omega⟩,by decide,⟨by omega,by omega⟩,fun h1=>bad (by rw [r3,aV (by omega)]) _ (by simp only [go_sem]),fun h1=>⟨by omega,by omega,fun h2=>bad (by rw [r3,aV (by omega)]) _ (by simp only [go_sem]),fun h2=>⟨by omega,by omega,fun h3=>bad (by rw [r3,aV (by omega)]) _ (by simp only [go_sem]),fun h3=>⟨by omega,by omega,fun h4=>bad (by rw [r3,aV (by omega)]) _ (by simp only [go_sem]),fun h4=>⟨by omega,by omega,fun h5=>bad (by rw [r3,aV (by omega)]) _ (by simp only [go_sem]),fun h5=>⟨⟨by omega,by omega⟩,fin _ (q.drop 3) (by simp only [go_sem]) (by simp only [go_sem]) (by simp only [go_sem]) (good 3 (by rw [r3,bz (by omega)])).1 (good 3 (by rw [r3,bz (by omega)])).2 _⟩⟩⟩⟩⟩⟩
  have n3:(((Lib.firstT (ac q 0).toNat % 8:Nat):Int)==3)=false:=by rw [mz];omega
  by_cases z4:Lib.firstT (ac q 0).toNat % 8=4
  ·have b4:(((Lib.firstT (ac q 0).toNat % 8:Nat):Int)==4)=true:=by rw [z4];rfl
   have r4:=Ro z4
   simp (config:={ maxSteps:=1000000 }) only [go_sem,d0,da,e1,e2,e3,e4,e5,b4,n2,n3]
   exact ⟨by omega,by omega,⟨by omega,by omega⟩,by decide,⟨by omega,by omega⟩,fun h1=>bad (by rw [r4,aV (by omega)]) _ (by simp only [go_sem]),fun h1=>⟨by omega,by omega,fun h2=>bad (by rw [r4,aV (by omega)]) _ (by simp only [go_sem]),fun h2=>⟨by omega,by omega,fun h3=>bad (by rw [r4,aV (by omega)]) _ (by simp only [go_sem]),fun h3=>⟨by omega,by omega,fun h4=>bad (by rw [r4,aV (by omega)]) _ (by simp only [go_sem]),fun h4=>⟨by omega,by omega,fun h5=>bad (by rw [r4,aV (by omega)]) _ (by simp only [go_sem]),fun h5=>⟨by omega,by omega,fun h6=>bad (by rw [r4,aV (by omega)]) _ (by simp only [go_sem]),fun h6=>⟨by omega,by omega,fun h7=>bad (by rw [r4,aV (by omega)]) _ (by simp only [go_sem]),fun h7=>⟨⟨by omega,by omega⟩,fin _ (q.drop 4) (by simp only [go_sem]) (by simp only [go_sem]) (by simp only [go_sem]) (good 4 (by rw [r4,bz (by omega)])).1 (good 4 (by rw [r4,bz (by omega)])).2 _⟩⟩⟩⟩⟩⟩⟩⟩
  have n4:(((Lib.firstT (ac q 0).toNat % 8:Nat):Int)==4)=false:=by rw [mz];omega
  simp only [go_sem,d0,da,e1,e2,e3,e4,e5,n2,n3,n4]
  exact ⟨by omega,by omega,⟨by omega,by omega⟩,by decide,⟨by omega,by omega⟩,bad (runN z2 z3 z4) _ (by simp only [go_sem])⟩
def Rq:Option (List UInt8)→AV
 | none=>.nl
 | some l=>.sl 1 (l.map m2)
theorem ca (o:Option (List UInt8)):aF (Rq o)=[]:=by cases o<;>rfl
theorem BY:Rq none = .nl:=rfl
theorem BZ (l:List UInt8):Rq (some l) = .sl 1 (l.map m2):=rfl
attribute [go_sem] BY BZ
attribute [go_sem] bne_self_eq_false rZ
section
variable (b:List UInt8) (a:Nat) (e:Int) (ha:a≤b.length) (hb:b.length<1000000000)
include ha hb
end
theorem fV:∀l:List UInt8,fU (l.map m2)=some l
 | []=>rfl
 | b :: l=>by
  simp only [dP,m2,fU,fV l,dM,gX,UInt8.ofNat_toNat]
section
variable (n:Int) (b:List UInt8) (a:Nat) (e:Int) (b2:List UInt8) (a2:Nat) (e2:Int) (hn:-9223372036854775808≤n∧n<9223372036854775808) (ha:a≤b.length) (hb:b.length<1000000000) (ha2:a2≤b2.length) (hb2:b2.length<1000000000)
include hn ha hb ha2 hb2
end
end Go.Proofs.YteephfapgoncgaaGreatDoor