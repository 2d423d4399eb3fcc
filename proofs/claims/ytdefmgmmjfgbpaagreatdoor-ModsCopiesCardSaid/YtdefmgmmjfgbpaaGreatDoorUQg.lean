import Derived.Test.YtdefmgmmjfgbpaaGreatDoorUQf
set_option linter.all false
set_option maxRecDepth 100000
set_option maxHeartbeats 8000000
namespace Go.Proofs.YtdefmgmmjfgbpaaGreatDoor
open Go Go.Mw
theorem and7 {x:Nat} (hx:x<256):AY .u8 (x:Int) 7=((x % 8:Nat):Int):=by
 have:(BitVec.ofInt 8 (x:Int) &&& BitVec.ofInt 8 ((7:Nat):Int)).toNat=x &&& 7:=vJ hx (by decide)
 show IntKind.u8.wrap ((BitVec.ofInt 8 (x:Int) &&& BitVec.ofInt 8 ((7:Nat):Int)).toNat)=_
 rw [this,show (7:Nat)=2 ^ 3 - 1 from rfl,Nat.and_two_pow_sub_one_eq_mod,Vf]
 omega
theorem U0 {l:List UInt8} (z:Lib.firstT (aj l 0).toNat % 8=2):jJ l=if 2≤l.length∧Lib.accLo (Lib.firstT (aj l 0).toNat / 16)≤(aj l 1).toNat∧(aj l 1).toNat≤Lib.accHi (Lib.firstT (aj l 0).toNat / 16) then some 2 else none:=by
 unfold jJ
 simp only
 rw [bz z]
theorem U1 {l:List UInt8} (z:Lib.firstT (aj l 0).toNat % 8=3):jJ l=if 3≤l.length∧Lib.accLo (Lib.firstT (aj l 0).toNat / 16)≤(aj l 1).toNat∧(aj l 1).toNat≤Lib.accHi (Lib.firstT (aj l 0).toNat / 16)∧128≤(aj l 2).toNat∧(aj l 2).toNat≤191 then some 3 else none:=by
 unfold jJ
 simp only
 rw [aJ (by omega),bz z]
theorem U2 {l:List UInt8} (z:Lib.firstT (aj l 0).toNat % 8=4):jJ l=if 4≤l.length∧Lib.accLo (Lib.firstT (aj l 0).toNat / 16)≤(aj l 1).toNat∧(aj l 1).toNat≤Lib.accHi (Lib.firstT (aj l 0).toNat / 16)∧128≤(aj l 2).toNat∧(aj l 2).toNat≤191∧128≤(aj l 3).toNat∧(aj l 3).toNat≤191 then some 4 else none:=by
 unfold jJ
 simp only
 rw [aJ (by omega),aJ (by omega),bz z]
theorem runN {l:List UInt8} (z2:¬Lib.firstT (aj l 0).toNat % 8=2) (z3:¬Lib.firstT (aj l 0).toNat % 8=3) (z4:¬Lib.firstT (aj l 0).toNat % 8=4):jJ l=none:=by
 unfold jJ
 simp only
 rw [aJ z2,aJ z3,aJ z4]
theorem BE (b:Nat):Lib.firstT b<256:=by
 rcases Lib.firstT_cases b with h | h | h | h | h | h | h | h | h<;>rw [h]<;>decide
theorem CZ {x:Nat} (hx:x<256):iF none (rT.drop (x * 1))=some (.int .u8 (Lib.firstT x)):=by
 have:(rT.drop x)[0]? = some (.int .u8 (Lib.firstT x)):=by
  rw [List.getElem?_drop,Nat.add_zero,rT,d_,List.getElem?_range hx];rfl
 rw [Nat.mul_one]
 simp only [iF]
 exact this
theorem Me {i:Nat} (hi:i<16):iF (some 2) (km.drop (i * 2))=some (.agg [.int .u8 (Lib.accLo i),.int .u8 (Lib.accHi i)]):=by
 have hl:km.length=32:=by simp [km]
 have e0:km[i * 2]? = some (.int .u8 (Lib.accLo i)):=by
  rw [km,d_,List.getElem?_range (by omega)]
  simp only [cK]
  rw [bz (by omega),show i * 2 / 2=i by omega]
 have e1:km[i * 2+1]? = some (.int .u8 (Lib.accHi i)):=by
  rw [km,d_,List.getElem?_range (by omega)]
  simp only [cK]
  rw [aJ (by omega),show (i * 2+1) / 2=i by omega]
 have h0:i * 2<km.length:=by omega
 have h1:i * 2+1<km.length:=by omega
 simp only [iF]
 rw [bz (by simp [hl];omega),List.drop_eq_getElem_cons h0,List.drop_eq_getElem_cons h1]
 rw [eJ h0] at e0
 rw [eJ h1] at e1
 simp only [List.take_succ_cons,dN,Option.some.inj e0,Option.some.inj e1]
theorem Rf (s:List UInt8) (hs:s.length<1000000000):ak Tryz.prog Ui [.str s] (.bool (uv s)):=by
 refine td (ic:=JX.body) [(1000000,.ip rT),(1000001,.ip km)] (fun p hp=>hp) ap SG rfl rfl ?_
 simp only [JX,go_sem]
 refine an (fun q:List UInt8=>⟨[(0,.str q),(1000000,.ip rT),(1000001,.ip km)],[]⟩) (fun q=>uv q=uv s∧q.length≤s.length) (fun q=>q.length) s ⟨rfl,bD _⟩ (Wk.of ?_ ?_) ?_
 ·simp only [go_sem]
 ·simp only [go_sem]
 rintro q ⟨hq,hl⟩
 replace hq:uv q=uv s:=hq
 replace hl:q.length≤s.length:=hl
 have fin:∀(s1:St) (q':List UInt8),get s1.env 0 = .str q'→get s1.env 1000000 = .ip rT→get s1.env 1000001 = .ip km→uv q'=uv s→q'.length<q.length→∀K,
   PH (fun q:List UInt8=>⟨[(0,.str q),(1000000,.ip rT),(1000001,.ip km)],[]⟩) (fun q=>uv q=uv s∧q.length≤s.length) (fun q=>q.length) q K .nrm s1:=fun s1 q' h0 h1 h2 h3 h4 K =>
  aA q' ⟨h3,by omega⟩ h4 (Wk.of ⟨h0,h1,h2,trivial⟩ trivial)
 by_cases h0:q.length=0
 ·have d0:decide ((q.length:Int)>0)=false:=au (by omega)
  have:q=[]:=jw h0
  subst this
  rw [← hq,NL]
  simp only [go_sem,d0,lp,Int.natCast_zero,gt_iff_lt,Int.lt_irrefl,decide_false]
  exact aL [] (by simp only [go_sem]) rfl
 have d0:decide ((q.length:Int)>0)=true:=by simp;omega
 have hx:(aj q 0).toNat<256:=(aj q 0).toNat_lt
 by_cases ha:(aj q 0).toNat<128
 ·have da:decide (((aj q 0).toNat:Int)<128)=true:=by simp;omega
  have hq1:uv (q.drop 1)=uv s:=by rw [← EJ (by omega) ha];exact hq
  have l1:(q.drop 1).length=q.length - 1:=by simp
  by_cases h8:(q.drop 1).length>8
  ·have d8:decide (((q.drop 1).length:Int)>8)=true:=by simp only [kw];omega
   simp only [go_sem,d0,da,d8]
   refine ⟨by omega,by omega,⟨by omega,by omega⟩,lB (er (q.drop 1) (by omega)) (by simp [go_sem]) ?_⟩
   have a1:=uh (ku (q.drop 1))
   by_cases t1:gV (q.drop 1) &&& 9259542123273814144=0
   ·have b1:(((gV (q.drop 1) &&& 9259542123273814144:Nat):Int)==0)=true:=by rw [t1];rfl
    have hq2:uv ((q.drop 1).drop 8)=uv s:=by rw [← iM (by omega) t1];exact hq1
    have l2:((q.drop 1).drop 8).length=q.length - 9:=by simp<;>omega
    generalize hq2e:(q.drop 1).drop 8=q2 at *
    by_cases h16:q2.length>16
    ·have d16:decide ((q2.length:Int)>16)=true:=az (by omega)
     simp only [go_sem,a1,b1,hq2e,d16]
     refine ⟨⟨by omega,by omega⟩,?_⟩
     first | refine aa (er q2 (by omega)) ?_ | refine aQ (er q2 (by omega)) (by simp [go_sem]) rfl ?_
     simp only [go_sem]
     refine ⟨⟨by omega,by omega⟩,?_⟩
     first | refine aa (er (q2.drop 8) (by simp;omega)) ?_ | refine aQ (er (q2.drop 8) (by simp;omega)) (by simp [go_sem]) rfl ?_
     have o1:=H_ (ku q2) (ku (q2.drop 8))
     have a2:=uh o1.2
     by_cases t2:(gV q2 ||| gV (q2.drop 8)) &&& 9259542123273814144=0
     ·have b2:((((gV q2 ||| gV (q2.drop 8)) &&& 9259542123273814144:Nat):Int)==0)=true:=by rw [t2];rfl
      have hq3:uv (q2.drop 16)=uv s:=by
       have:=gI t2
       rw [show q2.drop 16=(q2.drop 8).drop 8 by rw [List.drop_drop],← iM (by simp;omega) this.2,← iM (by omega) this.1]
       exact hq2
      have l3:(q2.drop 16).length=q2.length - 16:=by simp
      simp only [go_sem,o1.1,a2,b2]
      refine ⟨⟨by omega,by omega⟩,?_⟩
      refine an (fun r:List UInt8=>⟨[(0,.str r),(1000000,.ip rT),(1000001,.ip km)],[]⟩) (fun r=>uv r=uv s∧r.length<q.length) (fun r=>r.length) (q2.drop 16) ⟨hq3,by omega⟩ (Wk.of ?_ ?_) ?_
      ·simp only [go_sem]
      ·simp only [go_sem]
      rintro r ⟨hr,hrl⟩
      replace hr:uv r=uv s:=hr
      replace hrl:r.length<q.length:=hrl
      by_cases h32:r.length>32
      ·have d32:decide ((r.length:Int)>32)=true:=az (by omega)
       simp only [go_sem,d32]
       first | refine aa (er r (by omega)) ?_ | refine aQ (er r (by omega)) (by simp [go_sem]) rfl ?_
       simp only [go_sem]
       refine ⟨⟨by omega,by omega⟩,?_⟩
       first | refine aa (er (r.drop 8) (by simp;omega)) ?_ | refine aQ (er (r.drop 8) (by simp;omega)) (by simp [go_sem]) rfl ?_
       simp only [go_sem]
       refine ⟨⟨by omega,by omega⟩,?_⟩
       first | refine aa (er (r.drop 16) (by simp;omega)) ?_ | refine aQ (er (r.drop 16) (by simp;omega)) (by simp [go_sem]) rfl ?_
       simp only [go_sem]
       refine ⟨⟨by omega,by omega⟩,?_⟩
       first | refine aa (er (r.drop 24) (by simp;omega)) ?_ | refine aQ (er (r.drop 24) (by simp;omega)) (by simp [go_sem]) rfl ?_
       have o2:=H_ (ku r) (ku (r.drop 8))
       have o3:=H_ (ku (r.drop 16)) (ku (r.drop 24))
       have o4:=H_ o2.2 o3.2
       have a3:=uh o4.2
       by_cases t3:((gV r ||| gV (r.drop 8)) ||| (gV (r.drop 16) ||| gV (r.drop 24))) &&& 9259542123273814144=0
       ·have b3:(((((gV r ||| gV (r.drop 8)) ||| (gV (r.drop 16) ||| gV (r.drop 24))) &&& 9259542123273814144:Nat):Int)==0)=true:=by rw [t3];rfl
        have hr4:uv (r.drop 32)=uv s:=by
         have g1:=gI t3
         have g2:=gI g1.1
         have g3:=gI g1.2
         rw [show r.drop 32=(r.drop 24).drop 8 by rw [List.drop_drop],← iM (by simp;omega) g3.2,show r.drop 24=(r.drop 16).drop 8 by rw [List.drop_drop],← iM (by simp;omega) g3.1,
          show r.drop 16=(r.drop 8).drop 8 by rw [List.drop_drop],← iM (by simp;omega) g2.2,← iM (by omega) g2.1]
         exact hr
        simp only [go_sem,o2.1,o3.1,o4.1,a3,b3]
        exact ⟨⟨by omega,by omega⟩,aA (r.drop 32) ⟨hr4,by simp;omega⟩ (show (r.drop 32).length<r.length by simp;omega) (Wk.of (by simp only [go_sem]) (by simp only [go_sem]))⟩
       ·have b3:(((((gV r ||| gV (r.drop 8)) ||| (gV (r.drop 16) ||| gV (r.drop 24))) &&& 9259542123273814144:Nat):Int)==0)=false:=by rw [i1];omega
        simp only [go_sem,o2.1,o3.1,o4.1,a3,b3]
        exact fin _ r (by simp only [go_sem]) (by simp only [go_sem]) (by simp only [go_sem]) hr hrl _
      ·have d32:decide ((r.length:Int)>32)=false:=au (by omega)
       simp only [go_sem,d32]
       exact fin _ r (by simp only [go_sem]) (by simp only [go_sem]) (by simp only [go_sem]) hr hrl _
     ·have b2:((((gV q2 ||| gV (q2.drop 8)) &&& 9259542123273814144:Nat):Int)==0)=false:=by rw [i1];omega
      simp only [go_sem,o1.1,a2,b2]
      exact fin _ q2 (by simp only [go_sem]) (by simp only [go_sem]) (by simp only [go_sem]) hq2 (by omega) _
    ·have d16:decide ((q2.length:Int)>16)=false:=au (by omega)
     simp only [go_sem,a1,b1,hq2e,d16]
     exact ⟨⟨by omega,by omega⟩,fin _ q2 (by simp only [go_sem]) (by simp only [go_sem]) (by simp only [go_sem]) hq2 (by omega) _⟩
   ·have b1:(((gV (q.drop 1) &&& 9259542123273814144:Nat):Int)==0)=false:=by rw [i1];omega
    simp only [go_sem,a1,b1]
    exact fin _ (q.drop 1) (by simp only [go_sem]) (by simp only [go_sem]) (by simp only [go_sem]) hq1 (by omega) _
  ·have d8:decide (((q.drop 1).length:Int)>8)=false:=by simp only [decide_eq_false_iff_not];omega
   simp only [go_sem,d0,da,d8]
   exact ⟨by omega,by omega,⟨by omega,by omega⟩,fin _ (q.drop 1) (by simp only [go_sem]) (by simp only [go_sem]) (by simp only [go_sem]) hq1 (by omega) _⟩
 ·have da:decide (((aj q 0).toNat:Int)<128)=false:=by simp;omega
  have hf:=BE (aj q 0).toNat
  have e1:=CZ hx
  have e2:=and7 hf
  have e3:IntKind.i64.wrap ((Lib.firstT (aj q 0).toNat % 8:Nat):Int)=((Lib.firstT (aj q 0).toNat % 8:Nat):Int):=wi (by omega) (by omega)
  have e4:vL .u8 (Lib.firstT (aj q 0).toNat:Int) 4=((Lib.firstT (aj q 0).toNat / 16:Nat):Int):=IM .u8 (x:=Lib.firstT (aj q 0).toNat) (s:=4) (by decide)
  have e5:=Me (i:=Lib.firstT (aj q 0).toNat / 16) (by omega)
  have bad:jJ q=none→∀s1:St,get s1.env 2 = .bool false→nV [.tmp 2] (.bool (uv s)) .ret s1:=fun hr s1 hg=>by
   rw [← hq,NK (by omega) ha hr]
   exact aL [] (by simp only [ke,rq,sR,frzs,hg,qC,↓reduceIte]) rfl
  have good:∀k,jJ q=some k→uv (q.drop k)=uv s∧(q.drop k).length<q.length:=fun k hk=>by
   have:=pn hk
   exact ⟨by rw [← NM (by omega) ha hk];exact hq,by simp;omega⟩
  by_cases z2:Lib.firstT (aj q 0).toNat % 8=2
  ·have b2:(((Lib.firstT (aj q 0).toNat % 8:Nat):Int)==2)=true:=by rw [z2];rfl
   have r2:=U0 z2
   simp (config:={ maxSteps:=1000000 }) only [go_sem,d0,da,e1,e2,e3,e4,e5,b2]
   exact ⟨by omega,by omega,⟨by omega,by omega⟩,by decide,⟨by omega,by omega⟩,fun h1=>bad (by rw [r2,aJ (by omega)]) _ (by simp only [go_sem]),fun h1=>⟨by omega,by omega,fun h2=>bad (by rw [r2,aJ (by omega)]) _ (by simp only [go_sem]),fun h2=>⟨by omega,by omega,fun h3=>bad (by rw [r2,aJ (by omega)]) _ (by simp only [go_sem]),fun h3=>⟨⟨by omega,by omega⟩,fin _ (q.drop 2) (by simp only [go_sem]) (by simp only [go_sem]) (by simp only [go_sem]) (good 2 (by rw [r2,bz (by omega)])).1 (good 2 (by rw [r2,bz (by omega)])).2 _⟩⟩⟩⟩
  have n2:(((Lib.firstT (aj q 0).toNat % 8:Nat):Int)==2)=false:=by rw [i1];omega
  by_cases z3:Lib.firstT (aj q 0).toNat % 8=3
  ·have b3:(((Lib.firstT (aj q 0).toNat % 8:Nat):Int)==3)=true:=by rw [z3];rfl
   have r3:=U1 z3
   simp (config:={ maxSteps:=1000000 }) only [go_sem,d0,da,e1,e2,e3,e4,e5,b3,n2]
   exact ⟨by omega,by omega,⟨by omega,by omega⟩,by decide,⟨by omega,by omega⟩,fun h1=>bad (by rw [r3,aJ (by omega)]) _ (by simp only [go_sem]),fun h1=>⟨by omega,by omega,fun h2=>bad (by rw [r3,aJ (by omega)]) _ (by simp only [go_sem]),fun h2=>⟨by omega,by omega,fun h3=>bad (by rw [r3,aJ (by omega)]) _ (by simp only [go_sem]),fun h3=>⟨by omega,by omega,fun h4=>bad (by rw [r3,aJ (by omega)]) _ (by simp only [go_sem]),fun h4=>⟨by omega,by omega,fun h5=>bad (by rw [r3,aJ (by omega)]) _ (by simp only [go_sem]),fun h5=>⟨⟨by omega,by omega⟩,fin _ (q.drop 3) (by simp only [go_sem]) (by simp only [go_sem]) (by simp only [go_sem]) (good 3 (by rw [r3,bz (by omega)])).1 (good 3 (by rw [r3,bz (by omega)])).2 _⟩⟩⟩⟩⟩⟩
  have n3:(((Lib.firstT (aj q 0).toNat % 8:Nat):Int)==3)=false:=by rw [i1];omega
  by_cases z4:Lib.firstT (aj q 0).toNat % 8=4
  ·have b4:(((Lib.firstT (aj q 0).toNat % 8:Nat):Int)==4)=true:=by rw [z4];rfl
   have r4:=U2 z4
   simp (config:={ maxSteps:=1000000 }) only [go_sem,d0,da,e1,e2,e3,e4,e5,b4,n2,n3]
   exact ⟨by omega,by omega,⟨by omega,by omega⟩,by decide,⟨by omega,by omega⟩,fun h1=>bad (by rw [r4,aJ (by omega)]) _ (by simp only [go_sem]),fun h1=>⟨by omega,by omega,fun h2=>bad (by rw [r4,aJ (by omega)]) _ (by simp only [go_sem]),fun h2=>⟨by omega,by omega,fun h3=>bad (by rw [r4,aJ (by omega)]) _ (by simp only [go_sem]),fun h3=>⟨by omega,by omega,fun h4=>bad (by rw [r4,aJ (by omega)]) _ (by simp only [go_sem]),fun h4=>⟨by omega,by omega,fun h5=>bad (by rw [r4,aJ (by omega)]) _ (by simp only [go_sem]),fun h5=>⟨by omega,by omega,fun h6=>bad (by rw [r4,aJ (by omega)]) _ (by simp only [go_sem]),fun h6=>⟨by omega,by omega,fun h7=>bad (by rw [r4,aJ (by omega)]) _ (by simp only [go_sem]),fun h7=>⟨⟨by omega,by omega⟩,fin _ (q.drop 4) (by simp only [go_sem]) (by simp only [go_sem]) (by simp only [go_sem]) (good 4 (by rw [r4,bz (by omega)])).1 (good 4 (by rw [r4,bz (by omega)])).2 _⟩⟩⟩⟩⟩⟩⟩⟩
  have n4:(((Lib.firstT (aj q 0).toNat % 8:Nat):Int)==4)=false:=by rw [i1];omega
  simp only [go_sem,d0,da,e1,e2,e3,e4,e5,n2,n3,n4]
  exact ⟨by omega,by omega,⟨by omega,by omega⟩,by decide,⟨by omega,by omega⟩,bad (runN z2 z3 z4) _ (by simp only [go_sem])⟩
def U5:Option (List UInt8)→AV
 | none=>.nl
 | some l=>.sl 1 (l.map ni)
theorem b_ (o:Option (List UInt8)):ax (U5 o)=[]:=by cases o<;>rfl
theorem Ev:U5 none = .nl:=rfl
theorem Ew (l:List UInt8):U5 (some l) = .sl 1 (l.map ni):=rfl
attribute [go_sem] Ev Ew
attribute [go_sem] bne_self_eq_false tT
section
variable (b:List UInt8) (a:Nat) (e:Int) (ha:a≤b.length) (hb:b.length<1000000000)
include ha hb
end
theorem dg:∀l:List UInt8,gr (l.map ni)=some l
 | []=>rfl
 | b :: l=>by
  simp only [ee,ni,gr,dg l,cK,I6,UInt8.ofNat_toNat]
section
variable (n:Int) (b:List UInt8) (a:Nat) (e:Int) (b2:List UInt8) (a2:Nat) (e2:Int) (hn:-9223372036854775808≤n∧n<9223372036854775808) (ha:a≤b.length) (hb:b.length<1000000000) (ha2:a2≤b2.length) (hb2:b2.length<1000000000)
include hn ha hb ha2 hb2
end
end Go.Proofs.YtdefmgmmjfgbpaaGreatDoor