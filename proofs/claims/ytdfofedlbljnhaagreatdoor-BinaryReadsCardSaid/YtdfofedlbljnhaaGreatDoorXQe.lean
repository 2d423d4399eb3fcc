import Derived.Test.YtdfofedlbljnhaaGreatDoorXQd
import Derived.Shelf.Unicode.ValidAny
set_option linter.all false
set_option maxRecDepth 100000
set_option maxHeartbeats 8000000
namespace Go.Proofs.YtdfofedlbljnhaaGreatDoor
open Go Go.Mw Go.Shelf
def ahj{x:Nat}(hx:x<256):bO .u8 (x:Int) 7=((x%8:Nat):Int):=by
 have:(BitVec.ofInt 8 (x:Int) &&& BitVec.ofInt 8 ((7:Nat):Int)).toNat=x &&& 7:=yb hx (by decide);show IntKind.u8.wrap ((BitVec.ofInt 8 (x:Int) &&& BitVec.ofInt 8 ((7:Nat):Int)).toNat)=_;rw[this,show(7:Nat)=2^3-1 from rfl,Nat.and_two_pow_sub_one_eq_mod,rH];omega
def aiH{l:Af}(z:Lib.firstT (ac l 0).toNat%8=2):vT l=if 2<=l.length/\Lib.accLo (Lib.firstT (ac l 0).toNat/16)<=(ac l 1).toNat/\(ac l 1).toNat<=Lib.accHi (Lib.firstT (ac l 0).toNat/16)then some 2 else none:=by
 unfold vT Lib.checkN;rw[au z];split<;>split<;>first|rfl|(exfalso;omega)
def aiI{l:Af}(z:Lib.firstT (ac l 0).toNat%8=3):vT l=if 3<=l.length/\Lib.accLo (Lib.firstT (ac l 0).toNat/16)<=(ac l 1).toNat/\(ac l 1).toNat<=Lib.accHi (Lib.firstT (ac l 0).toNat/16)/\128<=(ac l 2).toNat/\(ac l 2).toNat<=191 then some 3 else none:=by
 unfold vT Lib.checkN;rw[ak (by omega),au z];split<;>split<;>first|rfl|(exfalso;omega)
def aiJ{l:Af}(z:Lib.firstT (ac l 0).toNat%8=4):vT l=if 4<=l.length/\Lib.accLo (Lib.firstT (ac l 0).toNat/16)<=(ac l 1).toNat/\(ac l 1).toNat<=Lib.accHi (Lib.firstT (ac l 0).toNat/16)/\128<=(ac l 2).toNat/\(ac l 2).toNat<=191/\128<=(ac l 3).toNat/\(ac l 3).toNat<=191 then some 4 else none:=by
 unfold vT Lib.checkN;rw[ak (by omega),ak (by omega),au z];split<;>split<;>first|rfl|(exfalso;omega)
def aiK{l:Af}(z2:¬Lib.firstT (ac l 0).toNat%8=2)(z3:¬Lib.firstT (ac l 0).toNat%8=3)(z4:¬Lib.firstT (ac l 0).toNat%8=4):vT l=none:=by
 unfold vT Lib.checkN;rw[ak z2,ak z3,ak z4]
def RR(b:Nat):Lib.firstT b<256:=by
 rcases Lib.firstT_cases b with h|h|h|h|h|h|h|h|h<;>rw[h]<;>decide
def SU{x:Nat}(hx:x<256):uI none (H8.drop (x*1))=some (.int .u8 (Lib.firstT x)):=by
 have:(H8.drop x)[0]?=some (.int .u8 (Lib.firstT x)):=by
  rw[Fe,Nat.add_zero,H8,jt,Ef hx];rfl
 rw[xQ];simp only[uI];exact this
def abI{i:Nat}(hi:i<16):uI (some 2) (xL.drop (i*2))=some (.agg [.int .u8 (Lib.accLo i),.int .u8 (Lib.accHi i)]):=by
 have hl:xL.length=32:=by simp[xL]
 have e0:xL[i*2]?=some (.int .u8 (Lib.accLo i)):=by
  rw[xL,jt,Ef (by omega)];simp only[gT];rw[au (by omega),show i*2/2=i by omega]
 have e1:xL[i*2+1]?=some (.int .u8 (Lib.accHi i)):=by
  rw[xL,jt,Ef (by omega)];simp only[gT];rw[ak (by omega),show(i*2+1)/2=i by omega]
 have h0:i*2<xL.length:=by omega
 have h1:i*2+1<xL.length:=by omega
 simp only[uI];rw[au (by simp[hl];omega),Kt h0,Kt h1];rw[kZ h0]at e0;rw[kZ h1]at e1;simp only[List.take_succ_cons,rI,zB e0,zB e1]
def acV:Go.Shelf.Ren:=⟨λ|196=>194|259=>273|n=>n,λ|9=>9|4=>4|3=>3|5=>5|12=>12|119=>325|0=>0|46=>320|139=>328|138=>327|53=>53|n=>n,λ|3=>0|4=>1|n=>n⟩
def Xr:Go.Proofs.Lays.n196 pg acV:={
 mixed:=by kernel_rfl
 f196:=Tryz.func194.trans (congrArg some (by kernel_rfl))
 f259:=Tryz.func273.trans (congrArg some (by kernel_rfl))
 t0:=Tryz.underlying0
 a0:=Tryz.isAgg0
 z0:=Tryz.sizeOf0
 v0:=Tryz.zeroValue0
 t3:=Tryz.underlying3
 a3:=Tryz.isAgg3
 z3:=Tryz.sizeOf3
 v3:=Tryz.zeroValue3
 t4:=Tryz.underlying4
 a4:=Tryz.isAgg4
 z4:=Tryz.sizeOf4
 v4:=Tryz.zeroValue4
 t5:=Tryz.underlying5
 a5:=Tryz.isAgg5
 z5:=Tryz.sizeOf5
 v5:=Tryz.zeroValue5
 t9:=Tryz.underlying9
 a9:=Tryz.isAgg9
 z9:=Tryz.sizeOf9
 v9:=Tryz.zeroValue9
 t12:=Tryz.underlying12
 a12:=Tryz.isAgg12
 z12:=Tryz.sizeOf12
 v12:=Tryz.zeroValue12
 t46:=Tryz.underlying320
 a46:=Tryz.isAgg320
 z46:=Tryz.sizeOf320
 v46:=Tryz.zeroValue320
 t53:=Tryz.underlying53
 a53:=Tryz.isAgg53
 z53:=Tryz.sizeOf53
 v53:=Tryz.zeroValue53
 t119:=Tryz.underlying325
 a119:=Tryz.isAgg325
 z119:=Tryz.sizeOf325
 t138:=Tryz.underlying327
 a138:=Tryz.isAgg327
 z138:=Tryz.sizeOf327
 v138:=Tryz.zeroValue327
 t139:=Tryz.underlying328
 a139:=Tryz.isAgg328
 z139:=Tryz.sizeOf328
 v139:=Tryz.zeroValue328
 g3:=by kernel_rfl
 g4:=by kernel_rfl}
def UV(s:Af)(hs:s.length<1000000000):aj pg 194 [.str s] (.bool (uv s)):=by
 refine aj.of (λw bl M cargs hH hM ha=>?_) rfl
 match cargs,ha with
 | [a],⟨h1,_⟩ =>
  obtain rfl:=h1.str;refine(Any.utf8_ValidString Xr ⟨s.toArray⟩ w (by simp[ByteArray.size];omega) hH.1).mono ?_;rintro e w' ⟨rfl,hb⟩;exact⟨_,rfl,⟨hb.size,λb h _=>hb.block b h,λb c t fr h=>⟨c,fr,(hb.block b (bM h)).trans h,rfl⟩,hb.os,hb.output⟩,IRel.bool _⟩
def agr(s:Af)(hs:s.length<1000000000):aj pg 297 [.sl 1 (List.map de s)] (.bool (uv s)):=by
 refine JW (ic:=FX2.body) [(1000000,.ip H8),(1000001,.ip xL)] (λp hp=>hp) s9 (cF FX2) rfl rfl ?_;simp only[FX2,go_sem];have e0:qR 1 (.sl 1 (List.map de s)) none (some (.int .i64 (s.length:Int))) (some (.int .i64 (s.length:Int)))=some (.sl 1 (List.map de s)):=by
  have h1:bQ (List.map de s).length (some (.int .i64 (s.length:Int)))=some s.length:=by simp only[bQ];rw[au (by omega),eB]
  have h2:bQ 0 none=some 0:=rfl;simp only[qR,h1,h2];rw[au ⟨trivial,cm _,a_ _,by simp⟩,vX,Nat.sub_zero,cI (by simp)]
 simp only[go_sem,e0];refine aq (λq:Af=>⟨[(0,.sl 1 (List.map de q)),(1000000,.ip H8),(1000001,.ip xL)],[]⟩) (λq=>uv q=uv s/\q.length<=s.length) (λq=>q.length) s ⟨rfl,a_ _⟩ (Wk.of ?_ ?_) ?_
 .simp only[go_sem]
 .simp only[go_sem]
 rintro q ⟨hq,hl⟩;replace hq:uv q=uv s:=hq;replace hl:q.length<=s.length:=hl;have fin:∀(s1:St)(q':Af),get s1.env 0 = .sl 1 (List.map de q')->get s1.env 1000000 = .ip H8->get s1.env 1000001 = .ip xL->uv q'=uv s->q'.length<q.length->∀K,
   ZN (λq:Af=>⟨[(0,.sl 1 (List.map de q)),(1000000,.ip H8),(1000001,.ip xL)],[]⟩) (λq=>uv q=uv s/\q.length<=s.length) (λq=>q.length) q K .nrm s1:=λs1 q' h0 h1 h2 h3 h4 K =>
  aF q' ⟨h3,by omega⟩ h4 (Wk.of ⟨h0,h1,h2,trivial⟩ trivial)
 by_cases h0:q.length=0
 .have d0:decide ((q.length:Int)>0)=false:=aL (by omega);have:q=[]:=B0 h0;subst this;rw[<-hq,adG];simp only[go_sem,d0,cj,rJ,gt_iff_lt,rK,decide_false];exact aB [] (by simp only[go_sem]) rfl
 have d0:decide ((q.length:Int)>0)=true:=by simp;omega
 have hx:(ac q 0).toNat<256:=(ac q 0).toNat_lt;by_cases ha:(ac q 0).toNat<128
 .have da:decide (((ac q 0).toNat:Int)<128)=true:=by simp;omega
  have hq1:uv (q.drop 1)=uv s:=by rw[<-adE (by omega) ha];exact hq
  have l1:(q.drop 1).length=q.length-1:=by simp
  by_cases h8:(q.drop 1).length>8
  .have d8:decide (((q.drop 1).length:Int)>8)=true:=by simp only[gj];omega
   simp only[go_sem,d0,da,d8];refine⟨by omega,by omega,⟨by omega,by omega⟩,dd (iE (q.drop 1) (by omega)) (by simp[go_sem]) ?_⟩;have a1:=KN (xO (q.drop 1));by_cases t1:zI (q.drop 1) &&& 9259542123273814144=0
   .have b1:(((zI (q.drop 1) &&& 9259542123273814144:Nat):Int)==0)=true:=by rw[t1];rfl
    have hq2:uv ((q.drop 1).drop 8)=uv s:=by rw[<-sy (by omega) t1];exact hq1
    have l2:((q.drop 1).drop 8).length=q.length-9:=by simp<;>omega
    generalize hq2e:(q.drop 1).drop 8=q2 at*;by_cases h16:q2.length>16
    .have d16:decide ((q2.length:Int)>16)=true:=aK (by omega);simp only[go_sem,a1,b1,hq2e,d16];refine⟨⟨by omega,by omega⟩,?_⟩
     first|refine ab (iE q2 (by omega)) ?_|refine cJ (iE q2 (by omega)) (by simp[go_sem]) rfl ?_
     simp only[go_sem];refine⟨⟨by omega,by omega⟩,?_⟩
     first|refine ab (iE (q2.drop 8) (by simp;omega)) ?_|refine cJ (iE (q2.drop 8) (by simp;omega)) (by simp[go_sem]) rfl ?_
     have o1:=Yc (xO q2) (xO (q2.drop 8));have a2:=KN o1.2;by_cases t2:(zI q2 ||| zI (q2.drop 8)) &&& 9259542123273814144=0
     .have b2:((((zI q2 ||| zI (q2.drop 8)) &&& 9259542123273814144:Nat):Int)==0)=true:=by rw[t2];rfl
      have hq3:uv (q2.drop 16)=uv s:=by
       have:=qf t2;rw[show q2.drop 16=(q2.drop 8).drop 8 by rw[AH],<-sy (by simp;omega) this.2,<-sy (by omega) this.1];exact hq2
      have l3:(q2.drop 16).length=q2.length-16:=by simp
      simp only[go_sem,o1.1,a2,b2];refine⟨⟨by omega,by omega⟩,?_⟩;refine aq (λr:Af=>⟨[(0,.sl 1 (List.map de r)),(1000000,.ip H8),(1000001,.ip xL)],[]⟩) (λr=>uv r=uv s/\r.length<q.length) (λr=>r.length) (q2.drop 16) ⟨hq3,by omega⟩ (Wk.of ?_ ?_) ?_
      .simp only[go_sem]
      .simp only[go_sem]
      rintro r ⟨hr,hrl⟩;replace hr:uv r=uv s:=hr;replace hrl:r.length<q.length:=hrl;by_cases h32:r.length>32
      .have d32:decide ((r.length:Int)>32)=true:=aK (by omega);simp only[go_sem,d32]
       first|refine ab (iE r (by omega)) ?_|refine cJ (iE r (by omega)) (by simp[go_sem]) rfl ?_
       simp only[go_sem];refine⟨⟨by omega,by omega⟩,?_⟩
       first|refine ab (iE (r.drop 8) (by simp;omega)) ?_|refine cJ (iE (r.drop 8) (by simp;omega)) (by simp[go_sem]) rfl ?_
       simp only[go_sem];refine⟨⟨by omega,by omega⟩,?_⟩
       first|refine ab (iE (r.drop 16) (by simp;omega)) ?_|refine cJ (iE (r.drop 16) (by simp;omega)) (by simp[go_sem]) rfl ?_
       simp only[go_sem];refine⟨⟨by omega,by omega⟩,?_⟩
       first|refine ab (iE (r.drop 24) (by simp;omega)) ?_|refine cJ (iE (r.drop 24) (by simp;omega)) (by simp[go_sem]) rfl ?_
       have o2:=Yc (xO r) (xO (r.drop 8));have o3:=Yc (xO (r.drop 16)) (xO (r.drop 24));have o4:=Yc o2.2 o3.2;have a3:=KN o4.2;by_cases t3:((zI r ||| zI (r.drop 8)) ||| (zI (r.drop 16) ||| zI (r.drop 24))) &&& 9259542123273814144=0
       .have b3:(((((zI r ||| zI (r.drop 8)) ||| (zI (r.drop 16) ||| zI (r.drop 24))) &&& 9259542123273814144:Nat):Int)==0)=true:=by rw[t3];rfl
        have hr4:uv (r.drop 32)=uv s:=by
         have g1:=qf t3;have g2:=qf g1.1;have g3:=qf g1.2
         rw[show r.drop 32=(r.drop 24).drop 8 by rw[AH],<-sy (by simp;omega) g3.2,show r.drop 24=(r.drop 16).drop 8 by rw[AH],<-sy (by simp;omega) g3.1,
          show r.drop 16=(r.drop 8).drop 8 by rw[AH],<-sy (by simp;omega) g2.2,<-sy (by omega) g2.1]
         exact hr
        simp only[go_sem,o2.1,o3.1,o4.1,a3,b3];exact⟨⟨by omega,by omega⟩,aF (r.drop 32) ⟨hr4,by simp;omega⟩ (show(r.drop 32).length<r.length by simp;omega) (Wk.of (by simp only[go_sem]) (by simp only[go_sem]))⟩
       .have b3:(((((zI r ||| zI (r.drop 8)) ||| (zI (r.drop 16) ||| zI (r.drop 24))) &&& 9259542123273814144:Nat):Int)==0)=false:=by rw[fK];omega
        simp only[go_sem,o2.1,o3.1,o4.1,a3,b3];exact fin _ r (by simp only[go_sem]) (by simp only[go_sem]) (by simp only[go_sem]) hr hrl _
      .have d32:decide ((r.length:Int)>32)=false:=aL (by omega);simp only[go_sem,d32];exact fin _ r (by simp only[go_sem]) (by simp only[go_sem]) (by simp only[go_sem]) hr hrl _
     .have b2:((((zI q2 ||| zI (q2.drop 8)) &&& 9259542123273814144:Nat):Int)==0)=false:=by rw[fK];omega
      simp only[go_sem,o1.1,a2,b2];exact fin _ q2 (by simp only[go_sem]) (by simp only[go_sem]) (by simp only[go_sem]) hq2 (by omega) _
    .have d16:decide ((q2.length:Int)>16)=false:=aL (by omega);simp only[go_sem,a1,b1,hq2e,d16];exact⟨⟨by omega,by omega⟩,fin _ q2 (by simp only[go_sem]) (by simp only[go_sem]) (by simp only[go_sem]) hq2 (by omega) _⟩
   .have b1:(((zI (q.drop 1) &&& 9259542123273814144:Nat):Int)==0)=false:=by rw[fK];omega
    simp only[go_sem,a1,b1];exact fin _ (q.drop 1) (by simp only[go_sem]) (by simp only[go_sem]) (by simp only[go_sem]) hq1 (by omega) _
  .have d8:decide (((q.drop 1).length:Int)>8)=false:=by simp only[decide_eq_false_iff_not];omega
   simp only[go_sem,d0,da,d8];exact⟨by omega,by omega,⟨by omega,by omega⟩,fin _ (q.drop 1) (by simp only[go_sem]) (by simp only[go_sem]) (by simp only[go_sem]) hq1 (by omega) _⟩
 .have da:decide (((ac q 0).toNat:Int)<128)=false:=by simp;omega
  have hf:=RR (ac q 0).toNat;have e1:=SU hx;have e2:=ahj hf;have e3:IntKind.i64.wrap ((Lib.firstT (ac q 0).toNat%8:Nat):Int)=((Lib.firstT (ac q 0).toNat%8:Nat):Int):=wi (by omega) (by omega);have e4:A0 .u8 (Lib.firstT (ac q 0).toNat:Int) 4=((Lib.firstT (ac q 0).toNat/16:Nat):Int):=sw .u8 (x:=Lib.firstT (ac q 0).toNat) (s:=4) (by decide);have e5:=abI (i:=Lib.firstT (ac q 0).toNat/16) (by omega);have bad:vT q=none->∀s1:St,get s1.env 2 = .bool false->AY [.tmp 2] (.bool (uv s)) .ret s1:=λhr s1 hg=>by
   rw[<-hq,adF (by omega) ha hr];exact aB [] (by simp only[sg,GY,I7,frzs,hg,F2,↓reduceIte]) rfl
  have good:∀k,vT q=some k->uv (q.drop k)=uv s/\(q.drop k).length<q.length:=λk hk=>by
   have:=UJ hk;exact⟨by rw[<-adH (by omega) ha hk];exact hq,by simp;omega⟩
  by_cases z2:Lib.firstT (ac q 0).toNat%8=2
  .have b2:(((Lib.firstT (ac q 0).toNat%8:Nat):Int)==2)=true:=by rw[z2];rfl
   have r2:=aiH z2;simp (config:={maxSteps:=1000000}) only[go_sem,d0,da,e1,e2,e3,e4,e5,b2];exact⟨by omega,by omega,⟨by omega,by omega⟩,by decide,⟨by omega,by omega⟩,λh1=>bad (by rw[r2,ak (by omega)]) _ (by simp only[go_sem]),λh1=>⟨by omega,by omega,λh2=>bad (by rw[r2,ak (by omega)]) _ (by simp only[go_sem]),λh2=>⟨by omega,by omega,λh3=>bad (by rw[r2,ak (by omega)]) _ (by simp only[go_sem]),λh3=>⟨⟨by omega,by omega⟩,fin _ (q.drop 2) (by simp only[go_sem]) (by simp only[go_sem]) (by simp only[go_sem]) (good 2 (by rw[r2,au (by omega)])).1 (good 2 (by rw[r2,au (by omega)])).2 _⟩⟩⟩⟩
  have n2:(((Lib.firstT (ac q 0).toNat%8:Nat):Int)==2)=false:=by rw[fK];omega
  by_cases z3:Lib.firstT (ac q 0).toNat%8=3
  .have b3:(((Lib.firstT (ac q 0).toNat%8:Nat):Int)==3)=true:=by rw[z3];rfl
   have r3:=aiI z3;simp (config:={maxSteps:=1000000}) only[go_sem,d0,da,e1,e2,e3,e4,e5,b3,n2];exact⟨by omega,by omega,⟨by omega,by omega⟩,by decide,⟨by omega,by omega⟩,λh1=>bad (by rw[r3,ak (by omega)]) _ (by simp only[go_sem]),λh1=>⟨by omega,by omega,λh2=>bad (by rw[r3,ak (by omega)]) _ (by simp only[go_sem]),λh2=>⟨by omega,by omega,λh3=>bad (by rw[r3,ak (by omega)]) _ (by simp only[go_sem]),λh3=>⟨by omega,by omega,λh4=>bad (by rw[r3,ak (by omega)]) _ (by simp only[go_sem]),λh4=>⟨by omega,by omega,λh5=>bad (by rw[r3,ak (by omega)]) _ (by simp only[go_sem]),λh5=>⟨⟨by omega,by omega⟩,fin _ (q.drop 3) (by simp only[go_sem]) (by simp only[go_sem]) (by simp only[go_sem]) (good 3 (by rw[r3,au (by omega)])).1 (good 3 (by rw[r3,au (by omega)])).2 _⟩⟩⟩⟩⟩⟩
  have n3:(((Lib.firstT (ac q 0).toNat%8:Nat):Int)==3)=false:=by rw[fK];omega
  by_cases z4:Lib.firstT (ac q 0).toNat%8=4
  .have b4:(((Lib.firstT (ac q 0).toNat%8:Nat):Int)==4)=true:=by rw[z4];rfl
   have r4:=aiJ z4;simp (config:={maxSteps:=1000000}) only[go_sem,d0,da,e1,e2,e3,e4,e5,b4,n2,n3];exact⟨by omega,by omega,⟨by omega,by omega⟩,by decide,⟨by omega,by omega⟩,λh1=>bad (by rw[r4,ak (by omega)]) _ (by simp only[go_sem]),λh1=>⟨by omega,by omega,λh2=>bad (by rw[r4,ak (by omega)]) _ (by simp only[go_sem]),λh2=>⟨by omega,by omega,λh3=>bad (by rw[r4,ak (by omega)]) _ (by simp only[go_sem]),λh3=>⟨by omega,by omega,λh4=>bad (by rw[r4,ak (by omega)]) _ (by simp only[go_sem]),λh4=>⟨by omega,by omega,λh5=>bad (by rw[r4,ak (by omega)]) _ (by simp only[go_sem]),λh5=>⟨by omega,by omega,λh6=>bad (by rw[r4,ak (by omega)]) _ (by simp only[go_sem]),λh6=>⟨by omega,by omega,λh7=>bad (by rw[r4,ak (by omega)]) _ (by simp only[go_sem]),λh7=>⟨⟨by omega,by omega⟩,fin _ (q.drop 4) (by simp only[go_sem]) (by simp only[go_sem]) (by simp only[go_sem]) (good 4 (by rw[r4,au (by omega)])).1 (good 4 (by rw[r4,au (by omega)])).2 _⟩⟩⟩⟩⟩⟩⟩⟩
  have n4:(((Lib.firstT (ac q 0).toNat%8:Nat):Int)==4)=false:=by rw[fK];omega
  simp only[go_sem,d0,da,e1,e2,e3,e4,e5,n2,n3,n4];exact⟨by omega,by omega,⟨by omega,by omega⟩,by decide,⟨by omega,by omega⟩,bad (aiK z2 z3 z4) _ (by simp only[go_sem])⟩
def Kf:Option (Af)->AV
 | none=>.nl
 | some l=>.sl 1 (l.map de)
def bU(o:Option (Af)):aM (Kf o)=[]:=by cases o<;>rfl
def U1:Kf none = .nl:=rfl
def U2(l:Af):Kf (some l) = .sl 1 (l.map de):=rfl
attribute[go_sem] U1 U2
def aO(ok:Bool)(b:Af)(a:Nat)(e n:Int):Option (Af)×Nat×Int :=
 if ok=true then(if n<0 then(none,a,1)else if n>(b.length:Int)-a then(none,a,3)else(some ((b.drop a).take n.toNat),a+n.toNat,e))else(none,a,e)
def eD(ok:Bool)(b:Af)(a:Nat)(e:Int):UInt8×Nat×Int :=
 if ok=true then(if(b.length:Int)-a<1 then(0,a,3)else(ac b a,a+1,e))else(0,a,e)
def rU(ok:Bool)(bits:Nat)(b:Af)(a:Nat)(e:Int):Nat×Nat×Int :=
 if ok=true then(if(dm (b.drop a) bits).2.2≠0 then(0,a,(dm (b.drop a) bits).2.2)else((dm (b.drop a) bits).1,a+(dm (b.drop a) bits).2.1,e))else(0,a,e)
def rS(ok:Bool)(bits:Nat)(b:Af)(a:Nat)(e:Int):Int×Nat×Int :=
 if ok=true then(if(di (b.drop a) bits).2.2≠0 then(0,a,(di (b.drop a) bits).2.2)else((di (b.drop a) bits).1,a+(di (b.drop a) bits).2.1,e))else(0,a,e)
def ba(ok:Bool)(b:Af)(a:Nat)(e most:Int):Nat×Nat×Int :=
 if ok=true then(if(rU true 32 b a e).2.2=0/\((rU true 32 b a e).1:Int)>most then(0,a,6)else rU true 32 b a e)else(0,a,e)
def B_(b:Af)(bits:Nat)(h:1<=bits/\bits<=64):(dm b bits).1<2^bits:=by
 have hp:=Nat.two_pow_pos bits;unfold dm;split
 .exact hp
 split
 .exact hp
 rename_i h1 h2;rcases fY b bits with⟨g1,g2,g3,g4⟩|⟨g1,g2⟩
 .refine Nat.lt_of_le_of_lt (Nat.mod_le _ _) ?_;by_cases hq:cx b bits+1=mst bits
  .rw[Ax g2];have hv:=kr (b:=b) (i:=cx b bits) (Nat.le_of_lt g2);have h3:(ac b (cx b bits)).toNat/2^(bits-7*cx b bits)=0:=by
    have:=ve.1 h2;rw[uB,au hq]at this;exact this
   have h4:(ac b (cx b bits)).toNat<2^(bits-7*cx b bits):=by
    rcases Nat.div_eq_zero_iff.1 h3 with h|h
    .exact absurd h (Nat.pos_iff_ne_zero.1 (Nat.two_pow_pos _))
    .exact h
   have h5:7*cx b bits<=bits:=by unfold mst at hq;omega
   have e:2^bits=2^(bits-7*cx b bits)*2^(7*cx b bits):=by rw[<-Nat.pow_add,Nat.sub_add_cancel h5]
   rw[e];have h6:(ac b (cx b bits)).toNat%128+1<=2^(bits-7*cx b bits):=Nat.lt_of_le_of_lt (Nat.mod_le _ _) h4;have h7:=m7 (2^(7*cx b bits)) h6;rw[kz,Nat.one_mul]at h7;omega
  .have hv:=kr (b:=b) (i:=cx b bits+1) (by omega);have h5:7*(cx b bits+1)<=bits:=by unfold mst at*;omega
   exact Eg hv (Ig (by decide) h5)
 .rcases g1 with g1|g1<;>rw[g1]at h1<;>exact absurd (by decide) h1
def CF(b:Af)(bits:Nat):(dm b bits).2.1<=b.length:=by
 unfold dm;split
 .exact cm _
 split
 .exact cm _
 rename_i h1 h2;rcases fY b bits with⟨g1,g2,g3,g4⟩|⟨g1,g2⟩
 .exact g2
 .rcases g1 with g1|g1<;>rw[g1]at h1<;>exact absurd (by decide) h1
def CE(b:Af)(bits:Nat):(di b bits).2.1<=b.length:=by
 unfold di;split
 .exact cm _
 split
 .exact cm _
 rename_i h1 h2;rcases fY b bits with⟨g1,g2,g3,g4⟩|⟨g1,g2⟩
 .exact g2
 .rcases g1 with g1|g1<;>rw[g1]at h1<;>exact absurd (by decide) h1
def NE{ok:Bool}{b:Af}{a:Nat}{e n:Int}(h:a<=b.length):(aO ok b a e n).2.1<=b.length:=by
 unfold aO
 repeat' split
 all_goals first|exact h|(simp only;omega)
def PC{ok:Bool}{bits:Nat}{b:Af}{a:Nat}{e:Int}(h:a<=b.length):(rU ok bits b a e).2.1<=b.length:=by
 have:=CF (b.drop a) bits;simp only[jK]at this;unfold rU
 repeat' split
 all_goals first|exact h|(simp only;omega)
def wW(ok:Bool)(b:Af)(a:Nat)(e:Int):(rU ok 32 b a e).1<4294967296:=by
 have:=B_ (b.drop a) 32 (by decide);unfold rU
 repeat' split
 all_goals first|exact this|exact(by decide:(0:Nat)<4294967296)
def wo(q:Nat)(m:Bool)(l:Af)(e:Int):ao:=⟨165,3,[[.bool m,.ms q 1 0 l.length,.int .i64 e]],true⟩
def wa(l:Af):ao:=⟨5,1,l.map de,false⟩
def WM(f:FuncId)(rest:List AV)(m:Bool)(l:Af)(e:Int)(r:AV)(l':Af)(e':Int):Prop :=
 aQ pg f (.mp 1000 3 0 0::rest) [(1000,wo 2000 m l e),(2000,wa l)] sb (λr' σ'=>r'=r/\σ'=[(1000,wo 2000 m l' e'),(2000,wa l')])
def dY{f:FuncId}{rest:List AV}{m:Bool}{l:Af}{e:Int}{r:AV}{l':Af}{e':Int}{k j:Nat}{args:List AV}{d:Option Nat}{s:St}{K:St->Prop}(fs:List Nat)
  (h:WM f rest m l e r l' e') (hk:k≠2000) (hj:j≠1000) (hkj:k≠j) (hj2:j<1000\/2000<=j) (hr:aM r=[]) (hrest:∀x∈rest,aM x=[])
  (ha:args.map (wE fs s) = .mp k 3 0 0::rest) (h1:ah (frzs fs s).heap k=some (wo j m l e)) (h2:ah (frzs fs s).heap j=some (wa l))
  (hK:K ((St.mk (oi j (frzs fs s).env) ((k,wo j m l' e')::(j,wa l')::oq j (frzs fs s).heap)).put d r)):cO pg f args d s K:=by
 have e1:fw [(1000,k),(2000,j)] 2000=j:=by
  simp only[fw];unfold i5;by_cases q:(2000:Nat)=k
  .exact absurd q.symm hk
  .simp[q]
 have e0:fw [(1000,k),(2000,j)] 1000=k:=by
  simp only[fw];unfold i5;by_cases q:k=2000
  .exact absurd q hk
  .simp[q,hkj]
 have b1:bw [(1000,k),(2000,j)] j=2000:=by have:=ux [(1000,k),(2000,j)] 2000;rwa[e1]at this
 have b0:bw [(1000,k),(2000,j)] k=1000:=by have:=ux [(1000,k),(2000,j)] 1000;rwa[e0]at this
 refine aaR fs (aQ.at2 (rk:=wo j m l e) (rk':=wo j m l' e') h hk hj hkj hr hrest rfl rfl ?_ ?_) hkj ?_ hj2 ha h1 h2 hK
 .simp only[iY,wo,aN,eG,qF,qy,rz,b1];rfl
 .simp only[iY,wo,aN,eG,qF,qy,rz,e1];rfl
 .show sb (bw [(1000,k),(2000,j)] k);rw[b0];exact⟨by decide,by decide⟩
def aT{f:FuncId}{rest:List AV}{m:Bool}{l:Af}{e:Int}{r:AV}{l':Af}{e':Int}{k j:Nat}{args:List AV}{d:Option Nat}{s:St}{K:St->Prop}(fs:List Nat)
  (h:WM f rest m l e r l' e') (hK:K ((St.mk (oi j (frzs fs s).env) ((k,wo j m l' e')::(j,wa l')::oq j (frzs fs s).heap)).put d r)) (hk:k≠2000:=by decide) (hj:j≠1000:=by decide) (hkj:k≠j:=by decide) (hj2:j<1000\/2000<=j:=by decide)
  (hr:aM r=[]:=by first|rfl|simp[go_sem,bU]) (hrest:∀x∈rest,aM x=[]:=by simp[go_sem])
  (ha:args.map (wE fs s) = .mp k 3 0 0::rest:=by rfl) (h1:ah (frzs fs s).heap k=some (wo j m l e):=by rfl) (h2:ah (frzs fs s).heap j=some (wa l):=by rfl):cO pg f args d s K:=dY fs h hk hj hkj hj2 hr hrest ha h1 h2 hK
def D2(m:Bool)(l:Af)(e:Int):WM 200 [] m l e (.bool (m&&e==0)) l e:=by
 refine bA f_ ?_;cases m
 .simp only[f_,wo,wa,go_sem];exact done [] _ [(1000,wo 2000 false l e),(2000,wa l)] (by simp only[go_sem]) (by simp only[go_sem,wo,wa]) rfl ⟨rfl,rfl⟩
 .simp only[f_,wo,wa,go_sem];exact done [] _ [(1000,wo 2000 true l e),(2000,wa l)] (by simp only[go_sem]) (by simp only[go_sem,wo,wa]) rfl ⟨rfl,rfl⟩
def ox(m:Bool)(l:Af)(e x:Int):WM 190 [.int .i64 x] m l e (.tup []) l (if(m&&e==0)=true then x else e):=by
 refine bA lz ?_;simp only[lz,wo,wa,go_sem];refine dY [] (k:=1000) (j:=2000) (D2 m l e) (by decide) (by decide) (by decide) (by decide) rfl (by simp) (by rfl) (by rfl) (by rfl) ?_;cases h:(m&&e==0)
 .simp only[go_sem,wo,wa];exact fH [] _ [(1000,wo 2000 m l e),(2000,wa l)] (by simp only[go_sem]) (by simp only[go_sem,wo,wa]) rfl ⟨rfl,rfl⟩
 .simp only[go_sem,wo,wa];exact fH [] _ [(1000,wo 2000 m l x),(2000,wa l)] (by simp only[go_sem]) (by simp only[go_sem,wo,wa]) rfl ⟨rfl,rfl⟩
def wB(ok:Bool)(l x:Af):Af:=if ok=true then l++x else l
def fU(m:Bool)(l x:Af)(e:Int)(hl:l.length<60000000000/\x.length<60000000000):WM 113 [.sl 1 (x.map de)] m l e (.tup []) (wB (m&&e==0) l x) e:=by
 refine bA kB ?_;simp only[kB,wo,wa,go_sem];refine dY [] (k:=1000) (j:=2000) (D2 m l e) (by decide) (by decide) (by decide) (by decide) rfl (by simp) (by rfl) (by rfl) (by rfl) ?_;cases h:(m&&e==0)
 .simp only[go_sem,wo,wa,wB,gR];exact fH [] _ [(1000,wo 2000 m l e),(2000,wa l)] (by simp only[go_sem]) (by simp only[go_sem,wo,wa]) rfl ⟨rfl,rfl⟩
 .have happ:=bq 2000 5 1 l.length de l (x.map de) rfl;simp only[go_sem,wo,wa,wB,happ];refine⟨by omega,fH [] _ [(1000,wo 2000 m (l++x) e),(2000,wa (l++x))] (by simp only[go_sem]) ?_ rfl ⟨rfl,rfl⟩⟩;simp only[go_sem,wo,wa,cP,oz]
def qA{ok:Bool}{l x:Af}:(wB ok l x).length<=l.length+x.length:=by
 unfold wB;split<;>simp
def vr(m:Bool)(l:Af)(x:UInt8)(e:Int)(hl:l.length<60000000000):WM 107 [.int .u8 x.toNat] m l e (.tup []) (wB (m&&e==0) l [x]) e:=by
 refine bA ly ?_;simp only[ly,wo,wa,go_sem];refine dY [6] (k:=1000) (j:=2000) (fU m l [x] e ⟨hl,by simp⟩) (by decide) (by decide) (by decide) (by decide) rfl (by simp[go_sem]) ?_ (by simp only[go_sem,wo]) (by simp only[go_sem,wa]) ?_
 .simp only[go_sem,a_]
 .simp only[go_sem,wo,wa];exact fH [] _ [(1000,wo 2000 m (wB (m&&e==0) l [x]) e),(2000,wa (wB (m&&e==0) l [x]))] (by simp only[go_sem]) (by simp only[go_sem,wo,wa]) rfl ⟨rfl,rfl⟩
def wU(ok:Bool)(l:Af)(e n:Int):Af×Int :=
 if ok=true then(if n<0\/n>4294967295 then(l,1)else(l++aD n.toNat,e))else(l,e)
def yP{n:Nat}(h:n<=4294967295):(aD n).length<=5:=mi (k:=4) (by omega)
def H2(m:Bool)(l:Af)(e n:Int)(hl:l.length<60000000000):WM 95 [.int .i64 n] m l e (.tup []) (wU (m&&e==0) l e n).1 (wU (m&&e==0) l e n).2:=by
 refine bA eM ?_;by_cases h1:n<0\/n>4294967295
 .have r:wU (m&&e==0) l e n=(l,if(m&&e==0)=true then 1 else e):=by
   unfold wU;cases (m&&e==0)<;>simp[h1]
  rw[r];by_cases h2:n<0
  .have d1:decide (n<0)=true:=aK h2;simp only[eM,wo,wa,go_sem,d1];refine dY [] (k:=1000) (j:=2000) (ox m l e 1) (by decide) (by decide) (by decide) (by decide) rfl (by simp[go_sem]) (by rfl) (by rfl) (by rfl) ?_;simp only[go_sem,wo,wa];exact done [] _ [(1000,wo 2000 m l (if(m&&e==0)=true then 1 else e)),(2000,wa l)] (by simp only[go_sem]) (by simp only[go_sem,wo,wa]) rfl ⟨rfl,rfl⟩
  .have d1:decide (n<0)=false:=aL h2;have d2:decide (n>4294967295)=true:=aK (by omega);simp only[eM,wo,wa,go_sem,d1,d2];refine dY [] (k:=1000) (j:=2000) (ox m l e 1) (by decide) (by decide) (by decide) (by decide) rfl (by simp[go_sem]) (by rfl) (by rfl) (by rfl) ?_;simp only[go_sem,wo,wa];exact done [] _ [(1000,wo 2000 m l (if(m&&e==0)=true then 1 else e)),(2000,wa l)] (by simp only[go_sem]) (by simp only[go_sem,wo,wa]) rfl ⟨rfl,rfl⟩
 .have d1:decide (n<0)=false:=aL (by omega);have d2:decide (n>4294967295)=false:=aL (by omega);obtain⟨k,rfl⟩:=Ks (show 0<=n by omega);have r:wU (m&&e==0) l e k=(wB (m&&e==0) l (aD k),e):=by
   unfold wU wB;cases (m&&e==0)<;>simp only[aN,ak h1,gR,bB,eB]
  have w1:IntKind.u64.wrap (k:Int)=(k:Int):=by rw[mq];omega
  have hp:=yP (n:=k) (by omega);rw[r];simp only[eM,wo,wa,go_sem,d1,d2,w1];refine aa (ac1 k (by omega)) ?_;refine dY [] (k:=1000) (j:=2000) (fU m l (aD k) e ⟨hl,by omega⟩) (by decide) (by decide) (by decide) (by decide) rfl (by simp[go_sem]) (by rfl) (by rfl) (by rfl) ?_;simp only[go_sem,wo,wa];exact fH [] _ [(1000,wo 2000 m (wB (m&&e==0) l (aD k)) e),(2000,wa (wB (m&&e==0) l (aD k)))] (by simp only[go_sem]) (by simp only[go_sem,wo,wa]) rfl ⟨rfl,rfl⟩
def wN(ok:Bool)(l:Af)(e:Int)(x:Af):Af×Int :=
 if ok=true then(if uv x=false then(l,9)else if x.length>64 then(l,6)else(l++aD x.length++x,e))else(l,e)
def NN(m:Bool)(l x:Af)(e:Int)(hl:l.length<40000000000/\x.length<10000000):WM 106 [.str x] m l e (.tup []) (wN (m&&e==0) l e x).1 (wN (m&&e==0) l e x).2:=by
 refine bA lA ?_;simp only[lA,wo,wa,go_sem];refine ab (UV x (by omega)) ?_;cases hv:uv x
 .have r:wN (m&&e==0) l e x=(l,if(m&&e==0)=true then 9 else e):=by
   unfold wN;cases (m&&e==0)<;>simp[hv]
  rw[r];simp only[go_sem];refine dY [] (k:=1000) (j:=2000) (ox m l e 9) (by decide) (by decide) (by decide) (by decide) rfl (by simp[go_sem]) (by rfl) (by rfl) (by rfl) ?_;simp only[go_sem,wo,wa];exact fH [] _ [(1000,wo 2000 m l (if(m&&e==0)=true then 9 else e)),(2000,wa l)] (by simp only[go_sem]) (by simp only[go_sem,wo,wa]) rfl ⟨rfl,rfl⟩
 .by_cases h64:x.length>64
  .have d1:decide ((x.length:Int)>64)=true:=aK (by omega);have r:wN (m&&e==0) l e x=(l,if(m&&e==0)=true then 6 else e):=by
    unfold wN;cases (m&&e==0)<;>simp[hv,h64]
   rw[r];simp only[go_sem,d1];refine dY [] (k:=1000) (j:=2000) (ox m l e 6) (by decide) (by decide) (by decide) (by decide) rfl (by simp[go_sem]) (by rfl) (by rfl) (by rfl) ?_;simp only[go_sem,wo,wa];exact fH [] _ [(1000,wo 2000 m l (if(m&&e==0)=true then 6 else e)),(2000,wa l)] (by simp only[go_sem]) (by simp only[go_sem,wo,wa]) rfl ⟨rfl,rfl⟩
  .have d1:decide ((x.length:Int)>64)=false:=aL (by omega);have r1:wU (m&&e==0) l e x.length=(wB (m&&e==0) l (aD x.length),e):=by
    unfold wU wB;have h1:¬((x.length:Int)<0\/(x.length:Int)>4294967295):=by omega
    cases (m&&e==0)<;>simp only[aN,ak h1,gR,bB,eB]
   have r:wN (m&&e==0) l e x=(wB (m&&e==0) (wB (m&&e==0) l (aD x.length)) x,e):=by
    unfold wN wB;cases (m&&e==0)<;>simp[hv,h64]
   have hp:=yP (n:=x.length) (by omega);have hl2:=qA (ok:=(m&&e==0)) (l:=l) (x:=aD x.length);rw[r];simp only[go_sem,d1];have c1:=H2 m l e x.length (by omega);rw[r1]at c1;refine dY [] (k:=1000) (j:=2000) c1 (by decide) (by decide) (by decide) (by decide) rfl (by simp[go_sem]) (by rfl) (by rfl) (by rfl) ?_;simp only[go_sem,wo,wa];refine⟨by omega,?_⟩;refine dY [10] (k:=1000) (j:=2000) (fU m (wB (m&&e==0) l (aD x.length)) x e ⟨by omega,by omega⟩) (by decide) (by decide) (by decide) (by decide) rfl (by simp[go_sem]) ?_ (by simp only[go_sem,wo]) (by simp only[go_sem,wa]) ?_
   .simp only[go_sem,a_,bZ];rw[cI (by simp)];rfl
   .simp only[go_sem,wo,wa];exact fH [] _ [(1000,wo 2000 m (wB (m&&e==0) (wB (m&&e==0) l (aD x.length)) x) e),(2000,wa (wB (m&&e==0) (wB (m&&e==0) l (aD x.length)) x))] (by simp only[go_sem]) (by simp only[go_sem,wo,wa]) rfl ⟨rfl,rfl⟩
def wD(m:Bool)(l:Af)(e:Int):Option (Af)×Int:=if m=true then(if e=0 then(some l,0)else(none,e))else(none,2)
def yZ(m:Bool)(l:Af)(e:Int)(hl:l.length<60000000000):WM 28 [] m l e (.tup [Kf (wD m l e).1,.int .i64 (wD m l e).2]) l e:=by
 refine bA ek ?_;cases m
 .simp only[ek,wo,wa,go_sem,wD,gR];exact done [] _ [(1000,wo 2000 false l e),(2000,wa l)] (by simp only[go_sem]) (by simp only[go_sem,wo,wa]) rfl ⟨rfl,rfl⟩
 .by_cases he:e=0
  .subst he;have d:((0:Int) != 0)=false:=rfl;have hr:=J6 1 l.length 5 de l rfl;simp only[ek,wo,wa,go_sem,wD,d,hr];refine⟨by omega,done [28] _ [(1000,wo 2000 true l 0),(2000,wa l)] ?_ (by simp only[go_sem,wo,wa]) rfl ⟨rfl,rfl⟩⟩;simp only[go_sem,a_,bZ];rw[cI (by simp)]
  .have d:(e != 0)=true:=by simp[he]
   have r:wD true l e=(none,e):=by simp[wD,he]
   rw[r];simp only[ek,wo,wa,go_sem,d];exact done [] _ [(1000,wo 2000 true l e),(2000,wa l)] (by simp only[go_sem]) (by simp only[go_sem,wo,wa]) rfl ⟨rfl,rfl⟩
def adf(m:Bool)(l:Af)(e:Int):WM 116 [] m l e (.int .i64 (if(m&&e==0)=true then(l.length:Int)else 0)) l e:=by
 refine bA nr ?_;simp only[nr,wo,wa,go_sem];refine dY [] (k:=1000) (j:=2000) (D2 m l e) (by decide) (by decide) (by decide) (by decide) rfl (by simp) (by rfl) (by rfl) (by rfl) ?_;cases h:(m&&e==0)
 .simp only[go_sem,wo,wa,gR];exact done [] _ [(1000,wo 2000 m l e),(2000,wa l)] (by simp only[go_sem]) (by simp only[go_sem,wo,wa]) rfl ⟨rfl,rfl⟩
 .simp only[go_sem,wo,wa];exact done [] _ [(1000,wo 2000 m l e),(2000,wa l)] (by simp only[go_sem]) (by simp only[go_sem,wo,wa]) rfl ⟨rfl,rfl⟩
def adg:aQ pg 26 [] [] sb (λr' σ'=>r' = .mp 2 3 0 0/\σ'=[(2,wo 2000 true [] 0),(2000,wa [])]):=by
 refine bA AN ?_;simp only[AN,go_sem];refine aJ ((Wk.new0 _ 2000 1 5 (by decide)).trans (Wk.nlm _ 2 (t:=165) (st:=3) (r:=[.bool true,.nl,.int .i64 0]) (r':=[.bool true,.ms 2000 1 0 0,.int .i64 0]) ?_ ?_)) [] (.mp 2 3 0 0) [(2,wo 2000 true [] 0),(2000,wa [])] ?_ ?_ rfl ⟨rfl,rfl⟩
 .simp only[go_sem]
 .exact⟨.inl rfl,.inr ⟨rfl,.inr ⟨2000,1,rfl⟩⟩,.inl rfl,trivial⟩
 .simp only[go_sem]
 .simp only[go_sem,wo,wa,cj]
def UT(b:Af)(at_:Nat)(h:at_<b.length)(h9:at_<=9):aj pg 326 [.sl 1 (b.map de),.int .i64 at_] (.int .u64 ((cY (b.take (at_+1))%18446744073709551616:Nat):Int)):=by
 refine aC Fg ?_;simp only[Fg,go_sem];refine aq (λi:Nat=>⟨[(9,.int .i64 i),(8,.int .i64 (at_+1)),(5,.int .u64 ((cY (b.take i)%18446744073709551616:Nat):Int)),(0,.sl 1 (b.map de))],[]⟩) (λi=>i<=at_+1) (λi=>at_+1-i) 0 (cm _) (Wk.of ?_ ?_) ?_
 .simp[go_sem,wi (n:=(at_:Int)+1) (by omega) (by omega),cY]
 .simp[go_sem]
 rintro i hi;replace hi:i<=at_+1:=hi;rcases fV i (at_+1)with hlt|hge
 .have hd1:decide ((i:Int)<(at_:Int)+1)=true:=by simp;omega
  have hx:(ac b i).toNat<256:=(ac b i).toNat_lt;have hv:=kr (b:=b) (i:=i) (by omega);have hp:2^(7*i)<=2^63:=Ig (by decide) (by omega);have e1:IntKind.u64.wrap (((ac b i).toNat%128:Nat):Int)=(((ac b i).toNat%128:Nat):Int):=by rw[mq];omega
  have e2:IntKind.i64.wrap (7*(i:Int))=((7*i:Nat):Int):=by rw[wi (by omega) (by omega)];omega
  have e3:¬((7*i:Nat):Int)<0:=by omega
  have e5:=NR (y:=(ac b i).toNat%128) (s:=7*i) (by omega);have e6:cY (b.take i)%18446744073709551616=cY (b.take i):=AI (by omega);have e7:=yL (n:=cY (b.take i)) (y:=(ac b i).toNat%128) (s:=7*i) (by omega) hv;simp only[go_sem,hd1,e2,e3];refine⟨by omega,by omega,aF (i+1) (show i+1<=at_+1 by omega) (show at_+1-(i+1)<at_+1-i by omega) (Wk.of ?_ ?_)⟩
  .have e8:=wi (n:=(i:Int)+1) (by omega) (by omega);have e9:=Ax (show i<b.length by omega);simp only[go_sem,Q9 hx,e1,e5,e6,e7,e8,e9];rfl
  .simp[go_sem]
 .have hd1:decide ((i:Int)<(at_:Int)+1)=false:=by simp;omega
  have:i=at_+1:=by omega
  subst this;simp only[go_sem,hd1];exact aB [] (by simp[go_sem]) rfl
def lR(b:Af)(bits:Nat):AV:=if gP b bits=0 then .tup [.int .i64 (cx b bits),.int .i64 (uB bits (cx b bits)),.int .i64 0]else .tup [.int .i64 0,.int .i64 0,.int .i64 (gP b bits)]
def UP(b:Af)(bits:Nat)(h:1<=bits/\bits<=64):aj pg 325 [.sl 1 (b.map de),.int .i64 bits] (lR b bits):=by
 have hm:mst bits<=10/\1<=mst bits/\7*mst bits<=bits+6:=by unfold mst;omega
 refine aC Cv ?_;have d1:decide ((bits:Int)<1)=false:=by simp;omega
 have d2:decide ((bits:Int)>64)=false:=by simp;omega
 have e1:IntKind.i64.wrap ((bits:Int)+6)=((bits+6:Nat):Int):=by rw[wi (by omega) (by omega)];omega
 have e2:(((bits+6:Nat):Int)).tdiv 7=(mst bits:Int):=by rw[show(7:Int)=((7:Nat):Int) from rfl,<-Int.ofNat_tdiv];rfl
 have e3:IntKind.i64.wrap (mst bits:Int)=(mst bits:Int):=wi (by omega) (by omega);simp only[Cv,go_sem,d1,d2,e1,e2,e3];refine⟨by omega,?_⟩;refine aq (λi:Nat=>⟨[(19,.int .i64 i),(18,.int .i64 (mst bits)),(7,.int .i64 (mst bits)),(0,.sl 1 (b.map de)),(1,.int .i64 bits)],[]⟩) (λi=>i<=mst bits/\i<=b.length/\Bc b (mst bits) 0=Bc b (mst bits-i) i) (λi=>mst bits-i) 0 ⟨cm _,cm _,rfl⟩ (Wk.of ?_ ?_) ?_
 .simp only[go_sem,e1,e2,e3];simp
 .simp[go_sem]
 rintro i ⟨hi,hib,hl⟩;replace hi:i<=mst bits:=hi;replace hib:i<=b.length:=hib;replace hl:Bc b (mst bits) 0=Bc b (mst bits-i) i:=hl;rcases fV i (mst bits)with hlt|hge
 .have hd1:decide ((i:Int)<(mst bits:Int))=true:=by simp;omega
  rw[show mst bits-i=(mst bits-(i+1))+1 by omega,Bc]at hl;by_cases hb:i>=b.length
  .have hd2:decide ((i:Int)>=(b.length:Int))=true:=by simp;omega
   rw[au hb]at hl;have r1:lR b bits = .tup [.int .i64 0,.int .i64 0,.int .i64 3]:=by simp[lR,gP,hl]
   simp only[go_sem,hd1,hd2];rw[r1];exact aB [] (by simp[go_sem]) rfl
  .have hd2:decide ((i:Int)>=(b.length:Int))=false:=by simp;omega
   rw[ak hb]at hl;by_cases hc:128<=(ac b i).toNat
   .have hd3:decide (((ac b i).toNat:Int)>=128)=true:=by simp;omega
    rw[au hc]at hl;simp only[go_sem,hd1,hd2,hd3];refine⟨by omega,by omega,aF (i+1) ⟨by omega,by omega,hl⟩ (show mst bits-(i+1)<mst bits-i by omega) (Wk.of ?_ ?_)⟩
    .have e8:=wi (n:=(i:Int)+1) (by omega) (by omega);simp[go_sem,e8]
    .simp[go_sem]
   .have hd3:decide (((ac b i).toNat:Int)>=128)=false:=by simp;omega
    rw[ak hc]at hl;have w1:IntKind.i64.wrap ((mst bits:Int)-1)=(mst bits:Int)-1:=wi (by omega) (by omega);by_cases hq:i+1=mst bits
    .have hd4:((i:Int)==(mst bits:Int)-1)=true:=by simp;omega
     have r1:lR b bits = .tup [.int .i64 i,.int .i64 ((bits:Int)-7*i),.int .i64 0]:=by
      have:((bits-7*i:Nat):Int)=(bits:Int)-7*i:=by omega
      simp[lR,gP,cx,hl,uB,hq,this]
     have w2:IntKind.i64.wrap (7*(i:Int))=7*(i:Int):=wi (by omega) (by omega);have w3:IntKind.i64.wrap ((bits:Int)-7*(i:Int))=(bits:Int)-7*(i:Int):=wi (by omega) (by omega);simp only[go_sem,hd1,hd2,hd3,w1,hd4];rw[r1];exact⟨by omega,by omega,aB [] (by simp[go_sem,w2,w3]) rfl⟩
    .have hd4:((i:Int)==(mst bits:Int)-1)=false:=by simp;omega
     have r1:lR b bits = .tup [.int .i64 i,.int .i64 7,.int .i64 0]:=by simp[lR,gP,cx,hl,uB,hq]
     simp only[go_sem,hd1,hd2,hd3,w1,hd4];rw[r1];exact⟨by omega,by omega,aB [] (by simp[go_sem]) rfl⟩
 .have hd1:decide ((i:Int)<(mst bits:Int))=false:=by simp;omega
  rw[show mst bits-i=0 by omega,Bc]at hl;have r1:lR b bits = .tup [.int .i64 0,.int .i64 0,.int .i64 4]:=by simp[lR,gP,hl]
  simp only[go_sem,hd1];rw[r1];exact aB [] (by simp[go_sem]) rfl
def uR(x:Nat×Nat×Int):AV:=.tup [.int .u64 x.1,.int .i64 x.2.1,.int .i64 x.2.2]
def sR(x:Int×Nat×Int):AV:=.tup [.int .i64 x.1,.int .i64 x.2.1,.int .i64 x.2.2]
def s_U(b:Af)(bits:Nat)(h:1<=bits/\bits<=64):aj pg 289 [.sl 1 (b.map de),.int .i64 bits] (uR (dm b bits)):=by
 refine aC Mz ?_;simp only[Mz,go_sem];refine ab (UP b bits h) ?_;rcases fY b bits with⟨h1,h2,h3,h4⟩|⟨h1,h2⟩
 .have hc:=KT h h3;have hm:=G6 h;have e1:lR b bits = .tup [.int .i64 (cx b bits),.int .i64 (uB bits (cx b bits)),.int .i64 0]:=by rw[lR,au h1]
  have e2:=sw .u8 (x:=(ac b (cx b bits)).toNat) (s:=uB bits (cx b bits)) (by show _<=8;omega);have e3:¬((uB bits (cx b bits):Nat):Int)<0:=by omega
  by_cases hq:(ac b (cx b bits)).toNat/2^uB bits (cx b bits)=0
  .have d1:((((ac b (cx b bits)).toNat/2^uB bits (cx b bits):Nat):Int) != 0)=false:=by rw[hq];rfl
   have r:dm b bits=(cY (b.take (cx b bits+1))%18446744073709551616,cx b bits+1,0):=by simp[dm,h1,hq]
   simp only[go_sem,e1,bne_self_eq_false,e2,e3,d1];refine⟨by omega,by omega,dd (UT b (cx b bits) h2 (by omega)) (by simp[go_sem]) ?_⟩;have e8:=wi (n:=(cx b bits:Int)+1) (by omega) (by omega);simp only[go_sem];rw[r];exact aB [] (by simp[go_sem,e8,uR]) rfl
  .have d1:((((ac b (cx b bits)).toNat/2^uB bits (cx b bits):Nat):Int) != 0)=true:=by
    have:(((ac b (cx b bits)).toNat/2^uB bits (cx b bits):Nat):Int)≠0:=by omega
    simp only[bne,fK.2 this];rfl
   have r:dm b bits=(0,0,4):=by rw[dm,ak (by simp[h1]),au hq]
   simp only[go_sem,e1,bne_self_eq_false,e2,e3,d1];rw[r];exact⟨by omega,by omega,aB [] (by simp[go_sem,uR]) rfl⟩
 .have hne:gP b bits≠0:=by rcases h1 with h1|h1<;>rw[h1]<;>decide
  have e1:lR b bits = .tup [.int .i64 0,.int .i64 0,.int .i64 (gP b bits)]:=by rw[lR,ak hne]
  have d1:(gP b bits != 0)=true:=by simp[hne]
  have r:dm b bits=(0,0,gP b bits):=by rw[dm,au hne]
  simp only[go_sem,e1,d1];rw[r];exact aB [] (by simp[go_sem,uR]) rfl
def s_S(b:Af)(bits:Nat)(h:1<=bits/\bits<=64):aj pg 361 [.sl 1 (b.map de),.int .i64 bits] (sR (di b bits)):=by
 refine aC My ?_;simp only[My,go_sem];refine ab (UP b bits h) ?_;rcases fY b bits with⟨h1,h2,h3,h4⟩|⟨h1,h2⟩
 .have hc:=KT h h3;have hm:=G6 h;generalize hi:cx b bits=i at*;generalize hcn:uB bits i=c at*;have hx:(ac b i).toNat<256:=(ac b i).toNat_lt;have e1:lR b bits = .tup [.int .i64 i,.int .i64 c,.int .i64 0]:=by rw[lR,au h1,hi,hcn]
  have w1:IntKind.i64.wrap ((c:Int)-1)=((c-1:Nat):Int):=by rw[wi (by omega) (by omega)];omega
  have e2:=sw .u8 (x:=(ac b i).toNat) (s:=c-1) (by show _<=8;omega);have e2':A0 .u8 127 ((c-1:Nat):Int)=((127/2^(c-1):Nat):Int):=sw .u8 (x:=127) (s:=c-1) (by show _<=8;omega);have e3:¬((c-1:Nat):Int)<0:=by omega
  have w2:IntKind.i64.wrap ((i:Int)+1)=((i+1:Nat):Int):=by rw[wi (by omega) (by omega)];omega
  have w3:IntKind.i64.wrap (7*((i+1:Nat):Int))=((7*(i+1):Nat):Int):=by rw[wi (by omega) (by omega)];omega
  by_cases hq:(ac b i).toNat/2^(c-1)≠0/\(ac b i).toNat/2^(c-1)≠127/2^(c-1)
  .have d1:((((ac b i).toNat/2^(c-1):Nat):Int) != 0)=true:=by
    have:(((ac b i).toNat/2^(c-1):Nat):Int)≠0:=by omega
    simp only[bne,fK.2 this];rfl
   have d2:((((ac b i).toNat/2^(c-1):Nat):Int) != ((127/2^(c-1):Nat):Int))=true:=by
    have:(((ac b i).toNat/2^(c-1):Nat):Int)≠((127/2^(c-1):Nat):Int):=by omega
    simp only[bne,fK.2 this];rfl
   have r:di b bits=(0,0,4):=by rw[di,ak (by simp[h1]),hi,hcn,au hq]
   simp only[go_sem,e1,bne_self_eq_false,w1,e2,e2',e3,d1,d2];rw[r];exact⟨by omega,by omega,aB [] (by simp[go_sem,sR]) rfl⟩
  .have r:di b bits=(Bq b i,i+1,0):=by rw[di,ak (by simp[h1]),hi,hcn,ak hq]
   have hv:=kr (b:=b) (i:=i+1) (by omega);rw[r];by_cases hz:(ac b i).toNat/2^(c-1)=0
   .have d1:((((ac b i).toNat/2^(c-1):Nat):Int) != 0)=false:=by rw[hz];rfl
    simp only[go_sem,e1,bne_self_eq_false,w1,e2,e2',e3,d1];refine⟨by omega,by omega,dd (UT b i h2 (by omega)) (by simp[go_sem]) ?_⟩;by_cases hw:i=9
    .subst hw;have d3:decide (((7*(9+1):Nat):Int)<64)=false:=by decide
     simp only[go_sem,w2,w3,d3];have e9:IntKind.i64.wrap ((cY (b.take (9+1))%18446744073709551616:Nat):Int)=Bq b 9:=by
      unfold Bq;refine rf ?_;split<;>omega
     exact aB [] (by simp only[go_sem,sR,e9,w2]) rfl
    .have hp:2^(7*(i+1))<=2^63:=Ig (by decide) (by omega);have d3:decide (((7*(i+1):Nat):Int)<64)=true:=by simp;omega
     have e6:cY (b.take (i+1))%18446744073709551616=cY (b.take (i+1)):=AI (by omega);by_cases hb:64<=(ac b i).toNat%128
     .have d4:(bO .u8 ((ac b i).toNat:Int) 64 != 0)=true:=by rw[ME hx];simpa using hb
      have e4:¬((7*(i+1):Nat):Int)<0:=by omega
      have e5:ib .u64 18446744073709551615 ((7*(i+1):Nat):Int)=((18446744073709551615*2^(7*(i+1))%18446744073709551616:Nat):Int):=NR (y:=18446744073709551615) (s:=7*(i+1)) (by omega);have e7:=yL (n:=cY (b.take (i+1))) (y:=18446744073709551615) (s:=7*(i+1)) (by omega) hv;have e9:IntKind.i64.wrap (((cY (b.take (i+1))+18446744073709551615*2^(7*(i+1)))%18446744073709551616:Nat):Int)=Bq b i:=by
       unfold Bq;rw[au hb];refine rf ?_;have e10:(2:Int)^(7*(i+1))=((2^(7*(i+1)):Nat):Int):=by rw[Int.natCast_pow];rfl
       rw[e10];generalize 2^(7*(i+1))=p;omega
      simp only[go_sem,w2,w3,d3,d4,e4,e6,e5,e7];exact⟨by omega,by omega,aB [] (by simp only[go_sem,sR,e9,w2]) rfl⟩
     .have d4:(bO .u8 ((ac b i).toNat:Int) 64 != 0)=false:=by rw[ME hx];simpa using hb
      have e9:IntKind.i64.wrap ((cY (b.take (i+1)):Nat):Int)=Bq b i:=by
       unfold Bq;rw[ak hb,Int.sub_zero]
      simp only[go_sem,w2,w3,d3,d4,e6];exact⟨by omega,by omega,aB [] (by simp only[go_sem,sR,e9,w2]) rfl⟩
   .have d1:((((ac b i).toNat/2^(c-1):Nat):Int) != 0)=true:=by
     have:(((ac b i).toNat/2^(c-1):Nat):Int)≠0:=by omega
     simp only[bne,fK.2 this];rfl
    have d2:((((ac b i).toNat/2^(c-1):Nat):Int) != ((127/2^(c-1):Nat):Int))=false:=by
     have:(ac b i).toNat/2^(c-1)=127/2^(c-1):=Classical.byContradiction λhn=>hq ⟨hz,hn⟩;rw[this];simp
    simp only[go_sem,e1,bne_self_eq_false,w1,e2,e2',e3,d1,d2];refine⟨by omega,by omega,dd (UT b i h2 (by omega)) (by simp[go_sem]) ?_⟩;by_cases hw:i=9
    .subst hw;have d3:decide (((7*(9+1):Nat):Int)<64)=false:=by decide
     simp only[go_sem,w2,w3,d3];have e9:IntKind.i64.wrap ((cY (b.take (9+1))%18446744073709551616:Nat):Int)=Bq b 9:=by
      unfold Bq;refine rf ?_;split<;>omega
     exact aB [] (by simp only[go_sem,sR,e9,w2]) rfl
    .have hp:2^(7*(i+1))<=2^63:=Ig (by decide) (by omega);have d3:decide (((7*(i+1):Nat):Int)<64)=true:=by simp;omega
     have e6:cY (b.take (i+1))%18446744073709551616=cY (b.take (i+1)):=AI (by omega);by_cases hb:64<=(ac b i).toNat%128
     .have d4:(bO .u8 ((ac b i).toNat:Int) 64 != 0)=true:=by rw[ME hx];simpa using hb
      have e4:¬((7*(i+1):Nat):Int)<0:=by omega
      have e5:ib .u64 18446744073709551615 ((7*(i+1):Nat):Int)=((18446744073709551615*2^(7*(i+1))%18446744073709551616:Nat):Int):=NR (y:=18446744073709551615) (s:=7*(i+1)) (by omega);have e7:=yL (n:=cY (b.take (i+1))) (y:=18446744073709551615) (s:=7*(i+1)) (by omega) hv;have e9:IntKind.i64.wrap (((cY (b.take (i+1))+18446744073709551615*2^(7*(i+1)))%18446744073709551616:Nat):Int)=Bq b i:=by
       unfold Bq;rw[au hb];refine rf ?_;have e10:(2:Int)^(7*(i+1))=((2^(7*(i+1)):Nat):Int):=by rw[Int.natCast_pow];rfl
       rw[e10];generalize 2^(7*(i+1))=p;omega
      simp only[go_sem,w2,w3,d3,d4,e4,e6,e5,e7];exact⟨by omega,by omega,aB [] (by simp only[go_sem,sR,e9,w2]) rfl⟩
     .have d4:(bO .u8 ((ac b i).toNat:Int) 64 != 0)=false:=by rw[ME hx];simpa using hb
      have e9:IntKind.i64.wrap ((cY (b.take (i+1)):Nat):Int)=Bq b i:=by
       unfold Bq;rw[ak hb,Int.sub_zero]
      simp only[go_sem,w2,w3,d3,d4,e6];exact⟨by omega,by omega,aB [] (by simp only[go_sem,sR,e9,w2]) rfl⟩
 .have hne:gP b bits≠0:=by rcases h1 with h1|h1<;>rw[h1]<;>decide
  have e1:lR b bits = .tup [.int .i64 0,.int .i64 0,.int .i64 (gP b bits)]:=by rw[lR,ak hne]
  have d1:(gP b bits != 0)=true:=by simp[hne]
  have r:di b bits=(0,0,gP b bits):=by rw[di,au hne]
  simp only[go_sem,e1,d1];rw[r];exact aB [] (by simp[go_sem,sR]) rfl
def lN(b:Af)(bits:Nat):AV:=if gP b bits=0 then .tup [.int .i64 ((cx b bits+1:Nat):Int),.int .i64 0]else .tup [.int .i64 0,.int .i64 (gP b bits)]
def NL(b:Af)(bits:Nat)(h:1<=bits/\bits<=64):aj pg 346 [.sl 1 (b.map de),.int .i64 bits] (lN b bits):=by
 have hm:mst bits<=10/\1<=mst bits/\7*mst bits<=bits+6:=by unfold mst;omega
 refine aC xV ?_;have d1:decide ((bits:Int)<1)=false:=aL (by omega);have d2:decide ((bits:Int)>64)=false:=aL (by omega);have e1:IntKind.i64.wrap ((bits:Int)+6)=((bits+6:Nat):Int):=by rw[wi (by omega) (by omega)];omega
 have e2:(((bits+6:Nat):Int)).tdiv 7=(mst bits:Int):=by rw[show(7:Int)=((7:Nat):Int) from rfl,<-Int.ofNat_tdiv];rfl
 have e3:IntKind.i64.wrap (mst bits:Int)=(mst bits:Int):=wi (by omega) (by omega);simp only[xV,go_sem,d1,d2,e1,e2,e3];refine⟨by omega,?_⟩;refine aq (λi:Nat=>⟨[(7,.int .i64 i),(6,.int .i64 (mst bits)),(0,.sl 1 (b.map de))],[]⟩) (λi=>i<=mst bits/\i<=b.length/\Bc b (mst bits) 0=Bc b (mst bits-i) i) (λi=>mst bits-i) 0 ⟨cm _,cm _,rfl⟩ (Wk.of ?_ ?_) ?_
 .simp only[go_sem,e1,e2,e3];simp
 .simp[go_sem]
 rintro i ⟨hi,hib,hl⟩;replace hi:i<=mst bits:=hi;replace hib:i<=b.length:=hib;replace hl:Bc b (mst bits) 0=Bc b (mst bits-i) i:=hl;have e8:=wi (n:=(i:Int)+1) (by omega) (by omega);by_cases hb:i<b.length
 .have d3:decide ((i:Int)<(b.length:Int))=true:=aK (by omega);by_cases hlt:i<mst bits
  .have d4:decide ((i:Int)<(mst bits:Int))=true:=aK (by omega);rw[show mst bits-i=(mst bits-(i+1))+1 by omega,Bc,ak (by omega)]at hl;by_cases hc:128<=(ac b i).toNat
   .have d5:decide (((ac b i).toNat:Int)<128)=false:=aL (by omega);rw[au hc]at hl;simp only[go_sem,d3,d4,d5];refine⟨by omega,by omega,aF (i+1) ⟨by omega,by omega,hl⟩ (show mst bits-(i+1)<mst bits-i by omega) (Wk.of ?_ ?_)⟩
    .simp only[go_sem,e8];simp
    .simp[go_sem]
   .have d5:decide (((ac b i).toNat:Int)<128)=true:=aK (by omega);rw[ak hc]at hl;have r1:lN b bits = .tup [.int .i64 ((i:Int)+1),.int .i64 0]:=by
     have:((i+1:Nat):Int)=(i:Int)+1:=by omega
     simp[lN,gP,cx,hl]
    simp only[go_sem,d3,d4,d5];rw[r1];exact⟨by omega,by omega,aB [] (by simp only[go_sem,e8]) rfl⟩
  .have d4:decide ((i:Int)<(mst bits:Int))=false:=aL (by omega);rw[show mst bits-i=0 by omega,Bc]at hl;have d6:decide ((b.length:Int)<(mst bits:Int))=false:=aL (by omega);have r1:lN b bits = .tup [.int .i64 0,.int .i64 4]:=by simp[lN,gP,hl]
   simp only[go_sem,d3,d4,d6];rw[r1];exact aB [] (by simp only[go_sem]) rfl
 .have d3:decide ((i:Int)<(b.length:Int))=false:=aL (by omega);by_cases hlt:i<mst bits
  .have d6:decide ((b.length:Int)<(mst bits:Int))=true:=aK (by omega);rw[show mst bits-i=(mst bits-(i+1))+1 by omega,Bc,au (by omega)]at hl;have r1:lN b bits = .tup [.int .i64 0,.int .i64 3]:=by simp[lN,gP,hl]
   simp only[go_sem,d3,d6];rw[r1];exact aB [] (by simp only[go_sem]) rfl
  .have d6:decide ((b.length:Int)<(mst bits:Int))=false:=aL (by omega);rw[show mst bits-i=0 by omega,Bc]at hl;have r1:lN b bits = .tup [.int .i64 0,.int .i64 4]:=by simp[lN,gP,hl]
   simp only[go_sem,d3,d6];rw[r1];exact aB [] (by simp only[go_sem]) rfl
