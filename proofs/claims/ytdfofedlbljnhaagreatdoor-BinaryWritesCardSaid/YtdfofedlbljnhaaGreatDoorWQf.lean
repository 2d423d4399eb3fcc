import Derived.Test.YtdfofedlbljnhaaGreatDoorWQe
set_option linter.all false
set_option maxRecDepth 100000
set_option maxHeartbeats 4000000
namespace Go.Proofs.YtdfofedlbljnhaaGreatDoor
open Go Go.Mw
def ro(m:Bool)(b:List UInt8)(a e:Int):ao:=⟨287,4,[[.bool m,.sl 1 (b.map dY),.int .i64 a,.int .i64 e]],true⟩
def RM(f:FuncId)(rest:List AV)(m:Bool)(b:List UInt8)(a e:Int)(r:AV)(a' e':Int):Prop :=
 aX pg f (.mp 1000 4 0 0::rest) [(1000,ro m b a e)] (λid=>1000<=id/\id<2000) (λr' σ'=>r'=r/\σ'=[(1000,ro m b a' e')])
def sq(m:Bool)(b:List UInt8)(a e:Int):RM tG [] m b a e (.bool (m&&e==0)) a e:=by
 refine bT f_ ?_;cases m
 .simp only[f_,ro,go_sem];exact done [] _ [(1000,ro false b a e)] (by simp only[go_sem]) (by simp only[go_sem,ro]) rfl ⟨rfl,rfl⟩
 .simp only[f_,ro,go_sem];exact done [] _ [(1000,ro true b a e)] (by simp only[go_sem]) (by simp only[go_sem,ro]) rfl ⟨rfl,rfl⟩
def D5(m:Bool)(b:List UInt8)(a e x:Int):RM gQ [.int .i64 x] m b a e (.tup []) a (if(m&&e==0)=true then x else e):=by
 refine bT lA ?_;simp only[lA,ro,go_sem];refine dZ (sq m b a e) ⟨by decide,by decide⟩ rfl (by simp) rfl rfl (by rfl) ?_;cases h:(m&&e==0)
 .simp only[go_sem,ro];exact fI [] _ [(1000,ro m b a e)] (by simp only[go_sem]) (by simp only[go_sem,ro]) rfl ⟨rfl,rfl⟩
 .simp only[go_sem,ro];exact fI [] _ [(1000,ro m b a x)] (by simp only[go_sem]) (by simp only[go_sem,ro]) rfl ⟨rfl,rfl⟩
def cI(b:List UInt8)(a x:Int):RM gQ [.int .i64 x] true b a 0 (.tup []) a x:=D5 true b a 0 x
def agJ(b:List UInt8)(a n:Nat)(e:Int)(h:a+n<=b.length)(hb:b.length<1000000000):RM wl [.int .i64 n] true b a e (.sl 1 (((b.drop a).take n).map dY)) ((a+n:Nat):Int) e:=by
 refine bT nk ?_;have w1:IntKind.i64.wrap ((a:Int)+(n:Int))=((a+n:Nat):Int):=by rw[wi (by omega) (by omega)];omega
 have e1:vZ 1 (.sl 1 (b.map dY)) (some (.int .i64 (a:Int))) (some (.int .i64 ((a+n:Nat):Int))) (some (.int .i64 ((a+n:Nat):Int)))=some (.sl 1 (((b.drop a).take n).map dY)):=by
  have h1:cH (b.map dY).length (some (.int .i64 ((a+n:Nat):Int)))=some (a+n):=by simp only[cH];rw[aF (by omega),mz]
  have h2:cH 0 (some (.int .i64 (a:Int)))=some a:=by simp only[cH];rw[aF (by omega),mz]
  simp only[vZ,h1,h2];rw[aF ⟨trivial,by omega,bG _,by simpa using h⟩,Nat.add_sub_cancel_left,List.map_take,List.map_drop]
 simp only[nk,ro,go_sem,w1,e1];exact done [] _ [(1000,ro true b ((a+n:Nat):Int) e)] (by simp only[go_sem]) (by simp only[go_sem,ro]) rfl ⟨rfl,rfl⟩
def vx(m:Bool)(b:List UInt8)(a:Nat)(e n:Int)(ha:a<=b.length)(hb:b.length<1000000000)(hn:-9223372036854775808<=n/\n<9223372036854775808) :
  RM u9 [.int .i64 n] m b a e (Lg (bI (m&&e==0) b a e n).1) (bI (m&&e==0) b a e n).2.1 (bI (m&&e==0) b a e n).2.2:=by
 refine bT lD ?_;simp only[lD,ro,go_sem];refine dZ (sq m b a e) ⟨by decide,by decide⟩ rfl (by simp) rfl rfl (by rfl) ?_;cases h:(m&&e==0)
 .simp only[go_sem,ro,bI];exact done [] _ [(1000,ro m b a e)] (by simp only[go_sem]) (by simp only[go_sem,ro]) rfl ⟨rfl,rfl⟩
 .obtain⟨rfl,h2⟩:=Bool.and_eq_true_iff.1 h;obtain rfl:e=0:=by simpa using h2
  by_cases h3:n<0
  .have d1:decide (n<0)=true:=by simpa using h3
   have r:bI true b a 0 n=(none,a,1):=by simp[bI,h3]
   simp only[go_sem,ro,d1];refine dZ (cI b a 1) ⟨by decide,by decide⟩ rfl (by simp[go_sem]) rfl rfl (by rfl) ?_;simp only[go_sem,ro];rw[r];exact done [] _ [(1000,ro true b a 1)] (by simp only[go_sem]) (by simp only[go_sem,ro]) rfl ⟨rfl,rfl⟩
  .have d1:decide (n<0)=false:=by simpa using h3
   have w1:IntKind.i64.wrap ((b.length:Int)-(a:Int))=(b.length:Int)-(a:Int):=wi (by omega) (by omega);by_cases h4:n>(b.length:Int)-a
   .have d2:decide (n>(b.length:Int)-(a:Int))=true:=by simpa using h4
    have r:bI true b a 0 n=(none,a,3):=by simp[bI,h3,h4]
    simp only[go_sem,ro,d1,w1,d2];refine dZ (cI b a 3) ⟨by decide,by decide⟩ rfl (by simp[go_sem]) rfl rfl (by rfl) ?_;simp only[go_sem,ro];rw[r];exact done [] _ [(1000,ro true b a 3)] (by simp only[go_sem]) (by simp only[go_sem,ro]) rfl ⟨rfl,rfl⟩
   .have d2:decide (n>(b.length:Int)-(a:Int))=false:=by simpa using h4
    obtain⟨k,rfl⟩:=Fw (show 0<=n by omega);have r:bI true b a 0 (k:Int)=(some ((b.drop a).take k),a+k,0):=by
     have h5:¬((k:Int)>(b.length:Int)-a):=h4;simp only[bI,br,au h3,au h5,mz]
    simp only[go_sem,ro,d1,w1,d2];refine dZ (agJ b a k 0 (by omega) hb) ⟨by decide,by decide⟩ rfl (by simp[go_sem]) rfl rfl (by rfl) ?_;simp only[go_sem,ro];rw[r];refine⟨by simp;omega,done [32] _ [(1000,ro true b ((a+k:Nat):Int) 0)] ?_ (by simp only[go_sem,ro]) rfl ⟨rfl,rfl⟩⟩;simp only[go_sem,bG];rw[dQ (by simp)]
def aI1(st:Nat)(r:List AV)(k:IntKind):xj st (.sl st [r]) (.int k 0)=some (.ip r):=by simp[xj]
def air:(((1:Nat):Int)==1)=true:=rfl
def pm(m:Bool)(b:List UInt8)(a:Nat)(e:Int)(ha:a<=b.length)(hb:b.length<1000000000) :
  RM l_ [] m b a e (.int .u8 (kG (m&&e==0) b a e).1.toNat) (kG (m&&e==0) b a e).2.1 (kG (m&&e==0) b a e).2.2:=by
 refine bT lz ?_;simp only[lz,ro,go_sem];refine dZ (vx m b a e 1 ha hb (by decide)) ⟨by decide,by decide⟩ (ab _) (by simp[go_sem]) rfl rfl (by rfl) ?_;have h1:¬((1:Int)<0):=by decide
 cases h:(m&&e==0)
 .have r:bI false b a e 1=(none,a,e):=by simp[bI]
  simp only[go_sem,r,kG,ro,Int.reduceBEq,gd];exact done [] _ [(1000,ro m b a e)] (by simp only[go_sem];rfl) (by simp only[go_sem,ro]) rfl ⟨rfl,rfl⟩
 .by_cases h2:(b.length:Int)-a<1
  .have r:bI true b a e 1=(none,a,3):=by simp only[bI,br,au h1];rw[aF (by omega)]
   have r2:kG true b a e=(0,a,3):=by simp only[kG,br,aF h2]
   simp only[go_sem,r,r2,ro,Int.reduceBEq];exact done [] _ [(1000,ro m b a 3)] (by simp only[go_sem];rfl) (by simp only[go_sem,ro]) rfl ⟨rfl,rfl⟩
  .have hl:a<b.length:=by omega
   have e1:(b.drop a).take 1=[ah b a]:=by rw[ad1 hl,bD hl];rfl
   have r:bI true b a e 1=(some [ah b a],a+1,e):=by
    simp only[bI,br,au h1];rw[au (by omega)];rw[show(1:Int).toNat=1 from rfl,e1]
   have r2:kG true b a e=(ah b a,a+1,e):=by simp only[kG,br,au h2]
   simp only[go_sem,r,r2,ro,air,aT,aC,aI1];exact done [] _ [(1000,ro m b ((a+1:Nat):Int) e)] (by simp only[go_sem]) (by simp only[go_sem,ro]) rfl ⟨rfl,rfl⟩
def aiQ(m:Bool)(b:List UInt8)(a e:Int):RM xP [] m b a e (.int .i64 a) a e:=by
 refine bT oG ?_;simp only[oG,ro,go_sem];exact done [] _ [(1000,ro m b a e)] (by simp only[go_sem]) (by simp only[go_sem,ro]) rfl ⟨rfl,rfl⟩
def aU(m:Bool)(b:List UInt8)(a e:Int):RM dM [] m b a e (.int .i64 (if m=true then e else 2)) a e:=by
 refine bT iE ?_;cases m
 .simp only[iE,ro,go_sem];exact done [] _ [(1000,ro false b a e)] (by simp only[go_sem]) (by simp only[go_sem,ro]) rfl ⟨rfl,rfl⟩
 .simp only[iE,ro,go_sem];exact done [] _ [(1000,ro true b a e)] (by simp only[go_sem]) (by simp only[go_sem,ro]) rfl ⟨rfl,rfl⟩
def Ob(ok:Bool)(b:List UInt8)(a:Nat):Int:=if ok=true then(b.length:Int)-a else 0
def ac4(m:Bool)(b:List UInt8)(a:Nat)(e:Int)(ha:a<=b.length)(hb:b.length<1000000000):RM u7 [] m b a e (.int .i64 (Ob (m&&e==0) b a)) a e:=by
 refine bT lB ?_;simp only[lB,ro,go_sem];refine dZ (sq m b a e) ⟨by decide,by decide⟩ rfl (by simp) rfl rfl (by rfl) ?_;have w1:IntKind.i64.wrap ((b.length:Int)-(a:Int))=(b.length:Int)-(a:Int):=wi (by omega) (by omega);cases h:(m&&e==0)
 .simp only[go_sem,ro,Ob,gd];exact done [] _ [(1000,ro m b a e)] (by simp only[go_sem]) (by simp only[go_sem,ro]) rfl ⟨rfl,rfl⟩
 .simp only[go_sem,ro,Ob,w1];exact done [] _ [(1000,ro m b a e)] (by simp only[go_sem]) (by simp only[go_sem,ro]) rfl ⟨rfl,rfl⟩
def BV(m:Bool)(b:List UInt8)(a:Nat)(e:Int):Int:=if m=true then(if e≠0 then e else if a=b.length then 0 else 5)else 2
def KQ(m:Bool)(b:List UInt8)(a:Nat)(e:Int):RM we [] m b a e (.int .i64 (BV m b a e)) a e:=by
 refine bT nb ?_;simp only[nb,ro,go_sem];refine dZ (aU m b a e) ⟨by decide,by decide⟩ rfl (by simp) rfl rfl (by rfl) ?_;cases m
 .have d:((2:Int) != 0)=true:=rfl;simp only[go_sem,ro,BV,gd,d];exact done [] _ [(1000,ro false b a e)] (by simp only[go_sem]) (by simp only[go_sem,ro]) rfl ⟨rfl,rfl⟩
 .by_cases he:e=0
  .subst he;have d:((0:Int) != 0)=false:=rfl;by_cases h2:a=b.length
   .have d2:((a:Int)==(b.length:Int))=true:=by simp[h2]
    have r:BV true b a 0=0:=by simp[BV,h2]
    simp only[go_sem,ro,d,d2,r];exact done [] _ [(1000,ro true b a 0)] (by simp only[go_sem]) (by simp only[go_sem,ro]) rfl ⟨rfl,rfl⟩
   .have d2:((a:Int)==(b.length:Int))=false:=by rw[iS];omega
    have r:BV true b a 0=5:=by simp[BV,h2]
    simp only[go_sem,ro,d,d2,r];exact done [] _ [(1000,ro true b a 0)] (by simp only[go_sem]) (by simp only[go_sem,ro]) rfl ⟨rfl,rfl⟩
  .have d:(e != 0)=true:=by simp[he]
   have r:BV true b a e=e:=by simp[BV,he]
   simp only[go_sem,ro,d,r];exact done [] _ [(1000,ro true b a e)] (by simp only[go_sem]) (by simp only[go_sem,ro]) rfl ⟨rfl,rfl⟩
def MG(m:Bool)(bits:Nat)(b:List UInt8)(a:Nat)(e:Int)(hbits:1<=bits/\bits<=64)(ha:a<=b.length)(hb:b.length<1000000000) :
  RM qs [.int .i64 bits] m b a e (.int .u64 (rU (m&&e==0) bits b a e).1) (rU (m&&e==0) bits b a e).2.1 (rU (m&&e==0) bits b a e).2.2:=by
 refine bT iW ?_;simp only[iW,ro,go_sem];refine dZ (sq m b a e) ⟨by decide,by decide⟩ rfl (by simp) rfl rfl (by rfl) ?_;cases h:(m&&e==0)
 .have r:rU false bits b a e=(0,a,e):=by simp[rU]
  simp only[go_sem,ro,r];exact done [] _ [(1000,ro m b a e)] (by simp only[go_sem];rfl) (by simp only[go_sem,ro]) rfl ⟨rfl,rfl⟩
 .obtain⟨rfl,h2⟩:=Bool.and_eq_true_iff.1 h;obtain rfl:e=0:=by simpa using h2
  simp only[go_sem,ro];have hk:=Hb (b.drop a) bits;simp only[jJ]at hk;refine⟨⟨by omega,by omega⟩,bY (s_U (b.drop a) bits hbits) (by simp[go_sem]) ?_⟩;by_cases hq:(jh (b.drop a) bits).2.2=0
  .have d:((jh (b.drop a) bits).2.2 != 0)=false:=by simp[hq]
   have r:rU true bits b a 0=((jh (b.drop a) bits).1,a+(jh (b.drop a) bits).2.1,0):=by simp[rU,hq]
   have w1:IntKind.i64.wrap ((a:Int)+((jh (b.drop a) bits).2.1:Int))=((a+(jh (b.drop a) bits).2.1:Nat):Int):=by rw[wi (by omega) (by omega)];omega
   rw[r];simp only[go_sem,ro,uR,d,w1];exact done [] _ [(1000,ro true b ((a+(jh (b.drop a) bits).2.1:Nat):Int) 0)] (by simp only[go_sem]) (by simp only[go_sem,ro]) rfl ⟨rfl,rfl⟩
  .have d:((jh (b.drop a) bits).2.2 != 0)=true:=by simp[hq]
   have r:rU true bits b a 0=(0,a,(jh (b.drop a) bits).2.2):=by simp[rU,hq]
   rw[r];simp only[go_sem,ro,uR,d];refine dZ (cI b a (jh (b.drop a) bits).2.2) ⟨by decide,by decide⟩ rfl (by simp[go_sem]) rfl rfl (by rfl) ?_;simp only[go_sem,ro];exact done [] _ [(1000,ro true b a (jh (b.drop a) bits).2.2)] (by simp only[go_sem];rfl) (by simp only[go_sem,ro]) rfl ⟨rfl,rfl⟩
def D8(m:Bool)(bits:Nat)(b:List UInt8)(a:Nat)(e:Int)(hbits:1<=bits/\bits<=64)(ha:a<=b.length)(hb:b.length<1000000000) :
  RM se [.int .i64 bits] m b a e (.int .i64 (rS (m&&e==0) bits b a e).1) (rS (m&&e==0) bits b a e).2.1 (rS (m&&e==0) bits b a e).2.2:=by
 refine bT jM ?_;simp only[jM,ro,go_sem];refine dZ (sq m b a e) ⟨by decide,by decide⟩ rfl (by simp) rfl rfl (by rfl) ?_;cases h:(m&&e==0)
 .have r:rS false bits b a e=(0,a,e):=by simp[rS]
  simp only[go_sem,ro,r];exact done [] _ [(1000,ro m b a e)] (by simp only[go_sem]) (by simp only[go_sem,ro]) rfl ⟨rfl,rfl⟩
 .obtain⟨rfl,h2⟩:=Bool.and_eq_true_iff.1 h;obtain rfl:e=0:=by simpa using h2
  simp only[go_sem,ro];have hk:=Ha (b.drop a) bits;simp only[jJ]at hk;refine⟨⟨by omega,by omega⟩,bY (s_S (b.drop a) bits hbits) (by simp[go_sem]) ?_⟩;by_cases hq:(iK (b.drop a) bits).2.2=0
  .have d:((iK (b.drop a) bits).2.2 != 0)=false:=by simp[hq]
   have r:rS true bits b a 0=((iK (b.drop a) bits).1,a+(iK (b.drop a) bits).2.1,0):=by simp[rS,hq]
   have w1:IntKind.i64.wrap ((a:Int)+((iK (b.drop a) bits).2.1:Int))=((a+(iK (b.drop a) bits).2.1:Nat):Int):=by rw[wi (by omega) (by omega)];omega
   rw[r];simp only[go_sem,ro,sR,d,w1];exact done [] _ [(1000,ro true b ((a+(iK (b.drop a) bits).2.1:Nat):Int) 0)] (by simp only[go_sem]) (by simp only[go_sem,ro]) rfl ⟨rfl,rfl⟩
  .have d:((iK (b.drop a) bits).2.2 != 0)=true:=by simp[hq]
   have r:rS true bits b a 0=(0,a,(iK (b.drop a) bits).2.2):=by simp[rS,hq]
   rw[r];simp only[go_sem,ro,sR,d];refine dZ (cI b a (iK (b.drop a) bits).2.2) ⟨by decide,by decide⟩ rfl (by simp[go_sem]) rfl rfl (by rfl) ?_;simp only[go_sem,ro];exact done [] _ [(1000,ro true b a (iK (b.drop a) bits).2.2)] (by simp only[go_sem]) (by simp only[go_sem,ro]) rfl ⟨rfl,rfl⟩
def fv(m:Bool)(b:List UInt8)(a:Nat)(e:Int)(ha:a<=b.length)(hb:b.length<1000000000) :
  RM nD [] m b a e (.int .i64 (rU (m&&e==0) 32 b a e).1) (rU (m&&e==0) 32 b a e).2.1 (rU (m&&e==0) 32 b a e).2.2:=by
 refine bT nj ?_;have hl:=DS (m&&e==0) b a e;have w1:IntKind.i64.wrap ((rU (m&&e==0) 32 b a e).1:Int)=((rU (m&&e==0) 32 b a e).1:Int):=wi (by omega) (by omega);simp only[nj,ro,go_sem];refine dZ (MG m 32 b a e (by decide) ha hb) ⟨by decide,by decide⟩ rfl (by simp[go_sem]) rfl rfl (by rfl) ?_;simp only[go_sem,ro,w1];exact done [] _ [(1000,ro m b (rU (m&&e==0) 32 b a e).2.1 (rU (m&&e==0) 32 b a e).2.2)] (by simp only[go_sem]) (by simp only[go_sem,ro]) rfl ⟨rfl,rfl⟩
def agF(m:Bool)(b:List UInt8)(a:Nat)(e:Int)(ha:a<=b.length)(hb:b.length<1000000000) :
  RM wg [] m b a e (.int .u64 (IntKind.u64.wrap (IntKind.u32.wrap (rS (m&&e==0) 32 b a e).1))) (rS (m&&e==0) 32 b a e).2.1 (rS (m&&e==0) 32 b a e).2.2:=by
 refine bT nc ?_;simp only[nc,ro,go_sem];refine dZ (D8 m 32 b a e (by decide) ha hb) ⟨by decide,by decide⟩ rfl (by simp[go_sem]) rfl rfl (by rfl) ?_;simp only[go_sem,ro];exact done [] _ [(1000,ro m b (rS (m&&e==0) 32 b a e).2.1 (rS (m&&e==0) 32 b a e).2.2)] (by simp only[go_sem]) (by simp only[go_sem,ro]) rfl ⟨rfl,rfl⟩
def agG(m:Bool)(b:List UInt8)(a:Nat)(e:Int)(ha:a<=b.length)(hb:b.length<1000000000) :
  RM wh [] m b a e (.int .i64 (rS (m&&e==0) 33 b a e).1) (rS (m&&e==0) 33 b a e).2.1 (rS (m&&e==0) 33 b a e).2.2:=by
 refine bT ng ?_;simp only[ng,ro,go_sem];refine dZ (D8 m 33 b a e (by decide) ha hb) ⟨by decide,by decide⟩ rfl (by simp[go_sem]) rfl rfl (by rfl) ?_;simp only[go_sem,ro];exact done [] _ [(1000,ro m b (rS (m&&e==0) 33 b a e).2.1 (rS (m&&e==0) 33 b a e).2.2)] (by simp only[go_sem]) (by simp only[go_sem,ro]) rfl ⟨rfl,rfl⟩
def agH(m:Bool)(b:List UInt8)(a:Nat)(e:Int)(ha:a<=b.length)(hb:b.length<1000000000) :
  RM wj [] m b a e (.int .u64 (IntKind.u64.wrap (rS (m&&e==0) 64 b a e).1)) (rS (m&&e==0) 64 b a e).2.1 (rS (m&&e==0) 64 b a e).2.2:=by
 refine bT nh ?_;simp only[nh,ro,go_sem];refine dZ (D8 m 64 b a e (by decide) ha hb) ⟨by decide,by decide⟩ rfl (by simp[go_sem]) rfl rfl (by rfl) ?_;simp only[go_sem,ro];exact done [] _ [(1000,ro m b (rS (m&&e==0) 64 b a e).2.1 (rS (m&&e==0) 64 b a e).2.2)] (by simp only[go_sem]) (by simp only[go_sem,ro]) rfl ⟨rfl,rfl⟩
def Iu(m:Bool)(b:List UInt8)(a:Nat)(e most:Int)(ha:a<=b.length)(hb:b.length<1000000000) :
  RM cW [.int .i64 most] m b a e (.int .i64 (cA (m&&e==0) b a e most).1) (cA (m&&e==0) b a e most).2.1 (cA (m&&e==0) b a e most).2.2:=by
 refine bT kB ?_;simp only[kB,ro,go_sem];refine dZ (sq m b a e) ⟨by decide,by decide⟩ rfl (by simp) rfl rfl (by rfl) ?_;cases h:(m&&e==0)
 .have r:cA false b a e most=(0,a,e):=by simp[cA]
  simp only[go_sem,ro,r];exact done [] _ [(1000,ro m b a e)] (by simp only[go_sem];rfl) (by simp only[go_sem,ro]) rfl ⟨rfl,rfl⟩
 .obtain⟨rfl,h2⟩:=Bool.and_eq_true_iff.1 h;obtain rfl:e=0:=by simpa using h2
  simp only[go_sem,ro];refine dZ (fv true b a 0 ha hb) ⟨by decide,by decide⟩ rfl (by simp[go_sem]) rfl rfl (by rfl) ?_;rw[h];by_cases hq:(rU true 32 b a 0).2.2=0
  .have d:((rU true 32 b a 0).2.2==0)=true:=by simp[hq]
   by_cases hm:((rU true 32 b a 0).1:Int)>most
   .have d2:decide (((rU true 32 b a 0).1:Int)>most)=true:=by simpa using hm
    have r:cA true b a 0 most=(0,a,6):=by simp only[cA,br];rw[aF ⟨hq,hm⟩]
    simp only[go_sem,ro,d,d2,hq];refine dZ (cI b a 6) ⟨by decide,by decide⟩ rfl (by simp[go_sem]) rfl rfl (by rfl) ?_;rw[r];simp only[go_sem,ro];exact done [] _ [(1000,ro true b a 6)] (by simp only[go_sem];rfl) (by simp only[go_sem,ro]) rfl ⟨rfl,rfl⟩
   .have d2:decide (((rU true 32 b a 0).1:Int)>most)=false:=by simpa using hm
    have r:cA true b a 0 most=rU true 32 b a 0:=by simp only[cA,br];rw[au (λhh=>hm hh.2)]
    rw[r];simp only[go_sem,ro,d,d2];exact done [] _ [(1000,ro true b (rU true 32 b a 0).2.1 (rU true 32 b a 0).2.2)] (by simp only[go_sem]) (by simp only[go_sem,ro]) rfl ⟨rfl,rfl⟩
  .have d:((rU true 32 b a 0).2.2==0)=false:=by simp[hq]
   have r:cA true b a 0 most=rU true 32 b a 0:=by simp only[cA,br];rw[au (λhh=>hq hh.1)]
   rw[r];simp only[go_sem,ro,d];exact done [] _ [(1000,ro true b (rU true 32 b a 0).2.1 (rU true 32 b a 0).2.2)] (by simp only[go_sem]) (by simp only[go_sem,ro]) rfl ⟨rfl,rfl⟩
section
attribute[go_sem] bne_self_eq_false gd
def rx(b:List UInt8)(a e:Int):AV:=.agg [.sl 1 (b.map dY),.int .i64 a,.int .i64 e]
attribute[local go_sem] rx ro
end
section
attribute[local go_sem] rx ro
section
variable(b:List UInt8)(a:Nat)(e:Int)(ha:a<=b.length)(hb:b.length<1000000000)
include ha hb
end
end
def D7(b:List UInt8)(hb:b.length<1000000000):aX pg HE [.sl 1 (b.map dY)] [] sb (λr' σ'=>r' = .mp 6 4 0 0/\σ'=[(6,ro true b ((0:Nat):Int) 0)]):=by
 refine bT yI ?_;simp only[yI,go_sem];refine⟨by omega,done [4] _ [(6,ro true b ((0:Nat):Int) 0)] (by simp only[go_sem]) ?_ rfl ⟨rfl,rfl⟩⟩;simp only[go_sem,ro,bG,cU];rw[dQ (by simp)];rfl
def qS{d:Option Nat}{s:St}{K:St->Prop}(k j:Nat)(hk:k<1000)(hj:j<1000\/2000<j)(hkj:k≠j)(hfk:ak s.heap k=none)(hfj:ak s.heap j=none)
  (hK:K ((St.mk (dD [k,j] s.env) ((k,wo j true [] 0)::(j,wa [])::dx [k,j] s.heap)).put d (.mp k 3 0 0))):cR pg A8 [] d s K:=by
 have e0:fw [(2,k),(2000,j)] 2=k:=by
  simp only[fw];unfold iU;have q:¬k=2000:=by omega
  simp[q,hkj]
 have e1:fw [(2,k),(2000,j)] 2000=j:=by
  simp only[fw];unfold iU;have q:¬(2000=k):=by omega
  simp[q]
 refine d_ (σ2:=[]) (r3:=.mp k 3 0 0) (σ3:=[(k,wo j true [] 0),(j,wa [])]) adi [(2,k),(2000,j)] [k,j] rfl rfl ?_ ?_ (λp hp=>by cases hp) (λp hp=>?_) (λp hp=>by cases hp) hK
 .simp only[m8,wz,qx,rE,e0]
 .simp only[iO,iP,wo,wa,br,eR,k9,qx,rE,e0,e1,gd,cD];rfl
 .simp only[eA,wH,or_false]at hp;rcases hp with rfl|rfl
  .exact .inr ⟨by simp,.inl hk,.inr hfk⟩
  .exact .inr ⟨by simp,by rcases hj with h|h<;>omega,.inr hfj⟩
def uN:∀l:List UInt8,mR (l.map dY)=some l
 | []=>rfl
 | b::l=>by
  simp only[eR,dY,mR,uN l,kZ,mz,UInt8.ofNat_toNat]
section
def xr(b:List UInt8)(a:Nat)(t:Option (List UInt8)×Nat×Int):List UInt8×Nat×Int :=
 if t.2.2≠0 then([],a,t.2.2)else if uv (t.1.getD [])=false then([],a,9)else(t.1.getD [],t.2.1,0)
def dl(ok:Bool)(b:List UInt8)(a:Nat)(e:Int):List UInt8×Nat×Int :=
 if ok=true then xr b a (bI ((cA true b a 0 64).2.2==0) b (cA true b a 0 64).2.1 (cA true b a 0 64).2.2 (cA true b a 0 64).1)else([],a,e)
def pj{ok:Bool}{b:List UInt8}{a:Nat}{e most:Int}(h:a<=b.length):(cA ok b a e most).2.1<=b.length:=by
 unfold cA;split
 .split
  .exact h
  .exact Yz h
 .exact h
def Qa(ok:Bool)(b:List UInt8)(a:Nat)(e most:Int):(cA ok b a e most).1<4294967296:=by
 unfold cA;split
 .split
  .exact(by decide:(0:Nat)<4294967296)
  .exact DS _ _ _ _
 .exact(by decide:(0:Nat)<4294967296)
def KC(b:List UInt8)(a:Nat)(e n:Int)(ha:a<=b.length):(∃x,x≠0/\bI (e==0) b a e n=(none,a,x))\/e=0/\∃l,l.length<=b.length/\bI (e==0) b a e n=(some l,a+n.toNat,0)/\l=(b.drop a).take n.toNat:=by
 by_cases h:e=0
 .subst h;by_cases h1:n<0
  .exact .inl ⟨1,by decide,by simp[bI,h1]⟩
  .by_cases h2:n>(b.length:Int)-a
   .exact .inl ⟨3,by decide,by simp[bI,h1,h2]⟩
   .exact .inr ⟨rfl,(b.drop a).take n.toNat,by simp;omega,by simp only[bI,beq_self_eq_true,br,au h1,au h2],rfl⟩
 .exact .inl ⟨e,h,by simp[bI,h]⟩
attribute[local go_sem] rx ro
def UT(m:Bool)(b:List UInt8)(a:Nat)(e:Int)(ha:a<=b.length)(hb:b.length<1000000000) :
  RM ma [] m b a e (.str (dl (m&&e==0) b a e).1) (dl (m&&e==0) b a e).2.1 (dl (m&&e==0) b a e).2.2:=by
 refine bT lC ?_;simp only[go_sem,lC];refine ae (sq m b a e) ?_;cases h:(m&&e==0)
 .have r:dl false b a e=([],a,e):=by simp[dl]
  rw[r];simp only[go_sem];exact Nr (λ_ h=>by cases h) (by simp only[go_sem]) (by rfl) (by first|rfl|simp[go_sem,ab,Lv])
 .obtain⟨rfl,h2⟩:=Bool.and_eq_true_iff.1 h;obtain rfl:e=0:=by simpa using h2
  simp only[go_sem];refine ae (Iu true b a 0 64 ha hb) ?_;have hl:=Qa true b a 0 64;have ha2:=pj (ok:=true) (e:=0) (most:=64) ha;have r:dl true b a 0=xr b a (bI ((cA true b a 0 64).2.2==0) b (cA true b a 0 64).2.1 (cA true b a 0 64).2.2 (cA true b a 0 64).1):=by simp[dl]
  rw[h,r];generalize hc:cA true b a 0 64=c at*;obtain⟨n,a1,e1⟩:=c;simp only[go_sem];refine ae (vx true b a1 e1 n ha2 hb (by omega)) ?_;rw[bW];rcases KC b a1 e1 (n:Int) ha2 with⟨x,hx,ht⟩|⟨rfl,l,hl2,ht,_⟩
  .have r2:xr b a (none,a1,x)=([],a,x):=by simp[xr,hx]
   rw[ht,r2];simp only[go_sem,mR,kZ,aw hx,bv hx];exact Nr (λ_ h=>by cases h) (by simp only[go_sem]) (by rfl) (by first|rfl|simp[go_sem,ab,Lv])
  .have b1:=uN l;rw[mz]at ht;rw[ht];simp only[go_sem,b1,kZ];refine aj (Oq l (by omega)) ?_;cases hv:uv l
   .have r2:xr b a (some l,a1+n,0)=([],a,9):=by simp[xr,hv]
    rw[r2];simp only[go_sem];refine aH (cI b ((a1+n:Nat):Int) 9) ?_;exact Nr (λ_ h=>by cases h) (by simp only[go_sem]) (by rfl) (by first|rfl|simp[go_sem,ab,Lv])
   .have r2:xr b a (some l,a1+n,0)=(l,a1+n,0):=by simp[xr,hv]
    rw[r2];simp only[go_sem];exact Nr (λ_ h=>by cases h) (by simp only[go_sem]) (by rfl) (by first|rfl|simp[go_sem,ab,Lv])
def ac8(b:List UInt8)(a:Nat)(e n:Int)(ha:a<=b.length)(hb:b.length<1000000000)(hn:-9223372036854775808<=n/\n<9223372036854775808) :
  aX pg wk [.mp 1000 4 0 0,.int .i64 n] [(1000,ro true b a e)] sb (λr' σ'=>r' = .mp 24 4 0 0/\σ'=[(1000,ro true b (bI (e==0) b a e n).2.1 (bI (e==0) b a e n).2.2),(24,ro true ((bI (e==0) b a e n).1.getD []) ((0:Nat):Int) (bI (e==0) b a e n).2.2)]):=by
 refine bT ni ?_;simp only[go_sem,ni];refine ae (vx true b a e n ha hb hn) ?_;rw[bW];cases hl:(bI (e==0) b a e n).1 with
 | none =>
  simp only[go_sem];refine bS (Wk.nlh _ 24 (t:=287) (st:=4) (r:=[.bool true,.nl,.int .i64 0,.int .i64 (bI (e==0) b a e n).2.2]) (r':=[.bool true,.sl 1 [],.int .i64 0,.int .i64 (bI (e==0) b a e n).2.2]) (by simp only[go_sem]) ⟨.inl rfl,.inr ⟨rfl,1,rfl⟩,.inl rfl,.inl rfl,trivial⟩) [] (.mp 24 4 0 0) [(1000,ro true b (bI (e==0) b a e n).2.1 (bI (e==0) b a e n).2.2),(24,ro true [] ((0:Nat):Int) (bI (e==0) b a e n).2.2)] (by simp only[go_sem]) (by simp only[go_sem];rfl) rfl ⟨rfl,rfl⟩
 | some l =>
  simp only[go_sem];exact done [] _ [(1000,ro true b (bI (e==0) b a e n).2.1 (bI (e==0) b a e n).2.2),(24,ro true l ((0:Nat):Int) (bI (e==0) b a e n).2.2)] (by simp only[go_sem]) (by simp only[go_sem];rfl) rfl ⟨rfl,rfl⟩
