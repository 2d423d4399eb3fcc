import Derived.Test.YtdfofedlbljnhaaGreatDoorWQt
set_option linter.all false
set_option maxRecDepth 100000
set_option maxHeartbeats 40000000
namespace Go.Proofs.YtdfofedlbljnhaaGreatDoor
section
open Go Go.Mw
def QR{α:Type}(r:Rd α)(Q:α->Nat->Prop):Prop:=∀x k,r = .ok (x,k)->Q x k
def QR.ok{α:Type}{x:α}{k:Nat}{Q:α->Nat->Prop}(h:Q x k):QR (.ok (x,k)) Q:=λ_ _ e=>by cases e;exact h
def QR.er{α:Type}{e:Int×Nat}{Q:α->Nat->Prop}:QR (.error e:Rd α) Q:=λ_ _ e=>by cases e
def QR.ite{α:Type}{c:Prop}[Decidable c]{r s:Rd α}{Q:α->Nat->Prop}(h1:c->QR r Q)(h2:¬c->QR s Q):QR (if c then r else s) Q:=by
 by_cases h:c
 .rw[aF h];exact h1 h
 .rw[au h];exact h2 h
def QR.bd{α β:Type}{r:Rd α}{f:α->Nat->Rd β}{Q:α->Nat->Prop}{R:β->Nat->Prop}(h:QR r Q)(hf:∀x k,Q x k->QR (f x k) R):QR (fP r f) R:=by
 intro y j e;cases hr:r with
 | error e'=>rw[hr]at e;cases e
 | ok q =>
  obtain⟨x,k⟩:=q;rw[hr]at e;exact hf x k (h x k hr) y j e
variable{b:List UInt8}
def okG(l:List bj):Prop:=∀y∈l,(0<=y.n/\y.n<18446744073709551616)/\y.lb.length<=64/\y.ty.length<=1
structure RdM(n:Nat)(m:Md):Prop where
 tot:B0 m<=n
 ts:m.ts.length<=64/\∀x∈m.ts,x.ps.length<=8/\x.rs.length<=8
 ims:m.ims.length<=32
 fs:m.fs.length<=64/\∀x∈m.fs,x.lo.length<=64/\x.b.length<=2048/\okG x.b
 tbs:m.tbs.length<=4
 ms:m.ms.length<=2
 gs:m.gs.length<=32/\∀x∈m.gs,x.i.length<=2048/\okG x.i
 exs:m.exs.length<=64
 els:m.els.length<=16/\∀x∈m.els,(x.o.length<=2048/\okG x.o)/\x.it.length<=256/\∀l∈x.it,l.length<=2048/\okG l
 ds:m.ds.length<=16/\∀x∈m.ds,(x.o.length<=2048/\okG x.o)/\x.b.length<=4096
 cs:m.cs.length<=8/\∀x∈m.cs,x.b.length<=4096
def RdM.le{n k:Nat}{m:Md}(h:RdM n m)(hk:n<=k):RdM k m:=⟨jq h.tot hk,h.ts,h.ims,h.fs,h.tbs,h.ms,h.gs,h.exs,h.els,h.ds,h.cs⟩
def Kr{l:List bj}(h:okG l):Fp l:=λy hy=>(h y hy).1
def RdM.num{n:Nat}{m:Md}(h:RdM n m):Kn m:=⟨λx hx=>Kr (h.fs.2 x hx).2.2,λx hx=>Kr (h.gs.2 x hx).2,λx hx=>⟨Kr (h.els.2 x hx).1.2,λl hl=>Kr ((h.els.2 x hx).2.2 l hl).2⟩,λx hx=>Kr (h.ds.2 x hx).1.2⟩
end
section
open Go Go.Mw
def CO(l:List Cd):ao:=⟨61,3,l.map qB,false⟩
def AY(l:List Cu):ao:=⟨67,3,l.map CB,false⟩
def EK(i j:Nat)(d:Dc):ao:=⟨89,15,[[.sl 2 (d.m.ts.map vK),.sl 13 (d.m.ims.map vM),.ms i 3 0 d.m.fs.length,.sl 4 (d.m.tbs.map xx),.sl 3 (d.m.ms.map p7),.sl 3 (d.m.gs.map zX),.sl 3 (d.m.exs.map y6),.bool d.m.hs,.int .i64 d.m.st,.sl 5 (d.m.els.map fR),.sl 4 (d.m.ds.map nz),.ms j 3 0 d.m.cs.length,.int .i64 d.place,.int .i64 (d.codes:Nat),.int .i64 d.data]],true⟩
def vF{fs:List Cd}{l:List (List Int×List bj)}{k:Nat}(hk:k<fs.length):ah (EC fs l) k=if k<l.length then(⟨(ah fs k).t,(ah l k).1,(ah l k).2⟩:Cd)else ah fs k:=by
 unfold EC;rw[bD (by rw[cU,List.length_zipIdx];exact hk),bD hk,List.getElem_map,List.getElem_zipIdx];simp only[AJ]
def DJ{α:Type}[Inhabited α]{l:List α}{i k:Nat}(h:k<i)(hk:k<l.length):ah (l.take i) k=ah l k:=by
 rw[bD (by rw[pA];omega),bD hk,List.getElem_take]
def Ib{α:Type}[Inhabited α]{l m:List α}(h:l.length=m.length)(hk:∀k,k<l.length->ah l k=ah m k):l=m :=
 List.ext_getElem h λk h1 h2=>by have:=hk k h1;rwa[bD h1,bD h2]at this
def XS{α:Type}[Inhabited α]{l:List α}{i k:Nat}{x:α}(hk:k<l.length):ah (l.set i x) k=if i=k then x else ah l k:=by
 rw[bD (by rw[List.length_set];exact hk),List.getElem_set,bD hk]
def aeZ{fs:List Cd}{L:List (List Int×List bj)}{i:Nat}(hi:i<fs.length)(hL:i<L.length):(EC fs (L.take i)).set i ⟨(ah fs i).t,(ah L i).1,(ah L i).2⟩=EC fs (L.take (i+1)):=by
 refine Ib (by rw[List.length_set,ij,ij]) λk hk=>?_;rw[List.length_set,ij]at hk;rw[XS (by rw[ij];exact hk),vF hk,vF hk,pA,pA];by_cases h1:i=k
 .subst h1;rw[aF rfl,aF (by omega),DJ (by omega) hL]
 rw[au h1];by_cases h2:k<min i L.length
 .rw[aF h2,aF (by omega),DJ (by omega) (by omega),DJ (by omega) (by omega)]
 .rw[au h2,au (by omega)]
def aeY{fs:List Cd}{L:List (List Int×List bj)}{i:Nat}(hi:fs.length<=i):EC fs (L.take i)=EC fs (L.take (i+1)):=by
 refine Ib (by rw[ij,ij]) λk hk=>?_;rw[ij]at hk;rw[vF hk,vF hk,pA,pA];by_cases h2:k<min i L.length
 .rw[aF h2,aF (by omega),DJ (by omega) (by omega),DJ (by omega) (by omega)]
 .rw[au h2,au (by omega)]
def aeX(fs:List Cd):EC fs []=fs:=by
 refine Ib (ij _ _) λk hk=>?_;rw[ij]at hk;rw[vF hk,au (by simp)]
def cdP(x:List Int×List bj):List AV:=qB ⟨0,x.1,x.2⟩
def Zp(x:List Int×List bj):cdP x=[.int .i64 0,.sl 1 (x.1.map oE),.sl 9 (x.2.map aS)]:=rfl
variable{b:List UInt8}(hb:b.length<1000000000)
include hb
def af0:RP gR [.int .i64 (64:Nat),.fn p8 []] b (pL b (I3 b) (64:Nat)) (λl=>.sl 3 (l.map cdP)) :=
 sm hb (cF gF) (λx=>⟨rfl,rfl,rfl,λi=>rfl⟩) (by kernel_rfl) (λ_=>rfl) (λ_ h=>by cases h) (aiw hb) ⟨_,afK b⟩ 64 (by decide)
attribute[local go_sem] cU ro EK CO AY
def abX(d:Dc)(a:Nat)(e:Int)(ha:a<=b.length)(hf:d.m.fs.length<=9223372036854775807):aX pg sd [.mp 1000 15 0 0,.mp 1001 4 0 0] [(1000,EK 2000 2001 d),(1001,ro true b a e),(2000,CO d.m.fs),(2001,AY d.m.cs)] sb
  (λr' σ'=>r' = .tup []/\σ'=[(1000,EK 2000 2001 ⟨{d.m with fs:=EC d.m.fs (pL b (I3 b) (64:Nat) a e).1},d.place,(pL b (I3 b) (64:Nat) a e).1.length,d.data⟩),(1001,ro true b ((pL b (I3 b) (64:Nat) a e).2.1:Nat) (pL b (I3 b) (64:Nat) a e).2.2),(2000,CO (EC d.m.fs (pL b (I3 b) (64:Nat) a e).1)),(2001,AY d.m.cs)]):=by
 refine bT jL ?_;simp only[go_sem,jL];refine ae (af0 hb a e ha) ?_;have hl:=Mi b (I3 b) (64:Nat) a e;generalize pL b (I3 b) (64:Nat) a e=y at*;obtain⟨L,a1,e1⟩:=y;simp only at hl⊢;simp only[go_sem];refine an (λi:Nat=>⟨[(16,.int .i64 i),(15,.int .i64 L.length),(14,.sl 3 (L.map cdP)),(0,.mp 1000 15 0 0),(1,.mp 1001 4 0 0)],[(1000,EK 2000 2001 ⟨{d.m with fs:=EC d.m.fs (L.take i)},d.place,L.length,d.data⟩),(1001,ro true b a1 e1),(2000,CO (EC d.m.fs (L.take i))),(2001,AY d.m.cs)]⟩) (λi=>i<=L.length) (λi=>L.length-i) 0 (cQ _) (Wk.of ?_ ?_) ?_
 .simp only[go_sem];try simp
 .simp only[go_sem,mA,aeX];try simp[go_sem]
 intro i hi2;by_cases q1:(i:Int)<(L.length:Int);rotate_left
 .obtain rfl:i=L.length:=by omega
  rw[eV];simp only[go_sem,aM q1];exact da [] _ [(1000,EK 2000 2001 ⟨{d.m with fs:=EC d.m.fs L},d.place,L.length,d.data⟩),(1001,ro true b a1 e1),(2000,CO (EC d.m.fs L)),(2001,AY d.m.cs)] ⟨rfl,rfl⟩
 have hi':i<L.length:=by omega
 have e8:=dv hi' (by omega);have hlen:=ij d.m.fs (L.take i);by_cases q2:(i:Int)<(d.m.fs.length:Int)
 .have hi3:i<d.m.fs.length:=by omega
  have hs:=aeZ hi3 hi';have hg:=vF (l:=L.take i) hi3;rw[au (by rw[pA];omega)]at hg;generalize EC d.m.fs (L.take i)=B at*;have hst:=OB 2000 3 3 i 61 qB B ⟨(ah d.m.fs i).t,(ah L i).1,(ah L i).2⟩ (λ_=>rfl) rfl;rw[hs,cK]at hst;have hld:yD none (qB (ah B i))=some (.int .i64 (ah d.m.fs i).t):=by rw[hg];rfl
  simp only[go_sem,aL q1,hlen,aL q2,Zp,hld,hst];refine⟨by omega,q1,⟨by omega,q2⟩,hi3,⟨by omega,q2⟩,hi3,?_⟩;refine aE (i+1) (show i+1<=L.length by omega) (show L.length-(i+1)<L.length-i by omega) (Wk.of ?_ ?_)
  .simp only[go_sem,e8];try simp
  .simp only[go_sem,ij];try simp[go_sem]
 .have hs:=aeY (L:=L) (show d.m.fs.length<=i by omega);simp only[go_sem,aL q1,hlen,aM q2,Zp];refine⟨by omega,q1,?_⟩;refine aE (i+1) (show i+1<=L.length by omega) (show L.length-(i+1)<L.length-i by omega) (Wk.of ?_ ?_)
  .simp only[go_sem,e8];try simp
  .simp only[go_sem,hs,ij];try simp[go_sem]
end
section
open Go Go.Mw
def OM(d:Dc)(s:ig)(x:List UInt8):Prop:=aX pg px [.mp 1000 15 0 0,.agg [.int .i64 s.id,.str s.name,.sl 1 (x.map dY)]] [(1000,EK 2000 2001 d),(2000,CO d.m.fs),(2001,AY d.m.cs)] sb
  (λr' σ'=>r' = .int .i64 (kI d s).2/\σ'=[(1000,EK 2000 2001 (kI d s).1),(2000,CO (kI d s).1.m.fs),(2001,AY (kI d s).1.m.cs)])
def ae_{l:List lS}{s:St}(fs:List Nat){r:AV}{σ':List (Nat×ao)}(h1:q_ l (frzs fs s)=some r)(h2:QF (frzs fs s).heap σ')(h3:Lv r σ'=true):mD l (λa b=>a=r/\b=σ') .ret s:=done fs r σ' h1 h2 h3 ⟨rfl,rfl⟩
variable{d:Dc}{s:ig}{x:List UInt8}(hs:s.bs=some x)(hx:x.length<1000000000)(h0:¬s.id=0)
include hs hx h0
attribute[local go_sem] cU ro EK CO AY
theorem agR{p:Int}(hm:p∈[(1:Int),2,4,5,6,7,8,9,10,12])(hp:jH s.id=p):OM d s x:=by
 refine bT aY ?_;have hst:kI d s=Iz d p x:=by unfold kI;rw[au h0,hs,je,hp]
 rw[hst];have cp:=Cg s.id;rw[hp]at cp;have cr:=D7 x hx;simp only[go_sem,aY,aw h0];refine aa (cp) ?_;refine qR cr rfl (by simp[go_sem]) 905 (by decide) (by simp only[go_sem]) ?_;unfold Iz x5 x3;simp only[eA,wH,or_false]at hm;rcases hm with rfl|rfl|rfl|rfl|rfl|rfl|rfl|rfl|rfl|rfl
 all_goals
  simp only[Int.reduceEq,br,cD];simp only[go_sem]
 refine ae (af4 hx 0 0 (cQ _)) ?_;generalize pL x (pFt x) (64:Nat) 0 0=y;rotate_left;refine ae (af7 hx 0 0 (cQ _)) ?_;generalize pL x (Ye x) (32:Nat) 0 0=y;rotate_left;refine ae (aga hx 0 0 (cQ _)) ?_;generalize pL x (iV (QD x) Lh) (4:Nat) 0 0=y;rotate_left;refine ae (af8 hx 0 0 (cQ _)) ?_;generalize pL x (iV (LM x) ⟨0,0,false⟩) (2:Nat) 0 0=y;rotate_left;refine ae (af5 hx 0 0 (cQ _)) ?_;generalize pL x (pGd x) (32:Nat) 0 0=y;rotate_left;refine ae (af3 hx 0 0 (cQ _)) ?_;generalize pL x (Yd x) (64:Nat) 0 0=y;rotate_left;refine ae (N9 hx 0 0 (cQ _)) ?_;unfold pTn pb pP;generalize tL x 0 0=y;rotate_left;refine ae (af2 hx 0 0 (cQ _)) ?_;generalize pL x (Yc x) (16:Nat) 0 0=y;rotate_left;refine ae (N9 hx 0 0 (cQ _)) ?_;unfold pTn pb pP;generalize tL x 0 0=y;rotate_left;refine ae (af1 hx 0 0 (cQ _)) ?_;generalize pL x (Yb x) (16:Nat) 0 0=y;rotate_left
 all_goals
  obtain⟨l,a1,e1⟩:=y;simp only[go_sem];refine ae (KQ true x a1 e1) ?_;rw[x6];simp only[go_sem];exact ae_ [] (by simp only[go_sem]) (by simp only[go_sem]) rfl
end
section
open Go Go.Mw
def bw1{a b id:Nat}(h1:id≠a)(h2:id≠b):bw [(a,b)] id=id:=by
 show iU a b id=id;unfold iU;rw[au h1,au h2]
def agb{b:List UInt8}(hb:b.length<1000000000)(a:Nat)(e:Int)(ha:a<=b.length):aX pg gR [.mp 1000 4 0 0,.int .i64 (64:Nat),.fn gw []] [(1000,ro true b a e)] sb
  (λr' σ'=>r' = .ms 900 3 0 (pL b (P1 b) (64:Nat) a e).1.length/\σ'=[(1000,ro true b ((pL b (P1 b) (64:Nat) a e).2.1:Nat) (pL b (P1 b) (64:Nat) a e).2.2),(900,CO (pL b (P1 b) (64:Nat) a e).1)]) :=
 YG hb (cF gF) (λx=>⟨rfl,rfl,rfl,λi=>rfl⟩) (by kernel_rfl) (λ_=>rfl) (λ_ h=>by cases h) (aiE hb) ⟨_,afS b⟩ 64 (by decide) a e ha
variable{d:Dc}{s:ig}{x:List UInt8}(hs:s.bs=some x)(hx:x.length<1000000000)(h0:¬s.id=0)
include hs hx h0
attribute[local go_sem] cU ro EK CO AY
theorem agP(hp:jH s.id=3):OM d s x:=by
 refine bT aY ?_;have hst:kI d s=Iz d 3 x:=by unfold kI;rw[au h0,hs,je,hp]
 rw[hst];unfold Iz x5 x3;simp only[Int.reduceEq,br,cD];have cp:=Cg s.id;rw[hp]at cp;have cr:=D7 x hx;simp only[go_sem,aY,aw h0];refine aa (cp) ?_;refine qR cr rfl (by simp[go_sem]) 905 (by decide) (by simp only[go_sem]) ?_;simp only[go_sem];have cl:=agb hx 0 0 (cQ _);have hl:=Mi x (P1 x) (64:Nat) 0 0;generalize pL x (P1 x) (64:Nat) 0 0=y at*;obtain⟨l,a1,e1⟩:=y;simp only at cl hl⊢;refine d_ (σ2:=[(905,ro true x ((0:Nat):Int) 0)]) (r3:=.ms 900 3 0 l.length) (σ3:=[(905,ro true x a1 e1),(900,CO l)]) cl [(1000,905)] [900] rfl rfl rfl rfl ?_ ?_ ?_ ?_
 .simp only[go_sem];simp
 .simp only[go_sem];simp[sb,bw,iU,ak]
 .simp only[go_sem];simp[ak]
 simp only[go_sem];refine ae (KQ true x a1 e1) ?_;rw[x6];simp only[go_sem];exact bS (Wk.ren _ [(900,2000)] (λid h1 h2=>bw1 (by omega) (by omega))) [] (.int .i64 (Bx x a1 e1)) [(1000,EK 2000 2001 ⟨{d.m with fs:=l},3,d.codes,d.data⟩),(2000,CO l),(2001,AY d.m.cs)] (by rfl) (by exact⟨rfl,rfl,rfl,trivial⟩) rfl ⟨rfl,rfl⟩
theorem adk(hf:d.m.fs.length<=9223372036854775807)(hp:jH s.id=11):OM d s x:=by
 refine bT aY ?_;have hst:kI d s=Iz d 11 x:=by unfold kI;rw[au h0,hs,je,hp]
 rw[hst];unfold Iz x5 x3;simp only[Int.reduceEq,br,cD];have cp:=Cg s.id;rw[hp]at cp;have cr:=D7 x hx;simp only[go_sem,aY,aw h0];refine aa (cp) ?_;refine qR cr rfl (by simp[go_sem]) 905 (by decide) (by simp only[go_sem]) ?_;simp only[go_sem];have cl:=abX hx ⟨d.m,11,d.codes,d.data⟩ 0 0 (cQ _) hf;generalize pL x (I3 x) (64:Nat) 0 0=y at*;obtain⟨l,a1,e1⟩:=y;simp only at cl⊢;refine d_ (σ2:=[(1000,EK 2000 2001 ⟨d.m,11,d.codes,d.data⟩),(905,ro true x ((0:Nat):Int) 0),(2000,CO d.m.fs),(2001,AY d.m.cs)]) (r3:=.tup []) (σ3:=[(1000,EK 2000 2001 ⟨{d.m with fs:=EC d.m.fs l},11,l.length,d.data⟩),(905,ro true x a1 e1),(2000,CO (EC d.m.fs l)),(2001,AY d.m.cs)]) cl [(1001,905)] [2000,2001] rfl rfl rfl rfl ?_ ?_ ?_ ?_
 .simp only[go_sem];simp
 .simp only[go_sem];simp[sb,bw,iU,ak]
 .simp only[go_sem];simp[ak]
 simp only[go_sem];refine ae (KQ true x a1 e1) ?_;rw[x6];simp only[go_sem];exact eT [] (.int .i64 (Bx x a1 e1)) [(1000,EK 2000 2001 ⟨{d.m with fs:=EC d.m.fs l},11,l.length,d.data⟩),(2000,CO (EC d.m.fs l)),(2001,AY d.m.cs)] ⟨rfl,rfl⟩
end
section
open Go Go.Mw
attribute[local go_sem] cU ro EK CO AY
def agO{d:Dc}{s:ig}{x:List UInt8}(hs:s.bs=some x)(hx:x.length<1000000000)(h0:s.id=0):OM d s x:=by
 refine jy (ic:=ko 22 aY.body) u6 (cF aY) (by rfl) rfl ?_;have hst:kI d s=if d.m.cs.length>=8\/x.length>4096 then(d,6)else(⟨{d.m with cs:=d.m.cs++[⟨d.place,s.name,x⟩]},d.place,d.codes,d.data⟩,0):=by
  unfold kI;rw[aF h0,hs,je]
 rw[hst];by_cases h1:(d.m.cs.length:Int)>=8
 .rw[aF (.inl (by omega))];simp only[go_sem,aY,be h0,aL h1];exact eT [] (.int .i64 6) [(1000,EK 2000 2001 d),(2000,CO d.m.fs),(2001,AY d.m.cs)] ⟨rfl,rfl⟩
 by_cases h2:(x.length:Int)>4096
 .rw[aF (.inr (by omega))];simp only[go_sem,aY,be h0,aM h1,aL h2];exact eT [] (.int .i64 6) [(1000,EK 2000 2001 d),(2000,CO d.m.fs),(2001,AY d.m.cs)] ⟨rfl,rfl⟩
 rw[au (by omega)];simp only[go_sem,aY,be h0,aM h1,aM h2];refine LS (x.map dY) ?_ (by simp only[go_sem]) (by simp only[go_sem]) ?_
 .show qi 36 5 1 .nl (some (x.map dY)) (λ_=>none)=_;unfold qi;simp only[cU];rw[aF (by omega)]
 simp only[go_sem];refine PI (.ms 2001 3 0 (d.m.cs.length+1)) (.reb 2001 (AY (d.m.cs++[⟨d.place,s.name,x⟩]))) ?_ (by simp only[go_sem]) (by simp only[go_sem]) (by simp only[go_sem];rfl) (by simp only[go_sem]) ?_
 .refine Eq.trans (show _=qi 39 67 3 (.ms 2001 3 0 d.m.cs.length) (some [CB ⟨d.place,s.name,x⟩]) (ak [(2001,AY d.m.cs)]) from rfl) ?_;unfold qi;simp only[aT,aC,ak,br];have hr:(AY d.m.cs).rows.length=d.m.cs.length:=by simp[AY]
  rw[aF (by omega),aF ⟨trivial,rfl,rfl,rfl,trivial,by omega,by omega,by omega,rfl⟩];simp[AY,dQ]
 simp only[go_sem];rw[show d.m.cs.length+1=(d.m.cs++[(⟨d.place,s.name,x⟩:Cu)]).length by simp];exact eT [] (.int .i64 0) [(1000,EK 2000 2001 ⟨{d.m with cs:=d.m.cs++[⟨d.place,s.name,x⟩]},d.place,d.codes,d.data⟩),(2000,CO d.m.fs),(2001,AY (d.m.cs++[⟨d.place,s.name,x⟩]))] ⟨rfl,rfl⟩
def PP(d:Dc){s:ig}{x:List UInt8}(hs:s.bs=some x)(hx:x.length<1000000000)(hf:d.m.fs.length<=9223372036854775807)(hid:s.id=0\/(1<=s.id/\s.id<=12)):OM d s x:=by
 by_cases h0:s.id=0
 .exact agO hs hx h0
 obtain⟨p1,p2⟩:=Ih s.id;have p3:=(Nn (id:=s.id) (by omega)).2;rcases II (id:=jH s.id) ⟨p3,p2⟩with p|p|p|p|p|p|p|p|p|p|p|p
 all_goals first|exact agR hs hx h0 (by decide) p|exact agP hs hx h0 p|exact adk hs hx h0 hf p
end
section
open Go Go.Mw
def Zh:List AV:=[.nl,.nl,.nl,.nl,.nl,.nl,.nl,.bool false,.int .i64 0,.nl,.nl,.nl]
def DE:nlm Zh (nZ I2):=⟨.inr ⟨rfl,.inl ⟨2,rfl⟩⟩,.inr ⟨rfl,.inl ⟨13,rfl⟩⟩,.inr ⟨rfl,.inl ⟨3,rfl⟩⟩,.inr ⟨rfl,.inl ⟨4,rfl⟩⟩,.inr ⟨rfl,.inl ⟨3,rfl⟩⟩,.inr ⟨rfl,.inl ⟨3,rfl⟩⟩,.inr ⟨rfl,.inl ⟨3,rfl⟩⟩,.inl rfl,.inl rfl,.inr ⟨rfl,.inl ⟨5,rfl⟩⟩,.inr ⟨rfl,.inl ⟨4,rfl⟩⟩,.inr ⟨rfl,.inl ⟨3,rfl⟩⟩,trivial⟩
def ab3:nlm [.nl,.nl,.nl,.nl,.nl,.nl,.nl,.bool false,.int .i64 0,.nl,.nl,.nl,.int .i64 0,.int .i64 0,.int .i64 (-1)] [.sl 2 (IZ.m.ts.map vK),.sl 13 (IZ.m.ims.map vM),.ms 900 3 0 0,.sl 4 (IZ.m.tbs.map xx),.sl 3 (IZ.m.ms.map p7),.sl 3 (IZ.m.gs.map zX),.sl 3 (IZ.m.exs.map y6),.bool IZ.m.hs,.int .i64 IZ.m.st,.sl 5 (IZ.m.els.map fR),.sl 4 (IZ.m.ds.map nz),.ms 901 3 0 0,.int .i64 IZ.place,.int .i64 (IZ.codes:Nat),.int .i64 IZ.data] :=
 ⟨.inr ⟨rfl,.inl ⟨2,rfl⟩⟩,.inr ⟨rfl,.inl ⟨13,rfl⟩⟩,.inr ⟨rfl,.inr ⟨900,3,rfl⟩⟩,.inr ⟨rfl,.inl ⟨4,rfl⟩⟩,.inr ⟨rfl,.inl ⟨3,rfl⟩⟩,.inr ⟨rfl,.inl ⟨3,rfl⟩⟩,.inr ⟨rfl,.inl ⟨3,rfl⟩⟩,.inl rfl,.inl rfl,.inr ⟨rfl,.inl ⟨5,rfl⟩⟩,.inr ⟨rfl,.inl ⟨4,rfl⟩⟩,.inr ⟨rfl,.inr ⟨901,3,rfl⟩⟩,.inl rfl,.inl rfl,.inl rfl,trivial⟩
def YY{d:Dc}{p:Int}{b:List UInt8}(h:d.m.fs.length<4294967296):(Iz d p b).1.m.fs.length<4294967296:=by
 unfold Iz;by_cases h3:p=3
 .subst h3;simp only[Int.reduceEq,cD,br];exact Mi _ _ _ _ _
 by_cases h11:p=11
 .subst h11;simp only[Int.reduceEq,cD,br];show(EC d.m.fs _).length<_;rw[ij];exact h
 rw[au h3,au h11]
 repeat' split
 all_goals exact h
def U9{d:Dc}{s:ig}(h:d.m.fs.length<4294967296):(kI d s).1.m.fs.length<4294967296:=by
 unfold kI;split
 .split<;>exact h
 .exact YY h
def Ym{id:Int}{x:List UInt8}(h:(kh id x).1=0):∃y,(kh id x).2.bs=some y:=by
 unfold kh at h⊢;by_cases h5:id=0
 .rw[aF h5]at h⊢;by_cases h6:(dl true x 0 0).2.2≠0
  .rw[aF h6]at h;exact absurd h h6
  .rw[au h6];exact⟨_,rfl⟩
 .rw[au h5];exact⟨_,rfl⟩
def X7{d:List UInt8}{last:Int}(h:(ey d last).1=0):∃y,(ey d last).2.1.bs=some y:=by
 unfold ey at h⊢;by_cases h1:(ah d 0).toNat>12
 .rw[aF h1]at h;cases h
 rw[au h1]at h⊢;by_cases h2:(tz d).2.2≠0
 .rw[aF h2]at h;exact absurd h h2
 rw[au h2]at h⊢;by_cases h3:(ah d 0).toNat≠0/\jH (ah d 0).toNat<=last
 .rw[aF h3]at h;cases h
 rw[au h3]at h⊢;by_cases h4:(kh (ah d 0).toNat (gb (tz d).1)).1≠0
 .rw[aF h4]at h;exact absurd h h4
 rw[au h4];exact Ym (B2.1 h4)
def Ox:∀(f:Nat)(d:List UInt8)(last:Int)(acc:List ig),(∀s∈acc,∃y,s.bs=some y)->∀s∈(tO f d last acc).2,∃y,s.bs=some y
 | 0,d,last,acc,h=>h
 | f+1,d,last,acc,h=>by
  rw[tO];by_cases h0:d.length=0
  .rw[aF h0];exact h
  rw[au h0];by_cases h1:(ey d last).1≠0
  .rw[aF h1];intro s hs;cases hs
  rw[au h1];refine Ox f _ _ _ λs hs=>?_;rcases f9.1 hs with q|q
  .exact h s q
  .simp only[kq]at q;subst q;exact X7 (B2.1 h1)
def ads(b:List UInt8):∀s∈(Ec b).2,∃y,s.bs=some y:=by
 unfold Ec;split
 .intro s hs;cases hs
 split
 .intro s hs;cases hs
 .exact Ox _ _ _ _ λs hs=>by cases hs
def Oy:∀(f:Nat)(d:List UInt8)(last:Int)(acc:List ig),(tO f d last acc).2.length<=acc.length+f
 | 0,d,last,acc=>bG _
 | f+1,d,last,acc=>by
  rw[tO];split
  .exact Nat.le_add_right _ _
  split
  .exact cQ _
  .have:=Oy f (ey d last).2.2 (max last (jH (ey d last).2.1.id)) (acc++[(ey d last).2.1]);rw[aJ,jI]at this;omega
def adt(b:List UInt8):(Ec b).2.length<=b.length:=by
 unfold Ec;split
 .exact cQ _
 split
 .exact cQ _
 .have:=Oy (b.drop 8).length (b.drop 8) 0 [];rw[jJ]at this;simp only[aC]at this;unfold MO;rw[jJ];omega
attribute[local go_sem] cU EK CO AY
def To(b:List UInt8)(hb:b.length<=9223372036854775807):ac pg BA [.sl 1 (b.map dY)] (.tup [cY (G_ b).1,.int .i64 (G_ b).2]):=by
 refine aD mE ?_;by_cases h1:(b.length:Int)>262144
 .have r:G_ b=(I2,6):=by unfold G_;rw[aF (by omega)]
  rw[r];simp only[go_sem,mE,aL h1];exact dd (Wk.nlm _ 2 (r:=Zh) (r':=nZ I2) (by rfl) DE) [] (by first|rfl|simp only[go_sem]) rfl
 have c1:=YW b (by omega);simp only[go_sem,mE,aM h1];refine aj (c1) ?_;by_cases h2:(Ec b).1=0;rotate_left
 .have r:G_ b=(I2,(Ec b).1):=by unfold G_;rw[au (by omega),aF h2]
  rw[r];simp only[go_sem,bv h2];exact dd (Wk.nlm _ 2 (r:=Zh) (r':=nZ I2) (by rfl) DE) [] (by first|rfl|simp only[go_sem]) rfl
 have r:G_ b=Lz (Ec b).2 IZ:=by unfold G_;rw[au (by omega),au (by simp[h2])]
 have hsz:=adu b;rw[r];simp only[go_sem,bB h2];have hbs:=ads b;have hLn:=adt b;generalize (Ec b).2=L at*;obtain⟨R,hR⟩:∃R,Lz L IZ=R:=⟨_,rfl⟩
 rw[hR];refine an (λq:Nat×Dc=>⟨[(27,.int .i64 q.1),(26,.int .i64 L.length),(25,.sl 3 (L.map km)),(6,.mp 24 15 0 0),(2,.mp 2 12 0 0)],[(2,⟨33,12,[[.nl,.nl,.nl,.nl,.nl,.nl,.nl,.bool false,.int .i64 0,.nl,.nl,.nl]],true⟩),(24,EK 900 901 q.2),(900,CO q.2.m.fs),(901,AY q.2.m.cs)]⟩) (λq=>q.1<=L.length/\Lz (L.drop q.1) q.2=R/\q.2.m.fs.length<4294967296) (λq=>L.length-q.1) (0,IZ) ⟨cQ _,hR,by decide⟩
  ((((Wk.new0 _ 900 3 61 (.inl (by decide))).trans (Wk.new0 _ 901 3 67 (.inl (by decide)))).trans (Wk.nlm _ 24 (r:=[.nl,.nl,.nl,.nl,.nl,.nl,.nl,.bool false,.int .i64 0,.nl,.nl,.nl,.int .i64 0,.int .i64 0,.int .i64 (-1)]) (by rfl) ab3)).trans (Wk.of ?_ ?_)) ?_
 .simp only[go_sem];try simp
 .simp only[go_sem];try simp[go_sem,IZ,I2]
 rintro⟨i,d⟩ ⟨hi,hD,hfs⟩;simp only at hi hD hfs;by_cases q1:(i:Int)<(L.length:Int);rotate_left
 .obtain rfl:i=L.length:=by omega
  rw[List.drop_length,Lz]at hD;by_cases c1:(d.codes:Int)=(d.m.fs.length:Int);rotate_left
  .rw[aF (.inl c1)]at hD;subst hD;simp only[go_sem,aM q1,bv c1];exact dd (Wk.nlm _ 2 (r:=Zh) (r':=nZ I2) (by rfl) DE) [] (by first|rfl|simp only[go_sem]) rfl
  by_cases c2:d.data>=0
  .by_cases c3:d.data=(d.m.ds.length:Int)
   .rw[au (by rintro(q|q);exact q c1;exact q.2 c3)]at hD;subst hD;simp only[go_sem,aM q1,bB c1,aL c2,bB c3];refine aq [900,901] ?_ rfl;simp only[go_sem,bG,cY,bC];rw[dQ (by simp),dQ (by simp)]
   .rw[aF (.inr ⟨c2,c3⟩)]at hD;subst hD;simp only[go_sem,aM q1,bB c1,aL c2,bv c3];exact dd (Wk.nlm _ 2 (r:=Zh) (r':=nZ I2) (by rfl) DE) [] (by first|rfl|simp only[go_sem]) rfl
  .rw[au (by rintro(q|q);exact q c1;exact c2 q.1)]at hD;subst hD;simp only[go_sem,aM q1,bB c1,aM c2];refine aq [900,901] ?_ rfl;simp only[go_sem,bG,cY,bC];rw[dQ (by simp),dQ (by simp)]
 have hi':i<L.length:=by omega
 have e8:=dv hi' (by omega);have hin:ah L i∈L:=by rw[bD hi'];exact na hi'
 obtain⟨x,hx⟩:=hbs _ hin;obtain⟨z1,z2⟩:=hsz _ hin;rw[hx,je]at z1;rw[qk hi',Lz]at hD;obtain⟨s,hsL⟩:∃s,ah L i=s:=⟨_,rfl⟩
 rw[hsL]at hx z2 hD;have cs:=PP d hx (by omega) (by omega) z2;have hf2:=U9 (s:=s) hfs;have hsx:Lg s.bs = .sl 1 (x.map dY):=by rw[hx];rfl
 unfold OM at cs;generalize kI d s=y at*;obtain⟨d',e⟩:=y;simp only at cs hD hf2;simp only[go_sem,aL q1,hsL,hsx];refine⟨by omega,q1,?_⟩;refine d_ (σ2:=[(24,EK 900 901 d),(900,CO d.m.fs),(901,AY d.m.cs)]) (r3:=.int .i64 e) (σ3:=[(24,EK 900 901 d'),(900,CO d'.m.fs),(901,AY d'.m.cs)]) cs [(1000,24),(2000,900),(2001,901)] [900,901] rfl rfl rfl rfl ?_ ?_ ?_ ?_
 .simp only[go_sem];simp
 .simp only[go_sem];simp[sb,bw,iU,ak]
 .simp only[go_sem];simp[ak]
 by_cases he:e=0;rotate_left
 .rw[aF he]at hD;subst hD;simp only[go_sem,bv he];exact dd (Wk.nlm _ 2 (r:=Zh) (r':=nZ I2) (by rfl) DE) [] (by first|rfl|simp only[go_sem]) rfl
 rw[au (by simp[he])]at hD;simp only[go_sem,bB he];refine aE (i+1,d') ⟨show i+1<=L.length by omega,hD,hf2⟩ (show L.length-(i+1)<L.length-i by omega) (Wk.of ?_ ?_)
 .simp only[go_sem,e8];try simp
 .simp only[go_sem];try simp[go_sem]
end
section
open Go Go.Mw
def ln8(m:Md):Nat:=m.ts.length+m.ims.length+m.fs.length+m.exs.length+m.els.length+m.ds.length+m.cs.length+m.gs.length
def U3(m:Md):Bool:=decide (CY m<=600)&&decide ((ln8 m:Int)<=300)
attribute[local go_sem] cU bC
def Ze{m:Md}(h:BZ m):ac pg ET [cY m] (.bool (U3 m)):=by
 refine aD wJ ?_;have c:=Uw m h;simp only[cY,bC]at c;simp only[go_sem,wJ,cY];refine aj (c) ?_;unfold U3;by_cases q:CY m<=600;rotate_left
 .rw[aM q];simp only[go_sem,aM q];exact az
 rw[aL q];have b1:=h.ts.1;have b2:=h.ims;have b3:=h.fs.1;have b4:=h.exs;have b5:=h.els.1;have b6:=h.ds.1;have b7:=h.cs.1;have b8:=h.gs.1;have w1:=wi (n:=(m.ts.length:Int)+m.ims.length) (by omega) (by omega);have w2:=wi (n:=(m.ts.length:Int)+m.ims.length+m.fs.length) (by omega) (by omega);have w3:=wi (n:=(m.ts.length:Int)+m.ims.length+m.fs.length+m.exs.length) (by omega) (by omega);have w4:=wi (n:=(m.ts.length:Int)+m.ims.length+m.fs.length+m.exs.length+m.els.length) (by omega) (by omega);have w5:=wi (n:=(m.ts.length:Int)+m.ims.length+m.fs.length+m.exs.length+m.els.length+m.ds.length) (by omega) (by omega);have w6:=wi (n:=(m.ts.length:Int)+m.ims.length+m.fs.length+m.exs.length+m.els.length+m.ds.length+m.cs.length) (by omega) (by omega);have w7:=wi (n:=(m.ts.length:Int)+m.ims.length+m.fs.length+m.exs.length+m.els.length+m.ds.length+m.cs.length+m.gs.length) (by omega) (by omega);have e:(ln8 m:Int)=(m.ts.length:Int)+m.ims.length+m.fs.length+m.exs.length+m.els.length+m.ds.length+m.cs.length+m.gs.length:=by unfold ln8;omega
 rw[e];simp only[go_sem,aL q,w1,w2,w3,w4,w5,w6,w7];exact az
def He:Md:=⟨[⟨[],[]⟩],[],[⟨0,[],[⟨11,0,0,0,0,0,0,[],[]⟩]⟩],[],[],[],[],false,0,[],[],[]⟩
def R5:List AV:=[.sl 2 [[.nl,.nl]],.nl,.sl 3 [[.int .i64 0,.nl,.sl 9 [[.int .i64 11,.int .i64 0,.int .i64 0,.int .u64 0,.int .i64 0,.int .i64 0,.int .i64 0,.nl,.nl]]]],.nl,.nl,.nl,.nl,.bool false,.int .i64 0,.nl,.nl,.nl]
def byB:List UInt8:=[0,97,115,109,1,0,0,0,1,4,1,96,0,0,3,2,1,0,10,4,1,2,0,11]
def aii:nld (.agg R5) (cY He) :=
 .inr ⟨_,_,rfl,rfl,H2 ⟨⟨.nl _,.nl _,trivial⟩,trivial⟩,.nl _,H2 ⟨⟨.rfl _,.nl _,H2 ⟨⟨.rfl _,.rfl _,.rfl _,.rfl _,.rfl _,.rfl _,.rfl _,.nl _,.nl _,trivial⟩,trivial⟩,trivial⟩,trivial⟩,.nl _,.nl _,.nl _,.nl _,.rfl _,.rfl _,.nl _,.nl _,.nl _,trivial⟩
def aih:nld (.agg Zh) (cY I2):=.inr ⟨_,_,rfl,rfl,.nl _,.nl _,.nl _,.nl _,.nl _,.nl _,.nl _,.rfl _,.rfl _,.nl _,.nl _,.nl _,trivial⟩
def agU:BZ He:=⟨⟨by decide,λx hx=>by
  simp only[He,kq]at hx;subst hx;exact⟨by decide,by decide⟩⟩,by decide,⟨by decide,λx hx=>by
  simp only[He,kq]at hx;subst hx;refine⟨by decide,by decide,λy hy=>?_⟩;simp only[kq]at hy;subst hy;exact⟨by decide,by decide,by decide⟩⟩,by decide,by decide,⟨by decide,λx h=>by cases h⟩,by decide,⟨by decide,λx h=>by cases h⟩,⟨by decide,λx h=>by cases h⟩,⟨by decide,λx h=>by cases h⟩⟩
def aiU:BZ I2:=⟨⟨by decide,λx h=>by cases h⟩,by decide,⟨by decide,λx h=>by cases h⟩,by decide,by decide,⟨by decide,λx h=>by cases h⟩,by decide,⟨by decide,λx h=>by cases h⟩,⟨by decide,λx h=>by cases h⟩,⟨by decide,λx h=>by cases h⟩⟩
def afF:Kn He:=⟨λx hx=>by
  simp only[He,kq]at hx;subst hx;intro y hy;simp only[kq]at hy;subst hy;exact⟨by decide,by decide⟩,(λx h=>by cases h),(λx h=>by cases h),(λx h=>by cases h)⟩
def aij:Kn I2:=⟨(λx h=>by cases h),(λx h=>by cases h),(λx h=>by cases h),(λx h=>by cases h)⟩
def afb:gq I2=(0,Gg):=by decide +kernel
def Zs:gq He=(0,byB):=by decide +kernel
def ae6:G_ byB=(He,0):=by kernel_rfl
def Qi:ac pg ES [] (.bool true):=by
 refine aD wI ?_;have c1:ac pg mU [.agg Zh] (.tup [.sl 1 (Gg.map dY),.int .i64 0]):=by
  have c:=zc aiU aij (by decide +kernel);rw[afb]at c;exact xD c ⟨aih,trivial⟩
 have c2:ac pg mU [.agg R5] (.tup [.sl 1 (byB.map dY),.int .i64 0]):=by
  have c:=zc agU afF (by decide +kernel);rw[Zs]at c;exact xD c ⟨aii,trivial⟩
 have c3:=To byB (by decide);rw[ae6]at c3;have c4:=NV agU afF (by decide +kernel);rw[Zs]at c4;simp only[Zh]at c1;simp only[R5]at c2;simp only[go_sem,wI];refine aa (c1) ?_;refine⟨_,Wk.frzs [14,16] _,?_⟩;simp only[PY];simp only[go_sem,bG,List.take_succ_cons,mA];refine oU [18] ?_ c2 (by simp[go_sem]) ?_
 .simp only[go_sem,bG]
  try rfl
 simp only[go_sem];refine aj (c3) ?_;simp only[go_sem,cY,show(Gg==[0,97,115,109,1,0,0,0])=true from rfl,show(byB==Gg++[1,4,1,96,0,0,3,2,1,0,10,4,1,2,0,11])=true from rfl,show(((He.fs.length:Nat):Int)==1)=true from rfl];refine⟨by decide,?_⟩;simp only[cY,bC]at c4;refine aa (c4) ?_;exact az
end
open Go Go.Mw
def Ea{B:Nat}(hB:B<=140737488355328){l:List bj}(h:bL G2 B l):KV l:=⟨by have:=h.1;omega,λx hx=>⟨by have:=(h.2 x hx).2.1.1;omega,by have:=(h.2 x hx).2.2.1;omega,(h.2 x hx).1.1⟩⟩
def agT{B:Nat}(hB:B<=140737488355328){m:Md}(hm:aaO B m):BZ m:=by
 obtain⟨b1,b2,b3,b4,b5,b6,b7,b8,b9,b10⟩:=hm;exact⟨⟨jq b1.1 hB,λx hx=>⟨by have:=(b1.2 x hx).1.1;omega,by have:=(b1.2 x hx).2.1;omega⟩⟩,jq b2.1 hB,⟨jq b3.1 hB,λx hx=>⟨by have:=(b3.2 x hx).1.1;omega,Ea hB (b3.2 x hx).2⟩⟩,jq b4.1 hB,jq b5.1 hB,⟨jq b6.1 hB,λx hx=>Ea hB (b6.2 x hx)⟩,jq b7.1 hB,⟨jq b8.1 hB,λx hx=>⟨Ea hB (b8.2 x hx).1,jq (b8.2 x hx).2.1 hB,λl hl=>Ea hB ((b8.2 x hx).2.2 l hl)⟩⟩,⟨jq b9.1 hB,λx hx=>⟨Ea hB (b9.2 x hx).1,by have:=(b9.2 x hx).2.1;omega⟩⟩,⟨jq b10.1 hB,λx hx=>by have:=(b10.2 x hx).2.1;show x.b.length<=_;omega⟩⟩
def Ks{B:Nat}{l:List bj}(h:bL G2 B l):Fp l:=λy hy=>(h.2 y hy).1
def ab6{B:Nat}{m:Md}(hm:aaO B m):Kn m:=by
 obtain⟨b1,b2,b3,b4,b5,b6,b7,b8,b9,b10⟩:=hm;exact⟨λx hx=>Ks (b3.2 x hx).2,λx hx=>Ks (b6.2 x hx),λx hx=>⟨Ks (b8.2 x hx).1,λl hl=>Ks ((b8.2 x hx).2.2 l hl)⟩,λx hx=>Ks (b9.2 x hx).1⟩
def U4{m:Md}(h:U3 m=true):CY m<=6000:=by
 unfold U3 at h;rw[cE,eQ]at h;omega
section
def WL(m:Md):List Bool:=[decide ((m.ts.length:Int)>0),decide ((m.ims.length:Int)>0),decide ((m.fs.length:Int)>0),decide ((m.tbs.length:Int)>0),decide ((m.ms.length:Int)>0),decide ((m.gs.length:Int)>0),decide ((m.exs.length:Int)>0),m.hs,decide ((m.els.length:Int)>0),decide ((m.ds.length:Int)>0),decide ((m.fs.length:Int)>0),decide ((m.ds.length:Int)>0)]
def EQ:Nat->List Bool->List Int
 | _,[]=>[]
 | k,b::l=>(if b=true then[(k:Int)]else[])++EQ (k+1) l
def NM:∀(a b:List Bool)(k:Nat),EQ k (a++b)=EQ k a++EQ (k+a.length) b
 | [],b,k=>by simp[EQ]
 | x::a,b,k=>by
  rw[k7,EQ,EQ,NM a b,aT,eU];congr 3;omega
def NN:∀(a:List Bool)(k:Nat),(EQ k a).length<=a.length
 | [],k=>bG _
 | x::a,k=>by
  have:=NN a (k+1);rw[EQ,aJ,aT];split<;>simp<;>omega
def abu(n:Nat)(p:Int):(if decide ((n:Int)>0)=true then[p]else[])=tq (n>0) p:=by
 unfold tq;by_cases h:n>0
 .rw[aF h,aF (aL (by omega))]
 .rw[au h,aM (by omega),au (by decide)]
def Yq(m:Md):qt m=EQ 1 (WL m):=by
 rw[AB];unfold WL;simp only[EQ,abu,eU,gh];rfl
def afn{l:List Bool}{i:Nat}(h:i<l.length):EQ 1 (l.take (i+1))=EQ 1 (l.take i)++if ah l i=true then[((i:Int)+1)]else[]:=by
 rw[su h,NM,pA];congr 1;rw[EQ,EQ,gh];have e:((1+min i l.length:Nat):Int)=(i:Int)+1:=by omega
 rw[e]
attribute[local go_sem] cU bC
def KF(m:Md):ac pg At [cY m] (.sl 1 ((qt m).map ri)):=by
 refine aD qN ?_;rw[Yq];simp only[go_sem,qN,cY];obtain⟨H,hH⟩:∃H,WL m=H:=⟨_,rfl⟩
 have hl:H.length=12:=by rw[<-hH];rfl
 rw[hH];refine an (λi:Nat=>⟨[(5,.int .i64 i),(4,.ms 900 1 0 (EQ 1 (H.take i)).length),(3,.sl 1 (H.map rt))],[(900,⟨3,1,(EQ 1 (H.take i)).map ri,false⟩)]⟩) (λi=>i<=H.length) (λi=>H.length-i) 0 (cQ _) (((Wk.frzs [52] _).trans (Wk.nil _ 4 900 1 3 (by simp only[go_sem]) (.inl (by decide)))).trans (Wk.of ?_ ?_)) ?_
 .simp only[go_sem,St.mknil,<-hH];try simp[WL,EQ,rt]
 .simp only[go_sem,St.mknil];try simp[go_sem,EQ]
 intro i hi;have hln:=NN (H.take i) 1;rw[pA]at hln;by_cases q:(i:Int)<(H.length:Int);rotate_left
 .obtain rfl:i=H.length:=by omega
  rw[eV];simp only[go_sem,aM q];refine aq [900] ?_ rfl;simp only[go_sem,bG];rw[dQ (by simp)]
 have hi':i<H.length:=by omega
 have e8:=dv hi' (by omega);have hs:=afn hi';have happ:=λys=>bX 900 3 1 (EQ 1 (H.take i)).length ri (EQ 1 (H.take i)) ys rfl;cases hb:ah H i
 .rw[hb,au (by decide),gh]at hs;simp only[go_sem,aL q,hb];refine⟨by omega,q,?_⟩;refine aE (i+1) (show i+1<=H.length by omega) (show H.length-(i+1)<H.length-i by omega) (Wk.of ?_ ?_)
  .simp only[go_sem,e8,hs];try simp
  .simp only[go_sem,hs];try simp[go_sem]
 .rw[hb,aF rfl]at hs;simp only[go_sem,aL q,hb,e8,happ];refine⟨by omega,q,by omega,?_⟩;refine aE (i+1) (show i+1<=H.length by omega) (show H.length-(i+1)<H.length-i by omega) (Wk.of ?_ ?_)
  .simp only[go_sem,e8,hs];try simp
  .simp only[go_sem,hs];try simp[go_sem]
end
section
attribute[local go_sem high] N2 Ki Kj Kg Kk Kf Kl Kh
def Ax(op:Int):ac pg Dr [.int .i64 op] (.bool (EE op)):=by
 refine aD uA ?_;simp only[uA,go_sem];refine⟨λh=>aq [] ?_ rfl,λh=>⟨λh2=>aq [] ?_ rfl,λh2=>aq [] ?_ rfl⟩⟩ <;>
  simp[go_sem,EE, *]
def DG(B:List bj)(m:Nat)(hm:m<=B.length)(hn:B.length<1000000):ac pg Fh [.sl 9 (B.map aS),.int .i64 m] (.sl 1 ((ba B m).map ri)):=by
 refine aD xh ?_;simp only[xh,go_sem];refine an (λq:Nat×List Int=>⟨[(6,.int .i64 q.1),(5,.ms 7 1 0 (ba B q.1).length),(0,.sl 9 (B.map aS)),(1,.int .i64 m)],[(7,⟨3,1,(ba B q.1++q.2).map ri,false⟩)]⟩) (λq=>q.1<=m) (λq=>m-q.1) (0,[]) (cQ _) (Wk.of ?_ ?_) ?_
 .simp[go_sem,ba]
 .simp[go_sem,ba]
 rintro⟨i,J⟩ hi;have hl:=vg B i;simp only[go_sem]at hi⊢;refine⟨λh=>⟨by omega,by omega,bY (Ax _) (by simp[go_sem]) ?_⟩,λh=>aq [7] ?_ rfl⟩
 .simp only[go_sem,FC 7 3 1 (ba B i).length ri (ba B i++J) _ (by simp)];refine⟨λhb=>⟨by omega,by omega,by omega,λh11=>?_,λh11=>aE (i+1,[]) (show i+1<=m by omega) (show m-(i+1)<m-i by omega) (Wk.of ?_ ?_)⟩,λhb=>⟨by omega,by omega,λh11=>⟨λhp=>⟨?_,aE (i+1,(ba B i).drop ((ba B i).length-1)++J) (show i+1<=m by omega) (show m-(i+1)<m-i by omega) (Wk.of ?_ ?_)⟩,λhp=>aE (i+1,J) (show i+1<=m by omega) (show m-(i+1)<m-i by omega) (Wk.of ?_ ?_)⟩,λh11=>aE (i+1,J) (show i+1<=m by omega) (show m-(i+1)<m-i by omega) (Wk.of ?_ ?_)⟩⟩
  .simp[EE]at hb h11;omega
  .simp[go_sem,wi (n:=i+1) (by omega) (by omega),ba,ry,hb]
  .simp[go_sem,ba,ry,hb]
  .rw[wi (by omega) (by omega)];omega
  .simp[go_sem,wi (n:=i+1) (by omega) (by omega),wi (n:=(ba B i).length-1) (by omega) (by omega),ba,ry,hb,h11]
  .simp[go_sem,ba,ry,hb,h11,List.dropLast_eq_take];rw[<-eU,<-kr,IS,kr]
  .have h0:ba B i=[]:=zU (by omega);simp[go_sem,wi (n:=i+1) (by omega) (by omega),ba,ry,hb,h11,h0]
  .have h0:ba B i=[]:=zU (by omega);simp[go_sem,ba,ry,hb,h11,h0]
  .simp[go_sem,wi (n:=i+1) (by omega) (by omega),ba,ry,hb,h11]
  .simp[go_sem,ba,ry,hb,h11]
 .have:i=m:=by omega
  subst this;simp[go_sem]
def PR{B:List bj}{h:Int}{i m:Nat}(hi:i<=m)(he:sg B h i=true):sg B h m=true:=by
 simp only[sg,AK,List.mem_range]at he⊢;obtain⟨j,h1,h2⟩:=he;exact⟨j,by omega,h2⟩
def TQ(B:List bj)(h':Int)(m:Nat)(h1:-1<=h')(h2:h'<m)(hm:m<=B.length)(hn:B.length<1000000):ac pg Fg [.sl 9 (B.map aS),.int .i64 h',.int .i64 m] (.bool (sg B h' m)):=by
 refine aD xg ?_;simp only[xg,go_sem,wi (n:=h'+1) (by omega) (by omega)];refine an (λi:Nat=>⟨[(7,.int .i64 i),(0,.sl 9 (B.map aS)),(1,.int .i64 h'),(2,.int .i64 m),(6,.bool false)],[]⟩) (λi=>h'<i/\i<=m/\sg B h' i=false) (λi=>m-i) (h'+1).toNat ⟨by omega,by omega,?_⟩ (Wk.of ?_ ?_) ?_
 .simp only[sg,vB];intro j hj;simp at hj⊢;omega
 .simp[go_sem];omega
 .simp[go_sem]
 rintro i ⟨hi,him,he⟩;have hl:=vg B i;simp only[go_sem];refine⟨λh=>bY (DG B i (by omega) hn) (by simp[go_sem]) ?_,λh=>aq [] ?_ rfl⟩
 .have hw:(IntKind.i64.wrap (↑(ba B i).length-1))=((ba B i).length:Int)-1:=wi (by omega) (by omega);have hnt:((ba B i).length-1:Int).toNat=(ba B i).length-1:=by omega
  simp only[go_sem,hw,hnt];have hstep:=vT B h' i;refine⟨by omega,by omega,λh5=>⟨λhp=>⟨by omega,by omega,λhh=>aq [] ?_ rfl,λhh=>?_⟩,λhp=>?_⟩,λh5=>?_⟩
  .have:sg B h' m=true:=by
    refine PR (i:=i+1) (by omega) ?_;rw[hstep,he,h5];simp only[xW];simp[hh,hi];omega
   simp[go_sem,this]
  all_goals refine aE (i+1) ⟨by omega,by omega,?_⟩ (by omega) (Wk.of (by simp[go_sem,wi (n:=i+1) (by omega) (by omega)]) (by simp[go_sem]))
  .rw[hstep,he];simp only[xW];simp[hh]
  .rw[hstep,he];simp;omega
  .rw[hstep,he,h5];simp
 .have:i=m:=by omega
  subst this;simp[go_sem,he]
def oz(B:List bj)(hn:B.length<1000000):ac pg Ff [.sl 9 (B.map aS)] (.tup [.int .i64 (nchk B).1,.int .i64 (nchk B).2]):=by
 refine aD xf ?_;simp only[xf,go_sem];refine an (λi:Nat=>⟨[(4,.int .i64 i),(0,.sl 9 (B.map aS))],[]⟩) (λi=>i<=B.length/\∀j,j<i->dX B j=0) (λi=>B.length-i) 0 ⟨cQ _,λj hj=>absurd hj (Nat.not_lt_zero _)⟩ (Wk.of ?_ ?_) ?_
 .simp[go_sem]
 .simp[go_sem]
 rintro i ⟨hi,he⟩;replace hi:i<=B.length:=hi;have hl:=vg B i;have hne:∀j,j<i->0<(ba B j).length:=λj hj=>N0 (he j hj);have hw:(IntKind.i64.wrap (↑(ba B i).length-1))=((ba B i).length:Int)-1:=wi (by omega) (by omega);have hnt:((ba B i).length-1:Int).toNat=(ba B i).length-1:=by omega
 have hhd:ah (ba B i) ((ba B i).length-1)=xW B i:=rfl;simp only[go_sem];refine⟨λh=>bY (DG B i (by omega) hn) (by simp[go_sem]) ?_,λh=>bY (DG B B.length (by omega) hn) (by simp[go_sem]) ?_⟩
 .simp only[go_sem,hw,hnt,hhd];have h':i<B.length:=by omega
  refine⟨λh0=>aq [] ?_ rfl,λh0=>?_⟩
  .have h0':(ba B i).length=0:=by simp at h0;simp[h0]
   have h16:dX B i=16:=by simp only[dX,h0',br]
   rw[sf h' he (by rw[h16];decide),h16];simp[go_sem]
  .have h0':0<(ba B i).length:=by simp at h0;cases hr:ba B i with|nil=>exact absurd hr h0|cons=>simp
   obtain⟨hb1,hb2⟩:=DD hne h0';refine⟨by omega,by omega,by omega,by omega,?_⟩;have h16:cx B i=true->dX B i=16:=λhb=>by simp only[dX,hb,au (Nat.ne_of_gt h0'),br]
   have h00:cx B i=false->(EE (ah B i).op&&decide (32<=(ba B i).length))=false->dX B i=0:=λhb hc=>by simp only[dX,hb,hc,au (Nat.ne_of_gt h0')];rfl
   have h6:cx B i=false->(EE (ah B i).op&&decide (32<=(ba B i).length))=true->dX B i=6:=λhb hc=>by simp only[dX,hb,hc,au (Nat.ne_of_gt h0')];rfl
   have hsucc:dX B i=0->∀j,j<i+1->dX B j=0:=λh0 j hj=>by
    rcases Nat.lt_or_eq_of_le (Nat.le_of_lt_succ hj)with h1|h1
    .exact he j h1
    .rw[h1];exact h0
   have hp16:cx B i=true->nchk B=((i:Int),16):=λhb=>by rw[sf h' he (by rw[h16 hb];decide),h16 hb]
   refine⟨λh5=>⟨λhneg=>aq [] ?_ rfl,λhneg=>⟨by omega,by omega,λh4=>aq [] ?_ rfl,λh4=>bY (TQ B (xW B i) i (by omega) (by omega) (by omega) hn) (by simp[go_sem]) ?_⟩⟩,λh5=>?_⟩
   .rw[hp16 (by simp[cx,h5,hneg])];simp[go_sem]
   .rw[hp16 (by simp[cx,h5,h4])];simp[go_sem]
   .simp only[go_sem];refine⟨λhel=>aq [] ?_ rfl,λhel=>⟨by omega,by omega,bY (Ax _) (by simp[go_sem]) ?_⟩⟩
    .rw[hp16 (by simp[cx,h5,hel])];simp[go_sem]
    .have hbe:cx B i=false:=by simp[cx,h4,hel];intro _;omega
     simp only[go_sem];refine⟨λhb=>⟨λh32=>aq [] ?_ rfl,λh32=>aE (i+1) ⟨by omega,hsucc (h00 hbe ?_)⟩ (by omega) (Wk.of ?_ ?_)⟩,λhb=>aE (i+1) ⟨by omega,hsucc (h00 hbe ?_)⟩ (by omega) (Wk.of ?_ ?_)⟩
     .have:=h6 hbe (by simp[hb];omega);rw[sf h' he (by rw[this];decide),this];simp[go_sem]
     .simp;omega
     .simp[go_sem,wi (n:=i+1) (by omega) (by omega)]
     .simp[go_sem]
     .simp[hb]
     .simp[go_sem,wi (n:=i+1) (by omega) (by omega)]
     .simp[go_sem]
   .refine⟨by omega,by omega,bY (Ax _) (by simp[go_sem]) ?_⟩;have hbe:cx B i=false:=by simp[cx,h5]
    simp only[go_sem];refine⟨λhb=>⟨λh32=>aq [] ?_ rfl,λh32=>aE (i+1) ⟨by omega,hsucc (h00 hbe ?_)⟩ (by omega) (Wk.of ?_ ?_)⟩,λhb=>aE (i+1) ⟨by omega,hsucc (h00 hbe ?_)⟩ (by omega) (Wk.of ?_ ?_)⟩
    .have:=h6 hbe (by simp[hb];omega);rw[sf h' he (by rw[this];decide),this];simp[go_sem]
    .simp;omega
    .simp[go_sem,wi (n:=i+1) (by omega) (by omega)]
    .simp[go_sem]
    .simp[hb]
    .simp[go_sem,wi (n:=i+1) (by omega) (by omega)]
    .simp[go_sem]
 .have:i=B.length:=by omega
  subst this;simp only[go_sem];rw[DC he];refine⟨λh0=>aq [] ?_ rfl,λh0=>aq [] ?_ rfl⟩
  .rw[aF (by omega)];simp[go_sem]
  .rw[au (by omega)];simp[go_sem]
