import Derived.Test.YtdfofedlbljnhaaGreatDoorXQl
set_option linter.all false
set_option maxRecDepth 100000
set_option maxHeartbeats 20000000
namespace Go.Proofs.YtdfofedlbljnhaaGreatDoor
section
open Go Go.Mw
def agK{t:Int}(h:BZ t=true):t=1\/t=2\/t=3\/t=4:=by
 simp only[BZ,cW,gj]at h;omega
def Vm(t:Int):(vo t).2=BZ t:=by
 by_cases h:t=1\/t=2\/t=3\/t=4
 .rcases h with rfl|rfl|rfl|rfl<;>rfl
 .have:BZ t=false:=by simp only[BZ,Bool.and_eq_false_iff,decide_eq_false_iff_not];omega
  rw[this];unfold vo;rw[ak (by omega),ak (by omega),ak (by omega),ak (by omega)]
attribute[local go_sem] ro wo wa wx rx
def NM(t:Int):aj pg 268 [.int .i64 t] (.tup [.int .u8 (vo t).1.toNat,.bool (vo t).2]):=by
 refine aC rZ ?_;by_cases h:t=1\/t=2\/t=3\/t=4
 .rcases h with rfl|rfl|rfl|rfl
  all_goals
   simp only[go_sem,rZ];exact ay
 .have h1:(t==1)=false:=fK.2 (by omega);have h2:(t==2)=false:=fK.2 (by omega);have h3:(t==3)=false:=fK.2 (by omega);have h4:(t==4)=false:=fK.2 (by omega);have e:vo t=(0,false):=by unfold vo;rw[ak (by omega),ak (by omega),ak (by omega),ak (by omega)]
  rw[e];simp only[go_sem,rZ,h1,h2,h3,h4];exact ay
def YO(t:Int):aj pg 275 [.int .i64 t] (.bool (BZ t)):=by
 refine aC AU ?_;unfold BZ;simp only[go_sem,AU];refine⟨λh=>?_,λh=>?_⟩
 .rw[aK h,bY];exact ay
 .rw[aL h,qC];exact ay
def YM(t:Int):aj pg 280 [.int .i64 t] (.tup [.int .u8 (vo t).1.toNat,.bool (vo t).2]):=by
 refine aC x7 ?_;simp only[go_sem,x7];refine ab (YO t) ?_;cases h:BZ t
 .have h':=Vm t;rw[h]at h';have e:vo t=(0,false):=by
   unfold vo at h'⊢
   repeat' split at h'
   all_goals first|(cases h';done)|skip
   simp_all
  rw[e];simp only[go_sem];exact ay
 .rcases agK h with rfl|rfl|rfl|rfl
  all_goals
   simp only[go_sem];refine⟨⟨by decide,by decide⟩,?_⟩;simp only[go_sem,O_,Ie,List.getElem?_cons_zero];exact ay
def loT(b:UInt8)(k:Nat):Prop:=∀t:Int,1<=t->t<k->(vo t).1≠b
def ZX{b:UInt8}{t:Int}(ht:1<=t/\t<=4)(h:(vo t).1=b):ov b=(t,true):=by
 subst h;rcases(show t=1\/t=2\/t=3\/t=4 by omega)with rfl|rfl|rfl|rfl<;>rfl
def ZY{b:UInt8}(h:loT b 5):ov b=(0,false):=by
 have h1:=h 1 (by decide) (by decide);have h2:=h 2 (by decide) (by decide);have h3:=h 3 (by decide) (by decide);have h4:=h 4 (by decide) (by decide);unfold ov;rw[ak (λe=>h1 e.symm),ak (λe=>h2 e.symm),ak (λe=>h3 e.symm),ak (λe=>h4 e.symm)]
def Ml(x y:UInt8):(((x.toNat:Nat):Int)==((y.toNat:Nat):Int))=(x==y):=by
 by_cases h:x=y
 .subst h;simp
 .have:¬((x.toNat:Nat):Int)=((y.toNat:Nat):Int):=λe=>h (B3.1 (by omega));rw[fK.2 this,fK.2 h]
def UU(b:UInt8):aj pg 291 [.int .u8 b.toNat] (.tup [.int .i64 (ov b).1,.bool (ov b).2]):=by
 refine aC uq ?_;simp only[go_sem,uq];refine aq (λk:Nat=>⟨[(0,.int .u8 b.toNat),(4,.int .i64 k)],[]⟩) (λk=>1<=k/\k<=5/\loT b k) (λk=>5-k) 1 ⟨by decide,by decide,λt h1 h2=>by omega⟩ (Wk.of ?_ ?_) ?_
 .simp only[go_sem];try simp
 .simp only[go_sem]
 rintro k ⟨k1,k2,hk⟩;by_cases h:k=5
 .have hd:decide ((k:Int)<=4)=false:=aL (by omega);subst h;rw[ZY hk];simp only[go_sem,hd];exact ay
 .have hd:decide ((k:Int)<=4)=true:=aK (by omega);have e8:=wi (n:=(k:Int)+1) (by omega) (by omega);simp only[go_sem,hd];refine ab (NM (k:Int)) ?_;have hb:=Ml (vo (k:Int)).1 b;simp only[go_sem,hb];cases hq:((vo (k:Int)).1==b)
  .simp only[go_sem,hq];refine aF (k+1) ⟨by omega,by omega,λt h1 h2=>?_⟩ (show 5-(k+1)<5-k by omega) (Wk.of ?_ ?_)
   .by_cases e:t=k
    .subst e;exact fK.1 hq
    .exact hk t h1 (by omega)
   .simp only[go_sem,e8]
    try simp
   .simp only[go_sem]
  .have e:=ZX (b:=b) (t:=(k:Int)) ⟨by omega,by omega⟩ (by simpa using hq);rw[e];simp only[go_sem,hq];exact ay
end
section
open Go Go.Mw
attribute[local go_sem] ro wo wa wx rx
def Ur(b:UInt8):aj pg 347 [.int .u8 b.toNat] (.tup [.int .i64 (ov b).1,.bool (ov b).2]):=by
 refine aC uj ?_;simp only[go_sem,uj];refine aq (λk:Nat=>⟨[(0,.int .u8 b.toNat),(4,.int .i64 k)],[]⟩) (λk=>1<=k/\k<=5/\loT b k) (λk=>5-k) 1 ⟨by decide,by decide,λt h1 h2=>by omega⟩ (Wk.of ?_ ?_) ?_
 .simp only[go_sem];try simp
 .simp only[go_sem]
 rintro k ⟨k1,k2,hk⟩;by_cases h:k=5
 .have hd:decide ((k:Int)<=4)=false:=aL (by omega);subst h;rw[ZY hk];simp only[go_sem,hd];exact ay
 .have hd:decide ((k:Int)<=4)=true:=aK (by omega);have e8:=wi (n:=(k:Int)+1) (by omega) (by omega);simp only[go_sem,hd];refine ab (YM (k:Int)) ?_;have hb:=Ml (vo (k:Int)).1 b;simp only[go_sem,hb];cases hq:((vo (k:Int)).1==b)
  .simp only[go_sem,hq];refine aF (k+1) ⟨by omega,by omega,λt h1 h2=>?_⟩ (show 5-(k+1)<5-k by omega) (Wk.of ?_ ?_)
   .by_cases e:t=k
    .subst e;exact fK.1 hq
    .exact hk t h1 (by omega)
   .simp only[go_sem,e8]
    try simp
   .simp only[go_sem]
  .have e:=ZX (b:=b) (t:=(k:Int)) ⟨by omega,by omega⟩ (by simpa using hq);rw[e];simp only[go_sem,hq];exact ay
def ac7(t:Int):aj pg 260 [.int .i64 t] (.bool (t==1||t==2)):=by
 refine aC lH ?_;simp only[go_sem,lH];refine⟨λh=>?_,λh=>?_⟩
 .rw[h,eC];exact ay
 .rw[h,eH];exact ay
def ac8(t:Int):aj pg 184 [.int .i64 t] (.bool (t==3||t==4)):=by
 refine aC lI ?_;simp only[go_sem,lI];refine⟨λh=>?_,λh=>?_⟩
 .rw[h,eC];exact ay
 .rw[h,eH];exact ay
def adI(t:Int):((t==1||t==2)||(t==3||t==4))=BZ t:=by
 rw[Bv];simp only[BZ,sC,beq_iff_eq,cW,gj];omega
def ac9(t:Int):aj pg 186 [.int .i64 t] (.bool (BZ t)):=by
 refine aC pX ?_;rw[<-adI];simp only[go_sem,pX];refine ab (ac7 t) ?_;cases h:(t==1||t==2)
 .rw[eH];simp only[go_sem];refine aa (ac8 t) ?_;exact ay
 .rw[eC];simp only[go_sem];exact ay
section
variable{l:Af}{e:Int}(hl:l.length<40000000000)
include hl
def yY(t:Int)(h:BZ t=true):WM 191 [.int .i64 t] true l e (.tup []) (wB (e==0) l [(vo t).1]) e:=by
 refine bA qL ?_;simp only[go_sem,qL];refine ab (NM t) ?_;have h2:=Vm t;rw[h]at h2;simp only[go_sem,h2];refine aT [] (k:=1000) (j:=2000) (vr true l (vo t).1 e (by omega)) ?_;simp only[go_sem,bY];exact cR [] _ [(1000,wo 2000 true (wB (e==0) l [(vo t).1]) e),(2000,wa (wB (e==0) l [(vo t).1]))] ⟨rfl,rfl⟩
def L4(k v x:Int)(h:Ok k v x=true):WM 269 [.agg [.int .i64 k,.int .i64 v,.int .i64 x]] true l e (.tup []) (wB (e==0) l (Ey k v x)) e:=by
 refine bA fE ?_;unfold Ok at h;unfold Ey;by_cases h0:k=0
 .subst h0;simp only[aN,cW,beq_iff_eq]at h⊢;obtain⟨rfl,rfl⟩:=h;simp only[go_sem,fE];refine aT [] (k:=1000) (j:=2000) (vr true l 64 e (by omega)) ?_;simp only[go_sem,bY];exact cR [] _ [(1000,wo 2000 true (wB (e==0) l [64]) e),(2000,wa (wB (e==0) l [64]))] ⟨rfl,rfl⟩
 .simp only[h0,bB]at h⊢;by_cases h1:k=1
  .subst h1;simp only[aN,cW,beq_iff_eq]at h⊢;obtain⟨h,rfl⟩:=h;simp only[go_sem,fE];refine ab (ac9 v) ?_;simp only[go_sem,h];refine aT [] (k:=1000) (j:=2000) (yY hl v h) ?_;simp only[go_sem];exact cR [] _ [(1000,wo 2000 true (wB (e==0) l [(vo v).1]) e),(2000,wa (wB (e==0) l [(vo v).1]))] ⟨rfl,rfl⟩
  .simp only[h1,bB]at h⊢;by_cases h2:k=2
   .subst h2;simp only[aN,cW,beq_iff_eq,qn,gj]at h;obtain⟨rfl,g1,g2⟩:=h;simp only[go_sem,fE,aK g1,aK (show x<=4294967295 by omega)];have r:Fc (true&&e==0) l e x=(wB (e==0) l (gQ x),e):=by
     unfold Fc;rw[ak (by omega)];rfl
    have hx:=adc true l e (by omega) x (by unfold WK;omega);rw[r]at hx;refine aT [] (k:=1000) (j:=2000) (hx) ?_;simp only[go_sem];exact cR [] _ [(1000,wo 2000 true (wB (e==0) l (gQ x)) e),(2000,wa (wB (e==0) l (gQ x)))] ⟨rfl,rfl⟩
   .simp only[h2,bB]at h;cases h
end
variable{l:Af}{e:Int}(hl:l.length<40000000000)
include hl
end
section
open Go Go.Mw
def dS{α:Type}(b:Af)(res:Rd α)(d:α)(q:α×Nat×Int):Prop :=
 q.2.1<=b.length/\((∃x k,res = .ok (x,k)/\q=(x,k,0))\/∃e,res = .error (e,q.2.1)/\e≠0/\q.1=d/\q.2.2=e)
def RX{α:Type}(f:FuncId)(rest:List AV)(b:Af)(a:Nat)(res:Rd α)(d:α)(av:α->AV):Prop :=
 aQ pg f (.mp 1000 4 0 0::rest) [(1000,ro true b a 0)] sb (λr' σ'=>∃q,dS b res d q/\r'=av q.1/\σ'=[(1000,ro true b (q.2.1:Nat) q.2.2)])
def QX{α:Type}(f:FuncId)(rest:List AV)(b:Af)(a:Nat)(res:Rd α)(d:α)(av:α->AV):Prop :=
 aQ pg f (rx b a 0::rest) [] sb (λr' σ'=>∃q,dS b res d q/\r' = .tup [rx b (q.2.1:Nat) q.2.2,av q.1]/\σ'=[])
def dS.ok{α:Type}{b:Af}{res:Rd α}{d x:α}{k:Nat}(h:res = .ok (x,k))(hk:k<=b.length):dS b res d (x,k,0):=⟨hk,.inl ⟨x,k,h,rfl⟩⟩
def dS.er{α:Type}{b:Af}{res:Rd α}{d:α}{e:Int}{k:Nat}(h:res = .error (e,k))(he:e≠0)(hk:k<=b.length):dS b res d (d,k,e):=⟨hk,.inr ⟨e,h,he,rfl,rfl⟩⟩
def nJ:(true&&(0:Int)==0)=true:=rfl
def eE:((0:Int)==0)=true:=rfl
def ei{e:Int}(h:e≠0):(e==0)=false:=fK.2 h
def j0{e:Int}(h:e≠0):(e != 0)=true:=by simp[h]
variable{b:Af}{a:Nat}(ha:a<=b.length)(hb:b.length<1000000000)
include ha hb
attribute[local go_sem] ro wo wa wx rx
def DZ:RX 237 [] b a (gV b a) 0 (.int .i64):=by
 refine bA iA ?_;simp only[go_sem,iA];refine ae (po true b a 0 ha hb) ?_;rcases ow b a with⟨x,h1,h2,h3⟩|⟨h1,h2⟩
 .simp only[go_sem,nJ,h2];refine aE (aS true b ((a+1:Nat):Int) 0) ?_;refine ab (UU x) ?_;cases hx:(ov x).2
  .simp only[go_sem];refine aE (cA b ((a+1:Nat):Int) 4) ?_;refine eW [] _ [(1000,ro true b ((a+1:Nat):Int) 4)] ⟨(0,a+1,4),dS.er ?_ (by decide) h3,rfl,rfl⟩;simp only[gV,h1,hx,gR,bB]
  .simp only[go_sem];refine eW [] _ [(1000,ro true b ((a+1:Nat):Int) 0)] ⟨((ov x).1,a+1,0),dS.ok ?_ h3,rfl,rfl⟩;simp only[gV,h1,hx,aN]
 .simp only[go_sem,nJ,h2];refine aE (aS true b a 3) ?_;refine eW [] _ [(1000,ro true b a 3)] ⟨(0,a,3),dS.er ?_ (by decide) ha,rfl,rfl⟩;simp only[gV,h1]
def DP:QX 336 [] b a (gV b a) 0 (.int .i64):=by
 refine bA jW ?_;simp only[go_sem,jW];refine ab (qu b a 0 ha hb) ?_;rcases ow b a with⟨x,h1,h2,h3⟩|⟨h1,h2⟩
 .simp only[go_sem,eE,h2];refine ab (Ur x) ?_;cases hx:(ov x).2
  .simp only[go_sem];refine aa (cM b ((a+1:Nat):Int) 4) ?_;refine done [] _ [] (by simp only[go_sem]) trivial rfl ⟨(0,a+1,4),dS.er ?_ (by decide) h3,rfl,rfl⟩;simp only[gV,h1,hx,gR,bB]
  .simp only[go_sem];refine done [] _ [] (by simp only[go_sem]) trivial rfl ⟨((ov x).1,a+1,0),dS.ok ?_ h3,rfl,rfl⟩;simp only[gV,h1,hx,aN]
 .simp only[go_sem,eE,h2];refine done [] _ [] (by simp only[go_sem]) trivial rfl ⟨(0,a,3),dS.er ?_ (by decide) ha,rfl,rfl⟩;simp only[gV,h1]
end
section
open Go Go.Mw
def bk_(q:Int×Int×Int):AV:=.agg [.int .i64 q.1,.int .i64 q.2.1,.int .i64 q.2.2]
def Eu(q:Int×Int×Int):bk_ q = .agg [.int .i64 q.1,.int .i64 q.2.1,.int .i64 q.2.2]:=rfl
def aaX(b:Af):-9223372036854775808<=(di b 33).1/\(di b 33).1<9223372036854775808:=by
 unfold di;split
 .exact⟨(by decide:(-9223372036854775808:Int)<=0),(by decide:(0:Int)<9223372036854775808)⟩
 split
 .exact⟨(by decide:(-9223372036854775808:Int)<=0),(by decide:(0:Int)<9223372036854775808)⟩
 .simp only[Bq];rw[u_];omega
def Uh{b:Af}{a:Nat}(ha:a<=b.length):(∃n k,gS 33 b a = .ok (n,k)/\rS true 33 b a 0=(n,k,0)/\k<=b.length/\-9223372036854775808<=n/\n<9223372036854775808)\/∃e,e≠0/\gS 33 b a = .error (e,a)/\rS true 33 b a 0=(0,a,e):=by
 rcases Ui 33 ha with⟨n,k,h1,h2,h3⟩|h
 .refine .inl ⟨n,k,h1,h2,h3,?_⟩;unfold gS at h1;split at h1
  .cases h1;exact aaX _
  .cases h1
 .exact .inr h
def agG{n:Int}(h:-17<=n/\n<0):IntKind.u8.wrap (n+128)=(((UInt8.ofNat (n+128).toNat).toNat:Nat):Int):=by
 rw[ofNat_toNat (by omega),rH];omega
def afC{n:Int}(h:-64<=n)(h2:n < -17):(ov (UInt8.ofNat (n+128).toNat)).2=false:=by
 unfold ov;rw[ak,ak,ak,ak]
 all_goals
  intro e;have:=congrArg UInt8.toNat e;rw[ofNat_toNat (by omega)]at this;have h9:(n+128).toNat<111:=by omega
  first
  | (rw[show(127:UInt8).toNat=127 from rfl]at this;omega)
  | (rw[show(126:UInt8).toNat=126 from rfl]at this;omega)
  | (rw[show(112:UInt8).toNat=112 from rfl]at this;omega)
  | (rw[show(111:UInt8).toNat=111 from rfl]at this;omega)
variable{b:Af}{a:Nat}(ha:a<=b.length)(hb:b.length<1000000000)
include ha hb
attribute[local go_sem] ro wo wa wx rx Eu
def L3:RX 329 [] b a (gK b a) (0,0,0) bk_:=by
 refine bA oP ?_;simp only[go_sem,oP];refine ae (agk true b a 0 ha hb) ?_;rcases Uh ha with⟨n,k,h1,h2,h3,h4,h5⟩|⟨e,he,h1,h2⟩
 .simp only[go_sem,nJ,h2];refine ae (aS true b k 0) ?_;by_cases hn:n = -64
  .subst hn;simp only[go_sem];refine eW [] _ [(1000,ro true b k 0)] ⟨((0,0,0),k,0),dS.ok ?_ h3,rfl,rfl⟩;simp only[gK,h1,aN]
  have hn':=fK.2 hn;by_cases h0:n>=0
  .simp only[go_sem,hn',aK h0];refine eW [] _ [(1000,ro true b k 0)] ⟨((2,0,n),k,0),dS.ok ?_ h3,rfl,rfl⟩;simp only[gK,h1,ak hn,au h0]
  by_cases h17:n>=-17
  .have w1:IntKind.i64.wrap (n+128)=n+128:=wi (by omega) (by omega);have w2:=agG ⟨h17,Int.not_le.1 h0⟩;generalize hy:UInt8.ofNat (n+128).toNat=y at*;simp only[go_sem,hn',aL h0,aK h17,w1,w2];refine ab (UU y) ?_;cases hx:(ov y).2
   .simp only[go_sem];refine aE (cA b k 4) ?_;refine eW [] _ [(1000,ro true b k 4)] ⟨((0,0,0),k,4),dS.er ?_ (by decide) h3,rfl,rfl⟩;simp only[gK,h1,ak hn,ak h0,hy,hx,gR,and_false,bB]
   .simp only[go_sem];refine eW [] _ [(1000,ro true b k 0)] ⟨((1,(ov y).1,0),k,0),dS.ok ?_ h3,rfl,rfl⟩;simp only[gK,h1,ak hn,ak h0,hy,hx,h17,and_self,aN]
  .simp only[go_sem,hn',aL h0,aL h17];refine aE (cA b k 4) ?_;refine eW [] _ [(1000,ro true b k 4)] ⟨((0,0,0),k,4),dS.er ?_ (by decide) h3,rfl,rfl⟩;simp only[gK,h1,ak hn,ak h0,h17,false_and,bB]
 .simp only[go_sem,nJ,h2];refine ae (aS true b a e) ?_;simp only[go_sem,j0 he];refine eW [] _ [(1000,ro true b a e)] ⟨((0,0,0),a,e),dS.er ?_ he ha,rfl,rfl⟩;simp only[gK,h1]
def LP:QX 362 [] b a (gK b a) (0,0,0) bk_:=by
 refine bA qP ?_;simp only[go_sem,qP];refine ab (afZ b a 0 ha hb) ?_;rcases Uh ha with⟨n,k,h1,h2,h3,h4,h5⟩|⟨e,he,h1,h2⟩
 .by_cases h0:n>=0
  .simp only[go_sem,eE,h2,aK h0];refine done [] _ [] (by simp only[go_sem]) trivial rfl ⟨((2,0,n),k,0),dS.ok ?_ h3,rfl,rfl⟩;simp only[gK,h1,ak (show ¬n = -64 by omega),au h0]
  by_cases hn:n = -64
  .subst hn;simp only[go_sem,eE,h2,aL h0];refine done [] _ [] (by simp only[go_sem]) trivial rfl ⟨((0,0,0),k,0),dS.ok ?_ h3,rfl,rfl⟩;simp only[gK,h1,aN]
  have hn':=fK.2 hn;by_cases hl:n < -64
  .simp only[go_sem,eE,h2,aL h0,hn',aK hl];refine aa (cM b k 4) ?_;refine done [] _ [] (by simp only[go_sem]) trivial rfl ⟨((0,0,0),k,4),dS.er ?_ (by decide) h3,rfl,rfl⟩;simp only[gK,h1,ak hn,ak h0,show ¬n>=-17 by omega,false_and,bB]
  have w1:IntKind.i64.wrap (n+128)=n+128:=wi (by omega) (by omega);have w2:IntKind.u8.wrap (n+128)=(((UInt8.ofNat (n+128).toNat).toNat:Nat):Int):=by
   rw[ofNat_toNat (by omega),rH];omega
  have hlo:n < -17->(ov (UInt8.ofNat (n+128).toNat)).2=false:=λq=>afC (by omega) q;generalize hy:UInt8.ofNat (n+128).toNat=y at*;simp only[go_sem,eE,h2,aL h0,hn',aL hl,w1,w2];refine ab (Ur y) ?_;cases hx:(ov y).2
  .simp only[go_sem];refine aa (cM b k 4) ?_;refine done [] _ [] (by simp only[go_sem]) trivial rfl ⟨((0,0,0),k,4),dS.er ?_ (by decide) h3,rfl,rfl⟩;simp only[gK,h1,ak hn,ak h0,hy,hx,gR,and_false,bB]
  .have h17:n>=-17:=Int.not_lt.1 λq=>by rw[hlo q]at hx;cases hx
   simp only[go_sem];refine done [] _ [] (by simp only[go_sem]) trivial rfl ⟨((1,(ov y).1,0),k,0),dS.ok ?_ h3,rfl,rfl⟩;simp only[gK,h1,ak hn,ak h0,hy,hx,h17,and_self,aN]
 .simp only[go_sem,eE,h2,j0 he];refine done [] _ [] (by simp only[go_sem]) trivial rfl ⟨((0,0,0),a,e),dS.er ?_ he ha,rfl,rfl⟩;simp only[gK,h1]
end
section
open Go Go.Mw
def bT{α:Type}(b:Af)(res:Rd α)(p:α->Prop)(q:α×Nat×Int):Prop :=
 q.2.1<=b.length/\((∃x k,res = .ok (x,k)/\q=(x,k,0))\/∃e,res = .error (e,q.2.1)/\e≠0/\p q.1/\q.2.2=e)
def bT.ok{α:Type}{b:Af}{res:Rd α}{p:α->Prop}{x:α}{k:Nat}(h:res = .ok (x,k))(hk:k<=b.length):bT b res p (x,k,0):=⟨hk,.inl ⟨x,k,h,rfl⟩⟩
def bT.er{α:Type}{b:Af}{res:Rd α}{p:α->Prop}{x:α}{e:Int}{k:Nat}(h:res = .error (e,k))(he:e≠0)(hp:p x)(hk:k<=b.length):bT b res p (x,k,e):=⟨hk,.inr ⟨e,h,he,hp,rfl⟩⟩
def abs:qx 0=0:=by decide +kernel
def ae4:qx 64512=0:=by decide +kernel
def zX{op:Int}(h:vQ op=true):(0<=op/\op<256/\op≠252)\/(64512<=op/\op<64768):=by
 have:=LT (p:=λop=>(decide (0<=op)&&(decide (op<256) && !(op==252)))||(decide (64512<=op)&&decide (op<64768))) (by decide +kernel) (op:=op) (λq=>by simp[vQ,q]at h);simpa using this
def afc{n:Nat}(h:255<n):vQ (64512+n)=false:=by
 cases hk:vQ (64512+(n:Int))
 .rfl
 .rcases zX hk with h|h<;>omega
def aaK{n:Nat}(h:n<4294967296):bO .i64 (n:Int) 255=((n%256:Nat):Int):=by
 have:(BitVec.ofInt 64 (n:Int) &&& BitVec.ofInt 64 ((255:Nat):Int)).toNat=n &&& 255:=yb (by omega) (by decide);show IntKind.i64.wrap ((BitVec.ofInt 64 (n:Int) &&& BitVec.ofInt 64 ((255:Nat):Int)).toNat)=_;rw[this,show(255:Nat)=2^8-1 from rfl,Nat.and_two_pow_sub_one_eq_mod,u_];omega
def Vk(x:UInt8):IntKind.i64.wrap ((x.toNat:Nat):Int)=((x.toNat:Nat):Int):=wi (by omega) (by have:=x.toNat_lt;omega)
def Tu(op:Int):(!(dx op==[]))=vQ op:=(Gn op).1
def aen(x:UInt8):(((x.toNat:Nat):Int)==252)=decide (x=252):=by
 have:=Ml x 252;rw[show(((252:UInt8).toNat:Nat):Int)=252 from rfl]at this;rw[this];rfl
def aac:((252:UInt8).toNat:Int)=252:=rfl
def to0:((0:UInt8).toNat:Int)=0:=rfl
def agL:IntKind.i64.wrap 252=252:=by decide
def wr0:IntKind.i64.wrap 0=0:=by decide
variable{b:Af}{a:Nat}(ha:a<=b.length)(hb:b.length<1000000000)
include ha hb
attribute[local go_sem] ro wo wa wx rx Eu
def aiN:aQ pg 328 [.mp 1000 4 0 0] [(1000,ro true b a 0)] sb (λr' σ'=>∃q:Int×Nat×Int,bT b (gO b a) (λ_=>True) q/\r' = .int .i64 q.1/\σ'=[(1000,ro true b (q.2.1:Nat) q.2.2)]):=by
 refine bA nO ?_;simp only[go_sem,nO];refine ae (po true b a 0 ha hb) ?_;rcases ow b a with⟨x,h1,h2,h3⟩|⟨h1,h2⟩
 .have w0:=Vk x;by_cases hx:x=252
  .subst hx;simp only[go_sem,nJ,h2,aac,agL];refine ae (fj true b (a+1) 0 h3 hb) ?_;rcases d_ h3 with⟨n,k,g1,g2,g3,g4⟩|⟨e,he,g1,g2⟩
   .have w2:=aaK g3;by_cases hn:(n:Int)>255
    .simp only[go_sem,nJ,g2,aK hn];refine aE (cA b k 10) ?_;refine ae (aS true b k 10) ?_;simp only[go_sem,w2];have w3:IntKind.i64.wrap (64512+((n%256:Nat):Int))=64512+((n%256:Nat):Int):=wi (by omega) (by omega);refine done [] _ [(1000,ro true b k 10)] (by simp only[go_sem,w3]) (by simp only[go_sem]) rfl ⟨(64512+((n%256:Nat):Int),k,10),bT.er ?_ (by decide) trivial g4,rfl,rfl⟩;simp only[gO,h1,aN,g1,afc (show 255<n by omega),gR,bB]
    .have w3:IntKind.i64.wrap (64512+((n%256:Nat):Int))=64512+(n:Int):=by rw[wi (by omega) (by omega)];omega
     simp only[go_sem,nJ,g2,aL hn];refine ae (aS true b k 0) ?_;simp only[go_sem,w2,w3];refine ab (yX (64512+(n:Int))) ?_;rw[Tu];cases hk:vQ (64512+(n:Int))
     .simp only[go_sem];refine aE (cA b k 10) ?_;refine eW [] _ [(1000,ro true b k 10)] ⟨(64512+(n:Int),k,10),bT.er ?_ (by decide) trivial g4,rfl,rfl⟩;simp only[gO,h1,aN,g1,hk,gR,bB]
     .simp only[go_sem];refine eW [] _ [(1000,ro true b k 0)] ⟨(64512+(n:Int),k,0),bT.ok ?_ g4,rfl,rfl⟩;simp only[gO,h1,aN,g1,hk]
   .have d0:decide (((0:Nat):Int)>255)=false:=by decide
    have a0:bO .i64 ((0:Nat):Int) 255=0:=by decide
    have w3:IntKind.i64.wrap (64512+0)=64512:=by decide
    simp only[go_sem,nJ,g2,d0,a0,w3];refine ae (aS true b ((a+1:Nat):Int) e) ?_;simp only[go_sem,ei he];refine eW [] _ [(1000,ro true b ((a+1:Nat):Int) e)] ⟨(64512,a+1,e),bT.er ?_ he trivial h3,rfl,rfl⟩;simp only[gO,h1,aN,g1]
  .have d:(((x.toNat:Nat):Int)==252)=false:=by rw[aen,aL hx]
   simp only[go_sem,nJ,h2,w0,d];refine aE (aS true b ((a+1:Nat):Int) 0) ?_;refine ab (yX (x.toNat:Int)) ?_;rw[Tu];cases hk:vQ (x.toNat:Int)
   .simp only[go_sem];refine aE (cA b ((a+1:Nat):Int) 10) ?_;refine eW [] _ [(1000,ro true b ((a+1:Nat):Int) 10)] ⟨((x.toNat:Int),a+1,10),bT.er ?_ (by decide) trivial h3,rfl,rfl⟩;simp only[gO,h1,ak hx,hk,gR,bB]
   .simp only[go_sem];refine eW [] _ [(1000,ro true b ((a+1:Nat):Int) 0)] ⟨((x.toNat:Int),a+1,0),bT.ok ?_ h3,rfl,rfl⟩;simp only[gO,h1,ak hx,hk,aN]
 .simp only[go_sem,nJ,h2,to0,wr0];refine aE (aS true b a 3) ?_;refine eW [] _ [(1000,ro true b a 3)] ⟨(0,a,3),bT.er ?_ (by decide) trivial ha,rfl,rfl⟩;simp only[gO,h1]
def acM:aQ pg 348 [rx b a 0] [] sb (λr' σ'=>∃q:Int×Nat×Int,bT b (gO b a) (λop=>qx op=0) q/\r' = .tup [rx b (q.2.1:Nat) q.2.2,.int .i64 q.1]/\σ'=[]):=by
 refine bA x8 ?_;simp only[go_sem,x8];refine ab (qu b a 0 ha hb) ?_;rcases ow b a with⟨x,h1,h2,h3⟩|⟨h1,h2⟩
 .have w0:=Vk x;by_cases hx:x=252
  .subst hx;simp only[go_sem,eE,h2,aac,agL];refine ab (bR b (a+1) 0 h3 hb) ?_;rcases d_ h3 with⟨n,k,g1,g2,g3,g4⟩|⟨e,he,g1,g2⟩
   .have w3:IntKind.i64.wrap (64512+(n:Int))=64512+(n:Int):=wi (by omega) (by omega);simp only[go_sem,eE,g2,w3];refine ab (NG (64512+(n:Int))) ?_;cases hk:vQ (64512+(n:Int))
    .simp only[go_sem];refine aa (cM b k 10) ?_;refine done [] _ [] (by simp only[go_sem]) trivial rfl ⟨(0,k,10),bT.er ?_ (by decide) abs g4,rfl,rfl⟩;simp only[gO,h1,aN,g1,hk,gR,bB]
    .simp only[go_sem];refine done [] _ [] (by simp only[go_sem]) trivial rfl ⟨(64512+(n:Int),k,0),bT.ok ?_ g4,rfl,rfl⟩;simp only[gO,h1,aN,g1,hk]
   .have w3:IntKind.i64.wrap (64512+((0:Nat):Int))=64512:=by decide
    simp only[go_sem,eE,g2,w3,ei he];refine done [] _ [] (by simp only[go_sem]) trivial rfl ⟨(64512,a+1,e),bT.er ?_ he ae4 h3,rfl,rfl⟩;simp only[gO,h1,aN,g1]
  .have d:(((x.toNat:Nat):Int)==252)=false:=by rw[aen,aL hx]
   simp only[go_sem,eE,h2,w0,d];refine ab (NG (x.toNat:Int)) ?_;cases hk:vQ (x.toNat:Int)
   .simp only[go_sem];refine aa (cM b ((a+1:Nat):Int) 10) ?_;refine done [] _ [] (by simp only[go_sem]) trivial rfl ⟨(0,a+1,10),bT.er ?_ (by decide) abs h3,rfl,rfl⟩;simp only[gO,h1,ak hx,hk,gR,bB]
   .simp only[go_sem];refine done [] _ [] (by simp only[go_sem]) trivial rfl ⟨((x.toNat:Int),a+1,0),bT.ok ?_ h3,rfl,rfl⟩;simp only[gO,h1,ak hx,hk,aN]
 .simp only[go_sem,eE,h2,to0,wr0];refine done [] _ [] (by simp only[go_sem]) trivial rfl ⟨(0,a,3),bT.er ?_ (by decide) abs ha,rfl,rfl⟩;simp only[gO,h1]
end
section
open Go Go.Mw
def Fm(op:Int)(q:Int×Int×Int):ao:=⟨58,9,[[.int .i64 op,.int .i64 q.1,.int .i64 q.2.1,.int .u64 q.2.2,.int .i64 0,.int .i64 0,.int .i64 0,.nl,.nl]],true⟩
def iF{n:Nat}(h:n<4294967296):IntKind.u64.wrap (n:Int)=(n:Int):=by rw[mq];omega
variable{b:Af}{a:Nat}(ha:a<=b.length)(hb:b.length<1000000000)
include ha hb
attribute[local go_sem] ro wo wa wx rx Eu
def L2(op:Int):aQ pg 330 [.mp 1000 4 0 0,.mp 1001 9 0 0] [(1000,ro true b a 0),(1001,Fm op (0,0,0))] sb
  (λr' σ'=>∃q:(Int×Int×Int)×Nat×Int,bT b (gA b a) (λ_=>True) q/\r' = .tup []/\σ'=[(1000,ro true b (q.2.1:Nat) q.2.2),(1001,Fm op q.1)]):=by
 refine bA qK ?_;simp only[go_sem,qK,Fm];refine ae (fj true b a 0 ha hb) ?_;rcases d_ ha with⟨n,k,g1,g2,g3,g4⟩|⟨e,he,g1,g2⟩
 .by_cases h1:(n:Int)>=128
  .have h2:(n:Int)>=64:=by omega
   have w1:IntKind.i64.wrap ((n:Int)-64)=(n:Int)-64:=wi (by omega) (by omega);simp only[go_sem,nJ,g2,aK h1];refine ae (cA b k 4) ?_;simp only[go_sem,aK h2,w1];refine ae (fj true b k 4 g4 hb) ?_;simp only[go_sem,ei (show(4:Int)≠0 by decide),bY,mZ];refine ae (fj true b k 4 g4 hb) ?_;have w2:=iF (n:=0) (by decide);simp only[go_sem,ei (show(4:Int)≠0 by decide),bY,mZ,w2];refine fH [] _ [(1000,ro true b k 4),(1001,Fm op ((n:Int)-64,0,0))] (by simp only[go_sem]) (by simp only[go_sem,Fm];try rfl) rfl ⟨(((n:Int)-64,0,0),k,4),bT.er ?_ (by decide) trivial g4,rfl,rfl⟩;simp only[gA,g1,au (show n>=128 by omega)]
  .have h1':¬n>=128:=by omega
   by_cases h2:(n:Int)>=64
   .have h2':n>=64:=by omega
    have w1:IntKind.i64.wrap ((n:Int)-64)=(n:Int)-64:=wi (by omega) (by omega);simp only[go_sem,nJ,g2,aL h1,aK h2,w1];refine ae (fj true b k 0 g4 hb) ?_;rcases d_ g4 with⟨y,k1,p1,p2,p3,p4⟩|⟨e,he,p1,p2⟩
    .simp only[go_sem,nJ,p2];refine ae (fj true b k1 0 p4 hb) ?_;rcases d_ p4 with⟨z,k2,q1,q2,q3,q4⟩|⟨e,he,q1,q2⟩
     .have w2:=iF q3;simp only[go_sem,nJ,q2,w2];refine fH [] _ [(1000,ro true b k2 0),(1001,Fm op ((n:Int)-64,(y:Int),(z:Int)))] (by simp only[go_sem]) (by simp only[go_sem,Fm];try rfl) rfl ⟨(((n:Int)-64,(y:Int),(z:Int)),k2,0),bT.ok ?_ q4,rfl,rfl⟩;simp only[gA,g1,ak h1',au h2',p1,q1]
     .have w2:=iF (n:=0) (by decide);simp only[go_sem,nJ,q2,w2];refine fH [] _ [(1000,ro true b k1 e),(1001,Fm op ((n:Int)-64,(y:Int),0))] (by simp only[go_sem]) (by simp only[go_sem,Fm];try rfl) rfl ⟨(((n:Int)-64,(y:Int),0),k1,e),bT.er ?_ he trivial p4,rfl,rfl⟩;simp only[gA,g1,ak h1',au h2',p1,q1]
    .simp only[go_sem,nJ,p2];refine ae (fj true b k e g4 hb) ?_;have w2:=iF (n:=0) (by decide);simp only[go_sem,ei he,bY,mZ,w2];refine fH [] _ [(1000,ro true b k e),(1001,Fm op ((n:Int)-64,0,0))] (by simp only[go_sem]) (by simp only[go_sem,Fm];try rfl) rfl ⟨(((n:Int)-64,0,0),k,e),bT.er ?_ he trivial g4,rfl,rfl⟩;simp only[gA,g1,ak h1',au h2',p1]
   .have h2':¬n>=64:=by omega
    simp only[go_sem,nJ,g2,aL h1,aL h2];refine ae (fj true b k 0 g4 hb) ?_;rcases d_ g4 with⟨z,k2,q1,q2,q3,q4⟩|⟨e,he,q1,q2⟩
    .have w2:=iF q3;simp only[go_sem,nJ,q2,w2];refine fH [] _ [(1000,ro true b k2 0),(1001,Fm op ((n:Int),0,(z:Int)))] (by simp only[go_sem]) (by simp only[go_sem,Fm];try rfl) rfl ⟨(((n:Int),0,(z:Int)),k2,0),bT.ok ?_ q4,rfl,rfl⟩;simp only[gA,g1,ak h1',ak h2',q1]
    .have w2:=iF (n:=0) (by decide);simp only[go_sem,nJ,q2,w2];refine fH [] _ [(1000,ro true b k e),(1001,Fm op ((n:Int),0,0))] (by simp only[go_sem]) (by simp only[go_sem,Fm];try rfl) rfl ⟨(((n:Int),0,0),k,e),bT.er ?_ he trivial g4,rfl,rfl⟩;simp only[gA,g1,ak h1',ak h2',q1]
 .have d0:decide (((0:Nat):Int)>=128)=false:=by decide
  have d1:decide (((0:Nat):Int)>=64)=false:=by decide
  simp only[go_sem,nJ,g2,d0,d1];refine ae (fj true b a e ha hb) ?_;have w2:=iF (n:=0) (by decide);simp only[go_sem,ei he,bY,mZ,w2];refine fH [] _ [(1000,ro true b a e),(1001,Fm op (0,0,0))] (by simp only[go_sem]) (by simp only[go_sem,Fm];try rfl) rfl ⟨((0,0,0),a,e),bT.er ?_ he trivial ha,rfl,rfl⟩;simp only[gA,g1]
end
section
open Go Go.Mw
def fA(a b c d e f g:AV):nlm [a,b,c,d,e,f,g,.nl,.nl] [a,b,c,d,e,f,g,.sl 1 [],.sl 1 []]:=⟨.inl rfl,.inl rfl,.inl rfl,.inl rfl,.inl rfl,.inl rfl,.inl rfl,.inr ⟨rfl,.inl ⟨1,rfl⟩⟩,.inr ⟨rfl,.inl ⟨1,rfl⟩⟩,trivial⟩
def nl8(a b c d e f g h:AV):nlm [a,b,c,d,e,f,g,.nl,h] [a,b,c,d,e,f,g,.sl 1 [],h]:=⟨.inl rfl,.inl rfl,.inl rfl,.inl rfl,.inl rfl,.inl rfl,.inl rfl,.inr ⟨rfl,.inl ⟨1,rfl⟩⟩,.inl rfl,trivial⟩
def nl7(a b c d e f g h:AV):nlm [a,b,c,d,e,f,g,h,.nl] [a,b,c,d,e,f,g,h,.sl 1 []]:=⟨.inl rfl,.inl rfl,.inl rfl,.inl rfl,.inl rfl,.inl rfl,.inl rfl,.inl rfl,.inr ⟨rfl,.inl ⟨1,rfl⟩⟩,trivial⟩
def QI(f:FuncId)(rest:List AV)(b:Af)(a:Nat)(res:Rd be):Prop :=
 aQ pg f (rx b a 0::rest) [] sb (λr' σ'=>∃q:be×Nat×Int,bT b res (λ_=>True) q/\r' = .tup [rx b (q.2.1:Nat) q.2.2,bn q.1]/\σ'=[])
variable{b:Af}{a:Nat}(ha:a<=b.length)(hb:b.length<1000000000)
include ha hb
attribute[local go_sem] ro wo wa wx rx Eu dw ce
def Up:QI 364 [] b a (gM 17 b a):=by
 refine bA ul ?_;simp only[go_sem,ul];refine ab (bR b a 0 ha hb) ?_;rcases d_ ha with⟨n,k,g1,g2,g3,g4⟩|⟨e,he,g1,g2⟩
 .by_cases h1:(n:Int)>=128
  .simp only[go_sem,eE,g2,aK h1];refine aa (cM b k 4) ?_;refine aJ (Wk.nlm _ 3 (r':=az z0) rfl (fA ..)) [] (.tup [rx b k 4,bn z0]) [] (by simp only[go_sem,az]) trivial rfl ⟨(z0,k,4),bT.er ?_ (by decide) trivial g4,rfl,rfl⟩;simp only[gM,gA,g1,au (show n>=128 by omega)];rfl
  .have h1':¬n>=128:=by omega
   by_cases h2:(n:Int)>=64
   .have h2':n>=64:=by omega
    have w1:IntKind.i64.wrap ((n:Int)-64)=(n:Int)-64:=wi (by omega) (by omega);simp only[go_sem,eE,g2,aL h1,aK h2];refine ab (bR b k 0 g4 hb) ?_;rcases d_ g4 with⟨y,k1,p1,p2,p3,p4⟩|⟨e,he,p1,p2⟩
    .simp only[go_sem,eE,p2,w1];refine ab (bR b k1 0 p4 hb) ?_;rcases d_ p4 with⟨z,k2,q1,q2,q3,q4⟩|⟨e,he,q1,q2⟩
     .have w2:=iF q3;simp only[go_sem,eE,q2,w2];refine aJ (Wk.nlm _ 3 (r':=az {z0 with a:=(n:Int)-64,b:=y,n:=z}) rfl (fA ..)) [] (.tup [rx b k2 0,bn {z0 with a:=(n:Int)-64,b:=y,n:=z}]) [] (by simp only[go_sem,az]) trivial rfl ⟨(_,k2,0),bT.ok ?_ q4,rfl,rfl⟩;simp only[gM,gA,g1,ak h1',au h2',p1,q1];rfl
     .have w2:=iF (n:=0) (by decide);simp only[go_sem,eE,q2,w2];refine aJ (Wk.nlm _ 3 (r':=az {z0 with a:=(n:Int)-64,b:=y,n:=0}) rfl (fA ..)) [] (.tup [rx b k1 e,bn {z0 with a:=(n:Int)-64,b:=y,n:=0}]) [] (by simp only[go_sem,az]) trivial rfl ⟨(_,k1,e),bT.er ?_ he trivial p4,rfl,rfl⟩;simp only[gM,gA,g1,ak h1',au h2',p1,q1];rfl
    .simp only[go_sem,eE,p2,w1];refine ab (bR b k e g4 hb) ?_;have w2:=iF (n:=0) (by decide);simp only[go_sem,ei he,mZ,w2];refine aJ (Wk.nlm _ 3 (r':=az {z0 with a:=(n:Int)-64,b:=0,n:=0}) rfl (fA ..)) [] (.tup [rx b k e,bn {z0 with a:=(n:Int)-64,b:=0,n:=0}]) [] (by simp only[go_sem,az]) trivial rfl ⟨(_,k,e),bT.er ?_ he trivial g4,rfl,rfl⟩;simp only[gM,gA,g1,ak h1',au h2',p1];rfl
   .have h2':¬n>=64:=by omega
    simp only[go_sem,eE,g2,aL h1,aL h2];refine ab (bR b k 0 g4 hb) ?_;rcases d_ g4 with⟨z,k2,q1,q2,q3,q4⟩|⟨e,he,q1,q2⟩
    .have w2:=iF q3;simp only[go_sem,eE,q2,w2];refine aJ (Wk.nlm _ 3 (r':=az {z0 with a:=n,b:=0,n:=z}) rfl (fA ..)) [] (.tup [rx b k2 0,bn {z0 with a:=n,b:=0,n:=z}]) [] (by simp only[go_sem,az]) trivial rfl ⟨(_,k2,0),bT.ok ?_ q4,rfl,rfl⟩;simp only[gM,gA,g1,ak h1',ak h2',q1];rfl
    .have w2:=iF (n:=0) (by decide);simp only[go_sem,eE,q2,w2];refine aJ (Wk.nlm _ 3 (r':=az {z0 with a:=n,b:=0,n:=0}) rfl (fA ..)) [] (.tup [rx b k e,bn {z0 with a:=n,b:=0,n:=0}]) [] (by simp only[go_sem,az]) trivial rfl ⟨(_,k,e),bT.er ?_ he trivial g4,rfl,rfl⟩;simp only[gM,gA,g1,ak h1',ak h2',q1];rfl
 .have d1:decide (((0:Nat):Int)>=64)=false:=by decide
  simp only[go_sem,eE,g2,d1,ei he];refine ab (bR b a e ha hb) ?_;have w2:=iF (n:=0) (by decide);simp only[go_sem,ei he,mZ,w2];refine aJ (Wk.nlm _ 3 (r':=az z0) rfl (fA ..)) [] (.tup [rx b a e,bn z0]) [] (by simp only[go_sem,az]) trivial rfl ⟨(z0,a,e),bT.er ?_ he trivial ha,rfl,rfl⟩;simp only[gM,gA,g1];rfl
end
section
open Go Go.Mw
def oG(l:List Int):Rd (List Int)->Rd (List Int)
 | .ok (l2,k)=>.ok (l++l2,k)
 | .error e=>.error e
def ND(r:Rd (List Int)):oG [] r=r:=by cases r<;>rfl
def T8{b:Af}{a n k:Nat}{x:Nat}{l:List Int}(h:gU b a = .ok (x,k)):oG l (gL (n+1) b a)=oG (l++[(x:Int)]) (gL n b k):=by
 simp only[gL,h];cases gL n b k with
 | ok p=>obtain⟨l2,k2⟩:=p;simp[oG]
 | error e=>rfl
def Yp{b:Af}{a n:Nat}{e:Int×Nat}{l:List Int}(h:gU b a = .error e):oG l (gL (n+1) b a) = .error e:=by
 simp only[gL,h];rfl
def LI(b:Af)(n a0:Nat)(q:Nat×List Int×Nat×Int):Prop :=
 q.1<=n/\q.2.1.length=q.1/\q.2.2.1<=b.length/\((q.2.2.2=0/\gL n b a0=oG q.2.1 (gL (n-q.1) b q.2.2.1))\/(q.2.2.2≠0/\gL n b a0 = .error (q.2.2.2,q.2.2.1)))
def Zp{b:Af}{n a0 i:Nat}{l:List Int}{a:Nat}(h:LI b n a0 (i,l,a,0))(hi:i<n){x k:Nat}(hk:k<=b.length)(g:gU b a = .ok (x,k)):LI b n a0 (i+1,l++[(x:Int)],k,0):=by
 obtain⟨h1,h2,h3,h4⟩:=h;refine⟨hi,by simp only[cP,dK];simp only at h2;omega,hk,.inl ⟨rfl,?_⟩⟩;rcases h4 with⟨_,h4⟩|⟨h4,_⟩
 .simp only at h4⊢;rw[h4,show n-i=(n-(i+1))+1 by omega,T8 g]
 .exact absurd rfl h4
def Zn{b:Af}{n a0 i:Nat}{l:List Int}{a:Nat}(h:LI b n a0 (i,l,a,0))(hi:i<n){e:Int}(he:e≠0)(g:gU b a = .error (e,a)):LI b n a0 (i+1,l++[0],a,e):=by
 obtain⟨h1,h2,h3,h4⟩:=h;refine⟨hi,by simp only[cP,dK];simp only at h2;omega,h3,.inr ⟨he,?_⟩⟩;rcases h4 with⟨_,h4⟩|⟨h4,_⟩
 .simp only at h4⊢;rw[h4,show n-i=(n-(i+1))+1 by omega,Yp g]
 .exact absurd rfl h4
def Zo{b:Af}{n a0 i:Nat}{l:List Int}{a:Nat}{e:Int}(h:LI b n a0 (i,l,a,e))(he:e≠0)(hi:i<n):LI b n a0 (i+1,l++[0],a,e):=by
 obtain⟨h1,h2,h3,h4⟩:=h;refine⟨hi,by simp only[cP,dK];simp only at h2;omega,h3,.inr ⟨he,?_⟩⟩;rcases h4 with⟨h4,_⟩|⟨_,h4⟩
 .exact absurd h4 he
 .exact h4
def Gt{b:Af}{n a0:Nat}{l:List Int}{a:Nat}{e:Int}(h:LI b n a0 (n,l,a,e)):(e=0/\gL n b a0 = .ok (l,a))\/(e≠0/\gL n b a0 = .error (e,a)):=by
 obtain⟨h1,h2,h3,h4⟩:=h;rcases h4 with⟨h4,h5⟩|h4
 .refine .inl ⟨h4,?_⟩;simp only at h5;rw[h5,tz];simp only[gL,oG,m_]
 .exact .inr h4
variable{b:Af}{a:Nat}(ha:a<=b.length)(hb:b.length<1000000000)
include ha hb
attribute[local go_sem] ro wo wa wx rx Eu dw ce
def YL:QI 363 [] b a (gM 3 b a):=by
 refine bA wg ?_;simp only[go_sem,wg];refine ab (HT b a 0 ha hb 64) ?_;simp only[go_sem,eE]
 refine aq (λq:Nat×List Int×Nat×Int=>⟨[(7,.int .i64 q.1),(6,.ms 900 1 0 q.1),(5,.int .i64 (ba true b a 0 64).1),(4,.mp 4 3 0 0),(3,.mp 3 9 0 0),(2,.mp 2 3 0 0)],
   [(900,⟨3,1,q.2.1.map jM,false⟩),(4,⟨240,3,[[.sl 1 (b.map de),.int .i64 q.2.2.1,.int .i64 q.2.2.2]],true⟩),(3,⟨58,9,[[.int .i64 0,.int .i64 0,.int .i64 0,.int .u64 0,.int .i64 0,.int .i64 0,.int .i64 0,.nl,.nl]],true⟩),(2,⟨240,3,[[.nl,.int .i64 0,.int .i64 0]],true⟩)]⟩)
  (λq=>q.1<=64/\q.2.1.length=q.1/\q.2.2.1<=b.length/\((∃n k,gC b a 64 = .ok (n,k)/\(ba true b a 0 64).1=n/\n<=64/\LI b n k q)\/((ba true b a 0 64).1=0/\q.1=0/\q.2.2.2≠0/\gC b a 64 = .error (q.2.2.2,q.2.2.1))))
  (λq=>64-q.1) (0,[],(ba true b a 0 64).2.1,(ba true b a 0 64).2.2) ?_ ((Wk.nil _ 6 900 1 3 (by simp only[go_sem]) (.inl (by decide))).trans (Wk.of ?_ ?_)) ?_
 .rcases yQ 64 ha with⟨n,k,g1,g2,g3,g4,g5⟩|⟨e,he,g1,g2⟩
  .rw[g2];exact⟨(by decide:0<=64),rfl,g5,.inl ⟨n,k,g1,rfl,by omega,cm _,rfl,g5,.inl ⟨rfl,by rw[ND];rfl⟩⟩⟩
  .rw[g2];exact⟨(by decide:0<=64),rfl,ha,.inr ⟨rfl,rfl,he,g1⟩⟩
 .simp only[go_sem,St.mknil];try simp[go_sem]
 .simp only[go_sem,St.mknil];try simp[go_sem]
 rintro⟨i,l,a1,e1⟩ ⟨hi,hl,ha1,hq⟩;simp only at hi hl ha1 hq;have e8:=wi (n:=(i:Int)+1) (by omega) (by omega);generalize hN:(ba true b a 0 64).1=N at hq;by_cases hlt:(i:Int)<(N:Int)
 .have hi2:i<N:=by omega
  have happ:=λys=>bq 900 3 1 i jM l ys hl;simp only[go_sem,aK hlt];refine ab (bR b a1 e1 ha1 hb) ?_;rcases hq with⟨n,k,h1,h2,h3,h4⟩|⟨h2,h3,h4,h5⟩
  rotate_left
  .omega
  subst h2;by_cases he1:e1=0
  .subst he1;rcases d_ ha1 with⟨x,k1,g1,g2,g3,g4⟩|⟨e,he,g1,g2⟩
   .simp only[go_sem,eE,g2,happ];refine⟨by omega,aF (i+1,l++[(x:Int)],k1,0) ⟨by omega,by simp;omega,g4,.inl ⟨N,k,h1,rfl,h3,Zp h4 hi2 g4 g1⟩⟩ (show 64-(i+1)<64-i by omega) (Wk.of ?_ ?_)⟩
    .simp only[go_sem,e8]
     try simp
    .simp only[go_sem]
     try simp[ce]
   .simp only[go_sem,eE,g2,happ];refine⟨by omega,aF (i+1,l++[0],a1,e) ⟨by omega,by simp;omega,ha1,.inl ⟨N,k,h1,rfl,h3,Zn h4 hi2 he g1⟩⟩ (show 64-(i+1)<64-i by omega) (Wk.of ?_ ?_)⟩
    .simp only[go_sem,e8]
     try simp
    .simp only[go_sem]
     try simp[ce]
  .simp only[go_sem,ei he1,mZ,happ];refine⟨by omega,aF (i+1,l++[0],a1,e1) ⟨by omega,by simp;omega,ha1,.inl ⟨N,k,h1,rfl,h3,Zo h4 he1 hi2⟩⟩ (show 64-(i+1)<64-i by omega) (Wk.of ?_ ?_)⟩
   .simp only[go_sem,e8]
    try simp
   .simp only[go_sem]
    try simp[ce]
 .have hge:N<=i:=by omega
  simp only[go_sem,aL hlt];refine ab (bR b a1 e1 ha1 hb) ?_;have fin:∀(e':Int)(x:Nat)(k':Nat),bT b (gM 3 b a) (λ_=>True) ({z0 with a:=x,lb:=l},k',e')->∃q:be×Nat×Int,bT b (gM 3 b a) (λ_=>True) q/\AV.tup [rx b (k':Nat) e',bn {z0 with a:=x,lb:=l}] = .tup [rx b (q.2.1:Nat) q.2.2,bn q.1]/\([]:List (Nat×ao))=[]:=λe' x k' h=>⟨_,h,rfl,rfl⟩
  have nlx:∀x:Int,nlm [.int .i64 0,.int .i64 x,.int .i64 0,.int .u64 0,.int .i64 0,.int .i64 0,.int .i64 0,.nl,.ms 900 1 0 i] [.int .i64 0,.int .i64 x,.int .i64 0,.int .u64 0,.int .i64 0,.int .i64 0,.int .i64 0,.sl 1 [],.ms 900 1 0 i]:=λx=>nl8 ..;by_cases he1:e1=0
  .subst he1;rcases hq with⟨n,k,h1,h2,h3,h4⟩|⟨_,_,h4,_⟩
   rotate_left
   .exact absurd rfl h4
   subst h2;obtain rfl:i=N:=Nat.le_antisymm h4.1 hge;rcases Gt h4 with⟨_,h5⟩|⟨h5,_⟩
   rotate_left
   .exact absurd rfl h5
   rcases d_ ha1 with⟨x,k1,g1,g2,g3,g4⟩|⟨e,he,g1,g2⟩
   .simp only[go_sem,eE,g2];refine aJ (Wk.nlm _ 3 rfl (nlx x)) [900] (.tup [rx b k1 0,bn {z0 with a:=x,lb:=l}]) [] ?_ trivial rfl (fin 0 x k1 (bT.ok ?_ g4))
    .simp only[go_sem,bZ,hl,a_];rw[cI (by rw[bZ];omega)];rfl
    .simp only[gM,h1,h5,g1];rfl
   .simp only[go_sem,eE,g2];refine aJ (Wk.nlm _ 3 rfl (nlx 0)) [900] (.tup [rx b a1 e,bn {z0 with a:=0,lb:=l}]) [] ?_ trivial rfl (fin e 0 a1 (bT.er ?_ he trivial ha1))
    .simp only[go_sem,bZ,hl,a_];rw[cI (by rw[bZ];omega)];rfl
    .simp only[gM,h1,h5,g1];rfl
  .have hE:gM 3 b a = .error (e1,a1):=by
    rcases hq with⟨n,k,h1,h2,h3,h4⟩|⟨_,_,_,h4⟩
    .subst h2;obtain rfl:i=N:=Nat.le_antisymm h4.1 hge;rcases Gt h4 with⟨h5,_⟩|⟨_,h5⟩
     .exact absurd h5 he1
     .simp only[gM,h1,h5];rfl
    .simp only[gM,h4];rfl
   simp only[go_sem,ei he1,mZ];refine aJ (Wk.nlm _ 3 rfl (nlx 0)) [900] (.tup [rx b a1 e1,bn {z0 with a:=0,lb:=l}]) [] ?_ trivial rfl (fin e1 0 a1 (bT.er hE he1 trivial ha1));simp only[go_sem,bZ,hl,a_];rw[cI (by rw[bZ];omega)];rfl
end
section
open Go Go.Mw
attribute[local go_sem] ro wo wa wx rx Eu dw ce
def Uq{b:Af}{a:Nat}{e op:Int}(hi:qx op=0):aQ pg 349 [rx b a e,.int .i64 op] [] sb (λr' σ'=>r' = .tup [rx b a e,bn z0]/\σ'=[]):=by
 refine bA aG ?_;have hc:=Z5 op;rw[hi]at hc;simp only[go_sem,aG];refine aa (hc) ?_;exact aJ (Wk.nlm _ 5 (r':=az z0) rfl (fA ..)) [] (.tup [rx b a e,bn z0]) [] (by simp only[go_sem,az]) trivial rfl ⟨rfl,rfl⟩
variable{b:Af}{a:Nat}(ha:a<=b.length)(hb:b.length<1000000000)
include ha hb
def DQ{e:Int}(he:e≠0):aj pg 336 [rx b a e] (.tup [rx b a e,.int .i64 0]):=by
 refine aC jW ?_;simp only[go_sem,jW];refine ab (qu b a e ha hb) ?_;simp only[go_sem,ei he,li,j0 he];exact ay
def xK{e:Int}(he:e≠0):RM 237 [] true b a e (.int .i64 0) a e:=by
 refine bA iA ?_;simp only[go_sem,iA];refine ae (po true b a e ha hb) ?_;simp only[go_sem,ei he,bY,li];refine ae (aS true b a e) ?_;simp only[go_sem,j0 he];exact eW [] _ [(1000,ro true b a e)] ⟨rfl,rfl⟩
def acQ(op i:Int)(hi:0<=i/\i<=20)(him:qx op=i):QI 349 [.int .i64 op] b a (gM i b a):=by
 refine bA aG ?_;have hc:=Z5 op;rw[him]at hc;clear him;rcases(show i=0\/i=1\/i=2\/i=3\/i=4\/i=5\/i=6\/i=7\/i=8\/i=9\/i=10\/i=11\/i=12\/i=13\/i=14\/i=15\/i=16\/i=17\/i=18\/i=19\/i=20 by omega)with rfl|rfl|rfl|rfl|rfl|rfl|rfl|rfl|rfl|rfl|rfl|rfl|rfl|rfl|rfl|rfl|rfl|rfl|rfl|rfl|rfl
 .simp only[go_sem,aG];refine aa (hc) ?_;refine aJ (Wk.nlm _ 5 (r':=az z0) rfl (fA ..)) [] (.tup [rx b a 0,bn z0]) [] (by simp only[go_sem,az]) trivial rfl ⟨(z0,a,0),bT.ok ?_ ha,rfl,rfl⟩;simp only[gM];rfl
 .simp only[go_sem,aG];refine aa (hc) ?_;refine jZ (LP ha hb) ?_;rintro⟨⟨k,v,x⟩,a1,e1⟩ ⟨h1,h2⟩;replace h1:a1<=b.length:=h1;rcases h2 with⟨q,k2,g1,g2⟩|⟨e,g1,he,g2,g3⟩
  .cases g2;simp only[go_sem];refine aJ (Wk.nlm _ 5 (r':=az {z0 with k:=k,v:=v,x:=x}) rfl (fA ..)) [] (.tup [rx b a1 0,bn {z0 with k:=k,v:=v,x:=x}]) [] (by simp only[go_sem,az]) trivial rfl ⟨(_,a1,0),bT.ok ?_ h1,rfl,rfl⟩;simp only[gM,g1];rfl
  .obtain rfl:e1=e:=g3;cases g2;simp only[go_sem];refine aJ (Wk.nlm _ 5 (r':=az z0) rfl (fA ..)) [] (.tup [rx b a1 e1,bn z0]) [] (by simp only[go_sem,az]) trivial rfl ⟨(z0,a1,e1),bT.er ?_ he trivial h1,rfl,rfl⟩;simp only[gM,g1];rfl
 ·
  rcases d_ ha with⟨x,k,g1,g2,g3,g4⟩|⟨e,he,g1,g2⟩
  .simp only[go_sem,aG];refine aa (hc) ?_;refine ab (bR b a 0 ha hb) ?_;simp only[go_sem,eE,g2];refine aJ (Wk.nlm _ 5 (r':=az {z0 with a:=x}) rfl (fA ..)) [] (.tup [rx b k 0,bn {z0 with a:=x}]) [] (by simp only[go_sem,az]) trivial rfl ⟨(_,k,0),bT.ok ?_ g4,rfl,rfl⟩;simp only[gM,g1];rfl
  .simp only[go_sem,aG];refine aa (hc) ?_;refine ab (bR b a 0 ha hb) ?_;simp only[go_sem,eE,g2];refine aJ (Wk.nlm _ 5 (r':=az z0) rfl (fA ..)) [] (.tup [rx b a e,bn z0]) [] (by simp only[go_sem,az]) trivial rfl ⟨(z0,a,e),bT.er ?_ he trivial ha,rfl,rfl⟩;simp only[gM,g1];rfl
 .simp only[go_sem,aG];refine aa (hc) ?_;refine jZ (YL ha hb) ?_;rintro⟨x,a1,e1⟩ hq;simp only[go_sem];exact done [] _ [] (by simp only[go_sem]) trivial rfl ⟨(x,a1,e1),hq,rfl,rfl⟩
 ·
  rcases d_ ha with⟨x,k,g1,g2,g3,g4⟩|⟨e,he,g1,g2⟩
  .simp only[go_sem,aG];refine aa (hc) ?_;refine ab (bR b a 0 ha hb) ?_;simp only[go_sem,eE,g2];refine aJ (Wk.nlm _ 5 (r':=az {z0 with a:=x}) rfl (fA ..)) [] (.tup [rx b k 0,bn {z0 with a:=x}]) [] (by simp only[go_sem,az]) trivial rfl ⟨(_,k,0),bT.ok ?_ g4,rfl,rfl⟩;simp only[gM,g1];rfl
  .simp only[go_sem,aG];refine aa (hc) ?_;refine ab (bR b a 0 ha hb) ?_;simp only[go_sem,eE,g2];refine aJ (Wk.nlm _ 5 (r':=az z0) rfl (fA ..)) [] (.tup [rx b a e,bn z0]) [] (by simp only[go_sem,az]) trivial rfl ⟨(z0,a,e),bT.er ?_ he trivial ha,rfl,rfl⟩;simp only[gM,g1];rfl
 ·
  rcases d_ ha with⟨x,k,g1,g2,g3,g4⟩|⟨e,he,g1,g2⟩
  .simp only[go_sem,aG];refine aa (hc) ?_;refine ab (bR b a 0 ha hb) ?_;simp only[go_sem,eE,g2];refine ab (bR b k 0 g4 hb) ?_;rcases d_ g4 with⟨y,k1,p1,p2,p3,p4⟩|⟨e,he,p1,p2⟩
   .simp only[go_sem,eE,p2];refine aJ (Wk.nlm _ 5 (r':=az {z0 with a:=x,b:=y}) rfl (fA ..)) [] (.tup [rx b k1 0,bn {z0 with a:=x,b:=y}]) [] (by simp only[go_sem,az]) trivial rfl ⟨(_,k1,0),bT.ok ?_ p4,rfl,rfl⟩;simp only[gM,g1,p1];rfl
   .simp only[go_sem,eE,p2];refine aJ (Wk.nlm _ 5 (r':=az {z0 with a:=x}) rfl (fA ..)) [] (.tup [rx b k e,bn {z0 with a:=x}]) [] (by simp only[go_sem,az]) trivial rfl ⟨(_,k,e),bT.er ?_ he trivial g4,rfl,rfl⟩;simp only[gM,g1,p1];rfl
  .simp only[go_sem,aG];refine aa (hc) ?_;refine ab (bR b a 0 ha hb) ?_;simp only[go_sem,eE,g2];refine ab (bR b a e ha hb) ?_;simp only[go_sem,ei he,mZ];refine aJ (Wk.nlm _ 5 (r':=az z0) rfl (fA ..)) [] (.tup [rx b a e,bn z0]) [] (by simp only[go_sem,az]) trivial rfl ⟨(z0,a,e),bT.er ?_ he trivial ha,rfl,rfl⟩;simp only[gM,g1];rfl
 .rcases d_ ha with⟨x,k,g1,g2,g3,g4⟩|⟨e,he,g1,g2⟩
  .by_cases hx:x=1
   .subst hx;have d:(((1:Nat):Int) != 1)=false:=rfl;simp only[go_sem,aG];refine aa (hc) ?_;refine ab (bR b a 0 ha hb) ?_;simp only[go_sem,eE,g2,d];refine jZ (DP g4 hb) ?_;rintro⟨t,a1,e1⟩ ⟨h1,h2⟩;replace h1:a1<=b.length:=h1;rcases h2 with⟨q,k2,p1,p2⟩|⟨e,p1,he,p2,p3⟩
    .cases p2;simp only[go_sem];refine aJ (Wk.nlm _ 5 rfl (nl7 ..)) [104] (.tup [rx b a1 0,bn {z0 with ty:=[t]}]) [] ?_ trivial rfl ⟨(_,a1,0),bT.ok ?_ h1,rfl,rfl⟩
     .simp only[go_sem];rfl
     .simp only[gM,g1,p1];rfl
    .obtain rfl:e1=e:=p3;cases p2;simp only[go_sem];refine aJ (Wk.nlm _ 5 rfl (nl7 ..)) [104] (.tup [rx b a1 e1,bn {z0 with ty:=[0]}]) [] ?_ trivial rfl ⟨(_,a1,e1),bT.er ?_ he trivial h1,rfl,rfl⟩
     .simp only[go_sem];rfl
     .simp only[gM,g1,p1];rfl
   .have d:((x:Int) != 1)=true:=by simp;omega
    simp only[go_sem,aG];refine aa (hc) ?_;refine ab (bR b a 0 ha hb) ?_;simp only[go_sem,eE,g2,d]
    first|refine dd (cM b k 4) (by simp[go_sem,rx]) ?_|refine cJ (cM b k 4) (by simp[go_sem,rx]) rfl ?_
    simp only[go_sem];refine aJ (Wk.nlm _ 5 (r':=az z0) rfl (fA ..)) [] (.tup [rx b k 4,bn z0]) [] (by simp only[go_sem,az]) trivial rfl ⟨(z0,k,4),bT.er ?_ (by decide) trivial g4,rfl,rfl⟩;simp only[gM,g1,hx];rfl
  .simp only[go_sem,aG];refine aa (hc) ?_;refine ab (bR b a 0 ha hb) ?_;simp only[go_sem,eE,g2,ei he];refine aa (DQ ha hb he) ?_;refine aJ (Wk.nlm _ 5 rfl (nl7 ..)) [104] (.tup [rx b a e,bn {z0 with ty:=[0]}]) [] ?_ trivial rfl ⟨(_,a,e),bT.er ?_ he trivial ha,rfl,rfl⟩
   .simp only[go_sem];rfl
   .simp only[gM,g1];rfl
 ·
  rcases d_ ha with⟨x,k,g1,g2,g3,g4⟩|⟨e,he,g1,g2⟩
  .simp only[go_sem,aG];refine aa (hc) ?_;refine ab (bR b a 0 ha hb) ?_;simp only[go_sem,eE,g2];refine aJ (Wk.nlm _ 5 (r':=az {z0 with a:=x}) rfl (fA ..)) [] (.tup [rx b k 0,bn {z0 with a:=x}]) [] (by simp only[go_sem,az]) trivial rfl ⟨(_,k,0),bT.ok ?_ g4,rfl,rfl⟩;simp only[gM,g1];rfl
  .simp only[go_sem,aG];refine aa (hc) ?_;refine ab (bR b a 0 ha hb) ?_;simp only[go_sem,eE,g2];refine aJ (Wk.nlm _ 5 (r':=az z0) rfl (fA ..)) [] (.tup [rx b a e,bn z0]) [] (by simp only[go_sem,az]) trivial rfl ⟨(z0,a,e),bT.er ?_ he trivial ha,rfl,rfl⟩;simp only[gM,g1];rfl
 ·
  rcases d_ ha with⟨x,k,g1,g2,g3,g4⟩|⟨e,he,g1,g2⟩
  .simp only[go_sem,aG];refine aa (hc) ?_;refine ab (bR b a 0 ha hb) ?_;simp only[go_sem,eE,g2];refine aJ (Wk.nlm _ 5 (r':=az {z0 with a:=x}) rfl (fA ..)) [] (.tup [rx b k 0,bn {z0 with a:=x}]) [] (by simp only[go_sem,az]) trivial rfl ⟨(_,k,0),bT.ok ?_ g4,rfl,rfl⟩;simp only[gM,g1];rfl
  .simp only[go_sem,aG];refine aa (hc) ?_;refine ab (bR b a 0 ha hb) ?_;simp only[go_sem,eE,g2];refine aJ (Wk.nlm _ 5 (r':=az z0) rfl (fA ..)) [] (.tup [rx b a e,bn z0]) [] (by simp only[go_sem,az]) trivial rfl ⟨(z0,a,e),bT.er ?_ he trivial ha,rfl,rfl⟩;simp only[gM,g1];rfl
 ·
  rcases d_ ha with⟨x,k,g1,g2,g3,g4⟩|⟨e,he,g1,g2⟩
  .simp only[go_sem,aG];refine aa (hc) ?_;refine ab (bR b a 0 ha hb) ?_;simp only[go_sem,eE,g2];refine aJ (Wk.nlm _ 5 (r':=az {z0 with a:=x}) rfl (fA ..)) [] (.tup [rx b k 0,bn {z0 with a:=x}]) [] (by simp only[go_sem,az]) trivial rfl ⟨(_,k,0),bT.ok ?_ g4,rfl,rfl⟩;simp only[gM,g1];rfl
  .simp only[go_sem,aG];refine aa (hc) ?_;refine ab (bR b a 0 ha hb) ?_;simp only[go_sem,eE,g2];refine aJ (Wk.nlm _ 5 (r':=az z0) rfl (fA ..)) [] (.tup [rx b a e,bn z0]) [] (by simp only[go_sem,az]) trivial rfl ⟨(z0,a,e),bT.er ?_ he trivial ha,rfl,rfl⟩;simp only[gM,g1];rfl
 ·
  rcases d_ ha with⟨x,k,g1,g2,g3,g4⟩|⟨e,he,g1,g2⟩
  .simp only[go_sem,aG];refine aa (hc) ?_;refine ab (bR b a 0 ha hb) ?_;simp only[go_sem,eE,g2];refine ab (bR b k 0 g4 hb) ?_;rcases d_ g4 with⟨y,k1,p1,p2,p3,p4⟩|⟨e,he,p1,p2⟩
   .simp only[go_sem,eE,p2];refine aJ (Wk.nlm _ 5 (r':=az {z0 with a:=x,b:=y}) rfl (fA ..)) [] (.tup [rx b k1 0,bn {z0 with a:=x,b:=y}]) [] (by simp only[go_sem,az]) trivial rfl ⟨(_,k1,0),bT.ok ?_ p4,rfl,rfl⟩;simp only[gM,g1,p1];rfl
   .simp only[go_sem,eE,p2];refine aJ (Wk.nlm _ 5 (r':=az {z0 with a:=x}) rfl (fA ..)) [] (.tup [rx b k e,bn {z0 with a:=x}]) [] (by simp only[go_sem,az]) trivial rfl ⟨(_,k,e),bT.er ?_ he trivial g4,rfl,rfl⟩;simp only[gM,g1,p1];rfl
  .simp only[go_sem,aG];refine aa (hc) ?_;refine ab (bR b a 0 ha hb) ?_;simp only[go_sem,eE,g2];refine ab (bR b a e ha hb) ?_;simp only[go_sem,ei he,mZ];refine aJ (Wk.nlm _ 5 (r':=az z0) rfl (fA ..)) [] (.tup [rx b a e,bn z0]) [] (by simp only[go_sem,az]) trivial rfl ⟨(z0,a,e),bT.er ?_ he trivial ha,rfl,rfl⟩;simp only[gM,g1];rfl
 ·
  rcases d_ ha with⟨x,k,g1,g2,g3,g4⟩|⟨e,he,g1,g2⟩
  .simp only[go_sem,aG];refine aa (hc) ?_;refine ab (bR b a 0 ha hb) ?_;simp only[go_sem,eE,g2];refine ab (bR b k 0 g4 hb) ?_;rcases d_ g4 with⟨y,k1,p1,p2,p3,p4⟩|⟨e,he,p1,p2⟩
   .simp only[go_sem,eE,p2];refine aJ (Wk.nlm _ 5 (r':=az {z0 with a:=x,b:=y}) rfl (fA ..)) [] (.tup [rx b k1 0,bn {z0 with a:=x,b:=y}]) [] (by simp only[go_sem,az]) trivial rfl ⟨(_,k1,0),bT.ok ?_ p4,rfl,rfl⟩;simp only[gM,g1,p1];rfl
   .simp only[go_sem,eE,p2];refine aJ (Wk.nlm _ 5 (r':=az {z0 with a:=x}) rfl (fA ..)) [] (.tup [rx b k e,bn {z0 with a:=x}]) [] (by simp only[go_sem,az]) trivial rfl ⟨(_,k,e),bT.er ?_ he trivial g4,rfl,rfl⟩;simp only[gM,g1,p1];rfl
  .simp only[go_sem,aG];refine aa (hc) ?_;refine ab (bR b a 0 ha hb) ?_;simp only[go_sem,eE,g2];refine ab (bR b a e ha hb) ?_;simp only[go_sem,ei he,mZ];refine aJ (Wk.nlm _ 5 (r':=az z0) rfl (fA ..)) [] (.tup [rx b a e,bn z0]) [] (by simp only[go_sem,az]) trivial rfl ⟨(z0,a,e),bT.er ?_ he trivial ha,rfl,rfl⟩;simp only[gM,g1];rfl
 ·
  rcases d_ ha with⟨x,k,g1,g2,g3,g4⟩|⟨e,he,g1,g2⟩
  .simp only[go_sem,aG];refine aa (hc) ?_;refine ab (bR b a 0 ha hb) ?_;simp only[go_sem,eE,g2];refine aJ (Wk.nlm _ 5 (r':=az {z0 with a:=x}) rfl (fA ..)) [] (.tup [rx b k 0,bn {z0 with a:=x}]) [] (by simp only[go_sem,az]) trivial rfl ⟨(_,k,0),bT.ok ?_ g4,rfl,rfl⟩;simp only[gM,g1];rfl
  .simp only[go_sem,aG];refine aa (hc) ?_;refine ab (bR b a 0 ha hb) ?_;simp only[go_sem,eE,g2];refine aJ (Wk.nlm _ 5 (r':=az z0) rfl (fA ..)) [] (.tup [rx b a e,bn z0]) [] (by simp only[go_sem,az]) trivial rfl ⟨(z0,a,e),bT.er ?_ he trivial ha,rfl,rfl⟩;simp only[gM,g1];rfl
 .rcases d_ ha with⟨x,k,g1,g2,g3,g4⟩|⟨e,he,g1,g2⟩
  .simp only[go_sem,aG];refine aa (hc) ?_;refine ab (bR b a 0 ha hb) ?_;simp only[go_sem,eE,g2];refine aJ (Wk.nlm _ 5 (r':=az {z0 with b:=x}) rfl (fA ..)) [] (.tup [rx b k 0,bn {z0 with b:=x}]) [] (by simp only[go_sem,az]) trivial rfl ⟨(_,k,0),bT.ok ?_ g4,rfl,rfl⟩;simp only[gM,g1];rfl
  .simp only[go_sem,aG];refine aa (hc) ?_;refine ab (bR b a 0 ha hb) ?_;simp only[go_sem,eE,g2];refine aJ (Wk.nlm _ 5 (r':=az z0) rfl (fA ..)) [] (.tup [rx b a e,bn z0]) [] (by simp only[go_sem,az]) trivial rfl ⟨(z0,a,e),bT.er ?_ he trivial ha,rfl,rfl⟩;simp only[gM,g1];rfl
 ·
  rcases d_ ha with⟨x,k,g1,g2,g3,g4⟩|⟨e,he,g1,g2⟩
  .simp only[go_sem,aG];refine aa (hc) ?_;refine ab (bR b a 0 ha hb) ?_;simp only[go_sem,eE,g2];refine ab (bR b k 0 g4 hb) ?_;rcases d_ g4 with⟨y,k1,p1,p2,p3,p4⟩|⟨e,he,p1,p2⟩
   .simp only[go_sem,eE,p2];refine aJ (Wk.nlm _ 5 (r':=az {z0 with a:=x,b:=y}) rfl (fA ..)) [] (.tup [rx b k1 0,bn {z0 with a:=x,b:=y}]) [] (by simp only[go_sem,az]) trivial rfl ⟨(_,k1,0),bT.ok ?_ p4,rfl,rfl⟩;simp only[gM,g1,p1];rfl
   .simp only[go_sem,eE,p2];refine aJ (Wk.nlm _ 5 (r':=az {z0 with a:=x}) rfl (fA ..)) [] (.tup [rx b k e,bn {z0 with a:=x}]) [] (by simp only[go_sem,az]) trivial rfl ⟨(_,k,e),bT.er ?_ he trivial g4,rfl,rfl⟩;simp only[gM,g1,p1];rfl
  .simp only[go_sem,aG];refine aa (hc) ?_;refine ab (bR b a 0 ha hb) ?_;simp only[go_sem,eE,g2];refine ab (bR b a e ha hb) ?_;simp only[go_sem,ei he,mZ];refine aJ (Wk.nlm _ 5 (r':=az z0) rfl (fA ..)) [] (.tup [rx b a e,bn z0]) [] (by simp only[go_sem,az]) trivial rfl ⟨(z0,a,e),bT.er ?_ he trivial ha,rfl,rfl⟩;simp only[gM,g1];rfl
 ·
  rcases d_ ha with⟨x,k,g1,g2,g3,g4⟩|⟨e,he,g1,g2⟩
  .simp only[go_sem,aG];refine aa (hc) ?_;refine ab (bR b a 0 ha hb) ?_;simp only[go_sem,eE,g2];refine ab (bR b k 0 g4 hb) ?_;rcases d_ g4 with⟨y,k1,p1,p2,p3,p4⟩|⟨e,he,p1,p2⟩
   .simp only[go_sem,eE,p2];refine aJ (Wk.nlm _ 5 (r':=az {z0 with a:=x,b:=y}) rfl (fA ..)) [] (.tup [rx b k1 0,bn {z0 with a:=x,b:=y}]) [] (by simp only[go_sem,az]) trivial rfl ⟨(_,k1,0),bT.ok ?_ p4,rfl,rfl⟩;simp only[gM,g1,p1];rfl
   .simp only[go_sem,eE,p2];refine aJ (Wk.nlm _ 5 (r':=az {z0 with a:=x}) rfl (fA ..)) [] (.tup [rx b k e,bn {z0 with a:=x}]) [] (by simp only[go_sem,az]) trivial rfl ⟨(_,k,e),bT.er ?_ he trivial g4,rfl,rfl⟩;simp only[gM,g1,p1];rfl
  .simp only[go_sem,aG];refine aa (hc) ?_;refine ab (bR b a 0 ha hb) ?_;simp only[go_sem,eE,g2];refine ab (bR b a e ha hb) ?_;simp only[go_sem,ei he,mZ];refine aJ (Wk.nlm _ 5 (r':=az z0) rfl (fA ..)) [] (.tup [rx b a e,bn z0]) [] (by simp only[go_sem,az]) trivial rfl ⟨(z0,a,e),bT.er ?_ he trivial ha,rfl,rfl⟩;simp only[gM,g1];rfl
 ·
  rcases d_ ha with⟨x,k,g1,g2,g3,g4⟩|⟨e,he,g1,g2⟩
  .simp only[go_sem,aG];refine aa (hc) ?_;refine ab (bR b a 0 ha hb) ?_;simp only[go_sem,eE,g2];refine aJ (Wk.nlm _ 5 (r':=az {z0 with a:=x}) rfl (fA ..)) [] (.tup [rx b k 0,bn {z0 with a:=x}]) [] (by simp only[go_sem,az]) trivial rfl ⟨(_,k,0),bT.ok ?_ g4,rfl,rfl⟩;simp only[gM,g1];rfl
  .simp only[go_sem,aG];refine aa (hc) ?_;refine ab (bR b a 0 ha hb) ?_;simp only[go_sem,eE,g2];refine aJ (Wk.nlm _ 5 (r':=az z0) rfl (fA ..)) [] (.tup [rx b a e,bn z0]) [] (by simp only[go_sem,az]) trivial rfl ⟨(z0,a,e),bT.er ?_ he trivial ha,rfl,rfl⟩;simp only[gM,g1];rfl
 .simp only[go_sem,aG];refine aa (hc) ?_;refine jZ (Up ha hb) ?_;rintro⟨x,a1,e1⟩ hq;simp only[go_sem];exact done [] _ [] (by simp only[go_sem]) trivial rfl ⟨(x,a1,e1),hq,rfl,rfl⟩
 .rcases Ui 32 ha with⟨x,k,g1,g2,g4⟩|⟨e,he,g1,g2⟩
  .simp only[go_sem,aG];refine aa (hc) ?_;refine ab (Z3 b a 0 ha hb) ?_;simp only[go_sem,eE,g2];refine aJ (Wk.nlm _ 5 (r':=az {z0 with n:=IntKind.u64.wrap (IntKind.u32.wrap x)}) rfl (fA ..)) [] (.tup [rx b k 0,bn {z0 with n:=IntKind.u64.wrap (IntKind.u32.wrap x)}]) [] (by simp only[go_sem,az]) trivial rfl ⟨(_,k,0),bT.ok ?_ g4,rfl,rfl⟩;simp only[gM,g1];rfl
  .simp only[go_sem,aG];refine aa (hc) ?_;refine ab (Z3 b a 0 ha hb) ?_;simp only[go_sem,eE,g2];refine aJ (Wk.nlm _ 5 (r':=az {z0 with n:=IntKind.u64.wrap (IntKind.u32.wrap 0)}) rfl (fA ..)) [] (.tup [rx b a e,bn {z0 with n:=IntKind.u64.wrap (IntKind.u32.wrap 0)}]) [] (by simp only[go_sem,az]) trivial rfl ⟨(_,a,e),bT.er ?_ he trivial ha,rfl,rfl⟩;simp only[gM,g1];rfl
 .rcases Ui 64 ha with⟨x,k,g1,g2,g4⟩|⟨e,he,g1,g2⟩
  .simp only[go_sem,aG];refine aa (hc) ?_;refine ab (Z4 b a 0 ha hb) ?_;simp only[go_sem,eE,g2];refine aJ (Wk.nlm _ 5 (r':=az {z0 with n:=IntKind.u64.wrap x}) rfl (fA ..)) [] (.tup [rx b k 0,bn {z0 with n:=IntKind.u64.wrap x}]) [] (by simp only[go_sem,az]) trivial rfl ⟨(_,k,0),bT.ok ?_ g4,rfl,rfl⟩;simp only[gM,g1];rfl
  .simp only[go_sem,aG];refine aa (hc) ?_;refine ab (Z4 b a 0 ha hb) ?_;simp only[go_sem,eE,g2];refine aJ (Wk.nlm _ 5 (r':=az {z0 with n:=IntKind.u64.wrap 0}) rfl (fA ..)) [] (.tup [rx b a e,bn {z0 with n:=IntKind.u64.wrap 0}]) [] (by simp only[go_sem,az]) trivial rfl ⟨(_,a,e),bT.er ?_ he trivial ha,rfl,rfl⟩;simp only[gM,g1];rfl
 .simp only[go_sem,aG];refine aa (hc) ?_;refine jZ (DP ha hb) ?_;rintro⟨t,a1,e1⟩ ⟨h1,h2⟩;replace h1:a1<=b.length:=h1;rcases h2 with⟨q,k2,p1,p2⟩|⟨e,p1,he,p2,p3⟩
  .cases p2;by_cases ht:t=3\/t=4
   .have d3:(t != 3)=true\/((t != 3)=false/\t=3):=by rcases ht with rfl|rfl<;>simp
    rcases ht with rfl|rfl
    .simp only[go_sem];refine aJ (Wk.nlm _ 5 (r':=az {z0 with a:=3}) rfl (fA ..)) [] (.tup [rx b a1 0,bn {z0 with a:=3}]) [] (by simp only[go_sem,az]) trivial rfl ⟨(_,a1,0),bT.ok ?_ h1,rfl,rfl⟩;simp only[gM,p1];rfl
    .simp only[go_sem];refine aJ (Wk.nlm _ 5 (r':=az {z0 with a:=4}) rfl (fA ..)) [] (.tup [rx b a1 0,bn {z0 with a:=4}]) [] (by simp only[go_sem,az]) trivial rfl ⟨(_,a1,0),bT.ok ?_ h1,rfl,rfl⟩;simp only[gM,p1];rfl
   .have d3:(t != 3)=true:=by simp;omega
    have d4:(t != 4)=true:=by simp;omega
    simp only[go_sem,d3,d4]
    first|refine dd (cM b a1 12) (by simp[go_sem,rx]) ?_|refine cJ (cM b a1 12) (by simp[go_sem,rx]) rfl ?_
    simp only[go_sem];refine aJ (Wk.nlm _ 5 (r':=az z0) rfl (fA ..)) [] (.tup [rx b a1 12,bn z0]) [] (by simp only[go_sem,az]) trivial rfl ⟨(z0,a1,12),bT.er ?_ (by decide) trivial h1,rfl,rfl⟩;simp only[gM,p1,ak ht];rfl
  .obtain rfl:e1=e:=p3;cases p2;simp only[go_sem,ei he];refine aJ (Wk.nlm _ 5 (r':=az z0) rfl (fA ..)) [] (.tup [rx b a1 e1,bn z0]) [] (by simp only[go_sem,az]) trivial rfl ⟨(z0,a1,e1),bT.er ?_ he trivial h1,rfl,rfl⟩;simp only[gM,p1];rfl
end
section
open Go Go.Mw
variable{b:Af}{a:Nat}(ha:a<=b.length)(hb:b.length<1000000000)
include ha hb
attribute[local go_sem] ro wo wa wx rx Eu dw ce
def Yz:QX 337 [] b a (gI b a) z0 bn:=by
 refine bA AW ?_;simp only[go_sem,AW];refine jZ (acM ha hb) ?_;rintro⟨op,a1,e1⟩ ⟨h1,h2⟩;replace h1:a1<=b.length:=h1;rcases h2 with⟨op',k,g1,g2⟩|⟨e,g1,he,g2,g3⟩
 .cases g2;simp only[go_sem];refine jZ (acQ h1 hb op (qx op) (nW op) rfl) ?_;rintro⟨x,a2,e2⟩ ⟨p1,p2⟩;replace p1:a2<=b.length:=p1;rcases p2 with⟨x',k2,q1,q2⟩|⟨e,q1,he,q2,q3⟩
  .cases q2;simp only[go_sem];refine done [] (.tup [rx b a2 0,bn {x with op:=op}]) [] (by simp only[go_sem]) trivial rfl ⟨(_,a2,0),dS.ok ?_ p1,rfl,rfl⟩;simp only[gI,g1,q1]
  .obtain rfl:e2=e:=q3;simp only[go_sem,j0 he];refine aJ (Wk.nlm _ 3 (r':=az z0) rfl (fA ..)) [] (.tup [rx b a2 e2,bn z0]) [] (by simp only[go_sem,az]) trivial rfl ⟨(z0,a2,e2),dS.er ?_ he p1,rfl,rfl⟩;simp only[gI,g1,q1]
 .obtain rfl:e1=e:=g3;simp only[go_sem];refine ab (((Uq (b:=b) (a:=a1) (e:=e1) (op:=op) g2).mono (λ_ h=>h.elim) (λ_ _ h=>h):aj pg 349 [rx b a1 e1,.int .i64 op] (.tup [rx b a1 e1,bn z0]))) ?_;simp only[go_sem,j0 he];refine aJ (Wk.nlm _ 3 (r':=az z0) rfl (fA ..)) [] (.tup [rx b a1 e1,bn z0]) [] (by simp only[go_sem,az]) trivial rfl ⟨(z0,a1,e1),dS.er ?_ he h1,rfl,rfl⟩;simp only[gI,g1]
end
section
open Go Go.Mw
def wop(op:Int):Rd be->Rd be
 | .ok (x,k)=>.ok ({x with op:=op},k)
 | .error e=>.error e
def aeT{b:Af}{a:Nat}{op:Int}{k:Nat}(h:gO b a = .ok (op,k)):gI b a=wop op (gM (qx op) b k):=by
 simp only[gI,h,wop];cases gM (qx op) b k<;>rfl
variable{b:Af}{a:Nat}(ha:a<=b.length)(hb:b.length<1000000000)
include ha hb
attribute[local go_sem] ro wo wa wx rx Eu dw ce Fm
def YT:RX 292 [] b a (gI b a) z0 bn:=by
 refine bA k7 ?_;simp only[go_sem,k7];refine yd (aiN ha hb) ⟨by decide,by decide⟩ (λ_=>rfl) (by simp) rfl (λ_=>rfl) (by rfl) ?_;rintro⟨op,a1,e1⟩ ⟨h1,h2⟩;replace h1:a1<=b.length:=h1;rcases h2 with⟨op',k,g1,g2⟩|⟨e,g1,he,_,g3⟩
 rotate_left
 .obtain rfl:e1=e:=g3;simp only[go_sem];refine ae (aS true b a1 e1) ?_;simp only[go_sem,j0 he];refine aJ (Wk.nlm _ 2 (r':=az z0) rfl (fA ..)) [] (bn z0) [(1000,ro true b a1 e1)] (by simp only[go_sem,az]) (by simp only[go_sem]) rfl ⟨(z0,a1,e1),dS.er ?_ he h1,rfl,rfl⟩;simp only[gI,g1]
 cases g2;rw[aeT g1];clear g1;simp only[go_sem];refine aE (aS true b a1 0) ?_;have hc:=US op;rw[(Gn op).2.2.1]at hc;have hi:=nW op;generalize qx op=i at*;refine dd hc (by simp[go_sem]) ?_;rcases(show i=0\/i=1\/i=2\/i=3\/i=4\/i=5\/i=6\/i=7\/i=8\/i=9\/i=10\/i=11\/i=12\/i=13\/i=14\/i=15\/i=16\/i=17\/i=18\/i=19\/i=20 by omega)with rfl|rfl|rfl|rfl|rfl|rfl|rfl|rfl|rfl|rfl|rfl|rfl|rfl|rfl|rfl|rfl|rfl|rfl|rfl|rfl|rfl
 .simp only[go_sem];refine aE (aS true b a1 0) ?_;refine aJ (Wk.nlm _ 2 (r':=az {z0 with op:=op}) rfl (fA ..)) [] (bn {z0 with op:=op}) [(1000,ro true b a1 0)] (by simp only[go_sem,az]) (by simp only[go_sem]) rfl ⟨(_,a1,0),dS.ok ?_ h1,rfl,rfl⟩;rfl
 .simp only[go_sem];refine yd (L3 h1 hb) ⟨by decide,by decide⟩ (λ_=>rfl) (by simp) rfl (λ_=>rfl) (by rfl) ?_;rintro⟨⟨k,v,x⟩,a2,e2⟩ ⟨p1,p2⟩;replace p1:a2<=b.length:=p1;rcases p2 with⟨q,k2,q1,q2⟩|⟨e,q1,he,q2,q3⟩
  .cases q2;simp only[go_sem];refine aE (aS true b a2 0) ?_;refine aJ (Wk.nlm _ 2 (r':=az {z0 with op:=op,k:=k,v:=v,x:=x}) rfl (fA ..)) [] (bn {z0 with op:=op,k:=k,v:=v,x:=x}) [(1000,ro true b a2 0)] (by simp only[go_sem,az]) (by simp only[go_sem]) rfl ⟨(_,a2,0),dS.ok ?_ p1,rfl,rfl⟩;simp only[gM,q1];rfl
  .obtain rfl:e2=e:=q3;cases q2;simp only[go_sem];refine ae (aS true b a2 e2) ?_;simp only[go_sem,j0 he];refine aJ (Wk.nlm _ 2 (r':=az z0) rfl (fA ..)) [] (bn z0) [(1000,ro true b a2 e2)] (by simp only[go_sem,az]) (by simp only[go_sem]) rfl ⟨(z0,a2,e2),dS.er ?_ he p1,rfl,rfl⟩;simp only[gM,q1];rfl
 rotate_left
 .simp only[go_sem];refine ae (H0 true b a1 0 64 h1 hb) ?_;simp only[go_sem,nJ]
  refine aq (λq:Nat×List Int×Nat×Int=>⟨[(5,.int .i64 (((ba true b a1 0 64).1:Int)-q.1)),(3,.mp 3 9 0 0),(2,.mp 2 9 0 0),(0,.mp 1000 4 0 0)],
    [(900,⟨3,1,q.2.1.map jM,false⟩),(3,⟨58,9,[[.int .i64 op,.int .i64 0,.int .i64 0,.int .u64 0,.int .i64 0,.int .i64 0,.int .i64 0,.nl,.ms 900 1 0 q.1]],true⟩),(2,⟨58,9,[[.int .i64 0,.int .i64 0,.int .i64 0,.int .u64 0,.int .i64 0,.int .i64 0,.int .i64 0,.nl,.nl]],true⟩),(1000,ro true b q.2.2.1 q.2.2.2)]⟩)
   (λq=>q.1<=64/\q.2.1.length=q.1/\q.2.2.1<=b.length/\((∃n k,gC b a1 64 = .ok (n,k)/\(ba true b a1 0 64).1=n/\n<=64/\LI b n k q)\/((ba true b a1 0 64).1=0/\q.1=0/\q.2.2.2≠0/\gC b a1 64 = .error (q.2.2.2,q.2.2.1))))
   (λq=>64-q.1) (0,[],(ba true b a1 0 64).2.1,(ba true b a1 0 64).2.2) ?_
   ((Wk.new0 _ 900 1 3 (by decide)).trans ((Wk.nlm _ 3 (t:=58) (st:=9) (r:=[.int .i64 op,.int .i64 0,.int .i64 0,.int .u64 0,.int .i64 0,.int .i64 0,.int .i64 0,.nl,.nl]) (r':=[.int .i64 op,.int .i64 0,.int .i64 0,.int .u64 0,.int .i64 0,.int .i64 0,.int .i64 0,.nl,.ms 900 1 0 0]) (by simp only[go_sem]) ⟨.inl rfl,.inl rfl,.inl rfl,.inl rfl,.inl rfl,.inl rfl,.inl rfl,.inl rfl,.inr ⟨rfl,.inr ⟨900,1,rfl⟩⟩,trivial⟩).trans (Wk.of ?_ ?_))) ?_
  .rcases yQ 64 h1 with⟨n,k,g1,g2,g3,g4,g5⟩|⟨e,he,g1,g2⟩
   .rw[g2];exact⟨(by decide:0<=64),rfl,g5,.inl ⟨n,k,g1,rfl,by omega,cm _,rfl,g5,.inl ⟨rfl,by rw[ND];rfl⟩⟩⟩
   .rw[g2];exact⟨(by decide:0<=64),rfl,h1,.inr ⟨rfl,rfl,he,g1⟩⟩
  .simp only[go_sem];try simp[go_sem]
  .simp only[go_sem];try simp[go_sem]
  rintro⟨i,l,a2,e2⟩ ⟨hi2,hl,ha2,hq⟩;simp only at hi2 hl ha2 hq;generalize hN:(ba true b a1 0 64).1=N at hq;by_cases hlt:(N:Int)-(i:Int)>0
  .have hi3:i<N:=by omega
   have e9:IntKind.i64.wrap ((N:Int)-(i:Int)-1)=(N:Int)-((i+1:Nat):Int):=by rw[wi (by omega) (by omega)];omega
   have happ:=λys=>bq 900 3 1 i jM l ys hl;simp only[go_sem,aK hlt];refine Wq (fj true b a2 e2 ha2 hb) ⟨by decide,by decide⟩ rfl (by simp[go_sem]) rfl rfl (by rfl) (by exact List.Mem.head _) ?_;rcases hq with⟨n,k,q1,q2,q3,q4⟩|⟨q2,q3,q4,q5⟩
   rotate_left
   .omega
   subst q2;by_cases he1:e2=0
   .subst he1;rcases d_ ha2 with⟨x,k1,g1,g2,g3,g4⟩|⟨e,he,g1,g2⟩
    .simp only[go_sem,nJ,g2,happ];refine⟨by omega,aF (i+1,l++[(x:Int)],k1,0) ⟨by omega,by simp;omega,g4,.inl ⟨N,k,q1,rfl,q3,Zp q4 hi3 g4 g1⟩⟩ (show 64-(i+1)<64-i by omega) (Wk.of ?_ ?_)⟩
     .simp only[go_sem,e9]
     .simp only[go_sem]
      try simp[ce]
    .simp only[go_sem,nJ,g2,happ];refine⟨by omega,aF (i+1,l++[0],a2,e) ⟨by omega,by simp;omega,ha2,.inl ⟨N,k,q1,rfl,q3,Zn q4 hi3 he g1⟩⟩ (show 64-(i+1)<64-i by omega) (Wk.of ?_ ?_)⟩
     .simp only[go_sem,e9]
     .simp only[go_sem]
      try simp[ce]
   .simp only[go_sem,ei he1,bY,mZ,happ];refine⟨by omega,aF (i+1,l++[0],a2,e2) ⟨by omega,by simp;omega,ha2,.inl ⟨N,k,q1,rfl,q3,Zo q4 he1 hi3⟩⟩ (show 64-(i+1)<64-i by omega) (Wk.of ?_ ?_)⟩
    .simp only[go_sem,e9]
    .simp only[go_sem]
     try simp[ce]
  .have hge:N<=i:=by omega
   simp only[go_sem,aL hlt];refine ae (fj true b a2 e2 ha2 hb) ?_;have nlx:∀x:Int,nlm [.int .i64 op,.int .i64 x,.int .i64 0,.int .u64 0,.int .i64 0,.int .i64 0,.int .i64 0,.nl,.ms 900 1 0 i] [.int .i64 op,.int .i64 x,.int .i64 0,.int .u64 0,.int .i64 0,.int .i64 0,.int .i64 0,.sl 1 [],.ms 900 1 0 i]:=λx=>nl8 ..;by_cases he1:e2=0
   .subst he1;rcases hq with⟨n,k,q1,q2,q3,q4⟩|⟨_,_,q4,_⟩
    rotate_left
    .exact absurd rfl q4
    subst q2;obtain rfl:i=N:=Nat.le_antisymm q4.1 hge;rcases Gt q4 with⟨_,q5⟩|⟨q5,_⟩
    rotate_left
    .exact absurd rfl q5
    rcases d_ ha2 with⟨x,k1,g1,g2,g3,g4⟩|⟨e,he,g1,g2⟩
    .simp only[go_sem,nJ,g2];refine aE (aS true b k1 0) ?_;refine aJ (Wk.nlm _ 2 rfl (nlx x)) [900] (bn {z0 with op:=op,a:=x,lb:=l}) [(1000,ro true b k1 0)] ?_ (by simp only[go_sem]) rfl ⟨(_,k1,0),dS.ok ?_ g4,rfl,rfl⟩
     .simp only[go_sem,bZ,hl,a_];rw[cI (by rw[bZ];omega)];rfl
     .simp only[gM,q1,q5,g1];rfl
    .simp only[go_sem,nJ,g2];refine ae (aS true b a2 e) ?_;simp only[go_sem,j0 he];refine aJ (Wk.nlm _ 2 (r':=az z0) rfl (fA ..)) [] (bn z0) [(1000,ro true b a2 e)] (by simp only[go_sem,az]) (by simp only[go_sem]) rfl ⟨(z0,a2,e),dS.er ?_ he ha2,rfl,rfl⟩;simp only[gM,q1,q5,g1];rfl
   .have hE:gM 3 b a1 = .error (e2,a2):=by
     rcases hq with⟨n,k,q1,q2,q3,q4⟩|⟨_,_,_,q4⟩
     .subst q2;obtain rfl:i=N:=Nat.le_antisymm q4.1 hge;rcases Gt q4 with⟨q5,_⟩|⟨_,q5⟩
      .exact absurd q5 he1
      .simp only[gM,q1,q5];rfl
     .simp only[gM,q4];rfl
    simp only[go_sem,ei he1,bY,mZ];refine ae (aS true b a2 e2) ?_;simp only[go_sem,j0 he1];refine aJ (Wk.nlm _ 2 (r':=az z0) rfl (fA ..)) [] (bn z0) [(1000,ro true b a2 e2)] (by simp only[go_sem,az]) (by simp only[go_sem]) rfl ⟨(z0,a2,e2),dS.er ?_ he1 ha2,rfl,rfl⟩;rw[hE];rfl
 rotate_left;rotate_left
 .simp only[go_sem];refine ae (fj true b a1 0 h1 hb) ?_;rcases d_ h1 with⟨x,k,g1,g2,g3,g4⟩|⟨e,he,g1,g2⟩
  .by_cases hx:x=1
   .subst hx;have d:(((1:Nat):Int) != 1)=false:=rfl;simp only[go_sem,nJ,g2,d];refine yd (DZ g4 hb) ⟨by decide,by decide⟩ (λ_=>rfl) (by simp) rfl (λ_=>rfl) (by rfl) ?_;rintro⟨t,a2,e2⟩ ⟨p1,p2⟩;replace p1:a2<=b.length:=p1;rcases p2 with⟨q,k2,q1,q2⟩|⟨e,q1,he,q2,q3⟩
    .cases q2;simp only[go_sem];refine aE (aS true b a2 0) ?_;refine aJ (Wk.nlm _ 2 rfl (nl7 ..)) [80] (bn {z0 with op:=op,ty:=[t]}) [(1000,ro true b a2 0)] ?_ (by simp only[go_sem]) rfl ⟨(_,a2,0),dS.ok ?_ p1,rfl,rfl⟩
     .simp only[go_sem];rfl
     .simp only[gM,g1,q1];rfl
    .obtain rfl:e2=e:=q3;cases q2;simp only[go_sem];refine ae (aS true b a2 e2) ?_;simp only[go_sem,j0 he];refine aJ (Wk.nlm _ 2 (r':=az z0) rfl (fA ..)) [] (bn z0) [(1000,ro true b a2 e2)] (by simp only[go_sem,az]) (by simp only[go_sem]) rfl ⟨(z0,a2,e2),dS.er ?_ he p1,rfl,rfl⟩;simp only[gM,g1,q1];rfl
   .have d:((x:Int) != 1)=true:=by simp;omega
    simp only[go_sem,nJ,g2,d];refine aE (cA b k 4) ?_;refine aE (xK g4 hb (show(4:Int)≠0 by decide)) ?_;refine aE (aS true b k 4) ?_;refine aJ (Wk.nlm _ 2 (r':=az z0) rfl (fA ..)) [] (bn z0) [(1000,ro true b k 4)] (by simp only[go_sem,az]) (by simp only[go_sem]) rfl ⟨(z0,k,4),dS.er ?_ (by decide) g4,rfl,rfl⟩;simp only[gM,g1,hx];rfl
  .have d:(((0:Nat):Int) != 1)=true:=rfl;simp only[go_sem,nJ,g2,d];refine ae (DY true b a1 e 4) ?_;simp only[go_sem,ei he,bY];refine aE (xK h1 hb he) ?_;refine ae (aS true b a1 e) ?_;simp only[go_sem,j0 he];refine aJ (Wk.nlm _ 2 (r':=az z0) rfl (fA ..)) [] (bn z0) [(1000,ro true b a1 e)] (by simp only[go_sem,az]) (by simp only[go_sem]) rfl ⟨(z0,a1,e),dS.er ?_ he h1,rfl,rfl⟩;simp only[gM,g1];rfl
 rotate_left;rotate_left;rotate_left;rotate_left;rotate_left;rotate_left
 .simp only[go_sem];refine ae (fj true b a1 0 h1 hb) ?_;rcases d_ h1 with⟨x,k,g1,g2,g3,g4⟩|⟨e,he,g1,g2⟩
  .simp only[go_sem,nJ,g2];refine aE (aS true b k 0) ?_;refine aJ (Wk.nlm _ 2 (r':=az {z0 with op:=op,b:=x}) rfl (fA ..)) [] (bn {z0 with op:=op,b:=x}) [(1000,ro true b k 0)] (by simp only[go_sem,az]) (by simp only[go_sem]) rfl ⟨(_,k,0),dS.ok ?_ g4,rfl,rfl⟩;simp only[gM,g1];rfl
  .simp only[go_sem,nJ,g2];refine ae (aS true b a1 e) ?_;simp only[go_sem,j0 he];refine aJ (Wk.nlm _ 2 (r':=az z0) rfl (fA ..)) [] (bn z0) [(1000,ro true b a1 e)] (by simp only[go_sem,az]) (by simp only[go_sem]) rfl ⟨(z0,a1,e),dS.er ?_ he h1,rfl,rfl⟩;simp only[gM,g1];rfl
 rotate_left;rotate_left;rotate_left
 .simp only[go_sem];refine Wj (L2 h1 hb op) ⟨by decide,by decide⟩ ⟨by decide,by decide⟩ (by decide) (λ_=>rfl) rfl rfl (λ_=>rfl) (λ_=>rfl) (by rfl) (by rfl) ?_;rintro⟨⟨x,y,z⟩,a2,e2⟩ ⟨p1,p2⟩;replace p1:a2<=b.length:=p1;rcases p2 with⟨q,k2,q1,q2⟩|⟨e,q1,he,_,q3⟩
  .cases q2;simp only[go_sem];refine aE (aS true b a2 0) ?_;refine aJ (Wk.nlm _ 2 (r':=az {z0 with op:=op,a:=x,b:=y,n:=z}) rfl (fA ..)) [] (bn {z0 with op:=op,a:=x,b:=y,n:=z}) [(1000,ro true b a2 0)] (by simp only[go_sem,az]) (by simp only[go_sem]) rfl ⟨(_,a2,0),dS.ok ?_ p1,rfl,rfl⟩;simp only[gM,q1];rfl
  .obtain rfl:e2=e:=q3;simp only[go_sem];refine ae (aS true b a2 e2) ?_;simp only[go_sem,j0 he];refine aJ (Wk.nlm _ 2 (r':=az z0) rfl (fA ..)) [] (bn z0) [(1000,ro true b a2 e2)] (by simp only[go_sem,az]) (by simp only[go_sem]) rfl ⟨(z0,a2,e2),dS.er ?_ he p1,rfl,rfl⟩;simp only[gM,q1];rfl
 .simp only[go_sem];refine ae (agj true b a1 0 h1 hb) ?_;rcases Ui 32 h1 with⟨x,k,g1,g2,g4⟩|⟨e,he,g1,g2⟩
  .simp only[go_sem,nJ,g2];refine aE (aS true b k 0) ?_;refine aJ (Wk.nlm _ 2 (r':=az {z0 with op:=op,n:=IntKind.u64.wrap (IntKind.u32.wrap x)}) rfl (fA ..)) [] (bn {z0 with op:=op,n:=IntKind.u64.wrap (IntKind.u32.wrap x)}) [(1000,ro true b k 0)] (by simp only[go_sem,az]) (by simp only[go_sem]) rfl ⟨(_,k,0),dS.ok ?_ g4,rfl,rfl⟩;simp only[gM,g1];rfl
  .simp only[go_sem,nJ,g2];refine ae (aS true b a1 e) ?_;simp only[go_sem,j0 he];refine aJ (Wk.nlm _ 2 (r':=az z0) rfl (fA ..)) [] (bn z0) [(1000,ro true b a1 e)] (by simp only[go_sem,az]) (by simp only[go_sem]) rfl ⟨(z0,a1,e),dS.er ?_ he h1,rfl,rfl⟩;simp only[gM,g1];rfl
 .simp only[go_sem];refine ae (agl true b a1 0 h1 hb) ?_;rcases Ui 64 h1 with⟨x,k,g1,g2,g4⟩|⟨e,he,g1,g2⟩
  .simp only[go_sem,nJ,g2];refine aE (aS true b k 0) ?_;refine aJ (Wk.nlm _ 2 (r':=az {z0 with op:=op,n:=IntKind.u64.wrap x}) rfl (fA ..)) [] (bn {z0 with op:=op,n:=IntKind.u64.wrap x}) [(1000,ro true b k 0)] (by simp only[go_sem,az]) (by simp only[go_sem]) rfl ⟨(_,k,0),dS.ok ?_ g4,rfl,rfl⟩;simp only[gM,g1];rfl
  .simp only[go_sem,nJ,g2];refine ae (aS true b a1 e) ?_;simp only[go_sem,j0 he];refine aJ (Wk.nlm _ 2 (r':=az z0) rfl (fA ..)) [] (bn z0) [(1000,ro true b a1 e)] (by simp only[go_sem,az]) (by simp only[go_sem]) rfl ⟨(z0,a1,e),dS.er ?_ he h1,rfl,rfl⟩;simp only[gM,g1];rfl
 .simp only[go_sem];refine yd (DZ h1 hb) ⟨by decide,by decide⟩ (λ_=>rfl) (by simp) rfl (λ_=>rfl) (by rfl) ?_;rintro⟨t,a2,e2⟩ ⟨p1,p2⟩;replace p1:a2<=b.length:=p1;rcases p2 with⟨q,k2,q1,q2⟩|⟨e,q1,he,q2,q3⟩
  .cases q2;by_cases ht:t=3\/t=4
   .rcases ht with rfl|rfl
    .simp only[go_sem];refine aE (aS true b a2 0) ?_;refine aJ (Wk.nlm _ 2 (r':=az {z0 with op:=op,a:=3}) rfl (fA ..)) [] (bn {z0 with op:=op,a:=3}) [(1000,ro true b a2 0)] (by simp only[go_sem,az]) (by simp only[go_sem]) rfl ⟨(_,a2,0),dS.ok ?_ p1,rfl,rfl⟩;simp only[gM,q1];rfl
    .simp only[go_sem];refine aE (aS true b a2 0) ?_;refine aJ (Wk.nlm _ 2 (r':=az {z0 with op:=op,a:=4}) rfl (fA ..)) [] (bn {z0 with op:=op,a:=4}) [(1000,ro true b a2 0)] (by simp only[go_sem,az]) (by simp only[go_sem]) rfl ⟨(_,a2,0),dS.ok ?_ p1,rfl,rfl⟩;simp only[gM,q1];rfl
   .have d3:(t != 3)=true:=by simp;omega
    have d4:(t != 4)=true:=by simp;omega
    simp only[go_sem,d3,d4];refine aE (cA b a2 12) ?_;refine aE (aS true b a2 12) ?_;refine aJ (Wk.nlm _ 2 (r':=az z0) rfl (fA ..)) [] (bn z0) [(1000,ro true b a2 12)] (by simp only[go_sem,az]) (by simp only[go_sem]) rfl ⟨(z0,a2,12),dS.er ?_ (by decide) p1,rfl,rfl⟩;simp only[gM,q1,ak ht];rfl
  .obtain rfl:e2=e:=q3;obtain rfl:t=0:=q2;simp only[go_sem];refine ae (DY true b a2 e2 12) ?_;simp only[go_sem,ei he,bY];refine ae (aS true b a2 e2) ?_;simp only[go_sem,j0 he];refine aJ (Wk.nlm _ 2 (r':=az z0) rfl (fA ..)) [] (bn z0) [(1000,ro true b a2 e2)] (by simp only[go_sem,az]) (by simp only[go_sem]) rfl ⟨(z0,a2,e2),dS.er ?_ he p1,rfl,rfl⟩;simp only[gM,q1];rfl
 all_goals
  first
  | skip
    simp only[go_sem];refine ae (fj true b a1 0 h1 hb) ?_;rcases d_ h1 with⟨x,k,g1,g2,g3,g4⟩|⟨e,he,g1,g2⟩
    .simp only[go_sem,nJ,g2];refine aE (aS true b k 0) ?_;refine aJ (Wk.nlm _ 2 (r':=az {z0 with op:=op,a:=x}) rfl (fA ..)) [] (bn {z0 with op:=op,a:=x}) [(1000,ro true b k 0)] (by simp only[go_sem,az]) (by simp only[go_sem]) rfl ⟨(_,k,0),dS.ok ?_ g4,rfl,rfl⟩;simp only[gM,g1];rfl
    .simp only[go_sem,nJ,g2];refine ae (aS true b a1 e) ?_;simp only[go_sem,j0 he];refine aJ (Wk.nlm _ 2 (r':=az z0) rfl (fA ..)) [] (bn z0) [(1000,ro true b a1 e)] (by simp only[go_sem,az]) (by simp only[go_sem]) rfl ⟨(z0,a1,e),dS.er ?_ he h1,rfl,rfl⟩;simp only[gM,g1];rfl
  | skip
    simp only[go_sem];refine ae (fj true b a1 0 h1 hb) ?_;rcases d_ h1 with⟨x,k,g1,g2,g3,g4⟩|⟨e,he,g1,g2⟩
    .simp only[go_sem,nJ,g2];refine ae (fj true b k 0 g4 hb) ?_;rcases d_ g4 with⟨y,k1,p1,p2,p3,p4⟩|⟨e,he,p1,p2⟩
     .simp only[go_sem,nJ,p2];refine aE (aS true b k1 0) ?_;refine aJ (Wk.nlm _ 2 (r':=az {z0 with op:=op,a:=x,b:=y}) rfl (fA ..)) [] (bn {z0 with op:=op,a:=x,b:=y}) [(1000,ro true b k1 0)] (by simp only[go_sem,az]) (by simp only[go_sem]) rfl ⟨(_,k1,0),dS.ok ?_ p4,rfl,rfl⟩;simp only[gM,g1,p1];rfl
     .simp only[go_sem,nJ,p2];refine ae (aS true b k e) ?_;simp only[go_sem,j0 he];refine aJ (Wk.nlm _ 2 (r':=az z0) rfl (fA ..)) [] (bn z0) [(1000,ro true b k e)] (by simp only[go_sem,az]) (by simp only[go_sem]) rfl ⟨(z0,k,e),dS.er ?_ he g4,rfl,rfl⟩;simp only[gM,g1,p1];rfl
    .simp only[go_sem,nJ,g2];refine ae (fj true b a1 e h1 hb) ?_;simp only[go_sem,ei he,bY,mZ];refine ae (aS true b a1 e) ?_;simp only[go_sem,j0 he];refine aJ (Wk.nlm _ 2 (r':=az z0) rfl (fA ..)) [] (bn z0) [(1000,ro true b a1 e)] (by simp only[go_sem,az]) (by simp only[go_sem]) rfl ⟨(z0,a1,e),dS.er ?_ he h1,rfl,rfl⟩;simp only[gM,g1];rfl
end
open Go Go.Mw
def GQ{b:Af}{a k:Nat}{x:UInt8}(h:gB b a = .ok (x,k)):k=a+1/\k<=b.length:=by
 unfold gB at h;split at h
 .cases h;exact⟨rfl,by omega⟩
 .cases h
def kP{b:Af}{a k n:Nat}(ha:a<=b.length)(h:gU b a = .ok (n,k)):a<=k/\k<=b.length/\n<4294967296:=by
 have h1:=B_ (b.drop a) 32 (by decide);have h2:=CF (b.drop a) 32;simp only[jK]at h2;unfold gU at h;split at h
 .cases h;exact⟨by omega,by omega,h1⟩
 .cases h
def K6{bits:Nat}{b:Af}{a k:Nat}{n:Int}(ha:a<=b.length)(h:gS bits b a = .ok (n,k)):a<=k/\k<=b.length:=by
 have h2:=CE (b.drop a) bits;simp only[jK]at h2;unfold gS at h;split at h
 .cases h;exact⟨by omega,by omega⟩
 .cases h
def R2{b:Af}{a k:Nat}{t:Int}(h:gV b a = .ok (t,k)):a<=k/\k<=b.length:=by
 unfold gV at h;split at h
 .rename_i x k' h1;have:=GQ h1;split at h
  .cases h;omega
  .cases h
 .cases h
def aa8{b:Af}{a k n:Nat}{most:Int}(ha:a<=b.length)(h:gC b a most = .ok (n,k)):a<=k/\k<=b.length/\(n:Int)<=most:=by
 unfold gC at h;split at h
 .rename_i x k' h1;have:=kP ha h1;split at h
  .cases h
  .cases h;omega
 .cases h
def RY:∀(n:Nat){b:Af}{a k:Nat}{l:List Int},a<=b.length->gL n b a = .ok (l,k)->a<=k/\k<=b.length/\l.length=n
 | 0,b,a,k,l,ha,h=>by cases h;exact⟨a_ _,ha,rfl⟩
 | n+1,b,a,k,l,ha,h=>by
  unfold gL at h;split at h
  .rename_i x k1 h1;have:=kP ha h1;split at h
   .rename_i l2 k2 h2;have:=RY n this.2.1 h2;cases h;exact⟨by omega,by omega,by simp;omega⟩
   .cases h
  .cases h
def aba{b:Af}{a k:Nat}{q:Int×Int×Int}(ha:a<=b.length)(h:gK b a = .ok (q,k)):a<=k/\k<=b.length:=by
 unfold gK at h;split at h
 .rename_i n k' h1;have:=K6 ha h1;split at h
  .cases h;exact this
  split at h
  .cases h;exact this
  split at h
  .cases h;exact this
  .cases h
 .cases h
def aa7{b:Af}{a k:Nat}{q:Int×Int×Int}(ha:a<=b.length)(h:gA b a = .ok (q,k)):a<=k/\k<=b.length:=by
 unfold gA at h;split at h
 .rename_i n k' h1;have q1:=kP ha h1;split at h
  .cases h
  split at h
  .split at h
   .rename_i y k1 h2;have q2:=kP q1.2.1 h2;split at h
    .rename_i z k2 h3;have q3:=kP q2.2.1 h3;cases h;omega
    .cases h
   .cases h
  .split at h
   .rename_i z k2 h3;have q3:=kP q1.2.1 h3;cases h;omega
   .cases h
 .cases h
def abd{i:Int}{b:Af}{a k:Nat}{x:be}(ha:a<=b.length)(h:gM i b a = .ok (x,k)):a<=k/\k<=b.length:=by
 unfold gM at h;by_cases c1:i=1
 .rw[au c1]at h;split at h
  .rename_i h1;have:=aba ha h1;cases h;exact this
  .cases h
 rw[ak c1]at h;by_cases c2:i=3
 .rw[au c2]at h;split at h
  .rename_i h1;have q1:=aa8 ha h1;split at h
   .rename_i h2;have q2:=RY _ q1.2.1 h2;split at h
    .rename_i h3;have q3:=kP q2.2.1 h3;cases h;omega
    .cases h
   .cases h
  .cases h
 rw[ak c2]at h;by_cases c3:i=5\/i=10\/i=11\/i=14\/i=15
 .rw[au c3]at h;split at h
  .rename_i h1;have q1:=kP ha h1;split at h
   .rename_i h2;have q2:=kP q1.2.1 h2;cases h;omega
   .cases h
  .cases h
 rw[ak c3]at h;by_cases c4:i=6
 .rw[au c4]at h;split at h
  .rename_i h1;have q1:=kP ha h1;split at h
   .split at h
    .rename_i h2;have q2:=R2 h2;cases h;omega
    .cases h
   .cases h
  .cases h
 rw[ak c4]at h;by_cases c5:i=13
 .rw[au c5]at h;split at h
  .rename_i h1;have q1:=kP ha h1;cases h;omega
  .cases h
 rw[ak c5]at h;by_cases c6:i=17
 .rw[au c6]at h;split at h
  .rename_i h1;have:=aa7 ha h1;cases h;exact this
  .cases h
 rw[ak c6]at h;by_cases c7:i=18
 .rw[au c7]at h;split at h
  .rename_i h1;have:=K6 ha h1;cases h;exact this
  .cases h
 rw[ak c7]at h;by_cases c8:i=19
 .rw[au c8]at h;split at h
  .rename_i h1;have:=K6 ha h1;cases h;exact this
  .cases h
 rw[ak c8]at h;by_cases c9:i=20
 .rw[au c9]at h;split at h
  .rename_i h1;have:=R2 h1;split at h
   .cases h;exact this
   .cases h
  .cases h
 rw[ak c9]at h;by_cases c10:i=0
 .rw[au c10]at h;cases h;exact⟨a_ _,ha⟩
 .rw[ak c10]at h;split at h
  .rename_i h1;have q1:=kP ha h1;cases h;omega
  .cases h
def R0{b:Af}{a k:Nat}{op:Int}(h:gO b a = .ok (op,k)):a<k/\k<=b.length/\vQ op=true:=by
 unfold gO at h;split at h
 .rename_i x k' h1;have q1:=GQ h1;split at h
  .split at h
   .rename_i n k2 h2;have q2:=kP q1.2 h2;split at h
    .rename_i h3;cases h;exact⟨by omega,by omega,h3⟩
    .cases h
   .cases h
  .split at h
   .rename_i h3;cases h;exact⟨by omega,by omega,h3⟩
   .cases h
 .cases h
def K5{b:Af}{a k:Nat}{x:be}(h:gI b a = .ok (x,k)):a<k/\k<=b.length:=by
 unfold gI at h;split at h
 .rename_i op k1 h1;have q1:=R0 h1;split at h
  .rename_i h2;have q2:=abd q1.2.1 h2;cases h;omega
  .cases h
 .cases h
def Yo(l:List be):Rd (List be)->Rd (List be)
 | .ok (l2,k)=>.ok (l++l2,k)
 | .error e=>.error e
def T5(r:Rd (List be)):Yo [] r=r:=by cases r<;>rfl
def kD(op:Int)(d:Nat):Nat:=if op=2\/op=3\/op=4 then d+1 else if op=11 then d-1 else d
def EI(b:Af)(F a0:Nat)(most:Int)(l:List be)(a d:Nat):Prop :=
 a<=b.length/\l.length+a0<=a/\d<=l.length+1/\((1<=d/\b.length<F+a-l.length/\l.length<F/\gE F 1 b a0 most=Yo l (gE (F-l.length) d b a (most-l.length)))\/(d=0/\gE F 1 b a0 most = .ok (l,a)))
def ad9{b:Af}{F a0:Nat}{most:Int}(h:a0<=b.length)(hF:b.length<F):EI b F a0 most [] a0 1 :=
 ⟨h,by simp,by simp,.inl ⟨a_ _,by simp;omega,by simp;omega,by simp[T5]⟩⟩
def Mx{b:Af}{F a0:Nat}{most:Int}{l:List be}{a d:Nat}(h:EI b F a0 most l a d)(hd:1<=d)(hm:(l.length:Int)>=most):gE F 1 b a0 most = .error (6,a):=by
 obtain⟨h1,h2,h3,⟨_,h4,h5,h6⟩|⟨h4,_⟩⟩:=h
 .rw[h6,show F-l.length=(F-l.length-1)+1 by omega,gE,au (by omega)];rfl
 .omega
def Qj{b:Af}{F a0:Nat}{most:Int}{l:List be}{a d:Nat}(h:EI b F a0 most l a d)(hd:1<=d)(hm:¬(l.length:Int)>=most){e:Int×Nat}(g:gI b a = .error e):gE F 1 b a0 most = .error e:=by
 obtain⟨h1,h2,h3,⟨_,h4,h5,h6⟩|⟨h4,_⟩⟩:=h
 .rw[h6,show F-l.length=(F-l.length-1)+1 by omega,gE,ak (by omega),g];rfl
 .omega
def Zk{b:Af}{F a0:Nat}{most:Int}{l:List be}{a d:Nat}(h:EI b F a0 most l a d)(hd:1<=d)(hm:¬(l.length:Int)>=most){x:be}{k:Nat}(g:gI b a = .ok (x,k)):EI b F a0 most (l++[x]) k (kD x.op d):=by
 have hk:=K5 g;obtain⟨h1,h2,h3,⟨_,h4,h5,h6⟩|⟨h4,_⟩⟩:=h
 .have hl:(l++[x]).length=l.length+1:=by simp
  refine⟨hk.2,by omega,?_,?_⟩
  .rw[hl];unfold kD;repeat' split
   all_goals omega
  rw[hl];rw[show F-l.length=(F-l.length-1)+1 by omega,gE,ak (by omega),g]at h6;simp only at h6;by_cases hx:x.op=11/\d=1
  .rw[au hx]at h6;refine .inr ⟨?_,by rw[h6];rfl⟩;unfold kD;rw[ak (by omega),au hx.1];omega
  .rw[ak hx]at h6;refine .inl ⟨?_,by omega,by omega,?_⟩
   .unfold kD;split
    .omega
    .split
     .omega
     .omega
   .rw[h6,show F-(l.length+1)=F-l.length-1 by omega,show most-((l.length+1:Nat):Int)=most-l.length-1 by omega];show Yo l (match gE (F-l.length-1) (kD x.op d) b k (most - ↑l.length-1)with | .ok (l,k')=>.ok (x::l,k') | .error e=>.error e)=_;cases gE (F-l.length-1) (kD x.op d) b k (most - ↑l.length-1)with
    | ok p=>obtain⟨l2,k2⟩:=p;simp[Yo]
    | error e=>rfl
 .omega
def Qi{b:Af}{F a0:Nat}{most:Int}{l:List be}{a:Nat}(h:EI b F a0 most l a 0):gE F 1 b a0 most = .ok (l,a):=by
 obtain⟨h1,h2,h3,⟨h4,_⟩|⟨_,h4⟩⟩:=h
 .omega
 .exact h4
