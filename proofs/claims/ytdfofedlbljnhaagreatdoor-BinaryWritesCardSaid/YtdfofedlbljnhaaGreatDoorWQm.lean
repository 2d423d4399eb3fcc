import Derived.Test.YtdfofedlbljnhaaGreatDoorWQl
set_option linter.all false
set_option maxRecDepth 100000
set_option maxHeartbeats 20000000
namespace Go.Proofs.YtdfofedlbljnhaaGreatDoor
section
open Go Go.Mw
attribute[local go_sem] ro wo wa wx rx
def ac9(t:Int):ac pg Ba [.int .i64 t] (.bool (t==1||t==2)):=by
 refine aD lQ ?_;simp only[go_sem,lQ];refine⟨λh=>?_,λh=>?_⟩
 .rw[h,iT];exact ax
 .rw[h,kA];exact ax
def ada(t:Int):ac pg Bb [.int .i64 t] (.bool (t==3||t==4)):=by
 refine aD lR ?_;simp only[go_sem,lR];refine⟨λh=>?_,λh=>?_⟩
 .rw[h,iT];exact ax
 .rw[h,kA];exact ax
def adN(t:Int):((t==1||t==2)||(t==3||t==4))=yF t:=by
 rw[zT];simp only[yF,pz,beq_iff_eq,cE,eQ];omega
def adb(t:Int):ac pg Bc [.int .i64 t] (.bool (yF t)):=by
 refine aD pQ ?_;rw[<-adN];simp only[go_sem,pQ];refine aj (ac9 t) ?_;cases h:(t==1||t==2)
 .rw[kA];simp only[go_sem];refine aa (ada t) ?_;exact ax
 .rw[iT];simp only[go_sem];exact ax
section
variable{l:List UInt8}{e:Int}(hl:l.length<40000000000)
include hl
theorem zB(t:Int)(h:yF t=true):WM rf [.int .i64 t] true l e (.tup []) (wB (e==0) l [(vo t).1]) e:=by
 refine bT qF ?_;simp only[go_sem,qF];refine aj (Oo t) ?_;have h2:=M0 t;rw[h]at h2;simp only[go_sem,h2];refine aV [] (k:=1000) (j:=2000) (vY true l (vo t).1 e (by omega)) ?_;simp only[go_sem,bW];exact da [] _ [(1000,wo 2000 true (wB (e==0) l [(vo t).1]) e),(2000,wa (wB (e==0) l [(vo t).1]))] ⟨rfl,rfl⟩
theorem rD(t:Int)(h:yF t=true):ac pg ft [wx l e,.int .i64 t] (wx (wB (e==0) l [(vo t).1]) e):=by
 refine aD uC ?_;simp only[go_sem,uC];refine aj (YJ t) ?_;have h2:=M0 t;rw[h]at h2;simp only[go_sem,h2];refine aa (DO (l:=l) (e:=e) (hl:=by omega) (vo t).1) ?_;exact az
theorem ME(k v x:Int)(h:Lb k v x=true):WM xS [.agg [.int .i64 k,.int .i64 v,.int .i64 x]] true l e (.tup []) (wB (e==0) l (CD k v x)) e:=by
 refine bT fF ?_;unfold Lb at h;unfold CD;by_cases h0:k=0
 .subst h0;simp only[br,cE,beq_iff_eq]at h⊢;obtain⟨rfl,rfl⟩:=h;simp only[go_sem,fF];refine aV [] (k:=1000) (j:=2000) (vY true l 64 e (by omega)) ?_;simp only[go_sem,bW];exact da [] _ [(1000,wo 2000 true (wB (e==0) l [64]) e),(2000,wa (wB (e==0) l [64]))] ⟨rfl,rfl⟩
 .simp only[h0,cD]at h⊢;by_cases h1:k=1
  .subst h1;simp only[br,cE,beq_iff_eq]at h⊢;obtain⟨h,rfl⟩:=h;simp only[go_sem,fF];refine aj (adb v) ?_;simp only[go_sem,h];refine aV [] (k:=1000) (j:=2000) (zB hl v h) ?_;simp only[go_sem];exact da [] _ [(1000,wo 2000 true (wB (e==0) l [(vo v).1]) e),(2000,wa (wB (e==0) l [(vo v).1]))] ⟨rfl,rfl⟩
  .simp only[h1,cD]at h⊢;by_cases h2:k=2
   .subst h2;simp only[br,cE,beq_iff_eq,ik,eQ]at h;obtain⟨rfl,g1,g2⟩:=h;simp only[go_sem,fF,aL g1,aL (show x<=4294967295 by omega)];have r:tP (true&&e==0) l e x=(wB (e==0) l (ej x),e):=by
     unfold tP;rw[au (by omega)];rfl
    have hx:=adf true l e (by omega) x (by unfold Vt;omega);rw[r]at hx;refine aV [] (k:=1000) (j:=2000) (hx) ?_;simp only[go_sem];exact da [] _ [(1000,wo 2000 true (wB (e==0) l (ej x)) e),(2000,wa (wB (e==0) l (ej x)))] ⟨rfl,rfl⟩
   .simp only[h2,cD]at h;cases h
end
def DW(n:Int):ac pg Ds [.int .i64 n] (.bool (ik n)):=by
 refine aD uB ?_;simp only[go_sem,uB];refine⟨λh=>?_,λh=>?_⟩
 .have:ik n=decide (n<=4294967295):=by
   unfold ik;rw[aL h,bW];exact decide_eq_decide.2 (by omega)
  rw[this];exact ax
 .have:ik n=false:=by
   unfold ik;rw[aM h,dR]
  rw[this];exact ax
def Qc(k v x:Int):ac pg Fi [.agg [.int .i64 k,.int .i64 v,.int .i64 x]] (.bool (Lb k v x)):=by
 refine aD iY ?_;unfold Lb;by_cases h0:k=0
 .subst h0;simp only[br];simp only[go_sem,iY];refine⟨λh=>?_,λh=>?_⟩
  .rw[h,bW];exact ax
  .rw[h,dR];exact ax
 .have k0:=iS.2 h0;simp only[h0,cD];by_cases h1:k=1
  .subst h1;simp only[br];simp only[go_sem,iY];refine aj (Oh v) ?_;cases h:yF v
   .rw[dR];simp only[go_sem];exact ax
   .rw[bW];simp only[go_sem];exact ax
  .have k1:=iS.2 h1;simp only[h1,cD];by_cases h2:k=2
   .subst h2;simp only[br];simp only[go_sem,iY];refine⟨λh=>?_,λh=>?_⟩
    .rw[h,bW];refine aa (DW x) ?_;exact ax
    .rw[h,dR];exact ax
   .have k2:=iS.2 h2;simp only[h2,cD];simp only[go_sem,iY,k0,k1,k2];exact ax
variable{l:List UInt8}{e:Int}(hl:l.length<40000000000)
include hl
theorem DY(k v x:Int)(h:Lb k v x=true):ac pg kV [wx l e,.agg [.int .i64 k,.int .i64 v,.int .i64 x]] (wx (wB (e==0) l (CD k v x)) e):=by
 refine aD qK ?_;have hb:=Qc k v x;rw[h]at hb;simp only[go_sem,qK];refine aj (hb) ?_;unfold Lb at h;unfold CD;by_cases h0:k=0
 .subst h0;simp only[br];simp only[go_sem];refine aa (DO (l:=l) (e:=e) (hl:=by omega) 64) ?_;exact az
 .have k0:=iS.2 h0;simp only[h0,cD]at h⊢;by_cases h1:k=1
  .subst h1;simp only[br,cE,beq_iff_eq]at h⊢;obtain⟨h,rfl⟩:=h;simp only[go_sem];refine aa (rD hl v h) ?_;exact az
  .have k1:=iS.2 h1;simp only[h1,cD]at h⊢;by_cases h2:k=2
   .subst h2;simp only[br,cE,beq_iff_eq,ik,eQ]at h;obtain⟨rfl,g1,g2⟩:=h;have r:tP (e==0) l e x=(wB (e==0) l (ej x),e):=by
     unfold tP;rw[au (by omega)];rfl
    have hx:=af9 l e (by omega) x (by unfold Vt;omega);rw[r]at hx;simp only[go_sem,k0,k1];refine aa (hx) ?_;exact az
   .simp only[h2,cD]at h;cases h
end
section
open Go Go.Mw
def jw{α:Type}(b:List UInt8)(res:Rd α)(d:α)(q:α×Nat×Int):Prop :=
 q.2.1<=b.length/\((∃x k,res = .ok (x,k)/\q=(x,k,0))\/∃e,res = .error (e,q.2.1)/\e≠0/\q.1=d/\q.2.2=e)
def RX{α:Type}(f:FuncId)(rest:List AV)(b:List UInt8)(a:Nat)(res:Rd α)(d:α)(av:α->AV):Prop :=
 aX pg f (.mp 1000 4 0 0::rest) [(1000,ro true b a 0)] sb (λr' σ'=>∃q,jw b res d q/\r'=av q.1/\σ'=[(1000,ro true b (q.2.1:Nat) q.2.2)])
def jw.ok{α:Type}{b:List UInt8}{res:Rd α}{d x:α}{k:Nat}(h:res = .ok (x,k))(hk:k<=b.length):jw b res d (x,k,0):=⟨hk,.inl ⟨x,k,h,rfl⟩⟩
def jw.er{α:Type}{b:List UInt8}{res:Rd α}{d:α}{e:Int}{k:Nat}(h:res = .error (e,k))(he:e≠0)(hk:k<=b.length):jw b res d (d,k,e):=⟨hk,.inr ⟨e,h,he,rfl,rfl⟩⟩
def nK:(true&&(0:Int)==0)=true:=rfl
def pw{e:Int}(h:e≠0):(e==0)=false:=iS.2 h
def vI{e:Int}(h:e≠0):(e != 0)=true:=by simp[h]
variable{b:List UInt8}{a:Nat}(ha:a<=b.length)(hb:b.length<1000000000)
include ha hb
attribute[local go_sem] ro wo wa wx rx
theorem D6:RX kU [] b a (gV b a) 0 (.int .i64):=by
 refine bT ib ?_;simp only[go_sem,ib];refine ae (pm true b a 0 ha hb) ?_;rcases zq b a with⟨x,h1,h2,h3⟩|⟨h1,h2⟩
 .simp only[go_sem,nK,h2];refine aH (aU true b ((a+1:Nat):Int) 0) ?_;refine aj (UX x) ?_;cases hx:(ov x).2
  .simp only[go_sem];refine aH (cI b ((a+1:Nat):Int) 4) ?_;refine eT [] _ [(1000,ro true b ((a+1:Nat):Int) 4)] ⟨(0,a+1,4),jw.er ?_ (by decide) h3,rfl,rfl⟩;simp only[gV,h1,hx,gd,cD]
  .simp only[go_sem];refine eT [] _ [(1000,ro true b ((a+1:Nat):Int) 0)] ⟨((ov x).1,a+1,0),jw.ok ?_ h3,rfl,rfl⟩;simp only[gV,h1,hx,br]
 .simp only[go_sem,nK,h2];refine aH (aU true b a 3) ?_;refine eT [] _ [(1000,ro true b a 3)] ⟨(0,a,3),jw.er ?_ (by decide) ha,rfl,rfl⟩;simp only[gV,h1]
end
section
open Go Go.Mw
def bk_(q:Int×Int×Int):AV:=.agg [.int .i64 q.1,.int .i64 q.2.1,.int .i64 q.2.2]
def G3(q:Int×Int×Int):bk_ q = .agg [.int .i64 q.1,.int .i64 q.2.1,.int .i64 q.2.2]:=rfl
def aaV(b:List UInt8):-9223372036854775808<=(iK b 33).1/\(iK b 33).1<9223372036854775808:=by
 unfold iK;split
 .exact⟨(by decide:(-9223372036854775808:Int)<=0),(by decide:(0:Int)<9223372036854775808)⟩
 split
 .exact⟨(by decide:(-9223372036854775808:Int)<=0),(by decide:(0:Int)<9223372036854775808)⟩
 .simp only[MM];rw[Em];omega
def acP{b:List UInt8}{a:Nat}(ha:a<=b.length):(∃n k,gS 33 b a = .ok (n,k)/\rS true 33 b a 0=(n,k,0)/\k<=b.length/\-9223372036854775808<=n/\n<9223372036854775808)\/∃e,e≠0/\gS 33 b a = .error (e,a)/\rS true 33 b a 0=(0,a,e):=by
 rcases acQ 33 ha with⟨n,k,h1,h2,h3⟩|h
 .refine .inl ⟨n,k,h1,h2,h3,?_⟩;unfold gS at h1;split at h1
  .cases h1;exact aaV _
  .cases h1
 .exact .inr h
def ag3{n:Int}(h:-17<=n/\n<0):IntKind.u8.wrap (n+128)=(((UInt8.ofNat (n+128).toNat).toNat:Nat):Int):=by
 rw[ofNat_toNat (by omega),vy];omega
variable{b:List UInt8}{a:Nat}(ha:a<=b.length)(hb:b.length<1000000000)
include ha hb
attribute[local go_sem] ro wo wa wx rx G3
theorem MD:RX xR [] b a (gK b a) (0,0,0) bk_:=by
 refine bT oM ?_;simp only[go_sem,oM];refine ae (agG true b a 0 ha hb) ?_;rcases acP ha with⟨n,k,h1,h2,h3,h4,h5⟩|⟨e,he,h1,h2⟩
 .simp only[go_sem,nK,h2];refine ae (aU true b k 0) ?_;by_cases hn:n = -64
  .subst hn;simp only[go_sem];refine eT [] _ [(1000,ro true b k 0)] ⟨((0,0,0),k,0),jw.ok ?_ h3,rfl,rfl⟩;simp only[gK,h1,br]
  have hn':=iS.2 hn;by_cases h0:n>=0
  .simp only[go_sem,hn',aL h0];refine eT [] _ [(1000,ro true b k 0)] ⟨((2,0,n),k,0),jw.ok ?_ h3,rfl,rfl⟩;simp only[gK,h1,au hn,aF h0]
  by_cases h17:n>=-17
  .have w1:IntKind.i64.wrap (n+128)=n+128:=wi (by omega) (by omega);have w2:=ag3 ⟨h17,Int.not_le.1 h0⟩;generalize hy:UInt8.ofNat (n+128).toNat=y at*;simp only[go_sem,hn',aM h0,aL h17,w1,w2];refine aj (UX y) ?_;cases hx:(ov y).2
   .simp only[go_sem];refine aH (cI b k 4) ?_;refine eT [] _ [(1000,ro true b k 4)] ⟨((0,0,0),k,4),jw.er ?_ (by decide) h3,rfl,rfl⟩;simp only[gK,h1,au hn,au h0,hy,hx,gd,and_false,cD]
   .simp only[go_sem];refine eT [] _ [(1000,ro true b k 0)] ⟨((1,(ov y).1,0),k,0),jw.ok ?_ h3,rfl,rfl⟩;simp only[gK,h1,au hn,au h0,hy,hx,h17,and_self,br]
  .simp only[go_sem,hn',aM h0,aM h17];refine aH (cI b k 4) ?_;refine eT [] _ [(1000,ro true b k 4)] ⟨((0,0,0),k,4),jw.er ?_ (by decide) h3,rfl,rfl⟩;simp only[gK,h1,au hn,au h0,h17,false_and,cD]
 .simp only[go_sem,nK,h2];refine ae (aU true b a e) ?_;simp only[go_sem,vI he];refine eT [] _ [(1000,ro true b a e)] ⟨((0,0,0),a,e),jw.er ?_ he ha,rfl,rfl⟩;simp only[gK,h1]
end
section
open Go Go.Mw
def qO{α:Type}(b:List UInt8)(res:Rd α)(p:α->Prop)(q:α×Nat×Int):Prop :=
 q.2.1<=b.length/\((∃x k,res = .ok (x,k)/\q=(x,k,0))\/∃e,res = .error (e,q.2.1)/\e≠0/\p q.1/\q.2.2=e)
def qO.ok{α:Type}{b:List UInt8}{res:Rd α}{p:α->Prop}{x:α}{k:Nat}(h:res = .ok (x,k))(hk:k<=b.length):qO b res p (x,k,0):=⟨hk,.inl ⟨x,k,h,rfl⟩⟩
def qO.er{α:Type}{b:List UInt8}{res:Rd α}{p:α->Prop}{x:α}{e:Int}{k:Nat}(h:res = .error (e,k))(he:e≠0)(hp:p x)(hk:k<=b.length):qO b res p (x,k,e):=⟨hk,.inr ⟨e,h,he,hp,rfl⟩⟩
def vP{op:Int}(h:x7 op=true):(0<=op/\op<256/\op≠252)\/(64512<=op/\op<64768):=by
 have:=My (p:=λop=>(decide (0<=op)&&(decide (op<256) && !(op==252)))||(decide (64512<=op)&&decide (op<64768))) (by decide +kernel) (op:=op) (λq=>by simp[x7,q]at h);simpa using this
def afr{n:Nat}(h:255<n):x7 (64512+n)=false:=by
 cases hk:x7 (64512+(n:Int))
 .rfl
 .rcases vP hk with h|h<;>omega
def aaL{n:Nat}(h:n<4294967296):bU .i64 (n:Int) 255=((n%256:Nat):Int):=by
 have:(BitVec.ofInt 64 (n:Int) &&& BitVec.ofInt 64 ((255:Nat):Int)).toNat=n &&& 255:=G0 (by omega) (by decide);show IntKind.i64.wrap ((BitVec.ofInt 64 (n:Int) &&& BitVec.ofInt 64 ((255:Nat):Int)).toNat)=_;rw[this,show(255:Nat)=2^8-1 from rfl,Nat.and_two_pow_sub_one_eq_mod,Em];omega
def adD(x:UInt8):IntKind.i64.wrap ((x.toNat:Nat):Int)=((x.toNat:Nat):Int):=wi (by omega) (by have:=x.toNat_lt;omega)
def TO(op:Int):(!(dw op==[]))=x7 op:=(GK op).1
def ahE(x:UInt8):(((x.toNat:Nat):Int)==252)=decide (x=252):=by
 have:=Vf x 252;rw[show(((252:UInt8).toNat:Nat):Int)=252 from rfl]at this;rw[this];rfl
def agZ:((252:UInt8).toNat:Int)=252:=rfl
def to0:((0:UInt8).toNat:Int)=0:=rfl
def ai1:IntKind.i64.wrap 252=252:=by decide
def wr0:IntKind.i64.wrap 0=0:=by decide
variable{b:List UInt8}{a:Nat}(ha:a<=b.length)(hb:b.length<1000000000)
include ha hb
attribute[local go_sem] ro wo wa wx rx G3
theorem aiR:aX pg zg [.mp 1000 4 0 0] [(1000,ro true b a 0)] sb (λr' σ'=>∃q:Int×Nat×Int,qO b (gO b a) (λ_=>True) q/\r' = .int .i64 q.1/\σ'=[(1000,ro true b (q.2.1:Nat) q.2.2)]):=by
 refine bT nP ?_;simp only[go_sem,nP];refine ae (pm true b a 0 ha hb) ?_;rcases zq b a with⟨x,h1,h2,h3⟩|⟨h1,h2⟩
 .have w0:=adD x;by_cases hx:x=252
  .subst hx;simp only[go_sem,nK,h2,agZ,ai1];refine ae (fv true b (a+1) 0 h3 hb) ?_;rcases vm h3 with⟨n,k,g1,g2,g3,g4⟩|⟨e,he,g1,g2⟩
   .have w2:=aaL g3;by_cases hn:(n:Int)>255
    .simp only[go_sem,nK,g2,aL hn];refine aH (cI b k 10) ?_;refine ae (aU true b k 10) ?_;simp only[go_sem,w2];have w3:IntKind.i64.wrap (64512+((n%256:Nat):Int))=64512+((n%256:Nat):Int):=wi (by omega) (by omega);refine done [] _ [(1000,ro true b k 10)] (by simp only[go_sem,w3]) (by simp only[go_sem]) rfl ⟨(64512+((n%256:Nat):Int),k,10),qO.er ?_ (by decide) trivial g4,rfl,rfl⟩;simp only[gO,h1,br,g1,afr (show 255<n by omega),gd,cD]
    .have w3:IntKind.i64.wrap (64512+((n%256:Nat):Int))=64512+(n:Int):=by rw[wi (by omega) (by omega)];omega
     simp only[go_sem,nK,g2,aM hn];refine ae (aU true b k 0) ?_;simp only[go_sem,w2,w3];refine aj (zA (64512+(n:Int))) ?_;rw[TO];cases hk:x7 (64512+(n:Int))
     .simp only[go_sem];refine aH (cI b k 10) ?_;refine eT [] _ [(1000,ro true b k 10)] ⟨(64512+(n:Int),k,10),qO.er ?_ (by decide) trivial g4,rfl,rfl⟩;simp only[gO,h1,br,g1,hk,gd,cD]
     .simp only[go_sem];refine eT [] _ [(1000,ro true b k 0)] ⟨(64512+(n:Int),k,0),qO.ok ?_ g4,rfl,rfl⟩;simp only[gO,h1,br,g1,hk]
   .have d0:decide (((0:Nat):Int)>255)=false:=by decide
    have a0:bU .i64 ((0:Nat):Int) 255=0:=by decide
    have w3:IntKind.i64.wrap (64512+0)=64512:=by decide
    simp only[go_sem,nK,g2,d0,a0,w3];refine ae (aU true b ((a+1:Nat):Int) e) ?_;simp only[go_sem,pw he];refine eT [] _ [(1000,ro true b ((a+1:Nat):Int) e)] ⟨(64512,a+1,e),qO.er ?_ he trivial h3,rfl,rfl⟩;simp only[gO,h1,br,g1]
  .have d:(((x.toNat:Nat):Int)==252)=false:=by rw[ahE,aM hx]
   simp only[go_sem,nK,h2,w0,d];refine aH (aU true b ((a+1:Nat):Int) 0) ?_;refine aj (zA (x.toNat:Int)) ?_;rw[TO];cases hk:x7 (x.toNat:Int)
   .simp only[go_sem];refine aH (cI b ((a+1:Nat):Int) 10) ?_;refine eT [] _ [(1000,ro true b ((a+1:Nat):Int) 10)] ⟨((x.toNat:Int),a+1,10),qO.er ?_ (by decide) trivial h3,rfl,rfl⟩;simp only[gO,h1,au hx,hk,gd,cD]
   .simp only[go_sem];refine eT [] _ [(1000,ro true b ((a+1:Nat):Int) 0)] ⟨((x.toNat:Int),a+1,0),qO.ok ?_ h3,rfl,rfl⟩;simp only[gO,h1,au hx,hk,br]
 .simp only[go_sem,nK,h2,to0,wr0];refine aH (aU true b a 3) ?_;refine eT [] _ [(1000,ro true b a 3)] ⟨(0,a,3),qO.er ?_ (by decide) trivial ha,rfl,rfl⟩;simp only[gO,h1]
end
section
open Go Go.Mw
def GY(op:Int)(q:Int×Int×Int):ao:=⟨58,9,[[.int .i64 op,.int .i64 q.1,.int .i64 q.2.1,.int .u64 q.2.2,.int .i64 0,.int .i64 0,.int .i64 0,.nl,.nl]],true⟩
def sv{n:Nat}(h:n<4294967296):IntKind.u64.wrap (n:Int)=(n:Int):=by rw[En];omega
variable{b:List UInt8}{a:Nat}(ha:a<=b.length)(hb:b.length<1000000000)
include ha hb
attribute[local go_sem] ro wo wa wx rx G3
def MC(op:Int):aX pg Ao [.mp 1000 4 0 0,.mp 1001 9 0 0] [(1000,ro true b a 0),(1001,GY op (0,0,0))] sb
  (λr' σ'=>∃q:(Int×Int×Int)×Nat×Int,qO b (gA b a) (λ_=>True) q/\r' = .tup []/\σ'=[(1000,ro true b (q.2.1:Nat) q.2.2),(1001,GY op q.1)]):=by
 refine bT qE ?_;simp only[go_sem,qE,GY];refine ae (fv true b a 0 ha hb) ?_;rcases vm ha with⟨n,k,g1,g2,g3,g4⟩|⟨e,he,g1,g2⟩
 .by_cases h1:(n:Int)>=128
  .have h2:(n:Int)>=64:=by omega
   have w1:IntKind.i64.wrap ((n:Int)-64)=(n:Int)-64:=wi (by omega) (by omega);simp only[go_sem,nK,g2,aL h1];refine ae (cI b k 4) ?_;simp only[go_sem,aL h2,w1];refine ae (fv true b k 4 g4 hb) ?_;simp only[go_sem,pw (show(4:Int)≠0 by decide),bW,BW];refine ae (fv true b k 4 g4 hb) ?_;have w2:=sv (n:=0) (by decide);simp only[go_sem,pw (show(4:Int)≠0 by decide),bW,BW,w2];refine fI [] _ [(1000,ro true b k 4),(1001,GY op ((n:Int)-64,0,0))] (by simp only[go_sem]) (by simp only[go_sem,GY];try rfl) rfl ⟨(((n:Int)-64,0,0),k,4),qO.er ?_ (by decide) trivial g4,rfl,rfl⟩;simp only[gA,g1,aF (show n>=128 by omega)]
  .have h1':¬n>=128:=by omega
   by_cases h2:(n:Int)>=64
   .have h2':n>=64:=by omega
    have w1:IntKind.i64.wrap ((n:Int)-64)=(n:Int)-64:=wi (by omega) (by omega);simp only[go_sem,nK,g2,aM h1,aL h2,w1];refine ae (fv true b k 0 g4 hb) ?_;rcases vm g4 with⟨y,k1,p1,p2,p3,p4⟩|⟨e,he,p1,p2⟩
    .simp only[go_sem,nK,p2];refine ae (fv true b k1 0 p4 hb) ?_;rcases vm p4 with⟨z,k2,q1,q2,q3,q4⟩|⟨e,he,q1,q2⟩
     .have w2:=sv q3;simp only[go_sem,nK,q2,w2];refine fI [] _ [(1000,ro true b k2 0),(1001,GY op ((n:Int)-64,(y:Int),(z:Int)))] (by simp only[go_sem]) (by simp only[go_sem,GY];try rfl) rfl ⟨(((n:Int)-64,(y:Int),(z:Int)),k2,0),qO.ok ?_ q4,rfl,rfl⟩;simp only[gA,g1,au h1',aF h2',p1,q1]
     .have w2:=sv (n:=0) (by decide);simp only[go_sem,nK,q2,w2];refine fI [] _ [(1000,ro true b k1 e),(1001,GY op ((n:Int)-64,(y:Int),0))] (by simp only[go_sem]) (by simp only[go_sem,GY];try rfl) rfl ⟨(((n:Int)-64,(y:Int),0),k1,e),qO.er ?_ he trivial p4,rfl,rfl⟩;simp only[gA,g1,au h1',aF h2',p1,q1]
    .simp only[go_sem,nK,p2];refine ae (fv true b k e g4 hb) ?_;have w2:=sv (n:=0) (by decide);simp only[go_sem,pw he,bW,BW,w2];refine fI [] _ [(1000,ro true b k e),(1001,GY op ((n:Int)-64,0,0))] (by simp only[go_sem]) (by simp only[go_sem,GY];try rfl) rfl ⟨(((n:Int)-64,0,0),k,e),qO.er ?_ he trivial g4,rfl,rfl⟩;simp only[gA,g1,au h1',aF h2',p1]
   .have h2':¬n>=64:=by omega
    simp only[go_sem,nK,g2,aM h1,aM h2];refine ae (fv true b k 0 g4 hb) ?_;rcases vm g4 with⟨z,k2,q1,q2,q3,q4⟩|⟨e,he,q1,q2⟩
    .have w2:=sv q3;simp only[go_sem,nK,q2,w2];refine fI [] _ [(1000,ro true b k2 0),(1001,GY op ((n:Int),0,(z:Int)))] (by simp only[go_sem]) (by simp only[go_sem,GY];try rfl) rfl ⟨(((n:Int),0,(z:Int)),k2,0),qO.ok ?_ q4,rfl,rfl⟩;simp only[gA,g1,au h1',au h2',q1]
    .have w2:=sv (n:=0) (by decide);simp only[go_sem,nK,q2,w2];refine fI [] _ [(1000,ro true b k e),(1001,GY op ((n:Int),0,0))] (by simp only[go_sem]) (by simp only[go_sem,GY];try rfl) rfl ⟨(((n:Int),0,0),k,e),qO.er ?_ he trivial g4,rfl,rfl⟩;simp only[gA,g1,au h1',au h2',q1]
 .have d0:decide (((0:Nat):Int)>=128)=false:=by decide
  have d1:decide (((0:Nat):Int)>=64)=false:=by decide
  simp only[go_sem,nK,g2,d0,d1];refine ae (fv true b a e ha hb) ?_;have w2:=sv (n:=0) (by decide);simp only[go_sem,pw he,bW,BW,w2];refine fI [] _ [(1000,ro true b a e),(1001,GY op (0,0,0))] (by simp only[go_sem]) (by simp only[go_sem,GY];try rfl) rfl ⟨((0,0,0),a,e),qO.er ?_ he trivial ha,rfl,rfl⟩;simp only[gA,g1]
end
section
open Go Go.Mw
def Av(a b c d e f g:AV):nlm [a,b,c,d,e,f,g,.nl,.nl] [a,b,c,d,e,f,g,.sl 1 [],.sl 1 []]:=⟨.inl rfl,.inl rfl,.inl rfl,.inl rfl,.inl rfl,.inl rfl,.inl rfl,.inr ⟨rfl,.inl ⟨1,rfl⟩⟩,.inr ⟨rfl,.inl ⟨1,rfl⟩⟩,trivial⟩
def nl8(a b c d e f g h:AV):nlm [a,b,c,d,e,f,g,.nl,h] [a,b,c,d,e,f,g,.sl 1 [],h]:=⟨.inl rfl,.inl rfl,.inl rfl,.inl rfl,.inl rfl,.inl rfl,.inl rfl,.inr ⟨rfl,.inl ⟨1,rfl⟩⟩,.inl rfl,trivial⟩
def nl7(a b c d e f g h:AV):nlm [a,b,c,d,e,f,g,h,.nl] [a,b,c,d,e,f,g,h,.sl 1 []]:=⟨.inl rfl,.inl rfl,.inl rfl,.inl rfl,.inl rfl,.inl rfl,.inl rfl,.inl rfl,.inr ⟨rfl,.inl ⟨1,rfl⟩⟩,trivial⟩
variable{b:List UInt8}{a:Nat}(ha:a<=b.length)(hb:b.length<1000000000)
include ha hb
attribute[local go_sem] ro wo wa wx rx G3 cL dm
end
section
open Go Go.Mw
def oA(l:List Int):Rd (List Int)->Rd (List Int)
 | .ok (l2,k)=>.ok (l++l2,k)
 | .error e=>.error e
def Yt(r:Rd (List Int)):oA [] r=r:=by cases r<;>rfl
def Uh{b:List UInt8}{a n k:Nat}{x:Nat}{l:List Int}(h:gU b a = .ok (x,k)):oA l (gL (n+1) b a)=oA (l++[(x:Int)]) (gL n b k):=by
 simp only[gL,h];cases gL n b k with
 | ok p=>obtain⟨l2,k2⟩:=p;simp[oA]
 | error e=>rfl
def Ys{b:List UInt8}{a n:Nat}{e:Int×Nat}{l:List Int}(h:gU b a = .error e):oA l (gL (n+1) b a) = .error e:=by
 simp only[gL,h];rfl
def LI(b:List UInt8)(n a0:Nat)(q:Nat×List Int×Nat×Int):Prop :=
 q.1<=n/\q.2.1.length=q.1/\q.2.2.1<=b.length/\((q.2.2.2=0/\gL n b a0=oA q.2.1 (gL (n-q.1) b q.2.2.1))\/(q.2.2.2≠0/\gL n b a0 = .error (q.2.2.2,q.2.2.1)))
def aes{b:List UInt8}{n a0 i:Nat}{l:List Int}{a:Nat}(h:LI b n a0 (i,l,a,0))(hi:i<n){x k:Nat}(hk:k<=b.length)(g:gU b a = .ok (x,k)):LI b n a0 (i+1,l++[(x:Int)],k,0):=by
 obtain⟨h1,h2,h3,h4⟩:=h;refine⟨hi,by simp only[aJ,jI];simp only at h2;omega,hk,.inl ⟨rfl,?_⟩⟩;rcases h4 with⟨_,h4⟩|⟨h4,_⟩
 .simp only at h4⊢;rw[h4,show n-i=(n-(i+1))+1 by omega,Uh g]
 .exact absurd rfl h4
def aeq{b:List UInt8}{n a0 i:Nat}{l:List Int}{a:Nat}(h:LI b n a0 (i,l,a,0))(hi:i<n){e:Int}(he:e≠0)(g:gU b a = .error (e,a)):LI b n a0 (i+1,l++[0],a,e):=by
 obtain⟨h1,h2,h3,h4⟩:=h;refine⟨hi,by simp only[aJ,jI];simp only at h2;omega,h3,.inr ⟨he,?_⟩⟩;rcases h4 with⟨_,h4⟩|⟨h4,_⟩
 .simp only at h4⊢;rw[h4,show n-i=(n-(i+1))+1 by omega,Ys g]
 .exact absurd rfl h4
def aer{b:List UInt8}{n a0 i:Nat}{l:List Int}{a:Nat}{e:Int}(h:LI b n a0 (i,l,a,e))(he:e≠0)(hi:i<n):LI b n a0 (i+1,l++[0],a,e):=by
 obtain⟨h1,h2,h3,h4⟩:=h;refine⟨hi,by simp only[aJ,jI];simp only at h2;omega,h3,.inr ⟨he,?_⟩⟩;rcases h4 with⟨h4,_⟩|⟨_,h4⟩
 .exact absurd h4 he
 .exact h4
def QM{b:List UInt8}{n a0:Nat}{l:List Int}{a:Nat}{e:Int}(h:LI b n a0 (n,l,a,e)):(e=0/\gL n b a0 = .ok (l,a))\/(e≠0/\gL n b a0 = .error (e,a)):=by
 obtain⟨h1,h2,h3,h4⟩:=h;rcases h4 with⟨h4,h5⟩|h4
 .refine .inl ⟨h4,?_⟩;simp only at h5;rw[h5,GQ];simp only[gL,oA,gh]
 .exact .inr h4
variable{b:List UInt8}{a:Nat}(ha:a<=b.length)(hb:b.length<1000000000)
include ha hb
attribute[local go_sem] ro wo wa wx rx G3 cL dm
end
section
open Go Go.Mw
attribute[local go_sem] ro wo wa wx rx G3 cL dm
variable{b:List UInt8}{a:Nat}(ha:a<=b.length)(hb:b.length<1000000000)
include ha hb
theorem ya{e:Int}(he:e≠0):RM kU [] true b a e (.int .i64 0) a e:=by
 refine bT ib ?_;simp only[go_sem,ib];refine ae (pm true b a e ha hb) ?_;simp only[go_sem,pw he,bW,vV];refine ae (aU true b a e) ?_;simp only[go_sem,vI he];exact eT [] _ [(1000,ro true b a e)] ⟨rfl,rfl⟩
end
section
open Go Go.Mw
variable{b:List UInt8}{a:Nat}(ha:a<=b.length)(hb:b.length<1000000000)
include ha hb
attribute[local go_sem] ro wo wa wx rx G3 cL dm
end
section
open Go Go.Mw
def wop(op:Int):Rd bj->Rd bj
 | .ok (x,k)=>.ok ({x with op:=op},k)
 | .error e=>.error e
def aff{b:List UInt8}{a:Nat}{op:Int}{k:Nat}(h:gO b a = .ok (op,k)):gI b a=wop op (gM (qu op) b k):=by
 simp only[gI,h,wop];cases gM (qu op) b k<;>rfl
variable{b:List UInt8}{a:Nat}(ha:a<=b.length)(hb:b.length<1000000000)
include ha hb
attribute[local go_sem] ro wo wa wx rx G3 cL dm GY
theorem YO:RX xp [] b a (gI b a) z0 di:=by
 refine bT k_ ?_;simp only[go_sem,k_];refine yZ (aiR ha hb) ⟨by decide,by decide⟩ (λ_=>rfl) (by simp) rfl (λ_=>rfl) (by rfl) ?_;rintro⟨op,a1,e1⟩ ⟨h1,h2⟩;replace h1:a1<=b.length:=h1;rcases h2 with⟨op',k,g1,g2⟩|⟨e,g1,he,_,g3⟩
 rotate_left
 .obtain rfl:e1=e:=g3;simp only[go_sem];refine ae (aU true b a1 e1) ?_;simp only[go_sem,vI he];refine bS (Wk.nlm _ 2 (r':=aS z0) rfl (Av ..)) [] (di z0) [(1000,ro true b a1 e1)] (by simp only[go_sem,aS]) (by simp only[go_sem]) rfl ⟨(z0,a1,e1),jw.er ?_ he h1,rfl,rfl⟩;simp only[gI,g1]
 cases g2;rw[aff g1];clear g1;simp only[go_sem];refine aH (aU true b a1 0) ?_;have hc:=UV op;rw[(GK op).2.2.1]at hc;have hi:=lm op;generalize qu op=i at*;refine bY hc (by simp[go_sem]) ?_;rcases(show i=0\/i=1\/i=2\/i=3\/i=4\/i=5\/i=6\/i=7\/i=8\/i=9\/i=10\/i=11\/i=12\/i=13\/i=14\/i=15\/i=16\/i=17\/i=18\/i=19\/i=20 by omega)with rfl|rfl|rfl|rfl|rfl|rfl|rfl|rfl|rfl|rfl|rfl|rfl|rfl|rfl|rfl|rfl|rfl|rfl|rfl|rfl|rfl
 .simp only[go_sem];refine aH (aU true b a1 0) ?_;refine bS (Wk.nlm _ 2 (r':=aS {z0 with op:=op}) rfl (Av ..)) [] (di {z0 with op:=op}) [(1000,ro true b a1 0)] (by simp only[go_sem,aS]) (by simp only[go_sem]) rfl ⟨(_,a1,0),jw.ok ?_ h1,rfl,rfl⟩;rfl
 .simp only[go_sem];refine yZ (MD h1 hb) ⟨by decide,by decide⟩ (λ_=>rfl) (by simp) rfl (λ_=>rfl) (by rfl) ?_;rintro⟨⟨k,v,x⟩,a2,e2⟩ ⟨p1,p2⟩;replace p1:a2<=b.length:=p1;rcases p2 with⟨q,k2,q1,q2⟩|⟨e,q1,he,q2,q3⟩
  .cases q2;simp only[go_sem];refine aH (aU true b a2 0) ?_;refine bS (Wk.nlm _ 2 (r':=aS {z0 with op:=op,k:=k,v:=v,x:=x}) rfl (Av ..)) [] (di {z0 with op:=op,k:=k,v:=v,x:=x}) [(1000,ro true b a2 0)] (by simp only[go_sem,aS]) (by simp only[go_sem]) rfl ⟨(_,a2,0),jw.ok ?_ p1,rfl,rfl⟩;simp only[gM,q1];rfl
  .obtain rfl:e2=e:=q3;cases q2;simp only[go_sem];refine ae (aU true b a2 e2) ?_;simp only[go_sem,vI he];refine bS (Wk.nlm _ 2 (r':=aS z0) rfl (Av ..)) [] (di z0) [(1000,ro true b a2 e2)] (by simp only[go_sem,aS]) (by simp only[go_sem]) rfl ⟨(z0,a2,e2),jw.er ?_ he p1,rfl,rfl⟩;simp only[gM,q1];rfl
 rotate_left
 .simp only[go_sem];refine ae (Iu true b a1 0 64 h1 hb) ?_;simp only[go_sem,nK]
  refine an (λq:Nat×List Int×Nat×Int=>⟨[(5,.int .i64 (((cA true b a1 0 64).1:Int)-q.1)),(3,.mp 3 9 0 0),(2,.mp 2 9 0 0),(0,.mp 1000 4 0 0)],
    [(900,⟨3,1,q.2.1.map oE,false⟩),(3,⟨58,9,[[.int .i64 op,.int .i64 0,.int .i64 0,.int .u64 0,.int .i64 0,.int .i64 0,.int .i64 0,.nl,.ms 900 1 0 q.1]],true⟩),(2,⟨58,9,[[.int .i64 0,.int .i64 0,.int .i64 0,.int .u64 0,.int .i64 0,.int .i64 0,.int .i64 0,.nl,.nl]],true⟩),(1000,ro true b q.2.2.1 q.2.2.2)]⟩)
   (λq=>q.1<=64/\q.2.1.length=q.1/\q.2.2.1<=b.length/\((∃n k,gC b a1 64 = .ok (n,k)/\(cA true b a1 0 64).1=n/\n<=64/\LI b n k q)\/((cA true b a1 0 64).1=0/\q.1=0/\q.2.2.2≠0/\gC b a1 64 = .error (q.2.2.2,q.2.2.1))))
   (λq=>64-q.1) (0,[],(cA true b a1 0 64).2.1,(cA true b a1 0 64).2.2) ?_
   ((Wk.new0 _ 900 1 3 (by decide)).trans ((Wk.nlm _ 3 (t:=58) (st:=9) (r:=[.int .i64 op,.int .i64 0,.int .i64 0,.int .u64 0,.int .i64 0,.int .i64 0,.int .i64 0,.nl,.nl]) (r':=[.int .i64 op,.int .i64 0,.int .i64 0,.int .u64 0,.int .i64 0,.int .i64 0,.int .i64 0,.nl,.ms 900 1 0 0]) (by simp only[go_sem]) ⟨.inl rfl,.inl rfl,.inl rfl,.inl rfl,.inl rfl,.inl rfl,.inl rfl,.inl rfl,.inr ⟨rfl,.inr ⟨900,1,rfl⟩⟩,trivial⟩).trans (Wk.of ?_ ?_))) ?_
  .rcases DR 64 h1 with⟨n,k,g1,g2,g3,g4,g5⟩|⟨e,he,g1,g2⟩
   .rw[g2];exact⟨(by decide:0<=64),rfl,g5,.inl ⟨n,k,g1,rfl,by omega,cQ _,rfl,g5,.inl ⟨rfl,by rw[Yt];rfl⟩⟩⟩
   .rw[g2];exact⟨(by decide:0<=64),rfl,h1,.inr ⟨rfl,rfl,he,g1⟩⟩
  .simp only[go_sem];try simp[go_sem]
  .simp only[go_sem];try simp[go_sem]
  rintro⟨i,l,a2,e2⟩ ⟨hi2,hl,ha2,hq⟩;simp only at hi2 hl ha2 hq;generalize hN:(cA true b a1 0 64).1=N at hq;by_cases hlt:(N:Int)-(i:Int)>0
  .have hi3:i<N:=by omega
   have e9:IntKind.i64.wrap ((N:Int)-(i:Int)-1)=(N:Int)-((i+1:Nat):Int):=by rw[wi (by omega) (by omega)];omega
   have happ:=λys=>bX 900 3 1 i oE l ys hl;simp only[go_sem,aL hlt];refine Wr (fv true b a2 e2 ha2 hb) ⟨by decide,by decide⟩ rfl (by simp[go_sem]) rfl rfl (by rfl) (by exact List.Mem.head _) ?_;rcases hq with⟨n,k,q1,q2,q3,q4⟩|⟨q2,q3,q4,q5⟩
   rotate_left
   .omega
   subst q2;by_cases he1:e2=0
   .subst he1;rcases vm ha2 with⟨x,k1,g1,g2,g3,g4⟩|⟨e,he,g1,g2⟩
    .simp only[go_sem,nK,g2,happ];refine⟨by omega,aE (i+1,l++[(x:Int)],k1,0) ⟨by omega,by simp;omega,g4,.inl ⟨N,k,q1,rfl,q3,aes q4 hi3 g4 g1⟩⟩ (show 64-(i+1)<64-i by omega) (Wk.of ?_ ?_)⟩
     .simp only[go_sem,e9]
     .simp only[go_sem]
      try simp[dm]
    .simp only[go_sem,nK,g2,happ];refine⟨by omega,aE (i+1,l++[0],a2,e) ⟨by omega,by simp;omega,ha2,.inl ⟨N,k,q1,rfl,q3,aeq q4 hi3 he g1⟩⟩ (show 64-(i+1)<64-i by omega) (Wk.of ?_ ?_)⟩
     .simp only[go_sem,e9]
     .simp only[go_sem]
      try simp[dm]
   .simp only[go_sem,pw he1,bW,BW,happ];refine⟨by omega,aE (i+1,l++[0],a2,e2) ⟨by omega,by simp;omega,ha2,.inl ⟨N,k,q1,rfl,q3,aer q4 he1 hi3⟩⟩ (show 64-(i+1)<64-i by omega) (Wk.of ?_ ?_)⟩
    .simp only[go_sem,e9]
    .simp only[go_sem]
     try simp[dm]
  .have hge:N<=i:=by omega
   simp only[go_sem,aM hlt];refine ae (fv true b a2 e2 ha2 hb) ?_;have nlx:∀x:Int,nlm [.int .i64 op,.int .i64 x,.int .i64 0,.int .u64 0,.int .i64 0,.int .i64 0,.int .i64 0,.nl,.ms 900 1 0 i] [.int .i64 op,.int .i64 x,.int .i64 0,.int .u64 0,.int .i64 0,.int .i64 0,.int .i64 0,.sl 1 [],.ms 900 1 0 i]:=λx=>nl8 ..;by_cases he1:e2=0
   .subst he1;rcases hq with⟨n,k,q1,q2,q3,q4⟩|⟨_,_,q4,_⟩
    rotate_left
    .exact absurd rfl q4
    subst q2;obtain rfl:i=N:=Nat.le_antisymm q4.1 hge;rcases QM q4 with⟨_,q5⟩|⟨q5,_⟩
    rotate_left
    .exact absurd rfl q5
    rcases vm ha2 with⟨x,k1,g1,g2,g3,g4⟩|⟨e,he,g1,g2⟩
    .simp only[go_sem,nK,g2];refine aH (aU true b k1 0) ?_;refine bS (Wk.nlm _ 2 rfl (nlx x)) [900] (di {z0 with op:=op,a:=x,lb:=l}) [(1000,ro true b k1 0)] ?_ (by simp only[go_sem]) rfl ⟨(_,k1,0),jw.ok ?_ g4,rfl,rfl⟩
     .simp only[go_sem,cU,hl,bG];rw[dQ (by rw[cU];omega)];rfl
     .simp only[gM,q1,q5,g1];rfl
    .simp only[go_sem,nK,g2];refine ae (aU true b a2 e) ?_;simp only[go_sem,vI he];refine bS (Wk.nlm _ 2 (r':=aS z0) rfl (Av ..)) [] (di z0) [(1000,ro true b a2 e)] (by simp only[go_sem,aS]) (by simp only[go_sem]) rfl ⟨(z0,a2,e),jw.er ?_ he ha2,rfl,rfl⟩;simp only[gM,q1,q5,g1];rfl
   .have hE:gM 3 b a1 = .error (e2,a2):=by
     rcases hq with⟨n,k,q1,q2,q3,q4⟩|⟨_,_,_,q4⟩
     .subst q2;obtain rfl:i=N:=Nat.le_antisymm q4.1 hge;rcases QM q4 with⟨q5,_⟩|⟨_,q5⟩
      .exact absurd q5 he1
      .simp only[gM,q1,q5];rfl
     .simp only[gM,q4];rfl
    simp only[go_sem,pw he1,bW,BW];refine ae (aU true b a2 e2) ?_;simp only[go_sem,vI he1];refine bS (Wk.nlm _ 2 (r':=aS z0) rfl (Av ..)) [] (di z0) [(1000,ro true b a2 e2)] (by simp only[go_sem,aS]) (by simp only[go_sem]) rfl ⟨(z0,a2,e2),jw.er ?_ he1 ha2,rfl,rfl⟩;rw[hE];rfl
 rotate_left;rotate_left
 .simp only[go_sem];refine ae (fv true b a1 0 h1 hb) ?_;rcases vm h1 with⟨x,k,g1,g2,g3,g4⟩|⟨e,he,g1,g2⟩
  .by_cases hx:x=1
   .subst hx;have d:(((1:Nat):Int) != 1)=false:=rfl;simp only[go_sem,nK,g2,d];refine yZ (D6 g4 hb) ⟨by decide,by decide⟩ (λ_=>rfl) (by simp) rfl (λ_=>rfl) (by rfl) ?_;rintro⟨t,a2,e2⟩ ⟨p1,p2⟩;replace p1:a2<=b.length:=p1;rcases p2 with⟨q,k2,q1,q2⟩|⟨e,q1,he,q2,q3⟩
    .cases q2;simp only[go_sem];refine aH (aU true b a2 0) ?_;refine bS (Wk.nlm _ 2 rfl (nl7 ..)) [80] (di {z0 with op:=op,ty:=[t]}) [(1000,ro true b a2 0)] ?_ (by simp only[go_sem]) rfl ⟨(_,a2,0),jw.ok ?_ p1,rfl,rfl⟩
     .simp only[go_sem];rfl
     .simp only[gM,g1,q1];rfl
    .obtain rfl:e2=e:=q3;cases q2;simp only[go_sem];refine ae (aU true b a2 e2) ?_;simp only[go_sem,vI he];refine bS (Wk.nlm _ 2 (r':=aS z0) rfl (Av ..)) [] (di z0) [(1000,ro true b a2 e2)] (by simp only[go_sem,aS]) (by simp only[go_sem]) rfl ⟨(z0,a2,e2),jw.er ?_ he p1,rfl,rfl⟩;simp only[gM,g1,q1];rfl
   .have d:((x:Int) != 1)=true:=by simp;omega
    simp only[go_sem,nK,g2,d];refine aH (cI b k 4) ?_;refine aH (ya g4 hb (show(4:Int)≠0 by decide)) ?_;refine aH (aU true b k 4) ?_;refine bS (Wk.nlm _ 2 (r':=aS z0) rfl (Av ..)) [] (di z0) [(1000,ro true b k 4)] (by simp only[go_sem,aS]) (by simp only[go_sem]) rfl ⟨(z0,k,4),jw.er ?_ (by decide) g4,rfl,rfl⟩;simp only[gM,g1,hx];rfl
  .have d:(((0:Nat):Int) != 1)=true:=rfl;simp only[go_sem,nK,g2,d];refine ae (D5 true b a1 e 4) ?_;simp only[go_sem,pw he,bW];refine aH (ya h1 hb he) ?_;refine ae (aU true b a1 e) ?_;simp only[go_sem,vI he];refine bS (Wk.nlm _ 2 (r':=aS z0) rfl (Av ..)) [] (di z0) [(1000,ro true b a1 e)] (by simp only[go_sem,aS]) (by simp only[go_sem]) rfl ⟨(z0,a1,e),jw.er ?_ he h1,rfl,rfl⟩;simp only[gM,g1];rfl
 rotate_left;rotate_left;rotate_left;rotate_left;rotate_left;rotate_left
 .simp only[go_sem];refine ae (fv true b a1 0 h1 hb) ?_;rcases vm h1 with⟨x,k,g1,g2,g3,g4⟩|⟨e,he,g1,g2⟩
  .simp only[go_sem,nK,g2];refine aH (aU true b k 0) ?_;refine bS (Wk.nlm _ 2 (r':=aS {z0 with op:=op,b:=x}) rfl (Av ..)) [] (di {z0 with op:=op,b:=x}) [(1000,ro true b k 0)] (by simp only[go_sem,aS]) (by simp only[go_sem]) rfl ⟨(_,k,0),jw.ok ?_ g4,rfl,rfl⟩;simp only[gM,g1];rfl
  .simp only[go_sem,nK,g2];refine ae (aU true b a1 e) ?_;simp only[go_sem,vI he];refine bS (Wk.nlm _ 2 (r':=aS z0) rfl (Av ..)) [] (di z0) [(1000,ro true b a1 e)] (by simp only[go_sem,aS]) (by simp only[go_sem]) rfl ⟨(z0,a1,e),jw.er ?_ he h1,rfl,rfl⟩;simp only[gM,g1];rfl
 rotate_left;rotate_left;rotate_left
 .simp only[go_sem];refine Wi (MC h1 hb op) ⟨by decide,by decide⟩ ⟨by decide,by decide⟩ (by decide) (λ_=>rfl) rfl rfl (λ_=>rfl) (λ_=>rfl) (by rfl) (by rfl) ?_;rintro⟨⟨x,y,z⟩,a2,e2⟩ ⟨p1,p2⟩;replace p1:a2<=b.length:=p1;rcases p2 with⟨q,k2,q1,q2⟩|⟨e,q1,he,_,q3⟩
  .cases q2;simp only[go_sem];refine aH (aU true b a2 0) ?_;refine bS (Wk.nlm _ 2 (r':=aS {z0 with op:=op,a:=x,b:=y,n:=z}) rfl (Av ..)) [] (di {z0 with op:=op,a:=x,b:=y,n:=z}) [(1000,ro true b a2 0)] (by simp only[go_sem,aS]) (by simp only[go_sem]) rfl ⟨(_,a2,0),jw.ok ?_ p1,rfl,rfl⟩;simp only[gM,q1];rfl
  .obtain rfl:e2=e:=q3;simp only[go_sem];refine ae (aU true b a2 e2) ?_;simp only[go_sem,vI he];refine bS (Wk.nlm _ 2 (r':=aS z0) rfl (Av ..)) [] (di z0) [(1000,ro true b a2 e2)] (by simp only[go_sem,aS]) (by simp only[go_sem]) rfl ⟨(z0,a2,e2),jw.er ?_ he p1,rfl,rfl⟩;simp only[gM,q1];rfl
 .simp only[go_sem];refine ae (agF true b a1 0 h1 hb) ?_;rcases acQ 32 h1 with⟨x,k,g1,g2,g4⟩|⟨e,he,g1,g2⟩
  .simp only[go_sem,nK,g2];refine aH (aU true b k 0) ?_;refine bS (Wk.nlm _ 2 (r':=aS {z0 with op:=op,n:=IntKind.u64.wrap (IntKind.u32.wrap x)}) rfl (Av ..)) [] (di {z0 with op:=op,n:=IntKind.u64.wrap (IntKind.u32.wrap x)}) [(1000,ro true b k 0)] (by simp only[go_sem,aS]) (by simp only[go_sem]) rfl ⟨(_,k,0),jw.ok ?_ g4,rfl,rfl⟩;simp only[gM,g1];rfl
  .simp only[go_sem,nK,g2];refine ae (aU true b a1 e) ?_;simp only[go_sem,vI he];refine bS (Wk.nlm _ 2 (r':=aS z0) rfl (Av ..)) [] (di z0) [(1000,ro true b a1 e)] (by simp only[go_sem,aS]) (by simp only[go_sem]) rfl ⟨(z0,a1,e),jw.er ?_ he h1,rfl,rfl⟩;simp only[gM,g1];rfl
 .simp only[go_sem];refine ae (agH true b a1 0 h1 hb) ?_;rcases acQ 64 h1 with⟨x,k,g1,g2,g4⟩|⟨e,he,g1,g2⟩
  .simp only[go_sem,nK,g2];refine aH (aU true b k 0) ?_;refine bS (Wk.nlm _ 2 (r':=aS {z0 with op:=op,n:=IntKind.u64.wrap x}) rfl (Av ..)) [] (di {z0 with op:=op,n:=IntKind.u64.wrap x}) [(1000,ro true b k 0)] (by simp only[go_sem,aS]) (by simp only[go_sem]) rfl ⟨(_,k,0),jw.ok ?_ g4,rfl,rfl⟩;simp only[gM,g1];rfl
  .simp only[go_sem,nK,g2];refine ae (aU true b a1 e) ?_;simp only[go_sem,vI he];refine bS (Wk.nlm _ 2 (r':=aS z0) rfl (Av ..)) [] (di z0) [(1000,ro true b a1 e)] (by simp only[go_sem,aS]) (by simp only[go_sem]) rfl ⟨(z0,a1,e),jw.er ?_ he h1,rfl,rfl⟩;simp only[gM,g1];rfl
 .simp only[go_sem];refine yZ (D6 h1 hb) ⟨by decide,by decide⟩ (λ_=>rfl) (by simp) rfl (λ_=>rfl) (by rfl) ?_;rintro⟨t,a2,e2⟩ ⟨p1,p2⟩;replace p1:a2<=b.length:=p1;rcases p2 with⟨q,k2,q1,q2⟩|⟨e,q1,he,q2,q3⟩
  .cases q2;by_cases ht:t=3\/t=4
   .rcases ht with rfl|rfl
    .simp only[go_sem];refine aH (aU true b a2 0) ?_;refine bS (Wk.nlm _ 2 (r':=aS {z0 with op:=op,a:=3}) rfl (Av ..)) [] (di {z0 with op:=op,a:=3}) [(1000,ro true b a2 0)] (by simp only[go_sem,aS]) (by simp only[go_sem]) rfl ⟨(_,a2,0),jw.ok ?_ p1,rfl,rfl⟩;simp only[gM,q1];rfl
    .simp only[go_sem];refine aH (aU true b a2 0) ?_;refine bS (Wk.nlm _ 2 (r':=aS {z0 with op:=op,a:=4}) rfl (Av ..)) [] (di {z0 with op:=op,a:=4}) [(1000,ro true b a2 0)] (by simp only[go_sem,aS]) (by simp only[go_sem]) rfl ⟨(_,a2,0),jw.ok ?_ p1,rfl,rfl⟩;simp only[gM,q1];rfl
   .have d3:(t != 3)=true:=by simp;omega
    have d4:(t != 4)=true:=by simp;omega
    simp only[go_sem,d3,d4];refine aH (cI b a2 12) ?_;refine aH (aU true b a2 12) ?_;refine bS (Wk.nlm _ 2 (r':=aS z0) rfl (Av ..)) [] (di z0) [(1000,ro true b a2 12)] (by simp only[go_sem,aS]) (by simp only[go_sem]) rfl ⟨(z0,a2,12),jw.er ?_ (by decide) p1,rfl,rfl⟩;simp only[gM,q1,au ht];rfl
  .obtain rfl:e2=e:=q3;obtain rfl:t=0:=q2;simp only[go_sem];refine ae (D5 true b a2 e2 12) ?_;simp only[go_sem,pw he,bW];refine ae (aU true b a2 e2) ?_;simp only[go_sem,vI he];refine bS (Wk.nlm _ 2 (r':=aS z0) rfl (Av ..)) [] (di z0) [(1000,ro true b a2 e2)] (by simp only[go_sem,aS]) (by simp only[go_sem]) rfl ⟨(z0,a2,e2),jw.er ?_ he p1,rfl,rfl⟩;simp only[gM,q1];rfl
 all_goals
  first
  | skip
    simp only[go_sem];refine ae (fv true b a1 0 h1 hb) ?_;rcases vm h1 with⟨x,k,g1,g2,g3,g4⟩|⟨e,he,g1,g2⟩
    .simp only[go_sem,nK,g2];refine aH (aU true b k 0) ?_;refine bS (Wk.nlm _ 2 (r':=aS {z0 with op:=op,a:=x}) rfl (Av ..)) [] (di {z0 with op:=op,a:=x}) [(1000,ro true b k 0)] (by simp only[go_sem,aS]) (by simp only[go_sem]) rfl ⟨(_,k,0),jw.ok ?_ g4,rfl,rfl⟩;simp only[gM,g1];rfl
    .simp only[go_sem,nK,g2];refine ae (aU true b a1 e) ?_;simp only[go_sem,vI he];refine bS (Wk.nlm _ 2 (r':=aS z0) rfl (Av ..)) [] (di z0) [(1000,ro true b a1 e)] (by simp only[go_sem,aS]) (by simp only[go_sem]) rfl ⟨(z0,a1,e),jw.er ?_ he h1,rfl,rfl⟩;simp only[gM,g1];rfl
  | skip
    simp only[go_sem];refine ae (fv true b a1 0 h1 hb) ?_;rcases vm h1 with⟨x,k,g1,g2,g3,g4⟩|⟨e,he,g1,g2⟩
    .simp only[go_sem,nK,g2];refine ae (fv true b k 0 g4 hb) ?_;rcases vm g4 with⟨y,k1,p1,p2,p3,p4⟩|⟨e,he,p1,p2⟩
     .simp only[go_sem,nK,p2];refine aH (aU true b k1 0) ?_;refine bS (Wk.nlm _ 2 (r':=aS {z0 with op:=op,a:=x,b:=y}) rfl (Av ..)) [] (di {z0 with op:=op,a:=x,b:=y}) [(1000,ro true b k1 0)] (by simp only[go_sem,aS]) (by simp only[go_sem]) rfl ⟨(_,k1,0),jw.ok ?_ p4,rfl,rfl⟩;simp only[gM,g1,p1];rfl
     .simp only[go_sem,nK,p2];refine ae (aU true b k e) ?_;simp only[go_sem,vI he];refine bS (Wk.nlm _ 2 (r':=aS z0) rfl (Av ..)) [] (di z0) [(1000,ro true b k e)] (by simp only[go_sem,aS]) (by simp only[go_sem]) rfl ⟨(z0,k,e),jw.er ?_ he g4,rfl,rfl⟩;simp only[gM,g1,p1];rfl
    .simp only[go_sem,nK,g2];refine ae (fv true b a1 e h1 hb) ?_;simp only[go_sem,pw he,bW,BW];refine ae (aU true b a1 e) ?_;simp only[go_sem,vI he];refine bS (Wk.nlm _ 2 (r':=aS z0) rfl (Av ..)) [] (di z0) [(1000,ro true b a1 e)] (by simp only[go_sem,aS]) (by simp only[go_sem]) rfl ⟨(z0,a1,e),jw.er ?_ he h1,rfl,rfl⟩;simp only[gM,g1];rfl
end
open Go Go.Mw
