import Derived.Test.YthhglklcaodfmaaGreatDoorCQb
import Derived.ProofKit
import Derived.OpenShut
import Derived.JoinedCond
import Derived.RangeFuncFrom
import Derived.RangeFuncLeaves
import Derived.RangeFuncCalls
set_option linter.all false
namespace Go.Mw
def av{α:Type}[Inhabited α](l:List α)(i:Nat):α:=l[i]!
def aY{α:Type}[Inhabited α]{l:List α}{i:Nat}(h:i<l.length):av l i=l[i]:=getElem!_pos l i h
def md{α:Type}[Inhabited α]{l:List α}{i:Nat}(h:i<l.length):l[i]?=some (av l i):=by rw[aY h];exact kS h
def Jt{α:Type}[Inhabited α]{l:List α}{i:Nat}{x:α}(h:i<l.length):av (l.set i x) i=x:=by rw[aY (by simpa using h)];simp
def HE{α:Type}[Inhabited α]{l m:List α}{i:Nat}(h:i<l.length):av (l++m) i=av l i:=by
 rw[aY h,aY (by simp;omega),List.getElem_append_left h]
def LR{α:Type}[Inhabited α]{l m:List α}{x:α}:av (l++x::m) l.length=x:=by
 simp[av]
def Js{α β:Type}[Inhabited α][Inhabited β]{l:List α}{f:α->β}{i:Nat}(h:i<l.length):av (l.map f) i=f (av l i):=by
 rw[aY h,aY (by simpa using h),List.getElem_map]
def LT{α:Type}[Inhabited α]{l:List α}{i k:Nat}(h:i<k):av (l.take k) i=av l i:=by
 unfold av;rw[Qj,Qj,List.getElem?_take_of_lt h]
def LS{α:Type}[Inhabited α]{l:List α}{i k:Nat}:av (l.drop k) i=av l (k+i):=by
 unfold av;rw[Qj,Qj,J1]
section
variable{P:Program}[bE P]
def aal(P:Program)[bE P](y:bC)(K:IX->St->Prop)(e:IX)(s:St):Prop :=
 match e with
 | .nrm=>lz P y s K
 | e=>K e s
def ais(P:Program)[bE P](y:bC)(K:IX->St->Prop)(e:IX)(s:St):Prop :=
 match e with
 | .nrm=>∃s',Wk s s'/\lz P y s' K
 | e=>K e s
def aaf(id:Nat)(K:IX->St->Prop)(e:IX)(s:St):Prop :=
 match e with
 | .ext j=>if j=id then K .nrm s else K (.ext j) s
 | e=>K e s
def NF(dr:List Nat)(K:IX->St->Prop)(s:St):Prop:=K .nrm ⟨dels dr s.env,s.heap⟩
def aak(P:Program)[bE P](r:List bH)(K:St->Prop)(s:St):Prop:=jR P r s K
def Pl(P:Program)[bE P](al:List (Nat×Nat))(i:Nat)(r:List aJ)(K:St->Prop)(hist:List HI)(s:St):Prop:=jk P al i r hist s K
def J4(K:St->Prop)(s:St)(d:Option Nat)(v:AV)(e:bD):Prop:=K ((s.eff e).put d v)
def zw(al:List (Nat×Nat))(i:Nat)(bf:List Nat)(op:ln)(hist:List HI)(K:List HI->St->Prop)(s:St)(d:Option Nat)(v:AV)(e:bD):Prop :=
 fz op s e=true/\iT bf (@HI.mk i (cY op s.env) (aV v++e.ids) e.tch e.isReb e.isPut (AS op)) hist=true/\zF al bf (@HI.mk i (cY op s.env) (aV v++e.ids) e.tch e.isReb e.isPut (AS op))=true /\
  K ((@HI.mk i (cY op s.env) (aV v++e.ids) e.tch e.isReb e.isPut (AS op))::hist) ((s.eff e).put d v)
def dj(K:AV->bD->Prop)(x:Option (AV×bD)):Prop :=
 match x with
 | some (v,e)=>K v e
 | none=>False
def XG(A:Prop)(K:AV->bD->Prop)(x:Option (AV×bD)):Prop :=
 match x with
 | some (v,e)=>K v e
 | none=>A
def Ye(x:AV)(a b:Prop):Prop :=
 match x with
 | .bool t=>(t=true->a)/\(t=false->b)
 | _=>False
def Nu(x:AV)(a b c:Prop):Prop :=
 match x with
 | .bool t=>(t=true->a)/\(t=false->b)
 | .tup []=>c
 | _=>False
def ae1(y:bC)(K:IX->St->Prop)(s:St):aal P y K .nrm s=lz P y s K:=bS rfl
def ae2(y:bC)(K:IX->St->Prop)(s:St):aal P y K .ret s=K .ret s:=bS rfl
def ae3(y:bC)(K:IX->St->Prop)(j:Nat)(s:St):aal P y K (.ext j) s=K (.ext j) s:=bS rfl
def aeV{y:bC}{K:IX->St->Prop}{s:St}(s':St)(h:Wk s s')(hi:lz P y s' K):ais P y K .nrm s:=⟨s',h,hi⟩
def aeS(id:Nat)(K:IX->St->Prop)(s:St):aaf id K .nrm s=K .nrm s:=bS rfl
def aeT(id:Nat)(K:IX->St->Prop)(s:St):aaf id K .ret s=K .ret s:=bS rfl
def aeU(id j:Nat)(K:IX->St->Prop)(s:St):aaf id K (.ext j) s=if j=id then K .nrm s else K (.ext j) s:=bS rfl
def ae0(dr:List Nat)(K:IX->St->Prop)(s:St):NF dr K s=K .nrm ⟨dels dr s.env,s.heap⟩:=bS rfl
def aeZ(r:List bH)(K:St->Prop)(s:St):aak P r K s=jR P r s K:=bS rfl
def aag(al:List (Nat×Nat))(i:Nat)(r:List aJ)(K:St->Prop)(hist:List HI)(s:St):Pl P al i r K hist s=jk P al i r hist s K:=bS rfl
def aiv(K:St->Prop)(s:St)(d:Option Nat)(v:AV)(e:bD):J4 K s d v e=K ((s.eff e).put d v):=bS rfl
def aeW(al:List (Nat×Nat))(i:Nat)(bf:List Nat)(op:ln)(hist:List HI)(K:List HI->St->Prop)(s:St)(d:Option Nat)(v:AV)(e:bD):zw al i bf op hist K s d v e =
 (fz op s e=true/\iT bf (@HI.mk i (cY op s.env) (aV v++e.ids) e.tch e.isReb e.isPut (AS op)) hist=true/\zF al bf (@HI.mk i (cY op s.env) (aV v++e.ids) e.tch e.isReb e.isPut (AS op))=true /\
  K ((@HI.mk i (cY op s.env) (aV v++e.ids) e.tch e.isReb e.isPut (AS op))::hist) ((s.eff e).put d v)):=rfl
def Oq(K:AV->bD->Prop)(v:AV)(e:bD):dj K (some (v,e))=K v e:=bS rfl
def Ot(A:Prop)(K:AV->bD->Prop)(v:AV)(e:bD):XG A K (some (v,e))=K v e:=bS rfl
def Or(A:Prop)(K:AV->bD->Prop):XG A K none=A:=bS rfl
def Se(K:AV->bD->Prop)(c:Prop)[Decidable c](x:Option (AV×bD)):dj K (if c then x else none)=(c/\dj K x):=by
 by_cases h:c<;>simp[h,dj]
def Oo(K:AV->bD->Prop)(c:Prop)[Decidable c](x:Option (AV×bD)):dj K (if c then none else x)=(¬c/\dj K x):=by
 by_cases h:c<;>simp[h,dj]
def ajw(v:AV):res (some v)=some (v,.no):=rfl
def agl(c:Prop)[Decidable c](x:Option AV):res (if c then x else none)=if c then res x else none:=by split<;>rfl
def abp(c:Prop)[Decidable c](x:Option AV):res (if c then none else x)=if c then none else res x:=by split<;>rfl
def XK(t:Bool)(a b:Prop):Ye (.bool t) a b=((t=true->a)/\(t=false->b)):=bS rfl
@[congr] theorem aha{x x':AV}{a b:Prop}(h:x=x'):Ye x a b=Ye x' a b:=by rw[h]
def ac6(a b:Prop):Ye (.bool true) a b=a:=by simp[Ye]
def Um(t:Bool)(a b c:Prop):Nu (.bool t) a b c=((t=true->a)/\(t=false->b)):=rfl
@[congr] theorem ag4{x x':AV}{a b c:Prop}(h:x=x'):Nu x a b c=Nu x' a b c:=by rw[h]
def aeu(a b c:Prop):Nu (.bool true) a b c=a:=by simp[Nu]
def aet(a b c:Prop):Nu (.bool false) a b c=b:=by simp[Nu]
def aew(a b c:Prop):Nu (.tup []) a b c=c:=by simp[Nu]
def agI(a b:Prop):Ye (.bool true) a b=a:=ac6 a b
def ac5(a b:Prop):Ye (.bool false) a b=b:=by simp[Ye]
def U9(s:St)(K:IX->St->Prop):lz P .skip s K=K .nrm s:=bS rfl
def Z6(s:St)(K:IX->St->Prop):lz P .ret s K=K .ret s:=bS rfl
def U7(id:Nat)(s:St)(K:IX->St->Prop):lz P (.exit id) s K=K (.ext id) s:=bS rfl
def Z7(x y:bC)(s:St)(K:IX->St->Prop):lz P (.seq x y) s K=lz P x s (aal P y K):=bS rfl
def Z4(x y:bC)(s:St)(K:IX->St->Prop):lz P (.cut x y) s K=lz P x s (ais P y K):=bS rfl
def Rm(id:Nat)(x:bC)(s:St)(K:IX->St->Prop):lz P (.block id x) s K=lz P x s (aaf id K):=bS rfl
def U5(v:IV)(t e:bC)(s:St)(K:IX->St->Prop):lz P (.cond v t e) s K=Ye (val (get s.env) v) (lz P t (refine v true s) K) (lz P e (refine v false s) K):=bS rfl
def Z5(ops:List bH)(dr:List Nat)(s:St)(K:IX->St->Prop):lz P (.reg ops dr) s K=jR P ops s (NF dr K):=bS rfl
def Pm(P:Program)[bE P](f:Nat)(R:List (Nat×aJ))(K:St->Prop)(s:St):Prop:=sD P f R s K
def aah(f:Nat)(R:List (Nat×aJ))(K:St->Prop)(s:St):Pm P f R K s=sD P f R s K:=bS rfl
def OY(P:Program)[bE P](f:Nat)(R:List (Nat×aJ))(s:St)(K:St->Prop)(t:Nat×aJ):Prop:=jR P [t.2.o] s (Pm P f (R.filter λq=>q.1 != t.1) K)
def Zo(f:Nat)(R:List (Nat×aJ))(s:St)(K:St->Prop)(i:Nat)(o:bH)(b:List Nat):OY P f R s K (i,⟨o,b⟩)=jR P [o] s (Pm P f (R.filter λq=>q.1 != i) K):=bS rfl
def ZH(R:List (Nat×aJ))(s:St)(K:St->Prop):sD P 0 R s K=K s:=bS rfl
def ZJ(f:Nat)(R:List (Nat×aJ))(s:St)(K:St->Prop):sD P (f+1) R s K=xo (rdy R) (OY P f R s K):=bS rfl
def Y6{α:Type}(x:α)(F:α->Prop):xo [x] F=F x:=bS rfl
def Y7{α:Type}(x y:α)(r:List α)(F:α->Prop):xo (x::y::r) F=(F x/\xo (y::r) F):=bS rfl
def U8(ops:List aJ)(al:List (Nat×Nat))(dr:List Nat)(s:St)(K:IX->St->Prop):lz P (.free ops al dr) s K=sD P ops.length (ops.zipIdx.map λp=>(p.2,p.1)) s (NF dr K):=bS rfl
def U6(ops:List aJ)(al:List (Nat×Nat))(dr:List Nat)(s:St)(K:IX->St->Prop):lz P (.draw ops al dr) s K=jk P al 0 ops [] (kills (al.map (·.1)) s) (NF dr K):=bS rfl
def U1(s:St)(K:St->Prop):jR P [] s K=K s:=bS rfl
def Rl(d:Option Nat)(op:ln)(r:List bH)(s:St)(K:St->Prop):jR P (⟨d,op,none⟩::r) s K=nW P ⟨d,op,none⟩ s (aak P r K):=bS rfl
def Ip(d:Option Nat)(op:ln)(k:Nat)(r:List bH)(s:St)(K:St->Prop):jR P (⟨d,op,some (k,true)⟩::r) s K =
  Nu (get s.env k) (nW P ⟨d,op,none⟩ (s.put (some k) (.bool true)) (aak P r K)) (jR P r ((s.put (some k) (.bool false)).put d (.tup [])) K) (jR P r (s.put d (.tup [])) K):=bS rfl
def Io(d:Option Nat)(op:ln)(k:Nat)(r:List bH)(s:St)(K:St->Prop):jR P (⟨d,op,some (k,false)⟩::r) s K =
  Nu (get s.env k) (jR P r ((s.put (some k) (.bool true)).put d (.tup [])) K) (nW P ⟨d,op,none⟩ (s.put (some k) (.bool false)) (aak P r K)) (jR P r (s.put d (.tup [])) K):=by
 simp only[jR,Nu];generalize get s.env k=x;cases x with
 | bool t=>exact propext ⟨λh=>⟨h.2,h.1⟩,λh=>⟨h.2,h.1⟩⟩
 | tup l=>cases l<;>rfl
 | _=>rfl
def Re(al:List (Nat×Nat))(i:Nat)(hist:List HI)(s:St)(K:St->Prop):jk P al i [] hist s K=K s:=bS rfl
def NB(al:List (Nat×Nat))(i:Nat)(d:Option Nat)(op:ln)(bf:List Nat)(r:List aJ)(hist:List HI)(s:St)(K:St->Prop) :
  jk P al i (⟨⟨d,op,none⟩,bf⟩::r) hist s K=fU P al i ⟨⟨d,op,none⟩,bf⟩ hist s (Pl P al (i+1) r K):=bS rfl
def FG(al:List (Nat×Nat))(i:Nat)(d:Option Nat)(op:ln)(k:Nat)(bf:List Nat)(r:List aJ)(hist:List HI)(s:St)(K:St->Prop) :
  jk P al i (⟨⟨d,op,some (k,true)⟩,bf⟩::r) hist s K=Nu (get s.env k) (fU P al i ⟨⟨d,op,none⟩,bf⟩ hist (s.put (some k) (.bool true)) (Pl P al (i+1) r K))
   (jk P al (i+1) r (⟨i,[],[],[],false,false⟩::hist) ((s.put (some k) (.bool false)).put d (.tup [])) K) (jk P al (i+1) r (⟨i,[],[],[],false,false⟩::hist) (s.put d (.tup [])) K):=bS rfl
def FE(al:List (Nat×Nat))(i:Nat)(d:Option Nat)(op:ln)(k:Nat)(bf:List Nat)(r:List aJ)(hist:List HI)(s:St)(K:St->Prop) :
  jk P al i (⟨⟨d,op,some (k,false)⟩,bf⟩::r) hist s K=Nu (get s.env k) (jk P al (i+1) r (⟨i,[],[],[],false,false⟩::hist) ((s.put (some k) (.bool true)).put d (.tup [])) K)
   (fU P al i ⟨⟨d,op,none⟩,bf⟩ hist (s.put (some k) (.bool false)) (Pl P al (i+1) r K)) (jk P al (i+1) r (⟨i,[],[],[],false,false⟩::hist) (s.put d (.tup [])) K):=by
 simp only[jk,gx,Nu];generalize get s.env k=x;cases x with
 | bool t=>exact propext ⟨λh=>⟨h.2,h.1⟩,λh=>⟨h.2,h.1⟩⟩
 | tup l=>cases l<;>rfl
 | _=>rfl
def OX(P:Program)[bE P](f:AV)(args:List AV)(d:Option Nat)(s:St)(K:St->Prop):Prop :=
 match f with
 | .fn f caps=>if f<4000000 then cy P f=true/\cO P f (args++caps) d s K else cy P (f-4000000)=true/\cO P (f-4000000) (caps.take 1++args++caps.drop 1) d s K
 | _=>False
def zl(f:FuncId)(caps args:List AV)(d:Option Nat)(s:St)(K:St->Prop):OX P (.fn f caps) args d s K=if f<4000000 then cy P f=true/\cO P f (args++caps) d s K else cy P (f-4000000)=true/\cO P (f-4000000) (caps.take 1++args++caps.drop 1) d s K:=bS rfl
def Nw(P:Program)[bE P](f:FuncId)(args:List AV)(i:Nat)(bf:List Nat)(op:ln)(d:Option Nat)(hist:List HI)(s:St)(K:List HI->St->Prop):Prop :=
 (∃args' r b,aj P f args' r/\(∀x∈args',aV x=[])/\bg (X1 b (ak s.heap)) args args'/\(b=true->oM r=true)/\aV r=[] /\
   fz op s .no=true/\iT bf ⟨i,cY op s.env,[],[],false,false⟩ hist=true/\K (⟨i,cY op s.env,[],[],false,false⟩::hist) (s.put d r)) \/
 ∃k ob ob' Sb r,bA P f args [(k,ob)] Sb (λr' σ'=>r'=r/\σ'=[(k,ob')])/\Sb k/\ak s.heap k=some ob/\aV r=[]/\fG ob'=[]/\k∈cY op s.env /\
   fz op s (.put k ob')=true/\iT bf ⟨i,cY op s.env,[],[k],false,true⟩ hist=true/\K (⟨i,cY op s.env,[],[k],false,true⟩::hist) ((s.eff (.put k ob')).put d r)
def Q9(al:List (Nat×Nat))(i:Nat)(d:Option Nat)(f:FuncId)(args:List IV)(g:Option (Nat×Bool))(bf:List Nat)(hist:List HI)(s:St)(K:List HI->St->Prop) :
  fU P al i ⟨⟨d,.call f args,g⟩,bf⟩ hist s K=Nw P f (args.map (val (get s.env))) i bf (.call f args) d hist s K:=bS rfl
def Bb(d:Nat)(t:TypeId)(st:Nat)(rows:List (List AV))(ps:List (Nat×IV))(g:Option (Nat×Bool))(s:St)(K:St->Prop):L0 ⟨some d,.bsl t st rows ps,g⟩ s K=dj (J4 K (s.kill d) (some d)) (cj d (.bsl t st rows ps) (val (get (s.kill d).env)) (ak (s.kill d).heap)):=bS rfl
def Ut(al:List (Nat×Nat))(i d:Nat)(t:TypeId)(st k:Nat)(y:IV)(g:Option (Nat×Bool))(bf:List Nat)(hist:List HI)(s:St)(K:List HI->St->Prop):fU P al i ⟨⟨some d,.app t st (.s k) y,g⟩,bf⟩ hist s K=dj (zw al i bf (.app t st (.s k) y) hist K s (some d)) (cj d (.app t st (.s k) y) (val (get s.env)) (ak s.heap)):=by
 refine propext ⟨λh=>?_,λh=>.inl h⟩;rcases h with h|⟨rows,h,_⟩
 .exact h
 .cases h
def Ny{al:List (Nat×Nat)}{i d:Nat}{t:TypeId}{st:Nat}{y:IV}{g:Option (Nat×Bool)}{bf:List Nat}{hist:List HI}{s:St}{K:List HI->St->Prop}(rows:List (List AV))(h1:cj d (.app t st (.c .nl) y) (val (get s.env)) (ak s.heap)=some (.ms d st 0 rows.length,.new d ⟨t,st,rows,false⟩))
  (h2:fz (.app t st (.c .nl) y) s .no=true) (h3:iT bf ⟨i,cY (.app t st (.c .nl) y) s.env,[],[],false,false⟩ hist=true) (h4:K (⟨i,cY (.app t st (.c .nl) y) s.env,[],[],false,false⟩::hist) (s.put (some d) (.sl st rows))):fU P al i ⟨⟨some d,.app t st (.c .nl) y,g⟩,bf⟩ hist s K :=
 .inr ⟨rows,rfl,h1,h2,h3,h4⟩
def KF{al:List (Nat×Nat)}{i d:Nat}{t:TypeId}{st:Nat}{x y:IV}{g:Option (Nat×Bool)}{bf:List Nat}{hist:List HI}{s:St}{K:List HI->St->Prop}(h:dj (zw al i bf (.app t st x y) hist K s (some d)) (cj d (.app t st x y) (val (get s.env)) (ak s.heap))):fU P al i ⟨⟨some d,.app t st x y,g⟩,bf⟩ hist s K:=.inl h
def RI(K:St->Prop)(s:St)(d:Option Nat)(n:Nat)(o:ln):Prop:=dj (J4 K s d) (cj n o (val (get s.env)) (ak s.heap))
def akt(K:St->Prop)(s:St)(d:Option Nat)(n:Nat)(o:ln):RI K s d n o=dj (J4 K s d) (cj n o (val (get s.env)) (ak s.heap)):=bS rfl
def RD(al:List (Nat×Nat))(i:Nat)(bf:List Nat)(hist:List HI)(K:List HI->St->Prop)(s:St)(d:Option Nat)(n:Nat)(o:ln):Prop:=dj (zw al i bf o hist K s d) (cj n o (val (get s.env)) (ak s.heap))
def aks(al:List (Nat×Nat))(i:Nat)(bf:List Nat)(hist:List HI)(K:List HI->St->Prop)(s:St)(d:Option Nat)(n:Nat)(o:ln):RD al i bf hist K s d n o=dj (zw al i bf o hist K s d) (cj n o (val (get s.env)) (ak s.heap)):=bS rfl
attribute[go_sem] akt aks
section
variable(g:Option (Nat×Bool))(s:St)(K:St->Prop)
def UQ(d:Option Nat)(f:FuncId)(args:List IV):nW P ⟨d,.call f args,g⟩ s K=cO P f (args.map (val (get s.env))) d s K:=bS rfl
def Ri(d:Option Nat)(f:IV)(args:List IV):nW P ⟨d,.callv f args,g⟩ s K=OX P (val (get s.env) f) (args.map (val (get s.env))) d s K:=bS rfl
def ZZ(d:Option Nat)(x:IV):nW P ⟨d,.mov x,g⟩ s K=RI K s d 0 (.mov x):=bS rfl
def UW(d:Option Nat)(c a b:IV):nW P ⟨d,.pick c a b,g⟩ s K=RI K s d 0 (.pick c a b):=bS rfl
def Rh(d:Option Nat)(cs:List AV)(ps:List (Nat×Nat×IV)):nW P ⟨d,.build cs ps,g⟩ s K=RI K s d 0 (.build cs ps):=bS rfl
def UT(d:Option Nat)(n:Option Nat)(p:IV):nW P ⟨d,.load n p,g⟩ s K=RI K s d 0 (.load n p):=bS rfl
def Rk(d:Option Nat)(n:Nat)(p x:IV):nW P ⟨d,.store n p x,g⟩ s K=RI K s d 0 (.store n p x):=bS rfl
def UR(d:Option Nat)(o:Nat)(p:IV):nW P ⟨d,.fadr o p,g⟩ s K=RI K s d 0 (.fadr o p):=bS rfl
def ZS(d:Option Nat)(o:Nat)(n:Option Nat)(x:IV):nW P ⟨d,.fld o n x,g⟩ s K=RI K s d 0 (.fld o n x):=bS rfl
def US(d:Option Nat)(st:Nat)(x q:IV):nW P ⟨d,.iadr st x q,g⟩ s K=RI K s d 0 (.iadr st x q):=bS rfl
def UO(d:Option Nat)(st n:Nat)(x q:IV):nW P ⟨d,.aadr st n x q,g⟩ s K=RI K s d 0 (.aadr st n x q):=bS rfl
def ZY(d:Option Nat)(m:Bool)(x y:IV):nW P ⟨d,.mnx m x y,g⟩ s K=RI K s d 0 (.mnx m x y):=bS rfl
def ZP(d:Option Nat)(st:Nat)(x y:IV):nW P ⟨d,.cpy st x y,g⟩ s K=RI K s d 0 (.cpy st x y):=bS rfl
def Z2(d:Option Nat)(st:Nat)(x:IV)(lo hi mx:Option IV):nW P ⟨d,.slc st x lo hi mx,g⟩ s K=RI K s d 0 (.slc st x lo hi mx):=bS rfl
def ZT(d:Option Nat)(x:IV):nW P ⟨d,.len x,g⟩ s K=RI K s d 0 (.len x):=bS rfl
def UZ(d:Option Nat)(x:IV):nW P ⟨d,.slen x,g⟩ s K=RI K s d 0 (.slen x):=bS rfl
def U0(d:Option Nat)(x:IV)(lo hi:Option IV):nW P ⟨d,.sslc x lo hi,g⟩ s K=RI K s d 0 (.sslc x lo hi):=bS rfl
def ZM(d:Option Nat)(o:BinOp)(x y:IV):nW P ⟨d,.bin o x y,g⟩ s K=RI K s d 0 (.bin o x y):=bS rfl
def UP(d:Option Nat)(o:BinOp)(x y:IV):nW P ⟨d,.bbin o x y,g⟩ s K=RI K s d 0 (.bbin o x y):=bS rfl
def UV(d:Option Nat)(o:BinOp)(x y:IV):nW P ⟨d,.pbin o x y,g⟩ s K=RI K s d 0 (.pbin o x y):=bS rfl
def UX(d:Option Nat)(o:BinOp)(ls:List LK)(x y:IV):nW P ⟨d,.sbin o ls x y,g⟩ s K=RI K s d 0 (.sbin o ls x y):=bS rfl
def aeK(d:Option Nat)(o:UnOp)(x:IV):nW P ⟨d,.un o x,g⟩ s K=RI K s d 0 (.un o x):=bS rfl
def ZQ(d:Option Nat)(k:IntKind)(x:IV):nW P ⟨d,.cvi k x,g⟩ s K=RI K s d 0 (.cvi k x):=bS rfl
def ZR(d:Option Nat)(x:IV)(q:Nat):nW P ⟨d,.ext x q,g⟩ s K=RI K s d 0 (.ext x q):=bS rfl
def UU(d:Option Nat)(x:IV):nW P ⟨d,.nchk x,g⟩ s K=RI K s d 0 (.nchk x):=bS rfl
def ZU(d:Option Nat)(f:FuncId)(cs:List IV):nW P ⟨d,.mkf f cs,g⟩ s K=RI K s d 0 (.mkf f cs):=bS rfl
def UY(d:Option Nat)(x q:IV):nW P ⟨d,.sidx x q,g⟩ s K=RI K s d 0 (.sidx x q):=bS rfl
def Z1(d:Nat)(t:TypeId)(cs:List AV):nW P ⟨some d,.new t cs,g⟩ s K=(d<1000/\dj (J4 K (s.kill d) (some d)) (cj d (.new t cs) (val (get (s.kill d).env)) (ak (s.kill d).heap))):=bS rfl
def ZN(d:Nat)(t:TypeId)(n:Nat)(x:IV):nW P ⟨some d,.box t n x,g⟩ s K=(d<1000/\dj (J4 K (s.kill d) (some d)) (cj d (.box t n x) (val (get (s.kill d).env)) (ak (s.kill d).heap))):=bS rfl
def ZO(d:Nat)(t:TypeId)(st:Nat)(rows:List (List AV))(ps:List (Nat×IV)):nW P ⟨some d,.bsl t st rows ps,g⟩ s K=(d<1000/\XG (TB ⟨some d,.bsl t st rows ps,g⟩ s K) (J4 K (s.kill d) (some d)) (cj d (.bsl t st rows ps) (val (get (s.kill d).env)) (ak (s.kill d).heap))):=bS rfl
def ZL(d:Nat)(t:TypeId)(st:Nat)(x y:IV):nW P ⟨some d,.app t st x y,g⟩ s K=(d<1000/\dj (J4 K (s.kill d) (some d)) (cj d (.app t st x y) (val (get (s.kill d).env)) (ak (s.kill d).heap))):=bS rfl
def ZW(d:Nat)(t:TypeId)(st:Nat)(z:List AV)(l c:IV):nW P ⟨some d,.mks t st z l c,g⟩ s K=(d<1000/\dj (J4 K (s.kill d) (some d)) (cj d (.mks t st z l c) (val (get (s.kill d).env)) (ak (s.kill d).heap))):=bS rfl
end
section
variable(al:List (Nat×Nat))(i:Nat)(g:Option (Nat×Bool))(bf:List Nat)(hist:List HI)(s:St)(K:List HI->St->Prop)
def UB(d:Option Nat)(x:IV):fU P al i ⟨⟨d,.mov x,g⟩,bf⟩ hist s K=RD al i bf hist K s d 0 (.mov x):=bS rfl
def Nx(d:Option Nat)(cs:List AV)(ps:List (Nat×Nat×IV)):fU P al i ⟨⟨d,.build cs ps,g⟩,bf⟩ hist s K=RD al i bf hist K s d 0 (.build cs ps):=bS rfl
def Rb(d:Option Nat)(n:Option Nat)(p:IV):fU P al i ⟨⟨d,.load n p,g⟩,bf⟩ hist s K=RD al i bf hist K s d 0 (.load n p):=bS rfl
def Nz(d:Option Nat)(n:Nat)(p x:IV):fU P al i ⟨⟨d,.store n p x,g⟩,bf⟩ hist s K=RD al i bf hist K s d 0 (.store n p x):=bS rfl
def Q_(d:Option Nat)(o:Nat)(p:IV):fU P al i ⟨⟨d,.fadr o p,g⟩,bf⟩ hist s K=RD al i bf hist K s d 0 (.fadr o p):=bS rfl
def Ra(d:Option Nat)(st:Nat)(x q:IV):fU P al i ⟨⟨d,.iadr st x q,g⟩,bf⟩ hist s K=RD al i bf hist K s d 0 (.iadr st x q):=bS rfl
def UD(d:Option Nat)(st:Nat)(x:IV)(lo hi mx:Option IV):fU P al i ⟨⟨d,.slc st x lo hi mx,g⟩,bf⟩ hist s K=RD al i bf hist K s d 0 (.slc st x lo hi mx):=bS rfl
def Uy(d:Option Nat)(x:IV):fU P al i ⟨⟨d,.len x,g⟩,bf⟩ hist s K=RD al i bf hist K s d 0 (.len x):=bS rfl
def Rd(d:Option Nat)(x:IV)(lo hi:Option IV):fU P al i ⟨⟨d,.sslc x lo hi,g⟩,bf⟩ hist s K=RD al i bf hist K s d 0 (.sslc x lo hi):=bS rfl
def Uu(d:Option Nat)(o:BinOp)(x y:IV):fU P al i ⟨⟨d,.bin o x y,g⟩,bf⟩ hist s K=RD al i bf hist K s d 0 (.bin o x y):=bS rfl
def Ux(d:Option Nat)(x:IV)(q:Nat):fU P al i ⟨⟨d,.ext x q,g⟩,bf⟩ hist s K=RD al i bf hist K s d 0 (.ext x q):=bS rfl
def Rc(d:Option Nat)(x:IV):fU P al i ⟨⟨d,.nchk x,g⟩,bf⟩ hist s K=RD al i bf hist K s d 0 (.nchk x):=bS rfl
def Uz(d:Option Nat)(f:FuncId)(cs:List IV):fU P al i ⟨⟨d,.mkf f cs,g⟩,bf⟩ hist s K=RD al i bf hist K s d 0 (.mkf f cs):=bS rfl
def UC(d:Nat)(t:TypeId)(cs:List AV):fU P al i ⟨⟨some d,.new t cs,g⟩,bf⟩ hist s K=RD al i bf hist K s (some d) d (.new t cs):=bS rfl
def Uv(d:Nat)(t:TypeId)(n:Nat)(x:IV):fU P al i ⟨⟨some d,.box t n x,g⟩,bf⟩ hist s K=RD al i bf hist K s (some d) d (.box t n x):=bS rfl
def Uw(d:Nat)(t:TypeId)(st:Nat)(rows:List (List AV))(ps:List (Nat×IV)):fU P al i ⟨⟨some d,.bsl t st rows ps,g⟩,bf⟩ hist s K=RD al i bf hist K s (some d) d (.bsl t st rows ps):=bS rfl
end
def adz(d:Nat)(x:IV)(ρ:IV->AV)(h:Nat->Option au):cj d (.mov x) ρ h=some (ρ x,.no):=rfl
def f_(c a b:AV):Option (AV×bD) :=
 match c with
 | .bool true=>some (a,.no)
 | .bool false=>some (b,.no)
 | _=>none
def YE(d:Nat)(c a b:IV)(ρ:IV->AV)(h:Nat->Option au):cj d (.pick c a b) ρ h=f_ (ρ c) (ρ a) (ρ b):=rfl
def aa4(a b:AV):f_ (.bool true) a b=some (a,.no):=rfl
def aa3(a b:AV):f_ (.bool false) a b=some (b,.no):=rfl
def adA(d:Nat)(t:TypeId)(cs:List AV)(ρ:IV->AV)(h:Nat->Option au):cj d (.new t cs) ρ h=some (.mp d cs.length 0 0,.new d ⟨t,cs.length,[cs],true⟩):=bS rfl
def ahE(d:Nat)(t:TypeId)(n:Nat)(x:Option (List AV)):Option (AV×bD) :=
 match x with
 | some cs=>if cs.length=n/\(cs.all λy=>!(mC d y))=true then some (.mp d n 0 0,.new d ⟨t,n,[cs],true⟩)else none
 | none=>none
def QA(d:Nat)(t:TypeId)(n:Nat)(cs:List AV):ahE d t n (some cs)=if cs.length=n/\(cs.all λy=>!(mC d y))=true then some (.mp d n 0 0,.new d ⟨t,n,[cs],true⟩)else none:=rfl
def adp(d:Nat)(t:TypeId)(n:Nat)(x:IV)(ρ:IV->AV)(h:Nat->Option au):cj d (.box t n x) ρ h=ahE d t n (jv (ρ x)):=bS rfl
def Tq(d:Nat)(cs:List AV)(ps:List (Nat×Nat×IV))(ρ:IV->AV)(h:Nat->Option au):cj d (.build cs ps) ρ h=res ((mw ρ cs ps).map .agg):=bS rfl
def adJ(d:Nat)(t:TypeId)(st:Nat)(x:Option (List (List AV))):Option (AV×bD) :=
 match x with
 | some rs=>some (.ms d st 0 rs.length,.new d ⟨t,st,rs,false⟩)
 | none=>none
def QB(d:Nat)(t:TypeId)(st:Nat):adJ d t st none=none:=rfl
def QC(d:Nat)(t:TypeId)(st:Nat)(rs:List (List AV)):adJ d t st (some rs)=some (.ms d st 0 rs.length,.new d ⟨t,st,rs,false⟩):=rfl
def adq(d:Nat)(t:TypeId)(st:Nat)(rows:List (List AV))(ps:List (Nat×IV))(ρ:IV->AV)(h:Nat->Option au):cj d (.bsl t st rows ps) ρ h=adJ d t st (mX ρ st rows ps):=bS rfl
def YB(d:Nat)(n:Option Nat)(p:IV)(ρ:IV->AV)(h:Nat->Option au):cj d (.load n p) ρ h=res (mW n (ρ p) h):=bS rfl
def abP(x:Option bD):Option (AV×bD):=x.map λe=>(.any,e)
def Sf(e:bD):abP (some e)=some (.any,e):=rfl
def XH(c:Prop)[Decidable c](x:Option bD):abP (if c then x else none)=if c then abP x else none:=by split<;>rfl
def Ts(d:Nat)(n:Nat)(p x:IV)(ρ:IV->AV)(h:Nat->Option au):cj d (.store n p x) ρ h=abP (lq n (ρ p) (ρ x) h):=bS rfl
def Yz(d:Nat)(o:Nat)(p:IV)(ρ:IV->AV)(h:Nat->Option au):cj d (.fadr o p) ρ h=res (GZ o (ρ p)):=bS rfl
def adu(d:Nat)(o:Nat)(n:Option Nat)(x:IV)(ρ:IV->AV)(h:Nat->Option au):cj d (.fld o n x) ρ h=res (SV o n (ρ x)):=bS rfl
def YA(d:Nat)(st:Nat)(x q:IV)(ρ:IV->AV)(h:Nat->Option au):cj d (.iadr st x q) ρ h=res (BQ st (ρ x) (ρ q)):=bS rfl
def Yx(d:Nat)(st n:Nat)(x q:IV)(ρ:IV->AV)(h:Nat->Option au):cj d (.aadr st n x q) ρ h=res (GX st n (ρ x) (ρ q)):=bS rfl
def ady(d:Nat)(m:Bool)(x y:IV)(ρ:IV->AV)(h:Nat->Option au):cj d (.mnx m x y) ρ h=res (Qr m (ρ x) (ρ y)):=bS rfl
def adr(d:Nat)(st:Nat)(x y:IV)(ρ:IV->AV)(h:Nat->Option au):cj d (.cpy st x y) ρ h=Ci st (ρ x) (jJ st h (ρ y)) h:=bS rfl
def adB(d:Nat)(st:Nat)(x:IV)(lo hi mx:Option IV)(ρ:IV->AV)(h:Nat->Option au):cj d (.slc st x lo hi mx) ρ h=res (FB st (ρ x) (lo.map ρ) (hi.map ρ) (mx.map ρ)):=bS rfl
def adv(d:Nat)(x:IV)(ρ:IV->AV)(h:Nat->Option au):cj d (.len x) ρ h=res (MU (ρ x)):=bS rfl
def YH(d:Nat)(x:IV)(ρ:IV->AV)(h:Nat->Option au):cj d (.slen x) ρ h=res (Ke (ρ x)):=bS rfl
def adn(d:Nat)(t:TypeId)(st:Nat)(x y:IV)(ρ:IV->AV)(h:Nat->Option au):cj d (.app t st x y) ρ h=qW d t st (ρ x) (jJ st h (ρ y)) h:=bS rfl
def YI(d:Nat)(x:IV)(lo hi:Option IV)(ρ:IV->AV)(h:Nat->Option au):cj d (.sslc x lo hi) ρ h=res (xn (ρ x) (lo.map ρ) (hi.map ρ)):=bS rfl
def ado(d:Nat)(o:BinOp)(x y:IV)(ρ:IV->AV)(h:Nat->Option au):cj d (.bin o x y) ρ h=res (up o (ρ x) (ρ y)):=bS rfl
def Yy(d:Nat)(o:BinOp)(x y:IV)(ρ:IV->AV)(h:Nat->Option au):cj d (.bbin o x y) ρ h=res (GY o (ρ x) (ρ y)):=bS rfl
def YD(d:Nat)(o:BinOp)(x y:IV)(ρ:IV->AV)(h:Nat->Option au):cj d (.pbin o x y) ρ h=res (xm o (ρ x) (ρ y)):=bS rfl
def YF(d:Nat)(o:BinOp)(ls:List LK)(x y:IV)(ρ:IV->AV)(h:Nat->Option au):cj d (.sbin o ls x y) ρ h=res (sv o ls (ρ x) (ρ y)):=bS rfl
def ahn(d:Nat)(o:UnOp)(x:IV)(ρ:IV->AV)(h:Nat->Option au):cj d (.un o x) ρ h=res (aUn o (ρ x)):=bS rfl
def ah4(k:IntKind)(x:AV):Option (AV×bD) :=
 match x with
 | .int _ n=>some (.int k (k.wrap n),.no)
 | _=>none
def TX(k k':IntKind)(n:Int):ah4 k (.int k' n)=some (.int k (k.wrap n),.no):=rfl
def akM(x:Option (List (List AV))):Option (AV×bD) :=
 match x with
 | some rows=>res ((qX rows).map .str)
 | none=>none
def QS(rows:List (List AV)):akM (some rows)=res ((qX rows).map .str):=rfl
def akL(d:Nat)(t:TypeId)(x:AV):Option (AV×bD) :=
 match x with
 | .str s=>if s.length<1073741824 then some (.ms d 1 0 s.length,.new d ⟨t,1,s.map λb=>[.int .u8 b.toNat],false⟩)else none
 | _=>none
def TW(d:Nat)(t:TypeId)(s:List UInt8):akL d t (.str s)=if s.length<1073741824 then some (.ms d 1 0 s.length,.new d ⟨t,1,s.map λb=>[.int .u8 b.toNat],false⟩)else none:=rfl
def aid(i:Nat)(x:AV):Option (AV×bD) :=
 match x with
 | .tup vs=>res (vs[i]?)
 | _=>none
def T8(i:Nat)(vs:List AV):aid i (.tup vs)=res (vs[i]?):=rfl
def Px(x:AV):Option (AV×bD) :=
 match x with
 | .mp id st row off=>some (.mp id st row off,.no)
 | .ip cells=>some (.ip cells,.no)
 | .fn f caps=>some (.fn f caps,.no)
 | _=>none
def V1(id st row off:Nat):Px (.mp id st row off)=some (.mp id st row off,.no):=rfl
def V0(cells:List AV):Px (.ip cells)=some (.ip cells,.no):=rfl
def VZ(f:FuncId)(caps:List AV):Px (.fn f caps)=some (.fn f caps,.no):=rfl
def akN(x:AV):Option (AV×bD) :=
 match x with
 | .str s=>some (.str s,.no)
 | _=>none
def TY(s:List UInt8):akN (.str s)=some (.str s,.no):=rfl
def Xz(x i:AV):Option (AV×bD) :=
 match x,i with
 | .str s,.int _ n=>if 0<=n then(match s[n.toNat]? with|some b=>some (.int .u8 b.toNat,.no)|none=>none)else none
 | _,_=>none
def Sc(K:AV->bD->Prop)(s:List UInt8)(k:IntKind)(n:Int):dj K (Xz (.str s) (.int k n))=(0<=n/\n<s.length/\K (.int .u8 (av s n.toNat).toNat) .no):=by
 simp only[Xz];by_cases h:0<=n
 .rw[az h];by_cases h2:n.toNat<s.length
  .rw[kS h2];rw[aY h2];simp only[dj];exact propext ⟨λhk=>⟨h,by omega,hk⟩,λhk=>hk.2.2⟩
  .rw[MI (by omega)];simp only[dj];exact propext ⟨λhk=>hk.elim,λhk=>by omega⟩
 .rw[an h];simp only[dj];exact propext ⟨λhk=>hk.elim,λhk=>absurd hk.1 h⟩
def aiQ(d:Nat)(t:TypeId)(st:Nat)(zero:List AV)(l cp:AV):Option (AV×bD) :=
 match l,cp with
 | .int .i64 n,.int .i64 m=>if 0<=n/\n<=m/\m<1073741824/\zero.length=st then some (.ms d st 0 n.toNat,.new d ⟨t,st,List.replicate n.toNat zero,false⟩)else none
 | _,_=>none
def VV(d:Nat)(t:TypeId)(st:Nat)(zero:List AV)(n m:Int):aiQ d t st zero (.int .i64 n) (.int .i64 m)=if 0<=n/\n<=m/\m<1073741824/\zero.length=st then some (.ms d st 0 n.toNat,.new d ⟨t,st,List.replicate n.toNat zero,false⟩)else none:=rfl
def ads(d:Nat)(k:IntKind)(x:IV)(ρ:IV->AV)(h:Nat->Option au):cj d (.cvi k x) ρ h=ah4 k (ρ x):=bS rfl
def adt(d:Nat)(x:IV)(q:Nat)(ρ:IV->AV)(h:Nat->Option au):cj d (.ext x q) ρ h=aid q (ρ x):=bS rfl
def YC(d:Nat)(x:IV)(ρ:IV->AV)(h:Nat->Option au):cj d (.nchk x) ρ h=Px (ρ x):=bS rfl
def YG(d:Nat)(x q:IV)(ρ:IV->AV)(h:Nat->Option au):cj d (.sidx x q) ρ h=Xz (ρ x) (ρ q):=bS rfl
def adx(d:Nat)(t:TypeId)(st:Nat)(z:List AV)(l c:IV)(ρ:IV->AV)(h:Nat->Option au):cj d (.mks t st z l c) ρ h=aiQ d t st z (ρ l) (ρ c):=bS rfl
def adw(d:Nat)(f:FuncId)(cs:List IV)(ρ:IV->AV)(h:Nat->Option au):cj d (.mkf f cs) ρ h=if(cs.map ρ).all TG=true then some (.fn f (cs.map ρ),.no)else none:=bS rfl
def SJ(k:IntKind)(a b:Int):up .add (.int k a) (.int k b)=some (.int k (k.wrap (a+b))):=by cases k<;>rfl
def SS(k:IntKind)(a b:Int):up .sub (.int k a) (.int k b)=some (.int k (k.wrap (a-b))):=by cases k<;>rfl
def SP(k:IntKind)(a b:Int):up .mul (.int k a) (.int k b)=some (.int k (k.wrap (a*b))):=by cases k<;>rfl
def SK(k:IntKind)(a b:Int):up .eql (.int k a) (.int k b)=some (.bool (a==b)):=by cases k<;>rfl
def SQ(k:IntKind)(a b:Int):up .neq (.int k a) (.int k b)=some (.bool (a != b)):=by cases k<;>rfl
def SO(k:IntKind)(a b:Int):up .lss (.int k a) (.int k b)=some (.bool (decide (a<b))):=by cases k<;>rfl
def SN(k:IntKind)(a b:Int):up .leq (.int k a) (.int k b)=some (.bool (decide (a<=b))):=by cases k<;>rfl
def SM(k:IntKind)(a b:Int):up .gtr (.int k a) (.int k b)=some (.bool (decide (a>b))):=by cases k<;>rfl
def SL(k:IntKind)(a b:Int):up .geq (.int k a) (.int k b)=some (.bool (decide (a>=b))):=by cases k<;>rfl
def SR(k:IntKind)(a b:Int):up .quo (.int k a) (.int k b)=if b=0 then none else some (.int k (k.wrap (a.tdiv b))):=by cases k<;>rfl
def al0(k:IntKind)(a b:Int):Int:=k.wrap ((BitVec.ofInt k.bits a &&& BitVec.ofInt k.bits b).toNat)
def amn(k:IntKind)(a b:Int):Int:=k.wrap ((BitVec.ofInt k.bits a ||| BitVec.ofInt k.bits b).toNat)
def al3(k:IntKind)(a b:Int):Int:=k.wrap ((BitVec.ofInt k.bits a ^^^ BitVec.ofInt k.bits b).toNat)
def ahC(k:IntKind)(a b:Int):Int:=k.wrap ((BitVec.ofInt k.bits a &&& ~~~ (BitVec.ofInt k.bits b)).toNat)
def al1(k:IntKind)(a b:Int):Int:=k.wrap (a*2^(min b.toNat k.bits))
def al2(k:IntKind)(a b:Int):Int:=a.fdiv (2^(min b.toNat k.bits))
def Qm(a b:List UInt8):up .add (.str a) (.str b)=if a.length+b.length<4611686018427387904 then some (.str (a++b))else none:=bS rfl
def Qn(a b:List UInt8):up .eql (.str a) (.str b)=some (.bool (a==b)):=bS rfl
def Qo(a b:List UInt8):up .neq (.str a) (.str b)=some (.bool (!(a==b))):=bS rfl
def Qk(a b:Bool):GY .eql (.bool a) (.bool b)=some (.bool (a==b)):=rfl
def Ql(a b:Bool):GY .neq (.bool a) (.bool b)=some (.bool (!(a==b))):=rfl
def Yv(a:Bool):aUn .not (.bool a)=some (.bool (!a)):=rfl
def Yu(k:IntKind)(n:Int):aUn .neg (.int k n)=some (.int k (k.wrap (0-n))):=rfl
def Yp(l:LK)(ls:List LK)(xs ys:List AV):sv .eql (l::ls) (.agg xs) (.agg ys)=(lp (l::ls) xs ys).map .bool:=rfl
def Yq(l:LK)(ls:List LK)(xs ys:List AV):sv .neq (l::ls) (.agg xs) (.agg ys)=(lp (l::ls) xs ys).map λb=>.bool (!b):=rfl
def Ti(f:FuncId)(cs:List AV):sv .eql [] (.fn f cs) .nf=some (.bool false):=rfl
def Tj(f:FuncId)(cs:List AV):sv .neq [] (.fn f cs) .nf=some (.bool true):=rfl
def Tk:sv .eql [] .nf .nf=some (.bool true):=rfl
def Tl:sv .neq [] .nf .nf=some (.bool false):=rfl
def adm:lp [] [] []=some true:=rfl
def sqK(p:Option Bool)(q:Option Bool):Option Bool:=match p,q with
 | some p,some q=>some (p&&q)
 | _,_=>none
def XD(p q:Bool):sqK (some p) (some q)=some (p&&q):=rfl
def adl(l:LK)(ls:List LK)(x y:AV)(xs ys:List AV):lp (l::ls) (x::xs) (y::ys)=sqK (lA l x y) (lp ls xs ys):=rfl
def Vn(p q:Bool):lA .b (.bool p) (.bool q)=some (p==q):=rfl
def Vo(k:IntKind)(p q:Int):lA .i (.int k p) (.int k q)=some (p==q):=by simp[lA]
def Vp(p q:List UInt8):lA .s (.str p) (.str q)=some (p==q):=rfl
def Tc:xm .eql .np .np=some (.bool true):=rfl
def Td(id st row off:Nat):xm .eql (.mp id st row off) .np=some (.bool false):=rfl
def Te(cells:List AV):xm .eql (.ip cells) .np=some (.bool false):=rfl
def Tf:xm .neq .np .np=some (.bool false):=rfl
def Tg(id st row off:Nat):xm .neq (.mp id st row off) .np=some (.bool true):=rfl
def Th(cells:List AV):xm .neq (.ip cells) .np=some (.bool true):=rfl
def Yk(st:Nat)(rows:List (List AV)):MU (.sl st rows)=some (.int .i64 rows.length):=rfl
def Yi(id st off len:Nat):MU (.ms id st off len)=some (.int .i64 len):=rfl
def Yj:MU .nl=some (.int .i64 0):=rfl
def Qu(s:List UInt8):Ke (.str s)=some (.int .i64 s.length):=rfl
def SZ(n:Option Nat)(cells:List AV)(h:Nat->Option au):mW n (.ip cells) h=yB n cells:=rfl
def ldO(n:Option Nat)(st row off:Nat)(o:Option au):Option AV :=
 match o with
 | some o=>if o.st=st then(match o.rows[row]? with|some r=>yB n (r.drop off)|none=>none)else none
 | none=>none
def S0(n:Option Nat)(id st row off:Nat)(h:Nat->Option au):mW n (.mp id st row off) h=ldO n st row off (h id):=rfl
def aat(n:Option Nat)(st off:Nat)(t:TypeId)(r:List AV)(b:Bool):ldO n st 0 off (some ⟨t,st,[r],b⟩)=yB n (r.drop off):=by simp[ldO]
def aas{α:Type}[Inhabited α](K:AV->bD->Prop)(n:Option Nat)(st row off:Nat)(t:TypeId)(l:List α)(f:α->List AV)(b:Bool) :
  dj K (res (ldO n st row off (some ⟨t,st,l.map f,b⟩)))=(row<l.length/\dj K (res (yB n ((f (av l row)).drop off)))):=by
 simp only[ldO,dR];by_cases h2:row<l.length
 .rw[iG,kS h2,aY h2];simp[h2]
 .rw[MI (by simpa using h2)];simp[h2,res,dj]
def aiy(x:AV)(r:List AV):yB none (x::r)=some x:=rfl
def aiz(n:Nat)(r:List AV):yB (some n) r=if n<=r.length then some (.agg (r.take n))else none:=rfl
def Ms(id n st row off:Nat)(o:Option au)(cs:Option (List AV)):Option bD :=
 match cs with
 | some cs=>match o with
  | some o=>if o.st=st/\cs.length=n/\(o.isRec||cs.all vO)=true then(match o.rows[row]? with
   | some r=>if off+n<=r.length then some (.put id {o with rows:=o.rows.set row (jw r off cs)})else none
   | none=>none)else none
  | none=>none
 | none=>none
def Qw(n id st row off:Nat)(x:AV)(h:Nat->Option au):lq n (.mp id st row off) x h=Ms id n st row off (h id) (jv x):=by
 unfold lq Ms;cases jv x<;>rfl
def abO(id n st off:Nat)(t:TypeId)(r cs:List AV):Ms id n st 0 off (some ⟨t,st,[r],true⟩) (some cs)=if cs.length=n/\off+n<=r.length then some (.put id ⟨t,st,[jw r off cs],true⟩)else none:=by
 simp only[Ms,true_and,nx,and_true,List.getElem?_cons_zero,List.set_cons_zero];by_cases h1:cs.length=n<;>by_cases h2:off+n<=r.length<;>simp[h1,h2]
def abM(id n st row:Nat)(t:TypeId)(rows:List (List AV))(cs:List AV)(hn:∀r∈rows,r.length=n):Ms id n st row 0 (some ⟨t,st,rows,false⟩) (some cs)=if cs.length=n/\cs.all vO=true/\row<rows.length then some (.put id ⟨t,st,rows.set row cs,false⟩)else none:=by
 simp only[Ms,true_and,jW];by_cases h3:row<rows.length
 .rw[kS h3];have hl:=hn _ (eH h3);by_cases h1:cs.length=n<;>by_cases h2:cs.all vO=true<;>simp[h1,h2,h3,hl,jw];rw[XV (by omega),ml]
 .rw[MI (by omega)];simp[h3]
def ST(off:Nat)(cells:List AV):GZ off (.ip cells)=some (.ip (cells.drop off)):=rfl
def SU(off id st row o:Nat):GZ off (.mp id st row o)=some (.mp id st row (o+off)):=rfl
def SW(off:Nat)(n:Option Nat)(cells:List AV):SV off n (.agg cells)=yB n (cells.drop off):=rfl
def Qq{α:Type}[Inhabited α](K:AV->bD->Prop)(st:Nat)(l:List α)(f:α->List AV)(k:IntKind)(n:Int) :
  dj K (res (BQ st (.sl st (l.map f)) (.int k n)))=(0<=n/\n<l.length/\K (.ip (f (av l n.toNat))) .no):=by
 simp only[BQ,true_and];by_cases h:0<=n
 .rw[az h];by_cases h2:n.toNat<l.length
  .rw[iG,kS h2,aY h2];simp only[fR,res,dj];exact propext ⟨λhk=>⟨h,by omega,hk⟩,λhk=>hk.2.2⟩
  .rw[MI (by simp;omega)];exact propext ⟨λhk=>hk.elim,λhk=>by omega⟩
 .rw[an h];exact propext ⟨λhk=>hk.elim,λhk=>absurd hk.1 h⟩
def SH(st n:Nat)(cells:List AV)(k:IntKind)(j:Int):GX st n (.ip cells) (.int k j)=if 0<=j/\j<n then some (.ip (cells.drop (j.toNat*st)))else none:=rfl
def SI(st n id s row off:Nat)(k:IntKind)(j:Int):GX st n (.mp id s row off) (.int k j)=if 0<=j/\j<n then some (.mp id s row (off+j.toNat*st))else none:=rfl
def amt(id st off len:Nat)(o:Option au):Option (AV×bD) :=
 match o with
 | some o=>if st=1/\o.st=1/\o.isRec=false/\0<len then some (.ms id st off len,.put id o)else none
 | none=>none
def Tm(s:List UInt8)(n:Int):Yr (.str s) (.int .u8 n)=some (.int .i64 (abF s n.toNat.toUInt8)):=rfl
def Y8(id st off len:Nat)(ys:List (List AV))(o:Option au):Option (AV×bD) :=
 match o with
 | some o=>if o.st=st/\o.isRec=false/\off+len<=o.rows.length then(if ys.length<=len then some (.int .i64 ys.length,.put id {o with rows:=o.rows.take off++ys++o.rows.drop (off+ys.length)})else some (.int .i64 len,.put id {o with rows:=o.rows.take off++ys.take len++o.rows.drop (off+len)}))else none
 | none=>none
def Yh(st id off len:Nat)(ys:List (List AV))(h:Nat->Option au):Ci st (.ms id st off len) (some ys) h=Y8 id st off len ys (h id):=by simp only[Ci,Y8,true_and];cases h id<;>rfl
def TQ(id st len:Nat)(t:TypeId)(rows ys:List (List AV))(h1:rows.length=len)(h2:len<=ys.length):Y8 id st 0 len ys (some ⟨t,st,rows,false⟩)=some (.int .i64 len,.put id ⟨t,st,ys.take len,false⟩):=by
 subst h1;unfold Y8;by_cases h:ys.length<=rows.length
 .have:ys.length=rows.length:=by omega
  simp[this,iF (show ys.length<=rows.length by omega)]
 .simp[h]
def S9(k:IntKind)(n m:Int):Qr true (.int k n) (.int k m)=some (.int k (if n<m then m else n)):=by simp[Qr]
def SX(id st off len:Nat)(k:IntKind)(n:Int):BQ st (.ms id st off len) (.int k n)=if 0<=n/\n<len then some (.mp id st (off+n.toNat) 0)else none:=by simp[BQ]
def Tn(id st off len:Nat)(k:IntKind)(n:Int):FB st (.ms id st off len) none (some (.int k n)) none=if 0<=n/\n<=len then some (.ms id st off n.toNat)else none:=by
 simp only[FB,fj];by_cases h:0<=n<;>by_cases h2:n<=len<;>simp[h,h2]<;>omega
def Qt(id st off len:Nat)(k k':IntKind)(n m:Int):FB st (.ms id st off len) (some (.int k n)) (some (.int k' m)) none=if 0<=n/\n<=m/\m<=len then some (.ms id st (off+n.toNat) (m-n).toNat)else none:=by
 simp only[FB,fj];by_cases h:0<=n
 .by_cases h1:n<=m
  .have hm:0<=m:=by omega
   by_cases h2:m<=len
   .have:m.toNat-n.toNat=(m-n).toNat:=by omega
    simp[h,h1,h2,hm,this];omega
   .simp[h,h1,h2,hm]<;>omega
  .by_cases hm:0<=m<;>simp[h,h1,hm];omega
 .simp[h]
def To{α:Type}(st:Nat)(f:α->List AV)(l:List α)(k:IntKind)(n:Int):FB st (.sl st (l.map f)) none (some (.int k n)) none=if 0<=n/\n<=l.length then some (.sl st ((l.take n.toNat).map f))else none:=by
 simp only[FB,fj];by_cases h:0<=n<;>by_cases h2:n<=l.length<;>simp[h,h2,List.map_take]<;>omega
def Ys(s:List UInt8)(k:IntKind)(n:Int):xn (.str s) none (some (.int k n))=if 0<=n/\n<=s.length then some (.str (s.take n.toNat))else none:=by
 simp only[xn,fj];by_cases h:0<=n<;>by_cases h2:n<=s.length<;>simp[h,h2]<;>omega
def Yt(s:List UInt8)(k:IntKind)(n:Int):xn (.str s) (some (.int k n)) none=if 0<=n/\n<=s.length then some (.str (s.drop n.toNat))else none:=by
 simp only[xn,fj];have:s.drop n.toNat=List.take (s.length-n.toNat) (List.drop n.toNat s):=by rw[iF (by simp)]
 by_cases h:0<=n<;>by_cases h2:n<=s.length<;>simp[h,h2,<-this]<;>omega
def Tp(s:List UInt8)(k k':IntKind)(n m:Int):xn (.str s) (some (.int k n)) (some (.int k' m))=if 0<=n/\n<=m/\m<=s.length then some (.str ((s.drop n.toNat).take (m-n).toNat))else none:=by
 simp only[xn,fj];by_cases h:0<=n
 .by_cases h1:n<=m
  .have hm:0<=m:=by omega
   by_cases h2:m<=s.length
   .have:m.toNat-n.toNat=(m-n).toNat:=by omega
    simp[h,h1,h2,hm,this];omega
   .simp[h,h1,h2,hm]<;>omega
  .by_cases hm:0<=m<;>simp[h,h1,hm];omega
 .simp[h]
def Yg(d:Nat)(t:TypeId)(st:Nat)(ys:List (List AV))(h:Nat->Option au):qW d t st .nl (some ys) h=if ys.length<137438953472 then some (.ms d st 0 ys.length,.new d ⟨t,st,ys,false⟩)else none:=rfl
def AF(id:Nat)(t:TypeId)(st off len:Nat)(ys:List (List AV))(o:Option au):Option (AV×bD) :=
 if ys.length<137438953472 then(match o with
   | some o=>if o.st=st/\o.t=t/\o.isRec=false/\off=0/\len<=o.rows.length/\len<137438953472/\(id<1000\/2000<=id)/\o.k.flat=true then
     some (.ms id st 0 (len+ys.length),.reb id ⟨t,st,o.rows.take len++ys,false⟩)else none
   | none=>none)else none
def Yf(d id:Nat)(t:TypeId)(st off len:Nat)(ys:List (List AV))(h:Nat->Option au):qW d t st (.ms id st off len) (some ys) h=AF id t st off len ys (h id):=by
 simp only[qW,AF,true_and];cases h id<;>rfl
def DK:Kd.flat instKd=true:=rfl
def AG(id:Nat)(t:TypeId)(st len:Nat)(rows ys:List (List AV))(hl:rows.length=len):AF id t st 0 len ys (some ⟨t,st,rows,false⟩) =
  if ys.length<137438953472/\len<137438953472/\(id<1000\/2000<=id)then some (.ms id st 0 (len+ys.length),.reb id ⟨t,st,rows++ys,false⟩)else none:=by
 subst hl;simp only[AF,true_and,aQ,rN,DK,and_true];by_cases h1:ys.length<137438953472<;>simp[h1]
def W_(st:Nat)(h:Nat->Option au):jJ st h .nl=some []:=rfl
def Xa(st:Nat)(h:Nat->Option au)(rows:List (List AV)):jJ st h (.sl st rows)=some rows:=by simp[jJ]
def Og(st off len:Nat)(o:Option au):Option (List (List AV)) :=
 match o with
 | some o=>if o.st=st/\o.isRec=false/\off+len<=o.rows.length then some ((o.rows.drop off).take len)else none
 | none=>none
def W9(st:Nat)(h:Nat->Option au)(id off len:Nat):jJ st h (.ms id st off len)=Og st off len (h id):=by simp only[jJ,Og,true_and];cases h id<;>rfl
def HS(st len:Nat)(t:TypeId)(rows:List (List AV))(hl:rows.length=len):Og st 0 len (some ⟨t,st,rows,false⟩)=some rows:=by subst hl;simp[Og]
def XF(s:List UInt8):abJ (.str s)=some (s.map λb=>[.int .u8 b.toNat]):=rfl
def QG{f:FuncId}{args args':List AV}{d:Option Nat}{s:St}{K:St->Prop}{r:AV}(hp:aj P f args' r)(hid:∀x∈args',aV x=[])(hc:bg (X1 false (ak s.heap)) args args')(hk:K (s.put d r)):cO P f args d s K :=
 .inl (.inl ⟨args',r,false,hp,hid,hc,(λh=>by cases h),hk⟩)
def bg.refl_coe(b:Bool)(h:Nat->Option au):∀l:List AV,bg (X1 b h) l l
 | []=>trivial
 | _::r=>⟨.inl rfl,bg.refl_coe b h r⟩
def cI{f:FuncId}{args:List AV}{d:Option Nat}{s:St}{K:St->Prop}{r:AV}(hp:aj P f args r)(hid:∀x∈args,aV x=[])(hk:K (s.put d r)):cO P f args d s K :=
 QG hp hid (bg.refl_coe _ _ args) hk
def bR{f:FuncId}{args:List AV}{d:Option Nat}{s:St}{K:St->Prop}{r:AV}(fs:List Nat){args':List AV}(ha:args.map (sB fs s)=args')(hp:aj P f args' r)(hid:∀x∈args',aV x=[])(hk:K ((frzs fs s).put d r)):cO P f args d s K:=by
 subst ha;exact .inr (.inl ⟨fs,.inl ⟨_,r,false,hp,hid,bg.refl_coe _ _ _,(λh=>by cases h),hk⟩⟩)
def ax{f:FuncId}{args:List AV}{i:Nat}{bf:List Nat}{op:ln}{d:Option Nat}{hist:List HI}{s:St}{K:List HI->St->Prop}{r:AV}(hp:aj P f args r)(hid:∀x∈args,aV x=[])(hr:aV r=[])
  (hk:fz op s .no=true/\iT bf ⟨i,cY op s.env,[],[],false,false⟩ hist=true/\K (⟨i,cY op s.env,[],[],false,false⟩::hist) (s.put d r)):Nw P f args i bf op d hist s K :=
 .inl ⟨args,r,false,hp,hid,bg.refl_coe _ _ args,(λh=>by cases h),hr,hk⟩
def Pw:∀{l:List (Nat×AV)}{k:Nat},get l k = .any\/(k,get l k)∈l
 | [],k=>.inl rfl
 | (j,x)::r,k=>by
  simp only[get];split
  .rename_i h;subst h;exact .inr (by simp)
  .rcases Pw (l:=r) (k:=k)with h|h
   .exact .inl h
   .exact .inr (by simp[h])
def gy:∀{l:List (Nat×au)}{k:Nat}{o:au},ak l k=some o->(k,o)∈l
 | [],k,o,h=>by simp[ak]at h
 | (j,x)::r,k,o,h=>by
  simp only[ak]at h;split at h
  .rename_i hj;cases h;subst hj;simp
  .simp[gy h]
def dd.le{c:sV}{a:Act}{w:World}{s s':St}(hs:dd c s a w)(h1:∀p∈s'.env,get s.env p.1=p.2)(h2:∀p∈s'.heap,ak s.heap p.1=some p.2):dd c s' a w:=by
 obtain⟨bl,hs⟩:=hs;refine⟨bl,hs.weaken (λk=>?_) (λi o hi=>h2 (i,o) (gy hi))⟩;rcases Pw (l:=s'.env) (k:=k)with h|h
 .exact .inl h
 .exact .inr (h1 _ h).symm
def Wk.refl(s:St):Wk s s:=λ_ _ _ h=>h
def Wk.trans{s s' s'':St}(h:Wk s s')(h':Wk s' s''):Wk s s'':=λc a w hs=>h' c a w (h c a w hs)
def Wk.le{s s':St}(h1:∀p∈s'.env,get s.env p.1=p.2)(h2:∀p∈s'.heap,ak s.heap p.1=some p.2):Wk s s':=λ_ _ _ hs=>hs.le h1 h2
def Wk.frz(s:St)(i:Nat):Wk s (s.frz i):=λ_ _ _ hs=>hs.frz i
def klp{α:Type}(S:α->St)(p:α->Prop)(m:α->Nat)(q:α)(K:IX->St->Prop)(e:IX)(s:St):Prop :=
 match e with
 | .nrm=>∃q',p q'/\m q'<m q/\Wk s (S q')
 | e=>K e s
def aH{α:Type}{S:α->St}{p:α->Prop}{m:α->Nat}{q:α}{K:IX->St->Prop}{s:St}(q':α)(h1:p q')(h2:m q'<m q)(h3:Wk s (S q')):klp S p m q K .nrm s:=⟨q',h1,h2,h3⟩
def ait{α:Type}(S:α->St)(p:α->Prop)(m:α->Nat)(q:α)(K:IX->St->Prop)(s:St):klp S p m q K .ret s=K .ret s:=bS rfl
def aiu{α:Type}(S:α->St)(p:α->Prop)(m:α->Nat)(q:α)(K:IX->St->Prop)(j:Nat)(s:St):klp S p m q K (.ext j) s=K (.ext j) s:=bS rfl
def aA{α:Type}(S:α->St)(p:α->Prop)(m:α->Nat){x:bC}{s:St}{K:IX->St->Prop}(q:α)(h1:p q)(h2:Wk s (S q))
  (hstep:∀q,p q->lz P x (S q) (klp S p m q K)):lz P (.loop x) s K:=by
 refine⟨λn s=>∃q,p q/\m q=n/\s=S q,⟨m q,S q,⟨q,h1,rfl,rfl⟩,h2⟩,?_⟩;rintro n s ⟨q,h3,rfl,rfl⟩;refine KN _ _ _ _ (λe s' hh=>?_) (hstep q h3);cases e with
 | nrm=>obtain⟨q',h4,h5,h6⟩:=hh;exact⟨m q',S q',h5,⟨q',h4,rfl,rfl⟩,h6⟩
 | _=>exact hh
def kmt{α:Type}(S:α->St)(p:α->Prop)(K:IX->St->Prop)(e:IX)(s:St):Prop :=
 match e with
 | .nrm=>∃q,p q/\Wk s (S q)
 | e=>K e s
def aq{l:List pj}{r:AV}{s:St}(fs:List Nat)(h:x5 l (frzs fs s)=some r)(h2:aV r=[]):GW l r .ret s:=⟨(λ_ h=>by cases h),s,Wk.refl s,fs,h,h2⟩
def ah{l:List pj}{r:AV}{s:St}(h:x5 l (frzs [] s)=some r:=by simp only[go_sem])(h2:aV r=[]:=by first|rfl|simp[go_sem,bJ]):GW l r .ret s:=aq [] h h2
def aw{l:List pj}{r:AV}{s:St}(h:x5 l (frzs [] s)=some r:=by rfl)(h2:aV r=[]:=by rfl):GW l r .ret s:=aq [] h h2
def ae{f:FuncId}{args:List AV}{d:Option Nat}{s:St}{K:St->Prop}{r:AV}(hp:aj P f args r)(hk:K (s.put d r))(hid:∀x∈args,aV x=[]:=by simp[go_sem]):cO P f args d s K:=cI hp hid hk
def aa{f:FuncId}{args:List AV}{d:Option Nat}{s:St}{K:St->Prop}{r:AV}{Q:Prop}(hp:aj P f args r)(hk:Q)(hq:K (s.put d r)=Q:=by conv=>lhs;simp only[go_sem])(hid:∀x∈args,aV x=[]:=by simp[go_sem]):cO P f args d s K:=cI hp hid (hq.mpr hk)
end
attribute[go_sem] ZZ UB UW Rh Nx UT Rb Rk Nz UR Q_ ZS US Ra UO ZY ZP Z2 UD ZT Uy UZ U0 Rd ZM Uu UP UV UX aeK ZQ ZR Ux UU Rc ZU Uz UY Z1 UC ZN Uv ZO Uw ZL Ut ZW
attribute[go_sem] adz YE adA adp Tq adq YB Ts Yz adu YA Yx ady adr adB adv YH adn YI ado Yy YD YF ahn ads adt YC YG adx adw SJ SS SP SK SQ SO SN SM SL SR Qm Qn Qo
attribute[go_sem] ae1 ae2 ae3 aeS aeT aeU ae0 aeZ aag aiv aeW Oq Ot Or QB Se Oo ajw agl abp XK Um ait aiu
def agH(a b:Prop):Ye (.bool false) a b=b:=ac5 a b
attribute[go_sem ↓] ac6 ac5
attribute[go_sem high] agI agH aeu aet aew
attribute[go_sem] U9 Z6 U7 Z7 Rm U5 Z5 U6 U1 Rl Ip Io Re NB FG FE UQ Ri Q9 zl
attribute[go_sem] aa4 aa3 QA QC Sf XH TX QS TW T8 V1 V0 VZ TY Sc VV Qk Ql Yv Yu Yp Yq Ti Tj Tk Tl adm XD adl Vn Vo Vp Tc Td Te Tf Tg Th Yk Yi Yj Qu SZ S0 aat aas aiy aiz Qw abO ST SU SW Qq SX SH SI S9 Tm Yh Tn Qt To Ys Yt Tp Yg Yf W_ Xa W9 XF
def aik(n:Nat):get [] n = .any:=bS rfl
def aij(k n:Nat)(x:AV)(r:List (Nat×AV)):get ((k,x)::r) n=if k=n then x else get r n:=bS rfl
def aeB(n:Nat):ak [] n=none:=bS rfl
def aeA(k n:Nat)(x:au)(r:List (Nat×au)):ak ((k,x)::r) n=if k=n then some x else ak r n:=bS rfl
def ah7(n:Nat):del [] n=[]:=bS rfl
def ah6(k n:Nat)(x:AV)(r:List (Nat×AV)):del ((k,x)::r) n=if k=n then del r n else(k,x)::del r n:=bS rfl
def aez(n:Nat):oD [] n=[]:=bS rfl
def aey(k n:Nat)(x:au)(r:List (Nat×au)):oD ((k,x)::r) n=if k=n then oD r n else(k,x)::oD r n:=bS rfl
def afU(i:Nat):tc i []=[]:=bS rfl
def afT(i k:Nat)(x:AV)(r:List (Nat×AV)):tc i ((k,x)::r)=(k,jU i x)::tc i r:=bS rfl
def afW(i:Nat):td i []=[]:=bS rfl
def afV(i k:Nat)(x:au)(r:List (Nat×au)):td i ((k,x)::r)=(k,ff i x)::td i r:=bS rfl
def ajc(e:List (Nat×AV))(h:List (Nat×au))(d:Nat)(x:AV):St.put ⟨e,h⟩ (some d) x =⟨(d,x)::e,h⟩:=bS rfl
def ajb(s:St)(x:AV):s.put none x=s:=bS rfl
def aeX(e:List (Nat×AV))(h:List (Nat×au))(i:Nat):St.kill ⟨e,h⟩ i =⟨tc i e,td i (oD h i)⟩:=bS rfl
def ad3(s:St):s.eff .no=s:=bS rfl
def Ze(e:List (Nat×AV))(h:List (Nat×au))(i:Nat)(o:au):St.eff ⟨e,h⟩ (.put i o) =⟨e,(i,o)::oD h i⟩:=bS rfl
def Zd(e:List (Nat×AV))(h:List (Nat×au))(i:Nat)(o:au):St.eff ⟨e,h⟩ (.new i o) =⟨e,(i,o)::oD h i⟩:=bS rfl
def Zf(e:List (Nat×AV))(h:List (Nat×au))(i:Nat)(o:au):St.eff ⟨e,h⟩ (.reb i o) =⟨tc i e,(i,o)::td i (oD h i)⟩:=bS rfl
def aaj(s:St):kills [] s=s:=bS rfl
def aai(i:Nat)(r:List Nat)(s:St):kills (i::r) s=kills r (s.kill i):=bS rfl
def adV(e:List (Nat×AV)):dels [] e=e:=bS rfl
def adU(d:Nat)(r:List Nat)(e:List (Nat×AV)):dels (d::r) e=dels r (del e d):=bS rfl
def aj8(g:Nat->AV)(k:Nat):val g (.s k)=g k:=bS rfl
def aj7(g:Nat->AV)(x:AV):val g (.c x)=x:=bS rfl
def WX(k:Nat)(b:Bool)(s:St):refine (.s k) b s=s.put (some k) (.bool b):=bS rfl
attribute[go_sem] aik aij aeB aeA ah7 ah6 aez aey afU afT afW afV ajc ajb aeX ad3 Ze Zd Zf aaj aai adV adU aj8 aj7 WX
attribute[go_sem] mw mX jv vO jw TG qX
attribute[go_sem] jU ff rC mV mG mC mP aV kx iu jc fG cY aC bz lI fz iT zF Iz zr bD.tch bD.isReb bD.isPut bD.ids
attribute[go_sem] x5 KM Pe LY frzs St.frz sB frz1 Uf Q5 vN DM x2 qZ j5 ir oM zm xp
attribute[go_sem] cM eA oG gC ml Cf List.all_nil List.any_cons List.any_nil List.contains_cons List.contains_nil yA List.flatMap_nil List.drop_succ_cons fo List.take_succ_cons jK i9 eG bY
attribute[go_sem] List.getElem?_cons_zero Fs List.set_cons_zero List.set_cons_succ
attribute[go_sem] fR Option.map_none cG Option.getD_none Option.isSome_some
attribute[go_sem] Bt GT Bool.and_true dM Bool.and_false dF Bool.or_true nx Bool.or_false jW
attribute[go_sem] true_and and_true true_implies implies_true false_implies dR ij not_true_eq_false not_false_eq_true and_self true_or or_true false_or or_false
section
variable{P:Program}[bE P]
def alw(d:Nat)(x:AV):Option (AV×bD) :=
 match x with
 | .str s=>some (.mm d false,.new d (@au.mk 0 0 [] false (.it s 0)))
 | _=>none
def mmO(k:Bool)(x:AV)(h:Nat->Option au)(f:Nat->au->Option (AV×bD)):Option (AV×bD) :=
 match x with
 | .mm id k'=>if k=k' then(h id).bind (f id)else none
 | _=>none
def mkO(x:AV)(h:Nat->Option au)(f:au->Option (AV×bD)):Option (AV×bD) :=
 match x with
 | .fm es=>f (@au.mk 0 0 [] false (.mp es))
 | x=>mmO true x h λ_=>f
def akv(o:au):Option (AV×bD):=(zk o).map λes=>(.int .i64 es.length,.no)
def alc(x n y:AV)(h:Nat->Option au):Option (AV×bD) :=
 match n with
 | .int .i64 n=>mmO true x h λid=>Qs id n y
 | _=>none
def S_(d:Nat)(ok:Bool)(kd:KK)(z x y:AV)(h:Nat->Option au):nj d (.mlk ok kd z) [x,y] h=mkO x h (zc ok kd z y):=by
 cases x<;>try rfl
 rename_i id k;cases k<;>rfl
def Ta(d:Nat)(kd:KK)(x y q:AV)(h:Nat->Option au):nj d (.mup kd) [x,y,q] h=mmO true x h λid=>FA id kd y q:=by
 cases x<;>try rfl
 rename_i id k;cases k<;>rfl
def ZV(d:Nat)(g:Option (Nat×Bool))(s:St)(K:St->Prop):nW P ⟨some d,.mop .mkm [],g⟩ s K=(d<1000/\dj (J4 K (s.kill d) (some d)) (some (.mm d true,.new d (@au.mk 0 0 [] false (.mp []))))):=rfl
def UA(al:List (Nat×Nat))(i d:Nat)(g:Option (Nat×Bool))(bf:List Nat)(hist:List HI)(s:St)(K:List HI->St->Prop):fU P al i ⟨⟨some d,.mop .mkm [],g⟩,bf⟩ hist s K=dj (zw al i bf (.mop .mkm []) hist K s (some d)) (some (.mm d true,.new d (@au.mk 0 0 [] false (.mp [])))):=rfl
def ZX(d:Option Nat)(ok:Bool)(kd:KK)(z:AV)(x y:IV)(g:Option (Nat×Bool))(s:St)(K:St->Prop):nW P ⟨d,.mop (.mlk ok kd z) [x,y],g⟩ s K=dj (J4 K s d) (mkO (val (get s.env) x) (ak s.heap) (zc ok kd z (val (get s.env) y))):=by
 rw[<-S_ (d.getD 0) ok kd z (val (get s.env) x) (val (get s.env) y) (ak s.heap)];rfl
def Z0(d:Option Nat)(kd:KK)(x y q:IV)(g:Option (Nat×Bool))(s:St)(K:St->Prop):nW P ⟨d,.mop (.mup kd) [x,y,q],g⟩ s K=dj (J4 K s d) (mmO true (val (get s.env) x) (ak s.heap) λid=>FA id kd (val (get s.env) y) (val (get s.env) q)):=by
 rw[<-Ta (d.getD 0) kd (val (get s.env) x) (val (get s.env) y) (val (get s.env) q) (ak s.heap)];rfl
def W6(d:Nat)(s:List UInt8):alw d (.str s)=some (.mm d false,.new d (@au.mk 0 0 [] false (.it s 0))):=rfl
def aiT(id:Nat)(h:Nat->Option au)(f:Nat->au->Option (AV×bD)):mmO true (.mm id true) h f=(h id).bind (f id):=rfl
def aiP(id:Nat)(h:Nat->Option au)(f:au->Option (AV×bD)):mkO (.mm id true) h f=(h id).bind f:=rfl
def aiO(es:List (AV×AV))(h:Nat->Option au)(f:au->Option (AV×bD)):mkO (.fm es) h f=f (@au.mk 0 0 [] false (.mp es)):=rfl
def aiS(id:Nat)(h:Nat->Option au)(f:Nat->au->Option (AV×bD)):mmO false (.mm id false) h f=(h id).bind (f id):=rfl
def afh(x y:AV)(n:Int)(h:Nat->Option au):alc x (.int .i64 n) y h=mmO true x h λid=>Qs id n y:=rfl
def Ol{α β:Type}(x:α)(f:α->Option β):(some x).bind f=f x:=rfl
def Ym(t st:Nat)(rows:List (List AV))(r:Bool)(es:List (AV×AV)):akv (@au.mk t st rows r (.mp es))=some (.int .i64 es.length,.no):=rfl
def Vt(K:AV->bD->Prop)(ok:Bool)(z:AV)(es:List (AV×AV))(q:Option (Option Nat)):Prop :=
 match q with
 | some (some i)=>match es[i]? with
  | some e=>K (if ok then .tup [e.2,.bool true]else e.2) .no
  | none=>False
 | some none=>K (if ok then .tup [z,.bool false]else z) .no
 | none=>False
def Yl(K:AV->bD->Prop)(ok:Bool)(kd:KK)(z y:AV)(t st:Nat)(rows:List (List AV))(r:Bool)(es:List (AV×AV)):dj K (zc ok kd z y (@au.mk t st rows r (.mp es)))=Vt K ok z es (iR kd y es):=by
 simp only[zc,zk,Vt];cases iR kd y es with
 | none=>rfl
 | some q=>cases q with
  | none=>rfl
  | some i=>cases h:es[i]? <;> simp[h,dj]
def Yn(K:AV->bD->Prop)(id:Nat)(kd:KK)(y q:AV)(t st:Nat)(rows:List (List AV))(r:Bool)(es:List (AV×AV)):dj K (FA id kd y q (@au.mk t st rows r (.mp es))) =
  (pY y=true/\pY q=true/\∃es',ET kd y q es=some es'/\K .any (.put id (@au.mk t st rows r (.mp es')))):=by
 simp only[FA,zk];cases pY y<;>cases pY q<;>cases ET kd y q es<;>simp[dj]
def Sd(b:Bool)(x:AV)(K:AV->bD->Prop):Prop :=
 match x with
 | .sl _ []=>K (.bool b) .no/\K (.bool (!b)) .no
 | x=>match Qv b x with
  | some v=>K v .no
  | none=>False
def Z3(d:Option Nat)(b:Bool)(x:IV)(g:Option (Nat×Bool))(s:St)(K:St->Prop):nW P ⟨d,.snl b x,g⟩ s K=Sd b (val (get s.env) x) (J4 K s d):=by
 show(match val (get s.env) x with
  | .sl _ []=>K (s.put d (.bool b))/\K (s.put d (.bool (!b)))
  | x=>match Qv b x with
   | some v=>K (s.put d v)
   | none=>False)=_
 generalize val (get s.env) x=v;unfold Sd;split
 .rfl
 .split<;>rfl
def abH(b:Bool)(K:AV->bD->Prop):Sd b .nl K=K (.bool (!b)) .no:=rfl
def agy(b:Bool)(st:Nat)(K:AV->bD->Prop):Sd b (.sl st []) K=(K (.bool b) .no/\K (.bool (!b)) .no):=rfl
def agz(b:Bool)(st:Nat)(r:List AV)(rows:List (List AV))(K:AV->bD->Prop):Sd b (.sl st (r::rows)) K=K (.bool b) .no:=rfl
def abI(b:Bool)(st:Nat)(rows:List (List AV))(K:AV->bD->Prop)(h:K (.bool b) .no/\(rows=[]->K (.bool (!b)) .no)):Sd b (.sl st rows) K:=by
 cases rows with
 | nil=>exact⟨h.1,h.2 rfl⟩
 | cons r rows=>exact h.1
end
def au.k_e(t:TypeId)(st:Nat)(rows:List (List AV))(r:Bool)(k:Kd):(@au.mk t st rows r k).k=k:=rfl
attribute[go_sem] au.k_e
attribute[go_sem] Z3 abH agy agz
attribute[go_sem] ZV UA ZX Z0 W6 aiT aiS aiP aiO afh Ol Ym Yl Yn
def tf(ρ:Nat->Nat):AV->AV
 | .ms id st off len=>.ms (ρ id) st off len
 | .mp id st row off=>.mp (ρ id) st row off
 | .mm id k=>.mm (ρ id) k
 | x=>x
def rH(ρ:Nat->Nat):AV->AV
 | .fn f caps=>.fn f (caps.map (tf ρ))
 | x=>tf ρ x
def u_(ρ:Nat->Nat):AV->AV
 | .agg cells=>.agg (cells.map (rH ρ))
 | x=>rH ρ x
def jI(ρ:Nat->Nat):AV->AV
 | .tup vs=>.tup (vs.map (u_ ρ))
 | x=>u_ ρ x
def od(ρ:Nat->Nat)(o:au):au:=if o.isRec then{o with rows:=o.rows.map (λr=>r.map (rH ρ))}else o
def jH(ρ:Nat->Nat):List (Nat×au)->List (Nat×au)
 | []=>[]
 | (i,o)::r=>(ρ i,od ρ o)::jH ρ r
section
variable{P:Program}[bE P]{bl bl':Nat->Option Nat}{M M':Nat->Prop}{w:World}{ρ τ:Nat->Nat}
def IRel.mono{v:Value}{x:AV}(h:IRel M w v x)(hM:∀b,M' b->M b):IRel M' w v x:=h.tr λb hb _=>⟨λh'=>hb (hM b h'),rfl⟩
def Mf{v:Value}{x:AV}(h:fB bl M w v x)(hb:∀i,bl' (ρ i)=bl i)(hM:∀b,M' b->M b):fB bl' M' w v (tf ρ x):=by
 cases x with
 | ms id st off len =>
  simp only[tf,fB]at h⊢;rw[hb];exact h
 | mp id st row off =>
  simp only[tf,fB]at h⊢;rw[hb];exact h
 | mm id k =>
  simp only[tf,fB]at h⊢;rw[hb];exact h
 | _=>exact IRel.mono h hM
def EZ{v:Value}{x:AV}(h:cJ bl M w v x)(hb:∀i,bl' (ρ i)=bl i)(hM:∀b,M' b->M b):cJ bl' M' w v (rH ρ x):=by
 cases x with
 | fn f caps =>
  obtain⟨cs,h1,h2⟩:=h;exact⟨cs,h1,h2.mapRight λ_ _ hr=>Mf hr hb hM⟩
 | _=>simp only[cJ]at h;exact Mf (ρ:=ρ) h hb hM
def Me{v:Value}{x:AV}(h:gq bl M w v x)(hb:∀i,bl' (ρ i)=bl i)(hM:∀b,M' b->M b):gq bl' M' w v (u_ ρ x):=by
 cases x with
 | agg cells =>
  obtain⟨cs,h1,h2⟩:=h;exact⟨cs,h1,h2.mapRight λ_ _ hr=>EZ hr hb hM⟩
 | _=>simp only[gq]at h;exact EZ (ρ:=ρ) h hb hM
def E4{v:Value}{x:AV}(h:bv bl M w v x)(hb:∀i,bl' (ρ i)=bl i)(hM:∀b,M' b->M b):bv bl' M' w v (jI ρ x):=by
 cases x with
 | any=>trivial
 | tup vs =>
  obtain⟨cs,h1,h2⟩:=h;exact⟨cs,h1,h2.mapRight λ_ _ hr=>Me hr hb hM⟩
 | _=>simp only[bv]at h;exact Me (ρ:=ρ) h hb hM
def agk(o:au):(od ρ o).t=o.t:=by unfold od;split<;>rfl
def JJ(o:au):(od ρ o).st=o.st:=by unfold od;split<;>rfl
def E3(o:au):(od ρ o).isRec=o.isRec:=by unfold od;split<;>rfl
def ly(h1:∀i,τ (ρ i)=i)(h2:∀i,ρ (τ i)=i):∀(σ:List (Nat×au))(i:Nat),ak (jH ρ σ) i=(ak σ (τ i)).map (od ρ)
 | [],i=>rfl
 | (k,o)::r,i=>by
  simp only[jH,ak,ly h1 h2 r i];by_cases h:ρ k=i
  .rw[az h,az (by rw[<-h,h1])];rfl
  .rw[an h,an (λhk=>h (by rw[hk,h2]))]
def W4{MF:Nat->Prop}{o:au}{b:Nat}(h:pk bl M MF w o b)(hb:∀i,bl' (ρ i)=bl i)(hM:∀b,M' b->M b):pk bl' M' MF w (od ρ o) b:=by
 rcases h with⟨gk,c1,fr,h2,h3,h4,h5,h6,h7⟩|hsp;rotate_left
 .have:od ρ o=o:=by simp[od,hsp.isRec]
  rw[this];exact .inr hsp
 refine .inl ⟨by unfold od;split<;>exact gk,c1,fr,by rw[agk];exact h2,h3,h4,λk r hr=>?_,?_,λk q r x hr hx=>?_⟩
 .rw[JJ];unfold od at hr;split at hr
  .simp only[iG,eS]at hr;obtain⟨r0,h8,rfl⟩:=hr;simpa using h5 k r0 h8
  .exact h5 k r hr
 .rw[JJ];unfold od;split<;>simpa using h6
 .rw[JJ,E3];unfold od at hr;split at hr
  .rename_i hrc;simp only[iG,eS]at hr;obtain⟨r0,h8,rfl⟩:=hr;simp only[iG,eS]at hx;obtain⟨x0,h9,rfl⟩:=hx;obtain⟨u,hu1,hu2⟩:=h7 k q r0 x0 h8 h9;rw[hrc]at hu2⊢;exact⟨u,hu1,EZ hu2 hb hM⟩
  .rename_i hrc;obtain⟨u,hu1,hu2⟩:=h7 k q r x hr hx;have hrc':o.isRec=false:=by simpa using hrc
   rw[hrc']at hu2⊢;exact⟨u,hu1,IRel.mono hu2 hM⟩
def E1{MF:Nat->Prop}{σ:List (Nat×au)}(h1:∀i,τ (ρ i)=i)(h2:∀i,ρ (τ i)=i)(h:MO bl M MF w (ak σ))(hb:∀i,bl' (ρ i)=bl i)(hM:∀b,M' b->M b):MO bl' M' MF w (ak (jH ρ σ)):=by
 have hs:∀{i o},ak (jH ρ σ) i=some o->∃o0,ak σ (τ i)=some o0/\o=od ρ o0:=λ{i o} hi=>by
  rw[ly h1 h2]at hi;simp only[eS]at hi;obtain⟨o0,h3,h4⟩:=hi;exact⟨o0,h3,h4.symm⟩
 have hbt:∀i,bl' i=bl (τ i):=λi=>by rw[<-hb,h2]
 refine⟨λi o hi=>?_,λi i' o o' b hi hi' q q'=>?_⟩
 .obtain⟨o0,h3,rfl⟩:=hs hi;rcases h.1 _ o0 h3 with hn|⟨b,h4,h5⟩
  .refine .inl ⟨?_,by rw[E3];exact hn.2.1,by rw[hbt];exact hn.2.2⟩;unfold od;rw[hn.2.1];exact hn.1
  .exact .inr ⟨b,by rw[hbt];exact h4,W4 h5 hb hM⟩
 .obtain⟨o0,h3,_⟩:=hs hi;obtain⟨o1,h4,_⟩:=hs hi';have:=h.2 _ _ _ _ b h3 h4 (by rw[<-hbt];exact q) (by rw[<-hbt];exact q');rw[<-h2 i,<-h2 i',this]
def E0{MF:Nat->Prop}{σ:List (Nat×au)}(h1:∀i,τ (ρ i)=i)(h2:∀i,ρ (τ i)=i)(hb:∀i,bl' (ρ i)=bl i)(b:Nat)(h:bQ bl' MF (ak (jH ρ σ)) b):bQ bl MF (ak σ) b:=by
 rcases h with h|⟨i,o,h3,h4⟩
 .exact .inl h
 .rw[ly h1 h2]at h3;simp only[eS]at h3;obtain⟨o0,h5,_⟩:=h3;exact .inr ⟨_,o0,h5,by rw[<-hb,h2];exact h4⟩
def WZ{σ:List (Nat×au)}(h1:∀i,τ (ρ i)=i)(h2:∀i,ρ (τ i)=i)(hb:∀i,bl' (ρ i)=bl i)(b:Nat)(h:oY bl' (jH ρ σ) b):oY bl σ b:=by
 obtain⟨i,o,h3,h4⟩:=h;rw[ly h1 h2]at h3;simp only[eS]at h3;obtain⟨o0,h5,_⟩:=h3;exact⟨_,o0,h5,by rw[<-hb,h2];exact h4⟩
def DV(x:AV):jc (tf ρ x)=(jc x).map ρ:=by cases x<;>rfl
def gG{f g:AV->List Nat}{r:AV->AV}(h:∀x,f (r x)=(g x).map ρ):∀l:List AV,(l.map r).flatMap f=(l.flatMap g).map ρ
 | []=>rfl
 | x::l=>by simp only[cM,yA,gG h l,h,dY]
def DU(x:AV):iu (rH ρ x)=(iu x).map ρ:=by
 cases x with
 | fn f caps=>exact gG DV caps
 | _=>rfl
def UE(x:AV):kx (u_ ρ x)=(kx x).map ρ:=by
 cases x with
 | agg cells=>exact gG DU cells
 | fn f caps=>exact gG DV caps
 | _=>rfl
def UG(x:AV):aV (jI ρ x)=(aV x).map ρ:=by
 cases x with
 | tup vs=>exact gG UE vs
 | agg cells=>exact gG DU cells
 | fn f caps=>exact gG DV caps
 | _=>rfl
def UF(o:au):fG (od ρ o)=(fG o).map ρ:=by
 unfold fG;rw[E3];split
 .rename_i h;simp only[od,h,dR];generalize o.rows=l
  induction l with
  | nil=>rfl
  | cons r l ih=>simp only[cM,yA,ih,dY];congr 1;exact gG DU r
 .rfl
def KX:∀{σ:List (Nat×au)}{p:Nat×au},p∈jH ρ σ->∃q∈σ,p=(ρ q.1,od ρ q.2)
 | [],_,h=>by cases h
 | (i,o)::r,p,h=>by
  simp only[jH,bM]at h;rcases h with h|h
  .exact⟨(i,o),by simp,h⟩
  .obtain⟨q,h1,h2⟩:=KX h;exact⟨q,by simp[h1],h2⟩
def tj.ren{r:AV}{σ:List (Nat×au)}(h1:∀i,τ (ρ i)=i)(h2:∀i,ρ (τ i)=i)(h:tj r σ):tj (jI ρ r) (jH ρ σ):=by
 have key:∀{i},(ak σ i).isSome=true->(ak (jH ρ σ) (ρ i)).isSome=true:=λ{i} hi=>by
  rw[ly h1 h2,h1];simpa using hi
 refine⟨λi hi=>?_,λp hp i hi=>?_⟩
 .rw[UG,fb]at hi;obtain⟨j,h3,rfl⟩:=hi;exact key (h.1 j h3)
 .obtain⟨q,h3,rfl⟩:=KX hp;simp only[UF,fb]at hi;obtain⟨j,h4,rfl⟩:=hi;exact key (h.2 q h3 j h4)
def bA.ren{f:FuncId}{args args2:List AV}{σ σ2:List (Nat×au)}{Sb:Nat->Prop}{Post:AV->List (Nat×au)->Prop}(h:bA P f args σ Sb Post)(ρ τ:Nat->Nat)(h1:∀i,τ (ρ i)=i)(h2:∀i,ρ (τ i)=i)
  (ha:args2.map (jI τ)=args) (hσ:jH τ σ2=σ):bA P f args2 σ2 (λid=>Sb (τ id)) (λr σ'=>∃r0 σ0,Post r0 σ0/\r=jI ρ r0/\σ'=jH ρ σ0):=by
 intro bl MF w cargs hTH hTW hH hMF hargs;subst ha hσ;have hb:∀i,(λi=>bl (ρ i)) (τ i)=bl i:=λi=>by simp only[h2]
 have hmut:∀b,bQ (λi=>bl (ρ i)) MF (ak (jH τ σ2)) b->bQ bl MF (ak σ2) b:=λb hm=>E0 h2 h1 hb b hm;have hblk:∀b,oY (λi=>bl (ρ i)) (jH τ σ2) b->oY bl σ2 b:=λb hm=>WZ h2 h1 hb b hm;refine(h (λi=>bl (ρ i)) MF w cargs hTH (λb hb hB=>hTW b hb (hmut b hB)) (E1 h2 h1 hH hb hmut) hMF (hargs.mapRight λ_ _ hr=>E4 hr hb hmut)).mono λe w'=>?_;rintro⟨v,r,σ',bl',rfl,hp,hc,hH',hv,hst,hnew,hsb⟩;have hb':∀i,(λi=>bl' (τ i)) (ρ i)=bl' i:=λi=>by simp only[h1]
 have hmut':∀b,bQ (λi=>bl' (τ i)) MF (ak (jH ρ σ')) b->bQ bl' MF (ak σ') b:=λb hm=>E0 h1 h2 hb' b hm;refine⟨v,jI ρ r,jH ρ σ',λi=>bl' (τ i),rfl,⟨r,σ',hp,rfl,rfl⟩,hc.ren h1 h2,E1 h1 h2 hH' hb' hmut',E4 hv hb' hmut',?_,λid o b hi hq=>?_,λid hid=>?_⟩
 .exact⟨hst.size,λb hlt hn=>hst.keep b hlt λhh=>hn (hblk b hh),hst.shape,hst.os,hst.out⟩
 .rw[ly h1 h2]at hi;simp only[eS]at hi;obtain⟨o0,h5,_⟩:=hi;exact(hnew _ o0 b h5 hq).imp_right (hblk b)
 .show bl' (τ id)=bl id;rw[hsb _ hid];exact hb id
def sU(a b i:Nat):Nat:=if i=a then b else if i=b then a else i
def vI(a b i:Nat):sU a b (sU a b i)=i:=by
 unfold sU;by_cases h1:i=a<;>by_cases h2:i=b<;>simp[h1,h2]<;>(try split)<;>simp_all
def bA.fresh{f:FuncId}{args:List AV}{Sb:Nat->Prop}{id st off len:Nat}{o:au}(h:bA P f args [] Sb (λr σ'=>r = .ms id st off len/\σ'=[(id,o)]))(ho:o.isRec=false)(hargs:∀x∈args,aV x=[])(j:Nat) :
  bA P f args [] (λ_=>False) (λr σ'=>r = .ms j st off len/\σ'=[(j,o)]):=by
 have hren:∀x:AV,aV x=[]->jI (sU id j) x=x:=by
  have hP:∀x:AV,jc x=[]->tf (sU id j) x=x:=λx hx=>by cases x<;>first|rfl|(simp[jc]at hx)
  have hL:∀{f:AV->List Nat}{r:AV->AV},(∀x,f x=[]->r x=x)->∀l:List AV,l.flatMap f=[]->l.map r=l:=λ{f r} hh l=>by
   induction l with
   | nil=>exact λ_=>rfl
   | cons y l ih =>
    intro hl;simp only[yA,List.append_eq_nil_iff]at hl;simp only[cM,hh y hl.1,ih hl.2]
  have hC:∀x:AV,iu x=[]->rH (sU id j) x=x:=λx hx=>by
   cases x with
   | fn f caps=>simp only[rH,hL hP caps hx]
   | _=>first|rfl|(simp[iu,jc]at hx)
  have hG:∀x:AV,kx x=[]->u_ (sU id j) x=x:=λx hx=>by
   cases x with
   | agg cells=>simp only[u_,hL hC cells hx]
   | fn f caps=>exact hC (.fn f caps) hx
   | _=>first|rfl|(simp[kx,iu,jc]at hx)
  intro x hx;cases x with
  | tup vs=>simp only[jI,hL hG vs hx]
  | agg cells=>exact hG (.agg cells) hx
  | fn f caps=>exact hG (.fn f caps) hx
  | _=>first|rfl|(simp[aV,kx,iu,jc]at hx)
 have hmap:∀l:List AV,(∀x∈l,aV x=[])->l.map (jI (sU id j))=l:=λl=>by
  induction l with
  | nil=>exact λ_=>rfl
  | cons y l ih=>intro hl;simp only[cM,hren y (hl y (by simp)),ih λx hx=>hl x (by simp[hx])]
 refine(h.ren (args2:=args) (σ2:=[]) (sU id j) (sU id j) (vI _ _) (vI _ _) (hmap args hargs) rfl).mono (λ_ hf=>hf.elim) ?_;rintro r σ' ⟨r0,σ0,⟨rfl,rfl⟩,rfl,rfl⟩;have hs:sU id j id=j:=by simp[sU]
 refine⟨by simp only[jI,u_,rH,tf,hs],?_⟩;simp only[jH,hs,od,ho];rfl
def HK(i:Nat)(x:AV):sT [i] x=jU i x:=by simp[sT,jU]
def HJ(i:Nat)(o:au):jn [i] o=ff i o:=by
 unfold jn ff B9 rC;simp
def zh{f:FuncId}{args:List AV}{d:Option Nat}{s:St}{K:St->Prop}{Sb:Nat->Prop}{id st off len:Nat}{o:au}(h:bA P f args [] Sb (λr σ'=>r = .ms id st off len/\σ'=[(id,o)]))(ho:o.isRec=false)(hargs:∀x∈args,aV x=[])
  (j:Nat) (hj:j<1000\/2000<=j) (hfree:ak s.heap j=none) (hk:K ((St.mk (tc j s.env) ((j,o)::td j s.heap)).put d (.ms j st off len))):cO P f args d s K:=by
 refine .inl (.inr ⟨[],λ_=>False,λr σ'=>r = .ms j st off len/\σ'=[(j,o)],[j],h.fresh ho hargs j,λ_ _ hh=>by simp[ak]at hh,?_,?_⟩)
 .rintro r σ' ⟨rfl,rfl⟩ i hi;simp only[ak]at hi;split at hi
  .rename_i hji;subst hji;exact .inr ⟨by simp,hj,.inr hfree⟩
  .cases hi
 .rintro r σ' ⟨rfl,rfl⟩;refine⟨⟨tc j s.env,(j,o)::td j s.heap⟩,λk=>?_,λi=>?_,hk⟩
  .simp only[jD,HK]
  .simp only[NL,ak];split
   .rfl
   .simp only[gw,Option.isSome_none,lD,ij];congr 1;funext o';exact(HJ j o').symm
end
def leE(e:List (Nat×AV)):List (Nat×AV)->Prop
 | []=>True
 | (k,x)::r=>get e k=x/\leE e r
def SB(e:List (Nat×au)):List (Nat×au)->Prop
 | []=>True
 | (k,x)::r=>ak e k=some x/\SB e r
def Pq{e:List (Nat×AV)}:∀{l:List (Nat×AV)},leE e l->∀p∈l,get e p.1=p.2
 | [],_,p,hp=>by cases hp
 | (k,x)::r,h,p,hp=>by
  rcases bM.1 hp with rfl|hp
  .exact h.1
  .exact Pq h.2 p hp
def rg{e:List (Nat×au)}:∀{l:List (Nat×au)},SB e l->∀p∈l,ak e p.1=some p.2
 | [],_,p,hp=>by cases hp
 | (k,x)::r,h,p,hp=>by
  rcases bM.1 hp with rfl|hp
  .exact h.1
  .exact rg h.2 p hp
def Wk.of{s s':St}(h1:leE s.env s'.env)(h2:SB s.heap s'.heap):Wk s s':=Wk.le (Pq h1) (rg h2)
def Wk.frzs:∀(fs:List Nat)(s:St),Wk s (Mw.frzs fs s)
 | [],s=>Wk.refl s
 | i::r,s=>(Wk.frz s i).trans (Wk.frzs r (s.frz i))
def Wk.frz_of{s s':St}(fs:List Nat)(h1:leE (Mw.frzs fs s).env s'.env)(h2:SB (Mw.frzs fs s).heap s'.heap):Wk s s':=(Wk.frzs fs s).trans (Wk.of h1 h2)
def St.mknil(s:St)(k i st:Nat)(t:TypeId):St:=⟨(k,.ms i st 0 0)::del (s.kill i).env k,(i,⟨t,st,[],false⟩)::(s.kill i).heap⟩
def Wk.nil(s:St)(k i st:Nat)(t:TypeId)(hk:get s.env k = .nl)(hid:i<1000\/2000<=i):Wk s (s.mknil k i st t):=by
 intro c a w hs;obtain⟨bl,hs⟩:=hs.kill i;obtain⟨h1,h2⟩:=gR s i;have hn:=hs.new0 (i:=i) (o:=⟨t,st,[],false⟩) h1 h2 hid rfl rfl;have hk':get (s.kill i).env k = .nl:=by simp[St.kill,jD,hk,jU,mV,mG,mC,mP]
 refine⟨_,hn.defers,hn.size,λj=>?_,?_,hn.step,?_,hn.stab,hn.mf⟩
 all_goals
  have hheap:ak (s.mknil k i st t).heap=fA (ak (s.kill i).heap) i (some ⟨t,st,[],false⟩):=by
   funext j;simp only[St.mknil,ak,fA];by_cases h:i=j
   .rw[az h,az h.symm]
   .rw[an h,an (Ne.symm h)]
 .rw[hheap];have hj:=hn.env j;simp only[St.mknil,get];by_cases h:k=j
  .subst h;rw[az rfl];rw[hk']at hj;have hv:tv a k = .slice none 0 0:=by
    simp only[bv,gq,cJ,fB]at hj;generalize tv a k=v at hj;cases hj;rfl
   exact .inl ⟨hv,rfl,rfl⟩
  .rw[an h,q_,an (Ne.symm h)];exact hj
 .rw[hheap];exact hn.heap
 .rw[hheap];exact hn.own
def X0(r:AV)(σ:List (Nat×au)):Bool:=(aV r).all (λi=>(ak σ i).isSome)&&σ.all λp=>(fG p.2).all λi=>(ak σ i).isSome
def lr{r:AV}{σ:List (Nat×au)}(h:X0 r σ=true):tj r σ:=by
 simp only[X0,dX,ii]at h;exact⟨λi hi=>h.1 i hi,λp hp i hi=>h.2 p hp i hi⟩
def done{l:List pj}{Post:AV->List (Nat×au)->Prop}{s:St}(fs:List Nat)(r:AV)(σ':List (Nat×au))(h1:x5 l (frzs fs s)=some r)(h2:SB (frzs fs s).heap σ')(h3:X0 r σ'=true)(h4:Post r σ'):Fy l Post .ret s :=
 ⟨(λ_ h=>by cases h),s,Wk.refl s,fs,r,σ',h1,(λi o hi=>rg h2 _ (gy hi)),lr h3,h4⟩
def lu{l:List pj}{Post:AV->List (Nat×au)->Prop}{s:St}(fs:List Nat)(r:AV)(σ':List (Nat×au))(h1:x5 l (frzs fs s)=some r)(h2:SB (frzs fs s).heap σ')(h3:X0 r σ'=true)(h4:Post r σ'):Fy l Post .nrm s :=
 ⟨(λ_ h=>by cases h),s,Wk.refl s,fs,r,σ',h1,(λi o hi=>rg h2 _ (gy hi)),lr h3,h4⟩
def aZ{l:List pj}{Post:AV->List (Nat×au)->Prop}{s:St}(fs:List Nat)(r:AV)(σ':List (Nat×au))(h4:Post r σ')(h1:x5 l (frzs fs s)=some r:=by simp only[go_sem])(h2:SB (frzs fs s).heap σ':=by simp only[go_sem])(h3:X0 r σ'=true:=by exact rfl):Fy l Post .ret s:=done fs r σ' h1 h2 h3 h4
def zi{l:List pj}{Post:AV->List (Nat×au)->Prop}{s:St}(fs:List Nat)(r:AV)(σ':List (Nat×au))(h4:Post r σ')(h1:x5 l (frzs fs s)=some r:=by simp only[go_sem])(h2:SB (frzs fs s).heap σ':=by simp only[go_sem])(h3:X0 r σ'=true:=by exact rfl):Fy l Post .nrm s:=lu fs r σ' h1 h2 h3 h4
def ri(n:Int):List AV:=[.int .i64 n]
def ru(n:Int):List AV:=[.int .u8 n]
def rb(b:UInt8):List AV:=[.int .u8 b.toNat]
def rs(s:List UInt8):List AV:=[.str s]
def rt(b:Bool):List AV:=[.bool b]
def ajy(n:Int):ri n=[.int .i64 n]:=rfl
def aly(n:Int):ru n=[.int .u8 n]:=rfl
def alt(b:UInt8):rb b=[.int .u8 b.toNat]:=rfl
def alx(s:List UInt8):rs s=[.str s]:=rfl
def abr(b:Bool):rt b=[.bool b]:=rfl
section
variable{α:Type}
def P_(id n st row:Nat)(t:TypeId)(f:α->List AV)(l:List α)(v:α)(hn:∀x,(f x).length=n)(hi:(f v).all vO=true) :
  Ms id n st row 0 (some ⟨t,st,l.map f,false⟩) (some (f v))=if row<l.length then some (.put id ⟨t,st,(l.set row v).map f,false⟩)else none:=by
 rw[abM _ _ _ _ _ _ _ (by simpa using λx _=>hn x)];simp only[hn,hi,bY,true_and,List.map_set]
def agD(id st row:Nat)(t:TypeId)(l:List Int)(v:Int):Ms id 1 st row 0 (some ⟨t,st,l.map ri,false⟩) (some [.int .i64 v])=if row<l.length then some (.put id ⟨t,st,(l.set row v).map ri,false⟩)else none:=P_ id 1 st row t ri l v (λ_=>rfl) rfl
def Fi[Inhabited α](id n st row off:Nat)(t:TypeId)(f:α->List AV)(l:List α)(cs:List AV)(g:α->α)(hl:cs.length=n)(hi:cs.all vO=true)(hn:∀x,off+n<=(f x).length)(hg:∀x,jw (f x) off cs=f (g x)) :
  Ms id n st row off (some ⟨t,st,l.map f,false⟩) (some cs)=if row<l.length then some (.put id ⟨t,st,(l.set row (g (av l row))).map f,false⟩)else none:=by
 simp only[Ms,hl,hi,jW,and_self,dR];by_cases h3:row<l.length
 .rw[iG,kS h3];simp only[fR,hn,dR,h3,hg,List.map_set,aY h3]
 .rw[MI (by simpa using h3),an h3]
def cC(id:Nat)(t:TypeId)(st len:Nat)(f:α->List AV)(l:List α)(ys:List (List AV))(hl:l.length=len):AF id t st 0 len ys (some ⟨t,st,l.map f,false⟩) =
  if ys.length<137438953472/\len<137438953472/\(id<1000\/2000<=id)then some (.ms id st 0 (len+ys.length),.reb id ⟨t,st,l.map f++ys,false⟩)else none:=AG id t st len _ ys (by simpa using hl)
def G0(id:Nat)(t:TypeId)(st len:Nat)(f:α->List AV)(l:List α)(ys:List (List AV))(hl:len<=l.length):AF id t st 0 len ys (some ⟨t,st,l.map f,false⟩) =
  if ys.length<137438953472/\len<137438953472/\(id<1000\/2000<=id)then some (.ms id st 0 (len+ys.length),.reb id ⟨t,st,(l.take len).map f++ys,false⟩)else none:=by
 simp only[AF,true_and,bY,hl,List.map_take,DK,and_true];by_cases h1:ys.length<137438953472<;>simp[h1]
def W8(st len:Nat)(t:TypeId)(f:α->List AV)(l:List α)(hl:l.length=len):Og st 0 len (some ⟨t,st,l.map f,false⟩)=some (l.map f):=HS st len t _ (by simpa using hl)
def mh(st:Nat)(t:TypeId)(r:List AV):Og st 0 1 (some ⟨t,st,[r],false⟩)=some [r]:=HS st 1 t _ rfl
end
def wi{n:Int}(h0:-9223372036854775808<=n)(h1:n<9223372036854775808):IntKind.i64.wrap n=n:=by
 unfold IntKind.wrap;show(if(true&&decide (n%18446744073709551616>=9223372036854775808))=true then n%18446744073709551616-18446744073709551616 else n%18446744073709551616)=n;by_cases h:n%18446744073709551616>=9223372036854775808
 .rw[aF h];simp only[dM,dR];omega
 .rw[aI h];simp only[Bool.and_false,lD,ij];omega
attribute[go_sem] leE SB X0 ajy aly alt alx abr agD mh cL
def Wk.nls(s:St)(k st:Nat)(hk:get s.env k = .nl):Wk s ⟨(k,.sl st [])::s.env,s.heap⟩:=by
 rintro c a w ⟨bl,hs⟩;refine⟨bl,hs.defers,hs.size,λj=>?_,hs.heap,hs.step,hs.own,hs.stab,hs.mf⟩;simp only[get];split
 .rename_i h;subst h;have:=hs.env k;rw[hk]at this;rw[this.nl];exact IRel.nls st
 .exact hs.env j
def IRel.nl_sl{M:Nat->Prop}{w:World}{v:Value}(h:IRel M w v .nl)(st:Nat):IRel M w v (.sl st []):=by
 cases h;exact .nls st
def nlr:List AV->List AV->Prop
 | [],[]=>True
 | x::l,y::m=>(x=y\/(x = .nl/\∃st,y = .sl st []))/\nlr l m
 | _,_=>False
def Jq:∀{l m:List AV},nlr l m->m.length=l.length
 | [],[],_=>rfl
 | _::_,_::_,h=>by simp[Jq h.2]
 | [],_::_,h=>h.elim
 | _::_,[],h=>h.elim
def Jp:∀{l m:List AV},nlr l m->∀{j:Nat}{y:AV},m[j]?=some y->∃x,l[j]?=some x/\(x=y\/(x = .nl/\∃st,y = .sl st []))
 | [],[],_,j,y,hy=>by simp at hy
 | x::l,z::m,h,0,y,hy=>by simp at hy;subst hy;exact⟨x,rfl,h.1⟩
 | x::l,z::m,h,j+1,y,hy=>by simpa using Jp h.2 (j:=j) (by simpa using hy)
 | [],_::_,h,_,_,_=>h.elim
 | _::_,[],h,_,_,_=>h.elim
def Wk.nlh(s:St)(i:Nat){t:TypeId}{st:Nat}{r r':List AV}(hi:ak s.heap i=some ⟨t,st,[r],true⟩)(hr:nlr r r'):Wk s ⟨s.env,(i,⟨t,st,[r'],true⟩)::s.heap⟩:=by
 rintro c a w ⟨bl,hs⟩;have hm:∀b,bQ bl c.MF (ak ((i,⟨t,st,[r'],true⟩)::s.heap)) b↔bQ bl c.MF (ak s.heap) b:=bQ.congr λj=>by
  simp only[ak];split
  .rename_i h;subst h;rw[hi];rfl
  .rfl
 have ht:=Tr.of_iff (w:=w) λb=>(hm b)
 refine⟨bl,hs.defers,hs.size,λj=>(hs.env j).tr ht (λ_ _=>rfl),⟨λj o hj=>?_,λj j' o o' b h1 h2=>?_⟩,hs.step,λj o b h1=>?_,hs.stab,hs.mf⟩
 .simp only[ak]at hj;split at hj
  .rename_i hij;subst hij;cases hj;rcases hs.heap.1 i _ hi with hn|⟨b,g1,⟨gk,c1,fr,g2,g3,g4,g5,g6,g7⟩|hsp⟩
   .cases hn.2.1
   rotate_left
   .cases hsp.isRec
   .refine .inr ⟨b,g1,.inl ⟨gk,c1,fr,g2,g3,g4,λk q hq=>?_,by simpa using g6,λk q u x hu hx=>?_⟩⟩
    .cases k with
     | zero=>simp at hq;subst hq;rw[Jq hr];exact g5 0 r rfl
     | succ k=>simp at hq
    .cases k with
     | succ k=>simp at hu
     | zero =>
      simp at hu;subst hu;obtain⟨x0,h1,h2⟩:=Jp hr hx;obtain⟨v,hv1,hv2⟩:=g7 0 q r x0 rfl h1;refine⟨v,hv1,?_⟩;have hv3:cJ bl (bQ bl c.MF (ak s.heap)) w v x0:=hv2;rcases h2 with h2|⟨h2,st',h3⟩
      .subst h2;exact hv3.tr ht (λ_ _=>rfl)
      .subst h2 h3;have:IRel (bQ bl c.MF (ak s.heap)) w v .nl:=hv3;exact(IRel.toC (bl:=bl) (IRel.nl_sl this st')).tr ht (λ_ _=>rfl)
  .rcases hs.heap.1 j o hj with hn|⟨b,g1,⟨gk,c1,fr,g2,g3,g4,g5,g6,g7⟩|hsp⟩
   .exact .inl hn
   rotate_left
   .exact .inr ⟨b,g1,.inr hsp⟩
   .refine .inr ⟨b,g1,.inl ⟨gk,c1,fr,g2,g3,g4,g5,g6,λk q u x hu hx=>?_⟩⟩;obtain⟨v,hv1,hv2⟩:=g7 k q u x hu hx;refine⟨v,hv1,?_⟩;cases hrec:o.isRec<;>simp only[hrec,AE]at hv2⊢
    .exact hv2.tr ht.keep
    .exact hv2.tr ht (λ_ _=>rfl)
 .have key:∀{j:Nat}{o:au},ak ((i,⟨t,st,[r'],true⟩)::s.heap) j=some o->∃o',ak s.heap j=some o':=λ{j o} hj=>by
   simp only[ak]at hj;split at hj
   .rename_i hij;subst hij;exact⟨_,hi⟩
   .exact⟨_,hj⟩
  obtain⟨p1,q1⟩:=key h1;obtain⟨p2,q2⟩:=key h2;exact hs.heap.2 j j' p1 p2 b q1 q2
 .simp only[ak]at h1;split at h1
  .rename_i hij;subst hij;exact hs.own i _ b hi
  .exact hs.own j o b h1
def vh{l:List pj}{Post:AV->List (Nat×au)->Prop}{s s1:St}(hw:Wk s s1)(fs:List Nat)(r:AV)(σ':List (Nat×au))(h1:x5 l (frzs fs s1)=some r)(h2:SB (frzs fs s1).heap σ')(h3:X0 r σ'=true)(h4:Post r σ'):Fy l Post .ret s :=
 ⟨(λ_ h=>by cases h),s1,hw,fs,r,σ',h1,(λi o hi=>rg h2 _ (gy hi)),lr h3,h4⟩
def dB{l:List pj}{r:AV}{s s1:St}(hw:Wk s s1)(fs:List Nat)(h:x5 l (frzs fs s1)=some r)(h2:aV r=[]):GW l r .ret s:=⟨(λ_ h=>by cases h),s1,hw,fs,h,h2⟩
inductive Ty where
 | bool
 | int (k:IntKind)
 | str
 | sl (e:Ty)
 | nil
 | cons (f:Ty) (r:Ty)
 deriving Inhabited
def Ty.n:Ty->Nat
 | .nil=>0
 | .cons f r=>f.n+r.n
 | _=>1
def Ty.ok:Ty->List AV->Prop
 | .bool,xs=>∃b,xs=[.bool b]
 | .int k,xs=>∃n,xs=[.int k n]/\(Lit.int k n).wf=true
 | .str,xs=>∃s,xs=[.str s]/\s.length<=maxLen
 | .sl e,xs=>xs=[.nl]\/∃rows,xs=[.sl e.n rows]/\rows.length<=maxLen/\∀r∈rows,e.ok r
 | .nil,xs=>xs=[]
 | .cons f r,xs=>∃ys zs,xs=ys++zs/\f.ok ys/\r.ok zs
def Ty.ok_len:∀(τ:Ty)(xs:List AV),τ.ok xs->xs.length=τ.n
 | .bool,xs,h=>by obtain⟨b,rfl⟩:=h;rfl
 | .int k,xs,h=>by obtain⟨n,rfl,_⟩:=h;rfl
 | .str,xs,h=>by obtain⟨s,rfl,_⟩:=h;rfl
 | .sl e,xs,h=>by rcases h with rfl|⟨rows,rfl,_⟩<;>rfl
 | .nil,xs,h=>by subst h;rfl
 | .cons f r,xs,h=>by
  obtain⟨ys,zs,rfl,h1,h2⟩:=h;simp only[dN,Ty.n,Ty.ok_len f ys h1,Ty.ok_len r zs h2]
def Fn(g:TypeId->Option Ty)(P:Program)(off:Nat):List Field->Option Ty
 | []=>some .nil
 | f::r=>if f.offset=off then(match g f.type,Fn g P (off+P.cellsOf f.type) r with
  | some a,some b=>if a.n=P.cellsOf f.type then some (.cons a b)else none
  | _,_=>none)else none
def wy(P:Program):Nat->TypeId->Option Ty
 | 0,_=>none
 | f+1,t=>match P.underlying t with
  | some .bool=>some .bool
  | some (.int k)=>some (.int k)
  | some .string=>some .str
  | some (.slice e)=>match wy P f e with
   | some a=>if a.n=P.cellsOf e/\0<a.n then some (.sl a)else none
   | none=>none
  | some (.struct fs)=>match Fn (wy P f) P 0 fs.toList with
   | some a=>if a.n=P.cellsOf t then some a else none
   | none=>none
  | _=>none
def KW{α β:Type}{g:α->Option β}:∀{l:List α}{r:List β},l.mapM g=some r->r.length=l.length/\∀(i:Nat)(x:α),l[i]?=some x->∃y,r[i]?=some y/\g x=some y
 | [],r,h=>by
  simp only[List.mapM_nil,pure,dt]at h;subst h;exact⟨rfl,λi x hx=>by simp at hx⟩
 | a::l,r,h=>by
  simp only[List.mapM_cons,bind,vl,pure,dt]at h;obtain⟨y,h1,ys,h2,rfl⟩:=h;obtain⟨h3,h4⟩:=KW h2;refine⟨by simp[h3],λi x hx=>?_⟩;cases i with
  | zero =>
   simp only[List.getElem?_cons_zero,dt]at hx;subst hx;exact⟨y,rfl,h1⟩
  | succ i=>exact h4 i x (by simpa using hx)
def yb{β:Type}{g:Nat->Option β}{n:Nat}{r:List β}(h:(List.range n).mapM g=some r):r.length=n/\∀i,i<n->∃y,r[i]?=some y/\g i=some y:=by
 obtain⟨h1,h2⟩:=KW h;exact⟨by simpa using h1,λi hi=>h2 i i (by simp[hi])⟩
def G9{w:World}{base:Nat}{a:Addr}{n:Nat}{cs:List Value}(h:w.cells? base a n=some cs):cs.length=n/\∀j,j<n->∃y,cs[j]?=some y/\w.cell? (a.add j)=some y:=by
 unfold World.cells? at h;split at h
 .exact yb h
 .cases h
def Dy{w:World}{a:Addr}{v:Value}(h:w.cell? a=some v):a.spot=none/\∃c t fr,w.heap[a.block]?=some (.cells c t fr)/\c[a.off]?=some v:=by
 unfold World.cell? at h;split at h
 case h_2=>cases h
 rename_i c t fr hb;split at h
 .cases h
 .rename_i hs;exact⟨by simpa using hs,c,t,fr,hb,h⟩
section
variable{H:Type}{enc:TypeId×Value->H}{P:Program}{w:World}{base:Nat}{sp:Nat->Bool}{held:Bool}
def Hh{g:TypeId->Option Ty}{r:TypeId->List Value->Option (DataW H×List MemPlace)}(ih:∀t cs τ x,g t=some τ->r t cs=some x->∃xs,τ.ok xs/\bg (IRel (λ_=>False) w) cs xs)(cs:List Value) :
  ∀(fs:List Field)(off:Nat)(τ:Ty)(xs:List (DataW H×List MemPlace)),Fn g P off fs=some τ->(fs.mapM λf=>r f.type ((cs.drop f.offset).take (P.cellsOf f.type)))=some xs->off+τ.n=cs.length ->
   ∃ys,τ.ok ys/\bg (IRel (λ_=>False) w) (cs.drop off) ys
 | [],off,τ,xs,ht,_,hn=>by
  simp only[Fn,dt]at ht;subst ht;refine⟨[],rfl,?_⟩;rw[XV (by simp[Ty.n]at hn;omega)];trivial
 | f::fs,off,τ,xs,ht,hm,hn=>by
  simp only[Fn]at ht;split at ht
  case isFalse=>cases ht
  rename_i hoff;split at ht
  case h_2=>cases ht
  rename_i a b ha hb;split at ht
  case isFalse=>cases ht
  rename_i hsz;cases ht;simp only[List.mapM_cons,bind,vl,pure,dt]at hm;obtain⟨y,h1,zs,h2,rfl⟩:=hm;obtain⟨xs1,h3,h4⟩:=ih _ _ _ _ ha h1;simp only[Ty.n]at hn;obtain⟨xs2,h5,h6⟩:=Hh ih cs fs (off+P.cellsOf f.type) b zs hb h2 (by omega);refine⟨xs1++xs2,⟨xs1,xs2,rfl,h3,h5⟩,?_⟩;rw[hoff]at h4;have:cs.drop off=(cs.drop off).take (P.cellsOf f.type)++cs.drop (off+P.cellsOf f.type):=by
   rw[<-OE,XW]
  rw[this];exact h4.append h6
def abR:∀(fuel f:Nat)(t:TypeId)(cs:List Value)(τ:Ty)(x:DataW H×List MemPlace),wy P f t=some τ->DataW.trod enc P w base sp held fuel t cs=some x->∃xs,τ.ok xs/\bg (IRel (λ_=>False) w) cs xs:=by
 intro fuel
 induction fuel with
 | zero=>intro f t cs τ x _ h;simp[DataW.trod]at h
 | succ fuel ih =>
  intro f t cs τ x ht h;cases f with
  | zero=>simp[wy]at ht
  | succ f =>
   simp only[wy]at ht;split at ht
   case h_1 hu =>
    cases ht;unfold DataW.trod at h;split at h<;>rename_i heq<;>first|(rw[hu]at heq;cases heq;done)|(cases h;done)|skip
    rename_i b;exact⟨[.bool b],⟨b,rfl⟩,.bool b,trivial⟩
   case h_2 k hu =>
    cases ht;unfold DataW.trod at h;split at h<;>rename_i heq<;>first|(rw[hu]at heq;cases heq;done)|(cases h;done)|skip
    rename_i k' k1 n;rw[hu]at heq;cases heq;split at h
    .rename_i hk;obtain⟨rfl,hwf⟩:=hk;exact⟨[.int _ n],⟨n,rfl,hwf⟩,.int _ n,trivial⟩
    .cases h
   case h_3 hu =>
    cases ht;unfold DataW.trod at h;split at h<;>rename_i heq<;>first|(rw[hu]at heq;cases heq;done)|(cases h;done)|skip
    rename_i s;split at h
    .rename_i hs;refine⟨[.str s.data.toList],⟨_,rfl,by simpa using hs⟩,?_,trivial⟩;have:=IRel.str (M:=λ_=>False) (w:=w) s.data.toList;simpa using this
    .cases h
   case h_4 e hu =>
    split at ht
    case h_2=>cases ht
    rename_i a ha;split at ht
    case isFalse=>cases ht
    rename_i hsz;cases ht;unfold DataW.trod at h;split at h<;>rename_i heq<;>first|(rw[hu]at heq;cases heq;done)|(cases h;done)|skip
    .exact⟨[.nl],.inl rfl,.nl,trivial⟩
    .rename_i e1 ad len cap;rw[hu]at heq;cases heq;simp only at h;split at h
     case isFalse=>cases h
     rename_i hcap;simp only[vl]at h;obtain⟨elems,hel,_⟩:=h;obtain⟨hlen,ak⟩:=yb hel;have hrow:∀i,i<len->∃row xs,w.cells? base (ad.add (i*P.cellsOf e)) (P.cellsOf e)=some row/\a.ok xs/\bg (IRel (λ_=>False) w) row xs:=λi hi=>by
      obtain⟨y,_,h2⟩:=ak i hi;simp only[vl]at h2;obtain⟨row,h3,h4⟩:=h2;obtain⟨xs,h5,h6⟩:=ih f e row a y ha h4;exact⟨row,xs,h3,h5,h6⟩
     by_cases h0:len=0
     .subst h0;exact⟨[.sl a.n []],.inr ⟨[],rfl,dx _,λr hr=>by cases hr⟩,.sl0 _ _ _,trivial⟩
     have hn:0<P.cellsOf e:=by omega
     have hcell:∀i j,i<len->j<P.cellsOf e->∀row,w.cells? base (ad.add (i*P.cellsOf e)) (P.cellsOf e)=some row->∃y,row[j]?=some y/\w.cell? ((ad.add (i*P.cellsOf e)).add j)=some y:=λi j hi hj row hr=>(G9 hr).2 j hj;obtain⟨row0,xs0,r1,_,_⟩:=hrow 0 (by omega);obtain⟨y0,_,c0⟩:=hcell 0 0 (by omega) hn row0 r1;obtain⟨hspot,c,tt,fr,hb,_⟩:=Dy c0;have hspot':ad.spot=none:=by simpa[Addr.add]using hspot
     have hblk:∀(q:Addr) m,(q.add m).block=q.block:=λq m=>by unfold Addr.add;split<;>rfl
     have hoff:∀(q:Addr) m,(q.add m).off=q.off+m:=λq m=>by
      unfold Addr.add;split
      .rename_i hm;simp[hm]
      .rfl
     rw[hblk,hblk]at hb;have hval:∀i j,i<len->j<P.cellsOf e->∀row,w.cells? base (ad.add (i*P.cellsOf e)) (P.cellsOf e)=some row->∃y,row[j]?=some y/\c[ad.off+i*P.cellsOf e+j]?=some y:=λi j hi hj row hr=>by
      obtain⟨y,g1,g2⟩:=hcell i j hi hj row hr;obtain⟨_,c',t',fr',g3,g4⟩:=Dy g2;rw[hblk,hblk,hb]at g3;cases g3;rw[hoff,hoff]at g4;exact⟨y,g1,g4⟩
     let R:Nat->List Value:=λi=>if hi:i<len then Classical.choose (hrow i hi)else[]
     let X:Nat->List AV:=λi=>if hi:i<len then Classical.choose (Classical.choose_spec (hrow i hi))else[]
     have hRX:∀i,i<len->w.cells? base (ad.add (i*P.cellsOf e)) (P.cellsOf e)=some (R i)/\a.ok (X i)/\bg (IRel (λ_=>False) w) (R i) (X i):=λi hi=>by
      have:=Classical.choose_spec (Classical.choose_spec (hrow i hi));simp only[R,X,hi,dif_pos];exact this
     have hrows:∀(i:Nat)(r:List AV),((List.range len).map X)[i]?=some r->i<len/\r=X i:=λi r hr=>by
      simp only[iG,eS]at hr;obtain⟨j,h1,h2⟩:=hr;have h3:=jh.1 h1;obtain⟨h4,h5⟩:=h3;simp at h4 h5;subst h5;exact⟨h4,h2.symm⟩
     refine⟨[.sl a.n ((List.range len).map X)],.inr ⟨_,rfl,by simp;omega,λr hr=>?_⟩,?_,trivial⟩
     .obtain⟨i,hi,rfl⟩:=fb.1 hr;exact(hRX i (by simpa using hi)).2.1
     .obtain⟨bk,of,so⟩:=ad;simp only at hspot';subst hspot';have hll:((List.range len).map X).length=len:=by simp
      have key:=IRel.sl (M:=λ_=>False) (w:=w) bk of cap a.n c tt fr ((List.range len).map X) (λi j=>(R i).getD j undef) hb (λh=>h) (by rw[hll];omega)
       (λi r hr=>by obtain⟨h1,rfl⟩:=hrows i r hr;exact Ty.ok_len _ _ (hRX i h1).2.1)
       (λi j hi hj=>by
        rw[hll]at hi;rw[hsz.1]at hj⊢;obtain⟨y,g1,g2⟩:=hval i j hi hj _ (hRX i hi).1;rw[g2,List.getD_eq_getElem?_getD,g1];rfl)
       (λi j r x hr hx=>by
        obtain⟨h1,rfl⟩:=hrows i r hr;obtain⟨y,g1,g2⟩:=(hRX i h1).2.2.get hx;rw[List.getD_eq_getElem?_getD,g1];exact g2)
      rw[hll]at key;exact key
   case h_5 fs hu =>
    split at ht
    case h_2=>cases ht
    rename_i a ha;split at ht
    case isFalse=>cases ht
    rename_i hsz;cases ht;unfold DataW.trod at h;split at h<;>rename_i heq<;>first|(rw[hu]at heq;cases heq;done)|(cases h;done)|skip
    .rename_i cs1 fs1;rw[hu]at heq;cases heq;split at h
     case isFalse=>cases h
     rename_i hcl;simp only[eS]at h;obtain⟨xs,h1,_⟩:=h;have:=Hh (P:=P) (g:=wy P f) (r:=λt cs=>DataW.trod enc P w base sp held fuel t cs) (λt cs τ x=>ih f t cs τ x) _ _ 0 _ xs ha h1 (by omega);simpa using this
   case h_6=>cases ht
end
open Go.ChangeShapes Go.WideShapes Go.ChangeAt Go.RowKit
section
variable{H:Type}{enc:TypeId×Value->H}{P:Program}[bE P]
structure J8(w w':World):Prop where
 size:w.heap.size<=w'.heap.size
 old:∀b,b<w.heap.size->w'.heap[b]? = w.heap[b]?
 os:w'.os=w.os
 out:w'.output=w.output
def IRel.toV{bl:Nat->Option Nat}{M:Nat->Prop}{w:World}{v:Value}{x:AV}(h:IRel M w v x):bv bl M w v x:=h.toC.toG.toV
def J8.frame{w w':World}(h:J8 w w')(may:MemPlace->Prop):w.keptBut w' may:=by
 refine⟨h.os,h.out,λi hi=>?_⟩;rw[h.old i hi];cases ho:w.heap[i]? with
 | none=>rfl
 | some o =>
  cases o with
  | cells c t fr=>exact⟨rfl,rfl,rfl,λ_ _=>rfl⟩
  | map es clock=>exact .inr ⟨rfl,rfl⟩
  | _=>rfl
def J8.frozen{w w':World}(h:J8 w w'){a:Addr}(ha:a.block<w.heap.size):w'.frozen? a=w.frozen? a:=World.frozen?_of_block (w:=w) (h.old a.block ha)
def J8.same{w w':World}(h:J8 w w'){p:MemPlace}(hp:p.block<w.heap.size):w.sameAt w' p:=by
 cases p with
 | cell b off=>exact World.cell?_of_block (w:=w) (h.old b hp)
 | map b=>exact h.old b hp
def xG(hl:laidOutB P=true){W W':World}{sp:Nat->Bool}:∀{ts:List TypeId}{vs:List Value}{ds:List (DataW H)}{ps:List MemPlace},(∀t∈ts,P.readableRec t=true/\t<P.types.size) ->
  DataW.TrodAll enc P W 0 (λ_=>true) true ts vs ds ps->(∀p∈ps,W.sameAt W' p)->(∀p∈ps,sp p.block=true)->DataW.TrodAll enc P W' 0 sp true ts vs ds ps
 | [],[],[],ps,_,h,_,_=>h
 | t::ts,v::vs,d::ds,ps,hr,h,h1,h2=>by
  obtain⟨p,q,h3,h4,rfl⟩:=h
  exact⟨p,q,WideElems.Trod_stays hl (hr t (by simp)).1 (hr t (by simp)).2 h3 (λx hx=>h1 x (by simp[hx])) (λx hx=>h2 x (by simp[hx])),
   xG hl (λt ht=>hr t (by simp[ht])) h4 (λx hx=>h1 x (by simp[hx])) (λx hx=>h2 x (by simp[hx])),rfl⟩
 | [],_::_,_,_,_,h,_,_=>h.elim
 | [],[],_::_,_,_,h,_,_=>h.elim
 | _::_,[],_,_,_,h,_,_=>h.elim
 | _::_,_::_,[],_,_,h,_,_=>h.elim
def Vl{f:Func}{s:ChangeSpec}{apart fresh handsOn again:Bool}{W W':World}{args:Array Value}{ds gs:List (DataW H)}{before:List MemPlace}{tb:TypeId}(hl:laidOutB P=true)
  (hr:∀t∈f.params.toList,P.readableRec t=true/\t<P.types.size) (hv:s.vars=[]) (hfn:(s.fn H (ds++gs)).results=[.lit (.bool true)]) (hfa:(s.fn H (ds++gs)).args=ds) (hfv:(s.fn H (ds++gs)).vars=[])
  (hrt:f.resultTypes = #[tb]) (htb:P.underlying tb=some .bool) (hW:DataW.Whole enc P f.params.toList s.vars apart W args.toList ds gs before) (hk:J8 W W') :
  s.post enc P f apart fresh handsOn again W args (.bool true) W':=by
 have hlt:=hW.lt;have hW0:=hW;obtain⟨p,q,hA,hV,rfl,hz,hn⟩:=hW0;rw[hv]at hV;obtain⟨rfl,rfl⟩:=trodVars_none hV;rw[ml]at *;have hsame:∀x∈p,W.sameAt W' x:=λx hx=>hk.same (by simpa using hlt x hx);have hargs:∀sp:Nat->Bool,(∀x∈p,sp x.block=true)->DataW.TrodAll enc P W' 0 sp true f.params.toList args.toList ds p:=λsp hsp=>xG hl hr hA hsame hsp;have hres:∀(b:Nat)(sp:Nat->Bool)(hd:Bool),DataW.TrodAll enc P W' b sp hd f.resultTypes.toList ((Value.bool true).resultList f.resultTypes.size) [.lit (.bool true)] []:=λb sp hd=>by
  rw[hrt];exact trodAll_cons_mk (shut_bool htb _) trodAll_mk0
 have hvars:∀sp:Nat->Bool,DataW.TrodVars enc P W' sp s.vars [] []:=λsp=>by rw[hv];rfl
 refine⟨ds,[],p,[],p,[],by simpa using hW,by rw[ml,hfn];exact hres _ _ _,by rw[ml,hfa];exact hargs _ (λx hx=>by simpa using hlt x (by simpa using hx)),by rw[ml,hfv];exact hvars _,hk.frame _,λ_=>?_⟩;refine⟨ok_one hrt rfl (okWide_bool_mk htb _),[.lit (.bool true)]++ds,[],p,⟨[]++p,[],trodAll_append (hargs _ (λ_ _=>rfl)) (hres _ _ _),hvars _,by simp,?_,?_⟩,λx hx _=>hx⟩
 .intro b off hp;have hb:b<W.heap.size:=hlt (.cell b off) (by simpa using hp);have:=hz b off (by simpa using hp);rw[hk.frozen (a:=⟨b,off,none⟩) hb];exact this
 .intro ha;simpa using hn ha
end
def Ty.isRec:Ty->Bool
 | .nil=>true
 | .cons _ _=>true
 | _=>false
def Ty.okV(τ:Ty)(x:AV):Prop:=match τ.isRec with
 | true=>∃xs,x = .agg xs/\τ.ok xs
 | false=>τ.ok [x]
section
variable{H:Type}{enc:TypeId×Value->H}{P:Program}[bE P]{w:World}{base:Nat}{sp:Nat->Bool}{held:Bool}
def Oz{g:TypeId->Option Ty}:∀{fs:List Field}{off:Nat}{τ:Ty},Fn g P off fs=some τ->τ.isRec=true
 | [],off,τ,h=>by simp only[Fn,dt]at h;subst h;rfl
 | f::fs,off,τ,h=>by
  simp only[Fn]at h;split at h
  case isFalse=>cases h
  split at h
  case h_2=>cases h
  split at h
  case isFalse=>cases h
  cases h;rfl
def L1{f:FuncId}{args:List AV}{r:Bool}(hp:aj P f args (.bool r)){w:World}{cargs:List Value}(hT:(bE.T P).H w)(ha:bg (bv (λ_=>none) (λ_=>False) w) cargs args) :
  Calls P f cargs.toArray w λe w'=>e = .returned (.bool r)/\J8 w w':=by
 have hM:bQ (λ_=>none) (λ_=>False) (ak [])=λ_=>False:=by
  funext b;apply propext;constructor
  .rintro(h|⟨i,o,h,_⟩)
   .exact h
   .simp[ak]at h
  .exact False.elim
 refine(hp (λ_=>none) (λ_=>False) w cargs hT (λ_ _ hm=>hm.elim id λ⟨_,_,hi,_⟩=>by simp[ak]at hi) ⟨λi o h=>by simp[ak]at h,λi _ o _ _ h=>by simp[ak]at h⟩ (λ_ h=>h.elim) (by rw[hM];exact ha)).mono λe w'=>?_;rintro⟨v,r',σ',bl',rfl,⟨rfl,rfl⟩,_,_,hv,hst,_,_⟩;have hv':=hv.bool;subst hv';exact⟨rfl,hst.size,λb hb=>hst.keep b hb (λ⟨i,o,h,_⟩=>by simp[ak]at h),hst.os,hst.out⟩
end
def fw:List (Nat×Nat)->Nat->Nat
 | [],i=>i
 | (a,b)::r,i=>fw r (sU a b i)
def bw:List (Nat×Nat)->Nat->Nat
 | [],i=>i
 | (a,b)::r,i=>sU a b (bw r i)
def Dt:∀(ps:List (Nat×Nat))(i:Nat),bw ps (fw ps i)=i
 | [],_=>rfl
 | (a,b)::r,i=>by simp only[fw,bw,Dt r,vI]
def Hq:∀(ps:List (Nat×Nat))(i:Nat),fw ps (bw ps i)=i
 | [],_=>rfl
 | (a,b)::r,i=>by simp only[fw,bw,vI,Hq r]
def jG:List Nat->List (Nat×AV)->List (Nat×AV)
 | [],e=>e
 | k::ks,e=>tc k (jG ks e)
def jm:List Nat->List (Nat×au)->List (Nat×au)
 | [],e=>e
 | k::ks,e=>td k (jm ks e)
def vD(e:List (Nat×AV)):jG [] e=e:=rfl
def rD(k:Nat)(ks:List Nat)(e:List (Nat×AV)):jG (k::ks) e=tc k (jG ks e):=rfl
def vE(e:List (Nat×au)):jm [] e=e:=rfl
def rE(k:Nat)(ks:List Nat)(e:List (Nat×au)):jm (k::ks) e=td k (jm ks e):=rfl
attribute[go_sem] vD rD vE rE
def UL(a b:Bool)(x:AV)(p:AV->Bool)(hp:p .any=false)(hx:p x=a):(if p (if b=true then .any else x)=true then AV.any else(if b=true then .any else x))=if(a||b)=true then .any else x:=by
 cases b<;>cases a<;>simp_all
def af0(k:Nat)(ks:List Nat)(x:AV):jU k (sT ks x)=sT (k::ks) x:=by
 have:=UL (mV k x) (ks.any λi=>mV i x) x (mV k) rfl rfl;exact this
def afS(k:Nat)(ks:List Nat)(x:AV):rC k (B9 ks x)=B9 (k::ks) x:=by
 have:=UL (mC k x) (ks.any λi=>mC i x) x (mC k) rfl rfl;exact this
def afX(k:Nat)(ks:List Nat)(o:au):ff k (jn ks o)=jn (k::ks) o:=by
 unfold ff jn;by_cases h:o.isRec=true
 .simp only[h,dR,List.map_map];congr 1;funext;apply J2;intro r _;simp only[Function.comp,List.map_map];apply J2;intro x _;exact afS k ks x;rw[az h]
 .simp[h]
def vt(k:Nat):∀(ks:List Nat)(e:List (Nat×AV)),get (jG ks e) k=sT ks (get e k)
 | [],e=>by simp[jG,sT]
 | i::ks,e=>by rw[jG,jD,vt k ks,af0]
def ra(k:Nat):∀(ks:List Nat)(e:List (Nat×au)),ak (jm ks e) k=(ak e k).map (jn ks)
 | [],e=>by
  have:jn []=id:=by
   funext o;unfold jn B9;simp
  simp[jm,this]
 | i::ks,e=>by
  rw[jm,gw,ra k ks,Option.map_map];congr 1;funext o;exact afX i ks o
def nQ(j:Nat):∀(a b:List (Nat×au)),ak (a++b) j=match ak a j with
  | some o=>some o
  | none=>ak b j
 | [],b=>rfl
 | (k,o)::r,b=>by
  simp only[oG,ak];split
  .rfl
  .exact nQ j r b
section
variable{P:Program}[bE P]
def dU{f:FuncId}{args0 args:List AV}{σ0 σ2 σ1 σ3:List (Nat×au)}{Sb:Nat->Prop}{r1 r3:AV}{d:Option Nat}{s:St}{K:St->Prop}
  (h:bA P f args0 σ0 Sb (λr σ'=>r=r1/\σ'=σ1)) (ps:List (Nat×Nat)) (ks:List Nat)
  (ha:args.map (jI (bw ps))=args0) (hσ:jH (bw ps) σ2=σ0) (hr:jI (fw ps) r1=r3) (h3:jH (fw ps) σ1=σ3)
  (hin:∀p∈σ2,ak s.heap p.1=some p.2)
  (hout:∀p∈σ3,(Sb (bw ps p.1)/\(ak σ2 p.1).isSome=true)\/(p.1∈ks/\(p.1<1000\/2000<=p.1)/\((ak σ2 p.1).isSome=true\/ak s.heap p.1=none)))
  (hall:∀p∈σ2,(ak σ3 p.1).isSome=true)
  (hk:K ((St.mk (jG ks s.env) (σ3++jm ks s.heap)).put d r3)):cO P f args d s K:=by
 have h':=h.ren (args2:=args) (σ2:=σ2) (fw ps) (bw ps) (Dt ps) (Hq ps) ha hσ;refine .inl (.inr ⟨σ2,_,_,ks,h',λid o hh=>hin (id,o) (gy hh),?_,?_⟩)
 .rintro r σ' ⟨r0,σ4,⟨rfl,rfl⟩,rfl,rfl⟩ id hid;rw[h3]at hid;obtain⟨o,ho⟩:=Bv.1 hid;exact hout (id,o) (gy ho)
 .rintro r σ' ⟨r0,σ4,⟨rfl,rfl⟩,rfl,rfl⟩;rw[hr,h3];refine⟨⟨jG ks s.env,σ3++jm ks s.heap⟩,λk=>vt k ks s.env,λj=>?_,hk⟩;simp only[nQ,NL];cases hn:ak σ3 j with
  | some o=>rfl
  | none =>
   simp only;by_cases h2:(ak σ2 j).isSome=true
   .obtain⟨o,ho⟩:=Bv.1 h2;have:=hall (j,o) (gy ho);simp only at this;rw[hn]at this;cases this
   .rw[an h2,ra]
def gZ{f:FuncId}{args:List AV}{σ0 σ1:List (Nat×au)}{Sb:Nat->Prop}{r1:AV}{d:Option Nat}{s:St}{K:St->Prop}
  (h:bA P f args σ0 Sb (λr σ'=>r=r1/\σ'=σ1)) (ks:List Nat)
  (hin:∀p∈σ0,ak s.heap p.1=some p.2)
  (hout:∀p∈σ1,(Sb p.1/\(ak σ0 p.1).isSome=true)\/(p.1∈ks/\(p.1<1000\/2000<=p.1)/\((ak σ0 p.1).isSome=true\/ak s.heap p.1=none)))
  (hall:∀p∈σ0,(ak σ1 p.1).isSome=true)
  (hk:K ((St.mk (jG ks s.env) (σ1++jm ks s.heap)).put d r1)):cO P f args d s K:=by
 refine .inl (.inr ⟨σ0,_,_,ks,h,λid o hh=>hin (id,o) (gy hh),?_,?_⟩)
 .rintro r σ' ⟨rfl,rfl⟩ id hid;obtain⟨o,ho⟩:=Bv.1 hid;exact hout (id,o) (gy ho)
 .rintro r σ' ⟨rfl,rfl⟩;refine⟨⟨jG ks s.env,σ'++jm ks s.heap⟩,λk=>vt k ks s.env,λj=>?_,hk⟩;simp only[nQ,NL];cases hn:ak σ' j with
  | some o=>rfl
  | none =>
   simp only;by_cases h2:(ak σ0 j).isSome=true
   .obtain⟨o,ho⟩:=Bv.1 h2;have:=hall (j,o) (gy ho);simp only at this;rw[hn]at this;cases this
   .rw[an h2,ra]
def adN{f:FuncId}{args:List AV}{k:Nat}{ob ob':au}{Sb:Nat->Prop}{r:AV}{d:Option Nat}{s:St}{K:St->Prop}
  (h:bA P f args [(k,ob)] Sb (λr' σ'=>r'=r/\σ'=[(k,ob')])) (hs:Sb k) (hk:ak s.heap k=some ob) (hK:K ((St.mk s.env ((k,ob')::s.heap)).put d r)):cO P f args d s K:=by
 refine gZ h [] (λp hp=>?_) (λp hp=>?_) (λp hp=>?_) (by simpa only[jG,jm,oG,gC]using hK)
 .simp only[fS]at hp;subst hp;exact hk
 .simp only[fS]at hp;subst hp;exact .inl ⟨hs,by simp[ak]⟩
 .simp only[fS]at hp;subst hp;simp[ak]
def R1(ρ:Nat->Nat)(x:AV)(hx:jc x=[]):tf ρ x=x:=by cases x<;>first|rfl|(simp[jc]at hx)
def qt{ρ:Nat->Nat}{f:AV->List Nat}{r:AV->AV}(hh:∀x,f x=[]->r x=x):∀l:List AV,l.flatMap f=[]->l.map r=l
 | [],_=>rfl
 | y::l,hl=>by
  simp only[yA,List.append_eq_nil_iff]at hl;simp only[cM,hh y hl.1,qt (ρ:=ρ) hh l hl.2]
def Bd(ρ:Nat->Nat)(x:AV)(hx:iu x=[]):rH ρ x=x:=by
 cases x with
 | fn f caps=>simp only[rH,qt (ρ:=ρ) (R1 ρ) caps hx]
 | _=>first|rfl|(simp[iu,jc]at hx)
def Be(ρ:Nat->Nat)(x:AV)(hx:kx x=[]):u_ ρ x=x:=by
 cases x with
 | agg cells=>simp only[u_,qt (ρ:=ρ) (Bd ρ) cells hx]
 | fn f caps=>exact Bd ρ (.fn f caps) hx
 | _=>first|rfl|(simp[kx,iu,jc]at hx)
def HP(ρ:Nat->Nat)(x:AV)(hx:aV x=[]):jI ρ x=x:=by
 cases x with
 | tup vs=>simp only[jI,qt (ρ:=ρ) (Be ρ) vs hx]
 | agg cells=>exact Be ρ (.agg cells) hx
 | fn f caps=>exact Be ρ (.fn f caps) hx
 | _=>first|rfl|(simp[aV,kx,iu,jc]at hx)
def jf(ρ:Nat->Nat)(o:au)(hx:fG o=[]):od ρ o=o:=by
 unfold od;split
 .rename_i hr;have:∀rows:List (List AV),rows.flatMap (λr=>r.flatMap iu)=[]->rows.map (λr=>r.map (rH ρ))=rows:=λrows=>by
   induction rows with
   | nil=>exact λ_=>rfl
   | cons r l ih =>
    intro hl;simp only[yA,List.append_eq_nil_iff]at hl;simp only[cM,ih hl.2,qt (ρ:=ρ) (Bd ρ) r hl.1]
  simp only[fG,hr,dR]at hx;rw[this _ hx]
 .rfl
def yr(ρ:Nat->Nat):∀l:List AV,(∀x∈l,aV x=[])->l.map (jI ρ)=l
 | [],_=>rfl
 | x::l,h=>by simp only[cM,HP ρ x (h x (by simp)),yr ρ l λy hy=>h y (by simp[hy])]
def bA.at_{f:FuncId}{st:Nat}{rest:List AV}{ob ob':au}{Sb:Nat->Prop}{r:AV}(h:bA P f (.mp 1000 st 0 0::rest) [(1000,ob)] Sb (λr' σ'=>r'=r/\σ'=[(1000,ob')]))
  (hr:aV r=[]) (hrest:∀x∈rest,aV x=[]) (ho:fG ob=[]) (ho':fG ob'=[]) (j:Nat) :
  bA P f (.mp j st 0 0::rest) [(j,ob)] (λid=>Sb (sU 1000 j id)) (λr' σ'=>r'=r/\σ'=[(j,ob')]):=by
 have e1:sU 1000 j 1000=j:=by simp[sU]
 have e2:sU 1000 j j=1000:=by unfold sU;split<;>simp_all
 refine(h.ren (args2:=.mp j st 0 0::rest) (σ2:=[(j,ob)]) (sU 1000 j) (sU 1000 j) (vI _ _) (vI _ _) ?_ ?_).mono (λ_ h=>h) ?_
 .simp only[cM,yr _ rest hrest,jI,u_,rH,tf,e2]
 .simp only[jH,e2,jf _ ob ho]
 .rintro r' σ' ⟨r0,σ0,⟨rfl,rfl⟩,rfl,rfl⟩;exact⟨HP _ _ hr,by simp only[jH,e1,jf _ ob' ho']⟩
def ahf{Sb:Nat->Prop}(j:Nat)(h:Sb 1000):(λid=>Sb (sU 1000 j id)) j:=by
 show Sb (sU 1000 j j);have e2:sU 1000 j j=1000:=by unfold sU;split<;>simp_all
 rw[e2];exact h
def TF{f:FuncId}{st:Nat}{rest:List AV}{ob ob':au}{Sb:Nat->Prop}{r:AV}{j:Nat}{d:Option Nat}{s:St}{K:St->Prop}(h:bA P f (.mp 1000 st 0 0::rest) [(1000,ob)] Sb (λr' σ'=>r'=r/\σ'=[(1000,ob')]))
  (hs:Sb 1000) (hr:aV r=[]) (hrest:∀x∈rest,aV x=[]) (ho:fG ob=[]) (ho':fG ob'=[]) (hk:ak s.heap j=some ob) (hK:K ((St.mk s.env ((j,ob')::s.heap)).put d r)):cO P f (.mp j st 0 0::rest) d s K :=
 adN (h.at_ hr hrest ho ho' j) (ahf j hs) hk hK
def qY{f:FuncId}{st:Nat}{rest:List AV}{ob ob':au}{Sb:Nat->Prop}{r:AV}{j:Nat}{d:Option Nat}{s:St}{K:St->Prop}(h:bA P f (.mp 1000 st 0 0::rest) [(1000,ob)] Sb (λr' σ'=>r'=r/\σ'=[(1000,ob')]))
  (hK:K ((St.mk s.env ((j,ob')::s.heap)).put d r)) (hs:Sb 1000:=by exact⟨by decide,by decide⟩) (hr:aV r=[]:=by first|rfl|exact bJ _) (hrest:∀x∈rest,aV x=[]:=by simp[go_sem]) (ho:fG ob=[]:=by exact rfl) (ho':fG ob'=[]:=by exact rfl)
  (hk:ak s.heap j=some ob:=by rfl):cO P f (.mp j st 0 0::rest) d s K:=TF h hs hr hrest ho ho' hk hK
def fk{f:FuncId}{st:Nat}{rest:List AV}{ob ob':au}{Sb:Nat->Prop}{r:AV}{j:Nat}{d:Option Nat}{s:St}{K:St->Prop}{Q:Prop}(h:bA P f (.mp 1000 st 0 0::rest) [(1000,ob)] Sb (λr' σ'=>r'=r/\σ'=[(1000,ob')]))
  (hk':Q) (hq:K ((St.mk s.env ((j,ob')::s.heap)).put d r)=Q:=by conv=>lhs;simp only[go_sem]) (hs:Sb 1000:=by exact⟨by decide,by decide⟩) (hr:aV r=[]:=by first|rfl|exact bJ _) (hrest:∀x∈rest,aV x=[]:=by simp[go_sem]) (ho:fG ob=[]:=by exact rfl) (ho':fG ob'=[]:=by exact rfl)
  (hk:ak s.heap j=some ob:=by rfl):cO P f (.mp j st 0 0::rest) d s K:=TF h hs hr hrest ho ho' hk (hq.mpr hk')
end
def Wk.new0(s:St)(i st:Nat)(t:TypeId)(hid:i<1000\/2000<=i):Wk s ⟨(s.kill i).env,(i,⟨t,st,[],false⟩)::(s.kill i).heap⟩:=by
 intro c a w hs;obtain⟨bl,hs⟩:=hs.kill i;obtain⟨h1,h2⟩:=gR s i;have hn:=hs.new0 (i:=i) (o:=⟨t,st,[],false⟩) h1 h2 hid rfl rfl;refine⟨_,hn.congr (λ_=>rfl) (λj=>?_)⟩;simp only[ak,fA];by_cases h:i=j
 .rw[az h,az h.symm]
 .rw[an h,an (Ne.symm h)]
def nlm:List AV->List AV->Prop
 | [],[]=>True
 | x::l,y::m=>(x=y\/(x = .nl/\((∃st,y = .sl st [])\/∃id st,y = .ms id st 0 0)))/\nlm l m
 | _,_=>False
def Jo:∀{l m:List AV},nlm l m->m.length=l.length
 | [],[],_=>rfl
 | _::_,_::_,h=>by simp[Jo h.2]
 | [],_::_,h=>h.elim
 | _::_,[],h=>h.elim
def Jn:∀{l m:List AV},nlm l m->∀{j:Nat}{y:AV},m[j]?=some y->∃x,l[j]?=some x/\(x=y\/(x = .nl/\((∃st,y = .sl st [])\/∃id st,y = .ms id st 0 0)))
 | [],[],_,j,y,hy=>by simp at hy
 | x::l,z::m,h,0,y,hy=>by simp at hy;subst hy;exact⟨x,rfl,h.1⟩
 | x::l,z::m,h,j+1,y,hy=>by simpa using Jn h.2 (j:=j) (by simpa using hy)
 | [],_::_,h,_,_,_=>h.elim
 | _::_,[],h,_,_,_=>h.elim
def Wk.nlm(s:St)(i:Nat){t:TypeId}{st:Nat}{r r':List AV}(hi:ak s.heap i=some ⟨t,st,[r],true⟩)(hr:Mw.nlm r r'):Wk s ⟨s.env,(i,⟨t,st,[r'],true⟩)::s.heap⟩:=by
 rintro c a w ⟨bl,hs⟩;have hm:∀b,bQ bl c.MF (ak ((i,⟨t,st,[r'],true⟩)::s.heap)) b↔bQ bl c.MF (ak s.heap) b:=bQ.congr λj=>by
  simp only[ak];split
  .rename_i h;subst h;rw[hi];rfl
  .rfl
 have ht:=Tr.of_iff (w:=w) λb=>(hm b)
 refine⟨bl,hs.defers,hs.size,λj=>(hs.env j).tr ht (λ_ _=>rfl),⟨λj o hj=>?_,λj j' o o' b h1 h2=>?_⟩,hs.step,λj o b h1=>?_,hs.stab,hs.mf⟩
 .simp only[ak]at hj;split at hj
  .rename_i hij;subst hij;cases hj;rcases hs.heap.1 i _ hi with hn|⟨b,g1,⟨gk,c1,fr,g2,g3,g4,g5,g6,g7⟩|hsp⟩
   .cases hn.2.1
   rotate_left
   .cases hsp.isRec
   .refine .inr ⟨b,g1,.inl ⟨gk,c1,fr,g2,g3,g4,λk q hq=>?_,by simpa using g6,λk q u x hu hx=>?_⟩⟩
    .cases k with
     | zero=>simp at hq;subst hq;rw[Jo hr];exact g5 0 r rfl
     | succ k=>simp at hq
    .cases k with
     | succ k=>simp at hu
     | zero =>
      simp at hu;subst hu;obtain⟨x0,h1,h2⟩:=Jn hr hx;obtain⟨v,hv1,hv2⟩:=g7 0 q r x0 rfl h1;refine⟨v,hv1,?_⟩;have hv3:cJ bl (bQ bl c.MF (ak s.heap)) w v x0:=hv2;rcases h2 with h2|⟨h2,⟨st',h3⟩|⟨id,st',h3⟩⟩
      .subst h2;exact hv3.tr ht (λ_ _=>rfl)
      .subst h2 h3;have:IRel (bQ bl c.MF (ak s.heap)) w v .nl:=hv3;exact(IRel.toC (bl:=bl) (IRel.nl_sl this st')).tr ht (λ_ _=>rfl)
      .subst h2 h3;have:IRel (bQ bl c.MF (ak s.heap)) w v .nl:=hv3;cases this;exact .inl ⟨rfl,rfl,rfl⟩
  .rcases hs.heap.1 j o hj with hn|⟨b,g1,⟨gk,c1,fr,g2,g3,g4,g5,g6,g7⟩|hsp⟩
   .exact .inl hn
   rotate_left
   .exact .inr ⟨b,g1,.inr hsp⟩
   .refine .inr ⟨b,g1,.inl ⟨gk,c1,fr,g2,g3,g4,g5,g6,λk q u x hu hx=>?_⟩⟩;obtain⟨v,hv1,hv2⟩:=g7 k q u x hu hx;refine⟨v,hv1,?_⟩;cases hrec:o.isRec<;>simp only[hrec,AE]at hv2⊢
    .exact hv2.tr ht.keep
    .exact hv2.tr ht (λ_ _=>rfl)
 .have key:∀{j:Nat}{o:au},ak ((i,⟨t,st,[r'],true⟩)::s.heap) j=some o->∃o',ak s.heap j=some o':=λ{j o} hj=>by
   simp only[ak]at hj;split at hj
   .rename_i hij;subst hij;exact⟨_,hi⟩
   .exact⟨_,hj⟩
  obtain⟨p1,q1⟩:=key h1;obtain⟨p2,q2⟩:=key h2;exact hs.heap.2 j j' p1 p2 b q1 q2
 .simp only[ak]at h1;split at h1
  .rename_i hij;subst hij;exact hs.own i _ b hi
  .exact hs.own j o b h1
section
variable{P:Program}[bE P]
def gQ{f:FuncId}{args args':List AV}{rk rk' ar ar':au}{Sb:Nat->Prop}{r:AV}{k j:Nat}{d:Option Nat}{s:St}{K:St->Prop}(fs:List Nat)
  (h:bA P f args' [(k,rk),(j,ar)] Sb (λr' σ'=>r'=r/\σ'=[(k,rk'),(j,ar')])) (hkj:k≠j) (hs:Sb k) (hj:j<1000\/2000<=j)
  (ha:args.map (sB fs s)=args') (h1:ak (frzs fs s).heap k=some rk) (h2:ak (frzs fs s).heap j=some ar)
  (hK:K ((St.mk (tc j (frzs fs s).env) ((k,rk')::(j,ar')::td j (frzs fs s).heap)).put d r)):cO P f args d s K:=by
 subst ha;have key:∀p:Nat×au,p∈[(k,rk),(j,ar)]->ak (frzs fs s).heap p.1=some p.2:=λp hp=>by
  simp only[bM,cH,or_false]at hp;rcases hp with rfl|rfl
  .exact h1
  .exact h2
 refine .inr (.inl ⟨fs,.inr ⟨[(k,rk),(j,ar)],_,_,[j],h,λid o hh=>key (id,o) (gy hh),?_,?_⟩⟩)
 .rintro r σ' ⟨rfl,rfl⟩ id hid;simp only[ak]at hid⊢;by_cases hk:k=id
  .subst hk;exact .inl ⟨hs,by simp⟩
  .rw[an hk]at hid;by_cases hq:j=id
   .subst hq;exact .inr ⟨by simp,hj,.inl (by simp[hk])⟩
   .rw[an hq]at hid;cases hid
 .rintro r σ' ⟨rfl,rfl⟩;refine⟨⟨tc j (frzs fs s).env,(k,rk')::(j,ar')::td j (frzs fs s).heap⟩,λq=>by simp only[jD,HK],λq=>?_,hK⟩;simp only[NL,ak];by_cases hk:k=q
  .subst hk;simp
  .simp only[an hk];by_cases hq:j=q
   .subst hq;simp
   .simp only[an hq,gw,Option.isSome_none,lD,ij];congr 1;funext o';exact(HJ j o').symm
end
def eJ.trans{s s' s'':St}{l l' l'':List AV}(h:eJ s l s' l')(h':eJ s' l' s'' l''):eJ s l s'' l'':=λc a w bl vs h1 h2=>by
 obtain⟨bl',h3,h4⟩:=h c a w bl vs h1 h2;exact h' c a w bl' vs h3 h4
def eJ.frzs(fs:List Nat)(s:St)(l:List AV):eJ s l (Mw.frzs fs s) (l.map (sB fs s)):=λc a w bl vs h1 h2=>by
 obtain⟨h3,h4⟩:=aT.frzs fs s h1;exact⟨bl,h3,h2.mapRight λv x hv=>h4 v x hv⟩
def nla(x y:AV):Prop:=x=y\/(x = .nl/\∃st,y = .sl st [])\/∃l m,x = .agg l/\y = .agg m/\nlr l m
def PA{bl:Nat->Option Nat}{M:Nat->Prop}{w:World}:∀{vs:List Value}{l m:List AV},nlr l m->bg (cJ bl M w) vs l->bg (cJ bl M w) vs m
 | [],[],[],_,_=>trivial
 | v::vs,x::l,y::m,h,hr=>by
  refine⟨?_,PA h.2 hr.2⟩;rcases h.1 with rfl|⟨rfl,st,rfl⟩
  .exact hr.1
  .exact IRel.nl_sl (show IRel M w v .nl from hr.1) st
 | [],[],_::_,h,_=>h.elim
 | [],_::_,_,_,hr=>hr.elim
 | _::_,[],_,_,hr=>hr.elim
 | _::_,_::_,[],h,_=>h.elim
def C0{bl:Nat->Option Nat}{M:Nat->Prop}{w:World}{v:Value}{x y:AV}(h:nla x y)(hr:bv bl M w v x):bv bl M w v y:=by
 rcases h with rfl|⟨rfl,st,rfl⟩|⟨l,m,rfl,rfl,h⟩
 .exact hr
 .exact IRel.nl_sl (show IRel M w v .nl from hr) st
 .obtain⟨cs,h1,h2⟩:=hr;exact⟨cs,h1,PA h h2⟩
def LF{bl:Nat->Option Nat}{M:Nat->Prop}{w:World}:∀{vs:List Value}{l m:List AV},bg nla l m->bg (bv bl M w) vs l->bg (bv bl M w) vs m
 | [],[],[],_,_=>trivial
 | v::vs,x::l,y::m,h,hr=>⟨C0 h.1 hr.1,LF h.2 hr.2⟩
 | [],[],_::_,h,_=>h.elim
 | [],_::_,_,_,hr=>hr.elim
 | _::_,[],_,_,hr=>hr.elim
 | _::_,_::_,[],h,_=>h.elim
def eJ.nla{s:St}{l m:List AV}(h:bg Mw.nla l m):eJ s l s m:=λc a w bl vs h1 h2=>⟨bl,h1,LF h h2⟩
section
variable{P:Program}[bE P]
def be{f:FuncId}{args args':List AV}{d:Option Nat}{s s':St}{K:St->Prop}(hw:eJ s args s' args')(h:cO P f args' d s' K):cO P f args d s K:=by
 rcases h with h|⟨fs,h⟩|⟨s'',args'',hw',h⟩
 .exact .inr (.inr ⟨s',args',hw,h⟩)
 .exact .inr (.inr ⟨_,_,hw.trans (eJ.frzs fs s' args'),h⟩)
 .exact .inr (.inr ⟨s'',args'',hw.trans hw',h⟩)
def km{f:FuncId}{args:List AV}(args':List AV){d:Option Nat}{s:St}{K:St->Prop}(hw:bg nla args args')(h:cO P f args' d s K):cO P f args d s K:=be (eJ.nla hw) h
end
def ac{x y:Int}(h:¬x=y):(x==y)=false:=by simpa using h
def aD{x y:Int}(h:x=y):(x==y)=true:=by simpa using h
def aE{x y:Int}(h:¬x=y):(x != y)=true:=by simpa using h
def ay{x y:Int}(h:x=y):(x != y)=false:=by simpa using h
def wn{n m:Int}(h:n=m)(h0:-9223372036854775808<=m)(h1:m<9223372036854775808):IntKind.i64.wrap n=m:=by rw[h];exact wi h0 h1
def aT.nlm{c:sV}{bl:Nat->Option Nat}{a:Act}{w:World}{s:St}(hs:aT c bl (get s.env) (ak s.heap) a w)(i:Nat){t:TypeId}{st:Nat}{r r':List AV}(hi:ak s.heap i=some ⟨t,st,[r],true⟩)(hr:Mw.nlm r r') :
  aT c bl (get s.env) (ak ((i,⟨t,st,[r'],true⟩)::s.heap)) a w/\∀b,bQ bl c.MF (ak ((i,⟨t,st,[r'],true⟩)::s.heap)) b↔bQ bl c.MF (ak s.heap) b:=by
 have hm:∀b,bQ bl c.MF (ak ((i,⟨t,st,[r'],true⟩)::s.heap)) b↔bQ bl c.MF (ak s.heap) b:=bQ.congr λj=>by
  simp only[ak];split
  .rename_i h;subst h;rw[hi];rfl
  .rfl
 have ht:=Tr.of_iff (w:=w) λb=>(hm b)
 refine⟨⟨hs.defers,hs.size,λj=>(hs.env j).tr ht (λ_ _=>rfl),⟨λj o hj=>?_,λj j' o o' b h1 h2=>?_⟩,hs.step,λj o b h1=>?_,hs.stab,hs.mf⟩,hm⟩
 .simp only[ak]at hj;split at hj
  .rename_i hij;subst hij;cases hj;rcases hs.heap.1 i _ hi with hn|⟨b,g1,⟨gk,c1,fr,g2,g3,g4,g5,g6,g7⟩|hsp⟩
   .cases hn.2.1
   rotate_left
   .cases hsp.isRec
   .refine .inr ⟨b,g1,.inl ⟨gk,c1,fr,g2,g3,g4,λk q hq=>?_,by simpa using g6,λk q u x hu hx=>?_⟩⟩
    .cases k with
     | zero=>simp at hq;subst hq;rw[Jo hr];exact g5 0 r rfl
     | succ k=>simp at hq
    .cases k with
     | succ k=>simp at hu
     | zero =>
      simp at hu;subst hu;obtain⟨x0,h1,h2⟩:=Jn hr hx;obtain⟨v,hv1,hv2⟩:=g7 0 q r x0 rfl h1;refine⟨v,hv1,?_⟩;have hv3:cJ bl (bQ bl c.MF (ak s.heap)) w v x0:=hv2;rcases h2 with h2|⟨h2,⟨st',h3⟩|⟨id,st',h3⟩⟩
      .subst h2;exact hv3.tr ht (λ_ _=>rfl)
      .subst h2 h3;have:IRel (bQ bl c.MF (ak s.heap)) w v .nl:=hv3;exact(IRel.toC (bl:=bl) (IRel.nl_sl this st')).tr ht (λ_ _=>rfl)
      .subst h2 h3;have:IRel (bQ bl c.MF (ak s.heap)) w v .nl:=hv3;cases this;exact .inl ⟨rfl,rfl,rfl⟩
  .rcases hs.heap.1 j o hj with hn|⟨b,g1,⟨gk,c1,fr,g2,g3,g4,g5,g6,g7⟩|hsp⟩
   .exact .inl hn
   rotate_left
   .exact .inr ⟨b,g1,.inr hsp⟩
   .refine .inr ⟨b,g1,.inl ⟨gk,c1,fr,g2,g3,g4,g5,g6,λk q u x hu hx=>?_⟩⟩;obtain⟨v,hv1,hv2⟩:=g7 k q u x hu hx;refine⟨v,hv1,?_⟩;cases hrec:o.isRec<;>simp only[hrec,AE]at hv2⊢
    .exact hv2.tr ht.keep
    .exact hv2.tr ht (λ_ _=>rfl)
 .have key:∀{j:Nat}{o:au},ak ((i,⟨t,st,[r'],true⟩)::s.heap) j=some o->∃o',ak s.heap j=some o':=λ{j o} hj=>by
   simp only[ak]at hj;split at hj
   .rename_i hij;subst hij;exact⟨_,hi⟩
   .exact⟨_,hj⟩
  obtain⟨p1,q1⟩:=key h1;obtain⟨p2,q2⟩:=key h2;exact hs.heap.2 j j' p1 p2 b q1 q2
 .simp only[ak]at h1;split at h1
  .rename_i hij;subst hij;exact hs.own i _ b hi
  .exact hs.own j o b h1
def VRels.tr{bl bl':Nat->Option Nat}{M M':Nat->Prop}{w:World}(ht:Tr M M' w w):∀{vs:List Value}{l:List AV},bg (bv bl M w) vs l->(∀x∈l,∀id,mV id x=true->bl' id=bl id)->bg (bv bl' M' w) vs l
 | [],[],_,_=>trivial
 | _::_,_::_,h,hb=>⟨h.1.tr ht (hb _ (by simp)),VRels.tr ht h.2 λx hx=>hb x (by simp[hx])⟩
 | [],_::_,h,_=>h.elim
 | _::_,[],h,_=>h.elim
def eJ.nlm(s:St)(l:List AV)(i:Nat){t:TypeId}{st:Nat}{r r':List AV}(hi:ak s.heap i=some ⟨t,st,[r],true⟩)(hr:Mw.nlm r r'):eJ s l ⟨s.env,(i,⟨t,st,[r'],true⟩)::s.heap⟩ l:=λc a w bl vs h1 h2=>by
 obtain⟨h3,hm⟩:=h1.nlm i hi hr;exact⟨bl,h3,VRels.tr (Tr.of_iff hm) h2 λ_ _ _ _=>rfl⟩
def eJ.new0(s:St)(l:List AV)(i st:Nat)(t:TypeId)(hid:i<1000\/2000<=i)(hl:∀x∈l,i∉aV x):eJ s l ⟨(s.kill i).env,(i,⟨t,st,[],false⟩)::(s.kill i).heap⟩ l:=λc a w bl vs hs h2=>by
 have hk:=hs.kill i;have hu:=pH i (get s.env) (ak s.heap);have hn:=hk.new0 (i:=i) (o:=⟨t,st,[],false⟩) (by simp) hu hid rfl rfl;have e1:∀k,get (s.kill i).env k=jU i (get s.env k):=λk=>by simp only[St.kill,jD]
 have e2:∀j,ak ((i,⟨t,st,[],false⟩)::(s.kill i).heap) j=fA (λj=>if j=i then none else(ak s.heap j).map (ff i)) i (some ⟨t,st,[],false⟩) j:=λj=>by
  simp only[ak,fA,St.kill,gw,fe];by_cases h:i=j
  .subst h;simp
  .have h':¬j=i:=λe=>h e.symm;simp[h,h']
 refine⟨fA bl i none,hn.congr e1 e2,?_⟩;have hM:∀b,bQ (fA bl i none) c.MF (ak ((i,⟨t,st,[],false⟩)::(s.kill i).heap)) b->bQ bl c.MF (ak s.heap) b:=λb hb=>by
  rcases hb with hb|⟨j,o,h3,h4⟩
  .exact .inl hb
  .rw[e2]at h3;by_cases hj:j=i
   .subst hj;simp[fA]at h4
   .rw[cZ _ _ hj]at h4;rw[cZ _ _ hj]at h3;simp only[hj,ij,eS]at h3;obtain⟨o',h5,_⟩:=h3;exact .inr ⟨j,o',h5,h4⟩
 have ht:Tr (bQ bl c.MF (ak s.heap)) (bQ (fA bl i none) c.MF (ak ((i,⟨t,st,[],false⟩)::(s.kill i).heap))) w w:=⟨λb hb _=>⟨λh=>hb (hM b h),rfl⟩,λb cc t fr h=>⟨cc,fr,h,rfl⟩⟩
 exact VRels.tr ht h2 λx hx id hid=>cZ _ _ λe=>hl x hx (by rw[<-e];exact py hid)
attribute[go_sem] dk ol decide_eq_false_iff_not beq_self_eq_true Nat.lt_add_one Nat.reduceEqDiff Nat.reduceLT reduceCtorEq Nat.reduceAdd Nat.reduceLeDiff Nat.reduceBEq Nat.reduceBNe Int.reduceNeg Int.reduceToNat Int.reduceBEq Int.reduceBNe bne_self_eq_false lD
attribute[go_sem ↓] reduceIte
def sb(id:Nat):Prop:=1000<=id/\id<2000
def inI(n:Int):Prop:=-9223372036854775808<=n/\n<9223372036854775808
section
abbrev No:Nat->Prop:=λ_=>False
def CK(T:Nat->Prop)(N:Nat)(W W':World):Prop:=W.heap.size<=W'.heap.size/\(∀(b:Nat)(c:Array Value)(t:TypeId)(fr:Nat×Nat),N<=b->W.heap[b]?=some (.cells c t fr)->W'.heap[b]?=some (.cells c t fr))/\∀b,T b->W'.heap[b]? = W.heap[b]?
section
variable{T:Nat->Prop}
def CK.refl(N:Nat)(W:World):CK T N W W:=⟨aQ _,λ_ _ _ _ _ h=>h,λ_ _=>rfl⟩
def CK.trans{N:Nat}{A B C:World}(h:CK T N A B)(k:CK T N B C):CK T N A C:=⟨gD h.1 k.1,λb c t fr hb hc=>k.2.1 b c t fr hb (h.2.1 b c t fr hb hc),λb hb=>(k.2.2 b hb).trans (h.2.2 b hb)⟩
def CK.mono{N N':Nat}{A B:World}(h:CK T N A B)(hn:N<=N'):CK T N' A B:=⟨h.1,λb c t fr hb=>h.2.1 b c t fr (gD hn hb),h.2.2⟩
def CK.putObj(N:Nat)(W:World)(l:Nat)(o o':Obj)(hl:W.heap[l]?=some o)(ho:o.isCells=false)(hT:∀b,T b->b<l):CK T N W (W.putObj l o'):=by
 have hlt:=(kT.1 hl).1;refine⟨(grownBy_putObj' W l o').size,λb c t fr _ hb=>?_,λb hb=>World.putObj_heap_other (by have:=hT b hb;omega)⟩;by_cases e:b=l
 .subst e;rw[hl]at hb;cases hb;simp[Obj.isCells]at ho
 .rw[World.putObj_heap_other (by omega)];exact hb
end
def jb.ofAlloc(w:World)(o:Obj):jb No w (w.alloc o) where
 size:=by simp
 keep b hb _:=by rw[World.alloc];simp[Fq,Nat.ne_of_lt hb]
 shape b c t fr hb:=⟨c,fr,by
  have hlt:=bp hb;rw[World.alloc];simp[Fq,Nat.ne_of_lt hlt,hb],rfl⟩
 os:=rfl
 out:=rfl
def jb.one{A B C:World}(h:jb No A B)(k:jb No B C):jb No A C:=h.trans k λ_ _ h=>h.elim
def ahh{α:Type}(n:Nat)(P:Program)[bE P](g:Nat)(lb:Array Value)(encs:α->Array Value)(E:List α)(w:World):Prop :=
 ∀(l:Nat)(J Jx:List α->World->Prop)(W:World),(bE.T P).H W->jb No w W->(∀s A B,J s A->jb No A B->J s B)->(∀s A B,Jx s A->jb No A B->Jx s B) ->
  (∀ib x W1,J ib W1->ib++[x] <+: E->YieldAt Fence.wide (n-1) P l (encs x) W1 λe W' =>
   (e = .returned (.bool true)/\J (ib++[x]) W'/\CK (bE.T P).B W.heap.size W1 W')\/(e = .returned (.bool false)/\Jx (ib++[x]) W')) ->
  J [] W ->
  CallsIn Fence.wide n P g (#[.func (.yield l) #[] #[]]++lb) W λe W'=>(∃v,e = .returned v)/\(J E W'\/(∃ib,ib <+: E/\Jx ib W'))
variable{n:Nat}{P:Program}[bE P]
def Sq{α:Type}{g:Operand}{ps:Array Tmp}{assign body:Code}{Q:Exit->Act->World->Prop}{a:Act}{w:World}
  (h1:1<=n) (hH:(bE.T P).H w) {gf:Nat} {lb:Array Value} (hg:a.eval g = .func (.func gf) #[] lb) (eg:∀args w,(callFunc gf args).run P w = .ok (.enter gf args) w)
  {encs:α->Array Value} {E:List α} {w0:World} (hseq:ahh (n-1) P gf lb encs E w0) (hb0:jb No w0 w) (hps:∀x,(encs x).size=ps.size)
  (I:List α->World->Prop) (Ix:Code->List α->World->Prop) (hI:∀s A B,I s A->jb No A B->I s B) (hIx:∀c s A B,Ix c s A->jb No A B->Ix c s B)
  (hIp:∀s W l o o',I s W->w.heap.size<=l->W.heap[l]?=some o->o.isCells=false->I s (W.putObj l o')) (hIxp:∀c s W l o o',Ix c s W->w.heap.size<=l->W.heap[l]?=some o->o.isCells=false->Ix c s (W.putObj l o'))
  (h0:I [] w) (a₁:α->Act)
  (hassign:∀(l:Nat)(x:α)(W:World)(K:Act->World->Prop),K (a₁ x) W ->
   assign.wpIn (Fence.wide.inRound l) (n-1-1) P (Exit.then K (λ_ _ _=>False)) {tmps:=(ps.zip (encs x)).foldl (λt (p,v)=>t.setIfInBounds p v) a.tmps,defers:=[]} W)
  (hbody:∀(l:Nat)(ib:List α)(x:α)(W:World),I ib W->ib++[x] <+: E->body.wpIn (Fence.wide.inRound l) (n-1-1) P (ownPostK (CK (bE.T P).B w.heap.size) I Ix (ib++[x]) W) (a₁ x) W)
  (hdone:∀(D:Nat)(W:World),w.heap.size<=D->I E W->W.heap[D]?=some (.deferred (some []))->Q .normal {a with defers:={target:=.collected D,args:=#[]}::a.defers} W)
  (hstop:∀(D:Nat)(c:Code)(ib:List α)(W:World),w.heap.size<=D->ib <+: E->Ix c ib W->W.heap[D]?=some (.deferred (some []))->c.wpIn Fence.wide n P Q {a with defers:={target:=.collected D,args:=#[]}::a.defers} W) :
  (Code.rangeFunc g ps assign body).wpIn Fence.wide n P Q a w:=by
 refine wpIn_rangeFunc ?_;intro fn hfn;rw[show Fence.wide.round=none from rfl];obtain⟨rec,hrec⟩:∃rec:LoopState->Option Code->Loop,rec=λst pe=>{state:=st,pending:=pe,fn,tmps:=a.tmps,params:=ps,assign,body,defers:=w.heap.size}:=⟨_,rfl⟩
 obtain⟨W1,hW1⟩:∃W1,(w.alloc (.deferred (some []))).alloc (.loop (rec .ready none))=W1:=⟨_,rfl⟩
 have hL1:W1.heap[w.heap.size+1]?=some (.loop (rec .ready none)):=by
  rw[<-hW1];have:=World.alloc_heap_new (w.alloc (.deferred (some []))) (.loop (rec .ready none));rwa[World.size_alloc]at this
 have hK1:W1.heap[w.heap.size]?=some (.deferred (some [])):=by
  rw[<-hW1];exact(Below.heap_alloc _ _ _ (by simp)).trans (World.alloc_heap_new w _)
 have hs1:jb No w W1:=by rw[<-hW1];exact(jb.ofAlloc _ _).one (jb.ofAlloc _ _)
 have hlow:∀b,(bE.T P).B b->b<w.heap.size+1:=λb hb=>Nat.lt_succ_of_lt ((bE.T P).low _ hH b hb);have hz1:W1.heap.size=w.heap.size+2:=by rw[<-hW1];simp
 refine⟨w.heap.size+1,[{target:=.collected w.heap.size,args:=#[]}],W1,{target:=.fn (.func gf) lb,args:=#[.func (.yield (w.heap.size+1)) #[] #[]]},W1,gf,
  #[.func (.yield (w.heap.size+1)) #[] #[]]++lb,W1,?_,?_,?_,?_,λ_=>h1,?_⟩
 .rw[<-hW1,hrec];exact run_enterLoop_outer _ _ _ _ _
 .simp only[resolve,hg];simp[go_sem]
 .intro f' hf';trivial
 .simp[invoke,go_sem,eg]
 .have kp:∀{l:Nat}{o:Obj}{A B:World},jb No A B->A.heap[l]?=some o->B.heap[l]?=some o:=λ{l o A B} hs h=>by
   rw[hs.keep l (kT.1 h).1 (λh=>h)];exact h
  refine(hseq (w.heap.size+1)
   (λib W=>I ib W/\W.heap[w.heap.size+1]?=some (.loop (rec .ready none))/\W.heap[w.heap.size]?=some (.deferred (some [])))
   (λib W=>∃c,Ix c ib W/\W.heap[w.heap.size+1]?=some (.loop (rec .done (some c)))/\W.heap[w.heap.size]?=some (.deferred (some [])))
   W1 ((bE.T P).stay _ _ hH λb hb=>hs1.keep b ((bE.T P).low _ hH b hb) (λh=>h)) (hb0.one hs1)
   (λs A B hs hg'=>⟨hI s A B hs.1 hg',kp hg' hs.2.1,kp hg' hs.2.2⟩)
   (λs A B hs hg'=>by
    obtain⟨c,hc,hl,hk⟩:=hs;exact⟨c,hIx c s A B hc hg',kp hg' hl,kp hg' hk⟩)
   ?_ ⟨hI _ _ _ h0 hs1,hL1,hK1⟩).mono ?_
  ·
   rintro ib x W ⟨hi,hl,hk⟩ hlen;have hlt:w.heap.size+1<W.heap.size:=(kT.1 hl).1;have hy:=run_yield (P:=P) (args:=encs x) hl (by rw[hrec];exact hps x);rw[hrec]at hy;refine⟨fn,_,assign,body,hy,roundIn_of_wpIn hfn (hassign _ x W _ ⟨_,run_beginRound hl (by rw[hrec]),?_⟩)⟩;have hl2:(W.putObj (w.heap.size+1) (.loop {rec .ready none with state:=.busy})).heap[w.heap.size+1]?=some (.loop {rec .ready none with state:=.busy}):=World.putObj_heap_same hlt;have hk2:(W.putObj (w.heap.size+1) (.loop {rec .ready none with state:=.busy})).heap[w.heap.size]?=some (.deferred (some [])):=(World.putObj_heap_other (by omega)).trans hk;have hw2:CK (bE.T P).B w.heap.size W (W.putObj (w.heap.size+1) (.loop {rec .ready none with state:=.busy})):=CK.putObj _ _ _ _ _ hl rfl hlow;refine wpIn_mono (hbody _ ib x _ (hIp _ _ _ _ _ hi (by omega) hl rfl) hlen) ?_;have fin:∀(jump:Option Code)(W3:World),KeepsOthers (W.putObj (w.heap.size+1) (.loop {rec .ready none with state:=.busy})) W3 ->
     (Instr.endRound (w.heap.size+1) jump).run P W3 = .ok (.bool jump.isNone) (W3.putObj (w.heap.size+1) (.loop (rec (if jump.isNone then .ready else .done) jump))) /\
     W3.heap[w.heap.size+1]?=some (.loop {rec .ready none with state:=.busy}) /\
     (W3.putObj (w.heap.size+1) (.loop (rec (if jump.isNone then .ready else .done) jump))).heap[w.heap.size+1]?=some (.loop (rec (if jump.isNone then .ready else .done) jump)) /\
     (W3.putObj (w.heap.size+1) (.loop (rec (if jump.isNone then .ready else .done) jump))).heap[w.heap.size]?=some (.deferred (some [])):=λjump W3 hk3=>by
    have hl3:=hk3.same _ _ hl2 rfl;have:=run_endRound (P:=P) jump hl3;rw[hrec]at this⊢;exact⟨this,by rw[hrec]at hl3;exact hl3,World.putObj_heap_same (kT.1 hl3).1,(World.putObj_heap_other (by omega)).trans (hk3.same _ _ hk2 rfl)⟩
   rintro e a3 W3 hp;cases e with
   | normal =>
    obtain⟨hk3,hkp3,hi3⟩:=hp;obtain⟨hr,hl3,hl4,hk4⟩:=fin none W3 hk3;exact⟨_,_,hr,.inl ⟨rfl,⟨hIp _ _ _ _ _ hi3 (by omega) hl3 rfl,hl4,hk4⟩,((hw2.trans hkp3).trans (CK.putObj _ _ _ _ _ hl3 rfl hlow)).mono (by omega)⟩⟩
   | ret =>
    obtain⟨hk3,hi3⟩:=hp;obtain⟨hr,hl3,hl4,hk4⟩:=fin (some .ret) W3 hk3;exact⟨_,_,hr,.inr ⟨rfl,.ret,hIxp _ _ _ _ _ _ hi3 (by omega) hl3 rfl,hl4,hk4⟩⟩
   | exit id =>
    obtain⟨hk3,hi3⟩:=hp;obtain⟨hr,hl3,hl4,hk4⟩:=fin (some (.exit id)) W3 hk3;exact⟨_,_,hr,.inr ⟨rfl,.exit id,hIxp _ _ _ _ _ _ hi3 (by omega) hl3 rfl,hl4,hk4⟩⟩
   | goto t =>
    obtain⟨hk3,hi3⟩:=hp;obtain⟨hr,hl3,hl4,hk4⟩:=fin (some (.goto t)) W3 hk3;exact⟨_,_,hr,.inr ⟨rfl,.goto t,hIxp _ _ _ _ _ _ hi3 (by omega) hl3 rfl,hl4,hk4⟩⟩
   | panic ch=>exact hp.elim
   | outgrown=>exact hp.elim
  ·
   rintro e W2 ⟨⟨v,rfl⟩,(⟨hi,hl,hk⟩|⟨ib,hSp,c,hi,hl,hk⟩)⟩
   .exact⟨none,_,by have:=run_endLoop (P:=P) hl (by rw[hrec];simp);rw[hrec]at this;exact this,hdone _ _ (aQ _) (hIp _ _ _ _ _ hi (by omega) hl rfl) ((World.putObj_heap_other (by omega)).trans hk)⟩
   .exact⟨some c,_,by have:=run_endLoop (P:=P) hl (by rw[hrec];simp);rw[hrec]at this;exact this,hstop _ c ib _ (aQ _) hSp (hIxp _ _ _ _ _ _ hi (by omega) hl rfl) ((World.putObj_heap_other (by omega)).trans hk)⟩
def Wh(P:Program)[bE P](w:World):Nat->Prop:=λb=>b<w.heap.size/\¬(bE.T P).B b
def aj.run{f:FuncId}{args:List AV}{r:AV}(h:aj P f args r)(w:World)(hH:(bE.T P).H w){cargs:List Value}(ha:bg (bv (λ_=>none) (Wh P w) w) cargs args) :
  Calls P f cargs.toArray w λe w'=>∃v,e = .returned v/\bv (λ_=>none) (Wh P w) w' v r/\jb No w w':=by
 have hm:∀(bl:Nat->Option Nat) b,bQ bl (Wh P w) (ak []) b↔Wh P w b:=λbl b=>ja _ b
 refine(h (λ_=>none) (Wh P w) w cargs hH (λb hb hm'=>((hm _ b).1 hm').2 hb) ⟨λid o hi=>by simp[ak]at hi,λid id' o o' b hi=>by simp[ak]at hi⟩ (λb hb=>hb.1)
  (ha.mono λ_ _ _ hr=>hr.tr (Tr.of_iff (λb=>hm _ b)) (λ_ _=>rfl))).mono λe w' hh=>?_
 obtain⟨v,r',σ',bl',rfl,⟨rfl,rfl⟩,hcl,_,hv,hst,_,_⟩:=hh;refine⟨v,rfl,hv.tr (Tr.of_iff (λb=>(hm _ b).symm)) (λid hid=>?_),⟨hst.size,λb hb _=>hst.keep b hb (λhx=>by obtain⟨id,o,hi,_⟩:=hx;simp[ak]at hi),hst.shape,hst.os,hst.out⟩⟩;have:=hcl.1 id (py hid);simp[ak]at this
def aj.of{f:FuncId}{args:List AV}{r:AV} (h:∀(w:World)(bl:Nat->Option Nat)(M:Nat->Prop)(cargs:List Value),(bE.T P).H w->(∀b,M b->b<w.heap.size)->bg (bv bl M w) cargs args ->
   Calls P f cargs.toArray w λe w'=>∃v,e = .returned v/\jb No w w'/\bv (λ_=>none) M w' v r) (hid:aV r=[]):aj P f args r:=by
 intro bl MF w cargs hH _ _ hMF ha;have hm:∀(bl:Nat->Option Nat) b,bQ bl MF (ak []) b↔MF b:=λbl b=>ja _ b;refine(h w bl MF cargs hH hMF (ha.mono λ_ _ _ hr=>hr.tr (Tr.of_iff (λb=>(hm _ b).symm)) (λ_ _=>rfl))).mono λe w' hh=>?_;obtain⟨v,rfl,hst,hv⟩:=hh;refine⟨v,r,[],bl,rfl,⟨rfl,rfl⟩,(⟨λi hi=>(by rw[hid]at hi;cases hi),λp hp=>absurd hp cH⟩:tj r []),⟨λid o hi=>by simp[ak]at hi,λid id' o o' b hi=>by simp[ak]at hi⟩,?_,?_,λid o b hi=>by simp[ak]at hi,λ_ h=>h.elim⟩
 .refine hv.tr (Tr.of_iff (λb=>hm _ b)) (λid hi=>?_);have:=py hi;rw[hid]at this;cases this
 .exact⟨hst.size,λb hb _=>hst.keep b hb (λh=>h),hst.shape,hst.os,hst.out⟩
def QF{f:FuncId}{args:List AV}{d:Option Nat}{s:St}{K:St->Prop}{Sb:Nat->Prop}{id st len:Nat}{o:au}(h:bA P f args [] Sb (λr σ'=>r = .ms id st 0 len/\σ'=[(id,o)]))(ho:fG o=[])(hargs:∀x∈args,aV x=[])
  (j:Nat) (hj:j<1000\/2000<=j) (hfree:ak s.heap j=none) (hk:K ((St.mk (tc j s.env) ((j,o)::td j s.heap)).put d (.ms j st 0 len))):cO P f args d s K:=by
 have e1:sU id j id=j:=by simp[sU]
 refine dU (σ2:=[]) (r3:=.ms j st 0 len) (σ3:=[(j,o)]) h [(id,j)] [j] (yr _ args hargs) rfl ?_ ?_ (λp hp=>by cases hp) (λp hp=>?_) (λp hp=>by cases hp) ?_
 .simp only[fw,jI,u_,rH,tf,e1]
 .simp only[jH,fw,e1,jf _ o ho]
 .simp only[fS]at hp;subst hp;exact .inr ⟨by simp,hj,.inr hfree⟩
 .simpa only[jG,jm,oG,gC]using hk
end
section
def KpA(T:Nat->Prop)(N:Nat)(W W':World):Prop:=W.heap.size<=W'.heap.size/\(∀(b:Nat)(o:Obj),N<=b->W.heap[b]?=some o->W'.heap[b]?=some o)/\∀b,T b->W'.heap[b]? = W.heap[b]?
section
variable{T:Nat->Prop}
end
variable{n:Nat}{P:Program}[bE P]
end
section
variable{P:Program}[bE P]{X:Type}
def Y1{f:FuncId}{args:List AV}{Sb:Nat->Prop}{r:X->AV}{Q:X->Prop}{d:Option Nat}{s:St}{K:St->Prop}
  (h:bA P f args [] Sb (λr' σ'=>∃x,Q x/\r'=r x/\σ'=[])) (hK:∀x,Q x->K (s.put d (r x))):cO P f args d s K:=by
 refine .inl (.inr ⟨[],_,_,[],h,(λid o hh=>by cases hh),?_,?_⟩)
 .rintro r' σ' ⟨x,hx,rfl,rfl⟩ id hid;cases hid
 .rintro r' σ' ⟨x,hx,rfl,rfl⟩;refine⟨⟨jG [] s.env,jm [] s.heap⟩,λk=>vt k [] s.env,λi=>?_,hK x hx⟩;show ak (jm [] s.heap) i=Option.map (jn []) (ak s.heap i);rw[ra]
end
inductive Nd:AV->AV->Prop where
 | rfl (x:AV):Nd x x
 | nl (st:Nat):Nd .nl (.sl st [])
 | sl (st:Nat) (rows rows':List (List AV)) (hl:rows.length=rows'.length) (hr:∀(i:Nat)(r r':List AV),rows[i]?=some r->rows'[i]?=some r'->r.length=r'.length)
    (hx:∀(i j:Nat)(r r':List AV)(x y:AV),rows[i]?=some r->rows'[i]?=some r'->r[j]?=some x->r'[j]?=some y->Nd x y):Nd (.sl st rows) (.sl st rows')
def IRel.nd{M:Nat->Prop}{w:World}{x y:AV}(h:Nd x y):∀{v:Value},IRel M w v x->IRel M w v y:=by
 induction h with
 | rfl x=>exact λh=>h
 | nl st=>exact λh=>IRel.nl_sl h st
 | sl st rows rows' hl hr hx ih =>
  intro v h;cases h with
  | nls=>obtain rfl:rows'=[]:=Sv (by simpa using hl.symm);exact .nls st
  | sl0 _ a cap=>obtain rfl:rows'=[]:=Sv (by simpa using hl.symm);exact .sl0 st a cap
  | sl b off cap _ c t fr _ vs hb hM hle hrl hv hxx =>
   rw[hl];have get:∀{i:Nat}{r':List AV},rows'[i]?=some r'->∃r,rows[i]?=some r:=λ{i r'} h=>by
    have hi:i<rows'.length:=by
     rcases kU i rows'.length with q|q
     .exact q
     .rw[MI q]at h;cases h
    exact⟨rows[i]'(by omega),kS _⟩
   refine .sl b off cap st c t fr rows' vs hb hM (by omega) (λi r' hi=>?_) (λi j hi hj=>hv i j (by omega) hj) (λi j r' y hi hj=>?_)
   .obtain⟨r,hr2⟩:=get hi;rw[<-hr i r r' hr2 hi];exact hrl i r hr2
   .obtain⟨r,hr2⟩:=get hi;have hjl:j<r.length:=by
     rw[hr i r r' hr2 hi];rcases kU j r'.length with q|q
     .exact q
     .rw[MI q]at hj;cases hj
    exact ih i j r r' _ y hr2 hi (kS hjl) hj (hxx i j r _ hr2 (kS hjl))
def cJ.nd{bl:Nat->Option Nat}{M:Nat->Prop}{w:World}{v:Value}{x y:AV}(h:Nd x y)(hr:cJ bl M w v x):cJ bl M w v y:=by
 cases h with
 | rfl=>exact hr
 | nl st=>exact IRel.nd (.nl st) (show IRel M w v .nl from hr)
 | sl st rows rows' h1 h2 h3=>exact IRel.nd (.sl st rows rows' h1 h2 h3) (show IRel M w v (.sl st rows) from hr)
def nld(x y:AV):Prop:=Nd x y\/∃l m,x = .agg l/\y = .agg m/\bg Nd l m
def aaH{bl:Nat->Option Nat}{M:Nat->Prop}{w:World}{v:Value}{x y:AV}(h:nld x y)(hr:bv bl M w v x):bv bl M w v y:=by
 rcases h with h|⟨l,m,rfl,rfl,h⟩
 .cases h with
  | rfl=>exact hr
  | nl st=>exact IRel.nd (.nl st) (show IRel M w v .nl from hr)
  | sl st rows rows' h1 h2 h3=>exact IRel.nd (.sl st rows rows' h1 h2 h3) (show IRel M w v (.sl st rows) from hr)
 .obtain⟨cs,h1,h2⟩:=hr;refine⟨cs,h1,?_⟩;clear h1
  induction cs generalizing l m with
  | nil=>match l,m,h,h2 with | [],[],_,_=>trivial
  | cons c cs ih=>match l,m,h,h2 with|a::l,b::m,h,h2=>exact⟨cJ.nd h.1 h2.1,ih l m h.2 h2.2⟩
def LG{bl:Nat->Option Nat}{M:Nat->Prop}{w:World}:∀{vs:List Value}{l m:List AV},bg nld l m->bg (bv bl M w) vs l->bg (bv bl M w) vs m
 | [],[],[],_,_=>trivial
 | v::vs,x::l,y::m,h,hr=>⟨aaH h.1 hr.1,LG h.2 hr.2⟩
 | [],[],_::_,h,_=>h.elim
 | [],_::_,_,_,hr=>hr.elim
 | _::_,[],_,_,hr=>hr.elim
 | _::_,_::_,[],h,_=>h.elim
def nN{P:Program}[bE P]{f:FuncId}{xs ys:List AV}{r:AV}(hp:aj P f ys r)(h:bg nld xs ys):aj P f xs r :=
 λbl MF w cargs h1 h2 h3 h4 h5=>hp bl MF w cargs h1 h2 h3 h4 (LG h h5)
def jC(n:Nat):bC->bC
 | .draw ops al dr=>match ops with
  | ⟨⟨some d,op,g⟩,b⟩::r=>if d=n then .free (⟨⟨some d,op,g⟩,b⟩::r) al dr else .draw (⟨⟨some d,op,g⟩,b⟩::r) al dr
  | ops=>.draw ops al dr
 | .seq x y=>.seq (jC n x) (jC n y)
 | .cond c x y=>.cond c (jC n x) (jC n y)
 | .block id x=>.block id (jC n x)
 | .loop x=>.loop (jC n x)
 | x=>x
def Nl(n d:Nat)(op:ln)(g:Option (Nat×Bool))(b:List Nat)(r:List aJ)(al:List (Nat×Nat))(dr:List Nat) :
  jC n (.draw (⟨⟨some d,op,g⟩,b⟩::r) al dr)=if d=n then .free (⟨⟨some d,op,g⟩,b⟩::r) al dr else .draw (⟨⟨some d,op,g⟩,b⟩::r) al dr:=bS rfl
def Q4(n:Nat)(x y:bC):jC n (.seq x y) = .seq (jC n x) (jC n y):=bS rfl
def Nk(n:Nat)(c:IV)(x y:bC):jC n (.cond c x y) = .cond c (jC n x) (jC n y):=bS rfl
def Kx(n id:Nat)(x:bC):jC n (.block id x) = .block id (jC n x):=bS rfl
def Nn(n:Nat):jC n .skip = .skip:=bS rfl
def Q3(n:Nat):jC n .ret = .ret:=bS rfl
def Q2(n:Nat)(ops:List bH)(dr:List Nat):jC n (.reg ops dr) = .reg ops dr:=bS rfl
def WU(b:List Nat)(R:List (Nat×aJ)):Bool:=R.all λq=>!b.contains q.1
def WV(b:List Nat):WU b []=true:=bS rfl
def RY(b:List Nat)(i:Nat)(o:aJ)(R:List (Nat×aJ)):WU b ((i,o)::R)=(!b.contains i&&WU b R):=bS rfl
def JI(R:List (Nat×aJ)):List (Nat×aJ)->List (Nat×aJ)
 | []=>[]
 | t::L=>if WU t.2.bef R=true then t::JI R L else JI R L
def WW(R:List (Nat×aJ)):JI R []=[]:=bS rfl
def RZ(R:List (Nat×aJ))(i:Nat)(o:bH)(b:List Nat)(L:List (Nat×aJ)):JI R ((i,⟨o,b⟩)::L)=if WU b R=true then(i,⟨o,b⟩)::JI R L else JI R L:=bS rfl
def aju(R:List (Nat×aJ)):rdy R=JI R R:=by
 have:∀L,L.filter (λt:Nat×aJ=>R.all λq=>!t.2.bef.contains q.1)=JI R L:=by
  intro L
  induction L with
  | nil=>rfl
  | cons t L ih =>
   rw[List.filter_cons,ih];rfl
 exact this R
def DD(i:Nat):List (Nat×aJ)->List (Nat×aJ)
 | []=>[]
 | t::L=>if t.1=i then DD i L else t::DD i L
def TZ(i:Nat):DD i []=[]:=bS rfl
def QT(i j:Nat)(o:aJ)(L:List (Nat×aJ)):DD i ((j,o)::L)=if j=i then DD i L else(j,o)::DD i L:=bS rfl
def xY(R:List (Nat×aJ))(i:Nat):(R.filter λq=>q.1 != i)=DD i R:=by
 induction R with
 | nil=>rfl
 | cons t R ih =>
  rw[List.filter_cons,ih,show DD i (t::R)=if t.1=i then DD i R else t::DD i R from rfl];by_cases h:t.1=i
  .rw[az h,an (by simp[h])]
  .rw[an h,az (by simp[h])]
section
variable{P:Program}[bE P]
def Zn(f:Nat)(R:List (Nat×aJ))(s:St)(K:St->Prop)(i:Nat)(o:bH)(b:List Nat):OY P f R s K (i,⟨o,b⟩)=jR P [o] s (Pm P f (DD i R) K):=by rw[Zo,xY]
def ZI(f:Nat)(R:List (Nat×aJ))(s:St)(K:St->Prop):sD P (f+1) R s K=xo (JI R R) (OY P f R s K):=by rw[ZJ,aju]
def Hd:Nat->List aJ->List (Nat×aJ)
 | _,[]=>[]
 | i,o::r=>(i,o)::Hd (i+1) r
def QW(i:Nat):Hd i []=[]:=bS rfl
def Nf(i:Nat)(o:aJ)(r:List aJ):Hd i (o::r)=(i,o)::Hd (i+1) r:=bS rfl
def AL(r:List aJ):∀i,((r.zipIdx i).map λp=>(p.2,p.1))=Hd i r:=by
 induction r with
 | nil=>intro i;rfl
 | cons o r ih=>intro i;rw[List.zipIdx_cons,cM,ih];rfl
def Rn(ops:List aJ)(al:List (Nat×Nat))(dr:List Nat)(s:St)(K:IX->St->Prop):lz P (.free ops al dr) s K=sD P ops.length (Hd 0 ops) s (NF dr K):=by rw[U8,AL]
end
attribute[go_sem] Nl Q4 Nk Kx Nn Q3 Q2 WV RY WW RZ TZ QT Zn ZH ZI aah Y6 Y7 QW Nf Rn
attribute[go_sem] List.contains_cons List.contains_nil i9 eG
structure Bk(H:Type) where
 f:DataW H->Nat
 str:∀l:List UInt8,l.length<=f (.lit (.string l))
 sl:∀es sp,es.length<=f (.slice es sp)
 sle:∀es sp d,d∈es->f d<=f (.slice es sp)
 ag:∀ps d,d∈ps->f d<=f (.agg ps)
def Ty.bd(B:Nat):Ty->List AV->Prop
 | .str,xs=>∀s,xs=[.str s]->s.length<=B
 | .sl e,xs=>∀st rows,xs=[.sl st rows]->rows.length<=B/\∀r∈rows,e.bd B r
 | .cons f r,xs=>f.bd B (xs.take f.n)/\r.bd B (xs.drop f.n)
 | _,_=>True
def Ty.bdV(B:Nat)(τ:Ty)(x:AV):Prop:=match τ.isRec with
 | true=>∀xs,x = .agg xs->τ.bd B xs
 | false=>τ.bd B [x]
section
variable{H:Type}{enc:TypeId×Value->H}{P:Program}{w:World}{base:Nat}{sp:Nat->Bool}{held:Bool}
end
section
variable{H:Type}{enc:TypeId×Value->H}{P:Program}[bE P]{w:World}{base:Nat}{sp:Nat->Bool}{held:Bool}
end
section
variable{H:Type}{enc:TypeId×Value->H}{P:Program}[bE P]{w:World}
end
def WY(ρ:Nat->Nat):List (Nat×AV)->List (Nat×AV)
 | []=>[]
 | (k,x)::r=>(k,jI ρ x)::WY ρ r
def KD(ρ:Nat->Nat)(k:Nat):∀e:List (Nat×AV),get (WY ρ e) k=jI ρ (get e k)
 | []=>rfl
 | (j,x)::r=>by
  simp only[WY,get];split
  .rfl
  .exact KD ρ k r
def Wk.ren(s:St)(ps:List (Nat×Nat))(h:∀id,1000<=id->id<2000->bw ps id=id):Wk s ⟨WY (fw ps) s.env,jH (fw ps) s.heap⟩:=by
 rintro c a w ⟨bl,hs⟩;have hb:∀i,(λi=>bl (bw ps i)) (fw ps i)=bl i:=λi=>by simp only[Dt]
 have hm:∀b,bQ (λi=>bl (bw ps i)) c.MF (ak (jH (fw ps) s.heap)) b->bQ bl c.MF (ak s.heap) b:=λb hm=>E0 (Dt ps) (Hq ps) hb b hm;refine⟨λi=>bl (bw ps i),hs.defers,hs.size,λk=>?_,E1 (Dt ps) (Hq ps) hs.heap hb hm,hs.step,λid o b hi hq=>?_,λid h1 h2=>?_,hs.mf⟩
 .show bv _ _ _ _ (get (WY (fw ps) s.env) k);rw[KD];exact E4 (hs.env k) hb hm
 .rw[ly (Dt ps) (Hq ps)]at hi;simp only[eS]at hi;obtain⟨o0,h5,_⟩:=hi;exact hs.own _ o0 b h5 hq
 .show bl (bw ps id)=_;rw[h id h1 h2];exact hs.stab id h1 h2
def wOf(P:Program):Nat->TypeId->Bool
 | 0,_=>true
 | f+1,t=>match P.underlying t with
  | some (.slice e)=>decide (0<P.bytesOf e)&&wOf P f e
  | some (.struct fs)=>fs.toList.all λx=>wOf P f x.type
  | _=>true
def MA{H:Type}{P:Program}{e:TypeId}{d:DataW H}{n:Nat}:∀{l:List (DataW H)},d∈l->n∈DataW.weights P e d->n∈DataW.weightsAll P e l
 | x::l,h,hn=>by
  rw[DataW.weightsAll,gW];rcases bM.1 h with rfl|h
  .exact .inl hn
  .exact .inr (MA h hn)
def HW{H:Type}{P:Program}:∀(ts us:List TypeId)(ds gs:List (DataW H)){n:Nat},n∈DataW.weightsEach P ts ds->n∈DataW.weightsEach P (ts++us) (ds++gs)
 | [],us,ds,gs,n,h=>by cases ds<;>simp[DataW.weightsEach]at h
 | t::ts,us,[],gs,n,h=>by simp[DataW.weightsEach]at h
 | t::ts,us,d::ds,gs,n,h=>by
  simp only[oG,DataW.weightsEach,gW]at h⊢;exact h.imp_right λh=>HW ts us ds gs h
def XQ{H:Type}{P:Program}{ts us:List TypeId}{ds gs:List (DataW H)}{B:Nat}(h:(DataW.weightsEach P (ts++us) (ds++gs)).all (·<=B)=true):∀n∈DataW.weightsEach P ts ds,n<=B:=λn hn=>of_decide_eq_true (ii.1 h n (HW ts us ds gs hn))
section
variable{H:Type}{enc:TypeId×Value->H}{P:Program}{w:World}{base:Nat}{sp:Nat->Bool}{held:Bool}
def Ku{B:Nat}{g:TypeId->Option Ty}{h:TypeId->Bool}{r:TypeId->List Value->Option (DataW H×List MemPlace)}
  (ih:∀t cs τ x xs,g t=some τ->h t=true->r t cs=some x->τ.ok xs->bg (IRel (λ_=>False) w) cs xs->(∀n∈DataW.weights P t x.1,n<=B)->τ.bd B xs) (cs:List Value) :
  ∀(fs:List Field)(off:Nat)(τ:Ty)(xs:List (DataW H×List MemPlace))(ys:List AV),Fn g P off fs=some τ->(fs.all λx=>h x.type)=true->(fs.mapM λf=>r f.type ((cs.drop f.offset).take (P.cellsOf f.type)))=some xs ->
   τ.ok ys->bg (IRel (λ_=>False) w) (cs.drop off) ys->(∀n∈DataW.weightsEach P (fs.map (·.type)) (xs.map (·.1)),n<=B)->τ.bd B ys
 | [],off,τ,xs,ys,ht,_,_,_,_,_=>by
  simp only[Fn,dt]at ht;subst ht;trivial
 | f::fs,off,τ,xs,ys,ht,hw,hm,hok,hr,hB=>by
  rw[Cf,dX]at hw;simp only[Fn]at ht;split at ht
  case isFalse=>cases ht
  rename_i hoff;split at ht
  case h_2=>cases ht
  rename_i a b ha hb;split at ht
  case isFalse=>cases ht
  rename_i hsz;cases ht;simp only[List.mapM_cons,bind,vl,pure,dt]at hm;obtain⟨y,h1,zs,h2,rfl⟩:=hm;simp only[cM,DataW.weightsEach,gW]at hB;obtain⟨y1,y2,rfl,o1,o2⟩:=hok;have hl:=Ty.ok_len a y1 o1;have r1:=hr.take a.n;have r2:=hr.drop a.n;rw[List.take_left' hl]at r1;rw[List.drop_left' hl,OE]at r2;refine⟨?_,?_⟩
  .rw[List.take_left' hl];rw[hoff]at h1;rw[hsz]at r1;exact ih _ _ _ _ _ ha hw.1 h1 o1 r1 λn hn=>hB n (.inl hn)
  .rw[List.drop_left' hl];rw[hsz]at r2;exact Ku ih cs fs (off+P.cellsOf f.type) b zs y2 hb hw.2 h2 o2 r2 λn hn=>hB n (.inr hn)
def agG{B:Nat}:∀(fuel f:Nat)(t:TypeId)(cs:List Value)(τ:Ty)(x:DataW H×List MemPlace)(xs:List AV),wy P f t=some τ->wOf P f t=true->DataW.trod enc P w base sp held fuel t cs=some x->τ.ok xs ->
  bg (IRel (λ_=>False) w) cs xs->(∀n∈DataW.weights P t x.1,n<=B)->τ.bd B xs:=by
 intro fuel
 induction fuel with
 | zero=>intro f t cs τ x xs _ _ h;simp[DataW.trod]at h
 | succ fuel ih =>
  intro f t cs τ x xs ht hw h hok hr hB;cases f with
  | zero=>simp[wy]at ht
  | succ f =>
   simp only[wy]at ht;split at ht
   case h_1 hu=>cases ht;trivial
   case h_2 k' hu=>cases ht;trivial
   case h_3 hu =>
    cases ht;unfold DataW.trod at h;split at h<;>rename_i heq<;>first|(rw[hu]at heq;cases heq;done)|(cases h;done)|skip
    rename_i s;split at h
    .cases h;intro s' hs;subst hs;have h1:=hr.1;cases h1;exact hB _ (by simp[DataW.weights])
    .cases h
   case h_4 e hu =>
    simp only[wOf,hu,dX,ol]at hw;split at ht
    case h_2=>cases ht
    rename_i a ha;split at ht
    case isFalse=>cases ht
    rename_i hsz;cases ht;unfold DataW.trod at h;split at h<;>rename_i heq<;>first|(rw[hu]at heq;cases heq;done)|(cases h;done)|skip
    .intro st rows hs;subst hs;have h1:=hr.1;cases h1;exact⟨dx _,λr hr=>by cases hr⟩
    .rename_i e1 ad len cap;rw[hu]at heq;cases heq;simp only at h;split at h
     case isFalse=>cases h
     rename_i hcap;simp only[vl,eS]at h;obtain⟨elems,hel,rest,_,rfl⟩:=h;obtain⟨hlen,ak⟩:=yb hel;intro st rows hs;subst hs;have h1:=hr.1;simp only[DataW.weights,hu,bM,gW]at hB;have hall:∀y∈elems,∀n∈DataW.weights P e y.1,n<=B:=λy hy n hn=>hB n (.inr (.inl (MA (fb.2 ⟨y,hy,rfl⟩) hn)));have hln:elems.length<=B:=by
      have h2:=hB _ (.inl rfl);have h3:=hw.1;rw[bY]at h2;exact gD (gD (Nat.le_add_right _ _) (Nat.le_mul_of_pos_right _ h3)) h2
     have hrok:∀r∈rows,a.ok r:=by
      rcases hok with hok|⟨rows',hok,_,h3⟩
      .cases hok
      .cases hok;exact h3
     have hst:st=a.n\/rows=[]:=by
      rcases hok with hok|⟨rows',hok,_,_⟩
      .cases hok
      .cases hok;exact .inl rfl
     cases h1 with
     | sl0=>exact⟨dx _,λr hr=>by cases hr⟩
     | sl bk of _ _ c tt fr _ vs hb hM hl hrl hv hx =>
      refine⟨by omega,λr hrm=>?_⟩;obtain⟨i,hi,hri⟩:=List.getElem_of_mem hrm;have hri':rows[i]?=some r:=by rw[kS hi,hri]
      obtain⟨y,g1,g2⟩:=ak i (by omega);simp only[vl]at g2;obtain⟨row,g3,g4⟩:=g2;have hym:y∈elems:=rO g1;refine ih f e row a y r ha hw.2 g4 (hrok r hrm) ?_ (hall y hym);have hst':st=a.n:=hst.resolve_right (λh=>by rw[h]at hi;simp at hi);obtain⟨q1,q2⟩:=G9 g3;have hblk:∀(q:Addr) m,(q.add m).block=q.block:=λq m=>by unfold Addr.add;split<;>rfl
      have hoff:∀(q:Addr) m,(q.add m).off=q.off+m:=λq m=>by
       unfold Addr.add;split
       .rename_i hm;simp[hm]
       .rfl
      refine bg.of_get (by rw[q1,Ty.ok_len a r (hrok r hrm),hsz.1]) (λj v x hv' hx'=>?_);have hj:j<P.cellsOf e:=by
       have:=(jh.1 hv').1;omega
      obtain⟨v',p1,p2⟩:=q2 j hj;rw[hv']at p1;cases p1;obtain⟨_,c',t',fr',p3,p4⟩:=Dy p2;rw[hblk,hblk]at p3;simp only at p3;rw[hb]at p3;cases p3;rw[hoff,hoff]at p4;simp only at p4;have:=hv i j hi (by rw[hst',hsz.1];exact hj);rw[hst',hsz.1,p4]at this;cases this;exact hx i j r x hri' hx'
   case h_5 fs hu =>
    simp only[wOf,hu]at hw;split at ht
    case h_2=>cases ht
    rename_i a ha;split at ht
    case isFalse=>cases ht
    rename_i hsz;cases ht;unfold DataW.trod at h;split at h<;>rename_i heq<;>first|(rw[hu]at heq;cases heq;done)|(cases h;done)|skip
    .rename_i cs1 fs1;rw[hu]at heq;cases heq;split at h
     case isFalse=>cases h
     rename_i hcl;simp only[eS]at h;obtain⟨ys,h1,rfl⟩:=h;refine Ku (P:=P) (g:=wy P f) (h:=wOf P f) (r:=λt cs=>DataW.trod enc P w base sp held fuel t cs) (λt cs τ x xs=>ih f t cs τ x xs) _ _ 0 _ ys xs ha hw h1 hok (by simpa using hr) λn hn=>hB n ?_;simpa only[DataW.weights,hu]using hn
   case h_6=>cases ht
end
section
variable{H:Type}{enc:TypeId×Value->H}{P:Program}[bE P]{w:World}{base:Nat}{sp:Nat->Bool}{held:Bool}
def YR{B:Nat}{f:Nat}{t:TypeId}{τ:Ty}{r:Reach}{b:Nat}{v:Value}{d:DataW H}{p:List MemPlace}(ht:wy P f t=some τ)(hw:wOf P f t=true)(hv:Value.okWide P w r b t v)(h:DataW.Trod enc P w base sp held t v d p)(hB:∀n∈DataW.weights P t d,n<=B) :
  ∃x,τ.okV x/\τ.bdV B x/\bv (λ_=>none) (λ_=>False) w v x:=by
 obtain⟨fuel,h⟩:=h;obtain⟨xs,h1,h2⟩:=abR fuel f t _ _ _ ht h;have hb:=agG fuel f t _ _ _ xs ht hw h h1 h2 hB;have one:τ.isRec=false->v.cells.toList=[v]->∃x,τ.okV x/\τ.bdV B x/\bv (λ_=>none) (λ_=>False) w v x:=λhr hc=>by
  rw[hc]at h2
  match xs,h2 with
  | [x],h2=>exact⟨x,by unfold Ty.okV;rw[hr];exact h1,by unfold Ty.bdV;rw[hr];exact hb,h2.1.toV⟩
 cases f with
 | zero=>simp[wy]at ht
 | succ f =>
  simp only[wy]at ht;unfold Value.okWide at hv;split at ht
  .rename_i hu;rw[hu]at hv;cases ht
   exact one rfl (by
    unfold Cell.okWide at hv;rw[hu]at hv;simp only[Cell.ok,hu]at hv;cases v<;>first|rfl|exact hv.elim)
  .rename_i k hu;rw[hu]at hv;cases ht
   exact one rfl (by
    unfold Cell.okWide at hv;rw[hu]at hv;simp only[Cell.ok,hu]at hv;cases v<;>first|rfl|exact hv.elim)
  .rename_i hu;rw[hu]at hv;cases ht
   exact one rfl (by
    unfold Cell.okWide at hv;rw[hu]at hv;simp only[Cell.ok,hu]at hv;cases v<;>first|rfl|exact hv.elim)
  .rename_i e hu;rw[hu]at hv;have hr:τ.isRec=false:=by
    split at ht
    case h_2=>cases ht
    split at ht
    case isFalse=>cases ht
    cases ht;rfl
   exact one hr (by
    unfold Cell.okWide at hv;rw[hu]at hv;simp only[Cell.ok,hu]at hv;cases v<;>first|rfl|exact hv.elim)
  .rename_i fs hu;rw[hu]at hv;have hr:τ.isRec=true:=by
    split at ht
    case h_2=>cases ht
    rename_i hfs;split at ht
    case isFalse=>cases ht
    cases ht;exact Oz hfs
   obtain⟨cs,rfl,_,_⟩:=hv;refine⟨.agg xs,by unfold Ty.okV;rw[hr];exact⟨xs,rfl,h1⟩,by unfold Ty.bdV;rw[hr];intro ys hy;cases hy;exact hb,cs.toList,by simp,?_⟩;exact bg.mono h2 λa x _ h=>h.toC
  .cases ht
def Kh{B:Nat}{r:Reach}{b:Nat}:∀{ts:List TypeId}{τs:List Ty}{vs:List Value}{ds:List (DataW H)}{ps:List MemPlace},bg (λt τ=>wy P 9 t=some τ/\wOf P 9 t=true) ts τs ->
  DataW.TrodAll enc P w base sp held ts vs ds ps->(∀(j:Nat) t v,ts[j]?=some t->vs[j]?=some v->Value.okWide P w r b t v)->(∀n∈DataW.weightsEach P ts ds,n<=B)->∃xs,bg Ty.okV τs xs/\bg (Ty.bdV B) τs xs/\bg (bv (λ_=>none) (λ_=>False) w) vs xs
 | [],[],[],ds,ps,_,h,_,_=>⟨[],trivial,trivial,trivial⟩
 | t::ts,τ::τs,v::vs,d::ds,ps,ht,h,hv,hB=>by
  obtain⟨p,q,h3,h4,rfl⟩:=h;simp only[DataW.weightsEach,gW]at hB;obtain⟨x,h5,h5b,h6⟩:=YR ht.1.1 ht.1.2 (hv 0 t v rfl rfl) h3 λn hn=>hB n (.inl hn);obtain⟨xs,h7,h7b,h8⟩:=Kh ht.2 h4 (λj t v h1 h2=>hv (j+1) t v (by simpa using h1) (by simpa using h2)) λn hn=>hB n (.inr hn);exact⟨x::xs,⟨h5,h7⟩,⟨h5b,h7b⟩,h6,h8⟩
 | [],[],_::_,_,_,_,h,_,_=>h.elim
 | _::_,[],_,_,_,ht,_,_,_=>ht.elim
 | [],_::_,_,_,_,ht,_,_,_=>ht.elim
 | _::_,_::_,[],_,_,_,h,_,_=>h.elim
 | _::_,_::_,_::_,[],_,_,h,_,_=>h.elim
end
section
variable{H:Type}{enc:TypeId×Value->H}{P:Program}[bE P]{w:World}
def FI{B:Nat}{fid:FuncId}{f:Func}{s:ChangeSpec}(τs:List Ty){tb:TypeId}{apart fresh handsOn again:Bool}(hty:bg (λt τ=>wy P 9 t=some τ/\wOf P 9 t=true) f.params.toList τs)(hl:laidOutB P=true)
  (hr:∀t∈f.params.toList,P.readableRec t=true/\t<P.types.size) (hvs:s.vars=[])
  (hfn:∀ds:List (DataW H),ds.length=τs.length->(s.fn H ds).results=[.lit (.bool true)]/\(s.fn H ds).args=ds/\(s.fn H ds).vars=[])
  (hrt:f.resultTypes = #[tb]) (htb:P.underlying tb=some .bool)
  (hp:∀xs,bg Ty.okV τs xs->bg (Ty.bdV B) τs xs->aj P fid xs (.bool true))
  (W:World) (b:Nat) (args:Array Value) (ds gs:List (DataW H)) (before:List MemPlace) {r:Reach} (hT:(bE.T P).H W)
  (hval:∀(j:Nat) t v,f.params[j]?=some t->args[j]?=some v->Value.okWide P W r b t v)
  (hW:DataW.Whole enc P f.params.toList s.vars apart W args.toList ds gs before) (hB:∀n∈DataW.weightsEach P f.params.toList ds,n<=B) :
  Calls P fid args W λe W'=>∃v,e = .returned v/\s.post enc P f apart fresh handsOn again W args v W':=by
 have hW':=hW;obtain⟨p,q,hA,hV,_,_,_⟩:=hW;rw[hvs]at hV;obtain⟨rfl,rfl⟩:=trodVars_none hV;obtain⟨xs,h1,h1b,h2⟩:=Kh hty hA (λj t v h1 h2=>hval j t v (by simpa using h1) (by simpa using h2)) hB;have h4:=hp xs h1 h1b;have hlen:ds.length=τs.length:=by
  have key:∀{ts:List TypeId}{vs:List Value}{ds:List (DataW H)}{ps:List MemPlace},DataW.TrodAll enc P W 0 (λ_=>true) true ts vs ds ps->ds.length=ts.length:=by
   intro ts
   induction ts with
   | nil=>intro vs ds ps h;match vs,ds,h with | [],[],_=>rfl
   | cons t ts ih=>intro vs ds ps h;match vs,ds,h with|v::vs,d::ds,⟨_,_,_,h4,_⟩=>simp[ih h4]
  rw[key hA,hty.length]
 obtain⟨g1,g2,g3⟩:=hfn ds hlen;have:=L1 h4 hT h2;rw[show args.toList.toArray=args from by simp]at this;refine this.mono λe W' ⟨he,hk⟩=>⟨_,he,?_⟩
 exact Vl hl hr hvs (by simpa using g1) (by simpa using g2) (by simpa using g3) hrt htb hW' hk
end
def jp(n:Nat):bC->bC
 | .draw ops al dr=>match ops with
  | ⟨⟨some d,op,g⟩,b⟩::r=>if d=n then .wild (⟨⟨some d,op,g⟩,b⟩::r) al dr else .draw (⟨⟨some d,op,g⟩,b⟩::r) al dr
  | ops=>.draw ops al dr
 | .seq x y=>.seq (jp n x) (jp n y)
 | .cond c x y=>.cond c (jp n x) (jp n y)
 | .block id x=>.block id (jp n x)
 | .loop x=>.loop (jp n x)
 | x=>x
def Hu:List aJ->List aJ
 | []=>[]
 | [_]=>[]
 | o::p::r=>o::Hu (p::r)
def D1:List aJ->Option aJ
 | []=>none
 | [o]=>some o
 | _::p::r=>D1 (p::r)
def Rg(o:aJ):Hu [o]=[]:=bS rfl
def DX(o p:aJ)(r:List aJ):Hu (o::p::r)=o::Hu (p::r):=bS rfl
def Rq(o:aJ):D1 [o]=some o:=bS rfl
def D2(o p:aJ)(r:List aJ):D1 (o::p::r)=D1 (p::r):=bS rfl
def Pd:∀l,Hu l=l.dropLast
 | []=>rfl
 | [_]=>rfl
 | o::p::r=>by rw[DX,Pd (p::r)];rfl
def Po:∀l,D1 l=l.getLast?
 | []=>rfl
 | [_]=>rfl
 | o::p::r=>by rw[D2,Po (p::r),List.getLast?_cons_cons]
section
variable{P:Program}[bE P]
def acD(al:List (Nat×Nat))(n:Nat)(o:Option aJ)(dr:List Nat)(K:IX->St->Prop)(hist:List HI)(s:St):Prop :=
 match o with
 | some o=>MB al (n-1) o hist s λs'=>K .nrm ⟨dels dr s'.env,s'.heap⟩
 | none=>False
def Vj(P:Program)[bE P](al:List (Nat×Nat))(i:Nat)(r:List aJ)(K:List HI->St->Prop)(hist:List HI)(s:St):Prop:=gx P al i r hist s K
def Vk(al:List (Nat×Nat))(i:Nat)(r:List aJ)(K:List HI->St->Prop)(hist:List HI)(s:St):Vj P al i r K hist s=gx P al i r hist s K:=bS rfl
def NA(al:List (Nat×Nat))(i:Nat)(hist:List HI)(s:St)(K:List HI->St->Prop):gx P al i [] hist s K=K hist s:=bS rfl
def KG(al:List (Nat×Nat))(i:Nat)(d:Option Nat)(op:ln)(bf:List Nat)(r:List aJ)(hist:List HI)(s:St)(K:List HI->St->Prop) :
  gx P al i (⟨⟨d,op,none⟩,bf⟩::r) hist s K=fU P al i ⟨⟨d,op,none⟩,bf⟩ hist s (Vj P al (i+1) r K):=bS rfl
def U_(ops:List aJ)(al:List (Nat×Nat))(dr:List Nat)(s:St)(K:IX->St->Prop):lz P (.wild ops al dr) s K=gx P al 0 (Hu ops) [] (kills (al.map (·.1)) s) (acD al ops.length (D1 ops) dr K):=by
 rw[Pd,Po];rfl
def fH{al:List (Nat×Nat)}{n d:Nat}{t:TypeId}{st:Nat}{x y:IV}{bf:List Nat}{dr:List Nat}{K:IX->St->Prop}{hist:List HI}{s:St}(v:AV)(e:bD)
  (h:cj d (.app t st x y) (val (get s.env)) (ak s.heap)=some (v,e)) (h1:((aC (.app t st x y)).all λk=>!zr (get s.env k))=true) (h2:e.isReb=true) (h3:(hist.all λz=>bf.contains z.i||OB e.tch z)=true)
  (h4:zF al bf ⟨n-1,cY (.app t st x y) s.env,aV v++e.ids,e.tch,true,true⟩=true) (h5:NF dr K ((s.eff e).put (some d) v)):acD al n (some ⟨⟨some d,.app t st x y,none⟩,bf⟩) dr K hist s:=by
 refine⟨rfl,?_⟩;simp only[cG];rw[h];exact⟨h1,h2,h3,h4,h5⟩
end
attribute[go_sem] Rg DX Rq D2 NA KG Vk U_
def aau{n:Nat}{c:List AV}(h:c.length=n):yB (some n) c=some (.agg c):=by
 show(if n<=c.length then some (AV.agg (c.take n))else none)=_;rw[az (by omega),iF (by omega)]
def abL{k n:Nat}{t:TypeId}{z c:List AV}(hz:z.length=n)(h:c.length=n):Ms k n n 0 0 (some ⟨t,n,[z],true⟩) (some c)=some (.put k ⟨t,n,[c],true⟩):=by
 unfold Ms;simp only[true_and,nx,and_true];rw[az h];show(if 0+n<=z.length then some (bD.put k ⟨t,n,[z].set 0 (jw z 0 c),true⟩)else none)=_;rw[az (by omega)];unfold jw;rw[jK,gC,dk,XV (by omega),ml];rfl
def aku(n:Nat)(c:List AV):Prop:=c.length=n/\(∀i,c.any (mC i)=false)/\aV (.agg c)=[]
def Wk.trunc(s:St)(i n:Nat){t:TypeId}{st:Nat}{rows:List (List AV)}{r:Bool}(hi:ak s.heap i=some ⟨t,st,rows,r⟩):Wk s ⟨s.env,(i,⟨t,st,rows.take n,r⟩)::s.heap⟩:=by
 rintro c a w ⟨bl,hs⟩;have hm:∀b,bQ bl c.MF (ak ((i,⟨t,st,rows.take n,r⟩)::s.heap)) b↔bQ bl c.MF (ak s.heap) b:=bQ.congr λj=>by
  simp only[ak];split
  .rename_i h;subst h;rw[hi];rfl
  .rfl
 have ht:=Tr.of_iff (w:=w) λb=>(hm b)
 refine⟨bl,hs.defers,hs.size,λj=>(hs.env j).tr ht (λ_ _=>rfl),⟨λj o hj=>?_,λj j' o o' b h1 h2=>?_⟩,hs.step,λj o b h1=>?_,hs.stab,hs.mf⟩
 .simp only[ak]at hj;split at hj
  .rename_i hij;subst hij;cases hj;rcases hs.heap.1 i _ hi with hn|⟨b,g1,⟨gk,c1,fr,g2,g3,g4,g5,g6,g7⟩|hsp⟩
   .exact .inl ⟨by rw[show rows=[] from hn.1];exact List.take_nil,hn.2⟩
   rotate_left
   .exact absurd hsp.rel (λh=>h)
   .have key:∀{k:Nat}{q:List AV},(rows.take n)[k]?=some q->rows[k]?=some q:=λ{k q} hq=>by
     rw[Fw]at hq;split at hq
     .exact hq
     .cases hq
    refine .inr ⟨b,g1,.inl ⟨gk,c1,fr,g2,g3,g4,λk q hq=>g5 k q (key hq),gD (qB _ (by simp;omega)) g6,λk q u x hu hx=>?_⟩⟩;obtain⟨v,hv1,hv2⟩:=g7 k q u x (key hu) hx;refine⟨v,hv1,?_⟩;cases r
    .exact IRel.tr hv2 ht.keep
    .exact cJ.tr hv2 ht (λ_ _=>rfl)
  .rcases hs.heap.1 j o hj with hn|⟨b,g1,⟨gk,c1,fr,g2,g3,g4,g5,g6,g7⟩|hsp⟩
   .exact .inl hn
   rotate_left
   .exact .inr ⟨b,g1,.inr hsp⟩
   .refine .inr ⟨b,g1,.inl ⟨gk,c1,fr,g2,g3,g4,g5,g6,λk q u x hu hx=>?_⟩⟩;obtain⟨v,hv1,hv2⟩:=g7 k q u x hu hx;refine⟨v,hv1,?_⟩;cases hrec:o.isRec<;>simp only[hrec,AE]at hv2⊢
    .exact hv2.tr ht.keep
    .exact hv2.tr ht (λ_ _=>rfl)
 .have key:∀{j:Nat}{o:au},ak ((i,⟨t,st,rows.take n,r⟩)::s.heap) j=some o->∃o',ak s.heap j=some o':=λ{j o} hj=>by
   simp only[ak]at hj;split at hj
   .rename_i hij;subst hij;exact⟨_,hi⟩
   .exact⟨_,hj⟩
  obtain⟨p1,q1⟩:=key h1;obtain⟨p2,q2⟩:=key h2;exact hs.heap.2 j j' p1 p2 b q1 q2
 .simp only[ak]at h1;split at h1
  .rename_i hij;subst hij;exact hs.own i _ b hi
  .exact hs.own j o b h1
def jN{d:Nat}{t:TypeId}{st:Nat}{x y:IV}{ρ:IV->AV}{h:Nat->Option au}{id len:Nat}{rows ys:List (List AV)}(hx:ρ x = .ms id st 0 len)(ho:h id=some ⟨t,st,rows,false⟩)(hy:jJ st h (ρ y)=some ys)(hr:rows.length=len)(hl:ys.length<137438953472)(hn:len<137438953472)(hid:id<1000\/2000<=id) :
  cj d (.app t st x y) ρ h=some (.ms id st 0 (len+ys.length),.reb id ⟨t,st,rows++ys,false⟩):=by
 subst hr;simp only[cj,hx,hy,qW,az hl,ho];rw[az (by refine⟨?_,?_,?_,?_,?_,aQ _,hn,hid,rfl⟩<;>trivial),rN]
def adC{d:Nat}{t:TypeId}{st:Nat}{y:IV}{ρ:IV->AV}{h:Nat->Option au}{rows:List (List AV)}(hn:ρ (.c .nl) = .nl)(hy:jJ st h (ρ y)=some rows)(hl:rows.length<137438953472) :
  cj d (.app t st (.c .nl) y) ρ h=some (.ms d st 0 rows.length,.new d ⟨t,st,rows,false⟩):=by
 simp only[cj,hn,hy,qW,az hl]
def Wr(i:Nat)(t:TypeId)(st:Nat)(rows:List (List AV)):ff i ⟨t,st,rows,true⟩ =⟨t,st,rows.map (λr=>r.map (rC i)),true⟩:=rfl
def Wq(i:Nat)(t:TypeId)(st:Nat)(rows:List (List AV)):ff i ⟨t,st,rows,false⟩ =⟨t,st,rows,false⟩:=rfl
attribute[go_sem high] Wr Wq
def abX{l:List pj}{Post:AV->List (Nat×au)->Prop}{s s1:St}(hw:Wk s s1)(fs:List Nat)(r:AV)(σ':List (Nat×au))(h1:x5 l (frzs fs s1)=some r)(h2:SB (frzs fs s1).heap σ')(h3:X0 r σ'=true)(h4:Post r σ'):Fy l Post .nrm s :=
 ⟨(λ_ h=>by cases h),s1,hw,fs,r,σ',h1,(λi o hi=>rg h2 _ (gy hi)),lr h3,h4⟩
section
variable{P:Program}[bE P]
def Rf{bl:Nat->Option Nat}{M:Nat->Prop}{w:World}{v:Value}{x:AV}(h:cJ bl M w v x)(h1:vO x=true)(h2:zr x=false):IRel M w v x:=by
 cases x<;>first|(simp[vO]at h1;done)|exact h|(simp[zr]at h2;done)
def aT.unrec{c:sV}{bl:Nat->Option Nat}{s:St}{a:Act}{w:World}(hs:aT c bl (get s.env) (ak s.heap) a w){i:Nat}{t:TypeId}{st:Nat}{r:List AV}(hi:ak s.heap i=some ⟨t,st,[r],true⟩)(hr:∀x∈r,vO x=true/\zr x=false) :
  aT c bl (get s.env) (ak ((i,⟨t,st,[r],false⟩)::s.heap)) a w/\bQ bl c.MF (ak ((i,⟨t,st,[r],false⟩)::s.heap))=bQ bl c.MF (ak s.heap):=by
 have hm:bQ bl c.MF (ak ((i,⟨t,st,[r],false⟩)::s.heap))=bQ bl c.MF (ak s.heap):=by
  funext b;apply propext;constructor
  .rintro(h|⟨j,o,h1,h2⟩)
   .exact .inl h
   .simp only[ak]at h1;split at h1
    .rename_i hij;subst hij;exact .inr ⟨_,_,hi,h2⟩
    .exact .inr ⟨j,o,h1,h2⟩
  .rintro(h|⟨j,o,h1,h2⟩)
   .exact .inl h
   .by_cases hij:i=j
    .subst hij;exact .inr ⟨i,⟨t,st,[r],false⟩,by simp[ak],h2⟩
    .exact .inr ⟨j,o,by simp only[ak,an hij];exact h1,h2⟩
 refine⟨⟨hs.defers,hs.size,by rw[hm];exact hs.env,⟨λj o hj=>?_,λj j' o o' b h1 h2=>?_⟩,hs.step,λj o b h1=>?_,hs.stab,hs.mf⟩,hm⟩
 .rw[hm];simp only[ak]at hj;split at hj
  .rename_i hij;subst hij;cases hj;rcases hs.heap.1 _ _ hi with⟨h1,_⟩|⟨b,g1,⟨gk,c1,fr,g2,g3,g4,g5,g6,g7⟩|hsp⟩
   .cases h1
   .refine .inr ⟨b,g1,.inl ⟨rfl,c1,fr,g2,g3,g4,g5,g6,λk q u x hu hx=>?_⟩⟩;obtain⟨v,hv1,hv2⟩:=g7 k q u x hu hx;have hu2:u=r:=by
     cases k with
     | zero=>simpa using hu.symm
     | succ k=>simp at hu
    subst hu2;obtain⟨z1,z2⟩:=hr x (rO hx);exact⟨v,hv1,Rf hv2 z1 z2⟩
   .have:=hsp.rows;cases this
  .exact hs.heap.1 j o hj
 .have key:∀{j:Nat}{o:au},ak ((i,⟨t,st,[r],false⟩)::s.heap) j=some o->∃o',ak s.heap j=some o':=λ{j o} hj=>by
   simp only[ak]at hj;split at hj
   .rename_i hij;subst hij;exact⟨_,hi⟩
   .exact⟨_,hj⟩
  obtain⟨p1,q1⟩:=key h1;obtain⟨p2,q2⟩:=key h2;exact hs.heap.2 j j' p1 p2 b q1 q2
 .simp only[ak]at h1;split at h1
  .rename_i hij;subst hij;exact hs.own i _ b hi
  .exact hs.own j o b h1
def eJ.unrec(s:St)(l:List AV)(i:Nat){t:TypeId}{st:Nat}{r:List AV}(hi:ak s.heap i=some ⟨t,st,[r],true⟩)(hr:∀x∈r,vO x=true/\zr x=false):eJ s l ⟨s.env,(i,⟨t,st,[r],false⟩)::s.heap⟩ l:=λc a w bl vs h1 h2=>by
 obtain⟨h3,hm⟩:=aT.unrec h1 hi hr;exact⟨bl,h3,by rw[hm];exact h2⟩
def Hn{x:AV}(h:xp x=true):iu x=[]:=by cases x<;>first|rfl|(simp[xp]at h)
def AM{f:AV->Bool}{g:AV->List Nat}(hh:∀x,f x=true->g x=[]):∀l:List AV,l.all f=true->l.flatMap g=[]
 | [],_=>rfl
 | x::l,h=>by
  simp only[Cf,dX]at h;simp only[yA,hh x h.1,AM hh l h.2,ml]
def Ho{x:AV}(h:zm x=true):kx x=[]:=by
 cases x with
 | agg cells=>exact AM (λ_=>Hn) cells h
 | _=>first|exact Hn (by simpa only[zm]using h)|rfl|(simp[zm,xp]at h)
def Ud{x:AV}(h:oM x=true):aV x=[]:=by
 cases x with
 | tup vs=>exact AM (λ_=>Ho) vs h
 | _=>first|exact Ho (by simpa only[oM]using h)|rfl|(simp[oM,zm,xp]at h)
def bA.lend{f:FuncId}{args args':List AV}{r:AV}{σ:List (Nat×au)}{s':St}(hp:aj P f args' r)(hf:oM r=true)(hw:eJ ⟨[],σ⟩ args s' args')(hid:∀x∈args',aV x=[])(hcl:∀p∈σ,∀i∈fG p.2,(ak σ i).isSome=true)(Sb:Nat->Prop) :
  bA P f args σ Sb (λr' σ'=>r'=r/\σ'=σ):=by
 intro bl MF w cargs hT hTM hH hMF hA
 let c:sV:={w0:=w,bl0:=bl,W:=oY bl σ,MF:=MF,n:=0,T:=bE.T P,tH:=hT,tW:=λb hb ⟨id,o,h1,h2⟩=>hTM b hb (.inr ⟨id,o,h1,h2⟩),tM:=λb hb hm=>hTM b hb (.inl hm),hn:=by decide}
 let a:Act:=⟨#[],[]⟩
 have hs:aT c bl (get ([]:List (Nat×AV))) (ak σ) a w:=⟨rfl,rfl,λk=>trivial,hH,jb.refl _ _,λid o b h1 h2=>.inr ⟨id,o,h1,h2⟩,λ_ _ _=>rfl,hMF⟩
 obtain⟨bl',hs',hA'⟩:=hw c a w bl cargs hs hA
 let MF':Nat->Prop:=bQ bl' MF (ak s'.heap)
 have hMF':∀q,MF' q->q<w.heap.size:=λq hq=>by
  rcases hq with hm|⟨id,o,h1,h2⟩
  .exact hMF q hm
  .rcases hs'.heap.1 id o h1 with hn|⟨b',g2,hO⟩
   .rw[hn.2.2]at h2;cases h2
   .rw[h2]at g2;cases g2;exact hO.lt
 have hargs:bg (bv (λ_=>none) (bQ (λ_=>none) MF' (ak [])) w) cargs args':=hA'.mono λv x hx hv=>by
  refine bv.tr hv ⟨λq hq _=>⟨λhm=>hq ((ja MF' q).1 hm),rfl⟩,λ_ c1 _ fr hb=>⟨c1,fr,hb,rfl⟩⟩ (λid hm=>?_);have:=py hm;rw[hid x hx]at this;cases this
 refine(hp (λ_=>none) MF' w cargs hT (λb hb hm=>?_) ⟨(λid o h=>by cases h),(λid id' o o' b h=>by cases h)⟩ hMF' hargs).mono ?_
 .have hm:=(ja MF' b).1 hm
  haveI:CT c P:=⟨rfl⟩
  exact aT.tabW (c:=c) hs' b hb hm
 rintro e w' ⟨v,r',σ',bl2,rfl,⟨rfl,rfl⟩,_,_,hv,hst,_,_⟩;have hst':jb (λ_=>False) w w':=⟨hst.size,λb hb _=>hst.keep b hb (λ⟨id,o,h,_⟩=>by cases h),hst.shape,hst.os,hst.out⟩
 have hg:=aT.grow (c:=c) hs hst';exact⟨v,_,_,bl,rfl,⟨rfl,rfl⟩,⟨(λi hi=>by rw[Ud hf]at hi;cases hi),hcl⟩,hg.heap,Hm hf hv,⟨hst.size,λb hb _=>hst'.keep b hb (λh=>h),hst.shape,hst.os,hst.out⟩,λid o b h1 h2=>.inr ⟨id,o,h1,h2⟩,λ_ _=>rfl⟩
end
def Wk.nlr1(s:St)(i:Nat){t:TypeId}{st:Nat}{r r':List AV}(hi:ak s.heap i=some ⟨t,st,[r],false⟩)(hr:nlr r r'):Wk s ⟨s.env,(i,⟨t,st,[r'],false⟩)::s.heap⟩:=by
 rintro c a w ⟨bl,hs⟩;have hm:∀b,bQ bl c.MF (ak ((i,⟨t,st,[r'],false⟩)::s.heap)) b↔bQ bl c.MF (ak s.heap) b:=bQ.congr λj=>by
  simp only[ak];split
  .rename_i h;subst h;rw[hi];rfl
  .rfl
 have ht:=Tr.of_iff (w:=w) λb=>(hm b)
 refine⟨bl,hs.defers,hs.size,λj=>(hs.env j).tr ht (λ_ _=>rfl),⟨λj o hj=>?_,λj j' o o' b h1 h2=>?_⟩,hs.step,λj o b h1=>?_,hs.stab,hs.mf⟩
 .simp only[ak]at hj;split at hj
  .rename_i hij;subst hij;cases hj;rcases hs.heap.1 i _ hi with hn|⟨b,g1,⟨gk,c1,fr,g2,g3,g4,g5,g6,g7⟩|hsp⟩
   .cases hn.1
   rotate_left
   .exact absurd hsp.rel (λh=>h)
   .refine .inr ⟨b,g1,.inl ⟨gk,c1,fr,g2,g3,g4,λk q hq=>?_,by simpa using g6,λk q u x hu hx=>?_⟩⟩
    .cases k with
     | zero=>simp at hq;subst hq;rw[Jq hr];exact g5 0 r rfl
     | succ k=>simp at hq
    .cases k with
     | succ k=>simp at hu
     | zero =>
      simp at hu;subst hu;obtain⟨x0,h1,h2⟩:=Jp hr hx;obtain⟨v,hv1,hv2⟩:=g7 0 q r x0 rfl h1;refine⟨v,hv1,?_⟩;have hv3:IRel (bQ bl c.MF (ak s.heap)) w v x0:=hv2;rcases h2 with h2|⟨h2,st',h3⟩
      .subst h2;exact IRel.tr hv3 ht.keep
      .subst h2 h3;exact IRel.tr (IRel.nl_sl hv3 st') ht.keep
  .rcases hs.heap.1 j o hj with hn|⟨b,g1,⟨gk,c1,fr,g2,g3,g4,g5,g6,g7⟩|hsp⟩
   .exact .inl hn
   rotate_left
   .exact .inr ⟨b,g1,.inr hsp⟩
   .refine .inr ⟨b,g1,.inl ⟨gk,c1,fr,g2,g3,g4,g5,g6,λk q u x hu hx=>?_⟩⟩;obtain⟨v,hv1,hv2⟩:=g7 k q u x hu hx;refine⟨v,hv1,?_⟩;cases hrec:o.isRec<;>simp only[hrec,AE]at hv2⊢
    .exact hv2.tr ht.keep
    .exact hv2.tr ht (λ_ _=>rfl)
 .have key:∀{j:Nat}{o:au},ak ((i,⟨t,st,[r'],false⟩)::s.heap) j=some o->∃o',ak s.heap j=some o':=λ{j o} hj=>by
   simp only[ak]at hj;split at hj
   .rename_i hij;subst hij;exact⟨_,hi⟩
   .exact⟨_,hj⟩
  obtain⟨p1,q1⟩:=key h1;obtain⟨p2,q2⟩:=key h2;exact hs.heap.2 j j' p1 p2 b q1 q2
 .simp only[ak]at h1;split at h1
  .rename_i hij;subst hij;exact hs.own i _ b hi
  .exact hs.own j o b h1
def Wk.unrec(s:St)(i:Nat){t:TypeId}{st:Nat}{r:List AV}(hi:ak s.heap i=some ⟨t,st,[r],true⟩)(hr:∀x∈r,vO x=true/\zr x=false):Wk s ⟨s.env,(i,⟨t,st,[r],false⟩)::s.heap⟩:=λc a w ⟨bl,h1⟩=>⟨bl,(aT.unrec h1 hi hr).1⟩
def ahg{α:Type}(B:Nat->Prop)(n:Nat)(P:Program)[bE P](g:Nat)(lb:Array Value)(encs:α->Array Value)(E:List α)(w:World):Prop :=
 ∀(l:Nat)(J Jx:List α->World->Prop)(W:World),(bE.T P).H W->jb No w W->(∀s A B,J s A->jb No A B->J s B)->(∀s A B,Jx s A->jb No A B->Jx s B) ->
  (∀ib x W1,J ib W1->ib++[x] <+: E->YieldAt Fence.wide (n-1) P l (encs x) W1 λe W' =>
   (e = .returned (.bool true)/\J (ib++[x]) W'/\CK B W.heap.size W1 W')\/(e = .returned (.bool false)/\Jx (ib++[x]) W')) ->
  J [] W ->
  CallsIn Fence.wide n P g (#[.func (.yield l) #[] #[]]++lb) W λe W'=>(∃v,e = .returned v)/\(J E W'\/(∃ib,ib <+: E/\Jx ib W'))
section
variable{n:Nat}{P:Program}[bE P]
def So{α:Type}{g:Operand}{ps:Array Tmp}{assign body:Code}{Q:Exit->Act->World->Prop}{a:Act}{w:World}
  {B:Nat->Prop} (h1:1<=n) (hH:(bE.T P).H w) (hB:∀b,B b->b<w.heap.size) {gf:Nat} {lb:Array Value} (hg:a.eval g = .func (.func gf) #[] lb) (eg:∀args w,(callFunc gf args).run P w = .ok (.enter gf args) w)
  {encs:α->Array Value} {E:List α} {w0:World} (hseq:ahg B (n-1) P gf lb encs E w0) (hb0:jb No w0 w) (hps:∀x,(encs x).size=ps.size)
  (I:List α->World->Prop) (Ix:Code->List α->World->Prop) (hI:∀s A B,I s A->jb No A B->I s B) (hIx:∀c s A B,Ix c s A->jb No A B->Ix c s B)
  (hIp:∀s W l o o',I s W->w.heap.size<=l->W.heap[l]?=some o->o.isCells=false->I s (W.putObj l o')) (hIxp:∀c s W l o o',Ix c s W->w.heap.size<=l->W.heap[l]?=some o->o.isCells=false->Ix c s (W.putObj l o'))
  (h0:I [] w) (a₁:α->Act)
  (hassign:∀(l:Nat)(x:α)(W:World)(K:Act->World->Prop),K (a₁ x) W ->
   assign.wpIn (Fence.wide.inRound l) (n-1-1) P (Exit.then K (λ_ _ _=>False)) {tmps:=(ps.zip (encs x)).foldl (λt (p,v)=>t.setIfInBounds p v) a.tmps,defers:=[]} W)
  (hbody:∀(l:Nat)(ib:List α)(x:α)(W:World),I ib W->ib++[x] <+: E->body.wpIn (Fence.wide.inRound l) (n-1-1) P (ownPostK (CK B w.heap.size) I Ix (ib++[x]) W) (a₁ x) W)
  (hdone:∀(D:Nat)(W:World),w.heap.size<=D->I E W->W.heap[D]?=some (.deferred (some []))->Q .normal {a with defers:={target:=.collected D,args:=#[]}::a.defers} W)
  (hstop:∀(D:Nat)(c:Code)(ib:List α)(W:World),w.heap.size<=D->ib <+: E->Ix c ib W->W.heap[D]?=some (.deferred (some []))->c.wpIn Fence.wide n P Q {a with defers:={target:=.collected D,args:=#[]}::a.defers} W) :
  (Code.rangeFunc g ps assign body).wpIn Fence.wide n P Q a w:=by
 refine wpIn_rangeFunc ?_;intro fn hfn;rw[show Fence.wide.round=none from rfl];obtain⟨rec,hrec⟩:∃rec:LoopState->Option Code->Loop,rec=λst pe=>{state:=st,pending:=pe,fn,tmps:=a.tmps,params:=ps,assign,body,defers:=w.heap.size}:=⟨_,rfl⟩
 obtain⟨W1,hW1⟩:∃W1,(w.alloc (.deferred (some []))).alloc (.loop (rec .ready none))=W1:=⟨_,rfl⟩
 have hL1:W1.heap[w.heap.size+1]?=some (.loop (rec .ready none)):=by
  rw[<-hW1];have:=World.alloc_heap_new (w.alloc (.deferred (some []))) (.loop (rec .ready none));rwa[World.size_alloc]at this
 have hK1:W1.heap[w.heap.size]?=some (.deferred (some [])):=by
  rw[<-hW1];exact(Below.heap_alloc _ _ _ (by simp)).trans (World.alloc_heap_new w _)
 have hs1:jb No w W1:=by rw[<-hW1];exact(jb.ofAlloc _ _).one (jb.ofAlloc _ _)
 have hlow:∀b,B b->b<w.heap.size+1:=λb hb=>Nat.lt_succ_of_lt (hB b hb);have hz1:W1.heap.size=w.heap.size+2:=by rw[<-hW1];simp
 refine⟨w.heap.size+1,[{target:=.collected w.heap.size,args:=#[]}],W1,{target:=.fn (.func gf) lb,args:=#[.func (.yield (w.heap.size+1)) #[] #[]]},W1,gf,
  #[.func (.yield (w.heap.size+1)) #[] #[]]++lb,W1,?_,?_,?_,?_,λ_=>h1,?_⟩
 .rw[<-hW1,hrec];exact run_enterLoop_outer _ _ _ _ _
 .simp only[resolve,hg];simp[go_sem]
 .intro f' hf';trivial
 .simp[invoke,go_sem,eg]
 .have kp:∀{l:Nat}{o:Obj}{A B:World},jb No A B->A.heap[l]?=some o->B.heap[l]?=some o:=λ{l o A B} hs h=>by
   rw[hs.keep l (kT.1 h).1 (λh=>h)];exact h
  refine(hseq (w.heap.size+1)
   (λib W=>I ib W/\W.heap[w.heap.size+1]?=some (.loop (rec .ready none))/\W.heap[w.heap.size]?=some (.deferred (some [])))
   (λib W=>∃c,Ix c ib W/\W.heap[w.heap.size+1]?=some (.loop (rec .done (some c)))/\W.heap[w.heap.size]?=some (.deferred (some [])))
   W1 ((bE.T P).stay _ _ hH λb hb=>hs1.keep b ((bE.T P).low _ hH b hb) (λh=>h)) (hb0.one hs1)
   (λs A B hs hg'=>⟨hI s A B hs.1 hg',kp hg' hs.2.1,kp hg' hs.2.2⟩)
   (λs A B hs hg'=>by
    obtain⟨c,hc,hl,hk⟩:=hs;exact⟨c,hIx c s A B hc hg',kp hg' hl,kp hg' hk⟩)
   ?_ ⟨hI _ _ _ h0 hs1,hL1,hK1⟩).mono ?_
  ·
   rintro ib x W ⟨hi,hl,hk⟩ hlen;have hlt:w.heap.size+1<W.heap.size:=(kT.1 hl).1;have hy:=run_yield (P:=P) (args:=encs x) hl (by rw[hrec];exact hps x);rw[hrec]at hy;refine⟨fn,_,assign,body,hy,roundIn_of_wpIn hfn (hassign _ x W _ ⟨_,run_beginRound hl (by rw[hrec]),?_⟩)⟩;have hl2:(W.putObj (w.heap.size+1) (.loop {rec .ready none with state:=.busy})).heap[w.heap.size+1]?=some (.loop {rec .ready none with state:=.busy}):=World.putObj_heap_same hlt;have hk2:(W.putObj (w.heap.size+1) (.loop {rec .ready none with state:=.busy})).heap[w.heap.size]?=some (.deferred (some [])):=(World.putObj_heap_other (by omega)).trans hk;have hw2:CK B w.heap.size W (W.putObj (w.heap.size+1) (.loop {rec .ready none with state:=.busy})):=CK.putObj _ _ _ _ _ hl rfl hlow;refine wpIn_mono (hbody _ ib x _ (hIp _ _ _ _ _ hi (by omega) hl rfl) hlen) ?_;have fin:∀(jump:Option Code)(W3:World),KeepsOthers (W.putObj (w.heap.size+1) (.loop {rec .ready none with state:=.busy})) W3 ->
     (Instr.endRound (w.heap.size+1) jump).run P W3 = .ok (.bool jump.isNone) (W3.putObj (w.heap.size+1) (.loop (rec (if jump.isNone then .ready else .done) jump))) /\
     W3.heap[w.heap.size+1]?=some (.loop {rec .ready none with state:=.busy}) /\
     (W3.putObj (w.heap.size+1) (.loop (rec (if jump.isNone then .ready else .done) jump))).heap[w.heap.size+1]?=some (.loop (rec (if jump.isNone then .ready else .done) jump)) /\
     (W3.putObj (w.heap.size+1) (.loop (rec (if jump.isNone then .ready else .done) jump))).heap[w.heap.size]?=some (.deferred (some [])):=λjump W3 hk3=>by
    have hl3:=hk3.same _ _ hl2 rfl;have:=run_endRound (P:=P) jump hl3;rw[hrec]at this⊢;exact⟨this,by rw[hrec]at hl3;exact hl3,World.putObj_heap_same (kT.1 hl3).1,(World.putObj_heap_other (by omega)).trans (hk3.same _ _ hk2 rfl)⟩
   rintro e a3 W3 hp;cases e with
   | normal =>
    obtain⟨hk3,hkp3,hi3⟩:=hp;obtain⟨hr,hl3,hl4,hk4⟩:=fin none W3 hk3;exact⟨_,_,hr,.inl ⟨rfl,⟨hIp _ _ _ _ _ hi3 (by omega) hl3 rfl,hl4,hk4⟩,((hw2.trans hkp3).trans (CK.putObj _ _ _ _ _ hl3 rfl hlow)).mono (by omega)⟩⟩
   | ret =>
    obtain⟨hk3,hi3⟩:=hp;obtain⟨hr,hl3,hl4,hk4⟩:=fin (some .ret) W3 hk3;exact⟨_,_,hr,.inr ⟨rfl,.ret,hIxp _ _ _ _ _ _ hi3 (by omega) hl3 rfl,hl4,hk4⟩⟩
   | exit id =>
    obtain⟨hk3,hi3⟩:=hp;obtain⟨hr,hl3,hl4,hk4⟩:=fin (some (.exit id)) W3 hk3;exact⟨_,_,hr,.inr ⟨rfl,.exit id,hIxp _ _ _ _ _ _ hi3 (by omega) hl3 rfl,hl4,hk4⟩⟩
   | goto t =>
    obtain⟨hk3,hi3⟩:=hp;obtain⟨hr,hl3,hl4,hk4⟩:=fin (some (.goto t)) W3 hk3;exact⟨_,_,hr,.inr ⟨rfl,.goto t,hIxp _ _ _ _ _ _ hi3 (by omega) hl3 rfl,hl4,hk4⟩⟩
   | panic ch=>exact hp.elim
   | outgrown=>exact hp.elim
  ·
   rintro e W2 ⟨⟨v,rfl⟩,(⟨hi,hl,hk⟩|⟨ib,hSp,c,hi,hl,hk⟩)⟩
   .exact⟨none,_,by have:=run_endLoop (P:=P) hl (by rw[hrec];simp);rw[hrec]at this;exact this,hdone _ _ (aQ _) (hIp _ _ _ _ _ hi (by omega) hl rfl) ((World.putObj_heap_other (by omega)).trans hk)⟩
   .exact⟨some c,_,by have:=run_endLoop (P:=P) hl (by rw[hrec];simp);rw[hrec]at this;exact this,hstop _ c ib _ (aQ _) hSp (hIxp _ _ _ _ _ _ hi (by omega) hl rfl) ((World.putObj_heap_other (by omega)).trans hk)⟩
end
def fc(n:Nat)(cs:List Nat):bC->bC
 | .draw ops al dr=>match ops with
  | ⟨⟨some d,op,g⟩,b⟩::r=>if d=n then .clon cs (⟨⟨some d,op,g⟩,b⟩::r) al dr else .draw (⟨⟨some d,op,g⟩,b⟩::r) al dr
  | ops=>.draw ops al dr
 | .seq x y=>.seq (fc n cs x) (fc n cs y)
 | .cond c x y=>.cond c (fc n cs x) (fc n cs y)
 | .block id x=>.block id (fc n cs x)
 | .loop x=>.loop (fc n cs x)
 | x=>x
def QJ(n:Nat)(cs:List Nat)(d:Nat)(op:ln)(g:Option (Nat×Bool))(b:List Nat)(r:List aJ)(al:List (Nat×Nat))(dr:List Nat) :
  fc n cs (.draw (⟨⟨some d,op,g⟩,b⟩::r) al dr)=if d=n then .clon cs (⟨⟨some d,op,g⟩,b⟩::r) al dr else .draw (⟨⟨some d,op,g⟩,b⟩::r) al dr:=bS rfl
def TM(n:Nat)(cs:List Nat)(x y:bC):fc n cs (.seq x y) = .seq (fc n cs x) (fc n cs y):=bS rfl
def QI(n:Nat)(cs:List Nat)(c:IV)(x y:bC):fc n cs (.cond c x y) = .cond c (fc n cs x) (fc n cs y):=bS rfl
def M3(n:Nat)(cs:List Nat)(id:Nat)(x:bC):fc n cs (.block id x) = .block id (fc n cs x):=bS rfl
def QL(n:Nat)(cs:List Nat)(x:bC):fc n cs (.loop x) = .loop (fc n cs x):=bS rfl
def QM(n:Nat)(cs:List Nat):fc n cs .skip = .skip:=bS rfl
def TL(n:Nat)(cs:List Nat):fc n cs .ret = .ret:=bS rfl
def QK(n:Nat)(cs:List Nat)(id:Nat):fc n cs (.exit id) = .exit id:=bS rfl
def TK(n:Nat)(cs:List Nat)(ops:List bH)(dr:List Nat):fc n cs (.reg ops dr) = .reg ops dr:=bS rfl
attribute[go_sem] QJ TM QI M3 QL QM TL QK TK
def NK(d:Nat):List Nat->Bool
 | []=>false
 | c::cs=>if d=c then true else NK d cs
def uF(d:Nat):NK d []=false:=bS rfl
def nA(d c:Nat)(cs:List Nat):NK d (c::cs)=if d=c then true else NK d cs:=bS rfl
def VT(d:Nat):∀cs,NK d cs=cs.contains d
 | []=>rfl
 | c::cs=>by
  rw[nA,VT d cs,List.contains_cons];by_cases h:d=c
  .subst h;simp
  .rw[an h,OD.2 h];rfl
def adQ(b:Bool)(x y:Prop):Prop :=
 match b with
 | true=>x
 | false=>y
def DA(x y:Prop):adQ true x y=x:=bS rfl
def Dz(x y:Prop):adQ false x y=y:=bS rfl
def ac1(K:List (List AV)->Prop)(x:Option (List (List AV))):Prop :=
 match x with
 | some r=>K r
 | none=>False
def oh(K:List (List AV)->Prop)(r:List (List AV)):ac1 K (some r)=K r:=bS rfl
def acC(i:Nat)(bf:List Nat)(op:ln)(hist:List HI)(K:List HI->St->Prop)(s:St)(d st:Nat)(rs:List (List AV)):Prop :=
 fz op s .no=true/\iT bf ⟨i,cY op s.env,[],[],false,false⟩ hist=true/\K (⟨i,cY op s.env,[],[],false,false⟩::hist) (s.put (some d) (.sl st rs))
def zu(i:Nat)(bf:List Nat)(op:ln)(hist:List HI)(K:List HI->St->Prop)(s:St)(d st:Nat)(rs:List (List AV)):acC i bf op hist K s d st rs =
 (fz op s .no=true/\iT bf ⟨i,cY op s.env,[],[],false,false⟩ hist=true/\K (⟨i,cY op s.env,[],[],false,false⟩::hist) (s.put (some d) (.sl st rs))):=bS rfl
section
variable{P:Program}[bE P]
def Vi(P:Program)[bE P](cl:Cl)(al:List (Nat×Nat))(i:Nat)(r:List aJ)(K:St->Prop)(hist:List HI)(s:St):Prop:=@jk P _ cl al i r hist s K
def uE(cl:Cl)(al:List (Nat×Nat))(i:Nat)(r:List aJ)(K:St->Prop)(hist:List HI)(s:St):Vi P cl al i r K hist s = @jk P _ cl al i r hist s K:=bS rfl
def nV(cl:Cl)(al:List (Nat×Nat))(i:Nat)(hist:List HI)(s:St)(K:St->Prop):@jk P _ cl al i [] hist s K=K s:=bS rfl
def lZ(cl:Cl)(al:List (Nat×Nat))(i:Nat)(d:Option Nat)(op:ln)(bf:List Nat)(r:List aJ)(hist:List HI)(s:St)(K:St->Prop) :
  @jk P _ cl al i (⟨⟨d,op,none⟩,bf⟩::r) hist s K = @fU P _ cl al i ⟨⟨d,op,none⟩,bf⟩ hist s (Vi P cl al (i+1) r K):=bS rfl
def uD(cs:List Nat)(ops:List aJ)(al:List (Nat×Nat))(dr:List Nat)(s:St)(K:IX->St->Prop):lz P (.clon cs ops al dr) s K = @jk P _ ⟨cs⟩ al 0 ops [] (kills (al.map (·.1)) s) (NF dr K):=bS rfl
def p8(cs:List Nat)(al:List (Nat×Nat))(i d:Nat)(t:TypeId)(st:Nat)(rows:List (List AV))(ps:List (Nat×IV))(g:Option (Nat×Bool))(bf:List Nat)(hist:List HI)(s:St)(K:List HI->St->Prop) :
  @fU P _ ⟨cs⟩ al i ⟨⟨some d,.bsl t st rows ps,g⟩,bf⟩ hist s K=adQ (NK d cs) (ac1 (acC i bf (.bsl t st rows ps) hist K s d st) (mX (val (get s.env)) st rows ps))
   (dj (zw al i bf (.bsl t st rows ps) hist K s (some d)) (cj d (.bsl t st rows ps) (val (get s.env)) (ak s.heap))):=by
 have e:NK d cs = @aeJ ⟨cs⟩ (some d):=VT d cs;rw[e];simp only[fU];cases @aeJ ⟨cs⟩ (some d)
 .rfl
 .rfl
def nR(cl:Cl)(al:List (Nat×Nat))(i:Nat)(d:Option Nat)(f:FuncId)(args:List IV)(g:Option (Nat×Bool))(bf:List Nat)(hist:List HI)(s:St)(K:List HI->St->Prop) :
  @fU P _ cl al i ⟨⟨d,.call f args,g⟩,bf⟩ hist s K=Nw P f (args.map (val (get s.env))) i bf (.call f args) d hist s K:=bS rfl
def p_(cl:Cl)(al:List (Nat×Nat))(i:Nat)(d:Option Nat)(x:IV)(g:Option (Nat×Bool))(bf:List Nat)(hist:List HI)(s:St)(K:List HI->St->Prop):@fU P _ cl al i ⟨⟨d,.mov x,g⟩,bf⟩ hist s K=dj (zw al i bf (.mov x) hist K s d) (cj 0 (.mov x) (val (get s.env)) (ak s.heap)):=bS rfl
def nU(cl:Cl)(al:List (Nat×Nat))(i:Nat)(d:Option Nat)(n:Option Nat)(p:IV)(g:Option (Nat×Bool))(bf:List Nat)(hist:List HI)(s:St)(K:List HI->St->Prop):@fU P _ cl al i ⟨⟨d,.load n p,g⟩,bf⟩ hist s K=dj (zw al i bf (.load n p) hist K s d) (cj 0 (.load n p) (val (get s.env)) (ak s.heap)):=bS rfl
def lY(cl:Cl)(al:List (Nat×Nat))(i:Nat)(d:Option Nat)(n:Nat)(p x:IV)(g:Option (Nat×Bool))(bf:List Nat)(hist:List HI)(s:St)(K:List HI->St->Prop):@fU P _ cl al i ⟨⟨d,.store n p x,g⟩,bf⟩ hist s K=dj (zw al i bf (.store n p x) hist K s d) (cj 0 (.store n p x) (val (get s.env)) (ak s.heap)):=bS rfl
def nS(cl:Cl)(al:List (Nat×Nat))(i:Nat)(d:Option Nat)(o:Nat)(p:IV)(g:Option (Nat×Bool))(bf:List Nat)(hist:List HI)(s:St)(K:List HI->St->Prop):@fU P _ cl al i ⟨⟨d,.fadr o p,g⟩,bf⟩ hist s K=dj (zw al i bf (.fadr o p) hist K s d) (cj 0 (.fadr o p) (val (get s.env)) (ak s.heap)):=bS rfl
def nT(cl:Cl)(al:List (Nat×Nat))(i:Nat)(d:Option Nat)(st:Nat)(x q:IV)(g:Option (Nat×Bool))(bf:List Nat)(hist:List HI)(s:St)(K:List HI->St->Prop):@fU P _ cl al i ⟨⟨d,.iadr st x q,g⟩,bf⟩ hist s K=dj (zw al i bf (.iadr st x q) hist K s d) (cj 0 (.iadr st x q) (val (get s.env)) (ak s.heap)):=bS rfl
def p9(cl:Cl)(al:List (Nat×Nat))(i:Nat)(d:Option Nat)(x:IV)(q:Nat)(g:Option (Nat×Bool))(bf:List Nat)(hist:List HI)(s:St)(K:List HI->St->Prop):@fU P _ cl al i ⟨⟨d,.ext x q,g⟩,bf⟩ hist s K=dj (zw al i bf (.ext x q) hist K s d) (cj 0 (.ext x q) (val (get s.env)) (ak s.heap)):=bS rfl
def qa(cl:Cl)(al:List (Nat×Nat))(i d:Nat)(t:TypeId)(cs:List AV)(g:Option (Nat×Bool))(bf:List Nat)(hist:List HI)(s:St)(K:List HI->St->Prop):@fU P _ cl al i ⟨⟨some d,.new t cs,g⟩,bf⟩ hist s K=dj (zw al i bf (.new t cs) hist K s (some d)) (cj d (.new t cs) (val (get s.env)) (ak s.heap)):=bS rfl
