import Derived.Test.YtdfofedlbljnhaaGreatDoorWQb
import Derived.ProofKit
import Derived.OpenShut
import Derived.JoinedCond
import Derived.RangeFuncFrom
import Derived.RangeFuncLeaves
import Derived.RangeFuncCalls
set_option linter.all false
namespace Go.Mw
def ah{α:Type}[Inhabited α](l:List α)(i:Nat):α:=l[i]!
def bD{α:Type}[Inhabited α]{l:List α}{i:Nat}(h:i<l.length):ah l i=l[i]:=getElem!_pos l i h
def pd{α:Type}[Inhabited α]{l:List α}{i:Nat}(h:i<l.length):l[i]?=some (ah l i):=by rw[bD h];exact m_ h
def Id{α:Type}[Inhabited α]{l:List α}{i:Nat}{x:α}(h:i<l.length):ah (l.set i x) i=x:=by rw[bD (by simpa using h)];simp
def Gu{α:Type}[Inhabited α]{l m:List α}{i:Nat}(h:i<l.length):ah (l++m) i=ah l i:=by
 rw[bD h,bD (by simp;omega),List.getElem_append_left h]
def Bh{α:Type}[Inhabited α]{l m:List α}{x:α}:ah (l++x::m) l.length=x:=by
 simp[ah]
def Ic{α β:Type}[Inhabited α][Inhabited β]{l:List α}{f:α->β}{i:Nat}(h:i<l.length):ah (l.map f) i=f (ah l i):=by
 rw[bD h,bD (by simpa using h),List.getElem_map]
def Km{α:Type}[Inhabited α]{l:List α}{i k:Nat}(h:i<k):ah (l.take k) i=ah l i:=by
 unfold ah;rw[OL,OL,List.getElem?_take_of_lt h]
def DI{α:Type}[Inhabited α]{l:List α}{i k:Nat}:ah (l.drop k) i=ah l (k+i):=by
 unfold ah;rw[OL,OL,IQ]
section
variable{P:Program}[bO P]
def Xn(P:Program)[bO P](y:bR)(K:IX->St->Prop)(e:IX)(s:St):Prop :=
 match e with
 | .nrm=>jD P y s K
 | e=>K e s
def ake(P:Program)[bO P](y:bR)(K:IX->St->Prop)(e:IX)(s:St):Prop :=
 match e with
 | .nrm=>∃s',Wk s s'/\jD P y s' K
 | e=>K e s
def Xg(id:Nat)(K:IX->St->Prop)(e:IX)(s:St):Prop :=
 match e with
 | .ext j=>if j=id then K .nrm s else K (.ext j) s
 | e=>K e s
def Xm(dr:List Nat)(K:IX->St->Prop)(s:St):Prop:=K .nrm ⟨dels dr s.env,s.heap⟩
def Xl(P:Program)[bO P](r:List bF)(K:St->Prop)(s:St):Prop:=jZ P r s K
def NP(P:Program)[bO P](al:List (Nat×Nat))(i:Nat)(r:List aR)(K:St->Prop)(hist:List HI)(s:St):Prop:=nC P al i r hist s K
def PH(K:St->Prop)(s:St)(d:Option Nat)(v:AV)(e:bE):Prop:=K ((s.eff e).put d v)
def Ta(al:List (Nat×Nat))(i:Nat)(bf:List Nat)(op:nR)(hist:List HI)(K:List HI->St->Prop)(s:St)(d:Option Nat)(v:AV)(e:bE):Prop :=
 eH op s e=true/\iL bf ⟨i,cO op s.env,aO v++e.ids,e.tch,e.isReb,e.isPut⟩ hist=true/\Be al bf ⟨i,cO op s.env,aO v++e.ids,e.tch,e.isReb,e.isPut⟩=true /\
  K (⟨i,cO op s.env,aO v++e.ids,e.tch,e.isReb,e.isPut⟩::hist) ((s.eff e).put d v)
def dy(K:AV->bE->Prop)(x:Option (AV×bE)):Prop :=
 match x with
 | some (v,e)=>K v e
 | none=>False
def U_(A:Prop)(K:AV->bE->Prop)(x:Option (AV×bE)):Prop :=
 match x with
 | some (v,e)=>K v e
 | none=>A
def Vx(x:AV)(a b:Prop):Prop :=
 match x with
 | .bool t=>(t=true->a)/\(t=false->b)
 | _=>False
def LO(x:AV)(a b c:Prop):Prop :=
 match x with
 | .bool t=>(t=true->a)/\(t=false->b)
 | .tup []=>c
 | _=>False
def abN(y:bR)(K:IX->St->Prop)(s:St):Xn P y K .nrm s=jD P y s K:=cj rfl
def abO(y:bR)(K:IX->St->Prop)(s:St):Xn P y K .ret s=K .ret s:=cj rfl
def abP(y:bR)(K:IX->St->Prop)(j:Nat)(s:St):Xn P y K (.ext j) s=K (.ext j) s:=cj rfl
def abF(id:Nat)(K:IX->St->Prop)(s:St):Xg id K .nrm s=K .nrm s:=cj rfl
def abG(id:Nat)(K:IX->St->Prop)(s:St):Xg id K .ret s=K .ret s:=cj rfl
def abH(id j:Nat)(K:IX->St->Prop)(s:St):Xg id K (.ext j) s=if j=id then K .nrm s else K (.ext j) s:=cj rfl
def abM(dr:List Nat)(K:IX->St->Prop)(s:St):Xm dr K s=K .nrm ⟨dels dr s.env,s.heap⟩:=cj rfl
def abL(r:List bF)(K:St->Prop)(s:St):Xl P r K s=jZ P r s K:=cj rfl
def Xh(al:List (Nat×Nat))(i:Nat)(r:List aR)(K:St->Prop)(hist:List HI)(s:St):NP P al i r K hist s=nC P al i r hist s K:=cj rfl
def afs(K:St->Prop)(s:St)(d:Option Nat)(v:AV)(e:bE):PH K s d v e=K ((s.eff e).put d v):=cj rfl
def abI(al:List (Nat×Nat))(i:Nat)(bf:List Nat)(op:nR)(hist:List HI)(K:List HI->St->Prop)(s:St)(d:Option Nat)(v:AV)(e:bE):Ta al i bf op hist K s d v e =
 (eH op s e=true/\iL bf ⟨i,cO op s.env,aO v++e.ids,e.tch,e.isReb,e.isPut⟩ hist=true/\Be al bf ⟨i,cO op s.env,aO v++e.ids,e.tch,e.isReb,e.isPut⟩=true /\
  K (⟨i,cO op s.env,aO v++e.ids,e.tch,e.isReb,e.isPut⟩::hist) ((s.eff e).put d v)):=rfl
def MQ(K:AV->bE->Prop)(v:AV)(e:bE):dy K (some (v,e))=K v e:=cj rfl
def MS(A:Prop)(K:AV->bE->Prop)(v:AV)(e:bE):U_ A K (some (v,e))=K v e:=cj rfl
def MR(A:Prop)(K:AV->bE->Prop):U_ A K none=A:=cj rfl
def Qp(K:AV->bE->Prop)(c:Prop)[Decidable c](x:Option (AV×bE)):dy K (if c then x else none)=(c/\dy K x):=by
 by_cases h:c<;>simp[h,dy]
def MP(K:AV->bE->Prop)(c:Prop)[Decidable c](x:Option (AV×bE)):dy K (if c then none else x)=(¬c/\dy K x):=by
 by_cases h:c<;>simp[h,dy]
def agy(v:AV):res (some v)=some (v,.no):=rfl
def ac0(c:Prop)[Decidable c](x:Option AV):res (if c then x else none)=if c then res x else none:=by split<;>rfl
def YL(c:Prop)[Decidable c](x:Option AV):res (if c then none else x)=if c then none else res x:=by split<;>rfl
def Ve(t:Bool)(a b:Prop):Vx (.bool t) a b=((t=true->a)/\(t=false->b)):=cj rfl
@[congr] theorem aek{x x':AV}{a b:Prop}(h:x=x'):Vx x a b=Vx x' a b:=by rw[h]
def Z3(a b:Prop):Vx (.bool true) a b=a:=by simp[Vx]
def Sn(t:Bool)(a b c:Prop):LO (.bool t) a b c=((t=true->a)/\(t=false->b)):=rfl
@[congr] theorem aeb{x x':AV}{a b c:Prop}(h:x=x'):LO x a b c=LO x' a b c:=by rw[h]
def abs(a b c:Prop):LO (.bool true) a b c=a:=by simp[LO]
def abr(a b c:Prop):LO (.bool false) a b c=b:=by simp[LO]
def abt(a b c:Prop):LO (.tup []) a b c=c:=by simp[LO]
def adB(a b:Prop):Vx (.bool true) a b=a:=Z3 a b
def Z2(a b:Prop):Vx (.bool false) a b=b:=by simp[Vx]
def S4(s:St)(K:IX->St->Prop):jD P .skip s K=K .nrm s:=cj rfl
def Xe(s:St)(K:IX->St->Prop):jD P .ret s K=K .ret s:=cj rfl
def S3(id:Nat)(s:St)(K:IX->St->Prop):jD P (.exit id) s K=K (.ext id) s:=cj rfl
def Xf(x y:bR)(s:St)(K:IX->St->Prop):jD P (.seq x y) s K=jD P x s (Xn P y K):=cj rfl
def PF(id:Nat)(x:bR)(s:St)(K:IX->St->Prop):jD P (.block id x) s K=jD P x s (Xg id K):=cj rfl
def S1(v:IV)(t e:bR)(s:St)(K:IX->St->Prop):jD P (.cond v t e) s K=Vx (val (get s.env) v) (jD P t (refine v true s) K) (jD P e (refine v false s) K):=cj rfl
def Xd(ops:List bF)(dr:List Nat)(s:St)(K:IX->St->Prop):jD P (.reg ops dr) s K=jZ P ops s (Xm dr K):=cj rfl
def afo(P:Program)[bO P](f:Nat)(R:List (Nat×aR))(K:St->Prop)(s:St):Prop:=Gh P f R s K
def ajz(P:Program)[bO P](f:Nat)(R:List (Nat×aR))(s:St)(K:St->Prop)(t:Nat×aR):Prop:=jZ P [t.2.o] s (afo P f (R.filter λq=>q.1 != t.1) K)
def S2(ops:List aR)(al:List (Nat×Nat))(dr:List Nat)(s:St)(K:IX->St->Prop):jD P (.draw ops al dr) s K=nC P al 0 ops [] (kills (al.map (·.1)) s) (Xm dr K):=cj rfl
def SY(s:St)(K:St->Prop):jZ P [] s K=K s:=cj rfl
def PE(d:Option Nat)(op:nR)(r:List bF)(s:St)(K:St->Prop):jZ P (⟨d,op,none⟩::r) s K=nY P ⟨d,op,none⟩ s (Xl P r K):=cj rfl
def Ht(d:Option Nat)(op:nR)(k:Nat)(r:List bF)(s:St)(K:St->Prop):jZ P (⟨d,op,some (k,true)⟩::r) s K =
  LO (get s.env k) (nY P ⟨d,op,none⟩ (s.put (some k) (.bool true)) (Xl P r K)) (jZ P r ((s.put (some k) (.bool false)).put d (.tup [])) K) (jZ P r (s.put d (.tup [])) K):=cj rfl
def Hs(d:Option Nat)(op:nR)(k:Nat)(r:List bF)(s:St)(K:St->Prop):jZ P (⟨d,op,some (k,false)⟩::r) s K =
  LO (get s.env k) (jZ P r ((s.put (some k) (.bool true)).put d (.tup [])) K) (nY P ⟨d,op,none⟩ (s.put (some k) (.bool false)) (Xl P r K)) (jZ P r (s.put d (.tup [])) K):=by
 simp only[jZ,LO];generalize get s.env k=x;cases x with
 | bool t=>exact propext ⟨λh=>⟨h.2,h.1⟩,λh=>⟨h.2,h.1⟩⟩
 | tup l=>cases l<;>rfl
 | _=>rfl
def Pv(al:List (Nat×Nat))(i:Nat)(hist:List HI)(s:St)(K:St->Prop):nC P al i [] hist s K=K s:=cj rfl
def LV(al:List (Nat×Nat))(i:Nat)(d:Option Nat)(op:nR)(bf:List Nat)(r:List aR)(hist:List HI)(s:St)(K:St->Prop) :
  nC P al i (⟨⟨d,op,none⟩,bf⟩::r) hist s K=i5 P al i ⟨⟨d,op,none⟩,bf⟩ hist s (NP P al (i+1) r K):=cj rfl
def EP(al:List (Nat×Nat))(i:Nat)(d:Option Nat)(op:nR)(k:Nat)(bf:List Nat)(r:List aR)(hist:List HI)(s:St)(K:St->Prop) :
  nC P al i (⟨⟨d,op,some (k,true)⟩,bf⟩::r) hist s K=LO (get s.env k) (i5 P al i ⟨⟨d,op,none⟩,bf⟩ hist (s.put (some k) (.bool true)) (NP P al (i+1) r K))
   (nC P al (i+1) r (⟨i,[],[],[],false,false⟩::hist) ((s.put (some k) (.bool false)).put d (.tup [])) K) (nC P al (i+1) r (⟨i,[],[],[],false,false⟩::hist) (s.put d (.tup [])) K):=cj rfl
def EO(al:List (Nat×Nat))(i:Nat)(d:Option Nat)(op:nR)(k:Nat)(bf:List Nat)(r:List aR)(hist:List HI)(s:St)(K:St->Prop) :
  nC P al i (⟨⟨d,op,some (k,false)⟩,bf⟩::r) hist s K=LO (get s.env k) (nC P al (i+1) r (⟨i,[],[],[],false,false⟩::hist) ((s.put (some k) (.bool true)).put d (.tup [])) K)
   (i5 P al i ⟨⟨d,op,none⟩,bf⟩ hist (s.put (some k) (.bool false)) (NP P al (i+1) r K)) (nC P al (i+1) r (⟨i,[],[],[],false,false⟩::hist) (s.put d (.tup [])) K):=by
 simp only[nC,fk,LO];generalize get s.env k=x;cases x with
 | bool t=>exact propext ⟨λh=>⟨h.2,h.1⟩,λh=>⟨h.2,h.1⟩⟩
 | tup l=>cases l<;>rfl
 | _=>rfl
def Zu(P:Program)[bO P](f:AV)(args:List AV)(d:Option Nat)(s:St)(K:St->Prop):Prop :=
 match f with
 | .fn f caps=>if f<4000000 then bP P f=true/\cR P f (args++caps) d s K else bP P (f-4000000)=true/\cR P (f-4000000) (caps.take 1++args++caps.drop 1) d s K
 | _=>False
def R_(f:FuncId)(caps args:List AV)(d:Option Nat)(s:St)(K:St->Prop):Zu P (.fn f caps) args d s K=if f<4000000 then bP P f=true/\cR P f (args++caps) d s K else bP P (f-4000000)=true/\cR P (f-4000000) (caps.take 1++args++caps.drop 1) d s K:=cj rfl
def CU(P:Program)[bO P](f:FuncId)(args:List AV)(i:Nat)(bf:List Nat)(op:nR)(d:Option Nat)(hist:List HI)(s:St)(K:List HI->St->Prop):Prop :=
 (∃args' r b,ac P f args' r/\(∀x∈args',aO x=[])/\bg (Vo b (ak s.heap)) args args'/\(b=true->A0 r=true)/\aO r=[] /\
   eH op s .no=true/\iL bf ⟨i,cO op s.env,[],[],false,false⟩ hist=true/\K (⟨i,cO op s.env,[],[],false,false⟩::hist) (s.put d r)) \/
 ∃k ob ob' Sb r,aX P f args [(k,ob)] Sb (λr' σ'=>r'=r/\σ'=[(k,ob')])/\Sb k/\ak s.heap k=some ob/\aO r=[]/\dz ob'=[]/\k∈cO op s.env /\
   eH op s (.put k ob')=true/\iL bf ⟨i,cO op s.env,[],[k],false,true⟩ hist=true/\K (⟨i,cO op s.env,[],[k],false,true⟩::hist) ((s.eff (.put k ob')).put d r)
def Po(al:List (Nat×Nat))(i:Nat)(d:Option Nat)(f:FuncId)(args:List IV)(g:Option (Nat×Bool))(bf:List Nat)(hist:List HI)(s:St)(K:List HI->St->Prop) :
  i5 P al i ⟨⟨d,.call f args,g⟩,bf⟩ hist s K=CU P f (args.map (val (get s.env))) i bf (.call f args) d hist s K:=cj rfl
def PY(d:Nat)(t:TypeId)(st:Nat)(rows:List (List AV))(ps:List (Nat×IV))(g:Option (Nat×Bool))(s:St)(K:St->Prop):Kv ⟨some d,.bsl t st rows ps,g⟩ s K=dy (PH K (s.kill d) (some d)) (cg d (.bsl t st rows ps) (val (get (s.kill d).env)) (ak (s.kill d).heap)):=cj rfl
def Sp(al:List (Nat×Nat))(i d:Nat)(t:TypeId)(st k:Nat)(y:IV)(g:Option (Nat×Bool))(bf:List Nat)(hist:List HI)(s:St)(K:List HI->St->Prop):i5 P al i ⟨⟨some d,.app t st (.s k) y,g⟩,bf⟩ hist s K=dy (Ta al i bf (.app t st (.s k) y) hist K s (some d)) (cg d (.app t st (.s k) y) (val (get s.env)) (ak s.heap)):=by
 refine propext ⟨λh=>?_,λh=>.inl h⟩;rcases h with h|⟨rows,h,_⟩
 .exact h
 .cases h
def LS{al:List (Nat×Nat)}{i d:Nat}{t:TypeId}{st:Nat}{y:IV}{g:Option (Nat×Bool)}{bf:List Nat}{hist:List HI}{s:St}{K:List HI->St->Prop}(rows:List (List AV))(h1:cg d (.app t st (.c .nl) y) (val (get s.env)) (ak s.heap)=some (.ms d st 0 rows.length,.new d ⟨t,st,rows,false⟩))
  (h2:eH (.app t st (.c .nl) y) s .no=true) (h3:iL bf ⟨i,cO (.app t st (.c .nl) y) s.env,[],[],false,false⟩ hist=true) (h4:K (⟨i,cO (.app t st (.c .nl) y) s.env,[],[],false,false⟩::hist) (s.put (some d) (.sl st rows))):i5 P al i ⟨⟨some d,.app t st (.c .nl) y,g⟩,bf⟩ hist s K :=
 .inr ⟨rows,rfl,h1,h2,h3,h4⟩
def RI(K:St->Prop)(s:St)(d:Option Nat)(n:Nat)(o:nR):Prop:=dy (PH K s d) (cg n o (val (get s.env)) (ak s.heap))
def ahz(K:St->Prop)(s:St)(d:Option Nat)(n:Nat)(o:nR):RI K s d n o=dy (PH K s d) (cg n o (val (get s.env)) (ak s.heap)):=cj rfl
def RD(al:List (Nat×Nat))(i:Nat)(bf:List Nat)(hist:List HI)(K:List HI->St->Prop)(s:St)(d:Option Nat)(n:Nat)(o:nR):Prop:=dy (Ta al i bf o hist K s d) (cg n o (val (get s.env)) (ak s.heap))
def ahy(al:List (Nat×Nat))(i:Nat)(bf:List Nat)(hist:List HI)(K:List HI->St->Prop)(s:St)(d:Option Nat)(n:Nat)(o:nR):RD al i bf hist K s d n o=dy (Ta al i bf o hist K s d) (cg n o (val (get s.env)) (ak s.heap)):=cj rfl
attribute[go_sem] ahz ahy
section
variable(g:Option (Nat×Bool))(s:St)(K:St->Prop)
def SN(d:Option Nat)(f:FuncId)(args:List IV):nY P ⟨d,.call f args,g⟩ s K=cR P f (args.map (val (get s.env))) d s K:=cj rfl
def PB(d:Option Nat)(f:IV)(args:List IV):nY P ⟨d,.callv f args,g⟩ s K=Zu P (val (get s.env) f) (args.map (val (get s.env))) d s K:=cj rfl
def W9(d:Option Nat)(x:IV):nY P ⟨d,.mov x,g⟩ s K=RI K s d 0 (.mov x):=cj rfl
def ST(d:Option Nat)(c a b:IV):nY P ⟨d,.pick c a b,g⟩ s K=RI K s d 0 (.pick c a b):=cj rfl
def PA(d:Option Nat)(cs:List AV)(ps:List (Nat×Nat×IV)):nY P ⟨d,.build cs ps,g⟩ s K=RI K s d 0 (.build cs ps):=cj rfl
def SQ(d:Option Nat)(n:Option Nat)(p:IV):nY P ⟨d,.load n p,g⟩ s K=RI K s d 0 (.load n p):=cj rfl
def PD(d:Option Nat)(n:Nat)(p x:IV):nY P ⟨d,.store n p x,g⟩ s K=RI K s d 0 (.store n p x):=cj rfl
def SO(d:Option Nat)(o:Nat)(p:IV):nY P ⟨d,.fadr o p,g⟩ s K=RI K s d 0 (.fadr o p):=cj rfl
def SP(d:Option Nat)(st:Nat)(x q:IV):nY P ⟨d,.iadr st x q,g⟩ s K=RI K s d 0 (.iadr st x q):=cj rfl
def SL(d:Option Nat)(st n:Nat)(x q:IV):nY P ⟨d,.aadr st n x q,g⟩ s K=RI K s d 0 (.aadr st n x q):=cj rfl
def W8(d:Option Nat)(m:Bool)(x y:IV):nY P ⟨d,.mnx m x y,g⟩ s K=RI K s d 0 (.mnx m x y):=cj rfl
def WT(d:Option Nat)(st:Nat)(x y:IV):nY P ⟨d,.cpy st x y,g⟩ s K=RI K s d 0 (.cpy st x y):=cj rfl
def Xb(d:Option Nat)(x y:IV):nY P ⟨d,.sib x y,g⟩ s K=RI K s d 0 (.sib x y):=cj rfl
def WW(d:Option Nat)(x:IV):nY P ⟨d,.cvm x,g⟩ s K=RI K s d 0 (.cvm x):=cj rfl
def Xc(d:Option Nat)(st:Nat)(x:IV)(lo hi mx:Option IV):nY P ⟨d,.slc st x lo hi mx,g⟩ s K=RI K s d 0 (.slc st x lo hi mx):=cj rfl
def W0(d:Option Nat)(x:IV):nY P ⟨d,.len x,g⟩ s K=RI K s d 0 (.len x):=cj rfl
def SW(d:Option Nat)(x:IV):nY P ⟨d,.slen x,g⟩ s K=RI K s d 0 (.slen x):=cj rfl
def SX(d:Option Nat)(x:IV)(lo hi:Option IV):nY P ⟨d,.sslc x lo hi,g⟩ s K=RI K s d 0 (.sslc x lo hi):=cj rfl
def WQ(d:Option Nat)(o:BinOp)(x y:IV):nY P ⟨d,.bin o x y,g⟩ s K=RI K s d 0 (.bin o x y):=cj rfl
def SM(d:Option Nat)(o:BinOp)(x y:IV):nY P ⟨d,.bbin o x y,g⟩ s K=RI K s d 0 (.bbin o x y):=cj rfl
def SS(d:Option Nat)(o:BinOp)(x y:IV):nY P ⟨d,.pbin o x y,g⟩ s K=RI K s d 0 (.pbin o x y):=cj rfl
def SU(d:Option Nat)(o:BinOp)(ls:List LK)(x y:IV):nY P ⟨d,.sbin o ls x y,g⟩ s K=RI K s d 0 (.sbin o ls x y):=cj rfl
def abE(d:Option Nat)(o:UnOp)(x:IV):nY P ⟨d,.un o x,g⟩ s K=RI K s d 0 (.un o x):=cj rfl
def WV(d:Option Nat)(k:IntKind)(x:IV):nY P ⟨d,.cvi k x,g⟩ s K=RI K s d 0 (.cvi k x):=cj rfl
def WY(d:Option Nat)(x:IV):nY P ⟨d,.cvs x,g⟩ s K=RI K s d 0 (.cvs x):=cj rfl
def WZ(d:Option Nat)(x:IV)(q:Nat):nY P ⟨d,.ext x q,g⟩ s K=RI K s d 0 (.ext x q):=cj rfl
def SR(d:Option Nat)(x:IV):nY P ⟨d,.nchk x,g⟩ s K=RI K s d 0 (.nchk x):=cj rfl
def W4(d:Option Nat)(f:FuncId)(cs:List IV):nY P ⟨d,.mkf f cs,g⟩ s K=RI K s d 0 (.mkf f cs):=cj rfl
def SV(d:Option Nat)(x q:IV):nY P ⟨d,.sidx x q,g⟩ s K=RI K s d 0 (.sidx x q):=cj rfl
def Xa(d:Nat)(t:TypeId)(cs:List AV):nY P ⟨some d,.new t cs,g⟩ s K=(d<1000/\dy (PH K (s.kill d) (some d)) (cg d (.new t cs) (val (get (s.kill d).env)) (ak (s.kill d).heap))):=cj rfl
def WR(d:Nat)(t:TypeId)(n:Nat)(x:IV):nY P ⟨some d,.box t n x,g⟩ s K=(d<1000/\dy (PH K (s.kill d) (some d)) (cg d (.box t n x) (val (get (s.kill d).env)) (ak (s.kill d).heap))):=cj rfl
def WS(d:Nat)(t:TypeId)(st:Nat)(rows:List (List AV))(ps:List (Nat×IV)):nY P ⟨some d,.bsl t st rows ps,g⟩ s K=(d<1000/\U_ (RF ⟨some d,.bsl t st rows ps,g⟩ s K) (PH K (s.kill d) (some d)) (cg d (.bsl t st rows ps) (val (get (s.kill d).env)) (ak (s.kill d).heap))):=cj rfl
def WP(d:Nat)(t:TypeId)(st:Nat)(x y:IV):nY P ⟨some d,.app t st x y,g⟩ s K=(d<1000/\dy (PH K (s.kill d) (some d)) (cg d (.app t st x y) (val (get (s.kill d).env)) (ak (s.kill d).heap))):=cj rfl
def WU(d:Nat)(t:TypeId)(x:IV):nY P ⟨some d,.cvb t x,g⟩ s K=(d<1000/\dy (PH K (s.kill d) (some d)) (cg d (.cvb t x) (val (get (s.kill d).env)) (ak (s.kill d).heap))):=cj rfl
def W6(d:Nat)(t:TypeId)(st:Nat)(z:List AV)(l c:IV):nY P ⟨some d,.mks t st z l c,g⟩ s K=(d<1000/\dy (PH K (s.kill d) (some d)) (cg d (.mks t st z l c) (val (get (s.kill d).env)) (ak (s.kill d).heap))):=cj rfl
end
section
variable(al:List (Nat×Nat))(i:Nat)(g:Option (Nat×Bool))(bf:List Nat)(hist:List HI)(s:St)(K:List HI->St->Prop)
def Sy(d:Option Nat)(x:IV):i5 P al i ⟨⟨d,.mov x,g⟩,bf⟩ hist s K=RD al i bf hist K s d 0 (.mov x):=cj rfl
def LR(d:Option Nat)(cs:List AV)(ps:List (Nat×Nat×IV)):i5 P al i ⟨⟨d,.build cs ps,g⟩,bf⟩ hist s K=RD al i bf hist K s d 0 (.build cs ps):=cj rfl
def Pr(d:Option Nat)(n:Option Nat)(p:IV):i5 P al i ⟨⟨d,.load n p,g⟩,bf⟩ hist s K=RD al i bf hist K s d 0 (.load n p):=cj rfl
def LT(d:Option Nat)(n:Nat)(p x:IV):i5 P al i ⟨⟨d,.store n p x,g⟩,bf⟩ hist s K=RD al i bf hist K s d 0 (.store n p x):=cj rfl
def Pp(d:Option Nat)(o:Nat)(p:IV):i5 P al i ⟨⟨d,.fadr o p,g⟩,bf⟩ hist s K=RD al i bf hist K s d 0 (.fadr o p):=cj rfl
def Pq(d:Option Nat)(st:Nat)(x q:IV):i5 P al i ⟨⟨d,.iadr st x q,g⟩,bf⟩ hist s K=RD al i bf hist K s d 0 (.iadr st x q):=cj rfl
def SA(d:Option Nat)(st:Nat)(x:IV)(lo hi mx:Option IV):i5 P al i ⟨⟨d,.slc st x lo hi mx,g⟩,bf⟩ hist s K=RD al i bf hist K s d 0 (.slc st x lo hi mx):=cj rfl
def Sw(d:Option Nat)(x:IV):i5 P al i ⟨⟨d,.len x,g⟩,bf⟩ hist s K=RD al i bf hist K s d 0 (.len x):=cj rfl
def Pu(d:Option Nat)(x:IV)(lo hi:Option IV):i5 P al i ⟨⟨d,.sslc x lo hi,g⟩,bf⟩ hist s K=RD al i bf hist K s d 0 (.sslc x lo hi):=cj rfl
def Sq(d:Option Nat)(o:BinOp)(x y:IV):i5 P al i ⟨⟨d,.bin o x y,g⟩,bf⟩ hist s K=RD al i bf hist K s d 0 (.bin o x y):=cj rfl
def Ss(d:Option Nat)(k:IntKind)(x:IV):i5 P al i ⟨⟨d,.cvi k x,g⟩,bf⟩ hist s K=RD al i bf hist K s d 0 (.cvi k x):=cj rfl
def Su(d:Option Nat)(x:IV):i5 P al i ⟨⟨d,.cvs x,g⟩,bf⟩ hist s K=RD al i bf hist K s d 0 (.cvs x):=cj rfl
def Sv(d:Option Nat)(x:IV)(q:Nat):i5 P al i ⟨⟨d,.ext x q,g⟩,bf⟩ hist s K=RD al i bf hist K s d 0 (.ext x q):=cj rfl
def Ps(d:Option Nat)(x:IV):i5 P al i ⟨⟨d,.nchk x,g⟩,bf⟩ hist s K=RD al i bf hist K s d 0 (.nchk x):=cj rfl
def Pt(d:Option Nat)(x q:IV):i5 P al i ⟨⟨d,.sidx x q,g⟩,bf⟩ hist s K=RD al i bf hist K s d 0 (.sidx x q):=cj rfl
def Sz(d:Nat)(t:TypeId)(cs:List AV):i5 P al i ⟨⟨some d,.new t cs,g⟩,bf⟩ hist s K=RD al i bf hist K s (some d) d (.new t cs):=cj rfl
def Sr(d:Nat)(t:TypeId)(st:Nat)(rows:List (List AV))(ps:List (Nat×IV)):i5 P al i ⟨⟨some d,.bsl t st rows ps,g⟩,bf⟩ hist s K=RD al i bf hist K s (some d) d (.bsl t st rows ps):=cj rfl
end
def aaH(d:Nat)(x:IV)(ρ:IV->AV)(h:Nat->Option ao):cg d (.mov x) ρ h=some (ρ x,.no):=rfl
def Uc(c a b:AV):Option (AV×bE) :=
 match c with
 | .bool true=>some (a,.no)
 | .bool false=>some (b,.no)
 | _=>none
def V2(d:Nat)(c a b:IV)(ρ:IV->AV)(h:Nat->Option ao):cg d (.pick c a b) ρ h=Uc (ρ c) (ρ a) (ρ b):=rfl
def Yo(a b:AV):Uc (.bool true) a b=some (a,.no):=rfl
def Yn(a b:AV):Uc (.bool false) a b=some (b,.no):=rfl
def aaI(d:Nat)(t:TypeId)(cs:List AV)(ρ:IV->AV)(h:Nat->Option ao):cg d (.new t cs) ρ h=some (.mp d cs.length 0 0,.new d ⟨t,cs.length,[cs],true⟩):=cj rfl
def aeQ(d:Nat)(t:TypeId)(n:Nat)(x:Option (List AV)):Option (AV×bE) :=
 match x with
 | some cs=>if cs.length=n/\(cs.all λy=>!(mC d y))=true then some (.mp d n 0 0,.new d ⟨t,n,[cs],true⟩)else none
 | none=>none
def O1(d:Nat)(t:TypeId)(n:Nat)(cs:List AV):aeQ d t n (some cs)=if cs.length=n/\(cs.all λy=>!(mC d y))=true then some (.mp d n 0 0,.new d ⟨t,n,[cs],true⟩)else none:=rfl
def aav(d:Nat)(t:TypeId)(n:Nat)(x:IV)(ρ:IV->AV)(h:Nat->Option ao):cg d (.box t n x) ρ h=aeQ d t n (iJ (ρ x)):=cj rfl
def Rx(d:Nat)(cs:List AV)(ps:List (Nat×Nat×IV))(ρ:IV->AV)(h:Nat->Option ao):cg d (.build cs ps) ρ h=res ((mO ρ cs ps).map .agg):=cj rfl
def aaP(d:Nat)(t:TypeId)(st:Nat)(x:Option (List (List AV))):Option (AV×bE) :=
 match x with
 | some rs=>some (.ms d st 0 rs.length,.new d ⟨t,st,rs,false⟩)
 | none=>none
def O2(d:Nat)(t:TypeId)(st:Nat):aaP d t st none=none:=rfl
def O3(d:Nat)(t:TypeId)(st:Nat)(rs:List (List AV)):aaP d t st (some rs)=some (.ms d st 0 rs.length,.new d ⟨t,st,rs,false⟩):=rfl
def aaw(d:Nat)(t:TypeId)(st:Nat)(rows:List (List AV))(ps:List (Nat×IV))(ρ:IV->AV)(h:Nat->Option ao):cg d (.bsl t st rows ps) ρ h=aaP d t st (pR ρ st rows ps):=cj rfl
def VZ(d:Nat)(n:Option Nat)(p:IV)(ρ:IV->AV)(h:Nat->Option ao):cg d (.load n p) ρ h=res (uJ n (ρ p) h):=cj rfl
def Y5(x:Option bE):Option (AV×bE):=x.map λe=>(.any,e)
def Qq(e:bE):Y5 (some e)=some (.any,e):=rfl
def Va(c:Prop)[Decidable c](x:Option bE):Y5 (if c then x else none)=if c then Y5 x else none:=by split<;>rfl
def Ry(d:Nat)(n:Nat)(p x:IV)(ρ:IV->AV)(h:Nat->Option ao):cg d (.store n p x) ρ h=Y5 (kL n (ρ p) (ρ x) h):=cj rfl
def VX(d:Nat)(o:Nat)(p:IV)(ρ:IV->AV)(h:Nat->Option ao):cg d (.fadr o p) ρ h=res (FB o (ρ p)):=cj rfl
def VY(d:Nat)(st:Nat)(x q:IV)(ρ:IV->AV)(h:Nat->Option ao):cg d (.iadr st x q) ρ h=res (xj st (ρ x) (ρ q)):=cj rfl
def VV(d:Nat)(st n:Nat)(x q:IV)(ρ:IV->AV)(h:Nat->Option ao):cg d (.aadr st n x q) ρ h=res (Fz st n (ρ x) (ρ q)):=cj rfl
def aaG(d:Nat)(m:Bool)(x y:IV)(ρ:IV->AV)(h:Nat->Option ao):cg d (.mnx m x y) ρ h=res (OT m (ρ x) (ρ y)):=cj rfl
def aax(d:Nat)(st:Nat)(x y:IV)(ρ:IV->AV)(h:Nat->Option ao):cg d (.cpy st x y) ρ h=Bs st (ρ x) (kH st h (ρ y)) h:=cj rfl
def aaA(d:Nat)(x:IV)(ρ:IV->AV)(h:Nat->Option ao):cg d (.cvm x) ρ h=GU (ρ x) h:=cj rfl
def aaJ(d:Nat)(x y:IV)(ρ:IV->AV)(h:Nat->Option ao):cg d (.sib x y) ρ h=res (Rs (ρ x) (ρ y)):=cj rfl
def aaK(d:Nat)(st:Nat)(x:IV)(lo hi mx:Option IV)(ρ:IV->AV)(h:Nat->Option ao):cg d (.slc st x lo hi mx) ρ h=res (vZ st (ρ x) (lo.map ρ) (hi.map ρ) (mx.map ρ)):=cj rfl
def aaD(d:Nat)(x:IV)(ρ:IV->AV)(h:Nat->Option ao):cg d (.len x) ρ h=res (Lo (ρ x)):=cj rfl
def V5(d:Nat)(x:IV)(ρ:IV->AV)(h:Nat->Option ao):cg d (.slen x) ρ h=res (Jd (ρ x)):=cj rfl
def aat(d:Nat)(t:TypeId)(st:Nat)(x y:IV)(ρ:IV->AV)(h:Nat->Option ao):cg d (.app t st x y) ρ h=qi d t st (ρ x) (kH st h (ρ y)) h:=cj rfl
def V6(d:Nat)(x:IV)(lo hi:Option IV)(ρ:IV->AV)(h:Nat->Option ao):cg d (.sslc x lo hi) ρ h=res (AT (ρ x) (lo.map ρ) (hi.map ρ)):=cj rfl
def aau(d:Nat)(o:BinOp)(x y:IV)(ρ:IV->AV)(h:Nat->Option ao):cg d (.bin o x y) ρ h=res (pt o (ρ x) (ρ y)):=cj rfl
def VW(d:Nat)(o:BinOp)(x y:IV)(ρ:IV->AV)(h:Nat->Option ao):cg d (.bbin o x y) ρ h=res (FA o (ρ x) (ρ y)):=cj rfl
def V1(d:Nat)(o:BinOp)(x y:IV)(ρ:IV->AV)(h:Nat->Option ao):cg d (.pbin o x y) ρ h=res (xm o (ρ x) (ρ y)):=cj rfl
def V3(d:Nat)(o:BinOp)(ls:List LK)(x y:IV)(ρ:IV->AV)(h:Nat->Option ao):cg d (.sbin o ls x y) ρ h=res (sZ o ls (ρ x) (ρ y)):=cj rfl
def aeC(d:Nat)(o:UnOp)(x:IV)(ρ:IV->AV)(h:Nat->Option ao):cg d (.un o x) ρ h=res (aUn o (ρ x)):=cj rfl
def ae2(k:IntKind)(x:AV):Option (AV×bE) :=
 match x with
 | .int _ n=>some (.int k (k.wrap n),.no)
 | _=>none
def RT(k k':IntKind)(n:Int):ae2 k (.int k' n)=some (.int k (k.wrap n),.no):=rfl
def ae3(x:Option (List (List AV))):Option (AV×bE) :=
 match x with
 | some rows=>res ((mR rows).map .str)
 | none=>none
def O8(rows:List (List AV)):ae3 (some rows)=res ((mR rows).map .str):=rfl
def ae1(d:Nat)(t:TypeId)(x:AV):Option (AV×bE) :=
 match x with
 | .str s=>if s.length<1073741824 then some (.ms d 1 0 s.length,.new d ⟨t,1,s.map λb=>[.int .u8 b.toNat],false⟩)else none
 | _=>none
def RS(d:Nat)(t:TypeId)(s:List UInt8):ae1 d t (.str s)=if s.length<1073741824 then some (.ms d 1 0 s.length,.new d ⟨t,1,s.map λb=>[.int .u8 b.toNat],false⟩)else none:=rfl
def afd(i:Nat)(x:AV):Option (AV×bE) :=
 match x with
 | .tup vs=>res (vs[i]?)
 | _=>none
def R9(i:Nat)(vs:List AV):afd i (.tup vs)=res (vs[i]?):=rfl
def NZ(x:AV):Option (AV×bE) :=
 match x with
 | .mp id st row off=>some (.mp id st row off,.no)
 | .ip cells=>some (.ip cells,.no)
 | .fn f caps=>some (.fn f caps,.no)
 | _=>none
def TJ(id st row off:Nat):NZ (.mp id st row off)=some (.mp id st row off,.no):=rfl
def TI(cells:List AV):NZ (.ip cells)=some (.ip cells,.no):=rfl
def TH(f:FuncId)(caps:List AV):NZ (.fn f caps)=some (.fn f caps,.no):=rfl
def ahP(x:AV):Option (AV×bE) :=
 match x with
 | .str s=>some (.str s,.no)
 | _=>none
def RV(s:List UInt8):ahP (.str s)=some (.str s,.no):=rfl
def U1(x i:AV):Option (AV×bE) :=
 match x,i with
 | .str s,.int _ n=>if 0<=n then(match s[n.toNat]? with|some b=>some (.int .u8 b.toNat,.no)|none=>none)else none
 | _,_=>none
def Qo(K:AV->bE->Prop)(s:List UInt8)(k:IntKind)(n:Int):dy K (U1 (.str s) (.int k n))=(0<=n/\n<s.length/\K (.int .u8 (ah s n.toNat).toNat) .no):=by
 simp only[U1];by_cases h:0<=n
 .rw[aF h];by_cases h2:n.toNat<s.length
  .rw[m_ h2];rw[bD h2];simp only[dy];exact propext ⟨λhk=>⟨h,by omega,hk⟩,λhk=>hk.2.2⟩
  .rw[Na (by omega)];simp only[dy];exact propext ⟨λhk=>hk.elim,λhk=>by omega⟩
 .rw[au h];simp only[dy];exact propext ⟨λhk=>hk.elim,λhk=>absurd hk.1 h⟩
def afB(d:Nat)(t:TypeId)(st:Nat)(zero:List AV)(l cp:AV):Option (AV×bE) :=
 match l,cp with
 | .int .i64 n,.int .i64 m=>if 0<=n/\n<=m/\m<1073741824/\zero.length=st then some (.ms d st 0 n.toNat,.new d ⟨t,st,List.replicate n.toNat zero,false⟩)else none
 | _,_=>none
def TF(d:Nat)(t:TypeId)(st:Nat)(zero:List AV)(n m:Int):afB d t st zero (.int .i64 n) (.int .i64 m)=if 0<=n/\n<=m/\m<1073741824/\zero.length=st then some (.ms d st 0 n.toNat,.new d ⟨t,st,List.replicate n.toNat zero,false⟩)else none:=rfl
def aaz(d:Nat)(k:IntKind)(x:IV)(ρ:IV->AV)(h:Nat->Option ao):cg d (.cvi k x) ρ h=ae2 k (ρ x):=cj rfl
def aaB(d:Nat)(x:IV)(ρ:IV->AV)(h:Nat->Option ao):cg d (.cvs x) ρ h=ae3 (kH 1 h (ρ x)):=cj rfl
def aay(d:Nat)(t:TypeId)(x:IV)(ρ:IV->AV)(h:Nat->Option ao):cg d (.cvb t x) ρ h=ae1 d t (ρ x):=cj rfl
def aaC(d:Nat)(x:IV)(q:Nat)(ρ:IV->AV)(h:Nat->Option ao):cg d (.ext x q) ρ h=afd q (ρ x):=cj rfl
def V0(d:Nat)(x:IV)(ρ:IV->AV)(h:Nat->Option ao):cg d (.nchk x) ρ h=NZ (ρ x):=cj rfl
def V4(d:Nat)(x q:IV)(ρ:IV->AV)(h:Nat->Option ao):cg d (.sidx x q) ρ h=U1 (ρ x) (ρ q):=cj rfl
def aaF(d:Nat)(t:TypeId)(st:Nat)(z:List AV)(l c:IV)(ρ:IV->AV)(h:Nat->Option ao):cg d (.mks t st z l c) ρ h=afB d t st z (ρ l) (ρ c):=cj rfl
def aaE(d:Nat)(f:FuncId)(cs:List IV)(ρ:IV->AV)(h:Nat->Option ao):cg d (.mkf f cs) ρ h=if(cs.map ρ).all Wl=true then some (.fn f (cs.map ρ),.no)else none:=cj rfl
def QU(k:IntKind)(a b:Int):pt .add (.int k a) (.int k b)=some (.int k (k.wrap (a+b))):=by cases k<;>rfl
def Q7(k:IntKind)(a b:Int):pt .sub (.int k a) (.int k b)=some (.int k (k.wrap (a-b))):=by cases k<;>rfl
def Q1(k:IntKind)(a b:Int):pt .mul (.int k a) (.int k b)=some (.int k (k.wrap (a*b))):=by cases k<;>rfl
def QW(k:IntKind)(a b:Int):pt .eql (.int k a) (.int k b)=some (.bool (a==b)):=by cases k<;>rfl
def Q2(k:IntKind)(a b:Int):pt .neq (.int k a) (.int k b)=some (.bool (a != b)):=by cases k<;>rfl
def Q0(k:IntKind)(a b:Int):pt .lss (.int k a) (.int k b)=some (.bool (decide (a<b))):=by cases k<;>rfl
def QZ(k:IntKind)(a b:Int):pt .leq (.int k a) (.int k b)=some (.bool (decide (a<=b))):=by cases k<;>rfl
def QY(k:IntKind)(a b:Int):pt .gtr (.int k a) (.int k b)=some (.bool (decide (a>b))):=by cases k<;>rfl
def QX(k:IntKind)(a b:Int):pt .geq (.int k a) (.int k b)=some (.bool (decide (a>=b))):=by cases k<;>rfl
def Q3(k:IntKind)(a b:Int):pt .quo (.int k a) (.int k b)=if b=0 then none else some (.int k (k.wrap (a.tdiv b))):=by cases k<;>rfl
def Q4(k:IntKind)(a b:Int):pt .rem (.int k a) (.int k b)=if b=0 then none else some (.int k (a.tmod b)):=by cases k<;>rfl
def bU(k:IntKind)(a b:Int):Int:=k.wrap ((BitVec.ofInt k.bits a &&& BitVec.ofInt k.bits b).toNat)
def QV(k:IntKind)(a b:Int):pt .and (.int k a) (.int k b)=some (.int k (bU k a b)):=by cases k<;>rfl
def We(k:IntKind)(a b:Int):Int:=k.wrap ((BitVec.ofInt k.bits a ||| BitVec.ofInt k.bits b).toNat)
def VD(k:IntKind)(a b:Int):pt .or (.int k a) (.int k b)=some (.int k (We k a b)):=by cases k<;>rfl
def ajt(k:IntKind)(a b:Int):Int:=k.wrap ((BitVec.ofInt k.bits a ^^^ BitVec.ofInt k.bits b).toNat)
def aeP(k:IntKind)(a b:Int):Int:=k.wrap ((BitVec.ofInt k.bits a &&& ~~~ (BitVec.ofInt k.bits b)).toNat)
def Jf(k:IntKind)(a b:Int):Int:=k.wrap (a*2^(min b.toNat k.bits))
def Cx(k:IntKind)(a b:Int):Int:=a.fdiv (2^(min b.toNat k.bits))
def Q5(k k1:IntKind)(a b:Int):pt .shl (.int k a) (.int k1 b)=if b<0 then none else some (.int k (Jf k a b)):=cj rfl
def Q6(k k1:IntKind)(a b:Int):pt .shr (.int k a) (.int k1 b)=if b<0 then none else some (.int k (Cx k a b)):=cj rfl
def OP(a b:List UInt8):pt .add (.str a) (.str b)=if a.length+b.length<4611686018427387904 then some (.str (a++b))else none:=cj rfl
def OQ(a b:List UInt8):pt .eql (.str a) (.str b)=some (.bool (a==b)):=cj rfl
def OR(a b:List UInt8):pt .neq (.str a) (.str b)=some (.bool (!(a==b))):=cj rfl
def ON(a b:Bool):FA .eql (.bool a) (.bool b)=some (.bool (a==b)):=rfl
def OO(a b:Bool):FA .neq (.bool a) (.bool b)=some (.bool (!(a==b))):=rfl
def VT(a:Bool):aUn .not (.bool a)=some (.bool (!a)):=rfl
def VS(k:IntKind)(n:Int):aUn .neg (.int k n)=some (.int k (k.wrap (0-n))):=rfl
def VO(l:LK)(ls:List LK)(xs ys:List AV):sZ .eql (l::ls) (.agg xs) (.agg ys)=(kK (l::ls) xs ys).map .bool:=rfl
def VP(l:LK)(ls:List LK)(xs ys:List AV):sZ .neq (l::ls) (.agg xs) (.agg ys)=(kK (l::ls) xs ys).map λb=>.bool (!b):=rfl
def Ro(f:FuncId)(cs:List AV):sZ .eql [] (.fn f cs) .nf=some (.bool false):=rfl
def Rp(f:FuncId)(cs:List AV):sZ .neq [] (.fn f cs) .nf=some (.bool true):=rfl
def Rq:sZ .eql [] .nf .nf=some (.bool true):=rfl
def Rr:sZ .neq [] .nf .nf=some (.bool false):=rfl
def aas:kK [] [] []=some true:=rfl
def sqK(p:Option Bool)(q:Option Bool):Option Bool:=match p,q with
 | some p,some q=>some (p&&q)
 | _,_=>none
def U6(p q:Bool):sqK (some p) (some q)=some (p&&q):=rfl
def aar(l:LK)(ls:List LK)(x y:AV)(xs ys:List AV):kK (l::ls) (x::xs) (y::ys)=sqK (kT l x y) (kK ls xs ys):=rfl
def Td(p q:Bool):kT .b (.bool p) (.bool q)=some (p==q):=rfl
def Te(k:IntKind)(p q:Int):kT .i (.int k p) (.int k q)=some (p==q):=by simp[kT]
def Tf(p q:List UInt8):kT .s (.str p) (.str q)=some (p==q):=rfl
def Ri:xm .eql .np .np=some (.bool true):=rfl
def Rj(id st row off:Nat):xm .eql (.mp id st row off) .np=some (.bool false):=rfl
def Rk(cells:List AV):xm .eql (.ip cells) .np=some (.bool false):=rfl
def Rl:xm .neq .np .np=some (.bool false):=rfl
def Rm(id st row off:Nat):xm .neq (.mp id st row off) .np=some (.bool true):=rfl
def Rn(cells:List AV):xm .neq (.ip cells) .np=some (.bool true):=rfl
def VJ(st:Nat)(rows:List (List AV)):Lo (.sl st rows)=some (.int .i64 rows.length):=rfl
def VH(id st off len:Nat):Lo (.ms id st off len)=some (.int .i64 len):=rfl
def VI:Lo .nl=some (.int .i64 0):=rfl
def OV(s:List UInt8):Jd (.str s)=some (.int .i64 s.length):=rfl
def Rb(n:Option Nat)(cells:List AV)(h:Nat->Option ao):uJ n (.ip cells) h=yD n cells:=rfl
def Xs(n:Option Nat)(st row off:Nat)(o:Option ao):Option AV :=
 match o with
 | some o=>if o.st=st then(match o.rows[row]? with|some r=>yD n (r.drop off)|none=>none)else none
 | none=>none
def Rc(n:Option Nat)(id st row off:Nat)(h:Nat->Option ao):uJ n (.mp id st row off) h=Xs n st row off (h id):=rfl
def Xu(n:Option Nat)(st off:Nat)(t:TypeId)(r:List AV)(b:Bool):Xs n st 0 off (some ⟨t,st,[r],b⟩)=yD n (r.drop off):=by simp[Xs]
def Xt{α:Type}[Inhabited α](K:AV->bE->Prop)(n:Option Nat)(st row off:Nat)(t:TypeId)(l:List α)(f:α->List AV)(b:Bool) :
  dy K (res (Xs n st row off (some ⟨t,st,l.map f,b⟩)))=(row<l.length/\dy K (res (yD n ((f (ah l row)).drop off)))):=by
 simp only[Xs,br];by_cases h2:row<l.length
 .rw[ky,m_ h2,bD h2];simp[h2]
 .rw[Na (by simpa using h2)];simp[h2,res,dy]
def aft(x:AV)(r:List AV):yD none (x::r)=some x:=rfl
def afu(n:Nat)(r:List AV):yD (some n) r=if n<=r.length then some (.agg (r.take n))else none:=rfl
def I6(id n st row off:Nat)(o:Option ao)(cs:Option (List AV)):Option bE :=
 match cs with
 | some cs=>match o with
  | some o=>if o.st=st/\cs.length=n/\(o.isRec||cs.all qn)=true then(match o.rows[row]? with
   | some r=>if off+n<=r.length then some (.put id {o with rows:=o.rows.set row (iQ r off cs)})else none
   | none=>none)else none
  | none=>none
 | none=>none
def OW(n id st row off:Nat)(x:AV)(h:Nat->Option ao):kL n (.mp id st row off) x h=I6 id n st row off (h id) (iJ x):=by
 unfold kL I6;cases iJ x<;>rfl
def Y4(id n st off:Nat)(t:TypeId)(r cs:List AV):I6 id n st 0 off (some ⟨t,st,[r],true⟩) (some cs)=if cs.length=n/\off+n<=r.length then some (.put id ⟨t,st,[iQ r off cs],true⟩)else none:=by
 simp only[I6,true_and,iT,and_true,List.getElem?_cons_zero,List.set_cons_zero];by_cases h1:cs.length=n<;>by_cases h2:off+n<=r.length<;>simp[h1,h2]
def Y3(id n st row:Nat)(t:TypeId)(rows:List (List AV))(cs:List AV)(hn:∀r∈rows,r.length=n):I6 id n st row 0 (some ⟨t,st,rows,false⟩) (some cs)=if cs.length=n/\cs.all qn=true/\row<rows.length then some (.put id ⟨t,st,rows.set row cs,false⟩)else none:=by
 simp only[I6,true_and,kA];by_cases h3:row<rows.length
 .rw[m_ h3];have hl:=hn _ (na h3);by_cases h1:cs.length=n<;>by_cases h2:cs.all qn=true<;>simp[h1,h2,h3,hl,iQ];rw[M9 (by omega),gh]
 .rw[Na (by omega)];simp[h3]
def Q8(off:Nat)(cells:List AV):FB off (.ip cells)=some (.ip (cells.drop off)):=rfl
def Q9(off id st row o:Nat):FB off (.mp id st row o)=some (.mp id st row (o+off)):=rfl
def Q_(off:Nat)(n:Option Nat)(cells:List AV):VG off n (.agg cells)=yD n (cells.drop off):=rfl
def OS{α:Type}[Inhabited α](K:AV->bE->Prop)(st:Nat)(l:List α)(f:α->List AV)(k:IntKind)(n:Int) :
  dy K (res (xj st (.sl st (l.map f)) (.int k n)))=(0<=n/\n<l.length/\K (.ip (f (ah l n.toNat))) .no):=by
 simp only[xj,true_and];by_cases h:0<=n
 .rw[aF h];by_cases h2:n.toNat<l.length
  .rw[ky,m_ h2,bD h2];simp only[kZ,res,dy];exact propext ⟨λhk=>⟨h,by omega,hk⟩,λhk=>hk.2.2⟩
  .rw[Na (by simp;omega)];exact propext ⟨λhk=>hk.elim,λhk=>by omega⟩
 .rw[au h];exact propext ⟨λhk=>hk.elim,λhk=>absurd hk.1 h⟩
def QS(st n:Nat)(cells:List AV)(k:IntKind)(j:Int):Fz st n (.ip cells) (.int k j)=if 0<=j/\j<n then some (.ip (cells.drop (j.toNat*st)))else none:=rfl
def QT(st n id s row off:Nat)(k:IntKind)(j:Int):Fz st n (.mp id s row off) (.int k j)=if 0<=j/\j<n then some (.mp id s row (off+j.toNat*st))else none:=rfl
def Wo(id st off len:Nat)(o:Option ao):Option (AV×bE) :=
 match o with
 | some o=>if st=1/\o.st=1/\o.isRec=false/\0<len then some (.ms id st off len,.put id o)else none
 | none=>none
def VF(id st off len:Nat)(h:Nat->Option ao):GU (.ms id st off len) h=Wo id st off len (h id):=by simp only[GU,Wo];cases h id<;>rfl
def RU(id off len:Nat)(t:TypeId)(rows:List (List AV)):Wo id 1 off len (some ⟨t,1,rows,false⟩)=if 0<len then some (.ms id 1 off len,.put id ⟨t,1,rows,false⟩)else none:=by simp[Wo]
def Rt(s:List UInt8)(n:Int):Rs (.str s) (.int .u8 n)=some (.int .i64 (MN s n.toNat.toUInt8)):=rfl
def Wm(id st off len:Nat)(ys:List (List AV))(o:Option ao):Option (AV×bE) :=
 match o with
 | some o=>if o.st=st/\o.isRec=false/\off+len<=o.rows.length/\ys.length<=len then some (.int .i64 ys.length,.put id {o with rows:=o.rows.take off++ys++o.rows.drop (off+ys.length)})else none
 | none=>none
def VE(st id off len:Nat)(ys:List (List AV))(h:Nat->Option ao):Bs st (.ms id st off len) (some ys) h=Wm id st off len ys (h id):=by simp only[Bs,Wm,true_and];cases h id<;>rfl
def O7(id st len:Nat)(t:TypeId)(rows ys:List (List AV))(h1:rows.length=len)(h2:ys.length=len):Wm id st 0 len ys (some ⟨t,st,rows,false⟩)=some (.int .i64 len,.put id ⟨t,st,ys,false⟩):=by
 subst h1;simp[Wm,h2]
def Rf(k:IntKind)(n m:Int):OT true (.int k n) (.int k m)=some (.int k (if n<m then m else n)):=by simp[OT]
def Ra(id st off len:Nat)(k:IntKind)(n:Int):xj st (.ms id st off len) (.int k n)=if 0<=n/\n<len then some (.mp id st (off+n.toNat) 0)else none:=by simp[xj]
def Ru(id st off len:Nat)(k:IntKind)(n:Int):vZ st (.ms id st off len) none (some (.int k n)) none=if 0<=n/\n<=len then some (.ms id st off n.toNat)else none:=by
 simp only[vZ,cH];by_cases h:0<=n<;>by_cases h2:n<=len<;>simp[h,h2]<;>omega
def Rv{α:Type}(st:Nat)(f:α->List AV)(l:List α)(k:IntKind)(n:Int):vZ st (.sl st (l.map f)) (some (.int k n)) none none=if 0<=n/\n<=l.length then some (.sl st ((l.drop n.toNat).map f))else none:=by
 simp only[vZ,cH];have:(l.drop n.toNat).map f=List.take (l.length-n.toNat) (List.drop n.toNat (l.map f)):=by rw[List.map_drop,dQ (by simp)]
 by_cases h:0<=n<;>by_cases h2:n<=l.length<;>simp[h,h2,this]<;>omega
def VQ(s:List UInt8)(k:IntKind)(n:Int):AT (.str s) none (some (.int k n))=if 0<=n/\n<=s.length then some (.str (s.take n.toNat))else none:=by
 simp only[AT,cH];by_cases h:0<=n<;>by_cases h2:n<=s.length<;>simp[h,h2]<;>omega
def VR(s:List UInt8)(k:IntKind)(n:Int):AT (.str s) (some (.int k n)) none=if 0<=n/\n<=s.length then some (.str (s.drop n.toNat))else none:=by
 simp only[AT,cH];have:s.drop n.toNat=List.take (s.length-n.toNat) (List.drop n.toNat s):=by rw[dQ (by simp)]
 by_cases h:0<=n<;>by_cases h2:n<=s.length<;>simp[h,h2,<-this]<;>omega
def VC(d:Nat)(t:TypeId)(st:Nat)(ys:List (List AV))(h:Nat->Option ao):qi d t st .nl (some ys) h=if ys.length<137438953472 then some (.ms d st 0 ys.length,.new d ⟨t,st,ys,false⟩)else none:=rfl
def tC(id:Nat)(t:TypeId)(st off len:Nat)(ys:List (List AV))(o:Option ao):Option (AV×bE) :=
 if ys.length<137438953472 then(match o with
   | some o=>if o.st=st/\o.t=t/\o.isRec=false/\off=0/\len<=o.rows.length/\len<137438953472/\(id<1000\/2000<=id)/\o.k.flat=true then
     some (.ms id st 0 (len+ys.length),.reb id ⟨t,st,o.rows.take len++ys,false⟩)else none
   | none=>none)else none
def VB(d id:Nat)(t:TypeId)(st off len:Nat)(ys:List (List AV))(h:Nat->Option ao):qi d t st (.ms id st off len) (some ys) h=tC id t st off len ys (h id):=by
 simp only[qi,tC,true_and];cases h id<;>rfl
def CI:Kd.flat instKd=true:=rfl
def OZ(id:Nat)(t:TypeId)(st len:Nat)(rows ys:List (List AV))(hl:rows.length=len):tC id t st 0 len ys (some ⟨t,st,rows,false⟩) =
  if ys.length<137438953472/\len<137438953472/\(id<1000\/2000<=id)then some (.ms id st 0 (len+ys.length),.reb id ⟨t,st,rows++ys,false⟩)else none:=by
 subst hl;simp only[tC,true_and,bG,eV,CI,and_true];by_cases h1:ys.length<137438953472<;>simp[h1]
def UO(st:Nat)(h:Nat->Option ao):kH st h .nl=some []:=rfl
def UP(st:Nat)(h:Nat->Option ao)(rows:List (List AV)):kH st h (.sl st rows)=some rows:=by simp[kH]
def Mx(st off len:Nat)(o:Option ao):Option (List (List AV)) :=
 match o with
 | some o=>if o.st=st/\o.isRec=false/\off+len<=o.rows.length then some ((o.rows.drop off).take len)else none
 | none=>none
def UN(st:Nat)(h:Nat->Option ao)(id off len:Nat):kH st h (.ms id st off len)=Mx st off len (h id):=by simp only[kH,Mx,true_and];cases h id<;>rfl
def GF(st len:Nat)(t:TypeId)(rows:List (List AV))(hl:rows.length=len):Mx st 0 len (some ⟨t,st,rows,false⟩)=some rows:=by subst hl;simp[Mx]
def U8(s:List UInt8):Y1 (.str s)=some (s.map λb=>[.int .u8 b.toNat]):=rfl
def O6{f:FuncId}{args args':List AV}{d:Option Nat}{s:St}{K:St->Prop}{r:AV}(hp:ac P f args' r)(hid:∀x∈args',aO x=[])(hc:bg (Vo false (ak s.heap)) args args')(hk:K (s.put d r)):cR P f args d s K :=
 .inl (.inl ⟨args',r,false,hp,hid,hc,(λh=>by cases h),hk⟩)
def bg.refl_coe(b:Bool)(h:Nat->Option ao):∀l:List AV,bg (Vo b h) l l
 | []=>trivial
 | _::r=>⟨.inl rfl,bg.refl_coe b h r⟩
def bY{f:FuncId}{args:List AV}{d:Option Nat}{s:St}{K:St->Prop}{r:AV}(hp:ac P f args r)(hid:∀x∈args,aO x=[])(hk:K (s.put d r)):cR P f args d s K :=
 O6 hp hid (bg.refl_coe _ _ args) hk
def oU{f:FuncId}{args:List AV}{d:Option Nat}{s:St}{K:St->Prop}{r:AV}(fs:List Nat){args':List AV}(ha:args.map (xo fs s)=args')(hp:ac P f args' r)(hid:∀x∈args',aO x=[])(hk:K ((frzs fs s).put d r)):cR P f args d s K:=by
 subst ha;exact .inr (.inl ⟨fs,.inl ⟨_,r,false,hp,hid,bg.refl_coe _ _ _,(λh=>by cases h),hk⟩⟩)
def aN{f:FuncId}{args:List AV}{i:Nat}{bf:List Nat}{op:nR}{d:Option Nat}{hist:List HI}{s:St}{K:List HI->St->Prop}{r:AV}(hp:ac P f args r)(hid:∀x∈args,aO x=[])(hr:aO r=[])
  (hk:eH op s .no=true/\iL bf ⟨i,cO op s.env,[],[],false,false⟩ hist=true/\K (⟨i,cO op s.env,[],[],false,false⟩::hist) (s.put d r)):CU P f args i bf op d hist s K :=
 .inl ⟨args,r,false,hp,hid,bg.refl_coe _ _ args,(λh=>by cases h),hr,hk⟩
def O9{f:FuncId}{args:List AV}{i:Nat}{bf:List Nat}{op:nR}{d:Option Nat}{hist:List HI}{s:St}{K:List HI->St->Prop}{r:AV}{k:Nat}{ob ob':ao}{Sb:Nat->Prop}(hp:aX P f args [(k,ob)] Sb (λr' σ'=>r'=r/\σ'=[(k,ob')]))(hs:Sb k)(hk:ak s.heap k=some ob)(hr:aO r=[])(ho:dz ob'=[])
  (hop:k∈cO op s.env) (hK:eH op s (.put k ob')=true/\iL bf ⟨i,cO op s.env,[],[k],false,true⟩ hist=true/\K (⟨i,cO op s.env,[],[k],false,true⟩::hist) ((s.eff (.put k ob')).put d r)):CU P f args i bf op d hist s K :=
 .inr ⟨k,ob,ob',Sb,r,hp,hs,hk,hr,ho,hop,hK⟩
def NY:∀{l:List (Nat×AV)}{k:Nat},get l k = .any\/(k,get l k)∈l
 | [],k=>.inl rfl
 | (j,x)::r,k=>by
  simp only[get];split
  .rename_i h;subst h;exact .inr (by simp)
  .rcases NY (l:=r) (k:=k)with h|h
   .exact .inl h
   .exact .inr (by simp[h])
def fW:∀{l:List (Nat×ao)}{k:Nat}{o:ao},ak l k=some o->(k,o)∈l
 | [],k,o,h=>by simp[ak]at h
 | (j,x)::r,k,o,h=>by
  simp only[ak]at h;split at h
  .rename_i hj;cases h;subst hj;simp
  .simp[fW h]
def c_.le{c:vE}{a:Act}{w:World}{s s':St}(hs:c_ c s a w)(h1:∀p∈s'.env,get s.env p.1=p.2)(h2:∀p∈s'.heap,ak s.heap p.1=some p.2):c_ c s' a w:=by
 obtain⟨bl,hs⟩:=hs;refine⟨bl,hs.weaken (λk=>?_) (λi o hi=>h2 (i,o) (fW hi))⟩;rcases NY (l:=s'.env) (k:=k)with h|h
 .exact .inl h
 .exact .inr (h1 _ h).symm
def Wk.refl(s:St):Wk s s:=λ_ _ _ h=>h
def Wk.trans{s s' s'':St}(h:Wk s s')(h':Wk s' s''):Wk s s'':=λc a w hs=>h' c a w (h c a w hs)
def Wk.le{s s':St}(h1:∀p∈s'.env,get s.env p.1=p.2)(h2:∀p∈s'.heap,ak s.heap p.1=some p.2):Wk s s':=λ_ _ _ hs=>hs.le h1 h2
def Wk.frz(s:St)(i:Nat):Wk s (s.frz i):=λ_ _ _ hs=>hs.frz i
def Xk{α:Type}(S:α->St)(p:α->Prop)(m:α->Nat)(q:α)(K:IX->St->Prop)(e:IX)(s:St):Prop :=
 match e with
 | .nrm=>∃q',p q'/\m q'<m q/\Wk s (S q')
 | e=>K e s
def aE{α:Type}{S:α->St}{p:α->Prop}{m:α->Nat}{q:α}{K:IX->St->Prop}{s:St}(q':α)(h1:p q')(h2:m q'<m q)(h3:Wk s (S q')):Xk S p m q K .nrm s:=⟨q',h1,h2,h3⟩
def afp{α:Type}(S:α->St)(p:α->Prop)(m:α->Nat)(q:α)(K:IX->St->Prop)(s:St):Xk S p m q K .ret s=K .ret s:=cj rfl
def afq{α:Type}(S:α->St)(p:α->Prop)(m:α->Nat)(q:α)(K:IX->St->Prop)(j:Nat)(s:St):Xk S p m q K (.ext j) s=K (.ext j) s:=cj rfl
def an{α:Type}(S:α->St)(p:α->Prop)(m:α->Nat){x:bR}{s:St}{K:IX->St->Prop}(q:α)(h1:p q)(h2:Wk s (S q))
  (hstep:∀q,p q->jD P x (S q) (Xk S p m q K)):jD P (.loop x) s K:=by
 refine⟨λn s=>∃q,p q/\m q=n/\s=S q,⟨m q,S q,⟨q,h1,rfl,rfl⟩,h2⟩,?_⟩;rintro n s ⟨q,h3,rfl,rfl⟩;refine JL _ _ _ _ (λe s' hh=>?_) (hstep q h3);cases e with
 | nrm=>obtain⟨q',h4,h5,h6⟩:=hh;exact⟨m q',S q',h5,⟨q',h4,rfl,rfl⟩,h6⟩
 | _=>exact hh
def kmt{α:Type}(S:α->St)(p:α->Prop)(K:IX->St->Prop)(e:IX)(s:St):Prop :=
 match e with
 | .nrm=>∃q,p q/\Wk s (S q)
 | e=>K e s
def aq{l:List lS}{r:AV}{s:St}(fs:List Nat)(h:q_ l (frzs fs s)=some r)(h2:aO r=[]):AS l r .ret s:=⟨(λ_ h=>by cases h),s,Wk.refl s,fs,h,h2⟩
def az{l:List lS}{r:AV}{s:St}(h:q_ l (frzs [] s)=some r:=by simp only[go_sem])(h2:aO r=[]:=by first|rfl|simp[go_sem,ab]):AS l r .ret s:=aq [] h h2
def ax{l:List lS}{r:AV}{s:St}(h:q_ l (frzs [] s)=some r:=by rfl)(h2:aO r=[]:=by rfl):AS l r .ret s:=aq [] h h2
def aj{f:FuncId}{args:List AV}{d:Option Nat}{s:St}{K:St->Prop}{r:AV}(hp:ac P f args r)(hk:K (s.put d r))(hid:∀x∈args,aO x=[]:=by simp[go_sem]):cR P f args d s K:=bY hp hid hk
def aa{f:FuncId}{args:List AV}{d:Option Nat}{s:St}{K:St->Prop}{r:AV}{Q:Prop}(hp:ac P f args r)(hk:Q)(hq:K (s.put d r)=Q:=by conv=>lhs;simp only[go_sem])(hid:∀x∈args,aO x=[]:=by simp[go_sem]):cR P f args d s K:=bY hp hid (hq.mpr hk)
end
attribute[go_sem] W9 Sy ST PA LR SQ Pr PD LT SO Pp SP Pq SL W8 WT Xb WW Xc SA W0 Sw SW SX Pu WQ Sq SM SS SU abE WV Ss WY Su WZ Sv SR Ps W4 SV Pt Xa Sz WR WS Sr WP Sp WU W6
attribute[go_sem] aaH V2 aaI aav Rx aaw VZ Ry VX VY VV aaG aax aaA aaJ aaK aaD V5 aat V6 aau VW V1 V3 aeC aaz aaB aay aaC V0 V4 aaF aaE QU Q7 Q1 QW Q2 Q0 QZ QY QX Q3 Q4 QV VD Q5 Q6 OP OQ OR
attribute[go_sem] abN abO abP abF abG abH abM abL Xh afs abI MQ MS MR O2 Qp MP agy ac0 YL Ve Sn afp afq
def adA(a b:Prop):Vx (.bool false) a b=b:=Z2 a b
attribute[go_sem ↓] Z3 Z2
attribute[go_sem high] adB adA abs abr abt
attribute[go_sem] S4 Xe S3 Xf PF S1 Xd S2 SY PE Ht Hs Pv LV EP EO SN PB Po R_
attribute[go_sem] Yo Yn O1 O3 Qq Va RT O8 RS R9 TJ TI TH RV Qo TF ON OO VT VS VO VP Ro Rp Rq Rr aas U6 aar Td Te Tf Ri Rj Rk Rl Rm Rn VJ VH VI OV Rb Rc Xu Xt aft afu OW Y4 Q8 Q9 Q_ OS Ra QS QT Rf Rt VE VF RU Ru Rv VQ VR VC VB UO UP UN U8
def afi(n:Nat):get [] n = .any:=cj rfl
def afh(k n:Nat)(x:AV)(r:List (Nat×AV)):get ((k,x)::r) n=if k=n then x else get r n:=cj rfl
def aby(n:Nat):ak [] n=none:=cj rfl
def abx(k n:Nat)(x:ao)(r:List (Nat×ao)):ak ((k,x)::r) n=if k=n then some x else ak r n:=cj rfl
def ae9(n:Nat):del [] n=[]:=cj rfl
def ae8(k n:Nat)(x:AV)(r:List (Nat×AV)):del ((k,x)::r) n=if k=n then del r n else(k,x)::del r n:=cj rfl
def abw(n:Nat):r9 [] n=[]:=cj rfl
def abv(k n:Nat)(x:ao)(r:List (Nat×ao)):r9 ((k,x)::r) n=if k=n then r9 r n else(k,x)::r9 r n:=cj rfl
def acI(i:Nat):og i []=[]:=cj rfl
def acH(i k:Nat)(x:AV)(r:List (Nat×AV)):og i ((k,x)::r)=(k,i7 i x)::og i r:=cj rfl
def acK(i:Nat):oh i []=[]:=cj rfl
def acJ(i k:Nat)(x:ao)(r:List (Nat×ao)):oh i ((k,x)::r)=(k,eJ i x)::oh i r:=cj rfl
def agf(e:List (Nat×AV))(h:List (Nat×ao))(d:Nat)(x:AV):St.put ⟨e,h⟩ (some d) x =⟨(d,x)::e,h⟩:=cj rfl
def age(s:St)(x:AV):s.put none x=s:=cj rfl
def abJ(e:List (Nat×AV))(h:List (Nat×ao))(i:Nat):St.kill ⟨e,h⟩ i =⟨og i e,oh i (r9 h i)⟩:=cj rfl
def aaZ(s:St):s.eff .no=s:=cj rfl
def Wu(e:List (Nat×AV))(h:List (Nat×ao))(i:Nat)(o:ao):St.eff ⟨e,h⟩ (.put i o) =⟨e,(i,o)::r9 h i⟩:=cj rfl
def Wt(e:List (Nat×AV))(h:List (Nat×ao))(i:Nat)(o:ao):St.eff ⟨e,h⟩ (.new i o) =⟨e,(i,o)::r9 h i⟩:=cj rfl
def Wv(e:List (Nat×AV))(h:List (Nat×ao))(i:Nat)(o:ao):St.eff ⟨e,h⟩ (.reb i o) =⟨og i e,(i,o)::oh i (r9 h i)⟩:=cj rfl
def Xj(s:St):kills [] s=s:=cj rfl
def Xi(i:Nat)(r:List Nat)(s:St):kills (i::r) s=kills r (s.kill i):=cj rfl
def aaY(e:List (Nat×AV)):dels [] e=e:=cj rfl
def aaX(d:Nat)(r:List Nat)(e:List (Nat×AV)):dels (d::r) e=dels r (del e d):=cj rfl
def ag5(g:Nat->AV)(k:Nat):val g (.s k)=g k:=cj rfl
def ag4(g:Nat->AV)(x:AV):val g (.c x)=x:=cj rfl
def UG(k:Nat)(b:Bool)(s:St):refine (.s k) b s=s.put (some k) (.bool b):=cj rfl
def UF(x:AV)(b:Bool)(s:St):refine (.c x) b s=s:=cj rfl
attribute[go_sem] afi afh aby abx ae9 ae8 abw abv acI acH acK acJ agf age abJ aaZ Wu Wt Wv Xj Xi aaY aaX ag5 ag4 UG UF
attribute[go_sem] mO pR iJ qn iQ Wl mR
attribute[go_sem] i7 eJ BU mV mG mC mP aO oZ kv mT dz cO aA bq ln eH iL Be HA A7 bE.tch bE.isReb bE.isPut bE.ids
attribute[go_sem] q_ JK NL Kt frzs St.frz xo frz1 Sg Pm y7 Hj Ag tE jC mQ A0 Jw FZ
attribute[go_sem] eR k9 k7 fA gh xA List.all_nil List.any_cons List.any_nil List.contains_cons List.contains_nil wG List.flatMap_nil List.drop_succ_cons M8 List.take_succ_cons mA aT aC cU
attribute[go_sem] List.getElem?_cons_zero IN List.set_cons_zero List.set_cons_succ
attribute[go_sem] kZ Option.map_none IT Option.getD_none Option.isSome_some
attribute[go_sem] pq wE Bool.and_true bW Bool.and_false dR Bool.or_true iT Bool.or_false kA
attribute[go_sem] true_and and_true true_implies implies_true false_implies br cD not_true_eq_false not_false_eq_true and_self true_or or_true false_or or_false
section
variable{P:Program}[bO P]
def aiL(d:Nat)(x:AV):Option (AV×bE) :=
 match x with
 | .str s=>some (.mm d false,.new d (@ao.mk 0 0 [] false (.it s 0)))
 | _=>none
def ZJ(k:Bool)(x:AV)(h:Nat->Option ao)(f:Nat->ao->Option (AV×bE)):Option (AV×bE) :=
 match x with
 | .mm id k'=>if k=k' then(h id).bind (f id)else none
 | _=>none
def ahA(o:ao):Option (AV×bE):=(By o).map λes=>(.int .i64 es.length,.no)
def aie(x n y:AV)(h:Nat->Option ao):Option (AV×bE) :=
 match n with
 | .int .i64 n=>ZJ true x h λid=>OU id n y
 | _=>none
def Rg(d:Nat)(ok:Bool)(kd:KK)(z x y:AV)(h:Nat->Option ao):nT d (.mlk ok kd z) [x,y] h=ZJ true x h λ_=>GV ok kd z y:=by
 cases x<;>try rfl
 rename_i id k;cases k<;>rfl
def Rh(d:Nat)(kd:KK)(x y q:AV)(h:Nat->Option ao):nT d (.mup kd) [x,y,q] h=ZJ true x h λid=>EH id kd y q:=by
 cases x<;>try rfl
 rename_i id k;cases k<;>rfl
def W5(d:Nat)(g:Option (Nat×Bool))(s:St)(K:St->Prop):nY P ⟨some d,.mop .mkm [],g⟩ s K=(d<1000/\dy (PH K (s.kill d) (some d)) (some (.mm d true,.new d (@ao.mk 0 0 [] false (.mp []))))):=rfl
def Sx(al:List (Nat×Nat))(i d:Nat)(g:Option (Nat×Bool))(bf:List Nat)(hist:List HI)(s:St)(K:List HI->St->Prop):i5 P al i ⟨⟨some d,.mop .mkm [],g⟩,bf⟩ hist s K=dy (Ta al i bf (.mop .mkm []) hist K s (some d)) (some (.mm d true,.new d (@ao.mk 0 0 [] false (.mp [])))):=rfl
def W7(d:Option Nat)(ok:Bool)(kd:KK)(z:AV)(x y:IV)(g:Option (Nat×Bool))(s:St)(K:St->Prop):nY P ⟨d,.mop (.mlk ok kd z) [x,y],g⟩ s K=dy (PH K s d) (ZJ true (val (get s.env) x) (ak s.heap) λ_=>GV ok kd z (val (get s.env) y)):=by
 rw[<-Rg (d.getD 0) ok kd z (val (get s.env) x) (val (get s.env) y) (ak s.heap)];rfl
def W_(d:Option Nat)(kd:KK)(x y q:IV)(g:Option (Nat×Bool))(s:St)(K:St->Prop):nY P ⟨d,.mop (.mup kd) [x,y,q],g⟩ s K=dy (PH K s d) (ZJ true (val (get s.env) x) (ak s.heap) λid=>EH id kd (val (get s.env) y) (val (get s.env) q)):=by
 rw[<-Rh (d.getD 0) kd (val (get s.env) x) (val (get s.env) y) (val (get s.env) q) (ak s.heap)];rfl
def UL(d:Nat)(s:List UInt8):aiL d (.str s)=some (.mm d false,.new d (@ao.mk 0 0 [] false (.it s 0))):=rfl
def afD(id:Nat)(h:Nat->Option ao)(f:Nat->ao->Option (AV×bE)):ZJ true (.mm id true) h f=(h id).bind (f id):=rfl
def afC(id:Nat)(h:Nat->Option ao)(f:Nat->ao->Option (AV×bE)):ZJ false (.mm id false) h f=(h id).bind (f id):=rfl
def ab1(x y:AV)(n:Int)(h:Nat->Option ao):aie x (.int .i64 n) y h=ZJ true x h λid=>OU id n y:=rfl
def MJ{α β:Type}(x:α)(f:α->Option β):(some x).bind f=f x:=rfl
def VL(t st:Nat)(rows:List (List AV))(r:Bool)(es:List (AV×AV)):ahA (@ao.mk t st rows r (.mp es))=some (.int .i64 es.length,.no):=rfl
def lkS(K:AV->bE->Prop)(ok:Bool)(z:AV)(es:List (AV×AV))(q:Option (Option Nat)):Prop :=
 match q with
 | some (some i)=>match es[i]? with
  | some e=>K (if ok then .tup [e.2,.bool true]else e.2) .no
  | none=>False
 | some none=>K (if ok then .tup [z,.bool false]else z) .no
 | none=>False
def VK(K:AV->bE->Prop)(ok:Bool)(kd:KK)(z y:AV)(t st:Nat)(rows:List (List AV))(r:Bool)(es:List (AV×AV)):dy K (GV ok kd z y (@ao.mk t st rows r (.mp es)))=lkS K ok z es (jx kd y es):=by
 simp only[GV,By,lkS];cases jx kd y es with
 | none=>rfl
 | some q=>cases q with
  | none=>rfl
  | some i=>cases h:es[i]? <;> simp[h,dy]
def VM(K:AV->bE->Prop)(id:Nat)(kd:KK)(y q:AV)(t st:Nat)(rows:List (List AV))(r:Bool)(es:List (AV×AV)):dy K (EH id kd y q (@ao.mk t st rows r (.mp es))) =
  (qV y=true/\qV q=true/\∃es',KA kd y q es=some es'/\K .any (.put id (@ao.mk t st rows r (.mp es')))):=by
 simp only[EH,By];cases qV y<;>cases qV q<;>cases KA kd y q es<;>simp[dy]
def ado(b:Bool)(x:AV)(K:AV->bE->Prop):Prop :=
 match x with
 | .sl _ []=>K (.bool b) .no/\K (.bool (!b)) .no
 | x=>match Rw b x with
  | some v=>K v .no
  | none=>False
def Y0(b:Bool)(K:AV->bE->Prop):ado b .nl K=K (.bool (!b)) .no:=rfl
def adp(b:Bool)(st:Nat)(K:AV->bE->Prop):ado b (.sl st []) K=(K (.bool b) .no/\K (.bool (!b)) .no):=rfl
def adq(b:Bool)(st:Nat)(r:List AV)(rows:List (List AV))(K:AV->bE->Prop):ado b (.sl st (r::rows)) K=K (.bool b) .no:=rfl
end
def ao.k_e(t:TypeId)(st:Nat)(rows:List (List AV))(r:Bool)(k:Kd):(@ao.mk t st rows r k).k=k:=rfl
attribute[go_sem] ao.k_e
attribute[go_sem] Y0 adp adq
attribute[go_sem] W5 Sx W7 W_ UL afD afC ab1 MJ VL VK VM
def rE(ρ:Nat->Nat):AV->AV
 | .ms id st off len=>.ms (ρ id) st off len
 | .mp id st row off=>.mp (ρ id) st row off
 | .mm id k=>.mm (ρ id) k
 | x=>x
def qx(ρ:Nat->Nat):AV->AV
 | .fn f caps=>.fn f (caps.map (rE ρ))
 | x=>rE ρ x
def wz(ρ:Nat->Nat):AV->AV
 | .agg cells=>.agg (cells.map (qx ρ))
 | x=>qx ρ x
def m8(ρ:Nat->Nat):AV->AV
 | .tup vs=>.tup (vs.map (wz ρ))
 | x=>wz ρ x
def iP(ρ:Nat->Nat)(o:ao):ao:=if o.isRec then{o with rows:=o.rows.map (λr=>r.map (qx ρ))}else o
def iO(ρ:Nat->Nat):List (Nat×ao)->List (Nat×ao)
 | []=>[]
 | (i,o)::r=>(ρ i,iP ρ o)::iO ρ r
section
variable{P:Program}[bO P]{bl bl':Nat->Option Nat}{M M':Nat->Prop}{w:World}{ρ τ:Nat->Nat}
def IRel.mono{v:Value}{x:AV}(h:IRel M w v x)(hM:∀b,M' b->M b):IRel M' w v x:=h.tr λb hb _=>⟨λh'=>hb (hM b h'),rfl⟩
def KI{v:Value}{x:AV}(h:eu bl M w v x)(hb:∀i,bl' (ρ i)=bl i)(hM:∀b,M' b->M b):eu bl' M' w v (rE ρ x):=by
 cases x with
 | ms id st off len =>
  simp only[rE,eu]at h⊢;rw[hb];exact h
 | mp id st row off =>
  simp only[rE,eu]at h⊢;rw[hb];exact h
 | mm id k =>
  simp only[rE,eu]at h⊢;rw[hb];exact h
 | _=>exact IRel.mono h hM
def DZ{v:Value}{x:AV}(h:cG bl M w v x)(hb:∀i,bl' (ρ i)=bl i)(hM:∀b,M' b->M b):cG bl' M' w v (qx ρ x):=by
 cases x with
 | fn f caps =>
  obtain⟨cs,h1,h2⟩:=h;exact⟨cs,h1,h2.mapRight λ_ _ hr=>KI hr hb hM⟩
 | _=>simp only[cG]at h;exact KI (ρ:=ρ) h hb hM
def KH{v:Value}{x:AV}(h:ff bl M w v x)(hb:∀i,bl' (ρ i)=bl i)(hM:∀b,M' b->M b):ff bl' M' w v (wz ρ x):=by
 cases x with
 | agg cells =>
  obtain⟨cs,h1,h2⟩:=h;exact⟨cs,h1,h2.mapRight λ_ _ hr=>DZ hr hb hM⟩
 | _=>simp only[ff]at h;exact DZ (ρ:=ρ) h hb hM
def D3{v:Value}{x:AV}(h:bu bl M w v x)(hb:∀i,bl' (ρ i)=bl i)(hM:∀b,M' b->M b):bu bl' M' w v (m8 ρ x):=by
 cases x with
 | any=>trivial
 | tup vs =>
  obtain⟨cs,h1,h2⟩:=h;exact⟨cs,h1,h2.mapRight λ_ _ hr=>KH hr hb hM⟩
 | _=>simp only[bu]at h;exact KH (ρ:=ρ) h hb hM
def acZ(o:ao):(iP ρ o).t=o.t:=by unfold iP;split<;>rfl
def Ir(o:ao):(iP ρ o).st=o.st:=by unfold iP;split<;>rfl
def D2(o:ao):(iP ρ o).isRec=o.isRec:=by unfold iP;split<;>rfl
def kS(h1:∀i,τ (ρ i)=i)(h2:∀i,ρ (τ i)=i):∀(σ:List (Nat×ao))(i:Nat),ak (iO ρ σ) i=(ak σ (τ i)).map (iP ρ)
 | [],i=>rfl
 | (k,o)::r,i=>by
  simp only[iO,ak,kS h1 h2 r i];by_cases h:ρ k=i
  .rw[aF h,aF (by rw[<-h,h1])];rfl
  .rw[au h,au (λhk=>h (by rw[hk,h2]))]
def UJ{MF:Nat->Prop}{o:ao}{b:Nat}(h:qh bl M MF w o b)(hb:∀i,bl' (ρ i)=bl i)(hM:∀b,M' b->M b):qh bl' M' MF w (iP ρ o) b:=by
 rcases h with⟨gk,c1,fr,h2,h3,h4,h5,h6,h7⟩|hsp;rotate_left
 .have:iP ρ o=o:=by simp[iP,hsp.isRec]
  rw[this];exact .inr hsp
 refine .inl ⟨by unfold iP;split<;>exact gk,c1,fr,by rw[acZ];exact h2,h3,h4,λk r hr=>?_,?_,λk q r x hr hx=>?_⟩
 .rw[Ir];unfold iP at hr;split at hr
  .simp only[ky,dV]at hr;obtain⟨r0,h8,rfl⟩:=hr;simpa using h5 k r0 h8
  .exact h5 k r hr
 .rw[Ir];unfold iP;split<;>simpa using h6
 .rw[Ir,D2];unfold iP at hr;split at hr
  .rename_i hrc;simp only[ky,dV]at hr;obtain⟨r0,h8,rfl⟩:=hr;simp only[ky,dV]at hx;obtain⟨x0,h9,rfl⟩:=hx;obtain⟨u,hu1,hu2⟩:=h7 k q r0 x0 h8 h9;rw[hrc]at hu2⊢;exact⟨u,hu1,DZ hu2 hb hM⟩
  .rename_i hrc;obtain⟨u,hu1,hu2⟩:=h7 k q r x hr hx;have hrc':o.isRec=false:=by simpa using hrc
   rw[hrc']at hu2⊢;exact⟨u,hu1,IRel.mono hu2 hM⟩
def D1{MF:Nat->Prop}{σ:List (Nat×ao)}(h1:∀i,τ (ρ i)=i)(h2:∀i,ρ (τ i)=i)(h:Li bl M MF w (ak σ))(hb:∀i,bl' (ρ i)=bl i)(hM:∀b,M' b->M b):Li bl' M' MF w (ak (iO ρ σ)):=by
 have hs:∀{i o},ak (iO ρ σ) i=some o->∃o0,ak σ (τ i)=some o0/\o=iP ρ o0:=λ{i o} hi=>by
  rw[kS h1 h2]at hi;simp only[dV]at hi;obtain⟨o0,h3,h4⟩:=hi;exact⟨o0,h3,h4.symm⟩
 have hbt:∀i,bl' i=bl (τ i):=λi=>by rw[<-hb,h2]
 refine⟨λi o hi=>?_,λi i' o o' b hi hi' q q'=>?_⟩
 .obtain⟨o0,h3,rfl⟩:=hs hi;rcases h.1 _ o0 h3 with hn|⟨b,h4,h5⟩
  .refine .inl ⟨?_,by rw[D2];exact hn.2.1,by rw[hbt];exact hn.2.2⟩;unfold iP;rw[hn.2.1];exact hn.1
  .exact .inr ⟨b,by rw[hbt];exact h4,UJ h5 hb hM⟩
 .obtain⟨o0,h3,_⟩:=hs hi;obtain⟨o1,h4,_⟩:=hs hi';have:=h.2 _ _ _ _ b h3 h4 (by rw[<-hbt];exact q) (by rw[<-hbt];exact q');rw[<-h2 i,<-h2 i',this]
def D0{MF:Nat->Prop}{σ:List (Nat×ao)}(h1:∀i,τ (ρ i)=i)(h2:∀i,ρ (τ i)=i)(hb:∀i,bl' (ρ i)=bl i)(b:Nat)(h:bK bl' MF (ak (iO ρ σ)) b):bK bl MF (ak σ) b:=by
 rcases h with h|⟨i,o,h3,h4⟩
 .exact .inl h
 .rw[kS h1 h2]at h3;simp only[dV]at h3;obtain⟨o0,h5,_⟩:=h3;exact .inr ⟨_,o0,h5,by rw[<-hb,h2];exact h4⟩
def UI{σ:List (Nat×ao)}(h1:∀i,τ (ρ i)=i)(h2:∀i,ρ (τ i)=i)(hb:∀i,bl' (ρ i)=bl i)(b:Nat)(h:rQ bl' (iO ρ σ) b):rQ bl σ b:=by
 obtain⟨i,o,h3,h4⟩:=h;rw[kS h1 h2]at h3;simp only[dV]at h3;obtain⟨o0,h5,_⟩:=h3;exact⟨_,o0,h5,by rw[<-hb,h2];exact h4⟩
def CW(x:AV):mT (rE ρ x)=(mT x).map ρ:=by cases x<;>rfl
def fB{f g:AV->List Nat}{r:AV->AV}(h:∀x,f (r x)=(g x).map ρ):∀l:List AV,(l.map r).flatMap f=(l.flatMap g).map ρ
 | []=>rfl
 | x::l=>by simp only[eR,wG,fB h l,h,kr]
def CV(x:AV):kv (qx ρ x)=(kv x).map ρ:=by
 cases x with
 | fn f caps=>exact fB CW caps
 | _=>rfl
def SB(x:AV):oZ (wz ρ x)=(oZ x).map ρ:=by
 cases x with
 | agg cells=>exact fB CV cells
 | fn f caps=>exact fB CW caps
 | _=>rfl
def SD(x:AV):aO (m8 ρ x)=(aO x).map ρ:=by
 cases x with
 | tup vs=>exact fB SB vs
 | agg cells=>exact fB CV cells
 | fn f caps=>exact fB CW caps
 | _=>rfl
def SC(o:ao):dz (iP ρ o)=(dz o).map ρ:=by
 unfold dz;rw[D2];split
 .rename_i h;simp only[iP,h,br];generalize o.rows=l
  induction l with
  | nil=>rfl
  | cons r l ih=>simp only[eR,wG,ih,kr];congr 1;exact fB CV r
 .rfl
def JV:∀{σ:List (Nat×ao)}{p:Nat×ao},p∈iO ρ σ->∃q∈σ,p=(ρ q.1,iP ρ q.2)
 | [],_,h=>by cases h
 | (i,o)::r,p,h=>by
  simp only[iO,eA]at h;rcases h with h|h
  .exact⟨(i,o),by simp,h⟩
  .obtain⟨q,h1,h2⟩:=JV h;exact⟨q,by simp[h1],h2⟩
def tU.ren{r:AV}{σ:List (Nat×ao)}(h1:∀i,τ (ρ i)=i)(h2:∀i,ρ (τ i)=i)(h:tU r σ):tU (m8 ρ r) (iO ρ σ):=by
 have key:∀{i},(ak σ i).isSome=true->(ak (iO ρ σ) (ρ i)).isSome=true:=λ{i} hi=>by
  rw[kS h1 h2,h1];simpa using hi
 refine⟨λi hi=>?_,λp hp i hi=>?_⟩
 .rw[SD,iD]at hi;obtain⟨j,h3,rfl⟩:=hi;exact key (h.1 j h3)
 .obtain⟨q,h3,rfl⟩:=JV hp;simp only[SC,iD]at hi;obtain⟨j,h4,rfl⟩:=hi;exact key (h.2 q h3 j h4)
def aX.ren{f:FuncId}{args args2:List AV}{σ σ2:List (Nat×ao)}{Sb:Nat->Prop}{Post:AV->List (Nat×ao)->Prop}(h:aX P f args σ Sb Post)(ρ τ:Nat->Nat)(h1:∀i,τ (ρ i)=i)(h2:∀i,ρ (τ i)=i)
  (ha:args2.map (m8 τ)=args) (hσ:iO τ σ2=σ):aX P f args2 σ2 (λid=>Sb (τ id)) (λr σ'=>∃r0 σ0,Post r0 σ0/\r=m8 ρ r0/\σ'=iO ρ σ0):=by
 intro bl MF w cargs hTH hTW hH hMF hargs;subst ha hσ;have hb:∀i,(λi=>bl (ρ i)) (τ i)=bl i:=λi=>by simp only[h2]
 have hmut:∀b,bK (λi=>bl (ρ i)) MF (ak (iO τ σ2)) b->bK bl MF (ak σ2) b:=λb hm=>D0 h2 h1 hb b hm;have hblk:∀b,rQ (λi=>bl (ρ i)) (iO τ σ2) b->rQ bl σ2 b:=λb hm=>UI h2 h1 hb b hm;refine(h (λi=>bl (ρ i)) MF w cargs hTH (λb hb hB=>hTW b hb (hmut b hB)) (D1 h2 h1 hH hb hmut) hMF (hargs.mapRight λ_ _ hr=>D3 hr hb hmut)).mono λe w'=>?_;rintro⟨v,r,σ',bl',rfl,hp,hc,hH',hv,hst,hnew,hsb⟩;have hb':∀i,(λi=>bl' (τ i)) (ρ i)=bl' i:=λi=>by simp only[h1]
 have hmut':∀b,bK (λi=>bl' (τ i)) MF (ak (iO ρ σ')) b->bK bl' MF (ak σ') b:=λb hm=>D0 h1 h2 hb' b hm;refine⟨v,m8 ρ r,iO ρ σ',λi=>bl' (τ i),rfl,⟨r,σ',hp,rfl,rfl⟩,hc.ren h1 h2,D1 h1 h2 hH' hb' hmut',D3 hv hb' hmut',?_,λid o b hi hq=>?_,λid hid=>?_⟩
 .exact⟨hst.size,λb hlt hn=>hst.keep b hlt λhh=>hn (hblk b hh),hst.shape,hst.os,hst.out⟩
 .rw[kS h1 h2]at hi;simp only[dV]at hi;obtain⟨o0,h5,_⟩:=hi;exact(hnew _ o0 b h5 hq).imp_right (hblk b)
 .show bl' (τ id)=bl id;rw[hsb _ hid];exact hb id
def iU(a b i:Nat):Nat:=if i=a then b else if i=b then a else i
def ly(a b i:Nat):iU a b (iU a b i)=i:=by
 unfold iU;by_cases h1:i=a<;>by_cases h2:i=b<;>simp[h1,h2]<;>(try split)<;>simp_all
def aX.fresh{f:FuncId}{args:List AV}{Sb:Nat->Prop}{id st off len:Nat}{o:ao}(h:aX P f args [] Sb (λr σ'=>r = .ms id st off len/\σ'=[(id,o)]))(ho:o.isRec=false)(hargs:∀x∈args,aO x=[])(j:Nat) :
  aX P f args [] (λ_=>False) (λr σ'=>r = .ms j st off len/\σ'=[(j,o)]):=by
 have hren:∀x:AV,aO x=[]->m8 (iU id j) x=x:=by
  have hP:∀x:AV,mT x=[]->rE (iU id j) x=x:=λx hx=>by cases x<;>first|rfl|(simp[mT]at hx)
  have hL:∀{f:AV->List Nat}{r:AV->AV},(∀x,f x=[]->r x=x)->∀l:List AV,l.flatMap f=[]->l.map r=l:=λ{f r} hh l=>by
   induction l with
   | nil=>exact λ_=>rfl
   | cons y l ih =>
    intro hl;simp only[wG,List.append_eq_nil_iff]at hl;simp only[eR,hh y hl.1,ih hl.2]
  have hC:∀x:AV,kv x=[]->qx (iU id j) x=x:=λx hx=>by
   cases x with
   | fn f caps=>simp only[qx,hL hP caps hx]
   | _=>first|rfl|(simp[kv,mT]at hx)
  have hG:∀x:AV,oZ x=[]->wz (iU id j) x=x:=λx hx=>by
   cases x with
   | agg cells=>simp only[wz,hL hC cells hx]
   | fn f caps=>exact hC (.fn f caps) hx
   | _=>first|rfl|(simp[oZ,kv,mT]at hx)
  intro x hx;cases x with
  | tup vs=>simp only[m8,hL hG vs hx]
  | agg cells=>exact hG (.agg cells) hx
  | fn f caps=>exact hG (.fn f caps) hx
  | _=>first|rfl|(simp[aO,oZ,kv,mT]at hx)
 have hmap:∀l:List AV,(∀x∈l,aO x=[])->l.map (m8 (iU id j))=l:=λl=>by
  induction l with
  | nil=>exact λ_=>rfl
  | cons y l ih=>intro hl;simp only[eR,hren y (hl y (by simp)),ih λx hx=>hl x (by simp[hx])]
 refine(h.ren (args2:=args) (σ2:=[]) (iU id j) (iU id j) (ly _ _) (ly _ _) (hmap args hargs) rfl).mono (λ_ hf=>hf.elim) ?_;rintro r σ' ⟨r0,σ0,⟨rfl,rfl⟩,rfl,rfl⟩;have hs:iU id j id=j:=by simp[iU]
 refine⟨by simp only[m8,wz,qx,rE,hs],?_⟩;simp only[iO,hs,iP,ho];rfl
def GA(i:Nat)(x:AV):tu [i] x=i7 i x:=by simp[tu,i7]
def Gz(i:Nat)(o:ao):iB [i] o=eJ i o:=by
 unfold iB eJ Bj BU;simp
def y4{f:FuncId}{args:List AV}{d:Option Nat}{s:St}{K:St->Prop}{Sb:Nat->Prop}{id st off len:Nat}{o:ao}(h:aX P f args [] Sb (λr σ'=>r = .ms id st off len/\σ'=[(id,o)]))(ho:o.isRec=false)(hargs:∀x∈args,aO x=[])
  (j:Nat) (hj:j<1000\/2000<=j) (hfree:ak s.heap j=none) (hk:K ((St.mk (og j s.env) ((j,o)::oh j s.heap)).put d (.ms j st off len))):cR P f args d s K:=by
 refine .inl (.inr ⟨[],λ_=>False,λr σ'=>r = .ms j st off len/\σ'=[(j,o)],[j],h.fresh ho hargs j,λ_ _ hh=>by simp[ak]at hh,?_,?_⟩)
 .rintro r σ' ⟨rfl,rfl⟩ i hi;simp only[ak]at hi;split at hi
  .rename_i hji;subst hji;exact .inr ⟨by simp,hj,.inr hfree⟩
  .cases hi
 .rintro r σ' ⟨rfl,rfl⟩;refine⟨⟨og j s.env,(j,o)::oh j s.heap⟩,λk=>?_,λi=>?_,hk⟩
  .simp only[iZ,GA]
  .simp only[JW,ak];split
   .rfl
   .simp only[fj,Option.isSome_none,gd,cD];congr 1;funext o';exact(Gz j o').symm
end
def leE(e:List (Nat×AV)):List (Nat×AV)->Prop
 | []=>True
 | (k,x)::r=>get e k=x/\leE e r
def QF(e:List (Nat×ao)):List (Nat×ao)->Prop
 | []=>True
 | (k,x)::r=>ak e k=some x/\QF e r
def NT{e:List (Nat×AV)}:∀{l:List (Nat×AV)},leE e l->∀p∈l,get e p.1=p.2
 | [],_,p,hp=>by cases hp
 | (k,x)::r,h,p,hp=>by
  rcases eA.1 hp with rfl|hp
  .exact h.1
  .exact NT h.2 p hp
def zb{e:List (Nat×ao)}:∀{l:List (Nat×ao)},QF e l->∀p∈l,ak e p.1=some p.2
 | [],_,p,hp=>by cases hp
 | (k,x)::r,h,p,hp=>by
  rcases eA.1 hp with rfl|hp
  .exact h.1
  .exact zb h.2 p hp
def Wk.of{s s':St}(h1:leE s.env s'.env)(h2:QF s.heap s'.heap):Wk s s':=Wk.le (NT h1) (zb h2)
def Wk.frzs:∀(fs:List Nat)(s:St),Wk s (Mw.frzs fs s)
 | [],s=>Wk.refl s
 | i::r,s=>(Wk.frz s i).trans (Wk.frzs r (s.frz i))
def St.mknil(s:St)(k i st:Nat)(t:TypeId):St:=⟨(k,.ms i st 0 0)::del (s.kill i).env k,(i,⟨t,st,[],false⟩)::(s.kill i).heap⟩
def Wk.nil(s:St)(k i st:Nat)(t:TypeId)(hk:get s.env k = .nl)(hid:i<1000\/2000<=i):Wk s (s.mknil k i st t):=by
 intro c a w hs;obtain⟨bl,hs⟩:=hs.kill i;obtain⟨h1,h2⟩:=fK s i;have hn:=hs.new0 (i:=i) (o:=⟨t,st,[],false⟩) h1 h2 hid rfl rfl;have hk':get (s.kill i).env k = .nl:=by simp[St.kill,iZ,hk,i7,mV,mG,mC,mP]
 refine⟨_,hn.defers,hn.size,λj=>?_,?_,hn.step,?_,hn.stab,hn.mf⟩
 all_goals
  have hheap:ak (s.mknil k i st t).heap=ez (ak (s.kill i).heap) i (some ⟨t,st,[],false⟩):=by
   funext j;simp only[St.mknil,ak,ez];by_cases h:i=j
   .rw[aF h,aF h.symm]
   .rw[au h,au (Ne.symm h)]
 .rw[hheap];have hj:=hn.env j;simp only[St.mknil,get];by_cases h:k=j
  .subst h;rw[aF rfl];rw[hk']at hj;have hv:tv a k = .slice none 0 0:=by
    simp only[bu,ff,cG,eu]at hj;generalize tv a k=v at hj;cases hj;rfl
   exact .inl ⟨hv,rfl,rfl⟩
  .rw[au h,r8,au (Ne.symm h)];exact hj
 .rw[hheap];exact hn.heap
 .rw[hheap];exact hn.own
def Lv(r:AV)(σ:List (Nat×ao)):Bool:=(aO r).all (λi=>(ak σ i).isSome)&&σ.all λp=>(dz p.2).all λi=>(ak σ i).isSome
def oW{r:AV}{σ:List (Nat×ao)}(h:Lv r σ=true):tU r σ:=by
 simp only[Lv,cE,fz]at h;exact⟨λi hi=>h.1 i hi,λp hp i hi=>h.2 p hp i hi⟩
def done{l:List lS}{Post:AV->List (Nat×ao)->Prop}{s:St}(fs:List Nat)(r:AV)(σ':List (Nat×ao))(h1:q_ l (frzs fs s)=some r)(h2:QF (frzs fs s).heap σ')(h3:Lv r σ'=true)(h4:Post r σ'):mD l Post .ret s :=
 ⟨(λ_ h=>by cases h),s,Wk.refl s,fs,r,σ',h1,(λi o hi=>zb h2 _ (fW hi)),oW h3,h4⟩
def fI{l:List lS}{Post:AV->List (Nat×ao)->Prop}{s:St}(fs:List Nat)(r:AV)(σ':List (Nat×ao))(h1:q_ l (frzs fs s)=some r)(h2:QF (frzs fs s).heap σ')(h3:Lv r σ'=true)(h4:Post r σ'):mD l Post .nrm s :=
 ⟨(λ_ h=>by cases h),s,Wk.refl s,fs,r,σ',h1,(λi o hi=>zb h2 _ (fW hi)),oW h3,h4⟩
def eT{l:List lS}{Post:AV->List (Nat×ao)->Prop}{s:St}(fs:List Nat)(r:AV)(σ':List (Nat×ao))(h4:Post r σ')(h1:q_ l (frzs fs s)=some r:=by simp only[go_sem])(h2:QF (frzs fs s).heap σ':=by simp only[go_sem])(h3:Lv r σ'=true:=by exact rfl):mD l Post .ret s:=done fs r σ' h1 h2 h3 h4
def da{l:List lS}{Post:AV->List (Nat×ao)->Prop}{s:St}(fs:List Nat)(r:AV)(σ':List (Nat×ao))(h4:Post r σ')(h1:q_ l (frzs fs s)=some r:=by simp only[go_sem])(h2:QF (frzs fs s).heap σ':=by simp only[go_sem])(h3:Lv r σ'=true:=by exact rfl):mD l Post .nrm s:=fI fs r σ' h1 h2 h3 h4
def ri(n:Int):List AV:=[.int .i64 n]
def ru(n:Int):List AV:=[.int .u8 n]
def rb(b:UInt8):List AV:=[.int .u8 b.toNat]
def rs(s:List UInt8):List AV:=[.str s]
def rt(b:Bool):List AV:=[.bool b]
def aiJ(n:Int):ri n=[.int .i64 n]:=rfl
def aiO(n:Int):ru n=[.int .u8 n]:=rfl
def aiF(b:UInt8):rb b=[.int .u8 b.toNat]:=rfl
def aiM(s:List UInt8):rs s=[.str s]:=rfl
def aiN(b:Bool):rt b=[.bool b]:=rfl
section
variable{α:Type}
def OB(id n st row:Nat)(t:TypeId)(f:α->List AV)(l:List α)(v:α)(hn:∀x,(f x).length=n)(hi:(f v).all qn=true) :
  I6 id n st row 0 (some ⟨t,st,l.map f,false⟩) (some (f v))=if row<l.length then some (.put id ⟨t,st,(l.set row v).map f,false⟩)else none:=by
 rw[Y3 _ _ _ _ _ _ _ (by simpa using λx _=>hn x)];simp only[hn,hi,cU,true_and,List.map_set]
def adv(id st row:Nat)(t:TypeId)(l:List Int)(v:Int):I6 id 1 st row 0 (some ⟨t,st,l.map ri,false⟩) (some [.int .i64 v])=if row<l.length then some (.put id ⟨t,st,(l.set row v).map ri,false⟩)else none:=OB id 1 st row t ri l v (λ_=>rfl) rfl
def zH[Inhabited α](id n st row off:Nat)(t:TypeId)(f:α->List AV)(l:List α)(cs:List AV)(g:α->α)(hl:cs.length=n)(hi:cs.all qn=true)(hn:∀x,off+n<=(f x).length)(hg:∀x,iQ (f x) off cs=f (g x)) :
  I6 id n st row off (some ⟨t,st,l.map f,false⟩) (some cs)=if row<l.length then some (.put id ⟨t,st,(l.set row (g (ah l row))).map f,false⟩)else none:=by
 simp only[I6,hl,hi,kA,and_self,br];by_cases h3:row<l.length
 .rw[ky,m_ h3];simp only[kZ,hn,br,h3,hg,List.map_set,bD h3]
 .rw[Na (by simpa using h3),au h3]
def bX(id:Nat)(t:TypeId)(st len:Nat)(f:α->List AV)(l:List α)(ys:List (List AV))(hl:l.length=len):tC id t st 0 len ys (some ⟨t,st,l.map f,false⟩) =
  if ys.length<137438953472/\len<137438953472/\(id<1000\/2000<=id)then some (.ms id st 0 (len+ys.length),.reb id ⟨t,st,l.map f++ys,false⟩)else none:=OZ id t st len _ ys (by simpa using hl)
def FC(id:Nat)(t:TypeId)(st len:Nat)(f:α->List AV)(l:List α)(ys:List (List AV))(hl:len<=l.length):tC id t st 0 len ys (some ⟨t,st,l.map f,false⟩) =
  if ys.length<137438953472/\len<137438953472/\(id<1000\/2000<=id)then some (.ms id st 0 (len+ys.length),.reb id ⟨t,st,(l.take len).map f++ys,false⟩)else none:=by
 simp only[tC,true_and,cU,hl,List.map_take,CI,and_true];by_cases h1:ys.length<137438953472<;>simp[h1]
def KM(st len:Nat)(t:TypeId)(f:α->List AV)(l:List α)(hl:l.length=len):Mx st 0 len (some ⟨t,st,l.map f,false⟩)=some (l.map f):=GF st len t _ (by simpa using hl)
def UM(st:Nat)(t:TypeId)(r:List AV):Mx st 0 1 (some ⟨t,st,[r],false⟩)=some [r]:=GF st 1 t _ rfl
end
def wi{n:Int}(h0:-9223372036854775808<=n)(h1:n<9223372036854775808):IntKind.i64.wrap n=n:=by
 unfold IntKind.wrap;show(if(true&&decide (n%18446744073709551616>=9223372036854775808))=true then n%18446744073709551616-18446744073709551616 else n%18446744073709551616)=n;by_cases h:n%18446744073709551616>=9223372036854775808
 .rw[aL h];simp only[bW,br];omega
 .rw[aM h];simp only[Bool.and_false,gd,cD];omega
attribute[go_sem] leE QF Lv aiJ aiO aiF aiM aiN adv UM mz
def Wk.nls(s:St)(k st:Nat)(hk:get s.env k = .nl):Wk s ⟨(k,.sl st [])::s.env,s.heap⟩:=by
 rintro c a w ⟨bl,hs⟩;refine⟨bl,hs.defers,hs.size,λj=>?_,hs.heap,hs.step,hs.own,hs.stab,hs.mf⟩;simp only[get];split
 .rename_i h;subst h;have:=hs.env k;rw[hk]at this;rw[this.nl];exact IRel.nls st
 .exact hs.env j
def IRel.nl_sl{M:Nat->Prop}{w:World}{v:Value}(h:IRel M w v .nl)(st:Nat):IRel M w v (.sl st []):=by
 cases h;exact .nls st
def ZK:List AV->List AV->Prop
 | [],[]=>True
 | x::l,y::m=>(x=y\/(x = .nl/\∃st,y = .sl st []))/\ZK l m
 | _,_=>False
def H9:∀{l m:List AV},ZK l m->m.length=l.length
 | [],[],_=>rfl
 | _::_,_::_,h=>by simp[H9 h.2]
 | [],_::_,h=>h.elim
 | _::_,[],h=>h.elim
def H8:∀{l m:List AV},ZK l m->∀{j:Nat}{y:AV},m[j]?=some y->∃x,l[j]?=some x/\(x=y\/(x = .nl/\∃st,y = .sl st []))
 | [],[],_,j,y,hy=>by simp at hy
 | x::l,z::m,h,0,y,hy=>by simp at hy;subst hy;exact⟨x,rfl,h.1⟩
 | x::l,z::m,h,j+1,y,hy=>by simpa using H8 h.2 (j:=j) (by simpa using hy)
 | [],_::_,h,_,_,_=>h.elim
 | _::_,[],h,_,_,_=>h.elim
def Wk.nlh(s:St)(i:Nat){t:TypeId}{st:Nat}{r r':List AV}(hi:ak s.heap i=some ⟨t,st,[r],true⟩)(hr:ZK r r'):Wk s ⟨s.env,(i,⟨t,st,[r'],true⟩)::s.heap⟩:=by
 rintro c a w ⟨bl,hs⟩;have hm:∀b,bK bl c.MF (ak ((i,⟨t,st,[r'],true⟩)::s.heap)) b↔bK bl c.MF (ak s.heap) b:=bK.congr λj=>by
  simp only[ak];split
  .rename_i h;subst h;rw[hi];rfl
  .rfl
 have ht:=Tr.of_iff (w:=w) λb=>(hm b)
 refine⟨bl,hs.defers,hs.size,λj=>(hs.env j).tr ht (λ_ _=>rfl),⟨λj o hj=>?_,λj j' o o' b h1 h2=>?_⟩,hs.step,λj o b h1=>?_,hs.stab,hs.mf⟩
 .simp only[ak]at hj;split at hj
  .rename_i hij;subst hij;cases hj;rcases hs.heap.1 i _ hi with hn|⟨b,g1,⟨gk,c1,fr,g2,g3,g4,g5,g6,g7⟩|hsp⟩
   .cases hn.2.1
   rotate_left
   .cases hsp.isRec
   .refine .inr ⟨b,g1,.inl ⟨gk,c1,fr,g2,g3,g4,λk q hq=>?_,by simpa using g6,λk q u x hu hx=>?_⟩⟩
    .cases k with
     | zero=>simp at hq;subst hq;rw[H9 hr];exact g5 0 r rfl
     | succ k=>simp at hq
    .cases k with
     | succ k=>simp at hu
     | zero =>
      simp at hu;subst hu;obtain⟨x0,h1,h2⟩:=H8 hr hx;obtain⟨v,hv1,hv2⟩:=g7 0 q r x0 rfl h1;refine⟨v,hv1,?_⟩;have hv3:cG bl (bK bl c.MF (ak s.heap)) w v x0:=hv2;rcases h2 with h2|⟨h2,st',h3⟩
      .subst h2;exact hv3.tr ht (λ_ _=>rfl)
      .subst h2 h3;have:IRel (bK bl c.MF (ak s.heap)) w v .nl:=hv3;exact(IRel.toC (bl:=bl) (IRel.nl_sl this st')).tr ht (λ_ _=>rfl)
  .rcases hs.heap.1 j o hj with hn|⟨b,g1,⟨gk,c1,fr,g2,g3,g4,g5,g6,g7⟩|hsp⟩
   .exact .inl hn
   rotate_left
   .exact .inr ⟨b,g1,.inr hsp⟩
   .refine .inr ⟨b,g1,.inl ⟨gk,c1,fr,g2,g3,g4,g5,g6,λk q u x hu hx=>?_⟩⟩;obtain⟨v,hv1,hv2⟩:=g7 k q u x hu hx;refine⟨v,hv1,?_⟩;cases hrec:o.isRec<;>simp only[hrec,Br]at hv2⊢
    .exact hv2.tr ht.keep
    .exact hv2.tr ht (λ_ _=>rfl)
 .have key:∀{j:Nat}{o:ao},ak ((i,⟨t,st,[r'],true⟩)::s.heap) j=some o->∃o',ak s.heap j=some o':=λ{j o} hj=>by
   simp only[ak]at hj;split at hj
   .rename_i hij;subst hij;exact⟨_,hi⟩
   .exact⟨_,hj⟩
  obtain⟨p1,q1⟩:=key h1;obtain⟨p2,q2⟩:=key h2;exact hs.heap.2 j j' p1 p2 b q1 q2
 .simp only[ak]at h1;split at h1
  .rename_i hij;subst hij;exact hs.own i _ b hi
  .exact hs.own j o b h1
def bS{l:List lS}{Post:AV->List (Nat×ao)->Prop}{s s1:St}(hw:Wk s s1)(fs:List Nat)(r:AV)(σ':List (Nat×ao))(h1:q_ l (frzs fs s1)=some r)(h2:QF (frzs fs s1).heap σ')(h3:Lv r σ'=true)(h4:Post r σ'):mD l Post .ret s :=
 ⟨(λ_ h=>by cases h),s1,hw,fs,r,σ',h1,(λi o hi=>zb h2 _ (fW hi)),oW h3,h4⟩
def dd{l:List lS}{r:AV}{s s1:St}(hw:Wk s s1)(fs:List Nat)(h:q_ l (frzs fs s1)=some r)(h2:aO r=[]):AS l r .ret s:=⟨(λ_ h=>by cases h),s1,hw,fs,h,h2⟩
inductive Ty where
 | bool
 | int (k:IntKind)
 | str
 | sl (e:Ty)
 | nil
 | cons (f:Ty) (r:Ty)
 deriving Inhabited
def Ty.n:Ty->Nat
 | .nil=>0
 | .cons f r=>f.n+r.n
 | _=>1
def Ty.ok:Ty->List AV->Prop
 | .bool,xs=>∃b,xs=[.bool b]
 | .int k,xs=>∃n,xs=[.int k n]/\(Lit.int k n).wf=true
 | .str,xs=>∃s,xs=[.str s]/\s.length<=maxLen
 | .sl e,xs=>xs=[.nl]\/∃rows,xs=[.sl e.n rows]/\rows.length<=maxLen/\∀r∈rows,e.ok r
 | .nil,xs=>xs=[]
 | .cons f r,xs=>∃ys zs,xs=ys++zs/\f.ok ys/\r.ok zs
def Ty.ok_len:∀(τ:Ty)(xs:List AV),τ.ok xs->xs.length=τ.n
 | .bool,xs,h=>by obtain⟨b,rfl⟩:=h;rfl
 | .int k,xs,h=>by obtain⟨n,rfl,_⟩:=h;rfl
 | .str,xs,h=>by obtain⟨s,rfl,_⟩:=h;rfl
 | .sl e,xs,h=>by rcases h with rfl|⟨rows,rfl,_⟩<;>rfl
 | .nil,xs,h=>by subst h;rfl
 | .cons f r,xs,h=>by
  obtain⟨ys,zs,rfl,h1,h2⟩:=h;simp only[aJ,Ty.n,Ty.ok_len f ys h1,Ty.ok_len r zs h2]
def Ej(g:TypeId->Option Ty)(P:Program)(off:Nat):List Field->Option Ty
 | []=>some .nil
 | f::r=>if f.offset=off then(match g f.type,Ej g P (off+P.cellsOf f.type) r with
  | some a,some b=>if a.n=P.cellsOf f.type then some (.cons a b)else none
  | _,_=>none)else none
def wC(P:Program):Nat->TypeId->Option Ty
 | 0,_=>none
 | f+1,t=>match P.underlying t with
  | some .bool=>some .bool
  | some (.int k)=>some (.int k)
  | some .string=>some .str
  | some (.slice e)=>match wC P f e with
   | some a=>if a.n=P.cellsOf e/\0<a.n then some (.sl a)else none
   | none=>none
  | some (.struct fs)=>match Ej (wC P f) P 0 fs.toList with
   | some a=>if a.n=P.cellsOf t then some a else none
   | none=>none
  | _=>none
def JU{α β:Type}{g:α->Option β}:∀{l:List α}{r:List β},l.mapM g=some r->r.length=l.length/\∀(i:Nat)(x:α),l[i]?=some x->∃y,r[i]?=some y/\g x=some y
 | [],r,h=>by
  simp only[List.mapM_nil,pure,de]at h;subst h;exact⟨rfl,λi x hx=>by simp at hx⟩
 | a::l,r,h=>by
  simp only[List.mapM_cons,bind,vC,pure,de]at h;obtain⟨y,h1,ys,h2,rfl⟩:=h;obtain⟨h3,h4⟩:=JU h2;refine⟨by simp[h3],λi x hx=>?_⟩;cases i with
  | zero =>
   simp only[List.getElem?_cons_zero,de]at hx;subst hx;exact⟨y,rfl,h1⟩
  | succ i=>exact h4 i x (by simpa using hx)
def xO{β:Type}{g:Nat->Option β}{n:Nat}{r:List β}(h:(List.range n).mapM g=some r):r.length=n/\∀i,i<n->∃y,r[i]?=some y/\g i=some y:=by
 obtain⟨h1,h2⟩:=JU h;exact⟨by simpa using h1,λi hi=>h2 i i (by simp[hi])⟩
def FK{w:World}{base:Nat}{a:Addr}{n:Nat}{cs:List Value}(h:w.cells? base a n=some cs):cs.length=n/\∀j,j<n->∃y,cs[j]?=some y/\w.cell? (a.add j)=some y:=by
 unfold World.cells? at h;split at h
 .exact xO h
 .cases h
def CA{w:World}{a:Addr}{v:Value}(h:w.cell? a=some v):a.spot=none/\∃c t fr,w.heap[a.block]?=some (.cells c t fr)/\c[a.off]?=some v:=by
 unfold World.cell? at h;split at h
 case h_2=>cases h
 rename_i c t fr hb;split at h
 .cases h
 .rename_i hs;exact⟨by simpa using hs,c,t,fr,hb,h⟩
section
variable{H:Type}{enc:TypeId×Value->H}{P:Program}{w:World}{base:Nat}{sp:Nat->Bool}{held:Bool}
def FX{g:TypeId->Option Ty}{r:TypeId->List Value->Option (DataW H×List MemPlace)}(ih:∀t cs τ x,g t=some τ->r t cs=some x->∃xs,τ.ok xs/\bg (IRel (λ_=>False) w) cs xs)(cs:List Value) :
  ∀(fs:List Field)(off:Nat)(τ:Ty)(xs:List (DataW H×List MemPlace)),Ej g P off fs=some τ->(fs.mapM λf=>r f.type ((cs.drop f.offset).take (P.cellsOf f.type)))=some xs->off+τ.n=cs.length ->
   ∃ys,τ.ok ys/\bg (IRel (λ_=>False) w) (cs.drop off) ys
 | [],off,τ,xs,ht,_,hn=>by
  simp only[Ej,de]at ht;subst ht;refine⟨[],rfl,?_⟩;rw[M9 (by simp[Ty.n]at hn;omega)];trivial
 | f::fs,off,τ,xs,ht,hm,hn=>by
  simp only[Ej]at ht;split at ht
  case isFalse=>cases ht
  rename_i hoff;split at ht
  case h_2=>cases ht
  rename_i a b ha hb;split at ht
  case isFalse=>cases ht
  rename_i hsz;cases ht;simp only[List.mapM_cons,bind,vC,pure,de]at hm;obtain⟨y,h1,zs,h2,rfl⟩:=hm;obtain⟨xs1,h3,h4⟩:=ih _ _ _ _ ha h1;simp only[Ty.n]at hn;obtain⟨xs2,h5,h6⟩:=FX ih cs fs (off+P.cellsOf f.type) b zs hb h2 (by omega);refine⟨xs1++xs2,⟨xs1,xs2,rfl,h3,h5⟩,?_⟩;rw[hoff]at h4;have:cs.drop off=(cs.drop off).take (P.cellsOf f.type)++cs.drop (off+P.cellsOf f.type):=by
   rw[<-Ev,IS]
  rw[this];exact h4.append h6
def Y9:∀(fuel f:Nat)(t:TypeId)(cs:List Value)(τ:Ty)(x:DataW H×List MemPlace),wC P f t=some τ->DataW.trod enc P w base sp held fuel t cs=some x->∃xs,τ.ok xs/\bg (IRel (λ_=>False) w) cs xs:=by
 intro fuel
 induction fuel with
 | zero=>intro f t cs τ x _ h;simp[DataW.trod]at h
 | succ fuel ih =>
  intro f t cs τ x ht h;cases f with
  | zero=>simp[wC]at ht
  | succ f =>
   simp only[wC]at ht;split at ht
   case h_1 hu =>
    cases ht;unfold DataW.trod at h;split at h<;>rename_i heq<;>first|(rw[hu]at heq;cases heq;done)|(cases h;done)|skip
    rename_i b;exact⟨[.bool b],⟨b,rfl⟩,.bool b,trivial⟩
   case h_2 k hu =>
    cases ht;unfold DataW.trod at h;split at h<;>rename_i heq<;>first|(rw[hu]at heq;cases heq;done)|(cases h;done)|skip
    rename_i k' k1 n;rw[hu]at heq;cases heq;split at h
    .rename_i hk;obtain⟨rfl,hwf⟩:=hk;exact⟨[.int _ n],⟨n,rfl,hwf⟩,.int _ n,trivial⟩
    .cases h
   case h_3 hu =>
    cases ht;unfold DataW.trod at h;split at h<;>rename_i heq<;>first|(rw[hu]at heq;cases heq;done)|(cases h;done)|skip
    rename_i s;split at h
    .rename_i hs;refine⟨[.str s.data.toList],⟨_,rfl,by simpa using hs⟩,?_,trivial⟩;have:=IRel.str (M:=λ_=>False) (w:=w) s.data.toList;simpa using this
    .cases h
   case h_4 e hu =>
    split at ht
    case h_2=>cases ht
    rename_i a ha;split at ht
    case isFalse=>cases ht
    rename_i hsz;cases ht;unfold DataW.trod at h;split at h<;>rename_i heq<;>first|(rw[hu]at heq;cases heq;done)|(cases h;done)|skip
    .exact⟨[.nl],.inl rfl,.nl,trivial⟩
    .rename_i e1 ad len cap;rw[hu]at heq;cases heq;simp only at h;split at h
     case isFalse=>cases h
     rename_i hcap;simp only[vC]at h;obtain⟨elems,hel,_⟩:=h;obtain⟨hlen,ak⟩:=xO hel;have hrow:∀i,i<len->∃row xs,w.cells? base (ad.add (i*P.cellsOf e)) (P.cellsOf e)=some row/\a.ok xs/\bg (IRel (λ_=>False) w) row xs:=λi hi=>by
      obtain⟨y,_,h2⟩:=ak i hi;simp only[vC]at h2;obtain⟨row,h3,h4⟩:=h2;obtain⟨xs,h5,h6⟩:=ih f e row a y ha h4;exact⟨row,xs,h3,h5,h6⟩
     by_cases h0:len=0
     .subst h0;exact⟨[.sl a.n []],.inr ⟨[],rfl,cQ _,λr hr=>by cases hr⟩,.sl0 _ _ _,trivial⟩
     have hn:0<P.cellsOf e:=by omega
     have hcell:∀i j,i<len->j<P.cellsOf e->∀row,w.cells? base (ad.add (i*P.cellsOf e)) (P.cellsOf e)=some row->∃y,row[j]?=some y/\w.cell? ((ad.add (i*P.cellsOf e)).add j)=some y:=λi j hi hj row hr=>(FK hr).2 j hj;obtain⟨row0,xs0,r1,_,_⟩:=hrow 0 (by omega);obtain⟨y0,_,c0⟩:=hcell 0 0 (by omega) hn row0 r1;obtain⟨hspot,c,tt,fr,hb,_⟩:=CA c0;have hspot':ad.spot=none:=by simpa[Addr.add]using hspot
     have hblk:∀(q:Addr) m,(q.add m).block=q.block:=λq m=>by unfold Addr.add;split<;>rfl
     have hoff:∀(q:Addr) m,(q.add m).off=q.off+m:=λq m=>by
      unfold Addr.add;split
      .rename_i hm;simp[hm]
      .rfl
     rw[hblk,hblk]at hb;have hval:∀i j,i<len->j<P.cellsOf e->∀row,w.cells? base (ad.add (i*P.cellsOf e)) (P.cellsOf e)=some row->∃y,row[j]?=some y/\c[ad.off+i*P.cellsOf e+j]?=some y:=λi j hi hj row hr=>by
      obtain⟨y,g1,g2⟩:=hcell i j hi hj row hr;obtain⟨_,c',t',fr',g3,g4⟩:=CA g2;rw[hblk,hblk,hb]at g3;cases g3;rw[hoff,hoff]at g4;exact⟨y,g1,g4⟩
     let R:Nat->List Value:=λi=>if hi:i<len then Classical.choose (hrow i hi)else[]
     let X:Nat->List AV:=λi=>if hi:i<len then Classical.choose (Classical.choose_spec (hrow i hi))else[]
     have hRX:∀i,i<len->w.cells? base (ad.add (i*P.cellsOf e)) (P.cellsOf e)=some (R i)/\a.ok (X i)/\bg (IRel (λ_=>False) w) (R i) (X i):=λi hi=>by
      have:=Classical.choose_spec (Classical.choose_spec (hrow i hi));simp only[R,X,hi,dif_pos];exact this
     have hrows:∀(i:Nat)(r:List AV),((List.range len).map X)[i]?=some r->i<len/\r=X i:=λi r hr=>by
      simp only[ky,dV]at hr;obtain⟨j,h1,h2⟩:=hr;have h3:=jp.1 h1;obtain⟨h4,h5⟩:=h3;simp at h4 h5;subst h5;exact⟨h4,h2.symm⟩
     refine⟨[.sl a.n ((List.range len).map X)],.inr ⟨_,rfl,by simp;omega,λr hr=>?_⟩,?_,trivial⟩
     .obtain⟨i,hi,rfl⟩:=iD.1 hr;exact(hRX i (by simpa using hi)).2.1
     .obtain⟨bk,of,so⟩:=ad;simp only at hspot';subst hspot';have hll:((List.range len).map X).length=len:=by simp
      have key:=IRel.sl (M:=λ_=>False) (w:=w) bk of cap a.n c tt fr ((List.range len).map X) (λi j=>(R i).getD j undef) hb (λh=>h) (by rw[hll];omega)
       (λi r hr=>by obtain⟨h1,rfl⟩:=hrows i r hr;exact Ty.ok_len _ _ (hRX i h1).2.1)
       (λi j hi hj=>by
        rw[hll]at hi;rw[hsz.1]at hj⊢;obtain⟨y,g1,g2⟩:=hval i j hi hj _ (hRX i hi).1;rw[g2,List.getD_eq_getElem?_getD,g1];rfl)
       (λi j r x hr hx=>by
        obtain⟨h1,rfl⟩:=hrows i r hr;obtain⟨y,g1,g2⟩:=(hRX i h1).2.2.get hx;rw[List.getD_eq_getElem?_getD,g1];exact g2)
      rw[hll]at key;exact key
   case h_5 fs hu =>
    split at ht
    case h_2=>cases ht
    rename_i a ha;split at ht
    case isFalse=>cases ht
    rename_i hsz;cases ht;unfold DataW.trod at h;split at h<;>rename_i heq<;>first|(rw[hu]at heq;cases heq;done)|(cases h;done)|skip
    .rename_i cs1 fs1;rw[hu]at heq;cases heq;split at h
     case isFalse=>cases h
     rename_i hcl;simp only[dV]at h;obtain⟨xs,h1,_⟩:=h;have:=FX (P:=P) (g:=wC P f) (r:=λt cs=>DataW.trod enc P w base sp held fuel t cs) (λt cs τ x=>ih f t cs τ x) _ _ 0 _ xs ha h1 (by omega);simpa using this
   case h_6=>cases ht
end
open Go.ChangeShapes Go.WideShapes Go.ChangeAt Go.RowKit
section
variable{H:Type}{enc:TypeId×Value->H}{P:Program}[bO P]
structure I9(w w':World):Prop where
 size:w.heap.size<=w'.heap.size
 old:∀b,b<w.heap.size->w'.heap[b]? = w.heap[b]?
 os:w'.os=w.os
 out:w'.output=w.output
def IRel.toV{bl:Nat->Option Nat}{M:Nat->Prop}{w:World}{v:Value}{x:AV}(h:IRel M w v x):bu bl M w v x:=h.toC.toG.toV
def I9.frame{w w':World}(h:I9 w w')(may:MemPlace->Prop):w.keptBut w' may:=by
 refine⟨h.os,h.out,λi hi=>?_⟩;rw[h.old i hi];cases ho:w.heap[i]? with
 | none=>rfl
 | some o =>
  cases o with
  | cells c t fr=>exact⟨rfl,rfl,rfl,λ_ _=>rfl⟩
  | map es clock=>exact .inr ⟨rfl,rfl⟩
  | _=>rfl
def I9.frozen{w w':World}(h:I9 w w'){a:Addr}(ha:a.block<w.heap.size):w'.frozen? a=w.frozen? a:=World.frozen?_of_block (w:=w) (h.old a.block ha)
def I9.same{w w':World}(h:I9 w w'){p:MemPlace}(hp:p.block<w.heap.size):w.sameAt w' p:=by
 cases p with
 | cell b off=>exact World.cell?_of_block (w:=w) (h.old b hp)
 | map b=>exact h.old b hp
def xy(hl:laidOutB P=true){W W':World}{sp:Nat->Bool}:∀{ts:List TypeId}{vs:List Value}{ds:List (DataW H)}{ps:List MemPlace},(∀t∈ts,P.readableRec t=true/\t<P.types.size) ->
  DataW.TrodAll enc P W 0 (λ_=>true) true ts vs ds ps->(∀p∈ps,W.sameAt W' p)->(∀p∈ps,sp p.block=true)->DataW.TrodAll enc P W' 0 sp true ts vs ds ps
 | [],[],[],ps,_,h,_,_=>h
 | t::ts,v::vs,d::ds,ps,hr,h,h1,h2=>by
  obtain⟨p,q,h3,h4,rfl⟩:=h
  exact⟨p,q,WideElems.Trod_stays hl (hr t (by simp)).1 (hr t (by simp)).2 h3 (λx hx=>h1 x (by simp[hx])) (λx hx=>h2 x (by simp[hx])),
   xy hl (λt ht=>hr t (by simp[ht])) h4 (λx hx=>h1 x (by simp[hx])) (λx hx=>h2 x (by simp[hx])),rfl⟩
 | [],_::_,_,_,_,h,_,_=>h.elim
 | [],[],_::_,_,_,h,_,_=>h.elim
 | _::_,[],_,_,_,h,_,_=>h.elim
 | _::_,_::_,[],_,_,h,_,_=>h.elim
def Tc{f:Func}{s:ChangeSpec}{apart fresh handsOn again:Bool}{W W':World}{args:Array Value}{ds gs:List (DataW H)}{before:List MemPlace}{tb:TypeId}(hl:laidOutB P=true)
  (hr:∀t∈f.params.toList,P.readableRec t=true/\t<P.types.size) (hv:s.vars=[]) (hfn:(s.fn H (ds++gs)).results=[.lit (.bool true)]) (hfa:(s.fn H (ds++gs)).args=ds) (hfv:(s.fn H (ds++gs)).vars=[])
  (hrt:f.resultTypes = #[tb]) (htb:P.underlying tb=some .bool) (hW:DataW.Whole enc P f.params.toList s.vars apart W args.toList ds gs before) (hk:I9 W W') :
  s.post enc P f apart fresh handsOn again W args (.bool true) W':=by
 have hlt:=hW.lt;have hW0:=hW;obtain⟨p,q,hA,hV,rfl,hz,hn⟩:=hW0;rw[hv]at hV;obtain⟨rfl,rfl⟩:=trodVars_none hV;rw[gh]at *;have hsame:∀x∈p,W.sameAt W' x:=λx hx=>hk.same (by simpa using hlt x hx);have hargs:∀sp:Nat->Bool,(∀x∈p,sp x.block=true)->DataW.TrodAll enc P W' 0 sp true f.params.toList args.toList ds p:=λsp hsp=>xy hl hr hA hsame hsp;have hres:∀(b:Nat)(sp:Nat->Bool)(hd:Bool),DataW.TrodAll enc P W' b sp hd f.resultTypes.toList ((Value.bool true).resultList f.resultTypes.size) [.lit (.bool true)] []:=λb sp hd=>by
  rw[hrt];exact trodAll_cons_mk (shut_bool htb _) trodAll_mk0
 have hvars:∀sp:Nat->Bool,DataW.TrodVars enc P W' sp s.vars [] []:=λsp=>by rw[hv];rfl
 refine⟨ds,[],p,[],p,[],by simpa using hW,by rw[gh,hfn];exact hres _ _ _,by rw[gh,hfa];exact hargs _ (λx hx=>by simpa using hlt x (by simpa using hx)),by rw[gh,hfv];exact hvars _,hk.frame _,λ_=>?_⟩;refine⟨ok_one hrt rfl (okWide_bool_mk htb _),[.lit (.bool true)]++ds,[],p,⟨[]++p,[],trodAll_append (hargs _ (λ_ _=>rfl)) (hres _ _ _),hvars _,by simp,?_,?_⟩,λx hx _=>hx⟩
 .intro b off hp;have hb:b<W.heap.size:=hlt (.cell b off) (by simpa using hp);have:=hz b off (by simpa using hp);rw[hk.frozen (a:=⟨b,off,none⟩) hb];exact this
 .intro ha;simpa using hn ha
end
def Ty.isRec:Ty->Bool
 | .nil=>true
 | .cons _ _=>true
 | _=>false
def Ty.okV(τ:Ty)(x:AV):Prop:=match τ.isRec with
 | true=>∃xs,x = .agg xs/\τ.ok xs
 | false=>τ.ok [x]
section
variable{H:Type}{enc:TypeId×Value->H}{P:Program}[bO P]{w:World}{base:Nat}{sp:Nat->Bool}{held:Bool}
def MZ{g:TypeId->Option Ty}:∀{fs:List Field}{off:Nat}{τ:Ty},Ej g P off fs=some τ->τ.isRec=true
 | [],off,τ,h=>by simp only[Ej,de]at h;subst h;rfl
 | f::fs,off,τ,h=>by
  simp only[Ej]at h;split at h
  case isFalse=>cases h
  split at h
  case h_2=>cases h
  split at h
  case isFalse=>cases h
  cases h;rfl
def Ky{f:FuncId}{args:List AV}{r:Bool}(hp:ac P f args (.bool r)){w:World}{cargs:List Value}(hT:(bO.T P).H w)(ha:bg (bu (λ_=>none) (λ_=>False) w) cargs args) :
  Calls P f cargs.toArray w λe w'=>e = .returned (.bool r)/\I9 w w':=by
 have hM:bK (λ_=>none) (λ_=>False) (ak [])=λ_=>False:=by
  funext b;apply propext;constructor
  .rintro(h|⟨i,o,h,_⟩)
   .exact h
   .simp[ak]at h
  .exact False.elim
 refine(hp (λ_=>none) (λ_=>False) w cargs hT (λ_ _ hm=>hm.elim id λ⟨_,_,hi,_⟩=>by simp[ak]at hi) ⟨λi o h=>by simp[ak]at h,λi _ o _ _ h=>by simp[ak]at h⟩ (λ_ h=>h.elim) (by rw[hM];exact ha)).mono λe w'=>?_;rintro⟨v,r',σ',bl',rfl,⟨rfl,rfl⟩,_,_,hv,hst,_,_⟩;have hv':=hv.bool;subst hv';exact⟨rfl,hst.size,λb hb=>hst.keep b hb (λ⟨i,o,h,_⟩=>by simp[ak]at h),hst.os,hst.out⟩
end
def fw:List (Nat×Nat)->Nat->Nat
 | [],i=>i
 | (a,b)::r,i=>fw r (iU a b i)
def bw:List (Nat×Nat)->Nat->Nat
 | [],i=>i
 | (a,b)::r,i=>iU a b (bw r i)
def uM:∀(ps:List (Nat×Nat))(i:Nat),bw ps (fw ps i)=i
 | [],_=>rfl
 | (a,b)::r,i=>by simp only[fw,bw,uM r,ly]
def Ge:∀(ps:List (Nat×Nat))(i:Nat),fw ps (bw ps i)=i
 | [],_=>rfl
 | (a,b)::r,i=>by simp only[fw,bw,ly,Ge r]
def dD:List Nat->List (Nat×AV)->List (Nat×AV)
 | [],e=>e
 | k::ks,e=>og k (dD ks e)
def dx:List Nat->List (Nat×ao)->List (Nat×ao)
 | [],e=>e
 | k::ks,e=>oh k (dx ks e)
def P5(e:List (Nat×AV)):dD [] e=e:=rfl
def Mp(k:Nat)(ks:List Nat)(e:List (Nat×AV)):dD (k::ks) e=og k (dD ks e):=rfl
def P6(e:List (Nat×ao)):dx [] e=e:=rfl
def Mq(k:Nat)(ks:List Nat)(e:List (Nat×ao)):dx (k::ks) e=oh k (dx ks e):=rfl
attribute[go_sem] P5 Mp P6 Mq
def SI(a b:Bool)(x:AV)(p:AV->Bool)(hp:p .any=false)(hx:p x=a):(if p (if b=true then .any else x)=true then AV.any else(if b=true then .any else x))=if(a||b)=true then .any else x:=by
 cases b<;>cases a<;>simp_all
def acO(k:Nat)(ks:List Nat)(x:AV):i7 k (tu ks x)=tu (k::ks) x:=by
 have:=SI (mV k x) (ks.any λi=>mV i x) x (mV k) rfl rfl;exact this
def acG(k:Nat)(ks:List Nat)(x:AV):BU k (Bj ks x)=Bj (k::ks) x:=by
 have:=SI (mC k x) (ks.any λi=>mC i x) x (mC k) rfl rfl;exact this
def acL(k:Nat)(ks:List Nat)(o:ao):eJ k (iB ks o)=iB (k::ks) o:=by
 unfold eJ iB;by_cases h:o.isRec=true
 .simp only[h,br,List.map_map];congr 1;funext;apply K_;intro r _;simp only[Function.comp,List.map_map];apply K_;intro x _;exact acG k ks x;rw[aF h]
 .simp[h]
def oy(k:Nat):∀(ks:List Nat)(e:List (Nat×AV)),get (dD ks e) k=tu ks (get e k)
 | [],e=>by simp[dD,tu]
 | i::ks,e=>by rw[dD,iZ,oy k ks,acO]
def kR(k:Nat):∀(ks:List Nat)(e:List (Nat×ao)),ak (dx ks e) k=(ak e k).map (iB ks)
 | [],e=>by
  have:iB []=id:=by
   funext o;unfold iB Bj;simp
  simp[dx,this]
 | i::ks,e=>by
  rw[dx,fj,kR k ks,Option.map_map];congr 1;funext o;exact acL i ks o
def CS(j:Nat):∀(a b:List (Nat×ao)),ak (a++b) j=match ak a j with
  | some o=>some o
  | none=>ak b j
 | [],b=>rfl
 | (k,o)::r,b=>by
  simp only[k7,ak];split
  .rfl
  .exact CS j r b
section
variable{P:Program}[bO P]
def d_{f:FuncId}{args0 args:List AV}{σ0 σ2 σ1 σ3:List (Nat×ao)}{Sb:Nat->Prop}{r1 r3:AV}{d:Option Nat}{s:St}{K:St->Prop}
  (h:aX P f args0 σ0 Sb (λr σ'=>r=r1/\σ'=σ1)) (ps:List (Nat×Nat)) (ks:List Nat)
  (ha:args.map (m8 (bw ps))=args0) (hσ:iO (bw ps) σ2=σ0) (hr:m8 (fw ps) r1=r3) (h3:iO (fw ps) σ1=σ3)
  (hin:∀p∈σ2,ak s.heap p.1=some p.2)
  (hout:∀p∈σ3,(Sb (bw ps p.1)/\(ak σ2 p.1).isSome=true)\/(p.1∈ks/\(p.1<1000\/2000<=p.1)/\((ak σ2 p.1).isSome=true\/ak s.heap p.1=none)))
  (hall:∀p∈σ2,(ak σ3 p.1).isSome=true)
  (hk:K ((St.mk (dD ks s.env) (σ3++dx ks s.heap)).put d r3)):cR P f args d s K:=by
 have h':=h.ren (args2:=args) (σ2:=σ2) (fw ps) (bw ps) (uM ps) (Ge ps) ha hσ;refine .inl (.inr ⟨σ2,_,_,ks,h',λid o hh=>hin (id,o) (fW hh),?_,?_⟩)
 .rintro r σ' ⟨r0,σ4,⟨rfl,rfl⟩,rfl,rfl⟩ id hid;rw[h3]at hid;obtain⟨o,ho⟩:=IM.1 hid;exact hout (id,o) (fW ho)
 .rintro r σ' ⟨r0,σ4,⟨rfl,rfl⟩,rfl,rfl⟩;rw[hr,h3];refine⟨⟨dD ks s.env,σ3++dx ks s.heap⟩,λk=>oy k ks s.env,λj=>?_,hk⟩;simp only[CS,JW];cases hn:ak σ3 j with
  | some o=>rfl
  | none =>
   simp only;by_cases h2:(ak σ2 j).isSome=true
   .obtain⟨o,ho⟩:=IM.1 h2;have:=hall (j,o) (fW ho);simp only at this;rw[hn]at this;cases this
   .rw[au h2,kR]
def Jj{f:FuncId}{args:List AV}{σ0 σ1:List (Nat×ao)}{Sb:Nat->Prop}{r1:AV}{d:Option Nat}{s:St}{K:St->Prop}
  (h:aX P f args σ0 Sb (λr σ'=>r=r1/\σ'=σ1)) (ks:List Nat)
  (hin:∀p∈σ0,ak s.heap p.1=some p.2)
  (hout:∀p∈σ1,(Sb p.1/\(ak σ0 p.1).isSome=true)\/(p.1∈ks/\(p.1<1000\/2000<=p.1)/\((ak σ0 p.1).isSome=true\/ak s.heap p.1=none)))
  (hall:∀p∈σ0,(ak σ1 p.1).isSome=true)
  (hk:K ((St.mk (dD ks s.env) (σ1++dx ks s.heap)).put d r1)):cR P f args d s K:=by
 refine .inl (.inr ⟨σ0,_,_,ks,h,λid o hh=>hin (id,o) (fW hh),?_,?_⟩)
 .rintro r σ' ⟨rfl,rfl⟩ id hid;obtain⟨o,ho⟩:=IM.1 hid;exact hout (id,o) (fW ho)
 .rintro r σ' ⟨rfl,rfl⟩;refine⟨⟨dD ks s.env,σ'++dx ks s.heap⟩,λk=>oy k ks s.env,λj=>?_,hk⟩;simp only[CS,JW];cases hn:ak σ' j with
  | some o=>rfl
  | none =>
   simp only;by_cases h2:(ak σ0 j).isSome=true
   .obtain⟨o,ho⟩:=IM.1 h2;have:=hall (j,o) (fW ho);simp only at this;rw[hn]at this;cases this
   .rw[au h2,kR]
def aaU{f:FuncId}{args:List AV}{k:Nat}{ob ob':ao}{Sb:Nat->Prop}{r:AV}{d:Option Nat}{s:St}{K:St->Prop}
  (h:aX P f args [(k,ob)] Sb (λr' σ'=>r'=r/\σ'=[(k,ob')])) (hs:Sb k) (hk:ak s.heap k=some ob) (hK:K ((St.mk s.env ((k,ob')::s.heap)).put d r)):cR P f args d s K:=by
 refine Jj h [] (λp hp=>?_) (λp hp=>?_) (λp hp=>?_) (by simpa only[dD,dx,k7,fA]using hK)
 .simp only[kq]at hp;subst hp;exact hk
 .simp only[kq]at hp;subst hp;exact .inl ⟨hs,by simp[ak]⟩
 .simp only[kq]at hp;subst hp;simp[ak]
def Qh(ρ:Nat->Nat)(x:AV)(hx:mT x=[]):rE ρ x=x:=by cases x<;>first|rfl|(simp[mT]at hx)
def rF{ρ:Nat->Nat}{f:AV->List Nat}{r:AV->AV}(hh:∀x,f x=[]->r x=x):∀l:List AV,l.flatMap f=[]->l.map r=l
 | [],_=>rfl
 | y::l,hl=>by
  simp only[wG,List.append_eq_nil_iff]at hl;simp only[eR,hh y hl.1,rF (ρ:=ρ) hh l hl.2]
def AD(ρ:Nat->Nat)(x:AV)(hx:kv x=[]):qx ρ x=x:=by
 cases x with
 | fn f caps=>simp only[qx,rF (ρ:=ρ) (Qh ρ) caps hx]
 | _=>first|rfl|(simp[kv,mT]at hx)
def AE(ρ:Nat->Nat)(x:AV)(hx:oZ x=[]):wz ρ x=x:=by
 cases x with
 | agg cells=>simp only[wz,rF (ρ:=ρ) (AD ρ) cells hx]
 | fn f caps=>exact AD ρ (.fn f caps) hx
 | _=>first|rfl|(simp[oZ,kv,mT]at hx)
def rG(ρ:Nat->Nat)(x:AV)(hx:aO x=[]):m8 ρ x=x:=by
 cases x with
 | tup vs=>simp only[m8,rF (ρ:=ρ) (AE ρ) vs hx]
 | agg cells=>exact AE ρ (.agg cells) hx
 | fn f caps=>exact AE ρ (.fn f caps) hx
 | _=>first|rfl|(simp[aO,oZ,kv,mT]at hx)
def f8(ρ:Nat->Nat)(o:ao)(hx:dz o=[]):iP ρ o=o:=by
 unfold iP;split
 .rename_i hr;have:∀rows:List (List AV),rows.flatMap (λr=>r.flatMap kv)=[]->rows.map (λr=>r.map (qx ρ))=rows:=λrows=>by
   induction rows with
   | nil=>exact λ_=>rfl
   | cons r l ih =>
    intro hl;simp only[wG,List.append_eq_nil_iff]at hl;simp only[eR,ih hl.2,rF (ρ:=ρ) (AD ρ) r hl.1]
  simp only[dz,hr,br]at hx;rw[this _ hx]
 .rfl
def kW(ρ:Nat->Nat):∀l:List AV,(∀x∈l,aO x=[])->l.map (m8 ρ)=l
 | [],_=>rfl
 | x::l,h=>by simp only[eR,rG ρ x (h x (by simp)),kW ρ l λy hy=>h y (by simp[hy])]
def qR{f:FuncId}{args:List AV}{d:Option Nat}{s:St}{K:St->Prop}{Sb:Nat->Prop}{id st:Nat}{o:ao}(h:aX P f args [] Sb (λr σ'=>r = .mp id st 0 0/\σ'=[(id,o)]))(ho:dz o=[])(hargs:∀x∈args,aO x=[])
  (j:Nat) (hj:j<1000\/2000<=j) (hfree:ak s.heap j=none) (hk:K ((St.mk (og j s.env) ((j,o)::oh j s.heap)).put d (.mp j st 0 0))):cR P f args d s K:=by
 have e1:iU id j id=j:=by simp[iU]
 refine d_ (σ2:=[]) (r3:=.mp j st 0 0) (σ3:=[(j,o)]) h [(id,j)] [j] (kW _ args hargs) rfl ?_ ?_ (λp hp=>by cases hp) (λp hp=>?_) (λp hp=>by cases hp) ?_
 .simp only[fw,m8,wz,qx,rE,e1]
 .simp only[iO,fw,e1,f8 _ o ho]
 .simp only[kq]at hp;subst hp;exact .inr ⟨by simp,hj,.inr hfree⟩
 .simpa only[dD,dx,k7,fA]using hk
def aX.at_{f:FuncId}{st:Nat}{rest:List AV}{ob ob':ao}{Sb:Nat->Prop}{r:AV}(h:aX P f (.mp 1000 st 0 0::rest) [(1000,ob)] Sb (λr' σ'=>r'=r/\σ'=[(1000,ob')]))
  (hr:aO r=[]) (hrest:∀x∈rest,aO x=[]) (ho:dz ob=[]) (ho':dz ob'=[]) (j:Nat) :
  aX P f (.mp j st 0 0::rest) [(j,ob)] (λid=>Sb (iU 1000 j id)) (λr' σ'=>r'=r/\σ'=[(j,ob')]):=by
 have e1:iU 1000 j 1000=j:=by simp[iU]
 have e2:iU 1000 j j=1000:=by unfold iU;split<;>simp_all
 refine(h.ren (args2:=.mp j st 0 0::rest) (σ2:=[(j,ob)]) (iU 1000 j) (iU 1000 j) (ly _ _) (ly _ _) ?_ ?_).mono (λ_ h=>h) ?_
 .simp only[eR,kW _ rest hrest,m8,wz,qx,rE,e2]
 .simp only[iO,e2,f8 _ ob ho]
 .rintro r' σ' ⟨r0,σ0,⟨rfl,rfl⟩,rfl,rfl⟩;exact⟨rG _ _ hr,by simp only[iO,e1,f8 _ ob' ho']⟩
def QP{Sb:Nat->Prop}(j:Nat)(h:Sb 1000):(λid=>Sb (iU 1000 j id)) j:=by
 show Sb (iU 1000 j j);have e2:iU 1000 j j=1000:=by unfold iU;split<;>simp_all
 rw[e2];exact h
def dZ{f:FuncId}{st:Nat}{rest:List AV}{ob ob':ao}{Sb:Nat->Prop}{r:AV}{j:Nat}{d:Option Nat}{s:St}{K:St->Prop}(h:aX P f (.mp 1000 st 0 0::rest) [(1000,ob)] Sb (λr' σ'=>r'=r/\σ'=[(1000,ob')]))
  (hs:Sb 1000) (hr:aO r=[]) (hrest:∀x∈rest,aO x=[]) (ho:dz ob=[]) (ho':dz ob'=[]) (hk:ak s.heap j=some ob) (hK:K ((St.mk s.env ((j,ob')::s.heap)).put d r)):cR P f (.mp j st 0 0::rest) d s K :=
 aaU (h.at_ hr hrest ho ho' j) (QP j hs) hk hK
def ae{f:FuncId}{st:Nat}{rest:List AV}{ob ob':ao}{Sb:Nat->Prop}{r:AV}{j:Nat}{d:Option Nat}{s:St}{K:St->Prop}(h:aX P f (.mp 1000 st 0 0::rest) [(1000,ob)] Sb (λr' σ'=>r'=r/\σ'=[(1000,ob')]))
  (hK:K ((St.mk s.env ((j,ob')::s.heap)).put d r)) (hs:Sb 1000:=by exact⟨by decide,by decide⟩) (hr:aO r=[]:=by first|rfl|exact ab _) (hrest:∀x∈rest,aO x=[]:=by simp[go_sem]) (ho:dz ob=[]:=by exact rfl) (ho':dz ob'=[]:=by exact rfl)
  (hk:ak s.heap j=some ob:=by rfl):cR P f (.mp j st 0 0::rest) d s K:=dZ h hs hr hrest ho ho' hk hK
def aH{f:FuncId}{st:Nat}{rest:List AV}{ob ob':ao}{Sb:Nat->Prop}{r:AV}{j:Nat}{d:Option Nat}{s:St}{K:St->Prop}{Q:Prop}(h:aX P f (.mp 1000 st 0 0::rest) [(1000,ob)] Sb (λr' σ'=>r'=r/\σ'=[(1000,ob')]))
  (hk':Q) (hq:K ((St.mk s.env ((j,ob')::s.heap)).put d r)=Q:=by conv=>lhs;simp only[go_sem]) (hs:Sb 1000:=by exact⟨by decide,by decide⟩) (hr:aO r=[]:=by first|rfl|exact ab _) (hrest:∀x∈rest,aO x=[]:=by simp[go_sem]) (ho:dz ob=[]:=by exact rfl) (ho':dz ob'=[]:=by exact rfl)
  (hk:ak s.heap j=some ob:=by rfl):cR P f (.mp j st 0 0::rest) d s K:=dZ h hs hr hrest ho ho' hk (hq.mpr hk')
def Wr{f:FuncId}{st:Nat}{rest:List AV}{ob ob':ao}{Sb:Nat->Prop}{r:AV}{j:Nat}{i:Nat}{bf:List Nat}{op:nR}{d:Option Nat}{hist:List HI}{s:St}{K:List HI->St->Prop}(h:aX P f (.mp 1000 st 0 0::rest) [(1000,ob)] Sb (λr' σ'=>r'=r/\σ'=[(1000,ob')]))
  (hs:Sb 1000) (hr:aO r=[]) (hrest:∀x∈rest,aO x=[]) (ho:dz ob=[]) (ho':dz ob'=[]) (hk:ak s.heap j=some ob) (hop:j∈cO op s.env)
  (hK:eH op s (.put j ob')=true/\iL bf ⟨i,cO op s.env,[],[j],false,true⟩ hist=true/\K (⟨i,cO op s.env,[],[j],false,true⟩::hist) ((s.eff (.put j ob')).put d r)):CU P f (.mp j st 0 0::rest) i bf op d hist s K :=
 O9 (h.at_ hr hrest ho ho' j) (QP j hs) hk hr ho' hop hK
end
def Wk.new0(s:St)(i st:Nat)(t:TypeId)(hid:i<1000\/2000<=i):Wk s ⟨(s.kill i).env,(i,⟨t,st,[],false⟩)::(s.kill i).heap⟩:=by
 intro c a w hs;obtain⟨bl,hs⟩:=hs.kill i;obtain⟨h1,h2⟩:=fK s i;have hn:=hs.new0 (i:=i) (o:=⟨t,st,[],false⟩) h1 h2 hid rfl rfl;refine⟨_,hn.congr (λ_=>rfl) (λj=>?_)⟩;simp only[ak,ez];by_cases h:i=j
 .rw[aF h,aF h.symm]
 .rw[au h,au (Ne.symm h)]
def nlm:List AV->List AV->Prop
 | [],[]=>True
 | x::l,y::m=>(x=y\/(x = .nl/\((∃st,y = .sl st [])\/∃id st,y = .ms id st 0 0)))/\nlm l m
 | _,_=>False
def H7:∀{l m:List AV},nlm l m->m.length=l.length
 | [],[],_=>rfl
 | _::_,_::_,h=>by simp[H7 h.2]
 | [],_::_,h=>h.elim
 | _::_,[],h=>h.elim
def H6:∀{l m:List AV},nlm l m->∀{j:Nat}{y:AV},m[j]?=some y->∃x,l[j]?=some x/\(x=y\/(x = .nl/\((∃st,y = .sl st [])\/∃id st,y = .ms id st 0 0)))
 | [],[],_,j,y,hy=>by simp at hy
 | x::l,z::m,h,0,y,hy=>by simp at hy;subst hy;exact⟨x,rfl,h.1⟩
 | x::l,z::m,h,j+1,y,hy=>by simpa using H6 h.2 (j:=j) (by simpa using hy)
 | [],_::_,h,_,_,_=>h.elim
 | _::_,[],h,_,_,_=>h.elim
def Wk.nlm(s:St)(i:Nat){t:TypeId}{st:Nat}{r r':List AV}(hi:ak s.heap i=some ⟨t,st,[r],true⟩)(hr:Mw.nlm r r'):Wk s ⟨s.env,(i,⟨t,st,[r'],true⟩)::s.heap⟩:=by
 rintro c a w ⟨bl,hs⟩;have hm:∀b,bK bl c.MF (ak ((i,⟨t,st,[r'],true⟩)::s.heap)) b↔bK bl c.MF (ak s.heap) b:=bK.congr λj=>by
  simp only[ak];split
  .rename_i h;subst h;rw[hi];rfl
  .rfl
 have ht:=Tr.of_iff (w:=w) λb=>(hm b)
 refine⟨bl,hs.defers,hs.size,λj=>(hs.env j).tr ht (λ_ _=>rfl),⟨λj o hj=>?_,λj j' o o' b h1 h2=>?_⟩,hs.step,λj o b h1=>?_,hs.stab,hs.mf⟩
 .simp only[ak]at hj;split at hj
  .rename_i hij;subst hij;cases hj;rcases hs.heap.1 i _ hi with hn|⟨b,g1,⟨gk,c1,fr,g2,g3,g4,g5,g6,g7⟩|hsp⟩
   .cases hn.2.1
   rotate_left
   .cases hsp.isRec
   .refine .inr ⟨b,g1,.inl ⟨gk,c1,fr,g2,g3,g4,λk q hq=>?_,by simpa using g6,λk q u x hu hx=>?_⟩⟩
    .cases k with
     | zero=>simp at hq;subst hq;rw[H7 hr];exact g5 0 r rfl
     | succ k=>simp at hq
    .cases k with
     | succ k=>simp at hu
     | zero =>
      simp at hu;subst hu;obtain⟨x0,h1,h2⟩:=H6 hr hx;obtain⟨v,hv1,hv2⟩:=g7 0 q r x0 rfl h1;refine⟨v,hv1,?_⟩;have hv3:cG bl (bK bl c.MF (ak s.heap)) w v x0:=hv2;rcases h2 with h2|⟨h2,⟨st',h3⟩|⟨id,st',h3⟩⟩
      .subst h2;exact hv3.tr ht (λ_ _=>rfl)
      .subst h2 h3;have:IRel (bK bl c.MF (ak s.heap)) w v .nl:=hv3;exact(IRel.toC (bl:=bl) (IRel.nl_sl this st')).tr ht (λ_ _=>rfl)
      .subst h2 h3;have:IRel (bK bl c.MF (ak s.heap)) w v .nl:=hv3;cases this;exact .inl ⟨rfl,rfl,rfl⟩
  .rcases hs.heap.1 j o hj with hn|⟨b,g1,⟨gk,c1,fr,g2,g3,g4,g5,g6,g7⟩|hsp⟩
   .exact .inl hn
   rotate_left
   .exact .inr ⟨b,g1,.inr hsp⟩
   .refine .inr ⟨b,g1,.inl ⟨gk,c1,fr,g2,g3,g4,g5,g6,λk q u x hu hx=>?_⟩⟩;obtain⟨v,hv1,hv2⟩:=g7 k q u x hu hx;refine⟨v,hv1,?_⟩;cases hrec:o.isRec<;>simp only[hrec,Br]at hv2⊢
    .exact hv2.tr ht.keep
    .exact hv2.tr ht (λ_ _=>rfl)
 .have key:∀{j:Nat}{o:ao},ak ((i,⟨t,st,[r'],true⟩)::s.heap) j=some o->∃o',ak s.heap j=some o':=λ{j o} hj=>by
   simp only[ak]at hj;split at hj
   .rename_i hij;subst hij;exact⟨_,hi⟩
   .exact⟨_,hj⟩
  obtain⟨p1,q1⟩:=key h1;obtain⟨p2,q2⟩:=key h2;exact hs.heap.2 j j' p1 p2 b q1 q2
 .simp only[ak]at h1;split at h1
  .rename_i hij;subst hij;exact hs.own i _ b hi
  .exact hs.own j o b h1
section
variable{P:Program}[bO P]
def aX.at2{f:FuncId}{st:Nat}{rest:List AV}{rc rc' rk rk' ar ar':ao}{Sb:Nat->Prop}{r:AV}{k j:Nat}
  (h:aX P f (.mp 1000 st 0 0::rest) [(1000,rc),(2000,ar)] Sb (λr' σ'=>r'=r/\σ'=[(1000,rc'),(2000,ar')]))
  (hk:k≠2000) (hj:j≠1000) (hkj:k≠j)
  (hr:aO r=[]) (hrest:∀x∈rest,aO x=[]) (ha:ar.isRec=false) (ha':ar'.isRec=false)
  (h1:iP (bw [(1000,k),(2000,j)]) rk=rc) (h2:iP (fw [(1000,k),(2000,j)]) rc'=rk') :
  aX P f (.mp k st 0 0::rest) [(k,rk),(j,ar)] (λid=>Sb (bw [(1000,k),(2000,j)] id)) (λr' σ'=>r'=r/\σ'=[(k,rk'),(j,ar')]):=by
 have e1:fw [(1000,k),(2000,j)] 1000=k:=by
  simp only[fw];unfold iU;by_cases q:k=2000
  .exact absurd q hk
  .simp[q,hkj]
 have e2:fw [(1000,k),(2000,j)] 2000=j:=by
  simp only[fw];unfold iU;by_cases q:(2000:Nat)=k
  .exact absurd q.symm hk
  .simp[q]
 have b1:bw [(1000,k),(2000,j)] k=1000:=by have:=uM [(1000,k),(2000,j)] 1000;rwa[e1]at this
 have b2:bw [(1000,k),(2000,j)] j=2000:=by have:=uM [(1000,k),(2000,j)] 2000;rwa[e2]at this
 have ra:∀ρ:Nat->Nat,iP ρ ar=ar:=λρ=>by unfold iP;rw[ha];rfl
 have ra':∀ρ:Nat->Nat,iP ρ ar'=ar':=λρ=>by unfold iP;rw[ha'];rfl
 refine(h.ren (args2:=.mp k st 0 0::rest) (σ2:=[(k,rk),(j,ar)]) (fw [(1000,k),(2000,j)]) (bw [(1000,k),(2000,j)]) (uM _) (Ge _) ?_ ?_).mono (λ_ h=>h) ?_
 .simp only[eR,kW _ rest hrest,m8,wz,qx,rE,b1]
 .simp only[iO,b1,b2,ra,h1]
 .rintro r' σ' ⟨r0,σ0,⟨rfl,rfl⟩,rfl,rfl⟩;exact⟨rG _ _ hr,by simp only[iO,e1,e2,ra',h2]⟩
def aaT{f:FuncId}{args args':List AV}{rk rk' ar ar':ao}{Sb:Nat->Prop}{r:AV}{k j:Nat}{d:Option Nat}{s:St}{K:St->Prop}(fs:List Nat)
  (h:aX P f args' [(k,rk),(j,ar)] Sb (λr' σ'=>r'=r/\σ'=[(k,rk'),(j,ar')])) (hkj:k≠j) (hs:Sb k) (hj:j<1000\/2000<=j)
  (ha:args.map (xo fs s)=args') (h1:ak (frzs fs s).heap k=some rk) (h2:ak (frzs fs s).heap j=some ar)
  (hK:K ((St.mk (og j (frzs fs s).env) ((k,rk')::(j,ar')::oh j (frzs fs s).heap)).put d r)):cR P f args d s K:=by
 subst ha;have key:∀p:Nat×ao,p∈[(k,rk),(j,ar)]->ak (frzs fs s).heap p.1=some p.2:=λp hp=>by
  simp only[eA,wH,or_false]at hp;rcases hp with rfl|rfl
  .exact h1
  .exact h2
 refine .inr (.inl ⟨fs,.inr ⟨[(k,rk),(j,ar)],_,_,[j],h,λid o hh=>key (id,o) (fW hh),?_,?_⟩⟩)
 .rintro r σ' ⟨rfl,rfl⟩ id hid;simp only[ak]at hid⊢;by_cases hk:k=id
  .subst hk;exact .inl ⟨hs,by simp⟩
  .rw[au hk]at hid;by_cases hq:j=id
   .subst hq;exact .inr ⟨by simp,hj,.inl (by simp[hk])⟩
   .rw[au hq]at hid;cases hid
 .rintro r σ' ⟨rfl,rfl⟩;refine⟨⟨og j (frzs fs s).env,(k,rk')::(j,ar')::oh j (frzs fs s).heap⟩,λq=>by simp only[iZ,GA],λq=>?_,hK⟩;simp only[JW,ak];by_cases hk:k=q
  .subst hk;simp
  .simp only[au hk];by_cases hq:j=q
   .subst hq;simp
   .simp only[au hq,fj,Option.isSome_none,gd,cD];congr 1;funext o';exact(Gz j o').symm
end
def EG.trans{s s' s'':St}{l l' l'':List AV}(h:EG s l s' l')(h':EG s' l' s'' l''):EG s l s'' l'':=λc a w bl vs h1 h2=>by
 obtain⟨bl',h3,h4⟩:=h c a w bl vs h1 h2;exact h' c a w bl' vs h3 h4
def EG.frzs(fs:List Nat)(s:St)(l:List AV):EG s l (Mw.frzs fs s) (l.map (xo fs s)):=λc a w bl vs h1 h2=>by
 obtain⟨h3,h4⟩:=aP.frzs fs s h1;exact⟨bl,h3,h2.mapRight λv x hv=>h4 v x hv⟩
def nla(x y:AV):Prop:=x=y\/(x = .nl/\∃st,y = .sl st [])\/∃l m,x = .agg l/\y = .agg m/\ZK l m
def N1{bl:Nat->Option Nat}{M:Nat->Prop}{w:World}:∀{vs:List Value}{l m:List AV},ZK l m->bg (cG bl M w) vs l->bg (cG bl M w) vs m
 | [],[],[],_,_=>trivial
 | v::vs,x::l,y::m,h,hr=>by
  refine⟨?_,N1 h.2 hr.2⟩;rcases h.1 with rfl|⟨rfl,st,rfl⟩
  .exact hr.1
  .exact IRel.nl_sl (show IRel M w v .nl from hr.1) st
 | [],[],_::_,h,_=>h.elim
 | [],_::_,_,_,hr=>hr.elim
 | _::_,[],_,_,hr=>hr.elim
 | _::_,_::_,[],h,_=>h.elim
def XN{bl:Nat->Option Nat}{M:Nat->Prop}{w:World}{v:Value}{x y:AV}(h:nla x y)(hr:bu bl M w v x):bu bl M w v y:=by
 rcases h with rfl|⟨rfl,st,rfl⟩|⟨l,m,rfl,rfl,h⟩
 .exact hr
 .exact IRel.nl_sl (show IRel M w v .nl from hr) st
 .obtain⟨cs,h1,h2⟩:=hr;exact⟨cs,h1,N1 h h2⟩
def Kc{bl:Nat->Option Nat}{M:Nat->Prop}{w:World}:∀{vs:List Value}{l m:List AV},bg nla l m->bg (bu bl M w) vs l->bg (bu bl M w) vs m
 | [],[],[],_,_=>trivial
 | v::vs,x::l,y::m,h,hr=>⟨XN h.1 hr.1,Kc h.2 hr.2⟩
 | [],[],_::_,h,_=>h.elim
 | [],_::_,_,_,hr=>hr.elim
 | _::_,[],_,_,hr=>hr.elim
 | _::_,_::_,[],h,_=>h.elim
def EG.nla{s:St}{l m:List AV}(h:bg Mw.nla l m):EG s l s m:=λc a w bl vs h1 h2=>⟨bl,h1,Kc h h2⟩
section
variable{P:Program}[bO P]
def ii{f:FuncId}{args args':List AV}{d:Option Nat}{s s':St}{K:St->Prop}(hw:EG s args s' args')(h:cR P f args' d s' K):cR P f args d s K:=by
 rcases h with h|⟨fs,h⟩|⟨s'',args'',hw',h⟩
 .exact .inr (.inr ⟨s',args',hw,h⟩)
 .exact .inr (.inr ⟨_,_,hw.trans (EG.frzs fs s' args'),h⟩)
 .exact .inr (.inr ⟨s'',args'',hw.trans hw',h⟩)
def dA{f:FuncId}{args:List AV}(args':List AV){d:Option Nat}{s:St}{K:St->Prop}(hw:bg nla args args')(h:cR P f args' d s K):cR P f args d s K:=ii (EG.nla hw) h
end
def Nr{l:List lS}{s:St}{r:AV}{k:Nat}{ob:ao}{e:IX}(he:∀j,e≠.ext j)(h1:q_ l s=some r)(h2:ak s.heap k=some ob)(h3:Lv r [(k,ob)]=true):mD l (λr' σ'=>r'=r/\σ'=[(k,ob)]) e s:=by
 refine⟨he,s,λ_ _ _ h=>h,[],r,[(k,ob)],h1,λi o hi=>?_,oW h3,rfl,rfl⟩;simp only[ak]at hi;split at hi
 .rename_i hki;subst hki;cases hi;exact h2
 .cases hi
def aw{x y:Int}(h:¬x=y):(x==y)=false:=by simpa using h
def be{x y:Int}(h:x=y):(x==y)=true:=by simpa using h
def bv{x y:Int}(h:¬x=y):(x != y)=true:=by simpa using h
def bB{x y:Int}(h:x=y):(x != y)=false:=by simpa using h
def wn{n m:Int}(h:n=m)(h0:-9223372036854775808<=m)(h1:m<9223372036854775808):IntKind.i64.wrap n=m:=by rw[h];exact wi h0 h1
def aP.nlm{c:vE}{bl:Nat->Option Nat}{a:Act}{w:World}{s:St}(hs:aP c bl (get s.env) (ak s.heap) a w)(i:Nat){t:TypeId}{st:Nat}{r r':List AV}(hi:ak s.heap i=some ⟨t,st,[r],true⟩)(hr:Mw.nlm r r') :
  aP c bl (get s.env) (ak ((i,⟨t,st,[r'],true⟩)::s.heap)) a w/\∀b,bK bl c.MF (ak ((i,⟨t,st,[r'],true⟩)::s.heap)) b↔bK bl c.MF (ak s.heap) b:=by
 have hm:∀b,bK bl c.MF (ak ((i,⟨t,st,[r'],true⟩)::s.heap)) b↔bK bl c.MF (ak s.heap) b:=bK.congr λj=>by
  simp only[ak];split
  .rename_i h;subst h;rw[hi];rfl
  .rfl
 have ht:=Tr.of_iff (w:=w) λb=>(hm b)
 refine⟨⟨hs.defers,hs.size,λj=>(hs.env j).tr ht (λ_ _=>rfl),⟨λj o hj=>?_,λj j' o o' b h1 h2=>?_⟩,hs.step,λj o b h1=>?_,hs.stab,hs.mf⟩,hm⟩
 .simp only[ak]at hj;split at hj
  .rename_i hij;subst hij;cases hj;rcases hs.heap.1 i _ hi with hn|⟨b,g1,⟨gk,c1,fr,g2,g3,g4,g5,g6,g7⟩|hsp⟩
   .cases hn.2.1
   rotate_left
   .cases hsp.isRec
   .refine .inr ⟨b,g1,.inl ⟨gk,c1,fr,g2,g3,g4,λk q hq=>?_,by simpa using g6,λk q u x hu hx=>?_⟩⟩
    .cases k with
     | zero=>simp at hq;subst hq;rw[H7 hr];exact g5 0 r rfl
     | succ k=>simp at hq
    .cases k with
     | succ k=>simp at hu
     | zero =>
      simp at hu;subst hu;obtain⟨x0,h1,h2⟩:=H6 hr hx;obtain⟨v,hv1,hv2⟩:=g7 0 q r x0 rfl h1;refine⟨v,hv1,?_⟩;have hv3:cG bl (bK bl c.MF (ak s.heap)) w v x0:=hv2;rcases h2 with h2|⟨h2,⟨st',h3⟩|⟨id,st',h3⟩⟩
      .subst h2;exact hv3.tr ht (λ_ _=>rfl)
      .subst h2 h3;have:IRel (bK bl c.MF (ak s.heap)) w v .nl:=hv3;exact(IRel.toC (bl:=bl) (IRel.nl_sl this st')).tr ht (λ_ _=>rfl)
      .subst h2 h3;have:IRel (bK bl c.MF (ak s.heap)) w v .nl:=hv3;cases this;exact .inl ⟨rfl,rfl,rfl⟩
  .rcases hs.heap.1 j o hj with hn|⟨b,g1,⟨gk,c1,fr,g2,g3,g4,g5,g6,g7⟩|hsp⟩
   .exact .inl hn
   rotate_left
   .exact .inr ⟨b,g1,.inr hsp⟩
   .refine .inr ⟨b,g1,.inl ⟨gk,c1,fr,g2,g3,g4,g5,g6,λk q u x hu hx=>?_⟩⟩;obtain⟨v,hv1,hv2⟩:=g7 k q u x hu hx;refine⟨v,hv1,?_⟩;cases hrec:o.isRec<;>simp only[hrec,Br]at hv2⊢
    .exact hv2.tr ht.keep
    .exact hv2.tr ht (λ_ _=>rfl)
 .have key:∀{j:Nat}{o:ao},ak ((i,⟨t,st,[r'],true⟩)::s.heap) j=some o->∃o',ak s.heap j=some o':=λ{j o} hj=>by
   simp only[ak]at hj;split at hj
   .rename_i hij;subst hij;exact⟨_,hi⟩
   .exact⟨_,hj⟩
  obtain⟨p1,q1⟩:=key h1;obtain⟨p2,q2⟩:=key h2;exact hs.heap.2 j j' p1 p2 b q1 q2
 .simp only[ak]at h1;split at h1
  .rename_i hij;subst hij;exact hs.own i _ b hi
  .exact hs.own j o b h1
def VRels.tr{bl bl':Nat->Option Nat}{M M':Nat->Prop}{w:World}(ht:Tr M M' w w):∀{vs:List Value}{l:List AV},bg (bu bl M w) vs l->(∀x∈l,∀id,mV id x=true->bl' id=bl id)->bg (bu bl' M' w) vs l
 | [],[],_,_=>trivial
 | _::_,_::_,h,hb=>⟨h.1.tr ht (hb _ (by simp)),VRels.tr ht h.2 λx hx=>hb x (by simp[hx])⟩
 | [],_::_,h,_=>h.elim
 | _::_,[],h,_=>h.elim
def EG.nlm(s:St)(l:List AV)(i:Nat){t:TypeId}{st:Nat}{r r':List AV}(hi:ak s.heap i=some ⟨t,st,[r],true⟩)(hr:Mw.nlm r r'):EG s l ⟨s.env,(i,⟨t,st,[r'],true⟩)::s.heap⟩ l:=λc a w bl vs h1 h2=>by
 obtain⟨h3,hm⟩:=h1.nlm i hi hr;exact⟨bl,h3,VRels.tr (Tr.of_iff hm) h2 λ_ _ _ _=>rfl⟩
def EG.new0(s:St)(l:List AV)(i st:Nat)(t:TypeId)(hid:i<1000\/2000<=i)(hl:∀x∈l,i∉aO x):EG s l ⟨(s.kill i).env,(i,⟨t,st,[],false⟩)::(s.kill i).heap⟩ l:=λc a w bl vs hs h2=>by
 have hk:=hs.kill i;have hu:=qy i (get s.env) (ak s.heap);have hn:=hk.new0 (i:=i) (o:=⟨t,st,[],false⟩) (by simp) hu hid rfl rfl;have e1:∀k,get (s.kill i).env k=i7 i (get s.env k):=λk=>by simp only[St.kill,iZ]
 have e2:∀j,ak ((i,⟨t,st,[],false⟩)::(s.kill i).heap) j=ez (λj=>if j=i then none else(ak s.heap j).map (eJ i)) i (some ⟨t,st,[],false⟩) j:=λj=>by
  simp only[ak,ez,St.kill,fj,dW];by_cases h:i=j
  .subst h;simp
  .have h':¬j=i:=λe=>h e.symm;simp[h,h']
 refine⟨ez bl i none,hn.congr e1 e2,?_⟩;have hM:∀b,bK (ez bl i none) c.MF (ak ((i,⟨t,st,[],false⟩)::(s.kill i).heap)) b->bK bl c.MF (ak s.heap) b:=λb hb=>by
  rcases hb with hb|⟨j,o,h3,h4⟩
  .exact .inl hb
  .rw[e2]at h3;by_cases hj:j=i
   .subst hj;simp[ez]at h4
   .rw[cN _ _ hj]at h4;rw[cN _ _ hj]at h3;simp only[hj,cD,dV]at h3;obtain⟨o',h5,_⟩:=h3;exact .inr ⟨j,o',h5,h4⟩
 have ht:Tr (bK bl c.MF (ak s.heap)) (bK (ez bl i none) c.MF (ak ((i,⟨t,st,[],false⟩)::(s.kill i).heap))) w w:=⟨λb hb _=>⟨λh=>hb (hM b h),rfl⟩,λb cc t fr h=>⟨cc,fr,h,rfl⟩⟩
 exact VRels.tr ht h2 λx hx id hid=>cN _ _ λe=>hl x hx (by rw[<-e];exact u5 hid)
attribute[go_sem] AJ eQ decide_eq_false_iff_not beq_self_eq_true Nat.lt_add_one Nat.reduceEqDiff Nat.reduceLT reduceCtorEq Nat.reduceAdd Nat.reduceLeDiff Nat.reduceBEq Nat.reduceBNe Int.reduceNeg Int.reduceToNat Int.reduceBEq Int.reduceBNe bne_self_eq_false gd
attribute[go_sem ↓] reduceIte
def sb(id:Nat):Prop:=1000<=id/\id<2000
def Vt(n:Int):Prop:=-9223372036854775808<=n/\n<9223372036854775808
section
abbrev No:Nat->Prop:=λ_=>False
def I_(T:Nat->Prop)(N:Nat)(W W':World):Prop:=W.heap.size<=W'.heap.size/\(∀(b:Nat)(c:Array Value)(t:TypeId)(fr:Nat×Nat),N<=b->W.heap[b]?=some (.cells c t fr)->W'.heap[b]?=some (.cells c t fr))/\∀b,T b->W'.heap[b]? = W.heap[b]?
section
variable{T:Nat->Prop}
def I_.refl(N:Nat)(W:World):I_ T N W W:=⟨bG _,λ_ _ _ _ _ h=>h,λ_ _=>rfl⟩
def I_.trans{N:Nat}{A B C:World}(h:I_ T N A B)(k:I_ T N B C):I_ T N A C:=⟨jq h.1 k.1,λb c t fr hb hc=>k.2.1 b c t fr hb (h.2.1 b c t fr hb hc),λb hb=>(k.2.2 b hb).trans (h.2.2 b hb)⟩
def I_.mono{N N':Nat}{A B:World}(h:I_ T N A B)(hn:N<=N'):I_ T N' A B:=⟨h.1,λb c t fr hb=>h.2.1 b c t fr (jq hn hb),h.2.2⟩
def I_.putObj(N:Nat)(W:World)(l:Nat)(o o':Obj)(hl:W.heap[l]?=some o)(ho:o.isCells=false)(hT:∀b,T b->b<l):I_ T N W (W.putObj l o'):=by
 have hlt:=(wF.1 hl).1;refine⟨(grownBy_putObj' W l o').size,λb c t fr _ hb=>?_,λb hb=>World.putObj_heap_other (by have:=hT b hb;omega)⟩;by_cases e:b=l
 .subst e;rw[hl]at hb;cases hb;simp[Obj.isCells]at ho
 .rw[World.putObj_heap_other (by omega)];exact hb
end
def qA.ofAlloc(w:World)(o:Obj):qA No w (w.alloc o) where
 size:=by simp
 keep b hb _:=by rw[World.alloc];simp[Ep,Nat.ne_of_lt hb]
 shape b c t fr hb:=⟨c,fr,by
  have hlt:=bQ hb;rw[World.alloc];simp[Ep,Nat.ne_of_lt hlt,hb],rfl⟩
 os:=rfl
 out:=rfl
def qA.one{A B C:World}(h:qA No A B)(k:qA No B C):qA No A C:=h.trans k λ_ _ h=>h.elim
def aex{α:Type}(n:Nat)(P:Program)[bO P](g:Nat)(lb:Array Value)(encs:α->Array Value)(E:List α)(w:World):Prop :=
 ∀(l:Nat)(J Jx:List α->World->Prop)(W:World),(bO.T P).H W->qA No w W->(∀s A B,J s A->qA No A B->J s B)->(∀s A B,Jx s A->qA No A B->Jx s B) ->
  (∀oA x W1,J oA W1->oA++[x] <+: E->YieldAt Fence.wide (n-1) P l (encs x) W1 λe W' =>
   (e = .returned (.bool true)/\J (oA++[x]) W'/\I_ (bO.T P).B W.heap.size W1 W')\/(e = .returned (.bool false)/\Jx (oA++[x]) W')) ->
  J [] W ->
  CallsIn Fence.wide n P g (#[.func (.yield l) #[] #[]]++lb) W λe W'=>(∃v,e = .returned v)/\(J E W'\/(∃oA,oA <+: E/\Jx oA W'))
variable{n:Nat}{P:Program}[bO P]
def Qv{α:Type}{g:Operand}{ps:Array Tmp}{assign body:Code}{Q:Exit->Act->World->Prop}{a:Act}{w:World}
  (h1:1<=n) (hH:(bO.T P).H w) {gf:Nat} {lb:Array Value} (hg:a.eval g = .func (.func gf) #[] lb) (eg:∀args w,(callFunc gf args).run P w = .ok (.enter gf args) w)
  {encs:α->Array Value} {E:List α} {w0:World} (hseq:aex (n-1) P gf lb encs E w0) (hb0:qA No w0 w) (hps:∀x,(encs x).size=ps.size)
  (I:List α->World->Prop) (Ix:Code->List α->World->Prop) (hI:∀s A B,I s A->qA No A B->I s B) (hIx:∀c s A B,Ix c s A->qA No A B->Ix c s B)
  (hIp:∀s W l o o',I s W->w.heap.size<=l->W.heap[l]?=some o->o.isCells=false->I s (W.putObj l o')) (hIxp:∀c s W l o o',Ix c s W->w.heap.size<=l->W.heap[l]?=some o->o.isCells=false->Ix c s (W.putObj l o'))
  (h0:I [] w) (a₁:α->Act)
  (hassign:∀(l:Nat)(x:α)(W:World)(K:Act->World->Prop),K (a₁ x) W ->
   assign.wpIn (Fence.wide.inRound l) (n-1-1) P (Exit.then K (λ_ _ _=>False)) {tmps:=(ps.zip (encs x)).foldl (λt (p,v)=>t.setIfInBounds p v) a.tmps,defers:=[]} W)
  (hbody:∀(l:Nat)(oA:List α)(x:α)(W:World),I oA W->oA++[x] <+: E->body.wpIn (Fence.wide.inRound l) (n-1-1) P (ownPostK (I_ (bO.T P).B w.heap.size) I Ix (oA++[x]) W) (a₁ x) W)
  (hdone:∀(D:Nat)(W:World),w.heap.size<=D->I E W->W.heap[D]?=some (.deferred (some []))->Q .normal {a with defers:={target:=.collected D,args:=#[]}::a.defers} W)
  (hstop:∀(D:Nat)(c:Code)(oA:List α)(W:World),w.heap.size<=D->oA <+: E->Ix c oA W->W.heap[D]?=some (.deferred (some []))->c.wpIn Fence.wide n P Q {a with defers:={target:=.collected D,args:=#[]}::a.defers} W) :
  (Code.rangeFunc g ps assign body).wpIn Fence.wide n P Q a w:=by
 refine wpIn_rangeFunc ?_;intro fn hfn;rw[show Fence.wide.round=none from rfl];obtain⟨rec,hrec⟩:∃rec:LoopState->Option Code->Loop,rec=λst pe=>{state:=st,pending:=pe,fn,tmps:=a.tmps,params:=ps,assign,body,defers:=w.heap.size}:=⟨_,rfl⟩
 obtain⟨W1,hW1⟩:∃W1,(w.alloc (.deferred (some []))).alloc (.loop (rec .ready none))=W1:=⟨_,rfl⟩
 have hL1:W1.heap[w.heap.size+1]?=some (.loop (rec .ready none)):=by
  rw[<-hW1];have:=World.alloc_heap_new (w.alloc (.deferred (some []))) (.loop (rec .ready none));rwa[World.size_alloc]at this
 have hK1:W1.heap[w.heap.size]?=some (.deferred (some [])):=by
  rw[<-hW1];exact(Below.heap_alloc _ _ _ (by simp)).trans (World.alloc_heap_new w _)
 have hs1:qA No w W1:=by rw[<-hW1];exact(qA.ofAlloc _ _).one (qA.ofAlloc _ _)
 have hlow:∀b,(bO.T P).B b->b<w.heap.size+1:=λb hb=>Nat.lt_succ_of_lt ((bO.T P).low _ hH b hb);have hz1:W1.heap.size=w.heap.size+2:=by rw[<-hW1];simp
 refine⟨w.heap.size+1,[{target:=.collected w.heap.size,args:=#[]}],W1,{target:=.fn (.func gf) lb,args:=#[.func (.yield (w.heap.size+1)) #[] #[]]},W1,gf,
  #[.func (.yield (w.heap.size+1)) #[] #[]]++lb,W1,?_,?_,?_,?_,λ_=>h1,?_⟩
 .rw[<-hW1,hrec];exact run_enterLoop_outer _ _ _ _ _
 .simp only[resolve,hg];simp[go_sem]
 .intro f' hf';trivial
 .simp[invoke,go_sem,eg]
 .have kp:∀{l:Nat}{o:Obj}{A B:World},qA No A B->A.heap[l]?=some o->B.heap[l]?=some o:=λ{l o A B} hs h=>by
   rw[hs.keep l (wF.1 h).1 (λh=>h)];exact h
  refine(hseq (w.heap.size+1)
   (λoA W=>I oA W/\W.heap[w.heap.size+1]?=some (.loop (rec .ready none))/\W.heap[w.heap.size]?=some (.deferred (some [])))
   (λoA W=>∃c,Ix c oA W/\W.heap[w.heap.size+1]?=some (.loop (rec .done (some c)))/\W.heap[w.heap.size]?=some (.deferred (some [])))
   W1 ((bO.T P).stay _ _ hH λb hb=>hs1.keep b ((bO.T P).low _ hH b hb) (λh=>h)) (hb0.one hs1)
   (λs A B hs hg'=>⟨hI s A B hs.1 hg',kp hg' hs.2.1,kp hg' hs.2.2⟩)
   (λs A B hs hg'=>by
    obtain⟨c,hc,hl,hk⟩:=hs;exact⟨c,hIx c s A B hc hg',kp hg' hl,kp hg' hk⟩)
   ?_ ⟨hI _ _ _ h0 hs1,hL1,hK1⟩).mono ?_
  ·
   rintro oA x W ⟨hi,hl,hk⟩ hlen;have hlt:w.heap.size+1<W.heap.size:=(wF.1 hl).1;have hy:=run_yield (P:=P) (args:=encs x) hl (by rw[hrec];exact hps x);rw[hrec]at hy;refine⟨fn,_,assign,body,hy,roundIn_of_wpIn hfn (hassign _ x W _ ⟨_,run_beginRound hl (by rw[hrec]),?_⟩)⟩;have hl2:(W.putObj (w.heap.size+1) (.loop {rec .ready none with state:=.busy})).heap[w.heap.size+1]?=some (.loop {rec .ready none with state:=.busy}):=World.putObj_heap_same hlt;have hk2:(W.putObj (w.heap.size+1) (.loop {rec .ready none with state:=.busy})).heap[w.heap.size]?=some (.deferred (some [])):=(World.putObj_heap_other (by omega)).trans hk;have hw2:I_ (bO.T P).B w.heap.size W (W.putObj (w.heap.size+1) (.loop {rec .ready none with state:=.busy})):=I_.putObj _ _ _ _ _ hl rfl hlow;refine wpIn_mono (hbody _ oA x _ (hIp _ _ _ _ _ hi (by omega) hl rfl) hlen) ?_;have fin:∀(jump:Option Code)(W3:World),KeepsOthers (W.putObj (w.heap.size+1) (.loop {rec .ready none with state:=.busy})) W3 ->
     (Instr.endRound (w.heap.size+1) jump).run P W3 = .ok (.bool jump.isNone) (W3.putObj (w.heap.size+1) (.loop (rec (if jump.isNone then .ready else .done) jump))) /\
     W3.heap[w.heap.size+1]?=some (.loop {rec .ready none with state:=.busy}) /\
     (W3.putObj (w.heap.size+1) (.loop (rec (if jump.isNone then .ready else .done) jump))).heap[w.heap.size+1]?=some (.loop (rec (if jump.isNone then .ready else .done) jump)) /\
     (W3.putObj (w.heap.size+1) (.loop (rec (if jump.isNone then .ready else .done) jump))).heap[w.heap.size]?=some (.deferred (some [])):=λjump W3 hk3=>by
    have hl3:=hk3.same _ _ hl2 rfl;have:=run_endRound (P:=P) jump hl3;rw[hrec]at this⊢;exact⟨this,by rw[hrec]at hl3;exact hl3,World.putObj_heap_same (wF.1 hl3).1,(World.putObj_heap_other (by omega)).trans (hk3.same _ _ hk2 rfl)⟩
   rintro e a3 W3 hp;cases e with
   | normal =>
    obtain⟨hk3,hkp3,hi3⟩:=hp;obtain⟨hr,hl3,hl4,hk4⟩:=fin none W3 hk3;exact⟨_,_,hr,.inl ⟨rfl,⟨hIp _ _ _ _ _ hi3 (by omega) hl3 rfl,hl4,hk4⟩,((hw2.trans hkp3).trans (I_.putObj _ _ _ _ _ hl3 rfl hlow)).mono (by omega)⟩⟩
   | ret =>
    obtain⟨hk3,hi3⟩:=hp;obtain⟨hr,hl3,hl4,hk4⟩:=fin (some .ret) W3 hk3;exact⟨_,_,hr,.inr ⟨rfl,.ret,hIxp _ _ _ _ _ _ hi3 (by omega) hl3 rfl,hl4,hk4⟩⟩
   | exit id =>
    obtain⟨hk3,hi3⟩:=hp;obtain⟨hr,hl3,hl4,hk4⟩:=fin (some (.exit id)) W3 hk3;exact⟨_,_,hr,.inr ⟨rfl,.exit id,hIxp _ _ _ _ _ _ hi3 (by omega) hl3 rfl,hl4,hk4⟩⟩
   | goto t =>
    obtain⟨hk3,hi3⟩:=hp;obtain⟨hr,hl3,hl4,hk4⟩:=fin (some (.goto t)) W3 hk3;exact⟨_,_,hr,.inr ⟨rfl,.goto t,hIxp _ _ _ _ _ _ hi3 (by omega) hl3 rfl,hl4,hk4⟩⟩
   | panic ch=>exact hp.elim
   | outgrown=>exact hp.elim
  ·
   rintro e W2 ⟨⟨v,rfl⟩,(⟨hi,hl,hk⟩|⟨oA,hSp,c,hi,hl,hk⟩)⟩
   .exact⟨none,_,by have:=run_endLoop (P:=P) hl (by rw[hrec];simp);rw[hrec]at this;exact this,hdone _ _ (bG _) (hIp _ _ _ _ _ hi (by omega) hl rfl) ((World.putObj_heap_other (by omega)).trans hk)⟩
   .exact⟨some c,_,by have:=run_endLoop (P:=P) hl (by rw[hrec];simp);rw[hrec]at this;exact this,hstop _ c oA _ (bG _) hSp (hIxp _ _ _ _ _ _ hi (by omega) hl rfl) ((World.putObj_heap_other (by omega)).trans hk)⟩
def T5(P:Program)[bO P](w:World):Nat->Prop:=λb=>b<w.heap.size/\¬(bO.T P).B b
def ac.run{f:FuncId}{args:List AV}{r:AV}(h:ac P f args r)(w:World)(hH:(bO.T P).H w){cargs:List Value}(ha:bg (bu (λ_=>none) (T5 P w) w) cargs args) :
  Calls P f cargs.toArray w λe w'=>∃v,e = .returned v/\bu (λ_=>none) (T5 P w) w' v r/\qA No w w':=by
 have hm:∀(bl:Nat->Option Nat) b,bK bl (T5 P w) (ak []) b↔T5 P w b:=λbl b=>ox _ b
 refine(h (λ_=>none) (T5 P w) w cargs hH (λb hb hm'=>((hm _ b).1 hm').2 hb) ⟨λid o hi=>by simp[ak]at hi,λid id' o o' b hi=>by simp[ak]at hi⟩ (λb hb=>hb.1)
  (ha.mono λ_ _ _ hr=>hr.tr (Tr.of_iff (λb=>hm _ b)) (λ_ _=>rfl))).mono λe w' hh=>?_
 obtain⟨v,r',σ',bl',rfl,⟨rfl,rfl⟩,hcl,_,hv,hst,_,_⟩:=hh;refine⟨v,rfl,hv.tr (Tr.of_iff (λb=>(hm _ b).symm)) (λid hid=>?_),⟨hst.size,λb hb _=>hst.keep b hb (λhx=>by obtain⟨id,o,hi,_⟩:=hx;simp[ak]at hi),hst.shape,hst.os,hst.out⟩⟩;have:=hcl.1 id (u5 hid);simp[ak]at this
def ac.of{f:FuncId}{args:List AV}{r:AV} (h:∀(w:World)(bl:Nat->Option Nat)(M:Nat->Prop)(cargs:List Value),(bO.T P).H w->(∀b,M b->b<w.heap.size)->bg (bu bl M w) cargs args ->
   Calls P f cargs.toArray w λe w'=>∃v,e = .returned v/\qA No w w'/\bu (λ_=>none) M w' v r) (hid:aO r=[]):ac P f args r:=by
 intro bl MF w cargs hH _ _ hMF ha;have hm:∀(bl:Nat->Option Nat) b,bK bl MF (ak []) b↔MF b:=λbl b=>ox _ b;refine(h w bl MF cargs hH hMF (ha.mono λ_ _ _ hr=>hr.tr (Tr.of_iff (λb=>(hm _ b).symm)) (λ_ _=>rfl))).mono λe w' hh=>?_;obtain⟨v,rfl,hst,hv⟩:=hh;refine⟨v,r,[],bl,rfl,⟨rfl,rfl⟩,(⟨λi hi=>(by rw[hid]at hi;cases hi),λp hp=>absurd hp wH⟩:tU r []),⟨λid o hi=>by simp[ak]at hi,λid id' o o' b hi=>by simp[ak]at hi⟩,?_,?_,λid o b hi=>by simp[ak]at hi,λ_ h=>h.elim⟩
 .refine hv.tr (Tr.of_iff (λb=>hm _ b)) (λid hi=>?_);have:=u5 hi;rw[hid]at this;cases this
 .exact⟨hst.size,λb hb _=>hst.keep b hb (λh=>h),hst.shape,hst.os,hst.out⟩
def FJ{f:FuncId}{args:List AV}{d:Option Nat}{s:St}{K:St->Prop}{Sb:Nat->Prop}{id st len:Nat}{o:ao}(h:aX P f args [] Sb (λr σ'=>r = .ms id st 0 len/\σ'=[(id,o)]))(ho:dz o=[])(hargs:∀x∈args,aO x=[])
  (j:Nat) (hj:j<1000\/2000<=j) (hfree:ak s.heap j=none) (hk:K ((St.mk (og j s.env) ((j,o)::oh j s.heap)).put d (.ms j st 0 len))):cR P f args d s K:=by
 have e1:iU id j id=j:=by simp[iU]
 refine d_ (σ2:=[]) (r3:=.ms j st 0 len) (σ3:=[(j,o)]) h [(id,j)] [j] (kW _ args hargs) rfl ?_ ?_ (λp hp=>by cases hp) (λp hp=>?_) (λp hp=>by cases hp) ?_
 .simp only[fw,m8,wz,qx,rE,e1]
 .simp only[iO,fw,e1,f8 _ o ho]
 .simp only[kq]at hp;subst hp;exact .inr ⟨by simp,hj,.inr hfree⟩
 .simpa only[dD,dx,k7,fA]using hk
end
section
variable{P:Program}[bO P]{X:Type}
def aX.at_e{f:FuncId}{st:Nat}{rest:List AV}{ob:ao}{ob':X->ao}{Sb:Nat->Prop}{r:X->AV}{Q:X->Prop}(h:aX P f (.mp 1000 st 0 0::rest) [(1000,ob)] Sb (λr' σ'=>∃x,Q x/\r'=r x/\σ'=[(1000,ob' x)]))
  (hr:∀x,aO (r x)=[]) (hrest:∀x∈rest,aO x=[]) (ho:dz ob=[]) (ho':∀x,dz (ob' x)=[]) (j:Nat) :
  aX P f (.mp j st 0 0::rest) [(j,ob)] (λid=>Sb (iU 1000 j id)) (λr' σ'=>∃x,Q x/\r'=r x/\σ'=[(j,ob' x)]):=by
 have e1:iU 1000 j 1000=j:=by simp[iU]
 have e2:iU 1000 j j=1000:=by unfold iU;split<;>simp_all
 refine(h.ren (args2:=.mp j st 0 0::rest) (σ2:=[(j,ob)]) (iU 1000 j) (iU 1000 j) (ly _ _) (ly _ _) ?_ ?_).mono (λ_ h=>h) ?_
 .simp only[eR,kW _ rest hrest,m8,wz,qx,rE,e2]
 .simp only[iO,e2,f8 _ ob ho]
 .rintro r' σ' ⟨r0,σ0,⟨x,hx,rfl,rfl⟩,rfl,rfl⟩;exact⟨x,hx,rG _ _ (hr x),by simp only[iO,e1,f8 _ _ (ho' x)]⟩
def yZ{f:FuncId}{st:Nat}{rest:List AV}{ob:ao}{ob':X->ao}{Sb:Nat->Prop}{r:X->AV}{Q:X->Prop}{j:Nat}{d:Option Nat}{s:St}{K:St->Prop}
  (h:aX P f (.mp 1000 st 0 0::rest) [(1000,ob)] Sb (λr' σ'=>∃x,Q x/\r'=r x/\σ'=[(1000,ob' x)]))
  (hs:Sb 1000) (hr:∀x,aO (r x)=[]) (hrest:∀x∈rest,aO x=[]) (ho:dz ob=[]) (ho':∀x,dz (ob' x)=[]) (hk:ak s.heap j=some ob)
  (hK:∀x,Q x->K ((St.mk s.env ((j,ob' x)::s.heap)).put d (r x))):cR P f (.mp j st 0 0::rest) d s K:=by
 have h':=h.at_e hr hrest ho ho' j;refine .inl (.inr ⟨[(j,ob)],_,_,[],h',λid o hh=>?_,?_,?_⟩)
 .simp only[ak]at hh;split at hh
  .rename_i e;subst e;cases hh;exact hk
  .cases hh
 .rintro r' σ' ⟨x,hx,rfl,rfl⟩ id hid;simp only[ak]at hid⊢;split at hid
  .rename_i e;subst e;exact .inl ⟨QP j hs,by simp⟩
  .cases hid
 .rintro r' σ' ⟨x,hx,rfl,rfl⟩;refine⟨⟨dD [] s.env,(j,ob' x)::dx [] s.heap⟩,λk=>oy k [] s.env,λi=>?_,hK x hx⟩;simp only[ak,JW];by_cases e:j=i
  .subst e;simp
  .simp only[au e];rw[au (by simp),kR]
def Wj{f:FuncId}{args:List AV}{Sb:Nat->Prop}{r:X->AV}{Q:X->Prop}{d:Option Nat}{s:St}{K:St->Prop}
  (h:aX P f args [] Sb (λr' σ'=>∃x,Q x/\r'=r x/\σ'=[])) (hK:∀x,Q x->K (s.put d (r x))):cR P f args d s K:=by
 refine .inl (.inr ⟨[],_,_,[],h,(λid o hh=>by cases hh),?_,?_⟩)
 .rintro r' σ' ⟨x,hx,rfl,rfl⟩ id hid;cases hid
 .rintro r' σ' ⟨x,hx,rfl,rfl⟩;refine⟨⟨dD [] s.env,dx [] s.heap⟩,λk=>oy k [] s.env,λi=>?_,hK x hx⟩;show ak (dx [] s.heap) i=Option.map (iB []) (ak s.heap i);rw[kR]
def Wi{f:FuncId}{st st1:Nat}{ob rc:ao}{ob' rc':X->ao}{Sb:Nat->Prop}{r:X->AV}{Q:X->Prop}{j:Nat}{d:Option Nat}{s:St}{K:St->Prop}
  (h:aX P f [.mp 1000 st 0 0,.mp 1001 st1 0 0] [(1000,ob),(1001,rc)] Sb (λr' σ'=>∃x,Q x/\r'=r x/\σ'=[(1000,ob' x),(1001,rc' x)]))
  (hs:Sb 1000) (hs1:Sb 1001) (hj:j≠1000) (hr:∀x,aO (r x)=[]) (ho:dz ob=[]) (hc:dz rc=[]) (ho':∀x,dz (ob' x)=[]) (hc':∀x,dz (rc' x)=[])
  (hk:ak s.heap 1000=some ob) (hk1:ak s.heap j=some rc)
  (hK:∀x,Q x->K ((St.mk s.env ((1000,ob' x)::(j,rc' x)::s.heap)).put d (r x))):cR P f [.mp 1000 st 0 0,.mp j st1 0 0] d s K:=by
 have e0:iU 1001 j 1000=1000:=by unfold iU;simp[Ne.symm hj]
 have e1:iU 1001 j 1001=j:=by simp[iU]
 have e2:iU 1001 j j=1001:=by unfold iU;split<;>simp_all
 have h':aX P f [.mp 1000 st 0 0,.mp j st1 0 0] [(1000,ob),(j,rc)] (λid=>Sb (iU 1001 j id)) (λr' σ'=>∃x,Q x/\r'=r x/\σ'=[(1000,ob' x),(j,rc' x)]):=by
  refine(h.ren (args2:=[.mp 1000 st 0 0,.mp j st1 0 0]) (σ2:=[(1000,ob),(j,rc)]) (iU 1001 j) (iU 1001 j) (ly _ _) (ly _ _) ?_ ?_).mono (λ_ h=>h) ?_
  .simp only[eR,k9,m8,wz,qx,rE,e0,e2]
  .simp only[iO,e0,e2,f8 _ ob ho,f8 _ rc hc]
  .rintro r' σ' ⟨r0,σ0,⟨x,hx,rfl,rfl⟩,rfl,rfl⟩;exact⟨x,hx,rG _ _ (hr x),by simp only[iO,e0,e1,f8 _ _ (ho' x),f8 _ _ (hc' x)]⟩
 refine .inl (.inr ⟨[(1000,ob),(j,rc)],_,_,[],h',λid o hh=>?_,?_,?_⟩)
 .simp only[ak]at hh;split at hh
  .rename_i e;subst e;cases hh;exact hk
  .split at hh
   .rename_i e;subst e;cases hh;exact hk1
   .cases hh
 .rintro r' σ' ⟨x,hx,rfl,rfl⟩ id hid;simp only[ak]at hid⊢;split at hid
  .rename_i e;subst e;exact .inl ⟨by show Sb (iU 1001 j 1000);rw[e0];exact hs,by simp⟩
  .split at hid
   .rename_i e;subst e;exact .inl ⟨by show Sb (iU 1001 j j);rw[e2];exact hs1,by rw[au (Ne.symm hj)];simp⟩
   .cases hid
 .rintro r' σ' ⟨x,hx,rfl,rfl⟩;refine⟨⟨dD [] s.env,(1000,ob' x)::(j,rc' x)::dx [] s.heap⟩,λk=>oy k [] s.env,λi=>?_,hK x hx⟩;simp only[ak,JW];by_cases e:1000=i
  .subst e;simp
  .by_cases e':j=i
   .subst e';simp[Ne.symm hj]
   .simp only[au e,au e'];rw[au (by simp),kR]
end
inductive Nd:AV->AV->Prop where
 | rfl (x:AV):Nd x x
 | nl (st:Nat):Nd .nl (.sl st [])
 | sl (st:Nat) (rows rows':List (List AV)) (hl:rows.length=rows'.length) (hr:∀(i:Nat)(r r':List AV),rows[i]?=some r->rows'[i]?=some r'->r.length=r'.length)
    (hx:∀(i j:Nat)(r r':List AV)(x y:AV),rows[i]?=some r->rows'[i]?=some r'->r[j]?=some x->r'[j]?=some y->Nd x y):Nd (.sl st rows) (.sl st rows')
def IRel.nd{M:Nat->Prop}{w:World}{x y:AV}(h:Nd x y):∀{v:Value},IRel M w v x->IRel M w v y:=by
 induction h with
 | rfl x=>exact λh=>h
 | nl st=>exact λh=>IRel.nl_sl h st
 | sl st rows rows' hl hr hx ih =>
  intro v h;cases h with
  | nls=>obtain rfl:rows'=[]:=zU (by simpa using hl.symm);exact .nls st
  | sl0 _ a cap=>obtain rfl:rows'=[]:=zU (by simpa using hl.symm);exact .sl0 st a cap
  | sl b off cap _ c t fr _ vs hb hM hle hrl hv hxx =>
   rw[hl];have get:∀{i:Nat}{r':List AV},rows'[i]?=some r'->∃r,rows[i]?=some r:=λ{i r'} h=>by
    have hi:i<rows'.length:=by
     rcases kz i rows'.length with q|q
     .exact q
     .rw[Na q]at h;cases h
    exact⟨rows[i]'(by omega),m_ _⟩
   refine .sl b off cap st c t fr rows' vs hb hM (by omega) (λi r' hi=>?_) (λi j hi hj=>hv i j (by omega) hj) (λi j r' y hi hj=>?_)
   .obtain⟨r,hr2⟩:=get hi;rw[<-hr i r r' hr2 hi];exact hrl i r hr2
   .obtain⟨r,hr2⟩:=get hi;have hjl:j<r.length:=by
     rw[hr i r r' hr2 hi];rcases kz j r'.length with q|q
     .exact q
     .rw[Na q]at hj;cases hj
    exact ih i j r r' _ y hr2 hi (m_ hjl) hj (hxx i j r _ hr2 (m_ hjl))
def cG.nd{bl:Nat->Option Nat}{M:Nat->Prop}{w:World}{v:Value}{x y:AV}(h:Nd x y)(hr:cG bl M w v x):cG bl M w v y:=by
 cases h with
 | rfl=>exact hr
 | nl st=>exact IRel.nd (.nl st) (show IRel M w v .nl from hr)
 | sl st rows rows' h1 h2 h3=>exact IRel.nd (.sl st rows rows' h1 h2 h3) (show IRel M w v (.sl st rows) from hr)
def nld(x y:AV):Prop:=Nd x y\/∃l m,x = .agg l/\y = .agg m/\bg Nd l m
def XO{bl:Nat->Option Nat}{M:Nat->Prop}{w:World}{v:Value}{x y:AV}(h:nld x y)(hr:bu bl M w v x):bu bl M w v y:=by
 rcases h with h|⟨l,m,rfl,rfl,h⟩
 .cases h with
  | rfl=>exact hr
  | nl st=>exact IRel.nd (.nl st) (show IRel M w v .nl from hr)
  | sl st rows rows' h1 h2 h3=>exact IRel.nd (.sl st rows rows' h1 h2 h3) (show IRel M w v (.sl st rows) from hr)
 .obtain⟨cs,h1,h2⟩:=hr;refine⟨cs,h1,?_⟩;clear h1
  induction cs generalizing l m with
  | nil=>match l,m,h,h2 with | [],[],_,_=>trivial
  | cons c cs ih=>match l,m,h,h2 with|a::l,b::m,h,h2=>exact⟨cG.nd h.1 h2.1,ih l m h.2 h2.2⟩
def Ke{bl:Nat->Option Nat}{M:Nat->Prop}{w:World}:∀{vs:List Value}{l m:List AV},bg nld l m->bg (bu bl M w) vs l->bg (bu bl M w) vs m
 | [],[],[],_,_=>trivial
 | v::vs,x::l,y::m,h,hr=>⟨XO h.1 hr.1,Ke h.2 hr.2⟩
 | [],[],_::_,h,_=>h.elim
 | [],_::_,_,_,hr=>hr.elim
 | _::_,[],_,_,hr=>hr.elim
 | _::_,_::_,[],h,_=>h.elim
def xD{P:Program}[bO P]{f:FuncId}{xs ys:List AV}{r:AV}(hp:ac P f ys r)(h:bg nld xs ys):ac P f xs r :=
 λbl MF w cargs h1 h2 h3 h4 h5=>hp bl MF w cargs h1 h2 h3 h4 (Ke h h5)
def Gc(n:Nat):bR->bR
 | .draw ops al dr=>match ops with
  | ⟨⟨some d,op,g⟩,b⟩::r=>if d=n then .free (⟨⟨some d,op,g⟩,b⟩::r) al dr else .draw (⟨⟨some d,op,g⟩,b⟩::r) al dr
  | ops=>.draw ops al dr
 | .seq x y=>.seq (Gc n x) (Gc n y)
 | .cond c x y=>.cond c (Gc n x) (Gc n y)
 | .block id x=>.block id (Gc n x)
 | .loop x=>.loop (Gc n x)
 | x=>x
def aiH(b:List Nat)(R:List (Nat×aR)):Bool:=R.all λq=>!b.contains q.1
def agx(R:List (Nat×aR)):List (Nat×aR)->List (Nat×aR)
 | []=>[]
 | t::L=>if aiH t.2.bef R=true then t::agx R L else agx R L
def ae7(i:Nat):List (Nat×aR)->List (Nat×aR)
 | []=>[]
 | t::L=>if t.1=i then ae7 i L else t::ae7 i L
section
variable{P:Program}[bO P]
def afc:Nat->List aR->List (Nat×aR)
 | _,[]=>[]
 | i,o::r=>(i,o)::afc (i+1) r
end
attribute[go_sem] List.contains_cons List.contains_nil aT aC
structure Bk(H:Type) where
 f:DataW H->Nat
 str:∀l:List UInt8,l.length<=f (.lit (.string l))
 sl:∀es sp,es.length<=f (.slice es sp)
 sle:∀es sp d,d∈es->f d<=f (.slice es sp)
 ag:∀ps d,d∈ps->f d<=f (.agg ps)
def Ty.bd(B:Nat):Ty->List AV->Prop
 | .str,xs=>∀s,xs=[.str s]->s.length<=B
 | .sl e,xs=>∀st rows,xs=[.sl st rows]->rows.length<=B/\∀r∈rows,e.bd B r
 | .cons f r,xs=>f.bd B (xs.take f.n)/\r.bd B (xs.drop f.n)
 | _,_=>True
def Ty.bdV(B:Nat)(τ:Ty)(x:AV):Prop:=match τ.isRec with
 | true=>∀xs,x = .agg xs->τ.bd B xs
 | false=>τ.bd B [x]
section
variable{H:Type}{enc:TypeId×Value->H}{P:Program}{w:World}{base:Nat}{sp:Nat->Bool}{held:Bool}
end
section
variable{H:Type}{enc:TypeId×Value->H}{P:Program}[bO P]{w:World}{base:Nat}{sp:Nat->Bool}{held:Bool}
end
section
variable{H:Type}{enc:TypeId×Value->H}{P:Program}[bO P]{w:World}
end
def UH(ρ:Nat->Nat):List (Nat×AV)->List (Nat×AV)
 | []=>[]
 | (k,x)::r=>(k,m8 ρ x)::UH ρ r
def JA(ρ:Nat->Nat)(k:Nat):∀e:List (Nat×AV),get (UH ρ e) k=m8 ρ (get e k)
 | []=>rfl
 | (j,x)::r=>by
  simp only[UH,get];split
  .rfl
  .exact JA ρ k r
def Wk.ren(s:St)(ps:List (Nat×Nat))(h:∀id,1000<=id->id<2000->bw ps id=id):Wk s ⟨UH (fw ps) s.env,iO (fw ps) s.heap⟩:=by
 rintro c a w ⟨bl,hs⟩;have hb:∀i,(λi=>bl (bw ps i)) (fw ps i)=bl i:=λi=>by simp only[uM]
 have hm:∀b,bK (λi=>bl (bw ps i)) c.MF (ak (iO (fw ps) s.heap)) b->bK bl c.MF (ak s.heap) b:=λb hm=>D0 (uM ps) (Ge ps) hb b hm;refine⟨λi=>bl (bw ps i),hs.defers,hs.size,λk=>?_,D1 (uM ps) (Ge ps) hs.heap hb hm,hs.step,λid o b hi hq=>?_,λid h1 h2=>?_,hs.mf⟩
 .show bu _ _ _ _ (get (UH (fw ps) s.env) k);rw[JA];exact D3 (hs.env k) hb hm
 .rw[kS (uM ps) (Ge ps)]at hi;simp only[dV]at hi;obtain⟨o0,h5,_⟩:=hi;exact hs.own _ o0 b h5 hq
 .show bl (bw ps id)=_;rw[h id h1 h2];exact hs.stab id h1 h2
def Zc(P:Program):Nat->TypeId->Bool
 | 0,_=>true
 | f+1,t=>match P.underlying t with
  | some (.slice e)=>decide (0<P.bytesOf e)&&Zc P f e
  | some (.struct fs)=>fs.toList.all λx=>Zc P f x.type
  | _=>true
def K3{H:Type}{P:Program}{e:TypeId}{d:DataW H}{n:Nat}:∀{l:List (DataW H)},d∈l->n∈DataW.weights P e d->n∈DataW.weightsAll P e l
 | x::l,h,hn=>by
  rw[DataW.weightsAll,f9];rcases eA.1 h with rfl|h
  .exact .inl hn
  .exact .inr (K3 h hn)
def GM{H:Type}{P:Program}:∀(ts us:List TypeId)(ds gs:List (DataW H)){n:Nat},n∈DataW.weightsEach P ts ds->n∈DataW.weightsEach P (ts++us) (ds++gs)
 | [],us,ds,gs,n,h=>by cases ds<;>simp[DataW.weightsEach]at h
 | t::ts,us,[],gs,n,h=>by simp[DataW.weightsEach]at h
 | t::ts,us,d::ds,gs,n,h=>by
  simp only[k7,DataW.weightsEach,f9]at h⊢;exact h.imp_right λh=>GM ts us ds gs h
def Vi{H:Type}{P:Program}{ts us:List TypeId}{ds gs:List (DataW H)}{B:Nat}(h:(DataW.weightsEach P (ts++us) (ds++gs)).all (·<=B)=true):∀n∈DataW.weightsEach P ts ds,n<=B:=λn hn=>of_decide_eq_true (fz.1 h n (GM ts us ds gs hn))
section
variable{H:Type}{enc:TypeId×Value->H}{P:Program}{w:World}{base:Nat}{sp:Nat->Bool}{held:Bool}
def Jv{B:Nat}{g:TypeId->Option Ty}{h:TypeId->Bool}{r:TypeId->List Value->Option (DataW H×List MemPlace)}
  (ih:∀t cs τ x xs,g t=some τ->h t=true->r t cs=some x->τ.ok xs->bg (IRel (λ_=>False) w) cs xs->(∀n∈DataW.weights P t x.1,n<=B)->τ.bd B xs) (cs:List Value) :
  ∀(fs:List Field)(off:Nat)(τ:Ty)(xs:List (DataW H×List MemPlace))(ys:List AV),Ej g P off fs=some τ->(fs.all λx=>h x.type)=true->(fs.mapM λf=>r f.type ((cs.drop f.offset).take (P.cellsOf f.type)))=some xs ->
   τ.ok ys->bg (IRel (λ_=>False) w) (cs.drop off) ys->(∀n∈DataW.weightsEach P (fs.map (·.type)) (xs.map (·.1)),n<=B)->τ.bd B ys
 | [],off,τ,xs,ys,ht,_,_,_,_,_=>by
  simp only[Ej,de]at ht;subst ht;trivial
 | f::fs,off,τ,xs,ys,ht,hw,hm,hok,hr,hB=>by
  rw[xA,cE]at hw;simp only[Ej]at ht;split at ht
  case isFalse=>cases ht
  rename_i hoff;split at ht
  case h_2=>cases ht
  rename_i a b ha hb;split at ht
  case isFalse=>cases ht
  rename_i hsz;cases ht;simp only[List.mapM_cons,bind,vC,pure,de]at hm;obtain⟨y,h1,zs,h2,rfl⟩:=hm;simp only[eR,DataW.weightsEach,f9]at hB;obtain⟨y1,y2,rfl,o1,o2⟩:=hok;have hl:=Ty.ok_len a y1 o1;have r1:=hr.take a.n;have r2:=hr.drop a.n;rw[List.take_left' hl]at r1;rw[List.drop_left' hl,Ev]at r2;refine⟨?_,?_⟩
  .rw[List.take_left' hl];rw[hoff]at h1;rw[hsz]at r1;exact ih _ _ _ _ _ ha hw.1 h1 o1 r1 λn hn=>hB n (.inl hn)
  .rw[List.drop_left' hl];rw[hsz]at r2;exact Jv ih cs fs (off+P.cellsOf f.type) b zs y2 hb hw.2 h2 o2 r2 λn hn=>hB n (.inr hn)
def adz{B:Nat}:∀(fuel f:Nat)(t:TypeId)(cs:List Value)(τ:Ty)(x:DataW H×List MemPlace)(xs:List AV),wC P f t=some τ->Zc P f t=true->DataW.trod enc P w base sp held fuel t cs=some x->τ.ok xs ->
  bg (IRel (λ_=>False) w) cs xs->(∀n∈DataW.weights P t x.1,n<=B)->τ.bd B xs:=by
 intro fuel
 induction fuel with
 | zero=>intro f t cs τ x xs _ _ h;simp[DataW.trod]at h
 | succ fuel ih =>
  intro f t cs τ x xs ht hw h hok hr hB;cases f with
  | zero=>simp[wC]at ht
  | succ f =>
   simp only[wC]at ht;split at ht
   case h_1 hu=>cases ht;trivial
   case h_2 k' hu=>cases ht;trivial
   case h_3 hu =>
    cases ht;unfold DataW.trod at h;split at h<;>rename_i heq<;>first|(rw[hu]at heq;cases heq;done)|(cases h;done)|skip
    rename_i s;split at h
    .cases h;intro s' hs;subst hs;have h1:=hr.1;cases h1;exact hB _ (by simp[DataW.weights])
    .cases h
   case h_4 e hu =>
    simp only[Zc,hu,cE,eQ]at hw;split at ht
    case h_2=>cases ht
    rename_i a ha;split at ht
    case isFalse=>cases ht
    rename_i hsz;cases ht;unfold DataW.trod at h;split at h<;>rename_i heq<;>first|(rw[hu]at heq;cases heq;done)|(cases h;done)|skip
    .intro st rows hs;subst hs;have h1:=hr.1;cases h1;exact⟨cQ _,λr hr=>by cases hr⟩
    .rename_i e1 ad len cap;rw[hu]at heq;cases heq;simp only at h;split at h
     case isFalse=>cases h
     rename_i hcap;simp only[vC,dV]at h;obtain⟨elems,hel,rest,_,rfl⟩:=h;obtain⟨hlen,ak⟩:=xO hel;intro st rows hs;subst hs;have h1:=hr.1;simp only[DataW.weights,hu,eA,f9]at hB;have hall:∀y∈elems,∀n∈DataW.weights P e y.1,n<=B:=λy hy n hn=>hB n (.inr (.inl (K3 (iD.2 ⟨y,hy,rfl⟩) hn)));have hln:elems.length<=B:=by
      have h2:=hB _ (.inl rfl);have h3:=hw.1;rw[cU]at h2;exact jq (jq (Nat.le_add_right _ _) (Nat.le_mul_of_pos_right _ h3)) h2
     have hrok:∀r∈rows,a.ok r:=by
      rcases hok with hok|⟨rows',hok,_,h3⟩
      .cases hok
      .cases hok;exact h3
     have hst:st=a.n\/rows=[]:=by
      rcases hok with hok|⟨rows',hok,_,_⟩
      .cases hok
      .cases hok;exact .inl rfl
     cases h1 with
     | sl0=>exact⟨cQ _,λr hr=>by cases hr⟩
     | sl bk of _ _ c tt fr _ vs hb hM hl hrl hv hx =>
      refine⟨by omega,λr hrm=>?_⟩;obtain⟨i,hi,hri⟩:=List.getElem_of_mem hrm;have hri':rows[i]?=some r:=by rw[m_ hi,hri]
      obtain⟨y,g1,g2⟩:=ak i (by omega);simp only[vC]at g2;obtain⟨row,g3,g4⟩:=g2;have hym:y∈elems:=vD g1;refine ih f e row a y r ha hw.2 g4 (hrok r hrm) ?_ (hall y hym);have hst':st=a.n:=hst.resolve_right (λh=>by rw[h]at hi;simp at hi);obtain⟨q1,q2⟩:=FK g3;have hblk:∀(q:Addr) m,(q.add m).block=q.block:=λq m=>by unfold Addr.add;split<;>rfl
      have hoff:∀(q:Addr) m,(q.add m).off=q.off+m:=λq m=>by
       unfold Addr.add;split
       .rename_i hm;simp[hm]
       .rfl
      refine bg.of_get (by rw[q1,Ty.ok_len a r (hrok r hrm),hsz.1]) (λj v x hv' hx'=>?_);have hj:j<P.cellsOf e:=by
       have:=(jp.1 hv').1;omega
      obtain⟨v',p1,p2⟩:=q2 j hj;rw[hv']at p1;cases p1;obtain⟨_,c',t',fr',p3,p4⟩:=CA p2;rw[hblk,hblk]at p3;simp only at p3;rw[hb]at p3;cases p3;rw[hoff,hoff]at p4;simp only at p4;have:=hv i j hi (by rw[hst',hsz.1];exact hj);rw[hst',hsz.1,p4]at this;cases this;exact hx i j r x hri' hx'
   case h_5 fs hu =>
    simp only[Zc,hu]at hw;split at ht
    case h_2=>cases ht
    rename_i a ha;split at ht
    case isFalse=>cases ht
    rename_i hsz;cases ht;unfold DataW.trod at h;split at h<;>rename_i heq<;>first|(rw[hu]at heq;cases heq;done)|(cases h;done)|skip
    .rename_i cs1 fs1;rw[hu]at heq;cases heq;split at h
     case isFalse=>cases h
     rename_i hcl;simp only[dV]at h;obtain⟨ys,h1,rfl⟩:=h;refine Jv (P:=P) (g:=wC P f) (h:=Zc P f) (r:=λt cs=>DataW.trod enc P w base sp held fuel t cs) (λt cs τ x xs=>ih f t cs τ x xs) _ _ 0 _ ys xs ha hw h1 hok (by simpa using hr) λn hn=>hB n ?_;simpa only[DataW.weights,hu]using hn
   case h_6=>cases ht
end
section
variable{H:Type}{enc:TypeId×Value->H}{P:Program}[bO P]{w:World}{base:Nat}{sp:Nat->Bool}{held:Bool}
def Wc{B:Nat}{f:Nat}{t:TypeId}{τ:Ty}{r:Reach}{b:Nat}{v:Value}{d:DataW H}{p:List MemPlace}(ht:wC P f t=some τ)(hw:Zc P f t=true)(hv:Value.okWide P w r b t v)(h:DataW.Trod enc P w base sp held t v d p)(hB:∀n∈DataW.weights P t d,n<=B) :
  ∃x,τ.okV x/\τ.bdV B x/\bu (λ_=>none) (λ_=>False) w v x:=by
 obtain⟨fuel,h⟩:=h;obtain⟨xs,h1,h2⟩:=Y9 fuel f t _ _ _ ht h;have hb:=adz fuel f t _ _ _ xs ht hw h h1 h2 hB;have one:τ.isRec=false->v.cells.toList=[v]->∃x,τ.okV x/\τ.bdV B x/\bu (λ_=>none) (λ_=>False) w v x:=λhr hc=>by
  rw[hc]at h2
  match xs,h2 with
  | [x],h2=>exact⟨x,by unfold Ty.okV;rw[hr];exact h1,by unfold Ty.bdV;rw[hr];exact hb,h2.1.toV⟩
 cases f with
 | zero=>simp[wC]at ht
 | succ f =>
  simp only[wC]at ht;unfold Value.okWide at hv;split at ht
  .rename_i hu;rw[hu]at hv;cases ht
   exact one rfl (by
    unfold Cell.okWide at hv;rw[hu]at hv;simp only[Cell.ok,hu]at hv;cases v<;>first|rfl|exact hv.elim)
  .rename_i k hu;rw[hu]at hv;cases ht
   exact one rfl (by
    unfold Cell.okWide at hv;rw[hu]at hv;simp only[Cell.ok,hu]at hv;cases v<;>first|rfl|exact hv.elim)
  .rename_i hu;rw[hu]at hv;cases ht
   exact one rfl (by
    unfold Cell.okWide at hv;rw[hu]at hv;simp only[Cell.ok,hu]at hv;cases v<;>first|rfl|exact hv.elim)
  .rename_i e hu;rw[hu]at hv;have hr:τ.isRec=false:=by
    split at ht
    case h_2=>cases ht
    split at ht
    case isFalse=>cases ht
    cases ht;rfl
   exact one hr (by
    unfold Cell.okWide at hv;rw[hu]at hv;simp only[Cell.ok,hu]at hv;cases v<;>first|rfl|exact hv.elim)
  .rename_i fs hu;rw[hu]at hv;have hr:τ.isRec=true:=by
    split at ht
    case h_2=>cases ht
    rename_i hfs;split at ht
    case isFalse=>cases ht
    cases ht;exact MZ hfs
   obtain⟨cs,rfl,_,_⟩:=hv;refine⟨.agg xs,by unfold Ty.okV;rw[hr];exact⟨xs,rfl,h1⟩,by unfold Ty.bdV;rw[hr];intro ys hy;cases hy;exact hb,cs.toList,by simp,?_⟩;exact bg.mono h2 λa x _ h=>h.toC
  .cases ht
def Je{B:Nat}{r:Reach}{b:Nat}:∀{ts:List TypeId}{τs:List Ty}{vs:List Value}{ds:List (DataW H)}{ps:List MemPlace},bg (λt τ=>wC P 9 t=some τ/\Zc P 9 t=true) ts τs ->
  DataW.TrodAll enc P w base sp held ts vs ds ps->(∀(j:Nat) t v,ts[j]?=some t->vs[j]?=some v->Value.okWide P w r b t v)->(∀n∈DataW.weightsEach P ts ds,n<=B)->∃xs,bg Ty.okV τs xs/\bg (Ty.bdV B) τs xs/\bg (bu (λ_=>none) (λ_=>False) w) vs xs
 | [],[],[],ds,ps,_,h,_,_=>⟨[],trivial,trivial,trivial⟩
 | t::ts,τ::τs,v::vs,d::ds,ps,ht,h,hv,hB=>by
  obtain⟨p,q,h3,h4,rfl⟩:=h;simp only[DataW.weightsEach,f9]at hB;obtain⟨x,h5,h5b,h6⟩:=Wc ht.1.1 ht.1.2 (hv 0 t v rfl rfl) h3 λn hn=>hB n (.inl hn);obtain⟨xs,h7,h7b,h8⟩:=Je ht.2 h4 (λj t v h1 h2=>hv (j+1) t v (by simpa using h1) (by simpa using h2)) λn hn=>hB n (.inr hn);exact⟨x::xs,⟨h5,h7⟩,⟨h5b,h7b⟩,h6,h8⟩
 | [],[],_::_,_,_,_,h,_,_=>h.elim
 | _::_,[],_,_,_,ht,_,_,_=>ht.elim
 | [],_::_,_,_,_,ht,_,_,_=>ht.elim
 | _::_,_::_,[],_,_,_,h,_,_=>h.elim
 | _::_,_::_,_::_,[],_,_,h,_,_=>h.elim
end
section
variable{H:Type}{enc:TypeId×Value->H}{P:Program}[bO P]{w:World}
def ER{B:Nat}{fid:FuncId}{f:Func}{s:ChangeSpec}(τs:List Ty){tb:TypeId}{apart fresh handsOn again:Bool}(hty:bg (λt τ=>wC P 9 t=some τ/\Zc P 9 t=true) f.params.toList τs)(hl:laidOutB P=true)
  (hr:∀t∈f.params.toList,P.readableRec t=true/\t<P.types.size) (hvs:s.vars=[])
  (hfn:∀ds:List (DataW H),ds.length=τs.length->(s.fn H ds).results=[.lit (.bool true)]/\(s.fn H ds).args=ds/\(s.fn H ds).vars=[])
  (hrt:f.resultTypes = #[tb]) (htb:P.underlying tb=some .bool)
  (hp:∀xs,bg Ty.okV τs xs->bg (Ty.bdV B) τs xs->ac P fid xs (.bool true))
  (W:World) (b:Nat) (args:Array Value) (ds gs:List (DataW H)) (before:List MemPlace) {r:Reach} (hT:(bO.T P).H W)
  (hval:∀(j:Nat) t v,f.params[j]?=some t->args[j]?=some v->Value.okWide P W r b t v)
  (hW:DataW.Whole enc P f.params.toList s.vars apart W args.toList ds gs before) (hB:∀n∈DataW.weightsEach P f.params.toList ds,n<=B) :
  Calls P fid args W λe W'=>∃v,e = .returned v/\s.post enc P f apart fresh handsOn again W args v W':=by
 have hW':=hW;obtain⟨p,q,hA,hV,_,_,_⟩:=hW;rw[hvs]at hV;obtain⟨rfl,rfl⟩:=trodVars_none hV;obtain⟨xs,h1,h1b,h2⟩:=Je hty hA (λj t v h1 h2=>hval j t v (by simpa using h1) (by simpa using h2)) hB;have h4:=hp xs h1 h1b;have hlen:ds.length=τs.length:=by
  have key:∀{ts:List TypeId}{vs:List Value}{ds:List (DataW H)}{ps:List MemPlace},DataW.TrodAll enc P W 0 (λ_=>true) true ts vs ds ps->ds.length=ts.length:=by
   intro ts
   induction ts with
   | nil=>intro vs ds ps h;match vs,ds,h with | [],[],_=>rfl
   | cons t ts ih=>intro vs ds ps h;match vs,ds,h with|v::vs,d::ds,⟨_,_,_,h4,_⟩=>simp[ih h4]
  rw[key hA,hty.length]
 obtain⟨g1,g2,g3⟩:=hfn ds hlen;have:=Ky h4 hT h2;rw[show args.toList.toArray=args from by simp]at this;refine this.mono λe W' ⟨he,hk⟩=>⟨_,he,?_⟩
 exact Tc hl hr hvs (by simpa using g1) (by simpa using g2) (by simpa using g3) hrt htb hW' hk
end
def ko(n:Nat):bR->bR
 | .draw ops al dr=>match ops with
  | ⟨⟨some d,op,g⟩,b⟩::r=>if d=n then .wild (⟨⟨some d,op,g⟩,b⟩::r) al dr else .draw (⟨⟨some d,op,g⟩,b⟩::r) al dr
  | ops=>.draw ops al dr
 | .seq x y=>.seq (ko n x) (ko n y)
 | .cond c x y=>.cond c (ko n x) (ko n y)
 | .block id x=>.block id (ko n x)
 | .loop x=>.loop (ko n x)
 | x=>x
def M3(n d:Nat)(op:nR)(g:Option (Nat×Bool))(b:List Nat)(r:List aR)(al:List (Nat×Nat))(dr:List Nat) :
  ko n (.draw (⟨⟨some d,op,g⟩,b⟩::r) al dr)=if d=n then .wild (⟨⟨some d,op,g⟩,b⟩::r) al dr else .draw (⟨⟨some d,op,g⟩,b⟩::r) al dr:=cj rfl
def Qu(n:Nat)(x y:bR):ko n (.seq x y) = .seq (ko n x) (ko n y):=cj rfl
def M2(n:Nat)(c:IV)(x y:bR):ko n (.cond c x y) = .cond c (ko n x) (ko n y):=cj rfl
def K4(n id:Nat)(x:bR):ko n (.block id x) = .block id (ko n x):=cj rfl
def M4(n:Nat):ko n .skip = .skip:=cj rfl
def Qt(n:Nat):ko n .ret = .ret:=cj rfl
def Qs(n:Nat)(ops:List bF)(dr:List Nat):ko n (.reg ops dr) = .reg ops dr:=cj rfl
def Gi:List aR->List aR
 | []=>[]
 | [_]=>[]
 | o::p::r=>o::Gi (p::r)
def C1:List aR->Option aR
 | []=>none
 | [o]=>some o
 | _::p::r=>C1 (p::r)
def Px(o:aR):Gi [o]=[]:=cj rfl
def CX(o p:aR)(r:List aR):Gi (o::p::r)=o::Gi (p::r):=cj rfl
def PJ(o:aR):C1 [o]=some o:=cj rfl
def C2(o p:aR)(r:List aR):C1 (o::p::r)=C1 (p::r):=cj rfl
def NJ:∀l,Gi l=l.dropLast
 | []=>rfl
 | [_]=>rfl
 | o::p::r=>by rw[CX,NJ (p::r)];rfl
def NR:∀l,C1 l=l.getLast?
 | []=>rfl
 | [_]=>rfl
 | o::p::r=>by rw[C2,NR (p::r),List.getLast?_cons_cons]
section
variable{P:Program}[bO P]
def ZF(al:List (Nat×Nat))(n:Nat)(o:Option aR)(dr:List Nat)(K:IX->St->Prop)(hist:List HI)(s:St):Prop :=
 match o with
 | some o=>K5 al (n-1) o hist s λs'=>K .nrm ⟨dels dr s'.env,s'.heap⟩
 | none=>False
def S9(P:Program)[bO P](al:List (Nat×Nat))(i:Nat)(r:List aR)(K:List HI->St->Prop)(hist:List HI)(s:St):Prop:=fk P al i r hist s K
def S_(al:List (Nat×Nat))(i:Nat)(r:List aR)(K:List HI->St->Prop)(hist:List HI)(s:St):S9 P al i r K hist s=fk P al i r hist s K:=cj rfl
def LU(al:List (Nat×Nat))(i:Nat)(hist:List HI)(s:St)(K:List HI->St->Prop):fk P al i [] hist s K=K hist s:=cj rfl
def JE(al:List (Nat×Nat))(i:Nat)(d:Option Nat)(op:nR)(bf:List Nat)(r:List aR)(hist:List HI)(s:St)(K:List HI->St->Prop) :
  fk P al i (⟨⟨d,op,none⟩,bf⟩::r) hist s K=i5 P al i ⟨⟨d,op,none⟩,bf⟩ hist s (S9 P al (i+1) r K):=cj rfl
def S5(ops:List aR)(al:List (Nat×Nat))(dr:List Nat)(s:St)(K:IX->St->Prop):jD P (.wild ops al dr) s K=fk P al 0 (Gi ops) [] (kills (al.map (·.1)) s) (ZF al ops.length (C1 ops) dr K):=by
 rw[NJ,NR];rfl
def PI{al:List (Nat×Nat)}{n d:Nat}{t:TypeId}{st:Nat}{x y:IV}{bf:List Nat}{dr:List Nat}{K:IX->St->Prop}{hist:List HI}{s:St}(v:AV)(e:bE)
  (h:cg d (.app t st x y) (val (get s.env)) (ak s.heap)=some (v,e)) (h1:((aA (.app t st x y)).all λk=>!A7 (get s.env k))=true) (h2:e.isReb=true) (h3:(hist.all λz=>bf.contains z.i||M5 e.tch z)=true)
  (h4:Be al bf ⟨n-1,cO (.app t st x y) s.env,aO v++e.ids,e.tch,true,true⟩=true) (h5:Xm dr K ((s.eff e).put (some d) v)):ZF al n (some ⟨⟨some d,.app t st x y,none⟩,bf⟩) dr K hist s:=by
 refine⟨rfl,?_⟩;simp only[IT];rw[h];exact⟨h1,h2,h3,h4,h5⟩
end
attribute[go_sem] M3 Qu M2 K4 M4 Qt Qs Px CX PJ C2 LU JE S_ S5
def NS{n:Nat}{c:List AV}(h:c.length=n):yD (some n) c=some (.agg c):=by
 show(if n<=c.length then some (AV.agg (c.take n))else none)=_;rw[aF (by omega),dQ (by omega)]
def OA{k n:Nat}{t:TypeId}{z c:List AV}(hz:z.length=n)(h:c.length=n):I6 k n n 0 0 (some ⟨t,n,[z],true⟩) (some c)=some (.put k ⟨t,n,[c],true⟩):=by
 unfold I6;simp only[true_and,iT,and_true];rw[aF h];show(if 0+n<=z.length then some (bE.put k ⟨t,n,[z].set 0 (iQ z 0 c),true⟩)else none)=_;rw[aF (by omega)];unfold iQ;rw[mA,fA,AJ,M9 (by omega),gh];rfl
def aeu(n:Nat)(c:List AV):Prop:=c.length=n/\(∀i,c.any (mC i)=false)/\aO (.agg c)=[]
