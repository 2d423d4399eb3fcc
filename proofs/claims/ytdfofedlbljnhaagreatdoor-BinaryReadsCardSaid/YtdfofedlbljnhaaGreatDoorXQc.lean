import Derived.Test.YtdfofedlbljnhaaGreatDoorXQb
import Derived.ProofKit
import Derived.OpenShut
import Derived.JoinedCond
import Derived.RangeFuncFrom
import Derived.RangeFuncLeaves
import Derived.RangeFuncCalls
set_option linter.all false
namespace Go.Mw
def ac{α:Type}[Inhabited α](l:List α)(i:Nat):α:=l[i]!
def bv{α:Type}[Inhabited α]{l:List α}{i:Nat}(h:i<l.length):ac l i=l[i]:=getElem!_pos l i h
def pf{α:Type}[Inhabited α]{l:List α}{i:Nat}(h:i<l.length):l[i]?=some (ac l i):=by rw[bv h];exact kZ h
def HF{α:Type}[Inhabited α]{l:List α}{i:Nat}{x:α}(h:i<l.length):ac (l.set i x) i=x:=by rw[bv (by simpa using h)];simp
def F1{α:Type}[Inhabited α]{l m:List α}{i:Nat}(h:i<l.length):ac (l++m) i=ac l i:=by
 rw[bv h,bv (by simp;omega),List.getElem_append_left h]
def Bn{α:Type}[Inhabited α]{l m:List α}{x:α}:ac (l++x::m) l.length=x:=by
 simp[ac]
def HE{α β:Type}[Inhabited α][Inhabited β]{l:List α}{f:α->β}{i:Nat}(h:i<l.length):ac (l.map f) i=f (ac l i):=by
 rw[bv h,bv (by simpa using h),List.getElem_map]
def JM{α:Type}[Inhabited α]{l:List α}{i k:Nat}(h:i<k):ac (l.take k) i=ac l i:=by
 unfold ac;rw[N4,N4,List.getElem?_take_of_lt h]
def TI{α:Type}[Inhabited α]{l:List α}{i k:Nat}:ac (l.drop k) i=ac l (k+i):=by
 unfold ac;rw[N4,N4,Fe]
def JL{α:Type}[Inhabited α](x:α)(l:List α)(i:Nat):ac (x::l) (i+1)=ac l i:=rfl
section
variable{P:Program}[bJ P]
def Xn(P:Program)[bJ P](y:bI)(K:IX->St->Prop)(e:IX)(s:St):Prop :=
 match e with
 | .nrm=>jL P y s K
 | e=>K e s
def ajQ(P:Program)[bJ P](y:bI)(K:IX->St->Prop)(e:IX)(s:St):Prop :=
 match e with
 | .nrm=>∃s',Wk s s'/\jL P y s' K
 | e=>K e s
def Xh(id:Nat)(K:IX->St->Prop)(e:IX)(s:St):Prop :=
 match e with
 | .ext j=>if j=id then K .nrm s else K (.ext j) s
 | e=>K e s
def Xm(dr:List Nat)(K:IX->St->Prop)(s:St):Prop:=K .nrm ⟨dels dr s.env,s.heap⟩
def Xl(P:Program)[bJ P](r:List bC)(K:St->Prop)(s:St):Prop:=j6 P r s K
def M4(P:Program)[bJ P](al:List (Nat×Nat))(i:Nat)(r:List aR)(K:St->Prop)(hist:List HI)(s:St):Prop:=nC P al i r hist s K
def O7(K:St->Prop)(s:St)(d:Option Nat)(v:AV)(e:bz):Prop:=K ((s.eff e).put d v)
def SS(al:List (Nat×Nat))(i:Nat)(bf:List Nat)(op:oC)(hist:List HI)(K:List HI->St->Prop)(s:St)(d:Option Nat)(v:AV)(e:bz):Prop :=
 eR op s e=true/\jm bf ⟨i,cL op s.env,aM v++e.ids,e.tch,e.isReb,e.isPut⟩ hist=true/\Bj al bf ⟨i,cL op s.env,aM v++e.ids,e.tch,e.isReb,e.isPut⟩=true /\
  K (⟨i,cL op s.env,aM v++e.ids,e.tch,e.isReb,e.isPut⟩::hist) ((s.eff e).put d v)
def dz(K:AV->bz->Prop)(x:Option (AV×bz)):Prop :=
 match x with
 | some (v,e)=>K v e
 | none=>False
def Vc(A:Prop)(K:AV->bz->Prop)(x:Option (AV×bz)):Prop :=
 match x with
 | some (v,e)=>K v e
 | none=>A
def VD(x:AV)(a b:Prop):Prop :=
 match x with
 | .bool t=>(t=true->a)/\(t=false->b)
 | _=>False
def K9(x:AV)(a b c:Prop):Prop :=
 match x with
 | .bool t=>(t=true->a)/\(t=false->b)
 | .tup []=>c
 | _=>False
def abF(y:bI)(K:IX->St->Prop)(s:St):Xn P y K .nrm s=jL P y s K:=bX rfl
def abG(y:bI)(K:IX->St->Prop)(s:St):Xn P y K .ret s=K .ret s:=bX rfl
def abH(y:bI)(K:IX->St->Prop)(j:Nat)(s:St):Xn P y K (.ext j) s=K (.ext j) s:=bX rfl
def abx(id:Nat)(K:IX->St->Prop)(s:St):Xh id K .nrm s=K .nrm s:=bX rfl
def aby(id:Nat)(K:IX->St->Prop)(s:St):Xh id K .ret s=K .ret s:=bX rfl
def abz(id j:Nat)(K:IX->St->Prop)(s:St):Xh id K (.ext j) s=if j=id then K .nrm s else K (.ext j) s:=bX rfl
def abE(dr:List Nat)(K:IX->St->Prop)(s:St):Xm dr K s=K .nrm ⟨dels dr s.env,s.heap⟩:=bX rfl
def abD(r:List bC)(K:St->Prop)(s:St):Xl P r K s=j6 P r s K:=bX rfl
def Xi(al:List (Nat×Nat))(i:Nat)(r:List aR)(K:St->Prop)(hist:List HI)(s:St):M4 P al i r K hist s=nC P al i r hist s K:=bX rfl
def afd(K:St->Prop)(s:St)(d:Option Nat)(v:AV)(e:bz):O7 K s d v e=K ((s.eff e).put d v):=bX rfl
def abA(al:List (Nat×Nat))(i:Nat)(bf:List Nat)(op:oC)(hist:List HI)(K:List HI->St->Prop)(s:St)(d:Option Nat)(v:AV)(e:bz):SS al i bf op hist K s d v e =
 (eR op s e=true/\jm bf ⟨i,cL op s.env,aM v++e.ids,e.tch,e.isReb,e.isPut⟩ hist=true/\Bj al bf ⟨i,cL op s.env,aM v++e.ids,e.tch,e.isReb,e.isPut⟩=true /\
  K (⟨i,cL op s.env,aM v++e.ids,e.tch,e.isReb,e.isPut⟩::hist) ((s.eff e).put d v)):=rfl
def Mb(K:AV->bz->Prop)(v:AV)(e:bz):dz K (some (v,e))=K v e:=bX rfl
def Me(A:Prop)(K:AV->bz->Prop)(v:AV)(e:bz):Vc A K (some (v,e))=K v e:=bX rfl
def Mc(A:Prop)(K:AV->bz->Prop):Vc A K none=A:=bX rfl
def PV(K:AV->bz->Prop)(c:Prop)[Decidable c](x:Option (AV×bz)):dz K (if c then x else none)=(c/\dz K x):=by
 by_cases h:c<;>simp[h,dz]
def Ma(K:AV->bz->Prop)(c:Prop)[Decidable c](x:Option (AV×bz)):dz K (if c then none else x)=(¬c/\dz K x):=by
 by_cases h:c<;>simp[h,dz]
def af_(v:AV):res (some v)=some (v,.no):=rfl
def acX(c:Prop)[Decidable c](x:Option AV):res (if c then x else none)=if c then res x else none:=by split<;>rfl
def YP(c:Prop)[Decidable c](x:Option AV):res (if c then none else x)=if c then none else res x:=by split<;>rfl
def Vi(t:Bool)(a b:Prop):VD (.bool t) a b=((t=true->a)/\(t=false->b)):=bX rfl
@[congr] theorem ad7{x x':AV}{a b:Prop}(h:x=x'):VD x a b=VD x' a b:=by rw[h]
def aae(a b:Prop):VD (.bool true) a b=a:=by simp[VD]
def R4(t:Bool)(a b c:Prop):K9 (.bool t) a b c=((t=true->a)/\(t=false->b)):=rfl
@[congr] theorem ad0{x x':AV}{a b c:Prop}(h:x=x'):K9 x a b c=K9 x' a b c:=by rw[h]
def abj(a b c:Prop):K9 (.bool true) a b c=a:=by simp[K9]
def abi(a b c:Prop):K9 (.bool false) a b c=b:=by simp[K9]
def abk(a b c:Prop):K9 (.tup []) a b c=c:=by simp[K9]
def ady(a b:Prop):VD (.bool true) a b=a:=aae a b
def aad(a b:Prop):VD (.bool false) a b=b:=by simp[VD]
def SN(s:St)(K:IX->St->Prop):jL P .skip s K=K .nrm s:=bX rfl
def Xd(s:St)(K:IX->St->Prop):jL P .ret s K=K .ret s:=bX rfl
def SM(id:Nat)(s:St)(K:IX->St->Prop):jL P (.exit id) s K=K (.ext id) s:=bX rfl
def Xe(x y:bI)(s:St)(K:IX->St->Prop):jL P (.seq x y) s K=jL P x s (Xn P y K):=bX rfl
def O5(id:Nat)(x:bI)(s:St)(K:IX->St->Prop):jL P (.block id x) s K=jL P x s (Xh id K):=bX rfl
def SK(v:IV)(t e:bI)(s:St)(K:IX->St->Prop):jL P (.cond v t e) s K=VD (val (get s.env) v) (jL P t (refine v true s) K) (jL P e (refine v false s) K):=bX rfl
def Xc(ops:List bC)(dr:List Nat)(s:St)(K:IX->St->Prop):jL P (.reg ops dr) s K=j6 P ops s (Xm dr K):=bX rfl
def ae_(P:Program)[bJ P](f:Nat)(R:List (Nat×aR))(K:St->Prop)(s:St):Prop:=FR P f R s K
def ajo(P:Program)[bJ P](f:Nat)(R:List (Nat×aR))(s:St)(K:St->Prop)(t:Nat×aR):Prop:=j6 P [t.2.o] s (ae_ P f (R.filter λq=>q.1 != t.1) K)
def SL(ops:List aR)(al:List (Nat×Nat))(dr:List Nat)(s:St)(K:IX->St->Prop):jL P (.draw ops al dr) s K=nC P al 0 ops [] (kills (al.map (·.1)) s) (Xm dr K):=bX rfl
def SH(s:St)(K:St->Prop):j6 P [] s K=K s:=bX rfl
def O4(d:Option Nat)(op:oC)(r:List bC)(s:St)(K:St->Prop):j6 P (⟨d,op,none⟩::r) s K=nX P ⟨d,op,none⟩ s (Xl P r K):=bX rfl
def GX(d:Option Nat)(op:oC)(k:Nat)(r:List bC)(s:St)(K:St->Prop):j6 P (⟨d,op,some (k,true)⟩::r) s K =
  K9 (get s.env k) (nX P ⟨d,op,none⟩ (s.put (some k) (.bool true)) (Xl P r K)) (j6 P r ((s.put (some k) (.bool false)).put d (.tup [])) K) (j6 P r (s.put d (.tup [])) K):=bX rfl
def GW(d:Option Nat)(op:oC)(k:Nat)(r:List bC)(s:St)(K:St->Prop):j6 P (⟨d,op,some (k,false)⟩::r) s K =
  K9 (get s.env k) (j6 P r ((s.put (some k) (.bool true)).put d (.tup [])) K) (nX P ⟨d,op,none⟩ (s.put (some k) (.bool false)) (Xl P r K)) (j6 P r (s.put d (.tup [])) K):=by
 simp only[j6,K9];generalize get s.env k=x;cases x with
 | bool t=>exact propext ⟨λh=>⟨h.2,h.1⟩,λh=>⟨h.2,h.1⟩⟩
 | tup l=>cases l<;>rfl
 | _=>rfl
def OX(al:List (Nat×Nat))(i:Nat)(hist:List HI)(s:St)(K:St->Prop):nC P al i [] hist s K=K s:=bX rfl
def Lf(al:List (Nat×Nat))(i:Nat)(d:Option Nat)(op:oC)(bf:List Nat)(r:List aR)(hist:List HI)(s:St)(K:St->Prop) :
  nC P al i (⟨⟨d,op,none⟩,bf⟩::r) hist s K=i_ P al i ⟨⟨d,op,none⟩,bf⟩ hist s (M4 P al (i+1) r K):=bX rfl
def EF(al:List (Nat×Nat))(i:Nat)(d:Option Nat)(op:oC)(k:Nat)(bf:List Nat)(r:List aR)(hist:List HI)(s:St)(K:St->Prop) :
  nC P al i (⟨⟨d,op,some (k,true)⟩,bf⟩::r) hist s K=K9 (get s.env k) (i_ P al i ⟨⟨d,op,none⟩,bf⟩ hist (s.put (some k) (.bool true)) (M4 P al (i+1) r K))
   (nC P al (i+1) r (⟨i,[],[],[],false,false⟩::hist) ((s.put (some k) (.bool false)).put d (.tup [])) K) (nC P al (i+1) r (⟨i,[],[],[],false,false⟩::hist) (s.put d (.tup [])) K):=bX rfl
def EE(al:List (Nat×Nat))(i:Nat)(d:Option Nat)(op:oC)(k:Nat)(bf:List Nat)(r:List aR)(hist:List HI)(s:St)(K:St->Prop) :
  nC P al i (⟨⟨d,op,some (k,false)⟩,bf⟩::r) hist s K=K9 (get s.env k) (nC P al (i+1) r (⟨i,[],[],[],false,false⟩::hist) ((s.put (some k) (.bool true)).put d (.tup [])) K)
   (i_ P al i ⟨⟨d,op,none⟩,bf⟩ hist (s.put (some k) (.bool false)) (M4 P al (i+1) r K)) (nC P al (i+1) r (⟨i,[],[],[],false,false⟩::hist) (s.put d (.tup [])) K):=by
 simp only[nC,e_,K9];generalize get s.env k=x;cases x with
 | bool t=>exact propext ⟨λh=>⟨h.2,h.1⟩,λh=>⟨h.2,h.1⟩⟩
 | tup l=>cases l<;>rfl
 | _=>rfl
def ZD(P:Program)[bJ P](f:AV)(args:List AV)(d:Option Nat)(s:St)(K:St->Prop):Prop :=
 match f with
 | .fn f caps=>if f<4000000 then bK P f=true/\cO P f (args++caps) d s K else bK P (f-4000000)=true/\cO P (f-4000000) (caps.take 1++args++caps.drop 1) d s K
 | _=>False
def RJ(f:FuncId)(caps args:List AV)(d:Option Nat)(s:St)(K:St->Prop):ZD P (.fn f caps) args d s K=if f<4000000 then bK P f=true/\cO P f (args++caps) d s K else bK P (f-4000000)=true/\cO P (f-4000000) (caps.take 1++args++caps.drop 1) d s K:=bX rfl
def GS(P:Program)[bJ P](f:FuncId)(args:List AV)(i:Nat)(bf:List Nat)(op:oC)(d:Option Nat)(hist:List HI)(s:St)(K:List HI->St->Prop):Prop :=
 (∃args' r b,aj P f args' r/\(∀x∈args',aM x=[])/\aZ (Vt b (ah s.heap)) args args'/\(b=true->A7 r=true)/\aM r=[] /\
   eR op s .no=true/\jm bf ⟨i,cL op s.env,[],[],false,false⟩ hist=true/\K (⟨i,cL op s.env,[],[],false,false⟩::hist) (s.put d r)) \/
 ∃k ob ob' Sb r,aQ P f args [(k,ob)] Sb (λr' σ'=>r'=r/\σ'=[(k,ob')])/\Sb k/\ah s.heap k=some ob/\aM r=[]/\dB ob'=[]/\k∈cL op s.env /\
   eR op s (.put k ob')=true/\jm bf ⟨i,cL op s.env,[],[k],false,true⟩ hist=true/\K (⟨i,cL op s.env,[],[k],false,true⟩::hist) ((s.eff (.put k ob')).put d r)
def OQ(al:List (Nat×Nat))(i:Nat)(d:Option Nat)(f:FuncId)(args:List IV)(g:Option (Nat×Bool))(bf:List Nat)(hist:List HI)(s:St)(K:List HI->St->Prop) :
  i_ P al i ⟨⟨d,.call f args,g⟩,bf⟩ hist s K=GS P f (args.map (val (get s.env))) i bf (.call f args) d hist s K:=bX rfl
def Al(d:Nat)(t:TypeId)(st:Nat)(rows:List (List AV))(ps:List (Nat×IV))(g:Option (Nat×Bool))(s:St)(K:St->Prop):JR ⟨some d,.bsl t st rows ps,g⟩ s K=dz (O7 K (s.kill d) (some d)) (bW d (.bsl t st rows ps) (val (get (s.kill d).env)) (ah (s.kill d).heap)):=bX rfl
def R6(al:List (Nat×Nat))(i d:Nat)(t:TypeId)(st k:Nat)(y:IV)(g:Option (Nat×Bool))(bf:List Nat)(hist:List HI)(s:St)(K:List HI->St->Prop):i_ P al i ⟨⟨some d,.app t st (.s k) y,g⟩,bf⟩ hist s K=dz (SS al i bf (.app t st (.s k) y) hist K s (some d)) (bW d (.app t st (.s k) y) (val (get s.env)) (ah s.heap)):=by
 refine propext ⟨λh=>?_,λh=>.inl h⟩;rcases h with h|⟨rows,h,_⟩
 .exact h
 .cases h
def Lb{al:List (Nat×Nat)}{i d:Nat}{t:TypeId}{st:Nat}{y:IV}{g:Option (Nat×Bool)}{bf:List Nat}{hist:List HI}{s:St}{K:List HI->St->Prop}(rows:List (List AV))(h1:bW d (.app t st (.c .nl) y) (val (get s.env)) (ah s.heap)=some (.ms d st 0 rows.length,.new d ⟨t,st,rows,false⟩))
  (h2:eR (.app t st (.c .nl) y) s .no=true) (h3:jm bf ⟨i,cL (.app t st (.c .nl) y) s.env,[],[],false,false⟩ hist=true) (h4:K (⟨i,cL (.app t st (.c .nl) y) s.env,[],[],false,false⟩::hist) (s.put (some d) (.sl st rows))):i_ P al i ⟨⟨some d,.app t st (.c .nl) y,g⟩,bf⟩ hist s K :=
 .inr ⟨rows,rfl,h1,h2,h3,h4⟩
def RI(K:St->Prop)(s:St)(d:Option Nat)(n:Nat)(o:oC):Prop:=dz (O7 K s d) (bW n o (val (get s.env)) (ah s.heap))
def ahe(K:St->Prop)(s:St)(d:Option Nat)(n:Nat)(o:oC):RI K s d n o=dz (O7 K s d) (bW n o (val (get s.env)) (ah s.heap)):=bX rfl
def RD(al:List (Nat×Nat))(i:Nat)(bf:List Nat)(hist:List HI)(K:List HI->St->Prop)(s:St)(d:Option Nat)(n:Nat)(o:oC):Prop:=dz (SS al i bf o hist K s d) (bW n o (val (get s.env)) (ah s.heap))
def ahd(al:List (Nat×Nat))(i:Nat)(bf:List Nat)(hist:List HI)(K:List HI->St->Prop)(s:St)(d:Option Nat)(n:Nat)(o:oC):RD al i bf hist K s d n o=dz (SS al i bf o hist K s d) (bW n o (val (get s.env)) (ah s.heap)):=bX rfl
attribute[go_sem] ahe ahd
section
variable(g:Option (Nat×Bool))(s:St)(K:St->Prop)
def Sw(d:Option Nat)(f:FuncId)(args:List IV):nX P ⟨d,.call f args,g⟩ s K=cO P f (args.map (val (get s.env))) d s K:=bX rfl
def O1(d:Option Nat)(f:IV)(args:List IV):nX P ⟨d,.callv f args,g⟩ s K=ZD P (val (get s.env) f) (args.map (val (get s.env))) d s K:=bX rfl
def W8(d:Option Nat)(x:IV):nX P ⟨d,.mov x,g⟩ s K=RI K s d 0 (.mov x):=bX rfl
def SC(d:Option Nat)(c a b:IV):nX P ⟨d,.pick c a b,g⟩ s K=RI K s d 0 (.pick c a b):=bX rfl
def O0(d:Option Nat)(cs:List AV)(ps:List (Nat×Nat×IV)):nX P ⟨d,.build cs ps,g⟩ s K=RI K s d 0 (.build cs ps):=bX rfl
def Sz(d:Option Nat)(n:Option Nat)(p:IV):nX P ⟨d,.load n p,g⟩ s K=RI K s d 0 (.load n p):=bX rfl
def O3(d:Option Nat)(n:Nat)(p x:IV):nX P ⟨d,.store n p x,g⟩ s K=RI K s d 0 (.store n p x):=bX rfl
def Sx(d:Option Nat)(o:Nat)(p:IV):nX P ⟨d,.fadr o p,g⟩ s K=RI K s d 0 (.fadr o p):=bX rfl
def Sy(d:Option Nat)(st:Nat)(x q:IV):nX P ⟨d,.iadr st x q,g⟩ s K=RI K s d 0 (.iadr st x q):=bX rfl
def Su(d:Option Nat)(st n:Nat)(x q:IV):nX P ⟨d,.aadr st n x q,g⟩ s K=RI K s d 0 (.aadr st n x q):=bX rfl
def W7(d:Option Nat)(m:Bool)(x y:IV):nX P ⟨d,.mnx m x y,g⟩ s K=RI K s d 0 (.mnx m x y):=bX rfl
def WS(d:Option Nat)(st:Nat)(x y:IV):nX P ⟨d,.cpy st x y,g⟩ s K=RI K s d 0 (.cpy st x y):=bX rfl
def Xa(d:Option Nat)(x y:IV):nX P ⟨d,.sib x y,g⟩ s K=RI K s d 0 (.sib x y):=bX rfl
def WV(d:Option Nat)(x:IV):nX P ⟨d,.cvm x,g⟩ s K=RI K s d 0 (.cvm x):=bX rfl
def Xb(d:Option Nat)(st:Nat)(x:IV)(lo hi mx:Option IV):nX P ⟨d,.slc st x lo hi mx,g⟩ s K=RI K s d 0 (.slc st x lo hi mx):=bX rfl
def WZ(d:Option Nat)(x:IV):nX P ⟨d,.len x,g⟩ s K=RI K s d 0 (.len x):=bX rfl
def SF(d:Option Nat)(x:IV):nX P ⟨d,.slen x,g⟩ s K=RI K s d 0 (.slen x):=bX rfl
def SG(d:Option Nat)(x:IV)(lo hi:Option IV):nX P ⟨d,.sslc x lo hi,g⟩ s K=RI K s d 0 (.sslc x lo hi):=bX rfl
def WP(d:Option Nat)(o:BinOp)(x y:IV):nX P ⟨d,.bin o x y,g⟩ s K=RI K s d 0 (.bin o x y):=bX rfl
def Sv(d:Option Nat)(o:BinOp)(x y:IV):nX P ⟨d,.bbin o x y,g⟩ s K=RI K s d 0 (.bbin o x y):=bX rfl
def SB(d:Option Nat)(o:BinOp)(x y:IV):nX P ⟨d,.pbin o x y,g⟩ s K=RI K s d 0 (.pbin o x y):=bX rfl
def SD(d:Option Nat)(o:BinOp)(ls:List LK)(x y:IV):nX P ⟨d,.sbin o ls x y,g⟩ s K=RI K s d 0 (.sbin o ls x y):=bX rfl
def abu(d:Option Nat)(o:UnOp)(x:IV):nX P ⟨d,.un o x,g⟩ s K=RI K s d 0 (.un o x):=bX rfl
def WU(d:Option Nat)(k:IntKind)(x:IV):nX P ⟨d,.cvi k x,g⟩ s K=RI K s d 0 (.cvi k x):=bX rfl
def WW(d:Option Nat)(x:IV):nX P ⟨d,.cvs x,g⟩ s K=RI K s d 0 (.cvs x):=bX rfl
def WY(d:Option Nat)(x:IV)(q:Nat):nX P ⟨d,.ext x q,g⟩ s K=RI K s d 0 (.ext x q):=bX rfl
def SA(d:Option Nat)(x:IV):nX P ⟨d,.nchk x,g⟩ s K=RI K s d 0 (.nchk x):=bX rfl
def W0(d:Option Nat)(f:FuncId)(cs:List IV):nX P ⟨d,.mkf f cs,g⟩ s K=RI K s d 0 (.mkf f cs):=bX rfl
def SE(d:Option Nat)(x q:IV):nX P ⟨d,.sidx x q,g⟩ s K=RI K s d 0 (.sidx x q):=bX rfl
def W_(d:Nat)(t:TypeId)(cs:List AV):nX P ⟨some d,.new t cs,g⟩ s K=(d<1000/\dz (O7 K (s.kill d) (some d)) (bW d (.new t cs) (val (get (s.kill d).env)) (ah (s.kill d).heap))):=bX rfl
def WQ(d:Nat)(t:TypeId)(n:Nat)(x:IV):nX P ⟨some d,.box t n x,g⟩ s K=(d<1000/\dz (O7 K (s.kill d) (some d)) (bW d (.box t n x) (val (get (s.kill d).env)) (ah (s.kill d).heap))):=bX rfl
def WR(d:Nat)(t:TypeId)(st:Nat)(rows:List (List AV))(ps:List (Nat×IV)):nX P ⟨some d,.bsl t st rows ps,g⟩ s K=(d<1000/\Vc (Rc ⟨some d,.bsl t st rows ps,g⟩ s K) (O7 K (s.kill d) (some d)) (bW d (.bsl t st rows ps) (val (get (s.kill d).env)) (ah (s.kill d).heap))):=bX rfl
def WO(d:Nat)(t:TypeId)(st:Nat)(x y:IV):nX P ⟨some d,.app t st x y,g⟩ s K=(d<1000/\dz (O7 K (s.kill d) (some d)) (bW d (.app t st x y) (val (get (s.kill d).env)) (ah (s.kill d).heap))):=bX rfl
def WT(d:Nat)(t:TypeId)(x:IV):nX P ⟨some d,.cvb t x,g⟩ s K=(d<1000/\dz (O7 K (s.kill d) (some d)) (bW d (.cvb t x) (val (get (s.kill d).env)) (ah (s.kill d).heap))):=bX rfl
def W5(d:Nat)(t:TypeId)(st:Nat)(z:List AV)(l c:IV):nX P ⟨some d,.mks t st z l c,g⟩ s K=(d<1000/\dz (O7 K (s.kill d) (some d)) (bW d (.mks t st z l c) (val (get (s.kill d).env)) (ah (s.kill d).heap))):=bX rfl
end
section
variable(al:List (Nat×Nat))(i:Nat)(g:Option (Nat×Bool))(bf:List Nat)(hist:List HI)(s:St)(K:List HI->St->Prop)
def Se(d:Option Nat)(x:IV):i_ P al i ⟨⟨d,.mov x,g⟩,bf⟩ hist s K=RD al i bf hist K s d 0 (.mov x):=bX rfl
def La(d:Option Nat)(cs:List AV)(ps:List (Nat×Nat×IV)):i_ P al i ⟨⟨d,.build cs ps,g⟩,bf⟩ hist s K=RD al i bf hist K s d 0 (.build cs ps):=bX rfl
def OT(d:Option Nat)(n:Option Nat)(p:IV):i_ P al i ⟨⟨d,.load n p,g⟩,bf⟩ hist s K=RD al i bf hist K s d 0 (.load n p):=bX rfl
def Ld(d:Option Nat)(n:Nat)(p x:IV):i_ P al i ⟨⟨d,.store n p x,g⟩,bf⟩ hist s K=RD al i bf hist K s d 0 (.store n p x):=bX rfl
def OR(d:Option Nat)(o:Nat)(p:IV):i_ P al i ⟨⟨d,.fadr o p,g⟩,bf⟩ hist s K=RD al i bf hist K s d 0 (.fadr o p):=bX rfl
def OS(d:Option Nat)(st:Nat)(x q:IV):i_ P al i ⟨⟨d,.iadr st x q,g⟩,bf⟩ hist s K=RD al i bf hist K s d 0 (.iadr st x q):=bX rfl
def Sg(d:Option Nat)(st:Nat)(x:IV)(lo hi mx:Option IV):i_ P al i ⟨⟨d,.slc st x lo hi mx,g⟩,bf⟩ hist s K=RD al i bf hist K s d 0 (.slc st x lo hi mx):=bX rfl
def Sc(d:Option Nat)(x:IV):i_ P al i ⟨⟨d,.len x,g⟩,bf⟩ hist s K=RD al i bf hist K s d 0 (.len x):=bX rfl
def OW(d:Option Nat)(x:IV)(lo hi:Option IV):i_ P al i ⟨⟨d,.sslc x lo hi,g⟩,bf⟩ hist s K=RD al i bf hist K s d 0 (.sslc x lo hi):=bX rfl
def R7(d:Option Nat)(o:BinOp)(x y:IV):i_ P al i ⟨⟨d,.bin o x y,g⟩,bf⟩ hist s K=RD al i bf hist K s d 0 (.bin o x y):=bX rfl
def R9(d:Option Nat)(k:IntKind)(x:IV):i_ P al i ⟨⟨d,.cvi k x,g⟩,bf⟩ hist s K=RD al i bf hist K s d 0 (.cvi k x):=bX rfl
def R_(d:Option Nat)(x:IV):i_ P al i ⟨⟨d,.cvs x,g⟩,bf⟩ hist s K=RD al i bf hist K s d 0 (.cvs x):=bX rfl
def Sa(d:Option Nat)(x:IV)(q:Nat):i_ P al i ⟨⟨d,.ext x q,g⟩,bf⟩ hist s K=RD al i bf hist K s d 0 (.ext x q):=bX rfl
def OU(d:Option Nat)(x:IV):i_ P al i ⟨⟨d,.nchk x,g⟩,bf⟩ hist s K=RD al i bf hist K s d 0 (.nchk x):=bX rfl
def OV(d:Option Nat)(x q:IV):i_ P al i ⟨⟨d,.sidx x q,g⟩,bf⟩ hist s K=RD al i bf hist K s d 0 (.sidx x q):=bX rfl
def Sf(d:Nat)(t:TypeId)(cs:List AV):i_ P al i ⟨⟨some d,.new t cs,g⟩,bf⟩ hist s K=RD al i bf hist K s (some d) d (.new t cs):=bX rfl
def R8(d:Nat)(t:TypeId)(st:Nat)(rows:List (List AV))(ps:List (Nat×IV)):i_ P al i ⟨⟨some d,.bsl t st rows ps,g⟩,bf⟩ hist s K=RD al i bf hist K s (some d) d (.bsl t st rows ps):=bX rfl
end
def aaF(d:Nat)(x:IV)(ρ:IV->AV)(h:Nat->Option ao):bW d (.mov x) ρ h=some (ρ x,.no):=rfl
def T4(c a b:AV):Option (AV×bz) :=
 match c with
 | .bool true=>some (a,.no)
 | .bool false=>some (b,.no)
 | _=>none
def V7(d:Nat)(c a b:IV)(ρ:IV->AV)(h:Nat->Option ao):bW d (.pick c a b) ρ h=T4 (ρ c) (ρ a) (ρ b):=rfl
def Ym(a b:AV):T4 (.bool true) a b=some (a,.no):=rfl
def Yl(a b:AV):T4 (.bool false) a b=some (b,.no):=rfl
def aaG(d:Nat)(t:TypeId)(cs:List AV)(ρ:IV->AV)(h:Nat->Option ao):bW d (.new t cs) ρ h=some (.mp d cs.length 0 0,.new d ⟨t,cs.length,[cs],true⟩):=bX rfl
def aep(d:Nat)(t:TypeId)(n:Nat)(x:Option (List AV)):Option (AV×bz) :=
 match x with
 | some cs=>if cs.length=n/\(cs.all λy=>!(mC d y))=true then some (.mp d n 0 0,.new d ⟨t,n,[cs],true⟩)else none
 | none=>none
def Ol(d:Nat)(t:TypeId)(n:Nat)(cs:List AV):aep d t n (some cs)=if cs.length=n/\(cs.all λy=>!(mC d y))=true then some (.mp d n 0 0,.new d ⟨t,n,[cs],true⟩)else none:=rfl
def aat(d:Nat)(t:TypeId)(n:Nat)(x:IV)(ρ:IV->AV)(h:Nat->Option ao):bW d (.box t n x) ρ h=aep d t n (iU (ρ x)):=bX rfl
def Q6(d:Nat)(cs:List AV)(ps:List (Nat×Nat×IV))(ρ:IV->AV)(h:Nat->Option ao):bW d (.build cs ps) ρ h=res ((mJ ρ cs ps).map .agg):=bX rfl
def aaN(d:Nat)(t:TypeId)(st:Nat)(x:Option (List (List AV))):Option (AV×bz) :=
 match x with
 | some rs=>some (.ms d st 0 rs.length,.new d ⟨t,st,rs,false⟩)
 | none=>none
def Om(d:Nat)(t:TypeId)(st:Nat):aaN d t st none=none:=rfl
def On(d:Nat)(t:TypeId)(st:Nat)(rs:List (List AV)):aaN d t st (some rs)=some (.ms d st 0 rs.length,.new d ⟨t,st,rs,false⟩):=rfl
def aau(d:Nat)(t:TypeId)(st:Nat)(rows:List (List AV))(ps:List (Nat×IV))(ρ:IV->AV)(h:Nat->Option ao):bW d (.bsl t st rows ps) ρ h=aaN d t st (pY ρ st rows ps):=bX rfl
def V4(d:Nat)(n:Option Nat)(p:IV)(ρ:IV->AV)(h:Nat->Option ao):bW d (.load n p) ρ h=res (ut n (ρ p) h):=bX rfl
def Zc(x:Option bz):Option (AV×bz):=x.map λe=>(.any,e)
def PX(e:bz):Zc (some e)=some (.any,e):=rfl
def Vd(c:Prop)[Decidable c](x:Option bz):Zc (if c then x else none)=if c then Zc x else none:=by split<;>rfl
def Q7(d:Nat)(n:Nat)(p x:IV)(ρ:IV->AV)(h:Nat->Option ao):bW d (.store n p x) ρ h=Zc (kK n (ρ p) (ρ x) h):=bX rfl
def V2(d:Nat)(o:Nat)(p:IV)(ρ:IV->AV)(h:Nat->Option ao):bW d (.fadr o p) ρ h=res (Fl o (ρ p)):=bX rfl
def V3(d:Nat)(st:Nat)(x q:IV)(ρ:IV->AV)(h:Nat->Option ao):bW d (.iadr st x q) ρ h=res (wt st (ρ x) (ρ q)):=bX rfl
def V0(d:Nat)(st n:Nat)(x q:IV)(ρ:IV->AV)(h:Nat->Option ao):bW d (.aadr st n x q) ρ h=res (Fj st n (ρ x) (ρ q)):=bX rfl
def aaE(d:Nat)(m:Bool)(x y:IV)(ρ:IV->AV)(h:Nat->Option ao):bW d (.mnx m x y) ρ h=res (Ob m (ρ x) (ρ y)):=bX rfl
def aav(d:Nat)(st:Nat)(x y:IV)(ρ:IV->AV)(h:Nat->Option ao):bW d (.cpy st x y) ρ h=By st (ρ x) (kG st h (ρ y)) h:=bX rfl
def aay(d:Nat)(x:IV)(ρ:IV->AV)(h:Nat->Option ao):bW d (.cvm x) ρ h=Gw (ρ x) h:=bX rfl
def aaH(d:Nat)(x y:IV)(ρ:IV->AV)(h:Nat->Option ao):bW d (.sib x y) ρ h=res (Q1 (ρ x) (ρ y)):=bX rfl
def aaI(d:Nat)(st:Nat)(x:IV)(lo hi mx:Option IV)(ρ:IV->AV)(h:Nat->Option ao):bW d (.slc st x lo hi mx) ρ h=res (qR st (ρ x) (lo.map ρ) (hi.map ρ) (mx.map ρ)):=bX rfl
def aaB(d:Nat)(x:IV)(ρ:IV->AV)(h:Nat->Option ao):bW d (.len x) ρ h=res (KJ (ρ x)):=bX rfl
def V_(d:Nat)(x:IV)(ρ:IV->AV)(h:Nat->Option ao):bW d (.slen x) ρ h=res (IA (ρ x)):=bX rfl
def aar(d:Nat)(t:TypeId)(st:Nat)(x y:IV)(ρ:IV->AV)(h:Nat->Option ao):bW d (.app t st x y) ρ h=qj d t st (ρ x) (kG st h (ρ y)) h:=bX rfl
def Wa(d:Nat)(x:IV)(lo hi:Option IV)(ρ:IV->AV)(h:Nat->Option ao):bW d (.sslc x lo hi) ρ h=res (AZ (ρ x) (lo.map ρ) (hi.map ρ)):=bX rfl
def aas(d:Nat)(o:BinOp)(x y:IV)(ρ:IV->AV)(h:Nat->Option ao):bW d (.bin o x y) ρ h=res (pz o (ρ x) (ρ y)):=bX rfl
def V1(d:Nat)(o:BinOp)(x y:IV)(ρ:IV->AV)(h:Nat->Option ao):bW d (.bbin o x y) ρ h=res (Fk o (ρ x) (ρ y)):=bX rfl
def V6(d:Nat)(o:BinOp)(x y:IV)(ρ:IV->AV)(h:Nat->Option ao):bW d (.pbin o x y) ρ h=res (wu o (ρ x) (ρ y)):=bX rfl
def V8(d:Nat)(o:BinOp)(ls:List LK)(x y:IV)(ρ:IV->AV)(h:Nat->Option ao):bW d (.sbin o ls x y) ρ h=res (s5 o ls (ρ x) (ρ y)):=bX rfl
def aek(d:Nat)(o:UnOp)(x:IV)(ρ:IV->AV)(h:Nat->Option ao):bW d (.un o x) ρ h=res (aUn o (ρ x)):=bX rfl
def aeB(k:IntKind)(x:AV):Option (AV×bz) :=
 match x with
 | .int _ n=>some (.int k (k.wrap n),.no)
 | _=>none
def Rm(k k':IntKind)(n:Int):aeB k (.int k' n)=some (.int k (k.wrap n),.no):=rfl
def aeC(x:Option (List (List AV))):Option (AV×bz) :=
 match x with
 | some rows=>res ((mL rows).map .str)
 | none=>none
def Ov(rows:List (List AV)):aeC (some rows)=res ((mL rows).map .str):=rfl
def aeA(d:Nat)(t:TypeId)(x:AV):Option (AV×bz) :=
 match x with
 | .str s=>if s.length<1073741824 then some (.ms d 1 0 s.length,.new d ⟨t,1,s.map λb=>[.int .u8 b.toNat],false⟩)else none
 | _=>none
def Rl(d:Nat)(t:TypeId)(s:List UInt8):aeA d t (.str s)=if s.length<1073741824 then some (.ms d 1 0 s.length,.new d ⟨t,1,s.map λb=>[.int .u8 b.toNat],false⟩)else none:=rfl
def aeP(i:Nat)(x:AV):Option (AV×bz) :=
 match x with
 | .tup vs=>res (vs[i]?)
 | _=>none
def RH(i:Nat)(vs:List AV):aeP i (.tup vs)=res (vs[i]?):=rfl
def Ng(x:AV):Option (AV×bz) :=
 match x with
 | .mp id st row off=>some (.mp id st row off,.no)
 | .ip cells=>some (.ip cells,.no)
 | .fn f caps=>some (.fn f caps,.no)
 | _=>none
def Tp(id st row off:Nat):Ng (.mp id st row off)=some (.mp id st row off,.no):=rfl
def To(cells:List AV):Ng (.ip cells)=some (.ip cells,.no):=rfl
def Tn(f:FuncId)(caps:List AV):Ng (.fn f caps)=some (.fn f caps,.no):=rfl
def ahx(x:AV):Option (AV×bz) :=
 match x with
 | .str s=>some (.str s,.no)
 | _=>none
def Ro(s:List UInt8):ahx (.str s)=some (.str s,.no):=rfl
def U0(x i:AV):Option (AV×bz) :=
 match x,i with
 | .str s,.int _ n=>if 0<=n then(match s[n.toNat]? with|some b=>some (.int .u8 b.toNat,.no)|none=>none)else none
 | _,_=>none
def PU(K:AV->bz->Prop)(s:List UInt8)(k:IntKind)(n:Int):dz K (U0 (.str s) (.int k n))=(0<=n/\n<s.length/\K (.int .u8 (ac s n.toNat).toNat) .no):=by
 simp only[U0];by_cases h:0<=n
 .rw[au h];by_cases h2:n.toNat<s.length
  .rw[kZ h2];rw[bv h2];simp only[dz];exact propext ⟨λhk=>⟨h,by omega,hk⟩,λhk=>hk.2.2⟩
  .rw[Ms (by omega)];simp only[dz];exact propext ⟨λhk=>hk.elim,λhk=>by omega⟩
 .rw[ak h];simp only[dz];exact propext ⟨λhk=>hk.elim,λhk=>absurd hk.1 h⟩
def afo(d:Nat)(t:TypeId)(st:Nat)(zero:List AV)(l cp:AV):Option (AV×bz) :=
 match l,cp with
 | .int .i64 n,.int .i64 m=>if 0<=n/\n<=m/\m<1073741824/\zero.length=st then some (.ms d st 0 n.toNat,.new d ⟨t,st,List.replicate n.toNat zero,false⟩)else none
 | _,_=>none
def Tm(d:Nat)(t:TypeId)(st:Nat)(zero:List AV)(n m:Int):afo d t st zero (.int .i64 n) (.int .i64 m)=if 0<=n/\n<=m/\m<1073741824/\zero.length=st then some (.ms d st 0 n.toNat,.new d ⟨t,st,List.replicate n.toNat zero,false⟩)else none:=rfl
def aax(d:Nat)(k:IntKind)(x:IV)(ρ:IV->AV)(h:Nat->Option ao):bW d (.cvi k x) ρ h=aeB k (ρ x):=bX rfl
def aaz(d:Nat)(x:IV)(ρ:IV->AV)(h:Nat->Option ao):bW d (.cvs x) ρ h=aeC (kG 1 h (ρ x)):=bX rfl
def aaw(d:Nat)(t:TypeId)(x:IV)(ρ:IV->AV)(h:Nat->Option ao):bW d (.cvb t x) ρ h=aeA d t (ρ x):=bX rfl
def aaA(d:Nat)(x:IV)(q:Nat)(ρ:IV->AV)(h:Nat->Option ao):bW d (.ext x q) ρ h=aeP q (ρ x):=bX rfl
def V5(d:Nat)(x:IV)(ρ:IV->AV)(h:Nat->Option ao):bW d (.nchk x) ρ h=Ng (ρ x):=bX rfl
def V9(d:Nat)(x q:IV)(ρ:IV->AV)(h:Nat->Option ao):bW d (.sidx x q) ρ h=U0 (ρ x) (ρ q):=bX rfl
def aaD(d:Nat)(t:TypeId)(st:Nat)(z:List AV)(l c:IV)(ρ:IV->AV)(h:Nat->Option ao):bW d (.mks t st z l c) ρ h=afo d t st z (ρ l) (ρ c):=bX rfl
def aaC(d:Nat)(f:FuncId)(cs:List IV)(ρ:IV->AV)(h:Nat->Option ao):bW d (.mkf f cs) ρ h=if(cs.map ρ).all Wl=true then some (.fn f (cs.map ρ),.no)else none:=bX rfl
def Qq(k:IntKind)(a b:Int):pz .add (.int k a) (.int k b)=some (.int k (k.wrap (a+b))):=by cases k<;>rfl
def QD(k:IntKind)(a b:Int):pz .sub (.int k a) (.int k b)=some (.int k (k.wrap (a-b))):=by cases k<;>rfl
def Qx(k:IntKind)(a b:Int):pz .mul (.int k a) (.int k b)=some (.int k (k.wrap (a*b))):=by cases k<;>rfl
def Qs(k:IntKind)(a b:Int):pz .eql (.int k a) (.int k b)=some (.bool (a==b)):=by cases k<;>rfl
def Qy(k:IntKind)(a b:Int):pz .neq (.int k a) (.int k b)=some (.bool (a != b)):=by cases k<;>rfl
def Qw(k:IntKind)(a b:Int):pz .lss (.int k a) (.int k b)=some (.bool (decide (a<b))):=by cases k<;>rfl
def Qv(k:IntKind)(a b:Int):pz .leq (.int k a) (.int k b)=some (.bool (decide (a<=b))):=by cases k<;>rfl
def Qu(k:IntKind)(a b:Int):pz .gtr (.int k a) (.int k b)=some (.bool (decide (a>b))):=by cases k<;>rfl
def Qt(k:IntKind)(a b:Int):pz .geq (.int k a) (.int k b)=some (.bool (decide (a>=b))):=by cases k<;>rfl
def Qz(k:IntKind)(a b:Int):pz .quo (.int k a) (.int k b)=if b=0 then none else some (.int k (k.wrap (a.tdiv b))):=by cases k<;>rfl
def QA(k:IntKind)(a b:Int):pz .rem (.int k a) (.int k b)=if b=0 then none else some (.int k (a.tmod b)):=by cases k<;>rfl
def bO(k:IntKind)(a b:Int):Int:=k.wrap ((BitVec.ofInt k.bits a &&& BitVec.ofInt k.bits b).toNat)
def Qr(k:IntKind)(a b:Int):pz .and (.int k a) (.int k b)=some (.int k (bO k a b)):=by cases k<;>rfl
def qT(k:IntKind)(a b:Int):Int:=k.wrap ((BitVec.ofInt k.bits a ||| BitVec.ofInt k.bits b).toNat)
def VI(k:IntKind)(a b:Int):pz .or (.int k a) (.int k b)=some (.int k (qT k a b)):=by cases k<;>rfl
def ajk(k:IntKind)(a b:Int):Int:=k.wrap ((BitVec.ofInt k.bits a ^^^ BitVec.ofInt k.bits b).toNat)
def aeo(k:IntKind)(a b:Int):Int:=k.wrap ((BitVec.ofInt k.bits a &&& ~~~ (BitVec.ofInt k.bits b)).toNat)
def ib(k:IntKind)(a b:Int):Int:=k.wrap (a*2^(min b.toNat k.bits))
def A0(k:IntKind)(a b:Int):Int:=a.fdiv (2^(min b.toNat k.bits))
def QB(k k1:IntKind)(a b:Int):pz .shl (.int k a) (.int k1 b)=if b<0 then none else some (.int k (ib k a b)):=bX rfl
def QC(k k1:IntKind)(a b:Int):pz .shr (.int k a) (.int k1 b)=if b<0 then none else some (.int k (A0 k a b)):=bX rfl
def N8(a b:List UInt8):pz .add (.str a) (.str b)=if a.length+b.length<4611686018427387904 then some (.str (a++b))else none:=bX rfl
def N9(a b:List UInt8):pz .eql (.str a) (.str b)=some (.bool (a==b)):=bX rfl
def N_(a b:List UInt8):pz .neq (.str a) (.str b)=some (.bool (!(a==b))):=bX rfl
def N6(a b:Bool):Fk .eql (.bool a) (.bool b)=some (.bool (a==b)):=rfl
def N7(a b:Bool):Fk .neq (.bool a) (.bool b)=some (.bool (!(a==b))):=rfl
def VY(a:Bool):aUn .not (.bool a)=some (.bool (!a)):=rfl
def VX(k:IntKind)(n:Int):aUn .neg (.int k n)=some (.int k (k.wrap (0-n))):=rfl
def VT(l:LK)(ls:List LK)(xs ys:List AV):s5 .eql (l::ls) (.agg xs) (.agg ys)=(kJ (l::ls) xs ys).map .bool:=rfl
def VU(l:LK)(ls:List LK)(xs ys:List AV):s5 .neq (l::ls) (.agg xs) (.agg ys)=(kJ (l::ls) xs ys).map λb=>.bool (!b):=rfl
def QW(f:FuncId)(cs:List AV):s5 .eql [] (.fn f cs) .nf=some (.bool false):=rfl
def QY(f:FuncId)(cs:List AV):s5 .neq [] (.fn f cs) .nf=some (.bool true):=rfl
def QZ:s5 .eql [] .nf .nf=some (.bool true):=rfl
def Q0:s5 .neq [] .nf .nf=some (.bool false):=rfl
def aaq:kJ [] [] []=some true:=rfl
def sqK(p:Option Bool)(q:Option Bool):Option Bool:=match p,q with
 | some p,some q=>some (p&&q)
 | _,_=>none
def U9(p q:Bool):sqK (some p) (some q)=some (p&&q):=rfl
def aap(l:LK)(ls:List LK)(x y:AV)(xs ys:List AV):kJ (l::ls) (x::xs) (y::ys)=sqK (kT l x y) (kJ ls xs ys):=rfl
def SW(p q:Bool):kT .b (.bool p) (.bool q)=some (p==q):=rfl
def SX(k:IntKind)(p q:Int):kT .i (.int k p) (.int k q)=some (p==q):=by simp[kT]
def SY(p q:List UInt8):kT .s (.str p) (.str q)=some (p==q):=rfl
def QP:wu .eql .np .np=some (.bool true):=rfl
def QQ(id st row off:Nat):wu .eql (.mp id st row off) .np=some (.bool false):=rfl
def QS(cells:List AV):wu .eql (.ip cells) .np=some (.bool false):=rfl
def QT:wu .neq .np .np=some (.bool false):=rfl
def QU(id st row off:Nat):wu .neq (.mp id st row off) .np=some (.bool true):=rfl
def QV(cells:List AV):wu .neq (.ip cells) .np=some (.bool true):=rfl
def VO(st:Nat)(rows:List (List AV)):KJ (.sl st rows)=some (.int .i64 rows.length):=rfl
def VM(id st off len:Nat):KJ (.ms id st off len)=some (.int .i64 len):=rfl
def VN:KJ .nl=some (.int .i64 0):=rfl
def Oe(s:List UInt8):IA (.str s)=some (.int .i64 s.length):=rfl
def QJ(n:Option Nat)(cells:List AV)(h:Nat->Option ao):ut n (.ip cells) h=uI n cells:=rfl
def O_(n:Option Nat)(st row off:Nat)(o:Option ao):Option AV :=
 match o with
 | some o=>if o.st=st then(match o.rows[row]? with|some r=>uI n (r.drop off)|none=>none)else none
 | none=>none
def QK(n:Option Nat)(id st row off:Nat)(h:Nat->Option ao):ut n (.mp id st row off) h=O_ n st row off (h id):=rfl
def Xt(n:Option Nat)(st off:Nat)(t:TypeId)(r:List AV)(b:Bool):O_ n st 0 off (some ⟨t,st,[r],b⟩)=uI n (r.drop off):=by simp[O_]
def Xs{α:Type}[Inhabited α](K:AV->bz->Prop)(n:Option Nat)(st row off:Nat)(t:TypeId)(l:List α)(f:α->List AV)(b:Bool) :
  dz K (res (O_ n st row off (some ⟨t,st,l.map f,b⟩)))=(row<l.length/\dz K (res (uI n ((f (ac l row)).drop off)))):=by
 simp only[O_,aN];by_cases h2:row<l.length
 .rw[jt,kZ h2,bv h2];simp[h2]
 .rw[Ms (by simpa using h2)];simp[h2,res,dz]
def afe(x:AV)(r:List AV):uI none (x::r)=some x:=rfl
def aff(n:Nat)(r:List AV):uI (some n) r=if n<=r.length then some (.agg (r.take n))else none:=rfl
def Is(id n st row off:Nat)(o:Option ao)(cs:Option (List AV)):Option bz :=
 match cs with
 | some cs=>match o with
  | some o=>if o.st=st/\cs.length=n/\(o.isRec||cs.all qm)=true then(match o.rows[row]? with
   | some r=>if off+n<=r.length then some (.put id {o with rows:=o.rows.set row (iZ r off cs)})else none
   | none=>none)else none
  | none=>none
 | none=>none
def Of(n id st row off:Nat)(x:AV)(h:Nat->Option ao):kK n (.mp id st row off) x h=Is id n st row off (h id) (iU x):=by
 unfold kK Is;cases iU x<;>rfl
def Za(id n st off:Nat)(t:TypeId)(r cs:List AV):Is id n st 0 off (some ⟨t,st,[r],true⟩) (some cs)=if cs.length=n/\off+n<=r.length then some (.put id ⟨t,st,[iZ r off cs],true⟩)else none:=by
 simp only[Is,true_and,eC,and_true,List.getElem?_cons_zero,List.set_cons_zero];by_cases h1:cs.length=n<;>by_cases h2:off+n<=r.length<;>simp[h1,h2]
def Y_(id n st row:Nat)(t:TypeId)(rows:List (List AV))(cs:List AV)(hn:∀r∈rows,r.length=n):Is id n st row 0 (some ⟨t,st,rows,false⟩) (some cs)=if cs.length=n/\cs.all qm=true/\row<rows.length then some (.put id ⟨t,st,rows.set row cs,false⟩)else none:=by
 simp only[Is,true_and,eH];by_cases h3:row<rows.length
 .rw[kZ h3];have hl:=hn _ (tL h3);by_cases h1:cs.length=n<;>by_cases h2:cs.all qm=true<;>simp[h1,h2,h3,hl,iZ];rw[If (by omega),m_]
 .rw[Ms (by omega)];simp[h3]
def QE(off:Nat)(cells:List AV):Fl off (.ip cells)=some (.ip (cells.drop off)):=rfl
def QF(off id st row o:Nat):Fl off (.mp id st row o)=some (.mp id st row (o+off)):=rfl
def QG(off:Nat)(n:Option Nat)(cells:List AV):VL off n (.agg cells)=uI n (cells.drop off):=rfl
def Oa{α:Type}[Inhabited α](K:AV->bz->Prop)(st:Nat)(l:List α)(f:α->List AV)(k:IntKind)(n:Int) :
  dz K (res (wt st (.sl st (l.map f)) (.int k n)))=(0<=n/\n<l.length/\K (.ip (f (ac l n.toNat))) .no):=by
 simp only[wt,true_and];by_cases h:0<=n
 .rw[au h];by_cases h2:n.toNat<l.length
  .rw[jt,kZ h2,bv h2];simp only[gT,res,dz];exact propext ⟨λhk=>⟨h,by omega,hk⟩,λhk=>hk.2.2⟩
  .rw[Ms (by simp;omega)];exact propext ⟨λhk=>hk.elim,λhk=>by omega⟩
 .rw[ak h];exact propext ⟨λhk=>hk.elim,λhk=>absurd hk.1 h⟩
def Qo(st n:Nat)(cells:List AV)(k:IntKind)(j:Int):Fj st n (.ip cells) (.int k j)=if 0<=j/\j<n then some (.ip (cells.drop (j.toNat*st)))else none:=rfl
def Qp(st n id s row off:Nat)(k:IntKind)(j:Int):Fj st n (.mp id s row off) (.int k j)=if 0<=j/\j<n then some (.mp id s row (off+j.toNat*st))else none:=rfl
def Wo(id st off len:Nat)(o:Option ao):Option (AV×bz) :=
 match o with
 | some o=>if st=1/\o.st=1/\o.isRec=false/\0<len then some (.ms id st off len,.put id o)else none
 | none=>none
def VK(id st off len:Nat)(h:Nat->Option ao):Gw (.ms id st off len) h=Wo id st off len (h id):=by simp only[Gw,Wo];cases h id<;>rfl
def Rn(id off len:Nat)(t:TypeId)(rows:List (List AV)):Wo id 1 off len (some ⟨t,1,rows,false⟩)=if 0<len then some (.ms id 1 off len,.put id ⟨t,1,rows,false⟩)else none:=by simp[Wo]
def Q2(s:List UInt8)(n:Int):Q1 (.str s) (.int .u8 n)=some (.int .i64 (L9 s n.toNat.toUInt8)):=rfl
def Wm(id st off len:Nat)(ys:List (List AV))(o:Option ao):Option (AV×bz) :=
 match o with
 | some o=>if o.st=st/\o.isRec=false/\off+len<=o.rows.length/\ys.length<=len then some (.int .i64 ys.length,.put id {o with rows:=o.rows.take off++ys++o.rows.drop (off+ys.length)})else none
 | none=>none
def VJ(st id off len:Nat)(ys:List (List AV))(h:Nat->Option ao):By st (.ms id st off len) (some ys) h=Wm id st off len ys (h id):=by simp only[By,Wm,true_and];cases h id<;>rfl
def Ou(id st len:Nat)(t:TypeId)(rows ys:List (List AV))(h1:rows.length=len)(h2:ys.length=len):Wm id st 0 len ys (some ⟨t,st,rows,false⟩)=some (.int .i64 len,.put id ⟨t,st,ys,false⟩):=by
 subst h1;simp[Wm,h2]
def QM(k:IntKind)(n m:Int):Ob true (.int k n) (.int k m)=some (.int k (if n<m then m else n)):=by simp[Ob]
def QH(id st off len:Nat)(k:IntKind)(n:Int):wt st (.ms id st off len) (.int k n)=if 0<=n/\n<len then some (.mp id st (off+n.toNat) 0)else none:=by simp[wt]
def Q3(id st off len:Nat)(k:IntKind)(n:Int):qR st (.ms id st off len) none (some (.int k n)) none=if 0<=n/\n<=len then some (.ms id st off n.toNat)else none:=by
 simp only[qR,bQ];by_cases h:0<=n<;>by_cases h2:n<=len<;>simp[h,h2]<;>omega
def Q4{α:Type}(st:Nat)(f:α->List AV)(l:List α)(k:IntKind)(n:Int):qR st (.sl st (l.map f)) (some (.int k n)) none none=if 0<=n/\n<=l.length then some (.sl st ((l.drop n.toNat).map f))else none:=by
 simp only[qR,bQ];have:(l.drop n.toNat).map f=List.take (l.length-n.toNat) (List.drop n.toNat (l.map f)):=by rw[List.map_drop,cI (by simp)]
 by_cases h:0<=n<;>by_cases h2:n<=l.length<;>simp[h,h2,this]<;>omega
def VV(s:List UInt8)(k:IntKind)(n:Int):AZ (.str s) none (some (.int k n))=if 0<=n/\n<=s.length then some (.str (s.take n.toNat))else none:=by
 simp only[AZ,bQ];by_cases h:0<=n<;>by_cases h2:n<=s.length<;>simp[h,h2]<;>omega
def VW(s:List UInt8)(k:IntKind)(n:Int):AZ (.str s) (some (.int k n)) none=if 0<=n/\n<=s.length then some (.str (s.drop n.toNat))else none:=by
 simp only[AZ,bQ];have:s.drop n.toNat=List.take (s.length-n.toNat) (List.drop n.toNat s):=by rw[cI (by simp)]
 by_cases h:0<=n<;>by_cases h2:n<=s.length<;>simp[h,h2,<-this]<;>omega
def VH(d:Nat)(t:TypeId)(st:Nat)(ys:List (List AV))(h:Nat->Option ao):qj d t st .nl (some ys) h=if ys.length<137438953472 then some (.ms d st 0 ys.length,.new d ⟨t,st,ys,false⟩)else none:=rfl
def xf(id:Nat)(t:TypeId)(st off len:Nat)(ys:List (List AV))(o:Option ao):Option (AV×bz) :=
 if ys.length<137438953472 then(match o with
   | some o=>if o.st=st/\o.t=t/\o.isRec=false/\off=0/\len<=o.rows.length/\len<137438953472/\(id<1000\/2000<=id)/\o.k.flat=true then
     some (.ms id st 0 (len+ys.length),.reb id ⟨t,st,o.rows.take len++ys,false⟩)else none
   | none=>none)else none
def VG(d id:Nat)(t:TypeId)(st off len:Nat)(ys:List (List AV))(h:Nat->Option ao):qj d t st (.ms id st off len) (some ys) h=xf id t st off len ys (h id):=by
 simp only[qj,xf,true_and];cases h id<;>rfl
def CN:Kd.flat instKd=true:=rfl
def Fo(id:Nat)(t:TypeId)(st len:Nat)(rows ys:List (List AV))(hl:rows.length=len):xf id t st 0 len ys (some ⟨t,st,rows,false⟩) =
  if ys.length<137438953472/\len<137438953472/\(id<1000\/2000<=id)then some (.ms id st 0 (len+ys.length),.reb id ⟨t,st,rows++ys,false⟩)else none:=by
 subst hl;simp only[xf,true_and,a_,pJ,CN,and_true];by_cases h1:ys.length<137438953472<;>simp[h1]
def UB(st:Nat)(h:Nat->Option ao):kG st h .nl=some []:=rfl
def UC(st:Nat)(h:Nat->Option ao)(rows:List (List AV)):kG st h (.sl st rows)=some rows:=by simp[kG]
def LS(st off len:Nat)(o:Option ao):Option (List (List AV)) :=
 match o with
 | some o=>if o.st=st/\o.isRec=false/\off+len<=o.rows.length then some ((o.rows.drop off).take len)else none
 | none=>none
def UA(st:Nat)(h:Nat->Option ao)(id off len:Nat):kG st h (.ms id st off len)=LS st off len (h id):=by simp only[kG,LS,true_and];cases h id<;>rfl
def Ge(st len:Nat)(t:TypeId)(rows:List (List AV))(hl:rows.length=len):LS st 0 len (some ⟨t,st,rows,false⟩)=some rows:=by subst hl;simp[LS]
def Va(s:List UInt8):Y9 (.str s)=some (s.map λb=>[.int .u8 b.toNat]):=rfl
def Ot{f:FuncId}{args args':List AV}{d:Option Nat}{s:St}{K:St->Prop}{r:AV}(hp:aj P f args' r)(hid:∀x∈args',aM x=[])(hc:aZ (Vt false (ah s.heap)) args args')(hk:K (s.put d r)):cO P f args d s K :=
 .inl (.inl ⟨args',r,false,hp,hid,hc,(λh=>by cases h),hk⟩)
def aZ.refl_coe(b:Bool)(h:Nat->Option ao):∀l:List AV,aZ (Vt b h) l l
 | []=>trivial
 | _::r=>⟨.inl rfl,aZ.refl_coe b h r⟩
def dd{f:FuncId}{args:List AV}{d:Option Nat}{s:St}{K:St->Prop}{r:AV}(hp:aj P f args r)(hid:∀x∈args,aM x=[])(hk:K (s.put d r)):cO P f args d s K :=
 Ot hp hid (aZ.refl_coe _ _ args) hk
def yc{f:FuncId}{args:List AV}{d:Option Nat}{s:St}{K:St->Prop}{r:AV}(fs:List Nat){args':List AV}(ha:args.map (wE fs s)=args')(hp:aj P f args' r)(hid:∀x∈args',aM x=[])(hk:K ((frzs fs s).put d r)):cO P f args d s K:=by
 subst ha;exact .inr (.inl ⟨fs,.inl ⟨_,r,false,hp,hid,aZ.refl_coe _ _ _,(λh=>by cases h),hk⟩⟩)
def cJ{f:FuncId}{args:List AV}{i:Nat}{bf:List Nat}{op:oC}{d:Option Nat}{hist:List HI}{s:St}{K:List HI->St->Prop}{r:AV}(hp:aj P f args r)(hid:∀x∈args,aM x=[])(hr:aM r=[])
  (hk:eR op s .no=true/\jm bf ⟨i,cL op s.env,[],[],false,false⟩ hist=true/\K (⟨i,cL op s.env,[],[],false,false⟩::hist) (s.put d r)):GS P f args i bf op d hist s K :=
 .inl ⟨args,r,false,hp,hid,aZ.refl_coe _ _ args,(λh=>by cases h),hr,hk⟩
def Ow{f:FuncId}{args:List AV}{i:Nat}{bf:List Nat}{op:oC}{d:Option Nat}{hist:List HI}{s:St}{K:List HI->St->Prop}{r:AV}{k:Nat}{ob ob':ao}{Sb:Nat->Prop}(hp:aQ P f args [(k,ob)] Sb (λr' σ'=>r'=r/\σ'=[(k,ob')]))(hs:Sb k)(hk:ah s.heap k=some ob)(hr:aM r=[])(ho:dB ob'=[])
  (hop:k∈cL op s.env) (hK:eR op s (.put k ob')=true/\jm bf ⟨i,cL op s.env,[],[k],false,true⟩ hist=true/\K (⟨i,cL op s.env,[],[k],false,true⟩::hist) ((s.eff (.put k ob')).put d r)):GS P f args i bf op d hist s K :=
 .inr ⟨k,ob,ob',Sb,r,hp,hs,hk,hr,ho,hop,hK⟩
def Nb:∀{l:List (Nat×AV)}{k:Nat},get l k = .any\/(k,get l k)∈l
 | [],k=>.inl rfl
 | (j,x)::r,k=>by
  simp only[get];split
  .rename_i h;subst h;exact .inr (by simp)
  .rcases Nb (l:=r) (k:=k)with h|h
   .exact .inl h
   .exact .inr (by simp[h])
def fT:∀{l:List (Nat×ao)}{k:Nat}{o:ao},ah l k=some o->(k,o)∈l
 | [],k,o,h=>by simp[ah]at h
 | (j,x)::r,k,o,h=>by
  simp only[ah]at h;split at h
  .rename_i hj;cases h;subst hj;simp
  .simp[fT h]
def cQ.le{c:vg}{a:Act}{w:World}{s s':St}(hs:cQ c s a w)(h1:∀p∈s'.env,get s.env p.1=p.2)(h2:∀p∈s'.heap,ah s.heap p.1=some p.2):cQ c s' a w:=by
 obtain⟨bl,hs⟩:=hs;refine⟨bl,hs.weaken (λk=>?_) (λi o hi=>h2 (i,o) (fT hi))⟩;rcases Nb (l:=s'.env) (k:=k)with h|h
 .exact .inl h
 .exact .inr (h1 _ h).symm
def Wk.refl(s:St):Wk s s:=λ_ _ _ h=>h
def Wk.trans{s s' s'':St}(h:Wk s s')(h':Wk s' s''):Wk s s'':=λc a w hs=>h' c a w (h c a w hs)
def Wk.le{s s':St}(h1:∀p∈s'.env,get s.env p.1=p.2)(h2:∀p∈s'.heap,ah s.heap p.1=some p.2):Wk s s':=λ_ _ _ hs=>hs.le h1 h2
def Wk.frz(s:St)(i:Nat):Wk s (s.frz i):=λ_ _ _ hs=>hs.frz i
def ZN{α:Type}(S:α->St)(p:α->Prop)(m:α->Nat)(q:α)(K:IX->St->Prop)(e:IX)(s:St):Prop :=
 match e with
 | .nrm=>∃q',p q'/\m q'<m q/\Wk s (S q')
 | e=>K e s
def aF{α:Type}{S:α->St}{p:α->Prop}{m:α->Nat}{q:α}{K:IX->St->Prop}{s:St}(q':α)(h1:p q')(h2:m q'<m q)(h3:Wk s (S q')):ZN S p m q K .nrm s:=⟨q',h1,h2,h3⟩
def afa{α:Type}(S:α->St)(p:α->Prop)(m:α->Nat)(q:α)(K:IX->St->Prop)(s:St):ZN S p m q K .ret s=K .ret s:=bX rfl
def afb{α:Type}(S:α->St)(p:α->Prop)(m:α->Nat)(q:α)(K:IX->St->Prop)(j:Nat)(s:St):ZN S p m q K (.ext j) s=K (.ext j) s:=bX rfl
def aq{α:Type}(S:α->St)(p:α->Prop)(m:α->Nat){x:bI}{s:St}{K:IX->St->Prop}(q:α)(h1:p q)(h2:Wk s (S q))
  (hstep:∀q,p q->jL P x (S q) (ZN S p m q K)):jL P (.loop x) s K:=by
 refine⟨λn s=>∃q,p q/\m q=n/\s=S q,⟨m q,S q,⟨q,h1,rfl,rfl⟩,h2⟩,?_⟩;rintro n s ⟨q,h3,rfl,rfl⟩;refine C8 _ _ _ _ (λe s' hh=>?_) (hstep q h3);cases e with
 | nrm=>obtain⟨q',h4,h5,h6⟩:=hh;exact⟨m q',S q',h5,⟨q',h4,rfl,rfl⟩,h6⟩
 | _=>exact hh
def kmt{α:Type}(S:α->St)(p:α->Prop)(K:IX->St->Prop)(e:IX)(s:St):Prop :=
 match e with
 | .nrm=>∃q,p q/\Wk s (S q)
 | e=>K e s
def aB{l:List nS}{r:AV}{s:St}(fs:List Nat)(h:sg l (frzs fs s)=some r)(h2:aM r=[]):AY l r .ret s:=⟨(λ_ h=>by cases h),s,Wk.refl s,fs,h,h2⟩
def an{l:List nS}{r:AV}{s:St}(h:sg l (frzs [] s)=some r:=by simp only[go_sem])(h2:aM r=[]:=by first|rfl|simp[go_sem,bU]):AY l r .ret s:=aB [] h h2
def ay{l:List nS}{r:AV}{s:St}(h:sg l (frzs [] s)=some r:=by rfl)(h2:aM r=[]:=by rfl):AY l r .ret s:=aB [] h h2
def ab{f:FuncId}{args:List AV}{d:Option Nat}{s:St}{K:St->Prop}{r:AV}(hp:aj P f args r)(hk:K (s.put d r))(hid:∀x∈args,aM x=[]:=by simp[go_sem]):cO P f args d s K:=dd hp hid hk
def aa{f:FuncId}{args:List AV}{d:Option Nat}{s:St}{K:St->Prop}{r:AV}{Q:Prop}(hp:aj P f args r)(hk:Q)(hq:K (s.put d r)=Q:=by conv=>lhs;simp only[go_sem])(hid:∀x∈args,aM x=[]:=by simp[go_sem]):cO P f args d s K:=dd hp hid (hq.mpr hk)
end
attribute[go_sem] W8 Se SC O0 La Sz OT O3 Ld Sx OR Sy OS Su W7 WS Xa WV Xb Sg WZ Sc SF SG OW WP R7 Sv SB SD abu WU R9 WW R_ WY Sa SA OU W0 SE OV W_ Sf WQ WR R8 WO R6 WT W5
attribute[go_sem] aaF V7 aaG aat Q6 aau V4 Q7 V2 V3 V0 aaE aav aay aaH aaI aaB V_ aar Wa aas V1 V6 V8 aek aax aaz aaw aaA V5 V9 aaD aaC Qq QD Qx Qs Qy Qw Qv Qu Qt Qz QA Qr VI QB QC N8 N9 N_
attribute[go_sem] abF abG abH abx aby abz abE abD Xi afd abA Mb Me Mc Om PV Ma af_ acX YP Vi R4 afa afb
def adx(a b:Prop):VD (.bool false) a b=b:=aad a b
attribute[go_sem ↓] aae aad
attribute[go_sem high] ady adx abj abi abk
attribute[go_sem] SN Xd SM Xe O5 SK Xc SL SH O4 GX GW OX Lf EF EE Sw O1 OQ RJ
attribute[go_sem] Ym Yl Ol On PX Vd Rm Ov Rl RH Tp To Tn Ro PU Tm N6 N7 VY VX VT VU QW QY QZ Q0 aaq U9 aap SW SX SY QP QQ QS QT QU QV VO VM VN Oe QJ QK Xt Xs afe aff Of Za QE QF QG Oa QH Qo Qp QM Q2 VJ VK Rn Q3 Q4 VV VW VH VG UB UC UA Va
def aeY(n:Nat):get [] n = .any:=bX rfl
def aeX(k n:Nat)(x:AV)(r:List (Nat×AV)):get ((k,x)::r) n=if k=n then x else get r n:=bX rfl
def abo(n:Nat):ah [] n=none:=bX rfl
def abn(k n:Nat)(x:ao)(r:List (Nat×ao)):ah ((k,x)::r) n=if k=n then some x else ah r n:=bX rfl
def aeI(n:Nat):del [] n=[]:=bX rfl
def aeH(k n:Nat)(x:AV)(r:List (Nat×AV)):del ((k,x)::r) n=if k=n then del r n else(k,x)::del r n:=bX rfl
def abm(n:Nat):sd [] n=[]:=bX rfl
def abl(k n:Nat)(x:ao)(r:List (Nat×ao)):sd ((k,x)::r) n=if k=n then sd r n else(k,x)::sd r n:=bX rfl
def acE(i:Nat):oi i []=[]:=bX rfl
def acD(i k:Nat)(x:AV)(r:List (Nat×AV)):oi i ((k,x)::r)=(k,jb i x)::oi i r:=bX rfl
def acG(i:Nat):oq i []=[]:=bX rfl
def acF(i k:Nat)(x:ao)(r:List (Nat×ao)):oq i ((k,x)::r)=(k,ez i x)::oq i r:=bX rfl
def afV(e:List (Nat×AV))(h:List (Nat×ao))(d:Nat)(x:AV):St.put ⟨e,h⟩ (some d) x =⟨(d,x)::e,h⟩:=bX rfl
def afU(s:St)(x:AV):s.put none x=s:=bX rfl
def abB(e:List (Nat×AV))(h:List (Nat×ao))(i:Nat):St.kill ⟨e,h⟩ i =⟨oi i e,oq i (sd h i)⟩:=bX rfl
def aa1(s:St):s.eff .no=s:=bX rfl
def Ws(e:List (Nat×AV))(h:List (Nat×ao))(i:Nat)(o:ao):St.eff ⟨e,h⟩ (.put i o) =⟨e,(i,o)::sd h i⟩:=bX rfl
def Wr(e:List (Nat×AV))(h:List (Nat×ao))(i:Nat)(o:ao):St.eff ⟨e,h⟩ (.new i o) =⟨e,(i,o)::sd h i⟩:=bX rfl
def Wt(e:List (Nat×AV))(h:List (Nat×ao))(i:Nat)(o:ao):St.eff ⟨e,h⟩ (.reb i o) =⟨oi i e,(i,o)::oq i (sd h i)⟩:=bX rfl
def Xk(s:St):kills [] s=s:=bX rfl
def Xj(i:Nat)(r:List Nat)(s:St):kills (i::r) s=kills r (s.kill i):=bX rfl
def aa0(e:List (Nat×AV)):dels [] e=e:=bX rfl
def aaZ(d:Nat)(r:List Nat)(e:List (Nat×AV)):dels (d::r) e=dels r (del e d):=bX rfl
def agJ(g:Nat->AV)(k:Nat):val g (.s k)=g k:=bX rfl
def agI(g:Nat->AV)(x:AV):val g (.c x)=x:=bX rfl
def Uu(k:Nat)(b:Bool)(s:St):refine (.s k) b s=s.put (some k) (.bool b):=bX rfl
def Ut(x:AV)(b:Bool)(s:St):refine (.c x) b s=s:=bX rfl
attribute[go_sem] aeY aeX abo abn aeI aeH abm abl acE acD acG acF afV afU abB aa1 Ws Wr Wt Xk Xj aa0 aaZ agJ agI Uu Ut
attribute[go_sem] mJ pY iU qm iZ Wl mL
attribute[go_sem] jb ez BW mV mG mC mP aM o8 kx mN dB cL aw bh lc eR jm Bj G5 Bb bz.tch bz.isReb bz.isPut bz.ids
attribute[go_sem] sg GY I7 F2 frzs St.frz wE frz1 RU ON yk GO zT tB jG kL A7 IU FK
attribute[go_sem] eG qF mr fo m_ xc List.all_nil List.any_cons List.any_nil List.contains_cons List.contains_nil B1 List.flatMap_nil List.drop_succ_cons vX List.take_succ_cons rI i0 cj bZ
attribute[go_sem] List.getElem?_cons_zero Ie List.set_cons_zero List.set_cons_succ
attribute[go_sem] gT Option.map_none Ih Option.getD_none Option.isSome_some
attribute[go_sem] dk cG qE bY Bool.and_false qC Bool.or_true eC Bool.or_false eH
attribute[go_sem] true_and and_true true_implies implies_true false_implies aN bB not_true_eq_false not_false_eq_true and_self true_or or_true false_or or_false
section
variable{P:Program}[bJ P]
def aiD(d:Nat)(x:AV):Option (AV×bz) :=
 match x with
 | .str s=>some (.mm d false,.new d (@ao.mk 0 0 [] false (.it s 0)))
 | _=>none
def ZS(k:Bool)(x:AV)(h:Nat->Option ao)(f:Nat->ao->Option (AV×bz)):Option (AV×bz) :=
 match x with
 | .mm id k'=>if k=k' then(h id).bind (f id)else none
 | _=>none
def ahf(o:ao):Option (AV×bz):=(BB o).map λes=>(.int .i64 es.length,.no)
def ah3(x n y:AV)(h:Nat->Option ao):Option (AV×bz) :=
 match n with
 | .int .i64 n=>ZS true x h λid=>Od id n y
 | _=>none
def QN(d:Nat)(ok:Bool)(kd:KK)(z x y:AV)(h:Nat->Option ao):nU d (.mlk ok kd z) [x,y] h=ZS true x h λ_=>Gx ok kd z y:=by
 cases x<;>try rfl
 rename_i id k;cases k<;>rfl
def QO(d:Nat)(kd:KK)(x y q:AV)(h:Nat->Option ao):nU d (.mup kd) [x,y,q] h=ZS true x h λid=>Et id kd y q:=by
 cases x<;>try rfl
 rename_i id k;cases k<;>rfl
def W4(d:Nat)(g:Option (Nat×Bool))(s:St)(K:St->Prop):nX P ⟨some d,.mop .mkm [],g⟩ s K=(d<1000/\dz (O7 K (s.kill d) (some d)) (some (.mm d true,.new d (@ao.mk 0 0 [] false (.mp []))))):=rfl
def Sd(al:List (Nat×Nat))(i d:Nat)(g:Option (Nat×Bool))(bf:List Nat)(hist:List HI)(s:St)(K:List HI->St->Prop):i_ P al i ⟨⟨some d,.mop .mkm [],g⟩,bf⟩ hist s K=dz (SS al i bf (.mop .mkm []) hist K s (some d)) (some (.mm d true,.new d (@ao.mk 0 0 [] false (.mp [])))):=rfl
def W6(d:Option Nat)(ok:Bool)(kd:KK)(z:AV)(x y:IV)(g:Option (Nat×Bool))(s:St)(K:St->Prop):nX P ⟨d,.mop (.mlk ok kd z) [x,y],g⟩ s K=dz (O7 K s d) (ZS true (val (get s.env) x) (ah s.heap) λ_=>Gx ok kd z (val (get s.env) y)):=by
 rw[<-QN (d.getD 0) ok kd z (val (get s.env) x) (val (get s.env) y) (ah s.heap)];rfl
def W9(d:Option Nat)(kd:KK)(x y q:IV)(g:Option (Nat×Bool))(s:St)(K:St->Prop):nX P ⟨d,.mop (.mup kd) [x,y,q],g⟩ s K=dz (O7 K s d) (ZS true (val (get s.env) x) (ah s.heap) λid=>Et id kd (val (get s.env) y) (val (get s.env) q)):=by
 rw[<-QO (d.getD 0) kd (val (get s.env) x) (val (get s.env) y) (val (get s.env) q) (ah s.heap)];rfl
def Uy(d:Nat)(s:List UInt8):aiD d (.str s)=some (.mm d false,.new d (@ao.mk 0 0 [] false (.it s 0))):=rfl
def afq(id:Nat)(h:Nat->Option ao)(f:Nat->ao->Option (AV×bz)):ZS true (.mm id true) h f=(h id).bind (f id):=rfl
def afp(id:Nat)(h:Nat->Option ao)(f:Nat->ao->Option (AV×bz)):ZS false (.mm id false) h f=(h id).bind (f id):=rfl
def abT(x y:AV)(n:Int)(h:Nat->Option ao):ah3 x (.int .i64 n) y h=ZS true x h λid=>Od id n y:=rfl
def L7{α β:Type}(x:α)(f:α->Option β):(some x).bind f=f x:=rfl
def VQ(t st:Nat)(rows:List (List AV))(r:Bool)(es:List (AV×AV)):ahf (@ao.mk t st rows r (.mp es))=some (.int .i64 es.length,.no):=rfl
def lkS(K:AV->bz->Prop)(ok:Bool)(z:AV)(es:List (AV×AV))(q:Option (Option Nat)):Prop :=
 match q with
 | some (some i)=>match es[i]? with
  | some e=>K (if ok then .tup [e.2,.bool true]else e.2) .no
  | none=>False
 | some none=>K (if ok then .tup [z,.bool false]else z) .no
 | none=>False
def VP(K:AV->bz->Prop)(ok:Bool)(kd:KK)(z y:AV)(t st:Nat)(rows:List (List AV))(r:Bool)(es:List (AV×AV)):dz K (Gx ok kd z y (@ao.mk t st rows r (.mp es)))=lkS K ok z es (jA kd y es):=by
 simp only[Gx,BB,lkS];cases jA kd y es with
 | none=>rfl
 | some q=>cases q with
  | none=>rfl
  | some i=>cases h:es[i]? <;> simp[h,dz]
def VR(K:AV->bz->Prop)(id:Nat)(kd:KK)(y q:AV)(t st:Nat)(rows:List (List AV))(r:Bool)(es:List (AV×AV)):dz K (Et id kd y q (@ao.mk t st rows r (.mp es))) =
  (q_ y=true/\q_ q=true/\∃es',JZ kd y q es=some es'/\K .any (.put id (@ao.mk t st rows r (.mp es')))):=by
 simp only[Et,BB];cases q_ y<;>cases q_ q<;>cases JZ kd y q es<;>simp[dz]
def adl(b:Bool)(x:AV)(K:AV->bz->Prop):Prop :=
 match x with
 | .sl _ []=>K (.bool b) .no/\K (.bool (!b)) .no
 | x=>match Q5 b x with
  | some v=>K v .no
  | none=>False
def Y7(b:Bool)(K:AV->bz->Prop):adl b .nl K=K (.bool (!b)) .no:=rfl
def adm(b:Bool)(st:Nat)(K:AV->bz->Prop):adl b (.sl st []) K=(K (.bool b) .no/\K (.bool (!b)) .no):=rfl
def adn(b:Bool)(st:Nat)(r:List AV)(rows:List (List AV))(K:AV->bz->Prop):adl b (.sl st (r::rows)) K=K (.bool b) .no:=rfl
end
def ao.k_e(t:TypeId)(st:Nat)(rows:List (List AV))(r:Bool)(k:Kd):(@ao.mk t st rows r k).k=k:=rfl
attribute[go_sem] ao.k_e
attribute[go_sem] Y7 adm adn
attribute[go_sem] W4 Sd W6 W9 Uy afq afp abT L7 VQ VP VR
def rz(ρ:Nat->Nat):AV->AV
 | .ms id st off len=>.ms (ρ id) st off len
 | .mp id st row off=>.mp (ρ id) st row off
 | .mm id k=>.mm (ρ id) k
 | x=>x
def qy(ρ:Nat->Nat):AV->AV
 | .fn f caps=>.fn f (caps.map (rz ρ))
 | x=>rz ρ x
def vR(ρ:Nat->Nat):AV->AV
 | .agg cells=>.agg (cells.map (qy ρ))
 | x=>qy ρ x
def m0(ρ:Nat->Nat):AV->AV
 | .tup vs=>.tup (vs.map (vR ρ))
 | x=>vR ρ x
def iY(ρ:Nat->Nat)(o:ao):ao:=if o.isRec then{o with rows:=o.rows.map (λr=>r.map (qy ρ))}else o
def iX(ρ:Nat->Nat):List (Nat×ao)->List (Nat×ao)
 | []=>[]
 | (i,o)::r=>(ρ i,iY ρ o)::iX ρ r
section
variable{P:Program}[bJ P]{bl bl':Nat->Option Nat}{M M':Nat->Prop}{w:World}{ρ τ:Nat->Nat}
def IRel.mono{v:Value}{x:AV}(h:IRel M w v x)(hM:∀b,M' b->M b):IRel M' w v x:=h.tr λb hb _=>⟨λh'=>hb (hM b h'),rfl⟩
def J4{v:Value}{x:AV}(h:ee bl M w v x)(hb:∀i,bl' (ρ i)=bl i)(hM:∀b,M' b->M b):ee bl' M' w v (rz ρ x):=by
 cases x with
 | ms id st off len =>
  simp only[rz,ee]at h⊢;rw[hb];exact h
 | mp id st row off =>
  simp only[rz,ee]at h⊢;rw[hb];exact h
 | mm id k =>
  simp only[rz,ee]at h⊢;rw[hb];exact h
 | _=>exact IRel.mono h hM
def DS{v:Value}{x:AV}(h:cz bl M w v x)(hb:∀i,bl' (ρ i)=bl i)(hM:∀b,M' b->M b):cz bl' M' w v (qy ρ x):=by
 cases x with
 | fn f caps =>
  obtain⟨cs,h1,h2⟩:=h;exact⟨cs,h1,h2.mapRight λ_ _ hr=>J4 hr hb hM⟩
 | _=>simp only[cz]at h;exact J4 (ρ:=ρ) h hb hM
def J3{v:Value}{x:AV}(h:eT bl M w v x)(hb:∀i,bl' (ρ i)=bl i)(hM:∀b,M' b->M b):eT bl' M' w v (vR ρ x):=by
 cases x with
 | agg cells =>
  obtain⟨cs,h1,h2⟩:=h;exact⟨cs,h1,h2.mapRight λ_ _ hr=>DS hr hb hM⟩
 | _=>simp only[eT]at h;exact DS (ρ:=ρ) h hb hM
def DW{v:Value}{x:AV}(h:bt bl M w v x)(hb:∀i,bl' (ρ i)=bl i)(hM:∀b,M' b->M b):bt bl' M' w v (m0 ρ x):=by
 cases x with
 | any=>trivial
 | tup vs =>
  obtain⟨cs,h1,h2⟩:=h;exact⟨cs,h1,h2.mapRight λ_ _ hr=>J3 hr hb hM⟩
 | _=>simp only[bt]at h;exact J3 (ρ:=ρ) h hb hM
def acW(o:ao):(iY ρ o).t=o.t:=by unfold iY;split<;>rfl
def HX(o:ao):(iY ρ o).st=o.st:=by unfold iY;split<;>rfl
def DV(o:ao):(iY ρ o).isRec=o.isRec:=by unfold iY;split<;>rfl
def kR(h1:∀i,τ (ρ i)=i)(h2:∀i,ρ (τ i)=i):∀(σ:List (Nat×ao))(i:Nat),ah (iX ρ σ) i=(ah σ (τ i)).map (iY ρ)
 | [],i=>rfl
 | (k,o)::r,i=>by
  simp only[iX,ah,kR h1 h2 r i];by_cases h:ρ k=i
  .rw[au h,au (by rw[<-h,h1])];rfl
  .rw[ak h,ak (λhk=>h (by rw[hk,h2]))]
def Ux{MF:Nat->Prop}{o:ao}{b:Nat}(h:qi bl M MF w o b)(hb:∀i,bl' (ρ i)=bl i)(hM:∀b,M' b->M b):qi bl' M' MF w (iY ρ o) b:=by
 rcases h with⟨gk,c1,fr,h2,h3,h4,h5,h6,h7⟩|hsp;rotate_left
 .have:iY ρ o=o:=by simp[iY,hsp.isRec]
  rw[this];exact .inr hsp
 refine .inl ⟨by unfold iY;split<;>exact gk,c1,fr,by rw[acW];exact h2,h3,h4,λk r hr=>?_,?_,λk q r x hr hx=>?_⟩
 .rw[HX];unfold iY at hr;split at hr
  .simp only[jt,dU]at hr;obtain⟨r0,h8,rfl⟩:=hr;simpa using h5 k r0 h8
  .exact h5 k r hr
 .rw[HX];unfold iY;split<;>simpa using h6
 .rw[HX,DV];unfold iY at hr;split at hr
  .rename_i hrc;simp only[jt,dU]at hr;obtain⟨r0,h8,rfl⟩:=hr;simp only[jt,dU]at hx;obtain⟨x0,h9,rfl⟩:=hx;obtain⟨u,hu1,hu2⟩:=h7 k q r0 x0 h8 h9;rw[hrc]at hu2⊢;exact⟨u,hu1,DS hu2 hb hM⟩
  .rename_i hrc;obtain⟨u,hu1,hu2⟩:=h7 k q r x hr hx;have hrc':o.isRec=false:=by simpa using hrc
   rw[hrc']at hu2⊢;exact⟨u,hu1,IRel.mono hu2 hM⟩
def DU{MF:Nat->Prop}{σ:List (Nat×ao)}(h1:∀i,τ (ρ i)=i)(h2:∀i,ρ (τ i)=i)(h:KC bl M MF w (ah σ))(hb:∀i,bl' (ρ i)=bl i)(hM:∀b,M' b->M b):KC bl' M' MF w (ah (iX ρ σ)):=by
 have hs:∀{i o},ah (iX ρ σ) i=some o->∃o0,ah σ (τ i)=some o0/\o=iY ρ o0:=λ{i o} hi=>by
  rw[kR h1 h2]at hi;simp only[dU]at hi;obtain⟨o0,h3,h4⟩:=hi;exact⟨o0,h3,h4.symm⟩
 have hbt:∀i,bl' i=bl (τ i):=λi=>by rw[<-hb,h2]
 refine⟨λi o hi=>?_,λi i' o o' b hi hi' q q'=>?_⟩
 .obtain⟨o0,h3,rfl⟩:=hs hi;rcases h.1 _ o0 h3 with hn|⟨b,h4,h5⟩
  .refine .inl ⟨?_,by rw[DV];exact hn.2.1,by rw[hbt];exact hn.2.2⟩;unfold iY;rw[hn.2.1];exact hn.1
  .exact .inr ⟨b,by rw[hbt];exact h4,Ux h5 hb hM⟩
 .obtain⟨o0,h3,_⟩:=hs hi;obtain⟨o1,h4,_⟩:=hs hi';have:=h.2 _ _ _ _ b h3 h4 (by rw[<-hbt];exact q) (by rw[<-hbt];exact q');rw[<-h2 i,<-h2 i',this]
def DT{MF:Nat->Prop}{σ:List (Nat×ao)}(h1:∀i,τ (ρ i)=i)(h2:∀i,ρ (τ i)=i)(hb:∀i,bl' (ρ i)=bl i)(b:Nat)(h:bG bl' MF (ah (iX ρ σ)) b):bG bl MF (ah σ) b:=by
 rcases h with h|⟨i,o,h3,h4⟩
 .exact .inl h
 .rw[kR h1 h2]at h3;simp only[dU]at h3;obtain⟨o0,h5,_⟩:=h3;exact .inr ⟨_,o0,h5,by rw[<-hb,h2];exact h4⟩
def Uw{σ:List (Nat×ao)}(h1:∀i,τ (ρ i)=i)(h2:∀i,ρ (τ i)=i)(hb:∀i,bl' (ρ i)=bl i)(b:Nat)(h:rN bl' (iX ρ σ) b):rN bl σ b:=by
 obtain⟨i,o,h3,h4⟩:=h;rw[kR h1 h2]at h3;simp only[dU]at h3;obtain⟨o0,h5,_⟩:=h3;exact⟨_,o0,h5,by rw[<-hb,h2];exact h4⟩
def C1(x:AV):mN (rz ρ x)=(mN x).map ρ:=by cases x<;>rfl
def fz{f g:AV->List Nat}{r:AV->AV}(h:∀x,f (r x)=(g x).map ρ):∀l:List AV,(l.map r).flatMap f=(l.flatMap g).map ρ
 | []=>rfl
 | x::l=>by simp only[eG,B1,fz h l,h,oz]
def C0(x:AV):kx (qy ρ x)=(kx x).map ρ:=by
 cases x with
 | fn f caps=>exact fz C1 caps
 | _=>rfl
def Sh(x:AV):o8 (vR ρ x)=(o8 x).map ρ:=by
 cases x with
 | agg cells=>exact fz C0 cells
 | fn f caps=>exact fz C1 caps
 | _=>rfl
def Sj(x:AV):aM (m0 ρ x)=(aM x).map ρ:=by
 cases x with
 | tup vs=>exact fz Sh vs
 | agg cells=>exact fz C0 cells
 | fn f caps=>exact fz C1 caps
 | _=>rfl
def Si(o:ao):dB (iY ρ o)=(dB o).map ρ:=by
 unfold dB;rw[DV];split
 .rename_i h;simp only[iY,h,aN];generalize o.rows=l
  induction l with
  | nil=>rfl
  | cons r l ih=>simp only[eG,B1,ih,oz];congr 1;exact fz C0 r
 .rfl
def Ji:∀{σ:List (Nat×ao)}{p:Nat×ao},p∈iX ρ σ->∃q∈σ,p=(ρ q.1,iY ρ q.2)
 | [],_,h=>by cases h
 | (i,o)::r,p,h=>by
  simp only[iX,dQ]at h;rcases h with h|h
  .exact⟨(i,o),by simp,h⟩
  .obtain⟨q,h1,h2⟩:=Ji h;exact⟨q,by simp[h1],h2⟩
def tQ.ren{r:AV}{σ:List (Nat×ao)}(h1:∀i,τ (ρ i)=i)(h2:∀i,ρ (τ i)=i)(h:tQ r σ):tQ (m0 ρ r) (iX ρ σ):=by
 have key:∀{i},(ah σ i).isSome=true->(ah (iX ρ σ) (ρ i)).isSome=true:=λ{i} hi=>by
  rw[kR h1 h2,h1];simpa using hi
 refine⟨λi hi=>?_,λp hp i hi=>?_⟩
 .rw[Sj,gG]at hi;obtain⟨j,h3,rfl⟩:=hi;exact key (h.1 j h3)
 .obtain⟨q,h3,rfl⟩:=Ji hp;simp only[Si,gG]at hi;obtain⟨j,h4,rfl⟩:=hi;exact key (h.2 q h3 j h4)
def aQ.ren{f:FuncId}{args args2:List AV}{σ σ2:List (Nat×ao)}{Sb:Nat->Prop}{Post:AV->List (Nat×ao)->Prop}(h:aQ P f args σ Sb Post)(ρ τ:Nat->Nat)(h1:∀i,τ (ρ i)=i)(h2:∀i,ρ (τ i)=i)
  (ha:args2.map (m0 τ)=args) (hσ:iX τ σ2=σ):aQ P f args2 σ2 (λid=>Sb (τ id)) (λr σ'=>∃r0 σ0,Post r0 σ0/\r=m0 ρ r0/\σ'=iX ρ σ0):=by
 intro bl MF w cargs hTH hTW hH hMF hargs;subst ha hσ;have hb:∀i,(λi=>bl (ρ i)) (τ i)=bl i:=λi=>by simp only[h2]
 have hmut:∀b,bG (λi=>bl (ρ i)) MF (ah (iX τ σ2)) b->bG bl MF (ah σ2) b:=λb hm=>DT h2 h1 hb b hm;have hblk:∀b,rN (λi=>bl (ρ i)) (iX τ σ2) b->rN bl σ2 b:=λb hm=>Uw h2 h1 hb b hm;refine(h (λi=>bl (ρ i)) MF w cargs hTH (λb hb hB=>hTW b hb (hmut b hB)) (DU h2 h1 hH hb hmut) hMF (hargs.mapRight λ_ _ hr=>DW hr hb hmut)).mono λe w'=>?_;rintro⟨v,r,σ',bl',rfl,hp,hc,hH',hv,hst,hnew,hsb⟩;have hb':∀i,(λi=>bl' (τ i)) (ρ i)=bl' i:=λi=>by simp only[h1]
 have hmut':∀b,bG (λi=>bl' (τ i)) MF (ah (iX ρ σ')) b->bG bl' MF (ah σ') b:=λb hm=>DT h1 h2 hb' b hm;refine⟨v,m0 ρ r,iX ρ σ',λi=>bl' (τ i),rfl,⟨r,σ',hp,rfl,rfl⟩,hc.ren h1 h2,DU h1 h2 hH' hb' hmut',DW hv hb' hmut',?_,λid o b hi hq=>?_,λid hid=>?_⟩
 .exact⟨hst.size,λb hlt hn=>hst.keep b hlt λhh=>hn (hblk b hh),hst.shape,hst.os,hst.out⟩
 .rw[kR h1 h2]at hi;simp only[dU]at hi;obtain⟨o0,h5,_⟩:=hi;exact(hnew _ o0 b h5 hq).imp_right (hblk b)
 .show bl' (τ id)=bl id;rw[hsb _ hid];exact hb id
def i5(a b i:Nat):Nat:=if i=a then b else if i=b then a else i
def lk(a b i:Nat):i5 a b (i5 a b i)=i:=by
 unfold i5;by_cases h1:i=a<;>by_cases h2:i=b<;>simp[h1,h2]<;>(try split)<;>simp_all
def aQ.fresh{f:FuncId}{args:List AV}{Sb:Nat->Prop}{id st off len:Nat}{o:ao}(h:aQ P f args [] Sb (λr σ'=>r = .ms id st off len/\σ'=[(id,o)]))(ho:o.isRec=false)(hargs:∀x∈args,aM x=[])(j:Nat) :
  aQ P f args [] (λ_=>False) (λr σ'=>r = .ms j st off len/\σ'=[(j,o)]):=by
 have hren:∀x:AV,aM x=[]->m0 (i5 id j) x=x:=by
  have hP:∀x:AV,mN x=[]->rz (i5 id j) x=x:=λx hx=>by cases x<;>first|rfl|(simp[mN]at hx)
  have hL:∀{f:AV->List Nat}{r:AV->AV},(∀x,f x=[]->r x=x)->∀l:List AV,l.flatMap f=[]->l.map r=l:=λ{f r} hh l=>by
   induction l with
   | nil=>exact λ_=>rfl
   | cons y l ih =>
    intro hl;simp only[B1,List.append_eq_nil_iff]at hl;simp only[eG,hh y hl.1,ih hl.2]
  have hC:∀x:AV,kx x=[]->qy (i5 id j) x=x:=λx hx=>by
   cases x with
   | fn f caps=>simp only[qy,hL hP caps hx]
   | _=>first|rfl|(simp[kx,mN]at hx)
  have hG:∀x:AV,o8 x=[]->vR (i5 id j) x=x:=λx hx=>by
   cases x with
   | agg cells=>simp only[vR,hL hC cells hx]
   | fn f caps=>exact hC (.fn f caps) hx
   | _=>first|rfl|(simp[o8,kx,mN]at hx)
  intro x hx;cases x with
  | tup vs=>simp only[m0,hL hG vs hx]
  | agg cells=>exact hG (.agg cells) hx
  | fn f caps=>exact hG (.fn f caps) hx
  | _=>first|rfl|(simp[aM,o8,kx,mN]at hx)
 have hmap:∀l:List AV,(∀x∈l,aM x=[])->l.map (m0 (i5 id j))=l:=λl=>by
  induction l with
  | nil=>exact λ_=>rfl
  | cons y l ih=>intro hl;simp only[eG,hren y (hl y (by simp)),ih λx hx=>hl x (by simp[hx])]
 refine(h.ren (args2:=args) (σ2:=[]) (i5 id j) (i5 id j) (lk _ _) (lk _ _) (hmap args hargs) rfl).mono (λ_ hf=>hf.elim) ?_;rintro r σ' ⟨r0,σ0,⟨rfl,rfl⟩,rfl,rfl⟩;have hs:i5 id j id=j:=by simp[i5]
 refine⟨by simp only[m0,vR,qy,rz,hs],?_⟩;simp only[iX,hs,iY,ho];rfl
def F8(i:Nat)(x:AV):tu [i] x=jb i x:=by simp[tu,jb]
def F7(i:Nat)(o:ao):iI [i] o=ez i o:=by
 unfold iI ez Bo BW;simp
def ye{f:FuncId}{args:List AV}{d:Option Nat}{s:St}{K:St->Prop}{Sb:Nat->Prop}{id st off len:Nat}{o:ao}(h:aQ P f args [] Sb (λr σ'=>r = .ms id st off len/\σ'=[(id,o)]))(ho:o.isRec=false)(hargs:∀x∈args,aM x=[])
  (j:Nat) (hj:j<1000\/2000<=j) (hfree:ah s.heap j=none) (hk:K ((St.mk (oi j s.env) ((j,o)::oq j s.heap)).put d (.ms j st off len))):cO P f args d s K:=by
 refine .inl (.inr ⟨[],λ_=>False,λr σ'=>r = .ms j st off len/\σ'=[(j,o)],[j],h.fresh ho hargs j,λ_ _ hh=>by simp[ah]at hh,?_,?_⟩)
 .rintro r σ' ⟨rfl,rfl⟩ i hi;simp only[ah]at hi;split at hi
  .rename_i hji;subst hji;exact .inr ⟨by simp,hj,.inr hfree⟩
  .cases hi
 .rintro r σ' ⟨rfl,rfl⟩;refine⟨⟨oi j s.env,(j,o)::oq j s.heap⟩,λk=>?_,λi=>?_,hk⟩
  .simp only[i9,F8]
  .simp only[Jj,ah];split
   .rfl
   .simp only[eZ,Option.isSome_none,gR,bB];congr 1;funext o';exact(F7 j o').symm
end
def leE(e:List (Nat×AV)):List (Nat×AV)->Prop
 | []=>True
 | (k,x)::r=>get e k=x/\leE e r
def SV(e:List (Nat×ao)):List (Nat×ao)->Prop
 | []=>True
 | (k,x)::r=>ah e k=some x/\SV e r
def M8{e:List (Nat×AV)}:∀{l:List (Nat×AV)},leE e l->∀p∈l,get e p.1=p.2
 | [],_,p,hp=>by cases hp
 | (k,x)::r,h,p,hp=>by
  rcases dQ.1 hp with rfl|hp
  .exact h.1
  .exact M8 h.2 p hp
def yq{e:List (Nat×ao)}:∀{l:List (Nat×ao)},SV e l->∀p∈l,ah e p.1=some p.2
 | [],_,p,hp=>by cases hp
 | (k,x)::r,h,p,hp=>by
  rcases dQ.1 hp with rfl|hp
  .exact h.1
  .exact yq h.2 p hp
def Wk.of{s s':St}(h1:leE s.env s'.env)(h2:SV s.heap s'.heap):Wk s s':=Wk.le (M8 h1) (yq h2)
def Wk.frzs:∀(fs:List Nat)(s:St),Wk s (Mw.frzs fs s)
 | [],s=>Wk.refl s
 | i::r,s=>(Wk.frz s i).trans (Wk.frzs r (s.frz i))
def St.mknil(s:St)(k i st:Nat)(t:TypeId):St:=⟨(k,.ms i st 0 0)::del (s.kill i).env k,(i,⟨t,st,[],false⟩)::(s.kill i).heap⟩
def Wk.nil(s:St)(k i st:Nat)(t:TypeId)(hk:get s.env k = .nl)(hid:i<1000\/2000<=i):Wk s (s.mknil k i st t):=by
 intro c a w hs;obtain⟨bl,hs⟩:=hs.kill i;obtain⟨h1,h2⟩:=fI s i;have hn:=hs.new0 (i:=i) (o:=⟨t,st,[],false⟩) h1 h2 hid rfl rfl;have hk':get (s.kill i).env k = .nl:=by simp[St.kill,i9,hk,jb,mV,mG,mC,mP]
 refine⟨_,hn.defers,hn.size,λj=>?_,?_,hn.step,?_,hn.stab,hn.mf⟩
 all_goals
  have hheap:ah (s.mknil k i st t).heap=ef (ah (s.kill i).heap) i (some ⟨t,st,[],false⟩):=by
   funext j;simp only[St.mknil,ah,ef];by_cases h:i=j
   .rw[au h,au h.symm]
   .rw[ak h,ak (Ne.symm h)]
 .rw[hheap];have hj:=hn.env j;simp only[St.mknil,get];by_cases h:k=j
  .subst h;rw[au rfl];rw[hk']at hj;have hv:tv a k = .slice none 0 0:=by
    simp only[bt,eT,cz,ee]at hj;generalize tv a k=v at hj;cases hj;rfl
   exact .inl ⟨hv,rfl,rfl⟩
  .rw[ak h,sc,ak (Ne.symm h)];exact hj
 .rw[hheap];exact hn.heap
 .rw[hheap];exact hn.own
def KR(r:AV)(σ:List (Nat×ao)):Bool:=(aM r).all (λi=>(ah σ i).isSome)&&σ.all λp=>(dB p.2).all λi=>(ah σ i).isSome
def oX{r:AV}{σ:List (Nat×ao)}(h:KR r σ=true):tQ r σ:=by
 simp only[KR,cW,fk]at h;exact⟨λi hi=>h.1 i hi,λp hp i hi=>h.2 p hp i hi⟩
def done{l:List nS}{Post:AV->List (Nat×ao)->Prop}{s:St}(fs:List Nat)(r:AV)(σ':List (Nat×ao))(h1:sg l (frzs fs s)=some r)(h2:SV (frzs fs s).heap σ')(h3:KR r σ'=true)(h4:Post r σ'):mz l Post .ret s :=
 ⟨(λ_ h=>by cases h),s,Wk.refl s,fs,r,σ',h1,(λi o hi=>yq h2 _ (fT hi)),oX h3,h4⟩
def fH{l:List nS}{Post:AV->List (Nat×ao)->Prop}{s:St}(fs:List Nat)(r:AV)(σ':List (Nat×ao))(h1:sg l (frzs fs s)=some r)(h2:SV (frzs fs s).heap σ')(h3:KR r σ'=true)(h4:Post r σ'):mz l Post .nrm s :=
 ⟨(λ_ h=>by cases h),s,Wk.refl s,fs,r,σ',h1,(λi o hi=>yq h2 _ (fT hi)),oX h3,h4⟩
def eW{l:List nS}{Post:AV->List (Nat×ao)->Prop}{s:St}(fs:List Nat)(r:AV)(σ':List (Nat×ao))(h4:Post r σ')(h1:sg l (frzs fs s)=some r:=by simp only[go_sem])(h2:SV (frzs fs s).heap σ':=by simp only[go_sem])(h3:KR r σ'=true:=by exact rfl):mz l Post .ret s:=done fs r σ' h1 h2 h3 h4
def cR{l:List nS}{Post:AV->List (Nat×ao)->Prop}{s:St}(fs:List Nat)(r:AV)(σ':List (Nat×ao))(h4:Post r σ')(h1:sg l (frzs fs s)=some r:=by simp only[go_sem])(h2:SV (frzs fs s).heap σ':=by simp only[go_sem])(h3:KR r σ'=true:=by exact rfl):mz l Post .nrm s:=fH fs r σ' h1 h2 h3 h4
def ri(n:Int):List AV:=[.int .i64 n]
def ru(n:Int):List AV:=[.int .u8 n]
def rb(b:UInt8):List AV:=[.int .u8 b.toNat]
def rs(s:List UInt8):List AV:=[.str s]
def rt(b:Bool):List AV:=[.bool b]
def aiB(n:Int):ri n=[.int .i64 n]:=rfl
def aiG(n:Int):ru n=[.int .u8 n]:=rfl
def aiy(b:UInt8):rb b=[.int .u8 b.toNat]:=rfl
def aiE(s:List UInt8):rs s=[.str s]:=rfl
def aiF(b:Bool):rt b=[.bool b]:=rfl
section
variable{α:Type}
def H6(id n st row:Nat)(t:TypeId)(f:α->List AV)(l:List α)(v:α)(hn:∀x,(f x).length=n)(hi:(f v).all qm=true) :
  Is id n st row 0 (some ⟨t,st,l.map f,false⟩) (some (f v))=if row<l.length then some (.put id ⟨t,st,(l.set row v).map f,false⟩)else none:=by
 rw[Y_ _ _ _ _ _ _ _ (by simpa using λx _=>hn x)];simp only[hn,hi,bZ,true_and,List.map_set]
def adq(id st row:Nat)(t:TypeId)(l:List Int)(v:Int):Is id 1 st row 0 (some ⟨t,st,l.map ri,false⟩) (some [.int .i64 v])=if row<l.length then some (.put id ⟨t,st,(l.set row v).map ri,false⟩)else none:=H6 id 1 st row t ri l v (λ_=>rfl) rfl
def y9[Inhabited α](id n st row off:Nat)(t:TypeId)(f:α->List AV)(l:List α)(cs:List AV)(g:α->α)(hl:cs.length=n)(hi:cs.all qm=true)(hn:∀x,off+n<=(f x).length)(hg:∀x,iZ (f x) off cs=f (g x)) :
  Is id n st row off (some ⟨t,st,l.map f,false⟩) (some cs)=if row<l.length then some (.put id ⟨t,st,(l.set row (g (ac l row))).map f,false⟩)else none:=by
 simp only[Is,hl,hi,eH,and_self,aN];by_cases h3:row<l.length
 .rw[jt,kZ h3];simp only[gT,hn,aN,h3,hg,List.map_set,bv h3]
 .rw[Ms (by simpa using h3),ak h3]
def bq(id:Nat)(t:TypeId)(st len:Nat)(f:α->List AV)(l:List α)(ys:List (List AV))(hl:l.length=len):xf id t st 0 len ys (some ⟨t,st,l.map f,false⟩) =
  if ys.length<137438953472/\len<137438953472/\(id<1000\/2000<=id)then some (.ms id st 0 (len+ys.length),.reb id ⟨t,st,l.map f++ys,false⟩)else none:=Fo id t st len _ ys (by simpa using hl)
def Oi(id:Nat)(t:TypeId)(st len:Nat)(f:α->List AV)(l:List α)(ys:List (List AV))(hl:len<=l.length):xf id t st 0 len ys (some ⟨t,st,l.map f,false⟩) =
  if ys.length<137438953472/\len<137438953472/\(id<1000\/2000<=id)then some (.ms id st 0 (len+ys.length),.reb id ⟨t,st,(l.take len).map f++ys,false⟩)else none:=by
 simp only[xf,true_and,bZ,hl,List.map_take,CN,and_true];by_cases h1:ys.length<137438953472<;>simp[h1]
def J6(st len:Nat)(t:TypeId)(f:α->List AV)(l:List α)(hl:l.length=len):LS st 0 len (some ⟨t,st,l.map f,false⟩)=some (l.map f):=Ge st len t _ (by simpa using hl)
def Uz(st:Nat)(t:TypeId)(r:List AV):LS st 0 1 (some ⟨t,st,[r],false⟩)=some [r]:=Ge st 1 t _ rfl
end
def wi{n:Int}(h0:-9223372036854775808<=n)(h1:n<9223372036854775808):IntKind.i64.wrap n=n:=by
 unfold IntKind.wrap;show(if(true&&decide (n%18446744073709551616>=9223372036854775808))=true then n%18446744073709551616-18446744073709551616 else n%18446744073709551616)=n;by_cases h:n%18446744073709551616>=9223372036854775808
 .rw[aK h];simp only[bY,aN];omega
 .rw[aL h];simp only[Bool.and_false,gR,bB];omega
attribute[go_sem] leE SV KR aiB aiG aiy aiE aiF adq Uz eB
def Wk.nls(s:St)(k st:Nat)(hk:get s.env k = .nl):Wk s ⟨(k,.sl st [])::s.env,s.heap⟩:=by
 rintro c a w ⟨bl,hs⟩;refine⟨bl,hs.defers,hs.size,λj=>?_,hs.heap,hs.step,hs.own,hs.stab,hs.mf⟩;simp only[get];split
 .rename_i h;subst h;have:=hs.env k;rw[hk]at this;rw[this.nl];exact IRel.nls st
 .exact hs.env j
def IRel.nl_sl{M:Nat->Prop}{w:World}{v:Value}(h:IRel M w v .nl)(st:Nat):IRel M w v (.sl st []):=by
 cases h;exact .nls st
def Vz:List AV->List AV->Prop
 | [],[]=>True
 | x::l,y::m=>(x=y\/(x = .nl/\∃st,y = .sl st []))/\Vz l m
 | _,_=>False
def HA:∀{l m:List AV},Vz l m->m.length=l.length
 | [],[],_=>rfl
 | _::_,_::_,h=>by simp[HA h.2]
 | [],_::_,h=>h.elim
 | _::_,[],h=>h.elim
def Hz:∀{l m:List AV},Vz l m->∀{j:Nat}{y:AV},m[j]?=some y->∃x,l[j]?=some x/\(x=y\/(x = .nl/\∃st,y = .sl st []))
 | [],[],_,j,y,hy=>by simp at hy
 | x::l,z::m,h,0,y,hy=>by simp at hy;subst hy;exact⟨x,rfl,h.1⟩
 | x::l,z::m,h,j+1,y,hy=>by simpa using Hz h.2 (j:=j) (by simpa using hy)
 | [],_::_,h,_,_,_=>h.elim
 | _::_,[],h,_,_,_=>h.elim
def Wk.nlh(s:St)(i:Nat){t:TypeId}{st:Nat}{r r':List AV}(hi:ah s.heap i=some ⟨t,st,[r],true⟩)(hr:Vz r r'):Wk s ⟨s.env,(i,⟨t,st,[r'],true⟩)::s.heap⟩:=by
 rintro c a w ⟨bl,hs⟩;have hm:∀b,bG bl c.MF (ah ((i,⟨t,st,[r'],true⟩)::s.heap)) b↔bG bl c.MF (ah s.heap) b:=bG.congr λj=>by
  simp only[ah];split
  .rename_i h;subst h;rw[hi];rfl
  .rfl
 have ht:=Tr.of_iff (w:=w) λb=>(hm b)
 refine⟨bl,hs.defers,hs.size,λj=>(hs.env j).tr ht (λ_ _=>rfl),⟨λj o hj=>?_,λj j' o o' b h1 h2=>?_⟩,hs.step,λj o b h1=>?_,hs.stab,hs.mf⟩
 .simp only[ah]at hj;split at hj
  .rename_i hij;subst hij;cases hj;rcases hs.heap.1 i _ hi with hn|⟨b,g1,⟨gk,c1,fr,g2,g3,g4,g5,g6,g7⟩|hsp⟩
   .cases hn.2.1
   rotate_left
   .cases hsp.isRec
   .refine .inr ⟨b,g1,.inl ⟨gk,c1,fr,g2,g3,g4,λk q hq=>?_,by simpa using g6,λk q u x hu hx=>?_⟩⟩
    .cases k with
     | zero=>simp at hq;subst hq;rw[HA hr];exact g5 0 r rfl
     | succ k=>simp at hq
    .cases k with
     | succ k=>simp at hu
     | zero =>
      simp at hu;subst hu;obtain⟨x0,h1,h2⟩:=Hz hr hx;obtain⟨v,hv1,hv2⟩:=g7 0 q r x0 rfl h1;refine⟨v,hv1,?_⟩;have hv3:cz bl (bG bl c.MF (ah s.heap)) w v x0:=hv2;rcases h2 with h2|⟨h2,st',h3⟩
      .subst h2;exact hv3.tr ht (λ_ _=>rfl)
      .subst h2 h3;have:IRel (bG bl c.MF (ah s.heap)) w v .nl:=hv3;exact(IRel.toC (bl:=bl) (IRel.nl_sl this st')).tr ht (λ_ _=>rfl)
  .rcases hs.heap.1 j o hj with hn|⟨b,g1,⟨gk,c1,fr,g2,g3,g4,g5,g6,g7⟩|hsp⟩
   .exact .inl hn
   rotate_left
   .exact .inr ⟨b,g1,.inr hsp⟩
   .refine .inr ⟨b,g1,.inl ⟨gk,c1,fr,g2,g3,g4,g5,g6,λk q u x hu hx=>?_⟩⟩;obtain⟨v,hv1,hv2⟩:=g7 k q u x hu hx;refine⟨v,hv1,?_⟩;cases hrec:o.isRec<;>simp only[hrec,Bx]at hv2⊢
    .exact hv2.tr ht.keep
    .exact hv2.tr ht (λ_ _=>rfl)
 .have key:∀{j:Nat}{o:ao},ah ((i,⟨t,st,[r'],true⟩)::s.heap) j=some o->∃o',ah s.heap j=some o':=λ{j o} hj=>by
   simp only[ah]at hj;split at hj
   .rename_i hij;subst hij;exact⟨_,hi⟩
   .exact⟨_,hj⟩
  obtain⟨p1,q1⟩:=key h1;obtain⟨p2,q2⟩:=key h2;exact hs.heap.2 j j' p1 p2 b q1 q2
 .simp only[ah]at h1;split at h1
  .rename_i hij;subst hij;exact hs.own i _ b hi
  .exact hs.own j o b h1
def aJ{l:List nS}{Post:AV->List (Nat×ao)->Prop}{s s1:St}(hw:Wk s s1)(fs:List Nat)(r:AV)(σ':List (Nat×ao))(h1:sg l (frzs fs s1)=some r)(h2:SV (frzs fs s1).heap σ')(h3:KR r σ'=true)(h4:Post r σ'):mz l Post .ret s :=
 ⟨(λ_ h=>by cases h),s1,hw,fs,r,σ',h1,(λi o hi=>yq h2 _ (fT hi)),oX h3,h4⟩
def bN{l:List nS}{r:AV}{s s1:St}(hw:Wk s s1)(fs:List Nat)(h:sg l (frzs fs s1)=some r)(h2:aM r=[]):AY l r .ret s:=⟨(λ_ h=>by cases h),s1,hw,fs,h,h2⟩
inductive Ty where
 | bool
 | int (k:IntKind)
 | str
 | sl (e:Ty)
 | nil
 | cons (f:Ty) (r:Ty)
 deriving Inhabited
def Ty.n:Ty->Nat
 | .nil=>0
 | .cons f r=>f.n+r.n
 | _=>1
def Ty.ok:Ty->List AV->Prop
 | .bool,xs=>∃b,xs=[.bool b]
 | .int k,xs=>∃n,xs=[.int k n]/\(Lit.int k n).wf=true
 | .str,xs=>∃s,xs=[.str s]/\s.length<=maxLen
 | .sl e,xs=>xs=[.nl]\/∃rows,xs=[.sl e.n rows]/\rows.length<=maxLen/\∀r∈rows,e.ok r
 | .nil,xs=>xs=[]
 | .cons f r,xs=>∃ys zs,xs=ys++zs/\f.ok ys/\r.ok zs
def Ty.ok_len:∀(τ:Ty)(xs:List AV),τ.ok xs->xs.length=τ.n
 | .bool,xs,h=>by obtain⟨b,rfl⟩:=h;rfl
 | .int k,xs,h=>by obtain⟨n,rfl,_⟩:=h;rfl
 | .str,xs,h=>by obtain⟨s,rfl,_⟩:=h;rfl
 | .sl e,xs,h=>by rcases h with rfl|⟨rows,rfl,_⟩<;>rfl
 | .nil,xs,h=>by subst h;rfl
 | .cons f r,xs,h=>by
  obtain⟨ys,zs,rfl,h1,h2⟩:=h;simp only[cP,Ty.n,Ty.ok_len f ys h1,Ty.ok_len r zs h2]
def Eb(g:TypeId->Option Ty)(P:Program)(off:Nat):List Field->Option Ty
 | []=>some .nil
 | f::r=>if f.offset=off then(match g f.type,Eb g P (off+P.cellsOf f.type) r with
  | some a,some b=>if a.n=P.cellsOf f.type then some (.cons a b)else none
  | _,_=>none)else none
def vV(P:Program):Nat->TypeId->Option Ty
 | 0,_=>none
 | f+1,t=>match P.underlying t with
  | some .bool=>some .bool
  | some (.int k)=>some (.int k)
  | some .string=>some .str
  | some (.slice e)=>match vV P f e with
   | some a=>if a.n=P.cellsOf e/\0<a.n then some (.sl a)else none
   | none=>none
  | some (.struct fs)=>match Eb (vV P f) P 0 fs.toList with
   | some a=>if a.n=P.cellsOf t then some a else none
   | none=>none
  | _=>none
def Jg{α β:Type}{g:α->Option β}:∀{l:List α}{r:List β},l.mapM g=some r->r.length=l.length/\∀(i:Nat)(x:α),l[i]?=some x->∃y,r[i]?=some y/\g x=some y
 | [],r,h=>by
  simp only[List.mapM_nil,pure,cZ]at h;subst h;exact⟨rfl,λi x hx=>by simp at hx⟩
 | a::l,r,h=>by
  simp only[List.mapM_cons,bind,vb,pure,cZ]at h;obtain⟨y,h1,ys,h2,rfl⟩:=h;obtain⟨h3,h4⟩:=Jg h2;refine⟨by simp[h3],λi x hx=>?_⟩;cases i with
  | zero =>
   simp only[List.getElem?_cons_zero,cZ]at hx;subst hx;exact⟨y,rfl,h1⟩
  | succ i=>exact h4 i x (by simpa using hx)
def xt{β:Type}{g:Nat->Option β}{n:Nat}{r:List β}(h:(List.range n).mapM g=some r):r.length=n/\∀i,i<n->∃y,r[i]?=some y/\g i=some y:=by
 obtain⟨h1,h2⟩:=Jg h;exact⟨by simpa using h1,λi hi=>h2 i i (by simp[hi])⟩
def Fw{w:World}{base:Nat}{a:Addr}{n:Nat}{cs:List Value}(h:w.cells? base a n=some cs):cs.length=n/\∀j,j<n->∃y,cs[j]?=some y/\w.cell? (a.add j)=some y:=by
 unfold World.cells? at h;split at h
 .exact xt h
 .cases h
def CD{w:World}{a:Addr}{v:Value}(h:w.cell? a=some v):a.spot=none/\∃c t fr,w.heap[a.block]?=some (.cells c t fr)/\c[a.off]?=some v:=by
 unfold World.cell? at h;split at h
 case h_2=>cases h
 rename_i c t fr hb;split at h
 .cases h
 .rename_i hs;exact⟨by simpa using hs,c,t,fr,hb,h⟩
section
variable{H:Type}{enc:TypeId×Value->H}{P:Program}{w:World}{base:Nat}{sp:Nat->Bool}{held:Bool}
def FI{g:TypeId->Option Ty}{r:TypeId->List Value->Option (DataW H×List MemPlace)}(ih:∀t cs τ x,g t=some τ->r t cs=some x->∃xs,τ.ok xs/\aZ (IRel (λ_=>False) w) cs xs)(cs:List Value) :
  ∀(fs:List Field)(off:Nat)(τ:Ty)(xs:List (DataW H×List MemPlace)),Eb g P off fs=some τ->(fs.mapM λf=>r f.type ((cs.drop f.offset).take (P.cellsOf f.type)))=some xs->off+τ.n=cs.length ->
   ∃ys,τ.ok ys/\aZ (IRel (λ_=>False) w) (cs.drop off) ys
 | [],off,τ,xs,ht,_,hn=>by
  simp only[Eb,cZ]at ht;subst ht;refine⟨[],rfl,?_⟩;rw[If (by simp[Ty.n]at hn;omega)];trivial
 | f::fs,off,τ,xs,ht,hm,hn=>by
  simp only[Eb]at ht;split at ht
  case isFalse=>cases ht
  rename_i hoff;split at ht
  case h_2=>cases ht
  rename_i a b ha hb;split at ht
  case isFalse=>cases ht
  rename_i hsz;cases ht;simp only[List.mapM_cons,bind,vb,pure,cZ]at hm;obtain⟨y,h1,zs,h2,rfl⟩:=hm;obtain⟨xs1,h3,h4⟩:=ih _ _ _ _ ha h1;simp only[Ty.n]at hn;obtain⟨xs2,h5,h6⟩:=FI ih cs fs (off+P.cellsOf f.type) b zs hb h2 (by omega);refine⟨xs1++xs2,⟨xs1,xs2,rfl,h3,h5⟩,?_⟩;rw[hoff]at h4;have:cs.drop off=(cs.drop off).take (P.cellsOf f.type)++cs.drop (off+P.cellsOf f.type):=by
   rw[<-AH,Ku]
  rw[this];exact h4.append h6
def Zg:∀(fuel f:Nat)(t:TypeId)(cs:List Value)(τ:Ty)(x:DataW H×List MemPlace),vV P f t=some τ->DataW.trod enc P w base sp held fuel t cs=some x->∃xs,τ.ok xs/\aZ (IRel (λ_=>False) w) cs xs:=by
 intro fuel
 induction fuel with
 | zero=>intro f t cs τ x _ h;simp[DataW.trod]at h
 | succ fuel ih =>
  intro f t cs τ x ht h;cases f with
  | zero=>simp[vV]at ht
  | succ f =>
   simp only[vV]at ht;split at ht
   case h_1 hu =>
    cases ht;unfold DataW.trod at h;split at h<;>rename_i heq<;>first|(rw[hu]at heq;cases heq;done)|(cases h;done)|skip
    rename_i b;exact⟨[.bool b],⟨b,rfl⟩,.bool b,trivial⟩
   case h_2 k hu =>
    cases ht;unfold DataW.trod at h;split at h<;>rename_i heq<;>first|(rw[hu]at heq;cases heq;done)|(cases h;done)|skip
    rename_i k' k1 n;rw[hu]at heq;cases heq;split at h
    .rename_i hk;obtain⟨rfl,hwf⟩:=hk;exact⟨[.int _ n],⟨n,rfl,hwf⟩,.int _ n,trivial⟩
    .cases h
   case h_3 hu =>
    cases ht;unfold DataW.trod at h;split at h<;>rename_i heq<;>first|(rw[hu]at heq;cases heq;done)|(cases h;done)|skip
    rename_i s;split at h
    .rename_i hs;refine⟨[.str s.data.toList],⟨_,rfl,by simpa using hs⟩,?_,trivial⟩;have:=IRel.str (M:=λ_=>False) (w:=w) s.data.toList;simpa using this
    .cases h
   case h_4 e hu =>
    split at ht
    case h_2=>cases ht
    rename_i a ha;split at ht
    case isFalse=>cases ht
    rename_i hsz;cases ht;unfold DataW.trod at h;split at h<;>rename_i heq<;>first|(rw[hu]at heq;cases heq;done)|(cases h;done)|skip
    .exact⟨[.nl],.inl rfl,.nl,trivial⟩
    .rename_i e1 ad len cap;rw[hu]at heq;cases heq;simp only at h;split at h
     case isFalse=>cases h
     rename_i hcap;simp only[vb]at h;obtain⟨elems,hel,_⟩:=h;obtain⟨hlen,ah⟩:=xt hel;have hrow:∀i,i<len->∃row xs,w.cells? base (ad.add (i*P.cellsOf e)) (P.cellsOf e)=some row/\a.ok xs/\aZ (IRel (λ_=>False) w) row xs:=λi hi=>by
      obtain⟨y,_,h2⟩:=ah i hi;simp only[vb]at h2;obtain⟨row,h3,h4⟩:=h2;obtain⟨xs,h5,h6⟩:=ih f e row a y ha h4;exact⟨row,xs,h3,h5,h6⟩
     by_cases h0:len=0
     .subst h0;exact⟨[.sl a.n []],.inr ⟨[],rfl,cm _,λr hr=>by cases hr⟩,.sl0 _ _ _,trivial⟩
     have hn:0<P.cellsOf e:=by omega
     have hcell:∀i j,i<len->j<P.cellsOf e->∀row,w.cells? base (ad.add (i*P.cellsOf e)) (P.cellsOf e)=some row->∃y,row[j]?=some y/\w.cell? ((ad.add (i*P.cellsOf e)).add j)=some y:=λi j hi hj row hr=>(Fw hr).2 j hj;obtain⟨row0,xs0,r1,_,_⟩:=hrow 0 (by omega);obtain⟨y0,_,c0⟩:=hcell 0 0 (by omega) hn row0 r1;obtain⟨hspot,c,tt,fr,hb,_⟩:=CD c0;have hspot':ad.spot=none:=by simpa[Addr.add]using hspot
     have hblk:∀(q:Addr) m,(q.add m).block=q.block:=λq m=>by unfold Addr.add;split<;>rfl
     have hoff:∀(q:Addr) m,(q.add m).off=q.off+m:=λq m=>by
      unfold Addr.add;split
      .rename_i hm;simp[hm]
      .rfl
     rw[hblk,hblk]at hb;have hval:∀i j,i<len->j<P.cellsOf e->∀row,w.cells? base (ad.add (i*P.cellsOf e)) (P.cellsOf e)=some row->∃y,row[j]?=some y/\c[ad.off+i*P.cellsOf e+j]?=some y:=λi j hi hj row hr=>by
      obtain⟨y,g1,g2⟩:=hcell i j hi hj row hr;obtain⟨_,c',t',fr',g3,g4⟩:=CD g2;rw[hblk,hblk,hb]at g3;cases g3;rw[hoff,hoff]at g4;exact⟨y,g1,g4⟩
     let R:Nat->List Value:=λi=>if hi:i<len then Classical.choose (hrow i hi)else[]
     let X:Nat->List AV:=λi=>if hi:i<len then Classical.choose (Classical.choose_spec (hrow i hi))else[]
     have hRX:∀i,i<len->w.cells? base (ad.add (i*P.cellsOf e)) (P.cellsOf e)=some (R i)/\a.ok (X i)/\aZ (IRel (λ_=>False) w) (R i) (X i):=λi hi=>by
      have:=Classical.choose_spec (Classical.choose_spec (hrow i hi));simp only[R,X,hi,dif_pos];exact this
     have hrows:∀(i:Nat)(r:List AV),((List.range len).map X)[i]?=some r->i<len/\r=X i:=λi r hr=>by
      simp only[jt,dU]at hr;obtain⟨j,h1,h2⟩:=hr;have h3:=js.1 h1;obtain⟨h4,h5⟩:=h3;simp at h4 h5;subst h5;exact⟨h4,h2.symm⟩
     refine⟨[.sl a.n ((List.range len).map X)],.inr ⟨_,rfl,by simp;omega,λr hr=>?_⟩,?_,trivial⟩
     .obtain⟨i,hi,rfl⟩:=gG.1 hr;exact(hRX i (by simpa using hi)).2.1
     .obtain⟨bk,of,so⟩:=ad;simp only at hspot';subst hspot';have hll:((List.range len).map X).length=len:=by simp
      have key:=IRel.sl (M:=λ_=>False) (w:=w) bk of cap a.n c tt fr ((List.range len).map X) (λi j=>(R i).getD j undef) hb (λh=>h) (by rw[hll];omega)
       (λi r hr=>by obtain⟨h1,rfl⟩:=hrows i r hr;exact Ty.ok_len _ _ (hRX i h1).2.1)
       (λi j hi hj=>by
        rw[hll]at hi;rw[hsz.1]at hj⊢;obtain⟨y,g1,g2⟩:=hval i j hi hj _ (hRX i hi).1;rw[g2,List.getD_eq_getElem?_getD,g1];rfl)
       (λi j r x hr hx=>by
        obtain⟨h1,rfl⟩:=hrows i r hr;obtain⟨y,g1,g2⟩:=(hRX i h1).2.2.get hx;rw[List.getD_eq_getElem?_getD,g1];exact g2)
      rw[hll]at key;exact key
   case h_5 fs hu =>
    split at ht
    case h_2=>cases ht
    rename_i a ha;split at ht
    case isFalse=>cases ht
    rename_i hsz;cases ht;unfold DataW.trod at h;split at h<;>rename_i heq<;>first|(rw[hu]at heq;cases heq;done)|(cases h;done)|skip
    .rename_i cs1 fs1;rw[hu]at heq;cases heq;split at h
     case isFalse=>cases h
     rename_i hcl;simp only[dU]at h;obtain⟨xs,h1,_⟩:=h;have:=FI (P:=P) (g:=vV P f) (r:=λt cs=>DataW.trod enc P w base sp held fuel t cs) (λt cs τ x=>ih f t cs τ x) _ _ 0 _ xs ha h1 (by omega);simpa using this
   case h_6=>cases ht
end
open Go.ChangeShapes Go.WideShapes Go.ChangeAt Go.RowKit
section
variable{H:Type}{enc:TypeId×Value->H}{P:Program}[bJ P]
structure Iu(w w':World):Prop where
 size:w.heap.size<=w'.heap.size
 old:∀b,b<w.heap.size->w'.heap[b]? = w.heap[b]?
 os:w'.os=w.os
 out:w'.output=w.output
def IRel.toV{bl:Nat->Option Nat}{M:Nat->Prop}{w:World}{v:Value}{x:AV}(h:IRel M w v x):bt bl M w v x:=h.toC.toG.toV
def Iu.frame{w w':World}(h:Iu w w')(may:MemPlace->Prop):w.keptBut w' may:=by
 refine⟨h.os,h.out,λi hi=>?_⟩;rw[h.old i hi];cases ho:w.heap[i]? with
 | none=>rfl
 | some o =>
  cases o with
  | cells c t fr=>exact⟨rfl,rfl,rfl,λ_ _=>rfl⟩
  | map es clock=>exact .inr ⟨rfl,rfl⟩
  | _=>rfl
def Iu.frozen{w w':World}(h:Iu w w'){a:Addr}(ha:a.block<w.heap.size):w'.frozen? a=w.frozen? a:=World.frozen?_of_block (w:=w) (h.old a.block ha)
def Iu.same{w w':World}(h:Iu w w'){p:MemPlace}(hp:p.block<w.heap.size):w.sameAt w' p:=by
 cases p with
 | cell b off=>exact World.cell?_of_block (w:=w) (h.old b hp)
 | map b=>exact h.old b hp
def w9(hl:laidOutB P=true){W W':World}{sp:Nat->Bool}:∀{ts:List TypeId}{vs:List Value}{ds:List (DataW H)}{ps:List MemPlace},(∀t∈ts,P.readableRec t=true/\t<P.types.size) ->
  DataW.TrodAll enc P W 0 (λ_=>true) true ts vs ds ps->(∀p∈ps,W.sameAt W' p)->(∀p∈ps,sp p.block=true)->DataW.TrodAll enc P W' 0 sp true ts vs ds ps
 | [],[],[],ps,_,h,_,_=>h
 | t::ts,v::vs,d::ds,ps,hr,h,h1,h2=>by
  obtain⟨p,q,h3,h4,rfl⟩:=h
  exact⟨p,q,WideElems.Trod_stays hl (hr t (by simp)).1 (hr t (by simp)).2 h3 (λx hx=>h1 x (by simp[hx])) (λx hx=>h2 x (by simp[hx])),
   w9 hl (λt ht=>hr t (by simp[ht])) h4 (λx hx=>h1 x (by simp[hx])) (λx hx=>h2 x (by simp[hx])),rfl⟩
 | [],_::_,_,_,_,h,_,_=>h.elim
 | [],[],_::_,_,_,h,_,_=>h.elim
 | _::_,[],_,_,_,h,_,_=>h.elim
 | _::_,_::_,[],_,_,h,_,_=>h.elim
def ST{f:Func}{s:ChangeSpec}{apart fresh handsOn again:Bool}{W W':World}{args:Array Value}{ds gs:List (DataW H)}{before:List MemPlace}{tb:TypeId}(hl:laidOutB P=true)
  (hr:∀t∈f.params.toList,P.readableRec t=true/\t<P.types.size) (hv:s.vars=[]) (hfn:(s.fn H (ds++gs)).results=[.lit (.bool true)]) (hfa:(s.fn H (ds++gs)).args=ds) (hfv:(s.fn H (ds++gs)).vars=[])
  (hrt:f.resultTypes = #[tb]) (htb:P.underlying tb=some .bool) (hW:DataW.Whole enc P f.params.toList s.vars apart W args.toList ds gs before) (hk:Iu W W') :
  s.post enc P f apart fresh handsOn again W args (.bool true) W':=by
 have hlt:=hW.lt;have hW0:=hW;obtain⟨p,q,hA,hV,rfl,hz,hn⟩:=hW0;rw[hv]at hV;obtain⟨rfl,rfl⟩:=trodVars_none hV;rw[m_]at *;have hsame:∀x∈p,W.sameAt W' x:=λx hx=>hk.same (by simpa using hlt x hx);have hargs:∀sp:Nat->Bool,(∀x∈p,sp x.block=true)->DataW.TrodAll enc P W' 0 sp true f.params.toList args.toList ds p:=λsp hsp=>w9 hl hr hA hsame hsp;have hres:∀(b:Nat)(sp:Nat->Bool)(hd:Bool),DataW.TrodAll enc P W' b sp hd f.resultTypes.toList ((Value.bool true).resultList f.resultTypes.size) [.lit (.bool true)] []:=λb sp hd=>by
  rw[hrt];exact trodAll_cons_mk (shut_bool htb _) trodAll_mk0
 have hvars:∀sp:Nat->Bool,DataW.TrodVars enc P W' sp s.vars [] []:=λsp=>by rw[hv];rfl
 refine⟨ds,[],p,[],p,[],by simpa using hW,by rw[m_,hfn];exact hres _ _ _,by rw[m_,hfa];exact hargs _ (λx hx=>by simpa using hlt x (by simpa using hx)),by rw[m_,hfv];exact hvars _,hk.frame _,λ_=>?_⟩;refine⟨ok_one hrt rfl (okWide_bool_mk htb _),[.lit (.bool true)]++ds,[],p,⟨[]++p,[],trodAll_append (hargs _ (λ_ _=>rfl)) (hres _ _ _),hvars _,by simp,?_,?_⟩,λx hx _=>hx⟩
 .intro b off hp;have hb:b<W.heap.size:=hlt (.cell b off) (by simpa using hp);have:=hz b off (by simpa using hp);rw[hk.frozen (a:=⟨b,off,none⟩) hb];exact this
 .intro ha;simpa using hn ha
end
def Ty.isRec:Ty->Bool
 | .nil=>true
 | .cons _ _=>true
 | _=>false
def Ty.okV(τ:Ty)(x:AV):Prop:=match τ.isRec with
 | true=>∃xs,x = .agg xs/\τ.ok xs
 | false=>τ.ok [x]
section
variable{H:Type}{enc:TypeId×Value->H}{P:Program}[bJ P]{w:World}{base:Nat}{sp:Nat->Bool}{held:Bool}
def Mk{g:TypeId->Option Ty}:∀{fs:List Field}{off:Nat}{τ:Ty},Eb g P off fs=some τ->τ.isRec=true
 | [],off,τ,h=>by simp only[Eb,cZ]at h;subst h;rfl
 | f::fs,off,τ,h=>by
  simp only[Eb]at h;split at h
  case isFalse=>cases h
  split at h
  case h_2=>cases h
  split at h
  case isFalse=>cases h
  cases h;rfl
def JV{f:FuncId}{args:List AV}{r:Bool}(hp:aj P f args (.bool r)){w:World}{cargs:List Value}(hT:(bJ.T P).H w)(ha:aZ (bt (λ_=>none) (λ_=>False) w) cargs args) :
  Calls P f cargs.toArray w λe w'=>e = .returned (.bool r)/\Iu w w':=by
 have hM:bG (λ_=>none) (λ_=>False) (ah [])=λ_=>False:=by
  funext b;apply propext;constructor
  .rintro(h|⟨i,o,h,_⟩)
   .exact h
   .simp[ah]at h
  .exact False.elim
 refine(hp (λ_=>none) (λ_=>False) w cargs hT (λ_ _ hm=>hm.elim id λ⟨_,_,hi,_⟩=>by simp[ah]at hi) ⟨λi o h=>by simp[ah]at h,λi _ o _ _ h=>by simp[ah]at h⟩ (λ_ h=>h.elim) (by rw[hM];exact ha)).mono λe w'=>?_;rintro⟨v,r',σ',bl',rfl,⟨rfl,rfl⟩,_,_,hv,hst,_,_⟩;have hv':=hv.bool;subst hv';exact⟨rfl,hst.size,λb hb=>hst.keep b hb (λ⟨i,o,h,_⟩=>by simp[ah]at h),hst.os,hst.out⟩
end
def fw:List (Nat×Nat)->Nat->Nat
 | [],i=>i
 | (a,b)::r,i=>fw r (i5 a b i)
def bw:List (Nat×Nat)->Nat->Nat
 | [],i=>i
 | (a,b)::r,i=>i5 a b (bw r i)
def ux:∀(ps:List (Nat×Nat))(i:Nat),bw ps (fw ps i)=i
 | [],_=>rfl
 | (a,b)::r,i=>by simp only[fw,bw,ux r,lk]
def FP:∀(ps:List (Nat×Nat))(i:Nat),fw ps (bw ps i)=i
 | [],_=>rfl
 | (a,b)::r,i=>by simp only[fw,bw,lk,FP r]
def dE:List Nat->List (Nat×AV)->List (Nat×AV)
 | [],e=>e
 | k::ks,e=>oi k (dE ks e)
def dy:List Nat->List (Nat×ao)->List (Nat×ao)
 | [],e=>e
 | k::ks,e=>oq k (dy ks e)
def Pv(e:List (Nat×AV)):dE [] e=e:=rfl
def LH(k:Nat)(ks:List Nat)(e:List (Nat×AV)):dE (k::ks) e=oi k (dE ks e):=rfl
def Pw(e:List (Nat×ao)):dy [] e=e:=rfl
def LJ(k:Nat)(ks:List Nat)(e:List (Nat×ao)):dy (k::ks) e=oq k (dy ks e):=rfl
attribute[go_sem] Pv LH Pw LJ
def Sp(a b:Bool)(x:AV)(p:AV->Bool)(hp:p .any=false)(hx:p x=a):(if p (if b=true then .any else x)=true then AV.any else(if b=true then .any else x))=if(a||b)=true then .any else x:=by
 cases b<;>cases a<;>simp_all
def acK(k:Nat)(ks:List Nat)(x:AV):jb k (tu ks x)=tu (k::ks) x:=by
 have:=Sp (mV k x) (ks.any λi=>mV i x) x (mV k) rfl rfl;exact this
def acC(k:Nat)(ks:List Nat)(x:AV):BW k (Bo ks x)=Bo (k::ks) x:=by
 have:=Sp (mC k x) (ks.any λi=>mC i x) x (mC k) rfl rfl;exact this
def acH(k:Nat)(ks:List Nat)(o:ao):ez k (iI ks o)=iI (k::ks) o:=by
 unfold ez iI;by_cases h:o.isRec=true
 .simp only[h,aN,List.map_map];congr 1;funext;apply Kv;intro r _;simp only[Function.comp,List.map_map];apply Kv;intro x _;exact acC k ks x;rw[au h]
 .simp[h]
def oE(k:Nat):∀(ks:List Nat)(e:List (Nat×AV)),get (dE ks e) k=tu ks (get e k)
 | [],e=>by simp[dE,tu]
 | i::ks,e=>by rw[dE,i9,oE k ks,acK]
def kQ(k:Nat):∀(ks:List Nat)(e:List (Nat×ao)),ah (dy ks e) k=(ah e k).map (iI ks)
 | [],e=>by
  have:iI []=id:=by
   funext o;unfold iI Bo;simp
  simp[dy,this]
 | i::ks,e=>by
  rw[dy,eZ,kQ k ks,Option.map_map];congr 1;funext o;exact acH i ks o
def CZ(j:Nat):∀(a b:List (Nat×ao)),ah (a++b) j=match ah a j with
  | some o=>some o
  | none=>ah b j
 | [],b=>rfl
 | (k,o)::r,b=>by
  simp only[mr,ah];split
  .rfl
  .exact CZ j r b
section
variable{P:Program}[bJ P]
def dX{f:FuncId}{args0 args:List AV}{σ0 σ2 σ1 σ3:List (Nat×ao)}{Sb:Nat->Prop}{r1 r3:AV}{d:Option Nat}{s:St}{K:St->Prop}
  (h:aQ P f args0 σ0 Sb (λr σ'=>r=r1/\σ'=σ1)) (ps:List (Nat×Nat)) (ks:List Nat)
  (ha:args.map (m0 (bw ps))=args0) (hσ:iX (bw ps) σ2=σ0) (hr:m0 (fw ps) r1=r3) (h3:iX (fw ps) σ1=σ3)
  (hin:∀p∈σ2,ah s.heap p.1=some p.2)
  (hout:∀p∈σ3,(Sb (bw ps p.1)/\(ah σ2 p.1).isSome=true)\/(p.1∈ks/\(p.1<1000\/2000<=p.1)/\((ah σ2 p.1).isSome=true\/ah s.heap p.1=none)))
  (hall:∀p∈σ2,(ah σ3 p.1).isSome=true)
  (hk:K ((St.mk (dE ks s.env) (σ3++dy ks s.heap)).put d r3)):cO P f args d s K:=by
 have h':=h.ren (args2:=args) (σ2:=σ2) (fw ps) (bw ps) (ux ps) (FP ps) ha hσ;refine .inl (.inr ⟨σ2,_,_,ks,h',λid o hh=>hin (id,o) (fT hh),?_,?_⟩)
 .rintro r σ' ⟨r0,σ4,⟨rfl,rfl⟩,rfl,rfl⟩ id hid;rw[h3]at hid;obtain⟨o,ho⟩:=Id.1 hid;exact hout (id,o) (fT ho)
 .rintro r σ' ⟨r0,σ4,⟨rfl,rfl⟩,rfl,rfl⟩;rw[hr,h3];refine⟨⟨dE ks s.env,σ3++dy ks s.heap⟩,λk=>oE k ks s.env,λj=>?_,hk⟩;simp only[CZ,Jj];cases hn:ah σ3 j with
  | some o=>rfl
  | none =>
   simp only;by_cases h2:(ah σ2 j).isSome=true
   .obtain⟨o,ho⟩:=Id.1 h2;have:=hall (j,o) (fT ho);simp only at this;rw[hn]at this;cases this
   .rw[ak h2,kQ]
def IG{f:FuncId}{args:List AV}{σ0 σ1:List (Nat×ao)}{Sb:Nat->Prop}{r1:AV}{d:Option Nat}{s:St}{K:St->Prop}
  (h:aQ P f args σ0 Sb (λr σ'=>r=r1/\σ'=σ1)) (ks:List Nat)
  (hin:∀p∈σ0,ah s.heap p.1=some p.2)
  (hout:∀p∈σ1,(Sb p.1/\(ah σ0 p.1).isSome=true)\/(p.1∈ks/\(p.1<1000\/2000<=p.1)/\((ah σ0 p.1).isSome=true\/ah s.heap p.1=none)))
  (hall:∀p∈σ0,(ah σ1 p.1).isSome=true)
  (hk:K ((St.mk (dE ks s.env) (σ1++dy ks s.heap)).put d r1)):cO P f args d s K:=by
 refine .inl (.inr ⟨σ0,_,_,ks,h,λid o hh=>hin (id,o) (fT hh),?_,?_⟩)
 .rintro r σ' ⟨rfl,rfl⟩ id hid;obtain⟨o,ho⟩:=Id.1 hid;exact hout (id,o) (fT ho)
 .rintro r σ' ⟨rfl,rfl⟩;refine⟨⟨dE ks s.env,σ'++dy ks s.heap⟩,λk=>oE k ks s.env,λj=>?_,hk⟩;simp only[CZ,Jj];cases hn:ah σ' j with
  | some o=>rfl
  | none =>
   simp only;by_cases h2:(ah σ0 j).isSome=true
   .obtain⟨o,ho⟩:=Id.1 h2;have:=hall (j,o) (fT ho);simp only at this;rw[hn]at this;cases this
   .rw[ak h2,kQ]
def aaS{f:FuncId}{args:List AV}{k:Nat}{ob ob':ao}{Sb:Nat->Prop}{r:AV}{d:Option Nat}{s:St}{K:St->Prop}
  (h:aQ P f args [(k,ob)] Sb (λr' σ'=>r'=r/\σ'=[(k,ob')])) (hs:Sb k) (hk:ah s.heap k=some ob) (hK:K ((St.mk s.env ((k,ob')::s.heap)).put d r)):cO P f args d s K:=by
 refine IG h [] (λp hp=>?_) (λp hp=>?_) (λp hp=>?_) (by simpa only[dE,dy,mr,fo]using hK)
 .simp only[jJ]at hp;subst hp;exact hk
 .simp only[jJ]at hp;subst hp;exact .inl ⟨hs,by simp[ah]⟩
 .simp only[jJ]at hp;subst hp;simp[ah]
def PI(ρ:Nat->Nat)(x:AV)(hx:mN x=[]):rz ρ x=x:=by cases x<;>first|rfl|(simp[mN]at hx)
def rA{ρ:Nat->Nat}{f:AV->List Nat}{r:AV->AV}(hh:∀x,f x=[]->r x=x):∀l:List AV,l.flatMap f=[]->l.map r=l
 | [],_=>rfl
 | y::l,hl=>by
  simp only[B1,List.append_eq_nil_iff]at hl;simp only[eG,hh y hl.1,rA (ρ:=ρ) hh l hl.2]
def Ap(ρ:Nat->Nat)(x:AV)(hx:kx x=[]):qy ρ x=x:=by
 cases x with
 | fn f caps=>simp only[qy,rA (ρ:=ρ) (PI ρ) caps hx]
 | _=>first|rfl|(simp[kx,mN]at hx)
def Aq(ρ:Nat->Nat)(x:AV)(hx:o8 x=[]):vR ρ x=x:=by
 cases x with
 | agg cells=>simp only[vR,rA (ρ:=ρ) (Ap ρ) cells hx]
 | fn f caps=>exact Ap ρ (.fn f caps) hx
 | _=>first|rfl|(simp[o8,kx,mN]at hx)
def rB(ρ:Nat->Nat)(x:AV)(hx:aM x=[]):m0 ρ x=x:=by
 cases x with
 | tup vs=>simp only[m0,rA (ρ:=ρ) (Aq ρ) vs hx]
 | agg cells=>exact Aq ρ (.agg cells) hx
 | fn f caps=>exact Aq ρ (.fn f caps) hx
 | _=>first|rfl|(simp[aM,o8,kx,mN]at hx)
def fZ(ρ:Nat->Nat)(o:ao)(hx:dB o=[]):iY ρ o=o:=by
 unfold iY;split
 .rename_i hr;have:∀rows:List (List AV),rows.flatMap (λr=>r.flatMap kx)=[]->rows.map (λr=>r.map (qy ρ))=rows:=λrows=>by
   induction rows with
   | nil=>exact λ_=>rfl
   | cons r l ih =>
    intro hl;simp only[B1,List.append_eq_nil_iff]at hl;simp only[eG,ih hl.2,rA (ρ:=ρ) (Ap ρ) r hl.1]
  simp only[dB,hr,aN]at hx;rw[this _ hx]
 .rfl
def kX(ρ:Nat->Nat):∀l:List AV,(∀x∈l,aM x=[])->l.map (m0 ρ)=l
 | [],_=>rfl
 | x::l,h=>by simp only[eG,rB ρ x (h x (by simp)),kX ρ l λy hy=>h y (by simp[hy])]
def qW{f:FuncId}{args:List AV}{d:Option Nat}{s:St}{K:St->Prop}{Sb:Nat->Prop}{id st:Nat}{o:ao}(h:aQ P f args [] Sb (λr σ'=>r = .mp id st 0 0/\σ'=[(id,o)]))(ho:dB o=[])(hargs:∀x∈args,aM x=[])
  (j:Nat) (hj:j<1000\/2000<=j) (hfree:ah s.heap j=none) (hk:K ((St.mk (oi j s.env) ((j,o)::oq j s.heap)).put d (.mp j st 0 0))):cO P f args d s K:=by
 have e1:i5 id j id=j:=by simp[i5]
 refine dX (σ2:=[]) (r3:=.mp j st 0 0) (σ3:=[(j,o)]) h [(id,j)] [j] (kX _ args hargs) rfl ?_ ?_ (λp hp=>by cases hp) (λp hp=>?_) (λp hp=>by cases hp) ?_
 .simp only[fw,m0,vR,qy,rz,e1]
 .simp only[iX,fw,e1,fZ _ o ho]
 .simp only[jJ]at hp;subst hp;exact .inr ⟨by simp,hj,.inr hfree⟩
 .simpa only[dE,dy,mr,fo]using hk
def aQ.at_{f:FuncId}{st:Nat}{rest:List AV}{ob ob':ao}{Sb:Nat->Prop}{r:AV}(h:aQ P f (.mp 1000 st 0 0::rest) [(1000,ob)] Sb (λr' σ'=>r'=r/\σ'=[(1000,ob')]))
  (hr:aM r=[]) (hrest:∀x∈rest,aM x=[]) (ho:dB ob=[]) (ho':dB ob'=[]) (j:Nat) :
  aQ P f (.mp j st 0 0::rest) [(j,ob)] (λid=>Sb (i5 1000 j id)) (λr' σ'=>r'=r/\σ'=[(j,ob')]):=by
 have e1:i5 1000 j 1000=j:=by simp[i5]
 have e2:i5 1000 j j=1000:=by unfold i5;split<;>simp_all
 refine(h.ren (args2:=.mp j st 0 0::rest) (σ2:=[(j,ob)]) (i5 1000 j) (i5 1000 j) (lk _ _) (lk _ _) ?_ ?_).mono (λ_ h=>h) ?_
 .simp only[eG,kX _ rest hrest,m0,vR,qy,rz,e2]
 .simp only[iX,e2,fZ _ ob ho]
 .rintro r' σ' ⟨r0,σ0,⟨rfl,rfl⟩,rfl,rfl⟩;exact⟨rB _ _ hr,by simp only[iX,e1,fZ _ ob' ho']⟩
def Qm{Sb:Nat->Prop}(j:Nat)(h:Sb 1000):(λid=>Sb (i5 1000 j id)) j:=by
 show Sb (i5 1000 j j);have e2:i5 1000 j j=1000:=by unfold i5;split<;>simp_all
 rw[e2];exact h
def dW{f:FuncId}{st:Nat}{rest:List AV}{ob ob':ao}{Sb:Nat->Prop}{r:AV}{j:Nat}{d:Option Nat}{s:St}{K:St->Prop}(h:aQ P f (.mp 1000 st 0 0::rest) [(1000,ob)] Sb (λr' σ'=>r'=r/\σ'=[(1000,ob')]))
  (hs:Sb 1000) (hr:aM r=[]) (hrest:∀x∈rest,aM x=[]) (ho:dB ob=[]) (ho':dB ob'=[]) (hk:ah s.heap j=some ob) (hK:K ((St.mk s.env ((j,ob')::s.heap)).put d r)):cO P f (.mp j st 0 0::rest) d s K :=
 aaS (h.at_ hr hrest ho ho' j) (Qm j hs) hk hK
def ae{f:FuncId}{st:Nat}{rest:List AV}{ob ob':ao}{Sb:Nat->Prop}{r:AV}{j:Nat}{d:Option Nat}{s:St}{K:St->Prop}(h:aQ P f (.mp 1000 st 0 0::rest) [(1000,ob)] Sb (λr' σ'=>r'=r/\σ'=[(1000,ob')]))
  (hK:K ((St.mk s.env ((j,ob')::s.heap)).put d r)) (hs:Sb 1000:=by exact⟨by decide,by decide⟩) (hr:aM r=[]:=by first|rfl|exact bU _) (hrest:∀x∈rest,aM x=[]:=by simp[go_sem]) (ho:dB ob=[]:=by exact rfl) (ho':dB ob'=[]:=by exact rfl)
  (hk:ah s.heap j=some ob:=by rfl):cO P f (.mp j st 0 0::rest) d s K:=dW h hs hr hrest ho ho' hk hK
def aE{f:FuncId}{st:Nat}{rest:List AV}{ob ob':ao}{Sb:Nat->Prop}{r:AV}{j:Nat}{d:Option Nat}{s:St}{K:St->Prop}{Q:Prop}(h:aQ P f (.mp 1000 st 0 0::rest) [(1000,ob)] Sb (λr' σ'=>r'=r/\σ'=[(1000,ob')]))
  (hk':Q) (hq:K ((St.mk s.env ((j,ob')::s.heap)).put d r)=Q:=by conv=>lhs;simp only[go_sem]) (hs:Sb 1000:=by exact⟨by decide,by decide⟩) (hr:aM r=[]:=by first|rfl|exact bU _) (hrest:∀x∈rest,aM x=[]:=by simp[go_sem]) (ho:dB ob=[]:=by exact rfl) (ho':dB ob'=[]:=by exact rfl)
  (hk:ah s.heap j=some ob:=by rfl):cO P f (.mp j st 0 0::rest) d s K:=dW h hs hr hrest ho ho' hk (hq.mpr hk')
def Wq{f:FuncId}{st:Nat}{rest:List AV}{ob ob':ao}{Sb:Nat->Prop}{r:AV}{j:Nat}{i:Nat}{bf:List Nat}{op:oC}{d:Option Nat}{hist:List HI}{s:St}{K:List HI->St->Prop}(h:aQ P f (.mp 1000 st 0 0::rest) [(1000,ob)] Sb (λr' σ'=>r'=r/\σ'=[(1000,ob')]))
  (hs:Sb 1000) (hr:aM r=[]) (hrest:∀x∈rest,aM x=[]) (ho:dB ob=[]) (ho':dB ob'=[]) (hk:ah s.heap j=some ob) (hop:j∈cL op s.env)
  (hK:eR op s (.put j ob')=true/\jm bf ⟨i,cL op s.env,[],[j],false,true⟩ hist=true/\K (⟨i,cL op s.env,[],[j],false,true⟩::hist) ((s.eff (.put j ob')).put d r)):GS P f (.mp j st 0 0::rest) i bf op d hist s K :=
 Ow (h.at_ hr hrest ho ho' j) (Qm j hs) hk hr ho' hop hK
end
def Wk.new0(s:St)(i st:Nat)(t:TypeId)(hid:i<1000\/2000<=i):Wk s ⟨(s.kill i).env,(i,⟨t,st,[],false⟩)::(s.kill i).heap⟩:=by
 intro c a w hs;obtain⟨bl,hs⟩:=hs.kill i;obtain⟨h1,h2⟩:=fI s i;have hn:=hs.new0 (i:=i) (o:=⟨t,st,[],false⟩) h1 h2 hid rfl rfl;refine⟨_,hn.congr (λ_=>rfl) (λj=>?_)⟩;simp only[ah,ef];by_cases h:i=j
 .rw[au h,au h.symm]
 .rw[ak h,ak (Ne.symm h)]
def nlm:List AV->List AV->Prop
 | [],[]=>True
 | x::l,y::m=>(x=y\/(x = .nl/\((∃st,y = .sl st [])\/∃id st,y = .ms id st 0 0)))/\nlm l m
 | _,_=>False
def Hy:∀{l m:List AV},nlm l m->m.length=l.length
 | [],[],_=>rfl
 | _::_,_::_,h=>by simp[Hy h.2]
 | [],_::_,h=>h.elim
 | _::_,[],h=>h.elim
def Hx:∀{l m:List AV},nlm l m->∀{j:Nat}{y:AV},m[j]?=some y->∃x,l[j]?=some x/\(x=y\/(x = .nl/\((∃st,y = .sl st [])\/∃id st,y = .ms id st 0 0)))
 | [],[],_,j,y,hy=>by simp at hy
 | x::l,z::m,h,0,y,hy=>by simp at hy;subst hy;exact⟨x,rfl,h.1⟩
 | x::l,z::m,h,j+1,y,hy=>by simpa using Hx h.2 (j:=j) (by simpa using hy)
 | [],_::_,h,_,_,_=>h.elim
 | _::_,[],h,_,_,_=>h.elim
def Wk.nlm(s:St)(i:Nat){t:TypeId}{st:Nat}{r r':List AV}(hi:ah s.heap i=some ⟨t,st,[r],true⟩)(hr:Mw.nlm r r'):Wk s ⟨s.env,(i,⟨t,st,[r'],true⟩)::s.heap⟩:=by
 rintro c a w ⟨bl,hs⟩;have hm:∀b,bG bl c.MF (ah ((i,⟨t,st,[r'],true⟩)::s.heap)) b↔bG bl c.MF (ah s.heap) b:=bG.congr λj=>by
  simp only[ah];split
  .rename_i h;subst h;rw[hi];rfl
  .rfl
 have ht:=Tr.of_iff (w:=w) λb=>(hm b)
 refine⟨bl,hs.defers,hs.size,λj=>(hs.env j).tr ht (λ_ _=>rfl),⟨λj o hj=>?_,λj j' o o' b h1 h2=>?_⟩,hs.step,λj o b h1=>?_,hs.stab,hs.mf⟩
 .simp only[ah]at hj;split at hj
  .rename_i hij;subst hij;cases hj;rcases hs.heap.1 i _ hi with hn|⟨b,g1,⟨gk,c1,fr,g2,g3,g4,g5,g6,g7⟩|hsp⟩
   .cases hn.2.1
   rotate_left
   .cases hsp.isRec
   .refine .inr ⟨b,g1,.inl ⟨gk,c1,fr,g2,g3,g4,λk q hq=>?_,by simpa using g6,λk q u x hu hx=>?_⟩⟩
    .cases k with
     | zero=>simp at hq;subst hq;rw[Hy hr];exact g5 0 r rfl
     | succ k=>simp at hq
    .cases k with
     | succ k=>simp at hu
     | zero =>
      simp at hu;subst hu;obtain⟨x0,h1,h2⟩:=Hx hr hx;obtain⟨v,hv1,hv2⟩:=g7 0 q r x0 rfl h1;refine⟨v,hv1,?_⟩;have hv3:cz bl (bG bl c.MF (ah s.heap)) w v x0:=hv2;rcases h2 with h2|⟨h2,⟨st',h3⟩|⟨id,st',h3⟩⟩
      .subst h2;exact hv3.tr ht (λ_ _=>rfl)
      .subst h2 h3;have:IRel (bG bl c.MF (ah s.heap)) w v .nl:=hv3;exact(IRel.toC (bl:=bl) (IRel.nl_sl this st')).tr ht (λ_ _=>rfl)
      .subst h2 h3;have:IRel (bG bl c.MF (ah s.heap)) w v .nl:=hv3;cases this;exact .inl ⟨rfl,rfl,rfl⟩
  .rcases hs.heap.1 j o hj with hn|⟨b,g1,⟨gk,c1,fr,g2,g3,g4,g5,g6,g7⟩|hsp⟩
   .exact .inl hn
   rotate_left
   .exact .inr ⟨b,g1,.inr hsp⟩
   .refine .inr ⟨b,g1,.inl ⟨gk,c1,fr,g2,g3,g4,g5,g6,λk q u x hu hx=>?_⟩⟩;obtain⟨v,hv1,hv2⟩:=g7 k q u x hu hx;refine⟨v,hv1,?_⟩;cases hrec:o.isRec<;>simp only[hrec,Bx]at hv2⊢
    .exact hv2.tr ht.keep
    .exact hv2.tr ht (λ_ _=>rfl)
 .have key:∀{j:Nat}{o:ao},ah ((i,⟨t,st,[r'],true⟩)::s.heap) j=some o->∃o',ah s.heap j=some o':=λ{j o} hj=>by
   simp only[ah]at hj;split at hj
   .rename_i hij;subst hij;exact⟨_,hi⟩
   .exact⟨_,hj⟩
  obtain⟨p1,q1⟩:=key h1;obtain⟨p2,q2⟩:=key h2;exact hs.heap.2 j j' p1 p2 b q1 q2
 .simp only[ah]at h1;split at h1
  .rename_i hij;subst hij;exact hs.own i _ b hi
  .exact hs.own j o b h1
section
variable{P:Program}[bJ P]
def aQ.at2{f:FuncId}{st:Nat}{rest:List AV}{rc rc' rk rk' ar ar':ao}{Sb:Nat->Prop}{r:AV}{k j:Nat}
  (h:aQ P f (.mp 1000 st 0 0::rest) [(1000,rc),(2000,ar)] Sb (λr' σ'=>r'=r/\σ'=[(1000,rc'),(2000,ar')]))
  (hk:k≠2000) (hj:j≠1000) (hkj:k≠j)
  (hr:aM r=[]) (hrest:∀x∈rest,aM x=[]) (ha:ar.isRec=false) (ha':ar'.isRec=false)
  (h1:iY (bw [(1000,k),(2000,j)]) rk=rc) (h2:iY (fw [(1000,k),(2000,j)]) rc'=rk') :
  aQ P f (.mp k st 0 0::rest) [(k,rk),(j,ar)] (λid=>Sb (bw [(1000,k),(2000,j)] id)) (λr' σ'=>r'=r/\σ'=[(k,rk'),(j,ar')]):=by
 have e1:fw [(1000,k),(2000,j)] 1000=k:=by
  simp only[fw];unfold i5;by_cases q:k=2000
  .exact absurd q hk
  .simp[q,hkj]
 have e2:fw [(1000,k),(2000,j)] 2000=j:=by
  simp only[fw];unfold i5;by_cases q:(2000:Nat)=k
  .exact absurd q.symm hk
  .simp[q]
 have b1:bw [(1000,k),(2000,j)] k=1000:=by have:=ux [(1000,k),(2000,j)] 1000;rwa[e1]at this
 have b2:bw [(1000,k),(2000,j)] j=2000:=by have:=ux [(1000,k),(2000,j)] 2000;rwa[e2]at this
 have ra:∀ρ:Nat->Nat,iY ρ ar=ar:=λρ=>by unfold iY;rw[ha];rfl
 have ra':∀ρ:Nat->Nat,iY ρ ar'=ar':=λρ=>by unfold iY;rw[ha'];rfl
 refine(h.ren (args2:=.mp k st 0 0::rest) (σ2:=[(k,rk),(j,ar)]) (fw [(1000,k),(2000,j)]) (bw [(1000,k),(2000,j)]) (ux _) (FP _) ?_ ?_).mono (λ_ h=>h) ?_
 .simp only[eG,kX _ rest hrest,m0,vR,qy,rz,b1]
 .simp only[iX,b1,b2,ra,h1]
 .rintro r' σ' ⟨r0,σ0,⟨rfl,rfl⟩,rfl,rfl⟩;exact⟨rB _ _ hr,by simp only[iX,e1,e2,ra',h2]⟩
def aaR{f:FuncId}{args args':List AV}{rk rk' ar ar':ao}{Sb:Nat->Prop}{r:AV}{k j:Nat}{d:Option Nat}{s:St}{K:St->Prop}(fs:List Nat)
  (h:aQ P f args' [(k,rk),(j,ar)] Sb (λr' σ'=>r'=r/\σ'=[(k,rk'),(j,ar')])) (hkj:k≠j) (hs:Sb k) (hj:j<1000\/2000<=j)
  (ha:args.map (wE fs s)=args') (h1:ah (frzs fs s).heap k=some rk) (h2:ah (frzs fs s).heap j=some ar)
  (hK:K ((St.mk (oi j (frzs fs s).env) ((k,rk')::(j,ar')::oq j (frzs fs s).heap)).put d r)):cO P f args d s K:=by
 subst ha;have key:∀p:Nat×ao,p∈[(k,rk),(j,ar)]->ah (frzs fs s).heap p.1=some p.2:=λp hp=>by
  simp only[dQ,tN,or_false]at hp;rcases hp with rfl|rfl
  .exact h1
  .exact h2
 refine .inr (.inl ⟨fs,.inr ⟨[(k,rk),(j,ar)],_,_,[j],h,λid o hh=>key (id,o) (fT hh),?_,?_⟩⟩)
 .rintro r σ' ⟨rfl,rfl⟩ id hid;simp only[ah]at hid⊢;by_cases hk:k=id
  .subst hk;exact .inl ⟨hs,by simp⟩
  .rw[ak hk]at hid;by_cases hq:j=id
   .subst hq;exact .inr ⟨by simp,hj,.inl (by simp[hk])⟩
   .rw[ak hq]at hid;cases hid
 .rintro r σ' ⟨rfl,rfl⟩;refine⟨⟨oi j (frzs fs s).env,(k,rk')::(j,ar')::oq j (frzs fs s).heap⟩,λq=>by simp only[i9,F8],λq=>?_,hK⟩;simp only[Jj,ah];by_cases hk:k=q
  .subst hk;simp
  .simp only[ak hk];by_cases hq:j=q
   .subst hq;simp
   .simp only[ak hq,eZ,Option.isSome_none,gR,bB];congr 1;funext o';exact(F7 j o').symm
end
def Es.trans{s s' s'':St}{l l' l'':List AV}(h:Es s l s' l')(h':Es s' l' s'' l''):Es s l s'' l'':=λc a w bl vs h1 h2=>by
 obtain⟨bl',h3,h4⟩:=h c a w bl vs h1 h2;exact h' c a w bl' vs h3 h4
def Es.frzs(fs:List Nat)(s:St)(l:List AV):Es s l (Mw.frzs fs s) (l.map (wE fs s)):=λc a w bl vs h1 h2=>by
 obtain⟨h3,h4⟩:=aP.frzs fs s h1;exact⟨bl,h3,h2.mapRight λv x hv=>h4 v x hv⟩
def nla(x y:AV):Prop:=x=y\/(x = .nl/\∃st,y = .sl st [])\/∃l m,x = .agg l/\y = .agg m/\Vz l m
def Nh{bl:Nat->Option Nat}{M:Nat->Prop}{w:World}:∀{vs:List Value}{l m:List AV},Vz l m->aZ (cz bl M w) vs l->aZ (cz bl M w) vs m
 | [],[],[],_,_=>trivial
 | v::vs,x::l,y::m,h,hr=>by
  refine⟨?_,Nh h.2 hr.2⟩;rcases h.1 with rfl|⟨rfl,st,rfl⟩
  .exact hr.1
  .exact IRel.nl_sl (show IRel M w v .nl from hr.1) st
 | [],[],_::_,h,_=>h.elim
 | [],_::_,_,_,hr=>hr.elim
 | _::_,[],_,_,hr=>hr.elim
 | _::_,_::_,[],h,_=>h.elim
def XP{bl:Nat->Option Nat}{M:Nat->Prop}{w:World}{v:Value}{x y:AV}(h:nla x y)(hr:bt bl M w v x):bt bl M w v y:=by
 rcases h with rfl|⟨rfl,st,rfl⟩|⟨l,m,rfl,rfl,h⟩
 .exact hr
 .exact IRel.nl_sl (show IRel M w v .nl from hr) st
 .obtain⟨cs,h1,h2⟩:=hr;exact⟨cs,h1,Nh h h2⟩
def JH{bl:Nat->Option Nat}{M:Nat->Prop}{w:World}:∀{vs:List Value}{l m:List AV},aZ nla l m->aZ (bt bl M w) vs l->aZ (bt bl M w) vs m
 | [],[],[],_,_=>trivial
 | v::vs,x::l,y::m,h,hr=>⟨XP h.1 hr.1,JH h.2 hr.2⟩
 | [],[],_::_,h,_=>h.elim
 | [],_::_,_,_,hr=>hr.elim
 | _::_,[],_,_,hr=>hr.elim
 | _::_,_::_,[],h,_=>h.elim
def Es.nla{s:St}{l m:List AV}(h:aZ Mw.nla l m):Es s l s m:=λc a w bl vs h1 h2=>⟨bl,h1,JH h h2⟩
section
variable{P:Program}[bJ P]
def iC{f:FuncId}{args args':List AV}{d:Option Nat}{s s':St}{K:St->Prop}(hw:Es s args s' args')(h:cO P f args' d s' K):cO P f args d s K:=by
 rcases h with h|⟨fs,h⟩|⟨s'',args'',hw',h⟩
 .exact .inr (.inr ⟨s',args',hw,h⟩)
 .exact .inr (.inr ⟨_,_,hw.trans (Es.frzs fs s' args'),h⟩)
 .exact .inr (.inr ⟨s'',args'',hw.trans hw',h⟩)
def GF{f:FuncId}{args:List AV}(args':List AV){d:Option Nat}{s:St}{K:St->Prop}(hw:aZ nla args args')(h:cO P f args' d s K):cO P f args d s K:=iC (Es.nla hw) h
end
def MJ{l:List nS}{s:St}{r:AV}{k:Nat}{ob:ao}{e:IX}(he:∀j,e≠.ext j)(h1:sg l s=some r)(h2:ah s.heap k=some ob)(h3:KR r [(k,ob)]=true):mz l (λr' σ'=>r'=r/\σ'=[(k,ob)]) e s:=by
 refine⟨he,s,λ_ _ _ h=>h,[],r,[(k,ob)],h1,λi o hi=>?_,oX h3,rfl,rfl⟩;simp only[ah]at hi;split at hi
 .rename_i hki;subst hki;cases hi;exact h2
 .cases hi
def aA{x y:Int}(h:¬x=y):(x==y)=false:=by simpa using h
def dt{x y:Int}(h:x=y):(x==y)=true:=by simpa using h
def bj{x y:Int}(h:¬x=y):(x != y)=true:=by simpa using h
def aI{x y:Int}(h:x=y):(x != y)=false:=by simpa using h
def wn{n m:Int}(h:n=m)(h0:-9223372036854775808<=m)(h1:m<9223372036854775808):IntKind.i64.wrap n=m:=by rw[h];exact wi h0 h1
def aP.nlm{c:vg}{bl:Nat->Option Nat}{a:Act}{w:World}{s:St}(hs:aP c bl (get s.env) (ah s.heap) a w)(i:Nat){t:TypeId}{st:Nat}{r r':List AV}(hi:ah s.heap i=some ⟨t,st,[r],true⟩)(hr:Mw.nlm r r') :
  aP c bl (get s.env) (ah ((i,⟨t,st,[r'],true⟩)::s.heap)) a w/\∀b,bG bl c.MF (ah ((i,⟨t,st,[r'],true⟩)::s.heap)) b↔bG bl c.MF (ah s.heap) b:=by
 have hm:∀b,bG bl c.MF (ah ((i,⟨t,st,[r'],true⟩)::s.heap)) b↔bG bl c.MF (ah s.heap) b:=bG.congr λj=>by
  simp only[ah];split
  .rename_i h;subst h;rw[hi];rfl
  .rfl
 have ht:=Tr.of_iff (w:=w) λb=>(hm b)
 refine⟨⟨hs.defers,hs.size,λj=>(hs.env j).tr ht (λ_ _=>rfl),⟨λj o hj=>?_,λj j' o o' b h1 h2=>?_⟩,hs.step,λj o b h1=>?_,hs.stab,hs.mf⟩,hm⟩
 .simp only[ah]at hj;split at hj
  .rename_i hij;subst hij;cases hj;rcases hs.heap.1 i _ hi with hn|⟨b,g1,⟨gk,c1,fr,g2,g3,g4,g5,g6,g7⟩|hsp⟩
   .cases hn.2.1
   rotate_left
   .cases hsp.isRec
   .refine .inr ⟨b,g1,.inl ⟨gk,c1,fr,g2,g3,g4,λk q hq=>?_,by simpa using g6,λk q u x hu hx=>?_⟩⟩
    .cases k with
     | zero=>simp at hq;subst hq;rw[Hy hr];exact g5 0 r rfl
     | succ k=>simp at hq
    .cases k with
     | succ k=>simp at hu
     | zero =>
      simp at hu;subst hu;obtain⟨x0,h1,h2⟩:=Hx hr hx;obtain⟨v,hv1,hv2⟩:=g7 0 q r x0 rfl h1;refine⟨v,hv1,?_⟩;have hv3:cz bl (bG bl c.MF (ah s.heap)) w v x0:=hv2;rcases h2 with h2|⟨h2,⟨st',h3⟩|⟨id,st',h3⟩⟩
      .subst h2;exact hv3.tr ht (λ_ _=>rfl)
      .subst h2 h3;have:IRel (bG bl c.MF (ah s.heap)) w v .nl:=hv3;exact(IRel.toC (bl:=bl) (IRel.nl_sl this st')).tr ht (λ_ _=>rfl)
      .subst h2 h3;have:IRel (bG bl c.MF (ah s.heap)) w v .nl:=hv3;cases this;exact .inl ⟨rfl,rfl,rfl⟩
  .rcases hs.heap.1 j o hj with hn|⟨b,g1,⟨gk,c1,fr,g2,g3,g4,g5,g6,g7⟩|hsp⟩
   .exact .inl hn
   rotate_left
   .exact .inr ⟨b,g1,.inr hsp⟩
   .refine .inr ⟨b,g1,.inl ⟨gk,c1,fr,g2,g3,g4,g5,g6,λk q u x hu hx=>?_⟩⟩;obtain⟨v,hv1,hv2⟩:=g7 k q u x hu hx;refine⟨v,hv1,?_⟩;cases hrec:o.isRec<;>simp only[hrec,Bx]at hv2⊢
    .exact hv2.tr ht.keep
    .exact hv2.tr ht (λ_ _=>rfl)
 .have key:∀{j:Nat}{o:ao},ah ((i,⟨t,st,[r'],true⟩)::s.heap) j=some o->∃o',ah s.heap j=some o':=λ{j o} hj=>by
   simp only[ah]at hj;split at hj
   .rename_i hij;subst hij;exact⟨_,hi⟩
   .exact⟨_,hj⟩
  obtain⟨p1,q1⟩:=key h1;obtain⟨p2,q2⟩:=key h2;exact hs.heap.2 j j' p1 p2 b q1 q2
 .simp only[ah]at h1;split at h1
  .rename_i hij;subst hij;exact hs.own i _ b hi
  .exact hs.own j o b h1
def VRels.tr{bl bl':Nat->Option Nat}{M M':Nat->Prop}{w:World}(ht:Tr M M' w w):∀{vs:List Value}{l:List AV},aZ (bt bl M w) vs l->(∀x∈l,∀id,mV id x=true->bl' id=bl id)->aZ (bt bl' M' w) vs l
 | [],[],_,_=>trivial
 | _::_,_::_,h,hb=>⟨h.1.tr ht (hb _ (by simp)),VRels.tr ht h.2 λx hx=>hb x (by simp[hx])⟩
 | [],_::_,h,_=>h.elim
 | _::_,[],h,_=>h.elim
def Es.nlm(s:St)(l:List AV)(i:Nat){t:TypeId}{st:Nat}{r r':List AV}(hi:ah s.heap i=some ⟨t,st,[r],true⟩)(hr:Mw.nlm r r'):Es s l ⟨s.env,(i,⟨t,st,[r'],true⟩)::s.heap⟩ l:=λc a w bl vs h1 h2=>by
 obtain⟨h3,hm⟩:=h1.nlm i hi hr;exact⟨bl,h3,VRels.tr (Tr.of_iff hm) h2 λ_ _ _ _=>rfl⟩
def Es.new0(s:St)(l:List AV)(i st:Nat)(t:TypeId)(hid:i<1000\/2000<=i)(hl:∀x∈l,i∉aM x):Es s l ⟨(s.kill i).env,(i,⟨t,st,[],false⟩)::(s.kill i).heap⟩ l:=λc a w bl vs hs h2=>by
 have hk:=hs.kill i;have hu:=qz i (get s.env) (ah s.heap);have hn:=hk.new0 (i:=i) (o:=⟨t,st,[],false⟩) (by simp) hu hid rfl rfl;have e1:∀k,get (s.kill i).env k=jb i (get s.env k):=λk=>by simp only[St.kill,i9]
 have e2:∀j,ah ((i,⟨t,st,[],false⟩)::(s.kill i).heap) j=ef (λj=>if j=i then none else(ah s.heap j).map (ez i)) i (some ⟨t,st,[],false⟩) j:=λj=>by
  simp only[ah,ef,St.kill,eZ,dV];by_cases h:i=j
  .subst h;simp
  .have h':¬j=i:=λe=>h e.symm;simp[h,h']
 refine⟨ef bl i none,hn.congr e1 e2,?_⟩;have hM:∀b,bG (ef bl i none) c.MF (ah ((i,⟨t,st,[],false⟩)::(s.kill i).heap)) b->bG bl c.MF (ah s.heap) b:=λb hb=>by
  rcases hb with hb|⟨j,o,h3,h4⟩
  .exact .inl hb
  .rw[e2]at h3;by_cases hj:j=i
   .subst hj;simp[ef]at h4
   .rw[cE _ _ hj]at h4;rw[cE _ _ hj]at h3;simp only[hj,bB,dU]at h3;obtain⟨o',h5,_⟩:=h3;exact .inr ⟨j,o',h5,h4⟩
 have ht:Tr (bG bl c.MF (ah s.heap)) (bG (ef bl i none) c.MF (ah ((i,⟨t,st,[],false⟩)::(s.kill i).heap))) w w:=⟨λb hb _=>⟨λh=>hb (hM b h),rfl⟩,λb cc t fr h=>⟨cc,fr,h,rfl⟩⟩
 exact VRels.tr ht h2 λx hx id hid=>cE _ _ λe=>hl x hx (by rw[<-e];exact uJ hid)
attribute[go_sem] zE gj decide_eq_false_iff_not beq_self_eq_true Nat.lt_add_one Nat.reduceEqDiff Nat.reduceLT reduceCtorEq Nat.reduceAdd Nat.reduceLeDiff Nat.reduceBEq Nat.reduceBNe Int.reduceNeg Int.reduceToNat Int.reduceBEq Int.reduceBNe bne_self_eq_false gR
attribute[go_sem ↓] reduceIte
def sb(id:Nat):Prop:=1000<=id/\id<2000
def WK(n:Int):Prop:=-9223372036854775808<=n/\n<9223372036854775808
section
abbrev No:Nat->Prop:=λ_=>False
def Iv(T:Nat->Prop)(N:Nat)(W W':World):Prop:=W.heap.size<=W'.heap.size/\(∀(b:Nat)(c:Array Value)(t:TypeId)(fr:Nat×Nat),N<=b->W.heap[b]?=some (.cells c t fr)->W'.heap[b]?=some (.cells c t fr))/\∀b,T b->W'.heap[b]? = W.heap[b]?
section
variable{T:Nat->Prop}
def Iv.refl(N:Nat)(W:World):Iv T N W W:=⟨a_ _,λ_ _ _ _ _ h=>h,λ_ _=>rfl⟩
def Iv.trans{N:Nat}{A B C:World}(h:Iv T N A B)(k:Iv T N B C):Iv T N A C:=⟨m8 h.1 k.1,λb c t fr hb hc=>k.2.1 b c t fr hb (h.2.1 b c t fr hb hc),λb hb=>(k.2.2 b hb).trans (h.2.2 b hb)⟩
def Iv.mono{N N':Nat}{A B:World}(h:Iv T N A B)(hn:N<=N'):Iv T N' A B:=⟨h.1,λb c t fr hb=>h.2.1 b c t fr (m8 hn hb),h.2.2⟩
def Iv.putObj(N:Nat)(W:World)(l:Nat)(o o':Obj)(hl:W.heap[l]?=some o)(ho:o.isCells=false)(hT:∀b,T b->b<l):Iv T N W (W.putObj l o'):=by
 have hlt:=(vW.1 hl).1;refine⟨(grownBy_putObj' W l o').size,λb c t fr _ hb=>?_,λb hb=>World.putObj_heap_other (by have:=hT b hb;omega)⟩;by_cases e:b=l
 .subst e;rw[hl]at hb;cases hb;simp[Obj.isCells]at ho
 .rw[World.putObj_heap_other (by omega)];exact hb
end
def qG.ofAlloc(w:World)(o:Obj):qG No w (w.alloc o) where
 size:=by simp
 keep b hb _:=by rw[World.alloc];simp[Ed,Nat.ne_of_lt hb]
 shape b c t fr hb:=⟨c,fr,by
  have hlt:=bM hb;rw[World.alloc];simp[Ed,Nat.ne_of_lt hlt,hb],rfl⟩
 os:=rfl
 out:=rfl
def qG.one{A B C:World}(h:qG No A B)(k:qG No B C):qG No A C:=h.trans k λ_ _ h=>h.elim
def aef{α:Type}(n:Nat)(P:Program)[bJ P](g:Nat)(lb:Array Value)(encs:α->Array Value)(E:List α)(w:World):Prop :=
 ∀(l:Nat)(J Jx:List α->World->Prop)(W:World),(bJ.T P).H W->qG No w W->(∀s A B,J s A->qG No A B->J s B)->(∀s A B,Jx s A->qG No A B->Jx s B) ->
  (∀oG x W1,J oG W1->oG++[x] <+: E->YieldAt Fence.wide (n-1) P l (encs x) W1 λe W' =>
   (e = .returned (.bool true)/\J (oG++[x]) W'/\Iv (bJ.T P).B W.heap.size W1 W')\/(e = .returned (.bool false)/\Jx (oG++[x]) W')) ->
  J [] W ->
  CallsIn Fence.wide n P g (#[.func (.yield l) #[] #[]]++lb) W λe W'=>(∃v,e = .returned v)/\(J E W'\/(∃oG,oG <+: E/\Jx oG W'))
variable{n:Nat}{P:Program}[bJ P]
def P3{α:Type}{g:Operand}{ps:Array Tmp}{assign body:Code}{Q:Exit->Act->World->Prop}{a:Act}{w:World}
  (h1:1<=n) (hH:(bJ.T P).H w) {gf:Nat} {lb:Array Value} (hg:a.eval g = .func (.func gf) #[] lb) (eg:∀args w,(callFunc gf args).run P w = .ok (.enter gf args) w)
  {encs:α->Array Value} {E:List α} {w0:World} (hseq:aef (n-1) P gf lb encs E w0) (hb0:qG No w0 w) (hps:∀x,(encs x).size=ps.size)
  (I:List α->World->Prop) (Ix:Code->List α->World->Prop) (hI:∀s A B,I s A->qG No A B->I s B) (hIx:∀c s A B,Ix c s A->qG No A B->Ix c s B)
  (hIp:∀s W l o o',I s W->w.heap.size<=l->W.heap[l]?=some o->o.isCells=false->I s (W.putObj l o')) (hIxp:∀c s W l o o',Ix c s W->w.heap.size<=l->W.heap[l]?=some o->o.isCells=false->Ix c s (W.putObj l o'))
  (h0:I [] w) (a₁:α->Act)
  (hassign:∀(l:Nat)(x:α)(W:World)(K:Act->World->Prop),K (a₁ x) W ->
   assign.wpIn (Fence.wide.inRound l) (n-1-1) P (Exit.then K (λ_ _ _=>False)) {tmps:=(ps.zip (encs x)).foldl (λt (p,v)=>t.setIfInBounds p v) a.tmps,defers:=[]} W)
  (hbody:∀(l:Nat)(oG:List α)(x:α)(W:World),I oG W->oG++[x] <+: E->body.wpIn (Fence.wide.inRound l) (n-1-1) P (ownPostK (Iv (bJ.T P).B w.heap.size) I Ix (oG++[x]) W) (a₁ x) W)
  (hdone:∀(D:Nat)(W:World),w.heap.size<=D->I E W->W.heap[D]?=some (.deferred (some []))->Q .normal {a with defers:={target:=.collected D,args:=#[]}::a.defers} W)
  (hstop:∀(D:Nat)(c:Code)(oG:List α)(W:World),w.heap.size<=D->oG <+: E->Ix c oG W->W.heap[D]?=some (.deferred (some []))->c.wpIn Fence.wide n P Q {a with defers:={target:=.collected D,args:=#[]}::a.defers} W) :
  (Code.rangeFunc g ps assign body).wpIn Fence.wide n P Q a w:=by
 refine wpIn_rangeFunc ?_;intro fn hfn;rw[show Fence.wide.round=none from rfl];obtain⟨rec,hrec⟩:∃rec:LoopState->Option Code->Loop,rec=λst pe=>{state:=st,pending:=pe,fn,tmps:=a.tmps,params:=ps,assign,body,defers:=w.heap.size}:=⟨_,rfl⟩
 obtain⟨W1,hW1⟩:∃W1,(w.alloc (.deferred (some []))).alloc (.loop (rec .ready none))=W1:=⟨_,rfl⟩
 have hL1:W1.heap[w.heap.size+1]?=some (.loop (rec .ready none)):=by
  rw[<-hW1];have:=World.alloc_heap_new (w.alloc (.deferred (some []))) (.loop (rec .ready none));rwa[World.size_alloc]at this
 have hK1:W1.heap[w.heap.size]?=some (.deferred (some [])):=by
  rw[<-hW1];exact(Below.heap_alloc _ _ _ (by simp)).trans (World.alloc_heap_new w _)
 have hs1:qG No w W1:=by rw[<-hW1];exact(qG.ofAlloc _ _).one (qG.ofAlloc _ _)
 have hlow:∀b,(bJ.T P).B b->b<w.heap.size+1:=λb hb=>Nat.lt_succ_of_lt ((bJ.T P).low _ hH b hb);have hz1:W1.heap.size=w.heap.size+2:=by rw[<-hW1];simp
 refine⟨w.heap.size+1,[{target:=.collected w.heap.size,args:=#[]}],W1,{target:=.fn (.func gf) lb,args:=#[.func (.yield (w.heap.size+1)) #[] #[]]},W1,gf,
  #[.func (.yield (w.heap.size+1)) #[] #[]]++lb,W1,?_,?_,?_,?_,λ_=>h1,?_⟩
 .rw[<-hW1,hrec];exact run_enterLoop_outer _ _ _ _ _
 .simp only[resolve,hg];simp[go_sem]
 .intro f' hf';trivial
 .simp[invoke,go_sem,eg]
 .have kp:∀{l:Nat}{o:Obj}{A B:World},qG No A B->A.heap[l]?=some o->B.heap[l]?=some o:=λ{l o A B} hs h=>by
   rw[hs.keep l (vW.1 h).1 (λh=>h)];exact h
  refine(hseq (w.heap.size+1)
   (λoG W=>I oG W/\W.heap[w.heap.size+1]?=some (.loop (rec .ready none))/\W.heap[w.heap.size]?=some (.deferred (some [])))
   (λoG W=>∃c,Ix c oG W/\W.heap[w.heap.size+1]?=some (.loop (rec .done (some c)))/\W.heap[w.heap.size]?=some (.deferred (some [])))
   W1 ((bJ.T P).stay _ _ hH λb hb=>hs1.keep b ((bJ.T P).low _ hH b hb) (λh=>h)) (hb0.one hs1)
   (λs A B hs hg'=>⟨hI s A B hs.1 hg',kp hg' hs.2.1,kp hg' hs.2.2⟩)
   (λs A B hs hg'=>by
    obtain⟨c,hc,hl,hk⟩:=hs;exact⟨c,hIx c s A B hc hg',kp hg' hl,kp hg' hk⟩)
   ?_ ⟨hI _ _ _ h0 hs1,hL1,hK1⟩).mono ?_
  ·
   rintro oG x W ⟨hi,hl,hk⟩ hlen;have hlt:w.heap.size+1<W.heap.size:=(vW.1 hl).1;have hy:=run_yield (P:=P) (args:=encs x) hl (by rw[hrec];exact hps x);rw[hrec]at hy;refine⟨fn,_,assign,body,hy,roundIn_of_wpIn hfn (hassign _ x W _ ⟨_,run_beginRound hl (by rw[hrec]),?_⟩)⟩;have hl2:(W.putObj (w.heap.size+1) (.loop {rec .ready none with state:=.busy})).heap[w.heap.size+1]?=some (.loop {rec .ready none with state:=.busy}):=World.putObj_heap_same hlt;have hk2:(W.putObj (w.heap.size+1) (.loop {rec .ready none with state:=.busy})).heap[w.heap.size]?=some (.deferred (some [])):=(World.putObj_heap_other (by omega)).trans hk;have hw2:Iv (bJ.T P).B w.heap.size W (W.putObj (w.heap.size+1) (.loop {rec .ready none with state:=.busy})):=Iv.putObj _ _ _ _ _ hl rfl hlow;refine wpIn_mono (hbody _ oG x _ (hIp _ _ _ _ _ hi (by omega) hl rfl) hlen) ?_;have fin:∀(jump:Option Code)(W3:World),KeepsOthers (W.putObj (w.heap.size+1) (.loop {rec .ready none with state:=.busy})) W3 ->
     (Instr.endRound (w.heap.size+1) jump).run P W3 = .ok (.bool jump.isNone) (W3.putObj (w.heap.size+1) (.loop (rec (if jump.isNone then .ready else .done) jump))) /\
     W3.heap[w.heap.size+1]?=some (.loop {rec .ready none with state:=.busy}) /\
     (W3.putObj (w.heap.size+1) (.loop (rec (if jump.isNone then .ready else .done) jump))).heap[w.heap.size+1]?=some (.loop (rec (if jump.isNone then .ready else .done) jump)) /\
     (W3.putObj (w.heap.size+1) (.loop (rec (if jump.isNone then .ready else .done) jump))).heap[w.heap.size]?=some (.deferred (some [])):=λjump W3 hk3=>by
    have hl3:=hk3.same _ _ hl2 rfl;have:=run_endRound (P:=P) jump hl3;rw[hrec]at this⊢;exact⟨this,by rw[hrec]at hl3;exact hl3,World.putObj_heap_same (vW.1 hl3).1,(World.putObj_heap_other (by omega)).trans (hk3.same _ _ hk2 rfl)⟩
   rintro e a3 W3 hp;cases e with
   | normal =>
    obtain⟨hk3,hkp3,hi3⟩:=hp;obtain⟨hr,hl3,hl4,hk4⟩:=fin none W3 hk3;exact⟨_,_,hr,.inl ⟨rfl,⟨hIp _ _ _ _ _ hi3 (by omega) hl3 rfl,hl4,hk4⟩,((hw2.trans hkp3).trans (Iv.putObj _ _ _ _ _ hl3 rfl hlow)).mono (by omega)⟩⟩
   | ret =>
    obtain⟨hk3,hi3⟩:=hp;obtain⟨hr,hl3,hl4,hk4⟩:=fin (some .ret) W3 hk3;exact⟨_,_,hr,.inr ⟨rfl,.ret,hIxp _ _ _ _ _ _ hi3 (by omega) hl3 rfl,hl4,hk4⟩⟩
   | exit id =>
    obtain⟨hk3,hi3⟩:=hp;obtain⟨hr,hl3,hl4,hk4⟩:=fin (some (.exit id)) W3 hk3;exact⟨_,_,hr,.inr ⟨rfl,.exit id,hIxp _ _ _ _ _ _ hi3 (by omega) hl3 rfl,hl4,hk4⟩⟩
   | goto t =>
    obtain⟨hk3,hi3⟩:=hp;obtain⟨hr,hl3,hl4,hk4⟩:=fin (some (.goto t)) W3 hk3;exact⟨_,_,hr,.inr ⟨rfl,.goto t,hIxp _ _ _ _ _ _ hi3 (by omega) hl3 rfl,hl4,hk4⟩⟩
   | panic ch=>exact hp.elim
   | outgrown=>exact hp.elim
  ·
   rintro e W2 ⟨⟨v,rfl⟩,(⟨hi,hl,hk⟩|⟨oG,hSp,c,hi,hl,hk⟩)⟩
   .exact⟨none,_,by have:=run_endLoop (P:=P) hl (by rw[hrec];simp);rw[hrec]at this;exact this,hdone _ _ (a_ _) (hIp _ _ _ _ _ hi (by omega) hl rfl) ((World.putObj_heap_other (by omega)).trans hk)⟩
   .exact⟨some c,_,by have:=run_endLoop (P:=P) hl (by rw[hrec];simp);rw[hrec]at this;exact this,hstop _ c oG _ (a_ _) hSp (hIxp _ _ _ _ _ _ hi (by omega) hl rfl) ((World.putObj_heap_other (by omega)).trans hk)⟩
def TW(P:Program)[bJ P](w:World):Nat->Prop:=λb=>b<w.heap.size/\¬(bJ.T P).B b
def aj.run{f:FuncId}{args:List AV}{r:AV}(h:aj P f args r)(w:World)(hH:(bJ.T P).H w){cargs:List Value}(ha:aZ (bt (λ_=>none) (TW P w) w) cargs args) :
  Calls P f cargs.toArray w λe w'=>∃v,e = .returned v/\bt (λ_=>none) (TW P w) w' v r/\qG No w w':=by
 have hm:∀(bl:Nat->Option Nat) b,bG bl (TW P w) (ah []) b↔TW P w b:=λbl b=>oD _ b
 refine(h (λ_=>none) (TW P w) w cargs hH (λb hb hm'=>((hm _ b).1 hm').2 hb) ⟨λid o hi=>by simp[ah]at hi,λid id' o o' b hi=>by simp[ah]at hi⟩ (λb hb=>hb.1)
  (ha.mono λ_ _ _ hr=>hr.tr (Tr.of_iff (λb=>hm _ b)) (λ_ _=>rfl))).mono λe w' hh=>?_
 obtain⟨v,r',σ',bl',rfl,⟨rfl,rfl⟩,hcl,_,hv,hst,_,_⟩:=hh;refine⟨v,rfl,hv.tr (Tr.of_iff (λb=>(hm _ b).symm)) (λid hid=>?_),⟨hst.size,λb hb _=>hst.keep b hb (λhx=>by obtain⟨id,o,hi,_⟩:=hx;simp[ah]at hi),hst.shape,hst.os,hst.out⟩⟩;have:=hcl.1 id (uJ hid);simp[ah]at this
def aj.of{f:FuncId}{args:List AV}{r:AV} (h:∀(w:World)(bl:Nat->Option Nat)(M:Nat->Prop)(cargs:List Value),(bJ.T P).H w->(∀b,M b->b<w.heap.size)->aZ (bt bl M w) cargs args ->
   Calls P f cargs.toArray w λe w'=>∃v,e = .returned v/\qG No w w'/\bt (λ_=>none) M w' v r) (hid:aM r=[]):aj P f args r:=by
 intro bl MF w cargs hH _ _ hMF ha;have hm:∀(bl:Nat->Option Nat) b,bG bl MF (ah []) b↔MF b:=λbl b=>oD _ b;refine(h w bl MF cargs hH hMF (ha.mono λ_ _ _ hr=>hr.tr (Tr.of_iff (λb=>(hm _ b).symm)) (λ_ _=>rfl))).mono λe w' hh=>?_;obtain⟨v,rfl,hst,hv⟩:=hh;refine⟨v,r,[],bl,rfl,⟨rfl,rfl⟩,(⟨λi hi=>(by rw[hid]at hi;cases hi),λp hp=>absurd hp tN⟩:tQ r []),⟨λid o hi=>by simp[ah]at hi,λid id' o o' b hi=>by simp[ah]at hi⟩,?_,?_,λid o b hi=>by simp[ah]at hi,λ_ h=>h.elim⟩
 .refine hv.tr (Tr.of_iff (λb=>hm _ b)) (λid hi=>?_);have:=uJ hi;rw[hid]at this;cases this
 .exact⟨hst.size,λb hb _=>hst.keep b hb (λh=>h),hst.shape,hst.os,hst.out⟩
def Or{f:FuncId}{args:List AV}{d:Option Nat}{s:St}{K:St->Prop}{Sb:Nat->Prop}{id st len:Nat}{o:ao}(h:aQ P f args [] Sb (λr σ'=>r = .ms id st 0 len/\σ'=[(id,o)]))(ho:dB o=[])(hargs:∀x∈args,aM x=[])
  (j:Nat) (hj:j<1000\/2000<=j) (hfree:ah s.heap j=none) (hk:K ((St.mk (oi j s.env) ((j,o)::oq j s.heap)).put d (.ms j st 0 len))):cO P f args d s K:=by
 have e1:i5 id j id=j:=by simp[i5]
 refine dX (σ2:=[]) (r3:=.ms j st 0 len) (σ3:=[(j,o)]) h [(id,j)] [j] (kX _ args hargs) rfl ?_ ?_ (λp hp=>by cases hp) (λp hp=>?_) (λp hp=>by cases hp) ?_
 .simp only[fw,m0,vR,qy,rz,e1]
 .simp only[iX,fw,e1,fZ _ o ho]
 .simp only[jJ]at hp;subst hp;exact .inr ⟨by simp,hj,.inr hfree⟩
 .simpa only[dE,dy,mr,fo]using hk
end
section
variable{P:Program}[bJ P]{X:Type}
def aQ.at_e{f:FuncId}{st:Nat}{rest:List AV}{ob:ao}{ob':X->ao}{Sb:Nat->Prop}{r:X->AV}{Q:X->Prop}(h:aQ P f (.mp 1000 st 0 0::rest) [(1000,ob)] Sb (λr' σ'=>∃x,Q x/\r'=r x/\σ'=[(1000,ob' x)]))
  (hr:∀x,aM (r x)=[]) (hrest:∀x∈rest,aM x=[]) (ho:dB ob=[]) (ho':∀x,dB (ob' x)=[]) (j:Nat) :
  aQ P f (.mp j st 0 0::rest) [(j,ob)] (λid=>Sb (i5 1000 j id)) (λr' σ'=>∃x,Q x/\r'=r x/\σ'=[(j,ob' x)]):=by
 have e1:i5 1000 j 1000=j:=by simp[i5]
 have e2:i5 1000 j j=1000:=by unfold i5;split<;>simp_all
 refine(h.ren (args2:=.mp j st 0 0::rest) (σ2:=[(j,ob)]) (i5 1000 j) (i5 1000 j) (lk _ _) (lk _ _) ?_ ?_).mono (λ_ h=>h) ?_
 .simp only[eG,kX _ rest hrest,m0,vR,qy,rz,e2]
 .simp only[iX,e2,fZ _ ob ho]
 .rintro r' σ' ⟨r0,σ0,⟨x,hx,rfl,rfl⟩,rfl,rfl⟩;exact⟨x,hx,rB _ _ (hr x),by simp only[iX,e1,fZ _ _ (ho' x)]⟩
def yd{f:FuncId}{st:Nat}{rest:List AV}{ob:ao}{ob':X->ao}{Sb:Nat->Prop}{r:X->AV}{Q:X->Prop}{j:Nat}{d:Option Nat}{s:St}{K:St->Prop}
  (h:aQ P f (.mp 1000 st 0 0::rest) [(1000,ob)] Sb (λr' σ'=>∃x,Q x/\r'=r x/\σ'=[(1000,ob' x)]))
  (hs:Sb 1000) (hr:∀x,aM (r x)=[]) (hrest:∀x∈rest,aM x=[]) (ho:dB ob=[]) (ho':∀x,dB (ob' x)=[]) (hk:ah s.heap j=some ob)
  (hK:∀x,Q x->K ((St.mk s.env ((j,ob' x)::s.heap)).put d (r x))):cO P f (.mp j st 0 0::rest) d s K:=by
 have h':=h.at_e hr hrest ho ho' j;refine .inl (.inr ⟨[(j,ob)],_,_,[],h',λid o hh=>?_,?_,?_⟩)
 .simp only[ah]at hh;split at hh
  .rename_i e;subst e;cases hh;exact hk
  .cases hh
 .rintro r' σ' ⟨x,hx,rfl,rfl⟩ id hid;simp only[ah]at hid⊢;split at hid
  .rename_i e;subst e;exact .inl ⟨Qm j hs,by simp⟩
  .cases hid
 .rintro r' σ' ⟨x,hx,rfl,rfl⟩;refine⟨⟨dE [] s.env,(j,ob' x)::dy [] s.heap⟩,λk=>oE k [] s.env,λi=>?_,hK x hx⟩;simp only[ah,Jj];by_cases e:j=i
  .subst e;simp
  .simp only[ak e];rw[ak (by simp),kQ]
def jZ{f:FuncId}{args:List AV}{Sb:Nat->Prop}{r:X->AV}{Q:X->Prop}{d:Option Nat}{s:St}{K:St->Prop}
  (h:aQ P f args [] Sb (λr' σ'=>∃x,Q x/\r'=r x/\σ'=[])) (hK:∀x,Q x->K (s.put d (r x))):cO P f args d s K:=by
 refine .inl (.inr ⟨[],_,_,[],h,(λid o hh=>by cases hh),?_,?_⟩)
 .rintro r' σ' ⟨x,hx,rfl,rfl⟩ id hid;cases hid
 .rintro r' σ' ⟨x,hx,rfl,rfl⟩;refine⟨⟨dE [] s.env,dy [] s.heap⟩,λk=>oE k [] s.env,λi=>?_,hK x hx⟩;show ah (dy [] s.heap) i=Option.map (iI []) (ah s.heap i);rw[kQ]
def Wj{f:FuncId}{st st1:Nat}{ob rc:ao}{ob' rc':X->ao}{Sb:Nat->Prop}{r:X->AV}{Q:X->Prop}{j:Nat}{d:Option Nat}{s:St}{K:St->Prop}
  (h:aQ P f [.mp 1000 st 0 0,.mp 1001 st1 0 0] [(1000,ob),(1001,rc)] Sb (λr' σ'=>∃x,Q x/\r'=r x/\σ'=[(1000,ob' x),(1001,rc' x)]))
  (hs:Sb 1000) (hs1:Sb 1001) (hj:j≠1000) (hr:∀x,aM (r x)=[]) (ho:dB ob=[]) (hc:dB rc=[]) (ho':∀x,dB (ob' x)=[]) (hc':∀x,dB (rc' x)=[])
  (hk:ah s.heap 1000=some ob) (hk1:ah s.heap j=some rc)
  (hK:∀x,Q x->K ((St.mk s.env ((1000,ob' x)::(j,rc' x)::s.heap)).put d (r x))):cO P f [.mp 1000 st 0 0,.mp j st1 0 0] d s K:=by
 have e0:i5 1001 j 1000=1000:=by unfold i5;simp[Ne.symm hj]
 have e1:i5 1001 j 1001=j:=by simp[i5]
 have e2:i5 1001 j j=1001:=by unfold i5;split<;>simp_all
 have h':aQ P f [.mp 1000 st 0 0,.mp j st1 0 0] [(1000,ob),(j,rc)] (λid=>Sb (i5 1001 j id)) (λr' σ'=>∃x,Q x/\r'=r x/\σ'=[(1000,ob' x),(j,rc' x)]):=by
  refine(h.ren (args2:=[.mp 1000 st 0 0,.mp j st1 0 0]) (σ2:=[(1000,ob),(j,rc)]) (i5 1001 j) (i5 1001 j) (lk _ _) (lk _ _) ?_ ?_).mono (λ_ h=>h) ?_
  .simp only[eG,qF,m0,vR,qy,rz,e0,e2]
  .simp only[iX,e0,e2,fZ _ ob ho,fZ _ rc hc]
  .rintro r' σ' ⟨r0,σ0,⟨x,hx,rfl,rfl⟩,rfl,rfl⟩;exact⟨x,hx,rB _ _ (hr x),by simp only[iX,e0,e1,fZ _ _ (ho' x),fZ _ _ (hc' x)]⟩
 refine .inl (.inr ⟨[(1000,ob),(j,rc)],_,_,[],h',λid o hh=>?_,?_,?_⟩)
 .simp only[ah]at hh;split at hh
  .rename_i e;subst e;cases hh;exact hk
  .split at hh
   .rename_i e;subst e;cases hh;exact hk1
   .cases hh
 .rintro r' σ' ⟨x,hx,rfl,rfl⟩ id hid;simp only[ah]at hid⊢;split at hid
  .rename_i e;subst e;exact .inl ⟨by show Sb (i5 1001 j 1000);rw[e0];exact hs,by simp⟩
  .split at hid
   .rename_i e;subst e;exact .inl ⟨by show Sb (i5 1001 j j);rw[e2];exact hs1,by rw[ak (Ne.symm hj)];simp⟩
   .cases hid
 .rintro r' σ' ⟨x,hx,rfl,rfl⟩;refine⟨⟨dE [] s.env,(1000,ob' x)::(j,rc' x)::dy [] s.heap⟩,λk=>oE k [] s.env,λi=>?_,hK x hx⟩;simp only[ah,Jj];by_cases e:1000=i
  .subst e;simp
  .by_cases e':j=i
   .subst e';simp[Ne.symm hj]
   .simp only[ak e,ak e'];rw[ak (by simp),kQ]
end
inductive Nd:AV->AV->Prop where
 | rfl (x:AV):Nd x x
 | nl (st:Nat):Nd .nl (.sl st [])
 | sl (st:Nat) (rows rows':List (List AV)) (hl:rows.length=rows'.length) (hr:∀(i:Nat)(r r':List AV),rows[i]?=some r->rows'[i]?=some r'->r.length=r'.length)
    (hx:∀(i j:Nat)(r r':List AV)(x y:AV),rows[i]?=some r->rows'[i]?=some r'->r[j]?=some x->r'[j]?=some y->Nd x y):Nd (.sl st rows) (.sl st rows')
def IRel.nd{M:Nat->Prop}{w:World}{x y:AV}(h:Nd x y):∀{v:Value},IRel M w v x->IRel M w v y:=by
 induction h with
 | rfl x=>exact λh=>h
 | nl st=>exact λh=>IRel.nl_sl h st
 | sl st rows rows' hl hr hx ih =>
  intro v h;cases h with
  | nls=>obtain rfl:rows'=[]:=B0 (by simpa using hl.symm);exact .nls st
  | sl0 _ a cap=>obtain rfl:rows'=[]:=B0 (by simpa using hl.symm);exact .sl0 st a cap
  | sl b off cap _ c t fr _ vs hb hM hle hrl hv hxx =>
   rw[hl];have get:∀{i:Nat}{r':List AV},rows'[i]?=some r'->∃r,rows[i]?=some r:=λ{i r'} h=>by
    have hi:i<rows'.length:=by
     rcases fV i rows'.length with q|q
     .exact q
     .rw[Ms q]at h;cases h
    exact⟨rows[i]'(by omega),kZ _⟩
   refine .sl b off cap st c t fr rows' vs hb hM (by omega) (λi r' hi=>?_) (λi j hi hj=>hv i j (by omega) hj) (λi j r' y hi hj=>?_)
   .obtain⟨r,hr2⟩:=get hi;rw[<-hr i r r' hr2 hi];exact hrl i r hr2
   .obtain⟨r,hr2⟩:=get hi;have hjl:j<r.length:=by
     rw[hr i r r' hr2 hi];rcases fV j r'.length with q|q
     .exact q
     .rw[Ms q]at hj;cases hj
    exact ih i j r r' _ y hr2 hi (kZ hjl) hj (hxx i j r _ hr2 (kZ hjl))
def cz.nd{bl:Nat->Option Nat}{M:Nat->Prop}{w:World}{v:Value}{x y:AV}(h:Nd x y)(hr:cz bl M w v x):cz bl M w v y:=by
 cases h with
 | rfl=>exact hr
 | nl st=>exact IRel.nd (.nl st) (show IRel M w v .nl from hr)
 | sl st rows rows' h1 h2 h3=>exact IRel.nd (.sl st rows rows' h1 h2 h3) (show IRel M w v (.sl st rows) from hr)
def nld(x y:AV):Prop:=Nd x y\/∃l m,x = .agg l/\y = .agg m/\aZ Nd l m
def XQ{bl:Nat->Option Nat}{M:Nat->Prop}{w:World}{v:Value}{x y:AV}(h:nld x y)(hr:bt bl M w v x):bt bl M w v y:=by
 rcases h with h|⟨l,m,rfl,rfl,h⟩
 .cases h with
  | rfl=>exact hr
  | nl st=>exact IRel.nd (.nl st) (show IRel M w v .nl from hr)
  | sl st rows rows' h1 h2 h3=>exact IRel.nd (.sl st rows rows' h1 h2 h3) (show IRel M w v (.sl st rows) from hr)
 .obtain⟨cs,h1,h2⟩:=hr;refine⟨cs,h1,?_⟩;clear h1
  induction cs generalizing l m with
  | nil=>match l,m,h,h2 with | [],[],_,_=>trivial
  | cons c cs ih=>match l,m,h,h2 with|a::l,b::m,h,h2=>exact⟨cz.nd h.1 h2.1,ih l m h.2 h2.2⟩
def JI{bl:Nat->Option Nat}{M:Nat->Prop}{w:World}:∀{vs:List Value}{l m:List AV},aZ nld l m->aZ (bt bl M w) vs l->aZ (bt bl M w) vs m
 | [],[],[],_,_=>trivial
 | v::vs,x::l,y::m,h,hr=>⟨XQ h.1 hr.1,JI h.2 hr.2⟩
 | [],[],_::_,h,_=>h.elim
 | [],_::_,_,_,hr=>hr.elim
 | _::_,[],_,_,hr=>hr.elim
 | _::_,_::_,[],h,_=>h.elim
def r7{P:Program}[bJ P]{f:FuncId}{xs ys:List AV}{r:AV}(hp:aj P f ys r)(h:aZ nld xs ys):aj P f xs r :=
 λbl MF w cargs h1 h2 h3 h4 h5=>hp bl MF w cargs h1 h2 h3 h4 (JI h h5)
def FO(n:Nat):bI->bI
 | .draw ops al dr=>match ops with
  | ⟨⟨some d,op,g⟩,b⟩::r=>if d=n then .free (⟨⟨some d,op,g⟩,b⟩::r) al dr else .draw (⟨⟨some d,op,g⟩,b⟩::r) al dr
  | ops=>.draw ops al dr
 | .seq x y=>.seq (FO n x) (FO n y)
 | .cond c x y=>.cond c (FO n x) (FO n y)
 | .block id x=>.block id (FO n x)
 | .loop x=>.loop (FO n x)
 | x=>x
def aiA(b:List Nat)(R:List (Nat×aR)):Bool:=R.all λq=>!b.contains q.1
def af9(R:List (Nat×aR)):List (Nat×aR)->List (Nat×aR)
 | []=>[]
 | t::L=>if aiA t.2.bef R=true then t::af9 R L else af9 R L
def aeG(i:Nat):List (Nat×aR)->List (Nat×aR)
 | []=>[]
 | t::L=>if t.1=i then aeG i L else t::aeG i L
section
variable{P:Program}[bJ P]
def aeO:Nat->List aR->List (Nat×aR)
 | _,[]=>[]
 | i,o::r=>(i,o)::aeO (i+1) r
end
attribute[go_sem] List.contains_cons List.contains_nil i0 cj
structure Bk(H:Type) where
 f:DataW H->Nat
 str:∀l:List UInt8,l.length<=f (.lit (.string l))
 sl:∀es sp,es.length<=f (.slice es sp)
 sle:∀es sp d,d∈es->f d<=f (.slice es sp)
 ag:∀ps d,d∈ps->f d<=f (.agg ps)
def Ty.bd(B:Nat):Ty->List AV->Prop
 | .str,xs=>∀s,xs=[.str s]->s.length<=B
 | .sl e,xs=>∀st rows,xs=[.sl st rows]->rows.length<=B/\∀r∈rows,e.bd B r
 | .cons f r,xs=>f.bd B (xs.take f.n)/\r.bd B (xs.drop f.n)
 | _,_=>True
def Ty.bdV(B:Nat)(τ:Ty)(x:AV):Prop:=match τ.isRec with
 | true=>∀xs,x = .agg xs->τ.bd B xs
 | false=>τ.bd B [x]
section
variable{H:Type}{enc:TypeId×Value->H}{P:Program}{w:World}{base:Nat}{sp:Nat->Bool}{held:Bool}
end
section
variable{H:Type}{enc:TypeId×Value->H}{P:Program}[bJ P]{w:World}{base:Nat}{sp:Nat->Bool}{held:Bool}
end
section
variable{H:Type}{enc:TypeId×Value->H}{P:Program}[bJ P]{w:World}
end
def Uv(ρ:Nat->Nat):List (Nat×AV)->List (Nat×AV)
 | []=>[]
 | (k,x)::r=>(k,m0 ρ x)::Uv ρ r
def IZ(ρ:Nat->Nat)(k:Nat):∀e:List (Nat×AV),get (Uv ρ e) k=m0 ρ (get e k)
 | []=>rfl
 | (j,x)::r=>by
  simp only[Uv,get];split
  .rfl
  .exact IZ ρ k r
def Wk.ren(s:St)(ps:List (Nat×Nat))(h:∀id,1000<=id->id<2000->bw ps id=id):Wk s ⟨Uv (fw ps) s.env,iX (fw ps) s.heap⟩:=by
 rintro c a w ⟨bl,hs⟩;have hb:∀i,(λi=>bl (bw ps i)) (fw ps i)=bl i:=λi=>by simp only[ux]
 have hm:∀b,bG (λi=>bl (bw ps i)) c.MF (ah (iX (fw ps) s.heap)) b->bG bl c.MF (ah s.heap) b:=λb hm=>DT (ux ps) (FP ps) hb b hm;refine⟨λi=>bl (bw ps i),hs.defers,hs.size,λk=>?_,DU (ux ps) (FP ps) hs.heap hb hm,hs.step,λid o b hi hq=>?_,λid h1 h2=>?_,hs.mf⟩
 .show bt _ _ _ _ (get (Uv (fw ps) s.env) k);rw[IZ];exact DW (hs.env k) hb hm
 .rw[kR (ux ps) (FP ps)]at hi;simp only[dU]at hi;obtain⟨o0,h5,_⟩:=hi;exact hs.own _ o0 b h5 hq
 .show bl (bw ps id)=_;rw[h id h1 h2];exact hs.stab id h1 h2
def Zh(P:Program):Nat->TypeId->Bool
 | 0,_=>true
 | f+1,t=>match P.underlying t with
  | some (.slice e)=>decide (0<P.bytesOf e)&&Zh P f e
  | some (.struct fs)=>fs.toList.all λx=>Zh P f x.type
  | _=>true
def Kn{H:Type}{P:Program}{e:TypeId}{d:DataW H}{n:Nat}:∀{l:List (DataW H)},d∈l->n∈DataW.weights P e d->n∈DataW.weightsAll P e l
 | x::l,h,hn=>by
  rw[DataW.weightsAll,f7];rcases dQ.1 h with rfl|h
  .exact .inl hn
  .exact .inr (Kn h hn)
def Gp{H:Type}{P:Program}:∀(ts us:List TypeId)(ds gs:List (DataW H)){n:Nat},n∈DataW.weightsEach P ts ds->n∈DataW.weightsEach P (ts++us) (ds++gs)
 | [],us,ds,gs,n,h=>by cases ds<;>simp[DataW.weightsEach]at h
 | t::ts,us,[],gs,n,h=>by simp[DataW.weightsEach]at h
 | t::ts,us,d::ds,gs,n,h=>by
  simp only[mr,DataW.weightsEach,f7]at h⊢;exact h.imp_right λh=>Gp ts us ds gs h
def Vp{H:Type}{P:Program}{ts us:List TypeId}{ds gs:List (DataW H)}{B:Nat}(h:(DataW.weightsEach P (ts++us) (ds++gs)).all (·<=B)=true):∀n∈DataW.weightsEach P ts ds,n<=B:=λn hn=>of_decide_eq_true (fk.1 h n (Gp ts us ds gs hn))
section
variable{H:Type}{enc:TypeId×Value->H}{P:Program}{w:World}{base:Nat}{sp:Nat->Bool}{held:Bool}
def IT{B:Nat}{g:TypeId->Option Ty}{h:TypeId->Bool}{r:TypeId->List Value->Option (DataW H×List MemPlace)}
  (ih:∀t cs τ x xs,g t=some τ->h t=true->r t cs=some x->τ.ok xs->aZ (IRel (λ_=>False) w) cs xs->(∀n∈DataW.weights P t x.1,n<=B)->τ.bd B xs) (cs:List Value) :
  ∀(fs:List Field)(off:Nat)(τ:Ty)(xs:List (DataW H×List MemPlace))(ys:List AV),Eb g P off fs=some τ->(fs.all λx=>h x.type)=true->(fs.mapM λf=>r f.type ((cs.drop f.offset).take (P.cellsOf f.type)))=some xs ->
   τ.ok ys->aZ (IRel (λ_=>False) w) (cs.drop off) ys->(∀n∈DataW.weightsEach P (fs.map (·.type)) (xs.map (·.1)),n<=B)->τ.bd B ys
 | [],off,τ,xs,ys,ht,_,_,_,_,_=>by
  simp only[Eb,cZ]at ht;subst ht;trivial
 | f::fs,off,τ,xs,ys,ht,hw,hm,hok,hr,hB=>by
  rw[xc,cW]at hw;simp only[Eb]at ht;split at ht
  case isFalse=>cases ht
  rename_i hoff;split at ht
  case h_2=>cases ht
  rename_i a b ha hb;split at ht
  case isFalse=>cases ht
  rename_i hsz;cases ht;simp only[List.mapM_cons,bind,vb,pure,cZ]at hm;obtain⟨y,h1,zs,h2,rfl⟩:=hm;simp only[eG,DataW.weightsEach,f7]at hB;obtain⟨y1,y2,rfl,o1,o2⟩:=hok;have hl:=Ty.ok_len a y1 o1;have r1:=hr.take a.n;have r2:=hr.drop a.n;rw[List.take_left' hl]at r1;rw[List.drop_left' hl,AH]at r2;refine⟨?_,?_⟩
  .rw[List.take_left' hl];rw[hoff]at h1;rw[hsz]at r1;exact ih _ _ _ _ _ ha hw.1 h1 o1 r1 λn hn=>hB n (.inl hn)
  .rw[List.drop_left' hl];rw[hsz]at r2;exact IT ih cs fs (off+P.cellsOf f.type) b zs y2 hb hw.2 h2 o2 r2 λn hn=>hB n (.inr hn)
def adw{B:Nat}:∀(fuel f:Nat)(t:TypeId)(cs:List Value)(τ:Ty)(x:DataW H×List MemPlace)(xs:List AV),vV P f t=some τ->Zh P f t=true->DataW.trod enc P w base sp held fuel t cs=some x->τ.ok xs ->
  aZ (IRel (λ_=>False) w) cs xs->(∀n∈DataW.weights P t x.1,n<=B)->τ.bd B xs:=by
 intro fuel
 induction fuel with
 | zero=>intro f t cs τ x xs _ _ h;simp[DataW.trod]at h
 | succ fuel ih =>
  intro f t cs τ x xs ht hw h hok hr hB;cases f with
  | zero=>simp[vV]at ht
  | succ f =>
   simp only[vV]at ht;split at ht
   case h_1 hu=>cases ht;trivial
   case h_2 k' hu=>cases ht;trivial
   case h_3 hu =>
    cases ht;unfold DataW.trod at h;split at h<;>rename_i heq<;>first|(rw[hu]at heq;cases heq;done)|(cases h;done)|skip
    rename_i s;split at h
    .cases h;intro s' hs;subst hs;have h1:=hr.1;cases h1;exact hB _ (by simp[DataW.weights])
    .cases h
   case h_4 e hu =>
    simp only[Zh,hu,cW,gj]at hw;split at ht
    case h_2=>cases ht
    rename_i a ha;split at ht
    case isFalse=>cases ht
    rename_i hsz;cases ht;unfold DataW.trod at h;split at h<;>rename_i heq<;>first|(rw[hu]at heq;cases heq;done)|(cases h;done)|skip
    .intro st rows hs;subst hs;have h1:=hr.1;cases h1;exact⟨cm _,λr hr=>by cases hr⟩
    .rename_i e1 ad len cap;rw[hu]at heq;cases heq;simp only at h;split at h
     case isFalse=>cases h
     rename_i hcap;simp only[vb,dU]at h;obtain⟨elems,hel,rest,_,rfl⟩:=h;obtain⟨hlen,ah⟩:=xt hel;intro st rows hs;subst hs;have h1:=hr.1;simp only[DataW.weights,hu,dQ,f7]at hB;have hall:∀y∈elems,∀n∈DataW.weights P e y.1,n<=B:=λy hy n hn=>hB n (.inr (.inl (Kn (gG.2 ⟨y,hy,rfl⟩) hn)));have hln:elems.length<=B:=by
      have h2:=hB _ (.inl rfl);have h3:=hw.1;rw[bZ]at h2;exact m8 (m8 (Nat.le_add_right _ _) (Nat.le_mul_of_pos_right _ h3)) h2
     have hrok:∀r∈rows,a.ok r:=by
      rcases hok with hok|⟨rows',hok,_,h3⟩
      .cases hok
      .cases hok;exact h3
     have hst:st=a.n\/rows=[]:=by
      rcases hok with hok|⟨rows',hok,_,_⟩
      .cases hok
      .cases hok;exact .inl rfl
     cases h1 with
     | sl0=>exact⟨cm _,λr hr=>by cases hr⟩
     | sl bk of _ _ c tt fr _ vs hb hM hl hrl hv hx =>
      refine⟨by omega,λr hrm=>?_⟩;obtain⟨i,hi,hri⟩:=List.getElem_of_mem hrm;have hri':rows[i]?=some r:=by rw[kZ hi,hri]
      obtain⟨y,g1,g2⟩:=ah i (by omega);simp only[vb]at g2;obtain⟨row,g3,g4⟩:=g2;have hym:y∈elems:=vc g1;refine ih f e row a y r ha hw.2 g4 (hrok r hrm) ?_ (hall y hym);have hst':st=a.n:=hst.resolve_right (λh=>by rw[h]at hi;simp at hi);obtain⟨q1,q2⟩:=Fw g3;have hblk:∀(q:Addr) m,(q.add m).block=q.block:=λq m=>by unfold Addr.add;split<;>rfl
      have hoff:∀(q:Addr) m,(q.add m).off=q.off+m:=λq m=>by
       unfold Addr.add;split
       .rename_i hm;simp[hm]
       .rfl
      refine aZ.of_get (by rw[q1,Ty.ok_len a r (hrok r hrm),hsz.1]) (λj v x hv' hx'=>?_);have hj:j<P.cellsOf e:=by
       have:=(js.1 hv').1;omega
      obtain⟨v',p1,p2⟩:=q2 j hj;rw[hv']at p1;cases p1;obtain⟨_,c',t',fr',p3,p4⟩:=CD p2;rw[hblk,hblk]at p3;simp only at p3;rw[hb]at p3;cases p3;rw[hoff,hoff]at p4;simp only at p4;have:=hv i j hi (by rw[hst',hsz.1];exact hj);rw[hst',hsz.1,p4]at this;cases this;exact hx i j r x hri' hx'
   case h_5 fs hu =>
    simp only[Zh,hu]at hw;split at ht
    case h_2=>cases ht
    rename_i a ha;split at ht
    case isFalse=>cases ht
    rename_i hsz;cases ht;unfold DataW.trod at h;split at h<;>rename_i heq<;>first|(rw[hu]at heq;cases heq;done)|(cases h;done)|skip
    .rename_i cs1 fs1;rw[hu]at heq;cases heq;split at h
     case isFalse=>cases h
     rename_i hcl;simp only[dU]at h;obtain⟨ys,h1,rfl⟩:=h;refine IT (P:=P) (g:=vV P f) (h:=Zh P f) (r:=λt cs=>DataW.trod enc P w base sp held fuel t cs) (λt cs τ x xs=>ih f t cs τ x xs) _ _ 0 _ ys xs ha hw h1 hok (by simpa using hr) λn hn=>hB n ?_;simpa only[DataW.weights,hu]using hn
   case h_6=>cases ht
end
section
variable{H:Type}{enc:TypeId×Value->H}{P:Program}[bJ P]{w:World}{base:Nat}{sp:Nat->Bool}{held:Bool}
def Wg{B:Nat}{f:Nat}{t:TypeId}{τ:Ty}{r:Reach}{b:Nat}{v:Value}{d:DataW H}{p:List MemPlace}(ht:vV P f t=some τ)(hw:Zh P f t=true)(hv:Value.okWide P w r b t v)(h:DataW.Trod enc P w base sp held t v d p)(hB:∀n∈DataW.weights P t d,n<=B) :
  ∃x,τ.okV x/\τ.bdV B x/\bt (λ_=>none) (λ_=>False) w v x:=by
 obtain⟨fuel,h⟩:=h;obtain⟨xs,h1,h2⟩:=Zg fuel f t _ _ _ ht h;have hb:=adw fuel f t _ _ _ xs ht hw h h1 h2 hB;have one:τ.isRec=false->v.cells.toList=[v]->∃x,τ.okV x/\τ.bdV B x/\bt (λ_=>none) (λ_=>False) w v x:=λhr hc=>by
  rw[hc]at h2
  match xs,h2 with
  | [x],h2=>exact⟨x,by unfold Ty.okV;rw[hr];exact h1,by unfold Ty.bdV;rw[hr];exact hb,h2.1.toV⟩
 cases f with
 | zero=>simp[vV]at ht
 | succ f =>
  simp only[vV]at ht;unfold Value.okWide at hv;split at ht
  .rename_i hu;rw[hu]at hv;cases ht
   exact one rfl (by
    unfold Cell.okWide at hv;rw[hu]at hv;simp only[Cell.ok,hu]at hv;cases v<;>first|rfl|exact hv.elim)
  .rename_i k hu;rw[hu]at hv;cases ht
   exact one rfl (by
    unfold Cell.okWide at hv;rw[hu]at hv;simp only[Cell.ok,hu]at hv;cases v<;>first|rfl|exact hv.elim)
  .rename_i hu;rw[hu]at hv;cases ht
   exact one rfl (by
    unfold Cell.okWide at hv;rw[hu]at hv;simp only[Cell.ok,hu]at hv;cases v<;>first|rfl|exact hv.elim)
  .rename_i e hu;rw[hu]at hv;have hr:τ.isRec=false:=by
    split at ht
    case h_2=>cases ht
    split at ht
    case isFalse=>cases ht
    cases ht;rfl
   exact one hr (by
    unfold Cell.okWide at hv;rw[hu]at hv;simp only[Cell.ok,hu]at hv;cases v<;>first|rfl|exact hv.elim)
  .rename_i fs hu;rw[hu]at hv;have hr:τ.isRec=true:=by
    split at ht
    case h_2=>cases ht
    rename_i hfs;split at ht
    case isFalse=>cases ht
    cases ht;exact Mk hfs
   obtain⟨cs,rfl,_,_⟩:=hv;refine⟨.agg xs,by unfold Ty.okV;rw[hr];exact⟨xs,rfl,h1⟩,by unfold Ty.bdV;rw[hr];intro ys hy;cases hy;exact hb,cs.toList,by simp,?_⟩;exact aZ.mono h2 λa x _ h=>h.toC
  .cases ht
def IB{B:Nat}{r:Reach}{b:Nat}:∀{ts:List TypeId}{τs:List Ty}{vs:List Value}{ds:List (DataW H)}{ps:List MemPlace},aZ (λt τ=>vV P 9 t=some τ/\Zh P 9 t=true) ts τs ->
  DataW.TrodAll enc P w base sp held ts vs ds ps->(∀(j:Nat) t v,ts[j]?=some t->vs[j]?=some v->Value.okWide P w r b t v)->(∀n∈DataW.weightsEach P ts ds,n<=B)->∃xs,aZ Ty.okV τs xs/\aZ (Ty.bdV B) τs xs/\aZ (bt (λ_=>none) (λ_=>False) w) vs xs
 | [],[],[],ds,ps,_,h,_,_=>⟨[],trivial,trivial,trivial⟩
 | t::ts,τ::τs,v::vs,d::ds,ps,ht,h,hv,hB=>by
  obtain⟨p,q,h3,h4,rfl⟩:=h;simp only[DataW.weightsEach,f7]at hB;obtain⟨x,h5,h5b,h6⟩:=Wg ht.1.1 ht.1.2 (hv 0 t v rfl rfl) h3 λn hn=>hB n (.inl hn);obtain⟨xs,h7,h7b,h8⟩:=IB ht.2 h4 (λj t v h1 h2=>hv (j+1) t v (by simpa using h1) (by simpa using h2)) λn hn=>hB n (.inr hn);exact⟨x::xs,⟨h5,h7⟩,⟨h5b,h7b⟩,h6,h8⟩
 | [],[],_::_,_,_,_,h,_,_=>h.elim
 | _::_,[],_,_,_,ht,_,_,_=>ht.elim
 | [],_::_,_,_,_,ht,_,_,_=>ht.elim
 | _::_,_::_,[],_,_,_,h,_,_=>h.elim
 | _::_,_::_,_::_,[],_,_,h,_,_=>h.elim
end
section
variable{H:Type}{enc:TypeId×Value->H}{P:Program}[bJ P]{w:World}
def EG{B:Nat}{fid:FuncId}{f:Func}{s:ChangeSpec}(τs:List Ty){tb:TypeId}{apart fresh handsOn again:Bool}(hty:aZ (λt τ=>vV P 9 t=some τ/\Zh P 9 t=true) f.params.toList τs)(hl:laidOutB P=true)
  (hr:∀t∈f.params.toList,P.readableRec t=true/\t<P.types.size) (hvs:s.vars=[])
  (hfn:∀ds:List (DataW H),ds.length=τs.length->(s.fn H ds).results=[.lit (.bool true)]/\(s.fn H ds).args=ds/\(s.fn H ds).vars=[])
  (hrt:f.resultTypes = #[tb]) (htb:P.underlying tb=some .bool)
  (hp:∀xs,aZ Ty.okV τs xs->aZ (Ty.bdV B) τs xs->aj P fid xs (.bool true))
  (W:World) (b:Nat) (args:Array Value) (ds gs:List (DataW H)) (before:List MemPlace) {r:Reach} (hT:(bJ.T P).H W)
  (hval:∀(j:Nat) t v,f.params[j]?=some t->args[j]?=some v->Value.okWide P W r b t v)
  (hW:DataW.Whole enc P f.params.toList s.vars apart W args.toList ds gs before) (hB:∀n∈DataW.weightsEach P f.params.toList ds,n<=B) :
  Calls P fid args W λe W'=>∃v,e = .returned v/\s.post enc P f apart fresh handsOn again W args v W':=by
 have hW':=hW;obtain⟨p,q,hA,hV,_,_,_⟩:=hW;rw[hvs]at hV;obtain⟨rfl,rfl⟩:=trodVars_none hV;obtain⟨xs,h1,h1b,h2⟩:=IB hty hA (λj t v h1 h2=>hval j t v (by simpa using h1) (by simpa using h2)) hB;have h4:=hp xs h1 h1b;have hlen:ds.length=τs.length:=by
  have key:∀{ts:List TypeId}{vs:List Value}{ds:List (DataW H)}{ps:List MemPlace},DataW.TrodAll enc P W 0 (λ_=>true) true ts vs ds ps->ds.length=ts.length:=by
   intro ts
   induction ts with
   | nil=>intro vs ds ps h;match vs,ds,h with | [],[],_=>rfl
   | cons t ts ih=>intro vs ds ps h;match vs,ds,h with|v::vs,d::ds,⟨_,_,_,h4,_⟩=>simp[ih h4]
  rw[key hA,hty.length]
 obtain⟨g1,g2,g3⟩:=hfn ds hlen;have:=JV h4 hT h2;rw[show args.toList.toArray=args from by simp]at this;refine this.mono λe W' ⟨he,hk⟩=>⟨_,he,?_⟩
 exact ST hl hr hvs (by simpa using g1) (by simpa using g2) (by simpa using g3) hrt htb hW' hk
end
def ku(n:Nat):bI->bI
 | .draw ops al dr=>match ops with
  | ⟨⟨some d,op,g⟩,b⟩::r=>if d=n then .wild (⟨⟨some d,op,g⟩,b⟩::r) al dr else .draw (⟨⟨some d,op,g⟩,b⟩::r) al dr
  | ops=>.draw ops al dr
 | .seq x y=>.seq (ku n x) (ku n y)
 | .cond c x y=>.cond c (ku n x) (ku n y)
 | .block id x=>.block id (ku n x)
 | .loop x=>.loop (ku n x)
 | x=>x
def Mn(n d:Nat)(op:oC)(g:Option (Nat×Bool))(b:List Nat)(r:List aR)(al:List (Nat×Nat))(dr:List Nat) :
  ku n (.draw (⟨⟨some d,op,g⟩,b⟩::r) al dr)=if d=n then .wild (⟨⟨some d,op,g⟩,b⟩::r) al dr else .draw (⟨⟨some d,op,g⟩,b⟩::r) al dr:=bX rfl
def P2(n:Nat)(x y:bI):ku n (.seq x y) = .seq (ku n x) (ku n y):=bX rfl
def Mm(n:Nat)(c:IV)(x y:bI):ku n (.cond c x y) = .cond c (ku n x) (ku n y):=bX rfl
def Ko(n id:Nat)(x:bI):ku n (.block id x) = .block id (ku n x):=bX rfl
def Mo(n:Nat):ku n .skip = .skip:=bX rfl
def P1(n:Nat):ku n .ret = .ret:=bX rfl
def P0(n:Nat)(ops:List bC)(dr:List Nat):ku n (.reg ops dr) = .reg ops dr:=bX rfl
def FS:List aR->List aR
 | []=>[]
 | [_]=>[]
 | o::p::r=>o::FS (p::r)
def C9:List aR->Option aR
 | []=>none
 | [o]=>some o
 | _::p::r=>C9 (p::r)
def OZ(o:aR):FS [o]=[]:=bX rfl
def C3(o p:aR)(r:List aR):FS (o::p::r)=o::FS (p::r):=bX rfl
def O9(o:aR):C9 [o]=some o:=bX rfl
def C_(o p:aR)(r:List aR):C9 (o::p::r)=C9 (p::r):=bX rfl
def M2:∀l,FS l=l.dropLast
 | []=>rfl
 | [_]=>rfl
 | o::p::r=>by rw[C3,M2 (p::r)];rfl
def M6:∀l,C9 l=l.getLast?
 | []=>rfl
 | [_]=>rfl
 | o::p::r=>by rw[C_,M6 (p::r),List.getLast?_cons_cons]
section
variable{P:Program}[bJ P]
def ZO(al:List (Nat×Nat))(n:Nat)(o:Option aR)(dr:List Nat)(K:IX->St->Prop)(hist:List HI)(s:St):Prop :=
 match o with
 | some o=>Kp al (n-1) o hist s λs'=>K .nrm ⟨dels dr s'.env,s'.heap⟩
 | none=>False
def SQ(P:Program)[bJ P](al:List (Nat×Nat))(i:Nat)(r:List aR)(K:List HI->St->Prop)(hist:List HI)(s:St):Prop:=e_ P al i r hist s K
def SR(al:List (Nat×Nat))(i:Nat)(r:List aR)(K:List HI->St->Prop)(hist:List HI)(s:St):SQ P al i r K hist s=e_ P al i r hist s K:=bX rfl
def Le(al:List (Nat×Nat))(i:Nat)(hist:List HI)(s:St)(K:List HI->St->Prop):e_ P al i [] hist s K=K hist s:=bX rfl
def I4(al:List (Nat×Nat))(i:Nat)(d:Option Nat)(op:oC)(bf:List Nat)(r:List aR)(hist:List HI)(s:St)(K:List HI->St->Prop) :
  e_ P al i (⟨⟨d,op,none⟩,bf⟩::r) hist s K=i_ P al i ⟨⟨d,op,none⟩,bf⟩ hist s (SQ P al (i+1) r K):=bX rfl
def SO(ops:List aR)(al:List (Nat×Nat))(dr:List Nat)(s:St)(K:IX->St->Prop):jL P (.wild ops al dr) s K=e_ P al 0 (FS ops) [] (kills (al.map (·.1)) s) (ZO al ops.length (C9 ops) dr K):=by
 rw[M2,M6];rfl
def O8{al:List (Nat×Nat)}{n d:Nat}{t:TypeId}{st:Nat}{x y:IV}{bf:List Nat}{dr:List Nat}{K:IX->St->Prop}{hist:List HI}{s:St}(v:AV)(e:bz)
  (h:bW d (.app t st x y) (val (get s.env)) (ah s.heap)=some (v,e)) (h1:((aw (.app t st x y)).all λk=>!Bb (get s.env k))=true) (h2:e.isReb=true) (h3:(hist.all λz=>bf.contains z.i||Mp e.tch z)=true)
  (h4:Bj al bf ⟨n-1,cL (.app t st x y) s.env,aM v++e.ids,e.tch,true,true⟩=true) (h5:Xm dr K ((s.eff e).put (some d) v)):ZO al n (some ⟨⟨some d,.app t st x y,none⟩,bf⟩) dr K hist s:=by
 refine⟨rfl,?_⟩;simp only[Ih];rw[h];exact⟨h1,h2,h3,h4,h5⟩
end
attribute[go_sem] Mn P2 Mm Ko Mo P1 P0 OZ C3 O9 C_ Le I4 SR SO
def M7{n:Nat}{c:List AV}(h:c.length=n):uI (some n) c=some (.agg c):=by
 show(if n<=c.length then some (AV.agg (c.take n))else none)=_;rw[au (by omega),cI (by omega)]
def NW{k n:Nat}{t:TypeId}{z c:List AV}(hz:z.length=n)(h:c.length=n):Is k n n 0 0 (some ⟨t,n,[z],true⟩) (some c)=some (.put k ⟨t,n,[c],true⟩):=by
 unfold Is;simp only[true_and,eC,and_true];rw[au h];show(if 0+n<=z.length then some (bz.put k ⟨t,n,[z].set 0 (iZ z 0 c),true⟩)else none)=_;rw[au (by omega)];unfold iZ;rw[rI,fo,zE,If (by omega),m_];rfl
def aed(n:Nat)(c:List AV):Prop:=c.length=n/\(∀i,c.any (mC i)=false)/\aM (.agg c)=[]
