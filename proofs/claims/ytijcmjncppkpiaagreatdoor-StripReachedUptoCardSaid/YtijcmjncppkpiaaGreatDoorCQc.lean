import Derived.Test.YtijcmjncppkpiaaGreatDoorCQb
import Derived.ProofKit
import Derived.OpenShut
import Derived.JoinedCond
import Derived.RangeFuncFrom
import Derived.RangeFuncLeaves
import Derived.RangeFuncCalls
set_option linter.all false
namespace Go.Mw
def ap{α:Type}[Inhabited α](l:List α)(i:Nat):α:=l[i]!
def aV{α:Type}[Inhabited α]{l:List α}{i:Nat}(h:i<l.length):ap l i=l[i]:=getElem!_pos l i h
def dV{α:Type}[Inhabited α]{l:List α}{i:Nat}(h:i<l.length):l[i]?=some (ap l i):=by rw[aV h];exact jZ h
def E7{α:Type}[Inhabited α]{l:List α}{i:Nat}{x:α}(h:i<l.length):ap (l.set i x) i=x:=by rw[aV (by simpa using h)];simp
def DB{α:Type}[Inhabited α]{l m:List α}{i:Nat}(h:i<l.length):ap (l++m) i=ap l i:=by
 rw[aV h,aV (by simp;omega),List.getElem_append_left h]
def Hb{α:Type}[Inhabited α]{l m:List α}{x:α}:ap (l++x::m) l.length=x:=by
 simp[ap]
def E5{α β:Type}[Inhabited α][Inhabited β]{l:List α}{f:α->β}{i:Nat}(h:i<l.length):ap (l.map f) i=f (ap l i):=by
 rw[aV h,aV (by simpa using h),List.getElem_map]
def Hc{α:Type}[Inhabited α]{l:List α}{i k:Nat}(h:i<k):ap (l.take k) i=ap l i:=by
 unfold ap;rw[WQ,WQ,List.getElem?_take_of_lt h]
section
variable{P:Program}[ba P]
def TL(P:Program)[ba P](y:bF)(K:IX->St->Prop)(e:IX)(s:St):Prop :=
 match e with
 | .nrm=>lz P y s K
 | e=>K e s
def afp(P:Program)[ba P](y:bF)(K:IX->St->Prop)(e:IX)(s:St):Prop :=
 match e with
 | .nrm=>∃s',Wk s s'/\lz P y s' K
 | e=>K e s
def TE(id:Nat)(K:IX->St->Prop)(e:IX)(s:St):Prop :=
 match e with
 | .ext j=>if j=id then K .nrm s else K (.ext j) s
 | e=>K e s
def LH(dr:List Nat)(K:IX->St->Prop)(s:St):Prop:=K .nrm ⟨dels dr s.env,s.heap⟩
def TK(P:Program)[ba P](r:List bj)(K:St->Prop)(s:St):Prop:=i3 P r s K
def JY(P:Program)[ba P](al:List (Nat×Nat))(i:Nat)(r:List aB)(K:St->Prop)(hist:List HI)(s:St):Prop:=kZ P al i r hist s K
def zG(K:St->Prop)(s:St)(d:Option Nat)(v:AV)(e:aW):Prop:=K ((s.eff e).put d v)
def Iz(al:List (Nat×Nat))(i:Nat)(bf:List Nat)(op:lR)(hist:List HI)(K:List HI->St->Prop)(s:St)(d:Option Nat)(v:AV)(e:aW):Prop :=
 dF op s e=true/\fY bf (@HI.mk i (bU op s.env) (aI v++e.ids) e.tch e.isReb e.isPut (yr op)) hist=true/\qF al bf (@HI.mk i (bU op s.env) (aI v++e.ids) e.tch e.isReb e.isPut (yr op))=true /\
  K ((@HI.mk i (bU op s.env) (aI v++e.ids) e.tch e.isReb e.isPut (yr op))::hist) ((s.eff e).put d v)
def db(K:AV->aW->Prop)(x:Option (AV×aW)):Prop :=
 match x with
 | some (v,e)=>K v e
 | none=>False
def Rj(A:Prop)(K:AV->aW->Prop)(x:Option (AV×aW)):Prop :=
 match x with
 | some (v,e)=>K v e
 | none=>A
def Rz(x:AV)(a b:Prop):Prop :=
 match x with
 | .bool t=>(t=true->a)/\(t=false->b)
 | _=>False
def Ip(x:AV)(a b c:Prop):Prop :=
 match x with
 | .bool t=>(t=true->a)/\(t=false->b)
 | .tup []=>c
 | _=>False
def Yu(y:bF)(K:IX->St->Prop)(s:St):TL P y K .nrm s=lz P y s K:=bN rfl
def Yv(y:bF)(K:IX->St->Prop)(s:St):TL P y K .ret s=K .ret s:=bN rfl
def Yw(y:bF)(K:IX->St->Prop)(j:Nat)(s:St):TL P y K (.ext j) s=K (.ext j) s:=bN rfl
def Ym(id:Nat)(K:IX->St->Prop)(s:St):TE id K .nrm s=K .nrm s:=bN rfl
def Yn(id:Nat)(K:IX->St->Prop)(s:St):TE id K .ret s=K .ret s:=bN rfl
def Yo(id j:Nat)(K:IX->St->Prop)(s:St):TE id K (.ext j) s=if j=id then K .nrm s else K (.ext j) s:=bN rfl
def Yt(dr:List Nat)(K:IX->St->Prop)(s:St):LH dr K s=K .nrm ⟨dels dr s.env,s.heap⟩:=bN rfl
def Ys(r:List bj)(K:St->Prop)(s:St):TK P r K s=i3 P r s K:=bN rfl
def TF(al:List (Nat×Nat))(i:Nat)(r:List aB)(K:St->Prop)(hist:List HI)(s:St):JY P al i r K hist s=kZ P al i r hist s K:=bN rfl
def abI(K:St->Prop)(s:St)(d:Option Nat)(v:AV)(e:aW):zG K s d v e=K ((s.eff e).put d v):=bN rfl
def Yp(al:List (Nat×Nat))(i:Nat)(bf:List Nat)(op:lR)(hist:List HI)(K:List HI->St->Prop)(s:St)(d:Option Nat)(v:AV)(e:aW):Iz al i bf op hist K s d v e =
 (dF op s e=true/\fY bf (@HI.mk i (bU op s.env) (aI v++e.ids) e.tch e.isReb e.isPut (yr op)) hist=true/\qF al bf (@HI.mk i (bU op s.env) (aI v++e.ids) e.tch e.isReb e.isPut (yr op))=true /\
  K ((@HI.mk i (bU op s.env) (aI v++e.ids) e.tch e.isReb e.isPut (yr op))::hist) ((s.eff e).put d v)):=rfl
def I8(K:AV->aW->Prop)(v:AV)(e:aW):db K (some (v,e))=K v e:=bN rfl
def I_(A:Prop)(K:AV->aW->Prop)(v:AV)(e:aW):Rj A K (some (v,e))=K v e:=bN rfl
def I9(A:Prop)(K:AV->aW->Prop):Rj A K none=A:=bN rfl
def MA(K:AV->aW->Prop)(c:Prop)[Decidable c](x:Option (AV×aW)):db K (if c then x else none)=(c/\db K x):=by
 by_cases h:c<;>simp[h,db]
def I7(K:AV->aW->Prop)(c:Prop)[Decidable c](x:Option (AV×aW)):db K (if c then none else x)=(¬c/\db K x):=by
 by_cases h:c<;>simp[h,db]
def acl(v:AV):res (some v)=some (v,.no):=rfl
def ZE(c:Prop)[Decidable c](x:Option AV):res (if c then x else none)=if c then res x else none:=by split<;>rfl
def U3(c:Prop)[Decidable c](x:Option AV):res (if c then none else x)=if c then none else res x:=by split<;>rfl
def Rn(t:Bool)(a b:Prop):Rz (.bool t) a b=((t=true->a)/\(t=false->b)):=bN rfl
@[congr] theorem aar{x x':AV}{a b:Prop}(h:x=x'):Rz x a b=Rz x' a b:=by rw[h]
def WC(a b:Prop):Rz (.bool true) a b=a:=by simp[Rz]
def Ol(t:Bool)(a b c:Prop):Ip (.bool t) a b c=((t=true->a)/\(t=false->b)):=rfl
@[congr] theorem aai{x x':AV}{a b c:Prop}(h:x=x'):Ip x a b c=Ip x' a b c:=by rw[h]
def X2(a b c:Prop):Ip (.bool true) a b c=a:=by simp[Ip]
def X1(a b c:Prop):Ip (.bool false) a b c=b:=by simp[Ip]
def X3(a b c:Prop):Ip (.tup []) a b c=c:=by simp[Ip]
def Z2(a b:Prop):Rz (.bool true) a b=a:=WC a b
def WB(a b:Prop):Rz (.bool false) a b=b:=by simp[Rz]
def O6(s:St)(K:IX->St->Prop):lz P .skip s K=K .nrm s:=bN rfl
def Tt(s:St)(K:IX->St->Prop):lz P .ret s K=K .ret s:=bN rfl
def O4(id:Nat)(s:St)(K:IX->St->Prop):lz P (.exit id) s K=K (.ext id) s:=bN rfl
def Tu(x y:bF)(s:St)(K:IX->St->Prop):lz P (.seq x y) s K=lz P x s (TL P y K):=bN rfl
def LD(id:Nat)(x:bF)(s:St)(K:IX->St->Prop):lz P (.block id x) s K=lz P x s (TE id K):=bN rfl
def O2(v:IV)(t e:bF)(s:St)(K:IX->St->Prop):lz P (.cond v t e) s K=Rz (val (get s.env) v) (lz P t (refine v true s) K) (lz P e (refine v false s) K):=bN rfl
def Ts(ops:List bj)(dr:List Nat)(s:St)(K:IX->St->Prop):lz P (.reg ops dr) s K=i3 P ops s (LH dr K):=bN rfl
def JZ(P:Program)[ba P](f:Nat)(R:List (Nat×aB))(K:St->Prop)(s:St):Prop:=qo P f R s K
def TG(f:Nat)(R:List (Nat×aB))(K:St->Prop)(s:St):JZ P f R K s=qo P f R s K:=bN rfl
def JH(P:Program)[ba P](f:Nat)(R:List (Nat×aB))(s:St)(K:St->Prop)(t:Nat×aB):Prop:=i3 P [t.2.o] s (JZ P f (R.filter λq=>q.1 != t.1) K)
def SG(f:Nat)(R:List (Nat×aB))(s:St)(K:St->Prop)(i:Nat)(o:bj)(b:List Nat):JH P f R s K (i,⟨o,b⟩)=i3 P [o] s (JZ P f (R.filter λq=>q.1 != i) K):=bN rfl
def SR(R:List (Nat×aB))(s:St)(K:St->Prop):qo P 0 R s K=K s:=bN rfl
def ST(f:Nat)(R:List (Nat×aB))(s:St)(K:St->Prop):qo P (f+1) R s K=uE (rdy R) (JH P f R s K):=bN rfl
def Ss{α:Type}(x:α)(F:α->Prop):uE [x] F=F x:=bN rfl
def Su{α:Type}(x y:α)(r:List α)(F:α->Prop):uE (x::y::r) F=(F x/\uE (y::r) F):=bN rfl
def O5(ops:List aB)(al:List (Nat×Nat))(dr:List Nat)(s:St)(K:IX->St->Prop):lz P (.free ops al dr) s K=qo P ops.length (ops.zipIdx.map λp=>(p.2,p.1)) s (LH dr K):=bN rfl
def O3(ops:List aB)(al:List (Nat×Nat))(dr:List Nat)(s:St)(K:IX->St->Prop):lz P (.draw ops al dr) s K=kZ P al 0 ops [] (kills (al.map (·.1)) s) (LH dr K):=bN rfl
def OY(s:St)(K:St->Prop):i3 P [] s K=K s:=bN rfl
def LC(d:Option Nat)(op:lR)(r:List bj)(s:St)(K:St->Prop):i3 P (⟨d,op,none⟩::r) s K=lV P ⟨d,op,none⟩ s (TK P r K):=bN rfl
def Ep(d:Option Nat)(op:lR)(k:Nat)(r:List bj)(s:St)(K:St->Prop):i3 P (⟨d,op,some (k,true)⟩::r) s K =
  Ip (get s.env k) (lV P ⟨d,op,none⟩ (s.put (some k) (.bool true)) (TK P r K)) (i3 P r ((s.put (some k) (.bool false)).put d (.tup [])) K) (i3 P r (s.put d (.tup [])) K):=bN rfl
def Eo(d:Option Nat)(op:lR)(k:Nat)(r:List bj)(s:St)(K:St->Prop):i3 P (⟨d,op,some (k,false)⟩::r) s K =
  Ip (get s.env k) (i3 P r ((s.put (some k) (.bool true)).put d (.tup [])) K) (lV P ⟨d,op,none⟩ (s.put (some k) (.bool false)) (TK P r K)) (i3 P r (s.put d (.tup [])) K):=by
 simp only[i3,Ip];generalize get s.env k=x;cases x with
 | bool t=>exact propext ⟨λh=>⟨h.2,h.1⟩,λh=>⟨h.2,h.1⟩⟩
 | tup l=>cases l<;>rfl
 | _=>rfl
def Lv(al:List (Nat×Nat))(i:Nat)(hist:List HI)(s:St)(K:St->Prop):kZ P al i [] hist s K=K s:=bN rfl
def Iw(al:List (Nat×Nat))(i:Nat)(d:Option Nat)(op:lR)(bf:List Nat)(r:List aB)(hist:List HI)(s:St)(K:St->Prop) :
  kZ P al i (⟨⟨d,op,none⟩,bf⟩::r) hist s K=gS P al i ⟨⟨d,op,none⟩,bf⟩ hist s (JY P al (i+1) r K):=bN rfl
def Cf(al:List (Nat×Nat))(i:Nat)(d:Option Nat)(op:lR)(k:Nat)(bf:List Nat)(r:List aB)(hist:List HI)(s:St)(K:St->Prop) :
  kZ P al i (⟨⟨d,op,some (k,true)⟩,bf⟩::r) hist s K=Ip (get s.env k) (gS P al i ⟨⟨d,op,none⟩,bf⟩ hist (s.put (some k) (.bool true)) (JY P al (i+1) r K))
   (kZ P al (i+1) r (⟨i,[],[],[],false,false⟩::hist) ((s.put (some k) (.bool false)).put d (.tup [])) K) (kZ P al (i+1) r (⟨i,[],[],[],false,false⟩::hist) (s.put d (.tup [])) K):=bN rfl
def Ce(al:List (Nat×Nat))(i:Nat)(d:Option Nat)(op:lR)(k:Nat)(bf:List Nat)(r:List aB)(hist:List HI)(s:St)(K:St->Prop) :
  kZ P al i (⟨⟨d,op,some (k,false)⟩,bf⟩::r) hist s K=Ip (get s.env k) (kZ P al (i+1) r (⟨i,[],[],[],false,false⟩::hist) ((s.put (some k) (.bool true)).put d (.tup [])) K)
   (gS P al i ⟨⟨d,op,none⟩,bf⟩ hist (s.put (some k) (.bool false)) (JY P al (i+1) r K)) (kZ P al (i+1) r (⟨i,[],[],[],false,false⟩::hist) (s.put d (.tup [])) K):=by
 simp only[kZ,fb,Ip];generalize get s.env k=x;cases x with
 | bool t=>exact propext ⟨λh=>⟨h.2,h.1⟩,λh=>⟨h.2,h.1⟩⟩
 | tup l=>cases l<;>rfl
 | _=>rfl
def JG(P:Program)[ba P](f:AV)(args:List AV)(d:Option Nat)(s:St)(K:St->Prop):Prop :=
 match f with
 | .fn f caps=>if f<4000000 then bM P f=true/\cB P f (args++caps) d s K else bM P (f-4000000)=true/\cB P (f-4000000) (caps.take 1++args++caps.drop 1) d s K
 | _=>False
def wS(f:FuncId)(caps args:List AV)(d:Option Nat)(s:St)(K:St->Prop):JG P (.fn f caps) args d s K=if f<4000000 then bM P f=true/\cB P f (args++caps) d s K else bM P (f-4000000)=true/\cB P (f-4000000) (caps.take 1++args++caps.drop 1) d s K:=bN rfl
def Ir(P:Program)[ba P](al:List (Nat×Nat))(f:FuncId)(args:List AV)(i:Nat)(bf:List Nat)(op:lR)(d:Option Nat)(hist:List HI)(s:St)(K:List HI->St->Prop):Prop :=
 (∃args' r b,ah P f args' r/\(∀x∈args',aI x=[])/\aR (NY b (ae s.heap)) args args'/\(b=true->m0 r=true)/\aI r=[] /\
   dF op s .no=true/\fY bf ⟨i,bU op s.env,[],[],false,false⟩ hist=true/\K (⟨i,bU op s.env,[],[],false,false⟩::hist) (s.put d r)) \/
 (∃k ob ob' Sb r,aZ P f args [(k,ob)] Sb (λr' σ'=>r'=r/\σ'=[(k,ob')])/\Sb k/\ae s.heap k=some ob/\aI r=[]/\dZ ob'=[]/\k∈bU op s.env /\
   dF op s (.put k ob')=true/\fY bf ⟨i,bU op s.env,[],[k],false,true⟩ hist=true/\K (⟨i,bU op s.env,[],[k],false,true⟩::hist) ((s.eff (.put k ob')).put d r)) \/
 ∃j ob st off len Sb,d=some j/\ob.isRec=false/\aZ P f args [] Sb (λr' σ'=>r' = .ms j st off len/\σ'=[(j,ob)]) /\
   dF op s .no=true/\fY bf ⟨i,bU op s.env,[j],[j],false,false⟩ hist=true/\qF al bf ⟨i,bU op s.env,[j],[j],false,false⟩=true/\K (⟨i,bU op s.env,[j],[j],false,false⟩::hist) ((s.eff (.new j ob)).put d (.ms j st off len))
def Lp(al:List (Nat×Nat))(i:Nat)(d:Option Nat)(f:FuncId)(args:List IV)(g:Option (Nat×Bool))(bf:List Nat)(hist:List HI)(s:St)(K:List HI->St->Prop) :
  gS P al i ⟨⟨d,.call f args,g⟩,bf⟩ hist s K=Ir P al f (args.map (val (get s.env))) i bf (.call f args) d hist s K:=bN rfl
def UI(A B:Prop):qI true A B=A:=bN rfl
def UH(A B:Prop):qI false A B=B:=bN rfl
@[congr] theorem Wn{b b':Bool}{A B:Prop}(h:b=b'):qI b A B=qI b' A B:=by rw[h]
def UZ(h:Nat->Option aj)(id st off len:Nat):yH h (.ms id st off len)=UY (h id):=rfl
def Uk(id st len:Nat):LX (.ms id st 0 len)=false:=rfl
def Ul:LX .nl=false:=rfl
def Um(st:Nat)(rows:List (List AV)):LX (.sl st rows)=false:=rfl
def U0(h:Nat->Option aj):yH h .nl=false:=rfl
def U1(h:Nat->Option aj)(st:Nat)(rows:List (List AV)):yH h (.sl st rows)=false:=rfl
def Mg(t:TypeId)(st:Nat)(rows:List (List AV))(r:Bool)[k:Kd]:UY (some (@aj.mk t st rows r k))=r:=rfl
def QJ(n st' off len:Nat)(x:Option aj):Option (List (List AV)):=match x with|some o=>if st'=n/\o.st=n/\off+len<=o.rows.length then some ((o.rows.drop off).take len)else none|none=>none
def QI(h:Nat->Option aj)(n id st off len:Nat):qJ n h (.ms id st off len)=QJ n st off len (h id):=bN rfl
def Hw(n st off len:Nat)(t:TypeId)(st':Nat)(rows:List (List AV))(r:Bool)[k:Kd]:QJ n st off len (some (@aj.mk t st' rows r k))=if st=n/\st'=n/\off+len<=rows.length then some ((rows.drop off).take len)else none:=bN rfl
def LZ(d:Nat)(t:TypeId)(st:Nat)(rows:List (List AV))(ps:List (Nat×IV))(g:Option (Nat×Bool))(s:St)(K:St->Prop):Hg ⟨some d,.bsl t st rows ps,g⟩ s K=db (zG K (s.kill d) (some d)) (bQ d (.bsl t st rows ps) (val (get (s.kill d).env)) (ae (s.kill d).heap)):=bN rfl
def SX(d:Nat)(t:TypeId)(st:Nat)(x y:IV)(g:Option (Nat×Bool))(s:St)(K:St->Prop):lV P ⟨some d,.app t st x y,g⟩ s K=(d<1000/\qI (yH (ae s.heap) (val (get s.env) x)) (db (zG K (s.kill d) (some d)) (uB d t st (val (get (s.kill d).env) x) (qJ st (ae (s.kill d).heap) (val (get (s.kill d).env) y)) (ae (s.kill d).heap)))
  (qI (yH (ae s.heap) (val (get s.env) y)) (db (zG K (s.kill d) (some d)) (uB d t st (val (get (s.kill d).env) x) (qJ st (ae (s.kill d).heap) (val (get (s.kill d).env) y)) (ae (s.kill d).heap))) (qI (LX (val (get s.env) x)) (H6 t st (val (get (s.kill d).env) x) (fk st (ae (s.kill d).heap) (val (get (s.kill d).env) y)) (s.kill d) (some d) K) (db (zG K (s.kill d) (some d)) (bQ d (.app t st x y) (val (get (s.kill d).env)) (ae (s.kill d).heap)))))):=bN rfl
def On(al:List (Nat×Nat))(i d:Nat)(t:TypeId)(st k:Nat)(y:IV)(g:Option (Nat×Bool))(bf:List Nat)(hist:List HI)(s:St)(K:List HI->St->Prop):gS P al i ⟨⟨some d,.app t st (.s k) y,g⟩,bf⟩ hist s K=db (Iz al i bf (.app t st (.s k) y) hist K s (some d)) (bQ d (.app t st (.s k) y) (val (get s.env)) (ae s.heap)):=by
 refine propext ⟨λh=>?_,λh=>.inl h⟩;rcases h with h|⟨rows,h,_⟩
 .exact h
 .cases h
def It{al:List (Nat×Nat)}{i d:Nat}{t:TypeId}{st:Nat}{y:IV}{g:Option (Nat×Bool)}{bf:List Nat}{hist:List HI}{s:St}{K:List HI->St->Prop}(rows:List (List AV))(h1:bQ d (.app t st (.c .nl) y) (val (get s.env)) (ae s.heap)=some (.ms d st 0 rows.length,.new d ⟨t,st,rows,false⟩))
  (h2:dF (.app t st (.c .nl) y) s .no=true) (h3:fY bf ⟨i,bU (.app t st (.c .nl) y) s.env,[],[],false,false⟩ hist=true) (h4:K (⟨i,bU (.app t st (.c .nl) y) s.env,[],[],false,false⟩::hist) (s.put (some d) (.sl st rows))):gS P al i ⟨⟨some d,.app t st (.c .nl) y,g⟩,bf⟩ hist s K :=
 .inr ⟨rows,rfl,h1,h2,h3,h4⟩
def Gq{al:List (Nat×Nat)}{i d:Nat}{t:TypeId}{st:Nat}{x y:IV}{g:Option (Nat×Bool)}{bf:List Nat}{hist:List HI}{s:St}{K:List HI->St->Prop}(h:db (Iz al i bf (.app t st x y) hist K s (some d)) (bQ d (.app t st x y) (val (get s.env)) (ae s.heap))):gS P al i ⟨⟨some d,.app t st x y,g⟩,bf⟩ hist s K:=.inl h
def RI(K:St->Prop)(s:St)(d:Option Nat)(n:Nat)(o:lR):Prop:=db (zG K s d) (bQ n o (val (get s.env)) (ae s.heap))
def adl(K:St->Prop)(s:St)(d:Option Nat)(n:Nat)(o:lR):RI K s d n o=db (zG K s d) (bQ n o (val (get s.env)) (ae s.heap)):=bN rfl
def RD(al:List (Nat×Nat))(i:Nat)(bf:List Nat)(hist:List HI)(K:List HI->St->Prop)(s:St)(d:Option Nat)(n:Nat)(o:lR):Prop:=db (Iz al i bf o hist K s d) (bQ n o (val (get s.env)) (ae s.heap))
def adk(al:List (Nat×Nat))(i:Nat)(bf:List Nat)(hist:List HI)(K:List HI->St->Prop)(s:St)(d:Option Nat)(n:Nat)(o:lR):RD al i bf hist K s d n o=db (Iz al i bf o hist K s d) (bQ n o (val (get s.env)) (ae s.heap)):=bN rfl
attribute[go_sem] adl adk
section
variable(g:Option (Nat×Bool))(s:St)(K:St->Prop)
def OO(d:Option Nat)(f:FuncId)(args:List IV):lV P ⟨d,.call f args,g⟩ s K=cB P f (args.map (val (get s.env))) d s K:=bN rfl
def Lz(d:Option Nat)(f:IV)(args:List IV):lV P ⟨d,.callv f args,g⟩ s K=JG P (val (get s.env) f) (args.map (val (get s.env))) d s K:=bN rfl
def Tk(d:Option Nat)(x:IV):lV P ⟨d,.mov x,g⟩ s K=RI K s d 0 (.mov x):=bN rfl
def OU(d:Option Nat)(c a b:IV):lV P ⟨d,.pick c a b,g⟩ s K=RI K s d 0 (.pick c a b):=bN rfl
def Ly(d:Option Nat)(cs:List AV)(ps:List (Nat×Nat×IV)):lV P ⟨d,.build cs ps,g⟩ s K=RI K s d 0 (.build cs ps):=bN rfl
def OR(d:Option Nat)(n:Option Nat)(p:IV):lV P ⟨d,.load n p,g⟩ s K=RI K s d 0 (.load n p):=bN rfl
def LB(d:Option Nat)(n:Nat)(p x:IV):lV P ⟨d,.store n p x,g⟩ s K=RI K s d 0 (.store n p x):=bN rfl
def OP(d:Option Nat)(o:Nat)(p:IV):lV P ⟨d,.fadr o p,g⟩ s K=RI K s d 0 (.fadr o p):=bN rfl
def Tc(d:Option Nat)(o:Nat)(n:Option Nat)(x:IV):lV P ⟨d,.fld o n x,g⟩ s K=RI K s d 0 (.fld o n x):=bN rfl
def OQ(d:Option Nat)(st:Nat)(x q:IV):lV P ⟨d,.iadr st x q,g⟩ s K=RI K s d 0 (.iadr st x q):=bN rfl
def OM(d:Option Nat)(st n:Nat)(x q:IV):lV P ⟨d,.aadr st n x q,g⟩ s K=RI K s d 0 (.aadr st n x q):=bN rfl
def Tj(d:Option Nat)(m:Bool)(x y:IV):lV P ⟨d,.mnx m x y,g⟩ s K=RI K s d 0 (.mnx m x y):=bN rfl
def S4(d:Option Nat)(st:Nat)(x y:IV):lV P ⟨d,.cpy st x y,g⟩ s K=RI K s d 0 (.cpy st x y):=bN rfl
def Tp(d:Option Nat)(st:Nat)(x:IV)(lo hi mx:Option IV):lV P ⟨d,.slc st x lo hi mx,g⟩ s K=RI K s d 0 (.slc st x lo hi mx):=bN rfl
def Td(d:Option Nat)(x:IV):lV P ⟨d,.len x,g⟩ s K=RI K s d 0 (.len x):=bN rfl
def OW(d:Option Nat)(x:IV):lV P ⟨d,.slen x,g⟩ s K=RI K s d 0 (.slen x):=bN rfl
def OX(d:Option Nat)(x:IV)(lo hi:Option IV):lV P ⟨d,.sslc x lo hi,g⟩ s K=RI K s d 0 (.sslc x lo hi):=bN rfl
def SY(d:Option Nat)(o:BinOp)(x y:IV):lV P ⟨d,.bin o x y,g⟩ s K=RI K s d 0 (.bin o x y):=bN rfl
def ON(d:Option Nat)(o:BinOp)(x y:IV):lV P ⟨d,.bbin o x y,g⟩ s K=RI K s d 0 (.bbin o x y):=bN rfl
def OT(d:Option Nat)(o:BinOp)(x y:IV):lV P ⟨d,.pbin o x y,g⟩ s K=RI K s d 0 (.pbin o x y):=bN rfl
def OV(d:Option Nat)(o:BinOp)(ls:List LK)(x y:IV):lV P ⟨d,.sbin o ls x y,g⟩ s K=RI K s d 0 (.sbin o ls x y):=bN rfl
def Ye(d:Option Nat)(o:UnOp)(x:IV):lV P ⟨d,.un o x,g⟩ s K=RI K s d 0 (.un o x):=bN rfl
def S9(d:Option Nat)(x:IV):lV P ⟨d,.cvs x,g⟩ s K=RI K s d 0 (.cvs x):=bN rfl
def Ta(d:Option Nat)(x:IV)(q:Nat):lV P ⟨d,.ext x q,g⟩ s K=RI K s d 0 (.ext x q):=bN rfl
def OS(d:Option Nat)(x:IV):lV P ⟨d,.nchk x,g⟩ s K=RI K s d 0 (.nchk x):=bN rfl
def Te(d:Option Nat)(f:FuncId)(cs:List IV):lV P ⟨d,.mkf f cs,g⟩ s K=RI K s d 0 (.mkf f cs):=bN rfl
def Tm(d:Nat)(t:TypeId)(cs:List AV):lV P ⟨some d,.new t cs,g⟩ s K=(d<1000/\db (zG K (s.kill d) (some d)) (bQ d (.new t cs) (val (get (s.kill d).env)) (ae (s.kill d).heap))):=bN rfl
def SZ(d:Nat)(t:TypeId)(n:Nat)(x:IV):lV P ⟨some d,.box t n x,g⟩ s K=(d<1000/\db (zG K (s.kill d) (some d)) (bQ d (.box t n x) (val (get (s.kill d).env)) (ae (s.kill d).heap))):=bN rfl
def S0(d:Nat)(t:TypeId)(st:Nat)(rows:List (List AV))(ps:List (Nat×IV)):lV P ⟨some d,.bsl t st rows ps,g⟩ s K=(d<1000/\Rj (NM ⟨some d,.bsl t st rows ps,g⟩ s K) (zG K (s.kill d) (some d)) (NL d t st (oQ (val (get (s.kill d).env)) st rows ps))):=bN rfl
def Tg(d:Nat)(t:TypeId)(st:Nat)(z:List AV)(l c:IV):lV P ⟨some d,.mks t st z l c,g⟩ s K=(d<1000/\db (zG K (s.kill d) (some d)) (bQ d (.mks t st z l c) (val (get (s.kill d).env)) (ae (s.kill d).heap))):=bN rfl
end
section
variable(al:List (Nat×Nat))(i:Nat)(g:Option (Nat×Bool))(bf:List Nat)(hist:List HI)(s:St)(K:List HI->St->Prop)
def Oz(d:Option Nat)(x:IV):gS P al i ⟨⟨d,.mov x,g⟩,bf⟩ hist s K=RD al i bf hist K s d 0 (.mov x):=bN rfl
def Is(d:Option Nat)(cs:List AV)(ps:List (Nat×Nat×IV)):gS P al i ⟨⟨d,.build cs ps,g⟩,bf⟩ hist s K=RD al i bf hist K s d 0 (.build cs ps):=bN rfl
def Ls(d:Option Nat)(n:Option Nat)(p:IV):gS P al i ⟨⟨d,.load n p,g⟩,bf⟩ hist s K=RD al i bf hist K s d 0 (.load n p):=bN rfl
def Iu(d:Option Nat)(n:Nat)(p x:IV):gS P al i ⟨⟨d,.store n p x,g⟩,bf⟩ hist s K=RD al i bf hist K s d 0 (.store n p x):=bN rfl
def Lq(d:Option Nat)(o:Nat)(p:IV):gS P al i ⟨⟨d,.fadr o p,g⟩,bf⟩ hist s K=RD al i bf hist K s d 0 (.fadr o p):=bN rfl
def Lr(d:Option Nat)(st:Nat)(x q:IV):gS P al i ⟨⟨d,.iadr st x q,g⟩,bf⟩ hist s K=RD al i bf hist K s d 0 (.iadr st x q):=bN rfl
def OB(d:Option Nat)(st:Nat)(x:IV)(lo hi mx:Option IV):gS P al i ⟨⟨d,.slc st x lo hi mx,g⟩,bf⟩ hist s K=RD al i bf hist K s d 0 (.slc st x lo hi mx):=bN rfl
def Ov(d:Option Nat)(x:IV):gS P al i ⟨⟨d,.len x,g⟩,bf⟩ hist s K=RD al i bf hist K s d 0 (.len x):=bN rfl
def Lu(d:Option Nat)(x:IV)(lo hi:Option IV):gS P al i ⟨⟨d,.sslc x lo hi,g⟩,bf⟩ hist s K=RD al i bf hist K s d 0 (.sslc x lo hi):=bN rfl
def Oo(d:Option Nat)(o:BinOp)(x y:IV):gS P al i ⟨⟨d,.bin o x y,g⟩,bf⟩ hist s K=RD al i bf hist K s d 0 (.bin o x y):=bN rfl
def Ot(d:Option Nat)(x:IV):gS P al i ⟨⟨d,.cvs x,g⟩,bf⟩ hist s K=RD al i bf hist K s d 0 (.cvs x):=bN rfl
def Ou(d:Option Nat)(x:IV)(q:Nat):gS P al i ⟨⟨d,.ext x q,g⟩,bf⟩ hist s K=RD al i bf hist K s d 0 (.ext x q):=bN rfl
def Lt(d:Option Nat)(x:IV):gS P al i ⟨⟨d,.nchk x,g⟩,bf⟩ hist s K=RD al i bf hist K s d 0 (.nchk x):=bN rfl
def Ow(d:Option Nat)(f:FuncId)(cs:List IV):gS P al i ⟨⟨d,.mkf f cs,g⟩,bf⟩ hist s K=RD al i bf hist K s d 0 (.mkf f cs):=bN rfl
def OA(d:Nat)(t:TypeId)(cs:List AV):gS P al i ⟨⟨some d,.new t cs,g⟩,bf⟩ hist s K=RD al i bf hist K s (some d) d (.new t cs):=bN rfl
def Oq(d:Nat)(t:TypeId)(n:Nat)(x:IV):gS P al i ⟨⟨some d,.box t n x,g⟩,bf⟩ hist s K=RD al i bf hist K s (some d) d (.box t n x):=bN rfl
def Or(d:Nat)(t:TypeId)(st:Nat)(rows:List (List AV))(ps:List (Nat×IV)):gS P al i ⟨⟨some d,.bsl t st rows ps,g⟩,bf⟩ hist s K=RD al i bf hist K s (some d) d (.bsl t st rows ps):=bN rfl
end
def Xb(d:Nat)(x:IV)(ρ:IV->AV)(h:Nat->Option aj):bQ d (.mov x) ρ h=some (ρ x,.no):=rfl
def pi(c a b:AV):Option (AV×aW) :=
 match c with
 | .bool true=>some (a,.no)
 | .bool false=>some (b,.no)
 | _=>none
def R3(d:Nat)(c a b:IV)(ρ:IV->AV)(h:Nat->Option aj):bQ d (.pick c a b) ρ h=pi (ρ c) (ρ a) (ρ b):=rfl
def UG(a b:AV):pi (.bool true) a b=some (a,.no):=rfl
def UF(a b:AV):pi (.bool false) a b=some (b,.no):=rfl
def Xc(d:Nat)(t:TypeId)(cs:List AV)(ρ:IV->AV)(h:Nat->Option aj):bQ d (.new t cs) ρ h=some (.mp d cs.length 0 0,.new d ⟨t,cs.length,[cs],true⟩):=bN rfl
def aaV(d:Nat)(t:TypeId)(n:Nat)(x:Option (List AV)):Option (AV×aW) :=
 match x with
 | some cs=>if cs.length=n/\(cs.all λy=>!(mC d y))=true then some (.mp d n 0 0,.new d ⟨t,n,[cs],true⟩)else none
 | none=>none
def KZ(d:Nat)(t:TypeId)(n:Nat)(cs:List AV):aaV d t n (some cs)=if cs.length=n/\(cs.all λy=>!(mC d y))=true then some (.mp d n 0 0,.new d ⟨t,n,[cs],true⟩)else none:=rfl
def WY(d:Nat)(t:TypeId)(n:Nat)(x:IV)(ρ:IV->AV)(h:Nat->Option aj):bQ d (.box t n x) ρ h=aaV d t n (fX (ρ x)):=bN rfl
def ND(d:Nat)(cs:List AV)(ps:List (Nat×Nat×IV))(ρ:IV->AV)(h:Nat->Option aj):bQ d (.build cs ps) ρ h=res ((lu ρ cs ps).map .agg):=bN rfl
def K0(d:Nat)(t:TypeId)(st:Nat):NL d t st none=none:=rfl
def K1(d:Nat)(t:TypeId)(st:Nat)(rs:List (List AV)):NL d t st (some rs)=some (.ms d st 0 rs.length,.new d ⟨t,st,rs,false⟩):=rfl
@[congr] theorem Xg{d:Nat}{t:TypeId}{st:Nat}{x x' y:Option (List (List AV))}(h:x=x'):D8 d t st x y=D8 d t st x' y:=by rw[h]
def K3(d:Nat)(t:TypeId)(st:Nat)(rs:List (List AV))(y:Option (List (List AV))):D8 d t st (some rs) y=some (.ms d st 0 rs.length,.new d ⟨t,st,rs,false⟩):=rfl
def K2(d:Nat)(t:TypeId)(st:Nat)(y:Option (List (List AV))):D8 d t st none y=NN d t st y:=rfl
def K4(d:Nat)(t:TypeId)(st:Nat)(rs:List (List AV)):NN d t st (some rs)=if E3 d rs=true then some (.ms d st 0 rs.length,.new d ⟨t,st,rs,true⟩)else none:=rfl
def WZ(d:Nat)(t:TypeId)(st:Nat)(rows:List (List AV))(ps:List (Nat×IV))(ρ:IV->AV)(h:Nat->Option aj):bQ d (.bsl t st rows ps) ρ h=D8 d t st (oQ ρ st rows ps) (iV ρ st rows ps):=bN rfl
def RZ(d:Nat)(n:Option Nat)(p:IV)(ρ:IV->AV)(h:Nat->Option aj):bQ d (.load n p) ρ h=res (lS n (ρ p) h):=bN rfl
def Vu(x:Option aW):Option (AV×aW):=x.map λe=>(.any,e)
def MB(e:aW):Vu (some e)=some (.any,e):=rfl
def Rk(c:Prop)[Decidable c](x:Option aW):Vu (if c then x else none)=if c then Vu x else none:=by split<;>rfl
def NE(d:Nat)(n:Nat)(p x:IV)(ρ:IV->AV)(h:Nat->Option aj):bQ d (.store n p x) ρ h=Vu (km n (ρ p) (ρ x) h):=bN rfl
def RX(d:Nat)(o:Nat)(p:IV)(ρ:IV->AV)(h:Nat->Option aj):bQ d (.fadr o p) ρ h=res (C3 o (ρ p)):=bN rfl
def W7(d:Nat)(o:Nat)(n:Option Nat)(x:IV)(ρ:IV->AV)(h:Nat->Option aj):bQ d (.fld o n x) ρ h=res (M_ o n (ρ x)):=bN rfl
def RY(d:Nat)(st:Nat)(x q:IV)(ρ:IV->AV)(h:Nat->Option aj):bQ d (.iadr st x q) ρ h=res (zd st (ρ x) (ρ q)):=bN rfl
def RV(d:Nat)(st n:Nat)(x q:IV)(ρ:IV->AV)(h:Nat->Option aj):bQ d (.aadr st n x q) ρ h=res (CZ st n (ρ x) (ρ q)):=bN rfl
def Xa(d:Nat)(m:Bool)(x y:IV)(ρ:IV->AV)(h:Nat->Option aj):bQ d (.mnx m x y) ρ h=res (KP m (ρ x) (ρ y)):=bN rfl
def W4(d:Nat)(st:Nat)(x y:IV)(ρ:IV->AV)(h:Nat->Option aj):bQ d (.cpy st x y) ρ h=zD st (ρ x) (fk st h (ρ y)) h:=bN rfl
def Xd(d:Nat)(st:Nat)(x:IV)(lo hi mx:Option IV)(ρ:IV->AV)(h:Nat->Option aj):bQ d (.slc st x lo hi mx) ρ h=res (FT st (ρ x) (lo.map ρ) (hi.map ρ) (mx.map ρ)):=bN rfl
def W8(d:Nat)(x:IV)(ρ:IV->AV)(h:Nat->Option aj):bQ d (.len x) ρ h=res (H3 (ρ x)):=bN rfl
def R5(d:Nat)(x:IV)(ρ:IV->AV)(h:Nat->Option aj):bQ d (.slen x) ρ h=res (FU (ρ x)):=bN rfl
def WW(d:Nat)(t:TypeId)(st:Nat)(x y:IV)(ρ:IV->AV)(h:Nat->Option aj):bQ d (.app t st x y) ρ h=pE d t st (ρ x) (fk st h (ρ y)) h:=bN rfl
def R6(d:Nat)(x:IV)(lo hi:Option IV)(ρ:IV->AV)(h:Nat->Option aj):bQ d (.sslc x lo hi) ρ h=res (ze (ρ x) (lo.map ρ) (hi.map ρ)):=bN rfl
def WX(d:Nat)(o:BinOp)(x y:IV)(ρ:IV->AV)(h:Nat->Option aj):bQ d (.bin o x y) ρ h=res (uW o (ρ x) (ρ y)):=bN rfl
def RW(d:Nat)(o:BinOp)(x y:IV)(ρ:IV->AV)(h:Nat->Option aj):bQ d (.bbin o x y) ρ h=res (C0 o (ρ x) (ρ y)):=bN rfl
def R1(d:Nat)(o:BinOp)(x y:IV)(ρ:IV->AV)(h:Nat->Option aj):bQ d (.pbin o x y) ρ h=res (uC o (ρ x) (ρ y)):=bN rfl
def R4(d:Nat)(o:BinOp)(ls:List LK)(x y:IV)(ρ:IV->AV)(h:Nat->Option aj):bQ d (.sbin o ls x y) ρ h=res (ql o ls (ρ x) (ρ y)):=bN rfl
def aaE(d:Nat)(o:UnOp)(x:IV)(ρ:IV->AV)(h:Nat->Option aj):bQ d (.un o x) ρ h=res (aUn o (ρ x)):=bN rfl
def adH(k:IntKind)(x:AV):Option (AV×aW) :=
 match x with
 | .int _ n=>some (.int k (k.wrap n),.no)
 | _=>none
def N5(k k':IntKind)(n:Int):adH k (.int k' n)=some (.int k (k.wrap n),.no):=rfl
def abb(x:Option (List (List AV))):Option (AV×aW) :=
 match x with
 | some rows=>res ((mU rows).map .str)
 | none=>none
def K_(rows:List (List AV)):abb (some rows)=res ((mU rows).map .str):=rfl
def adG(d:Nat)(t:TypeId)(x:AV):Option (AV×aW) :=
 match x with
 | .str s=>if s.length<1073741824 then some (.ms d 1 0 s.length,.new d ⟨t,1,s.map λb=>[.int .u8 b.toNat],false⟩)else none
 | _=>none
def N4(d:Nat)(t:TypeId)(s:List UInt8):adG d t (.str s)=if s.length<1073741824 then some (.ms d 1 0 s.length,.new d ⟨t,1,s.map λb=>[.int .u8 b.toNat],false⟩)else none:=rfl
def abj(i:Nat)(x:AV):Option (AV×aW) :=
 match x with
 | .tup vs=>res (vs[i]?)
 | _=>none
def Oa(i:Nat)(vs:List AV):abj i (.tup vs)=res (vs[i]?):=rfl
def Ka(x:AV):Option (AV×aW) :=
 match x with
 | .mp id st row off=>some (.mp id st row off,.no)
 | .ip cells=>some (.ip cells,.no)
 | .fn f caps=>some (.fn f caps,.no)
 | _=>none
def PV(id st row off:Nat):Ka (.mp id st row off)=some (.mp id st row off,.no):=rfl
def PU(cells:List AV):Ka (.ip cells)=some (.ip cells,.no):=rfl
def PT(f:FuncId)(caps:List AV):Ka (.fn f caps)=some (.fn f caps,.no):=rfl
def adI(x:AV):Option (AV×aW) :=
 match x with
 | .str s=>some (.str s,.no)
 | _=>none
def N6(s:List UInt8):adI (.str s)=some (.str s,.no):=rfl
def ae3(x i:AV):Option (AV×aW) :=
 match x,i with
 | .str s,.int _ n=>if 0<=n then(match s[n.toNat]? with|some b=>some (.int .u8 b.toNat,.no)|none=>none)else none
 | _,_=>none
def ab0(d:Nat)(t:TypeId)(st:Nat)(zero:List AV)(l cp:AV):Option (AV×aW) :=
 match l,cp with
 | .int .i64 n,.int .i64 m=>if 0<=n/\n<=m/\m<1073741824/\zero.length=st then some (.ms d st 0 n.toNat,.new d ⟨t,st,List.replicate n.toNat zero,false⟩)else none
 | _,_=>none
def PP(d:Nat)(t:TypeId)(st:Nat)(zero:List AV)(n m:Int):ab0 d t st zero (.int .i64 n) (.int .i64 m)=if 0<=n/\n<=m/\m<1073741824/\zero.length=st then some (.ms d st 0 n.toNat,.new d ⟨t,st,List.replicate n.toNat zero,false⟩)else none:=rfl
def W5(d:Nat)(x:IV)(ρ:IV->AV)(h:Nat->Option aj):bQ d (.cvs x) ρ h=abb (fk 1 h (ρ x)):=bN rfl
def W6(d:Nat)(x:IV)(q:Nat)(ρ:IV->AV)(h:Nat->Option aj):bQ d (.ext x q) ρ h=abj q (ρ x):=bN rfl
def R0(d:Nat)(x:IV)(ρ:IV->AV)(h:Nat->Option aj):bQ d (.nchk x) ρ h=Ka (ρ x):=bN rfl
def W_(d:Nat)(t:TypeId)(st:Nat)(z:List AV)(l c:IV)(ρ:IV->AV)(h:Nat->Option aj):bQ d (.mks t st z l c) ρ h=ab0 d t st z (ρ l) (ρ c):=bN rfl
def W9(d:Nat)(f:FuncId)(cs:List IV)(ρ:IV->AV)(h:Nat->Option aj):bQ d (.mkf f cs) ρ h=if(cs.map ρ).all NR=true then some (.fn f (cs.map ρ),.no)else none:=bN rfl
def MY(k:IntKind)(a b:Int):uW .add (.int k a) (.int k b)=some (.int k (k.wrap (a+b))):=by cases k<;>rfl
def M7(k:IntKind)(a b:Int):uW .sub (.int k a) (.int k b)=some (.int k (k.wrap (a-b))):=by cases k<;>rfl
def MZ(k:IntKind)(a b:Int):uW .eql (.int k a) (.int k b)=some (.bool (a==b)):=by cases k<;>rfl
def M5(k:IntKind)(a b:Int):uW .neq (.int k a) (.int k b)=some (.bool (a != b)):=by cases k<;>rfl
def M4(k:IntKind)(a b:Int):uW .lss (.int k a) (.int k b)=some (.bool (decide (a<b))):=by cases k<;>rfl
def M3(k:IntKind)(a b:Int):uW .leq (.int k a) (.int k b)=some (.bool (decide (a<=b))):=by cases k<;>rfl
def M2(k:IntKind)(a b:Int):uW .gtr (.int k a) (.int k b)=some (.bool (decide (a>b))):=by cases k<;>rfl
def M1(k:IntKind)(a b:Int):uW .geq (.int k a) (.int k b)=some (.bool (decide (a>=b))):=by cases k<;>rfl
def M6(k:IntKind)(a b:Int):uW .quo (.int k a) (.int k b)=if b=0 then none else some (.int k (k.wrap (a.tdiv b))):=by cases k<;>rfl
def aeL(k:IntKind)(a b:Int):Int:=k.wrap ((BitVec.ofInt k.bits a &&& BitVec.ofInt k.bits b).toNat)
def ae8(k:IntKind)(a b:Int):Int:=k.wrap ((BitVec.ofInt k.bits a ||| BitVec.ofInt k.bits b).toNat)
def aeO(k:IntKind)(a b:Int):Int:=k.wrap ((BitVec.ofInt k.bits a ^^^ BitVec.ofInt k.bits b).toNat)
def aaR(k:IntKind)(a b:Int):Int:=k.wrap ((BitVec.ofInt k.bits a &&& ~~~ (BitVec.ofInt k.bits b)).toNat)
def aeM(k:IntKind)(a b:Int):Int:=k.wrap (a*2^(min b.toNat k.bits))
def aeN(k:IntKind)(a b:Int):Int:=a.fdiv (2^(min b.toNat k.bits))
def KL(a b:List UInt8):uW .eql (.str a) (.str b)=some (.bool (a==b)):=bN rfl
def KM(a b:List UInt8):uW .neq (.str a) (.str b)=some (.bool (!(a==b))):=bN rfl
def KI(a b:Bool):C0 .eql (.bool a) (.bool b)=some (.bool (a==b)):=rfl
def KJ(a b:Bool):C0 .neq (.bool a) (.bool b)=some (.bool (!(a==b))):=rfl
def RT(a:Bool):aUn .not (.bool a)=some (.bool (!a)):=rfl
def RS(k:IntKind)(n:Int):aUn .neg (.int k n)=some (.int k (k.wrap (0-n))):=rfl
def RN(l:LK)(ls:List LK)(xs ys:List AV):ql .eql (l::ls) (.agg xs) (.agg ys)=(kj (l::ls) xs ys).map .bool:=rfl
def RO(l:LK)(ls:List LK)(xs ys:List AV):ql .neq (l::ls) (.agg xs) (.agg ys)=(kj (l::ls) xs ys).map λb=>.bool (!b):=rfl
def Nw(f:FuncId)(cs:List AV):ql .eql [] (.fn f cs) .nf=some (.bool false):=rfl
def Nx(f:FuncId)(cs:List AV):ql .neq [] (.fn f cs) .nf=some (.bool true):=rfl
def Ny:ql .eql [] .nf .nf=some (.bool true):=rfl
def Nz:ql .neq [] .nf .nf=some (.bool false):=rfl
def WV:kj [] [] []=some true:=rfl
def sqK(p:Option Bool)(q:Option Bool):Option Bool:=match p,q with
 | some p,some q=>some (p&&q)
 | _,_=>none
def Re(p q:Bool):sqK (some p) (some q)=some (p&&q):=rfl
def WU(l:LK)(ls:List LK)(x y:AV)(xs ys:List AV):kj (l::ls) (x::xs) (y::ys)=sqK (kE l x y) (kj ls xs ys):=rfl
def Pj(p q:Bool):kE .b (.bool p) (.bool q)=some (p==q):=rfl
def Pk(k:IntKind)(p q:Int):kE .i (.int k p) (.int k q)=some (p==q):=by simp[kE]
def Pl(p q:List UInt8):kE .s (.str p) (.str q)=some (p==q):=rfl
def Np:uC .eql .np .np=some (.bool true):=rfl
def Nq(id st row off:Nat):uC .eql (.mp id st row off) .np=some (.bool false):=rfl
def Nr(cells:List AV):uC .eql (.ip cells) .np=some (.bool false):=rfl
def Nt:uC .neq .np .np=some (.bool false):=rfl
def Nu(id st row off:Nat):uC .neq (.mp id st row off) .np=some (.bool true):=rfl
def Nv(cells:List AV):uC .neq (.ip cells) .np=some (.bool true):=rfl
def RH(st:Nat)(rows:List (List AV)):H3 (.sl st rows)=some (.int .i64 rows.length):=rfl
def RF(id st off len:Nat):H3 (.ms id st off len)=some (.int .i64 len):=rfl
def RG:H3 .nl=some (.int .i64 0):=rfl
def KR(s:List UInt8):FU (.str s)=some (.int .i64 s.length):=rfl
def Nf(n:Option Nat)(cells:List AV)(h:Nat->Option aj):lS n (.ip cells) h=ww n cells:=rfl
def Yy(n:Option Nat)(st row off:Nat)(o:Option aj):Option AV :=
 match o with
 | some o=>if o.st=st then(match o.rows[row]? with|some r=>ww n (r.drop off)|none=>none)else none
 | none=>none
def Ng(n:Option Nat)(id st row off:Nat)(h:Nat->Option aj):lS n (.mp id st row off) h=Yy n st row off (h id):=rfl
def TT(n:Option Nat)(st off:Nat)(t:TypeId)(r:List AV)(b:Bool):Yy n st 0 off (some ⟨t,st,[r],b⟩)=ww n (r.drop off):=by simp[Yy]
def TS{α:Type}[Inhabited α](K:AV->aW->Prop)(n:Option Nat)(st row off:Nat)(t:TypeId)(l:List α)(f:α->List AV)(b:Bool) :
  db K (res (Yy n st row off (some ⟨t,st,l.map f,b⟩)))=(row<l.length/\db K (res (ww n ((f (ap l row)).drop off)))):=by
 simp only[Yy,dP];by_cases h2:row<l.length
 .rw[fR,jZ h2,aV h2];simp[h2]
 .rw[tV (by simpa using h2)];simp[h2,res,db]
def abM(x:AV)(r:List AV):ww none (x::r)=some x:=rfl
def abN(n:Nat)(r:List AV):ww (some n) r=if n<=r.length then some (.agg (r.take n))else none:=rfl
def DN(id n st row off:Nat)(o:Option aj)(cs:Option (List AV)):Option aW :=
 match cs with
 | some cs=>match o with
  | some o=>if o.st=st/\cs.length=n/\(o.isRec||cs.all n_)=true then(match o.rows[row]? with
   | some r=>if off+n<=r.length then some (.put id {o with rows:=o.rows.set row (iC r off cs)})else none
   | none=>none)else none
  | none=>none
 | none=>none
def KT(n id st row off:Nat)(x:AV)(h:Nat->Option aj):km n (.mp id st row off) x h=DN id n st row off (h id) (fX x):=by
 unfold km DN;cases fX x<;>rfl
def Vt(id n st off:Nat)(t:TypeId)(r cs:List AV):DN id n st 0 off (some ⟨t,st,[r],true⟩) (some cs)=if cs.length=n/\off+n<=r.length then some (.put id ⟨t,st,[iC r off cs],true⟩)else none:=by
 simp only[DN,true_and,B5,and_true,List.getElem?_cons_zero,List.set_cons_zero];by_cases h1:cs.length=n<;>by_cases h2:off+n<=r.length<;>simp[h1,h2]
def Vr(id n st row:Nat)(t:TypeId)(rows:List (List AV))(cs:List AV)(hn:∀r∈rows,r.length=n):DN id n st row 0 (some ⟨t,st,rows,false⟩) (some cs)=if cs.length=n/\cs.all n_=true/\row<rows.length then some (.put id ⟨t,st,rows.set row cs,false⟩)else none:=by
 simp only[DN,true_and,x7];by_cases h3:row<rows.length
 .rw[jZ h3];have hl:=hn _ (gO h3);by_cases h1:cs.length=n<;>by_cases h2:cs.all n_=true<;>simp[h1,h2,h3,hl,iC];rw[MN (by omega),lm]
 .rw[tV (by omega)];simp[h3]
def M8(off:Nat)(cells:List AV):C3 off (.ip cells)=some (.ip (cells.drop off)):=rfl
def M9(off id st row o:Nat):C3 off (.mp id st row o)=some (.mp id st row (o+off)):=rfl
def Na(off:Nat)(n:Option Nat)(cells:List AV):M_ off n (.agg cells)=ww n (cells.drop off):=rfl
def KO{α:Type}[Inhabited α](K:AV->aW->Prop)(st:Nat)(l:List α)(f:α->List AV)(k:IntKind)(n:Int) :
  db K (res (zd st (.sl st (l.map f)) (.int k n)))=(0<=n/\n<l.length/\K (.ip (f (ap l n.toNat))) .no):=by
 simp only[zd,true_and];by_cases h:0<=n
 .rw[aF h];by_cases h2:n.toNat<l.length
  .rw[fR,jZ h2,aV h2];simp only[fo,res,db];exact propext ⟨λhk=>⟨h,by omega,hk⟩,λhk=>hk.2.2⟩
  .rw[tV (by simp;omega)];exact propext ⟨λhk=>hk.elim,λhk=>by omega⟩
 .rw[ax h];exact propext ⟨λhk=>hk.elim,λhk=>absurd hk.1 h⟩
def MU(st n:Nat)(cells:List AV)(k:IntKind)(j:Int):CZ st n (.ip cells) (.int k j)=if 0<=j/\j<n then some (.ip (cells.drop (j.toNat*st)))else none:=rfl
def MV(st n id s row off:Nat)(k:IntKind)(j:Int):CZ st n (.mp id s row off) (.int k j)=if 0<=j/\j<n then some (.mp id s row (off+j.toNat*st))else none:=rfl
def afb(id st off len:Nat)(o:Option aj):Option (AV×aW) :=
 match o with
 | some o=>if st=1/\o.st=1/\o.isRec=false/\0<len then some (.ms id st off len,.put id o)else none
 | none=>none
def NA(s:List UInt8)(n:Int):RP (.str s) (.int .u8 n)=some (.int .i64 (Vk s n.toNat.toUInt8)):=rfl
def Sw(id st off len:Nat)(ys:List (List AV))(o:Option aj):Option (AV×aW) :=
 match o with
 | some o=>if o.st=st/\o.isRec=false/\off+len<=o.rows.length then(if ys.length<=len then some (.int .i64 ys.length,.put id {o with rows:=o.rows.take off++ys++o.rows.drop (off+ys.length)})else some (.int .i64 len,.put id {o with rows:=o.rows.take off++ys.take len++o.rows.drop (off+len)}))else none
 | none=>none
def RC(st id off len:Nat)(ys:List (List AV))(h:Nat->Option aj):zD st (.ms id st off len) (some ys) h=Sw id st off len ys (h id):=by simp only[zD,Sw,true_and];cases h id<;>rfl
def N1(id st len:Nat)(t:TypeId)(rows ys:List (List AV))(h1:rows.length=len)(h2:len<=ys.length):Sw id st 0 len ys (some ⟨t,st,rows,false⟩)=some (.int .i64 len,.put id ⟨t,st,ys.take len,false⟩):=by
 subst h1;unfold Sw;by_cases h:ys.length<=rows.length
 .have:ys.length=rows.length:=by omega
  simp[this,gN (show ys.length<=rows.length by omega)]
 .simp[h]
def Ni(k:IntKind)(n m:Int):KP true (.int k n) (.int k m)=some (.int k (if n<m then m else n)):=by simp[KP]
def Nb(id st off len:Nat)(k:IntKind)(n:Int):zd st (.ms id st off len) (.int k n)=if 0<=n/\n<len then some (.mp id st (off+n.toNat) 0)else none:=by simp[zd]
def NB(id st off len:Nat)(k:IntKind)(n:Int):FT st (.ms id st off len) none (some (.int k n)) none=if 0<=n/\n<=len then some (.ms id st off n.toNat)else none:=by
 simp only[FT,eG];by_cases h:0<=n<;>by_cases h2:n<=len<;>simp[h,h2]<;>omega
def NC(id st off len:Nat)(k:IntKind)(n:Int):FT st (.ms id st off len) (some (.int k n)) none none=if 0<=n/\n<=len then some (.ms id st (off+n.toNat) (len-n.toNat))else none:=by
 simp only[FT,eG];by_cases h:0<=n<;>by_cases h2:n<=len<;>simp[h,h2]<;>omega
def RQ(s:List UInt8)(k:IntKind)(n:Int):ze (.str s) none (some (.int k n))=if 0<=n/\n<=s.length then some (.str (s.take n.toNat))else none:=by
 simp only[ze,eG];by_cases h:0<=n<;>by_cases h2:n<=s.length<;>simp[h,h2]<;>omega
def RR(s:List UInt8)(k:IntKind)(n:Int):ze (.str s) (some (.int k n)) none=if 0<=n/\n<=s.length then some (.str (s.drop n.toNat))else none:=by
 simp only[ze,eG];have:s.drop n.toNat=List.take (s.length-n.toNat) (List.drop n.toNat s):=by rw[gN (by simp)]
 by_cases h:0<=n<;>by_cases h2:n<=s.length<;>simp[h,h2,<-this]<;>omega
def RB(d:Nat)(t:TypeId)(st:Nat)(ys:List (List AV))(h:Nat->Option aj):pE d t st .nl (some ys) h=if ys.length<137438953472 then some (.ms d st 0 ys.length,.new d ⟨t,st,ys,false⟩)else none:=rfl
def D0(id:Nat)(t:TypeId)(st off len:Nat)(ys:List (List AV))(o:Option aj):Option (AV×aW) :=
 if ys.length<137438953472 then(match o with
   | some o=>if o.st=st/\o.t=t/\o.isRec=false/\off=0/\len<=o.rows.length/\len<137438953472/\(id<1000\/2000<=id)/\o.k.flat=true then
     some (.ms id st 0 (len+ys.length),.reb id ⟨t,st,o.rows.take len++ys,false⟩)else none
   | none=>none)else none
def RA(d id:Nat)(t:TypeId)(st off len:Nat)(ys:List (List AV))(h:Nat->Option aj):pE d t st (.ms id st off len) (some ys) h=D0 id t st off len ys (h id):=by
 simp only[pE,D0,true_and];cases h id<;>rfl
def AS:Kd.flat instKd=true:=rfl
def KW(id:Nat)(t:TypeId)(st len:Nat)(rows ys:List (List AV))(hl:rows.length=len):D0 id t st 0 len ys (some ⟨t,st,rows,false⟩) =
  if ys.length<137438953472/\len<137438953472/\(id<1000\/2000<=id)then some (.ms id st 0 (len+ys.length),.reb id ⟨t,st,rows++ys,false⟩)else none:=by
 subst hl;simp only[D0,true_and,aN,jc,AS,and_true];by_cases h1:ys.length<137438953472<;>simp[h1]
def MX(d:Nat)(t:TypeId)(st:Nat)(ys:List (List AV))(h:Nat->Option aj):uB d t st .nl (some ys) h=if ys.length<137438953472/\0<ys.length then some (.ms d st 0 ys.length,.new d ⟨t,st,ys,true⟩)else none:=rfl
def VP(id:Nat)(t:TypeId)(st off len:Nat)(ys:List (List AV))(o:Option aj):Option (AV×aW) :=
 if ys.length<137438953472/\0<ys.length then(match o with
   | some o=>if o.st=st/\o.t=t/\off=0/\len<=o.rows.length/\len<137438953472/\(id<1000\/2000<=id)/\o.k.flat=true/\E3 id (o.rows.take len++ys)=true then
     some (.ms id st 0 (len+ys.length),.reb id ⟨t,st,o.rows.take len++ys,true⟩)else none
   | none=>none)else none
def MW(d id:Nat)(t:TypeId)(st off len:Nat)(ys:List (List AV))(h:Nat->Option aj):uB d t st (.ms id st off len) (some ys) h=VP id t st off len ys (h id):=by
 simp only[uB,VP,true_and];cases h id<;>rfl
def YP(i:Nat):E3 i []=true:=rfl
def YO(i:Nat)(r:List AV)(l:List (List AV)):E3 i (r::l)=((r.all λx=>!mC i x)&&E3 i l):=rfl
def QG(st:Nat)(h:Nat->Option aj):fk st h .nl=some []:=rfl
def QH(st:Nat)(h:Nat->Option aj)(rows:List (List AV)):fk st h (.sl st rows)=some rows:=by simp[fk]
def Mi(st off len:Nat)(o:Option aj):Option (List (List AV)) :=
 match o with
 | some o=>if o.st=st/\o.isRec=false/\off+len<=o.rows.length then some ((o.rows.drop off).take len)else none
 | none=>none
def QF(st:Nat)(h:Nat->Option aj)(id off len:Nat):fk st h (.ms id st off len)=Mi st off len (h id):=by simp only[fk,Mi,true_and];cases h id<;>rfl
def DJ(st len:Nat)(t:TypeId)(rows:List (List AV))(hl:rows.length=len):Mi st 0 len (some ⟨t,st,rows,false⟩)=some rows:=by subst hl;simp[Mi]
def Rg(s:List UInt8):Vo (.str s)=some (s.map λb=>[.int .u8 b.toNat]):=rfl
def K8{f:FuncId}{args args':List AV}{d:Option Nat}{s:St}{K:St->Prop}{r:AV}(hp:ah P f args' r)(hid:∀x∈args',aI x=[])(hc:aR (NY false (ae s.heap)) args args')(hk:K (s.put d r)):cB P f args d s K :=
 .inl (.inl ⟨args',r,false,hp,hid,hc,(λh=>by cases h),hk⟩)
def K7{f:FuncId}{args args':List AV}{d:Option Nat}{s:St}{K:St->Prop}{r:AV}(hp:ah P f args' r)(hid:∀x∈args',aI x=[])(hc:aR (NY true (ae s.heap)) args args')(hf:m0 r=true)(hk:K (s.put d r)):cB P f args d s K :=
 .inl (.inl ⟨args',r,true,hp,hid,hc,λ_=>hf,hk⟩)
def aR.refl_coe(b:Bool)(h:Nat->Option aj):∀l:List AV,aR (NY b h) l l
 | []=>trivial
 | _::r=>⟨.inl rfl,aR.refl_coe b h r⟩
def yg{f:FuncId}{args:List AV}{d:Option Nat}{s:St}{K:St->Prop}{r:AV}(hp:ah P f args r)(hid:∀x∈args,aI x=[])(hk:K (s.put d r)):cB P f args d s K :=
 K8 hp hid (aR.refl_coe _ _ args) hk
def bS{f:FuncId}{args:List AV}{d:Option Nat}{s:St}{K:St->Prop}{r:AV}(fs:List Nat){args':List AV}(ha:args.map (rN fs s)=args')(hp:ah P f args' r)(hid:∀x∈args',aI x=[])(hk:K ((frzs fs s).put d r)):cB P f args d s K:=by
 subst ha;exact .inr (.inl ⟨fs,.inl ⟨_,r,false,hp,hid,aR.refl_coe _ _ _,(λh=>by cases h),hk⟩⟩)
def aL{al:List (Nat×Nat)}{f:FuncId}{args:List AV}{i:Nat}{bf:List Nat}{op:lR}{d:Option Nat}{hist:List HI}{s:St}{K:List HI->St->Prop}{r:AV}(hp:ah P f args r)(hid:∀x∈args,aI x=[])(hr:aI r=[])
  (hk:dF op s .no=true/\fY bf ⟨i,bU op s.env,[],[],false,false⟩ hist=true/\K (⟨i,bU op s.env,[],[],false,false⟩::hist) (s.put d r)):Ir P al f args i bf op d hist s K :=
 .inl ⟨args,r,false,hp,hid,aR.refl_coe _ _ args,(λh=>by cases h),hr,hk⟩
def J9:∀{l:List (Nat×AV)}{k:Nat},get l k = .any\/(k,get l k)∈l
 | [],k=>.inl rfl
 | (j,x)::r,k=>by
  simp only[get];split
  .rename_i h;subst h;exact .inr (by simp)
  .rcases J9 (l:=r) (k:=k)with h|h
   .exact .inl h
   .exact .inr (by simp[h])
def fN:∀{l:List (Nat×aj)}{k:Nat}{o:aj},ae l k=some o->(k,o)∈l
 | [],k,o,h=>by simp[ae]at h
 | (j,x)::r,k,o,h=>by
  simp only[ae]at h;split at h
  .rename_i hj;cases h;subst hj;simp
  .simp[fN h]
def cG.le{c:qL}{a:Act}{w:World}{s s':St}(hs:cG c s a w)(h1:∀p∈s'.env,get s.env p.1=p.2)(h2:∀p∈s'.heap,ae s.heap p.1=some p.2):cG c s' a w:=by
 obtain⟨bl,hs⟩:=hs;refine⟨bl,hs.weaken (λk=>?_) (λi o hi=>h2 (i,o) (fN hi))⟩;rcases J9 (l:=s'.env) (k:=k)with h|h
 .exact .inl h
 .exact .inr (h1 _ h).symm
def Wk.refl(s:St):Wk s s:=λ_ _ _ h=>h
def Wk.trans{s s' s'':St}(h:Wk s s')(h':Wk s' s''):Wk s s'':=λc a w hs=>h' c a w (h c a w hs)
def Wk.le{s s':St}(h1:∀p∈s'.env,get s.env p.1=p.2)(h2:∀p∈s'.heap,ae s.heap p.1=some p.2):Wk s s':=λ_ _ _ hs=>hs.le h1 h2
def Wk.frz(s:St)(i:Nat):Wk s (s.frz i):=λ_ _ _ hs=>hs.frz i
def klp{α:Type}(S:α->St)(p:α->Prop)(m:α->Nat)(q:α)(K:IX->St->Prop)(e:IX)(s:St):Prop :=
 match e with
 | .nrm=>∃q',p q'/\m q'<m q/\Wk s (S q')
 | e=>K e s
def ay{α:Type}{S:α->St}{p:α->Prop}{m:α->Nat}{q:α}{K:IX->St->Prop}{s:St}(q':α)(h1:p q')(h2:m q'<m q)(h3:Wk s (S q')):klp S p m q K .nrm s:=⟨q',h1,h2,h3⟩
def abG{α:Type}(S:α->St)(p:α->Prop)(m:α->Nat)(q:α)(K:IX->St->Prop)(s:St):klp S p m q K .ret s=K .ret s:=bN rfl
def abH{α:Type}(S:α->St)(p:α->Prop)(m:α->Nat)(q:α)(K:IX->St->Prop)(j:Nat)(s:St):klp S p m q K (.ext j) s=K (.ext j) s:=bN rfl
def ao{α:Type}(S:α->St)(p:α->Prop)(m:α->Nat){x:bF}{s:St}{K:IX->St->Prop}(q:α)(h1:p q)(h2:Wk s (S q))
  (hstep:∀q,p q->lz P x (S q) (klp S p m q K)):lz P (.loop x) s K:=by
 refine⟨λn s=>∃q,p q/\m q=n/\s=S q,⟨m q,S q,⟨q,h1,rfl,rfl⟩,h2⟩,?_⟩;rintro n s ⟨q,h3,rfl,rfl⟩;refine Gu _ _ _ _ (λe s' hh=>?_) (hstep q h3);cases e with
 | nrm=>obtain⟨q',h4,h5,h6⟩:=hh;exact⟨m q',S q',h5,⟨q',h4,rfl,rfl⟩,h6⟩
 | _=>exact hh
def kmt{α:Type}(S:α->St)(p:α->Prop)(K:IX->St->Prop)(e:IX)(s:St):Prop :=
 match e with
 | .nrm=>∃q,p q/\Wk s (S q)
 | e=>K e s
def aE{l:List nx}{r:AV}{s:St}(fs:List Nat)(h:tc l (frzs fs s)=some r)(h2:aI r=[]):At l r .ret s:=⟨(λ_ h=>by cases h),s,Wk.refl s,fs,h,h2⟩
def ac{l:List nx}{r:AV}{s:St}(h:tc l (frzs [] s)=some r:=by simp only[go_sem])(h2:aI r=[]:=by first|rfl|simp[go_sem,bv]):At l r .ret s:=aE [] h h2
def an{l:List nx}{r:AV}{s:St}(h:tc l (frzs [] s)=some r:=by rfl)(h2:aI r=[]:=by rfl):At l r .ret s:=aE [] h h2
def ak{f:FuncId}{args:List AV}{d:Option Nat}{s:St}{K:St->Prop}{r:AV}(hp:ah P f args r)(hk:K (s.put d r))(hid:∀x∈args,aI x=[]:=by simp[go_sem]):cB P f args d s K:=yg hp hid hk
def aa{f:FuncId}{args:List AV}{d:Option Nat}{s:St}{K:St->Prop}{r:AV}{Q:Prop}(hp:ah P f args r)(hk:Q)(hq:K (s.put d r)=Q:=by conv=>lhs;simp only[go_sem])(hid:∀x∈args,aI x=[]:=by simp[go_sem]):cB P f args d s K:=yg hp hid (hq.mpr hk)
end
attribute[go_sem] Tk Oz OU Ly Is OR Ls LB Iu OP Lq Tc OQ Lr OM Tj S4 Tp OB Td Ov OW OX Lu SY Oo ON OT OV Ye S9 Ot Ta Ou OS Lt Te Ow Tm OA SZ Oq S0 Or SX On Tg
attribute[go_sem] Xb R3 Xc WY ND WZ RZ NE RX W7 RY RV Xa W4 Xd W8 R5 WW R6 WX RW R1 R4 aaE W5 W6 R0 W_ W9 MY M7 MZ M5 M4 M3 M2 M1 M6 KL KM
attribute[go_sem] Yu Yv Yw Ym Yn Yo Yt Ys TF abI Yp I8 I_ I9 K0 MA I7 acl ZE U3 Rn Ol abG abH
def Z1(a b:Prop):Rz (.bool false) a b=b:=WB a b
attribute[go_sem ↓] WC WB
attribute[go_sem high] Z2 Z1 X2 X1 X3
attribute[go_sem] O6 Tt O4 Tu LD O2 Ts O3 OY LC Ep Eo Lv Iw Cf Ce OO Lz Lp wS
attribute[go_sem] UG UF KZ K1 MB Rk N5 K_ N4 Oa PV PU PT N6 PP KI KJ RT RS RN RO Nw Nx Ny Nz WV Re WU Pj Pk Pl Np Nq Nr Nt Nu Nv RH RF RG KR Nf Ng TT TS abM abN KT Vt M8 M9 Na KO Nb MU MV Ni NA RC NB NC RQ RR RB RA MX MW UI UH UZ U0 Uk Ul Um U1 Mg QI Hw K3 K2 K4 YP YO QG QH QF Rg
def abs(n:Nat):get [] n = .any:=bN rfl
def abr(k n:Nat)(x:AV)(r:List (Nat×AV)):get ((k,x)::r) n=if k=n then x else get r n:=bN rfl
def X9(n:Nat):ae [] n=none:=bN rfl
def X8(k n:Nat)(x:aj)(r:List (Nat×aj)):ae ((k,x)::r) n=if k=n then some x else ae r n:=bN rfl
def abe(n:Nat):del [] n=[]:=bN rfl
def abd(k n:Nat)(x:AV)(r:List (Nat×AV)):del ((k,x)::r) n=if k=n then del r n else(k,x)::del r n:=bN rfl
def X7(n:Nat):ny [] n=[]:=bN rfl
def X6(k n:Nat)(x:aj)(r:List (Nat×aj)):ny ((k,x)::r) n=if k=n then ny r n else(k,x)::ny r n:=bN rfl
def Zm(i:Nat):vF i []=[]:=bN rfl
def Zl(i k:Nat)(x:AV)(r:List (Nat×AV)):vF i ((k,x)::r)=(k,i_ i x)::vF i r:=bN rfl
def Zo(i:Nat):vG i []=[]:=bN rfl
def Zn(i k:Nat)(x:aj)(r:List (Nat×aj)):vG i ((k,x)::r)=(k,ee i x)::vG i r:=bN rfl
def ach(e:List (Nat×AV))(h:List (Nat×aj))(d:Nat)(x:AV):St.put ⟨e,h⟩ (some d) x =⟨(d,x)::e,h⟩:=bN rfl
def acg(s:St)(x:AV):s.put none x=s:=bN rfl
def Yq(e:List (Nat×AV))(h:List (Nat×aj))(i:Nat):St.kill ⟨e,h⟩ i =⟨vF i e,vG i (ny h i)⟩:=bN rfl
def XG(s:St):s.eff .no=s:=bN rfl
def SA(e:List (Nat×AV))(h:List (Nat×aj))(i:Nat)(o:aj):St.eff ⟨e,h⟩ (.put i o) =⟨e,(i,o)::ny h i⟩:=bN rfl
def Sz(e:List (Nat×AV))(h:List (Nat×aj))(i:Nat)(o:aj):St.eff ⟨e,h⟩ (.new i o) =⟨e,(i,o)::ny h i⟩:=bN rfl
def SB(e:List (Nat×AV))(h:List (Nat×aj))(i:Nat)(o:aj):St.eff ⟨e,h⟩ (.reb i o) =⟨vF i e,(i,o)::vG i (ny h i)⟩:=bN rfl
def TI(s:St):kills [] s=s:=bN rfl
def TH(i:Nat)(r:List Nat)(s:St):kills (i::r) s=kills r (s.kill i):=bN rfl
def Xx(e:List (Nat×AV)):dels [] e=e:=bN rfl
def Xw(d:Nat)(r:List Nat)(e:List (Nat×AV)):dels (d::r) e=dels r (del e d):=bN rfl
def acR(g:Nat->AV)(k:Nat):val g (.s k)=g k:=bN rfl
def acQ(g:Nat->AV)(x:AV):val g (.c x)=x:=bN rfl
def Qx(k:Nat)(b:Bool)(s:St):refine (.s k) b s=s.put (some k) (.bool b):=bN rfl
attribute[go_sem] abs abr X9 X8 abe abd X7 X6 Zm Zl Zo Zn ach acg Yq XG SA Sz SB TI TH Xx Xw acR acQ Qx
attribute[go_sem] lu oQ iV fX n_ iC NR mU
attribute[go_sem] i_ ee oA mV mG mC mP aI jp fM gE dZ bU aq aT kI dF fY qF Ez uH aW.tch aW.isReb aW.isPut aW.ids
attribute[go_sem] tc Gt JU Hd frzs St.frz rN frz1 Oh Lo s_ AU vg pH jo fW m0 wW uF
attribute[go_sem] bY eL tU iD lm KH List.all_nil List.any_cons List.any_nil List.contains_cons List.contains_nil jd List.flatMap_nil List.drop_succ_cons oK List.take_succ_cons iO j1 iN bP
attribute[go_sem] List.getElem?_cons_zero zW List.set_cons_zero List.set_cons_succ
attribute[go_sem] fo Option.map_none gb Option.getD_none Option.isSome_some
attribute[go_sem] di dH Bool.and_true gp Bool.and_false gX Bool.or_true B5 Bool.or_false x7
attribute[go_sem] true_and and_true true_implies implies_true false_implies dP fS not_true_eq_false not_false_eq_true and_self true_or or_true false_or or_false
section
variable{P:Program}[ba P]
def aes(d:Nat)(x:AV):Option (AV×aW) :=
 match x with
 | .str s=>some (.mm d false,.new d (@aj.mk 0 0 [] false (.it s 0)))
 | _=>none
def PQ(k:Bool)(x:AV)(h:Nat->Option aj)(f:Nat->aj->Option (AV×aW)):Option (AV×aW) :=
 match x with
 | .mm id k'=>if k=k' then(h id).bind (f id)else none
 | _=>none
def mkO(x:AV)(h:Nat->Option aj)(f:aj->Option (AV×aW)):Option (AV×aW) :=
 match x with
 | .fm es=>f (@aj.mk 0 0 [] false (.mp es))
 | x=>PQ true x h λ_=>f
def WT(o:aj):Option (AV×aW):=(wQ o).map λes=>(.int .i64 es.length,.no)
def ad8(x n y:AV)(h:Nat->Option aj):Option (AV×aW) :=
 match n with
 | .int .i64 n=>PQ true x h λid=>KQ id n y
 | _=>none
def Nk(d:Nat)(x:AV)(h:Nat->Option aj):jn d .mln [x] h=PQ true x h λ_=>WT:=by
 cases x<;>try rfl
 rename_i id k;cases k<;>rfl
def FQ(d:Nat)(ok:Bool)(kd:KK)(z x y:AV)(h:Nat->Option aj):jn d (.mlk ok kd z) [x,y] h=mkO x h (uY ok kd z y):=by
 cases x<;>try rfl
 rename_i id k;cases k<;>rfl
def Nl(d:Nat)(kd:KK)(x y q:AV)(h:Nat->Option aj):jn d (.mup kd) [x,y,q] h=PQ true x h λid=>Cb id kd y q:=by
 cases x<;>try rfl
 rename_i id k;cases k<;>rfl
def Tf(d:Nat)(g:Option (Nat×Bool))(s:St)(K:St->Prop):lV P ⟨some d,.mop .mkm [],g⟩ s K=(d<1000/\db (zG K (s.kill d) (some d)) (some (.mm d true,.new d (@aj.mk 0 0 [] false (.mp []))))):=rfl
def Ox(al:List (Nat×Nat))(i d:Nat)(g:Option (Nat×Bool))(bf:List Nat)(hist:List HI)(s:St)(K:List HI->St->Prop):gS P al i ⟨⟨some d,.mop .mkm [],g⟩,bf⟩ hist s K=db (Iz al i bf (.mop .mkm []) hist K s (some d)) (some (.mm d true,.new d (@aj.mk 0 0 [] false (.mp [])))):=rfl
def Ti(d:Option Nat)(x:IV)(g:Option (Nat×Bool))(s:St)(K:St->Prop):lV P ⟨d,.mop .mln [x],g⟩ s K=db (zG K s d) (PQ true (val (get s.env) x) (ae s.heap) λ_=>WT):=by
 rw[<-Nk (d.getD 0)  (val (get s.env) x) (ae s.heap)];rfl
def Th(d:Option Nat)(ok:Bool)(kd:KK)(z:AV)(x y:IV)(g:Option (Nat×Bool))(s:St)(K:St->Prop):lV P ⟨d,.mop (.mlk ok kd z) [x,y],g⟩ s K=db (zG K s d) (mkO (val (get s.env) x) (ae s.heap) (uY ok kd z (val (get s.env) y))):=by
 rw[<-FQ (d.getD 0) ok kd z (val (get s.env) x) (val (get s.env) y) (ae s.heap)];rfl
def Oy(al:List (Nat×Nat))(i:Nat)(d:Option Nat)(ok:Bool)(kd:KK)(z:AV)(x y:IV)(g:Option (Nat×Bool))(bf:List Nat)(hist:List HI)(s:St)(K:List HI->St->Prop):gS P al i ⟨⟨d,.mop (.mlk ok kd z) [x,y],g⟩,bf⟩ hist s K=db (Iz al i bf (.mop (.mlk ok kd z) [x,y]) hist K s d) (mkO (val (get s.env) x) (ae s.heap) (uY ok kd z (val (get s.env) y))):=by
 rw[<-FQ (d.getD 0) ok kd z (val (get s.env) x) (val (get s.env) y) (ae s.heap)];rfl
def Tl(d:Option Nat)(kd:KK)(x y q:IV)(g:Option (Nat×Bool))(s:St)(K:St->Prop):lV P ⟨d,.mop (.mup kd) [x,y,q],g⟩ s K=db (zG K s d) (PQ true (val (get s.env) x) (ae s.heap) λid=>Cb id kd (val (get s.env) y) (val (get s.env) q)):=by
 rw[<-Nl (d.getD 0) kd (val (get s.env) x) (val (get s.env) y) (val (get s.env) q) (ae s.heap)];rfl
def QB(d:Nat)(s:List UInt8):aes d (.str s)=some (.mm d false,.new d (@aj.mk 0 0 [] false (.it s 0))):=rfl
def ab2(id:Nat)(h:Nat->Option aj)(f:Nat->aj->Option (AV×aW)):PQ true (.mm id true) h f=(h id).bind (f id):=rfl
def abZ(id:Nat)(h:Nat->Option aj)(f:aj->Option (AV×aW)):mkO (.mm id true) h f=(h id).bind f:=rfl
def abY(es:List (AV×AV))(h:Nat->Option aj)(f:aj->Option (AV×aW)):mkO (.fm es) h f=f (@aj.mk 0 0 [] false (.mp es)):=rfl
def ab1(id:Nat)(h:Nat->Option aj)(f:Nat->aj->Option (AV×aW)):PQ false (.mm id false) h f=(h id).bind (f id):=rfl
def YL(x y:AV)(n:Int)(h:Nat->Option aj):ad8 x (.int .i64 n) y h=PQ true x h λid=>KQ id n y:=rfl
def I2{α β:Type}(x:α)(f:α->Option β):(some x).bind f=f x:=rfl
def RK(t st:Nat)(rows:List (List AV))(r:Bool)(es:List (AV×AV)):WT (@aj.mk t st rows r (.mp es))=some (.int .i64 es.length,.no):=rfl
def GB(K:AV->aW->Prop)(ok:Bool)(z:AV)(es:List (AV×AV))(q:Option (Option Nat)):Prop :=
 match q with
 | some (some i)=>match es[i]? with
  | some e=>K (if ok then .tup [e.2,.bool true]else e.2) .no
  | none=>False
 | some none=>K (if ok then .tup [z,.bool false]else z) .no
 | none=>False
def RJ(K:AV->aW->Prop)(ok:Bool)(kd:KK)(z y:AV)(t st:Nat)(rows:List (List AV))(r:Bool)(es:List (AV×AV)):db K (uY ok kd z y (@aj.mk t st rows r (.mp es)))=GB K ok z es (dq kd y es):=by
 simp only[uY,wQ,GB];cases dq kd y es with
 | none=>rfl
 | some q=>cases q with
  | none=>rfl
  | some i=>cases h:es[i]? <;> simp[h,db]
def RL(K:AV->aW->Prop)(id:Nat)(kd:KK)(y q:AV)(t st:Nat)(rows:List (List AV))(r:Bool)(es:List (AV×AV)):db K (Cb id kd y q (@aj.mk t st rows r (.mp es))) =
  (oV y=true/\oV q=true/\∃es',yF kd y q es=some es'/\K .any (.put id (@aj.mk t st rows r (.mp es')))):=by
 simp only[Cb,wQ];cases oV y<;>cases oV q<;>cases yF kd y q es<;>simp[db]
def Mz(b:Bool)(x:AV)(K:AV->aW->Prop):Prop :=
 match x with
 | .sl _ []=>K (.bool b) .no/\K (.bool (!b)) .no
 | x=>match KS b x with
  | some v=>K v .no
  | none=>False
def Tq(d:Option Nat)(b:Bool)(x:IV)(g:Option (Nat×Bool))(s:St)(K:St->Prop):lV P ⟨d,.snl b x,g⟩ s K=Mz b (val (get s.env) x) (zG K s d):=by
 show(match val (get s.env) x with
  | .sl _ []=>K (s.put d (.bool b))/\K (s.put d (.bool (!b)))
  | x=>match KS b x with
   | some v=>K (s.put d v)
   | none=>False)=_
 generalize val (get s.env) x=v;unfold Mz;split
 .rfl
 .split<;>rfl
def Vn(b:Bool)(K:AV->aW->Prop):Mz b .nl K=K (.bool (!b)) .no:=rfl
def ZP(b:Bool)(st:Nat)(K:AV->aW->Prop):Mz b (.sl st []) K=(K (.bool b) .no/\K (.bool (!b)) .no):=rfl
def ZQ(b:Bool)(st:Nat)(r:List AV)(rows:List (List AV))(K:AV->aW->Prop):Mz b (.sl st (r::rows)) K=K (.bool b) .no:=rfl
def pV(b:Bool)(st:Nat)(rows:List (List AV))(K:AV->aW->Prop)(h:K (.bool b) .no/\(rows=[]->K (.bool (!b)) .no)):Mz b (.sl st rows) K:=by
 cases rows with
 | nil=>exact⟨h.1,h.2 rfl⟩
 | cons r rows=>exact h.1
end
def aj.k_e(t:TypeId)(st:Nat)(rows:List (List AV))(r:Bool)(k:Kd):(@aj.mk t st rows r k).k=k:=rfl
attribute[go_sem] aj.k_e
attribute[go_sem] Tq Vn ZP ZQ
attribute[go_sem] Tf Ox Ti Th Oy Tl QB ab2 ab1 abZ abY YL I2 RK RJ RL
def yI(ρ:Nat->Nat):AV->AV
 | .ms id st off len=>.ms (ρ id) st off len
 | .mp id st row off=>.mp (ρ id) st row off
 | .mm id k=>.mm (ρ id) k
 | x=>x
def xB(ρ:Nat->Nat):AV->AV
 | .fn f caps=>.fn f (caps.map (yI ρ))
 | x=>yI ρ x
def zT(ρ:Nat->Nat):AV->AV
 | .agg cells=>.agg (cells.map (xB ρ))
 | x=>xB ρ x
def lB(ρ:Nat->Nat):AV->AV
 | .tup vs=>.tup (vs.map (zT ρ))
 | x=>zT ρ x
def nq(ρ:Nat->Nat)(o:aj):aj:=if o.isRec then{o with rows:=o.rows.map (λr=>r.map (xB ρ))}else o
def lh(ρ:Nat->Nat):List (Nat×aj)->List (Nat×aj)
 | []=>[]
 | (i,o)::r=>(ρ i,nq ρ o)::lh ρ r
section
variable{P:Program}[ba P]{bl bl':Nat->Option Nat}{M M':Nat->Prop}{w:World}{ρ τ:Nat->Nat}
def IRel.mono{v:Value}{x:AV}(h:IRel M w v x)(hM:∀b,M' b->M b):IRel M' w v x:=h.tr λb hb _=>⟨λh'=>hb (hM b h'),rfl⟩
def Hs{v:Value}{x:AV}(h:dS bl M w v x)(hb:∀i,bl' (ρ i)=bl i)(hM:∀b,M' b->M b):dS bl' M' w v (yI ρ x):=by
 cases x with
 | ms id st off len =>
  simp only[yI,dS]at h⊢;rw[hb];exact h
 | mp id st row off =>
  simp only[yI,dS]at h⊢;rw[hb];exact h
 | mm id k =>
  simp only[yI,dS]at h⊢;rw[hb];exact h
 | _=>exact IRel.mono h hM
def BF{v:Value}{x:AV}(h:bV bl M w v x)(hb:∀i,bl' (ρ i)=bl i)(hM:∀b,M' b->M b):bV bl' M' w v (xB ρ x):=by
 cases x with
 | fn f caps =>
  obtain⟨cs,h1,h2⟩:=h;exact⟨cs,h1,h2.mapRight λ_ _ hr=>Hs hr hb hM⟩
 | _=>simp only[bV]at h;exact Hs (ρ:=ρ) h hb hM
def Hq{v:Value}{x:AV}(h:eY bl M w v x)(hb:∀i,bl' (ρ i)=bl i)(hM:∀b,M' b->M b):eY bl' M' w v (zT ρ x):=by
 cases x with
 | agg cells =>
  obtain⟨cs,h1,h2⟩:=h;exact⟨cs,h1,h2.mapRight λ_ _ hr=>BF hr hb hM⟩
 | _=>simp only[eY]at h;exact BF (ρ:=ρ) h hb hM
def BJ{v:Value}{x:AV}(h:aY bl M w v x)(hb:∀i,bl' (ρ i)=bl i)(hM:∀b,M' b->M b):aY bl' M' w v (lB ρ x):=by
 cases x with
 | any=>trivial
 | tup vs =>
  obtain⟨cs,h1,h2⟩:=h;exact⟨cs,h1,h2.mapRight λ_ _ hr=>Hq hr hb hM⟩
 | _=>simp only[aY]at h;exact Hq (ρ:=ρ) h hb hM
def ZD(o:aj):(nq ρ o).t=o.t:=by unfold nq;split<;>rfl
def Fi(o:aj):(nq ρ o).st=o.st:=by unfold nq;split<;>rfl
def BI(o:aj):(nq ρ o).isRec=o.isRec:=by unfold nq;split<;>rfl
def kC(h1:∀i,τ (ρ i)=i)(h2:∀i,ρ (τ i)=i):∀(σ:List (Nat×aj))(i:Nat),ae (lh ρ σ) i=(ae σ (τ i)).map (nq ρ)
 | [],i=>rfl
 | (k,o)::r,i=>by
  simp only[lh,ae,kC h1 h2 r i];by_cases h:ρ k=i
  .rw[aF h,aF (by rw[<-h,h1])];rfl
  .rw[ax h,ax (λhk=>h (by rw[hk,h2]))]
def QA{MF:Nat->Prop}{o:aj}{b:Nat}(h:n7 bl M MF w o b)(hb:∀i,bl' (ρ i)=bl i)(hM:∀b,M' b->M b):n7 bl' M' MF w (nq ρ o) b:=by
 rcases h with⟨gk,c1,fr,h2,h3,h4,h5,h6,h7⟩|hsp;rotate_left
 .have:nq ρ o=o:=by simp[nq,hsp.isRec]
  rw[this];exact .inr (hsp.mono hM)
 refine .inl ⟨by unfold nq;split<;>exact gk,c1,fr,by rw[ZD];exact h2,h3,h4,λk r hr=>?_,?_,λk q r x hr hx=>?_⟩
 .rw[Fi];unfold nq at hr;split at hr
  .simp only[fR,dc]at hr;obtain⟨r0,h8,rfl⟩:=hr;simpa using h5 k r0 h8
  .exact h5 k r hr
 .rw[Fi];unfold nq;split<;>simpa using h6
 .rw[Fi,BI];unfold nq at hr;split at hr
  .rename_i hrc;simp only[fR,dc]at hr;obtain⟨r0,h8,rfl⟩:=hr;simp only[fR,dc]at hx;obtain⟨x0,h9,rfl⟩:=hx;obtain⟨u,hu1,hu2⟩:=h7 k q r0 x0 h8 h9;rw[hrc]at hu2⊢;exact⟨u,hu1,BF hu2 hb hM⟩
  .rename_i hrc;obtain⟨u,hu1,hu2⟩:=h7 k q r x hr hx;have hrc':o.isRec=false:=by simpa using hrc
   rw[hrc']at hu2⊢;exact⟨u,hu1,IRel.mono hu2 hM⟩
def BH{MF:Nat->Prop}{σ:List (Nat×aj)}(h1:∀i,τ (ρ i)=i)(h2:∀i,ρ (τ i)=i)(h:HW bl M MF w (ae σ))(hb:∀i,bl' (ρ i)=bl i)(hM:∀b,M' b->M b):HW bl' M' MF w (ae (lh ρ σ)):=by
 have hs:∀{i o},ae (lh ρ σ) i=some o->∃o0,ae σ (τ i)=some o0/\o=nq ρ o0:=λ{i o} hi=>by
  rw[kC h1 h2]at hi;simp only[dc]at hi;obtain⟨o0,h3,h4⟩:=hi;exact⟨o0,h3,h4.symm⟩
 have hbt:∀i,bl' i=bl (τ i):=λi=>by rw[<-hb,h2]
 refine⟨λi o hi=>?_,λi i' o o' b hi hi' q q'=>?_⟩
 .obtain⟨o0,h3,rfl⟩:=hs hi;rcases h.1 _ o0 h3 with hn|⟨b,h4,h5⟩
  .refine .inl ⟨?_,by rw[BI];exact hn.2.1,by rw[hbt];exact hn.2.2⟩;unfold nq;rw[hn.2.1];exact hn.1
  .exact .inr ⟨b,by rw[hbt];exact h4,QA h5 hb hM⟩
 .obtain⟨o0,h3,_⟩:=hs hi;obtain⟨o1,h4,_⟩:=hs hi';have:=h.2 _ _ _ _ b h3 h4 (by rw[<-hbt];exact q) (by rw[<-hbt];exact q');rw[<-h2 i,<-h2 i',this]
def BG{MF:Nat->Prop}{σ:List (Nat×aj)}(h1:∀i,τ (ρ i)=i)(h2:∀i,ρ (τ i)=i)(hb:∀i,bl' (ρ i)=bl i)(b:Nat)(h:bz bl' MF (ae (lh ρ σ)) b):bz bl MF (ae σ) b:=by
 rcases h with h|⟨i,o,h3,h4⟩
 .exact .inl h
 .rw[kC h1 h2]at h3;simp only[dc]at h3;obtain⟨o0,h5,_⟩:=h3;exact .inr ⟨_,o0,h5,by rw[<-hb,h2];exact h4⟩
def Qz{σ:List (Nat×aj)}(h1:∀i,τ (ρ i)=i)(h2:∀i,ρ (τ i)=i)(hb:∀i,bl' (ρ i)=bl i)(b:Nat)(h:nY bl' (lh ρ σ) b):nY bl σ b:=by
 obtain⟨i,o,h3,h4⟩:=h;rw[kC h1 h2]at h3;simp only[dc]at h3;obtain⟨o0,h5,_⟩:=h3;exact⟨_,o0,h5,by rw[<-hb,h2];exact h4⟩
def A6(x:AV):gE (yI ρ x)=(gE x).map ρ:=by cases x<;>rfl
def fB{f g:AV->List Nat}{r:AV->AV}(h:∀x,f (r x)=(g x).map ρ):∀l:List AV,(l.map r).flatMap f=(l.flatMap g).map ρ
 | []=>rfl
 | x::l=>by simp only[bY,jd,fB h l,h,dW]
def A5(x:AV):fM (xB ρ x)=(fM x).map ρ:=by
 cases x with
 | fn f caps=>exact fB A6 caps
 | _=>rfl
def OD(x:AV):jp (zT ρ x)=(jp x).map ρ:=by
 cases x with
 | agg cells=>exact fB A5 cells
 | fn f caps=>exact fB A6 caps
 | _=>rfl
def OF(x:AV):aI (lB ρ x)=(aI x).map ρ:=by
 cases x with
 | tup vs=>exact fB OD vs
 | agg cells=>exact fB A5 cells
 | fn f caps=>exact fB A6 caps
 | _=>rfl
def OE(o:aj):dZ (nq ρ o)=(dZ o).map ρ:=by
 unfold dZ;rw[BI];split
 .rename_i h;simp only[nq,h,dP];generalize o.rows=l
  induction l with
  | nil=>rfl
  | cons r l ih=>simp only[bY,jd,ih,dW];congr 1;exact fB A5 r
 .rfl
def GH:∀{σ:List (Nat×aj)}{p:Nat×aj},p∈lh ρ σ->∃q∈σ,p=(ρ q.1,nq ρ q.2)
 | [],_,h=>by cases h
 | (i,o)::r,p,h=>by
  simp only[lh,bp]at h;rcases h with h|h
  .exact⟨(i,o),by simp,h⟩
  .obtain⟨q,h1,h2⟩:=GH h;exact⟨q,by simp[h1],h2⟩
def ra.ren{r:AV}{σ:List (Nat×aj)}(h1:∀i,τ (ρ i)=i)(h2:∀i,ρ (τ i)=i)(h:ra r σ):ra (lB ρ r) (lh ρ σ):=by
 have key:∀{i},(ae σ i).isSome=true->(ae (lh ρ σ) (ρ i)).isSome=true:=λ{i} hi=>by
  rw[kC h1 h2,h1];simpa using hi
 refine⟨λi hi=>?_,λp hp i hi=>?_⟩
 .rw[OF,dN]at hi;obtain⟨j,h3,rfl⟩:=hi;exact key (h.1 j h3)
 .obtain⟨q,h3,rfl⟩:=GH hp;simp only[OE,dN]at hi;obtain⟨j,h4,rfl⟩:=hi;exact key (h.2 q h3 j h4)
def aZ.ren{f:FuncId}{args args2:List AV}{σ σ2:List (Nat×aj)}{Sb:Nat->Prop}{Post:AV->List (Nat×aj)->Prop}(h:aZ P f args σ Sb Post)(ρ τ:Nat->Nat)(h1:∀i,τ (ρ i)=i)(h2:∀i,ρ (τ i)=i)
  (ha:args2.map (lB τ)=args) (hσ:lh τ σ2=σ):aZ P f args2 σ2 (λid=>Sb (τ id)) (λr σ'=>∃r0 σ0,Post r0 σ0/\r=lB ρ r0/\σ'=lh ρ σ0):=by
 intro bl MF w cargs hTH hTW hH hMF hargs;subst ha hσ;have hb:∀i,(λi=>bl (ρ i)) (τ i)=bl i:=λi=>by simp only[h2]
 have hmut:∀b,bz (λi=>bl (ρ i)) MF (ae (lh τ σ2)) b->bz bl MF (ae σ2) b:=λb hm=>BG h2 h1 hb b hm;have hblk:∀b,nY (λi=>bl (ρ i)) (lh τ σ2) b->nY bl σ2 b:=λb hm=>Qz h2 h1 hb b hm;refine(h (λi=>bl (ρ i)) MF w cargs hTH (λb hb hB=>hTW b hb (hmut b hB)) (BH h2 h1 hH hb hmut) hMF (hargs.mapRight λ_ _ hr=>BJ hr hb hmut)).mono λe w'=>?_;rintro⟨v,r,σ',bl',rfl,hp,hc,hH',hv,hst,hnew,hsb⟩;have hb':∀i,(λi=>bl' (τ i)) (ρ i)=bl' i:=λi=>by simp only[h1]
 have hmut':∀b,bz (λi=>bl' (τ i)) MF (ae (lh ρ σ')) b->bz bl' MF (ae σ') b:=λb hm=>BG h1 h2 hb' b hm;refine⟨v,lB ρ r,lh ρ σ',λi=>bl' (τ i),rfl,⟨r,σ',hp,rfl,rfl⟩,hc.ren h1 h2,BH h1 h2 hH' hb' hmut',BJ hv hb' hmut',?_,λid o b hi hq=>?_,λid hid=>?_⟩
 .exact⟨hst.size,λb hlt hn=>hst.keep b hlt λhh=>hn (hblk b hh),hst.shape,hst.os,hst.out⟩
 .rw[kC h1 h2]at hi;simp only[dc]at hi;obtain⟨o0,h5,_⟩:=hi;exact(hnew _ o0 b h5 hq).imp_right (hblk b)
 .show bl' (τ id)=bl id;rw[hsb _ hid];exact hb id
def wy(a b i:Nat):Nat:=if i=a then b else if i=b then a else i
def s5(a b i:Nat):wy a b (wy a b i)=i:=by
 unfold wy;by_cases h1:i=a<;>by_cases h2:i=b<;>simp[h1,h2]<;>(try split)<;>simp_all
def aZ.fresh{f:FuncId}{args:List AV}{Sb:Nat->Prop}{id st off len:Nat}{o:aj}(h:aZ P f args [] Sb (λr σ'=>r = .ms id st off len/\σ'=[(id,o)]))(ho:o.isRec=false)(hargs:∀x∈args,aI x=[])(j:Nat) :
  aZ P f args [] (λ_=>False) (λr σ'=>r = .ms j st off len/\σ'=[(j,o)]):=by
 have hren:∀x:AV,aI x=[]->lB (wy id j) x=x:=by
  have hP:∀x:AV,gE x=[]->yI (wy id j) x=x:=λx hx=>by cases x<;>first|rfl|(simp[gE]at hx)
  have hL:∀{f:AV->List Nat}{r:AV->AV},(∀x,f x=[]->r x=x)->∀l:List AV,l.flatMap f=[]->l.map r=l:=λ{f r} hh l=>by
   induction l with
   | nil=>exact λ_=>rfl
   | cons y l ih =>
    intro hl;simp only[jd,List.append_eq_nil_iff]at hl;simp only[bY,hh y hl.1,ih hl.2]
  have hC:∀x:AV,fM x=[]->xB (wy id j) x=x:=λx hx=>by
   cases x with
   | fn f caps=>simp only[xB,hL hP caps hx]
   | _=>first|rfl|(simp[fM,gE]at hx)
  have hG:∀x:AV,jp x=[]->zT (wy id j) x=x:=λx hx=>by
   cases x with
   | agg cells=>simp only[zT,hL hC cells hx]
   | fn f caps=>exact hC (.fn f caps) hx
   | _=>first|rfl|(simp[jp,fM,gE]at hx)
  intro x hx;cases x with
  | tup vs=>simp only[lB,hL hG vs hx]
  | agg cells=>exact hG (.agg cells) hx
  | fn f caps=>exact hG (.fn f caps) hx
  | _=>first|rfl|(simp[aI,jp,fM,gE]at hx)
 have hmap:∀l:List AV,(∀x∈l,aI x=[])->l.map (lB (wy id j))=l:=λl=>by
  induction l with
  | nil=>exact λ_=>rfl
  | cons y l ih=>intro hl;simp only[bY,hren y (hl y (by simp)),ih λx hx=>hl x (by simp[hx])]
 refine(h.ren (args2:=args) (σ2:=[]) (wy id j) (wy id j) (s5 _ _) (s5 _ _) (hmap args hargs) rfl).mono (λ_ hf=>hf.elim) ?_;rintro r σ' ⟨r0,σ0,⟨rfl,rfl⟩,rfl,rfl⟩;have hs:wy id j id=j:=by simp[wy]
 refine⟨by simp only[lB,zT,xB,yI,hs],?_⟩;simp only[lh,hs,nq,ho];rfl
def L5(i:Nat)(x:AV):nU [i] x=i_ i x:=by simp[nU,i_]
def L4(i:Nat)(o:aj):ig [i] o=ee i o:=by
 unfold ig ee uK oA;simp
def mY{f:FuncId}{args:List AV}{d:Option Nat}{s:St}{K:St->Prop}{Sb:Nat->Prop}{id st off len:Nat}{o:aj}(h:aZ P f args [] Sb (λr σ'=>r = .ms id st off len/\σ'=[(id,o)]))(ho:o.isRec=false)(hargs:∀x∈args,aI x=[])
  (j:Nat) (hj:j<1000\/2000<=j) (hfree:ae s.heap j=none) (hk:K ((St.mk (vF j s.env) ((j,o)::vG j s.heap)).put d (.ms j st off len))):cB P f args d s K:=by
 refine .inl (.inr ⟨[],λ_=>False,λr σ'=>r = .ms j st off len/\σ'=[(j,o)],[j],h.fresh ho hargs j,λ_ _ hh=>by simp[ae]at hh,?_,?_⟩)
 .rintro r σ' ⟨rfl,rfl⟩ i hi;simp only[ae]at hi;split at hi
  .rename_i hji;subst hji;exact .inr ⟨by simp,hj,.inr hfree⟩
  .cases hi
 .rintro r σ' ⟨rfl,rfl⟩;refine⟨⟨vF j s.env,(j,o)::vG j s.heap⟩,λk=>?_,λi=>?_,hk⟩
  .simp only[jK,L5]
  .simp only[HT,ae];split
   .rfl
   .simp only[fU,Option.isSome_none,jr,fS];congr 1;funext o';exact(L4 j o').symm
end
def leE(e:List (Nat×AV)):List (Nat×AV)->Prop
 | []=>True
 | (k,x)::r=>get e k=x/\leE e r
def MQ(e:List (Nat×aj)):List (Nat×aj)->Prop
 | []=>True
 | (k,x)::r=>ae e k=some x/\MQ e r
def J3{e:List (Nat×AV)}:∀{l:List (Nat×AV)},leE e l->∀p∈l,get e p.1=p.2
 | [],_,p,hp=>by cases hp
 | (k,x)::r,h,p,hp=>by
  rcases bp.1 hp with rfl|hp
  .exact h.1
  .exact J3 h.2 p hp
def pM{e:List (Nat×aj)}:∀{l:List (Nat×aj)},MQ e l->∀p∈l,ae e p.1=some p.2
 | [],_,p,hp=>by cases hp
 | (k,x)::r,h,p,hp=>by
  rcases bp.1 hp with rfl|hp
  .exact h.1
  .exact pM h.2 p hp
def Wk.of{s s':St}(h1:leE s.env s'.env)(h2:MQ s.heap s'.heap):Wk s s':=Wk.le (J3 h1) (pM h2)
def Wk.frzs:∀(fs:List Nat)(s:St),Wk s (Mw.frzs fs s)
 | [],s=>Wk.refl s
 | i::r,s=>(Wk.frz s i).trans (Wk.frzs r (s.frz i))
def Wk.frz_of{s s':St}(fs:List Nat)(h1:leE (Mw.frzs fs s).env s'.env)(h2:MQ (Mw.frzs fs s).heap s'.heap):Wk s s':=(Wk.frzs fs s).trans (Wk.of h1 h2)
def St.mknil(s:St)(k i st:Nat)(t:TypeId):St:=⟨(k,.ms i st 0 0)::del (s.kill i).env k,(i,⟨t,st,[],false⟩)::(s.kill i).heap⟩
def Wk.nil(s:St)(k i st:Nat)(t:TypeId)(hk:get s.env k = .nl)(hid:i<1000\/2000<=i):Wk s (s.mknil k i st t):=by
 intro c a w hs;obtain⟨bl,hs⟩:=hs.kill i;obtain⟨h1,h2⟩:=cX s i;have hn:=hs.new0 (i:=i) (o:=⟨t,st,[],false⟩) h1 h2 hid rfl rfl;have hk':get (s.kill i).env k = .nl:=by simp[St.kill,jK,hk,i_,mV,mG,mC,mP]
 refine⟨_,hn.defers,hn.size,λj=>?_,?_,hn.step,?_,hn.stab,hn.mf⟩
 all_goals
  have hheap:ae (s.mknil k i st t).heap=dQ (ae (s.kill i).heap) i (some ⟨t,st,[],false⟩):=by
   funext j;simp only[St.mknil,ae,dQ];by_cases h:i=j
   .rw[aF h,aF h.symm]
   .rw[ax h,ax (Ne.symm h)]
 .rw[hheap];have hj:=hn.env j;simp only[St.mknil,get];by_cases h:k=j
  .subst h;rw[aF rfl];rw[hk']at hj;have hv:tv a k = .slice none 0 0:=by
    simp only[aY,eY,bV,dS]at hj;generalize tv a k=v at hj;cases hj;rfl
   exact .inl ⟨hv,rfl,rfl⟩
  .rw[ax h,pI,ax (Ne.symm h)];exact hj
 .rw[hheap];exact hn.heap
 .rw[hheap];exact hn.own
def Rr(r:AV)(σ:List (Nat×aj)):Bool:=(aI r).all (λi=>(ae σ i).isSome)&&σ.all λp=>(dZ p.2).all λi=>(ae σ i).isSome
def kx{r:AV}{σ:List (Nat×aj)}(h:Rr r σ=true):ra r σ:=by
 simp only[Rr,fQ,f_]at h;exact⟨λi hi=>h.1 i hi,λp hp i hi=>h.2 p hp i hi⟩
def done{l:List nx}{Post:AV->List (Nat×aj)->Prop}{s:St}(fs:List Nat)(r:AV)(σ':List (Nat×aj))(h1:tc l (frzs fs s)=some r)(h2:MQ (frzs fs s).heap σ')(h3:Rr r σ'=true)(h4:Post r σ'):B_ l Post .ret s :=
 ⟨(λ_ h=>by cases h),s,Wk.refl s,fs,r,σ',h1,(λi o hi=>pM h2 _ (fN hi)),kx h3,h4⟩
def iY{l:List nx}{Post:AV->List (Nat×aj)->Prop}{s:St}(fs:List Nat)(r:AV)(σ':List (Nat×aj))(h1:tc l (frzs fs s)=some r)(h2:MQ (frzs fs s).heap σ')(h3:Rr r σ'=true)(h4:Post r σ'):B_ l Post .nrm s :=
 ⟨(λ_ h=>by cases h),s,Wk.refl s,fs,r,σ',h1,(λi o hi=>pM h2 _ (fN hi)),kx h3,h4⟩
def aM{l:List nx}{Post:AV->List (Nat×aj)->Prop}{s:St}(fs:List Nat)(r:AV)(σ':List (Nat×aj))(h4:Post r σ')(h1:tc l (frzs fs s)=some r:=by simp only[go_sem])(h2:MQ (frzs fs s).heap σ':=by simp only[go_sem])(h3:Rr r σ'=true:=by exact rfl):B_ l Post .ret s:=done fs r σ' h1 h2 h3 h4
def wP{l:List nx}{Post:AV->List (Nat×aj)->Prop}{s:St}(fs:List Nat)(r:AV)(σ':List (Nat×aj))(h4:Post r σ')(h1:tc l (frzs fs s)=some r:=by simp only[go_sem])(h2:MQ (frzs fs s).heap σ':=by simp only[go_sem])(h3:Rr r σ'=true:=by exact rfl):B_ l Post .nrm s:=iY fs r σ' h1 h2 h3 h4
def Fd{l:List nx}{r:AV}{s:St}(fs:List Nat)(h:tc l (frzs fs s)=some r)(h2:aI r=[]):At l r .nrm s:=⟨(λ_ h=>by cases h),s,Wk.refl s,fs,h,h2⟩
def ri(n:Int):List AV:=[.int .i64 n]
def ru(n:Int):List AV:=[.int .u8 n]
def rb(b:UInt8):List AV:=[.int .u8 b.toNat]
def rs(s:List UInt8):List AV:=[.str s]
def rt(b:Bool):List AV:=[.bool b]
def aer(n:Int):ri n=[.int .i64 n]:=rfl
def aew(n:Int):ru n=[.int .u8 n]:=rfl
def aep(b:UInt8):rb b=[.int .u8 b.toNat]:=rfl
def aet(s:List UInt8):rs s=[.str s]:=rfl
def aeu(b:Bool):rt b=[.bool b]:=rfl
section
variable{α:Type}
def Fs(id n st row:Nat)(t:TypeId)(f:α->List AV)(l:List α)(v:α)(hn:∀x,(f x).length=n)(hi:(f v).all n_=true) :
  DN id n st row 0 (some ⟨t,st,l.map f,false⟩) (some (f v))=if row<l.length then some (.put id ⟨t,st,(l.set row v).map f,false⟩)else none:=by
 rw[Vr _ _ _ _ _ _ _ (by simpa using λx _=>hn x)];simp only[hn,hi,bP,true_and,List.map_set]
def ZW(id st row:Nat)(t:TypeId)(l:List Int)(v:Int):DN id 1 st row 0 (some ⟨t,st,l.map ri,false⟩) (some [.int .i64 v])=if row<l.length then some (.put id ⟨t,st,(l.set row v).map ri,false⟩)else none:=Fs id 1 st row t ri l v (λ_=>rfl) rfl
def vN(id st row:Nat)(t:TypeId)(l:List Bool)(v:Bool):DN id 1 st row 0 (some ⟨t,st,l.map rt,false⟩) (some [.bool v])=if row<l.length then some (.put id ⟨t,st,(l.set row v).map rt,false⟩)else none:=Fs id 1 st row t rt l v (λ_=>rfl) rfl
def sG[Inhabited α](id n st row off:Nat)(t:TypeId)(f:α->List AV)(l:List α)(cs:List AV)(g:α->α)(hl:cs.length=n)(hi:cs.all n_=true)(hn:∀x,off+n<=(f x).length)(hg:∀x,iC (f x) off cs=f (g x)) :
  DN id n st row off (some ⟨t,st,l.map f,false⟩) (some cs)=if row<l.length then some (.put id ⟨t,st,(l.set row (g (ap l row))).map f,false⟩)else none:=by
 simp only[DN,hl,hi,x7,and_self,dP];by_cases h3:row<l.length
 .rw[fR,jZ h3];simp only[fo,hn,dP,h3,hg,List.map_set,aV h3]
 .rw[tV (by simpa using h3),ax h3]
def bR(id:Nat)(t:TypeId)(st len:Nat)(f:α->List AV)(l:List α)(ys:List (List AV))(hl:l.length=len):D0 id t st 0 len ys (some ⟨t,st,l.map f,false⟩) =
  if ys.length<137438953472/\len<137438953472/\(id<1000\/2000<=id)then some (.ms id st 0 (len+ys.length),.reb id ⟨t,st,l.map f++ys,false⟩)else none:=KW id t st len _ ys (by simpa using hl)
def KX(id:Nat)(t:TypeId)(st len:Nat)(f:α->List AV)(l:List α)(ys:List (List AV))(hl:len<=l.length):D0 id t st 0 len ys (some ⟨t,st,l.map f,false⟩) =
  if ys.length<137438953472/\len<137438953472/\(id<1000\/2000<=id)then some (.ms id st 0 (len+ys.length),.reb id ⟨t,st,(l.take len).map f++ys,false⟩)else none:=by
 simp only[D0,true_and,bP,hl,List.map_take,AS,and_true];by_cases h1:ys.length<137438953472<;>simp[h1]
def QD(st len:Nat)(t:TypeId)(f:α->List AV)(l:List α)(hl:l.length=len):Mi st 0 len (some ⟨t,st,l.map f,false⟩)=some (l.map f):=DJ st len t _ (by simpa using hl)
def sB(st:Nat)(t:TypeId)(r:List AV):Mi st 0 1 (some ⟨t,st,[r],false⟩)=some [r]:=DJ st 1 t _ rfl
end
def wi{n:Int}(h0:-9223372036854775808<=n)(h1:n<9223372036854775808):IntKind.i64.wrap n=n:=by
 unfold IntKind.wrap;show(if(true&&decide (n%18446744073709551616>=9223372036854775808))=true then n%18446744073709551616-18446744073709551616 else n%18446744073709551616)=n;by_cases h:n%18446744073709551616>=9223372036854775808
 .rw[aw h];simp only[gp,dP];omega
 .rw[aC h];simp only[Bool.and_false,jr,fS];omega
attribute[go_sem] leE MQ Rr aer aew aep aet aeu ZW vN sB cY
def Wk.nls(s:St)(k st:Nat)(hk:get s.env k = .nl):Wk s ⟨(k,.sl st [])::s.env,s.heap⟩:=by
 rintro c a w ⟨bl,hs⟩;refine⟨bl,hs.defers,hs.size,λj=>?_,hs.heap,hs.step,hs.own,hs.stab,hs.mf⟩;simp only[get];split
 .rename_i h;subst h;have:=hs.env k;rw[hk]at this;rw[this.nl];exact IRel.nls st
 .exact hs.env j
def IRel.nl_sl{M:Nat->Prop}{w:World}{v:Value}(h:IRel M w v .nl)(st:Nat):IRel M w v (.sl st []):=by
 cases h;exact .nls st
def Wj:List AV->List AV->Prop
 | [],[]=>True
 | x::l,y::m=>(x=y\/(x = .nl/\∃st,y = .sl st []))/\Wj l m
 | _,_=>False
def E1:∀{l m:List AV},Wj l m->m.length=l.length
 | [],[],_=>rfl
 | _::_,_::_,h=>by simp[E1 h.2]
 | [],_::_,h=>h.elim
 | _::_,[],h=>h.elim
def E0:∀{l m:List AV},Wj l m->∀{j:Nat}{y:AV},m[j]?=some y->∃x,l[j]?=some x/\(x=y\/(x = .nl/\∃st,y = .sl st []))
 | [],[],_,j,y,hy=>by simp at hy
 | x::l,z::m,h,0,y,hy=>by simp at hy;subst hy;exact⟨x,rfl,h.1⟩
 | x::l,z::m,h,j+1,y,hy=>by simpa using E0 h.2 (j:=j) (by simpa using hy)
 | [],_::_,h,_,_,_=>h.elim
 | _::_,[],h,_,_,_=>h.elim
def Wk.nlh(s:St)(i:Nat){t:TypeId}{st:Nat}{r r':List AV}(hi:ae s.heap i=some ⟨t,st,[r],true⟩)(hr:Wj r r'):Wk s ⟨s.env,(i,⟨t,st,[r'],true⟩)::s.heap⟩:=by
 rintro c a w ⟨bl,hs⟩;have hm:∀b,bz bl c.MF (ae ((i,⟨t,st,[r'],true⟩)::s.heap)) b↔bz bl c.MF (ae s.heap) b:=bz.congr λj=>by
  simp only[ae];split
  .rename_i h;subst h;rw[hi];rfl
  .rfl
 have ht:=Tr.of_iff (w:=w) λb=>(hm b)
 refine⟨bl,hs.defers,hs.size,λj=>(hs.env j).tr ht (λ_ _=>rfl),⟨λj o hj=>?_,λj j' o o' b h1 h2=>?_⟩,hs.step,λj o b h1=>?_,hs.stab,hs.mf⟩
 .simp only[ae]at hj;split at hj
  .rename_i hij;subst hij;cases hj;rcases hs.heap.1 i _ hi with hn|⟨b,g1,⟨gk,c1,fr,g2,g3,g4,g5,g6,g7⟩|hsp⟩
   .cases hn.2.1
   rotate_left
   .cases hsp.isRec
   .refine .inr ⟨b,g1,.inl ⟨gk,c1,fr,g2,g3,g4,λk q hq=>?_,by simpa using g6,λk q u x hu hx=>?_⟩⟩
    .cases k with
     | zero=>simp at hq;subst hq;rw[E1 hr];exact g5 0 r rfl
     | succ k=>simp at hq
    .cases k with
     | succ k=>simp at hu
     | zero =>
      simp at hu;subst hu;obtain⟨x0,h1,h2⟩:=E0 hr hx;obtain⟨v,hv1,hv2⟩:=g7 0 q r x0 rfl h1;refine⟨v,hv1,?_⟩;have hv3:bV bl (bz bl c.MF (ae s.heap)) w v x0:=hv2;rcases h2 with h2|⟨h2,st',h3⟩
      .subst h2;exact hv3.tr ht (λ_ _=>rfl)
      .subst h2 h3;have:IRel (bz bl c.MF (ae s.heap)) w v .nl:=hv3;exact(IRel.toC (bl:=bl) (IRel.nl_sl this st')).tr ht (λ_ _=>rfl)
  .rcases hs.heap.1 j o hj with hn|⟨b,g1,⟨gk,c1,fr,g2,g3,g4,g5,g6,g7⟩|hsp⟩
   .exact .inl hn
   rotate_left
   .exact .inr ⟨b,g1,.inr (hsp.tr rfl ht.keep)⟩
   .refine .inr ⟨b,g1,.inl ⟨gk,c1,fr,g2,g3,g4,g5,g6,λk q u x hu hx=>?_⟩⟩;obtain⟨v,hv1,hv2⟩:=g7 k q u x hu hx;refine⟨v,hv1,?_⟩;cases hrec:o.isRec<;>simp only[hrec,jE]at hv2⊢
    .exact hv2.tr ht.keep
    .exact hv2.tr ht (λ_ _=>rfl)
 .have key:∀{j:Nat}{o:aj},ae ((i,⟨t,st,[r'],true⟩)::s.heap) j=some o->∃o',ae s.heap j=some o':=λ{j o} hj=>by
   simp only[ae]at hj;split at hj
   .rename_i hij;subst hij;exact⟨_,hi⟩
   .exact⟨_,hj⟩
  obtain⟨p1,q1⟩:=key h1;obtain⟨p2,q2⟩:=key h2;exact hs.heap.2 j j' p1 p2 b q1 q2
 .simp only[ae]at h1;split at h1
  .rename_i hij;subst hij;exact hs.own i _ b hi
  .exact hs.own j o b h1
def sH{l:List nx}{Post:AV->List (Nat×aj)->Prop}{s s1:St}(hw:Wk s s1)(fs:List Nat)(r:AV)(σ':List (Nat×aj))(h1:tc l (frzs fs s1)=some r)(h2:MQ (frzs fs s1).heap σ')(h3:Rr r σ'=true)(h4:Post r σ'):B_ l Post .ret s :=
 ⟨(λ_ h=>by cases h),s1,hw,fs,r,σ',h1,(λi o hi=>pM h2 _ (fN hi)),kx h3,h4⟩
def gM{l:List nx}{r:AV}{s s1:St}(hw:Wk s s1)(fs:List Nat)(h:tc l (frzs fs s1)=some r)(h2:aI r=[]):At l r .ret s:=⟨(λ_ h=>by cases h),s1,hw,fs,h,h2⟩
inductive Ty where
 | bool
 | int (k:IntKind)
 | str
 | sl (e:Ty)
 | nil
 | cons (f:Ty) (r:Ty)
 deriving Inhabited
def Ty.n:Ty->Nat
 | .nil=>0
 | .cons f r=>f.n+r.n
 | _=>1
def Ty.ok:Ty->List AV->Prop
 | .bool,xs=>∃b,xs=[.bool b]
 | .int k,xs=>∃n,xs=[.int k n]/\(Lit.int k n).wf=true
 | .str,xs=>∃s,xs=[.str s]/\s.length<=maxLen
 | .sl e,xs=>xs=[.nl]\/∃rows,xs=[.sl e.n rows]/\rows.length<=maxLen/\∀r∈rows,e.ok r
 | .nil,xs=>xs=[]
 | .cons f r,xs=>∃ys zs,xs=ys++zs/\f.ok ys/\r.ok zs
def Ty.ok_len:∀(τ:Ty)(xs:List AV),τ.ok xs->xs.length=τ.n
 | .bool,xs,h=>by obtain⟨b,rfl⟩:=h;rfl
 | .int k,xs,h=>by obtain⟨n,rfl,_⟩:=h;rfl
 | .str,xs,h=>by obtain⟨s,rfl,_⟩:=h;rfl
 | .sl e,xs,h=>by rcases h with rfl|⟨rows,rfl,_⟩<;>rfl
 | .nil,xs,h=>by subst h;rfl
 | .cons f r,xs,h=>by
  obtain⟨ys,zs,rfl,h1,h2⟩:=h;simp only[ej,Ty.n,Ty.ok_len f ys h1,Ty.ok_len r zs h2]
def BY(g:TypeId->Option Ty)(P:Program)(off:Nat):List Field->Option Ty
 | []=>some .nil
 | f::r=>if f.offset=off then(match g f.type,BY g P (off+P.cellsOf f.type) r with
  | some a,some b=>if a.n=P.cellsOf f.type then some (.cons a b)else none
  | _,_=>none)else none
def tR(P:Program):Nat->TypeId->Option Ty
 | 0,_=>none
 | f+1,t=>match P.underlying t with
  | some .bool=>some .bool
  | some (.int k)=>some (.int k)
  | some .string=>some .str
  | some (.slice e)=>match tR P f e with
   | some a=>if a.n=P.cellsOf e/\0<a.n then some (.sl a)else none
   | none=>none
  | some (.struct fs)=>match BY (tR P f) P 0 fs.toList with
   | some a=>if a.n=P.cellsOf t then some a else none
   | none=>none
  | _=>none
def GG{α β:Type}{g:α->Option β}:∀{l:List α}{r:List β},l.mapM g=some r->r.length=l.length/\∀(i:Nat)(x:α),l[i]?=some x->∃y,r[i]?=some y/\g x=some y
 | [],r,h=>by
  simp only[List.mapM_nil,pure,cI]at h;subst h;exact⟨rfl,λi x hx=>by simp at hx⟩
 | a::l,r,h=>by
  simp only[List.mapM_cons,bind,pZ,pure,cI]at h;obtain⟨y,h1,ys,h2,rfl⟩:=h;obtain⟨h3,h4⟩:=GG h2;refine⟨by simp[h3],λi x hx=>?_⟩;cases i with
  | zero =>
   simp only[List.getElem?_cons_zero,cI]at hx;subst hx;exact⟨y,rfl,h1⟩
  | succ i=>exact h4 i x (by simpa using hx)
def vn{β:Type}{g:Nat->Option β}{n:Nat}{r:List β}(h:(List.range n).mapM g=some r):r.length=n/\∀i,i<n->∃y,r[i]?=some y/\g i=some y:=by
 obtain⟨h1,h2⟩:=GG h;exact⟨by simpa using h1,λi hi=>h2 i i (by simp[hi])⟩
def C9{w:World}{base:Nat}{a:Addr}{n:Nat}{cs:List Value}(h:w.cells? base a n=some cs):cs.length=n/\∀j,j<n->∃y,cs[j]?=some y/\w.cell? (a.add j)=some y:=by
 unfold World.cells? at h;split at h
 .exact vn h
 .cases h
def AF{w:World}{a:Addr}{v:Value}(h:w.cell? a=some v):a.spot=none/\∃c t fr,w.heap[a.block]?=some (.cells c t fr)/\c[a.off]?=some v:=by
 unfold World.cell? at h;split at h
 case h_2=>cases h
 rename_i c t fr hb;split at h
 .cases h
 .rename_i hs;exact⟨by simpa using hs,c,t,fr,hb,h⟩
section
variable{H:Type}{enc:TypeId×Value->H}{P:Program}{w:World}{base:Nat}{sp:Nat->Bool}{held:Bool}
def Di{g:TypeId->Option Ty}{r:TypeId->List Value->Option (DataW H×List MemPlace)}(ih:∀t cs τ x,g t=some τ->r t cs=some x->∃xs,τ.ok xs/\aR (IRel (λ_=>False) w) cs xs)(cs:List Value) :
  ∀(fs:List Field)(off:Nat)(τ:Ty)(xs:List (DataW H×List MemPlace)),BY g P off fs=some τ->(fs.mapM λf=>r f.type ((cs.drop f.offset).take (P.cellsOf f.type)))=some xs->off+τ.n=cs.length ->
   ∃ys,τ.ok ys/\aR (IRel (λ_=>False) w) (cs.drop off) ys
 | [],off,τ,xs,ht,_,hn=>by
  simp only[BY,cI]at ht;subst ht;refine⟨[],rfl,?_⟩;rw[MN (by simp[Ty.n]at hn;omega)];trivial
 | f::fs,off,τ,xs,ht,hm,hn=>by
  simp only[BY]at ht;split at ht
  case isFalse=>cases ht
  rename_i hoff;split at ht
  case h_2=>cases ht
  rename_i a b ha hb;split at ht
  case isFalse=>cases ht
  rename_i hsz;cases ht;simp only[List.mapM_cons,bind,pZ,pure,cI]at hm;obtain⟨y,h1,zs,h2,rfl⟩:=hm;obtain⟨xs1,h3,h4⟩:=ih _ _ _ _ ha h1;simp only[Ty.n]at hn;obtain⟨xs2,h5,h6⟩:=Di ih cs fs (off+P.cellsOf f.type) b zs hb h2 (by omega);refine⟨xs1++xs2,⟨xs1,xs2,rfl,h3,h5⟩,?_⟩;rw[hoff]at h4;have:cs.drop off=(cs.drop off).take (P.cellsOf f.type)++cs.drop (off+P.cellsOf f.type):=by
   rw[<-MM,VK]
  rw[this];exact h4.append h6
def Vy:∀(fuel f:Nat)(t:TypeId)(cs:List Value)(τ:Ty)(x:DataW H×List MemPlace),tR P f t=some τ->DataW.trod enc P w base sp held fuel t cs=some x->∃xs,τ.ok xs/\aR (IRel (λ_=>False) w) cs xs:=by
 intro fuel
 induction fuel with
 | zero=>intro f t cs τ x _ h;simp[DataW.trod]at h
 | succ fuel ih =>
  intro f t cs τ x ht h;cases f with
  | zero=>simp[tR]at ht
  | succ f =>
   simp only[tR]at ht;split at ht
   case h_1 hu =>
    cases ht;unfold DataW.trod at h;split at h<;>rename_i heq<;>first|(rw[hu]at heq;cases heq;done)|(cases h;done)|skip
    rename_i b;exact⟨[.bool b],⟨b,rfl⟩,.bool b,trivial⟩
   case h_2 k hu =>
    cases ht;unfold DataW.trod at h;split at h<;>rename_i heq<;>first|(rw[hu]at heq;cases heq;done)|(cases h;done)|skip
    rename_i k' k1 n;rw[hu]at heq;cases heq;split at h
    .rename_i hk;obtain⟨rfl,hwf⟩:=hk;exact⟨[.int _ n],⟨n,rfl,hwf⟩,.int _ n,trivial⟩
    .cases h
   case h_3 hu =>
    cases ht;unfold DataW.trod at h;split at h<;>rename_i heq<;>first|(rw[hu]at heq;cases heq;done)|(cases h;done)|skip
    rename_i s;split at h
    .rename_i hs;refine⟨[.str s.data.toList],⟨_,rfl,by simpa using hs⟩,?_,trivial⟩;have:=IRel.str (M:=λ_=>False) (w:=w) s.data.toList;simpa using this
    .cases h
   case h_4 e hu =>
    split at ht
    case h_2=>cases ht
    rename_i a ha;split at ht
    case isFalse=>cases ht
    rename_i hsz;cases ht;unfold DataW.trod at h;split at h<;>rename_i heq<;>first|(rw[hu]at heq;cases heq;done)|(cases h;done)|skip
    .exact⟨[.nl],.inl rfl,.nl,trivial⟩
    .rename_i e1 ad len cap;rw[hu]at heq;cases heq;simp only at h;split at h
     case isFalse=>cases h
     rename_i hcap;simp only[pZ]at h;obtain⟨elems,hel,_⟩:=h;obtain⟨hlen,ae⟩:=vn hel;have hrow:∀i,i<len->∃row xs,w.cells? base (ad.add (i*P.cellsOf e)) (P.cellsOf e)=some row/\a.ok xs/\aR (IRel (λ_=>False) w) row xs:=λi hi=>by
      obtain⟨y,_,h2⟩:=ae i hi;simp only[pZ]at h2;obtain⟨row,h3,h4⟩:=h2;obtain⟨xs,h5,h6⟩:=ih f e row a y ha h4;exact⟨row,xs,h3,h5,h6⟩
     by_cases h0:len=0
     .subst h0;exact⟨[.sl a.n []],.inr ⟨[],rfl,cR _,λr hr=>by cases hr⟩,.sl0 _ _ _,trivial⟩
     have hn:0<P.cellsOf e:=by omega
     have hcell:∀i j,i<len->j<P.cellsOf e->∀row,w.cells? base (ad.add (i*P.cellsOf e)) (P.cellsOf e)=some row->∃y,row[j]?=some y/\w.cell? ((ad.add (i*P.cellsOf e)).add j)=some y:=λi j hi hj row hr=>(C9 hr).2 j hj;obtain⟨row0,xs0,r1,_,_⟩:=hrow 0 (by omega);obtain⟨y0,_,c0⟩:=hcell 0 0 (by omega) hn row0 r1;obtain⟨hspot,c,tt,fr,hb,_⟩:=AF c0;have hspot':ad.spot=none:=by simpa[Addr.add]using hspot
     have hblk:∀(q:Addr) m,(q.add m).block=q.block:=λq m=>by unfold Addr.add;split<;>rfl
     have hoff:∀(q:Addr) m,(q.add m).off=q.off+m:=λq m=>by
      unfold Addr.add;split
      .rename_i hm;simp[hm]
      .rfl
     rw[hblk,hblk]at hb;have hval:∀i j,i<len->j<P.cellsOf e->∀row,w.cells? base (ad.add (i*P.cellsOf e)) (P.cellsOf e)=some row->∃y,row[j]?=some y/\c[ad.off+i*P.cellsOf e+j]?=some y:=λi j hi hj row hr=>by
      obtain⟨y,g1,g2⟩:=hcell i j hi hj row hr;obtain⟨_,c',t',fr',g3,g4⟩:=AF g2;rw[hblk,hblk,hb]at g3;cases g3;rw[hoff,hoff]at g4;exact⟨y,g1,g4⟩
     let R:Nat->List Value:=λi=>if hi:i<len then Classical.choose (hrow i hi)else[]
     let X:Nat->List AV:=λi=>if hi:i<len then Classical.choose (Classical.choose_spec (hrow i hi))else[]
     have hRX:∀i,i<len->w.cells? base (ad.add (i*P.cellsOf e)) (P.cellsOf e)=some (R i)/\a.ok (X i)/\aR (IRel (λ_=>False) w) (R i) (X i):=λi hi=>by
      have:=Classical.choose_spec (Classical.choose_spec (hrow i hi));simp only[R,X,hi,dif_pos];exact this
     have hrows:∀(i:Nat)(r:List AV),((List.range len).map X)[i]?=some r->i<len/\r=X i:=λi r hr=>by
      simp only[fR,dc]at hr;obtain⟨j,h1,h2⟩:=hr;have h3:=gW.1 h1;obtain⟨h4,h5⟩:=h3;simp at h4 h5;subst h5;exact⟨h4,h2.symm⟩
     refine⟨[.sl a.n ((List.range len).map X)],.inr ⟨_,rfl,by simp;omega,λr hr=>?_⟩,?_,trivial⟩
     .obtain⟨i,hi,rfl⟩:=dN.1 hr;exact(hRX i (by simpa using hi)).2.1
     .obtain⟨bk,of,so⟩:=ad;simp only at hspot';subst hspot';have hll:((List.range len).map X).length=len:=by simp
      have key:=IRel.sl (M:=λ_=>False) (w:=w) bk of cap a.n c tt fr ((List.range len).map X) (λi j=>(R i).getD j undef) hb (λh=>h) (by rw[hll];omega)
       (λi r hr=>by obtain⟨h1,rfl⟩:=hrows i r hr;exact Ty.ok_len _ _ (hRX i h1).2.1)
       (λi j hi hj=>by
        rw[hll]at hi;rw[hsz.1]at hj⊢;obtain⟨y,g1,g2⟩:=hval i j hi hj _ (hRX i hi).1;rw[g2,List.getD_eq_getElem?_getD,g1];rfl)
       (λi j r x hr hx=>by
        obtain⟨h1,rfl⟩:=hrows i r hr;obtain⟨y,g1,g2⟩:=(hRX i h1).2.2.get hx;rw[List.getD_eq_getElem?_getD,g1];exact g2)
      rw[hll]at key;exact key
   case h_5 fs hu =>
    split at ht
    case h_2=>cases ht
    rename_i a ha;split at ht
    case isFalse=>cases ht
    rename_i hsz;cases ht;unfold DataW.trod at h;split at h<;>rename_i heq<;>first|(rw[hu]at heq;cases heq;done)|(cases h;done)|skip
    .rename_i cs1 fs1;rw[hu]at heq;cases heq;split at h
     case isFalse=>cases h
     rename_i hcl;simp only[dc]at h;obtain⟨xs,h1,_⟩:=h;have:=Di (P:=P) (g:=tR P f) (r:=λt cs=>DataW.trod enc P w base sp held fuel t cs) (λt cs τ x=>ih f t cs τ x) _ _ 0 _ xs ha h1 (by omega);simpa using this
   case h_6=>cases ht
end
open Go.ChangeShapes Go.WideShapes Go.ChangeAt Go.RowKit
section
variable{H:Type}{enc:TypeId×Value->H}{P:Program}[ba P]
structure FM(w w':World):Prop where
 size:w.heap.size<=w'.heap.size
 old:∀b,b<w.heap.size->w'.heap[b]? = w.heap[b]?
 os:w'.os=w.os
 out:w'.output=w.output
def IRel.toV{bl:Nat->Option Nat}{M:Nat->Prop}{w:World}{v:Value}{x:AV}(h:IRel M w v x):aY bl M w v x:=h.toC.toG.toV
def FM.frame{w w':World}(h:FM w w')(may:MemPlace->Prop):w.keptBut w' may:=by
 refine⟨h.os,h.out,λi hi=>?_⟩;rw[h.old i hi];cases ho:w.heap[i]? with
 | none=>rfl
 | some o =>
  cases o with
  | cells c t fr=>exact⟨rfl,rfl,rfl,λ_ _=>rfl⟩
  | map es clock=>exact .inr ⟨rfl,rfl⟩
  | _=>rfl
def FM.frozen{w w':World}(h:FM w w'){a:Addr}(ha:a.block<w.heap.size):w'.frozen? a=w.frozen? a:=World.frozen?_of_block (w:=w) (h.old a.block ha)
def FM.same{w w':World}(h:FM w w'){p:MemPlace}(hp:p.block<w.heap.size):w.sameAt w' p:=by
 cases p with
 | cell b off=>exact World.cell?_of_block (w:=w) (h.old b hp)
 | map b=>exact h.old b hp
def uP(hl:laidOutB P=true){W W':World}{sp:Nat->Bool}:∀{ts:List TypeId}{vs:List Value}{ds:List (DataW H)}{ps:List MemPlace},(∀t∈ts,P.readableRec t=true/\t<P.types.size) ->
  DataW.TrodAll enc P W 0 (λ_=>true) true ts vs ds ps->(∀p∈ps,W.sameAt W' p)->(∀p∈ps,sp p.block=true)->DataW.TrodAll enc P W' 0 sp true ts vs ds ps
 | [],[],[],ps,_,h,_,_=>h
 | t::ts,v::vs,d::ds,ps,hr,h,h1,h2=>by
  obtain⟨p,q,h3,h4,rfl⟩:=h
  exact⟨p,q,WideElems.Trod_stays hl (hr t (by simp)).1 (hr t (by simp)).2 h3 (λx hx=>h1 x (by simp[hx])) (λx hx=>h2 x (by simp[hx])),
   uP hl (λt ht=>hr t (by simp[ht])) h4 (λx hx=>h1 x (by simp[hx])) (λx hx=>h2 x (by simp[hx])),rfl⟩
 | [],_::_,_,_,_,h,_,_=>h.elim
 | [],[],_::_,_,_,h,_,_=>h.elim
 | _::_,[],_,_,_,h,_,_=>h.elim
 | _::_,_::_,[],_,_,h,_,_=>h.elim
def Ph{f:Func}{s:ChangeSpec}{apart fresh handsOn again:Bool}{W W':World}{args:Array Value}{ds gs:List (DataW H)}{before:List MemPlace}{tb:TypeId}(hl:laidOutB P=true)
  (hr:∀t∈f.params.toList,P.readableRec t=true/\t<P.types.size) (hv:s.vars=[]) (hfn:(s.fn H (ds++gs)).results=[.lit (.bool true)]) (hfa:(s.fn H (ds++gs)).args=ds) (hfv:(s.fn H (ds++gs)).vars=[])
  (hrt:f.resultTypes = #[tb]) (htb:P.underlying tb=some .bool) (hW:DataW.Whole enc P f.params.toList s.vars apart W args.toList ds gs before) (hk:FM W W') :
  s.post enc P f apart fresh handsOn again W args (.bool true) W':=by
 have hlt:=hW.lt;have hW0:=hW;obtain⟨p,q,hA,hV,rfl,hz,hn⟩:=hW0;rw[hv]at hV;obtain⟨rfl,rfl⟩:=trodVars_none hV;rw[lm]at *;have hsame:∀x∈p,W.sameAt W' x:=λx hx=>hk.same (by simpa using hlt x hx);have hargs:∀sp:Nat->Bool,(∀x∈p,sp x.block=true)->DataW.TrodAll enc P W' 0 sp true f.params.toList args.toList ds p:=λsp hsp=>uP hl hr hA hsame hsp;have hres:∀(b:Nat)(sp:Nat->Bool)(hd:Bool),DataW.TrodAll enc P W' b sp hd f.resultTypes.toList ((Value.bool true).resultList f.resultTypes.size) [.lit (.bool true)] []:=λb sp hd=>by
  rw[hrt];exact trodAll_cons_mk (shut_bool htb _) trodAll_mk0
 have hvars:∀sp:Nat->Bool,DataW.TrodVars enc P W' sp s.vars [] []:=λsp=>by rw[hv];rfl
 refine⟨ds,[],p,[],p,[],by simpa using hW,by rw[lm,hfn];exact hres _ _ _,by rw[lm,hfa];exact hargs _ (λx hx=>by simpa using hlt x (by simpa using hx)),by rw[lm,hfv];exact hvars _,hk.frame _,λ_=>?_⟩;refine⟨ok_one hrt rfl (okWide_bool_mk htb _),[.lit (.bool true)]++ds,[],p,⟨[]++p,[],trodAll_append (hargs _ (λ_ _=>rfl)) (hres _ _ _),hvars _,by simp,?_,?_⟩,λx hx _=>hx⟩
 .intro b off hp;have hb:b<W.heap.size:=hlt (.cell b off) (by simpa using hp);have:=hz b off (by simpa using hp);rw[hk.frozen (a:=⟨b,off,none⟩) hb];exact this
 .intro ha;simpa using hn ha
end
def Ty.isRec:Ty->Bool
 | .nil=>true
 | .cons _ _=>true
 | _=>false
def Ty.okV(τ:Ty)(x:AV):Prop:=match τ.isRec with
 | true=>∃xs,x = .agg xs/\τ.ok xs
 | false=>τ.ok [x]
section
variable{H:Type}{enc:TypeId×Value->H}{P:Program}[ba P]{w:World}{base:Nat}{sp:Nat->Bool}{held:Bool}
def Jd{g:TypeId->Option Ty}:∀{fs:List Field}{off:Nat}{τ:Ty},BY g P off fs=some τ->τ.isRec=true
 | [],off,τ,h=>by simp only[BY,cI]at h;subst h;rfl
 | f::fs,off,τ,h=>by
  simp only[BY]at h;split at h
  case isFalse=>cases h
  split at h
  case h_2=>cases h
  split at h
  case isFalse=>cases h
  cases h;rfl
def Hi{f:FuncId}{args:List AV}{r:Bool}(hp:ah P f args (.bool r)){w:World}{cargs:List Value}(hT:(ba.T P).H w)(ha:aR (aY (λ_=>none) (λ_=>False) w) cargs args) :
  Calls P f cargs.toArray w λe w'=>e = .returned (.bool r)/\FM w w':=by
 have hM:bz (λ_=>none) (λ_=>False) (ae [])=λ_=>False:=by
  funext b;apply propext;constructor
  .rintro(h|⟨i,o,h,_⟩)
   .exact h
   .simp[ae]at h
  .exact False.elim
 refine(hp (λ_=>none) (λ_=>False) w cargs hT (λ_ _ hm=>hm.elim id λ⟨_,_,hi,_⟩=>by simp[ae]at hi) ⟨λi o h=>by simp[ae]at h,λi _ o _ _ h=>by simp[ae]at h⟩ (λ_ h=>h.elim) (by rw[hM];exact ha)).mono λe w'=>?_;rintro⟨v,r',σ',bl',rfl,⟨rfl,rfl⟩,_,_,hv,hst,_,_⟩;have hv':=hv.bool;subst hv';exact⟨rfl,hst.size,λb hb=>hst.keep b hb (λ⟨i,o,h,_⟩=>by simp[ae]at h),hst.os,hst.out⟩
end
def fw:List (Nat×Nat)->Nat->Nat
 | [],i=>i
 | (a,b)::r,i=>fw r (wy a b i)
def bw:List (Nat×Nat)->Nat->Nat
 | [],i=>i
 | (a,b)::r,i=>wy a b (bw r i)
def C5:∀(ps:List (Nat×Nat))(i:Nat),bw ps (fw ps i)=i
 | [],_=>rfl
 | (a,b)::r,i=>by simp only[fw,bw,C5 r,s5]
def Gj:∀(ps:List (Nat×Nat))(i:Nat),fw ps (bw ps i)=i
 | [],_=>rfl
 | (a,b)::r,i=>by simp only[fw,bw,s5,Gj r]
def jW:List Nat->List (Nat×AV)->List (Nat×AV)
 | [],e=>e
 | k::ks,e=>vF k (jW ks e)
def jX:List Nat->List (Nat×aj)->List (Nat×aj)
 | [],e=>e
 | k::ks,e=>vG k (jX ks e)
def L1(e:List (Nat×AV)):jW [] e=e:=rfl
def IT(k:Nat)(ks:List Nat)(e:List (Nat×AV)):jW (k::ks) e=vF k (jW ks e):=rfl
def L2(e:List (Nat×aj)):jX [] e=e:=rfl
def IU(k:Nat)(ks:List Nat)(e:List (Nat×aj)):jX (k::ks) e=vG k (jX ks e):=rfl
attribute[go_sem] L1 IT L2 IU
def OK(a b:Bool)(x:AV)(p:AV->Bool)(hp:p .any=false)(hx:p x=a):(if p (if b=true then .any else x)=true then AV.any else(if b=true then .any else x))=if(a||b)=true then .any else x:=by
 cases b<;>cases a<;>simp_all
def Zs(k:Nat)(ks:List Nat)(x:AV):i_ k (nU ks x)=nU (k::ks) x:=by
 have:=OK (mV k x) (ks.any λi=>mV i x) x (mV k) rfl rfl;exact this
def Zk(k:Nat)(ks:List Nat)(x:AV):oA k (uK ks x)=uK (k::ks) x:=by
 have:=OK (mC k x) (ks.any λi=>mC i x) x (mC k) rfl rfl;exact this
def Zp(k:Nat)(ks:List Nat)(o:aj):ee k (ig ks o)=ig (k::ks) o:=by
 unfold ee ig;by_cases h:o.isRec=true
 .simp only[h,dP,List.map_map];congr 1;funext;apply yQ;intro r _;simp only[Function.comp,List.map_map];apply yQ;intro x _;exact Zk k ks x;rw[aF h]
 .simp[h]
def yl(k:Nat):∀(ks:List Nat)(e:List (Nat×AV)),get (jW ks e) k=nU ks (get e k)
 | [],e=>by simp[jW,nU]
 | i::ks,e=>by rw[jW,jK,yl k ks,Zs]
def vi(k:Nat):∀(ks:List Nat)(e:List (Nat×aj)),ae (jX ks e) k=(ae e k).map (ig ks)
 | [],e=>by
  have:ig []=id:=by
   funext o;unfold ig uK;simp
  simp[jX,this]
 | i::ks,e=>by
  rw[jX,fU,vi k ks,Option.map_map];congr 1;funext o;exact Zp i ks o
def m3(j:Nat):∀(a b:List (Nat×aj)),ae (a++b) j=match ae a j with
  | some o=>some o
  | none=>ae b j
 | [],b=>rfl
 | (k,o)::r,b=>by
  simp only[tU,ae];split
  .rfl
  .exact m3 j r b
section
variable{P:Program}[ba P]
def ey{f:FuncId}{args0 args:List AV}{σ0 σ2 σ1 σ3:List (Nat×aj)}{Sb:Nat->Prop}{r1 r3:AV}{d:Option Nat}{s:St}{K:St->Prop}
  (h:aZ P f args0 σ0 Sb (λr σ'=>r=r1/\σ'=σ1)) (ps:List (Nat×Nat)) (ks:List Nat)
  (ha:args.map (lB (bw ps))=args0) (hσ:lh (bw ps) σ2=σ0) (hr:lB (fw ps) r1=r3) (h3:lh (fw ps) σ1=σ3)
  (hin:∀p∈σ2,ae s.heap p.1=some p.2)
  (hout:∀p∈σ3,(Sb (bw ps p.1)/\(ae σ2 p.1).isSome=true)\/(p.1∈ks/\(p.1<1000\/2000<=p.1)/\((ae σ2 p.1).isSome=true\/ae s.heap p.1=none)))
  (hall:∀p∈σ2,(ae σ3 p.1).isSome=true)
  (hk:K ((St.mk (jW ks s.env) (σ3++jX ks s.heap)).put d r3)):cB P f args d s K:=by
 have h':=h.ren (args2:=args) (σ2:=σ2) (fw ps) (bw ps) (C5 ps) (Gj ps) ha hσ;refine .inl (.inr ⟨σ2,_,_,ks,h',λid o hh=>hin (id,o) (fN hh),?_,?_⟩)
 .rintro r σ' ⟨r0,σ4,⟨rfl,rfl⟩,rfl,rfl⟩ id hid;rw[h3]at hid;obtain⟨o,ho⟩:=FC.1 hid;exact hout (id,o) (fN ho)
 .rintro r σ' ⟨r0,σ4,⟨rfl,rfl⟩,rfl,rfl⟩;rw[hr,h3];refine⟨⟨jW ks s.env,σ3++jX ks s.heap⟩,λk=>yl k ks s.env,λj=>?_,hk⟩;simp only[m3,HT];cases hn:ae σ3 j with
  | some o=>rfl
  | none =>
   simp only;by_cases h2:(ae σ2 j).isSome=true
   .obtain⟨o,ho⟩:=FC.1 h2;have:=hall (j,o) (fN ho);simp only at this;rw[hn]at this;cases this
   .rw[ax h2,vi]
def gz{f:FuncId}{args:List AV}{σ0 σ1:List (Nat×aj)}{Sb:Nat->Prop}{r1:AV}{d:Option Nat}{s:St}{K:St->Prop}
  (h:aZ P f args σ0 Sb (λr σ'=>r=r1/\σ'=σ1)) (ks:List Nat)
  (hin:∀p∈σ0,ae s.heap p.1=some p.2)
  (hout:∀p∈σ1,(Sb p.1/\(ae σ0 p.1).isSome=true)\/(p.1∈ks/\(p.1<1000\/2000<=p.1)/\((ae σ0 p.1).isSome=true\/ae s.heap p.1=none)))
  (hall:∀p∈σ0,(ae σ1 p.1).isSome=true)
  (hk:K ((St.mk (jW ks s.env) (σ1++jX ks s.heap)).put d r1)):cB P f args d s K:=by
 refine .inl (.inr ⟨σ0,_,_,ks,h,λid o hh=>hin (id,o) (fN hh),?_,?_⟩)
 .rintro r σ' ⟨rfl,rfl⟩ id hid;obtain⟨o,ho⟩:=FC.1 hid;exact hout (id,o) (fN ho)
 .rintro r σ' ⟨rfl,rfl⟩;refine⟨⟨jW ks s.env,σ'++jX ks s.heap⟩,λk=>yl k ks s.env,λj=>?_,hk⟩;simp only[m3,HT];cases hn:ae σ' j with
  | some o=>rfl
  | none =>
   simp only;by_cases h2:(ae σ0 j).isSome=true
   .obtain⟨o,ho⟩:=FC.1 h2;have:=hall (j,o) (fN ho);simp only at this;rw[hn]at this;cases this
   .rw[ax h2,vi]
def Xk{f:FuncId}{args:List AV}{k:Nat}{ob ob':aj}{Sb:Nat->Prop}{r:AV}{d:Option Nat}{s:St}{K:St->Prop}
  (h:aZ P f args [(k,ob)] Sb (λr' σ'=>r'=r/\σ'=[(k,ob')])) (hs:Sb k) (hk:ae s.heap k=some ob) (hK:K ((St.mk s.env ((k,ob')::s.heap)).put d r)):cB P f args d s K:=by
 refine gz h [] (λp hp=>?_) (λp hp=>?_) (λp hp=>?_) (by simpa only[jW,jX,tU,iD]using hK)
 .simp only[eF]at hp;subst hp;exact hk
 .simp only[eF]at hp;subst hp;exact .inl ⟨hs,by simp[ae]⟩
 .simp only[eF]at hp;subst hp;simp[ae]
def Mh(ρ:Nat->Nat)(x:AV)(hx:gE x=[]):yI ρ x=x:=by cases x<;>first|rfl|(simp[gE]at hx)
def pj{ρ:Nat->Nat}{f:AV->List Nat}{r:AV->AV}(hh:∀x,f x=[]->r x=x):∀l:List AV,l.flatMap f=[]->l.map r=l
 | [],_=>rfl
 | y::l,hl=>by
  simp only[jd,List.append_eq_nil_iff]at hl;simp only[bY,hh y hl.1,pj (ρ:=ρ) hh l hl.2]
def yJ(ρ:Nat->Nat)(x:AV)(hx:fM x=[]):xB ρ x=x:=by
 cases x with
 | fn f caps=>simp only[xB,pj (ρ:=ρ) (Mh ρ) caps hx]
 | _=>first|rfl|(simp[fM,gE]at hx)
def yK(ρ:Nat->Nat)(x:AV)(hx:jp x=[]):zT ρ x=x:=by
 cases x with
 | agg cells=>simp only[zT,pj (ρ:=ρ) (yJ ρ) cells hx]
 | fn f caps=>exact yJ ρ (.fn f caps) hx
 | _=>first|rfl|(simp[jp,fM,gE]at hx)
def DI(ρ:Nat->Nat)(x:AV)(hx:aI x=[]):lB ρ x=x:=by
 cases x with
 | tup vs=>simp only[lB,pj (ρ:=ρ) (yK ρ) vs hx]
 | agg cells=>exact yK ρ (.agg cells) hx
 | fn f caps=>exact yK ρ (.fn f caps) hx
 | _=>first|rfl|(simp[aI,jp,fM,gE]at hx)
def sX(ρ:Nat->Nat)(o:aj)(hx:dZ o=[]):nq ρ o=o:=by
 unfold nq;split
 .rename_i hr;have:∀rows:List (List AV),rows.flatMap (λr=>r.flatMap fM)=[]->rows.map (λr=>r.map (xB ρ))=rows:=λrows=>by
   induction rows with
   | nil=>exact λ_=>rfl
   | cons r l ih =>
    intro hl;simp only[jd,List.append_eq_nil_iff]at hl;simp only[bY,ih hl.2,pj (ρ:=ρ) (yJ ρ) r hl.1]
  simp only[dZ,hr,dP]at hx;rw[this _ hx]
 .rfl
def BK(ρ:Nat->Nat):∀l:List AV,(∀x∈l,aI x=[])->l.map (lB ρ)=l
 | [],_=>rfl
 | x::l,h=>by simp only[bY,DI ρ x (h x (by simp)),BK ρ l λy hy=>h y (by simp[hy])]
def aZ.at_{f:FuncId}{st:Nat}{rest:List AV}{ob ob':aj}{Sb:Nat->Prop}{r:AV}(h:aZ P f (.mp 1000 st 0 0::rest) [(1000,ob)] Sb (λr' σ'=>r'=r/\σ'=[(1000,ob')]))
  (hr:aI r=[]) (hrest:∀x∈rest,aI x=[]) (ho:dZ ob=[]) (ho':dZ ob'=[]) (j:Nat) :
  aZ P f (.mp j st 0 0::rest) [(j,ob)] (λid=>Sb (wy 1000 j id)) (λr' σ'=>r'=r/\σ'=[(j,ob')]):=by
 have e1:wy 1000 j 1000=j:=by simp[wy]
 have e2:wy 1000 j j=1000:=by unfold wy;split<;>simp_all
 refine(h.ren (args2:=.mp j st 0 0::rest) (σ2:=[(j,ob)]) (wy 1000 j) (wy 1000 j) (s5 _ _) (s5 _ _) ?_ ?_).mono (λ_ h=>h) ?_
 .simp only[bY,BK _ rest hrest,lB,zT,xB,yI,e2]
 .simp only[lh,e2,sX _ ob ho]
 .rintro r' σ' ⟨r0,σ0,⟨rfl,rfl⟩,rfl,rfl⟩;exact⟨DI _ _ hr,by simp only[lh,e1,sX _ ob' ho']⟩
def aax{Sb:Nat->Prop}(j:Nat)(h:Sb 1000):(λid=>Sb (wy 1000 j id)) j:=by
 show Sb (wy 1000 j j);have e2:wy 1000 j j=1000:=by unfold wy;split<;>simp_all
 rw[e2];exact h
def NQ{f:FuncId}{st:Nat}{rest:List AV}{ob ob':aj}{Sb:Nat->Prop}{r:AV}{j:Nat}{d:Option Nat}{s:St}{K:St->Prop}(h:aZ P f (.mp 1000 st 0 0::rest) [(1000,ob)] Sb (λr' σ'=>r'=r/\σ'=[(1000,ob')]))
  (hs:Sb 1000) (hr:aI r=[]) (hrest:∀x∈rest,aI x=[]) (ho:dZ ob=[]) (ho':dZ ob'=[]) (hk:ae s.heap j=some ob) (hK:K ((St.mk s.env ((j,ob')::s.heap)).put d r)):cB P f (.mp j st 0 0::rest) d s K :=
 Xk (h.at_ hr hrest ho ho' j) (aax j hs) hk hK
def pF{f:FuncId}{st:Nat}{rest:List AV}{ob ob':aj}{Sb:Nat->Prop}{r:AV}{j:Nat}{d:Option Nat}{s:St}{K:St->Prop}(h:aZ P f (.mp 1000 st 0 0::rest) [(1000,ob)] Sb (λr' σ'=>r'=r/\σ'=[(1000,ob')]))
  (hK:K ((St.mk s.env ((j,ob')::s.heap)).put d r)) (hs:Sb 1000:=by exact⟨by decide,by decide⟩) (hr:aI r=[]:=by first|rfl|exact bv _) (hrest:∀x∈rest,aI x=[]:=by simp[go_sem]) (ho:dZ ob=[]:=by exact rfl) (ho':dZ ob'=[]:=by exact rfl)
  (hk:ae s.heap j=some ob:=by rfl):cB P f (.mp j st 0 0::rest) d s K:=NQ h hs hr hrest ho ho' hk hK
def dT{f:FuncId}{st:Nat}{rest:List AV}{ob ob':aj}{Sb:Nat->Prop}{r:AV}{j:Nat}{d:Option Nat}{s:St}{K:St->Prop}{Q:Prop}(h:aZ P f (.mp 1000 st 0 0::rest) [(1000,ob)] Sb (λr' σ'=>r'=r/\σ'=[(1000,ob')]))
  (hk':Q) (hq:K ((St.mk s.env ((j,ob')::s.heap)).put d r)=Q:=by conv=>lhs;simp only[go_sem]) (hs:Sb 1000:=by exact⟨by decide,by decide⟩) (hr:aI r=[]:=by first|rfl|exact bv _) (hrest:∀x∈rest,aI x=[]:=by simp[go_sem]) (ho:dZ ob=[]:=by exact rfl) (ho':dZ ob'=[]:=by exact rfl)
  (hk:ae s.heap j=some ob:=by rfl):cB P f (.mp j st 0 0::rest) d s K:=NQ h hs hr hrest ho ho' hk (hq.mpr hk')
def La{al:List (Nat×Nat)}{f:FuncId}{args:List AV}{i j:Nat}{bf:List Nat}{op:lR}{hist:List HI}{s:St}{K:List HI->St->Prop}{Sb:Nat->Prop}{id st off len:Nat}{o:aj}(h:aZ P f args [] Sb (λr σ'=>r = .ms id st off len/\σ'=[(id,o)]))(ho:o.isRec=false)(hargs:∀x∈args,aI x=[])
  (hK:dF op s .no=true/\fY bf ⟨i,bU op s.env,[j],[j],false,false⟩ hist=true/\qF al bf ⟨i,bU op s.env,[j],[j],false,false⟩=true/\K (⟨i,bU op s.env,[j],[j],false,false⟩::hist) ((s.eff (.new j o)).put (some j) (.ms j st off len))):Ir P al f args i bf op (some j) hist s K :=
 .inr (.inr ⟨j,o,st,off,len,_,rfl,ho,h.fresh ho hargs j,hK⟩)
end
def Wk.new0(s:St)(i st:Nat)(t:TypeId)(hid:i<1000\/2000<=i):Wk s ⟨(s.kill i).env,(i,⟨t,st,[],false⟩)::(s.kill i).heap⟩:=by
 intro c a w hs;obtain⟨bl,hs⟩:=hs.kill i;obtain⟨h1,h2⟩:=cX s i;have hn:=hs.new0 (i:=i) (o:=⟨t,st,[],false⟩) h1 h2 hid rfl rfl;refine⟨_,hn.congr (λ_=>rfl) (λj=>?_)⟩;simp only[ae,dQ];by_cases h:i=j
 .rw[aF h,aF h.symm]
 .rw[ax h,ax (Ne.symm h)]
def nlm:List AV->List AV->Prop
 | [],[]=>True
 | x::l,y::m=>(x=y\/(x = .nl/\((∃st,y = .sl st [])\/∃id st,y = .ms id st 0 0)))/\nlm l m
 | _,_=>False
def EZ:∀{l m:List AV},nlm l m->m.length=l.length
 | [],[],_=>rfl
 | _::_,_::_,h=>by simp[EZ h.2]
 | [],_::_,h=>h.elim
 | _::_,[],h=>h.elim
def EY:∀{l m:List AV},nlm l m->∀{j:Nat}{y:AV},m[j]?=some y->∃x,l[j]?=some x/\(x=y\/(x = .nl/\((∃st,y = .sl st [])\/∃id st,y = .ms id st 0 0)))
 | [],[],_,j,y,hy=>by simp at hy
 | x::l,z::m,h,0,y,hy=>by simp at hy;subst hy;exact⟨x,rfl,h.1⟩
 | x::l,z::m,h,j+1,y,hy=>by simpa using EY h.2 (j:=j) (by simpa using hy)
 | [],_::_,h,_,_,_=>h.elim
 | _::_,[],h,_,_,_=>h.elim
def Wk.nlm(s:St)(i:Nat){t:TypeId}{st:Nat}{r r':List AV}(hi:ae s.heap i=some ⟨t,st,[r],true⟩)(hr:Mw.nlm r r'):Wk s ⟨s.env,(i,⟨t,st,[r'],true⟩)::s.heap⟩:=by
 rintro c a w ⟨bl,hs⟩;have hm:∀b,bz bl c.MF (ae ((i,⟨t,st,[r'],true⟩)::s.heap)) b↔bz bl c.MF (ae s.heap) b:=bz.congr λj=>by
  simp only[ae];split
  .rename_i h;subst h;rw[hi];rfl
  .rfl
 have ht:=Tr.of_iff (w:=w) λb=>(hm b)
 refine⟨bl,hs.defers,hs.size,λj=>(hs.env j).tr ht (λ_ _=>rfl),⟨λj o hj=>?_,λj j' o o' b h1 h2=>?_⟩,hs.step,λj o b h1=>?_,hs.stab,hs.mf⟩
 .simp only[ae]at hj;split at hj
  .rename_i hij;subst hij;cases hj;rcases hs.heap.1 i _ hi with hn|⟨b,g1,⟨gk,c1,fr,g2,g3,g4,g5,g6,g7⟩|hsp⟩
   .cases hn.2.1
   rotate_left
   .cases hsp.isRec
   .refine .inr ⟨b,g1,.inl ⟨gk,c1,fr,g2,g3,g4,λk q hq=>?_,by simpa using g6,λk q u x hu hx=>?_⟩⟩
    .cases k with
     | zero=>simp at hq;subst hq;rw[EZ hr];exact g5 0 r rfl
     | succ k=>simp at hq
    .cases k with
     | succ k=>simp at hu
     | zero =>
      simp at hu;subst hu;obtain⟨x0,h1,h2⟩:=EY hr hx;obtain⟨v,hv1,hv2⟩:=g7 0 q r x0 rfl h1;refine⟨v,hv1,?_⟩;have hv3:bV bl (bz bl c.MF (ae s.heap)) w v x0:=hv2;rcases h2 with h2|⟨h2,⟨st',h3⟩|⟨id,st',h3⟩⟩
      .subst h2;exact hv3.tr ht (λ_ _=>rfl)
      .subst h2 h3;have:IRel (bz bl c.MF (ae s.heap)) w v .nl:=hv3;exact(IRel.toC (bl:=bl) (IRel.nl_sl this st')).tr ht (λ_ _=>rfl)
      .subst h2 h3;have:IRel (bz bl c.MF (ae s.heap)) w v .nl:=hv3;cases this;exact .inl ⟨rfl,rfl,rfl⟩
  .rcases hs.heap.1 j o hj with hn|⟨b,g1,⟨gk,c1,fr,g2,g3,g4,g5,g6,g7⟩|hsp⟩
   .exact .inl hn
   rotate_left
   .exact .inr ⟨b,g1,.inr (hsp.tr rfl ht.keep)⟩
   .refine .inr ⟨b,g1,.inl ⟨gk,c1,fr,g2,g3,g4,g5,g6,λk q u x hu hx=>?_⟩⟩;obtain⟨v,hv1,hv2⟩:=g7 k q u x hu hx;refine⟨v,hv1,?_⟩;cases hrec:o.isRec<;>simp only[hrec,jE]at hv2⊢
    .exact hv2.tr ht.keep
    .exact hv2.tr ht (λ_ _=>rfl)
 .have key:∀{j:Nat}{o:aj},ae ((i,⟨t,st,[r'],true⟩)::s.heap) j=some o->∃o',ae s.heap j=some o':=λ{j o} hj=>by
   simp only[ae]at hj;split at hj
   .rename_i hij;subst hij;exact⟨_,hi⟩
   .exact⟨_,hj⟩
  obtain⟨p1,q1⟩:=key h1;obtain⟨p2,q2⟩:=key h2;exact hs.heap.2 j j' p1 p2 b q1 q2
 .simp only[ae]at h1;split at h1
  .rename_i hij;subst hij;exact hs.own i _ b hi
  .exact hs.own j o b h1
section
variable{P:Program}[ba P]
end
def eZ.trans{s s' s'':St}{l l' l'':List AV}(h:eZ s l s' l')(h':eZ s' l' s'' l''):eZ s l s'' l'':=λc a w bl vs h1 h2=>by
 obtain⟨bl',h3,h4⟩:=h c a w bl vs h1 h2;exact h' c a w bl' vs h3 h4
def eZ.frzs(fs:List Nat)(s:St)(l:List AV):eZ s l (Mw.frzs fs s) (l.map (rN fs s)):=λc a w bl vs h1 h2=>by
 obtain⟨h3,h4⟩:=aH.frzs fs s h1;exact⟨bl,h3,h2.mapRight λv x hv=>h4 v x hv⟩
def nla(x y:AV):Prop:=x=y\/(x = .nl/\∃st,y = .sl st [])\/∃l m,x = .agg l/\y = .agg m/\Wj l m
def Kc{bl:Nat->Option Nat}{M:Nat->Prop}{w:World}:∀{vs:List Value}{l m:List AV},Wj l m->aR (bV bl M w) vs l->aR (bV bl M w) vs m
 | [],[],[],_,_=>trivial
 | v::vs,x::l,y::m,h,hr=>by
  refine⟨?_,Kc h.2 hr.2⟩;rcases h.1 with rfl|⟨rfl,st,rfl⟩
  .exact hr.1
  .exact IRel.nl_sl (show IRel M w v .nl from hr.1) st
 | [],[],_::_,h,_=>h.elim
 | [],_::_,_,_,hr=>hr.elim
 | _::_,[],_,_,hr=>hr.elim
 | _::_,_::_,[],h,_=>h.elim
def EX{bl:Nat->Option Nat}{M:Nat->Prop}{w:World}{v:Value}{x y:AV}(h:nla x y)(hr:aY bl M w v x):aY bl M w v y:=by
 rcases h with rfl|⟨rfl,st,rfl⟩|⟨l,m,rfl,rfl,h⟩
 .exact hr
 .exact IRel.nl_sl (show IRel M w v .nl from hr) st
 .obtain⟨cs,h1,h2⟩:=hr;exact⟨cs,h1,Kc h h2⟩
def G7{bl:Nat->Option Nat}{M:Nat->Prop}{w:World}:∀{vs:List Value}{l m:List AV},aR nla l m->aR (aY bl M w) vs l->aR (aY bl M w) vs m
 | [],[],[],_,_=>trivial
 | v::vs,x::l,y::m,h,hr=>⟨EX h.1 hr.1,G7 h.2 hr.2⟩
 | [],[],_::_,h,_=>h.elim
 | [],_::_,_,_,hr=>hr.elim
 | _::_,[],_,_,hr=>hr.elim
 | _::_,_::_,[],h,_=>h.elim
def eZ.nla{s:St}{l m:List AV}(h:aR Mw.nla l m):eZ s l s m:=λc a w bl vs h1 h2=>⟨bl,h1,G7 h h2⟩
section
variable{P:Program}[ba P]
def bA{f:FuncId}{args args':List AV}{d:Option Nat}{s s':St}{K:St->Prop}(hw:eZ s args s' args')(h:cB P f args' d s' K):cB P f args d s K:=by
 rcases h with h|⟨fs,h⟩|⟨s'',args'',hw',h⟩
 .exact .inr (.inr ⟨s',args',hw,h⟩)
 .exact .inr (.inr ⟨_,_,hw.trans (eZ.frzs fs s' args'),h⟩)
 .exact .inr (.inr ⟨s'',args'',hw.trans hw',h⟩)
def jG{f:FuncId}{args:List AV}(args':List AV){d:Option Nat}{s:St}{K:St->Prop}(hw:aR nla args args')(h:cB P f args' d s K):cB P f args d s K:=bA (eZ.nla hw) h
end
def ab{x y:Int}(h:¬x=y):(x==y)=false:=by simpa using h
def aK{x y:Int}(h:x=y):(x==y)=true:=by simpa using h
def aG{x y:Int}(h:¬x=y):(x != y)=true:=by simpa using h
def ar{x y:Int}(h:x=y):(x != y)=false:=by simpa using h
def aH.nlm{c:qL}{bl:Nat->Option Nat}{a:Act}{w:World}{s:St}(hs:aH c bl (get s.env) (ae s.heap) a w)(i:Nat){t:TypeId}{st:Nat}{r r':List AV}(hi:ae s.heap i=some ⟨t,st,[r],true⟩)(hr:Mw.nlm r r') :
  aH c bl (get s.env) (ae ((i,⟨t,st,[r'],true⟩)::s.heap)) a w/\∀b,bz bl c.MF (ae ((i,⟨t,st,[r'],true⟩)::s.heap)) b↔bz bl c.MF (ae s.heap) b:=by
 have hm:∀b,bz bl c.MF (ae ((i,⟨t,st,[r'],true⟩)::s.heap)) b↔bz bl c.MF (ae s.heap) b:=bz.congr λj=>by
  simp only[ae];split
  .rename_i h;subst h;rw[hi];rfl
  .rfl
 have ht:=Tr.of_iff (w:=w) λb=>(hm b)
 refine⟨⟨hs.defers,hs.size,λj=>(hs.env j).tr ht (λ_ _=>rfl),⟨λj o hj=>?_,λj j' o o' b h1 h2=>?_⟩,hs.step,λj o b h1=>?_,hs.stab,hs.mf⟩,hm⟩
 .simp only[ae]at hj;split at hj
  .rename_i hij;subst hij;cases hj;rcases hs.heap.1 i _ hi with hn|⟨b,g1,⟨gk,c1,fr,g2,g3,g4,g5,g6,g7⟩|hsp⟩
   .cases hn.2.1
   rotate_left
   .cases hsp.isRec
   .refine .inr ⟨b,g1,.inl ⟨gk,c1,fr,g2,g3,g4,λk q hq=>?_,by simpa using g6,λk q u x hu hx=>?_⟩⟩
    .cases k with
     | zero=>simp at hq;subst hq;rw[EZ hr];exact g5 0 r rfl
     | succ k=>simp at hq
    .cases k with
     | succ k=>simp at hu
     | zero =>
      simp at hu;subst hu;obtain⟨x0,h1,h2⟩:=EY hr hx;obtain⟨v,hv1,hv2⟩:=g7 0 q r x0 rfl h1;refine⟨v,hv1,?_⟩;have hv3:bV bl (bz bl c.MF (ae s.heap)) w v x0:=hv2;rcases h2 with h2|⟨h2,⟨st',h3⟩|⟨id,st',h3⟩⟩
      .subst h2;exact hv3.tr ht (λ_ _=>rfl)
      .subst h2 h3;have:IRel (bz bl c.MF (ae s.heap)) w v .nl:=hv3;exact(IRel.toC (bl:=bl) (IRel.nl_sl this st')).tr ht (λ_ _=>rfl)
      .subst h2 h3;have:IRel (bz bl c.MF (ae s.heap)) w v .nl:=hv3;cases this;exact .inl ⟨rfl,rfl,rfl⟩
  .rcases hs.heap.1 j o hj with hn|⟨b,g1,⟨gk,c1,fr,g2,g3,g4,g5,g6,g7⟩|hsp⟩
   .exact .inl hn
   rotate_left
   .exact .inr ⟨b,g1,.inr (hsp.tr rfl ht.keep)⟩
   .refine .inr ⟨b,g1,.inl ⟨gk,c1,fr,g2,g3,g4,g5,g6,λk q u x hu hx=>?_⟩⟩;obtain⟨v,hv1,hv2⟩:=g7 k q u x hu hx;refine⟨v,hv1,?_⟩;cases hrec:o.isRec<;>simp only[hrec,jE]at hv2⊢
    .exact hv2.tr ht.keep
    .exact hv2.tr ht (λ_ _=>rfl)
 .have key:∀{j:Nat}{o:aj},ae ((i,⟨t,st,[r'],true⟩)::s.heap) j=some o->∃o',ae s.heap j=some o':=λ{j o} hj=>by
   simp only[ae]at hj;split at hj
   .rename_i hij;subst hij;exact⟨_,hi⟩
   .exact⟨_,hj⟩
  obtain⟨p1,q1⟩:=key h1;obtain⟨p2,q2⟩:=key h2;exact hs.heap.2 j j' p1 p2 b q1 q2
 .simp only[ae]at h1;split at h1
  .rename_i hij;subst hij;exact hs.own i _ b hi
  .exact hs.own j o b h1
def VRels.tr{bl bl':Nat->Option Nat}{M M':Nat->Prop}{w:World}(ht:Tr M M' w w):∀{vs:List Value}{l:List AV},aR (aY bl M w) vs l->(∀x∈l,∀id,mV id x=true->bl' id=bl id)->aR (aY bl' M' w) vs l
 | [],[],_,_=>trivial
 | _::_,_::_,h,hb=>⟨h.1.tr ht (hb _ (by simp)),VRels.tr ht h.2 λx hx=>hb x (by simp[hx])⟩
 | [],_::_,h,_=>h.elim
 | _::_,[],h,_=>h.elim
def eZ.nlm(s:St)(l:List AV)(i:Nat){t:TypeId}{st:Nat}{r r':List AV}(hi:ae s.heap i=some ⟨t,st,[r],true⟩)(hr:Mw.nlm r r'):eZ s l ⟨s.env,(i,⟨t,st,[r'],true⟩)::s.heap⟩ l:=λc a w bl vs h1 h2=>by
 obtain⟨h3,hm⟩:=h1.nlm i hi hr;exact⟨bl,h3,VRels.tr (Tr.of_iff hm) h2 λ_ _ _ _=>rfl⟩
def eZ.new0(s:St)(l:List AV)(i st:Nat)(t:TypeId)(hid:i<1000\/2000<=i)(hl:∀x∈l,i∉aI x):eZ s l ⟨(s.kill i).env,(i,⟨t,st,[],false⟩)::(s.kill i).heap⟩ l:=λc a w bl vs hs h2=>by
 have hk:=hs.kill i;have hu:=oE i (get s.env) (ae s.heap);have hn:=hk.new0 (i:=i) (o:=⟨t,st,[],false⟩) (by simp) hu hid rfl rfl;have e1:∀k,get (s.kill i).env k=i_ i (get s.env k):=λk=>by simp only[St.kill,jK]
 have e2:∀j,ae ((i,⟨t,st,[],false⟩)::(s.kill i).heap) j=dQ (λj=>if j=i then none else(ae s.heap j).map (ee i)) i (some ⟨t,st,[],false⟩) j:=λj=>by
  simp only[ae,dQ,St.kill,fU,dO];by_cases h:i=j
  .subst h;simp
  .have h':¬j=i:=λe=>h e.symm;simp[h,h']
 refine⟨dQ bl i none,hn.congr e1 e2,?_⟩;have hM:∀b,bz (dQ bl i none) c.MF (ae ((i,⟨t,st,[],false⟩)::(s.kill i).heap)) b->bz bl c.MF (ae s.heap) b:=λb hb=>by
  rcases hb with hb|⟨j,o,h3,h4⟩
  .exact .inl hb
  .rw[e2]at h3;by_cases hj:j=i
   .subst hj;simp[dQ]at h4
   .rw[bX _ _ hj]at h4;rw[bX _ _ hj]at h3;simp only[hj,fS,dc]at h3;obtain⟨o',h5,_⟩:=h3;exact .inr ⟨j,o',h5,h4⟩
 have ht:Tr (bz bl c.MF (ae s.heap)) (bz (dQ bl i none) c.MF (ae ((i,⟨t,st,[],false⟩)::(s.kill i).heap))) w w:=⟨λb hb _=>⟨λh=>hb (hM b h),rfl⟩,λb cc t fr h=>⟨cc,fr,h,rfl⟩⟩
 exact VRels.tr ht h2 λx hx id hid=>bX _ _ λe=>hl x hx (by rw[<-e];exact oe hid)
attribute[go_sem] ga tT decide_eq_false_iff_not beq_self_eq_true Nat.lt_add_one Nat.reduceEqDiff Nat.reduceLT reduceCtorEq Nat.reduceAdd Nat.reduceLeDiff Nat.reduceBEq Nat.reduceBNe Int.reduceNeg Int.reduceToNat Int.reduceBEq Int.reduceBNe bne_self_eq_false jr
attribute[go_sem ↓] reduceIte
def sb(id:Nat):Prop:=1000<=id/\id<2000
def inI(n:Int):Prop:=-9223372036854775808<=n/\n<9223372036854775808
section
abbrev No:Nat->Prop:=λ_=>False
def zY(T:Nat->Prop)(N:Nat)(W W':World):Prop:=W.heap.size<=W'.heap.size/\(∀(b:Nat)(c:Array Value)(t:TypeId)(fr:Nat×Nat),N<=b->W.heap[b]?=some (.cells c t fr)->W'.heap[b]?=some (.cells c t fr))/\∀b,T b->W'.heap[b]? = W.heap[b]?
section
variable{T:Nat->Prop}
def zY.refl(N:Nat)(W:World):zY T N W W:=⟨aN _,λ_ _ _ _ _ h=>h,λ_ _=>rfl⟩
def zY.trans{N:Nat}{A B C:World}(h:zY T N A B)(k:zY T N B C):zY T N A C:=⟨cZ h.1 k.1,λb c t fr hb hc=>k.2.1 b c t fr hb (h.2.1 b c t fr hb hc),λb hb=>(k.2.2 b hb).trans (h.2.2 b hb)⟩
def zY.mono{N N':Nat}{A B:World}(h:zY T N A B)(hn:N<=N'):zY T N' A B:=⟨h.1,λb c t fr hb=>h.2.1 b c t fr (cZ hn hb),h.2.2⟩
def zY.putObj(N:Nat)(W:World)(l:Nat)(o o':Obj)(hl:W.heap[l]?=some o)(ho:o.isCells=false)(hT:∀b,T b->b<l):zY T N W (W.putObj l o'):=by
 have hlt:=(j0.1 hl).1;refine⟨(grownBy_putObj' W l o').size,λb c t fr _ hb=>?_,λb hb=>World.putObj_heap_other (by have:=hT b hb;omega)⟩;by_cases e:b=l
 .subst e;rw[hl]at hb;cases hb;simp[Obj.isCells]at ho
 .rw[World.putObj_heap_other (by omega)];exact hb
end
def gR.ofAlloc(w:World)(o:Obj):gR No w (w.alloc o) where
 size:=by simp
 keep b hb _:=by rw[World.alloc];simp[zy,Nat.ne_of_lt hb]
 shape b c t fr hb:=⟨c,fr,by
  have hlt:=aQ hb;rw[World.alloc];simp[zy,Nat.ne_of_lt hlt,hb],rfl⟩
 os:=rfl
 out:=rfl
def gR.one{A B C:World}(h:gR No A B)(k:gR No B C):gR No A C:=h.trans k λ_ _ h=>h.elim
def aaz{α:Type}(n:Nat)(P:Program)[ba P](g:Nat)(lb:Array Value)(encs:α->Array Value)(E:List α)(w:World):Prop :=
 ∀(l:Nat)(J Jx:List α->World->Prop)(W:World),(ba.T P).H W->gR No w W->(∀s A B,J s A->gR No A B->J s B)->(∀s A B,Jx s A->gR No A B->Jx s B) ->
  (∀dB x W1,J dB W1->dB++[x] <+: E->YieldAt Fence.wide (n-1) P l (encs x) W1 λe W' =>
   (e = .returned (.bool true)/\J (dB++[x]) W'/\zY (ba.T P).B W.heap.size W1 W')\/(e = .returned (.bool false)/\Jx (dB++[x]) W')) ->
  J [] W ->
  CallsIn Fence.wide n P g (#[.func (.yield l) #[] #[]]++lb) W λe W'=>(∃v,e = .returned v)/\(J E W'\/(∃dB,dB <+: E/\Jx dB W'))
variable{n:Nat}{P:Program}[ba P]
def MH{α:Type}{g:Operand}{ps:Array Tmp}{assign body:Code}{Q:Exit->Act->World->Prop}{a:Act}{w:World}
  (h1:1<=n) (hH:(ba.T P).H w) {gf:Nat} {lb:Array Value} (hg:a.eval g = .func (.func gf) #[] lb) (eg:∀args w,(callFunc gf args).run P w = .ok (.enter gf args) w)
  {encs:α->Array Value} {E:List α} {w0:World} (hseq:aaz (n-1) P gf lb encs E w0) (hb0:gR No w0 w) (hps:∀x,(encs x).size=ps.size)
  (I:List α->World->Prop) (Ix:Code->List α->World->Prop) (hI:∀s A B,I s A->gR No A B->I s B) (hIx:∀c s A B,Ix c s A->gR No A B->Ix c s B)
  (hIp:∀s W l o o',I s W->w.heap.size<=l->W.heap[l]?=some o->o.isCells=false->I s (W.putObj l o')) (hIxp:∀c s W l o o',Ix c s W->w.heap.size<=l->W.heap[l]?=some o->o.isCells=false->Ix c s (W.putObj l o'))
  (h0:I [] w) (a₁:α->Act)
  (hassign:∀(l:Nat)(x:α)(W:World)(K:Act->World->Prop),K (a₁ x) W ->
   assign.wpIn (Fence.wide.inRound l) (n-1-1) P (Exit.then K (λ_ _ _=>False)) {tmps:=(ps.zip (encs x)).foldl (λt (p,v)=>t.setIfInBounds p v) a.tmps,defers:=[]} W)
  (hbody:∀(l:Nat)(dB:List α)(x:α)(W:World),I dB W->dB++[x] <+: E->body.wpIn (Fence.wide.inRound l) (n-1-1) P (ownPostK (zY (ba.T P).B w.heap.size) I Ix (dB++[x]) W) (a₁ x) W)
  (hdone:∀(D:Nat)(W:World),w.heap.size<=D->I E W->W.heap[D]?=some (.deferred (some []))->Q .normal {a with defers:={target:=.collected D,args:=#[]}::a.defers} W)
  (hstop:∀(D:Nat)(c:Code)(dB:List α)(W:World),w.heap.size<=D->dB <+: E->Ix c dB W->W.heap[D]?=some (.deferred (some []))->c.wpIn Fence.wide n P Q {a with defers:={target:=.collected D,args:=#[]}::a.defers} W) :
  (Code.rangeFunc g ps assign body).wpIn Fence.wide n P Q a w:=by
 refine wpIn_rangeFunc ?_;intro fn hfn;rw[show Fence.wide.round=none from rfl];obtain⟨rec,hrec⟩:∃rec:LoopState->Option Code->Loop,rec=λst pe=>{state:=st,pending:=pe,fn,tmps:=a.tmps,params:=ps,assign,body,defers:=w.heap.size}:=⟨_,rfl⟩
 obtain⟨W1,hW1⟩:∃W1,(w.alloc (.deferred (some []))).alloc (.loop (rec .ready none))=W1:=⟨_,rfl⟩
 have hL1:W1.heap[w.heap.size+1]?=some (.loop (rec .ready none)):=by
  rw[<-hW1];have:=World.alloc_heap_new (w.alloc (.deferred (some []))) (.loop (rec .ready none));rwa[World.size_alloc]at this
 have hK1:W1.heap[w.heap.size]?=some (.deferred (some [])):=by
  rw[<-hW1];exact(Below.heap_alloc _ _ _ (by simp)).trans (World.alloc_heap_new w _)
 have hs1:gR No w W1:=by rw[<-hW1];exact(gR.ofAlloc _ _).one (gR.ofAlloc _ _)
 have hlow:∀b,(ba.T P).B b->b<w.heap.size+1:=λb hb=>Nat.lt_succ_of_lt ((ba.T P).low _ hH b hb);have hz1:W1.heap.size=w.heap.size+2:=by rw[<-hW1];simp
 refine⟨w.heap.size+1,[{target:=.collected w.heap.size,args:=#[]}],W1,{target:=.fn (.func gf) lb,args:=#[.func (.yield (w.heap.size+1)) #[] #[]]},W1,gf,
  #[.func (.yield (w.heap.size+1)) #[] #[]]++lb,W1,?_,?_,?_,?_,λ_=>h1,?_⟩
 .rw[<-hW1,hrec];exact run_enterLoop_outer _ _ _ _ _
 .simp only[resolve,hg];simp[go_sem]
 .intro f' hf';trivial
 .simp[invoke,go_sem,eg]
 .have kp:∀{l:Nat}{o:Obj}{A B:World},gR No A B->A.heap[l]?=some o->B.heap[l]?=some o:=λ{l o A B} hs h=>by
   rw[hs.keep l (j0.1 h).1 (λh=>h)];exact h
  refine(hseq (w.heap.size+1)
   (λdB W=>I dB W/\W.heap[w.heap.size+1]?=some (.loop (rec .ready none))/\W.heap[w.heap.size]?=some (.deferred (some [])))
   (λdB W=>∃c,Ix c dB W/\W.heap[w.heap.size+1]?=some (.loop (rec .done (some c)))/\W.heap[w.heap.size]?=some (.deferred (some [])))
   W1 ((ba.T P).stay _ _ hH λb hb=>hs1.keep b ((ba.T P).low _ hH b hb) (λh=>h)) (hb0.one hs1)
   (λs A B hs hg'=>⟨hI s A B hs.1 hg',kp hg' hs.2.1,kp hg' hs.2.2⟩)
   (λs A B hs hg'=>by
    obtain⟨c,hc,hl,hk⟩:=hs;exact⟨c,hIx c s A B hc hg',kp hg' hl,kp hg' hk⟩)
   ?_ ⟨hI _ _ _ h0 hs1,hL1,hK1⟩).mono ?_
  ·
   rintro dB x W ⟨hi,hl,hk⟩ hlen;have hlt:w.heap.size+1<W.heap.size:=(j0.1 hl).1;have hy:=run_yield (P:=P) (args:=encs x) hl (by rw[hrec];exact hps x);rw[hrec]at hy;refine⟨fn,_,assign,body,hy,roundIn_of_wpIn hfn (hassign _ x W _ ⟨_,run_beginRound hl (by rw[hrec]),?_⟩)⟩;have hl2:(W.putObj (w.heap.size+1) (.loop {rec .ready none with state:=.busy})).heap[w.heap.size+1]?=some (.loop {rec .ready none with state:=.busy}):=World.putObj_heap_same hlt;have hk2:(W.putObj (w.heap.size+1) (.loop {rec .ready none with state:=.busy})).heap[w.heap.size]?=some (.deferred (some [])):=(World.putObj_heap_other (by omega)).trans hk;have hw2:zY (ba.T P).B w.heap.size W (W.putObj (w.heap.size+1) (.loop {rec .ready none with state:=.busy})):=zY.putObj _ _ _ _ _ hl rfl hlow;refine wpIn_mono (hbody _ dB x _ (hIp _ _ _ _ _ hi (by omega) hl rfl) hlen) ?_;have fin:∀(jump:Option Code)(W3:World),KeepsOthers (W.putObj (w.heap.size+1) (.loop {rec .ready none with state:=.busy})) W3 ->
     (Instr.endRound (w.heap.size+1) jump).run P W3 = .ok (.bool jump.isNone) (W3.putObj (w.heap.size+1) (.loop (rec (if jump.isNone then .ready else .done) jump))) /\
     W3.heap[w.heap.size+1]?=some (.loop {rec .ready none with state:=.busy}) /\
     (W3.putObj (w.heap.size+1) (.loop (rec (if jump.isNone then .ready else .done) jump))).heap[w.heap.size+1]?=some (.loop (rec (if jump.isNone then .ready else .done) jump)) /\
     (W3.putObj (w.heap.size+1) (.loop (rec (if jump.isNone then .ready else .done) jump))).heap[w.heap.size]?=some (.deferred (some [])):=λjump W3 hk3=>by
    have hl3:=hk3.same _ _ hl2 rfl;have:=run_endRound (P:=P) jump hl3;rw[hrec]at this⊢;exact⟨this,by rw[hrec]at hl3;exact hl3,World.putObj_heap_same (j0.1 hl3).1,(World.putObj_heap_other (by omega)).trans (hk3.same _ _ hk2 rfl)⟩
   rintro e a3 W3 hp;cases e with
   | normal =>
    obtain⟨hk3,hkp3,hi3⟩:=hp;obtain⟨hr,hl3,hl4,hk4⟩:=fin none W3 hk3;exact⟨_,_,hr,.inl ⟨rfl,⟨hIp _ _ _ _ _ hi3 (by omega) hl3 rfl,hl4,hk4⟩,((hw2.trans hkp3).trans (zY.putObj _ _ _ _ _ hl3 rfl hlow)).mono (by omega)⟩⟩
   | ret =>
    obtain⟨hk3,hi3⟩:=hp;obtain⟨hr,hl3,hl4,hk4⟩:=fin (some .ret) W3 hk3;exact⟨_,_,hr,.inr ⟨rfl,.ret,hIxp _ _ _ _ _ _ hi3 (by omega) hl3 rfl,hl4,hk4⟩⟩
   | exit id =>
    obtain⟨hk3,hi3⟩:=hp;obtain⟨hr,hl3,hl4,hk4⟩:=fin (some (.exit id)) W3 hk3;exact⟨_,_,hr,.inr ⟨rfl,.exit id,hIxp _ _ _ _ _ _ hi3 (by omega) hl3 rfl,hl4,hk4⟩⟩
   | goto t =>
    obtain⟨hk3,hi3⟩:=hp;obtain⟨hr,hl3,hl4,hk4⟩:=fin (some (.goto t)) W3 hk3;exact⟨_,_,hr,.inr ⟨rfl,.goto t,hIxp _ _ _ _ _ _ hi3 (by omega) hl3 rfl,hl4,hk4⟩⟩
   | panic ch=>exact hp.elim
   | outgrown=>exact hp.elim
  ·
   rintro e W2 ⟨⟨v,rfl⟩,(⟨hi,hl,hk⟩|⟨dB,hSp,c,hi,hl,hk⟩)⟩
   .exact⟨none,_,by have:=run_endLoop (P:=P) hl (by rw[hrec];simp);rw[hrec]at this;exact this,hdone _ _ (aN _) (hIp _ _ _ _ _ hi (by omega) hl rfl) ((World.putObj_heap_other (by omega)).trans hk)⟩
   .exact⟨some c,_,by have:=run_endLoop (P:=P) hl (by rw[hrec];simp);rw[hrec]at this;exact this,hstop _ c dB _ (aN _) hSp (hIxp _ _ _ _ _ _ hi (by omega) hl rfl) ((World.putObj_heap_other (by omega)).trans hk)⟩
def Qj(P:Program)[ba P](w:World):Nat->Prop:=λb=>b<w.heap.size/\¬(ba.T P).B b
def ah.run{f:FuncId}{args:List AV}{r:AV}(h:ah P f args r)(w:World)(hH:(ba.T P).H w){cargs:List Value}(ha:aR (aY (λ_=>none) (Qj P w) w) cargs args) :
  Calls P f cargs.toArray w λe w'=>∃v,e = .returned v/\aY (λ_=>none) (Qj P w) w' v r/\gR No w w':=by
 have hm:∀(bl:Nat->Option Nat) b,bz bl (Qj P w) (ae []) b↔Qj P w b:=λbl b=>gQ _ b
 refine(h (λ_=>none) (Qj P w) w cargs hH (λb hb hm'=>((hm _ b).1 hm').2 hb) ⟨λid o hi=>by simp[ae]at hi,λid id' o o' b hi=>by simp[ae]at hi⟩ (λb hb=>hb.1)
  (ha.mono λ_ _ _ hr=>hr.tr (Tr.of_iff (λb=>hm _ b)) (λ_ _=>rfl))).mono λe w' hh=>?_
 obtain⟨v,r',σ',bl',rfl,⟨rfl,rfl⟩,hcl,_,hv,hst,_,_⟩:=hh;refine⟨v,rfl,hv.tr (Tr.of_iff (λb=>(hm _ b).symm)) (λid hid=>?_),⟨hst.size,λb hb _=>hst.keep b hb (λhx=>by obtain⟨id,o,hi,_⟩:=hx;simp[ae]at hi),hst.shape,hst.os,hst.out⟩⟩;have:=hcl.1 id (oe hid);simp[ae]at this
def ah.of{f:FuncId}{args:List AV}{r:AV} (h:∀(w:World)(bl:Nat->Option Nat)(M:Nat->Prop)(cargs:List Value),(ba.T P).H w->(∀b,M b->b<w.heap.size)->aR (aY bl M w) cargs args ->
   Calls P f cargs.toArray w λe w'=>∃v,e = .returned v/\gR No w w'/\aY (λ_=>none) M w' v r) (hid:aI r=[]):ah P f args r:=by
 intro bl MF w cargs hH _ _ hMF ha;have hm:∀(bl:Nat->Option Nat) b,bz bl MF (ae []) b↔MF b:=λbl b=>gQ _ b;refine(h w bl MF cargs hH hMF (ha.mono λ_ _ _ hr=>hr.tr (Tr.of_iff (λb=>(hm _ b).symm)) (λ_ _=>rfl))).mono λe w' hh=>?_;obtain⟨v,rfl,hst,hv⟩:=hh;refine⟨v,r,[],bl,rfl,⟨rfl,rfl⟩,(⟨λi hi=>(by rw[hid]at hi;cases hi),λp hp=>absurd hp bZ⟩:ra r []),⟨λid o hi=>by simp[ae]at hi,λid id' o o' b hi=>by simp[ae]at hi⟩,?_,?_,λid o b hi=>by simp[ae]at hi,λ_ h=>h.elim⟩
 .refine hv.tr (Tr.of_iff (λb=>hm _ b)) (λid hi=>?_);have:=oe hi;rw[hid]at this;cases this
 .exact⟨hst.size,λb hb _=>hst.keep b hb (λh=>h),hst.shape,hst.os,hst.out⟩
end
section
def KpA(T:Nat->Prop)(N:Nat)(W W':World):Prop:=W.heap.size<=W'.heap.size/\(∀(b:Nat)(o:Obj),N<=b->W.heap[b]?=some o->W'.heap[b]?=some o)/\∀b,T b->W'.heap[b]? = W.heap[b]?
section
variable{T:Nat->Prop}
end
variable{n:Nat}{P:Program}[ba P]
end
section
variable{P:Program}[ba P]{X:Type}
end
inductive Nd:AV->AV->Prop where
 | rfl (x:AV):Nd x x
 | nl (st:Nat):Nd .nl (.sl st [])
 | sl (st:Nat) (rows rows':List (List AV)) (hl:rows.length=rows'.length) (hr:∀(i:Nat)(r r':List AV),rows[i]?=some r->rows'[i]?=some r'->r.length=r'.length)
    (hx:∀(i j:Nat)(r r':List AV)(x y:AV),rows[i]?=some r->rows'[i]?=some r'->r[j]?=some x->r'[j]?=some y->Nd x y):Nd (.sl st rows) (.sl st rows')
def IRel.nd{M:Nat->Prop}{w:World}{x y:AV}(h:Nd x y):∀{v:Value},IRel M w v x->IRel M w v y:=by
 induction h with
 | rfl x=>exact λh=>h
 | nl st=>exact λh=>IRel.nl_sl h st
 | sl st rows rows' hl hr hx ih =>
  intro v h;cases h with
  | nls=>obtain rfl:rows'=[]:=VI (by simpa using hl.symm);exact .nls st
  | sl0 _ a cap=>obtain rfl:rows'=[]:=VI (by simpa using hl.symm);exact .sl0 st a cap
  | sl b off cap _ c t fr _ vs hb hM hle hrl hv hxx =>
   rw[hl];have get:∀{i:Nat}{r':List AV},rows'[i]?=some r'->∃r,rows[i]?=some r:=λ{i r'} h=>by
    have hi:i<rows'.length:=by
     rcases eJ i rows'.length with q|q
     .exact q
     .rw[tV q]at h;cases h
    exact⟨rows[i]'(by omega),jZ _⟩
   refine .sl b off cap st c t fr rows' vs hb hM (by omega) (λi r' hi=>?_) (λi j hi hj=>hv i j (by omega) hj) (λi j r' y hi hj=>?_)
   .obtain⟨r,hr2⟩:=get hi;rw[<-hr i r r' hr2 hi];exact hrl i r hr2
   .obtain⟨r,hr2⟩:=get hi;have hjl:j<r.length:=by
     rw[hr i r r' hr2 hi];rcases eJ j r'.length with q|q
     .exact q
     .rw[tV q]at hj;cases hj
    exact ih i j r r' _ y hr2 hi (jZ hjl) hj (hxx i j r _ hr2 (jZ hjl))
def bV.nd{bl:Nat->Option Nat}{M:Nat->Prop}{w:World}{v:Value}{x y:AV}(h:Nd x y)(hr:bV bl M w v x):bV bl M w v y:=by
 cases h with
 | rfl=>exact hr
 | nl st=>exact IRel.nd (.nl st) (show IRel M w v .nl from hr)
 | sl st rows rows' h1 h2 h3=>exact IRel.nd (.sl st rows rows' h1 h2 h3) (show IRel M w v (.sl st rows) from hr)
def nld(x y:AV):Prop:=Nd x y\/∃l m,x = .agg l/\y = .agg m/\aR Nd l m
def Ue{bl:Nat->Option Nat}{M:Nat->Prop}{w:World}{v:Value}{x y:AV}(h:nld x y)(hr:aY bl M w v x):aY bl M w v y:=by
 rcases h with h|⟨l,m,rfl,rfl,h⟩
 .cases h with
  | rfl=>exact hr
  | nl st=>exact IRel.nd (.nl st) (show IRel M w v .nl from hr)
  | sl st rows rows' h1 h2 h3=>exact IRel.nd (.sl st rows rows' h1 h2 h3) (show IRel M w v (.sl st rows) from hr)
 .obtain⟨cs,h1,h2⟩:=hr;refine⟨cs,h1,?_⟩;clear h1
  induction cs generalizing l m with
  | nil=>match l,m,h,h2 with | [],[],_,_=>trivial
  | cons c cs ih=>match l,m,h,h2 with|a::l,b::m,h,h2=>exact⟨bV.nd h.1 h2.1,ih l m h.2 h2.2⟩
def G8{bl:Nat->Option Nat}{M:Nat->Prop}{w:World}:∀{vs:List Value}{l m:List AV},aR nld l m->aR (aY bl M w) vs l->aR (aY bl M w) vs m
 | [],[],[],_,_=>trivial
 | v::vs,x::l,y::m,h,hr=>⟨Ue h.1 hr.1,G8 h.2 hr.2⟩
 | [],[],_::_,h,_=>h.elim
 | [],_::_,_,_,hr=>hr.elim
 | _::_,[],_,_,hr=>hr.elim
 | _::_,_::_,[],h,_=>h.elim
def pD{P:Program}[ba P]{f:FuncId}{xs ys:List AV}{r:AV}(hp:ah P f ys r)(h:aR nld xs ys):ah P f xs r :=
 λbl MF w cargs h1 h2 h3 h4 h5=>hp bl MF w cargs h1 h2 h3 h4 (G8 h h5)
def iI(n:Nat):bF->bF
 | .draw ops al dr=>match ops with
  | ⟨⟨some d,op,g⟩,b⟩::r=>if d=n then .free (⟨⟨some d,op,g⟩,b⟩::r) al dr else .draw (⟨⟨some d,op,g⟩,b⟩::r) al dr
  | ops=>.draw ops al dr
 | .seq x y=>.seq (iI n x) (iI n y)
 | .cond c x y=>.cond c (iI n x) (iI n y)
 | .block id x=>.block id (iI n x)
 | .loop x=>.loop (iI n x)
 | x=>x
def Ik(n d:Nat)(op:lR)(g:Option (Nat×Bool))(b:List Nat)(r:List aB)(al:List (Nat×Nat))(dr:List Nat) :
  iI n (.draw (⟨⟨some d,op,g⟩,b⟩::r) al dr)=if d=n then .free (⟨⟨some d,op,g⟩,b⟩::r) al dr else .draw (⟨⟨some d,op,g⟩,b⟩::r) al dr:=bN rfl
def Ln(n:Nat)(x y:bF):iI n (.seq x y) = .seq (iI n x) (iI n y):=bN rfl
def Ij(n:Nat)(c:IV)(x y:bF):iI n (.cond c x y) = .cond c (iI n x) (iI n y):=bN rfl
def Gf(n id:Nat)(x:bF):iI n (.block id x) = .block id (iI n x):=bN rfl
def Il(n:Nat):iI n .skip = .skip:=bN rfl
def Ll(n:Nat):iI n .ret = .ret:=bN rfl
def Lk(n:Nat)(ops:List bj)(dr:List Nat):iI n (.reg ops dr) = .reg ops dr:=bN rfl
def Qu(b:List Nat)(R:List (Nat×aB)):Bool:=R.all λq=>!b.contains q.1
def Qv(b:List Nat):Qu b []=true:=bN rfl
def Mc(b:List Nat)(i:Nat)(o:aB)(R:List (Nat×aB)):Qu b ((i,o)::R)=(!b.contains i&&Qu b R):=bN rfl
def Fg(R:List (Nat×aB)):List (Nat×aB)->List (Nat×aB)
 | []=>[]
 | t::L=>if Qu t.2.bef R=true then t::Fg R L else Fg R L
def Qw(R:List (Nat×aB)):Fg R []=[]:=bN rfl
def Me(R:List (Nat×aB))(i:Nat)(o:bj)(b:List Nat)(L:List (Nat×aB)):Fg R ((i,⟨o,b⟩)::L)=if Qu b R=true then(i,⟨o,b⟩)::Fg R L else Fg R L:=bN rfl
def ack(R:List (Nat×aB)):rdy R=Fg R R:=by
 have:∀L,L.filter (λt:Nat×aB=>R.all λq=>!t.2.bef.contains q.1)=Fg R L:=by
  intro L
  induction L with
  | nil=>rfl
  | cons t L ih =>
   rw[List.filter_cons,ih];rfl
 exact this R
def AL(i:Nat):List (Nat×aB)->List (Nat×aB)
 | []=>[]
 | t::L=>if t.1=i then AL i L else t::AL i L
def N7(i:Nat):AL i []=[]:=bN rfl
def Lb(i j:Nat)(o:aB)(L:List (Nat×aB)):AL i ((j,o)::L)=if j=i then AL i L else(j,o)::AL i L:=bN rfl
def ve(R:List (Nat×aB))(i:Nat):(R.filter λq=>q.1 != i)=AL i R:=by
 induction R with
 | nil=>rfl
 | cons t R ih =>
  rw[List.filter_cons,ih,show AL i (t::R)=if t.1=i then AL i R else t::AL i R from rfl];by_cases h:t.1=i
  .rw[aF h,ax (by simp[h])]
  .rw[ax h,aF (by simp[h])]
section
variable{P:Program}[ba P]
def SF(f:Nat)(R:List (Nat×aB))(s:St)(K:St->Prop)(i:Nat)(o:bj)(b:List Nat):JH P f R s K (i,⟨o,b⟩)=i3 P [o] s (JZ P f (AL i R) K):=by rw[SG,ve]
def SS(f:Nat)(R:List (Nat×aB))(s:St)(K:St->Prop):qo P (f+1) R s K=uE (Fg R R) (JH P f R s K):=by rw[ST,ack]
def Dd:Nat->List aB->List (Nat×aB)
 | _,[]=>[]
 | i,o::r=>(i,o)::Dd (i+1) r
def Lf(i:Nat):Dd i []=[]:=bN rfl
def Ic(i:Nat)(o:aB)(r:List aB):Dd i (o::r)=(i,o)::Dd (i+1) r:=bN rfl
def yi(r:List aB):∀i,((r.zipIdx i).map λp=>(p.2,p.1))=Dd i r:=by
 induction r with
 | nil=>intro i;rfl
 | cons o r ih=>intro i;rw[List.zipIdx_cons,bY,ih];rfl
def LE(ops:List aB)(al:List (Nat×Nat))(dr:List Nat)(s:St)(K:IX->St->Prop):lz P (.free ops al dr) s K=qo P ops.length (Dd 0 ops) s (LH dr K):=by rw[O5,yi]
end
attribute[go_sem] Ik Ln Ij Gf Il Ll Lk Qv Mc Qw Me N7 Lb SF SR SS TG Ss Su Lf Ic LE
attribute[go_sem] List.contains_cons List.contains_nil j1 iN
structure Bk(H:Type) where
 f:DataW H->Nat
 str:∀l:List UInt8,l.length<=f (.lit (.string l))
 sl:∀es sp,es.length<=f (.slice es sp)
 sle:∀es sp d,d∈es->f d<=f (.slice es sp)
 ag:∀ps d,d∈ps->f d<=f (.agg ps)
def Ty.bd(B:Nat):Ty->List AV->Prop
 | .str,xs=>∀s,xs=[.str s]->s.length<=B
 | .sl e,xs=>∀st rows,xs=[.sl st rows]->rows.length<=B/\∀r∈rows,e.bd B r
 | .cons f r,xs=>f.bd B (xs.take f.n)/\r.bd B (xs.drop f.n)
 | _,_=>True
def Ty.bdV(B:Nat)(τ:Ty)(x:AV):Prop:=match τ.isRec with
 | true=>∀xs,x = .agg xs->τ.bd B xs
 | false=>τ.bd B [x]
section
variable{H:Type}{enc:TypeId×Value->H}{P:Program}{w:World}{base:Nat}{sp:Nat->Bool}{held:Bool}
def Dh(k:Bk H){B:Nat}{g:TypeId->Option Ty}{r:TypeId->List Value->Option (DataW H×List MemPlace)}
  (ih:∀t cs τ x xs,g t=some τ->r t cs=some x->τ.ok xs->aR (IRel (λ_=>False) w) cs xs->k.f x.1<=B->τ.bd B xs) (cs:List Value) :
  ∀(fs:List Field)(off:Nat)(τ:Ty)(xs:List (DataW H×List MemPlace))(ys:List AV),BY g P off fs=some τ->(fs.mapM λf=>r f.type ((cs.drop f.offset).take (P.cellsOf f.type)))=some xs ->
   τ.ok ys->aR (IRel (λ_=>False) w) (cs.drop off) ys->(∀x∈xs,k.f x.1<=B)->τ.bd B ys
 | [],off,τ,xs,ys,ht,_,_,_,_=>by
  simp only[BY,cI]at ht;subst ht;trivial
 | f::fs,off,τ,xs,ys,ht,hm,hok,hr,hB=>by
  simp only[BY]at ht;split at ht
  case isFalse=>cases ht
  rename_i hoff;split at ht
  case h_2=>cases ht
  rename_i a b ha hb;split at ht
  case isFalse=>cases ht
  rename_i hsz;cases ht;simp only[List.mapM_cons,bind,pZ,pure,cI]at hm;obtain⟨y,h1,zs,h2,rfl⟩:=hm;obtain⟨y1,y2,rfl,o1,o2⟩:=hok;have hl:=Ty.ok_len a y1 o1;have r1:=hr.take a.n;have r2:=hr.drop a.n;rw[List.take_left' hl]at r1;rw[List.drop_left' hl,MM]at r2;refine⟨?_,?_⟩
  .rw[List.take_left' hl];rw[hoff]at h1;rw[hsz]at r1;exact ih _ _ _ _ _ ha h1 o1 r1 (hB y (by simp))
  .rw[List.drop_left' hl];rw[hsz]at r2;exact Dh k ih cs fs (off+P.cellsOf f.type) b zs y2 hb h2 o2 r2 (λx hx=>hB x (by simp[hx]))
def Vx(k:Bk H){B:Nat}:∀(fuel f:Nat)(t:TypeId)(cs:List Value)(τ:Ty)(x:DataW H×List MemPlace)(xs:List AV),tR P f t=some τ->DataW.trod enc P w base sp held fuel t cs=some x->τ.ok xs ->
  aR (IRel (λ_=>False) w) cs xs->k.f x.1<=B->τ.bd B xs:=by
 intro fuel
 induction fuel with
 | zero=>intro f t cs τ x xs _ h;simp[DataW.trod]at h
 | succ fuel ih =>
  intro f t cs τ x xs ht h hok hr hB;cases f with
  | zero=>simp[tR]at ht
  | succ f =>
   simp only[tR]at ht;split at ht
   case h_1 hu=>cases ht;trivial
   case h_2 k' hu=>cases ht;trivial
   case h_3 hu =>
    cases ht;unfold DataW.trod at h;split at h<;>rename_i heq<;>first|(rw[hu]at heq;cases heq;done)|(cases h;done)|skip
    rename_i s;split at h
    .cases h;intro s' hs;subst hs;have h1:=hr.1;cases h1;have:=k.str s';exact cZ this hB
    .cases h
   case h_4 e hu =>
    split at ht
    case h_2=>cases ht
    rename_i a ha;split at ht
    case isFalse=>cases ht
    rename_i hsz;cases ht;unfold DataW.trod at h;split at h<;>rename_i heq<;>first|(rw[hu]at heq;cases heq;done)|(cases h;done)|skip
    .intro st rows hs;subst hs;have h1:=hr.1;cases h1;exact⟨cR _,λr hr=>by cases hr⟩
    .rename_i e1 ad len cap;rw[hu]at heq;cases heq;simp only at h;split at h
     case isFalse=>cases h
     rename_i hcap;simp only[pZ,dc]at h;obtain⟨elems,hel,rest,_,rfl⟩:=h;obtain⟨hlen,ae⟩:=vn hel;intro st rows hs;subst hs;have h1:=hr.1;have hall:∀y∈elems,k.f y.1<=B:=λy hy=>cZ (k.sle (elems.map (·.1)) (rest.map (·.1)) y.1 (dN.2 ⟨y,hy,rfl⟩)) hB;have hln:elems.length<=B:=by
      have:=k.sl (elems.map (·.1)) (rest.map (·.1));rw[bP]at this;exact cZ this hB
     have hrok:∀r∈rows,a.ok r:=by
      rcases hok with hok|⟨rows',hok,_,h3⟩
      .cases hok
      .cases hok;exact h3
     have hst:st=a.n\/rows=[]:=by
      rcases hok with hok|⟨rows',hok,_,_⟩
      .cases hok
      .cases hok;exact .inl rfl
     cases h1 with
     | sl0=>exact⟨cR _,λr hr=>by cases hr⟩
     | sl bk of _ _ c tt fr _ vs hb hM hl hrl hv hx =>
      refine⟨by omega,λr hrm=>?_⟩;obtain⟨i,hi,hri⟩:=List.getElem_of_mem hrm;have hri':rows[i]?=some r:=by rw[jZ hi,hri]
      obtain⟨y,g1,g2⟩:=ae i (by omega);simp only[pZ]at g2;obtain⟨row,g3,g4⟩:=g2;have hym:y∈elems:=nF g1;refine ih f e row a y r ha g4 (hrok r hrm) ?_ (hall y hym);have hst':st=a.n:=hst.resolve_right (λh=>by rw[h]at hi;simp at hi);obtain⟨q1,q2⟩:=C9 g3;have hblk:∀(q:Addr) m,(q.add m).block=q.block:=λq m=>by unfold Addr.add;split<;>rfl
      have hoff:∀(q:Addr) m,(q.add m).off=q.off+m:=λq m=>by
       unfold Addr.add;split
       .rename_i hm;simp[hm]
       .rfl
      refine aR.of_get (by rw[q1,Ty.ok_len a r (hrok r hrm),hsz.1]) (λj v x hv' hx'=>?_);have hj:j<P.cellsOf e:=by
       have:=(gW.1 hv').1;omega
      obtain⟨v',p1,p2⟩:=q2 j hj;rw[hv']at p1;cases p1;obtain⟨_,c',t',fr',p3,p4⟩:=AF p2;rw[hblk,hblk]at p3;simp only at p3;rw[hb]at p3;cases p3;rw[hoff,hoff]at p4;simp only at p4;have:=hv i j hi (by rw[hst',hsz.1];exact hj);rw[hst',hsz.1,p4]at this;cases this;exact hx i j r x hri' hx'
   case h_5 fs hu =>
    split at ht
    case h_2=>cases ht
    rename_i a ha;split at ht
    case isFalse=>cases ht
    rename_i hsz;cases ht;unfold DataW.trod at h;split at h<;>rename_i heq<;>first|(rw[hu]at heq;cases heq;done)|(cases h;done)|skip
    .rename_i cs1 fs1;rw[hu]at heq;cases heq;split at h
     case isFalse=>cases h
     rename_i hcl;simp only[dc]at h;obtain⟨ys,h1,rfl⟩:=h;exact Dh (P:=P) (g:=tR P f) (r:=λt cs=>DataW.trod enc P w base sp held fuel t cs) k (λt cs τ x xs=>ih f t cs τ x xs) _ _ 0 _ ys xs ha h1 hok (by simpa using hr)
      (λy hy=>cZ (k.ag (ys.map (·.1)) y.1 (dN.2 ⟨y,hy,rfl⟩)) hB)
   case h_6=>cases ht
end
section
variable{H:Type}{enc:TypeId×Value->H}{P:Program}[ba P]{w:World}{base:Nat}{sp:Nat->Bool}{held:Bool}
def Sd(k:Bk H){B:Nat}{f:Nat}{t:TypeId}{τ:Ty}{r:Reach}{b:Nat}{v:Value}{d:DataW H}{p:List MemPlace}(ht:tR P f t=some τ)(hv:Value.okWide P w r b t v)(h:DataW.Trod enc P w base sp held t v d p)(hB:k.f d<=B) :
  ∃x,τ.okV x/\τ.bdV B x/\aY (λ_=>none) (λ_=>False) w v x:=by
 obtain⟨fuel,h⟩:=h;obtain⟨xs,h1,h2⟩:=Vy fuel f t _ _ _ ht h;have hb:=Vx k fuel f t _ _ _ xs ht h h1 h2 hB;have one:τ.isRec=false->v.cells.toList=[v]->∃x,τ.okV x/\τ.bdV B x/\aY (λ_=>none) (λ_=>False) w v x:=λhr hc=>by
  rw[hc]at h2
  match xs,h2 with
  | [x],h2=>exact⟨x,by unfold Ty.okV;rw[hr];exact h1,by unfold Ty.bdV;rw[hr];exact hb,h2.1.toV⟩
 cases f with
 | zero=>simp[tR]at ht
 | succ f =>
  simp only[tR]at ht;unfold Value.okWide at hv;split at ht
  .rename_i hu;rw[hu]at hv;cases ht
   exact one rfl (by
    unfold Cell.okWide at hv;rw[hu]at hv;simp only[Cell.ok,hu]at hv;cases v<;>first|rfl|exact hv.elim)
  .rename_i k hu;rw[hu]at hv;cases ht
   exact one rfl (by
    unfold Cell.okWide at hv;rw[hu]at hv;simp only[Cell.ok,hu]at hv;cases v<;>first|rfl|exact hv.elim)
  .rename_i hu;rw[hu]at hv;cases ht
   exact one rfl (by
    unfold Cell.okWide at hv;rw[hu]at hv;simp only[Cell.ok,hu]at hv;cases v<;>first|rfl|exact hv.elim)
  .rename_i e hu;rw[hu]at hv;have hr:τ.isRec=false:=by
    split at ht
    case h_2=>cases ht
    split at ht
    case isFalse=>cases ht
    cases ht;rfl
   exact one hr (by
    unfold Cell.okWide at hv;rw[hu]at hv;simp only[Cell.ok,hu]at hv;cases v<;>first|rfl|exact hv.elim)
  .rename_i fs hu;rw[hu]at hv;have hr:τ.isRec=true:=by
    split at ht
    case h_2=>cases ht
    rename_i hfs;split at ht
    case isFalse=>cases ht
    cases ht;exact Jd hfs
   obtain⟨cs,rfl,_,_⟩:=hv;refine⟨.agg xs,by unfold Ty.okV;rw[hr];exact⟨xs,rfl,h1⟩,by unfold Ty.bdV;rw[hr];intro ys hy;cases hy;exact hb,cs.toList,by simp,?_⟩;exact aR.mono h2 λa x _ h=>h.toC
  .cases ht
def FX(k:Bk H){B:Nat}{r:Reach}{b:Nat}:∀{ts:List TypeId}{τs:List Ty}{vs:List Value}{ds:List (DataW H)}{ps:List MemPlace},aR (λt τ=>tR P 9 t=some τ) ts τs ->
  DataW.TrodAll enc P w base sp held ts vs ds ps->(∀(j:Nat) t v,ts[j]?=some t->vs[j]?=some v->Value.okWide P w r b t v)->(∀d∈ds,k.f d<=B)->∃xs,aR Ty.okV τs xs/\aR (Ty.bdV B) τs xs/\aR (aY (λ_=>none) (λ_=>False) w) vs xs
 | [],[],[],ds,ps,_,h,_,_=>⟨[],trivial,trivial,trivial⟩
 | t::ts,τ::τs,v::vs,d::ds,ps,ht,h,hv,hB=>by
  obtain⟨p,q,h3,h4,rfl⟩:=h;obtain⟨x,h5,h5b,h6⟩:=Sd k ht.1 (hv 0 t v rfl rfl) h3 (hB d (by simp));obtain⟨xs,h7,h7b,h8⟩:=FX k ht.2 h4 (λj t v h1 h2=>hv (j+1) t v (by simpa using h1) (by simpa using h2)) (λd' hd'=>hB d' (by simp[hd']));exact⟨x::xs,⟨h5,h7⟩,⟨h5b,h7b⟩,h6,h8⟩
 | [],[],_::_,_,_,_,h,_,_=>h.elim
 | _::_,[],_,_,_,ht,_,_,_=>ht.elim
 | [],_::_,_,_,_,ht,_,_,_=>ht.elim
 | _::_,_::_,[],_,_,_,h,_,_=>h.elim
 | _::_,_::_,_::_,[],_,_,h,_,_=>h.elim
end
section
variable{H:Type}{enc:TypeId×Value->H}{P:Program}[ba P]{w:World}
def Cg(k:Bk H){B:Nat}{fid:FuncId}{f:Func}{s:ChangeSpec}(τs:List Ty){tb:TypeId}{apart fresh handsOn again:Bool}(hty:aR (λt τ=>tR P 9 t=some τ) f.params.toList τs)(hl:laidOutB P=true)
  (hr:∀t∈f.params.toList,P.readableRec t=true/\t<P.types.size) (hvs:s.vars=[])
  (hfn:∀ds:List (DataW H),ds.length=τs.length->(s.fn H ds).results=[.lit (.bool true)]/\(s.fn H ds).args=ds/\(s.fn H ds).vars=[])
  (hrt:f.resultTypes = #[tb]) (htb:P.underlying tb=some .bool)
  (hp:∀xs,aR Ty.okV τs xs->aR (Ty.bdV B) τs xs->ah P fid xs (.bool true))
  (W:World) (b:Nat) (args:Array Value) (ds gs:List (DataW H)) (before:List MemPlace) {r:Reach} (hT:(ba.T P).H W)
  (hval:∀(j:Nat) t v,f.params[j]?=some t->args[j]?=some v->Value.okWide P W r b t v)
  (hW:DataW.Whole enc P f.params.toList s.vars apart W args.toList ds gs before) (hB:∀d∈ds,k.f d<=B) :
  Calls P fid args W λe W'=>∃v,e = .returned v/\s.post enc P f apart fresh handsOn again W args v W':=by
 have hW':=hW;obtain⟨p,q,hA,hV,_,_,_⟩:=hW;rw[hvs]at hV;obtain⟨rfl,rfl⟩:=trodVars_none hV;obtain⟨xs,h1,h1b,h2⟩:=FX k hty hA (λj t v h1 h2=>hval j t v (by simpa using h1) (by simpa using h2)) hB;have h4:=hp xs h1 h1b;have hlen:ds.length=τs.length:=by
  have key:∀{ts:List TypeId}{vs:List Value}{ds:List (DataW H)}{ps:List MemPlace},DataW.TrodAll enc P W 0 (λ_=>true) true ts vs ds ps->ds.length=ts.length:=by
   intro ts
   induction ts with
   | nil=>intro vs ds ps h;match vs,ds,h with | [],[],_=>rfl
   | cons t ts ih=>intro vs ds ps h;match vs,ds,h with|v::vs,d::ds,⟨_,_,_,h4,_⟩=>simp[ih h4]
  rw[key hA,hty.length]
 obtain⟨g1,g2,g3⟩:=hfn ds hlen;have:=Hi h4 hT h2;rw[show args.toList.toArray=args from by simp]at this;refine this.mono λe W' ⟨he,hk⟩=>⟨_,he,?_⟩
 exact Ph hl hr hvs (by simpa using g1) (by simpa using g2) (by simpa using g3) hrt htb hW' hk
end
def Qy(ρ:Nat->Nat):List (Nat×AV)->List (Nat×AV)
 | []=>[]
 | (k,x)::r=>(k,lB ρ x)::Qy ρ r
def Gn(ρ:Nat->Nat)(k:Nat):∀e:List (Nat×AV),get (Qy ρ e) k=lB ρ (get e k)
 | []=>rfl
 | (j,x)::r=>by
  simp only[Qy,get];split
  .rfl
  .exact Gn ρ k r
def Wk.ren(s:St)(ps:List (Nat×Nat))(h:∀id,1000<=id->id<2000->bw ps id=id):Wk s ⟨Qy (fw ps) s.env,lh (fw ps) s.heap⟩:=by
 rintro c a w ⟨bl,hs⟩;have hb:∀i,(λi=>bl (bw ps i)) (fw ps i)=bl i:=λi=>by simp only[C5]
 have hm:∀b,bz (λi=>bl (bw ps i)) c.MF (ae (lh (fw ps) s.heap)) b->bz bl c.MF (ae s.heap) b:=λb hm=>BG (C5 ps) (Gj ps) hb b hm;refine⟨λi=>bl (bw ps i),hs.defers,hs.size,λk=>?_,BH (C5 ps) (Gj ps) hs.heap hb hm,hs.step,λid o b hi hq=>?_,λid h1 h2=>?_,hs.mf⟩
 .show aY _ _ _ _ (get (Qy (fw ps) s.env) k);rw[Gn];exact BJ (hs.env k) hb hm
 .rw[kC (C5 ps) (Gj ps)]at hi;simp only[dc]at hi;obtain⟨o0,h5,_⟩:=hi;exact hs.own _ o0 b h5 hq
 .show bl (bw ps id)=_;rw[h id h1 h2];exact hs.stab id h1 h2
section
variable{H:Type}{enc:TypeId×Value->H}{P:Program}{w:World}{base:Nat}{sp:Nat->Bool}{held:Bool}
end
section
variable{H:Type}{enc:TypeId×Value->H}{P:Program}[ba P]{w:World}{base:Nat}{sp:Nat->Bool}{held:Bool}
end
section
variable{H:Type}{enc:TypeId×Value->H}{P:Program}[ba P]{w:World}
end
def ii(n:Nat):bF->bF
 | .draw ops al dr=>match ops with
  | ⟨⟨some d,op,g⟩,b⟩::r=>if d=n then .wild (⟨⟨some d,op,g⟩,b⟩::r) al dr else .draw (⟨⟨some d,op,g⟩,b⟩::r) al dr
  | ops=>.draw ops al dr
 | .seq x y=>.seq (ii n x) (ii n y)
 | .cond c x y=>.cond c (ii n x) (ii n y)
 | .block id x=>.block id (ii n x)
 | .loop x=>.loop (ii n x)
 | x=>x
def Dr:List aB->List aB
 | []=>[]
 | [_]=>[]
 | o::p::r=>o::Dr (p::r)
def Bc:List aB->Option aB
 | []=>none
 | [o]=>some o
 | _::p::r=>Bc (p::r)
def Lx(o:aB):Dr [o]=[]:=bN rfl
def A9(o p:aB)(r:List aB):Dr (o::p::r)=o::Dr (p::r):=bN rfl
def LI(o:aB):Bc [o]=some o:=bN rfl
def Bd(o p:aB)(r:List aB):Bc (o::p::r)=Bc (p::r):=bN rfl
def JT:∀l,Dr l=l.dropLast
 | []=>rfl
 | [_]=>rfl
 | o::p::r=>by rw[A9,JT (p::r)];rfl
def J2:∀l,Bc l=l.getLast?
 | []=>rfl
 | [_]=>rfl
 | o::p::r=>by rw[Bd,J2 (p::r),List.getLast?_cons_cons]
section
variable{P:Program}[ba P]
def V8(al:List (Nat×Nat))(n:Nat)(o:Option aB)(dr:List Nat)(K:IX->St->Prop)(hist:List HI)(s:St):Prop :=
 match o with
 | some o=>HN al (n-1) o hist s λs'=>K .nrm ⟨dels dr s'.env,s'.heap⟩
 | none=>False
def Pf(P:Program)[ba P](al:List (Nat×Nat))(i:Nat)(r:List aB)(K:List HI->St->Prop)(hist:List HI)(s:St):Prop:=fb P al i r hist s K
def Pg(al:List (Nat×Nat))(i:Nat)(r:List aB)(K:List HI->St->Prop)(hist:List HI)(s:St):Pf P al i r K hist s=fb P al i r hist s K:=bN rfl
def Iv(al:List (Nat×Nat))(i:Nat)(hist:List HI)(s:St)(K:List HI->St->Prop):fb P al i [] hist s K=K hist s:=bN rfl
def Gr(al:List (Nat×Nat))(i:Nat)(d:Option Nat)(op:lR)(bf:List Nat)(r:List aB)(hist:List HI)(s:St)(K:List HI->St->Prop) :
  fb P al i (⟨⟨d,op,none⟩,bf⟩::r) hist s K=gS P al i ⟨⟨d,op,none⟩,bf⟩ hist s (Pf P al (i+1) r K):=bN rfl
def O7(ops:List aB)(al:List (Nat×Nat))(dr:List Nat)(s:St)(K:IX->St->Prop):lz P (.wild ops al dr) s K=fb P al 0 (Dr ops) [] (kills (al.map (·.1)) s) (V8 al ops.length (Bc ops) dr K):=by
 rw[JT,J2];rfl
def ek{al:List (Nat×Nat)}{n d:Nat}{t:TypeId}{st:Nat}{x y:IV}{bf:List Nat}{dr:List Nat}{K:IX->St->Prop}{hist:List HI}{s:St}(v:AV)(e:aW)
  (h:bQ d (.app t st x y) (val (get s.env)) (ae s.heap)=some (v,e)) (h1:((aq (.app t st x y)).all λk=>!uH (get s.env k))=true) (h2:e.isReb=true) (h3:(hist.all λz=>bf.contains z.i||Jg e.tch z)=true)
  (h4:qF al bf ⟨n-1,bU (.app t st x y) s.env,aI v++e.ids,e.tch,true,true⟩=true) (h5:LH dr K ((s.eff e).put (some d) v)):V8 al n (some ⟨⟨some d,.app t st x y,none⟩,bf⟩) dr K hist s:=by
 refine⟨rfl,?_⟩;simp only[gb];rw[h];exact⟨h1,h2,h3,h4,h5⟩
end
attribute[go_sem] Lx A9 LI Bd Iv Gr Pg O7
def TU{n:Nat}{c:List AV}(h:c.length=n):ww (some n) c=some (.agg c):=by
 show(if n<=c.length then some (AV.agg (c.take n))else none)=_;rw[aF (by omega),gN (by omega)]
def Vq{k n:Nat}{t:TypeId}{z c:List AV}(hz:z.length=n)(h:c.length=n):DN k n n 0 0 (some ⟨t,n,[z],true⟩) (some c)=some (.put k ⟨t,n,[c],true⟩):=by
 unfold DN;simp only[true_and,B5,and_true];rw[aF h];show(if 0+n<=z.length then some (aW.put k ⟨t,n,[z].set 0 (iC z 0 c),true⟩)else none)=_;rw[aF (by omega)];unfold iC;rw[iO,iD,ga,MN (by omega),lm];rfl
def adm(n:Nat)(c:List AV):Prop:=c.length=n/\(∀i,c.any (mC i)=false)/\aI (.agg c)=[]
def Wk.trunc(s:St)(i n:Nat){t:TypeId}{st:Nat}{rows:List (List AV)}{r:Bool}(hi:ae s.heap i=some ⟨t,st,rows,r⟩):Wk s ⟨s.env,(i,⟨t,st,rows.take n,r⟩)::s.heap⟩:=by
 rintro c a w ⟨bl,hs⟩;have hm:∀b,bz bl c.MF (ae ((i,⟨t,st,rows.take n,r⟩)::s.heap)) b↔bz bl c.MF (ae s.heap) b:=bz.congr λj=>by
  simp only[ae];split
  .rename_i h;subst h;rw[hi];rfl
  .rfl
 have ht:=Tr.of_iff (w:=w) λb=>(hm b)
 refine⟨bl,hs.defers,hs.size,λj=>(hs.env j).tr ht (λ_ _=>rfl),⟨λj o hj=>?_,λj j' o o' b h1 h2=>?_⟩,hs.step,λj o b h1=>?_,hs.stab,hs.mf⟩
 .simp only[ae]at hj;split at hj
  .rename_i hij;subst hij;cases hj;rcases hs.heap.1 i _ hi with hn|⟨b,g1,⟨gk,c1,fr,g2,g3,g4,g5,g6,g7⟩|hsp⟩
   .exact .inl ⟨by rw[show rows=[] from hn.1];exact List.take_nil,hn.2⟩
   rotate_left
   .exact absurd hsp.rel (λh=>h)
   .have key:∀{k:Nat}{q:List AV},(rows.take n)[k]?=some q->rows[k]?=some q:=λ{k q} hq=>by
     rw[x9]at hq;split at hq
     .exact hq
     .cases hq
    refine .inr ⟨b,g1,.inl ⟨gk,c1,fr,g2,g3,g4,λk q hq=>g5 k q (key hq),cZ (nv _ (by simp;omega)) g6,λk q u x hu hx=>?_⟩⟩;obtain⟨v,hv1,hv2⟩:=g7 k q u x (key hu) hx;refine⟨v,hv1,?_⟩;cases r
    .exact IRel.tr hv2 ht.keep
    .exact bV.tr hv2 ht (λ_ _=>rfl)
  .rcases hs.heap.1 j o hj with hn|⟨b,g1,⟨gk,c1,fr,g2,g3,g4,g5,g6,g7⟩|hsp⟩
   .exact .inl hn
   rotate_left
   .exact .inr ⟨b,g1,.inr (hsp.tr rfl ht.keep)⟩
   .refine .inr ⟨b,g1,.inl ⟨gk,c1,fr,g2,g3,g4,g5,g6,λk q u x hu hx=>?_⟩⟩;obtain⟨v,hv1,hv2⟩:=g7 k q u x hu hx;refine⟨v,hv1,?_⟩;cases hrec:o.isRec<;>simp only[hrec,jE]at hv2⊢
    .exact hv2.tr ht.keep
    .exact hv2.tr ht (λ_ _=>rfl)
 .have key:∀{j:Nat}{o:aj},ae ((i,⟨t,st,rows.take n,r⟩)::s.heap) j=some o->∃o',ae s.heap j=some o':=λ{j o} hj=>by
   simp only[ae]at hj;split at hj
   .rename_i hij;subst hij;exact⟨_,hi⟩
   .exact⟨_,hj⟩
  obtain⟨p1,q1⟩:=key h1;obtain⟨p2,q2⟩:=key h2;exact hs.heap.2 j j' p1 p2 b q1 q2
 .simp only[ae]at h1;split at h1
  .rename_i hij;subst hij;exact hs.own i _ b hi
  .exact hs.own j o b h1
def iS{d:Nat}{t:TypeId}{st:Nat}{x y:IV}{ρ:IV->AV}{h:Nat->Option aj}{id len:Nat}{rows ys:List (List AV)}(hx:ρ x = .ms id st 0 len)(ho:h id=some ⟨t,st,rows,false⟩)(hy:fk st h (ρ y)=some ys)(hr:rows.length=len)(hl:ys.length<137438953472)(hn:len<137438953472)(hid:id<1000\/2000<=id) :
  bQ d (.app t st x y) ρ h=some (.ms id st 0 (len+ys.length),.reb id ⟨t,st,rows++ys,false⟩):=by
 subst hr;simp only[bQ,hx,hy,pE,aF hl,ho];rw[aF (by refine⟨?_,?_,?_,?_,?_,aN _,hn,hid,rfl⟩<;>trivial),jc]
def Xe{d:Nat}{t:TypeId}{st:Nat}{y:IV}{ρ:IV->AV}{h:Nat->Option aj}{rows:List (List AV)}(hn:ρ (.c .nl) = .nl)(hy:fk st h (ρ y)=some rows)(hl:rows.length<137438953472) :
  bQ d (.app t st (.c .nl) y) ρ h=some (.ms d st 0 rows.length,.new d ⟨t,st,rows,false⟩):=by
 simp only[bQ,hn,hy,pE,aF hl]
def Qp(i:Nat)(t:TypeId)(st:Nat)(rows:List (List AV)):ee i ⟨t,st,rows,true⟩ =⟨t,st,rows.map (λr=>r.map (oA i)),true⟩:=rfl
def Qo(i:Nat)(t:TypeId)(st:Nat)(rows:List (List AV)):ee i ⟨t,st,rows,false⟩ =⟨t,st,rows,false⟩:=rfl
attribute[go_sem high] Qp Qo
def VF{l:List nx}{Post:AV->List (Nat×aj)->Prop}{s s1:St}(hw:Wk s s1)(fs:List Nat)(r:AV)(σ':List (Nat×aj))(h1:tc l (frzs fs s1)=some r)(h2:MQ (frzs fs s1).heap σ')(h3:Rr r σ'=true)(h4:Post r σ'):B_ l Post .nrm s :=
 ⟨(λ_ h=>by cases h),s1,hw,fs,r,σ',h1,(λi o hi=>pM h2 _ (fN hi)),kx h3,h4⟩
section
variable{P:Program}[ba P]
def Lw{bl:Nat->Option Nat}{M:Nat->Prop}{w:World}{v:Value}{x:AV}(h:bV bl M w v x)(h1:n_ x=true)(h2:uH x=false):IRel M w v x:=by
 cases x<;>first|(simp[n_]at h1;done)|exact h|(simp[uH]at h2;done)
def aH.unrec{c:qL}{bl:Nat->Option Nat}{s:St}{a:Act}{w:World}(hs:aH c bl (get s.env) (ae s.heap) a w){i:Nat}{t:TypeId}{st:Nat}{r:List AV}(hi:ae s.heap i=some ⟨t,st,[r],true⟩)(hr:∀x∈r,n_ x=true/\uH x=false) :
  aH c bl (get s.env) (ae ((i,⟨t,st,[r],false⟩)::s.heap)) a w/\bz bl c.MF (ae ((i,⟨t,st,[r],false⟩)::s.heap))=bz bl c.MF (ae s.heap):=by
 have hm:bz bl c.MF (ae ((i,⟨t,st,[r],false⟩)::s.heap))=bz bl c.MF (ae s.heap):=by
  funext b;apply propext;constructor
  .rintro(h|⟨j,o,h1,h2⟩)
   .exact .inl h
   .simp only[ae]at h1;split at h1
    .rename_i hij;subst hij;exact .inr ⟨_,_,hi,h2⟩
    .exact .inr ⟨j,o,h1,h2⟩
  .rintro(h|⟨j,o,h1,h2⟩)
   .exact .inl h
   .by_cases hij:i=j
    .subst hij;exact .inr ⟨i,⟨t,st,[r],false⟩,by simp[ae],h2⟩
    .exact .inr ⟨j,o,by simp only[ae,ax hij];exact h1,h2⟩
 refine⟨⟨hs.defers,hs.size,by rw[hm];exact hs.env,⟨λj o hj=>?_,λj j' o o' b h1 h2=>?_⟩,hs.step,λj o b h1=>?_,hs.stab,hs.mf⟩,hm⟩
 .rw[hm];simp only[ae]at hj;split at hj
  .rename_i hij;subst hij;cases hj;rcases hs.heap.1 _ _ hi with⟨h1,_⟩|⟨b,g1,⟨gk,c1,fr,g2,g3,g4,g5,g6,g7⟩|hsp⟩
   .cases h1
   .refine .inr ⟨b,g1,.inl ⟨rfl,c1,fr,g2,g3,g4,g5,g6,λk q u x hu hx=>?_⟩⟩;obtain⟨v,hv1,hv2⟩:=g7 k q u x hu hx;have hu2:u=r:=by
     cases k with
     | zero=>simpa using hu.symm
     | succ k=>simp at hu
    subst hu2;obtain⟨z1,z2⟩:=hr x (nF hx);exact⟨v,hv1,Lw hv2 z1 z2⟩
   .have:=hsp.rows;cases this
  .exact hs.heap.1 j o hj
 .have key:∀{j:Nat}{o:aj},ae ((i,⟨t,st,[r],false⟩)::s.heap) j=some o->∃o',ae s.heap j=some o':=λ{j o} hj=>by
   simp only[ae]at hj;split at hj
   .rename_i hij;subst hij;exact⟨_,hi⟩
   .exact⟨_,hj⟩
  obtain⟨p1,q1⟩:=key h1;obtain⟨p2,q2⟩:=key h2;exact hs.heap.2 j j' p1 p2 b q1 q2
 .simp only[ae]at h1;split at h1
  .rename_i hij;subst hij;exact hs.own i _ b hi
  .exact hs.own j o b h1
def eZ.unrec(s:St)(l:List AV)(i:Nat){t:TypeId}{st:Nat}{r:List AV}(hi:ae s.heap i=some ⟨t,st,[r],true⟩)(hr:∀x∈r,n_ x=true/\uH x=false):eZ s l ⟨s.env,(i,⟨t,st,[r],false⟩)::s.heap⟩ l:=λc a w bl vs h1 h2=>by
 obtain⟨h3,hm⟩:=aH.unrec h1 hi hr;exact⟨bl,h3,by rw[hm];exact h2⟩
def Dn{x:AV}(h:uF x=true):fM x=[]:=by cases x<;>first|rfl|(simp[uF]at h)
def yk{f:AV->Bool}{g:AV->List Nat}(hh:∀x,f x=true->g x=[]):∀l:List AV,l.all f=true->l.flatMap g=[]
 | [],_=>rfl
 | x::l,h=>by
  simp only[KH,fQ]at h;simp only[jd,hh x h.1,yk hh l h.2,lm]
def Do{x:AV}(h:wW x=true):jp x=[]:=by
 cases x with
 | agg cells=>exact yk (λ_=>Dn) cells h
 | _=>first|exact Dn (by simpa only[wW]using h)|rfl|(simp[wW,uF]at h)
def Og{x:AV}(h:m0 x=true):aI x=[]:=by
 cases x with
 | tup vs=>exact yk (λ_=>Do) vs h
 | _=>first|exact Do (by simpa only[m0]using h)|rfl|(simp[m0,wW,uF]at h)
def aZ.lend{f:FuncId}{args args':List AV}{r:AV}{σ:List (Nat×aj)}{s':St}(hp:ah P f args' r)(hf:m0 r=true)(hw:eZ ⟨[],σ⟩ args s' args')(hid:∀x∈args',aI x=[])(hcl:∀p∈σ,∀i∈dZ p.2,(ae σ i).isSome=true)(Sb:Nat->Prop) :
  aZ P f args σ Sb (λr' σ'=>r'=r/\σ'=σ):=by
 intro bl MF w cargs hT hTM hH hMF hA
 let c:qL:={w0:=w,bl0:=bl,W:=nY bl σ,MF:=MF,n:=0,T:=ba.T P,tH:=hT,tW:=λb hb ⟨id,o,h1,h2⟩=>hTM b hb (.inr ⟨id,o,h1,h2⟩),tM:=λb hb hm=>hTM b hb (.inl hm),hn:=by decide}
 let a:Act:=⟨#[],[]⟩
 have hs:aH c bl (get ([]:List (Nat×AV))) (ae σ) a w:=⟨rfl,rfl,λk=>trivial,hH,gR.refl _ _,λid o b h1 h2=>.inr ⟨id,o,h1,h2⟩,λ_ _ _=>rfl,hMF⟩
 obtain⟨bl',hs',hA'⟩:=hw c a w bl cargs hs hA
 let MF':Nat->Prop:=bz bl' MF (ae s'.heap)
 have hMF':∀q,MF' q->q<w.heap.size:=λq hq=>by
  rcases hq with hm|⟨id,o,h1,h2⟩
  .exact hMF q hm
  .rcases hs'.heap.1 id o h1 with hn|⟨b',g2,hO⟩
   .rw[hn.2.2]at h2;cases h2
   .rw[h2]at g2;cases g2;exact hO.lt
 have hargs:aR (aY (λ_=>none) (bz (λ_=>none) MF' (ae [])) w) cargs args':=hA'.mono λv x hx hv=>by
  refine aY.tr hv ⟨λq hq _=>⟨λhm=>hq ((gQ MF' q).1 hm),rfl⟩,λ_ c1 _ fr hb=>⟨c1,fr,hb,rfl⟩⟩ (λid hm=>?_);have:=oe hm;rw[hid x hx]at this;cases this
 refine(hp (λ_=>none) MF' w cargs hT (λb hb hm=>?_) ⟨(λid o h=>by cases h),(λid id' o o' b h=>by cases h)⟩ hMF' hargs).mono ?_
 .have hm:=(gQ MF' b).1 hm
  haveI:CT c P:=⟨rfl⟩
  exact aH.tabW (c:=c) hs' b hb hm
 rintro e w' ⟨v,r',σ',bl2,rfl,⟨rfl,rfl⟩,_,_,hv,hst,_,_⟩;have hst':gR (λ_=>False) w w':=⟨hst.size,λb hb _=>hst.keep b hb (λ⟨id,o,h,_⟩=>by cases h),hst.shape,hst.os,hst.out⟩
 have hg:=aH.grow (c:=c) hs hst';exact⟨v,_,_,bl,rfl,⟨rfl,rfl⟩,⟨(λi hi=>by rw[Og hf]at hi;cases hi),hcl⟩,hg.heap,Dm hf hv,⟨hst.size,λb hb _=>hst'.keep b hb (λh=>h),hst.shape,hst.os,hst.out⟩,λid o b h1 h2=>.inr ⟨id,o,h1,h2⟩,λ_ _=>rfl⟩
end
def Wk.nlr1(s:St)(i:Nat){t:TypeId}{st:Nat}{r r':List AV}(hi:ae s.heap i=some ⟨t,st,[r],false⟩)(hr:Wj r r'):Wk s ⟨s.env,(i,⟨t,st,[r'],false⟩)::s.heap⟩:=by
 rintro c a w ⟨bl,hs⟩;have hm:∀b,bz bl c.MF (ae ((i,⟨t,st,[r'],false⟩)::s.heap)) b↔bz bl c.MF (ae s.heap) b:=bz.congr λj=>by
  simp only[ae];split
  .rename_i h;subst h;rw[hi];rfl
  .rfl
 have ht:=Tr.of_iff (w:=w) λb=>(hm b)
 refine⟨bl,hs.defers,hs.size,λj=>(hs.env j).tr ht (λ_ _=>rfl),⟨λj o hj=>?_,λj j' o o' b h1 h2=>?_⟩,hs.step,λj o b h1=>?_,hs.stab,hs.mf⟩
 .simp only[ae]at hj;split at hj
  .rename_i hij;subst hij;cases hj;rcases hs.heap.1 i _ hi with hn|⟨b,g1,⟨gk,c1,fr,g2,g3,g4,g5,g6,g7⟩|hsp⟩
   .cases hn.1
   rotate_left
   .exact absurd hsp.rel (λh=>h)
   .refine .inr ⟨b,g1,.inl ⟨gk,c1,fr,g2,g3,g4,λk q hq=>?_,by simpa using g6,λk q u x hu hx=>?_⟩⟩
    .cases k with
     | zero=>simp at hq;subst hq;rw[E1 hr];exact g5 0 r rfl
     | succ k=>simp at hq
    .cases k with
     | succ k=>simp at hu
     | zero =>
      simp at hu;subst hu;obtain⟨x0,h1,h2⟩:=E0 hr hx;obtain⟨v,hv1,hv2⟩:=g7 0 q r x0 rfl h1;refine⟨v,hv1,?_⟩;have hv3:IRel (bz bl c.MF (ae s.heap)) w v x0:=hv2;rcases h2 with h2|⟨h2,st',h3⟩
      .subst h2;exact IRel.tr hv3 ht.keep
      .subst h2 h3;exact IRel.tr (IRel.nl_sl hv3 st') ht.keep
  .rcases hs.heap.1 j o hj with hn|⟨b,g1,⟨gk,c1,fr,g2,g3,g4,g5,g6,g7⟩|hsp⟩
   .exact .inl hn
   rotate_left
   .exact .inr ⟨b,g1,.inr (hsp.tr rfl ht.keep)⟩
   .refine .inr ⟨b,g1,.inl ⟨gk,c1,fr,g2,g3,g4,g5,g6,λk q u x hu hx=>?_⟩⟩;obtain⟨v,hv1,hv2⟩:=g7 k q u x hu hx;refine⟨v,hv1,?_⟩;cases hrec:o.isRec<;>simp only[hrec,jE]at hv2⊢
    .exact hv2.tr ht.keep
    .exact hv2.tr ht (λ_ _=>rfl)
 .have key:∀{j:Nat}{o:aj},ae ((i,⟨t,st,[r'],false⟩)::s.heap) j=some o->∃o',ae s.heap j=some o':=λ{j o} hj=>by
   simp only[ae]at hj;split at hj
   .rename_i hij;subst hij;exact⟨_,hi⟩
   .exact⟨_,hj⟩
  obtain⟨p1,q1⟩:=key h1;obtain⟨p2,q2⟩:=key h2;exact hs.heap.2 j j' p1 p2 b q1 q2
 .simp only[ae]at h1;split at h1
  .rename_i hij;subst hij;exact hs.own i _ b hi
  .exact hs.own j o b h1
def Wk.unrec(s:St)(i:Nat){t:TypeId}{st:Nat}{r:List AV}(hi:ae s.heap i=some ⟨t,st,[r],true⟩)(hr:∀x∈r,n_ x=true/\uH x=false):Wk s ⟨s.env,(i,⟨t,st,[r],false⟩)::s.heap⟩:=λc a w ⟨bl,h1⟩=>⟨bl,(aH.unrec h1 hi hr).1⟩
def aay{α:Type}(B:Nat->Prop)(n:Nat)(P:Program)[ba P](g:Nat)(lb:Array Value)(encs:α->Array Value)(E:List α)(w:World):Prop :=
 ∀(l:Nat)(J Jx:List α->World->Prop)(W:World),(ba.T P).H W->gR No w W->(∀s A B,J s A->gR No A B->J s B)->(∀s A B,Jx s A->gR No A B->Jx s B) ->
  (∀dB x W1,J dB W1->dB++[x] <+: E->YieldAt Fence.wide (n-1) P l (encs x) W1 λe W' =>
   (e = .returned (.bool true)/\J (dB++[x]) W'/\zY B W.heap.size W1 W')\/(e = .returned (.bool false)/\Jx (dB++[x]) W')) ->
  J [] W ->
  CallsIn Fence.wide n P g (#[.func (.yield l) #[] #[]]++lb) W λe W'=>(∃v,e = .returned v)/\(J E W'\/(∃dB,dB <+: E/\Jx dB W'))
section
variable{n:Nat}{P:Program}[ba P]
def MG{α:Type}{g:Operand}{ps:Array Tmp}{assign body:Code}{Q:Exit->Act->World->Prop}{a:Act}{w:World}
  {B:Nat->Prop} (h1:1<=n) (hH:(ba.T P).H w) (hB:∀b,B b->b<w.heap.size) {gf:Nat} {lb:Array Value} (hg:a.eval g = .func (.func gf) #[] lb) (eg:∀args w,(callFunc gf args).run P w = .ok (.enter gf args) w)
  {encs:α->Array Value} {E:List α} {w0:World} (hseq:aay B (n-1) P gf lb encs E w0) (hb0:gR No w0 w) (hps:∀x,(encs x).size=ps.size)
  (I:List α->World->Prop) (Ix:Code->List α->World->Prop) (hI:∀s A B,I s A->gR No A B->I s B) (hIx:∀c s A B,Ix c s A->gR No A B->Ix c s B)
  (hIp:∀s W l o o',I s W->w.heap.size<=l->W.heap[l]?=some o->o.isCells=false->I s (W.putObj l o')) (hIxp:∀c s W l o o',Ix c s W->w.heap.size<=l->W.heap[l]?=some o->o.isCells=false->Ix c s (W.putObj l o'))
  (h0:I [] w) (a₁:α->Act)
  (hassign:∀(l:Nat)(x:α)(W:World)(K:Act->World->Prop),K (a₁ x) W ->
   assign.wpIn (Fence.wide.inRound l) (n-1-1) P (Exit.then K (λ_ _ _=>False)) {tmps:=(ps.zip (encs x)).foldl (λt (p,v)=>t.setIfInBounds p v) a.tmps,defers:=[]} W)
  (hbody:∀(l:Nat)(dB:List α)(x:α)(W:World),I dB W->dB++[x] <+: E->body.wpIn (Fence.wide.inRound l) (n-1-1) P (ownPostK (zY B w.heap.size) I Ix (dB++[x]) W) (a₁ x) W)
  (hdone:∀(D:Nat)(W:World),w.heap.size<=D->I E W->W.heap[D]?=some (.deferred (some []))->Q .normal {a with defers:={target:=.collected D,args:=#[]}::a.defers} W)
  (hstop:∀(D:Nat)(c:Code)(dB:List α)(W:World),w.heap.size<=D->dB <+: E->Ix c dB W->W.heap[D]?=some (.deferred (some []))->c.wpIn Fence.wide n P Q {a with defers:={target:=.collected D,args:=#[]}::a.defers} W) :
  (Code.rangeFunc g ps assign body).wpIn Fence.wide n P Q a w:=by
 refine wpIn_rangeFunc ?_;intro fn hfn;rw[show Fence.wide.round=none from rfl];obtain⟨rec,hrec⟩:∃rec:LoopState->Option Code->Loop,rec=λst pe=>{state:=st,pending:=pe,fn,tmps:=a.tmps,params:=ps,assign,body,defers:=w.heap.size}:=⟨_,rfl⟩
 obtain⟨W1,hW1⟩:∃W1,(w.alloc (.deferred (some []))).alloc (.loop (rec .ready none))=W1:=⟨_,rfl⟩
 have hL1:W1.heap[w.heap.size+1]?=some (.loop (rec .ready none)):=by
  rw[<-hW1];have:=World.alloc_heap_new (w.alloc (.deferred (some []))) (.loop (rec .ready none));rwa[World.size_alloc]at this
 have hK1:W1.heap[w.heap.size]?=some (.deferred (some [])):=by
  rw[<-hW1];exact(Below.heap_alloc _ _ _ (by simp)).trans (World.alloc_heap_new w _)
 have hs1:gR No w W1:=by rw[<-hW1];exact(gR.ofAlloc _ _).one (gR.ofAlloc _ _)
 have hlow:∀b,B b->b<w.heap.size+1:=λb hb=>Nat.lt_succ_of_lt (hB b hb);have hz1:W1.heap.size=w.heap.size+2:=by rw[<-hW1];simp
 refine⟨w.heap.size+1,[{target:=.collected w.heap.size,args:=#[]}],W1,{target:=.fn (.func gf) lb,args:=#[.func (.yield (w.heap.size+1)) #[] #[]]},W1,gf,
  #[.func (.yield (w.heap.size+1)) #[] #[]]++lb,W1,?_,?_,?_,?_,λ_=>h1,?_⟩
 .rw[<-hW1,hrec];exact run_enterLoop_outer _ _ _ _ _
 .simp only[resolve,hg];simp[go_sem]
 .intro f' hf';trivial
 .simp[invoke,go_sem,eg]
 .have kp:∀{l:Nat}{o:Obj}{A B:World},gR No A B->A.heap[l]?=some o->B.heap[l]?=some o:=λ{l o A B} hs h=>by
   rw[hs.keep l (j0.1 h).1 (λh=>h)];exact h
  refine(hseq (w.heap.size+1)
   (λdB W=>I dB W/\W.heap[w.heap.size+1]?=some (.loop (rec .ready none))/\W.heap[w.heap.size]?=some (.deferred (some [])))
   (λdB W=>∃c,Ix c dB W/\W.heap[w.heap.size+1]?=some (.loop (rec .done (some c)))/\W.heap[w.heap.size]?=some (.deferred (some [])))
   W1 ((ba.T P).stay _ _ hH λb hb=>hs1.keep b ((ba.T P).low _ hH b hb) (λh=>h)) (hb0.one hs1)
   (λs A B hs hg'=>⟨hI s A B hs.1 hg',kp hg' hs.2.1,kp hg' hs.2.2⟩)
   (λs A B hs hg'=>by
    obtain⟨c,hc,hl,hk⟩:=hs;exact⟨c,hIx c s A B hc hg',kp hg' hl,kp hg' hk⟩)
   ?_ ⟨hI _ _ _ h0 hs1,hL1,hK1⟩).mono ?_
  ·
   rintro dB x W ⟨hi,hl,hk⟩ hlen;have hlt:w.heap.size+1<W.heap.size:=(j0.1 hl).1;have hy:=run_yield (P:=P) (args:=encs x) hl (by rw[hrec];exact hps x);rw[hrec]at hy;refine⟨fn,_,assign,body,hy,roundIn_of_wpIn hfn (hassign _ x W _ ⟨_,run_beginRound hl (by rw[hrec]),?_⟩)⟩;have hl2:(W.putObj (w.heap.size+1) (.loop {rec .ready none with state:=.busy})).heap[w.heap.size+1]?=some (.loop {rec .ready none with state:=.busy}):=World.putObj_heap_same hlt;have hk2:(W.putObj (w.heap.size+1) (.loop {rec .ready none with state:=.busy})).heap[w.heap.size]?=some (.deferred (some [])):=(World.putObj_heap_other (by omega)).trans hk;have hw2:zY B w.heap.size W (W.putObj (w.heap.size+1) (.loop {rec .ready none with state:=.busy})):=zY.putObj _ _ _ _ _ hl rfl hlow;refine wpIn_mono (hbody _ dB x _ (hIp _ _ _ _ _ hi (by omega) hl rfl) hlen) ?_;have fin:∀(jump:Option Code)(W3:World),KeepsOthers (W.putObj (w.heap.size+1) (.loop {rec .ready none with state:=.busy})) W3 ->
     (Instr.endRound (w.heap.size+1) jump).run P W3 = .ok (.bool jump.isNone) (W3.putObj (w.heap.size+1) (.loop (rec (if jump.isNone then .ready else .done) jump))) /\
     W3.heap[w.heap.size+1]?=some (.loop {rec .ready none with state:=.busy}) /\
     (W3.putObj (w.heap.size+1) (.loop (rec (if jump.isNone then .ready else .done) jump))).heap[w.heap.size+1]?=some (.loop (rec (if jump.isNone then .ready else .done) jump)) /\
     (W3.putObj (w.heap.size+1) (.loop (rec (if jump.isNone then .ready else .done) jump))).heap[w.heap.size]?=some (.deferred (some [])):=λjump W3 hk3=>by
    have hl3:=hk3.same _ _ hl2 rfl;have:=run_endRound (P:=P) jump hl3;rw[hrec]at this⊢;exact⟨this,by rw[hrec]at hl3;exact hl3,World.putObj_heap_same (j0.1 hl3).1,(World.putObj_heap_other (by omega)).trans (hk3.same _ _ hk2 rfl)⟩
   rintro e a3 W3 hp;cases e with
   | normal =>
    obtain⟨hk3,hkp3,hi3⟩:=hp;obtain⟨hr,hl3,hl4,hk4⟩:=fin none W3 hk3;exact⟨_,_,hr,.inl ⟨rfl,⟨hIp _ _ _ _ _ hi3 (by omega) hl3 rfl,hl4,hk4⟩,((hw2.trans hkp3).trans (zY.putObj _ _ _ _ _ hl3 rfl hlow)).mono (by omega)⟩⟩
   | ret =>
    obtain⟨hk3,hi3⟩:=hp;obtain⟨hr,hl3,hl4,hk4⟩:=fin (some .ret) W3 hk3;exact⟨_,_,hr,.inr ⟨rfl,.ret,hIxp _ _ _ _ _ _ hi3 (by omega) hl3 rfl,hl4,hk4⟩⟩
   | exit id =>
    obtain⟨hk3,hi3⟩:=hp;obtain⟨hr,hl3,hl4,hk4⟩:=fin (some (.exit id)) W3 hk3;exact⟨_,_,hr,.inr ⟨rfl,.exit id,hIxp _ _ _ _ _ _ hi3 (by omega) hl3 rfl,hl4,hk4⟩⟩
   | goto t =>
    obtain⟨hk3,hi3⟩:=hp;obtain⟨hr,hl3,hl4,hk4⟩:=fin (some (.goto t)) W3 hk3;exact⟨_,_,hr,.inr ⟨rfl,.goto t,hIxp _ _ _ _ _ _ hi3 (by omega) hl3 rfl,hl4,hk4⟩⟩
   | panic ch=>exact hp.elim
   | outgrown=>exact hp.elim
  ·
   rintro e W2 ⟨⟨v,rfl⟩,(⟨hi,hl,hk⟩|⟨dB,hSp,c,hi,hl,hk⟩)⟩
   .exact⟨none,_,by have:=run_endLoop (P:=P) hl (by rw[hrec];simp);rw[hrec]at this;exact this,hdone _ _ (aN _) (hIp _ _ _ _ _ hi (by omega) hl rfl) ((World.putObj_heap_other (by omega)).trans hk)⟩
   .exact⟨some c,_,by have:=run_endLoop (P:=P) hl (by rw[hrec];simp);rw[hrec]at this;exact this,hstop _ c dB _ (aN _) hSp (hIxp _ _ _ _ _ _ hi (by omega) hl rfl) ((World.putObj_heap_other (by omega)).trans hk)⟩
end
def K9(n:Nat)(cs:List Nat):bF->bF
 | .draw ops al dr=>match ops with
  | ⟨⟨some d,op,g⟩,b⟩::r=>if d=n then .clon cs (⟨⟨some d,op,g⟩,b⟩::r) al dr else .draw (⟨⟨some d,op,g⟩,b⟩::r) al dr
  | ops=>.draw ops al dr
 | .seq x y=>.seq (K9 n cs x) (K9 n cs y)
 | .cond c x y=>.cond c (K9 n cs x) (K9 n cs y)
 | .block id x=>.block id (K9 n cs x)
 | .loop x=>.loop (K9 n cs x)
 | x=>x
section
variable{P:Program}[ba P]
end
def aea:List (List AV)->List (List AV)->Prop
 | [],[]=>True
 | x::l,y::m=>Wj x y/\aea l m
 | _,_=>False
section
variable{α:Type}[Inhabited α]
end
inductive Rep(G:Nat->Option aj):AV->AV->Prop
 | imm (x:AV) (h:n_ x=true) (h2:uH x=false):Rep G x x
 | ms (id st:Nat) (t:TypeId) (q:Bool) (rows' rows:List (List AV)) (hG:G id=some ⟨t,st,rows',q⟩) (hl:rows'.length=rows.length)
    (hc:∀(i:Nat)(r' r:List AV),rows'[i]?=some r'->rows[i]?=some r->r'.length=r.length)
    (hx:∀(i j:Nat)(r' r:List AV)(x y:AV),rows'[i]?=some r'->rows[i]?=some r->r'[j]?=some x->r[j]?=some y->Rep G x y) :
    Rep G (.ms id st 0 rows'.length) (.sl st rows)
def ae7(G:Nat->Option aj)(x y:AV):Prop :=
 match x with
 | .agg cs=>∃ds,y = .agg ds/\aR (Rep G) cs ds
 | x=>Rep G x y
section
variable{P:Program}[ba P]
def ZF(d:Nat)(x:AV):Option (AV×aW) :=
 match x with
 | .fm es=>some (.mm d false,.new d (@aj.mk 0 0 [] false (.mi es none)))
 | _=>none
def Nn(d:Nat)(x:AV)(h:Nat->Option aj):jn d .rgm [x] h=ZF d x:=by cases x<;>rfl
def U5(d:Nat)(es:List (AV×AV)):ZF d (.fm es)=some (.mm d false,.new d (@aj.mk 0 0 [] false (.mi es none))):=bN rfl
def To(d:Nat)(x:IV)(g:Option (Nat×Bool))(s:St)(K:St->Prop):lV P ⟨some d,.mop .rgm [x],g⟩ s K=(d<1000/\db (zG K (s.kill d) (some d)) (ZF d (val (get (s.kill d).env) x))):=by
 rw[<-Nn d _ (ae (s.kill d).heap)];rfl
def Yd(id:Nat)(o:Option aj)(d:Option Nat)(s:St)(K:St->Prop):Prop :=
 match o with
 | some o=>match o.k with
  | .mi l _=>(l=[]->K (s.put d (.tup [.bool false])))/\∀(i:Nat)(e:AV×AV),l[i]?=some e->K ((s.eff (.put id {o with k:=.mi (l.eraseIdx i) (some e)})).put d (.tup [.bool true,e.1,e.2]))
  | _=>False
 | none=>False
def SW(id:Nat)(d:Option Nat)(s:St)(K:St->Prop):SV (.mm id false) d s K=Yd id (ae s.heap id) d s K:=by
 unfold SV Yd;apply propext;constructor
 .rintro⟨id',o,l,la,h1,h2,h3,h4⟩;cases h1;rw[h2];simp only[h3];exact h4
 .cases ho:ae s.heap id with
  | none=>exact λh=>h.elim
  | some o =>
   simp only;split
   .rename_i l la hl;exact λh=>⟨id,o,l,la,rfl,ho,hl,h⟩
   .exact λh=>h.elim
def SU(id:Nat)(t:TypeId)(st:Nat)(rows:List (List AV))(r:Bool)(l:List (AV×AV))(la:Option (AV×AV))(d:Option Nat)(s:St)(K:St->Prop):Yd id (some (@aj.mk t st rows r (.mi l la))) d s K =
  ((l=[]->zG K s d (.tup [.bool false]) .no)/\∀(i:Nat)(e:AV×AV),l[i]?=some e->zG K s d (.tup [.bool true,e.1,e.2]) (.put id (@aj.mk t st rows r (.mi (l.eraseIdx i) (some e))))):=bN rfl
def Tn(d:Option Nat)(x:IV)(g:Option (Nat×Bool))(s:St)(K:St->Prop):lV P ⟨d,.mop .nmi [x],g⟩ s K=SV (val (get s.env) x) d s K:=bN rfl
def WS(o:aj):Option (AV×aW):=(TY o).map λe=>(.tup [e.1,e.2],.no)
def Nj(d:Nat)(x:AV)(h:Nat->Option aj):jn d .ent [x] h=PQ false x h λ_=>WS:=by
 cases x<;>try rfl
 rename_i id k;cases k<;>rfl
def S_(d:Option Nat)(x:IV)(g:Option (Nat×Bool))(s:St)(K:St->Prop):lV P ⟨d,.mop .ent [x],g⟩ s K=db (zG K s d) (PQ false (val (get s.env) x) (ae s.heap) λ_=>WS):=by
 rw[<-Nj (d.getD 0) (val (get s.env) x) (ae s.heap)];rfl
def RE(t:TypeId)(st:Nat)(rows:List (List AV))(r:Bool)(l:List (AV×AV))(e:AV×AV):WS (@aj.mk t st rows r (.mi l (some e)))=some (.tup [e.1,e.2],.no):=bN rfl
end
attribute[go_sem] S_ RE To U5 Tn SW SU
