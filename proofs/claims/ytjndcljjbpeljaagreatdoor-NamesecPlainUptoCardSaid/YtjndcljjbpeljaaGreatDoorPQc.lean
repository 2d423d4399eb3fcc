import Derived.Test.YtjndcljjbpeljaaGreatDoorPQb
import Derived.ProofKit
import Derived.OpenShut
import Derived.JoinedCond
import Derived.RangeFuncFrom
import Derived.RangeFuncLeaves
import Derived.RangeFuncCalls
set_option linter.all false
namespace Go.Mw
def ah {α:Type} [Inhabited α] (l:List α) (i:Nat):α:=l[i]!
theorem bD {α:Type} [Inhabited α] {l:List α} {i:Nat} (h:i<l.length):ah l i=l[i]:=getElem!_pos l i h
theorem jg {α:Type} [Inhabited α] {l:List α} {i:Nat} (h:i<l.length):l[i]? = some (ah l i):=by rw [bD h];exact ig h
theorem AA {α:Type} [Inhabited α] {l m:List α} {i:Nat} (h:i<l.length):ah (l++m) i=ah l i:=by
 rw [bD h,bD (by simp;omega),List.getElem_append_left h]
theorem vg {α:Type} [Inhabited α] {l m:List α} {x:α}:ah (l++x :: m) l.length=x:=by
 simp [ah]
theorem E3 {α:Type} [Inhabited α] {l:List α} {i k:Nat} (h:i<k):ah (l.take k) i=ah l i:=by
 unfold ah
 rw [List.getElem!_eq_getElem?_getD,List.getElem!_eq_getElem?_getD,List.getElem?_take_of_lt h]
theorem vh {α:Type} [Inhabited α] {l:List α} {i k:Nat}:ah (l.drop k) i=ah l (k+i):=by
 unfold ah
 rw [List.getElem!_eq_getElem?_getD,List.getElem!_eq_getElem?_getD,List.getElem?_drop]
section
variable {P:Program} [bU P]
def Jg (P:Program) [bU P] (y:bE) (K:IX→St→Prop) (e:IX) (s:St):Prop :=
 match e with
 | .nrm=>ii P y s K
 | e=>K e s
def aaK (P:Program) [bU P] (y:bE) (K:IX→St→Prop) (e:IX) (s:St):Prop :=
 match e with
 | .nrm=>∃s',Wk s s'∧ii P y s' K
 | e=>K e s
def Ja (id:Nat) (K:IX→St→Prop) (e:IX) (s:St):Prop :=
 match e with
 | .ext j=>if j=id then K .nrm s else K (.ext j) s
 | e=>K e s
def OK (dr:List Nat) (K:IX→St→Prop) (s:St):Prop:=K .nrm ⟨dels dr s.env,s.heap⟩
def Jf (P:Program) [bU P] (r:List aS) (K:St→Prop) (s:St):Prop:=fj P r s K
def yp (P:Program) [bU P] (al:List (Nat×Nat)) (i:Nat) (r:List aR) (K:St→Prop) (hist:List HI) (s:St):Prop:=gz P al i r hist s K
def An (K:St→Prop) (s:St) (d:Option Nat) (v:AV) (e:bc):Prop:=K ((s.eff e).put d v)
def Jc (al:List (Nat×Nat)) (i:Nat) (bf:List Nat) (op:ik) (hist:List HI) (K:List HI→St→Prop) (s:St) (d:Option Nat) (v:AV) (e:bc):Prop :=
 dW op s e=true∧fG bf ⟨i,cD op s.env,aP v++e.ids,e.tch,e.isReb,e.isPut⟩ hist=true∧pR al bf ⟨i,cD op s.env,aP v++e.ids,e.tch,e.isReb,e.isPut⟩=true ∧
  K (⟨i,cD op s.env,aP v++e.ids,e.tch,e.isReb,e.isPut⟩ :: hist) ((s.eff e).put d v)
def dd (K:AV→bc→Prop) (x:Option (AV×bc)):Prop :=
 match x with
 | some (v,e)=>K v e
 | none=>False
def Ga (A:Prop) (K:AV→bc→Prop) (x:Option (AV×bc)):Prop :=
 match x with
 | some (v,e)=>K v e
 | none=>A
def GU (x:AV) (a b:Prop):Prop :=
 match x with
 | .bool t=>(t=true→a)∧(t=false→b)
 | _=>False
def wC (x:AV) (a b c:Prop):Prop :=
 match x with
 | .bool t=>(t=true→a)∧(t=false→b)
 | .tup []=>c
 | _=>False
theorem OM (y:bE) (K:IX→St→Prop) (s:St):Jg P y K .nrm s=ii P y s K:=bP rfl
theorem ON (y:bE) (K:IX→St→Prop) (s:St):Jg P y K .ret s=K .ret s:=bP rfl
theorem OO (y:bE) (K:IX→St→Prop) (j:Nat) (s:St):Jg P y K (.ext j) s=K (.ext j) s:=bP rfl
theorem OD (id:Nat) (K:IX→St→Prop) (s:St):Ja id K .nrm s=K .nrm s:=bP rfl
theorem OE (id:Nat) (K:IX→St→Prop) (s:St):Ja id K .ret s=K .ret s:=bP rfl
theorem OF (id j:Nat) (K:IX→St→Prop) (s:St):Ja id K (.ext j) s=if j=id then K .nrm s else K (.ext j) s:=bP rfl
theorem OL (dr:List Nat) (K:IX→St→Prop) (s:St):OK dr K s=K .nrm ⟨dels dr s.env,s.heap⟩:=bP rfl
theorem OJ (r:List aS) (K:St→Prop) (s:St):Jf P r K s=fj P r s K:=bP rfl
theorem Jb (al:List (Nat×Nat)) (i:Nat) (r:List aR) (K:St→Prop) (hist:List HI) (s:St):yp P al i r K hist s=gz P al i r hist s K:=bP rfl
theorem TC (K:St→Prop) (s:St) (d:Option Nat) (v:AV) (e:bc):An K s d v e=K ((s.eff e).put d v):=bP rfl
theorem OG (al:List (Nat×Nat)) (i:Nat) (bf:List Nat) (op:ik) (hist:List HI) (K:List HI→St→Prop) (s:St) (d:Option Nat) (v:AV) (e:bc):Jc al i bf op hist K s d v e =
 (dW op s e=true∧fG bf ⟨i,cD op s.env,aP v++e.ids,e.tch,e.isReb,e.isPut⟩ hist=true∧pR al bf ⟨i,cD op s.env,aP v++e.ids,e.tch,e.isReb,e.isPut⟩=true ∧
  K (⟨i,cD op s.env,aP v++e.ids,e.tch,e.isReb,e.isPut⟩ :: hist) ((s.eff e).put d v)):=rfl
theorem xw (K:AV→bc→Prop) (v:AV) (e:bc):dd K (some (v,e))=K v e:=bP rfl
theorem xy (A:Prop) (K:AV→bc→Prop) (v:AV) (e:bc):Ga A K (some (v,e))=K v e:=bP rfl
theorem xx (A:Prop) (K:AV→bc→Prop):Ga A K none=A:=bP rfl
theorem A4 (K:AV→bc→Prop) (c:Prop) [Decidable c] (x:Option (AV×bc)):dd K (if c then x else none)=(c∧dd K x):=by
 by_cases h:c<;>simp [h,dd]
theorem xu (K:AV→bc→Prop) (c:Prop) [Decidable c] (x:Option (AV×bc)):dd K (if c then none else x)=(¬c∧dd K x):=by
 by_cases h:c<;>simp [h,dd]
theorem Vq (v:AV):res (some v)=some (v,.no):=rfl
theorem PX (c:Prop) [Decidable c] (x:Option AV):res (if c then x else none)=if c then res x else none:=by split<;>rfl
theorem Kk (c:Prop) [Decidable c] (x:Option AV):res (if c then none else x)=if c then none else res x:=by split<;>rfl
theorem Ge (t:Bool) (a b:Prop):GU (.bool t) a b=((t=true→a)∧(t=false→b)):=bP rfl
@[congr] theorem Q1 {x x':AV} {a b:Prop} (h:x=x'):GU x a b=GU x' a b:=by rw [h]
theorem LL (a b:Prop):GU (.bool true) a b=a:=by simp [GU]
theorem DT (t:Bool) (a b c:Prop):wC (.bool t) a b c=((t=true→a)∧(t=false→b)):=rfl
@[congr] theorem QN {x x':AV} {a b c:Prop} (h:x=x'):wC x a b c=wC x' a b c:=by rw [h]
theorem Oj (a b c:Prop):wC (.bool true) a b c=a:=by simp [wC]
theorem Oi (a b c:Prop):wC (.bool false) a b c=b:=by simp [wC]
theorem Ok (a b c:Prop):wC (.tup []) a b c=c:=by simp [wC]
theorem Qi (a b:Prop):GU (.bool true) a b=a:=LL a b
theorem LJ (a b:Prop):GU (.bool false) a b=b:=by simp [GU]
theorem Ey (s:St) (K:IX→St→Prop):ii P .skip s K=K .nrm s:=bP rfl
theorem I6 (s:St) (K:IX→St→Prop):ii P .ret s K=K .ret s:=bP rfl
theorem Ew (id:Nat) (s:St) (K:IX→St→Prop):ii P (.exit id) s K=K (.ext id) s:=bP rfl
theorem I7 (x y:bE) (s:St) (K:IX→St→Prop):ii P (.seq x y) s K=ii P x s (Jg P y K):=bP rfl
theorem Al (id:Nat) (x:bE) (s:St) (K:IX→St→Prop):ii P (.block id x) s K=ii P x s (Ja id K):=bP rfl
theorem Eu (v:IV) (t e:bE) (s:St) (K:IX→St→Prop):ii P (.cond v t e) s K=GU (val (get s.env) v) (ii P t (refine v true s) K) (ii P e (refine v false s) K):=bP rfl
theorem I5 (ops:List aS) (dr:List Nat) (s:St) (K:IX→St→Prop):ii P (.reg ops dr) s K=fj P ops s (OK dr K):=bP rfl
def Tz (P:Program) [bU P] (f:Nat) (R:List (Nat×aR)) (K:St→Prop) (s:St):Prop:=rY P f R s K
def aan (P:Program) [bU P] (f:Nat) (R:List (Nat×aR)) (s:St) (K:St→Prop) (t:Nat×aR):Prop:=fj P [t.2.o] s (Tz P f (R.filter fun q=>q.1 != t.1) K)
theorem Ev (ops:List aR) (al:List (Nat×Nat)) (dr:List Nat) (s:St) (K:IX→St→Prop):ii P (.draw ops al dr) s K=gz P al 0 ops [] (kills (al.map (·.1)) s) (OK dr K):=bP rfl
theorem Er (s:St) (K:St→Prop):fj P [] s K=K s:=bP rfl
theorem Ak (d:Option Nat) (op:ik) (r:List aS) (s:St) (K:St→Prop):fj P (⟨d,op,none⟩ :: r) s K=iA P ⟨d,op,none⟩ s (Jf P r K):=bP rfl
theorem tf (d:Option Nat) (op:ik) (k:Nat) (r:List aS) (s:St) (K:St→Prop):fj P (⟨d,op,some (k,true)⟩ :: r) s K =
  wC (get s.env k) (iA P ⟨d,op,none⟩ (s.put (some k) (.bool true)) (Jf P r K)) (fj P r ((s.put (some k) (.bool false)).put d (.tup [])) K) (fj P r (s.put d (.tup [])) K):=bP rfl
theorem td (d:Option Nat) (op:ik) (k:Nat) (r:List aS) (s:St) (K:St→Prop):fj P (⟨d,op,some (k,false)⟩ :: r) s K =
  wC (get s.env k) (fj P r ((s.put (some k) (.bool true)).put d (.tup [])) K) (iA P ⟨d,op,none⟩ (s.put (some k) (.bool false)) (Jf P r K)) (fj P r (s.put d (.tup [])) K):=by
 simp only [fj,wC]
 generalize get s.env k=x
 cases x with
 | bool t=>exact propext ⟨fun h=>⟨h.2,h.1⟩,fun h=>⟨h.2,h.1⟩⟩
 | tup l=>cases l<;>rfl
 | _=>rfl
theorem Af (al:List (Nat×Nat)) (i:Nat) (hist:List HI) (s:St) (K:St→Prop):gz P al i [] hist s K=K s:=bP rfl
theorem wK (al:List (Nat×Nat)) (i:Nat) (d:Option Nat) (op:ik) (bf:List Nat) (r:List aR) (hist:List HI) (s:St) (K:St→Prop) :
  gz P al i (⟨⟨d,op,none⟩,bf⟩ :: r) hist s K=fH P al i ⟨⟨d,op,none⟩,bf⟩ hist s (yp P al (i+1) r K):=bP rfl
theorem qH (al:List (Nat×Nat)) (i:Nat) (d:Option Nat) (op:ik) (k:Nat) (bf:List Nat) (r:List aR) (hist:List HI) (s:St) (K:St→Prop) :
  gz P al i (⟨⟨d,op,some (k,true)⟩,bf⟩ :: r) hist s K=wC (get s.env k) (fH P al i ⟨⟨d,op,none⟩,bf⟩ hist (s.put (some k) (.bool true)) (yp P al (i+1) r K))
   (gz P al (i+1) r (⟨i,[],[],[],false,false⟩ :: hist) ((s.put (some k) (.bool false)).put d (.tup [])) K) (gz P al (i+1) r (⟨i,[],[],[],false,false⟩ :: hist) (s.put d (.tup [])) K):=bP rfl
theorem qG (al:List (Nat×Nat)) (i:Nat) (d:Option Nat) (op:ik) (k:Nat) (bf:List Nat) (r:List aR) (hist:List HI) (s:St) (K:St→Prop) :
  gz P al i (⟨⟨d,op,some (k,false)⟩,bf⟩ :: r) hist s K=wC (get s.env k) (gz P al (i+1) r (⟨i,[],[],[],false,false⟩ :: hist) ((s.put (some k) (.bool true)).put d (.tup [])) K)
   (fH P al i ⟨⟨d,op,none⟩,bf⟩ hist (s.put (some k) (.bool false)) (yp P al (i+1) r K)) (gz P al (i+1) r (⟨i,[],[],[],false,false⟩ :: hist) (s.put d (.tup [])) K):=by
 simp only [gz,eG,wC]
 generalize get s.env k=x
 cases x with
 | bool t=>exact propext ⟨fun h=>⟨h.2,h.1⟩,fun h=>⟨h.2,h.1⟩⟩
 | tup l=>cases l<;>rfl
 | _=>rfl
def K8 (P:Program) [bU P] (f:AV) (args:List AV) (d:Option Nat) (s:St) (K:St→Prop):Prop :=
 match f with
 | .fn f caps=>if f<4000000 then ek P f=true∧cW P f (args++caps) d s K else ek P (f - 4000000)=true∧cW P (f - 4000000) (caps.take 1++args++caps.drop 1) d s K
 | _=>False
theorem DK (f:FuncId) (caps args:List AV) (d:Option Nat) (s:St) (K:St→Prop):K8 P (.fn f caps) args d s K=if f<4000000 then ek P f=true∧cW P f (args++caps) d s K else ek P (f - 4000000)=true∧cW P (f - 4000000) (caps.take 1++args++caps.drop 1) d s K:=bP rfl
def wH (P:Program) [bU P] (f:FuncId) (args:List AV) (i:Nat) (bf:List Nat) (op:ik) (d:Option Nat) (hist:List HI) (s:St) (K:List HI→St→Prop):Prop :=
 (∃args' r b,ae P f args' r∧(∀x∈args',aP x=[])∧aU (GI b (ak s.heap)) args args'∧(b=true→nU r=true)∧aP r=[] ∧
   dW op s .no=true∧fG bf ⟨i,cD op s.env,[],[],false,false⟩ hist=true∧K (⟨i,cD op s.env,[],[],false,false⟩ :: hist) (s.put d r)) ∨
 ∃k ob ob' Sb r,br P f args [(k,ob)] Sb (fun r' σ'=>r'=r∧σ'=[(k,ob')])∧Sb k∧ak s.heap k=some ob∧aP r=[]∧dF ob'=[]∧k∈cD op s.env ∧
   dW op s (.put k ob')=true∧fG bf ⟨i,cD op s.env,[],[k],false,true⟩ hist=true∧K (⟨i,cD op s.env,[],[k],false,true⟩ :: hist) ((s.eff (.put k ob')).put d r)
theorem Aa (al:List (Nat×Nat)) (i:Nat) (d:Option Nat) (f:FuncId) (args:List IV) (g:Option (Nat×Bool)) (bf:List Nat) (hist:List HI) (s:St) (K:List HI→St→Prop) :
  fH P al i ⟨⟨d,.call f args,g⟩,bf⟩ hist s K=wH P f (args.map (val (get s.env))) i bf (.call f args) d hist s K:=bP rfl
theorem AF (d:Nat) (t:TypeId) (st:Nat) (rows:List (List AV)) (ps:List (Nat×IV)) (g:Option (Nat×Bool)) (s:St) (K:St→Prop):vn ⟨some d,.bsl t st rows ps,g⟩ s K=dd (An K (s.kill d) (some d)) (bA d (.bsl t st rows ps) (val (get (s.kill d).env)) (ak (s.kill d).heap)):=bP rfl
def RI (K:St→Prop) (s:St) (d:Option Nat) (n:Nat) (o:ik):Prop:=dd (An K s d) (bA n o (val (get s.env)) (ak s.heap))
theorem Ws (K:St→Prop) (s:St) (d:Option Nat) (n:Nat) (o:ik):RI K s d n o=dd (An K s d) (bA n o (val (get s.env)) (ak s.heap)):=bP rfl
def RD (al:List (Nat×Nat)) (i:Nat) (bf:List Nat) (hist:List HI) (K:List HI→St→Prop) (s:St) (d:Option Nat) (n:Nat) (o:ik):Prop:=dd (Jc al i bf o hist K s d) (bA n o (val (get s.env)) (ak s.heap))
theorem Wr (al:List (Nat×Nat)) (i:Nat) (bf:List Nat) (hist:List HI) (K:List HI→St→Prop) (s:St) (d:Option Nat) (n:Nat) (o:ik):RD al i bf hist K s d n o=dd (Jc al i bf o hist K s d) (bA n o (val (get s.env)) (ak s.heap)):=bP rfl
attribute [go_sem] Ws Wr
section
variable (g:Option (Nat×Bool)) (s:St) (K:St→Prop)
theorem Ef (d:Option Nat) (f:FuncId) (args:List IV):iA P ⟨d,.call f args,g⟩ s K=cW P f (args.map (val (get s.env))) d s K:=bP rfl
theorem Ah (d:Option Nat) (f:IV) (args:List IV):iA P ⟨d,.callv f args,g⟩ s K=K8 P (val (get s.env) f) (args.map (val (get s.env))) d s K:=bP rfl
theorem IZ (d:Option Nat) (x:IV):iA P ⟨d,.mov x,g⟩ s K=RI K s d 0 (.mov x):=bP rfl
theorem Em (d:Option Nat) (c a b:IV):iA P ⟨d,.pick c a b,g⟩ s K=RI K s d 0 (.pick c a b):=bP rfl
theorem Ag (d:Option Nat) (cs:List AV) (ps:List (Nat×Nat×IV)):iA P ⟨d,.build cs ps,g⟩ s K=RI K s d 0 (.build cs ps):=bP rfl
theorem Ei (d:Option Nat) (n:Option Nat) (p:IV):iA P ⟨d,.load n p,g⟩ s K=RI K s d 0 (.load n p):=bP rfl
theorem Aj (d:Option Nat) (n:Nat) (p x:IV):iA P ⟨d,.store n p x,g⟩ s K=RI K s d 0 (.store n p x):=bP rfl
theorem Eg (d:Option Nat) (o:Nat) (p:IV):iA P ⟨d,.fadr o p,g⟩ s K=RI K s d 0 (.fadr o p):=bP rfl
theorem Eh (d:Option Nat) (st:Nat) (x q:IV):iA P ⟨d,.iadr st x q,g⟩ s K=RI K s d 0 (.iadr st x q):=bP rfl
theorem IY (d:Option Nat) (m:Bool) (x y:IV):iA P ⟨d,.mnx m x y,g⟩ s K=RI K s d 0 (.mnx m x y):=bP rfl
theorem I3 (d:Option Nat) (st:Nat) (x:IV) (lo hi mx:Option IV):iA P ⟨d,.slc st x lo hi mx,g⟩ s K=RI K s d 0 (.slc st x lo hi mx):=bP rfl
theorem IT (d:Option Nat) (x:IV):iA P ⟨d,.len x,g⟩ s K=RI K s d 0 (.len x):=bP rfl
theorem Ep (d:Option Nat) (x:IV):iA P ⟨d,.slen x,g⟩ s K=RI K s d 0 (.slen x):=bP rfl
theorem Eq (d:Option Nat) (x:IV) (lo hi:Option IV):iA P ⟨d,.sslc x lo hi,g⟩ s K=RI K s d 0 (.sslc x lo hi):=bP rfl
theorem IL (d:Option Nat) (o:BinOp) (x y:IV):iA P ⟨d,.bin o x y,g⟩ s K=RI K s d 0 (.bin o x y):=bP rfl
theorem Ee (d:Option Nat) (o:BinOp) (x y:IV):iA P ⟨d,.bbin o x y,g⟩ s K=RI K s d 0 (.bbin o x y):=bP rfl
theorem Ek (d:Option Nat) (o:BinOp) (x y:IV):iA P ⟨d,.pbin o x y,g⟩ s K=RI K s d 0 (.pbin o x y):=bP rfl
theorem En (d:Option Nat) (o:BinOp) (ls:List LK) (x y:IV):iA P ⟨d,.sbin o ls x y,g⟩ s K=RI K s d 0 (.sbin o ls x y):=bP rfl
theorem Ow (d:Option Nat) (o:UnOp) (x:IV):iA P ⟨d,.un o x,g⟩ s K=RI K s d 0 (.un o x):=bP rfl
theorem IQ (d:Option Nat) (k:IntKind) (x:IV):iA P ⟨d,.cvi k x,g⟩ s K=RI K s d 0 (.cvi k x):=bP rfl
theorem IR (d:Option Nat) (x:IV):iA P ⟨d,.cvs x,g⟩ s K=RI K s d 0 (.cvs x):=bP rfl
theorem IS (d:Option Nat) (x:IV) (q:Nat):iA P ⟨d,.ext x q,g⟩ s K=RI K s d 0 (.ext x q):=bP rfl
theorem Ej (d:Option Nat) (x:IV):iA P ⟨d,.nchk x,g⟩ s K=RI K s d 0 (.nchk x):=bP rfl
theorem IU (d:Option Nat) (f:FuncId) (cs:List IV):iA P ⟨d,.mkf f cs,g⟩ s K=RI K s d 0 (.mkf f cs):=bP rfl
theorem Eo (d:Option Nat) (x q:IV):iA P ⟨d,.sidx x q,g⟩ s K=RI K s d 0 (.sidx x q):=bP rfl
theorem I0 (d:Nat) (t:TypeId) (cs:List AV):iA P ⟨some d,.new t cs,g⟩ s K=(d<1000∧dd (An K (s.kill d) (some d)) (bA d (.new t cs) (val (get (s.kill d).env)) (ak (s.kill d).heap))):=bP rfl
theorem IM (d:Nat) (t:TypeId) (n:Nat) (x:IV):iA P ⟨some d,.box t n x,g⟩ s K=(d<1000∧dd (An K (s.kill d) (some d)) (bA d (.box t n x) (val (get (s.kill d).env)) (ak (s.kill d).heap))):=bP rfl
theorem IN (d:Nat) (t:TypeId) (st:Nat) (rows:List (List AV)) (ps:List (Nat×IV)):iA P ⟨some d,.bsl t st rows ps,g⟩ s K=(d<1000∧Ga (Dm ⟨some d,.bsl t st rows ps,g⟩ s K) (An K (s.kill d) (some d)) (bA d (.bsl t st rows ps) (val (get (s.kill d).env)) (ak (s.kill d).heap))):=bP rfl
theorem IK (d:Nat) (t:TypeId) (st:Nat) (x y:IV):iA P ⟨some d,.app t st x y,g⟩ s K=(d<1000∧dd (An K (s.kill d) (some d)) (bA d (.app t st x y) (val (get (s.kill d).env)) (ak (s.kill d).heap))):=bP rfl
theorem IP (d:Nat) (t:TypeId) (x:IV):iA P ⟨some d,.cvb t x,g⟩ s K=(d<1000∧dd (An K (s.kill d) (some d)) (bA d (.cvb t x) (val (get (s.kill d).env)) (ak (s.kill d).heap))):=bP rfl
end
section
variable (al:List (Nat×Nat)) (i:Nat) (g:Option (Nat×Bool)) (bf:List Nat) (hist:List HI) (s:St) (K:List HI→St→Prop)
theorem D2 (d:Option Nat) (x:IV):fH P al i ⟨⟨d,.mov x,g⟩,bf⟩ hist s K=RD al i bf hist K s d 0 (.mov x):=bP rfl
theorem wI (d:Option Nat) (cs:List AV) (ps:List (Nat×Nat×IV)):fH P al i ⟨⟨d,.build cs ps,g⟩,bf⟩ hist s K=RD al i bf hist K s d 0 (.build cs ps):=bP rfl
theorem Ad (d:Option Nat) (n:Option Nat) (p:IV):fH P al i ⟨⟨d,.load n p,g⟩,bf⟩ hist s K=RD al i bf hist K s d 0 (.load n p):=bP rfl
theorem wJ (d:Option Nat) (n:Nat) (p x:IV):fH P al i ⟨⟨d,.store n p x,g⟩,bf⟩ hist s K=RD al i bf hist K s d 0 (.store n p x):=bP rfl
theorem Ab (d:Option Nat) (o:Nat) (p:IV):fH P al i ⟨⟨d,.fadr o p,g⟩,bf⟩ hist s K=RD al i bf hist K s d 0 (.fadr o p):=bP rfl
theorem Ac (d:Option Nat) (st:Nat) (x q:IV):fH P al i ⟨⟨d,.iadr st x q,g⟩,bf⟩ hist s K=RD al i bf hist K s d 0 (.iadr st x q):=bP rfl
theorem D4 (d:Option Nat) (st:Nat) (x:IV) (lo hi mx:Option IV):fH P al i ⟨⟨d,.slc st x lo hi mx,g⟩,bf⟩ hist s K=RD al i bf hist K s d 0 (.slc st x lo hi mx):=bP rfl
theorem D0 (d:Option Nat) (x:IV):fH P al i ⟨⟨d,.len x,g⟩,bf⟩ hist s K=RD al i bf hist K s d 0 (.len x):=bP rfl
theorem DV (d:Option Nat) (o:BinOp) (x y:IV):fH P al i ⟨⟨d,.bin o x y,g⟩,bf⟩ hist s K=RD al i bf hist K s d 0 (.bin o x y):=bP rfl
theorem DX (d:Option Nat) (k:IntKind) (x:IV):fH P al i ⟨⟨d,.cvi k x,g⟩,bf⟩ hist s K=RD al i bf hist K s d 0 (.cvi k x):=bP rfl
theorem DY (d:Option Nat) (x:IV):fH P al i ⟨⟨d,.cvs x,g⟩,bf⟩ hist s K=RD al i bf hist K s d 0 (.cvs x):=bP rfl
theorem DZ (d:Option Nat) (x:IV) (q:Nat):fH P al i ⟨⟨d,.ext x q,g⟩,bf⟩ hist s K=RD al i bf hist K s d 0 (.ext x q):=bP rfl
theorem Ae (d:Option Nat) (x:IV):fH P al i ⟨⟨d,.nchk x,g⟩,bf⟩ hist s K=RD al i bf hist K s d 0 (.nchk x):=bP rfl
theorem D3 (d:Nat) (t:TypeId) (cs:List AV):fH P al i ⟨⟨some d,.new t cs,g⟩,bf⟩ hist s K=RD al i bf hist K s (some d) d (.new t cs):=bP rfl
theorem DW (d:Nat) (t:TypeId) (st:Nat) (rows:List (List AV)) (ps:List (Nat×IV)):fH P al i ⟨⟨some d,.bsl t st rows ps,g⟩,bf⟩ hist s K=RD al i bf hist K s (some d) d (.bsl t st rows ps):=bP rfl
end
theorem Nn (d:Nat) (x:IV) (ρ:IV→AV) (h:Nat→Option ao):bA d (.mov x) ρ h=some (ρ x,.no):=rfl
def Fj (c a b:AV):Option (AV×bc) :=
 match c with
 | .bool true=>some (a,.no)
 | .bool false=>some (b,.no)
 | _=>none
theorem HA (d:Nat) (c a b:IV) (ρ:IV→AV) (h:Nat→Option ao):bA d (.pick c a b) ρ h=Fj (ρ c) (ρ a) (ρ b):=rfl
theorem JS (a b:AV):Fj (.bool true) a b=some (a,.no):=rfl
theorem JR (a b:AV):Fj (.bool false) a b=some (b,.no):=rfl
theorem Np (d:Nat) (t:TypeId) (cs:List AV) (ρ:IV→AV) (h:Nat→Option ao):bA d (.new t cs) ρ h=some (.mp d cs.length 0 0,.new d ⟨t,cs.length,[cs],true⟩):=bP rfl
def Rn (d:Nat) (t:TypeId) (n:Nat) (x:Option (List AV)):Option (AV×bc) :=
 match x with
 | some cs=>if cs.length=n∧(cs.all fun y=>!(mC d y))=true then some (.mp d n 0 0,.new d ⟨t,n,[cs],true⟩) else none
 | none=>none
theorem zD (d:Nat) (t:TypeId) (n:Nat) (cs:List AV):Rn d t n (some cs)=if cs.length=n∧(cs.all fun y=>!(mC d y))=true then some (.mp d n 0 0,.new d ⟨t,n,[cs],true⟩) else none:=rfl
theorem Nb (d:Nat) (t:TypeId) (n:Nat) (x:IV) (ρ:IV→AV) (h:Nat→Option ao):bA d (.box t n x) ρ h=Rn d t n (eF (ρ x)):=bP rfl
theorem Db (d:Nat) (cs:List AV) (ps:List (Nat×Nat×IV)) (ρ:IV→AV) (h:Nat→Option ao):bA d (.build cs ps) ρ h=res ((f9 ρ cs ps).map .agg):=bP rfl
def Nv (d:Nat) (t:TypeId) (st:Nat) (x:Option (List (List AV))):Option (AV×bc) :=
 match x with
 | some rs=>some (.ms d st 0 rs.length,.new d ⟨t,st,rs,false⟩)
 | none=>none
theorem zE (d:Nat) (t:TypeId) (st:Nat):Nv d t st none=none:=rfl
theorem zF (d:Nat) (t:TypeId) (st:Nat) (rs:List (List AV)):Nv d t st (some rs)=some (.ms d st 0 rs.length,.new d ⟨t,st,rs,false⟩):=rfl
theorem Nc (d:Nat) (t:TypeId) (st:Nat) (rows:List (List AV)) (ps:List (Nat×IV)) (ρ:IV→AV) (h:Nat→Option ao):bA d (.bsl t st rows ps) ρ h=Nv d t st (iE ρ st rows ps):=bP rfl
theorem Hx (d:Nat) (n:Option Nat) (p:IV) (ρ:IV→AV) (h:Nat→Option ao):bA d (.load n p) ρ h=res (kf n (ρ p) h):=bP rfl
def VL (x:Option bc):Option (AV×bc):=x.map fun e=>(.any,e)
theorem A5 (e:bc):VL (some e)=some (.any,e):=rfl
theorem Dd (d:Nat) (n:Nat) (p x:IV) (ρ:IV→AV) (h:Nat→Option ao):bA d (.store n p x) ρ h=VL (fD n (ρ p) (ρ x) h):=bP rfl
theorem Hv (d:Nat) (o:Nat) (p:IV) (ρ:IV→AV) (h:Nat→Option ao):bA d (.fadr o p) ρ h=res (rd o (ρ p)):=bP rfl
theorem Hw (d:Nat) (st:Nat) (x q:IV) (ρ:IV→AV) (h:Nat→Option ao):bA d (.iadr st x q) ρ h=res (ke st (ρ x) (ρ q)):=bP rfl
theorem Nl (d:Nat) (m:Bool) (x y:IV) (ρ:IV→AV) (h:Nat→Option ao):bA d (.mnx m x y) ρ h=res (zp m (ρ x) (ρ y)):=bP rfl
theorem Nq (d:Nat) (st:Nat) (x:IV) (lo hi mx:Option IV) (ρ:IV→AV) (h:Nat→Option ao):bA d (.slc st x lo hi mx) ρ h=res (qB st (ρ x) (lo.map ρ) (hi.map ρ) (mx.map ρ)):=bP rfl
theorem Nj (d:Nat) (x:IV) (ρ:IV→AV) (h:Nat→Option ao):bA d (.len x) ρ h=res (v7 (ρ x)):=bP rfl
theorem HD (d:Nat) (x:IV) (ρ:IV→AV) (h:Nat→Option ao):bA d (.slen x) ρ h=res (ut (ρ x)):=bP rfl
theorem M_ (d:Nat) (t:TypeId) (st:Nat) (x y:IV) (ρ:IV→AV) (h:Nat→Option ao):bA d (.app t st x y) ρ h=kb d t st (ρ x) (fZ st h (ρ y)) h:=bP rfl
theorem HE (d:Nat) (x:IV) (lo hi:Option IV) (ρ:IV→AV) (h:Nat→Option ao):bA d (.sslc x lo hi) ρ h=res (nL (ρ x) (lo.map ρ) (hi.map ρ)):=bP rfl
theorem Na (d:Nat) (o:BinOp) (x y:IV) (ρ:IV→AV) (h:Nat→Option ao):bA d (.bin o x y) ρ h=res (iq o (ρ x) (ρ y)):=bP rfl
theorem Hu (d:Nat) (o:BinOp) (x y:IV) (ρ:IV→AV) (h:Nat→Option ao):bA d (.bbin o x y) ρ h=res (q_ o (ρ x) (ρ y)):=bP rfl
theorem Hz (d:Nat) (o:BinOp) (x y:IV) (ρ:IV→AV) (h:Nat→Option ao):bA d (.pbin o x y) ρ h=res (lj o (ρ x) (ρ y)):=bP rfl
theorem HB (d:Nat) (o:BinOp) (ls:List LK) (x y:IV) (ρ:IV→AV) (h:Nat→Option ao):bA d (.sbin o ls x y) ρ h=res (jT o ls (ρ x) (ρ y)):=bP rfl
theorem Q8 (d:Nat) (o:UnOp) (x:IV) (ρ:IV→AV) (h:Nat→Option ao):bA d (.un o x) ρ h=res (QD o (ρ x)):=bP rfl
def SX (k:IntKind) (x:AV):Option (AV×bc) :=
 match x with
 | .int _ n=>some (.int k (k.wrap n),.no)
 | _=>none
theorem Dx (k k':IntKind) (n:Int):SX k (.int k' n)=some (.int k (k.wrap n),.no):=rfl
def SY (x:Option (List (List AV))):Option (AV×bc) :=
 match x with
 | some rows=>res ((f_ rows).map .str)
 | none=>none
theorem zL (rows:List (List AV)):SY (some rows)=res ((f_ rows).map .str):=rfl
def SW (d:Nat) (t:TypeId) (x:AV):Option (AV×bc) :=
 match x with
 | .str s=>if s.length<1073741824 then some (.ms d 1 0 s.length,.new d ⟨t,1,s.map fun b=>[.int .u8 b.toNat],false⟩) else none
 | _=>none
theorem Dw (d:Nat) (t:TypeId) (s:List UInt8):SW d t (.str s)=if s.length<1073741824 then some (.ms d 1 0 s.length,.new d ⟨t,1,s.map fun b=>[.int .u8 b.toNat],false⟩) else none:=rfl
def Td (i:Nat) (x:AV):Option (AV×bc) :=
 match x with
 | .tup vs=>res (vs[i]?)
 | _=>none
theorem DJ (i:Nat) (vs:List AV):Td i (.tup vs)=res (vs[i]?):=rfl
def yy (x:AV):Option (AV×bc) :=
 match x with
 | .mp id st row off=>some (.mp id st row off,.no)
 | .ip cells=>some (.ip cells,.no)
 | .fn f caps=>some (.fn f caps,.no)
 | _=>none
theorem EZ (id st row off:Nat):yy (.mp id st row off)=some (.mp id st row off,.no):=rfl
theorem EY (cells:List AV):yy (.ip cells)=some (.ip cells,.no):=rfl
theorem EX (f:FuncId) (caps:List AV):yy (.fn f caps)=some (.fn f caps,.no):=rfl
def Yh (x:AV):Option (AV×bc) :=
 match x with
 | .str s=>some (.str s,.no)
 | _=>none
theorem Dy (s:List UInt8):Yh (.str s)=some (.str s,.no):=rfl
def FV (x i:AV):Option (AV×bc) :=
 match x,i with
 | .str s,.int _ n=>if 0≤n then (match s[n.toNat]? with | some b=>some (.int .u8 b.toNat,.no) | none=>none) else none
 | _,_=>none
theorem A0 (K:AV→bc→Prop) (s:List UInt8) (k:IntKind) (n:Int):dd K (FV (.str s) (.int k n))=(0≤n∧n<s.length∧K (.int .u8 (ah s n.toNat).toNat) .no):=by
 simp only [FV]
 by_cases h:0≤n
 ·rw [aK h]
  by_cases h2:n.toNat<s.length
  ·rw [ig h2]
   rw [bD h2]
   simp only [dd]
   exact propext ⟨fun hk=>⟨h,by omega,hk⟩,fun hk=>hk.2.2⟩
  ·rw [List.getElem?_eq_none (by omega)]
   simp only [dd]
   exact propext ⟨fun hk=>hk.elim,fun hk=>by omega⟩
 ·rw [aD h]
  simp only [dd]
  exact propext ⟨fun hk=>hk.elim,fun hk=>absurd hk.1 h⟩
def Yy (d:Nat) (t:TypeId) (st:Nat) (zero:List AV) (l cp:AV):Option (AV×bc) :=
 match l,cp with
 | .int .i64 n,.int .i64 m=>if 0≤n∧n≤m∧m<1073741824∧zero.length=st then some (.ms d st 0 n.toNat,.new d ⟨t,st,List.replicate n.toNat zero,false⟩) else none
 | _,_=>none
theorem EN (d:Nat) (t:TypeId) (st:Nat) (zero:List AV) (n m:Int):Yy d t st zero (.int .i64 n) (.int .i64 m)=if 0≤n∧n≤m∧m<1073741824∧zero.length=st then some (.ms d st 0 n.toNat,.new d ⟨t,st,List.replicate n.toNat zero,false⟩) else none:=rfl
theorem Ng (d:Nat) (k:IntKind) (x:IV) (ρ:IV→AV) (h:Nat→Option ao):bA d (.cvi k x) ρ h=SX k (ρ x):=bP rfl
theorem Nh (d:Nat) (x:IV) (ρ:IV→AV) (h:Nat→Option ao):bA d (.cvs x) ρ h=SY (fZ 1 h (ρ x)):=bP rfl
theorem Nf (d:Nat) (t:TypeId) (x:IV) (ρ:IV→AV) (h:Nat→Option ao):bA d (.cvb t x) ρ h=SW d t (ρ x):=bP rfl
theorem Ni (d:Nat) (x:IV) (q:Nat) (ρ:IV→AV) (h:Nat→Option ao):bA d (.ext x q) ρ h=Td q (ρ x):=bP rfl
theorem Hy (d:Nat) (x:IV) (ρ:IV→AV) (h:Nat→Option ao):bA d (.nchk x) ρ h=yy (ρ x):=bP rfl
theorem HC (d:Nat) (x q:IV) (ρ:IV→AV) (h:Nat→Option ao):bA d (.sidx x q) ρ h=FV (ρ x) (ρ q):=bP rfl
theorem Nk (d:Nat) (f:FuncId) (cs:List IV) (ρ:IV→AV) (h:Nat→Option ao):bA d (.mkf f cs) ρ h=if (cs.map ρ).all H0=true then some (.fn f (cs.map ρ),.no) else none:=bP rfl
theorem Cy (k:IntKind) (a b:Int):iq .add (.int k a) (.int k b)=some (.int k (k.wrap (a+b))):=by cases k<;>rfl
theorem CL (k:IntKind) (a b:Int):iq .sub (.int k a) (.int k b)=some (.int k (k.wrap (a - b))):=by cases k<;>rfl
theorem CF (k:IntKind) (a b:Int):iq .mul (.int k a) (.int k b)=some (.int k (k.wrap (a * b))):=by cases k<;>rfl
theorem CA (k:IntKind) (a b:Int):iq .eql (.int k a) (.int k b)=some (.bool (a==b)):=by cases k<;>rfl
theorem CG (k:IntKind) (a b:Int):iq .neq (.int k a) (.int k b)=some (.bool (a != b)):=by cases k<;>rfl
theorem CE (k:IntKind) (a b:Int):iq .lss (.int k a) (.int k b)=some (.bool (decide (a<b))):=by cases k<;>rfl
theorem CD (k:IntKind) (a b:Int):iq .leq (.int k a) (.int k b)=some (.bool (decide (a≤b))):=by cases k<;>rfl
theorem CC (k:IntKind) (a b:Int):iq .gtr (.int k a) (.int k b)=some (.bool (decide (a>b))):=by cases k<;>rfl
theorem CB (k:IntKind) (a b:Int):iq .geq (.int k a) (.int k b)=some (.bool (decide (a≥b))):=by cases k<;>rfl
theorem CH (k:IntKind) (a b:Int):iq .quo (.int k a) (.int k b)=if b=0 then none else some (.int k (k.wrap (a.tdiv b))):=by cases k<;>rfl
theorem CI (k:IntKind) (a b:Int):iq .rem (.int k a) (.int k b)=if b=0 then none else some (.int k (a.tmod b)):=by cases k<;>rfl
def Di (k:IntKind) (a b:Int):Int:=k.wrap ((BitVec.ofInt k.bits a &&& BitVec.ofInt k.bits b).toNat)
theorem Cz (k:IntKind) (a b:Int):iq .and (.int k a) (.int k b)=some (.int k (Di k a b)):=by cases k<;>rfl
def Nu (k:IntKind) (a b:Int):Int:=k.wrap ((BitVec.ofInt k.bits a ||| BitVec.ofInt k.bits b).toNat)
theorem Hf (k:IntKind) (a b:Int):iq .or (.int k a) (.int k b)=some (.int k (Nu k a b)):=by cases k<;>rfl
def aak (k:IntKind) (a b:Int):Int:=k.wrap ((BitVec.ofInt k.bits a ^^^ BitVec.ofInt k.bits b).toNat)
def Rk (k:IntKind) (a b:Int):Int:=k.wrap ((BitVec.ofInt k.bits a &&& ~~~ (BitVec.ofInt k.bits b)).toNat)
def Dj (k:IntKind) (a b:Int):Int:=k.wrap (a * 2 ^ (min b.toNat k.bits))
def re (k:IntKind) (a b:Int):Int:=a.fdiv (2 ^ (min b.toNat k.bits))
theorem CJ (k k1:IntKind) (a b:Int):iq .shl (.int k a) (.int k1 b)=if b<0 then none else some (.int k (Dj k a b)):=bP rfl
theorem CK (k k1:IntKind) (a b:Int):iq .shr (.int k a) (.int k1 b)=if b<0 then none else some (.int k (re k a b)):=bP rfl
theorem zk (a b:List UInt8):iq .add (.str a) (.str b)=if a.length+b.length<4611686018427387904 then some (.str (a++b)) else none:=bP rfl
theorem zl (a b:List UInt8):iq .eql (.str a) (.str b)=some (.bool (a==b)):=bP rfl
theorem zm (a b:List UInt8):iq .neq (.str a) (.str b)=some (.bool (!(a==b))):=bP rfl
theorem zi (a b:Bool):q_ .eql (.bool a) (.bool b)=some (.bool (a==b)):=rfl
theorem zj (a b:Bool):q_ .neq (.bool a) (.bool b)=some (.bool (!(a==b))):=rfl
theorem Ht (a:Bool):QD .not (.bool a)=some (.bool (!a)):=rfl
theorem Hs (k:IntKind) (n:Int):QD .neg (.int k n)=some (.int k (k.wrap (0 - n))):=rfl
theorem Hm (l:LK) (ls:List LK) (xs ys:List AV):jT .eql (l :: ls) (.agg xs) (.agg ys)=(fC (l :: ls) xs ys).map .bool:=rfl
theorem Hn (l:LK) (ls:List LK) (xs ys:List AV):jT .neq (l :: ls) (.agg xs) (.agg ys)=(fC (l :: ls) xs ys).map fun b=>.bool (!b):=rfl
theorem C4 (f:FuncId) (cs:List AV):jT .eql [] (.fn f cs) .nf=some (.bool false):=rfl
theorem C5 (f:FuncId) (cs:List AV):jT .neq [] (.fn f cs) .nf=some (.bool true):=rfl
theorem C6:jT .eql [] .nf .nf=some (.bool true):=rfl
theorem C7:jT .neq [] .nf .nf=some (.bool false):=rfl
theorem M9:fC [] [] []=some true:=rfl
def sqK (p:Option Bool) (q:Option Bool):Option Bool:=match p,q with
 | some p,some q=>some (p&&q)
 | _,_=>none
theorem FZ (p q:Bool):sqK (some p) (some q)=some (p&&q):=rfl
theorem M8 (l:LK) (ls:List LK) (x y:AV) (xs ys:List AV):fC (l :: ls) (x :: xs) (y :: ys)=sqK (fI l x y) (fC ls xs ys):=rfl
theorem EE (p q:Bool):fI .b (.bool p) (.bool q)=some (p==q):=rfl
theorem EF (k:IntKind) (p q:Int):fI .i (.int k p) (.int k q)=some (p==q):=by simp [fI]
theorem EG (p q:List UInt8):fI .s (.str p) (.str q)=some (p==q):=rfl
theorem CY:lj .eql .np .np=some (.bool true):=rfl
theorem CZ (id st row off:Nat):lj .eql (.mp id st row off) .np=some (.bool false):=rfl
theorem C0 (cells:List AV):lj .eql (.ip cells) .np=some (.bool false):=rfl
theorem C1:lj .neq .np .np=some (.bool false):=rfl
theorem C2 (id st row off:Nat):lj .neq (.mp id st row off) .np=some (.bool true):=rfl
theorem C3 (cells:List AV):lj .neq (.ip cells) .np=some (.bool true):=rfl
theorem Hj (st:Nat) (rows:List (List AV)):v7 (.sl st rows)=some (.int .i64 rows.length):=rfl
theorem Hh (id st off len:Nat):v7 (.ms id st off len)=some (.int .i64 len):=rfl
theorem Hi:v7 .nl=some (.int .i64 0):=rfl
theorem zt (s:List UInt8):ut (.str s)=some (.int .i64 s.length):=rfl
theorem CQ (n:Option Nat) (cells:List AV) (h:Nat→Option ao):kf n (.ip cells) h=pE n cells:=rfl
def OR (n:Option Nat) (st row off:Nat) (o:Option ao):Option AV :=
 match o with
 | some o=>if o.st=st then (match o.rows[row]? with | some r=>pE n (r.drop off) | none=>none) else none
 | none=>none
theorem CR (n:Option Nat) (id st row off:Nat) (h:Nat→Option ao):kf n (.mp id st row off) h=OR n st row off (h id):=rfl
theorem Jl (n:Option Nat) (st off:Nat) (t:TypeId) (r:List AV) (b:Bool):OR n st 0 off (some ⟨t,st,[r],b⟩)=pE n (r.drop off):=by simp [OR]
theorem Jk {α:Type} [Inhabited α] (K:AV→bc→Prop) (n:Option Nat) (st row off:Nat) (t:TypeId) (l:List α) (f:α→List AV) (b:Bool) :
  dd K (res (OR n st row off (some ⟨t,st,l.map f,b⟩)))=(row<l.length∧dd K (res (pE n ((f (ah l row)).drop off)))):=by
 simp only [OR,bF]
 by_cases h2:row<l.length
 ·rw [gw,ig h2,bD h2]
  simp [h2]
 ·rw [List.getElem?_eq_none (by simpa using h2)]
  simp [h2,res,dd]
theorem TD (x:AV) (r:List AV):pE none (x :: r)=some x:=rfl
theorem TE (n:Nat) (r:List AV):pE (some n) r=if n≤r.length then some (.agg (r.take n)) else none:=rfl
def Wf (id n st row off:Nat) (o:Option ao) (cs:Option (List AV)):Option bc :=
 match cs with
 | some cs=>match o with
  | some o=>if o.st=st∧cs.length=n∧(o.isRec||cs.all py)=true then (match o.rows[row]? with
   | some r=>if off+n≤r.length then some (.put id { o with rows:=o.rows.set row (gu r off cs) }) else none
   | none=>none) else none
  | none=>none
 | none=>none
theorem zw (n id st row off:Nat) (x:AV) (h:Nat→Option ao):fD n (.mp id st row off) x h=Wf id n st row off (h id) (eF x):=by
 unfold fD Wf
 cases eF x<;>rfl
theorem KB (id n st off:Nat) (t:TypeId) (r cs:List AV):Wf id n st 0 off (some ⟨t,st,[r],true⟩) (some cs)=if cs.length=n∧off+n≤r.length then some (.put id ⟨t,st,[gu r off cs],true⟩) else none:=by
 simp only [Wf,true_and,lZ,and_true,List.getElem?_cons_zero,List.set_cons_zero]
 by_cases h1:cs.length=n<;>by_cases h2:off+n≤r.length<;>simp [h1,h2]
theorem CM (off:Nat) (cells:List AV):rd off (.ip cells)=some (.ip (cells.drop off)):=rfl
theorem CN (off id st row o:Nat):rd off (.mp id st row o)=some (.mp id st row (o+off)):=rfl
theorem CO (off:Nat) (n:Option Nat) (cells:List AV):Hg off n (.agg cells)=pE n (cells.drop off):=rfl
theorem zo {α:Type} [Inhabited α] (K:AV→bc→Prop) (st:Nat) (l:List α) (f:α→List AV) (k:IntKind) (n:Int) :
  dd K (res (ke st (.sl st (l.map f)) (.int k n)))=(0≤n∧n<l.length∧K (.ip (f (ah l n.toNat))) .no):=by
 simp only [ke,true_and]
 by_cases h:0≤n
 ·rw [aK h]
  by_cases h2:n.toNat<l.length
  ·rw [gw,ig h2,bD h2]
   simp only [fe,res,dd]
   exact propext ⟨fun hk=>⟨h,by omega,hk⟩,fun hk=>hk.2.2⟩
  ·rw [List.getElem?_eq_none (by simp;omega)]
   exact propext ⟨fun hk=>hk.elim,fun hk=>by omega⟩
 ·rw [aD h]
  exact propext ⟨fun hk=>hk.elim,fun hk=>absurd hk.1 h⟩
theorem Cw (st n:Nat) (cells:List AV) (k:IntKind) (j:Int):uo st n (.ip cells) (.int k j)=if 0≤j∧j<n then some (.ip (cells.drop (j.toNat * st))) else none:=rfl
theorem Cx (st n id s row off:Nat) (k:IntKind) (j:Int):uo st n (.mp id s row off) (.int k j)=if 0≤j∧j<n then some (.mp id s row (off+j.toNat * st)) else none:=rfl
def aaJ (id st off len:Nat) (o:Option ao):Option (AV×bc) :=
 match o with
 | some o=>if st=1∧o.st=1∧o.isRec=false∧0<len then some (.ms id st off len,.put id o) else none
 | none=>none
theorem C8 (s:List UInt8) (n:Int):Ho (.str s) (.int .u8 n)=some (.int .i64 (Kw s n.toNat.toUInt8)):=rfl
def aaI (id st off len:Nat) (ys:List (List AV)) (o:Option ao):Option (AV×bc) :=
 match o with
 | some o=>if o.st=st∧o.isRec=false∧off+len≤o.rows.length∧ys.length≤len then some (.int .i64 ys.length,.put id { o with rows:=o.rows.take off++ys++o.rows.drop (off+ys.length) }) else none
 | none=>none
theorem CV (k:IntKind) (n m:Int):zp true (.int k n) (.int k m)=some (.int k (if n<m then m else n)):=by simp [zp]
theorem CP (id st off len:Nat) (k:IntKind) (n:Int):ke st (.ms id st off len) (.int k n)=if 0≤n∧n<len then some (.mp id st (off+n.toNat) 0) else none:=by simp [ke]
theorem C9 (id st off len:Nat) (k:IntKind) (n:Int):qB st (.ms id st off len) none (some (.int k n)) none=if 0≤n∧n≤len then some (.ms id st off n.toNat) else none:=by
 simp only [qB,cK]
 by_cases h:0≤n<;>by_cases h2:n≤len<;>simp [h,h2]<;>omega
theorem C_ {α:Type} (st:Nat) (f:α→List AV) (l:List α) (k:IntKind) (n:Int):qB st (.sl st (l.map f)) (some (.int k n)) none none=if 0≤n∧n≤l.length then some (.sl st ((l.drop n.toNat).map f)) else none:=by
 simp only [qB,cK]
 have:(l.drop n.toNat).map f=List.take (l.length - n.toNat) (List.drop n.toNat (l.map f)):=by rw [List.map_drop,dS (by simp)]
 by_cases h:0≤n<;>by_cases h2:n≤l.length<;>simp [h,h2,this]<;>omega
theorem Hp (s:List UInt8) (k:IntKind) (n:Int):nL (.str s) none (some (.int k n))=if 0≤n∧n≤s.length then some (.str (s.take n.toNat)) else none:=by
 simp only [nL,cK]
 by_cases h:0≤n<;>by_cases h2:n≤s.length<;>simp [h,h2]<;>omega
theorem Hq (s:List UInt8) (k:IntKind) (n:Int):nL (.str s) (some (.int k n)) none=if 0≤n∧n≤s.length then some (.str (s.drop n.toNat)) else none:=by
 simp only [nL,cK]
 have:s.drop n.toNat=List.take (s.length - n.toNat) (List.drop n.toNat s):=by rw [dS (by simp)]
 by_cases h:0≤n<;>by_cases h2:n≤s.length<;>simp [h,h2,← this]<;>omega
theorem He (d:Nat) (t:TypeId) (st:Nat) (ys:List (List AV)) (h:Nat→Option ao):kb d t st .nl (some ys) h=if ys.length<137438953472 then some (.ms d st 0 ys.length,.new d ⟨t,st,ys,false⟩) else none:=rfl
def l8 (id:Nat) (t:TypeId) (st off len:Nat) (ys:List (List AV)) (o:Option ao):Option (AV×bc) :=
 if ys.length<137438953472 then (match o with
   | some o=>if o.st=st∧o.t=t∧o.isRec=false∧off=0∧len≤o.rows.length∧len<137438953472∧(id<1000∨2000≤id)∧o.k.flat=true then
     some (.ms id st 0 (len+ys.length),.reb id ⟨t,st,o.rows.take len++ys,false⟩) else none
   | none=>none) else none
theorem Hd (d id:Nat) (t:TypeId) (st off len:Nat) (ys:List (List AV)) (h:Nat→Option ao):kb d t st (.ms id st off len) (some ys) h=l8 id t st off len ys (h id):=by
 simp only [kb,l8,true_and]
 cases h id<;>rfl
theorem pn:Kd.flat instKd=true:=rfl
theorem zA (id:Nat) (t:TypeId) (st len:Nat) (rows ys:List (List AV)) (hl:rows.length=len):l8 id t st 0 len ys (some ⟨t,st,rows,false⟩) =
  if ys.length<137438953472∧len<137438953472∧(id<1000∨2000≤id) then some (.ms id st 0 (len+ys.length),.reb id ⟨t,st,rows++ys,false⟩) else none:=by
 subst hl
 simp only [l8,true_and,bj,dj,pn,and_true]
 by_cases h1:ys.length<137438953472<;>simp [h1]
theorem FJ (st:Nat) (h:Nat→Option ao):fZ st h .nl=some []:=rfl
theorem FK (st:Nat) (h:Nat→Option ao) (rows:List (List AV)):fZ st h (.sl st rows)=some rows:=by simp [fZ]
def xi (st off len:Nat) (o:Option ao):Option (List (List AV)) :=
 match o with
 | some o=>if o.st=st∧o.isRec=false∧off+len≤o.rows.length then some ((o.rows.drop off).take len) else none
 | none=>none
theorem FI (st:Nat) (h:Nat→Option ao) (id off len:Nat):fZ st h (.ms id st off len)=xi st off len (h id):=by simp only [fZ,xi,true_and];cases h id<;>rfl
theorem se (st len:Nat) (t:TypeId) (rows:List (List AV)) (hl:rows.length=len):xi st 0 len (some ⟨t,st,rows,false⟩)=some rows:=by subst hl;simp [xi]
theorem F_ (s:List UInt8):Kz (.str s)=some (s.map fun b=>[.int .u8 b.toNat]):=rfl
theorem zJ {f:FuncId} {args args':List AV} {d:Option Nat} {s:St} {K:St→Prop} {r:AV} (hp:ae P f args' r) (hid:∀x∈args',aP x=[]) (hc:aU (GI false (ak s.heap)) args args') (hk:K (s.put d r)):cW P f args d s K :=
 .inl (.inl ⟨args',r,false,hp,hid,hc,(fun h=>by cases h),hk⟩)
theorem aU.refl_coe (b:Bool) (h:Nat→Option ao):∀l:List AV,aU (GI b h) l l
 | []=>trivial
 | _ :: r=>⟨.inl rfl,aU.refl_coe b h r⟩
theorem ck {f:FuncId} {args:List AV} {d:Option Nat} {s:St} {K:St→Prop} {r:AV} (hp:ae P f args r) (hid:∀x∈args,aP x=[]) (hk:K (s.put d r)):cW P f args d s K :=
 zJ hp hid (aU.refl_coe _ _ args) hk
theorem i5 {f:FuncId} {args:List AV} {d:Option Nat} {s:St} {K:St→Prop} {r:AV} (fs:List Nat) {args':List AV} (ha:args.map (mg fs s)=args') (hp:ae P f args' r) (hid:∀x∈args',aP x=[]) (hk:K ((frzs fs s).put d r)):cW P f args d s K:=by
 subst ha
 exact .inr (.inl ⟨fs,.inl ⟨_,r,false,hp,hid,aU.refl_coe _ _ _,(fun h=>by cases h),hk⟩⟩)
theorem aB {f:FuncId} {args:List AV} {i:Nat} {bf:List Nat} {op:ik} {d:Option Nat} {hist:List HI} {s:St} {K:List HI→St→Prop} {r:AV} (hp:ae P f args r) (hid:∀x∈args,aP x=[]) (hr:aP r=[])
  (hk:dW op s .no=true∧fG bf ⟨i,cD op s.env,[],[],false,false⟩ hist=true∧K (⟨i,cD op s.env,[],[],false,false⟩ :: hist) (s.put d r)):wH P f args i bf op d hist s K :=
 .inl ⟨args,r,false,hp,hid,aU.refl_coe _ _ args,(fun h=>by cases h),hr,hk⟩
theorem yu:∀{l:List (Nat×AV)} {k:Nat},get l k = .any∨(k,get l k)∈l
 | [],k=>.inl rfl
 | (j,x) :: r,k=>by
  simp only [get]
  split
  ·rename_i h;subst h;exact .inr (by simp)
  ·rcases yu (l:=r) (k:=k) with h | h
   ·exact .inl h
   ·exact .inr (by simp [h])
theorem dL:∀{l:List (Nat×ao)} {k:Nat} {o:ao},ak l k=some o→(k,o)∈l
 | [],k,o,h=>by simp [ak] at h
 | (j,x) :: r,k,o,h=>by
  simp only [ak] at h
  split at h
  ·rename_i hj;cases h;subst hj;simp
  ·simp [dL h]
theorem bZ.le {c:li} {a:Act} {w:World} {s s':St} (hs:bZ c s a w) (h1:∀p∈s'.env,get s.env p.1=p.2) (h2:∀p∈s'.heap,ak s.heap p.1=some p.2):bZ c s' a w:=by
 obtain ⟨bl,hs⟩:=hs
 refine ⟨bl,hs.weaken (fun k=>?_) (fun i o hi=>h2 (i,o) (dL hi))⟩
 rcases yu (l:=s'.env) (k:=k) with h | h
 ·exact .inl h
 ·exact .inr (h1 _ h).symm
theorem Wk.refl (s:St):Wk s s:=fun _ _ _ h=>h
theorem Wk.trans {s s' s'':St} (h:Wk s s') (h':Wk s' s''):Wk s s'':=fun c a w hs=>h' c a w (h c a w hs)
theorem Wk.le {s s':St} (h1:∀p∈s'.env,get s.env p.1=p.2) (h2:∀p∈s'.heap,ak s.heap p.1=some p.2):Wk s s':=fun _ _ _ hs=>hs.le h1 h2
theorem Wk.frz (s:St) (i:Nat):Wk s (s.frz i):=fun _ _ _ hs=>hs.frz i
def Ll {α:Type} (S:α→St) (p:α→Prop) (m:α→Nat) (q:α) (K:IX→St→Prop) (e:IX) (s:St):Prop :=
 match e with
 | .nrm=>∃q',p q'∧m q'<m q∧Wk s (S q')
 | e=>K e s
theorem aC {α:Type} {S:α→St} {p:α→Prop} {m:α→Nat} {q:α} {K:IX→St→Prop} {s:St} (q':α) (h1:p q') (h2:m q'<m q) (h3:Wk s (S q')):Ll S p m q K .nrm s:=⟨q',h1,h2,h3⟩
theorem TA {α:Type} (S:α→St) (p:α→Prop) (m:α→Nat) (q:α) (K:IX→St→Prop) (s:St):Ll S p m q K .ret s=K .ret s:=bP rfl
theorem TB {α:Type} (S:α→St) (p:α→Prop) (m:α→Nat) (q:α) (K:IX→St→Prop) (j:Nat) (s:St):Ll S p m q K (.ext j) s=K (.ext j) s:=bP rfl
theorem an {α:Type} (S:α→St) (p:α→Prop) (m:α→Nat) {x:bE} {s:St} {K:IX→St→Prop} (q:α) (h1:p q) (h2:Wk s (S q))
  (hstep:∀q,p q→ii P x (S q) (Ll S p m q K)):ii P (.loop x) s K:=by
 refine ⟨fun n s=>∃q,p q∧m q=n∧s=S q,⟨m q,S q,⟨q,h1,rfl,rfl⟩,h2⟩,?_⟩
 rintro n s ⟨q,h3,rfl,rfl⟩
 refine uX _ _ _ _ (fun e s' hh=>?_) (hstep q h3)
 cases e with
 | nrm=>obtain ⟨q',h4,h5,h6⟩:=hh;exact ⟨m q',S q',h5,⟨q',h4,rfl,rfl⟩,h6⟩
 | _=>exact hh
def kmt {α:Type} (S:α→St) (p:α→Prop) (K:IX→St→Prop) (e:IX) (s:St):Prop :=
 match e with
 | .nrm=>∃q,p q∧Wk s (S q)
 | e=>K e s
theorem au {l:List iL} {r:AV} {s:St} (fs:List Nat) (h:ku l (frzs fs s)=some r) (h2:aP r=[]):oT l r .ret s:=⟨(fun _ h=>by cases h),s,Wk.refl s,fs,h,h2⟩
theorem aj {l:List iL} {r:AV} {s:St} (h:ku l (frzs [] s)=some r:=by simp only [go_sem]) (h2:aP r=[]:=by first | rfl | simp [go_sem,ac]):oT l r .ret s:=au [] h h2
theorem aI {l:List iL} {r:AV} {s:St} (h:ku l (frzs [] s)=some r:=by rfl) (h2:aP r=[]:=by rfl):oT l r .ret s:=au [] h h2
theorem aa {f:FuncId} {args:List AV} {d:Option Nat} {s:St} {K:St→Prop} {r:AV} (hp:ae P f args r) (hk:K (s.put d r)) (hid:∀x∈args,aP x=[]:=by simp [go_sem]):cW P f args d s K:=ck hp hid hk
end
attribute [go_sem] IZ D2 Em Ag wI Ei Ad Aj wJ Eg Ab Eh Ac IY I3 D4 IT D0 Ep Eq IL DV Ee Ek En Ow IQ DX IR DY IS DZ Ej Ae IU Eo I0 D3 IM IN DW IK IP
attribute [go_sem] Nn HA Np Nb Db Nc Hx Dd Hv Hw Nl Nq Nj HD M_ HE Na Hu Hz HB Q8 Ng Nh Nf Ni Hy HC Nk Cy CL CF CA CG CE CD CC CB CH CI Cz Hf CJ CK zk zl zm
attribute [go_sem] OM ON OO OD OE OF OL OJ Jb TC OG xw xy xx zE A4 xu Vq PX Kk Ge DT TA TB
theorem Qh (a b:Prop):GU (.bool false) a b=b:=LJ a b
attribute [go_sem ↓] LL LJ
attribute [go_sem high] Qi Qh Oj Oi Ok
attribute [go_sem] Ey I6 Ew I7 Al Eu I5 Ev Er Ak tf td Af wK qH qG Ef Ah Aa DK
attribute [go_sem] JS JR zD zF A5 Dx zL Dw DJ EZ EY EX Dy A0 EN zi zj Ht Hs Hm Hn C4 C5 C6 C7 M9 FZ M8 EE EF EG CY CZ C0 C1 C2 C3 Hj Hh Hi zt CQ CR Jl Jk TD TE zw KB CM CN CO zo CP Cw Cx CV C8 C9 C_ Hp Hq He Hd FJ FK FI F_
theorem Tk (n:Nat):get [] n = .any:=bP rfl
theorem Tj (k n:Nat) (x:AV) (r:List (Nat×AV)):get ((k,x) :: r) n=if k=n then x else get r n:=bP rfl
theorem Oq (n:Nat):ak [] n=none:=bP rfl
theorem Oo (k n:Nat) (x:ao) (r:List (Nat×ao)):ak ((k,x) :: r) n=if k=n then some x else ak r n:=bP rfl
theorem S6 (n:Nat):del [] n=[]:=bP rfl
theorem S5 (k n:Nat) (x:AV) (r:List (Nat×AV)):del ((k,x) :: r) n=if k=n then del r n else (k,x) :: del r n:=bP rfl
theorem On (n:Nat):jA [] n=[]:=bP rfl
theorem Om (k n:Nat) (x:ao) (r:List (Nat×ao)):jA ((k,x) :: r) n=if k=n then jA r n else (k,x) :: jA r n:=bP rfl
theorem PD (i:Nat):jJ i []=[]:=bP rfl
theorem PC (i k:Nat) (x:AV) (r:List (Nat×AV)):jJ i ((k,x) :: r)=(k,fc i x) :: jJ i r:=bP rfl
theorem PF (i:Nat):jK i []=[]:=bP rfl
theorem PE (i k:Nat) (x:ao) (r:List (Nat×ao)):jK i ((k,x) :: r)=(k,dl i x) :: jK i r:=bP rfl
theorem U_ (e:List (Nat×AV)) (h:List (Nat×ao)) (d:Nat) (x:AV):St.put ⟨e,h⟩ (some d) x =⟨(d,x) :: e,h⟩:=bP rfl
theorem U9 (s:St) (x:AV):s.put none x=s:=bP rfl
theorem OH (e:List (Nat×AV)) (h:List (Nat×ao)) (i:Nat):St.kill ⟨e,h⟩ i =⟨jJ i e,jK i (jA h i)⟩:=bP rfl
theorem NQ (s:St):s.eff .no=s:=bP rfl
theorem Id (e:List (Nat×AV)) (h:List (Nat×ao)) (i:Nat) (o:ao):St.eff ⟨e,h⟩ (.put i o) =⟨e,(i,o) :: jA h i⟩:=bP rfl
theorem Ic (e:List (Nat×AV)) (h:List (Nat×ao)) (i:Nat) (o:ao):St.eff ⟨e,h⟩ (.new i o) =⟨e,(i,o) :: jA h i⟩:=bP rfl
theorem Ie (e:List (Nat×AV)) (h:List (Nat×ao)) (i:Nat) (o:ao):St.eff ⟨e,h⟩ (.reb i o) =⟨jJ i e,(i,o) :: jK i (jA h i)⟩:=bP rfl
theorem Je (s:St):kills [] s=s:=bP rfl
theorem Jd (i:Nat) (r:List Nat) (s:St):kills (i :: r) s=kills r (s.kill i):=bP rfl
theorem NO (e:List (Nat×AV)):dels [] e=e:=bP rfl
theorem NN (d:Nat) (r:List Nat) (e:List (Nat×AV)):dels (d :: r) e=dels r (del e d):=bP rfl
theorem VT (g:Nat→AV) (k:Nat):val g (.s k)=g k:=bP rfl
theorem VS (g:Nat→AV) (x:AV):val g (.c x)=x:=bP rfl
theorem FA (k:Nat) (b:Bool) (s:St):refine (.s k) b s=s.put (some k) (.bool b):=bP rfl
attribute [go_sem] Tk Tj Oq Oo S6 S5 On Om PD PC PF PE U_ U9 OH NQ Id Ic Ie Je Jd NO NN VT VS FA
attribute [go_sem] f9 iE eF py gu H0 f_
attribute [go_sem] fc dl ou mV mG mC mP aP ja gg jb dF cD aw aX fN dW fG pR tk uW bc.tch bc.isReb bc.isPut bc.ids
attribute [go_sem] ku uV yl vl frzs St.frz mg frz1 DR zZ md s6 ng j5 fb iN nU uM rR
attribute [go_sem] eW List.map_nil kM kK gx List.all_cons List.all_nil List.any_cons List.any_nil List.contains_cons List.contains_nil lY List.flatMap_nil List.drop_succ_cons List.drop_zero List.take_succ_cons f8 aQ ay cY
attribute [go_sem] List.getElem?_cons_zero List.getElem?_cons_succ List.set_cons_zero List.set_cons_succ
attribute [go_sem] fe Option.map_none Option.getD_some Option.getD_none Option.isSome_some
attribute [go_sem] cQ cZ Bool.and_true bR Bool.and_false cF Bool.or_true lZ Bool.or_false qw
attribute [go_sem] true_and and_true true_implies implies_true false_implies bF dc not_true_eq_false not_false_eq_true and_self true_or or_true false_or or_false
section
variable {P:Program} [bU P]
def PZ (d:Nat) (x:AV):Option (AV×bc) :=
 match x with
 | .str s=>some (.mm d false,.new d (@ao.mk 0 0 [] false (.it s 0)))
 | _=>none
def QX (k:Bool) (x:AV) (h:Nat→Option ao) (f:Nat→ao→Option (AV×bc)):Option (AV×bc) :=
 match x with
 | .mm id k'=>if k=k' then (h id).bind (f id) else none
 | _=>none
def Wt (o:ao):Option (AV×bc):=(qE o).map fun es=>(.int .i64 es.length,.no)
def Yz (x n y:AV) (h:Nat→Option ao):Option (AV×bc) :=
 match n with
 | .int .i64 n=>QX true x h fun id=>zq id n y
 | _=>none
theorem CX (d:Nat) (x:AV) (h:Nat→Option ao):gF d .rng [x] h=PZ d x:=by cases x<;>rfl
theorem CW (d:Nat) (x:AV) (h:Nat→Option ao):gF d .nxt [x] h=QX false x h uq:=by
 cases x<;>try rfl
 rename_i id k
 cases k<;>rfl
theorem I2 (d:Nat) (x:IV) (g:Option (Nat×Bool)) (s:St) (K:St→Prop):iA P ⟨some d,.mop .rng [x],g⟩ s K=(d<1000∧dd (An K (s.kill d) (some d)) (PZ d (val (get (s.kill d).env) x))):=by
 rw [← CX d _ (ak (s.kill d).heap)];rfl
theorem IW (d:Nat) (g:Option (Nat×Bool)) (s:St) (K:St→Prop):iA P ⟨some d,.mop .mkm [],g⟩ s K=(d<1000∧dd (An K (s.kill d) (some d)) (some (.mm d true,.new d (@ao.mk 0 0 [] false (.mp []))))):=rfl
theorem D1 (al:List (Nat×Nat)) (i d:Nat) (g:Option (Nat×Bool)) (bf:List Nat) (hist:List HI) (s:St) (K:List HI→St→Prop):fH P al i ⟨⟨some d,.mop .mkm [],g⟩,bf⟩ hist s K=dd (Jc al i bf (.mop .mkm []) hist K s (some d)) (some (.mm d true,.new d (@ao.mk 0 0 [] false (.mp [])))):=rfl
theorem I1 (d:Option Nat) (x:IV) (g:Option (Nat×Bool)) (s:St) (K:St→Prop):iA P ⟨d,.mop .nxt [x],g⟩ s K=dd (An K s d) (QX false (val (get s.env) x) (ak s.heap) uq):=by
 rw [← CW (d.getD 0)  (val (get s.env) x) (ak s.heap)];rfl
theorem FE (d:Nat) (s:List UInt8):PZ d (.str s)=some (.mm d false,.new d (@ao.mk 0 0 [] false (.it s 0))):=rfl
theorem TH (id:Nat) (h:Nat→Option ao) (f:Nat→ao→Option (AV×bc)):QX true (.mm id true) h f=(h id).bind (f id):=rfl
theorem TG (id:Nat) (h:Nat→Option ao) (f:Nat→ao→Option (AV×bc)):QX false (.mm id false) h f=(h id).bind (f id):=rfl
theorem OX (x y:AV) (n:Int) (h:Nat→Option ao):Yz x (.int .i64 n) y h=QX true x h fun id=>zq id n y:=rfl
theorem xp {α β:Type} (x:α) (f:α→Option β):(some x).bind f=f x:=rfl
theorem Hl (K:AV→bc→Prop) (id t st:Nat) (rows:List (List AV)) (r:Bool) (s:List UInt8) (pos:Nat):dd K (uq id (@ao.mk t st rows r (.it s pos))) =
  if pos<s.length then K (.tup [.bool true,.int .i64 pos,.int .i32 (Utf8.decode ⟨s.toArray⟩ pos).1]) (.put id (@ao.mk t st rows r (.it s (pos+(Utf8.decode ⟨s.toArray⟩ pos).2)))) else K (.tup [.bool false]) .no:=by
 simp only [uq,P0]
 split<;>rfl
theorem Hk (t st:Nat) (rows:List (List AV)) (r:Bool) (es:List (AV×AV)):Wt (@ao.mk t st rows r (.mp es))=some (.int .i64 es.length,.no):=rfl
def lkS (K:AV→bc→Prop) (ok:Bool) (z:AV) (es:List (AV×AV)) (q:Option (Option Nat)):Prop :=
 match q with
 | some (some i)=>match es[i]? with
  | some e=>K (if ok then .tup [e.2,.bool true] else e.2) .no
  | none=>False
 | some none=>K (if ok then .tup [z,.bool false] else z) .no
 | none=>False
def A3 (b:Bool) (x:AV) (K:AV→bc→Prop):Prop :=
 match x with
 | .sl _ []=>K (.bool b) .no∧K (.bool (!b)) .no
 | x=>match zu b x with
  | some v=>K v .no
  | none=>False
theorem I4 (d:Option Nat) (b:Bool) (x:IV) (g:Option (Nat×Bool)) (s:St) (K:St→Prop):iA P ⟨d,.snl b x,g⟩ s K=A3 b (val (get s.env) x) (An K s d):=by
 show (match val (get s.env) x with
  | .sl _ []=>K (s.put d (.bool b))∧K (s.put d (.bool (!b)))
  | x=>match zu b x with
   | some v=>K (s.put d v)
   | none=>False)=_
 generalize val (get s.env) x=v
 unfold A3
 split
 ·rfl
 ·split<;>rfl
theorem Ky (b:Bool) (K:AV→bc→Prop):A3 b .nl K=K (.bool (!b)) .no:=rfl
theorem Qe (b:Bool) (st:Nat) (K:AV→bc→Prop):A3 b (.sl st []) K=(K (.bool b) .no∧K (.bool (!b)) .no):=rfl
theorem Qf (b:Bool) (st:Nat) (r:List AV) (rows:List (List AV)) (K:AV→bc→Prop):A3 b (.sl st (r :: rows)) K=K (.bool b) .no:=rfl
theorem jN (b:Bool) (st:Nat) (rows:List (List AV)) (K:AV→bc→Prop) (h:K (.bool b) .no∧(rows=[]→K (.bool (!b)) .no)):A3 b (.sl st rows) K:=by
 cases rows with
 | nil=>exact ⟨h.1,h.2 rfl⟩
 | cons r rows=>exact h.1
end
theorem ao.k_e (t:TypeId) (st:Nat) (rows:List (List AV)) (r:Bool) (k:Kd):(@ao.mk t st rows r k).k=k:=rfl
attribute [go_sem] ao.k_e
attribute [go_sem] I4 Ky Qe Qf
attribute [go_sem] I2 IW D1 I1 FE TH TG OX xp Hl Hk
def k_ (ρ:Nat→Nat):AV→AV
 | .ms id st off len=>.ms (ρ id) st off len
 | .mp id st row off=>.mp (ρ id) st row off
 | .mm id k=>.mm (ρ id) k
 | x=>x
def k9 (ρ:Nat→Nat):AV→AV
 | .fn f caps=>.fn f (caps.map (k_ ρ))
 | x=>k_ ρ x
def qf (ρ:Nat→Nat):AV→AV
 | .agg cells=>.agg (cells.map (k9 ρ))
 | x=>k9 ρ x
def kE (ρ:Nat→Nat):AV→AV
 | .tup vs=>.tup (vs.map (qf ρ))
 | x=>qf ρ x
def eU (ρ:Nat→Nat) (o:ao):ao:=if o.isRec then { o with rows:=o.rows.map (fun r=>r.map (k9 ρ)) } else o
def fY (ρ:Nat→Nat):List (Nat×ao)→List (Nat×ao)
 | []=>[]
 | (i,o) :: r=>(ρ i,eU ρ o) :: fY ρ r
section
variable {P:Program} [bU P] {bl bl':Nat→Option Nat} {M M':Nat→Prop} {w:World} {ρ τ:Nat→Nat}
theorem IRel.mono {v:Value} {x:AV} (h:IRel M w v x) (hM:∀b,M' b→M b):IRel M' w v x:=h.tr fun b hb _=>⟨fun h'=>hb (hM b h'),rfl⟩
theorem vA {v:Value} {x:AV} (h:de bl M w v x) (hb:∀i,bl' (ρ i)=bl i) (hM:∀b,M' b→M b):de bl' M' w v (k_ ρ x):=by
 cases x with
 | ms id st off len =>
  simp only [k_,de] at h ⊢
  rw [hb]
  exact h
 | mp id st row off =>
  simp only [k_,de] at h ⊢
  rw [hb]
  exact h
 | mm id k =>
  simp only [k_,de] at h ⊢
  rw [hb]
  exact h
 | _=>exact IRel.mono h hM
theorem qe {v:Value} {x:AV} (h:bK bl M w v x) (hb:∀i,bl' (ρ i)=bl i) (hM:∀b,M' b→M b):bK bl' M' w v (k9 ρ x):=by
 cases x with
 | fn f caps =>
  obtain ⟨cs,h1,h2⟩:=h
  exact ⟨cs,h1,h2.mapRight fun _ _ hr=>vA hr hb hM⟩
 | _=>simp only [bK] at h;exact vA (ρ:=ρ) h hb hM
theorem vx {v:Value} {x:AV} (h:dw bl M w v x) (hb:∀i,bl' (ρ i)=bl i) (hM:∀b,M' b→M b):dw bl' M' w v (qf ρ x):=by
 cases x with
 | agg cells =>
  obtain ⟨cs,h1,h2⟩:=h
  exact ⟨cs,h1,h2.mapRight fun _ _ hr=>qe hr hb hM⟩
 | _=>simp only [dw] at h;exact qe (ρ:=ρ) h hb hM
theorem vB {v:Value} {x:AV} (h:ba bl M w v x) (hb:∀i,bl' (ρ i)=bl i) (hM:∀b,M' b→M b):ba bl' M' w v (kE ρ x):=by
 cases x with
 | any=>trivial
 | tup vs =>
  obtain ⟨cs,h1,h2⟩:=h
  exact ⟨cs,h1,h2.mapRight fun _ _ hr=>vx hr hb hM⟩
 | _=>simp only [ba] at h;exact vx (ρ:=ρ) h hb hM
theorem PW (o:ao):(eU ρ o).t=o.t:=by unfold eU;split<;>rfl
theorem tK (o:ao):(eU ρ o).st=o.st:=by unfold eU;split<;>rfl
theorem qg (o:ao):(eU ρ o).isRec=o.isRec:=by unfold eU;split<;>rfl
theorem gL (h1:∀i,τ (ρ i)=i) (h2:∀i,ρ (τ i)=i):∀(σ:List (Nat×ao)) (i:Nat),ak (fY ρ σ) i=(ak σ (τ i)).map (eU ρ)
 | [],i=>rfl
 | (k,o) :: r,i=>by
  simp only [fY,ak,gL h1 h2 r i]
  by_cases h:ρ k=i
  ·rw [aK h,aK (by rw [← h,h1])];rfl
  ·rw [aD h,aD (fun hk=>h (by rw [hk,h2]))]
theorem FC {MF:Nat→Prop} {o:ao} {b:Nat} (h:iM bl M MF w o b) (hb:∀i,bl' (ρ i)=bl i) (hM:∀b,M' b→M b):iM bl' M' MF w (eU ρ o) b:=by
 rcases h with ⟨gk,c1,fr,h2,h3,h4,h5,h6,h7⟩ | hsp
 rotate_left
 ·have:eU ρ o=o:=by simp [eU,hsp.isRec]
  rw [this]
  exact .inr hsp
 refine .inl ⟨by unfold eU;split<;>exact gk,c1,fr,by rw [PW];exact h2,h3,h4,fun k r hr=>?_,?_,fun k q r x hr hx=>?_⟩
 ·rw [tK]
  unfold eU at hr
  split at hr
  ·simp only [gw,c9] at hr
   obtain ⟨r0,h8,rfl⟩:=hr
   simpa using h5 k r0 h8
  ·exact h5 k r hr
 ·rw [tK]
  unfold eU
  split<;>simpa using h6
 ·rw [tK,qg]
  unfold eU at hr
  split at hr
  ·rename_i hrc
   simp only [gw,c9] at hr
   obtain ⟨r0,h8,rfl⟩:=hr
   simp only [gw,c9] at hx
   obtain ⟨x0,h9,rfl⟩:=hx
   obtain ⟨u,hu1,hu2⟩:=h7 k q r0 x0 h8 h9
   rw [hrc] at hu2 ⊢
   exact ⟨u,hu1,qe hu2 hb hM⟩
  ·rename_i hrc
   obtain ⟨u,hu1,hu2⟩:=h7 k q r x hr hx
   have hrc':o.isRec=false:=by simpa using hrc
   rw [hrc'] at hu2 ⊢
   exact ⟨u,hu1,IRel.mono hu2 hM⟩
theorem vz {MF:Nat→Prop} {σ:List (Nat×ao)} (h1:∀i,τ (ρ i)=i) (h2:∀i,ρ (τ i)=i) (h:vV bl M MF w (ak σ)) (hb:∀i,bl' (ρ i)=bl i) (hM:∀b,M' b→M b):vV bl' M' MF w (ak (fY ρ σ)):=by
 have hs:∀{i o},ak (fY ρ σ) i=some o→∃o0,ak σ (τ i)=some o0∧o=eU ρ o0:=fun {i o} hi=>by
  rw [gL h1 h2] at hi
  simp only [c9] at hi
  obtain ⟨o0,h3,h4⟩:=hi
  exact ⟨o0,h3,h4.symm⟩
 have hbt:∀i,bl' i=bl (τ i):=fun i=>by rw [← hb,h2]
 refine ⟨fun i o hi=>?_,fun i i' o o' b hi hi' q q'=>?_⟩
 ·obtain ⟨o0,h3,rfl⟩:=hs hi
  rcases h.1 _ o0 h3 with hn | ⟨b,h4,h5⟩
  ·refine .inl ⟨?_,by rw [qg];exact hn.2.1,by rw [hbt];exact hn.2.2⟩
   unfold eU
   rw [hn.2.1]
   exact hn.1
  ·exact .inr ⟨b,by rw [hbt];exact h4,FC h5 hb hM⟩
 ·obtain ⟨o0,h3,_⟩:=hs hi
  obtain ⟨o1,h4,_⟩:=hs hi'
  have:=h.2 _ _ _ _ b h3 h4 (by rw [← hbt];exact q) (by rw [← hbt];exact q')
  rw [← h2 i,← h2 i',this]
theorem vy {MF:Nat→Prop} {σ:List (Nat×ao)} (h1:∀i,τ (ρ i)=i) (h2:∀i,ρ (τ i)=i) (hb:∀i,bl' (ρ i)=bl i) (b:Nat) (h:bx bl' MF (ak (fY ρ σ)) b):bx bl MF (ak σ) b:=by
 rcases h with h | ⟨i,o,h3,h4⟩
 ·exact .inl h
 ·rw [gL h1 h2] at h3
  simp only [c9] at h3
  obtain ⟨o0,h5,_⟩:=h3
  exact .inr ⟨_,o0,h5,by rw [← hb,h2];exact h4⟩
theorem FB {σ:List (Nat×ao)} (h1:∀i,τ (ρ i)=i) (h2:∀i,ρ (τ i)=i) (hb:∀i,bl' (ρ i)=bl i) (b:Nat) (h:jw bl' (fY ρ σ) b):jw bl σ b:=by
 obtain ⟨i,o,h3,h4⟩:=h
 rw [gL h1 h2] at h3
 simp only [c9] at h3
 obtain ⟨o0,h5,_⟩:=h3
 exact ⟨_,o0,h5,by rw [← hb,h2];exact h4⟩
theorem px (x:AV):jb (k_ ρ x)=(jb x).map ρ:=by cases x<;>rfl
theorem dD {f g:AV→List Nat} {r:AV→AV} (h:∀x,f (r x)=(g x).map ρ):∀l:List AV,(l.map r).flatMap f=(l.flatMap g).map ρ
 | []=>rfl
 | x :: l=>by simp only [eW,lY,dD h l,h,List.map_append]
theorem pw (x:AV):gg (k9 ρ x)=(gg x).map ρ:=by
 cases x with
 | fn f caps=>exact dD px caps
 | _=>rfl
theorem D6 (x:AV):ja (qf ρ x)=(ja x).map ρ:=by
 cases x with
 | agg cells=>exact dD pw cells
 | fn f caps=>exact dD px caps
 | _=>rfl
theorem D8 (x:AV):aP (kE ρ x)=(aP x).map ρ:=by
 cases x with
 | tup vs=>exact dD D6 vs
 | agg cells=>exact dD pw cells
 | fn f caps=>exact dD px caps
 | _=>rfl
theorem D7 (o:ao):dF (eU ρ o)=(dF o).map ρ:=by
 unfold dF
 rw [qg]
 split
 ·rename_i h
  simp only [eU,h,bF]
  generalize o.rows=l
  induction l with
  | nil=>rfl
  | cons r l ih=>simp only [eW,lY,ih,List.map_append];congr 1;exact dD pw r
 ·rfl
theorem u4:∀{σ:List (Nat×ao)} {p:Nat×ao},p∈fY ρ σ→∃q∈σ,p=(ρ q.1,eU ρ q.2)
 | [],_,h=>by cases h
 | (i,o) :: r,p,h=>by
  simp only [fY,eH] at h
  rcases h with h | h
  ·exact ⟨(i,o),by simp,h⟩
  ·obtain ⟨q,h1,h2⟩:=u4 h
   exact ⟨q,by simp [h1],h2⟩
theorem j9.ren {r:AV} {σ:List (Nat×ao)} (h1:∀i,τ (ρ i)=i) (h2:∀i,ρ (τ i)=i) (h:j9 r σ):j9 (kE ρ r) (fY ρ σ):=by
 have key:∀{i},(ak σ i).isSome=true→(ak (fY ρ σ) (ρ i)).isSome=true:=fun {i} hi=>by
  rw [gL h1 h2,h1]
  simpa using hi
 refine ⟨fun i hi=>?_,fun p hp i hi=>?_⟩
 ·rw [D8,List.mem_map] at hi
  obtain ⟨j,h3,rfl⟩:=hi
  exact key (h.1 j h3)
 ·obtain ⟨q,h3,rfl⟩:=u4 hp
  simp only [D7,List.mem_map] at hi
  obtain ⟨j,h4,rfl⟩:=hi
  exact key (h.2 q h3 j h4)
theorem br.ren {f:FuncId} {args args2:List AV} {σ σ2:List (Nat×ao)} {Sb:Nat→Prop} {Post:AV→List (Nat×ao)→Prop} (h:br P f args σ Sb Post) (ρ τ:Nat→Nat) (h1:∀i,τ (ρ i)=i) (h2:∀i,ρ (τ i)=i)
  (ha:args2.map (kE τ)=args) (hσ:fY τ σ2=σ):br P f args2 σ2 (fun id=>Sb (τ id)) (fun r σ'=>∃r0 σ0,Post r0 σ0∧r=kE ρ r0∧σ'=fY ρ σ0):=by
 intro bl MF w cargs hTH hTW hH hMF hargs
 subst ha hσ
 have hb:∀i,(fun i=>bl (ρ i)) (τ i)=bl i:=fun i=>by simp only [h2]
 have hmut:∀b,bx (fun i=>bl (ρ i)) MF (ak (fY τ σ2)) b→bx bl MF (ak σ2) b:=fun b hm=>vy h2 h1 hb b hm
 have hblk:∀b,jw (fun i=>bl (ρ i)) (fY τ σ2) b→jw bl σ2 b:=fun b hm=>FB h2 h1 hb b hm
 refine (h (fun i=>bl (ρ i)) MF w cargs hTH (fun b hb hB=>hTW b hb (hmut b hB)) (vz h2 h1 hH hb hmut) hMF (hargs.mapRight fun _ _ hr=>vB hr hb hmut)).mono fun e w'=>?_
 rintro ⟨v,r,σ',bl',rfl,hp,hc,hH',hv,hst,hnew,hsb⟩
 have hb':∀i,(fun i=>bl' (τ i)) (ρ i)=bl' i:=fun i=>by simp only [h1]
 have hmut':∀b,bx (fun i=>bl' (τ i)) MF (ak (fY ρ σ')) b→bx bl' MF (ak σ') b:=fun b hm=>vy h1 h2 hb' b hm
 refine ⟨v,kE ρ r,fY ρ σ',fun i=>bl' (τ i),rfl,⟨r,σ',hp,rfl,rfl⟩,hc.ren h1 h2,vz h1 h2 hH' hb' hmut',vB hv hb' hmut',?_,fun id o b hi hq=>?_,fun id hid=>?_⟩
 ·exact ⟨hst.size,fun b hlt hn=>hst.keep b hlt fun hh=>hn (hblk b hh),hst.shape,hst.os,hst.out⟩
 ·rw [gL h1 h2] at hi
  simp only [c9] at hi
  obtain ⟨o0,h5,_⟩:=hi
  exact (hnew _ o0 b h5 hq).imp_right (hblk b)
 ·show bl' (τ id)=bl id
  rw [hsb _ hid]
  exact hb id
def jo (a b i:Nat):Nat:=if i=a then b else if i=b then a else i
theorem oO (a b i:Nat):jo a b (jo a b i)=i:=by
 unfold jo
 by_cases h1:i=a<;>by_cases h2:i=b<;>simp [h1,h2]<;>(try split)<;>simp_all
theorem AO (i:Nat) (x:AV):jX [i] x=fc i x:=by simp [jX,fc]
theorem AN (i:Nat) (o:ao):eD [i] o=dl i o:=by
 unfold eD dl n9 ou
 simp
end
def TF (e:List (Nat×AV)):List (Nat×AV)→Prop
 | []=>True
 | (k,x) :: r=>get e k=x∧TF e r
def GO (e:List (Nat×ao)):List (Nat×ao)→Prop
 | []=>True
 | (k,x) :: r=>ak e k=some x∧GO e r
theorem yt {e:List (Nat×AV)}:∀{l:List (Nat×AV)},TF e l→∀p∈l,get e p.1=p.2
 | [],_,p,hp=>by cases hp
 | (k,x) :: r,h,p,hp=>by
  rcases eH.1 hp with rfl | hp
  ·exact h.1
  ·exact yt h.2 p hp
theorem ml {e:List (Nat×ao)}:∀{l:List (Nat×ao)},GO e l→∀p∈l,ak e p.1=some p.2
 | [],_,p,hp=>by cases hp
 | (k,x) :: r,h,p,hp=>by
  rcases eH.1 hp with rfl | hp
  ·exact h.1
  ·exact ml h.2 p hp
theorem Wk.of {s s':St} (h1:TF s.env s'.env) (h2:GO s.heap s'.heap):Wk s s':=Wk.le (yt h1) (ml h2)
theorem Wk.frzs:∀(fs:List Nat) (s:St),Wk s (Mw.frzs fs s)
 | [],s=>Wk.refl s
 | i :: r,s=>(Wk.frz s i).trans (Wk.frzs r (s.frz i))
def St.mknil (s:St) (k i st:Nat) (t:TypeId):St:=⟨(k,.ms i st 0 0) :: del (s.kill i).env k,(i,⟨t,st,[],false⟩) :: (s.kill i).heap⟩
theorem Wk.nil (s:St) (k i st:Nat) (t:TypeId) (hk:get s.env k = .nl) (hid:i<1000∨2000≤i):Wk s (s.mknil k i st t):=by
 intro c a w hs
 obtain ⟨bl,hs⟩:=hs.kill i
 obtain ⟨h1,h2⟩:=dG s i
 have hn:=hs.new0 (i:=i) (o:=⟨t,st,[],false⟩) h1 h2 hid rfl rfl
 have hk':get (s.kill i).env k = .nl:=by simp [St.kill,fU,hk,fc,mV,mG,mC,mP]
 refine ⟨_,hn.defers,hn.size,fun j=>?_,?_,hn.step,?_,hn.stab,hn.mf⟩
 all_goals
  have hheap:ak (s.mknil k i st t).heap=dt (ak (s.kill i).heap) i (some ⟨t,st,[],false⟩):=by
   funext j
   simp only [St.mknil,ak,dt]
   by_cases h:i=j
   ·rw [aK h,aK h.symm]
   ·rw [aD h,aD (Ne.symm h)]
 ·rw [hheap]
  have hj:=hn.env j
  simp only [St.mknil,get]
  by_cases h:k=j
  ·subst h
   rw [aK rfl]
   rw [hk'] at hj
   have hv:tv a k = .slice none 0 0:=by
    simp only [ba,dw,bK,de] at hj
    generalize tv a k=v at hj
    cases hj
    rfl
   exact .inl ⟨hv,rfl,rfl⟩
  ·rw [aD h,jz,aD (Ne.symm h)]
   exact hj
 ·rw [hheap]
  exact hn.heap
 ·rw [hheap]
  exact hn.own
def zK (r:AV) (σ:List (Nat×ao)):Bool:=(aP r).all (fun i=>(ak σ i).isSome)&&σ.all fun p=>(dF p.2).all fun i=>(ak σ i).isSome
theorem jy {r:AV} {σ:List (Nat×ao)} (h:zK r σ=true):j9 r σ:=by
 simp only [zK,bY,ee] at h
 exact ⟨fun i hi=>h.1 i hi,fun p hp i hi=>h.2 p hp i hi⟩
theorem done {l:List iL} {Post:AV→List (Nat×ao)→Prop} {s:St} (fs:List Nat) (r:AV) (σ':List (Nat×ao)) (h1:ku l (frzs fs s)=some r) (h2:GO (frzs fs s).heap σ') (h3:zK r σ'=true) (h4:Post r σ'):sv l Post .ret s :=
 ⟨(fun _ h=>by cases h),s,Wk.refl s,fs,r,σ',h1,(fun i o hi=>ml h2 _ (dL hi)),jy h3,h4⟩
theorem ea {l:List iL} {Post:AV→List (Nat×ao)→Prop} {s:St} (fs:List Nat) (r:AV) (σ':List (Nat×ao)) (h1:ku l (frzs fs s)=some r) (h2:GO (frzs fs s).heap σ') (h3:zK r σ'=true) (h4:Post r σ'):sv l Post .nrm s :=
 ⟨(fun _ h=>by cases h),s,Wk.refl s,fs,r,σ',h1,(fun i o hi=>ml h2 _ (dL hi)),jy h3,h4⟩
theorem DA {l:List iL} {Post:AV→List (Nat×ao)→Prop} {s:St} (fs:List Nat) (r:AV) (σ':List (Nat×ao)) (h4:Post r σ') (h1:ku l (frzs fs s)=some r:=by simp only [go_sem]) (h2:GO (frzs fs s).heap σ':=by simp only [go_sem]) (h3:zK r σ'=true:=by exact rfl):sv l Post .ret s:=done fs r σ' h1 h2 h3 h4
theorem S7 {l:List iL} {Post:AV→List (Nat×ao)→Prop} {s:St} (fs:List Nat) (r:AV) (σ':List (Nat×ao)) (h4:Post r σ') (h1:ku l (frzs fs s)=some r:=by simp only [go_sem]) (h2:GO (frzs fs s).heap σ':=by simp only [go_sem]) (h3:zK r σ'=true:=by exact rfl):sv l Post .nrm s:=ea fs r σ' h1 h2 h3 h4
def ri (n:Int):List AV:=[.int .i64 n]
def ru (n:Int):List AV:=[.int .u8 n]
def rb (b:UInt8):List AV:=[.int .u8 b.toNat]
def rs (s:List UInt8):List AV:=[.str s]
def rt (b:Bool):List AV:=[.bool b]
theorem Z5 (n:Int):ri n=[.int .i64 n]:=rfl
theorem Z8 (n:Int):ru n=[.int .u8 n]:=rfl
theorem Z0 (b:UInt8):rb b=[.int .u8 b.toNat]:=rfl
theorem Z6 (s:List UInt8):rs s=[.str s]:=rfl
theorem Z7 (b:Bool):rt b=[.bool b]:=rfl
section
variable {α:Type}
theorem bu (id:Nat) (t:TypeId) (st len:Nat) (f:α→List AV) (l:List α) (ys:List (List AV)) (hl:l.length=len):l8 id t st 0 len ys (some ⟨t,st,l.map f,false⟩) =
  if ys.length<137438953472∧len<137438953472∧(id<1000∨2000≤id) then some (.ms id st 0 (len+ys.length),.reb id ⟨t,st,l.map f++ys,false⟩) else none:=zA id t st len _ ys (by simpa using hl)
theorem zB (id:Nat) (t:TypeId) (st len:Nat) (f:α→List AV) (l:List α) (ys:List (List AV)) (hl:len≤l.length):l8 id t st 0 len ys (some ⟨t,st,l.map f,false⟩) =
  if ys.length<137438953472∧len<137438953472∧(id<1000∨2000≤id) then some (.ms id st 0 (len+ys.length),.reb id ⟨t,st,(l.take len).map f++ys,false⟩) else none:=by
 simp only [l8,true_and,cY,hl,List.map_take,pn,and_true]
 by_cases h1:ys.length<137438953472<;>simp [h1]
theorem vE (st len:Nat) (t:TypeId) (f:α→List AV) (l:List α) (hl:l.length=len):xi st 0 len (some ⟨t,st,l.map f,false⟩)=some (l.map f):=se st len t _ (by simpa using hl)
theorem FF (st:Nat) (t:TypeId) (r:List AV):xi st 0 1 (some ⟨t,st,[r],false⟩)=some [r]:=se st 1 t _ rfl
end
theorem wi {n:Int} (h0:-9223372036854775808≤n) (h1:n<9223372036854775808):IntKind.i64.wrap n=n:=by
 unfold IntKind.wrap
 show (if (true&&decide (n % 18446744073709551616≥9223372036854775808))=true then n % 18446744073709551616 - 18446744073709551616 else n % 18446744073709551616)=n
 by_cases h:n % 18446744073709551616≥9223372036854775808
 ·rw [aF h];simp only [bR,bF];omega
 ·rw [aG h];simp only [Bool.and_false,gK,dc];omega
attribute [go_sem] TF GO zK Z5 Z8 Z0 Z6 Z7 FF ib
theorem Wk.nls (s:St) (k st:Nat) (hk:get s.env k = .nl):Wk s ⟨(k,.sl st []) :: s.env,s.heap⟩:=by
 rintro c a w ⟨bl,hs⟩
 refine ⟨bl,hs.defers,hs.size,fun j=>?_,hs.heap,hs.step,hs.own,hs.stab,hs.mf⟩
 simp only [get]
 split
 ·rename_i h
  subst h
  have:=hs.env k
  rw [hk] at this
  rw [this.nl]
  exact IRel.nls st
 ·exact hs.env j
theorem IRel.nl_sl {M:Nat→Prop} {w:World} {v:Value} (h:IRel M w v .nl) (st:Nat):IRel M w v (.sl st []):=by
 cases h
 exact .nls st
def Jw:List AV→List AV→Prop
 | [],[]=>True
 | x :: l,y :: m=>(x=y∨(x = .nl∧∃st,y = .sl st []))∧Jw l m
 | _,_=>False
theorem yD:∀{l m:List AV},Jw l m→m.length=l.length
 | [],[],_=>rfl
 | _ :: _,_ :: _,h=>by simp [yD h.2]
 | [],_ :: _,h=>h.elim
 | _ :: _,[],h=>h.elim
theorem yC:∀{l m:List AV},Jw l m→∀{j:Nat} {y:AV},m[j]? = some y→∃x,l[j]? = some x∧(x=y∨(x = .nl∧∃st,y = .sl st []))
 | [],[],_,j,y,hy=>by simp at hy
 | x :: l,z :: m,h,0,y,hy=>by simp at hy;subst hy;exact ⟨x,rfl,h.1⟩
 | x :: l,z :: m,h,j+1,y,hy=>by simpa using yC h.2 (j:=j) (by simpa using hy)
 | [],_ :: _,h,_,_,_=>h.elim
 | _ :: _,[],h,_,_,_=>h.elim
theorem Wk.nlh (s:St) (i:Nat) {t:TypeId} {st:Nat} {r r':List AV} (hi:ak s.heap i=some ⟨t,st,[r],true⟩) (hr:Jw r r'):Wk s ⟨s.env,(i,⟨t,st,[r'],true⟩) :: s.heap⟩:=by
 rintro c a w ⟨bl,hs⟩
 have hm:∀b,bx bl c.MF (ak ((i,⟨t,st,[r'],true⟩) :: s.heap)) b↔bx bl c.MF (ak s.heap) b:=bx.congr fun j=>by
  simp only [ak]
  split
  ·rename_i h;subst h;rw [hi];rfl
  ·rfl
 have ht:=Tr.of_iff (w:=w) fun b=>(hm b)
 refine ⟨bl,hs.defers,hs.size,fun j=>(hs.env j).tr ht (fun _ _=>rfl),⟨fun j o hj=>?_,fun j j' o o' b h1 h2=>?_⟩,hs.step,fun j o b h1=>?_,hs.stab,hs.mf⟩
 ·simp only [ak] at hj
  split at hj
  ·rename_i hij
   subst hij
   cases hj
   rcases hs.heap.1 i _ hi with hn | ⟨b,g1,⟨gk,c1,fr,g2,g3,g4,g5,g6,g7⟩ | hsp⟩
   ·cases hn.2.1
   rotate_left
   ·cases hsp.isRec
   ·refine .inr ⟨b,g1,.inl ⟨gk,c1,fr,g2,g3,g4,fun k q hq=>?_,by simpa using g6,fun k q u x hu hx=>?_⟩⟩
    ·cases k with
     | zero=>simp at hq;subst hq;rw [yD hr];exact g5 0 r rfl
     | succ k=>simp at hq
    ·cases k with
     | succ k=>simp at hu
     | zero =>
      simp at hu
      subst hu
      obtain ⟨x0,h1,h2⟩:=yC hr hx
      obtain ⟨v,hv1,hv2⟩:=g7 0 q r x0 rfl h1
      refine ⟨v,hv1,?_⟩
      have hv3:bK bl (bx bl c.MF (ak s.heap)) w v x0:=hv2
      rcases h2 with h2 | ⟨h2,st',h3⟩
      ·subst h2;exact hv3.tr ht (fun _ _=>rfl)
      ·subst h2 h3
       have:IRel (bx bl c.MF (ak s.heap)) w v .nl:=hv3
       exact (IRel.toC (bl:=bl) (IRel.nl_sl this st')).tr ht (fun _ _=>rfl)
  ·rcases hs.heap.1 j o hj with hn | ⟨b,g1,⟨gk,c1,fr,g2,g3,g4,g5,g6,g7⟩ | hsp⟩
   ·exact .inl hn
   rotate_left
   ·exact .inr ⟨b,g1,.inr hsp⟩
   ·refine .inr ⟨b,g1,.inl ⟨gk,c1,fr,g2,g3,g4,g5,g6,fun k q u x hu hx=>?_⟩⟩
    obtain ⟨v,hv1,hv2⟩:=g7 k q u x hu hx
    refine ⟨v,hv1,?_⟩
    cases hrec:o.isRec<;>simp only [hrec,qA] at hv2 ⊢
    ·exact hv2.tr ht.keep
    ·exact hv2.tr ht (fun _ _=>rfl)
 ·have key:∀{j:Nat} {o:ao},ak ((i,⟨t,st,[r'],true⟩) :: s.heap) j=some o→∃o',ak s.heap j=some o':=fun {j o} hj=>by
   simp only [ak] at hj
   split at hj
   ·rename_i hij;subst hij;exact ⟨_,hi⟩
   ·exact ⟨_,hj⟩
  obtain ⟨p1,q1⟩:=key h1
  obtain ⟨p2,q2⟩:=key h2
  exact hs.heap.2 j j' p1 p2 b q1 q2
 ·simp only [ak] at h1
  split at h1
  ·rename_i hij;subst hij;exact hs.own i _ b hi
  ·exact hs.own j o b h1
theorem L0 {l:List iL} {Post:AV→List (Nat×ao)→Prop} {s s1:St} (hw:Wk s s1) (fs:List Nat) (r:AV) (σ':List (Nat×ao)) (h1:ku l (frzs fs s1)=some r) (h2:GO (frzs fs s1).heap σ') (h3:zK r σ'=true) (h4:Post r σ'):sv l Post .ret s :=
 ⟨(fun _ h=>by cases h),s1,hw,fs,r,σ',h1,(fun i o hi=>ml h2 _ (dL hi)),jy h3,h4⟩
theorem cO {l:List iL} {r:AV} {s s1:St} (hw:Wk s s1) (fs:List Nat) (h:ku l (frzs fs s1)=some r) (h2:aP r=[]):oT l r .ret s:=⟨(fun _ h=>by cases h),s1,hw,fs,h,h2⟩
inductive Ty where
 | bool
 | int (k:IntKind)
 | str
 | sl (e:Ty)
 | nil
 | cons (f:Ty) (r:Ty)
 deriving Inhabited
def Ty.n:Ty→Nat
 | .nil=>0
 | .cons f r=>f.n+r.n
 | _=>1
def Ty.ok:Ty→List AV→Prop
 | .bool,xs=>∃b,xs=[.bool b]
 | .int k,xs=>∃n,xs=[.int k n]∧(Lit.int k n).wf=true
 | .str,xs=>∃s,xs=[.str s]∧s.length≤maxLen
 | .sl e,xs=>xs=[.nl]∨∃rows,xs=[.sl e.n rows]∧rows.length≤maxLen∧∀r∈rows,e.ok r
 | .nil,xs=>xs=[]
 | .cons f r,xs=>∃ys zs,xs=ys++zs∧f.ok ys∧r.ok zs
theorem Ty.ok_len:∀(τ:Ty) (xs:List AV),τ.ok xs→xs.length=τ.n
 | .bool,xs,h=>by obtain ⟨b,rfl⟩:=h;rfl
 | .int k,xs,h=>by obtain ⟨n,rfl,_⟩:=h;rfl
 | .str,xs,h=>by obtain ⟨s,rfl,_⟩:=h;rfl
 | .sl e,xs,h=>by rcases h with rfl | ⟨rows,rfl,_⟩<;>rfl
 | .nil,xs,h=>by subst h;rfl
 | .cons f r,xs,h=>by
  obtain ⟨ys,zs,rfl,h1,h2⟩:=h
  simp only [aJ,Ty.n,Ty.ok_len f ys h1,Ty.ok_len r zs h2]
def qq (g:TypeId→Option Ty) (P:Program) (off:Nat):List Field→Option Ty
 | []=>some .nil
 | f :: r=>if f.offset=off then (match g f.type,qq g P (off+P.cellsOf f.type) r with
  | some a,some b=>if a.n=P.cellsOf f.type then some (.cons a b) else none
  | _,_=>none) else none
def kJ (P:Program):Nat→TypeId→Option Ty
 | 0,_=>none
 | f+1,t=>match P.underlying t with
  | some .bool=>some .bool
  | some (.int k)=>some (.int k)
  | some .string=>some .str
  | some (.slice e)=>match kJ P f e with
   | some a=>if a.n=P.cellsOf e∧0<a.n then some (.sl a) else none
   | none=>none
  | some (.struct fs)=>match qq (kJ P f) P 0 fs.toList with
   | some a=>if a.n=P.cellsOf t then some a else none
   | none=>none
  | _=>none
theorem u3 {α β:Type} {g:α→Option β}:∀{l:List α} {r:List β},l.mapM g=some r→r.length=l.length∧∀(i:Nat) (x:α),l[i]? = some x→∃y,r[i]? = some y∧g x=some y
 | [],r,h=>by
  simp only [List.mapM_nil,pure,cq] at h
  subst h
  exact ⟨rfl,fun i x hx=>by simp at hx⟩
 | a :: l,r,h=>by
  simp only [List.mapM_cons,bind,kN,pure,cq] at h
  obtain ⟨y,h1,ys,h2,rfl⟩:=h
  obtain ⟨h3,h4⟩:=u3 h2
  refine ⟨by simp [h3],fun i x hx=>?_⟩
  cases i with
  | zero =>
   simp only [List.getElem?_cons_zero,cq] at hx
   subst hx
   exact ⟨y,rfl,h1⟩
  | succ i=>exact h4 i x (by simpa using hx)
theorem lN {β:Type} {g:Nat→Option β} {n:Nat} {r:List β} (h:(List.range n).mapM g=some r):r.length=n∧∀i,i<n→∃y,r[i]? = some y∧g i=some y:=by
 obtain ⟨h1,h2⟩:=u3 h
 exact ⟨by simpa using h1,fun i hi=>h2 i i (by simp [hi])⟩
theorem ry {w:World} {base:Nat} {a:Addr} {n:Nat} {cs:List Value} (h:w.cells? base a n=some cs):cs.length=n∧∀j,j<n→∃y,cs[j]? = some y∧w.cell? (a.add j)=some y:=by
 unfold World.cells? at h
 split at h
 ·exact lN h
 ·cases h
theorem pd {w:World} {a:Addr} {v:Value} (h:w.cell? a=some v):a.spot=none∧∃c t fr,w.heap[a.block]? = some (.cells c t fr)∧c[a.off]? = some v:=by
 unfold World.cell? at h
 split at h
 case h_2=>cases h
 rename_i c t fr hb
 split at h
 ·cases h
 ·rename_i hs
  exact ⟨by simpa using hs,c,t,fr,hb,h⟩
section
variable {H:Type} {enc:TypeId×Value→H} {P:Program} {w:World} {base:Nat} {sp:Nat→Bool} {held:Bool}
theorem rP {g:TypeId→Option Ty} {r:TypeId→List Value→Option (DataW H×List MemPlace)} (ih:∀t cs τ x,g t=some τ→r t cs=some x→∃xs,τ.ok xs∧aU (IRel (fun _=>False) w) cs xs) (cs:List Value) :
  ∀(fs:List Field) (off:Nat) (τ:Ty) (xs:List (DataW H×List MemPlace)),qq g P off fs=some τ→(fs.mapM fun f=>r f.type ((cs.drop f.offset).take (P.cellsOf f.type)))=some xs→off+τ.n=cs.length →
   ∃ys,τ.ok ys∧aU (IRel (fun _=>False) w) (cs.drop off) ys
 | [],off,τ,xs,ht,_,hn=>by
  simp only [qq,cq] at ht
  subst ht
  refine ⟨[],rfl,?_⟩
  rw [List.drop_eq_nil_of_le (by simp [Ty.n] at hn;omega)]
  trivial
 | f :: fs,off,τ,xs,ht,hm,hn=>by
  simp only [qq] at ht
  split at ht
  case isFalse=>cases ht
  rename_i hoff
  split at ht
  case h_2=>cases ht
  rename_i a b ha hb
  split at ht
  case isFalse=>cases ht
  rename_i hsz
  cases ht
  simp only [List.mapM_cons,bind,kN,pure,cq] at hm
  obtain ⟨y,h1,zs,h2,rfl⟩:=hm
  obtain ⟨xs1,h3,h4⟩:=ih _ _ _ _ ha h1
  simp only [Ty.n] at hn
  obtain ⟨xs2,h5,h6⟩:=rP ih cs fs (off+P.cellsOf f.type) b zs hb h2 (by omega)
  refine ⟨xs1++xs2,⟨xs1,xs2,rfl,h3,h5⟩,?_⟩
  rw [hoff] at h4
  have:cs.drop off=(cs.drop off).take (P.cellsOf f.type)++cs.drop (off+P.cellsOf f.type):=by
   rw [← List.drop_drop,List.take_append_drop]
  rw [this]
  exact h4.append h6
theorem KF:∀(fuel f:Nat) (t:TypeId) (cs:List Value) (τ:Ty) (x:DataW H×List MemPlace),kJ P f t=some τ→DataW.trod enc P w base sp held fuel t cs=some x→∃xs,τ.ok xs∧aU (IRel (fun _=>False) w) cs xs:=by
 intro fuel
 induction fuel with
 | zero=>intro f t cs τ x _ h;simp [DataW.trod] at h
 | succ fuel ih =>
  intro f t cs τ x ht h
  cases f with
  | zero=>simp [kJ] at ht
  | succ f =>
   simp only [kJ] at ht
   split at ht
   case h_1 hu =>
    cases ht
    unfold DataW.trod at h
    split at h<;>rename_i heq<;>first | (rw [hu] at heq;cases heq;done) | (cases h;done) | skip
    rename_i b
    exact ⟨[.bool b],⟨b,rfl⟩,.bool b,trivial⟩
   case h_2 k hu =>
    cases ht
    unfold DataW.trod at h
    split at h<;>rename_i heq<;>first | (rw [hu] at heq;cases heq;done) | (cases h;done) | skip
    rename_i k' k1 n
    rw [hu] at heq
    cases heq
    split at h
    ·rename_i hk
     obtain ⟨rfl,hwf⟩:=hk
     exact ⟨[.int _ n],⟨n,rfl,hwf⟩,.int _ n,trivial⟩
    ·cases h
   case h_3 hu =>
    cases ht
    unfold DataW.trod at h
    split at h<;>rename_i heq<;>first | (rw [hu] at heq;cases heq;done) | (cases h;done) | skip
    rename_i s
    split at h
    ·rename_i hs
     refine ⟨[.str s.data.toList],⟨_,rfl,by simpa using hs⟩,?_,trivial⟩
     have:=IRel.str (M:=fun _=>False) (w:=w) s.data.toList
     simpa using this
    ·cases h
   case h_4 e hu =>
    split at ht
    case h_2=>cases ht
    rename_i a ha
    split at ht
    case isFalse=>cases ht
    rename_i hsz
    cases ht
    unfold DataW.trod at h
    split at h<;>rename_i heq<;>first | (rw [hu] at heq;cases heq;done) | (cases h;done) | skip
    ·exact ⟨[.nl],.inl rfl,.nl,trivial⟩
    ·rename_i e1 ad len cap
     rw [hu] at heq
     cases heq
     simp only at h
     split at h
     case isFalse=>cases h
     rename_i hcap
     simp only [kN] at h
     obtain ⟨elems,hel,_⟩:=h
     obtain ⟨hlen,ak⟩:=lN hel
     have hrow:∀i,i<len→∃row xs,w.cells? base (ad.add (i * P.cellsOf e)) (P.cellsOf e)=some row∧a.ok xs∧aU (IRel (fun _=>False) w) row xs:=fun i hi=>by
      obtain ⟨y,_,h2⟩:=ak i hi
      simp only [kN] at h2
      obtain ⟨row,h3,h4⟩:=h2
      obtain ⟨xs,h5,h6⟩:=ih f e row a y ha h4
      exact ⟨row,xs,h3,h5,h6⟩
     by_cases h0:len=0
     ·subst h0
      exact ⟨[.sl a.n []],.inr ⟨[],rfl,cE _,fun r hr=>by cases hr⟩,.sl0 _ _ _,trivial⟩
     have hn:0<P.cellsOf e:=by omega
     have hcell:∀i j,i<len→j<P.cellsOf e→∀row,w.cells? base (ad.add (i * P.cellsOf e)) (P.cellsOf e)=some row→∃y,row[j]? = some y∧w.cell? ((ad.add (i * P.cellsOf e)).add j)=some y:=fun i j hi hj row hr=>(ry hr).2 j hj
     obtain ⟨row0,xs0,r1,_,_⟩:=hrow 0 (by omega)
     obtain ⟨y0,_,c0⟩:=hcell 0 0 (by omega) hn row0 r1
     obtain ⟨hspot,c,tt,fr,hb,_⟩:=pd c0
     have hspot':ad.spot=none:=by simpa [Addr.add] using hspot
     have hblk:∀(q:Addr) m,(q.add m).block=q.block:=fun q m=>by unfold Addr.add;split<;>rfl
     have hoff:∀(q:Addr) m,(q.add m).off=q.off+m:=fun q m=>by
      unfold Addr.add
      split
      ·rename_i hm;simp [hm]
      ·rfl
     rw [hblk,hblk] at hb
     have hval:∀i j,i<len→j<P.cellsOf e→∀row,w.cells? base (ad.add (i * P.cellsOf e)) (P.cellsOf e)=some row→∃y,row[j]? = some y∧c[ad.off+i * P.cellsOf e+j]? = some y:=fun i j hi hj row hr=>by
      obtain ⟨y,g1,g2⟩:=hcell i j hi hj row hr
      obtain ⟨_,c',t',fr',g3,g4⟩:=pd g2
      rw [hblk,hblk,hb] at g3
      cases g3
      rw [hoff,hoff] at g4
      exact ⟨y,g1,g4⟩
     let R:Nat→List Value:=fun i=>if hi:i<len then Classical.choose (hrow i hi) else []
     let X:Nat→List AV:=fun i=>if hi:i<len then Classical.choose (Classical.choose_spec (hrow i hi)) else []
     have hRX:∀i,i<len→w.cells? base (ad.add (i * P.cellsOf e)) (P.cellsOf e)=some (R i)∧a.ok (X i)∧aU (IRel (fun _=>False) w) (R i) (X i):=fun i hi=>by
      have:=Classical.choose_spec (Classical.choose_spec (hrow i hi))
      simp only [R,X,hi,dif_pos]
      exact this
     have hrows:∀(i:Nat) (r:List AV),((List.range len).map X)[i]? = some r→i<len∧r=X i:=fun i r hr=>by
      simp only [gw,c9] at hr
      obtain ⟨j,h1,h2⟩:=hr
      have h3:=eV.1 h1
      obtain ⟨h4,h5⟩:=h3
      simp at h4 h5
      subst h5
      exact ⟨h4,h2.symm⟩
     refine ⟨[.sl a.n ((List.range len).map X)],.inr ⟨_,rfl,by simp;omega,fun r hr=>?_⟩,?_,trivial⟩
     ·obtain ⟨i,hi,rfl⟩:=List.mem_map.1 hr
      exact (hRX i (by simpa using hi)).2.1
     ·obtain ⟨bk,of,so⟩:=ad
      simp only at hspot'
      subst hspot'
      have hll:((List.range len).map X).length=len:=by simp
      have key:=IRel.sl (M:=fun _=>False) (w:=w) bk of cap a.n c tt fr ((List.range len).map X) (fun i j=>(R i).getD j undef) hb (fun h=>h) (by rw [hll];omega)
       (fun i r hr=>by obtain ⟨h1,rfl⟩:=hrows i r hr;exact Ty.ok_len _ _ (hRX i h1).2.1)
       (fun i j hi hj=>by
        rw [hll] at hi
        rw [hsz.1] at hj ⊢
        obtain ⟨y,g1,g2⟩:=hval i j hi hj _ (hRX i hi).1
        rw [g2,List.getD_eq_getElem?_getD,g1]
        rfl)
       (fun i j r x hr hx=>by
        obtain ⟨h1,rfl⟩:=hrows i r hr
        obtain ⟨y,g1,g2⟩:=(hRX i h1).2.2.get hx
        rw [List.getD_eq_getElem?_getD,g1]
        exact g2)
      rw [hll] at key
      exact key
   case h_5 fs hu =>
    split at ht
    case h_2=>cases ht
    rename_i a ha
    split at ht
    case isFalse=>cases ht
    rename_i hsz
    cases ht
    unfold DataW.trod at h
    split at h<;>rename_i heq<;>first | (rw [hu] at heq;cases heq;done) | (cases h;done) | skip
    ·rename_i cs1 fs1
     rw [hu] at heq
     cases heq
     split at h
     case isFalse=>cases h
     rename_i hcl
     simp only [c9] at h
     obtain ⟨xs,h1,_⟩:=h
     have:=rP (P:=P) (g:=kJ P f) (r:=fun t cs=>DataW.trod enc P w base sp held fuel t cs) (fun t cs τ x=>ih f t cs τ x) _ _ 0 _ xs ha h1 (by omega)
     simpa using this
   case h_6=>cases ht
end
open Go.ChangeShapes Go.WideShapes Go.ChangeAt Go.RowKit
section
variable {H:Type} {enc:TypeId×Value→H} {P:Program} [bU P]
structure um (w w':World):Prop where
 size:w.heap.size≤w'.heap.size
 old:∀b,b<w.heap.size→w'.heap[b]? = w.heap[b]?
 os:w'.os=w.os
 out:w'.output=w.output
theorem IRel.toV {bl:Nat→Option Nat} {M:Nat→Prop} {w:World} {v:Value} {x:AV} (h:IRel M w v x):ba bl M w v x:=h.toC.toG.toV
theorem um.frame {w w':World} (h:um w w') (may:MemPlace→Prop):w.keptBut w' may:=by
 refine ⟨h.os,h.out,fun i hi=>?_⟩
 rw [h.old i hi]
 cases ho:w.heap[i]? with
 | none=>rfl
 | some o =>
  cases o with
  | cells c t fr=>exact ⟨rfl,rfl,rfl,fun _ _=>rfl⟩
  | map es clock=>exact .inr ⟨rfl,rfl⟩
  | _=>rfl
theorem um.frozen {w w':World} (h:um w w') {a:Addr} (ha:a.block<w.heap.size):w'.frozen? a=w.frozen? a:=World.frozen?_of_block (w:=w) (h.old a.block ha)
theorem um.same {w w':World} (h:um w w') {p:MemPlace} (hp:p.block<w.heap.size):w.sameAt w' p:=by
 cases p with
 | cell b off=>exact World.cell?_of_block (w:=w) (h.old b hp)
 | map b=>exact h.old b hp
theorem lz (hl:laidOutB P=true) {W W':World} {sp:Nat→Bool}:∀{ts:List TypeId} {vs:List Value} {ds:List (DataW H)} {ps:List MemPlace},(∀t∈ts,P.readableRec t=true∧t<P.types.size) →
  DataW.TrodAll enc P W 0 (fun _=>true) true ts vs ds ps→(∀p∈ps,W.sameAt W' p)→(∀p∈ps,sp p.block=true)→DataW.TrodAll enc P W' 0 sp true ts vs ds ps
 | [],[],[],ps,_,h,_,_=>h
 | t :: ts,v :: vs,d :: ds,ps,hr,h,h1,h2=>by
  obtain ⟨p,q,h3,h4,rfl⟩:=h
  exact ⟨p,q,WideElems.Trod_stays hl (hr t (by simp)).1 (hr t (by simp)).2 h3 (fun x hx=>h1 x (by simp [hx])) (fun x hx=>h2 x (by simp [hx])),
   lz hl (fun t ht=>hr t (by simp [ht])) h4 (fun x hx=>h1 x (by simp [hx])) (fun x hx=>h2 x (by simp [hx])),rfl⟩
 | [],_ :: _,_,_,_,h,_,_=>h.elim
 | [],[],_ :: _,_,_,h,_,_=>h.elim
 | _ :: _,[],_,_,_,h,_,_=>h.elim
 | _ :: _,_ :: _,[],_,_,h,_,_=>h.elim
theorem EB {f:Func} {s:ChangeSpec} {apart fresh handsOn again:Bool} {W W':World} {args:Array Value} {ds gs:List (DataW H)} {before:List MemPlace} {tb:TypeId} (hl:laidOutB P=true)
  (hr:∀t∈f.params.toList,P.readableRec t=true∧t<P.types.size) (hv:s.vars=[]) (hfn:(s.fn H (ds++gs)).results=[.lit (.bool true)]) (hfa:(s.fn H (ds++gs)).args=ds) (hfv:(s.fn H (ds++gs)).vars=[])
  (hrt:f.resultTypes = #[tb]) (htb:P.underlying tb=some .bool) (hW:DataW.Whole enc P f.params.toList s.vars apart W args.toList ds gs before) (hk:um W W') :
  s.post enc P f apart fresh handsOn again W args (.bool true) W':=by
 have hlt:=hW.lt
 have hW0:=hW
 obtain ⟨p,q,hA,hV,rfl,hz,hn⟩:=hW0
 rw [hv] at hV
 obtain ⟨rfl,rfl⟩:=trodVars_none hV
 rw [gx] at *
 have hsame:∀x∈p,W.sameAt W' x:=fun x hx=>hk.same (by simpa using hlt x hx)
 have hargs:∀sp:Nat→Bool,(∀x∈p,sp x.block=true)→DataW.TrodAll enc P W' 0 sp true f.params.toList args.toList ds p:=fun sp hsp=>lz hl hr hA hsame hsp
 have hres:∀(b:Nat) (sp:Nat→Bool) (hd:Bool),DataW.TrodAll enc P W' b sp hd f.resultTypes.toList ((Value.bool true).resultList f.resultTypes.size) [.lit (.bool true)] []:=fun b sp hd=>by
  rw [hrt]
  exact trodAll_cons_mk (shut_bool htb _) trodAll_mk0
 have hvars:∀sp:Nat→Bool,DataW.TrodVars enc P W' sp s.vars [] []:=fun sp=>by rw [hv];rfl
 refine ⟨ds,[],p,[],p,[],by simpa using hW,by rw [gx,hfn];exact hres _ _ _,by rw [gx,hfa];exact hargs _ (fun x hx=>by simpa using hlt x (by simpa using hx)),by rw [gx,hfv];exact hvars _,hk.frame _,fun _=>?_⟩
 refine ⟨ok_one hrt rfl (okWide_bool_mk htb _),[.lit (.bool true)]++ds,[],p,⟨[]++p,[],trodAll_append (hargs _ (fun _ _=>rfl)) (hres _ _ _),hvars _,by simp,?_,?_⟩,fun x hx _=>hx⟩
 ·intro b off hp
  have hb:b<W.heap.size:=hlt (.cell b off) (by simpa using hp)
  have:=hz b off (by simpa using hp)
  rw [hk.frozen (a:=⟨b,off,none⟩) hb]
  exact this
 ·intro ha
  simpa using hn ha
end
def Ty.isRec:Ty→Bool
 | .nil=>true
 | .cons _ _=>true
 | _=>false
def Ty.okV (τ:Ty) (x:AV):Prop:=match τ.isRec with
 | true=>∃xs,x = .agg xs∧τ.ok xs
 | false=>τ.ok [x]
section
variable {H:Type} {enc:TypeId×Value→H} {P:Program} [bU P] {w:World} {base:Nat} {sp:Nat→Bool} {held:Bool}
theorem xC {g:TypeId→Option Ty}:∀{fs:List Field} {off:Nat} {τ:Ty},qq g P off fs=some τ→τ.isRec=true
 | [],off,τ,h=>by simp only [qq,cq] at h;subst h;rfl
 | f :: fs,off,τ,h=>by
  simp only [qq] at h
  split at h
  case isFalse=>cases h
  split at h
  case h_2=>cases h
  split at h
  case isFalse=>cases h
  cases h
  rfl
theorem vp {f:FuncId} {args:List AV} {r:Bool} (hp:ae P f args (.bool r)) {w:World} {cargs:List Value} (hT:(bU.T P).H w) (ha:aU (ba (fun _=>none) (fun _=>False) w) cargs args) :
  Calls P f cargs.toArray w fun e w'=>e = .returned (.bool r)∧um w w':=by
 have hM:bx (fun _=>none) (fun _=>False) (ak [])=fun _=>False:=by
  funext b
  apply propext
  constructor
  ·rintro (h | ⟨i,o,h,_⟩)
   ·exact h
   ·simp [ak] at h
  ·exact False.elim
 refine (hp (fun _=>none) (fun _=>False) w cargs hT (fun _ _ hm=>hm.elim id fun ⟨_,_,hi,_⟩=>by simp [ak] at hi) ⟨fun i o h=>by simp [ak] at h,fun i _ o _ _ h=>by simp [ak] at h⟩ (fun _ h=>h.elim) (by rw [hM];exact ha)).mono fun e w'=>?_
 rintro ⟨v,r',σ',bl',rfl,⟨rfl,rfl⟩,_,_,hv,hst,_,_⟩
 have hv':=hv.bool
 subst hv'
 exact ⟨rfl,hst.size,fun b hb=>hst.keep b hb (fun ⟨i,o,h,_⟩=>by simp [ak] at h),hst.os,hst.out⟩
end
def fw:List (Nat×Nat)→Nat→Nat
 | [],i=>i
 | (a,b) :: r,i=>fw r (jo a b i)
def bw:List (Nat×Nat)→Nat→Nat
 | [],i=>i
 | (a,b) :: r,i=>jo a b (bw r i)
theorem o8:∀(ps:List (Nat×Nat)) (i:Nat),bw ps (fw ps i)=i
 | [],_=>rfl
 | (a,b) :: r,i=>by simp only [fw,bw,o8 r,oO]
theorem DS:∀(ps:List (Nat×Nat)) (i:Nat),fw ps (bw ps i)=i
 | [],_=>rfl
 | (a,b) :: r,i=>by simp only [fw,bw,oO,DS r]
def gB:List Nat→List (Nat×AV)→List (Nat×AV)
 | [],e=>e
 | k :: ks,e=>jJ k (gB ks e)
def fX:List Nat→List (Nat×ao)→List (Nat×ao)
 | [],e=>e
 | k :: ks,e=>jK k (fX ks e)
theorem AK (e:List (Nat×AV)):gB [] e=e:=rfl
theorem xb (k:Nat) (ks:List Nat) (e:List (Nat×AV)):gB (k :: ks) e=jJ k (gB ks e):=rfl
theorem AL (e:List (Nat×ao)):fX [] e=e:=rfl
theorem xc (k:Nat) (ks:List Nat) (e:List (Nat×ao)):fX (k :: ks) e=jK k (fX ks e):=rfl
attribute [go_sem] AK xb AL xc
theorem Ec (a b:Bool) (x:AV) (p:AV→Bool) (hp:p .any=false) (hx:p x=a):(if p (if b=true then .any else x)=true then AV.any else (if b=true then .any else x))=if (a||b)=true then .any else x:=by
 cases b<;>cases a<;>simp_all
theorem PJ (k:Nat) (ks:List Nat) (x:AV):fc k (jX ks x)=jX (k :: ks) x:=by
 have:=Ec (mV k x) (ks.any fun i=>mV i x) x (mV k) rfl rfl
 exact this
theorem PB (k:Nat) (ks:List Nat) (x:AV):ou k (n9 ks x)=n9 (k :: ks) x:=by
 have:=Ec (mC k x) (ks.any fun i=>mC i x) x (mC k) rfl rfl
 exact this
theorem PG (k:Nat) (ks:List Nat) (o:ao):dl k (eD ks o)=eD (k :: ks) o:=by
 unfold dl eD
 by_cases h:o.isRec=true
 ·simp only [h,bF,List.map_map]
  congr 1
  funext
  apply List.map_congr_left
  intro r _
  simp only [Function.comp,List.map_map]
  apply List.map_congr_left
  intro x _
  exact PB k ks x
  rw [aK h]
 ·simp [h]
theorem kQ (k:Nat):∀(ks:List Nat) (e:List (Nat×AV)),get (gB ks e) k=jX ks (get e k)
 | [],e=>by simp [gB,jX]
 | i :: ks,e=>by rw [gB,fU,kQ k ks,PJ]
theorem jB (k:Nat):∀(ks:List Nat) (e:List (Nat×ao)),ak (fX ks e) k=(ak e k).map (eD ks)
 | [],e=>by
  have:eD []=id:=by
   funext o
   unfold eD n9
   simp
  simp [fX,this]
 | i :: ks,e=>by
  rw [fX,et,jB k ks,Option.map_map]
  congr 1
  funext o
  exact PG i ks o
theorem pu (j:Nat):∀(a b:List (Nat×ao)),ak (a++b) j=match ak a j with
  | some o=>some o
  | none=>ak b j
 | [],b=>rfl
 | (k,o) :: r,b=>by
  simp only [kM,ak]
  split
  ·rfl
  ·exact pu j r b
section
variable {P:Program} [bU P]
theorem cC {f:FuncId} {args0 args:List AV} {σ0 σ2 σ1 σ3:List (Nat×ao)} {Sb:Nat→Prop} {r1 r3:AV} {d:Option Nat} {s:St} {K:St→Prop}
  (h:br P f args0 σ0 Sb (fun r σ'=>r=r1∧σ'=σ1)) (ps:List (Nat×Nat)) (ks:List Nat)
  (ha:args.map (kE (bw ps))=args0) (hσ:fY (bw ps) σ2=σ0) (hr:kE (fw ps) r1=r3) (h3:fY (fw ps) σ1=σ3)
  (hin:∀p∈σ2,ak s.heap p.1=some p.2)
  (hout:∀p∈σ3,(Sb (bw ps p.1)∧(ak σ2 p.1).isSome=true)∨(p.1∈ks∧(p.1<1000∨2000≤p.1)∧((ak σ2 p.1).isSome=true∨ak s.heap p.1=none)))
  (hall:∀p∈σ2,(ak σ3 p.1).isSome=true)
  (hk:K ((St.mk (gB ks s.env) (σ3++fX ks s.heap)).put d r3)):cW P f args d s K:=by
 have h':=h.ren (args2:=args) (σ2:=σ2) (fw ps) (bw ps) (o8 ps) (DS ps) ha hσ
 refine .inl (.inr ⟨σ2,_,_,ks,h',fun id o hh=>hin (id,o) (dL hh),?_,?_⟩)
 ·rintro r σ' ⟨r0,σ4,⟨rfl,rfl⟩,rfl,rfl⟩ id hid
  rw [h3] at hid
  obtain ⟨o,ho⟩:=Option.isSome_iff_exists.1 hid
  exact hout (id,o) (dL ho)
 ·rintro r σ' ⟨r0,σ4,⟨rfl,rfl⟩,rfl,rfl⟩
  rw [hr,h3]
  refine ⟨⟨gB ks s.env,σ3++fX ks s.heap⟩,fun k=>kQ k ks s.env,fun j=>?_,hk⟩
  simp only [pu,yx]
  cases hn:ak σ3 j with
  | some o=>rfl
  | none =>
   simp only
   by_cases h2:(ak σ2 j).isSome=true
   ·obtain ⟨o,ho⟩:=Option.isSome_iff_exists.1 h2
    have:=hall (j,o) (dL ho)
    simp only at this
    rw [hn] at this
    cases this
   ·rw [aD h2,jB]
theorem Dq {f:FuncId} {args:List AV} {σ0 σ1:List (Nat×ao)} {Sb:Nat→Prop} {r1:AV} {d:Option Nat} {s:St} {K:St→Prop}
  (h:br P f args σ0 Sb (fun r σ'=>r=r1∧σ'=σ1)) (ks:List Nat)
  (hin:∀p∈σ0,ak s.heap p.1=some p.2)
  (hout:∀p∈σ1,(Sb p.1∧(ak σ0 p.1).isSome=true)∨(p.1∈ks∧(p.1<1000∨2000≤p.1)∧((ak σ0 p.1).isSome=true∨ak s.heap p.1=none)))
  (hall:∀p∈σ0,(ak σ1 p.1).isSome=true)
  (hk:K ((St.mk (gB ks s.env) (σ1++fX ks s.heap)).put d r1)):cW P f args d s K:=by
 refine .inl (.inr ⟨σ0,_,_,ks,h,fun id o hh=>hin (id,o) (dL hh),?_,?_⟩)
 ·rintro r σ' ⟨rfl,rfl⟩ id hid
  obtain ⟨o,ho⟩:=Option.isSome_iff_exists.1 hid
  exact hout (id,o) (dL ho)
 ·rintro r σ' ⟨rfl,rfl⟩
  refine ⟨⟨gB ks s.env,σ'++fX ks s.heap⟩,fun k=>kQ k ks s.env,fun j=>?_,hk⟩
  simp only [pu,yx]
  cases hn:ak σ' j with
  | some o=>rfl
  | none =>
   simp only
   by_cases h2:(ak σ0 j).isSome=true
   ·obtain ⟨o,ho⟩:=Option.isSome_iff_exists.1 h2
    have:=hall (j,o) (dL ho)
    simp only at this
    rw [hn] at this
    cases this
   ·rw [aD h2,jB]
theorem Ny {f:FuncId} {args:List AV} {k:Nat} {ob ob':ao} {Sb:Nat→Prop} {r:AV} {d:Option Nat} {s:St} {K:St→Prop}
  (h:br P f args [(k,ob)] Sb (fun r' σ'=>r'=r∧σ'=[(k,ob')])) (hs:Sb k) (hk:ak s.heap k=some ob) (hK:K ((St.mk s.env ((k,ob') :: s.heap)).put d r)):cW P f args d s K:=by
 refine Dq h [] (fun p hp=>?_) (fun p hp=>?_) (fun p hp=>?_) (by simpa only [gB,fX,kM,kK] using hK)
 ·simp only [ow] at hp;subst hp;exact hk
 ·simp only [ow] at hp;subst hp;exact .inl ⟨hs,by simp [ak]⟩
 ·simp only [ow] at hp;subst hp;simp [ak]
theorem AY (ρ:Nat→Nat) (x:AV) (hx:jb x=[]):k_ ρ x=x:=by cases x<;>first | rfl | (simp [jb] at hx)
theorem jl {ρ:Nat→Nat} {f:AV→List Nat} {r:AV→AV} (hh:∀x,f x=[]→r x=x):∀l:List AV,l.flatMap f=[]→l.map r=l
 | [],_=>rfl
 | y :: l,hl=>by
  simp only [lY,List.append_eq_nil_iff] at hl
  simp only [eW,hh y hl.1,jl (ρ:=ρ) hh l hl.2]
theorem nB (ρ:Nat→Nat) (x:AV) (hx:gg x=[]):k9 ρ x=x:=by
 cases x with
 | fn f caps=>simp only [k9,jl (ρ:=ρ) (AY ρ) caps hx]
 | _=>first | rfl | (simp [gg,jb] at hx)
theorem nC (ρ:Nat→Nat) (x:AV) (hx:ja x=[]):qf ρ x=x:=by
 cases x with
 | agg cells=>simp only [qf,jl (ρ:=ρ) (nB ρ) cells hx]
 | fn f caps=>exact nB ρ (.fn f caps) hx
 | _=>first | rfl | (simp [ja,gg,jb] at hx)
theorem nD (ρ:Nat→Nat) (x:AV) (hx:aP x=[]):kE ρ x=x:=by
 cases x with
 | tup vs=>simp only [kE,jl (ρ:=ρ) (nC ρ) vs hx]
 | agg cells=>exact nC ρ (.agg cells) hx
 | fn f caps=>exact nC ρ (.fn f caps) hx
 | _=>first | rfl | (simp [aP,ja,gg,jb] at hx)
theorem kT (ρ:Nat→Nat) (o:ao) (hx:dF o=[]):eU ρ o=o:=by
 unfold eU
 split
 ·rename_i hr
  have:∀rows:List (List AV),rows.flatMap (fun r=>r.flatMap gg)=[]→rows.map (fun r=>r.map (k9 ρ))=rows:=fun rows=>by
   induction rows with
   | nil=>exact fun _=>rfl
   | cons r l ih =>
    intro hl
    simp only [lY,List.append_eq_nil_iff] at hl
    simp only [eW,ih hl.2,jl (ρ:=ρ) (nB ρ) r hl.1]
  simp only [dF,hr,bF] at hx
  rw [this _ hx]
 ·rfl
theorem gX (ρ:Nat→Nat):∀l:List AV,(∀x∈l,aP x=[])→l.map (kE ρ)=l
 | [],_=>rfl
 | x :: l,h=>by simp only [eW,nD ρ x (h x (by simp)),gX ρ l fun y hy=>h y (by simp [hy])]
theorem zI {f:FuncId} {args:List AV} {d:Option Nat} {s:St} {K:St→Prop} {Sb:Nat→Prop} {id st:Nat} {o:ao} (h:br P f args [] Sb (fun r σ'=>r = .mp id st 0 0∧σ'=[(id,o)])) (ho:dF o=[]) (hargs:∀x∈args,aP x=[])
  (j:Nat) (hj:j<1000∨2000≤j) (hfree:ak s.heap j=none) (hk:K ((St.mk (jJ j s.env) ((j,o) :: jK j s.heap)).put d (.mp j st 0 0))):cW P f args d s K:=by
 have e1:jo id j id=j:=by simp [jo]
 refine cC (σ2:=[]) (r3:=.mp j st 0 0) (σ3:=[(j,o)]) h [(id,j)] [j] (gX _ args hargs) rfl ?_ ?_ (fun p hp=>by cases hp) (fun p hp=>?_) (fun p hp=>by cases hp) ?_
 ·simp only [fw,kE,qf,k9,k_,e1]
 ·simp only [fY,fw,e1,kT _ o ho]
 ·simp only [ow] at hp
  subst hp
  exact .inr ⟨by simp,hj,.inr hfree⟩
 ·simpa only [gB,fX,kM,kK] using hk
theorem br.at_ {f:FuncId} {st:Nat} {rest:List AV} {ob ob':ao} {Sb:Nat→Prop} {r:AV} (h:br P f (.mp 1000 st 0 0 :: rest) [(1000,ob)] Sb (fun r' σ'=>r'=r∧σ'=[(1000,ob')]))
  (hr:aP r=[]) (hrest:∀x∈rest,aP x=[]) (ho:dF ob=[]) (ho':dF ob'=[]) (j:Nat) :
  br P f (.mp j st 0 0 :: rest) [(j,ob)] (fun id=>Sb (jo 1000 j id)) (fun r' σ'=>r'=r∧σ'=[(j,ob')]):=by
 have e1:jo 1000 j 1000=j:=by simp [jo]
 have e2:jo 1000 j j=1000:=by unfold jo;split<;>simp_all
 refine (h.ren (args2:=.mp j st 0 0 :: rest) (σ2:=[(j,ob)]) (jo 1000 j) (jo 1000 j) (oO _ _) (oO _ _) ?_ ?_).mono (fun _ h=>h) ?_
 ·simp only [eW,gX _ rest hrest,kE,qf,k9,k_,e2]
 ·simp only [fY,e2,kT _ ob ho]
 ·rintro r' σ' ⟨r0,σ0,⟨rfl,rfl⟩,rfl,rfl⟩
  exact ⟨nD _ _ hr,by simp only [fY,e1,kT _ ob' ho']⟩
theorem Q3 {Sb:Nat→Prop} (j:Nat) (h:Sb 1000):(fun id=>Sb (jo 1000 j id)) j:=by
 show Sb (jo 1000 j j)
 have e2:jo 1000 j j=1000:=by unfold jo;split<;>simp_all
 rw [e2];exact h
theorem eQ {f:FuncId} {st:Nat} {rest:List AV} {ob ob':ao} {Sb:Nat→Prop} {r:AV} {j:Nat} {d:Option Nat} {s:St} {K:St→Prop} (h:br P f (.mp 1000 st 0 0 :: rest) [(1000,ob)] Sb (fun r' σ'=>r'=r∧σ'=[(1000,ob')]))
  (hs:Sb 1000) (hr:aP r=[]) (hrest:∀x∈rest,aP x=[]) (ho:dF ob=[]) (ho':dF ob'=[]) (hk:ak s.heap j=some ob) (hK:K ((St.mk s.env ((j,ob') :: s.heap)).put d r)):cW P f (.mp j st 0 0 :: rest) d s K :=
 Ny (h.at_ hr hrest ho ho' j) (Q3 j hs) hk hK
theorem aY {f:FuncId} {st:Nat} {rest:List AV} {ob ob':ao} {Sb:Nat→Prop} {r:AV} {j:Nat} {d:Option Nat} {s:St} {K:St→Prop} (h:br P f (.mp 1000 st 0 0 :: rest) [(1000,ob)] Sb (fun r' σ'=>r'=r∧σ'=[(1000,ob')]))
  (hK:K ((St.mk s.env ((j,ob') :: s.heap)).put d r)) (hs:Sb 1000:=by exact ⟨by decide,by decide⟩) (hr:aP r=[]:=by first | rfl | exact ac _) (hrest:∀x∈rest,aP x=[]:=by simp [go_sem]) (ho:dF ob=[]:=by exact rfl) (ho':dF ob'=[]:=by exact rfl)
  (hk:ak s.heap j=some ob:=by rfl):cW P f (.mp j st 0 0 :: rest) d s K:=eQ h hs hr hrest ho ho' hk hK
end
theorem Wk.new0 (s:St) (i st:Nat) (t:TypeId) (hid:i<1000∨2000≤i):Wk s ⟨(s.kill i).env,(i,⟨t,st,[],false⟩) :: (s.kill i).heap⟩:=by
 intro c a w hs
 obtain ⟨bl,hs⟩:=hs.kill i
 obtain ⟨h1,h2⟩:=dG s i
 have hn:=hs.new0 (i:=i) (o:=⟨t,st,[],false⟩) h1 h2 hid rfl rfl
 refine ⟨_,hn.congr (fun _=>rfl) (fun j=>?_)⟩
 simp only [ak,dt]
 by_cases h:i=j
 ·rw [aK h,aK h.symm]
 ·rw [aD h,aD (Ne.symm h)]
def nlm:List AV→List AV→Prop
 | [],[]=>True
 | x :: l,y :: m=>(x=y∨(x = .nl∧((∃st,y = .sl st [])∨∃id st,y = .ms id st 0 0)))∧nlm l m
 | _,_=>False
theorem yB:∀{l m:List AV},nlm l m→m.length=l.length
 | [],[],_=>rfl
 | _ :: _,_ :: _,h=>by simp [yB h.2]
 | [],_ :: _,h=>h.elim
 | _ :: _,[],h=>h.elim
theorem yA:∀{l m:List AV},nlm l m→∀{j:Nat} {y:AV},m[j]? = some y→∃x,l[j]? = some x∧(x=y∨(x = .nl∧((∃st,y = .sl st [])∨∃id st,y = .ms id st 0 0)))
 | [],[],_,j,y,hy=>by simp at hy
 | x :: l,z :: m,h,0,y,hy=>by simp at hy;subst hy;exact ⟨x,rfl,h.1⟩
 | x :: l,z :: m,h,j+1,y,hy=>by simpa using yA h.2 (j:=j) (by simpa using hy)
 | [],_ :: _,h,_,_,_=>h.elim
 | _ :: _,[],h,_,_,_=>h.elim
theorem Wk.nlm (s:St) (i:Nat) {t:TypeId} {st:Nat} {r r':List AV} (hi:ak s.heap i=some ⟨t,st,[r],true⟩) (hr:Mw.nlm r r'):Wk s ⟨s.env,(i,⟨t,st,[r'],true⟩) :: s.heap⟩:=by
 rintro c a w ⟨bl,hs⟩
 have hm:∀b,bx bl c.MF (ak ((i,⟨t,st,[r'],true⟩) :: s.heap)) b↔bx bl c.MF (ak s.heap) b:=bx.congr fun j=>by
  simp only [ak]
  split
  ·rename_i h;subst h;rw [hi];rfl
  ·rfl
 have ht:=Tr.of_iff (w:=w) fun b=>(hm b)
 refine ⟨bl,hs.defers,hs.size,fun j=>(hs.env j).tr ht (fun _ _=>rfl),⟨fun j o hj=>?_,fun j j' o o' b h1 h2=>?_⟩,hs.step,fun j o b h1=>?_,hs.stab,hs.mf⟩
 ·simp only [ak] at hj
  split at hj
  ·rename_i hij
   subst hij
   cases hj
   rcases hs.heap.1 i _ hi with hn | ⟨b,g1,⟨gk,c1,fr,g2,g3,g4,g5,g6,g7⟩ | hsp⟩
   ·cases hn.2.1
   rotate_left
   ·cases hsp.isRec
   ·refine .inr ⟨b,g1,.inl ⟨gk,c1,fr,g2,g3,g4,fun k q hq=>?_,by simpa using g6,fun k q u x hu hx=>?_⟩⟩
    ·cases k with
     | zero=>simp at hq;subst hq;rw [yB hr];exact g5 0 r rfl
     | succ k=>simp at hq
    ·cases k with
     | succ k=>simp at hu
     | zero =>
      simp at hu
      subst hu
      obtain ⟨x0,h1,h2⟩:=yA hr hx
      obtain ⟨v,hv1,hv2⟩:=g7 0 q r x0 rfl h1
      refine ⟨v,hv1,?_⟩
      have hv3:bK bl (bx bl c.MF (ak s.heap)) w v x0:=hv2
      rcases h2 with h2 | ⟨h2,⟨st',h3⟩ | ⟨id,st',h3⟩⟩
      ·subst h2;exact hv3.tr ht (fun _ _=>rfl)
      ·subst h2 h3
       have:IRel (bx bl c.MF (ak s.heap)) w v .nl:=hv3
       exact (IRel.toC (bl:=bl) (IRel.nl_sl this st')).tr ht (fun _ _=>rfl)
      ·subst h2 h3
       have:IRel (bx bl c.MF (ak s.heap)) w v .nl:=hv3
       cases this
       exact .inl ⟨rfl,rfl,rfl⟩
  ·rcases hs.heap.1 j o hj with hn | ⟨b,g1,⟨gk,c1,fr,g2,g3,g4,g5,g6,g7⟩ | hsp⟩
   ·exact .inl hn
   rotate_left
   ·exact .inr ⟨b,g1,.inr hsp⟩
   ·refine .inr ⟨b,g1,.inl ⟨gk,c1,fr,g2,g3,g4,g5,g6,fun k q u x hu hx=>?_⟩⟩
    obtain ⟨v,hv1,hv2⟩:=g7 k q u x hu hx
    refine ⟨v,hv1,?_⟩
    cases hrec:o.isRec<;>simp only [hrec,qA] at hv2 ⊢
    ·exact hv2.tr ht.keep
    ·exact hv2.tr ht (fun _ _=>rfl)
 ·have key:∀{j:Nat} {o:ao},ak ((i,⟨t,st,[r'],true⟩) :: s.heap) j=some o→∃o',ak s.heap j=some o':=fun {j o} hj=>by
   simp only [ak] at hj
   split at hj
   ·rename_i hij;subst hij;exact ⟨_,hi⟩
   ·exact ⟨_,hj⟩
  obtain ⟨p1,q1⟩:=key h1
  obtain ⟨p2,q2⟩:=key h2
  exact hs.heap.2 j j' p1 p2 b q1 q2
 ·simp only [ak] at h1
  split at h1
  ·rename_i hij;subst hij;exact hs.own i _ b hi
  ·exact hs.own j o b h1
section
variable {P:Program} [bU P]
theorem br.at2 {f:FuncId} {st:Nat} {rest:List AV} {rc rc' rk rk' ar ar':ao} {Sb:Nat→Prop} {r:AV} {k j:Nat}
  (h:br P f (.mp 1000 st 0 0 :: rest) [(1000,rc),(2000,ar)] Sb (fun r' σ'=>r'=r∧σ'=[(1000,rc'),(2000,ar')]))
  (hk:k≠2000) (hj:j≠1000) (hkj:k≠j)
  (hr:aP r=[]) (hrest:∀x∈rest,aP x=[]) (ha:ar.isRec=false) (ha':ar'.isRec=false)
  (h1:eU (bw [(1000,k),(2000,j)]) rk=rc) (h2:eU (fw [(1000,k),(2000,j)]) rc'=rk') :
  br P f (.mp k st 0 0 :: rest) [(k,rk),(j,ar)] (fun id=>Sb (bw [(1000,k),(2000,j)] id)) (fun r' σ'=>r'=r∧σ'=[(k,rk'),(j,ar')]):=by
 have e1:fw [(1000,k),(2000,j)] 1000=k:=by
  simp only [fw];unfold jo
  by_cases q:k=2000
  ·exact absurd q hk
  ·simp [q,hkj]
 have e2:fw [(1000,k),(2000,j)] 2000=j:=by
  simp only [fw];unfold jo
  by_cases q:(2000:Nat)=k
  ·exact absurd q.symm hk
  ·simp [q]
 have b1:bw [(1000,k),(2000,j)] k=1000:=by have:=o8 [(1000,k),(2000,j)] 1000;rwa [e1] at this
 have b2:bw [(1000,k),(2000,j)] j=2000:=by have:=o8 [(1000,k),(2000,j)] 2000;rwa [e2] at this
 have ra:∀ρ:Nat→Nat,eU ρ ar=ar:=fun ρ=>by unfold eU;rw [ha];rfl
 have ra':∀ρ:Nat→Nat,eU ρ ar'=ar':=fun ρ=>by unfold eU;rw [ha'];rfl
 refine (h.ren (args2:=.mp k st 0 0 :: rest) (σ2:=[(k,rk),(j,ar)]) (fw [(1000,k),(2000,j)]) (bw [(1000,k),(2000,j)]) (o8 _) (DS _) ?_ ?_).mono (fun _ h=>h) ?_
 ·simp only [eW,gX _ rest hrest,kE,qf,k9,k_,b1]
 ·simp only [fY,b1,b2,ra,h1]
 ·rintro r' σ' ⟨r0,σ0,⟨rfl,rfl⟩,rfl,rfl⟩
  exact ⟨nD _ _ hr,by simp only [fY,e1,e2,ra',h2]⟩
theorem Nx {f:FuncId} {args args':List AV} {rk rk' ar ar':ao} {Sb:Nat→Prop} {r:AV} {k j:Nat} {d:Option Nat} {s:St} {K:St→Prop} (fs:List Nat)
  (h:br P f args' [(k,rk),(j,ar)] Sb (fun r' σ'=>r'=r∧σ'=[(k,rk'),(j,ar')])) (hkj:k≠j) (hs:Sb k) (hj:j<1000∨2000≤j)
  (ha:args.map (mg fs s)=args') (h1:ak (frzs fs s).heap k=some rk) (h2:ak (frzs fs s).heap j=some ar)
  (hK:K ((St.mk (jJ j (frzs fs s).env) ((k,rk') :: (j,ar') :: jK j (frzs fs s).heap)).put d r)):cW P f args d s K:=by
 subst ha
 have key:∀p:Nat×ao,p∈[(k,rk),(j,ar)]→ak (frzs fs s).heap p.1=some p.2:=fun p hp=>by
  simp only [eH,List.not_mem_nil,or_false] at hp
  rcases hp with rfl | rfl
  ·exact h1
  ·exact h2
 refine .inr (.inl ⟨fs,.inr ⟨[(k,rk),(j,ar)],_,_,[j],h,fun id o hh=>key (id,o) (dL hh),?_,?_⟩⟩)
 ·rintro r σ' ⟨rfl,rfl⟩ id hid
  simp only [ak] at hid ⊢
  by_cases hk:k=id
  ·subst hk;exact .inl ⟨hs,by simp⟩
  ·rw [aD hk] at hid
   by_cases hq:j=id
   ·subst hq;exact .inr ⟨by simp,hj,.inl (by simp [hk])⟩
   ·rw [aD hq] at hid;cases hid
 ·rintro r σ' ⟨rfl,rfl⟩
  refine ⟨⟨jJ j (frzs fs s).env,(k,rk') :: (j,ar') :: jK j (frzs fs s).heap⟩,fun q=>by simp only [fU,AO],fun q=>?_,hK⟩
  simp only [yx,ak]
  by_cases hk:k=q
  ·subst hk;simp
  ·simp only [aD hk]
   by_cases hq:j=q
   ·subst hq;simp
   ·simp only [aD hq,et,Option.isSome_none,gK,dc]
    congr 1
    funext o'
    exact (AN j o').symm
end
theorem Ba.trans {s s' s'':St} {l l' l'':List AV} (h:Ba s l s' l') (h':Ba s' l' s'' l''):Ba s l s'' l'':=fun c a w bl vs h1 h2=>by
 obtain ⟨bl',h3,h4⟩:=h c a w bl vs h1 h2
 exact h' c a w bl' vs h3 h4
theorem Ba.frzs (fs:List Nat) (s:St) (l:List AV):Ba s l (Mw.frzs fs s) (l.map (mg fs s)):=fun c a w bl vs h1 h2=>by
 obtain ⟨h3,h4⟩:=aM.frzs fs s h1
 exact ⟨bl,h3,h2.mapRight fun v x hv=>h4 v x hv⟩
def nla (x y:AV):Prop:=x=y∨(x = .nl∧∃st,y = .sl st [])∨∃l m,x = .agg l∧y = .agg m∧Jw l m
theorem yE {bl:Nat→Option Nat} {M:Nat→Prop} {w:World}:∀{vs:List Value} {l m:List AV},Jw l m→aU (bK bl M w) vs l→aU (bK bl M w) vs m
 | [],[],[],_,_=>trivial
 | v :: vs,x :: l,y :: m,h,hr=>by
  refine ⟨?_,yE h.2 hr.2⟩
  rcases h.1 with rfl | ⟨rfl,st,rfl⟩
  ·exact hr.1
  ·exact IRel.nl_sl (show IRel M w v .nl from hr.1) st
 | [],[],_ :: _,h,_=>h.elim
 | [],_ :: _,_,_,hr=>hr.elim
 | _ :: _,[],_,_,hr=>hr.elim
 | _ :: _,_ :: _,[],h,_=>h.elim
theorem Ju {bl:Nat→Option Nat} {M:Nat→Prop} {w:World} {v:Value} {x y:AV} (h:nla x y) (hr:ba bl M w v x):ba bl M w v y:=by
 rcases h with rfl | ⟨rfl,st,rfl⟩ | ⟨l,m,rfl,rfl,h⟩
 ·exact hr
 ·exact IRel.nl_sl (show IRel M w v .nl from hr) st
 ·obtain ⟨cs,h1,h2⟩:=hr
  exact ⟨cs,h1,yE h h2⟩
theorem u6 {bl:Nat→Option Nat} {M:Nat→Prop} {w:World}:∀{vs:List Value} {l m:List AV},aU nla l m→aU (ba bl M w) vs l→aU (ba bl M w) vs m
 | [],[],[],_,_=>trivial
 | v :: vs,x :: l,y :: m,h,hr=>⟨Ju h.1 hr.1,u6 h.2 hr.2⟩
 | [],[],_ :: _,h,_=>h.elim
 | [],_ :: _,_,_,hr=>hr.elim
 | _ :: _,[],_,_,hr=>hr.elim
 | _ :: _,_ :: _,[],h,_=>h.elim
theorem Ba.nla {s:St} {l m:List AV} (h:aU Mw.nla l m):Ba s l s m:=fun c a w bl vs h1 h2=>⟨bl,h1,u6 h h2⟩
section
variable {P:Program} [bU P]
theorem HZ {f:FuncId} {args args':List AV} {d:Option Nat} {s s':St} {K:St→Prop} (hw:Ba s args s' args') (h:cW P f args' d s' K):cW P f args d s K:=by
 rcases h with h | ⟨fs,h⟩ | ⟨s'',args'',hw',h⟩
 ·exact .inr (.inr ⟨s',args',hw,h⟩)
 ·exact .inr (.inr ⟨_,_,hw.trans (Ba.frzs fs s' args'),h⟩)
 ·exact .inr (.inr ⟨s'',args'',hw.trans hw',h⟩)
theorem cA {f:FuncId} {args:List AV} (args':List AV) {d:Option Nat} {s:St} {K:St→Prop} (hw:aU nla args args') (h:cW P f args' d s K):cW P f args d s K:=HZ (Ba.nla hw) h
end
theorem xZ {l:List iL} {s:St} {r:AV} {k:Nat} {ob:ao} {e:IX} (he:∀j,e≠.ext j) (h1:ku l s=some r) (h2:ak s.heap k=some ob) (h3:zK r [(k,ob)]=true):sv l (fun r' σ'=>r'=r∧σ'=[(k,ob)]) e s:=by
 refine ⟨he,s,fun _ _ _ h=>h,[],r,[(k,ob)],h1,fun i o hi=>?_,jy h3,rfl,rfl⟩
 simp only [ak] at hi
 split at hi
 ·rename_i hki;subst hki;cases hi;exact h2
 ·cases hi
theorem aN {x y:Int} (h:¬x=y):(x==y)=false:=by simpa using h
theorem bq {x y:Int} (h:x=y):(x==y)=true:=by simpa using h
theorem aZ {x y:Int} (h:¬x=y):(x != y)=true:=by simpa using h
theorem aL {x y:Int} (h:x=y):(x != y)=false:=by simpa using h
theorem wn {n m:Int} (h:n=m) (h0:-9223372036854775808≤m) (h1:m<9223372036854775808):IntKind.i64.wrap n=m:=by rw [h];exact wi h0 h1
attribute [go_sem] Nat.zero_add cP decide_eq_false_iff_not beq_self_eq_true Nat.lt_add_one Nat.reduceEqDiff Nat.reduceLT reduceCtorEq Nat.reduceAdd Nat.reduceLeDiff Nat.reduceBEq Nat.reduceBNe Int.reduceNeg Int.reduceToNat Int.reduceBEq Int.reduceBNe bne_self_eq_false gK
attribute [go_sem ↓] reduceIte
def sb (id:Nat):Prop:=1000≤id∧id<2000
def Ov (n:Int):Prop:=-9223372036854775808≤n∧n<9223372036854775808
section
abbrev No:Nat→Prop:=fun _=>False
def KpM (T:Nat→Prop) (N:Nat) (W W':World):Prop:=W.heap.size≤W'.heap.size∧(∀(b:Nat) (c:Array Value) (t:TypeId) (fr:Nat×Nat),N≤b→W.heap[b]? = some (.cells c t fr)→W'.heap[b]? = some (.cells c t fr))∧∀b,T b→W'.heap[b]? = W.heap[b]?
section
variable {T:Nat→Prop}
end
variable {n:Nat} {P:Program} [bU P]
def aa7 (P:Program) [bU P] (w:World):Nat→Prop:=fun b=>b<w.heap.size∧¬(bU.T P).B b
theorem ae.of {f:FuncId} {args:List AV} {r:AV} (h:∀(w:World) (bl:Nat→Option Nat) (M:Nat→Prop) (cargs:List Value),(bU.T P).H w→(∀b,M b→b<w.heap.size)→aU (ba bl M w) cargs args →
   Calls P f cargs.toArray w fun e w'=>∃v,e = .returned v∧zh No w w'∧ba (fun _=>none) M w' v r) (hid:aP r=[]):ae P f args r:=by
 intro bl MF w cargs hH _ _ hMF ha
 have hm:∀(bl:Nat→Option Nat) b,bx bl MF (ak []) b↔MF b:=fun bl b=>iZ _ b
 refine (h w bl MF cargs hH hMF (ha.mono fun _ _ _ hr=>hr.tr (Tr.of_iff (fun b=>(hm _ b).symm)) (fun _ _=>rfl))).mono fun e w' hh=>?_
 obtain ⟨v,rfl,hst,hv⟩:=hh
 refine ⟨v,r,[],bl,rfl,⟨rfl,rfl⟩,(⟨fun i hi=>(by rw [hid] at hi;cases hi),fun p hp=>absurd hp List.not_mem_nil⟩:j9 r []),⟨fun id o hi=>by simp [ak] at hi,fun id id' o o' b hi=>by simp [ak] at hi⟩,?_,?_,fun id o b hi=>by simp [ak] at hi,fun _ h=>h.elim⟩
 ·refine hv.tr (Tr.of_iff (fun b=>hm _ b)) (fun id hi=>?_)
  have:=nu hi
  rw [hid] at this
  cases this
 ·exact ⟨hst.size,fun b hb _=>hst.keep b hb (fun h=>h),hst.shape,hst.os,hst.out⟩
theorem rq {f:FuncId} {args:List AV} {d:Option Nat} {s:St} {K:St→Prop} {Sb:Nat→Prop} {id st len:Nat} {o:ao} (h:br P f args [] Sb (fun r σ'=>r = .ms id st 0 len∧σ'=[(id,o)])) (ho:dF o=[]) (hargs:∀x∈args,aP x=[])
  (j:Nat) (hj:j<1000∨2000≤j) (hfree:ak s.heap j=none) (hk:K ((St.mk (jJ j s.env) ((j,o) :: jK j s.heap)).put d (.ms j st 0 len))):cW P f args d s K:=by
 have e1:jo id j id=j:=by simp [jo]
 refine cC (σ2:=[]) (r3:=.ms j st 0 len) (σ3:=[(j,o)]) h [(id,j)] [j] (gX _ args hargs) rfl ?_ ?_ (fun p hp=>by cases hp) (fun p hp=>?_) (fun p hp=>by cases hp) ?_
 ·simp only [fw,kE,qf,k9,k_,e1]
 ·simp only [fY,fw,e1,kT _ o ho]
 ·simp only [ow] at hp
  subst hp
  exact .inr ⟨by simp,hj,.inr hfree⟩
 ·simpa only [gB,fX,kM,kK] using hk
end
section
variable {P:Program} [bU P] {X:Type}
theorem xY {f:FuncId} {args:List AV} {Sb:Nat→Prop} {r:X→AV} {Q:X→Prop} {d:Option Nat} {s:St} {K:St→Prop}
  (h:br P f args [] Sb (fun r' σ'=>∃x,Q x∧r'=r x∧σ'=[])) (hK:∀x,Q x→K (s.put d (r x))):cW P f args d s K:=by
 refine .inl (.inr ⟨[],_,_,[],h,(fun id o hh=>by cases hh),?_,?_⟩)
 ·rintro r' σ' ⟨x,hx,rfl,rfl⟩ id hid;cases hid
 ·rintro r' σ' ⟨x,hx,rfl,rfl⟩
  refine ⟨⟨gB [] s.env,fX [] s.heap⟩,fun k=>kQ k [] s.env,fun i=>?_,hK x hx⟩
  show ak (fX [] s.heap) i=Option.map (eD []) (ak s.heap i)
  rw [jB]
end
inductive Nd:AV→AV→Prop where
 | rfl (x:AV):Nd x x
 | nl (st:Nat):Nd .nl (.sl st [])
 | sl (st:Nat) (rows rows':List (List AV)) (hl:rows.length=rows'.length) (hr:∀(i:Nat) (r r':List AV),rows[i]? = some r→rows'[i]? = some r'→r.length=r'.length)
   (hx:∀(i j:Nat) (r r':List AV) (x y:AV),rows[i]? = some r→rows'[i]? = some r'→r[j]? = some x→r'[j]? = some y→Nd x y):Nd (.sl st rows) (.sl st rows')
theorem IRel.nd {M:Nat→Prop} {w:World} {x y:AV} (h:Nd x y):∀{v:Value},IRel M w v x→IRel M w v y:=by
 induction h with
 | rfl x=>exact fun h=>h
 | nl st=>exact fun h=>IRel.nl_sl h st
 | sl st rows rows' hl hr hx ih =>
  intro v h
  cases h with
  | nls=>obtain rfl:rows'=[]:=nJ (by simpa using hl.symm);exact .nls st
  | sl0 _ a cap=>obtain rfl:rows'=[]:=nJ (by simpa using hl.symm);exact .sl0 st a cap
  | sl b off cap _ c t fr _ vs hb hM hle hrl hv hxx =>
   rw [hl]
   have get:∀{i:Nat} {r':List AV},rows'[i]? = some r'→∃r,rows[i]? = some r:=fun {i r'} h=>by
    have hi:i<rows'.length:=by
     rcases dT i rows'.length with q | q
     ·exact q
     ·rw [List.getElem?_eq_none q] at h;cases h
    exact ⟨rows[i]'(by omega),ig _⟩
   refine .sl b off cap st c t fr rows' vs hb hM (by omega) (fun i r' hi=>?_) (fun i j hi hj=>hv i j (by omega) hj) (fun i j r' y hi hj=>?_)
   ·obtain ⟨r,hr2⟩:=get hi
    rw [← hr i r r' hr2 hi]
    exact hrl i r hr2
   ·obtain ⟨r,hr2⟩:=get hi
    have hjl:j<r.length:=by
     rw [hr i r r' hr2 hi]
     rcases dT j r'.length with q | q
     ·exact q
     ·rw [List.getElem?_eq_none q] at hj;cases hj
    exact ih i j r r' _ y hr2 hi (ig hjl) hj (hxx i j r _ hr2 (ig hjl))
theorem bK.nd {bl:Nat→Option Nat} {M:Nat→Prop} {w:World} {v:Value} {x y:AV} (h:Nd x y) (hr:bK bl M w v x):bK bl M w v y:=by
 cases h with
 | rfl=>exact hr
 | nl st=>exact IRel.nd (.nl st) (show IRel M w v .nl from hr)
 | sl st rows rows' h1 h2 h3=>exact IRel.nd (.sl st rows rows' h1 h2 h3) (show IRel M w v (.sl st rows) from hr)
def Wc (x y:AV):Prop:=Nd x y∨∃l m,x = .agg l∧y = .agg m∧aU Nd l m
theorem Jv {bl:Nat→Option Nat} {M:Nat→Prop} {w:World} {v:Value} {x y:AV} (h:Wc x y) (hr:ba bl M w v x):ba bl M w v y:=by
 rcases h with h | ⟨l,m,rfl,rfl,h⟩
 ·cases h with
  | rfl=>exact hr
  | nl st=>exact IRel.nd (.nl st) (show IRel M w v .nl from hr)
  | sl st rows rows' h1 h2 h3=>exact IRel.nd (.sl st rows rows' h1 h2 h3) (show IRel M w v (.sl st rows) from hr)
 ·obtain ⟨cs,h1,h2⟩:=hr
  refine ⟨cs,h1,?_⟩
  clear h1
  induction cs generalizing l m with
  | nil=>match l,m,h,h2 with | [],[],_,_=>trivial
  | cons c cs ih=>match l,m,h,h2 with | a :: l,b :: m,h,h2=>exact ⟨bK.nd h.1 h2.1,ih l m h.2 h2.2⟩
theorem u7 {bl:Nat→Option Nat} {M:Nat→Prop} {w:World}:∀{vs:List Value} {l m:List AV},aU Wc l m→aU (ba bl M w) vs l→aU (ba bl M w) vs m
 | [],[],[],_,_=>trivial
 | v :: vs,x :: l,y :: m,h,hr=>⟨Jv h.1 hr.1,u7 h.2 hr.2⟩
 | [],[],_ :: _,h,_=>h.elim
 | [],_ :: _,_,_,hr=>hr.elim
 | _ :: _,[],_,_,hr=>hr.elim
 | _ :: _,_ :: _,[],h,_=>h.elim
theorem vX {P:Program} [bU P] {f:FuncId} {xs ys:List AV} {r:AV} (hp:ae P f ys r) (h:aU Wc xs ys):ae P f xs r :=
 fun bl MF w cargs h1 h2 h3 h4 h5=>hp bl MF w cargs h1 h2 h3 h4 (u7 h h5)
def rW (n:Nat):bE→bE
 | .draw ops al dr=>match ops with
  | ⟨⟨some d,op,g⟩,b⟩ :: r=>if d=n then .free (⟨⟨some d,op,g⟩,b⟩ :: r) al dr else .draw (⟨⟨some d,op,g⟩,b⟩ :: r) al dr
  | ops=>.draw ops al dr
 | .seq x y=>.seq (rW n x) (rW n y)
 | .cond c x y=>.cond c (rW n x) (rW n y)
 | .block id x=>.block id (rW n x)
 | .loop x=>.loop (rW n x)
 | x=>x
def Z2 (b:List Nat) (R:List (Nat×aR)):Bool:=R.all fun q=>!b.contains q.1
def Vo (R:List (Nat×aR)):List (Nat×aR)→List (Nat×aR)
 | []=>[]
 | t :: L=>if Z2 t.2.bef R=true then t :: Vo R L else Vo R L
def S4 (i:Nat):List (Nat×aR)→List (Nat×aR)
 | []=>[]
 | t :: L=>if t.1=i then S4 i L else t :: S4 i L
section
variable {P:Program} [bU P]
def Tc:Nat→List aR→List (Nat×aR)
 | _,[]=>[]
 | i,o :: r=>(i,o) :: Tc (i+1) r
end
attribute [go_sem] List.contains_cons List.contains_nil aQ ay
structure Bk (H:Type) where
 f:DataW H→Nat
 str:∀l:List UInt8,l.length≤f (.lit (.string l))
 sl:∀es sp,es.length≤f (.slice es sp)
 sle:∀es sp d,d∈es→f d≤f (.slice es sp)
 ag:∀ps d,d∈ps→f d≤f (.agg ps)
def Ty.bd (B:Nat):Ty→List AV→Prop
 | .str,xs=>∀s,xs=[.str s]→s.length≤B
 | .sl e,xs=>∀st rows,xs=[.sl st rows]→rows.length≤B∧∀r∈rows,e.bd B r
 | .cons f r,xs=>f.bd B (xs.take f.n)∧r.bd B (xs.drop f.n)
 | _,_=>True
def Ty.bdV (B:Nat) (τ:Ty) (x:AV):Prop:=match τ.isRec with
 | true=>∀xs,x = .agg xs→τ.bd B xs
 | false=>τ.bd B [x]
section
variable {H:Type} {enc:TypeId×Value→H} {P:Program} {w:World} {base:Nat} {sp:Nat→Bool} {held:Bool}
theorem rO (k:Bk H) {B:Nat} {g:TypeId→Option Ty} {r:TypeId→List Value→Option (DataW H×List MemPlace)}
  (ih:∀t cs τ x xs,g t=some τ→r t cs=some x→τ.ok xs→aU (IRel (fun _=>False) w) cs xs→k.f x.1≤B→τ.bd B xs) (cs:List Value) :
  ∀(fs:List Field) (off:Nat) (τ:Ty) (xs:List (DataW H×List MemPlace)) (ys:List AV),qq g P off fs=some τ→(fs.mapM fun f=>r f.type ((cs.drop f.offset).take (P.cellsOf f.type)))=some xs →
   τ.ok ys→aU (IRel (fun _=>False) w) (cs.drop off) ys→(∀x∈xs,k.f x.1≤B)→τ.bd B ys
 | [],off,τ,xs,ys,ht,_,_,_,_=>by
  simp only [qq,cq] at ht
  subst ht
  trivial
 | f :: fs,off,τ,xs,ys,ht,hm,hok,hr,hB=>by
  simp only [qq] at ht
  split at ht
  case isFalse=>cases ht
  rename_i hoff
  split at ht
  case h_2=>cases ht
  rename_i a b ha hb
  split at ht
  case isFalse=>cases ht
  rename_i hsz
  cases ht
  simp only [List.mapM_cons,bind,kN,pure,cq] at hm
  obtain ⟨y,h1,zs,h2,rfl⟩:=hm
  obtain ⟨y1,y2,rfl,o1,o2⟩:=hok
  have hl:=Ty.ok_len a y1 o1
  have r1:=hr.take a.n
  have r2:=hr.drop a.n
  rw [List.take_left' hl] at r1
  rw [List.drop_left' hl,List.drop_drop] at r2
  refine ⟨?_,?_⟩
  ·rw [List.take_left' hl]
   rw [hoff] at h1
   rw [hsz] at r1
   exact ih _ _ _ _ _ ha h1 o1 r1 (hB y (by simp))
  ·rw [List.drop_left' hl]
   rw [hsz] at r2
   exact rO k ih cs fs (off+P.cellsOf f.type) b zs y2 hb h2 o2 r2 (fun x hx=>hB x (by simp [hx]))
theorem KE (k:Bk H) {B:Nat}:∀(fuel f:Nat) (t:TypeId) (cs:List Value) (τ:Ty) (x:DataW H×List MemPlace) (xs:List AV),kJ P f t=some τ→DataW.trod enc P w base sp held fuel t cs=some x→τ.ok xs →
  aU (IRel (fun _=>False) w) cs xs→k.f x.1≤B→τ.bd B xs:=by
 intro fuel
 induction fuel with
 | zero=>intro f t cs τ x xs _ h;simp [DataW.trod] at h
 | succ fuel ih =>
  intro f t cs τ x xs ht h hok hr hB
  cases f with
  | zero=>simp [kJ] at ht
  | succ f =>
   simp only [kJ] at ht
   split at ht
   case h_1 hu=>cases ht;trivial
   case h_2 k' hu=>cases ht;trivial
   case h_3 hu =>
    cases ht
    unfold DataW.trod at h
    split at h<;>rename_i heq<;>first | (rw [hu] at heq;cases heq;done) | (cases h;done) | skip
    rename_i s
    split at h
    ·cases h
     intro s' hs
     subst hs
     have h1:=hr.1
     cases h1
     have:=k.str s'
     exact dn this hB
    ·cases h
   case h_4 e hu =>
    split at ht
    case h_2=>cases ht
    rename_i a ha
    split at ht
    case isFalse=>cases ht
    rename_i hsz
    cases ht
    unfold DataW.trod at h
    split at h<;>rename_i heq<;>first | (rw [hu] at heq;cases heq;done) | (cases h;done) | skip
    ·intro st rows hs
     subst hs
     have h1:=hr.1
     cases h1
     exact ⟨cE _,fun r hr=>by cases hr⟩
    ·rename_i e1 ad len cap
     rw [hu] at heq
     cases heq
     simp only at h
     split at h
     case isFalse=>cases h
     rename_i hcap
     simp only [kN,c9] at h
     obtain ⟨elems,hel,rest,_,rfl⟩:=h
     obtain ⟨hlen,ak⟩:=lN hel
     intro st rows hs
     subst hs
     have h1:=hr.1
     have hall:∀y∈elems,k.f y.1≤B:=fun y hy=>dn (k.sle (elems.map (·.1)) (rest.map (·.1)) y.1 (List.mem_map.2 ⟨y,hy,rfl⟩)) hB
     have hln:elems.length≤B:=by
      have:=k.sl (elems.map (·.1)) (rest.map (·.1))
      rw [cY] at this
      exact dn this hB
     have hrok:∀r∈rows,a.ok r:=by
      rcases hok with hok | ⟨rows',hok,_,h3⟩
      ·cases hok
      ·cases hok;exact h3
     have hst:st=a.n∨rows=[]:=by
      rcases hok with hok | ⟨rows',hok,_,_⟩
      ·cases hok
      ·cases hok;exact .inl rfl
     cases h1 with
     | sl0=>exact ⟨cE _,fun r hr=>by cases hr⟩
     | sl bk of _ _ c tt fr _ vs hb hM hl hrl hv hx =>
      refine ⟨by omega,fun r hrm=>?_⟩
      obtain ⟨i,hi,hri⟩:=List.getElem_of_mem hrm
      have hri':rows[i]? = some r:=by rw [ig hi,hri]
      obtain ⟨y,g1,g2⟩:=ak i (by omega)
      simp only [kN] at g2
      obtain ⟨row,g3,g4⟩:=g2
      have hym:y∈elems:=lX g1
      refine ih f e row a y r ha g4 (hrok r hrm) ?_ (hall y hym)
      have hst':st=a.n:=hst.resolve_right (fun h=>by rw [h] at hi;simp at hi)
      obtain ⟨q1,q2⟩:=ry g3
      have hblk:∀(q:Addr) m,(q.add m).block=q.block:=fun q m=>by unfold Addr.add;split<;>rfl
      have hoff:∀(q:Addr) m,(q.add m).off=q.off+m:=fun q m=>by
       unfold Addr.add
       split
       ·rename_i hm;simp [hm]
       ·rfl
      refine aU.of_get (by rw [q1,Ty.ok_len a r (hrok r hrm),hsz.1]) (fun j v x hv' hx'=>?_)
      have hj:j<P.cellsOf e:=by
       have:=(eV.1 hv').1
       omega
      obtain ⟨v',p1,p2⟩:=q2 j hj
      rw [hv'] at p1
      cases p1
      obtain ⟨_,c',t',fr',p3,p4⟩:=pd p2
      rw [hblk,hblk] at p3
      simp only at p3
      rw [hb] at p3
      cases p3
      rw [hoff,hoff] at p4
      simp only at p4
      have:=hv i j hi (by rw [hst',hsz.1];exact hj)
      rw [hst',hsz.1,p4] at this
      cases this
      exact hx i j r x hri' hx'
   case h_5 fs hu =>
    split at ht
    case h_2=>cases ht
    rename_i a ha
    split at ht
    case isFalse=>cases ht
    rename_i hsz
    cases ht
    unfold DataW.trod at h
    split at h<;>rename_i heq<;>first | (rw [hu] at heq;cases heq;done) | (cases h;done) | skip
    ·rename_i cs1 fs1
     rw [hu] at heq
     cases heq
     split at h
     case isFalse=>cases h
     rename_i hcl
     simp only [c9] at h
     obtain ⟨ys,h1,rfl⟩:=h
     exact rO (P:=P) (g:=kJ P f) (r:=fun t cs=>DataW.trod enc P w base sp held fuel t cs) k (fun t cs τ x xs=>ih f t cs τ x xs) _ _ 0 _ ys xs ha h1 hok (by simpa using hr)
      (fun y hy=>dn (k.ag (ys.map (·.1)) y.1 (List.mem_map.2 ⟨y,hy,rfl⟩)) hB)
   case h_6=>cases ht
end
section
variable {H:Type} {enc:TypeId×Value→H} {P:Program} [bU P] {w:World} {base:Nat} {sp:Nat→Bool} {held:Bool}
theorem HP (k:Bk H) {B:Nat} {f:Nat} {t:TypeId} {τ:Ty} {r:Reach} {b:Nat} {v:Value} {d:DataW H} {p:List MemPlace} (ht:kJ P f t=some τ) (hv:Value.okWide P w r b t v) (h:DataW.Trod enc P w base sp held t v d p) (hB:k.f d≤B) :
  ∃x,τ.okV x∧τ.bdV B x∧ba (fun _=>none) (fun _=>False) w v x:=by
 obtain ⟨fuel,h⟩:=h
 obtain ⟨xs,h1,h2⟩:=KF fuel f t _ _ _ ht h
 have hb:=KE k fuel f t _ _ _ xs ht h h1 h2 hB
 have one:τ.isRec=false→v.cells.toList=[v]→∃x,τ.okV x∧τ.bdV B x∧ba (fun _=>none) (fun _=>False) w v x:=fun hr hc=>by
  rw [hc] at h2
  match xs,h2 with
  | [x],h2=>exact ⟨x,by unfold Ty.okV;rw [hr];exact h1,by unfold Ty.bdV;rw [hr];exact hb,h2.1.toV⟩
 cases f with
 | zero=>simp [kJ] at ht
 | succ f =>
  simp only [kJ] at ht
  unfold Value.okWide at hv
  split at ht
  ·rename_i hu
   rw [hu] at hv
   cases ht
   exact one rfl (by
    unfold Cell.okWide at hv;rw [hu] at hv
    simp only [Cell.ok,hu] at hv
    cases v<;>first | rfl | exact hv.elim)
  ·rename_i k hu
   rw [hu] at hv
   cases ht
   exact one rfl (by
    unfold Cell.okWide at hv;rw [hu] at hv
    simp only [Cell.ok,hu] at hv
    cases v<;>first | rfl | exact hv.elim)
  ·rename_i hu
   rw [hu] at hv
   cases ht
   exact one rfl (by
    unfold Cell.okWide at hv;rw [hu] at hv
    simp only [Cell.ok,hu] at hv
    cases v<;>first | rfl | exact hv.elim)
  ·rename_i e hu
   rw [hu] at hv
   have hr:τ.isRec=false:=by
    split at ht
    case h_2=>cases ht
    split at ht
    case isFalse=>cases ht
    cases ht
    rfl
   exact one hr (by
    unfold Cell.okWide at hv;rw [hu] at hv
    simp only [Cell.ok,hu] at hv
    cases v<;>first | rfl | exact hv.elim)
  ·rename_i fs hu
   rw [hu] at hv
   have hr:τ.isRec=true:=by
    split at ht
    case h_2=>cases ht
    rename_i hfs
    split at ht
    case isFalse=>cases ht
    cases ht
    exact xC hfs
   obtain ⟨cs,rfl,_,_⟩:=hv
   refine ⟨.agg xs,by unfold Ty.okV;rw [hr];exact ⟨xs,rfl,h1⟩,by unfold Ty.bdV;rw [hr];intro ys hy;cases hy;exact hb,cs.toList,by simp,?_⟩
   exact aU.mono h2 fun a x _ h=>h.toC
  ·cases ht
theorem uu (k:Bk H) {B:Nat} {r:Reach} {b:Nat}:∀{ts:List TypeId} {τs:List Ty} {vs:List Value} {ds:List (DataW H)} {ps:List MemPlace},aU (fun t τ=>kJ P 9 t=some τ) ts τs →
  DataW.TrodAll enc P w base sp held ts vs ds ps→(∀(j:Nat) t v,ts[j]? = some t→vs[j]? = some v→Value.okWide P w r b t v)→(∀d∈ds,k.f d≤B)→∃xs,aU Ty.okV τs xs∧aU (Ty.bdV B) τs xs∧aU (ba (fun _=>none) (fun _=>False) w) vs xs
 | [],[],[],ds,ps,_,h,_,_=>⟨[],trivial,trivial,trivial⟩
 | t :: ts,τ :: τs,v :: vs,d :: ds,ps,ht,h,hv,hB=>by
  obtain ⟨p,q,h3,h4,rfl⟩:=h
  obtain ⟨x,h5,h5b,h6⟩:=HP k ht.1 (hv 0 t v rfl rfl) h3 (hB d (by simp))
  obtain ⟨xs,h7,h7b,h8⟩:=uu k ht.2 h4 (fun j t v h1 h2=>hv (j+1) t v (by simpa using h1) (by simpa using h2)) (fun d' hd'=>hB d' (by simp [hd']))
  exact ⟨x :: xs,⟨h5,h7⟩,⟨h5b,h7b⟩,h6,h8⟩
 | [],[],_ :: _,_,_,_,h,_,_=>h.elim
 | _ :: _,[],_,_,_,ht,_,_,_=>ht.elim
 | [],_ :: _,_,_,_,ht,_,_,_=>ht.elim
 | _ :: _,_ :: _,[],_,_,_,h,_,_=>h.elim
 | _ :: _,_ :: _,_ :: _,[],_,_,h,_,_=>h.elim
end
section
variable {H:Type} {enc:TypeId×Value→H} {P:Program} [bU P] {w:World}
theorem qJ (k:Bk H) {B:Nat} {fid:FuncId} {f:Func} {s:ChangeSpec} (τs:List Ty) {tb:TypeId} {apart fresh handsOn again:Bool} (hty:aU (fun t τ=>kJ P 9 t=some τ) f.params.toList τs) (hl:laidOutB P=true)
  (hr:∀t∈f.params.toList,P.readableRec t=true∧t<P.types.size) (hvs:s.vars=[])
  (hfn:∀ds:List (DataW H),ds.length=τs.length→(s.fn H ds).results=[.lit (.bool true)]∧(s.fn H ds).args=ds∧(s.fn H ds).vars=[])
  (hrt:f.resultTypes = #[tb]) (htb:P.underlying tb=some .bool)
  (hp:∀xs,aU Ty.okV τs xs→aU (Ty.bdV B) τs xs→ae P fid xs (.bool true))
  (W:World) (b:Nat) (args:Array Value) (ds gs:List (DataW H)) (before:List MemPlace) {r:Reach} (hT:(bU.T P).H W)
  (hval:∀(j:Nat) t v,f.params[j]? = some t→args[j]? = some v→Value.okWide P W r b t v)
  (hW:DataW.Whole enc P f.params.toList s.vars apart W args.toList ds gs before) (hB:∀d∈ds,k.f d≤B) :
  Calls P fid args W fun e W'=>∃v,e = .returned v∧s.post enc P f apart fresh handsOn again W args v W':=by
 have hW':=hW
 obtain ⟨p,q,hA,hV,_,_,_⟩:=hW
 rw [hvs] at hV
 obtain ⟨rfl,rfl⟩:=trodVars_none hV
 obtain ⟨xs,h1,h1b,h2⟩:=uu k hty hA (fun j t v h1 h2=>hval j t v (by simpa using h1) (by simpa using h2)) hB
 have h4:=hp xs h1 h1b
 have hlen:ds.length=τs.length:=by
  have key:∀{ts:List TypeId} {vs:List Value} {ds:List (DataW H)} {ps:List MemPlace},DataW.TrodAll enc P W 0 (fun _=>true) true ts vs ds ps→ds.length=ts.length:=by
   intro ts
   induction ts with
   | nil=>intro vs ds ps h;match vs,ds,h with | [],[],_=>rfl
   | cons t ts ih=>intro vs ds ps h;match vs,ds,h with | v :: vs,d :: ds,⟨_,_,_,h4,_⟩=>simp [ih h4]
  rw [key hA,hty.length]
 obtain ⟨g1,g2,g3⟩:=hfn ds hlen
 have:=vp h4 hT h2
 rw [show args.toList.toArray=args from by simp] at this
 refine this.mono fun e W' ⟨he,hk⟩=>⟨_,he,?_⟩
 exact EB hl hr hvs (by simpa using g1) (by simpa using g2) (by simpa using g3) hrt htb hW' hk
end
def Z4 (ρ:Nat→Nat):List (Nat×AV)→List (Nat×AV)
 | []=>[]
 | (k,x) :: r=>(k,kE ρ x) :: Z4 ρ r
section
variable {H:Type} {enc:TypeId×Value→H} {P:Program} {w:World} {base:Nat} {sp:Nat→Bool} {held:Bool}
end
section
variable {H:Type} {enc:TypeId×Value→H} {P:Program} [bU P] {w:World} {base:Nat} {sp:Nat→Bool} {held:Bool}
end
section
variable {H:Type} {enc:TypeId×Value→H} {P:Program} [bU P] {w:World}
end
def sq (n:Nat):bE→bE
 | .draw ops al dr=>match ops with
  | ⟨⟨some d,op,g⟩,b⟩ :: r=>if d=n then .wild (⟨⟨some d,op,g⟩,b⟩ :: r) al dr else .draw (⟨⟨some d,op,g⟩,b⟩ :: r) al dr
  | ops=>.draw ops al dr
 | .seq x y=>.seq (sq n x) (sq n y)
 | .cond c x y=>.cond c (sq n x) (sq n y)
 | .block id x=>.block id (sq n x)
 | .loop x=>.loop (sq n x)
 | x=>x
def Ts:List aR→List aR
 | []=>[]
 | [_]=>[]
 | o :: p :: r=>o :: Ts (p :: r)
def nY:List aR→Option aR
 | []=>none
 | [o]=>some o
 | _ :: p :: r=>nY (p :: r)
theorem pD (o p:aR) (r:List aR):nY (o :: p :: r)=nY (p :: r):=bP rfl
theorem oE:∀l,nY l=l.getLast?
 | []=>rfl
 | [_]=>rfl
 | o :: p :: r=>by rw [pD,oE (p :: r),List.getLast?_cons_cons]
section
variable {P:Program} [bU P]
def aao (al:List (Nat×Nat)) (n:Nat) (o:Option aR) (dr:List Nat) (K:IX→St→Prop) (hist:List HI) (s:St):Prop :=
 match o with
 | some o=>vP al (n - 1) o hist s fun s'=>K .nrm ⟨dels dr s'.env,s'.heap⟩
 | none=>False
def Yo (P:Program) [bU P] (al:List (Nat×Nat)) (i:Nat) (r:List aR) (K:List HI→St→Prop) (hist:List HI) (s:St):Prop:=eG P al i r hist s K
end
attribute [go_sem] pD
end Go.Mw