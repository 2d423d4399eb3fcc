import Derived.Test.YtdfofedlbljnhaaGreatDoorQb
import Derived.ProofKit
import Derived.OpenShut
import Derived.JoinedCond
import Derived.RangeFuncFrom
import Derived.RangeFuncLeaves
import Derived.RangeFuncCalls
set_option linter.all false
namespace Go.Mw
def ac {α:Type} [Inhabited α] (l:List α) (i:Nat):α:=l[i]!
theorem bp {α:Type} [Inhabited α] {l:List α} {i:Nat} (h:i<l.length):ac l i=l[i]:=getElem!_pos l i h
theorem oY {α:Type} [Inhabited α] {l:List α} {i:Nat} (h:i<l.length):l[i]? = some (ac l i):=by rw [bp h];exact lg h
theorem IQ {α:Type} [Inhabited α] {l:List α} {i:Nat} {x:α} (h:i<l.length):ac (l.set i x) i=x:=by rw [bp (by simpa using h)];simp
theorem k9 {α:Type} [Inhabited α] {l m:List α} {i:Nat} (h:i<l.length):ac (l++m) i=ac l i:=by
 rw [bp h,bp (by simp;omega),List.getElem_append_left h]
theorem BR {α:Type} [Inhabited α] {l m:List α} {x:α}:ac (l++x :: m) l.length=x:=by
 simp [ac]
theorem IP {α β:Type} [Inhabited α] [Inhabited β] {l:List α} {f:α→β} {i:Nat} (h:i<l.length):ac (l.map f) i=f (ac l i):=by
 rw [bp h,bp (by simpa using h),List.getElem_map]
theorem KF {α:Type} [Inhabited α] {l:List α} {i k:Nat} (h:i<k):ac (l.take k) i=ac l i:=by
 unfold ac
 rw [List.getElem!_eq_getElem?_getD,List.getElem!_eq_getElem?_getD,List.getElem?_take_of_lt h]
theorem KE {α:Type} [Inhabited α] {l:List α} {i k:Nat}:ac (l.drop k) i=ac l (k+i):=by
 unfold ac
 rw [List.getElem!_eq_getElem?_getD,List.getElem!_eq_getElem?_getD,List.getElem?_drop]
theorem yA {α:Type} [Inhabited α] (x:α) (l:List α) (i:Nat):ac (x :: l) (i+1)=ac l i:=rfl
section
variable {P:Program} [bJ P]
def XN (P:Program) [bJ P] (y:bN) (K:IX→St→Prop) (e:IX) (s:St):Prop :=
 match e with
 | .nrm=>kD P y s K
 | e=>K e s
def akI (P:Program) [bJ P] (y:bN) (K:IX→St→Prop) (e:IX) (s:St):Prop :=
 match e with
 | .nrm=>∃s',Wk s s'∧kD P y s' K
 | e=>K e s
def XH (id:Nat) (K:IX→St→Prop) (e:IX) (s:St):Prop :=
 match e with
 | .ext j=>if j=id then K .nrm s else K (.ext j) s
 | e=>K e s
def XM (dr:List Nat) (K:IX→St→Prop) (s:St):Prop:=K .nrm ⟨dels dr s.env,s.heap⟩
def XL (P:Program) [bJ P] (r:List bu) (K:St→Prop) (s:St):Prop:=j7 P r s K
def NN (P:Program) [bJ P] (al:List (Nat×Nat)) (i:Nat) (r:List aN) (K:St→Prop) (hist:List HI) (s:St):Prop:=nx P al i r hist s K
def Qt (K:St→Prop) (s:St) (d:Option Nat) (v:AV) (e:bq):Prop:=K ((s.eff e).put d v)
def acf (al:List (Nat×Nat)) (i:Nat) (bf:List Nat) (op:pn) (hist:List HI) (K:List HI→St→Prop) (s:St) (d:Option Nat) (v:AV) (e:bq):Prop :=
 eP op s e=true∧jq bf ⟨i,cI op s.env,aH v++e.ids,e.tch,e.isReb,e.isPut⟩ hist=true∧BP al bf ⟨i,cI op s.env,aH v++e.ids,e.tch,e.isReb,e.isPut⟩=true ∧
  K (⟨i,cI op s.env,aH v++e.ids,e.tch,e.isReb,e.isPut⟩ :: hist) ((s.eff e).put d v)
def dQ (K:AV→bq→Prop) (x:Option (AV×bq)):Prop :=
 match x with
 | some (v,e)=>K v e
 | none=>False
def Vl (A:Prop) (K:AV→bq→Prop) (x:Option (AV×bq)):Prop :=
 match x with
 | some (v,e)=>K v e
 | none=>A
def VS (x:AV) (a b:Prop):Prop :=
 match x with
 | .bool t=>(t=true→a)∧(t=false→b)
 | _=>False
def LZ (x:AV) (a b c:Prop):Prop :=
 match x with
 | .bool t=>(t=true→a)∧(t=false→b)
 | .tup []=>c
 | _=>False
theorem acl (y:bN) (K:IX→St→Prop) (s:St):XN P y K .nrm s=kD P y s K:=bV rfl
theorem acm (y:bN) (K:IX→St→Prop) (s:St):XN P y K .ret s=K .ret s:=bV rfl
theorem acn (y:bN) (K:IX→St→Prop) (j:Nat) (s:St):XN P y K (.ext j) s=K (.ext j) s:=bV rfl
theorem acb (id:Nat) (K:IX→St→Prop) (s:St):XH id K .nrm s=K .nrm s:=bV rfl
theorem acd (id:Nat) (K:IX→St→Prop) (s:St):XH id K .ret s=K .ret s:=bV rfl
theorem ace (id j:Nat) (K:IX→St→Prop) (s:St):XH id K (.ext j) s=if j=id then K .nrm s else K (.ext j) s:=bV rfl
theorem ack (dr:List Nat) (K:IX→St→Prop) (s:St):XM dr K s=K .nrm ⟨dels dr s.env,s.heap⟩:=bV rfl
theorem acj (r:List bu) (K:St→Prop) (s:St):XL P r K s=j7 P r s K:=bV rfl
theorem XI (al:List (Nat×Nat)) (i:Nat) (r:List aN) (K:St→Prop) (hist:List HI) (s:St):NN P al i r K hist s=nx P al i r hist s K:=bV rfl
theorem afT (K:St→Prop) (s:St) (d:Option Nat) (v:AV) (e:bq):Qt K s d v e=K ((s.eff e).put d v):=bV rfl
theorem acg (al:List (Nat×Nat)) (i:Nat) (bf:List Nat) (op:pn) (hist:List HI) (K:List HI→St→Prop) (s:St) (d:Option Nat) (v:AV) (e:bq):acf al i bf op hist K s d v e =
 (eP op s e=true∧jq bf ⟨i,cI op s.env,aH v++e.ids,e.tch,e.isReb,e.isPut⟩ hist=true∧BP al bf ⟨i,cI op s.env,aH v++e.ids,e.tch,e.isReb,e.isPut⟩=true ∧
  K (⟨i,cI op s.env,aH v++e.ids,e.tch,e.isReb,e.isPut⟩ :: hist) ((s.eff e).put d v)):=rfl
theorem MS (K:AV→bq→Prop) (v:AV) (e:bq):dQ K (some (v,e))=K v e:=bV rfl
theorem MU (A:Prop) (K:AV→bq→Prop) (v:AV) (e:bq):Vl A K (some (v,e))=K v e:=bV rfl
theorem MT (A:Prop) (K:AV→bq→Prop):Vl A K none=A:=bV rfl
theorem Qg (K:AV→bq→Prop) (c:Prop) [Decidable c] (x:Option (AV×bq)):dQ K (if c then x else none)=(c∧dQ K x):=by
 by_cases h:c<;>simp [h,dQ]
theorem MR (K:AV→bq→Prop) (c:Prop) [Decidable c] (x:Option (AV×bq)):dQ K (if c then none else x)=(¬c∧dQ K x):=by
 by_cases h:c<;>simp [h,dQ]
theorem agQ (v:AV):res (some v)=some (v,.no):=rfl
theorem adz (c:Prop) [Decidable c] (x:Option AV):res (if c then x else none)=if c then res x else none:=by split<;>rfl
theorem Y8 (c:Prop) [Decidable c] (x:Option AV):res (if c then none else x)=if c then none else res x:=by split<;>rfl
theorem Vu (t:Bool) (a b:Prop):VS (.bool t) a b=((t=true→a)∧(t=false→b)):=bV rfl
@[congr] theorem aeK {x x':AV} {a b:Prop} (h:x=x'):VS x a b=VS x' a b:=by rw [h]
theorem aaz (a b:Prop):VS (.bool true) a b=a:=by simp [VS]
theorem Sr (t:Bool) (a b c:Prop):LZ (.bool t) a b c=((t=true→a)∧(t=false→b)):=rfl
@[congr] theorem aeD {x x':AV} {a b c:Prop} (h:x=x'):LZ x a b c=LZ x' a b c:=by rw [h]
theorem abZ (a b c:Prop):LZ (.bool true) a b c=a:=by simp [LZ]
theorem abY (a b c:Prop):LZ (.bool false) a b c=b:=by simp [LZ]
theorem ab0 (a b c:Prop):LZ (.tup []) a b c=c:=by simp [LZ]
theorem aec (a b:Prop):VS (.bool true) a b=a:=aaz a b
theorem aay (a b:Prop):VS (.bool false) a b=b:=by simp [VS]
theorem S9 (s:St) (K:IX→St→Prop):kD P .skip s K=K .nrm s:=bV rfl
theorem XE (s:St) (K:IX→St→Prop):kD P .ret s K=K .ret s:=bV rfl
theorem S8 (id:Nat) (s:St) (K:IX→St→Prop):kD P (.exit id) s K=K (.ext id) s:=bV rfl
theorem XF (x y:bN) (s:St) (K:IX→St→Prop):kD P (.seq x y) s K=kD P x s (XN P y K):=bV rfl
theorem PC (id:Nat) (x:bN) (s:St) (K:IX→St→Prop):kD P (.block id x) s K=kD P x s (XH id K):=bV rfl
theorem S6 (v:IV) (t e:bN) (s:St) (K:IX→St→Prop):kD P (.cond v t e) s K=VS (val (get s.env) v) (kD P t (refine v true s) K) (kD P e (refine v false s) K):=bV rfl
theorem XD (ops:List bu) (dr:List Nat) (s:St) (K:IX→St→Prop):kD P (.reg ops dr) s K=j7 P ops s (XM dr K):=bV rfl
def afP (P:Program) [bJ P] (f:Nat) (R:List (Nat×aN)) (K:St→Prop) (s:St):Prop:=GY P f R s K
def akd (P:Program) [bJ P] (f:Nat) (R:List (Nat×aN)) (s:St) (K:St→Prop) (t:Nat×aN):Prop:=j7 P [t.2.o] s (afP P f (R.filter fun q=>q.1 != t.1) K)
theorem S7 (ops:List aN) (al:List (Nat×Nat)) (dr:List Nat) (s:St) (K:IX→St→Prop):kD P (.draw ops al dr) s K=nx P al 0 ops [] (kills (al.map (·.1)) s) (XM dr K):=bV rfl
theorem S3 (s:St) (K:St→Prop):j7 P [] s K=K s:=bV rfl
theorem PB (d:Option Nat) (op:pn) (r:List bu) (s:St) (K:St→Prop):j7 P (⟨d,op,none⟩ :: r) s K=nS P ⟨d,op,none⟩ s (XL P r K):=bV rfl
theorem Ie (d:Option Nat) (op:pn) (k:Nat) (r:List bu) (s:St) (K:St→Prop):j7 P (⟨d,op,some (k,true)⟩ :: r) s K =
  LZ (get s.env k) (nS P ⟨d,op,none⟩ (s.put (some k) (.bool true)) (XL P r K)) (j7 P r ((s.put (some k) (.bool false)).put d (.tup [])) K) (j7 P r (s.put d (.tup [])) K):=bV rfl
theorem Id (d:Option Nat) (op:pn) (k:Nat) (r:List bu) (s:St) (K:St→Prop):j7 P (⟨d,op,some (k,false)⟩ :: r) s K =
  LZ (get s.env k) (j7 P r ((s.put (some k) (.bool true)).put d (.tup [])) K) (nS P ⟨d,op,none⟩ (s.put (some k) (.bool false)) (XL P r K)) (j7 P r (s.put d (.tup [])) K):=by
 simp only [j7,LZ]
 generalize get s.env k=x
 cases x with
 | bool t=>exact propext ⟨fun h=>⟨h.2,h.1⟩,fun h=>⟨h.2,h.1⟩⟩
 | tup l=>cases l<;>rfl
 | _=>rfl
theorem Ps (al:List (Nat×Nat)) (i:Nat) (hist:List HI) (s:St) (K:St→Prop):nx P al i [] hist s K=K s:=bV rfl
theorem L5 (al:List (Nat×Nat)) (i:Nat) (d:Option Nat) (op:pn) (bf:List Nat) (r:List aN) (hist:List HI) (s:St) (K:St→Prop) :
  nx P al i (⟨⟨d,op,none⟩,bf⟩ :: r) hist s K=jr P al i ⟨⟨d,op,none⟩,bf⟩ hist s (NN P al (i+1) r K):=bV rfl
theorem FU (al:List (Nat×Nat)) (i:Nat) (d:Option Nat) (op:pn) (k:Nat) (bf:List Nat) (r:List aN) (hist:List HI) (s:St) (K:St→Prop) :
  nx P al i (⟨⟨d,op,some (k,true)⟩,bf⟩ :: r) hist s K=LZ (get s.env k) (jr P al i ⟨⟨d,op,none⟩,bf⟩ hist (s.put (some k) (.bool true)) (NN P al (i+1) r K))
   (nx P al (i+1) r (⟨i,[],[],[],false,false⟩ :: hist) ((s.put (some k) (.bool false)).put d (.tup [])) K) (nx P al (i+1) r (⟨i,[],[],[],false,false⟩ :: hist) (s.put d (.tup [])) K):=bV rfl
theorem FT (al:List (Nat×Nat)) (i:Nat) (d:Option Nat) (op:pn) (k:Nat) (bf:List Nat) (r:List aN) (hist:List HI) (s:St) (K:St→Prop) :
  nx P al i (⟨⟨d,op,some (k,false)⟩,bf⟩ :: r) hist s K=LZ (get s.env k) (nx P al (i+1) r (⟨i,[],[],[],false,false⟩ :: hist) ((s.put (some k) (.bool true)).put d (.tup [])) K)
   (jr P al i ⟨⟨d,op,none⟩,bf⟩ hist (s.put (some k) (.bool false)) (NN P al (i+1) r K)) (nx P al (i+1) r (⟨i,[],[],[],false,false⟩ :: hist) (s.put d (.tup [])) K):=by
 simp only [nx,eY,LZ]
 generalize get s.env k=x
 cases x with
 | bool t=>exact propext ⟨fun h=>⟨h.2,h.1⟩,fun h=>⟨h.2,h.1⟩⟩
 | tup l=>cases l<;>rfl
 | _=>rfl
def ZR (P:Program) [bJ P] (f:AV) (args:List AV) (d:Option Nat) (s:St) (K:St→Prop):Prop :=
 match f with
 | .fn f caps=>if f<4000000 then bM P f=true∧cT P f (args++caps) d s K else bM P (f - 4000000)=true∧cT P (f - 4000000) (caps.take 1++args++caps.drop 1) d s K
 | _=>False
theorem R2 (f:FuncId) (caps args:List AV) (d:Option Nat) (s:St) (K:St→Prop):ZR P (.fn f caps) args d s K=if f<4000000 then bM P f=true∧cT P f (args++caps) d s K else bM P (f - 4000000)=true∧cT P (f - 4000000) (caps.take 1++args++caps.drop 1) d s K:=bV rfl
def H_ (P:Program) [bJ P] (f:FuncId) (args:List AV) (i:Nat) (bf:List Nat) (op:pn) (d:Option Nat) (hist:List HI) (s:St) (K:List HI→St→Prop):Prop :=
 (∃args' r b,ao P f args' r∧(∀x∈args',aH x=[])∧aS (VH b (ae s.heap)) args args'∧(b=true→BF r=true)∧aH r=[] ∧
   eP op s .no=true∧jq bf ⟨i,cI op s.env,[],[],false,false⟩ hist=true∧K (⟨i,cI op s.env,[],[],false,false⟩ :: hist) (s.put d r)) ∨
 ∃k ob ob' Sb r,aX P f args [(k,ob)] Sb (fun r' σ'=>r'=r∧σ'=[(k,ob')])∧Sb k∧ae s.heap k=some ob∧aH r=[]∧dA ob'=[]∧k∈cI op s.env ∧
   eP op s (.put k ob')=true∧jq bf ⟨i,cI op s.env,[],[k],false,true⟩ hist=true∧K (⟨i,cI op s.env,[],[k],false,true⟩ :: hist) ((s.eff (.put k ob')).put d r)
theorem Pl (al:List (Nat×Nat)) (i:Nat) (d:Option Nat) (f:FuncId) (args:List IV) (g:Option (Nat×Bool)) (bf:List Nat) (hist:List HI) (s:St) (K:List HI→St→Prop) :
  jr P al i ⟨⟨d,.call f args,g⟩,bf⟩ hist s K=H_ P f (args.map (val (get s.env))) i bf (.call f args) d hist s K:=bV rfl
theorem PV (d:Nat) (t:TypeId) (st:Nat) (rows:List (List AV)) (ps:List (Nat×IV)) (g:Option (Nat×Bool)) (s:St) (K:St→Prop):KM ⟨some d,.bsl t st rows ps,g⟩ s K=dQ (Qt K (s.kill d) (some d)) (bW d (.bsl t st rows ps) (val (get (s.kill d).env)) (ae (s.kill d).heap)):=bV rfl
theorem L2 {al:List (Nat×Nat)} {i d:Nat} {t:TypeId} {st:Nat} {y:IV} {g:Option (Nat×Bool)} {bf:List Nat} {hist:List HI} {s:St} {K:List HI→St→Prop} (rows:List (List AV)) (h1:bW d (.app t st (.c .nl) y) (val (get s.env)) (ae s.heap)=some (.ms d st 0 rows.length,.new d ⟨t,st,rows,false⟩))
  (h2:eP (.app t st (.c .nl) y) s .no=true) (h3:jq bf ⟨i,cI (.app t st (.c .nl) y) s.env,[],[],false,false⟩ hist=true) (h4:K (⟨i,cI (.app t st (.c .nl) y) s.env,[],[],false,false⟩ :: hist) (s.put (some d) (.sl st rows))):jr P al i ⟨⟨some d,.app t st (.c .nl) y,g⟩,bf⟩ hist s K :=
 .inr ⟨rows,rfl,h1,h2,h3,h4⟩
def RI (K:St→Prop) (s:St) (d:Option Nat) (n:Nat) (o:pn):Prop:=dQ (Qt K s d) (bW n o (val (get s.env)) (ae s.heap))
theorem RI_e (K:St→Prop) (s:St) (d:Option Nat) (n:Nat) (o:pn):RI K s d n o=dQ (Qt K s d) (bW n o (val (get s.env)) (ae s.heap)):=bV rfl
def RD (al:List (Nat×Nat)) (i:Nat) (bf:List Nat) (hist:List HI) (K:List HI→St→Prop) (s:St) (d:Option Nat) (n:Nat) (o:pn):Prop:=dQ (acf al i bf o hist K s d) (bW n o (val (get s.env)) (ae s.heap))
theorem RD_e (al:List (Nat×Nat)) (i:Nat) (bf:List Nat) (hist:List HI) (K:List HI→St→Prop) (s:St) (d:Option Nat) (n:Nat) (o:pn):RD al i bf hist K s d n o=dQ (acf al i bf o hist K s d) (bW n o (val (get s.env)) (ae s.heap)):=bV rfl
attribute [go_sem] RI_e RD_e
section
variable (g:Option (Nat×Bool)) (s:St) (K:St→Prop)
theorem SS (d:Option Nat) (f:FuncId) (args:List IV):nS P ⟨d,.call f args,g⟩ s K=cT P f (args.map (val (get s.env))) d s K:=bV rfl
theorem Py (d:Option Nat) (f:IV) (args:List IV):nS P ⟨d,.callv f args,g⟩ s K=ZR P (val (get s.env) f) (args.map (val (get s.env))) d s K:=bV rfl
theorem Xy (d:Option Nat) (x:IV):nS P ⟨d,.mov x,g⟩ s K=RI K s d 0 (.mov x):=bV rfl
theorem SY (d:Option Nat) (c a b:IV):nS P ⟨d,.pick c a b,g⟩ s K=RI K s d 0 (.pick c a b):=bV rfl
theorem Px (d:Option Nat) (cs:List AV) (ps:List (Nat×Nat×IV)):nS P ⟨d,.build cs ps,g⟩ s K=RI K s d 0 (.build cs ps):=bV rfl
theorem SV (d:Option Nat) (n:Option Nat) (p:IV):nS P ⟨d,.load n p,g⟩ s K=RI K s d 0 (.load n p):=bV rfl
theorem PA (d:Option Nat) (n:Nat) (p x:IV):nS P ⟨d,.store n p x,g⟩ s K=RI K s d 0 (.store n p x):=bV rfl
theorem ST (d:Option Nat) (o:Nat) (p:IV):nS P ⟨d,.fadr o p,g⟩ s K=RI K s d 0 (.fadr o p):=bV rfl
theorem SU (d:Option Nat) (st:Nat) (x q:IV):nS P ⟨d,.iadr st x q,g⟩ s K=RI K s d 0 (.iadr st x q):=bV rfl
theorem SQ (d:Option Nat) (st n:Nat) (x q:IV):nS P ⟨d,.aadr st n x q,g⟩ s K=RI K s d 0 (.aadr st n x q):=bV rfl
theorem Xx (d:Option Nat) (m:Bool) (x y:IV):nS P ⟨d,.mnx m x y,g⟩ s K=RI K s d 0 (.mnx m x y):=bV rfl
theorem Xm (d:Option Nat) (st:Nat) (x y:IV):nS P ⟨d,.cpy st x y,g⟩ s K=RI K s d 0 (.cpy st x y):=bV rfl
theorem XB (d:Option Nat) (x y:IV):nS P ⟨d,.sib x y,g⟩ s K=RI K s d 0 (.sib x y):=bV rfl
theorem Xp (d:Option Nat) (x:IV):nS P ⟨d,.cvm x,g⟩ s K=RI K s d 0 (.cvm x):=bV rfl
theorem XC (d:Option Nat) (st:Nat) (x:IV) (lo hi mx:Option IV):nS P ⟨d,.slc st x lo hi mx,g⟩ s K=RI K s d 0 (.slc st x lo hi mx):=bV rfl
theorem Xs (d:Option Nat) (x:IV):nS P ⟨d,.len x,g⟩ s K=RI K s d 0 (.len x):=bV rfl
theorem S1 (d:Option Nat) (x:IV):nS P ⟨d,.slen x,g⟩ s K=RI K s d 0 (.slen x):=bV rfl
theorem S2 (d:Option Nat) (x:IV) (lo hi:Option IV):nS P ⟨d,.sslc x lo hi,g⟩ s K=RI K s d 0 (.sslc x lo hi):=bV rfl
theorem Xj (d:Option Nat) (o:BinOp) (x y:IV):nS P ⟨d,.bin o x y,g⟩ s K=RI K s d 0 (.bin o x y):=bV rfl
theorem SR (d:Option Nat) (o:BinOp) (x y:IV):nS P ⟨d,.bbin o x y,g⟩ s K=RI K s d 0 (.bbin o x y):=bV rfl
theorem SX (d:Option Nat) (o:BinOp) (x y:IV):nS P ⟨d,.pbin o x y,g⟩ s K=RI K s d 0 (.pbin o x y):=bV rfl
theorem SZ (d:Option Nat) (o:BinOp) (ls:List LK) (x y:IV):nS P ⟨d,.sbin o ls x y,g⟩ s K=RI K s d 0 (.sbin o ls x y):=bV rfl
theorem ab_ (d:Option Nat) (o:UnOp) (x:IV):nS P ⟨d,.un o x,g⟩ s K=RI K s d 0 (.un o x):=bV rfl
theorem Xo (d:Option Nat) (k:IntKind) (x:IV):nS P ⟨d,.cvi k x,g⟩ s K=RI K s d 0 (.cvi k x):=bV rfl
theorem Xq (d:Option Nat) (x:IV):nS P ⟨d,.cvs x,g⟩ s K=RI K s d 0 (.cvs x):=bV rfl
theorem Xr (d:Option Nat) (x:IV) (q:Nat):nS P ⟨d,.ext x q,g⟩ s K=RI K s d 0 (.ext x q):=bV rfl
theorem SW (d:Option Nat) (x:IV):nS P ⟨d,.nchk x,g⟩ s K=RI K s d 0 (.nchk x):=bV rfl
theorem Xt (d:Option Nat) (f:FuncId) (cs:List IV):nS P ⟨d,.mkf f cs,g⟩ s K=RI K s d 0 (.mkf f cs):=bV rfl
theorem S0 (d:Option Nat) (x q:IV):nS P ⟨d,.sidx x q,g⟩ s K=RI K s d 0 (.sidx x q):=bV rfl
theorem XA (d:Nat) (t:TypeId) (cs:List AV):nS P ⟨some d,.new t cs,g⟩ s K=(d<1000∧dQ (Qt K (s.kill d) (some d)) (bW d (.new t cs) (val (get (s.kill d).env)) (ae (s.kill d).heap))):=bV rfl
theorem Xk (d:Nat) (t:TypeId) (n:Nat) (x:IV):nS P ⟨some d,.box t n x,g⟩ s K=(d<1000∧dQ (Qt K (s.kill d) (some d)) (bW d (.box t n x) (val (get (s.kill d).env)) (ae (s.kill d).heap))):=bV rfl
theorem Xl (d:Nat) (t:TypeId) (st:Nat) (rows:List (List AV)) (ps:List (Nat×IV)):nS P ⟨some d,.bsl t st rows ps,g⟩ s K=(d<1000∧Vl (Rr ⟨some d,.bsl t st rows ps,g⟩ s K) (Qt K (s.kill d) (some d)) (bW d (.bsl t st rows ps) (val (get (s.kill d).env)) (ae (s.kill d).heap))):=bV rfl
theorem Xi (d:Nat) (t:TypeId) (st:Nat) (x y:IV):nS P ⟨some d,.app t st x y,g⟩ s K=(d<1000∧dQ (Qt K (s.kill d) (some d)) (bW d (.app t st x y) (val (get (s.kill d).env)) (ae (s.kill d).heap))):=bV rfl
theorem Xn (d:Nat) (t:TypeId) (x:IV):nS P ⟨some d,.cvb t x,g⟩ s K=(d<1000∧dQ (Qt K (s.kill d) (some d)) (bW d (.cvb t x) (val (get (s.kill d).env)) (ae (s.kill d).heap))):=bV rfl
theorem Xv (d:Nat) (t:TypeId) (st:Nat) (z:List AV) (l c:IV):nS P ⟨some d,.mks t st z l c,g⟩ s K=(d<1000∧dQ (Qt K (s.kill d) (some d)) (bW d (.mks t st z l c) (val (get (s.kill d).env)) (ae (s.kill d).heap))):=bV rfl
end
section
variable (al:List (Nat×Nat)) (i:Nat) (g:Option (Nat×Bool)) (bf:List Nat) (hist:List HI) (s:St) (K:List HI→St→Prop)
theorem SB (d:Option Nat) (x:IV):jr P al i ⟨⟨d,.mov x,g⟩,bf⟩ hist s K=RD al i bf hist K s d 0 (.mov x):=bV rfl
theorem L1 (d:Option Nat) (cs:List AV) (ps:List (Nat×Nat×IV)):jr P al i ⟨⟨d,.build cs ps,g⟩,bf⟩ hist s K=RD al i bf hist K s d 0 (.build cs ps):=bV rfl
theorem Po (d:Option Nat) (n:Option Nat) (p:IV):jr P al i ⟨⟨d,.load n p,g⟩,bf⟩ hist s K=RD al i bf hist K s d 0 (.load n p):=bV rfl
theorem L3 (d:Option Nat) (n:Nat) (p x:IV):jr P al i ⟨⟨d,.store n p x,g⟩,bf⟩ hist s K=RD al i bf hist K s d 0 (.store n p x):=bV rfl
theorem Pm (d:Option Nat) (o:Nat) (p:IV):jr P al i ⟨⟨d,.fadr o p,g⟩,bf⟩ hist s K=RD al i bf hist K s d 0 (.fadr o p):=bV rfl
theorem Pn (d:Option Nat) (st:Nat) (x q:IV):jr P al i ⟨⟨d,.iadr st x q,g⟩,bf⟩ hist s K=RD al i bf hist K s d 0 (.iadr st x q):=bV rfl
theorem SD (d:Option Nat) (st:Nat) (x:IV) (lo hi mx:Option IV):jr P al i ⟨⟨d,.slc st x lo hi mx,g⟩,bf⟩ hist s K=RD al i bf hist K s d 0 (.slc st x lo hi mx):=bV rfl
theorem Sz (d:Option Nat) (x:IV):jr P al i ⟨⟨d,.len x,g⟩,bf⟩ hist s K=RD al i bf hist K s d 0 (.len x):=bV rfl
theorem Pr (d:Option Nat) (x:IV) (lo hi:Option IV):jr P al i ⟨⟨d,.sslc x lo hi,g⟩,bf⟩ hist s K=RD al i bf hist K s d 0 (.sslc x lo hi):=bV rfl
theorem Su (d:Option Nat) (o:BinOp) (x y:IV):jr P al i ⟨⟨d,.bin o x y,g⟩,bf⟩ hist s K=RD al i bf hist K s d 0 (.bin o x y):=bV rfl
theorem Sw (d:Option Nat) (k:IntKind) (x:IV):jr P al i ⟨⟨d,.cvi k x,g⟩,bf⟩ hist s K=RD al i bf hist K s d 0 (.cvi k x):=bV rfl
theorem Sx (d:Option Nat) (x:IV):jr P al i ⟨⟨d,.cvs x,g⟩,bf⟩ hist s K=RD al i bf hist K s d 0 (.cvs x):=bV rfl
theorem Sy (d:Option Nat) (x:IV) (q:Nat):jr P al i ⟨⟨d,.ext x q,g⟩,bf⟩ hist s K=RD al i bf hist K s d 0 (.ext x q):=bV rfl
theorem Pp (d:Option Nat) (x:IV):jr P al i ⟨⟨d,.nchk x,g⟩,bf⟩ hist s K=RD al i bf hist K s d 0 (.nchk x):=bV rfl
theorem Pq (d:Option Nat) (x q:IV):jr P al i ⟨⟨d,.sidx x q,g⟩,bf⟩ hist s K=RD al i bf hist K s d 0 (.sidx x q):=bV rfl
theorem SC (d:Nat) (t:TypeId) (cs:List AV):jr P al i ⟨⟨some d,.new t cs,g⟩,bf⟩ hist s K=RD al i bf hist K s (some d) d (.new t cs):=bV rfl
theorem Sv (d:Nat) (t:TypeId) (st:Nat) (rows:List (List AV)) (ps:List (Nat×IV)):jr P al i ⟨⟨some d,.bsl t st rows ps,g⟩,bf⟩ hist s K=RD al i bf hist K s (some d) d (.bsl t st rows ps):=bV rfl
end
theorem aa9 (d:Nat) (x:IV) (ρ:IV→AV) (h:Nat→Option ak):bW d (.mov x) ρ h=some (ρ x,.no):=rfl
def Uo (c a b:AV):Option (AV×bq) :=
 match c with
 | .bool true=>some (a,.no)
 | .bool false=>some (b,.no)
 | _=>none
theorem Wn (d:Nat) (c a b:IV) (ρ:IV→AV) (h:Nat→Option ak):bW d (.pick c a b) ρ h=Uo (ρ c) (ρ a) (ρ b):=rfl
theorem YP (a b:AV):Uo (.bool true) a b=some (a,.no):=rfl
theorem YO (a b:AV):Uo (.bool false) a b=some (b,.no):=rfl
theorem aa_ (d:Nat) (t:TypeId) (cs:List AV) (ρ:IV→AV) (h:Nat→Option ak):bW d (.new t cs) ρ h=some (.mp d cs.length 0 0,.new d ⟨t,cs.length,[cs],true⟩):=bV rfl
def afd (d:Nat) (t:TypeId) (n:Nat) (x:Option (List AV)):Option (AV×bq) :=
 match x with
 | some cs=>if cs.length=n∧(cs.all fun y=>!(mC d y))=true then some (.mp d n 0 0,.new d ⟨t,n,[cs],true⟩) else none
 | none=>none
theorem OV (d:Nat) (t:TypeId) (n:Nat) (cs:List AV):afd d t n (some cs)=if cs.length=n∧(cs.all fun y=>!(mC d y))=true then some (.mp d n 0 0,.new d ⟨t,n,[cs],true⟩) else none:=rfl
theorem aaX (d:Nat) (t:TypeId) (n:Nat) (x:IV) (ρ:IV→AV) (h:Nat→Option ak):bW d (.box t n x) ρ h=afd d t n (iU (ρ x)):=bV rfl
theorem Rl (d:Nat) (cs:List AV) (ps:List (Nat×Nat×IV)) (ρ:IV→AV) (h:Nat→Option ak):bW d (.build cs ps) ρ h=res ((mK ρ cs ps).map .agg):=bV rfl
def abh (d:Nat) (t:TypeId) (st:Nat) (x:Option (List (List AV))):Option (AV×bq) :=
 match x with
 | some rs=>some (.ms d st 0 rs.length,.new d ⟨t,st,rs,false⟩)
 | none=>none
theorem OW (d:Nat) (t:TypeId) (st:Nat):abh d t st none=none:=rfl
theorem OX (d:Nat) (t:TypeId) (st:Nat) (rs:List (List AV)):abh d t st (some rs)=some (.ms d st 0 rs.length,.new d ⟨t,st,rs,false⟩):=rfl
theorem aaY (d:Nat) (t:TypeId) (st:Nat) (rows:List (List AV)) (ps:List (Nat×IV)) (ρ:IV→AV) (h:Nat→Option ak):bW d (.bsl t st rows ps) ρ h=abh d t st (pJ ρ st rows ps):=bV rfl
theorem Wj (d:Nat) (n:Option Nat) (p:IV) (ρ:IV→AV) (h:Nat→Option ak):bW d (.load n p) ρ h=res (tL n (ρ p) h):=bV rfl
def Zv (x:Option bq):Option (AV×bq):=x.map fun e=>(.any,e)
theorem Qh (e:bq):Zv (some e)=some (.any,e):=rfl
theorem Vn (c:Prop) [Decidable c] (x:Option bq):Zv (if c then x else none)=if c then Zv x else none:=by split<;>rfl
theorem Rm (d:Nat) (n:Nat) (p x:IV) (ρ:IV→AV) (h:Nat→Option ak):bW d (.store n p x) ρ h=Zv (kT n (ρ p) (ρ x) h):=bV rfl
theorem Wh (d:Nat) (o:Nat) (p:IV) (ρ:IV→AV) (h:Nat→Option ak):bW d (.fadr o p) ρ h=res (Gr o (ρ p)):=bV rfl
theorem Wi (d:Nat) (st:Nat) (x q:IV) (ρ:IV→AV) (h:Nat→Option ak):bW d (.iadr st x q) ρ h=res (wC st (ρ x) (ρ q)):=bV rfl
theorem Wf (d:Nat) (st n:Nat) (x q:IV) (ρ:IV→AV) (h:Nat→Option ak):bW d (.aadr st n x q) ρ h=res (Gp st n (ρ x) (ρ q)):=bV rfl
theorem aa8 (d:Nat) (m:Bool) (x y:IV) (ρ:IV→AV) (h:Nat→Option ak):bW d (.mnx m x y) ρ h=res (OM m (ρ x) (ρ y)):=bV rfl
theorem aaZ (d:Nat) (st:Nat) (x y:IV) (ρ:IV→AV) (h:Nat→Option ak):bW d (.cpy st x y) ρ h=B2 st (ρ x) (kQ st h (ρ y)) h:=bV rfl
theorem aa2 (d:Nat) (x:IV) (ρ:IV→AV) (h:Nat→Option ak):bW d (.cvm x) ρ h=Hx (ρ x) h:=bV rfl
theorem aba (d:Nat) (x y:IV) (ρ:IV→AV) (h:Nat→Option ak):bW d (.sib x y) ρ h=res (Rg (ρ x) (ρ y)):=bV rfl
theorem abb (d:Nat) (st:Nat) (x:IV) (lo hi mx:Option IV) (ρ:IV→AV) (h:Nat→Option ak):bW d (.slc st x lo hi mx) ρ h=res (vC st (ρ x) (lo.map ρ) (hi.map ρ) (mx.map ρ)):=bV rfl
theorem aa5 (d:Nat) (x:IV) (ρ:IV→AV) (h:Nat→Option ak):bW d (.len x) ρ h=res (Lw (ρ x)):=bV rfl
theorem Wq (d:Nat) (x:IV) (ρ:IV→AV) (h:Nat→Option ak):bW d (.slen x) ρ h=res (JD (ρ x)):=bV rfl
theorem aaV (d:Nat) (t:TypeId) (st:Nat) (x y:IV) (ρ:IV→AV) (h:Nat→Option ak):bW d (.app t st x y) ρ h=qc d t st (ρ x) (kQ st h (ρ y)) h:=bV rfl
theorem Wr (d:Nat) (x:IV) (lo hi:Option IV) (ρ:IV→AV) (h:Nat→Option ak):bW d (.sslc x lo hi) ρ h=res (BA (ρ x) (lo.map ρ) (hi.map ρ)):=bV rfl
theorem aaW (d:Nat) (o:BinOp) (x y:IV) (ρ:IV→AV) (h:Nat→Option ak):bW d (.bin o x y) ρ h=res (qd o (ρ x) (ρ y)):=bV rfl
theorem Wg (d:Nat) (o:BinOp) (x y:IV) (ρ:IV→AV) (h:Nat→Option ak):bW d (.bbin o x y) ρ h=res (Gq o (ρ x) (ρ y)):=bV rfl
theorem Wm (d:Nat) (o:BinOp) (x y:IV) (ρ:IV→AV) (h:Nat→Option ak):bW d (.pbin o x y) ρ h=res (wE o (ρ x) (ρ y)):=bV rfl
theorem Wo (d:Nat) (o:BinOp) (ls:List LK) (x y:IV) (ρ:IV→AV) (h:Nat→Option ak):bW d (.sbin o ls x y) ρ h=res (sw o ls (ρ x) (ρ y)):=bV rfl
theorem ae0 (d:Nat) (o:UnOp) (x:IV) (ρ:IV→AV) (h:Nat→Option ak):bW d (.un o x) ρ h=res (aUn o (ρ x)):=bV rfl
def afr (k:IntKind) (x:AV):Option (AV×bq) :=
 match x with
 | .int _ n=>some (.int k (k.wrap n),.no)
 | _=>none
theorem RE (k k':IntKind) (n:Int):afr k (.int k' n)=some (.int k (k.wrap n),.no):=rfl
def afs (x:Option (List (List AV))):Option (AV×bq) :=
 match x with
 | some rows=>res ((mL rows).map .str)
 | none=>none
theorem O4 (rows:List (List AV)):afs (some rows)=res ((mL rows).map .str):=rfl
def afq (d:Nat) (t:TypeId) (x:AV):Option (AV×bq) :=
 match x with
 | .str s=>if s.length<1073741824 then some (.ms d 1 0 s.length,.new d ⟨t,1,s.map fun b=>[.int .u8 b.toNat],false⟩) else none
 | _=>none
theorem RC (d:Nat) (t:TypeId) (s:List UInt8):afq d t (.str s)=if s.length<1073741824 then some (.ms d 1 0 s.length,.new d ⟨t,1,s.map fun b=>[.int .u8 b.toNat],false⟩) else none:=rfl
def afD (i:Nat) (x:AV):Option (AV×bq) :=
 match x with
 | .tup vs=>res (vs[i]?)
 | _=>none
theorem R1 (i:Nat) (vs:List AV):afD i (.tup vs)=res (vs[i]?):=rfl
def N0 (x:AV):Option (AV×bq) :=
 match x with
 | .mp id st row off=>some (.mp id st row off,.no)
 | .ip cells=>some (.ip cells,.no)
 | .fn f caps=>some (.fn f caps,.no)
 | _=>none
theorem TO (id st row off:Nat):N0 (.mp id st row off)=some (.mp id st row off,.no):=rfl
theorem TN (cells:List AV):N0 (.ip cells)=some (.ip cells,.no):=rfl
theorem TM (f:FuncId) (caps:List AV):N0 (.fn f caps)=some (.fn f caps,.no):=rfl
def aib (x:AV):Option (AV×bq) :=
 match x with
 | .str s=>some (.str s,.no)
 | _=>none
theorem RG (s:List UInt8):aib (.str s)=some (.str s,.no):=rfl
def Va (x i:AV):Option (AV×bq) :=
 match x,i with
 | .str s,.int _ n=>if 0≤n then (match s[n.toNat]? with | some b=>some (.int .u8 b.toNat,.no) | none=>none) else none
 | _,_=>none
theorem Qf (K:AV→bq→Prop) (s:List UInt8) (k:IntKind) (n:Int):dQ K (Va (.str s) (.int k n))=(0≤n∧n<s.length∧K (.int .u8 (ac s n.toNat).toNat) .no):=by
 simp only [Va]
 by_cases h:0≤n
 ·rw [ap h]
  by_cases h2:n.toNat<s.length
  ·rw [lg h2]
   rw [bp h2]
   simp only [dQ]
   exact propext ⟨fun hk=>⟨h,by omega,hk⟩,fun hk=>hk.2.2⟩
  ·rw [List.getElem?_eq_none (by omega)]
   simp only [dQ]
   exact propext ⟨fun hk=>hk.elim,fun hk=>by omega⟩
 ·rw [ah h]
  simp only [dQ]
  exact propext ⟨fun hk=>hk.elim,fun hk=>absurd hk.1 h⟩
def af3 (d:Nat) (t:TypeId) (st:Nat) (zero:List AV) (l cp:AV):Option (AV×bq) :=
 match l,cp with
 | .int .i64 n,.int .i64 m=>if 0≤n∧n≤m∧m<1073741824∧zero.length=st then some (.ms d st 0 n.toNat,.new d ⟨t,st,List.replicate n.toNat zero,false⟩) else none
 | _,_=>none
theorem TJ (d:Nat) (t:TypeId) (st:Nat) (zero:List AV) (n m:Int):af3 d t st zero (.int .i64 n) (.int .i64 m)=if 0≤n∧n≤m∧m<1073741824∧zero.length=st then some (.ms d st 0 n.toNat,.new d ⟨t,st,List.replicate n.toNat zero,false⟩) else none:=rfl
theorem aa1 (d:Nat) (k:IntKind) (x:IV) (ρ:IV→AV) (h:Nat→Option ak):bW d (.cvi k x) ρ h=afr k (ρ x):=bV rfl
theorem aa3 (d:Nat) (x:IV) (ρ:IV→AV) (h:Nat→Option ak):bW d (.cvs x) ρ h=afs (kQ 1 h (ρ x)):=bV rfl
theorem aa0 (d:Nat) (t:TypeId) (x:IV) (ρ:IV→AV) (h:Nat→Option ak):bW d (.cvb t x) ρ h=afq d t (ρ x):=bV rfl
theorem aa4 (d:Nat) (x:IV) (q:Nat) (ρ:IV→AV) (h:Nat→Option ak):bW d (.ext x q) ρ h=afD q (ρ x):=bV rfl
theorem Wl (d:Nat) (x:IV) (ρ:IV→AV) (h:Nat→Option ak):bW d (.nchk x) ρ h=N0 (ρ x):=bV rfl
theorem Wp (d:Nat) (x q:IV) (ρ:IV→AV) (h:Nat→Option ak):bW d (.sidx x q) ρ h=Va (ρ x) (ρ q):=bV rfl
theorem aa7 (d:Nat) (t:TypeId) (st:Nat) (z:List AV) (l c:IV) (ρ:IV→AV) (h:Nat→Option ak):bW d (.mks t st z l c) ρ h=af3 d t st z (ρ l) (ρ c):=bV rfl
theorem aa6 (d:Nat) (f:FuncId) (cs:List IV) (ρ:IV→AV) (h:Nat→Option ak):bW d (.mkf f cs) ρ h=if (cs.map ρ).all WB=true then some (.fn f (cs.map ρ),.no) else none:=bV rfl
theorem QI (k:IntKind) (a b:Int):qd .add (.int k a) (.int k b)=some (.int k (k.wrap (a+b))):=by cases k<;>rfl
theorem QV (k:IntKind) (a b:Int):qd .sub (.int k a) (.int k b)=some (.int k (k.wrap (a - b))):=by cases k<;>rfl
theorem QP (k:IntKind) (a b:Int):qd .mul (.int k a) (.int k b)=some (.int k (k.wrap (a * b))):=by cases k<;>rfl
theorem QK (k:IntKind) (a b:Int):qd .eql (.int k a) (.int k b)=some (.bool (a==b)):=by cases k<;>rfl
theorem QQ (k:IntKind) (a b:Int):qd .neq (.int k a) (.int k b)=some (.bool (a != b)):=by cases k<;>rfl
theorem QO (k:IntKind) (a b:Int):qd .lss (.int k a) (.int k b)=some (.bool (decide (a<b))):=by cases k<;>rfl
theorem QN (k:IntKind) (a b:Int):qd .leq (.int k a) (.int k b)=some (.bool (decide (a≤b))):=by cases k<;>rfl
theorem QM (k:IntKind) (a b:Int):qd .gtr (.int k a) (.int k b)=some (.bool (decide (a>b))):=by cases k<;>rfl
theorem QL (k:IntKind) (a b:Int):qd .geq (.int k a) (.int k b)=some (.bool (decide (a≥b))):=by cases k<;>rfl
theorem QS (k:IntKind) (a b:Int):qd .quo (.int k a) (.int k b)=if b=0 then none else some (.int k (k.wrap (a.tdiv b))):=by cases k<;>rfl
def bO (k:IntKind) (a b:Int):Int:=k.wrap ((BitVec.ofInt k.bits a &&& BitVec.ofInt k.bits b).toNat)
theorem QJ (k:IntKind) (a b:Int):qd .and (.int k a) (.int k b)=some (.int k (bO k a b)):=by cases k<;>rfl
def qE (k:IntKind) (a b:Int):Int:=k.wrap ((BitVec.ofInt k.bits a ||| BitVec.ofInt k.bits b).toNat)
theorem VY (k:IntKind) (a b:Int):qd .or (.int k a) (.int k b)=some (.int k (qE k a b)):=by cases k<;>rfl
def aj9 (k:IntKind) (a b:Int):Int:=k.wrap ((BitVec.ofInt k.bits a ^^^ BitVec.ofInt k.bits b).toNat)
def afc (k:IntKind) (a b:Int):Int:=k.wrap ((BitVec.ofInt k.bits a &&& ~~~ (BitVec.ofInt k.bits b)).toNat)
def jF (k:IntKind) (a b:Int):Int:=k.wrap (a * 2 ^ (min b.toNat k.bits))
def BB (k:IntKind) (a b:Int):Int:=a.fdiv (2 ^ (min b.toNat k.bits))
theorem QT (k k1:IntKind) (a b:Int):qd .shl (.int k a) (.int k1 b)=if b<0 then none else some (.int k (jF k a b)):=bV rfl
theorem QU (k k1:IntKind) (a b:Int):qd .shr (.int k a) (.int k1 b)=if b<0 then none else some (.int k (BB k a b)):=bV rfl
theorem OI (a b:List UInt8):qd .add (.str a) (.str b)=if a.length+b.length<4611686018427387904 then some (.str (a++b)) else none:=bV rfl
theorem OJ (a b:List UInt8):qd .eql (.str a) (.str b)=some (.bool (a==b)):=bV rfl
theorem OK (a b:List UInt8):qd .neq (.str a) (.str b)=some (.bool (!(a==b))):=bV rfl
theorem OG (a b:Bool):Gq .eql (.bool a) (.bool b)=some (.bool (a==b)):=rfl
theorem OH (a b:Bool):Gq .neq (.bool a) (.bool b)=some (.bool (!(a==b))):=rfl
theorem Wd (a:Bool):aUn .not (.bool a)=some (.bool (!a)):=rfl
theorem Wc (k:IntKind) (n:Int):aUn .neg (.int k n)=some (.int k (k.wrap (0 - n))):=rfl
theorem V9 (l:LK) (ls:List LK) (xs ys:List AV):sw .eql (l :: ls) (.agg xs) (.agg ys)=(kS (l :: ls) xs ys).map .bool:=rfl
theorem V_ (l:LK) (ls:List LK) (xs ys:List AV):sw .neq (l :: ls) (.agg xs) (.agg ys)=(kS (l :: ls) xs ys).map fun b=>.bool (!b):=rfl
theorem Rb (f:FuncId) (cs:List AV):sw .eql [] (.fn f cs) .nf=some (.bool false):=rfl
theorem Rc (f:FuncId) (cs:List AV):sw .neq [] (.fn f cs) .nf=some (.bool true):=rfl
theorem Re:sw .eql [] .nf .nf=some (.bool true):=rfl
theorem Rf:sw .neq [] .nf .nf=some (.bool false):=rfl
theorem aaU:kS [] [] []=some true:=rfl
def sqK (p:Option Bool) (q:Option Bool):Option Bool:=match p,q with
 | some p,some q=>some (p&&q)
 | _,_=>none
theorem Vg (p q:Bool):sqK (some p) (some q)=some (p&&q):=rfl
theorem aaT (l:LK) (ls:List LK) (x y:AV) (xs ys:List AV):kS (l :: ls) (x :: xs) (y :: ys)=sqK (k7 l x y) (kS ls xs ys):=rfl
theorem Th (p q:Bool):k7 .b (.bool p) (.bool q)=some (p==q):=rfl
theorem Ti (k:IntKind) (p q:Int):k7 .i (.int k p) (.int k q)=some (p==q):=by simp [k7]
theorem Tj (p q:List UInt8):k7 .s (.str p) (.str q)=some (p==q):=rfl
theorem Q6:wE .eql .np .np=some (.bool true):=rfl
theorem Q7 (id st row off:Nat):wE .eql (.mp id st row off) .np=some (.bool false):=rfl
theorem Q8 (cells:List AV):wE .eql (.ip cells) .np=some (.bool false):=rfl
theorem Q9:wE .neq .np .np=some (.bool false):=rfl
theorem Q_ (id st row off:Nat):wE .neq (.mp id st row off) .np=some (.bool true):=rfl
theorem Ra (cells:List AV):wE .neq (.ip cells) .np=some (.bool true):=rfl
theorem V4 (st:Nat) (rows:List (List AV)):Lw (.sl st rows)=some (.int .i64 rows.length):=rfl
theorem V2 (id st off len:Nat):Lw (.ms id st off len)=some (.int .i64 len):=rfl
theorem V3:Lw .nl=some (.int .i64 0):=rfl
theorem OO (s:List UInt8):JD (.str s)=some (.int .i64 s.length):=rfl
theorem Q0 (n:Option Nat) (cells:List AV) (h:Nat→Option ak):tL n (.ip cells) h=vp n cells:=rfl
def ldO (n:Option Nat) (st row off:Nat) (o:Option ak):Option AV :=
 match o with
 | some o=>if o.st=st then (match o.rows[row]? with | some r=>vp n (r.drop off) | none=>none) else none
 | none=>none
theorem Q1 (n:Option Nat) (id st row off:Nat) (h:Nat→Option ak):tL n (.mp id st row off) h=ldO n st row off (h id):=rfl
theorem XR (n:Option Nat) (st off:Nat) (t:TypeId) (r:List AV) (b:Bool):ldO n st 0 off (some ⟨t,st,[r],b⟩)=vp n (r.drop off):=by simp [ldO]
theorem XQ {α:Type} [Inhabited α] (K:AV→bq→Prop) (n:Option Nat) (st row off:Nat) (t:TypeId) (l:List α) (f:α→List AV) (b:Bool) :
  dQ K (res (ldO n st row off (some ⟨t,st,l.map f,b⟩)))=(row<l.length∧dQ K (res (vp n ((f (ac l row)).drop off)))):=by
 simp only [ldO,aF]
 by_cases h2:row<l.length
 ·rw [jy,lg h2,bp h2]
  simp [h2]
 ·rw [List.getElem?_eq_none (by simpa using h2)]
  simp [h2,res,dQ]
theorem afU (x:AV) (r:List AV):vp none (x :: r)=some x:=rfl
theorem afV (n:Nat) (r:List AV):vp (some n) r=if n≤r.length then some (.agg (r.take n)) else none:=rfl
def Ju (id n st row off:Nat) (o:Option ak) (cs:Option (List AV)):Option bq :=
 match cs with
 | some cs=>match o with
  | some o=>if o.st=st∧cs.length=n∧(o.isRec||cs.all qh)=true then (match o.rows[row]? with
   | some r=>if off+n≤r.length then some (.put id { o with rows:=o.rows.set row (i0 r off cs) }) else none
   | none=>none) else none
  | none=>none
 | none=>none
theorem OP (n id st row off:Nat) (x:AV) (h:Nat→Option ak):kT n (.mp id st row off) x h=Ju id n st row off (h id) (iU x):=by
 unfold kT Ju
 cases iU x<;>rfl
theorem Zs (id n st off:Nat) (t:TypeId) (r cs:List AV):Ju id n st 0 off (some ⟨t,st,[r],true⟩) (some cs)=if cs.length=n∧off+n≤r.length then some (.put id ⟨t,st,[i0 r off cs],true⟩) else none:=by
 simp only [Ju,true_and,eC,and_true,List.getElem?_cons_zero,List.set_cons_zero]
 by_cases h1:cs.length=n<;>by_cases h2:off+n≤r.length<;>simp [h1,h2]
theorem Zr (id n st row:Nat) (t:TypeId) (rows:List (List AV)) (cs:List AV) (hn:∀r∈rows,r.length=n):Ju id n st row 0 (some ⟨t,st,rows,false⟩) (some cs)=if cs.length=n∧cs.all qh=true∧row<rows.length then some (.put id ⟨t,st,rows.set row cs,false⟩) else none:=by
 simp only [Ju,true_and,eE]
 by_cases h3:row<rows.length
 ·rw [lg h3]
  have hl:=hn _ (List.getElem_mem h3)
  by_cases h1:cs.length=n<;>by_cases h2:cs.all qh=true<;>simp [h1,h2,h3,hl,i0]
  rw [List.drop_eq_nil_of_le (by omega),mz]
 ·rw [List.getElem?_eq_none (by omega)]
  simp [h3]
theorem QW (off:Nat) (cells:List AV):Gr off (.ip cells)=some (.ip (cells.drop off)):=rfl
theorem QX (off id st row o:Nat):Gr off (.mp id st row o)=some (.mp id st row (o+off)):=rfl
theorem QY (off:Nat) (n:Option Nat) (cells:List AV):V1 off n (.agg cells)=vp n (cells.drop off):=rfl
theorem OL {α:Type} [Inhabited α] (K:AV→bq→Prop) (st:Nat) (l:List α) (f:α→List AV) (k:IntKind) (n:Int) :
  dQ K (res (wC st (.sl st (l.map f)) (.int k n)))=(0≤n∧n<l.length∧K (.ip (f (ac l n.toNat))) .no):=by
 simp only [wC,true_and]
 by_cases h:0≤n
 ·rw [ap h]
  by_cases h2:n.toNat<l.length
  ·rw [jy,lg h2,bp h2]
   simp only [ii,res,dQ]
   exact propext ⟨fun hk=>⟨h,by omega,hk⟩,fun hk=>hk.2.2⟩
  ·rw [List.getElem?_eq_none (by simp;omega)]
   exact propext ⟨fun hk=>hk.elim,fun hk=>by omega⟩
 ·rw [ah h]
  exact propext ⟨fun hk=>hk.elim,fun hk=>absurd hk.1 h⟩
theorem QG (st n:Nat) (cells:List AV) (k:IntKind) (j:Int):Gp st n (.ip cells) (.int k j)=if 0≤j∧j<n then some (.ip (cells.drop (j.toNat * st))) else none:=rfl
theorem QH (st n id s row off:Nat) (k:IntKind) (j:Int):Gp st n (.mp id s row off) (.int k j)=if 0≤j∧j<n then some (.mp id s row (off+j.toNat * st)) else none:=rfl
def WE (id st off len:Nat) (o:Option ak):Option (AV×bq) :=
 match o with
 | some o=>if st=1∧o.st=1∧o.isRec=false∧0<len then some (.ms id st off len,.put id o) else none
 | none=>none
theorem V0 (id st off len:Nat) (h:Nat→Option ak):Hx (.ms id st off len) h=WE id st off len (h id):=by simp only [Hx,WE];cases h id<;>rfl
theorem RF (id off len:Nat) (t:TypeId) (rows:List (List AV)):WE id 1 off len (some ⟨t,1,rows,false⟩)=if 0<len then some (.ms id 1 off len,.put id ⟨t,1,rows,false⟩) else none:=by simp [WE]
theorem Rh (s:List UInt8) (n:Int):Rg (.str s) (.int .u8 n)=some (.int .i64 (MP s n.toNat.toUInt8)):=rfl
def WC (id st off len:Nat) (ys:List (List AV)) (o:Option ak):Option (AV×bq) :=
 match o with
 | some o=>if o.st=st∧o.isRec=false∧off+len≤o.rows.length∧ys.length≤len then some (.int .i64 ys.length,.put id { o with rows:=o.rows.take off++ys++o.rows.drop (off+ys.length) }) else none
 | none=>none
theorem VZ (st id off len:Nat) (ys:List (List AV)) (h:Nat→Option ak):B2 st (.ms id st off len) (some ys) h=WC id st off len ys (h id):=by simp only [B2,WC,true_and];cases h id<;>rfl
theorem O1 (id st len:Nat) (t:TypeId) (rows ys:List (List AV)) (h1:rows.length=len) (h2:ys.length=len):WC id st 0 len ys (some ⟨t,st,rows,false⟩)=some (.int .i64 len,.put id ⟨t,st,ys,false⟩):=by
 subst h1
 simp [WC,h2]
theorem Q3 (k:IntKind) (n m:Int):OM true (.int k n) (.int k m)=some (.int k (if n<m then m else n)):=by simp [OM]
theorem QZ (id st off len:Nat) (k:IntKind) (n:Int):wC st (.ms id st off len) (.int k n)=if 0≤n∧n<len then some (.mp id st (off+n.toNat) 0) else none:=by simp [wC]
theorem Ri (id st off len:Nat) (k:IntKind) (n:Int):vC st (.ms id st off len) none (some (.int k n)) none=if 0≤n∧n≤len then some (.ms id st off n.toNat) else none:=by
 simp only [vC,ci]
 by_cases h:0≤n<;>by_cases h2:n≤len<;>simp [h,h2]<;>omega
theorem Rj {α:Type} (st:Nat) (f:α→List AV) (l:List α) (k:IntKind) (n:Int):vC st (.sl st (l.map f)) (some (.int k n)) none none=if 0≤n∧n≤l.length then some (.sl st ((l.drop n.toNat).map f)) else none:=by
 simp only [vC,ci]
 have:(l.drop n.toNat).map f=List.take (l.length - n.toNat) (List.drop n.toNat (l.map f)):=by rw [List.map_drop,fL (by simp)]
 by_cases h:0≤n<;>by_cases h2:n≤l.length<;>simp [h,h2,this]<;>omega
theorem Wa (s:List UInt8) (k:IntKind) (n:Int):BA (.str s) none (some (.int k n))=if 0≤n∧n≤s.length then some (.str (s.take n.toNat)) else none:=by
 simp only [BA,ci]
 by_cases h:0≤n<;>by_cases h2:n≤s.length<;>simp [h,h2]<;>omega
theorem Wb (s:List UInt8) (k:IntKind) (n:Int):BA (.str s) (some (.int k n)) none=if 0≤n∧n≤s.length then some (.str (s.drop n.toNat)) else none:=by
 simp only [BA,ci]
 have:s.drop n.toNat=List.take (s.length - n.toNat) (List.drop n.toNat s):=by rw [fL (by simp)]
 by_cases h:0≤n<;>by_cases h2:n≤s.length<;>simp [h,h2,← this]<;>omega
theorem VX (d:Nat) (t:TypeId) (st:Nat) (ys:List (List AV)) (h:Nat→Option ak):qc d t st .nl (some ys) h=if ys.length<137438953472 then some (.ms d st 0 ys.length,.new d ⟨t,st,ys,false⟩) else none:=rfl
def zE (id:Nat) (t:TypeId) (st off len:Nat) (ys:List (List AV)) (o:Option ak):Option (AV×bq) :=
 if ys.length<137438953472 then (match o with
   | some o=>if o.st=st∧o.t=t∧o.isRec=false∧off=0∧len≤o.rows.length∧len<137438953472∧(id<1000∨2000≤id)∧o.k.flat=true then
     some (.ms id st 0 (len+ys.length),.reb id ⟨t,st,o.rows.take len++ys,false⟩) else none
   | none=>none) else none
theorem VW (d id:Nat) (t:TypeId) (st off len:Nat) (ys:List (List AV)) (h:Nat→Option ak):qc d t st (.ms id st off len) (some ys) h=zE id t st off len ys (h id):=by
 simp only [qc,zE,true_and]
 cases h id<;>rfl
theorem D2:Kd.flat instKd=true:=rfl
theorem OS (id:Nat) (t:TypeId) (st len:Nat) (rows ys:List (List AV)) (hl:rows.length=len):zE id t st 0 len ys (some ⟨t,st,rows,false⟩) =
  if ys.length<137438953472∧len<137438953472∧(id<1000∨2000≤id) then some (.ms id st 0 (len+ys.length),.reb id ⟨t,st,rows++ys,false⟩) else none:=by
 subst hl
 simp only [zE,true_and,bt,kC,D2,and_true]
 by_cases h1:ys.length<137438953472<;>simp [h1]
theorem UT (st:Nat) (h:Nat→Option ak):kQ st h .nl=some []:=rfl
theorem UU (st:Nat) (h:Nat→Option ak) (rows:List (List AV)):kQ st h (.sl st rows)=some rows:=by simp [kQ]
def P_ (st off len:Nat) (o:Option ak):Option (List (List AV)) :=
 match o with
 | some o=>if o.st=st∧o.isRec=false∧off+len≤o.rows.length then some ((o.rows.drop off).take len) else none
 | none=>none
theorem US (st:Nat) (h:Nat→Option ak) (id off len:Nat):kQ st h (.ms id st off len)=P_ st off len (h id):=by simp only [kQ,P_,true_and];cases h id<;>rfl
theorem Hl (st len:Nat) (t:TypeId) (rows:List (List AV)) (hl:rows.length=len):P_ st 0 len (some ⟨t,st,rows,false⟩)=some rows:=by subst hl;simp [P_]
theorem Vi (s:List UInt8):Zq (.str s)=some (s.map fun b=>[.int .u8 b.toNat]):=rfl
theorem O0 {f:FuncId} {args args':List AV} {d:Option Nat} {s:St} {K:St→Prop} {r:AV} (hp:ao P f args' r) (hid:∀x∈args',aH x=[]) (hc:aS (VH false (ae s.heap)) args args') (hk:K (s.put d r)):cT P f args d s K :=
 .inl (.inl ⟨args',r,false,hp,hid,hc,(fun h=>by cases h),hk⟩)
theorem aS.refl_coe (b:Bool) (h:Nat→Option ak):∀l:List AV,aS (VH b h) l l
 | []=>trivial
 | _ :: r=>⟨.inl rfl,aS.refl_coe b h r⟩
theorem fY {f:FuncId} {args:List AV} {d:Option Nat} {s:St} {K:St→Prop} {r:AV} (hp:ao P f args r) (hid:∀x∈args,aH x=[]) (hk:K (s.put d r)):cT P f args d s K :=
 O0 hp hid (aS.refl_coe _ _ args) hk
theorem JJ {f:FuncId} {args:List AV} {d:Option Nat} {s:St} {K:St→Prop} {r:AV} (fs:List Nat) {args':List AV} (ha:args.map (wH fs s)=args') (hp:ao P f args' r) (hid:∀x∈args',aH x=[]) (hk:K ((frzs fs s).put d r)):cT P f args d s K:=by
 subst ha
 exact .inr (.inl ⟨fs,.inl ⟨_,r,false,hp,hid,aS.refl_coe _ _ _,(fun h=>by cases h),hk⟩⟩)
theorem fG {f:FuncId} {args:List AV} {i:Nat} {bf:List Nat} {op:pn} {d:Option Nat} {hist:List HI} {s:St} {K:List HI→St→Prop} {r:AV} (hp:ao P f args r) (hid:∀x∈args,aH x=[]) (hr:aH r=[])
  (hk:eP op s .no=true∧jq bf ⟨i,cI op s.env,[],[],false,false⟩ hist=true∧K (⟨i,cI op s.env,[],[],false,false⟩ :: hist) (s.put d r)):H_ P f args i bf op d hist s K :=
 .inl ⟨args,r,false,hp,hid,aS.refl_coe _ _ args,(fun h=>by cases h),hr,hk⟩
theorem O5 {f:FuncId} {args:List AV} {i:Nat} {bf:List Nat} {op:pn} {d:Option Nat} {hist:List HI} {s:St} {K:List HI→St→Prop} {r:AV} {k:Nat} {ob ob':ak} {Sb:Nat→Prop} (hp:aX P f args [(k,ob)] Sb (fun r' σ'=>r'=r∧σ'=[(k,ob')])) (hs:Sb k) (hk:ae s.heap k=some ob) (hr:aH r=[]) (ho:dA ob'=[])
  (hop:k∈cI op s.env) (hK:eP op s (.put k ob')=true∧jq bf ⟨i,cI op s.env,[],[k],false,true⟩ hist=true∧K (⟨i,cI op s.env,[],[k],false,true⟩ :: hist) ((s.eff (.put k ob')).put d r)):H_ P f args i bf op d hist s K :=
 .inr ⟨k,ob,ob',Sb,r,hp,hs,hk,hr,ho,hop,hK⟩
theorem NX:∀{l:List (Nat×AV)} {k:Nat},get l k = .any∨(k,get l k)∈l
 | [],k=>.inl rfl
 | (j,x) :: r,k=>by
  simp only [get]
  split
  ·rename_i h;subst h;exact .inr (by simp)
  ·rcases NX (l:=r) (k:=k) with h | h
   ·exact .inl h
   ·exact .inr (by simp [h])
theorem fU:∀{l:List (Nat×ak)} {k:Nat} {o:ak},ae l k=some o→(k,o)∈l
 | [],k,o,h=>by simp [ae] at h
 | (j,x) :: r,k,o,h=>by
  simp only [ae] at h
  split at h
  ·rename_i hj;cases h;subst hj;simp
  ·simp [fU h]
theorem cK.le {c:vf} {a:Act} {w:World} {s s':St} (hs:cK c s a w) (h1:∀p∈s'.env,get s.env p.1=p.2) (h2:∀p∈s'.heap,ae s.heap p.1=some p.2):cK c s' a w:=by
 obtain ⟨bl,hs⟩:=hs
 refine ⟨bl,hs.weaken (fun k=>?_) (fun i o hi=>h2 (i,o) (fU hi))⟩
 rcases NX (l:=s'.env) (k:=k) with h | h
 ·exact .inl h
 ·exact .inr (h1 _ h).symm
theorem Wk.refl (s:St):Wk s s:=fun _ _ _ h=>h
theorem Wk.trans {s s' s'':St} (h:Wk s s') (h':Wk s' s''):Wk s s'':=fun c a w hs=>h' c a w (h c a w hs)
theorem Wk.le {s s':St} (h1:∀p∈s'.env,get s.env p.1=p.2) (h2:∀p∈s'.heap,ae s.heap p.1=some p.2):Wk s s':=fun _ _ _ hs=>hs.le h1 h2
theorem Wk.frz (s:St) (i:Nat):Wk s (s.frz i):=fun _ _ _ hs=>hs.frz i
def klp {α:Type} (S:α→St) (p:α→Prop) (m:α→Nat) (q:α) (K:IX→St→Prop) (e:IX) (s:St):Prop :=
 match e with
 | .nrm=>∃q',p q'∧m q'<m q∧Wk s (S q')
 | e=>K e s
theorem aG {α:Type} {S:α→St} {p:α→Prop} {m:α→Nat} {q:α} {K:IX→St→Prop} {s:St} (q':α) (h1:p q') (h2:m q'<m q) (h3:Wk s (S q')):klp S p m q K .nrm s:=⟨q',h1,h2,h3⟩
theorem afQ {α:Type} (S:α→St) (p:α→Prop) (m:α→Nat) (q:α) (K:IX→St→Prop) (s:St):klp S p m q K .ret s=K .ret s:=bV rfl
theorem afR {α:Type} (S:α→St) (p:α→Prop) (m:α→Nat) (q:α) (K:IX→St→Prop) (j:Nat) (s:St):klp S p m q K (.ext j) s=K (.ext j) s:=bV rfl
theorem aw {α:Type} (S:α→St) (p:α→Prop) (m:α→Nat) {x:bN} {s:St} {K:IX→St→Prop} (q:α) (h1:p q) (h2:Wk s (S q))
  (hstep:∀q,p q→kD P x (S q) (klp S p m q K)):kD P (.loop x) s K:=by
 refine ⟨fun n s=>∃q,p q∧m q=n∧s=S q,⟨m q,S q,⟨q,h1,rfl,rfl⟩,h2⟩,?_⟩
 rintro n s ⟨q,h3,rfl,rfl⟩
 refine Em _ _ _ _ (fun e s' hh=>?_) (hstep q h3)
 cases e with
 | nrm=>obtain ⟨q',h4,h5,h6⟩:=hh;exact ⟨m q',S q',h5,⟨q',h4,rfl,rfl⟩,h6⟩
 | _=>exact hh
def kmt {α:Type} (S:α→St) (p:α→Prop) (K:IX→St→Prop) (e:IX) (s:St):Prop :=
 match e with
 | .nrm=>∃q,p q∧Wk s (S q)
 | e=>K e s
theorem aJ {l:List oG} {r:AV} {s:St} (fs:List Nat) (h:sS l (frzs fs s)=some r) (h2:aH r=[]):Bz l r .ret s:=⟨(fun _ h=>by cases h),s,Wk.refl s,fs,h,h2⟩
theorem aj {l:List oG} {r:AV} {s:St} (h:sS l (frzs [] s)=some r:=by simp only [go_sem]) (h2:aH r=[]:=by first | rfl | simp [go_sem,bX]):Bz l r .ret s:=aJ [] h h2
theorem aB {l:List oG} {r:AV} {s:St} (h:sS l (frzs [] s)=some r:=by rfl) (h2:aH r=[]:=by rfl):Bz l r .ret s:=aJ [] h h2
theorem ax {f:FuncId} {args:List AV} {d:Option Nat} {s:St} {K:St→Prop} {r:AV} (hp:ao P f args r) (hk:K (s.put d r)) (hid:∀x∈args,aH x=[]:=by simp [go_sem]):cT P f args d s K:=fY hp hid hk
theorem aa {f:FuncId} {args:List AV} {d:Option Nat} {s:St} {K:St→Prop} {r:AV} {Q:Prop} (hp:ao P f args r) (hk:Q) (hq:K (s.put d r)=Q:=by conv=>lhs;simp only [go_sem]) (hid:∀x∈args,aH x=[]:=by simp [go_sem]):cT P f args d s K:=fY hp hid (hq.mpr hk)
end
attribute [go_sem] Xy SB SY Px L1 SV Po PA L3 ST Pm SU Pn SQ Xx Xm XB Xp XC SD Xs Sz S1 S2 Pr Xj Su SR SX SZ ab_ Xo Sw Xq Sx Xr Sy SW Pp Xt S0 Pq XA SC Xk Xl Sv Xi Xn Xv
attribute [go_sem] aa9 Wn aa_ aaX Rl aaY Wj Rm Wh Wi Wf aa8 aaZ aa2 aba abb aa5 Wq aaV Wr aaW Wg Wm Wo ae0 aa1 aa3 aa0 aa4 Wl Wp aa7 aa6 QI QV QP QK QQ QO QN QM QL QS QJ VY QT QU OI OJ OK
attribute [go_sem] acl acm acn acb acd ace ack acj XI afT acg MS MU MT OW Qg MR agQ adz Y8 Vu Sr afQ afR
theorem aeb (a b:Prop):VS (.bool false) a b=b:=aay a b
attribute [go_sem ↓] aaz aay
attribute [go_sem high] aec aeb abZ abY ab0
attribute [go_sem] S9 XE S8 XF PC S6 XD S7 S3 PB Ie Id Ps L5 FU FT SS Py Pl R2
attribute [go_sem] YP YO OV OX Qh Vn RE O4 RC R1 TO TN TM RG Qf TJ OG OH Wd Wc V9 V_ Rb Rc Re Rf aaU Vg aaT Th Ti Tj Q6 Q7 Q8 Q9 Q_ Ra V4 V2 V3 OO Q0 Q1 XR XQ afU afV OP Zs QW QX QY OL QZ QG QH Q3 Rh VZ V0 RF Ri Rj Wa Wb VX VW UT UU US Vi
theorem afH (n:Nat):get [] n = .any:=bV rfl
theorem afG (k n:Nat) (x:AV) (r:List (Nat×AV)):get ((k,x) :: r) n=if k=n then x else get r n:=bV rfl
theorem ab5 (n:Nat):ae [] n=none:=bV rfl
theorem ab4 (k n:Nat) (x:ak) (r:List (Nat×ak)):ae ((k,x) :: r) n=if k=n then some x else ae r n:=bV rfl
theorem afy (n:Nat):del [] n=[]:=bV rfl
theorem afx (k n:Nat) (x:AV) (r:List (Nat×AV)):del ((k,x) :: r) n=if k=n then del r n else (k,x) :: del r n:=bV rfl
theorem ab3 (n:Nat):rM [] n=[]:=bV rfl
theorem ab2 (k n:Nat) (x:ak) (r:List (Nat×ak)):rM ((k,x) :: r) n=if k=n then rM r n else (k,x) :: rM r n:=bV rfl
theorem adi (i:Nat):o6 i []=[]:=bV rfl
theorem adh (i k:Nat) (x:AV) (r:List (Nat×AV)):o6 i ((k,x) :: r)=(k,jb i x) :: o6 i r:=bV rfl
theorem adk (i:Nat):o7 i []=[]:=bV rfl
theorem adj (i k:Nat) (x:ak) (r:List (Nat×ak)):o7 i ((k,x) :: r)=(k,ey i x) :: o7 i r:=bV rfl
theorem agE (e:List (Nat×AV)) (h:List (Nat×ak)) (d:Nat) (x:AV):St.put ⟨e,h⟩ (some d) x =⟨(d,x) :: e,h⟩:=bV rfl
theorem agD (s:St) (x:AV):s.put none x=s:=bV rfl
theorem ach (e:List (Nat×AV)) (h:List (Nat×ak)) (i:Nat):St.kill ⟨e,h⟩ i =⟨o6 i e,o7 i (rM h i)⟩:=bV rfl
theorem abt (s:St):s.eff .no=s:=bV rfl
theorem WL (e:List (Nat×AV)) (h:List (Nat×ak)) (i:Nat) (o:ak):St.eff ⟨e,h⟩ (.put i o) =⟨e,(i,o) :: rM h i⟩:=bV rfl
theorem WK (e:List (Nat×AV)) (h:List (Nat×ak)) (i:Nat) (o:ak):St.eff ⟨e,h⟩ (.new i o) =⟨e,(i,o) :: rM h i⟩:=bV rfl
theorem WN (e:List (Nat×AV)) (h:List (Nat×ak)) (i:Nat) (o:ak):St.eff ⟨e,h⟩ (.reb i o) =⟨o6 i e,(i,o) :: o7 i (rM h i)⟩:=bV rfl
theorem XK (s:St):kills [] s=s:=bV rfl
theorem XJ (i:Nat) (r:List Nat) (s:St):kills (i :: r) s=kills r (s.kill i):=bV rfl
theorem abs (e:List (Nat×AV)):dels [] e=e:=bV rfl
theorem abr (d:Nat) (r:List Nat) (e:List (Nat×AV)):dels (d :: r) e=dels r (del e d):=bV rfl
theorem ahu (g:Nat→AV) (k:Nat):val g (.s k)=g k:=bV rfl
theorem aht (g:Nat→AV) (x:AV):val g (.c x)=x:=bV rfl
theorem UM (k:Nat) (b:Bool) (s:St):refine (.s k) b s=s.put (some k) (.bool b):=bV rfl
theorem UL (x:AV) (b:Bool) (s:St):refine (.c x) b s=s:=bV rfl
attribute [go_sem] afH afG ab5 ab4 afy afx ab3 ab2 adi adh adk adj agE agD ach abt WL WK WN XK XJ abs abr ahu aht UM UL
attribute [go_sem] mK pJ iU qh i0 WB mL
attribute [go_sem] jb ey Cm mV mG mC mP aH oT kF mO dA cI au ba lk eP jq BP Ip BJ bq.tch bq.isReb bq.isPut bq.ids
attribute [go_sem] sS If Ka G_ frzs St.frz wH frz1 R_ Pj yc HZ zR sQ jN kU BF JX GP
attribute [go_sem] ej List.map_nil jR fh mz List.all_cons List.all_nil List.any_cons List.any_nil List.contains_cons List.contains_nil pk List.flatMap_nil List.drop_succ_cons List.drop_zero List.take_succ_cons oa eA b_ di
attribute [go_sem] List.getElem?_cons_zero List.getElem?_cons_succ List.set_cons_zero List.set_cons_succ
attribute [go_sem] ii Option.map_none Option.getD_some Option.getD_none Option.isSome_some
attribute [go_sem] dh cD Bool.and_true bU Bool.and_false rh Bool.or_true eC Bool.or_false eE
attribute [go_sem] true_and and_true true_implies implies_true false_implies aF bc not_true_eq_false not_false_eq_true and_self true_or or_true false_or or_false
section
variable {P:Program} [bJ P]
def ajk (d:Nat) (x:AV):Option (AV×bq) :=
 match x with
 | .str s=>some (.mm d false,.new d (@ak.mk 0 0 [] false (.it s 0)))
 | _=>none
def mmO (k:Bool) (x:AV) (h:Nat→Option ak) (f:Nat→ak→Option (AV×bq)):Option (AV×bq) :=
 match x with
 | .mm id k'=>if k=k' then (h id).bind (f id) else none
 | _=>none
def ahU (o:ak):Option (AV×bq):=(B3 o).map fun es=>(.int .i64 es.length,.no)
def aiG (x n y:AV) (h:Nat→Option ak):Option (AV×bq) :=
 match n with
 | .int .i64 n=>mmO true x h fun id=>ON id n y
 | _=>none
theorem Q4 (d:Nat) (ok:Bool) (kd:KK) (z x y:AV) (h:Nat→Option ak):nP d (.mlk ok kd z) [x,y] h=mmO true x h fun _=>Hy ok kd z y:=by
 cases x<;>try rfl
 rename_i id k
 cases k<;>rfl
theorem Q5 (d:Nat) (kd:KK) (x y q:AV) (h:Nat→Option ak):nP d (.mup kd) [x,y,q] h=mmO true x h fun id=>FO id kd y q:=by
 cases x<;>try rfl
 rename_i id k
 cases k<;>rfl
theorem Xu (d:Nat) (g:Option (Nat×Bool)) (s:St) (K:St→Prop):nS P ⟨some d,.mop .mkm [],g⟩ s K=(d<1000∧dQ (Qt K (s.kill d) (some d)) (some (.mm d true,.new d (@ak.mk 0 0 [] false (.mp []))))):=rfl
theorem SA (al:List (Nat×Nat)) (i d:Nat) (g:Option (Nat×Bool)) (bf:List Nat) (hist:List HI) (s:St) (K:List HI→St→Prop):jr P al i ⟨⟨some d,.mop .mkm [],g⟩,bf⟩ hist s K=dQ (acf al i bf (.mop .mkm []) hist K s (some d)) (some (.mm d true,.new d (@ak.mk 0 0 [] false (.mp [])))):=rfl
theorem Xw (d:Option Nat) (ok:Bool) (kd:KK) (z:AV) (x y:IV) (g:Option (Nat×Bool)) (s:St) (K:St→Prop):nS P ⟨d,.mop (.mlk ok kd z) [x,y],g⟩ s K=dQ (Qt K s d) (mmO true (val (get s.env) x) (ae s.heap) fun _=>Hy ok kd z (val (get s.env) y)):=by
 rw [← Q4 (d.getD 0) ok kd z (val (get s.env) x) (val (get s.env) y) (ae s.heap)];rfl
theorem Xz (d:Option Nat) (kd:KK) (x y q:IV) (g:Option (Nat×Bool)) (s:St) (K:St→Prop):nS P ⟨d,.mop (.mup kd) [x,y,q],g⟩ s K=dQ (Qt K s d) (mmO true (val (get s.env) x) (ae s.heap) fun id=>FO id kd (val (get s.env) y) (val (get s.env) q)):=by
 rw [← Q5 (d.getD 0) kd (val (get s.env) x) (val (get s.env) y) (val (get s.env) q) (ae s.heap)];rfl
theorem UQ (d:Nat) (s:List UInt8):ajk d (.str s)=some (.mm d false,.new d (@ak.mk 0 0 [] false (.it s 0))):=rfl
theorem af5 (id:Nat) (h:Nat→Option ak) (f:Nat→ak→Option (AV×bq)):mmO true (.mm id true) h f=(h id).bind (f id):=rfl
theorem af4 (id:Nat) (h:Nat→Option ak) (f:Nat→ak→Option (AV×bq)):mmO false (.mm id false) h f=(h id).bind (f id):=rfl
theorem acA (x y:AV) (n:Int) (h:Nat→Option ak):aiG x (.int .i64 n) y h=mmO true x h fun id=>ON id n y:=rfl
theorem MN {α β:Type} (x:α) (f:α→Option β):(some x).bind f=f x:=rfl
theorem V6 (t st:Nat) (rows:List (List AV)) (r:Bool) (es:List (AV×AV)):ahU (@ak.mk t st rows r (.mp es))=some (.int .i64 es.length,.no):=rfl
def lkS (K:AV→bq→Prop) (ok:Bool) (z:AV) (es:List (AV×AV)) (q:Option (Option Nat)):Prop :=
 match q with
 | some (some i)=>match es[i]? with
  | some e=>K (if ok then .tup [e.2,.bool true] else e.2) .no
  | none=>False
 | some none=>K (if ok then .tup [z,.bool false] else z) .no
 | none=>False
theorem V5 (K:AV→bq→Prop) (ok:Bool) (kd:KK) (z y:AV) (t st:Nat) (rows:List (List AV)) (r:Bool) (es:List (AV×AV)):dQ K (Hy ok kd z y (@ak.mk t st rows r (.mp es)))=lkS K ok z es (jI kd y es):=by
 simp only [Hy,B3,lkS]
 cases jI kd y es with
 | none=>rfl
 | some q=>cases q with
  | none=>rfl
  | some i=>cases h:es[i]? <;> simp [h,dQ]
theorem V7 (K:AV→bq→Prop) (id:Nat) (kd:KK) (y q:AV) (t st:Nat) (rows:List (List AV)) (r:Bool) (es:List (AV×AV)):dQ K (FO id kd y q (@ak.mk t st rows r (.mp es))) =
  (qJ y=true∧qJ q=true∧∃es',KT kd y q es=some es'∧K .any (.put id (@ak.mk t st rows r (.mp es')))):=by
 simp only [FO,B3]
 cases qJ y<;>cases qJ q<;>cases KT kd y q es<;>simp [dQ]
def adX (b:Bool) (x:AV) (K:AV→bq→Prop):Prop :=
 match x with
 | .sl _ []=>K (.bool b) .no∧K (.bool (!b)) .no
 | x=>match Rk b x with
  | some v=>K v .no
  | none=>False
theorem Zo (b:Bool) (K:AV→bq→Prop):adX b .nl K=K (.bool (!b)) .no:=rfl
theorem adY (b:Bool) (st:Nat) (K:AV→bq→Prop):adX b (.sl st []) K=(K (.bool b) .no∧K (.bool (!b)) .no):=rfl
theorem adZ (b:Bool) (st:Nat) (r:List AV) (rows:List (List AV)) (K:AV→bq→Prop):adX b (.sl st (r :: rows)) K=K (.bool b) .no:=rfl
end
theorem ak.k_e (t:TypeId) (st:Nat) (rows:List (List AV)) (r:Bool) (k:Kd):(@ak.mk t st rows r k).k=k:=rfl
attribute [go_sem] ak.k_e
attribute [go_sem] Zo adY adZ
attribute [go_sem] Xu SA Xw Xz UQ af5 af4 acA MN V6 V5 V7
def r5 (ρ:Nat→Nat):AV→AV
 | .ms id st off len=>.ms (ρ id) st off len
 | .mp id st row off=>.mp (ρ id) st row off
 | .mm id k=>.mm (ρ id) k
 | x=>x
def qS (ρ:Nat→Nat):AV→AV
 | .fn f caps=>.fn f (caps.map (r5 ρ))
 | x=>r5 ρ x
def xF (ρ:Nat→Nat):AV→AV
 | .agg cells=>.agg (cells.map (qS ρ))
 | x=>qS ρ x
def n9 (ρ:Nat→Nat):AV→AV
 | .tup vs=>.tup (vs.map (xF ρ))
 | x=>xF ρ x
def iY (ρ:Nat→Nat) (o:ak):ak:=if o.isRec then { o with rows:=o.rows.map (fun r=>r.map (qS ρ)) } else o
def je (ρ:Nat→Nat):List (Nat×ak)→List (Nat×ak)
 | []=>[]
 | (i,o) :: r=>(ρ i,iY ρ o) :: je ρ r
section
variable {P:Program} [bJ P] {bl bl':Nat→Option Nat} {M M':Nat→Prop} {w:World} {ρ τ:Nat→Nat}
theorem IRel.mono {v:Value} {x:AV} (h:IRel M w v x) (hM:∀b,M' b→M b):IRel M' w v x:=h.tr fun b hb _=>⟨fun h'=>hb (hM b h'),rfl⟩
theorem KZ {v:Value} {x:AV} (h:ee bl M w v x) (hb:∀i,bl' (ρ i)=bl i) (hM:∀b,M' b→M b):ee bl' M' w v (r5 ρ x):=by
 cases x with
 | ms id st off len =>
  simp only [r5,ee] at h ⊢
  rw [hb]
  exact h
 | mp id st row off =>
  simp only [r5,ee] at h ⊢
  rw [hb]
  exact h
 | mm id k =>
  simp only [r5,ee] at h ⊢
  rw [hb]
  exact h
 | _=>exact IRel.mono h hM
theorem E6 {v:Value} {x:AV} (h:cg bl M w v x) (hb:∀i,bl' (ρ i)=bl i) (hM:∀b,M' b→M b):cg bl' M' w v (qS ρ x):=by
 cases x with
 | fn f caps =>
  obtain ⟨cs,h1,h2⟩:=h
  exact ⟨cs,h1,h2.mapRight fun _ _ hr=>KZ hr hb hM⟩
 | _=>simp only [cg] at h;exact KZ (ρ:=ρ) h hb hM
theorem KY {v:Value} {x:AV} (h:eR bl M w v x) (hb:∀i,bl' (ρ i)=bl i) (hM:∀b,M' b→M b):eR bl' M' w v (xF ρ x):=by
 cases x with
 | agg cells =>
  obtain ⟨cs,h1,h2⟩:=h
  exact ⟨cs,h1,h2.mapRight fun _ _ hr=>E6 hr hb hM⟩
 | _=>simp only [eR] at h;exact E6 (ρ:=ρ) h hb hM
theorem E_ {v:Value} {x:AV} (h:bg bl M w v x) (hb:∀i,bl' (ρ i)=bl i) (hM:∀b,M' b→M b):bg bl' M' w v (n9 ρ x):=by
 cases x with
 | any=>trivial
 | tup vs =>
  obtain ⟨cs,h1,h2⟩:=h
  exact ⟨cs,h1,h2.mapRight fun _ _ hr=>KY hr hb hM⟩
 | _=>simp only [bg] at h;exact KY (ρ:=ρ) h hb hM
theorem ady (o:ak):(iY ρ o).t=o.t:=by unfold iY;split<;>rfl
theorem I1 (o:ak):(iY ρ o).st=o.st:=by unfold iY;split<;>rfl
theorem E9 (o:ak):(iY ρ o).isRec=o.isRec:=by unfold iY;split<;>rfl
theorem kZ (h1:∀i,τ (ρ i)=i) (h2:∀i,ρ (τ i)=i):∀(σ:List (Nat×ak)) (i:Nat),ae (je ρ σ) i=(ae σ (τ i)).map (iY ρ)
 | [],i=>rfl
 | (k,o) :: r,i=>by
  simp only [je,ae,kZ h1 h2 r i]
  by_cases h:ρ k=i
  ·rw [ap h,ap (by rw [← h,h1])];rfl
  ·rw [ah h,ah (fun hk=>h (by rw [hk,h2]))]
theorem UP {MF:Nat→Prop} {o:ak} {b:Nat} (h:qa bl M MF w o b) (hb:∀i,bl' (ρ i)=bl i) (hM:∀b,M' b→M b):qa bl' M' MF w (iY ρ o) b:=by
 rcases h with ⟨gk,c1,fr,h2,h3,h4,h5,h6,h7⟩ | hsp
 rotate_left
 ·have:iY ρ o=o:=by simp [iY,hsp.isRec]
  rw [this]
  exact .inr hsp
 refine .inl ⟨by unfold iY;split<;>exact gk,c1,fr,by rw [ady];exact h2,h3,h4,fun k r hr=>?_,?_,fun k q r x hr hx=>?_⟩
 ·rw [I1]
  unfold iY at hr
  split at hr
  ·simp only [jy,dR] at hr
   obtain ⟨r0,h8,rfl⟩:=hr
   simpa using h5 k r0 h8
  ·exact h5 k r hr
 ·rw [I1]
  unfold iY
  split<;>simpa using h6
 ·rw [I1,E9]
  unfold iY at hr
  split at hr
  ·rename_i hrc
   simp only [jy,dR] at hr
   obtain ⟨r0,h8,rfl⟩:=hr
   simp only [jy,dR] at hx
   obtain ⟨x0,h9,rfl⟩:=hx
   obtain ⟨u,hu1,hu2⟩:=h7 k q r0 x0 h8 h9
   rw [hrc] at hu2 ⊢
   exact ⟨u,hu1,E6 hu2 hb hM⟩
  ·rename_i hrc
   obtain ⟨u,hu1,hu2⟩:=h7 k q r x hr hx
   have hrc':o.isRec=false:=by simpa using hrc
   rw [hrc'] at hu2 ⊢
   exact ⟨u,hu1,IRel.mono hu2 hM⟩
theorem E8 {MF:Nat→Prop} {σ:List (Nat×ak)} (h1:∀i,τ (ρ i)=i) (h2:∀i,ρ (τ i)=i) (h:Lr bl M MF w (ae σ)) (hb:∀i,bl' (ρ i)=bl i) (hM:∀b,M' b→M b):Lr bl' M' MF w (ae (je ρ σ)):=by
 have hs:∀{i o},ae (je ρ σ) i=some o→∃o0,ae σ (τ i)=some o0∧o=iY ρ o0:=fun {i o} hi=>by
  rw [kZ h1 h2] at hi
  simp only [dR] at hi
  obtain ⟨o0,h3,h4⟩:=hi
  exact ⟨o0,h3,h4.symm⟩
 have hbt:∀i,bl' i=bl (τ i):=fun i=>by rw [← hb,h2]
 refine ⟨fun i o hi=>?_,fun i i' o o' b hi hi' q q'=>?_⟩
 ·obtain ⟨o0,h3,rfl⟩:=hs hi
  rcases h.1 _ o0 h3 with hn | ⟨b,h4,h5⟩
  ·refine .inl ⟨?_,by rw [E9];exact hn.2.1,by rw [hbt];exact hn.2.2⟩
   unfold iY
   rw [hn.2.1]
   exact hn.1
  ·exact .inr ⟨b,by rw [hbt];exact h4,UP h5 hb hM⟩
 ·obtain ⟨o0,h3,_⟩:=hs hi
  obtain ⟨o1,h4,_⟩:=hs hi'
  have:=h.2 _ _ _ _ b h3 h4 (by rw [← hbt];exact q) (by rw [← hbt];exact q')
  rw [← h2 i,← h2 i',this]
theorem E7 {MF:Nat→Prop} {σ:List (Nat×ak)} (h1:∀i,τ (ρ i)=i) (h2:∀i,ρ (τ i)=i) (hb:∀i,bl' (ρ i)=bl i) (b:Nat) (h:bH bl' MF (ae (je ρ σ)) b):bH bl MF (ae σ) b:=by
 rcases h with h | ⟨i,o,h3,h4⟩
 ·exact .inl h
 ·rw [kZ h1 h2] at h3
  simp only [dR] at h3
  obtain ⟨o0,h5,_⟩:=h3
  exact .inr ⟨_,o0,h5,by rw [← hb,h2];exact h4⟩
theorem UO {σ:List (Nat×ak)} (h1:∀i,τ (ρ i)=i) (h2:∀i,ρ (τ i)=i) (hb:∀i,bl' (ρ i)=bl i) (b:Nat) (h:rz bl' (je ρ σ) b):rz bl σ b:=by
 obtain ⟨i,o,h3,h4⟩:=h
 rw [kZ h1 h2] at h3
 simp only [dR] at h3
 obtain ⟨o0,h5,_⟩:=h3
 exact ⟨_,o0,h5,by rw [← hb,h2];exact h4⟩
theorem Ef (x:AV):mO (r5 ρ x)=(mO x).map ρ:=by cases x<;>rfl
theorem fv {f g:AV→List Nat} {r:AV→AV} (h:∀x,f (r x)=(g x).map ρ):∀l:List AV,(l.map r).flatMap f=(l.flatMap g).map ρ
 | []=>rfl
 | x :: l=>by simp only [ej,pk,fv h l,h,List.map_append]
theorem Ee (x:AV):kF (qS ρ x)=(kF x).map ρ:=by
 cases x with
 | fn f caps=>exact fv Ef caps
 | _=>rfl
theorem SE (x:AV):oT (xF ρ x)=(oT x).map ρ:=by
 cases x with
 | agg cells=>exact fv Ee cells
 | fn f caps=>exact fv Ef caps
 | _=>rfl
theorem SG (x:AV):aH (n9 ρ x)=(aH x).map ρ:=by
 cases x with
 | tup vs=>exact fv SE vs
 | agg cells=>exact fv Ee cells
 | fn f caps=>exact fv Ef caps
 | _=>rfl
theorem SF (o:ak):dA (iY ρ o)=(dA o).map ρ:=by
 unfold dA
 rw [E9]
 split
 ·rename_i h
  simp only [iY,h,aF]
  generalize o.rows=l
  induction l with
  | nil=>rfl
  | cons r l ih=>simp only [ej,pk,ih,List.map_append];congr 1;exact fv Ee r
 ·rfl
theorem Kn:∀{σ:List (Nat×ak)} {p:Nat×ak},p∈je ρ σ→∃q∈σ,p=(ρ q.1,iY ρ q.2)
 | [],_,h=>by cases h
 | (i,o) :: r,p,h=>by
  simp only [je,dc] at h
  rcases h with h | h
  ·exact ⟨(i,o),by simp,h⟩
  ·obtain ⟨q,h1,h2⟩:=Kn h
   exact ⟨q,by simp [h1],h2⟩
theorem tj.ren {r:AV} {σ:List (Nat×ak)} (h1:∀i,τ (ρ i)=i) (h2:∀i,ρ (τ i)=i) (h:tj r σ):tj (n9 ρ r) (je ρ σ):=by
 have key:∀{i},(ae σ i).isSome=true→(ae (je ρ σ) (ρ i)).isSome=true:=fun {i} hi=>by
  rw [kZ h1 h2,h1]
  simpa using hi
 refine ⟨fun i hi=>?_,fun p hp i hi=>?_⟩
 ·rw [SG,List.mem_map] at hi
  obtain ⟨j,h3,rfl⟩:=hi
  exact key (h.1 j h3)
 ·obtain ⟨q,h3,rfl⟩:=Kn hp
  simp only [SF,List.mem_map] at hi
  obtain ⟨j,h4,rfl⟩:=hi
  exact key (h.2 q h3 j h4)
theorem aX.ren {f:FuncId} {args args2:List AV} {σ σ2:List (Nat×ak)} {Sb:Nat→Prop} {Post:AV→List (Nat×ak)→Prop} (h:aX P f args σ Sb Post) (ρ τ:Nat→Nat) (h1:∀i,τ (ρ i)=i) (h2:∀i,ρ (τ i)=i)
  (ha:args2.map (n9 τ)=args) (hσ:je τ σ2=σ):aX P f args2 σ2 (fun id=>Sb (τ id)) (fun r σ'=>∃r0 σ0,Post r0 σ0∧r=n9 ρ r0∧σ'=je ρ σ0):=by
 intro bl MF w cargs hTH hTW hH hMF hargs
 subst ha hσ
 have hb:∀i,(fun i=>bl (ρ i)) (τ i)=bl i:=fun i=>by simp only [h2]
 have hmut:∀b,bH (fun i=>bl (ρ i)) MF (ae (je τ σ2)) b→bH bl MF (ae σ2) b:=fun b hm=>E7 h2 h1 hb b hm
 have hblk:∀b,rz (fun i=>bl (ρ i)) (je τ σ2) b→rz bl σ2 b:=fun b hm=>UO h2 h1 hb b hm
 refine (h (fun i=>bl (ρ i)) MF w cargs hTH (fun b hb hB=>hTW b hb (hmut b hB)) (E8 h2 h1 hH hb hmut) hMF (hargs.mapRight fun _ _ hr=>E_ hr hb hmut)).mono fun e w'=>?_
 rintro ⟨v,r,σ',bl',rfl,hp,hc,hH',hv,hst,hnew,hsb⟩
 have hb':∀i,(fun i=>bl' (τ i)) (ρ i)=bl' i:=fun i=>by simp only [h1]
 have hmut':∀b,bH (fun i=>bl' (τ i)) MF (ae (je ρ σ')) b→bH bl' MF (ae σ') b:=fun b hm=>E7 h1 h2 hb' b hm
 refine ⟨v,n9 ρ r,je ρ σ',fun i=>bl' (τ i),rfl,⟨r,σ',hp,rfl,rfl⟩,hc.ren h1 h2,E8 h1 h2 hH' hb' hmut',E_ hv hb' hmut',?_,fun id o b hi hq=>?_,fun id hid=>?_⟩
 ·exact ⟨hst.size,fun b hlt hn=>hst.keep b hlt fun hh=>hn (hblk b hh),hst.shape,hst.os,hst.out⟩
 ·rw [kZ h1 h2] at hi
  simp only [dR] at hi
  obtain ⟨o0,h5,_⟩:=hi
  exact (hnew _ o0 b h5 hq).imp_right (hblk b)
 ·show bl' (τ id)=bl id
  rw [hsb _ hid]
  exact hb id
def jk (a b i:Nat):Nat:=if i=a then b else if i=b then a else i
theorem lu (a b i:Nat):jk a b (jk a b i)=i:=by
 unfold jk
 by_cases h1:i=a<;>by_cases h2:i=b<;>simp [h1,h2]<;>(try split)<;>simp_all
theorem aX.fresh {f:FuncId} {args:List AV} {Sb:Nat→Prop} {id st off len:Nat} {o:ak} (h:aX P f args [] Sb (fun r σ'=>r = .ms id st off len∧σ'=[(id,o)])) (ho:o.isRec=false) (hargs:∀x∈args,aH x=[]) (j:Nat) :
  aX P f args [] (fun _=>False) (fun r σ'=>r = .ms j st off len∧σ'=[(j,o)]):=by
 have hren:∀x:AV,aH x=[]→n9 (jk id j) x=x:=by
  have hP:∀x:AV,mO x=[]→r5 (jk id j) x=x:=fun x hx=>by cases x<;>first | rfl | (simp [mO] at hx)
  have hL:∀{f:AV→List Nat} {r:AV→AV},(∀x,f x=[]→r x=x)→∀l:List AV,l.flatMap f=[]→l.map r=l:=fun {f r} hh l=>by
   induction l with
   | nil=>exact fun _=>rfl
   | cons y l ih =>
    intro hl
    simp only [pk,List.append_eq_nil_iff] at hl
    simp only [ej,hh y hl.1,ih hl.2]
  have hC:∀x:AV,kF x=[]→qS (jk id j) x=x:=fun x hx=>by
   cases x with
   | fn f caps=>simp only [qS,hL hP caps hx]
   | _=>first | rfl | (simp [kF,mO] at hx)
  have hG:∀x:AV,oT x=[]→xF (jk id j) x=x:=fun x hx=>by
   cases x with
   | agg cells=>simp only [xF,hL hC cells hx]
   | fn f caps=>exact hC (.fn f caps) hx
   | _=>first | rfl | (simp [oT,kF,mO] at hx)
  intro x hx
  cases x with
  | tup vs=>simp only [n9,hL hG vs hx]
  | agg cells=>exact hG (.agg cells) hx
  | fn f caps=>exact hG (.fn f caps) hx
  | _=>first | rfl | (simp [aH,oT,kF,mO] at hx)
 have hmap:∀l:List AV,(∀x∈l,aH x=[])→l.map (n9 (jk id j))=l:=fun l=>by
  induction l with
  | nil=>exact fun _=>rfl
  | cons y l ih=>intro hl;simp only [ej,hren y (hl y (by simp)),ih fun x hx=>hl x (by simp [hx])]
 refine (h.ren (args2:=args) (σ2:=[]) (jk id j) (jk id j) (lu _ _) (lu _ _) (hmap args hargs) rfl).mono (fun _ hf=>hf.elim) ?_
 rintro r σ' ⟨r0,σ0,⟨rfl,rfl⟩,rfl,rfl⟩
 have hs:jk id j id=j:=by simp [jk]
 refine ⟨by simp only [n9,xF,qS,r5,hs],?_⟩
 simp only [je,hs,iY,ho]
 rfl
theorem He (i:Nat) (x:AV):sM [i] x=jb i x:=by simp [sM,jb]
theorem Hd (i:Nat) (o:ak):ja [i] o=ey i o:=by
 unfold ja ey BT Cm
 simp
theorem xZ {f:FuncId} {args:List AV} {d:Option Nat} {s:St} {K:St→Prop} {Sb:Nat→Prop} {id st off len:Nat} {o:ak} (h:aX P f args [] Sb (fun r σ'=>r = .ms id st off len∧σ'=[(id,o)])) (ho:o.isRec=false) (hargs:∀x∈args,aH x=[])
  (j:Nat) (hj:j<1000∨2000≤j) (hfree:ae s.heap j=none) (hk:K ((St.mk (o6 j s.env) ((j,o) :: o7 j s.heap)).put d (.ms j st off len))):cT P f args d s K:=by
 refine .inl (.inr ⟨[],fun _=>False,fun r σ'=>r = .ms j st off len∧σ'=[(j,o)],[j],h.fresh ho hargs j,fun _ _ hh=>by simp [ae] at hh,?_,?_⟩)
 ·rintro r σ' ⟨rfl,rfl⟩ i hi
  simp only [ae] at hi
  split at hi
  ·rename_i hji
   subst hji
   exact .inr ⟨by simp,hj,.inr hfree⟩
  ·cases hi
 ·rintro r σ' ⟨rfl,rfl⟩
  refine ⟨⟨o6 j s.env,(j,o) :: o7 j s.heap⟩,fun k=>?_,fun i=>?_,hk⟩
  ·simp only [i8,He]
  ·simp only [Ko,ae]
   split
   ·rfl
   ·simp only [eX,Option.isSome_none,iD,bc]
    congr 1
    funext o'
    exact (Hd j o').symm
end
def leE (e:List (Nat×AV)):List (Nat×AV)→Prop
 | []=>True
 | (k,x) :: r=>get e k=x∧leE e r
def VN (e:List (Nat×ak)):List (Nat×ak)→Prop
 | []=>True
 | (k,x) :: r=>ae e k=some x∧VN e r
theorem NR {e:List (Nat×AV)}:∀{l:List (Nat×AV)},leE e l→∀p∈l,get e p.1=p.2
 | [],_,p,hp=>by cases hp
 | (k,x) :: r,h,p,hp=>by
  rcases dc.1 hp with rfl | hp
  ·exact h.1
  ·exact NR h.2 p hp
theorem yi {e:List (Nat×ak)}:∀{l:List (Nat×ak)},VN e l→∀p∈l,ae e p.1=some p.2
 | [],_,p,hp=>by cases hp
 | (k,x) :: r,h,p,hp=>by
  rcases dc.1 hp with rfl | hp
  ·exact h.1
  ·exact yi h.2 p hp
theorem Wk.of {s s':St} (h1:leE s.env s'.env) (h2:VN s.heap s'.heap):Wk s s':=Wk.le (NR h1) (yi h2)
theorem Wk.frzs:∀(fs:List Nat) (s:St),Wk s (Mw.frzs fs s)
 | [],s=>Wk.refl s
 | i :: r,s=>(Wk.frz s i).trans (Wk.frzs r (s.frz i))
def St.mknil (s:St) (k i st:Nat) (t:TypeId):St:=⟨(k,.ms i st 0 0) :: del (s.kill i).env k,(i,⟨t,st,[],false⟩) :: (s.kill i).heap⟩
theorem Wk.nil (s:St) (k i st:Nat) (t:TypeId) (hk:get s.env k = .nl) (hid:i<1000∨2000≤i):Wk s (s.mknil k i st t):=by
 intro c a w hs
 obtain ⟨bl,hs⟩:=hs.kill i
 obtain ⟨h1,h2⟩:=fJ s i
 have hn:=hs.new0 (i:=i) (o:=⟨t,st,[],false⟩) h1 h2 hid rfl rfl
 have hk':get (s.kill i).env k = .nl:=by simp [St.kill,i8,hk,jb,mV,mG,mC,mP]
 refine ⟨_,hn.defers,hn.size,fun j=>?_,?_,hn.step,?_,hn.stab,hn.mf⟩
 all_goals
  have hheap:ae (s.mknil k i st t).heap=ei (ae (s.kill i).heap) i (some ⟨t,st,[],false⟩):=by
   funext j
   simp only [St.mknil,ae,ei]
   by_cases h:i=j
   ·rw [ap h,ap h.symm]
   ·rw [ah h,ah (Ne.symm h)]
 ·rw [hheap]
  have hj:=hn.env j
  simp only [St.mknil,get]
  by_cases h:k=j
  ·subst h
   rw [ap rfl]
   rw [hk'] at hj
   have hv:tv a k = .slice none 0 0:=by
    simp only [bg,eR,cg,ee] at hj
    generalize tv a k=v at hj
    cases hj
    rfl
   exact .inl ⟨hv,rfl,rfl⟩
  ·rw [ah h,rL,ah (Ne.symm h)]
   exact hj
 ·rw [hheap]
  exact hn.heap
 ·rw [hheap]
  exact hn.own
def Ng (r:AV) (σ:List (Nat×ak)):Bool:=(aH r).all (fun i=>(ae σ i).isSome)&&σ.all fun p=>(dA p.2).all fun i=>(ae σ i).isSome
theorem oJ {r:AV} {σ:List (Nat×ak)} (h:Ng r σ=true):tj r σ:=by
 simp only [Ng,cC,fg] at h
 exact ⟨fun i hi=>h.1 i hi,fun p hp i hi=>h.2 p hp i hi⟩
theorem done {l:List oG} {Post:AV→List (Nat×ak)→Prop} {s:St} (fs:List Nat) (r:AV) (σ':List (Nat×ak)) (h1:sS l (frzs fs s)=some r) (h2:VN (frzs fs s).heap σ') (h3:Ng r σ'=true) (h4:Post r σ'):nG l Post .ret s :=
 ⟨(fun _ h=>by cases h),s,Wk.refl s,fs,r,σ',h1,(fun i o hi=>yi h2 _ (fU hi)),oJ h3,h4⟩
theorem fH {l:List oG} {Post:AV→List (Nat×ak)→Prop} {s:St} (fs:List Nat) (r:AV) (σ':List (Nat×ak)) (h1:sS l (frzs fs s)=some r) (h2:VN (frzs fs s).heap σ') (h3:Ng r σ'=true) (h4:Post r σ'):nG l Post .nrm s :=
 ⟨(fun _ h=>by cases h),s,Wk.refl s,fs,r,σ',h1,(fun i o hi=>yi h2 _ (fU hi)),oJ h3,h4⟩
theorem jG {l:List oG} {Post:AV→List (Nat×ak)→Prop} {s:St} (fs:List Nat) (r:AV) (σ':List (Nat×ak)) (h4:Post r σ') (h1:sS l (frzs fs s)=some r:=by simp only [go_sem]) (h2:VN (frzs fs s).heap σ':=by simp only [go_sem]) (h3:Ng r σ'=true:=by exact rfl):nG l Post .ret s:=done fs r σ' h1 h2 h3 h4
theorem cN {l:List oG} {Post:AV→List (Nat×ak)→Prop} {s:St} (fs:List Nat) (r:AV) (σ':List (Nat×ak)) (h4:Post r σ') (h1:sS l (frzs fs s)=some r:=by simp only [go_sem]) (h2:VN (frzs fs s).heap σ':=by simp only [go_sem]) (h3:Ng r σ'=true:=by exact rfl):nG l Post .nrm s:=fH fs r σ' h1 h2 h3 h4
def ri (n:Int):List AV:=[.int .i64 n]
def ru (n:Int):List AV:=[.int .u8 n]
def rb (b:UInt8):List AV:=[.int .u8 b.toNat]
def rs (s:List UInt8):List AV:=[.str s]
def rt (b:Bool):List AV:=[.bool b]
theorem aji (n:Int):ri n=[.int .i64 n]:=rfl
theorem ajn (n:Int):ru n=[.int .u8 n]:=rfl
theorem ajf (b:UInt8):rb b=[.int .u8 b.toNat]:=rfl
theorem ajl (s:List UInt8):rs s=[.str s]:=rfl
theorem ajm (b:Bool):rt b=[.bool b]:=rfl
section
variable {α:Type}
theorem Oz (id n st row:Nat) (t:TypeId) (f:α→List AV) (l:List α) (v:α) (hn:∀x,(f x).length=n) (hi:(f v).all qh=true) :
  Ju id n st row 0 (some ⟨t,st,l.map f,false⟩) (some (f v))=if row<l.length then some (.put id ⟨t,st,(l.set row v).map f,false⟩) else none:=by
 rw [Zr _ _ _ _ _ _ _ (by simpa using fun x _=>hn x)]
 simp only [hn,hi,di,true_and,List.map_set]
theorem ad5 (id st row:Nat) (t:TypeId) (l:List Int) (v:Int):Ju id 1 st row 0 (some ⟨t,st,l.map ri,false⟩) (some [.int .i64 v])=if row<l.length then some (.put id ⟨t,st,(l.set row v).map ri,false⟩) else none:=Oz id 1 st row t ri l v (fun _=>rfl) rfl
theorem y6 [Inhabited α] (id n st row off:Nat) (t:TypeId) (f:α→List AV) (l:List α) (cs:List AV) (g:α→α) (hl:cs.length=n) (hi:cs.all qh=true) (hn:∀x,off+n≤(f x).length) (hg:∀x,i0 (f x) off cs=f (g x)) :
  Ju id n st row off (some ⟨t,st,l.map f,false⟩) (some cs)=if row<l.length then some (.put id ⟨t,st,(l.set row (g (ac l row))).map f,false⟩) else none:=by
 simp only [Ju,hl,hi,eE,and_self,aF]
 by_cases h3:row<l.length
 ·rw [jy,lg h3]
  simp only [ii,hn,aF,h3,hg,List.map_set,bp h3]
 ·rw [List.getElem?_eq_none (by simpa using h3),ah h3]
theorem cZ (id:Nat) (t:TypeId) (st len:Nat) (f:α→List AV) (l:List α) (ys:List (List AV)) (hl:l.length=len):zE id t st 0 len ys (some ⟨t,st,l.map f,false⟩) =
  if ys.length<137438953472∧len<137438953472∧(id<1000∨2000≤id) then some (.ms id st 0 (len+ys.length),.reb id ⟨t,st,l.map f++ys,false⟩) else none:=OS id t st len _ ys (by simpa using hl)
theorem OT (id:Nat) (t:TypeId) (st len:Nat) (f:α→List AV) (l:List α) (ys:List (List AV)) (hl:len≤l.length):zE id t st 0 len ys (some ⟨t,st,l.map f,false⟩) =
  if ys.length<137438953472∧len<137438953472∧(id<1000∨2000≤id) then some (.ms id st 0 (len+ys.length),.reb id ⟨t,st,(l.take len).map f++ys,false⟩) else none:=by
 simp only [zE,true_and,di,hl,List.map_take,D2,and_true]
 by_cases h1:ys.length<137438953472<;>simp [h1]
theorem K1 (st len:Nat) (t:TypeId) (f:α→List AV) (l:List α) (hl:l.length=len):P_ st 0 len (some ⟨t,st,l.map f,false⟩)=some (l.map f):=Hl st len t _ (by simpa using hl)
theorem UR (st:Nat) (t:TypeId) (r:List AV):P_ st 0 1 (some ⟨t,st,[r],false⟩)=some [r]:=Hl st 1 t _ rfl
end
theorem wi {n:Int} (h0:-9223372036854775808≤n) (h1:n<9223372036854775808):IntKind.i64.wrap n=n:=by
 unfold IntKind.wrap
 show (if (true&&decide (n % 18446744073709551616≥9223372036854775808))=true then n % 18446744073709551616 - 18446744073709551616 else n % 18446744073709551616)=n
 by_cases h:n % 18446744073709551616≥9223372036854775808
 ·rw [aO h];simp only [bU,aF];omega
 ·rw [aQ h];simp only [Bool.and_false,iD,bc];omega
attribute [go_sem] leE VN Ng aji ajn ajf ajl ajm ad5 UR ce
theorem Wk.nls (s:St) (k st:Nat) (hk:get s.env k = .nl):Wk s ⟨(k,.sl st []) :: s.env,s.heap⟩:=by
 rintro c a w ⟨bl,hs⟩
 refine ⟨bl,hs.defers,hs.size,fun j=>?_,hs.heap,hs.step,hs.own,hs.stab,hs.mf⟩
 simp only [get]
 split
 ·rename_i h
  subst h
  have:=hs.env k
  rw [hk] at this
  rw [this.nl]
  exact IRel.nls st
 ·exact hs.env j
theorem IRel.nl_sl {M:Nat→Prop} {w:World} {v:Value} (h:IRel M w v .nl) (st:Nat):IRel M w v (.sl st []):=by
 cases h
 exact .nls st
def nlr:List AV→List AV→Prop
 | [],[]=>True
 | x :: l,y :: m=>(x=y∨(x = .nl∧∃st,y = .sl st []))∧nlr l m
 | _,_=>False
theorem IL:∀{l m:List AV},nlr l m→m.length=l.length
 | [],[],_=>rfl
 | _ :: _,_ :: _,h=>by simp [IL h.2]
 | [],_ :: _,h=>h.elim
 | _ :: _,[],h=>h.elim
theorem IK:∀{l m:List AV},nlr l m→∀{j:Nat} {y:AV},m[j]? = some y→∃x,l[j]? = some x∧(x=y∨(x = .nl∧∃st,y = .sl st []))
 | [],[],_,j,y,hy=>by simp at hy
 | x :: l,z :: m,h,0,y,hy=>by simp at hy;subst hy;exact ⟨x,rfl,h.1⟩
 | x :: l,z :: m,h,j+1,y,hy=>by simpa using IK h.2 (j:=j) (by simpa using hy)
 | [],_ :: _,h,_,_,_=>h.elim
 | _ :: _,[],h,_,_,_=>h.elim
theorem Wk.nlh (s:St) (i:Nat) {t:TypeId} {st:Nat} {r r':List AV} (hi:ae s.heap i=some ⟨t,st,[r],true⟩) (hr:nlr r r'):Wk s ⟨s.env,(i,⟨t,st,[r'],true⟩) :: s.heap⟩:=by
 rintro c a w ⟨bl,hs⟩
 have hm:∀b,bH bl c.MF (ae ((i,⟨t,st,[r'],true⟩) :: s.heap)) b↔bH bl c.MF (ae s.heap) b:=bH.congr fun j=>by
  simp only [ae]
  split
  ·rename_i h;subst h;rw [hi];rfl
  ·rfl
 have ht:=Tr.of_iff (w:=w) fun b=>(hm b)
 refine ⟨bl,hs.defers,hs.size,fun j=>(hs.env j).tr ht (fun _ _=>rfl),⟨fun j o hj=>?_,fun j j' o o' b h1 h2=>?_⟩,hs.step,fun j o b h1=>?_,hs.stab,hs.mf⟩
 ·simp only [ae] at hj
  split at hj
  ·rename_i hij
   subst hij
   cases hj
   rcases hs.heap.1 i _ hi with hn | ⟨b,g1,⟨gk,c1,fr,g2,g3,g4,g5,g6,g7⟩ | hsp⟩
   ·cases hn.2.1
   rotate_left
   ·cases hsp.isRec
   ·refine .inr ⟨b,g1,.inl ⟨gk,c1,fr,g2,g3,g4,fun k q hq=>?_,by simpa using g6,fun k q u x hu hx=>?_⟩⟩
    ·cases k with
     | zero=>simp at hq;subst hq;rw [IL hr];exact g5 0 r rfl
     | succ k=>simp at hq
    ·cases k with
     | succ k=>simp at hu
     | zero =>
      simp at hu
      subst hu
      obtain ⟨x0,h1,h2⟩:=IK hr hx
      obtain ⟨v,hv1,hv2⟩:=g7 0 q r x0 rfl h1
      refine ⟨v,hv1,?_⟩
      have hv3:cg bl (bH bl c.MF (ae s.heap)) w v x0:=hv2
      rcases h2 with h2 | ⟨h2,st',h3⟩
      ·subst h2;exact hv3.tr ht (fun _ _=>rfl)
      ·subst h2 h3
       have:IRel (bH bl c.MF (ae s.heap)) w v .nl:=hv3
       exact (IRel.toC (bl:=bl) (IRel.nl_sl this st')).tr ht (fun _ _=>rfl)
  ·rcases hs.heap.1 j o hj with hn | ⟨b,g1,⟨gk,c1,fr,g2,g3,g4,g5,g6,g7⟩ | hsp⟩
   ·exact .inl hn
   rotate_left
   ·exact .inr ⟨b,g1,.inr hsp⟩
   ·refine .inr ⟨b,g1,.inl ⟨gk,c1,fr,g2,g3,g4,g5,g6,fun k q u x hu hx=>?_⟩⟩
    obtain ⟨v,hv1,hv2⟩:=g7 k q u x hu hx
    refine ⟨v,hv1,?_⟩
    cases hrec:o.isRec<;>simp only [hrec,B1] at hv2 ⊢
    ·exact hv2.tr ht.keep
    ·exact hv2.tr ht (fun _ _=>rfl)
 ·have key:∀{j:Nat} {o:ak},ae ((i,⟨t,st,[r'],true⟩) :: s.heap) j=some o→∃o',ae s.heap j=some o':=fun {j o} hj=>by
   simp only [ae] at hj
   split at hj
   ·rename_i hij;subst hij;exact ⟨_,hi⟩
   ·exact ⟨_,hj⟩
  obtain ⟨p1,q1⟩:=key h1
  obtain ⟨p2,q2⟩:=key h2
  exact hs.heap.2 j j' p1 p2 b q1 q2
 ·simp only [ae] at h1
  split at h1
  ·rename_i hij;subst hij;exact hs.own i _ b hi
  ·exact hs.own j o b h1
theorem bP {l:List oG} {Post:AV→List (Nat×ak)→Prop} {s s1:St} (hw:Wk s s1) (fs:List Nat) (r:AV) (σ':List (Nat×ak)) (h1:sS l (frzs fs s1)=some r) (h2:VN (frzs fs s1).heap σ') (h3:Ng r σ'=true) (h4:Post r σ'):nG l Post .ret s :=
 ⟨(fun _ h=>by cases h),s1,hw,fs,r,σ',h1,(fun i o hi=>yi h2 _ (fU hi)),oJ h3,h4⟩
theorem eB {l:List oG} {r:AV} {s s1:St} (hw:Wk s s1) (fs:List Nat) (h:sS l (frzs fs s1)=some r) (h2:aH r=[]):Bz l r .ret s:=⟨(fun _ h=>by cases h),s1,hw,fs,h,h2⟩
inductive Ty where
 | bool
 | int (k:IntKind)
 | str
 | sl (e:Ty)
 | nil
 | cons (f:Ty) (r:Ty)
 deriving Inhabited
def Ty.n:Ty→Nat
 | .nil=>0
 | .cons f r=>f.n+r.n
 | _=>1
def Ty.ok:Ty→List AV→Prop
 | .bool,xs=>∃b,xs=[.bool b]
 | .int k,xs=>∃n,xs=[.int k n]∧(Lit.int k n).wf=true
 | .str,xs=>∃s,xs=[.str s]∧s.length≤maxLen
 | .sl e,xs=>xs=[.nl]∨∃rows,xs=[.sl e.n rows]∧rows.length≤maxLen∧∀r∈rows,e.ok r
 | .nil,xs=>xs=[]
 | .cons f r,xs=>∃ys zs,xs=ys++zs∧f.ok ys∧r.ok zs
theorem Ty.ok_len:∀(τ:Ty) (xs:List AV),τ.ok xs→xs.length=τ.n
 | .bool,xs,h=>by obtain ⟨b,rfl⟩:=h;rfl
 | .int k,xs,h=>by obtain ⟨n,rfl,_⟩:=h;rfl
 | .str,xs,h=>by obtain ⟨s,rfl,_⟩:=h;rfl
 | .sl e,xs,h=>by rcases h with rfl | ⟨rows,rfl,_⟩<;>rfl
 | .nil,xs,h=>by subst h;rfl
 | .cons f r,xs,h=>by
  obtain ⟨ys,zs,rfl,h1,h2⟩:=h
  simp only [bE,Ty.n,Ty.ok_len f ys h1,Ty.ok_len r zs h2]
def Fr (g:TypeId→Option Ty) (P:Program) (off:Nat):List Field→Option Ty
 | []=>some .nil
 | f :: r=>if f.offset=off then (match g f.type,Fr g P (off+P.cellsOf f.type) r with
  | some a,some b=>if a.n=P.cellsOf f.type then some (.cons a b) else none
  | _,_=>none) else none
def ta (P:Program):Nat→TypeId→Option Ty
 | 0,_=>none
 | f+1,t=>match P.underlying t with
  | some .bool=>some .bool
  | some (.int k)=>some (.int k)
  | some .string=>some .str
  | some (.slice e)=>match ta P f e with
   | some a=>if a.n=P.cellsOf e∧0<a.n then some (.sl a) else none
   | none=>none
  | some (.struct fs)=>match Fr (ta P f) P 0 fs.toList with
   | some a=>if a.n=P.cellsOf t then some a else none
   | none=>none
  | _=>none
theorem Kl {α β:Type} {g:α→Option β}:∀{l:List α} {r:List β},l.mapM g=some r→r.length=l.length∧∀(i:Nat) (x:α),l[i]? = some x→∃y,r[i]? = some y∧g x=some y
 | [],r,h=>by
  simp only [List.mapM_nil,pure,cU] at h
  subst h
  exact ⟨rfl,fun i x hx=>by simp at hx⟩
 | a :: l,r,h=>by
  simp only [List.mapM_cons,bind,vc,pure,cU] at h
  obtain ⟨y,h1,ys,h2,rfl⟩:=h
  obtain ⟨h3,h4⟩:=Kl h2
  refine ⟨by simp [h3],fun i x hx=>?_⟩
  cases i with
  | zero =>
   simp only [List.getElem?_cons_zero,cU] at hx
   subst hx
   exact ⟨y,rfl,h1⟩
  | succ i=>exact h4 i x (by simpa using hx)
theorem xq {β:Type} {g:Nat→Option β} {n:Nat} {r:List β} (h:(List.range n).mapM g=some r):r.length=n∧∀i,i<n→∃y,r[i]? = some y∧g i=some y:=by
 obtain ⟨h1,h2⟩:=Kl h
 exact ⟨by simpa using h1,fun i hi=>h2 i i (by simp [hi])⟩
theorem Gz {w:World} {base:Nat} {a:Addr} {n:Nat} {cs:List Value} (h:w.cells? base a n=some cs):cs.length=n∧∀j,j<n→∃y,cs[j]? = some y∧w.cell? (a.add j)=some y:=by
 unfold World.cells? at h
 split at h
 ·exact xq h
 ·cases h
theorem DS {w:World} {a:Addr} {v:Value} (h:w.cell? a=some v):a.spot=none∧∃c t fr,w.heap[a.block]? = some (.cells c t fr)∧c[a.off]? = some v:=by
 unfold World.cell? at h
 split at h
 case h_2=>cases h
 rename_i c t fr hb
 split at h
 ·cases h
 ·rename_i hs
  exact ⟨by simpa using hs,c,t,fr,hb,h⟩
section
variable {H:Type} {enc:TypeId×Value→H} {P:Program} {w:World} {base:Nat} {sp:Nat→Bool} {held:Bool}
theorem GN {g:TypeId→Option Ty} {r:TypeId→List Value→Option (DataW H×List MemPlace)} (ih:∀t cs τ x,g t=some τ→r t cs=some x→∃xs,τ.ok xs∧aS (IRel (fun _=>False) w) cs xs) (cs:List Value) :
  ∀(fs:List Field) (off:Nat) (τ:Ty) (xs:List (DataW H×List MemPlace)),Fr g P off fs=some τ→(fs.mapM fun f=>r f.type ((cs.drop f.offset).take (P.cellsOf f.type)))=some xs→off+τ.n=cs.length →
   ∃ys,τ.ok ys∧aS (IRel (fun _=>False) w) (cs.drop off) ys
 | [],off,τ,xs,ht,_,hn=>by
  simp only [Fr,cU] at ht
  subst ht
  refine ⟨[],rfl,?_⟩
  rw [List.drop_eq_nil_of_le (by simp [Ty.n] at hn;omega)]
  trivial
 | f :: fs,off,τ,xs,ht,hm,hn=>by
  simp only [Fr] at ht
  split at ht
  case isFalse=>cases ht
  rename_i hoff
  split at ht
  case h_2=>cases ht
  rename_i a b ha hb
  split at ht
  case isFalse=>cases ht
  rename_i hsz
  cases ht
  simp only [List.mapM_cons,bind,vc,pure,cU] at hm
  obtain ⟨y,h1,zs,h2,rfl⟩:=hm
  obtain ⟨xs1,h3,h4⟩:=ih _ _ _ _ ha h1
  simp only [Ty.n] at hn
  obtain ⟨xs2,h5,h6⟩:=GN ih cs fs (off+P.cellsOf f.type) b zs hb h2 (by omega)
  refine ⟨xs1++xs2,⟨xs1,xs2,rfl,h3,h5⟩,?_⟩
  rw [hoff] at h4
  have:cs.drop off=(cs.drop off).take (P.cellsOf f.type)++cs.drop (off+P.cellsOf f.type):=by
   rw [← List.drop_drop,List.take_append_drop]
  rw [this]
  exact h4.append h6
theorem Zz:∀(fuel f:Nat) (t:TypeId) (cs:List Value) (τ:Ty) (x:DataW H×List MemPlace),ta P f t=some τ→DataW.trod enc P w base sp held fuel t cs=some x→∃xs,τ.ok xs∧aS (IRel (fun _=>False) w) cs xs:=by
 intro fuel
 induction fuel with
 | zero=>intro f t cs τ x _ h;simp [DataW.trod] at h
 | succ fuel ih =>
  intro f t cs τ x ht h
  cases f with
  | zero=>simp [ta] at ht
  | succ f =>
   simp only [ta] at ht
   split at ht
   case h_1 hu =>
    cases ht
    unfold DataW.trod at h
    split at h<;>rename_i heq<;>first | (rw [hu] at heq;cases heq;done) | (cases h;done) | skip
    rename_i b
    exact ⟨[.bool b],⟨b,rfl⟩,.bool b,trivial⟩
   case h_2 k hu =>
    cases ht
    unfold DataW.trod at h
    split at h<;>rename_i heq<;>first | (rw [hu] at heq;cases heq;done) | (cases h;done) | skip
    rename_i k' k1 n
    rw [hu] at heq
    cases heq
    split at h
    ·rename_i hk
     obtain ⟨rfl,hwf⟩:=hk
     exact ⟨[.int _ n],⟨n,rfl,hwf⟩,.int _ n,trivial⟩
    ·cases h
   case h_3 hu =>
    cases ht
    unfold DataW.trod at h
    split at h<;>rename_i heq<;>first | (rw [hu] at heq;cases heq;done) | (cases h;done) | skip
    rename_i s
    split at h
    ·rename_i hs
     refine ⟨[.str s.data.toList],⟨_,rfl,by simpa using hs⟩,?_,trivial⟩
     have:=IRel.str (M:=fun _=>False) (w:=w) s.data.toList
     simpa using this
    ·cases h
   case h_4 e hu =>
    split at ht
    case h_2=>cases ht
    rename_i a ha
    split at ht
    case isFalse=>cases ht
    rename_i hsz
    cases ht
    unfold DataW.trod at h
    split at h<;>rename_i heq<;>first | (rw [hu] at heq;cases heq;done) | (cases h;done) | skip
    ·exact ⟨[.nl],.inl rfl,.nl,trivial⟩
    ·rename_i e1 ad len cap
     rw [hu] at heq
     cases heq
     simp only at h
     split at h
     case isFalse=>cases h
     rename_i hcap
     simp only [vc] at h
     obtain ⟨elems,hel,_⟩:=h
     obtain ⟨hlen,ae⟩:=xq hel
     have hrow:∀i,i<len→∃row xs,w.cells? base (ad.add (i * P.cellsOf e)) (P.cellsOf e)=some row∧a.ok xs∧aS (IRel (fun _=>False) w) row xs:=fun i hi=>by
      obtain ⟨y,_,h2⟩:=ae i hi
      simp only [vc] at h2
      obtain ⟨row,h3,h4⟩:=h2
      obtain ⟨xs,h5,h6⟩:=ih f e row a y ha h4
      exact ⟨row,xs,h3,h5,h6⟩
     by_cases h0:len=0
     ·subst h0
      exact ⟨[.sl a.n []],.inr ⟨[],rfl,cX _,fun r hr=>by cases hr⟩,.sl0 _ _ _,trivial⟩
     have hn:0<P.cellsOf e:=by omega
     have hcell:∀i j,i<len→j<P.cellsOf e→∀row,w.cells? base (ad.add (i * P.cellsOf e)) (P.cellsOf e)=some row→∃y,row[j]? = some y∧w.cell? ((ad.add (i * P.cellsOf e)).add j)=some y:=fun i j hi hj row hr=>(Gz hr).2 j hj
     obtain ⟨row0,xs0,r1,_,_⟩:=hrow 0 (by omega)
     obtain ⟨y0,_,c0⟩:=hcell 0 0 (by omega) hn row0 r1
     obtain ⟨hspot,c,tt,fr,hb,_⟩:=DS c0
     have hspot':ad.spot=none:=by simpa [Addr.add] using hspot
     have hblk:∀(q:Addr) m,(q.add m).block=q.block:=fun q m=>by unfold Addr.add;split<;>rfl
     have hoff:∀(q:Addr) m,(q.add m).off=q.off+m:=fun q m=>by
      unfold Addr.add
      split
      ·rename_i hm;simp [hm]
      ·rfl
     rw [hblk,hblk] at hb
     have hval:∀i j,i<len→j<P.cellsOf e→∀row,w.cells? base (ad.add (i * P.cellsOf e)) (P.cellsOf e)=some row→∃y,row[j]? = some y∧c[ad.off+i * P.cellsOf e+j]? = some y:=fun i j hi hj row hr=>by
      obtain ⟨y,g1,g2⟩:=hcell i j hi hj row hr
      obtain ⟨_,c',t',fr',g3,g4⟩:=DS g2
      rw [hblk,hblk,hb] at g3
      cases g3
      rw [hoff,hoff] at g4
      exact ⟨y,g1,g4⟩
     let R:Nat→List Value:=fun i=>if hi:i<len then Classical.choose (hrow i hi) else []
     let X:Nat→List AV:=fun i=>if hi:i<len then Classical.choose (Classical.choose_spec (hrow i hi)) else []
     have hRX:∀i,i<len→w.cells? base (ad.add (i * P.cellsOf e)) (P.cellsOf e)=some (R i)∧a.ok (X i)∧aS (IRel (fun _=>False) w) (R i) (X i):=fun i hi=>by
      have:=Classical.choose_spec (Classical.choose_spec (hrow i hi))
      simp only [R,X,hi,dif_pos]
      exact this
     have hrows:∀(i:Nat) (r:List AV),((List.range len).map X)[i]? = some r→i<len∧r=X i:=fun i r hr=>by
      simp only [jy,dR] at hr
      obtain ⟨j,h1,h2⟩:=hr
      have h3:=jx.1 h1
      obtain ⟨h4,h5⟩:=h3
      simp at h4 h5
      subst h5
      exact ⟨h4,h2.symm⟩
     refine ⟨[.sl a.n ((List.range len).map X)],.inr ⟨_,rfl,by simp;omega,fun r hr=>?_⟩,?_,trivial⟩
     ·obtain ⟨i,hi,rfl⟩:=List.mem_map.1 hr
      exact (hRX i (by simpa using hi)).2.1
     ·obtain ⟨bk,of,so⟩:=ad
      simp only at hspot'
      subst hspot'
      have hll:((List.range len).map X).length=len:=by simp
      have key:=IRel.sl (M:=fun _=>False) (w:=w) bk of cap a.n c tt fr ((List.range len).map X) (fun i j=>(R i).getD j undef) hb (fun h=>h) (by rw [hll];omega)
       (fun i r hr=>by obtain ⟨h1,rfl⟩:=hrows i r hr;exact Ty.ok_len _ _ (hRX i h1).2.1)
       (fun i j hi hj=>by
        rw [hll] at hi
        rw [hsz.1] at hj ⊢
        obtain ⟨y,g1,g2⟩:=hval i j hi hj _ (hRX i hi).1
        rw [g2,List.getD_eq_getElem?_getD,g1]
        rfl)
       (fun i j r x hr hx=>by
        obtain ⟨h1,rfl⟩:=hrows i r hr
        obtain ⟨y,g1,g2⟩:=(hRX i h1).2.2.get hx
        rw [List.getD_eq_getElem?_getD,g1]
        exact g2)
      rw [hll] at key
      exact key
   case h_5 fs hu =>
    split at ht
    case h_2=>cases ht
    rename_i a ha
    split at ht
    case isFalse=>cases ht
    rename_i hsz
    cases ht
    unfold DataW.trod at h
    split at h<;>rename_i heq<;>first | (rw [hu] at heq;cases heq;done) | (cases h;done) | skip
    ·rename_i cs1 fs1
     rw [hu] at heq
     cases heq
     split at h
     case isFalse=>cases h
     rename_i hcl
     simp only [dR] at h
     obtain ⟨xs,h1,_⟩:=h
     have:=GN (P:=P) (g:=ta P f) (r:=fun t cs=>DataW.trod enc P w base sp held fuel t cs) (fun t cs τ x=>ih f t cs τ x) _ _ 0 _ xs ha h1 (by omega)
     simpa using this
   case h_6=>cases ht
end
open Go.ChangeShapes Go.WideShapes Go.ChangeAt Go.RowKit
section
variable {H:Type} {enc:TypeId×Value→H} {P:Program} [bJ P]
structure Jw (w w':World):Prop where
 size:w.heap.size≤w'.heap.size
 old:∀b,b<w.heap.size→w'.heap[b]? = w.heap[b]?
 os:w'.os=w.os
 out:w'.output=w.output
theorem IRel.toV {bl:Nat→Option Nat} {M:Nat→Prop} {w:World} {v:Value} {x:AV} (h:IRel M w v x):bg bl M w v x:=h.toC.toG.toV
theorem Jw.frame {w w':World} (h:Jw w w') (may:MemPlace→Prop):w.keptBut w' may:=by
 refine ⟨h.os,h.out,fun i hi=>?_⟩
 rw [h.old i hi]
 cases ho:w.heap[i]? with
 | none=>rfl
 | some o =>
  cases o with
  | cells c t fr=>exact ⟨rfl,rfl,rfl,fun _ _=>rfl⟩
  | map es clock=>exact .inr ⟨rfl,rfl⟩
  | _=>rfl
theorem Jw.frozen {w w':World} (h:Jw w w') {a:Addr} (ha:a.block<w.heap.size):w'.frozen? a=w.frozen? a:=World.frozen?_of_block (w:=w) (h.old a.block ha)
theorem Jw.same {w w':World} (h:Jw w w') {p:MemPlace} (hp:p.block<w.heap.size):w.sameAt w' p:=by
 cases p with
 | cell b off=>exact World.cell?_of_block (w:=w) (h.old b hp)
 | map b=>exact h.old b hp
theorem wT (hl:laidOutB P=true) {W W':World} {sp:Nat→Bool}:∀{ts:List TypeId} {vs:List Value} {ds:List (DataW H)} {ps:List MemPlace},(∀t∈ts,P.readableRec t=true∧t<P.types.size) →
  DataW.TrodAll enc P W 0 (fun _=>true) true ts vs ds ps→(∀p∈ps,W.sameAt W' p)→(∀p∈ps,sp p.block=true)→DataW.TrodAll enc P W' 0 sp true ts vs ds ps
 | [],[],[],ps,_,h,_,_=>h
 | t :: ts,v :: vs,d :: ds,ps,hr,h,h1,h2=>by
  obtain ⟨p,q,h3,h4,rfl⟩:=h
  exact ⟨p,q,WideElems.Trod_stays hl (hr t (by simp)).1 (hr t (by simp)).2 h3 (fun x hx=>h1 x (by simp [hx])) (fun x hx=>h2 x (by simp [hx])),
   wT hl (fun t ht=>hr t (by simp [ht])) h4 (fun x hx=>h1 x (by simp [hx])) (fun x hx=>h2 x (by simp [hx])),rfl⟩
 | [],_ :: _,_,_,_,h,_,_=>h.elim
 | [],[],_ :: _,_,_,h,_,_=>h.elim
 | _ :: _,[],_,_,_,h,_,_=>h.elim
 | _ :: _,_ :: _,[],_,_,h,_,_=>h.elim
theorem Tf {f:Func} {s:ChangeSpec} {apart fresh handsOn again:Bool} {W W':World} {args:Array Value} {ds gs:List (DataW H)} {before:List MemPlace} {tb:TypeId} (hl:laidOutB P=true)
  (hr:∀t∈f.params.toList,P.readableRec t=true∧t<P.types.size) (hv:s.vars=[]) (hfn:(s.fn H (ds++gs)).results=[.lit (.bool true)]) (hfa:(s.fn H (ds++gs)).args=ds) (hfv:(s.fn H (ds++gs)).vars=[])
  (hrt:f.resultTypes = #[tb]) (htb:P.underlying tb=some .bool) (hW:DataW.Whole enc P f.params.toList s.vars apart W args.toList ds gs before) (hk:Jw W W') :
  s.post enc P f apart fresh handsOn again W args (.bool true) W':=by
 have hlt:=hW.lt
 have hW0:=hW
 obtain ⟨p,q,hA,hV,rfl,hz,hn⟩:=hW0
 rw [hv] at hV
 obtain ⟨rfl,rfl⟩:=trodVars_none hV
 rw [mz] at *
 have hsame:∀x∈p,W.sameAt W' x:=fun x hx=>hk.same (by simpa using hlt x hx)
 have hargs:∀sp:Nat→Bool,(∀x∈p,sp x.block=true)→DataW.TrodAll enc P W' 0 sp true f.params.toList args.toList ds p:=fun sp hsp=>wT hl hr hA hsame hsp
 have hres:∀(b:Nat) (sp:Nat→Bool) (hd:Bool),DataW.TrodAll enc P W' b sp hd f.resultTypes.toList ((Value.bool true).resultList f.resultTypes.size) [.lit (.bool true)] []:=fun b sp hd=>by
  rw [hrt]
  exact trodAll_cons_mk (shut_bool htb _) trodAll_mk0
 have hvars:∀sp:Nat→Bool,DataW.TrodVars enc P W' sp s.vars [] []:=fun sp=>by rw [hv];rfl
 refine ⟨ds,[],p,[],p,[],by simpa using hW,by rw [mz,hfn];exact hres _ _ _,by rw [mz,hfa];exact hargs _ (fun x hx=>by simpa using hlt x (by simpa using hx)),by rw [mz,hfv];exact hvars _,hk.frame _,fun _=>?_⟩
 refine ⟨ok_one hrt rfl (okWide_bool_mk htb _),[.lit (.bool true)]++ds,[],p,⟨[]++p,[],trodAll_append (hargs _ (fun _ _=>rfl)) (hres _ _ _),hvars _,by simp,?_,?_⟩,fun x hx _=>hx⟩
 ·intro b off hp
  have hb:b<W.heap.size:=hlt (.cell b off) (by simpa using hp)
  have:=hz b off (by simpa using hp)
  rw [hk.frozen (a:=⟨b,off,none⟩) hb]
  exact this
 ·intro ha
  simpa using hn ha
end
def Ty.isRec:Ty→Bool
 | .nil=>true
 | .cons _ _=>true
 | _=>false
def Ty.okV (τ:Ty) (x:AV):Prop:=match τ.isRec with
 | true=>∃xs,x = .agg xs∧τ.ok xs
 | false=>τ.ok [x]
section
variable {H:Type} {enc:TypeId×Value→H} {P:Program} [bJ P] {w:World} {base:Nat} {sp:Nat→Bool} {held:Bool}
theorem M0 {g:TypeId→Option Ty}:∀{fs:List Field} {off:Nat} {τ:Ty},Fr g P off fs=some τ→τ.isRec=true
 | [],off,τ,h=>by simp only [Fr,cU] at h;subst h;rfl
 | f :: fs,off,τ,h=>by
  simp only [Fr] at h
  split at h
  case isFalse=>cases h
  split at h
  case h_2=>cases h
  split at h
  case isFalse=>cases h
  cases h
  rfl
theorem KO {f:FuncId} {args:List AV} {r:Bool} (hp:ao P f args (.bool r)) {w:World} {cargs:List Value} (hT:(bJ.T P).H w) (ha:aS (bg (fun _=>none) (fun _=>False) w) cargs args) :
  Calls P f cargs.toArray w fun e w'=>e = .returned (.bool r)∧Jw w w':=by
 have hM:bH (fun _=>none) (fun _=>False) (ae [])=fun _=>False:=by
  funext b
  apply propext
  constructor
  ·rintro (h | ⟨i,o,h,_⟩)
   ·exact h
   ·simp [ae] at h
  ·exact False.elim
 refine (hp (fun _=>none) (fun _=>False) w cargs hT (fun _ _ hm=>hm.elim id fun ⟨_,_,hi,_⟩=>by simp [ae] at hi) ⟨fun i o h=>by simp [ae] at h,fun i _ o _ _ h=>by simp [ae] at h⟩ (fun _ h=>h.elim) (by rw [hM];exact ha)).mono fun e w'=>?_
 rintro ⟨v,r',σ',bl',rfl,⟨rfl,rfl⟩,_,_,hv,hst,_,_⟩
 have hv':=hv.bool
 subst hv'
 exact ⟨rfl,hst.size,fun b hb=>hst.keep b hb (fun ⟨i,o,h,_⟩=>by simp [ae] at h),hst.os,hst.out⟩
end
def fw:List (Nat×Nat)→Nat→Nat
 | [],i=>i
 | (a,b) :: r,i=>fw r (jk a b i)
def bw:List (Nat×Nat)→Nat→Nat
 | [],i=>i
 | (a,b) :: r,i=>jk a b (bw r i)
theorem tP:∀(ps:List (Nat×Nat)) (i:Nat),bw ps (fw ps i)=i
 | [],_=>rfl
 | (a,b) :: r,i=>by simp only [fw,bw,tP r,lu]
theorem GU:∀(ps:List (Nat×Nat)) (i:Nat),fw ps (bw ps i)=i
 | [],_=>rfl
 | (a,b) :: r,i=>by simp only [fw,bw,lu,GU r]
def dO:List Nat→List (Nat×AV)→List (Nat×AV)
 | [],e=>e
 | k :: ks,e=>o6 k (dO ks e)
def dP:List Nat→List (Nat×ak)→List (Nat×ak)
 | [],e=>e
 | k :: ks,e=>o7 k (dP ks e)
theorem P0 (e:List (Nat×AV)):dO [] e=e:=rfl
theorem Mx (k:Nat) (ks:List Nat) (e:List (Nat×AV)):dO (k :: ks) e=o6 k (dO ks e):=rfl
theorem P1 (e:List (Nat×ak)):dP [] e=e:=rfl
theorem My (k:Nat) (ks:List Nat) (e:List (Nat×ak)):dP (k :: ks) e=o7 k (dP ks e):=rfl
attribute [go_sem] P0 Mx P1 My
theorem SL (a b:Bool) (x:AV) (p:AV→Bool) (hp:p .any=false) (hx:p x=a):(if p (if b=true then .any else x)=true then AV.any else (if b=true then .any else x))=if (a||b)=true then .any else x:=by
 cases b<;>cases a<;>simp_all
theorem ado (k:Nat) (ks:List Nat) (x:AV):jb k (sM ks x)=sM (k :: ks) x:=by
 have:=SL (mV k x) (ks.any fun i=>mV i x) x (mV k) rfl rfl
 exact this
theorem adg (k:Nat) (ks:List Nat) (x:AV):Cm k (BT ks x)=BT (k :: ks) x:=by
 have:=SL (mC k x) (ks.any fun i=>mC i x) x (mC k) rfl rfl
 exact this
theorem adl (k:Nat) (ks:List Nat) (o:ak):ey k (ja ks o)=ja (k :: ks) o:=by
 unfold ey ja
 by_cases h:o.isRec=true
 ·simp only [h,aF,List.map_map]
  congr 1
  funext
  apply List.map_congr_left
  intro r _
  simp only [Function.comp,List.map_map]
  apply List.map_congr_left
  intro x _
  exact adg k ks x
  rw [ap h]
 ·simp [h]
theorem qM (k:Nat):∀(ks:List Nat) (e:List (Nat×AV)),get (dO ks e) k=sM ks (get e k)
 | [],e=>by simp [dO,sM]
 | i :: ks,e=>by rw [dO,i8,qM k ks,ado]
theorem oS (k:Nat):∀(ks:List Nat) (e:List (Nat×ak)),ae (dP ks e) k=(ae e k).map (ja ks)
 | [],e=>by
  have:ja []=id:=by
   funext o
   unfold ja BT
   simp
  simp [dP,this]
 | i :: ks,e=>by
  rw [dP,eX,oS k ks,Option.map_map]
  congr 1
  funext o
  exact adl i ks o
theorem Ed (j:Nat):∀(a b:List (Nat×ak)),ae (a++b) j=match ae a j with
  | some o=>some o
  | none=>ae b j
 | [],b=>rfl
 | (k,o) :: r,b=>by
  simp only [jR,ae]
  split
  ·rfl
  ·exact Ed j r b
section
variable {P:Program} [bJ P]
theorem ew {f:FuncId} {args0 args:List AV} {σ0 σ2 σ1 σ3:List (Nat×ak)} {Sb:Nat→Prop} {r1 r3:AV} {d:Option Nat} {s:St} {K:St→Prop}
  (h:aX P f args0 σ0 Sb (fun r σ'=>r=r1∧σ'=σ1)) (ps:List (Nat×Nat)) (ks:List Nat)
  (ha:args.map (n9 (bw ps))=args0) (hσ:je (bw ps) σ2=σ0) (hr:n9 (fw ps) r1=r3) (h3:je (fw ps) σ1=σ3)
  (hin:∀p∈σ2,ae s.heap p.1=some p.2)
  (hout:∀p∈σ3,(Sb (bw ps p.1)∧(ae σ2 p.1).isSome=true)∨(p.1∈ks∧(p.1<1000∨2000≤p.1)∧((ae σ2 p.1).isSome=true∨ae s.heap p.1=none)))
  (hall:∀p∈σ2,(ae σ3 p.1).isSome=true)
  (hk:K ((St.mk (dO ks s.env) (σ3++dP ks s.heap)).put d r3)):cT P f args d s K:=by
 have h':=h.ren (args2:=args) (σ2:=σ2) (fw ps) (bw ps) (tP ps) (GU ps) ha hσ
 refine .inl (.inr ⟨σ2,_,_,ks,h',fun id o hh=>hin (id,o) (fU hh),?_,?_⟩)
 ·rintro r σ' ⟨r0,σ4,⟨rfl,rfl⟩,rfl,rfl⟩ id hid
  rw [h3] at hid
  obtain ⟨o,ho⟩:=Option.isSome_iff_exists.1 hid
  exact hout (id,o) (fU ho)
 ·rintro r σ' ⟨r0,σ4,⟨rfl,rfl⟩,rfl,rfl⟩
  rw [hr,h3]
  refine ⟨⟨dO ks s.env,σ3++dP ks s.heap⟩,fun k=>qM k ks s.env,fun j=>?_,hk⟩
  simp only [Ed,Ko]
  cases hn:ae σ3 j with
  | some o=>rfl
  | none =>
   simp only
   by_cases h2:(ae σ2 j).isSome=true
   ·obtain ⟨o,ho⟩:=Option.isSome_iff_exists.1 h2
    have:=hall (j,o) (fU ho)
    simp only at this
    rw [hn] at this
    cases this
   ·rw [ah h2,oS]
theorem JK {f:FuncId} {args:List AV} {σ0 σ1:List (Nat×ak)} {Sb:Nat→Prop} {r1:AV} {d:Option Nat} {s:St} {K:St→Prop}
  (h:aX P f args σ0 Sb (fun r σ'=>r=r1∧σ'=σ1)) (ks:List Nat)
  (hin:∀p∈σ0,ae s.heap p.1=some p.2)
  (hout:∀p∈σ1,(Sb p.1∧(ae σ0 p.1).isSome=true)∨(p.1∈ks∧(p.1<1000∨2000≤p.1)∧((ae σ0 p.1).isSome=true∨ae s.heap p.1=none)))
  (hall:∀p∈σ0,(ae σ1 p.1).isSome=true)
  (hk:K ((St.mk (dO ks s.env) (σ1++dP ks s.heap)).put d r1)):cT P f args d s K:=by
 refine .inl (.inr ⟨σ0,_,_,ks,h,fun id o hh=>hin (id,o) (fU hh),?_,?_⟩)
 ·rintro r σ' ⟨rfl,rfl⟩ id hid
  obtain ⟨o,ho⟩:=Option.isSome_iff_exists.1 hid
  exact hout (id,o) (fU ho)
 ·rintro r σ' ⟨rfl,rfl⟩
  refine ⟨⟨dO ks s.env,σ'++dP ks s.heap⟩,fun k=>qM k ks s.env,fun j=>?_,hk⟩
  simp only [Ed,Ko]
  cases hn:ae σ' j with
  | some o=>rfl
  | none =>
   simp only
   by_cases h2:(ae σ0 j).isSome=true
   ·obtain ⟨o,ho⟩:=Option.isSome_iff_exists.1 h2
    have:=hall (j,o) (fU ho)
    simp only at this
    rw [hn] at this
    cases this
   ·rw [ah h2,oS]
theorem abm {f:FuncId} {args:List AV} {k:Nat} {ob ob':ak} {Sb:Nat→Prop} {r:AV} {d:Option Nat} {s:St} {K:St→Prop}
  (h:aX P f args [(k,ob)] Sb (fun r' σ'=>r'=r∧σ'=[(k,ob')])) (hs:Sb k) (hk:ae s.heap k=some ob) (hK:K ((St.mk s.env ((k,ob') :: s.heap)).put d r)):cT P f args d s K:=by
 refine JK h [] (fun p hp=>?_) (fun p hp=>?_) (fun p hp=>?_) (by simpa only [dO,dP,jR,fh] using hK)
 ·simp only [kB] at hp;subst hp;exact hk
 ·simp only [kB] at hp;subst hp;exact .inl ⟨hs,by simp [ae]⟩
 ·simp only [kB] at hp;subst hp;simp [ae]
theorem P9 (ρ:Nat→Nat) (x:AV) (hx:mO x=[]):r5 ρ x=x:=by cases x<;>first | rfl | (simp [mO] at hx)
theorem qT {ρ:Nat→Nat} {f:AV→List Nat} {r:AV→AV} (hh:∀x,f x=[]→r x=x):∀l:List AV,l.flatMap f=[]→l.map r=l
 | [],_=>rfl
 | y :: l,hl=>by
  simp only [pk,List.append_eq_nil_iff] at hl
  simp only [ej,hh y hl.1,qT (ρ:=ρ) hh l hl.2]
theorem Ao (ρ:Nat→Nat) (x:AV) (hx:kF x=[]):qS ρ x=x:=by
 cases x with
 | fn f caps=>simp only [qS,qT (ρ:=ρ) (P9 ρ) caps hx]
 | _=>first | rfl | (simp [kF,mO] at hx)
theorem Ap (ρ:Nat→Nat) (x:AV) (hx:oT x=[]):xF ρ x=x:=by
 cases x with
 | agg cells=>simp only [xF,qT (ρ:=ρ) (Ao ρ) cells hx]
 | fn f caps=>exact Ao ρ (.fn f caps) hx
 | _=>first | rfl | (simp [oT,kF,mO] at hx)
theorem qU (ρ:Nat→Nat) (x:AV) (hx:aH x=[]):n9 ρ x=x:=by
 cases x with
 | tup vs=>simp only [n9,qT (ρ:=ρ) (Ap ρ) vs hx]
 | agg cells=>exact Ap ρ (.agg cells) hx
 | fn f caps=>exact Ap ρ (.fn f caps) hx
 | _=>first | rfl | (simp [aH,oT,kF,mO] at hx)
theorem iz (ρ:Nat→Nat) (o:ak) (hx:dA o=[]):iY ρ o=o:=by
 unfold iY
 split
 ·rename_i hr
  have:∀rows:List (List AV),rows.flatMap (fun r=>r.flatMap kF)=[]→rows.map (fun r=>r.map (qS ρ))=rows:=fun rows=>by
   induction rows with
   | nil=>exact fun _=>rfl
   | cons r l ih =>
    intro hl
    simp only [pk,List.append_eq_nil_iff] at hl
    simp only [ej,ih hl.2,qT (ρ:=ρ) (Ao ρ) r hl.1]
  simp only [dA,hr,aF] at hx
  rw [this _ hx]
 ·rfl
theorem o_ (ρ:Nat→Nat):∀l:List AV,(∀x∈l,aH x=[])→l.map (n9 ρ)=l
 | [],_=>rfl
 | x :: l,h=>by simp only [ej,qU ρ x (h x (by simp)),o_ ρ l fun y hy=>h y (by simp [hy])]
theorem dv {f:FuncId} {args:List AV} {d:Option Nat} {s:St} {K:St→Prop} {Sb:Nat→Prop} {id st:Nat} {o:ak} (h:aX P f args [] Sb (fun r σ'=>r = .mp id st 0 0∧σ'=[(id,o)])) (ho:dA o=[]) (hargs:∀x∈args,aH x=[])
  (j:Nat) (hj:j<1000∨2000≤j) (hfree:ae s.heap j=none) (hk:K ((St.mk (o6 j s.env) ((j,o) :: o7 j s.heap)).put d (.mp j st 0 0))):cT P f args d s K:=by
 have e1:jk id j id=j:=by simp [jk]
 refine ew (σ2:=[]) (r3:=.mp j st 0 0) (σ3:=[(j,o)]) h [(id,j)] [j] (o_ _ args hargs) rfl ?_ ?_ (fun p hp=>by cases hp) (fun p hp=>?_) (fun p hp=>by cases hp) ?_
 ·simp only [fw,n9,xF,qS,r5,e1]
 ·simp only [je,fw,e1,iz _ o ho]
 ·simp only [kB] at hp
  subst hp
  exact .inr ⟨by simp,hj,.inr hfree⟩
 ·simpa only [dO,dP,jR,fh] using hk
theorem aX.at_ {f:FuncId} {st:Nat} {rest:List AV} {ob ob':ak} {Sb:Nat→Prop} {r:AV} (h:aX P f (.mp 1000 st 0 0 :: rest) [(1000,ob)] Sb (fun r' σ'=>r'=r∧σ'=[(1000,ob')]))
  (hr:aH r=[]) (hrest:∀x∈rest,aH x=[]) (ho:dA ob=[]) (ho':dA ob'=[]) (j:Nat) :
  aX P f (.mp j st 0 0 :: rest) [(j,ob)] (fun id=>Sb (jk 1000 j id)) (fun r' σ'=>r'=r∧σ'=[(j,ob')]):=by
 have e1:jk 1000 j 1000=j:=by simp [jk]
 have e2:jk 1000 j j=1000:=by unfold jk;split<;>simp_all
 refine (h.ren (args2:=.mp j st 0 0 :: rest) (σ2:=[(j,ob)]) (jk 1000 j) (jk 1000 j) (lu _ _) (lu _ _) ?_ ?_).mono (fun _ h=>h) ?_
 ·simp only [ej,o_ _ rest hrest,n9,xF,qS,r5,e2]
 ·simp only [je,e2,iz _ ob ho]
 ·rintro r' σ' ⟨r0,σ0,⟨rfl,rfl⟩,rfl,rfl⟩
  exact ⟨qU _ _ hr,by simp only [je,e1,iz _ ob' ho']⟩
theorem QE {Sb:Nat→Prop} (j:Nat) (h:Sb 1000):(fun id=>Sb (jk 1000 j id)) j:=by
 show Sb (jk 1000 j j)
 have e2:jk 1000 j j=1000:=by unfold jk;split<;>simp_all
 rw [e2];exact h
theorem dW {f:FuncId} {st:Nat} {rest:List AV} {ob ob':ak} {Sb:Nat→Prop} {r:AV} {j:Nat} {d:Option Nat} {s:St} {K:St→Prop} (h:aX P f (.mp 1000 st 0 0 :: rest) [(1000,ob)] Sb (fun r' σ'=>r'=r∧σ'=[(1000,ob')]))
  (hs:Sb 1000) (hr:aH r=[]) (hrest:∀x∈rest,aH x=[]) (ho:dA ob=[]) (ho':dA ob'=[]) (hk:ae s.heap j=some ob) (hK:K ((St.mk s.env ((j,ob') :: s.heap)).put d r)):cT P f (.mp j st 0 0 :: rest) d s K :=
 abm (h.at_ hr hrest ho ho' j) (QE j hs) hk hK
theorem ab {f:FuncId} {st:Nat} {rest:List AV} {ob ob':ak} {Sb:Nat→Prop} {r:AV} {j:Nat} {d:Option Nat} {s:St} {K:St→Prop} (h:aX P f (.mp 1000 st 0 0 :: rest) [(1000,ob)] Sb (fun r' σ'=>r'=r∧σ'=[(1000,ob')]))
  (hK:K ((St.mk s.env ((j,ob') :: s.heap)).put d r)) (hs:Sb 1000:=by exact ⟨by decide,by decide⟩) (hr:aH r=[]:=by first | rfl | exact bX _) (hrest:∀x∈rest,aH x=[]:=by simp [go_sem]) (ho:dA ob=[]:=by exact rfl) (ho':dA ob'=[]:=by exact rfl)
  (hk:ae s.heap j=some ob:=by rfl):cT P f (.mp j st 0 0 :: rest) d s K:=dW h hs hr hrest ho ho' hk hK
theorem aA {f:FuncId} {st:Nat} {rest:List AV} {ob ob':ak} {Sb:Nat→Prop} {r:AV} {j:Nat} {d:Option Nat} {s:St} {K:St→Prop} {Q:Prop} (h:aX P f (.mp 1000 st 0 0 :: rest) [(1000,ob)] Sb (fun r' σ'=>r'=r∧σ'=[(1000,ob')]))
  (hk':Q) (hq:K ((St.mk s.env ((j,ob') :: s.heap)).put d r)=Q:=by conv=>lhs;simp only [go_sem]) (hs:Sb 1000:=by exact ⟨by decide,by decide⟩) (hr:aH r=[]:=by first | rfl | exact bX _) (hrest:∀x∈rest,aH x=[]:=by simp [go_sem]) (ho:dA ob=[]:=by exact rfl) (ho':dA ob'=[]:=by exact rfl)
  (hk:ae s.heap j=some ob:=by rfl):cT P f (.mp j st 0 0 :: rest) d s K:=dW h hs hr hrest ho ho' hk (hq.mpr hk')
theorem WG {f:FuncId} {st:Nat} {rest:List AV} {ob ob':ak} {Sb:Nat→Prop} {r:AV} {j:Nat} {i:Nat} {bf:List Nat} {op:pn} {d:Option Nat} {hist:List HI} {s:St} {K:List HI→St→Prop} (h:aX P f (.mp 1000 st 0 0 :: rest) [(1000,ob)] Sb (fun r' σ'=>r'=r∧σ'=[(1000,ob')]))
  (hs:Sb 1000) (hr:aH r=[]) (hrest:∀x∈rest,aH x=[]) (ho:dA ob=[]) (ho':dA ob'=[]) (hk:ae s.heap j=some ob) (hop:j∈cI op s.env)
  (hK:eP op s (.put j ob')=true∧jq bf ⟨i,cI op s.env,[],[j],false,true⟩ hist=true∧K (⟨i,cI op s.env,[],[j],false,true⟩ :: hist) ((s.eff (.put j ob')).put d r)):H_ P f (.mp j st 0 0 :: rest) i bf op d hist s K :=
 O5 (h.at_ hr hrest ho ho' j) (QE j hs) hk hr ho' hop hK
end
theorem Wk.new0 (s:St) (i st:Nat) (t:TypeId) (hid:i<1000∨2000≤i):Wk s ⟨(s.kill i).env,(i,⟨t,st,[],false⟩) :: (s.kill i).heap⟩:=by
 intro c a w hs
 obtain ⟨bl,hs⟩:=hs.kill i
 obtain ⟨h1,h2⟩:=fJ s i
 have hn:=hs.new0 (i:=i) (o:=⟨t,st,[],false⟩) h1 h2 hid rfl rfl
 refine ⟨_,hn.congr (fun _=>rfl) (fun j=>?_)⟩
 simp only [ae,ei]
 by_cases h:i=j
 ·rw [ap h,ap h.symm]
 ·rw [ah h,ah (Ne.symm h)]
def nlm:List AV→List AV→Prop
 | [],[]=>True
 | x :: l,y :: m=>(x=y∨(x = .nl∧((∃st,y = .sl st [])∨∃id st,y = .ms id st 0 0)))∧nlm l m
 | _,_=>False
theorem IJ:∀{l m:List AV},nlm l m→m.length=l.length
 | [],[],_=>rfl
 | _ :: _,_ :: _,h=>by simp [IJ h.2]
 | [],_ :: _,h=>h.elim
 | _ :: _,[],h=>h.elim
theorem II:∀{l m:List AV},nlm l m→∀{j:Nat} {y:AV},m[j]? = some y→∃x,l[j]? = some x∧(x=y∨(x = .nl∧((∃st,y = .sl st [])∨∃id st,y = .ms id st 0 0)))
 | [],[],_,j,y,hy=>by simp at hy
 | x :: l,z :: m,h,0,y,hy=>by simp at hy;subst hy;exact ⟨x,rfl,h.1⟩
 | x :: l,z :: m,h,j+1,y,hy=>by simpa using II h.2 (j:=j) (by simpa using hy)
 | [],_ :: _,h,_,_,_=>h.elim
 | _ :: _,[],h,_,_,_=>h.elim
theorem Wk.nlm (s:St) (i:Nat) {t:TypeId} {st:Nat} {r r':List AV} (hi:ae s.heap i=some ⟨t,st,[r],true⟩) (hr:Mw.nlm r r'):Wk s ⟨s.env,(i,⟨t,st,[r'],true⟩) :: s.heap⟩:=by
 rintro c a w ⟨bl,hs⟩
 have hm:∀b,bH bl c.MF (ae ((i,⟨t,st,[r'],true⟩) :: s.heap)) b↔bH bl c.MF (ae s.heap) b:=bH.congr fun j=>by
  simp only [ae]
  split
  ·rename_i h;subst h;rw [hi];rfl
  ·rfl
 have ht:=Tr.of_iff (w:=w) fun b=>(hm b)
 refine ⟨bl,hs.defers,hs.size,fun j=>(hs.env j).tr ht (fun _ _=>rfl),⟨fun j o hj=>?_,fun j j' o o' b h1 h2=>?_⟩,hs.step,fun j o b h1=>?_,hs.stab,hs.mf⟩
 ·simp only [ae] at hj
  split at hj
  ·rename_i hij
   subst hij
   cases hj
   rcases hs.heap.1 i _ hi with hn | ⟨b,g1,⟨gk,c1,fr,g2,g3,g4,g5,g6,g7⟩ | hsp⟩
   ·cases hn.2.1
   rotate_left
   ·cases hsp.isRec
   ·refine .inr ⟨b,g1,.inl ⟨gk,c1,fr,g2,g3,g4,fun k q hq=>?_,by simpa using g6,fun k q u x hu hx=>?_⟩⟩
    ·cases k with
     | zero=>simp at hq;subst hq;rw [IJ hr];exact g5 0 r rfl
     | succ k=>simp at hq
    ·cases k with
     | succ k=>simp at hu
     | zero =>
      simp at hu
      subst hu
      obtain ⟨x0,h1,h2⟩:=II hr hx
      obtain ⟨v,hv1,hv2⟩:=g7 0 q r x0 rfl h1
      refine ⟨v,hv1,?_⟩
      have hv3:cg bl (bH bl c.MF (ae s.heap)) w v x0:=hv2
      rcases h2 with h2 | ⟨h2,⟨st',h3⟩ | ⟨id,st',h3⟩⟩
      ·subst h2;exact hv3.tr ht (fun _ _=>rfl)
      ·subst h2 h3
       have:IRel (bH bl c.MF (ae s.heap)) w v .nl:=hv3
       exact (IRel.toC (bl:=bl) (IRel.nl_sl this st')).tr ht (fun _ _=>rfl)
      ·subst h2 h3
       have:IRel (bH bl c.MF (ae s.heap)) w v .nl:=hv3
       cases this
       exact .inl ⟨rfl,rfl,rfl⟩
  ·rcases hs.heap.1 j o hj with hn | ⟨b,g1,⟨gk,c1,fr,g2,g3,g4,g5,g6,g7⟩ | hsp⟩
   ·exact .inl hn
   rotate_left
   ·exact .inr ⟨b,g1,.inr hsp⟩
   ·refine .inr ⟨b,g1,.inl ⟨gk,c1,fr,g2,g3,g4,g5,g6,fun k q u x hu hx=>?_⟩⟩
    obtain ⟨v,hv1,hv2⟩:=g7 k q u x hu hx
    refine ⟨v,hv1,?_⟩
    cases hrec:o.isRec<;>simp only [hrec,B1] at hv2 ⊢
    ·exact hv2.tr ht.keep
    ·exact hv2.tr ht (fun _ _=>rfl)
 ·have key:∀{j:Nat} {o:ak},ae ((i,⟨t,st,[r'],true⟩) :: s.heap) j=some o→∃o',ae s.heap j=some o':=fun {j o} hj=>by
   simp only [ae] at hj
   split at hj
   ·rename_i hij;subst hij;exact ⟨_,hi⟩
   ·exact ⟨_,hj⟩
  obtain ⟨p1,q1⟩:=key h1
  obtain ⟨p2,q2⟩:=key h2
  exact hs.heap.2 j j' p1 p2 b q1 q2
 ·simp only [ae] at h1
  split at h1
  ·rename_i hij;subst hij;exact hs.own i _ b hi
  ·exact hs.own j o b h1
section
variable {P:Program} [bJ P]
theorem aX.at2 {f:FuncId} {st:Nat} {rest:List AV} {rc rc' rk rk' ar ar':ak} {Sb:Nat→Prop} {r:AV} {k j:Nat}
  (h:aX P f (.mp 1000 st 0 0 :: rest) [(1000,rc),(2000,ar)] Sb (fun r' σ'=>r'=r∧σ'=[(1000,rc'),(2000,ar')]))
  (hk:k≠2000) (hj:j≠1000) (hkj:k≠j)
  (hr:aH r=[]) (hrest:∀x∈rest,aH x=[]) (ha:ar.isRec=false) (ha':ar'.isRec=false)
  (h1:iY (bw [(1000,k),(2000,j)]) rk=rc) (h2:iY (fw [(1000,k),(2000,j)]) rc'=rk') :
  aX P f (.mp k st 0 0 :: rest) [(k,rk),(j,ar)] (fun id=>Sb (bw [(1000,k),(2000,j)] id)) (fun r' σ'=>r'=r∧σ'=[(k,rk'),(j,ar')]):=by
 have e1:fw [(1000,k),(2000,j)] 1000=k:=by
  simp only [fw];unfold jk
  by_cases q:k=2000
  ·exact absurd q hk
  ·simp [q,hkj]
 have e2:fw [(1000,k),(2000,j)] 2000=j:=by
  simp only [fw];unfold jk
  by_cases q:(2000:Nat)=k
  ·exact absurd q.symm hk
  ·simp [q]
 have b1:bw [(1000,k),(2000,j)] k=1000:=by have:=tP [(1000,k),(2000,j)] 1000;rwa [e1] at this
 have b2:bw [(1000,k),(2000,j)] j=2000:=by have:=tP [(1000,k),(2000,j)] 2000;rwa [e2] at this
 have ra:∀ρ:Nat→Nat,iY ρ ar=ar:=fun ρ=>by unfold iY;rw [ha];rfl
 have ra':∀ρ:Nat→Nat,iY ρ ar'=ar':=fun ρ=>by unfold iY;rw [ha'];rfl
 refine (h.ren (args2:=.mp k st 0 0 :: rest) (σ2:=[(k,rk),(j,ar)]) (fw [(1000,k),(2000,j)]) (bw [(1000,k),(2000,j)]) (tP _) (GU _) ?_ ?_).mono (fun _ h=>h) ?_
 ·simp only [ej,o_ _ rest hrest,n9,xF,qS,r5,b1]
 ·simp only [je,b1,b2,ra,h1]
 ·rintro r' σ' ⟨r0,σ0,⟨rfl,rfl⟩,rfl,rfl⟩
  exact ⟨qU _ _ hr,by simp only [je,e1,e2,ra',h2]⟩
theorem abl {f:FuncId} {args args':List AV} {rk rk' ar ar':ak} {Sb:Nat→Prop} {r:AV} {k j:Nat} {d:Option Nat} {s:St} {K:St→Prop} (fs:List Nat)
  (h:aX P f args' [(k,rk),(j,ar)] Sb (fun r' σ'=>r'=r∧σ'=[(k,rk'),(j,ar')])) (hkj:k≠j) (hs:Sb k) (hj:j<1000∨2000≤j)
  (ha:args.map (wH fs s)=args') (h1:ae (frzs fs s).heap k=some rk) (h2:ae (frzs fs s).heap j=some ar)
  (hK:K ((St.mk (o6 j (frzs fs s).env) ((k,rk') :: (j,ar') :: o7 j (frzs fs s).heap)).put d r)):cT P f args d s K:=by
 subst ha
 have key:∀p:Nat×ak,p∈[(k,rk),(j,ar)]→ae (frzs fs s).heap p.1=some p.2:=fun p hp=>by
  simp only [dc,List.not_mem_nil,or_false] at hp
  rcases hp with rfl | rfl
  ·exact h1
  ·exact h2
 refine .inr (.inl ⟨fs,.inr ⟨[(k,rk),(j,ar)],_,_,[j],h,fun id o hh=>key (id,o) (fU hh),?_,?_⟩⟩)
 ·rintro r σ' ⟨rfl,rfl⟩ id hid
  simp only [ae] at hid ⊢
  by_cases hk:k=id
  ·subst hk;exact .inl ⟨hs,by simp⟩
  ·rw [ah hk] at hid
   by_cases hq:j=id
   ·subst hq;exact .inr ⟨by simp,hj,.inl (by simp [hk])⟩
   ·rw [ah hq] at hid;cases hid
 ·rintro r σ' ⟨rfl,rfl⟩
  refine ⟨⟨o6 j (frzs fs s).env,(k,rk') :: (j,ar') :: o7 j (frzs fs s).heap⟩,fun q=>by simp only [i8,He],fun q=>?_,hK⟩
  simp only [Ko,ae]
  by_cases hk:k=q
  ·subst hk;simp
  ·simp only [ah hk]
   by_cases hq:j=q
   ·subst hq;simp
   ·simp only [ah hq,eX,Option.isSome_none,iD,bc]
    congr 1
    funext o'
    exact (Hd j o').symm
end
theorem FN.trans {s s' s'':St} {l l' l'':List AV} (h:FN s l s' l') (h':FN s' l' s'' l''):FN s l s'' l'':=fun c a w bl vs h1 h2=>by
 obtain ⟨bl',h3,h4⟩:=h c a w bl vs h1 h2
 exact h' c a w bl' vs h3 h4
theorem FN.frzs (fs:List Nat) (s:St) (l:List AV):FN s l (Mw.frzs fs s) (l.map (wH fs s)):=fun c a w bl vs h1 h2=>by
 obtain ⟨h3,h4⟩:=aK.frzs fs s h1
 exact ⟨bl,h3,h2.mapRight fun v x hv=>h4 v x hv⟩
def nla (x y:AV):Prop:=x=y∨(x = .nl∧∃st,y = .sl st [])∨∃l m,x = .agg l∧y = .agg m∧nlr l m
theorem N2 {bl:Nat→Option Nat} {M:Nat→Prop} {w:World}:∀{vs:List Value} {l m:List AV},nlr l m→aS (cg bl M w) vs l→aS (cg bl M w) vs m
 | [],[],[],_,_=>trivial
 | v :: vs,x :: l,y :: m,h,hr=>by
  refine ⟨?_,N2 h.2 hr.2⟩
  rcases h.1 with rfl | ⟨rfl,st,rfl⟩
  ·exact hr.1
  ·exact IRel.nl_sl (show IRel M w v .nl from hr.1) st
 | [],[],_ :: _,h,_=>h.elim
 | [],_ :: _,_,_,hr=>hr.elim
 | _ :: _,[],_,_,hr=>hr.elim
 | _ :: _,_ :: _,[],h,_=>h.elim
theorem X9 {bl:Nat→Option Nat} {M:Nat→Prop} {w:World} {v:Value} {x y:AV} (h:nla x y) (hr:bg bl M w v x):bg bl M w v y:=by
 rcases h with rfl | ⟨rfl,st,rfl⟩ | ⟨l,m,rfl,rfl,h⟩
 ·exact hr
 ·exact IRel.nl_sl (show IRel M w v .nl from hr) st
 ·obtain ⟨cs,h1,h2⟩:=hr
  exact ⟨cs,h1,N2 h h2⟩
theorem KA {bl:Nat→Option Nat} {M:Nat→Prop} {w:World}:∀{vs:List Value} {l m:List AV},aS nla l m→aS (bg bl M w) vs l→aS (bg bl M w) vs m
 | [],[],[],_,_=>trivial
 | v :: vs,x :: l,y :: m,h,hr=>⟨X9 h.1 hr.1,KA h.2 hr.2⟩
 | [],[],_ :: _,h,_=>h.elim
 | [],_ :: _,_,_,hr=>hr.elim
 | _ :: _,[],_,_,hr=>hr.elim
 | _ :: _,_ :: _,[],h,_=>h.elim
theorem FN.nla {s:St} {l m:List AV} (h:aS Mw.nla l m):FN s l s m:=fun c a w bl vs h1 h2=>⟨bl,h1,KA h h2⟩
section
variable {P:Program} [bJ P]
theorem ik {f:FuncId} {args args':List AV} {d:Option Nat} {s s':St} {K:St→Prop} (hw:FN s args s' args') (h:cT P f args' d s' K):cT P f args d s K:=by
 rcases h with h | ⟨fs,h⟩ | ⟨s'',args'',hw',h⟩
 ·exact .inr (.inr ⟨s',args',hw,h⟩)
 ·exact .inr (.inr ⟨_,_,hw.trans (FN.frzs fs s' args'),h⟩)
 ·exact .inr (.inr ⟨s'',args'',hw.trans hw',h⟩)
theorem HL {f:FuncId} {args:List AV} (args':List AV) {d:Option Nat} {s:St} {K:St→Prop} (hw:aS nla args args') (h:cT P f args' d s K):cT P f args d s K:=ik (FN.nla hw) h
end
theorem Nj {l:List oG} {s:St} {r:AV} {k:Nat} {ob:ak} {e:IX} (he:∀j,e≠.ext j) (h1:sS l s=some r) (h2:ae s.heap k=some ob) (h3:Ng r [(k,ob)]=true):nG l (fun r' σ'=>r'=r∧σ'=[(k,ob)]) e s:=by
 refine ⟨he,s,fun _ _ _ h=>h,[],r,[(k,ob)],h1,fun i o hi=>?_,oJ h3,rfl,rfl⟩
 simp only [ae] at hi
 split at hi
 ·rename_i hki;subst hki;cases hi;exact h2
 ·cases hi
theorem ay {x y:Int} (h:¬x=y):(x==y)=false:=by simpa using h
theorem dV {x y:Int} (h:x=y):(x==y)=true:=by simpa using h
theorem bv {x y:Int} (h:¬x=y):(x != y)=true:=by simpa using h
theorem aD {x y:Int} (h:x=y):(x != y)=false:=by simpa using h
theorem aK.nlm {c:vf} {bl:Nat→Option Nat} {a:Act} {w:World} {s:St} (hs:aK c bl (get s.env) (ae s.heap) a w) (i:Nat) {t:TypeId} {st:Nat} {r r':List AV} (hi:ae s.heap i=some ⟨t,st,[r],true⟩) (hr:Mw.nlm r r') :
  aK c bl (get s.env) (ae ((i,⟨t,st,[r'],true⟩) :: s.heap)) a w∧∀b,bH bl c.MF (ae ((i,⟨t,st,[r'],true⟩) :: s.heap)) b↔bH bl c.MF (ae s.heap) b:=by
 have hm:∀b,bH bl c.MF (ae ((i,⟨t,st,[r'],true⟩) :: s.heap)) b↔bH bl c.MF (ae s.heap) b:=bH.congr fun j=>by
  simp only [ae]
  split
  ·rename_i h;subst h;rw [hi];rfl
  ·rfl
 have ht:=Tr.of_iff (w:=w) fun b=>(hm b)
 refine ⟨⟨hs.defers,hs.size,fun j=>(hs.env j).tr ht (fun _ _=>rfl),⟨fun j o hj=>?_,fun j j' o o' b h1 h2=>?_⟩,hs.step,fun j o b h1=>?_,hs.stab,hs.mf⟩,hm⟩
 ·simp only [ae] at hj
  split at hj
  ·rename_i hij
   subst hij
   cases hj
   rcases hs.heap.1 i _ hi with hn | ⟨b,g1,⟨gk,c1,fr,g2,g3,g4,g5,g6,g7⟩ | hsp⟩
   ·cases hn.2.1
   rotate_left
   ·cases hsp.isRec
   ·refine .inr ⟨b,g1,.inl ⟨gk,c1,fr,g2,g3,g4,fun k q hq=>?_,by simpa using g6,fun k q u x hu hx=>?_⟩⟩
    ·cases k with
     | zero=>simp at hq;subst hq;rw [IJ hr];exact g5 0 r rfl
     | succ k=>simp at hq
    ·cases k with
     | succ k=>simp at hu
     | zero =>
      simp at hu
      subst hu
      obtain ⟨x0,h1,h2⟩:=II hr hx
      obtain ⟨v,hv1,hv2⟩:=g7 0 q r x0 rfl h1
      refine ⟨v,hv1,?_⟩
      have hv3:cg bl (bH bl c.MF (ae s.heap)) w v x0:=hv2
      rcases h2 with h2 | ⟨h2,⟨st',h3⟩ | ⟨id,st',h3⟩⟩
      ·subst h2;exact hv3.tr ht (fun _ _=>rfl)
      ·subst h2 h3
       have:IRel (bH bl c.MF (ae s.heap)) w v .nl:=hv3
       exact (IRel.toC (bl:=bl) (IRel.nl_sl this st')).tr ht (fun _ _=>rfl)
      ·subst h2 h3
       have:IRel (bH bl c.MF (ae s.heap)) w v .nl:=hv3
       cases this
       exact .inl ⟨rfl,rfl,rfl⟩
  ·rcases hs.heap.1 j o hj with hn | ⟨b,g1,⟨gk,c1,fr,g2,g3,g4,g5,g6,g7⟩ | hsp⟩
   ·exact .inl hn
   rotate_left
   ·exact .inr ⟨b,g1,.inr hsp⟩
   ·refine .inr ⟨b,g1,.inl ⟨gk,c1,fr,g2,g3,g4,g5,g6,fun k q u x hu hx=>?_⟩⟩
    obtain ⟨v,hv1,hv2⟩:=g7 k q u x hu hx
    refine ⟨v,hv1,?_⟩
    cases hrec:o.isRec<;>simp only [hrec,B1] at hv2 ⊢
    ·exact hv2.tr ht.keep
    ·exact hv2.tr ht (fun _ _=>rfl)
 ·have key:∀{j:Nat} {o:ak},ae ((i,⟨t,st,[r'],true⟩) :: s.heap) j=some o→∃o',ae s.heap j=some o':=fun {j o} hj=>by
   simp only [ae] at hj
   split at hj
   ·rename_i hij;subst hij;exact ⟨_,hi⟩
   ·exact ⟨_,hj⟩
  obtain ⟨p1,q1⟩:=key h1
  obtain ⟨p2,q2⟩:=key h2
  exact hs.heap.2 j j' p1 p2 b q1 q2
 ·simp only [ae] at h1
  split at h1
  ·rename_i hij;subst hij;exact hs.own i _ b hi
  ·exact hs.own j o b h1
theorem VRels.tr {bl bl':Nat→Option Nat} {M M':Nat→Prop} {w:World} (ht:Tr M M' w w):∀{vs:List Value} {l:List AV},aS (bg bl M w) vs l→(∀x∈l,∀id,mV id x=true→bl' id=bl id)→aS (bg bl' M' w) vs l
 | [],[],_,_=>trivial
 | _ :: _,_ :: _,h,hb=>⟨h.1.tr ht (hb _ (by simp)),VRels.tr ht h.2 fun x hx=>hb x (by simp [hx])⟩
 | [],_ :: _,h,_=>h.elim
 | _ :: _,[],h,_=>h.elim
theorem FN.nlm (s:St) (l:List AV) (i:Nat) {t:TypeId} {st:Nat} {r r':List AV} (hi:ae s.heap i=some ⟨t,st,[r],true⟩) (hr:Mw.nlm r r'):FN s l ⟨s.env,(i,⟨t,st,[r'],true⟩) :: s.heap⟩ l:=fun c a w bl vs h1 h2=>by
 obtain ⟨h3,hm⟩:=h1.nlm i hi hr
 exact ⟨bl,h3,VRels.tr (Tr.of_iff hm) h2 fun _ _ _ _=>rfl⟩
theorem FN.new0 (s:St) (l:List AV) (i st:Nat) (t:TypeId) (hid:i<1000∨2000≤i) (hl:∀x∈l,i∉aH x):FN s l ⟨(s.kill i).env,(i,⟨t,st,[],false⟩) :: (s.kill i).heap⟩ l:=fun c a w bl vs hs h2=>by
 have hk:=hs.kill i
 have hu:=qm i (get s.env) (ae s.heap)
 have hn:=hk.new0 (i:=i) (o:=⟨t,st,[],false⟩) (by simp) hu hid rfl rfl
 have e1:∀k,get (s.kill i).env k=jb i (get s.env k):=fun k=>by simp only [St.kill,i8]
 have e2:∀j,ae ((i,⟨t,st,[],false⟩) :: (s.kill i).heap) j=ei (fun j=>if j=i then none else (ae s.heap j).map (ey i)) i (some ⟨t,st,[],false⟩) j:=fun j=>by
  simp only [ae,ei,St.kill,eX,dT]
  by_cases h:i=j
  ·subst h;simp
  ·have h':¬j=i:=fun e=>h e.symm
   simp [h,h']
 refine ⟨ei bl i none,hn.congr e1 e2,?_⟩
 have hM:∀b,bH (ei bl i none) c.MF (ae ((i,⟨t,st,[],false⟩) :: (s.kill i).heap)) b→bH bl c.MF (ae s.heap) b:=fun b hb=>by
  rcases hb with hb | ⟨j,o,h3,h4⟩
  ·exact .inl hb
  ·rw [e2] at h3
   by_cases hj:j=i
   ·subst hj;simp [ei] at h4
   ·rw [cA _ _ hj] at h4
    rw [cA _ _ hj] at h3
    simp only [hj,bc,dR] at h3
    obtain ⟨o',h5,_⟩:=h3
    exact .inr ⟨j,o',h5,h4⟩
 have ht:Tr (bH bl c.MF (ae s.heap)) (bH (ei bl i none) c.MF (ae ((i,⟨t,st,[],false⟩) :: (s.kill i).heap))) w w:=⟨fun b hb _=>⟨fun h=>hb (hM b h),rfl⟩,fun b cc t fr h=>⟨cc,fr,h,rfl⟩⟩
 exact VRels.tr ht h2 fun x hx id hid=>cA _ _ fun e=>hl x hx (by rw [← e];exact uc hid)
attribute [go_sem] Nat.zero_add fo decide_eq_false_iff_not beq_self_eq_true Nat.lt_add_one Nat.reduceEqDiff Nat.reduceLT reduceCtorEq Nat.reduceAdd Nat.reduceLeDiff Nat.reduceBEq Nat.reduceBNe Int.reduceNeg Int.reduceToNat Int.reduceBEq Int.reduceBNe bne_self_eq_false iD
attribute [go_sem ↓] reduceIte
def sb (id:Nat):Prop:=1000≤id∧id<2000
def NF (n:Int):Prop:=-9223372036854775808≤n∧n<9223372036854775808
section
abbrev No:Nat→Prop:=fun _=>False
def Jy (T:Nat→Prop) (N:Nat) (W W':World):Prop:=W.heap.size≤W'.heap.size∧(∀(b:Nat) (c:Array Value) (t:TypeId) (fr:Nat×Nat),N≤b→W.heap[b]? = some (.cells c t fr)→W'.heap[b]? = some (.cells c t fr))∧∀b,T b→W'.heap[b]? = W.heap[b]?
section
variable {T:Nat→Prop}
theorem Jy.refl (N:Nat) (W:World):Jy T N W W:=⟨bt _,fun _ _ _ _ _ h=>h,fun _ _=>rfl⟩
theorem Jy.trans {N:Nat} {A B C:World} (h:Jy T N A B) (k:Jy T N B C):Jy T N A C:=⟨gz h.1 k.1,fun b c t fr hb hc=>k.2.1 b c t fr hb (h.2.1 b c t fr hb hc),fun b hb=>(k.2.2 b hb).trans (h.2.2 b hb)⟩
theorem Jy.mono {N N':Nat} {A B:World} (h:Jy T N A B) (hn:N≤N'):Jy T N' A B:=⟨h.1,fun b c t fr hb=>h.2.1 b c t fr (gz hn hb),h.2.2⟩
theorem Jy.putObj (N:Nat) (W:World) (l:Nat) (o o':Obj) (hl:W.heap[l]? = some o) (ho:o.isCells=false) (hT:∀b,T b→b<l):Jy T N W (W.putObj l o'):=by
 have hlt:=(wn.1 hl).1
 refine ⟨(grownBy_putObj' W l o').size,fun b c t fr _ hb=>?_,fun b hb=>World.putObj_heap_other (by have:=hT b hb;omega)⟩
 by_cases e:b=l
 ·subst e
  rw [hl] at hb
  cases hb
  simp [Obj.isCells] at ho
 ·rw [World.putObj_heap_other (by omega)];exact hb
end
theorem qt.ofAlloc (w:World) (o:Obj):qt No w (w.alloc o) where
 size:=by simp
 keep b hb _:=by rw [World.alloc];simp [Array.getElem?_push,Nat.ne_of_lt hb]
 shape b c t fr hb:=⟨c,fr,by
  have hlt:=bQ hb
  rw [World.alloc];simp [Array.getElem?_push,Nat.ne_of_lt hlt,hb],rfl⟩
 os:=rfl
 out:=rfl
theorem qt.one {A B C:World} (h:qt No A B) (k:qt No B C):qt No A C:=h.trans k fun _ _ h=>h.elim
def aeV {α:Type} (n:Nat) (P:Program) [bJ P] (g:Nat) (lb:Array Value) (encs:α→Array Value) (E:List α) (w:World):Prop :=
 ∀(l:Nat) (J Jx:List α→World→Prop) (W:World),(bJ.T P).H W→qt No w W→(∀s A B,J s A→qt No A B→J s B)→(∀s A B,Jx s A→qt No A B→Jx s B) →
  (∀od x W1,J od W1→od++[x] <+: E→YieldAt Fence.wide (n - 1) P l (encs x) W1 fun e W' =>
   (e = .returned (.bool true)∧J (od++[x]) W'∧Jy (bJ.T P).B W.heap.size W1 W')∨(e = .returned (.bool false)∧Jx (od++[x]) W')) →
  J [] W →
  CallsIn Fence.wide n P g (#[.func (.yield l) #[] #[]]++lb) W fun e W'=>(∃v,e = .returned v)∧(J E W'∨(∃od,od <+: E∧Jx od W'))
variable {n:Nat} {P:Program} [bJ P]
theorem Qo {α:Type} {g:Operand} {ps:Array Tmp} {assign body:Code} {Q:Exit→Act→World→Prop} {a:Act} {w:World}
  (h1:1≤n) (hH:(bJ.T P).H w) {gf:Nat} {lb:Array Value} (hg:a.eval g = .func (.func gf) #[] lb) (eg:∀args w,(callFunc gf args).run P w = .ok (.enter gf args) w)
  {encs:α→Array Value} {E:List α} {w0:World} (hseq:aeV (n - 1) P gf lb encs E w0) (hb0:qt No w0 w) (hps:∀x,(encs x).size=ps.size)
  (I:List α→World→Prop) (Ix:Code→List α→World→Prop) (hI:∀s A B,I s A→qt No A B→I s B) (hIx:∀c s A B,Ix c s A→qt No A B→Ix c s B)
  (hIp:∀s W l o o',I s W→w.heap.size≤l→W.heap[l]? = some o→o.isCells=false→I s (W.putObj l o')) (hIxp:∀c s W l o o',Ix c s W→w.heap.size≤l→W.heap[l]? = some o→o.isCells=false→Ix c s (W.putObj l o'))
  (h0:I [] w) (a₁:α→Act)
  (hassign:∀(l:Nat) (x:α) (W:World) (K:Act→World→Prop),K (a₁ x) W →
   assign.wpIn (Fence.wide.inRound l) (n - 1 - 1) P (Exit.then K (fun _ _ _=>False)) { tmps:=(ps.zip (encs x)).foldl (fun t (p,v)=>t.setIfInBounds p v) a.tmps,defers:=[] } W)
  (hbody:∀(l:Nat) (od:List α) (x:α) (W:World),I od W→od++[x] <+: E→body.wpIn (Fence.wide.inRound l) (n - 1 - 1) P (ownPostK (Jy (bJ.T P).B w.heap.size) I Ix (od++[x]) W) (a₁ x) W)
  (hdone:∀(D:Nat) (W:World),w.heap.size≤D→I E W→W.heap[D]? = some (.deferred (some []))→Q .normal { a with defers:={ target:=.collected D,args:=#[] } :: a.defers } W)
  (hstop:∀(D:Nat) (c:Code) (od:List α) (W:World),w.heap.size≤D→od <+: E→Ix c od W→W.heap[D]? = some (.deferred (some []))→c.wpIn Fence.wide n P Q { a with defers:={ target:=.collected D,args:=#[] } :: a.defers } W) :
  (Code.rangeFunc g ps assign body).wpIn Fence.wide n P Q a w:=by
 refine wpIn_rangeFunc ?_
 intro fn hfn
 rw [show Fence.wide.round=none from rfl]
 obtain ⟨rec,hrec⟩:∃rec:LoopState→Option Code→Loop,rec=fun st pe=>{ state:=st,pending:=pe,fn,tmps:=a.tmps,params:=ps,assign,body,defers:=w.heap.size }:=⟨_,rfl⟩
 obtain ⟨W1,hW1⟩:∃W1,(w.alloc (.deferred (some []))).alloc (.loop (rec .ready none))=W1:=⟨_,rfl⟩
 have hL1:W1.heap[w.heap.size+1]? = some (.loop (rec .ready none)):=by
  rw [← hW1];have:=World.alloc_heap_new (w.alloc (.deferred (some []))) (.loop (rec .ready none));rwa [World.size_alloc] at this
 have hK1:W1.heap[w.heap.size]? = some (.deferred (some [])):=by
  rw [← hW1];exact (Below.heap_alloc _ _ _ (by simp)).trans (World.alloc_heap_new w _)
 have hs1:qt No w W1:=by rw [← hW1];exact (qt.ofAlloc _ _).one (qt.ofAlloc _ _)
 have hlow:∀b,(bJ.T P).B b→b<w.heap.size+1:=fun b hb=>Nat.lt_succ_of_lt ((bJ.T P).low _ hH b hb)
 have hz1:W1.heap.size=w.heap.size+2:=by rw [← hW1];simp
 refine ⟨w.heap.size+1,[{ target:=.collected w.heap.size,args:=#[] }],W1,{ target:=.fn (.func gf) lb,args:=#[.func (.yield (w.heap.size+1)) #[] #[]] },W1,gf,
  #[.func (.yield (w.heap.size+1)) #[] #[]]++lb,W1,?_,?_,?_,?_,fun _=>h1,?_⟩
 ·rw [← hW1,hrec];exact run_enterLoop_outer _ _ _ _ _
 ·simp only [resolve,hg]
  simp [go_sem]
 ·intro f' hf';trivial
 ·simp [invoke,go_sem,eg]
 ·have kp:∀{l:Nat} {o:Obj} {A B:World},qt No A B→A.heap[l]? = some o→B.heap[l]? = some o:=fun {l o A B} hs h=>by
   rw [hs.keep l (wn.1 h).1 (fun h=>h)];exact h
  refine (hseq (w.heap.size+1)
   (fun od W=>I od W∧W.heap[w.heap.size+1]? = some (.loop (rec .ready none))∧W.heap[w.heap.size]? = some (.deferred (some [])))
   (fun od W=>∃c,Ix c od W∧W.heap[w.heap.size+1]? = some (.loop (rec .done (some c)))∧W.heap[w.heap.size]? = some (.deferred (some [])))
   W1 ((bJ.T P).stay _ _ hH fun b hb=>hs1.keep b ((bJ.T P).low _ hH b hb) (fun h=>h)) (hb0.one hs1)
   (fun s A B hs hg'=>⟨hI s A B hs.1 hg',kp hg' hs.2.1,kp hg' hs.2.2⟩)
   (fun s A B hs hg'=>by
    obtain ⟨c,hc,hl,hk⟩:=hs
    exact ⟨c,hIx c s A B hc hg',kp hg' hl,kp hg' hk⟩)
   ?_ ⟨hI _ _ _ h0 hs1,hL1,hK1⟩).mono ?_
  ·
   rintro od x W ⟨hi,hl,hk⟩ hlen
   have hlt:w.heap.size+1<W.heap.size:=(wn.1 hl).1
   have hy:=run_yield (P:=P) (args:=encs x) hl (by rw [hrec];exact hps x)
   rw [hrec] at hy
   refine ⟨fn,_,assign,body,hy,roundIn_of_wpIn hfn (hassign _ x W _ ⟨_,run_beginRound hl (by rw [hrec]),?_⟩)⟩
   have hl2:(W.putObj (w.heap.size+1) (.loop { rec .ready none with state:=.busy })).heap[w.heap.size+1]? = some (.loop { rec .ready none with state:=.busy }):=World.putObj_heap_same hlt
   have hk2:(W.putObj (w.heap.size+1) (.loop { rec .ready none with state:=.busy })).heap[w.heap.size]? = some (.deferred (some [])):=(World.putObj_heap_other (by omega)).trans hk
   have hw2:Jy (bJ.T P).B w.heap.size W (W.putObj (w.heap.size+1) (.loop { rec .ready none with state:=.busy })):=Jy.putObj _ _ _ _ _ hl rfl hlow
   refine wpIn_mono (hbody _ od x _ (hIp _ _ _ _ _ hi (by omega) hl rfl) hlen) ?_
   have fin:∀(jump:Option Code) (W3:World),KeepsOthers (W.putObj (w.heap.size+1) (.loop { rec .ready none with state:=.busy })) W3 →
     (Instr.endRound (w.heap.size+1) jump).run P W3 = .ok (.bool jump.isNone) (W3.putObj (w.heap.size+1) (.loop (rec (if jump.isNone then .ready else .done) jump))) ∧
     W3.heap[w.heap.size+1]? = some (.loop { rec .ready none with state:=.busy }) ∧
     (W3.putObj (w.heap.size+1) (.loop (rec (if jump.isNone then .ready else .done) jump))).heap[w.heap.size+1]? = some (.loop (rec (if jump.isNone then .ready else .done) jump)) ∧
     (W3.putObj (w.heap.size+1) (.loop (rec (if jump.isNone then .ready else .done) jump))).heap[w.heap.size]? = some (.deferred (some [])):=fun jump W3 hk3=>by
    have hl3:=hk3.same _ _ hl2 rfl
    have:=run_endRound (P:=P) jump hl3
    rw [hrec] at this ⊢
    exact ⟨this,by rw [hrec] at hl3;exact hl3,World.putObj_heap_same (wn.1 hl3).1,(World.putObj_heap_other (by omega)).trans (hk3.same _ _ hk2 rfl)⟩
   rintro e a3 W3 hp
   cases e with
   | normal =>
    obtain ⟨hk3,hkp3,hi3⟩:=hp
    obtain ⟨hr,hl3,hl4,hk4⟩:=fin none W3 hk3
    exact ⟨_,_,hr,.inl ⟨rfl,⟨hIp _ _ _ _ _ hi3 (by omega) hl3 rfl,hl4,hk4⟩,((hw2.trans hkp3).trans (Jy.putObj _ _ _ _ _ hl3 rfl hlow)).mono (by omega)⟩⟩
   | ret =>
    obtain ⟨hk3,hi3⟩:=hp
    obtain ⟨hr,hl3,hl4,hk4⟩:=fin (some .ret) W3 hk3
    exact ⟨_,_,hr,.inr ⟨rfl,.ret,hIxp _ _ _ _ _ _ hi3 (by omega) hl3 rfl,hl4,hk4⟩⟩
   | exit id =>
    obtain ⟨hk3,hi3⟩:=hp
    obtain ⟨hr,hl3,hl4,hk4⟩:=fin (some (.exit id)) W3 hk3
    exact ⟨_,_,hr,.inr ⟨rfl,.exit id,hIxp _ _ _ _ _ _ hi3 (by omega) hl3 rfl,hl4,hk4⟩⟩
   | goto t =>
    obtain ⟨hk3,hi3⟩:=hp
    obtain ⟨hr,hl3,hl4,hk4⟩:=fin (some (.goto t)) W3 hk3
    exact ⟨_,_,hr,.inr ⟨rfl,.goto t,hIxp _ _ _ _ _ _ hi3 (by omega) hl3 rfl,hl4,hk4⟩⟩
   | panic ch=>exact hp.elim
   | outgrown=>exact hp.elim
  ·
   rintro e W2 ⟨⟨v,rfl⟩,(⟨hi,hl,hk⟩ | ⟨od,hSp,c,hi,hl,hk⟩)⟩
   ·exact ⟨none,_,by have:=run_endLoop (P:=P) hl (by rw [hrec];simp);rw [hrec] at this;exact this,hdone _ _ (bt _) (hIp _ _ _ _ _ hi (by omega) hl rfl) ((World.putObj_heap_other (by omega)).trans hk)⟩
   ·exact ⟨some c,_,by have:=run_endLoop (P:=P) hl (by rw [hrec];simp);rw [hrec] at this;exact this,hstop _ c od _ (bt _) hSp (hIxp _ _ _ _ _ _ hi (by omega) hl rfl) ((World.putObj_heap_other (by omega)).trans hk)⟩
def Uf (P:Program) [bJ P] (w:World):Nat→Prop:=fun b=>b<w.heap.size∧¬(bJ.T P).B b
theorem ao.run {f:FuncId} {args:List AV} {r:AV} (h:ao P f args r) (w:World) (hH:(bJ.T P).H w) {cargs:List Value} (ha:aS (bg (fun _=>none) (Uf P w) w) cargs args) :
  Calls P f cargs.toArray w fun e w'=>∃v,e = .returned v∧bg (fun _=>none) (Uf P w) w' v r∧qt No w w':=by
 have hm:∀(bl:Nat→Option Nat) b,bH bl (Uf P w) (ae []) b↔Uf P w b:=fun bl b=>oc _ b
 refine (h (fun _=>none) (Uf P w) w cargs hH (fun b hb hm'=>((hm _ b).1 hm').2 hb) ⟨fun id o hi=>by simp [ae] at hi,fun id id' o o' b hi=>by simp [ae] at hi⟩ (fun b hb=>hb.1)
  (ha.mono fun _ _ _ hr=>hr.tr (Tr.of_iff (fun b=>hm _ b)) (fun _ _=>rfl))).mono fun e w' hh=>?_
 obtain ⟨v,r',σ',bl',rfl,⟨rfl,rfl⟩,hcl,_,hv,hst,_,_⟩:=hh
 refine ⟨v,rfl,hv.tr (Tr.of_iff (fun b=>(hm _ b).symm)) (fun id hid=>?_),⟨hst.size,fun b hb _=>hst.keep b hb (fun hx=>by obtain ⟨id,o,hi,_⟩:=hx;simp [ae] at hi),hst.shape,hst.os,hst.out⟩⟩
 have:=hcl.1 id (uc hid)
 simp [ae] at this
theorem ao.of {f:FuncId} {args:List AV} {r:AV} (h:∀(w:World) (bl:Nat→Option Nat) (M:Nat→Prop) (cargs:List Value),(bJ.T P).H w→(∀b,M b→b<w.heap.size)→aS (bg bl M w) cargs args →
   Calls P f cargs.toArray w fun e w'=>∃v,e = .returned v∧qt No w w'∧bg (fun _=>none) M w' v r) (hid:aH r=[]):ao P f args r:=by
 intro bl MF w cargs hH _ _ hMF ha
 have hm:∀(bl:Nat→Option Nat) b,bH bl MF (ae []) b↔MF b:=fun bl b=>oc _ b
 refine (h w bl MF cargs hH hMF (ha.mono fun _ _ _ hr=>hr.tr (Tr.of_iff (fun b=>(hm _ b).symm)) (fun _ _=>rfl))).mono fun e w' hh=>?_
 obtain ⟨v,rfl,hst,hv⟩:=hh
 refine ⟨v,r,[],bl,rfl,⟨rfl,rfl⟩,(⟨fun i hi=>(by rw [hid] at hi;cases hi),fun p hp=>absurd hp List.not_mem_nil⟩:tj r []),⟨fun id o hi=>by simp [ae] at hi,fun id id' o o' b hi=>by simp [ae] at hi⟩,?_,?_,fun id o b hi=>by simp [ae] at hi,fun _ h=>h.elim⟩
 ·refine hv.tr (Tr.of_iff (fun b=>hm _ b)) (fun id hi=>?_)
  have:=uc hi
  rw [hid] at this
  cases this
 ·exact ⟨hst.size,fun b hb _=>hst.keep b hb (fun h=>h),hst.shape,hst.os,hst.out⟩
end
section
variable {P:Program} [bJ P] {X:Type}
theorem aX.at_e {f:FuncId} {st:Nat} {rest:List AV} {ob:ak} {ob':X→ak} {Sb:Nat→Prop} {r:X→AV} {Q:X→Prop} (h:aX P f (.mp 1000 st 0 0 :: rest) [(1000,ob)] Sb (fun r' σ'=>∃x,Q x∧r'=r x∧σ'=[(1000,ob' x)]))
  (hr:∀x,aH (r x)=[]) (hrest:∀x∈rest,aH x=[]) (ho:dA ob=[]) (ho':∀x,dA (ob' x)=[]) (j:Nat) :
  aX P f (.mp j st 0 0 :: rest) [(j,ob)] (fun id=>Sb (jk 1000 j id)) (fun r' σ'=>∃x,Q x∧r'=r x∧σ'=[(j,ob' x)]):=by
 have e1:jk 1000 j 1000=j:=by simp [jk]
 have e2:jk 1000 j j=1000:=by unfold jk;split<;>simp_all
 refine (h.ren (args2:=.mp j st 0 0 :: rest) (σ2:=[(j,ob)]) (jk 1000 j) (jk 1000 j) (lu _ _) (lu _ _) ?_ ?_).mono (fun _ h=>h) ?_
 ·simp only [ej,o_ _ rest hrest,n9,xF,qS,r5,e2]
 ·simp only [je,e2,iz _ ob ho]
 ·rintro r' σ' ⟨r0,σ0,⟨x,hx,rfl,rfl⟩,rfl,rfl⟩
  exact ⟨x,hx,qU _ _ (hr x),by simp only [je,e1,iz _ _ (ho' x)]⟩
theorem xY {f:FuncId} {st:Nat} {rest:List AV} {ob:ak} {ob':X→ak} {Sb:Nat→Prop} {r:X→AV} {Q:X→Prop} {j:Nat} {d:Option Nat} {s:St} {K:St→Prop}
  (h:aX P f (.mp 1000 st 0 0 :: rest) [(1000,ob)] Sb (fun r' σ'=>∃x,Q x∧r'=r x∧σ'=[(1000,ob' x)]))
  (hs:Sb 1000) (hr:∀x,aH (r x)=[]) (hrest:∀x∈rest,aH x=[]) (ho:dA ob=[]) (ho':∀x,dA (ob' x)=[]) (hk:ae s.heap j=some ob)
  (hK:∀x,Q x→K ((St.mk s.env ((j,ob' x) :: s.heap)).put d (r x))):cT P f (.mp j st 0 0 :: rest) d s K:=by
 have h':=h.at_e hr hrest ho ho' j
 refine .inl (.inr ⟨[(j,ob)],_,_,[],h',fun id o hh=>?_,?_,?_⟩)
 ·simp only [ae] at hh
  split at hh
  ·rename_i e;subst e;cases hh;exact hk
  ·cases hh
 ·rintro r' σ' ⟨x,hx,rfl,rfl⟩ id hid
  simp only [ae] at hid ⊢
  split at hid
  ·rename_i e;subst e;exact .inl ⟨QE j hs,by simp⟩
  ·cases hid
 ·rintro r' σ' ⟨x,hx,rfl,rfl⟩
  refine ⟨⟨dO [] s.env,(j,ob' x) :: dP [] s.heap⟩,fun k=>qM k [] s.env,fun i=>?_,hK x hx⟩
  simp only [ae,Ko]
  by_cases e:j=i
  ·subst e;simp
  ·simp only [ah e];rw [ah (by simp),oS]
theorem WA {f:FuncId} {st st1:Nat} {ob rc:ak} {ob' rc':X→ak} {Sb:Nat→Prop} {r:X→AV} {Q:X→Prop} {j:Nat} {d:Option Nat} {s:St} {K:St→Prop}
  (h:aX P f [.mp 1000 st 0 0,.mp 1001 st1 0 0] [(1000,ob),(1001,rc)] Sb (fun r' σ'=>∃x,Q x∧r'=r x∧σ'=[(1000,ob' x),(1001,rc' x)]))
  (hs:Sb 1000) (hs1:Sb 1001) (hj:j≠1000) (hr:∀x,aH (r x)=[]) (ho:dA ob=[]) (hc:dA rc=[]) (ho':∀x,dA (ob' x)=[]) (hc':∀x,dA (rc' x)=[])
  (hk:ae s.heap 1000=some ob) (hk1:ae s.heap j=some rc)
  (hK:∀x,Q x→K ((St.mk s.env ((1000,ob' x) :: (j,rc' x) :: s.heap)).put d (r x))):cT P f [.mp 1000 st 0 0,.mp j st1 0 0] d s K:=by
 have e0:jk 1001 j 1000=1000:=by unfold jk;simp [Ne.symm hj]
 have e1:jk 1001 j 1001=j:=by simp [jk]
 have e2:jk 1001 j j=1001:=by unfold jk;split<;>simp_all
 have h':aX P f [.mp 1000 st 0 0,.mp j st1 0 0] [(1000,ob),(j,rc)] (fun id=>Sb (jk 1001 j id)) (fun r' σ'=>∃x,Q x∧r'=r x∧σ'=[(1000,ob' x),(j,rc' x)]):=by
  refine (h.ren (args2:=[.mp 1000 st 0 0,.mp j st1 0 0]) (σ2:=[(1000,ob),(j,rc)]) (jk 1001 j) (jk 1001 j) (lu _ _) (lu _ _) ?_ ?_).mono (fun _ h=>h) ?_
  ·simp only [ej,List.map_nil,n9,xF,qS,r5,e0,e2]
  ·simp only [je,e0,e2,iz _ ob ho,iz _ rc hc]
  ·rintro r' σ' ⟨r0,σ0,⟨x,hx,rfl,rfl⟩,rfl,rfl⟩
   exact ⟨x,hx,qU _ _ (hr x),by simp only [je,e0,e1,iz _ _ (ho' x),iz _ _ (hc' x)]⟩
 refine .inl (.inr ⟨[(1000,ob),(j,rc)],_,_,[],h',fun id o hh=>?_,?_,?_⟩)
 ·simp only [ae] at hh
  split at hh
  ·rename_i e;subst e;cases hh;exact hk
  ·split at hh
   ·rename_i e;subst e;cases hh;exact hk1
   ·cases hh
 ·rintro r' σ' ⟨x,hx,rfl,rfl⟩ id hid
  simp only [ae] at hid ⊢
  split at hid
  ·rename_i e;subst e;exact .inl ⟨by show Sb (jk 1001 j 1000);rw [e0];exact hs,by simp⟩
  ·split at hid
   ·rename_i e;subst e;exact .inl ⟨by show Sb (jk 1001 j j);rw [e2];exact hs1,by rw [ah (Ne.symm hj)];simp⟩
   ·cases hid
 ·rintro r' σ' ⟨x,hx,rfl,rfl⟩
  refine ⟨⟨dO [] s.env,(1000,ob' x) :: (j,rc' x) :: dP [] s.heap⟩,fun k=>qM k [] s.env,fun i=>?_,hK x hx⟩
  simp only [ae,Ko]
  by_cases e:1000=i
  ·subst e;simp
  ·by_cases e':j=i
   ·subst e';simp [Ne.symm hj]
   ·simp only [ah e,ah e'];rw [ah (by simp),oS]
end
inductive Nd:AV→AV→Prop where
 | rfl (x:AV):Nd x x
 | nl (st:Nat):Nd .nl (.sl st [])
 | sl (st:Nat) (rows rows':List (List AV)) (hl:rows.length=rows'.length) (hr:∀(i:Nat) (r r':List AV),rows[i]? = some r→rows'[i]? = some r'→r.length=r'.length)
   (hx:∀(i j:Nat) (r r':List AV) (x y:AV),rows[i]? = some r→rows'[i]? = some r'→r[j]? = some x→r'[j]? = some y→Nd x y):Nd (.sl st rows) (.sl st rows')
theorem IRel.nd {M:Nat→Prop} {w:World} {x y:AV} (h:Nd x y):∀{v:Value},IRel M w v x→IRel M w v y:=by
 induction h with
 | rfl x=>exact fun h=>h
 | nl st=>exact fun h=>IRel.nl_sl h st
 | sl st rows rows' hl hr hx ih =>
  intro v h
  cases h with
  | nls=>obtain rfl:rows'=[]:=sc (by simpa using hl.symm);exact .nls st
  | sl0 _ a cap=>obtain rfl:rows'=[]:=sc (by simpa using hl.symm);exact .sl0 st a cap
  | sl b off cap _ c t fr _ vs hb hM hle hrl hv hxx =>
   rw [hl]
   have get:∀{i:Nat} {r':List AV},rows'[i]? = some r'→∃r,rows[i]? = some r:=fun {i r'} h=>by
    have hi:i<rows'.length:=by
     rcases fX i rows'.length with q | q
     ·exact q
     ·rw [List.getElem?_eq_none q] at h;cases h
    exact ⟨rows[i]'(by omega),lg _⟩
   refine .sl b off cap st c t fr rows' vs hb hM (by omega) (fun i r' hi=>?_) (fun i j hi hj=>hv i j (by omega) hj) (fun i j r' y hi hj=>?_)
   ·obtain ⟨r,hr2⟩:=get hi
    rw [← hr i r r' hr2 hi]
    exact hrl i r hr2
   ·obtain ⟨r,hr2⟩:=get hi
    have hjl:j<r.length:=by
     rw [hr i r r' hr2 hi]
     rcases fX j r'.length with q | q
     ·exact q
     ·rw [List.getElem?_eq_none q] at hj;cases hj
    exact ih i j r r' _ y hr2 hi (lg hjl) hj (hxx i j r _ hr2 (lg hjl))
theorem cg.nd {bl:Nat→Option Nat} {M:Nat→Prop} {w:World} {v:Value} {x y:AV} (h:Nd x y) (hr:cg bl M w v x):cg bl M w v y:=by
 cases h with
 | rfl=>exact hr
 | nl st=>exact IRel.nd (.nl st) (show IRel M w v .nl from hr)
 | sl st rows rows' h1 h2 h3=>exact IRel.nd (.sl st rows rows' h1 h2 h3) (show IRel M w v (.sl st rows) from hr)
def nld (x y:AV):Prop:=Nd x y∨∃l m,x = .agg l∧y = .agg m∧aS Nd l m
theorem X_ {bl:Nat→Option Nat} {M:Nat→Prop} {w:World} {v:Value} {x y:AV} (h:nld x y) (hr:bg bl M w v x):bg bl M w v y:=by
 rcases h with h | ⟨l,m,rfl,rfl,h⟩
 ·cases h with
  | rfl=>exact hr
  | nl st=>exact IRel.nd (.nl st) (show IRel M w v .nl from hr)
  | sl st rows rows' h1 h2 h3=>exact IRel.nd (.sl st rows rows' h1 h2 h3) (show IRel M w v (.sl st rows) from hr)
 ·obtain ⟨cs,h1,h2⟩:=hr
  refine ⟨cs,h1,?_⟩
  clear h1
  induction cs generalizing l m with
  | nil=>match l,m,h,h2 with | [],[],_,_=>trivial
  | cons c cs ih=>match l,m,h,h2 with | a :: l,b :: m,h,h2=>exact ⟨cg.nd h.1 h2.1,ih l m h.2 h2.2⟩
theorem KB {bl:Nat→Option Nat} {M:Nat→Prop} {w:World}:∀{vs:List Value} {l m:List AV},aS nld l m→aS (bg bl M w) vs l→aS (bg bl M w) vs m
 | [],[],[],_,_=>trivial
 | v :: vs,x :: l,y :: m,h,hr=>⟨X_ h.1 hr.1,KB h.2 hr.2⟩
 | [],[],_ :: _,h,_=>h.elim
 | [],_ :: _,_,_,hr=>hr.elim
 | _ :: _,[],_,_,hr=>hr.elim
 | _ :: _,_ :: _,[],h,_=>h.elim
theorem jl {P:Program} [bJ P] {f:FuncId} {xs ys:List AV} {r:AV} (hp:ao P f ys r) (h:aS nld xs ys):ao P f xs r :=
 fun bl MF w cargs h1 h2 h3 h4 h5=>hp bl MF w cargs h1 h2 h3 h4 (KB h h5)
def GT (n:Nat):bN→bN
 | .draw ops al dr=>match ops with
  | ⟨⟨some d,op,g⟩,b⟩ :: r=>if d=n then .free (⟨⟨some d,op,g⟩,b⟩ :: r) al dr else .draw (⟨⟨some d,op,g⟩,b⟩ :: r) al dr
  | ops=>.draw ops al dr
 | .seq x y=>.seq (GT n x) (GT n y)
 | .cond c x y=>.cond c (GT n x) (GT n y)
 | .block id x=>.block id (GT n x)
 | .loop x=>.loop (GT n x)
 | x=>x
def ajh (b:List Nat) (R:List (Nat×aN)):Bool:=R.all fun q=>!b.contains q.1
def agP (R:List (Nat×aN)):List (Nat×aN)→List (Nat×aN)
 | []=>[]
 | t :: L=>if ajh t.2.bef R=true then t :: agP R L else agP R L
def afw (i:Nat):List (Nat×aN)→List (Nat×aN)
 | []=>[]
 | t :: L=>if t.1=i then afw i L else t :: afw i L
section
variable {P:Program} [bJ P]
def afC:Nat→List aN→List (Nat×aN)
 | _,[]=>[]
 | i,o :: r=>(i,o) :: afC (i+1) r
end
attribute [go_sem] List.contains_cons List.contains_nil eA b_
structure Bk (H:Type) where
 f:DataW H→Nat
 str:∀l:List UInt8,l.length≤f (.lit (.string l))
 sl:∀es sp,es.length≤f (.slice es sp)
 sle:∀es sp d,d∈es→f d≤f (.slice es sp)
 ag:∀ps d,d∈ps→f d≤f (.agg ps)
def Ty.bd (B:Nat):Ty→List AV→Prop
 | .str,xs=>∀s,xs=[.str s]→s.length≤B
 | .sl e,xs=>∀st rows,xs=[.sl st rows]→rows.length≤B∧∀r∈rows,e.bd B r
 | .cons f r,xs=>f.bd B (xs.take f.n)∧r.bd B (xs.drop f.n)
 | _,_=>True
def Ty.bdV (B:Nat) (τ:Ty) (x:AV):Prop:=match τ.isRec with
 | true=>∀xs,x = .agg xs→τ.bd B xs
 | false=>τ.bd B [x]
section
variable {H:Type} {enc:TypeId×Value→H} {P:Program} {w:World} {base:Nat} {sp:Nat→Bool} {held:Bool}
end
section
variable {H:Type} {enc:TypeId×Value→H} {P:Program} [bJ P] {w:World} {base:Nat} {sp:Nat→Bool} {held:Bool}
end
section
variable {H:Type} {enc:TypeId×Value→H} {P:Program} [bJ P] {w:World}
end
def UN (ρ:Nat→Nat):List (Nat×AV)→List (Nat×AV)
 | []=>[]
 | (k,x) :: r=>(k,n9 ρ x) :: UN ρ r
theorem J2 (ρ:Nat→Nat) (k:Nat):∀e:List (Nat×AV),get (UN ρ e) k=n9 ρ (get e k)
 | []=>rfl
 | (j,x) :: r=>by
  simp only [UN,get]
  split
  ·rfl
  ·exact J2 ρ k r
theorem Wk.ren (s:St) (ps:List (Nat×Nat)) (h:∀id,1000≤id→id<2000→bw ps id=id):Wk s ⟨UN (fw ps) s.env,je (fw ps) s.heap⟩:=by
 rintro c a w ⟨bl,hs⟩
 have hb:∀i,(fun i=>bl (bw ps i)) (fw ps i)=bl i:=fun i=>by simp only [tP]
 have hm:∀b,bH (fun i=>bl (bw ps i)) c.MF (ae (je (fw ps) s.heap)) b→bH bl c.MF (ae s.heap) b:=fun b hm=>E7 (tP ps) (GU ps) hb b hm
 refine ⟨fun i=>bl (bw ps i),hs.defers,hs.size,fun k=>?_,E8 (tP ps) (GU ps) hs.heap hb hm,hs.step,fun id o b hi hq=>?_,fun id h1 h2=>?_,hs.mf⟩
 ·show bg _ _ _ _ (get (UN (fw ps) s.env) k)
  rw [J2]
  exact E_ (hs.env k) hb hm
 ·rw [kZ (tP ps) (GU ps)] at hi
  simp only [dR] at hi
  obtain ⟨o0,h5,_⟩:=hi
  exact hs.own _ o0 b h5 hq
 ·show bl (bw ps id)=_
  rw [h id h1 h2]
  exact hs.stab id h1 h2
def ZB (P:Program):Nat→TypeId→Bool
 | 0,_=>true
 | f+1,t=>match P.underlying t with
  | some (.slice e)=>decide (0<P.bytesOf e)&&ZB P f e
  | some (.struct fs)=>fs.toList.all fun x=>ZB P f x.type
  | _=>true
theorem Lj {H:Type} {P:Program} {e:TypeId} {d:DataW H} {n:Nat}:∀{l:List (DataW H)},d∈l→n∈DataW.weights P e d→n∈DataW.weightsAll P e l
 | x :: l,h,hn=>by
  rw [DataW.weightsAll,fA]
  rcases dc.1 h with rfl | h
  ·exact .inl hn
  ·exact .inr (Lj h hn)
theorem Hq {H:Type} {P:Program}:∀(ts us:List TypeId) (ds gs:List (DataW H)) {n:Nat},n∈DataW.weightsEach P ts ds→n∈DataW.weightsEach P (ts++us) (ds++gs)
 | [],us,ds,gs,n,h=>by cases ds<;>simp [DataW.weightsEach] at h
 | t :: ts,us,[],gs,n,h=>by simp [DataW.weightsEach] at h
 | t :: ts,us,d :: ds,gs,n,h=>by
  simp only [jR,DataW.weightsEach,fA] at h ⊢
  exact h.imp_right fun h=>Hq ts us ds gs h
theorem uI {H:Type} {P:Program} {ts us:List TypeId} {ds gs:List (DataW H)} {B:Nat} (h:(DataW.weightsEach P (ts++us) (ds++gs)).all (·≤B)=true):∀n∈DataW.weightsEach P ts ds,n≤B:=fun n hn=>of_decide_eq_true (fg.1 h n (Hq ts us ds gs hn))
section
variable {H:Type} {enc:TypeId×Value→H} {P:Program} {w:World} {base:Nat} {sp:Nat→Bool} {held:Bool}
theorem JW {B:Nat} {g:TypeId→Option Ty} {h:TypeId→Bool} {r:TypeId→List Value→Option (DataW H×List MemPlace)}
  (ih:∀t cs τ x xs,g t=some τ→h t=true→r t cs=some x→τ.ok xs→aS (IRel (fun _=>False) w) cs xs→(∀n∈DataW.weights P t x.1,n≤B)→τ.bd B xs) (cs:List Value) :
  ∀(fs:List Field) (off:Nat) (τ:Ty) (xs:List (DataW H×List MemPlace)) (ys:List AV),Fr g P off fs=some τ→(fs.all fun x=>h x.type)=true→(fs.mapM fun f=>r f.type ((cs.drop f.offset).take (P.cellsOf f.type)))=some xs →
   τ.ok ys→aS (IRel (fun _=>False) w) (cs.drop off) ys→(∀n∈DataW.weightsEach P (fs.map (·.type)) (xs.map (·.1)),n≤B)→τ.bd B ys
 | [],off,τ,xs,ys,ht,_,_,_,_,_=>by
  simp only [Fr,cU] at ht
  subst ht
  trivial
 | f :: fs,off,τ,xs,ys,ht,hw,hm,hok,hr,hB=>by
  rw [List.all_cons,cC] at hw
  simp only [Fr] at ht
  split at ht
  case isFalse=>cases ht
  rename_i hoff
  split at ht
  case h_2=>cases ht
  rename_i a b ha hb
  split at ht
  case isFalse=>cases ht
  rename_i hsz
  cases ht
  simp only [List.mapM_cons,bind,vc,pure,cU] at hm
  obtain ⟨y,h1,zs,h2,rfl⟩:=hm
  simp only [ej,DataW.weightsEach,fA] at hB
  obtain ⟨y1,y2,rfl,o1,o2⟩:=hok
  have hl:=Ty.ok_len a y1 o1
  have r1:=hr.take a.n
  have r2:=hr.drop a.n
  rw [List.take_left' hl] at r1
  rw [List.drop_left' hl,List.drop_drop] at r2
  refine ⟨?_,?_⟩
  ·rw [List.take_left' hl]
   rw [hoff] at h1
   rw [hsz] at r1
   exact ih _ _ _ _ _ ha hw.1 h1 o1 r1 fun n hn=>hB n (.inl hn)
  ·rw [List.drop_left' hl]
   rw [hsz] at r2
   exact JW ih cs fs (off+P.cellsOf f.type) b zs y2 hb hw.2 h2 o2 r2 fun n hn=>hB n (.inr hn)
theorem aea {B:Nat}:∀(fuel f:Nat) (t:TypeId) (cs:List Value) (τ:Ty) (x:DataW H×List MemPlace) (xs:List AV),ta P f t=some τ→ZB P f t=true→DataW.trod enc P w base sp held fuel t cs=some x→τ.ok xs →
  aS (IRel (fun _=>False) w) cs xs→(∀n∈DataW.weights P t x.1,n≤B)→τ.bd B xs:=by
 intro fuel
 induction fuel with
 | zero=>intro f t cs τ x xs _ _ h;simp [DataW.trod] at h
 | succ fuel ih =>
  intro f t cs τ x xs ht hw h hok hr hB
  cases f with
  | zero=>simp [ta] at ht
  | succ f =>
   simp only [ta] at ht
   split at ht
   case h_1 hu=>cases ht;trivial
   case h_2 k' hu=>cases ht;trivial
   case h_3 hu =>
    cases ht
    unfold DataW.trod at h
    split at h<;>rename_i heq<;>first | (rw [hu] at heq;cases heq;done) | (cases h;done) | skip
    rename_i s
    split at h
    ·cases h
     intro s' hs
     subst hs
     have h1:=hr.1
     cases h1
     exact hB _ (by simp [DataW.weights])
    ·cases h
   case h_4 e hu =>
    simp only [ZB,hu,cC,fo] at hw
    split at ht
    case h_2=>cases ht
    rename_i a ha
    split at ht
    case isFalse=>cases ht
    rename_i hsz
    cases ht
    unfold DataW.trod at h
    split at h<;>rename_i heq<;>first | (rw [hu] at heq;cases heq;done) | (cases h;done) | skip
    ·intro st rows hs
     subst hs
     have h1:=hr.1
     cases h1
     exact ⟨cX _,fun r hr=>by cases hr⟩
    ·rename_i e1 ad len cap
     rw [hu] at heq
     cases heq
     simp only at h
     split at h
     case isFalse=>cases h
     rename_i hcap
     simp only [vc,dR] at h
     obtain ⟨elems,hel,rest,_,rfl⟩:=h
     obtain ⟨hlen,ae⟩:=xq hel
     intro st rows hs
     subst hs
     have h1:=hr.1
     simp only [DataW.weights,hu,dc,fA] at hB
     have hall:∀y∈elems,∀n∈DataW.weights P e y.1,n≤B:=fun y hy n hn=>hB n (.inr (.inl (Lj (List.mem_map.2 ⟨y,hy,rfl⟩) hn)))
     have hln:elems.length≤B:=by
      have h2:=hB _ (.inl rfl)
      have h3:=hw.1
      rw [di] at h2
      exact gz (gz (Nat.le_add_right _ _) (Nat.le_mul_of_pos_right _ h3)) h2
     have hrok:∀r∈rows,a.ok r:=by
      rcases hok with hok | ⟨rows',hok,_,h3⟩
      ·cases hok
      ·cases hok;exact h3
     have hst:st=a.n∨rows=[]:=by
      rcases hok with hok | ⟨rows',hok,_,_⟩
      ·cases hok
      ·cases hok;exact .inl rfl
     cases h1 with
     | sl0=>exact ⟨cX _,fun r hr=>by cases hr⟩
     | sl bk of _ _ c tt fr _ vs hb hM hl hrl hv hx =>
      refine ⟨by omega,fun r hrm=>?_⟩
      obtain ⟨i,hi,hri⟩:=List.getElem_of_mem hrm
      have hri':rows[i]? = some r:=by rw [lg hi,hri]
      obtain ⟨y,g1,g2⟩:=ae i (by omega)
      simp only [vc] at g2
      obtain ⟨row,g3,g4⟩:=g2
      have hym:y∈elems:=ve g1
      refine ih f e row a y r ha hw.2 g4 (hrok r hrm) ?_ (hall y hym)
      have hst':st=a.n:=hst.resolve_right (fun h=>by rw [h] at hi;simp at hi)
      obtain ⟨q1,q2⟩:=Gz g3
      have hblk:∀(q:Addr) m,(q.add m).block=q.block:=fun q m=>by unfold Addr.add;split<;>rfl
      have hoff:∀(q:Addr) m,(q.add m).off=q.off+m:=fun q m=>by
       unfold Addr.add
       split
       ·rename_i hm;simp [hm]
       ·rfl
      refine aS.of_get (by rw [q1,Ty.ok_len a r (hrok r hrm),hsz.1]) (fun j v x hv' hx'=>?_)
      have hj:j<P.cellsOf e:=by
       have:=(jx.1 hv').1
       omega
      obtain ⟨v',p1,p2⟩:=q2 j hj
      rw [hv'] at p1
      cases p1
      obtain ⟨_,c',t',fr',p3,p4⟩:=DS p2
      rw [hblk,hblk] at p3
      simp only at p3
      rw [hb] at p3
      cases p3
      rw [hoff,hoff] at p4
      simp only at p4
      have:=hv i j hi (by rw [hst',hsz.1];exact hj)
      rw [hst',hsz.1,p4] at this
      cases this
      exact hx i j r x hri' hx'
   case h_5 fs hu =>
    simp only [ZB,hu] at hw
    split at ht
    case h_2=>cases ht
    rename_i a ha
    split at ht
    case isFalse=>cases ht
    rename_i hsz
    cases ht
    unfold DataW.trod at h
    split at h<;>rename_i heq<;>first | (rw [hu] at heq;cases heq;done) | (cases h;done) | skip
    ·rename_i cs1 fs1
     rw [hu] at heq
     cases heq
     split at h
     case isFalse=>cases h
     rename_i hcl
     simp only [dR] at h
     obtain ⟨ys,h1,rfl⟩:=h
     refine JW (P:=P) (g:=ta P f) (h:=ZB P f) (r:=fun t cs=>DataW.trod enc P w base sp held fuel t cs) (fun t cs τ x xs=>ih f t cs τ x xs) _ _ 0 _ ys xs ha hw h1 hok (by simpa using hr) fun n hn=>hB n ?_
     simpa only [DataW.weights,hu] using hn
   case h_6=>cases ht
end
section
variable {H:Type} {enc:TypeId×Value→H} {P:Program} [bJ P] {w:World} {base:Nat} {sp:Nat→Bool} {held:Bool}
theorem Wx {B:Nat} {f:Nat} {t:TypeId} {τ:Ty} {r:Reach} {b:Nat} {v:Value} {d:DataW H} {p:List MemPlace} (ht:ta P f t=some τ) (hw:ZB P f t=true) (hv:Value.okWide P w r b t v) (h:DataW.Trod enc P w base sp held t v d p) (hB:∀n∈DataW.weights P t d,n≤B) :
  ∃x,τ.okV x∧τ.bdV B x∧bg (fun _=>none) (fun _=>False) w v x:=by
 obtain ⟨fuel,h⟩:=h
 obtain ⟨xs,h1,h2⟩:=Zz fuel f t _ _ _ ht h
 have hb:=aea fuel f t _ _ _ xs ht hw h h1 h2 hB
 have one:τ.isRec=false→v.cells.toList=[v]→∃x,τ.okV x∧τ.bdV B x∧bg (fun _=>none) (fun _=>False) w v x:=fun hr hc=>by
  rw [hc] at h2
  match xs,h2 with
  | [x],h2=>exact ⟨x,by unfold Ty.okV;rw [hr];exact h1,by unfold Ty.bdV;rw [hr];exact hb,h2.1.toV⟩
 cases f with
 | zero=>simp [ta] at ht
 | succ f =>
  simp only [ta] at ht
  unfold Value.okWide at hv
  split at ht
  ·rename_i hu
   rw [hu] at hv
   cases ht
   exact one rfl (by
    unfold Cell.okWide at hv;rw [hu] at hv
    simp only [Cell.ok,hu] at hv
    cases v<;>first | rfl | exact hv.elim)
  ·rename_i k hu
   rw [hu] at hv
   cases ht
   exact one rfl (by
    unfold Cell.okWide at hv;rw [hu] at hv
    simp only [Cell.ok,hu] at hv
    cases v<;>first | rfl | exact hv.elim)
  ·rename_i hu
   rw [hu] at hv
   cases ht
   exact one rfl (by
    unfold Cell.okWide at hv;rw [hu] at hv
    simp only [Cell.ok,hu] at hv
    cases v<;>first | rfl | exact hv.elim)
  ·rename_i e hu
   rw [hu] at hv
   have hr:τ.isRec=false:=by
    split at ht
    case h_2=>cases ht
    split at ht
    case isFalse=>cases ht
    cases ht
    rfl
   exact one hr (by
    unfold Cell.okWide at hv;rw [hu] at hv
    simp only [Cell.ok,hu] at hv
    cases v<;>first | rfl | exact hv.elim)
  ·rename_i fs hu
   rw [hu] at hv
   have hr:τ.isRec=true:=by
    split at ht
    case h_2=>cases ht
    rename_i hfs
    split at ht
    case isFalse=>cases ht
    cases ht
    exact M0 hfs
   obtain ⟨cs,rfl,_,_⟩:=hv
   refine ⟨.agg xs,by unfold Ty.okV;rw [hr];exact ⟨xs,rfl,h1⟩,by unfold Ty.bdV;rw [hr];intro ys hy;cases hy;exact hb,cs.toList,by simp,?_⟩
   exact aS.mono h2 fun a x _ h=>h.toC
  ·cases ht
theorem JE {B:Nat} {r:Reach} {b:Nat}:∀{ts:List TypeId} {τs:List Ty} {vs:List Value} {ds:List (DataW H)} {ps:List MemPlace},aS (fun t τ=>ta P 9 t=some τ∧ZB P 9 t=true) ts τs →
  DataW.TrodAll enc P w base sp held ts vs ds ps→(∀(j:Nat) t v,ts[j]? = some t→vs[j]? = some v→Value.okWide P w r b t v)→(∀n∈DataW.weightsEach P ts ds,n≤B)→∃xs,aS Ty.okV τs xs∧aS (Ty.bdV B) τs xs∧aS (bg (fun _=>none) (fun _=>False) w) vs xs
 | [],[],[],ds,ps,_,h,_,_=>⟨[],trivial,trivial,trivial⟩
 | t :: ts,τ :: τs,v :: vs,d :: ds,ps,ht,h,hv,hB=>by
  obtain ⟨p,q,h3,h4,rfl⟩:=h
  simp only [DataW.weightsEach,fA] at hB
  obtain ⟨x,h5,h5b,h6⟩:=Wx ht.1.1 ht.1.2 (hv 0 t v rfl rfl) h3 fun n hn=>hB n (.inl hn)
  obtain ⟨xs,h7,h7b,h8⟩:=JE ht.2 h4 (fun j t v h1 h2=>hv (j+1) t v (by simpa using h1) (by simpa using h2)) fun n hn=>hB n (.inr hn)
  exact ⟨x :: xs,⟨h5,h7⟩,⟨h5b,h7b⟩,h6,h8⟩
 | [],[],_ :: _,_,_,_,h,_,_=>h.elim
 | _ :: _,[],_,_,_,ht,_,_,_=>ht.elim
 | [],_ :: _,_,_,_,ht,_,_,_=>ht.elim
 | _ :: _,_ :: _,[],_,_,_,h,_,_=>h.elim
 | _ :: _,_ :: _,_ :: _,[],_,_,h,_,_=>h.elim
end
section
variable {H:Type} {enc:TypeId×Value→H} {P:Program} [bJ P] {w:World}
theorem i9 {B:Nat} {fid:FuncId} {f:Func} {s:ChangeSpec} (τs:List Ty) {tb:TypeId} {apart fresh handsOn again:Bool} (hty:aS (fun t τ=>ta P 9 t=some τ∧ZB P 9 t=true) f.params.toList τs) (hl:laidOutB P=true)
  (hr:∀t∈f.params.toList,P.readableRec t=true∧t<P.types.size) (hvs:s.vars=[])
  (hfn:∀ds:List (DataW H),ds.length=τs.length→(s.fn H ds).results=[.lit (.bool true)]∧(s.fn H ds).args=ds∧(s.fn H ds).vars=[])
  (hrt:f.resultTypes = #[tb]) (htb:P.underlying tb=some .bool)
  (hp:∀xs,aS Ty.okV τs xs→aS (Ty.bdV B) τs xs→ao P fid xs (.bool true))
  (W:World) (b:Nat) (args:Array Value) (ds gs:List (DataW H)) (before:List MemPlace) {r:Reach} (hT:(bJ.T P).H W)
  (hval:∀(j:Nat) t v,f.params[j]? = some t→args[j]? = some v→Value.okWide P W r b t v)
  (hW:DataW.Whole enc P f.params.toList s.vars apart W args.toList ds gs before) (hB:∀n∈DataW.weightsEach P f.params.toList ds,n≤B) :
  Calls P fid args W fun e W'=>∃v,e = .returned v∧s.post enc P f apart fresh handsOn again W args v W':=by
 have hW':=hW
 obtain ⟨p,q,hA,hV,_,_,_⟩:=hW
 rw [hvs] at hV
 obtain ⟨rfl,rfl⟩:=trodVars_none hV
 obtain ⟨xs,h1,h1b,h2⟩:=JE hty hA (fun j t v h1 h2=>hval j t v (by simpa using h1) (by simpa using h2)) hB
 have h4:=hp xs h1 h1b
 have hlen:ds.length=τs.length:=by
  have key:∀{ts:List TypeId} {vs:List Value} {ds:List (DataW H)} {ps:List MemPlace},DataW.TrodAll enc P W 0 (fun _=>true) true ts vs ds ps→ds.length=ts.length:=by
   intro ts
   induction ts with
   | nil=>intro vs ds ps h;match vs,ds,h with | [],[],_=>rfl
   | cons t ts ih=>intro vs ds ps h;match vs,ds,h with | v :: vs,d :: ds,⟨_,_,_,h4,_⟩=>simp [ih h4]
  rw [key hA,hty.length]
 obtain ⟨g1,g2,g3⟩:=hfn ds hlen
 have:=KO h4 hT h2
 rw [show args.toList.toArray=args from by simp] at this
 refine this.mono fun e W' ⟨he,hk⟩=>⟨_,he,?_⟩
 exact Tf hl hr hvs (by simpa using g1) (by simpa using g2) (by simpa using g3) hrt htb hW' hk
end
def kA (n:Nat):bN→bN
 | .draw ops al dr=>match ops with
  | ⟨⟨some d,op,g⟩,b⟩ :: r=>if d=n then .wild (⟨⟨some d,op,g⟩,b⟩ :: r) al dr else .draw (⟨⟨some d,op,g⟩,b⟩ :: r) al dr
  | ops=>.draw ops al dr
 | .seq x y=>.seq (kA n x) (kA n y)
 | .cond c x y=>.cond c (kA n x) (kA n y)
 | .block id x=>.block id (kA n x)
 | .loop x=>.loop (kA n x)
 | x=>x
theorem M2 (n d:Nat) (op:pn) (g:Option (Nat×Bool)) (b:List Nat) (r:List aN) (al:List (Nat×Nat)) (dr:List Nat) :
  kA n (.draw (⟨⟨some d,op,g⟩,b⟩ :: r) al dr)=if d=n then .wild (⟨⟨some d,op,g⟩,b⟩ :: r) al dr else .draw (⟨⟨some d,op,g⟩,b⟩ :: r) al dr:=bV rfl
theorem Qn (n:Nat) (x y:bN):kA n (.seq x y) = .seq (kA n x) (kA n y):=bV rfl
theorem M1 (n:Nat) (c:IV) (x y:bN):kA n (.cond c x y) = .cond c (kA n x) (kA n y):=bV rfl
theorem Lk (n id:Nat) (x:bN):kA n (.block id x) = .block id (kA n x):=bV rfl
theorem M3 (n:Nat):kA n .skip = .skip:=bV rfl
theorem Qm (n:Nat):kA n .ret = .ret:=bV rfl
theorem Ql (n:Nat) (ops:List bu) (dr:List Nat):kA n (.reg ops dr) = .reg ops dr:=bV rfl
def GZ:List aN→List aN
 | []=>[]
 | [_]=>[]
 | o :: p :: r=>o :: GZ (p :: r)
def Eo:List aN→Option aN
 | []=>none
 | [o]=>some o
 | _ :: p :: r=>Eo (p :: r)
theorem Pu (o:aN):GZ [o]=[]:=bV rfl
theorem Eh (o p:aN) (r:List aN):GZ (o :: p :: r)=o :: GZ (p :: r):=bV rfl
theorem PG (o:aN):Eo [o]=some o:=bV rfl
theorem Ep (o p:aN) (r:List aN):Eo (o :: p :: r)=Eo (p :: r):=bV rfl
theorem NG:∀l,GZ l=l.dropLast
 | []=>rfl
 | [_]=>rfl
 | o :: p :: r=>by rw [Eh,NG (p :: r)];rfl
theorem NP:∀l,Eo l=l.getLast?
 | []=>rfl
 | [_]=>rfl
 | o :: p :: r=>by rw [Ep,NP (p :: r),List.getLast?_cons_cons]
section
variable {P:Program} [bJ P]
def Z8 (al:List (Nat×Nat)) (n:Nat) (o:Option aN) (dr:List Nat) (K:IX→St→Prop) (hist:List HI) (s:St):Prop :=
 match o with
 | some o=>Ll al (n - 1) o hist s fun s'=>K .nrm ⟨dels dr s'.env,s'.heap⟩
 | none=>False
def Tc (P:Program) [bJ P] (al:List (Nat×Nat)) (i:Nat) (r:List aN) (K:List HI→St→Prop) (hist:List HI) (s:St):Prop:=eY P al i r hist s K
theorem Td (al:List (Nat×Nat)) (i:Nat) (r:List aN) (K:List HI→St→Prop) (hist:List HI) (s:St):Tc P al i r K hist s=eY P al i r hist s K:=bV rfl
theorem L4 (al:List (Nat×Nat)) (i:Nat) (hist:List HI) (s:St) (K:List HI→St→Prop):eY P al i [] hist s K=K hist s:=bV rfl
theorem J7 (al:List (Nat×Nat)) (i:Nat) (d:Option Nat) (op:pn) (bf:List Nat) (r:List aN) (hist:List HI) (s:St) (K:List HI→St→Prop) :
  eY P al i (⟨⟨d,op,none⟩,bf⟩ :: r) hist s K=jr P al i ⟨⟨d,op,none⟩,bf⟩ hist s (Tc P al (i+1) r K):=bV rfl
theorem S_ (ops:List aN) (al:List (Nat×Nat)) (dr:List Nat) (s:St) (K:IX→St→Prop):kD P (.wild ops al dr) s K=eY P al 0 (GZ ops) [] (kills (al.map (·.1)) s) (Z8 al ops.length (Eo ops) dr K):=by
 rw [NG,NP]
 rfl
theorem PF {al:List (Nat×Nat)} {n d:Nat} {t:TypeId} {st:Nat} {x y:IV} {bf:List Nat} {dr:List Nat} {K:IX→St→Prop} {hist:List HI} {s:St} (v:AV) (e:bq)
  (h:bW d (.app t st x y) (val (get s.env)) (ae s.heap)=some (v,e)) (h1:((au (.app t st x y)).all fun k=>!BJ (get s.env k))=true) (h2:e.isReb=true) (h3:(hist.all fun z=>bf.contains z.i||M4 e.tch z)=true)
  (h4:BP al bf ⟨n - 1,cI (.app t st x y) s.env,aH v++e.ids,e.tch,true,true⟩=true) (h5:XM dr K ((s.eff e).put (some d) v)):Z8 al n (some ⟨⟨some d,.app t st x y,none⟩,bf⟩) dr K hist s:=by
 refine ⟨rfl,?_⟩
 simp only [Option.getD_some]
 rw [h]
 exact ⟨h1,h2,h3,h4,h5⟩
end
attribute [go_sem] M2 Qn M1 Lk M3 Qm Ql Pu Eh PG Ep L4 J7 Td S_
theorem NQ {n:Nat} {c:List AV} (h:c.length=n):vp (some n) c=some (.agg c):=by
 show (if n≤c.length then some (AV.agg (c.take n)) else none)=_
 rw [ap (by omega),fL (by omega)]
theorem Oy {k n:Nat} {t:TypeId} {z c:List AV} (hz:z.length=n) (h:c.length=n):Ju k n n 0 0 (some ⟨t,n,[z],true⟩) (some c)=some (.put k ⟨t,n,[c],true⟩):=by
 unfold Ju
 simp only [true_and,eC,and_true]
 rw [ap h]
 show (if 0+n≤z.length then some (bq.put k ⟨t,n,[z].set 0 (i0 z 0 c),true⟩) else none)=_
 rw [ap (by omega)]
 unfold i0
 rw [oa,fh,Nat.zero_add,List.drop_eq_nil_of_le (by omega),mz]
 rfl
def aeT (n:Nat) (c:List AV):Prop:=c.length=n∧(∀i,c.any (mC i)=false)∧aH (.agg c)=[]
end Go.Mw