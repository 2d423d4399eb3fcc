import Derived.Test.YthhglklcaodfmaaGreatDoorQb
import Derived.ProofKit
import Derived.OpenShut
import Derived.JoinedCond
import Derived.RangeFuncFrom
import Derived.RangeFuncLeaves
import Derived.RangeFuncCalls
set_option linter.all false
namespace Go.Mw
def au {α:Type} [Inhabited α] (l:List α) (i:Nat):α:=l[i]!
theorem aX {α:Type} [Inhabited α] {l:List α} {i:Nat} (h:i<l.length):au l i=l[i]:=getElem!_pos l i h
theorem di {α:Type} [Inhabited α] {l:List α} {i:Nat} (h:i<l.length):l[i]? = some (au l i):=by rw [aX h];exact gn h
theorem UK {α:Type} [Inhabited α] {l:List α} {i:Nat} {x:α} (h:l[i]? = some x):au l i=x:=by
 have hlt:=(dW.1 h).1
 rw [di hlt] at h
 exact Option.some.inj h
theorem jW {α:Type} [Inhabited α] {l:List α} {i:Nat} {x:α} (h:i<l.length):au (l.set i x) i=x:=by rw [aX (by simpa using h)];simp
theorem xr {α:Type} [Inhabited α] {l m:List α} {i:Nat} (h:i<l.length):au (l++m) i=au l i:=by
 rw [aX h,aX (by simp;omega),List.getElem_append_left h]
theorem Au {α:Type} [Inhabited α] {l m:List α} {x:α}:au (l++x :: m) l.length=x:=by
 simp [au]
theorem nth_map {α β:Type} [Inhabited α] [Inhabited β] {l:List α} {f:α→β} {i:Nat} (h:i<l.length):au (l.map f) i=f (au l i):=by
 rw [aX h,aX (by simpa using h),List.getElem_map]
theorem Av {α:Type} [Inhabited α] {l:List α} {i k:Nat} (h:i<k):au (l.take k) i=au l i:=by
 unfold au
 rw [List.getElem!_eq_getElem?_getD,List.getElem!_eq_getElem?_getD,List.getElem?_take_of_lt h]
section
variable {P:Program} [aV P]
def Pf (P:Program) [aV P] (y:be) (K:IX→St→Prop) (e:IX) (s:St):Prop :=
 match e with
 | .nrm=>ir P y s K
 | e=>K e s
def YQ (P:Program) [aV P] (y:be) (K:IX→St→Prop) (e:IX) (s:St):Prop :=
 match e with
 | .nrm=>∃s',Wk s s'∧ir P y s' K
 | e=>K e s
def O_ (id:Nat) (K:IX→St→Prop) (e:IX) (s:St):Prop :=
 match e with
 | .ext j=>if j=id then K .nrm s else K (.ext j) s
 | e=>K e s
def Fk (dr:List Nat) (K:IX→St→Prop) (s:St):Prop:=K .nrm ⟨dels dr s.env,s.heap⟩
def Pe (P:Program) [aV P] (r:List aM) (K:St→Prop) (s:St):Prop:=ff P r s K
def Dm (P:Program) [aV P] (al:List (Nat×Nat)) (i:Nat) (r:List ax) (K:St→Prop) (hist:List HI) (s:St):Prop:=gV P al i r hist s K
def qA (K:St→Prop) (s:St) (d:Option Nat) (v:AV) (e:aT):Prop:=K ((s.eff e).put d v)
def nE (al:List (Nat×Nat)) (i:Nat) (bf:List Nat) (op:gS) (hist:List HI) (K:List HI→St→Prop) (s:St) (d:Option Nat) (v:AV) (e:aT):Prop :=
 dS op s e=true∧gg bf (@HI.mk i (cx op s.env) (aI v++e.ids) e.tch e.isReb e.isPut (vU op)) hist=true∧qn al bf (@HI.mk i (cx op s.env) (aI v++e.ids) e.tch e.isReb e.isPut (vU op))=true ∧
  K ((@HI.mk i (cx op s.env) (aI v++e.ids) e.tch e.isReb e.isPut (vU op)) :: hist) ((s.eff e).put d v)
def bJ (K:AV→aT→Prop) (x:Option (AV×aT)):Prop :=
 match x with
 | some (v,e)=>K v e
 | none=>False
def xJ (A:Prop) (K:AV→aT→Prop) (x:Option (AV×aT)):Prop :=
 match x with
 | some (v,e)=>K v e
 | none=>A
def MX (x:AV) (a b:Prop):Prop :=
 match x with
 | .bool t=>(t=true→a)∧(t=false→b)
 | _=>False
def vQ (x:AV) (a b c:Prop):Prop :=
 match x with
 | .bool t=>(t=true→a)∧(t=false→b)
 | .tup []=>c
 | _=>False
theorem Uk (y:be) (K:IX→St→Prop) (s:St):Pf P y K .nrm s=ir P y s K:=aW rfl
theorem Ul (y:be) (K:IX→St→Prop) (s:St):Pf P y K .ret s=K .ret s:=aW rfl
theorem Um (y:be) (K:IX→St→Prop) (j:Nat) (s:St):Pf P y K (.ext j) s=K (.ext j) s:=aW rfl
theorem Ud (y:be) (K:IX→St→Prop) (s:St):YQ P y K .ret s=K .ret s:=aW rfl
theorem Ue (y:be) (K:IX→St→Prop) (j:Nat) (s:St):YQ P y K (.ext j) s=K (.ext j) s:=aW rfl
theorem Ua (id:Nat) (K:IX→St→Prop) (s:St):O_ id K .nrm s=K .nrm s:=aW rfl
theorem Ub (id:Nat) (K:IX→St→Prop) (s:St):O_ id K .ret s=K .ret s:=aW rfl
theorem Uc (id j:Nat) (K:IX→St→Prop) (s:St):O_ id K (.ext j) s=if j=id then K .nrm s else K (.ext j) s:=aW rfl
theorem Uj (dr:List Nat) (K:IX→St→Prop) (s:St):Fk dr K s=K .nrm ⟨dels dr s.env,s.heap⟩:=aW rfl
theorem Ui (r:List aM) (K:St→Prop) (s:St):Pe P r K s=ff P r s K:=aW rfl
theorem Pa (al:List (Nat×Nat)) (i:Nat) (r:List ax) (K:St→Prop) (hist:List HI) (s:St):Dm P al i r K hist s=gV P al i r hist s K:=aW rfl
theorem YV (K:St→Prop) (s:St) (d:Option Nat) (v:AV) (e:aT):qA K s d v e=K ((s.eff e).put d v):=aW rfl
theorem Uf (al:List (Nat×Nat)) (i:Nat) (bf:List Nat) (op:gS) (hist:List HI) (K:List HI→St→Prop) (s:St) (d:Option Nat) (v:AV) (e:aT):nE al i bf op hist K s d v e =
 (dS op s e=true∧gg bf (@HI.mk i (cx op s.env) (aI v++e.ids) e.tch e.isReb e.isPut (vU op)) hist=true∧qn al bf (@HI.mk i (cx op s.env) (aI v++e.ids) e.tch e.isReb e.isPut (vU op))=true ∧
  K ((@HI.mk i (cx op s.env) (aI v++e.ids) e.tch e.isReb e.isPut (vU op)) :: hist) ((s.eff e).put d v)):=rfl
theorem Ce (K:AV→aT→Prop) (v:AV) (e:aT):bJ K (some (v,e))=K v e:=aW rfl
theorem Cg (A:Prop) (K:AV→aT→Prop) (v:AV) (e:aT):xJ A K (some (v,e))=K v e:=aW rfl
theorem Cf (A:Prop) (K:AV→aT→Prop):xJ A K none=A:=aW rfl
theorem F8 (A:Prop) (K:AV→aT→Prop) (c:Prop) [Decidable c] (x:Option (AV×aT)):xJ A K (if c then x else none)=((c→xJ A K x)∧(¬c→A)):=by
 by_cases h:c<;>simp [h,xJ]
theorem F7 (K:AV→aT→Prop) (c:Prop) [Decidable c] (x:Option (AV×aT)):bJ K (if c then x else none)=(c∧bJ K x):=by
 by_cases h:c<;>simp [h,bJ]
theorem Cb (K:AV→aT→Prop) (c:Prop) [Decidable c] (x:Option (AV×aT)):bJ K (if c then none else x)=(¬c∧bJ K x):=by
 by_cases h:c<;>simp [h,bJ]
theorem aa9 (v:AV):res (some v)=some (v,.no):=rfl
theorem Vv (c:Prop) [Decidable c] (x:Option AV):res (if c then x else none)=if c then res x else none:=by split<;>rfl
theorem P3 (c:Prop) [Decidable c] (x:Option AV):res (if c then none else x)=if c then none else res x:=by split<;>rfl
theorem ME (t:Bool) (a b:Prop):MX (.bool t) a b=((t=true→a)∧(t=false→b)):=aW rfl
@[congr] theorem Wn {x x':AV} {a b:Prop} (h:x=x'):MX x a b=MX x' a b:=by rw [h]
theorem Ru (a b:Prop):MX (.bool true) a b=a:=by simp [MX]
theorem I9 (t:Bool) (a b c:Prop):vQ (.bool t) a b c=((t=true→a)∧(t=false→b)):=rfl
@[congr] theorem Wf {x x':AV} {a b c:Prop} (h:x=x'):vQ x a b c=vQ x' a b c:=by rw [h]
theorem YJ (a b c:Prop):vQ (.bool true) a b c=a:=by simp [vQ]
theorem YI (a b c:Prop):vQ (.bool false) a b c=b:=by simp [vQ]
theorem YK (a b c:Prop):vQ (.tup []) a b c=c:=by simp [vQ]
theorem TT (a b c:Prop):vQ (.bool true) a b c=a:=by simp [vQ]
theorem TS (a b c:Prop):vQ (.bool false) a b c=b:=by simp [vQ]
theorem TU (a b c:Prop):vQ (.tup []) a b c=c:=by simp [vQ]
theorem VW (a b:Prop):MX (.bool true) a b=a:=Ru a b
theorem Rt (a b:Prop):MX (.bool false) a b=b:=by simp [MX]
theorem Kb (s:St) (K:IX→St→Prop):ir P .skip s K=K .nrm s:=aW rfl
theorem O0 (s:St) (K:IX→St→Prop):ir P .ret s K=K .ret s:=aW rfl
theorem J_ (id:Nat) (s:St) (K:IX→St→Prop):ir P (.exit id) s K=K (.ext id) s:=aW rfl
theorem O1 (x y:be) (s:St) (K:IX→St→Prop):ir P (.seq x y) s K=ir P x s (Pf P y K):=aW rfl
theorem Fg (id:Nat) (x:be) (s:St) (K:IX→St→Prop):ir P (.block id x) s K=ir P x s (O_ id K):=aW rfl
theorem J8 (v:IV) (t e:be) (s:St) (K:IX→St→Prop):ir P (.cond v t e) s K=MX (val (get s.env) v) (ir P t (refine v true s) K) (ir P e (refine v false s) K):=aW rfl
theorem OZ (ops:List aM) (dr:List Nat) (s:St) (K:IX→St→Prop):ir P (.reg ops dr) s K=ff P ops s (Fk dr K):=aW rfl
def Dn (P:Program) [aV P] (f:Nat) (R:List (Nat×ax)) (K:St→Prop) (s:St):Prop:=j8 P f R s K
theorem Pb (f:Nat) (R:List (Nat×ax)) (K:St→Prop) (s:St):Dn P f R K s=j8 P f R s K:=aW rfl
def C5 (P:Program) [aV P] (f:Nat) (R:List (Nat×ax)) (s:St) (K:St→Prop) (t:Nat×ax):Prop:=ff P [t.2.o] s (Dn P f (R.filter fun q=>q.1 != t.1) K)
theorem Oa (f:Nat) (R:List (Nat×ax)) (s:St) (K:St→Prop) (i:Nat) (o:aM) (b:List Nat):C5 P f R s K (i,⟨o,b⟩)=ff P [o] s (Dn P f (R.filter fun q=>q.1 != i) K):=aW rfl
theorem On (R:List (Nat×ax)) (s:St) (K:St→Prop):j8 P 0 R s K=K s:=aW rfl
theorem Oq (f:Nat) (R:List (Nat×ax)) (s:St) (K:St→Prop):j8 P (f+1) R s K=lL (rdy R) (C5 P f R s K):=aW rfl
theorem NZ {α:Type} (x:α) (F:α→Prop):lL [x] F=F x:=aW rfl
theorem N0 {α:Type} (x y:α) (r:List α) (F:α→Prop):lL (x :: y :: r) F=(F x∧lL (y :: r) F):=aW rfl
theorem Ka (ops:List ax) (al:List (Nat×Nat)) (dr:List Nat) (s:St) (K:IX→St→Prop):ir P (.free ops al dr) s K=j8 P ops.length (ops.zipIdx.map fun p=>(p.2,p.1)) s (Fk dr K):=aW rfl
theorem J9 (ops:List ax) (al:List (Nat×Nat)) (dr:List Nat) (s:St) (K:IX→St→Prop):ir P (.draw ops al dr) s K=gV P al 0 ops [] (kills (al.map (·.1)) s) (Fk dr K):=aW rfl
theorem J3 (s:St) (K:St→Prop):ff P [] s K=K s:=aW rfl
theorem Ff (d:Option Nat) (op:gS) (r:List aM) (s:St) (K:St→Prop):ff P (⟨d,op,none⟩ :: r) s K=fW P ⟨d,op,none⟩ s (Pe P r K):=aW rfl
theorem yf (d:Option Nat) (op:gS) (k:Nat) (r:List aM) (s:St) (K:St→Prop):ff P (⟨d,op,some (k,true)⟩ :: r) s K =
  vQ (get s.env k) (fW P ⟨d,op,none⟩ (s.put (some k) (.bool true)) (Pe P r K)) (ff P r ((s.put (some k) (.bool false)).put d (.tup [])) K) (ff P r (s.put d (.tup [])) K):=aW rfl
theorem ye (d:Option Nat) (op:gS) (k:Nat) (r:List aM) (s:St) (K:St→Prop):ff P (⟨d,op,some (k,false)⟩ :: r) s K =
  vQ (get s.env k) (ff P r ((s.put (some k) (.bool true)).put d (.tup [])) K) (fW P ⟨d,op,none⟩ (s.put (some k) (.bool false)) (Pe P r K)) (ff P r (s.put d (.tup [])) K):=by
 simp only [ff,vQ]
 generalize get s.env k=x
 cases x with
 | bool t=>exact propext ⟨fun h=>⟨h.2,h.1⟩,fun h=>⟨h.2,h.1⟩⟩
 | tup l=>cases l<;>rfl
 | _=>rfl
theorem E9 (al:List (Nat×Nat)) (i:Nat) (hist:List HI) (s:St) (K:St→Prop):gV P al i [] hist s K=K s:=aW rfl
theorem BK (al:List (Nat×Nat)) (i:Nat) (d:Option Nat) (op:gS) (bf:List Nat) (r:List ax) (hist:List HI) (s:St) (K:St→Prop) :
  gV P al i (⟨⟨d,op,none⟩,bf⟩ :: r) hist s K=cu P al i ⟨⟨d,op,none⟩,bf⟩ hist s (Dm P al (i+1) r K):=aW rfl
theorem vS (al:List (Nat×Nat)) (i:Nat) (d:Option Nat) (op:gS) (k:Nat) (bf:List Nat) (r:List ax) (hist:List HI) (s:St) (K:St→Prop) :
  gV P al i (⟨⟨d,op,some (k,true)⟩,bf⟩ :: r) hist s K=vQ (get s.env k) (cu P al i ⟨⟨d,op,none⟩,bf⟩ hist (s.put (some k) (.bool true)) (Dm P al (i+1) r K))
   (gV P al (i+1) r (⟨i,[],[],[],false,false⟩ :: hist) ((s.put (some k) (.bool false)).put d (.tup [])) K) (gV P al (i+1) r (⟨i,[],[],[],false,false⟩ :: hist) (s.put d (.tup [])) K):=aW rfl
theorem vR (al:List (Nat×Nat)) (i:Nat) (d:Option Nat) (op:gS) (k:Nat) (bf:List Nat) (r:List ax) (hist:List HI) (s:St) (K:St→Prop) :
  gV P al i (⟨⟨d,op,some (k,false)⟩,bf⟩ :: r) hist s K=vQ (get s.env k) (gV P al (i+1) r (⟨i,[],[],[],false,false⟩ :: hist) ((s.put (some k) (.bool true)).put d (.tup [])) K)
   (cu P al i ⟨⟨d,op,none⟩,bf⟩ hist (s.put (some k) (.bool false)) (Dm P al (i+1) r K)) (gV P al (i+1) r (⟨i,[],[],[],false,false⟩ :: hist) (s.put d (.tup [])) K):=by
 simp only [gV,dq,vQ]
 generalize get s.env k=x
 cases x with
 | bool t=>exact propext ⟨fun h=>⟨h.2,h.1⟩,fun h=>⟨h.2,h.1⟩⟩
 | tup l=>cases l<;>rfl
 | _=>rfl
def C4 (P:Program) [aV P] (f:AV) (args:List AV) (d:Option Nat) (s:St) (K:St→Prop):Prop :=
 match f with
 | .fn f caps=>if f<4000000 then bU P f=true∧ci P f (args++caps) d s K else bU P (f - 4000000)=true∧ci P (f - 4000000) (caps.take 1++args++caps.drop 1) d s K
 | _=>False
theorem nt (f:FuncId) (caps args:List AV) (d:Option Nat) (s:St) (K:St→Prop):C4 P (.fn f caps) args d s K=if f<4000000 then bU P f=true∧ci P f (args++caps) d s K else bU P (f - 4000000)=true∧ci P (f - 4000000) (caps.take 1++args++caps.drop 1) d s K:=aW rfl
def Ja (P:Program) [aV P] (f:FuncId) (args:List AV) (i:Nat) (bf:List Nat) (op:gS) (d:Option Nat) (hist:List HI) (s:St) (K:List HI→St→Prop):Prop :=
 (∃args' r b,aj P f args' r∧(∀x∈args',aI x=[])∧aH (MS b (ae s.heap)) args args'∧(b=true→iX r=true)∧aI r=[] ∧
   dS op s .no=true∧gg bf ⟨i,cx op s.env,[],[],false,false⟩ hist=true∧K (⟨i,cx op s.env,[],[],false,false⟩ :: hist) (s.put d r)) ∨
 ∃k ob ob' Sb r,bu P f args [(k,ob)] Sb (fun r' σ'=>r'=r∧σ'=[(k,ob')])∧Sb k∧ae s.heap k=some ob∧aI r=[]∧dt ob'=[]∧k∈cx op s.env ∧
   dS op s (.put k ob')=true∧gg bf ⟨i,cx op s.env,[],[k],false,true⟩ hist=true∧K (⟨i,cx op s.env,[],[k],false,true⟩ :: hist) ((s.eff (.put k ob')).put d r)
theorem EW (al:List (Nat×Nat)) (i:Nat) (d:Option Nat) (f:FuncId) (args:List IV) (g:Option (Nat×Bool)) (bf:List Nat) (hist:List HI) (s:St) (K:List HI→St→Prop) :
  cu P al i ⟨⟨d,.call f args,g⟩,bf⟩ hist s K=Ja P f (args.map (val (get s.env))) i bf (.call f args) d hist s K:=aW rfl
theorem oZ (d:Nat) (t:TypeId) (st:Nat) (rows:List (List AV)) (ps:List (Nat×IV)) (g:Option (Nat×Bool)) (s:St) (K:St→Prop):AA ⟨some d,.bsl t st rows ps,g⟩ s K=bJ (qA K (s.kill d) (some d)) (bB d (.bsl t st rows ps) (val (get (s.kill d).env)) (ae (s.kill d).heap)):=aW rfl
theorem Jb (al:List (Nat×Nat)) (i d:Nat) (t:TypeId) (st k:Nat) (y:IV) (g:Option (Nat×Bool)) (bf:List Nat) (hist:List HI) (s:St) (K:List HI→St→Prop):cu P al i ⟨⟨some d,.app t st (.s k) y,g⟩,bf⟩ hist s K=bJ (nE al i bf (.app t st (.s k) y) hist K s (some d)) (bB d (.app t st (.s k) y) (val (get s.env)) (ae s.heap)):=by
 refine propext ⟨fun h=>?_,fun h=>.inl h⟩
 rcases h with h | ⟨rows,h,_⟩
 ·exact h
 ·cases h
theorem BH {al:List (Nat×Nat)} {i d:Nat} {t:TypeId} {st:Nat} {y:IV} {g:Option (Nat×Bool)} {bf:List Nat} {hist:List HI} {s:St} {K:List HI→St→Prop} (rows:List (List AV)) (h1:bB d (.app t st (.c .nl) y) (val (get s.env)) (ae s.heap)=some (.ms d st 0 rows.length,.new d ⟨t,st,rows,false⟩))
  (h2:dS (.app t st (.c .nl) y) s .no=true) (h3:gg bf ⟨i,cx (.app t st (.c .nl) y) s.env,[],[],false,false⟩ hist=true) (h4:K (⟨i,cx (.app t st (.c .nl) y) s.env,[],[],false,false⟩ :: hist) (s.put (some d) (.sl st rows))):cu P al i ⟨⟨some d,.app t st (.c .nl) y,g⟩,bf⟩ hist s K :=
 .inr ⟨rows,rfl,h1,h2,h3,h4⟩
theorem zZ {al:List (Nat×Nat)} {i d:Nat} {t:TypeId} {st:Nat} {x y:IV} {g:Option (Nat×Bool)} {bf:List Nat} {hist:List HI} {s:St} {K:List HI→St→Prop} (h:bJ (nE al i bf (.app t st x y) hist K s (some d)) (bB d (.app t st x y) (val (get s.env)) (ae s.heap))):cu P al i ⟨⟨some d,.app t st x y,g⟩,bf⟩ hist s K:=.inl h
def RI (K:St→Prop) (s:St) (d:Option Nat) (n:Nat) (o:gS):Prop:=bJ (qA K s d) (bB n o (val (get s.env)) (ae s.heap))
theorem aca (K:St→Prop) (s:St) (d:Option Nat) (n:Nat) (o:gS):RI K s d n o=bJ (qA K s d) (bB n o (val (get s.env)) (ae s.heap)):=aW rfl
def RD (al:List (Nat×Nat)) (i:Nat) (bf:List Nat) (hist:List HI) (K:List HI→St→Prop) (s:St) (d:Option Nat) (n:Nat) (o:gS):Prop:=bJ (nE al i bf o hist K s d) (bB n o (val (get s.env)) (ae s.heap))
theorem ab_ (al:List (Nat×Nat)) (i:Nat) (bf:List Nat) (hist:List HI) (K:List HI→St→Prop) (s:St) (d:Option Nat) (n:Nat) (o:gS):RD al i bf hist K s d n o=bJ (nE al i bf o hist K s d) (bB n o (val (get s.env)) (ae s.heap)):=aW rfl
attribute [go_sem] aca ab_
section
variable (g:Option (Nat×Bool)) (s:St) (K:St→Prop)
theorem JS (d:Option Nat) (f:FuncId) (args:List IV):fW P ⟨d,.call f args,g⟩ s K=ci P f (args.map (val (get s.env))) d s K:=aW rfl
theorem Fc (d:Option Nat) (f:IV) (args:List IV):fW P ⟨d,.callv f args,g⟩ s K=C4 P (val (get s.env) f) (args.map (val (get s.env))) d s K:=aW rfl
theorem OQ (d:Option Nat) (x:IV):fW P ⟨d,.mov x,g⟩ s K=RI K s d 0 (.mov x):=aW rfl
theorem JY (d:Option Nat) (c a b:IV):fW P ⟨d,.pick c a b,g⟩ s K=RI K s d 0 (.pick c a b):=aW rfl
theorem Fb (d:Option Nat) (cs:List AV) (ps:List (Nat×Nat×IV)):fW P ⟨d,.build cs ps,g⟩ s K=RI K s d 0 (.build cs ps):=aW rfl
theorem JV (d:Option Nat) (n:Option Nat) (p:IV):fW P ⟨d,.load n p,g⟩ s K=RI K s d 0 (.load n p):=aW rfl
theorem Fe (d:Option Nat) (n:Nat) (p x:IV):fW P ⟨d,.store n p x,g⟩ s K=RI K s d 0 (.store n p x):=aW rfl
theorem JT (d:Option Nat) (o:Nat) (p:IV):fW P ⟨d,.fadr o p,g⟩ s K=RI K s d 0 (.fadr o p):=aW rfl
theorem OH (d:Option Nat) (o:Nat) (n:Option Nat) (x:IV):fW P ⟨d,.fld o n x,g⟩ s K=RI K s d 0 (.fld o n x):=aW rfl
theorem JU (d:Option Nat) (st:Nat) (x q:IV):fW P ⟨d,.iadr st x q,g⟩ s K=RI K s d 0 (.iadr st x q):=aW rfl
theorem JP (d:Option Nat) (st n:Nat) (x q:IV):fW P ⟨d,.aadr st n x q,g⟩ s K=RI K s d 0 (.aadr st n x q):=aW rfl
theorem OP (d:Option Nat) (m:Bool) (x y:IV):fW P ⟨d,.mnx m x y,g⟩ s K=RI K s d 0 (.mnx m x y):=aW rfl
theorem Oz (d:Option Nat) (st:Nat) (x y:IV):fW P ⟨d,.cpy st x y,g⟩ s K=RI K s d 0 (.cpy st x y):=aW rfl
theorem OW (d:Option Nat) (x y:IV):fW P ⟨d,.sib x y,g⟩ s K=RI K s d 0 (.sib x y):=aW rfl
theorem OD (d:Option Nat) (x:IV):fW P ⟨d,.cvm x,g⟩ s K=RI K s d 0 (.cvm x):=aW rfl
theorem OX (d:Option Nat) (st:Nat) (x:IV) (lo hi mx:Option IV):fW P ⟨d,.slc st x lo hi mx,g⟩ s K=RI K s d 0 (.slc st x lo hi mx):=aW rfl
theorem OI (d:Option Nat) (x:IV):fW P ⟨d,.len x,g⟩ s K=RI K s d 0 (.len x):=aW rfl
theorem J1 (d:Option Nat) (x:IV):fW P ⟨d,.slen x,g⟩ s K=RI K s d 0 (.slen x):=aW rfl
theorem J2 (d:Option Nat) (x:IV) (lo hi:Option IV):fW P ⟨d,.sslc x lo hi,g⟩ s K=RI K s d 0 (.sslc x lo hi):=aW rfl
theorem Ow (d:Option Nat) (o:BinOp) (x y:IV):fW P ⟨d,.bin o x y,g⟩ s K=RI K s d 0 (.bin o x y):=aW rfl
theorem JR (d:Option Nat) (o:BinOp) (x y:IV):fW P ⟨d,.bbin o x y,g⟩ s K=RI K s d 0 (.bbin o x y):=aW rfl
theorem JX (d:Option Nat) (o:BinOp) (x y:IV):fW P ⟨d,.pbin o x y,g⟩ s K=RI K s d 0 (.pbin o x y):=aW rfl
theorem JZ (d:Option Nat) (o:BinOp) (ls:List LK) (x y:IV):fW P ⟨d,.sbin o ls x y,g⟩ s K=RI K s d 0 (.sbin o ls x y):=aW rfl
theorem T3 (d:Option Nat) (o:UnOp) (x:IV):fW P ⟨d,.un o x,g⟩ s K=RI K s d 0 (.un o x):=aW rfl
theorem OB (d:Option Nat) (k:IntKind) (x:IV):fW P ⟨d,.cvi k x,g⟩ s K=RI K s d 0 (.cvi k x):=aW rfl
theorem OE (d:Option Nat) (x:IV):fW P ⟨d,.cvs x,g⟩ s K=RI K s d 0 (.cvs x):=aW rfl
theorem OF (d:Option Nat) (x:IV):fW P ⟨d,.cvt x,g⟩ s K=RI K s d 0 (.cvt x):=aW rfl
theorem OG (d:Option Nat) (x:IV) (q:Nat):fW P ⟨d,.ext x q,g⟩ s K=RI K s d 0 (.ext x q):=aW rfl
theorem JW (d:Option Nat) (x:IV):fW P ⟨d,.nchk x,g⟩ s K=RI K s d 0 (.nchk x):=aW rfl
theorem OJ (d:Option Nat) (f:FuncId) (cs:List IV):fW P ⟨d,.mkf f cs,g⟩ s K=RI K s d 0 (.mkf f cs):=aW rfl
theorem J0 (d:Option Nat) (x q:IV):fW P ⟨d,.sidx x q,g⟩ s K=RI K s d 0 (.sidx x q):=aW rfl
theorem OT (d:Nat) (t:TypeId) (cs:List AV):fW P ⟨some d,.new t cs,g⟩ s K=(d<1000∧bJ (qA K (s.kill d) (some d)) (bB d (.new t cs) (val (get (s.kill d).env)) (ae (s.kill d).heap))):=aW rfl
theorem Ox (d:Nat) (t:TypeId) (n:Nat) (x:IV):fW P ⟨some d,.box t n x,g⟩ s K=(d<1000∧bJ (qA K (s.kill d) (some d)) (bB d (.box t n x) (val (get (s.kill d).env)) (ae (s.kill d).heap))):=aW rfl
theorem Oy (d:Nat) (t:TypeId) (st:Nat) (rows:List (List AV)) (ps:List (Nat×IV)):fW P ⟨some d,.bsl t st rows ps,g⟩ s K=(d<1000∧xJ (Iq ⟨some d,.bsl t st rows ps,g⟩ s K) (qA K (s.kill d) (some d)) (bB d (.bsl t st rows ps) (val (get (s.kill d).env)) (ae (s.kill d).heap))):=aW rfl
theorem Ov (d:Nat) (t:TypeId) (st:Nat) (x y:IV):fW P ⟨some d,.app t st x y,g⟩ s K=(d<1000∧bJ (qA K (s.kill d) (some d)) (bB d (.app t st x y) (val (get (s.kill d).env)) (ae (s.kill d).heap))):=aW rfl
theorem JQ (d:Nat) (t:TypeId) (x y:IV):fW P ⟨some d,.apps t x y,g⟩ s K=(d<1000∧bJ (qA K (s.kill d) (some d)) (bB d (.apps t x y) (val (get (s.kill d).env)) (ae (s.kill d).heap))):=aW rfl
theorem OA (d:Nat) (t:TypeId) (x:IV):fW P ⟨some d,.cvb t x,g⟩ s K=(d<1000∧bJ (qA K (s.kill d) (some d)) (bB d (.cvb t x) (val (get (s.kill d).env)) (ae (s.kill d).heap))):=aW rfl
theorem OL (d:Nat) (t:TypeId) (st:Nat) (z:List AV) (l c:IV):fW P ⟨some d,.mks t st z l c,g⟩ s K=(d<1000∧bJ (qA K (s.kill d) (some d)) (bB d (.mks t st z l c) (val (get (s.kill d).env)) (ae (s.kill d).heap))):=aW rfl
end
section
variable (al:List (Nat×Nat)) (i:Nat) (g:Option (Nat×Bool)) (bf:List Nat) (hist:List HI) (s:St) (K:List HI→St→Prop)
theorem Jv (d:Option Nat) (x:IV):cu P al i ⟨⟨d,.mov x,g⟩,bf⟩ hist s K=RD al i bf hist K s d 0 (.mov x):=aW rfl
theorem E3 (d:Option Nat) (c a b:IV):cu P al i ⟨⟨d,.pick c a b,g⟩,bf⟩ hist s K=RD al i bf hist K s d 0 (.pick c a b):=aW rfl
theorem BG (d:Option Nat) (cs:List AV) (ps:List (Nat×Nat×IV)):cu P al i ⟨⟨d,.build cs ps,g⟩,bf⟩ hist s K=RD al i bf hist K s d 0 (.build cs ps):=aW rfl
theorem EZ (d:Option Nat) (n:Option Nat) (p:IV):cu P al i ⟨⟨d,.load n p,g⟩,bf⟩ hist s K=RD al i bf hist K s d 0 (.load n p):=aW rfl
theorem BI (d:Option Nat) (n:Nat) (p x:IV):cu P al i ⟨⟨d,.store n p x,g⟩,bf⟩ hist s K=RD al i bf hist K s d 0 (.store n p x):=aW rfl
theorem EX (d:Option Nat) (o:Nat) (p:IV):cu P al i ⟨⟨d,.fadr o p,g⟩,bf⟩ hist s K=RD al i bf hist K s d 0 (.fadr o p):=aW rfl
theorem Jm (d:Option Nat) (o:Nat) (n:Option Nat) (x:IV):cu P al i ⟨⟨d,.fld o n x,g⟩,bf⟩ hist s K=RD al i bf hist K s d 0 (.fld o n x):=aW rfl
theorem EY (d:Option Nat) (st:Nat) (x q:IV):cu P al i ⟨⟨d,.iadr st x q,g⟩,bf⟩ hist s K=RD al i bf hist K s d 0 (.iadr st x q):=aW rfl
theorem ET (d:Option Nat) (st n:Nat) (x q:IV):cu P al i ⟨⟨d,.aadr st n x q,g⟩,bf⟩ hist s K=RD al i bf hist K s d 0 (.aadr st n x q):=aW rfl
theorem Ju (d:Option Nat) (m:Bool) (x y:IV):cu P al i ⟨⟨d,.mnx m x y,g⟩,bf⟩ hist s K=RD al i bf hist K s d 0 (.mnx m x y):=aW rfl
theorem Jf (d:Option Nat) (st:Nat) (x y:IV):cu P al i ⟨⟨d,.cpy st x y,g⟩,bf⟩ hist s K=RD al i bf hist K s d 0 (.cpy st x y):=aW rfl
theorem JC (d:Option Nat) (x y:IV):cu P al i ⟨⟨d,.sib x y,g⟩,bf⟩ hist s K=RD al i bf hist K s d 0 (.sib x y):=aW rfl
theorem Ji (d:Option Nat) (x:IV):cu P al i ⟨⟨d,.cvm x,g⟩,bf⟩ hist s K=RD al i bf hist K s d 0 (.cvm x):=aW rfl
theorem JD (d:Option Nat) (st:Nat) (x:IV) (lo hi mx:Option IV):cu P al i ⟨⟨d,.slc st x lo hi mx,g⟩,bf⟩ hist s K=RD al i bf hist K s d 0 (.slc st x lo hi mx):=aW rfl
theorem Jn (d:Option Nat) (x:IV):cu P al i ⟨⟨d,.len x,g⟩,bf⟩ hist s K=RD al i bf hist K s d 0 (.len x):=aW rfl
theorem E7 (d:Option Nat) (x:IV):cu P al i ⟨⟨d,.slen x,g⟩,bf⟩ hist s K=RD al i bf hist K s d 0 (.slen x):=aW rfl
theorem E8 (d:Option Nat) (x:IV) (lo hi:Option IV):cu P al i ⟨⟨d,.sslc x lo hi,g⟩,bf⟩ hist s K=RD al i bf hist K s d 0 (.sslc x lo hi):=aW rfl
theorem Jc (d:Option Nat) (o:BinOp) (x y:IV):cu P al i ⟨⟨d,.bin o x y,g⟩,bf⟩ hist s K=RD al i bf hist K s d 0 (.bin o x y):=aW rfl
theorem EV (d:Option Nat) (o:BinOp) (x y:IV):cu P al i ⟨⟨d,.bbin o x y,g⟩,bf⟩ hist s K=RD al i bf hist K s d 0 (.bbin o x y):=aW rfl
theorem E1 (d:Option Nat) (o:BinOp) (x y:IV):cu P al i ⟨⟨d,.pbin o x y,g⟩,bf⟩ hist s K=RD al i bf hist K s d 0 (.pbin o x y):=aW rfl
theorem E4 (d:Option Nat) (o:BinOp) (ls:List LK) (x y:IV):cu P al i ⟨⟨d,.sbin o ls x y,g⟩,bf⟩ hist s K=RD al i bf hist K s d 0 (.sbin o ls x y):=aW rfl
theorem Om (d:Option Nat) (o:UnOp) (x:IV):cu P al i ⟨⟨d,.un o x,g⟩,bf⟩ hist s K=RD al i bf hist K s d 0 (.un o x):=aW rfl
theorem Jh (d:Option Nat) (k:IntKind) (x:IV):cu P al i ⟨⟨d,.cvi k x,g⟩,bf⟩ hist s K=RD al i bf hist K s d 0 (.cvi k x):=aW rfl
theorem Jj (d:Option Nat) (x:IV):cu P al i ⟨⟨d,.cvs x,g⟩,bf⟩ hist s K=RD al i bf hist K s d 0 (.cvs x):=aW rfl
theorem Jk (d:Option Nat) (x:IV):cu P al i ⟨⟨d,.cvt x,g⟩,bf⟩ hist s K=RD al i bf hist K s d 0 (.cvt x):=aW rfl
theorem Jl (d:Option Nat) (x:IV) (q:Nat):cu P al i ⟨⟨d,.ext x q,g⟩,bf⟩ hist s K=RD al i bf hist K s d 0 (.ext x q):=aW rfl
theorem E0 (d:Option Nat) (x:IV):cu P al i ⟨⟨d,.nchk x,g⟩,bf⟩ hist s K=RD al i bf hist K s d 0 (.nchk x):=aW rfl
theorem Jo (d:Option Nat) (f:FuncId) (cs:List IV):cu P al i ⟨⟨d,.mkf f cs,g⟩,bf⟩ hist s K=RD al i bf hist K s d 0 (.mkf f cs):=aW rfl
theorem E5 (d:Option Nat) (x q:IV):cu P al i ⟨⟨d,.sidx x q,g⟩,bf⟩ hist s K=RD al i bf hist K s d 0 (.sidx x q):=aW rfl
theorem Jz (d:Nat) (t:TypeId) (cs:List AV):cu P al i ⟨⟨some d,.new t cs,g⟩,bf⟩ hist s K=RD al i bf hist K s (some d) d (.new t cs):=aW rfl
theorem Jd (d:Nat) (t:TypeId) (n:Nat) (x:IV):cu P al i ⟨⟨some d,.box t n x,g⟩,bf⟩ hist s K=RD al i bf hist K s (some d) d (.box t n x):=aW rfl
theorem Je (d:Nat) (t:TypeId) (st:Nat) (rows:List (List AV)) (ps:List (Nat×IV)):cu P al i ⟨⟨some d,.bsl t st rows ps,g⟩,bf⟩ hist s K=RD al i bf hist K s (some d) d (.bsl t st rows ps):=aW rfl
theorem EU (d:Nat) (t:TypeId) (x y:IV):cu P al i ⟨⟨some d,.apps t x y,g⟩,bf⟩ hist s K=RD al i bf hist K s (some d) d (.apps t x y):=aW rfl
theorem Jg (d:Nat) (t:TypeId) (x:IV):cu P al i ⟨⟨some d,.cvb t x,g⟩,bf⟩ hist s K=RD al i bf hist K s (some d) d (.cvb t x):=aW rfl
theorem Jq (d:Nat) (t:TypeId) (st:Nat) (z:List AV) (l c:IV):cu P al i ⟨⟨some d,.mks t st z l c,g⟩,bf⟩ hist s K=RD al i bf hist K s (some d) d (.mks t st z l c):=aW rfl
end
theorem S0 (d:Nat) (x:IV) (ρ:IV→AV) (h:Nat→Option ah):bB d (.mov x) ρ h=some (ρ x,.no):=rfl
def iI (c a b:AV):Option (AV×aT) :=
 match c with
 | .bool true=>some (a,.no)
 | .bool false=>some (b,.no)
 | _=>none
theorem NE (d:Nat) (c a b:IV) (ρ:IV→AV) (h:Nat→Option ah):bB d (.pick c a b) ρ h=iI (ρ c) (ρ a) (ρ b):=rfl
theorem PY (a b:AV):iI (.bool true) a b=some (a,.no):=rfl
theorem PX (a b:AV):iI (.bool false) a b=some (b,.no):=rfl
theorem Cc (K:AV→aT→Prop) (t:Bool) (a b:AV):bJ K (iI (.bool t) a b)=((t=true→K a .no)∧(t=false→K b .no)):=by cases t<;>simp [bJ,iI]
theorem S4 (d:Nat) (t:TypeId) (cs:List AV) (ρ:IV→AV) (h:Nat→Option ah):bB d (.new t cs) ρ h=some (.mp d cs.length 0 0,.new d ⟨t,cs.length,[cs],true⟩):=aW rfl
def NT (d:Nat) (t:TypeId) (n:Nat) (x:Option (List AV)):Option (AV×aT) :=
 match x with
 | some cs=>if cs.length=n∧(cs.all fun y=>!(mC d y))=true then some (.mp d n 0 0,.new d ⟨t,n,[cs],true⟩) else none
 | none=>none
theorem Ey (d:Nat) (t:TypeId) (n:Nat) (cs:List AV):NT d t n (some cs)=if cs.length=n∧(cs.all fun y=>!(mC d y))=true then some (.mp d n 0 0,.new d ⟨t,n,[cs],true⟩) else none:=rfl
theorem SM (d:Nat) (t:TypeId) (n:Nat) (x:IV) (ρ:IV→AV) (h:Nat→Option ah):bB d (.box t n x) ρ h=NT d t n (eG (ρ x)):=aW rfl
theorem Id (d:Nat) (cs:List AV) (ps:List (Nat×Nat×IV)) (ρ:IV→AV) (h:Nat→Option ah):bB d (.build cs ps) ρ h=res ((gO ρ cs ps).map .agg):=aW rfl
def Io (d:Nat) (t:TypeId) (st:Nat) (x:Option (List (List AV))):Option (AV×aT) :=
 match x with
 | some rs=>some (.ms d st 0 rs.length,.new d ⟨t,st,rs,false⟩)
 | none=>none
theorem Ez (d:Nat) (t:TypeId) (st:Nat):Io d t st none=none:=rfl
theorem EA (d:Nat) (t:TypeId) (st:Nat) (rs:List (List AV)):Io d t st (some rs)=some (.ms d st 0 rs.length,.new d ⟨t,st,rs,false⟩):=rfl
theorem SN (d:Nat) (t:TypeId) (st:Nat) (rows:List (List AV)) (ps:List (Nat×IV)) (ρ:IV→AV) (h:Nat→Option ah):bB d (.bsl t st rows ps) ρ h=Io d t st (iV ρ st rows ps):=aW rfl
theorem NB (d:Nat) (n:Option Nat) (p:IV) (ρ:IV→AV) (h:Nat→Option ah):bB d (.load n p) ρ h=res (gT n (ρ p) h):=aW rfl
def Qs (x:Option aT):Option (AV×aT):=x.map fun e=>(.any,e)
theorem F9 (e:aT):Qs (some e)=some (.any,e):=rfl
theorem MB (c:Prop) [Decidable c] (x:Option aT):Qs (if c then x else none)=if c then Qs x else none:=by split<;>rfl
theorem Ie (d:Nat) (n:Nat) (p x:IV) (ρ:IV→AV) (h:Nat→Option ah):bB d (.store n p x) ρ h=Qs (ga n (ρ p) (ρ x) h):=aW rfl
theorem Nz (d:Nat) (o:Nat) (p:IV) (ρ:IV→AV) (h:Nat→Option ah):bB d (.fadr o p) ρ h=res (wF o (ρ p)):=aW rfl
theorem SV (d:Nat) (o:Nat) (n:Option Nat) (x:IV) (ρ:IV→AV) (h:Nat→Option ah):bB d (.fld o n x) ρ h=res (HJ o n (ρ x)):=aW rfl
theorem NA (d:Nat) (st:Nat) (x q:IV) (ρ:IV→AV) (h:Nat→Option ah):bB d (.iadr st x q) ρ h=res (qe st (ρ x) (ρ q)):=aW rfl
theorem Nw (d:Nat) (st n:Nat) (x q:IV) (ρ:IV→AV) (h:Nat→Option ah):bB d (.aadr st n x q) ρ h=res (wD st n (ρ x) (ρ q)):=aW rfl
theorem SZ (d:Nat) (m:Bool) (x y:IV) (ρ:IV→AV) (h:Nat→Option ah):bB d (.mnx m x y) ρ h=res (zn m (ρ x) (ρ y)):=aW rfl
theorem SO (d:Nat) (st:Nat) (x y:IV) (ρ:IV→AV) (h:Nat→Option ah):bB d (.cpy st x y) ρ h=qu st (ρ x) (eD st h (ρ y)) h:=aW rfl
theorem SR (d:Nat) (x:IV) (ρ:IV→AV) (h:Nat→Option ah):bB d (.cvm x) ρ h=xU (ρ x) h:=aW rfl
theorem S9 (d:Nat) (x y:IV) (ρ:IV→AV) (h:Nat→Option ah):bB d (.sib x y) ρ h=res (H2 (ρ x) (ρ y)):=aW rfl
theorem S_ (d:Nat) (st:Nat) (x:IV) (lo hi mx:Option IV) (ρ:IV→AV) (h:Nat→Option ah):bB d (.slc st x lo hi mx) ρ h=res (gB st (ρ x) (lo.map ρ) (hi.map ρ) (mx.map ρ)):=aW rfl
theorem SW (d:Nat) (x:IV) (ρ:IV→AV) (h:Nat→Option ah):bB d (.len x) ρ h=res (Bg (ρ x)):=aW rfl
theorem NH (d:Nat) (x:IV) (ρ:IV→AV) (h:Nat→Option ah):bB d (.slen x) ρ h=res (zA (ρ x)):=aW rfl
theorem SK (d:Nat) (t:TypeId) (st:Nat) (x y:IV) (ρ:IV→AV) (h:Nat→Option ah):bB d (.app t st x y) ρ h=jq d t st (ρ x) (eD st h (ρ y)) h:=aW rfl
theorem Nx (d:Nat) (t:TypeId) (x y:IV) (ρ:IV→AV) (h:Nat→Option ah):bB d (.apps t x y) ρ h=jq d t 1 (ρ x) (My (ρ y)) h:=aW rfl
theorem NI (d:Nat) (x:IV) (lo hi:Option IV) (ρ:IV→AV) (h:Nat→Option ah):bB d (.sslc x lo hi) ρ h=res (j3 (ρ x) (lo.map ρ) (hi.map ρ)):=aW rfl
theorem SL (d:Nat) (o:BinOp) (x y:IV) (ρ:IV→AV) (h:Nat→Option ah):bB d (.bin o x y) ρ h=res (fX o (ρ x) (ρ y)):=aW rfl
theorem Ny (d:Nat) (o:BinOp) (x y:IV) (ρ:IV→AV) (h:Nat→Option ah):bB d (.bbin o x y) ρ h=res (wE o (ρ x) (ρ y)):=aW rfl
theorem ND (d:Nat) (o:BinOp) (x y:IV) (ρ:IV→AV) (h:Nat→Option ah):bB d (.pbin o x y) ρ h=res (lJ o (ρ x) (ρ y)):=aW rfl
theorem NF (d:Nat) (o:BinOp) (ls:List LK) (x y:IV) (ρ:IV→AV) (h:Nat→Option ah):bB d (.sbin o ls x y) ρ h=res (j1 o ls (ρ x) (ρ y)):=aW rfl
theorem Wy (d:Nat) (o:UnOp) (x:IV) (ρ:IV→AV) (h:Nat→Option ah):bB d (.un o x) ρ h=res (V9 o (ρ x)):=aW rfl
def Yo (k:IntKind) (x:AV):Option (AV×aT) :=
 match x with
 | .int _ n=>some (.int k (k.wrap n),.no)
 | _=>none
theorem IG (k k':IntKind) (n:Int):Yo k (.int k' n)=some (.int k (k.wrap n),.no):=rfl
def N3 (x:Option (List (List AV))):Option (AV×aT) :=
 match x with
 | some rows=>res ((jM rows).map .str)
 | none=>none
theorem EF (rows:List (List AV)):N3 (some rows)=res ((jM rows).map .str):=rfl
theorem IJ (c:Prop) [Decidable c] (x:Option (List (List AV))):N3 (if c then x else none)=if c then N3 x else none:=by split<;>rfl
def Yn (d:Nat) (t:TypeId) (x:AV):Option (AV×aT) :=
 match x with
 | .str s=>if s.length<1073741824 then some (.ms d 1 0 s.length,.new d ⟨t,1,s.map fun b=>[.int .u8 b.toNat],false⟩) else none
 | _=>none
theorem IF (d:Nat) (t:TypeId) (s:List UInt8):Yn d t (.str s)=if s.length<1073741824 then some (.ms d 1 0 s.length,.new d ⟨t,1,s.map fun b=>[.int .u8 b.toNat],false⟩) else none:=rfl
def Yx (i:Nat) (x:AV):Option (AV×aT) :=
 match x with
 | .tup vs=>res (vs[i]?)
 | _=>none
theorem IW (i:Nat) (vs:List AV):Yx i (.tup vs)=res (vs[i]?):=rfl
def Dy (x:AV):Option (AV×aT) :=
 match x with
 | .mp id st row off=>some (.mp id st row off,.no)
 | .ip cells=>some (.ip cells,.no)
 | .fn f caps=>some (.fn f caps,.no)
 | _=>none
theorem K4 (id st row off:Nat):Dy (.mp id st row off)=some (.mp id st row off,.no):=rfl
theorem K3 (cells:List AV):Dy (.ip cells)=some (.ip cells,.no):=rfl
theorem K2 (f:FuncId) (caps:List AV):Dy (.fn f caps)=some (.fn f caps,.no):=rfl
def Yp (x:AV):Option (AV×aT) :=
 match x with
 | .str s=>some (.str s,.no)
 | _=>none
theorem IK (s:List UInt8):Yp (.str s)=some (.str s,.no):=rfl
def Mp (x i:AV):Option (AV×aT) :=
 match x,i with
 | .str s,.int _ n=>if 0≤n then (match s[n.toNat]? with | some b=>some (.int .u8 b.toNat,.no) | none=>none) else none
 | _,_=>none
theorem FZ (K:AV→aT→Prop) (s:List UInt8) (k:IntKind) (n:Int):bJ K (Mp (.str s) (.int k n))=(0≤n∧n<s.length∧K (.int .u8 (au s n.toNat).toNat) .no):=by
 simp only [Mp]
 by_cases h:0≤n
 ·rw [av h]
  by_cases h2:n.toNat<s.length
  ·rw [gn h2]
   rw [aX h2]
   simp only [bJ]
   exact propext ⟨fun hk=>⟨h,by omega,hk⟩,fun hk=>hk.2.2⟩
  ·rw [List.getElem?_eq_none (by omega)]
   simp only [bJ]
   exact propext ⟨fun hk=>hk.elim,fun hk=>by omega⟩
 ·rw [ar h]
  simp only [bJ]
  exact propext ⟨fun hk=>hk.elim,fun hk=>absurd hk.1 h⟩
def Zk (d:Nat) (t:TypeId) (st:Nat) (zero:List AV) (l cp:AV):Option (AV×aT) :=
 match l,cp with
 | .int .i64 n,.int .i64 m=>if 0≤n∧n≤m∧m<1073741824∧zero.length=st then some (.ms d st 0 n.toNat,.new d ⟨t,st,List.replicate n.toNat zero,false⟩) else none
 | _,_=>none
theorem KV (d:Nat) (t:TypeId) (st:Nat) (zero:List AV) (n m:Int):Zk d t st zero (.int .i64 n) (.int .i64 m)=if 0≤n∧n≤m∧m<1073741824∧zero.length=st then some (.ms d st 0 n.toNat,.new d ⟨t,st,List.replicate n.toNat zero,false⟩) else none:=rfl
theorem SQ (d:Nat) (k:IntKind) (x:IV) (ρ:IV→AV) (h:Nat→Option ah):bB d (.cvi k x) ρ h=Yo k (ρ x):=aW rfl
theorem SS (d:Nat) (x:IV) (ρ:IV→AV) (h:Nat→Option ah):bB d (.cvs x) ρ h=N3 (eD 1 h (ρ x)):=aW rfl
theorem SP (d:Nat) (t:TypeId) (x:IV) (ρ:IV→AV) (h:Nat→Option ah):bB d (.cvb t x) ρ h=Yn d t (ρ x):=aW rfl
theorem ST (d:Nat) (x:IV) (ρ:IV→AV) (h:Nat→Option ah):bB d (.cvt x) ρ h=Yp (ρ x):=aW rfl
theorem SU (d:Nat) (x:IV) (q:Nat) (ρ:IV→AV) (h:Nat→Option ah):bB d (.ext x q) ρ h=Yx q (ρ x):=aW rfl
theorem NC (d:Nat) (x:IV) (ρ:IV→AV) (h:Nat→Option ah):bB d (.nchk x) ρ h=Dy (ρ x):=aW rfl
theorem NG (d:Nat) (x q:IV) (ρ:IV→AV) (h:Nat→Option ah):bB d (.sidx x q) ρ h=Mp (ρ x) (ρ q):=aW rfl
theorem SY (d:Nat) (t:TypeId) (st:Nat) (z:List AV) (l c:IV) (ρ:IV→AV) (h:Nat→Option ah):bB d (.mks t st z l c) ρ h=Zk d t st z (ρ l) (ρ c):=aW rfl
theorem SX (d:Nat) (f:FuncId) (cs:List IV) (ρ:IV→AV) (h:Nat→Option ah):bB d (.mkf f cs) ρ h=if (cs.map ρ).all Iw=true then some (.fn f (cs.map ρ),.no) else none:=aW rfl
theorem Hq (k:IntKind) (a b:Int):fX .add (.int k a) (.int k b)=some (.int k (k.wrap (a+b))):=by cases k<;>rfl
theorem HE (k:IntKind) (a b:Int):fX .sub (.int k a) (.int k b)=some (.int k (k.wrap (a - b))):=by cases k<;>rfl
theorem Hy (k:IntKind) (a b:Int):fX .mul (.int k a) (.int k b)=some (.int k (k.wrap (a * b))):=by cases k<;>rfl
theorem Ht (k:IntKind) (a b:Int):fX .eql (.int k a) (.int k b)=some (.bool (a==b)):=by cases k<;>rfl
theorem Hz (k:IntKind) (a b:Int):fX .neq (.int k a) (.int k b)=some (.bool (a != b)):=by cases k<;>rfl
theorem Hx (k:IntKind) (a b:Int):fX .lss (.int k a) (.int k b)=some (.bool (decide (a<b))):=by cases k<;>rfl
theorem Hw (k:IntKind) (a b:Int):fX .leq (.int k a) (.int k b)=some (.bool (decide (a≤b))):=by cases k<;>rfl
theorem Hv (k:IntKind) (a b:Int):fX .gtr (.int k a) (.int k b)=some (.bool (decide (a>b))):=by cases k<;>rfl
theorem Hu (k:IntKind) (a b:Int):fX .geq (.int k a) (.int k b)=some (.bool (decide (a≥b))):=by cases k<;>rfl
theorem HA (k:IntKind) (a b:Int):fX .quo (.int k a) (.int k b)=if b=0 then none else some (.int k (k.wrap (a.tdiv b))):=by cases k<;>rfl
theorem HB (k:IntKind) (a b:Int):fX .rem (.int k a) (.int k b)=if b=0 then none else some (.int k (a.tmod b)):=by cases k<;>rfl
def WN (k:IntKind) (a b:Int):Int:=k.wrap ((BitVec.ofInt k.bits a &&& BitVec.ofInt k.bits b).toNat)
theorem Hs (k:IntKind) (a b:Int):fX .and (.int k a) (.int k b)=some (.int k (WN k a b)):=by cases k<;>rfl
def aci (k:IntKind) (a b:Int):Int:=k.wrap ((BitVec.ofInt k.bits a ||| BitVec.ofInt k.bits b).toNat)
theorem M9 (k:IntKind) (a b:Int):fX .or (.int k a) (.int k b)=some (.int k (aci k a b)):=by cases k<;>rfl
def WQ (k:IntKind) (a b:Int):Int:=k.wrap ((BitVec.ofInt k.bits a ^^^ BitVec.ofInt k.bits b).toNat)
theorem HF (k:IntKind) (a b:Int):fX .xor (.int k a) (.int k b)=some (.int k (WQ k a b)):=by cases k<;>rfl
def Ig (k:IntKind) (a b:Int):Int:=k.wrap ((BitVec.ofInt k.bits a &&& ~~~ (BitVec.ofInt k.bits b)).toNat)
theorem zk (k:IntKind) (a b:Int):fX .andNot (.int k a) (.int k b)=some (.int k (Ig k a b)):=by cases k<;>rfl
def WO (k:IntKind) (a b:Int):Int:=k.wrap (a * 2 ^ (min b.toNat k.bits))
def WP (k:IntKind) (a b:Int):Int:=a.fdiv (2 ^ (min b.toNat k.bits))
theorem HC (k k1:IntKind) (a b:Int):fX .shl (.int k a) (.int k1 b)=if b<0 then none else some (.int k (WO k a b)):=aW rfl
theorem HD (k k1:IntKind) (a b:Int):fX .shr (.int k a) (.int k1 b)=if b<0 then none else some (.int k (WP k a b)):=aW rfl
theorem Eb (a b:List UInt8):fX .add (.str a) (.str b)=if a.length+b.length<4611686018427387904 then some (.str (a++b)) else none:=aW rfl
theorem Ec (a b:List UInt8):fX .eql (.str a) (.str b)=some (.bool (a==b)):=aW rfl
theorem Eh (a b:List UInt8):fX .neq (.str a) (.str b)=some (.bool (!(a==b))):=aW rfl
theorem Eg (a b:List UInt8):fX .lss (.str a) (.str b)=some (.bool (Op.bytesLess a b)):=aW rfl
theorem Ef (a b:List UInt8):fX .leq (.str a) (.str b)=some (.bool (Op.bytesLess a b||a==b)):=aW rfl
theorem Ee (a b:List UInt8):fX .gtr (.str a) (.str b)=some (.bool (!(Op.bytesLess a b||a==b))):=aW rfl
theorem Ed (a b:List UInt8):fX .geq (.str a) (.str b)=some (.bool (!(Op.bytesLess a b))):=aW rfl
theorem D_ (a b:Bool):wE .eql (.bool a) (.bool b)=some (.bool (a==b)):=rfl
theorem Ea (a b:Bool):wE .neq (.bool a) (.bool b)=some (.bool (!(a==b))):=rfl
theorem Nu (a:Bool):V9 .not (.bool a)=some (.bool (!a)):=rfl
theorem Nt (k:IntKind) (n:Int):V9 .neg (.int k n)=some (.int k (k.wrap (0 - n))):=rfl
theorem Nl (l:LK) (ls:List LK) (xs ys:List AV):j1 .eql (l :: ls) (.agg xs) (.agg ys)=(f_ (l :: ls) xs ys).map .bool:=rfl
theorem Nn (l:LK) (ls:List LK) (xs ys:List AV):j1 .neq (l :: ls) (.agg xs) (.agg ys)=(f_ (l :: ls) xs ys).map fun b=>.bool (!b):=rfl
theorem HY (f:FuncId) (cs:List AV):j1 .eql [] (.fn f cs) .nf=some (.bool false):=rfl
theorem HZ (f:FuncId) (cs:List AV):j1 .neq [] (.fn f cs) .nf=some (.bool true):=rfl
theorem H0:j1 .eql [] .nf .nf=some (.bool true):=rfl
theorem H1:j1 .neq [] .nf .nf=some (.bool false):=rfl
theorem SJ:f_ [] [] []=some true:=rfl
def sqK (p:Option Bool) (q:Option Bool):Option Bool:=match p,q with
 | some p,some q=>some (p&&q)
 | _,_=>none
theorem Mx (p q:Bool):sqK (some p) (some q)=some (p&&q):=rfl
theorem SI (l:LK) (ls:List LK) (x y:AV) (xs ys:List AV):f_ (l :: ls) (x :: xs) (y :: ys)=sqK (gh l x y) (f_ ls xs ys):=rfl
theorem Kq (p q:Bool):gh .b (.bool p) (.bool q)=some (p==q):=rfl
theorem Kr (k:IntKind) (p q:Int):gh .i (.int k p) (.int k q)=some (p==q):=by simp [gh]
theorem Ks (p q:List UInt8):gh .s (.str p) (.str q)=some (p==q):=rfl
theorem HS:lJ .eql .np .np=some (.bool true):=rfl
theorem HT (id st row off:Nat):lJ .eql (.mp id st row off) .np=some (.bool false):=rfl
theorem HU (cells:List AV):lJ .eql (.ip cells) .np=some (.bool false):=rfl
theorem HV:lJ .neq .np .np=some (.bool false):=rfl
theorem HW (id st row off:Nat):lJ .neq (.mp id st row off) .np=some (.bool true):=rfl
theorem HX (cells:List AV):lJ .neq (.ip cells) .np=some (.bool true):=rfl
theorem Nf (st:Nat) (rows:List (List AV)):Bg (.sl st rows)=some (.int .i64 rows.length):=rfl
theorem Nb (id st off len:Nat):Bg (.ms id st off len)=some (.int .i64 len):=rfl
theorem Nc:Bg .nl=some (.int .i64 0):=rfl
theorem En (s:List UInt8):zA (.str s)=some (.int .i64 s.length):=rfl
theorem HN (n:Option Nat) (cells:List AV) (h:Nat→Option ah):gT n (.ip cells) h=m_ n cells:=rfl
def Uo (n:Option Nat) (st row off:Nat) (o:Option ah):Option AV :=
 match o with
 | some o=>if o.st=st then (match o.rows[row]? with | some r=>m_ n (r.drop off) | none=>none) else none
 | none=>none
theorem HO (n:Option Nat) (id st row off:Nat) (h:Nat→Option ah):gT n (.mp id st row off) h=Uo n st row off (h id):=rfl
theorem Pm (n:Option Nat) (st off:Nat) (t:TypeId) (r:List AV) (b:Bool):Uo n st 0 off (some ⟨t,st,[r],b⟩)=m_ n (r.drop off):=by simp [Uo]
theorem Pl {α:Type} [Inhabited α] (K:AV→aT→Prop) (n:Option Nat) (st row off:Nat) (t:TypeId) (l:List α) (f:α→List AV) (b:Bool) :
  bJ K (res (Uo n st row off (some ⟨t,st,l.map f,b⟩)))=(row<l.length∧bJ K (res (m_ n ((f (au l row)).drop off)))):=by
 simp only [Uo,dl]
 by_cases h2:row<l.length
 ·rw [db,gn h2,aX h2]
  simp [h2]
 ·rw [List.getElem?_eq_none (by simpa using h2)]
  simp [h2,res,bJ]
theorem YZ (x:AV) (r:List AV):m_ none (x :: r)=some x:=rfl
theorem Y0 (n:Nat) (r:List AV):m_ (some n) r=if n≤r.length then some (.agg (r.take n)) else none:=rfl
def sO (id n st row off:Nat) (o:Option ah) (cs:Option (List AV)):Option aT :=
 match cs with
 | some cs=>match o with
  | some o=>if o.st=st∧cs.length=n∧(o.isRec||cs.all fH)=true then (match o.rows[row]? with
   | some r=>if off+n≤r.length then some (.put id { o with rows:=o.rows.set row (dP r off cs) }) else none
   | none=>none) else none
  | none=>none
 | none=>none
theorem Eo (n id st row off:Nat) (x:AV) (h:Nat→Option ah):ga n (.mp id st row off) x h=sO id n st row off (h id) (eG x):=by
 unfold ga sO
 cases eG x<;>rfl
theorem Qr (id n st off:Nat) (t:TypeId) (r cs:List AV):sO id n st 0 off (some ⟨t,st,[r],true⟩) (some cs)=if cs.length=n∧off+n≤r.length then some (.put id ⟨t,st,[dP r off cs],true⟩) else none:=by
 simp only [sO,true_and,vM,and_true,List.getElem?_cons_zero,List.set_cons_zero]
 by_cases h1:cs.length=n<;>by_cases h2:off+n≤r.length<;>simp [h1,h2]
theorem Qp (id n st row:Nat) (t:TypeId) (rows:List (List AV)) (cs:List AV) (hn:∀r∈rows,r.length=n):sO id n st row 0 (some ⟨t,st,rows,false⟩) (some cs)=if cs.length=n∧cs.all fH=true∧row<rows.length then some (.put id ⟨t,st,rows.set row cs,false⟩) else none:=by
 simp only [sO,true_and,oh]
 by_cases h3:row<rows.length
 ·rw [gn h3]
  have hl:=hn _ (List.getElem_mem h3)
  by_cases h1:cs.length=n<;>by_cases h2:cs.all fH=true<;>simp [h1,h2,h3,hl,dP]
  rw [List.drop_eq_nil_of_le (by omega),jJ]
 ·rw [List.getElem?_eq_none (by omega)]
  simp [h3]
theorem HG (off:Nat) (cells:List AV):wF off (.ip cells)=some (.ip (cells.drop off)):=rfl
theorem HH (off id st row o:Nat):wF off (.mp id st row o)=some (.mp id st row (o+off)):=rfl
theorem HK (off:Nat) (n:Option Nat) (cells:List AV):HJ off n (.agg cells)=m_ n (cells.drop off):=rfl
theorem Ei {α:Type} [Inhabited α] (K:AV→aT→Prop) (st:Nat) (l:List α) (f:α→List AV) (k:IntKind) (n:Int) :
  bJ K (res (qe st (.sl st (l.map f)) (.int k n)))=(0≤n∧n<l.length∧K (.ip (f (au l n.toNat))) .no):=by
 simp only [qe,true_and]
 by_cases h:0≤n
 ·rw [av h]
  by_cases h2:n.toNat<l.length
  ·rw [db,gn h2,aX h2]
   simp only [eH,res,bJ]
   exact propext ⟨fun hk=>⟨h,by omega,hk⟩,fun hk=>hk.2.2⟩
  ·rw [List.getElem?_eq_none (by simp;omega)]
   exact propext ⟨fun hk=>hk.elim,fun hk=>by omega⟩
 ·rw [ar h]
  exact propext ⟨fun hk=>hk.elim,fun hk=>absurd hk.1 h⟩
theorem Ho (st n:Nat) (cells:List AV) (k:IntKind) (j:Int):wD st n (.ip cells) (.int k j)=if 0≤j∧j<n then some (.ip (cells.drop (j.toNat * st))) else none:=rfl
theorem Hp (st n id s row off:Nat) (k:IntKind) (j:Int):wD st n (.mp id s row off) (.int k j)=if 0≤j∧j<n then some (.mp id s row (off+j.toNat * st)) else none:=rfl
def N2 (id st off len:Nat) (o:Option ah):Option (AV×aT) :=
 match o with
 | some o=>if st=1∧o.st=1∧o.isRec=false∧0<len then some (.ms id st off len,.put id o) else none
 | none=>none
theorem Na (id st off len:Nat) (h:Nat→Option ah):xU (.ms id st off len) h=N2 id st off len (h id):=by simp only [xU,N2];cases h id<;>rfl
theorem II (id off len:Nat) (t:TypeId) (rows:List (List AV)):N2 id 1 off len (some ⟨t,1,rows,false⟩)=if 0<len then some (.ms id 1 off len,.put id ⟨t,1,rows,false⟩) else none:=by simp [N2]
theorem H3 (s:List UInt8) (n:Int):H2 (.str s) (.int .u8 n)=some (.int .i64 (Qi s n.toNat.toUInt8)):=rfl
def N1 (id st off len:Nat) (ys:List (List AV)) (o:Option ah):Option (AV×aT) :=
 match o with
 | some o=>if o.st=st∧o.isRec=false∧off+len≤o.rows.length then (if ys.length≤len then some (.int .i64 ys.length,.put id { o with rows:=o.rows.take off++ys++o.rows.drop (off+ys.length) }) else some (.int .i64 len,.put id { o with rows:=o.rows.take off++ys.take len++o.rows.drop (off+len) })) else none
 | none=>none
theorem M_ (st id off len:Nat) (ys:List (List AV)) (h:Nat→Option ah):qu st (.ms id st off len) (some ys) h=N1 id st off len ys (h id):=by simp only [qu,N1,true_and];cases h id<;>rfl
theorem ID (id st len:Nat) (t:TypeId) (rows ys:List (List AV)) (h1:rows.length=len) (h2:len≤ys.length):N1 id st 0 len ys (some ⟨t,st,rows,false⟩)=some (.int .i64 len,.put id ⟨t,st,ys.take len,false⟩):=by
 subst h1
 unfold N1
 by_cases h:ys.length≤rows.length
 ·have:ys.length=rows.length:=by omega
  simp [this,iq (show ys.length≤rows.length by omega)]
 ·simp [h]
theorem HQ (k:IntKind) (n m:Int):zn false (.int k n) (.int k m)=some (.int k (if m<n then m else n)):=by simp [zn]
theorem HP (k:IntKind) (n m:Int):zn true (.int k n) (.int k m)=some (.int k (if n<m then m else n)):=by simp [zn]
theorem HL (id st off len:Nat) (k:IntKind) (n:Int):qe st (.ms id st off len) (.int k n)=if 0≤n∧n<len then some (.mp id st (off+n.toNat) 0) else none:=by simp [qe]
theorem H4 (id st off len:Nat):gB st (.ms id st off len) none none none=some (.ms id st off len):=by simp [gB,bX]
theorem H5 (id st off len:Nat) (k:IntKind) (n:Int):gB st (.ms id st off len) none (some (.int k n)) none=if 0≤n∧n≤len then some (.ms id st off n.toNat) else none:=by
 simp only [gB,bX]
 by_cases h:0≤n<;>by_cases h2:n≤len<;>simp [h,h2]<;>omega
theorem H6 (id st off len:Nat) (k:IntKind) (n:Int):gB st (.ms id st off len) (some (.int k n)) none none=if 0≤n∧n≤len then some (.ms id st (off+n.toNat) (len - n.toNat)) else none:=by
 simp only [gB,bX]
 by_cases h:0≤n<;>by_cases h2:n≤len<;>simp [h,h2]<;>omega
theorem Ek (id st off len:Nat) (k k':IntKind) (n m:Int):gB st (.ms id st off len) (some (.int k n)) (some (.int k' m)) none=if 0≤n∧n≤m∧m≤len then some (.ms id st (off+n.toNat) (m - n).toNat) else none:=by
 simp only [gB,bX]
 by_cases h:0≤n
 ·by_cases h1:n≤m
  ·have hm:0≤m:=by omega
   by_cases h2:m≤len
   ·have:m.toNat - n.toNat=(m - n).toNat:=by omega
    simp [h,h1,h2,hm,this];omega
   ·simp [h,h1,h2,hm]<;>omega
  ·by_cases hm:0≤m<;>simp [h,h1,hm];omega
 ·simp [h]
theorem H_ (st:Nat) (rows:List (List AV)):gB st (.sl st rows) none none none=some (.sl st rows):=by simp [gB,bX]
theorem Ia {α:Type} (st:Nat) (f:α→List AV) (l:List α) (k:IntKind) (n:Int):gB st (.sl st (l.map f)) none (some (.int k n)) none=if 0≤n∧n≤l.length then some (.sl st ((l.take n.toNat).map f)) else none:=by
 simp only [gB,bX]
 by_cases h:0≤n<;>by_cases h2:n≤l.length<;>simp [h,h2,List.map_take]<;>omega
theorem Ib {α:Type} (st:Nat) (f:α→List AV) (l:List α) (k:IntKind) (n:Int):gB st (.sl st (l.map f)) (some (.int k n)) none none=if 0≤n∧n≤l.length then some (.sl st ((l.drop n.toNat).map f)) else none:=by
 simp only [gB,bX]
 have:(l.drop n.toNat).map f=List.take (l.length - n.toNat) (List.drop n.toNat (l.map f)):=by rw [List.map_drop,iq (by simp)]
 by_cases h:0≤n<;>by_cases h2:n≤l.length<;>simp [h,h2,this]<;>omega
theorem Em {α:Type} (st:Nat) (f:α→List AV) (l:List α) (k k':IntKind) (n m:Int):gB st (.sl st (l.map f)) (some (.int k n)) (some (.int k' m)) none=if 0≤n∧n≤m∧m≤l.length then some (.sl st (((l.drop n.toNat).take (m - n).toNat).map f)) else none:=by
 simp only [gB,bX]
 by_cases h:0≤n
 ·by_cases h1:n≤m
  ·have hm:0≤m:=by omega
   by_cases h2:m≤l.length
   ·have:m.toNat - n.toNat=(m - n).toNat:=by omega
    simp [h,h1,h2,hm,this,List.map_take,List.map_drop];omega
   ·simp [h,h1,h2,hm]<;>omega
  ·by_cases hm:0≤m<;>simp [h,h1,hm];omega
 ·simp [h]
theorem H7 (st:Nat):gB st .nl none none none=some .nl:=by simp [gB,bX]
theorem H8 (st:Nat) (k:IntKind) (n:Int):gB st .nl none (some (.int k n)) none=if n=0 then some .nl else none:=by
 simp only [gB,bX]
 by_cases h:0≤n<;>by_cases h2:n=0<;>simp [h,h2]<;>omega
theorem H9 (st:Nat) (k:IntKind) (n:Int):gB st .nl (some (.int k n)) none none=if n=0 then some .nl else none:=by
 simp only [gB,bX]
 by_cases h:0≤n<;>by_cases h2:n=0<;>simp [h,h2]<;>omega
theorem Np (s:List UInt8):j3 (.str s) none none=some (.str s):=by simp [j3,bX]
theorem Nq (s:List UInt8) (k:IntKind) (n:Int):j3 (.str s) none (some (.int k n))=if 0≤n∧n≤s.length then some (.str (s.take n.toNat)) else none:=by
 simp only [j3,bX]
 by_cases h:0≤n<;>by_cases h2:n≤s.length<;>simp [h,h2]<;>omega
theorem Nr (s:List UInt8) (k:IntKind) (n:Int):j3 (.str s) (some (.int k n)) none=if 0≤n∧n≤s.length then some (.str (s.drop n.toNat)) else none:=by
 simp only [j3,bX]
 have:s.drop n.toNat=List.take (s.length - n.toNat) (List.drop n.toNat s):=by rw [iq (by simp)]
 by_cases h:0≤n<;>by_cases h2:n≤s.length<;>simp [h,h2,← this]<;>omega
theorem Ic (s:List UInt8) (k k':IntKind) (n m:Int):j3 (.str s) (some (.int k n)) (some (.int k' m))=if 0≤n∧n≤m∧m≤s.length then some (.str ((s.drop n.toNat).take (m - n).toNat)) else none:=by
 simp only [j3,bX]
 by_cases h:0≤n
 ·by_cases h1:n≤m
  ·have hm:0≤m:=by omega
   by_cases h2:m≤s.length
   ·have:m.toNat - n.toNat=(m - n).toNat:=by omega
    simp [h,h1,h2,hm,this];omega
   ·simp [h,h1,h2,hm]<;>omega
  ·by_cases hm:0≤m<;>simp [h,h1,hm];omega
 ·simp [h]
theorem M8 (d:Nat) (t:TypeId) (st:Nat) (ys:List (List AV)) (h:Nat→Option ah):jq d t st .nl (some ys) h=if ys.length<137438953472 then some (.ms d st 0 ys.length,.new d ⟨t,st,ys,false⟩) else none:=rfl
def s8 (id:Nat) (t:TypeId) (st off len:Nat) (ys:List (List AV)) (o:Option ah):Option (AV×aT) :=
 if ys.length<137438953472 then (match o with
   | some o=>if o.st=st∧o.t=t∧o.isRec=false∧off=0∧len≤o.rows.length∧len<137438953472∧(id<1000∨2000≤id)∧o.k.flat=true then
     some (.ms id st 0 (len+ys.length),.reb id ⟨t,st,o.rows.take len++ys,false⟩) else none
   | none=>none) else none
theorem M7 (d id:Nat) (t:TypeId) (st off len:Nat) (ys:List (List AV)) (h:Nat→Option ah):jq d t st (.ms id st off len) (some ys) h=s8 id t st off len ys (h id):=by
 simp only [jq,s8,true_and]
 cases h id<;>rfl
theorem tD:Kd.flat instKd=true:=rfl
theorem oz (id:Nat) (t:TypeId) (st len:Nat) (rows ys:List (List AV)) (hl:rows.length=len):s8 id t st 0 len ys (some ⟨t,st,rows,false⟩) =
  if ys.length<137438953472∧len<137438953472∧(id<1000∨2000≤id) then some (.ms id st 0 (len+ys.length),.reb id ⟨t,st,rows++ys,false⟩) else none:=by
 subst hl
 simp only [s8,true_and,aO,og,tD,and_true]
 by_cases h1:ys.length<137438953472<;>simp [h1]
theorem L0 (st:Nat) (h:Nat→Option ah):eD st h .nl=some []:=rfl
theorem L1 (st:Nat) (h:Nat→Option ah) (rows:List (List AV)):eD st h (.sl st rows)=some rows:=by simp [eD]
def FQ (st off len:Nat) (o:Option ah):Option (List (List AV)) :=
 match o with
 | some o=>if o.st=st∧o.isRec=false∧off+len≤o.rows.length then some ((o.rows.drop off).take len) else none
 | none=>none
theorem LZ (st:Nat) (h:Nat→Option ah) (id off len:Nat):eD st h (.ms id st off len)=FQ st off len (h id):=by simp only [eD,FQ,true_and];cases h id<;>rfl
theorem xF (st len:Nat) (t:TypeId) (rows:List (List AV)) (hl:rows.length=len):FQ st 0 len (some ⟨t,st,rows,false⟩)=some rows:=by subst hl;simp [FQ]
theorem MA (s:List UInt8):My (.str s)=some (s.map fun b=>[.int .u8 b.toNat]):=rfl
theorem EE {f:FuncId} {args args':List AV} {d:Option Nat} {s:St} {K:St→Prop} {r:AV} (hp:aj P f args' r) (hid:∀x∈args',aI x=[]) (hc:aH (MS false (ae s.heap)) args args') (hk:K (s.put d r)):ci P f args d s K :=
 .inl (.inl ⟨args',r,false,hp,hid,hc,(fun h=>by cases h),hk⟩)
theorem aH.refl_coe (b:Bool) (h:Nat→Option ah):∀l:List AV,aH (MS b h) l l
 | []=>trivial
 | _ :: r=>⟨.inl rfl,aH.refl_coe b h r⟩
theorem wM {f:FuncId} {args:List AV} {d:Option Nat} {s:St} {K:St→Prop} {r:AV} (hp:aj P f args r) (hid:∀x∈args,aI x=[]) (hk:K (s.put d r)):ci P f args d s K :=
 EE hp hid (aH.refl_coe _ _ args) hk
theorem a_ {f:FuncId} {args:List AV} {d:Option Nat} {s:St} {K:St→Prop} {r:AV} (fs:List Nat) {args':List AV} (ha:args.map (kJ fs s)=args') (hp:aj P f args' r) (hid:∀x∈args',aI x=[]) (hk:K ((frzs fs s).put d r)):ci P f args d s K:=by
 subst ha
 exact .inr (.inl ⟨fs,.inl ⟨_,r,false,hp,hid,aH.refl_coe _ _ _,(fun h=>by cases h),hk⟩⟩)
theorem bP {f:FuncId} {args:List AV} {i:Nat} {bf:List Nat} {op:gS} {d:Option Nat} {hist:List HI} {s:St} {K:List HI→St→Prop} {r:AV} (hp:aj P f args r) (hid:∀x∈args,aI x=[]) (hr:aI r=[])
  (hk:dS op s .no=true∧gg bf ⟨i,cx op s.env,[],[],false,false⟩ hist=true∧K (⟨i,cx op s.env,[],[],false,false⟩ :: hist) (s.put d r)):Ja P f args i bf op d hist s K :=
 .inl ⟨args,r,false,hp,hid,aH.refl_coe _ _ args,(fun h=>by cases h),hr,hk⟩
theorem Dv:∀{l:List (Nat×AV)} {k:Nat},get l k = .any∨(k,get l k)∈l
 | [],k=>.inl rfl
 | (j,x) :: r,k=>by
  simp only [get]
  split
  ·rename_i h;subst h;exact .inr (by simp)
  ·rcases Dv (l:=r) (k:=k) with h | h
   ·exact .inl h
   ·exact .inr (by simp [h])
theorem dJ:∀{l:List (Nat×ah)} {k:Nat} {o:ah},ae l k=some o→(k,o)∈l
 | [],k,o,h=>by simp [ae] at h
 | (j,x) :: r,k,o,h=>by
  simp only [ae] at h
  split at h
  ·rename_i hj;cases h;subst hj;simp
  ·simp [dJ h]
theorem bW.le {c:jY} {a:Act} {w:World} {s s':St} (hs:bW c s a w) (h1:∀p∈s'.env,get s.env p.1=p.2) (h2:∀p∈s'.heap,ae s.heap p.1=some p.2):bW c s' a w:=by
 obtain ⟨bl,hs⟩:=hs
 refine ⟨bl,hs.weaken (fun k=>?_) (fun i o hi=>h2 (i,o) (dJ hi))⟩
 rcases Dv (l:=s'.env) (k:=k) with h | h
 ·exact .inl h
 ·exact .inr (h1 _ h).symm
theorem Wk.refl (s:St):Wk s s:=fun _ _ _ h=>h
theorem Wk.trans {s s' s'':St} (h:Wk s s') (h':Wk s' s''):Wk s s'':=fun c a w hs=>h' c a w (h c a w hs)
theorem Wk.le {s s':St} (h1:∀p∈s'.env,get s.env p.1=p.2) (h2:∀p∈s'.heap,ae s.heap p.1=some p.2):Wk s s':=fun _ _ _ hs=>hs.le h1 h2
theorem Wk.frz (s:St) (i:Nat):Wk s (s.frz i):=fun _ _ _ hs=>hs.frz i
theorem Wk.kill (s:St) (i:Nat):Wk s (s.kill i):=fun _ _ _ hs=>hs.kill i
def klp {α:Type} (S:α→St) (p:α→Prop) (m:α→Nat) (q:α) (K:IX→St→Prop) (e:IX) (s:St):Prop :=
 match e with
 | .nrm=>∃q',p q'∧m q'<m q∧Wk s (S q')
 | e=>K e s
theorem bA {α:Type} {S:α→St} {p:α→Prop} {m:α→Nat} {q:α} {K:IX→St→Prop} {s:St} (q':α) (h1:p q') (h2:m q'<m q) (h3:Wk s (S q')):klp S p m q K .nrm s:=⟨q',h1,h2,h3⟩
theorem YR {α:Type} (S:α→St) (p:α→Prop) (m:α→Nat) (q:α) (K:IX→St→Prop) (s:St):klp S p m q K .ret s=K .ret s:=aW rfl
theorem YS {α:Type} (S:α→St) (p:α→Prop) (m:α→Nat) (q:α) (K:IX→St→Prop) (j:Nat) (s:St):klp S p m q K (.ext j) s=K (.ext j) s:=aW rfl
theorem aJ {α:Type} (S:α→St) (p:α→Prop) (m:α→Nat) {x:be} {s:St} {K:IX→St→Prop} (q:α) (h1:p q) (h2:Wk s (S q))
  (hstep:∀q,p q→ir P x (S q) (klp S p m q K)):ir P (.loop x) s K:=by
 refine ⟨fun n s=>∃q,p q∧m q=n∧s=S q,⟨m q,S q,⟨q,h1,rfl,rfl⟩,h2⟩,?_⟩
 rintro n s ⟨q,h3,rfl,rfl⟩
 refine Ab _ _ _ _ (fun e s' hh=>?_) (hstep q h3)
 cases e with
 | nrm=>obtain ⟨q',h4,h5,h6⟩:=hh;exact ⟨m q',S q',h5,⟨q',h4,rfl,rfl⟩,h6⟩
 | _=>exact hh
def kmt {α:Type} (S:α→St) (p:α→Prop) (K:IX→St→Prop) (e:IX) (s:St):Prop :=
 match e with
 | .nrm=>∃q,p q∧Wk s (S q)
 | e=>K e s
theorem YT {α:Type} (S:α→St) (p:α→Prop) (K:IX→St→Prop) (s:St):kmt S p K .ret s=K .ret s:=aW rfl
theorem YU {α:Type} (S:α→St) (p:α→Prop) (K:IX→St→Prop) (j:Nat) (s:St):kmt S p K (.ext j) s=K (.ext j) s:=aW rfl
theorem aN {l:List jL} {r:AV} {s:St} (fs:List Nat) (h:mA l (frzs fs s)=some r) (h2:aI r=[]):zj l r .ret s:=⟨(fun _ h=>by cases h),s,Wk.refl s,fs,h,h2⟩
theorem ak {l:List jL} {r:AV} {s:St} (h:mA l (frzs [] s)=some r:=by simp only [go_sem]) (h2:aI r=[]:=by first | rfl | simp [go_sem,bE]):zj l r .ret s:=aN [] h h2
theorem an {l:List jL} {r:AV} {s:St} (h:mA l (frzs [] s)=some r:=by rfl) (h2:aI r=[]:=by rfl):zj l r .ret s:=aN [] h h2
theorem aa {f:FuncId} {args:List AV} {d:Option Nat} {s:St} {K:St→Prop} {r:AV} (hp:aj P f args r) (hk:K (s.put d r)) (hid:∀x∈args,aI x=[]:=by simp [go_sem]):ci P f args d s K:=wM hp hid hk
end
attribute [go_sem] OQ Jv JY E3 Fb BG JV EZ Fe BI JT EX OH Jm JU EY JP ET OP Ju Oz Jf OW JC OD Ji OX JD OI Jn J1 E7 J2 E8 Ow Jc JR EV JX E1 JZ E4 T3 Om OB Jh OE Jj OF Jk OG Jl JW E0 OJ Jo J0 E5 OT Jz Ox Jd Oy Je Ov Jb JQ EU OA Jg OL Jq
attribute [go_sem] S0 NE S4 SM Id SN NB Ie Nz SV NA Nw SZ SO SR S9 S_ SW NH SK Nx NI SL Ny ND NF Wy SQ SS SP ST SU NC NG SY SX Hq HE Hy Ht Hz Hx Hw Hv Hu HA HB Hs M9 HF zk HC HD Eb Ec Eh Eg Ef Ee Ed
attribute [go_sem] Uk Ul Um Ud Ue Ua Ub Uc Uj Ui Pa YV Uf Ce Cg Cf F8 Ez F7 Cb aa9 Vv P3 ME I9 YR YS YT YU
theorem VV (a b:Prop):MX (.bool false) a b=b:=Rt a b
attribute [go_sem ↓] Ru Rt YJ YI YK
attribute [go_sem high] VW VV TT TS TU
attribute [go_sem] Kb O0 J_ O1 Fg J8 OZ J9 J3 Ff yf ye E9 BK vS vR JS Fc EW nt
attribute [go_sem] PY PX Cc Ey EA F9 MB IG EF IJ IF IW K4 K3 K2 IK FZ KV D_ Ea Nu Nt Nl Nn HY HZ H0 H1 SJ Mx SI Kq Kr Ks HS HT HU HV HW HX Nf Nb Nc En HN HO Pm Pl YZ Y0 Eo Qr HG HH HK Ei HL Ho Hp HQ HP H3 M_ Na II H4 H5 H6 Ek H_ Ia Ib Em H7 H8 H9 Np Nq Nr Ic M8 M7 L0 L1 LZ MA
theorem YE (n:Nat):get [] n = .any:=aW rfl
theorem YD (k n:Nat) (x:AV) (r:List (Nat×AV)):get ((k,x) :: r) n=if k=n then x else get r n:=aW rfl
theorem TY (n:Nat):ae [] n=none:=aW rfl
theorem TX (k n:Nat) (x:ah) (r:List (Nat×ah)):ae ((k,x) :: r) n=if k=n then some x else ae r n:=aW rfl
theorem Ys (n:Nat):del [] n=[]:=aW rfl
theorem Yr (k n:Nat) (x:AV) (r:List (Nat×AV)):del ((k,x) :: r) n=if k=n then del r n else (k,x) :: del r n:=aW rfl
theorem TW (n:Nat):iS [] n=[]:=aW rfl
theorem TV (k n:Nat) (x:ah) (r:List (Nat×ah)):iS ((k,x) :: r) n=if k=n then iS r n else (k,x) :: iS r n:=aW rfl
theorem Vg (i:Nat):mT i []=[]:=aW rfl
theorem Vf (i k:Nat) (x:AV) (r:List (Nat×AV)):mT i ((k,x) :: r)=(k,fg i x) :: mT i r:=aW rfl
theorem Vi (i:Nat):mU i []=[]:=aW rfl
theorem Vh (i k:Nat) (x:ah) (r:List (Nat×ah)):mU i ((k,x) :: r)=(k,cU i x) :: mU i r:=aW rfl
theorem aa5 (e:List (Nat×AV)) (h:List (Nat×ah)) (d:Nat) (x:AV):St.put ⟨e,h⟩ (some d) x =⟨(d,x) :: e,h⟩:=aW rfl
theorem aa4 (s:St) (x:AV):s.put none x=s:=aW rfl
theorem Ug (e:List (Nat×AV)) (h:List (Nat×ah)) (i:Nat):St.kill ⟨e,h⟩ i =⟨mT i e,mU i (iS h i)⟩:=aW rfl
theorem Tw (s:St):s.eff .no=s:=aW rfl
theorem N5 (e:List (Nat×AV)) (h:List (Nat×ah)) (i:Nat) (o:ah):St.eff ⟨e,h⟩ (.put i o) =⟨e,(i,o) :: iS h i⟩:=aW rfl
theorem N4 (e:List (Nat×AV)) (h:List (Nat×ah)) (i:Nat) (o:ah):St.eff ⟨e,h⟩ (.new i o) =⟨e,(i,o) :: iS h i⟩:=aW rfl
theorem N6 (e:List (Nat×AV)) (h:List (Nat×ah)) (i:Nat) (o:ah):St.eff ⟨e,h⟩ (.reb i o) =⟨mT i e,(i,o) :: mU i (iS h i)⟩:=aW rfl
theorem Pd (s:St):kills [] s=s:=aW rfl
theorem Pc (i:Nat) (r:List Nat) (s:St):kills (i :: r) s=kills r (s.kill i):=aW rfl
theorem Tn (e:List (Nat×AV)):dels [] e=e:=aW rfl
theorem Tm (d:Nat) (r:List Nat) (e:List (Nat×AV)):dels (d :: r) e=dels r (del e d):=aW rfl
theorem abB (g:Nat→AV) (k:Nat):val g (.s k)=g k:=aW rfl
theorem abA (g:Nat→AV) (x:AV):val g (.c x)=x:=aW rfl
theorem LR (k:Nat) (b:Bool) (s:St):refine (.s k) b s=s.put (some k) (.bool b):=aW rfl
theorem LP (x:AV) (b:Bool) (s:St):refine (.c x) b s=s:=aW rfl
attribute [go_sem] YE YD TY TX Ys Yr TW TV Vg Vf Vi Vh aa5 aa4 Ug Tw N5 N4 N6 Pd Pc Tn Tm abB abA LR LP
attribute [go_sem] gO iV eG fH dP Iw jM
attribute [go_sem] fg cU jk mV mG mC mP aI fG dO er dt cx ao aS gu dS gg qn ym gI aT.tch aT.isReb aT.isPut aT.ids
attribute [go_sem] mA Aa Di Ay frzs St.frz kJ frz1 I4 ES lE tF kI jN fu eF iX nv lM
attribute [go_sem] cF List.map_nil lc e_ jJ List.all_cons List.all_nil List.any_cons List.any_nil List.contains_cons List.contains_nil m8 List.flatMap_nil List.drop_succ_cons List.drop_zero List.take_succ_cons gN iw fZ bT
attribute [go_sem] List.getElem?_cons_zero List.getElem?_cons_succ List.set_cons_zero List.set_cons_succ
attribute [go_sem] eH Option.map_none Option.getD_some Option.getD_none Option.isSome_some
attribute [go_sem] A6 MM Bool.and_true fV Bool.and_false gp Bool.or_true vM Bool.or_false oh
attribute [go_sem] true_and and_true true_implies implies_true false_implies dl fA not_true_eq_false not_false_eq_true and_self true_or or_true false_or or_false
section
variable {P:Program} [aV P]
def P5 (d:Nat) (x:AV):Option (AV×aT) :=
 match x with
 | .str s=>some (.mm d false,.new d (@ah.mk 0 0 [] false (.it s 0)))
 | _=>none
def An (k:Bool) (x:AV) (h:Nat→Option ah) (f:Nat→ah→Option (AV×aT)):Option (AV×aT) :=
 match x with
 | .mm id k'=>if k=k' then (h id).bind (f id) else none
 | _=>none
def Zh (x:AV) (h:Nat→Option ah) (f:ah→Option (AV×aT)):Option (AV×aT) :=
 match x with
 | .fm es=>f (@ah.mk 0 0 [] false (.mp es))
 | x=>An true x h fun _=>f
def Nh (o:ah):Option (AV×aT):=(nr o).map fun es=>(.int .i64 es.length,.no)
def Fs (x n y:AV) (h:Nat→Option ah):Option (AV×aT) :=
 match n with
 | .int .i64 n=>An true x h fun id=>Ej id n y
 | _=>none
theorem zw (d:Nat) (x:AV) (h:Nat→Option ah):fo d .rng [x] h=P5 d x:=by cases x<;>rfl
theorem zu (d:Nat) (x:AV) (h:Nat→Option ah):fo d .nxt [x] h=An false x h xV:=by
 cases x<;>try rfl
 rename_i id k
 cases k<;>rfl
theorem zp (d:Nat) (x:AV) (h:Nat→Option ah):fo d .mln [x] h=An true x h fun _=>Nh:=by
 cases x<;>try rfl
 rename_i id k
 cases k<;>rfl
theorem zo (d:Nat) (ok:Bool) (kd:KK) (z x y:AV) (h:Nat→Option ah):fo d (.mlk ok kd z) [x,y] h=Zh x h (mc ok kd z y):=by
 cases x<;>try rfl
 rename_i id k
 cases k<;>rfl
theorem zt (d:Nat) (kd:KK) (x y q:AV) (h:Nat→Option ah):fo d (.mup kd) [x,y,q] h=An true x h fun id=>s6 id kd y q:=by
 cases x<;>try rfl
 rename_i id k
 cases k<;>rfl
theorem zq (d:Nat) (kd:KK) (z x y:AV) (h:Nat→Option ah):fo d (.mnt kd z) [x,y] h=An true x h fun id=>zm id kd z y:=by
 cases x<;>try rfl
 rename_i id k
 cases k<;>rfl
theorem zr (d:Nat) (x n q:AV) (h:Nat→Option ah):fo d .mst [x,n,q] h=Fs x n q h:=by
 by_cases hn:∃m,n = .int .i64 m
 ·obtain ⟨m,rfl⟩:=hn
  cases x<;>try rfl
  rename_i id k
  cases k<;>rfl
 ·have h1:Fs x n q h=none:=by
   unfold Fs
   split
   ·exact absurd ⟨_,rfl⟩ hn
   ·rfl
  rw [h1]
  unfold fo
  split<;>first | rfl | (simp_all;done)
theorem OV (d:Nat) (x:IV) (g:Option (Nat×Bool)) (s:St) (K:St→Prop):fW P ⟨some d,.mop .rng [x],g⟩ s K=(d<1000∧bJ (qA K (s.kill d) (some d)) (P5 d (val (get (s.kill d).env) x))):=by
 rw [← zw d _ (ae (s.kill d).heap)];rfl
theorem OK (d:Nat) (g:Option (Nat×Bool)) (s:St) (K:St→Prop):fW P ⟨some d,.mop .mkm [],g⟩ s K=(d<1000∧bJ (qA K (s.kill d) (some d)) (some (.mm d true,.new d (@ah.mk 0 0 [] false (.mp []))))):=rfl
theorem JB (al:List (Nat×Nat)) (i d:Nat) (x:IV) (g:Option (Nat×Bool)) (bf:List Nat) (hist:List HI) (s:St) (K:List HI→St→Prop):cu P al i ⟨⟨some d,.mop .rng [x],g⟩,bf⟩ hist s K=bJ (nE al i bf (.mop .rng [x]) hist K s (some d)) (P5 d (val (get s.env) x)):=by
 rw [← zw d _ (ae s.heap)];rfl
theorem Jp (al:List (Nat×Nat)) (i d:Nat) (g:Option (Nat×Bool)) (bf:List Nat) (hist:List HI) (s:St) (K:List HI→St→Prop):cu P al i ⟨⟨some d,.mop .mkm [],g⟩,bf⟩ hist s K=bJ (nE al i bf (.mop .mkm []) hist K s (some d)) (some (.mm d true,.new d (@ah.mk 0 0 [] false (.mp [])))):=rfl
theorem OU (d:Option Nat) (x:IV) (g:Option (Nat×Bool)) (s:St) (K:St→Prop):fW P ⟨d,.mop .nxt [x],g⟩ s K=bJ (qA K s d) (An false (val (get s.env) x) (ae s.heap) xV):=by
 rw [← zu (d.getD 0)  (val (get s.env) x) (ae s.heap)];rfl
theorem JA (al:List (Nat×Nat)) (i:Nat) (d:Option Nat) (x:IV) (g:Option (Nat×Bool)) (bf:List Nat) (hist:List HI) (s:St) (K:List HI→St→Prop):cu P al i ⟨⟨d,.mop .nxt [x],g⟩,bf⟩ hist s K=bJ (nE al i bf (.mop .nxt [x]) hist K s d) (An false (val (get s.env) x) (ae s.heap) xV):=by
 rw [← zu (d.getD 0)  (val (get s.env) x) (ae s.heap)];rfl
theorem ON (d:Option Nat) (x:IV) (g:Option (Nat×Bool)) (s:St) (K:St→Prop):fW P ⟨d,.mop .mln [x],g⟩ s K=bJ (qA K s d) (An true (val (get s.env) x) (ae s.heap) fun _=>Nh):=by
 rw [← zp (d.getD 0)  (val (get s.env) x) (ae s.heap)];rfl
theorem Js (al:List (Nat×Nat)) (i:Nat) (d:Option Nat) (x:IV) (g:Option (Nat×Bool)) (bf:List Nat) (hist:List HI) (s:St) (K:List HI→St→Prop):cu P al i ⟨⟨d,.mop .mln [x],g⟩,bf⟩ hist s K=bJ (nE al i bf (.mop .mln [x]) hist K s d) (An true (val (get s.env) x) (ae s.heap) fun _=>Nh):=by
 rw [← zp (d.getD 0)  (val (get s.env) x) (ae s.heap)];rfl
theorem OM (d:Option Nat) (ok:Bool) (kd:KK) (z:AV) (x y:IV) (g:Option (Nat×Bool)) (s:St) (K:St→Prop):fW P ⟨d,.mop (.mlk ok kd z) [x,y],g⟩ s K=bJ (qA K s d) (Zh (val (get s.env) x) (ae s.heap) (mc ok kd z (val (get s.env) y))):=by
 rw [← zo (d.getD 0) ok kd z (val (get s.env) x) (val (get s.env) y) (ae s.heap)];rfl
theorem Jr (al:List (Nat×Nat)) (i:Nat) (d:Option Nat) (ok:Bool) (kd:KK) (z:AV) (x y:IV) (g:Option (Nat×Bool)) (bf:List Nat) (hist:List HI) (s:St) (K:List HI→St→Prop):cu P al i ⟨⟨d,.mop (.mlk ok kd z) [x,y],g⟩,bf⟩ hist s K=bJ (nE al i bf (.mop (.mlk ok kd z) [x,y]) hist K s d) (Zh (val (get s.env) x) (ae s.heap) (mc ok kd z (val (get s.env) y))):=by
 rw [← zo (d.getD 0) ok kd z (val (get s.env) x) (val (get s.env) y) (ae s.heap)];rfl
theorem OS (d:Option Nat) (kd:KK) (x y q:IV) (g:Option (Nat×Bool)) (s:St) (K:St→Prop):fW P ⟨d,.mop (.mup kd) [x,y,q],g⟩ s K=bJ (qA K s d) (An true (val (get s.env) x) (ae s.heap) fun id=>s6 id kd (val (get s.env) y) (val (get s.env) q)):=by
 rw [← zt (d.getD 0) kd (val (get s.env) x) (val (get s.env) y) (val (get s.env) q) (ae s.heap)];rfl
theorem Jy (al:List (Nat×Nat)) (i:Nat) (d:Option Nat) (kd:KK) (x y q:IV) (g:Option (Nat×Bool)) (bf:List Nat) (hist:List HI) (s:St) (K:List HI→St→Prop):cu P al i ⟨⟨d,.mop (.mup kd) [x,y,q],g⟩,bf⟩ hist s K=bJ (nE al i bf (.mop (.mup kd) [x,y,q]) hist K s d) (An true (val (get s.env) x) (ae s.heap) fun id=>s6 id kd (val (get s.env) y) (val (get s.env) q)):=by
 rw [← zt (d.getD 0) kd (val (get s.env) x) (val (get s.env) y) (val (get s.env) q) (ae s.heap)];rfl
theorem OO (d:Option Nat) (kd:KK) (z:AV) (x y:IV) (g:Option (Nat×Bool)) (s:St) (K:St→Prop):fW P ⟨d,.mop (.mnt kd z) [x,y],g⟩ s K=bJ (qA K s d) (An true (val (get s.env) x) (ae s.heap) fun id=>zm id kd z (val (get s.env) y)):=by
 rw [← zq (d.getD 0) kd z (val (get s.env) x) (val (get s.env) y) (ae s.heap)];rfl
theorem Jt (al:List (Nat×Nat)) (i:Nat) (d:Option Nat) (kd:KK) (z:AV) (x y:IV) (g:Option (Nat×Bool)) (bf:List Nat) (hist:List HI) (s:St) (K:List HI→St→Prop):cu P al i ⟨⟨d,.mop (.mnt kd z) [x,y],g⟩,bf⟩ hist s K=bJ (nE al i bf (.mop (.mnt kd z) [x,y]) hist K s d) (An true (val (get s.env) x) (ae s.heap) fun id=>zm id kd z (val (get s.env) y)):=by
 rw [← zq (d.getD 0) kd z (val (get s.env) x) (val (get s.env) y) (ae s.heap)];rfl
theorem OR (d:Option Nat) (x y q:IV) (g:Option (Nat×Bool)) (s:St) (K:St→Prop):fW P ⟨d,.mop .mst [x,y,q],g⟩ s K=bJ (qA K s d) (Fs (val (get s.env) x) (val (get s.env) y) (val (get s.env) q) (ae s.heap)):=by
 rw [← zr (d.getD 0)  (val (get s.env) x) (val (get s.env) y) (val (get s.env) q) (ae s.heap)];rfl
theorem Jw (al:List (Nat×Nat)) (i:Nat) (d:Option Nat) (x y q:IV) (g:Option (Nat×Bool)) (bf:List Nat) (hist:List HI) (s:St) (K:List HI→St→Prop):cu P al i ⟨⟨d,.mop .mst [x,y,q],g⟩,bf⟩ hist s K=bJ (nE al i bf (.mop .mst [x,y,q]) hist K s d) (Fs (val (get s.env) x) (val (get s.env) y) (val (get s.env) q) (ae s.heap)):=by
 rw [← zr (d.getD 0)  (val (get s.env) x) (val (get s.env) y) (val (get s.env) q) (ae s.heap)];rfl
theorem LV (d:Nat) (s:List UInt8):P5 d (.str s)=some (.mm d false,.new d (@ah.mk 0 0 [] false (.it s 0))):=rfl
theorem Zm (id:Nat) (h:Nat→Option ah) (f:Nat→ah→Option (AV×aT)):An true (.mm id true) h f=(h id).bind (f id):=rfl
theorem Zj (id:Nat) (h:Nat→Option ah) (f:ah→Option (AV×aT)):Zh (.mm id true) h f=(h id).bind f:=rfl
theorem Zi (es:List (AV×AV)) (h:Nat→Option ah) (f:ah→Option (AV×aT)):Zh (.fm es) h f=f (@ah.mk 0 0 [] false (.mp es)):=rfl
theorem Zl (id:Nat) (h:Nat→Option ah) (f:Nat→ah→Option (AV×aT)):An false (.mm id false) h f=(h id).bind (f id):=rfl
theorem UA (x y:AV) (n:Int) (h:Nat→Option ah):Fs x (.int .i64 n) y h=An true x h fun id=>Ej id n y:=rfl
theorem B9 {α β:Type} (x:α) (f:α→Option β):(some x).bind f=f x:=rfl
theorem Nk (K:AV→aT→Prop) (id t st:Nat) (rows:List (List AV)) (r:Bool) (s:List UInt8) (pos:Nat):bJ K (xV id (@ah.mk t st rows r (.it s pos))) =
  if pos<s.length then K (.tup [.bool true,.int .i64 pos,.int .i32 (Utf8.decode ⟨s.toArray⟩ pos).1]) (.put id (@ah.mk t st rows r (.it s (pos+(Utf8.decode ⟨s.toArray⟩ pos).2)))) else K (.tup [.bool false]) .no:=by
 simp only [xV,Vw]
 split<;>rfl
theorem Ni (t st:Nat) (rows:List (List AV)) (r:Bool) (es:List (AV×AV)):Nh (@ah.mk t st rows r (.mp es))=some (.int .i64 es.length,.no):=rfl
def Ky (K:AV→aT→Prop) (ok:Bool) (z:AV) (es:List (AV×AV)) (q:Option (Option Nat)):Prop :=
 match q with
 | some (some i)=>match es[i]? with
  | some e=>K (if ok then .tup [e.2,.bool true] else e.2) .no
  | none=>False
 | some none=>K (if ok then .tup [z,.bool false] else z) .no
 | none=>False
theorem Ng (K:AV→aT→Prop) (ok:Bool) (kd:KK) (z y:AV) (t st:Nat) (rows:List (List AV)) (r:Bool) (es:List (AV×AV)):bJ K (mc ok kd z y (@ah.mk t st rows r (.mp es)))=Ky K ok z es (dZ kd y es):=by
 simp only [mc,nr,Ky]
 cases dZ kd y es with
 | none=>rfl
 | some q=>cases q with
  | none=>rfl
  | some i=>cases h:es[i]? <;> simp [h,bJ]
theorem Nj (K:AV→aT→Prop) (id:Nat) (kd:KK) (y q:AV) (t st:Nat) (rows:List (List AV)) (r:Bool) (es:List (AV×AV)):bJ K (s6 id kd y q (@ah.mk t st rows r (.mp es))) =
  (jv y=true∧jv q=true∧∃es',ur kd y q es=some es'∧K .any (.put id (@ah.mk t st rows r (.mp es')))):=by
 simp only [s6,nr]
 cases jv y<;>cases jv q<;>cases ur kd y q es<;>simp [bJ]
def F3 (b:Bool) (x:AV) (K:AV→aT→Prop):Prop :=
 match x with
 | .sl _ []=>K (.bool b) .no∧K (.bool (!b)) .no
 | x=>match Bi b x with
  | some v=>K v .no
  | none=>False
theorem OY (d:Option Nat) (b:Bool) (x:IV) (g:Option (Nat×Bool)) (s:St) (K:St→Prop):fW P ⟨d,.snl b x,g⟩ s K=F3 b (val (get s.env) x) (qA K s d):=by
 show (match val (get s.env) x with
  | .sl _ []=>K (s.put d (.bool b))∧K (s.put d (.bool (!b)))
  | x=>match Bi b x with
   | some v=>K (s.put d v)
   | none=>False)=_
 generalize val (get s.env) x=v
 unfold F3
 split
 ·rfl
 ·split<;>rfl
theorem JE (al:List (Nat×Nat)) (i:Nat) (d:Option Nat) (b:Bool) (x:IV) (g:Option (Nat×Bool)) (bf:List Nat) (hist:List HI) (s:St) (K:List HI→St→Prop):cu P al i ⟨⟨d,.snl b x,g⟩,bf⟩ hist s K=bJ (nE al i bf (.snl b x) hist K s d) (res (Bi b (val (get s.env) x))):=aW rfl
theorem Ql (b:Bool) (K:AV→aT→Prop):F3 b .nl K=K (.bool (!b)) .no:=rfl
theorem VK (b:Bool) (st:Nat) (K:AV→aT→Prop):F3 b (.sl st []) K=(K (.bool b) .no∧K (.bool (!b)) .no):=rfl
theorem VL (b:Bool) (st:Nat) (r:List AV) (rows:List (List AV)) (K:AV→aT→Prop):F3 b (.sl st (r :: rows)) K=K (.bool b) .no:=rfl
theorem Qm (b:Bool) (st:Nat) (rows:List (List AV)) (K:AV→aT→Prop) (h:K (.bool b) .no∧(rows=[]→K (.bool (!b)) .no)):F3 b (.sl st rows) K:=by
 cases rows with
 | nil=>exact ⟨h.1,h.2 rfl⟩
 | cons r rows=>exact h.1
end
theorem ah.k_e (t:TypeId) (st:Nat) (rows:List (List AV)) (r:Bool) (k:Kd):(@ah.mk t st rows r k).k=k:=rfl
attribute [go_sem] ah.k_e
attribute [go_sem] OY JE Ql VK VL
attribute [go_sem] OV OK JB Jp OU JA ON Js OM Jr OS Jy OO Jt OR Jw LV Zm Zl Zj Zi UA B9 Nk Ni Ng Nj
def uA (ρ:Nat→Nat):AV→AV
 | .ms id st off len=>.ms (ρ id) st off len
 | .mp id st row off=>.mp (ρ id) st row off
 | .mm id k=>.mm (ρ id) k
 | x=>x
def qO (ρ:Nat→Nat):AV→AV
 | .fn f caps=>.fn f (caps.map (uA ρ))
 | x=>uA ρ x
def v8 (ρ:Nat→Nat):AV→AV
 | .agg cells=>.agg (cells.map (qO ρ))
 | x=>qO ρ x
def iL (ρ:Nat→Nat):AV→AV
 | .tup vs=>.tup (vs.map (v8 ρ))
 | x=>v8 ρ x
def iK (ρ:Nat→Nat) (o:ah):ah:=if o.isRec then { o with rows:=o.rows.map (fun r=>r.map (qO ρ)) } else o
def ij (ρ:Nat→Nat):List (Nat×ah)→List (Nat×ah)
 | []=>[]
 | (i,o) :: r=>(ρ i,iK ρ o) :: ij ρ r
section
variable {P:Program} [aV P] {bl bl':Nat→Option Nat} {M M':Nat→Prop} {w:World} {ρ τ:Nat→Nat}
theorem IRel.mono {v:Value} {x:AV} (h:IRel M w v x) (hM:∀b,M' b→M b):IRel M' w v x:=h.tr fun b hb _=>⟨fun h'=>hb (hM b h'),rfl⟩
theorem AG {v:Value} {x:AV} (h:da bl M w v x) (hb:∀i,bl' (ρ i)=bl i) (hM:∀b,M' b→M b):da bl' M' w v (uA ρ x):=by
 cases x with
 | ms id st off len =>
  simp only [uA,da] at h ⊢
  rw [hb]
  exact h
 | mp id st row off =>
  simp only [uA,da] at h ⊢
  rw [hb]
  exact h
 | mm id k =>
  simp only [uA,da] at h ⊢
  rw [hb]
  exact h
 | _=>exact IRel.mono h hM
theorem uw {v:Value} {x:AV} (h:bN bl M w v x) (hb:∀i,bl' (ρ i)=bl i) (hM:∀b,M' b→M b):bN bl' M' w v (qO ρ x):=by
 cases x with
 | fn f caps =>
  obtain ⟨cs,h1,h2⟩:=h
  exact ⟨cs,h1,h2.mapRight fun _ _ hr=>AG hr hb hM⟩
 | _=>simp only [bN] at h;exact AG (ρ:=ρ) h hb hM
theorem AF {v:Value} {x:AV} (h:dn bl M w v x) (hb:∀i,bl' (ρ i)=bl i) (hM:∀b,M' b→M b):dn bl' M' w v (v8 ρ x):=by
 cases x with
 | agg cells =>
  obtain ⟨cs,h1,h2⟩:=h
  exact ⟨cs,h1,h2.mapRight fun _ _ hr=>uw hr hb hM⟩
 | _=>simp only [dn] at h;exact uw (ρ:=ρ) h hb hM
theorem uB {v:Value} {x:AV} (h:aR bl M w v x) (hb:∀i,bl' (ρ i)=bl i) (hM:∀b,M' b→M b):aR bl' M' w v (iL ρ x):=by
 cases x with
 | any=>trivial
 | tup vs =>
  obtain ⟨cs,h1,h2⟩:=h
  exact ⟨cs,h1,h2.mapRight fun _ _ hr=>AF hr hb hM⟩
 | _=>simp only [aR] at h;exact AF (ρ:=ρ) h hb hM
theorem Vu (o:ah):(iK ρ o).t=o.t:=by unfold iK;split<;>rfl
theorem yI (o:ah):(iK ρ o).st=o.st:=by unfold iK;split<;>rfl
theorem uz (o:ah):(iK ρ o).isRec=o.isRec:=by unfold iK;split<;>rfl
theorem gd (h1:∀i,τ (ρ i)=i) (h2:∀i,ρ (τ i)=i):∀(σ:List (Nat×ah)) (i:Nat),ae (ij ρ σ) i=(ae σ (τ i)).map (iK ρ)
 | [],i=>rfl
 | (k,o) :: r,i=>by
  simp only [ij,ae,gd h1 h2 r i]
  by_cases h:ρ k=i
  ·rw [av h,av (by rw [← h,h1])];rfl
  ·rw [ar h,ar (fun hk=>h (by rw [hk,h2]))]
theorem LU {MF:Nat→Prop} {o:ah} {b:Nat} (h:i_ bl M MF w o b) (hb:∀i,bl' (ρ i)=bl i) (hM:∀b,M' b→M b):i_ bl' M' MF w (iK ρ o) b:=by
 rcases h with ⟨gk,c1,fr,h2,h3,h4,h5,h6,h7⟩ | hsp
 rotate_left
 ·have:iK ρ o=o:=by simp [iK,hsp.isRec]
  rw [this]
  exact .inr hsp
 refine .inl ⟨by unfold iK;split<;>exact gk,c1,fr,by rw [Vu];exact h2,h3,h4,fun k r hr=>?_,?_,fun k q r x hr hx=>?_⟩
 ·rw [yI]
  unfold iK at hr
  split at hr
  ·simp only [db,cJ] at hr
   obtain ⟨r0,h8,rfl⟩:=hr
   simpa using h5 k r0 h8
  ·exact h5 k r hr
 ·rw [yI]
  unfold iK
  split<;>simpa using h6
 ·rw [yI,uz]
  unfold iK at hr
  split at hr
  ·rename_i hrc
   simp only [db,cJ] at hr
   obtain ⟨r0,h8,rfl⟩:=hr
   simp only [db,cJ] at hx
   obtain ⟨x0,h9,rfl⟩:=hx
   obtain ⟨u,hu1,hu2⟩:=h7 k q r0 x0 h8 h9
   rw [hrc] at hu2 ⊢
   exact ⟨u,hu1,uw hu2 hb hM⟩
  ·rename_i hrc
   obtain ⟨u,hu1,hu2⟩:=h7 k q r x hr hx
   have hrc':o.isRec=false:=by simpa using hrc
   rw [hrc'] at hu2 ⊢
   exact ⟨u,hu1,IRel.mono hu2 hM⟩
theorem uy {MF:Nat→Prop} {σ:List (Nat×ah)} (h1:∀i,τ (ρ i)=i) (h2:∀i,ρ (τ i)=i) (h:A_ bl M MF w (ae σ)) (hb:∀i,bl' (ρ i)=bl i) (hM:∀b,M' b→M b):A_ bl' M' MF w (ae (ij ρ σ)):=by
 have hs:∀{i o},ae (ij ρ σ) i=some o→∃o0,ae σ (τ i)=some o0∧o=iK ρ o0:=fun {i o} hi=>by
  rw [gd h1 h2] at hi
  simp only [cJ] at hi
  obtain ⟨o0,h3,h4⟩:=hi
  exact ⟨o0,h3,h4.symm⟩
 have hbt:∀i,bl' i=bl (τ i):=fun i=>by rw [← hb,h2]
 refine ⟨fun i o hi=>?_,fun i i' o o' b hi hi' q q'=>?_⟩
 ·obtain ⟨o0,h3,rfl⟩:=hs hi
  rcases h.1 _ o0 h3 with hn | ⟨b,h4,h5⟩
  ·refine .inl ⟨?_,by rw [uz];exact hn.2.1,by rw [hbt];exact hn.2.2⟩
   unfold iK
   rw [hn.2.1]
   exact hn.1
  ·exact .inr ⟨b,by rw [hbt];exact h4,LU h5 hb hM⟩
 ·obtain ⟨o0,h3,_⟩:=hs hi
  obtain ⟨o1,h4,_⟩:=hs hi'
  have:=h.2 _ _ _ _ b h3 h4 (by rw [← hbt];exact q) (by rw [← hbt];exact q')
  rw [← h2 i,← h2 i',this]
theorem ux {MF:Nat→Prop} {σ:List (Nat×ah)} (h1:∀i,τ (ρ i)=i) (h2:∀i,ρ (τ i)=i) (hb:∀i,bl' (ρ i)=bl i) (b:Nat) (h:aZ bl' MF (ae (ij ρ σ)) b):aZ bl MF (ae σ) b:=by
 rcases h with h | ⟨i,o,h3,h4⟩
 ·exact .inl h
 ·rw [gd h1 h2] at h3
  simp only [cJ] at h3
  obtain ⟨o0,h5,_⟩:=h3
  exact .inr ⟨_,o0,h5,by rw [← hb,h2];exact h4⟩
theorem LT {σ:List (Nat×ah)} (h1:∀i,τ (ρ i)=i) (h2:∀i,ρ (τ i)=i) (hb:∀i,bl' (ρ i)=bl i) (b:Nat) (h:i9 bl' (ij ρ σ) b):i9 bl σ b:=by
 obtain ⟨i,o,h3,h4⟩:=h
 rw [gd h1 h2] at h3
 simp only [cJ] at h3
 obtain ⟨o0,h5,_⟩:=h3
 exact ⟨_,o0,h5,by rw [← hb,h2];exact h4⟩
theorem tQ (x:AV):er (uA ρ x)=(er x).map ρ:=by cases x<;>rfl
theorem dz {f g:AV→List Nat} {r:AV→AV} (h:∀x,f (r x)=(g x).map ρ):∀l:List AV,(l.map r).flatMap f=(l.flatMap g).map ρ
 | []=>rfl
 | x :: l=>by simp only [cF,m8,dz h l,h,List.map_append]
theorem tP (x:AV):dO (qO ρ x)=(dO x).map ρ:=by
 cases x with
 | fn f caps=>exact dz tQ caps
 | _=>rfl
theorem JF (x:AV):fG (v8 ρ x)=(fG x).map ρ:=by
 cases x with
 | agg cells=>exact dz tP cells
 | fn f caps=>exact dz tQ caps
 | _=>rfl
theorem JH (x:AV):aI (iL ρ x)=(aI x).map ρ:=by
 cases x with
 | tup vs=>exact dz JF vs
 | agg cells=>exact dz tP cells
 | fn f caps=>exact dz tQ caps
 | _=>rfl
theorem JG (o:ah):dt (iK ρ o)=(dt o).map ρ:=by
 unfold dt
 rw [uz]
 split
 ·rename_i h
  simp only [iK,h,dl]
  generalize o.rows=l
  induction l with
  | nil=>rfl
  | cons r l ih=>simp only [cF,m8,ih,List.map_append];congr 1;exact dz tP r
 ·rfl
theorem Am:∀{σ:List (Nat×ah)} {p:Nat×ah},p∈ij ρ σ→∃q∈σ,p=(ρ q.1,iK ρ q.2)
 | [],_,h=>by cases h
 | (i,o) :: r,p,h=>by
  simp only [ij,bc] at h
  rcases h with h | h
  ·exact ⟨(i,o),by simp,h⟩
  ·obtain ⟨q,h1,h2⟩:=Am h
   exact ⟨q,by simp [h1],h2⟩
theorem ku.ren {r:AV} {σ:List (Nat×ah)} (h1:∀i,τ (ρ i)=i) (h2:∀i,ρ (τ i)=i) (h:ku r σ):ku (iL ρ r) (ij ρ σ):=by
 have key:∀{i},(ae σ i).isSome=true→(ae (ij ρ σ) (ρ i)).isSome=true:=fun {i} hi=>by
  rw [gd h1 h2,h1]
  simpa using hi
 refine ⟨fun i hi=>?_,fun p hp i hi=>?_⟩
 ·rw [JH,List.mem_map] at hi
  obtain ⟨j,h3,rfl⟩:=hi
  exact key (h.1 j h3)
 ·obtain ⟨q,h3,rfl⟩:=Am hp
  simp only [JG,List.mem_map] at hi
  obtain ⟨j,h4,rfl⟩:=hi
  exact key (h.2 q h3 j h4)
theorem bu.ren {f:FuncId} {args args2:List AV} {σ σ2:List (Nat×ah)} {Sb:Nat→Prop} {Post:AV→List (Nat×ah)→Prop} (h:bu P f args σ Sb Post) (ρ τ:Nat→Nat) (h1:∀i,τ (ρ i)=i) (h2:∀i,ρ (τ i)=i)
  (ha:args2.map (iL τ)=args) (hσ:ij τ σ2=σ):bu P f args2 σ2 (fun id=>Sb (τ id)) (fun r σ'=>∃r0 σ0,Post r0 σ0∧r=iL ρ r0∧σ'=ij ρ σ0):=by
 intro bl MF w cargs hTH hTW hH hMF hargs
 subst ha hσ
 have hb:∀i,(fun i=>bl (ρ i)) (τ i)=bl i:=fun i=>by simp only [h2]
 have hmut:∀b,aZ (fun i=>bl (ρ i)) MF (ae (ij τ σ2)) b→aZ bl MF (ae σ2) b:=fun b hm=>ux h2 h1 hb b hm
 have hblk:∀b,i9 (fun i=>bl (ρ i)) (ij τ σ2) b→i9 bl σ2 b:=fun b hm=>LT h2 h1 hb b hm
 refine (h (fun i=>bl (ρ i)) MF w cargs hTH (fun b hb hB=>hTW b hb (hmut b hB)) (uy h2 h1 hH hb hmut) hMF (hargs.mapRight fun _ _ hr=>uB hr hb hmut)).mono fun e w'=>?_
 rintro ⟨v,r,σ',bl',rfl,hp,hc,hH',hv,hst,hnew,hsb⟩
 have hb':∀i,(fun i=>bl' (τ i)) (ρ i)=bl' i:=fun i=>by simp only [h1]
 have hmut':∀b,aZ (fun i=>bl' (τ i)) MF (ae (ij ρ σ')) b→aZ bl' MF (ae σ') b:=fun b hm=>ux h1 h2 hb' b hm
 refine ⟨v,iL ρ r,ij ρ σ',fun i=>bl' (τ i),rfl,⟨r,σ',hp,rfl,rfl⟩,hc.ren h1 h2,uy h1 h2 hH' hb' hmut',uB hv hb' hmut',?_,fun id o b hi hq=>?_,fun id hid=>?_⟩
 ·exact ⟨hst.size,fun b hlt hn=>hst.keep b hlt fun hh=>hn (hblk b hh),hst.shape,hst.os,hst.out⟩
 ·rw [gd h1 h2] at hi
  simp only [cJ] at hi
  obtain ⟨o0,h5,_⟩:=hi
  exact (hnew _ o0 b h5 hq).imp_right (hblk b)
 ·show bl' (τ id)=bl id
  rw [hsb _ hid]
  exact hb id
def ou (a b i:Nat):Nat:=if i=a then b else if i=b then a else i
theorem lw (a b i:Nat):ou a b (ou a b i)=i:=by
 unfold ou
 by_cases h1:i=a<;>by_cases h2:i=b<;>simp [h1,h2]<;>(try split)<;>simp_all
theorem bu.fresh {f:FuncId} {args:List AV} {Sb:Nat→Prop} {id st off len:Nat} {o:ah} (h:bu P f args [] Sb (fun r σ'=>r = .ms id st off len∧σ'=[(id,o)])) (ho:o.isRec=false) (hargs:∀x∈args,aI x=[]) (j:Nat) :
  bu P f args [] (fun _=>False) (fun r σ'=>r = .ms j st off len∧σ'=[(j,o)]):=by
 have hren:∀x:AV,aI x=[]→iL (ou id j) x=x:=by
  have hP:∀x:AV,er x=[]→uA (ou id j) x=x:=fun x hx=>by cases x<;>first | rfl | (simp [er] at hx)
  have hL:∀{f:AV→List Nat} {r:AV→AV},(∀x,f x=[]→r x=x)→∀l:List AV,l.flatMap f=[]→l.map r=l:=fun {f r} hh l=>by
   induction l with
   | nil=>exact fun _=>rfl
   | cons y l ih =>
    intro hl
    simp only [m8,List.append_eq_nil_iff] at hl
    simp only [cF,hh y hl.1,ih hl.2]
  have hC:∀x:AV,dO x=[]→qO (ou id j) x=x:=fun x hx=>by
   cases x with
   | fn f caps=>simp only [qO,hL hP caps hx]
   | _=>first | rfl | (simp [dO,er] at hx)
  have hG:∀x:AV,fG x=[]→v8 (ou id j) x=x:=fun x hx=>by
   cases x with
   | agg cells=>simp only [v8,hL hC cells hx]
   | fn f caps=>exact hC (.fn f caps) hx
   | _=>first | rfl | (simp [fG,dO,er] at hx)
  intro x hx
  cases x with
  | tup vs=>simp only [iL,hL hG vs hx]
  | agg cells=>exact hG (.agg cells) hx
  | fn f caps=>exact hG (.fn f caps) hx
  | _=>first | rfl | (simp [aI,fG,dO,er] at hx)
 have hmap:∀l:List AV,(∀x∈l,aI x=[])→l.map (iL (ou id j))=l:=fun l=>by
  induction l with
  | nil=>exact fun _=>rfl
  | cons y l ih=>intro hl;simp only [cF,hren y (hl y (by simp)),ih fun x hx=>hl x (by simp [hx])]
 refine (h.ren (args2:=args) (σ2:=[]) (ou id j) (ou id j) (lw _ _) (lw _ _) (hmap args hargs) rfl).mono (fun _ hf=>hf.elim) ?_
 rintro r σ' ⟨r0,σ0,⟨rfl,rfl⟩,rfl,rfl⟩
 have hs:ou id j id=j:=by simp [ou]
 refine ⟨by simp only [iL,v8,qO,uA,hs],?_⟩
 simp only [ij,hs,iK,ho]
 rfl
theorem FH (i:Nat) (x:AV):j9 [i] x=fg i x:=by simp [j9,fg]
theorem FG (i:Nat) (o:ah):eY [i] o=cU i o:=by
 unfold eY cU qr jk
 simp
theorem nc {f:FuncId} {args:List AV} {d:Option Nat} {s:St} {K:St→Prop} {Sb:Nat→Prop} {id st off len:Nat} {o:ah} (h:bu P f args [] Sb (fun r σ'=>r = .ms id st off len∧σ'=[(id,o)])) (ho:o.isRec=false) (hargs:∀x∈args,aI x=[])
  (j:Nat) (hj:j<1000∨2000≤j) (hfree:ae s.heap j=none) (hk:K ((St.mk (mT j s.env) ((j,o) :: mU j s.heap)).put d (.ms j st off len))):ci P f args d s K:=by
 refine .inl (.inr ⟨[],fun _=>False,fun r σ'=>r = .ms j st off len∧σ'=[(j,o)],[j],h.fresh ho hargs j,fun _ _ hh=>by simp [ae] at hh,?_,?_⟩)
 ·rintro r σ' ⟨rfl,rfl⟩ i hi
  simp only [ae] at hi
  split at hi
  ·rename_i hji
   subst hji
   exact .inr ⟨by simp,hj,.inr hfree⟩
  ·cases hi
 ·rintro r σ' ⟨rfl,rfl⟩
  refine ⟨⟨mT j s.env,(j,o) :: mU j s.heap⟩,fun k=>?_,fun i=>?_,hk⟩
  ·simp only [fF,FH]
  ·simp only [Dw,ae]
   split
   ·rfl
   ·simp only [dM,Option.isSome_none,iR,fA]
    congr 1
    funext o'
    exact (FG j o').symm
end
def Y1 (e:List (Nat×AV)):List (Nat×AV)→Prop
 | []=>True
 | (k,x) :: r=>get e k=x∧Y1 e r
def Gn (e:List (Nat×ah)):List (Nat×ah)→Prop
 | []=>True
 | (k,x) :: r=>ae e k=some x∧Gn e r
theorem Dr {e:List (Nat×AV)}:∀{l:List (Nat×AV)},Y1 e l→∀p∈l,get e p.1=p.2
 | [],_,p,hp=>by cases hp
 | (k,x) :: r,h,p,hp=>by
  rcases bc.1 hp with rfl | hp
  ·exact h.1
  ·exact Dr h.2 p hp
theorem jS {e:List (Nat×ah)}:∀{l:List (Nat×ah)},Gn e l→∀p∈l,ae e p.1=some p.2
 | [],_,p,hp=>by cases hp
 | (k,x) :: r,h,p,hp=>by
  rcases bc.1 hp with rfl | hp
  ·exact h.1
  ·exact jS h.2 p hp
theorem Wk.of {s s':St} (h1:Y1 s.env s'.env) (h2:Gn s.heap s'.heap):Wk s s':=Wk.le (Dr h1) (jS h2)
theorem Wk.frzs:∀(fs:List Nat) (s:St),Wk s (Mw.frzs fs s)
 | [],s=>Wk.refl s
 | i :: r,s=>(Wk.frz s i).trans (Wk.frzs r (s.frz i))
theorem Wk.frz_of {s s':St} (fs:List Nat) (h1:Y1 (Mw.frzs fs s).env s'.env) (h2:Gn (Mw.frzs fs s).heap s'.heap):Wk s s':=(Wk.frzs fs s).trans (Wk.of h1 h2)
def St.mknil (s:St) (k i st:Nat) (t:TypeId):St:=⟨(k,.ms i st 0 0) :: del (s.kill i).env k,(i,⟨t,st,[],false⟩) :: (s.kill i).heap⟩
theorem Wk.nil (s:St) (k i st:Nat) (t:TypeId) (hk:get s.env k = .nl) (hid:i<1000∨2000≤i):Wk s (s.mknil k i st t):=by
 intro c a w hs
 obtain ⟨bl,hs⟩:=hs.kill i
 obtain ⟨h1,h2⟩:=dE s i
 have hn:=hs.new0 (i:=i) (o:=⟨t,st,[],false⟩) h1 h2 hid rfl rfl
 have hk':get (s.kill i).env k = .nl:=by simp [St.kill,fF,hk,fg,mV,mG,mC,mP]
 refine ⟨_,hn.defers,hn.size,fun j=>?_,?_,hn.step,?_,hn.stab,hn.mf⟩
 all_goals
  have hheap:ae (s.mknil k i st t).heap=c_ (ae (s.kill i).heap) i (some ⟨t,st,[],false⟩):=by
   funext j
   simp only [St.mknil,ae,c_]
   by_cases h:i=j
   ·rw [av h,av h.symm]
   ·rw [ar h,ar (Ne.symm h)]
 ·rw [hheap]
  have hj:=hn.env j
  simp only [St.mknil,get]
  by_cases h:k=j
  ·subst h
   rw [av rfl]
   rw [hk'] at hj
   have hv:tv a k = .slice none 0 0:=by
    simp only [aR,dn,bN,da] at hj
    generalize tv a k=v at hj
    cases hj
    rfl
   exact .inl ⟨hv,rfl,rfl⟩
  ·rw [ar h,jO,ar (Ne.symm h)]
   exact hj
 ·rw [hheap]
  exact hn.heap
 ·rw [hheap]
  exact hn.own
def MR (r:AV) (σ:List (Nat×ah)):Bool:=(aI r).all (fun i=>(ae σ i).isSome)&&σ.all fun p=>(dt p.2).all fun i=>(ae σ i).isSome
theorem gb {r:AV} {σ:List (Nat×ah)} (h:MR r σ=true):ku r σ:=by
 simp only [MR,dV,eA] at h
 exact ⟨fun i hi=>h.1 i hi,fun p hp i hi=>h.2 p hp i hi⟩
theorem done {l:List jL} {Post:AV→List (Nat×ah)→Prop} {s:St} (fs:List Nat) (r:AV) (σ':List (Nat×ah)) (h1:mA l (frzs fs s)=some r) (h2:Gn (frzs fs s).heap σ') (h3:MR r σ'=true) (h4:Post r σ'):xO l Post .ret s :=
 ⟨(fun _ h=>by cases h),s,Wk.refl s,fs,r,σ',h1,(fun i o hi=>jS h2 _ (dJ hi)),gb h3,h4⟩
theorem gc {l:List jL} {Post:AV→List (Nat×ah)→Prop} {s:St} (fs:List Nat) (r:AV) (σ':List (Nat×ah)) (h1:mA l (frzs fs s)=some r) (h2:Gn (frzs fs s).heap σ') (h3:MR r σ'=true) (h4:Post r σ'):xO l Post .nrm s :=
 ⟨(fun _ h=>by cases h),s,Wk.refl s,fs,r,σ',h1,(fun i o hi=>jS h2 _ (dJ hi)),gb h3,h4⟩
theorem aG {l:List jL} {Post:AV→List (Nat×ah)→Prop} {s:St} (fs:List Nat) (r:AV) (σ':List (Nat×ah)) (h4:Post r σ') (h1:mA l (frzs fs s)=some r:=by simp only [go_sem]) (h2:Gn (frzs fs s).heap σ':=by simp only [go_sem]) (h3:MR r σ'=true:=by exact rfl):xO l Post .ret s:=done fs r σ' h1 h2 h3 h4
theorem nn {l:List jL} {Post:AV→List (Nat×ah)→Prop} {s:St} (fs:List Nat) (r:AV) (σ':List (Nat×ah)) (h4:Post r σ') (h1:mA l (frzs fs s)=some r:=by simp only [go_sem]) (h2:Gn (frzs fs s).heap σ':=by simp only [go_sem]) (h3:MR r σ'=true:=by exact rfl):xO l Post .nrm s:=gc fs r σ' h1 h2 h3 h4
def ri (n:Int):List AV:=[.int .i64 n]
def ru (n:Int):List AV:=[.int .u8 n]
def rb (b:UInt8):List AV:=[.int .u8 b.toNat]
def rs (s:List UInt8):List AV:=[.str s]
def rt (b:Bool):List AV:=[.bool b]
theorem afM (n:Int):ri n=[.int .i64 n]:=rfl
theorem afP (n:Int):ru n=[.int .u8 n]:=rfl
theorem afL (b:UInt8):rb b=[.int .u8 b.toNat]:=rfl
theorem afN (s:List UInt8):rs s=[.str s]:=rfl
theorem afO (b:Bool):rt b=[.bool b]:=rfl
section
variable {α:Type}
theorem n9 (id n st row:Nat) (t:TypeId) (f:α→List AV) (l:List α) (v:α) (hn:∀x,(f x).length=n) (hi:(f v).all fH=true) :
  sO id n st row 0 (some ⟨t,st,l.map f,false⟩) (some (f v))=if row<l.length then some (.put id ⟨t,st,(l.set row v).map f,false⟩) else none:=by
 rw [Qp _ _ _ _ _ _ _ (by simpa using fun x _=>hn x)]
 simp only [hn,hi,bT,true_and,List.map_set]
theorem VO (id st row:Nat) (t:TypeId) (l:List Int) (v:Int):sO id 1 st row 0 (some ⟨t,st,l.map ri,false⟩) (some [.int .i64 v])=if row<l.length then some (.put id ⟨t,st,(l.set row v).map ri,false⟩) else none:=n9 id 1 st row t ri l v (fun _=>rfl) rfl
theorem VR (id st row:Nat) (t:TypeId) (l:List Int) (v:Int):sO id 1 st row 0 (some ⟨t,st,l.map ru,false⟩) (some [.int .u8 v])=if row<l.length then some (.put id ⟨t,st,(l.set row v).map ru,false⟩) else none:=n9 id 1 st row t ru l v (fun _=>rfl) rfl
theorem VP (id st row:Nat) (t:TypeId) (l:List (List UInt8)) (v:List UInt8):sO id 1 st row 0 (some ⟨t,st,l.map rs,false⟩) (some [.str v])=if row<l.length then some (.put id ⟨t,st,(l.set row v).map rs,false⟩) else none:=n9 id 1 st row t rs l v (fun _=>rfl) rfl
theorem VQ (id st row:Nat) (t:TypeId) (l:List Bool) (v:Bool):sO id 1 st row 0 (some ⟨t,st,l.map rt,false⟩) (some [.bool v])=if row<l.length then some (.put id ⟨t,st,(l.set row v).map rt,false⟩) else none:=n9 id 1 st row t rt l v (fun _=>rfl) rfl
theorem uM [Inhabited α] (id n st row off:Nat) (t:TypeId) (f:α→List AV) (l:List α) (cs:List AV) (g:α→α) (hl:cs.length=n) (hi:cs.all fH=true) (hn:∀x,off+n≤(f x).length) (hg:∀x,dP (f x) off cs=f (g x)) :
  sO id n st row off (some ⟨t,st,l.map f,false⟩) (some cs)=if row<l.length then some (.put id ⟨t,st,(l.set row (g (au l row))).map f,false⟩) else none:=by
 simp only [sO,hl,hi,oh,and_self,dl]
 by_cases h3:row<l.length
 ·rw [db,gn h3]
  simp only [eH,hn,dl,h3,hg,List.map_set,aX h3]
 ·rw [List.getElem?_eq_none (by simpa using h3),ar h3]
theorem eQ (id:Nat) (t:TypeId) (st len:Nat) (f:α→List AV) (l:List α) (ys:List (List AV)) (hl:l.length=len):s8 id t st 0 len ys (some ⟨t,st,l.map f,false⟩) =
  if ys.length<137438953472∧len<137438953472∧(id<1000∨2000≤id) then some (.ms id st 0 (len+ys.length),.reb id ⟨t,st,l.map f++ys,false⟩) else none:=oz id t st len _ ys (by simpa using hl)
theorem Eu (id:Nat) (t:TypeId) (st len:Nat) (f:α→List AV) (l:List α) (ys:List (List AV)) (hl:len≤l.length):s8 id t st 0 len ys (some ⟨t,st,l.map f,false⟩) =
  if ys.length<137438953472∧len<137438953472∧(id<1000∨2000≤id) then some (.ms id st 0 (len+ys.length),.reb id ⟨t,st,(l.take len).map f++ys,false⟩) else none:=by
 simp only [s8,true_and,bT,hl,List.map_take,tD,and_true]
 by_cases h1:ys.length<137438953472<;>simp [h1]
theorem LX (st len:Nat) (t:TypeId) (f:α→List AV) (l:List α) (hl:l.length=len):FQ st 0 len (some ⟨t,st,l.map f,false⟩)=some (l.map f):=xF st len t _ (by simpa using hl)
theorem kT (st:Nat) (t:TypeId) (r:List AV):FQ st 0 1 (some ⟨t,st,[r],false⟩)=some [r]:=xF st 1 t _ rfl
end
theorem wi {n:Int} (h0:-9223372036854775808≤n) (h1:n<9223372036854775808):IntKind.i64.wrap n=n:=by
 unfold IntKind.wrap
 show (if (true&&decide (n % 18446744073709551616≥9223372036854775808))=true then n % 18446744073709551616 - 18446744073709551616 else n % 18446744073709551616)=n
 by_cases h:n % 18446744073709551616≥9223372036854775808
 ·rw [bH h];simp only [fV,dl];omega
 ·rw [bF h];simp only [Bool.and_false,iR,fA];omega
theorem Ip (d:Nat) (t:TypeId) (st:Nat) (c:Prop) [Decidable c] (x:Option (List (List AV))):Io d t st (if c then x else none)=if c then Io d t st x else none:=by split<;>rfl
theorem In (d:Nat) (t:TypeId) (n:Nat) (c:Prop) [Decidable c] (x:Option (List AV)):NT d t n (if c then x else none)=if c then NT d t n x else none:=by split<;>rfl
theorem Lv {α β:Type} (f:α→β) (c:Prop) [Decidable c] (x:Option α):Option.map f (if c then x else none)=if c then Option.map f x else none:=by split<;>rfl
attribute [go_sem] Ip In Lv
attribute [go_sem] Y1 Gn MR afM afP afL afN afO VO VR VP VQ kT cZ
theorem Wk.nls (s:St) (k st:Nat) (hk:get s.env k = .nl):Wk s ⟨(k,.sl st []) :: s.env,s.heap⟩:=by
 rintro c a w ⟨bl,hs⟩
 refine ⟨bl,hs.defers,hs.size,fun j=>?_,hs.heap,hs.step,hs.own,hs.stab,hs.mf⟩
 simp only [get]
 split
 ·rename_i h
  subst h
  have:=hs.env k
  rw [hk] at this
  rw [this.nl]
  exact IRel.nls st
 ·exact hs.env j
theorem IRel.nl_sl {M:Nat→Prop} {w:World} {v:Value} (h:IRel M w v .nl) (st:Nat):IRel M w v (.sl st []):=by
 cases h
 exact .nls st
def UH:List AV→List AV→Prop
 | [],[]=>True
 | x :: l,y :: m=>(x=y∨(x = .nl∧∃st,y = .sl st []))∧UH l m
 | _,_=>False
theorem yy:∀{l m:List AV},UH l m→m.length=l.length
 | [],[],_=>rfl
 | _ :: _,_ :: _,h=>by simp [yy h.2]
 | [],_ :: _,h=>h.elim
 | _ :: _,[],h=>h.elim
theorem yx:∀{l m:List AV},UH l m→∀{j:Nat} {y:AV},m[j]? = some y→∃x,l[j]? = some x∧(x=y∨(x = .nl∧∃st,y = .sl st []))
 | [],[],_,j,y,hy=>by simp at hy
 | x :: l,z :: m,h,0,y,hy=>by simp at hy;subst hy;exact ⟨x,rfl,h.1⟩
 | x :: l,z :: m,h,j+1,y,hy=>by simpa using yx h.2 (j:=j) (by simpa using hy)
 | [],_ :: _,h,_,_,_=>h.elim
 | _ :: _,[],h,_,_,_=>h.elim
theorem Wk.nlh (s:St) (i:Nat) {t:TypeId} {st:Nat} {r r':List AV} (hi:ae s.heap i=some ⟨t,st,[r],true⟩) (hr:UH r r'):Wk s ⟨s.env,(i,⟨t,st,[r'],true⟩) :: s.heap⟩:=by
 rintro c a w ⟨bl,hs⟩
 have hm:∀b,aZ bl c.MF (ae ((i,⟨t,st,[r'],true⟩) :: s.heap)) b↔aZ bl c.MF (ae s.heap) b:=aZ.congr fun j=>by
  simp only [ae]
  split
  ·rename_i h;subst h;rw [hi];rfl
  ·rfl
 have ht:=Tr.of_iff (w:=w) fun b=>(hm b)
 refine ⟨bl,hs.defers,hs.size,fun j=>(hs.env j).tr ht (fun _ _=>rfl),⟨fun j o hj=>?_,fun j j' o o' b h1 h2=>?_⟩,hs.step,fun j o b h1=>?_,hs.stab,hs.mf⟩
 ·simp only [ae] at hj
  split at hj
  ·rename_i hij
   subst hij
   cases hj
   rcases hs.heap.1 i _ hi with hn | ⟨b,g1,⟨gk,c1,fr,g2,g3,g4,g5,g6,g7⟩ | hsp⟩
   ·cases hn.2.1
   rotate_left
   ·cases hsp.isRec
   ·refine .inr ⟨b,g1,.inl ⟨gk,c1,fr,g2,g3,g4,fun k q hq=>?_,by simpa using g6,fun k q u x hu hx=>?_⟩⟩
    ·cases k with
     | zero=>simp at hq;subst hq;rw [yy hr];exact g5 0 r rfl
     | succ k=>simp at hq
    ·cases k with
     | succ k=>simp at hu
     | zero =>
      simp at hu
      subst hu
      obtain ⟨x0,h1,h2⟩:=yx hr hx
      obtain ⟨v,hv1,hv2⟩:=g7 0 q r x0 rfl h1
      refine ⟨v,hv1,?_⟩
      have hv3:bN bl (aZ bl c.MF (ae s.heap)) w v x0:=hv2
      rcases h2 with h2 | ⟨h2,st',h3⟩
      ·subst h2;exact hv3.tr ht (fun _ _=>rfl)
      ·subst h2 h3
       have:IRel (aZ bl c.MF (ae s.heap)) w v .nl:=hv3
       exact (IRel.toC (bl:=bl) (IRel.nl_sl this st')).tr ht (fun _ _=>rfl)
  ·rcases hs.heap.1 j o hj with hn | ⟨b,g1,⟨gk,c1,fr,g2,g3,g4,g5,g6,g7⟩ | hsp⟩
   ·exact .inl hn
   rotate_left
   ·exact .inr ⟨b,g1,.inr hsp⟩
   ·refine .inr ⟨b,g1,.inl ⟨gk,c1,fr,g2,g3,g4,g5,g6,fun k q u x hu hx=>?_⟩⟩
    obtain ⟨v,hv1,hv2⟩:=g7 k q u x hu hx
    refine ⟨v,hv1,?_⟩
    cases hrec:o.isRec<;>simp only [hrec,l0] at hv2 ⊢
    ·exact hv2.tr ht.keep
    ·exact hv2.tr ht (fun _ _=>rfl)
 ·have key:∀{j:Nat} {o:ah},ae ((i,⟨t,st,[r'],true⟩) :: s.heap) j=some o→∃o',ae s.heap j=some o':=fun {j o} hj=>by
   simp only [ae] at hj
   split at hj
   ·rename_i hij;subst hij;exact ⟨_,hi⟩
   ·exact ⟨_,hj⟩
  obtain ⟨p1,q1⟩:=key h1
  obtain ⟨p2,q2⟩:=key h2
  exact hs.heap.2 j j' p1 p2 b q1 q2
 ·simp only [ae] at h1
  split at h1
  ·rename_i hij;subst hij;exact hs.own i _ b hi
  ·exact hs.own j o b h1
theorem k_ {l:List jL} {Post:AV→List (Nat×ah)→Prop} {s s1:St} (hw:Wk s s1) (fs:List Nat) (r:AV) (σ':List (Nat×ah)) (h1:mA l (frzs fs s1)=some r) (h2:Gn (frzs fs s1).heap σ') (h3:MR r σ'=true) (h4:Post r σ'):xO l Post .ret s :=
 ⟨(fun _ h=>by cases h),s1,hw,fs,r,σ',h1,(fun i o hi=>jS h2 _ (dJ hi)),gb h3,h4⟩
theorem iQ {l:List jL} {r:AV} {s s1:St} (hw:Wk s s1) (fs:List Nat) (h:mA l (frzs fs s1)=some r) (h2:aI r=[]):zj l r .ret s:=⟨(fun _ h=>by cases h),s1,hw,fs,h,h2⟩
inductive Ty where
 | bool
 | int (k:IntKind)
 | str
 | sl (e:Ty)
 | nil
 | cons (f:Ty) (r:Ty)
 deriving Inhabited
def Ty.n:Ty→Nat
 | .nil=>0
 | .cons f r=>f.n+r.n
 | _=>1
def Ty.ok:Ty→List AV→Prop
 | .bool,xs=>∃b,xs=[.bool b]
 | .int k,xs=>∃n,xs=[.int k n]∧(Lit.int k n).wf=true
 | .str,xs=>∃s,xs=[.str s]∧s.length≤maxLen
 | .sl e,xs=>xs=[.nl]∨∃rows,xs=[.sl e.n rows]∧rows.length≤maxLen∧∀r∈rows,e.ok r
 | .nil,xs=>xs=[]
 | .cons f r,xs=>∃ys zs,xs=ys++zs∧f.ok ys∧r.ok zs
theorem Ty.ok_len:∀(τ:Ty) (xs:List AV),τ.ok xs→xs.length=τ.n
 | .bool,xs,h=>by obtain ⟨b,rfl⟩:=h;rfl
 | .int k,xs,h=>by obtain ⟨n,rfl,_⟩:=h;rfl
 | .str,xs,h=>by obtain ⟨s,rfl,_⟩:=h;rfl
 | .sl e,xs,h=>by rcases h with rfl | ⟨rows,rfl,_⟩<;>rfl
 | .nil,xs,h=>by subst h;rfl
 | .cons f r,xs,h=>by
  obtain ⟨ys,zs,rfl,h1,h2⟩:=h
  simp only [ee,Ty.n,Ty.ok_len f ys h1,Ty.ok_len r zs h2]
def uQ (g:TypeId→Option Ty) (P:Program) (off:Nat):List Field→Option Ty
 | []=>some .nil
 | f :: r=>if f.offset=off then (match g f.type,uQ g P (off+P.cellsOf f.type) r with
  | some a,some b=>if a.n=P.cellsOf f.type then some (.cons a b) else none
  | _,_=>none) else none
def km (P:Program):Nat→TypeId→Option Ty
 | 0,_=>none
 | f+1,t=>match P.underlying t with
  | some .bool=>some .bool
  | some (.int k)=>some (.int k)
  | some .string=>some .str
  | some (.slice e)=>match km P f e with
   | some a=>if a.n=P.cellsOf e∧0<a.n then some (.sl a) else none
   | none=>none
  | some (.struct fs)=>match uQ (km P f) P 0 fs.toList with
   | some a=>if a.n=P.cellsOf t then some a else none
   | none=>none
  | _=>none
theorem Al {α β:Type} {g:α→Option β}:∀{l:List α} {r:List β},l.mapM g=some r→r.length=l.length∧∀(i:Nat) (x:α),l[i]? = some x→∃y,r[i]? = some y∧g x=some y
 | [],r,h=>by
  simp only [List.mapM_nil,pure,bV] at h
  subst h
  exact ⟨rfl,fun i x hx=>by simp at hx⟩
 | a :: l,r,h=>by
  simp only [List.mapM_cons,bind,lg,pure,bV] at h
  obtain ⟨y,h1,ys,h2,rfl⟩:=h
  obtain ⟨h3,h4⟩:=Al h2
  refine ⟨by simp [h3],fun i x hx=>?_⟩
  cases i with
  | zero =>
   simp only [List.getElem?_cons_zero,bV] at hx
   subst hx
   exact ⟨y,rfl,h1⟩
  | succ i=>exact h4 i x (by simpa using hx)
theorem mJ {β:Type} {g:Nat→Option β} {n:Nat} {r:List β} (h:(List.range n).mapM g=some r):r.length=n∧∀i,i<n→∃y,r[i]? = some y∧g i=some y:=by
 obtain ⟨h1,h2⟩:=Al h
 exact ⟨by simpa using h1,fun i hi=>h2 i i (by simp [hi])⟩
theorem wO {w:World} {base:Nat} {a:Addr} {n:Nat} {cs:List Value} (h:w.cells? base a n=some cs):cs.length=n∧∀j,j<n→∃y,cs[j]? = some y∧w.cell? (a.add j)=some y:=by
 unfold World.cells? at h
 split at h
 ·exact mJ h
 ·cases h
theorem td {w:World} {a:Addr} {v:Value} (h:w.cell? a=some v):a.spot=none∧∃c t fr,w.heap[a.block]? = some (.cells c t fr)∧c[a.off]? = some v:=by
 unfold World.cell? at h
 split at h
 case h_2=>cases h
 rename_i c t fr hb
 split at h
 ·cases h
 ·rename_i hs
  exact ⟨by simpa using hs,c,t,fr,hb,h⟩
theorem aH.split {α β:Type} {R:α→β→Prop}:∀{l l':List α} {m m':List β},l.length=m.length→aH R l m→aH R l' m'→aH R (l++l') (m++m'):=fun _ h h'=>h.append h'
section
variable {H:Type} {enc:TypeId×Value→H} {P:Program} {w:World} {base:Nat} {sp:Nat→Bool} {held:Bool}
theorem w8 {g:TypeId→Option Ty} {r:TypeId→List Value→Option (DataW H×List MemPlace)} (ih:∀t cs τ x,g t=some τ→r t cs=some x→∃xs,τ.ok xs∧aH (IRel (fun _=>False) w) cs xs) (cs:List Value) :
  ∀(fs:List Field) (off:Nat) (τ:Ty) (xs:List (DataW H×List MemPlace)),uQ g P off fs=some τ→(fs.mapM fun f=>r f.type ((cs.drop f.offset).take (P.cellsOf f.type)))=some xs→off+τ.n=cs.length →
   ∃ys,τ.ok ys∧aH (IRel (fun _=>False) w) (cs.drop off) ys
 | [],off,τ,xs,ht,_,hn=>by
  simp only [uQ,bV] at ht
  subst ht
  refine ⟨[],rfl,?_⟩
  rw [List.drop_eq_nil_of_le (by simp [Ty.n] at hn;omega)]
  trivial
 | f :: fs,off,τ,xs,ht,hm,hn=>by
  simp only [uQ] at ht
  split at ht
  case isFalse=>cases ht
  rename_i hoff
  split at ht
  case h_2=>cases ht
  rename_i a b ha hb
  split at ht
  case isFalse=>cases ht
  rename_i hsz
  cases ht
  simp only [List.mapM_cons,bind,lg,pure,bV] at hm
  obtain ⟨y,h1,zs,h2,rfl⟩:=hm
  obtain ⟨xs1,h3,h4⟩:=ih _ _ _ _ ha h1
  simp only [Ty.n] at hn
  obtain ⟨xs2,h5,h6⟩:=w8 ih cs fs (off+P.cellsOf f.type) b zs hb h2 (by omega)
  refine ⟨xs1++xs2,⟨xs1,xs2,rfl,h3,h5⟩,?_⟩
  rw [hoff] at h4
  have:cs.drop off=(cs.drop off).take (P.cellsOf f.type)++cs.drop (off+P.cellsOf f.type):=by
   rw [← List.drop_drop,List.take_append_drop]
  rw [this]
  exact h4.append h6
theorem Qt:∀(fuel f:Nat) (t:TypeId) (cs:List Value) (τ:Ty) (x:DataW H×List MemPlace),km P f t=some τ→DataW.trod enc P w base sp held fuel t cs=some x→∃xs,τ.ok xs∧aH (IRel (fun _=>False) w) cs xs:=by
 intro fuel
 induction fuel with
 | zero=>intro f t cs τ x _ h;simp [DataW.trod] at h
 | succ fuel ih =>
  intro f t cs τ x ht h
  cases f with
  | zero=>simp [km] at ht
  | succ f =>
   simp only [km] at ht
   split at ht
   case h_1 hu =>
    cases ht
    unfold DataW.trod at h
    split at h<;>rename_i heq<;>first | (rw [hu] at heq;cases heq;done) | (cases h;done) | skip
    rename_i b
    exact ⟨[.bool b],⟨b,rfl⟩,.bool b,trivial⟩
   case h_2 k hu =>
    cases ht
    unfold DataW.trod at h
    split at h<;>rename_i heq<;>first | (rw [hu] at heq;cases heq;done) | (cases h;done) | skip
    rename_i k' k1 n
    rw [hu] at heq
    cases heq
    split at h
    ·rename_i hk
     obtain ⟨rfl,hwf⟩:=hk
     exact ⟨[.int _ n],⟨n,rfl,hwf⟩,.int _ n,trivial⟩
    ·cases h
   case h_3 hu =>
    cases ht
    unfold DataW.trod at h
    split at h<;>rename_i heq<;>first | (rw [hu] at heq;cases heq;done) | (cases h;done) | skip
    rename_i s
    split at h
    ·rename_i hs
     refine ⟨[.str s.data.toList],⟨_,rfl,by simpa using hs⟩,?_,trivial⟩
     have:=IRel.str (M:=fun _=>False) (w:=w) s.data.toList
     simpa using this
    ·cases h
   case h_4 e hu =>
    split at ht
    case h_2=>cases ht
    rename_i a ha
    split at ht
    case isFalse=>cases ht
    rename_i hsz
    cases ht
    unfold DataW.trod at h
    split at h<;>rename_i heq<;>first | (rw [hu] at heq;cases heq;done) | (cases h;done) | skip
    ·exact ⟨[.nl],.inl rfl,.nl,trivial⟩
    ·rename_i e1 ad len cap
     rw [hu] at heq
     cases heq
     simp only at h
     split at h
     case isFalse=>cases h
     rename_i hcap
     simp only [lg] at h
     obtain ⟨elems,hel,_⟩:=h
     obtain ⟨hlen,ae⟩:=mJ hel
     have hrow:∀i,i<len→∃row xs,w.cells? base (ad.add (i * P.cellsOf e)) (P.cellsOf e)=some row∧a.ok xs∧aH (IRel (fun _=>False) w) row xs:=fun i hi=>by
      obtain ⟨y,_,h2⟩:=ae i hi
      simp only [lg] at h2
      obtain ⟨row,h3,h4⟩:=h2
      obtain ⟨xs,h5,h6⟩:=ih f e row a y ha h4
      exact ⟨row,xs,h3,h5,h6⟩
     by_cases h0:len=0
     ·subst h0
      exact ⟨[.sl a.n []],.inr ⟨[],rfl,ef _,fun r hr=>by cases hr⟩,.sl0 _ _ _,trivial⟩
     have hn:0<P.cellsOf e:=by omega
     have hcell:∀i j,i<len→j<P.cellsOf e→∀row,w.cells? base (ad.add (i * P.cellsOf e)) (P.cellsOf e)=some row→∃y,row[j]? = some y∧w.cell? ((ad.add (i * P.cellsOf e)).add j)=some y:=fun i j hi hj row hr=>(wO hr).2 j hj
     obtain ⟨row0,xs0,r1,_,_⟩:=hrow 0 (by omega)
     obtain ⟨y0,_,c0⟩:=hcell 0 0 (by omega) hn row0 r1
     obtain ⟨hspot,c,tt,fr,hb,_⟩:=td c0
     have hspot':ad.spot=none:=by simpa [Addr.add] using hspot
     have hblk:∀(q:Addr) m,(q.add m).block=q.block:=fun q m=>by unfold Addr.add;split<;>rfl
     have hoff:∀(q:Addr) m,(q.add m).off=q.off+m:=fun q m=>by
      unfold Addr.add
      split
      ·rename_i hm;simp [hm]
      ·rfl
     rw [hblk,hblk] at hb
     have hval:∀i j,i<len→j<P.cellsOf e→∀row,w.cells? base (ad.add (i * P.cellsOf e)) (P.cellsOf e)=some row→∃y,row[j]? = some y∧c[ad.off+i * P.cellsOf e+j]? = some y:=fun i j hi hj row hr=>by
      obtain ⟨y,g1,g2⟩:=hcell i j hi hj row hr
      obtain ⟨_,c',t',fr',g3,g4⟩:=td g2
      rw [hblk,hblk,hb] at g3
      cases g3
      rw [hoff,hoff] at g4
      exact ⟨y,g1,g4⟩
     let R:Nat→List Value:=fun i=>if hi:i<len then Classical.choose (hrow i hi) else []
     let X:Nat→List AV:=fun i=>if hi:i<len then Classical.choose (Classical.choose_spec (hrow i hi)) else []
     have hRX:∀i,i<len→w.cells? base (ad.add (i * P.cellsOf e)) (P.cellsOf e)=some (R i)∧a.ok (X i)∧aH (IRel (fun _=>False) w) (R i) (X i):=fun i hi=>by
      have:=Classical.choose_spec (Classical.choose_spec (hrow i hi))
      simp only [R,X,hi,dif_pos]
      exact this
     have hrows:∀(i:Nat) (r:List AV),((List.range len).map X)[i]? = some r→i<len∧r=X i:=fun i r hr=>by
      simp only [db,cJ] at hr
      obtain ⟨j,h1,h2⟩:=hr
      have h3:=dW.1 h1
      obtain ⟨h4,h5⟩:=h3
      simp at h4 h5
      subst h5
      exact ⟨h4,h2.symm⟩
     refine ⟨[.sl a.n ((List.range len).map X)],.inr ⟨_,rfl,by simp;omega,fun r hr=>?_⟩,?_,trivial⟩
     ·obtain ⟨i,hi,rfl⟩:=List.mem_map.1 hr
      exact (hRX i (by simpa using hi)).2.1
     ·obtain ⟨bk,of,so⟩:=ad
      simp only at hspot'
      subst hspot'
      have hll:((List.range len).map X).length=len:=by simp
      have key:=IRel.sl (M:=fun _=>False) (w:=w) bk of cap a.n c tt fr ((List.range len).map X) (fun i j=>(R i).getD j undef) hb (fun h=>h) (by rw [hll];omega)
       (fun i r hr=>by obtain ⟨h1,rfl⟩:=hrows i r hr;exact Ty.ok_len _ _ (hRX i h1).2.1)
       (fun i j hi hj=>by
        rw [hll] at hi
        rw [hsz.1] at hj ⊢
        obtain ⟨y,g1,g2⟩:=hval i j hi hj _ (hRX i hi).1
        rw [g2,List.getD_eq_getElem?_getD,g1]
        rfl)
       (fun i j r x hr hx=>by
        obtain ⟨h1,rfl⟩:=hrows i r hr
        obtain ⟨y,g1,g2⟩:=(hRX i h1).2.2.get hx
        rw [List.getD_eq_getElem?_getD,g1]
        exact g2)
      rw [hll] at key
      exact key
   case h_5 fs hu =>
    split at ht
    case h_2=>cases ht
    rename_i a ha
    split at ht
    case isFalse=>cases ht
    rename_i hsz
    cases ht
    unfold DataW.trod at h
    split at h<;>rename_i heq<;>first | (rw [hu] at heq;cases heq;done) | (cases h;done) | skip
    ·rename_i cs1 fs1
     rw [hu] at heq
     cases heq
     split at h
     case isFalse=>cases h
     rename_i hcl
     simp only [cJ] at h
     obtain ⟨xs,h1,_⟩:=h
     have:=w8 (P:=P) (g:=km P f) (r:=fun t cs=>DataW.trod enc P w base sp held fuel t cs) (fun t cs τ x=>ih f t cs τ x) _ _ 0 _ xs ha h1 (by omega)
     simpa using this
   case h_6=>cases ht
end
open Go.ChangeShapes Go.WideShapes Go.ChangeAt Go.RowKit
section
variable {H:Type} {enc:TypeId×Value→H} {P:Program} [aV P]
structure zh (w w':World):Prop where
 size:w.heap.size≤w'.heap.size
 old:∀b,b<w.heap.size→w'.heap[b]? = w.heap[b]?
 os:w'.os=w.os
 out:w'.output=w.output
theorem IRel.toV {bl:Nat→Option Nat} {M:Nat→Prop} {w:World} {v:Value} {x:AV} (h:IRel M w v x):aR bl M w v x:=h.toC.toG.toV
theorem zh.frame {w w':World} (h:zh w w') (may:MemPlace→Prop):w.keptBut w' may:=by
 refine ⟨h.os,h.out,fun i hi=>?_⟩
 rw [h.old i hi]
 cases ho:w.heap[i]? with
 | none=>rfl
 | some o =>
  cases o with
  | cells c t fr=>exact ⟨rfl,rfl,rfl,fun _ _=>rfl⟩
  | map es clock=>exact .inr ⟨rfl,rfl⟩
  | _=>rfl
theorem zh.frozen {w w':World} (h:zh w w') {a:Addr} (ha:a.block<w.heap.size):w'.frozen? a=w.frozen? a:=World.frozen?_of_block (w:=w) (h.old a.block ha)
theorem zh.same {w w':World} (h:zh w w') {p:MemPlace} (hp:p.block<w.heap.size):w.sameAt w' p:=by
 cases p with
 | cell b off=>exact World.cell?_of_block (w:=w) (h.old b hp)
 | map b=>exact h.old b hp
theorem lY (hl:laidOutB P=true) {W W':World} {sp:Nat→Bool}:∀{ts:List TypeId} {vs:List Value} {ds:List (DataW H)} {ps:List MemPlace},(∀t∈ts,P.readableRec t=true∧t<P.types.size) →
  DataW.TrodAll enc P W 0 (fun _=>true) true ts vs ds ps→(∀p∈ps,W.sameAt W' p)→(∀p∈ps,sp p.block=true)→DataW.TrodAll enc P W' 0 sp true ts vs ds ps
 | [],[],[],ps,_,h,_,_=>h
 | t :: ts,v :: vs,d :: ds,ps,hr,h,h1,h2=>by
  obtain ⟨p,q,h3,h4,rfl⟩:=h
  exact ⟨p,q,WideElems.Trod_stays hl (hr t (by simp)).1 (hr t (by simp)).2 h3 (fun x hx=>h1 x (by simp [hx])) (fun x hx=>h2 x (by simp [hx])),
   lY hl (fun t ht=>hr t (by simp [ht])) h4 (fun x hx=>h1 x (by simp [hx])) (fun x hx=>h2 x (by simp [hx])),rfl⟩
 | [],_ :: _,_,_,_,h,_,_=>h.elim
 | [],[],_ :: _,_,_,h,_,_=>h.elim
 | _ :: _,[],_,_,_,h,_,_=>h.elim
 | _ :: _,_ :: _,[],_,_,h,_,_=>h.elim
theorem Ko {f:Func} {s:ChangeSpec} {apart fresh handsOn again:Bool} {W W':World} {args:Array Value} {ds gs:List (DataW H)} {before:List MemPlace} {tb:TypeId} (hl:laidOutB P=true)
  (hr:∀t∈f.params.toList,P.readableRec t=true∧t<P.types.size) (hv:s.vars=[]) (hfn:(s.fn H (ds++gs)).results=[.lit (.bool true)]) (hfa:(s.fn H (ds++gs)).args=ds) (hfv:(s.fn H (ds++gs)).vars=[])
  (hrt:f.resultTypes = #[tb]) (htb:P.underlying tb=some .bool) (hW:DataW.Whole enc P f.params.toList s.vars apart W args.toList ds gs before) (hk:zh W W') :
  s.post enc P f apart fresh handsOn again W args (.bool true) W':=by
 have hlt:=hW.lt
 have hW0:=hW
 obtain ⟨p,q,hA,hV,rfl,hz,hn⟩:=hW0
 rw [hv] at hV
 obtain ⟨rfl,rfl⟩:=trodVars_none hV
 rw [jJ] at *
 have hsame:∀x∈p,W.sameAt W' x:=fun x hx=>hk.same (by simpa using hlt x hx)
 have hargs:∀sp:Nat→Bool,(∀x∈p,sp x.block=true)→DataW.TrodAll enc P W' 0 sp true f.params.toList args.toList ds p:=fun sp hsp=>lY hl hr hA hsame hsp
 have hres:∀(b:Nat) (sp:Nat→Bool) (hd:Bool),DataW.TrodAll enc P W' b sp hd f.resultTypes.toList ((Value.bool true).resultList f.resultTypes.size) [.lit (.bool true)] []:=fun b sp hd=>by
  rw [hrt]
  exact trodAll_cons_mk (shut_bool htb _) trodAll_mk0
 have hvars:∀sp:Nat→Bool,DataW.TrodVars enc P W' sp s.vars [] []:=fun sp=>by rw [hv];rfl
 refine ⟨ds,[],p,[],p,[],by simpa using hW,by rw [jJ,hfn];exact hres _ _ _,by rw [jJ,hfa];exact hargs _ (fun x hx=>by simpa using hlt x (by simpa using hx)),by rw [jJ,hfv];exact hvars _,hk.frame _,fun _=>?_⟩
 refine ⟨ok_one hrt rfl (okWide_bool_mk htb _),[.lit (.bool true)]++ds,[],p,⟨[]++p,[],trodAll_append (hargs _ (fun _ _=>rfl)) (hres _ _ _),hvars _,by simp,?_,?_⟩,fun x hx _=>hx⟩
 ·intro b off hp
  have hb:b<W.heap.size:=hlt (.cell b off) (by simpa using hp)
  have:=hz b off (by simpa using hp)
  rw [hk.frozen (a:=⟨b,off,none⟩) hb]
  exact this
 ·intro ha
  simpa using hn ha
end
def Ty.isRec:Ty→Bool
 | .nil=>true
 | .cons _ _=>true
 | _=>false
def Ty.okV (τ:Ty) (x:AV):Prop:=match τ.isRec with
 | true=>∃xs,x = .agg xs∧τ.ok xs
 | false=>τ.ok [x]
section
variable {H:Type} {enc:TypeId×Value→H} {P:Program} [aV P] {w:World} {base:Nat} {sp:Nat→Bool} {held:Bool}
theorem Cm {g:TypeId→Option Ty}:∀{fs:List Field} {off:Nat} {τ:Ty},uQ g P off fs=some τ→τ.isRec=true
 | [],off,τ,h=>by simp only [uQ,bV] at h;subst h;rfl
 | f :: fs,off,τ,h=>by
  simp only [uQ] at h
  split at h
  case isFalse=>cases h
  split at h
  case h_2=>cases h
  split at h
  case isFalse=>cases h
  cases h
  rfl
theorem AB {f:FuncId} {args:List AV} {r:Bool} (hp:aj P f args (.bool r)) {w:World} {cargs:List Value} (hT:(aV.T P).H w) (ha:aH (aR (fun _=>none) (fun _=>False) w) cargs args) :
  Calls P f cargs.toArray w fun e w'=>e = .returned (.bool r)∧zh w w':=by
 have hM:aZ (fun _=>none) (fun _=>False) (ae [])=fun _=>False:=by
  funext b
  apply propext
  constructor
  ·rintro (h | ⟨i,o,h,_⟩)
   ·exact h
   ·simp [ae] at h
  ·exact False.elim
 refine (hp (fun _=>none) (fun _=>False) w cargs hT (fun _ _ hm=>hm.elim id fun ⟨_,_,hi,_⟩=>by simp [ae] at hi) ⟨fun i o h=>by simp [ae] at h,fun i _ o _ _ h=>by simp [ae] at h⟩ (fun _ h=>h.elim) (by rw [hM];exact ha)).mono fun e w'=>?_
 rintro ⟨v,r',σ',bl',rfl,⟨rfl,rfl⟩,_,_,hv,hst,_,_⟩
 have hv':=hv.bool
 subst hv'
 exact ⟨rfl,hst.size,fun b hb=>hst.keep b hb (fun ⟨i,o,h,_⟩=>by simp [ae] at h),hst.os,hst.out⟩
end
def fw:List (Nat×Nat)→Nat→Nat
 | [],i=>i
 | (a,b) :: r,i=>fw r (ou a b i)
def bw:List (Nat×Nat)→Nat→Nat
 | [],i=>i
 | (a,b) :: r,i=>ou a b (bw r i)
theorem wH:∀(ps:List (Nat×Nat)) (i:Nat),bw ps (fw ps i)=i
 | [],_=>rfl
 | (a,b) :: r,i=>by simp only [fw,bw,wH r,lw]
theorem zU:∀(ps:List (Nat×Nat)) (i:Nat),fw ps (bw ps i)=i
 | [],_=>rfl
 | (a,b) :: r,i=>by simp only [fw,bw,lw,zU r]
def fP:List Nat→List (Nat×AV)→List (Nat×AV)
 | [],e=>e
 | k :: ks,e=>mT k (fP ks e)
def fQ:List Nat→List (Nat×ah)→List (Nat×ah)
 | [],e=>e
 | k :: ks,e=>mU k (fQ ks e)
theorem FC (e:List (Nat×AV)):fP [] e=e:=rfl
theorem B2 (k:Nat) (ks:List Nat) (e:List (Nat×AV)):fP (k :: ks) e=mT k (fP ks e):=rfl
theorem FD (e:List (Nat×ah)):fQ [] e=e:=rfl
theorem B3 (k:Nat) (ks:List Nat) (e:List (Nat×ah)):fQ (k :: ks) e=mU k (fQ ks e):=rfl
attribute [go_sem] FC B2 FD B3
theorem JM (a b:Bool) (x:AV) (p:AV→Bool) (hp:p .any=false) (hx:p x=a):(if p (if b=true then .any else x)=true then AV.any else (if b=true then .any else x))=if (a||b)=true then .any else x:=by
 cases b<;>cases a<;>simp_all
theorem Vm (k:Nat) (ks:List Nat) (x:AV):fg k (j9 ks x)=j9 (k :: ks) x:=by
 have:=JM (mV k x) (ks.any fun i=>mV i x) x (mV k) rfl rfl
 exact this
theorem Ve (k:Nat) (ks:List Nat) (x:AV):jk k (qr ks x)=qr (k :: ks) x:=by
 have:=JM (mC k x) (ks.any fun i=>mC i x) x (mC k) rfl rfl
 exact this
theorem Vj (k:Nat) (ks:List Nat) (o:ah):cU k (eY ks o)=eY (k :: ks) o:=by
 unfold cU eY
 by_cases h:o.isRec=true
 ·simp only [h,dl,List.map_map]
  congr 1
  funext
  apply List.map_congr_left
  intro r _
  simp only [Function.comp,List.map_map]
  apply List.map_congr_left
  intro x _
  exact Ve k ks x
  rw [av h]
 ·simp [h]
theorem oL (k:Nat):∀(ks:List Nat) (e:List (Nat×AV)),get (fP ks e) k=j9 ks (get e k)
 | [],e=>by simp [fP,j9]
 | i :: ks,e=>by rw [fP,fF,oL k ks,Vm]
theorem my (k:Nat):∀(ks:List Nat) (e:List (Nat×ah)),ae (fQ ks e) k=(ae e k).map (eY ks)
 | [],e=>by
  have:eY []=id:=by
   funext o
   unfold eY qr
   simp
  simp [fQ,this]
 | i :: ks,e=>by
  rw [fQ,dM,my k ks,Option.map_map]
  congr 1
  funext o
  exact Vj i ks o
theorem iD (j:Nat):∀(a b:List (Nat×ah)),ae (a++b) j=match ae a j with
  | some o=>some o
  | none=>ae b j
 | [],b=>rfl
 | (k,o) :: r,b=>by
  simp only [lc,ae]
  split
  ·rfl
  ·exact iD j r b
section
variable {P:Program} [aV P]
theorem eR {f:FuncId} {args0 args:List AV} {σ0 σ2 σ1 σ3:List (Nat×ah)} {Sb:Nat→Prop} {r1 r3:AV} {d:Option Nat} {s:St} {K:St→Prop}
  (h:bu P f args0 σ0 Sb (fun r σ'=>r=r1∧σ'=σ1)) (ps:List (Nat×Nat)) (ks:List Nat)
  (ha:args.map (iL (bw ps))=args0) (hσ:ij (bw ps) σ2=σ0) (hr:iL (fw ps) r1=r3) (h3:ij (fw ps) σ1=σ3)
  (hin:∀p∈σ2,ae s.heap p.1=some p.2)
  (hout:∀p∈σ3,(Sb (bw ps p.1)∧(ae σ2 p.1).isSome=true)∨(p.1∈ks∧(p.1<1000∨2000≤p.1)∧((ae σ2 p.1).isSome=true∨ae s.heap p.1=none)))
  (hall:∀p∈σ2,(ae σ3 p.1).isSome=true)
  (hk:K ((St.mk (fP ks s.env) (σ3++fQ ks s.heap)).put d r3)):ci P f args d s K:=by
 have h':=h.ren (args2:=args) (σ2:=σ2) (fw ps) (bw ps) (wH ps) (zU ps) ha hσ
 refine .inl (.inr ⟨σ2,_,_,ks,h',fun id o hh=>hin (id,o) (dJ hh),?_,?_⟩)
 ·rintro r σ' ⟨r0,σ4,⟨rfl,rfl⟩,rfl,rfl⟩ id hid
  rw [h3] at hid
  obtain ⟨o,ho⟩:=Option.isSome_iff_exists.1 hid
  exact hout (id,o) (dJ ho)
 ·rintro r σ' ⟨r0,σ4,⟨rfl,rfl⟩,rfl,rfl⟩
  rw [hr,h3]
  refine ⟨⟨fP ks s.env,σ3++fQ ks s.heap⟩,fun k=>oL k ks s.env,fun j=>?_,hk⟩
  simp only [iD,Dw]
  cases hn:ae σ3 j with
  | some o=>rfl
  | none =>
   simp only
   by_cases h2:(ae σ2 j).isSome=true
   ·obtain ⟨o,ho⟩:=Option.isSome_iff_exists.1 h2
    have:=hall (j,o) (dJ ho)
    simp only at this
    rw [hn] at this
    cases this
   ·rw [ar h2,my]
theorem fD {f:FuncId} {args:List AV} {σ0 σ1:List (Nat×ah)} {Sb:Nat→Prop} {r1:AV} {d:Option Nat} {s:St} {K:St→Prop}
  (h:bu P f args σ0 Sb (fun r σ'=>r=r1∧σ'=σ1)) (ks:List Nat)
  (hin:∀p∈σ0,ae s.heap p.1=some p.2)
  (hout:∀p∈σ1,(Sb p.1∧(ae σ0 p.1).isSome=true)∨(p.1∈ks∧(p.1<1000∨2000≤p.1)∧((ae σ0 p.1).isSome=true∨ae s.heap p.1=none)))
  (hall:∀p∈σ0,(ae σ1 p.1).isSome=true)
  (hk:K ((St.mk (fP ks s.env) (σ1++fQ ks s.heap)).put d r1)):ci P f args d s K:=by
 refine .inl (.inr ⟨σ0,_,_,ks,h,fun id o hh=>hin (id,o) (dJ hh),?_,?_⟩)
 ·rintro r σ' ⟨rfl,rfl⟩ id hid
  obtain ⟨o,ho⟩:=Option.isSome_iff_exists.1 hid
  exact hout (id,o) (dJ ho)
 ·rintro r σ' ⟨rfl,rfl⟩
  refine ⟨⟨fP ks s.env,σ'++fQ ks s.heap⟩,fun k=>oL k ks s.env,fun j=>?_,hk⟩
  simp only [iD,Dw]
  cases hn:ae σ' j with
  | some o=>rfl
  | none =>
   simp only
   by_cases h2:(ae σ0 j).isSome=true
   ·obtain ⟨o,ho⟩:=Option.isSome_iff_exists.1 h2
    have:=hall (j,o) (dJ ho)
    simp only at this
    rw [hn] at this
    cases this
   ·rw [ar h2,my]
theorem Th {f:FuncId} {args:List AV} {k:Nat} {ob ob':ah} {Sb:Nat→Prop} {r:AV} {d:Option Nat} {s:St} {K:St→Prop}
  (h:bu P f args [(k,ob)] Sb (fun r' σ'=>r'=r∧σ'=[(k,ob')])) (hs:Sb k) (hk:ae s.heap k=some ob) (hK:K ((St.mk s.env ((k,ob') :: s.heap)).put d r)):ci P f args d s K:=by
 refine fD h [] (fun p hp=>?_) (fun p hp=>?_) (fun p hp=>?_) (by simpa only [fP,fQ,lc,e_] using hK)
 ·simp only [du] at hp;subst hp;exact hk
 ·simp only [du] at hp;subst hp;exact .inl ⟨hs,by simp [ae]⟩
 ·simp only [du] at hp;subst hp;simp [ae]
theorem FP (ρ:Nat→Nat) (x:AV) (hx:er x=[]):uA ρ x=x:=by cases x<;>first | rfl | (simp [er] at hx)
theorem jB {ρ:Nat→Nat} {f:AV→List Nat} {r:AV→AV} (hh:∀x,f x=[]→r x=x):∀l:List AV,l.flatMap f=[]→l.map r=l
 | [],_=>rfl
 | y :: l,hl=>by
  simp only [m8,List.append_eq_nil_iff] at hl
  simp only [cF,hh y hl.1,jB (ρ:=ρ) hh l hl.2]
theorem pc (ρ:Nat→Nat) (x:AV) (hx:dO x=[]):qO ρ x=x:=by
 cases x with
 | fn f caps=>simp only [qO,jB (ρ:=ρ) (FP ρ) caps hx]
 | _=>first | rfl | (simp [dO,er] at hx)
theorem pd (ρ:Nat→Nat) (x:AV) (hx:fG x=[]):v8 ρ x=x:=by
 cases x with
 | agg cells=>simp only [v8,jB (ρ:=ρ) (pc ρ) cells hx]
 | fn f caps=>exact pc ρ (.fn f caps) hx
 | _=>first | rfl | (simp [fG,dO,er] at hx)
theorem xE (ρ:Nat→Nat) (x:AV) (hx:aI x=[]):iL ρ x=x:=by
 cases x with
 | tup vs=>simp only [iL,jB (ρ:=ρ) (pd ρ) vs hx]
 | agg cells=>exact pd ρ (.agg cells) hx
 | fn f caps=>exact pd ρ (.fn f caps) hx
 | _=>first | rfl | (simp [aI,fG,dO,er] at hx)
theorem xD (ρ:Nat→Nat) (o:ah) (hx:dt o=[]):iK ρ o=o:=by
 unfold iK
 split
 ·rename_i hr
  have:∀rows:List (List AV),rows.flatMap (fun r=>r.flatMap dO)=[]→rows.map (fun r=>r.map (qO ρ))=rows:=fun rows=>by
   induction rows with
   | nil=>exact fun _=>rfl
   | cons r l ih =>
    intro hl
    simp only [m8,List.append_eq_nil_iff] at hl
    simp only [cF,ih hl.2,jB (ρ:=ρ) (pc ρ) r hl.1]
  simp only [dt,hr,dl] at hx
  rw [this _ hx]
 ·rfl
theorem uC (ρ:Nat→Nat):∀l:List AV,(∀x∈l,aI x=[])→l.map (iL ρ)=l
 | [],_=>rfl
 | x :: l,h=>by simp only [cF,xE ρ x (h x (by simp)),uC ρ l fun y hy=>h y (by simp [hy])]
theorem bu.at_ {f:FuncId} {st:Nat} {rest:List AV} {ob ob':ah} {Sb:Nat→Prop} {r:AV} (h:bu P f (.mp 1000 st 0 0 :: rest) [(1000,ob)] Sb (fun r' σ'=>r'=r∧σ'=[(1000,ob')]))
  (hr:aI r=[]) (hrest:∀x∈rest,aI x=[]) (ho:dt ob=[]) (ho':dt ob'=[]) (j:Nat) :
  bu P f (.mp j st 0 0 :: rest) [(j,ob)] (fun id=>Sb (ou 1000 j id)) (fun r' σ'=>r'=r∧σ'=[(j,ob')]):=by
 have e1:ou 1000 j 1000=j:=by simp [ou]
 have e2:ou 1000 j j=1000:=by unfold ou;split<;>simp_all
 refine (h.ren (args2:=.mp j st 0 0 :: rest) (σ2:=[(j,ob)]) (ou 1000 j) (ou 1000 j) (lw _ _) (lw _ _) ?_ ?_).mono (fun _ h=>h) ?_
 ·simp only [cF,uC _ rest hrest,iL,v8,qO,uA,e2]
 ·simp only [ij,e2,xD _ ob ho]
 ·rintro r' σ' ⟨r0,σ0,⟨rfl,rfl⟩,rfl,rfl⟩
  exact ⟨xE _ _ hr,by simp only [ij,e1,xD _ ob' ho']⟩
theorem Wr {Sb:Nat→Prop} (j:Nat) (h:Sb 1000):(fun id=>Sb (ou 1000 j id)) j:=by
 show Sb (ou 1000 j j)
 have e2:ou 1000 j j=1000:=by unfold ou;split<;>simp_all
 rw [e2];exact h
theorem Tg {f:FuncId} {st:Nat} {rest:List AV} {ob ob':ah} {Sb:Nat→Prop} {r:AV} {j:Nat} {d:Option Nat} {s:St} {K:St→Prop} (h:bu P f (.mp 1000 st 0 0 :: rest) [(1000,ob)] Sb (fun r' σ'=>r'=r∧σ'=[(1000,ob')]))
  (hs:Sb 1000) (hr:aI r=[]) (hrest:∀x∈rest,aI x=[]) (ho:dt ob=[]) (ho':dt ob'=[]) (hk:ae s.heap j=some ob) (hK:K ((St.mk s.env ((j,ob') :: s.heap)).put d r)):ci P f (.mp j st 0 0 :: rest) d s K :=
 Th (h.at_ hr hrest ho ho' j) (Wr j hs) hk hK
theorem cz {f:FuncId} {st:Nat} {rest:List AV} {ob ob':ah} {Sb:Nat→Prop} {r:AV} {j:Nat} {d:Option Nat} {s:St} {K:St→Prop} (h:bu P f (.mp 1000 st 0 0 :: rest) [(1000,ob)] Sb (fun r' σ'=>r'=r∧σ'=[(1000,ob')]))
  (hK:K ((St.mk s.env ((j,ob') :: s.heap)).put d r)) (hs:Sb 1000:=by exact ⟨by decide,by decide⟩) (hr:aI r=[]:=by first | rfl | exact bE _) (hrest:∀x∈rest,aI x=[]:=by simp [go_sem]) (ho:dt ob=[]:=by exact rfl) (ho':dt ob'=[]:=by exact rfl)
  (hk:ae s.heap j=some ob:=by rfl):ci P f (.mp j st 0 0 :: rest) d s K:=Tg h hs hr hrest ho ho' hk hK
end
theorem Wk.new0 (s:St) (i st:Nat) (t:TypeId) (hid:i<1000∨2000≤i):Wk s ⟨(s.kill i).env,(i,⟨t,st,[],false⟩) :: (s.kill i).heap⟩:=by
 intro c a w hs
 obtain ⟨bl,hs⟩:=hs.kill i
 obtain ⟨h1,h2⟩:=dE s i
 have hn:=hs.new0 (i:=i) (o:=⟨t,st,[],false⟩) h1 h2 hid rfl rfl
 refine ⟨_,hn.congr (fun _=>rfl) (fun j=>?_)⟩
 simp only [ae,c_]
 by_cases h:i=j
 ·rw [av h,av h.symm]
 ·rw [ar h,ar (Ne.symm h)]
def nlm:List AV→List AV→Prop
 | [],[]=>True
 | x :: l,y :: m=>(x=y∨(x = .nl∧((∃st,y = .sl st [])∨∃id st,y = .ms id st 0 0)))∧nlm l m
 | _,_=>False
theorem yw:∀{l m:List AV},nlm l m→m.length=l.length
 | [],[],_=>rfl
 | _ :: _,_ :: _,h=>by simp [yw h.2]
 | [],_ :: _,h=>h.elim
 | _ :: _,[],h=>h.elim
theorem yu:∀{l m:List AV},nlm l m→∀{j:Nat} {y:AV},m[j]? = some y→∃x,l[j]? = some x∧(x=y∨(x = .nl∧((∃st,y = .sl st [])∨∃id st,y = .ms id st 0 0)))
 | [],[],_,j,y,hy=>by simp at hy
 | x :: l,z :: m,h,0,y,hy=>by simp at hy;subst hy;exact ⟨x,rfl,h.1⟩
 | x :: l,z :: m,h,j+1,y,hy=>by simpa using yu h.2 (j:=j) (by simpa using hy)
 | [],_ :: _,h,_,_,_=>h.elim
 | _ :: _,[],h,_,_,_=>h.elim
theorem Wk.nlm (s:St) (i:Nat) {t:TypeId} {st:Nat} {r r':List AV} (hi:ae s.heap i=some ⟨t,st,[r],true⟩) (hr:Mw.nlm r r'):Wk s ⟨s.env,(i,⟨t,st,[r'],true⟩) :: s.heap⟩:=by
 rintro c a w ⟨bl,hs⟩
 have hm:∀b,aZ bl c.MF (ae ((i,⟨t,st,[r'],true⟩) :: s.heap)) b↔aZ bl c.MF (ae s.heap) b:=aZ.congr fun j=>by
  simp only [ae]
  split
  ·rename_i h;subst h;rw [hi];rfl
  ·rfl
 have ht:=Tr.of_iff (w:=w) fun b=>(hm b)
 refine ⟨bl,hs.defers,hs.size,fun j=>(hs.env j).tr ht (fun _ _=>rfl),⟨fun j o hj=>?_,fun j j' o o' b h1 h2=>?_⟩,hs.step,fun j o b h1=>?_,hs.stab,hs.mf⟩
 ·simp only [ae] at hj
  split at hj
  ·rename_i hij
   subst hij
   cases hj
   rcases hs.heap.1 i _ hi with hn | ⟨b,g1,⟨gk,c1,fr,g2,g3,g4,g5,g6,g7⟩ | hsp⟩
   ·cases hn.2.1
   rotate_left
   ·cases hsp.isRec
   ·refine .inr ⟨b,g1,.inl ⟨gk,c1,fr,g2,g3,g4,fun k q hq=>?_,by simpa using g6,fun k q u x hu hx=>?_⟩⟩
    ·cases k with
     | zero=>simp at hq;subst hq;rw [yw hr];exact g5 0 r rfl
     | succ k=>simp at hq
    ·cases k with
     | succ k=>simp at hu
     | zero =>
      simp at hu
      subst hu
      obtain ⟨x0,h1,h2⟩:=yu hr hx
      obtain ⟨v,hv1,hv2⟩:=g7 0 q r x0 rfl h1
      refine ⟨v,hv1,?_⟩
      have hv3:bN bl (aZ bl c.MF (ae s.heap)) w v x0:=hv2
      rcases h2 with h2 | ⟨h2,⟨st',h3⟩ | ⟨id,st',h3⟩⟩
      ·subst h2;exact hv3.tr ht (fun _ _=>rfl)
      ·subst h2 h3
       have:IRel (aZ bl c.MF (ae s.heap)) w v .nl:=hv3
       exact (IRel.toC (bl:=bl) (IRel.nl_sl this st')).tr ht (fun _ _=>rfl)
      ·subst h2 h3
       have:IRel (aZ bl c.MF (ae s.heap)) w v .nl:=hv3
       cases this
       exact .inl ⟨rfl,rfl,rfl⟩
  ·rcases hs.heap.1 j o hj with hn | ⟨b,g1,⟨gk,c1,fr,g2,g3,g4,g5,g6,g7⟩ | hsp⟩
   ·exact .inl hn
   rotate_left
   ·exact .inr ⟨b,g1,.inr hsp⟩
   ·refine .inr ⟨b,g1,.inl ⟨gk,c1,fr,g2,g3,g4,g5,g6,fun k q u x hu hx=>?_⟩⟩
    obtain ⟨v,hv1,hv2⟩:=g7 k q u x hu hx
    refine ⟨v,hv1,?_⟩
    cases hrec:o.isRec<;>simp only [hrec,l0] at hv2 ⊢
    ·exact hv2.tr ht.keep
    ·exact hv2.tr ht (fun _ _=>rfl)
 ·have key:∀{j:Nat} {o:ah},ae ((i,⟨t,st,[r'],true⟩) :: s.heap) j=some o→∃o',ae s.heap j=some o':=fun {j o} hj=>by
   simp only [ae] at hj
   split at hj
   ·rename_i hij;subst hij;exact ⟨_,hi⟩
   ·exact ⟨_,hj⟩
  obtain ⟨p1,q1⟩:=key h1
  obtain ⟨p2,q2⟩:=key h2
  exact hs.heap.2 j j' p1 p2 b q1 q2
 ·simp only [ae] at h1
  split at h1
  ·rename_i hij;subst hij;exact hs.own i _ b hi
  ·exact hs.own j o b h1
section
variable {P:Program} [aV P]
end
theorem dC.refl (s:St) (l:List AV):dC s l s l:=fun c a w bl vs h1 h2=>⟨bl,h1,h2⟩
theorem dC.trans {s s' s'':St} {l l' l'':List AV} (h:dC s l s' l') (h':dC s' l' s'' l''):dC s l s'' l'':=fun c a w bl vs h1 h2=>by
 obtain ⟨bl',h3,h4⟩:=h c a w bl vs h1 h2
 exact h' c a w bl' vs h3 h4
theorem dC.frzs (fs:List Nat) (s:St) (l:List AV):dC s l (Mw.frzs fs s) (l.map (kJ fs s)):=fun c a w bl vs h1 h2=>by
 obtain ⟨h3,h4⟩:=aC.frzs fs s h1
 exact ⟨bl,h3,h2.mapRight fun v x hv=>h4 v x hv⟩
def nla (x y:AV):Prop:=x=y∨(x = .nl∧∃st,y = .sl st [])∨∃l m,x = .agg l∧y = .agg m∧UH l m
theorem nla.refl (x:AV):nla x x:=.inl rfl
theorem DA {bl:Nat→Option Nat} {M:Nat→Prop} {w:World}:∀{vs:List Value} {l m:List AV},UH l m→aH (bN bl M w) vs l→aH (bN bl M w) vs m
 | [],[],[],_,_=>trivial
 | v :: vs,x :: l,y :: m,h,hr=>by
  refine ⟨?_,DA h.2 hr.2⟩
  rcases h.1 with rfl | ⟨rfl,st,rfl⟩
  ·exact hr.1
  ·exact IRel.nl_sl (show IRel M w v .nl from hr.1) st
 | [],[],_ :: _,h,_=>h.elim
 | [],_ :: _,_,_,hr=>hr.elim
 | _ :: _,[],_,_,hr=>hr.elim
 | _ :: _,_ :: _,[],h,_=>h.elim
theorem yt {bl:Nat→Option Nat} {M:Nat→Prop} {w:World} {v:Value} {x y:AV} (h:nla x y) (hr:aR bl M w v x):aR bl M w v y:=by
 rcases h with rfl | ⟨rfl,st,rfl⟩ | ⟨l,m,rfl,rfl,h⟩
 ·exact hr
 ·exact IRel.nl_sl (show IRel M w v .nl from hr) st
 ·obtain ⟨cs,h1,h2⟩:=hr
  exact ⟨cs,h1,DA h h2⟩
theorem Ar {bl:Nat→Option Nat} {M:Nat→Prop} {w:World}:∀{vs:List Value} {l m:List AV},aH nla l m→aH (aR bl M w) vs l→aH (aR bl M w) vs m
 | [],[],[],_,_=>trivial
 | v :: vs,x :: l,y :: m,h,hr=>⟨yt h.1 hr.1,Ar h.2 hr.2⟩
 | [],[],_ :: _,h,_=>h.elim
 | [],_ :: _,_,_,hr=>hr.elim
 | _ :: _,[],_,_,hr=>hr.elim
 | _ :: _,_ :: _,[],h,_=>h.elim
theorem dC.nla {s:St} {l m:List AV} (h:aH Mw.nla l m):dC s l s m:=fun c a w bl vs h1 h2=>⟨bl,h1,Ar h h2⟩
section
variable {P:Program} [aV P]
theorem bD {f:FuncId} {args args':List AV} {d:Option Nat} {s s':St} {K:St→Prop} (hw:dC s args s' args') (h:ci P f args' d s' K):ci P f args d s K:=by
 rcases h with h | ⟨fs,h⟩ | ⟨s'',args'',hw',h⟩
 ·exact .inr (.inr ⟨s',args',hw,h⟩)
 ·exact .inr (.inr ⟨_,_,hw.trans (dC.frzs fs s' args'),h⟩)
 ·exact .inr (.inr ⟨s'',args'',hw.trans hw',h⟩)
theorem fC {f:FuncId} {args:List AV} (args':List AV) {d:Option Nat} {s:St} {K:St→Prop} (hw:aH nla args args') (h:ci P f args' d s K):ci P f args d s K:=bD (dC.nla hw) h
end
theorem ab {x y:Int} (h:¬x=y):(x==y)=false:=by simpa using h
theorem aF {x y:Int} (h:x=y):(x==y)=true:=by simpa using h
theorem aK {x y:Int} (h:¬x=y):(x != y)=true:=by simpa using h
theorem ay {x y:Int} (h:x=y):(x != y)=false:=by simpa using h
theorem aC.nlm {c:jY} {bl:Nat→Option Nat} {a:Act} {w:World} {s:St} (hs:aC c bl (get s.env) (ae s.heap) a w) (i:Nat) {t:TypeId} {st:Nat} {r r':List AV} (hi:ae s.heap i=some ⟨t,st,[r],true⟩) (hr:Mw.nlm r r') :
  aC c bl (get s.env) (ae ((i,⟨t,st,[r'],true⟩) :: s.heap)) a w∧∀b,aZ bl c.MF (ae ((i,⟨t,st,[r'],true⟩) :: s.heap)) b↔aZ bl c.MF (ae s.heap) b:=by
 have hm:∀b,aZ bl c.MF (ae ((i,⟨t,st,[r'],true⟩) :: s.heap)) b↔aZ bl c.MF (ae s.heap) b:=aZ.congr fun j=>by
  simp only [ae]
  split
  ·rename_i h;subst h;rw [hi];rfl
  ·rfl
 have ht:=Tr.of_iff (w:=w) fun b=>(hm b)
 refine ⟨⟨hs.defers,hs.size,fun j=>(hs.env j).tr ht (fun _ _=>rfl),⟨fun j o hj=>?_,fun j j' o o' b h1 h2=>?_⟩,hs.step,fun j o b h1=>?_,hs.stab,hs.mf⟩,hm⟩
 ·simp only [ae] at hj
  split at hj
  ·rename_i hij
   subst hij
   cases hj
   rcases hs.heap.1 i _ hi with hn | ⟨b,g1,⟨gk,c1,fr,g2,g3,g4,g5,g6,g7⟩ | hsp⟩
   ·cases hn.2.1
   rotate_left
   ·cases hsp.isRec
   ·refine .inr ⟨b,g1,.inl ⟨gk,c1,fr,g2,g3,g4,fun k q hq=>?_,by simpa using g6,fun k q u x hu hx=>?_⟩⟩
    ·cases k with
     | zero=>simp at hq;subst hq;rw [yw hr];exact g5 0 r rfl
     | succ k=>simp at hq
    ·cases k with
     | succ k=>simp at hu
     | zero =>
      simp at hu
      subst hu
      obtain ⟨x0,h1,h2⟩:=yu hr hx
      obtain ⟨v,hv1,hv2⟩:=g7 0 q r x0 rfl h1
      refine ⟨v,hv1,?_⟩
      have hv3:bN bl (aZ bl c.MF (ae s.heap)) w v x0:=hv2
      rcases h2 with h2 | ⟨h2,⟨st',h3⟩ | ⟨id,st',h3⟩⟩
      ·subst h2;exact hv3.tr ht (fun _ _=>rfl)
      ·subst h2 h3
       have:IRel (aZ bl c.MF (ae s.heap)) w v .nl:=hv3
       exact (IRel.toC (bl:=bl) (IRel.nl_sl this st')).tr ht (fun _ _=>rfl)
      ·subst h2 h3
       have:IRel (aZ bl c.MF (ae s.heap)) w v .nl:=hv3
       cases this
       exact .inl ⟨rfl,rfl,rfl⟩
  ·rcases hs.heap.1 j o hj with hn | ⟨b,g1,⟨gk,c1,fr,g2,g3,g4,g5,g6,g7⟩ | hsp⟩
   ·exact .inl hn
   rotate_left
   ·exact .inr ⟨b,g1,.inr hsp⟩
   ·refine .inr ⟨b,g1,.inl ⟨gk,c1,fr,g2,g3,g4,g5,g6,fun k q u x hu hx=>?_⟩⟩
    obtain ⟨v,hv1,hv2⟩:=g7 k q u x hu hx
    refine ⟨v,hv1,?_⟩
    cases hrec:o.isRec<;>simp only [hrec,l0] at hv2 ⊢
    ·exact hv2.tr ht.keep
    ·exact hv2.tr ht (fun _ _=>rfl)
 ·have key:∀{j:Nat} {o:ah},ae ((i,⟨t,st,[r'],true⟩) :: s.heap) j=some o→∃o',ae s.heap j=some o':=fun {j o} hj=>by
   simp only [ae] at hj
   split at hj
   ·rename_i hij;subst hij;exact ⟨_,hi⟩
   ·exact ⟨_,hj⟩
  obtain ⟨p1,q1⟩:=key h1
  obtain ⟨p2,q2⟩:=key h2
  exact hs.heap.2 j j' p1 p2 b q1 q2
 ·simp only [ae] at h1
  split at h1
  ·rename_i hij;subst hij;exact hs.own i _ b hi
  ·exact hs.own j o b h1
theorem VRels.tr {bl bl':Nat→Option Nat} {M M':Nat→Prop} {w:World} (ht:Tr M M' w w):∀{vs:List Value} {l:List AV},aH (aR bl M w) vs l→(∀x∈l,∀id,mV id x=true→bl' id=bl id)→aH (aR bl' M' w) vs l
 | [],[],_,_=>trivial
 | _ :: _,_ :: _,h,hb=>⟨h.1.tr ht (hb _ (by simp)),VRels.tr ht h.2 fun x hx=>hb x (by simp [hx])⟩
 | [],_ :: _,h,_=>h.elim
 | _ :: _,[],h,_=>h.elim
theorem dC.nlm (s:St) (l:List AV) (i:Nat) {t:TypeId} {st:Nat} {r r':List AV} (hi:ae s.heap i=some ⟨t,st,[r],true⟩) (hr:Mw.nlm r r'):dC s l ⟨s.env,(i,⟨t,st,[r'],true⟩) :: s.heap⟩ l:=fun c a w bl vs h1 h2=>by
 obtain ⟨h3,hm⟩:=h1.nlm i hi hr
 exact ⟨bl,h3,VRels.tr (Tr.of_iff hm) h2 fun _ _ _ _=>rfl⟩
theorem dC.new0 (s:St) (l:List AV) (i st:Nat) (t:TypeId) (hid:i<1000∨2000≤i) (hl:∀x∈l,i∉aI x):dC s l ⟨(s.kill i).env,(i,⟨t,st,[],false⟩) :: (s.kill i).heap⟩ l:=fun c a w bl vs hs h2=>by
 have hk:=hs.kill i
 have hu:=jl i (get s.env) (ae s.heap)
 have hn:=hk.new0 (i:=i) (o:=⟨t,st,[],false⟩) (by simp) hu hid rfl rfl
 have e1:∀k,get (s.kill i).env k=fg i (get s.env k):=fun k=>by simp only [St.kill,fF]
 have e2:∀j,ae ((i,⟨t,st,[],false⟩) :: (s.kill i).heap) j=c_ (fun j=>if j=i then none else (ae s.heap j).map (cU i)) i (some ⟨t,st,[],false⟩) j:=fun j=>by
  simp only [ae,c_,St.kill,dM,cS]
  by_cases h:i=j
  ·subst h;simp
  ·have h':¬j=i:=fun e=>h e.symm
   simp [h,h']
 refine ⟨c_ bl i none,hn.congr e1 e2,?_⟩
 have hM:∀b,aZ (c_ bl i none) c.MF (ae ((i,⟨t,st,[],false⟩) :: (s.kill i).heap)) b→aZ bl c.MF (ae s.heap) b:=fun b hb=>by
  rcases hb with hb | ⟨j,o,h3,h4⟩
  ·exact .inl hb
  ·rw [e2] at h3
   by_cases hj:j=i
   ·subst hj;simp [c_] at h4
   ·rw [bQ _ _ hj] at h4
    rw [bQ _ _ hj] at h3
    simp only [hj,fA,cJ] at h3
    obtain ⟨o',h5,_⟩:=h3
    exact .inr ⟨j,o',h5,h4⟩
 have ht:Tr (aZ bl c.MF (ae s.heap)) (aZ (c_ bl i none) c.MF (ae ((i,⟨t,st,[],false⟩) :: (s.kill i).heap))) w w:=⟨fun b hb _=>⟨fun h=>hb (hM b h),rfl⟩,fun b cc t fr h=>⟨cc,fr,h,rfl⟩⟩
 exact VRels.tr ht h2 fun x hx id hid=>bQ _ _ fun e=>hl x hx (by rw [← e];exact ji hid)
attribute [go_sem] Nat.zero_add qc decide_eq_false_iff_not beq_self_eq_true Nat.lt_add_one Nat.reduceEqDiff Nat.reduceLT reduceCtorEq Nat.reduceAdd Nat.reduceLeDiff Nat.reduceBEq Nat.reduceBNe Int.reduceNeg Int.reduceToNat Int.reduceBEq Int.reduceBNe bne_self_eq_false iR
attribute [go_sem ↓] reduceIte
def YO (n:Int):Prop:=-9223372036854775808≤n∧n<9223372036854775808
section
abbrev No:Nat→Prop:=fun _=>False
def sx (T:Nat→Prop) (N:Nat) (W W':World):Prop:=W.heap.size≤W'.heap.size∧(∀(b:Nat) (c:Array Value) (t:TypeId) (fr:Nat×Nat),N≤b→W.heap[b]? = some (.cells c t fr)→W'.heap[b]? = some (.cells c t fr))∧∀b,T b→W'.heap[b]? = W.heap[b]?
section
variable {T:Nat→Prop}
theorem sx.refl (N:Nat) (W:World):sx T N W W:=⟨aO _,fun _ _ _ _ _ h=>h,fun _ _=>rfl⟩
theorem sx.trans {N:Nat} {A B C:World} (h:sx T N A B) (k:sx T N B C):sx T N A C:=⟨eJ h.1 k.1,fun b c t fr hb hc=>k.2.1 b c t fr hb (h.2.1 b c t fr hb hc),fun b hb=>(k.2.2 b hb).trans (h.2.2 b hb)⟩
theorem sx.mono {N N':Nat} {A B:World} (h:sx T N A B) (hn:N≤N'):sx T N' A B:=⟨h.1,fun b c t fr hb=>h.2.1 b c t fr (eJ hn hb),h.2.2⟩
theorem sx.putObj (N:Nat) (W:World) (l:Nat) (o o':Obj) (hl:W.heap[l]? = some o) (ho:o.isCells=false) (hT:∀b,T b→b<l):sx T N W (W.putObj l o'):=by
 have hlt:=(f9.1 hl).1
 refine ⟨(grownBy_putObj' W l o').size,fun b c t fr _ hb=>?_,fun b hb=>World.putObj_heap_other (by have:=hT b hb;omega)⟩
 by_cases e:b=l
 ·subst e
  rw [hl] at hb
  cases hb
  simp [Obj.isCells] at ho
 ·rw [World.putObj_heap_other (by omega)];exact hb
end
theorem ek.ofAlloc (w:World) (o:Obj):ek No w (w.alloc o) where
 size:=by simp
 keep b hb _:=by rw [World.alloc];simp [Array.getElem?_push,Nat.ne_of_lt hb]
 shape b c t fr hb:=⟨c,fr,by
  have hlt:=aP hb
  rw [World.alloc];simp [Array.getElem?_push,Nat.ne_of_lt hlt,hb],rfl⟩
 os:=rfl
 out:=rfl
theorem ek.one {A B C:World} (h:ek No A B) (k:ek No B C):ek No A C:=h.trans k fun _ _ h=>h.elim
def Wt {α:Type} (n:Nat) (P:Program) [aV P] (g:Nat) (lb:Array Value) (encs:α→Array Value) (E:List α) (w:World):Prop :=
 ∀(l:Nat) (J Jx:List α→World→Prop) (W:World),(aV.T P).H W→ek No w W→(∀s A B,J s A→ek No A B→J s B)→(∀s A B,Jx s A→ek No A B→Jx s B) →
  (∀dK x W1,J dK W1→dK++[x] <+: E→YieldAt Fence.wide (n - 1) P l (encs x) W1 fun e W' =>
   (e = .returned (.bool true)∧J (dK++[x]) W'∧sx (aV.T P).B W.heap.size W1 W')∨(e = .returned (.bool false)∧Jx (dK++[x]) W')) →
  J [] W →
  CallsIn Fence.wide n P g (#[.func (.yield l) #[] #[]]++lb) W fun e W'=>(∃v,e = .returned v)∧(J E W'∨(∃dK,dK <+: E∧Jx dK W'))
variable {n:Nat} {P:Program} [aV P]
theorem Gh {α:Type} {g:Operand} {ps:Array Tmp} {assign body:Code} {Q:Exit→Act→World→Prop} {a:Act} {w:World}
  (h1:1≤n) (hH:(aV.T P).H w) {gf:Nat} {lb:Array Value} (hg:a.eval g = .func (.func gf) #[] lb) (eg:∀args w,(callFunc gf args).run P w = .ok (.enter gf args) w)
  {encs:α→Array Value} {E:List α} {w0:World} (hseq:Wt (n - 1) P gf lb encs E w0) (hb0:ek No w0 w) (hps:∀x,(encs x).size=ps.size)
  (I:List α→World→Prop) (Ix:Code→List α→World→Prop) (hI:∀s A B,I s A→ek No A B→I s B) (hIx:∀c s A B,Ix c s A→ek No A B→Ix c s B)
  (hIp:∀s W l o o',I s W→w.heap.size≤l→W.heap[l]? = some o→o.isCells=false→I s (W.putObj l o')) (hIxp:∀c s W l o o',Ix c s W→w.heap.size≤l→W.heap[l]? = some o→o.isCells=false→Ix c s (W.putObj l o'))
  (h0:I [] w) (a₁:α→Act)
  (hassign:∀(l:Nat) (x:α) (W:World) (K:Act→World→Prop),K (a₁ x) W →
   assign.wpIn (Fence.wide.inRound l) (n - 1 - 1) P (Exit.then K (fun _ _ _=>False)) { tmps:=(ps.zip (encs x)).foldl (fun t (p,v)=>t.setIfInBounds p v) a.tmps,defers:=[] } W)
  (hbody:∀(l:Nat) (dK:List α) (x:α) (W:World),I dK W→dK++[x] <+: E→body.wpIn (Fence.wide.inRound l) (n - 1 - 1) P (ownPostK (sx (aV.T P).B w.heap.size) I Ix (dK++[x]) W) (a₁ x) W)
  (hdone:∀(D:Nat) (W:World),w.heap.size≤D→I E W→W.heap[D]? = some (.deferred (some []))→Q .normal { a with defers:={ target:=.collected D,args:=#[] } :: a.defers } W)
  (hstop:∀(D:Nat) (c:Code) (dK:List α) (W:World),w.heap.size≤D→dK <+: E→Ix c dK W→W.heap[D]? = some (.deferred (some []))→c.wpIn Fence.wide n P Q { a with defers:={ target:=.collected D,args:=#[] } :: a.defers } W) :
  (Code.rangeFunc g ps assign body).wpIn Fence.wide n P Q a w:=by
 refine wpIn_rangeFunc ?_
 intro fn hfn
 rw [show Fence.wide.round=none from rfl]
 obtain ⟨rec,hrec⟩:∃rec:LoopState→Option Code→Loop,rec=fun st pe=>{ state:=st,pending:=pe,fn,tmps:=a.tmps,params:=ps,assign,body,defers:=w.heap.size }:=⟨_,rfl⟩
 obtain ⟨W1,hW1⟩:∃W1,(w.alloc (.deferred (some []))).alloc (.loop (rec .ready none))=W1:=⟨_,rfl⟩
 have hL1:W1.heap[w.heap.size+1]? = some (.loop (rec .ready none)):=by
  rw [← hW1];have:=World.alloc_heap_new (w.alloc (.deferred (some []))) (.loop (rec .ready none));rwa [World.size_alloc] at this
 have hK1:W1.heap[w.heap.size]? = some (.deferred (some [])):=by
  rw [← hW1];exact (Below.heap_alloc _ _ _ (by simp)).trans (World.alloc_heap_new w _)
 have hs1:ek No w W1:=by rw [← hW1];exact (ek.ofAlloc _ _).one (ek.ofAlloc _ _)
 have hlow:∀b,(aV.T P).B b→b<w.heap.size+1:=fun b hb=>Nat.lt_succ_of_lt ((aV.T P).low _ hH b hb)
 have hz1:W1.heap.size=w.heap.size+2:=by rw [← hW1];simp
 refine ⟨w.heap.size+1,[{ target:=.collected w.heap.size,args:=#[] }],W1,{ target:=.fn (.func gf) lb,args:=#[.func (.yield (w.heap.size+1)) #[] #[]] },W1,gf,
  #[.func (.yield (w.heap.size+1)) #[] #[]]++lb,W1,?_,?_,?_,?_,fun _=>h1,?_⟩
 ·rw [← hW1,hrec];exact run_enterLoop_outer _ _ _ _ _
 ·simp only [resolve,hg]
  simp [go_sem]
 ·intro f' hf';trivial
 ·simp [invoke,go_sem,eg]
 ·have kp:∀{l:Nat} {o:Obj} {A B:World},ek No A B→A.heap[l]? = some o→B.heap[l]? = some o:=fun {l o A B} hs h=>by
   rw [hs.keep l (f9.1 h).1 (fun h=>h)];exact h
  refine (hseq (w.heap.size+1)
   (fun dK W=>I dK W∧W.heap[w.heap.size+1]? = some (.loop (rec .ready none))∧W.heap[w.heap.size]? = some (.deferred (some [])))
   (fun dK W=>∃c,Ix c dK W∧W.heap[w.heap.size+1]? = some (.loop (rec .done (some c)))∧W.heap[w.heap.size]? = some (.deferred (some [])))
   W1 ((aV.T P).stay _ _ hH fun b hb=>hs1.keep b ((aV.T P).low _ hH b hb) (fun h=>h)) (hb0.one hs1)
   (fun s A B hs hg'=>⟨hI s A B hs.1 hg',kp hg' hs.2.1,kp hg' hs.2.2⟩)
   (fun s A B hs hg'=>by
    obtain ⟨c,hc,hl,hk⟩:=hs
    exact ⟨c,hIx c s A B hc hg',kp hg' hl,kp hg' hk⟩)
   ?_ ⟨hI _ _ _ h0 hs1,hL1,hK1⟩).mono ?_
  ·
   rintro dK x W ⟨hi,hl,hk⟩ hlen
   have hlt:w.heap.size+1<W.heap.size:=(f9.1 hl).1
   have hy:=run_yield (P:=P) (args:=encs x) hl (by rw [hrec];exact hps x)
   rw [hrec] at hy
   refine ⟨fn,_,assign,body,hy,roundIn_of_wpIn hfn (hassign _ x W _ ⟨_,run_beginRound hl (by rw [hrec]),?_⟩)⟩
   have hl2:(W.putObj (w.heap.size+1) (.loop { rec .ready none with state:=.busy })).heap[w.heap.size+1]? = some (.loop { rec .ready none with state:=.busy }):=World.putObj_heap_same hlt
   have hk2:(W.putObj (w.heap.size+1) (.loop { rec .ready none with state:=.busy })).heap[w.heap.size]? = some (.deferred (some [])):=(World.putObj_heap_other (by omega)).trans hk
   have hw2:sx (aV.T P).B w.heap.size W (W.putObj (w.heap.size+1) (.loop { rec .ready none with state:=.busy })):=sx.putObj _ _ _ _ _ hl rfl hlow
   refine wpIn_mono (hbody _ dK x _ (hIp _ _ _ _ _ hi (by omega) hl rfl) hlen) ?_
   have fin:∀(jump:Option Code) (W3:World),KeepsOthers (W.putObj (w.heap.size+1) (.loop { rec .ready none with state:=.busy })) W3 →
     (Instr.endRound (w.heap.size+1) jump).run P W3 = .ok (.bool jump.isNone) (W3.putObj (w.heap.size+1) (.loop (rec (if jump.isNone then .ready else .done) jump))) ∧
     W3.heap[w.heap.size+1]? = some (.loop { rec .ready none with state:=.busy }) ∧
     (W3.putObj (w.heap.size+1) (.loop (rec (if jump.isNone then .ready else .done) jump))).heap[w.heap.size+1]? = some (.loop (rec (if jump.isNone then .ready else .done) jump)) ∧
     (W3.putObj (w.heap.size+1) (.loop (rec (if jump.isNone then .ready else .done) jump))).heap[w.heap.size]? = some (.deferred (some [])):=fun jump W3 hk3=>by
    have hl3:=hk3.same _ _ hl2 rfl
    have:=run_endRound (P:=P) jump hl3
    rw [hrec] at this ⊢
    exact ⟨this,by rw [hrec] at hl3;exact hl3,World.putObj_heap_same (f9.1 hl3).1,(World.putObj_heap_other (by omega)).trans (hk3.same _ _ hk2 rfl)⟩
   rintro e a3 W3 hp
   cases e with
   | normal =>
    obtain ⟨hk3,hkp3,hi3⟩:=hp
    obtain ⟨hr,hl3,hl4,hk4⟩:=fin none W3 hk3
    exact ⟨_,_,hr,.inl ⟨rfl,⟨hIp _ _ _ _ _ hi3 (by omega) hl3 rfl,hl4,hk4⟩,((hw2.trans hkp3).trans (sx.putObj _ _ _ _ _ hl3 rfl hlow)).mono (by omega)⟩⟩
   | ret =>
    obtain ⟨hk3,hi3⟩:=hp
    obtain ⟨hr,hl3,hl4,hk4⟩:=fin (some .ret) W3 hk3
    exact ⟨_,_,hr,.inr ⟨rfl,.ret,hIxp _ _ _ _ _ _ hi3 (by omega) hl3 rfl,hl4,hk4⟩⟩
   | exit id =>
    obtain ⟨hk3,hi3⟩:=hp
    obtain ⟨hr,hl3,hl4,hk4⟩:=fin (some (.exit id)) W3 hk3
    exact ⟨_,_,hr,.inr ⟨rfl,.exit id,hIxp _ _ _ _ _ _ hi3 (by omega) hl3 rfl,hl4,hk4⟩⟩
   | goto t =>
    obtain ⟨hk3,hi3⟩:=hp
    obtain ⟨hr,hl3,hl4,hk4⟩:=fin (some (.goto t)) W3 hk3
    exact ⟨_,_,hr,.inr ⟨rfl,.goto t,hIxp _ _ _ _ _ _ hi3 (by omega) hl3 rfl,hl4,hk4⟩⟩
   | panic ch=>exact hp.elim
   | outgrown=>exact hp.elim
  ·
   rintro e W2 ⟨⟨v,rfl⟩,(⟨hi,hl,hk⟩ | ⟨dK,hSp,c,hi,hl,hk⟩)⟩
   ·exact ⟨none,_,by have:=run_endLoop (P:=P) hl (by rw [hrec];simp);rw [hrec] at this;exact this,hdone _ _ (aO _) (hIp _ _ _ _ _ hi (by omega) hl rfl) ((World.putObj_heap_other (by omega)).trans hk)⟩
   ·exact ⟨some c,_,by have:=run_endLoop (P:=P) hl (by rw [hrec];simp);rw [hrec] at this;exact this,hstop _ c dK _ (aO _) hSp (hIxp _ _ _ _ _ _ hi (by omega) hl rfl) ((World.putObj_heap_other (by omega)).trans hk)⟩
def Lu (P:Program) [aV P] (w:World):Nat→Prop:=fun b=>b<w.heap.size∧¬(aV.T P).B b
theorem aj.run {f:FuncId} {args:List AV} {r:AV} (h:aj P f args r) (w:World) (hH:(aV.T P).H w) {cargs:List Value} (ha:aH (aR (fun _=>none) (Lu P w) w) cargs args) :
  Calls P f cargs.toArray w fun e w'=>∃v,e = .returned v∧aR (fun _=>none) (Lu P w) w' v r∧ek No w w':=by
 have hm:∀(bl:Nat→Option Nat) b,aZ bl (Lu P w) (ae []) b↔Lu P w b:=fun bl b=>ej _ b
 refine (h (fun _=>none) (Lu P w) w cargs hH (fun b hb hm'=>((hm _ b).1 hm').2 hb) ⟨fun id o hi=>by simp [ae] at hi,fun id id' o o' b hi=>by simp [ae] at hi⟩ (fun b hb=>hb.1)
  (ha.mono fun _ _ _ hr=>hr.tr (Tr.of_iff (fun b=>hm _ b)) (fun _ _=>rfl))).mono fun e w' hh=>?_
 obtain ⟨v,r',σ',bl',rfl,⟨rfl,rfl⟩,hcl,_,hv,hst,_,_⟩:=hh
 refine ⟨v,rfl,hv.tr (Tr.of_iff (fun b=>(hm _ b).symm)) (fun id hid=>?_),⟨hst.size,fun b hb _=>hst.keep b hb (fun hx=>by obtain ⟨id,o,hi,_⟩:=hx;simp [ae] at hi),hst.shape,hst.os,hst.out⟩⟩
 have:=hcl.1 id (ji hid)
 simp [ae] at this
theorem aj.of {f:FuncId} {args:List AV} {r:AV} (h:∀(w:World) (bl:Nat→Option Nat) (M:Nat→Prop) (cargs:List Value),(aV.T P).H w→(∀b,M b→b<w.heap.size)→aH (aR bl M w) cargs args →
   Calls P f cargs.toArray w fun e w'=>∃v,e = .returned v∧ek No w w'∧aR (fun _=>none) M w' v r) (hid:aI r=[]):aj P f args r:=by
 intro bl MF w cargs hH _ _ hMF ha
 have hm:∀(bl:Nat→Option Nat) b,aZ bl MF (ae []) b↔MF b:=fun bl b=>ej _ b
 refine (h w bl MF cargs hH hMF (ha.mono fun _ _ _ hr=>hr.tr (Tr.of_iff (fun b=>(hm _ b).symm)) (fun _ _=>rfl))).mono fun e w' hh=>?_
 obtain ⟨v,rfl,hst,hv⟩:=hh
 refine ⟨v,r,[],bl,rfl,⟨rfl,rfl⟩,(⟨fun i hi=>(by rw [hid] at hi;cases hi),fun p hp=>absurd hp List.not_mem_nil⟩:ku r []),⟨fun id o hi=>by simp [ae] at hi,fun id id' o o' b hi=>by simp [ae] at hi⟩,?_,?_,fun id o b hi=>by simp [ae] at hi,fun _ h=>h.elim⟩
 ·refine hv.tr (Tr.of_iff (fun b=>hm _ b)) (fun id hi=>?_)
  have:=ji hi
  rw [hid] at this
  cases this
 ·exact ⟨hst.size,fun b hb _=>hst.keep b hb (fun h=>h),hst.shape,hst.os,hst.out⟩
end
section
def D9 (T:Nat→Prop) (N:Nat) (W W':World):Prop:=W.heap.size≤W'.heap.size∧(∀(b:Nat) (o:Obj),N≤b→W.heap[b]? = some o→W'.heap[b]? = some o)∧∀b,T b→W'.heap[b]? = W.heap[b]?
section
variable {T:Nat→Prop}
theorem D9.refl (N:Nat) (W:World):D9 T N W W:=⟨aO _,fun _ _ _ h=>h,fun _ _=>rfl⟩
theorem D9.trans {N:Nat} {A B C:World} (h:D9 T N A B) (k:D9 T N B C):D9 T N A C:=⟨eJ h.1 k.1,fun b o hb hc=>k.2.1 b o hb (h.2.1 b o hb hc),fun b hb=>(k.2.2 b hb).trans (h.2.2 b hb)⟩
theorem D9.mono {N N':Nat} {A B:World} (h:D9 T N A B) (hn:N≤N'):D9 T N' A B:=⟨h.1,fun b o hb=>h.2.1 b o (eJ hn hb),h.2.2⟩
theorem D9.putObj (N:Nat) (W:World) (l:Nat) (o':Obj) (hl:l<N) (hT:∀b,T b→b<l):D9 T N W (W.putObj l o') :=
 ⟨by simp [World.putObj],fun b o hb h=>by rw [World.putObj_heap_other (by omega)];exact h,fun b hb=>World.putObj_heap_other (by have:=hT b hb;omega)⟩
theorem D9.setCell (N:Nat) (W:World) (a:Addr) (v:Value) (hl:a.block<N) (hT:∀b,T b→b<a.block):D9 T N W (W.setCell a v) :=
 ⟨by simp [World.setCell],fun b o hb h=>by
  simp only [World.setCell,m9,ar (show ¬a.block=b by omega)];exact h,
 fun b hb=>by simp only [World.setCell,m9,ar (show ¬a.block=b by have:=hT b hb;omega)]⟩
end
variable {n:Nat} {P:Program} [aV P]
end
section
variable {P:Program} [aV P] {X:Type}
end
inductive Nd:AV→AV→Prop where
 | rfl (x:AV):Nd x x
 | nl (st:Nat):Nd .nl (.sl st [])
 | sl (st:Nat) (rows rows':List (List AV)) (hl:rows.length=rows'.length) (hr:∀(i:Nat) (r r':List AV),rows[i]? = some r→rows'[i]? = some r'→r.length=r'.length)
   (hx:∀(i j:Nat) (r r':List AV) (x y:AV),rows[i]? = some r→rows'[i]? = some r'→r[j]? = some x→r'[j]? = some y→Nd x y):Nd (.sl st rows) (.sl st rows')
theorem IRel.nd {M:Nat→Prop} {w:World} {x y:AV} (h:Nd x y):∀{v:Value},IRel M w v x→IRel M w v y:=by
 induction h with
 | rfl x=>exact fun h=>h
 | nl st=>exact fun h=>IRel.nl_sl h st
 | sl st rows rows' hl hr hx ih =>
  intro v h
  cases h with
  | nls=>obtain rfl:rows'=[]:=QE (by simpa using hl.symm);exact .nls st
  | sl0 _ a cap=>obtain rfl:rows'=[]:=QE (by simpa using hl.symm);exact .sl0 st a cap
  | sl b off cap _ c t fr _ vs hb hM hle hrl hv hxx =>
   rw [hl]
   have get:∀{i:Nat} {r':List AV},rows'[i]? = some r'→∃r,rows[i]? = some r:=fun {i r'} h=>by
    have hi:i<rows'.length:=by
     rcases jn i rows'.length with q | q
     ·exact q
     ·rw [List.getElem?_eq_none q] at h;cases h
    exact ⟨rows[i]'(by omega),gn _⟩
   refine .sl b off cap st c t fr rows' vs hb hM (by omega) (fun i r' hi=>?_) (fun i j hi hj=>hv i j (by omega) hj) (fun i j r' y hi hj=>?_)
   ·obtain ⟨r,hr2⟩:=get hi
    rw [← hr i r r' hr2 hi]
    exact hrl i r hr2
   ·obtain ⟨r,hr2⟩:=get hi
    have hjl:j<r.length:=by
     rw [hr i r r' hr2 hi]
     rcases jn j r'.length with q | q
     ·exact q
     ·rw [List.getElem?_eq_none q] at hj;cases hj
    exact ih i j r r' _ y hr2 hi (gn hjl) hj (hxx i j r _ hr2 (gn hjl))
theorem bN.nd {bl:Nat→Option Nat} {M:Nat→Prop} {w:World} {v:Value} {x y:AV} (h:Nd x y) (hr:bN bl M w v x):bN bl M w v y:=by
 cases h with
 | rfl=>exact hr
 | nl st=>exact IRel.nd (.nl st) (show IRel M w v .nl from hr)
 | sl st rows rows' h1 h2 h3=>exact IRel.nd (.sl st rows rows' h1 h2 h3) (show IRel M w v (.sl st rows) from hr)
def Rf (x y:AV):Prop:=Nd x y∨∃l m,x = .agg l∧y = .agg m∧aH Nd l m
theorem PB {bl:Nat→Option Nat} {M:Nat→Prop} {w:World} {v:Value} {x y:AV} (h:Rf x y) (hr:aR bl M w v x):aR bl M w v y:=by
 rcases h with h | ⟨l,m,rfl,rfl,h⟩
 ·cases h with
  | rfl=>exact hr
  | nl st=>exact IRel.nd (.nl st) (show IRel M w v .nl from hr)
  | sl st rows rows' h1 h2 h3=>exact IRel.nd (.sl st rows rows' h1 h2 h3) (show IRel M w v (.sl st rows) from hr)
 ·obtain ⟨cs,h1,h2⟩:=hr
  refine ⟨cs,h1,?_⟩
  clear h1
  induction cs generalizing l m with
  | nil=>match l,m,h,h2 with | [],[],_,_=>trivial
  | cons c cs ih=>match l,m,h,h2 with | a :: l,b :: m,h,h2=>exact ⟨bN.nd h.1 h2.1,ih l m h.2 h2.2⟩
theorem As {bl:Nat→Option Nat} {M:Nat→Prop} {w:World}:∀{vs:List Value} {l m:List AV},aH Rf l m→aH (aR bl M w) vs l→aH (aR bl M w) vs m
 | [],[],[],_,_=>trivial
 | v :: vs,x :: l,y :: m,h,hr=>⟨PB h.1 hr.1,As h.2 hr.2⟩
 | [],[],_ :: _,h,_=>h.elim
 | [],_ :: _,_,_,hr=>hr.elim
 | _ :: _,[],_,_,hr=>hr.elim
 | _ :: _,_ :: _,[],h,_=>h.elim
theorem cW {P:Program} [aV P] {f:FuncId} {xs ys:List AV} {r:AV} (hp:aj P f ys r) (h:aH Rf xs ys):aj P f xs r :=
 fun bl MF w cargs h1 h2 h3 h4 h5=>hp bl MF w cargs h1 h2 h3 h4 (As h h5)
theorem Nd.map {α:Type} (st:Nat) (f g:α→List AV) (l:List α) (h:∀a∈l,aH Nd (f a) (g a)):Nd (.sl st (l.map f)) (.sl st (l.map g)):=by
 refine .sl st _ _ (by simp) (fun i r r' h1 h2=>?_) (fun i j r r' x y h1 h2 h3 h4=>?_)
 ·simp only [db,cJ] at h1 h2
  obtain ⟨a,e1,rfl⟩:=h1
  obtain ⟨b,e2,rfl⟩:=h2
  obtain rfl:=Option.some.inj (e1.symm.trans e2)
  exact (h a (gM e1)).length
 ·simp only [db,cJ] at h1 h2
  obtain ⟨a,e1,rfl⟩:=h1
  obtain ⟨b,e2,rfl⟩:=h2
  obtain rfl:=Option.some.inj (e1.symm.trans e2)
  obtain ⟨x',e3,e4⟩:=(h a (gM e1)).get h4
  obtain rfl:=Option.some.inj (h3.symm.trans e3)
  exact e4
def dQ (n:Nat):be→be
 | .draw ops al dr=>match ops with
  | ⟨⟨some d,op,g⟩,b⟩ :: r=>if d=n then .free (⟨⟨some d,op,g⟩,b⟩ :: r) al dr else .draw (⟨⟨some d,op,g⟩,b⟩ :: r) al dr
  | ops=>.draw ops al dr
 | .seq x y=>.seq (dQ n x) (dQ n y)
 | .cond c x y=>.cond c (dQ n x) (dQ n y)
 | .block id x=>.block id (dQ n x)
 | .loop x=>.loop (dQ n x)
 | x=>x
theorem By (n d:Nat) (op:gS) (g:Option (Nat×Bool)) (b:List Nat) (r:List ax) (al:List (Nat×Nat)) (dr:List Nat) :
  dQ n (.draw (⟨⟨some d,op,g⟩,b⟩ :: r) al dr)=if d=n then .free (⟨⟨some d,op,g⟩,b⟩ :: r) al dr else .draw (⟨⟨some d,op,g⟩,b⟩ :: r) al dr:=aW rfl
theorem ER (n:Nat) (x y:be):dQ n (.seq x y) = .seq (dQ n x) (dQ n y):=aW rfl
theorem Bx (n:Nat) (c:IV) (x y:be):dQ n (.cond c x y) = .cond c (dQ n x) (dQ n y):=aW rfl
theorem zQ (n id:Nat) (x:be):dQ n (.block id x) = .block id (dQ n x):=aW rfl
theorem BA (n:Nat) (x:be):dQ n (.loop x) = .loop (dQ n x):=aW rfl
theorem BB (n:Nat):dQ n .skip = .skip:=aW rfl
theorem EQ (n:Nat):dQ n .ret = .ret:=aW rfl
theorem Bz (n id:Nat):dQ n (.exit id) = .exit id:=aW rfl
theorem EP (n:Nat) (ops:List aM) (dr:List Nat):dQ n (.reg ops dr) = .reg ops dr:=aW rfl
def LJ (b:List Nat) (R:List (Nat×ax)):Bool:=R.all fun q=>!b.contains q.1
theorem LM (b:List Nat):LJ b []=true:=aW rfl
theorem FM (b:List Nat) (i:Nat) (o:ax) (R:List (Nat×ax)):LJ b ((i,o) :: R)=(!b.contains i&&LJ b R):=aW rfl
def yH (R:List (Nat×ax)):List (Nat×ax)→List (Nat×ax)
 | []=>[]
 | t :: L=>if LJ t.2.bef R=true then t :: yH R L else yH R L
theorem LN (R:List (Nat×ax)):yH R []=[]:=aW rfl
theorem FN (R:List (Nat×ax)) (i:Nat) (o:aM) (b:List Nat) (L:List (Nat×ax)):yH R ((i,⟨o,b⟩) :: L)=if LJ b R=true then (i,⟨o,b⟩) :: yH R L else yH R L:=aW rfl
theorem aa8 (R:List (Nat×ax)):rdy R=yH R R:=by
 have:∀L,L.filter (fun t:Nat×ax=>R.all fun q=>!t.2.bef.contains q.1)=yH R L:=by
  intro L
  induction L with
  | nil=>rfl
  | cons t L ih =>
   rw [List.filter_cons,ih]
   rfl
 exact this R
def tn (i:Nat):List (Nat×ax)→List (Nat×ax)
 | []=>[]
 | t :: L=>if t.1=i then tn i L else t :: tn i L
theorem IL (i:Nat):tn i []=[]:=aW rfl
theorem EG (i j:Nat) (o:ax) (L:List (Nat×ax)):tn i ((j,o) :: L)=if j=i then tn i L else (j,o) :: tn i L:=aW rfl
theorem mq (R:List (Nat×ax)) (i:Nat):(R.filter fun q=>q.1 != i)=tn i R:=by
 induction R with
 | nil=>rfl
 | cons t R ih =>
  rw [List.filter_cons,ih,show tn i (t :: R)=if t.1=i then tn i R else t :: tn i R from rfl]
  by_cases h:t.1=i
  ·rw [av h,ar (by simp [h])]
  ·rw [ar h,av (by simp [h])]
section
variable {P:Program} [aV P]
theorem N_ (f:Nat) (R:List (Nat×ax)) (s:St) (K:St→Prop) (i:Nat) (o:aM) (b:List Nat):C5 P f R s K (i,⟨o,b⟩)=ff P [o] s (Dn P f (tn i R) K):=by rw [Oa,mq]
theorem Oo (f:Nat) (R:List (Nat×ax)) (s:St) (K:St→Prop):j8 P (f+1) R s K=lL (yH R R) (C5 P f R s K):=by rw [Oq,aa8]
def wW:Nat→List ax→List (Nat×ax)
 | _,[]=>[]
 | i,o :: r=>(i,o) :: wW (i+1) r
theorem EK (i:Nat):wW i []=[]:=aW rfl
theorem Br (i:Nat) (o:ax) (r:List ax):wW i (o :: r)=(i,o) :: wW (i+1) r:=aW rfl
theorem oJ (r:List ax):∀i,((r.zipIdx i).map fun p=>(p.2,p.1))=wW i r:=by
 induction r with
 | nil=>intro i;rfl
 | cons o r ih=>intro i;rw [List.zipIdx_cons,cF,ih];rfl
theorem Fh (ops:List ax) (al:List (Nat×Nat)) (dr:List Nat) (s:St) (K:IX→St→Prop):ir P (.free ops al dr) s K=j8 P ops.length (wW 0 ops) s (Fk dr K):=by rw [Ka,oJ]
end
attribute [go_sem] By ER Bx zQ BA BB EQ Bz EP LM FM LN FN IL EG N_ On Oo Pb NZ N0 EK Br Fh
attribute [go_sem] List.contains_cons List.contains_nil iw fZ
structure Bk (H:Type) where
 f:DataW H→Nat
 str:∀l:List UInt8,l.length≤f (.lit (.string l))
 sl:∀es sp,es.length≤f (.slice es sp)
 sle:∀es sp d,d∈es→f d≤f (.slice es sp)
 ag:∀ps d,d∈ps→f d≤f (.agg ps)
def Ty.bd (B:Nat):Ty→List AV→Prop
 | .str,xs=>∀s,xs=[.str s]→s.length≤B
 | .sl e,xs=>∀st rows,xs=[.sl st rows]→rows.length≤B∧∀r∈rows,e.bd B r
 | .cons f r,xs=>f.bd B (xs.take f.n)∧r.bd B (xs.drop f.n)
 | _,_=>True
def Ty.bdV (B:Nat) (τ:Ty) (x:AV):Prop:=match τ.isRec with
 | true=>∀xs,x = .agg xs→τ.bd B xs
 | false=>τ.bd B [x]
section
variable {H:Type} {enc:TypeId×Value→H} {P:Program} {w:World} {base:Nat} {sp:Nat→Bool} {held:Bool}
end
section
variable {H:Type} {enc:TypeId×Value→H} {P:Program} [aV P] {w:World} {base:Nat} {sp:Nat→Bool} {held:Bool}
end
section
variable {H:Type} {enc:TypeId×Value→H} {P:Program} [aV P] {w:World}
end
def LS (ρ:Nat→Nat):List (Nat×AV)→List (Nat×AV)
 | []=>[]
 | (k,x) :: r=>(k,iL ρ x) :: LS ρ r
theorem zX (ρ:Nat→Nat) (k:Nat):∀e:List (Nat×AV),get (LS ρ e) k=iL ρ (get e k)
 | []=>rfl
 | (j,x) :: r=>by
  simp only [LS,get]
  split
  ·rfl
  ·exact zX ρ k r
theorem Wk.ren (s:St) (ps:List (Nat×Nat)) (h:∀id,1000≤id→id<2000→bw ps id=id):Wk s ⟨LS (fw ps) s.env,ij (fw ps) s.heap⟩:=by
 rintro c a w ⟨bl,hs⟩
 have hb:∀i,(fun i=>bl (bw ps i)) (fw ps i)=bl i:=fun i=>by simp only [wH]
 have hm:∀b,aZ (fun i=>bl (bw ps i)) c.MF (ae (ij (fw ps) s.heap)) b→aZ bl c.MF (ae s.heap) b:=fun b hm=>ux (wH ps) (zU ps) hb b hm
 refine ⟨fun i=>bl (bw ps i),hs.defers,hs.size,fun k=>?_,uy (wH ps) (zU ps) hs.heap hb hm,hs.step,fun id o b hi hq=>?_,fun id h1 h2=>?_,hs.mf⟩
 ·show aR _ _ _ _ (get (LS (fw ps) s.env) k)
  rw [zX]
  exact uB (hs.env k) hb hm
 ·rw [gd (wH ps) (zU ps)] at hi
  simp only [cJ] at hi
  obtain ⟨o0,h5,_⟩:=hi
  exact hs.own _ o0 b h5 hq
 ·show bl (bw ps id)=_
  rw [h id h1 h2]
  exact hs.stab id h1 h2
def Qx (P:Program):Nat→TypeId→Bool
 | 0,_=>true
 | f+1,t=>match P.underlying t with
  | some (.slice e)=>decide (0<P.bytesOf e)&&Qx P f e
  | some (.struct fs)=>fs.toList.all fun x=>Qx P f x.type
  | _=>true
theorem A0 {H:Type} {P:Program} {e:TypeId} {d:DataW H} {n:Nat}:∀{l:List (DataW H)},d∈l→n∈DataW.weights P e d→n∈DataW.weightsAll P e l
 | x :: l,h,hn=>by
  rw [DataW.weightsAll,dL]
  rcases bc.1 h with rfl | h
  ·exact .inl hn
  ·exact .inr (A0 h hn)
theorem xL {H:Type} {P:Program}:∀(ts us:List TypeId) (ds gs:List (DataW H)) {n:Nat},n∈DataW.weightsEach P ts ds→n∈DataW.weightsEach P (ts++us) (ds++gs)
 | [],us,ds,gs,n,h=>by cases ds<;>simp [DataW.weightsEach] at h
 | t :: ts,us,[],gs,n,h=>by simp [DataW.weightsEach] at h
 | t :: ts,us,d :: ds,gs,n,h=>by
  simp only [lc,DataW.weightsEach,dL] at h ⊢
  exact h.imp_right fun h=>xL ts us ds gs h
theorem k9 {H:Type} {P:Program} {ts us:List TypeId} {ds gs:List (DataW H)} {B:Nat} (h:(DataW.weightsEach P (ts++us) (ds++gs)).all (·≤B)=true):∀n∈DataW.weightsEach P ts ds,n≤B:=fun n hn=>of_decide_eq_true (eA.1 h n (xL ts us ds gs hn))
section
variable {H:Type} {enc:TypeId×Value→H} {P:Program} {w:World} {base:Nat} {sp:Nat→Bool} {held:Bool}
theorem zP {B:Nat} {g:TypeId→Option Ty} {h:TypeId→Bool} {r:TypeId→List Value→Option (DataW H×List MemPlace)}
  (ih:∀t cs τ x xs,g t=some τ→h t=true→r t cs=some x→τ.ok xs→aH (IRel (fun _=>False) w) cs xs→(∀n∈DataW.weights P t x.1,n≤B)→τ.bd B xs) (cs:List Value) :
  ∀(fs:List Field) (off:Nat) (τ:Ty) (xs:List (DataW H×List MemPlace)) (ys:List AV),uQ g P off fs=some τ→(fs.all fun x=>h x.type)=true→(fs.mapM fun f=>r f.type ((cs.drop f.offset).take (P.cellsOf f.type)))=some xs →
   τ.ok ys→aH (IRel (fun _=>False) w) (cs.drop off) ys→(∀n∈DataW.weightsEach P (fs.map (·.type)) (xs.map (·.1)),n≤B)→τ.bd B ys
 | [],off,τ,xs,ys,ht,_,_,_,_,_=>by
  simp only [uQ,bV] at ht
  subst ht
  trivial
 | f :: fs,off,τ,xs,ys,ht,hw,hm,hok,hr,hB=>by
  rw [List.all_cons,dV] at hw
  simp only [uQ] at ht
  split at ht
  case isFalse=>cases ht
  rename_i hoff
  split at ht
  case h_2=>cases ht
  rename_i a b ha hb
  split at ht
  case isFalse=>cases ht
  rename_i hsz
  cases ht
  simp only [List.mapM_cons,bind,lg,pure,bV] at hm
  obtain ⟨y,h1,zs,h2,rfl⟩:=hm
  simp only [cF,DataW.weightsEach,dL] at hB
  obtain ⟨y1,y2,rfl,o1,o2⟩:=hok
  have hl:=Ty.ok_len a y1 o1
  have r1:=hr.take a.n
  have r2:=hr.drop a.n
  rw [List.take_left' hl] at r1
  rw [List.drop_left' hl,List.drop_drop] at r2
  refine ⟨?_,?_⟩
  ·rw [List.take_left' hl]
   rw [hoff] at h1
   rw [hsz] at r1
   exact ih _ _ _ _ _ ha hw.1 h1 o1 r1 fun n hn=>hB n (.inl hn)
  ·rw [List.drop_left' hl]
   rw [hsz] at r2
   exact zP ih cs fs (off+P.cellsOf f.type) b zs y2 hb hw.2 h2 o2 r2 fun n hn=>hB n (.inr hn)
theorem VU {B:Nat}:∀(fuel f:Nat) (t:TypeId) (cs:List Value) (τ:Ty) (x:DataW H×List MemPlace) (xs:List AV),km P f t=some τ→Qx P f t=true→DataW.trod enc P w base sp held fuel t cs=some x→τ.ok xs →
  aH (IRel (fun _=>False) w) cs xs→(∀n∈DataW.weights P t x.1,n≤B)→τ.bd B xs:=by
 intro fuel
 induction fuel with
 | zero=>intro f t cs τ x xs _ _ h;simp [DataW.trod] at h
 | succ fuel ih =>
  intro f t cs τ x xs ht hw h hok hr hB
  cases f with
  | zero=>simp [km] at ht
  | succ f =>
   simp only [km] at ht
   split at ht
   case h_1 hu=>cases ht;trivial
   case h_2 k' hu=>cases ht;trivial
   case h_3 hu =>
    cases ht
    unfold DataW.trod at h
    split at h<;>rename_i heq<;>first | (rw [hu] at heq;cases heq;done) | (cases h;done) | skip
    rename_i s
    split at h
    ·cases h
     intro s' hs
     subst hs
     have h1:=hr.1
     cases h1
     exact hB _ (by simp [DataW.weights])
    ·cases h
   case h_4 e hu =>
    simp only [Qx,hu,dV,qc] at hw
    split at ht
    case h_2=>cases ht
    rename_i a ha
    split at ht
    case isFalse=>cases ht
    rename_i hsz
    cases ht
    unfold DataW.trod at h
    split at h<;>rename_i heq<;>first | (rw [hu] at heq;cases heq;done) | (cases h;done) | skip
    ·intro st rows hs
     subst hs
     have h1:=hr.1
     cases h1
     exact ⟨ef _,fun r hr=>by cases hr⟩
    ·rename_i e1 ad len cap
     rw [hu] at heq
     cases heq
     simp only at h
     split at h
     case isFalse=>cases h
     rename_i hcap
     simp only [lg,cJ] at h
     obtain ⟨elems,hel,rest,_,rfl⟩:=h
     obtain ⟨hlen,ae⟩:=mJ hel
     intro st rows hs
     subst hs
     have h1:=hr.1
     simp only [DataW.weights,hu,bc,dL] at hB
     have hall:∀y∈elems,∀n∈DataW.weights P e y.1,n≤B:=fun y hy n hn=>hB n (.inr (.inl (A0 (List.mem_map.2 ⟨y,hy,rfl⟩) hn)))
     have hln:elems.length≤B:=by
      have h2:=hB _ (.inl rfl)
      have h3:=hw.1
      rw [bT] at h2
      exact eJ (eJ (Nat.le_add_right _ _) (Nat.le_mul_of_pos_right _ h3)) h2
     have hrok:∀r∈rows,a.ok r:=by
      rcases hok with hok | ⟨rows',hok,_,h3⟩
      ·cases hok
      ·cases hok;exact h3
     have hst:st=a.n∨rows=[]:=by
      rcases hok with hok | ⟨rows',hok,_,_⟩
      ·cases hok
      ·cases hok;exact .inl rfl
     cases h1 with
     | sl0=>exact ⟨ef _,fun r hr=>by cases hr⟩
     | sl bk of _ _ c tt fr _ vs hb hM hl hrl hv hx =>
      refine ⟨by omega,fun r hrm=>?_⟩
      obtain ⟨i,hi,hri⟩:=List.getElem_of_mem hrm
      have hri':rows[i]? = some r:=by rw [gn hi,hri]
      obtain ⟨y,g1,g2⟩:=ae i (by omega)
      simp only [lg] at g2
      obtain ⟨row,g3,g4⟩:=g2
      have hym:y∈elems:=gM g1
      refine ih f e row a y r ha hw.2 g4 (hrok r hrm) ?_ (hall y hym)
      have hst':st=a.n:=hst.resolve_right (fun h=>by rw [h] at hi;simp at hi)
      obtain ⟨q1,q2⟩:=wO g3
      have hblk:∀(q:Addr) m,(q.add m).block=q.block:=fun q m=>by unfold Addr.add;split<;>rfl
      have hoff:∀(q:Addr) m,(q.add m).off=q.off+m:=fun q m=>by
       unfold Addr.add
       split
       ·rename_i hm;simp [hm]
       ·rfl
      refine aH.of_get (by rw [q1,Ty.ok_len a r (hrok r hrm),hsz.1]) (fun j v x hv' hx'=>?_)
      have hj:j<P.cellsOf e:=by
       have:=(dW.1 hv').1
       omega
      obtain ⟨v',p1,p2⟩:=q2 j hj
      rw [hv'] at p1
      cases p1
      obtain ⟨_,c',t',fr',p3,p4⟩:=td p2
      rw [hblk,hblk] at p3
      simp only at p3
      rw [hb] at p3
      cases p3
      rw [hoff,hoff] at p4
      simp only at p4
      have:=hv i j hi (by rw [hst',hsz.1];exact hj)
      rw [hst',hsz.1,p4] at this
      cases this
      exact hx i j r x hri' hx'
   case h_5 fs hu =>
    simp only [Qx,hu] at hw
    split at ht
    case h_2=>cases ht
    rename_i a ha
    split at ht
    case isFalse=>cases ht
    rename_i hsz
    cases ht
    unfold DataW.trod at h
    split at h<;>rename_i heq<;>first | (rw [hu] at heq;cases heq;done) | (cases h;done) | skip
    ·rename_i cs1 fs1
     rw [hu] at heq
     cases heq
     split at h
     case isFalse=>cases h
     rename_i hcl
     simp only [cJ] at h
     obtain ⟨ys,h1,rfl⟩:=h
     refine zP (P:=P) (g:=km P f) (h:=Qx P f) (r:=fun t cs=>DataW.trod enc P w base sp held fuel t cs) (fun t cs τ x xs=>ih f t cs τ x xs) _ _ 0 _ ys xs ha hw h1 hok (by simpa using hr) fun n hn=>hB n ?_
     simpa only [DataW.weights,hu] using hn
   case h_6=>cases ht
end
section
variable {H:Type} {enc:TypeId×Value→H} {P:Program} [aV P] {w:World} {base:Nat} {sp:Nat→Bool} {held:Bool}
theorem NO {B:Nat} {f:Nat} {t:TypeId} {τ:Ty} {r:Reach} {b:Nat} {v:Value} {d:DataW H} {p:List MemPlace} (ht:km P f t=some τ) (hw:Qx P f t=true) (hv:Value.okWide P w r b t v) (h:DataW.Trod enc P w base sp held t v d p) (hB:∀n∈DataW.weights P t d,n≤B) :
  ∃x,τ.okV x∧τ.bdV B x∧aR (fun _=>none) (fun _=>False) w v x:=by
 obtain ⟨fuel,h⟩:=h
 obtain ⟨xs,h1,h2⟩:=Qt fuel f t _ _ _ ht h
 have hb:=VU fuel f t _ _ _ xs ht hw h h1 h2 hB
 have one:τ.isRec=false→v.cells.toList=[v]→∃x,τ.okV x∧τ.bdV B x∧aR (fun _=>none) (fun _=>False) w v x:=fun hr hc=>by
  rw [hc] at h2
  match xs,h2 with
  | [x],h2=>exact ⟨x,by unfold Ty.okV;rw [hr];exact h1,by unfold Ty.bdV;rw [hr];exact hb,h2.1.toV⟩
 cases f with
 | zero=>simp [km] at ht
 | succ f =>
  simp only [km] at ht
  unfold Value.okWide at hv
  split at ht
  ·rename_i hu
   rw [hu] at hv
   cases ht
   exact one rfl (by
    unfold Cell.okWide at hv;rw [hu] at hv
    simp only [Cell.ok,hu] at hv
    cases v<;>first | rfl | exact hv.elim)
  ·rename_i k hu
   rw [hu] at hv
   cases ht
   exact one rfl (by
    unfold Cell.okWide at hv;rw [hu] at hv
    simp only [Cell.ok,hu] at hv
    cases v<;>first | rfl | exact hv.elim)
  ·rename_i hu
   rw [hu] at hv
   cases ht
   exact one rfl (by
    unfold Cell.okWide at hv;rw [hu] at hv
    simp only [Cell.ok,hu] at hv
    cases v<;>first | rfl | exact hv.elim)
  ·rename_i e hu
   rw [hu] at hv
   have hr:τ.isRec=false:=by
    split at ht
    case h_2=>cases ht
    split at ht
    case isFalse=>cases ht
    cases ht
    rfl
   exact one hr (by
    unfold Cell.okWide at hv;rw [hu] at hv
    simp only [Cell.ok,hu] at hv
    cases v<;>first | rfl | exact hv.elim)
  ·rename_i fs hu
   rw [hu] at hv
   have hr:τ.isRec=true:=by
    split at ht
    case h_2=>cases ht
    rename_i hfs
    split at ht
    case isFalse=>cases ht
    cases ht
    exact Cm hfs
   obtain ⟨cs,rfl,_,_⟩:=hv
   refine ⟨.agg xs,by unfold Ty.okV;rw [hr];exact ⟨xs,rfl,h1⟩,by unfold Ty.bdV;rw [hr];intro ys hy;cases hy;exact hb,cs.toList,by simp,?_⟩
   exact aH.mono h2 fun a x _ h=>h.toC
  ·cases ht
theorem zD {B:Nat} {r:Reach} {b:Nat}:∀{ts:List TypeId} {τs:List Ty} {vs:List Value} {ds:List (DataW H)} {ps:List MemPlace},aH (fun t τ=>km P 9 t=some τ∧Qx P 9 t=true) ts τs →
  DataW.TrodAll enc P w base sp held ts vs ds ps→(∀(j:Nat) t v,ts[j]? = some t→vs[j]? = some v→Value.okWide P w r b t v)→(∀n∈DataW.weightsEach P ts ds,n≤B)→∃xs,aH Ty.okV τs xs∧aH (Ty.bdV B) τs xs∧aH (aR (fun _=>none) (fun _=>False) w) vs xs
 | [],[],[],ds,ps,_,h,_,_=>⟨[],trivial,trivial,trivial⟩
 | t :: ts,τ :: τs,v :: vs,d :: ds,ps,ht,h,hv,hB=>by
  obtain ⟨p,q,h3,h4,rfl⟩:=h
  simp only [DataW.weightsEach,dL] at hB
  obtain ⟨x,h5,h5b,h6⟩:=NO ht.1.1 ht.1.2 (hv 0 t v rfl rfl) h3 fun n hn=>hB n (.inl hn)
  obtain ⟨xs,h7,h7b,h8⟩:=zD ht.2 h4 (fun j t v h1 h2=>hv (j+1) t v (by simpa using h1) (by simpa using h2)) fun n hn=>hB n (.inr hn)
  exact ⟨x :: xs,⟨h5,h7⟩,⟨h5b,h7b⟩,h6,h8⟩
 | [],[],_ :: _,_,_,_,h,_,_=>h.elim
 | _ :: _,[],_,_,_,ht,_,_,_=>ht.elim
 | [],_ :: _,_,_,_,ht,_,_,_=>ht.elim
 | _ :: _,_ :: _,[],_,_,_,h,_,_=>h.elim
 | _ :: _,_ :: _,_ :: _,[],_,_,h,_,_=>h.elim
end
section
variable {H:Type} {enc:TypeId×Value→H} {P:Program} [aV P] {w:World}
theorem eW {B:Nat} {fid:FuncId} {f:Func} {s:ChangeSpec} (τs:List Ty) {tb:TypeId} {apart fresh handsOn again:Bool} (hty:aH (fun t τ=>km P 9 t=some τ∧Qx P 9 t=true) f.params.toList τs) (hl:laidOutB P=true)
  (hr:∀t∈f.params.toList,P.readableRec t=true∧t<P.types.size) (hvs:s.vars=[])
  (hfn:∀ds:List (DataW H),ds.length=τs.length→(s.fn H ds).results=[.lit (.bool true)]∧(s.fn H ds).args=ds∧(s.fn H ds).vars=[])
  (hrt:f.resultTypes = #[tb]) (htb:P.underlying tb=some .bool)
  (hp:∀xs,aH Ty.okV τs xs→aH (Ty.bdV B) τs xs→aj P fid xs (.bool true))
  (W:World) (b:Nat) (args:Array Value) (ds gs:List (DataW H)) (before:List MemPlace) {r:Reach} (hT:(aV.T P).H W)
  (hval:∀(j:Nat) t v,f.params[j]? = some t→args[j]? = some v→Value.okWide P W r b t v)
  (hW:DataW.Whole enc P f.params.toList s.vars apart W args.toList ds gs before) (hB:∀n∈DataW.weightsEach P f.params.toList ds,n≤B) :
  Calls P fid args W fun e W'=>∃v,e = .returned v∧s.post enc P f apart fresh handsOn again W args v W':=by
 have hW':=hW
 obtain ⟨p,q,hA,hV,_,_,_⟩:=hW
 rw [hvs] at hV
 obtain ⟨rfl,rfl⟩:=trodVars_none hV
 obtain ⟨xs,h1,h1b,h2⟩:=zD hty hA (fun j t v h1 h2=>hval j t v (by simpa using h1) (by simpa using h2)) hB
 have h4:=hp xs h1 h1b
 have hlen:ds.length=τs.length:=by
  have key:∀{ts:List TypeId} {vs:List Value} {ds:List (DataW H)} {ps:List MemPlace},DataW.TrodAll enc P W 0 (fun _=>true) true ts vs ds ps→ds.length=ts.length:=by
   intro ts
   induction ts with
   | nil=>intro vs ds ps h;match vs,ds,h with | [],[],_=>rfl
   | cons t ts ih=>intro vs ds ps h;match vs,ds,h with | v :: vs,d :: ds,⟨_,_,_,h4,_⟩=>simp [ih h4]
  rw [key hA,hty.length]
 obtain ⟨g1,g2,g3⟩:=hfn ds hlen
 have:=AB h4 hT h2
 rw [show args.toList.toArray=args from by simp] at this
 refine this.mono fun e W' ⟨he,hk⟩=>⟨_,he,?_⟩
 exact Ko hl hr hvs (by simpa using g1) (by simpa using g2) (by simpa using g3) hrt htb hW' hk
end
def cA (n:Nat):be→be
 | .draw ops al dr=>match ops with
  | ⟨⟨some d,op,g⟩,b⟩ :: r=>if d=n then .wild (⟨⟨some d,op,g⟩,b⟩ :: r) al dr else .draw (⟨⟨some d,op,g⟩,b⟩ :: r) al dr
  | ops=>.draw ops al dr
 | .seq x y=>.seq (cA n x) (cA n y)
 | .cond c x y=>.cond c (cA n x) (cA n y)
 | .block id x=>.block id (cA n x)
 | .loop x=>.loop (cA n x)
 | x=>x
theorem Cr (n d:Nat) (op:gS) (g:Option (Nat×Bool)) (b:List Nat) (r:List ax) (al:List (Nat×Nat)) (dr:List Nat) :
  cA n (.draw (⟨⟨some d,op,g⟩,b⟩ :: r) al dr)=if d=n then .wild (⟨⟨some d,op,g⟩,b⟩ :: r) al dr else .draw (⟨⟨some d,op,g⟩,b⟩ :: r) al dr:=aW rfl
theorem Gf (n:Nat) (x y:be):cA n (.seq x y) = .seq (cA n x) (cA n y):=aW rfl
theorem Cq (n:Nat) (c:IV) (x y:be):cA n (.cond c x y) = .cond c (cA n x) (cA n y):=aW rfl
theorem A4 (n id:Nat) (x:be):cA n (.block id x) = .block id (cA n x):=aW rfl
theorem Cv (n:Nat) (x:be):cA n (.loop x) = .loop (cA n x):=aW rfl
theorem Cw (n:Nat):cA n .skip = .skip:=aW rfl
theorem Ge (n:Nat):cA n .ret = .ret:=aW rfl
theorem Cs (n id:Nat):cA n (.exit id) = .exit id:=aW rfl
theorem Gc (n:Nat) (ops:List aM) (dr:List Nat):cA n (.reg ops dr) = .reg ops dr:=aW rfl
def xj:List ax→List ax
 | []=>[]
 | [_]=>[]
 | o :: p :: r=>o :: xj (p :: r)
def t8:List ax→Option ax
 | []=>none
 | [o]=>some o
 | _ :: p :: r=>t8 (p :: r)
theorem E_ (o:ax):xj [o]=[]:=aW rfl
theorem tT (o p:ax) (r:List ax):xj (o :: p :: r)=o :: xj (p :: r):=aW rfl
theorem Fl (o:ax):t8 [o]=some o:=aW rfl
theorem t_ (o p:ax) (r:List ax):t8 (o :: p :: r)=t8 (p :: r):=aW rfl
theorem Dh:∀l,xj l=l.dropLast
 | []=>rfl
 | [_]=>rfl
 | o :: p :: r=>by rw [tT,Dh (p :: r)];rfl
theorem Dq:∀l,t8 l=l.getLast?
 | []=>rfl
 | [_]=>rfl
 | o :: p :: r=>by rw [t_,Dq (p :: r),List.getLast?_cons_cons]
section
variable {P:Program} [aV P]
def Q2 (al:List (Nat×Nat)) (n:Nat) (o:Option ax) (dr:List Nat) (K:IX→St→Prop) (hist:List HI) (s:St):Prop :=
 match o with
 | some o=>A5 al (n - 1) o hist s fun s'=>K .nrm ⟨dels dr s'.env,s'.heap⟩
 | none=>False
def Km (P:Program) [aV P] (al:List (Nat×Nat)) (i:Nat) (r:List ax) (K:List HI→St→Prop) (hist:List HI) (s:St):Prop:=dq P al i r hist s K
theorem Kn (al:List (Nat×Nat)) (i:Nat) (r:List ax) (K:List HI→St→Prop) (hist:List HI) (s:St):Km P al i r K hist s=dq P al i r hist s K:=aW rfl
theorem BJ (al:List (Nat×Nat)) (i:Nat) (hist:List HI) (s:St) (K:List HI→St→Prop):dq P al i [] hist s K=K hist s:=aW rfl
theorem z6 (al:List (Nat×Nat)) (i:Nat) (d:Option Nat) (op:gS) (bf:List Nat) (r:List ax) (hist:List HI) (s:St) (K:List HI→St→Prop) :
  dq P al i (⟨⟨d,op,none⟩,bf⟩ :: r) hist s K=cu P al i ⟨⟨d,op,none⟩,bf⟩ hist s (Km P al (i+1) r K):=aW rfl
theorem Kc (ops:List ax) (al:List (Nat×Nat)) (dr:List Nat) (s:St) (K:IX→St→Prop):ir P (.wild ops al dr) s K=dq P al 0 (xj ops) [] (kills (al.map (·.1)) s) (Q2 al ops.length (t8 ops) dr K):=by
 rw [Dh,Dq]
 rfl
theorem dc {al:List (Nat×Nat)} {n d:Nat} {t:TypeId} {st:Nat} {x y:IV} {bf:List Nat} {dr:List Nat} {K:IX→St→Prop} {hist:List HI} {s:St} (v:AV) (e:aT)
  (h:bB d (.app t st x y) (val (get s.env)) (ae s.heap)=some (v,e)) (h1:((ao (.app t st x y)).all fun k=>!gI (get s.env k))=true) (h2:e.isReb=true) (h3:(hist.all fun z=>bf.contains z.i||Cx e.tch z)=true)
  (h4:qn al bf ⟨n - 1,cx (.app t st x y) s.env,aI v++e.ids,e.tch,true,true⟩=true) (h5:Fk dr K ((s.eff e).put (some d) v)):Q2 al n (some ⟨⟨some d,.app t st x y,none⟩,bf⟩) dr K hist s:=by
 refine ⟨rfl,?_⟩
 simp only [Option.getD_some]
 rw [h]
 exact ⟨h1,h2,h3,h4,h5⟩
end
attribute [go_sem] Cr Gf Cq A4 Cv Cw Ge Cs Gc E_ tT Fl t_ BJ z6 Kn Kc
theorem Pn {n:Nat} {c:List AV} (h:c.length=n):m_ (some n) c=some (.agg c):=by
 show (if n≤c.length then some (AV.agg (c.take n)) else none)=_
 rw [av (by omega),iq (by omega)]
theorem Qo {k n:Nat} {t:TypeId} {z c:List AV} (hz:z.length=n) (h:c.length=n):sO k n n 0 0 (some ⟨t,n,[z],true⟩) (some c)=some (.put k ⟨t,n,[c],true⟩):=by
 unfold sO
 simp only [true_and,vM,and_true]
 rw [av h]
 show (if 0+n≤z.length then some (aT.put k ⟨t,n,[z].set 0 (dP z 0 c),true⟩) else none)=_
 rw [av (by omega)]
 unfold dP
 rw [gN,e_,Nat.zero_add,List.drop_eq_nil_of_le (by omega),jJ]
 rfl
def acb (n:Nat) (c:List AV):Prop:=c.length=n∧(∀i,c.any (mC i)=false)∧aI (.agg c)=[]
theorem Wk.trunc (s:St) (i n:Nat) {t:TypeId} {st:Nat} {rows:List (List AV)} {r:Bool} (hi:ae s.heap i=some ⟨t,st,rows,r⟩):Wk s ⟨s.env,(i,⟨t,st,rows.take n,r⟩) :: s.heap⟩:=by
 rintro c a w ⟨bl,hs⟩
 have hm:∀b,aZ bl c.MF (ae ((i,⟨t,st,rows.take n,r⟩) :: s.heap)) b↔aZ bl c.MF (ae s.heap) b:=aZ.congr fun j=>by
  simp only [ae]
  split
  ·rename_i h;subst h;rw [hi];rfl
  ·rfl
 have ht:=Tr.of_iff (w:=w) fun b=>(hm b)
 refine ⟨bl,hs.defers,hs.size,fun j=>(hs.env j).tr ht (fun _ _=>rfl),⟨fun j o hj=>?_,fun j j' o o' b h1 h2=>?_⟩,hs.step,fun j o b h1=>?_,hs.stab,hs.mf⟩
 ·simp only [ae] at hj
  split at hj
  ·rename_i hij
   subst hij
   cases hj
   rcases hs.heap.1 i _ hi with hn | ⟨b,g1,⟨gk,c1,fr,g2,g3,g4,g5,g6,g7⟩ | hsp⟩
   ·exact .inl ⟨by rw [show rows=[] from hn.1];exact List.take_nil,hn.2⟩
   rotate_left
   ·exact absurd hsp.rel (fun h=>h)
   ·have key:∀{k:Nat} {q:List AV},(rows.take n)[k]? = some q→rows[k]? = some q:=fun {k q} hq=>by
     rw [List.getElem?_take] at hq
     split at hq
     ·exact hq
     ·cases hq
    refine .inr ⟨b,g1,.inl ⟨gk,c1,fr,g2,g3,g4,fun k q hq=>g5 k q (key hq),eJ (jI _ (by simp;omega)) g6,fun k q u x hu hx=>?_⟩⟩
    obtain ⟨v,hv1,hv2⟩:=g7 k q u x (key hu) hx
    refine ⟨v,hv1,?_⟩
    cases r
    ·exact IRel.tr hv2 ht.keep
    ·exact bN.tr hv2 ht (fun _ _=>rfl)
  ·rcases hs.heap.1 j o hj with hn | ⟨b,g1,⟨gk,c1,fr,g2,g3,g4,g5,g6,g7⟩ | hsp⟩
   ·exact .inl hn
   rotate_left
   ·exact .inr ⟨b,g1,.inr hsp⟩
   ·refine .inr ⟨b,g1,.inl ⟨gk,c1,fr,g2,g3,g4,g5,g6,fun k q u x hu hx=>?_⟩⟩
    obtain ⟨v,hv1,hv2⟩:=g7 k q u x hu hx
    refine ⟨v,hv1,?_⟩
    cases hrec:o.isRec<;>simp only [hrec,l0] at hv2 ⊢
    ·exact hv2.tr ht.keep
    ·exact hv2.tr ht (fun _ _=>rfl)
 ·have key:∀{j:Nat} {o:ah},ae ((i,⟨t,st,rows.take n,r⟩) :: s.heap) j=some o→∃o',ae s.heap j=some o':=fun {j o} hj=>by
   simp only [ae] at hj
   split at hj
   ·rename_i hij;subst hij;exact ⟨_,hi⟩
   ·exact ⟨_,hj⟩
  obtain ⟨p1,q1⟩:=key h1
  obtain ⟨p2,q2⟩:=key h2
  exact hs.heap.2 j j' p1 p2 b q1 q2
 ·simp only [ae] at h1
  split at h1
  ·rename_i hij;subst hij;exact hs.own i _ b hi
  ·exact hs.own j o b h1
theorem fb {d:Nat} {t:TypeId} {st:Nat} {x y:IV} {ρ:IV→AV} {h:Nat→Option ah} {id len:Nat} {rows ys:List (List AV)} (hx:ρ x = .ms id st 0 len) (ho:h id=some ⟨t,st,rows,false⟩) (hy:eD st h (ρ y)=some ys) (hr:rows.length=len) (hl:ys.length<137438953472) (hn:len<137438953472) (hid:id<1000∨2000≤id) :
  bB d (.app t st x y) ρ h=some (.ms id st 0 (len+ys.length),.reb id ⟨t,st,rows++ys,false⟩):=by
 subst hr
 simp only [bB,hx,hy,jq,av hl,ho]
 rw [av (by refine ⟨?_,?_,?_,?_,?_,aO _,hn,hid,rfl⟩<;>trivial),og]
theorem Ta {d:Nat} {t:TypeId} {st:Nat} {y:IV} {ρ:IV→AV} {h:Nat→Option ah} {rows:List (List AV)} (hn:ρ (.c .nl) = .nl) (hy:eD st h (ρ y)=some rows) (hl:rows.length<137438953472) :
  bB d (.app t st (.c .nl) y) ρ h=some (.ms d st 0 rows.length,.new d ⟨t,st,rows,false⟩):=by
 simp only [bB,hn,hy,jq,av hl]
theorem LF (i:Nat) (t:TypeId) (st:Nat) (rows:List (List AV)):cU i ⟨t,st,rows,true⟩ =⟨t,st,rows.map (fun r=>r.map (jk i)),true⟩:=rfl
theorem LE (i:Nat) (t:TypeId) (st:Nat) (rows:List (List AV)):cU i ⟨t,st,rows,false⟩ =⟨t,st,rows,false⟩:=rfl
attribute [go_sem high] LF LE
theorem QB {l:List jL} {Post:AV→List (Nat×ah)→Prop} {s s1:St} (hw:Wk s s1) (fs:List Nat) (r:AV) (σ':List (Nat×ah)) (h1:mA l (frzs fs s1)=some r) (h2:Gn (frzs fs s1).heap σ') (h3:MR r σ'=true) (h4:Post r σ'):xO l Post .nrm s :=
 ⟨(fun _ h=>by cases h),s1,hw,fs,r,σ',h1,(fun i o hi=>jS h2 _ (dJ hi)),gb h3,h4⟩
section
variable {P:Program} [aV P]
theorem xi {bl:Nat→Option Nat} {M:Nat→Prop} {w:World} {v:Value} {x:AV} (h:bN bl M w v x) (h1:fH x=true) (h2:gI x=false):IRel M w v x:=by
 cases x<;>first | (simp [fH] at h1;done) | exact h | (simp [gI] at h2;done)
theorem aC.unrec {c:jY} {bl:Nat→Option Nat} {s:St} {a:Act} {w:World} (hs:aC c bl (get s.env) (ae s.heap) a w) {i:Nat} {t:TypeId} {st:Nat} {r:List AV} (hi:ae s.heap i=some ⟨t,st,[r],true⟩) (hr:∀x∈r,fH x=true∧gI x=false) :
  aC c bl (get s.env) (ae ((i,⟨t,st,[r],false⟩) :: s.heap)) a w∧aZ bl c.MF (ae ((i,⟨t,st,[r],false⟩) :: s.heap))=aZ bl c.MF (ae s.heap):=by
 have hm:aZ bl c.MF (ae ((i,⟨t,st,[r],false⟩) :: s.heap))=aZ bl c.MF (ae s.heap):=by
  funext b
  apply propext
  constructor
  ·rintro (h | ⟨j,o,h1,h2⟩)
   ·exact .inl h
   ·simp only [ae] at h1
    split at h1
    ·rename_i hij;subst hij;exact .inr ⟨_,_,hi,h2⟩
    ·exact .inr ⟨j,o,h1,h2⟩
  ·rintro (h | ⟨j,o,h1,h2⟩)
   ·exact .inl h
   ·by_cases hij:i=j
    ·subst hij;exact .inr ⟨i,⟨t,st,[r],false⟩,by simp [ae],h2⟩
    ·exact .inr ⟨j,o,by simp only [ae,ar hij];exact h1,h2⟩
 refine ⟨⟨hs.defers,hs.size,by rw [hm];exact hs.env,⟨fun j o hj=>?_,fun j j' o o' b h1 h2=>?_⟩,hs.step,fun j o b h1=>?_,hs.stab,hs.mf⟩,hm⟩
 ·rw [hm]
  simp only [ae] at hj
  split at hj
  ·rename_i hij
   subst hij
   cases hj
   rcases hs.heap.1 _ _ hi with ⟨h1,_⟩ | ⟨b,g1,⟨gk,c1,fr,g2,g3,g4,g5,g6,g7⟩ | hsp⟩
   ·cases h1
   ·refine .inr ⟨b,g1,.inl ⟨rfl,c1,fr,g2,g3,g4,g5,g6,fun k q u x hu hx=>?_⟩⟩
    obtain ⟨v,hv1,hv2⟩:=g7 k q u x hu hx
    have hu2:u=r:=by
     cases k with
     | zero=>simpa using hu.symm
     | succ k=>simp at hu
    subst hu2
    obtain ⟨z1,z2⟩:=hr x (gM hx)
    exact ⟨v,hv1,xi hv2 z1 z2⟩
   ·have:=hsp.rows
    cases this
  ·exact hs.heap.1 j o hj
 ·have key:∀{j:Nat} {o:ah},ae ((i,⟨t,st,[r],false⟩) :: s.heap) j=some o→∃o',ae s.heap j=some o':=fun {j o} hj=>by
   simp only [ae] at hj
   split at hj
   ·rename_i hij;subst hij;exact ⟨_,hi⟩
   ·exact ⟨_,hj⟩
  obtain ⟨p1,q1⟩:=key h1
  obtain ⟨p2,q2⟩:=key h2
  exact hs.heap.2 j j' p1 p2 b q1 q2
 ·simp only [ae] at h1
  split at h1
  ·rename_i hij;subst hij;exact hs.own i _ b hi
  ·exact hs.own j o b h1
theorem dC.unrec (s:St) (l:List AV) (i:Nat) {t:TypeId} {st:Nat} {r:List AV} (hi:ae s.heap i=some ⟨t,st,[r],true⟩) (hr:∀x∈r,fH x=true∧gI x=false):dC s l ⟨s.env,(i,⟨t,st,[r],false⟩) :: s.heap⟩ l:=fun c a w bl vs h1 h2=>by
 obtain ⟨h3,hm⟩:=aC.unrec h1 hi hr
 exact ⟨bl,h3,by rw [hm];exact h2⟩
theorem xe {x:AV} (h:lM x=true):dO x=[]:=by cases x<;>first | rfl | (simp [lM] at h)
theorem oK {f:AV→Bool} {g:AV→List Nat} (hh:∀x,f x=true→g x=[]):∀l:List AV,l.all f=true→l.flatMap g=[]
 | [],_=>rfl
 | x :: l,h=>by
  simp only [List.all_cons,dV] at h
  simp only [m8,hh x h.1,oK hh l h.2,jJ]
theorem xf {x:AV} (h:nv x=true):fG x=[]:=by
 cases x with
 | agg cells=>exact oK (fun _=>xe) cells h
 | _=>first | exact xe (by simpa only [nv] using h) | rfl | (simp [nv,lM] at h)
theorem I2 {x:AV} (h:iX x=true):aI x=[]:=by
 cases x with
 | tup vs=>exact oK (fun _=>xf) vs h
 | _=>first | exact xf (by simpa only [iX] using h) | rfl | (simp [iX,nv,lM] at h)
theorem bu.lend {f:FuncId} {args args':List AV} {r:AV} {σ:List (Nat×ah)} {s':St} (hp:aj P f args' r) (hf:iX r=true) (hw:dC ⟨[],σ⟩ args s' args') (hid:∀x∈args',aI x=[]) (hcl:∀p∈σ,∀i∈dt p.2,(ae σ i).isSome=true) (Sb:Nat→Prop) :
  bu P f args σ Sb (fun r' σ'=>r'=r∧σ'=σ):=by
 intro bl MF w cargs hT hTM hH hMF hA
 let c:jY:={ w0:=w,bl0:=bl,W:=i9 bl σ,MF:=MF,n:=0,T:=aV.T P,tH:=hT,tW:=fun b hb ⟨id,o,h1,h2⟩=>hTM b hb (.inr ⟨id,o,h1,h2⟩),tM:=fun b hb hm=>hTM b hb (.inl hm),hn:=by decide }
 let a:Act:=⟨#[],[]⟩
 have hs:aC c bl (get ([]:List (Nat×AV))) (ae σ) a w:=⟨rfl,rfl,fun k=>trivial,hH,ek.refl _ _,fun id o b h1 h2=>.inr ⟨id,o,h1,h2⟩,fun _ _ _=>rfl,hMF⟩
 obtain ⟨bl',hs',hA'⟩:=hw c a w bl cargs hs hA
 let MF':Nat→Prop:=aZ bl' MF (ae s'.heap)
 have hMF':∀q,MF' q→q<w.heap.size:=fun q hq=>by
  rcases hq with hm | ⟨id,o,h1,h2⟩
  ·exact hMF q hm
  ·rcases hs'.heap.1 id o h1 with hn | ⟨b',g2,hO⟩
   ·rw [hn.2.2] at h2;cases h2
   ·rw [h2] at g2;cases g2;exact hO.lt
 have hargs:aH (aR (fun _=>none) (aZ (fun _=>none) MF' (ae [])) w) cargs args':=hA'.mono fun v x hx hv=>by
  refine aR.tr hv ⟨fun q hq _=>⟨fun hm=>hq ((ej MF' q).1 hm),rfl⟩,fun _ c1 _ fr hb=>⟨c1,fr,hb,rfl⟩⟩ (fun id hm=>?_)
  have:=ji hm
  rw [hid x hx] at this
  cases this
 refine (hp (fun _=>none) MF' w cargs hT (fun b hb hm=>?_) ⟨(fun id o h=>by cases h),(fun id id' o o' b h=>by cases h)⟩ hMF' hargs).mono ?_
 ·have hm:=(ej MF' b).1 hm
  haveI:CT c P:=⟨rfl⟩
  exact aC.tabW (c:=c) hs' b hb hm
 rintro e w' ⟨v,r',σ',bl2,rfl,⟨rfl,rfl⟩,_,_,hv,hst,_,_⟩
 have hst':ek (fun _=>False) w w':=⟨hst.size,fun b hb _=>hst.keep b hb (fun ⟨id,o,h,_⟩=>by cases h),hst.shape,hst.os,hst.out⟩
 have hg:=aC.grow (c:=c) hs hst'
 exact ⟨v,_,_,bl,rfl,⟨rfl,rfl⟩,⟨(fun i hi=>by rw [I2 hf] at hi;cases hi),hcl⟩,hg.heap,xd hf hv,⟨hst.size,fun b hb _=>hst'.keep b hb (fun h=>h),hst.shape,hst.os,hst.out⟩,fun id o b h1 h2=>.inr ⟨id,o,h1,h2⟩,fun _ _=>rfl⟩
end
theorem Wk.nlr1 (s:St) (i:Nat) {t:TypeId} {st:Nat} {r r':List AV} (hi:ae s.heap i=some ⟨t,st,[r],false⟩) (hr:UH r r'):Wk s ⟨s.env,(i,⟨t,st,[r'],false⟩) :: s.heap⟩:=by
 rintro c a w ⟨bl,hs⟩
 have hm:∀b,aZ bl c.MF (ae ((i,⟨t,st,[r'],false⟩) :: s.heap)) b↔aZ bl c.MF (ae s.heap) b:=aZ.congr fun j=>by
  simp only [ae]
  split
  ·rename_i h;subst h;rw [hi];rfl
  ·rfl
 have ht:=Tr.of_iff (w:=w) fun b=>(hm b)
 refine ⟨bl,hs.defers,hs.size,fun j=>(hs.env j).tr ht (fun _ _=>rfl),⟨fun j o hj=>?_,fun j j' o o' b h1 h2=>?_⟩,hs.step,fun j o b h1=>?_,hs.stab,hs.mf⟩
 ·simp only [ae] at hj
  split at hj
  ·rename_i hij
   subst hij
   cases hj
   rcases hs.heap.1 i _ hi with hn | ⟨b,g1,⟨gk,c1,fr,g2,g3,g4,g5,g6,g7⟩ | hsp⟩
   ·cases hn.1
   rotate_left
   ·exact absurd hsp.rel (fun h=>h)
   ·refine .inr ⟨b,g1,.inl ⟨gk,c1,fr,g2,g3,g4,fun k q hq=>?_,by simpa using g6,fun k q u x hu hx=>?_⟩⟩
    ·cases k with
     | zero=>simp at hq;subst hq;rw [yy hr];exact g5 0 r rfl
     | succ k=>simp at hq
    ·cases k with
     | succ k=>simp at hu
     | zero =>
      simp at hu
      subst hu
      obtain ⟨x0,h1,h2⟩:=yx hr hx
      obtain ⟨v,hv1,hv2⟩:=g7 0 q r x0 rfl h1
      refine ⟨v,hv1,?_⟩
      have hv3:IRel (aZ bl c.MF (ae s.heap)) w v x0:=hv2
      rcases h2 with h2 | ⟨h2,st',h3⟩
      ·subst h2;exact IRel.tr hv3 ht.keep
      ·subst h2 h3
       exact IRel.tr (IRel.nl_sl hv3 st') ht.keep
  ·rcases hs.heap.1 j o hj with hn | ⟨b,g1,⟨gk,c1,fr,g2,g3,g4,g5,g6,g7⟩ | hsp⟩
   ·exact .inl hn
   rotate_left
   ·exact .inr ⟨b,g1,.inr hsp⟩
   ·refine .inr ⟨b,g1,.inl ⟨gk,c1,fr,g2,g3,g4,g5,g6,fun k q u x hu hx=>?_⟩⟩
    obtain ⟨v,hv1,hv2⟩:=g7 k q u x hu hx
    refine ⟨v,hv1,?_⟩
    cases hrec:o.isRec<;>simp only [hrec,l0] at hv2 ⊢
    ·exact hv2.tr ht.keep
    ·exact hv2.tr ht (fun _ _=>rfl)
 ·have key:∀{j:Nat} {o:ah},ae ((i,⟨t,st,[r'],false⟩) :: s.heap) j=some o→∃o',ae s.heap j=some o':=fun {j o} hj=>by
   simp only [ae] at hj
   split at hj
   ·rename_i hij;subst hij;exact ⟨_,hi⟩
   ·exact ⟨_,hj⟩
  obtain ⟨p1,q1⟩:=key h1
  obtain ⟨p2,q2⟩:=key h2
  exact hs.heap.2 j j' p1 p2 b q1 q2
 ·simp only [ae] at h1
  split at h1
  ·rename_i hij;subst hij;exact hs.own i _ b hi
  ·exact hs.own j o b h1
theorem Wk.unrec (s:St) (i:Nat) {t:TypeId} {st:Nat} {r:List AV} (hi:ae s.heap i=some ⟨t,st,[r],true⟩) (hr:∀x∈r,fH x=true∧gI x=false):Wk s ⟨s.env,(i,⟨t,st,[r],false⟩) :: s.heap⟩:=fun c a w ⟨bl,h1⟩=>⟨bl,(aC.unrec h1 hi hr).1⟩
def Ws {α:Type} (B:Nat→Prop) (n:Nat) (P:Program) [aV P] (g:Nat) (lb:Array Value) (encs:α→Array Value) (E:List α) (w:World):Prop :=
 ∀(l:Nat) (J Jx:List α→World→Prop) (W:World),(aV.T P).H W→ek No w W→(∀s A B,J s A→ek No A B→J s B)→(∀s A B,Jx s A→ek No A B→Jx s B) →
  (∀dK x W1,J dK W1→dK++[x] <+: E→YieldAt Fence.wide (n - 1) P l (encs x) W1 fun e W' =>
   (e = .returned (.bool true)∧J (dK++[x]) W'∧sx B W.heap.size W1 W')∨(e = .returned (.bool false)∧Jx (dK++[x]) W')) →
  J [] W →
  CallsIn Fence.wide n P g (#[.func (.yield l) #[] #[]]++lb) W fun e W'=>(∃v,e = .returned v)∧(J E W'∨(∃dK,dK <+: E∧Jx dK W'))
section
variable {n:Nat} {P:Program} [aV P]
theorem Gg {α:Type} {g:Operand} {ps:Array Tmp} {assign body:Code} {Q:Exit→Act→World→Prop} {a:Act} {w:World}
  {B:Nat→Prop} (h1:1≤n) (hH:(aV.T P).H w) (hB:∀b,B b→b<w.heap.size) {gf:Nat} {lb:Array Value} (hg:a.eval g = .func (.func gf) #[] lb) (eg:∀args w,(callFunc gf args).run P w = .ok (.enter gf args) w)
  {encs:α→Array Value} {E:List α} {w0:World} (hseq:Ws B (n - 1) P gf lb encs E w0) (hb0:ek No w0 w) (hps:∀x,(encs x).size=ps.size)
  (I:List α→World→Prop) (Ix:Code→List α→World→Prop) (hI:∀s A B,I s A→ek No A B→I s B) (hIx:∀c s A B,Ix c s A→ek No A B→Ix c s B)
  (hIp:∀s W l o o',I s W→w.heap.size≤l→W.heap[l]? = some o→o.isCells=false→I s (W.putObj l o')) (hIxp:∀c s W l o o',Ix c s W→w.heap.size≤l→W.heap[l]? = some o→o.isCells=false→Ix c s (W.putObj l o'))
  (h0:I [] w) (a₁:α→Act)
  (hassign:∀(l:Nat) (x:α) (W:World) (K:Act→World→Prop),K (a₁ x) W →
   assign.wpIn (Fence.wide.inRound l) (n - 1 - 1) P (Exit.then K (fun _ _ _=>False)) { tmps:=(ps.zip (encs x)).foldl (fun t (p,v)=>t.setIfInBounds p v) a.tmps,defers:=[] } W)
  (hbody:∀(l:Nat) (dK:List α) (x:α) (W:World),I dK W→dK++[x] <+: E→body.wpIn (Fence.wide.inRound l) (n - 1 - 1) P (ownPostK (sx B w.heap.size) I Ix (dK++[x]) W) (a₁ x) W)
  (hdone:∀(D:Nat) (W:World),w.heap.size≤D→I E W→W.heap[D]? = some (.deferred (some []))→Q .normal { a with defers:={ target:=.collected D,args:=#[] } :: a.defers } W)
  (hstop:∀(D:Nat) (c:Code) (dK:List α) (W:World),w.heap.size≤D→dK <+: E→Ix c dK W→W.heap[D]? = some (.deferred (some []))→c.wpIn Fence.wide n P Q { a with defers:={ target:=.collected D,args:=#[] } :: a.defers } W) :
  (Code.rangeFunc g ps assign body).wpIn Fence.wide n P Q a w:=by
 refine wpIn_rangeFunc ?_
 intro fn hfn
 rw [show Fence.wide.round=none from rfl]
 obtain ⟨rec,hrec⟩:∃rec:LoopState→Option Code→Loop,rec=fun st pe=>{ state:=st,pending:=pe,fn,tmps:=a.tmps,params:=ps,assign,body,defers:=w.heap.size }:=⟨_,rfl⟩
 obtain ⟨W1,hW1⟩:∃W1,(w.alloc (.deferred (some []))).alloc (.loop (rec .ready none))=W1:=⟨_,rfl⟩
 have hL1:W1.heap[w.heap.size+1]? = some (.loop (rec .ready none)):=by
  rw [← hW1];have:=World.alloc_heap_new (w.alloc (.deferred (some []))) (.loop (rec .ready none));rwa [World.size_alloc] at this
 have hK1:W1.heap[w.heap.size]? = some (.deferred (some [])):=by
  rw [← hW1];exact (Below.heap_alloc _ _ _ (by simp)).trans (World.alloc_heap_new w _)
 have hs1:ek No w W1:=by rw [← hW1];exact (ek.ofAlloc _ _).one (ek.ofAlloc _ _)
 have hlow:∀b,B b→b<w.heap.size+1:=fun b hb=>Nat.lt_succ_of_lt (hB b hb)
 have hz1:W1.heap.size=w.heap.size+2:=by rw [← hW1];simp
 refine ⟨w.heap.size+1,[{ target:=.collected w.heap.size,args:=#[] }],W1,{ target:=.fn (.func gf) lb,args:=#[.func (.yield (w.heap.size+1)) #[] #[]] },W1,gf,
  #[.func (.yield (w.heap.size+1)) #[] #[]]++lb,W1,?_,?_,?_,?_,fun _=>h1,?_⟩
 ·rw [← hW1,hrec];exact run_enterLoop_outer _ _ _ _ _
 ·simp only [resolve,hg]
  simp [go_sem]
 ·intro f' hf';trivial
 ·simp [invoke,go_sem,eg]
 ·have kp:∀{l:Nat} {o:Obj} {A B:World},ek No A B→A.heap[l]? = some o→B.heap[l]? = some o:=fun {l o A B} hs h=>by
   rw [hs.keep l (f9.1 h).1 (fun h=>h)];exact h
  refine (hseq (w.heap.size+1)
   (fun dK W=>I dK W∧W.heap[w.heap.size+1]? = some (.loop (rec .ready none))∧W.heap[w.heap.size]? = some (.deferred (some [])))
   (fun dK W=>∃c,Ix c dK W∧W.heap[w.heap.size+1]? = some (.loop (rec .done (some c)))∧W.heap[w.heap.size]? = some (.deferred (some [])))
   W1 ((aV.T P).stay _ _ hH fun b hb=>hs1.keep b ((aV.T P).low _ hH b hb) (fun h=>h)) (hb0.one hs1)
   (fun s A B hs hg'=>⟨hI s A B hs.1 hg',kp hg' hs.2.1,kp hg' hs.2.2⟩)
   (fun s A B hs hg'=>by
    obtain ⟨c,hc,hl,hk⟩:=hs
    exact ⟨c,hIx c s A B hc hg',kp hg' hl,kp hg' hk⟩)
   ?_ ⟨hI _ _ _ h0 hs1,hL1,hK1⟩).mono ?_
  ·
   rintro dK x W ⟨hi,hl,hk⟩ hlen
   have hlt:w.heap.size+1<W.heap.size:=(f9.1 hl).1
   have hy:=run_yield (P:=P) (args:=encs x) hl (by rw [hrec];exact hps x)
   rw [hrec] at hy
   refine ⟨fn,_,assign,body,hy,roundIn_of_wpIn hfn (hassign _ x W _ ⟨_,run_beginRound hl (by rw [hrec]),?_⟩)⟩
   have hl2:(W.putObj (w.heap.size+1) (.loop { rec .ready none with state:=.busy })).heap[w.heap.size+1]? = some (.loop { rec .ready none with state:=.busy }):=World.putObj_heap_same hlt
   have hk2:(W.putObj (w.heap.size+1) (.loop { rec .ready none with state:=.busy })).heap[w.heap.size]? = some (.deferred (some [])):=(World.putObj_heap_other (by omega)).trans hk
   have hw2:sx B w.heap.size W (W.putObj (w.heap.size+1) (.loop { rec .ready none with state:=.busy })):=sx.putObj _ _ _ _ _ hl rfl hlow
   refine wpIn_mono (hbody _ dK x _ (hIp _ _ _ _ _ hi (by omega) hl rfl) hlen) ?_
   have fin:∀(jump:Option Code) (W3:World),KeepsOthers (W.putObj (w.heap.size+1) (.loop { rec .ready none with state:=.busy })) W3 →
     (Instr.endRound (w.heap.size+1) jump).run P W3 = .ok (.bool jump.isNone) (W3.putObj (w.heap.size+1) (.loop (rec (if jump.isNone then .ready else .done) jump))) ∧
     W3.heap[w.heap.size+1]? = some (.loop { rec .ready none with state:=.busy }) ∧
     (W3.putObj (w.heap.size+1) (.loop (rec (if jump.isNone then .ready else .done) jump))).heap[w.heap.size+1]? = some (.loop (rec (if jump.isNone then .ready else .done) jump)) ∧
     (W3.putObj (w.heap.size+1) (.loop (rec (if jump.isNone then .ready else .done) jump))).heap[w.heap.size]? = some (.deferred (some [])):=fun jump W3 hk3=>by
    have hl3:=hk3.same _ _ hl2 rfl
    have:=run_endRound (P:=P) jump hl3
    rw [hrec] at this ⊢
    exact ⟨this,by rw [hrec] at hl3;exact hl3,World.putObj_heap_same (f9.1 hl3).1,(World.putObj_heap_other (by omega)).trans (hk3.same _ _ hk2 rfl)⟩
   rintro e a3 W3 hp
   cases e with
   | normal =>
    obtain ⟨hk3,hkp3,hi3⟩:=hp
    obtain ⟨hr,hl3,hl4,hk4⟩:=fin none W3 hk3
    exact ⟨_,_,hr,.inl ⟨rfl,⟨hIp _ _ _ _ _ hi3 (by omega) hl3 rfl,hl4,hk4⟩,((hw2.trans hkp3).trans (sx.putObj _ _ _ _ _ hl3 rfl hlow)).mono (by omega)⟩⟩
   | ret =>
    obtain ⟨hk3,hi3⟩:=hp
    obtain ⟨hr,hl3,hl4,hk4⟩:=fin (some .ret) W3 hk3
    exact ⟨_,_,hr,.inr ⟨rfl,.ret,hIxp _ _ _ _ _ _ hi3 (by omega) hl3 rfl,hl4,hk4⟩⟩
   | exit id =>
    obtain ⟨hk3,hi3⟩:=hp
    obtain ⟨hr,hl3,hl4,hk4⟩:=fin (some (.exit id)) W3 hk3
    exact ⟨_,_,hr,.inr ⟨rfl,.exit id,hIxp _ _ _ _ _ _ hi3 (by omega) hl3 rfl,hl4,hk4⟩⟩
   | goto t =>
    obtain ⟨hk3,hi3⟩:=hp
    obtain ⟨hr,hl3,hl4,hk4⟩:=fin (some (.goto t)) W3 hk3
    exact ⟨_,_,hr,.inr ⟨rfl,.goto t,hIxp _ _ _ _ _ _ hi3 (by omega) hl3 rfl,hl4,hk4⟩⟩
   | panic ch=>exact hp.elim
   | outgrown=>exact hp.elim
  ·
   rintro e W2 ⟨⟨v,rfl⟩,(⟨hi,hl,hk⟩ | ⟨dK,hSp,c,hi,hl,hk⟩)⟩
   ·exact ⟨none,_,by have:=run_endLoop (P:=P) hl (by rw [hrec];simp);rw [hrec] at this;exact this,hdone _ _ (aO _) (hIp _ _ _ _ _ hi (by omega) hl rfl) ((World.putObj_heap_other (by omega)).trans hk)⟩
   ·exact ⟨some c,_,by have:=run_endLoop (P:=P) hl (by rw [hrec];simp);rw [hrec] at this;exact this,hstop _ c dK _ (aO _) hSp (hIxp _ _ _ _ _ _ hi (by omega) hl rfl) ((World.putObj_heap_other (by omega)).trans hk)⟩
end
theorem aC.flag {c:jY} {bl:Nat→Option Nat} {s:St} {a:Act} {w:World} (hs:aC c bl (get s.env) (ae s.heap) a w) {i:Nat} {t:TypeId} {st:Nat} {rs:List (List AV)} {q:Bool} (q':Bool) (hi:ae s.heap i=some ⟨t,st,rs,q⟩) (h0:q'=true→rs≠[])
  (hr:q'=false→∀r∈rs,∀x∈r,fH x=true∧gI x=false) :
  aC c bl (get s.env) (ae ((i,⟨t,st,rs,q'⟩) :: s.heap)) a w∧aZ bl c.MF (ae ((i,⟨t,st,rs,q'⟩) :: s.heap))=aZ bl c.MF (ae s.heap):=by
 have hm:aZ bl c.MF (ae ((i,⟨t,st,rs,q'⟩) :: s.heap))=aZ bl c.MF (ae s.heap):=by
  funext b
  refine propext (aZ.congr (fun j=>?_) b)
  simp only [ae]
  split
  ·rename_i h;subst h;rw [hi];rfl
  ·rfl
 refine ⟨⟨hs.defers,hs.size,by rw [hm];exact hs.env,⟨fun j o hj=>?_,fun j j' o o' b h1 h2=>?_⟩,hs.step,fun j o b h1=>?_,hs.stab,hs.mf⟩,hm⟩
 ·rw [hm]
  simp only [ae] at hj
  split at hj
  ·rename_i hij
   subst hij
   cases hj
   rcases hs.heap.1 _ _ hi with ⟨h1,h2,h3⟩ | ⟨b,g1,⟨gk,c1,fr,g2,g3,g4,g5,g6,g7⟩ | hsp⟩
   ·cases q' with
    | true=>exact absurd h1 (h0 rfl)
    | false=>exact .inl ⟨h1,rfl,h3⟩
   ·refine .inr ⟨b,g1,.inl ⟨rfl,c1,fr,g2,g3,g4,g5,g6,fun k p u x hu hx=>?_⟩⟩
    obtain ⟨v,hv1,hv2⟩:=g7 k p u x hu hx
    refine ⟨v,hv1,?_⟩
    cases q<;>cases q'
    ·exact hv2
    ·exact IRel.toC hv2
    ·obtain ⟨z1,z2⟩:=hr rfl u (gM hu) x (gM hx)
     exact xi hv2 z1 z2
    ·exact hv2
   ·exact absurd hsp.rel (fun h=>h)
  ·exact hs.heap.1 j o hj
 ·have key:∀{j:Nat} {o:ah},ae ((i,⟨t,st,rs,q'⟩) :: s.heap) j=some o→∃o',ae s.heap j=some o':=fun {j o} hj=>by
   simp only [ae] at hj
   split at hj
   ·rename_i hij;subst hij;exact ⟨_,hi⟩
   ·exact ⟨_,hj⟩
  obtain ⟨p1,q1⟩:=key h1
  obtain ⟨p2,q2⟩:=key h2
  exact hs.heap.2 j j' p1 p2 b q1 q2
 ·simp only [ae] at h1
  split at h1
  ·rename_i hij;subst hij;exact hs.own i _ b hi
  ·exact hs.own j o b h1
theorem Wk.flag (s:St) (i:Nat) {t:TypeId} {st:Nat} {rs:List (List AV)} {q:Bool} (q':Bool) (hi:ae s.heap i=some ⟨t,st,rs,q⟩) (h0:q'=true→rs≠[]) (hr:q'=false→∀r∈rs,∀x∈r,fH x=true∧gI x=false) :
  Wk s ⟨s.env,(i,⟨t,st,rs,q'⟩) :: s.heap⟩:=fun c a w ⟨bl,h1⟩=>⟨bl,(aC.flag h1 q' hi h0 hr).1⟩
theorem dC.flag (s:St) (l:List AV) (i:Nat) {t:TypeId} {st:Nat} {rs:List (List AV)} {q:Bool} (q':Bool) (hi:ae s.heap i=some ⟨t,st,rs,q⟩) (h0:q'=true→rs≠[]) (hr:q'=false→∀r∈rs,∀x∈r,fH x=true∧gI x=false) :
  dC s l ⟨s.env,(i,⟨t,st,rs,q'⟩) :: s.heap⟩ l:=fun c a w bl vs h1 h2=>by
 obtain ⟨h3,hm⟩:=aC.flag h1 q' hi h0 hr
 exact ⟨bl,h3,by rw [hm];exact h2⟩
def iN {α:Type} (g:Nat→α→α) (l:List α) (j:Nat):List α:=(l.take j).mapIdx g++l.drop j
theorem sP {α:Type} {g:Nat→α→α} {l:List α} {j:Nat} (h:j≤l.length) (i:Nat):(iN g l j)[i]? = if i<j then l[i]?.map (g i) else l[i]?:=by
 unfold iN
 by_cases q:i<j
 ·rw [av q,List.getElem?_append_left (by simp;omega),List.getElem?_mapIdx,List.getElem?_take,av q]
 ·rw [ar q,List.getElem?_append_right (by simp;omega),List.getElem?_drop]
  congr 1
  simp;omega
theorem iO {α:Type} {g:Nat→α→α} {l:List α} {j:Nat}:(iN g l j).length=l.length:=by
 simp [iN];omega
theorem yY {α:Type} {g:Nat→α→α} {l:List α}:iN g l 0=l:=by simp [iN]
theorem oa {α:Type} {g:Nat→α→α} {l:List α} {j:Nat} (h:j=l.length):iN g l j=l.mapIdx g:=by subst h;simp [iN]
theorem kY {α:Type} [Inhabited α] {g:Nat→α→α} {l:List α} {j:Nat} (h:j<l.length):au (iN g l j) j=au l j:=by
 refine UK ?_
 rw [sP (by omega),ar (by omega)]
 exact di h
theorem kZ {α:Type} [Inhabited α] {g:Nat→α→α} {l:List α} {j:Nat} (h:j<l.length):(iN g l j).set j (g j (au l j))=iN g l (j+1):=by
 refine List.ext_getElem? fun i=>?_
 rw [List.getElem?_set,iO,sP (by omega),sP (by omega)]
 by_cases q:j=i
 ·subst q
  rw [av rfl,av h,av (by omega),di h];rfl
 ·rw [ar q]
  by_cases q2:i<j
  ·rw [av q2,av (by omega)]
  ·rw [ar q2,ar (by omega)]
theorem Ga {α:Type} [Inhabited α] {g:Nat→α→α} {l:List α} {j:Nat} (h:j<l.length) (hg:g j (au l j)=au l j):iN g l j=iN g l (j+1):=by
 rw [← kZ h,hg,← kY (g:=g) h]
 refine List.ext_getElem? fun i=>?_
 rw [List.getElem?_set]
 by_cases q:j=i
 ·subst q
  rw [av rfl,av (by rw [iO];exact h)]
  exact di (by rw [iO];exact h)
 ·rw [ar q]
theorem DS {α:Type} [Inhabited α] (id n st row off:Nat) (t:TypeId) (f:α→List AV) (l:List α) (cs:List AV) (v:α) (b:Bool) (h:row<l.length) (hn:cs.length=n) (ho:off+n≤(f (au l row)).length) (hi:(b||cs.all fH)=true) (e:dP (f (au l row)) off cs=f v) :
  sO id n st row off (some ⟨t,st,l.map f,b⟩) (some cs)=some (.put id ⟨t,st,(l.set row v).map f,b⟩):=by
 have hr:(l.map f)[row]? = some (f (au l row)):=by rw [db,di h];rfl
 simp only [sO,hr]
 rw [av ⟨trivial,hn,hi⟩,av ho,e,List.map_set]
end Go.Mw