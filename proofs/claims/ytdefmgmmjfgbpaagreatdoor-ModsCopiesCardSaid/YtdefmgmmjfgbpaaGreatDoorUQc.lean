import Derived.Test.YtdefmgmmjfgbpaaGreatDoorUQb
import Derived.ProofKit
import Derived.OpenShut
import Derived.JoinedCond
import Derived.RangeFuncFrom
import Derived.RangeFuncLeaves
import Derived.RangeFuncCalls
set_option linter.all false
namespace Go.Mw
def aj {α:Type} [Inhabited α] (l:List α) (i:Nat):α:=l[i]!
theorem cw {α:Type} [Inhabited α] {l:List α} {i:Nat} (h:i<l.length):aj l i=l[i]:=getElem!_pos l i h
theorem dj {α:Type} [Inhabited α] {l:List α} {i:Nat} (h:i<l.length):l[i]? = some (aj l i):=by rw [cw h];exact eJ h
theorem wl {α β:Type} [Inhabited α] [Inhabited β] {l:List α} {f:α→β} {i:Nat} (h:i<l.length):aj (l.map f) i=f (aj l i):=by
 rw [cw h,cw (by simpa using h),List.getElem_map]
theorem DH {α:Type} [Inhabited α] {l:List α} {i k:Nat}:aj (l.drop k) i=aj l (k+i):=by
 unfold aj
 rw [List.getElem!_eq_getElem?_getD,List.getElem!_eq_getElem?_getD,List.getElem?_drop]
section
variable {P:Program} [aS P]
def HA (P:Program) [aS P] (y:aK) (K:IX→St→Prop) (e:IX) (s:St):Prop :=
 match e with
 | .nrm=>fN P y s K
 | e=>K e s
def Hm (P:Program) [aS P] (y:aK) (K:IX→St→Prop) (e:IX) (s:St):Prop :=
 match e with
 | .nrm=>∃s',Wk s s'∧fN P y s' K
 | e=>K e s
def Hl (id:Nat) (K:IX→St→Prop) (e:IX) (s:St):Prop :=
 match e with
 | .ext j=>if j=id then K .nrm s else K (.ext j) s
 | e=>K e s
def CX (dr:List Nat) (K:IX→St→Prop) (s:St):Prop:=K .nrm ⟨dels dr s.env,s.heap⟩
def Hz (P:Program) [aS P] (r:List aD) (K:St→Prop) (s:St):Prop:=eT P r s K
def v8 (P:Program) [aS P] (al:List (Nat×Nat)) (i:Nat) (r:List av) (K:St→Prop) (hist:List HI) (s:St):Prop:=fV P al i r hist s K
def pC (K:St→Prop) (s:St) (d:Option Nat) (v:AV) (e:aM):Prop:=K ((s.eff e).put d v)
def lK (al:List (Nat×Nat)) (i:Nat) (bf:List Nat) (op:fK) (hist:List HI) (K:List HI→St→Prop) (s:St) (d:Option Nat) (v:AV) (e:aM):Prop :=
 cL op s e=true∧dR bf (@HI.mk i (bu op s.env) (ax v++e.ids) e.tch e.isReb e.isPut (lM op)) hist=true∧jm al bf (@HI.mk i (bu op s.env) (ax v++e.ids) e.tch e.isReb e.isPut (lM op))=true ∧
  K ((@HI.mk i (bu op s.env) (ax v++e.ids) e.tch e.isReb e.isPut (lM op)) :: hist) ((s.eff e).put d v)
def bj (K:AV→aM→Prop) (x:Option (AV×aM)):Prop :=
 match x with
 | some (v,e)=>K v e
 | none=>False
def qL (A:Prop) (K:AV→aM→Prop) (x:Option (AV×aM)):Prop :=
 match x with
 | some (v,e)=>K v e
 | none=>A
def ER (x:AV) (a b:Prop):Prop :=
 match x with
 | .bool t=>(t=true→a)∧(t=false→b)
 | _=>False
def pJ (x:AV) (a b c:Prop):Prop :=
 match x with
 | .bool t=>(t=true→a)∧(t=false→b)
 | .tup []=>c
 | _=>False
theorem Ma (y:aK) (K:IX→St→Prop) (s:St):HA P y K .nrm s=fN P y s K:=aN rfl
theorem Mb (y:aK) (K:IX→St→Prop) (s:St):HA P y K .ret s=K .ret s:=aN rfl
theorem Mc (y:aK) (K:IX→St→Prop) (j:Nat) (s:St):HA P y K (.ext j) s=K (.ext j) s:=aN rfl
theorem LX (y:aK) (K:IX→St→Prop) (s:St):Hm P y K .ret s=K .ret s:=aN rfl
theorem LY (y:aK) (K:IX→St→Prop) (j:Nat) (s:St):Hm P y K (.ext j) s=K (.ext j) s:=aN rfl
theorem lJ {y:aK} {K:IX→St→Prop} {s:St} (s':St) (h:Wk s s') (hi:fN P y s' K):Hm P y K .nrm s:=⟨s',h,hi⟩
theorem LN (id:Nat) (K:IX→St→Prop) (s:St):Hl id K .nrm s=K .nrm s:=aN rfl
theorem LO (id:Nat) (K:IX→St→Prop) (s:St):Hl id K .ret s=K .ret s:=aN rfl
theorem LP (id j:Nat) (K:IX→St→Prop) (s:St):Hl id K (.ext j) s=if j=id then K .nrm s else K (.ext j) s:=aN rfl
theorem L_ (dr:List Nat) (K:IX→St→Prop) (s:St):CX dr K s=K .nrm ⟨dels dr s.env,s.heap⟩:=aN rfl
theorem L9 (r:List aD) (K:St→Prop) (s:St):Hz P r K s=eT P r s K:=aN rfl
theorem Hn (al:List (Nat×Nat)) (i:Nat) (r:List av) (K:St→Prop) (hist:List HI) (s:St):v8 P al i r K hist s=fV P al i r hist s K:=aN rfl
theorem PM (K:St→Prop) (s:St) (d:Option Nat) (v:AV) (e:aM):pC K s d v e=K ((s.eff e).put d v):=aN rfl
theorem LZ (al:List (Nat×Nat)) (i:Nat) (bf:List Nat) (op:fK) (hist:List HI) (K:List HI→St→Prop) (s:St) (d:Option Nat) (v:AV) (e:aM):lK al i bf op hist K s d v e =
 (cL op s e=true∧dR bf (@HI.mk i (bu op s.env) (ax v++e.ids) e.tch e.isReb e.isPut (lM op)) hist=true∧jm al bf (@HI.mk i (bu op s.env) (ax v++e.ids) e.tch e.isReb e.isPut (lM op))=true ∧
  K ((@HI.mk i (bu op s.env) (ax v++e.ids) e.tch e.isReb e.isPut (lM op)) :: hist) ((s.eff e).put d v)):=rfl
theorem vg (K:AV→aM→Prop) (v:AV) (e:aM):bj K (some (v,e))=K v e:=aN rfl
theorem vi (A:Prop) (K:AV→aM→Prop) (v:AV) (e:aM):qL A K (some (v,e))=K v e:=aN rfl
theorem vh (A:Prop) (K:AV→aM→Prop):qL A K none=A:=aN rfl
theorem yV (A:Prop) (K:AV→aM→Prop) (c:Prop) [Decidable c] (x:Option (AV×aM)):qL A K (if c then x else none)=((c→qL A K x)∧(¬c→A)):=by
 by_cases h:c<;>simp [h,qL]
theorem yU (K:AV→aM→Prop) (c:Prop) [Decidable c] (x:Option (AV×aM)):bj K (if c then x else none)=(c∧bj K x):=by
 by_cases h:c<;>simp [h,bj]
theorem ve (K:AV→aM→Prop) (c:Prop) [Decidable c] (x:Option (AV×aM)):bj K (if c then none else x)=(¬c∧bj K x):=by
 by_cases h:c<;>simp [h,bj]
theorem Rb (v:AV):res (some v)=some (v,.no):=rfl
theorem Nk (c:Prop) [Decidable c] (x:Option AV):res (if c then x else none)=if c then res x else none:=by split<;>rfl
theorem IA (c:Prop) [Decidable c] (x:Option AV):res (if c then none else x)=if c then none else res x:=by split<;>rfl
theorem EH (t:Bool) (a b:Prop):ER (.bool t) a b=((t=true→a)∧(t=false→b)):=aN rfl
@[congr] theorem N0 {x x':AV} {a b:Prop} (h:x=x'):ER x a b=ER x' a b:=by rw [h]
theorem JG (a b:Prop):ER (.bool true) a b=a:=by simp [ER]
theorem BL (t:Bool) (a b c:Prop):pJ (.bool t) a b c=((t=true→a)∧(t=false→b)):=rfl
@[congr] theorem NS {x x':AV} {a b c:Prop} (h:x=x'):pJ x a b c=pJ x' a b c:=by rw [h]
theorem PA (a b c:Prop):pJ (.bool true) a b c=a:=by simp [pJ]
theorem Pz (a b c:Prop):pJ (.bool false) a b c=b:=by simp [pJ]
theorem PB (a b c:Prop):pJ (.tup []) a b c=c:=by simp [pJ]
theorem LB (a b c:Prop):pJ (.bool true) a b c=a:=by simp [pJ]
theorem LA (a b c:Prop):pJ (.bool false) a b c=b:=by simp [pJ]
theorem LC (a b c:Prop):pJ (.tup []) a b c=c:=by simp [pJ]
theorem ND (a b:Prop):ER (.bool true) a b=a:=JG a b
theorem JF (a b:Prop):ER (.bool false) a b=b:=by simp [ER]
theorem CQ (s:St) (K:IX→St→Prop):fN P .skip s K=K .nrm s:=aN rfl
theorem Hd (s:St) (K:IX→St→Prop):fN P .ret s K=K .ret s:=aN rfl
theorem CO (id:Nat) (s:St) (K:IX→St→Prop):fN P (.exit id) s K=K (.ext id) s:=aN rfl
theorem He (x y:aK) (s:St) (K:IX→St→Prop):fN P (.seq x y) s K=fN P x s (HA P y K):=aN rfl
theorem v7 (x y:aK) (s:St) (K:IX→St→Prop):fN P (.cut x y) s K=fN P x s (Hm P y K):=aN rfl
theorem yf (id:Nat) (x:aK) (s:St) (K:IX→St→Prop):fN P (.block id x) s K=fN P x s (Hl id K):=aN rfl
theorem CJ (v:IV) (t e:aK) (s:St) (K:IX→St→Prop):fN P (.cond v t e) s K=ER (val (get s.env) v) (fN P t (refine v true s) K) (fN P e (refine v false s) K):=aN rfl
theorem Hc (ops:List aD) (dr:List Nat) (s:St) (K:IX→St→Prop):fN P (.reg ops dr) s K=eT P ops s (CX dr K):=aN rfl
def v_ (P:Program) [aS P] (f:Nat) (R:List (Nat×av)) (K:St→Prop) (s:St):Prop:=iR P f R s K
theorem Hw (f:Nat) (R:List (Nat×av)) (K:St→Prop) (s:St):v_ P f R K s=iR P f R s K:=aN rfl
def vR (P:Program) [aS P] (f:Nat) (R:List (Nat×av)) (s:St) (K:St→Prop) (t:Nat×av):Prop:=eT P [t.2.o] s (v_ P f (R.filter fun q=>q.1 != t.1) K)
theorem Gp (f:Nat) (R:List (Nat×av)) (s:St) (K:St→Prop) (i:Nat) (o:aD) (b:List Nat):vR P f R s K (i,⟨o,b⟩)=eT P [o] s (v_ P f (R.filter fun q=>q.1 != i) K):=aN rfl
theorem Gx (R:List (Nat×av)) (s:St) (K:St→Prop):iR P 0 R s K=K s:=aN rfl
theorem Gz (f:Nat) (R:List (Nat×av)) (s:St) (K:St→Prop):iR P (f+1) R s K=jQ (Q_ R) (vR P f R s K):=aN rfl
theorem F4 {α:Type} (x:α) (F:α→Prop):jQ [x] F=F x:=aN rfl
theorem F5 {α:Type} (x y:α) (r:List α) (F:α→Prop):jQ (x :: y :: r) F=(F x∧jQ (y :: r) F):=aN rfl
theorem CP (ops:List av) (al:List (Nat×Nat)) (dr:List Nat) (s:St) (K:IX→St→Prop):fN P (.free ops al dr) s K=iR P ops.length (ops.zipIdx.map fun p=>(p.2,p.1)) s (CX dr K):=aN rfl
theorem CN (ops:List av) (al:List (Nat×Nat)) (dr:List Nat) (s:St) (K:IX→St→Prop):fN P (.draw ops al dr) s K=fV P al 0 ops [] (kills (al.map (·.1)) s) (CX dr K):=aN rfl
theorem CG (s:St) (K:St→Prop):eT P [] s K=K s:=aN rfl
theorem ye (d:Option Nat) (op:fK) (r:List aD) (s:St) (K:St→Prop):eT P (⟨d,op,none⟩ :: r) s K=fq P ⟨d,op,none⟩ s (Hz P r K):=aN rfl
theorem rp (d:Option Nat) (op:fK) (k:Nat) (r:List aD) (s:St) (K:St→Prop):eT P (⟨d,op,some (k,true)⟩ :: r) s K =
  pJ (get s.env k) (fq P ⟨d,op,none⟩ (s.put (some k) (.bool true)) (Hz P r K)) (eT P r ((s.put (some k) (.bool false)).put d (.tup [])) K) (eT P r (s.put d (.tup [])) K):=aN rfl
theorem ro (d:Option Nat) (op:fK) (k:Nat) (r:List aD) (s:St) (K:St→Prop):eT P (⟨d,op,some (k,false)⟩ :: r) s K =
  pJ (get s.env k) (eT P r ((s.put (some k) (.bool true)).put d (.tup [])) K) (fq P ⟨d,op,none⟩ (s.put (some k) (.bool false)) (Hz P r K)) (eT P r (s.put d (.tup [])) K):=by
 simp only [eT,pJ]
 generalize get s.env k=x
 cases x with
 | bool t=>exact propext ⟨fun h=>⟨h.2,h.1⟩,fun h=>⟨h.2,h.1⟩⟩
 | tup l=>cases l<;>rfl
 | _=>rfl
theorem x9 (al:List (Nat×Nat)) (i:Nat) (hist:List HI) (s:St) (K:St→Prop):fV P al i [] hist s K=K s:=aN rfl
theorem uO (al:List (Nat×Nat)) (i:Nat) (d:Option Nat) (op:fK) (bf:List Nat) (r:List av) (hist:List HI) (s:St) (K:St→Prop) :
  fV P al i (⟨⟨d,op,none⟩,bf⟩ :: r) hist s K=bX P al i ⟨⟨d,op,none⟩,bf⟩ hist s (v8 P al (i+1) r K):=aN rfl
theorem pL (al:List (Nat×Nat)) (i:Nat) (d:Option Nat) (op:fK) (k:Nat) (bf:List Nat) (r:List av) (hist:List HI) (s:St) (K:St→Prop) :
  fV P al i (⟨⟨d,op,some (k,true)⟩,bf⟩ :: r) hist s K=pJ (get s.env k) (bX P al i ⟨⟨d,op,none⟩,bf⟩ hist (s.put (some k) (.bool true)) (v8 P al (i+1) r K))
   (fV P al (i+1) r (⟨i,[],[],[],false,false⟩ :: hist) ((s.put (some k) (.bool false)).put d (.tup [])) K) (fV P al (i+1) r (⟨i,[],[],[],false,false⟩ :: hist) (s.put d (.tup [])) K):=aN rfl
theorem pK (al:List (Nat×Nat)) (i:Nat) (d:Option Nat) (op:fK) (k:Nat) (bf:List Nat) (r:List av) (hist:List HI) (s:St) (K:St→Prop) :
  fV P al i (⟨⟨d,op,some (k,false)⟩,bf⟩ :: r) hist s K=pJ (get s.env k) (fV P al (i+1) r (⟨i,[],[],[],false,false⟩ :: hist) ((s.put (some k) (.bool true)).put d (.tup [])) K)
   (bX P al i ⟨⟨d,op,none⟩,bf⟩ hist (s.put (some k) (.bool false)) (v8 P al (i+1) r K)) (fV P al (i+1) r (⟨i,[],[],[],false,false⟩ :: hist) (s.put d (.tup [])) K):=by
 simp only [fV,di,pJ]
 generalize get s.env k=x
 cases x with
 | bool t=>exact propext ⟨fun h=>⟨h.2,h.1⟩,fun h=>⟨h.2,h.1⟩⟩
 | tup l=>cases l<;>rfl
 | _=>rfl
def Jf (P:Program) [aS P] (f:AV) (args:List AV) (d:Option Nat) (s:St) (K:St→Prop):Prop :=
 match f with
 | .fn f caps=>if f<4000000 then aY P f=true∧dB P f (args++caps) d s K else aY P (f - 4000000)=true∧dB P (f - 4000000) (caps.take 1++args++caps.drop 1) d s K
 | _=>False
theorem Bz (f:FuncId) (caps args:List AV) (d:Option Nat) (s:St) (K:St→Prop):Jf P (.fn f caps) args d s K=if f<4000000 then aY P f=true∧dB P f (args++caps) d s K else aY P (f - 4000000)=true∧dB P (f - 4000000) (caps.take 1++args++caps.drop 1) d s K:=aN rfl
def uJ (P:Program) [aS P] (al:List (Nat×Nat)) (f:FuncId) (args:List AV) (i:Nat) (bf:List Nat) (op:fK) (d:Option Nat) (hist:List HI) (s:St) (K:List HI→St→Prop):Prop :=
 (∃args' r b,ak P f args' r∧(∀x∈args',ax x=[])∧aC (EP b (ab s.heap)) args args'∧(b=true→ii r=true)∧ax r=[] ∧
   cL op s .no=true∧dR bf ⟨i,bu op s.env,[],[],false,false⟩ hist=true∧K (⟨i,bu op s.env,[],[],false,false⟩ :: hist) (s.put d r)) ∨
 (∃k ob ob' Sb r,aE P f args [(k,ob)] Sb (fun r' σ'=>r'=r∧σ'=[(k,ob')])∧Sb k∧ab s.heap k=some ob∧ax r=[]∧bo ob'=[]∧k∈bu op s.env ∧
   cL op s (.put k ob')=true∧dR bf ⟨i,bu op s.env,[],[k],false,true⟩ hist=true∧K (⟨i,bu op s.env,[],[k],false,true⟩ :: hist) ((s.eff (.put k ob')).put d r)) ∨
 ∃j ob st off len Sb,d=some j∧ob.isRec=false∧aE P f args [] Sb (fun r' σ'=>r' = .ms j st off len∧σ'=[(j,ob)]) ∧
   cL op s .no=true∧dR bf ⟨i,bu op s.env,[j],[j],false,false⟩ hist=true∧jm al bf ⟨i,bu op s.env,[j],[j],false,false⟩=true∧K (⟨i,bu op s.env,[j],[j],false,false⟩ :: hist) ((s.eff (.new j ob)).put d (.ms j st off len))
theorem xS (al:List (Nat×Nat)) (i:Nat) (d:Option Nat) (f:FuncId) (args:List IV) (g:Option (Nat×Bool)) (bf:List Nat) (hist:List HI) (s:St) (K:List HI→St→Prop) :
  bX P al i ⟨⟨d,.call f args,g⟩,bf⟩ hist s K=uJ P al f (args.map (val (get s.env))) i bf (.call f args) d hist s K:=aN rfl
theorem Id (A B:Prop):jU true A B=A:=aN rfl
theorem Ic (A B:Prop):jU false A B=B:=aN rfl
@[congr] theorem Jz {b b':Bool} {A B:Prop} (h:b=b'):jU b A B=jU b' A B:=by rw [h]
theorem Is (h:Nat→Option ac) (id st off len:Nat):lT h (.ms id st off len)=Ir (h id):=rfl
theorem It (h:Nat→Option ac):lT h .nl=false:=rfl
theorem Iu (h:Nat→Option ac) (st:Nat) (rows:List (List AV)):lT h (.sl st rows)=false:=rfl
theorem yM (t:TypeId) (st:Nat) (rows:List (List AV)) (r:Bool) [k:Kd]:Ir (some (@ac.mk t st rows r k))=r:=rfl
def Eh (n st' off len:Nat) (x:Option ac):Option (List (List AV)):=match x with | some o=>if st'=n∧o.st=n∧off+len≤o.rows.length then some ((o.rows.drop off).take len) else none | none=>none
theorem Eg (h:Nat→Option ac) (n id st off len:Nat):iV n h (.ms id st off len)=Eh n st off len (h id):=aN rfl
theorem tB (n st off len:Nat) (t:TypeId) (st':Nat) (rows:List (List AV)) (r:Bool) [k:Kd]:Eh n st off len (some (@ac.mk t st' rows r k))=if st=n∧st'=n∧off+len≤rows.length then some ((rows.drop off).take len) else none:=aN rfl
theorem dG (d:Nat) (t:TypeId) (st:Nat) (rows:List (List AV)) (ps:List (Nat×IV)) (g:Option (Nat×Bool)) (s:St) (K:St→Prop):ta ⟨some d,.bsl t st rows ps,g⟩ s K=bj (pC K (s.kill d) (some d)) (ba d (.bsl t st rows ps) (val (get (s.kill d).env)) (ab (s.kill d).heap)):=aN rfl
theorem GD (d:Nat) (t:TypeId) (st:Nat) (x y:IV) (g:Option (Nat×Bool)) (s:St) (K:St→Prop):fq P ⟨some d,.app t st x y,g⟩ s K=(d<1000∧jU (lT (ab s.heap) (val (get s.env) x)) (bj (pC K (s.kill d) (some d)) (jN d t st (val (get (s.kill d).env) x) (iV st (ab (s.kill d).heap) (val (get (s.kill d).env) y)) (ab (s.kill d).heap)))
  (jU (lT (ab s.heap) (val (get s.env) y)) (bj (pC K (s.kill d) (some d)) (jN d t st (val (get (s.kill d).env) x) (iV st (ab (s.kill d).heap) (val (get (s.kill d).env) y)) (ab (s.kill d).heap))) (bj (pC K (s.kill d) (some d)) (ba d (.app t st x y) (val (get (s.kill d).env)) (ab (s.kill d).heap))))):=aN rfl
theorem BN (al:List (Nat×Nat)) (i d:Nat) (t:TypeId) (st k:Nat) (y:IV) (g:Option (Nat×Bool)) (bf:List Nat) (hist:List HI) (s:St) (K:List HI→St→Prop):bX P al i ⟨⟨some d,.app t st (.s k) y,g⟩,bf⟩ hist s K=bj (lK al i bf (.app t st (.s k) y) hist K s (some d)) (ba d (.app t st (.s k) y) (val (get s.env)) (ab s.heap)):=by
 refine propext ⟨fun h=>?_,fun h=>.inl h⟩
 rcases h with h | ⟨rows,h,_⟩
 ·exact h
 ·cases h
def RI (K:St→Prop) (s:St) (d:Option Nat) (n:Nat) (o:fK):Prop:=bj (pC K s d) (ba n o (val (get s.env)) (ab s.heap))
theorem RW (K:St→Prop) (s:St) (d:Option Nat) (n:Nat) (o:fK):RI K s d n o=bj (pC K s d) (ba n o (val (get s.env)) (ab s.heap)):=aN rfl
def RD (al:List (Nat×Nat)) (i:Nat) (bf:List Nat) (hist:List HI) (K:List HI→St→Prop) (s:St) (d:Option Nat) (n:Nat) (o:fK):Prop:=bj (lK al i bf o hist K s d) (ba n o (val (get s.env)) (ab s.heap))
theorem RV (al:List (Nat×Nat)) (i:Nat) (bf:List Nat) (hist:List HI) (K:List HI→St→Prop) (s:St) (d:Option Nat) (n:Nat) (o:fK):RD al i bf hist K s d n o=bj (lK al i bf o hist K s d) (ba n o (val (get s.env)) (ab s.heap)):=aN rfl
attribute [go_sem] RW RV
section
variable (g:Option (Nat×Bool)) (s:St) (K:St→Prop)
theorem Cv (d:Option Nat) (f:FuncId) (args:List IV):fq P ⟨d,.call f args,g⟩ s K=dB P f (args.map (val (get s.env))) d s K:=aN rfl
theorem yb (d:Option Nat) (f:IV) (args:List IV):fq P ⟨d,.callv f args,g⟩ s K=Jf P (val (get s.env) f) (args.map (val (get s.env))) d s K:=aN rfl
theorem GY (d:Option Nat) (x:IV):fq P ⟨d,.mov x,g⟩ s K=RI K s d 0 (.mov x):=aN rfl
theorem CB (d:Option Nat) (c a b:IV):fq P ⟨d,.pick c a b,g⟩ s K=RI K s d 0 (.pick c a b):=aN rfl
theorem ya (d:Option Nat) (cs:List AV) (ps:List (Nat×Nat×IV)):fq P ⟨d,.build cs ps,g⟩ s K=RI K s d 0 (.build cs ps):=aN rfl
theorem Cy (d:Option Nat) (n:Option Nat) (p:IV):fq P ⟨d,.load n p,g⟩ s K=RI K s d 0 (.load n p):=aN rfl
theorem yd (d:Option Nat) (n:Nat) (p x:IV):fq P ⟨d,.store n p x,g⟩ s K=RI K s d 0 (.store n p x):=aN rfl
theorem Cw (d:Option Nat) (o:Nat) (p:IV):fq P ⟨d,.fadr o p,g⟩ s K=RI K s d 0 (.fadr o p):=aN rfl
theorem GP (d:Option Nat) (o:Nat) (n:Option Nat) (x:IV):fq P ⟨d,.fld o n x,g⟩ s K=RI K s d 0 (.fld o n x):=aN rfl
theorem Cx (d:Option Nat) (st:Nat) (x q:IV):fq P ⟨d,.iadr st x q,g⟩ s K=RI K s d 0 (.iadr st x q):=aN rfl
theorem Cr (d:Option Nat) (st n:Nat) (x q:IV):fq P ⟨d,.aadr st n x q,g⟩ s K=RI K s d 0 (.aadr st n x q):=aN rfl
theorem GX (d:Option Nat) (m:Bool) (x y:IV):fq P ⟨d,.mnx m x y,g⟩ s K=RI K s d 0 (.mnx m x y):=aN rfl
theorem GH (d:Option Nat) (st:Nat) (x y:IV):fq P ⟨d,.cpy st x y,g⟩ s K=RI K s d 0 (.cpy st x y):=aN rfl
theorem G_ (d:Option Nat) (x y:IV):fq P ⟨d,.sib x y,g⟩ s K=RI K s d 0 (.sib x y):=aN rfl
theorem GL (d:Option Nat) (x:IV):fq P ⟨d,.cvm x,g⟩ s K=RI K s d 0 (.cvm x):=aN rfl
theorem Ha (d:Option Nat) (st:Nat) (x:IV) (lo hi mx:Option IV):fq P ⟨d,.slc st x lo hi mx,g⟩ s K=RI K s d 0 (.slc st x lo hi mx):=aN rfl
theorem GQ (d:Option Nat) (x:IV):fq P ⟨d,.len x,g⟩ s K=RI K s d 0 (.len x):=aN rfl
theorem CE (d:Option Nat) (x:IV):fq P ⟨d,.slen x,g⟩ s K=RI K s d 0 (.slen x):=aN rfl
theorem CF (d:Option Nat) (x:IV) (lo hi:Option IV):fq P ⟨d,.sslc x lo hi,g⟩ s K=RI K s d 0 (.sslc x lo hi):=aN rfl
theorem GE (d:Option Nat) (o:BinOp) (x y:IV):fq P ⟨d,.bin o x y,g⟩ s K=RI K s d 0 (.bin o x y):=aN rfl
theorem Ct (d:Option Nat) (o:BinOp) (x y:IV):fq P ⟨d,.bbin o x y,g⟩ s K=RI K s d 0 (.bbin o x y):=aN rfl
theorem CA (d:Option Nat) (o:BinOp) (x y:IV):fq P ⟨d,.pbin o x y,g⟩ s K=RI K s d 0 (.pbin o x y):=aN rfl
theorem CC (d:Option Nat) (o:BinOp) (ls:List LK) (x y:IV):fq P ⟨d,.sbin o ls x y,g⟩ s K=RI K s d 0 (.sbin o ls x y):=aN rfl
theorem LL (d:Option Nat) (o:UnOp) (x:IV):fq P ⟨d,.un o x,g⟩ s K=RI K s d 0 (.un o x):=aN rfl
theorem GK (d:Option Nat) (k:IntKind) (x:IV):fq P ⟨d,.cvi k x,g⟩ s K=RI K s d 0 (.cvi k x):=aN rfl
theorem GM (d:Option Nat) (x:IV):fq P ⟨d,.cvs x,g⟩ s K=RI K s d 0 (.cvs x):=aN rfl
theorem GN (d:Option Nat) (x:IV):fq P ⟨d,.cvt x,g⟩ s K=RI K s d 0 (.cvt x):=aN rfl
theorem GO (d:Option Nat) (x:IV) (q:Nat):fq P ⟨d,.ext x q,g⟩ s K=RI K s d 0 (.ext x q):=aN rfl
theorem Cz (d:Option Nat) (x:IV):fq P ⟨d,.nchk x,g⟩ s K=RI K s d 0 (.nchk x):=aN rfl
theorem GR (d:Option Nat) (f:FuncId) (cs:List IV):fq P ⟨d,.mkf f cs,g⟩ s K=RI K s d 0 (.mkf f cs):=aN rfl
theorem CD (d:Option Nat) (x q:IV):fq P ⟨d,.sidx x q,g⟩ s K=RI K s d 0 (.sidx x q):=aN rfl
theorem G7 (d:Nat) (t:TypeId) (cs:List AV):fq P ⟨some d,.new t cs,g⟩ s K=(d<1000∧bj (pC K (s.kill d) (some d)) (ba d (.new t cs) (val (get (s.kill d).env)) (ab (s.kill d).heap))):=aN rfl
theorem GF (d:Nat) (t:TypeId) (n:Nat) (x:IV):fq P ⟨some d,.box t n x,g⟩ s K=(d<1000∧bj (pC K (s.kill d) (some d)) (ba d (.box t n x) (val (get (s.kill d).env)) (ab (s.kill d).heap))):=aN rfl
theorem GG (d:Nat) (t:TypeId) (st:Nat) (rows:List (List AV)) (ps:List (Nat×IV)):fq P ⟨some d,.bsl t st rows ps,g⟩ s K=(d<1000∧qL (A5 ⟨some d,.bsl t st rows ps,g⟩ s K) (pC K (s.kill d) (some d)) (ui d t st (gY (val (get (s.kill d).env)) st rows ps))):=aN rfl
theorem Cs (d:Nat) (t:TypeId) (x y:IV):fq P ⟨some d,.apps t x y,g⟩ s K=(d<1000∧bj (pC K (s.kill d) (some d)) (ba d (.apps t x y) (val (get (s.kill d).env)) (ab (s.kill d).heap))):=aN rfl
theorem GJ (d:Nat) (t:TypeId) (x:IV):fq P ⟨some d,.cvb t x,g⟩ s K=(d<1000∧bj (pC K (s.kill d) (some d)) (ba d (.cvb t x) (val (get (s.kill d).env)) (ab (s.kill d).heap))):=aN rfl
theorem GT (d:Nat) (t:TypeId) (st:Nat) (z:List AV) (l c:IV):fq P ⟨some d,.mks t st z l c,g⟩ s K=(d<1000∧bj (pC K (s.kill d) (some d)) (ba d (.mks t st z l c) (val (get (s.kill d).env)) (ab (s.kill d).heap))):=aN rfl
end
section
variable (al:List (Nat×Nat)) (i:Nat) (g:Option (Nat×Bool)) (bf:List Nat) (hist:List HI) (s:St) (K:List HI→St→Prop)
theorem B7 (d:Option Nat) (x:IV):bX P al i ⟨⟨d,.mov x,g⟩,bf⟩ hist s K=RD al i bf hist K s d 0 (.mov x):=aN rfl
theorem xY (d:Option Nat) (c a b:IV):bX P al i ⟨⟨d,.pick c a b,g⟩,bf⟩ hist s K=RD al i bf hist K s d 0 (.pick c a b):=aN rfl
theorem uK (d:Option Nat) (cs:List AV) (ps:List (Nat×Nat×IV)):bX P al i ⟨⟨d,.build cs ps,g⟩,bf⟩ hist s K=RD al i bf hist K s d 0 (.build cs ps):=aN rfl
theorem xV (d:Option Nat) (n:Option Nat) (p:IV):bX P al i ⟨⟨d,.load n p,g⟩,bf⟩ hist s K=RD al i bf hist K s d 0 (.load n p):=aN rfl
theorem uL (d:Option Nat) (n:Nat) (p x:IV):bX P al i ⟨⟨d,.store n p x,g⟩,bf⟩ hist s K=RD al i bf hist K s d 0 (.store n p x):=aN rfl
theorem xT (d:Option Nat) (o:Nat) (p:IV):bX P al i ⟨⟨d,.fadr o p,g⟩,bf⟩ hist s K=RD al i bf hist K s d 0 (.fadr o p):=aN rfl
theorem BY (d:Option Nat) (o:Nat) (n:Option Nat) (x:IV):bX P al i ⟨⟨d,.fld o n x,g⟩,bf⟩ hist s K=RD al i bf hist K s d 0 (.fld o n x):=aN rfl
theorem xU (d:Option Nat) (st:Nat) (x q:IV):bX P al i ⟨⟨d,.iadr st x q,g⟩,bf⟩ hist s K=RD al i bf hist K s d 0 (.iadr st x q):=aN rfl
theorem xP (d:Option Nat) (st n:Nat) (x q:IV):bX P al i ⟨⟨d,.aadr st n x q,g⟩,bf⟩ hist s K=RD al i bf hist K s d 0 (.aadr st n x q):=aN rfl
theorem B6 (d:Option Nat) (m:Bool) (x y:IV):bX P al i ⟨⟨d,.mnx m x y,g⟩,bf⟩ hist s K=RD al i bf hist K s d 0 (.mnx m x y):=aN rfl
theorem BR (d:Option Nat) (st:Nat) (x y:IV):bX P al i ⟨⟨d,.cpy st x y,g⟩,bf⟩ hist s K=RD al i bf hist K s d 0 (.cpy st x y):=aN rfl
theorem Cc (d:Option Nat) (x y:IV):bX P al i ⟨⟨d,.sib x y,g⟩,bf⟩ hist s K=RD al i bf hist K s d 0 (.sib x y):=aN rfl
theorem BU (d:Option Nat) (x:IV):bX P al i ⟨⟨d,.cvm x,g⟩,bf⟩ hist s K=RD al i bf hist K s d 0 (.cvm x):=aN rfl
theorem Ce (d:Option Nat) (st:Nat) (x:IV) (lo hi mx:Option IV):bX P al i ⟨⟨d,.slc st x lo hi mx,g⟩,bf⟩ hist s K=RD al i bf hist K s d 0 (.slc st x lo hi mx):=aN rfl
theorem BZ (d:Option Nat) (x:IV):bX P al i ⟨⟨d,.len x,g⟩,bf⟩ hist s K=RD al i bf hist K s d 0 (.len x):=aN rfl
theorem x7 (d:Option Nat) (x:IV):bX P al i ⟨⟨d,.slen x,g⟩,bf⟩ hist s K=RD al i bf hist K s d 0 (.slen x):=aN rfl
theorem x8 (d:Option Nat) (x:IV) (lo hi:Option IV):bX P al i ⟨⟨d,.sslc x lo hi,g⟩,bf⟩ hist s K=RD al i bf hist K s d 0 (.sslc x lo hi):=aN rfl
theorem BO (d:Option Nat) (o:BinOp) (x y:IV):bX P al i ⟨⟨d,.bin o x y,g⟩,bf⟩ hist s K=RD al i bf hist K s d 0 (.bin o x y):=aN rfl
theorem xR (d:Option Nat) (o:BinOp) (x y:IV):bX P al i ⟨⟨d,.bbin o x y,g⟩,bf⟩ hist s K=RD al i bf hist K s d 0 (.bbin o x y):=aN rfl
theorem xX (d:Option Nat) (o:BinOp) (x y:IV):bX P al i ⟨⟨d,.pbin o x y,g⟩,bf⟩ hist s K=RD al i bf hist K s d 0 (.pbin o x y):=aN rfl
theorem xZ (d:Option Nat) (o:BinOp) (ls:List LK) (x y:IV):bX P al i ⟨⟨d,.sbin o ls x y,g⟩,bf⟩ hist s K=RD al i bf hist K s d 0 (.sbin o ls x y):=aN rfl
theorem Gw (d:Option Nat) (o:UnOp) (x:IV):bX P al i ⟨⟨d,.un o x,g⟩,bf⟩ hist s K=RD al i bf hist K s d 0 (.un o x):=aN rfl
theorem BT (d:Option Nat) (k:IntKind) (x:IV):bX P al i ⟨⟨d,.cvi k x,g⟩,bf⟩ hist s K=RD al i bf hist K s d 0 (.cvi k x):=aN rfl
theorem BV (d:Option Nat) (x:IV):bX P al i ⟨⟨d,.cvs x,g⟩,bf⟩ hist s K=RD al i bf hist K s d 0 (.cvs x):=aN rfl
theorem BW (d:Option Nat) (x:IV):bX P al i ⟨⟨d,.cvt x,g⟩,bf⟩ hist s K=RD al i bf hist K s d 0 (.cvt x):=aN rfl
theorem BX (d:Option Nat) (x:IV) (q:Nat):bX P al i ⟨⟨d,.ext x q,g⟩,bf⟩ hist s K=RD al i bf hist K s d 0 (.ext x q):=aN rfl
theorem xW (d:Option Nat) (x:IV):bX P al i ⟨⟨d,.nchk x,g⟩,bf⟩ hist s K=RD al i bf hist K s d 0 (.nchk x):=aN rfl
theorem B0 (d:Option Nat) (f:FuncId) (cs:List IV):bX P al i ⟨⟨d,.mkf f cs,g⟩,bf⟩ hist s K=RD al i bf hist K s d 0 (.mkf f cs):=aN rfl
theorem x6 (d:Option Nat) (x q:IV):bX P al i ⟨⟨d,.sidx x q,g⟩,bf⟩ hist s K=RD al i bf hist K s d 0 (.sidx x q):=aN rfl
theorem B_ (d:Nat) (t:TypeId) (cs:List AV):bX P al i ⟨⟨some d,.new t cs,g⟩,bf⟩ hist s K=RD al i bf hist K s (some d) d (.new t cs):=aN rfl
theorem BP (d:Nat) (t:TypeId) (n:Nat) (x:IV):bX P al i ⟨⟨some d,.box t n x,g⟩,bf⟩ hist s K=RD al i bf hist K s (some d) d (.box t n x):=aN rfl
theorem BQ (d:Nat) (t:TypeId) (st:Nat) (rows:List (List AV)) (ps:List (Nat×IV)):bX P al i ⟨⟨some d,.bsl t st rows ps,g⟩,bf⟩ hist s K=RD al i bf hist K s (some d) d (.bsl t st rows ps):=aN rfl
theorem xQ (d:Nat) (t:TypeId) (x y:IV):bX P al i ⟨⟨some d,.apps t x y,g⟩,bf⟩ hist s K=RD al i bf hist K s (some d) d (.apps t x y):=aN rfl
theorem BS (d:Nat) (t:TypeId) (x:IV):bX P al i ⟨⟨some d,.cvb t x,g⟩,bf⟩ hist s K=RD al i bf hist K s (some d) d (.cvb t x):=aN rfl
theorem B2 (d:Nat) (t:TypeId) (st:Nat) (z:List AV) (l c:IV):bX P al i ⟨⟨some d,.mks t st z l c,g⟩,bf⟩ hist s K=RD al i bf hist K s (some d) d (.mks t st z l c):=aN rfl
end
theorem KD (d:Nat) (x:IV) (ρ:IV→AV) (h:Nat→Option ac):ba d (.mov x) ρ h=some (ρ x,.no):=rfl
def tf (c a b:AV):Option (AV×aM) :=
 match c with
 | .bool true=>some (a,.no)
 | .bool false=>some (b,.no)
 | _=>none
theorem FM (d:Nat) (c a b:IV) (ρ:IV→AV) (h:Nat→Option ac):ba d (.pick c a b) ρ h=tf (ρ c) (ρ a) (ρ b):=rfl
theorem Ib (a b:AV):tf (.bool true) a b=some (a,.no):=rfl
theorem Ia (a b:AV):tf (.bool false) a b=some (b,.no):=rfl
theorem vf (K:AV→aM→Prop) (t:Bool) (a b:AV):bj K (tf (.bool t) a b)=((t=true→K a .no)∧(t=false→K b .no)):=by cases t<;>simp [bj,tf]
theorem KE (d:Nat) (t:TypeId) (cs:List AV) (ρ:IV→AV) (h:Nat→Option ac):ba d (.new t cs) ρ h=some (.mp d cs.length 0 0,.new d ⟨t,cs.length,[cs],true⟩):=aN rfl
def FZ (d:Nat) (t:TypeId) (n:Nat) (x:Option (List AV)):Option (AV×aM) :=
 match x with
 | some cs=>if cs.length=n∧(cs.all fun y=>!(mC d y))=true then some (.mp d n 0 0,.new d ⟨t,n,[cs],true⟩) else none
 | none=>none
theorem xe (d:Nat) (t:TypeId) (n:Nat) (cs:List AV):FZ d t n (some cs)=if cs.length=n∧(cs.all fun y=>!(mC d y))=true then some (.mp d n 0 0,.new d ⟨t,n,[cs],true⟩) else none:=rfl
theorem Kp (d:Nat) (t:TypeId) (n:Nat) (x:IV) (ρ:IV→AV) (h:Nat→Option ac):ba d (.box t n x) ρ h=FZ d t n (dJ (ρ x)):=aN rfl
theorem AS (d:Nat) (cs:List AV) (ps:List (Nat×Nat×IV)) (ρ:IV→AV) (h:Nat→Option ac):ba d (.build cs ps) ρ h=res ((fY ρ cs ps).map .agg):=aN rfl
theorem xf (d:Nat) (t:TypeId) (st:Nat):ui d t st none=none:=rfl
theorem xg (d:Nat) (t:TypeId) (st:Nat) (rs:List (List AV)):ui d t st (some rs)=some (.ms d st 0 rs.length,.new d ⟨t,st,rs,false⟩):=rfl
@[congr] theorem KH {d:Nat} {t:TypeId} {st:Nat} {x x' y:Option (List (List AV))} (h:x=x'):qW d t st x y=qW d t st x' y:=by rw [h]
theorem xi (d:Nat) (t:TypeId) (st:Nat) (rs:List (List AV)) (y:Option (List (List AV))):qW d t st (some rs) y=some (.ms d st 0 rs.length,.new d ⟨t,st,rs,false⟩):=rfl
theorem xh (d:Nat) (t:TypeId) (st:Nat) (y:Option (List (List AV))):qW d t st none y=A6 d t st y:=rfl
theorem xj (d:Nat) (t:TypeId) (st:Nat) (rs:List (List AV)):A6 d t st (some rs)=if kW d rs=true then some (.ms d st 0 rs.length,.new d ⟨t,st,rs,true⟩) else none:=rfl
theorem Kq (d:Nat) (t:TypeId) (st:Nat) (rows:List (List AV)) (ps:List (Nat×IV)) (ρ:IV→AV) (h:Nat→Option ac):ba d (.bsl t st rows ps) ρ h=qW d t st (gY ρ st rows ps) (eQ ρ st rows ps):=aN rfl
theorem FJ (d:Nat) (n:Option Nat) (p:IV) (ρ:IV→AV) (h:Nat→Option ac):ba d (.load n p) ρ h=res (f8 n (ρ p) h):=aN rfl
def IY (x:Option aM):Option (AV×aM):=x.map fun e=>(.any,e)
theorem yW (e:aM):IY (some e)=some (.any,e):=rfl
theorem EF (c:Prop) [Decidable c] (x:Option aM):IY (if c then x else none)=if c then IY x else none:=by split<;>rfl
theorem AT (d:Nat) (n:Nat) (p x:IV) (ρ:IV→AV) (h:Nat→Option ac):ba d (.store n p x) ρ h=IY (fD n (ρ p) (ρ x) h):=aN rfl
theorem FH (d:Nat) (o:Nat) (p:IV) (ρ:IV→AV) (h:Nat→Option ac):ba d (.fadr o p) ρ h=res (pZ o (ρ p)):=aN rfl
theorem Ky (d:Nat) (o:Nat) (n:Option Nat) (x:IV) (ρ:IV→AV) (h:Nat→Option ac):ba d (.fld o n x) ρ h=res (Ao o n (ρ x)):=aN rfl
theorem FI (d:Nat) (st:Nat) (x q:IV) (ρ:IV→AV) (h:Nat→Option ac):ba d (.iadr st x q) ρ h=res (mO st (ρ x) (ρ q)):=aN rfl
theorem FE (d:Nat) (st n:Nat) (x q:IV) (ρ:IV→AV) (h:Nat→Option ac):ba d (.aadr st n x q) ρ h=res (pX st n (ρ x) (ρ q)):=aN rfl
theorem KC (d:Nat) (m:Bool) (x y:IV) (ρ:IV→AV) (h:Nat→Option ac):ba d (.mnx m x y) ρ h=res (sq m (ρ x) (ρ y)):=aN rfl
theorem Kr (d:Nat) (st:Nat) (x y:IV) (ρ:IV→AV) (h:Nat→Option ac):ba d (.cpy st x y) ρ h=nh st (ρ x) (dU st h (ρ y)) h:=aN rfl
theorem Ku (d:Nat) (x:IV) (ρ:IV→AV) (h:Nat→Option ac):ba d (.cvm x) ρ h=qQ (ρ x) h:=aN rfl
theorem KF (d:Nat) (x y:IV) (ρ:IV→AV) (h:Nat→Option ac):ba d (.sib x y) ρ h=res (AG (ρ x) (ρ y)):=aN rfl
theorem KG (d:Nat) (st:Nat) (x:IV) (lo hi mx:Option IV) (ρ:IV→AV) (h:Nat→Option ac):ba d (.slc st x lo hi mx) ρ h=res (fQ st (ρ x) (lo.map ρ) (hi.map ρ) (mx.map ρ)):=aN rfl
theorem Kz (d:Nat) (x:IV) (ρ:IV→AV) (h:Nat→Option ac):ba d (.len x) ρ h=res (sj (ρ x)):=aN rfl
theorem FP (d:Nat) (x:IV) (ρ:IV→AV) (h:Nat→Option ac):ba d (.slen x) ρ h=res (sC (ρ x)):=aN rfl
theorem Kn (d:Nat) (t:TypeId) (st:Nat) (x y:IV) (ρ:IV→AV) (h:Nat→Option ac):ba d (.app t st x y) ρ h=iX d t st (ρ x) (dU st h (ρ y)) h:=aN rfl
theorem FF (d:Nat) (t:TypeId) (x y:IV) (ρ:IV→AV) (h:Nat→Option ac):ba d (.apps t x y) ρ h=iX d t 1 (ρ x) (EC (ρ y)) h:=aN rfl
theorem FQ (d:Nat) (x:IV) (lo hi:Option IV) (ρ:IV→AV) (h:Nat→Option ac):ba d (.sslc x lo hi) ρ h=res (iQ (ρ x) (lo.map ρ) (hi.map ρ)):=aN rfl
theorem Ko (d:Nat) (o:BinOp) (x y:IV) (ρ:IV→AV) (h:Nat→Option ac):ba d (.bin o x y) ρ h=res (fu o (ρ x) (ρ y)):=aN rfl
theorem FG (d:Nat) (o:BinOp) (x y:IV) (ρ:IV→AV) (h:Nat→Option ac):ba d (.bbin o x y) ρ h=res (pY o (ρ x) (ρ y)):=aN rfl
theorem FL (d:Nat) (o:BinOp) (x y:IV) (ρ:IV→AV) (h:Nat→Option ac):ba d (.pbin o x y) ρ h=res (jO o (ρ x) (ρ y)):=aN rfl
theorem FN (d:Nat) (o:BinOp) (ls:List LK) (x y:IV) (ρ:IV→AV) (h:Nat→Option ac):ba d (.sbin o ls x y) ρ h=res (iP o ls (ρ x) (ρ y)):=aN rfl
theorem Of (d:Nat) (o:UnOp) (x:IV) (ρ:IV→AV) (h:Nat→Option ac):ba d (.un o x) ρ h=res (NP o (ρ x)):=aN rfl
def Pn (k:IntKind) (x:AV):Option (AV×aM) :=
 match x with
 | .int _ n=>some (.int k (k.wrap n),.no)
 | _=>none
theorem Bq (k k':IntKind) (n:Int):Pn k (.int k' n)=some (.int k (k.wrap n),.no):=rfl
def F7 (x:Option (List (List AV))):Option (AV×aM) :=
 match x with
 | some rows=>res ((gr rows).map .str)
 | none=>none
theorem xE (rows:List (List AV)):F7 (some rows)=res ((gr rows).map .str):=rfl
theorem Bs (c:Prop) [Decidable c] (x:Option (List (List AV))):F7 (if c then x else none)=if c then F7 x else none:=by split<;>rfl
def Pm (d:Nat) (t:TypeId) (x:AV):Option (AV×aM) :=
 match x with
 | .str s=>if s.length<1073741824 then some (.ms d 1 0 s.length,.new d ⟨t,1,s.map fun b=>[.int .u8 b.toNat],false⟩) else none
 | _=>none
theorem Bp (d:Nat) (t:TypeId) (s:List UInt8):Pm d t (.str s)=if s.length<1073741824 then some (.ms d 1 0 s.length,.new d ⟨t,1,s.map fun b=>[.int .u8 b.toNat],false⟩) else none:=rfl
def Pt (i:Nat) (x:AV):Option (AV×aM) :=
 match x with
 | .tup vs=>res (vs[i]?)
 | _=>none
theorem By (i:Nat) (vs:List AV):Pt i (.tup vs)=res (vs[i]?):=rfl
def wd (x:AV):Option (AV×aM) :=
 match x with
 | .mp id st row off=>some (.mp id st row off,.no)
 | .ip cells=>some (.ip cells,.no)
 | .fn f caps=>some (.fn f caps,.no)
 | _=>none
theorem DC (id st row off:Nat):wd (.mp id st row off)=some (.mp id st row off,.no):=rfl
theorem DB (cells:List AV):wd (.ip cells)=some (.ip cells,.no):=rfl
theorem DA (f:FuncId) (caps:List AV):wd (.fn f caps)=some (.fn f caps,.no):=rfl
def Po (x:AV):Option (AV×aM) :=
 match x with
 | .str s=>some (.str s,.no)
 | _=>none
theorem Bt (s:List UInt8):Po (.str s)=some (.str s,.no):=rfl
def Eu (x i:AV):Option (AV×aM) :=
 match x,i with
 | .str s,.int _ n=>if 0≤n then (match s[n.toNat]? with | some b=>some (.int .u8 b.toNat,.no) | none=>none) else none
 | _,_=>none
theorem yR (K:AV→aM→Prop) (s:List UInt8) (k:IntKind) (n:Int):bj K (Eu (.str s) (.int k n))=(0≤n∧n<s.length∧K (.int .u8 (aj s n.toNat).toNat) .no):=by
 simp only [Eu]
 by_cases h:0≤n
 ·rw [bz h]
  by_cases h2:n.toNat<s.length
  ·rw [eJ h2]
   rw [cw h2]
   simp only [bj]
   exact propext ⟨fun hk=>⟨h,by omega,hk⟩,fun hk=>hk.2.2⟩
  ·rw [List.getElem?_eq_none (by omega)]
   simp only [bj]
   exact propext ⟨fun hk=>hk.elim,fun hk=>by omega⟩
 ·rw [aJ h]
  simp only [bj]
  exact propext ⟨fun hk=>hk.elim,fun hk=>absurd hk.1 h⟩
def P1 (d:Nat) (t:TypeId) (st:Nat) (zero:List AV) (l cp:AV):Option (AV×aM) :=
 match l,cp with
 | .int .i64 n,.int .i64 m=>if 0≤n∧n≤m∧m<1073741824∧zero.length=st then some (.ms d st 0 n.toNat,.new d ⟨t,st,List.replicate n.toNat zero,false⟩) else none
 | _,_=>none
theorem Dw (d:Nat) (t:TypeId) (st:Nat) (zero:List AV) (n m:Int):P1 d t st zero (.int .i64 n) (.int .i64 m)=if 0≤n∧n≤m∧m<1073741824∧zero.length=st then some (.ms d st 0 n.toNat,.new d ⟨t,st,List.replicate n.toNat zero,false⟩) else none:=rfl
theorem Kt (d:Nat) (k:IntKind) (x:IV) (ρ:IV→AV) (h:Nat→Option ac):ba d (.cvi k x) ρ h=Pn k (ρ x):=aN rfl
theorem Kv (d:Nat) (x:IV) (ρ:IV→AV) (h:Nat→Option ac):ba d (.cvs x) ρ h=F7 (dU 1 h (ρ x)):=aN rfl
theorem Ks (d:Nat) (t:TypeId) (x:IV) (ρ:IV→AV) (h:Nat→Option ac):ba d (.cvb t x) ρ h=Pm d t (ρ x):=aN rfl
theorem Kw (d:Nat) (x:IV) (ρ:IV→AV) (h:Nat→Option ac):ba d (.cvt x) ρ h=Po (ρ x):=aN rfl
theorem Kx (d:Nat) (x:IV) (q:Nat) (ρ:IV→AV) (h:Nat→Option ac):ba d (.ext x q) ρ h=Pt q (ρ x):=aN rfl
theorem FK (d:Nat) (x:IV) (ρ:IV→AV) (h:Nat→Option ac):ba d (.nchk x) ρ h=wd (ρ x):=aN rfl
theorem FO (d:Nat) (x q:IV) (ρ:IV→AV) (h:Nat→Option ac):ba d (.sidx x q) ρ h=Eu (ρ x) (ρ q):=aN rfl
theorem KB (d:Nat) (t:TypeId) (st:Nat) (z:List AV) (l c:IV) (ρ:IV→AV) (h:Nat→Option ac):ba d (.mks t st z l c) ρ h=P1 d t st z (ρ l) (ρ c):=aN rfl
theorem KA (d:Nat) (f:FuncId) (cs:List IV) (ρ:IV→AV) (h:Nat→Option ac):ba d (.mkf f cs) ρ h=if (cs.map ρ).all A_=true then some (.fn f (cs.map ρ),.no) else none:=aN rfl
theorem z7 (k:IntKind) (a b:Int):fu .add (.int k a) (.int k b)=some (.int k (k.wrap (a+b))):=by cases k<;>rfl
theorem Ak (k:IntKind) (a b:Int):fu .sub (.int k a) (.int k b)=some (.int k (k.wrap (a - b))):=by cases k<;>rfl
theorem Ae (k:IntKind) (a b:Int):fu .mul (.int k a) (.int k b)=some (.int k (k.wrap (a * b))):=by cases k<;>rfl
theorem z_ (k:IntKind) (a b:Int):fu .eql (.int k a) (.int k b)=some (.bool (a==b)):=by cases k<;>rfl
theorem Af (k:IntKind) (a b:Int):fu .neq (.int k a) (.int k b)=some (.bool (a != b)):=by cases k<;>rfl
theorem Ad (k:IntKind) (a b:Int):fu .lss (.int k a) (.int k b)=some (.bool (decide (a<b))):=by cases k<;>rfl
theorem Ac (k:IntKind) (a b:Int):fu .leq (.int k a) (.int k b)=some (.bool (decide (a≤b))):=by cases k<;>rfl
theorem Ab (k:IntKind) (a b:Int):fu .gtr (.int k a) (.int k b)=some (.bool (decide (a>b))):=by cases k<;>rfl
theorem Aa (k:IntKind) (a b:Int):fu .geq (.int k a) (.int k b)=some (.bool (decide (a≥b))):=by cases k<;>rfl
theorem Ag (k:IntKind) (a b:Int):fu .quo (.int k a) (.int k b)=if b=0 then none else some (.int k (k.wrap (a.tdiv b))):=by cases k<;>rfl
theorem Ah (k:IntKind) (a b:Int):fu .rem (.int k a) (.int k b)=if b=0 then none else some (.int k (a.tmod b)):=by cases k<;>rfl
def AY (k:IntKind) (a b:Int):Int:=k.wrap ((BitVec.ofInt k.bits a &&& BitVec.ofInt k.bits b).toNat)
theorem z8 (k:IntKind) (a b:Int):fu .and (.int k a) (.int k b)=some (.int k (AY k a b)):=by cases k<;>rfl
def iY (k:IntKind) (a b:Int):Int:=k.wrap ((BitVec.ofInt k.bits a ||| BitVec.ofInt k.bits b).toNat)
theorem Fj (k:IntKind) (a b:Int):fu .or (.int k a) (.int k b)=some (.int k (iY k a b)):=by cases k<;>rfl
def gE (k:IntKind) (a b:Int):Int:=k.wrap ((BitVec.ofInt k.bits a ^^^ BitVec.ofInt k.bits b).toNat)
theorem Al (k:IntKind) (a b:Int):fu .xor (.int k a) (.int k b)=some (.int k (gE k a b)):=by cases k<;>rfl
def AZ (k:IntKind) (a b:Int):Int:=k.wrap ((BitVec.ofInt k.bits a &&& ~~~ (BitVec.ofInt k.bits b)).toNat)
theorem si (k:IntKind) (a b:Int):fu .andNot (.int k a) (.int k b)=some (.int k (AZ k a b)):=by cases k<;>rfl
def fz (k:IntKind) (a b:Int):Int:=k.wrap (a * 2 ^ (min b.toNat k.bits))
def vL (k:IntKind) (a b:Int):Int:=a.fdiv (2 ^ (min b.toNat k.bits))
theorem Ai (k k1:IntKind) (a b:Int):fu .shl (.int k a) (.int k1 b)=if b<0 then none else some (.int k (fz k a b)):=aN rfl
theorem Aj (k k1:IntKind) (a b:Int):fu .shr (.int k a) (.int k1 b)=if b<0 then none else some (.int k (vL k a b)):=aN rfl
theorem wN (a b:List UInt8):fu .add (.str a) (.str b)=if a.length+b.length<4611686018427387904 then some (.str (a++b)) else none:=aN rfl
theorem wO (a b:List UInt8):fu .eql (.str a) (.str b)=some (.bool (a==b)):=aN rfl
theorem wU (a b:List UInt8):fu .neq (.str a) (.str b)=some (.bool (!(a==b))):=aN rfl
theorem wT (a b:List UInt8):fu .lss (.str a) (.str b)=some (.bool (Op.bytesLess a b)):=aN rfl
theorem wS (a b:List UInt8):fu .leq (.str a) (.str b)=some (.bool (Op.bytesLess a b||a==b)):=aN rfl
theorem wQ (a b:List UInt8):fu .gtr (.str a) (.str b)=some (.bool (!(Op.bytesLess a b||a==b))):=aN rfl
theorem wP (a b:List UInt8):fu .geq (.str a) (.str b)=some (.bool (!(Op.bytesLess a b))):=aN rfl
theorem wL (a b:Bool):pY .eql (.bool a) (.bool b)=some (.bool (a==b)):=rfl
theorem wM (a b:Bool):pY .neq (.bool a) (.bool b)=some (.bool (!(a==b))):=rfl
theorem FC (a:Bool):NP .not (.bool a)=some (.bool (!a)):=rfl
theorem FA (k:IntKind) (n:Int):NP .neg (.int k n)=some (.int k (k.wrap (0 - n))):=rfl
theorem Fv (l:LK) (ls:List LK) (xs ys:List AV):iP .eql (l :: ls) (.agg xs) (.agg ys)=(fC (l :: ls) xs ys).map .bool:=rfl
theorem Fw (l:LK) (ls:List LK) (xs ys:List AV):iP .neq (l :: ls) (.agg xs) (.agg ys)=(fC (l :: ls) xs ys).map fun b=>.bool (!b):=rfl
theorem AC (f:FuncId) (cs:List AV):iP .eql [] (.fn f cs) .nf=some (.bool false):=rfl
theorem AD (f:FuncId) (cs:List AV):iP .neq [] (.fn f cs) .nf=some (.bool true):=rfl
theorem AE:iP .eql [] .nf .nf=some (.bool true):=rfl
theorem AF:iP .neq [] .nf .nf=some (.bool false):=rfl
theorem Km:fC [] [] []=some true:=rfl
def VA (p:Option Bool) (q:Option Bool):Option Bool:=match p,q with
 | some p,some q=>some (p&&q)
 | _,_=>none
theorem EB (p q:Bool):VA (some p) (some q)=some (p&&q):=rfl
theorem Kl (l:LK) (ls:List LK) (x y:AV) (xs ys:List AV):fC (l :: ls) (x :: xs) (y :: ys)=VA (fF l x y) (fC ls xs ys):=rfl
theorem C0 (p q:Bool):fF .b (.bool p) (.bool q)=some (p==q):=rfl
theorem C1 (k:IntKind) (p q:Int):fF .i (.int k p) (.int k q)=some (p==q):=by simp [fF]
theorem C2 (p q:List UInt8):fF .s (.str p) (.str q)=some (p==q):=rfl
theorem Aw:jO .eql .np .np=some (.bool true):=rfl
theorem Ax (id st row off:Nat):jO .eql (.mp id st row off) .np=some (.bool false):=rfl
theorem Ay (cells:List AV):jO .eql (.ip cells) .np=some (.bool false):=rfl
theorem Az:jO .neq .np .np=some (.bool false):=rfl
theorem AA (id st row off:Nat):jO .neq (.mp id st row off) .np=some (.bool true):=rfl
theorem AB (cells:List AV):jO .neq (.ip cells) .np=some (.bool true):=rfl
theorem Fo (st:Nat) (rows:List (List AV)):sj (.sl st rows)=some (.int .i64 rows.length):=rfl
theorem Fm (id st off len:Nat):sj (.ms id st off len)=some (.int .i64 len):=rfl
theorem Fn:sj .nl=some (.int .i64 0):=rfl
theorem wZ (s:List UInt8):sC (.str s)=some (.int .i64 s.length):=rfl
theorem As (n:Option Nat) (cells:List AV) (h:Nat→Option ac):f8 n (.ip cells) h=iF n cells:=rfl
def pN (n:Option Nat) (st row off:Nat) (o:Option ac):Option AV :=
 match o with
 | some o=>if o.st=st then (match o.rows[row]? with | some r=>iF n (r.drop off) | none=>none) else none
 | none=>none
theorem At (n:Option Nat) (id st row off:Nat) (h:Nat→Option ac):f8 n (.mp id st row off) h=pN n st row off (h id):=rfl
theorem HF (n:Option Nat) (st off:Nat) (t:TypeId) (r:List AV) (b:Bool):pN n st 0 off (some ⟨t,st,[r],b⟩)=iF n (r.drop off):=by simp [pN]
theorem HE {α:Type} [Inhabited α] (K:AV→aM→Prop) (n:Option Nat) (st row off:Nat) (t:TypeId) (l:List α) (f:α→List AV) (b:Bool) :
  bj K (res (pN n st row off (some ⟨t,st,l.map f,b⟩)))=(row<l.length∧bj K (res (iF n ((f (aj l row)).drop off)))):=by
 simp only [pN,cX]
 by_cases h2:row<l.length
 ·rw [d_,eJ h2,cw h2]
  simp [h2]
 ·rw [List.getElem?_eq_none (by simpa using h2)]
  simp [h2,res,bj]
theorem PO (x:AV) (r:List AV):iF none (x :: r)=some x:=rfl
theorem PP (n:Nat) (r:List AV):iF (some n) r=if n≤r.length then some (.agg (r.take n)) else none:=rfl
def m8 (id n st row off:Nat) (o:Option ac) (cs:Option (List AV)):Option aM :=
 match cs with
 | some cs=>match o with
  | some o=>if o.st=st∧cs.length=n∧(o.isRec||cs.all db)=true then (match o.rows[row]? with
   | some r=>if off+n≤r.length then some (.put id { o with rows:=o.rows.set row (cH r off cs) }) else none
   | none=>none) else none
  | none=>none
 | none=>none
theorem w7 (n id st row off:Nat) (x:AV) (h:Nat→Option ac):fD n (.mp id st row off) x h=m8 id n st row off (h id) (dJ x):=by
 unfold fD m8
 cases dJ x<;>rfl
theorem IW (id n st off:Nat) (t:TypeId) (r cs:List AV):m8 id n st 0 off (some ⟨t,st,[r],true⟩) (some cs)=if cs.length=n∧off+n≤r.length then some (.put id ⟨t,st,[cH r off cs],true⟩) else none:=by
 simp only [m8,true_and,rX,and_true,List.getElem?_cons_zero,List.set_cons_zero]
 by_cases h1:cs.length=n<;>by_cases h2:off+n≤r.length<;>simp [h1,h2]
theorem IU (id n st row:Nat) (t:TypeId) (rows:List (List AV)) (cs:List AV) (hn:∀r∈rows,r.length=n):m8 id n st row 0 (some ⟨t,st,rows,false⟩) (some cs)=if cs.length=n∧cs.all db=true∧row<rows.length then some (.put id ⟨t,st,rows.set row cs,false⟩) else none:=by
 simp only [m8,true_and,rV]
 by_cases h3:row<rows.length
 ·rw [eJ h3]
  have hl:=hn _ (List.getElem_mem h3)
  by_cases h1:cs.length=n<;>by_cases h2:cs.all db=true<;>simp [h1,h2,h3,hl,cH]
  rw [List.drop_eq_nil_of_le (by omega),mM]
 ·rw [List.getElem?_eq_none (by omega)]
  simp [h3]
theorem Am (off:Nat) (cells:List AV):pZ off (.ip cells)=some (.ip (cells.drop off)):=rfl
theorem An (off id st row o:Nat):pZ off (.mp id st row o)=some (.mp id st row (o+off)):=rfl
theorem Ap (off:Nat) (n:Option Nat) (cells:List AV):Ao off n (.agg cells)=iF n (cells.drop off):=rfl
theorem wV {α:Type} [Inhabited α] (K:AV→aM→Prop) (st:Nat) (l:List α) (f:α→List AV) (k:IntKind) (n:Int) :
  bj K (res (mO st (.sl st (l.map f)) (.int k n)))=(0≤n∧n<l.length∧K (.ip (f (aj l n.toNat))) .no):=by
 simp only [mO,true_and]
 by_cases h:0≤n
 ·rw [bz h]
  by_cases h2:n.toNat<l.length
  ·rw [d_,eJ h2,cw h2]
   simp only [cK,res,bj]
   exact propext ⟨fun hk=>⟨h,by omega,hk⟩,fun hk=>hk.2.2⟩
  ·rw [List.getElem?_eq_none (by simp;omega)]
   exact propext ⟨fun hk=>hk.elim,fun hk=>by omega⟩
 ·rw [aJ h]
  exact propext ⟨fun hk=>hk.elim,fun hk=>absurd hk.1 h⟩
theorem zW (st n:Nat) (cells:List AV) (k:IntKind) (j:Int):pX st n (.ip cells) (.int k j)=if 0≤j∧j<n then some (.ip (cells.drop (j.toNat * st))) else none:=rfl
theorem zX (st n id s row off:Nat) (k:IntKind) (j:Int):pX st n (.mp id s row off) (.int k j)=if 0≤j∧j<n then some (.mp id s row (off+j.toNat * st)) else none:=rfl
def F6 (id st off len:Nat) (o:Option ac):Option (AV×aM) :=
 match o with
 | some o=>if st=1∧o.st=1∧o.isRec=false∧0<len then some (.ms id st off len,.put id o) else none
 | none=>none
theorem Fl (id st off len:Nat) (h:Nat→Option ac):qQ (.ms id st off len) h=F6 id st off len (h id):=by simp only [qQ,F6];cases h id<;>rfl
theorem Br (id off len:Nat) (t:TypeId) (rows:List (List AV)):F6 id 1 off len (some ⟨t,1,rows,false⟩)=if 0<len then some (.ms id 1 off len,.put id ⟨t,1,rows,false⟩) else none:=by simp [F6]
theorem AH (s:List UInt8) (n:Int):AG (.str s) (.int .u8 n)=some (.int .i64 (IN s n.toNat.toUInt8)):=rfl
def Pk (id st off len:Nat) (ys:List (List AV)) (o:Option ac):Option (AV×aM) :=
 match o with
 | some o=>if o.st=st∧o.isRec=false∧off+len≤o.rows.length then (if ys.length≤len then some (.int .i64 ys.length,.put id { o with rows:=o.rows.take off++ys++o.rows.drop (off+ys.length) }) else some (.int .i64 len,.put id { o with rows:=o.rows.take off++ys.take len++o.rows.drop (off+len) })) else none
 | none=>none
theorem Fk (st id off len:Nat) (ys:List (List AV)) (h:Nat→Option ac):nh st (.ms id st off len) (some ys) h=Pk id st off len ys (h id):=by simp only [nh,Pk,true_and];cases h id<;>rfl
theorem Av (k:IntKind) (n m:Int):sq false (.int k n) (.int k m)=some (.int k (if m<n then m else n)):=by simp [sq]
theorem Au (k:IntKind) (n m:Int):sq true (.int k n) (.int k m)=some (.int k (if n<m then m else n)):=by simp [sq]
theorem Aq (id st off len:Nat) (k:IntKind) (n:Int):mO st (.ms id st off len) (.int k n)=if 0≤n∧n<len then some (.mp id st (off+n.toNat) 0) else none:=by simp [mO]
theorem AI (id st off len:Nat):fQ st (.ms id st off len) none none none=some (.ms id st off len):=by simp [fQ,bJ]
theorem AJ (id st off len:Nat) (k:IntKind) (n:Int):fQ st (.ms id st off len) none (some (.int k n)) none=if 0≤n∧n≤len then some (.ms id st off n.toNat) else none:=by
 simp only [fQ,bJ]
 by_cases h:0≤n<;>by_cases h2:n≤len<;>simp [h,h2]<;>omega
theorem AK (id st off len:Nat) (k:IntKind) (n:Int):fQ st (.ms id st off len) (some (.int k n)) none none=if 0≤n∧n≤len then some (.ms id st (off+n.toNat) (len - n.toNat)) else none:=by
 simp only [fQ,bJ]
 by_cases h:0≤n<;>by_cases h2:n≤len<;>simp [h,h2]<;>omega
theorem wX (id st off len:Nat) (k k':IntKind) (n m:Int):fQ st (.ms id st off len) (some (.int k n)) (some (.int k' m)) none=if 0≤n∧n≤m∧m≤len then some (.ms id st (off+n.toNat) (m - n).toNat) else none:=by
 simp only [fQ,bJ]
 by_cases h:0≤n
 ·by_cases h1:n≤m
  ·have hm:0≤m:=by omega
   by_cases h2:m≤len
   ·have:m.toNat - n.toNat=(m - n).toNat:=by omega
    simp [h,h1,h2,hm,this];omega
   ·simp [h,h1,h2,hm]<;>omega
  ·by_cases hm:0≤m<;>simp [h,h1,hm];omega
 ·simp [h]
theorem AO (st:Nat) (rows:List (List AV)):fQ st (.sl st rows) none none none=some (.sl st rows):=by simp [fQ,bJ]
theorem AP {α:Type} (st:Nat) (f:α→List AV) (l:List α) (k:IntKind) (n:Int):fQ st (.sl st (l.map f)) none (some (.int k n)) none=if 0≤n∧n≤l.length then some (.sl st ((l.take n.toNat).map f)) else none:=by
 simp only [fQ,bJ]
 by_cases h:0≤n<;>by_cases h2:n≤l.length<;>simp [h,h2,List.map_take]<;>omega
theorem AQ {α:Type} (st:Nat) (f:α→List AV) (l:List α) (k:IntKind) (n:Int):fQ st (.sl st (l.map f)) (some (.int k n)) none none=if 0≤n∧n≤l.length then some (.sl st ((l.drop n.toNat).map f)) else none:=by
 simp only [fQ,bJ]
 have:(l.drop n.toNat).map f=List.take (l.length - n.toNat) (List.drop n.toNat (l.map f)):=by rw [List.map_drop,kv (by simp)]
 by_cases h:0≤n<;>by_cases h2:n≤l.length<;>simp [h,h2,this]<;>omega
theorem wY {α:Type} (st:Nat) (f:α→List AV) (l:List α) (k k':IntKind) (n m:Int):fQ st (.sl st (l.map f)) (some (.int k n)) (some (.int k' m)) none=if 0≤n∧n≤m∧m≤l.length then some (.sl st (((l.drop n.toNat).take (m - n).toNat).map f)) else none:=by
 simp only [fQ,bJ]
 by_cases h:0≤n
 ·by_cases h1:n≤m
  ·have hm:0≤m:=by omega
   by_cases h2:m≤l.length
   ·have:m.toNat - n.toNat=(m - n).toNat:=by omega
    simp [h,h1,h2,hm,this,List.map_take,List.map_drop];omega
   ·simp [h,h1,h2,hm]<;>omega
  ·by_cases hm:0≤m<;>simp [h,h1,hm];omega
 ·simp [h]
theorem AL (st:Nat):fQ st .nl none none none=some .nl:=by simp [fQ,bJ]
theorem AM (st:Nat) (k:IntKind) (n:Int):fQ st .nl none (some (.int k n)) none=if n=0 then some .nl else none:=by
 simp only [fQ,bJ]
 by_cases h:0≤n<;>by_cases h2:n=0<;>simp [h,h2]<;>omega
theorem AN (st:Nat) (k:IntKind) (n:Int):fQ st .nl (some (.int k n)) none none=if n=0 then some .nl else none:=by
 simp only [fQ,bJ]
 by_cases h:0≤n<;>by_cases h2:n=0<;>simp [h,h2]<;>omega
theorem Fx (s:List UInt8):iQ (.str s) none none=some (.str s):=by simp [iQ,bJ]
theorem Fy (s:List UInt8) (k:IntKind) (n:Int):iQ (.str s) none (some (.int k n))=if 0≤n∧n≤s.length then some (.str (s.take n.toNat)) else none:=by
 simp only [iQ,bJ]
 by_cases h:0≤n<;>by_cases h2:n≤s.length<;>simp [h,h2]<;>omega
theorem Fz (s:List UInt8) (k:IntKind) (n:Int):iQ (.str s) (some (.int k n)) none=if 0≤n∧n≤s.length then some (.str (s.drop n.toNat)) else none:=by
 simp only [iQ,bJ]
 have:s.drop n.toNat=List.take (s.length - n.toNat) (List.drop n.toNat s):=by rw [kv (by simp)]
 by_cases h:0≤n<;>by_cases h2:n≤s.length<;>simp [h,h2,← this]<;>omega
theorem AR (s:List UInt8) (k k':IntKind) (n m:Int):iQ (.str s) (some (.int k n)) (some (.int k' m))=if 0≤n∧n≤m∧m≤s.length then some (.str ((s.drop n.toNat).take (m - n).toNat)) else none:=by
 simp only [iQ,bJ]
 by_cases h:0≤n
 ·by_cases h1:n≤m
  ·have hm:0≤m:=by omega
   by_cases h2:m≤s.length
   ·have:m.toNat - n.toNat=(m - n).toNat:=by omega
    simp [h,h1,h2,hm,this];omega
   ·simp [h,h1,h2,hm]<;>omega
  ·by_cases hm:0≤m<;>simp [h,h1,hm];omega
 ·simp [h]
theorem Fi (d:Nat) (t:TypeId) (st:Nat) (ys:List (List AV)) (h:Nat→Option ac):iX d t st .nl (some ys) h=if ys.length<137438953472 then some (.ms d st 0 ys.length,.new d ⟨t,st,ys,false⟩) else none:=rfl
def xc (id:Nat) (t:TypeId) (st off len:Nat) (ys:List (List AV)) (o:Option ac):Option (AV×aM) :=
 if ys.length<137438953472 then (match o with
   | some o=>if o.st=st∧o.t=t∧o.isRec=false∧off=0∧len≤o.rows.length∧len<137438953472∧(id<1000∨1267650600228229401496703205376≤id)∧o.k.flat=true then
     some (.ms id st 0 (len+ys.length),.reb id ⟨t,st,o.rows.take len++ys,false⟩) else none
   | none=>none) else none
theorem Fh (d id:Nat) (t:TypeId) (st off len:Nat) (ys:List (List AV)) (h:Nat→Option ac):iX d t st (.ms id st off len) (some ys) h=xc id t st off len ys (h id):=by
 simp only [iX,xc,true_and]
 cases h id<;>rfl
theorem ox:Kd.flat instKd=true:=rfl
theorem eW (id:Nat) (t:TypeId) (st len:Nat) (rows ys:List (List AV)) (hl:rows.length=len):xc id t st 0 len ys (some ⟨t,st,rows,false⟩) =
  if ys.length<137438953472∧len<137438953472∧(id<1000∨1267650600228229401496703205376≤id) then some (.ms id st 0 (len+ys.length),.reb id ⟨t,st,rows++ys,false⟩) else none:=by
 subst hl
 simp only [xc,true_and,bD,eM,ox,and_true]
 by_cases h1:ys.length<137438953472<;>simp [h1]
theorem zZ (d:Nat) (t:TypeId) (st:Nat) (ys:List (List AV)) (h:Nat→Option ac):jN d t st .nl (some ys) h=if ys.length<137438953472∧0<ys.length then some (.ms d st 0 ys.length,.new d ⟨t,st,ys,true⟩) else none:=rfl
def vK (id:Nat) (t:TypeId) (st off len:Nat) (ys:List (List AV)) (o:Option ac):Option (AV×aM) :=
 if ys.length<137438953472∧0<ys.length then (match o with
   | some o=>if o.st=st∧o.t=t∧off=0∧len≤o.rows.length∧len<137438953472∧(id<1000∨1267650600228229401496703205376≤id)∧o.k.flat=true∧kW id (o.rows.take len++ys)=true then
     some (.ms id st 0 (len+ys.length),.reb id ⟨t,st,o.rows.take len++ys,true⟩) else none
   | none=>none) else none
theorem zY (d id:Nat) (t:TypeId) (st off len:Nat) (ys:List (List AV)) (h:Nat→Option ac):jN d t st (.ms id st off len) (some ys) h=vK id t st off len ys (h id):=by
 simp only [jN,vK,true_and]
 cases h id<;>rfl
theorem dO (id:Nat) (t:TypeId) (st len:Nat) (rows ys:List (List AV)) (q:Bool) (hl:rows.length=len):vK id t st 0 len ys (some ⟨t,st,rows,q⟩) =
  if ys.length<137438953472∧0<ys.length∧len<137438953472∧(id<1000∨1267650600228229401496703205376≤id)∧kW id (rows++ys)=true then some (.ms id st 0 (len+ys.length),.reb id ⟨t,st,rows++ys,true⟩) else none:=by
 subst hl
 simp only [vK,true_and,bD,eM,ox]
 by_cases h1:ys.length<137438953472<;>by_cases h2:0<ys.length<;>simp [h1,h2]
theorem MB (i:Nat):kW i []=true:=rfl
theorem MA (i:Nat) (r:List AV) (l:List (List AV)):kW i (r :: l)=((r.all fun x=>!mC i x)&&kW i l):=rfl
theorem DG (i:Nat) (a b:List (List AV)):kW i (a++b)=(kW i a&&kW i b):=List.all_append
theorem Ee (st:Nat) (h:Nat→Option ac):dU st h .nl=some []:=rfl
theorem Ef (st:Nat) (h:Nat→Option ac) (rows:List (List AV)):dU st h (.sl st rows)=some rows:=by simp [dU]
def D_ (st off len:Nat) (o:Option ac):Option (List (List AV)) :=
 match o with
 | some o=>if o.st=st∧o.isRec=false∧off+len≤o.rows.length then some ((o.rows.drop off).take len) else none
 | none=>none
theorem Ed (st:Nat) (h:Nat→Option ac) (id off len:Nat):dU st h (.ms id st off len)=D_ st off len (h id):=by simp only [dU,D_,true_and];cases h id<;>rfl
theorem yP (st len:Nat) (t:TypeId) (rows:List (List AV)) (hl:rows.length=len):D_ st 0 len (some ⟨t,st,rows,false⟩)=some rows:=by subst hl;simp [D_]
theorem EE (s:List UInt8):EC (.str s)=some (s.map fun b=>[.int .u8 b.toNat]):=rfl
theorem xp {f:FuncId} {args args':List AV} {d:Option Nat} {s:St} {K:St→Prop} {r:AV} (hp:ak P f args' r) (hid:∀x∈args',ax x=[]) (hc:aC (EP false (ab s.heap)) args args') (hk:K (s.put d r)):dB P f args d s K :=
 .inl (.inl ⟨args',r,false,hp,hid,hc,(fun h=>by cases h),hk⟩)
theorem aC.refl_coe (b:Bool) (h:Nat→Option ac):∀l:List AV,aC (EP b h) l l
 | []=>trivial
 | _ :: r=>⟨.inl rfl,aC.refl_coe b h r⟩
theorem lB {f:FuncId} {args:List AV} {d:Option Nat} {s:St} {K:St→Prop} {r:AV} (hp:ak P f args r) (hid:∀x∈args,ax x=[]) (hk:K (s.put d r)):dB P f args d s K :=
 xp hp hid (aC.refl_coe _ _ args) hk
theorem kB {f:FuncId} {args:List AV} {d:Option Nat} {s:St} {K:St→Prop} {r:AV} (fs:List Nat) {args':List AV} (ha:args.map (qr fs s)=args') (hp:ak P f args' r) (hid:∀x∈args',ax x=[]) (hk:K ((frzs fs s).put d r)):dB P f args d s K:=by
 subst ha
 exact .inr (.inl ⟨fs,.inl ⟨_,r,false,hp,hid,aC.refl_coe _ _ _,(fun h=>by cases h),hk⟩⟩)
theorem aQ {al:List (Nat×Nat)} {f:FuncId} {args:List AV} {i:Nat} {bf:List Nat} {op:fK} {d:Option Nat} {hist:List HI} {s:St} {K:List HI→St→Prop} {r:AV} (hp:ak P f args r) (hid:∀x∈args,ax x=[]) (hr:ax r=[])
  (hk:cL op s .no=true∧dR bf ⟨i,bu op s.env,[],[],false,false⟩ hist=true∧K (⟨i,bu op s.env,[],[],false,false⟩ :: hist) (s.put d r)):uJ P al f args i bf op d hist s K :=
 .inl ⟨args,r,false,hp,hid,aC.refl_coe _ _ args,(fun h=>by cases h),hr,hk⟩
theorem rD:∀{l:List (Nat×AV)} {k:Nat},get l k = .any∨(k,get l k)∈l
 | [],k=>.inl rfl
 | (j,x) :: r,k=>by
  simp only [get]
  split
  ·rename_i h;subst h;exact .inr (by simp)
  ·rcases rD (l:=r) (k:=k) with h | h
   ·exact .inl h
   ·exact .inr (by simp [h])
theorem aR:∀{l:List (Nat×ac)} {k:Nat} {o:ac},ab l k=some o→(k,o)∈l
 | [],k,o,h=>by simp [ab] at h
 | (j,x) :: r,k,o,h=>by
  simp only [ab] at h
  split at h
  ·rename_i hj;cases h;subst hj;simp
  ·simp [aR h]
theorem bG.le {c:i3} {a:Act} {w:World} {s s':St} (hs:bG c s a w) (h1:∀p∈s'.env,get s.env p.1=p.2) (h2:∀p∈s'.heap,ab s.heap p.1=some p.2):bG c s' a w:=by
 obtain ⟨bl,hs⟩:=hs
 refine ⟨bl,hs.weaken (fun k=>?_) (fun i o hi=>h2 (i,o) (aR hi))⟩
 rcases rD (l:=s'.env) (k:=k) with h | h
 ·exact .inl h
 ·exact .inr (h1 _ h).symm
theorem Wk.refl (s:St):Wk s s:=fun _ _ _ h=>h
theorem Wk.trans {s s' s'':St} (h:Wk s s') (h':Wk s' s''):Wk s s'':=fun c a w hs=>h' c a w (h c a w hs)
theorem Wk.le {s s':St} (h1:∀p∈s'.env,get s.env p.1=p.2) (h2:∀p∈s'.heap,ab s.heap p.1=some p.2):Wk s s':=fun _ _ _ hs=>hs.le h1 h2
theorem Wk.frz (s:St) (i:Nat):Wk s (s.frz i):=fun _ _ _ hs=>hs.frz i
theorem Wk.kill (s:St) (i:Nat):Wk s (s.kill i):=fun _ _ _ hs=>hs.kill i
def PH {α:Type} (S:α→St) (p:α→Prop) (m:α→Nat) (q:α) (K:IX→St→Prop) (e:IX) (s:St):Prop :=
 match e with
 | .nrm=>∃q',p q'∧m q'<m q∧Wk s (S q')
 | e=>K e s
theorem aA {α:Type} {S:α→St} {p:α→Prop} {m:α→Nat} {q:α} {K:IX→St→Prop} {s:St} (q':α) (h1:p q') (h2:m q'<m q) (h3:Wk s (S q')):PH S p m q K .nrm s:=⟨q',h1,h2,h3⟩
theorem PI {α:Type} (S:α→St) (p:α→Prop) (m:α→Nat) (q:α) (K:IX→St→Prop) (s:St):PH S p m q K .ret s=K .ret s:=aN rfl
theorem PJ {α:Type} (S:α→St) (p:α→Prop) (m:α→Nat) (q:α) (K:IX→St→Prop) (j:Nat) (s:St):PH S p m q K (.ext j) s=K (.ext j) s:=aN rfl
theorem an {α:Type} (S:α→St) (p:α→Prop) (m:α→Nat) {x:aK} {s:St} {K:IX→St→Prop} (q:α) (h1:p q) (h2:Wk s (S q))
  (hstep:∀q,p q→fN P x (S q) (PH S p m q K)):fN P (.loop x) s K:=by
 refine ⟨fun n s=>∃q,p q∧m q=n∧s=S q,⟨m q,S q,⟨q,h1,rfl,rfl⟩,h2⟩,?_⟩
 rintro n s ⟨q,h3,rfl,rfl⟩
 refine kP _ _ _ _ (fun e s' hh=>?_) (hstep q h3)
 cases e with
 | nrm=>obtain ⟨q',h4,h5,h6⟩:=hh;exact ⟨m q',S q',h5,⟨q',h4,rfl,rfl⟩,h6⟩
 | _=>exact hh
def Rw {α:Type} (S:α→St) (p:α→Prop) (K:IX→St→Prop) (e:IX) (s:St):Prop :=
 match e with
 | .nrm=>∃q,p q∧Wk s (S q)
 | e=>K e s
theorem kR {α:Type} {S:α→St} {p:α→Prop} {K:IX→St→Prop} {s:St} (q:α) (h1:p q) (h3:Wk s (S q)):Rw S p K .nrm s:=⟨q,h1,h3⟩
theorem PK {α:Type} (S:α→St) (p:α→Prop) (K:IX→St→Prop) (s:St):Rw S p K .ret s=K .ret s:=aN rfl
theorem PL {α:Type} (S:α→St) (p:α→Prop) (K:IX→St→Prop) (j:Nat) (s:St):Rw S p K (.ext j) s=K (.ext j) s:=aN rfl
theorem fe {α:Type} (S:α→St) (p:α→Prop) {x y:aK} {s:St} {K:IX→St→Prop} (h1:fN P x s (Rw S p K)) (h2:∀q,p q→fN P y (S q) K):fN P (.cut x y) s K:=by
 rw [v7]
 refine kP _ _ _ _ (fun e s' hh=>?_) h1
 cases e with
 | nrm=>obtain ⟨q,h3,h4⟩:=hh;exact ⟨S q,h4,h2 q h3⟩
 | _=>exact hh
theorem aL {l:List iw} {r:AV} {s:St} (fs:List Nat) (h:ke l (frzs fs s)=some r) (h2:ax r=[]):nV l r .ret s:=⟨(fun _ h=>by cases h),s,Wk.refl s,fs,h,h2⟩
theorem ae {l:List iw} {r:AV} {s:St} (h:ke l (frzs [] s)=some r:=by simp only [go_sem]) (h2:ax r=[]:=by first | rfl | simp [go_sem,b_]):nV l r .ret s:=aL [] h h2
theorem ar {l:List iw} {r:AV} {s:St} (h:ke l (frzs [] s)=some r:=by rfl) (h2:ax r=[]:=by rfl):nV l r .ret s:=aL [] h h2
theorem aa {f:FuncId} {args:List AV} {d:Option Nat} {s:St} {K:St→Prop} {r:AV} (hp:ak P f args r) (hk:K (s.put d r)) (hid:∀x∈args,ax x=[]:=by simp [go_sem]):dB P f args d s K:=lB hp hid hk
end
attribute [go_sem] GY B7 CB xY ya uK Cy xV yd uL Cw xT GP BY Cx xU Cr xP GX B6 GH BR G_ Cc GL BU Ha Ce GQ BZ CE x7 CF x8 GE BO Ct xR CA xX CC xZ LL Gw GK BT GM BV GN BW GO BX Cz xW GR B0 CD x6 G7 B_ GF BP GG BQ GD BN Cs xQ GJ BS GT B2
attribute [go_sem] KD FM KE Kp AS Kq FJ AT FH Ky FI FE KC Kr Ku KF KG Kz FP Kn FF FQ Ko FG FL FN Of Kt Kv Ks Kw Kx FK FO KB KA z7 Ak Ae z_ Af Ad Ac Ab Aa Ag Ah z8 Fj Al si Ai Aj wN wO wU wT wS wQ wP
attribute [go_sem] Ma Mb Mc LX LY LN LO LP L_ L9 Hn PM LZ vg vi vh yV xf yU ve Rb Nk IA EH BL PI PJ PK PL
theorem NC (a b:Prop):ER (.bool false) a b=b:=JF a b
attribute [go_sem ↓] JG JF PA Pz PB
attribute [go_sem high] ND NC LB LA LC
attribute [go_sem] CQ Hd CO He yf CJ Hc CN CG ye rp ro x9 uO pL pK Cv yb xS Bz
attribute [go_sem] Ib Ia vf xe xg yW EF Bq xE Bs Bp By DC DB DA Bt yR Dw wL wM FC FA Fv Fw AC AD AE AF Km EB Kl C0 C1 C2 Aw Ax Ay Az AA AB Fo Fm Fn wZ As At HF HE PO PP w7 IW Am An Ap wV Aq zW zX Av Au AH Fk Fl Br AI AJ AK wX AO AP AQ wY AL AM AN Fx Fy Fz AR Fi Fh zZ zY Id Ic Is It Iu yM Eg tB xi xh xj MB MA DG Ee Ef Ed EE
theorem Py (n:Nat):get [] n = .any:=aN rfl
theorem Px (k n:Nat) (x:AV) (r:List (Nat×AV)):get ((k,x) :: r) n=if k=n then x else get r n:=aN rfl
theorem LF (n:Nat):ab [] n=none:=aN rfl
theorem iB (k n:Nat) (x:ac) (r:List (Nat×ac)):ab ((k,x) :: r) n=if k=n then some x else ab r n:=aN rfl
theorem Pq (n:Nat):del [] n=[]:=aN rfl
theorem Pp (k n:Nat) (x:AV) (r:List (Nat×AV)):del ((k,x) :: r) n=if k=n then del r n else (k,x) :: del r n:=aN rfl
theorem LE (n:Nat):dh [] n=[]:=aN rfl
theorem LD (k n:Nat) (x:ac) (r:List (Nat×ac)):dh ((k,x) :: r) n=if k=n then dh r n else (k,x) :: dh r n:=aN rfl
theorem M2 (i:Nat):lQ i []=[]:=aN rfl
theorem M1 (i k:Nat) (x:AV) (r:List (Nat×AV)):lQ i ((k,x) :: r)=(k,fk i x) :: lQ i r:=aN rfl
theorem M4 (i:Nat):jo i []=[]:=aN rfl
theorem M3 (i k:Nat) (x:ac) (r:List (Nat×ac)):jo i ((k,x) :: r)=(k,bV i x) :: jo i r:=aN rfl
theorem Q8 (e:List (Nat×AV)) (h:List (Nat×ac)) (d:Nat) (x:AV):St.put ⟨e,h⟩ (some d) x =⟨(d,x) :: e,h⟩:=aN rfl
theorem Q7 (s:St) (x:AV):s.put none x=s:=aN rfl
theorem L1 (e:List (Nat×AV)) (h:List (Nat×ac)) (i:Nat):St.kill ⟨e,h⟩ i =⟨lQ i e,jo i (dh h i)⟩:=aN rfl
theorem K1 (s:St):s.eff .no=s:=aN rfl
theorem Gg (e:List (Nat×AV)) (h:List (Nat×ac)) (i:Nat) (o:ac):St.eff ⟨e,h⟩ (.put i o) =⟨e,(i,o) :: dh h i⟩:=aN rfl
theorem Gf (e:List (Nat×AV)) (h:List (Nat×ac)) (i:Nat) (o:ac):St.eff ⟨e,h⟩ (.new i o) =⟨e,(i,o) :: dh h i⟩:=aN rfl
theorem Gh (e:List (Nat×AV)) (h:List (Nat×ac)) (i:Nat) (o:ac):St.eff ⟨e,h⟩ (.reb i o) =⟨lQ i e,(i,o) :: jo i (dh h i)⟩:=aN rfl
theorem Hy (s:St):kills [] s=s:=aN rfl
theorem Hx (i:Nat) (r:List Nat) (s:St):kills (i :: r) s=kills r (s.kill i):=aN rfl
theorem KY (e:List (Nat×AV)):dels [] e=e:=aN rfl
theorem KX (d:Nat) (r:List Nat) (e:List (Nat×AV)):dels (d :: r) e=dels r (del e d):=aN rfl
theorem Rr (g:Nat→AV) (k:Nat):val g (.s k)=g k:=aN rfl
theorem Rq (g:Nat→AV) (x:AV):val g (.c x)=x:=aN rfl
theorem D3 (k:Nat) (b:Bool) (s:St):refine (.s k) b s=s.put (some k) (.bool b):=aN rfl
theorem D2 (x:AV) (b:Bool) (s:St):refine (.c x) b s=s:=aN rfl
attribute [go_sem] Py Px LF iB Pq Pp LE LD M2 M1 M4 M3 Q8 Q7 L1 K1 Gg Gf Gh Hy Hx KY KX Rr Rq D3 D2
attribute [go_sem] fY gY eQ dJ db cH A_ gr
attribute [go_sem] fk bV iI mV mG mC mP ax bU be bt bo bu ao aH fM cL dR jm rC iS aM.tch aM.isReb aM.isPut aM.ids
attribute [go_sem] ke rq sR qC frzs St.frz qr frz1 BK xO kJ rf lF iZ fb fZ ii kI jR
attribute [go_sem] ee List.map_nil kx mL mM List.all_cons List.all_nil List.any_cons List.any_nil List.contains_cons List.contains_nil pB List.flatMap_nil List.drop_succ_cons List.drop_zero List.take_succ_cons dN pD lp dn
attribute [go_sem] List.getElem?_cons_zero List.getElem?_cons_succ List.set_cons_zero List.set_cons_succ
attribute [go_sem] cK Option.map_none Option.getD_some Option.getD_none Option.isSome_some
attribute [go_sem] bv bA Bool.and_true jv Bool.and_false lr Bool.or_true rX Bool.or_false rV
attribute [go_sem] true_and and_true true_implies implies_true false_implies cX fp not_true_eq_false not_false_eq_true and_self true_or or_true false_or or_false
section
variable {P:Program} [aS P]
def IB (d:Nat) (x:AV):Option (AV×aM) :=
 match x with
 | .str s=>some (.mm d false,.new d (@ac.mk 0 0 [] false (.it s 0)))
 | _=>none
def sY (k:Bool) (x:AV) (h:Nat→Option ac) (f:Nat→ac→Option (AV×aM)):Option (AV×aM) :=
 match x with
 | .mm id k'=>if k=k' then (h id).bind (f id) else none
 | _=>none
def PY (x:AV) (h:Nat→Option ac) (f:ac→Option (AV×aM)):Option (AV×aM) :=
 match x with
 | .fm es=>f (@ac.mk 0 0 [] false (.mp es))
 | x=>sY true x h fun _=>f
def Fq (o:ac):Option (AV×aM):=(kG o).map fun es=>(.int .i64 es.length,.no)
def yp (x n y:AV) (h:Nat→Option ac):Option (AV×aM) :=
 match n with
 | .int .i64 n=>sY true x h fun id=>wW id n y
 | _=>none
theorem sz (d:Nat) (x:AV) (h:Nat→Option ac):e_ d .rng [x] h=IB d x:=by cases x<;>rfl
theorem sy (d:Nat) (x:AV) (h:Nat→Option ac):e_ d .nxt [x] h=sY false x h qR:=by
 cases x<;>try rfl
 rename_i id k
 cases k<;>rfl
theorem su (d:Nat) (x:AV) (h:Nat→Option ac):e_ d .mln [x] h=sY true x h fun _=>Fq:=by
 cases x<;>try rfl
 rename_i id k
 cases k<;>rfl
theorem ss (d:Nat) (ok:Bool) (kd:KK) (z x y:AV) (h:Nat→Option ac):e_ d (.mlk ok kd z) [x,y] h=PY x h (j3 ok kd z y):=by
 cases x<;>try rfl
 rename_i id k
 cases k<;>rfl
theorem sx (d:Nat) (kd:KK) (x y q:AV) (h:Nat→Option ac):e_ d (.mup kd) [x,y,q] h=sY true x h fun id=>nZ id kd y q:=by
 cases x<;>try rfl
 rename_i id k
 cases k<;>rfl
theorem sv (d:Nat) (kd:KK) (z x y:AV) (h:Nat→Option ac):e_ d (.mnt kd z) [x,y] h=sY true x h fun id=>sn id kd z y:=by
 cases x<;>try rfl
 rename_i id k
 cases k<;>rfl
theorem sw (d:Nat) (x n q:AV) (h:Nat→Option ac):e_ d .mst [x,n,q] h=yp x n q h:=by
 by_cases hn:∃m,n = .int .i64 m
 ·obtain ⟨m,rfl⟩:=hn
  cases x<;>try rfl
  rename_i id k
  cases k<;>rfl
 ·have h1:yp x n q h=none:=by
   unfold yp
   split
   ·exact absurd ⟨_,rfl⟩ hn
   ·rfl
  rw [h1]
  unfold e_
  split<;>first | rfl | (simp_all;done)
theorem G9 (d:Nat) (x:IV) (g:Option (Nat×Bool)) (s:St) (K:St→Prop):fq P ⟨some d,.mop .rng [x],g⟩ s K=(d<1000∧bj (pC K (s.kill d) (some d)) (IB d (val (get (s.kill d).env) x))):=by
 rw [← sz d _ (ab (s.kill d).heap)];rfl
theorem GS (d:Nat) (g:Option (Nat×Bool)) (s:St) (K:St→Prop):fq P ⟨some d,.mop .mkm [],g⟩ s K=(d<1000∧bj (pC K (s.kill d) (some d)) (some (.mm d true,.new d (@ac.mk 0 0 [] false (.mp []))))):=rfl
theorem Cb (al:List (Nat×Nat)) (i d:Nat) (x:IV) (g:Option (Nat×Bool)) (bf:List Nat) (hist:List HI) (s:St) (K:List HI→St→Prop):bX P al i ⟨⟨some d,.mop .rng [x],g⟩,bf⟩ hist s K=bj (lK al i bf (.mop .rng [x]) hist K s (some d)) (IB d (val (get s.env) x)):=by
 rw [← sz d _ (ab s.heap)];rfl
theorem B1 (al:List (Nat×Nat)) (i d:Nat) (g:Option (Nat×Bool)) (bf:List Nat) (hist:List HI) (s:St) (K:List HI→St→Prop):bX P al i ⟨⟨some d,.mop .mkm [],g⟩,bf⟩ hist s K=bj (lK al i bf (.mop .mkm []) hist K s (some d)) (some (.mm d true,.new d (@ac.mk 0 0 [] false (.mp [])))):=rfl
theorem G8 (d:Option Nat) (x:IV) (g:Option (Nat×Bool)) (s:St) (K:St→Prop):fq P ⟨d,.mop .nxt [x],g⟩ s K=bj (pC K s d) (sY false (val (get s.env) x) (ab s.heap) qR):=by
 rw [← sy (d.getD 0)  (val (get s.env) x) (ab s.heap)];rfl
theorem Ca (al:List (Nat×Nat)) (i:Nat) (d:Option Nat) (x:IV) (g:Option (Nat×Bool)) (bf:List Nat) (hist:List HI) (s:St) (K:List HI→St→Prop):bX P al i ⟨⟨d,.mop .nxt [x],g⟩,bf⟩ hist s K=bj (lK al i bf (.mop .nxt [x]) hist K s d) (sY false (val (get s.env) x) (ab s.heap) qR):=by
 rw [← sy (d.getD 0)  (val (get s.env) x) (ab s.heap)];rfl
theorem GV (d:Option Nat) (x:IV) (g:Option (Nat×Bool)) (s:St) (K:St→Prop):fq P ⟨d,.mop .mln [x],g⟩ s K=bj (pC K s d) (sY true (val (get s.env) x) (ab s.heap) fun _=>Fq):=by
 rw [← su (d.getD 0)  (val (get s.env) x) (ab s.heap)];rfl
theorem B4 (al:List (Nat×Nat)) (i:Nat) (d:Option Nat) (x:IV) (g:Option (Nat×Bool)) (bf:List Nat) (hist:List HI) (s:St) (K:List HI→St→Prop):bX P al i ⟨⟨d,.mop .mln [x],g⟩,bf⟩ hist s K=bj (lK al i bf (.mop .mln [x]) hist K s d) (sY true (val (get s.env) x) (ab s.heap) fun _=>Fq):=by
 rw [← su (d.getD 0)  (val (get s.env) x) (ab s.heap)];rfl
theorem GU (d:Option Nat) (ok:Bool) (kd:KK) (z:AV) (x y:IV) (g:Option (Nat×Bool)) (s:St) (K:St→Prop):fq P ⟨d,.mop (.mlk ok kd z) [x,y],g⟩ s K=bj (pC K s d) (PY (val (get s.env) x) (ab s.heap) (j3 ok kd z (val (get s.env) y))):=by
 rw [← ss (d.getD 0) ok kd z (val (get s.env) x) (val (get s.env) y) (ab s.heap)];rfl
theorem B3 (al:List (Nat×Nat)) (i:Nat) (d:Option Nat) (ok:Bool) (kd:KK) (z:AV) (x y:IV) (g:Option (Nat×Bool)) (bf:List Nat) (hist:List HI) (s:St) (K:List HI→St→Prop):bX P al i ⟨⟨d,.mop (.mlk ok kd z) [x,y],g⟩,bf⟩ hist s K=bj (lK al i bf (.mop (.mlk ok kd z) [x,y]) hist K s d) (PY (val (get s.env) x) (ab s.heap) (j3 ok kd z (val (get s.env) y))):=by
 rw [← ss (d.getD 0) ok kd z (val (get s.env) x) (val (get s.env) y) (ab s.heap)];rfl
theorem G6 (d:Option Nat) (kd:KK) (x y q:IV) (g:Option (Nat×Bool)) (s:St) (K:St→Prop):fq P ⟨d,.mop (.mup kd) [x,y,q],g⟩ s K=bj (pC K s d) (sY true (val (get s.env) x) (ab s.heap) fun id=>nZ id kd (val (get s.env) y) (val (get s.env) q)):=by
 rw [← sx (d.getD 0) kd (val (get s.env) x) (val (get s.env) y) (val (get s.env) q) (ab s.heap)];rfl
theorem B9 (al:List (Nat×Nat)) (i:Nat) (d:Option Nat) (kd:KK) (x y q:IV) (g:Option (Nat×Bool)) (bf:List Nat) (hist:List HI) (s:St) (K:List HI→St→Prop):bX P al i ⟨⟨d,.mop (.mup kd) [x,y,q],g⟩,bf⟩ hist s K=bj (lK al i bf (.mop (.mup kd) [x,y,q]) hist K s d) (sY true (val (get s.env) x) (ab s.heap) fun id=>nZ id kd (val (get s.env) y) (val (get s.env) q)):=by
 rw [← sx (d.getD 0) kd (val (get s.env) x) (val (get s.env) y) (val (get s.env) q) (ab s.heap)];rfl
theorem GW (d:Option Nat) (kd:KK) (z:AV) (x y:IV) (g:Option (Nat×Bool)) (s:St) (K:St→Prop):fq P ⟨d,.mop (.mnt kd z) [x,y],g⟩ s K=bj (pC K s d) (sY true (val (get s.env) x) (ab s.heap) fun id=>sn id kd z (val (get s.env) y)):=by
 rw [← sv (d.getD 0) kd z (val (get s.env) x) (val (get s.env) y) (ab s.heap)];rfl
theorem B5 (al:List (Nat×Nat)) (i:Nat) (d:Option Nat) (kd:KK) (z:AV) (x y:IV) (g:Option (Nat×Bool)) (bf:List Nat) (hist:List HI) (s:St) (K:List HI→St→Prop):bX P al i ⟨⟨d,.mop (.mnt kd z) [x,y],g⟩,bf⟩ hist s K=bj (lK al i bf (.mop (.mnt kd z) [x,y]) hist K s d) (sY true (val (get s.env) x) (ab s.heap) fun id=>sn id kd z (val (get s.env) y)):=by
 rw [← sv (d.getD 0) kd z (val (get s.env) x) (val (get s.env) y) (ab s.heap)];rfl
theorem GZ (d:Option Nat) (x y q:IV) (g:Option (Nat×Bool)) (s:St) (K:St→Prop):fq P ⟨d,.mop .mst [x,y,q],g⟩ s K=bj (pC K s d) (yp (val (get s.env) x) (val (get s.env) y) (val (get s.env) q) (ab s.heap)):=by
 rw [← sw (d.getD 0)  (val (get s.env) x) (val (get s.env) y) (val (get s.env) q) (ab s.heap)];rfl
theorem B8 (al:List (Nat×Nat)) (i:Nat) (d:Option Nat) (x y q:IV) (g:Option (Nat×Bool)) (bf:List Nat) (hist:List HI) (s:St) (K:List HI→St→Prop):bX P al i ⟨⟨d,.mop .mst [x,y,q],g⟩,bf⟩ hist s K=bj (lK al i bf (.mop .mst [x,y,q]) hist K s d) (yp (val (get s.env) x) (val (get s.env) y) (val (get s.env) q) (ab s.heap)):=by
 rw [← sw (d.getD 0)  (val (get s.env) x) (val (get s.env) y) (val (get s.env) q) (ab s.heap)];rfl
theorem D9 (d:Nat) (s:List UInt8):IB d (.str s)=some (.mm d false,.new d (@ac.mk 0 0 [] false (.it s 0))):=rfl
theorem P3 (id:Nat) (h:Nat→Option ac) (f:Nat→ac→Option (AV×aM)):sY true (.mm id true) h f=(h id).bind (f id):=rfl
theorem P0 (id:Nat) (h:Nat→Option ac) (f:ac→Option (AV×aM)):PY (.mm id true) h f=(h id).bind f:=rfl
theorem PZ (es:List (AV×AV)) (h:Nat→Option ac) (f:ac→Option (AV×aM)):PY (.fm es) h f=f (@ac.mk 0 0 [] false (.mp es)):=rfl
theorem P2 (id:Nat) (h:Nat→Option ac) (f:Nat→ac→Option (AV×aM)):sY false (.mm id false) h f=(h id).bind (f id):=rfl
theorem Mq (x y:AV) (n:Int) (h:Nat→Option ac):yp x (.int .i64 n) y h=sY true x h fun id=>wW id n y:=rfl
theorem vb {α β:Type} (x:α) (f:α→Option β):(some x).bind f=f x:=rfl
theorem Fu (K:AV→aM→Prop) (id t st:Nat) (rows:List (List AV)) (r:Bool) (s:List UInt8) (pos:Nat):bj K (qR id (@ac.mk t st rows r (.it s pos))) =
  if pos<s.length then K (.tup [.bool true,.int .i64 pos,.int .i32 (Utf8.decode ⟨s.toArray⟩ pos).1]) (.put id (@ac.mk t st rows r (.it s (pos+(Utf8.decode ⟨s.toArray⟩ pos).2)))) else K (.tup [.bool false]) .no:=by
 simp only [qR,Nl]
 split<;>rfl
theorem Fr (t st:Nat) (rows:List (List AV)) (r:Bool) (es:List (AV×AV)):Fq (@ac.mk t st rows r (.mp es))=some (.int .i64 es.length,.no):=rfl
def Vs (K:AV→aM→Prop) (ok:Bool) (z:AV) (es:List (AV×AV)) (q:Option (Option Nat)):Prop :=
 match q with
 | some (some i)=>match es[i]? with
  | some e=>K (if ok then .tup [e.2,.bool true] else e.2) .no
  | none=>False
 | some none=>K (if ok then .tup [z,.bool false] else z) .no
 | none=>False
theorem Fp (K:AV→aM→Prop) (ok:Bool) (kd:KK) (z y:AV) (t st:Nat) (rows:List (List AV)) (r:Bool) (es:List (AV×AV)):bj K (j3 ok kd z y (@ac.mk t st rows r (.mp es)))=Vs K ok z es (gF kd y es):=by
 simp only [j3,kG,Vs]
 cases gF kd y es with
 | none=>rfl
 | some q=>cases q with
  | none=>rfl
  | some i=>cases h:es[i]? <;> simp [h,bj]
theorem Fs (K:AV→aM→Prop) (id:Nat) (kd:KK) (y q:AV) (t st:Nat) (rows:List (List AV)) (r:Bool) (es:List (AV×AV)):bj K (nZ id kd y q (@ac.mk t st rows r (.mp es))) =
  (ig y=true∧ig q=true∧∃es',DX kd y q es=some es'∧K .any (.put id (@ac.mk t st rows r (.mp es')))):=by
 simp only [nZ,kG]
 cases ig y<;>cases ig q<;>cases DX kd y q es<;>simp [bj]
def yT (b:Bool) (x:AV) (K:AV→aM→Prop):Prop :=
 match x with
 | .sl _ []=>K (.bool b) .no∧K (.bool (!b)) .no
 | x=>match ue b x with
  | some v=>K v .no
  | none=>False
theorem Hb (d:Option Nat) (b:Bool) (x:IV) (g:Option (Nat×Bool)) (s:St) (K:St→Prop):fq P ⟨d,.snl b x,g⟩ s K=yT b (val (get s.env) x) (pC K s d):=by
 show (match val (get s.env) x with
  | .sl _ []=>K (s.put d (.bool b))∧K (s.put d (.bool (!b)))
  | x=>match ue b x with
   | some v=>K (s.put d v)
   | none=>False)=_
 generalize val (get s.env) x=v
 unfold yT
 split
 ·rfl
 ·split<;>rfl
theorem Cf (al:List (Nat×Nat)) (i:Nat) (d:Option Nat) (b:Bool) (x:IV) (g:Option (Nat×Bool)) (bf:List Nat) (hist:List HI) (s:St) (K:List HI→St→Prop):bX P al i ⟨⟨d,.snl b x,g⟩,bf⟩ hist s K=bj (lK al i bf (.snl b x) hist K s d) (res (ue b (val (get s.env) x))):=aN rfl
theorem IR (b:Bool) (K:AV→aM→Prop):yT b .nl K=K (.bool (!b)) .no:=rfl
theorem Nt (b:Bool) (st:Nat) (K:AV→aM→Prop):yT b (.sl st []) K=(K (.bool b) .no∧K (.bool (!b)) .no):=rfl
theorem Nu (b:Bool) (st:Nat) (r:List AV) (rows:List (List AV)) (K:AV→aM→Prop):yT b (.sl st (r :: rows)) K=K (.bool b) .no:=rfl
theorem dM (b:Bool) (st:Nat) (rows:List (List AV)) (K:AV→aM→Prop) (h:K (.bool b) .no∧(rows=[]→K (.bool (!b)) .no)):yT b (.sl st rows) K:=by
 cases rows with
 | nil=>exact ⟨h.1,h.2 rfl⟩
 | cons r rows=>exact h.1
end
theorem ac.k_e (t:TypeId) (st:Nat) (rows:List (List AV)) (r:Bool) (k:Kd):(@ac.mk t st rows r k).k=k:=rfl
attribute [go_sem] ac.k_e
attribute [go_sem] Hb Cf IR Nt Nu
attribute [go_sem] G9 GS Cb B1 G8 Ca GV B4 GU B3 G6 B9 GW B5 GZ B8 D9 P3 P2 P0 PZ Mq vb Fu Fr Fp Fs
def gT (ρ:Nat→Nat):AV→AV
 | .ms id st off len=>.ms (ρ id) st off len
 | .mp id st row off=>.mp (ρ id) st row off
 | .mm id k=>.mm (ρ id) k
 | x=>x
def cQ (ρ:Nat→Nat):AV→AV
 | .fn f caps=>.fn f (caps.map (gT ρ))
 | x=>gT ρ x
def gh (ρ:Nat→Nat):AV→AV
 | .agg cells=>.agg (cells.map (cQ ρ))
 | x=>cQ ρ x
def renV (ρ:Nat→Nat):AV→AV
 | .tup vs=>.tup (vs.map (gh ρ))
 | x=>gh ρ x
def dD (ρ:Nat→Nat) (o:ac):ac:=if o.isRec then { o with rows:=o.rows.map (fun r=>r.map (cQ ρ)) } else o
def cS (ρ:Nat→Nat):List (Nat×ac)→List (Nat×ac)
 | []=>[]
 | (i,o) :: r=>(ρ i,dD ρ o) :: cS ρ r
section
variable {P:Program} [aS P] {bl bl':Nat→Option Nat} {M M':Nat→Prop} {w:World} {ρ τ:Nat→Nat}
theorem IRel.mono {v:Value} {x:AV} (h:IRel M w v x) (hM:∀b,M' b→M b):IRel M' w v x:=h.tr fun b hb _=>⟨fun h'=>hb (hM b h'),rfl⟩
theorem tx {v:Value} {x:AV} (h:cO bl M w v x) (hb:∀i,bl' (ρ i)=bl i) (hM:∀b,M' b→M b):cO bl' M' w v (gT ρ x):=by
 cases x with
 | ms id st off len =>
  simp only [gT,cO] at h ⊢
  rw [hb]
  exact h
 | mp id st row off =>
  simp only [gT,cO] at h ⊢
  rw [hb]
  exact h
 | mm id k =>
  simp only [gT,cO] at h ⊢
  rw [hb]
  exact h
 | _=>exact IRel.mono h hM
theorem pf {v:Value} {x:AV} (h:bq bl M w v x) (hb:∀i,bl' (ρ i)=bl i) (hM:∀b,M' b→M b):bq bl' M' w v (cQ ρ x):=by
 cases x with
 | fn f caps =>
  obtain ⟨cs,h1,h2⟩:=h
  exact ⟨cs,h1,h2.mapRight fun _ _ hr=>tx hr hb hM⟩
 | _=>simp only [bq] at h;exact tx (ρ:=ρ) h hb hM
theorem tw {v:Value} {x:AV} (h:df bl M w v x) (hb:∀i,bl' (ρ i)=bl i) (hM:∀b,M' b→M b):df bl' M' w v (gh ρ x):=by
 cases x with
 | agg cells =>
  obtain ⟨cs,h1,h2⟩:=h
  exact ⟨cs,h1,h2.mapRight fun _ _ hr=>pf hr hb hM⟩
 | _=>simp only [df] at h;exact pf (ρ:=ρ) h hb hM
theorem pj {v:Value} {x:AV} (h:aO bl M w v x) (hb:∀i,bl' (ρ i)=bl i) (hM:∀b,M' b→M b):aO bl' M' w v (renV ρ x):=by
 cases x with
 | any=>trivial
 | tup vs =>
  obtain ⟨cs,h1,h2⟩:=h
  exact ⟨cs,h1,h2.mapRight fun _ _ hr=>tw hr hb hM⟩
 | _=>simp only [aO] at h;exact tw (ρ:=ρ) h hb hM
theorem Ni (o:ac):(dD ρ o).t=o.t:=by unfold dD;split<;>rfl
theorem rO (o:ac):(dD ρ o).st=o.st:=by unfold dD;split<;>rfl
theorem pi (o:ac):(dD ρ o).isRec=o.isRec:=by unfold dD;split<;>rfl
theorem cC (h1:∀i,τ (ρ i)=i) (h2:∀i,ρ (τ i)=i):∀(σ:List (Nat×ac)) (i:Nat),ab (cS ρ σ) i=(ab σ (τ i)).map (dD ρ)
 | [],i=>rfl
 | (k,o) :: r,i=>by
  simp only [cS,ab,cC h1 h2 r i]
  by_cases h:ρ k=i
  ·rw [bz h,bz (by rw [← h,h1])];rfl
  ·rw [aJ h,aJ (fun hk=>h (by rw [hk,h2]))]
theorem D8 {MF:Nat→Prop} {o:ac} {b:Nat} (h:gN bl M MF w o b) (hb:∀i,bl' (ρ i)=bl i) (hM:∀b,M' b→M b):gN bl' M' MF w (dD ρ o) b:=by
 rcases h with ⟨gk,c1,fr,h2,h3,h4,h5,h6,h7⟩ | hsp
 rotate_left
 ·have:dD ρ o=o:=by simp [dD,hsp.isRec]
  rw [this]
  exact .inr hsp
 refine .inl ⟨by unfold dD;split<;>exact gk,c1,fr,by rw [Ni];exact h2,h3,h4,fun k r hr=>?_,?_,fun k q r x hr hx=>?_⟩
 ·rw [rO]
  unfold dD at hr
  split at hr
  ·simp only [d_,cj] at hr
   obtain ⟨r0,h8,rfl⟩:=hr
   simpa using h5 k r0 h8
  ·exact h5 k r hr
 ·rw [rO]
  unfold dD
  split<;>simpa using h6
 ·rw [rO,pi]
  unfold dD at hr
  split at hr
  ·rename_i hrc
   simp only [d_,cj] at hr
   obtain ⟨r0,h8,rfl⟩:=hr
   simp only [d_,cj] at hx
   obtain ⟨x0,h9,rfl⟩:=hx
   obtain ⟨u,hu1,hu2⟩:=h7 k q r0 x0 h8 h9
   rw [hrc] at hu2 ⊢
   exact ⟨u,hu1,pf hu2 hb hM⟩
  ·rename_i hrc
   obtain ⟨u,hu1,hu2⟩:=h7 k q r x hr hx
   have hrc':o.isRec=false:=by simpa using hrc
   rw [hrc'] at hu2 ⊢
   exact ⟨u,hu1,IRel.mono hu2 hM⟩
theorem ph {MF:Nat→Prop} {σ:List (Nat×ac)} (h1:∀i,τ (ρ i)=i) (h2:∀i,ρ (τ i)=i) (h:pE bl M MF w (ab σ)) (hb:∀i,bl' (ρ i)=bl i) (hM:∀b,M' b→M b):pE bl' M' MF w (ab (cS ρ σ)):=by
 have hs:∀{i o},ab (cS ρ σ) i=some o→∃o0,ab σ (τ i)=some o0∧o=dD ρ o0:=fun {i o} hi=>by
  rw [cC h1 h2] at hi
  simp only [cj] at hi
  obtain ⟨o0,h3,h4⟩:=hi
  exact ⟨o0,h3,h4.symm⟩
 have hbt:∀i,bl' i=bl (τ i):=fun i=>by rw [← hb,h2]
 refine ⟨fun i o hi=>?_,fun i i' o o' b hi hi' q q'=>?_⟩
 ·obtain ⟨o0,h3,rfl⟩:=hs hi
  rcases h.1 _ o0 h3 with hn | ⟨b,h4,h5⟩
  ·refine .inl ⟨?_,by rw [pi];exact hn.2.1,by rw [hbt];exact hn.2.2⟩
   unfold dD
   rw [hn.2.1]
   exact hn.1
  ·exact .inr ⟨b,by rw [hbt];exact h4,D8 h5 hb hM⟩
 ·obtain ⟨o0,h3,_⟩:=hs hi
  obtain ⟨o1,h4,_⟩:=hs hi'
  have:=h.2 _ _ _ _ b h3 h4 (by rw [← hbt];exact q) (by rw [← hbt];exact q')
  rw [← h2 i,← h2 i',this]
theorem pg {MF:Nat→Prop} {σ:List (Nat×ac)} (h1:∀i,τ (ρ i)=i) (h2:∀i,ρ (τ i)=i) (hb:∀i,bl' (ρ i)=bl i) (b:Nat) (h:aT bl' MF (ab (cS ρ σ)) b):aT bl MF (ab σ) b:=by
 rcases h with h | ⟨i,o,h3,h4⟩
 ·exact .inl h
 ·rw [cC h1 h2] at h3
  simp only [cj] at h3
  obtain ⟨o0,h5,_⟩:=h3
  exact .inr ⟨_,o0,h5,by rw [← hb,h2];exact h4⟩
theorem D7 {σ:List (Nat×ac)} (h1:∀i,τ (ρ i)=i) (h2:∀i,ρ (τ i)=i) (hb:∀i,bl' (ρ i)=bl i) (b:Nat) (h:gM bl' (cS ρ σ) b):gM bl σ b:=by
 obtain ⟨i,o,h3,h4⟩:=h
 rw [cC h1 h2] at h3
 simp only [cj] at h3
 obtain ⟨o0,h5,_⟩:=h3
 exact ⟨_,o0,h5,by rw [← hb,h2];exact h4⟩
theorem oL (x:AV):bt (gT ρ x)=(bt x).map ρ:=by cases x<;>rfl
theorem du {f g:AV→List Nat} {r:AV→AV} (h:∀x,f (r x)=(g x).map ρ):∀l:List AV,(l.map r).flatMap f=(l.flatMap g).map ρ
 | []=>rfl
 | x :: l=>by simp only [ee,pB,du h l,h,List.map_append]
theorem oK (x:AV):be (cQ ρ x)=(be x).map ρ:=by
 cases x with
 | fn f caps=>exact du oL caps
 | _=>rfl
theorem Cg (x:AV):bU (gh ρ x)=(bU x).map ρ:=by
 cases x with
 | agg cells=>exact du oK cells
 | fn f caps=>exact du oL caps
 | _=>rfl
theorem Ci (x:AV):ax (renV ρ x)=(ax x).map ρ:=by
 cases x with
 | tup vs=>exact du Cg vs
 | agg cells=>exact du oK cells
 | fn f caps=>exact du oL caps
 | _=>rfl
theorem Ch (o:ac):bo (dD ρ o)=(bo o).map ρ:=by
 unfold bo
 rw [pi]
 split
 ·rename_i h
  simp only [dD,h,cX]
  generalize o.rows=l
  induction l with
  | nil=>rfl
  | cons r l ih=>simp only [ee,pB,ih,List.map_append];congr 1;exact du oK r
 ·rfl
theorem oY:∀{σ:List (Nat×ac)} {p:Nat×ac},p∈cS ρ σ→∃q∈σ,p=(ρ q.1,dD ρ q.2)
 | [],_,h=>by cases h
 | (i,o) :: r,p,h=>by
  simp only [cS,bE] at h
  rcases h with h | h
  ·exact ⟨(i,o),by simp,h⟩
  ·obtain ⟨q,h1,h2⟩:=oY h
   exact ⟨q,by simp [h1],h2⟩
theorem fX.ren {r:AV} {σ:List (Nat×ac)} (h1:∀i,τ (ρ i)=i) (h2:∀i,ρ (τ i)=i) (h:fX r σ):fX (renV ρ r) (cS ρ σ):=by
 have key:∀{i},(ab σ i).isSome=true→(ab (cS ρ σ) (ρ i)).isSome=true:=fun {i} hi=>by
  rw [cC h1 h2,h1]
  simpa using hi
 refine ⟨fun i hi=>?_,fun p hp i hi=>?_⟩
 ·rw [Ci,List.mem_map] at hi
  obtain ⟨j,h3,rfl⟩:=hi
  exact key (h.1 j h3)
 ·obtain ⟨q,h3,rfl⟩:=oY hp
  simp only [Ch,List.mem_map] at hi
  obtain ⟨j,h4,rfl⟩:=hi
  exact key (h.2 q h3 j h4)
theorem aE.ren {f:FuncId} {args args2:List AV} {σ σ2:List (Nat×ac)} {Sb:Nat→Prop} {Post:AV→List (Nat×ac)→Prop} (h:aE P f args σ Sb Post) (ρ τ:Nat→Nat) (h1:∀i,τ (ρ i)=i) (h2:∀i,ρ (τ i)=i)
  (ha:args2.map (renV τ)=args) (hσ:cS τ σ2=σ):aE P f args2 σ2 (fun id=>Sb (τ id)) (fun r σ'=>∃r0 σ0,Post r0 σ0∧r=renV ρ r0∧σ'=cS ρ σ0):=by
 intro bl MF w cargs hTH hTW hH hMF hargs
 subst ha hσ
 have hb:∀i,(fun i=>bl (ρ i)) (τ i)=bl i:=fun i=>by simp only [h2]
 have hmut:∀b,aT (fun i=>bl (ρ i)) MF (ab (cS τ σ2)) b→aT bl MF (ab σ2) b:=fun b hm=>pg h2 h1 hb b hm
 have hblk:∀b,gM (fun i=>bl (ρ i)) (cS τ σ2) b→gM bl σ2 b:=fun b hm=>D7 h2 h1 hb b hm
 refine (h (fun i=>bl (ρ i)) MF w cargs hTH (fun b hb hB=>hTW b hb (hmut b hB)) (ph h2 h1 hH hb hmut) hMF (hargs.mapRight fun _ _ hr=>pj hr hb hmut)).mono fun e w'=>?_
 rintro ⟨v,r,σ',bl',rfl,hp,hc,hH',hv,hst,hnew,hsb⟩
 have hb':∀i,(fun i=>bl' (τ i)) (ρ i)=bl' i:=fun i=>by simp only [h1]
 have hmut':∀b,aT (fun i=>bl' (τ i)) MF (ab (cS ρ σ')) b→aT bl' MF (ab σ') b:=fun b hm=>pg h1 h2 hb' b hm
 refine ⟨v,renV ρ r,cS ρ σ',fun i=>bl' (τ i),rfl,⟨r,σ',hp,rfl,rfl⟩,hc.ren h1 h2,ph h1 h2 hH' hb' hmut',pj hv hb' hmut',?_,fun id o b hi hq=>?_,fun id hid=>?_⟩
 ·exact ⟨hst.size,fun b hlt hn=>hst.keep b hlt fun hh=>hn (hblk b hh),hst.shape,hst.os,hst.out⟩
 ·rw [cC h1 h2] at hi
  simp only [cj] at hi
  obtain ⟨o0,h5,_⟩:=hi
  exact (hnew _ o0 b h5 hq).imp_right (hblk b)
 ·show bl' (τ id)=bl id
  rw [hsb _ hid]
  exact hb id
def cM (a b i:Nat):Nat:=if i=a then b else if i=b then a else i
theorem iL (a b i:Nat):cM a b (cM a b i)=i:=by
 unfold cM
 by_cases h1:i=a<;>by_cases h2:i=b<;>simp [h1,h2]<;>(try split)<;>simp_all
theorem aE.fresh {f:FuncId} {args:List AV} {Sb:Nat→Prop} {id st off len:Nat} {o:ac} (h:aE P f args [] Sb (fun r σ'=>r = .ms id st off len∧σ'=[(id,o)])) (ho:o.isRec=false) (hargs:∀x∈args,ax x=[]) (j:Nat) :
  aE P f args [] (fun _=>False) (fun r σ'=>r = .ms j st off len∧σ'=[(j,o)]):=by
 have hren:∀x:AV,ax x=[]→renV (cM id j) x=x:=by
  have hP:∀x:AV,bt x=[]→gT (cM id j) x=x:=fun x hx=>by cases x<;>first | rfl | (simp [bt] at hx)
  have hL:∀{f:AV→List Nat} {r:AV→AV},(∀x,f x=[]→r x=x)→∀l:List AV,l.flatMap f=[]→l.map r=l:=fun {f r} hh l=>by
   induction l with
   | nil=>exact fun _=>rfl
   | cons y l ih =>
    intro hl
    simp only [pB,List.append_eq_nil_iff] at hl
    simp only [ee,hh y hl.1,ih hl.2]
  have hC:∀x:AV,be x=[]→cQ (cM id j) x=x:=fun x hx=>by
   cases x with
   | fn f caps=>simp only [cQ,hL hP caps hx]
   | _=>first | rfl | (simp [be,bt] at hx)
  have hG:∀x:AV,bU x=[]→gh (cM id j) x=x:=fun x hx=>by
   cases x with
   | agg cells=>simp only [gh,hL hC cells hx]
   | fn f caps=>exact hC (.fn f caps) hx
   | _=>first | rfl | (simp [bU,be,bt] at hx)
  intro x hx
  cases x with
  | tup vs=>simp only [renV,hL hG vs hx]
  | agg cells=>exact hG (.agg cells) hx
  | fn f caps=>exact hG (.fn f caps) hx
  | _=>first | rfl | (simp [ax,bU,be,bt] at hx)
 have hmap:∀l:List AV,(∀x∈l,ax x=[])→l.map (renV (cM id j))=l:=fun l=>by
  induction l with
  | nil=>exact fun _=>rfl
  | cons y l ih=>intro hl;simp only [ee,hren y (hl y (by simp)),ih fun x hx=>hl x (by simp [hx])]
 refine (h.ren (args2:=args) (σ2:=[]) (cM id j) (cM id j) (iL _ _) (iL _ _) (hmap args hargs) rfl).mono (fun _ hf=>hf.elim) ?_
 rintro r σ' ⟨r0,σ0,⟨rfl,rfl⟩,rfl,rfl⟩
 have hs:cM id j id=j:=by simp [cM]
 refine ⟨by simp only [renV,gh,cQ,gT,hs],?_⟩
 simp only [cS,hs,dD,ho]
 rfl
end
def Mf (e:List (Nat×AV)):List (Nat×AV)→Prop
 | []=>True
 | (k,x) :: r=>get e k=x∧Mf e r
def Jk (e:List (Nat×ac)):List (Nat×ac)→Prop
 | []=>True
 | (k,x) :: r=>ab e k=some x∧Jk e r
theorem rx {e:List (Nat×AV)}:∀{l:List (Nat×AV)},Mf e l→∀p∈l,get e p.1=p.2
 | [],_,p,hp=>by cases hp
 | (k,x) :: r,h,p,hp=>by
  rcases bE.1 hp with rfl | hp
  ·exact h.1
  ·exact rx h.2 p hp
theorem nK {e:List (Nat×ac)}:∀{l:List (Nat×ac)},Jk e l→∀p∈l,ab e p.1=some p.2
 | [],_,p,hp=>by cases hp
 | (k,x) :: r,h,p,hp=>by
  rcases bE.1 hp with rfl | hp
  ·exact h.1
  ·exact nK h.2 p hp
theorem Wk.of {s s':St} (h1:Mf s.env s'.env) (h2:Jk s.heap s'.heap):Wk s s':=Wk.le (rx h1) (nK h2)
theorem Wk.frzs:∀(fs:List Nat) (s:St),Wk s (Mw.frzs fs s)
 | [],s=>Wk.refl s
 | i :: r,s=>(Wk.frz s i).trans (Wk.frzs r (s.frz i))
def St.mknil (s:St) (k i st:Nat) (t:TypeId):St:=⟨(k,.ms i st 0 0) :: del (s.kill i).env k,(i,⟨t,st,[],false⟩) :: (s.kill i).heap⟩
theorem Wk.nil (s:St) (k i st:Nat) (t:TypeId) (hk:get s.env k = .nl) (hid:i<1000∨1267650600228229401496703205376≤i):Wk s (s.mknil k i st t):=by
 intro c a w hs
 obtain ⟨bl,hs⟩:=hs.kill i
 obtain ⟨h1,h2⟩:=bT s i
 have hn:=hs.new0 (i:=i) (o:=⟨t,st,[],false⟩) h1 h2 hid rfl rfl
 have hk':get (s.kill i).env k = .nl:=by simp [St.kill,fU,hk,fk,mV,mG,mC,mP]
 refine ⟨_,hn.defers,hn.size,fun j=>?_,?_,hn.step,?_,hn.stab,hn.mf⟩
 all_goals
  have hheap:ab (s.mknil k i st t).heap=cJ (ab (s.kill i).heap) i (some ⟨t,st,[],false⟩):=by
   funext j
   simp only [St.mknil,ab,cJ]
   by_cases h:i=j
   ·rw [bz h,bz h.symm]
   ·rw [aJ h,aJ (Ne.symm h)]
 ·rw [hheap]
  have hj:=hn.env j
  simp only [St.mknil,get]
  by_cases h:k=j
  ·subst h
   rw [bz rfl]
   rw [hk'] at hj
   have hv:tv a k = .slice none 0 0:=by
    simp only [aO,df,bq,cO] at hj
    generalize tv a k=v at hj
    cases hj
    rfl
   exact .inl ⟨hv,rfl,rfl⟩
  ·rw [aJ h,iA,aJ (Ne.symm h)]
   exact hj
 ·rw [hheap]
  exact hn.heap
 ·rw [hheap]
  exact hn.own
def KM (r:AV) (σ:List (Nat×ac)):Bool:=(ax r).all (fun i=>(ab σ i).isSome)&&σ.all fun p=>(bo p.2).all fun i=>(ab σ i).isSome
theorem oi {r:AV} {σ:List (Nat×ac)} (h:KM r σ=true):fX r σ:=by
 simp only [KM,dZ,cZ] at h
 exact ⟨fun i hi=>h.1 i hi,fun p hp i hi=>h.2 p hp i hi⟩
theorem done {l:List iw} {Post:AV→List (Nat×ac)→Prop} {s:St} (fs:List Nat) (r:AV) (σ':List (Nat×ac)) (h1:ke l (frzs fs s)=some r) (h2:Jk (frzs fs s).heap σ') (h3:KM r σ'=true) (h4:Post r σ'):eO l Post .ret s :=
 ⟨(fun _ h=>by cases h),s,Wk.refl s,fs,r,σ',h1,(fun i o hi=>nK h2 _ (aR hi)),oi h3,h4⟩
theorem KZ {l:List iw} {Post:AV→List (Nat×ac)→Prop} {s:St} (fs:List Nat) (r:AV) (σ':List (Nat×ac)) (h1:ke l (frzs fs s)=some r) (h2:Jk (frzs fs s).heap σ') (h3:KM r σ'=true) (h4:Post r σ'):eO l Post .nrm s :=
 ⟨(fun _ h=>by cases h),s,Wk.refl s,fs,r,σ',h1,(fun i o hi=>nK h2 _ (aR hi)),oi h3,h4⟩
theorem Pr {l:List iw} {Post:AV→List (Nat×ac)→Prop} {s:St} (fs:List Nat) (r:AV) (σ':List (Nat×ac)) (h4:Post r σ') (h1:ke l (frzs fs s)=some r:=by simp only [go_sem]) (h2:Jk (frzs fs s).heap σ':=by simp only [go_sem]) (h3:KM r σ'=true:=by exact rfl):eO l Post .ret s:=done fs r σ' h1 h2 h3 h4
theorem vN {l:List iw} {Post:AV→List (Nat×ac)→Prop} {s:St} (fs:List Nat) (r:AV) (σ':List (Nat×ac)) (h4:Post r σ') (h1:ke l (frzs fs s)=some r:=by simp only [go_sem]) (h2:Jk (frzs fs s).heap σ':=by simp only [go_sem]) (h3:KM r σ'=true:=by exact rfl):eO l Post .nrm s:=KZ fs r σ' h1 h2 h3 h4
def ri (n:Int):List AV:=[.int .i64 n]
def ru (n:Int):List AV:=[.int .u8 n]
def rb (b:UInt8):List AV:=[.int .u8 b.toNat]
def rs (s:List UInt8):List AV:=[.str s]
def rt (b:Bool):List AV:=[.bool b]
theorem UW (n:Int):ri n=[.int .i64 n]:=rfl
theorem UZ (n:Int):ru n=[.int .u8 n]:=rfl
theorem UU (b:UInt8):rb b=[.int .u8 b.toNat]:=rfl
theorem UX (s:List UInt8):rs s=[.str s]:=rfl
theorem UY (b:Bool):rt b=[.bool b]:=rfl
section
variable {α:Type}
theorem nQ (id n st row:Nat) (t:TypeId) (f:α→List AV) (l:List α) (v:α) (hn:∀x,(f x).length=n) (hi:(f v).all db=true) :
  m8 id n st row 0 (some ⟨t,st,l.map f,false⟩) (some (f v))=if row<l.length then some (.put id ⟨t,st,(l.set row v).map f,false⟩) else none:=by
 rw [IU _ _ _ _ _ _ _ (by simpa using fun x _=>hn x)]
 simp only [hn,hi,dn,true_and,List.map_set]
theorem Nw (id st row:Nat) (t:TypeId) (l:List Int) (v:Int):m8 id 1 st row 0 (some ⟨t,st,l.map ri,false⟩) (some [.int .i64 v])=if row<l.length then some (.put id ⟨t,st,(l.set row v).map ri,false⟩) else none:=nQ id 1 st row t ri l v (fun _=>rfl) rfl
theorem Nz (id st row:Nat) (t:TypeId) (l:List Int) (v:Int):m8 id 1 st row 0 (some ⟨t,st,l.map ru,false⟩) (some [.int .u8 v])=if row<l.length then some (.put id ⟨t,st,(l.set row v).map ru,false⟩) else none:=nQ id 1 st row t ru l v (fun _=>rfl) rfl
theorem Nx (id st row:Nat) (t:TypeId) (l:List (List UInt8)) (v:List UInt8):m8 id 1 st row 0 (some ⟨t,st,l.map rs,false⟩) (some [.str v])=if row<l.length then some (.put id ⟨t,st,(l.set row v).map rs,false⟩) else none:=nQ id 1 st row t rs l v (fun _=>rfl) rfl
theorem Ny (id st row:Nat) (t:TypeId) (l:List Bool) (v:Bool):m8 id 1 st row 0 (some ⟨t,st,l.map rt,false⟩) (some [.bool v])=if row<l.length then some (.put id ⟨t,st,(l.set row v).map rt,false⟩) else none:=nQ id 1 st row t rt l v (fun _=>rfl) rfl
theorem br (id:Nat) (t:TypeId) (st len:Nat) (f:α→List AV) (l:List α) (ys:List (List AV)) (hl:l.length=len):xc id t st 0 len ys (some ⟨t,st,l.map f,false⟩) =
  if ys.length<137438953472∧len<137438953472∧(id<1000∨1267650600228229401496703205376≤id) then some (.ms id st 0 (len+ys.length),.reb id ⟨t,st,l.map f++ys,false⟩) else none:=eW id t st len _ ys (by simpa using hl)
theorem Ea (st:Nat) (t:TypeId) (r:List AV):D_ st 0 1 (some ⟨t,st,[r],false⟩)=some [r]:=yP st 1 t _ rfl
end
theorem wi {n:Int} (h0:-9223372036854775808≤n) (h1:n<9223372036854775808):IntKind.i64.wrap n=n:=by
 unfold IntKind.wrap
 show (if (true&&decide (n % 18446744073709551616≥9223372036854775808))=true then n % 18446744073709551616 - 18446744073709551616 else n % 18446744073709551616)=n
 by_cases h:n % 18446744073709551616≥9223372036854775808
 ·rw [az h];simp only [jv,cX];omega
 ·rw [au h];simp only [Bool.and_false,tT,fp];omega
theorem A4 (d:Nat) (t:TypeId) (st:Nat) (c:Prop) [Decidable c] (x:Option (List (List AV))):ui d t st (if c then x else none)=if c then ui d t st x else none:=by split<;>rfl
theorem A3 (d:Nat) (t:TypeId) (n:Nat) (c:Prop) [Decidable c] (x:Option (List AV)):FZ d t n (if c then x else none)=if c then FZ d t n x else none:=by split<;>rfl
theorem DQ {α β:Type} (f:α→β) (c:Prop) [Decidable c] (x:Option α):Option.map f (if c then x else none)=if c then Option.map f x else none:=by split<;>rfl
attribute [go_sem] A4 A3 DQ
attribute [go_sem] Mf Jk KM UW UZ UU UX UY Nw Nz Nx Ny Ea I6
theorem Wk.nls (s:St) (k st:Nat) (hk:get s.env k = .nl):Wk s ⟨(k,.sl st []) :: s.env,s.heap⟩:=by
 rintro c a w ⟨bl,hs⟩
 refine ⟨bl,hs.defers,hs.size,fun j=>?_,hs.heap,hs.step,hs.own,hs.stab,hs.mf⟩
 simp only [get]
 split
 ·rename_i h
  subst h
  have:=hs.env k
  rw [hk] at this
  rw [this.nl]
  exact IRel.nls st
 ·exact hs.env j
theorem IRel.nl_sl {M:Nat→Prop} {w:World} {v:Value} (h:IRel M w v .nl) (st:Nat):IRel M w v (.sl st []):=by
 cases h
 exact .nls st
def Mz:List AV→List AV→Prop
 | [],[]=>True
 | x :: l,y :: m=>(x=y∨(x = .nl∧∃st,y = .sl st []))∧Mz l m
 | _,_=>False
theorem wg:∀{l m:List AV},Mz l m→m.length=l.length
 | [],[],_=>rfl
 | _ :: _,_ :: _,h=>by simp [wg h.2]
 | [],_ :: _,h=>h.elim
 | _ :: _,[],h=>h.elim
theorem we:∀{l m:List AV},Mz l m→∀{j:Nat} {y:AV},m[j]? = some y→∃x,l[j]? = some x∧(x=y∨(x = .nl∧∃st,y = .sl st []))
 | [],[],_,j,y,hy=>by simp at hy
 | x :: l,z :: m,h,0,y,hy=>by simp at hy;subst hy;exact ⟨x,rfl,h.1⟩
 | x :: l,z :: m,h,j+1,y,hy=>by simpa using we h.2 (j:=j) (by simpa using hy)
 | [],_ :: _,h,_,_,_=>h.elim
 | _ :: _,[],h,_,_,_=>h.elim
theorem kr {l:List iw} {r:AV} {s s1:St} (hw:Wk s s1) (fs:List Nat) (h:ke l (frzs fs s1)=some r) (h2:ax r=[]):nV l r .ret s:=⟨(fun _ h=>by cases h),s1,hw,fs,h,h2⟩
inductive Ty where
 | bool
 | int (k:IntKind)
 | str
 | sl (e:Ty)
 | nil
 | cons (f:Ty) (r:Ty)
 deriving Inhabited
def Ty.n:Ty→Nat
 | .nil=>0
 | .cons f r=>f.n+r.n
 | _=>1
def Ty.ok:Ty→List AV→Prop
 | .bool,xs=>∃b,xs=[.bool b]
 | .int k,xs=>∃n,xs=[.int k n]∧(Lit.int k n).wf=true
 | .str,xs=>∃s,xs=[.str s]∧s.length≤maxLen
 | .sl e,xs=>xs=[.nl]∨∃rows,xs=[.sl e.n rows]∧rows.length≤maxLen∧∀r∈rows,e.ok r
 | .nil,xs=>xs=[]
 | .cons f r,xs=>∃ys zs,xs=ys++zs∧f.ok ys∧r.ok zs
theorem Ty.ok_len:∀(τ:Ty) (xs:List AV),τ.ok xs→xs.length=τ.n
 | .bool,xs,h=>by obtain ⟨b,rfl⟩:=h;rfl
 | .int k,xs,h=>by obtain ⟨n,rfl,_⟩:=h;rfl
 | .str,xs,h=>by obtain ⟨s,rfl,_⟩:=h;rfl
 | .sl e,xs,h=>by rcases h with rfl | ⟨rows,rfl,_⟩<;>rfl
 | .nil,xs,h=>by subst h;rfl
 | .cons f r,xs,h=>by
  obtain ⟨ys,zs,rfl,h1,h2⟩:=h
  simp only [wF,Ty.n,Ty.ok_len f ys h1,Ty.ok_len r zs h2]
def pz (g:TypeId→Option Ty) (P:Program) (off:Nat):List Field→Option Ty
 | []=>some .nil
 | f :: r=>if f.offset=off then (match g f.type,pz g P (off+P.cellsOf f.type) r with
  | some a,some b=>if a.n=P.cellsOf f.type then some (.cons a b) else none
  | _,_=>none) else none
def jL (P:Program):Nat→TypeId→Option Ty
 | 0,_=>none
 | f+1,t=>match P.underlying t with
  | some .bool=>some .bool
  | some (.int k)=>some (.int k)
  | some .string=>some .str
  | some (.slice e)=>match jL P f e with
   | some a=>if a.n=P.cellsOf e∧0<a.n then some (.sl a) else none
   | none=>none
  | some (.struct fs)=>match pz (jL P f) P 0 fs.toList with
   | some a=>if a.n=P.cellsOf t then some a else none
   | none=>none
  | _=>none
theorem sX {α β:Type} {g:α→Option β}:∀{l:List α} {r:List β},l.mapM g=some r→r.length=l.length∧∀(i:Nat) (x:α),l[i]? = some x→∃y,r[i]? = some y∧g x=some y
 | [],r,h=>by
  simp only [List.mapM_nil,pure,bH] at h
  subst h
  exact ⟨rfl,fun i x hx=>by simp at hx⟩
 | a :: l,r,h=>by
  simp only [List.mapM_cons,bind,jx,pure,bH] at h
  obtain ⟨y,h1,ys,h2,rfl⟩:=h
  obtain ⟨h3,h4⟩:=sX h2
  refine ⟨by simp [h3],fun i x hx=>?_⟩
  cases i with
  | zero =>
   simp only [List.getElem?_cons_zero,bH] at hx
   subst hx
   exact ⟨y,rfl,h1⟩
  | succ i=>exact h4 i x (by simpa using hx)
theorem kh {β:Type} {g:Nat→Option β} {n:Nat} {r:List β} (h:(List.range n).mapM g=some r):r.length=n∧∀i,i<n→∃y,r[i]? = some y∧g i=some y:=by
 obtain ⟨h1,h2⟩:=sX h
 exact ⟨by simpa using h1,fun i hi=>h2 i i (by simp [hi])⟩
theorem qa {w:World} {base:Nat} {a:Addr} {n:Nat} {cs:List Value} (h:w.cells? base a n=some cs):cs.length=n∧∀j,j<n→∃y,cs[j]? = some y∧w.cell? (a.add j)=some y:=by
 unfold World.cells? at h
 split at h
 ·exact kh h
 ·cases h
theorem oh {w:World} {a:Addr} {v:Value} (h:w.cell? a=some v):a.spot=none∧∃c t fr,w.heap[a.block]? = some (.cells c t fr)∧c[a.off]? = some v:=by
 unfold World.cell? at h
 split at h
 case h_2=>cases h
 rename_i c t fr hb
 split at h
 ·cases h
 ·rename_i hs
  exact ⟨by simpa using hs,c,t,fr,hb,h⟩
theorem aC.split {α β:Type} {R:α→β→Prop}:∀{l l':List α} {m m':List β},l.length=m.length→aC R l m→aC R l' m'→aC R (l++l') (m++m'):=fun _ h h'=>h.append h'
section
variable {H:Type} {enc:TypeId×Value→H} {P:Program} {w:World} {base:Nat} {sp:Nat→Bool} {held:Bool}
theorem qj {g:TypeId→Option Ty} {r:TypeId→List Value→Option (DataW H×List MemPlace)} (ih:∀t cs τ x,g t=some τ→r t cs=some x→∃xs,τ.ok xs∧aC (IRel (fun _=>False) w) cs xs) (cs:List Value) :
  ∀(fs:List Field) (off:Nat) (τ:Ty) (xs:List (DataW H×List MemPlace)),pz g P off fs=some τ→(fs.mapM fun f=>r f.type ((cs.drop f.offset).take (P.cellsOf f.type)))=some xs→off+τ.n=cs.length →
   ∃ys,τ.ok ys∧aC (IRel (fun _=>False) w) (cs.drop off) ys
 | [],off,τ,xs,ht,_,hn=>by
  simp only [pz,bH] at ht
  subst ht
  refine ⟨[],rfl,?_⟩
  rw [List.drop_eq_nil_of_le (by simp [Ty.n] at hn;omega)]
  trivial
 | f :: fs,off,τ,xs,ht,hm,hn=>by
  simp only [pz] at ht
  split at ht
  case isFalse=>cases ht
  rename_i hoff
  split at ht
  case h_2=>cases ht
  rename_i a b ha hb
  split at ht
  case isFalse=>cases ht
  rename_i hsz
  cases ht
  simp only [List.mapM_cons,bind,jx,pure,bH] at hm
  obtain ⟨y,h1,zs,h2,rfl⟩:=hm
  obtain ⟨xs1,h3,h4⟩:=ih _ _ _ _ ha h1
  simp only [Ty.n] at hn
  obtain ⟨xs2,h5,h6⟩:=qj ih cs fs (off+P.cellsOf f.type) b zs hb h2 (by omega)
  refine ⟨xs1++xs2,⟨xs1,xs2,rfl,h3,h5⟩,?_⟩
  rw [hoff] at h4
  have:cs.drop off=(cs.drop off).take (P.cellsOf f.type)++cs.drop (off+P.cellsOf f.type):=by
   rw [← List.drop_drop,List.take_append_drop]
  rw [this]
  exact h4.append h6
theorem I0:∀(fuel f:Nat) (t:TypeId) (cs:List Value) (τ:Ty) (x:DataW H×List MemPlace),jL P f t=some τ→DataW.trod enc P w base sp held fuel t cs=some x→∃xs,τ.ok xs∧aC (IRel (fun _=>False) w) cs xs:=by
 intro fuel
 induction fuel with
 | zero=>intro f t cs τ x _ h;simp [DataW.trod] at h
 | succ fuel ih =>
  intro f t cs τ x ht h
  cases f with
  | zero=>simp [jL] at ht
  | succ f =>
   simp only [jL] at ht
   split at ht
   case h_1 hu =>
    cases ht
    unfold DataW.trod at h
    split at h<;>rename_i heq<;>first | (rw [hu] at heq;cases heq;done) | (cases h;done) | skip
    rename_i b
    exact ⟨[.bool b],⟨b,rfl⟩,.bool b,trivial⟩
   case h_2 k hu =>
    cases ht
    unfold DataW.trod at h
    split at h<;>rename_i heq<;>first | (rw [hu] at heq;cases heq;done) | (cases h;done) | skip
    rename_i k' k1 n
    rw [hu] at heq
    cases heq
    split at h
    ·rename_i hk
     obtain ⟨rfl,hwf⟩:=hk
     exact ⟨[.int _ n],⟨n,rfl,hwf⟩,.int _ n,trivial⟩
    ·cases h
   case h_3 hu =>
    cases ht
    unfold DataW.trod at h
    split at h<;>rename_i heq<;>first | (rw [hu] at heq;cases heq;done) | (cases h;done) | skip
    rename_i s
    split at h
    ·rename_i hs
     refine ⟨[.str s.data.toList],⟨_,rfl,by simpa using hs⟩,?_,trivial⟩
     have:=IRel.str (M:=fun _=>False) (w:=w) s.data.toList
     simpa using this
    ·cases h
   case h_4 e hu =>
    split at ht
    case h_2=>cases ht
    rename_i a ha
    split at ht
    case isFalse=>cases ht
    rename_i hsz
    cases ht
    unfold DataW.trod at h
    split at h<;>rename_i heq<;>first | (rw [hu] at heq;cases heq;done) | (cases h;done) | skip
    ·exact ⟨[.nl],.inl rfl,.nl,trivial⟩
    ·rename_i e1 ad len cap
     rw [hu] at heq
     cases heq
     simp only at h
     split at h
     case isFalse=>cases h
     rename_i hcap
     simp only [jx] at h
     obtain ⟨elems,hel,_⟩:=h
     obtain ⟨hlen,ab⟩:=kh hel
     have hrow:∀i,i<len→∃row xs,w.cells? base (ad.add (i * P.cellsOf e)) (P.cellsOf e)=some row∧a.ok xs∧aC (IRel (fun _=>False) w) row xs:=fun i hi=>by
      obtain ⟨y,_,h2⟩:=ab i hi
      simp only [jx] at h2
      obtain ⟨row,h3,h4⟩:=h2
      obtain ⟨xs,h5,h6⟩:=ih f e row a y ha h4
      exact ⟨row,xs,h3,h5,h6⟩
     by_cases h0:len=0
     ·subst h0
      exact ⟨[.sl a.n []],.inr ⟨[],rfl,cq _,fun r hr=>by cases hr⟩,.sl0 _ _ _,trivial⟩
     have hn:0<P.cellsOf e:=by omega
     have hcell:∀i j,i<len→j<P.cellsOf e→∀row,w.cells? base (ad.add (i * P.cellsOf e)) (P.cellsOf e)=some row→∃y,row[j]? = some y∧w.cell? ((ad.add (i * P.cellsOf e)).add j)=some y:=fun i j hi hj row hr=>(qa hr).2 j hj
     obtain ⟨row0,xs0,r1,_,_⟩:=hrow 0 (by omega)
     obtain ⟨y0,_,c0⟩:=hcell 0 0 (by omega) hn row0 r1
     obtain ⟨hspot,c,tt,fr,hb,_⟩:=oh c0
     have hspot':ad.spot=none:=by simpa [Addr.add] using hspot
     have hblk:∀(q:Addr) m,(q.add m).block=q.block:=fun q m=>by unfold Addr.add;split<;>rfl
     have hoff:∀(q:Addr) m,(q.add m).off=q.off+m:=fun q m=>by
      unfold Addr.add
      split
      ·rename_i hm;simp [hm]
      ·rfl
     rw [hblk,hblk] at hb
     have hval:∀i j,i<len→j<P.cellsOf e→∀row,w.cells? base (ad.add (i * P.cellsOf e)) (P.cellsOf e)=some row→∃y,row[j]? = some y∧c[ad.off+i * P.cellsOf e+j]? = some y:=fun i j hi hj row hr=>by
      obtain ⟨y,g1,g2⟩:=hcell i j hi hj row hr
      obtain ⟨_,c',t',fr',g3,g4⟩:=oh g2
      rw [hblk,hblk,hb] at g3
      cases g3
      rw [hoff,hoff] at g4
      exact ⟨y,g1,g4⟩
     let R:Nat→List Value:=fun i=>if hi:i<len then Classical.choose (hrow i hi) else []
     let X:Nat→List AV:=fun i=>if hi:i<len then Classical.choose (Classical.choose_spec (hrow i hi)) else []
     have hRX:∀i,i<len→w.cells? base (ad.add (i * P.cellsOf e)) (P.cellsOf e)=some (R i)∧a.ok (X i)∧aC (IRel (fun _=>False) w) (R i) (X i):=fun i hi=>by
      have:=Classical.choose_spec (Classical.choose_spec (hrow i hi))
      simp only [R,X,hi,dif_pos]
      exact this
     have hrows:∀(i:Nat) (r:List AV),((List.range len).map X)[i]? = some r→i<len∧r=X i:=fun i r hr=>by
      simp only [d_,cj] at hr
      obtain ⟨j,h1,h2⟩:=hr
      have h3:=dE.1 h1
      obtain ⟨h4,h5⟩:=h3
      simp at h4 h5
      subst h5
      exact ⟨h4,h2.symm⟩
     refine ⟨[.sl a.n ((List.range len).map X)],.inr ⟨_,rfl,by simp;omega,fun r hr=>?_⟩,?_,trivial⟩
     ·obtain ⟨i,hi,rfl⟩:=List.mem_map.1 hr
      exact (hRX i (by simpa using hi)).2.1
     ·obtain ⟨bk,of,so⟩:=ad
      simp only at hspot'
      subst hspot'
      have hll:((List.range len).map X).length=len:=by simp
      have key:=IRel.sl (M:=fun _=>False) (w:=w) bk of cap a.n c tt fr ((List.range len).map X) (fun i j=>(R i).getD j undef) hb (fun h=>h) (by rw [hll];omega)
       (fun i r hr=>by obtain ⟨h1,rfl⟩:=hrows i r hr;exact Ty.ok_len _ _ (hRX i h1).2.1)
       (fun i j hi hj=>by
        rw [hll] at hi
        rw [hsz.1] at hj ⊢
        obtain ⟨y,g1,g2⟩:=hval i j hi hj _ (hRX i hi).1
        rw [g2,List.getD_eq_getElem?_getD,g1]
        rfl)
       (fun i j r x hr hx=>by
        obtain ⟨h1,rfl⟩:=hrows i r hr
        obtain ⟨y,g1,g2⟩:=(hRX i h1).2.2.get hx
        rw [List.getD_eq_getElem?_getD,g1]
        exact g2)
      rw [hll] at key
      exact key
   case h_5 fs hu =>
    split at ht
    case h_2=>cases ht
    rename_i a ha
    split at ht
    case isFalse=>cases ht
    rename_i hsz
    cases ht
    unfold DataW.trod at h
    split at h<;>rename_i heq<;>first | (rw [hu] at heq;cases heq;done) | (cases h;done) | skip
    ·rename_i cs1 fs1
     rw [hu] at heq
     cases heq
     split at h
     case isFalse=>cases h
     rename_i hcl
     simp only [cj] at h
     obtain ⟨xs,h1,_⟩:=h
     have:=qj (P:=P) (g:=jL P f) (r:=fun t cs=>DataW.trod enc P w base sp held fuel t cs) (fun t cs τ x=>ih f t cs τ x) _ _ 0 _ xs ha h1 (by omega)
     simpa using this
   case h_6=>cases ht
end
open Go.ChangeShapes Go.WideShapes Go.ChangeAt Go.RowKit
section
variable {H:Type} {enc:TypeId×Value→H} {P:Program} [aS P]
structure sf (w w':World):Prop where
 size:w.heap.size≤w'.heap.size
 old:∀b,b<w.heap.size→w'.heap[b]? = w.heap[b]?
 os:w'.os=w.os
 out:w'.output=w.output
theorem IRel.toV {bl:Nat→Option Nat} {M:Nat→Prop} {w:World} {v:Value} {x:AV} (h:IRel M w v x):aO bl M w v x:=h.toC.toG.toV
theorem sf.frame {w w':World} (h:sf w w') (may:MemPlace→Prop):w.keptBut w' may:=by
 refine ⟨h.os,h.out,fun i hi=>?_⟩
 rw [h.old i hi]
 cases ho:w.heap[i]? with
 | none=>rfl
 | some o =>
  cases o with
  | cells c t fr=>exact ⟨rfl,rfl,rfl,fun _ _=>rfl⟩
  | map es clock=>exact .inr ⟨rfl,rfl⟩
  | _=>rfl
theorem sf.frozen {w w':World} (h:sf w w') {a:Addr} (ha:a.block<w.heap.size):w'.frozen? a=w.frozen? a:=World.frozen?_of_block (w:=w) (h.old a.block ha)
theorem sf.same {w w':World} (h:sf w w') {p:MemPlace} (hp:p.block<w.heap.size):w.sameAt w' p:=by
 cases p with
 | cell b off=>exact World.cell?_of_block (w:=w) (h.old b hp)
 | map b=>exact h.old b hp
theorem jZ (hl:laidOutB P=true) {W W':World} {sp:Nat→Bool}:∀{ts:List TypeId} {vs:List Value} {ds:List (DataW H)} {ps:List MemPlace},(∀t∈ts,P.readableRec t=true∧t<P.types.size) →
  DataW.TrodAll enc P W 0 (fun _=>true) true ts vs ds ps→(∀p∈ps,W.sameAt W' p)→(∀p∈ps,sp p.block=true)→DataW.TrodAll enc P W' 0 sp true ts vs ds ps
 | [],[],[],ps,_,h,_,_=>h
 | t :: ts,v :: vs,d :: ds,ps,hr,h,h1,h2=>by
  obtain ⟨p,q,h3,h4,rfl⟩:=h
  exact ⟨p,q,WideElems.Trod_stays hl (hr t (by simp)).1 (hr t (by simp)).2 h3 (fun x hx=>h1 x (by simp [hx])) (fun x hx=>h2 x (by simp [hx])),
   jZ hl (fun t ht=>hr t (by simp [ht])) h4 (fun x hx=>h1 x (by simp [hx])) (fun x hx=>h2 x (by simp [hx])),rfl⟩
 | [],_ :: _,_,_,_,h,_,_=>h.elim
 | [],[],_ :: _,_,_,h,_,_=>h.elim
 | _ :: _,[],_,_,_,h,_,_=>h.elim
 | _ :: _,_ :: _,[],_,_,h,_,_=>h.elim
theorem CY {f:Func} {s:ChangeSpec} {apart fresh handsOn again:Bool} {W W':World} {args:Array Value} {ds gs:List (DataW H)} {before:List MemPlace} {tb:TypeId} (hl:laidOutB P=true)
  (hr:∀t∈f.params.toList,P.readableRec t=true∧t<P.types.size) (hv:s.vars=[]) (hfn:(s.fn H (ds++gs)).results=[.lit (.bool true)]) (hfa:(s.fn H (ds++gs)).args=ds) (hfv:(s.fn H (ds++gs)).vars=[])
  (hrt:f.resultTypes = #[tb]) (htb:P.underlying tb=some .bool) (hW:DataW.Whole enc P f.params.toList s.vars apart W args.toList ds gs before) (hk:sf W W') :
  s.post enc P f apart fresh handsOn again W args (.bool true) W':=by
 have hlt:=hW.lt
 have hW0:=hW
 obtain ⟨p,q,hA,hV,rfl,hz,hn⟩:=hW0
 rw [hv] at hV
 obtain ⟨rfl,rfl⟩:=trodVars_none hV
 rw [mM] at *
 have hsame:∀x∈p,W.sameAt W' x:=fun x hx=>hk.same (by simpa using hlt x hx)
 have hargs:∀sp:Nat→Bool,(∀x∈p,sp x.block=true)→DataW.TrodAll enc P W' 0 sp true f.params.toList args.toList ds p:=fun sp hsp=>jZ hl hr hA hsame hsp
 have hres:∀(b:Nat) (sp:Nat→Bool) (hd:Bool),DataW.TrodAll enc P W' b sp hd f.resultTypes.toList ((Value.bool true).resultList f.resultTypes.size) [.lit (.bool true)] []:=fun b sp hd=>by
  rw [hrt]
  exact trodAll_cons_mk (shut_bool htb _) trodAll_mk0
 have hvars:∀sp:Nat→Bool,DataW.TrodVars enc P W' sp s.vars [] []:=fun sp=>by rw [hv];rfl
 refine ⟨ds,[],p,[],p,[],by simpa using hW,by rw [mM,hfn];exact hres _ _ _,by rw [mM,hfa];exact hargs _ (fun x hx=>by simpa using hlt x (by simpa using hx)),by rw [mM,hfv];exact hvars _,hk.frame _,fun _=>?_⟩
 refine ⟨ok_one hrt rfl (okWide_bool_mk htb _),[.lit (.bool true)]++ds,[],p,⟨[]++p,[],trodAll_append (hargs _ (fun _ _=>rfl)) (hres _ _ _),hvars _,by simp,?_,?_⟩,fun x hx _=>hx⟩
 ·intro b off hp
  have hb:b<W.heap.size:=hlt (.cell b off) (by simpa using hp)
  have:=hz b off (by simpa using hp)
  rw [hk.frozen (a:=⟨b,off,none⟩) hb]
  exact this
 ·intro ha
  simpa using hn ha
end
def Ty.isRec:Ty→Bool
 | .nil=>true
 | .cons _ _=>true
 | _=>false
def Ty.okV (τ:Ty) (x:AV):Prop:=match τ.isRec with
 | true=>∃xs,x = .agg xs∧τ.ok xs
 | false=>τ.ok [x]
section
variable {H:Type} {enc:TypeId×Value→H} {P:Program} [aS P] {w:World} {base:Nat} {sp:Nat→Bool} {held:Bool}
theorem vn {g:TypeId→Option Ty}:∀{fs:List Field} {off:Nat} {τ:Ty},pz g P off fs=some τ→τ.isRec=true
 | [],off,τ,h=>by simp only [pz,bH] at h;subst h;rfl
 | f :: fs,off,τ,h=>by
  simp only [pz] at h
  split at h
  case isFalse=>cases h
  split at h
  case h_2=>cases h
  split at h
  case isFalse=>cases h
  cases h
  rfl
theorem tc {f:FuncId} {args:List AV} {r:Bool} (hp:ak P f args (.bool r)) {w:World} {cargs:List Value} (hT:(aS.T P).H w) (ha:aC (aO (fun _=>none) (fun _=>False) w) cargs args) :
  Calls P f cargs.toArray w fun e w'=>e = .returned (.bool r)∧sf w w':=by
 have hM:aT (fun _=>none) (fun _=>False) (ab [])=fun _=>False:=by
  funext b
  apply propext
  constructor
  ·rintro (h | ⟨i,o,h,_⟩)
   ·exact h
   ·simp [ab] at h
  ·exact False.elim
 refine (hp (fun _=>none) (fun _=>False) w cargs hT (fun _ _ hm=>hm.elim id fun ⟨_,_,hi,_⟩=>by simp [ab] at hi) ⟨fun i o h=>by simp [ab] at h,fun i _ o _ _ h=>by simp [ab] at h⟩ (fun _ h=>h.elim) (by rw [hM];exact ha)).mono fun e w'=>?_
 rintro ⟨v,r',σ',bl',rfl,⟨rfl,rfl⟩,_,_,hv,hst,_,_⟩
 have hv':=hv.bool
 subst hv'
 exact ⟨rfl,hst.size,fun b hb=>hst.keep b hb (fun ⟨i,o,h,_⟩=>by simp [ab] at h),hst.os,hst.out⟩
end
def fw:List (Nat×Nat)→Nat→Nat
 | [],i=>i
 | (a,b) :: r,i=>fw r (cM a b i)
def bw:List (Nat×Nat)→Nat→Nat
 | [],i=>i
 | (a,b) :: r,i=>cM a b (bw r i)
theorem oa:∀(ps:List (Nat×Nat)) (i:Nat),bw ps (fw ps i)=i
 | [],_=>rfl
 | (a,b) :: r,i=>by simp only [fw,bw,oa r,iL]
theorem sN:∀(ps:List (Nat×Nat)) (i:Nat),fw ps (bw ps i)=i
 | [],_=>rfl
 | (a,b) :: r,i=>by simp only [fw,bw,iL,sN r]
def jn:List Nat→List (Nat×AV)→List (Nat×AV)
 | [],e=>e
 | k :: ks,e=>lQ k (jn ks e)
def iU:List Nat→List (Nat×ac)→List (Nat×ac)
 | [],e=>e
 | k :: ks,e=>jo k (iU ks e)
theorem yA (e:List (Nat×AV)):jn [] e=e:=rfl
theorem uZ (k:Nat) (ks:List Nat) (e:List (Nat×AV)):jn (k :: ks) e=lQ k (jn ks e):=rfl
theorem yB (e:List (Nat×ac)):iU [] e=e:=rfl
theorem u4 (k:Nat) (ks:List Nat) (e:List (Nat×ac)):iU (k :: ks) e=jo k (iU ks e):=rfl
attribute [go_sem] yA uZ yB u4
theorem Co (a b:Bool) (x:AV) (p:AV→Bool) (hp:p .any=false) (hx:p x=a):(if p (if b=true then .any else x)=true then AV.any else (if b=true then .any else x))=if (a||b)=true then .any else x:=by
 cases b<;>cases a<;>simp_all
theorem M8 (k:Nat) (ks:List Nat) (x:AV):fk k (fW ks x)=fW (k :: ks) x:=by
 have:=Co (mV k x) (ks.any fun i=>mV i x) x (mV k) rfl rfl
 exact this
theorem M0 (k:Nat) (ks:List Nat) (x:AV):iI k (gz ks x)=gz (k :: ks) x:=by
 have:=Co (mC k x) (ks.any fun i=>mC i x) x (mC k) rfl rfl
 exact this
theorem M5 (k:Nat) (ks:List Nat) (o:ac):bV k (dk ks o)=dk (k :: ks) o:=by
 unfold bV dk
 by_cases h:o.isRec=true
 ·simp only [h,cX,List.map_map]
  congr 1
  funext
  apply List.map_congr_left
  intro r _
  simp only [Function.comp,List.map_map]
  apply List.map_congr_left
  intro x _
  exact M0 k ks x
  rw [bz h]
 ·simp [h]
theorem lG (k:Nat):∀(ks:List Nat) (e:List (Nat×AV)),get (jn ks e) k=fW ks (get e k)
 | [],e=>by simp [jn,fW]
 | i :: ks,e=>by rw [jn,fU,lG k ks,M8]
theorem kb (k:Nat):∀(ks:List Nat) (e:List (Nat×ac)),ab (iU ks e) k=(ab e k).map (dk ks)
 | [],e=>by
  have:dk []=id:=by
   funext o
   unfold dk gz
   simp
  simp [iU,this]
 | i :: ks,e=>by
  rw [iU,ek,kb k ks,Option.map_map]
  congr 1
  funext o
  exact M5 i ks o
theorem eE (j:Nat):∀(a b:List (Nat×ac)),ab (a++b) j=match ab a j with
  | some o=>some o
  | none=>ab b j
 | [],b=>rfl
 | (k,o) :: r,b=>by
  simp only [kx,ab]
  split
  ·rfl
  ·exact eE j r b
section
variable {P:Program} [aS P]
theorem A9 {f:FuncId} {args:List AV} {σ0 σ1:List (Nat×ac)} {Sb:Nat→Prop} {r1:AV} {d:Option Nat} {s:St} {K:St→Prop}
  (h:aE P f args σ0 Sb (fun r σ'=>r=r1∧σ'=σ1)) (ks:List Nat)
  (hin:∀p∈σ0,ab s.heap p.1=some p.2)
  (hout:∀p∈σ1,(Sb p.1∧(ab σ0 p.1).isSome=true)∨(p.1∈ks∧(p.1<1000∨1267650600228229401496703205376≤p.1)∧((ab σ0 p.1).isSome=true∨ab s.heap p.1=none)))
  (hall:∀p∈σ0,(ab σ1 p.1).isSome=true)
  (hk:K ((St.mk (jn ks s.env) (σ1++iU ks s.heap)).put d r1)):dB P f args d s K:=by
 refine .inl (.inr ⟨σ0,_,_,ks,h,fun id o hh=>hin (id,o) (aR hh),?_,?_⟩)
 ·rintro r σ' ⟨rfl,rfl⟩ id hid
  obtain ⟨o,ho⟩:=Option.isSome_iff_exists.1 hid
  exact hout (id,o) (aR ho)
 ·rintro r σ' ⟨rfl,rfl⟩
  refine ⟨⟨jn ks s.env,σ'++iU ks s.heap⟩,fun k=>lG k ks s.env,fun j=>?_,hk⟩
  simp only [eE,sZ]
  cases hn:ab σ' j with
  | some o=>rfl
  | none =>
   simp only
   by_cases h2:(ab σ0 j).isSome=true
   ·obtain ⟨o,ho⟩:=Option.isSome_iff_exists.1 h2
    have:=hall (j,o) (aR ho)
    simp only at this
    rw [hn] at this
    cases this
   ·rw [aJ h2,kb]
theorem KL {f:FuncId} {args:List AV} {k:Nat} {ob ob':ac} {Sb:Nat→Prop} {r:AV} {d:Option Nat} {s:St} {K:St→Prop}
  (h:aE P f args [(k,ob)] Sb (fun r' σ'=>r'=r∧σ'=[(k,ob')])) (hs:Sb k) (hk:ab s.heap k=some ob) (hK:K ((St.mk s.env ((k,ob') :: s.heap)).put d r)):dB P f args d s K:=by
 refine A9 h [] (fun p hp=>?_) (fun p hp=>?_) (fun p hp=>?_) (by simpa only [jn,iU,kx,mL] using hK)
 ·simp only [eL] at hp;subst hp;exact hk
 ·simp only [eL] at hp;subst hp;exact .inl ⟨hs,by simp [ab]⟩
 ·simp only [eL] at hp;subst hp;simp [ab]
theorem yO (ρ:Nat→Nat) (x:AV) (hx:bt x=[]):gT ρ x=x:=by cases x<;>first | rfl | (simp [bt] at hx)
theorem ik {ρ:Nat→Nat} {f:AV→List Nat} {r:AV→AV} (hh:∀x,f x=[]→r x=x):∀l:List AV,l.flatMap f=[]→l.map r=l
 | [],_=>rfl
 | y :: l,hl=>by
  simp only [pB,List.append_eq_nil_iff] at hl
  simp only [ee,hh y hl.1,ik (ρ:=ρ) hh l hl.2]
theorem lV (ρ:Nat→Nat) (x:AV) (hx:be x=[]):cQ ρ x=x:=by
 cases x with
 | fn f caps=>simp only [cQ,ik (ρ:=ρ) (yO ρ) caps hx]
 | _=>first | rfl | (simp [be,bt] at hx)
theorem lW (ρ:Nat→Nat) (x:AV) (hx:bU x=[]):gh ρ x=x:=by
 cases x with
 | agg cells=>simp only [gh,ik (ρ:=ρ) (lV ρ) cells hx]
 | fn f caps=>exact lV ρ (.fn f caps) hx
 | _=>first | rfl | (simp [bU,be,bt] at hx)
theorem qH (ρ:Nat→Nat) (x:AV) (hx:ax x=[]):renV ρ x=x:=by
 cases x with
 | tup vs=>simp only [renV,ik (ρ:=ρ) (lW ρ) vs hx]
 | agg cells=>exact lW ρ (.agg cells) hx
 | fn f caps=>exact lW ρ (.fn f caps) hx
 | _=>first | rfl | (simp [ax,bU,be,bt] at hx)
theorem qG (ρ:Nat→Nat) (o:ac) (hx:bo o=[]):dD ρ o=o:=by
 unfold dD
 split
 ·rename_i hr
  have:∀rows:List (List AV),rows.flatMap (fun r=>r.flatMap be)=[]→rows.map (fun r=>r.map (cQ ρ))=rows:=fun rows=>by
   induction rows with
   | nil=>exact fun _=>rfl
   | cons r l ih =>
    intro hl
    simp only [pB,List.append_eq_nil_iff] at hl
    simp only [ee,ih hl.2,ik (ρ:=ρ) (lV ρ) r hl.1]
  simp only [bo,hr,cX] at hx
  rw [this _ hx]
 ·rfl
theorem pk (ρ:Nat→Nat):∀l:List AV,(∀x∈l,ax x=[])→l.map (renV ρ)=l
 | [],_=>rfl
 | x :: l,h=>by simp only [ee,qH ρ x (h x (by simp)),pk ρ l fun y hy=>h y (by simp [hy])]
theorem aE.at_ {f:FuncId} {st:Nat} {rest:List AV} {ob ob':ac} {Sb:Nat→Prop} {r:AV} (h:aE P f (.mp 1000 st 0 0 :: rest) [(1000,ob)] Sb (fun r' σ'=>r'=r∧σ'=[(1000,ob')]))
  (hr:ax r=[]) (hrest:∀x∈rest,ax x=[]) (ho:bo ob=[]) (ho':bo ob'=[]) (j:Nat) :
  aE P f (.mp j st 0 0 :: rest) [(j,ob)] (fun id=>Sb (cM 1000 j id)) (fun r' σ'=>r'=r∧σ'=[(j,ob')]):=by
 have e1:cM 1000 j 1000=j:=by simp [cM]
 have e2:cM 1000 j j=1000:=by unfold cM;split<;>simp_all
 refine (h.ren (args2:=.mp j st 0 0 :: rest) (σ2:=[(j,ob)]) (cM 1000 j) (cM 1000 j) (iL _ _) (iL _ _) ?_ ?_).mono (fun _ h=>h) ?_
 ·simp only [ee,pk _ rest hrest,renV,gh,cQ,gT,e2]
 ·simp only [cS,e2,qG _ ob ho]
 ·rintro r' σ' ⟨r0,σ0,⟨rfl,rfl⟩,rfl,rfl⟩
  exact ⟨qH _ _ hr,by simp only [cS,e1,qG _ ob' ho']⟩
theorem N9 {Sb:Nat→Prop} (j:Nat) (h:Sb 1000):(fun id=>Sb (cM 1000 j id)) j:=by
 show Sb (cM 1000 j j)
 have e2:cM 1000 j j=1000:=by unfold cM;split<;>simp_all
 rw [e2];exact h
theorem KJ {f:FuncId} {st:Nat} {rest:List AV} {ob ob':ac} {Sb:Nat→Prop} {r:AV} {j:Nat} {d:Option Nat} {s:St} {K:St→Prop} (h:aE P f (.mp 1000 st 0 0 :: rest) [(1000,ob)] Sb (fun r' σ'=>r'=r∧σ'=[(1000,ob')]))
  (hs:Sb 1000) (hr:ax r=[]) (hrest:∀x∈rest,ax x=[]) (ho:bo ob=[]) (ho':bo ob'=[]) (hk:ab s.heap j=some ob) (hK:K ((St.mk s.env ((j,ob') :: s.heap)).put d r)):dB P f (.mp j st 0 0 :: rest) d s K :=
 KL (h.at_ hr hrest ho ho' j) (N9 j hs) hk hK
theorem bZ {f:FuncId} {st:Nat} {rest:List AV} {ob ob':ac} {Sb:Nat→Prop} {r:AV} {j:Nat} {d:Option Nat} {s:St} {K:St→Prop} (h:aE P f (.mp 1000 st 0 0 :: rest) [(1000,ob)] Sb (fun r' σ'=>r'=r∧σ'=[(1000,ob')]))
  (hK:K ((St.mk s.env ((j,ob') :: s.heap)).put d r)) (hs:Sb 1000:=by exact ⟨by decide,by decide⟩) (hr:ax r=[]:=by first | rfl | exact b_ _) (hrest:∀x∈rest,ax x=[]:=by simp [go_sem]) (ho:bo ob=[]:=by exact rfl) (ho':bo ob'=[]:=by exact rfl)
  (hk:ab s.heap j=some ob:=by rfl):dB P f (.mp j st 0 0 :: rest) d s K:=KJ h hs hr hrest ho ho' hk hK
theorem gl {al:List (Nat×Nat)} {f:FuncId} {args:List AV} {i j:Nat} {bf:List Nat} {op:fK} {hist:List HI} {s:St} {K:List HI→St→Prop} {Sb:Nat→Prop} {id st off len:Nat} {o:ac} (h:aE P f args [] Sb (fun r σ'=>r = .ms id st off len∧σ'=[(id,o)])) (ho:o.isRec=false) (hargs:∀x∈args,ax x=[])
  (hK:cL op s .no=true∧dR bf ⟨i,bu op s.env,[j],[j],false,false⟩ hist=true∧jm al bf ⟨i,bu op s.env,[j],[j],false,false⟩=true∧K (⟨i,bu op s.env,[j],[j],false,false⟩ :: hist) ((s.eff (.new j o)).put (some j) (.ms j st off len))):uJ P al f args i bf op (some j) hist s K :=
 .inr (.inr ⟨j,o,st,off,len,_,rfl,ho,h.fresh ho hargs j,hK⟩)
end
theorem Wk.new0 (s:St) (i st:Nat) (t:TypeId) (hid:i<1000∨1267650600228229401496703205376≤i):Wk s ⟨(s.kill i).env,(i,⟨t,st,[],false⟩) :: (s.kill i).heap⟩:=by
 intro c a w hs
 obtain ⟨bl,hs⟩:=hs.kill i
 obtain ⟨h1,h2⟩:=bT s i
 have hn:=hs.new0 (i:=i) (o:=⟨t,st,[],false⟩) h1 h2 hid rfl rfl
 refine ⟨_,hn.congr (fun _=>rfl) (fun j=>?_)⟩
 simp only [ab,cJ]
 by_cases h:i=j
 ·rw [bz h,bz h.symm]
 ·rw [aJ h,aJ (Ne.symm h)]
def nlm:List AV→List AV→Prop
 | [],[]=>True
 | x :: l,y :: m=>(x=y∨(x = .nl∧((∃st,y = .sl st [])∨∃id st,y = .ms id st 0 0)))∧nlm l m
 | _,_=>False
theorem rF:∀{l m:List AV},nlm l m→m.length=l.length
 | [],[],_=>rfl
 | _ :: _,_ :: _,h=>by simp [rF h.2]
 | [],_ :: _,h=>h.elim
 | _ :: _,[],h=>h.elim
theorem rE:∀{l m:List AV},nlm l m→∀{j:Nat} {y:AV},m[j]? = some y→∃x,l[j]? = some x∧(x=y∨(x = .nl∧((∃st,y = .sl st [])∨∃id st,y = .ms id st 0 0)))
 | [],[],_,j,y,hy=>by simp at hy
 | x :: l,z :: m,h,0,y,hy=>by simp at hy;subst hy;exact ⟨x,rfl,h.1⟩
 | x :: l,z :: m,h,j+1,y,hy=>by simpa using rE h.2 (j:=j) (by simpa using hy)
 | [],_ :: _,h,_,_,_=>h.elim
 | _ :: _,[],h,_,_,_=>h.elim
theorem Wk.nlm (s:St) (i:Nat) {t:TypeId} {st:Nat} {r r':List AV} (hi:ab s.heap i=some ⟨t,st,[r],true⟩) (hr:Mw.nlm r r'):Wk s ⟨s.env,(i,⟨t,st,[r'],true⟩) :: s.heap⟩:=by
 rintro c a w ⟨bl,hs⟩
 have hm:∀b,aT bl c.MF (ab ((i,⟨t,st,[r'],true⟩) :: s.heap)) b↔aT bl c.MF (ab s.heap) b:=aT.congr fun j=>by
  simp only [ab]
  split
  ·rename_i h;subst h;rw [hi];rfl
  ·rfl
 have ht:=Tr.of_iff (w:=w) fun b=>(hm b)
 refine ⟨bl,hs.defers,hs.size,fun j=>(hs.env j).tr ht (fun _ _=>rfl),⟨fun j o hj=>?_,fun j j' o o' b h1 h2=>?_⟩,hs.step,fun j o b h1=>?_,hs.stab,hs.mf⟩
 ·simp only [ab] at hj
  split at hj
  ·rename_i hij
   subst hij
   cases hj
   rcases hs.heap.1 i _ hi with hn | ⟨b,g1,⟨gk,c1,fr,g2,g3,g4,g5,g6,g7⟩ | hsp⟩
   ·cases hn.2.1
   rotate_left
   ·cases hsp.isRec
   ·refine .inr ⟨b,g1,.inl ⟨gk,c1,fr,g2,g3,g4,fun k q hq=>?_,by simpa using g6,fun k q u x hu hx=>?_⟩⟩
    ·cases k with
     | zero=>simp at hq;subst hq;rw [rF hr];exact g5 0 r rfl
     | succ k=>simp at hq
    ·cases k with
     | succ k=>simp at hu
     | zero =>
      simp at hu
      subst hu
      obtain ⟨x0,h1,h2⟩:=rE hr hx
      obtain ⟨v,hv1,hv2⟩:=g7 0 q r x0 rfl h1
      refine ⟨v,hv1,?_⟩
      have hv3:bq bl (aT bl c.MF (ab s.heap)) w v x0:=hv2
      rcases h2 with h2 | ⟨h2,⟨st',h3⟩ | ⟨id,st',h3⟩⟩
      ·subst h2;exact hv3.tr ht (fun _ _=>rfl)
      ·subst h2 h3
       have:IRel (aT bl c.MF (ab s.heap)) w v .nl:=hv3
       exact (IRel.toC (bl:=bl) (IRel.nl_sl this st')).tr ht (fun _ _=>rfl)
      ·subst h2 h3
       have:IRel (aT bl c.MF (ab s.heap)) w v .nl:=hv3
       cases this
       exact .inl ⟨rfl,rfl,rfl⟩
  ·rcases hs.heap.1 j o hj with hn | ⟨b,g1,⟨gk,c1,fr,g2,g3,g4,g5,g6,g7⟩ | hsp⟩
   ·exact .inl hn
   rotate_left
   ·exact .inr ⟨b,g1,.inr hsp⟩
   ·refine .inr ⟨b,g1,.inl ⟨gk,c1,fr,g2,g3,g4,g5,g6,fun k q u x hu hx=>?_⟩⟩
    obtain ⟨v,hv1,hv2⟩:=g7 k q u x hu hx
    refine ⟨v,hv1,?_⟩
    cases hrec:o.isRec<;>simp only [hrec,fP] at hv2 ⊢
    ·exact hv2.tr ht.keep
    ·exact hv2.tr ht (fun _ _=>rfl)
 ·have key:∀{j:Nat} {o:ac},ab ((i,⟨t,st,[r'],true⟩) :: s.heap) j=some o→∃o',ab s.heap j=some o':=fun {j o} hj=>by
   simp only [ab] at hj
   split at hj
   ·rename_i hij;subst hij;exact ⟨_,hi⟩
   ·exact ⟨_,hj⟩
  obtain ⟨p1,q1⟩:=key h1
  obtain ⟨p2,q2⟩:=key h2
  exact hs.heap.2 j j' p1 p2 b q1 q2
 ·simp only [ab] at h1
  split at h1
  ·rename_i hij;subst hij;exact hs.own i _ b hi
  ·exact hs.own j o b h1
section
variable {P:Program} [aS P]
end
theorem pH.refl (s:St) (l:List AV):pH s l s l:=fun c a w bl vs h1 h2=>⟨bl,h1,h2⟩
theorem pH.trans {s s' s'':St} {l l' l'':List AV} (h:pH s l s' l') (h':pH s' l' s'' l''):pH s l s'' l'':=fun c a w bl vs h1 h2=>by
 obtain ⟨bl',h3,h4⟩:=h c a w bl vs h1 h2
 exact h' c a w bl' vs h3 h4
theorem pH.frzs (fs:List Nat) (s:St) (l:List AV):pH s l (Mw.frzs fs s) (l.map (qr fs s)):=fun c a w bl vs h1 h2=>by
 obtain ⟨h3,h4⟩:=aB.frzs fs s h1
 exact ⟨bl,h3,h2.mapRight fun v x hv=>h4 v x hv⟩
def nla (x y:AV):Prop:=x=y∨(x = .nl∧∃st,y = .sl st [])∨∃l m,x = .agg l∧y = .agg m∧Mz l m
theorem nla.refl (x:AV):nla x x:=.inl rfl
theorem wh {bl:Nat→Option Nat} {M:Nat→Prop} {w:World}:∀{vs:List Value} {l m:List AV},Mz l m→aC (bq bl M w) vs l→aC (bq bl M w) vs m
 | [],[],[],_,_=>trivial
 | v :: vs,x :: l,y :: m,h,hr=>by
  refine ⟨?_,wh h.2 hr.2⟩
  rcases h.1 with rfl | ⟨rfl,st,rfl⟩
  ·exact hr.1
  ·exact IRel.nl_sl (show IRel M w v .nl from hr.1) st
 | [],[],_ :: _,h,_=>h.elim
 | [],_ :: _,_,_,hr=>hr.elim
 | _ :: _,[],_,_,hr=>hr.elim
 | _ :: _,_ :: _,[],h,_=>h.elim
theorem HS {bl:Nat→Option Nat} {M:Nat→Prop} {w:World} {v:Value} {x y:AV} (h:nla x y) (hr:aO bl M w v x):aO bl M w v y:=by
 rcases h with rfl | ⟨rfl,st,rfl⟩ | ⟨l,m,rfl,rfl,h⟩
 ·exact hr
 ·exact IRel.nl_sl (show IRel M w v .nl from hr) st
 ·obtain ⟨cs,h1,h2⟩:=hr
  exact ⟨cs,h1,wh h h2⟩
theorem s8 {bl:Nat→Option Nat} {M:Nat→Prop} {w:World}:∀{vs:List Value} {l m:List AV},aC nla l m→aC (aO bl M w) vs l→aC (aO bl M w) vs m
 | [],[],[],_,_=>trivial
 | v :: vs,x :: l,y :: m,h,hr=>⟨HS h.1 hr.1,s8 h.2 hr.2⟩
 | [],[],_ :: _,h,_=>h.elim
 | [],_ :: _,_,_,hr=>hr.elim
 | _ :: _,[],_,_,hr=>hr.elim
 | _ :: _,_ :: _,[],h,_=>h.elim
theorem pH.nla {s:St} {l m:List AV} (h:aC Mw.nla l m):pH s l s m:=fun c a w bl vs h1 h2=>⟨bl,h1,s8 h h2⟩
section
variable {P:Program} [aS P]
end
theorem aw {x y:Int} (h:¬x=y):(x==y)=false:=by simpa using h
theorem aV {x y:Int} (h:x=y):(x==y)=true:=by simpa using h
theorem bc {x y:Int} (h:¬x=y):(x != y)=true:=by simpa using h
theorem ay {x y:Int} (h:x=y):(x != y)=false:=by simpa using h
theorem aB.nlm {c:i3} {bl:Nat→Option Nat} {a:Act} {w:World} {s:St} (hs:aB c bl (get s.env) (ab s.heap) a w) (i:Nat) {t:TypeId} {st:Nat} {r r':List AV} (hi:ab s.heap i=some ⟨t,st,[r],true⟩) (hr:Mw.nlm r r') :
  aB c bl (get s.env) (ab ((i,⟨t,st,[r'],true⟩) :: s.heap)) a w∧∀b,aT bl c.MF (ab ((i,⟨t,st,[r'],true⟩) :: s.heap)) b↔aT bl c.MF (ab s.heap) b:=by
 have hm:∀b,aT bl c.MF (ab ((i,⟨t,st,[r'],true⟩) :: s.heap)) b↔aT bl c.MF (ab s.heap) b:=aT.congr fun j=>by
  simp only [ab]
  split
  ·rename_i h;subst h;rw [hi];rfl
  ·rfl
 have ht:=Tr.of_iff (w:=w) fun b=>(hm b)
 refine ⟨⟨hs.defers,hs.size,fun j=>(hs.env j).tr ht (fun _ _=>rfl),⟨fun j o hj=>?_,fun j j' o o' b h1 h2=>?_⟩,hs.step,fun j o b h1=>?_,hs.stab,hs.mf⟩,hm⟩
 ·simp only [ab] at hj
  split at hj
  ·rename_i hij
   subst hij
   cases hj
   rcases hs.heap.1 i _ hi with hn | ⟨b,g1,⟨gk,c1,fr,g2,g3,g4,g5,g6,g7⟩ | hsp⟩
   ·cases hn.2.1
   rotate_left
   ·cases hsp.isRec
   ·refine .inr ⟨b,g1,.inl ⟨gk,c1,fr,g2,g3,g4,fun k q hq=>?_,by simpa using g6,fun k q u x hu hx=>?_⟩⟩
    ·cases k with
     | zero=>simp at hq;subst hq;rw [rF hr];exact g5 0 r rfl
     | succ k=>simp at hq
    ·cases k with
     | succ k=>simp at hu
     | zero =>
      simp at hu
      subst hu
      obtain ⟨x0,h1,h2⟩:=rE hr hx
      obtain ⟨v,hv1,hv2⟩:=g7 0 q r x0 rfl h1
      refine ⟨v,hv1,?_⟩
      have hv3:bq bl (aT bl c.MF (ab s.heap)) w v x0:=hv2
      rcases h2 with h2 | ⟨h2,⟨st',h3⟩ | ⟨id,st',h3⟩⟩
      ·subst h2;exact hv3.tr ht (fun _ _=>rfl)
      ·subst h2 h3
       have:IRel (aT bl c.MF (ab s.heap)) w v .nl:=hv3
       exact (IRel.toC (bl:=bl) (IRel.nl_sl this st')).tr ht (fun _ _=>rfl)
      ·subst h2 h3
       have:IRel (aT bl c.MF (ab s.heap)) w v .nl:=hv3
       cases this
       exact .inl ⟨rfl,rfl,rfl⟩
  ·rcases hs.heap.1 j o hj with hn | ⟨b,g1,⟨gk,c1,fr,g2,g3,g4,g5,g6,g7⟩ | hsp⟩
   ·exact .inl hn
   rotate_left
   ·exact .inr ⟨b,g1,.inr hsp⟩
   ·refine .inr ⟨b,g1,.inl ⟨gk,c1,fr,g2,g3,g4,g5,g6,fun k q u x hu hx=>?_⟩⟩
    obtain ⟨v,hv1,hv2⟩:=g7 k q u x hu hx
    refine ⟨v,hv1,?_⟩
    cases hrec:o.isRec<;>simp only [hrec,fP] at hv2 ⊢
    ·exact hv2.tr ht.keep
    ·exact hv2.tr ht (fun _ _=>rfl)
 ·have key:∀{j:Nat} {o:ac},ab ((i,⟨t,st,[r'],true⟩) :: s.heap) j=some o→∃o',ab s.heap j=some o':=fun {j o} hj=>by
   simp only [ab] at hj
   split at hj
   ·rename_i hij;subst hij;exact ⟨_,hi⟩
   ·exact ⟨_,hj⟩
  obtain ⟨p1,q1⟩:=key h1
  obtain ⟨p2,q2⟩:=key h2
  exact hs.heap.2 j j' p1 p2 b q1 q2
 ·simp only [ab] at h1
  split at h1
  ·rename_i hij;subst hij;exact hs.own i _ b hi
  ·exact hs.own j o b h1
theorem VRels.tr {bl bl':Nat→Option Nat} {M M':Nat→Prop} {w:World} (ht:Tr M M' w w):∀{vs:List Value} {l:List AV},aC (aO bl M w) vs l→(∀x∈l,∀id,mV id x=true→bl' id=bl id)→aC (aO bl' M' w) vs l
 | [],[],_,_=>trivial
 | _ :: _,_ :: _,h,hb=>⟨h.1.tr ht (hb _ (by simp)),VRels.tr ht h.2 fun x hx=>hb x (by simp [hx])⟩
 | [],_ :: _,h,_=>h.elim
 | _ :: _,[],h,_=>h.elim
theorem pH.nlm (s:St) (l:List AV) (i:Nat) {t:TypeId} {st:Nat} {r r':List AV} (hi:ab s.heap i=some ⟨t,st,[r],true⟩) (hr:Mw.nlm r r'):pH s l ⟨s.env,(i,⟨t,st,[r'],true⟩) :: s.heap⟩ l:=fun c a w bl vs h1 h2=>by
 obtain ⟨h3,hm⟩:=h1.nlm i hi hr
 exact ⟨bl,h3,VRels.tr (Tr.of_iff hm) h2 fun _ _ _ _=>rfl⟩
theorem pH.new0 (s:St) (l:List AV) (i st:Nat) (t:TypeId) (hid:i<1000∨1267650600228229401496703205376≤i) (hl:∀x∈l,i∉ax x):pH s l ⟨(s.kill i).env,(i,⟨t,st,[],false⟩) :: (s.kill i).heap⟩ l:=fun c a w bl vs hs h2=>by
 have hk:=hs.kill i
 have hu:=gU i (get s.env) (ab s.heap)
 have hn:=hk.new0 (i:=i) (o:=⟨t,st,[],false⟩) (by simp) hu hid rfl rfl
 have e1:∀k,get (s.kill i).env k=fk i (get s.env k):=fun k=>by simp only [St.kill,fU]
 have e2:∀j,ab ((i,⟨t,st,[],false⟩) :: (s.kill i).heap) j=cJ (fun j=>if j=i then none else (ab s.heap j).map (bV i)) i (some ⟨t,st,[],false⟩) j:=fun j=>by
  simp only [ab,cJ,St.kill,ek,bg]
  by_cases h:i=j
  ·subst h;simp
  ·have h':¬j=i:=fun e=>h e.symm
   simp [h,h']
 refine ⟨cJ bl i none,hn.congr e1 e2,?_⟩
 have hM:∀b,aT (cJ bl i none) c.MF (ab ((i,⟨t,st,[],false⟩) :: (s.kill i).heap)) b→aT bl c.MF (ab s.heap) b:=fun b hb=>by
  rcases hb with hb | ⟨j,o,h3,h4⟩
  ·exact .inl hb
  ·rw [e2] at h3
   by_cases hj:j=i
   ·subst hj;simp [cJ] at h4
   ·rw [bB _ _ hj] at h4
    rw [bB _ _ hj] at h3
    simp only [hj,fp,cj] at h3
    obtain ⟨o',h5,_⟩:=h3
    exact .inr ⟨j,o',h5,h4⟩
 have ht:Tr (aT bl c.MF (ab s.heap)) (aT (cJ bl i none) c.MF (ab ((i,⟨t,st,[],false⟩) :: (s.kill i).heap))) w w:=⟨fun b hb _=>⟨fun h=>hb (hM b h),rfl⟩,fun b cc t fr h=>⟨cc,fr,h,rfl⟩⟩
 exact VRels.tr ht h2 fun x hx id hid=>bB _ _ fun e=>hl x hx (by rw [← e];exact gR hid)
attribute [go_sem] Nat.zero_add kw decide_eq_false_iff_not beq_self_eq_true Nat.lt_add_one Nat.reduceEqDiff Nat.reduceLT reduceCtorEq Nat.reduceAdd Nat.reduceLeDiff Nat.reduceBEq Nat.reduceBNe Int.reduceNeg Int.reduceToNat Int.reduceBEq Int.reduceBNe bne_self_eq_false tT
attribute [go_sem ↓] reduceIte
def sb (id:Nat):Prop:=1000≤id∧id<1267650600228229401496703205376
def Vr (n:Int):Prop:=-9223372036854775808≤n∧n<9223372036854775808
section
abbrev No:Nat→Prop:=fun _=>False
def sg (T:Nat→Prop) (N:Nat) (W W':World):Prop:=W.heap.size≤W'.heap.size∧(∀(b:Nat) (c:Array Value) (t:TypeId) (fr:Nat×Nat),N≤b→W.heap[b]? = some (.cells c t fr)→W'.heap[b]? = some (.cells c t fr))∧∀b,T b→W'.heap[b]? = W.heap[b]?
section
variable {T:Nat→Prop}
theorem sg.refl (N:Nat) (W:World):sg T N W W:=⟨bD _,fun _ _ _ _ _ h=>h,fun _ _=>rfl⟩
theorem sg.trans {N:Nat} {A B C:World} (h:sg T N A B) (k:sg T N B C):sg T N A C:=⟨cE h.1 k.1,fun b c t fr hb hc=>k.2.1 b c t fr hb (h.2.1 b c t fr hb hc),fun b hb=>(k.2.2 b hb).trans (h.2.2 b hb)⟩
theorem sg.mono {N N':Nat} {A B:World} (h:sg T N A B) (hn:N≤N'):sg T N' A B:=⟨h.1,fun b c t fr hb=>h.2.1 b c t fr (cE hn hb),h.2.2⟩
theorem sg.putObj (N:Nat) (W:World) (l:Nat) (o o':Obj) (hl:W.heap[l]? = some o) (ho:o.isCells=false) (hT:∀b,T b→b<l):sg T N W (W.putObj l o'):=by
 have hlt:=(ky.1 hl).1
 refine ⟨(grownBy_putObj' W l o').size,fun b c t fr _ hb=>?_,fun b hb=>World.putObj_heap_other (by have:=hT b hb;omega)⟩
 by_cases e:b=l
 ·subst e
  rw [hl] at hb
  cases hb
  simp [Obj.isCells] at ho
 ·rw [World.putObj_heap_other (by omega)];exact hb
end
theorem gD.ofAlloc (w:World) (o:Obj):gD No w (w.alloc o) where
 size:=by simp
 keep b hb _:=by rw [World.alloc];simp [Array.getElem?_push,Nat.ne_of_lt hb]
 shape b c t fr hb:=⟨c,fr,by
  have hlt:=aZ hb
  rw [World.alloc];simp [Array.getElem?_push,Nat.ne_of_lt hlt,hb],rfl⟩
 os:=rfl
 out:=rfl
theorem gD.one {A B C:World} (h:gD No A B) (k:gD No B C):gD No A C:=h.trans k fun _ _ h=>h.elim
def N_ {α:Type} (n:Nat) (P:Program) [aS P] (g:Nat) (lb:Array Value) (encs:α→Array Value) (E:List α) (w:World):Prop :=
 ∀(l:Nat) (J Jx:List α→World→Prop) (W:World),(aS.T P).H W→gD No w W→(∀s A B,J s A→gD No A B→J s B)→(∀s A B,Jx s A→gD No A B→Jx s B) →
  (∀iu x W1,J iu W1→iu++[x] <+: E→YieldAt Fence.wide (n - 1) P l (encs x) W1 fun e W' =>
   (e = .returned (.bool true)∧J (iu++[x]) W'∧sg (aS.T P).B W.heap.size W1 W')∨(e = .returned (.bool false)∧Jx (iu++[x]) W')) →
  J [] W →
  CallsIn Fence.wide n P g (#[.func (.yield l) #[] #[]]++lb) W fun e W'=>(∃v,e = .returned v)∧(J E W'∨(∃iu,iu <+: E∧Jx iu W'))
variable {n:Nat} {P:Program} [aS P]
theorem y8 {α:Type} {g:Operand} {ps:Array Tmp} {assign body:Code} {Q:Exit→Act→World→Prop} {a:Act} {w:World}
  (h1:1≤n) (hH:(aS.T P).H w) {gf:Nat} {lb:Array Value} (hg:a.eval g = .func (.func gf) #[] lb) (eg:∀args w,(callFunc gf args).run P w = .ok (.enter gf args) w)
  {encs:α→Array Value} {E:List α} {w0:World} (hseq:N_ (n - 1) P gf lb encs E w0) (hb0:gD No w0 w) (hps:∀x,(encs x).size=ps.size)
  (I:List α→World→Prop) (Ix:Code→List α→World→Prop) (hI:∀s A B,I s A→gD No A B→I s B) (hIx:∀c s A B,Ix c s A→gD No A B→Ix c s B)
  (hIp:∀s W l o o',I s W→w.heap.size≤l→W.heap[l]? = some o→o.isCells=false→I s (W.putObj l o')) (hIxp:∀c s W l o o',Ix c s W→w.heap.size≤l→W.heap[l]? = some o→o.isCells=false→Ix c s (W.putObj l o'))
  (h0:I [] w) (a₁:α→Act)
  (hassign:∀(l:Nat) (x:α) (W:World) (K:Act→World→Prop),K (a₁ x) W →
   assign.wpIn (Fence.wide.inRound l) (n - 1 - 1) P (Exit.then K (fun _ _ _=>False)) { tmps:=(ps.zip (encs x)).foldl (fun t (p,v)=>t.setIfInBounds p v) a.tmps,defers:=[] } W)
  (hbody:∀(l:Nat) (iu:List α) (x:α) (W:World),I iu W→iu++[x] <+: E→body.wpIn (Fence.wide.inRound l) (n - 1 - 1) P (ownPostK (sg (aS.T P).B w.heap.size) I Ix (iu++[x]) W) (a₁ x) W)
  (hdone:∀(D:Nat) (W:World),w.heap.size≤D→I E W→W.heap[D]? = some (.deferred (some []))→Q .normal { a with defers:={ target:=.collected D,args:=#[] } :: a.defers } W)
  (hstop:∀(D:Nat) (c:Code) (iu:List α) (W:World),w.heap.size≤D→iu <+: E→Ix c iu W→W.heap[D]? = some (.deferred (some []))→c.wpIn Fence.wide n P Q { a with defers:={ target:=.collected D,args:=#[] } :: a.defers } W) :
  (Code.rangeFunc g ps assign body).wpIn Fence.wide n P Q a w:=by
 refine wpIn_rangeFunc ?_
 intro fn hfn
 rw [show Fence.wide.round=none from rfl]
 obtain ⟨rec,hrec⟩:∃rec:LoopState→Option Code→Loop,rec=fun st pe=>{ state:=st,pending:=pe,fn,tmps:=a.tmps,params:=ps,assign,body,defers:=w.heap.size }:=⟨_,rfl⟩
 obtain ⟨W1,hW1⟩:∃W1,(w.alloc (.deferred (some []))).alloc (.loop (rec .ready none))=W1:=⟨_,rfl⟩
 have hL1:W1.heap[w.heap.size+1]? = some (.loop (rec .ready none)):=by
  rw [← hW1];have:=World.alloc_heap_new (w.alloc (.deferred (some []))) (.loop (rec .ready none));rwa [World.size_alloc] at this
 have hK1:W1.heap[w.heap.size]? = some (.deferred (some [])):=by
  rw [← hW1];exact (Below.heap_alloc _ _ _ (by simp)).trans (World.alloc_heap_new w _)
 have hs1:gD No w W1:=by rw [← hW1];exact (gD.ofAlloc _ _).one (gD.ofAlloc _ _)
 have hlow:∀b,(aS.T P).B b→b<w.heap.size+1:=fun b hb=>Nat.lt_succ_of_lt ((aS.T P).low _ hH b hb)
 have hz1:W1.heap.size=w.heap.size+2:=by rw [← hW1];simp
 refine ⟨w.heap.size+1,[{ target:=.collected w.heap.size,args:=#[] }],W1,{ target:=.fn (.func gf) lb,args:=#[.func (.yield (w.heap.size+1)) #[] #[]] },W1,gf,
  #[.func (.yield (w.heap.size+1)) #[] #[]]++lb,W1,?_,?_,?_,?_,fun _=>h1,?_⟩
 ·rw [← hW1,hrec];exact run_enterLoop_outer _ _ _ _ _
 ·simp only [resolve,hg]
  simp [go_sem]
 ·intro f' hf';trivial
 ·simp [invoke,go_sem,eg]
 ·have kp:∀{l:Nat} {o:Obj} {A B:World},gD No A B→A.heap[l]? = some o→B.heap[l]? = some o:=fun {l o A B} hs h=>by
   rw [hs.keep l (ky.1 h).1 (fun h=>h)];exact h
  refine (hseq (w.heap.size+1)
   (fun iu W=>I iu W∧W.heap[w.heap.size+1]? = some (.loop (rec .ready none))∧W.heap[w.heap.size]? = some (.deferred (some [])))
   (fun iu W=>∃c,Ix c iu W∧W.heap[w.heap.size+1]? = some (.loop (rec .done (some c)))∧W.heap[w.heap.size]? = some (.deferred (some [])))
   W1 ((aS.T P).stay _ _ hH fun b hb=>hs1.keep b ((aS.T P).low _ hH b hb) (fun h=>h)) (hb0.one hs1)
   (fun s A B hs hg'=>⟨hI s A B hs.1 hg',kp hg' hs.2.1,kp hg' hs.2.2⟩)
   (fun s A B hs hg'=>by
    obtain ⟨c,hc,hl,hk⟩:=hs
    exact ⟨c,hIx c s A B hc hg',kp hg' hl,kp hg' hk⟩)
   ?_ ⟨hI _ _ _ h0 hs1,hL1,hK1⟩).mono ?_
  ·
   rintro iu x W ⟨hi,hl,hk⟩ hlen
   have hlt:w.heap.size+1<W.heap.size:=(ky.1 hl).1
   have hy:=run_yield (P:=P) (args:=encs x) hl (by rw [hrec];exact hps x)
   rw [hrec] at hy
   refine ⟨fn,_,assign,body,hy,roundIn_of_wpIn hfn (hassign _ x W _ ⟨_,run_beginRound hl (by rw [hrec]),?_⟩)⟩
   have hl2:(W.putObj (w.heap.size+1) (.loop { rec .ready none with state:=.busy })).heap[w.heap.size+1]? = some (.loop { rec .ready none with state:=.busy }):=World.putObj_heap_same hlt
   have hk2:(W.putObj (w.heap.size+1) (.loop { rec .ready none with state:=.busy })).heap[w.heap.size]? = some (.deferred (some [])):=(World.putObj_heap_other (by omega)).trans hk
   have hw2:sg (aS.T P).B w.heap.size W (W.putObj (w.heap.size+1) (.loop { rec .ready none with state:=.busy })):=sg.putObj _ _ _ _ _ hl rfl hlow
   refine wpIn_mono (hbody _ iu x _ (hIp _ _ _ _ _ hi (by omega) hl rfl) hlen) ?_
   have fin:∀(jump:Option Code) (W3:World),KeepsOthers (W.putObj (w.heap.size+1) (.loop { rec .ready none with state:=.busy })) W3 →
     (Instr.endRound (w.heap.size+1) jump).run P W3 = .ok (.bool jump.isNone) (W3.putObj (w.heap.size+1) (.loop (rec (if jump.isNone then .ready else .done) jump))) ∧
     W3.heap[w.heap.size+1]? = some (.loop { rec .ready none with state:=.busy }) ∧
     (W3.putObj (w.heap.size+1) (.loop (rec (if jump.isNone then .ready else .done) jump))).heap[w.heap.size+1]? = some (.loop (rec (if jump.isNone then .ready else .done) jump)) ∧
     (W3.putObj (w.heap.size+1) (.loop (rec (if jump.isNone then .ready else .done) jump))).heap[w.heap.size]? = some (.deferred (some [])):=fun jump W3 hk3=>by
    have hl3:=hk3.same _ _ hl2 rfl
    have:=run_endRound (P:=P) jump hl3
    rw [hrec] at this ⊢
    exact ⟨this,by rw [hrec] at hl3;exact hl3,World.putObj_heap_same (ky.1 hl3).1,(World.putObj_heap_other (by omega)).trans (hk3.same _ _ hk2 rfl)⟩
   rintro e a3 W3 hp
   cases e with
   | normal =>
    obtain ⟨hk3,hkp3,hi3⟩:=hp
    obtain ⟨hr,hl3,hl4,hk4⟩:=fin none W3 hk3
    exact ⟨_,_,hr,.inl ⟨rfl,⟨hIp _ _ _ _ _ hi3 (by omega) hl3 rfl,hl4,hk4⟩,((hw2.trans hkp3).trans (sg.putObj _ _ _ _ _ hl3 rfl hlow)).mono (by omega)⟩⟩
   | ret =>
    obtain ⟨hk3,hi3⟩:=hp
    obtain ⟨hr,hl3,hl4,hk4⟩:=fin (some .ret) W3 hk3
    exact ⟨_,_,hr,.inr ⟨rfl,.ret,hIxp _ _ _ _ _ _ hi3 (by omega) hl3 rfl,hl4,hk4⟩⟩
   | exit id =>
    obtain ⟨hk3,hi3⟩:=hp
    obtain ⟨hr,hl3,hl4,hk4⟩:=fin (some (.exit id)) W3 hk3
    exact ⟨_,_,hr,.inr ⟨rfl,.exit id,hIxp _ _ _ _ _ _ hi3 (by omega) hl3 rfl,hl4,hk4⟩⟩
   | goto t =>
    obtain ⟨hk3,hi3⟩:=hp
    obtain ⟨hr,hl3,hl4,hk4⟩:=fin (some (.goto t)) W3 hk3
    exact ⟨_,_,hr,.inr ⟨rfl,.goto t,hIxp _ _ _ _ _ _ hi3 (by omega) hl3 rfl,hl4,hk4⟩⟩
   | panic ch=>exact hp.elim
   | outgrown=>exact hp.elim
  ·
   rintro e W2 ⟨⟨v,rfl⟩,(⟨hi,hl,hk⟩ | ⟨iu,hSp,c,hi,hl,hk⟩)⟩
   ·exact ⟨none,_,by have:=run_endLoop (P:=P) hl (by rw [hrec];simp);rw [hrec] at this;exact this,hdone _ _ (bD _) (hIp _ _ _ _ _ hi (by omega) hl rfl) ((World.putObj_heap_other (by omega)).trans hk)⟩
   ·exact ⟨some c,_,by have:=run_endLoop (P:=P) hl (by rw [hrec];simp);rw [hrec] at this;exact this,hstop _ c iu _ (bD _) hSp (hIxp _ _ _ _ _ _ hi (by omega) hl rfl) ((World.putObj_heap_other (by omega)).trans hk)⟩
def DP (P:Program) [aS P] (w:World):Nat→Prop:=fun b=>b<w.heap.size∧¬(aS.T P).B b
theorem ak.run {f:FuncId} {args:List AV} {r:AV} (h:ak P f args r) (w:World) (hH:(aS.T P).H w) {cargs:List Value} (ha:aC (aO (fun _=>none) (DP P w) w) cargs args) :
  Calls P f cargs.toArray w fun e w'=>∃v,e = .returned v∧aO (fun _=>none) (DP P w) w' v r∧gD No w w':=by
 have hm:∀(bl:Nat→Option Nat) b,aT bl (DP P w) (ab []) b↔DP P w b:=fun bl b=>eV _ b
 refine (h (fun _=>none) (DP P w) w cargs hH (fun b hb hm'=>((hm _ b).1 hm').2 hb) ⟨fun id o hi=>by simp [ab] at hi,fun id id' o o' b hi=>by simp [ab] at hi⟩ (fun b hb=>hb.1)
  (ha.mono fun _ _ _ hr=>hr.tr (Tr.of_iff (fun b=>hm _ b)) (fun _ _=>rfl))).mono fun e w' hh=>?_
 obtain ⟨v,r',σ',bl',rfl,⟨rfl,rfl⟩,hcl,_,hv,hst,_,_⟩:=hh
 refine ⟨v,rfl,hv.tr (Tr.of_iff (fun b=>(hm _ b).symm)) (fun id hid=>?_),⟨hst.size,fun b hb _=>hst.keep b hb (fun hx=>by obtain ⟨id,o,hi,_⟩:=hx;simp [ab] at hi),hst.shape,hst.os,hst.out⟩⟩
 have:=hcl.1 id (gR hid)
 simp [ab] at this
theorem ak.of {f:FuncId} {args:List AV} {r:AV} (h:∀(w:World) (bl:Nat→Option Nat) (M:Nat→Prop) (cargs:List Value),(aS.T P).H w→(∀b,M b→b<w.heap.size)→aC (aO bl M w) cargs args →
   Calls P f cargs.toArray w fun e w'=>∃v,e = .returned v∧gD No w w'∧aO (fun _=>none) M w' v r) (hid:ax r=[]):ak P f args r:=by
 intro bl MF w cargs hH _ _ hMF ha
 have hm:∀(bl:Nat→Option Nat) b,aT bl MF (ab []) b↔MF b:=fun bl b=>eV _ b
 refine (h w bl MF cargs hH hMF (ha.mono fun _ _ _ hr=>hr.tr (Tr.of_iff (fun b=>(hm _ b).symm)) (fun _ _=>rfl))).mono fun e w' hh=>?_
 obtain ⟨v,rfl,hst,hv⟩:=hh
 refine ⟨v,r,[],bl,rfl,⟨rfl,rfl⟩,(⟨fun i hi=>(by rw [hid] at hi;cases hi),fun p hp=>absurd hp List.not_mem_nil⟩:fX r []),⟨fun id o hi=>by simp [ab] at hi,fun id id' o o' b hi=>by simp [ab] at hi⟩,?_,?_,fun id o b hi=>by simp [ab] at hi,fun _ h=>h.elim⟩
 ·refine hv.tr (Tr.of_iff (fun b=>hm _ b)) (fun id hi=>?_)
  have:=gR hi
  rw [hid] at this
  cases this
 ·exact ⟨hst.size,fun b hb _=>hst.keep b hb (fun h=>h),hst.shape,hst.os,hst.out⟩
end
section
def wJ (T:Nat→Prop) (N:Nat) (W W':World):Prop:=W.heap.size≤W'.heap.size∧(∀(b:Nat) (o:Obj),N≤b→W.heap[b]? = some o→W'.heap[b]? = some o)∧∀b,T b→W'.heap[b]? = W.heap[b]?
section
variable {T:Nat→Prop}
theorem wJ.refl (N:Nat) (W:World):wJ T N W W:=⟨bD _,fun _ _ _ h=>h,fun _ _=>rfl⟩
theorem wJ.trans {N:Nat} {A B C:World} (h:wJ T N A B) (k:wJ T N B C):wJ T N A C:=⟨cE h.1 k.1,fun b o hb hc=>k.2.1 b o hb (h.2.1 b o hb hc),fun b hb=>(k.2.2 b hb).trans (h.2.2 b hb)⟩
theorem wJ.mono {N N':Nat} {A B:World} (h:wJ T N A B) (hn:N≤N'):wJ T N' A B:=⟨h.1,fun b o hb=>h.2.1 b o (cE hn hb),h.2.2⟩
theorem wJ.putObj (N:Nat) (W:World) (l:Nat) (o':Obj) (hl:l<N) (hT:∀b,T b→b<l):wJ T N W (W.putObj l o') :=
 ⟨by simp [World.putObj],fun b o hb h=>by rw [World.putObj_heap_other (by omega)];exact h,fun b hb=>World.putObj_heap_other (by have:=hT b hb;omega)⟩
theorem wJ.setCell (N:Nat) (W:World) (a:Addr) (v:Value) (hl:a.block<N) (hT:∀b,T b→b<a.block):wJ T N W (W.setCell a v) :=
 ⟨by simp [World.setCell],fun b o hb h=>by
  simp only [World.setCell,lu,aJ (show ¬a.block=b by omega)];exact h,
 fun b hb=>by simp only [World.setCell,lu,aJ (show ¬a.block=b by have:=hT b hb;omega)]⟩
end
variable {n:Nat} {P:Program} [aS P]
end
section
variable {P:Program} [aS P] {X:Type}
theorem F3 {f:FuncId} {args:List AV} {Sb:Nat→Prop} {r:X→AV} {Q:X→Prop} {d:Option Nat} {s:St} {K:St→Prop}
  (h:aE P f args [] Sb (fun r' σ'=>∃x,Q x∧r'=r x∧σ'=[])) (hK:∀x,Q x→K (s.put d (r x))):dB P f args d s K:=by
 refine .inl (.inr ⟨[],_,_,[],h,(fun id o hh=>by cases hh),?_,?_⟩)
 ·rintro r' σ' ⟨x,hx,rfl,rfl⟩ id hid;cases hid
 ·rintro r' σ' ⟨x,hx,rfl,rfl⟩
  refine ⟨⟨jn [] s.env,iU [] s.heap⟩,fun k=>lG k [] s.env,fun i=>?_,hK x hx⟩
  show ab (iU [] s.heap) i=Option.map (dk []) (ab s.heap i)
  rw [kb]
end
inductive Nd:AV→AV→Prop where
 | rfl (x:AV):Nd x x
 | nl (st:Nat):Nd .nl (.sl st [])
 | sl (st:Nat) (rows rows':List (List AV)) (hl:rows.length=rows'.length) (hr:∀(i:Nat) (r r':List AV),rows[i]? = some r→rows'[i]? = some r'→r.length=r'.length)
   (hx:∀(i j:Nat) (r r':List AV) (x y:AV),rows[i]? = some r→rows'[i]? = some r'→r[j]? = some x→r'[j]? = some y→Nd x y):Nd (.sl st rows) (.sl st rows')
theorem IRel.nd {M:Nat→Prop} {w:World} {x y:AV} (h:Nd x y):∀{v:Value},IRel M w v x→IRel M w v y:=by
 induction h with
 | rfl x=>exact fun h=>h
 | nl st=>exact fun h=>IRel.nl_sl h st
 | sl st rows rows' hl hr hx ih =>
  intro v h
  cases h with
  | nls=>obtain rfl:rows'=[]:=jw (by simpa using hl.symm);exact .nls st
  | sl0 _ a cap=>obtain rfl:rows'=[]:=jw (by simpa using hl.symm);exact .sl0 st a cap
  | sl b off cap _ c t fr _ vs hb hM hle hrl hv hxx =>
   rw [hl]
   have get:∀{i:Nat} {r':List AV},rows'[i]? = some r'→∃r,rows[i]? = some r:=fun {i r'} h=>by
    have hi:i<rows'.length:=by
     rcases bK i rows'.length with q | q
     ·exact q
     ·rw [List.getElem?_eq_none q] at h;cases h
    exact ⟨rows[i]'(by omega),eJ _⟩
   refine .sl b off cap st c t fr rows' vs hb hM (by omega) (fun i r' hi=>?_) (fun i j hi hj=>hv i j (by omega) hj) (fun i j r' y hi hj=>?_)
   ·obtain ⟨r,hr2⟩:=get hi
    rw [← hr i r r' hr2 hi]
    exact hrl i r hr2
   ·obtain ⟨r,hr2⟩:=get hi
    have hjl:j<r.length:=by
     rw [hr i r r' hr2 hi]
     rcases bK j r'.length with q | q
     ·exact q
     ·rw [List.getElem?_eq_none q] at hj;cases hj
    exact ih i j r r' _ y hr2 hi (eJ hjl) hj (hxx i j r _ hr2 (eJ hjl))
theorem bq.nd {bl:Nat→Option Nat} {M:Nat→Prop} {w:World} {v:Value} {x y:AV} (h:Nd x y) (hr:bq bl M w v x):bq bl M w v y:=by
 cases h with
 | rfl=>exact hr
 | nl st=>exact IRel.nd (.nl st) (show IRel M w v .nl from hr)
 | sl st rows rows' h1 h2 h3=>exact IRel.nd (.sl st rows rows' h1 h2 h3) (show IRel M w v (.sl st rows) from hr)
def My (x y:AV):Prop:=Nd x y∨∃l m,x = .agg l∧y = .agg m∧aC Nd l m
theorem HT {bl:Nat→Option Nat} {M:Nat→Prop} {w:World} {v:Value} {x y:AV} (h:My x y) (hr:aO bl M w v x):aO bl M w v y:=by
 rcases h with h | ⟨l,m,rfl,rfl,h⟩
 ·cases h with
  | rfl=>exact hr
  | nl st=>exact IRel.nd (.nl st) (show IRel M w v .nl from hr)
  | sl st rows rows' h1 h2 h3=>exact IRel.nd (.sl st rows rows' h1 h2 h3) (show IRel M w v (.sl st rows) from hr)
 ·obtain ⟨cs,h1,h2⟩:=hr
  refine ⟨cs,h1,?_⟩
  clear h1
  induction cs generalizing l m with
  | nil=>match l,m,h,h2 with | [],[],_,_=>trivial
  | cons c cs ih=>match l,m,h,h2 with | a :: l,b :: m,h,h2=>exact ⟨bq.nd h.1 h2.1,ih l m h.2 h2.2⟩
theorem s9 {bl:Nat→Option Nat} {M:Nat→Prop} {w:World}:∀{vs:List Value} {l m:List AV},aC My l m→aC (aO bl M w) vs l→aC (aO bl M w) vs m
 | [],[],[],_,_=>trivial
 | v :: vs,x :: l,y :: m,h,hr=>⟨HT h.1 hr.1,s9 h.2 hr.2⟩
 | [],[],_ :: _,h,_=>h.elim
 | [],_ :: _,_,_,hr=>hr.elim
 | _ :: _,[],_,_,hr=>hr.elim
 | _ :: _,_ :: _,[],h,_=>h.elim
theorem eP {P:Program} [aS P] {f:FuncId} {xs ys:List AV} {r:AV} (hp:ak P f ys r) (h:aC My xs ys):ak P f xs r :=
 fun bl MF w cargs h1 h2 h3 h4 h5=>hp bl MF w cargs h1 h2 h3 h4 (s9 h h5)
theorem Nd.map {α:Type} (st:Nat) (f g:α→List AV) (l:List α) (h:∀a∈l,aC Nd (f a) (g a)):Nd (.sl st (l.map f)) (.sl st (l.map g)):=by
 refine .sl st _ _ (by simp) (fun i r r' h1 h2=>?_) (fun i j r r' x y h1 h2 h3 h4=>?_)
 ·simp only [d_,cj] at h1 h2
  obtain ⟨a,e1,rfl⟩:=h1
  obtain ⟨b,e2,rfl⟩:=h2
  obtain rfl:=Option.some.inj (e1.symm.trans e2)
  exact (h a (f7 e1)).length
 ·simp only [d_,cj] at h1 h2
  obtain ⟨a,e1,rfl⟩:=h1
  obtain ⟨b,e2,rfl⟩:=h2
  obtain rfl:=Option.some.inj (e1.symm.trans e2)
  obtain ⟨x',e3,e4⟩:=(h a (f7 e1)).get h4
  obtain rfl:=Option.some.inj (h3.symm.trans e3)
  exact e4
def dQ (n:Nat):aK→aK
 | .draw ops al dr=>match ops with
  | ⟨⟨some d,op,g⟩,b⟩ :: r=>if d=n then .free (⟨⟨some d,op,g⟩,b⟩ :: r) al dr else .draw (⟨⟨some d,op,g⟩,b⟩ :: r) al dr
  | ops=>.draw ops al dr
 | .seq x y=>.seq (dQ n x) (dQ n y)
 | .cond c x y=>.cond c (dQ n x) (dQ n y)
 | .block id x=>.block id (dQ n x)
 | .loop x=>.loop (dQ n x)
 | x=>x
theorem uD (n d:Nat) (op:fK) (g:Option (Nat×Bool)) (b:List Nat) (r:List av) (al:List (Nat×Nat)) (dr:List Nat) :
  dQ n (.draw (⟨⟨some d,op,g⟩,b⟩ :: r) al dr)=if d=n then .free (⟨⟨some d,op,g⟩,b⟩ :: r) al dr else .draw (⟨⟨some d,op,g⟩,b⟩ :: r) al dr:=aN rfl
theorem xN (n:Nat) (x y:aK):dQ n (.seq x y) = .seq (dQ n x) (dQ n y):=aN rfl
theorem uC (n:Nat) (c:IV) (x y:aK):dQ n (.cond c x y) = .cond c (dQ n x) (dQ n y):=aN rfl
theorem sL (n id:Nat) (x:aK):dQ n (.block id x) = .block id (dQ n x):=aN rfl
theorem uF (n:Nat) (x:aK):dQ n (.loop x) = .loop (dQ n x):=aN rfl
theorem uG (n:Nat):dQ n .skip = .skip:=aN rfl
theorem xM (n:Nat):dQ n .ret = .ret:=aN rfl
theorem uE (n id:Nat):dQ n (.exit id) = .exit id:=aN rfl
theorem xL (n:Nat) (ops:List aD) (dr:List Nat):dQ n (.reg ops dr) = .reg ops dr:=aN rfl
def DZ (b:List Nat) (R:List (Nat×av)):Bool:=R.all fun q=>!b.contains q.1
theorem D0 (b:List Nat):DZ b []=true:=aN rfl
theorem yK (b:List Nat) (i:Nat) (o:av) (R:List (Nat×av)):DZ b ((i,o) :: R)=(!b.contains i&&DZ b R):=aN rfl
def rL (R:List (Nat×av)):List (Nat×av)→List (Nat×av)
 | []=>[]
 | t :: L=>if DZ t.2.bef R=true then t :: rL R L else rL R L
theorem D1 (R:List (Nat×av)):rL R []=[]:=aN rfl
theorem yL (R:List (Nat×av)) (i:Nat) (o:aD) (b:List Nat) (L:List (Nat×av)):rL R ((i,⟨o,b⟩) :: L)=if DZ b R=true then (i,⟨o,b⟩) :: rL R L else rL R L:=aN rfl
theorem Ra (R:List (Nat×av)):Q_ R=rL R R:=by
 have:∀L,L.filter (fun t:Nat×av=>R.all fun q=>!t.2.bef.contains q.1)=rL R L:=by
  intro L
  induction L with
  | nil=>rfl
  | cons t L ih =>
   rw [List.filter_cons,ih]
   rfl
 exact this R
def oq (i:Nat):List (Nat×av)→List (Nat×av)
 | []=>[]
 | t :: L=>if t.1=i then oq i L else t :: oq i L
theorem Bu (i:Nat):oq i []=[]:=aN rfl
theorem xF (i j:Nat) (o:av) (L:List (Nat×av)):oq i ((j,o) :: L)=if j=i then oq i L else (j,o) :: oq i L:=aN rfl
theorem uA (R:List (Nat×av)) (i:Nat):(R.filter fun q=>q.1 != i)=oq i R:=by
 induction R with
 | nil=>rfl
 | cons t R ih =>
  rw [List.filter_cons,ih,show oq i (t :: R)=if t.1=i then oq i R else t :: oq i R from rfl]
  by_cases h:t.1=i
  ·rw [bz h,aJ (by simp [h])]
  ·rw [aJ h,bz (by simp [h])]
section
variable {P:Program} [aS P]
theorem Gn (f:Nat) (R:List (Nat×av)) (s:St) (K:St→Prop) (i:Nat) (o:aD) (b:List Nat):vR P f R s K (i,⟨o,b⟩)=eT P [o] s (v_ P f (oq i R) K):=by rw [Gp,uA]
theorem Gy (f:Nat) (R:List (Nat×av)) (s:St) (K:St→Prop):iR P (f+1) R s K=jQ (rL R R) (vR P f R s K):=by rw [Gz,Ra]
def qf:Nat→List av→List (Nat×av)
 | _,[]=>[]
 | i,o :: r=>(i,o) :: qf (i+1) r
theorem xG (i:Nat):qf i []=[]:=aN rfl
theorem ut (i:Nat) (o:av) (r:List av):qf i (o :: r)=(i,o) :: qf (i+1) r:=aN rfl
theorem xH (r:List av):∀i,((r.zipIdx i).map fun p=>(p.2,p.1))=qf i r:=by
 induction r with
 | nil=>intro i;rfl
 | cons o r ih=>intro i;rw [List.zipIdx_cons,ee,ih];rfl
theorem yg (ops:List av) (al:List (Nat×Nat)) (dr:List Nat) (s:St) (K:IX→St→Prop):fN P (.free ops al dr) s K=iR P ops.length (qf 0 ops) s (CX dr K):=by rw [CP,xH]
end
attribute [go_sem] uD xN uC sL uF uG xM uE xL D0 yK D1 yL Bu xF Gn Gx Gy Hw F4 F5 xG ut yg
attribute [go_sem] List.contains_cons List.contains_nil pD lp
structure Bk (H:Type) where
 f:DataW H→Nat
 str:∀l:List UInt8,l.length≤f (.lit (.string l))
 sl:∀es sp,es.length≤f (.slice es sp)
 sle:∀es sp d,d∈es→f d≤f (.slice es sp)
 ag:∀ps d,d∈ps→f d≤f (.agg ps)
def Ty.bd (B:Nat):Ty→List AV→Prop
 | .str,xs=>∀s,xs=[.str s]→s.length≤B
 | .sl e,xs=>∀st rows,xs=[.sl st rows]→rows.length≤B∧∀r∈rows,e.bd B r
 | .cons f r,xs=>f.bd B (xs.take f.n)∧r.bd B (xs.drop f.n)
 | _,_=>True
def Ty.bdV (B:Nat) (τ:Ty) (x:AV):Prop:=match τ.isRec with
 | true=>∀xs,x = .agg xs→τ.bd B xs
 | false=>τ.bd B [x]
section
variable {H:Type} {enc:TypeId×Value→H} {P:Program} {w:World} {base:Nat} {sp:Nat→Bool} {held:Bool}
end
section
variable {H:Type} {enc:TypeId×Value→H} {P:Program} [aS P] {w:World} {base:Nat} {sp:Nat→Bool} {held:Bool}
end
section
variable {H:Type} {enc:TypeId×Value→H} {P:Program} [aS P] {w:World}
end
def jI (ρ:Nat→Nat):List (Nat×AV)→List (Nat×AV)
 | []=>[]
 | (k,x) :: r=>(k,renV ρ x) :: jI ρ r
theorem kK (ρ:Nat→Nat) (k:Nat):∀e:List (Nat×AV),get (jI ρ e) k=renV ρ (get e k)
 | []=>rfl
 | (j,x) :: r=>by
  simp only [jI,get]
  split
  ·rfl
  ·exact kK ρ k r
theorem Wk.ren (s:St) (ps:List (Nat×Nat)) (h:∀id,1000≤id→id<1267650600228229401496703205376→bw ps id=id):Wk s ⟨jI (fw ps) s.env,cS (fw ps) s.heap⟩:=by
 rintro c a w ⟨bl,hs⟩
 have hb:∀i,(fun i=>bl (bw ps i)) (fw ps i)=bl i:=fun i=>by simp only [oa]
 have hm:∀b,aT (fun i=>bl (bw ps i)) c.MF (ab (cS (fw ps) s.heap)) b→aT bl c.MF (ab s.heap) b:=fun b hm=>pg (oa ps) (sN ps) hb b hm
 refine ⟨fun i=>bl (bw ps i),hs.defers,hs.size,fun k=>?_,ph (oa ps) (sN ps) hs.heap hb hm,hs.step,fun id o b hi hq=>?_,fun id h1 h2=>?_,hs.mf⟩
 ·show aO _ _ _ _ (get (jI (fw ps) s.env) k)
  rw [kK]
  exact pj (hs.env k) hb hm
 ·rw [cC (oa ps) (sN ps)] at hi
  simp only [cj] at hi
  obtain ⟨o0,h5,_⟩:=hi
  exact hs.own _ o0 b h5 hq
 ·show bl (bw ps id)=_
  rw [h id h1 h2]
  exact hs.stab id h1 h2
def I3 (P:Program):Nat→TypeId→Bool
 | 0,_=>true
 | f+1,t=>match P.underlying t with
  | some (.slice e)=>decide (0<P.bytesOf e)&&I3 P f e
  | some (.struct fs)=>fs.toList.all fun x=>I3 P f x.type
  | _=>true
theorem tP {H:Type} {P:Program} {e:TypeId} {d:DataW H} {n:Nat}:∀{l:List (DataW H)},d∈l→n∈DataW.weights P e d→n∈DataW.weightsAll P e l
 | x :: l,h,hn=>by
  rw [DataW.weightsAll,dz]
  rcases bE.1 h with rfl | h
  ·exact .inl hn
  ·exact .inr (tP h hn)
theorem qM {H:Type} {P:Program}:∀(ts us:List TypeId) (ds gs:List (DataW H)) {n:Nat},n∈DataW.weightsEach P ts ds→n∈DataW.weightsEach P (ts++us) (ds++gs)
 | [],us,ds,gs,n,h=>by cases ds<;>simp [DataW.weightsEach] at h
 | t :: ts,us,[],gs,n,h=>by simp [DataW.weightsEach] at h
 | t :: ts,us,d :: ds,gs,n,h=>by
  simp only [kx,DataW.weightsEach,dz] at h ⊢
  exact h.imp_right fun h=>qM ts us ds gs h
theorem EK {H:Type} {P:Program} {ts us:List TypeId} {ds gs:List (DataW H)} {B:Nat} (h:(DataW.weightsEach P (ts++us) (ds++gs)).all (·≤B)=true):∀n∈DataW.weightsEach P ts ds,n≤B:=fun n hn=>of_decide_eq_true (cZ.1 h n (qM ts us ds gs hn))
section
variable {H:Type} {enc:TypeId×Value→H} {P:Program} {w:World} {base:Nat} {sp:Nat→Bool} {held:Bool}
theorem sK {B:Nat} {g:TypeId→Option Ty} {h:TypeId→Bool} {r:TypeId→List Value→Option (DataW H×List MemPlace)}
  (ih:∀t cs τ x xs,g t=some τ→h t=true→r t cs=some x→τ.ok xs→aC (IRel (fun _=>False) w) cs xs→(∀n∈DataW.weights P t x.1,n≤B)→τ.bd B xs) (cs:List Value) :
  ∀(fs:List Field) (off:Nat) (τ:Ty) (xs:List (DataW H×List MemPlace)) (ys:List AV),pz g P off fs=some τ→(fs.all fun x=>h x.type)=true→(fs.mapM fun f=>r f.type ((cs.drop f.offset).take (P.cellsOf f.type)))=some xs →
   τ.ok ys→aC (IRel (fun _=>False) w) (cs.drop off) ys→(∀n∈DataW.weightsEach P (fs.map (·.type)) (xs.map (·.1)),n≤B)→τ.bd B ys
 | [],off,τ,xs,ys,ht,_,_,_,_,_=>by
  simp only [pz,bH] at ht
  subst ht
  trivial
 | f :: fs,off,τ,xs,ys,ht,hw,hm,hok,hr,hB=>by
  rw [List.all_cons,dZ] at hw
  simp only [pz] at ht
  split at ht
  case isFalse=>cases ht
  rename_i hoff
  split at ht
  case h_2=>cases ht
  rename_i a b ha hb
  split at ht
  case isFalse=>cases ht
  rename_i hsz
  cases ht
  simp only [List.mapM_cons,bind,jx,pure,bH] at hm
  obtain ⟨y,h1,zs,h2,rfl⟩:=hm
  simp only [ee,DataW.weightsEach,dz] at hB
  obtain ⟨y1,y2,rfl,o1,o2⟩:=hok
  have hl:=Ty.ok_len a y1 o1
  have r1:=hr.take a.n
  have r2:=hr.drop a.n
  rw [List.take_left' hl] at r1
  rw [List.drop_left' hl,List.drop_drop] at r2
  refine ⟨?_,?_⟩
  ·rw [List.take_left' hl]
   rw [hoff] at h1
   rw [hsz] at r1
   exact ih _ _ _ _ _ ha hw.1 h1 o1 r1 fun n hn=>hB n (.inl hn)
  ·rw [List.drop_left' hl]
   rw [hsz] at r2
   exact sK ih cs fs (off+P.cellsOf f.type) b zs y2 hb hw.2 h2 o2 r2 fun n hn=>hB n (.inr hn)
theorem NB {B:Nat}:∀(fuel f:Nat) (t:TypeId) (cs:List Value) (τ:Ty) (x:DataW H×List MemPlace) (xs:List AV),jL P f t=some τ→I3 P f t=true→DataW.trod enc P w base sp held fuel t cs=some x→τ.ok xs →
  aC (IRel (fun _=>False) w) cs xs→(∀n∈DataW.weights P t x.1,n≤B)→τ.bd B xs:=by
 intro fuel
 induction fuel with
 | zero=>intro f t cs τ x xs _ _ h;simp [DataW.trod] at h
 | succ fuel ih =>
  intro f t cs τ x xs ht hw h hok hr hB
  cases f with
  | zero=>simp [jL] at ht
  | succ f =>
   simp only [jL] at ht
   split at ht
   case h_1 hu=>cases ht;trivial
   case h_2 k' hu=>cases ht;trivial
   case h_3 hu =>
    cases ht
    unfold DataW.trod at h
    split at h<;>rename_i heq<;>first | (rw [hu] at heq;cases heq;done) | (cases h;done) | skip
    rename_i s
    split at h
    ·cases h
     intro s' hs
     subst hs
     have h1:=hr.1
     cases h1
     exact hB _ (by simp [DataW.weights])
    ·cases h
   case h_4 e hu =>
    simp only [I3,hu,dZ,kw] at hw
    split at ht
    case h_2=>cases ht
    rename_i a ha
    split at ht
    case isFalse=>cases ht
    rename_i hsz
    cases ht
    unfold DataW.trod at h
    split at h<;>rename_i heq<;>first | (rw [hu] at heq;cases heq;done) | (cases h;done) | skip
    ·intro st rows hs
     subst hs
     have h1:=hr.1
     cases h1
     exact ⟨cq _,fun r hr=>by cases hr⟩
    ·rename_i e1 ad len cap
     rw [hu] at heq
     cases heq
     simp only at h
     split at h
     case isFalse=>cases h
     rename_i hcap
     simp only [jx,cj] at h
     obtain ⟨elems,hel,rest,_,rfl⟩:=h
     obtain ⟨hlen,ab⟩:=kh hel
     intro st rows hs
     subst hs
     have h1:=hr.1
     simp only [DataW.weights,hu,bE,dz] at hB
     have hall:∀y∈elems,∀n∈DataW.weights P e y.1,n≤B:=fun y hy n hn=>hB n (.inr (.inl (tP (List.mem_map.2 ⟨y,hy,rfl⟩) hn)))
     have hln:elems.length≤B:=by
      have h2:=hB _ (.inl rfl)
      have h3:=hw.1
      rw [dn] at h2
      exact cE (cE (Nat.le_add_right _ _) (Nat.le_mul_of_pos_right _ h3)) h2
     have hrok:∀r∈rows,a.ok r:=by
      rcases hok with hok | ⟨rows',hok,_,h3⟩
      ·cases hok
      ·cases hok;exact h3
     have hst:st=a.n∨rows=[]:=by
      rcases hok with hok | ⟨rows',hok,_,_⟩
      ·cases hok
      ·cases hok;exact .inl rfl
     cases h1 with
     | sl0=>exact ⟨cq _,fun r hr=>by cases hr⟩
     | sl bk of _ _ c tt fr _ vs hb hM hl hrl hv hx =>
      refine ⟨by omega,fun r hrm=>?_⟩
      obtain ⟨i,hi,hri⟩:=List.getElem_of_mem hrm
      have hri':rows[i]? = some r:=by rw [eJ hi,hri]
      obtain ⟨y,g1,g2⟩:=ab i (by omega)
      simp only [jx] at g2
      obtain ⟨row,g3,g4⟩:=g2
      have hym:y∈elems:=f7 g1
      refine ih f e row a y r ha hw.2 g4 (hrok r hrm) ?_ (hall y hym)
      have hst':st=a.n:=hst.resolve_right (fun h=>by rw [h] at hi;simp at hi)
      obtain ⟨q1,q2⟩:=qa g3
      have hblk:∀(q:Addr) m,(q.add m).block=q.block:=fun q m=>by unfold Addr.add;split<;>rfl
      have hoff:∀(q:Addr) m,(q.add m).off=q.off+m:=fun q m=>by
       unfold Addr.add
       split
       ·rename_i hm;simp [hm]
       ·rfl
      refine aC.of_get (by rw [q1,Ty.ok_len a r (hrok r hrm),hsz.1]) (fun j v x hv' hx'=>?_)
      have hj:j<P.cellsOf e:=by
       have:=(dE.1 hv').1
       omega
      obtain ⟨v',p1,p2⟩:=q2 j hj
      rw [hv'] at p1
      cases p1
      obtain ⟨_,c',t',fr',p3,p4⟩:=oh p2
      rw [hblk,hblk] at p3
      simp only at p3
      rw [hb] at p3
      cases p3
      rw [hoff,hoff] at p4
      simp only at p4
      have:=hv i j hi (by rw [hst',hsz.1];exact hj)
      rw [hst',hsz.1,p4] at this
      cases this
      exact hx i j r x hri' hx'
   case h_5 fs hu =>
    simp only [I3,hu] at hw
    split at ht
    case h_2=>cases ht
    rename_i a ha
    split at ht
    case isFalse=>cases ht
    rename_i hsz
    cases ht
    unfold DataW.trod at h
    split at h<;>rename_i heq<;>first | (rw [hu] at heq;cases heq;done) | (cases h;done) | skip
    ·rename_i cs1 fs1
     rw [hu] at heq
     cases heq
     split at h
     case isFalse=>cases h
     rename_i hcl
     simp only [cj] at h
     obtain ⟨ys,h1,rfl⟩:=h
     refine sK (P:=P) (g:=jL P f) (h:=I3 P f) (r:=fun t cs=>DataW.trod enc P w base sp held fuel t cs) (fun t cs τ x xs=>ih f t cs τ x xs) _ _ 0 _ ys xs ha hw h1 hok (by simpa using hr) fun n hn=>hB n ?_
     simpa only [DataW.weights,hu] using hn
   case h_6=>cases ht
end
section
variable {H:Type} {enc:TypeId×Value→H} {P:Program} [aS P] {w:World} {base:Nat} {sp:Nat→Bool} {held:Bool}
theorem FX {B:Nat} {f:Nat} {t:TypeId} {τ:Ty} {r:Reach} {b:Nat} {v:Value} {d:DataW H} {p:List MemPlace} (ht:jL P f t=some τ) (hw:I3 P f t=true) (hv:Value.okWide P w r b t v) (h:DataW.Trod enc P w base sp held t v d p) (hB:∀n∈DataW.weights P t d,n≤B) :
  ∃x,τ.okV x∧τ.bdV B x∧aO (fun _=>none) (fun _=>False) w v x:=by
 obtain ⟨fuel,h⟩:=h
 obtain ⟨xs,h1,h2⟩:=I0 fuel f t _ _ _ ht h
 have hb:=NB fuel f t _ _ _ xs ht hw h h1 h2 hB
 have one:τ.isRec=false→v.cells.toList=[v]→∃x,τ.okV x∧τ.bdV B x∧aO (fun _=>none) (fun _=>False) w v x:=fun hr hc=>by
  rw [hc] at h2
  match xs,h2 with
  | [x],h2=>exact ⟨x,by unfold Ty.okV;rw [hr];exact h1,by unfold Ty.bdV;rw [hr];exact hb,h2.1.toV⟩
 cases f with
 | zero=>simp [jL] at ht
 | succ f =>
  simp only [jL] at ht
  unfold Value.okWide at hv
  split at ht
  ·rename_i hu
   rw [hu] at hv
   cases ht
   exact one rfl (by
    unfold Cell.okWide at hv;rw [hu] at hv
    simp only [Cell.ok,hu] at hv
    cases v<;>first | rfl | exact hv.elim)
  ·rename_i k hu
   rw [hu] at hv
   cases ht
   exact one rfl (by
    unfold Cell.okWide at hv;rw [hu] at hv
    simp only [Cell.ok,hu] at hv
    cases v<;>first | rfl | exact hv.elim)
  ·rename_i hu
   rw [hu] at hv
   cases ht
   exact one rfl (by
    unfold Cell.okWide at hv;rw [hu] at hv
    simp only [Cell.ok,hu] at hv
    cases v<;>first | rfl | exact hv.elim)
  ·rename_i e hu
   rw [hu] at hv
   have hr:τ.isRec=false:=by
    split at ht
    case h_2=>cases ht
    split at ht
    case isFalse=>cases ht
    cases ht
    rfl
   exact one hr (by
    unfold Cell.okWide at hv;rw [hu] at hv
    simp only [Cell.ok,hu] at hv
    cases v<;>first | rfl | exact hv.elim)
  ·rename_i fs hu
   rw [hu] at hv
   have hr:τ.isRec=true:=by
    split at ht
    case h_2=>cases ht
    rename_i hfs
    split at ht
    case isFalse=>cases ht
    cases ht
    exact vn hfs
   obtain ⟨cs,rfl,_,_⟩:=hv
   refine ⟨.agg xs,by unfold Ty.okV;rw [hr];exact ⟨xs,rfl,h1⟩,by unfold Ty.bdV;rw [hr];intro ys hy;cases hy;exact hb,cs.toList,by simp,?_⟩
   exact aC.mono h2 fun a x _ h=>h.toC
  ·cases ht
theorem sD {B:Nat} {r:Reach} {b:Nat}:∀{ts:List TypeId} {τs:List Ty} {vs:List Value} {ds:List (DataW H)} {ps:List MemPlace},aC (fun t τ=>jL P 9 t=some τ∧I3 P 9 t=true) ts τs →
  DataW.TrodAll enc P w base sp held ts vs ds ps→(∀(j:Nat) t v,ts[j]? = some t→vs[j]? = some v→Value.okWide P w r b t v)→(∀n∈DataW.weightsEach P ts ds,n≤B)→∃xs,aC Ty.okV τs xs∧aC (Ty.bdV B) τs xs∧aC (aO (fun _=>none) (fun _=>False) w) vs xs
 | [],[],[],ds,ps,_,h,_,_=>⟨[],trivial,trivial,trivial⟩
 | t :: ts,τ :: τs,v :: vs,d :: ds,ps,ht,h,hv,hB=>by
  obtain ⟨p,q,h3,h4,rfl⟩:=h
  simp only [DataW.weightsEach,dz] at hB
  obtain ⟨x,h5,h5b,h6⟩:=FX ht.1.1 ht.1.2 (hv 0 t v rfl rfl) h3 fun n hn=>hB n (.inl hn)
  obtain ⟨xs,h7,h7b,h8⟩:=sD ht.2 h4 (fun j t v h1 h2=>hv (j+1) t v (by simpa using h1) (by simpa using h2)) fun n hn=>hB n (.inr hn)
  exact ⟨x :: xs,⟨h5,h7⟩,⟨h5b,h7b⟩,h6,h8⟩
 | [],[],_ :: _,_,_,_,h,_,_=>h.elim
 | _ :: _,[],_,_,_,ht,_,_,_=>ht.elim
 | [],_ :: _,_,_,_,ht,_,_,_=>ht.elim
 | _ :: _,_ :: _,[],_,_,_,h,_,_=>h.elim
 | _ :: _,_ :: _,_ :: _,[],_,_,h,_,_=>h.elim
end
section
variable {H:Type} {enc:TypeId×Value→H} {P:Program} [aS P] {w:World}
theorem pM {B:Nat} {fid:FuncId} {f:Func} {s:ChangeSpec} (τs:List Ty) {tb:TypeId} {apart fresh handsOn again:Bool} (hty:aC (fun t τ=>jL P 9 t=some τ∧I3 P 9 t=true) f.params.toList τs) (hl:laidOutB P=true)
  (hr:∀t∈f.params.toList,P.readableRec t=true∧t<P.types.size) (hvs:s.vars=[])
  (hfn:∀ds:List (DataW H),ds.length=τs.length→(s.fn H ds).results=[.lit (.bool true)]∧(s.fn H ds).args=ds∧(s.fn H ds).vars=[])
  (hrt:f.resultTypes = #[tb]) (htb:P.underlying tb=some .bool)
  (hp:∀xs,aC Ty.okV τs xs→aC (Ty.bdV B) τs xs→ak P fid xs (.bool true))
  (W:World) (b:Nat) (args:Array Value) (ds gs:List (DataW H)) (before:List MemPlace) {r:Reach} (hT:(aS.T P).H W)
  (hval:∀(j:Nat) t v,f.params[j]? = some t→args[j]? = some v→Value.okWide P W r b t v)
  (hW:DataW.Whole enc P f.params.toList s.vars apart W args.toList ds gs before) (hB:∀n∈DataW.weightsEach P f.params.toList ds,n≤B) :
  Calls P fid args W fun e W'=>∃v,e = .returned v∧s.post enc P f apart fresh handsOn again W args v W':=by
 have hW':=hW
 obtain ⟨p,q,hA,hV,_,_,_⟩:=hW
 rw [hvs] at hV
 obtain ⟨rfl,rfl⟩:=trodVars_none hV
 obtain ⟨xs,h1,h1b,h2⟩:=sD hty hA (fun j t v h1 h2=>hval j t v (by simpa using h1) (by simpa using h2)) hB
 have h4:=hp xs h1 h1b
 have hlen:ds.length=τs.length:=by
  have key:∀{ts:List TypeId} {vs:List Value} {ds:List (DataW H)} {ps:List MemPlace},DataW.TrodAll enc P W 0 (fun _=>true) true ts vs ds ps→ds.length=ts.length:=by
   intro ts
   induction ts with
   | nil=>intro vs ds ps h;match vs,ds,h with | [],[],_=>rfl
   | cons t ts ih=>intro vs ds ps h;match vs,ds,h with | v :: vs,d :: ds,⟨_,_,_,h4,_⟩=>simp [ih h4]
  rw [key hA,hty.length]
 obtain ⟨g1,g2,g3⟩:=hfn ds hlen
 have:=tc h4 hT h2
 rw [show args.toList.toArray=args from by simp] at this
 refine this.mono fun e W' ⟨he,hk⟩=>⟨_,he,?_⟩
 exact CY hl hr hvs (by simpa using g1) (by simpa using g2) (by simpa using g3) hrt htb hW' hk
end
def eH (n:Nat):aK→aK
 | .draw ops al dr=>match ops with
  | ⟨⟨some d,op,g⟩,b⟩ :: r=>if d=n then .wild (⟨⟨some d,op,g⟩,b⟩ :: r) al dr else .draw (⟨⟨some d,op,g⟩,b⟩ :: r) al dr
  | ops=>.draw ops al dr
 | .seq x y=>.seq (eH n x) (eH n y)
 | .cond c x y=>.cond c (eH n x) (eH n y)
 | .block id x=>.block id (eH n x)
 | .loop x=>.loop (eH n x)
 | x=>x
theorem vq (n d:Nat) (op:fK) (g:Option (Nat×Bool)) (b:List Nat) (r:List av) (al:List (Nat×Nat)) (dr:List Nat) :
  eH n (.draw (⟨⟨some d,op,g⟩,b⟩ :: r) al dr)=if d=n then .wild (⟨⟨some d,op,g⟩,b⟩ :: r) al dr else .draw (⟨⟨some d,op,g⟩,b⟩ :: r) al dr:=aN rfl
theorem y7 (n:Nat) (x y:aK):eH n (.seq x y) = .seq (eH n x) (eH n y):=aN rfl
theorem vp (n:Nat) (c:IV) (x y:aK):eH n (.cond c x y) = .cond c (eH n x) (eH n y):=aN rfl
theorem tR (n id:Nat) (x:aK):eH n (.block id x) = .block id (eH n x):=aN rfl
theorem vt (n:Nat) (x:aK):eH n (.loop x) = .loop (eH n x):=aN rfl
theorem vu (n:Nat):eH n .skip = .skip:=aN rfl
theorem y6 (n:Nat):eH n .ret = .ret:=aN rfl
theorem vr (n id:Nat):eH n (.exit id) = .exit id:=aN rfl
theorem yZ (n:Nat) (ops:List aD) (dr:List Nat):eH n (.reg ops dr) = .reg ops dr:=aN rfl
def qx:List av→List av
 | []=>[]
 | [_]=>[]
 | o :: p :: r=>o :: qx (p :: r)
def oQ:List av→Option av
 | []=>none
 | [o]=>some o
 | _ :: p :: r=>oQ (p :: r)
theorem x_ (o:av):qx [o]=[]:=aN rfl
theorem oN (o p:av) (r:List av):qx (o :: p :: r)=o :: qx (p :: r):=aN rfl
theorem yi (o:av):oQ [o]=some o:=aN rfl
theorem oR (o p:av) (r:List av):oQ (o :: p :: r)=oQ (p :: r):=aN rfl
theorem v6:∀l,qx l=l.dropLast
 | []=>rfl
 | [_]=>rfl
 | o :: p :: r=>by rw [oN,v6 (p :: r)];rfl
theorem wb:∀l,oQ l=l.getLast?
 | []=>rfl
 | [_]=>rfl
 | o :: p :: r=>by rw [oR,wb (p :: r),List.getLast?_cons_cons]
section
variable {P:Program} [aS P]
def PN (al:List (Nat×Nat)) (n:Nat) (o:Option av) (dr:List Nat) (K:IX→St→Prop) (hist:List HI) (s:St):Prop :=
 match o with
 | some o=>tS al (n - 1) o hist s fun s'=>K .nrm ⟨dels dr s'.env,s'.heap⟩
 | none=>False
def CU (P:Program) [aS P] (al:List (Nat×Nat)) (i:Nat) (r:List av) (K:List HI→St→Prop) (hist:List HI) (s:St):Prop:=di P al i r hist s K
theorem CV (al:List (Nat×Nat)) (i:Nat) (r:List av) (K:List HI→St→Prop) (hist:List HI) (s:St):CU P al i r K hist s=di P al i r hist s K:=aN rfl
theorem uM (al:List (Nat×Nat)) (i:Nat) (hist:List HI) (s:St) (K:List HI→St→Prop):di P al i [] hist s K=K hist s:=aN rfl
theorem sO (al:List (Nat×Nat)) (i:Nat) (d:Option Nat) (op:fK) (bf:List Nat) (r:List av) (hist:List HI) (s:St) (K:List HI→St→Prop) :
  di P al i (⟨⟨d,op,none⟩,bf⟩ :: r) hist s K=bX P al i ⟨⟨d,op,none⟩,bf⟩ hist s (CU P al (i+1) r K):=aN rfl
theorem CR (ops:List av) (al:List (Nat×Nat)) (dr:List Nat) (s:St) (K:IX→St→Prop):fN P (.wild ops al dr) s K=di P al 0 (qx ops) [] (kills (al.map (·.1)) s) (PN al ops.length (oQ ops) dr K):=by
 rw [v6,wb]
 rfl
end
attribute [go_sem] vq y7 vp tR vt vu y6 vr yZ x_ oN yi oR uM sO CV CR
theorem HG {n:Nat} {c:List AV} (h:c.length=n):iF (some n) c=some (.agg c):=by
 show (if n≤c.length then some (AV.agg (c.take n)) else none)=_
 rw [bz (by omega),kv (by omega)]
theorem IT {k n:Nat} {t:TypeId} {z c:List AV} (hz:z.length=n) (h:c.length=n):m8 k n n 0 0 (some ⟨t,n,[z],true⟩) (some c)=some (.put k ⟨t,n,[c],true⟩):=by
 unfold m8
 simp only [true_and,rX,and_true]
 rw [bz h]
 show (if 0+n≤z.length then some (aM.put k ⟨t,n,[z].set 0 (cH z 0 c),true⟩) else none)=_
 rw [bz (by omega)]
 unfold cH
 rw [dN,mL,Nat.zero_add,List.drop_eq_nil_of_le (by omega),mM]
 rfl
def RX (n:Nat) (c:List AV):Prop:=c.length=n∧(∀i,c.any (mC i)=false)∧ax (.agg c)=[]
theorem DW (i:Nat) (t:TypeId) (st:Nat) (rows:List (List AV)):bV i ⟨t,st,rows,true⟩ =⟨t,st,rows.map (fun r=>r.map (iI i)),true⟩:=rfl
theorem DV (i:Nat) (t:TypeId) (st:Nat) (rows:List (List AV)):bV i ⟨t,st,rows,false⟩ =⟨t,st,rows,false⟩:=rfl
attribute [go_sem high] DW DV
section
variable {P:Program} [aS P]
theorem qw {bl:Nat→Option Nat} {M:Nat→Prop} {w:World} {v:Value} {x:AV} (h:bq bl M w v x) (h1:db x=true) (h2:iS x=false):IRel M w v x:=by
 cases x<;>first | (simp [db] at h1;done) | exact h | (simp [iS] at h2;done)
theorem qo {x:AV} (h:jR x=true):be x=[]:=by cases x<;>first | rfl | (simp [jR] at h)
theorem lE {f:AV→Bool} {g:AV→List Nat} (hh:∀x,f x=true→g x=[]):∀l:List AV,l.all f=true→l.flatMap g=[]
 | [],_=>rfl
 | x :: l,h=>by
  simp only [List.all_cons,dZ] at h
  simp only [pB,hh x h.1,lE hh l h.2,mM]
theorem qp {x:AV} (h:kI x=true):bU x=[]:=by
 cases x with
 | agg cells=>exact lE (fun _=>qo) cells h
 | _=>first | exact qo (by simpa only [kI] using h) | rfl | (simp [kI,jR] at h)
theorem BF {x:AV} (h:ii x=true):ax x=[]:=by
 cases x with
 | tup vs=>exact lE (fun _=>qp) vs h
 | _=>first | exact qp (by simpa only [ii] using h) | rfl | (simp [ii,kI,jR] at h)
theorem aE.lend {f:FuncId} {args args':List AV} {r:AV} {σ:List (Nat×ac)} {s':St} (hp:ak P f args' r) (hf:ii r=true) (hw:pH ⟨[],σ⟩ args s' args') (hid:∀x∈args',ax x=[]) (hcl:∀p∈σ,∀i∈bo p.2,(ab σ i).isSome=true) (Sb:Nat→Prop) :
  aE P f args σ Sb (fun r' σ'=>r'=r∧σ'=σ):=by
 intro bl MF w cargs hT hTM hH hMF hA
 let c:i3:={ w0:=w,bl0:=bl,W:=gM bl σ,MF:=MF,n:=0,T:=aS.T P,tH:=hT,tW:=fun b hb ⟨id,o,h1,h2⟩=>hTM b hb (.inr ⟨id,o,h1,h2⟩),tM:=fun b hb hm=>hTM b hb (.inl hm),hn:=by decide }
 let a:Act:=⟨#[],[]⟩
 have hs:aB c bl (get ([]:List (Nat×AV))) (ab σ) a w:=⟨rfl,rfl,fun k=>trivial,hH,gD.refl _ _,fun id o b h1 h2=>.inr ⟨id,o,h1,h2⟩,fun _ _ _=>rfl,hMF⟩
 obtain ⟨bl',hs',hA'⟩:=hw c a w bl cargs hs hA
 let MF':Nat→Prop:=aT bl' MF (ab s'.heap)
 have hMF':∀q,MF' q→q<w.heap.size:=fun q hq=>by
  rcases hq with hm | ⟨id,o,h1,h2⟩
  ·exact hMF q hm
  ·rcases hs'.heap.1 id o h1 with hn | ⟨b',g2,hO⟩
   ·rw [hn.2.2] at h2;cases h2
   ·rw [h2] at g2;cases g2;exact hO.lt
 have hargs:aC (aO (fun _=>none) (aT (fun _=>none) MF' (ab [])) w) cargs args':=hA'.mono fun v x hx hv=>by
  refine aO.tr hv ⟨fun q hq _=>⟨fun hm=>hq ((eV MF' q).1 hm),rfl⟩,fun _ c1 _ fr hb=>⟨c1,fr,hb,rfl⟩⟩ (fun id hm=>?_)
  have:=gR hm
  rw [hid x hx] at this
  cases this
 refine (hp (fun _=>none) MF' w cargs hT (fun b hb hm=>?_) ⟨(fun id o h=>by cases h),(fun id id' o o' b h=>by cases h)⟩ hMF' hargs).mono ?_
 ·have hm:=(eV MF' b).1 hm
  haveI:CT c P:=⟨rfl⟩
  exact aB.tabW (c:=c) hs' b hb hm
 rintro e w' ⟨v,r',σ',bl2,rfl,⟨rfl,rfl⟩,_,_,hv,hst,_,_⟩
 have hst':gD (fun _=>False) w w':=⟨hst.size,fun b hb _=>hst.keep b hb (fun ⟨id,o,h,_⟩=>by cases h),hst.shape,hst.os,hst.out⟩
 have hg:=aB.grow (c:=c) hs hst'
 exact ⟨v,_,_,bl,rfl,⟨rfl,rfl⟩,⟨(fun i hi=>by rw [BF hf] at hi;cases hi),hcl⟩,hg.heap,qn hf hv,⟨hst.size,fun b hb _=>hst'.keep b hb (fun h=>h),hst.shape,hst.os,hst.out⟩,fun id o b h1 h2=>.inr ⟨id,o,h1,h2⟩,fun _ _=>rfl⟩
end
section
variable {n:Nat} {P:Program} [aS P]
end
theorem aB.flag {c:i3} {bl:Nat→Option Nat} {s:St} {a:Act} {w:World} (hs:aB c bl (get s.env) (ab s.heap) a w) {i:Nat} {t:TypeId} {st:Nat} {rs:List (List AV)} {q:Bool} (q':Bool) (hi:ab s.heap i=some ⟨t,st,rs,q⟩) (h0:q'=true→rs≠[])
  (hr:q'=false→∀r∈rs,∀x∈r,db x=true∧iS x=false) :
  aB c bl (get s.env) (ab ((i,⟨t,st,rs,q'⟩) :: s.heap)) a w∧aT bl c.MF (ab ((i,⟨t,st,rs,q'⟩) :: s.heap))=aT bl c.MF (ab s.heap):=by
 have hm:aT bl c.MF (ab ((i,⟨t,st,rs,q'⟩) :: s.heap))=aT bl c.MF (ab s.heap):=by
  funext b
  refine propext (aT.congr (fun j=>?_) b)
  simp only [ab]
  split
  ·rename_i h;subst h;rw [hi];rfl
  ·rfl
 refine ⟨⟨hs.defers,hs.size,by rw [hm];exact hs.env,⟨fun j o hj=>?_,fun j j' o o' b h1 h2=>?_⟩,hs.step,fun j o b h1=>?_,hs.stab,hs.mf⟩,hm⟩
 ·rw [hm]
  simp only [ab] at hj
  split at hj
  ·rename_i hij
   subst hij
   cases hj
   rcases hs.heap.1 _ _ hi with ⟨h1,h2,h3⟩ | ⟨b,g1,⟨gk,c1,fr,g2,g3,g4,g5,g6,g7⟩ | hsp⟩
   ·cases q' with
    | true=>exact absurd h1 (h0 rfl)
    | false=>exact .inl ⟨h1,rfl,h3⟩
   ·refine .inr ⟨b,g1,.inl ⟨rfl,c1,fr,g2,g3,g4,g5,g6,fun k p u x hu hx=>?_⟩⟩
    obtain ⟨v,hv1,hv2⟩:=g7 k p u x hu hx
    refine ⟨v,hv1,?_⟩
    cases q<;>cases q'
    ·exact hv2
    ·exact IRel.toC hv2
    ·obtain ⟨z1,z2⟩:=hr rfl u (f7 hu) x (f7 hx)
     exact qw hv2 z1 z2
    ·exact hv2
   ·exact absurd hsp.rel (fun h=>h)
  ·exact hs.heap.1 j o hj
 ·have key:∀{j:Nat} {o:ac},ab ((i,⟨t,st,rs,q'⟩) :: s.heap) j=some o→∃o',ab s.heap j=some o':=fun {j o} hj=>by
   simp only [ab] at hj
   split at hj
   ·rename_i hij;subst hij;exact ⟨_,hi⟩
   ·exact ⟨_,hj⟩
  obtain ⟨p1,q1⟩:=key h1
  obtain ⟨p2,q2⟩:=key h2
  exact hs.heap.2 j j' p1 p2 b q1 q2
 ·simp only [ab] at h1
  split at h1
  ·rename_i hij;subst hij;exact hs.own i _ b hi
  ·exact hs.own j o b h1
theorem Wk.flag (s:St) (i:Nat) {t:TypeId} {st:Nat} {rs:List (List AV)} {q:Bool} (q':Bool) (hi:ab s.heap i=some ⟨t,st,rs,q⟩) (h0:q'=true→rs≠[]) (hr:q'=false→∀r∈rs,∀x∈r,db x=true∧iS x=false) :
  Wk s ⟨s.env,(i,⟨t,st,rs,q'⟩) :: s.heap⟩:=fun c a w ⟨bl,h1⟩=>⟨bl,(aB.flag h1 q' hi h0 hr).1⟩
theorem pH.flag (s:St) (l:List AV) (i:Nat) {t:TypeId} {st:Nat} {rs:List (List AV)} {q:Bool} (q':Bool) (hi:ab s.heap i=some ⟨t,st,rs,q⟩) (h0:q'=true→rs≠[]) (hr:q'=false→∀r∈rs,∀x∈r,db x=true∧iS x=false) :
  pH s l ⟨s.env,(i,⟨t,st,rs,q'⟩) :: s.heap⟩ l:=fun c a w bl vs h1 h2=>by
 obtain ⟨h3,hm⟩:=aB.flag h1 q' hi h0 hr
 exact ⟨bl,h3,by rw [hm];exact h2⟩
def gO (n:Nat) (cs:List Nat):aK→aK
 | .draw ops al dr=>match ops with
  | ⟨⟨some d,op,g⟩,b⟩ :: r=>if d=n then .clon cs (⟨⟨some d,op,g⟩,b⟩ :: r) al dr else .draw (⟨⟨some d,op,g⟩,b⟩ :: r) al dr
  | ops=>.draw ops al dr
 | .seq x y=>.seq (gO n cs x) (gO n cs y)
 | .cond c x y=>.cond c (gO n cs x) (gO n cs y)
 | .block id x=>.block id (gO n cs x)
 | .loop x=>.loop (gO n cs x)
 | x=>x
theorem xr (n:Nat) (cs:List Nat) (d:Nat) (op:fK) (g:Option (Nat×Bool)) (b:List Nat) (r:List av) (al:List (Nat×Nat)) (dr:List Nat) :
  gO n cs (.draw (⟨⟨some d,op,g⟩,b⟩ :: r) al dr)=if d=n then .clon cs (⟨⟨some d,op,g⟩,b⟩ :: r) al dr else .draw (⟨⟨some d,op,g⟩,b⟩ :: r) al dr:=aN rfl
theorem Bd (n:Nat) (cs:List Nat) (x y:aK):gO n cs (.seq x y) = .seq (gO n cs x) (gO n cs y):=aN rfl
theorem xq (n:Nat) (cs:List Nat) (c:IV) (x y:aK):gO n cs (.cond c x y) = .cond c (gO n cs x) (gO n cs y):=aN rfl
theorem ul (n:Nat) (cs:List Nat) (id:Nat) (x:aK):gO n cs (.block id x) = .block id (gO n cs x):=aN rfl
theorem xw (n:Nat) (cs:List Nat) (x:aK):gO n cs (.loop x) = .loop (gO n cs x):=aN rfl
theorem xx (n:Nat) (cs:List Nat):gO n cs .skip = .skip:=aN rfl
theorem Bc (n:Nat) (cs:List Nat):gO n cs .ret = .ret:=aN rfl
theorem xu (n:Nat) (cs:List Nat) (id:Nat):gO n cs (.exit id) = .exit id:=aN rfl
theorem Bb (n:Nat) (cs:List Nat) (ops:List aD) (dr:List Nat):gO n cs (.reg ops dr) = .reg ops dr:=aN rfl
attribute [go_sem] xr Bd xq ul xw xx Bc xu Bb
section
variable {P:Program} [aS P]
end
def vV:aK→Nat
 | .reg (o :: _) _=>o.dst.getD 0
 | .draw (o :: _) _ _=>o.o.dst.getD 0
 | _=>0
def gd (ns:List Nat):aK→aK
 | .seq x y=>if ns.contains (vV x)=true then .cut x (gd ns y) else .seq (gd ns x) (gd ns y)
 | .cond c x y=>.cond c (gd ns x) (gd ns y)
 | .block id x=>.block id (gd ns x)
 | .loop x=>.loop (gd ns x)
 | x=>x
theorem kL (d:Nat) (op:fK) (g:Option (Nat×Bool)) (r:List aD) (dr:List Nat):vV (.reg (⟨some d,op,g⟩ :: r) dr)=d:=rfl
theorem jf (op:fK) (g:Option (Nat×Bool)) (r:List aD) (dr:List Nat):vV (.reg (⟨none,op,g⟩ :: r) dr)=0:=rfl
theorem jg:vV .skip=0:=rfl
theorem kM:vV .ret=0:=rfl
theorem kN (x y:aK):vV (.seq x y)=0:=rfl
theorem jd (c:IV) (x y:aK):vV (.cond c x y)=0:=rfl
theorem ij (i:Nat) (x:aK):vV (.block i x)=0:=rfl
theorem je (d:Nat) (op:fK) (g:Option (Nat×Bool)) (b:List Nat) (r:List av) (al:List (Nat×Nat)) (dr:List Nat):vV (.draw (⟨⟨some d,op,g⟩,b⟩ :: r) al dr)=d:=rfl
theorem Bo (n:List Nat) (x y:aK):gd n (.seq x y)=if n.contains (vV x)=true then .cut x (gd n y) else .seq (gd n x) (gd n y):=rfl
theorem xz (n:List Nat) (c:IV) (x y:aK):gd n (.cond c x y) = .cond c (gd n x) (gd n y):=rfl
theorem uo (n:List Nat) (i:Nat) (x:aK):gd n (.block i x) = .block i (gd n x):=rfl
theorem xC (n:List Nat) (x:aK):gd n (.loop x) = .loop (gd n x):=rfl
theorem xD (n:List Nat):gd n .skip = .skip:=rfl
theorem Bn (n:List Nat):gd n .ret = .ret:=rfl
theorem xB (n:List Nat) (i:Nat):gd n (.exit i) = .exit i:=rfl
theorem Bm (n:List Nat) (ops:List aD) (dr:List Nat):gd n (.reg ops dr) = .reg ops dr:=rfl
theorem xA (n:List Nat) (ops:List av) (al:List (Nat×Nat)) (dr:List Nat):gd n (.draw ops al dr) = .draw ops al dr:=rfl
def pU (i:Nat):List (Nat×ac)→List (Nat×ac)
 | []=>[]
 | (k,o) :: r=>(k,if k=i then { o with isRec:=false } else o) :: pU i r
def St.unr (s:St) (i:Nat):St:=⟨s.env,pU i s.heap⟩
def NX (rows:List (List AV)):Bool:=rows.all fun r=>r.all fun x=>db x && !iS x
theorem qu (i:Nat):∀(σ:List (Nat×ac)) (j:Nat),ab (pU i σ) j=if j=i then (ab σ j).map (fun o=>{ o with isRec:=false }) else ab σ j
 | [],j=>by simp [pU,ab]
 | (k,o) :: r,j=>by
  simp only [pU,ab,qu i r j]
  by_cases h:k=j
  ·subst h
   by_cases h2:k=i<;>simp [h2]
  ·rw [aJ h,aJ h]
theorem Wk.unr (s:St) (i:Nat) {t:TypeId} {st:Nat} {rs:List (List AV)} {q:Bool} (hi:ab s.heap i=some ⟨t,st,rs,q⟩) (hr:NX rs=true):Wk s (s.unr i):=by
 refine (Wk.flag s i false hi (fun h=>by cases h) (fun _ r hm x hx=>?_)).trans ?_
 ·have:=cZ.1 (cZ.1 hr r hm) x hx
  simpa using this
 ·rintro c a w ⟨bl,hs⟩
  refine ⟨bl,hs.congr (fun _=>rfl) (fun j=>?_)⟩
  simp only [St.unr,qu,ab]
  by_cases h:j=i
  ·subst h;simp [hi]
  ·rw [aJ h,aJ (Ne.symm h)]
theorem NI (i:Nat):pU i []=[]:=rfl
theorem NH (i k:Nat) (t:TypeId) (st:Nat) (rs:List (List AV)) (q:Bool) (r:List (Nat×ac)):pU i ((k,⟨t,st,rs,q⟩) :: r)=(k,⟨t,st,rs,if k=i then false else q⟩) :: pU i r:=by
 simp only [pU]
 by_cases h:k=i<;>simp [h]
theorem Rp (e:List (Nat×AV)) (h:List (Nat×ac)) (i:Nat):St.unr ⟨e,h⟩ i =⟨e,pU i h⟩:=rfl
def HU:List (List AV)→List (List AV)→Prop
 | [],[]=>True
 | x :: l,y :: m=>Mz x y∧HU l m
 | _,_=>False
theorem kV:∀{l m:List (List AV)},HU l m→m.length=l.length
 | [],[],_=>rfl
 | _ :: _,_ :: _,h=>by simp [kV h.2]
 | [],_ :: _,h=>h.elim
 | _ :: _,[],h=>h.elim
theorem o5:∀{l m:List (List AV)},HU l m→∀{j:Nat} {y:List AV},m[j]? = some y→∃x,l[j]? = some x∧Mz x y
 | [],[],_,j,y,hy=>by simp at hy
 | x :: l,z :: m,h,0,y,hy=>by simp at hy;subst hy;exact ⟨x,rfl,h.1⟩
 | x :: l,z :: m,h,j+1,y,hy=>by simpa using o5 h.2 (j:=j) (by simpa using hy)
 | [],_ :: _,h,_,_,_=>h.elim
 | _ :: _,[],h,_,_,_=>h.elim
theorem Wk.nla (s:St) (i:Nat) {t:TypeId} {st:Nat} {rs rs':List (List AV)} (hi:ab s.heap i=some ⟨t,st,rs,false⟩) (hr:HU rs rs'):Wk s ⟨s.env,(i,⟨t,st,rs',false⟩) :: s.heap⟩:=by
 rintro c a w ⟨bl,hs⟩
 have hm:∀b,aT bl c.MF (ab ((i,⟨t,st,rs',false⟩) :: s.heap)) b↔aT bl c.MF (ab s.heap) b:=aT.congr fun j=>by
  simp only [ab]
  split
  ·rename_i h;subst h;rw [hi];rfl
  ·rfl
 have ht:=Tr.of_iff (w:=w) fun b=>(hm b)
 refine ⟨bl,hs.defers,hs.size,fun j=>(hs.env j).tr ht (fun _ _=>rfl),⟨fun j o hj=>?_,fun j j' o o' b h1 h2=>?_⟩,hs.step,fun j o b h1=>?_,hs.stab,hs.mf⟩
 ·simp only [ab] at hj
  split at hj
  ·rename_i hij
   subst hij
   cases hj
   rcases hs.heap.1 i _ hi with hn | ⟨b,g1,⟨gk,c1,fr,g2,g3,g4,g5,g6,g7⟩ | hsp⟩
   ·have e:rs'=[]:=by
     have h1:=kV hr
     have h2:rs=[]:=hn.1
     rw [h2] at h1
     exact jw h1
    subst e
    exact .inl ⟨rfl,hn.2⟩
   rotate_left
   ·have e:rs'=[]:=by
     have h1:=kV hr
     have h2:rs=[]:=hsp.rows
     rw [h2] at h1
     exact jw h1
    subst e
    exact .inr ⟨b,g1,.inr ⟨rfl,rfl,hsp.free,hsp.rel⟩⟩
   ·refine .inr ⟨b,g1,.inl ⟨gk,c1,fr,g2,g3,g4,fun k q hq=>?_,by rw [kV hr];exact g6,fun k q u x hu hx=>?_⟩⟩
    ·obtain ⟨r0,h1,h2⟩:=o5 hr hq
     rw [wg h2];exact g5 k r0 h1
    ·obtain ⟨r0,h1,h2⟩:=o5 hr hu
     obtain ⟨x0,h3,h4⟩:=we h2 hx
     obtain ⟨v,hv1,hv2⟩:=g7 k q r0 x0 h1 h3
     refine ⟨v,hv1,?_⟩
     have hv3:IRel (aT bl c.MF (ab s.heap)) w v x0:=hv2
     rcases h4 with h4 | ⟨h4,st',h5⟩
     ·subst h4
      exact hv3.tr ht.keep
     ·subst h4 h5
      exact (IRel.nl_sl hv3 st').tr ht.keep
  ·rcases hs.heap.1 j o hj with hn | ⟨b,g1,⟨gk,c1,fr,g2,g3,g4,g5,g6,g7⟩ | hsp⟩
   ·exact .inl hn
   rotate_left
   ·exact .inr ⟨b,g1,.inr hsp⟩
   ·refine .inr ⟨b,g1,.inl ⟨gk,c1,fr,g2,g3,g4,g5,g6,fun k q u x hu hx=>?_⟩⟩
    obtain ⟨v,hv1,hv2⟩:=g7 k q u x hu hx
    refine ⟨v,hv1,?_⟩
    cases hrec:o.isRec<;>simp only [hrec,fP] at hv2 ⊢
    ·exact hv2.tr ht.keep
    ·exact hv2.tr ht (fun _ _=>rfl)
 ·have key:∀{j:Nat} {o:ac},ab ((i,⟨t,st,rs',false⟩) :: s.heap) j=some o→∃o',ab s.heap j=some o':=fun {j o} hj=>by
   simp only [ab] at hj
   split at hj
   ·rename_i hij;subst hij;exact ⟨_,hi⟩
   ·exact ⟨_,hj⟩
  obtain ⟨p1,q1⟩:=key h1
  obtain ⟨p2,q2⟩:=key h2
  exact hs.heap.2 j j' p1 p2 b q1 q2
 ·simp only [ab] at h1
  split at h1
  ·rename_i hij;subst hij;exact hs.own i _ b hi
  ·exact hs.own j o b h1
section
variable {α:Type} [Inhabited α]
def qK (c c':α→List AV) (k:Nat) (l:List α):List (List AV):=l.mapIdx fun j x=>if j=k then c' x else c x
end
inductive Rep (G:Nat→Option ac):AV→AV→Prop
 | imm (x:AV) (h:db x=true) (h2:iS x=false):Rep G x x
 | ms (id st:Nat) (t:TypeId) (q:Bool) (rows' rows:List (List AV)) (hG:G id=some ⟨t,st,rows',q⟩) (hl:rows'.length=rows.length)
   (hc:∀(i:Nat) (r' r:List AV),rows'[i]? = some r'→rows[i]? = some r→r'.length=r.length)
   (hx:∀(i j:Nat) (r' r:List AV) (x y:AV),rows'[i]? = some r'→rows[i]? = some r→r'[j]? = some x→r[j]? = some y→Rep G x y) :
   Rep G (.ms id st 0 rows'.length) (.sl st rows)
theorem Rep.mono {G G':Nat→Option ac} (hg:∀id o,G id=some o→G' id=some o) {x y:AV} (h:Rep G x y):Rep G' x y:=by
 induction h with
 | imm x h h2=>exact .imm x h h2
 | ms id st t q rows' rows hG hl hc hx ih=>exact .ms id st t q rows' rows (hg _ _ hG) hl hc ih
theorem Rep.irel {bl:Nat→Option Nat} {M MF:Nat→Prop} {w:World} {G:Nat→Option ac} (hH:pE bl M MF w G) (hM:∀b,¬M b→¬MF b) {x y:AV} (h:Rep G x y):∀v,bq bl M w v x→IRel MF w v y:=by
 induction h with
 | imm x h h2 =>
  intro v hv
  exact (qw hv h h2).tr (fun b hb _=>⟨hM b hb,rfl⟩)
 | ms id st t q rows' rows hG hl hc hx ih =>
  intro v hv
  have hnil:rows'=[]→rows=[]:=fun e=>by
   subst e
   exact jw hl.symm
  rcases hv with ⟨rfl,_,h0⟩ | ⟨_,h1,_⟩ | ⟨b,cap,c,t',fr,hb,rfl,hlen,hcell,hsz⟩
  ·rw [hnil (jw h0)]
   exact .nls st
  ·exact absurd rfl h1
  ·rcases hH.1 id _ hG with ⟨_,_,h3⟩ | ⟨b',hb',hO⟩
   ·rw [h3] at hb;cases hb
   ·rw [hb] at hb'
    cases hb'
    rcases hO with ⟨_,c2,fr2,hc2,hun,hMF,hrl,hsz2,hcl⟩ | hsp
    ·rw [Nat.zero_mul,hl]
     have hcl':∀(i j:Nat) (r':List AV) (x:AV),rows'[i]? = some r'→r'[j]? = some x→∃v,c2[i * st+j]? = some v∧bq bl M w v x:=fun i j r' x h1 h2=>by
      obtain ⟨v,g1,g2⟩:=hcl i j r' x h1 h2
      refine ⟨v,g1,?_⟩
      cases q
      ·exact IRel.toC (M:=M) g2
      ·exact g2
     refine IRel.sl b 0 cap st c2 t fr2 rows (fun i j=>(c2[0+i * st+j]?).getD (.bool false)) hc2 hMF (hl▸hlen) (fun i r hr=>?_) (fun i j hi hj=>?_) (fun i j r y hr hy=>?_)
     ·have hi:i<rows.length:=(dE.1 hr).1
      have h1:rows'[i]? = some rows'[i]:=eJ (by omega)
      rw [← hc i _ r h1 hr]
      exact hrl i _ h1
     ·have h1:rows'[i]? = some rows'[i]:=eJ (by omega)
      have hw:=hrl i _ h1
      simp only at hw
      have h2:(rows'[i])[j]? = some (rows'[i])[j]:=eJ (by omega)
      obtain ⟨v,g1,g2⟩:=hcl' i j _ _ h1 h2
      rw [Nat.zero_add,g1]
      rfl
     ·have hi:i<rows.length:=(dE.1 hr).1
      have h1:rows'[i]? = some rows'[i]:=eJ (by omega)
      have hw:=hc i _ r h1 hr
      have hj:j<r.length:=(dE.1 hy).1
      have h2:(rows'[i])[j]? = some (rows'[i])[j]:=eJ (by omega)
      obtain ⟨v,g1,g2⟩:=hcl' i j _ _ h1 h2
      simp only [Nat.zero_add,g1,Option.getD_some]
      exact ih i j _ r _ y h1 hr h2 hy v g2
    ·have e:=hnil hsp.rows
     subst e
     rw [hl,Nat.zero_mul]
     exact .sl0 st _ cap
def t7 (G:Nat→Option ac) (x y:AV):Prop :=
 match x with
 | .agg cs=>∃ds,y = .agg ds∧aC (Rep G) cs ds
 | x=>Rep G x y
theorem aC.map2 {α β γ:Type} {R:α→β→Prop} {S:β→γ→Prop} {T:α→γ→Prop} (h:∀a b c,R a b→S b c→T a c):∀{l:List α} {m:List β} {n:List γ},aC R l m→aC S m n→aC T l n
 | [],[],[],_,_=>trivial
 | _ :: _,_ :: _,_ :: _,h1,h2=>⟨h _ _ _ h1.1 h2.1,h1.2.map2 h h2.2⟩
 | [],[],_ :: _,_,h2=>h2.elim
 | _ :: _,_ :: _,[],_,h2=>h2.elim
 | [],_ :: _,_,h1,_=>h1.elim
 | _ :: _,[],_,h1,_=>h1.elim
theorem Rep.toV {bl bl':Nat→Option Nat} {M MF:Nat→Prop} {w:World} {G:Nat→Option ac} (hH:pE bl M MF w G) (hM:∀b,¬M b→¬MF b) {x y:AV} (h:Rep G x y) {v:Value} (hv:aO bl M w v x):aO bl' MF w v y:=by
 have hc:bq bl M w v x:=by
  cases h with
  | imm _ h1 h2=>cases x<;>first | exact hv | (simp [db] at h1;done) | (simp [iS] at h2;done)
  | ms=>exact hv
 exact (h.irel hH hM v hc).toC.toV
theorem t7.toV {bl bl':Nat→Option Nat} {M MF:Nat→Prop} {w:World} {G:Nat→Option ac} (hH:pE bl M MF w G) (hM:∀b,¬M b→¬MF b) {x y:AV} (h:t7 G x y) {v:Value} (hv:aO bl M w v x):aO bl' MF w v y:=by
 cases x<;>try exact Rep.toV hH hM h hv
 obtain ⟨ds,rfl,h2⟩:=h
 obtain ⟨cs,rfl,h3⟩:=hv
 exact ⟨cs,rfl,h3.map2 (fun v x y h1 h2=>(h2.irel hH hM v h1).toC) h2⟩
theorem pH.rep {σ:List (Nat×ac)} {args args':List AV} (h:aC (t7 (ab σ)) args args'):pH ⟨[],σ⟩ args ⟨[],[]⟩ args':=by
 intro c a w bl vs hs hA
 have hm:aT bl c.MF (ab [])=c.MF:=by
  funext b
  exact propext ⟨fun h=>h.elim (fun h=>h) (fun ⟨_,_,h,_⟩=>by cases h),.inl⟩
 refine ⟨bl,⟨hs.defers,hs.size,fun k=>trivial,⟨fun id o h=>(by cases h),fun id id' o o' b h=>(by cases h)⟩,hs.step,fun id o b h=>(by cases h),hs.stab,hs.mf⟩,?_⟩
 show aC (aO bl (aT bl c.MF (ab [])) w) vs args'
 rw [hm]
 exact hA.map2 (fun v x y h1 h2=>h2.toV hs.heap (fun b hb hf=>hb (.inl hf)) h1) h
def fv (b:Nat) (x:AV):Prop:=∀i∈ax x,i<b
def i8 (b:Nat) (o:ac):Prop:=∀i∈bo o,i<b
theorem yF {b:Nat} {ks:List Nat} (hk:∀k∈ks,b≤k) {x:AV} (h:fv b x):fW ks x=x:=by
 unfold fW
 rw [aJ]
 simp only [List.any_eq_true]
 rintro ⟨k,h1,h2⟩
 have:=h k (gR h2)
 have:=hk k h1
 omega
theorem yD {b:Nat} {ks:List Nat} (hk:∀k∈ks,b≤k) {o:ac} (h:i8 b o):dk ks o=o:=by
 unfold dk
 split
 ·rename_i hr
  have e:o.rows.map (fun r=>r.map (gz ks))=o.rows:=by
   conv=>rhs;rw [← List.map_id o.rows]
   refine List.map_congr_left fun r hm=>?_
   conv=>rhs;rw [id,← List.map_id r]
   refine List.map_congr_left fun x hx=>?_
   unfold gz
   rw [aJ]
   ·rfl
   simp only [List.any_eq_true]
   rintro ⟨k,h1,h2⟩
   have:=h k (by unfold bo;rw [bz hr];exact fc.2 ⟨r,hm,fc.2 ⟨x,hx,iG h2⟩⟩)
   have:=hk k h1
   omega
  rw [e]
 ·rfl
theorem bn {P:Program} [aS P] {f:FuncId} {args:List AV} {Sb:Nat→Prop} {Post:AV→List (Nat×ac)→Prop} {d:Option Nat} {s:St} {K:St→Prop} (b n:Nat)
  (h:aE P f args [] Sb Post) (hb:1267650600228229401496703205376≤b) (hid:∀r σ',Post r σ'→∀p∈σ',b≤p.1∧p.1<b+n)
  (he:∀p∈s.env,fv b p.2) (hh:∀p∈s.heap,p.1<b∧i8 b p.2)
  (hk:∀r σ',Post r σ'→K ((St.mk s.env (s.heap++σ')).put d r)):dB P f args d s K:=by
 have hr:∀k∈List.range' b n,b≤k:=fun k hk=>(List.mem_range'_1.1 hk).1
 have hn:∀id,b≤id→ab s.heap id=none:=fun id hid=>by
  cases hg:ab s.heap id with
  | none=>rfl
  | some o=>have:=(hh _ (aR hg)).1;omega
 refine .inl (.inr ⟨[],Sb,Post,List.range' b n,h,fun id o hg=>(by cases hg),fun r σ' hp id hi=>?_,fun r σ' hp=>?_⟩)
 ·obtain ⟨o,ho⟩:=Option.isSome_iff_exists.1 hi
  obtain ⟨h1,h2⟩:=hid r σ' hp _ (aR ho)
  exact .inr ⟨List.mem_range'_1.2 ⟨h1,h2⟩,.inr (by simp only at h1;omega),.inr (hn _ h1)⟩
 ·refine ⟨⟨s.env,s.heap++σ'⟩,fun k=>?_,fun j=>?_,hk r σ' hp⟩
  ·refine (yF hr ?_).symm
   rcases rj (l:=s.env) (k:=k) with hg | hg
   ·rw [hg]
    intro i hi
    cases hi
   ·exact he _ hg
  ·simp only [eE,sZ]
   cases hs:ab s.heap j with
   | none =>
    cases hg:ab σ' j with
    | none=>rfl
    | some o=>rfl
   | some o =>
    have hj:=(hh _ (aR hs))
    cases hg:ab σ' j with
    | none=>simp [ab,yD hr hj.2]
    | some o'=>have:=(hid r σ' hp _ (aR hg)).1;simp only at this hj;omega
theorem Wk.of2 {s s':St} (h1:Mf s.env s'.env) (h2:∀j o,ab s'.heap j=some o→ab s.heap j=some o):Wk s s':=by
 rintro c a w ⟨bl,hs⟩
 refine ⟨bl,hs.weaken (fun k=>?_) h2⟩
 rcases rD (l:=s'.env) (k:=k) with h | h
 ·exact .inl h
 ·exact .inr (rx h1 _ h).symm
theorem eX {l:List iw} {Post:AV→List (Nat×ac)→Prop} {e:IX} {s:St} (he:∀j,e≠.ext j) (r:AV) (σ':List (Nat×ac)) (h1:ke l s=some r) (h2:∀j o,ab σ' j=some o→ab s.heap j=some o) (h3:fX r σ') (h4:Post r σ'):eO l Post e s :=
 ⟨he,s,Wk.refl s,[],r,σ',h1,h2,h3,h4⟩
theorem p_ {P:Program} [aS P] {f:FuncId} {args:List AV} {E G:List (Nat×ac)} {Sb:Nat→Prop} {Post:AV→List (Nat×ac)→Prop} {d:Option Nat} {env:List (Nat×AV)} {K:St→Prop}
  (h:aE P f args G Sb Post) (hsb:∀p∈G,Sb p.1) (hE:∀p∈E,∀q∈G,p.1≠q.1) (hdom:∀r σ',Post r σ'→∀id,(ab σ' id).isSome=true→(ab G id).isSome=true)
  (hk:∀r σ',Post r σ'→K ((St.mk env (E++σ')).put d r)):dB P f args d ⟨env,E++G⟩ K:=by
 have hEG:∀{id o o'},ab E id=some o→ab G id=some o'→False:=fun {id o o'} h1 h2=>hE _ (aR h1) _ (aR h2) rfl
 have p0:∀x:AV,fW [] x=x:=fun x=>by simp [fW]
 have q0:∀o:ac,dk [] o=o:=fun o=>by
  unfold dk
  split
  ·have e:o.rows.map (fun r=>r.map (gz []))=o.rows:=by
    conv=>rhs;rw [← List.map_id o.rows]
    refine List.map_congr_left fun r _=>?_
    conv=>rhs;rw [id,← List.map_id r]
    exact List.map_congr_left fun x _=>by simp [gz]
   rw [e]
  ·rfl
 refine .inl (.inr ⟨G,Sb,Post,[],h,fun id o hg=>?_,fun r σ' hp id hi=>?_,fun r σ' hp=>?_⟩)
 ·show ab (E++G) id=some o
  rw [eE]
  cases he:ab E id with
  | none=>exact hg
  | some o'=>exact (hEG he hg).elim
 ·have hd:=hdom r σ' hp id hi
  obtain ⟨o,ho⟩:=Option.isSome_iff_exists.1 hd
  exact .inl ⟨hsb _ (aR ho),hd⟩
 ·refine ⟨⟨env,E++σ'⟩,fun k=>(p0 _).symm,fun j=>?_,hk r σ' hp⟩
  simp only [eE,sZ]
  cases hs:ab σ' j with
  | some o =>
   obtain ⟨o',ho'⟩:=Option.isSome_iff_exists.1 (hdom r σ' hp j (by rw [hs];rfl))
   cases he:ab E j with
   | none=>rfl
   | some o2=>exact (hEG he ho').elim
  | none =>
   cases he:ab E j with
   | none =>
    cases hg:ab G j with
    | none=>simp
    | some o=>simp
   | some o =>
    cases hg:ab G j with
    | none=>simp [q0]
    | some o'=>exact (hEG he hg).elim
end Go.Mw