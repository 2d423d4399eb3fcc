import Derived.Test.YteephfapgoncgaaGreatDoorUQb
import Derived.ProofKit
import Derived.OpenShut
import Derived.JoinedCond
import Derived.RangeFuncFrom
import Derived.RangeFuncLeaves
import Derived.RangeFuncCalls
set_option linter.all false
namespace Go.Mw
def ac {α:Type} [Inhabited α] (l:List α) (i:Nat):α:=l[i]!
theorem bD {α:Type} [Inhabited α] {l:List α} {i:Nat} (h:i<l.length):ac l i=l[i]:=getElem!_pos l i h
theorem cO {α:Type} [Inhabited α] {l:List α} {i:Nat} (h:i<l.length):l[i]? = some (ac l i):=by rw [bD h];exact fu h
theorem uH {α β:Type} [Inhabited α] [Inhabited β] {l:List α} {f:α→β} {i:Nat} (h:i<l.length):ac (l.map f) i=f (ac l i):=by
 rw [bD h,bD (by simpa using h),List.getElem_map]
theorem Bg {α:Type} [Inhabited α] {l:List α} {i k:Nat}:ac (l.drop k) i=ac l (k+i):=by
 unfold ac
 rw [List.getElem!_eq_getElem?_getD,List.getElem!_eq_getElem?_getD,List.getElem?_drop]
section
variable {P:Program} [aX P]
def Et (P:Program) [aX P] (y:aS) (K:IX→St→Prop) (e:IX) (s:St):Prop :=
 match e with
 | .nrm=>fD P y s K
 | e=>K e s
def En (P:Program) [aX P] (y:aS) (K:IX→St→Prop) (e:IX) (s:St):Prop :=
 match e with
 | .nrm=>∃s',Wk s s'∧fD P y s' K
 | e=>K e s
def Em (id:Nat) (K:IX→St→Prop) (e:IX) (s:St):Prop :=
 match e with
 | .ext j=>if j=id then K .nrm s else K (.ext j) s
 | e=>K e s
def wA (dr:List Nat) (K:IX→St→Prop) (s:St):Prop:=K .nrm ⟨dels dr s.env,s.heap⟩
def Es (P:Program) [aX P] (r:List aH) (K:St→Prop) (s:St):Prop:=ee P r s K
def uo (P:Program) [aX P] (al:List (Nat×Nat)) (i:Nat) (r:List av) (K:St→Prop) (hist:List HI) (s:St):Prop:=fj P al i r hist s K
def oi (K:St→Prop) (s:St) (d:Option Nat) (v:AV) (e:aP):Prop:=K ((s.eff e).put d v)
def kS (al:List (Nat×Nat)) (i:Nat) (bf:List Nat) (op:eV) (hist:List HI) (K:List HI→St→Prop) (s:St) (d:Option Nat) (v:AV) (e:aP):Prop :=
 cJ op s e=true∧dy bf (@HI.mk i (bx op s.env) (aF v++e.ids) e.tch e.isReb e.isPut (kU op)) hist=true∧iG al bf (@HI.mk i (bx op s.env) (aF v++e.ids) e.tch e.isReb e.isPut (kU op))=true ∧
  K ((@HI.mk i (bx op s.env) (aF v++e.ids) e.tch e.isReb e.isPut (kU op)) :: hist) ((s.eff e).put d v)
def bp (K:AV→aP→Prop) (x:Option (AV×aP)):Prop :=
 match x with
 | some (v,e)=>K v e
 | none=>False
def pt (A:Prop) (K:AV→aP→Prop) (x:Option (AV×aP)):Prop :=
 match x with
 | some (v,e)=>K v e
 | none=>A
def Cb (x:AV) (a b:Prop):Prop :=
 match x with
 | .bool t=>(t=true→a)∧(t=false→b)
 | _=>False
def ov (x:AV) (a b c:Prop):Prop :=
 match x with
 | .bool t=>(t=true→a)∧(t=false→b)
 | .tup []=>c
 | _=>False
theorem IZ (y:aS) (K:IX→St→Prop) (s:St):Et P y K .nrm s=fD P y s K:=aR rfl
theorem I0 (y:aS) (K:IX→St→Prop) (s:St):Et P y K .ret s=K .ret s:=aR rfl
theorem I1 (y:aS) (K:IX→St→Prop) (j:Nat) (s:St):Et P y K (.ext j) s=K (.ext j) s:=aR rfl
theorem IQ (y:aS) (K:IX→St→Prop) (s:St):En P y K .ret s=K .ret s:=aR rfl
theorem IR (y:aS) (K:IX→St→Prop) (j:Nat) (s:St):En P y K (.ext j) s=K (.ext j) s:=aR rfl
theorem ba {y:aS} {K:IX→St→Prop} {s:St} (s':St) (h:Wk s s') (hi:fD P y s' K):En P y K .nrm s:=⟨s',h,hi⟩
theorem IM (id:Nat) (K:IX→St→Prop) (s:St):Em id K .nrm s=K .nrm s:=aR rfl
theorem IN (id:Nat) (K:IX→St→Prop) (s:St):Em id K .ret s=K .ret s:=aR rfl
theorem IP (id j:Nat) (K:IX→St→Prop) (s:St):Em id K (.ext j) s=if j=id then K .nrm s else K (.ext j) s:=aR rfl
theorem IY (dr:List Nat) (K:IX→St→Prop) (s:St):wA dr K s=K .nrm ⟨dels dr s.env,s.heap⟩:=aR rfl
theorem IW (r:List aH) (K:St→Prop) (s:St):Es P r K s=ee P r s K:=aR rfl
theorem Eo (al:List (Nat×Nat)) (i:Nat) (r:List av) (K:St→Prop) (hist:List HI) (s:St):uo P al i r K hist s=fj P al i r hist s K:=aR rfl
theorem LO (K:St→Prop) (s:St) (d:Option Nat) (v:AV) (e:aP):oi K s d v e=K ((s.eff e).put d v):=aR rfl
theorem IS (al:List (Nat×Nat)) (i:Nat) (bf:List Nat) (op:eV) (hist:List HI) (K:List HI→St→Prop) (s:St) (d:Option Nat) (v:AV) (e:aP):kS al i bf op hist K s d v e =
 (cJ op s e=true∧dy bf (@HI.mk i (bx op s.env) (aF v++e.ids) e.tch e.isReb e.isPut (kU op)) hist=true∧iG al bf (@HI.mk i (bx op s.env) (aF v++e.ids) e.tch e.isReb e.isPut (kU op))=true ∧
  K ((@HI.mk i (bx op s.env) (aF v++e.ids) e.tch e.isReb e.isPut (kU op)) :: hist) ((s.eff e).put d v)):=rfl
theorem tj (K:AV→aP→Prop) (v:AV) (e:aP):bp K (some (v,e))=K v e:=aR rfl
theorem tq (A:Prop) (K:AV→aP→Prop) (v:AV) (e:aP):pt A K (some (v,e))=K v e:=aR rfl
theorem tp (A:Prop) (K:AV→aP→Prop):pt A K none=A:=aR rfl
theorem w6 (A:Prop) (K:AV→aP→Prop) (c:Prop) [Decidable c] (x:Option (AV×aP)):pt A K (if c then x else none)=((c→pt A K x)∧(¬c→A)):=by
 by_cases h:c<;>simp [h,pt]
theorem w5 (K:AV→aP→Prop) (c:Prop) [Decidable c] (x:Option (AV×aP)):bp K (if c then x else none)=(c∧bp K x):=by
 by_cases h:c<;>simp [h,bp]
theorem tg (K:AV→aP→Prop) (c:Prop) [Decidable c] (x:Option (AV×aP)):bp K (if c then none else x)=(¬c∧bp K x):=by
 by_cases h:c<;>simp [h,bp]
theorem M9 (v:AV):res (some v)=some (v,.no):=rfl
theorem J3 (c:Prop) [Decidable c] (x:Option AV):res (if c then x else none)=if c then res x else none:=by split<;>rfl
theorem Fn (c:Prop) [Decidable c] (x:Option AV):res (if c then none else x)=if c then none else res x:=by split<;>rfl
theorem B6 (t:Bool) (a b:Prop):Cb (.bool t) a b=((t=true→a)∧(t=false→b)):=aR rfl
@[congr] theorem KB {x x':AV} {a b:Prop} (h:x=x'):Cb x a b=Cb x' a b:=by rw [h]
theorem Gn (a b:Prop):Cb (.bool true) a b=a:=by simp [Cb]
theorem zd (t:Bool) (a b c:Prop):ov (.bool t) a b c=((t=true→a)∧(t=false→b)):=rfl
@[congr] theorem Kw {x x':AV} {a b c:Prop} (h:x=x'):ov x a b c=ov x' a b c:=by rw [h]
theorem LB (a b c:Prop):ov (.bool true) a b c=a:=by simp [ov]
theorem LA (a b c:Prop):ov (.bool false) a b c=b:=by simp [ov]
theorem LC (a b c:Prop):ov (.tup []) a b c=c:=by simp [ov]
theorem Iy (a b c:Prop):ov (.bool true) a b c=a:=by simp [ov]
theorem Iw (a b c:Prop):ov (.bool false) a b c=b:=by simp [ov]
theorem Iz (a b c:Prop):ov (.tup []) a b c=c:=by simp [ov]
theorem Kj (a b:Prop):Cb (.bool true) a b=a:=Gn a b
theorem Gm (a b:Prop):Cb (.bool false) a b=b:=by simp [Cb]
theorem Aq (s:St) (K:IX→St→Prop):fD P .skip s K=K .nrm s:=aR rfl
theorem Ej (s:St) (K:IX→St→Prop):fD P .ret s K=K .ret s:=aR rfl
theorem Ao (id:Nat) (s:St) (K:IX→St→Prop):fD P (.exit id) s K=K (.ext id) s:=aR rfl
theorem Ek (x y:aS) (s:St) (K:IX→St→Prop):fD P (.seq x y) s K=fD P x s (Et P y K):=aR rfl
theorem Eh (x y:aS) (s:St) (K:IX→St→Prop):fD P (.cut x y) s K=fD P x s (En P y K):=aR rfl
theorem wx (id:Nat) (x:aS) (s:St) (K:IX→St→Prop):fD P (.block id x) s K=fD P x s (Em id K):=aR rfl
theorem Am (v:IV) (t e:aS) (s:St) (K:IX→St→Prop):fD P (.cond v t e) s K=Cb (val (get s.env) v) (fD P t (refine v true s) K) (fD P e (refine v false s) K):=aR rfl
theorem Ei (ops:List aH) (dr:List Nat) (s:St) (K:IX→St→Prop):fD P (.reg ops dr) s K=ee P ops s (wA dr K):=aR rfl
def ur (P:Program) [aX P] (f:Nat) (R:List (Nat×av)) (K:St→Prop) (s:St):Prop:=iE P f R s K
theorem Ep (f:Nat) (R:List (Nat×av)) (K:St→Prop) (s:St):ur P f R K s=iE P f R s K:=aR rfl
def t8 (P:Program) [aX P] (f:Nat) (R:List (Nat×av)) (s:St) (K:St→Prop) (t:Nat×av):Prop:=ee P [t.2.o] s (ur P f (R.filter fun q=>q.1 != t.1) K)
theorem DD (f:Nat) (R:List (Nat×av)) (s:St) (K:St→Prop) (i:Nat) (o:aH) (b:List Nat):t8 P f R s K (i,⟨o,b⟩)=ee P [o] s (ur P f (R.filter fun q=>q.1 != i) K):=aR rfl
theorem DM (R:List (Nat×av)) (s:St) (K:St→Prop):iE P 0 R s K=K s:=aR rfl
theorem DO (f:Nat) (R:List (Nat×av)) (s:St) (K:St→Prop):iE P (f+1) R s K=jA (M7 R) (t8 P f R s K):=aR rfl
theorem Dk {α:Type} (x:α) (F:α→Prop):jA [x] F=F x:=aR rfl
theorem Dl {α:Type} (x y:α) (r:List α) (F:α→Prop):jA (x :: y :: r) F=(F x∧jA (y :: r) F):=aR rfl
theorem Ap (ops:List av) (al:List (Nat×Nat)) (dr:List Nat) (s:St) (K:IX→St→Prop):fD P (.free ops al dr) s K=iE P ops.length (ops.zipIdx.map fun p=>(p.2,p.1)) s (wA dr K):=aR rfl
theorem An (ops:List av) (al:List (Nat×Nat)) (dr:List Nat) (s:St) (K:IX→St→Prop):fD P (.draw ops al dr) s K=fj P al 0 ops [] (kills (al.map (·.1)) s) (wA dr K):=aR rfl
theorem Aj (s:St) (K:St→Prop):ee P [] s K=K s:=aR rfl
theorem ww (d:Option Nat) (op:eV) (r:List aH) (s:St) (K:St→Prop):ee P (⟨d,op,none⟩ :: r) s K=eF P ⟨d,op,none⟩ s (Es P r K):=aR rfl
theorem pW (d:Option Nat) (op:eV) (k:Nat) (r:List aH) (s:St) (K:St→Prop):ee P (⟨d,op,some (k,true)⟩ :: r) s K =
  ov (get s.env k) (eF P ⟨d,op,none⟩ (s.put (some k) (.bool true)) (Es P r K)) (ee P r ((s.put (some k) (.bool false)).put d (.tup [])) K) (ee P r (s.put d (.tup [])) K):=aR rfl
theorem pV (d:Option Nat) (op:eV) (k:Nat) (r:List aH) (s:St) (K:St→Prop):ee P (⟨d,op,some (k,false)⟩ :: r) s K =
  ov (get s.env k) (ee P r ((s.put (some k) (.bool true)).put d (.tup [])) K) (eF P ⟨d,op,none⟩ (s.put (some k) (.bool false)) (Es P r K)) (ee P r (s.put d (.tup [])) K):=by
 simp only [ee,ov]
 generalize get s.env k=x
 cases x with
 | bool t=>exact propext ⟨fun h=>⟨h.2,h.1⟩,fun h=>⟨h.2,h.1⟩⟩
 | tup l=>cases l<;>rfl
 | _=>rfl
theorem wn (al:List (Nat×Nat)) (i:Nat) (hist:List HI) (s:St) (K:St→Prop):fj P al i [] hist s K=K s:=aR rfl
theorem sR (al:List (Nat×Nat)) (i:Nat) (d:Option Nat) (op:eV) (bf:List Nat) (r:List av) (hist:List HI) (s:St) (K:St→Prop) :
  fj P al i (⟨⟨d,op,none⟩,bf⟩ :: r) hist s K=bZ P al i ⟨⟨d,op,none⟩,bf⟩ hist s (uo P al (i+1) r K):=aR rfl
theorem ox (al:List (Nat×Nat)) (i:Nat) (d:Option Nat) (op:eV) (k:Nat) (bf:List Nat) (r:List av) (hist:List HI) (s:St) (K:St→Prop) :
  fj P al i (⟨⟨d,op,some (k,true)⟩,bf⟩ :: r) hist s K=ov (get s.env k) (bZ P al i ⟨⟨d,op,none⟩,bf⟩ hist (s.put (some k) (.bool true)) (uo P al (i+1) r K))
   (fj P al (i+1) r (⟨i,[],[],[],false,false⟩ :: hist) ((s.put (some k) (.bool false)).put d (.tup [])) K) (fj P al (i+1) r (⟨i,[],[],[],false,false⟩ :: hist) (s.put d (.tup [])) K):=aR rfl
theorem ow (al:List (Nat×Nat)) (i:Nat) (d:Option Nat) (op:eV) (k:Nat) (bf:List Nat) (r:List av) (hist:List HI) (s:St) (K:St→Prop) :
  fj P al i (⟨⟨d,op,some (k,false)⟩,bf⟩ :: r) hist s K=ov (get s.env k) (fj P al (i+1) r (⟨i,[],[],[],false,false⟩ :: hist) ((s.put (some k) (.bool true)).put d (.tup [])) K)
   (bZ P al i ⟨⟨d,op,none⟩,bf⟩ hist (s.put (some k) (.bool false)) (uo P al (i+1) r K)) (fj P al (i+1) r (⟨i,[],[],[],false,false⟩ :: hist) (s.put d (.tup [])) K):=by
 simp only [fj,db,ov]
 generalize get s.env k=x
 cases x with
 | bool t=>exact propext ⟨fun h=>⟨h.2,h.1⟩,fun h=>⟨h.2,h.1⟩⟩
 | tup l=>cases l<;>rfl
 | _=>rfl
def FZ (P:Program) [aX P] (f:AV) (args:List AV) (d:Option Nat) (s:St) (K:St→Prop):Prop :=
 match f with
 | .fn f caps=>if f<4000000 then bc P f=true∧ek P f (args++caps) d s K else bc P (f - 4000000)=true∧ek P (f - 4000000) (caps.take 1++args++caps.drop 1) d s K
 | _=>False
theorem y7 (f:FuncId) (caps args:List AV) (d:Option Nat) (s:St) (K:St→Prop):FZ P (.fn f caps) args d s K=if f<4000000 then bc P f=true∧ek P f (args++caps) d s K else bc P (f - 4000000)=true∧ek P (f - 4000000) (caps.take 1++args++caps.drop 1) d s K:=aR rfl
def sN (P:Program) [aX P] (al:List (Nat×Nat)) (f:FuncId) (args:List AV) (i:Nat) (bf:List Nat) (op:eV) (d:Option Nat) (hist:List HI) (s:St) (K:List HI→St→Prop):Prop :=
 (∃args' r b,aj P f args' r∧(∀x∈args',aF x=[])∧aK (B_ b (ae s.heap)) args args'∧(b=true→lO r=true)∧aF r=[] ∧
   cJ op s .no=true∧dy bf ⟨i,bx op s.env,[],[],false,false⟩ hist=true∧K (⟨i,bx op s.env,[],[],false,false⟩ :: hist) (s.put d r)) ∨
 (∃k ob ob' Sb r,br P f args [(k,ob)] Sb (fun r' σ'=>r'=r∧σ'=[(k,ob')])∧Sb k∧ae s.heap k=some ob∧aF r=[]∧cU ob'=[]∧k∈bx op s.env ∧
   cJ op s (.put k ob')=true∧dy bf ⟨i,bx op s.env,[],[k],false,true⟩ hist=true∧K (⟨i,bx op s.env,[],[k],false,true⟩ :: hist) ((s.eff (.put k ob')).put d r)) ∨
 ∃j ob st off len Sb,d=some j∧ob.isRec=false∧br P f args [] Sb (fun r' σ'=>r' = .ms j st off len∧σ'=[(j,ob)]) ∧
   cJ op s .no=true∧dy bf ⟨i,bx op s.env,[j],[j],false,false⟩ hist=true∧iG al bf ⟨i,bx op s.env,[j],[j],false,false⟩=true∧K (⟨i,bx op s.env,[j],[j],false,false⟩ :: hist) ((s.eff (.new j ob)).put d (.ms j st off len))
theorem v_ (al:List (Nat×Nat)) (i:Nat) (d:Option Nat) (f:FuncId) (args:List IV) (g:Option (Nat×Bool)) (bf:List Nat) (hist:List HI) (s:St) (K:List HI→St→Prop) :
  bZ P al i ⟨⟨d,.call f args,g⟩,bf⟩ hist s K=sN P al f (args.map (val (get s.env))) i bf (.call f args) d hist s K:=aR rfl
theorem E8 (A B:Prop):jB true A B=A:=aR rfl
theorem E7 (A B:Prop):jB false A B=B:=aR rfl
@[congr] theorem Gg {b b':Bool} {A B:Prop} (h:b=b'):jB b A B=jB b' A B:=by rw [h]
theorem Fi (h:Nat→Option ah) (id st off len:Nat):k7 h (.ms id st off len)=Fh (h id):=rfl
theorem Fj (h:Nat→Option ah):k7 h .nl=false:=rfl
theorem Fk (h:Nat→Option ah) (st:Nat) (rows:List (List AV)):k7 h (.sl st rows)=false:=rfl
theorem wU (t:TypeId) (st:Nat) (rows:List (List AV)) (r:Bool) [k:Kd]:Fh (some (@ah.mk t st rows r k))=r:=rfl
def BO (n st' off len:Nat) (x:Option ah):Option (List (List AV)):=match x with | some o=>if st'=n∧o.st=n∧off+len≤o.rows.length then some ((o.rows.drop off).take len) else none | none=>none
theorem BN (h:Nat→Option ah) (n id st off len:Nat):iJ n h (.ms id st off len)=BO n st off len (h id):=aR rfl
theorem rM (n st off len:Nat) (t:TypeId) (st':Nat) (rows:List (List AV)) (r:Bool) [k:Kd]:BO n st off len (some (@ah.mk t st' rows r k))=if st=n∧st'=n∧off+len≤rows.length then some ((rows.drop off).take len) else none:=aR rfl
theorem pl (d:Nat) (t:TypeId) (st:Nat) (rows:List (List AV)) (ps:List (Nat×IV)) (g:Option (Nat×Bool)) (s:St) (K:St→Prop):rC ⟨some d,.bsl t st rows ps,g⟩ s K=bp (oi K (s.kill d) (some d)) (bh d (.bsl t st rows ps) (val (get (s.kill d).env)) (ae (s.kill d).heap)):=aR rfl
theorem DP (d:Nat) (t:TypeId) (st:Nat) (x y:IV) (g:Option (Nat×Bool)) (s:St) (K:St→Prop):eF P ⟨some d,.app t st x y,g⟩ s K=(d<1000∧jB (k7 (ae s.heap) (val (get s.env) x)) (bp (oi K (s.kill d) (some d)) (jx d t st (val (get (s.kill d).env) x) (iJ st (ae (s.kill d).heap) (val (get (s.kill d).env) y)) (ae (s.kill d).heap)))
  (jB (k7 (ae s.heap) (val (get s.env) y)) (bp (oi K (s.kill d) (some d)) (jx d t st (val (get (s.kill d).env) x) (iJ st (ae (s.kill d).heap) (val (get (s.kill d).env) y)) (ae (s.kill d).heap))) (bp (oi K (s.kill d) (some d)) (bh d (.app t st x y) (val (get (s.kill d).env)) (ae (s.kill d).heap))))):=aR rfl
theorem zj (al:List (Nat×Nat)) (i d:Nat) (t:TypeId) (st k:Nat) (y:IV) (g:Option (Nat×Bool)) (bf:List Nat) (hist:List HI) (s:St) (K:List HI→St→Prop):bZ P al i ⟨⟨some d,.app t st (.s k) y,g⟩,bf⟩ hist s K=bp (kS al i bf (.app t st (.s k) y) hist K s (some d)) (bh d (.app t st (.s k) y) (val (get s.env)) (ae s.heap)):=by
 refine propext ⟨fun h=>?_,fun h=>.inl h⟩
 rcases h with h | ⟨rows,h,_⟩
 ·exact h
 ·cases h
def RI (K:St→Prop) (s:St) (d:Option Nat) (n:Nat) (o:eV):Prop:=bp (oi K s d) (bh n o (val (get s.env)) (ae s.heap))
theorem N6 (K:St→Prop) (s:St) (d:Option Nat) (n:Nat) (o:eV):RI K s d n o=bp (oi K s d) (bh n o (val (get s.env)) (ae s.heap)):=aR rfl
def RD (al:List (Nat×Nat)) (i:Nat) (bf:List Nat) (hist:List HI) (K:List HI→St→Prop) (s:St) (d:Option Nat) (n:Nat) (o:eV):Prop:=bp (kS al i bf o hist K s d) (bh n o (val (get s.env)) (ae s.heap))
theorem N5 (al:List (Nat×Nat)) (i:Nat) (bf:List Nat) (hist:List HI) (K:List HI→St→Prop) (s:St) (d:Option Nat) (n:Nat) (o:eV):RD al i bf hist K s d n o=bp (kS al i bf o hist K s d) (bh n o (val (get s.env)) (ae s.heap)):=aR rfl
attribute [go_sem] N6 N5
section
variable (g:Option (Nat×Bool)) (s:St) (K:St→Prop)
theorem z8 (d:Option Nat) (f:FuncId) (args:List IV):eF P ⟨d,.call f args,g⟩ s K=ek P f (args.map (val (get s.env))) d s K:=aR rfl
theorem wt (d:Option Nat) (f:IV) (args:List IV):eF P ⟨d,.callv f args,g⟩ s K=FZ P (val (get s.env) f) (args.map (val (get s.env))) d s K:=aR rfl
theorem D9 (d:Option Nat) (x:IV):eF P ⟨d,.mov x,g⟩ s K=RI K s d 0 (.mov x):=aR rfl
theorem Ae (d:Option Nat) (c a b:IV):eF P ⟨d,.pick c a b,g⟩ s K=RI K s d 0 (.pick c a b):=aR rfl
theorem ws (d:Option Nat) (cs:List AV) (ps:List (Nat×Nat×IV)):eF P ⟨d,.build cs ps,g⟩ s K=RI K s d 0 (.build cs ps):=aR rfl
theorem Ab (d:Option Nat) (n:Option Nat) (p:IV):eF P ⟨d,.load n p,g⟩ s K=RI K s d 0 (.load n p):=aR rfl
theorem wv (d:Option Nat) (n:Nat) (p x:IV):eF P ⟨d,.store n p x,g⟩ s K=RI K s d 0 (.store n p x):=aR rfl
theorem z_ (d:Option Nat) (o:Nat) (p:IV):eF P ⟨d,.fadr o p,g⟩ s K=RI K s d 0 (.fadr o p):=aR rfl
theorem D0 (d:Option Nat) (o:Nat) (n:Option Nat) (x:IV):eF P ⟨d,.fld o n x,g⟩ s K=RI K s d 0 (.fld o n x):=aR rfl
theorem Aa (d:Option Nat) (st:Nat) (x q:IV):eF P ⟨d,.iadr st x q,g⟩ s K=RI K s d 0 (.iadr st x q):=aR rfl
theorem zZ (d:Option Nat) (st n:Nat) (x q:IV):eF P ⟨d,.aadr st n x q,g⟩ s K=RI K s d 0 (.aadr st n x q):=aR rfl
theorem D8 (d:Option Nat) (m:Bool) (x y:IV):eF P ⟨d,.mnx m x y,g⟩ s K=RI K s d 0 (.mnx m x y):=aR rfl
theorem DT (d:Option Nat) (st:Nat) (x y:IV):eF P ⟨d,.cpy st x y,g⟩ s K=RI K s d 0 (.cpy st x y):=aR rfl
theorem Ee (d:Option Nat) (x y:IV):eF P ⟨d,.sib x y,g⟩ s K=RI K s d 0 (.sib x y):=aR rfl
theorem DW (d:Option Nat) (x:IV):eF P ⟨d,.cvm x,g⟩ s K=RI K s d 0 (.cvm x):=aR rfl
theorem Ef (d:Option Nat) (st:Nat) (x:IV) (lo hi mx:Option IV):eF P ⟨d,.slc st x lo hi mx,g⟩ s K=RI K s d 0 (.slc st x lo hi mx):=aR rfl
theorem D1 (d:Option Nat) (x:IV):eF P ⟨d,.len x,g⟩ s K=RI K s d 0 (.len x):=aR rfl
theorem Ah (d:Option Nat) (x:IV):eF P ⟨d,.slen x,g⟩ s K=RI K s d 0 (.slen x):=aR rfl
theorem Ai (d:Option Nat) (x:IV) (lo hi:Option IV):eF P ⟨d,.sslc x lo hi,g⟩ s K=RI K s d 0 (.sslc x lo hi):=aR rfl
theorem DQ (d:Option Nat) (o:BinOp) (x y:IV):eF P ⟨d,.bin o x y,g⟩ s K=RI K s d 0 (.bin o x y):=aR rfl
theorem z7 (d:Option Nat) (o:BinOp) (x y:IV):eF P ⟨d,.bbin o x y,g⟩ s K=RI K s d 0 (.bbin o x y):=aR rfl
theorem Ad (d:Option Nat) (o:BinOp) (x y:IV):eF P ⟨d,.pbin o x y,g⟩ s K=RI K s d 0 (.pbin o x y):=aR rfl
theorem Af (d:Option Nat) (o:BinOp) (ls:List LK) (x y:IV):eF P ⟨d,.sbin o ls x y,g⟩ s K=RI K s d 0 (.sbin o ls x y):=aR rfl
theorem IL (d:Option Nat) (o:UnOp) (x:IV):eF P ⟨d,.un o x,g⟩ s K=RI K s d 0 (.un o x):=aR rfl
theorem DV (d:Option Nat) (k:IntKind) (x:IV):eF P ⟨d,.cvi k x,g⟩ s K=RI K s d 0 (.cvi k x):=aR rfl
theorem DX (d:Option Nat) (x:IV):eF P ⟨d,.cvs x,g⟩ s K=RI K s d 0 (.cvs x):=aR rfl
theorem DY (d:Option Nat) (x:IV):eF P ⟨d,.cvt x,g⟩ s K=RI K s d 0 (.cvt x):=aR rfl
theorem DZ (d:Option Nat) (x:IV) (q:Nat):eF P ⟨d,.ext x q,g⟩ s K=RI K s d 0 (.ext x q):=aR rfl
theorem Ac (d:Option Nat) (x:IV):eF P ⟨d,.nchk x,g⟩ s K=RI K s d 0 (.nchk x):=aR rfl
theorem D2 (d:Option Nat) (f:FuncId) (cs:List IV):eF P ⟨d,.mkf f cs,g⟩ s K=RI K s d 0 (.mkf f cs):=aR rfl
theorem Ag (d:Option Nat) (x q:IV):eF P ⟨d,.sidx x q,g⟩ s K=RI K s d 0 (.sidx x q):=aR rfl
theorem Eb (d:Nat) (t:TypeId) (cs:List AV):eF P ⟨some d,.new t cs,g⟩ s K=(d<1000∧bp (oi K (s.kill d) (some d)) (bh d (.new t cs) (val (get (s.kill d).env)) (ae (s.kill d).heap))):=aR rfl
theorem DR (d:Nat) (t:TypeId) (n:Nat) (x:IV):eF P ⟨some d,.box t n x,g⟩ s K=(d<1000∧bp (oi K (s.kill d) (some d)) (bh d (.box t n x) (val (get (s.kill d).env)) (ae (s.kill d).heap))):=aR rfl
theorem DS (d:Nat) (t:TypeId) (st:Nat) (rows:List (List AV)) (ps:List (Nat×IV)):eF P ⟨some d,.bsl t st rows ps,g⟩ s K=(d<1000∧pt (yF ⟨some d,.bsl t st rows ps,g⟩ s K) (oi K (s.kill d) (some d)) (sq d t st (gJ (val (get (s.kill d).env)) st rows ps))):=aR rfl
theorem z6 (d:Nat) (t:TypeId) (x y:IV):eF P ⟨some d,.apps t x y,g⟩ s K=(d<1000∧bp (oi K (s.kill d) (some d)) (bh d (.apps t x y) (val (get (s.kill d).env)) (ae (s.kill d).heap))):=aR rfl
theorem DU (d:Nat) (t:TypeId) (x:IV):eF P ⟨some d,.cvb t x,g⟩ s K=(d<1000∧bp (oi K (s.kill d) (some d)) (bh d (.cvb t x) (val (get (s.kill d).env)) (ae (s.kill d).heap))):=aR rfl
theorem D4 (d:Nat) (t:TypeId) (st:Nat) (z:List AV) (l c:IV):eF P ⟨some d,.mks t st z l c,g⟩ s K=(d<1000∧bp (oi K (s.kill d) (some d)) (bh d (.mks t st z l c) (val (get (s.kill d).env)) (ae (s.kill d).heap))):=aR rfl
end
section
variable (al:List (Nat×Nat)) (i:Nat) (g:Option (Nat×Bool)) (bf:List Nat) (hist:List HI) (s:St) (K:List HI→St→Prop)
theorem zG (d:Option Nat) (x:IV):bZ P al i ⟨⟨d,.mov x,g⟩,bf⟩ hist s K=RD al i bf hist K s d 0 (.mov x):=aR rfl
theorem wg (d:Option Nat) (c a b:IV):bZ P al i ⟨⟨d,.pick c a b,g⟩,bf⟩ hist s K=RD al i bf hist K s d 0 (.pick c a b):=aR rfl
theorem sO (d:Option Nat) (cs:List AV) (ps:List (Nat×Nat×IV)):bZ P al i ⟨⟨d,.build cs ps,g⟩,bf⟩ hist s K=RD al i bf hist K s d 0 (.build cs ps):=aR rfl
theorem wc (d:Option Nat) (n:Option Nat) (p:IV):bZ P al i ⟨⟨d,.load n p,g⟩,bf⟩ hist s K=RD al i bf hist K s d 0 (.load n p):=aR rfl
theorem sP (d:Option Nat) (n:Nat) (p x:IV):bZ P al i ⟨⟨d,.store n p x,g⟩,bf⟩ hist s K=RD al i bf hist K s d 0 (.store n p x):=aR rfl
theorem wa (d:Option Nat) (o:Nat) (p:IV):bZ P al i ⟨⟨d,.fadr o p,g⟩,bf⟩ hist s K=RD al i bf hist K s d 0 (.fadr o p):=aR rfl
theorem zw (d:Option Nat) (o:Nat) (n:Option Nat) (x:IV):bZ P al i ⟨⟨d,.fld o n x,g⟩,bf⟩ hist s K=RD al i bf hist K s d 0 (.fld o n x):=aR rfl
theorem wb (d:Option Nat) (st:Nat) (x q:IV):bZ P al i ⟨⟨d,.iadr st x q,g⟩,bf⟩ hist s K=RD al i bf hist K s d 0 (.iadr st x q):=aR rfl
theorem v6 (d:Option Nat) (st n:Nat) (x q:IV):bZ P al i ⟨⟨d,.aadr st n x q,g⟩,bf⟩ hist s K=RD al i bf hist K s d 0 (.aadr st n x q):=aR rfl
theorem zF (d:Option Nat) (m:Bool) (x y:IV):bZ P al i ⟨⟨d,.mnx m x y,g⟩,bf⟩ hist s K=RD al i bf hist K s d 0 (.mnx m x y):=aR rfl
theorem zn (d:Option Nat) (st:Nat) (x y:IV):bZ P al i ⟨⟨d,.cpy st x y,g⟩,bf⟩ hist s K=RD al i bf hist K s d 0 (.cpy st x y):=aR rfl
theorem zM (d:Option Nat) (x y:IV):bZ P al i ⟨⟨d,.sib x y,g⟩,bf⟩ hist s K=RD al i bf hist K s d 0 (.sib x y):=aR rfl
theorem zq (d:Option Nat) (x:IV):bZ P al i ⟨⟨d,.cvm x,g⟩,bf⟩ hist s K=RD al i bf hist K s d 0 (.cvm x):=aR rfl
theorem zN (d:Option Nat) (st:Nat) (x:IV) (lo hi mx:Option IV):bZ P al i ⟨⟨d,.slc st x lo hi mx,g⟩,bf⟩ hist s K=RD al i bf hist K s d 0 (.slc st x lo hi mx):=aR rfl
theorem zx (d:Option Nat) (x:IV):bZ P al i ⟨⟨d,.len x,g⟩,bf⟩ hist s K=RD al i bf hist K s d 0 (.len x):=aR rfl
theorem wk (d:Option Nat) (x:IV):bZ P al i ⟨⟨d,.slen x,g⟩,bf⟩ hist s K=RD al i bf hist K s d 0 (.slen x):=aR rfl
theorem wl (d:Option Nat) (x:IV) (lo hi:Option IV):bZ P al i ⟨⟨d,.sslc x lo hi,g⟩,bf⟩ hist s K=RD al i bf hist K s d 0 (.sslc x lo hi):=aR rfl
theorem zk (d:Option Nat) (o:BinOp) (x y:IV):bZ P al i ⟨⟨d,.bin o x y,g⟩,bf⟩ hist s K=RD al i bf hist K s d 0 (.bin o x y):=aR rfl
theorem v8 (d:Option Nat) (o:BinOp) (x y:IV):bZ P al i ⟨⟨d,.bbin o x y,g⟩,bf⟩ hist s K=RD al i bf hist K s d 0 (.bbin o x y):=aR rfl
theorem we (d:Option Nat) (o:BinOp) (x y:IV):bZ P al i ⟨⟨d,.pbin o x y,g⟩,bf⟩ hist s K=RD al i bf hist K s d 0 (.pbin o x y):=aR rfl
theorem wh (d:Option Nat) (o:BinOp) (ls:List LK) (x y:IV):bZ P al i ⟨⟨d,.sbin o ls x y,g⟩,bf⟩ hist s K=RD al i bf hist K s d 0 (.sbin o ls x y):=aR rfl
theorem DL (d:Option Nat) (o:UnOp) (x:IV):bZ P al i ⟨⟨d,.un o x,g⟩,bf⟩ hist s K=RD al i bf hist K s d 0 (.un o x):=aR rfl
theorem zp (d:Option Nat) (k:IntKind) (x:IV):bZ P al i ⟨⟨d,.cvi k x,g⟩,bf⟩ hist s K=RD al i bf hist K s d 0 (.cvi k x):=aR rfl
theorem zr (d:Option Nat) (x:IV):bZ P al i ⟨⟨d,.cvs x,g⟩,bf⟩ hist s K=RD al i bf hist K s d 0 (.cvs x):=aR rfl
theorem zt (d:Option Nat) (x:IV):bZ P al i ⟨⟨d,.cvt x,g⟩,bf⟩ hist s K=RD al i bf hist K s d 0 (.cvt x):=aR rfl
theorem zu (d:Option Nat) (x:IV) (q:Nat):bZ P al i ⟨⟨d,.ext x q,g⟩,bf⟩ hist s K=RD al i bf hist K s d 0 (.ext x q):=aR rfl
theorem wd (d:Option Nat) (x:IV):bZ P al i ⟨⟨d,.nchk x,g⟩,bf⟩ hist s K=RD al i bf hist K s d 0 (.nchk x):=aR rfl
theorem zy (d:Option Nat) (f:FuncId) (cs:List IV):bZ P al i ⟨⟨d,.mkf f cs,g⟩,bf⟩ hist s K=RD al i bf hist K s d 0 (.mkf f cs):=aR rfl
theorem wj (d:Option Nat) (x q:IV):bZ P al i ⟨⟨d,.sidx x q,g⟩,bf⟩ hist s K=RD al i bf hist K s d 0 (.sidx x q):=aR rfl
theorem zJ (d:Nat) (t:TypeId) (cs:List AV):bZ P al i ⟨⟨some d,.new t cs,g⟩,bf⟩ hist s K=RD al i bf hist K s (some d) d (.new t cs):=aR rfl
theorem zl (d:Nat) (t:TypeId) (n:Nat) (x:IV):bZ P al i ⟨⟨some d,.box t n x,g⟩,bf⟩ hist s K=RD al i bf hist K s (some d) d (.box t n x):=aR rfl
theorem zm (d:Nat) (t:TypeId) (st:Nat) (rows:List (List AV)) (ps:List (Nat×IV)):bZ P al i ⟨⟨some d,.bsl t st rows ps,g⟩,bf⟩ hist s K=RD al i bf hist K s (some d) d (.bsl t st rows ps):=aR rfl
theorem v7 (d:Nat) (t:TypeId) (x y:IV):bZ P al i ⟨⟨some d,.apps t x y,g⟩,bf⟩ hist s K=RD al i bf hist K s (some d) d (.apps t x y):=aR rfl
theorem zo (d:Nat) (t:TypeId) (x:IV):bZ P al i ⟨⟨some d,.cvb t x,g⟩,bf⟩ hist s K=RD al i bf hist K s (some d) d (.cvb t x):=aR rfl
theorem zB (d:Nat) (t:TypeId) (st:Nat) (z:List AV) (l c:IV):bZ P al i ⟨⟨some d,.mks t st z l c,g⟩,bf⟩ hist s K=RD al i bf hist K s (some d) d (.mks t st z l c):=aR rfl
end
theorem HJ (d:Nat) (x:IV) (ρ:IV→AV) (h:Nat→Option ah):bh d (.mov x) ρ h=some (ρ x,.no):=rfl
def rF (c a b:AV):Option (AV×aP) :=
 match c with
 | .bool true=>some (a,.no)
 | .bool false=>some (b,.no)
 | _=>none
theorem C1 (d:Nat) (c a b:IV) (ρ:IV→AV) (h:Nat→Option ah):bh d (.pick c a b) ρ h=rF (ρ c) (ρ a) (ρ b):=rfl
theorem E6 (a b:AV):rF (.bool true) a b=some (a,.no):=rfl
theorem E5 (a b:AV):rF (.bool false) a b=some (b,.no):=rfl
theorem th (K:AV→aP→Prop) (t:Bool) (a b:AV):bp K (rF (.bool t) a b)=((t=true→K a .no)∧(t=false→K b .no)):=by cases t<;>simp [bp,rF]
theorem HK (d:Nat) (t:TypeId) (cs:List AV) (ρ:IV→AV) (h:Nat→Option ah):bh d (.new t cs) ρ h=some (.mp d cs.length 0 0,.new d ⟨t,cs.length,[cs],true⟩):=aR rfl
def Df (d:Nat) (t:TypeId) (n:Nat) (x:Option (List AV)):Option (AV×aP) :=
 match x with
 | some cs=>if cs.length=n∧(cs.all fun y=>!(mC d y))=true then some (.mp d n 0 0,.new d ⟨t,n,[cs],true⟩) else none
 | none=>none
theorem vn (d:Nat) (t:TypeId) (n:Nat) (cs:List AV):Df d t n (some cs)=if cs.length=n∧(cs.all fun y=>!(mC d y))=true then some (.mp d n 0 0,.new d ⟨t,n,[cs],true⟩) else none:=rfl
theorem Hu (d:Nat) (t:TypeId) (n:Nat) (x:IV) (ρ:IV→AV) (h:Nat→Option ah):bh d (.box t n x) ρ h=Df d t n (du (ρ x)):=aR rfl
theorem yx (d:Nat) (cs:List AV) (ps:List (Nat×Nat×IV)) (ρ:IV→AV) (h:Nat→Option ah):bh d (.build cs ps) ρ h=res ((fA ρ cs ps).map .agg):=aR rfl
theorem vp (d:Nat) (t:TypeId) (st:Nat):sq d t st none=none:=rfl
theorem vq (d:Nat) (t:TypeId) (st:Nat) (rs:List (List AV)):sq d t st (some rs)=some (.ms d st 0 rs.length,.new d ⟨t,st,rs,false⟩):=rfl
@[congr] theorem HN {d:Nat} {t:TypeId} {st:Nat} {x x' y:Option (List (List AV))} (h:x=x'):pG d t st x y=pG d t st x' y:=by rw [h]
theorem vt (d:Nat) (t:TypeId) (st:Nat) (rs:List (List AV)) (y:Option (List (List AV))):pG d t st (some rs) y=some (.ms d st 0 rs.length,.new d ⟨t,st,rs,false⟩):=rfl
theorem vr (d:Nat) (t:TypeId) (st:Nat) (y:Option (List (List AV))):pG d t st none y=yG d t st y:=rfl
theorem vu (d:Nat) (t:TypeId) (st:Nat) (rs:List (List AV)):yG d t st (some rs)=if i3 d rs=true then some (.ms d st 0 rs.length,.new d ⟨t,st,rs,true⟩) else none:=rfl
theorem Hv (d:Nat) (t:TypeId) (st:Nat) (rows:List (List AV)) (ps:List (Nat×IV)) (ρ:IV→AV) (h:Nat→Option ah):bh d (.bsl t st rows ps) ρ h=pG d t st (gJ ρ st rows ps) (dY ρ st rows ps):=aR rfl
theorem CY (d:Nat) (n:Option Nat) (p:IV) (ρ:IV→AV) (h:Nat→Option ah):bh d (.load n p) ρ h=res (fJ n (ρ p) h):=aR rfl
def FI (x:Option aP):Option (AV×aP):=x.map fun e=>(.any,e)
theorem w7 (e:aP):FI (some e)=some (.any,e):=rfl
theorem B5 (c:Prop) [Decidable c] (x:Option aP):FI (if c then x else none)=if c then FI x else none:=by split<;>rfl
theorem yy (d:Nat) (n:Nat) (p x:IV) (ρ:IV→AV) (h:Nat→Option ah):bh d (.store n p x) ρ h=FI (eL n (ρ p) (ρ x) h):=aR rfl
theorem CW (d:Nat) (o:Nat) (p:IV) (ρ:IV→AV) (h:Nat→Option ah):bh d (.fadr o p) ρ h=res (oL o (ρ p)):=aR rfl
theorem HD (d:Nat) (o:Nat) (n:Option Nat) (x:IV) (ρ:IV→AV) (h:Nat→Option ah):bh d (.fld o n x) ρ h=res (xW o n (ρ x)):=aR rfl
theorem CX (d:Nat) (st:Nat) (x q:IV) (ρ:IV→AV) (h:Nat→Option ah):bh d (.iadr st x q) ρ h=res (lM st (ρ x) (ρ q)):=aR rfl
theorem CS (d:Nat) (st n:Nat) (x q:IV) (ρ:IV→AV) (h:Nat→Option ah):bh d (.aadr st n x q) ρ h=res (oJ st n (ρ x) (ρ q)):=aR rfl
theorem HH (d:Nat) (m:Bool) (x y:IV) (ρ:IV→AV) (h:Nat→Option ah):bh d (.mnx m x y) ρ h=res (qF m (ρ x) (ρ y)):=aR rfl
theorem Hw (d:Nat) (st:Nat) (x y:IV) (ρ:IV→AV) (h:Nat→Option ah):bh d (.cpy st x y) ρ h=lZ st (ρ x) (dv st h (ρ y)) h:=aR rfl
theorem Hz (d:Nat) (x:IV) (ρ:IV→AV) (h:Nat→Option ah):bh d (.cvm x) ρ h=pz (ρ x) h:=aR rfl
theorem HL (d:Nat) (x y:IV) (ρ:IV→AV) (h:Nat→Option ah):bh d (.sib x y) ρ h=res (yi (ρ x) (ρ y)):=aR rfl
theorem HM (d:Nat) (st:Nat) (x:IV) (lo hi mx:Option IV) (ρ:IV→AV) (h:Nat→Option ah):bh d (.slc st x lo hi mx) ρ h=res (fb st (ρ x) (lo.map ρ) (hi.map ρ) (mx.map ρ)):=aR rfl
theorem HE (d:Nat) (x:IV) (ρ:IV→AV) (h:Nat→Option ah):bh d (.len x) ρ h=res (si (ρ x)):=aR rfl
theorem C4 (d:Nat) (x:IV) (ρ:IV→AV) (h:Nat→Option ah):bh d (.slen x) ρ h=res (qP (ρ x)):=aR rfl
theorem Hs (d:Nat) (t:TypeId) (st:Nat) (x y:IV) (ρ:IV→AV) (h:Nat→Option ah):bh d (.app t st x y) ρ h=g_ d t st (ρ x) (dv st h (ρ y)) h:=aR rfl
theorem CU (d:Nat) (t:TypeId) (x y:IV) (ρ:IV→AV) (h:Nat→Option ah):bh d (.apps t x y) ρ h=g_ d t 1 (ρ x) (B2 (ρ y)) h:=aR rfl
theorem C5 (d:Nat) (x:IV) (lo hi:Option IV) (ρ:IV→AV) (h:Nat→Option ah):bh d (.sslc x lo hi) ρ h=res (iD (ρ x) (lo.map ρ) (hi.map ρ)):=aR rfl
theorem Ht (d:Nat) (o:BinOp) (x y:IV) (ρ:IV→AV) (h:Nat→Option ah):bh d (.bin o x y) ρ h=res (eG o (ρ x) (ρ y)):=aR rfl
theorem CV (d:Nat) (o:BinOp) (x y:IV) (ρ:IV→AV) (h:Nat→Option ah):bh d (.bbin o x y) ρ h=res (oK o (ρ x) (ρ y)):=aR rfl
theorem C0 (d:Nat) (o:BinOp) (x y:IV) (ρ:IV→AV) (h:Nat→Option ah):bh d (.pbin o x y) ρ h=res (jy o (ρ x) (ρ y)):=aR rfl
theorem C2 (d:Nat) (o:BinOp) (ls:List LK) (x y:IV) (ρ:IV→AV) (h:Nat→Option ah):bh d (.sbin o ls x y) ρ h=res (iB o ls (ρ x) (ρ y)):=aR rfl
theorem KL (d:Nat) (o:UnOp) (x:IV) (ρ:IV→AV) (h:Nat→Option ah):bh d (.un o x) ρ h=res (Kt o (ρ x)):=aR rfl
def Lo (k:IntKind) (x:AV):Option (AV×aP) :=
 match x with
 | .int _ n=>some (.int k (k.wrap n),.no)
 | _=>none
theorem yU (k k':IntKind) (n:Int):Lo k (.int k' n)=some (.int k (k.wrap n),.no):=rfl
def Dn (x:Option (List (List AV))):Option (AV×aP) :=
 match x with
 | some rows=>res ((fU rows).map .str)
 | none=>none
theorem vL (rows:List (List AV)):Dn (some rows)=res ((fU rows).map .str):=rfl
theorem yW (c:Prop) [Decidable c] (x:Option (List (List AV))):Dn (if c then x else none)=if c then Dn x else none:=by split<;>rfl
def Ln (d:Nat) (t:TypeId) (x:AV):Option (AV×aP) :=
 match x with
 | .str s=>if s.length<1073741824 then some (.ms d 1 0 s.length,.new d ⟨t,1,s.map fun b=>[.int .u8 b.toNat],false⟩) else none
 | _=>none
theorem yT (d:Nat) (t:TypeId) (s:List UInt8):Ln d t (.str s)=if s.length<1073741824 then some (.ms d 1 0 s.length,.new d ⟨t,1,s.map fun b=>[.int .u8 b.toNat],false⟩) else none:=rfl
def Lv (i:Nat) (x:AV):Option (AV×aP) :=
 match x with
 | .tup vs=>res (vs[i]?)
 | _=>none
theorem y6 (i:Nat) (vs:List AV):Lv i (.tup vs)=res (vs[i]?):=rfl
def uB (x:AV):Option (AV×aP) :=
 match x with
 | .mp id st row off=>some (.mp id st row off,.no)
 | .ip cells=>some (.ip cells,.no)
 | .fn f caps=>some (.fn f caps,.no)
 | _=>none
theorem Ba (id st row off:Nat):uB (.mp id st row off)=some (.mp id st row off,.no):=rfl
theorem A_ (cells:List AV):uB (.ip cells)=some (.ip cells,.no):=rfl
theorem A9 (f:FuncId) (caps:List AV):uB (.fn f caps)=some (.fn f caps,.no):=rfl
def Lp (x:AV):Option (AV×aP) :=
 match x with
 | .str s=>some (.str s,.no)
 | _=>none
theorem yX (s:List UInt8):Lp (.str s)=some (.str s,.no):=rfl
def BX (x i:AV):Option (AV×aP) :=
 match x,i with
 | .str s,.int _ n=>if 0≤n then (match s[n.toNat]? with | some b=>some (.int .u8 b.toNat,.no) | none=>none) else none
 | _,_=>none
theorem w3 (K:AV→aP→Prop) (s:List UInt8) (k:IntKind) (n:Int):bp K (BX (.str s) (.int k n))=(0≤n∧n<s.length∧K (.int .u8 (ac s n.toNat).toNat) .no):=by
 simp only [BX]
 by_cases h:0≤n
 ·rw [bz h]
  by_cases h2:n.toNat<s.length
  ·rw [fu h2]
   rw [bD h2]
   simp only [bp]
   exact propext ⟨fun hk=>⟨h,by omega,hk⟩,fun hk=>hk.2.2⟩
  ·rw [List.getElem?_eq_none (by omega)]
   simp only [bp]
   exact propext ⟨fun hk=>hk.elim,fun hk=>by omega⟩
 ·rw [aV h]
  simp only [bp]
  exact propext ⟨fun hk=>hk.elim,fun hk=>absurd hk.1 h⟩
def Ma (d:Nat) (t:TypeId) (st:Nat) (zero:List AV) (l cp:AV):Option (AV×aP) :=
 match l,cp with
 | .int .i64 n,.int .i64 m=>if 0≤n∧n≤m∧m<1073741824∧zero.length=st then some (.ms d st 0 n.toNat,.new d ⟨t,st,List.replicate n.toNat zero,false⟩) else none
 | _,_=>none
theorem A5 (d:Nat) (t:TypeId) (st:Nat) (zero:List AV) (n m:Int):Ma d t st zero (.int .i64 n) (.int .i64 m)=if 0≤n∧n≤m∧m<1073741824∧zero.length=st then some (.ms d st 0 n.toNat,.new d ⟨t,st,List.replicate n.toNat zero,false⟩) else none:=rfl
theorem Hy (d:Nat) (k:IntKind) (x:IV) (ρ:IV→AV) (h:Nat→Option ah):bh d (.cvi k x) ρ h=Lo k (ρ x):=aR rfl
theorem HA (d:Nat) (x:IV) (ρ:IV→AV) (h:Nat→Option ah):bh d (.cvs x) ρ h=Dn (dv 1 h (ρ x)):=aR rfl
theorem Hx (d:Nat) (t:TypeId) (x:IV) (ρ:IV→AV) (h:Nat→Option ah):bh d (.cvb t x) ρ h=Ln d t (ρ x):=aR rfl
theorem HB (d:Nat) (x:IV) (ρ:IV→AV) (h:Nat→Option ah):bh d (.cvt x) ρ h=Lp (ρ x):=aR rfl
theorem HC (d:Nat) (x:IV) (q:Nat) (ρ:IV→AV) (h:Nat→Option ah):bh d (.ext x q) ρ h=Lv q (ρ x):=aR rfl
theorem CZ (d:Nat) (x:IV) (ρ:IV→AV) (h:Nat→Option ah):bh d (.nchk x) ρ h=uB (ρ x):=aR rfl
theorem C3 (d:Nat) (x q:IV) (ρ:IV→AV) (h:Nat→Option ah):bh d (.sidx x q) ρ h=BX (ρ x) (ρ q):=aR rfl
theorem HG (d:Nat) (t:TypeId) (st:Nat) (z:List AV) (l c:IV) (ρ:IV→AV) (h:Nat→Option ah):bh d (.mks t st z l c) ρ h=Ma d t st z (ρ l) (ρ c):=aR rfl
theorem HF (d:Nat) (f:FuncId) (cs:List IV) (ρ:IV→AV) (h:Nat→Option ah):bh d (.mkf f cs) ρ h=if (cs.map ρ).all yJ=true then some (.fn f (cs.map ρ),.no) else none:=aR rfl
theorem xF (k:IntKind) (a b:Int):eG .add (.int k a) (.int k b)=some (.int k (k.wrap (a+b))):=by cases k<;>rfl
theorem xS (k:IntKind) (a b:Int):eG .sub (.int k a) (.int k b)=some (.int k (k.wrap (a - b))):=by cases k<;>rfl
theorem xM (k:IntKind) (a b:Int):eG .mul (.int k a) (.int k b)=some (.int k (k.wrap (a * b))):=by cases k<;>rfl
theorem xH (k:IntKind) (a b:Int):eG .eql (.int k a) (.int k b)=some (.bool (a==b)):=by cases k<;>rfl
theorem xN (k:IntKind) (a b:Int):eG .neq (.int k a) (.int k b)=some (.bool (a != b)):=by cases k<;>rfl
theorem xL (k:IntKind) (a b:Int):eG .lss (.int k a) (.int k b)=some (.bool (decide (a<b))):=by cases k<;>rfl
theorem xK (k:IntKind) (a b:Int):eG .leq (.int k a) (.int k b)=some (.bool (decide (a≤b))):=by cases k<;>rfl
theorem xJ (k:IntKind) (a b:Int):eG .gtr (.int k a) (.int k b)=some (.bool (decide (a>b))):=by cases k<;>rfl
theorem xI (k:IntKind) (a b:Int):eG .geq (.int k a) (.int k b)=some (.bool (decide (a≥b))):=by cases k<;>rfl
theorem xO (k:IntKind) (a b:Int):eG .quo (.int k a) (.int k b)=if b=0 then none else some (.int k (k.wrap (a.tdiv b))):=by cases k<;>rfl
theorem xP (k:IntKind) (a b:Int):eG .rem (.int k a) (.int k b)=if b=0 then none else some (.int k (a.tmod b)):=by cases k<;>rfl
def yA (k:IntKind) (a b:Int):Int:=k.wrap ((BitVec.ofInt k.bits a &&& BitVec.ofInt k.bits b).toNat)
theorem xG (k:IntKind) (a b:Int):eG .and (.int k a) (.int k b)=some (.int k (yA k a b)):=by cases k<;>rfl
def iM (k:IntKind) (a b:Int):Int:=k.wrap ((BitVec.ofInt k.bits a ||| BitVec.ofInt k.bits b).toNat)
theorem Cx (k:IntKind) (a b:Int):eG .or (.int k a) (.int k b)=some (.int k (iM k a b)):=by cases k<;>rfl
def gL (k:IntKind) (a b:Int):Int:=k.wrap ((BitVec.ofInt k.bits a ^^^ BitVec.ofInt k.bits b).toNat)
theorem xT (k:IntKind) (a b:Int):eG .xor (.int k a) (.int k b)=some (.int k (gL k a b)):=by cases k<;>rfl
def yB (k:IntKind) (a b:Int):Int:=k.wrap ((BitVec.ofInt k.bits a &&& ~~~ (BitVec.ofInt k.bits b)).toNat)
theorem qC (k:IntKind) (a b:Int):eG .andNot (.int k a) (.int k b)=some (.int k (yB k a b)):=by cases k<;>rfl
def eH (k:IntKind) (a b:Int):Int:=k.wrap (a * 2 ^ (min b.toNat k.bits))
def tV (k:IntKind) (a b:Int):Int:=a.fdiv (2 ^ (min b.toNat k.bits))
theorem xQ (k k1:IntKind) (a b:Int):eG .shl (.int k a) (.int k1 b)=if b<0 then none else some (.int k (eH k a b)):=aR rfl
theorem xR (k k1:IntKind) (a b:Int):eG .shr (.int k a) (.int k1 b)=if b<0 then none else some (.int k (tV k a b)):=aR rfl
theorem u5 (a b:List UInt8):eG .add (.str a) (.str b)=if a.length+b.length<4611686018427387904 then some (.str (a++b)) else none:=aR rfl
theorem u6 (a b:List UInt8):eG .eql (.str a) (.str b)=some (.bool (a==b)):=aR rfl
theorem vb (a b:List UInt8):eG .neq (.str a) (.str b)=some (.bool (!(a==b))):=aR rfl
theorem va (a b:List UInt8):eG .lss (.str a) (.str b)=some (.bool (Op.bytesLess a b)):=aR rfl
theorem u_ (a b:List UInt8):eG .leq (.str a) (.str b)=some (.bool (Op.bytesLess a b||a==b)):=aR rfl
theorem u9 (a b:List UInt8):eG .gtr (.str a) (.str b)=some (.bool (!(Op.bytesLess a b||a==b))):=aR rfl
theorem u7 (a b:List UInt8):eG .geq (.str a) (.str b)=some (.bool (!(Op.bytesLess a b))):=aR rfl
theorem uZ (a b:Bool):oK .eql (.bool a) (.bool b)=some (.bool (a==b)):=rfl
theorem u4 (a b:Bool):oK .neq (.bool a) (.bool b)=some (.bool (!(a==b))):=rfl
theorem CQ (a:Bool):Kt .not (.bool a)=some (.bool (!a)):=rfl
theorem CP (k:IntKind) (n:Int):Kt .neg (.int k n)=some (.int k (k.wrap (0 - n))):=rfl
theorem CI (l:LK) (ls:List LK) (xs ys:List AV):iB .eql (l :: ls) (.agg xs) (.agg ys)=(eJ (l :: ls) xs ys).map .bool:=rfl
theorem CJ (l:LK) (ls:List LK) (xs ys:List AV):iB .neq (l :: ls) (.agg xs) (.agg ys)=(eJ (l :: ls) xs ys).map fun b=>.bool (!b):=rfl
theorem ye (f:FuncId) (cs:List AV):iB .eql [] (.fn f cs) .nf=some (.bool false):=rfl
theorem yf (f:FuncId) (cs:List AV):iB .neq [] (.fn f cs) .nf=some (.bool true):=rfl
theorem yg:iB .eql [] .nf .nf=some (.bool true):=rfl
theorem yh:iB .neq [] .nf .nf=some (.bool false):=rfl
theorem Hq:eJ [] [] []=some true:=rfl
def RR (p:Option Bool) (q:Option Bool):Option Bool:=match p,q with
 | some p,some q=>some (p&&q)
 | _,_=>none
theorem B1 (p q:Bool):RR (some p) (some q)=some (p&&q):=rfl
theorem Hp (l:LK) (ls:List LK) (x y:AV) (xs ys:List AV):eJ (l :: ls) (x :: xs) (y :: ys)=RR (eR l x y) (eJ ls xs ys):=rfl
theorem Aw (p q:Bool):eR .b (.bool p) (.bool q)=some (p==q):=rfl
theorem Ax (k:IntKind) (p q:Int):eR .i (.int k p) (.int k q)=some (p==q):=by simp [eR]
theorem Ay (p q:List UInt8):eR .s (.str p) (.str q)=some (p==q):=rfl
theorem x9:jy .eql .np .np=some (.bool true):=rfl
theorem x_ (id st row off:Nat):jy .eql (.mp id st row off) .np=some (.bool false):=rfl
theorem ya (cells:List AV):jy .eql (.ip cells) .np=some (.bool false):=rfl
theorem yb:jy .neq .np .np=some (.bool false):=rfl
theorem yc (id st row off:Nat):jy .neq (.mp id st row off) .np=some (.bool true):=rfl
theorem yd (cells:List AV):jy .neq (.ip cells) .np=some (.bool true):=rfl
theorem CC (st:Nat) (rows:List (List AV)):si (.sl st rows)=some (.int .i64 rows.length):=rfl
theorem CA (id st off len:Nat):si (.ms id st off len)=some (.int .i64 len):=rfl
theorem CB:si .nl=some (.int .i64 0):=rfl
theorem vh (s:List UInt8):qP (.str s)=some (.int .i64 s.length):=rfl
theorem x5 (n:Option Nat) (cells:List AV) (h:Nat→Option ah):fJ n (.ip cells) h=gd n cells:=rfl
def oz (n:Option Nat) (st row off:Nat) (o:Option ah):Option AV :=
 match o with
 | some o=>if o.st=st then (match o.rows[row]? with | some r=>gd n (r.drop off) | none=>none) else none
 | none=>none
theorem x6 (n:Option Nat) (id st row off:Nat) (h:Nat→Option ah):fJ n (.mp id st row off) h=oz n st row off (h id):=rfl
theorem Ez (n:Option Nat) (st off:Nat) (t:TypeId) (r:List AV) (b:Bool):oz n st 0 off (some ⟨t,st,[r],b⟩)=gd n (r.drop off):=by simp [oz]
theorem Ey {α:Type} [Inhabited α] (K:AV→aP→Prop) (n:Option Nat) (st row off:Nat) (t:TypeId) (l:List α) (f:α→List AV) (b:Bool) :
  bp K (res (oz n st row off (some ⟨t,st,l.map f,b⟩)))=(row<l.length∧bp K (res (gd n ((f (ac l row)).drop off)))):=by
 simp only [oz,fv]
 by_cases h2:row<l.length
 ·rw [cQ,fu h2,bD h2]
  simp [h2]
 ·rw [List.getElem?_eq_none (by simpa using h2)]
  simp [h2,res,bp]
theorem LP (x:AV) (r:List AV):gd none (x :: r)=some x:=rfl
theorem LR (n:Nat) (r:List AV):gd (some n) r=if n≤r.length then some (.agg (r.take n)) else none:=rfl
def lc (id n st row off:Nat) (o:Option ah) (cs:Option (List AV)):Option aP :=
 match cs with
 | some cs=>match o with
  | some o=>if o.st=st∧cs.length=n∧(o.isRec||cs.all fC)=true then (match o.rows[row]? with
   | some r=>if off+n≤r.length then some (.put id { o with rows:=o.rows.set row (dN r off cs) }) else none
   | none=>none) else none
  | none=>none
 | none=>none
theorem vi (n id st row off:Nat) (x:AV) (h:Nat→Option ah):eL n (.mp id st row off) x h=lc id n st row off (h id) (du x):=by
 unfold eL lc
 cases du x<;>rfl
theorem FH (id n st off:Nat) (t:TypeId) (r cs:List AV):lc id n st 0 off (some ⟨t,st,[r],true⟩) (some cs)=if cs.length=n∧off+n≤r.length then some (.put id ⟨t,st,[dN r off cs],true⟩) else none:=by
 simp only [lc,true_and,qq,and_true,List.getElem?_cons_zero,List.set_cons_zero]
 by_cases h1:cs.length=n<;>by_cases h2:off+n≤r.length<;>simp [h1,h2]
theorem FG (id n st row:Nat) (t:TypeId) (rows:List (List AV)) (cs:List AV) (hn:∀r∈rows,r.length=n):lc id n st row 0 (some ⟨t,st,rows,false⟩) (some cs)=if cs.length=n∧cs.all fC=true∧row<rows.length then some (.put id ⟨t,st,rows.set row cs,false⟩) else none:=by
 simp only [lc,true_and,qo]
 by_cases h3:row<rows.length
 ·rw [fu h3]
  have hl:=hn _ (List.getElem_mem h3)
  by_cases h1:cs.length=n<;>by_cases h2:cs.all fC=true<;>simp [h1,h2,h3,hl,dN]
  rw [List.drop_eq_nil_of_le (by omega),qn]
 ·rw [List.getElem?_eq_none (by omega)]
  simp [h3]
theorem xU (off:Nat) (cells:List AV):oL off (.ip cells)=some (.ip (cells.drop off)):=rfl
theorem xV (off id st row o:Nat):oL off (.mp id st row o)=some (.mp id st row (o+off)):=rfl
theorem xX (off:Nat) (n:Option Nat) (cells:List AV):xW off n (.agg cells)=gd n (cells.drop off):=rfl
theorem vc {α:Type} [Inhabited α] (K:AV→aP→Prop) (st:Nat) (l:List α) (f:α→List AV) (k:IntKind) (n:Int) :
  bp K (res (lM st (.sl st (l.map f)) (.int k n)))=(0≤n∧n<l.length∧K (.ip (f (ac l n.toNat))) .no):=by
 simp only [lM,true_and]
 by_cases h:0≤n
 ·rw [bz h]
  by_cases h2:n.toNat<l.length
  ·rw [cQ,fu h2,bD h2]
   simp only [dM,res,bp]
   exact propext ⟨fun hk=>⟨h,by omega,hk⟩,fun hk=>hk.2.2⟩
  ·rw [List.getElem?_eq_none (by simp;omega)]
   exact propext ⟨fun hk=>hk.elim,fun hk=>by omega⟩
 ·rw [aV h]
  exact propext ⟨fun hk=>hk.elim,fun hk=>absurd hk.1 h⟩
theorem xB (st n:Nat) (cells:List AV) (k:IntKind) (j:Int):oJ st n (.ip cells) (.int k j)=if 0≤j∧j<n then some (.ip (cells.drop (j.toNat * st))) else none:=rfl
theorem xC (st n id s row off:Nat) (k:IntKind) (j:Int):oJ st n (.mp id s row off) (.int k j)=if 0≤j∧j<n then some (.mp id s row (off+j.toNat * st)) else none:=rfl
def Dm (id st off len:Nat) (o:Option ah):Option (AV×aP) :=
 match o with
 | some o=>if st=1∧o.st=1∧o.isRec=false∧0<len then some (.ms id st off len,.put id o) else none
 | none=>none
theorem Cz (id st off len:Nat) (h:Nat→Option ah):pz (.ms id st off len) h=Dm id st off len (h id):=by simp only [pz,Dm];cases h id<;>rfl
theorem yV (id off len:Nat) (t:TypeId) (rows:List (List AV)):Dm id 1 off len (some ⟨t,1,rows,false⟩)=if 0<len then some (.ms id 1 off len,.put id ⟨t,1,rows,false⟩) else none:=by simp [Dm]
theorem yj (s:List UInt8) (n:Int):yi (.str s) (.int .u8 n)=some (.int .i64 (Fy s n.toNat.toUInt8)):=rfl
def Lk (id st off len:Nat) (ys:List (List AV)) (o:Option ah):Option (AV×aP) :=
 match o with
 | some o=>if o.st=st∧o.isRec=false∧off+len≤o.rows.length then (if ys.length≤len then some (.int .i64 ys.length,.put id { o with rows:=o.rows.take off++ys++o.rows.drop (off+ys.length) }) else some (.int .i64 len,.put id { o with rows:=o.rows.take off++ys.take len++o.rows.drop (off+len) })) else none
 | none=>none
theorem Cy (st id off len:Nat) (ys:List (List AV)) (h:Nat→Option ah):lZ st (.ms id st off len) (some ys) h=Lk id st off len ys (h id):=by simp only [lZ,Lk,true_and];cases h id<;>rfl
theorem x8 (k:IntKind) (n m:Int):qF false (.int k n) (.int k m)=some (.int k (if m<n then m else n)):=by simp [qF]
theorem x7 (k:IntKind) (n m:Int):qF true (.int k n) (.int k m)=some (.int k (if n<m then m else n)):=by simp [qF]
theorem xY (id st off len:Nat) (k:IntKind) (n:Int):lM st (.ms id st off len) (.int k n)=if 0≤n∧n<len then some (.mp id st (off+n.toNat) 0) else none:=by simp [lM]
theorem yk (id st off len:Nat):fb st (.ms id st off len) none none none=some (.ms id st off len):=by simp [fb,bN]
theorem yl (id st off len:Nat) (k:IntKind) (n:Int):fb st (.ms id st off len) none (some (.int k n)) none=if 0≤n∧n≤len then some (.ms id st off n.toNat) else none:=by
 simp only [fb,bN]
 by_cases h:0≤n<;>by_cases h2:n≤len<;>simp [h,h2]<;>omega
theorem ym (id st off len:Nat) (k:IntKind) (n:Int):fb st (.ms id st off len) (some (.int k n)) none none=if 0≤n∧n≤len then some (.ms id st (off+n.toNat) (len - n.toNat)) else none:=by
 simp only [fb,bN]
 by_cases h:0≤n<;>by_cases h2:n≤len<;>simp [h,h2]<;>omega
theorem vf (id st off len:Nat) (k k':IntKind) (n m:Int):fb st (.ms id st off len) (some (.int k n)) (some (.int k' m)) none=if 0≤n∧n≤m∧m≤len then some (.ms id st (off+n.toNat) (m - n).toNat) else none:=by
 simp only [fb,bN]
 by_cases h:0≤n
 ·by_cases h1:n≤m
  ·have hm:0≤m:=by omega
   by_cases h2:m≤len
   ·have:m.toNat - n.toNat=(m - n).toNat:=by omega
    simp [h,h1,h2,hm,this];omega
   ·simp [h,h1,h2,hm]<;>omega
  ·by_cases hm:0≤m<;>simp [h,h1,hm];omega
 ·simp [h]
theorem yr (st:Nat) (rows:List (List AV)):fb st (.sl st rows) none none none=some (.sl st rows):=by simp [fb,bN]
theorem yt {α:Type} (st:Nat) (f:α→List AV) (l:List α) (k:IntKind) (n:Int):fb st (.sl st (l.map f)) none (some (.int k n)) none=if 0≤n∧n≤l.length then some (.sl st ((l.take n.toNat).map f)) else none:=by
 simp only [fb,bN]
 by_cases h:0≤n<;>by_cases h2:n≤l.length<;>simp [h,h2,List.map_take]<;>omega
theorem yu {α:Type} (st:Nat) (f:α→List AV) (l:List α) (k:IntKind) (n:Int):fb st (.sl st (l.map f)) (some (.int k n)) none none=if 0≤n∧n≤l.length then some (.sl st ((l.drop n.toNat).map f)) else none:=by
 simp only [fb,bN]
 have:(l.drop n.toNat).map f=List.take (l.length - n.toNat) (List.drop n.toNat (l.map f)):=by rw [List.map_drop,jw (by simp)]
 by_cases h:0≤n<;>by_cases h2:n≤l.length<;>simp [h,h2,this]<;>omega
theorem vg {α:Type} (st:Nat) (f:α→List AV) (l:List α) (k k':IntKind) (n m:Int):fb st (.sl st (l.map f)) (some (.int k n)) (some (.int k' m)) none=if 0≤n∧n≤m∧m≤l.length then some (.sl st (((l.drop n.toNat).take (m - n).toNat).map f)) else none:=by
 simp only [fb,bN]
 by_cases h:0≤n
 ·by_cases h1:n≤m
  ·have hm:0≤m:=by omega
   by_cases h2:m≤l.length
   ·have:m.toNat - n.toNat=(m - n).toNat:=by omega
    simp [h,h1,h2,hm,this,List.map_take,List.map_drop];omega
   ·simp [h,h1,h2,hm]<;>omega
  ·by_cases hm:0≤m<;>simp [h,h1,hm];omega
 ·simp [h]
theorem yn (st:Nat):fb st .nl none none none=some .nl:=by simp [fb,bN]
theorem yp (st:Nat) (k:IntKind) (n:Int):fb st .nl none (some (.int k n)) none=if n=0 then some .nl else none:=by
 simp only [fb,bN]
 by_cases h:0≤n<;>by_cases h2:n=0<;>simp [h,h2]<;>omega
theorem yq (st:Nat) (k:IntKind) (n:Int):fb st .nl (some (.int k n)) none none=if n=0 then some .nl else none:=by
 simp only [fb,bN]
 by_cases h:0≤n<;>by_cases h2:n=0<;>simp [h,h2]<;>omega
theorem CK (s:List UInt8):iD (.str s) none none=some (.str s):=by simp [iD,bN]
theorem CN (s:List UInt8) (k:IntKind) (n:Int):iD (.str s) none (some (.int k n))=if 0≤n∧n≤s.length then some (.str (s.take n.toNat)) else none:=by
 simp only [iD,bN]
 by_cases h:0≤n<;>by_cases h2:n≤s.length<;>simp [h,h2]<;>omega
theorem CO (s:List UInt8) (k:IntKind) (n:Int):iD (.str s) (some (.int k n)) none=if 0≤n∧n≤s.length then some (.str (s.drop n.toNat)) else none:=by
 simp only [iD,bN]
 have:s.drop n.toNat=List.take (s.length - n.toNat) (List.drop n.toNat s):=by rw [jw (by simp)]
 by_cases h:0≤n<;>by_cases h2:n≤s.length<;>simp [h,h2,← this]<;>omega
theorem yw (s:List UInt8) (k k':IntKind) (n m:Int):iD (.str s) (some (.int k n)) (some (.int k' m))=if 0≤n∧n≤m∧m≤s.length then some (.str ((s.drop n.toNat).take (m - n).toNat)) else none:=by
 simp only [iD,bN]
 by_cases h:0≤n
 ·by_cases h1:n≤m
  ·have hm:0≤m:=by omega
   by_cases h2:m≤s.length
   ·have:m.toNat - n.toNat=(m - n).toNat:=by omega
    simp [h,h1,h2,hm,this];omega
   ·simp [h,h1,h2,hm]<;>omega
  ·by_cases hm:0≤m<;>simp [h,h1,hm];omega
 ·simp [h]
theorem Cw (d:Nat) (t:TypeId) (st:Nat) (ys:List (List AV)) (h:Nat→Option ah):g_ d t st .nl (some ys) h=if ys.length<137438953472 then some (.ms d st 0 ys.length,.new d ⟨t,st,ys,false⟩) else none:=rfl
def vl (id:Nat) (t:TypeId) (st off len:Nat) (ys:List (List AV)) (o:Option ah):Option (AV×aP) :=
 if ys.length<137438953472 then (match o with
   | some o=>if o.st=st∧o.t=t∧o.isRec=false∧off=0∧len≤o.rows.length∧len<137438953472∧(id<1000∨2000≤id)∧o.k.flat=true then
     some (.ms id st 0 (len+ys.length),.reb id ⟨t,st,o.rows.take len++ys,false⟩) else none
   | none=>none) else none
theorem Cv (d id:Nat) (t:TypeId) (st off len:Nat) (ys:List (List AV)) (h:Nat→Option ah):g_ d t st (.ms id st off len) (some ys) h=vl id t st off len ys (h id):=by
 simp only [g_,vl,true_and]
 cases h id<;>rfl
theorem nc:Kd.flat instKd=true:=rfl
theorem fP (id:Nat) (t:TypeId) (st len:Nat) (rows ys:List (List AV)) (hl:rows.length=len):vl id t st 0 len ys (some ⟨t,st,rows,false⟩) =
  if ys.length<137438953472∧len<137438953472∧(id<1000∨2000≤id) then some (.ms id st 0 (len+ys.length),.reb id ⟨t,st,rows++ys,false⟩) else none:=by
 subst hl
 simp only [vl,true_and,aB,bJ,nc,and_true]
 by_cases h1:ys.length<137438953472<;>simp [h1]
theorem xE (d:Nat) (t:TypeId) (st:Nat) (ys:List (List AV)) (h:Nat→Option ah):jx d t st .nl (some ys) h=if ys.length<137438953472∧0<ys.length then some (.ms d st 0 ys.length,.new d ⟨t,st,ys,true⟩) else none:=rfl
def tU (id:Nat) (t:TypeId) (st off len:Nat) (ys:List (List AV)) (o:Option ah):Option (AV×aP) :=
 if ys.length<137438953472∧0<ys.length then (match o with
   | some o=>if o.st=st∧o.t=t∧off=0∧len≤o.rows.length∧len<137438953472∧(id<1000∨2000≤id)∧o.k.flat=true∧i3 id (o.rows.take len++ys)=true then
     some (.ms id st 0 (len+ys.length),.reb id ⟨t,st,o.rows.take len++ys,true⟩) else none
   | none=>none) else none
theorem xD (d id:Nat) (t:TypeId) (st off len:Nat) (ys:List (List AV)) (h:Nat→Option ah):jx d t st (.ms id st off len) (some ys) h=tU id t st off len ys (h id):=by
 simp only [jx,tU,true_and]
 cases h id<;>rfl
theorem fT (id:Nat) (t:TypeId) (st len:Nat) (rows ys:List (List AV)) (q:Bool) (hl:rows.length=len):tU id t st 0 len ys (some ⟨t,st,rows,q⟩) =
  if ys.length<137438953472∧0<ys.length∧len<137438953472∧(id<1000∨2000≤id)∧i3 id (rows++ys)=true then some (.ms id st 0 (len+ys.length),.reb id ⟨t,st,rows++ys,true⟩) else none:=by
 subst hl
 simp only [tU,true_and,aB,bJ,nc]
 by_cases h1:ys.length<137438953472<;>by_cases h2:0<ys.length<;>simp [h1,h2]
theorem Js (i:Nat):i3 i []=true:=rfl
theorem Jr (i:Nat) (r:List AV) (l:List (List AV)):i3 i (r :: l)=((r.all fun x=>!mC i x)&&i3 i l):=rfl
theorem Bf (i:Nat) (a b:List (List AV)):i3 i (a++b)=(i3 i a&&i3 i b):=List.all_append
theorem BL (st:Nat) (h:Nat→Option ah):dv st h .nl=some []:=rfl
theorem BM (st:Nat) (h:Nat→Option ah) (rows:List (List AV)):dv st h (.sl st rows)=some rows:=by simp [dv]
def BH (st off len:Nat) (o:Option ah):Option (List (List AV)) :=
 match o with
 | some o=>if o.st=st∧o.isRec=false∧off+len≤o.rows.length then some ((o.rows.drop off).take len) else none
 | none=>none
theorem BK (st:Nat) (h:Nat→Option ah) (id off len:Nat):dv st h (.ms id st off len)=BH st off len (h id):=by simp only [dv,BH,true_and];cases h id<;>rfl
theorem wY (st len:Nat) (t:TypeId) (rows:List (List AV)) (hl:rows.length=len):BH st 0 len (some ⟨t,st,rows,false⟩)=some rows:=by subst hl;simp [BH]
theorem B4 (s:List UInt8):B2 (.str s)=some (s.map fun b=>[.int .u8 b.toNat]):=rfl
theorem vz {f:FuncId} {args args':List AV} {d:Option Nat} {s:St} {K:St→Prop} {r:AV} (hp:aj P f args' r) (hid:∀x∈args',aF x=[]) (hc:aK (B_ false (ae s.heap)) args args') (hk:K (s.put d r)):ek P f args d s K :=
 .inl (.inl ⟨args',r,false,hp,hid,hc,(fun h=>by cases h),hk⟩)
theorem aK.refl_coe (b:Bool) (h:Nat→Option ah):∀l:List AV,aK (B_ b h) l l
 | []=>trivial
 | _ :: r=>⟨.inl rfl,aK.refl_coe b h r⟩
theorem kJ {f:FuncId} {args:List AV} {d:Option Nat} {s:St} {K:St→Prop} {r:AV} (hp:aj P f args r) (hid:∀x∈args,aF x=[]) (hk:K (s.put d r)):ek P f args d s K :=
 vz hp hid (aK.refl_coe _ _ args) hk
theorem kb {f:FuncId} {args:List AV} {d:Option Nat} {s:St} {K:St→Prop} {r:AV} (fs:List Nat) {args':List AV} (ha:args.map (pa fs s)=args') (hp:aj P f args' r) (hid:∀x∈args',aF x=[]) (hk:K ((frzs fs s).put d r)):ek P f args d s K:=by
 subst ha
 exact .inr (.inl ⟨fs,.inl ⟨_,r,false,hp,hid,aK.refl_coe _ _ _,(fun h=>by cases h),hk⟩⟩)
theorem ar {al:List (Nat×Nat)} {f:FuncId} {args:List AV} {i:Nat} {bf:List Nat} {op:eV} {d:Option Nat} {hist:List HI} {s:St} {K:List HI→St→Prop} {r:AV} (hp:aj P f args r) (hid:∀x∈args,aF x=[]) (hr:aF r=[])
  (hk:cJ op s .no=true∧dy bf ⟨i,bx op s.env,[],[],false,false⟩ hist=true∧K (⟨i,bx op s.env,[],[],false,false⟩ :: hist) (s.put d r)):sN P al f args i bf op d hist s K :=
 .inl ⟨args,r,false,hp,hid,aK.refl_coe _ _ args,(fun h=>by cases h),hr,hk⟩
theorem uz:∀{l:List (Nat×AV)} {k:Nat},get l k = .any∨(k,get l k)∈l
 | [],k=>.inl rfl
 | (j,x) :: r,k=>by
  simp only [get]
  split
  ·rename_i h;subst h;exact .inr (by simp)
  ·rcases uz (l:=r) (k:=k) with h | h
   ·exact .inl h
   ·exact .inr (by simp [h])
theorem fo:∀{l:List (Nat×ah)} {k:Nat} {o:ah},ae l k=some o→(k,o)∈l
 | [],k,o,h=>by simp [ae] at h
 | (j,x) :: r,k,o,h=>by
  simp only [ae] at h
  split at h
  ·rename_i hj;cases h;subst hj;simp
  ·simp [fo h]
theorem bM.le {c:je} {a:Act} {w:World} {s s':St} (hs:bM c s a w) (h1:∀p∈s'.env,get s.env p.1=p.2) (h2:∀p∈s'.heap,ae s.heap p.1=some p.2):bM c s' a w:=by
 obtain ⟨bl,hs⟩:=hs
 refine ⟨bl,hs.weaken (fun k=>?_) (fun i o hi=>h2 (i,o) (fo hi))⟩
 rcases uz (l:=s'.env) (k:=k) with h | h
 ·exact .inl h
 ·exact .inr (h1 _ h).symm
theorem Wk.refl (s:St):Wk s s:=fun _ _ _ h=>h
theorem Wk.trans {s s' s'':St} (h:Wk s s') (h':Wk s' s''):Wk s s'':=fun c a w hs=>h' c a w (h c a w hs)
theorem Wk.le {s s':St} (h1:∀p∈s'.env,get s.env p.1=p.2) (h2:∀p∈s'.heap,ae s.heap p.1=some p.2):Wk s s':=fun _ _ _ hs=>hs.le h1 h2
theorem Wk.frz (s:St) (i:Nat):Wk s (s.frz i):=fun _ _ _ hs=>hs.frz i
theorem Wk.kill (s:St) (i:Nat):Wk s (s.kill i):=fun _ _ _ hs=>hs.kill i
def LI {α:Type} (S:α→St) (p:α→Prop) (m:α→Nat) (q:α) (K:IX→St→Prop) (e:IX) (s:St):Prop :=
 match e with
 | .nrm=>∃q',p q'∧m q'<m q∧Wk s (S q')
 | e=>K e s
theorem aC {α:Type} {S:α→St} {p:α→Prop} {m:α→Nat} {q:α} {K:IX→St→Prop} {s:St} (q':α) (h1:p q') (h2:m q'<m q) (h3:Wk s (S q')):LI S p m q K .nrm s:=⟨q',h1,h2,h3⟩
theorem LJ {α:Type} (S:α→St) (p:α→Prop) (m:α→Nat) (q:α) (K:IX→St→Prop) (s:St):LI S p m q K .ret s=K .ret s:=aR rfl
theorem LL {α:Type} (S:α→St) (p:α→Prop) (m:α→Nat) (q:α) (K:IX→St→Prop) (j:Nat) (s:St):LI S p m q K (.ext j) s=K (.ext j) s:=aR rfl
theorem an {α:Type} (S:α→St) (p:α→Prop) (m:α→Nat) {x:aS} {s:St} {K:IX→St→Prop} (q:α) (h1:p q) (h2:Wk s (S q))
  (hstep:∀q,p q→fD P x (S q) (LI S p m q K)):fD P (.loop x) s K:=by
 refine ⟨fun n s=>∃q,p q∧m q=n∧s=S q,⟨m q,S q,⟨q,h1,rfl,rfl⟩,h2⟩,?_⟩
 rintro n s ⟨q,h3,rfl,rfl⟩
 refine nA _ _ _ _ (fun e s' hh=>?_) (hstep q h3)
 cases e with
 | nrm=>obtain ⟨q',h4,h5,h6⟩:=hh;exact ⟨m q',S q',h5,⟨q',h4,rfl,rfl⟩,h6⟩
 | _=>exact hh
def RN {α:Type} (S:α→St) (p:α→Prop) (K:IX→St→Prop) (e:IX) (s:St):Prop :=
 match e with
 | .nrm=>∃q,p q∧Wk s (S q)
 | e=>K e s
theorem LM {α:Type} (S:α→St) (p:α→Prop) (K:IX→St→Prop) (s:St):RN S p K .ret s=K .ret s:=aR rfl
theorem LN {α:Type} (S:α→St) (p:α→Prop) (K:IX→St→Prop) (j:Nat) (s:St):RN S p K (.ext j) s=K (.ext j) s:=aR rfl
theorem aE {l:List iK} {r:AV} {s:St} (fs:List Nat) (h:jU l (frzs fs s)=some r) (h2:aF r=[]):mU l r .ret s:=⟨(fun _ h=>by cases h),s,Wk.refl s,fs,h,h2⟩
theorem ak {l:List iK} {r:AV} {s:St} (h:jU l (frzs [] s)=some r:=by simp only [go_sem]) (h2:aF r=[]:=by first | rfl | simp [go_sem,ca]):mU l r .ret s:=aE [] h h2
theorem ay {l:List iK} {r:AV} {s:St} (h:jU l (frzs [] s)=some r:=by rfl) (h2:aF r=[]:=by rfl):mU l r .ret s:=aE [] h h2
theorem aa {f:FuncId} {args:List AV} {d:Option Nat} {s:St} {K:St→Prop} {r:AV} (hp:aj P f args r) (hk:K (s.put d r)) (hid:∀x∈args,aF x=[]:=by simp [go_sem]):ek P f args d s K:=kJ hp hid hk
end
attribute [go_sem] D9 zG Ae wg ws sO Ab wc wv sP z_ wa D0 zw Aa wb zZ v6 D8 zF DT zn Ee zM DW zq Ef zN D1 zx Ah wk Ai wl DQ zk z7 v8 Ad we Af wh IL DL DV zp DX zr DY zt DZ zu Ac wd D2 zy Ag wj Eb zJ DR zl DS zm DP zj z6 v7 DU zo D4 zB
attribute [go_sem] HJ C1 HK Hu yx Hv CY yy CW HD CX CS HH Hw Hz HL HM HE C4 Hs CU C5 Ht CV C0 C2 KL Hy HA Hx HB HC CZ C3 HG HF xF xS xM xH xN xL xK xJ xI xO xP xG Cx xT qC xQ xR u5 u6 vb va u_ u9 u7
attribute [go_sem] IZ I0 I1 IQ IR IM IN IP IY IW Eo LO IS tj tq tp w6 vp w5 tg M9 J3 Fn B6 zd LJ LL LM LN
theorem Ki (a b:Prop):Cb (.bool false) a b=b:=Gm a b
attribute [go_sem ↓] Gn Gm LB LA LC
attribute [go_sem high] Kj Ki Iy Iw Iz
attribute [go_sem] Aq Ej Ao Ek wx Am Ei An Aj ww pW pV wn sR ox ow z8 wt v_ y7
attribute [go_sem] E6 E5 th vn vq w7 B5 yU vL yW yT y6 Ba A_ A9 yX w3 A5 uZ u4 CQ CP CI CJ ye yf yg yh Hq B1 Hp Aw Ax Ay x9 x_ ya yb yc yd CC CA CB vh x5 x6 Ez Ey LP LR vi FH xU xV xX vc xY xB xC x8 x7 yj Cy Cz yV yk yl ym vf yr yt yu vg yn yp yq CK CN CO yw Cw Cv xE xD E8 E7 Fi Fj Fk wU BN rM vt vr vu Js Jr Bf BL BM BK B4
theorem Lz (n:Nat):get [] n = .any:=aR rfl
theorem Ly (k n:Nat) (x:AV) (r:List (Nat×AV)):get ((k,x) :: r) n=if k=n then x else get r n:=aR rfl
theorem ID (n:Nat):ae [] n=none:=aR rfl
theorem IC (k n:Nat) (x:ah) (r:List (Nat×ah)):ae ((k,x) :: r) n=if k=n then some x else ae r n:=aR rfl
theorem Lr (n:Nat):del [] n=[]:=aR rfl
theorem Lq (k n:Nat) (x:AV) (r:List (Nat×AV)):del ((k,x) :: r) n=if k=n then del r n else (k,x) :: del r n:=aR rfl
theorem IB (n:Nat):ii [] n=[]:=aR rfl
theorem IA (k n:Nat) (x:ah) (r:List (Nat×ah)):ii ((k,x) :: r) n=if k=n then ii r n else (k,x) :: ii r n:=aR rfl
theorem JR (i:Nat):kX i []=[]:=aR rfl
theorem JQ (i k:Nat) (x:AV) (r:List (Nat×AV)):kX i ((k,x) :: r)=(k,eC i x) :: kX i r:=aR rfl
theorem JT (i:Nat):kY i []=[]:=aR rfl
theorem JS (i k:Nat) (x:ah) (r:List (Nat×ah)):kY i ((k,x) :: r)=(k,cH i x) :: kY i r:=aR rfl
theorem M5 (e:List (Nat×AV)) (h:List (Nat×ah)) (d:Nat) (x:AV):St.put ⟨e,h⟩ (some d) x =⟨(d,x) :: e,h⟩:=aR rfl
theorem M4 (s:St) (x:AV):s.put none x=s:=aR rfl
theorem IT (e:List (Nat×AV)) (h:List (Nat×ah)) (i:Nat):St.kill ⟨e,h⟩ i =⟨kX i e,kY i (ii h i)⟩:=aR rfl
theorem H9 (s:St):s.eff .no=s:=aR rfl
theorem Dw (e:List (Nat×AV)) (h:List (Nat×ah)) (i:Nat) (o:ah):St.eff ⟨e,h⟩ (.put i o) =⟨e,(i,o) :: ii h i⟩:=aR rfl
theorem Dv (e:List (Nat×AV)) (h:List (Nat×ah)) (i:Nat) (o:ah):St.eff ⟨e,h⟩ (.new i o) =⟨e,(i,o) :: ii h i⟩:=aR rfl
theorem Dx (e:List (Nat×AV)) (h:List (Nat×ah)) (i:Nat) (o:ah):St.eff ⟨e,h⟩ (.reb i o) =⟨kX i e,(i,o) :: kY i (ii h i)⟩:=aR rfl
theorem Er (s:St):kills [] s=s:=aR rfl
theorem Eq (i:Nat) (r:List Nat) (s:St):kills (i :: r) s=kills r (s.kill i):=aR rfl
theorem H6 (e:List (Nat×AV)):dels [] e=e:=aR rfl
theorem H5 (d:Nat) (r:List Nat) (e:List (Nat×AV)):dels (d :: r) e=dels r (del e d):=aR rfl
theorem Nu (g:Nat→AV) (k:Nat):val g (.s k)=g k:=aR rfl
theorem Nt (g:Nat→AV) (x:AV):val g (.c x)=x:=aR rfl
theorem BD (k:Nat) (b:Bool) (s:St):refine (.s k) b s=s.put (some k) (.bool b):=aR rfl
theorem BC (x:AV) (b:Bool) (s:St):refine (.c x) b s=s:=aR rfl
attribute [go_sem] Lz Ly ID IC Lr Lq IB IA JR JQ JT JS M5 M4 IT H9 Dw Dv Dx Er Eq H6 H5 Nu Nt BD BC
attribute [go_sem] fA gJ dY du fC dN yJ fU
attribute [go_sem] eC cH bW mV mG mC mP aF fk bU cG cU bx ao aL eX cJ dy iG p7 fY aP.tch aP.isReb aP.isPut aP.ids
attribute [go_sem] jU pX rh pk frzs St.frz pa frz1 zc vX kh pO ci cT et fB lO qY o7
attribute [go_sem] dP List.map_nil r6 r5 qn List.all_cons List.all_nil List.any_cons List.any_nil List.contains_cons List.contains_nil r7 List.flatMap_nil List.drop_succ_cons List.drop_zero List.take_succ_cons bE oh kC fz
attribute [go_sem] List.getElem?_cons_zero List.getElem?_cons_succ List.set_cons_zero List.set_cons_succ
attribute [go_sem] dM Option.map_none Option.getD_some Option.getD_none Option.isSome_some
attribute [go_sem] dO eu Bool.and_true jc Bool.and_false kE Bool.or_true qq Bool.or_false qo
attribute [go_sem] true_and and_true true_implies implies_true false_implies fv j8 not_true_eq_false not_false_eq_true and_self true_or or_true false_or or_false
section
variable {P:Program} [aX P]
def Fo (d:Nat) (x:AV):Option (AV×aP) :=
 match x with
 | .str s=>some (.mm d false,.new d (@ah.mk 0 0 [] false (.it s 0)))
 | _=>none
def rq (k:Bool) (x:AV) (h:Nat→Option ah) (f:Nat→ah→Option (AV×aP)):Option (AV×aP) :=
 match x with
 | .mm id k'=>if k=k' then (h id).bind (f id) else none
 | _=>none
def L8 (x:AV) (h:Nat→Option ah) (f:ah→Option (AV×aP)):Option (AV×aP) :=
 match x with
 | .fm es=>f (@ah.mk 0 0 [] false (.mp es))
 | x=>rq true x h fun _=>f
def CE (o:ah):Option (AV×aP):=(ke o).map fun es=>(.int .i64 es.length,.no)
def wH (x n y:AV) (h:Nat→Option ah):Option (AV×aP) :=
 match n with
 | .int .i64 n=>rq true x h fun id=>ve id n y
 | _=>none
theorem qM (d:Nat) (x:AV) (h:Nat→Option ah):er d .rng [x] h=Fo d x:=by cases x<;>rfl
theorem qL (d:Nat) (x:AV) (h:Nat→Option ah):er d .nxt [x] h=rq false x h pA:=by
 cases x<;>try rfl
 rename_i id k
 cases k<;>rfl
theorem qH (d:Nat) (x:AV) (h:Nat→Option ah):er d .mln [x] h=rq true x h fun _=>CE:=by
 cases x<;>try rfl
 rename_i id k
 cases k<;>rfl
theorem qG (d:Nat) (ok:Bool) (kd:KK) (z x y:AV) (h:Nat→Option ah):er d (.mlk ok kd z) [x,y] h=L8 x h (jK ok kd z y):=by
 cases x<;>try rfl
 rename_i id k
 cases k<;>rfl
theorem qK (d:Nat) (kd:KK) (x y q:AV) (h:Nat→Option ah):er d (.mup kd) [x,y,q] h=rq true x h fun id=>mY id kd y q:=by
 cases x<;>try rfl
 rename_i id k
 cases k<;>rfl
theorem qI (d:Nat) (kd:KK) (z x y:AV) (h:Nat→Option ah):er d (.mnt kd z) [x,y] h=rq true x h fun id=>qE id kd z y:=by
 cases x<;>try rfl
 rename_i id k
 cases k<;>rfl
theorem qJ (d:Nat) (x n q:AV) (h:Nat→Option ah):er d .mst [x,n,q] h=wH x n q h:=by
 by_cases hn:∃m,n = .int .i64 m
 ·obtain ⟨m,rfl⟩:=hn
  cases x<;>try rfl
  rename_i id k
  cases k<;>rfl
 ·have h1:wH x n q h=none:=by
   unfold wH
   split
   ·exact absurd ⟨_,rfl⟩ hn
   ·rfl
  rw [h1]
  unfold er
  split<;>first | rfl | (simp_all;done)
theorem Ed (d:Nat) (x:IV) (g:Option (Nat×Bool)) (s:St) (K:St→Prop):eF P ⟨some d,.mop .rng [x],g⟩ s K=(d<1000∧bp (oi K (s.kill d) (some d)) (Fo d (val (get (s.kill d).env) x))):=by
 rw [← qM d _ (ae (s.kill d).heap)];rfl
theorem D3 (d:Nat) (g:Option (Nat×Bool)) (s:St) (K:St→Prop):eF P ⟨some d,.mop .mkm [],g⟩ s K=(d<1000∧bp (oi K (s.kill d) (some d)) (some (.mm d true,.new d (@ah.mk 0 0 [] false (.mp []))))):=rfl
theorem zL (al:List (Nat×Nat)) (i d:Nat) (x:IV) (g:Option (Nat×Bool)) (bf:List Nat) (hist:List HI) (s:St) (K:List HI→St→Prop):bZ P al i ⟨⟨some d,.mop .rng [x],g⟩,bf⟩ hist s K=bp (kS al i bf (.mop .rng [x]) hist K s (some d)) (Fo d (val (get s.env) x)):=by
 rw [← qM d _ (ae s.heap)];rfl
theorem zA (al:List (Nat×Nat)) (i d:Nat) (g:Option (Nat×Bool)) (bf:List Nat) (hist:List HI) (s:St) (K:List HI→St→Prop):bZ P al i ⟨⟨some d,.mop .mkm [],g⟩,bf⟩ hist s K=bp (kS al i bf (.mop .mkm []) hist K s (some d)) (some (.mm d true,.new d (@ah.mk 0 0 [] false (.mp [])))):=rfl
theorem Ec (d:Option Nat) (x:IV) (g:Option (Nat×Bool)) (s:St) (K:St→Prop):eF P ⟨d,.mop .nxt [x],g⟩ s K=bp (oi K s d) (rq false (val (get s.env) x) (ae s.heap) pA):=by
 rw [← qL (d.getD 0)  (val (get s.env) x) (ae s.heap)];rfl
theorem zK (al:List (Nat×Nat)) (i:Nat) (d:Option Nat) (x:IV) (g:Option (Nat×Bool)) (bf:List Nat) (hist:List HI) (s:St) (K:List HI→St→Prop):bZ P al i ⟨⟨d,.mop .nxt [x],g⟩,bf⟩ hist s K=bp (kS al i bf (.mop .nxt [x]) hist K s d) (rq false (val (get s.env) x) (ae s.heap) pA):=by
 rw [← qL (d.getD 0)  (val (get s.env) x) (ae s.heap)];rfl
theorem D6 (d:Option Nat) (x:IV) (g:Option (Nat×Bool)) (s:St) (K:St→Prop):eF P ⟨d,.mop .mln [x],g⟩ s K=bp (oi K s d) (rq true (val (get s.env) x) (ae s.heap) fun _=>CE):=by
 rw [← qH (d.getD 0)  (val (get s.env) x) (ae s.heap)];rfl
theorem zD (al:List (Nat×Nat)) (i:Nat) (d:Option Nat) (x:IV) (g:Option (Nat×Bool)) (bf:List Nat) (hist:List HI) (s:St) (K:List HI→St→Prop):bZ P al i ⟨⟨d,.mop .mln [x],g⟩,bf⟩ hist s K=bp (kS al i bf (.mop .mln [x]) hist K s d) (rq true (val (get s.env) x) (ae s.heap) fun _=>CE):=by
 rw [← qH (d.getD 0)  (val (get s.env) x) (ae s.heap)];rfl
theorem D5 (d:Option Nat) (ok:Bool) (kd:KK) (z:AV) (x y:IV) (g:Option (Nat×Bool)) (s:St) (K:St→Prop):eF P ⟨d,.mop (.mlk ok kd z) [x,y],g⟩ s K=bp (oi K s d) (L8 (val (get s.env) x) (ae s.heap) (jK ok kd z (val (get s.env) y))):=by
 rw [← qG (d.getD 0) ok kd z (val (get s.env) x) (val (get s.env) y) (ae s.heap)];rfl
theorem zC (al:List (Nat×Nat)) (i:Nat) (d:Option Nat) (ok:Bool) (kd:KK) (z:AV) (x y:IV) (g:Option (Nat×Bool)) (bf:List Nat) (hist:List HI) (s:St) (K:List HI→St→Prop):bZ P al i ⟨⟨d,.mop (.mlk ok kd z) [x,y],g⟩,bf⟩ hist s K=bp (kS al i bf (.mop (.mlk ok kd z) [x,y]) hist K s d) (L8 (val (get s.env) x) (ae s.heap) (jK ok kd z (val (get s.env) y))):=by
 rw [← qG (d.getD 0) ok kd z (val (get s.env) x) (val (get s.env) y) (ae s.heap)];rfl
theorem Ea (d:Option Nat) (kd:KK) (x y q:IV) (g:Option (Nat×Bool)) (s:St) (K:St→Prop):eF P ⟨d,.mop (.mup kd) [x,y,q],g⟩ s K=bp (oi K s d) (rq true (val (get s.env) x) (ae s.heap) fun id=>mY id kd (val (get s.env) y) (val (get s.env) q)):=by
 rw [← qK (d.getD 0) kd (val (get s.env) x) (val (get s.env) y) (val (get s.env) q) (ae s.heap)];rfl
theorem zI (al:List (Nat×Nat)) (i:Nat) (d:Option Nat) (kd:KK) (x y q:IV) (g:Option (Nat×Bool)) (bf:List Nat) (hist:List HI) (s:St) (K:List HI→St→Prop):bZ P al i ⟨⟨d,.mop (.mup kd) [x,y,q],g⟩,bf⟩ hist s K=bp (kS al i bf (.mop (.mup kd) [x,y,q]) hist K s d) (rq true (val (get s.env) x) (ae s.heap) fun id=>mY id kd (val (get s.env) y) (val (get s.env) q)):=by
 rw [← qK (d.getD 0) kd (val (get s.env) x) (val (get s.env) y) (val (get s.env) q) (ae s.heap)];rfl
theorem D7 (d:Option Nat) (kd:KK) (z:AV) (x y:IV) (g:Option (Nat×Bool)) (s:St) (K:St→Prop):eF P ⟨d,.mop (.mnt kd z) [x,y],g⟩ s K=bp (oi K s d) (rq true (val (get s.env) x) (ae s.heap) fun id=>qE id kd z (val (get s.env) y)):=by
 rw [← qI (d.getD 0) kd z (val (get s.env) x) (val (get s.env) y) (ae s.heap)];rfl
theorem zE (al:List (Nat×Nat)) (i:Nat) (d:Option Nat) (kd:KK) (z:AV) (x y:IV) (g:Option (Nat×Bool)) (bf:List Nat) (hist:List HI) (s:St) (K:List HI→St→Prop):bZ P al i ⟨⟨d,.mop (.mnt kd z) [x,y],g⟩,bf⟩ hist s K=bp (kS al i bf (.mop (.mnt kd z) [x,y]) hist K s d) (rq true (val (get s.env) x) (ae s.heap) fun id=>qE id kd z (val (get s.env) y)):=by
 rw [← qI (d.getD 0) kd z (val (get s.env) x) (val (get s.env) y) (ae s.heap)];rfl
theorem D_ (d:Option Nat) (x y q:IV) (g:Option (Nat×Bool)) (s:St) (K:St→Prop):eF P ⟨d,.mop .mst [x,y,q],g⟩ s K=bp (oi K s d) (wH (val (get s.env) x) (val (get s.env) y) (val (get s.env) q) (ae s.heap)):=by
 rw [← qJ (d.getD 0)  (val (get s.env) x) (val (get s.env) y) (val (get s.env) q) (ae s.heap)];rfl
theorem zH (al:List (Nat×Nat)) (i:Nat) (d:Option Nat) (x y q:IV) (g:Option (Nat×Bool)) (bf:List Nat) (hist:List HI) (s:St) (K:List HI→St→Prop):bZ P al i ⟨⟨d,.mop .mst [x,y,q],g⟩,bf⟩ hist s K=bp (kS al i bf (.mop .mst [x,y,q]) hist K s d) (wH (val (get s.env) x) (val (get s.env) y) (val (get s.env) q) (ae s.heap)):=by
 rw [← qJ (d.getD 0)  (val (get s.env) x) (val (get s.env) y) (val (get s.env) q) (ae s.heap)];rfl
theorem BG (d:Nat) (s:List UInt8):Fo d (.str s)=some (.mm d false,.new d (@ah.mk 0 0 [] false (.it s 0))):=rfl
theorem Mc (id:Nat) (h:Nat→Option ah) (f:Nat→ah→Option (AV×aP)):rq true (.mm id true) h f=(h id).bind (f id):=rfl
theorem L_ (id:Nat) (h:Nat→Option ah) (f:ah→Option (AV×aP)):L8 (.mm id true) h f=(h id).bind f:=rfl
theorem L9 (es:List (AV×AV)) (h:Nat→Option ah) (f:ah→Option (AV×aP)):L8 (.fm es) h f=f (@ah.mk 0 0 [] false (.mp es)):=rfl
theorem Mb (id:Nat) (h:Nat→Option ah) (f:Nat→ah→Option (AV×aP)):rq false (.mm id false) h f=(h id).bind (f id):=rfl
theorem Jc (x y:AV) (n:Int) (h:Nat→Option ah):wH x (.int .i64 n) y h=rq true x h fun id=>ve id n y:=rfl
theorem td {α β:Type} (x:α) (f:α→Option β):(some x).bind f=f x:=rfl
theorem CH (K:AV→aP→Prop) (id t st:Nat) (rows:List (List AV)) (r:Bool) (s:List UInt8) (pos:Nat):bp K (pA id (@ah.mk t st rows r (.it s pos))) =
  if pos<s.length then K (.tup [.bool true,.int .i64 pos,.int .i32 (Utf8.decode ⟨s.toArray⟩ pos).1]) (.put id (@ah.mk t st rows r (.it s (pos+(Utf8.decode ⟨s.toArray⟩ pos).2)))) else K (.tup [.bool false]) .no:=by
 simp only [pA,J4]
 split<;>rfl
theorem CF (t st:Nat) (rows:List (List AV)) (r:Bool) (es:List (AV×AV)):CE (@ah.mk t st rows r (.mp es))=some (.int .i64 es.length,.no):=rfl
def RO (K:AV→aP→Prop) (ok:Bool) (z:AV) (es:List (AV×AV)) (q:Option (Option Nat)):Prop :=
 match q with
 | some (some i)=>match es[i]? with
  | some e=>K (if ok then .tup [e.2,.bool true] else e.2) .no
  | none=>False
 | some none=>K (if ok then .tup [z,.bool false] else z) .no
 | none=>False
theorem CD (K:AV→aP→Prop) (ok:Bool) (kd:KK) (z y:AV) (t st:Nat) (rows:List (List AV)) (r:Bool) (es:List (AV×AV)):bp K (jK ok kd z y (@ah.mk t st rows r (.mp es)))=RO K ok z es (gg kd y es):=by
 simp only [jK,ke,RO]
 cases gg kd y es with
 | none=>rfl
 | some q=>cases q with
  | none=>rfl
  | some i=>cases h:es[i]? <;> simp [h,bp]
theorem CG (K:AV→aP→Prop) (id:Nat) (kd:KK) (y q:AV) (t st:Nat) (rows:List (List AV)) (r:Bool) (es:List (AV×AV)):bp K (mY id kd y q (@ah.mk t st rows r (.mp es))) =
  (gO y=true∧gO q=true∧∃es',Bx kd y q es=some es'∧K .any (.put id (@ah.mk t st rows r (.mp es')))):=by
 simp only [mY,ke]
 cases gO y<;>cases gO q<;>cases Bx kd y q es<;>simp [bp]
def w4 (b:Bool) (x:AV) (K:AV→aP→Prop):Prop :=
 match x with
 | .sl _ []=>K (.bool b) .no∧K (.bool (!b)) .no
 | x=>match sk b x with
  | some v=>K v .no
  | none=>False
theorem Eg (d:Option Nat) (b:Bool) (x:IV) (g:Option (Nat×Bool)) (s:St) (K:St→Prop):eF P ⟨d,.snl b x,g⟩ s K=w4 b (val (get s.env) x) (oi K s d):=by
 show (match val (get s.env) x with
  | .sl _ []=>K (s.put d (.bool b))∧K (s.put d (.bool (!b)))
  | x=>match sk b x with
   | some v=>K (s.put d v)
   | none=>False)=_
 generalize val (get s.env) x=v
 unfold w4
 split
 ·rfl
 ·split<;>rfl
theorem zO (al:List (Nat×Nat)) (i:Nat) (d:Option Nat) (b:Bool) (x:IV) (g:Option (Nat×Bool)) (bf:List Nat) (hist:List HI) (s:St) (K:List HI→St→Prop):bZ P al i ⟨⟨d,.snl b x,g⟩,bf⟩ hist s K=bp (kS al i bf (.snl b x) hist K s d) (res (sk b (val (get s.env) x))):=aR rfl
theorem FD (b:Bool) (K:AV→aP→Prop):w4 b .nl K=K (.bool (!b)) .no:=rfl
theorem J9 (b:Bool) (st:Nat) (K:AV→aP→Prop):w4 b (.sl st []) K=(K (.bool b) .no∧K (.bool (!b)) .no):=rfl
theorem J_ (b:Bool) (st:Nat) (r:List AV) (rows:List (List AV)) (K:AV→aP→Prop):w4 b (.sl st (r :: rows)) K=K (.bool b) .no:=rfl
theorem ir (b:Bool) (st:Nat) (rows:List (List AV)) (K:AV→aP→Prop) (h:K (.bool b) .no∧(rows=[]→K (.bool (!b)) .no)):w4 b (.sl st rows) K:=by
 cases rows with
 | nil=>exact ⟨h.1,h.2 rfl⟩
 | cons r rows=>exact h.1
end
theorem ah.k_e (t:TypeId) (st:Nat) (rows:List (List AV)) (r:Bool) (k:Kd):(@ah.mk t st rows r k).k=k:=rfl
attribute [go_sem] ah.k_e
attribute [go_sem] Eg zO FD J9 J_
attribute [go_sem] Ed D3 zL zA Ec zK D6 zD D5 zC Ea zI D7 zE D_ zH BG Mc Mb L_ L9 Jc td CH CF CD CG
def jt (ρ:Nat→Nat):AV→AV
 | .ms id st off len=>.ms (ρ id) st off len
 | .mp id st row off=>.mp (ρ id) st row off
 | .mm id k=>.mm (ρ id) k
 | x=>x
def eD (ρ:Nat→Nat):AV→AV
 | .fn f caps=>.fn f (caps.map (jt ρ))
 | x=>jt ρ x
def nQ (ρ:Nat→Nat):AV→AV
 | .agg cells=>.agg (cells.map (eD ρ))
 | x=>eD ρ x
def i8 (ρ:Nat→Nat):AV→AV
 | .tup vs=>.tup (vs.map (nQ ρ))
 | x=>nQ ρ x
def fN (ρ:Nat→Nat) (o:ah):ah:=if o.isRec then { o with rows:=o.rows.map (fun r=>r.map (eD ρ)) } else o
def f8 (ρ:Nat→Nat):List (Nat×ah)→List (Nat×ah)
 | []=>[]
 | (i,o) :: r=>(ρ i,fN ρ o) :: f8 ρ r
section
variable {P:Program} [aX P] {bl bl':Nat→Option Nat} {M M':Nat→Prop} {w:World} {ρ τ:Nat→Nat}
theorem IRel.mono {v:Value} {x:AV} (h:IRel M w v x) (hM:∀b,M' b→M b):IRel M' w v x:=h.tr fun b hb _=>⟨fun h'=>hb (hM b h'),rfl⟩
theorem rI {v:Value} {x:AV} (h:cL bl M w v x) (hb:∀i,bl' (ρ i)=bl i) (hM:∀b,M' b→M b):cL bl' M' w v (jt ρ x):=by
 cases x with
 | ms id st off len =>
  simp only [jt,cL] at h ⊢
  rw [hb]
  exact h
 | mp id st row off =>
  simp only [jt,cL] at h ⊢
  rw [hb]
  exact h
 | mm id k =>
  simp only [jt,cL] at h ⊢
  rw [hb]
  exact h
 | _=>exact IRel.mono h hM
theorem nP {v:Value} {x:AV} (h:bA bl M w v x) (hb:∀i,bl' (ρ i)=bl i) (hM:∀b,M' b→M b):bA bl' M' w v (eD ρ x):=by
 cases x with
 | fn f caps =>
  obtain ⟨cs,h1,h2⟩:=h
  exact ⟨cs,h1,h2.mapRight fun _ _ hr=>rI hr hb hM⟩
 | _=>simp only [bA] at h;exact rI (ρ:=ρ) h hb hM
theorem rH {v:Value} {x:AV} (h:cZ bl M w v x) (hb:∀i,bl' (ρ i)=bl i) (hM:∀b,M' b→M b):cZ bl' M' w v (nQ ρ x):=by
 cases x with
 | agg cells =>
  obtain ⟨cs,h1,h2⟩:=h
  exact ⟨cs,h1,h2.mapRight fun _ _ hr=>nP hr hb hM⟩
 | _=>simp only [cZ] at h;exact nP (ρ:=ρ) h hb hM
theorem nU {v:Value} {x:AV} (h:aT bl M w v x) (hb:∀i,bl' (ρ i)=bl i) (hM:∀b,M' b→M b):aT bl' M' w v (i8 ρ x):=by
 cases x with
 | any=>trivial
 | tup vs =>
  obtain ⟨cs,h1,h2⟩:=h
  exact ⟨cs,h1,h2.mapRight fun _ _ hr=>rH hr hb hM⟩
 | _=>simp only [aT] at h;exact rH (ρ:=ρ) h hb hM
theorem J2 (o:ah):(fN ρ o).t=o.t:=by unfold fN;split<;>rfl
theorem qe (o:ah):(fN ρ o).st=o.st:=by unfold fN;split<;>rfl
theorem nT (o:ah):(fN ρ o).isRec=o.isRec:=by unfold fN;split<;>rfl
theorem eQ (h1:∀i,τ (ρ i)=i) (h2:∀i,ρ (τ i)=i):∀(σ:List (Nat×ah)) (i:Nat),ae (f8 ρ σ) i=(ae σ (τ i)).map (fN ρ)
 | [],i=>rfl
 | (k,o) :: r,i=>by
  simp only [f8,ae,eQ h1 h2 r i]
  by_cases h:ρ k=i
  ·rw [bz h,bz (by rw [← h,h1])];rfl
  ·rw [aV h,aV (fun hk=>h (by rw [hk,h2]))]
theorem BF {MF:Nat→Prop} {o:ah} {b:Nat} (h:gw bl M MF w o b) (hb:∀i,bl' (ρ i)=bl i) (hM:∀b,M' b→M b):gw bl' M' MF w (fN ρ o) b:=by
 rcases h with ⟨gk,c1,fr,h2,h3,h4,h5,h6,h7⟩ | hsp
 rotate_left
 ·have:fN ρ o=o:=by simp [fN,hsp.isRec]
  rw [this]
  exact .inr hsp
 refine .inl ⟨by unfold fN;split<;>exact gk,c1,fr,by rw [J2];exact h2,h3,h4,fun k r hr=>?_,?_,fun k q r x hr hx=>?_⟩
 ·rw [qe]
  unfold fN at hr
  split at hr
  ·simp only [cQ,cq] at hr
   obtain ⟨r0,h8,rfl⟩:=hr
   simpa using h5 k r0 h8
  ·exact h5 k r hr
 ·rw [qe]
  unfold fN
  split<;>simpa using h6
 ·rw [qe,nT]
  unfold fN at hr
  split at hr
  ·rename_i hrc
   simp only [cQ,cq] at hr
   obtain ⟨r0,h8,rfl⟩:=hr
   simp only [cQ,cq] at hx
   obtain ⟨x0,h9,rfl⟩:=hx
   obtain ⟨u,hu1,hu2⟩:=h7 k q r0 x0 h8 h9
   rw [hrc] at hu2 ⊢
   exact ⟨u,hu1,nP hu2 hb hM⟩
  ·rename_i hrc
   obtain ⟨u,hu1,hu2⟩:=h7 k q r x hr hx
   have hrc':o.isRec=false:=by simpa using hrc
   rw [hrc'] at hu2 ⊢
   exact ⟨u,hu1,IRel.mono hu2 hM⟩
theorem nS {MF:Nat→Prop} {σ:List (Nat×ah)} (h1:∀i,τ (ρ i)=i) (h2:∀i,ρ (τ i)=i) (h:sc bl M MF w (ae σ)) (hb:∀i,bl' (ρ i)=bl i) (hM:∀b,M' b→M b):sc bl' M' MF w (ae (f8 ρ σ)):=by
 have hs:∀{i o},ae (f8 ρ σ) i=some o→∃o0,ae σ (τ i)=some o0∧o=fN ρ o0:=fun {i o} hi=>by
  rw [eQ h1 h2] at hi
  simp only [cq] at hi
  obtain ⟨o0,h3,h4⟩:=hi
  exact ⟨o0,h3,h4.symm⟩
 have hbt:∀i,bl' i=bl (τ i):=fun i=>by rw [← hb,h2]
 refine ⟨fun i o hi=>?_,fun i i' o o' b hi hi' q q'=>?_⟩
 ·obtain ⟨o0,h3,rfl⟩:=hs hi
  rcases h.1 _ o0 h3 with hn | ⟨b,h4,h5⟩
  ·refine .inl ⟨?_,by rw [nT];exact hn.2.1,by rw [hbt];exact hn.2.2⟩
   unfold fN
   rw [hn.2.1]
   exact hn.1
  ·exact .inr ⟨b,by rw [hbt];exact h4,BF h5 hb hM⟩
 ·obtain ⟨o0,h3,_⟩:=hs hi
  obtain ⟨o1,h4,_⟩:=hs hi'
  have:=h.2 _ _ _ _ b h3 h4 (by rw [← hbt];exact q) (by rw [← hbt];exact q')
  rw [← h2 i,← h2 i',this]
theorem nR {MF:Nat→Prop} {σ:List (Nat×ah)} (h1:∀i,τ (ρ i)=i) (h2:∀i,ρ (τ i)=i) (hb:∀i,bl' (ρ i)=bl i) (b:Nat) (h:aY bl' MF (ae (f8 ρ σ)) b):aY bl MF (ae σ) b:=by
 rcases h with h | ⟨i,o,h3,h4⟩
 ·exact .inl h
 ·rw [eQ h1 h2] at h3
  simp only [cq] at h3
  obtain ⟨o0,h5,_⟩:=h3
  exact .inr ⟨_,o0,h5,by rw [← hb,h2];exact h4⟩
theorem BE {σ:List (Nat×ah)} (h1:∀i,τ (ρ i)=i) (h2:∀i,ρ (τ i)=i) (hb:∀i,bl' (ρ i)=bl i) (b:Nat) (h:gZ bl' (f8 ρ σ) b):gZ bl σ b:=by
 obtain ⟨i,o,h3,h4⟩:=h
 rw [eQ h1 h2] at h3
 simp only [cq] at h3
 obtain ⟨o0,h5,_⟩:=h3
 exact ⟨_,o0,h5,by rw [← hb,h2];exact h4⟩
theorem nv (x:AV):cG (jt ρ x)=(cG x).map ρ:=by cases x<;>rfl
theorem di {f g:AV→List Nat} {r:AV→AV} (h:∀x,f (r x)=(g x).map ρ):∀l:List AV,(l.map r).flatMap f=(l.flatMap g).map ρ
 | []=>rfl
 | x :: l=>by simp only [dP,r7,di h l,h,List.map_append]
theorem nu (x:AV):bU (eD ρ x)=(bU x).map ρ:=by
 cases x with
 | fn f caps=>exact di nv caps
 | _=>rfl
theorem zP (x:AV):fk (nQ ρ x)=(fk x).map ρ:=by
 cases x with
 | agg cells=>exact di nu cells
 | fn f caps=>exact di nv caps
 | _=>rfl
theorem zR (x:AV):aF (i8 ρ x)=(aF x).map ρ:=by
 cases x with
 | tup vs=>exact di zP vs
 | agg cells=>exact di nu cells
 | fn f caps=>exact di nv caps
 | _=>rfl
theorem zQ (o:ah):cU (fN ρ o)=(cU o).map ρ:=by
 unfold cU
 rw [nT]
 split
 ·rename_i h
  simp only [fN,h,fv]
  generalize o.rows=l
  induction l with
  | nil=>rfl
  | cons r l ih=>simp only [dP,r7,ih,List.map_append];congr 1;exact di nu r
 ·rfl
theorem rp:∀{σ:List (Nat×ah)} {p:Nat×ah},p∈f8 ρ σ→∃q∈σ,p=(ρ q.1,fN ρ q.2)
 | [],_,h=>by cases h
 | (i,o) :: r,p,h=>by
  simp only [f8,cj] at h
  rcases h with h | h
  ·exact ⟨(i,o),by simp,h⟩
  ·obtain ⟨q,h1,h2⟩:=rp h
   exact ⟨q,by simp [h1],h2⟩
theorem iQ.ren {r:AV} {σ:List (Nat×ah)} (h1:∀i,τ (ρ i)=i) (h2:∀i,ρ (τ i)=i) (h:iQ r σ):iQ (i8 ρ r) (f8 ρ σ):=by
 have key:∀{i},(ae σ i).isSome=true→(ae (f8 ρ σ) (ρ i)).isSome=true:=fun {i} hi=>by
  rw [eQ h1 h2,h1]
  simpa using hi
 refine ⟨fun i hi=>?_,fun p hp i hi=>?_⟩
 ·rw [zR,List.mem_map] at hi
  obtain ⟨j,h3,rfl⟩:=hi
  exact key (h.1 j h3)
 ·obtain ⟨q,h3,rfl⟩:=rp hp
  simp only [zQ,List.mem_map] at hi
  obtain ⟨j,h4,rfl⟩:=hi
  exact key (h.2 q h3 j h4)
theorem br.ren {f:FuncId} {args args2:List AV} {σ σ2:List (Nat×ah)} {Sb:Nat→Prop} {Post:AV→List (Nat×ah)→Prop} (h:br P f args σ Sb Post) (ρ τ:Nat→Nat) (h1:∀i,τ (ρ i)=i) (h2:∀i,ρ (τ i)=i)
  (ha:args2.map (i8 τ)=args) (hσ:f8 τ σ2=σ):br P f args2 σ2 (fun id=>Sb (τ id)) (fun r σ'=>∃r0 σ0,Post r0 σ0∧r=i8 ρ r0∧σ'=f8 ρ σ0):=by
 intro bl MF w cargs hTH hTW hH hMF hargs
 subst ha hσ
 have hb:∀i,(fun i=>bl (ρ i)) (τ i)=bl i:=fun i=>by simp only [h2]
 have hmut:∀b,aY (fun i=>bl (ρ i)) MF (ae (f8 τ σ2)) b→aY bl MF (ae σ2) b:=fun b hm=>nR h2 h1 hb b hm
 have hblk:∀b,gZ (fun i=>bl (ρ i)) (f8 τ σ2) b→gZ bl σ2 b:=fun b hm=>BE h2 h1 hb b hm
 refine (h (fun i=>bl (ρ i)) MF w cargs hTH (fun b hb hB=>hTW b hb (hmut b hB)) (nS h2 h1 hH hb hmut) hMF (hargs.mapRight fun _ _ hr=>nU hr hb hmut)).mono fun e w'=>?_
 rintro ⟨v,r,σ',bl',rfl,hp,hc,hH',hv,hst,hnew,hsb⟩
 have hb':∀i,(fun i=>bl' (τ i)) (ρ i)=bl' i:=fun i=>by simp only [h1]
 have hmut':∀b,aY (fun i=>bl' (τ i)) MF (ae (f8 ρ σ')) b→aY bl' MF (ae σ') b:=fun b hm=>nR h1 h2 hb' b hm
 refine ⟨v,i8 ρ r,f8 ρ σ',fun i=>bl' (τ i),rfl,⟨r,σ',hp,rfl,rfl⟩,hc.ren h1 h2,nS h1 h2 hH' hb' hmut',nU hv hb' hmut',?_,fun id o b hi hq=>?_,fun id hid=>?_⟩
 ·exact ⟨hst.size,fun b hlt hn=>hst.keep b hlt fun hh=>hn (hblk b hh),hst.shape,hst.os,hst.out⟩
 ·rw [eQ h1 h2] at hi
  simp only [cq] at hi
  obtain ⟨o0,h5,_⟩:=hi
  exact (hnew _ o0 b h5 hq).imp_right (hblk b)
 ·show bl' (τ id)=bl id
  rw [hsb _ hid]
  exact hb id
def jb (a b i:Nat):Nat:=if i=a then b else if i=b then a else i
theorem jp (a b i:Nat):jb a b (jb a b i)=i:=by
 unfold jb
 by_cases h1:i=a<;>by_cases h2:i=b<;>simp [h1,h2]<;>(try split)<;>simp_all
theorem br.fresh {f:FuncId} {args:List AV} {Sb:Nat→Prop} {id st off len:Nat} {o:ah} (h:br P f args [] Sb (fun r σ'=>r = .ms id st off len∧σ'=[(id,o)])) (ho:o.isRec=false) (hargs:∀x∈args,aF x=[]) (j:Nat) :
  br P f args [] (fun _=>False) (fun r σ'=>r = .ms j st off len∧σ'=[(j,o)]):=by
 have hren:∀x:AV,aF x=[]→i8 (jb id j) x=x:=by
  have hP:∀x:AV,cG x=[]→jt (jb id j) x=x:=fun x hx=>by cases x<;>first | rfl | (simp [cG] at hx)
  have hL:∀{f:AV→List Nat} {r:AV→AV},(∀x,f x=[]→r x=x)→∀l:List AV,l.flatMap f=[]→l.map r=l:=fun {f r} hh l=>by
   induction l with
   | nil=>exact fun _=>rfl
   | cons y l ih =>
    intro hl
    simp only [r7,List.append_eq_nil_iff] at hl
    simp only [dP,hh y hl.1,ih hl.2]
  have hC:∀x:AV,bU x=[]→eD (jb id j) x=x:=fun x hx=>by
   cases x with
   | fn f caps=>simp only [eD,hL hP caps hx]
   | _=>first | rfl | (simp [bU,cG] at hx)
  have hG:∀x:AV,fk x=[]→nQ (jb id j) x=x:=fun x hx=>by
   cases x with
   | agg cells=>simp only [nQ,hL hC cells hx]
   | fn f caps=>exact hC (.fn f caps) hx
   | _=>first | rfl | (simp [fk,bU,cG] at hx)
  intro x hx
  cases x with
  | tup vs=>simp only [i8,hL hG vs hx]
  | agg cells=>exact hG (.agg cells) hx
  | fn f caps=>exact hG (.fn f caps) hx
  | _=>first | rfl | (simp [aF,fk,bU,cG] at hx)
 have hmap:∀l:List AV,(∀x∈l,aF x=[])→l.map (i8 (jb id j))=l:=fun l=>by
  induction l with
  | nil=>exact fun _=>rfl
  | cons y l ih=>intro hl;simp only [dP,hren y (hl y (by simp)),ih fun x hx=>hl x (by simp [hx])]
 refine (h.ren (args2:=args) (σ2:=[]) (jb id j) (jb id j) (jp _ _) (jp _ _) (hmap args hargs) rfl).mono (fun _ hf=>hf.elim) ?_
 rintro r σ' ⟨r0,σ0,⟨rfl,rfl⟩,rfl,rfl⟩
 have hs:jb id j id=j:=by simp [jb]
 refine ⟨by simp only [i8,nQ,eD,jt,hs],?_⟩
 simp only [f8,hs,fN,ho]
 rfl
end
def NC (e:List (Nat×AV)):List (Nat×AV)→Prop
 | []=>True
 | (k,x) :: r=>get e k=x∧NC e r
def EC (e:List (Nat×ah)):List (Nat×ah)→Prop
 | []=>True
 | (k,x) :: r=>ae e k=some x∧EC e r
theorem uw {e:List (Nat×AV)}:∀{l:List (Nat×AV)},NC e l→∀p∈l,get e p.1=p.2
 | [],_,p,hp=>by cases hp
 | (k,x) :: r,h,p,hp=>by
  rcases cj.1 hp with rfl | hp
  ·exact h.1
  ·exact uw h.2 p hp
theorem ki {e:List (Nat×ah)}:∀{l:List (Nat×ah)},EC e l→∀p∈l,ae e p.1=some p.2
 | [],_,p,hp=>by cases hp
 | (k,x) :: r,h,p,hp=>by
  rcases cj.1 hp with rfl | hp
  ·exact h.1
  ·exact ki h.2 p hp
theorem Wk.of {s s':St} (h1:NC s.env s'.env) (h2:EC s.heap s'.heap):Wk s s':=Wk.le (uw h1) (ki h2)
theorem Wk.frzs:∀(fs:List Nat) (s:St),Wk s (Mw.frzs fs s)
 | [],s=>Wk.refl s
 | i :: r,s=>(Wk.frz s i).trans (Wk.frzs r (s.frz i))
def St.mknil (s:St) (k i st:Nat) (t:TypeId):St:=⟨(k,.ms i st 0 0) :: del (s.kill i).env k,(i,⟨t,st,[],false⟩) :: (s.kill i).heap⟩
theorem Wk.nil (s:St) (k i st:Nat) (t:TypeId) (hk:get s.env k = .nl) (hid:i<1000∨2000≤i):Wk s (s.mknil k i st t):=by
 intro c a w hs
 obtain ⟨bl,hs⟩:=hs.kill i
 obtain ⟨h1,h2⟩:=bV s i
 have hn:=hs.new0 (i:=i) (o:=⟨t,st,[],false⟩) h1 h2 hid rfl rfl
 have hk':get (s.kill i).env k = .nl:=by simp [St.kill,fh,hk,eC,mV,mG,mC,mP]
 refine ⟨_,hn.defers,hn.size,fun j=>?_,?_,hn.step,?_,hn.stab,hn.mf⟩
 all_goals
  have hheap:ae (s.mknil k i st t).heap=cI (ae (s.kill i).heap) i (some ⟨t,st,[],false⟩):=by
   funext j
   simp only [St.mknil,ae,cI]
   by_cases h:i=j
   ·rw [bz h,bz h.symm]
   ·rw [aV h,aV (Ne.symm h)]
 ·rw [hheap]
  have hj:=hn.env j
  simp only [St.mknil,get]
  by_cases h:k=j
  ·subst h
   rw [bz rfl]
   rw [hk'] at hj
   have hv:tv a k = .slice none 0 0:=by
    simp only [aT,cZ,bA,cL] at hj
    generalize tv a k=v at hj
    cases hj
    rfl
   exact .inl ⟨hv,rfl,rfl⟩
  ·rw [aV h,ig,aV (Ne.symm h)]
   exact hj
 ·rw [hheap]
  exact hn.heap
 ·rw [hheap]
  exact hn.own
def vA (r:AV) (σ:List (Nat×ah)):Bool:=(aF r).all (fun i=>(ae σ i).isSome)&&σ.all fun p=>(cU p.2).all fun i=>(ae σ i).isSome
theorem jP {r:AV} {σ:List (Nat×ah)} (h:vA r σ=true):iQ r σ:=by
 simp only [vA,dK,de] at h
 exact ⟨fun i hi=>h.1 i hi,fun p hp i hi=>h.2 p hp i hi⟩
theorem done {l:List iK} {Post:AV→List (Nat×ah)→Prop} {s:St} (fs:List Nat) (r:AV) (σ':List (Nat×ah)) (h1:jU l (frzs fs s)=some r) (h2:EC (frzs fs s).heap σ') (h3:vA r σ'=true) (h4:Post r σ'):qu l Post .ret s :=
 ⟨(fun _ h=>by cases h),s,Wk.refl s,fs,r,σ',h1,(fun i o hi=>ki h2 _ (fo hi)),jP h3,h4⟩
theorem H7 {l:List iK} {Post:AV→List (Nat×ah)→Prop} {s:St} (fs:List Nat) (r:AV) (σ':List (Nat×ah)) (h1:jU l (frzs fs s)=some r) (h2:EC (frzs fs s).heap σ') (h3:vA r σ'=true) (h4:Post r σ'):qu l Post .nrm s :=
 ⟨(fun _ h=>by cases h),s,Wk.refl s,fs,r,σ',h1,(fun i o hi=>ki h2 _ (fo hi)),jP h3,h4⟩
theorem Ls {l:List iK} {Post:AV→List (Nat×ah)→Prop} {s:St} (fs:List Nat) (r:AV) (σ':List (Nat×ah)) (h4:Post r σ') (h1:jU l (frzs fs s)=some r:=by simp only [go_sem]) (h2:EC (frzs fs s).heap σ':=by simp only [go_sem]) (h3:vA r σ'=true:=by exact rfl):qu l Post .ret s:=done fs r σ' h1 h2 h3 h4
theorem tY {l:List iK} {Post:AV→List (Nat×ah)→Prop} {s:St} (fs:List Nat) (r:AV) (σ':List (Nat×ah)) (h4:Post r σ') (h1:jU l (frzs fs s)=some r:=by simp only [go_sem]) (h2:EC (frzs fs s).heap σ':=by simp only [go_sem]) (h3:vA r σ'=true:=by exact rfl):qu l Post .nrm s:=H7 fs r σ' h1 h2 h3 h4
def ri (n:Int):List AV:=[.int .i64 n]
def ru (n:Int):List AV:=[.int .u8 n]
def rb (b:UInt8):List AV:=[.int .u8 b.toNat]
def rs (s:List UInt8):List AV:=[.str s]
def rt (b:Bool):List AV:=[.bool b]
theorem Ri (n:Int):ri n=[.int .i64 n]:=rfl
theorem Rl (n:Int):ru n=[.int .u8 n]:=rfl
theorem Rg (b:UInt8):rb b=[.int .u8 b.toNat]:=rfl
theorem Rj (s:List UInt8):rs s=[.str s]:=rfl
theorem Rk (b:Bool):rt b=[.bool b]:=rfl
section
variable {α:Type}
theorem mQ (id n st row:Nat) (t:TypeId) (f:α→List AV) (l:List α) (v:α) (hn:∀x,(f x).length=n) (hi:(f v).all fC=true) :
  lc id n st row 0 (some ⟨t,st,l.map f,false⟩) (some (f v))=if row<l.length then some (.put id ⟨t,st,(l.set row v).map f,false⟩) else none:=by
 rw [FG _ _ _ _ _ _ _ (by simpa using fun x _=>hn x)]
 simp only [hn,hi,fz,true_and,List.map_set]
theorem Kb (id st row:Nat) (t:TypeId) (l:List Int) (v:Int):lc id 1 st row 0 (some ⟨t,st,l.map ri,false⟩) (some [.int .i64 v])=if row<l.length then some (.put id ⟨t,st,(l.set row v).map ri,false⟩) else none:=mQ id 1 st row t ri l v (fun _=>rfl) rfl
theorem Kf (id st row:Nat) (t:TypeId) (l:List Int) (v:Int):lc id 1 st row 0 (some ⟨t,st,l.map ru,false⟩) (some [.int .u8 v])=if row<l.length then some (.put id ⟨t,st,(l.set row v).map ru,false⟩) else none:=mQ id 1 st row t ru l v (fun _=>rfl) rfl
theorem Kc (id st row:Nat) (t:TypeId) (l:List (List UInt8)) (v:List UInt8):lc id 1 st row 0 (some ⟨t,st,l.map rs,false⟩) (some [.str v])=if row<l.length then some (.put id ⟨t,st,(l.set row v).map rs,false⟩) else none:=mQ id 1 st row t rs l v (fun _=>rfl) rfl
theorem Ke (id st row:Nat) (t:TypeId) (l:List Bool) (v:Bool):lc id 1 st row 0 (some ⟨t,st,l.map rt,false⟩) (some [.bool v])=if row<l.length then some (.put id ⟨t,st,(l.set row v).map rt,false⟩) else none:=mQ id 1 st row t rt l v (fun _=>rfl) rfl
theorem aA (id:Nat) (t:TypeId) (st len:Nat) (f:α→List AV) (l:List α) (ys:List (List AV)) (hl:l.length=len):vl id t st 0 len ys (some ⟨t,st,l.map f,false⟩) =
  if ys.length<137438953472∧len<137438953472∧(id<1000∨2000≤id) then some (.ms id st 0 (len+ys.length),.reb id ⟨t,st,l.map f++ys,false⟩) else none:=fP id t st len _ ys (by simpa using hl)
theorem BI (st:Nat) (t:TypeId) (r:List AV):BH st 0 1 (some ⟨t,st,[r],false⟩)=some [r]:=wY st 1 t _ rfl
end
theorem wi {n:Int} (h0:-9223372036854775808≤n) (h1:n<9223372036854775808):IntKind.i64.wrap n=n:=by
 unfold IntKind.wrap
 show (if (true&&decide (n % 18446744073709551616≥9223372036854775808))=true then n % 18446744073709551616 - 18446744073709551616 else n % 18446744073709551616)=n
 by_cases h:n % 18446744073709551616≥9223372036854775808
 ·rw [aI h];simp only [jc,fv];omega
 ·rw [az h];simp only [Bool.and_false,rZ,j8];omega
theorem yE (d:Nat) (t:TypeId) (st:Nat) (c:Prop) [Decidable c] (x:Option (List (List AV))):sq d t st (if c then x else none)=if c then sq d t st x else none:=by split<;>rfl
theorem yD (d:Nat) (t:TypeId) (n:Nat) (c:Prop) [Decidable c] (x:Option (List AV)):Df d t n (if c then x else none)=if c then Df d t n x else none:=by split<;>rfl
theorem Bq {α β:Type} (f:α→β) (c:Prop) [Decidable c] (x:Option α):Option.map f (if c then x else none)=if c then Option.map f x else none:=by split<;>rfl
attribute [go_sem] yE yD Bq
attribute [go_sem] NC EC vA Ri Rl Rg Rj Rk Kb Kf Kc Ke BI gX
theorem Wk.nls (s:St) (k st:Nat) (hk:get s.env k = .nl):Wk s ⟨(k,.sl st []) :: s.env,s.heap⟩:=by
 rintro c a w ⟨bl,hs⟩
 refine ⟨bl,hs.defers,hs.size,fun j=>?_,hs.heap,hs.step,hs.own,hs.stab,hs.mf⟩
 simp only [get]
 split
 ·rename_i h
  subst h
  have:=hs.env k
  rw [hk] at this
  rw [this.nl]
  exact IRel.nls st
 ·exact hs.env j
theorem IRel.nl_sl {M:Nat→Prop} {w:World} {v:Value} (h:IRel M w v .nl) (st:Nat):IRel M w v (.sl st []):=by
 cases h
 exact .nls st
def EO:List AV→List AV→Prop
 | [],[]=>True
 | x :: l,y :: m=>(x=y∨(x = .nl∧∃st,y = .sl st []))∧EO l m
 | _,_=>False
theorem uD:∀{l m:List AV},EO l m→m.length=l.length
 | [],[],_=>rfl
 | _ :: _,_ :: _,h=>by simp [uD h.2]
 | [],_ :: _,h=>h.elim
 | _ :: _,[],h=>h.elim
theorem uC:∀{l m:List AV},EO l m→∀{j:Nat} {y:AV},m[j]? = some y→∃x,l[j]? = some x∧(x=y∨(x = .nl∧∃st,y = .sl st []))
 | [],[],_,j,y,hy=>by simp at hy
 | x :: l,z :: m,h,0,y,hy=>by simp at hy;subst hy;exact ⟨x,rfl,h.1⟩
 | x :: l,z :: m,h,j+1,y,hy=>by simpa using uC h.2 (j:=j) (by simpa using hy)
 | [],_ :: _,h,_,_,_=>h.elim
 | _ :: _,[],h,_,_,_=>h.elim
theorem Nw {l:List iK} {Post:AV→List (Nat×ah)→Prop} {s s1:St} (hw:Wk s s1) (fs:List Nat) (r:AV) (σ':List (Nat×ah)) (h1:jU l (frzs fs s1)=some r) (h2:EC (frzs fs s1).heap σ') (h3:vA r σ'=true) (h4:Post r σ'):qu l Post .ret s :=
 ⟨(fun _ h=>by cases h),s1,hw,fs,r,σ',h1,(fun i o hi=>ki h2 _ (fo hi)),jP h3,h4⟩
theorem eT {l:List iK} {r:AV} {s s1:St} (hw:Wk s s1) (fs:List Nat) (h:jU l (frzs fs s1)=some r) (h2:aF r=[]):mU l r .ret s:=⟨(fun _ h=>by cases h),s1,hw,fs,h,h2⟩
inductive Ty where
 | bool
 | int (k:IntKind)
 | str
 | sl (e:Ty)
 | nil
 | cons (f:Ty) (r:Ty)
 deriving Inhabited
def Ty.n:Ty→Nat
 | .nil=>0
 | .cons f r=>f.n+r.n
 | _=>1
def Ty.ok:Ty→List AV→Prop
 | .bool,xs=>∃b,xs=[.bool b]
 | .int k,xs=>∃n,xs=[.int k n]∧(Lit.int k n).wf=true
 | .str,xs=>∃s,xs=[.str s]∧s.length≤maxLen
 | .sl e,xs=>xs=[.nl]∨∃rows,xs=[.sl e.n rows]∧rows.length≤maxLen∧∀r∈rows,e.ok r
 | .nil,xs=>xs=[]
 | .cons f r,xs=>∃ys zs,xs=ys++zs∧f.ok ys∧r.ok zs
theorem Ty.ok_len:∀(τ:Ty) (xs:List AV),τ.ok xs→xs.length=τ.n
 | .bool,xs,h=>by obtain ⟨b,rfl⟩:=h;rfl
 | .int k,xs,h=>by obtain ⟨n,rfl,_⟩:=h;rfl
 | .str,xs,h=>by obtain ⟨s,rfl,_⟩:=h;rfl
 | .sl e,xs,h=>by rcases h with rfl | ⟨rows,rfl,_⟩<;>rfl
 | .nil,xs,h=>by subst h;rfl
 | .cons f r,xs,h=>by
  obtain ⟨ys,zs,rfl,h1,h2⟩:=h
  simp only [ol,Ty.n,Ty.ok_len f ys h1,Ty.ok_len r zs h2]
def od (g:TypeId→Option Ty) (P:Program) (off:Nat):List Field→Option Ty
 | []=>some .nil
 | f :: r=>if f.offset=off then (match g f.type,od g P (off+P.cellsOf f.type) r with
  | some a,some b=>if a.n=P.cellsOf f.type then some (.cons a b) else none
  | _,_=>none) else none
def iO (P:Program):Nat→TypeId→Option Ty
 | 0,_=>none
 | f+1,t=>match P.underlying t with
  | some .bool=>some .bool
  | some (.int k)=>some (.int k)
  | some .string=>some .str
  | some (.slice e)=>match iO P f e with
   | some a=>if a.n=P.cellsOf e∧0<a.n then some (.sl a) else none
   | none=>none
  | some (.struct fs)=>match od (iO P f) P 0 fs.toList with
   | some a=>if a.n=P.cellsOf t then some a else none
   | none=>none
  | _=>none
theorem ro {α β:Type} {g:α→Option β}:∀{l:List α} {r:List β},l.mapM g=some r→r.length=l.length∧∀(i:Nat) (x:α),l[i]? = some x→∃y,r[i]? = some y∧g x=some y
 | [],r,h=>by
  simp only [List.mapM_nil,pure,bO] at h
  subst h
  exact ⟨rfl,fun i x hx=>by simp at hx⟩
 | a :: l,r,h=>by
  simp only [List.mapM_cons,bind,jd,pure,bO] at h
  obtain ⟨y,h1,ys,h2,rfl⟩:=h
  obtain ⟨h3,h4⟩:=ro h2
  refine ⟨by simp [h3],fun i x hx=>?_⟩
  cases i with
  | zero =>
   simp only [List.getElem?_cons_zero,bO] at hx
   subst hx
   exact ⟨y,rfl,h1⟩
  | succ i=>exact h4 i x (by simpa using hx)
theorem jW {β:Type} {g:Nat→Option β} {n:Nat} {r:List β} (h:(List.range n).mapM g=some r):r.length=n∧∀i,i<n→∃y,r[i]? = some y∧g i=some y:=by
 obtain ⟨h1,h2⟩:=ro h
 exact ⟨by simpa using h1,fun i hi=>h2 i i (by simp [hi])⟩
theorem oS {w:World} {base:Nat} {a:Addr} {n:Nat} {cs:List Value} (h:w.cells? base a n=some cs):cs.length=n∧∀j,j<n→∃y,cs[j]? = some y∧w.cell? (a.add j)=some y:=by
 unfold World.cells? at h
 split at h
 ·exact jW h
 ·cases h
theorem m7 {w:World} {a:Addr} {v:Value} (h:w.cell? a=some v):a.spot=none∧∃c t fr,w.heap[a.block]? = some (.cells c t fr)∧c[a.off]? = some v:=by
 unfold World.cell? at h
 split at h
 case h_2=>cases h
 rename_i c t fr hb
 split at h
 ·cases h
 ·rename_i hs
  exact ⟨by simpa using hs,c,t,fr,hb,h⟩
theorem aK.split {α β:Type} {R:α→β→Prop}:∀{l l':List α} {m m':List β},l.length=m.length→aK R l m→aK R l' m'→aK R (l++l') (m++m'):=fun _ h h'=>h.append h'
section
variable {H:Type} {enc:TypeId×Value→H} {P:Program} {w:World} {base:Nat} {sp:Nat→Bool} {held:Bool}
theorem o5 {g:TypeId→Option Ty} {r:TypeId→List Value→Option (DataW H×List MemPlace)} (ih:∀t cs τ x,g t=some τ→r t cs=some x→∃xs,τ.ok xs∧aK (IRel (fun _=>False) w) cs xs) (cs:List Value) :
  ∀(fs:List Field) (off:Nat) (τ:Ty) (xs:List (DataW H×List MemPlace)),od g P off fs=some τ→(fs.mapM fun f=>r f.type ((cs.drop f.offset).take (P.cellsOf f.type)))=some xs→off+τ.n=cs.length →
   ∃ys,τ.ok ys∧aK (IRel (fun _=>False) w) (cs.drop off) ys
 | [],off,τ,xs,ht,_,hn=>by
  simp only [od,bO] at ht
  subst ht
  refine ⟨[],rfl,?_⟩
  rw [List.drop_eq_nil_of_le (by simp [Ty.n] at hn;omega)]
  trivial
 | f :: fs,off,τ,xs,ht,hm,hn=>by
  simp only [od] at ht
  split at ht
  case isFalse=>cases ht
  rename_i hoff
  split at ht
  case h_2=>cases ht
  rename_i a b ha hb
  split at ht
  case isFalse=>cases ht
  rename_i hsz
  cases ht
  simp only [List.mapM_cons,bind,jd,pure,bO] at hm
  obtain ⟨y,h1,zs,h2,rfl⟩:=hm
  obtain ⟨xs1,h3,h4⟩:=ih _ _ _ _ ha h1
  simp only [Ty.n] at hn
  obtain ⟨xs2,h5,h6⟩:=o5 ih cs fs (off+P.cellsOf f.type) b zs hb h2 (by omega)
  refine ⟨xs1++xs2,⟨xs1,xs2,rfl,h3,h5⟩,?_⟩
  rw [hoff] at h4
  have:cs.drop off=(cs.drop off).take (P.cellsOf f.type)++cs.drop (off+P.cellsOf f.type):=by
   rw [← List.drop_drop,List.take_append_drop]
  rw [this]
  exact h4.append h6
theorem FL:∀(fuel f:Nat) (t:TypeId) (cs:List Value) (τ:Ty) (x:DataW H×List MemPlace),iO P f t=some τ→DataW.trod enc P w base sp held fuel t cs=some x→∃xs,τ.ok xs∧aK (IRel (fun _=>False) w) cs xs:=by
 intro fuel
 induction fuel with
 | zero=>intro f t cs τ x _ h;simp [DataW.trod] at h
 | succ fuel ih =>
  intro f t cs τ x ht h
  cases f with
  | zero=>simp [iO] at ht
  | succ f =>
   simp only [iO] at ht
   split at ht
   case h_1 hu =>
    cases ht
    unfold DataW.trod at h
    split at h<;>rename_i heq<;>first | (rw [hu] at heq;cases heq;done) | (cases h;done) | skip
    rename_i b
    exact ⟨[.bool b],⟨b,rfl⟩,.bool b,trivial⟩
   case h_2 k hu =>
    cases ht
    unfold DataW.trod at h
    split at h<;>rename_i heq<;>first | (rw [hu] at heq;cases heq;done) | (cases h;done) | skip
    rename_i k' k1 n
    rw [hu] at heq
    cases heq
    split at h
    ·rename_i hk
     obtain ⟨rfl,hwf⟩:=hk
     exact ⟨[.int _ n],⟨n,rfl,hwf⟩,.int _ n,trivial⟩
    ·cases h
   case h_3 hu =>
    cases ht
    unfold DataW.trod at h
    split at h<;>rename_i heq<;>first | (rw [hu] at heq;cases heq;done) | (cases h;done) | skip
    rename_i s
    split at h
    ·rename_i hs
     refine ⟨[.str s.data.toList],⟨_,rfl,by simpa using hs⟩,?_,trivial⟩
     have:=IRel.str (M:=fun _=>False) (w:=w) s.data.toList
     simpa using this
    ·cases h
   case h_4 e hu =>
    split at ht
    case h_2=>cases ht
    rename_i a ha
    split at ht
    case isFalse=>cases ht
    rename_i hsz
    cases ht
    unfold DataW.trod at h
    split at h<;>rename_i heq<;>first | (rw [hu] at heq;cases heq;done) | (cases h;done) | skip
    ·exact ⟨[.nl],.inl rfl,.nl,trivial⟩
    ·rename_i e1 ad len cap
     rw [hu] at heq
     cases heq
     simp only at h
     split at h
     case isFalse=>cases h
     rename_i hcap
     simp only [jd] at h
     obtain ⟨elems,hel,_⟩:=h
     obtain ⟨hlen,ae⟩:=jW hel
     have hrow:∀i,i<len→∃row xs,w.cells? base (ad.add (i * P.cellsOf e)) (P.cellsOf e)=some row∧a.ok xs∧aK (IRel (fun _=>False) w) row xs:=fun i hi=>by
      obtain ⟨y,_,h2⟩:=ae i hi
      simp only [jd] at h2
      obtain ⟨row,h3,h4⟩:=h2
      obtain ⟨xs,h5,h6⟩:=ih f e row a y ha h4
      exact ⟨row,xs,h3,h5,h6⟩
     by_cases h0:len=0
     ·subst h0
      exact ⟨[.sl a.n []],.inr ⟨[],rfl,cC _,fun r hr=>by cases hr⟩,.sl0 _ _ _,trivial⟩
     have hn:0<P.cellsOf e:=by omega
     have hcell:∀i j,i<len→j<P.cellsOf e→∀row,w.cells? base (ad.add (i * P.cellsOf e)) (P.cellsOf e)=some row→∃y,row[j]? = some y∧w.cell? ((ad.add (i * P.cellsOf e)).add j)=some y:=fun i j hi hj row hr=>(oS hr).2 j hj
     obtain ⟨row0,xs0,r1,_,_⟩:=hrow 0 (by omega)
     obtain ⟨y0,_,c0⟩:=hcell 0 0 (by omega) hn row0 r1
     obtain ⟨hspot,c,tt,fr,hb,_⟩:=m7 c0
     have hspot':ad.spot=none:=by simpa [Addr.add] using hspot
     have hblk:∀(q:Addr) m,(q.add m).block=q.block:=fun q m=>by unfold Addr.add;split<;>rfl
     have hoff:∀(q:Addr) m,(q.add m).off=q.off+m:=fun q m=>by
      unfold Addr.add
      split
      ·rename_i hm;simp [hm]
      ·rfl
     rw [hblk,hblk] at hb
     have hval:∀i j,i<len→j<P.cellsOf e→∀row,w.cells? base (ad.add (i * P.cellsOf e)) (P.cellsOf e)=some row→∃y,row[j]? = some y∧c[ad.off+i * P.cellsOf e+j]? = some y:=fun i j hi hj row hr=>by
      obtain ⟨y,g1,g2⟩:=hcell i j hi hj row hr
      obtain ⟨_,c',t',fr',g3,g4⟩:=m7 g2
      rw [hblk,hblk,hb] at g3
      cases g3
      rw [hoff,hoff] at g4
      exact ⟨y,g1,g4⟩
     let R:Nat→List Value:=fun i=>if hi:i<len then Classical.choose (hrow i hi) else []
     let X:Nat→List AV:=fun i=>if hi:i<len then Classical.choose (Classical.choose_spec (hrow i hi)) else []
     have hRX:∀i,i<len→w.cells? base (ad.add (i * P.cellsOf e)) (P.cellsOf e)=some (R i)∧a.ok (X i)∧aK (IRel (fun _=>False) w) (R i) (X i):=fun i hi=>by
      have:=Classical.choose_spec (Classical.choose_spec (hrow i hi))
      simp only [R,X,hi,dif_pos]
      exact this
     have hrows:∀(i:Nat) (r:List AV),((List.range len).map X)[i]? = some r→i<len∧r=X i:=fun i r hr=>by
      simp only [cQ,cq] at hr
      obtain ⟨j,h1,h2⟩:=hr
      have h3:=dL.1 h1
      obtain ⟨h4,h5⟩:=h3
      simp at h4 h5
      subst h5
      exact ⟨h4,h2.symm⟩
     refine ⟨[.sl a.n ((List.range len).map X)],.inr ⟨_,rfl,by simp;omega,fun r hr=>?_⟩,?_,trivial⟩
     ·obtain ⟨i,hi,rfl⟩:=List.mem_map.1 hr
      exact (hRX i (by simpa using hi)).2.1
     ·obtain ⟨bk,of,so⟩:=ad
      simp only at hspot'
      subst hspot'
      have hll:((List.range len).map X).length=len:=by simp
      have key:=IRel.sl (M:=fun _=>False) (w:=w) bk of cap a.n c tt fr ((List.range len).map X) (fun i j=>(R i).getD j undef) hb (fun h=>h) (by rw [hll];omega)
       (fun i r hr=>by obtain ⟨h1,rfl⟩:=hrows i r hr;exact Ty.ok_len _ _ (hRX i h1).2.1)
       (fun i j hi hj=>by
        rw [hll] at hi
        rw [hsz.1] at hj ⊢
        obtain ⟨y,g1,g2⟩:=hval i j hi hj _ (hRX i hi).1
        rw [g2,List.getD_eq_getElem?_getD,g1]
        rfl)
       (fun i j r x hr hx=>by
        obtain ⟨h1,rfl⟩:=hrows i r hr
        obtain ⟨y,g1,g2⟩:=(hRX i h1).2.2.get hx
        rw [List.getD_eq_getElem?_getD,g1]
        exact g2)
      rw [hll] at key
      exact key
   case h_5 fs hu =>
    split at ht
    case h_2=>cases ht
    rename_i a ha
    split at ht
    case isFalse=>cases ht
    rename_i hsz
    cases ht
    unfold DataW.trod at h
    split at h<;>rename_i heq<;>first | (rw [hu] at heq;cases heq;done) | (cases h;done) | skip
    ·rename_i cs1 fs1
     rw [hu] at heq
     cases heq
     split at h
     case isFalse=>cases h
     rename_i hcl
     simp only [cq] at h
     obtain ⟨xs,h1,_⟩:=h
     have:=o5 (P:=P) (g:=iO P f) (r:=fun t cs=>DataW.trod enc P w base sp held fuel t cs) (fun t cs τ x=>ih f t cs τ x) _ _ 0 _ xs ha h1 (by omega)
     simpa using this
   case h_6=>cases ht
end
open Go.ChangeShapes Go.WideShapes Go.ChangeAt Go.RowKit
section
variable {H:Type} {enc:TypeId×Value→H} {P:Program} [aX P]
structure qz (w w':World):Prop where
 size:w.heap.size≤w'.heap.size
 old:∀b,b<w.heap.size→w'.heap[b]? = w.heap[b]?
 os:w'.os=w.os
 out:w'.output=w.output
theorem IRel.toV {bl:Nat→Option Nat} {M:Nat→Prop} {w:World} {v:Value} {x:AV} (h:IRel M w v x):aT bl M w v x:=h.toC.toG.toV
theorem qz.frame {w w':World} (h:qz w w') (may:MemPlace→Prop):w.keptBut w' may:=by
 refine ⟨h.os,h.out,fun i hi=>?_⟩
 rw [h.old i hi]
 cases ho:w.heap[i]? with
 | none=>rfl
 | some o =>
  cases o with
  | cells c t fr=>exact ⟨rfl,rfl,rfl,fun _ _=>rfl⟩
  | map es clock=>exact .inr ⟨rfl,rfl⟩
  | _=>rfl
theorem qz.frozen {w w':World} (h:qz w w') {a:Addr} (ha:a.block<w.heap.size):w'.frozen? a=w.frozen? a:=World.frozen?_of_block (w:=w) (h.old a.block ha)
theorem qz.same {w w':World} (h:qz w w') {p:MemPlace} (hp:p.block<w.heap.size):w.sameAt w' p:=by
 cases p with
 | cell b off=>exact World.cell?_of_block (w:=w) (h.old b hp)
 | map b=>exact h.old b hp
theorem jG (hl:laidOutB P=true) {W W':World} {sp:Nat→Bool}:∀{ts:List TypeId} {vs:List Value} {ds:List (DataW H)} {ps:List MemPlace},(∀t∈ts,P.readableRec t=true∧t<P.types.size) →
  DataW.TrodAll enc P W 0 (fun _=>true) true ts vs ds ps→(∀p∈ps,W.sameAt W' p)→(∀p∈ps,sp p.block=true)→DataW.TrodAll enc P W' 0 sp true ts vs ds ps
 | [],[],[],ps,_,h,_,_=>h
 | t :: ts,v :: vs,d :: ds,ps,hr,h,h1,h2=>by
  obtain ⟨p,q,h3,h4,rfl⟩:=h
  exact ⟨p,q,WideElems.Trod_stays hl (hr t (by simp)).1 (hr t (by simp)).2 h3 (fun x hx=>h1 x (by simp [hx])) (fun x hx=>h2 x (by simp [hx])),
   jG hl (fun t ht=>hr t (by simp [ht])) h4 (fun x hx=>h1 x (by simp [hx])) (fun x hx=>h2 x (by simp [hx])),rfl⟩
 | [],_ :: _,_,_,_,h,_,_=>h.elim
 | [],[],_ :: _,_,_,h,_,_=>h.elim
 | _ :: _,[],_,_,_,h,_,_=>h.elim
 | _ :: _,_ :: _,[],_,_,h,_,_=>h.elim
theorem Au {f:Func} {s:ChangeSpec} {apart fresh handsOn again:Bool} {W W':World} {args:Array Value} {ds gs:List (DataW H)} {before:List MemPlace} {tb:TypeId} (hl:laidOutB P=true)
  (hr:∀t∈f.params.toList,P.readableRec t=true∧t<P.types.size) (hv:s.vars=[]) (hfn:(s.fn H (ds++gs)).results=[.lit (.bool true)]) (hfa:(s.fn H (ds++gs)).args=ds) (hfv:(s.fn H (ds++gs)).vars=[])
  (hrt:f.resultTypes = #[tb]) (htb:P.underlying tb=some .bool) (hW:DataW.Whole enc P f.params.toList s.vars apart W args.toList ds gs before) (hk:qz W W') :
  s.post enc P f apart fresh handsOn again W args (.bool true) W':=by
 have hlt:=hW.lt
 have hW0:=hW
 obtain ⟨p,q,hA,hV,rfl,hz,hn⟩:=hW0
 rw [hv] at hV
 obtain ⟨rfl,rfl⟩:=trodVars_none hV
 rw [qn] at *
 have hsame:∀x∈p,W.sameAt W' x:=fun x hx=>hk.same (by simpa using hlt x hx)
 have hargs:∀sp:Nat→Bool,(∀x∈p,sp x.block=true)→DataW.TrodAll enc P W' 0 sp true f.params.toList args.toList ds p:=fun sp hsp=>jG hl hr hA hsame hsp
 have hres:∀(b:Nat) (sp:Nat→Bool) (hd:Bool),DataW.TrodAll enc P W' b sp hd f.resultTypes.toList ((Value.bool true).resultList f.resultTypes.size) [.lit (.bool true)] []:=fun b sp hd=>by
  rw [hrt]
  exact trodAll_cons_mk (shut_bool htb _) trodAll_mk0
 have hvars:∀sp:Nat→Bool,DataW.TrodVars enc P W' sp s.vars [] []:=fun sp=>by rw [hv];rfl
 refine ⟨ds,[],p,[],p,[],by simpa using hW,by rw [qn,hfn];exact hres _ _ _,by rw [qn,hfa];exact hargs _ (fun x hx=>by simpa using hlt x (by simpa using hx)),by rw [qn,hfv];exact hvars _,hk.frame _,fun _=>?_⟩
 refine ⟨ok_one hrt rfl (okWide_bool_mk htb _),[.lit (.bool true)]++ds,[],p,⟨[]++p,[],trodAll_append (hargs _ (fun _ _=>rfl)) (hres _ _ _),hvars _,by simp,?_,?_⟩,fun x hx _=>hx⟩
 ·intro b off hp
  have hb:b<W.heap.size:=hlt (.cell b off) (by simpa using hp)
  have:=hz b off (by simpa using hp)
  rw [hk.frozen (a:=⟨b,off,none⟩) hb]
  exact this
 ·intro ha
  simpa using hn ha
end
def Ty.isRec:Ty→Bool
 | .nil=>true
 | .cons _ _=>true
 | _=>false
def Ty.okV (τ:Ty) (x:AV):Prop:=match τ.isRec with
 | true=>∃xs,x = .agg xs∧τ.ok xs
 | false=>τ.ok [x]
section
variable {H:Type} {enc:TypeId×Value→H} {P:Program} [aX P] {w:World} {base:Nat} {sp:Nat→Bool} {held:Bool}
theorem tz {g:TypeId→Option Ty}:∀{fs:List Field} {off:Nat} {τ:Ty},od g P off fs=some τ→τ.isRec=true
 | [],off,τ,h=>by simp only [od,bO] at h;subst h;rfl
 | f :: fs,off,τ,h=>by
  simp only [od] at h
  split at h
  case isFalse=>cases h
  split at h
  case h_2=>cases h
  split at h
  case isFalse=>cases h
  cases h
  rfl
theorem rD {f:FuncId} {args:List AV} {r:Bool} (hp:aj P f args (.bool r)) {w:World} {cargs:List Value} (hT:(aX.T P).H w) (ha:aK (aT (fun _=>none) (fun _=>False) w) cargs args) :
  Calls P f cargs.toArray w fun e w'=>e = .returned (.bool r)∧qz w w':=by
 have hM:aY (fun _=>none) (fun _=>False) (ae [])=fun _=>False:=by
  funext b
  apply propext
  constructor
  ·rintro (h | ⟨i,o,h,_⟩)
   ·exact h
   ·simp [ae] at h
  ·exact False.elim
 refine (hp (fun _=>none) (fun _=>False) w cargs hT (fun _ _ hm=>hm.elim id fun ⟨_,_,hi,_⟩=>by simp [ae] at hi) ⟨fun i o h=>by simp [ae] at h,fun i _ o _ _ h=>by simp [ae] at h⟩ (fun _ h=>h.elim) (by rw [hM];exact ha)).mono fun e w'=>?_
 rintro ⟨v,r',σ',bl',rfl,⟨rfl,rfl⟩,_,_,hv,hst,_,_⟩
 have hv':=hv.bool
 subst hv'
 exact ⟨rfl,hst.size,fun b hb=>hst.keep b hb (fun ⟨i,o,h,_⟩=>by simp [ae] at h),hst.os,hst.out⟩
end
def fw:List (Nat×Nat)→Nat→Nat
 | [],i=>i
 | (a,b) :: r,i=>fw r (jb a b i)
def bw:List (Nat×Nat)→Nat→Nat
 | [],i=>i
 | (a,b) :: r,i=>jb a b (bw r i)
theorem qR:∀(ps:List (Nat×Nat)) (i:Nat),bw ps (fw ps i)=i
 | [],_=>rfl
 | (a,b) :: r,i=>by simp only [fw,bw,qR r,jp]
theorem ue:∀(ps:List (Nat×Nat)) (i:Nat),fw ps (bw ps i)=i
 | [],_=>rfl
 | (a,b) :: r,i=>by simp only [fw,bw,jp,ue r]
def i4:List Nat→List (Nat×AV)→List (Nat×AV)
 | [],e=>e
 | k :: ks,e=>kX k (i4 ks e)
def iH:List Nat→List (Nat×ah)→List (Nat×ah)
 | [],e=>e
 | k :: ks,e=>kY k (iH ks e)
theorem wK (e:List (Nat×AV)):i4 [] e=e:=rfl
theorem s7 (k:Nat) (ks:List Nat) (e:List (Nat×AV)):i4 (k :: ks) e=kX k (i4 ks e):=rfl
theorem wL (e:List (Nat×ah)):iH [] e=e:=rfl
theorem s8 (k:Nat) (ks:List Nat) (e:List (Nat×ah)):iH (k :: ks) e=kY k (iH ks e):=rfl
attribute [go_sem] wK s7 wL s8
theorem zW (a b:Bool) (x:AV) (p:AV→Bool) (hp:p .any=false) (hx:p x=a):(if p (if b=true then .any else x)=true then AV.any else (if b=true then .any else x))=if (a||b)=true then .any else x:=by
 cases b<;>cases a<;>simp_all
theorem JX (k:Nat) (ks:List Nat) (x:AV):eC k (iI ks x)=iI (k :: ks) x:=by
 have:=zW (mV k x) (ks.any fun i=>mV i x) x (mV k) rfl rfl
 exact this
theorem JP (k:Nat) (ks:List Nat) (x:AV):bW k (kq ks x)=kq (k :: ks) x:=by
 have:=zW (mC k x) (ks.any fun i=>mC i x) x (mC k) rfl rfl
 exact this
theorem JU (k:Nat) (ks:List Nat) (o:ah):cH k (dT ks o)=dT (k :: ks) o:=by
 unfold cH dT
 by_cases h:o.isRec=true
 ·simp only [h,fv,List.map_map]
  congr 1
  funext
  apply List.map_congr_left
  intro r _
  simp only [Function.comp,List.map_map]
  apply List.map_congr_left
  intro x _
  exact JP k ks x
  rw [bz h]
 ·simp [h]
theorem kO (k:Nat):∀(ks:List Nat) (e:List (Nat×AV)),get (i4 ks e) k=iI ks (get e k)
 | [],e=>by simp [i4,iI]
 | i :: ks,e=>by rw [i4,fh,kO k ks,JX]
theorem jS (k:Nat):∀(ks:List Nat) (e:List (Nat×ah)),ae (iH ks e) k=(ae e k).map (dT ks)
 | [],e=>by
  have:dT []=id:=by
   funext o
   unfold dT kq
   simp
  simp [iH,this]
 | i :: ks,e=>by
  rw [iH,dH,jS k ks,Option.map_map]
  congr 1
  funext o
  exact JU i ks o
theorem rd (j:Nat):∀(a b:List (Nat×ah)),ae (a++b) j=match ae a j with
  | some o=>some o
  | none=>ae b j
 | [],b=>rfl
 | (k,o) :: r,b=>by
  simp only [r6,ae]
  split
  ·rfl
  ·exact rd j r b
section
variable {P:Program} [aX P]
theorem bt {f:FuncId} {args:List AV} {σ0 σ1:List (Nat×ah)} {Sb:Nat→Prop} {r1:AV} {d:Option Nat} {s:St} {K:St→Prop}
  (h:br P f args σ0 Sb (fun r σ'=>r=r1∧σ'=σ1)) (ks:List Nat)
  (hin:∀p∈σ0,ae s.heap p.1=some p.2)
  (hout:∀p∈σ1,(Sb p.1∧(ae σ0 p.1).isSome=true)∨(p.1∈ks∧(p.1<1000∨2000≤p.1)∧((ae σ0 p.1).isSome=true∨ae s.heap p.1=none)))
  (hall:∀p∈σ0,(ae σ1 p.1).isSome=true)
  (hk:K ((St.mk (i4 ks s.env) (σ1++iH ks s.heap)).put d r1)):ek P f args d s K:=by
 refine .inl (.inr ⟨σ0,_,_,ks,h,fun id o hh=>hin (id,o) (fo hh),?_,?_⟩)
 ·rintro r σ' ⟨rfl,rfl⟩ id hid
  obtain ⟨o,ho⟩:=Option.isSome_iff_exists.1 hid
  exact hout (id,o) (fo ho)
 ·rintro r σ' ⟨rfl,rfl⟩
  refine ⟨⟨i4 ks s.env,σ'++iH ks s.heap⟩,fun k=>kO k ks s.env,fun j=>?_,hk⟩
  simp only [rd,uA]
  cases hn:ae σ' j with
  | some o=>rfl
  | none =>
   simp only
   by_cases h2:(ae σ0 j).isSome=true
   ·obtain ⟨o,ho⟩:=Option.isSome_iff_exists.1 h2
    have:=hall (j,o) (fo ho)
    simp only at this
    rw [hn] at this
    cases this
   ·rw [aV h2,jS]
theorem HQ {f:FuncId} {args:List AV} {k:Nat} {ob ob':ah} {Sb:Nat→Prop} {r:AV} {d:Option Nat} {s:St} {K:St→Prop}
  (h:br P f args [(k,ob)] Sb (fun r' σ'=>r'=r∧σ'=[(k,ob')])) (hs:Sb k) (hk:ae s.heap k=some ob) (hK:K ((St.mk s.env ((k,ob') :: s.heap)).put d r)):ek P f args d s K:=by
 refine bt h [] (fun p hp=>?_) (fun p hp=>?_) (fun p hp=>?_) (by simpa only [i4,iH,r6,r5] using hK)
 ·simp only [j7] at hp;subst hp;exact hk
 ·simp only [j7] at hp;subst hp;exact .inl ⟨hs,by simp [ae]⟩
 ·simp only [j7] at hp;subst hp;simp [ae]
theorem wX (ρ:Nat→Nat) (x:AV) (hx:cG x=[]):jt ρ x=x:=by cases x<;>first | rfl | (simp [cG] at hx)
theorem gR {ρ:Nat→Nat} {f:AV→List Nat} {r:AV→AV} (hh:∀x,f x=[]→r x=x):∀l:List AV,l.flatMap f=[]→l.map r=l
 | [],_=>rfl
 | y :: l,hl=>by
  simp only [r7,List.append_eq_nil_iff] at hl
  simp only [dP,hh y hl.1,gR (ρ:=ρ) hh l hl.2]
theorem k8 (ρ:Nat→Nat) (x:AV) (hx:bU x=[]):eD ρ x=x:=by
 cases x with
 | fn f caps=>simp only [eD,gR (ρ:=ρ) (wX ρ) caps hx]
 | _=>first | rfl | (simp [bU,cG] at hx)
theorem k9 (ρ:Nat→Nat) (x:AV) (hx:fk x=[]):nQ ρ x=x:=by
 cases x with
 | agg cells=>simp only [nQ,gR (ρ:=ρ) (k8 ρ) cells hx]
 | fn f caps=>exact k8 ρ (.fn f caps) hx
 | _=>first | rfl | (simp [fk,bU,cG] at hx)
theorem pq (ρ:Nat→Nat) (x:AV) (hx:aF x=[]):i8 ρ x=x:=by
 cases x with
 | tup vs=>simp only [i8,gR (ρ:=ρ) (k9 ρ) vs hx]
 | agg cells=>exact k9 ρ (.agg cells) hx
 | fn f caps=>exact k9 ρ (.fn f caps) hx
 | _=>first | rfl | (simp [aF,fk,bU,cG] at hx)
theorem pp (ρ:Nat→Nat) (o:ah) (hx:cU o=[]):fN ρ o=o:=by
 unfold fN
 split
 ·rename_i hr
  have:∀rows:List (List AV),rows.flatMap (fun r=>r.flatMap bU)=[]→rows.map (fun r=>r.map (eD ρ))=rows:=fun rows=>by
   induction rows with
   | nil=>exact fun _=>rfl
   | cons r l ih =>
    intro hl
    simp only [r7,List.append_eq_nil_iff] at hl
    simp only [dP,ih hl.2,gR (ρ:=ρ) (k8 ρ) r hl.1]
  simp only [cU,hr,fv] at hx
  rw [this _ hx]
 ·rfl
theorem nV (ρ:Nat→Nat):∀l:List AV,(∀x∈l,aF x=[])→l.map (i8 ρ)=l
 | [],_=>rfl
 | x :: l,h=>by simp only [dP,pq ρ x (h x (by simp)),nV ρ l fun y hy=>h y (by simp [hy])]
theorem br.at_ {f:FuncId} {st:Nat} {rest:List AV} {ob ob':ah} {Sb:Nat→Prop} {r:AV} (h:br P f (.mp 1000 st 0 0 :: rest) [(1000,ob)] Sb (fun r' σ'=>r'=r∧σ'=[(1000,ob')]))
  (hr:aF r=[]) (hrest:∀x∈rest,aF x=[]) (ho:cU ob=[]) (ho':cU ob'=[]) (j:Nat) :
  br P f (.mp j st 0 0 :: rest) [(j,ob)] (fun id=>Sb (jb 1000 j id)) (fun r' σ'=>r'=r∧σ'=[(j,ob')]):=by
 have e1:jb 1000 j 1000=j:=by simp [jb]
 have e2:jb 1000 j j=1000:=by unfold jb;split<;>simp_all
 refine (h.ren (args2:=.mp j st 0 0 :: rest) (σ2:=[(j,ob)]) (jb 1000 j) (jb 1000 j) (jp _ _) (jp _ _) ?_ ?_).mono (fun _ h=>h) ?_
 ·simp only [dP,nV _ rest hrest,i8,nQ,eD,jt,e2]
 ·simp only [f8,e2,pp _ ob ho]
 ·rintro r' σ' ⟨r0,σ0,⟨rfl,rfl⟩,rfl,rfl⟩
  exact ⟨pq _ _ hr,by simp only [f8,e1,pp _ ob' ho']⟩
theorem KE {Sb:Nat→Prop} (j:Nat) (h:Sb 1000):(fun id=>Sb (jb 1000 j id)) j:=by
 show Sb (jb 1000 j j)
 have e2:jb 1000 j j=1000:=by unfold jb;split<;>simp_all
 rw [e2];exact h
theorem HP {f:FuncId} {st:Nat} {rest:List AV} {ob ob':ah} {Sb:Nat→Prop} {r:AV} {j:Nat} {d:Option Nat} {s:St} {K:St→Prop} (h:br P f (.mp 1000 st 0 0 :: rest) [(1000,ob)] Sb (fun r' σ'=>r'=r∧σ'=[(1000,ob')]))
  (hs:Sb 1000) (hr:aF r=[]) (hrest:∀x∈rest,aF x=[]) (ho:cU ob=[]) (ho':cU ob'=[]) (hk:ae s.heap j=some ob) (hK:K ((St.mk s.env ((j,ob') :: s.heap)).put d r)):ek P f (.mp j st 0 0 :: rest) d s K :=
 HQ (h.at_ hr hrest ho ho' j) (KE j hs) hk hK
theorem b_ {f:FuncId} {st:Nat} {rest:List AV} {ob ob':ah} {Sb:Nat→Prop} {r:AV} {j:Nat} {d:Option Nat} {s:St} {K:St→Prop} (h:br P f (.mp 1000 st 0 0 :: rest) [(1000,ob)] Sb (fun r' σ'=>r'=r∧σ'=[(1000,ob')]))
  (hK:K ((St.mk s.env ((j,ob') :: s.heap)).put d r)) (hs:Sb 1000:=by exact ⟨by decide,by decide⟩) (hr:aF r=[]:=by first | rfl | exact ca _) (hrest:∀x∈rest,aF x=[]:=by simp [go_sem]) (ho:cU ob=[]:=by exact rfl) (ho':cU ob'=[]:=by exact rfl)
  (hk:ae s.heap j=some ob:=by rfl):ek P f (.mp j st 0 0 :: rest) d s K:=HP h hs hr hrest ho ho' hk hK
theorem vM {al:List (Nat×Nat)} {f:FuncId} {args:List AV} {i j:Nat} {bf:List Nat} {op:eV} {hist:List HI} {s:St} {K:List HI→St→Prop} {Sb:Nat→Prop} {id st off len:Nat} {o:ah} (h:br P f args [] Sb (fun r σ'=>r = .ms id st off len∧σ'=[(id,o)])) (ho:o.isRec=false) (hargs:∀x∈args,aF x=[])
  (hK:cJ op s .no=true∧dy bf ⟨i,bx op s.env,[j],[j],false,false⟩ hist=true∧iG al bf ⟨i,bx op s.env,[j],[j],false,false⟩=true∧K (⟨i,bx op s.env,[j],[j],false,false⟩ :: hist) ((s.eff (.new j o)).put (some j) (.ms j st off len))):sN P al f args i bf op (some j) hist s K :=
 .inr (.inr ⟨j,o,st,off,len,_,rfl,ho,h.fresh ho hargs j,hK⟩)
end
theorem Wk.new0 (s:St) (i st:Nat) (t:TypeId) (hid:i<1000∨2000≤i):Wk s ⟨(s.kill i).env,(i,⟨t,st,[],false⟩) :: (s.kill i).heap⟩:=by
 intro c a w hs
 obtain ⟨bl,hs⟩:=hs.kill i
 obtain ⟨h1,h2⟩:=bV s i
 have hn:=hs.new0 (i:=i) (o:=⟨t,st,[],false⟩) h1 h2 hid rfl rfl
 refine ⟨_,hn.congr (fun _=>rfl) (fun j=>?_)⟩
 simp only [ae,cI]
 by_cases h:i=j
 ·rw [bz h,bz h.symm]
 ·rw [aV h,aV (Ne.symm h)]
def nlm:List AV→List AV→Prop
 | [],[]=>True
 | x :: l,y :: m=>(x=y∨(x = .nl∧((∃st,y = .sl st [])∨∃id st,y = .ms id st 0 0)))∧nlm l m
 | _,_=>False
theorem p9:∀{l m:List AV},nlm l m→m.length=l.length
 | [],[],_=>rfl
 | _ :: _,_ :: _,h=>by simp [p9 h.2]
 | [],_ :: _,h=>h.elim
 | _ :: _,[],h=>h.elim
theorem p8:∀{l m:List AV},nlm l m→∀{j:Nat} {y:AV},m[j]? = some y→∃x,l[j]? = some x∧(x=y∨(x = .nl∧((∃st,y = .sl st [])∨∃id st,y = .ms id st 0 0)))
 | [],[],_,j,y,hy=>by simp at hy
 | x :: l,z :: m,h,0,y,hy=>by simp at hy;subst hy;exact ⟨x,rfl,h.1⟩
 | x :: l,z :: m,h,j+1,y,hy=>by simpa using p8 h.2 (j:=j) (by simpa using hy)
 | [],_ :: _,h,_,_,_=>h.elim
 | _ :: _,[],h,_,_,_=>h.elim
theorem Wk.nlm (s:St) (i:Nat) {t:TypeId} {st:Nat} {r r':List AV} (hi:ae s.heap i=some ⟨t,st,[r],true⟩) (hr:Mw.nlm r r'):Wk s ⟨s.env,(i,⟨t,st,[r'],true⟩) :: s.heap⟩:=by
 rintro c a w ⟨bl,hs⟩
 have hm:∀b,aY bl c.MF (ae ((i,⟨t,st,[r'],true⟩) :: s.heap)) b↔aY bl c.MF (ae s.heap) b:=aY.congr fun j=>by
  simp only [ae]
  split
  ·rename_i h;subst h;rw [hi];rfl
  ·rfl
 have ht:=Tr.of_iff (w:=w) fun b=>(hm b)
 refine ⟨bl,hs.defers,hs.size,fun j=>(hs.env j).tr ht (fun _ _=>rfl),⟨fun j o hj=>?_,fun j j' o o' b h1 h2=>?_⟩,hs.step,fun j o b h1=>?_,hs.stab,hs.mf⟩
 ·simp only [ae] at hj
  split at hj
  ·rename_i hij
   subst hij
   cases hj
   rcases hs.heap.1 i _ hi with hn | ⟨b,g1,⟨gk,c1,fr,g2,g3,g4,g5,g6,g7⟩ | hsp⟩
   ·cases hn.2.1
   rotate_left
   ·cases hsp.isRec
   ·refine .inr ⟨b,g1,.inl ⟨gk,c1,fr,g2,g3,g4,fun k q hq=>?_,by simpa using g6,fun k q u x hu hx=>?_⟩⟩
    ·cases k with
     | zero=>simp at hq;subst hq;rw [p9 hr];exact g5 0 r rfl
     | succ k=>simp at hq
    ·cases k with
     | succ k=>simp at hu
     | zero =>
      simp at hu
      subst hu
      obtain ⟨x0,h1,h2⟩:=p8 hr hx
      obtain ⟨v,hv1,hv2⟩:=g7 0 q r x0 rfl h1
      refine ⟨v,hv1,?_⟩
      have hv3:bA bl (aY bl c.MF (ae s.heap)) w v x0:=hv2
      rcases h2 with h2 | ⟨h2,⟨st',h3⟩ | ⟨id,st',h3⟩⟩
      ·subst h2;exact hv3.tr ht (fun _ _=>rfl)
      ·subst h2 h3
       have:IRel (aY bl c.MF (ae s.heap)) w v .nl:=hv3
       exact (IRel.toC (bl:=bl) (IRel.nl_sl this st')).tr ht (fun _ _=>rfl)
      ·subst h2 h3
       have:IRel (aY bl c.MF (ae s.heap)) w v .nl:=hv3
       cases this
       exact .inl ⟨rfl,rfl,rfl⟩
  ·rcases hs.heap.1 j o hj with hn | ⟨b,g1,⟨gk,c1,fr,g2,g3,g4,g5,g6,g7⟩ | hsp⟩
   ·exact .inl hn
   rotate_left
   ·exact .inr ⟨b,g1,.inr hsp⟩
   ·refine .inr ⟨b,g1,.inl ⟨gk,c1,fr,g2,g3,g4,g5,g6,fun k q u x hu hx=>?_⟩⟩
    obtain ⟨v,hv1,hv2⟩:=g7 k q u x hu hx
    refine ⟨v,hv1,?_⟩
    cases hrec:o.isRec<;>simp only [hrec,e_] at hv2 ⊢
    ·exact hv2.tr ht.keep
    ·exact hv2.tr ht (fun _ _=>rfl)
 ·have key:∀{j:Nat} {o:ah},ae ((i,⟨t,st,[r'],true⟩) :: s.heap) j=some o→∃o',ae s.heap j=some o':=fun {j o} hj=>by
   simp only [ae] at hj
   split at hj
   ·rename_i hij;subst hij;exact ⟨_,hi⟩
   ·exact ⟨_,hj⟩
  obtain ⟨p1,q1⟩:=key h1
  obtain ⟨p2,q2⟩:=key h2
  exact hs.heap.2 j j' p1 p2 b q1 q2
 ·simp only [ae] at h1
  split at h1
  ·rename_i hij;subst hij;exact hs.own i _ b hi
  ·exact hs.own j o b h1
section
variable {P:Program} [aX P]
end
theorem qB.refl (s:St) (l:List AV):qB s l s l:=fun c a w bl vs h1 h2=>⟨bl,h1,h2⟩
theorem qB.trans {s s' s'':St} {l l' l'':List AV} (h:qB s l s' l') (h':qB s' l' s'' l''):qB s l s'' l'':=fun c a w bl vs h1 h2=>by
 obtain ⟨bl',h3,h4⟩:=h c a w bl vs h1 h2
 exact h' c a w bl' vs h3 h4
theorem qB.frzs (fs:List Nat) (s:St) (l:List AV):qB s l (Mw.frzs fs s) (l.map (pa fs s)):=fun c a w bl vs h1 h2=>by
 obtain ⟨h3,h4⟩:=aD.frzs fs s h1
 exact ⟨bl,h3,h2.mapRight fun v x hv=>h4 v x hv⟩
def nla (x y:AV):Prop:=x=y∨(x = .nl∧∃st,y = .sl st [])∨∃l m,x = .agg l∧y = .agg m∧EO l m
theorem nla.refl (x:AV):nla x x:=.inl rfl
theorem uE {bl:Nat→Option Nat} {M:Nat→Prop} {w:World}:∀{vs:List Value} {l m:List AV},EO l m→aK (bA bl M w) vs l→aK (bA bl M w) vs m
 | [],[],[],_,_=>trivial
 | v :: vs,x :: l,y :: m,h,hr=>by
  refine ⟨?_,uE h.2 hr.2⟩
  rcases h.1 with rfl | ⟨rfl,st,rfl⟩
  ·exact hr.1
  ·exact IRel.nl_sl (show IRel M w v .nl from hr.1) st
 | [],[],_ :: _,h,_=>h.elim
 | [],_ :: _,_,_,hr=>hr.elim
 | _ :: _,[],_,_,hr=>hr.elim
 | _ :: _,_ :: _,[],h,_=>h.elim
theorem EL {bl:Nat→Option Nat} {M:Nat→Prop} {w:World} {v:Value} {x y:AV} (h:nla x y) (hr:aT bl M w v x):aT bl M w v y:=by
 rcases h with rfl | ⟨rfl,st,rfl⟩ | ⟨l,m,rfl,rfl,h⟩
 ·exact hr
 ·exact IRel.nl_sl (show IRel M w v .nl from hr) st
 ·obtain ⟨cs,h1,h2⟩:=hr
  exact ⟨cs,h1,uE h h2⟩
theorem ry {bl:Nat→Option Nat} {M:Nat→Prop} {w:World}:∀{vs:List Value} {l m:List AV},aK nla l m→aK (aT bl M w) vs l→aK (aT bl M w) vs m
 | [],[],[],_,_=>trivial
 | v :: vs,x :: l,y :: m,h,hr=>⟨EL h.1 hr.1,ry h.2 hr.2⟩
 | [],[],_ :: _,h,_=>h.elim
 | [],_ :: _,_,_,hr=>hr.elim
 | _ :: _,[],_,_,hr=>hr.elim
 | _ :: _,_ :: _,[],h,_=>h.elim
theorem qB.nla {s:St} {l m:List AV} (h:aK Mw.nla l m):qB s l s m:=fun c a w bl vs h1 h2=>⟨bl,h1,ry h h2⟩
section
variable {P:Program} [aX P]
end
theorem aw {x y:Int} (h:¬x=y):(x==y)=false:=by simpa using h
theorem aZ {x y:Int} (h:x=y):(x==y)=true:=by simpa using h
theorem cm {x y:Int} (h:¬x=y):(x != y)=true:=by simpa using h
theorem bu {x y:Int} (h:x=y):(x != y)=false:=by simpa using h
theorem aD.nlm {c:je} {bl:Nat→Option Nat} {a:Act} {w:World} {s:St} (hs:aD c bl (get s.env) (ae s.heap) a w) (i:Nat) {t:TypeId} {st:Nat} {r r':List AV} (hi:ae s.heap i=some ⟨t,st,[r],true⟩) (hr:Mw.nlm r r') :
  aD c bl (get s.env) (ae ((i,⟨t,st,[r'],true⟩) :: s.heap)) a w∧∀b,aY bl c.MF (ae ((i,⟨t,st,[r'],true⟩) :: s.heap)) b↔aY bl c.MF (ae s.heap) b:=by
 have hm:∀b,aY bl c.MF (ae ((i,⟨t,st,[r'],true⟩) :: s.heap)) b↔aY bl c.MF (ae s.heap) b:=aY.congr fun j=>by
  simp only [ae]
  split
  ·rename_i h;subst h;rw [hi];rfl
  ·rfl
 have ht:=Tr.of_iff (w:=w) fun b=>(hm b)
 refine ⟨⟨hs.defers,hs.size,fun j=>(hs.env j).tr ht (fun _ _=>rfl),⟨fun j o hj=>?_,fun j j' o o' b h1 h2=>?_⟩,hs.step,fun j o b h1=>?_,hs.stab,hs.mf⟩,hm⟩
 ·simp only [ae] at hj
  split at hj
  ·rename_i hij
   subst hij
   cases hj
   rcases hs.heap.1 i _ hi with hn | ⟨b,g1,⟨gk,c1,fr,g2,g3,g4,g5,g6,g7⟩ | hsp⟩
   ·cases hn.2.1
   rotate_left
   ·cases hsp.isRec
   ·refine .inr ⟨b,g1,.inl ⟨gk,c1,fr,g2,g3,g4,fun k q hq=>?_,by simpa using g6,fun k q u x hu hx=>?_⟩⟩
    ·cases k with
     | zero=>simp at hq;subst hq;rw [p9 hr];exact g5 0 r rfl
     | succ k=>simp at hq
    ·cases k with
     | succ k=>simp at hu
     | zero =>
      simp at hu
      subst hu
      obtain ⟨x0,h1,h2⟩:=p8 hr hx
      obtain ⟨v,hv1,hv2⟩:=g7 0 q r x0 rfl h1
      refine ⟨v,hv1,?_⟩
      have hv3:bA bl (aY bl c.MF (ae s.heap)) w v x0:=hv2
      rcases h2 with h2 | ⟨h2,⟨st',h3⟩ | ⟨id,st',h3⟩⟩
      ·subst h2;exact hv3.tr ht (fun _ _=>rfl)
      ·subst h2 h3
       have:IRel (aY bl c.MF (ae s.heap)) w v .nl:=hv3
       exact (IRel.toC (bl:=bl) (IRel.nl_sl this st')).tr ht (fun _ _=>rfl)
      ·subst h2 h3
       have:IRel (aY bl c.MF (ae s.heap)) w v .nl:=hv3
       cases this
       exact .inl ⟨rfl,rfl,rfl⟩
  ·rcases hs.heap.1 j o hj with hn | ⟨b,g1,⟨gk,c1,fr,g2,g3,g4,g5,g6,g7⟩ | hsp⟩
   ·exact .inl hn
   rotate_left
   ·exact .inr ⟨b,g1,.inr hsp⟩
   ·refine .inr ⟨b,g1,.inl ⟨gk,c1,fr,g2,g3,g4,g5,g6,fun k q u x hu hx=>?_⟩⟩
    obtain ⟨v,hv1,hv2⟩:=g7 k q u x hu hx
    refine ⟨v,hv1,?_⟩
    cases hrec:o.isRec<;>simp only [hrec,e_] at hv2 ⊢
    ·exact hv2.tr ht.keep
    ·exact hv2.tr ht (fun _ _=>rfl)
 ·have key:∀{j:Nat} {o:ah},ae ((i,⟨t,st,[r'],true⟩) :: s.heap) j=some o→∃o',ae s.heap j=some o':=fun {j o} hj=>by
   simp only [ae] at hj
   split at hj
   ·rename_i hij;subst hij;exact ⟨_,hi⟩
   ·exact ⟨_,hj⟩
  obtain ⟨p1,q1⟩:=key h1
  obtain ⟨p2,q2⟩:=key h2
  exact hs.heap.2 j j' p1 p2 b q1 q2
 ·simp only [ae] at h1
  split at h1
  ·rename_i hij;subst hij;exact hs.own i _ b hi
  ·exact hs.own j o b h1
theorem VRels.tr {bl bl':Nat→Option Nat} {M M':Nat→Prop} {w:World} (ht:Tr M M' w w):∀{vs:List Value} {l:List AV},aK (aT bl M w) vs l→(∀x∈l,∀id,mV id x=true→bl' id=bl id)→aK (aT bl' M' w) vs l
 | [],[],_,_=>trivial
 | _ :: _,_ :: _,h,hb=>⟨h.1.tr ht (hb _ (by simp)),VRels.tr ht h.2 fun x hx=>hb x (by simp [hx])⟩
 | [],_ :: _,h,_=>h.elim
 | _ :: _,[],h,_=>h.elim
theorem qB.nlm (s:St) (l:List AV) (i:Nat) {t:TypeId} {st:Nat} {r r':List AV} (hi:ae s.heap i=some ⟨t,st,[r],true⟩) (hr:Mw.nlm r r'):qB s l ⟨s.env,(i,⟨t,st,[r'],true⟩) :: s.heap⟩ l:=fun c a w bl vs h1 h2=>by
 obtain ⟨h3,hm⟩:=h1.nlm i hi hr
 exact ⟨bl,h3,VRels.tr (Tr.of_iff hm) h2 fun _ _ _ _=>rfl⟩
theorem qB.new0 (s:St) (l:List AV) (i st:Nat) (t:TypeId) (hid:i<1000∨2000≤i) (hl:∀x∈l,i∉aF x):qB s l ⟨(s.kill i).env,(i,⟨t,st,[],false⟩) :: (s.kill i).heap⟩ l:=fun c a w bl vs hs h2=>by
 have hk:=hs.kill i
 have hu:=gB i (get s.env) (ae s.heap)
 have hn:=hk.new0 (i:=i) (o:=⟨t,st,[],false⟩) (by simp) hu hid rfl rfl
 have e1:∀k,get (s.kill i).env k=eC i (get s.env k):=fun k=>by simp only [St.kill,fh]
 have e2:∀j,ae ((i,⟨t,st,[],false⟩) :: (s.kill i).heap) j=cI (fun j=>if j=i then none else (ae s.heap j).map (cH i)) i (some ⟨t,st,[],false⟩) j:=fun j=>by
  simp only [ae,cI,St.kill,dH,cF]
  by_cases h:i=j
  ·subst h;simp
  ·have h':¬j=i:=fun e=>h e.symm
   simp [h,h']
 refine ⟨cI bl i none,hn.congr e1 e2,?_⟩
 have hM:∀b,aY (cI bl i none) c.MF (ae ((i,⟨t,st,[],false⟩) :: (s.kill i).heap)) b→aY bl c.MF (ae s.heap) b:=fun b hb=>by
  rcases hb with hb | ⟨j,o,h3,h4⟩
  ·exact .inl hb
  ·rw [e2] at h3
   by_cases hj:j=i
   ·subst hj;simp [cI] at h4
   ·rw [bH _ _ hj] at h4
    rw [bH _ _ hj] at h3
    simp only [hj,j8,cq] at h3
    obtain ⟨o',h5,_⟩:=h3
    exact .inr ⟨j,o',h5,h4⟩
 have ht:Tr (aY bl c.MF (ae s.heap)) (aY (cI bl i none) c.MF (ae ((i,⟨t,st,[],false⟩) :: (s.kill i).heap))) w w:=⟨fun b hb _=>⟨fun h=>hb (hM b h),rfl⟩,fun b cc t fr h=>⟨cc,fr,h,rfl⟩⟩
 exact VRels.tr ht h2 fun x hx id hid=>bH _ _ fun e=>hl x hx (by rw [← e];exact i1 hid)
attribute [go_sem] Nat.zero_add j6 decide_eq_false_iff_not beq_self_eq_true Nat.lt_add_one Nat.reduceEqDiff Nat.reduceLT reduceCtorEq Nat.reduceAdd Nat.reduceLeDiff Nat.reduceBEq Nat.reduceBNe Int.reduceNeg Int.reduceToNat Int.reduceBEq Int.reduceBNe bne_self_eq_false rZ
attribute [go_sem ↓] reduceIte
def sb (id:Nat):Prop:=1000≤id∧id<2000
def RM (n:Int):Prop:=-9223372036854775808≤n∧n<9223372036854775808
section
abbrev No:Nat→Prop:=fun _=>False
def qA (T:Nat→Prop) (N:Nat) (W W':World):Prop:=W.heap.size≤W'.heap.size∧(∀(b:Nat) (c:Array Value) (t:TypeId) (fr:Nat×Nat),N≤b→W.heap[b]? = some (.cells c t fr)→W'.heap[b]? = some (.cells c t fr))∧∀b,T b→W'.heap[b]? = W.heap[b]?
section
variable {T:Nat→Prop}
theorem qA.refl (N:Nat) (W:World):qA T N W W:=⟨aB _,fun _ _ _ _ _ h=>h,fun _ _=>rfl⟩
theorem qA.trans {N:Nat} {A B C:World} (h:qA T N A B) (k:qA T N B C):qA T N A C:=⟨gc h.1 k.1,fun b c t fr hb hc=>k.2.1 b c t fr hb (h.2.1 b c t fr hb hc),fun b hb=>(k.2.2 b hb).trans (h.2.2 b hb)⟩
theorem qA.mono {N N':Nat} {A B:World} (h:qA T N A B) (hn:N≤N'):qA T N' A B:=⟨h.1,fun b c t fr hb=>h.2.1 b c t fr (gc hn hb),h.2.2⟩
theorem qA.putObj (N:Nat) (W:World) (l:Nat) (o o':Obj) (hl:W.heap[l]? = some o) (ho:o.isCells=false) (hT:∀b,T b→b<l):qA T N W (W.putObj l o'):=by
 have hlt:=(j9.1 hl).1
 refine ⟨(grownBy_putObj' W l o').size,fun b c t fr _ hb=>?_,fun b hb=>World.putObj_heap_other (by have:=hT b hb;omega)⟩
 by_cases e:b=l
 ·subst e
  rw [hl] at hb
  cases hb
  simp [Obj.isCells] at ho
 ·rw [World.putObj_heap_other (by omega)];exact hb
end
theorem gG.ofAlloc (w:World) (o:Obj):gG No w (w.alloc o) where
 size:=by simp
 keep b hb _:=by rw [World.alloc];simp [Array.getElem?_push,Nat.ne_of_lt hb]
 shape b c t fr hb:=⟨c,fr,by
  have hlt:=be hb
  rw [World.alloc];simp [Array.getElem?_push,Nat.ne_of_lt hlt,hb],rfl⟩
 os:=rfl
 out:=rfl
theorem gG.one {A B C:World} (h:gG No A B) (k:gG No B C):gG No A C:=h.trans k fun _ _ h=>h.elim
def KF {α:Type} (n:Nat) (P:Program) [aX P] (g:Nat) (lb:Array Value) (encs:α→Array Value) (E:List α) (w:World):Prop :=
 ∀(l:Nat) (J Jx:List α→World→Prop) (W:World),(aX.T P).H W→gG No w W→(∀s A B,J s A→gG No A B→J s B)→(∀s A B,Jx s A→gG No A B→Jx s B) →
  (∀gY x W1,J gY W1→gY++[x] <+: E→YieldAt Fence.wide (n - 1) P l (encs x) W1 fun e W' =>
   (e = .returned (.bool true)∧J (gY++[x]) W'∧qA (aX.T P).B W.heap.size W1 W')∨(e = .returned (.bool false)∧Jx (gY++[x]) W')) →
  J [] W →
  CallsIn Fence.wide n P g (#[.func (.yield l) #[] #[]]++lb) W fun e W'=>(∃v,e = .returned v)∧(J E W'∨(∃gY,gY <+: E∧Jx gY W'))
variable {n:Nat} {P:Program} [aX P]
theorem xe {α:Type} {g:Operand} {ps:Array Tmp} {assign body:Code} {Q:Exit→Act→World→Prop} {a:Act} {w:World}
  (h1:1≤n) (hH:(aX.T P).H w) {gf:Nat} {lb:Array Value} (hg:a.eval g = .func (.func gf) #[] lb) (eg:∀args w,(callFunc gf args).run P w = .ok (.enter gf args) w)
  {encs:α→Array Value} {E:List α} {w0:World} (hseq:KF (n - 1) P gf lb encs E w0) (hb0:gG No w0 w) (hps:∀x,(encs x).size=ps.size)
  (I:List α→World→Prop) (Ix:Code→List α→World→Prop) (hI:∀s A B,I s A→gG No A B→I s B) (hIx:∀c s A B,Ix c s A→gG No A B→Ix c s B)
  (hIp:∀s W l o o',I s W→w.heap.size≤l→W.heap[l]? = some o→o.isCells=false→I s (W.putObj l o')) (hIxp:∀c s W l o o',Ix c s W→w.heap.size≤l→W.heap[l]? = some o→o.isCells=false→Ix c s (W.putObj l o'))
  (h0:I [] w) (a₁:α→Act)
  (hassign:∀(l:Nat) (x:α) (W:World) (K:Act→World→Prop),K (a₁ x) W →
   assign.wpIn (Fence.wide.inRound l) (n - 1 - 1) P (Exit.then K (fun _ _ _=>False)) { tmps:=(ps.zip (encs x)).foldl (fun t (p,v)=>t.setIfInBounds p v) a.tmps,defers:=[] } W)
  (hbody:∀(l:Nat) (gY:List α) (x:α) (W:World),I gY W→gY++[x] <+: E→body.wpIn (Fence.wide.inRound l) (n - 1 - 1) P (ownPostK (qA (aX.T P).B w.heap.size) I Ix (gY++[x]) W) (a₁ x) W)
  (hdone:∀(D:Nat) (W:World),w.heap.size≤D→I E W→W.heap[D]? = some (.deferred (some []))→Q .normal { a with defers:={ target:=.collected D,args:=#[] } :: a.defers } W)
  (hstop:∀(D:Nat) (c:Code) (gY:List α) (W:World),w.heap.size≤D→gY <+: E→Ix c gY W→W.heap[D]? = some (.deferred (some []))→c.wpIn Fence.wide n P Q { a with defers:={ target:=.collected D,args:=#[] } :: a.defers } W) :
  (Code.rangeFunc g ps assign body).wpIn Fence.wide n P Q a w:=by
 refine wpIn_rangeFunc ?_
 intro fn hfn
 rw [show Fence.wide.round=none from rfl]
 obtain ⟨rec,hrec⟩:∃rec:LoopState→Option Code→Loop,rec=fun st pe=>{ state:=st,pending:=pe,fn,tmps:=a.tmps,params:=ps,assign,body,defers:=w.heap.size }:=⟨_,rfl⟩
 obtain ⟨W1,hW1⟩:∃W1,(w.alloc (.deferred (some []))).alloc (.loop (rec .ready none))=W1:=⟨_,rfl⟩
 have hL1:W1.heap[w.heap.size+1]? = some (.loop (rec .ready none)):=by
  rw [← hW1];have:=World.alloc_heap_new (w.alloc (.deferred (some []))) (.loop (rec .ready none));rwa [World.size_alloc] at this
 have hK1:W1.heap[w.heap.size]? = some (.deferred (some [])):=by
  rw [← hW1];exact (Below.heap_alloc _ _ _ (by simp)).trans (World.alloc_heap_new w _)
 have hs1:gG No w W1:=by rw [← hW1];exact (gG.ofAlloc _ _).one (gG.ofAlloc _ _)
 have hlow:∀b,(aX.T P).B b→b<w.heap.size+1:=fun b hb=>Nat.lt_succ_of_lt ((aX.T P).low _ hH b hb)
 have hz1:W1.heap.size=w.heap.size+2:=by rw [← hW1];simp
 refine ⟨w.heap.size+1,[{ target:=.collected w.heap.size,args:=#[] }],W1,{ target:=.fn (.func gf) lb,args:=#[.func (.yield (w.heap.size+1)) #[] #[]] },W1,gf,
  #[.func (.yield (w.heap.size+1)) #[] #[]]++lb,W1,?_,?_,?_,?_,fun _=>h1,?_⟩
 ·rw [← hW1,hrec];exact run_enterLoop_outer _ _ _ _ _
 ·simp only [resolve,hg]
  simp [go_sem]
 ·intro f' hf';trivial
 ·simp [invoke,go_sem,eg]
 ·have kp:∀{l:Nat} {o:Obj} {A B:World},gG No A B→A.heap[l]? = some o→B.heap[l]? = some o:=fun {l o A B} hs h=>by
   rw [hs.keep l (j9.1 h).1 (fun h=>h)];exact h
  refine (hseq (w.heap.size+1)
   (fun gY W=>I gY W∧W.heap[w.heap.size+1]? = some (.loop (rec .ready none))∧W.heap[w.heap.size]? = some (.deferred (some [])))
   (fun gY W=>∃c,Ix c gY W∧W.heap[w.heap.size+1]? = some (.loop (rec .done (some c)))∧W.heap[w.heap.size]? = some (.deferred (some [])))
   W1 ((aX.T P).stay _ _ hH fun b hb=>hs1.keep b ((aX.T P).low _ hH b hb) (fun h=>h)) (hb0.one hs1)
   (fun s A B hs hg'=>⟨hI s A B hs.1 hg',kp hg' hs.2.1,kp hg' hs.2.2⟩)
   (fun s A B hs hg'=>by
    obtain ⟨c,hc,hl,hk⟩:=hs
    exact ⟨c,hIx c s A B hc hg',kp hg' hl,kp hg' hk⟩)
   ?_ ⟨hI _ _ _ h0 hs1,hL1,hK1⟩).mono ?_
  ·
   rintro gY x W ⟨hi,hl,hk⟩ hlen
   have hlt:w.heap.size+1<W.heap.size:=(j9.1 hl).1
   have hy:=run_yield (P:=P) (args:=encs x) hl (by rw [hrec];exact hps x)
   rw [hrec] at hy
   refine ⟨fn,_,assign,body,hy,roundIn_of_wpIn hfn (hassign _ x W _ ⟨_,run_beginRound hl (by rw [hrec]),?_⟩)⟩
   have hl2:(W.putObj (w.heap.size+1) (.loop { rec .ready none with state:=.busy })).heap[w.heap.size+1]? = some (.loop { rec .ready none with state:=.busy }):=World.putObj_heap_same hlt
   have hk2:(W.putObj (w.heap.size+1) (.loop { rec .ready none with state:=.busy })).heap[w.heap.size]? = some (.deferred (some [])):=(World.putObj_heap_other (by omega)).trans hk
   have hw2:qA (aX.T P).B w.heap.size W (W.putObj (w.heap.size+1) (.loop { rec .ready none with state:=.busy })):=qA.putObj _ _ _ _ _ hl rfl hlow
   refine wpIn_mono (hbody _ gY x _ (hIp _ _ _ _ _ hi (by omega) hl rfl) hlen) ?_
   have fin:∀(jump:Option Code) (W3:World),KeepsOthers (W.putObj (w.heap.size+1) (.loop { rec .ready none with state:=.busy })) W3 →
     (Instr.endRound (w.heap.size+1) jump).run P W3 = .ok (.bool jump.isNone) (W3.putObj (w.heap.size+1) (.loop (rec (if jump.isNone then .ready else .done) jump))) ∧
     W3.heap[w.heap.size+1]? = some (.loop { rec .ready none with state:=.busy }) ∧
     (W3.putObj (w.heap.size+1) (.loop (rec (if jump.isNone then .ready else .done) jump))).heap[w.heap.size+1]? = some (.loop (rec (if jump.isNone then .ready else .done) jump)) ∧
     (W3.putObj (w.heap.size+1) (.loop (rec (if jump.isNone then .ready else .done) jump))).heap[w.heap.size]? = some (.deferred (some [])):=fun jump W3 hk3=>by
    have hl3:=hk3.same _ _ hl2 rfl
    have:=run_endRound (P:=P) jump hl3
    rw [hrec] at this ⊢
    exact ⟨this,by rw [hrec] at hl3;exact hl3,World.putObj_heap_same (j9.1 hl3).1,(World.putObj_heap_other (by omega)).trans (hk3.same _ _ hk2 rfl)⟩
   rintro e a3 W3 hp
   cases e with
   | normal =>
    obtain ⟨hk3,hkp3,hi3⟩:=hp
    obtain ⟨hr,hl3,hl4,hk4⟩:=fin none W3 hk3
    exact ⟨_,_,hr,.inl ⟨rfl,⟨hIp _ _ _ _ _ hi3 (by omega) hl3 rfl,hl4,hk4⟩,((hw2.trans hkp3).trans (qA.putObj _ _ _ _ _ hl3 rfl hlow)).mono (by omega)⟩⟩
   | ret =>
    obtain ⟨hk3,hi3⟩:=hp
    obtain ⟨hr,hl3,hl4,hk4⟩:=fin (some .ret) W3 hk3
    exact ⟨_,_,hr,.inr ⟨rfl,.ret,hIxp _ _ _ _ _ _ hi3 (by omega) hl3 rfl,hl4,hk4⟩⟩
   | exit id =>
    obtain ⟨hk3,hi3⟩:=hp
    obtain ⟨hr,hl3,hl4,hk4⟩:=fin (some (.exit id)) W3 hk3
    exact ⟨_,_,hr,.inr ⟨rfl,.exit id,hIxp _ _ _ _ _ _ hi3 (by omega) hl3 rfl,hl4,hk4⟩⟩
   | goto t =>
    obtain ⟨hk3,hi3⟩:=hp
    obtain ⟨hr,hl3,hl4,hk4⟩:=fin (some (.goto t)) W3 hk3
    exact ⟨_,_,hr,.inr ⟨rfl,.goto t,hIxp _ _ _ _ _ _ hi3 (by omega) hl3 rfl,hl4,hk4⟩⟩
   | panic ch=>exact hp.elim
   | outgrown=>exact hp.elim
  ·
   rintro e W2 ⟨⟨v,rfl⟩,(⟨hi,hl,hk⟩ | ⟨gY,hSp,c,hi,hl,hk⟩)⟩
   ·exact ⟨none,_,by have:=run_endLoop (P:=P) hl (by rw [hrec];simp);rw [hrec] at this;exact this,hdone _ _ (aB _) (hIp _ _ _ _ _ hi (by omega) hl rfl) ((World.putObj_heap_other (by omega)).trans hk)⟩
   ·exact ⟨some c,_,by have:=run_endLoop (P:=P) hl (by rw [hrec];simp);rw [hrec] at this;exact this,hstop _ c gY _ (aB _) hSp (hIxp _ _ _ _ _ _ hi (by omega) hl rfl) ((World.putObj_heap_other (by omega)).trans hk)⟩
def Bp (P:Program) [aX P] (w:World):Nat→Prop:=fun b=>b<w.heap.size∧¬(aX.T P).B b
theorem aj.run {f:FuncId} {args:List AV} {r:AV} (h:aj P f args r) (w:World) (hH:(aX.T P).H w) {cargs:List Value} (ha:aK (aT (fun _=>none) (Bp P w) w) cargs args) :
  Calls P f cargs.toArray w fun e w'=>∃v,e = .returned v∧aT (fun _=>none) (Bp P w) w' v r∧gG No w w':=by
 have hm:∀(bl:Nat→Option Nat) b,aY bl (Bp P w) (ae []) b↔Bp P w b:=fun bl b=>fO _ b
 refine (h (fun _=>none) (Bp P w) w cargs hH (fun b hb hm'=>((hm _ b).1 hm').2 hb) ⟨fun id o hi=>by simp [ae] at hi,fun id id' o o' b hi=>by simp [ae] at hi⟩ (fun b hb=>hb.1)
  (ha.mono fun _ _ _ hr=>hr.tr (Tr.of_iff (fun b=>hm _ b)) (fun _ _=>rfl))).mono fun e w' hh=>?_
 obtain ⟨v,r',σ',bl',rfl,⟨rfl,rfl⟩,hcl,_,hv,hst,_,_⟩:=hh
 refine ⟨v,rfl,hv.tr (Tr.of_iff (fun b=>(hm _ b).symm)) (fun id hid=>?_),⟨hst.size,fun b hb _=>hst.keep b hb (fun hx=>by obtain ⟨id,o,hi,_⟩:=hx;simp [ae] at hi),hst.shape,hst.os,hst.out⟩⟩
 have:=hcl.1 id (i1 hid)
 simp [ae] at this
theorem aj.of {f:FuncId} {args:List AV} {r:AV} (h:∀(w:World) (bl:Nat→Option Nat) (M:Nat→Prop) (cargs:List Value),(aX.T P).H w→(∀b,M b→b<w.heap.size)→aK (aT bl M w) cargs args →
   Calls P f cargs.toArray w fun e w'=>∃v,e = .returned v∧gG No w w'∧aT (fun _=>none) M w' v r) (hid:aF r=[]):aj P f args r:=by
 intro bl MF w cargs hH _ _ hMF ha
 have hm:∀(bl:Nat→Option Nat) b,aY bl MF (ae []) b↔MF b:=fun bl b=>fO _ b
 refine (h w bl MF cargs hH hMF (ha.mono fun _ _ _ hr=>hr.tr (Tr.of_iff (fun b=>(hm _ b).symm)) (fun _ _=>rfl))).mono fun e w' hh=>?_
 obtain ⟨v,rfl,hst,hv⟩:=hh
 refine ⟨v,r,[],bl,rfl,⟨rfl,rfl⟩,(⟨fun i hi=>(by rw [hid] at hi;cases hi),fun p hp=>absurd hp List.not_mem_nil⟩:iQ r []),⟨fun id o hi=>by simp [ae] at hi,fun id id' o o' b hi=>by simp [ae] at hi⟩,?_,?_,fun id o b hi=>by simp [ae] at hi,fun _ h=>h.elim⟩
 ·refine hv.tr (Tr.of_iff (fun b=>hm _ b)) (fun id hi=>?_)
  have:=i1 hi
  rw [hid] at this
  cases this
 ·exact ⟨hst.size,fun b hb _=>hst.keep b hb (fun h=>h),hst.shape,hst.os,hst.out⟩
end
section
def uY (T:Nat→Prop) (N:Nat) (W W':World):Prop:=W.heap.size≤W'.heap.size∧(∀(b:Nat) (o:Obj),N≤b→W.heap[b]? = some o→W'.heap[b]? = some o)∧∀b,T b→W'.heap[b]? = W.heap[b]?
section
variable {T:Nat→Prop}
theorem uY.refl (N:Nat) (W:World):uY T N W W:=⟨aB _,fun _ _ _ h=>h,fun _ _=>rfl⟩
theorem uY.trans {N:Nat} {A B C:World} (h:uY T N A B) (k:uY T N B C):uY T N A C:=⟨gc h.1 k.1,fun b o hb hc=>k.2.1 b o hb (h.2.1 b o hb hc),fun b hb=>(k.2.2 b hb).trans (h.2.2 b hb)⟩
theorem uY.mono {N N':Nat} {A B:World} (h:uY T N A B) (hn:N≤N'):uY T N' A B:=⟨h.1,fun b o hb=>h.2.1 b o (gc hn hb),h.2.2⟩
theorem uY.putObj (N:Nat) (W:World) (l:Nat) (o':Obj) (hl:l<N) (hT:∀b,T b→b<l):uY T N W (W.putObj l o') :=
 ⟨by simp [World.putObj],fun b o hb h=>by rw [World.putObj_heap_other (by omega)];exact h,fun b hb=>World.putObj_heap_other (by have:=hT b hb;omega)⟩
theorem uY.setCell (N:Nat) (W:World) (a:Addr) (v:Value) (hl:a.block<N) (hT:∀b,T b→b<a.block):uY T N W (W.setCell a v) :=
 ⟨by simp [World.setCell],fun b o hb h=>by
  simp only [World.setCell,kF,aV (show ¬a.block=b by omega)];exact h,
 fun b hb=>by simp only [World.setCell,kF,aV (show ¬a.block=b by have:=hT b hb;omega)]⟩
end
variable {n:Nat} {P:Program} [aX P]
end
section
variable {P:Program} [aX P] {X:Type}
theorem Dj {f:FuncId} {args:List AV} {Sb:Nat→Prop} {r:X→AV} {Q:X→Prop} {d:Option Nat} {s:St} {K:St→Prop}
  (h:br P f args [] Sb (fun r' σ'=>∃x,Q x∧r'=r x∧σ'=[])) (hK:∀x,Q x→K (s.put d (r x))):ek P f args d s K:=by
 refine .inl (.inr ⟨[],_,_,[],h,(fun id o hh=>by cases hh),?_,?_⟩)
 ·rintro r' σ' ⟨x,hx,rfl,rfl⟩ id hid;cases hid
 ·rintro r' σ' ⟨x,hx,rfl,rfl⟩
  refine ⟨⟨i4 [] s.env,iH [] s.heap⟩,fun k=>kO k [] s.env,fun i=>?_,hK x hx⟩
  show ae (iH [] s.heap) i=Option.map (dT []) (ae s.heap i)
  rw [jS]
end
inductive Nd:AV→AV→Prop where
 | rfl (x:AV):Nd x x
 | nl (st:Nat):Nd .nl (.sl st [])
 | sl (st:Nat) (rows rows':List (List AV)) (hl:rows.length=rows'.length) (hr:∀(i:Nat) (r r':List AV),rows[i]? = some r→rows'[i]? = some r'→r.length=r'.length)
   (hx:∀(i j:Nat) (r r':List AV) (x y:AV),rows[i]? = some r→rows'[i]? = some r'→r[j]? = some x→r'[j]? = some y→Nd x y):Nd (.sl st rows) (.sl st rows')
theorem IRel.nd {M:Nat→Prop} {w:World} {x y:AV} (h:Nd x y):∀{v:Value},IRel M w v x→IRel M w v y:=by
 induction h with
 | rfl x=>exact fun h=>h
 | nl st=>exact fun h=>IRel.nl_sl h st
 | sl st rows rows' hl hr hx ih =>
  intro v h
  cases h with
  | nls=>obtain rfl:rows'=[]:=tJ (by simpa using hl.symm);exact .nls st
  | sl0 _ a cap=>obtain rfl:rows'=[]:=tJ (by simpa using hl.symm);exact .sl0 st a cap
  | sl b off cap _ c t fr _ vs hb hM hle hrl hv hxx =>
   rw [hl]
   have get:∀{i:Nat} {r':List AV},rows'[i]? = some r'→∃r,rows[i]? = some r:=fun {i r'} h=>by
    have hi:i<rows'.length:=by
     rcases cB i rows'.length with q | q
     ·exact q
     ·rw [List.getElem?_eq_none q] at h;cases h
    exact ⟨rows[i]'(by omega),fu _⟩
   refine .sl b off cap st c t fr rows' vs hb hM (by omega) (fun i r' hi=>?_) (fun i j hi hj=>hv i j (by omega) hj) (fun i j r' y hi hj=>?_)
   ·obtain ⟨r,hr2⟩:=get hi
    rw [← hr i r r' hr2 hi]
    exact hrl i r hr2
   ·obtain ⟨r,hr2⟩:=get hi
    have hjl:j<r.length:=by
     rw [hr i r r' hr2 hi]
     rcases cB j r'.length with q | q
     ·exact q
     ·rw [List.getElem?_eq_none q] at hj;cases hj
    exact ih i j r r' _ y hr2 hi (fu hjl) hj (hxx i j r _ hr2 (fu hjl))
theorem bA.nd {bl:Nat→Option Nat} {M:Nat→Prop} {w:World} {v:Value} {x y:AV} (h:Nd x y) (hr:bA bl M w v x):bA bl M w v y:=by
 cases h with
 | rfl=>exact hr
 | nl st=>exact IRel.nd (.nl st) (show IRel M w v .nl from hr)
 | sl st rows rows' h1 h2 h3=>exact IRel.nd (.sl st rows rows' h1 h2 h3) (show IRel M w v (.sl st rows) from hr)
def Jq (x y:AV):Prop:=Nd x y∨∃l m,x = .agg l∧y = .agg m∧aK Nd l m
theorem EM {bl:Nat→Option Nat} {M:Nat→Prop} {w:World} {v:Value} {x y:AV} (h:Jq x y) (hr:aT bl M w v x):aT bl M w v y:=by
 rcases h with h | ⟨l,m,rfl,rfl,h⟩
 ·cases h with
  | rfl=>exact hr
  | nl st=>exact IRel.nd (.nl st) (show IRel M w v .nl from hr)
  | sl st rows rows' h1 h2 h3=>exact IRel.nd (.sl st rows rows' h1 h2 h3) (show IRel M w v (.sl st rows) from hr)
 ·obtain ⟨cs,h1,h2⟩:=hr
  refine ⟨cs,h1,?_⟩
  clear h1
  induction cs generalizing l m with
  | nil=>match l,m,h,h2 with | [],[],_,_=>trivial
  | cons c cs ih=>match l,m,h,h2 with | a :: l,b :: m,h,h2=>exact ⟨bA.nd h.1 h2.1,ih l m h.2 h2.2⟩
theorem rz {bl:Nat→Option Nat} {M:Nat→Prop} {w:World}:∀{vs:List Value} {l m:List AV},aK Jq l m→aK (aT bl M w) vs l→aK (aT bl M w) vs m
 | [],[],[],_,_=>trivial
 | v :: vs,x :: l,y :: m,h,hr=>⟨EM h.1 hr.1,rz h.2 hr.2⟩
 | [],[],_ :: _,h,_=>h.elim
 | [],_ :: _,_,_,hr=>hr.elim
 | _ :: _,[],_,_,hr=>hr.elim
 | _ :: _,_ :: _,[],h,_=>h.elim
theorem dX {P:Program} [aX P] {f:FuncId} {xs ys:List AV} {r:AV} (hp:aj P f ys r) (h:aK Jq xs ys):aj P f xs r :=
 fun bl MF w cargs h1 h2 h3 h4 h5=>hp bl MF w cargs h1 h2 h3 h4 (rz h h5)
theorem Nd.map {α:Type} (st:Nat) (f g:α→List AV) (l:List α) (h:∀a∈l,aK Nd (f a) (g a)):Nd (.sl st (l.map f)) (.sl st (l.map g)):=by
 refine .sl st _ _ (by simp) (fun i r r' h1 h2=>?_) (fun i j r r' x y h1 h2 h3 h4=>?_)
 ·simp only [cQ,cq] at h1 h2
  obtain ⟨a,e1,rfl⟩:=h1
  obtain ⟨b,e2,rfl⟩:=h2
  obtain rfl:=Option.some.inj (e1.symm.trans e2)
  exact (h a (gE e1)).length
 ·simp only [cQ,cq] at h1 h2
  obtain ⟨a,e1,rfl⟩:=h1
  obtain ⟨b,e2,rfl⟩:=h2
  obtain rfl:=Option.some.inj (e1.symm.trans e2)
  obtain ⟨x',e3,e4⟩:=(h a (gE e1)).get h4
  obtain rfl:=Option.some.inj (h3.symm.trans e3)
  exact e4
def dS (n:Nat):aS→aS
 | .draw ops al dr=>match ops with
  | ⟨⟨some d,op,g⟩,b⟩ :: r=>if d=n then .free (⟨⟨some d,op,g⟩,b⟩ :: r) al dr else .draw (⟨⟨some d,op,g⟩,b⟩ :: r) al dr
  | ops=>.draw ops al dr
 | .seq x y=>.seq (dS n x) (dS n y)
 | .cond c x y=>.cond c (dS n x) (dS n y)
 | .block id x=>.block id (dS n x)
 | .loop x=>.loop (dS n x)
 | x=>x
theorem sJ (n d:Nat) (op:eV) (g:Option (Nat×Bool)) (b:List Nat) (r:List av) (al:List (Nat×Nat)) (dr:List Nat) :
  dS n (.draw (⟨⟨some d,op,g⟩,b⟩ :: r) al dr)=if d=n then .free (⟨⟨some d,op,g⟩,b⟩ :: r) al dr else .draw (⟨⟨some d,op,g⟩,b⟩ :: r) al dr:=aR rfl
theorem vW (n:Nat) (x y:aS):dS n (.seq x y) = .seq (dS n x) (dS n y):=aR rfl
theorem sH (n:Nat) (c:IV) (x y:aS):dS n (.cond c x y) = .cond c (dS n x) (dS n y):=aR rfl
theorem qZ (n id:Nat) (x:aS):dS n (.block id x) = .block id (dS n x):=aR rfl
theorem sL (n:Nat) (x:aS):dS n (.loop x) = .loop (dS n x):=aR rfl
theorem sM (n:Nat):dS n .skip = .skip:=aR rfl
theorem vV (n:Nat):dS n .ret = .ret:=aR rfl
theorem sK (n id:Nat):dS n (.exit id) = .exit id:=aR rfl
theorem vU (n:Nat) (ops:List aH) (dr:List Nat):dS n (.reg ops dr) = .reg ops dr:=aR rfl
def Bz (b:List Nat) (R:List (Nat×av)):Bool:=R.all fun q=>!b.contains q.1
theorem BA (b:List Nat):Bz b []=true:=aR rfl
theorem wS (b:List Nat) (i:Nat) (o:av) (R:List (Nat×av)):Bz b ((i,o) :: R)=(!b.contains i&&Bz b R):=aR rfl
def qd (R:List (Nat×av)):List (Nat×av)→List (Nat×av)
 | []=>[]
 | t :: L=>if Bz t.2.bef R=true then t :: qd R L else qd R L
theorem BB (R:List (Nat×av)):qd R []=[]:=aR rfl
theorem wT (R:List (Nat×av)) (i:Nat) (o:aH) (b:List Nat) (L:List (Nat×av)):qd R ((i,⟨o,b⟩) :: L)=if Bz b R=true then (i,⟨o,b⟩) :: qd R L else qd R L:=aR rfl
theorem M8 (R:List (Nat×av)):M7 R=qd R R:=by
 have:∀L,L.filter (fun t:Nat×av=>R.all fun q=>!t.2.bef.contains q.1)=qd R L:=by
  intro L
  induction L with
  | nil=>rfl
  | cons t L ih =>
   rw [List.filter_cons,ih]
   rfl
 exact this R
def m9 (i:Nat):List (Nat×av)→List (Nat×av)
 | []=>[]
 | t :: L=>if t.1=i then m9 i L else t :: m9 i L
theorem yY (i:Nat):m9 i []=[]:=aR rfl
theorem vN (i j:Nat) (o:av) (L:List (Nat×av)):m9 i ((j,o) :: L)=if j=i then m9 i L else (j,o) :: m9 i L:=aR rfl
theorem sF (R:List (Nat×av)) (i:Nat):(R.filter fun q=>q.1 != i)=m9 i R:=by
 induction R with
 | nil=>rfl
 | cons t R ih =>
  rw [List.filter_cons,ih,show m9 i (t :: R)=if t.1=i then m9 i R else t :: m9 i R from rfl]
  by_cases h:t.1=i
  ·rw [bz h,aV (by simp [h])]
  ·rw [aV h,bz (by simp [h])]
section
variable {P:Program} [aX P]
theorem DC (f:Nat) (R:List (Nat×av)) (s:St) (K:St→Prop) (i:Nat) (o:aH) (b:List Nat):t8 P f R s K (i,⟨o,b⟩)=ee P [o] s (ur P f (m9 i R) K):=by rw [DD,sF]
theorem DN (f:Nat) (R:List (Nat×av)) (s:St) (K:St→Prop):iE P (f+1) R s K=jA (qd R R) (t8 P f R s K):=by rw [DO,M8]
def oW:Nat→List av→List (Nat×av)
 | _,[]=>[]
 | i,o :: r=>(i,o) :: oW (i+1) r
theorem vO (i:Nat):oW i []=[]:=aR rfl
theorem sA (i:Nat) (o:av) (r:List av):oW i (o :: r)=(i,o) :: oW (i+1) r:=aR rfl
theorem vP (r:List av):∀i,((r.zipIdx i).map fun p=>(p.2,p.1))=oW i r:=by
 induction r with
 | nil=>intro i;rfl
 | cons o r ih=>intro i;rw [List.zipIdx_cons,dP,ih];rfl
theorem wy (ops:List av) (al:List (Nat×Nat)) (dr:List Nat) (s:St) (K:IX→St→Prop):fD P (.free ops al dr) s K=iE P ops.length (oW 0 ops) s (wA dr K):=by rw [Ap,vP]
end
attribute [go_sem] sJ vW sH qZ sL sM vV sK vU BA wS BB wT yY vN DC DM DN Ep Dk Dl vO sA wy
attribute [go_sem] List.contains_cons List.contains_nil oh kC
structure Bk (H:Type) where
 f:DataW H→Nat
 str:∀l:List UInt8,l.length≤f (.lit (.string l))
 sl:∀es sp,es.length≤f (.slice es sp)
 sle:∀es sp d,d∈es→f d≤f (.slice es sp)
 ag:∀ps d,d∈ps→f d≤f (.agg ps)
def Ty.bd (B:Nat):Ty→List AV→Prop
 | .str,xs=>∀s,xs=[.str s]→s.length≤B
 | .sl e,xs=>∀st rows,xs=[.sl st rows]→rows.length≤B∧∀r∈rows,e.bd B r
 | .cons f r,xs=>f.bd B (xs.take f.n)∧r.bd B (xs.drop f.n)
 | _,_=>True
def Ty.bdV (B:Nat) (τ:Ty) (x:AV):Prop:=match τ.isRec with
 | true=>∀xs,x = .agg xs→τ.bd B xs
 | false=>τ.bd B [x]
section
variable {H:Type} {enc:TypeId×Value→H} {P:Program} {w:World} {base:Nat} {sp:Nat→Bool} {held:Bool}
end
section
variable {H:Type} {enc:TypeId×Value→H} {P:Program} [aX P] {w:World} {base:Nat} {sp:Nat→Bool} {held:Bool}
end
section
variable {H:Type} {enc:TypeId×Value→H} {P:Program} [aX P] {w:World}
end
def wW (ρ:Nat→Nat):List (Nat×AV)→List (Nat×AV)
 | []=>[]
 | (k,x) :: r=>(k,i8 ρ x) :: wW ρ r
theorem ra (ρ:Nat→Nat) (k:Nat):∀e:List (Nat×AV),get (wW ρ e) k=i8 ρ (get e k)
 | []=>rfl
 | (j,x) :: r=>by
  simp only [wW,get]
  split
  ·rfl
  ·exact ra ρ k r
theorem Wk.ren (s:St) (ps:List (Nat×Nat)) (h:∀id,1000≤id→id<2000→bw ps id=id):Wk s ⟨wW (fw ps) s.env,f8 (fw ps) s.heap⟩:=by
 rintro c a w ⟨bl,hs⟩
 have hb:∀i,(fun i=>bl (bw ps i)) (fw ps i)=bl i:=fun i=>by simp only [qR]
 have hm:∀b,aY (fun i=>bl (bw ps i)) c.MF (ae (f8 (fw ps) s.heap)) b→aY bl c.MF (ae s.heap) b:=fun b hm=>nR (qR ps) (ue ps) hb b hm
 refine ⟨fun i=>bl (bw ps i),hs.defers,hs.size,fun k=>?_,nS (qR ps) (ue ps) hs.heap hb hm,hs.step,fun id o b hi hq=>?_,fun id h1 h2=>?_,hs.mf⟩
 ·show aT _ _ _ _ (get (wW (fw ps) s.env) k)
  rw [ra]
  exact nU (hs.env k) hb hm
 ·rw [eQ (qR ps) (ue ps)] at hi
  simp only [cq] at hi
  obtain ⟨o0,h5,_⟩:=hi
  exact hs.own _ o0 b h5 hq
 ·show bl (bw ps id)=_
  rw [h id h1 h2]
  exact hs.stab id h1 h2
def FP (P:Program):Nat→TypeId→Bool
 | 0,_=>true
 | f+1,t=>match P.underlying t with
  | some (.slice e)=>decide (0<P.bytesOf e)&&FP P f e
  | some (.struct fs)=>fs.toList.all fun x=>FP P f x.type
  | _=>true
theorem rV {H:Type} {P:Program} {e:TypeId} {d:DataW H} {n:Nat}:∀{l:List (DataW H)},d∈l→n∈DataW.weights P e d→n∈DataW.weightsAll P e l
 | x :: l,h,hn=>by
  rw [DataW.weightsAll,dw]
  rcases cj.1 h with rfl | h
  ·exact .inl hn
  ·exact .inr (rV h hn)
theorem pu {H:Type} {P:Program}:∀(ts us:List TypeId) (ds gs:List (DataW H)) {n:Nat},n∈DataW.weightsEach P ts ds→n∈DataW.weightsEach P (ts++us) (ds++gs)
 | [],us,ds,gs,n,h=>by cases ds<;>simp [DataW.weightsEach] at h
 | t :: ts,us,[],gs,n,h=>by simp [DataW.weightsEach] at h
 | t :: ts,us,d :: ds,gs,n,h=>by
  simp only [r6,DataW.weightsEach,dw] at h ⊢
  exact h.imp_right fun h=>pu ts us ds gs h
theorem B9 {H:Type} {P:Program} {ts us:List TypeId} {ds gs:List (DataW H)} {B:Nat} (h:(DataW.weightsEach P (ts++us) (ds++gs)).all (·≤B)=true):∀n∈DataW.weightsEach P ts ds,n≤B:=fun n hn=>of_decide_eq_true (de.1 h n (pu ts us ds gs hn))
section
variable {H:Type} {enc:TypeId×Value→H} {P:Program} {w:World} {base:Nat} {sp:Nat→Bool} {held:Bool}
theorem qX {B:Nat} {g:TypeId→Option Ty} {h:TypeId→Bool} {r:TypeId→List Value→Option (DataW H×List MemPlace)}
  (ih:∀t cs τ x xs,g t=some τ→h t=true→r t cs=some x→τ.ok xs→aK (IRel (fun _=>False) w) cs xs→(∀n∈DataW.weights P t x.1,n≤B)→τ.bd B xs) (cs:List Value) :
  ∀(fs:List Field) (off:Nat) (τ:Ty) (xs:List (DataW H×List MemPlace)) (ys:List AV),od g P off fs=some τ→(fs.all fun x=>h x.type)=true→(fs.mapM fun f=>r f.type ((cs.drop f.offset).take (P.cellsOf f.type)))=some xs →
   τ.ok ys→aK (IRel (fun _=>False) w) (cs.drop off) ys→(∀n∈DataW.weightsEach P (fs.map (·.type)) (xs.map (·.1)),n≤B)→τ.bd B ys
 | [],off,τ,xs,ys,ht,_,_,_,_,_=>by
  simp only [od,bO] at ht
  subst ht
  trivial
 | f :: fs,off,τ,xs,ys,ht,hw,hm,hok,hr,hB=>by
  rw [List.all_cons,dK] at hw
  simp only [od] at ht
  split at ht
  case isFalse=>cases ht
  rename_i hoff
  split at ht
  case h_2=>cases ht
  rename_i a b ha hb
  split at ht
  case isFalse=>cases ht
  rename_i hsz
  cases ht
  simp only [List.mapM_cons,bind,jd,pure,bO] at hm
  obtain ⟨y,h1,zs,h2,rfl⟩:=hm
  simp only [dP,DataW.weightsEach,dw] at hB
  obtain ⟨y1,y2,rfl,o1,o2⟩:=hok
  have hl:=Ty.ok_len a y1 o1
  have r1:=hr.take a.n
  have r2:=hr.drop a.n
  rw [List.take_left' hl] at r1
  rw [List.drop_left' hl,List.drop_drop] at r2
  refine ⟨?_,?_⟩
  ·rw [List.take_left' hl]
   rw [hoff] at h1
   rw [hsz] at r1
   exact ih _ _ _ _ _ ha hw.1 h1 o1 r1 fun n hn=>hB n (.inl hn)
  ·rw [List.drop_left' hl]
   rw [hsz] at r2
   exact qX ih cs fs (off+P.cellsOf f.type) b zs y2 hb hw.2 h2 o2 r2 fun n hn=>hB n (.inr hn)
theorem Kh {B:Nat}:∀(fuel f:Nat) (t:TypeId) (cs:List Value) (τ:Ty) (x:DataW H×List MemPlace) (xs:List AV),iO P f t=some τ→FP P f t=true→DataW.trod enc P w base sp held fuel t cs=some x→τ.ok xs →
  aK (IRel (fun _=>False) w) cs xs→(∀n∈DataW.weights P t x.1,n≤B)→τ.bd B xs:=by
 intro fuel
 induction fuel with
 | zero=>intro f t cs τ x xs _ _ h;simp [DataW.trod] at h
 | succ fuel ih =>
  intro f t cs τ x xs ht hw h hok hr hB
  cases f with
  | zero=>simp [iO] at ht
  | succ f =>
   simp only [iO] at ht
   split at ht
   case h_1 hu=>cases ht;trivial
   case h_2 k' hu=>cases ht;trivial
   case h_3 hu =>
    cases ht
    unfold DataW.trod at h
    split at h<;>rename_i heq<;>first | (rw [hu] at heq;cases heq;done) | (cases h;done) | skip
    rename_i s
    split at h
    ·cases h
     intro s' hs
     subst hs
     have h1:=hr.1
     cases h1
     exact hB _ (by simp [DataW.weights])
    ·cases h
   case h_4 e hu =>
    simp only [FP,hu,dK,j6] at hw
    split at ht
    case h_2=>cases ht
    rename_i a ha
    split at ht
    case isFalse=>cases ht
    rename_i hsz
    cases ht
    unfold DataW.trod at h
    split at h<;>rename_i heq<;>first | (rw [hu] at heq;cases heq;done) | (cases h;done) | skip
    ·intro st rows hs
     subst hs
     have h1:=hr.1
     cases h1
     exact ⟨cC _,fun r hr=>by cases hr⟩
    ·rename_i e1 ad len cap
     rw [hu] at heq
     cases heq
     simp only at h
     split at h
     case isFalse=>cases h
     rename_i hcap
     simp only [jd,cq] at h
     obtain ⟨elems,hel,rest,_,rfl⟩:=h
     obtain ⟨hlen,ae⟩:=jW hel
     intro st rows hs
     subst hs
     have h1:=hr.1
     simp only [DataW.weights,hu,cj,dw] at hB
     have hall:∀y∈elems,∀n∈DataW.weights P e y.1,n≤B:=fun y hy n hn=>hB n (.inr (.inl (rV (List.mem_map.2 ⟨y,hy,rfl⟩) hn)))
     have hln:elems.length≤B:=by
      have h2:=hB _ (.inl rfl)
      have h3:=hw.1
      rw [fz] at h2
      exact gc (gc (Nat.le_add_right _ _) (Nat.le_mul_of_pos_right _ h3)) h2
     have hrok:∀r∈rows,a.ok r:=by
      rcases hok with hok | ⟨rows',hok,_,h3⟩
      ·cases hok
      ·cases hok;exact h3
     have hst:st=a.n∨rows=[]:=by
      rcases hok with hok | ⟨rows',hok,_,_⟩
      ·cases hok
      ·cases hok;exact .inl rfl
     cases h1 with
     | sl0=>exact ⟨cC _,fun r hr=>by cases hr⟩
     | sl bk of _ _ c tt fr _ vs hb hM hl hrl hv hx =>
      refine ⟨by omega,fun r hrm=>?_⟩
      obtain ⟨i,hi,hri⟩:=List.getElem_of_mem hrm
      have hri':rows[i]? = some r:=by rw [fu hi,hri]
      obtain ⟨y,g1,g2⟩:=ae i (by omega)
      simp only [jd] at g2
      obtain ⟨row,g3,g4⟩:=g2
      have hym:y∈elems:=gE g1
      refine ih f e row a y r ha hw.2 g4 (hrok r hrm) ?_ (hall y hym)
      have hst':st=a.n:=hst.resolve_right (fun h=>by rw [h] at hi;simp at hi)
      obtain ⟨q1,q2⟩:=oS g3
      have hblk:∀(q:Addr) m,(q.add m).block=q.block:=fun q m=>by unfold Addr.add;split<;>rfl
      have hoff:∀(q:Addr) m,(q.add m).off=q.off+m:=fun q m=>by
       unfold Addr.add
       split
       ·rename_i hm;simp [hm]
       ·rfl
      refine aK.of_get (by rw [q1,Ty.ok_len a r (hrok r hrm),hsz.1]) (fun j v x hv' hx'=>?_)
      have hj:j<P.cellsOf e:=by
       have:=(dL.1 hv').1
       omega
      obtain ⟨v',p1,p2⟩:=q2 j hj
      rw [hv'] at p1
      cases p1
      obtain ⟨_,c',t',fr',p3,p4⟩:=m7 p2
      rw [hblk,hblk] at p3
      simp only at p3
      rw [hb] at p3
      cases p3
      rw [hoff,hoff] at p4
      simp only at p4
      have:=hv i j hi (by rw [hst',hsz.1];exact hj)
      rw [hst',hsz.1,p4] at this
      cases this
      exact hx i j r x hri' hx'
   case h_5 fs hu =>
    simp only [FP,hu] at hw
    split at ht
    case h_2=>cases ht
    rename_i a ha
    split at ht
    case isFalse=>cases ht
    rename_i hsz
    cases ht
    unfold DataW.trod at h
    split at h<;>rename_i heq<;>first | (rw [hu] at heq;cases heq;done) | (cases h;done) | skip
    ·rename_i cs1 fs1
     rw [hu] at heq
     cases heq
     split at h
     case isFalse=>cases h
     rename_i hcl
     simp only [cq] at h
     obtain ⟨ys,h1,rfl⟩:=h
     refine qX (P:=P) (g:=iO P f) (h:=FP P f) (r:=fun t cs=>DataW.trod enc P w base sp held fuel t cs) (fun t cs τ x xs=>ih f t cs τ x xs) _ _ 0 _ ys xs ha hw h1 hok (by simpa using hr) fun n hn=>hB n ?_
     simpa only [DataW.weights,hu] using hn
   case h_6=>cases ht
end
section
variable {H:Type} {enc:TypeId×Value→H} {P:Program} [aX P] {w:World} {base:Nat} {sp:Nat→Bool} {held:Bool}
theorem Dc {B:Nat} {f:Nat} {t:TypeId} {τ:Ty} {r:Reach} {b:Nat} {v:Value} {d:DataW H} {p:List MemPlace} (ht:iO P f t=some τ) (hw:FP P f t=true) (hv:Value.okWide P w r b t v) (h:DataW.Trod enc P w base sp held t v d p) (hB:∀n∈DataW.weights P t d,n≤B) :
  ∃x,τ.okV x∧τ.bdV B x∧aT (fun _=>none) (fun _=>False) w v x:=by
 obtain ⟨fuel,h⟩:=h
 obtain ⟨xs,h1,h2⟩:=FL fuel f t _ _ _ ht h
 have hb:=Kh fuel f t _ _ _ xs ht hw h h1 h2 hB
 have one:τ.isRec=false→v.cells.toList=[v]→∃x,τ.okV x∧τ.bdV B x∧aT (fun _=>none) (fun _=>False) w v x:=fun hr hc=>by
  rw [hc] at h2
  match xs,h2 with
  | [x],h2=>exact ⟨x,by unfold Ty.okV;rw [hr];exact h1,by unfold Ty.bdV;rw [hr];exact hb,h2.1.toV⟩
 cases f with
 | zero=>simp [iO] at ht
 | succ f =>
  simp only [iO] at ht
  unfold Value.okWide at hv
  split at ht
  ·rename_i hu
   rw [hu] at hv
   cases ht
   exact one rfl (by
    unfold Cell.okWide at hv;rw [hu] at hv
    simp only [Cell.ok,hu] at hv
    cases v<;>first | rfl | exact hv.elim)
  ·rename_i k hu
   rw [hu] at hv
   cases ht
   exact one rfl (by
    unfold Cell.okWide at hv;rw [hu] at hv
    simp only [Cell.ok,hu] at hv
    cases v<;>first | rfl | exact hv.elim)
  ·rename_i hu
   rw [hu] at hv
   cases ht
   exact one rfl (by
    unfold Cell.okWide at hv;rw [hu] at hv
    simp only [Cell.ok,hu] at hv
    cases v<;>first | rfl | exact hv.elim)
  ·rename_i e hu
   rw [hu] at hv
   have hr:τ.isRec=false:=by
    split at ht
    case h_2=>cases ht
    split at ht
    case isFalse=>cases ht
    cases ht
    rfl
   exact one hr (by
    unfold Cell.okWide at hv;rw [hu] at hv
    simp only [Cell.ok,hu] at hv
    cases v<;>first | rfl | exact hv.elim)
  ·rename_i fs hu
   rw [hu] at hv
   have hr:τ.isRec=true:=by
    split at ht
    case h_2=>cases ht
    rename_i hfs
    split at ht
    case isFalse=>cases ht
    cases ht
    exact tz hfs
   obtain ⟨cs,rfl,_,_⟩:=hv
   refine ⟨.agg xs,by unfold Ty.okV;rw [hr];exact ⟨xs,rfl,h1⟩,by unfold Ty.bdV;rw [hr];intro ys hy;cases hy;exact hb,cs.toList,by simp,?_⟩
   exact aK.mono h2 fun a x _ h=>h.toC
  ·cases ht
theorem qQ {B:Nat} {r:Reach} {b:Nat}:∀{ts:List TypeId} {τs:List Ty} {vs:List Value} {ds:List (DataW H)} {ps:List MemPlace},aK (fun t τ=>iO P 9 t=some τ∧FP P 9 t=true) ts τs →
  DataW.TrodAll enc P w base sp held ts vs ds ps→(∀(j:Nat) t v,ts[j]? = some t→vs[j]? = some v→Value.okWide P w r b t v)→(∀n∈DataW.weightsEach P ts ds,n≤B)→∃xs,aK Ty.okV τs xs∧aK (Ty.bdV B) τs xs∧aK (aT (fun _=>none) (fun _=>False) w) vs xs
 | [],[],[],ds,ps,_,h,_,_=>⟨[],trivial,trivial,trivial⟩
 | t :: ts,τ :: τs,v :: vs,d :: ds,ps,ht,h,hv,hB=>by
  obtain ⟨p,q,h3,h4,rfl⟩:=h
  simp only [DataW.weightsEach,dw] at hB
  obtain ⟨x,h5,h5b,h6⟩:=Dc ht.1.1 ht.1.2 (hv 0 t v rfl rfl) h3 fun n hn=>hB n (.inl hn)
  obtain ⟨xs,h7,h7b,h8⟩:=qQ ht.2 h4 (fun j t v h1 h2=>hv (j+1) t v (by simpa using h1) (by simpa using h2)) fun n hn=>hB n (.inr hn)
  exact ⟨x :: xs,⟨h5,h7⟩,⟨h5b,h7b⟩,h6,h8⟩
 | [],[],_ :: _,_,_,_,h,_,_=>h.elim
 | _ :: _,[],_,_,_,ht,_,_,_=>ht.elim
 | [],_ :: _,_,_,_,ht,_,_,_=>ht.elim
 | _ :: _,_ :: _,[],_,_,_,h,_,_=>h.elim
 | _ :: _,_ :: _,_ :: _,[],_,_,h,_,_=>h.elim
end
section
variable {H:Type} {enc:TypeId×Value→H} {P:Program} [aX P] {w:World}
theorem oy {B:Nat} {fid:FuncId} {f:Func} {s:ChangeSpec} (τs:List Ty) {tb:TypeId} {apart fresh handsOn again:Bool} (hty:aK (fun t τ=>iO P 9 t=some τ∧FP P 9 t=true) f.params.toList τs) (hl:laidOutB P=true)
  (hr:∀t∈f.params.toList,P.readableRec t=true∧t<P.types.size) (hvs:s.vars=[])
  (hfn:∀ds:List (DataW H),ds.length=τs.length→(s.fn H ds).results=[.lit (.bool true)]∧(s.fn H ds).args=ds∧(s.fn H ds).vars=[])
  (hrt:f.resultTypes = #[tb]) (htb:P.underlying tb=some .bool)
  (hp:∀xs,aK Ty.okV τs xs→aK (Ty.bdV B) τs xs→aj P fid xs (.bool true))
  (W:World) (b:Nat) (args:Array Value) (ds gs:List (DataW H)) (before:List MemPlace) {r:Reach} (hT:(aX.T P).H W)
  (hval:∀(j:Nat) t v,f.params[j]? = some t→args[j]? = some v→Value.okWide P W r b t v)
  (hW:DataW.Whole enc P f.params.toList s.vars apart W args.toList ds gs before) (hB:∀n∈DataW.weightsEach P f.params.toList ds,n≤B) :
  Calls P fid args W fun e W'=>∃v,e = .returned v∧s.post enc P f apart fresh handsOn again W args v W':=by
 have hW':=hW
 obtain ⟨p,q,hA,hV,_,_,_⟩:=hW
 rw [hvs] at hV
 obtain ⟨rfl,rfl⟩:=trodVars_none hV
 obtain ⟨xs,h1,h1b,h2⟩:=qQ hty hA (fun j t v h1 h2=>hval j t v (by simpa using h1) (by simpa using h2)) hB
 have h4:=hp xs h1 h1b
 have hlen:ds.length=τs.length:=by
  have key:∀{ts:List TypeId} {vs:List Value} {ds:List (DataW H)} {ps:List MemPlace},DataW.TrodAll enc P W 0 (fun _=>true) true ts vs ds ps→ds.length=ts.length:=by
   intro ts
   induction ts with
   | nil=>intro vs ds ps h;match vs,ds,h with | [],[],_=>rfl
   | cons t ts ih=>intro vs ds ps h;match vs,ds,h with | v :: vs,d :: ds,⟨_,_,_,h4,_⟩=>simp [ih h4]
  rw [key hA,hty.length]
 obtain ⟨g1,g2,g3⟩:=hfn ds hlen
 have:=rD h4 hT h2
 rw [show args.toList.toArray=args from by simp] at this
 refine this.mono fun e W' ⟨he,hk⟩=>⟨_,he,?_⟩
 exact Au hl hr hvs (by simpa using g1) (by simpa using g2) (by simpa using g3) hrt htb hW' hk
end
def dp (n:Nat):aS→aS
 | .draw ops al dr=>match ops with
  | ⟨⟨some d,op,g⟩,b⟩ :: r=>if d=n then .wild (⟨⟨some d,op,g⟩,b⟩ :: r) al dr else .draw (⟨⟨some d,op,g⟩,b⟩ :: r) al dr
  | ops=>.draw ops al dr
 | .seq x y=>.seq (dp n x) (dp n y)
 | .cond c x y=>.cond c (dp n x) (dp n y)
 | .block id x=>.block id (dp n x)
 | .loop x=>.loop (dp n x)
 | x=>x
theorem tB (n d:Nat) (op:eV) (g:Option (Nat×Bool)) (b:List Nat) (r:List av) (al:List (Nat×Nat)) (dr:List Nat) :
  dp n (.draw (⟨⟨some d,op,g⟩,b⟩ :: r) al dr)=if d=n then .wild (⟨⟨some d,op,g⟩,b⟩ :: r) al dr else .draw (⟨⟨some d,op,g⟩,b⟩ :: r) al dr:=aR rfl
theorem xd (n:Nat) (x y:aS):dp n (.seq x y) = .seq (dp n x) (dp n y):=aR rfl
theorem tA (n:Nat) (c:IV) (x y:aS):dp n (.cond c x y) = .cond c (dp n x) (dp n y):=aR rfl
theorem rX (n id:Nat) (x:aS):dp n (.block id x) = .block id (dp n x):=aR rfl
theorem tD (n:Nat) (x:aS):dp n (.loop x) = .loop (dp n x):=aR rfl
theorem tE (n:Nat):dp n .skip = .skip:=aR rfl
theorem xc (n:Nat):dp n .ret = .ret:=aR rfl
theorem tC (n id:Nat):dp n (.exit id) = .exit id:=aR rfl
theorem w_ (n:Nat) (ops:List aH) (dr:List Nat):dp n (.reg ops dr) = .reg ops dr:=aR rfl
def pf:List av→List av
 | []=>[]
 | [_]=>[]
 | o :: p :: r=>o :: pf (p :: r)
def nB:List av→Option av
 | []=>none
 | [o]=>some o
 | _ :: p :: r=>nB (p :: r)
theorem wq (o:av):pf [o]=[]:=aR rfl
theorem nx (o p:av) (r:List av):pf (o :: p :: r)=o :: pf (p :: r):=aR rfl
theorem wB (o:av):nB [o]=some o:=aR rfl
theorem nC (o p:av) (r:List av):nB (o :: p :: r)=nB (p :: r):=aR rfl
theorem um:∀l,pf l=l.dropLast
 | []=>rfl
 | [_]=>rfl
 | o :: p :: r=>by rw [nx,um (p :: r)];rfl
theorem uu:∀l,nB l=l.getLast?
 | []=>rfl
 | [_]=>rfl
 | o :: p :: r=>by rw [nC,uu (p :: r),List.getLast?_cons_cons]
section
variable {P:Program} [aX P]
def F5 (al:List (Nat×Nat)) (n:Nat) (o:Option av) (dr:List Nat) (K:IX→St→Prop) (hist:List HI) (s:St):Prop :=
 match o with
 | some o=>rY al (n - 1) o hist s fun s'=>K .nrm ⟨dels dr s'.env,s'.heap⟩
 | none=>False
def As (P:Program) [aX P] (al:List (Nat×Nat)) (i:Nat) (r:List av) (K:List HI→St→Prop) (hist:List HI) (s:St):Prop:=db P al i r hist s K
theorem At (al:List (Nat×Nat)) (i:Nat) (r:List av) (K:List HI→St→Prop) (hist:List HI) (s:St):As P al i r K hist s=db P al i r hist s K:=aR rfl
theorem sQ (al:List (Nat×Nat)) (i:Nat) (hist:List HI) (s:St) (K:List HI→St→Prop):db P al i [] hist s K=K hist s:=aR rfl
theorem re (al:List (Nat×Nat)) (i:Nat) (d:Option Nat) (op:eV) (bf:List Nat) (r:List av) (hist:List HI) (s:St) (K:List HI→St→Prop) :
  db P al i (⟨⟨d,op,none⟩,bf⟩ :: r) hist s K=bZ P al i ⟨⟨d,op,none⟩,bf⟩ hist s (As P al (i+1) r K):=aR rfl
theorem Ar (ops:List av) (al:List (Nat×Nat)) (dr:List Nat) (s:St) (K:IX→St→Prop):fD P (.wild ops al dr) s K=db P al 0 (pf ops) [] (kills (al.map (·.1)) s) (F5 al ops.length (nB ops) dr K):=by
 rw [um,uu]
 rfl
theorem jh {al:List (Nat×Nat)} {n d:Nat} {t:TypeId} {st:Nat} {x y:IV} {bf:List Nat} {dr:List Nat} {K:IX→St→Prop} {hist:List HI} {s:St} (v:AV) (e:aP)
  (h:bh d (.app t st x y) (val (get s.env)) (ae s.heap)=some (v,e)) (h1:((ao (.app t st x y)).all fun k=>!fY (get s.env k))=true) (h2:e.isReb=true) (h3:(hist.all fun z=>bf.contains z.i||tF e.tch z)=true)
  (h4:iG al bf ⟨n - 1,bx (.app t st x y) s.env,aF v++e.ids,e.tch,true,true⟩=true) (h5:wA dr K ((s.eff e).put (some d) v)):F5 al n (some ⟨⟨some d,.app t st x y,none⟩,bf⟩) dr K hist s:=by
 refine ⟨rfl,?_⟩
 simp only [Option.getD_some]
 rw [h]
 exact ⟨h1,h2,h3,h4,h5⟩
end
attribute [go_sem] tB xd tA rX tD tE xc tC w_ wq nx wB nC sQ re At Ar
theorem EA {n:Nat} {c:List AV} (h:c.length=n):gd (some n) c=some (.agg c):=by
 show (if n≤c.length then some (AV.agg (c.take n)) else none)=_
 rw [bz (by omega),jw (by omega)]
theorem FF {k n:Nat} {t:TypeId} {z c:List AV} (hz:z.length=n) (h:c.length=n):lc k n n 0 0 (some ⟨t,n,[z],true⟩) (some c)=some (.put k ⟨t,n,[c],true⟩):=by
 unfold lc
 simp only [true_and,qq,and_true]
 rw [bz h]
 show (if 0+n≤z.length then some (aP.put k ⟨t,n,[z].set 0 (dN z 0 c),true⟩) else none)=_
 rw [bz (by omega)]
 unfold dN
 rw [bE,r5,Nat.zero_add,List.drop_eq_nil_of_le (by omega),qn]
 rfl
def N7 (n:Nat) (c:List AV):Prop:=c.length=n∧(∀i,c.any (mC i)=false)∧aF (.agg c)=[]
theorem mD {d:Nat} {t:TypeId} {st:Nat} {x y:IV} {ρ:IV→AV} {h:Nat→Option ah} {id len:Nat} {rows ys:List (List AV)} (hx:ρ x = .ms id st 0 len) (ho:h id=some ⟨t,st,rows,false⟩) (hy:dv st h (ρ y)=some ys) (hr:rows.length=len) (hl:ys.length<137438953472) (hn:len<137438953472) (hid:id<1000∨2000≤id) :
  bh d (.app t st x y) ρ h=some (.ms id st 0 (len+ys.length),.reb id ⟨t,st,rows++ys,false⟩):=by
 subst hr
 simp only [bh,hx,hy,g_,bz hl,ho]
 rw [bz (by refine ⟨?_,?_,?_,?_,?_,aB _,hn,hid,rfl⟩<;>trivial),bJ]
theorem Bw (i:Nat) (t:TypeId) (st:Nat) (rows:List (List AV)):cH i ⟨t,st,rows,true⟩ =⟨t,st,rows.map (fun r=>r.map (bW i)),true⟩:=rfl
theorem Bv (i:Nat) (t:TypeId) (st:Nat) (rows:List (List AV)):cH i ⟨t,st,rows,false⟩ =⟨t,st,rows,false⟩:=rfl
attribute [go_sem high] Bw Bv
section
variable {P:Program} [aX P]
theorem wo {bl:Nat→Option Nat} {M:Nat→Prop} {w:World} {v:Value} {x:AV} (h:bA bl M w v x) (h1:fC x=true) (h2:fY x=false):IRel M w v x:=by
 cases x<;>first | (simp [fC] at h1;done) | exact h | (simp [fY] at h2;done)
end
section
variable {n:Nat} {P:Program} [aX P]
end
theorem aD.flag {c:je} {bl:Nat→Option Nat} {s:St} {a:Act} {w:World} (hs:aD c bl (get s.env) (ae s.heap) a w) {i:Nat} {t:TypeId} {st:Nat} {rs:List (List AV)} {q:Bool} (q':Bool) (hi:ae s.heap i=some ⟨t,st,rs,q⟩) (h0:q'=true→rs≠[])
  (hr:q'=false→∀r∈rs,∀x∈r,fC x=true∧fY x=false) :
  aD c bl (get s.env) (ae ((i,⟨t,st,rs,q'⟩) :: s.heap)) a w∧aY bl c.MF (ae ((i,⟨t,st,rs,q'⟩) :: s.heap))=aY bl c.MF (ae s.heap):=by
 have hm:aY bl c.MF (ae ((i,⟨t,st,rs,q'⟩) :: s.heap))=aY bl c.MF (ae s.heap):=by
  funext b
  refine propext (aY.congr (fun j=>?_) b)
  simp only [ae]
  split
  ·rename_i h;subst h;rw [hi];rfl
  ·rfl
 refine ⟨⟨hs.defers,hs.size,by rw [hm];exact hs.env,⟨fun j o hj=>?_,fun j j' o o' b h1 h2=>?_⟩,hs.step,fun j o b h1=>?_,hs.stab,hs.mf⟩,hm⟩
 ·rw [hm]
  simp only [ae] at hj
  split at hj
  ·rename_i hij
   subst hij
   cases hj
   rcases hs.heap.1 _ _ hi with ⟨h1,h2,h3⟩ | ⟨b,g1,⟨gk,c1,fr,g2,g3,g4,g5,g6,g7⟩ | hsp⟩
   ·cases q' with
    | true=>exact absurd h1 (h0 rfl)
    | false=>exact .inl ⟨h1,rfl,h3⟩
   ·refine .inr ⟨b,g1,.inl ⟨rfl,c1,fr,g2,g3,g4,g5,g6,fun k p u x hu hx=>?_⟩⟩
    obtain ⟨v,hv1,hv2⟩:=g7 k p u x hu hx
    refine ⟨v,hv1,?_⟩
    cases q<;>cases q'
    ·exact hv2
    ·exact IRel.toC hv2
    ·obtain ⟨z1,z2⟩:=hr rfl u (gE hu) x (gE hx)
     exact wo hv2 z1 z2
    ·exact hv2
   ·exact absurd hsp.rel (fun h=>h)
  ·exact hs.heap.1 j o hj
 ·have key:∀{j:Nat} {o:ah},ae ((i,⟨t,st,rs,q'⟩) :: s.heap) j=some o→∃o',ae s.heap j=some o':=fun {j o} hj=>by
   simp only [ae] at hj
   split at hj
   ·rename_i hij;subst hij;exact ⟨_,hi⟩
   ·exact ⟨_,hj⟩
  obtain ⟨p1,q1⟩:=key h1
  obtain ⟨p2,q2⟩:=key h2
  exact hs.heap.2 j j' p1 p2 b q1 q2
 ·simp only [ae] at h1
  split at h1
  ·rename_i hij;subst hij;exact hs.own i _ b hi
  ·exact hs.own j o b h1
theorem Wk.flag (s:St) (i:Nat) {t:TypeId} {st:Nat} {rs:List (List AV)} {q:Bool} (q':Bool) (hi:ae s.heap i=some ⟨t,st,rs,q⟩) (h0:q'=true→rs≠[]) (hr:q'=false→∀r∈rs,∀x∈r,fC x=true∧fY x=false) :
  Wk s ⟨s.env,(i,⟨t,st,rs,q'⟩) :: s.heap⟩:=fun c a w ⟨bl,h1⟩=>⟨bl,(aD.flag h1 q' hi h0 hr).1⟩
theorem qB.flag (s:St) (l:List AV) (i:Nat) {t:TypeId} {st:Nat} {rs:List (List AV)} {q:Bool} (q':Bool) (hi:ae s.heap i=some ⟨t,st,rs,q⟩) (h0:q'=true→rs≠[]) (hr:q'=false→∀r∈rs,∀x∈r,fC x=true∧fY x=false) :
  qB s l ⟨s.env,(i,⟨t,st,rs,q'⟩) :: s.heap⟩ l:=fun c a w bl vs h1 h2=>by
 obtain ⟨h3,hm⟩:=aD.flag h1 q' hi h0 hr
 exact ⟨bl,h3,by rw [hm];exact h2⟩
def gx (n:Nat) (cs:List Nat):aS→aS
 | .draw ops al dr=>match ops with
  | ⟨⟨some d,op,g⟩,b⟩ :: r=>if d=n then .clon cs (⟨⟨some d,op,g⟩,b⟩ :: r) al dr else .draw (⟨⟨some d,op,g⟩,b⟩ :: r) al dr
  | ops=>.draw ops al dr
 | .seq x y=>.seq (gx n cs x) (gx n cs y)
 | .cond c x y=>.cond c (gx n cs x) (gx n cs y)
 | .block id x=>.block id (gx n cs x)
 | .loop x=>.loop (gx n cs x)
 | x=>x
theorem vC (n:Nat) (cs:List Nat) (d:Nat) (op:eV) (g:Option (Nat×Bool)) (b:List Nat) (r:List av) (al:List (Nat×Nat)) (dr:List Nat) :
  gx n cs (.draw (⟨⟨some d,op,g⟩,b⟩ :: r) al dr)=if d=n then .clon cs (⟨⟨some d,op,g⟩,b⟩ :: r) al dr else .draw (⟨⟨some d,op,g⟩,b⟩ :: r) al dr:=aR rfl
theorem yN (n:Nat) (cs:List Nat) (x y:aS):gx n cs (.seq x y) = .seq (gx n cs x) (gx n cs y):=aR rfl
theorem vB (n:Nat) (cs:List Nat) (c:IV) (x y:aS):gx n cs (.cond c x y) = .cond c (gx n cs x) (gx n cs y):=aR rfl
theorem sv (n:Nat) (cs:List Nat) (id:Nat) (x:aS):gx n cs (.block id x) = .block id (gx n cs x):=aR rfl
theorem vE (n:Nat) (cs:List Nat) (x:aS):gx n cs (.loop x) = .loop (gx n cs x):=aR rfl
theorem vF (n:Nat) (cs:List Nat):gx n cs .skip = .skip:=aR rfl
theorem yM (n:Nat) (cs:List Nat):gx n cs .ret = .ret:=aR rfl
theorem vD (n:Nat) (cs:List Nat) (id:Nat):gx n cs (.exit id) = .exit id:=aR rfl
theorem yL (n:Nat) (cs:List Nat) (ops:List aH) (dr:List Nat):gx n cs (.reg ops dr) = .reg ops dr:=aR rfl
attribute [go_sem] vC yN vB sv vE vF yM vD yL
section
variable {P:Program} [aX P]
end
def Ca:aS→Nat
 | .reg (o :: _) _=>o.dst.getD 0
 | .draw (o :: _) _ _=>o.o.dst.getD 0
 | _=>0
def ey (ns:List Nat):aS→aS
 | .seq x y=>if ns.contains (Ca x)=true then .cut x (ey ns y) else .seq (ey ns x) (ey ns y)
 | .cond c x y=>.cond c (ey ns x) (ey ns y)
 | .block id x=>.block id (ey ns x)
 | .loop x=>.loop (ey ns x)
 | x=>x
theorem DH (d:Nat) (op:eV) (g:Option (Nat×Bool)) (r:List aH) (dr:List Nat):Ca (.reg (⟨some d,op,g⟩ :: r) dr)=d:=rfl
theorem zg (op:eV) (g:Option (Nat×Bool)) (r:List aH) (dr:List Nat):Ca (.reg (⟨none,op,g⟩ :: r) dr)=0:=rfl
theorem zh:Ca .skip=0:=rfl
theorem DI:Ca .ret=0:=rfl
theorem DJ (x y:aS):Ca (.seq x y)=0:=rfl
theorem ze (c:IV) (x y:aS):Ca (.cond c x y)=0:=rfl
theorem vZ (i:Nat) (x:aS):Ca (.block i x)=0:=rfl
theorem zf (d:Nat) (op:eV) (g:Option (Nat×Bool)) (b:List Nat) (r:List av) (al:List (Nat×Nat)) (dr:List Nat):Ca (.draw (⟨⟨some d,op,g⟩,b⟩ :: r) al dr)=d:=rfl
theorem yS (n:List Nat) (x y:aS):ey n (.seq x y)=if n.contains (Ca x)=true then .cut x (ey n y) else .seq (ey n x) (ey n y):=rfl
theorem vG (n:List Nat) (c:IV) (x y:aS):ey n (.cond c x y) = .cond c (ey n x) (ey n y):=rfl
theorem sy (n:List Nat) (i:Nat) (x:aS):ey n (.block i x) = .block i (ey n x):=rfl
theorem vJ (n:List Nat) (x:aS):ey n (.loop x) = .loop (ey n x):=rfl
theorem vK (n:List Nat):ey n .skip = .skip:=rfl
theorem yR (n:List Nat):ey n .ret = .ret:=rfl
theorem vI (n:List Nat) (i:Nat):ey n (.exit i) = .exit i:=rfl
theorem yQ (n:List Nat) (ops:List aH) (dr:List Nat):ey n (.reg ops dr) = .reg ops dr:=rfl
theorem vH (n:List Nat) (ops:List av) (al:List (Nat×Nat)) (dr:List Nat):ey n (.draw ops al dr) = .draw ops al dr:=rfl
def oE (i:Nat):List (Nat×ah)→List (Nat×ah)
 | []=>[]
 | (k,o) :: r=>(k,if k=i then { o with isRec:=false } else o) :: oE i r
def St.unr (s:St) (i:Nat):St:=⟨s.env,oE i s.heap⟩
def fq (rows:List (List AV)):Bool:=rows.all fun r=>r.all fun x=>fC x && !fY x
theorem pc (i:Nat):∀(σ:List (Nat×ah)) (j:Nat),ae (oE i σ) j=if j=i then (ae σ j).map (fun o=>{ o with isRec:=false }) else ae σ j
 | [],j=>by simp [oE,ae]
 | (k,o) :: r,j=>by
  simp only [oE,ae,pc i r j]
  by_cases h:k=j
  ·subst h
   by_cases h2:k=i<;>simp [h2]
  ·rw [aV h,aV h]
theorem Wk.unr (s:St) (i:Nat) {t:TypeId} {st:Nat} {rs:List (List AV)} {q:Bool} (hi:ae s.heap i=some ⟨t,st,rs,q⟩) (hr:fq rs=true):Wk s (s.unr i):=by
 refine (Wk.flag s i false hi (fun h=>by cases h) (fun _ r hm x hx=>?_)).trans ?_
 ·have:=de.1 (de.1 hr r hm) x hx
  simpa using this
 ·rintro c a w ⟨bl,hs⟩
  refine ⟨bl,hs.congr (fun _=>rfl) (fun j=>?_)⟩
  simp only [St.unr,pc,ae]
  by_cases h:j=i
  ·subst h;simp [hi]
  ·rw [aV h,aV (Ne.symm h)]
theorem j3 (i:Nat):oE i []=[]:=rfl
theorem j2 (i k:Nat) (t:TypeId) (st:Nat) (rs:List (List AV)) (q:Bool) (r:List (Nat×ah)):oE i ((k,⟨t,st,rs,q⟩) :: r)=(k,⟨t,st,rs,if k=i then false else q⟩) :: oE i r:=by
 simp only [oE]
 by_cases h:k=i<;>simp [h]
theorem og (e:List (Nat×AV)) (h:List (Nat×ah)) (i:Nat):St.unr ⟨e,h⟩ i =⟨e,oE i h⟩:=rfl
def Bd:List (List AV)→List (List AV)→Prop
 | [],[]=>True
 | x :: l,y :: m=>EO x y∧Bd l m
 | _,_=>False
theorem kl:∀{l m:List (List AV)},Bd l m→m.length=l.length
 | [],[],_=>rfl
 | _ :: _,_ :: _,h=>by simp [kl h.2]
 | [],_ :: _,h=>h.elim
 | _ :: _,[],h=>h.elim
theorem nI:∀{l m:List (List AV)},Bd l m→∀{j:Nat} {y:List AV},m[j]? = some y→∃x,l[j]? = some x∧EO x y
 | [],[],_,j,y,hy=>by simp at hy
 | x :: l,z :: m,h,0,y,hy=>by simp at hy;subst hy;exact ⟨x,rfl,h.1⟩
 | x :: l,z :: m,h,j+1,y,hy=>by simpa using nI h.2 (j:=j) (by simpa using hy)
 | [],_ :: _,h,_,_,_=>h.elim
 | _ :: _,[],h,_,_,_=>h.elim
theorem Wk.nla (s:St) (i:Nat) {t:TypeId} {st:Nat} {rs rs':List (List AV)} (hi:ae s.heap i=some ⟨t,st,rs,false⟩) (hr:Bd rs rs'):Wk s ⟨s.env,(i,⟨t,st,rs',false⟩) :: s.heap⟩:=by
 rintro c a w ⟨bl,hs⟩
 have hm:∀b,aY bl c.MF (ae ((i,⟨t,st,rs',false⟩) :: s.heap)) b↔aY bl c.MF (ae s.heap) b:=aY.congr fun j=>by
  simp only [ae]
  split
  ·rename_i h;subst h;rw [hi];rfl
  ·rfl
 have ht:=Tr.of_iff (w:=w) fun b=>(hm b)
 refine ⟨bl,hs.defers,hs.size,fun j=>(hs.env j).tr ht (fun _ _=>rfl),⟨fun j o hj=>?_,fun j j' o o' b h1 h2=>?_⟩,hs.step,fun j o b h1=>?_,hs.stab,hs.mf⟩
 ·simp only [ae] at hj
  split at hj
  ·rename_i hij
   subst hij
   cases hj
   rcases hs.heap.1 i _ hi with hn | ⟨b,g1,⟨gk,c1,fr,g2,g3,g4,g5,g6,g7⟩ | hsp⟩
   ·have e:rs'=[]:=by
     have h1:=kl hr
     have h2:rs=[]:=hn.1
     rw [h2] at h1
     exact tJ h1
    subst e
    exact .inl ⟨rfl,hn.2⟩
   rotate_left
   ·have e:rs'=[]:=by
     have h1:=kl hr
     have h2:rs=[]:=hsp.rows
     rw [h2] at h1
     exact tJ h1
    subst e
    exact .inr ⟨b,g1,.inr ⟨rfl,rfl,hsp.free,hsp.rel⟩⟩
   ·refine .inr ⟨b,g1,.inl ⟨gk,c1,fr,g2,g3,g4,fun k q hq=>?_,by rw [kl hr];exact g6,fun k q u x hu hx=>?_⟩⟩
    ·obtain ⟨r0,h1,h2⟩:=nI hr hq
     rw [uD h2];exact g5 k r0 h1
    ·obtain ⟨r0,h1,h2⟩:=nI hr hu
     obtain ⟨x0,h3,h4⟩:=uC h2 hx
     obtain ⟨v,hv1,hv2⟩:=g7 k q r0 x0 h1 h3
     refine ⟨v,hv1,?_⟩
     have hv3:IRel (aY bl c.MF (ae s.heap)) w v x0:=hv2
     rcases h4 with h4 | ⟨h4,st',h5⟩
     ·subst h4
      exact hv3.tr ht.keep
     ·subst h4 h5
      exact (IRel.nl_sl hv3 st').tr ht.keep
  ·rcases hs.heap.1 j o hj with hn | ⟨b,g1,⟨gk,c1,fr,g2,g3,g4,g5,g6,g7⟩ | hsp⟩
   ·exact .inl hn
   rotate_left
   ·exact .inr ⟨b,g1,.inr hsp⟩
   ·refine .inr ⟨b,g1,.inl ⟨gk,c1,fr,g2,g3,g4,g5,g6,fun k q u x hu hx=>?_⟩⟩
    obtain ⟨v,hv1,hv2⟩:=g7 k q u x hu hx
    refine ⟨v,hv1,?_⟩
    cases hrec:o.isRec<;>simp only [hrec,e_] at hv2 ⊢
    ·exact hv2.tr ht.keep
    ·exact hv2.tr ht (fun _ _=>rfl)
 ·have key:∀{j:Nat} {o:ah},ae ((i,⟨t,st,rs',false⟩) :: s.heap) j=some o→∃o',ae s.heap j=some o':=fun {j o} hj=>by
   simp only [ae] at hj
   split at hj
   ·rename_i hij;subst hij;exact ⟨_,hi⟩
   ·exact ⟨_,hj⟩
  obtain ⟨p1,q1⟩:=key h1
  obtain ⟨p2,q2⟩:=key h2
  exact hs.heap.2 j j' p1 p2 b q1 q2
 ·simp only [ae] at h1
  split at h1
  ·rename_i hij;subst hij;exact hs.own i _ b hi
  ·exact hs.own j o b h1
section
variable {α:Type} [Inhabited α]
def au (c c':α→List AV) (k:Nat) (l:List α):List (List AV):=l.mapIdx fun j x=>if j=k then c' x else c x
theorem gT {c c':α→List AV} {k:Nat} {l:List α}:(au c c' k l).length=l.length:=by simp [au]
theorem f9 {c c':α→List AV} {k:Nat} {l:List α} (h:l.length≤k):au c c' k l=l.map c:=by
 refine List.ext_getElem? fun i=>?_
 simp only [au,List.getElem?_mapIdx,cQ]
 cases hi:l[i]? with
 | none=>rfl
 | some x =>
  have:i<l.length:=(dL.1 hi).1
  simp [show ¬i=k by omega]
theorem f_ {c c':α→List AV} {k i:Nat} {l:List α} (h:i<l.length):au c c' k (l.take (i+1))=au c c' k (l.take i)++[if i=k then c' (ac l i) else c (ac l i)]:=by
 have e:l.take (i+1)=l.take i++[ac l i]:=by rw [List.take_add_one,cO h,Option.toList_some]
 rw [e,au,List.mapIdx_append]
 simp only [List.mapIdx_cons,List.mapIdx_nil]
 congr 2
 simp only [r8]
 rw [show 0+min i l.length=i by omega]
theorem gS {c c':α→List AV} {k:Nat} {l:List α} {p:List AV→Bool} (h1:∀x,p (c x)=true) (h2:∀x,p (c' x)=true):(au c c' k l).all p=true:=by
 rw [de]
 intro r hr
 obtain ⟨i,hi,rfl⟩:=List.getElem_of_mem hr
 simp only [au,List.getElem_mapIdx]
 split
 ·exact h2 _
 ·exact h1 _
theorem bG {c c':α→List AV} {k:Nat} {l:List α} {f:List AV→List AV} (h1:∀x,f (c x)=c x) (h2:∀x,f (c' x)=c' x):(au c c' k l).map f=au c c' k l:=by
 refine List.ext_getElem? fun i=>?_
 simp only [au,cQ,List.getElem?_mapIdx]
 cases l[i]? with
 | none=>rfl
 | some x=>by_cases h:i=k<;>simp [h,h1,h2]
theorem dq {β:Type} {c c':α→List AV} {k:Nat} {l:List α} {f:List AV→List β} {y:List β} (h1:∀x,f (c x)=[]) (h2:∀x,f (c' x)=y) (hk:k<l.length):(au c c' k l).flatMap f=y:=by
 have h3:∀(l:List α) (n:Nat),(l.mapIdx fun j x=>if j+n=k then c' x else c x).flatMap f=if n≤k∧k<n+l.length then y else []:=by
  intro l
  induction l with
  | nil=>intro n;simp;omega
  | cons x r ih =>
   intro n
   have e:(r.mapIdx fun j x=>if j+1+n=k then c' x else c x)=r.mapIdx fun j x=>if j+(n+1)=k then c' x else c x:=by
    congr 1;funext j x;rw [show j+1+n=j+(n+1) by omega]
   rw [List.mapIdx_cons,r7,e,ih]
   by_cases h:n=k
   ·subst h
    simp [h2]
    intro h4
    omega
   ·rw [aV (by omega),h1]
    simp only [r5,oh]
    by_cases h4:n≤k∧k<n+(r.length+1)
    ·rw [bz h4,bz (by omega)]
    ·rw [aV h4,aV (by omega)]
 have:=h3 l 0
 simpa [au,hk] using this
end
end Go.Mw