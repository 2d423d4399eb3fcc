/-
  Walking: the equations by which a body is walked and a state is reckoned.
  What is still to come is kept as a term without a body,so that nothing is rewritten behind it.
-/
import Derived.Test.YtoaagdbbbojpmaaGreatDoorQb
import Derived.WalkKit
import Derived.ProofKit
import Derived.OpenShut
import Derived.JoinedCond
import Derived.RangeFuncFrom
import Derived.RangeFuncLeaves
import Derived.RangeFuncCalls
set_option linter.unusedVariables false
set_option linter.unusedSimpArgs false
set_option linter.unusedSectionVars false
set_option linter.unusedSectionVars false
set_option linter.unusedVariables false
set_option linter.unusedSimpArgs false
namespace Go.Mw

def nth {α:Type} [Inhabited α] (l:List α) (i:Nat):α:=l[i]!
theorem nth_eq {α:Type} [Inhabited α] {l:List α} {i:Nat} (h:i < l.length):nth l i = l[i]:=getElem!_pos l i h
theorem nth_some {α:Type} [Inhabited α] {l:List α} {i:Nat} (h:i < l.length):l[i]? = some (nth l i):=by rw [nth_eq h]; exact List.getElem?_eq_getElem h
theorem nth_map {α β:Type} [Inhabited α] [Inhabited β] {l:List α} {f:α → β} {i:Nat} (h:i < l.length):nth (l.map f) i = f (nth l i):=by
  rw [nth_eq h,nth_eq (by simpa using h),List.getElem_map]
theorem nth_drop {α:Type} [Inhabited α] {l:List α} {i k:Nat}:nth (l.drop k) i = nth l (k + i):=by
  unfold nth
  rw [List.getElem!_eq_getElem?_getD,List.getElem!_eq_getElem?_getD,List.getElem?_drop]
section
variable {P:Program} [Tabs P]

def kseq (P:Program) [Tabs P] (y:ICode) (K:IX → St → Prop) (e:IX) (s:St):Prop :=
  match e with
  | .nrm=>iwp P y s K
  | e=>K e s
def kcut (P:Program) [Tabs P] (y:ICode) (K:IX → St → Prop) (e:IX) (s:St):Prop :=
  match e with
  | .nrm=>∃ s',Wk s s' ∧ iwp P y s' K
  | e=>K e s
def kblk (id:Nat) (K:IX → St → Prop) (e:IX) (s:St):Prop :=
  match e with
  | .ext j=>if j = id then K .nrm s else K (.ext j) s
  | e=>K e s
def kreg (dr:List Nat) (K:IX → St → Prop) (s:St):Prop:=K .nrm ⟨dels dr s.env,s.heap⟩
def kops (P:Program) [Tabs P] (r:List IOper) (K:St → Prop) (s:St):Prop:=iops P r s K
def kdops (P:Program) [Tabs P] (al:List (Nat × Nat)) (i:Nat) (r:List IDOper) (K:St → Prop) (hist:List HI) (s:St):Prop:=idops P al i r hist s K
def kst (K:St → Prop) (s:St) (d:Option Nat) (v:AV) (e:Eff):Prop:=K ((s.eff e).put d v)
def kdst (al:List (Nat × Nat)) (i:Nat) (bf:List Nat) (op:IOp) (hist:List HI) (K:List HI → St → Prop) (s:St) (d:Option Nat) (v:AV) (e:Eff):Prop :=
  plainOk op s e = true ∧ histOk bf ⟨i,opIds op s.env,idsV v ++ e.ids,e.tch,e.isReb,e.isPut⟩ hist = true ∧ newOk al bf ⟨i,opIds op s.env,idsV v ++ e.ids,e.tch,e.isReb,e.isPut⟩ = true ∧
    K (⟨i,opIds op s.env,idsV v ++ e.ids,e.tch,e.isReb,e.isPut⟩ :: hist) ((s.eff e).put d v)
def stepK (K:AV → Eff → Prop) (x:Option (AV × Eff)):Prop :=
  match x with
  | some (v,e)=>K v e
  | none=>False
def stepX (A:Prop) (K:AV → Eff → Prop) (x:Option (AV × Eff)):Prop :=
  match x with
  | some (v,e)=>K v e
  | none=>A
def tst (x:AV) (a b:Prop):Prop :=
  match x with
  | .bool t=>(t = true → a) ∧ (t = false → b)
  | _=>False

def gst (x:AV) (a b c:Prop):Prop :=
  match x with
  | .bool t=>(t = true → a) ∧ (t = false → b)
  | .tup []=>c
  | _=>False

theorem kseq_n (y:ICode) (K:IX → St → Prop) (s:St):kseq P y K .nrm s = iwp P y s K:=_root_.id rfl
theorem kseq_r (y:ICode) (K:IX → St → Prop) (s:St):kseq P y K .ret s = K .ret s:=_root_.id rfl
theorem kseq_x (y:ICode) (K:IX → St → Prop) (j:Nat) (s:St):kseq P y K (.ext j) s = K (.ext j) s:=_root_.id rfl
theorem kcut_r (y:ICode) (K:IX → St → Prop) (s:St):kcut P y K .ret s = K .ret s:=_root_.id rfl
theorem kcut_x (y:ICode) (K:IX → St → Prop) (j:Nat) (s:St):kcut P y K (.ext j) s = K (.ext j) s:=_root_.id rfl
theorem kblk_n (id:Nat) (K:IX → St → Prop) (s:St):kblk id K .nrm s = K .nrm s:=_root_.id rfl
theorem kblk_r (id:Nat) (K:IX → St → Prop) (s:St):kblk id K .ret s = K .ret s:=_root_.id rfl
theorem kblk_x (id j:Nat) (K:IX → St → Prop) (s:St):kblk id K (.ext j) s = if j = id then K .nrm s else K (.ext j) s:=_root_.id rfl
theorem kreg_e (dr:List Nat) (K:IX → St → Prop) (s:St):kreg dr K s = K .nrm ⟨dels dr s.env,s.heap⟩:=_root_.id rfl
theorem kops_e (r:List IOper) (K:St → Prop) (s:St):kops P r K s = iops P r s K:=_root_.id rfl
theorem kdops_e (al:List (Nat × Nat)) (i:Nat) (r:List IDOper) (K:St → Prop) (hist:List HI) (s:St):kdops P al i r K hist s = idops P al i r hist s K:=_root_.id rfl
theorem kst_e (K:St → Prop) (s:St) (d:Option Nat) (v:AV) (e:Eff):kst K s d v e = K ((s.eff e).put d v):=_root_.id rfl
theorem kdst_e (al:List (Nat × Nat)) (i:Nat) (bf:List Nat) (op:IOp) (hist:List HI) (K:List HI → St → Prop) (s:St) (d:Option Nat) (v:AV) (e:Eff):kdst al i bf op hist K s d v e =
  (plainOk op s e = true ∧ histOk bf ⟨i,opIds op s.env,idsV v ++ e.ids,e.tch,e.isReb,e.isPut⟩ hist = true ∧ newOk al bf ⟨i,opIds op s.env,idsV v ++ e.ids,e.tch,e.isReb,e.isPut⟩ = true ∧
    K (⟨i,opIds op s.env,idsV v ++ e.ids,e.tch,e.isReb,e.isPut⟩ :: hist) ((s.eff e).put d v)):=rfl
theorem stepK_some (K:AV → Eff → Prop) (v:AV) (e:Eff):stepK K (some (v,e)) = K v e:=_root_.id rfl
theorem stepX_some (A:Prop) (K:AV → Eff → Prop) (v:AV) (e:Eff):stepX A K (some (v,e)) = K v e:=_root_.id rfl
theorem stepX_none (A:Prop) (K:AV → Eff → Prop):stepX A K none = A:=_root_.id rfl
theorem stepX_ite (A:Prop) (K:AV → Eff → Prop) (c:Prop) [Decidable c] (x:Option (AV × Eff)):stepX A K (if c then x else none) = ((c → stepX A K x) ∧ (¬ c → A)):=by
  by_cases h:c <;> simp [h,stepX]
theorem stepK_ite (K:AV → Eff → Prop) (c:Prop) [Decidable c] (x:Option (AV × Eff)):stepK K (if c then x else none) = (c ∧ stepK K x):=by
  by_cases h:c <;> simp [h,stepK]
theorem stepK_ite' (K:AV → Eff → Prop) (c:Prop) [Decidable c] (x:Option (AV × Eff)):stepK K (if c then none else x) = (¬ c ∧ stepK K x):=by
  by_cases h:c <;> simp [h,stepK]
theorem res_v (v:AV):res (some v) = some (v,.no):=rfl
theorem res_if (c:Prop) [Decidable c] (x:Option AV):res (if c then x else none) = if c then res x else none:=by split <;> rfl
theorem res_if' (c:Prop) [Decidable c] (x:Option AV):res (if c then none else x) = if c then none else res x:=by split <;> rfl
theorem tst_bool (t:Bool) (a b:Prop):tst (.bool t) a b = ((t = true → a) ∧ (t = false → b)):=_root_.id rfl
@[congr] theorem tst_congr {x x':AV} {a b:Prop} (h:x = x'):tst x a b = tst x' a b:=by rw [h]
theorem tst_t (a b:Prop):tst (.bool true) a b = a:=by simp [tst]
theorem gst_bool (t:Bool) (a b c:Prop):gst (.bool t) a b c = ((t = true → a) ∧ (t = false → b)):=rfl
@[congr] theorem gst_congr {x x':AV} {a b c:Prop} (h:x = x'):gst x a b c = gst x' a b c:=by rw [h]
theorem gst_t (a b c:Prop):gst (.bool true) a b c = a:=by simp [gst]
theorem gst_f (a b c:Prop):gst (.bool false) a b c = b:=by simp [gst]
theorem gst_u (a b c:Prop):gst (.tup []) a b c = c:=by simp [gst]
theorem gst_t' (a b c:Prop):gst (.bool true) a b c = a:=by simp [gst]
theorem gst_f' (a b c:Prop):gst (.bool false) a b c = b:=by simp [gst]
theorem gst_u' (a b c:Prop):gst (.tup []) a b c = c:=by simp [gst]
theorem tst_t' (a b:Prop):tst (.bool true) a b = a:=tst_t a b
theorem tst_f (a b:Prop):tst (.bool false) a b = b:=by simp [tst]

/-! ### Code -/
theorem iwp_skip (s:St) (K:IX → St → Prop):iwp P .skip s K = K .nrm s:=_root_.id rfl
theorem iwp_ret (s:St) (K:IX → St → Prop):iwp P .ret s K = K .ret s:=_root_.id rfl
theorem iwp_exit (id:Nat) (s:St) (K:IX → St → Prop):iwp P (.exit id) s K = K (.ext id) s:=_root_.id rfl
theorem iwp_seq (x y:ICode) (s:St) (K:IX → St → Prop):iwp P (.seq x y) s K = iwp P x s (kseq P y K):=_root_.id rfl
theorem iwp_block (id:Nat) (x:ICode) (s:St) (K:IX → St → Prop):iwp P (.block id x) s K = iwp P x s (kblk id K):=_root_.id rfl
theorem iwp_cond (v:IV) (t e:ICode) (s:St) (K:IX → St → Prop):iwp P (.cond v t e) s K = tst (val (get s.env) v) (iwp P t (refine v true s) K) (iwp P e (refine v false s) K):=_root_.id rfl
theorem iwp_reg (ops:List IOper) (dr:List Nat) (s:St) (K:IX → St → Prop):iwp P (.reg ops dr) s K = iops P ops s (kreg dr K):=_root_.id rfl
theorem iwp_draw (ops:List IDOper) (al:List (Nat × Nat)) (dr:List Nat) (s:St) (K:IX → St → Prop):iwp P (.draw ops al dr) s K = idops P al 0 ops [] (kills (al.map (·.1)) s) (kreg dr K):=_root_.id rfl
theorem iops_nil (s:St) (K:St → Prop):iops P [] s K = K s:=_root_.id rfl
theorem iops_cons (d:Option Nat) (op:IOp) (r:List IOper) (s:St) (K:St → Prop):iops P (⟨d,op,none⟩ :: r) s K = iop P ⟨d,op,none⟩ s (kops P r K):=_root_.id rfl
theorem iops_guard_t (d:Option Nat) (op:IOp) (k:Nat) (r:List IOper) (s:St) (K:St → Prop):iops P (⟨d,op,some (k,true)⟩ :: r) s K =
    gst (get s.env k) (iop P ⟨d,op,none⟩ (s.put (some k) (.bool true)) (kops P r K)) (iops P r ((s.put (some k) (.bool false)).put d (.tup [])) K) (iops P r (s.put d (.tup [])) K):=_root_.id rfl
theorem iops_guard_f (d:Option Nat) (op:IOp) (k:Nat) (r:List IOper) (s:St) (K:St → Prop):iops P (⟨d,op,some (k,false)⟩ :: r) s K =
    gst (get s.env k) (iops P r ((s.put (some k) (.bool true)).put d (.tup [])) K) (iop P ⟨d,op,none⟩ (s.put (some k) (.bool false)) (kops P r K)) (iops P r (s.put d (.tup [])) K):=by
  simp only [iops,gst]
  generalize get s.env k = x
  cases x with
  | bool t=>exact propext ⟨fun h=>⟨h.2,h.1⟩,fun h=>⟨h.2,h.1⟩⟩
  | tup l=>cases l <;> rfl
  | _=>rfl
theorem idops_nil (al:List (Nat × Nat)) (i:Nat) (hist:List HI) (s:St) (K:St → Prop):idops P al i [] hist s K = K s:=_root_.id rfl
theorem idops_cons (al:List (Nat × Nat)) (i:Nat) (d:Option Nat) (op:IOp) (bf:List Nat) (r:List IDOper) (hist:List HI) (s:St) (K:St → Prop) :
    idops P al i (⟨⟨d,op,none⟩,bf⟩ :: r) hist s K = idop P al i ⟨⟨d,op,none⟩,bf⟩ hist s (kdops P al (i + 1) r K):=_root_.id rfl
theorem idops_guard_t (al:List (Nat × Nat)) (i:Nat) (d:Option Nat) (op:IOp) (k:Nat) (bf:List Nat) (r:List IDOper) (hist:List HI) (s:St) (K:St → Prop) :
    idops P al i (⟨⟨d,op,some (k,true)⟩,bf⟩ :: r) hist s K = gst (get s.env k) (idop P al i ⟨⟨d,op,none⟩,bf⟩ hist (s.put (some k) (.bool true)) (kdops P al (i + 1) r K))
      (idops P al (i + 1) r (⟨i,[],[],[],false,false⟩ :: hist) ((s.put (some k) (.bool false)).put d (.tup [])) K) (idops P al (i + 1) r (⟨i,[],[],[],false,false⟩ :: hist) (s.put d (.tup [])) K):=_root_.id rfl
theorem idops_guard_f (al:List (Nat × Nat)) (i:Nat) (d:Option Nat) (op:IOp) (k:Nat) (bf:List Nat) (r:List IDOper) (hist:List HI) (s:St) (K:St → Prop) :
    idops P al i (⟨⟨d,op,some (k,false)⟩,bf⟩ :: r) hist s K = gst (get s.env k) (idops P al (i + 1) r (⟨i,[],[],[],false,false⟩ :: hist) ((s.put (some k) (.bool true)).put d (.tup [])) K)
      (idop P al i ⟨⟨d,op,none⟩,bf⟩ hist (s.put (some k) (.bool false)) (kdops P al (i + 1) r K)) (idops P al (i + 1) r (⟨i,[],[],[],false,false⟩ :: hist) (s.put d (.tup [])) K):=by
  simp only [idops,gst]
  generalize get s.env k = x
  cases x with
  | bool t=>exact propext ⟨fun h=>⟨h.2,h.1⟩,fun h=>⟨h.2,h.1⟩⟩
  | tup l=>cases l <;> rfl
  | _=>rfl

/-! ### Operations -/
theorem iop_call (d:Option Nat) (f:FuncId) (args:List IV) (g:Option (Nat × Bool)) (s:St) (K:St → Prop):iop P ⟨d,.call f args,g⟩ s K = icall P f (args.map (val (get s.env))) d s K:=_root_.id rfl
def fcall (P:Program) [Tabs P] (f:AV) (args:List AV) (d:Option Nat) (s:St) (K:St → Prop):Prop :=
  match f with
  | .fn f caps=>hasBody P f = true ∧ icall P f (args ++ caps) d s K
  | _=>False
theorem fcall_fn (f:FuncId) (caps args:List AV) (d:Option Nat) (s:St) (K:St → Prop):fcall P (.fn f caps) args d s K = (hasBody P f = true ∧ icall P f (args ++ caps) d s K):=_root_.id rfl
theorem iop_callv (d:Option Nat) (f:IV) (args:List IV) (g:Option (Nat × Bool)) (s:St) (K:St → Prop):iop P ⟨d,.callv f args,g⟩ s K = fcall P (val (get s.env) f) (args.map (val (get s.env))) d s K:=_root_.id rfl
def idcall (P:Program) [Tabs P] (f:FuncId) (args:List AV) (i:Nat) (bf:List Nat) (op:IOp) (d:Option Nat) (hist:List HI) (s:St) (K:List HI → St → Prop):Prop :=
  (∃ args' r b,PCalls P f args' r ∧ (∀ x ∈ args',idsV x = []) ∧ All2 (coe b (hget s.heap)) args args' ∧ (b = true → flatV r = true) ∧ idsV r = [] ∧
      plainOk op s .no = true ∧ histOk bf ⟨i,opIds op s.env,[],[],false,false⟩ hist = true ∧ K (⟨i,opIds op s.env,[],[],false,false⟩ :: hist) (s.put d r)) ∨
  ∃ k ob ob' Sb r,ACalls P f args [(k,ob)] Sb (fun r' σ'=>r' = r ∧ σ' = [(k,ob')]) ∧ Sb k ∧ hget s.heap k = some ob ∧ idsV r = [] ∧ idsO ob' = [] ∧ k ∈ opIds op s.env ∧
      plainOk op s (.put k ob') = true ∧ histOk bf ⟨i,opIds op s.env,[],[k],false,true⟩ hist = true ∧ K (⟨i,opIds op s.env,[],[k],false,true⟩ :: hist) ((s.eff (.put k ob')).put d r)
theorem idop_call (al:List (Nat × Nat)) (i:Nat) (d:Option Nat) (f:FuncId) (args:List IV) (g:Option (Nat × Bool)) (bf:List Nat) (hist:List HI) (s:St) (K:List HI → St → Prop) :
    idop P al i ⟨⟨d,.call f args,g⟩,bf⟩ hist s K = idcall P f (args.map (val (get s.env))) i bf (.call f args) d hist s K:=_root_.id rfl
theorem iop_mov (d:Option Nat) (x:IV) (g:Option (Nat × Bool)) (s:St) (K:St → Prop):iop P ⟨d,.mov x,g⟩ s K = stepK (kst K s d) (aev 0 (.mov x) (val (get s.env)) (hget s.heap)):=_root_.id rfl
theorem idop_mov (al:List (Nat × Nat)) (i:Nat) (d:Option Nat) (x:IV) (g:Option (Nat × Bool)) (bf:List Nat) (hist:List HI) (s:St) (K:List HI → St → Prop):idop P al i ⟨⟨d,.mov x,g⟩,bf⟩ hist s K = stepK (kdst al i bf (.mov x) hist K s d) (aev 0 (.mov x) (val (get s.env)) (hget s.heap)):=_root_.id rfl
theorem iop_pick (d:Option Nat) (c a b:IV) (g:Option (Nat × Bool)) (s:St) (K:St → Prop):iop P ⟨d,.pick c a b,g⟩ s K = stepK (kst K s d) (aev 0 (.pick c a b) (val (get s.env)) (hget s.heap)):=_root_.id rfl
theorem idop_pick (al:List (Nat × Nat)) (i:Nat) (d:Option Nat) (c a b:IV) (g:Option (Nat × Bool)) (bf:List Nat) (hist:List HI) (s:St) (K:List HI → St → Prop):idop P al i ⟨⟨d,.pick c a b,g⟩,bf⟩ hist s K = stepK (kdst al i bf (.pick c a b) hist K s d) (aev 0 (.pick c a b) (val (get s.env)) (hget s.heap)):=_root_.id rfl
theorem iop_build (d:Option Nat) (cs:List AV) (ps:List (Nat × Nat × IV)) (g:Option (Nat × Bool)) (s:St) (K:St → Prop):iop P ⟨d,.build cs ps,g⟩ s K = stepK (kst K s d) (aev 0 (.build cs ps) (val (get s.env)) (hget s.heap)):=_root_.id rfl
theorem idop_build (al:List (Nat × Nat)) (i:Nat) (d:Option Nat) (cs:List AV) (ps:List (Nat × Nat × IV)) (g:Option (Nat × Bool)) (bf:List Nat) (hist:List HI) (s:St) (K:List HI → St → Prop):idop P al i ⟨⟨d,.build cs ps,g⟩,bf⟩ hist s K = stepK (kdst al i bf (.build cs ps) hist K s d) (aev 0 (.build cs ps) (val (get s.env)) (hget s.heap)):=_root_.id rfl
theorem iop_load (d:Option Nat) (n:Option Nat) (p:IV) (g:Option (Nat × Bool)) (s:St) (K:St → Prop):iop P ⟨d,.load n p,g⟩ s K = stepK (kst K s d) (aev 0 (.load n p) (val (get s.env)) (hget s.heap)):=_root_.id rfl
theorem idop_load (al:List (Nat × Nat)) (i:Nat) (d:Option Nat) (n:Option Nat) (p:IV) (g:Option (Nat × Bool)) (bf:List Nat) (hist:List HI) (s:St) (K:List HI → St → Prop):idop P al i ⟨⟨d,.load n p,g⟩,bf⟩ hist s K = stepK (kdst al i bf (.load n p) hist K s d) (aev 0 (.load n p) (val (get s.env)) (hget s.heap)):=_root_.id rfl
theorem iop_store (d:Option Nat) (n:Nat) (p x:IV) (g:Option (Nat × Bool)) (s:St) (K:St → Prop):iop P ⟨d,.store n p x,g⟩ s K = stepK (kst K s d) (aev 0 (.store n p x) (val (get s.env)) (hget s.heap)):=_root_.id rfl
theorem idop_store (al:List (Nat × Nat)) (i:Nat) (d:Option Nat) (n:Nat) (p x:IV) (g:Option (Nat × Bool)) (bf:List Nat) (hist:List HI) (s:St) (K:List HI → St → Prop):idop P al i ⟨⟨d,.store n p x,g⟩,bf⟩ hist s K = stepK (kdst al i bf (.store n p x) hist K s d) (aev 0 (.store n p x) (val (get s.env)) (hget s.heap)):=_root_.id rfl
theorem iop_fadr (d:Option Nat) (o:Nat) (p:IV) (g:Option (Nat × Bool)) (s:St) (K:St → Prop):iop P ⟨d,.fadr o p,g⟩ s K = stepK (kst K s d) (aev 0 (.fadr o p) (val (get s.env)) (hget s.heap)):=_root_.id rfl
theorem idop_fadr (al:List (Nat × Nat)) (i:Nat) (d:Option Nat) (o:Nat) (p:IV) (g:Option (Nat × Bool)) (bf:List Nat) (hist:List HI) (s:St) (K:List HI → St → Prop):idop P al i ⟨⟨d,.fadr o p,g⟩,bf⟩ hist s K = stepK (kdst al i bf (.fadr o p) hist K s d) (aev 0 (.fadr o p) (val (get s.env)) (hget s.heap)):=_root_.id rfl
theorem iop_fld (d:Option Nat) (o:Nat) (n:Option Nat) (x:IV) (g:Option (Nat × Bool)) (s:St) (K:St → Prop):iop P ⟨d,.fld o n x,g⟩ s K = stepK (kst K s d) (aev 0 (.fld o n x) (val (get s.env)) (hget s.heap)):=_root_.id rfl
theorem idop_fld (al:List (Nat × Nat)) (i:Nat) (d:Option Nat) (o:Nat) (n:Option Nat) (x:IV) (g:Option (Nat × Bool)) (bf:List Nat) (hist:List HI) (s:St) (K:List HI → St → Prop):idop P al i ⟨⟨d,.fld o n x,g⟩,bf⟩ hist s K = stepK (kdst al i bf (.fld o n x) hist K s d) (aev 0 (.fld o n x) (val (get s.env)) (hget s.heap)):=_root_.id rfl
theorem iop_iadr (d:Option Nat) (st:Nat) (x q:IV) (g:Option (Nat × Bool)) (s:St) (K:St → Prop):iop P ⟨d,.iadr st x q,g⟩ s K = stepK (kst K s d) (aev 0 (.iadr st x q) (val (get s.env)) (hget s.heap)):=_root_.id rfl
theorem idop_iadr (al:List (Nat × Nat)) (i:Nat) (d:Option Nat) (st:Nat) (x q:IV) (g:Option (Nat × Bool)) (bf:List Nat) (hist:List HI) (s:St) (K:List HI → St → Prop):idop P al i ⟨⟨d,.iadr st x q,g⟩,bf⟩ hist s K = stepK (kdst al i bf (.iadr st x q) hist K s d) (aev 0 (.iadr st x q) (val (get s.env)) (hget s.heap)):=_root_.id rfl
theorem iop_aadr (d:Option Nat) (st n:Nat) (x q:IV) (g:Option (Nat × Bool)) (s:St) (K:St → Prop):iop P ⟨d,.aadr st n x q,g⟩ s K = stepK (kst K s d) (aev 0 (.aadr st n x q) (val (get s.env)) (hget s.heap)):=_root_.id rfl
theorem idop_aadr (al:List (Nat × Nat)) (i:Nat) (d:Option Nat) (st n:Nat) (x q:IV) (g:Option (Nat × Bool)) (bf:List Nat) (hist:List HI) (s:St) (K:List HI → St → Prop):idop P al i ⟨⟨d,.aadr st n x q,g⟩,bf⟩ hist s K = stepK (kdst al i bf (.aadr st n x q) hist K s d) (aev 0 (.aadr st n x q) (val (get s.env)) (hget s.heap)):=_root_.id rfl
theorem iop_mnx (d:Option Nat) (m:Bool) (x y:IV) (g:Option (Nat × Bool)) (s:St) (K:St → Prop):iop P ⟨d,.mnx m x y,g⟩ s K = stepK (kst K s d) (aev 0 (.mnx m x y) (val (get s.env)) (hget s.heap)):=_root_.id rfl
theorem idop_mnx (al:List (Nat × Nat)) (i:Nat) (d:Option Nat) (m:Bool) (x y:IV) (g:Option (Nat × Bool)) (bf:List Nat) (hist:List HI) (s:St) (K:List HI → St → Prop):idop P al i ⟨⟨d,.mnx m x y,g⟩,bf⟩ hist s K = stepK (kdst al i bf (.mnx m x y) hist K s d) (aev 0 (.mnx m x y) (val (get s.env)) (hget s.heap)):=_root_.id rfl
theorem iop_cpy (d:Option Nat) (st:Nat) (x y:IV) (g:Option (Nat × Bool)) (s:St) (K:St → Prop):iop P ⟨d,.cpy st x y,g⟩ s K = stepK (kst K s d) (aev 0 (.cpy st x y) (val (get s.env)) (hget s.heap)):=_root_.id rfl
theorem idop_cpy (al:List (Nat × Nat)) (i:Nat) (d:Option Nat) (st:Nat) (x y:IV) (g:Option (Nat × Bool)) (bf:List Nat) (hist:List HI) (s:St) (K:List HI → St → Prop):idop P al i ⟨⟨d,.cpy st x y,g⟩,bf⟩ hist s K = stepK (kdst al i bf (.cpy st x y) hist K s d) (aev 0 (.cpy st x y) (val (get s.env)) (hget s.heap)):=_root_.id rfl
theorem iop_sib (d:Option Nat) (x y:IV) (g:Option (Nat × Bool)) (s:St) (K:St → Prop):iop P ⟨d,.sib x y,g⟩ s K = stepK (kst K s d) (aev 0 (.sib x y) (val (get s.env)) (hget s.heap)):=_root_.id rfl
theorem idop_sib (al:List (Nat × Nat)) (i:Nat) (d:Option Nat) (x y:IV) (g:Option (Nat × Bool)) (bf:List Nat) (hist:List HI) (s:St) (K:List HI → St → Prop):idop P al i ⟨⟨d,.sib x y,g⟩,bf⟩ hist s K = stepK (kdst al i bf (.sib x y) hist K s d) (aev 0 (.sib x y) (val (get s.env)) (hget s.heap)):=_root_.id rfl
theorem iop_cvm (d:Option Nat) (x:IV) (g:Option (Nat × Bool)) (s:St) (K:St → Prop):iop P ⟨d,.cvm x,g⟩ s K = stepK (kst K s d) (aev 0 (.cvm x) (val (get s.env)) (hget s.heap)):=_root_.id rfl
theorem idop_cvm (al:List (Nat × Nat)) (i:Nat) (d:Option Nat) (x:IV) (g:Option (Nat × Bool)) (bf:List Nat) (hist:List HI) (s:St) (K:List HI → St → Prop):idop P al i ⟨⟨d,.cvm x,g⟩,bf⟩ hist s K = stepK (kdst al i bf (.cvm x) hist K s d) (aev 0 (.cvm x) (val (get s.env)) (hget s.heap)):=_root_.id rfl
theorem iop_slc (d:Option Nat) (st:Nat) (x:IV) (lo hi mx:Option IV) (g:Option (Nat × Bool)) (s:St) (K:St → Prop):iop P ⟨d,.slc st x lo hi mx,g⟩ s K = stepK (kst K s d) (aev 0 (.slc st x lo hi mx) (val (get s.env)) (hget s.heap)):=_root_.id rfl
theorem idop_slc (al:List (Nat × Nat)) (i:Nat) (d:Option Nat) (st:Nat) (x:IV) (lo hi mx:Option IV) (g:Option (Nat × Bool)) (bf:List Nat) (hist:List HI) (s:St) (K:List HI → St → Prop):idop P al i ⟨⟨d,.slc st x lo hi mx,g⟩,bf⟩ hist s K = stepK (kdst al i bf (.slc st x lo hi mx) hist K s d) (aev 0 (.slc st x lo hi mx) (val (get s.env)) (hget s.heap)):=_root_.id rfl
theorem iop_len (d:Option Nat) (x:IV) (g:Option (Nat × Bool)) (s:St) (K:St → Prop):iop P ⟨d,.len x,g⟩ s K = stepK (kst K s d) (aev 0 (.len x) (val (get s.env)) (hget s.heap)):=_root_.id rfl
theorem idop_len (al:List (Nat × Nat)) (i:Nat) (d:Option Nat) (x:IV) (g:Option (Nat × Bool)) (bf:List Nat) (hist:List HI) (s:St) (K:List HI → St → Prop):idop P al i ⟨⟨d,.len x,g⟩,bf⟩ hist s K = stepK (kdst al i bf (.len x) hist K s d) (aev 0 (.len x) (val (get s.env)) (hget s.heap)):=_root_.id rfl
theorem iop_slen (d:Option Nat) (x:IV) (g:Option (Nat × Bool)) (s:St) (K:St → Prop):iop P ⟨d,.slen x,g⟩ s K = stepK (kst K s d) (aev 0 (.slen x) (val (get s.env)) (hget s.heap)):=_root_.id rfl
theorem idop_slen (al:List (Nat × Nat)) (i:Nat) (d:Option Nat) (x:IV) (g:Option (Nat × Bool)) (bf:List Nat) (hist:List HI) (s:St) (K:List HI → St → Prop):idop P al i ⟨⟨d,.slen x,g⟩,bf⟩ hist s K = stepK (kdst al i bf (.slen x) hist K s d) (aev 0 (.slen x) (val (get s.env)) (hget s.heap)):=_root_.id rfl
theorem iop_sslc (d:Option Nat) (x:IV) (lo hi:Option IV) (g:Option (Nat × Bool)) (s:St) (K:St → Prop):iop P ⟨d,.sslc x lo hi,g⟩ s K = stepK (kst K s d) (aev 0 (.sslc x lo hi) (val (get s.env)) (hget s.heap)):=_root_.id rfl
theorem idop_sslc (al:List (Nat × Nat)) (i:Nat) (d:Option Nat) (x:IV) (lo hi:Option IV) (g:Option (Nat × Bool)) (bf:List Nat) (hist:List HI) (s:St) (K:List HI → St → Prop):idop P al i ⟨⟨d,.sslc x lo hi,g⟩,bf⟩ hist s K = stepK (kdst al i bf (.sslc x lo hi) hist K s d) (aev 0 (.sslc x lo hi) (val (get s.env)) (hget s.heap)):=_root_.id rfl
theorem iop_bin (d:Option Nat) (o:BinOp) (x y:IV) (g:Option (Nat × Bool)) (s:St) (K:St → Prop):iop P ⟨d,.bin o x y,g⟩ s K = stepK (kst K s d) (aev 0 (.bin o x y) (val (get s.env)) (hget s.heap)):=_root_.id rfl
theorem idop_bin (al:List (Nat × Nat)) (i:Nat) (d:Option Nat) (o:BinOp) (x y:IV) (g:Option (Nat × Bool)) (bf:List Nat) (hist:List HI) (s:St) (K:List HI → St → Prop):idop P al i ⟨⟨d,.bin o x y,g⟩,bf⟩ hist s K = stepK (kdst al i bf (.bin o x y) hist K s d) (aev 0 (.bin o x y) (val (get s.env)) (hget s.heap)):=_root_.id rfl
theorem iop_bbin (d:Option Nat) (o:BinOp) (x y:IV) (g:Option (Nat × Bool)) (s:St) (K:St → Prop):iop P ⟨d,.bbin o x y,g⟩ s K = stepK (kst K s d) (aev 0 (.bbin o x y) (val (get s.env)) (hget s.heap)):=_root_.id rfl
theorem idop_bbin (al:List (Nat × Nat)) (i:Nat) (d:Option Nat) (o:BinOp) (x y:IV) (g:Option (Nat × Bool)) (bf:List Nat) (hist:List HI) (s:St) (K:List HI → St → Prop):idop P al i ⟨⟨d,.bbin o x y,g⟩,bf⟩ hist s K = stepK (kdst al i bf (.bbin o x y) hist K s d) (aev 0 (.bbin o x y) (val (get s.env)) (hget s.heap)):=_root_.id rfl
theorem iop_pbin (d:Option Nat) (o:BinOp) (x y:IV) (g:Option (Nat × Bool)) (s:St) (K:St → Prop):iop P ⟨d,.pbin o x y,g⟩ s K = stepK (kst K s d) (aev 0 (.pbin o x y) (val (get s.env)) (hget s.heap)):=_root_.id rfl
theorem iop_sbin (d:Option Nat) (o:BinOp) (ls:List LK) (x y:IV) (g:Option (Nat × Bool)) (s:St) (K:St → Prop):iop P ⟨d,.sbin o ls x y,g⟩ s K = stepK (kst K s d) (aev 0 (.sbin o ls x y) (val (get s.env)) (hget s.heap)):=_root_.id rfl
theorem idop_pbin (al:List (Nat × Nat)) (i:Nat) (d:Option Nat) (o:BinOp) (x y:IV) (g:Option (Nat × Bool)) (bf:List Nat) (hist:List HI) (s:St) (K:List HI → St → Prop):idop P al i ⟨⟨d,.pbin o x y,g⟩,bf⟩ hist s K = stepK (kdst al i bf (.pbin o x y) hist K s d) (aev 0 (.pbin o x y) (val (get s.env)) (hget s.heap)):=_root_.id rfl
theorem idop_sbin (al:List (Nat × Nat)) (i:Nat) (d:Option Nat) (o:BinOp) (ls:List LK) (x y:IV) (g:Option (Nat × Bool)) (bf:List Nat) (hist:List HI) (s:St) (K:List HI → St → Prop):idop P al i ⟨⟨d,.sbin o ls x y,g⟩,bf⟩ hist s K = stepK (kdst al i bf (.sbin o ls x y) hist K s d) (aev 0 (.sbin o ls x y) (val (get s.env)) (hget s.heap)):=_root_.id rfl
theorem iop_un (d:Option Nat) (o:UnOp) (x:IV) (g:Option (Nat × Bool)) (s:St) (K:St → Prop):iop P ⟨d,.un o x,g⟩ s K = stepK (kst K s d) (aev 0 (.un o x) (val (get s.env)) (hget s.heap)):=_root_.id rfl
theorem idop_un (al:List (Nat × Nat)) (i:Nat) (d:Option Nat) (o:UnOp) (x:IV) (g:Option (Nat × Bool)) (bf:List Nat) (hist:List HI) (s:St) (K:List HI → St → Prop):idop P al i ⟨⟨d,.un o x,g⟩,bf⟩ hist s K = stepK (kdst al i bf (.un o x) hist K s d) (aev 0 (.un o x) (val (get s.env)) (hget s.heap)):=_root_.id rfl
theorem iop_cvi (d:Option Nat) (k:IntKind) (x:IV) (g:Option (Nat × Bool)) (s:St) (K:St → Prop):iop P ⟨d,.cvi k x,g⟩ s K = stepK (kst K s d) (aev 0 (.cvi k x) (val (get s.env)) (hget s.heap)):=_root_.id rfl
theorem idop_cvi (al:List (Nat × Nat)) (i:Nat) (d:Option Nat) (k:IntKind) (x:IV) (g:Option (Nat × Bool)) (bf:List Nat) (hist:List HI) (s:St) (K:List HI → St → Prop):idop P al i ⟨⟨d,.cvi k x,g⟩,bf⟩ hist s K = stepK (kdst al i bf (.cvi k x) hist K s d) (aev 0 (.cvi k x) (val (get s.env)) (hget s.heap)):=_root_.id rfl
theorem iop_cvs (d:Option Nat) (x:IV) (g:Option (Nat × Bool)) (s:St) (K:St → Prop):iop P ⟨d,.cvs x,g⟩ s K = stepK (kst K s d) (aev 0 (.cvs x) (val (get s.env)) (hget s.heap)):=_root_.id rfl
theorem idop_cvs (al:List (Nat × Nat)) (i:Nat) (d:Option Nat) (x:IV) (g:Option (Nat × Bool)) (bf:List Nat) (hist:List HI) (s:St) (K:List HI → St → Prop):idop P al i ⟨⟨d,.cvs x,g⟩,bf⟩ hist s K = stepK (kdst al i bf (.cvs x) hist K s d) (aev 0 (.cvs x) (val (get s.env)) (hget s.heap)):=_root_.id rfl
theorem iop_cvt (d:Option Nat) (x:IV) (g:Option (Nat × Bool)) (s:St) (K:St → Prop):iop P ⟨d,.cvt x,g⟩ s K = stepK (kst K s d) (aev 0 (.cvt x) (val (get s.env)) (hget s.heap)):=_root_.id rfl
theorem idop_cvt (al:List (Nat × Nat)) (i:Nat) (d:Option Nat) (x:IV) (g:Option (Nat × Bool)) (bf:List Nat) (hist:List HI) (s:St) (K:List HI → St → Prop):idop P al i ⟨⟨d,.cvt x,g⟩,bf⟩ hist s K = stepK (kdst al i bf (.cvt x) hist K s d) (aev 0 (.cvt x) (val (get s.env)) (hget s.heap)):=_root_.id rfl
theorem iop_ext (d:Option Nat) (x:IV) (q:Nat) (g:Option (Nat × Bool)) (s:St) (K:St → Prop):iop P ⟨d,.ext x q,g⟩ s K = stepK (kst K s d) (aev 0 (.ext x q) (val (get s.env)) (hget s.heap)):=_root_.id rfl
theorem idop_ext (al:List (Nat × Nat)) (i:Nat) (d:Option Nat) (x:IV) (q:Nat) (g:Option (Nat × Bool)) (bf:List Nat) (hist:List HI) (s:St) (K:List HI → St → Prop):idop P al i ⟨⟨d,.ext x q,g⟩,bf⟩ hist s K = stepK (kdst al i bf (.ext x q) hist K s d) (aev 0 (.ext x q) (val (get s.env)) (hget s.heap)):=_root_.id rfl
theorem iop_nchk (d:Option Nat) (x:IV) (g:Option (Nat × Bool)) (s:St) (K:St → Prop):iop P ⟨d,.nchk x,g⟩ s K = stepK (kst K s d) (aev 0 (.nchk x) (val (get s.env)) (hget s.heap)):=_root_.id rfl
theorem idop_nchk (al:List (Nat × Nat)) (i:Nat) (d:Option Nat) (x:IV) (g:Option (Nat × Bool)) (bf:List Nat) (hist:List HI) (s:St) (K:List HI → St → Prop):idop P al i ⟨⟨d,.nchk x,g⟩,bf⟩ hist s K = stepK (kdst al i bf (.nchk x) hist K s d) (aev 0 (.nchk x) (val (get s.env)) (hget s.heap)):=_root_.id rfl
theorem iop_mkf (d:Option Nat) (f:FuncId) (cs:List IV) (g:Option (Nat × Bool)) (s:St) (K:St → Prop):iop P ⟨d,.mkf f cs,g⟩ s K = stepK (kst K s d) (aev 0 (.mkf f cs) (val (get s.env)) (hget s.heap)):=_root_.id rfl
theorem idop_mkf (al:List (Nat × Nat)) (i:Nat) (d:Option Nat) (f:FuncId) (cs:List IV) (g:Option (Nat × Bool)) (bf:List Nat) (hist:List HI) (s:St) (K:List HI → St → Prop):idop P al i ⟨⟨d,.mkf f cs,g⟩,bf⟩ hist s K = stepK (kdst al i bf (.mkf f cs) hist K s d) (aev 0 (.mkf f cs) (val (get s.env)) (hget s.heap)):=_root_.id rfl
theorem iop_sidx (d:Option Nat) (x q:IV) (g:Option (Nat × Bool)) (s:St) (K:St → Prop):iop P ⟨d,.sidx x q,g⟩ s K = stepK (kst K s d) (aev 0 (.sidx x q) (val (get s.env)) (hget s.heap)):=_root_.id rfl
theorem idop_sidx (al:List (Nat × Nat)) (i:Nat) (d:Option Nat) (x q:IV) (g:Option (Nat × Bool)) (bf:List Nat) (hist:List HI) (s:St) (K:List HI → St → Prop):idop P al i ⟨⟨d,.sidx x q,g⟩,bf⟩ hist s K = stepK (kdst al i bf (.sidx x q) hist K s d) (aev 0 (.sidx x q) (val (get s.env)) (hget s.heap)):=_root_.id rfl
theorem iop_new (d:Nat) (t:TypeId) (cs:List AV) (g:Option (Nat × Bool)) (s:St) (K:St → Prop):iop P ⟨some d,.new t cs,g⟩ s K = (d < 1000 ∧ stepK (kst K (s.kill d) (some d)) (aev d (.new t cs) (val (get (s.kill d).env)) (hget (s.kill d).heap))):=_root_.id rfl
theorem idop_new (al:List (Nat × Nat)) (i d:Nat) (t:TypeId) (cs:List AV) (g:Option (Nat × Bool)) (bf:List Nat) (hist:List HI) (s:St) (K:List HI → St → Prop):idop P al i ⟨⟨some d,.new t cs,g⟩,bf⟩ hist s K = stepK (kdst al i bf (.new t cs) hist K s (some d)) (aev d (.new t cs) (val (get s.env)) (hget s.heap)):=_root_.id rfl
theorem iop_box (d:Nat) (t:TypeId) (n:Nat) (x:IV) (g:Option (Nat × Bool)) (s:St) (K:St → Prop):iop P ⟨some d,.box t n x,g⟩ s K = (d < 1000 ∧ stepK (kst K (s.kill d) (some d)) (aev d (.box t n x) (val (get (s.kill d).env)) (hget (s.kill d).heap))):=_root_.id rfl
theorem idop_box (al:List (Nat × Nat)) (i d:Nat) (t:TypeId) (n:Nat) (x:IV) (g:Option (Nat × Bool)) (bf:List Nat) (hist:List HI) (s:St) (K:List HI → St → Prop):idop P al i ⟨⟨some d,.box t n x,g⟩,bf⟩ hist s K = stepK (kdst al i bf (.box t n x) hist K s (some d)) (aev d (.box t n x) (val (get s.env)) (hget s.heap)):=_root_.id rfl
theorem iop_bsl (d:Nat) (t:TypeId) (st:Nat) (rows:List (List AV)) (ps:List (Nat × IV)) (g:Option (Nat × Bool)) (s:St) (K:St → Prop):iop P ⟨some d,.bsl t st rows ps,g⟩ s K = (d < 1000 ∧ stepX (bslAlt ⟨some d,.bsl t st rows ps,g⟩ s K) (kst K (s.kill d) (some d)) (aev d (.bsl t st rows ps) (val (get (s.kill d).env)) (hget (s.kill d).heap))):=_root_.id rfl
theorem opNew_bsl (d:Nat) (t:TypeId) (st:Nat) (rows:List (List AV)) (ps:List (Nat × IV)) (g:Option (Nat × Bool)) (s:St) (K:St → Prop):opNew ⟨some d,.bsl t st rows ps,g⟩ s K = stepK (kst K (s.kill d) (some d)) (aev d (.bsl t st rows ps) (val (get (s.kill d).env)) (hget (s.kill d).heap)):=_root_.id rfl
theorem idop_bsl (al:List (Nat × Nat)) (i d:Nat) (t:TypeId) (st:Nat) (rows:List (List AV)) (ps:List (Nat × IV)) (g:Option (Nat × Bool)) (bf:List Nat) (hist:List HI) (s:St) (K:List HI → St → Prop):idop P al i ⟨⟨some d,.bsl t st rows ps,g⟩,bf⟩ hist s K = stepK (kdst al i bf (.bsl t st rows ps) hist K s (some d)) (aev d (.bsl t st rows ps) (val (get s.env)) (hget s.heap)):=_root_.id rfl
theorem iop_app (d:Nat) (t:TypeId) (st:Nat) (x y:IV) (g:Option (Nat × Bool)) (s:St) (K:St → Prop):iop P ⟨some d,.app t st x y,g⟩ s K = (d < 1000 ∧ stepK (kst K (s.kill d) (some d)) (aev d (.app t st x y) (val (get (s.kill d).env)) (hget (s.kill d).heap))):=_root_.id rfl
theorem idop_app (al:List (Nat × Nat)) (i d:Nat) (t:TypeId) (st:Nat) (x y:IV) (g:Option (Nat × Bool)) (bf:List Nat) (hist:List HI) (s:St) (K:List HI → St → Prop):idop P al i ⟨⟨some d,.app t st x y,g⟩,bf⟩ hist s K = stepK (kdst al i bf (.app t st x y) hist K s (some d)) (aev d (.app t st x y) (val (get s.env)) (hget s.heap)):=_root_.id rfl
theorem iop_apps (d:Nat) (t:TypeId) (x y:IV) (g:Option (Nat × Bool)) (s:St) (K:St → Prop):iop P ⟨some d,.apps t x y,g⟩ s K = (d < 1000 ∧ stepK (kst K (s.kill d) (some d)) (aev d (.apps t x y) (val (get (s.kill d).env)) (hget (s.kill d).heap))):=_root_.id rfl
theorem idop_apps (al:List (Nat × Nat)) (i d:Nat) (t:TypeId) (x y:IV) (g:Option (Nat × Bool)) (bf:List Nat) (hist:List HI) (s:St) (K:List HI → St → Prop):idop P al i ⟨⟨some d,.apps t x y,g⟩,bf⟩ hist s K = stepK (kdst al i bf (.apps t x y) hist K s (some d)) (aev d (.apps t x y) (val (get s.env)) (hget s.heap)):=_root_.id rfl
theorem iop_cvb (d:Nat) (t:TypeId) (x:IV) (g:Option (Nat × Bool)) (s:St) (K:St → Prop):iop P ⟨some d,.cvb t x,g⟩ s K = (d < 1000 ∧ stepK (kst K (s.kill d) (some d)) (aev d (.cvb t x) (val (get (s.kill d).env)) (hget (s.kill d).heap))):=_root_.id rfl
theorem idop_cvb (al:List (Nat × Nat)) (i d:Nat) (t:TypeId) (x:IV) (g:Option (Nat × Bool)) (bf:List Nat) (hist:List HI) (s:St) (K:List HI → St → Prop):idop P al i ⟨⟨some d,.cvb t x,g⟩,bf⟩ hist s K = stepK (kdst al i bf (.cvb t x) hist K s (some d)) (aev d (.cvb t x) (val (get s.env)) (hget s.heap)):=_root_.id rfl
theorem iop_mks (d:Nat) (t:TypeId) (st:Nat) (z:List AV) (l c:IV) (g:Option (Nat × Bool)) (s:St) (K:St → Prop):iop P ⟨some d,.mks t st z l c,g⟩ s K = (d < 1000 ∧ stepK (kst K (s.kill d) (some d)) (aev d (.mks t st z l c) (val (get (s.kill d).env)) (hget (s.kill d).heap))):=_root_.id rfl
theorem idop_mks (al:List (Nat × Nat)) (i d:Nat) (t:TypeId) (st:Nat) (z:List AV) (l c:IV) (g:Option (Nat × Bool)) (bf:List Nat) (hist:List HI) (s:St) (K:List HI → St → Prop):idop P al i ⟨⟨some d,.mks t st z l c,g⟩,bf⟩ hist s K = stepK (kdst al i bf (.mks t st z l c) hist K s (some d)) (aev d (.mks t st z l c) (val (get s.env)) (hget s.heap)):=_root_.id rfl

/-! ### Values -/
theorem ae_mov (d:Nat) (x:IV) (ρ:IV → AV) (h:Nat → Option AObj):aev d (.mov x) ρ h = some (ρ x,.no):=rfl
def pickA (c a b:AV):Option (AV × Eff) :=
  match c with
  | .bool true=>some (a,.no)
  | .bool false=>some (b,.no)
  | _=>none
theorem ae_pick (d:Nat) (c a b:IV) (ρ:IV → AV) (h:Nat → Option AObj):aev d (.pick c a b) ρ h = pickA (ρ c) (ρ a) (ρ b):=rfl
theorem pickA_t (a b:AV):pickA (.bool true) a b = some (a,.no):=rfl
theorem pickA_f (a b:AV):pickA (.bool false) a b = some (b,.no):=rfl
theorem stepK_pick (K:AV → Eff → Prop) (t:Bool) (a b:AV):stepK K (pickA (.bool t) a b) = ((t = true → K a .no) ∧ (t = false → K b .no)):=by cases t <;> simp [stepK,pickA]
theorem ae_new (d:Nat) (t:TypeId) (cs:List AV) (ρ:IV → AV) (h:Nat → Option AObj):aev d (.new t cs) ρ h = some (.mp d cs.length 0 0,.new d ⟨t,cs.length,[cs],true⟩):=_root_.id rfl
def boxA (d:Nat) (t:TypeId) (n:Nat) (x:Option (List AV)):Option (AV × Eff) :=
  match x with
  | some cs=>if cs.length = n ∧ (cs.all fun y=>!(mC d y)) = true then some (.mp d n 0 0,.new d ⟨t,n,[cs],true⟩) else none
  | none=>none
theorem boxA_some (d:Nat) (t:TypeId) (n:Nat) (cs:List AV):boxA d t n (some cs) = if cs.length = n ∧ (cs.all fun y=>!(mC d y)) = true then some (.mp d n 0 0,.new d ⟨t,n,[cs],true⟩) else none:=rfl
theorem ae_box (d:Nat) (t:TypeId) (n:Nat) (x:IV) (ρ:IV → AV) (h:Nat → Option AObj):aev d (.box t n x) ρ h = boxA d t n (cellsA (ρ x)):=_root_.id rfl
theorem ae_build (d:Nat) (cs:List AV) (ps:List (Nat × Nat × IV)) (ρ:IV → AV) (h:Nat → Option AObj):aev d (.build cs ps) ρ h = res ((aParts ρ cs ps).map .agg):=_root_.id rfl
def bslA (d:Nat) (t:TypeId) (st:Nat) (x:Option (List (List AV))):Option (AV × Eff) :=
  match x with
  | some rs=>some (.ms d st 0 rs.length,.new d ⟨t,st,rs,false⟩)
  | none=>none
theorem bslA_none (d:Nat) (t:TypeId) (st:Nat):bslA d t st none = none:=rfl
theorem bslA_some (d:Nat) (t:TypeId) (st:Nat) (rs:List (List AV)):bslA d t st (some rs) = some (.ms d st 0 rs.length,.new d ⟨t,st,rs,false⟩):=rfl
theorem ae_bsl (d:Nat) (t:TypeId) (st:Nat) (rows:List (List AV)) (ps:List (Nat × IV)) (ρ:IV → AV) (h:Nat → Option AObj):aev d (.bsl t st rows ps) ρ h = bslA d t st (aRows ρ st rows ps):=_root_.id rfl
theorem ae_load (d:Nat) (n:Option Nat) (p:IV) (ρ:IV → AV) (h:Nat → Option AObj):aev d (.load n p) ρ h = res (aLoad n (ρ p) h):=_root_.id rfl
def stoA (x:Option Eff):Option (AV × Eff):=x.map fun e=>(.any,e)
theorem stoA_some (e:Eff):stoA (some e) = some (.any,e):=rfl
theorem stoA_ite (c:Prop) [Decidable c] (x:Option Eff):stoA (if c then x else none) = if c then stoA x else none:=by split <;> rfl
theorem ae_store (d:Nat) (n:Nat) (p x:IV) (ρ:IV → AV) (h:Nat → Option AObj):aev d (.store n p x) ρ h = stoA (aStore n (ρ p) (ρ x) h):=_root_.id rfl
theorem ae_fadr (d:Nat) (o:Nat) (p:IV) (ρ:IV → AV) (h:Nat → Option AObj):aev d (.fadr o p) ρ h = res (aFadr o (ρ p)):=_root_.id rfl
theorem ae_fld (d:Nat) (o:Nat) (n:Option Nat) (x:IV) (ρ:IV → AV) (h:Nat → Option AObj):aev d (.fld o n x) ρ h = res (aFld o n (ρ x)):=_root_.id rfl
theorem ae_iadr (d:Nat) (st:Nat) (x q:IV) (ρ:IV → AV) (h:Nat → Option AObj):aev d (.iadr st x q) ρ h = res (aIadr st (ρ x) (ρ q)):=_root_.id rfl
theorem ae_aadr (d:Nat) (st n:Nat) (x q:IV) (ρ:IV → AV) (h:Nat → Option AObj):aev d (.aadr st n x q) ρ h = res (aAadr st n (ρ x) (ρ q)):=_root_.id rfl
theorem ae_mnx (d:Nat) (m:Bool) (x y:IV) (ρ:IV → AV) (h:Nat → Option AObj):aev d (.mnx m x y) ρ h = res (aMnx m (ρ x) (ρ y)):=_root_.id rfl
theorem ae_cpy (d:Nat) (st:Nat) (x y:IV) (ρ:IV → AV) (h:Nat → Option AObj):aev d (.cpy st x y) ρ h = aCpy st (ρ x) (rowsA st h (ρ y)) h:=_root_.id rfl
theorem ae_cvm (d:Nat) (x:IV) (ρ:IV → AV) (h:Nat → Option AObj):aev d (.cvm x) ρ h = aCvm (ρ x) h:=_root_.id rfl
theorem ae_sib (d:Nat) (x y:IV) (ρ:IV → AV) (h:Nat → Option AObj):aev d (.sib x y) ρ h = res (aSib (ρ x) (ρ y)):=_root_.id rfl
theorem ae_slc (d:Nat) (st:Nat) (x:IV) (lo hi mx:Option IV) (ρ:IV → AV) (h:Nat → Option AObj):aev d (.slc st x lo hi mx) ρ h = res (aSlc st (ρ x) (lo.map ρ) (hi.map ρ) (mx.map ρ)):=_root_.id rfl
theorem ae_len (d:Nat) (x:IV) (ρ:IV → AV) (h:Nat → Option AObj):aev d (.len x) ρ h = res (aLen (ρ x)):=_root_.id rfl
theorem ae_slen (d:Nat) (x:IV) (ρ:IV → AV) (h:Nat → Option AObj):aev d (.slen x) ρ h = res (aSlen (ρ x)):=_root_.id rfl
theorem ae_app (d:Nat) (t:TypeId) (st:Nat) (x y:IV) (ρ:IV → AV) (h:Nat → Option AObj):aev d (.app t st x y) ρ h = aApp d t st (ρ x) (rowsA st h (ρ y)) h:=_root_.id rfl
theorem ae_apps (d:Nat) (t:TypeId) (x y:IV) (ρ:IV → AV) (h:Nat → Option AObj):aev d (.apps t x y) ρ h = aApp d t 1 (ρ x) (srcS (ρ y)) h:=_root_.id rfl
theorem ae_sslc (d:Nat) (x:IV) (lo hi:Option IV) (ρ:IV → AV) (h:Nat → Option AObj):aev d (.sslc x lo hi) ρ h = res (aSslc (ρ x) (lo.map ρ) (hi.map ρ)):=_root_.id rfl
theorem ae_bin (d:Nat) (o:BinOp) (x y:IV) (ρ:IV → AV) (h:Nat → Option AObj):aev d (.bin o x y) ρ h = res (aBin o (ρ x) (ρ y)):=_root_.id rfl
theorem ae_bbin (d:Nat) (o:BinOp) (x y:IV) (ρ:IV → AV) (h:Nat → Option AObj):aev d (.bbin o x y) ρ h = res (aBbin o (ρ x) (ρ y)):=_root_.id rfl
theorem ae_pbin (d:Nat) (o:BinOp) (x y:IV) (ρ:IV → AV) (h:Nat → Option AObj):aev d (.pbin o x y) ρ h = res (aPbin o (ρ x) (ρ y)):=_root_.id rfl
theorem ae_sbin (d:Nat) (o:BinOp) (ls:List LK) (x y:IV) (ρ:IV → AV) (h:Nat → Option AObj):aev d (.sbin o ls x y) ρ h = res (aSbin o ls (ρ x) (ρ y)):=_root_.id rfl
theorem ae_un (d:Nat) (o:UnOp) (x:IV) (ρ:IV → AV) (h:Nat → Option AObj):aev d (.un o x) ρ h = res (aUn o (ρ x)):=_root_.id rfl
def cviA (k:IntKind) (x:AV):Option (AV × Eff) :=
  match x with
  | .int _ n=>some (.int k (k.wrap n),.no)
  | _=>none
theorem cviA_int (k k':IntKind) (n:Int):cviA k (.int k' n) = some (.int k (k.wrap n),.no):=rfl
def cvsA (x:Option (List (List AV))):Option (AV × Eff) :=
  match x with
  | some rows=>res ((bytesA rows).map .str)
  | none=>none
theorem cvsA_some (rows:List (List AV)):cvsA (some rows) = res ((bytesA rows).map .str):=rfl
theorem cvsA_ite (c:Prop) [Decidable c] (x:Option (List (List AV))):cvsA (if c then x else none) = if c then cvsA x else none:=by split <;> rfl
def cvbA (d:Nat) (t:TypeId) (x:AV):Option (AV × Eff) :=
  match x with
  | .str s=>if s.length < 1073741824 then some (.ms d 1 0 s.length,.new d ⟨t,1,s.map fun b=>[.int .u8 b.toNat],false⟩) else none
  | _=>none
theorem cvbA_str (d:Nat) (t:TypeId) (s:List UInt8):cvbA d t (.str s) = if s.length < 1073741824 then some (.ms d 1 0 s.length,.new d ⟨t,1,s.map fun b=>[.int .u8 b.toNat],false⟩) else none:=rfl
def extA (i:Nat) (x:AV):Option (AV × Eff) :=
  match x with
  | .tup vs=>res (vs[i]?)
  | _=>none
theorem extA_tup (i:Nat) (vs:List AV):extA i (.tup vs) = res (vs[i]?):=rfl
def nchkA (x:AV):Option (AV × Eff) :=
  match x with
  | .mp id st row off=>some (.mp id st row off,.no)
  | .ip cells=>some (.ip cells,.no)
  | .fn f caps=>some (.fn f caps,.no)
  | _=>none
theorem nchkA_mp (id st row off:Nat):nchkA (.mp id st row off) = some (.mp id st row off,.no):=rfl
theorem nchkA_ip (cells:List AV):nchkA (.ip cells) = some (.ip cells,.no):=rfl
theorem nchkA_fn (f:FuncId) (caps:List AV):nchkA (.fn f caps) = some (.fn f caps,.no):=rfl
def cvtA (x:AV):Option (AV × Eff) :=
  match x with
  | .str s=>some (.str s,.no)
  | _=>none
theorem cvtA_str (s:List UInt8):cvtA (.str s) = some (.str s,.no):=rfl
def sidxA (x i:AV):Option (AV × Eff) :=
  match x,i with
  | .str s,.int _ n=>if 0 ≤ n then (match s[n.toNat]? with | some b=>some (.int .u8 b.toNat,.no) | none=>none) else none
  | _,_=>none
theorem sidxA_str (K:AV → Eff → Prop) (s:List UInt8) (k:IntKind) (n:Int):stepK K (sidxA (.str s) (.int k n)) = (0 ≤ n ∧ n < s.length ∧ K (.int .u8 (nth s n.toNat).toNat) .no):=by
  simp only [sidxA]
  by_cases h:0 ≤ n
  · rw [if_pos h]
    by_cases h2:n.toNat < s.length
    · rw [List.getElem?_eq_getElem h2]
      rw [nth_eq h2]
      simp only [stepK]
      exact propext ⟨fun hk=>⟨h,by omega,hk⟩,fun hk=>hk.2.2⟩
    · rw [List.getElem?_eq_none (by omega)]
      simp only [stepK]
      exact propext ⟨fun hk=>hk.elim,fun hk=>by omega⟩
  · rw [if_neg h]
    simp only [stepK]
    exact propext ⟨fun hk=>hk.elim,fun hk=>absurd hk.1 h⟩
def mksA (d:Nat) (t:TypeId) (st:Nat) (zero:List AV) (l cp:AV):Option (AV × Eff) :=
  match l,cp with
  | .int .i64 n,.int .i64 m=>if 0 ≤ n ∧ n ≤ m ∧ m < 1073741824 ∧ zero.length = st then some (.ms d st 0 n.toNat,.new d ⟨t,st,List.replicate n.toNat zero,false⟩) else none
  | _,_=>none
theorem mksA_int (d:Nat) (t:TypeId) (st:Nat) (zero:List AV) (n m:Int):mksA d t st zero (.int .i64 n) (.int .i64 m) = if 0 ≤ n ∧ n ≤ m ∧ m < 1073741824 ∧ zero.length = st then some (.ms d st 0 n.toNat,.new d ⟨t,st,List.replicate n.toNat zero,false⟩) else none:=rfl
theorem ae_cvi (d:Nat) (k:IntKind) (x:IV) (ρ:IV → AV) (h:Nat → Option AObj):aev d (.cvi k x) ρ h = cviA k (ρ x):=_root_.id rfl
theorem ae_cvs (d:Nat) (x:IV) (ρ:IV → AV) (h:Nat → Option AObj):aev d (.cvs x) ρ h = cvsA (rowsA 1 h (ρ x)):=_root_.id rfl
theorem ae_cvb (d:Nat) (t:TypeId) (x:IV) (ρ:IV → AV) (h:Nat → Option AObj):aev d (.cvb t x) ρ h = cvbA d t (ρ x):=_root_.id rfl
theorem ae_cvt (d:Nat) (x:IV) (ρ:IV → AV) (h:Nat → Option AObj):aev d (.cvt x) ρ h = cvtA (ρ x):=_root_.id rfl
theorem ae_ext (d:Nat) (x:IV) (q:Nat) (ρ:IV → AV) (h:Nat → Option AObj):aev d (.ext x q) ρ h = extA q (ρ x):=_root_.id rfl
theorem ae_nchk (d:Nat) (x:IV) (ρ:IV → AV) (h:Nat → Option AObj):aev d (.nchk x) ρ h = nchkA (ρ x):=_root_.id rfl
theorem ae_sidx (d:Nat) (x q:IV) (ρ:IV → AV) (h:Nat → Option AObj):aev d (.sidx x q) ρ h = sidxA (ρ x) (ρ q):=_root_.id rfl
theorem ae_mks (d:Nat) (t:TypeId) (st:Nat) (z:List AV) (l c:IV) (ρ:IV → AV) (h:Nat → Option AObj):aev d (.mks t st z l c) ρ h = mksA d t st z (ρ l) (ρ c):=_root_.id rfl
theorem ae_mkf (d:Nat) (f:FuncId) (cs:List IV) (ρ:IV → AV) (h:Nat → Option AObj):aev d (.mkf f cs) ρ h = if (cs.map ρ).all capA = true then some (.fn f (cs.map ρ),.no) else none:=_root_.id rfl
theorem aBin_add (k:IntKind) (a b:Int):aBin .add (.int k a) (.int k b) = some (.int k (k.wrap (a + b))):=by cases k <;> rfl
theorem aBin_sub (k:IntKind) (a b:Int):aBin .sub (.int k a) (.int k b) = some (.int k (k.wrap (a - b))):=by cases k <;> rfl
theorem aBin_mul (k:IntKind) (a b:Int):aBin .mul (.int k a) (.int k b) = some (.int k (k.wrap (a * b))):=by cases k <;> rfl
theorem aBin_eql (k:IntKind) (a b:Int):aBin .eql (.int k a) (.int k b) = some (.bool (a == b)):=by cases k <;> rfl
theorem aBin_neq (k:IntKind) (a b:Int):aBin .neq (.int k a) (.int k b) = some (.bool (a != b)):=by cases k <;> rfl
theorem aBin_lss (k:IntKind) (a b:Int):aBin .lss (.int k a) (.int k b) = some (.bool (decide (a < b))):=by cases k <;> rfl
theorem aBin_leq (k:IntKind) (a b:Int):aBin .leq (.int k a) (.int k b) = some (.bool (decide (a ≤ b))):=by cases k <;> rfl
theorem aBin_gtr (k:IntKind) (a b:Int):aBin .gtr (.int k a) (.int k b) = some (.bool (decide (a > b))):=by cases k <;> rfl
theorem aBin_geq (k:IntKind) (a b:Int):aBin .geq (.int k a) (.int k b) = some (.bool (decide (a ≥ b))):=by cases k <;> rfl
theorem aBin_quo (k:IntKind) (a b:Int):aBin .quo (.int k a) (.int k b) = if b = 0 then none else some (.int k (k.wrap (a.tdiv b))):=by cases k <;> rfl
theorem aBin_rem (k:IntKind) (a b:Int):aBin .rem (.int k a) (.int k b) = if b = 0 then none else some (.int k (a.tmod b)):=by cases k <;> rfl
def b_and (k:IntKind) (a b:Int):Int:=k.wrap ((BitVec.ofInt k.bits a &&& BitVec.ofInt k.bits b).toNat)
theorem aBin_and (k:IntKind) (a b:Int):aBin .and (.int k a) (.int k b) = some (.int k (b_and k a b)):=by cases k <;> rfl
def b_or (k:IntKind) (a b:Int):Int:=k.wrap ((BitVec.ofInt k.bits a ||| BitVec.ofInt k.bits b).toNat)
theorem aBin_or (k:IntKind) (a b:Int):aBin .or (.int k a) (.int k b) = some (.int k (b_or k a b)):=by cases k <;> rfl
def b_xor (k:IntKind) (a b:Int):Int:=k.wrap ((BitVec.ofInt k.bits a ^^^ BitVec.ofInt k.bits b).toNat)
theorem aBin_xor (k:IntKind) (a b:Int):aBin .xor (.int k a) (.int k b) = some (.int k (b_xor k a b)):=by cases k <;> rfl
def b_andNot (k:IntKind) (a b:Int):Int:=k.wrap ((BitVec.ofInt k.bits a &&& ~~~ (BitVec.ofInt k.bits b)).toNat)
theorem aBin_andNot (k:IntKind) (a b:Int):aBin .andNot (.int k a) (.int k b) = some (.int k (b_andNot k a b)):=by cases k <;> rfl
def b_shl (k:IntKind) (a b:Int):Int:=k.wrap (a * 2 ^ (min b.toNat k.bits))
def b_shr (k:IntKind) (a b:Int):Int:=a.fdiv (2 ^ (min b.toNat k.bits))
theorem aBin_shl (k k1:IntKind) (a b:Int):aBin .shl (.int k a) (.int k1 b) = if b < 0 then none else some (.int k (b_shl k a b)):=_root_.id rfl
theorem aBin_shr (k k1:IntKind) (a b:Int):aBin .shr (.int k a) (.int k1 b) = if b < 0 then none else some (.int k (b_shr k a b)):=_root_.id rfl
theorem aBin_sadd (a b:List UInt8):aBin .add (.str a) (.str b) = if a.length + b.length < 4611686018427387904 then some (.str (a ++ b)) else none:=_root_.id rfl
theorem aBin_seql (a b:List UInt8):aBin .eql (.str a) (.str b) = some (.bool (a == b)):=_root_.id rfl
theorem aBin_sneq (a b:List UInt8):aBin .neq (.str a) (.str b) = some (.bool (!(a == b))):=_root_.id rfl
theorem aBin_slss (a b:List UInt8):aBin .lss (.str a) (.str b) = some (.bool (Op.bytesLess a b)):=_root_.id rfl
theorem aBin_sleq (a b:List UInt8):aBin .leq (.str a) (.str b) = some (.bool (Op.bytesLess a b || a == b)):=_root_.id rfl
theorem aBin_sgtr (a b:List UInt8):aBin .gtr (.str a) (.str b) = some (.bool (!(Op.bytesLess a b || a == b))):=_root_.id rfl
theorem aBin_sgeq (a b:List UInt8):aBin .geq (.str a) (.str b) = some (.bool (!(Op.bytesLess a b))):=_root_.id rfl
theorem aBbin_eql (a b:Bool):aBbin .eql (.bool a) (.bool b) = some (.bool (a == b)):=rfl
theorem aBbin_neq (a b:Bool):aBbin .neq (.bool a) (.bool b) = some (.bool (!(a == b))):=rfl
theorem aUn_not (a:Bool):aUn .not (.bool a) = some (.bool (!a)):=rfl
theorem aUn_neg (k:IntKind) (n:Int):aUn .neg (.int k n) = some (.int k (k.wrap (0 - n))):=rfl
theorem aSbin_e (l:LK) (ls:List LK) (xs ys:List AV):aSbin .eql (l :: ls) (.agg xs) (.agg ys) = (aSeq (l :: ls) xs ys).map .bool:=rfl
theorem aSbin_n (l:LK) (ls:List LK) (xs ys:List AV):aSbin .neq (l :: ls) (.agg xs) (.agg ys) = (aSeq (l :: ls) xs ys).map fun b=>.bool (!b):=rfl
theorem aSbin_f1 (f:FuncId) (cs:List AV):aSbin .eql [] (.fn f cs) .nf = some (.bool false):=rfl
theorem aSbin_f2 (f:FuncId) (cs:List AV):aSbin .neq [] (.fn f cs) .nf = some (.bool true):=rfl
theorem aSbin_f3:aSbin .eql [] .nf .nf = some (.bool true):=rfl
theorem aSbin_f4:aSbin .neq [] .nf .nf = some (.bool false):=rfl
theorem aSeq_n:aSeq [] [] [] = some true:=rfl
def sqK (p:Option Bool) (q:Option Bool):Option Bool:=match p,q with
  | some p,some q=>some (p && q)
  | _,_=>none
theorem sqK_some (p q:Bool):sqK (some p) (some q) = some (p && q):=rfl
theorem aSeq_c (l:LK) (ls:List LK) (x y:AV) (xs ys:List AV):aSeq (l :: ls) (x :: xs) (y :: ys) = sqK (leafEq l x y) (aSeq ls xs ys):=rfl
theorem leafEq_b (p q:Bool):leafEq .b (.bool p) (.bool q) = some (p == q):=rfl
theorem leafEq_i (k:IntKind) (p q:Int):leafEq .i (.int k p) (.int k q) = some (p == q):=by simp [leafEq]
theorem leafEq_s (p q:List UInt8):leafEq .s (.str p) (.str q) = some (p == q):=rfl
theorem aPbin_e1:aPbin .eql .np .np = some (.bool true):=rfl
theorem aPbin_e2 (id st row off:Nat):aPbin .eql (.mp id st row off) .np = some (.bool false):=rfl
theorem aPbin_e3 (cells:List AV):aPbin .eql (.ip cells) .np = some (.bool false):=rfl
theorem aPbin_n1:aPbin .neq .np .np = some (.bool false):=rfl
theorem aPbin_n2 (id st row off:Nat):aPbin .neq (.mp id st row off) .np = some (.bool true):=rfl
theorem aPbin_n3 (cells:List AV):aPbin .neq (.ip cells) .np = some (.bool true):=rfl
theorem aLen_sl (st:Nat) (rows:List (List AV)):aLen (.sl st rows) = some (.int .i64 rows.length):=rfl
theorem aLen_ms (id st off len:Nat):aLen (.ms id st off len) = some (.int .i64 len):=rfl
theorem aLen_nl:aLen .nl = some (.int .i64 0):=rfl
theorem aSlen_str (s:List UInt8):aSlen (.str s) = some (.int .i64 s.length):=rfl
theorem aLoad_ip (n:Option Nat) (cells:List AV) (h:Nat → Option AObj):aLoad n (.ip cells) h = ldc n cells:=rfl
def ldO (n:Option Nat) (st row off:Nat) (o:Option AObj):Option AV :=
  match o with
  | some o=>if o.st = st then (match o.rows[row]? with | some r=>ldc n (r.drop off) | none=>none) else none
  | none=>none
theorem aLoad_mp (n:Option Nat) (id st row off:Nat) (h:Nat → Option AObj):aLoad n (.mp id st row off) h = ldO n st row off (h id):=rfl
theorem ldO_rec (n:Option Nat) (st off:Nat) (t:TypeId) (r:List AV) (b:Bool):ldO n st 0 off (some ⟨t,st,[r],b⟩) = ldc n (r.drop off):=by simp [ldO]
theorem ldO_map {α:Type} [Inhabited α] (K:AV → Eff → Prop) (n:Option Nat) (st row off:Nat) (t:TypeId) (l:List α) (f:α → List AV) (b:Bool) :
    stepK K (res (ldO n st row off (some ⟨t,st,l.map f,b⟩))) = (row < l.length ∧ stepK K (res (ldc n ((f (nth l row)).drop off)))):=by
  simp only [ldO,if_true]
  by_cases h2:row < l.length
  · rw [List.getElem?_map,List.getElem?_eq_getElem h2,nth_eq h2]
    simp [h2]
  · rw [List.getElem?_eq_none (by simpa using h2)]
    simp [h2,res,stepK]
theorem ldc_n (x:AV) (r:List AV):ldc none (x :: r) = some x:=rfl
theorem ldc_s (n:Nat) (r:List AV):ldc (some n) r = if n ≤ r.length then some (.agg (r.take n)) else none:=rfl
def stO (id n st row off:Nat) (o:Option AObj) (cs:Option (List AV)):Option Eff :=
  match cs with
  | some cs=>match o with
    | some o=>if o.st = st ∧ cs.length = n ∧ (o.isRec || cs.all immA) = true then (match o.rows[row]? with
      | some r=>if off + n ≤ r.length then some (.put id { o with rows:=o.rows.set row (splice r off cs) }) else none
      | none=>none) else none
    | none=>none
  | none=>none
theorem aStore_mp (n id st row off:Nat) (x:AV) (h:Nat → Option AObj):aStore n (.mp id st row off) x h = stO id n st row off (h id) (cellsA x):=by
  unfold aStore stO
  cases cellsA x <;> rfl
theorem stO_rec (id n st off:Nat) (t:TypeId) (r cs:List AV):stO id n st 0 off (some ⟨t,st,[r],true⟩) (some cs) = if cs.length = n ∧ off + n ≤ r.length then some (.put id ⟨t,st,[splice r off cs],true⟩) else none:=by
  simp only [stO,true_and,Bool.true_or,and_true,List.getElem?_cons_zero,List.set_cons_zero]
  by_cases h1:cs.length = n <;> by_cases h2:off + n ≤ r.length <;> simp [h1,h2]
theorem stO_arr (id n st row:Nat) (t:TypeId) (rows:List (List AV)) (cs:List AV) (hn:∀ r ∈ rows,r.length = n):stO id n st row 0 (some ⟨t,st,rows,false⟩) (some cs) = if cs.length = n ∧ cs.all immA = true ∧ row < rows.length then some (.put id ⟨t,st,rows.set row cs,false⟩) else none:=by
  simp only [stO,true_and,Bool.false_or]
  by_cases h3:row < rows.length
  · rw [List.getElem?_eq_getElem h3]
    have hl:=hn _ (List.getElem_mem h3)
    by_cases h1:cs.length = n <;> by_cases h2:cs.all immA = true <;> simp [h1,h2,h3,hl,splice]
    rw [List.drop_eq_nil_of_le (by omega),List.append_nil]
  · rw [List.getElem?_eq_none (by omega)]
    simp [h3]
theorem aFadr_ip (off:Nat) (cells:List AV):aFadr off (.ip cells) = some (.ip (cells.drop off)):=rfl
theorem aFadr_mp (off id st row o:Nat):aFadr off (.mp id st row o) = some (.mp id st row (o + off)):=rfl
theorem aFld_agg (off:Nat) (n:Option Nat) (cells:List AV):aFld off n (.agg cells) = ldc n (cells.drop off):=rfl
theorem aIadr_map {α:Type} [Inhabited α] (K:AV → Eff → Prop) (st:Nat) (l:List α) (f:α → List AV) (k:IntKind) (n:Int) :
    stepK K (res (aIadr st (.sl st (l.map f)) (.int k n))) = (0 ≤ n ∧ n < l.length ∧ K (.ip (f (nth l n.toNat))) .no):=by
  simp only [aIadr,true_and]
  by_cases h:0 ≤ n
  · rw [if_pos h]
    by_cases h2:n.toNat < l.length
    · rw [List.getElem?_map,List.getElem?_eq_getElem h2,nth_eq h2]
      simp only [Option.map_some,res,stepK]
      exact propext ⟨fun hk=>⟨h,by omega,hk⟩,fun hk=>hk.2.2⟩
    · rw [List.getElem?_eq_none (by simp; omega)]
      exact propext ⟨fun hk=>hk.elim,fun hk=>by omega⟩
  · rw [if_neg h]
    exact propext ⟨fun hk=>hk.elim,fun hk=>absurd hk.1 h⟩
theorem aAadr_ip (st n:Nat) (cells:List AV) (k:IntKind) (j:Int):aAadr st n (.ip cells) (.int k j) = if 0 ≤ j ∧ j < n then some (.ip (cells.drop (j.toNat * st))) else none:=rfl
theorem aAadr_mp (st n id s row off:Nat) (k:IntKind) (j:Int):aAadr st n (.mp id s row off) (.int k j) = if 0 ≤ j ∧ j < n then some (.mp id s row (off + j.toNat * st)) else none:=rfl
def cvmO (id st off len:Nat) (o:Option AObj):Option (AV × Eff) :=
  match o with
  | some o=>if st = 1 ∧ o.st = 1 ∧ o.isRec = false ∧ 0 < len then some (.ms id st off len,.put id o) else none
  | none=>none
theorem aCvm_ms (id st off len:Nat) (h:Nat → Option AObj):aCvm (.ms id st off len) h = cvmO id st off len (h id):=by simp only [aCvm,cvmO]; cases h id <;> rfl
theorem cvmO_lit (id off len:Nat) (t:TypeId) (rows:List (List AV)):cvmO id 1 off len (some ⟨t,1,rows,false⟩) = if 0 < len then some (.ms id 1 off len,.put id ⟨t,1,rows,false⟩) else none:=by simp [cvmO]
theorem aSib_str (s:List UInt8) (n:Int):aSib (.str s) (.int .u8 n) = some (.int .i64 (sibN s n.toNat.toUInt8)):=rfl
def cpyO (id st off len:Nat) (ys:List (List AV)) (o:Option AObj):Option (AV × Eff) :=
  match o with
  | some o=>if o.st = st ∧ o.isRec = false ∧ off + len ≤ o.rows.length ∧ ys.length ≤ len then some (.int .i64 ys.length,.put id { o with rows:=o.rows.take off ++ ys ++ o.rows.drop (off + ys.length) }) else none
  | none=>none
theorem aCpy_ms (st id off len:Nat) (ys:List (List AV)) (h:Nat → Option AObj):aCpy st (.ms id st off len) (some ys) h = cpyO id st off len ys (h id):=by simp only [aCpy,cpyO,true_and]; cases h id <;> rfl
theorem aMnx_min (k:IntKind) (n m:Int):aMnx false (.int k n) (.int k m) = some (.int k (if m < n then m else n)):=by simp [aMnx]
theorem aMnx_max (k:IntKind) (n m:Int):aMnx true (.int k n) (.int k m) = some (.int k (if n < m then m else n)):=by simp [aMnx]
theorem aIadr_ms (id st off len:Nat) (k:IntKind) (n:Int):aIadr st (.ms id st off len) (.int k n) = if 0 ≤ n ∧ n < len then some (.mp id st (off + n.toNat) 0) else none:=by simp [aIadr]
theorem aSlc_ms0 (id st off len:Nat):aSlc st (.ms id st off len) none none none = some (.ms id st off len):=by simp [aSlc,aBound]
theorem aSlc_msh (id st off len:Nat) (k:IntKind) (n:Int):aSlc st (.ms id st off len) none (some (.int k n)) none = if 0 ≤ n ∧ n ≤ len then some (.ms id st off n.toNat) else none:=by
  simp only [aSlc,aBound]
  by_cases h:0 ≤ n <;> by_cases h2:n ≤ len <;> simp [h,h2] <;> omega
theorem aSlc_msl (id st off len:Nat) (k:IntKind) (n:Int):aSlc st (.ms id st off len) (some (.int k n)) none none = if 0 ≤ n ∧ n ≤ len then some (.ms id st (off + n.toNat) (len - n.toNat)) else none:=by
  simp only [aSlc,aBound]
  by_cases h:0 ≤ n <;> by_cases h2:n ≤ len <;> simp [h,h2] <;> omega
theorem aSlc_mslh (id st off len:Nat) (k k':IntKind) (n m:Int):aSlc st (.ms id st off len) (some (.int k n)) (some (.int k' m)) none = if 0 ≤ n ∧ n ≤ m ∧ m ≤ len then some (.ms id st (off + n.toNat) (m - n).toNat) else none:=by
  simp only [aSlc,aBound]
  by_cases h:0 ≤ n
  · by_cases h1:n ≤ m
    · have hm:0 ≤ m:=by omega
      by_cases h2:m ≤ len
      · have:m.toNat - n.toNat = (m - n).toNat:=by omega
        simp [h,h1,h2,hm,this]; omega
      · simp [h,h1,h2,hm] <;> omega
    · by_cases hm:0 ≤ m <;> simp [h,h1,hm]; omega
  · simp [h]
theorem aSlc_sl0 (st:Nat) (rows:List (List AV)):aSlc st (.sl st rows) none none none = some (.sl st rows):=by simp [aSlc,aBound]
theorem aSlc_slh {α:Type} (st:Nat) (f:α → List AV) (l:List α) (k:IntKind) (n:Int):aSlc st (.sl st (l.map f)) none (some (.int k n)) none = if 0 ≤ n ∧ n ≤ l.length then some (.sl st ((l.take n.toNat).map f)) else none:=by
  simp only [aSlc,aBound]
  by_cases h:0 ≤ n <;> by_cases h2:n ≤ l.length <;> simp [h,h2,List.map_take] <;> omega
theorem aSlc_sll {α:Type} (st:Nat) (f:α → List AV) (l:List α) (k:IntKind) (n:Int):aSlc st (.sl st (l.map f)) (some (.int k n)) none none = if 0 ≤ n ∧ n ≤ l.length then some (.sl st ((l.drop n.toNat).map f)) else none:=by
  simp only [aSlc,aBound]
  have:(l.drop n.toNat).map f = List.take (l.length - n.toNat) (List.drop n.toNat (l.map f)):=by rw [List.map_drop,List.take_of_length_le (by simp)]
  by_cases h:0 ≤ n <;> by_cases h2:n ≤ l.length <;> simp [h,h2,this] <;> omega
theorem aSlc_sllh {α:Type} (st:Nat) (f:α → List AV) (l:List α) (k k':IntKind) (n m:Int):aSlc st (.sl st (l.map f)) (some (.int k n)) (some (.int k' m)) none = if 0 ≤ n ∧ n ≤ m ∧ m ≤ l.length then some (.sl st (((l.drop n.toNat).take (m - n).toNat).map f)) else none:=by
  simp only [aSlc,aBound]
  by_cases h:0 ≤ n
  · by_cases h1:n ≤ m
    · have hm:0 ≤ m:=by omega
      by_cases h2:m ≤ l.length
      · have:m.toNat - n.toNat = (m - n).toNat:=by omega
        simp [h,h1,h2,hm,this,List.map_take,List.map_drop]; omega
      · simp [h,h1,h2,hm] <;> omega
    · by_cases hm:0 ≤ m <;> simp [h,h1,hm]; omega
  · simp [h]
theorem aSlc_nl0 (st:Nat):aSlc st .nl none none none = some .nl:=by simp [aSlc,aBound]
theorem aSlc_nlh (st:Nat) (k:IntKind) (n:Int):aSlc st .nl none (some (.int k n)) none = if n = 0 then some .nl else none:=by
  simp only [aSlc,aBound]
  by_cases h:0 ≤ n <;> by_cases h2:n = 0 <;> simp [h,h2] <;> omega
theorem aSlc_nll (st:Nat) (k:IntKind) (n:Int):aSlc st .nl (some (.int k n)) none none = if n = 0 then some .nl else none:=by
  simp only [aSlc,aBound]
  by_cases h:0 ≤ n <;> by_cases h2:n = 0 <;> simp [h,h2] <;> omega
theorem aSslc_0 (s:List UInt8):aSslc (.str s) none none = some (.str s):=by simp [aSslc,aBound]
theorem aSslc_h (s:List UInt8) (k:IntKind) (n:Int):aSslc (.str s) none (some (.int k n)) = if 0 ≤ n ∧ n ≤ s.length then some (.str (s.take n.toNat)) else none:=by
  simp only [aSslc,aBound]
  by_cases h:0 ≤ n <;> by_cases h2:n ≤ s.length <;> simp [h,h2] <;> omega
theorem aSslc_l (s:List UInt8) (k:IntKind) (n:Int):aSslc (.str s) (some (.int k n)) none = if 0 ≤ n ∧ n ≤ s.length then some (.str (s.drop n.toNat)) else none:=by
  simp only [aSslc,aBound]
  have:s.drop n.toNat = List.take (s.length - n.toNat) (List.drop n.toNat s):=by rw [List.take_of_length_le (by simp)]
  by_cases h:0 ≤ n <;> by_cases h2:n ≤ s.length <;> simp [h,h2,← this] <;> omega
theorem aSslc_lh (s:List UInt8) (k k':IntKind) (n m:Int):aSslc (.str s) (some (.int k n)) (some (.int k' m)) = if 0 ≤ n ∧ n ≤ m ∧ m ≤ s.length then some (.str ((s.drop n.toNat).take (m - n).toNat)) else none:=by
  simp only [aSslc,aBound]
  by_cases h:0 ≤ n
  · by_cases h1:n ≤ m
    · have hm:0 ≤ m:=by omega
      by_cases h2:m ≤ s.length
      · have:m.toNat - n.toNat = (m - n).toNat:=by omega
        simp [h,h1,h2,hm,this]; omega
      · simp [h,h1,h2,hm] <;> omega
    · by_cases hm:0 ≤ m <;> simp [h,h1,hm]; omega
  · simp [h]
theorem aApp_nl (d:Nat) (t:TypeId) (st:Nat) (ys:List (List AV)) (h:Nat → Option AObj):aApp d t st .nl (some ys) h = if ys.length < 137438953472 then some (.ms d st 0 ys.length,.new d ⟨t,st,ys,false⟩) else none:=rfl
def appO (id:Nat) (t:TypeId) (st off len:Nat) (ys:List (List AV)) (o:Option AObj):Option (AV × Eff) :=
  if ys.length < 137438953472 then (match o with
      | some o=>if o.st = st ∧ o.t = t ∧ o.isRec = false ∧ off = 0 ∧ len ≤ o.rows.length ∧ len < 137438953472 ∧ (id < 1000 ∨ 2000 ≤ id) ∧ o.k.flat = true then
          some (.ms id st 0 (len + ys.length),.reb id ⟨t,st,o.rows.take len ++ ys,false⟩) else none
      | none=>none) else none
theorem aApp_ms (d id:Nat) (t:TypeId) (st off len:Nat) (ys:List (List AV)) (h:Nat → Option AObj):aApp d t st (.ms id st off len) (some ys) h = appO id t st off len ys (h id):=by
  simp only [aApp,appO,true_and]
  cases h id <;> rfl
theorem flat_cells:Kd.flat instKd = true:=rfl
theorem appO_full (id:Nat) (t:TypeId) (st len:Nat) (rows ys:List (List AV)) (hl:rows.length = len):appO id t st 0 len ys (some ⟨t,st,rows,false⟩) =
    if ys.length < 137438953472 ∧ len < 137438953472 ∧ (id < 1000 ∨ 2000 ≤ id) then some (.ms id st 0 (len + ys.length),.reb id ⟨t,st,rows ++ ys,false⟩) else none:=by
  subst hl
  simp only [appO,true_and,Nat.le_refl,List.take_length,flat_cells,and_true]
  by_cases h1:ys.length < 137438953472 <;> simp [h1]
theorem rowsA_nl (st:Nat) (h:Nat → Option AObj):rowsA st h .nl = some []:=rfl
theorem rowsA_sl (st:Nat) (h:Nat → Option AObj) (rows:List (List AV)):rowsA st h (.sl st rows) = some rows:=by simp [rowsA]
def rowO (st off len:Nat) (o:Option AObj):Option (List (List AV)) :=
  match o with
  | some o=>if o.st = st ∧ o.isRec = false ∧ off + len ≤ o.rows.length then some ((o.rows.drop off).take len) else none
  | none=>none
theorem rowsA_ms (st:Nat) (h:Nat → Option AObj) (id off len:Nat):rowsA st h (.ms id st off len) = rowO st off len (h id):=by simp only [rowsA,rowO,true_and]; cases h id <;> rfl
theorem rowO_full (st len:Nat) (t:TypeId) (rows:List (List AV)) (hl:rows.length = len):rowO st 0 len (some ⟨t,st,rows,false⟩) = some rows:=by subst hl; simp [rowO]
theorem srcS_str (s:List UInt8):srcS (.str s) = some (s.map fun b=>[.int .u8 b.toNat]):=rfl

/-! ### Calls -/
theorem call_pure {f:FuncId} {args args':List AV} {d:Option Nat} {s:St} {K:St → Prop} {r:AV} (hp:PCalls P f args' r) (hid:∀ x ∈ args',idsV x = []) (hc:All2 (coe false (hget s.heap)) args args') (hk:K (s.put d r)):icall P f args d s K :=
  .inl (.inl ⟨args',r,false,hp,hid,hc,(fun h=>by cases h),hk⟩)
theorem All2.refl_coe (b:Bool) (h:Nat → Option AObj):∀ l:List AV,All2 (coe b h) l l
  | []=>trivial
  | _ :: r=>⟨.inl rfl,All2.refl_coe b h r⟩
theorem call_same {f:FuncId} {args:List AV} {d:Option Nat} {s:St} {K:St → Prop} {r:AV} (hp:PCalls P f args r) (hid:∀ x ∈ args,idsV x = []) (hk:K (s.put d r)):icall P f args d s K :=
  call_pure hp hid (All2.refl_coe _ _ args) hk
theorem call_frz {f:FuncId} {args:List AV} {d:Option Nat} {s:St} {K:St → Prop} {r:AV} (fs:List Nat) {args':List AV} (ha:args.map (frzVs fs s) = args') (hp:PCalls P f args' r) (hid:∀ x ∈ args',idsV x = []) (hk:K ((frzs fs s).put d r)):icall P f args d s K:=by
  subst ha
  exact .inr (.inl ⟨fs,.inl ⟨_,r,false,hp,hid,All2.refl_coe _ _ _,(fun h=>by cases h),hk⟩⟩)
theorem dcall_same {f:FuncId} {args:List AV} {i:Nat} {bf:List Nat} {op:IOp} {d:Option Nat} {hist:List HI} {s:St} {K:List HI → St → Prop} {r:AV} (hp:PCalls P f args r) (hid:∀ x ∈ args,idsV x = []) (hr:idsV r = [])
    (hk:plainOk op s .no = true ∧ histOk bf ⟨i,opIds op s.env,[],[],false,false⟩ hist = true ∧ K (⟨i,opIds op s.env,[],[],false,false⟩ :: hist) (s.put d r)):idcall P f args i bf op d hist s K :=
  .inl ⟨args,r,false,hp,hid,All2.refl_coe _ _ args,(fun h=>by cases h),hr,hk⟩
/-! ### Weaker states,loops -/
theorem mem_get:∀ {l:List (Nat × AV)} {k:Nat},get l k = .any ∨ (k,get l k) ∈ l
  | [],k=>.inl rfl
  | (j,x) :: r,k=>by
    simp only [get]
    split
    · rename_i h; subst h; exact .inr (by simp)
    · rcases mem_get (l:=r) (k:=k) with h | h
      · exact .inl h
      · exact .inr (by simp [h])
theorem mem_hget:∀ {l:List (Nat × AObj)} {k:Nat} {o:AObj},hget l k = some o → (k,o) ∈ l
  | [],k,o,h=>by simp [hget] at h
  | (j,x) :: r,k,o,h=>by
    simp only [hget] at h
    split at h
    · rename_i hj; cases h; subst hj; simp
    · simp [mem_hget h]

theorem SatS.le {c:Ctx} {a:Act} {w:World} {s s':St} (hs:SatS c s a w) (h1:∀ p ∈ s'.env,get s.env p.1 = p.2) (h2:∀ p ∈ s'.heap,hget s.heap p.1 = some p.2):SatS c s' a w:=by
  obtain ⟨bl,hs⟩:=hs
  refine ⟨bl,hs.weaken (fun k=>?_) (fun i o hi=>h2 (i,o) (mem_hget hi))⟩
  rcases mem_get (l:=s'.env) (k:=k) with h | h
  · exact .inl h
  · exact .inr (h1 _ h).symm
theorem Wk.refl (s:St):Wk s s:=fun _ _ _ h=>h
theorem Wk.trans {s s' s'':St} (h:Wk s s') (h':Wk s' s''):Wk s s'':=fun c a w hs=>h' c a w (h c a w hs)
theorem Wk.le {s s':St} (h1:∀ p ∈ s'.env,get s.env p.1 = p.2) (h2:∀ p ∈ s'.heap,hget s.heap p.1 = some p.2):Wk s s':=fun _ _ _ hs=>hs.le h1 h2
theorem Wk.frz (s:St) (i:Nat):Wk s (s.frz i):=fun _ _ _ hs=>hs.frz i
theorem Wk.kill (s:St) (i:Nat):Wk s (s.kill i):=fun _ _ _ hs=>hs.kill i

def klp {α:Type} (S:α → St) (p:α → Prop) (m:α → Nat) (q:α) (K:IX → St → Prop) (e:IX) (s:St):Prop :=
  match e with
  | .nrm=>∃ q',p q' ∧ m q' < m q ∧ Wk s (S q')
  | e=>K e s
theorem klp_n {α:Type} {S:α → St} {p:α → Prop} {m:α → Nat} {q:α} {K:IX → St → Prop} {s:St} (q':α) (h1:p q') (h2:m q' < m q) (h3:Wk s (S q')):klp S p m q K .nrm s:=⟨q',h1,h2,h3⟩
theorem klp_r {α:Type} (S:α → St) (p:α → Prop) (m:α → Nat) (q:α) (K:IX → St → Prop) (s:St):klp S p m q K .ret s = K .ret s:=_root_.id rfl
theorem klp_x {α:Type} (S:α → St) (p:α → Prop) (m:α → Nat) (q:α) (K:IX → St → Prop) (j:Nat) (s:St):klp S p m q K (.ext j) s = K (.ext j) s:=_root_.id rfl
theorem loop_rule {α:Type} (S:α → St) (p:α → Prop) (m:α → Nat) {x:ICode} {s:St} {K:IX → St → Prop} (q:α) (h1:p q) (h2:Wk s (S q))
    (hstep:∀ q,p q → iwp P x (S q) (klp S p m q K)):iwp P (.loop x) s K:=by
  refine ⟨fun n s=>∃ q,p q ∧ m q = n ∧ s = S q,⟨m q,S q,⟨q,h1,rfl,rfl⟩,h2⟩,?_⟩
  rintro n s ⟨q,h3,rfl,rfl⟩
  refine iwp_mono _ _ _ _ (fun e s' hh=>?_) (hstep q h3)
  cases e with
  | nrm=>obtain ⟨q',h4,h5,h6⟩:=hh; exact ⟨m q',S q',h5,⟨q',h4,rfl,rfl⟩,h6⟩
  | _=>exact hh

def kmt {α:Type} (S:α → St) (p:α → Prop) (K:IX → St → Prop) (e:IX) (s:St):Prop :=
  match e with
  | .nrm=>∃ q,p q ∧ Wk s (S q)
  | e=>K e s
theorem kmt_r {α:Type} (S:α → St) (p:α → Prop) (K:IX → St → Prop) (s:St):kmt S p K .ret s = K .ret s:=_root_.id rfl
theorem kmt_x {α:Type} (S:α → St) (p:α → Prop) (K:IX → St → Prop) (j:Nat) (s:St):kmt S p K (.ext j) s = K (.ext j) s:=_root_.id rfl
theorem pdone {l:List IRes} {r:AV} {s:St} (fs:List Nat) (h:iret l (frzs fs s) = some r) (h2:idsV r = []):PDone l r .ret s:=⟨(fun _ h=>by cases h),s,Wk.refl s,fs,h,h2⟩
end

attribute [go_sem] iop_mov idop_mov iop_pick idop_pick iop_build idop_build iop_load idop_load iop_store idop_store iop_fadr idop_fadr iop_fld idop_fld iop_iadr idop_iadr iop_aadr idop_aadr iop_mnx idop_mnx iop_cpy idop_cpy iop_sib idop_sib iop_cvm idop_cvm iop_slc idop_slc iop_len idop_len iop_slen idop_slen iop_sslc idop_sslc iop_bin idop_bin iop_bbin idop_bbin iop_pbin idop_pbin iop_sbin idop_sbin iop_un idop_un iop_cvi idop_cvi iop_cvs idop_cvs iop_cvt idop_cvt iop_ext idop_ext iop_nchk idop_nchk iop_mkf idop_mkf iop_sidx idop_sidx iop_new idop_new iop_box idop_box iop_bsl idop_bsl iop_app idop_app iop_apps idop_apps iop_cvb idop_cvb iop_mks idop_mks
attribute [go_sem] ae_mov ae_pick ae_new ae_box ae_build ae_bsl ae_load ae_store ae_fadr ae_fld ae_iadr ae_aadr ae_mnx ae_cpy ae_cvm ae_sib ae_slc ae_len ae_slen ae_app ae_apps ae_sslc ae_bin ae_bbin ae_pbin ae_sbin ae_un ae_cvi ae_cvs ae_cvb ae_cvt ae_ext ae_nchk ae_sidx ae_mks ae_mkf aBin_add aBin_sub aBin_mul aBin_eql aBin_neq aBin_lss aBin_leq aBin_gtr aBin_geq aBin_quo aBin_rem aBin_and aBin_or aBin_xor aBin_andNot aBin_shl aBin_shr aBin_sadd aBin_seql aBin_sneq aBin_slss aBin_sleq aBin_sgtr aBin_sgeq
attribute [go_sem] kseq_n kseq_r kseq_x kcut_r kcut_x kblk_n kblk_r kblk_x kreg_e kops_e kdops_e kst_e kdst_e stepK_some stepX_some stepX_none stepX_ite bslA_none stepK_ite stepK_ite' res_v res_if res_if' tst_bool gst_bool klp_r klp_x kmt_r kmt_x
theorem tst_f' (a b:Prop):tst (.bool false) a b = b:=tst_f a b
attribute [go_sem ↓] tst_t tst_f gst_t gst_f gst_u
attribute [go_sem high] tst_t' tst_f' gst_t' gst_f' gst_u'
attribute [go_sem] iwp_skip iwp_ret iwp_exit iwp_seq iwp_block iwp_cond iwp_reg iwp_draw iops_nil iops_cons iops_guard_t iops_guard_f idops_nil idops_cons idops_guard_t idops_guard_f iop_call iop_callv idop_call fcall_fn
attribute [go_sem] pickA_t pickA_f stepK_pick boxA_some bslA_some stoA_some stoA_ite cviA_int cvsA_some cvsA_ite cvbA_str extA_tup nchkA_mp nchkA_ip nchkA_fn cvtA_str sidxA_str mksA_int aBbin_eql aBbin_neq aUn_not aUn_neg aSbin_e aSbin_n aSbin_f1 aSbin_f2 aSbin_f3 aSbin_f4 aSeq_n sqK_some aSeq_c leafEq_b leafEq_i leafEq_s aPbin_e1 aPbin_e2 aPbin_e3 aPbin_n1 aPbin_n2 aPbin_n3 aLen_sl aLen_ms aLen_nl aSlen_str aLoad_ip aLoad_mp ldO_rec ldO_map ldc_n ldc_s aStore_mp stO_rec aFadr_ip aFadr_mp aFld_agg aIadr_map aIadr_ms aAadr_ip aAadr_mp aMnx_min aMnx_max aSib_str aCpy_ms aCvm_ms cvmO_lit aSlc_ms0 aSlc_msh aSlc_msl aSlc_mslh aSlc_sl0 aSlc_slh aSlc_sll aSlc_sllh aSlc_nl0 aSlc_nlh aSlc_nll aSslc_0 aSslc_h aSslc_l aSslc_lh aApp_nl aApp_ms rowsA_nl rowsA_sl rowsA_ms srcS_str
theorem get_n (n:Nat):get [] n = .any:=_root_.id rfl
theorem get_c (k n:Nat) (x:AV) (r:List (Nat × AV)):get ((k,x) :: r) n = if k = n then x else get r n:=_root_.id rfl
theorem hget_n (n:Nat):hget [] n = none:=_root_.id rfl
theorem hget_c (k n:Nat) (x:AObj) (r:List (Nat × AObj)):hget ((k,x) :: r) n = if k = n then some x else hget r n:=_root_.id rfl
theorem del_n (n:Nat):del [] n = []:=_root_.id rfl
theorem del_c (k n:Nat) (x:AV) (r:List (Nat × AV)):del ((k,x) :: r) n = if k = n then del r n else (k,x) :: del r n:=_root_.id rfl
theorem hdel_n (n:Nat):hdel [] n = []:=_root_.id rfl
theorem hdel_c (k n:Nat) (x:AObj) (r:List (Nat × AObj)):hdel ((k,x) :: r) n = if k = n then hdel r n else (k,x) :: hdel r n:=_root_.id rfl
theorem purE_n (i:Nat):purE i [] = []:=_root_.id rfl
theorem purE_c (i k:Nat) (x:AV) (r:List (Nat × AV)):purE i ((k,x) :: r) = (k,purV i x) :: purE i r:=_root_.id rfl
theorem purH_n (i:Nat):purH i [] = []:=_root_.id rfl
theorem purH_c (i k:Nat) (x:AObj) (r:List (Nat × AObj)):purH i ((k,x) :: r) = (k,purO i x) :: purH i r:=_root_.id rfl
theorem put_s (e:List (Nat × AV)) (h:List (Nat × AObj)) (d:Nat) (x:AV):St.put ⟨e,h⟩ (some d) x = ⟨(d,x) :: e,h⟩:=_root_.id rfl
theorem put_n (s:St) (x:AV):s.put none x = s:=_root_.id rfl
theorem kill_e (e:List (Nat × AV)) (h:List (Nat × AObj)) (i:Nat):St.kill ⟨e,h⟩ i = ⟨purE i e,purH i (hdel h i)⟩:=_root_.id rfl
theorem eff_no (s:St):s.eff .no = s:=_root_.id rfl
theorem eff_put (e:List (Nat × AV)) (h:List (Nat × AObj)) (i:Nat) (o:AObj):St.eff ⟨e,h⟩ (.put i o) = ⟨e,(i,o) :: hdel h i⟩:=_root_.id rfl
theorem eff_new (e:List (Nat × AV)) (h:List (Nat × AObj)) (i:Nat) (o:AObj):St.eff ⟨e,h⟩ (.new i o) = ⟨e,(i,o) :: hdel h i⟩:=_root_.id rfl
theorem eff_reb (e:List (Nat × AV)) (h:List (Nat × AObj)) (i:Nat) (o:AObj):St.eff ⟨e,h⟩ (.reb i o) = ⟨purE i e,(i,o) :: purH i (hdel h i)⟩:=_root_.id rfl
theorem kills_n (s:St):kills [] s = s:=_root_.id rfl
theorem kills_c (i:Nat) (r:List Nat) (s:St):kills (i :: r) s = kills r (s.kill i):=_root_.id rfl
theorem dels_n (e:List (Nat × AV)):dels [] e = e:=_root_.id rfl
theorem dels_c (d:Nat) (r:List Nat) (e:List (Nat × AV)):dels (d :: r) e = dels r (del e d):=_root_.id rfl
theorem val_s (g:Nat → AV) (k:Nat):val g (.s k) = g k:=_root_.id rfl
theorem val_c (g:Nat → AV) (x:AV):val g (.c x) = x:=_root_.id rfl
theorem refine_s (k:Nat) (b:Bool) (s:St):refine (.s k) b s = s.put (some k) (.bool b):=_root_.id rfl
theorem refine_c (x:AV) (b:Bool) (s:St):refine (.c x) b s = s:=_root_.id rfl
attribute [go_sem] get_n get_c hget_n hget_c del_n del_c hdel_n hdel_c purE_n purE_c purH_n purH_c put_s put_n kill_e eff_no eff_put eff_new eff_reb kills_n kills_c dels_n dels_c val_s val_c refine_s refine_c
attribute [go_sem] aParts aRows cellsA immA splice capA bytesA
attribute [go_sem] purV purO purC mV mG mC mP idsV idsG idsC idsP idsO opIds opSlots ivSlots ioSlots plainOk histOk newOk meetOk isAny Eff.tch Eff.isReb Eff.isPut Eff.ids
attribute [go_sem] iret ires ires1 okRes frzs St.frz frzVs frz1 frzE frzH frzV frzG frzC frzP frzO argEnv flatV flatG flatC
attribute [go_sem] List.map_cons List.map_nil List.cons_append List.nil_append List.append_nil List.all_cons List.all_nil List.any_cons List.any_nil List.contains_cons List.contains_nil List.flatMap_cons List.flatMap_nil List.drop_succ_cons List.drop_zero List.take_succ_cons List.take_zero List.length_cons List.length_nil List.length_map
attribute [go_sem] List.getElem?_cons_zero List.getElem?_cons_succ List.set_cons_zero List.set_cons_succ
attribute [go_sem] Option.map_some Option.map_none Option.getD_some Option.getD_none Option.isSome_some
attribute [go_sem] Bool.not_true Bool.not_false Bool.and_true Bool.true_and Bool.and_false Bool.false_and Bool.or_true Bool.true_or Bool.or_false Bool.false_or
attribute [go_sem] true_and and_true true_implies implies_true false_implies if_true if_false not_true_eq_false not_false_eq_true and_self true_or or_true false_or or_false
end Go.Mw
set_option linter.unusedSectionVars false
set_option linter.unusedVariables false
set_option linter.unusedSimpArgs false
namespace Go.Mw

section
variable {P:Program} [Tabs P]

def rngA (d:Nat) (x:AV):Option (AV × Eff) :=
  match x with
  | .str s=>some (.mm d false,.new d (@AObj.mk 0 0 [] false (.it s 0)))
  | _=>none
def mmO (k:Bool) (x:AV) (h:Nat → Option AObj) (f:Nat → AObj → Option (AV × Eff)):Option (AV × Eff) :=
  match x with
  | .mm id k'=>if k = k' then (h id).bind (f id) else none
  | _=>none
def aMln (o:AObj):Option (AV × Eff):=(entO o).map fun es=>(.int .i64 es.length,.no)
def mstA (x n y:AV) (h:Nat → Option AObj):Option (AV × Eff) :=
  match n with
  | .int .i64 n=>mmO true x h fun id=>aMst id n y
  | _=>none

theorem aMop_rng (d:Nat) (x:AV) (h:Nat → Option AObj):aMop d .rng [x] h = rngA d x:=by cases x <;> rfl
theorem aMop_nxt (d:Nat) (x:AV) (h:Nat → Option AObj):aMop d .nxt [x] h = mmO false x h aNxt:=by
  cases x <;> try rfl
  rename_i id k
  cases k <;> rfl
theorem aMop_mln (d:Nat) (x:AV) (h:Nat → Option AObj):aMop d .mln [x] h = mmO true x h fun _=>aMln:=by
  cases x <;> try rfl
  rename_i id k
  cases k <;> rfl
theorem aMop_mlk (d:Nat) (ok:Bool) (kd:KK) (z x y:AV) (h:Nat → Option AObj):aMop d (.mlk ok kd z) [x,y] h = mmO true x h fun _=>aMlk ok kd z y:=by
  cases x <;> try rfl
  rename_i id k
  cases k <;> rfl
theorem aMop_mup (d:Nat) (kd:KK) (x y q:AV) (h:Nat → Option AObj):aMop d (.mup kd) [x,y,q] h = mmO true x h fun id=>aMup id kd y q:=by
  cases x <;> try rfl
  rename_i id k
  cases k <;> rfl
theorem aMop_mnt (d:Nat) (kd:KK) (z x y:AV) (h:Nat → Option AObj):aMop d (.mnt kd z) [x,y] h = mmO true x h fun id=>aMnt id kd z y:=by
  cases x <;> try rfl
  rename_i id k
  cases k <;> rfl
theorem aMop_mst (d:Nat) (x n q:AV) (h:Nat → Option AObj):aMop d .mst [x,n,q] h = mstA x n q h:=by
  by_cases hn:∃ m,n = .int .i64 m
  · obtain ⟨m,rfl⟩:=hn
    cases x <;> try rfl
    rename_i id k
    cases k <;> rfl
  · have h1:mstA x n q h = none:=by
      unfold mstA
      split
      · exact absurd ⟨_,rfl⟩ hn
      · rfl
    rw [h1]
    unfold aMop
    split <;> first | rfl | (simp_all; done)

theorem iop_rng (d:Nat) (x:IV) (g:Option (Nat × Bool)) (s:St) (K:St → Prop):iop P ⟨some d,.mop .rng [x],g⟩ s K = (d < 1000 ∧ stepK (kst K (s.kill d) (some d)) (rngA d (val (get (s.kill d).env) x))):=by
  rw [← aMop_rng d _ (hget (s.kill d).heap)]; rfl
theorem iop_mkm (d:Nat) (g:Option (Nat × Bool)) (s:St) (K:St → Prop):iop P ⟨some d,.mop .mkm [],g⟩ s K = (d < 1000 ∧ stepK (kst K (s.kill d) (some d)) (some (.mm d true,.new d (@AObj.mk 0 0 [] false (.mp []))))):=rfl
theorem idop_rng (al:List (Nat × Nat)) (i d:Nat) (x:IV) (g:Option (Nat × Bool)) (bf:List Nat) (hist:List HI) (s:St) (K:List HI → St → Prop):idop P al i ⟨⟨some d,.mop .rng [x],g⟩,bf⟩ hist s K = stepK (kdst al i bf (.mop .rng [x]) hist K s (some d)) (rngA d (val (get s.env) x)):=by
  rw [← aMop_rng d _ (hget s.heap)]; rfl
theorem idop_mkm (al:List (Nat × Nat)) (i d:Nat) (g:Option (Nat × Bool)) (bf:List Nat) (hist:List HI) (s:St) (K:List HI → St → Prop):idop P al i ⟨⟨some d,.mop .mkm [],g⟩,bf⟩ hist s K = stepK (kdst al i bf (.mop .mkm []) hist K s (some d)) (some (.mm d true,.new d (@AObj.mk 0 0 [] false (.mp [])))):=rfl
theorem iop_nxt (d:Option Nat) (x:IV) (g:Option (Nat × Bool)) (s:St) (K:St → Prop):iop P ⟨d,.mop .nxt [x],g⟩ s K = stepK (kst K s d) (mmO false (val (get s.env) x) (hget s.heap) aNxt):=by
  rw [← aMop_nxt (d.getD 0)  (val (get s.env) x) (hget s.heap)]; rfl
theorem idop_nxt (al:List (Nat × Nat)) (i:Nat) (d:Option Nat) (x:IV) (g:Option (Nat × Bool)) (bf:List Nat) (hist:List HI) (s:St) (K:List HI → St → Prop):idop P al i ⟨⟨d,.mop .nxt [x],g⟩,bf⟩ hist s K = stepK (kdst al i bf (.mop .nxt [x]) hist K s d) (mmO false (val (get s.env) x) (hget s.heap) aNxt):=by
  rw [← aMop_nxt (d.getD 0)  (val (get s.env) x) (hget s.heap)]; rfl
theorem iop_mln (d:Option Nat) (x:IV) (g:Option (Nat × Bool)) (s:St) (K:St → Prop):iop P ⟨d,.mop .mln [x],g⟩ s K = stepK (kst K s d) (mmO true (val (get s.env) x) (hget s.heap) fun _=>aMln):=by
  rw [← aMop_mln (d.getD 0)  (val (get s.env) x) (hget s.heap)]; rfl
theorem idop_mln (al:List (Nat × Nat)) (i:Nat) (d:Option Nat) (x:IV) (g:Option (Nat × Bool)) (bf:List Nat) (hist:List HI) (s:St) (K:List HI → St → Prop):idop P al i ⟨⟨d,.mop .mln [x],g⟩,bf⟩ hist s K = stepK (kdst al i bf (.mop .mln [x]) hist K s d) (mmO true (val (get s.env) x) (hget s.heap) fun _=>aMln):=by
  rw [← aMop_mln (d.getD 0)  (val (get s.env) x) (hget s.heap)]; rfl
theorem iop_mlk (d:Option Nat) (ok:Bool) (kd:KK) (z:AV) (x y:IV) (g:Option (Nat × Bool)) (s:St) (K:St → Prop):iop P ⟨d,.mop (.mlk ok kd z) [x,y],g⟩ s K = stepK (kst K s d) (mmO true (val (get s.env) x) (hget s.heap) fun _=>aMlk ok kd z (val (get s.env) y)):=by
  rw [← aMop_mlk (d.getD 0) ok kd z (val (get s.env) x) (val (get s.env) y) (hget s.heap)]; rfl
theorem idop_mlk (al:List (Nat × Nat)) (i:Nat) (d:Option Nat) (ok:Bool) (kd:KK) (z:AV) (x y:IV) (g:Option (Nat × Bool)) (bf:List Nat) (hist:List HI) (s:St) (K:List HI → St → Prop):idop P al i ⟨⟨d,.mop (.mlk ok kd z) [x,y],g⟩,bf⟩ hist s K = stepK (kdst al i bf (.mop (.mlk ok kd z) [x,y]) hist K s d) (mmO true (val (get s.env) x) (hget s.heap) fun _=>aMlk ok kd z (val (get s.env) y)):=by
  rw [← aMop_mlk (d.getD 0) ok kd z (val (get s.env) x) (val (get s.env) y) (hget s.heap)]; rfl
theorem iop_mup (d:Option Nat) (kd:KK) (x y q:IV) (g:Option (Nat × Bool)) (s:St) (K:St → Prop):iop P ⟨d,.mop (.mup kd) [x,y,q],g⟩ s K = stepK (kst K s d) (mmO true (val (get s.env) x) (hget s.heap) fun id=>aMup id kd (val (get s.env) y) (val (get s.env) q)):=by
  rw [← aMop_mup (d.getD 0) kd (val (get s.env) x) (val (get s.env) y) (val (get s.env) q) (hget s.heap)]; rfl
theorem idop_mup (al:List (Nat × Nat)) (i:Nat) (d:Option Nat) (kd:KK) (x y q:IV) (g:Option (Nat × Bool)) (bf:List Nat) (hist:List HI) (s:St) (K:List HI → St → Prop):idop P al i ⟨⟨d,.mop (.mup kd) [x,y,q],g⟩,bf⟩ hist s K = stepK (kdst al i bf (.mop (.mup kd) [x,y,q]) hist K s d) (mmO true (val (get s.env) x) (hget s.heap) fun id=>aMup id kd (val (get s.env) y) (val (get s.env) q)):=by
  rw [← aMop_mup (d.getD 0) kd (val (get s.env) x) (val (get s.env) y) (val (get s.env) q) (hget s.heap)]; rfl
theorem iop_mnt (d:Option Nat) (kd:KK) (z:AV) (x y:IV) (g:Option (Nat × Bool)) (s:St) (K:St → Prop):iop P ⟨d,.mop (.mnt kd z) [x,y],g⟩ s K = stepK (kst K s d) (mmO true (val (get s.env) x) (hget s.heap) fun id=>aMnt id kd z (val (get s.env) y)):=by
  rw [← aMop_mnt (d.getD 0) kd z (val (get s.env) x) (val (get s.env) y) (hget s.heap)]; rfl
theorem idop_mnt (al:List (Nat × Nat)) (i:Nat) (d:Option Nat) (kd:KK) (z:AV) (x y:IV) (g:Option (Nat × Bool)) (bf:List Nat) (hist:List HI) (s:St) (K:List HI → St → Prop):idop P al i ⟨⟨d,.mop (.mnt kd z) [x,y],g⟩,bf⟩ hist s K = stepK (kdst al i bf (.mop (.mnt kd z) [x,y]) hist K s d) (mmO true (val (get s.env) x) (hget s.heap) fun id=>aMnt id kd z (val (get s.env) y)):=by
  rw [← aMop_mnt (d.getD 0) kd z (val (get s.env) x) (val (get s.env) y) (hget s.heap)]; rfl
theorem iop_mst (d:Option Nat) (x y q:IV) (g:Option (Nat × Bool)) (s:St) (K:St → Prop):iop P ⟨d,.mop .mst [x,y,q],g⟩ s K = stepK (kst K s d) (mstA (val (get s.env) x) (val (get s.env) y) (val (get s.env) q) (hget s.heap)):=by
  rw [← aMop_mst (d.getD 0)  (val (get s.env) x) (val (get s.env) y) (val (get s.env) q) (hget s.heap)]; rfl
theorem idop_mst (al:List (Nat × Nat)) (i:Nat) (d:Option Nat) (x y q:IV) (g:Option (Nat × Bool)) (bf:List Nat) (hist:List HI) (s:St) (K:List HI → St → Prop):idop P al i ⟨⟨d,.mop .mst [x,y,q],g⟩,bf⟩ hist s K = stepK (kdst al i bf (.mop .mst [x,y,q]) hist K s d) (mstA (val (get s.env) x) (val (get s.env) y) (val (get s.env) q) (hget s.heap)):=by
  rw [← aMop_mst (d.getD 0)  (val (get s.env) x) (val (get s.env) y) (val (get s.env) q) (hget s.heap)]; rfl

theorem rngA_str (d:Nat) (s:List UInt8):rngA d (.str s) = some (.mm d false,.new d (@AObj.mk 0 0 [] false (.it s 0))):=rfl
theorem mmO_t (id:Nat) (h:Nat → Option AObj) (f:Nat → AObj → Option (AV × Eff)):mmO true (.mm id true) h f = (h id).bind (f id):=rfl
theorem mmO_f (id:Nat) (h:Nat → Option AObj) (f:Nat → AObj → Option (AV × Eff)):mmO false (.mm id false) h f = (h id).bind (f id):=rfl
theorem mstA_i (x y:AV) (n:Int) (h:Nat → Option AObj):mstA x (.int .i64 n) y h = mmO true x h fun id=>aMst id n y:=rfl
theorem sbind_some {α β:Type} (x:α) (f:α → Option β):(some x).bind f = f x:=rfl
theorem aNxt_it (K:AV → Eff → Prop) (id t st:Nat) (rows:List (List AV)) (r:Bool) (s:List UInt8) (pos:Nat):stepK K (aNxt id (@AObj.mk t st rows r (.it s pos))) =
    if pos < s.length then K (.tup [.bool true,.int .i64 pos,.int .i32 (Utf8.decode ⟨s.toArray⟩ pos).1]) (.put id (@AObj.mk t st rows r (.it s (pos + (Utf8.decode ⟨s.toArray⟩ pos).2)))) else K (.tup [.bool false]) .no:=by
  simp only [aNxt,rngO]
  split <;> rfl
theorem aMln_mp (t st:Nat) (rows:List (List AV)) (r:Bool) (es:List (AV × AV)):aMln (@AObj.mk t st rows r (.mp es)) = some (.int .i64 es.length,.no):=rfl
def lkS (K:AV → Eff → Prop) (ok:Bool) (z:AV) (es:List (AV × AV)) (q:Option (Option Nat)):Prop :=
  match q with
  | some (some i)=>match es[i]? with
    | some e=>K (if ok then .tup [e.2,.bool true] else e.2) .no
    | none=>False
  | some none=>K (if ok then .tup [z,.bool false] else z) .no
  | none=>False
theorem aMlk_mp (K:AV → Eff → Prop) (ok:Bool) (kd:KK) (z y:AV) (t st:Nat) (rows:List (List AV)) (r:Bool) (es:List (AV × AV)):stepK K (aMlk ok kd z y (@AObj.mk t st rows r (.mp es))) = lkS K ok z es (findA kd y es):=by
  simp only [aMlk,entO,lkS]
  cases findA kd y es with
  | none=>rfl
  | some q=>cases q with
    | none=>rfl
    | some i=>cases h:es[i]? <;> simp [h,stepK]
theorem aMup_mp (K:AV → Eff → Prop) (id:Nat) (kd:KK) (y q:AV) (t st:Nat) (rows:List (List AV)) (r:Bool) (es:List (AV × AV)):stepK K (aMup id kd y q (@AObj.mk t st rows r (.mp es))) =
    (flatA y = true ∧ flatA q = true ∧ ∃ es',putA kd y q es = some es' ∧ K .any (.put id (@AObj.mk t st rows r (.mp es')))):=by
  simp only [aMup,entO]
  cases flatA y <;> cases flatA q <;> cases putA kd y q es <;> simp [stepK]

/-! ### Slices against nil -/
def snlK (b:Bool) (x:AV) (K:AV → Eff → Prop):Prop :=
  match x with
  | .sl _ []=>K (.bool b) .no ∧ K (.bool (!b)) .no
  | x=>match aSnl b x with
    | some v=>K v .no
    | none=>False
theorem iop_snl (d:Option Nat) (b:Bool) (x:IV) (g:Option (Nat × Bool)) (s:St) (K:St → Prop):iop P ⟨d,.snl b x,g⟩ s K = snlK b (val (get s.env) x) (kst K s d):=by
  show (match val (get s.env) x with
    | .sl _ []=>K (s.put d (.bool b)) ∧ K (s.put d (.bool (!b)))
    | x=>match aSnl b x with
      | some v=>K (s.put d v)
      | none=>False) = _
  generalize val (get s.env) x = v
  unfold snlK
  split
  · rfl
  · split <;> rfl
theorem idop_snl (al:List (Nat × Nat)) (i:Nat) (d:Option Nat) (b:Bool) (x:IV) (g:Option (Nat × Bool)) (bf:List Nat) (hist:List HI) (s:St) (K:List HI → St → Prop):idop P al i ⟨⟨d,.snl b x,g⟩,bf⟩ hist s K = stepK (kdst al i bf (.snl b x) hist K s d) (res (aSnl b (val (get s.env) x))):=_root_.id rfl
theorem snlK_nl (b:Bool) (K:AV → Eff → Prop):snlK b .nl K = K (.bool (!b)) .no:=rfl
theorem snlK_0 (b:Bool) (st:Nat) (K:AV → Eff → Prop):snlK b (.sl st []) K = (K (.bool b) .no ∧ K (.bool (!b)) .no):=rfl
theorem snlK_1 (b:Bool) (st:Nat) (r:List AV) (rows:List (List AV)) (K:AV → Eff → Prop):snlK b (.sl st (r :: rows)) K = K (.bool b) .no:=rfl
theorem snlK_sl (b:Bool) (st:Nat) (rows:List (List AV)) (K:AV → Eff → Prop) (h:K (.bool b) .no ∧ (rows = [] → K (.bool (!b)) .no)):snlK b (.sl st rows) K:=by
  cases rows with
  | nil=>exact ⟨h.1,h.2 rfl⟩
  | cons r rows=>exact h.1
end
theorem AObj.k_e (t:TypeId) (st:Nat) (rows:List (List AV)) (r:Bool) (k:Kd):(@AObj.mk t st rows r k).k = k:=rfl
attribute [go_sem] AObj.k_e
attribute [go_sem] iop_snl idop_snl snlK_nl snlK_0 snlK_1
attribute [go_sem] iop_rng iop_mkm idop_rng idop_mkm iop_nxt idop_nxt iop_mln idop_mln iop_mlk idop_mlk iop_mup idop_mup iop_mnt idop_mnt iop_mst idop_mst rngA_str mmO_t mmO_f mstA_i sbind_some aNxt_it aMln_mp aMlk_mp aMup_mp
end Go.Mw
set_option linter.unusedSectionVars false
set_option linter.unusedVariables false
set_option linter.unusedSimpArgs false
namespace Go.Mw

def renP (ρ:Nat → Nat):AV → AV
  | .ms id st off len=>.ms (ρ id) st off len
  | .mp id st row off=>.mp (ρ id) st row off
  | .mm id k=>.mm (ρ id) k
  | x=>x
def renC (ρ:Nat → Nat):AV → AV
  | .fn f caps=>.fn f (caps.map (renP ρ))
  | x=>renP ρ x
def renG (ρ:Nat → Nat):AV → AV
  | .agg cells=>.agg (cells.map (renC ρ))
  | x=>renC ρ x
def renV (ρ:Nat → Nat):AV → AV
  | .tup vs=>.tup (vs.map (renG ρ))
  | x=>renG ρ x
def renO (ρ:Nat → Nat) (o:AObj):AObj:=if o.isRec then { o with rows:=o.rows.map (fun r=>r.map (renC ρ)) } else o
def renH (ρ:Nat → Nat):List (Nat × AObj) → List (Nat × AObj)
  | []=>[]
  | (i,o) :: r=>(ρ i,renO ρ o) :: renH ρ r

section
variable {P:Program} [Tabs P] {bl bl':Nat → Option Nat} {M M':Nat → Prop} {w:World} {ρ τ:Nat → Nat}

theorem IRel.mono {v:Value} {x:AV} (h:IRel M w v x) (hM:∀ b,M' b → M b):IRel M' w v x:=h.tr fun b hb _=>⟨fun h'=>hb (hM b h'),rfl⟩

theorem renP_rel {v:Value} {x:AV} (h:PRel bl M w v x) (hb:∀ i,bl' (ρ i) = bl i) (hM:∀ b,M' b → M b):PRel bl' M' w v (renP ρ x):=by
  cases x with
  | ms id st off len =>
    simp only [renP,PRel] at h ⊢
    rw [hb]
    exact h
  | mp id st row off =>
    simp only [renP,PRel] at h ⊢
    rw [hb]
    exact h
  | mm id k =>
    simp only [renP,PRel] at h ⊢
    rw [hb]
    exact h
  | _=>exact IRel.mono h hM
theorem renC_rel {v:Value} {x:AV} (h:CRel bl M w v x) (hb:∀ i,bl' (ρ i) = bl i) (hM:∀ b,M' b → M b):CRel bl' M' w v (renC ρ x):=by
  cases x with
  | fn f caps =>
    obtain ⟨cs,h1,h2⟩:=h
    exact ⟨cs,h1,h2.mapRight fun _ _ hr=>renP_rel hr hb hM⟩
  | _=>simp only [CRel] at h; exact renP_rel (ρ:=ρ) h hb hM
theorem renG_rel {v:Value} {x:AV} (h:GRel bl M w v x) (hb:∀ i,bl' (ρ i) = bl i) (hM:∀ b,M' b → M b):GRel bl' M' w v (renG ρ x):=by
  cases x with
  | agg cells =>
    obtain ⟨cs,h1,h2⟩:=h
    exact ⟨cs,h1,h2.mapRight fun _ _ hr=>renC_rel hr hb hM⟩
  | _=>simp only [GRel] at h; exact renC_rel (ρ:=ρ) h hb hM
theorem renV_rel {v:Value} {x:AV} (h:VRel bl M w v x) (hb:∀ i,bl' (ρ i) = bl i) (hM:∀ b,M' b → M b):VRel bl' M' w v (renV ρ x):=by
  cases x with
  | any=>trivial
  | tup vs =>
    obtain ⟨cs,h1,h2⟩:=h
    exact ⟨cs,h1,h2.mapRight fun _ _ hr=>renG_rel hr hb hM⟩
  | _=>simp only [VRel] at h; exact renG_rel (ρ:=ρ) h hb hM

theorem renO_t (o:AObj):(renO ρ o).t = o.t:=by unfold renO; split <;> rfl
theorem renO_st (o:AObj):(renO ρ o).st = o.st:=by unfold renO; split <;> rfl
theorem renO_rec (o:AObj):(renO ρ o).isRec = o.isRec:=by unfold renO; split <;> rfl

theorem hget_renH (h1:∀ i,τ (ρ i) = i) (h2:∀ i,ρ (τ i) = i):∀ (σ:List (Nat × AObj)) (i:Nat),hget (renH ρ σ) i = (hget σ (τ i)).map (renO ρ)
  | [],i=>rfl
  | (k,o) :: r,i=>by
    simp only [renH,hget,hget_renH h1 h2 r i]
    by_cases h:ρ k = i
    · rw [if_pos h,if_pos (by rw [← h,h1])]; rfl
    · rw [if_neg h,if_neg (fun hk=>h (by rw [hk,h2]))]

theorem renO_rel {MF:Nat → Prop} {o:AObj} {b:Nat} (h:OBlock bl M MF w o b) (hb:∀ i,bl' (ρ i) = bl i) (hM:∀ b,M' b → M b):OBlock bl' M' MF w (renO ρ o) b:=by
  rcases h with ⟨gk,c1,fr,h2,h3,h4,h5,h6,h7⟩ | hsp
  rotate_left
  · have:renO ρ o = o:=by simp [renO,hsp.isRec]
    rw [this]
    exact .inr hsp
  refine .inl ⟨by unfold renO; split <;> exact gk,c1,fr,by rw [renO_t]; exact h2,h3,h4,fun k r hr=>?_,?_,fun k q r x hr hx=>?_⟩
  · rw [renO_st]
    unfold renO at hr
    split at hr
    · simp only [List.getElem?_map,Option.map_eq_some_iff] at hr
      obtain ⟨r0,h8,rfl⟩:=hr
      simpa using h5 k r0 h8
    · exact h5 k r hr
  · rw [renO_st]
    unfold renO
    split <;> simpa using h6
  · rw [renO_st,renO_rec]
    unfold renO at hr
    split at hr
    · rename_i hrc
      simp only [List.getElem?_map,Option.map_eq_some_iff] at hr
      obtain ⟨r0,h8,rfl⟩:=hr
      simp only [List.getElem?_map,Option.map_eq_some_iff] at hx
      obtain ⟨x0,h9,rfl⟩:=hx
      obtain ⟨u,hu1,hu2⟩:=h7 k q r0 x0 h8 h9
      rw [hrc] at hu2 ⊢
      exact ⟨u,hu1,renC_rel hu2 hb hM⟩
    · rename_i hrc
      obtain ⟨u,hu1,hu2⟩:=h7 k q r x hr hx
      have hrc':o.isRec = false:=by simpa using hrc
      rw [hrc'] at hu2 ⊢
      exact ⟨u,hu1,IRel.mono hu2 hM⟩

theorem renH_rel {MF:Nat → Prop} {σ:List (Nat × AObj)} (h1:∀ i,τ (ρ i) = i) (h2:∀ i,ρ (τ i) = i) (h:HRel bl M MF w (hget σ)) (hb:∀ i,bl' (ρ i) = bl i) (hM:∀ b,M' b → M b):HRel bl' M' MF w (hget (renH ρ σ)):=by
  have hs:∀ {i o},hget (renH ρ σ) i = some o → ∃ o0,hget σ (τ i) = some o0 ∧ o = renO ρ o0:=fun {i o} hi=>by
    rw [hget_renH h1 h2] at hi
    simp only [Option.map_eq_some_iff] at hi
    obtain ⟨o0,h3,h4⟩:=hi
    exact ⟨o0,h3,h4.symm⟩
  have hbt:∀ i,bl' i = bl (τ i):=fun i=>by rw [← hb,h2]
  refine ⟨fun i o hi=>?_,fun i i' o o' b hi hi' q q'=>?_⟩
  · obtain ⟨o0,h3,rfl⟩:=hs hi
    rcases h.1 _ o0 h3 with hn | ⟨b,h4,h5⟩
    · refine .inl ⟨?_,by rw [renO_rec]; exact hn.2.1,by rw [hbt]; exact hn.2.2⟩
      unfold renO
      rw [hn.2.1]
      exact hn.1
    · exact .inr ⟨b,by rw [hbt]; exact h4,renO_rel h5 hb hM⟩
  · obtain ⟨o0,h3,_⟩:=hs hi
    obtain ⟨o1,h4,_⟩:=hs hi'
    have:=h.2 _ _ _ _ b h3 h4 (by rw [← hbt]; exact q) (by rw [← hbt]; exact q')
    rw [← h2 i,← h2 i',this]

theorem renH_mut {MF:Nat → Prop} {σ:List (Nat × AObj)} (h1:∀ i,τ (ρ i) = i) (h2:∀ i,ρ (τ i) = i) (hb:∀ i,bl' (ρ i) = bl i) (b:Nat) (h:Mut bl' MF (hget (renH ρ σ)) b):Mut bl MF (hget σ) b:=by
  rcases h with h | ⟨i,o,h3,h4⟩
  · exact .inl h
  · rw [hget_renH h1 h2] at h3
    simp only [Option.map_eq_some_iff] at h3
    obtain ⟨o0,h5,_⟩:=h3
    exact .inr ⟨_,o0,h5,by rw [← hb,h2]; exact h4⟩
theorem renH_blk {σ:List (Nat × AObj)} (h1:∀ i,τ (ρ i) = i) (h2:∀ i,ρ (τ i) = i) (hb:∀ i,bl' (ρ i) = bl i) (b:Nat) (h:Blocks bl' (renH ρ σ) b):Blocks bl σ b:=by
  obtain ⟨i,o,h3,h4⟩:=h
  rw [hget_renH h1 h2] at h3
  simp only [Option.map_eq_some_iff] at h3
  obtain ⟨o0,h5,_⟩:=h3
  exact ⟨_,o0,h5,by rw [← hb,h2]; exact h4⟩

theorem idsP_ren (x:AV):idsP (renP ρ x) = (idsP x).map ρ:=by cases x <;> rfl
theorem flatMap_ren {f g:AV → List Nat} {r:AV → AV} (h:∀ x,f (r x) = (g x).map ρ):∀ l:List AV,(l.map r).flatMap f = (l.flatMap g).map ρ
  | []=>rfl
  | x :: l=>by simp only [List.map_cons,List.flatMap_cons,flatMap_ren h l,h,List.map_append]
theorem idsC_ren (x:AV):idsC (renC ρ x) = (idsC x).map ρ:=by
  cases x with
  | fn f caps=>exact flatMap_ren idsP_ren caps
  | _=>rfl
theorem idsG_ren (x:AV):idsG (renG ρ x) = (idsG x).map ρ:=by
  cases x with
  | agg cells=>exact flatMap_ren idsC_ren cells
  | fn f caps=>exact flatMap_ren idsP_ren caps
  | _=>rfl
theorem idsV_ren (x:AV):idsV (renV ρ x) = (idsV x).map ρ:=by
  cases x with
  | tup vs=>exact flatMap_ren idsG_ren vs
  | agg cells=>exact flatMap_ren idsC_ren cells
  | fn f caps=>exact flatMap_ren idsP_ren caps
  | _=>rfl
theorem idsO_ren (o:AObj):idsO (renO ρ o) = (idsO o).map ρ:=by
  unfold idsO
  rw [renO_rec]
  split
  · rename_i h
    simp only [renO,h,if_true]
    generalize o.rows = l
    induction l with
    | nil=>rfl
    | cons r l ih=>simp only [List.map_cons,List.flatMap_cons,ih,List.map_append]; congr 1; exact flatMap_ren idsC_ren r
  · rfl

theorem mem_renH:∀ {σ:List (Nat × AObj)} {p:Nat × AObj},p ∈ renH ρ σ → ∃ q ∈ σ,p = (ρ q.1,renO ρ q.2)
  | [],_,h=>by cases h
  | (i,o) :: r,p,h=>by
    simp only [renH,List.mem_cons] at h
    rcases h with h | h
    · exact ⟨(i,o),by simp,h⟩
    · obtain ⟨q,h1,h2⟩:=mem_renH h
      exact ⟨q,by simp [h1],h2⟩

theorem Closed.ren {r:AV} {σ:List (Nat × AObj)} (h1:∀ i,τ (ρ i) = i) (h2:∀ i,ρ (τ i) = i) (h:Closed r σ):Closed (renV ρ r) (renH ρ σ):=by
  have key:∀ {i},(hget σ i).isSome = true → (hget (renH ρ σ) (ρ i)).isSome = true:=fun {i} hi=>by
    rw [hget_renH h1 h2,h1]
    simpa using hi
  refine ⟨fun i hi=>?_,fun p hp i hi=>?_⟩
  · rw [idsV_ren,List.mem_map] at hi
    obtain ⟨j,h3,rfl⟩:=hi
    exact key (h.1 j h3)
  · obtain ⟨q,h3,rfl⟩:=mem_renH hp
    simp only [idsO_ren,List.mem_map] at hi
    obtain ⟨j,h4,rfl⟩:=hi
    exact key (h.2 q h3 j h4)

theorem ACalls.ren {f:FuncId} {args args2:List AV} {σ σ2:List (Nat × AObj)} {Sb:Nat → Prop} {Post:AV → List (Nat × AObj) → Prop} (h:ACalls P f args σ Sb Post) (ρ τ:Nat → Nat) (h1:∀ i,τ (ρ i) = i) (h2:∀ i,ρ (τ i) = i)
    (ha:args2.map (renV τ) = args) (hσ:renH τ σ2 = σ):ACalls P f args2 σ2 (fun id=>Sb (τ id)) (fun r σ'=>∃ r0 σ0,Post r0 σ0 ∧ r = renV ρ r0 ∧ σ' = renH ρ σ0):=by
  intro bl MF w cargs hTH hTW hH hMF hargs
  subst ha hσ
  have hb:∀ i,(fun i=>bl (ρ i)) (τ i) = bl i:=fun i=>by simp only [h2]
  have hmut:∀ b,Mut (fun i=>bl (ρ i)) MF (hget (renH τ σ2)) b → Mut bl MF (hget σ2) b:=fun b hm=>renH_mut h2 h1 hb b hm
  have hblk:∀ b,Blocks (fun i=>bl (ρ i)) (renH τ σ2) b → Blocks bl σ2 b:=fun b hm=>renH_blk h2 h1 hb b hm
  refine (h (fun i=>bl (ρ i)) MF w cargs hTH (fun b hb hB=>hTW b hb (hmut b hB)) (renH_rel h2 h1 hH hb hmut) hMF (hargs.mapRight fun _ _ hr=>renV_rel hr hb hmut)).mono fun e w'=>?_
  rintro ⟨v,r,σ',bl',rfl,hp,hc,hH',hv,hst,hnew,hsb⟩
  have hb':∀ i,(fun i=>bl' (τ i)) (ρ i) = bl' i:=fun i=>by simp only [h1]
  have hmut':∀ b,Mut (fun i=>bl' (τ i)) MF (hget (renH ρ σ')) b → Mut bl' MF (hget σ') b:=fun b hm=>renH_mut h1 h2 hb' b hm
  refine ⟨v,renV ρ r,renH ρ σ',fun i=>bl' (τ i),rfl,⟨r,σ',hp,rfl,rfl⟩,hc.ren h1 h2,renH_rel h1 h2 hH' hb' hmut',renV_rel hv hb' hmut',?_,fun id o b hi hq=>?_,fun id hid=>?_⟩
  · exact ⟨hst.size,fun b hlt hn=>hst.keep b hlt fun hh=>hn (hblk b hh),hst.shape,hst.os,hst.out⟩
  · rw [hget_renH h1 h2] at hi
    simp only [Option.map_eq_some_iff] at hi
    obtain ⟨o0,h5,_⟩:=hi
    exact (hnew _ o0 b h5 hq).imp_right (hblk b)
  · show bl' (τ id) = bl id
    rw [hsb _ hid]
    exact hb id

def swp (a b i:Nat):Nat:=if i = a then b else if i = b then a else i
theorem swp_swp (a b i:Nat):swp a b (swp a b i) = i:=by
  unfold swp
  by_cases h1:i = a <;> by_cases h2:i = b <;> simp [h1,h2] <;> (try split) <;> simp_all

theorem ACalls.fresh {f:FuncId} {args:List AV} {Sb:Nat → Prop} {id st off len:Nat} {o:AObj} (h:ACalls P f args [] Sb (fun r σ'=>r = .ms id st off len ∧ σ' = [(id,o)])) (ho:o.isRec = false) (hargs:∀ x ∈ args,idsV x = []) (j:Nat) :
    ACalls P f args [] (fun _=>False) (fun r σ'=>r = .ms j st off len ∧ σ' = [(j,o)]):=by
  have hren:∀ x:AV,idsV x = [] → renV (swp id j) x = x:=by
    have hP:∀ x:AV,idsP x = [] → renP (swp id j) x = x:=fun x hx=>by cases x <;> first | rfl | (simp [idsP] at hx)
    have hL:∀ {f:AV → List Nat} {r:AV → AV},(∀ x,f x = [] → r x = x) → ∀ l:List AV,l.flatMap f = [] → l.map r = l:=fun {f r} hh l=>by
      induction l with
      | nil=>exact fun _=>rfl
      | cons y l ih =>
        intro hl
        simp only [List.flatMap_cons,List.append_eq_nil_iff] at hl
        simp only [List.map_cons,hh y hl.1,ih hl.2]
    have hC:∀ x:AV,idsC x = [] → renC (swp id j) x = x:=fun x hx=>by
      cases x with
      | fn f caps=>simp only [renC,hL hP caps hx]
      | _=>first | rfl | (simp [idsC,idsP] at hx)
    have hG:∀ x:AV,idsG x = [] → renG (swp id j) x = x:=fun x hx=>by
      cases x with
      | agg cells=>simp only [renG,hL hC cells hx]
      | fn f caps=>exact hC (.fn f caps) hx
      | _=>first | rfl | (simp [idsG,idsC,idsP] at hx)
    intro x hx
    cases x with
    | tup vs=>simp only [renV,hL hG vs hx]
    | agg cells=>exact hG (.agg cells) hx
    | fn f caps=>exact hG (.fn f caps) hx
    | _=>first | rfl | (simp [idsV,idsG,idsC,idsP] at hx)
  have hmap:∀ l:List AV,(∀ x ∈ l,idsV x = []) → l.map (renV (swp id j)) = l:=fun l=>by
    induction l with
    | nil=>exact fun _=>rfl
    | cons y l ih=>intro hl; simp only [List.map_cons,hren y (hl y (by simp)),ih fun x hx=>hl x (by simp [hx])]
  refine (h.ren (args2:=args) (σ2:=[]) (swp id j) (swp id j) (swp_swp _ _) (swp_swp _ _) (hmap args hargs) rfl).mono (fun _ hf=>hf.elim) ?_
  rintro r σ' ⟨r0,σ0,⟨rfl,rfl⟩,rfl,rfl⟩
  have hs:swp id j id = j:=by simp [swp]
  refine ⟨by simp only [renV,renG,renC,renP,hs],?_⟩
  simp only [renH,hs,renO,ho]
  rfl

end
end Go.Mw
set_option linter.unusedVariables false
set_option linter.unusedSimpArgs false
namespace Go.Mw

def leE (e:List (Nat × AV)):List (Nat × AV) → Prop
  | []=>True
  | (k,x) :: r=>get e k = x ∧ leE e r
def leH (e:List (Nat × AObj)):List (Nat × AObj) → Prop
  | []=>True
  | (k,x) :: r=>hget e k = some x ∧ leH e r
theorem leE_mem {e:List (Nat × AV)}:∀ {l:List (Nat × AV)},leE e l → ∀ p ∈ l,get e p.1 = p.2
  | [],_,p,hp=>by cases hp
  | (k,x) :: r,h,p,hp=>by
    rcases List.mem_cons.1 hp with rfl | hp
    · exact h.1
    · exact leE_mem h.2 p hp
theorem leH_mem {e:List (Nat × AObj)}:∀ {l:List (Nat × AObj)},leH e l → ∀ p ∈ l,hget e p.1 = some p.2
  | [],_,p,hp=>by cases hp
  | (k,x) :: r,h,p,hp=>by
    rcases List.mem_cons.1 hp with rfl | hp
    · exact h.1
    · exact leH_mem h.2 p hp
theorem Wk.of {s s':St} (h1:leE s.env s'.env) (h2:leH s.heap s'.heap):Wk s s':=Wk.le (leE_mem h1) (leH_mem h2)
theorem Wk.frzs:∀ (fs:List Nat) (s:St),Wk s (Mw.frzs fs s)
  | [],s=>Wk.refl s
  | i :: r,s=>(Wk.frz s i).trans (Wk.frzs r (s.frz i))
def St.mknil (s:St) (k i st:Nat) (t:TypeId):St:=⟨(k,.ms i st 0 0) :: del (s.kill i).env k,(i,⟨t,st,[],false⟩) :: (s.kill i).heap⟩
theorem Wk.nil (s:St) (k i st:Nat) (t:TypeId) (hk:get s.env k = .nl) (hid:i < 1000 ∨ 2000 ≤ i):Wk s (s.mknil k i st t):=by
  intro c a w hs
  obtain ⟨bl,hs⟩:=hs.kill i
  obtain ⟨h1,h2⟩:=kill_unnamed s i
  have hn:=hs.new0 (i:=i) (o:=⟨t,st,[],false⟩) h1 h2 hid rfl rfl
  have hk':get (s.kill i).env k = .nl:=by simp [St.kill,get_purE,hk,purV,mV,mG,mC,mP]
  refine ⟨_,hn.defers,hn.size,fun j=>?_,?_,hn.step,?_,hn.stab,hn.mf⟩
  all_goals
    have hheap:hget (s.mknil k i st t).heap = upd (hget (s.kill i).heap) i (some ⟨t,st,[],false⟩):=by
      funext j
      simp only [St.mknil,hget,upd]
      by_cases h:i = j
      · rw [if_pos h,if_pos h.symm]
      · rw [if_neg h,if_neg (Ne.symm h)]
  · rw [hheap]
    have hj:=hn.env j
    simp only [St.mknil,get]
    by_cases h:k = j
    · subst h
      rw [if_pos rfl]
      rw [hk'] at hj
      have hv:tv a k = .slice none 0 0:=by
        simp only [VRel,GRel,CRel,PRel] at hj
        generalize tv a k = v at hj
        cases hj
        rfl
      exact .inl ⟨hv,rfl,rfl⟩
    · rw [if_neg h,get_del,if_neg (Ne.symm h)]
      exact hj
  · rw [hheap]
    exact hn.heap
  · rw [hheap]
    exact hn.own

def clB (r:AV) (σ:List (Nat × AObj)):Bool:=(idsV r).all (fun i=>(hget σ i).isSome) && σ.all fun p=>(idsO p.2).all fun i=>(hget σ i).isSome
theorem clB_closed {r:AV} {σ:List (Nat × AObj)} (h:clB r σ = true):Closed r σ:=by
  simp only [clB,Bool.and_eq_true,List.all_eq_true] at h
  exact ⟨fun i hi=>h.1 i hi,fun p hp i hi=>h.2 p hp i hi⟩

theorem done {l:List IRes} {Post:AV → List (Nat × AObj) → Prop} {s:St} (fs:List Nat) (r:AV) (σ':List (Nat × AObj)) (h1:iret l (frzs fs s) = some r) (h2:leH (frzs fs s).heap σ') (h3:clB r σ' = true) (h4:Post r σ'):Done l Post .ret s :=
  ⟨(fun _ h=>by cases h),s,Wk.refl s,fs,r,σ',h1,(fun i o hi=>leH_mem h2 _ (mem_hget hi)),clB_closed h3,h4⟩
theorem done_n {l:List IRes} {Post:AV → List (Nat × AObj) → Prop} {s:St} (fs:List Nat) (r:AV) (σ':List (Nat × AObj)) (h1:iret l (frzs fs s) = some r) (h2:leH (frzs fs s).heap σ') (h3:clB r σ' = true) (h4:Post r σ'):Done l Post .nrm s :=
  ⟨(fun _ h=>by cases h),s,Wk.refl s,fs,r,σ',h1,(fun i o hi=>leH_mem h2 _ (mem_hget hi)),clB_closed h3,h4⟩
def ri (n:Int):List AV:=[.int .i64 n]
def ru (n:Int):List AV:=[.int .u8 n]
def rb (b:UInt8):List AV:=[.int .u8 b.toNat]
def rs (s:List UInt8):List AV:=[.str s]
def rt (b:Bool):List AV:=[.bool b]
theorem ri_e (n:Int):ri n = [.int .i64 n]:=rfl
theorem ru_e (n:Int):ru n = [.int .u8 n]:=rfl
theorem rb_e (b:UInt8):rb b = [.int .u8 b.toNat]:=rfl
theorem rs_e (s:List UInt8):rs s = [.str s]:=rfl
theorem rt_e (b:Bool):rt b = [.bool b]:=rfl

section
variable {α:Type}
theorem stO_map (id n st row:Nat) (t:TypeId) (f:α → List AV) (l:List α) (v:α) (hn:∀ x,(f x).length = n) (hi:(f v).all immA = true) :
    stO id n st row 0 (some ⟨t,st,l.map f,false⟩) (some (f v)) = if row < l.length then some (.put id ⟨t,st,(l.set row v).map f,false⟩) else none:=by
  rw [stO_arr _ _ _ _ _ _ _ (by simpa using fun x _=>hn x)]
  simp only [hn,hi,List.length_map,true_and,List.map_set]
theorem stO_ri (id st row:Nat) (t:TypeId) (l:List Int) (v:Int):stO id 1 st row 0 (some ⟨t,st,l.map ri,false⟩) (some [.int .i64 v]) = if row < l.length then some (.put id ⟨t,st,(l.set row v).map ri,false⟩) else none:=stO_map id 1 st row t ri l v (fun _=>rfl) rfl
theorem stO_ru (id st row:Nat) (t:TypeId) (l:List Int) (v:Int):stO id 1 st row 0 (some ⟨t,st,l.map ru,false⟩) (some [.int .u8 v]) = if row < l.length then some (.put id ⟨t,st,(l.set row v).map ru,false⟩) else none:=stO_map id 1 st row t ru l v (fun _=>rfl) rfl
theorem stO_rs (id st row:Nat) (t:TypeId) (l:List (List UInt8)) (v:List UInt8):stO id 1 st row 0 (some ⟨t,st,l.map rs,false⟩) (some [.str v]) = if row < l.length then some (.put id ⟨t,st,(l.set row v).map rs,false⟩) else none:=stO_map id 1 st row t rs l v (fun _=>rfl) rfl
theorem stO_rt (id st row:Nat) (t:TypeId) (l:List Bool) (v:Bool):stO id 1 st row 0 (some ⟨t,st,l.map rt,false⟩) (some [.bool v]) = if row < l.length then some (.put id ⟨t,st,(l.set row v).map rt,false⟩) else none:=stO_map id 1 st row t rt l v (fun _=>rfl) rfl
theorem appO_map (id:Nat) (t:TypeId) (st len:Nat) (f:α → List AV) (l:List α) (ys:List (List AV)) (hl:l.length = len):appO id t st 0 len ys (some ⟨t,st,l.map f,false⟩) =
    if ys.length < 137438953472 ∧ len < 137438953472 ∧ (id < 1000 ∨ 2000 ≤ id) then some (.ms id st 0 (len + ys.length),.reb id ⟨t,st,l.map f ++ ys,false⟩) else none:=appO_full id t st len _ ys (by simpa using hl)
theorem rowO_lit (st:Nat) (t:TypeId) (r:List AV):rowO st 0 1 (some ⟨t,st,[r],false⟩) = some [r]:=rowO_full st 1 t _ rfl
end
theorem wi {n:Int} (h0:-9223372036854775808 ≤ n) (h1:n < 9223372036854775808):IntKind.i64.wrap n = n:=by
  unfold IntKind.wrap
  show (if (true && decide (n % 18446744073709551616 ≥ 9223372036854775808)) = true then n % 18446744073709551616 - 18446744073709551616 else n % 18446744073709551616) = n
  by_cases h:n % 18446744073709551616 ≥ 9223372036854775808
  · rw [decide_eq_true h]; simp only [Bool.true_and,if_true]; omega
  · rw [decide_eq_false h]; simp only [Bool.and_false,Bool.false_eq_true,if_false]; omega
theorem bslA_ite (d:Nat) (t:TypeId) (st:Nat) (c:Prop) [Decidable c] (x:Option (List (List AV))):bslA d t st (if c then x else none) = if c then bslA d t st x else none:=by split <;> rfl
theorem boxA_ite (d:Nat) (t:TypeId) (n:Nat) (c:Prop) [Decidable c] (x:Option (List AV)):boxA d t n (if c then x else none) = if c then boxA d t n x else none:=by split <;> rfl
theorem omap_ite {α β:Type} (f:α → β) (c:Prop) [Decidable c] (x:Option α):Option.map f (if c then x else none) = if c then Option.map f x else none:=by split <;> rfl
attribute [go_sem] bslA_ite boxA_ite omap_ite
attribute [go_sem] leE leH clB ri_e ru_e rb_e rs_e rt_e stO_ri stO_ru stO_rs stO_rt rowO_lit Int.toNat_natCast

theorem Wk.nls (s:St) (k st:Nat) (hk:get s.env k = .nl):Wk s ⟨(k,.sl st []) :: s.env,s.heap⟩:=by
  rintro c a w ⟨bl,hs⟩
  refine ⟨bl,hs.defers,hs.size,fun j=>?_,hs.heap,hs.step,hs.own,hs.stab,hs.mf⟩
  simp only [get]
  split
  · rename_i h
    subst h
    have:=hs.env k
    rw [hk] at this
    rw [this.nl]
    exact IRel.nls st
  · exact hs.env j
theorem IRel.nl_sl {M:Nat → Prop} {w:World} {v:Value} (h:IRel M w v .nl) (st:Nat):IRel M w v (.sl st []):=by
  cases h
  exact .nls st
def nlr:List AV → List AV → Prop
  | [],[]=>True
  | x :: l,y :: m=>(x = y ∨ (x = .nl ∧ ∃ st,y = .sl st [])) ∧ nlr l m
  | _,_=>False
theorem wpdone {l:List IRes} {r:AV} {s s1:St} (hw:Wk s s1) (fs:List Nat) (h:iret l (frzs fs s1) = some r) (h2:idsV r = []):PDone l r .ret s:=⟨(fun _ h=>by cases h),s1,hw,fs,h,h2⟩
end Go.Mw
set_option linter.unusedVariables false
set_option linter.unusedSimpArgs false
namespace Go.Mw

inductive Ty where
  | bool
  | int (k:IntKind)
  | str
  | sl (e:Ty)
  | nil
  | cons (f:Ty) (r:Ty)
  deriving Inhabited

def Ty.n:Ty → Nat
  | .nil=>0
  | .cons f r=>f.n + r.n
  | _=>1

def Ty.ok:Ty → List AV → Prop
  | .bool,xs=>∃ b,xs = [.bool b]
  | .int k,xs=>∃ n,xs = [.int k n] ∧ (Lit.int k n).wf = true
  | .str,xs=>∃ s,xs = [.str s] ∧ s.length ≤ maxLen
  | .sl e,xs=>xs = [.nl] ∨ ∃ rows,xs = [.sl e.n rows] ∧ rows.length ≤ maxLen ∧ ∀ r ∈ rows,e.ok r
  | .nil,xs=>xs = []
  | .cons f r,xs=>∃ ys zs,xs = ys ++ zs ∧ f.ok ys ∧ r.ok zs

theorem Ty.ok_len:∀ (τ:Ty) (xs:List AV),τ.ok xs → xs.length = τ.n
  | .bool,xs,h=>by obtain ⟨b,rfl⟩:=h; rfl
  | .int k,xs,h=>by obtain ⟨n,rfl,_⟩:=h; rfl
  | .str,xs,h=>by obtain ⟨s,rfl,_⟩:=h; rfl
  | .sl e,xs,h=>by rcases h with rfl | ⟨rows,rfl,_⟩ <;> rfl
  | .nil,xs,h=>by subst h; rfl
  | .cons f r,xs,h=>by
    obtain ⟨ys,zs,rfl,h1,h2⟩:=h
    simp only [List.length_append,Ty.n,Ty.ok_len f ys h1,Ty.ok_len r zs h2]

def tyFs (g:TypeId → Option Ty) (P:Program) (off:Nat):List Field → Option Ty
  | []=>some .nil
  | f :: r=>if f.offset = off then (match g f.type,tyFs g P (off + P.cellsOf f.type) r with
    | some a,some b=>if a.n = P.cellsOf f.type then some (.cons a b) else none
    | _,_=>none) else none
def tyOf (P:Program):Nat → TypeId → Option Ty
  | 0,_=>none
  | f + 1,t=>match P.underlying t with
    | some .bool=>some .bool
    | some (.int k)=>some (.int k)
    | some .string=>some .str
    | some (.slice e)=>match tyOf P f e with
      | some a=>if a.n = P.cellsOf e ∧ 0 < a.n then some (.sl a) else none
      | none=>none
    | some (.struct fs)=>match tyFs (tyOf P f) P 0 fs.toList with
      | some a=>if a.n = P.cellsOf t then some a else none
      | none=>none
    | _=>none

theorem mapM_get {α β:Type} {g:α → Option β}:∀ {l:List α} {r:List β},l.mapM g = some r → r.length = l.length ∧ ∀ (i:Nat) (x:α),l[i]? = some x → ∃ y,r[i]? = some y ∧ g x = some y
  | [],r,h=>by
    simp only [List.mapM_nil,pure,Option.some.injEq] at h
    subst h
    exact ⟨rfl,fun i x hx=>by simp at hx⟩
  | a :: l,r,h=>by
    simp only [List.mapM_cons,bind,Option.bind_eq_some_iff,pure,Option.some.injEq] at h
    obtain ⟨y,h1,ys,h2,rfl⟩:=h
    obtain ⟨h3,h4⟩:=mapM_get h2
    refine ⟨by simp [h3],fun i x hx=>?_⟩
    cases i with
    | zero =>
      simp only [List.getElem?_cons_zero,Option.some.injEq] at hx
      subst hx
      exact ⟨y,rfl,h1⟩
    | succ i=>exact h4 i x (by simpa using hx)
theorem mapM_range {β:Type} {g:Nat → Option β} {n:Nat} {r:List β} (h:(List.range n).mapM g = some r):r.length = n ∧ ∀ i,i < n → ∃ y,r[i]? = some y ∧ g i = some y:=by
  obtain ⟨h1,h2⟩:=mapM_get h
  exact ⟨by simpa using h1,fun i hi=>h2 i i (by simp [hi])⟩

theorem cells_get {w:World} {base:Nat} {a:Addr} {n:Nat} {cs:List Value} (h:w.cells? base a n = some cs):cs.length = n ∧ ∀ j,j < n → ∃ y,cs[j]? = some y ∧ w.cell? (a.add j) = some y:=by
  unfold World.cells? at h
  split at h
  · exact mapM_range h
  · cases h
theorem cell_get {w:World} {a:Addr} {v:Value} (h:w.cell? a = some v):a.spot = none ∧ ∃ c t fr,w.heap[a.block]? = some (.cells c t fr) ∧ c[a.off]? = some v:=by
  unfold World.cell? at h
  split at h
  case h_2=>cases h
  rename_i c t fr hb
  split at h
  · cases h
  · rename_i hs
    exact ⟨by simpa using hs,c,t,fr,hb,h⟩

theorem All2.split {α β:Type} {R:α → β → Prop}:∀ {l l':List α} {m m':List β},l.length = m.length → All2 R l m → All2 R l' m' → All2 R (l ++ l') (m ++ m'):=fun _ h h'=>h.append h'

section
variable {H:Type} {enc:TypeId × Value → H} {P:Program} {w:World} {base:Nat} {sp:Nat → Bool} {held:Bool}

theorem fields_ok {g:TypeId → Option Ty} {r:TypeId → List Value → Option (DataW H × List MemPlace)} (ih:∀ t cs τ x,g t = some τ → r t cs = some x → ∃ xs,τ.ok xs ∧ All2 (IRel (fun _=>False) w) cs xs) (cs:List Value) :
    ∀ (fs:List Field) (off:Nat) (τ:Ty) (xs:List (DataW H × List MemPlace)),tyFs g P off fs = some τ → (fs.mapM fun f=>r f.type ((cs.drop f.offset).take (P.cellsOf f.type))) = some xs → off + τ.n = cs.length →
      ∃ ys,τ.ok ys ∧ All2 (IRel (fun _=>False) w) (cs.drop off) ys
  | [],off,τ,xs,ht,_,hn=>by
    simp only [tyFs,Option.some.injEq] at ht
    subst ht
    refine ⟨[],rfl,?_⟩
    rw [List.drop_eq_nil_of_le (by simp [Ty.n] at hn; omega)]
    trivial
  | f :: fs,off,τ,xs,ht,hm,hn=>by
    simp only [tyFs] at ht
    split at ht
    case isFalse=>cases ht
    rename_i hoff
    split at ht
    case h_2=>cases ht
    rename_i a b ha hb
    split at ht
    case isFalse=>cases ht
    rename_i hsz
    cases ht
    simp only [List.mapM_cons,bind,Option.bind_eq_some_iff,pure,Option.some.injEq] at hm
    obtain ⟨y,h1,zs,h2,rfl⟩:=hm
    obtain ⟨xs1,h3,h4⟩:=ih _ _ _ _ ha h1
    simp only [Ty.n] at hn
    obtain ⟨xs2,h5,h6⟩:=fields_ok ih cs fs (off + P.cellsOf f.type) b zs hb h2 (by omega)
    refine ⟨xs1 ++ xs2,⟨xs1,xs2,rfl,h3,h5⟩,?_⟩
    rw [hoff] at h4
    have:cs.drop off = (cs.drop off).take (P.cellsOf f.type) ++ cs.drop (off + P.cellsOf f.type):=by
      rw [← List.drop_drop,List.take_append_drop]
    rw [this]
    exact h4.append h6

theorem trod_ok:∀ (fuel f:Nat) (t:TypeId) (cs:List Value) (τ:Ty) (x:DataW H × List MemPlace),tyOf P f t = some τ → DataW.trod enc P w base sp held fuel t cs = some x → ∃ xs,τ.ok xs ∧ All2 (IRel (fun _=>False) w) cs xs:=by
  intro fuel
  induction fuel with
  | zero=>intro f t cs τ x _ h; simp [DataW.trod] at h
  | succ fuel ih =>
    intro f t cs τ x ht h
    cases f with
    | zero=>simp [tyOf] at ht
    | succ f =>
      simp only [tyOf] at ht
      split at ht
      case h_1 hu =>
        cases ht
        unfold DataW.trod at h
        split at h <;> rename_i heq <;> first | (rw [hu] at heq; cases heq; done) | (cases h; done) | skip
        rename_i b
        exact ⟨[.bool b],⟨b,rfl⟩,.bool b,trivial⟩
      case h_2 k hu =>
        cases ht
        unfold DataW.trod at h
        split at h <;> rename_i heq <;> first | (rw [hu] at heq; cases heq; done) | (cases h; done) | skip
        rename_i k' k1 n
        rw [hu] at heq
        cases heq
        split at h
        · rename_i hk
          obtain ⟨rfl,hwf⟩:=hk
          exact ⟨[.int _ n],⟨n,rfl,hwf⟩,.int _ n,trivial⟩
        · cases h
      case h_3 hu =>
        cases ht
        unfold DataW.trod at h
        split at h <;> rename_i heq <;> first | (rw [hu] at heq; cases heq; done) | (cases h; done) | skip
        rename_i s
        split at h
        · rename_i hs
          refine ⟨[.str s.data.toList],⟨_,rfl,by simpa using hs⟩,?_,trivial⟩
          have:=IRel.str (M:=fun _=>False) (w:=w) s.data.toList
          simpa using this
        · cases h
      case h_4 e hu =>
        split at ht
        case h_2=>cases ht
        rename_i a ha
        split at ht
        case isFalse=>cases ht
        rename_i hsz
        cases ht
        unfold DataW.trod at h
        split at h <;> rename_i heq <;> first | (rw [hu] at heq; cases heq; done) | (cases h; done) | skip
        · exact ⟨[.nl],.inl rfl,.nl,trivial⟩
        · rename_i e1 ad len cap
          rw [hu] at heq
          cases heq
          simp only at h
          split at h
          case isFalse=>cases h
          rename_i hcap
          simp only [Option.bind_eq_some_iff] at h
          obtain ⟨elems,hel,_⟩:=h
          obtain ⟨hlen,hget⟩:=mapM_range hel
          have hrow:∀ i,i < len → ∃ row xs,w.cells? base (ad.add (i * P.cellsOf e)) (P.cellsOf e) = some row ∧ a.ok xs ∧ All2 (IRel (fun _=>False) w) row xs:=fun i hi=>by
            obtain ⟨y,_,h2⟩:=hget i hi
            simp only [Option.bind_eq_some_iff] at h2
            obtain ⟨row,h3,h4⟩:=h2
            obtain ⟨xs,h5,h6⟩:=ih f e row a y ha h4
            exact ⟨row,xs,h3,h5,h6⟩
          by_cases h0:len = 0
          · subst h0
            exact ⟨[.sl a.n []],.inr ⟨[],rfl,Nat.zero_le _,fun r hr=>by cases hr⟩,.sl0 _ _ _,trivial⟩
          have hn:0 < P.cellsOf e:=by omega
          -- one cell of one row
          have hcell:∀ i j,i < len → j < P.cellsOf e → ∀ row,w.cells? base (ad.add (i * P.cellsOf e)) (P.cellsOf e) = some row → ∃ y,row[j]? = some y ∧ w.cell? ((ad.add (i * P.cellsOf e)).add j) = some y:=fun i j hi hj row hr=>(cells_get hr).2 j hj
          obtain ⟨row0,xs0,r1,_,_⟩:=hrow 0 (by omega)
          obtain ⟨y0,_,c0⟩:=hcell 0 0 (by omega) hn row0 r1
          obtain ⟨hspot,c,tt,fr,hb,_⟩:=cell_get c0
          have hspot':ad.spot = none:=by simpa [Addr.add] using hspot
          have hblk:∀ (q:Addr) m,(q.add m).block = q.block:=fun q m=>by unfold Addr.add; split <;> rfl
          have hoff:∀ (q:Addr) m,(q.add m).off = q.off + m:=fun q m=>by
            unfold Addr.add
            split
            · rename_i hm; simp [hm]
            · rfl
          rw [hblk,hblk] at hb
          have hval:∀ i j,i < len → j < P.cellsOf e → ∀ row,w.cells? base (ad.add (i * P.cellsOf e)) (P.cellsOf e) = some row → ∃ y,row[j]? = some y ∧ c[ad.off + i * P.cellsOf e + j]? = some y:=fun i j hi hj row hr=>by
            obtain ⟨y,g1,g2⟩:=hcell i j hi hj row hr
            obtain ⟨_,c',t',fr',g3,g4⟩:=cell_get g2
            rw [hblk,hblk,hb] at g3
            cases g3
            rw [hoff,hoff] at g4
            exact ⟨y,g1,g4⟩
          let R:Nat → List Value:=fun i=>if hi:i < len then Classical.choose (hrow i hi) else []
          let X:Nat → List AV:=fun i=>if hi:i < len then Classical.choose (Classical.choose_spec (hrow i hi)) else []
          have hRX:∀ i,i < len → w.cells? base (ad.add (i * P.cellsOf e)) (P.cellsOf e) = some (R i) ∧ a.ok (X i) ∧ All2 (IRel (fun _=>False) w) (R i) (X i):=fun i hi=>by
            have:=Classical.choose_spec (Classical.choose_spec (hrow i hi))
            simp only [R,X,hi,dif_pos]
            exact this
          have hrows:∀ (i:Nat) (r:List AV),((List.range len).map X)[i]? = some r → i < len ∧ r = X i:=fun i r hr=>by
            simp only [List.getElem?_map,Option.map_eq_some_iff] at hr
            obtain ⟨j,h1,h2⟩:=hr
            have h3:=List.getElem?_eq_some_iff.1 h1
            obtain ⟨h4,h5⟩:=h3
            simp at h4 h5
            subst h5
            exact ⟨h4,h2.symm⟩
          refine ⟨[.sl a.n ((List.range len).map X)],.inr ⟨_,rfl,by simp; omega,fun r hr=>?_⟩,?_,trivial⟩
          · obtain ⟨i,hi,rfl⟩:=List.mem_map.1 hr
            exact (hRX i (by simpa using hi)).2.1
          · obtain ⟨bk,of,so⟩:=ad
            simp only at hspot'
            subst hspot'
            have hll:((List.range len).map X).length = len:=by simp
            have key:=IRel.sl (M:=fun _=>False) (w:=w) bk of cap a.n c tt fr ((List.range len).map X) (fun i j=>(R i).getD j undef) hb (fun h=>h) (by rw [hll]; omega)
              (fun i r hr=>by obtain ⟨h1,rfl⟩:=hrows i r hr; exact Ty.ok_len _ _ (hRX i h1).2.1)
              (fun i j hi hj=>by
                rw [hll] at hi
                rw [hsz.1] at hj ⊢
                obtain ⟨y,g1,g2⟩:=hval i j hi hj _ (hRX i hi).1
                rw [g2,List.getD_eq_getElem?_getD,g1]
                rfl)
              (fun i j r x hr hx=>by
                obtain ⟨h1,rfl⟩:=hrows i r hr
                obtain ⟨y,g1,g2⟩:=(hRX i h1).2.2.get hx
                rw [List.getD_eq_getElem?_getD,g1]
                exact g2)
            rw [hll] at key
            exact key
      case h_5 fs hu =>
        split at ht
        case h_2=>cases ht
        rename_i a ha
        split at ht
        case isFalse=>cases ht
        rename_i hsz
        cases ht
        unfold DataW.trod at h
        split at h <;> rename_i heq <;> first | (rw [hu] at heq; cases heq; done) | (cases h; done) | skip
        · rename_i cs1 fs1
          rw [hu] at heq
          cases heq
          split at h
          case isFalse=>cases h
          rename_i hcl
          simp only [Option.map_eq_some_iff] at h
          obtain ⟨xs,h1,_⟩:=h
          have:=fields_ok (P:=P) (g:=tyOf P f) (r:=fun t cs=>DataW.trod enc P w base sp held fuel t cs) (fun t cs τ x=>ih f t cs τ x) _ _ 0 _ xs ha h1 (by omega)
          simpa using this
      case h_6=>cases ht
end
end Go.Mw
set_option linter.unusedSectionVars false
set_option linter.unusedVariables false
set_option linter.unusedSimpArgs false
namespace Go.Mw
open Go.ChangeShapes Go.WideShapes Go.ChangeAt Go.RowKit

section
variable {H:Type} {enc:TypeId × Value → H} {P:Program} [Tabs P]

structure Kept (w w':World):Prop where
  size:w.heap.size ≤ w'.heap.size
  old:∀ b,b < w.heap.size → w'.heap[b]? = w.heap[b]?
  os:w'.os = w.os
  out:w'.output = w.output

theorem IRel.toV {bl:Nat → Option Nat} {M:Nat → Prop} {w:World} {v:Value} {x:AV} (h:IRel M w v x):VRel bl M w v x:=h.toC.toG.toV

theorem Kept.frame {w w':World} (h:Kept w w') (may:MemPlace → Prop):w.keptBut w' may:=by
  refine ⟨h.os,h.out,fun i hi=>?_⟩
  rw [h.old i hi]
  cases ho:w.heap[i]? with
  | none=>rfl
  | some o =>
    cases o with
    | cells c t fr=>exact ⟨rfl,rfl,rfl,fun _ _=>rfl⟩
    | map es clock=>exact .inr ⟨rfl,rfl⟩
    | _=>rfl
theorem Kept.frozen {w w':World} (h:Kept w w') {a:Addr} (ha:a.block < w.heap.size):w'.frozen? a = w.frozen? a:=World.frozen?_of_block (w:=w) (h.old a.block ha)
theorem Kept.same {w w':World} (h:Kept w w') {p:MemPlace} (hp:p.block < w.heap.size):w.sameAt w' p:=by
  cases p with
  | cell b off=>exact World.cell?_of_block (w:=w) (h.old b hp)
  | map b=>exact h.old b hp

theorem trodAll_stays (hl:laidOutB P = true) {W W':World} {sp:Nat → Bool}:∀ {ts:List TypeId} {vs:List Value} {ds:List (DataW H)} {ps:List MemPlace},(∀ t ∈ ts,P.readableRec t = true ∧ t < P.types.size) →
    DataW.TrodAll enc P W 0 (fun _=>true) true ts vs ds ps → (∀ p ∈ ps,W.sameAt W' p) → (∀ p ∈ ps,sp p.block = true) → DataW.TrodAll enc P W' 0 sp true ts vs ds ps
  | [],[],[],ps,_,h,_,_=>h
  | t :: ts,v :: vs,d :: ds,ps,hr,h,h1,h2=>by
    obtain ⟨p,q,h3,h4,rfl⟩:=h
    exact ⟨p,q,WideElems.Trod_stays hl (hr t (by simp)).1 (hr t (by simp)).2 h3 (fun x hx=>h1 x (by simp [hx])) (fun x hx=>h2 x (by simp [hx])),
      trodAll_stays hl (fun t ht=>hr t (by simp [ht])) h4 (fun x hx=>h1 x (by simp [hx])) (fun x hx=>h2 x (by simp [hx])),rfl⟩
  | [],_ :: _,_,_,_,h,_,_=>h.elim
  | [],[],_ :: _,_,_,h,_,_=>h.elim
  | _ :: _,[],_,_,_,h,_,_=>h.elim
  | _ :: _,_ :: _,[],_,_,h,_,_=>h.elim

theorem law_post {f:Func} {s:ChangeSpec} {apart fresh handsOn again:Bool} {W W':World} {args:Array Value} {ds gs:List (DataW H)} {before:List MemPlace} {tb:TypeId} (hl:laidOutB P = true)
    (hr:∀ t ∈ f.params.toList,P.readableRec t = true ∧ t < P.types.size) (hv:s.vars = []) (hfn:(s.fn H (ds ++ gs)).results = [.lit (.bool true)]) (hfa:(s.fn H (ds ++ gs)).args = ds) (hfv:(s.fn H (ds ++ gs)).vars = [])
    (hrt:f.resultTypes = #[tb]) (htb:P.underlying tb = some .bool) (hW:DataW.Whole enc P f.params.toList s.vars apart W args.toList ds gs before) (hk:Kept W W') :
    s.post enc P f apart fresh handsOn again W args (.bool true) W':=by
  have hlt:=hW.lt
  have hW0:=hW
  obtain ⟨p,q,hA,hV,rfl,hz,hn⟩:=hW0
  rw [hv] at hV
  obtain ⟨rfl,rfl⟩:=trodVars_none hV
  rw [List.append_nil] at *
  have hsame:∀ x ∈ p,W.sameAt W' x:=fun x hx=>hk.same (by simpa using hlt x hx)
  have hargs:∀ sp:Nat → Bool,(∀ x ∈ p,sp x.block = true) → DataW.TrodAll enc P W' 0 sp true f.params.toList args.toList ds p:=fun sp hsp=>trodAll_stays hl hr hA hsame hsp
  have hres:∀ (b:Nat) (sp:Nat → Bool) (hd:Bool),DataW.TrodAll enc P W' b sp hd f.resultTypes.toList ((Value.bool true).resultList f.resultTypes.size) [.lit (.bool true)] []:=fun b sp hd=>by
    rw [hrt]
    exact trodAll_cons_mk (shut_bool htb _) trodAll_mk0
  have hvars:∀ sp:Nat → Bool,DataW.TrodVars enc P W' sp s.vars [] []:=fun sp=>by rw [hv]; rfl
  refine ⟨ds,[],p,[],p,[],by simpa using hW,by rw [List.append_nil,hfn]; exact hres _ _ _,by rw [List.append_nil,hfa]; exact hargs _ (fun x hx=>by simpa using hlt x (by simpa using hx)),by rw [List.append_nil,hfv]; exact hvars _,hk.frame _,fun _=>?_⟩
  refine ⟨ok_one hrt rfl (okWide_bool_mk htb _),[.lit (.bool true)] ++ ds,[],p,⟨[] ++ p,[],trodAll_append (hargs _ (fun _ _=>rfl)) (hres _ _ _),hvars _,by simp,?_,?_⟩,fun x hx _=>hx⟩
  · intro b off hp
    have hb:b < W.heap.size:=hlt (.cell b off) (by simpa using hp)
    have:=hz b off (by simpa using hp)
    rw [hk.frozen (a:=⟨b,off,none⟩) hb]
    exact this
  · intro ha
    simpa using hn ha
end
end Go.Mw
set_option linter.unusedSectionVars false
set_option linter.unusedVariables false
set_option linter.unusedSimpArgs false
namespace Go.Mw
open Go.ChangeShapes Go.WideShapes Go.ChangeAt Go.RowKit

def Ty.isRec:Ty → Bool
  | .nil=>true
  | .cons _ _=>true
  | _=>false
def Ty.okV (τ:Ty) (x:AV):Prop:=match τ.isRec with
  | true=>∃ xs,x = .agg xs ∧ τ.ok xs
  | false=>τ.ok [x]
def nlc (x y:AV):Prop:=x = y ∨ (x = .nl ∧ ∃ st,y = .sl st [])

section
variable {H:Type} {enc:TypeId × Value → H} {P:Program} [Tabs P] {w:World} {base:Nat} {sp:Nat → Bool} {held:Bool}

theorem tyFs_isRec {g:TypeId → Option Ty}:∀ {fs:List Field} {off:Nat} {τ:Ty},tyFs g P off fs = some τ → τ.isRec = true
  | [],off,τ,h=>by simp only [tyFs,Option.some.injEq] at h; subst h; rfl
  | f :: fs,off,τ,h=>by
    simp only [tyFs] at h
    split at h
    case isFalse=>cases h
    split at h
    case h_2=>cases h
    split at h
    case isFalse=>cases h
    cases h
    rfl

theorem arg_ok {f:Nat} {t:TypeId} {τ:Ty} {r:Reach} {b:Nat} {v:Value} {d:DataW H} {p:List MemPlace} (ht:tyOf P f t = some τ) (hv:Value.okWide P w r b t v) (h:DataW.Trod enc P w base sp held t v d p) :
    ∃ x,τ.okV x ∧ VRel (fun _=>none) (fun _=>False) w v x:=by
  obtain ⟨fuel,h⟩:=h
  obtain ⟨xs,h1,h2⟩:=trod_ok fuel f t _ _ _ ht h
  have one:τ.isRec = false → v.cells.toList = [v] → ∃ x,τ.okV x ∧ VRel (fun _=>none) (fun _=>False) w v x:=fun hr hc=>by
    rw [hc] at h2
    match xs,h2 with
    | [x],h2=>exact ⟨x,by unfold Ty.okV; rw [hr]; exact h1,h2.1.toV⟩
  cases f with
  | zero=>simp [tyOf] at ht
  | succ f =>
    simp only [tyOf] at ht
    unfold Value.okWide at hv
    split at ht
    · rename_i hu
      rw [hu] at hv
      cases ht
      exact one rfl (by
        unfold Cell.okWide at hv; rw [hu] at hv
        simp only [Cell.ok,hu] at hv
        cases v <;> first | rfl | exact hv.elim)
    · rename_i k hu
      rw [hu] at hv
      cases ht
      exact one rfl (by
        unfold Cell.okWide at hv; rw [hu] at hv
        simp only [Cell.ok,hu] at hv
        cases v <;> first | rfl | exact hv.elim)
    · rename_i hu
      rw [hu] at hv
      cases ht
      exact one rfl (by
        unfold Cell.okWide at hv; rw [hu] at hv
        simp only [Cell.ok,hu] at hv
        cases v <;> first | rfl | exact hv.elim)
    · rename_i e hu
      rw [hu] at hv
      have hr:τ.isRec = false:=by
        split at ht
        case h_2=>cases ht
        split at ht
        case isFalse=>cases ht
        cases ht
        rfl
      exact one hr (by
        unfold Cell.okWide at hv; rw [hu] at hv
        simp only [Cell.ok,hu] at hv
        cases v <;> first | rfl | exact hv.elim)
    · rename_i fs hu
      rw [hu] at hv
      have hr:τ.isRec = true:=by
        split at ht
        case h_2=>cases ht
        rename_i hfs
        split at ht
        case isFalse=>cases ht
        cases ht
        exact tyFs_isRec hfs
      obtain ⟨cs,rfl,_,_⟩:=hv
      refine ⟨.agg xs,by unfold Ty.okV; rw [hr]; exact ⟨xs,rfl,h1⟩,cs.toList,by simp,?_⟩
      exact All2.mono h2 fun a x _ h=>h.toC
    · cases ht

theorem args_ok {r:Reach} {b:Nat}:∀ {ts:List TypeId} {τs:List Ty} {vs:List Value} {ds:List (DataW H)} {ps:List MemPlace},All2 (fun t τ=>tyOf P 9 t = some τ) ts τs →
    DataW.TrodAll enc P w base sp held ts vs ds ps → (∀ (j:Nat) t v,ts[j]? = some t → vs[j]? = some v → Value.okWide P w r b t v) → ∃ xs,All2 Ty.okV τs xs ∧ All2 (VRel (fun _=>none) (fun _=>False) w) vs xs
  | [],[],[],ds,ps,_,h,_=>⟨[],trivial,trivial⟩
  | t :: ts,τ :: τs,v :: vs,d :: ds,ps,ht,h,hv=>by
    obtain ⟨p,q,h3,h4,rfl⟩:=h
    obtain ⟨x,h5,h6⟩:=arg_ok ht.1 (hv 0 t v rfl rfl) h3
    obtain ⟨xs,h7,h8⟩:=args_ok ht.2 h4 (fun j t v h1 h2=>hv (j + 1) t v (by simpa using h1) (by simpa using h2))
    exact ⟨x :: xs,⟨h5,h7⟩,h6,h8⟩
  | [],[],_ :: _,_,_,_,h,_=>h.elim
  | _ :: _,[],_,_,_,ht,_,_=>ht.elim
  | [],_ :: _,_,_,_,ht,_,_=>ht.elim
  | _ :: _,_ :: _,[],_,_,_,h,_=>h.elim
  | _ :: _,_ :: _,_ :: _,[],_,_,h,_=>h.elim

theorem nlc_rel:∀ {vs:List Value} {xs ys:List AV},All2 nlc xs ys → All2 (VRel (fun _=>none) (fun _=>False) w) vs xs → All2 (VRel (fun _=>none) (fun _=>False) w) vs ys
  | [],[],[],_,h=>h
  | v :: vs,x :: xs,y :: ys,hc,h=>by
    refine ⟨?_,nlc_rel hc.2 h.2⟩
    rcases hc.1 with rfl | ⟨rfl,st,rfl⟩
    · exact h.1
    · have h1:IRel (fun _=>False) w v .nl:=h.1
      cases h1
      exact IRel.toV (.nls st)
  | _,[],_ :: _,h,_=>h.elim
  | _,_ :: _,[],h,_=>h.elim
  | [],_ :: _,_,_,h=>h.elim
  | _ :: _,[],_,_,h=>h.elim

theorem pcalls_run2 {f:FuncId} {args:List AV} {r:Bool} (hp:PCalls P f args (.bool r)) {w:World} {cargs:List Value} (hT:(Tabs.T P).H w) (ha:All2 (VRel (fun _=>none) (fun _=>False) w) cargs args) :
    Calls P f cargs.toArray w fun e w'=>e = .returned (.bool r) ∧ Kept w w':=by
  have hM:Mut (fun _=>none) (fun _=>False) (hget []) = fun _=>False:=by
    funext b
    apply propext
    constructor
    · rintro (h | ⟨i,o,h,_⟩)
      · exact h
      · simp [hget] at h
    · exact False.elim
  refine (hp (fun _=>none) (fun _=>False) w cargs hT (fun _ _ hm=>hm.elim id fun ⟨_,_,hi,_⟩=>by simp [hget] at hi) ⟨fun i o h=>by simp [hget] at h,fun i _ o _ _ h=>by simp [hget] at h⟩ (fun _ h=>h.elim) (by rw [hM]; exact ha)).mono fun e w'=>?_
  rintro ⟨v,r',σ',bl',rfl,⟨rfl,rfl⟩,_,_,hv,hst,_,_⟩
  have hv':=hv.bool
  subst hv'
  exact ⟨rfl,hst.size,fun b hb=>hst.keep b hb (fun ⟨i,o,h,_⟩=>by simp [hget] at h),hst.os,hst.out⟩

theorem law_contract {fid:FuncId} {f:Func} {s:ChangeSpec} (τs:List Ty) {tb:TypeId} {apart fresh handsOn again:Bool} (hty:All2 (fun t τ=>tyOf P 9 t = some τ) f.params.toList τs) (hl:laidOutB P = true)
    (hr:∀ t ∈ f.params.toList,P.readableRec t = true ∧ t < P.types.size) (hvs:s.vars = [])
    (hfn:∀ ds:List (DataW H),ds.length = τs.length → (s.fn H ds).results = [.lit (.bool true)] ∧ (s.fn H ds).args = ds ∧ (s.fn H ds).vars = [])
    (hrt:f.resultTypes = #[tb]) (htb:P.underlying tb = some .bool)
    (hp:∀ xs,All2 Ty.okV τs xs → ∃ ys,All2 nlc xs ys ∧ PCalls P fid ys (.bool true))
    (W:World) (b:Nat) (args:Array Value) (ds gs:List (DataW H)) (before:List MemPlace) {r:Reach} (hT:(Tabs.T P).H W)
    (hval:∀ (j:Nat) t v,f.params[j]? = some t → args[j]? = some v → Value.okWide P W r b t v)
    (hW:DataW.Whole enc P f.params.toList s.vars apart W args.toList ds gs before) :
    Calls P fid args W fun e W'=>∃ v,e = .returned v ∧ s.post enc P f apart fresh handsOn again W args v W':=by
  have hW':=hW
  obtain ⟨p,q,hA,hV,_,_,_⟩:=hW
  rw [hvs] at hV
  obtain ⟨rfl,rfl⟩:=trodVars_none hV
  obtain ⟨xs,h1,h2⟩:=args_ok hty hA (fun j t v h1 h2=>hval j t v (by simpa using h1) (by simpa using h2))
  obtain ⟨ys,h3,h4⟩:=hp xs h1
  have hlen:ds.length = τs.length:=by
    have key:∀ {ts:List TypeId} {vs:List Value} {ds:List (DataW H)} {ps:List MemPlace},DataW.TrodAll enc P W 0 (fun _=>true) true ts vs ds ps → ds.length = ts.length:=by
      intro ts
      induction ts with
      | nil=>intro vs ds ps h; match vs,ds,h with | [],[],_=>rfl
      | cons t ts ih=>intro vs ds ps h; match vs,ds,h with | v :: vs,d :: ds,⟨_,_,_,h4,_⟩=>simp [ih h4]
    rw [key hA,hty.length]
  obtain ⟨g1,g2,g3⟩:=hfn ds hlen
  have:=pcalls_run2 h4 hT (nlc_rel h3 h2)
  rw [show args.toList.toArray = args from by simp] at this
  refine this.mono fun e W' ⟨he,hk⟩=>⟨_,he,?_⟩
  exact law_post hl hr hvs (by simpa using g1) (by simpa using g2) (by simpa using g3) hrt htb hW' hk
end
end Go.Mw
set_option linter.unusedSectionVars false
set_option linter.unusedVariables false
set_option linter.unusedSimpArgs false
namespace Go.Mw

def fw:List (Nat × Nat) → Nat → Nat
  | [],i=>i
  | (a,b) :: r,i=>fw r (swp a b i)
def bw:List (Nat × Nat) → Nat → Nat
  | [],i=>i
  | (a,b) :: r,i=>swp a b (bw r i)
theorem bw_fw:∀ (ps:List (Nat × Nat)) (i:Nat),bw ps (fw ps i) = i
  | [],_=>rfl
  | (a,b) :: r,i=>by simp only [fw,bw,bw_fw r,swp_swp]
theorem fw_bw:∀ (ps:List (Nat × Nat)) (i:Nat),fw ps (bw ps i) = i
  | [],_=>rfl
  | (a,b) :: r,i=>by simp only [fw,bw,swp_swp,fw_bw r]

def purEs:List Nat → List (Nat × AV) → List (Nat × AV)
  | [],e=>e
  | k :: ks,e=>purE k (purEs ks e)
def purHs:List Nat → List (Nat × AObj) → List (Nat × AObj)
  | [],e=>e
  | k :: ks,e=>purH k (purHs ks e)
theorem purEs_nil (e:List (Nat × AV)):purEs [] e = e:=rfl
theorem purEs_cons (k:Nat) (ks:List Nat) (e:List (Nat × AV)):purEs (k :: ks) e = purE k (purEs ks e):=rfl
theorem purHs_nil (e:List (Nat × AObj)):purHs [] e = e:=rfl
theorem purHs_cons (k:Nat) (ks:List Nat) (e:List (Nat × AObj)):purHs (k :: ks) e = purH k (purHs ks e):=rfl
attribute [go_sem] purEs_nil purEs_cons purHs_nil purHs_cons

theorem if_any (a b:Bool) (x:AV) (p:AV → Bool) (hp:p .any = false) (hx:p x = a):(if p (if b = true then .any else x) = true then AV.any else (if b = true then .any else x)) = if (a || b) = true then .any else x:=by
  cases b <;> cases a <;> simp_all
theorem purV_L (k:Nat) (ks:List Nat) (x:AV):purV k (purLV ks x) = purLV (k :: ks) x:=by
  have:=if_any (mV k x) (ks.any fun i=>mV i x) x (mV k) rfl rfl
  exact this
theorem purC_L (k:Nat) (ks:List Nat) (x:AV):purC k (purLC ks x) = purLC (k :: ks) x:=by
  have:=if_any (mC k x) (ks.any fun i=>mC i x) x (mC k) rfl rfl
  exact this
theorem purO_L (k:Nat) (ks:List Nat) (o:AObj):purO k (purLO ks o) = purLO (k :: ks) o:=by
  unfold purO purLO
  by_cases h:o.isRec = true
  · simp only [h,if_true,List.map_map]
    congr 1
    funext
    apply List.map_congr_left
    intro r _
    simp only [Function.comp,List.map_map]
    apply List.map_congr_left
    intro x _
    exact purC_L k ks x
    rw [if_pos h]
  · simp [h]
theorem get_purEs (k:Nat):∀ (ks:List Nat) (e:List (Nat × AV)),get (purEs ks e) k = purLV ks (get e k)
  | [],e=>by simp [purEs,purLV]
  | i :: ks,e=>by rw [purEs,get_purE,get_purEs k ks,purV_L]
theorem hget_purHs (k:Nat):∀ (ks:List Nat) (e:List (Nat × AObj)),hget (purHs ks e) k = (hget e k).map (purLO ks)
  | [],e=>by
    have:purLO [] = id:=by
      funext o
      unfold purLO purLC
      simp
    simp [purHs,this]
  | i :: ks,e=>by
    rw [purHs,hget_purH,hget_purHs k ks,Option.map_map]
    congr 1
    funext o
    exact purO_L i ks o
theorem hget_app (j:Nat):∀ (a b:List (Nat × AObj)),hget (a ++ b) j = match hget a j with
    | some o=>some o
    | none=>hget b j
  | [],b=>rfl
  | (k,o) :: r,b=>by
    simp only [List.cons_append,hget]
    split
    · rfl
    · exact hget_app j r b

section
variable {P:Program} [Tabs P]
theorem call_obj {f:FuncId} {args0 args:List AV} {σ0 σ2 σ1 σ3:List (Nat × AObj)} {Sb:Nat → Prop} {r1 r3:AV} {d:Option Nat} {s:St} {K:St → Prop}
    (h:ACalls P f args0 σ0 Sb (fun r σ'=>r = r1 ∧ σ' = σ1)) (ps:List (Nat × Nat)) (ks:List Nat)
    (ha:args.map (renV (bw ps)) = args0) (hσ:renH (bw ps) σ2 = σ0) (hr:renV (fw ps) r1 = r3) (h3:renH (fw ps) σ1 = σ3)
    (hin:∀ p ∈ σ2,hget s.heap p.1 = some p.2)
    (hout:∀ p ∈ σ3,(Sb (bw ps p.1) ∧ (hget σ2 p.1).isSome = true) ∨ (p.1 ∈ ks ∧ (p.1 < 1000 ∨ 2000 ≤ p.1) ∧ ((hget σ2 p.1).isSome = true ∨ hget s.heap p.1 = none)))
    (hall:∀ p ∈ σ2,(hget σ3 p.1).isSome = true)
    (hk:K ((St.mk (purEs ks s.env) (σ3 ++ purHs ks s.heap)).put d r3)):icall P f args d s K:=by
  have h':=h.ren (args2:=args) (σ2:=σ2) (fw ps) (bw ps) (bw_fw ps) (fw_bw ps) ha hσ
  refine .inl (.inr ⟨σ2,_,_,ks,h',fun id o hh=>hin (id,o) (mem_hget hh),?_,?_⟩)
  · rintro r σ' ⟨r0,σ4,⟨rfl,rfl⟩,rfl,rfl⟩ id hid
    rw [h3] at hid
    obtain ⟨o,ho⟩:=Option.isSome_iff_exists.1 hid
    exact hout (id,o) (mem_hget ho)
  · rintro r σ' ⟨r0,σ4,⟨rfl,rfl⟩,rfl,rfl⟩
    rw [hr,h3]
    refine ⟨⟨purEs ks s.env,σ3 ++ purHs ks s.heap⟩,fun k=>get_purEs k ks s.env,fun j=>?_,hk⟩
    simp only [hget_app,mrg]
    cases hn:hget σ3 j with
    | some o=>rfl
    | none =>
      simp only
      by_cases h2:(hget σ2 j).isSome = true
      · obtain ⟨o,ho⟩:=Option.isSome_iff_exists.1 h2
        have:=hall (j,o) (mem_hget ho)
        simp only at this
        rw [hn] at this
        cases this
      · rw [if_neg h2,hget_purHs]
theorem call_own {f:FuncId} {args:List AV} {σ0 σ1:List (Nat × AObj)} {Sb:Nat → Prop} {r1:AV} {d:Option Nat} {s:St} {K:St → Prop}
    (h:ACalls P f args σ0 Sb (fun r σ'=>r = r1 ∧ σ' = σ1)) (ks:List Nat)
    (hin:∀ p ∈ σ0,hget s.heap p.1 = some p.2)
    (hout:∀ p ∈ σ1,(Sb p.1 ∧ (hget σ0 p.1).isSome = true) ∨ (p.1 ∈ ks ∧ (p.1 < 1000 ∨ 2000 ≤ p.1) ∧ ((hget σ0 p.1).isSome = true ∨ hget s.heap p.1 = none)))
    (hall:∀ p ∈ σ0,(hget σ1 p.1).isSome = true)
    (hk:K ((St.mk (purEs ks s.env) (σ1 ++ purHs ks s.heap)).put d r1)):icall P f args d s K:=by
  refine .inl (.inr ⟨σ0,_,_,ks,h,fun id o hh=>hin (id,o) (mem_hget hh),?_,?_⟩)
  · rintro r σ' ⟨rfl,rfl⟩ id hid
    obtain ⟨o,ho⟩:=Option.isSome_iff_exists.1 hid
    exact hout (id,o) (mem_hget ho)
  · rintro r σ' ⟨rfl,rfl⟩
    refine ⟨⟨purEs ks s.env,σ' ++ purHs ks s.heap⟩,fun k=>get_purEs k ks s.env,fun j=>?_,hk⟩
    simp only [hget_app,mrg]
    cases hn:hget σ' j with
    | some o=>rfl
    | none =>
      simp only
      by_cases h2:(hget σ0 j).isSome = true
      · obtain ⟨o,ho⟩:=Option.isSome_iff_exists.1 h2
        have:=hall (j,o) (mem_hget ho)
        simp only at this
        rw [hn] at this
        cases this
      · rw [if_neg h2,hget_purHs]
theorem call_r {f:FuncId} {args:List AV} {k:Nat} {ob ob':AObj} {Sb:Nat → Prop} {r:AV} {d:Option Nat} {s:St} {K:St → Prop}
    (h:ACalls P f args [(k,ob)] Sb (fun r' σ'=>r' = r ∧ σ' = [(k,ob')])) (hs:Sb k) (hk:hget s.heap k = some ob) (hK:K ((St.mk s.env ((k,ob') :: s.heap)).put d r)):icall P f args d s K:=by
  refine call_own h [] (fun p hp=>?_) (fun p hp=>?_) (fun p hp=>?_) (by simpa only [purEs,purHs,List.cons_append,List.nil_append] using hK)
  · simp only [List.mem_singleton] at hp; subst hp; exact hk
  · simp only [List.mem_singleton] at hp; subst hp; exact .inl ⟨hs,by simp [hget]⟩
  · simp only [List.mem_singleton] at hp; subst hp; simp [hget]

theorem ren_noneP (ρ:Nat → Nat) (x:AV) (hx:idsP x = []):renP ρ x = x:=by cases x <;> first | rfl | (simp [idsP] at hx)
theorem ren_noneL {ρ:Nat → Nat} {f:AV → List Nat} {r:AV → AV} (hh:∀ x,f x = [] → r x = x):∀ l:List AV,l.flatMap f = [] → l.map r = l
  | [],_=>rfl
  | y :: l,hl=>by
    simp only [List.flatMap_cons,List.append_eq_nil_iff] at hl
    simp only [List.map_cons,hh y hl.1,ren_noneL (ρ:=ρ) hh l hl.2]
theorem ren_noneC (ρ:Nat → Nat) (x:AV) (hx:idsC x = []):renC ρ x = x:=by
  cases x with
  | fn f caps=>simp only [renC,ren_noneL (ρ:=ρ) (ren_noneP ρ) caps hx]
  | _=>first | rfl | (simp [idsC,idsP] at hx)
theorem ren_noneG (ρ:Nat → Nat) (x:AV) (hx:idsG x = []):renG ρ x = x:=by
  cases x with
  | agg cells=>simp only [renG,ren_noneL (ρ:=ρ) (ren_noneC ρ) cells hx]
  | fn f caps=>exact ren_noneC ρ (.fn f caps) hx
  | _=>first | rfl | (simp [idsG,idsC,idsP] at hx)
theorem ren_noneV (ρ:Nat → Nat) (x:AV) (hx:idsV x = []):renV ρ x = x:=by
  cases x with
  | tup vs=>simp only [renV,ren_noneL (ρ:=ρ) (ren_noneG ρ) vs hx]
  | agg cells=>exact ren_noneG ρ (.agg cells) hx
  | fn f caps=>exact ren_noneG ρ (.fn f caps) hx
  | _=>first | rfl | (simp [idsV,idsG,idsC,idsP] at hx)
theorem ren_noneO (ρ:Nat → Nat) (o:AObj) (hx:idsO o = []):renO ρ o = o:=by
  unfold renO
  split
  · rename_i hr
    have:∀ rows:List (List AV),rows.flatMap (fun r=>r.flatMap idsC) = [] → rows.map (fun r=>r.map (renC ρ)) = rows:=fun rows=>by
      induction rows with
      | nil=>exact fun _=>rfl
      | cons r l ih =>
        intro hl
        simp only [List.flatMap_cons,List.append_eq_nil_iff] at hl
        simp only [List.map_cons,ih hl.2,ren_noneL (ρ:=ρ) (ren_noneC ρ) r hl.1]
    simp only [idsO,hr,if_true] at hx
    rw [this _ hx]
  · rfl
theorem ren_noneVs (ρ:Nat → Nat):∀ l:List AV,(∀ x ∈ l,idsV x = []) → l.map (renV ρ) = l
  | [],_=>rfl
  | x :: l,h=>by simp only [List.map_cons,ren_noneV ρ x (h x (by simp)),ren_noneVs ρ l fun y hy=>h y (by simp [hy])]

theorem ACalls.at_ {f:FuncId} {st:Nat} {rest:List AV} {ob ob':AObj} {Sb:Nat → Prop} {r:AV} (h:ACalls P f (.mp 1000 st 0 0 :: rest) [(1000,ob)] Sb (fun r' σ'=>r' = r ∧ σ' = [(1000,ob')]))
    (hr:idsV r = []) (hrest:∀ x ∈ rest,idsV x = []) (ho:idsO ob = []) (ho':idsO ob' = []) (j:Nat) :
    ACalls P f (.mp j st 0 0 :: rest) [(j,ob)] (fun id=>Sb (swp 1000 j id)) (fun r' σ'=>r' = r ∧ σ' = [(j,ob')]):=by
  have e1:swp 1000 j 1000 = j:=by simp [swp]
  have e2:swp 1000 j j = 1000:=by unfold swp; split <;> simp_all
  refine (h.ren (args2:=.mp j st 0 0 :: rest) (σ2:=[(j,ob)]) (swp 1000 j) (swp 1000 j) (swp_swp _ _) (swp_swp _ _) ?_ ?_).mono (fun _ h=>h) ?_
  · simp only [List.map_cons,ren_noneVs _ rest hrest,renV,renG,renC,renP,e2]
  · simp only [renH,e2,ren_noneO _ ob ho]
  · rintro r' σ' ⟨r0,σ0,⟨rfl,rfl⟩,rfl,rfl⟩
    exact ⟨ren_noneV _ _ hr,by simp only [renH,e1,ren_noneO _ ob' ho']⟩
theorem Sb_at {Sb:Nat → Prop} (j:Nat) (h:Sb 1000):(fun id=>Sb (swp 1000 j id)) j:=by
  show Sb (swp 1000 j j)
  have e2:swp 1000 j j = 1000:=by unfold swp; split <;> simp_all
  rw [e2]; exact h
theorem call_m {f:FuncId} {st:Nat} {rest:List AV} {ob ob':AObj} {Sb:Nat → Prop} {r:AV} {j:Nat} {d:Option Nat} {s:St} {K:St → Prop} (h:ACalls P f (.mp 1000 st 0 0 :: rest) [(1000,ob)] Sb (fun r' σ'=>r' = r ∧ σ' = [(1000,ob')]))
    (hs:Sb 1000) (hr:idsV r = []) (hrest:∀ x ∈ rest,idsV x = []) (ho:idsO ob = []) (ho':idsO ob' = []) (hk:hget s.heap j = some ob) (hK:K ((St.mk s.env ((j,ob') :: s.heap)).put d r)):icall P f (.mp j st 0 0 :: rest) d s K :=
  call_r (h.at_ hr hrest ho ho' j) (Sb_at j hs) hk hK
end
end Go.Mw
set_option linter.unusedSectionVars false
set_option linter.unusedVariables false
set_option linter.unusedSimpArgs false
namespace Go.Mw

theorem Wk.new0 (s:St) (i st:Nat) (t:TypeId) (hid:i < 1000 ∨ 2000 ≤ i):Wk s ⟨(s.kill i).env,(i,⟨t,st,[],false⟩) :: (s.kill i).heap⟩:=by
  intro c a w hs
  obtain ⟨bl,hs⟩:=hs.kill i
  obtain ⟨h1,h2⟩:=kill_unnamed s i
  have hn:=hs.new0 (i:=i) (o:=⟨t,st,[],false⟩) h1 h2 hid rfl rfl
  refine ⟨_,hn.congr (fun _=>rfl) (fun j=>?_)⟩
  simp only [hget,upd]
  by_cases h:i = j
  · rw [if_pos h,if_pos h.symm]
  · rw [if_neg h,if_neg (Ne.symm h)]

def nlm:List AV → List AV → Prop
  | [],[]=>True
  | x :: l,y :: m=>(x = y ∨ (x = .nl ∧ ((∃ st,y = .sl st []) ∨ ∃ id st,y = .ms id st 0 0))) ∧ nlm l m
  | _,_=>False
theorem nlm_len:∀ {l m:List AV},nlm l m → m.length = l.length
  | [],[],_=>rfl
  | _ :: _,_ :: _,h=>by simp [nlm_len h.2]
  | [],_ :: _,h=>h.elim
  | _ :: _,[],h=>h.elim
theorem nlm_get:∀ {l m:List AV},nlm l m → ∀ {j:Nat} {y:AV},m[j]? = some y → ∃ x,l[j]? = some x ∧ (x = y ∨ (x = .nl ∧ ((∃ st,y = .sl st []) ∨ ∃ id st,y = .ms id st 0 0)))
  | [],[],_,j,y,hy=>by simp at hy
  | x :: l,z :: m,h,0,y,hy=>by simp at hy; subst hy; exact ⟨x,rfl,h.1⟩
  | x :: l,z :: m,h,j + 1,y,hy=>by simpa using nlm_get h.2 (j:=j) (by simpa using hy)
  | [],_ :: _,h,_,_,_=>h.elim
  | _ :: _,[],h,_,_,_=>h.elim
theorem Wk.nlm (s:St) (i:Nat) {t:TypeId} {st:Nat} {r r':List AV} (hi:hget s.heap i = some ⟨t,st,[r],true⟩) (hr:Mw.nlm r r'):Wk s ⟨s.env,(i,⟨t,st,[r'],true⟩) :: s.heap⟩:=by
  rintro c a w ⟨bl,hs⟩
  have hm:∀ b,Mut bl c.MF (hget ((i,⟨t,st,[r'],true⟩) :: s.heap)) b ↔ Mut bl c.MF (hget s.heap) b:=Mut.congr fun j=>by
    simp only [hget]
    split
    · rename_i h; subst h; rw [hi]; rfl
    · rfl
  have ht:=Tr.of_iff (w:=w) fun b=>(hm b)
  refine ⟨bl,hs.defers,hs.size,fun j=>(hs.env j).tr ht (fun _ _=>rfl),⟨fun j o hj=>?_,fun j j' o o' b h1 h2=>?_⟩,hs.step,fun j o b h1=>?_,hs.stab,hs.mf⟩
  · simp only [hget] at hj
    split at hj
    · rename_i hij
      subst hij
      cases hj
      rcases hs.heap.1 i _ hi with hn | ⟨b,g1,⟨gk,c1,fr,g2,g3,g4,g5,g6,g7⟩ | hsp⟩
      · cases hn.2.1
      rotate_left
      · cases hsp.isRec
      · refine .inr ⟨b,g1,.inl ⟨gk,c1,fr,g2,g3,g4,fun k q hq=>?_,by simpa using g6,fun k q u x hu hx=>?_⟩⟩
        · cases k with
          | zero=>simp at hq; subst hq; rw [nlm_len hr]; exact g5 0 r rfl
          | succ k=>simp at hq
        · cases k with
          | succ k=>simp at hu
          | zero =>
            simp at hu
            subst hu
            obtain ⟨x0,h1,h2⟩:=nlm_get hr hx
            obtain ⟨v,hv1,hv2⟩:=g7 0 q r x0 rfl h1
            refine ⟨v,hv1,?_⟩
            have hv3:CRel bl (Mut bl c.MF (hget s.heap)) w v x0:=hv2
            rcases h2 with h2 | ⟨h2,⟨st',h3⟩ | ⟨id,st',h3⟩⟩
            · subst h2; exact hv3.tr ht (fun _ _=>rfl)
            · subst h2 h3
              have:IRel (Mut bl c.MF (hget s.heap)) w v .nl:=hv3
              exact (IRel.toC (bl:=bl) (IRel.nl_sl this st')).tr ht (fun _ _=>rfl)
            · subst h2 h3
              have:IRel (Mut bl c.MF (hget s.heap)) w v .nl:=hv3
              cases this
              exact .inl ⟨rfl,rfl,rfl⟩
    · rcases hs.heap.1 j o hj with hn | ⟨b,g1,⟨gk,c1,fr,g2,g3,g4,g5,g6,g7⟩ | hsp⟩
      · exact .inl hn
      rotate_left
      · exact .inr ⟨b,g1,.inr hsp⟩
      · refine .inr ⟨b,g1,.inl ⟨gk,c1,fr,g2,g3,g4,g5,g6,fun k q u x hu hx=>?_⟩⟩
        obtain ⟨v,hv1,hv2⟩:=g7 k q u x hu hx
        refine ⟨v,hv1,?_⟩
        cases hrec:o.isRec <;> simp only [hrec,ORel] at hv2 ⊢
        · exact hv2.tr ht.keep
        · exact hv2.tr ht (fun _ _=>rfl)
  · have key:∀ {j:Nat} {o:AObj},hget ((i,⟨t,st,[r'],true⟩) :: s.heap) j = some o → ∃ o',hget s.heap j = some o':=fun {j o} hj=>by
      simp only [hget] at hj
      split at hj
      · rename_i hij; subst hij; exact ⟨_,hi⟩
      · exact ⟨_,hj⟩
    obtain ⟨p1,q1⟩:=key h1
    obtain ⟨p2,q2⟩:=key h2
    exact hs.heap.2 j j' p1 p2 b q1 q2
  · simp only [hget] at h1
    split at h1
    · rename_i hij; subst hij; exact hs.own i _ b hi
    · exact hs.own j o b h1

section
variable {P:Program} [Tabs P]
end
end Go.Mw
set_option linter.unusedSectionVars false
set_option linter.unusedVariables false
set_option linter.unusedSimpArgs false
namespace Go.Mw

theorem WkA.refl (s:St) (l:List AV):WkA s l s l:=fun c a w bl vs h1 h2=>⟨bl,h1,h2⟩
theorem WkA.trans {s s' s'':St} {l l' l'':List AV} (h:WkA s l s' l') (h':WkA s' l' s'' l''):WkA s l s'' l'':=fun c a w bl vs h1 h2=>by
  obtain ⟨bl',h3,h4⟩:=h c a w bl vs h1 h2
  exact h' c a w bl' vs h3 h4
theorem WkA.frzs (fs:List Nat) (s:St) (l:List AV):WkA s l (Mw.frzs fs s) (l.map (frzVs fs s)):=fun c a w bl vs h1 h2=>by
  obtain ⟨h3,h4⟩:=SatB.frzs fs s h1
  exact ⟨bl,h3,h2.mapRight fun v x hv=>h4 v x hv⟩
def nla (x y:AV):Prop:=x = y ∨ (x = .nl ∧ ∃ st,y = .sl st []) ∨ ∃ l m,x = .agg l ∧ y = .agg m ∧ nlr l m
theorem nla.refl (x:AV):nla x x:=.inl rfl
theorem nlr_rel {bl:Nat → Option Nat} {M:Nat → Prop} {w:World}:∀ {vs:List Value} {l m:List AV},nlr l m → All2 (CRel bl M w) vs l → All2 (CRel bl M w) vs m
  | [],[],[],_,_=>trivial
  | v :: vs,x :: l,y :: m,h,hr=>by
    refine ⟨?_,nlr_rel h.2 hr.2⟩
    rcases h.1 with rfl | ⟨rfl,st,rfl⟩
    · exact hr.1
    · exact IRel.nl_sl (show IRel M w v .nl from hr.1) st
  | [],[],_ :: _,h,_=>h.elim
  | [],_ :: _,_,_,hr=>hr.elim
  | _ :: _,[],_,_,hr=>hr.elim
  | _ :: _,_ :: _,[],h,_=>h.elim
theorem nla_rel {bl:Nat → Option Nat} {M:Nat → Prop} {w:World} {v:Value} {x y:AV} (h:nla x y) (hr:VRel bl M w v x):VRel bl M w v y:=by
  rcases h with rfl | ⟨rfl,st,rfl⟩ | ⟨l,m,rfl,rfl,h⟩
  · exact hr
  · exact IRel.nl_sl (show IRel M w v .nl from hr) st
  · obtain ⟨cs,h1,h2⟩:=hr
    exact ⟨cs,h1,nlr_rel h h2⟩
theorem nlas_rel {bl:Nat → Option Nat} {M:Nat → Prop} {w:World}:∀ {vs:List Value} {l m:List AV},All2 nla l m → All2 (VRel bl M w) vs l → All2 (VRel bl M w) vs m
  | [],[],[],_,_=>trivial
  | v :: vs,x :: l,y :: m,h,hr=>⟨nla_rel h.1 hr.1,nlas_rel h.2 hr.2⟩
  | [],[],_ :: _,h,_=>h.elim
  | [],_ :: _,_,_,hr=>hr.elim
  | _ :: _,[],_,_,hr=>hr.elim
  | _ :: _,_ :: _,[],h,_=>h.elim
theorem WkA.nla {s:St} {l m:List AV} (h:All2 Mw.nla l m):WkA s l s m:=fun c a w bl vs h1 h2=>⟨bl,h1,nlas_rel h h2⟩
section
variable {P:Program} [Tabs P]
end
end Go.Mw
set_option linter.unusedSectionVars false
set_option linter.unusedVariables false
set_option linter.unusedSimpArgs false
namespace Go.Mw
theorem beq_f {x y:Int} (h:¬ x = y):(x == y) = false:=by simpa using h
theorem beq_t {x y:Int} (h:x = y):(x == y) = true:=by simpa using h
theorem bne_t {x y:Int} (h:¬ x = y):(x != y) = true:=by simpa using h
theorem bne_f {x y:Int} (h:x = y):(x != y) = false:=by simpa using h
end Go.Mw
set_option linter.unusedSectionVars false
set_option linter.unusedVariables false
set_option linter.unusedSimpArgs false
namespace Go.Mw
theorem SatB.nlm {c:Ctx} {bl:Nat → Option Nat} {a:Act} {w:World} {s:St} (hs:SatB c bl (get s.env) (hget s.heap) a w) (i:Nat) {t:TypeId} {st:Nat} {r r':List AV} (hi:hget s.heap i = some ⟨t,st,[r],true⟩) (hr:Mw.nlm r r') :
    SatB c bl (get s.env) (hget ((i,⟨t,st,[r'],true⟩) :: s.heap)) a w ∧ ∀ b,Mut bl c.MF (hget ((i,⟨t,st,[r'],true⟩) :: s.heap)) b ↔ Mut bl c.MF (hget s.heap) b:=by
  have hm:∀ b,Mut bl c.MF (hget ((i,⟨t,st,[r'],true⟩) :: s.heap)) b ↔ Mut bl c.MF (hget s.heap) b:=Mut.congr fun j=>by
    simp only [hget]
    split
    · rename_i h; subst h; rw [hi]; rfl
    · rfl
  have ht:=Tr.of_iff (w:=w) fun b=>(hm b)
  refine ⟨⟨hs.defers,hs.size,fun j=>(hs.env j).tr ht (fun _ _=>rfl),⟨fun j o hj=>?_,fun j j' o o' b h1 h2=>?_⟩,hs.step,fun j o b h1=>?_,hs.stab,hs.mf⟩,hm⟩
  · simp only [hget] at hj
    split at hj
    · rename_i hij
      subst hij
      cases hj
      rcases hs.heap.1 i _ hi with hn | ⟨b,g1,⟨gk,c1,fr,g2,g3,g4,g5,g6,g7⟩ | hsp⟩
      · cases hn.2.1
      rotate_left
      · cases hsp.isRec
      · refine .inr ⟨b,g1,.inl ⟨gk,c1,fr,g2,g3,g4,fun k q hq=>?_,by simpa using g6,fun k q u x hu hx=>?_⟩⟩
        · cases k with
          | zero=>simp at hq; subst hq; rw [nlm_len hr]; exact g5 0 r rfl
          | succ k=>simp at hq
        · cases k with
          | succ k=>simp at hu
          | zero =>
            simp at hu
            subst hu
            obtain ⟨x0,h1,h2⟩:=nlm_get hr hx
            obtain ⟨v,hv1,hv2⟩:=g7 0 q r x0 rfl h1
            refine ⟨v,hv1,?_⟩
            have hv3:CRel bl (Mut bl c.MF (hget s.heap)) w v x0:=hv2
            rcases h2 with h2 | ⟨h2,⟨st',h3⟩ | ⟨id,st',h3⟩⟩
            · subst h2; exact hv3.tr ht (fun _ _=>rfl)
            · subst h2 h3
              have:IRel (Mut bl c.MF (hget s.heap)) w v .nl:=hv3
              exact (IRel.toC (bl:=bl) (IRel.nl_sl this st')).tr ht (fun _ _=>rfl)
            · subst h2 h3
              have:IRel (Mut bl c.MF (hget s.heap)) w v .nl:=hv3
              cases this
              exact .inl ⟨rfl,rfl,rfl⟩
    · rcases hs.heap.1 j o hj with hn | ⟨b,g1,⟨gk,c1,fr,g2,g3,g4,g5,g6,g7⟩ | hsp⟩
      · exact .inl hn
      rotate_left
      · exact .inr ⟨b,g1,.inr hsp⟩
      · refine .inr ⟨b,g1,.inl ⟨gk,c1,fr,g2,g3,g4,g5,g6,fun k q u x hu hx=>?_⟩⟩
        obtain ⟨v,hv1,hv2⟩:=g7 k q u x hu hx
        refine ⟨v,hv1,?_⟩
        cases hrec:o.isRec <;> simp only [hrec,ORel] at hv2 ⊢
        · exact hv2.tr ht.keep
        · exact hv2.tr ht (fun _ _=>rfl)
  · have key:∀ {j:Nat} {o:AObj},hget ((i,⟨t,st,[r'],true⟩) :: s.heap) j = some o → ∃ o',hget s.heap j = some o':=fun {j o} hj=>by
      simp only [hget] at hj
      split at hj
      · rename_i hij; subst hij; exact ⟨_,hi⟩
      · exact ⟨_,hj⟩
    obtain ⟨p1,q1⟩:=key h1
    obtain ⟨p2,q2⟩:=key h2
    exact hs.heap.2 j j' p1 p2 b q1 q2
  · simp only [hget] at h1
    split at h1
    · rename_i hij; subst hij; exact hs.own i _ b hi
    · exact hs.own j o b h1


theorem VRels.tr {bl bl':Nat → Option Nat} {M M':Nat → Prop} {w:World} (ht:Tr M M' w w):∀ {vs:List Value} {l:List AV},All2 (VRel bl M w) vs l → (∀ x ∈ l,∀ id,mV id x = true → bl' id = bl id) → All2 (VRel bl' M' w) vs l
  | [],[],_,_=>trivial
  | _ :: _,_ :: _,h,hb=>⟨h.1.tr ht (hb _ (by simp)),VRels.tr ht h.2 fun x hx=>hb x (by simp [hx])⟩
  | [],_ :: _,h,_=>h.elim
  | _ :: _,[],h,_=>h.elim
theorem WkA.nlm (s:St) (l:List AV) (i:Nat) {t:TypeId} {st:Nat} {r r':List AV} (hi:hget s.heap i = some ⟨t,st,[r],true⟩) (hr:Mw.nlm r r'):WkA s l ⟨s.env,(i,⟨t,st,[r'],true⟩) :: s.heap⟩ l:=fun c a w bl vs h1 h2=>by
  obtain ⟨h3,hm⟩:=h1.nlm i hi hr
  exact ⟨bl,h3,VRels.tr (Tr.of_iff hm) h2 fun _ _ _ _=>rfl⟩
theorem WkA.new0 (s:St) (l:List AV) (i st:Nat) (t:TypeId) (hid:i < 1000 ∨ 2000 ≤ i) (hl:∀ x ∈ l,i ∉ idsV x):WkA s l ⟨(s.kill i).env,(i,⟨t,st,[],false⟩) :: (s.kill i).heap⟩ l:=fun c a w bl vs hs h2=>by
  have hk:=hs.kill i
  have hu:=unnamed_purge i (get s.env) (hget s.heap)
  have hn:=hk.new0 (i:=i) (o:=⟨t,st,[],false⟩) (by simp) hu hid rfl rfl
  have e1:∀ k,get (s.kill i).env k = purV i (get s.env k):=fun k=>by simp only [St.kill,get_purE]
  have e2:∀ j,hget ((i,⟨t,st,[],false⟩) :: (s.kill i).heap) j = upd (fun j=>if j = i then none else (hget s.heap j).map (purO i)) i (some ⟨t,st,[],false⟩) j:=fun j=>by
    simp only [hget,upd,St.kill,hget_purH,hget_hdel]
    by_cases h:i = j
    · subst h; simp
    · have h':¬ j = i:=fun e=>h e.symm
      simp [h,h']
  refine ⟨upd bl i none,hn.congr e1 e2,?_⟩
  have hM:∀ b,Mut (upd bl i none) c.MF (hget ((i,⟨t,st,[],false⟩) :: (s.kill i).heap)) b → Mut bl c.MF (hget s.heap) b:=fun b hb=>by
    rcases hb with hb | ⟨j,o,h3,h4⟩
    · exact .inl hb
    · rw [e2] at h3
      by_cases hj:j = i
      · subst hj; simp [upd] at h4
      · rw [upd_ne _ _ hj] at h4
        rw [upd_ne _ _ hj] at h3
        simp only [hj,if_false,Option.map_eq_some_iff] at h3
        obtain ⟨o',h5,_⟩:=h3
        exact .inr ⟨j,o',h5,h4⟩
  have ht:Tr (Mut bl c.MF (hget s.heap)) (Mut (upd bl i none) c.MF (hget ((i,⟨t,st,[],false⟩) :: (s.kill i).heap))) w w:=⟨fun b hb _=>⟨fun h=>hb (hM b h),rfl⟩,fun b cc t fr h=>⟨cc,fr,h,rfl⟩⟩
  exact VRels.tr ht h2 fun x hx id hid=>upd_ne _ _ fun e=>hl x hx (by rw [← e]; exact mV_ids hid)
attribute [go_sem] Nat.zero_add decide_eq_true_eq decide_eq_false_iff_not beq_self_eq_true Nat.lt_add_one Nat.reduceEqDiff Nat.reduceLT reduceCtorEq Nat.reduceAdd Nat.reduceLeDiff Nat.reduceBEq Nat.reduceBNe Int.reduceNeg Int.reduceToNat Int.reduceBEq Int.reduceBNe bne_self_eq_false Bool.false_eq_true
attribute [go_sem ↓] reduceIte
def sb (id:Nat):Prop:=1000 ≤ id ∧ id < 2000
def inI (n:Int):Prop:=-9223372036854775808 ≤ n ∧ n < 9223372036854775808
end Go.Mw
set_option linter.unusedSectionVars false
set_option linter.unusedVariables false
set_option linter.unusedSimpArgs false
namespace Go.Mw
open Go.RowKit

abbrev No:Nat → Prop:=fun _=>False
def KpM (T:Nat → Prop) (N:Nat) (W W':World):Prop:=W.heap.size ≤ W'.heap.size ∧ (∀ (b:Nat) (c:Array Value) (t:TypeId) (fr:Nat × Nat),N ≤ b → W.heap[b]? = some (.cells c t fr) → W'.heap[b]? = some (.cells c t fr)) ∧ ∀ b,T b → W'.heap[b]? = W.heap[b]?
section
variable {T:Nat → Prop}
theorem KpM.refl (N:Nat) (W:World):KpM T N W W:=⟨Nat.le_refl _,fun _ _ _ _ _ h=>h,fun _ _=>rfl⟩
theorem KpM.trans {N:Nat} {A B C:World} (h:KpM T N A B) (k:KpM T N B C):KpM T N A C:=⟨Nat.le_trans h.1 k.1,fun b c t fr hb hc=>k.2.1 b c t fr hb (h.2.1 b c t fr hb hc),fun b hb=>(k.2.2 b hb).trans (h.2.2 b hb)⟩
theorem KpM.mono {N N':Nat} {A B:World} (h:KpM T N A B) (hn:N ≤ N'):KpM T N' A B:=⟨h.1,fun b c t fr hb=>h.2.1 b c t fr (Nat.le_trans hn hb),h.2.2⟩
theorem KpM.putObj (N:Nat) (W:World) (l:Nat) (o o':Obj) (hl:W.heap[l]? = some o) (ho:o.isCells = false) (hT:∀ b,T b → b < l):KpM T N W (W.putObj l o'):=by
  have hlt:=(Array.getElem?_eq_some_iff.1 hl).1
  refine ⟨(grownBy_putObj' W l o').size,fun b c t fr _ hb=>?_,fun b hb=>World.putObj_heap_other (by have:=hT b hb; omega)⟩
  by_cases e:b = l
  · subst e
    rw [hl] at hb
    cases hb
    simp [Obj.isCells] at ho
  · rw [World.putObj_heap_other (by omega)]; exact hb
end
theorem Stp.ofAlloc (w:World) (o:Obj):Stp No w (w.alloc o) where
  size:=by simp
  keep b hb _:=by rw [World.alloc]; simp [Array.getElem?_push,Nat.ne_of_lt hb]
  shape b c t fr hb:=⟨c,fr,by
    have hlt:=lt_of_heap hb
    rw [World.alloc]; simp [Array.getElem?_push,Nat.ne_of_lt hlt,hb],rfl⟩
  os:=rfl
  out:=rfl
theorem Stp.one {A B C:World} (h:Stp No A B) (k:Stp No B C):Stp No A C:=h.trans k fun _ _ h=>h.elim

def SeqM {α:Type} (n:Nat) (P:Program) [Tabs P] (g:Nat) (lb:Array Value) (encs:α → Array Value) (E:List α) (w:World):Prop :=
  ∀ (l:Nat) (J Jx:List α → World → Prop) (W:World),(Tabs.T P).H W → Stp No w W → (∀ s A B,J s A → Stp No A B → J s B) → (∀ s A B,Jx s A → Stp No A B → Jx s B) →
    (∀ pre x W1,J pre W1 → pre ++ [x] <+: E → YieldAt Fence.wide (n - 1) P l (encs x) W1 fun e W' =>
      (e = .returned (.bool true) ∧ J (pre ++ [x]) W' ∧ KpM (Tabs.T P).B W.heap.size W1 W') ∨ (e = .returned (.bool false) ∧ Jx (pre ++ [x]) W')) →
    J [] W →
    CallsIn Fence.wide n P g (#[.func (.yield l) #[] #[]] ++ lb) W fun e W'=>(∃ v,e = .returned v) ∧ (J E W' ∨ (∃ pre,pre <+: E ∧ Jx pre W'))

variable {n:Nat} {P:Program} [Tabs P]
theorem wpIn_rngM {α:Type} {g:Operand} {ps:Array Tmp} {assign body:Code} {Q:Exit → Act → World → Prop} {a:Act} {w:World}
    (h1:1 ≤ n) (hH:(Tabs.T P).H w) {gf:Nat} {lb:Array Value} (hg:a.eval g = .func (.func gf) #[] lb) (eg:∀ args w,(callFunc gf args).run P w = .ok (.enter gf args) w)
    {encs:α → Array Value} {E:List α} {w0:World} (hseq:SeqM (n - 1) P gf lb encs E w0) (hb0:Stp No w0 w) (hps:∀ x,(encs x).size = ps.size)
    (I:List α → World → Prop) (Ix:Code → List α → World → Prop) (hI:∀ s A B,I s A → Stp No A B → I s B) (hIx:∀ c s A B,Ix c s A → Stp No A B → Ix c s B)
    (hIp:∀ s W l o o',I s W → w.heap.size ≤ l → W.heap[l]? = some o → o.isCells = false → I s (W.putObj l o')) (hIxp:∀ c s W l o o',Ix c s W → w.heap.size ≤ l → W.heap[l]? = some o → o.isCells = false → Ix c s (W.putObj l o'))
    (h0:I [] w) (a₁:α → Act)
    (hassign:∀ (l:Nat) (x:α) (W:World) (K:Act → World → Prop),K (a₁ x) W →
      assign.wpIn (Fence.wide.inRound l) (n - 1 - 1) P (Exit.then K (fun _ _ _=>False)) { tmps:=(ps.zip (encs x)).foldl (fun t (p,v)=>t.setIfInBounds p v) a.tmps,defers:=[] } W)
    (hbody:∀ (l:Nat) (pre:List α) (x:α) (W:World),I pre W → pre ++ [x] <+: E → body.wpIn (Fence.wide.inRound l) (n - 1 - 1) P (ownPostK (KpM (Tabs.T P).B w.heap.size) I Ix (pre ++ [x]) W) (a₁ x) W)
    (hdone:∀ (D:Nat) (W:World),w.heap.size ≤ D → I E W → W.heap[D]? = some (.deferred (some [])) → Q .normal { a with defers:={ target:=.collected D,args:=#[] } :: a.defers } W)
    (hstop:∀ (D:Nat) (c:Code) (pre:List α) (W:World),w.heap.size ≤ D → pre <+: E → Ix c pre W → W.heap[D]? = some (.deferred (some [])) → c.wpIn Fence.wide n P Q { a with defers:={ target:=.collected D,args:=#[] } :: a.defers } W) :
    (Code.rangeFunc g ps assign body).wpIn Fence.wide n P Q a w:=by
  refine wpIn_rangeFunc ?_
  intro fn hfn
  rw [show Fence.wide.round = none from rfl]
  obtain ⟨rec,hrec⟩:∃ rec:LoopState → Option Code → Loop,rec = fun st pe=>{ state:=st,pending:=pe,fn,tmps:=a.tmps,params:=ps,assign,body,defers:=w.heap.size }:=⟨_,rfl⟩
  obtain ⟨W1,hW1⟩:∃ W1,(w.alloc (.deferred (some []))).alloc (.loop (rec .ready none)) = W1:=⟨_,rfl⟩
  have hL1:W1.heap[w.heap.size + 1]? = some (.loop (rec .ready none)):=by
    rw [← hW1]; have:=World.alloc_heap_new (w.alloc (.deferred (some []))) (.loop (rec .ready none)); rwa [World.size_alloc] at this
  have hK1:W1.heap[w.heap.size]? = some (.deferred (some [])):=by
    rw [← hW1]; exact (Below.heap_alloc _ _ _ (by simp)).trans (World.alloc_heap_new w _)
  have hs1:Stp No w W1:=by rw [← hW1]; exact (Stp.ofAlloc _ _).one (Stp.ofAlloc _ _)
  have hlow:∀ b,(Tabs.T P).B b → b < w.heap.size + 1:=fun b hb=>Nat.lt_succ_of_lt ((Tabs.T P).low _ hH b hb)
  have hz1:W1.heap.size = w.heap.size + 2:=by rw [← hW1]; simp
  refine ⟨w.heap.size + 1,[{ target:=.collected w.heap.size,args:=#[] }],W1,{ target:=.fn (.func gf) lb,args:=#[.func (.yield (w.heap.size + 1)) #[] #[]] },W1,gf,
    #[.func (.yield (w.heap.size + 1)) #[] #[]] ++ lb,W1,?_,?_,?_,?_,fun _=>h1,?_⟩
  · rw [← hW1,hrec]; exact run_enterLoop_outer _ _ _ _ _
  · simp only [resolve,hg]
    simp [go_sem]
  · intro f' hf'; trivial
  · simp [invoke,go_sem,eg]
  · have kp:∀ {l:Nat} {o:Obj} {A B:World},Stp No A B → A.heap[l]? = some o → B.heap[l]? = some o:=fun {l o A B} hs h=>by
      rw [hs.keep l (Array.getElem?_eq_some_iff.1 h).1 (fun h=>h)]; exact h
    refine (hseq (w.heap.size + 1)
      (fun pre W=>I pre W ∧ W.heap[w.heap.size + 1]? = some (.loop (rec .ready none)) ∧ W.heap[w.heap.size]? = some (.deferred (some [])))
      (fun pre W=>∃ c,Ix c pre W ∧ W.heap[w.heap.size + 1]? = some (.loop (rec .done (some c))) ∧ W.heap[w.heap.size]? = some (.deferred (some [])))
      W1 ((Tabs.T P).stay _ _ hH fun b hb=>hs1.keep b ((Tabs.T P).low _ hH b hb) (fun h=>h)) (hb0.one hs1)
      (fun s A B hs hg'=>⟨hI s A B hs.1 hg',kp hg' hs.2.1,kp hg' hs.2.2⟩)
      (fun s A B hs hg'=>by
        obtain ⟨c,hc,hl,hk⟩:=hs
        exact ⟨c,hIx c s A B hc hg',kp hg' hl,kp hg' hk⟩)
      ?_ ⟨hI _ _ _ h0 hs1,hL1,hK1⟩).mono ?_
    · -- ONE ROUND
      rintro pre x W ⟨hi,hl,hk⟩ hlen
      have hlt:w.heap.size + 1 < W.heap.size:=(Array.getElem?_eq_some_iff.1 hl).1
      have hy:=run_yield (P:=P) (args:=encs x) hl (by rw [hrec]; exact hps x)
      rw [hrec] at hy
      refine ⟨fn,_,assign,body,hy,roundIn_of_wpIn hfn (hassign _ x W _ ⟨_,run_beginRound hl (by rw [hrec]),?_⟩)⟩
      have hl2:(W.putObj (w.heap.size + 1) (.loop { rec .ready none with state:=.busy })).heap[w.heap.size + 1]? = some (.loop { rec .ready none with state:=.busy }):=World.putObj_heap_same hlt
      have hk2:(W.putObj (w.heap.size + 1) (.loop { rec .ready none with state:=.busy })).heap[w.heap.size]? = some (.deferred (some [])):=(World.putObj_heap_other (by omega)).trans hk
      have hw2:KpM (Tabs.T P).B w.heap.size W (W.putObj (w.heap.size + 1) (.loop { rec .ready none with state:=.busy })):=KpM.putObj _ _ _ _ _ hl rfl hlow
      refine wpIn_mono (hbody _ pre x _ (hIp _ _ _ _ _ hi (by omega) hl rfl) hlen) ?_
      have fin:∀ (jump:Option Code) (W3:World),KeepsOthers (W.putObj (w.heap.size + 1) (.loop { rec .ready none with state:=.busy })) W3 →
          (Instr.endRound (w.heap.size + 1) jump).run P W3 = .ok (.bool jump.isNone) (W3.putObj (w.heap.size + 1) (.loop (rec (if jump.isNone then .ready else .done) jump))) ∧
          W3.heap[w.heap.size + 1]? = some (.loop { rec .ready none with state:=.busy }) ∧
          (W3.putObj (w.heap.size + 1) (.loop (rec (if jump.isNone then .ready else .done) jump))).heap[w.heap.size + 1]? = some (.loop (rec (if jump.isNone then .ready else .done) jump)) ∧
          (W3.putObj (w.heap.size + 1) (.loop (rec (if jump.isNone then .ready else .done) jump))).heap[w.heap.size]? = some (.deferred (some [])):=fun jump W3 hk3=>by
        have hl3:=hk3.same _ _ hl2 rfl
        have:=run_endRound (P:=P) jump hl3
        rw [hrec] at this ⊢
        exact ⟨this,by rw [hrec] at hl3; exact hl3,World.putObj_heap_same (Array.getElem?_eq_some_iff.1 hl3).1,(World.putObj_heap_other (by omega)).trans (hk3.same _ _ hk2 rfl)⟩
      rintro e a3 W3 hp
      cases e with
      | normal =>
        obtain ⟨hk3,hkp3,hi3⟩:=hp
        obtain ⟨hr,hl3,hl4,hk4⟩:=fin none W3 hk3
        exact ⟨_,_,hr,.inl ⟨rfl,⟨hIp _ _ _ _ _ hi3 (by omega) hl3 rfl,hl4,hk4⟩,((hw2.trans hkp3).trans (KpM.putObj _ _ _ _ _ hl3 rfl hlow)).mono (by omega)⟩⟩
      | ret =>
        obtain ⟨hk3,hi3⟩:=hp
        obtain ⟨hr,hl3,hl4,hk4⟩:=fin (some .ret) W3 hk3
        exact ⟨_,_,hr,.inr ⟨rfl,.ret,hIxp _ _ _ _ _ _ hi3 (by omega) hl3 rfl,hl4,hk4⟩⟩
      | exit id =>
        obtain ⟨hk3,hi3⟩:=hp
        obtain ⟨hr,hl3,hl4,hk4⟩:=fin (some (.exit id)) W3 hk3
        exact ⟨_,_,hr,.inr ⟨rfl,.exit id,hIxp _ _ _ _ _ _ hi3 (by omega) hl3 rfl,hl4,hk4⟩⟩
      | goto t =>
        obtain ⟨hk3,hi3⟩:=hp
        obtain ⟨hr,hl3,hl4,hk4⟩:=fin (some (.goto t)) W3 hk3
        exact ⟨_,_,hr,.inr ⟨rfl,.goto t,hIxp _ _ _ _ _ _ hi3 (by omega) hl3 rfl,hl4,hk4⟩⟩
      | panic ch=>exact hp.elim
      | outgrown=>exact hp.elim
    · -- BEHIND THE ITERATOR
      rintro e W2 ⟨⟨v,rfl⟩,(⟨hi,hl,hk⟩ | ⟨pre,hSp,c,hi,hl,hk⟩)⟩
      · exact ⟨none,_,by have:=run_endLoop (P:=P) hl (by rw [hrec]; simp); rw [hrec] at this; exact this,hdone _ _ (Nat.le_refl _) (hIp _ _ _ _ _ hi (by omega) hl rfl) ((World.putObj_heap_other (by omega)).trans hk)⟩
      · exact ⟨some c,_,by have:=run_endLoop (P:=P) hl (by rw [hrec]; simp); rw [hrec] at this; exact this,hstop _ c pre _ (Nat.le_refl _) hSp (hIxp _ _ _ _ _ _ hi (by omega) hl rfl) ((World.putObj_heap_other (by omega)).trans hk)⟩
/-! ### Contracts of functions that only compute,as the machine has them -/
def oldB (P:Program) [Tabs P] (w:World):Nat → Prop:=fun b=>b < w.heap.size ∧ ¬ (Tabs.T P).B b
theorem PCalls.run {f:FuncId} {args:List AV} {r:AV} (h:PCalls P f args r) (w:World) (hH:(Tabs.T P).H w) {cargs:List Value} (ha:All2 (VRel (fun _=>none) (oldB P w) w) cargs args) :
    Calls P f cargs.toArray w fun e w'=>∃ v,e = .returned v ∧ VRel (fun _=>none) (oldB P w) w' v r ∧ Stp No w w':=by
  have hm:∀ (bl:Nat → Option Nat) b,Mut bl (oldB P w) (hget []) b ↔ oldB P w b:=fun bl b=>Mut_false _ b
  refine (h (fun _=>none) (oldB P w) w cargs hH (fun b hb hm'=>((hm _ b).1 hm').2 hb) ⟨fun id o hi=>by simp [hget] at hi,fun id id' o o' b hi=>by simp [hget] at hi⟩ (fun b hb=>hb.1)
    (ha.mono fun _ _ _ hr=>hr.tr (Tr.of_iff (fun b=>hm _ b)) (fun _ _=>rfl))).mono fun e w' hh=>?_
  obtain ⟨v,r',σ',bl',rfl,⟨rfl,rfl⟩,hcl,_,hv,hst,_,_⟩:=hh
  refine ⟨v,rfl,hv.tr (Tr.of_iff (fun b=>(hm _ b).symm)) (fun id hid=>?_),⟨hst.size,fun b hb _=>hst.keep b hb (fun hx=>by obtain ⟨id,o,hi,_⟩:=hx; simp [hget] at hi),hst.shape,hst.os,hst.out⟩⟩
  have:=hcl.1 id (mV_ids hid)
  simp [hget] at this
theorem PCalls.of {f:FuncId} {args:List AV} {r:AV} (h:∀ (w:World) (bl:Nat → Option Nat) (M:Nat → Prop) (cargs:List Value),(Tabs.T P).H w → (∀ b,M b → b < w.heap.size) → All2 (VRel bl M w) cargs args →
      Calls P f cargs.toArray w fun e w'=>∃ v,e = .returned v ∧ Stp No w w' ∧ VRel (fun _=>none) M w' v r) (hid:idsV r = []):PCalls P f args r:=by
  intro bl MF w cargs hH _ _ hMF ha
  have hm:∀ (bl:Nat → Option Nat) b,Mut bl MF (hget []) b ↔ MF b:=fun bl b=>Mut_false _ b
  refine (h w bl MF cargs hH hMF (ha.mono fun _ _ _ hr=>hr.tr (Tr.of_iff (fun b=>(hm _ b).symm)) (fun _ _=>rfl))).mono fun e w' hh=>?_
  obtain ⟨v,rfl,hst,hv⟩:=hh
  refine ⟨v,r,[],bl,rfl,⟨rfl,rfl⟩,(⟨fun i hi=>(by rw [hid] at hi; cases hi),fun p hp=>absurd hp List.not_mem_nil⟩:Closed r []),⟨fun id o hi=>by simp [hget] at hi,fun id id' o o' b hi=>by simp [hget] at hi⟩,?_,?_,fun id o b hi=>by simp [hget] at hi,fun _ h=>h.elim⟩
  · refine hv.tr (Tr.of_iff (fun b=>hm _ b)) (fun id hi=>?_)
    have:=mV_ids hi
    rw [hid] at this
    cases this
  · exact ⟨hst.size,fun b hb _=>hst.keep b hb (fun h=>h),hst.shape,hst.os,hst.out⟩
theorem call_narr {f:FuncId} {args:List AV} {d:Option Nat} {s:St} {K:St → Prop} {Sb:Nat → Prop} {id st len:Nat} {o:AObj} (h:ACalls P f args [] Sb (fun r σ'=>r = .ms id st 0 len ∧ σ' = [(id,o)])) (ho:idsO o = []) (hargs:∀ x ∈ args,idsV x = [])
    (j:Nat) (hj:j < 1000 ∨ 2000 ≤ j) (hfree:hget s.heap j = none) (hk:K ((St.mk (purE j s.env) ((j,o) :: purH j s.heap)).put d (.ms j st 0 len))):icall P f args d s K:=by
  have e1:swp id j id = j:=by simp [swp]
  refine call_obj (σ2:=[]) (r3:=.ms j st 0 len) (σ3:=[(j,o)]) h [(id,j)] [j] (ren_noneVs _ args hargs) rfl ?_ ?_ (fun p hp=>by cases hp) (fun p hp=>?_) (fun p hp=>by cases hp) ?_
  · simp only [fw,renV,renG,renC,renP,e1]
  · simp only [renH,fw,e1,ren_noneO _ o ho]
  · simp only [List.mem_singleton] at hp
    subst hp
    exact .inr ⟨by simp,hj,.inr hfree⟩
  · simpa only [purEs,purHs,List.cons_append,List.nil_append] using hk
end Go.Mw
set_option linter.unusedSectionVars false
set_option linter.unusedVariables false
namespace Go.Mw
section
variable {P:Program} [Tabs P] {X:Type}
theorem call_pe {f:FuncId} {args:List AV} {Sb:Nat → Prop} {r:X → AV} {Q:X → Prop} {d:Option Nat} {s:St} {K:St → Prop}
    (h:ACalls P f args [] Sb (fun r' σ'=>∃ x,Q x ∧ r' = r x ∧ σ' = [])) (hK:∀ x,Q x → K (s.put d (r x))):icall P f args d s K:=by
  refine .inl (.inr ⟨[],_,_,[],h,(fun id o hh=>by cases hh),?_,?_⟩)
  · rintro r' σ' ⟨x,hx,rfl,rfl⟩ id hid; cases hid
  · rintro r' σ' ⟨x,hx,rfl,rfl⟩
    refine ⟨⟨purEs [] s.env,purHs [] s.heap⟩,fun k=>get_purEs k [] s.env,fun i=>?_,hK x hx⟩
    show hget (purHs [] s.heap) i = Option.map (purLO []) (hget s.heap i)
    rw [hget_purHs]
end
end Go.Mw
set_option linter.unusedSectionVars false
set_option linter.unusedVariables false
namespace Go.Mw

inductive Nd:AV → AV → Prop where
  | rfl (x:AV):Nd x x
  | nl (st:Nat):Nd .nl (.sl st [])
  | sl (st:Nat) (rows rows':List (List AV)) (hl:rows.length = rows'.length) (hr:∀ (i:Nat) (r r':List AV),rows[i]? = some r → rows'[i]? = some r' → r.length = r'.length)
      (hx:∀ (i j:Nat) (r r':List AV) (x y:AV),rows[i]? = some r → rows'[i]? = some r' → r[j]? = some x → r'[j]? = some y → Nd x y):Nd (.sl st rows) (.sl st rows')
theorem IRel.nd {M:Nat → Prop} {w:World} {x y:AV} (h:Nd x y):∀ {v:Value},IRel M w v x → IRel M w v y:=by
  induction h with
  | rfl x=>exact fun h=>h
  | nl st=>exact fun h=>IRel.nl_sl h st
  | sl st rows rows' hl hr hx ih =>
    intro v h
    cases h with
    | nls=>obtain rfl:rows' = []:=List.eq_nil_of_length_eq_zero (by simpa using hl.symm); exact .nls st
    | sl0 _ a cap=>obtain rfl:rows' = []:=List.eq_nil_of_length_eq_zero (by simpa using hl.symm); exact .sl0 st a cap
    | sl b off cap _ c t fr _ vs hb hM hle hrl hv hxx =>
      rw [hl]
      have get:∀ {i:Nat} {r':List AV},rows'[i]? = some r' → ∃ r,rows[i]? = some r:=fun {i r'} h=>by
        have hi:i < rows'.length:=by
          rcases Nat.lt_or_ge i rows'.length with q | q
          · exact q
          · rw [List.getElem?_eq_none q] at h; cases h
        exact ⟨rows[i]'(by omega),List.getElem?_eq_getElem _⟩
      refine .sl b off cap st c t fr rows' vs hb hM (by omega) (fun i r' hi=>?_) (fun i j hi hj=>hv i j (by omega) hj) (fun i j r' y hi hj=>?_)
      · obtain ⟨r,hr2⟩:=get hi
        rw [← hr i r r' hr2 hi]
        exact hrl i r hr2
      · obtain ⟨r,hr2⟩:=get hi
        have hjl:j < r.length:=by
          rw [hr i r r' hr2 hi]
          rcases Nat.lt_or_ge j r'.length with q | q
          · exact q
          · rw [List.getElem?_eq_none q] at hj; cases hj
        exact ih i j r r' _ y hr2 hi (List.getElem?_eq_getElem hjl) hj (hxx i j r _ hr2 (List.getElem?_eq_getElem hjl))
theorem CRel.nd {bl:Nat → Option Nat} {M:Nat → Prop} {w:World} {v:Value} {x y:AV} (h:Nd x y) (hr:CRel bl M w v x):CRel bl M w v y:=by
  cases h with
  | rfl=>exact hr
  | nl st=>exact IRel.nd (.nl st) (show IRel M w v .nl from hr)
  | sl st rows rows' h1 h2 h3=>exact IRel.nd (.sl st rows rows' h1 h2 h3) (show IRel M w v (.sl st rows) from hr)
def nld (x y:AV):Prop:=Nd x y ∨ ∃ l m,x = .agg l ∧ y = .agg m ∧ All2 Nd l m
theorem nld_rel {bl:Nat → Option Nat} {M:Nat → Prop} {w:World} {v:Value} {x y:AV} (h:nld x y) (hr:VRel bl M w v x):VRel bl M w v y:=by
  rcases h with h | ⟨l,m,rfl,rfl,h⟩
  · cases h with
    | rfl=>exact hr
    | nl st=>exact IRel.nd (.nl st) (show IRel M w v .nl from hr)
    | sl st rows rows' h1 h2 h3=>exact IRel.nd (.sl st rows rows' h1 h2 h3) (show IRel M w v (.sl st rows) from hr)
  · obtain ⟨cs,h1,h2⟩:=hr
    refine ⟨cs,h1,?_⟩
    clear h1
    induction cs generalizing l m with
    | nil=>match l,m,h,h2 with | [],[],_,_=>trivial
    | cons c cs ih=>match l,m,h,h2 with | a :: l,b :: m,h,h2=>exact ⟨CRel.nd h.1 h2.1,ih l m h.2 h2.2⟩
theorem nlds_rel {bl:Nat → Option Nat} {M:Nat → Prop} {w:World}:∀ {vs:List Value} {l m:List AV},All2 nld l m → All2 (VRel bl M w) vs l → All2 (VRel bl M w) vs m
  | [],[],[],_,_=>trivial
  | v :: vs,x :: l,y :: m,h,hr=>⟨nld_rel h.1 hr.1,nlds_rel h.2 hr.2⟩
  | [],[],_ :: _,h,_=>h.elim
  | [],_ :: _,_,_,hr=>hr.elim
  | _ :: _,[],_,_,hr=>hr.elim
  | _ :: _,_ :: _,[],h,_=>h.elim
theorem PCalls_nld {P:Program} [Tabs P] {f:FuncId} {xs ys:List AV} {r:AV} (hp:PCalls P f ys r) (h:All2 nld xs ys):PCalls P f xs r :=
  fun bl MF w cargs h1 h2 h3 h4 h5=>hp bl MF w cargs h1 h2 h3 h4 (nlds_rel h h5)
theorem Nd.map {α:Type} (st:Nat) (f g:α → List AV) (l:List α) (h:∀ a ∈ l,All2 Nd (f a) (g a)):Nd (.sl st (l.map f)) (.sl st (l.map g)):=by
  refine .sl st _ _ (by simp) (fun i r r' h1 h2=>?_) (fun i j r r' x y h1 h2 h3 h4=>?_)
  · simp only [List.getElem?_map,Option.map_eq_some_iff] at h1 h2
    obtain ⟨a,e1,rfl⟩:=h1
    obtain ⟨b,e2,rfl⟩:=h2
    obtain rfl:=Option.some.inj (e1.symm.trans e2)
    exact (h a (List.mem_of_getElem? e1)).length
  · simp only [List.getElem?_map,Option.map_eq_some_iff] at h1 h2
    obtain ⟨a,e1,rfl⟩:=h1
    obtain ⟨b,e2,rfl⟩:=h2
    obtain rfl:=Option.some.inj (e1.symm.trans e2)
    obtain ⟨x',e3,e4⟩:=(h a (List.mem_of_getElem? e1)).get h4
    obtain rfl:=Option.some.inj (h3.symm.trans e3)
    exact e4
end Go.Mw
set_option linter.unusedVariables false
set_option linter.unusedSimpArgs false
namespace Go.Mw
open Go.ChangeShapes Go.WideShapes Go.ChangeAt Go.RowKit

structure Bk (H:Type) where
  f:DataW H → Nat
  str:∀ l:List UInt8,l.length ≤ f (.lit (.string l))
  sl:∀ es sp,es.length ≤ f (.slice es sp)
  sle:∀ es sp d,d ∈ es → f d ≤ f (.slice es sp)
  ag:∀ ps d,d ∈ ps → f d ≤ f (.agg ps)
def Ty.bd (B:Nat):Ty → List AV → Prop
  | .str,xs=>∀ s,xs = [.str s] → s.length ≤ B
  | .sl e,xs=>∀ st rows,xs = [.sl st rows] → rows.length ≤ B ∧ ∀ r ∈ rows,e.bd B r
  | .cons f r,xs=>f.bd B (xs.take f.n) ∧ r.bd B (xs.drop f.n)
  | _,_=>True
def Ty.bdV (B:Nat) (τ:Ty) (x:AV):Prop:=match τ.isRec with
  | true=>∀ xs,x = .agg xs → τ.bd B xs
  | false=>τ.bd B [x]

section
variable {H:Type} {enc:TypeId × Value → H} {P:Program} {w:World} {base:Nat} {sp:Nat → Bool} {held:Bool}

end
section
variable {H:Type} {enc:TypeId × Value → H} {P:Program} [Tabs P] {w:World} {base:Nat} {sp:Nat → Bool} {held:Bool}
end
section
variable {H:Type} {enc:TypeId × Value → H} {P:Program} [Tabs P] {w:World}
end
end Go.Mw
