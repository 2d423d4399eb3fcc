/-
  Walking: the equations by which a body is walked and a state is reckoned.
  What is still to come is kept as a term without a body, so that nothing is rewritten behind it.
-/
import Derived.Test.YtkejmhpodhbeeaaDoorMwU
set_option linter.unusedSectionVars false
namespace Go.Mw

/-- The element 'i' of a list. -/
def nth {α : Type} [Inhabited α] (l : List α) (i : Nat) : α := l[i]!
theorem nth_eq {α : Type} [Inhabited α] {l : List α} {i : Nat} (h : i < l.length) : nth l i = l[i] := getElem!_pos l i h
theorem nth_some {α : Type} [Inhabited α] {l : List α} {i : Nat} (h : i < l.length) : l[i]? = some (nth l i) := by rw [nth_eq h]; exact List.getElem?_eq_getElem h
theorem nth_of {α : Type} [Inhabited α] {l : List α} {i : Nat} {x : α} (h : l[i]? = some x) : nth l i = x := by
  have hlt := (List.getElem?_eq_some_iff.1 h).1
  rw [nth_some hlt] at h
  exact Option.some.inj h
theorem nth_set_self {α : Type} [Inhabited α] {l : List α} {i : Nat} {x : α} (h : i < l.length) : nth (l.set i x) i = x := by rw [nth_eq (by simpa using h)]; simp
theorem nth_set_ne {α : Type} [Inhabited α] {l : List α} {i j : Nat} {x : α} (h : i ≠ j) : nth (l.set i x) j = nth l j := by
  unfold nth
  rw [List.getElem!_eq_getElem?_getD, List.getElem!_eq_getElem?_getD, List.getElem?_set_ne h]
theorem nth_app_l {α : Type} [Inhabited α] {l m : List α} {i : Nat} (h : i < l.length) : nth (l ++ m) i = nth l i := by
  rw [nth_eq h, nth_eq (by simp; omega), List.getElem_append_left h]
theorem nth_app_r {α : Type} [Inhabited α] {l m : List α} {i : Nat} : nth (l ++ m) (l.length + i) = nth m i := by
  unfold nth
  rw [List.getElem!_eq_getElem?_getD, List.getElem!_eq_getElem?_getD, List.getElem?_append_right (by omega)]
  congr 2
  omega
theorem nth_app_len {α : Type} [Inhabited α] {l m : List α} {x : α} : nth (l ++ x :: m) l.length = x := by
  simp [nth]
theorem nth_map {α β : Type} [Inhabited α] [Inhabited β] {l : List α} {f : α → β} {i : Nat} (h : i < l.length) : nth (l.map f) i = f (nth l i) := by
  rw [nth_eq h, nth_eq (by simpa using h), List.getElem_map]
theorem nth_take {α : Type} [Inhabited α] {l : List α} {i k : Nat} (h : i < k) : nth (l.take k) i = nth l i := by
  unfold nth
  rw [List.getElem!_eq_getElem?_getD, List.getElem!_eq_getElem?_getD, List.getElem?_take_of_lt h]
theorem nth_drop {α : Type} [Inhabited α] {l : List α} {i k : Nat} : nth (l.drop k) i = nth l (k + i) := by
  unfold nth
  rw [List.getElem!_eq_getElem?_getD, List.getElem!_eq_getElem?_getD, List.getElem?_drop]
theorem nth_zero {α : Type} [Inhabited α] (x : α) (l : List α) : nth (x :: l) 0 = x := rfl
theorem nth_succ {α : Type} [Inhabited α] (x : α) (l : List α) (i : Nat) : nth (x :: l) (i + 1) = nth l i := rfl

section
variable {P : Program} [Tabs P]

def kseq (P : Program) [Tabs P] (y : ICode) (K : IX → St → Prop) (e : IX) (s : St) : Prop :=
  match e with
  | .nrm => iwp P y s K
  | e => K e s
def kcut (P : Program) [Tabs P] (y : ICode) (K : IX → St → Prop) (e : IX) (s : St) : Prop :=
  match e with
  | .nrm => ∃ s', Wk s s' ∧ iwp P y s' K
  | e => K e s
def kblk (id : Nat) (K : IX → St → Prop) (e : IX) (s : St) : Prop :=
  match e with
  | .ext j => if j = id then K .nrm s else K (.ext j) s
  | e => K e s
def kreg (dr : List Nat) (K : IX → St → Prop) (s : St) : Prop := K .nrm ⟨dels dr s.env, s.heap⟩
def kops (P : Program) [Tabs P] (r : List IOper) (K : St → Prop) (s : St) : Prop := iops P r s K
def kdops (P : Program) [Tabs P] (al : List (Nat × Nat)) (i : Nat) (r : List IDOper) (K : St → Prop) (hist : List HI) (s : St) : Prop := idops P al i r hist s K
def kst (K : St → Prop) (s : St) (d : Option Nat) (v : AV) (e : Eff) : Prop := K ((s.eff e).put d v)
def kdst (al : List (Nat × Nat)) (i : Nat) (bf : List Nat) (op : IOp) (hist : List HI) (K : List HI → St → Prop) (s : St) (d : Option Nat) (v : AV) (e : Eff) : Prop :=
  plainOk op s e = true ∧ histOk bf ⟨i, opIds op s.env, idsV v ++ e.ids, e.tch, e.isReb, e.isPut⟩ hist = true ∧ newOk al bf ⟨i, opIds op s.env, idsV v ++ e.ids, e.tch, e.isReb, e.isPut⟩ = true ∧
    K (⟨i, opIds op s.env, idsV v ++ e.ids, e.tch, e.isReb, e.isPut⟩ :: hist) ((s.eff e).put d v)
def stepK (K : AV → Eff → Prop) (x : Option (AV × Eff)) : Prop :=
  match x with
  | some (v, e) => K v e
  | none => False
/-- A test of a slot. -/
def tst (x : AV) (a b : Prop) : Prop :=
  match x with
  | .bool t => (t = true → a) ∧ (t = false → b)
  | _ => False

/-- A guard: its slot may not have been filled at all. -/
def gst (x : AV) (a b c : Prop) : Prop :=
  match x with
  | .bool t => (t = true → a) ∧ (t = false → b)
  | .tup [] => c
  | _ => False

theorem kseq_n (y : ICode) (K : IX → St → Prop) (s : St) : kseq P y K .nrm s = iwp P y s K := _root_.id rfl
theorem kseq_r (y : ICode) (K : IX → St → Prop) (s : St) : kseq P y K .ret s = K .ret s := _root_.id rfl
theorem kseq_x (y : ICode) (K : IX → St → Prop) (j : Nat) (s : St) : kseq P y K (.ext j) s = K (.ext j) s := _root_.id rfl
theorem kcut_r (y : ICode) (K : IX → St → Prop) (s : St) : kcut P y K .ret s = K .ret s := _root_.id rfl
theorem kcut_x (y : ICode) (K : IX → St → Prop) (j : Nat) (s : St) : kcut P y K (.ext j) s = K (.ext j) s := _root_.id rfl
theorem kcut_n {y : ICode} {K : IX → St → Prop} {s : St} (s' : St) (h : Wk s s') (hi : iwp P y s' K) : kcut P y K .nrm s := ⟨s', h, hi⟩
theorem kblk_n (id : Nat) (K : IX → St → Prop) (s : St) : kblk id K .nrm s = K .nrm s := _root_.id rfl
theorem kblk_r (id : Nat) (K : IX → St → Prop) (s : St) : kblk id K .ret s = K .ret s := _root_.id rfl
theorem kblk_x (id j : Nat) (K : IX → St → Prop) (s : St) : kblk id K (.ext j) s = if j = id then K .nrm s else K (.ext j) s := _root_.id rfl
theorem kreg_e (dr : List Nat) (K : IX → St → Prop) (s : St) : kreg dr K s = K .nrm ⟨dels dr s.env, s.heap⟩ := _root_.id rfl
theorem kops_e (r : List IOper) (K : St → Prop) (s : St) : kops P r K s = iops P r s K := _root_.id rfl
theorem kdops_e (al : List (Nat × Nat)) (i : Nat) (r : List IDOper) (K : St → Prop) (hist : List HI) (s : St) : kdops P al i r K hist s = idops P al i r hist s K := _root_.id rfl
theorem kst_e (K : St → Prop) (s : St) (d : Option Nat) (v : AV) (e : Eff) : kst K s d v e = K ((s.eff e).put d v) := _root_.id rfl
theorem kdst_e (al : List (Nat × Nat)) (i : Nat) (bf : List Nat) (op : IOp) (hist : List HI) (K : List HI → St → Prop) (s : St) (d : Option Nat) (v : AV) (e : Eff) : kdst al i bf op hist K s d v e =
  (plainOk op s e = true ∧ histOk bf ⟨i, opIds op s.env, idsV v ++ e.ids, e.tch, e.isReb, e.isPut⟩ hist = true ∧ newOk al bf ⟨i, opIds op s.env, idsV v ++ e.ids, e.tch, e.isReb, e.isPut⟩ = true ∧
    K (⟨i, opIds op s.env, idsV v ++ e.ids, e.tch, e.isReb, e.isPut⟩ :: hist) ((s.eff e).put d v)) := rfl
theorem stepK_some (K : AV → Eff → Prop) (v : AV) (e : Eff) : stepK K (some (v, e)) = K v e := _root_.id rfl
theorem stepK_ite (K : AV → Eff → Prop) (c : Prop) [Decidable c] (x : Option (AV × Eff)) : stepK K (if c then x else none) = (c ∧ stepK K x) := by
  by_cases h : c <;> simp [h, stepK]
theorem stepK_ite' (K : AV → Eff → Prop) (c : Prop) [Decidable c] (x : Option (AV × Eff)) : stepK K (if c then none else x) = (¬ c ∧ stepK K x) := by
  by_cases h : c <;> simp [h, stepK]
theorem res_v (v : AV) : res (some v) = some (v, .no) := rfl
theorem res_if (c : Prop) [Decidable c] (x : Option AV) : res (if c then x else none) = if c then res x else none := by split <;> rfl
theorem res_if' (c : Prop) [Decidable c] (x : Option AV) : res (if c then none else x) = if c then none else res x := by split <;> rfl
theorem tst_bool (t : Bool) (a b : Prop) : tst (.bool t) a b = ((t = true → a) ∧ (t = false → b)) := _root_.id rfl
@[congr] theorem tst_congr {x x' : AV} {a b : Prop} (h : x = x') : tst x a b = tst x' a b := by rw [h]
theorem tst_t (a b : Prop) : tst (.bool true) a b = a := by simp [tst]
theorem gst_bool (t : Bool) (a b c : Prop) : gst (.bool t) a b c = ((t = true → a) ∧ (t = false → b)) := rfl
@[congr] theorem gst_congr {x x' : AV} {a b c : Prop} (h : x = x') : gst x a b c = gst x' a b c := by rw [h]
theorem gst_t (a b c : Prop) : gst (.bool true) a b c = a := by simp [gst]
theorem gst_f (a b c : Prop) : gst (.bool false) a b c = b := by simp [gst]
theorem gst_u (a b c : Prop) : gst (.tup []) a b c = c := by simp [gst]
theorem gst_t' (a b c : Prop) : gst (.bool true) a b c = a := by simp [gst]
theorem gst_f' (a b c : Prop) : gst (.bool false) a b c = b := by simp [gst]
theorem gst_u' (a b c : Prop) : gst (.tup []) a b c = c := by simp [gst]
theorem tst_t' (a b : Prop) : tst (.bool true) a b = a := tst_t a b
theorem tst_f (a b : Prop) : tst (.bool false) a b = b := by simp [tst]

/-! ### Code -/
theorem iwp_skip (s : St) (K : IX → St → Prop) : iwp P .skip s K = K .nrm s := _root_.id rfl
theorem iwp_ret (s : St) (K : IX → St → Prop) : iwp P .ret s K = K .ret s := _root_.id rfl
theorem iwp_exit (id : Nat) (s : St) (K : IX → St → Prop) : iwp P (.exit id) s K = K (.ext id) s := _root_.id rfl
theorem iwp_seq (x y : ICode) (s : St) (K : IX → St → Prop) : iwp P (.seq x y) s K = iwp P x s (kseq P y K) := _root_.id rfl
theorem iwp_cut (x y : ICode) (s : St) (K : IX → St → Prop) : iwp P (.cut x y) s K = iwp P x s (kcut P y K) := _root_.id rfl
theorem iwp_block (id : Nat) (x : ICode) (s : St) (K : IX → St → Prop) : iwp P (.block id x) s K = iwp P x s (kblk id K) := _root_.id rfl
theorem iwp_cond (v : IV) (t e : ICode) (s : St) (K : IX → St → Prop) : iwp P (.cond v t e) s K = tst (val (get s.env) v) (iwp P t (refine v true s) K) (iwp P e (refine v false s) K) := _root_.id rfl
theorem iwp_reg (ops : List IOper) (dr : List Nat) (s : St) (K : IX → St → Prop) : iwp P (.reg ops dr) s K = iops P ops s (kreg dr K) := _root_.id rfl
theorem iwp_draw (ops : List IDOper) (al : List (Nat × Nat)) (dr : List Nat) (s : St) (K : IX → St → Prop) : iwp P (.draw ops al dr) s K = idops P al 0 ops [] (kills (al.map (·.1)) s) (kreg dr K) := _root_.id rfl
theorem iops_nil (s : St) (K : St → Prop) : iops P [] s K = K s := _root_.id rfl
theorem iops_cons (d : Option Nat) (op : IOp) (r : List IOper) (s : St) (K : St → Prop) : iops P (⟨d, op, none⟩ :: r) s K = iop P ⟨d, op, none⟩ s (kops P r K) := _root_.id rfl
theorem iops_guard_t (d : Option Nat) (op : IOp) (k : Nat) (r : List IOper) (s : St) (K : St → Prop) : iops P (⟨d, op, some (k, true)⟩ :: r) s K =
    gst (get s.env k) (iop P ⟨d, op, none⟩ (s.put (some k) (.bool true)) (kops P r K)) (iops P r ((s.put (some k) (.bool false)).put d (.tup [])) K) (iops P r (s.put d (.tup [])) K) := _root_.id rfl
theorem iops_guard_f (d : Option Nat) (op : IOp) (k : Nat) (r : List IOper) (s : St) (K : St → Prop) : iops P (⟨d, op, some (k, false)⟩ :: r) s K =
    gst (get s.env k) (iops P r ((s.put (some k) (.bool true)).put d (.tup [])) K) (iop P ⟨d, op, none⟩ (s.put (some k) (.bool false)) (kops P r K)) (iops P r (s.put d (.tup [])) K) := by
  simp only [iops, gst]
  generalize get s.env k = x
  cases x with
  | bool t => exact propext ⟨fun h => ⟨h.2, h.1⟩, fun h => ⟨h.2, h.1⟩⟩
  | tup l => cases l <;> rfl
  | _ => rfl
theorem idops_nil (al : List (Nat × Nat)) (i : Nat) (hist : List HI) (s : St) (K : St → Prop) : idops P al i [] hist s K = K s := _root_.id rfl
theorem idops_cons (al : List (Nat × Nat)) (i : Nat) (d : Option Nat) (op : IOp) (bf : List Nat) (r : List IDOper) (hist : List HI) (s : St) (K : St → Prop) :
    idops P al i (⟨⟨d, op, none⟩, bf⟩ :: r) hist s K = idop P al i ⟨⟨d, op, none⟩, bf⟩ hist s (kdops P al (i + 1) r K) := _root_.id rfl
theorem idops_guard_t (al : List (Nat × Nat)) (i : Nat) (d : Option Nat) (op : IOp) (k : Nat) (bf : List Nat) (r : List IDOper) (hist : List HI) (s : St) (K : St → Prop) :
    idops P al i (⟨⟨d, op, some (k, true)⟩, bf⟩ :: r) hist s K = gst (get s.env k) (idop P al i ⟨⟨d, op, none⟩, bf⟩ hist (s.put (some k) (.bool true)) (kdops P al (i + 1) r K))
      (idops P al (i + 1) r (⟨i, [], [], [], false, false⟩ :: hist) ((s.put (some k) (.bool false)).put d (.tup [])) K) (idops P al (i + 1) r (⟨i, [], [], [], false, false⟩ :: hist) (s.put d (.tup [])) K) := _root_.id rfl
theorem idops_guard_f (al : List (Nat × Nat)) (i : Nat) (d : Option Nat) (op : IOp) (k : Nat) (bf : List Nat) (r : List IDOper) (hist : List HI) (s : St) (K : St → Prop) :
    idops P al i (⟨⟨d, op, some (k, false)⟩, bf⟩ :: r) hist s K = gst (get s.env k) (idops P al (i + 1) r (⟨i, [], [], [], false, false⟩ :: hist) ((s.put (some k) (.bool true)).put d (.tup [])) K)
      (idop P al i ⟨⟨d, op, none⟩, bf⟩ hist (s.put (some k) (.bool false)) (kdops P al (i + 1) r K)) (idops P al (i + 1) r (⟨i, [], [], [], false, false⟩ :: hist) (s.put d (.tup [])) K) := by
  simp only [idops, gst]
  generalize get s.env k = x
  cases x with
  | bool t => exact propext ⟨fun h => ⟨h.2, h.1⟩, fun h => ⟨h.2, h.1⟩⟩
  | tup l => cases l <;> rfl
  | _ => rfl

/-! ### Operations -/
theorem iop_call (d : Option Nat) (f : FuncId) (args : List IV) (g : Option (Nat × Bool)) (s : St) (K : St → Prop) : iop P ⟨d, .call f args, g⟩ s K = icall P f (args.map (val (get s.env))) d s K := _root_.id rfl
/-- A call of a function value. -/
def fcall (P : Program) [Tabs P] (f : AV) (args : List AV) (d : Option Nat) (s : St) (K : St → Prop) : Prop :=
  match f with
  | .fn f caps => hasBody P f = true ∧ icall P f (args ++ caps) d s K
  | _ => False
theorem fcall_fn (f : FuncId) (caps args : List AV) (d : Option Nat) (s : St) (K : St → Prop) : fcall P (.fn f caps) args d s K = (hasBody P f = true ∧ icall P f (args ++ caps) d s K) := _root_.id rfl
theorem iop_callv (d : Option Nat) (f : IV) (args : List IV) (g : Option (Nat × Bool)) (s : St) (K : St → Prop) : iop P ⟨d, .callv f args, g⟩ s K = fcall P (val (get s.env) f) (args.map (val (get s.env))) d s K := _root_.id rfl
/-- A call in a region whose order is open. -/
def idcall (P : Program) [Tabs P] (f : FuncId) (args : List AV) (i : Nat) (bf : List Nat) (op : IOp) (d : Option Nat) (hist : List HI) (s : St) (K : List HI → St → Prop) : Prop :=
  (∃ args' r b, PCalls P f args' r ∧ (∀ x ∈ args', idsV x = []) ∧ All2 (coe b (hget s.heap)) args args' ∧ (b = true → flatV r = true) ∧ idsV r = [] ∧
      plainOk op s .no = true ∧ histOk bf ⟨i, opIds op s.env, [], [], false, false⟩ hist = true ∧ K (⟨i, opIds op s.env, [], [], false, false⟩ :: hist) (s.put d r)) ∨
  ∃ k ob ob' Sb r, ACalls P f args [(k, ob)] Sb (fun r' σ' => r' = r ∧ σ' = [(k, ob')]) ∧ Sb k ∧ hget s.heap k = some ob ∧ idsV r = [] ∧ idsO ob' = [] ∧ k ∈ opIds op s.env ∧
      plainOk op s (.put k ob') = true ∧ histOk bf ⟨i, opIds op s.env, [], [k], false, true⟩ hist = true ∧ K (⟨i, opIds op s.env, [], [k], false, true⟩ :: hist) ((s.eff (.put k ob')).put d r)
theorem idop_call (al : List (Nat × Nat)) (i : Nat) (d : Option Nat) (f : FuncId) (args : List IV) (g : Option (Nat × Bool)) (bf : List Nat) (hist : List HI) (s : St) (K : List HI → St → Prop) :
    idop P al i ⟨⟨d, .call f args, g⟩, bf⟩ hist s K = idcall P f (args.map (val (get s.env))) i bf (.call f args) d hist s K := _root_.id rfl
theorem iop_mov (d : Option Nat) (x : IV) (g : Option (Nat × Bool)) (s : St) (K : St → Prop) : iop P ⟨d, .mov x, g⟩ s K = stepK (kst K s d) (aev 0 (.mov x) (val (get s.env)) (hget s.heap)) := _root_.id rfl
theorem idop_mov (al : List (Nat × Nat)) (i : Nat) (d : Option Nat) (x : IV) (g : Option (Nat × Bool)) (bf : List Nat) (hist : List HI) (s : St) (K : List HI → St → Prop) : idop P al i ⟨⟨d, .mov x, g⟩, bf⟩ hist s K = stepK (kdst al i bf (.mov x) hist K s d) (aev 0 (.mov x) (val (get s.env)) (hget s.heap)) := _root_.id rfl
theorem iop_pick (d : Option Nat) (c a b : IV) (g : Option (Nat × Bool)) (s : St) (K : St → Prop) : iop P ⟨d, .pick c a b, g⟩ s K = stepK (kst K s d) (aev 0 (.pick c a b) (val (get s.env)) (hget s.heap)) := _root_.id rfl
theorem idop_pick (al : List (Nat × Nat)) (i : Nat) (d : Option Nat) (c a b : IV) (g : Option (Nat × Bool)) (bf : List Nat) (hist : List HI) (s : St) (K : List HI → St → Prop) : idop P al i ⟨⟨d, .pick c a b, g⟩, bf⟩ hist s K = stepK (kdst al i bf (.pick c a b) hist K s d) (aev 0 (.pick c a b) (val (get s.env)) (hget s.heap)) := _root_.id rfl
theorem iop_build (d : Option Nat) (cs : List AV) (ps : List (Nat × Nat × IV)) (g : Option (Nat × Bool)) (s : St) (K : St → Prop) : iop P ⟨d, .build cs ps, g⟩ s K = stepK (kst K s d) (aev 0 (.build cs ps) (val (get s.env)) (hget s.heap)) := _root_.id rfl
theorem idop_build (al : List (Nat × Nat)) (i : Nat) (d : Option Nat) (cs : List AV) (ps : List (Nat × Nat × IV)) (g : Option (Nat × Bool)) (bf : List Nat) (hist : List HI) (s : St) (K : List HI → St → Prop) : idop P al i ⟨⟨d, .build cs ps, g⟩, bf⟩ hist s K = stepK (kdst al i bf (.build cs ps) hist K s d) (aev 0 (.build cs ps) (val (get s.env)) (hget s.heap)) := _root_.id rfl
theorem iop_load (d : Option Nat) (n : Option Nat) (p : IV) (g : Option (Nat × Bool)) (s : St) (K : St → Prop) : iop P ⟨d, .load n p, g⟩ s K = stepK (kst K s d) (aev 0 (.load n p) (val (get s.env)) (hget s.heap)) := _root_.id rfl
theorem idop_load (al : List (Nat × Nat)) (i : Nat) (d : Option Nat) (n : Option Nat) (p : IV) (g : Option (Nat × Bool)) (bf : List Nat) (hist : List HI) (s : St) (K : List HI → St → Prop) : idop P al i ⟨⟨d, .load n p, g⟩, bf⟩ hist s K = stepK (kdst al i bf (.load n p) hist K s d) (aev 0 (.load n p) (val (get s.env)) (hget s.heap)) := _root_.id rfl
theorem iop_store (d : Option Nat) (n : Nat) (p x : IV) (g : Option (Nat × Bool)) (s : St) (K : St → Prop) : iop P ⟨d, .store n p x, g⟩ s K = stepK (kst K s d) (aev 0 (.store n p x) (val (get s.env)) (hget s.heap)) := _root_.id rfl
theorem idop_store (al : List (Nat × Nat)) (i : Nat) (d : Option Nat) (n : Nat) (p x : IV) (g : Option (Nat × Bool)) (bf : List Nat) (hist : List HI) (s : St) (K : List HI → St → Prop) : idop P al i ⟨⟨d, .store n p x, g⟩, bf⟩ hist s K = stepK (kdst al i bf (.store n p x) hist K s d) (aev 0 (.store n p x) (val (get s.env)) (hget s.heap)) := _root_.id rfl
theorem iop_fadr (d : Option Nat) (o : Nat) (p : IV) (g : Option (Nat × Bool)) (s : St) (K : St → Prop) : iop P ⟨d, .fadr o p, g⟩ s K = stepK (kst K s d) (aev 0 (.fadr o p) (val (get s.env)) (hget s.heap)) := _root_.id rfl
theorem idop_fadr (al : List (Nat × Nat)) (i : Nat) (d : Option Nat) (o : Nat) (p : IV) (g : Option (Nat × Bool)) (bf : List Nat) (hist : List HI) (s : St) (K : List HI → St → Prop) : idop P al i ⟨⟨d, .fadr o p, g⟩, bf⟩ hist s K = stepK (kdst al i bf (.fadr o p) hist K s d) (aev 0 (.fadr o p) (val (get s.env)) (hget s.heap)) := _root_.id rfl
theorem iop_fld (d : Option Nat) (o : Nat) (n : Option Nat) (x : IV) (g : Option (Nat × Bool)) (s : St) (K : St → Prop) : iop P ⟨d, .fld o n x, g⟩ s K = stepK (kst K s d) (aev 0 (.fld o n x) (val (get s.env)) (hget s.heap)) := _root_.id rfl
theorem idop_fld (al : List (Nat × Nat)) (i : Nat) (d : Option Nat) (o : Nat) (n : Option Nat) (x : IV) (g : Option (Nat × Bool)) (bf : List Nat) (hist : List HI) (s : St) (K : List HI → St → Prop) : idop P al i ⟨⟨d, .fld o n x, g⟩, bf⟩ hist s K = stepK (kdst al i bf (.fld o n x) hist K s d) (aev 0 (.fld o n x) (val (get s.env)) (hget s.heap)) := _root_.id rfl
theorem iop_iadr (d : Option Nat) (st : Nat) (x q : IV) (g : Option (Nat × Bool)) (s : St) (K : St → Prop) : iop P ⟨d, .iadr st x q, g⟩ s K = stepK (kst K s d) (aev 0 (.iadr st x q) (val (get s.env)) (hget s.heap)) := _root_.id rfl
theorem idop_iadr (al : List (Nat × Nat)) (i : Nat) (d : Option Nat) (st : Nat) (x q : IV) (g : Option (Nat × Bool)) (bf : List Nat) (hist : List HI) (s : St) (K : List HI → St → Prop) : idop P al i ⟨⟨d, .iadr st x q, g⟩, bf⟩ hist s K = stepK (kdst al i bf (.iadr st x q) hist K s d) (aev 0 (.iadr st x q) (val (get s.env)) (hget s.heap)) := _root_.id rfl
theorem iop_aadr (d : Option Nat) (st n : Nat) (x q : IV) (g : Option (Nat × Bool)) (s : St) (K : St → Prop) : iop P ⟨d, .aadr st n x q, g⟩ s K = stepK (kst K s d) (aev 0 (.aadr st n x q) (val (get s.env)) (hget s.heap)) := _root_.id rfl
theorem idop_aadr (al : List (Nat × Nat)) (i : Nat) (d : Option Nat) (st n : Nat) (x q : IV) (g : Option (Nat × Bool)) (bf : List Nat) (hist : List HI) (s : St) (K : List HI → St → Prop) : idop P al i ⟨⟨d, .aadr st n x q, g⟩, bf⟩ hist s K = stepK (kdst al i bf (.aadr st n x q) hist K s d) (aev 0 (.aadr st n x q) (val (get s.env)) (hget s.heap)) := _root_.id rfl
theorem iop_mnx (d : Option Nat) (m : Bool) (x y : IV) (g : Option (Nat × Bool)) (s : St) (K : St → Prop) : iop P ⟨d, .mnx m x y, g⟩ s K = stepK (kst K s d) (aev 0 (.mnx m x y) (val (get s.env)) (hget s.heap)) := _root_.id rfl
theorem idop_mnx (al : List (Nat × Nat)) (i : Nat) (d : Option Nat) (m : Bool) (x y : IV) (g : Option (Nat × Bool)) (bf : List Nat) (hist : List HI) (s : St) (K : List HI → St → Prop) : idop P al i ⟨⟨d, .mnx m x y, g⟩, bf⟩ hist s K = stepK (kdst al i bf (.mnx m x y) hist K s d) (aev 0 (.mnx m x y) (val (get s.env)) (hget s.heap)) := _root_.id rfl
theorem iop_slc (d : Option Nat) (st : Nat) (x : IV) (lo hi mx : Option IV) (g : Option (Nat × Bool)) (s : St) (K : St → Prop) : iop P ⟨d, .slc st x lo hi mx, g⟩ s K = stepK (kst K s d) (aev 0 (.slc st x lo hi mx) (val (get s.env)) (hget s.heap)) := _root_.id rfl
theorem idop_slc (al : List (Nat × Nat)) (i : Nat) (d : Option Nat) (st : Nat) (x : IV) (lo hi mx : Option IV) (g : Option (Nat × Bool)) (bf : List Nat) (hist : List HI) (s : St) (K : List HI → St → Prop) : idop P al i ⟨⟨d, .slc st x lo hi mx, g⟩, bf⟩ hist s K = stepK (kdst al i bf (.slc st x lo hi mx) hist K s d) (aev 0 (.slc st x lo hi mx) (val (get s.env)) (hget s.heap)) := _root_.id rfl
theorem iop_len (d : Option Nat) (x : IV) (g : Option (Nat × Bool)) (s : St) (K : St → Prop) : iop P ⟨d, .len x, g⟩ s K = stepK (kst K s d) (aev 0 (.len x) (val (get s.env)) (hget s.heap)) := _root_.id rfl
theorem idop_len (al : List (Nat × Nat)) (i : Nat) (d : Option Nat) (x : IV) (g : Option (Nat × Bool)) (bf : List Nat) (hist : List HI) (s : St) (K : List HI → St → Prop) : idop P al i ⟨⟨d, .len x, g⟩, bf⟩ hist s K = stepK (kdst al i bf (.len x) hist K s d) (aev 0 (.len x) (val (get s.env)) (hget s.heap)) := _root_.id rfl
theorem iop_slen (d : Option Nat) (x : IV) (g : Option (Nat × Bool)) (s : St) (K : St → Prop) : iop P ⟨d, .slen x, g⟩ s K = stepK (kst K s d) (aev 0 (.slen x) (val (get s.env)) (hget s.heap)) := _root_.id rfl
theorem idop_slen (al : List (Nat × Nat)) (i : Nat) (d : Option Nat) (x : IV) (g : Option (Nat × Bool)) (bf : List Nat) (hist : List HI) (s : St) (K : List HI → St → Prop) : idop P al i ⟨⟨d, .slen x, g⟩, bf⟩ hist s K = stepK (kdst al i bf (.slen x) hist K s d) (aev 0 (.slen x) (val (get s.env)) (hget s.heap)) := _root_.id rfl
theorem iop_sslc (d : Option Nat) (x : IV) (lo hi : Option IV) (g : Option (Nat × Bool)) (s : St) (K : St → Prop) : iop P ⟨d, .sslc x lo hi, g⟩ s K = stepK (kst K s d) (aev 0 (.sslc x lo hi) (val (get s.env)) (hget s.heap)) := _root_.id rfl
theorem idop_sslc (al : List (Nat × Nat)) (i : Nat) (d : Option Nat) (x : IV) (lo hi : Option IV) (g : Option (Nat × Bool)) (bf : List Nat) (hist : List HI) (s : St) (K : List HI → St → Prop) : idop P al i ⟨⟨d, .sslc x lo hi, g⟩, bf⟩ hist s K = stepK (kdst al i bf (.sslc x lo hi) hist K s d) (aev 0 (.sslc x lo hi) (val (get s.env)) (hget s.heap)) := _root_.id rfl
theorem iop_bin (d : Option Nat) (o : BinOp) (x y : IV) (g : Option (Nat × Bool)) (s : St) (K : St → Prop) : iop P ⟨d, .bin o x y, g⟩ s K = stepK (kst K s d) (aev 0 (.bin o x y) (val (get s.env)) (hget s.heap)) := _root_.id rfl
theorem idop_bin (al : List (Nat × Nat)) (i : Nat) (d : Option Nat) (o : BinOp) (x y : IV) (g : Option (Nat × Bool)) (bf : List Nat) (hist : List HI) (s : St) (K : List HI → St → Prop) : idop P al i ⟨⟨d, .bin o x y, g⟩, bf⟩ hist s K = stepK (kdst al i bf (.bin o x y) hist K s d) (aev 0 (.bin o x y) (val (get s.env)) (hget s.heap)) := _root_.id rfl
theorem iop_bbin (d : Option Nat) (o : BinOp) (x y : IV) (g : Option (Nat × Bool)) (s : St) (K : St → Prop) : iop P ⟨d, .bbin o x y, g⟩ s K = stepK (kst K s d) (aev 0 (.bbin o x y) (val (get s.env)) (hget s.heap)) := _root_.id rfl
theorem idop_bbin (al : List (Nat × Nat)) (i : Nat) (d : Option Nat) (o : BinOp) (x y : IV) (g : Option (Nat × Bool)) (bf : List Nat) (hist : List HI) (s : St) (K : List HI → St → Prop) : idop P al i ⟨⟨d, .bbin o x y, g⟩, bf⟩ hist s K = stepK (kdst al i bf (.bbin o x y) hist K s d) (aev 0 (.bbin o x y) (val (get s.env)) (hget s.heap)) := _root_.id rfl
theorem iop_pbin (d : Option Nat) (o : BinOp) (x y : IV) (g : Option (Nat × Bool)) (s : St) (K : St → Prop) : iop P ⟨d, .pbin o x y, g⟩ s K = stepK (kst K s d) (aev 0 (.pbin o x y) (val (get s.env)) (hget s.heap)) := _root_.id rfl
theorem idop_pbin (al : List (Nat × Nat)) (i : Nat) (d : Option Nat) (o : BinOp) (x y : IV) (g : Option (Nat × Bool)) (bf : List Nat) (hist : List HI) (s : St) (K : List HI → St → Prop) : idop P al i ⟨⟨d, .pbin o x y, g⟩, bf⟩ hist s K = stepK (kdst al i bf (.pbin o x y) hist K s d) (aev 0 (.pbin o x y) (val (get s.env)) (hget s.heap)) := _root_.id rfl
theorem iop_un (d : Option Nat) (o : UnOp) (x : IV) (g : Option (Nat × Bool)) (s : St) (K : St → Prop) : iop P ⟨d, .un o x, g⟩ s K = stepK (kst K s d) (aev 0 (.un o x) (val (get s.env)) (hget s.heap)) := _root_.id rfl
theorem idop_un (al : List (Nat × Nat)) (i : Nat) (d : Option Nat) (o : UnOp) (x : IV) (g : Option (Nat × Bool)) (bf : List Nat) (hist : List HI) (s : St) (K : List HI → St → Prop) : idop P al i ⟨⟨d, .un o x, g⟩, bf⟩ hist s K = stepK (kdst al i bf (.un o x) hist K s d) (aev 0 (.un o x) (val (get s.env)) (hget s.heap)) := _root_.id rfl
theorem iop_cvi (d : Option Nat) (k : IntKind) (x : IV) (g : Option (Nat × Bool)) (s : St) (K : St → Prop) : iop P ⟨d, .cvi k x, g⟩ s K = stepK (kst K s d) (aev 0 (.cvi k x) (val (get s.env)) (hget s.heap)) := _root_.id rfl
theorem idop_cvi (al : List (Nat × Nat)) (i : Nat) (d : Option Nat) (k : IntKind) (x : IV) (g : Option (Nat × Bool)) (bf : List Nat) (hist : List HI) (s : St) (K : List HI → St → Prop) : idop P al i ⟨⟨d, .cvi k x, g⟩, bf⟩ hist s K = stepK (kdst al i bf (.cvi k x) hist K s d) (aev 0 (.cvi k x) (val (get s.env)) (hget s.heap)) := _root_.id rfl
theorem iop_cvs (d : Option Nat) (x : IV) (g : Option (Nat × Bool)) (s : St) (K : St → Prop) : iop P ⟨d, .cvs x, g⟩ s K = stepK (kst K s d) (aev 0 (.cvs x) (val (get s.env)) (hget s.heap)) := _root_.id rfl
theorem idop_cvs (al : List (Nat × Nat)) (i : Nat) (d : Option Nat) (x : IV) (g : Option (Nat × Bool)) (bf : List Nat) (hist : List HI) (s : St) (K : List HI → St → Prop) : idop P al i ⟨⟨d, .cvs x, g⟩, bf⟩ hist s K = stepK (kdst al i bf (.cvs x) hist K s d) (aev 0 (.cvs x) (val (get s.env)) (hget s.heap)) := _root_.id rfl
theorem iop_cvt (d : Option Nat) (x : IV) (g : Option (Nat × Bool)) (s : St) (K : St → Prop) : iop P ⟨d, .cvt x, g⟩ s K = stepK (kst K s d) (aev 0 (.cvt x) (val (get s.env)) (hget s.heap)) := _root_.id rfl
theorem idop_cvt (al : List (Nat × Nat)) (i : Nat) (d : Option Nat) (x : IV) (g : Option (Nat × Bool)) (bf : List Nat) (hist : List HI) (s : St) (K : List HI → St → Prop) : idop P al i ⟨⟨d, .cvt x, g⟩, bf⟩ hist s K = stepK (kdst al i bf (.cvt x) hist K s d) (aev 0 (.cvt x) (val (get s.env)) (hget s.heap)) := _root_.id rfl
theorem iop_ext (d : Option Nat) (x : IV) (q : Nat) (g : Option (Nat × Bool)) (s : St) (K : St → Prop) : iop P ⟨d, .ext x q, g⟩ s K = stepK (kst K s d) (aev 0 (.ext x q) (val (get s.env)) (hget s.heap)) := _root_.id rfl
theorem idop_ext (al : List (Nat × Nat)) (i : Nat) (d : Option Nat) (x : IV) (q : Nat) (g : Option (Nat × Bool)) (bf : List Nat) (hist : List HI) (s : St) (K : List HI → St → Prop) : idop P al i ⟨⟨d, .ext x q, g⟩, bf⟩ hist s K = stepK (kdst al i bf (.ext x q) hist K s d) (aev 0 (.ext x q) (val (get s.env)) (hget s.heap)) := _root_.id rfl
theorem iop_nchk (d : Option Nat) (x : IV) (g : Option (Nat × Bool)) (s : St) (K : St → Prop) : iop P ⟨d, .nchk x, g⟩ s K = stepK (kst K s d) (aev 0 (.nchk x) (val (get s.env)) (hget s.heap)) := _root_.id rfl
theorem idop_nchk (al : List (Nat × Nat)) (i : Nat) (d : Option Nat) (x : IV) (g : Option (Nat × Bool)) (bf : List Nat) (hist : List HI) (s : St) (K : List HI → St → Prop) : idop P al i ⟨⟨d, .nchk x, g⟩, bf⟩ hist s K = stepK (kdst al i bf (.nchk x) hist K s d) (aev 0 (.nchk x) (val (get s.env)) (hget s.heap)) := _root_.id rfl
theorem iop_mkf (d : Option Nat) (f : FuncId) (cs : List IV) (g : Option (Nat × Bool)) (s : St) (K : St → Prop) : iop P ⟨d, .mkf f cs, g⟩ s K = stepK (kst K s d) (aev 0 (.mkf f cs) (val (get s.env)) (hget s.heap)) := _root_.id rfl
theorem idop_mkf (al : List (Nat × Nat)) (i : Nat) (d : Option Nat) (f : FuncId) (cs : List IV) (g : Option (Nat × Bool)) (bf : List Nat) (hist : List HI) (s : St) (K : List HI → St → Prop) : idop P al i ⟨⟨d, .mkf f cs, g⟩, bf⟩ hist s K = stepK (kdst al i bf (.mkf f cs) hist K s d) (aev 0 (.mkf f cs) (val (get s.env)) (hget s.heap)) := _root_.id rfl
theorem iop_sidx (d : Option Nat) (x q : IV) (g : Option (Nat × Bool)) (s : St) (K : St → Prop) : iop P ⟨d, .sidx x q, g⟩ s K = stepK (kst K s d) (aev 0 (.sidx x q) (val (get s.env)) (hget s.heap)) := _root_.id rfl
theorem idop_sidx (al : List (Nat × Nat)) (i : Nat) (d : Option Nat) (x q : IV) (g : Option (Nat × Bool)) (bf : List Nat) (hist : List HI) (s : St) (K : List HI → St → Prop) : idop P al i ⟨⟨d, .sidx x q, g⟩, bf⟩ hist s K = stepK (kdst al i bf (.sidx x q) hist K s d) (aev 0 (.sidx x q) (val (get s.env)) (hget s.heap)) := _root_.id rfl
theorem iop_new (d : Nat) (t : TypeId) (cs : List AV) (g : Option (Nat × Bool)) (s : St) (K : St → Prop) : iop P ⟨some d, .new t cs, g⟩ s K = (d < 1000 ∧ stepK (kst K (s.kill d) (some d)) (aev d (.new t cs) (val (get (s.kill d).env)) (hget (s.kill d).heap))) := _root_.id rfl
theorem idop_new (al : List (Nat × Nat)) (i d : Nat) (t : TypeId) (cs : List AV) (g : Option (Nat × Bool)) (bf : List Nat) (hist : List HI) (s : St) (K : List HI → St → Prop) : idop P al i ⟨⟨some d, .new t cs, g⟩, bf⟩ hist s K = stepK (kdst al i bf (.new t cs) hist K s (some d)) (aev d (.new t cs) (val (get s.env)) (hget s.heap)) := _root_.id rfl
theorem iop_box (d : Nat) (t : TypeId) (n : Nat) (x : IV) (g : Option (Nat × Bool)) (s : St) (K : St → Prop) : iop P ⟨some d, .box t n x, g⟩ s K = (d < 1000 ∧ stepK (kst K (s.kill d) (some d)) (aev d (.box t n x) (val (get (s.kill d).env)) (hget (s.kill d).heap))) := _root_.id rfl
theorem idop_box (al : List (Nat × Nat)) (i d : Nat) (t : TypeId) (n : Nat) (x : IV) (g : Option (Nat × Bool)) (bf : List Nat) (hist : List HI) (s : St) (K : List HI → St → Prop) : idop P al i ⟨⟨some d, .box t n x, g⟩, bf⟩ hist s K = stepK (kdst al i bf (.box t n x) hist K s (some d)) (aev d (.box t n x) (val (get s.env)) (hget s.heap)) := _root_.id rfl
theorem iop_bsl (d : Nat) (t : TypeId) (st : Nat) (rows : List (List AV)) (ps : List (Nat × IV)) (g : Option (Nat × Bool)) (s : St) (K : St → Prop) : iop P ⟨some d, .bsl t st rows ps, g⟩ s K = (d < 1000 ∧ stepK (kst K (s.kill d) (some d)) (aev d (.bsl t st rows ps) (val (get (s.kill d).env)) (hget (s.kill d).heap))) := _root_.id rfl
theorem idop_bsl (al : List (Nat × Nat)) (i d : Nat) (t : TypeId) (st : Nat) (rows : List (List AV)) (ps : List (Nat × IV)) (g : Option (Nat × Bool)) (bf : List Nat) (hist : List HI) (s : St) (K : List HI → St → Prop) : idop P al i ⟨⟨some d, .bsl t st rows ps, g⟩, bf⟩ hist s K = stepK (kdst al i bf (.bsl t st rows ps) hist K s (some d)) (aev d (.bsl t st rows ps) (val (get s.env)) (hget s.heap)) := _root_.id rfl
theorem iop_app (d : Nat) (t : TypeId) (st : Nat) (x y : IV) (g : Option (Nat × Bool)) (s : St) (K : St → Prop) : iop P ⟨some d, .app t st x y, g⟩ s K = (d < 1000 ∧ stepK (kst K (s.kill d) (some d)) (aev d (.app t st x y) (val (get (s.kill d).env)) (hget (s.kill d).heap))) := _root_.id rfl
theorem idop_app (al : List (Nat × Nat)) (i d : Nat) (t : TypeId) (st : Nat) (x y : IV) (g : Option (Nat × Bool)) (bf : List Nat) (hist : List HI) (s : St) (K : List HI → St → Prop) : idop P al i ⟨⟨some d, .app t st x y, g⟩, bf⟩ hist s K = stepK (kdst al i bf (.app t st x y) hist K s (some d)) (aev d (.app t st x y) (val (get s.env)) (hget s.heap)) := _root_.id rfl
theorem iop_apps (d : Nat) (t : TypeId) (x y : IV) (g : Option (Nat × Bool)) (s : St) (K : St → Prop) : iop P ⟨some d, .apps t x y, g⟩ s K = (d < 1000 ∧ stepK (kst K (s.kill d) (some d)) (aev d (.apps t x y) (val (get (s.kill d).env)) (hget (s.kill d).heap))) := _root_.id rfl
theorem idop_apps (al : List (Nat × Nat)) (i d : Nat) (t : TypeId) (x y : IV) (g : Option (Nat × Bool)) (bf : List Nat) (hist : List HI) (s : St) (K : List HI → St → Prop) : idop P al i ⟨⟨some d, .apps t x y, g⟩, bf⟩ hist s K = stepK (kdst al i bf (.apps t x y) hist K s (some d)) (aev d (.apps t x y) (val (get s.env)) (hget s.heap)) := _root_.id rfl
theorem iop_cvb (d : Nat) (t : TypeId) (x : IV) (g : Option (Nat × Bool)) (s : St) (K : St → Prop) : iop P ⟨some d, .cvb t x, g⟩ s K = (d < 1000 ∧ stepK (kst K (s.kill d) (some d)) (aev d (.cvb t x) (val (get (s.kill d).env)) (hget (s.kill d).heap))) := _root_.id rfl
theorem idop_cvb (al : List (Nat × Nat)) (i d : Nat) (t : TypeId) (x : IV) (g : Option (Nat × Bool)) (bf : List Nat) (hist : List HI) (s : St) (K : List HI → St → Prop) : idop P al i ⟨⟨some d, .cvb t x, g⟩, bf⟩ hist s K = stepK (kdst al i bf (.cvb t x) hist K s (some d)) (aev d (.cvb t x) (val (get s.env)) (hget s.heap)) := _root_.id rfl
theorem iop_mks (d : Nat) (t : TypeId) (st : Nat) (z : List AV) (l c : IV) (g : Option (Nat × Bool)) (s : St) (K : St → Prop) : iop P ⟨some d, .mks t st z l c, g⟩ s K = (d < 1000 ∧ stepK (kst K (s.kill d) (some d)) (aev d (.mks t st z l c) (val (get (s.kill d).env)) (hget (s.kill d).heap))) := _root_.id rfl
theorem idop_mks (al : List (Nat × Nat)) (i d : Nat) (t : TypeId) (st : Nat) (z : List AV) (l c : IV) (g : Option (Nat × Bool)) (bf : List Nat) (hist : List HI) (s : St) (K : List HI → St → Prop) : idop P al i ⟨⟨some d, .mks t st z l c, g⟩, bf⟩ hist s K = stepK (kdst al i bf (.mks t st z l c) hist K s (some d)) (aev d (.mks t st z l c) (val (get s.env)) (hget s.heap)) := _root_.id rfl

/-! ### Values -/
theorem ae_mov (d : Nat) (x : IV) (ρ : IV → AV) (h : Nat → Option AObj) : aev d (.mov x) ρ h = some (ρ x, .no) := rfl
def pickA (c a b : AV) : Option (AV × Eff) :=
  match c with
  | .bool true => some (a, .no)
  | .bool false => some (b, .no)
  | _ => none
theorem ae_pick (d : Nat) (c a b : IV) (ρ : IV → AV) (h : Nat → Option AObj) : aev d (.pick c a b) ρ h = pickA (ρ c) (ρ a) (ρ b) := rfl
theorem pickA_t (a b : AV) : pickA (.bool true) a b = some (a, .no) := rfl
theorem pickA_f (a b : AV) : pickA (.bool false) a b = some (b, .no) := rfl
theorem stepK_pick (K : AV → Eff → Prop) (t : Bool) (a b : AV) : stepK K (pickA (.bool t) a b) = ((t = true → K a .no) ∧ (t = false → K b .no)) := by cases t <;> simp [stepK, pickA]
theorem pickA_bb (t x y : Bool) : pickA (.bool t) (.bool x) (.bool y) = some (.bool (bif t then x else y), .no) := by cases t <;> rfl

theorem ae_new (d : Nat) (t : TypeId) (cs : List AV) (ρ : IV → AV) (h : Nat → Option AObj) : aev d (.new t cs) ρ h = some (.mp d cs.length 0 0, .new d ⟨t, cs.length, [cs], true⟩) := _root_.id rfl
def boxA (d : Nat) (t : TypeId) (n : Nat) (x : Option (List AV)) : Option (AV × Eff) :=
  match x with
  | some cs => if cs.length = n ∧ (cs.all fun y => !(mC d y)) = true then some (.mp d n 0 0, .new d ⟨t, n, [cs], true⟩) else none
  | none => none
theorem boxA_some (d : Nat) (t : TypeId) (n : Nat) (cs : List AV) : boxA d t n (some cs) = if cs.length = n ∧ (cs.all fun y => !(mC d y)) = true then some (.mp d n 0 0, .new d ⟨t, n, [cs], true⟩) else none := rfl
theorem ae_box (d : Nat) (t : TypeId) (n : Nat) (x : IV) (ρ : IV → AV) (h : Nat → Option AObj) : aev d (.box t n x) ρ h = boxA d t n (cellsA (ρ x)) := _root_.id rfl
theorem ae_build (d : Nat) (cs : List AV) (ps : List (Nat × Nat × IV)) (ρ : IV → AV) (h : Nat → Option AObj) : aev d (.build cs ps) ρ h = res ((aParts ρ cs ps).map .agg) := _root_.id rfl
def bslA (d : Nat) (t : TypeId) (st : Nat) (x : Option (List (List AV))) : Option (AV × Eff) :=
  match x with
  | some rs => some (.ms d st 0 rs.length, .new d ⟨t, st, rs, false⟩)
  | none => none
theorem bslA_some (d : Nat) (t : TypeId) (st : Nat) (rs : List (List AV)) : bslA d t st (some rs) = some (.ms d st 0 rs.length, .new d ⟨t, st, rs, false⟩) := rfl
theorem ae_bsl (d : Nat) (t : TypeId) (st : Nat) (rows : List (List AV)) (ps : List (Nat × IV)) (ρ : IV → AV) (h : Nat → Option AObj) : aev d (.bsl t st rows ps) ρ h = bslA d t st (aRows ρ st rows ps) := _root_.id rfl
theorem ae_load (d : Nat) (n : Option Nat) (p : IV) (ρ : IV → AV) (h : Nat → Option AObj) : aev d (.load n p) ρ h = res (aLoad n (ρ p) h) := _root_.id rfl
def stoA (x : Option Eff) : Option (AV × Eff) := x.map fun e => (.any, e)
theorem stoA_some (e : Eff) : stoA (some e) = some (.any, e) := rfl
theorem stoA_ite (c : Prop) [Decidable c] (x : Option Eff) : stoA (if c then x else none) = if c then stoA x else none := by split <;> rfl
theorem ae_store (d : Nat) (n : Nat) (p x : IV) (ρ : IV → AV) (h : Nat → Option AObj) : aev d (.store n p x) ρ h = stoA (aStore n (ρ p) (ρ x) h) := _root_.id rfl
theorem ae_fadr (d : Nat) (o : Nat) (p : IV) (ρ : IV → AV) (h : Nat → Option AObj) : aev d (.fadr o p) ρ h = res (aFadr o (ρ p)) := _root_.id rfl
theorem ae_fld (d : Nat) (o : Nat) (n : Option Nat) (x : IV) (ρ : IV → AV) (h : Nat → Option AObj) : aev d (.fld o n x) ρ h = res (aFld o n (ρ x)) := _root_.id rfl
theorem ae_iadr (d : Nat) (st : Nat) (x q : IV) (ρ : IV → AV) (h : Nat → Option AObj) : aev d (.iadr st x q) ρ h = res (aIadr st (ρ x) (ρ q)) := _root_.id rfl
theorem ae_aadr (d : Nat) (st n : Nat) (x q : IV) (ρ : IV → AV) (h : Nat → Option AObj) : aev d (.aadr st n x q) ρ h = res (aAadr st n (ρ x) (ρ q)) := _root_.id rfl
theorem ae_mnx (d : Nat) (m : Bool) (x y : IV) (ρ : IV → AV) (h : Nat → Option AObj) : aev d (.mnx m x y) ρ h = res (aMnx m (ρ x) (ρ y)) := _root_.id rfl
theorem ae_slc (d : Nat) (st : Nat) (x : IV) (lo hi mx : Option IV) (ρ : IV → AV) (h : Nat → Option AObj) : aev d (.slc st x lo hi mx) ρ h = res (aSlc st (ρ x) (lo.map ρ) (hi.map ρ) (mx.map ρ)) := _root_.id rfl
theorem ae_len (d : Nat) (x : IV) (ρ : IV → AV) (h : Nat → Option AObj) : aev d (.len x) ρ h = res (aLen (ρ x)) := _root_.id rfl
theorem ae_slen (d : Nat) (x : IV) (ρ : IV → AV) (h : Nat → Option AObj) : aev d (.slen x) ρ h = res (aSlen (ρ x)) := _root_.id rfl
theorem ae_app (d : Nat) (t : TypeId) (st : Nat) (x y : IV) (ρ : IV → AV) (h : Nat → Option AObj) : aev d (.app t st x y) ρ h = aApp d t st (ρ x) (rowsA st h (ρ y)) h := _root_.id rfl
theorem ae_apps (d : Nat) (t : TypeId) (x y : IV) (ρ : IV → AV) (h : Nat → Option AObj) : aev d (.apps t x y) ρ h = aApp d t 1 (ρ x) (srcS (ρ y)) h := _root_.id rfl
theorem ae_sslc (d : Nat) (x : IV) (lo hi : Option IV) (ρ : IV → AV) (h : Nat → Option AObj) : aev d (.sslc x lo hi) ρ h = res (aSslc (ρ x) (lo.map ρ) (hi.map ρ)) := _root_.id rfl
theorem ae_bin (d : Nat) (o : BinOp) (x y : IV) (ρ : IV → AV) (h : Nat → Option AObj) : aev d (.bin o x y) ρ h = res (aBin o (ρ x) (ρ y)) := _root_.id rfl
theorem ae_bbin (d : Nat) (o : BinOp) (x y : IV) (ρ : IV → AV) (h : Nat → Option AObj) : aev d (.bbin o x y) ρ h = res (aBbin o (ρ x) (ρ y)) := _root_.id rfl
theorem ae_pbin (d : Nat) (o : BinOp) (x y : IV) (ρ : IV → AV) (h : Nat → Option AObj) : aev d (.pbin o x y) ρ h = res (aPbin o (ρ x) (ρ y)) := _root_.id rfl
theorem ae_un (d : Nat) (o : UnOp) (x : IV) (ρ : IV → AV) (h : Nat → Option AObj) : aev d (.un o x) ρ h = res (aUn o (ρ x)) := _root_.id rfl
def cviA (k : IntKind) (x : AV) : Option (AV × Eff) :=
  match x with
  | .int _ n => some (.int k (k.wrap n), .no)
  | _ => none
theorem cviA_int (k k' : IntKind) (n : Int) : cviA k (.int k' n) = some (.int k (k.wrap n), .no) := rfl
def cvsA (x : Option (List (List AV))) : Option (AV × Eff) :=
  match x with
  | some rows => res ((bytesA rows).map .str)
  | none => none
theorem cvsA_some (rows : List (List AV)) : cvsA (some rows) = res ((bytesA rows).map .str) := rfl
theorem cvsA_ite (c : Prop) [Decidable c] (x : Option (List (List AV))) : cvsA (if c then x else none) = if c then cvsA x else none := by split <;> rfl
def cvbA (d : Nat) (t : TypeId) (x : AV) : Option (AV × Eff) :=
  match x with
  | .str s => if s.length < 1073741824 then some (.ms d 1 0 s.length, .new d ⟨t, 1, s.map fun b => [.int .u8 b.toNat], false⟩) else none
  | _ => none
theorem cvbA_str (d : Nat) (t : TypeId) (s : List UInt8) : cvbA d t (.str s) = if s.length < 1073741824 then some (.ms d 1 0 s.length, .new d ⟨t, 1, s.map fun b => [.int .u8 b.toNat], false⟩) else none := rfl
def extA (i : Nat) (x : AV) : Option (AV × Eff) :=
  match x with
  | .tup vs => res (vs[i]?)
  | _ => none
theorem extA_tup (i : Nat) (vs : List AV) : extA i (.tup vs) = res (vs[i]?) := rfl
def nchkA (x : AV) : Option (AV × Eff) :=
  match x with
  | .mp id st row off => some (.mp id st row off, .no)
  | .ip cells => some (.ip cells, .no)
  | .fn f caps => some (.fn f caps, .no)
  | _ => none
theorem nchkA_mp (id st row off : Nat) : nchkA (.mp id st row off) = some (.mp id st row off, .no) := rfl
theorem nchkA_ip (cells : List AV) : nchkA (.ip cells) = some (.ip cells, .no) := rfl
theorem nchkA_fn (f : FuncId) (caps : List AV) : nchkA (.fn f caps) = some (.fn f caps, .no) := rfl
def cvtA (x : AV) : Option (AV × Eff) :=
  match x with
  | .str s => some (.str s, .no)
  | _ => none
theorem cvtA_str (s : List UInt8) : cvtA (.str s) = some (.str s, .no) := rfl
def sidxA (x i : AV) : Option (AV × Eff) :=
  match x, i with
  | .str s, .int _ n => if 0 ≤ n then (match s[n.toNat]? with | some b => some (.int .u8 b.toNat, .no) | none => none) else none
  | _, _ => none
theorem sidxA_str (K : AV → Eff → Prop) (s : List UInt8) (k : IntKind) (n : Int) : stepK K (sidxA (.str s) (.int k n)) = (0 ≤ n ∧ n < s.length ∧ K (.int .u8 (nth s n.toNat).toNat) .no) := by
  simp only [sidxA]
  by_cases h : 0 ≤ n
  · rw [if_pos h]
    by_cases h2 : n.toNat < s.length
    · rw [List.getElem?_eq_getElem h2]
      rw [nth_eq h2]
      simp only [stepK]
      exact propext ⟨fun hk => ⟨h, by omega, hk⟩, fun hk => hk.2.2⟩
    · rw [List.getElem?_eq_none (by omega)]
      simp only [stepK]
      exact propext ⟨fun hk => hk.elim, fun hk => by omega⟩
  · rw [if_neg h]
    simp only [stepK]
    exact propext ⟨fun hk => hk.elim, fun hk => absurd hk.1 h⟩
def mksA (d : Nat) (t : TypeId) (st : Nat) (zero : List AV) (l cp : AV) : Option (AV × Eff) :=
  match l, cp with
  | .int .i64 n, .int .i64 m => if 0 ≤ n ∧ n ≤ m ∧ m < 1073741824 ∧ zero.length = st then some (.ms d st 0 n.toNat, .new d ⟨t, st, List.replicate n.toNat zero, false⟩) else none
  | _, _ => none
theorem mksA_int (d : Nat) (t : TypeId) (st : Nat) (zero : List AV) (n m : Int) : mksA d t st zero (.int .i64 n) (.int .i64 m) = if 0 ≤ n ∧ n ≤ m ∧ m < 1073741824 ∧ zero.length = st then some (.ms d st 0 n.toNat, .new d ⟨t, st, List.replicate n.toNat zero, false⟩) else none := rfl
theorem ae_cvi (d : Nat) (k : IntKind) (x : IV) (ρ : IV → AV) (h : Nat → Option AObj) : aev d (.cvi k x) ρ h = cviA k (ρ x) := _root_.id rfl
theorem ae_cvs (d : Nat) (x : IV) (ρ : IV → AV) (h : Nat → Option AObj) : aev d (.cvs x) ρ h = cvsA (rowsA 1 h (ρ x)) := _root_.id rfl
theorem ae_cvb (d : Nat) (t : TypeId) (x : IV) (ρ : IV → AV) (h : Nat → Option AObj) : aev d (.cvb t x) ρ h = cvbA d t (ρ x) := _root_.id rfl
theorem ae_cvt (d : Nat) (x : IV) (ρ : IV → AV) (h : Nat → Option AObj) : aev d (.cvt x) ρ h = cvtA (ρ x) := _root_.id rfl
theorem ae_ext (d : Nat) (x : IV) (q : Nat) (ρ : IV → AV) (h : Nat → Option AObj) : aev d (.ext x q) ρ h = extA q (ρ x) := _root_.id rfl
theorem ae_nchk (d : Nat) (x : IV) (ρ : IV → AV) (h : Nat → Option AObj) : aev d (.nchk x) ρ h = nchkA (ρ x) := _root_.id rfl
theorem ae_sidx (d : Nat) (x q : IV) (ρ : IV → AV) (h : Nat → Option AObj) : aev d (.sidx x q) ρ h = sidxA (ρ x) (ρ q) := _root_.id rfl
theorem ae_mks (d : Nat) (t : TypeId) (st : Nat) (z : List AV) (l c : IV) (ρ : IV → AV) (h : Nat → Option AObj) : aev d (.mks t st z l c) ρ h = mksA d t st z (ρ l) (ρ c) := _root_.id rfl
theorem ae_mkf (d : Nat) (f : FuncId) (cs : List IV) (ρ : IV → AV) (h : Nat → Option AObj) : aev d (.mkf f cs) ρ h = if (cs.map ρ).all capA = true then some (.fn f (cs.map ρ), .no) else none := _root_.id rfl
theorem aBin_add (k : IntKind) (a b : Int) : aBin .add (.int k a) (.int k b) = some (.int k (k.wrap (a + b))) := by cases k <;> rfl
theorem aBin_sub (k : IntKind) (a b : Int) : aBin .sub (.int k a) (.int k b) = some (.int k (k.wrap (a - b))) := by cases k <;> rfl
theorem aBin_mul (k : IntKind) (a b : Int) : aBin .mul (.int k a) (.int k b) = some (.int k (k.wrap (a * b))) := by cases k <;> rfl
theorem aBin_eql (k : IntKind) (a b : Int) : aBin .eql (.int k a) (.int k b) = some (.bool (a == b)) := by cases k <;> rfl
theorem aBin_neq (k : IntKind) (a b : Int) : aBin .neq (.int k a) (.int k b) = some (.bool (a != b)) := by cases k <;> rfl
theorem aBin_lss (k : IntKind) (a b : Int) : aBin .lss (.int k a) (.int k b) = some (.bool (decide (a < b))) := by cases k <;> rfl
theorem aBin_leq (k : IntKind) (a b : Int) : aBin .leq (.int k a) (.int k b) = some (.bool (decide (a ≤ b))) := by cases k <;> rfl
theorem aBin_gtr (k : IntKind) (a b : Int) : aBin .gtr (.int k a) (.int k b) = some (.bool (decide (a > b))) := by cases k <;> rfl
theorem aBin_geq (k : IntKind) (a b : Int) : aBin .geq (.int k a) (.int k b) = some (.bool (decide (a ≥ b))) := by cases k <;> rfl
theorem aBin_quo (k : IntKind) (a b : Int) : aBin .quo (.int k a) (.int k b) = if b = 0 then none else some (.int k (k.wrap (a.tdiv b))) := by cases k <;> rfl
theorem aBin_rem (k : IntKind) (a b : Int) : aBin .rem (.int k a) (.int k b) = if b = 0 then none else some (.int k (a.tmod b)) := by cases k <;> rfl
def b_and (k : IntKind) (a b : Int) : Int := k.wrap ((BitVec.ofInt k.bits a &&& BitVec.ofInt k.bits b).toNat)
theorem aBin_and (k : IntKind) (a b : Int) : aBin .and (.int k a) (.int k b) = some (.int k (b_and k a b)) := by cases k <;> rfl
def b_or (k : IntKind) (a b : Int) : Int := k.wrap ((BitVec.ofInt k.bits a ||| BitVec.ofInt k.bits b).toNat)
theorem aBin_or (k : IntKind) (a b : Int) : aBin .or (.int k a) (.int k b) = some (.int k (b_or k a b)) := by cases k <;> rfl
def b_xor (k : IntKind) (a b : Int) : Int := k.wrap ((BitVec.ofInt k.bits a ^^^ BitVec.ofInt k.bits b).toNat)
theorem aBin_xor (k : IntKind) (a b : Int) : aBin .xor (.int k a) (.int k b) = some (.int k (b_xor k a b)) := by cases k <;> rfl
def b_andNot (k : IntKind) (a b : Int) : Int := k.wrap ((BitVec.ofInt k.bits a &&& ~~~ (BitVec.ofInt k.bits b)).toNat)
theorem aBin_andNot (k : IntKind) (a b : Int) : aBin .andNot (.int k a) (.int k b) = some (.int k (b_andNot k a b)) := by cases k <;> rfl
def b_shl (k : IntKind) (a b : Int) : Int := k.wrap (a * 2 ^ (min b.toNat k.bits))
def b_shr (k : IntKind) (a b : Int) : Int := a.fdiv (2 ^ (min b.toNat k.bits))
theorem aBin_shl (k k1 : IntKind) (a b : Int) : aBin .shl (.int k a) (.int k1 b) = if b < 0 then none else some (.int k (b_shl k a b)) := _root_.id rfl
theorem aBin_shr (k k1 : IntKind) (a b : Int) : aBin .shr (.int k a) (.int k1 b) = if b < 0 then none else some (.int k (b_shr k a b)) := _root_.id rfl
theorem aBin_sadd (a b : List UInt8) : aBin .add (.str a) (.str b) = if a.length + b.length < 4611686018427387904 then some (.str (a ++ b)) else none := _root_.id rfl
theorem aBin_seql (a b : List UInt8) : aBin .eql (.str a) (.str b) = some (.bool (a == b)) := _root_.id rfl
theorem aBin_sneq (a b : List UInt8) : aBin .neq (.str a) (.str b) = some (.bool (!(a == b))) := _root_.id rfl
theorem aBin_slss (a b : List UInt8) : aBin .lss (.str a) (.str b) = some (.bool (Op.bytesLess a b)) := _root_.id rfl
theorem aBin_sleq (a b : List UInt8) : aBin .leq (.str a) (.str b) = some (.bool (Op.bytesLess a b || a == b)) := _root_.id rfl
theorem aBin_sgtr (a b : List UInt8) : aBin .gtr (.str a) (.str b) = some (.bool (!(Op.bytesLess a b || a == b))) := _root_.id rfl
theorem aBin_sgeq (a b : List UInt8) : aBin .geq (.str a) (.str b) = some (.bool (!(Op.bytesLess a b))) := _root_.id rfl
theorem aBbin_eql (a b : Bool) : aBbin .eql (.bool a) (.bool b) = some (.bool (a == b)) := rfl
theorem aBbin_neq (a b : Bool) : aBbin .neq (.bool a) (.bool b) = some (.bool (!(a == b))) := rfl
theorem aUn_not (a : Bool) : aUn .not (.bool a) = some (.bool (!a)) := rfl
theorem aUn_neg (k : IntKind) (n : Int) : aUn .neg (.int k n) = some (.int k (k.wrap (0 - n))) := rfl
theorem aPbin_e1 : aPbin .eql .np .np = some (.bool true) := rfl
theorem aPbin_e2 (id st row off : Nat) : aPbin .eql (.mp id st row off) .np = some (.bool false) := rfl
theorem aPbin_e3 (cells : List AV) : aPbin .eql (.ip cells) .np = some (.bool false) := rfl
theorem aPbin_n1 : aPbin .neq .np .np = some (.bool false) := rfl
theorem aPbin_n2 (id st row off : Nat) : aPbin .neq (.mp id st row off) .np = some (.bool true) := rfl
theorem aPbin_n3 (cells : List AV) : aPbin .neq (.ip cells) .np = some (.bool true) := rfl
theorem aLen_sl (st : Nat) (rows : List (List AV)) : aLen (.sl st rows) = some (.int .i64 rows.length) := rfl
theorem aLen_ms (id st off len : Nat) : aLen (.ms id st off len) = some (.int .i64 len) := rfl
theorem aLen_nl : aLen .nl = some (.int .i64 0) := rfl
theorem aSlen_str (s : List UInt8) : aSlen (.str s) = some (.int .i64 s.length) := rfl
theorem aLoad_ip (n : Option Nat) (cells : List AV) (h : Nat → Option AObj) : aLoad n (.ip cells) h = ldc n cells := rfl
/-- A load out of an object. -/
def ldO (n : Option Nat) (st row off : Nat) (o : Option AObj) : Option AV :=
  match o with
  | some o => if o.st = st then (match o.rows[row]? with | some r => ldc n (r.drop off) | none => none) else none
  | none => none
theorem aLoad_mp (n : Option Nat) (id st row off : Nat) (h : Nat → Option AObj) : aLoad n (.mp id st row off) h = ldO n st row off (h id) := rfl
theorem ldO_rec (n : Option Nat) (st off : Nat) (t : TypeId) (r : List AV) (b : Bool) : ldO n st 0 off (some ⟨t, st, [r], b⟩) = ldc n (r.drop off) := by simp [ldO]
theorem ldO_map {α : Type} [Inhabited α] (K : AV → Eff → Prop) (n : Option Nat) (st row off : Nat) (t : TypeId) (l : List α) (f : α → List AV) (b : Bool) :
    stepK K (res (ldO n st row off (some ⟨t, st, l.map f, b⟩))) = (row < l.length ∧ stepK K (res (ldc n ((f (nth l row)).drop off)))) := by
  simp only [ldO, if_true]
  by_cases h2 : row < l.length
  · rw [List.getElem?_map, List.getElem?_eq_getElem h2, nth_eq h2]
    simp [h2]
  · rw [List.getElem?_eq_none (by simpa using h2)]
    simp [h2, res, stepK]
theorem ldc_n (x : AV) (r : List AV) : ldc none (x :: r) = some x := rfl
theorem ldc_s (n : Nat) (r : List AV) : ldc (some n) r = if n ≤ r.length then some (.agg (r.take n)) else none := rfl
/-- A store into an object. -/
def stO (id n st row off : Nat) (o : Option AObj) (cs : Option (List AV)) : Option Eff :=
  match cs with
  | some cs => match o with
    | some o => if o.st = st ∧ cs.length = n ∧ (o.isRec || cs.all immA) = true then (match o.rows[row]? with
      | some r => if off + n ≤ r.length then some (.put id { o with rows := o.rows.set row (splice r off cs) }) else none
      | none => none) else none
    | none => none
  | none => none
theorem aStore_mp (n id st row off : Nat) (x : AV) (h : Nat → Option AObj) : aStore n (.mp id st row off) x h = stO id n st row off (h id) (cellsA x) := by
  unfold aStore stO
  cases cellsA x <;> rfl
theorem stO_rec (id n st off : Nat) (t : TypeId) (r cs : List AV) : stO id n st 0 off (some ⟨t, st, [r], true⟩) (some cs) = if cs.length = n ∧ off + n ≤ r.length then some (.put id ⟨t, st, [splice r off cs], true⟩) else none := by
  simp only [stO, true_and, Bool.true_or, and_true, List.getElem?_cons_zero, List.set_cons_zero]
  by_cases h1 : cs.length = n <;> by_cases h2 : off + n ≤ r.length <;> simp [h1, h2]
theorem stO_arr (id n st row : Nat) (t : TypeId) (rows : List (List AV)) (cs : List AV) (hn : ∀ r ∈ rows, r.length = n) : stO id n st row 0 (some ⟨t, st, rows, false⟩) (some cs) = if cs.length = n ∧ cs.all immA = true ∧ row < rows.length then some (.put id ⟨t, st, rows.set row cs, false⟩) else none := by
  simp only [stO, true_and, Bool.false_or]
  by_cases h3 : row < rows.length
  · rw [List.getElem?_eq_getElem h3]
    have hl := hn _ (List.getElem_mem h3)
    by_cases h1 : cs.length = n <;> by_cases h2 : cs.all immA = true <;> simp [h1, h2, h3, hl, splice]
    rw [List.drop_eq_nil_of_le (by omega), List.append_nil]
  · rw [List.getElem?_eq_none (by omega)]
    simp [h3]
theorem aFadr_ip (off : Nat) (cells : List AV) : aFadr off (.ip cells) = some (.ip (cells.drop off)) := rfl
theorem aFadr_mp (off id st row o : Nat) : aFadr off (.mp id st row o) = some (.mp id st row (o + off)) := rfl
theorem aFld_agg (off : Nat) (n : Option Nat) (cells : List AV) : aFld off n (.agg cells) = ldc n (cells.drop off) := rfl
theorem aIadr_map {α : Type} [Inhabited α] (K : AV → Eff → Prop) (st : Nat) (l : List α) (f : α → List AV) (k : IntKind) (n : Int) :
    stepK K (res (aIadr st (.sl st (l.map f)) (.int k n))) = (0 ≤ n ∧ n < l.length ∧ K (.ip (f (nth l n.toNat))) .no) := by
  simp only [aIadr, true_and]
  by_cases h : 0 ≤ n
  · rw [if_pos h]
    by_cases h2 : n.toNat < l.length
    · rw [List.getElem?_map, List.getElem?_eq_getElem h2, nth_eq h2]
      simp only [Option.map_some, res, stepK]
      exact propext ⟨fun hk => ⟨h, by omega, hk⟩, fun hk => hk.2.2⟩
    · rw [List.getElem?_eq_none (by simp; omega)]
      exact propext ⟨fun hk => hk.elim, fun hk => by omega⟩
  · rw [if_neg h]
    exact propext ⟨fun hk => hk.elim, fun hk => absurd hk.1 h⟩
theorem aAadr_ip (st n : Nat) (cells : List AV) (k : IntKind) (j : Int) : aAadr st n (.ip cells) (.int k j) = if 0 ≤ j ∧ j < n then some (.ip (cells.drop (j.toNat * st))) else none := rfl
theorem aAadr_mp (st n id s row off : Nat) (k : IntKind) (j : Int) : aAadr st n (.mp id s row off) (.int k j) = if 0 ≤ j ∧ j < n then some (.mp id s row (off + j.toNat * st)) else none := rfl
theorem aMnx_min (k : IntKind) (n m : Int) : aMnx false (.int k n) (.int k m) = some (.int k (if m < n then m else n)) := by simp [aMnx]
theorem aMnx_max (k : IntKind) (n m : Int) : aMnx true (.int k n) (.int k m) = some (.int k (if n < m then m else n)) := by simp [aMnx]
theorem aIadr_ms (id st off len : Nat) (k : IntKind) (n : Int) : aIadr st (.ms id st off len) (.int k n) = if 0 ≤ n ∧ n < len then some (.mp id st (off + n.toNat) 0) else none := by simp [aIadr]
theorem aSlc_ms0 (id st off len : Nat) : aSlc st (.ms id st off len) none none none = some (.ms id st off len) := by simp [aSlc, aBound]
theorem aSlc_msh (id st off len : Nat) (k : IntKind) (n : Int) : aSlc st (.ms id st off len) none (some (.int k n)) none = if 0 ≤ n ∧ n ≤ len then some (.ms id st off n.toNat) else none := by
  simp only [aSlc, aBound]
  by_cases h : 0 ≤ n <;> by_cases h2 : n ≤ len <;> simp [h, h2] <;> omega
theorem aSlc_msl (id st off len : Nat) (k : IntKind) (n : Int) : aSlc st (.ms id st off len) (some (.int k n)) none none = if 0 ≤ n ∧ n ≤ len then some (.ms id st (off + n.toNat) (len - n.toNat)) else none := by
  simp only [aSlc, aBound]
  by_cases h : 0 ≤ n <;> by_cases h2 : n ≤ len <;> simp [h, h2] <;> omega
theorem aSlc_mslh (id st off len : Nat) (k k' : IntKind) (n m : Int) : aSlc st (.ms id st off len) (some (.int k n)) (some (.int k' m)) none = if 0 ≤ n ∧ n ≤ m ∧ m ≤ len then some (.ms id st (off + n.toNat) (m - n).toNat) else none := by
  simp only [aSlc, aBound]
  by_cases h : 0 ≤ n
  · by_cases h1 : n ≤ m
    · have hm : 0 ≤ m := by omega
      by_cases h2 : m ≤ len
      · have : m.toNat - n.toNat = (m - n).toNat := by omega
        simp [h, h1, h2, hm, this]; omega
      · simp [h, h1, h2, hm] <;> omega
    · by_cases hm : 0 ≤ m <;> simp [h, h1, hm]; omega
  · simp [h]
theorem aSlc_sl0 (st : Nat) (rows : List (List AV)) : aSlc st (.sl st rows) none none none = some (.sl st rows) := by simp [aSlc, aBound]
theorem aSlc_slh {α : Type} (st : Nat) (f : α → List AV) (l : List α) (k : IntKind) (n : Int) : aSlc st (.sl st (l.map f)) none (some (.int k n)) none = if 0 ≤ n ∧ n ≤ l.length then some (.sl st ((l.take n.toNat).map f)) else none := by
  simp only [aSlc, aBound]
  by_cases h : 0 ≤ n <;> by_cases h2 : n ≤ l.length <;> simp [h, h2, List.map_take] <;> omega
theorem aSlc_sll {α : Type} (st : Nat) (f : α → List AV) (l : List α) (k : IntKind) (n : Int) : aSlc st (.sl st (l.map f)) (some (.int k n)) none none = if 0 ≤ n ∧ n ≤ l.length then some (.sl st ((l.drop n.toNat).map f)) else none := by
  simp only [aSlc, aBound]
  have : (l.drop n.toNat).map f = List.take (l.length - n.toNat) (List.drop n.toNat (l.map f)) := by rw [List.map_drop, List.take_of_length_le (by simp)]
  by_cases h : 0 ≤ n <;> by_cases h2 : n ≤ l.length <;> simp [h, h2, this] <;> omega
theorem aSlc_sllh {α : Type} (st : Nat) (f : α → List AV) (l : List α) (k k' : IntKind) (n m : Int) : aSlc st (.sl st (l.map f)) (some (.int k n)) (some (.int k' m)) none = if 0 ≤ n ∧ n ≤ m ∧ m ≤ l.length then some (.sl st (((l.drop n.toNat).take (m - n).toNat).map f)) else none := by
  simp only [aSlc, aBound]
  by_cases h : 0 ≤ n
  · by_cases h1 : n ≤ m
    · have hm : 0 ≤ m := by omega
      by_cases h2 : m ≤ l.length
      · have : m.toNat - n.toNat = (m - n).toNat := by omega
        simp [h, h1, h2, hm, this, List.map_take, List.map_drop]; omega
      · simp [h, h1, h2, hm] <;> omega
    · by_cases hm : 0 ≤ m <;> simp [h, h1, hm]; omega
  · simp [h]
theorem aSlc_nl0 (st : Nat) : aSlc st .nl none none none = some .nl := by simp [aSlc, aBound]
theorem aSlc_nlh (st : Nat) (k : IntKind) (n : Int) : aSlc st .nl none (some (.int k n)) none = if n = 0 then some .nl else none := by
  simp only [aSlc, aBound]
  by_cases h : 0 ≤ n <;> by_cases h2 : n = 0 <;> simp [h, h2] <;> omega
theorem aSlc_nll (st : Nat) (k : IntKind) (n : Int) : aSlc st .nl (some (.int k n)) none none = if n = 0 then some .nl else none := by
  simp only [aSlc, aBound]
  by_cases h : 0 ≤ n <;> by_cases h2 : n = 0 <;> simp [h, h2] <;> omega
theorem aSslc_0 (s : List UInt8) : aSslc (.str s) none none = some (.str s) := by simp [aSslc, aBound]
theorem aSslc_h (s : List UInt8) (k : IntKind) (n : Int) : aSslc (.str s) none (some (.int k n)) = if 0 ≤ n ∧ n ≤ s.length then some (.str (s.take n.toNat)) else none := by
  simp only [aSslc, aBound]
  by_cases h : 0 ≤ n <;> by_cases h2 : n ≤ s.length <;> simp [h, h2] <;> omega
theorem aSslc_l (s : List UInt8) (k : IntKind) (n : Int) : aSslc (.str s) (some (.int k n)) none = if 0 ≤ n ∧ n ≤ s.length then some (.str (s.drop n.toNat)) else none := by
  simp only [aSslc, aBound]
  have : s.drop n.toNat = List.take (s.length - n.toNat) (List.drop n.toNat s) := by rw [List.take_of_length_le (by simp)]
  by_cases h : 0 ≤ n <;> by_cases h2 : n ≤ s.length <;> simp [h, h2, ← this] <;> omega
theorem aSslc_lh (s : List UInt8) (k k' : IntKind) (n m : Int) : aSslc (.str s) (some (.int k n)) (some (.int k' m)) = if 0 ≤ n ∧ n ≤ m ∧ m ≤ s.length then some (.str ((s.drop n.toNat).take (m - n).toNat)) else none := by
  simp only [aSslc, aBound]
  by_cases h : 0 ≤ n
  · by_cases h1 : n ≤ m
    · have hm : 0 ≤ m := by omega
      by_cases h2 : m ≤ s.length
      · have : m.toNat - n.toNat = (m - n).toNat := by omega
        simp [h, h1, h2, hm, this]; omega
      · simp [h, h1, h2, hm] <;> omega
    · by_cases hm : 0 ≤ m <;> simp [h, h1, hm]; omega
  · simp [h]
theorem aBound_n (d : Nat) : aBound d none = some d := rfl
theorem aBound_s (d : Nat) (k : IntKind) (n : Int) : aBound d (some (.int k n)) = if 0 ≤ n then some n.toNat else none := rfl
theorem aApp_nl (d : Nat) (t : TypeId) (st : Nat) (ys : List (List AV)) (h : Nat → Option AObj) : aApp d t st .nl (some ys) h = if ys.length < 1073741824 then some (.ms d st 0 ys.length, .new d ⟨t, st, ys, false⟩) else none := rfl
def appO (id : Nat) (t : TypeId) (st off len : Nat) (ys : List (List AV)) (o : Option AObj) : Option (AV × Eff) :=
  if ys.length < 1073741824 then (match o with
      | some o => if o.st = st ∧ o.t = t ∧ o.isRec = false ∧ off = 0 ∧ len ≤ o.rows.length ∧ len < 1073741824 ∧ (id < 1000 ∨ 2000 ≤ id) then
          some (.ms id st 0 (len + ys.length), .reb id ⟨t, st, o.rows.take len ++ ys, false⟩) else none
      | none => none) else none
theorem aApp_ms (d id : Nat) (t : TypeId) (st off len : Nat) (ys : List (List AV)) (h : Nat → Option AObj) : aApp d t st (.ms id st off len) (some ys) h = appO id t st off len ys (h id) := by
  simp only [aApp, appO, true_and]
  cases h id <;> rfl
theorem appO_full (id : Nat) (t : TypeId) (st len : Nat) (rows ys : List (List AV)) (hl : rows.length = len) : appO id t st 0 len ys (some ⟨t, st, rows, false⟩) =
    if ys.length < 1073741824 ∧ len < 1073741824 ∧ (id < 1000 ∨ 2000 ≤ id) then some (.ms id st 0 (len + ys.length), .reb id ⟨t, st, rows ++ ys, false⟩) else none := by
  subst hl
  simp only [appO, true_and, Nat.le_refl, List.take_length]
  by_cases h1 : ys.length < 1073741824 <;> simp [h1]
theorem rowsA_nl (st : Nat) (h : Nat → Option AObj) : rowsA st h .nl = some [] := rfl
theorem rowsA_sl (st : Nat) (h : Nat → Option AObj) (rows : List (List AV)) : rowsA st h (.sl st rows) = some rows := by simp [rowsA]
def rowO (st off len : Nat) (o : Option AObj) : Option (List (List AV)) :=
  match o with
  | some o => if o.st = st ∧ o.isRec = false ∧ off + len ≤ o.rows.length then some ((o.rows.drop off).take len) else none
  | none => none
theorem rowsA_ms (st : Nat) (h : Nat → Option AObj) (id off len : Nat) : rowsA st h (.ms id st off len) = rowO st off len (h id) := by simp only [rowsA, rowO, true_and]; cases h id <;> rfl
theorem rowO_full (st len : Nat) (t : TypeId) (rows : List (List AV)) (hl : rows.length = len) : rowO st 0 len (some ⟨t, st, rows, false⟩) = some rows := by subst hl; simp [rowO]
theorem srcS_str (s : List UInt8) : srcS (.str s) = some (s.map fun b => [.int .u8 b.toNat]) := rfl

/-! ### Calls -/
theorem call_pure {f : FuncId} {args args' : List AV} {d : Option Nat} {s : St} {K : St → Prop} {r : AV} (hp : PCalls P f args' r) (hid : ∀ x ∈ args', idsV x = []) (hc : All2 (coe false (hget s.heap)) args args') (hk : K (s.put d r)) : icall P f args d s K :=
  .inl (.inl ⟨args', r, false, hp, hid, hc, (fun h => by cases h), hk⟩)
theorem call_lend {f : FuncId} {args args' : List AV} {d : Option Nat} {s : St} {K : St → Prop} {r : AV} (hp : PCalls P f args' r) (hid : ∀ x ∈ args', idsV x = []) (hc : All2 (coe true (hget s.heap)) args args') (hf : flatV r = true) (hk : K (s.put d r)) : icall P f args d s K :=
  .inl (.inl ⟨args', r, true, hp, hid, hc, fun _ => hf, hk⟩)
theorem All2.refl_coe (b : Bool) (h : Nat → Option AObj) : ∀ l : List AV, All2 (coe b h) l l
  | [] => trivial
  | _ :: r => ⟨.inl rfl, All2.refl_coe b h r⟩
/-- The arguments as they are, and none is an object. -/
theorem call_same {f : FuncId} {args : List AV} {d : Option Nat} {s : St} {K : St → Prop} {r : AV} (hp : PCalls P f args r) (hid : ∀ x ∈ args, idsV x = []) (hk : K (s.put d r)) : icall P f args d s K :=
  call_pure hp hid (All2.refl_coe _ _ args) hk
/-- Some arrays are frozen first. -/
theorem call_frz {f : FuncId} {args : List AV} {d : Option Nat} {s : St} {K : St → Prop} {r : AV} (fs : List Nat) {args' : List AV} (ha : args.map (frzVs fs s) = args') (hp : PCalls P f args' r) (hid : ∀ x ∈ args', idsV x = []) (hk : K ((frzs fs s).put d r)) : icall P f args d s K := by
  subst ha
  exact .inr ⟨fs, .inl ⟨_, r, false, hp, hid, All2.refl_coe _ _ _, (fun h => by cases h), hk⟩⟩
theorem dcall_same {f : FuncId} {args : List AV} {i : Nat} {bf : List Nat} {op : IOp} {d : Option Nat} {hist : List HI} {s : St} {K : List HI → St → Prop} {r : AV} (hp : PCalls P f args r) (hid : ∀ x ∈ args, idsV x = []) (hr : idsV r = [])
    (hk : plainOk op s .no = true ∧ histOk bf ⟨i, opIds op s.env, [], [], false, false⟩ hist = true ∧ K (⟨i, opIds op s.env, [], [], false, false⟩ :: hist) (s.put d r)) : idcall P f args i bf op d hist s K :=
  .inl ⟨args, r, false, hp, hid, All2.refl_coe _ _ args, (fun h => by cases h), hr, hk⟩
theorem dcall_lend {f : FuncId} {args args' : List AV} {i : Nat} {bf : List Nat} {op : IOp} {d : Option Nat} {hist : List HI} {s : St} {K : List HI → St → Prop} {r : AV} (hp : PCalls P f args' r) (hid : ∀ x ∈ args', idsV x = []) (hc : All2 (coe true (hget s.heap)) args args') (hf : flatV r = true) (hr : idsV r = [])
    (hk : plainOk op s .no = true ∧ histOk bf ⟨i, opIds op s.env, [], [], false, false⟩ hist = true ∧ K (⟨i, opIds op s.env, [], [], false, false⟩ :: hist) (s.put d r)) : idcall P f args i bf op d hist s K :=
  .inl ⟨args', r, true, hp, hid, hc, fun _ => hf, hr, hk⟩
theorem dcall_pure {f : FuncId} {args args' : List AV} {i : Nat} {bf : List Nat} {op : IOp} {d : Option Nat} {hist : List HI} {s : St} {K : List HI → St → Prop} {r : AV} (hp : PCalls P f args' r) (hid : ∀ x ∈ args', idsV x = []) (hc : All2 (coe false (hget s.heap)) args args') (hr : idsV r = [])
    (hk : plainOk op s .no = true ∧ histOk bf ⟨i, opIds op s.env, [], [], false, false⟩ hist = true ∧ K (⟨i, opIds op s.env, [], [], false, false⟩ :: hist) (s.put d r)) : idcall P f args i bf op d hist s K :=
  .inl ⟨args', r, false, hp, hid, hc, (fun h => by cases h), hr, hk⟩
/-- A record handed over and back, in a region whose order is open. -/
theorem dcall_rec {f : FuncId} {args : List AV} {i : Nat} {bf : List Nat} {op : IOp} {d : Option Nat} {hist : List HI} {s : St} {K : List HI → St → Prop} {r : AV} {k : Nat} {ob ob' : AObj} {Sb : Nat → Prop} (hp : ACalls P f args [(k, ob)] Sb (fun r' σ' => r' = r ∧ σ' = [(k, ob')])) (hs : Sb k) (hk : hget s.heap k = some ob) (hr : idsV r = []) (ho : idsO ob' = [])
    (hop : k ∈ opIds op s.env) (hK : plainOk op s (.put k ob') = true ∧ histOk bf ⟨i, opIds op s.env, [], [k], false, true⟩ hist = true ∧ K (⟨i, opIds op s.env, [], [k], false, true⟩ :: hist) ((s.eff (.put k ob')).put d r)) : idcall P f args i bf op d hist s K :=
  .inr ⟨k, ob, ob', Sb, r, hp, hs, hk, hr, ho, hop, hK⟩

/-! ### Weaker states, loops -/
theorem mem_get : ∀ {l : List (Nat × AV)} {k : Nat}, get l k = .any ∨ (k, get l k) ∈ l
  | [], k => .inl rfl
  | (j, x) :: r, k => by
    simp only [get]
    split
    · rename_i h; subst h; exact .inr (by simp)
    · rcases mem_get (l := r) (k := k) with h | h
      · exact .inl h
      · exact .inr (by simp [h])
theorem mem_hget : ∀ {l : List (Nat × AObj)} {k : Nat} {o : AObj}, hget l k = some o → (k, o) ∈ l
  | [], k, o, h => by simp [hget] at h
  | (j, x) :: r, k, o, h => by
    simp only [hget] at h
    split at h
    · rename_i hj; cases h; subst hj; simp
    · simp [mem_hget h]

theorem SatS.le {c : Ctx} {a : Act} {w : World} {s s' : St} (hs : SatS c s a w) (h1 : ∀ p ∈ s'.env, get s.env p.1 = p.2) (h2 : ∀ p ∈ s'.heap, hget s.heap p.1 = some p.2) : SatS c s' a w := by
  obtain ⟨bl, hs⟩ := hs
  refine ⟨bl, hs.weaken (fun k => ?_) (fun i o hi => h2 (i, o) (mem_hget hi))⟩
  rcases mem_get (l := s'.env) (k := k) with h | h
  · exact .inl h
  · exact .inr (h1 _ h).symm
theorem Wk.refl (s : St) : Wk s s := fun _ _ _ h => h
theorem Wk.trans {s s' s'' : St} (h : Wk s s') (h' : Wk s' s'') : Wk s s'' := fun c a w hs => h' c a w (h c a w hs)
theorem Wk.le {s s' : St} (h1 : ∀ p ∈ s'.env, get s.env p.1 = p.2) (h2 : ∀ p ∈ s'.heap, hget s.heap p.1 = some p.2) : Wk s s' := fun _ _ _ hs => hs.le h1 h2
theorem Wk.frz (s : St) (i : Nat) : Wk s (s.frz i) := fun _ _ _ hs => hs.frz i
theorem Wk.kill (s : St) (i : Nat) : Wk s (s.kill i) := fun _ _ _ hs => hs.kill i

/-- What is held at the end of a loop's round. -/
def klp {α : Type} (S : α → St) (p : α → Prop) (m : α → Nat) (q : α) (K : IX → St → Prop) (e : IX) (s : St) : Prop :=
  match e with
  | .nrm => ∃ q', p q' ∧ m q' < m q ∧ Wk s (S q')
  | e => K e s
theorem klp_n {α : Type} {S : α → St} {p : α → Prop} {m : α → Nat} {q : α} {K : IX → St → Prop} {s : St} (q' : α) (h1 : p q') (h2 : m q' < m q) (h3 : Wk s (S q')) : klp S p m q K .nrm s := ⟨q', h1, h2, h3⟩
theorem klp_r {α : Type} (S : α → St) (p : α → Prop) (m : α → Nat) (q : α) (K : IX → St → Prop) (s : St) : klp S p m q K .ret s = K .ret s := _root_.id rfl
theorem klp_x {α : Type} (S : α → St) (p : α → Prop) (m : α → Nat) (q : α) (K : IX → St → Prop) (j : Nat) (s : St) : klp S p m q K (.ext j) s = K (.ext j) s := _root_.id rfl
/-- A loop: at each head the state is one of a family 'S', under 'p', and 'm' goes down. -/
theorem loop_rule {α : Type} (S : α → St) (p : α → Prop) (m : α → Nat) {x : ICode} {s : St} {K : IX → St → Prop} (q : α) (h1 : p q) (h2 : Wk s (S q))
    (hstep : ∀ q, p q → iwp P x (S q) (klp S p m q K)) : iwp P (.loop x) s K := by
  refine ⟨fun n s => ∃ q, p q ∧ m q = n ∧ s = S q, ⟨m q, S q, ⟨q, h1, rfl, rfl⟩, h2⟩, ?_⟩
  rintro n s ⟨q, h3, rfl, rfl⟩
  refine iwp_mono _ _ _ _ (fun e s' hh => ?_) (hstep q h3)
  cases e with
  | nrm => obtain ⟨q', h4, h5, h6⟩ := hh; exact ⟨m q', S q', h5, ⟨q', h4, rfl, rfl⟩, h6⟩
  | _ => exact hh

/-- Where ways meet again. -/
def kmt {α : Type} (S : α → St) (p : α → Prop) (K : IX → St → Prop) (e : IX) (s : St) : Prop :=
  match e with
  | .nrm => ∃ q, p q ∧ Wk s (S q)
  | e => K e s
theorem kmt_n {α : Type} {S : α → St} {p : α → Prop} {K : IX → St → Prop} {s : St} (q : α) (h1 : p q) (h3 : Wk s (S q)) : kmt S p K .nrm s := ⟨q, h1, h3⟩
theorem kmt_r {α : Type} (S : α → St) (p : α → Prop) (K : IX → St → Prop) (s : St) : kmt S p K .ret s = K .ret s := _root_.id rfl
theorem kmt_x {α : Type} (S : α → St) (p : α → Prop) (K : IX → St → Prop) (j : Nat) (s : St) : kmt S p K (.ext j) s = K (.ext j) s := _root_.id rfl
theorem cut_rule {α : Type} (S : α → St) (p : α → Prop) {x y : ICode} {s : St} {K : IX → St → Prop} (h1 : iwp P x s (kmt S p K)) (h2 : ∀ q, p q → iwp P y (S q) K) : iwp P (.cut x y) s K := by
  rw [iwp_cut]
  refine iwp_mono _ _ _ _ (fun e s' hh => ?_) h1
  cases e with
  | nrm => obtain ⟨q, h3, h4⟩ := hh; exact ⟨S q, h4, h2 q h3⟩
  | _ => exact hh
/-- The same without a mark in the code. -/
theorem seq_rule {α : Type} (S : α → St) (p : α → Prop) {x y : ICode} {s : St} {K : IX → St → Prop} (h1 : iwp P x s (kmt S p K)) (h2 : ∀ q, p q → iwp P y (S q) K) : iwp P (.cut x y) s K := cut_rule S p h1 h2
theorem pdone {l : List IRes} {r : AV} {s : St} (fs : List Nat) (h : iret l (frzs fs s) = some r) (h2 : idsV r = []) : PDone l r .ret s := ⟨(fun _ h => by cases h), s, Wk.refl s, fs, h, h2⟩
end

attribute [go_sem] iop_mov idop_mov iop_pick idop_pick iop_build idop_build iop_load idop_load iop_store idop_store iop_fadr idop_fadr iop_fld idop_fld iop_iadr idop_iadr iop_aadr idop_aadr iop_mnx idop_mnx iop_slc idop_slc iop_len idop_len iop_slen idop_slen iop_sslc idop_sslc iop_bin idop_bin iop_bbin idop_bbin iop_pbin idop_pbin iop_un idop_un iop_cvi idop_cvi iop_cvs idop_cvs iop_cvt idop_cvt iop_ext idop_ext iop_nchk idop_nchk iop_mkf idop_mkf iop_sidx idop_sidx iop_new idop_new iop_box idop_box iop_bsl idop_bsl iop_app idop_app iop_apps idop_apps iop_cvb idop_cvb iop_mks idop_mks
attribute [go_sem] ae_mov ae_pick ae_new ae_box ae_build ae_bsl ae_load ae_store ae_fadr ae_fld ae_iadr ae_aadr ae_mnx ae_slc ae_len ae_slen ae_app ae_apps ae_sslc ae_bin ae_bbin ae_pbin ae_un ae_cvi ae_cvs ae_cvb ae_cvt ae_ext ae_nchk ae_sidx ae_mks ae_mkf aBin_add aBin_sub aBin_mul aBin_eql aBin_neq aBin_lss aBin_leq aBin_gtr aBin_geq aBin_quo aBin_rem aBin_and aBin_or aBin_xor aBin_andNot aBin_shl aBin_shr aBin_sadd aBin_seql aBin_sneq aBin_slss aBin_sleq aBin_sgtr aBin_sgeq
attribute [go_sem] kseq_n kseq_r kseq_x kcut_r kcut_x kblk_n kblk_r kblk_x kreg_e kops_e kdops_e kst_e kdst_e stepK_some stepK_ite stepK_ite' res_v res_if res_if' tst_bool gst_bool klp_r klp_x kmt_r kmt_x
theorem tst_f' (a b : Prop) : tst (.bool false) a b = b := tst_f a b
attribute [go_sem ↓] tst_t tst_f gst_t gst_f gst_u
attribute [go_sem high] tst_t' tst_f' gst_t' gst_f' gst_u'
attribute [go_sem] iwp_skip iwp_ret iwp_exit iwp_seq iwp_block iwp_cond iwp_reg iwp_draw iops_nil iops_cons iops_guard_t iops_guard_f idops_nil idops_cons idops_guard_t idops_guard_f iop_call iop_callv idop_call fcall_fn
attribute [go_sem] pickA_t pickA_f stepK_pick boxA_some bslA_some stoA_some stoA_ite cviA_int cvsA_some cvsA_ite cvbA_str extA_tup nchkA_mp nchkA_ip nchkA_fn cvtA_str sidxA_str mksA_int aBbin_eql aBbin_neq aUn_not aUn_neg aPbin_e1 aPbin_e2 aPbin_e3 aPbin_n1 aPbin_n2 aPbin_n3 aLen_sl aLen_ms aLen_nl aSlen_str aLoad_ip aLoad_mp ldO_rec ldO_map ldc_n ldc_s aStore_mp stO_rec aFadr_ip aFadr_mp aFld_agg aIadr_map aIadr_ms aAadr_ip aAadr_mp aMnx_min aMnx_max aSlc_ms0 aSlc_msh aSlc_msl aSlc_mslh aSlc_sl0 aSlc_slh aSlc_sll aSlc_sllh aSlc_nl0 aSlc_nlh aSlc_nll aSslc_0 aSslc_h aSslc_l aSslc_lh aApp_nl aApp_ms rowsA_nl rowsA_sl rowsA_ms srcS_str
theorem get_n (n : Nat) : get [] n = .any := _root_.id rfl
theorem get_c (k n : Nat) (x : AV) (r : List (Nat × AV)) : get ((k, x) :: r) n = if k = n then x else get r n := _root_.id rfl
theorem hget_n (n : Nat) : hget [] n = none := _root_.id rfl
theorem hget_c (k n : Nat) (x : AObj) (r : List (Nat × AObj)) : hget ((k, x) :: r) n = if k = n then some x else hget r n := _root_.id rfl
theorem del_n (n : Nat) : del [] n = [] := _root_.id rfl
theorem del_c (k n : Nat) (x : AV) (r : List (Nat × AV)) : del ((k, x) :: r) n = if k = n then del r n else (k, x) :: del r n := _root_.id rfl
theorem hdel_n (n : Nat) : hdel [] n = [] := _root_.id rfl
theorem hdel_c (k n : Nat) (x : AObj) (r : List (Nat × AObj)) : hdel ((k, x) :: r) n = if k = n then hdel r n else (k, x) :: hdel r n := _root_.id rfl
theorem purE_n (i : Nat) : purE i [] = [] := _root_.id rfl
theorem purE_c (i k : Nat) (x : AV) (r : List (Nat × AV)) : purE i ((k, x) :: r) = (k, purV i x) :: purE i r := _root_.id rfl
theorem purH_n (i : Nat) : purH i [] = [] := _root_.id rfl
theorem purH_c (i k : Nat) (x : AObj) (r : List (Nat × AObj)) : purH i ((k, x) :: r) = (k, purO i x) :: purH i r := _root_.id rfl
theorem put_s (e : List (Nat × AV)) (h : List (Nat × AObj)) (d : Nat) (x : AV) : St.put ⟨e, h⟩ (some d) x = ⟨(d, x) :: e, h⟩ := _root_.id rfl
theorem put_n (s : St) (x : AV) : s.put none x = s := _root_.id rfl
theorem kill_e (e : List (Nat × AV)) (h : List (Nat × AObj)) (i : Nat) : St.kill ⟨e, h⟩ i = ⟨purE i e, purH i (hdel h i)⟩ := _root_.id rfl
theorem eff_no (s : St) : s.eff .no = s := _root_.id rfl
theorem eff_put (e : List (Nat × AV)) (h : List (Nat × AObj)) (i : Nat) (o : AObj) : St.eff ⟨e, h⟩ (.put i o) = ⟨e, (i, o) :: hdel h i⟩ := _root_.id rfl
theorem eff_new (e : List (Nat × AV)) (h : List (Nat × AObj)) (i : Nat) (o : AObj) : St.eff ⟨e, h⟩ (.new i o) = ⟨e, (i, o) :: hdel h i⟩ := _root_.id rfl
theorem eff_reb (e : List (Nat × AV)) (h : List (Nat × AObj)) (i : Nat) (o : AObj) : St.eff ⟨e, h⟩ (.reb i o) = ⟨purE i e, (i, o) :: purH i (hdel h i)⟩ := _root_.id rfl
theorem kills_n (s : St) : kills [] s = s := _root_.id rfl
theorem kills_c (i : Nat) (r : List Nat) (s : St) : kills (i :: r) s = kills r (s.kill i) := _root_.id rfl
theorem dels_n (e : List (Nat × AV)) : dels [] e = e := _root_.id rfl
theorem dels_c (d : Nat) (r : List Nat) (e : List (Nat × AV)) : dels (d :: r) e = dels r (del e d) := _root_.id rfl
theorem val_s (g : Nat → AV) (k : Nat) : val g (.s k) = g k := _root_.id rfl
theorem val_c (g : Nat → AV) (x : AV) : val g (.c x) = x := _root_.id rfl
theorem refine_s (k : Nat) (b : Bool) (s : St) : refine (.s k) b s = s.put (some k) (.bool b) := _root_.id rfl
theorem refine_c (x : AV) (b : Bool) (s : St) : refine (.c x) b s = s := _root_.id rfl
attribute [go_sem] get_n get_c hget_n hget_c del_n del_c hdel_n hdel_c purE_n purE_c purH_n purH_c put_s put_n kill_e eff_no eff_put eff_new eff_reb kills_n kills_c dels_n dels_c val_s val_c refine_s refine_c
attribute [go_sem] aParts aRows cellsA immA splice capA bytesA
attribute [go_sem] purV purO purC mV mG mC mP idsV idsG idsC idsP idsO opIds opSlots ivSlots ioSlots plainOk histOk newOk meetOk isAny Eff.tch Eff.isReb Eff.isPut Eff.ids
attribute [go_sem] iret ires ires1 okRes frzs St.frz frzVs frz1 frzE frzH frzV frzG frzC frzP frzO argEnv flatV flatG flatC
attribute [go_sem] List.map_cons List.map_nil List.cons_append List.nil_append List.append_nil List.all_cons List.all_nil List.any_cons List.any_nil List.contains_cons List.contains_nil List.flatMap_cons List.flatMap_nil List.drop_succ_cons List.drop_zero List.take_succ_cons List.take_zero List.length_cons List.length_nil List.length_map
attribute [go_sem] List.getElem?_cons_zero List.getElem?_cons_succ List.set_cons_zero List.set_cons_succ
attribute [go_sem] Option.map_some Option.map_none Option.getD_some Option.getD_none Option.isSome_some
attribute [go_sem] Bool.not_true Bool.not_false Bool.and_true Bool.true_and Bool.and_false Bool.false_and Bool.or_true Bool.true_or Bool.or_false Bool.false_or
attribute [go_sem] true_and and_true true_implies implies_true false_implies if_true if_false not_true_eq_false not_false_eq_true and_self true_or or_true false_or or_false
end Go.Mw
