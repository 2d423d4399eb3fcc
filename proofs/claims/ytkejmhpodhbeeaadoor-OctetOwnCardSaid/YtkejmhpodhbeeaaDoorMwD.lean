/-
  Each operation, run in the machine on values that the abstract values describe, yields what the abstract operation yields. First part: operations that leave memory alone.
-/
import Derived.Test.YtkejmhpodhbeeaaDoorMwC
namespace Go.Mw

def Eff.env (g : Nat → AV) : Eff → Nat → AV
  | .reb i _ => fun k => purV i (g k)
  | _ => g
def Eff.hp (h : Nat → Option AObj) : Eff → Nat → Option AObj
  | .no => h
  | .put i o => upd h i (some o)
  | .new i o => upd h i (some o)
  | .reb i o => upd (fun j => (h j).map (purO i)) i (some o)

def OpOK (P : Program) (c : Ctx) (o : Oper) (a : Act) (w : World) (g : Nat → AV) (h : Nat → Option AObj) (x : AV) (e : Eff) : Prop :=
  ∃ r w' bl', ((execOp a.eval o).run P w = .ok (.value r) w' ∨ ((execOp a.eval o).run P w = .ok .skip w' ∧ r = undef)) ∧
    SatB c bl' (e.env g) (e.hp h) a w' ∧ VRel bl' (Mut bl' c.MF (e.hp h)) w' r x

section
variable {P : Program} {c : Ctx} {bl : Nat → Option Nat} {g : Nat → AV} {h : Nat → Option AObj} {a : Act} {w : World} {o : Oper}

theorem OpOK.pure (s : SatB c bl g h a w) {r : Value} {x : AV} (hr : (execOp a.eval o).run P w = .ok (.value r) w) (hv : VRel bl (Mut bl c.MF h) w r x) : OpOK P c o a w g h x .no :=
  ⟨r, w, bl, .inl hr, s, hv⟩

theorem cCell_rel {M : Nat → Prop} {v : Value} {x : AV} (hc : cCell v = some x) : IRel M w v x := by
  unfold cCell at hc
  split at hc <;> try cases hc
  · exact .bool _
  · exact .int _ _
  · rename_i s; exact .str s.data.toList
  · exact .nl
  · exact .np
  · exact .nf

theorem cCells_rel {M : Nat → Prop} : ∀ {vs : List Value} {xs : List AV}, cCells vs = some xs → All2 (IRel M w) vs xs
  | [], xs, hc => by simp only [cCells, Option.some.injEq] at hc; subst hc; trivial
  | v :: r, xs, hc => by
    simp only [cCells] at hc
    split at hc
    · rename_i x ys h1 h2
      simp only [Option.some.injEq] at hc
      subst hc
      exact ⟨cCell_rel h1, cCells_rel h2⟩
    · cases hc

theorem cConst_rel {M : Nat → Prop} {v : Value} {x : AV} (hc : cConst v = some x) : VRel bl M w v x := by
  unfold cConst at hc
  split at hc
  · rename_i cs
    simp only [Option.map_eq_some_iff] at hc
    obtain ⟨xs, h1, rfl⟩ := hc
    exact ⟨cs.toList, by simp, (cCells_rel h1).mono fun _ _ _ hr => IRel.toC hr⟩
  · exact (IRel.toC (cCell_rel hc)).toV

theorem cV_rel (s : SatB c bl g h a w) {x : Operand} {v : IV} (hc : cV x = some v) : VRel bl (Mut bl c.MF h) w (a.eval x) (val g v) := by
  cases x with
  | tmp t =>
    simp only [cV] at hc
    split at hc
    case isFalse => cases hc
    rename_i ht
    cases hc
    have := s.env t
    rw [tv_lo ht] at this
    exact this
  | const u =>
    simp only [cV, Option.map_eq_some_iff] at hc
    obtain ⟨y, h1, rfl⟩ := hc
    exact cConst_rel h1
  | func f =>
    simp only [cV, Option.some.injEq] at hc
    subst hc
    exact ⟨[], by simp [Act.eval], trivial⟩
  | global k =>
    simp only [cV, Option.some.injEq] at hc
    subst hc
    have := s.env (1000000 + k)
    have e : tv a (1000000 + k) = .pointer (some ⟨k, 0, none⟩) := by
      unfold tv
      rw [if_neg (by omega), show 1000000 + k - 1000000 = k by omega]
    rw [e] at this
    exact this

/-- Of which value an abstract value speaks. -/
theorem VRel.int {M : Nat → Prop} {v : Value} {k : IntKind} {n : Int} (hv : VRel bl M w v (.int k n)) : v = .int k n := by
  simp only [VRel, GRel, CRel, PRel] at hv; cases hv; rfl
theorem VRel.bool {M : Nat → Prop} {v : Value} {b : Bool} (hv : VRel bl M w v (.bool b)) : v = .bool b := by
  simp only [VRel, GRel, CRel, PRel] at hv; cases hv; rfl
theorem VRel.str {M : Nat → Prop} {v : Value} {s : List UInt8} (hv : VRel bl M w v (.str s)) : v = .string ⟨s.toArray⟩ := by
  simp only [VRel, GRel, CRel, PRel] at hv; cases hv; rfl
theorem VRel.np {M : Nat → Prop} {v : Value} (hv : VRel bl M w v .np) : v = .pointer none := by
  simp only [VRel, GRel, CRel, PRel] at hv; cases hv; rfl
theorem VRel.nl {M : Nat → Prop} {v : Value} (hv : VRel bl M w v .nl) : v = .slice none 0 0 := by
  simp only [VRel, GRel, CRel, PRel] at hv; cases hv; rfl
theorem VRel.mp {M : Nat → Prop} {v : Value} {id st row off : Nat} (hv : VRel bl M w v (.mp id st row off)) : ∃ b, bl id = some b ∧ v = .pointer (some ⟨b, row * st + off, none⟩) := hv
theorem VRel.ip {M : Nat → Prop} {v : Value} {cells : List AV} (hv : VRel bl M w v (.ip cells)) : IRel M w v (.ip cells) := hv
theorem VRel.sl {M : Nat → Prop} {v : Value} {st : Nat} {rows : List (List AV)} (hv : VRel bl M w v (.sl st rows)) : IRel M w v (.sl st rows) := hv
theorem rInt {M : Nat → Prop} (k : IntKind) (n : Int) : VRel bl M w (.int k n) (.int k n) := IRel.int k n
theorem rBool {M : Nat → Prop} (b : Bool) : VRel bl M w (.bool b) (.bool b) := IRel.bool b
theorem rStr {M : Nat → Prop} (s : List UInt8) : VRel bl M w (.string ⟨s.toArray⟩) (.str s) := IRel.str s

theorem ok_mov (s : SatB c bl g h a w) {x : Operand} {v : IV} (ho : o.op = .move x ∨ o.op = .assign x) (hc : cV x = some v) : OpOK P c o a w g h (val g v) .no := by
  refine OpOK.pure s (r := a.eval x) ?_ (cV_rel s hc)
  rcases ho with ho | ho <;> simp [execOp, ho]

theorem ok_pick (s : SatB c bl g h a w) {x y z : Operand} {xv yv zv : IV} (ho : o.op = .pick x y z) (hx : cV x = some xv) (hy : cV y = some yv) (hz : cV z = some zv)
    {v : AV} {e : Eff} (he : aev 0 (.pick xv yv zv) (val g) h = some (v, e)) : OpOK P c o a w g h v e := by
  have h1 := cV_rel s hx
  simp only [aev] at he
  split at he <;> try cases he
  · rename_i hb
    rw [hb] at h1
    exact OpOK.pure s (r := a.eval y) (by simp [execOp, ho, h1.bool, asBool]) (cV_rel s hy)
  · rename_i hb
    rw [hb] at h1
    exact OpOK.pure s (r := a.eval z) (by simp [execOp, ho, h1.bool, asBool]) (cV_rel s hz)

theorem ok_len (s : SatB c bl g h a w) {t e : TypeId} {cl : Call} {x : Operand} {xv : IV} (ho : o.op = .call cl) (hcl : cl.callee = .builtin .len) (hat : cl.argTypes = #[t]) (har : cl.args = #[x])
    (ht : P.underlying t = some (.slice e)) (hx : cV x = some xv) {v : AV} (he : aLen (val g xv) = some v) : OpOK P c o a w g h v .no := by
  have h1 := cV_rel s hx
  have key : ∀ (ad : Option Addr) (n cap : Nat), a.eval x = .slice ad n cap → v = .int .i64 n → OpOK P c o a w g h v .no := fun ad n cap hv hvv => by
    subst hvv
    exact OpOK.pure s (r := .int .i64 n) (by simp [execOp, ho, resolve, hcl, har, hat, invoke, builtin, Builtin.len_, underlying, ht, hv, goInt]) (rInt _ _)
  cases hval : val g xv <;> rw [hval] at he h1 <;> simp only [aLen, Option.some.injEq] at he <;> try cases he
  case nl => exact key none 0 0 h1.nl rfl
  case sl st0 rows =>
    generalize a.eval x = u at h1 key
    have h2 := h1.sl
    cases h2 with
    | nls st => exact key none 0 0 rfl rfl
    | sl0 st ad cap => exact key (some ad) 0 cap rfl rfl
    | sl b off cap st c1 t1 fr rows vs hb hM hl hr hv hx => exact key _ _ _ rfl rfl
  case ms id st off len =>
    rcases h1 with ⟨h2, h3, h4⟩ | ⟨h2, h3, ad, cap, h4⟩ | ⟨b, cap, c1, t1, fr, h2, h3, h4⟩
    · exact key none 0 0 h2 (by rw [h4])
    · exact key _ 0 cap h4 (by rw [h2])
    · exact key _ _ _ h3 rfl

theorem ok_slen (s : SatB c bl g h a w) {t : TypeId} {cl : Call} {x : Operand} {xv : IV} (ho : o.op = .call cl) (hcl : cl.callee = .builtin .len) (hat : cl.argTypes = #[t]) (har : cl.args = #[x])
    (ht : P.underlying t = some .string) (hx : cV x = some xv) {v : AV} (he : aSlen (val g xv) = some v) : OpOK P c o a w g h v .no := by
  have h1 := cV_rel s hx
  cases hval : val g xv <;> rw [hval] at he h1 <;> simp only [aSlen, Option.some.injEq] at he <;> try cases he
  case str st =>
    have hv := h1.str
    refine OpOK.pure s (r := .int .i64 st.length) ?_ (rInt _ _)
    simp [execOp, ho, resolve, hcl, har, hat, invoke, builtin, Builtin.len_, underlying, ht, hv, goInt]
    rfl

theorem ok_un (s : SatB c bl g h a w) {t : TypeId} {op : UnOp} {x : Operand} {xv : IV} (ho : o.op = .unOp op t x) (hx : cV x = some xv) {v : AV} (he : aUn op (val g xv) = some v) : OpOK P c o a w g h v .no := by
  have h1 := cV_rel s hx
  cases hval : val g xv <;> rw [hval] at he h1 <;> cases op <;> simp only [aUn, aBits, Option.map_some, Option.some.injEq] at he <;> try cases he
  · exact OpOK.pure s (r := .bool _) (by simp [execOp, ho, h1.bool, Op.unary]) (rBool _)
  · exact OpOK.pure s (r := .int _ _) (by simp [execOp, ho, h1.int, Op.unary, Op.intArith]) (rInt _ _)
  · exact OpOK.pure s (r := .int _ _) (by simp [execOp, ho, h1.int, Op.unary, Op.intBits]) (rInt _ _)

theorem ok_cvi (s : SatB c bl g h a w) {sr ds : TypeId} {k k' : IntKind} {x : Operand} {xv : IV} (ho : o.op = .convert sr ds x) (h2 : P.underlying sr = some (.int k')) (h3 : P.underlying ds = some (.int k)) (hx : cV x = some xv)
    {n : Int} {kk : IntKind} (he : val g xv = .int kk n) : OpOK P c o a w g h (.int k (k.wrap n)) .no := by
  have h1 := cV_rel s hx
  rw [he] at h1
  exact OpOK.pure s (r := .int k (k.wrap n)) (by simp [execOp, ho, h1.int, convert, underlying, h2, h3, Conv.intToInt]) (rInt _ _)

theorem ok_cvss (s : SatB c bl g h a w) {sr ds : TypeId} {x : Operand} {xv : IV} (ho : o.op = .convert sr ds x) (h2 : P.underlying sr = some .string) (h3 : P.underlying ds = some .string) (hx : cV x = some xv)
    {st : List UInt8} (he : val g xv = .str st) : OpOK P c o a w g h (val g xv) .no := by
  have h1 := cV_rel s hx
  rw [he] at h1 ⊢
  exact OpOK.pure s (r := .string ⟨st.toArray⟩) (by simp [execOp, ho, h1.str, convert, underlying, h2, h3]) (rStr _)

theorem ok_ext (s : SatB c bl g h a w) {x : Operand} {i : Nat} {xv : IV} (ho : o.op = .extract x i) (hx : cV x = some xv) {vs : List AV} {v : AV} (he : val g xv = .tup vs) (hi : vs[i]? = some v) : OpOK P c o a w g h v .no := by
  have h1 := cV_rel s hx
  rw [he] at h1
  obtain ⟨cs, h2, h3⟩ := h1
  obtain ⟨u, hu, hr⟩ := h3.get hi
  exact OpOK.pure s (r := u) (by simp [execOp, ho, h2, Instr.extract, hu]) hr.toV

theorem ok_nchk (s : SatB c bl g h a w) {x : Operand} {xv : IV} (ho : o.op = .nilCheck x) (hx : cV x = some xv)
    (he : (∃ id st row off, val g xv = .mp id st row off) ∨ (∃ cells, val g xv = .ip cells) ∨ ∃ f caps, val g xv = .fn f caps) : OpOK P c o a w g h (val g xv) .no := by
  have h1 := cV_rel s hx
  refine OpOK.pure s (r := a.eval x) ?_ h1
  rcases he with ⟨id, st, row, off, he⟩ | ⟨cells, he⟩ | ⟨f, caps, he⟩ <;> rw [he] at h1
  · obtain ⟨b, _, h2⟩ := h1.mp
    simp [execOp, ho, h2]
  · generalize hu : a.eval x = u at h1 ⊢
    have h2 := h1.ip
    cases h2
    simp [execOp, ho, hu]
  · obtain ⟨cs, h2, _⟩ := h1
    simp [execOp, ho, h2]

theorem ok_sidx (s : SatB c bl g h a w) {t : TypeId} {x i : Operand} {xv iv : IV} (ho : o.op = .index t x i) (ht : P.underlying t = some .string) (hx : cV x = some xv) (hi : cV i = some iv)
    {st : List UInt8} {k : IntKind} {n : Int} {b : UInt8} (he : val g xv = .str st) (hi' : val g iv = .int k n) (h0 : 0 ≤ n) (hb : st[n.toNat]? = some b) : OpOK P c o a w g h (.int .u8 b.toNat) .no := by
  have h1 := cV_rel s hx
  have h2 := cV_rel s hi
  rw [he] at h1
  rw [hi'] at h2
  refine OpOK.pure s (r := .int .u8 b.toNat) ?_ (rInt _ _)
  have hb' : (ByteArray.mk st.toArray)[n.toNat]? = some b := by
    obtain ⟨hlt, hb⟩ := List.getElem?_eq_some_iff.1 hb
    have hs : n.toNat < (ByteArray.mk st.toArray).size := by simpa [ByteArray.size] using hlt
    rw [getElem?_pos (ByteArray.mk st.toArray) n.toNat hs]
    simp [ByteArray.getElem_eq_getElem_data, hb]
  simp [execOp, ho, h1.str, h2.int, Instr.index, asIntOf, underlying, ht, h0, hb']

theorem All2.castCaps {M : Nat → Prop} : ∀ {cs : List Operand} {vs : List IV}, cVs cs = some vs → SatB c bl g h a w → (∀ v ∈ vs, ∀ u, VRel bl (Mut bl c.MF h) w u (val g v) → M 0 → PRel bl (Mut bl c.MF h) w u (val g v)) → M 0 →
    All2 (PRel bl (Mut bl c.MF h) w) (cs.map a.eval) (vs.map (val g))
  | [], vs, hc, _, _, _ => by simp only [cVs, Option.some.injEq] at hc; subst hc; trivial
  | x :: r, vs, hc, s, hp, hm => by
    simp only [cVs] at hc
    split at hc
    · rename_i v vs' h1 h2
      simp only [Option.some.injEq] at hc
      subst hc
      exact ⟨hp v (by simp) _ (cV_rel s h1) hm, All2.castCaps (M := M) h2 s (fun v hv => hp v (by simp [hv])) hm⟩
    · cases hc

theorem cVs_rel (s : SatB c bl g h a w) : ∀ {cs : List Operand} {vs : List IV}, cVs cs = some vs → All2 (VRel bl (Mut bl c.MF h) w) (cs.map a.eval) (vs.map (val g))
  | [], vs, hc => by simp only [cVs, Option.some.injEq] at hc; subst hc; trivial
  | x :: r, vs, hc => by
    simp only [cVs] at hc
    split at hc
    · rename_i v vs' h1 h2
      simp only [Option.some.injEq] at hc
      subst hc
      exact ⟨cV_rel s h1, cVs_rel s h2⟩
    · cases hc

theorem ok_bin (s : SatB c bl g h a w) {t t' : TypeId} {op : BinOp} {x y : Operand} {xv yv : IV} (ho : o.op = .binOp op t x y t') (hx : cV x = some xv) (hy : cV y = some yv)
    {v : AV} (he : aBin op (val g xv) (val g yv) = some v) : OpOK P c o a w g h v .no := by
  have h1 := cV_rel s hx
  have h2 := cV_rel s hy
  unfold aBin at he
  split at he
  · rename_i k p k2 q e1 e2
    rw [e1] at h1; rw [e2] at h2
    split at he
    · cases he
    · rename_i hq
      cases he
      exact OpOK.pure s (r := .int k (k.wrap (p * 2 ^ (min q.toNat k.bits)))) (by simp [execOp, ho, h1.int, h2.int, eqGuard, binOp, Op.shift, hq]) (rInt _ _)
  · rename_i k p k2 q e1 e2
    rw [e1] at h1; rw [e2] at h2
    split at he
    · cases he
    · rename_i hq
      cases he
      exact OpOK.pure s (r := .int k (p.fdiv (2 ^ (min q.toNat k.bits)))) (by simp [execOp, ho, h1.int, h2.int, eqGuard, binOp, Op.shift, hq]) (rInt _ _)
  · rename_i opx opy X Y k p k2 q n1 n2 e1 e2
    rw [e1] at h1; rw [e2] at h2
    split at he
    case isFalse => cases he
    rename_i hk
    subst hk
    cases opx <;> simp only [aInt, aBits, Option.map_some, Option.map_none, Option.some.injEq] at he <;> try cases he
    case quo =>
      split at he
      · cases he
      · rename_i hq
        cases he
        exact OpOK.pure s (r := .int k _) (by simp [execOp, ho, h1.int, h2.int, eqGuard, binOp, Op.intDiv, hq]) (rInt _ _)
    case rem =>
      split at he
      · cases he
      · rename_i hq
        cases he
        exact OpOK.pure s (r := .int k _) (by simp [execOp, ho, h1.int, h2.int, eqGuard, binOp, Op.intDiv, hq]) (rInt _ _)
    all_goals first
      | refine OpOK.pure s (r := .int k _) ?_ (rInt _ _)
      | refine OpOK.pure s (r := .bool _) ?_ (rBool _)
    all_goals first
      | (simp [execOp, ho, h1.int, h2.int, eqGuard, binOp, Op.intArith]; done)
      | (simp [execOp, ho, h1.int, h2.int, eqGuard, binOp, Op.intBits]; done)
      | (simp [execOp, ho, h1.int, h2.int, eqGuard, binOp, Op.intCmp]; done)
      | (simp only [execOp, ho, h1.int, h2.int, eqGuard, binOp]; simp only [ne_eq, not_true_eq_false, if_false]; rfl)
  · rename_i opx opy X Y p q e1 e2
    rw [e1] at h1; rw [e2] at h2
    have hl : ∀ u : List UInt8, (ByteArray.mk u.toArray).toList = u := fun u => by simp
    cases opx <;> simp only [aStr, Option.some.injEq] at he <;> try cases he
    case add =>
      split at he
      case isFalse => cases he
      rename_i hlen
      cases he
      refine OpOK.pure s (r := .string ⟨(p ++ q).toArray⟩) ?_ (rStr _)
      have hs : ¬ (((ByteArray.mk p.toArray).size + (ByteArray.mk q.toArray).size : Nat) : Int) > IntKind.i64.max := by
        simp [ByteArray.size, IntKind.max, IntKind.signed, IntKind.bits]; omega
      have hs' : ¬ ((((ByteArray.mk p.toArray).size : Nat) : Int) + ((ByteArray.mk q.toArray).size : Nat) > IntKind.i64.max) := by
        simp [ByteArray.size, IntKind.max, IntKind.signed, IntKind.bits]; omega
      have happ : (ByteArray.mk p.toArray) ++ (ByteArray.mk q.toArray) = ByteArray.mk (p ++ q).toArray := by
        apply ByteArray.ext; simp
      simp only [execOp, ho, h1.str, h2.str, eqGuard, binOp, Op.stringOp, hs, happ, if_false]; simp
    all_goals exact OpOK.pure s (r := .bool _) (by simp only [execOp, ho, h1.str, h2.str, eqGuard, binOp, Op.stringOp, hl]; simp) (rBool _)
  · cases he

theorem run_equal_bool {t : TypeId} (ht : P.underlying t = some .bool) (p q : Bool) : (Op.equal t (.bool p) (.bool q)).run P w = .ok (p == q) w := by
  have h1 : (Op.equalIn (9999 + 1) t (.bool p) (.bool q)).run P w = .ok (p == q) w := by unfold Op.equalIn; simp [underlying, ht]
  exact h1
theorem run_equal_nil {t e : TypeId} (ht : P.underlying t = some (.pointer e)) (ad : Option Addr) : (Op.equal t (.pointer ad) (.pointer none)).run P w = .ok ad.isNone w := by
  have h1 : (Op.equalIn (9999 + 1) t (.pointer ad) (.pointer none)).run P w = .ok ad.isNone w := by cases ad <;> (unfold Op.equalIn; simp [underlying, ht])
  exact h1

theorem ok_bbin (s : SatB c bl g h a w) {t t' : TypeId} {op : BinOp} {x y : Operand} {xv yv : IV} (ho : o.op = .binOp op t x y t') (ht : P.underlying t = some .bool) (hx : cV x = some xv) (hy : cV y = some yv)
    {v : AV} (he : aBbin op (val g xv) (val g yv) = some v) : OpOK P c o a w g h v .no := by
  have h1 := cV_rel s hx
  have h2 := cV_rel s hy
  unfold aBbin at he
  split at he
  · rename_i p q e1 e2
    rw [e1] at h1; rw [e2] at h2
    cases he
    exact OpOK.pure s (r := .bool _) (by simp [execOp, ho, h1.bool, h2.bool, eqGuard, binOp, run_equal_bool ht]) (rBool _)
  · rename_i p q e1 e2
    rw [e1] at h1; rw [e2] at h2
    cases he
    exact OpOK.pure s (r := .bool _) (by simp [execOp, ho, h1.bool, h2.bool, eqGuard, binOp, run_equal_bool ht]) (rBool _)
  · cases he

theorem ok_pbin (s : SatB c bl g h a w) {t t' e : TypeId} {op : BinOp} {x y : Operand} {xv yv : IV} (ho : o.op = .binOp op t x y t') (ht : P.underlying t = some (.pointer e)) (hx : cV x = some xv) (hy : cV y = some yv)
    {v : AV} (he : aPbin op (val g xv) (val g yv) = some v) : OpOK P c o a w g h v .no := by
  have h1 := cV_rel s hx
  have h2 := cV_rel s hy
  have hp : ∀ b, isNil (val g xv) = some b → ∃ ad : Option Addr, a.eval x = .pointer ad ∧ ad.isNone = b := fun b hb => by
    cases hval : val g xv <;> rw [hval] at hb h1 <;> simp only [isNil, Option.some.injEq] at hb <;> try cases hb
    case ip cells =>
      generalize a.eval x = u at h1
      have h3 := h1.ip
      cases h3
      exact ⟨_, rfl, rfl⟩
    case np => exact ⟨none, h1.np, rfl⟩
    case mp => obtain ⟨b, _, h3⟩ := h1.mp; exact ⟨_, h3, rfl⟩
  unfold aPbin at he
  split at he
  · rename_i b e1 e2
    rw [e2] at h2
    obtain ⟨ad, h3, h4⟩ := hp b e1
    cases he
    subst h4
    exact OpOK.pure s (r := .bool _) (by simp only [execOp, ho, h3, h2.np, eqGuard, binOp]; simp [run_equal_nil ht]) (rBool _)
  · rename_i b e1 e2
    rw [e2] at h2
    obtain ⟨ad, h3, h4⟩ := hp b e1
    cases he
    subst h4
    exact OpOK.pure s (r := .bool _) (by simp only [execOp, ho, h3, h2.np, eqGuard, binOp]; simp [run_equal_nil ht]) (rBool _)
  · cases he
end
end Go.Mw
