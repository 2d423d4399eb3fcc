/-
  A string turned into bytes.
-/
import Derived.Test.YtkejmhpodhbeeaaDoorMwI
namespace Go.Mw
section
variable {P : Program} {c : Ctx} {bl : Nat → Option Nat} {g : Nat → AV} {h : Nat → Option AObj} {a : Act} {w : World} {o : Oper}

theorem run_stringToBytes (e : TypeId) (st : List UInt8) (w : World) : ∃ cp w', (Conv.stringToBytes e ⟨st.toArray⟩).run P w = .ok (.slice (some ⟨w.heap.size, 0, none⟩) st.length cp) w' ∧ st.length ≤ cp ∧
    w'.heap = w.heap.push (.cells ((st.map fun b => Value.int .u8 b.toNat).toArray ++ Array.replicate (cp - st.length) (.int .u8 0)) e (cp, cp + 1)) ∧ w'.os = w.os ∧ w'.output = w.output := by
  have hsize : (ByteArray.mk st.toArray).size = st.length := by simp [ByteArray.size]
  have hdat : ((ByteArray.mk st.toArray).data.map fun b => Value.int .u8 b.toNat) = (st.map fun b => Value.int .u8 b.toNat).toArray := by simp
  refine ⟨st.length + (w.tape w.drawn (.appendCap st.length 0 e)) % (2 ^ 63 - st.length), ?_⟩
  generalize hcp : st.length + (w.tape w.drawn (.appendCap st.length 0 e)) % (2 ^ 63 - st.length) = cp
  have hle : st.length ≤ cp := by omega
  have hch : (choose (.appendCap st.length 0 e)).run P w = .ok cp w.drew := by
    rw [run_choose]
    simp only [Question.forced, Question.cut, hcp]
    rfl
  generalize hcs : ((st.map fun b => Value.int .u8 b.toNat).toArray ++ Array.replicate (cp - st.length) (.int .u8 0)) = cs
  have hcsz : cs.size = cp := by rw [← hcs]; simp; omega
  refine ⟨(w.drew.alloc (.cells cs e)).freeze { block := w.heap.size, off := cp } 1, ?_, hle, ?_, rfl, rfl⟩
  · have hsh : (w.drew.alloc (.cells cs e)).shape? w.heap.size = some (e, cp) := by
      have : (w.drew.alloc (.cells cs e)).heap[w.heap.size]? = some (.cells cs e (0, 0)) := by simp [World.alloc, World.drew, -World.alloc_eq, -World.drew_eq]
      unfold World.shape?; rw [this]; simp [hcsz]
    unfold Conv.stringToBytes
    simp only [hsize, Sem.run_bind, hch, Result.andThen_ok, hdat, hcs, newRow, run_newObj, World.size_drew, Sem.run_pure, World.alloc_eq, markStringish, run_shape, hsh, run_freeze]
  · show (if 1 = 0 then _ else _ : World).heap = _
    rw [if_neg (by decide)]
    apply Array.ext_getElem?
    intro k
    show ((w.heap.push (.cells cs e (0, 0))).modify w.heap.size _)[k]? = _
    rw [Array.getElem?_modify, Array.getElem?_push, Array.getElem?_push]
    by_cases hk : w.heap.size = k
    · subst hk; simp
    · have hk' : ¬ k = w.heap.size := fun e => hk e.symm
      simp [hk, hk']

theorem ok_cvb (s : SatB c bl g h a w) {d : Nat} {sr ds e : TypeId} {x : Operand} {xv : IV} (ho : o.op = .convert sr ds x) (h1 : P.underlying sr = some .string) (h2 : P.underlying e = some (.int .u8)) (h3 : P.underlying ds = some (.slice e)) (hx : cV x = some xv)
    {st : List UInt8} (he : val g xv = .str st) (hd : h d = none) (hu : Unnamed d g h) (hid : d < 1000 ∨ 2000 ≤ d) :
    OpOK P c o a w g h (.ms d 1 0 st.length) (.new d ⟨e, 1, st.map fun b => [.int .u8 b.toNat], false⟩) := by
  have r1 := cV_rel s hx
  rw [he] at r1
  obtain ⟨cp, w', g1, g2, g3, g4, g5⟩ := run_stringToBytes (P := P) e st w
  have hcv : (convert sr ds (.string ⟨st.toArray⟩)).run P w = (Conv.stringToBytes e ⟨st.toArray⟩).run P w := by
    simp [convert, run_underlying h1, run_underlying h2, run_underlying h3]
  have hget : ∀ (i : Nat) (b : UInt8), st[i]? = some b → ((st.map fun b => Value.int .u8 b.toNat).toArray ++ Array.replicate (cp - st.length) (.int .u8 0))[i]? = some (.int .u8 b.toNat) := fun i b hb => by
    have hlt := (List.getElem?_eq_some_iff.1 hb).1
    rw [Array.getElem?_append_left (by simpa using hlt)]
    simp [hb]
  have hsz : ((st.map fun (b : UInt8) => Value.int .u8 b.toNat).toArray ++ Array.replicate (cp - st.length) (Value.int .u8 0)).size = cp := by simp; omega
  refine ok_new_arr (len := st.length) (cap := cp) (w' := w') s hd hu hid ?_ g3 g4 g5 (fun j hj hf => by rw [hsz] at hj; simp at hf; omega) (fun i r hi => ?_) (by rw [hsz]; simpa using g2) g2 (by rw [hsz]; simp) (fun i j r y hi hj => ?_)
  · simp only [execOp, ho, r1.str, Sem.run_bind, hcv, g1, Result.andThen_ok, Sem.run_pure]
  · simp only [List.getElem?_map, Option.map_eq_some_iff] at hi
    obtain ⟨b, _, rfl⟩ := hi
    rfl
  · simp only [List.getElem?_map, Option.map_eq_some_iff] at hi
    obtain ⟨b, hb, rfl⟩ := hi
    cases j with
    | zero => simp at hj; subst hj; exact ⟨.int .u8 b.toNat, by simpa using hget i b hb, IRel.int _ _⟩
    | succ j => simp at hj
end
end Go.Mw
