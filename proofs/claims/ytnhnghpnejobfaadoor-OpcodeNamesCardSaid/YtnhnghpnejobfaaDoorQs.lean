/-
  A range over a function whose iterator itself ranges over one: what lies beyond a mark lies as it lay, whatever it is.
-/
import Derived.Test.YtnhnghpnejobfaaDoorQc
set_option linter.unusedVariables false
set_option linter.unusedSimpArgs false
set_option linter.unusedSectionVars false
set_option linter.unusedSectionVars false
set_option linter.unusedVariables false
set_option linter.unusedSimpArgs false
namespace Go.Mw
open Go.RowKit

/-- Blocks that lie at or beyond 'N' lie as they lay, and so do the blocks 'T'. -/
def KpA (T : Nat → Prop) (N : Nat) (W W' : World) : Prop := W.heap.size ≤ W'.heap.size ∧ (∀ (b : Nat) (o : Obj), N ≤ b → W.heap[b]? = some o → W'.heap[b]? = some o) ∧ ∀ b, T b → W'.heap[b]? = W.heap[b]?
section
variable {T : Nat → Prop}
theorem KpA.refl (N : Nat) (W : World) : KpA T N W W := ⟨Nat.le_refl _, fun _ _ _ h => h, fun _ _ => rfl⟩
theorem KpA.trans {N : Nat} {A B C : World} (h : KpA T N A B) (k : KpA T N B C) : KpA T N A C := ⟨Nat.le_trans h.1 k.1, fun b o hb hc => k.2.1 b o hb (h.2.1 b o hb hc), fun b hb => (k.2.2 b hb).trans (h.2.2 b hb)⟩
theorem KpA.mono {N N' : Nat} {A B : World} (h : KpA T N A B) (hn : N ≤ N') : KpA T N' A B := ⟨h.1, fun b o hb => h.2.1 b o (Nat.le_trans hn hb), h.2.2⟩
theorem KpA.putObj (N : Nat) (W : World) (l : Nat) (o' : Obj) (hl : l < N) (hT : ∀ b, T b → b < l) : KpA T N W (W.putObj l o') :=
  ⟨by simp [World.putObj], fun b o hb h => by rw [World.putObj_heap_other (by omega)]; exact h, fun b hb => World.putObj_heap_other (by have := hT b hb; omega)⟩
theorem KpA.setCell (N : Nat) (W : World) (a : Addr) (v : Value) (hl : a.block < N) (hT : ∀ b, T b → b < a.block) : KpA T N W (W.setCell a v) :=
  ⟨by simp [World.setCell], fun b o hb h => by
    simp only [World.setCell, Array.getElem?_modify, if_neg (show ¬ a.block = b by omega)]; exact h,
   fun b hb => by simp only [World.setCell, Array.getElem?_modify, if_neg (show ¬ a.block = b by have := hT b hb; omega)]⟩
theorem KpA.ofStp {A B : World} {N : Nat} (h : Stp (fun _ => False) A B) (hT : ∀ b, T b → b < A.heap.size) : KpA T N A B :=
  ⟨h.size, fun b o _ hb => by rw [h.keep b (Array.getElem?_eq_some_iff.1 hb).1 (fun h => h)]; exact hb, fun b hb => h.keep b (hT b hb) (fun h => h)⟩
end
/-- What an iterator yields, one after the other, till a round says 'no more'; blocks of its own may lie beyond its start, and turn. -/
def SeqN {α : Type} (n : Nat) (P : Program) [Tabs P] (g : Nat) (lb : Array Value) (encs : α → Array Value) (E : List α) (w : World) : Prop :=
  ∀ (l : Nat) (J Jx : List α → World → Prop) (W : World), (Tabs.T P).H W → Stp No w W → (∀ s A B, J s A → Stp No A B → J s B) → (∀ s A B, Jx s A → Stp No A B → Jx s B) →
    (∀ s A k o o', J s A → W.heap.size ≤ k → A.heap[k]? = some o → o.isCells = false → J s (A.putObj k o')) → (∀ s A k o o', Jx s A → W.heap.size ≤ k → A.heap[k]? = some o → o.isCells = false → Jx s (A.putObj k o')) →
    (∀ m pre x W1, J pre W1 → pre ++ [x] <+: E → YieldAt Fence.wide m P l (encs x) W1 fun e W' =>
      (e = .returned (.bool true) ∧ J (pre ++ [x]) W' ∧ KpA (Tabs.T P).B W.heap.size W1 W') ∨ (e = .returned (.bool false) ∧ Jx (pre ++ [x]) W' ∧ KpA (Tabs.T P).B W.heap.size W1 W')) →
    J [] W →
    CallsIn Fence.wide n P g (#[.func (.yield l) #[] #[]] ++ lb) W fun e W' => (∃ v, e = .returned v) ∧ (J E W' ∨ (∃ pre, pre <+: E ∧ Jx pre W'))
/-- How a body is left. -/
def ownPostN {α : Type} (Kp : World → World → Prop) (I : List α → World → Prop) (Ix : Code → List α → World → Prop) (xs : List α) (W : World) : Exit → Act → World → Prop
  | .normal, _, W' => Kp W W' ∧ I xs W'
  | .ret, _, W' => Kp W W' ∧ Ix .ret xs W'
  | .exit id, _, W' => Kp W W' ∧ Ix (.exit id) xs W'
  | .goto t, _, W' => Kp W W' ∧ Ix (.goto t) xs W'
  | .panic _, _, _ => False
  | .outgrown, _, _ => False
theorem RoundIn.anyDepth {P : Program} {m m' l : Nat} {f : FuncId} {tmps : Array Value} {assign body : Code} {w : World} {R : Ending → World → Prop} (h : RoundIn Fence.wide m P l f tmps assign body w R) : RoundIn Fence.wide m' P l f tmps assign body w R :=
  ⟨h.1, fun c cs _ => h.2 c cs (fun d hd => by cases hd)⟩
variable {n : Nat} {P : Program} [Tabs P]
theorem wpIn_rngN {α : Type} {g : Operand} {ps : Array Tmp} {assign body : Code} {Q : Exit → Act → World → Prop} {a : Act} {w : World}
    (hH : (Tabs.T P).H w) {gf : Nat} {lb : Array Value} (hg : a.eval g = .func (.func gf) #[] lb) (eg : ∀ args w, (callFunc gf args).run P w = .ok (.enter gf args) w)
    {encs : α → Array Value} {E : List α} {w0 : World} (hseq : SeqN (n - 1) P gf lb encs E w0) (hb0 : Stp No w0 w) (hps : ∀ x, (encs x).size = ps.size)
    (I : List α → World → Prop) (Ix : Code → List α → World → Prop) (hI : ∀ s A B, I s A → Stp No A B → I s B) (hIx : ∀ c s A B, Ix c s A → Stp No A B → Ix c s B)
    (hIp : ∀ s W l o o', I s W → w.heap.size ≤ l → W.heap[l]? = some o → o.isCells = false → I s (W.putObj l o')) (hIxp : ∀ c s W l o o', Ix c s W → w.heap.size ≤ l → W.heap[l]? = some o → o.isCells = false → Ix c s (W.putObj l o'))
    (h0 : I [] w) (a₁ : α → Act)
    (hassign : ∀ (m l : Nat) (x : α) (W : World) (K : Act → World → Prop), K (a₁ x) W →
      assign.wpIn (Fence.wide.inRound l) m P (Exit.then K (fun _ _ _ => False)) { tmps := (ps.zip (encs x)).foldl (fun t (p, v) => t.setIfInBounds p v) a.tmps, defers := [] } W)
    (hbody : ∀ (m l : Nat) (pre : List α) (x : α) (W : World), I pre W → pre ++ [x] <+: E → body.wpIn (Fence.wide.inRound l) m P (ownPostN (KpA (Tabs.T P).B w.heap.size) I Ix (pre ++ [x]) W) (a₁ x) W)
    (hdone : ∀ (D : Nat) (W : World), w.heap.size ≤ D → I E W → W.heap[D]? = some (.deferred (some [])) → Q .normal { a with defers := { target := .collected D, args := #[] } :: a.defers } W)
    (hstop : ∀ (D : Nat) (c : Code) (pre : List α) (W : World), w.heap.size ≤ D → pre <+: E → Ix c pre W → W.heap[D]? = some (.deferred (some [])) → c.wpIn Fence.wide n P Q { a with defers := { target := .collected D, args := #[] } :: a.defers } W) :
    (Code.rangeFunc g ps assign body).wpIn Fence.wide n P Q a w := by
  refine wpIn_rangeFunc ?_
  intro fn hfn
  rw [show Fence.wide.round = none from rfl]
  obtain ⟨rec, hrec⟩ : ∃ rec : LoopState → Option Code → Loop, rec = fun st pe => { state := st, pending := pe, fn, tmps := a.tmps, params := ps, assign, body, defers := w.heap.size } := ⟨_, rfl⟩
  obtain ⟨W1, hW1⟩ : ∃ W1, (w.alloc (.deferred (some []))).alloc (.loop (rec .ready none)) = W1 := ⟨_, rfl⟩
  have hL1 : W1.heap[w.heap.size + 1]? = some (.loop (rec .ready none)) := by
    rw [← hW1]; have := World.alloc_heap_new (w.alloc (.deferred (some []))) (.loop (rec .ready none)); rwa [World.size_alloc] at this
  have hK1 : W1.heap[w.heap.size]? = some (.deferred (some [])) := by
    rw [← hW1]; exact (Below.heap_alloc _ _ _ (by simp)).trans (World.alloc_heap_new w _)
  have hs1 : Stp No w W1 := by rw [← hW1]; exact (Stp.ofAlloc _ _).one (Stp.ofAlloc _ _)
  have hlow : ∀ b, (Tabs.T P).B b → b < w.heap.size + 1 := fun b hb => Nat.lt_succ_of_lt ((Tabs.T P).low _ hH b hb)
  have hz1 : W1.heap.size = w.heap.size + 2 := by rw [← hW1]; simp
  refine ⟨w.heap.size + 1, [{ target := .collected w.heap.size, args := #[] }], W1, { target := .fn (.func gf) lb, args := #[.func (.yield (w.heap.size + 1)) #[] #[]] }, W1, gf,
    #[.func (.yield (w.heap.size + 1)) #[] #[]] ++ lb, W1, ?_, ?_, ?_, ?_, fun h => (by cases h), ?_⟩
  · rw [← hW1, hrec]; exact run_enterLoop_outer _ _ _ _ _
  · simp only [resolve, hg]
    simp [go_sem]
  · intro f' hf'; trivial
  · simp [invoke, go_sem, eg]
  · have kp : ∀ {l : Nat} {o : Obj} {A B : World}, Stp No A B → A.heap[l]? = some o → B.heap[l]? = some o := fun {l o A B} hs h => by
      rw [hs.keep l (Array.getElem?_eq_some_iff.1 h).1 (fun h => h)]; exact h
    refine (hseq (w.heap.size + 1)
      (fun pre W => I pre W ∧ W.heap[w.heap.size + 1]? = some (.loop (rec .ready none)) ∧ W.heap[w.heap.size]? = some (.deferred (some [])))
      (fun pre W => ∃ c, Ix c pre W ∧ W.heap[w.heap.size + 1]? = some (.loop (rec .done (some c))) ∧ W.heap[w.heap.size]? = some (.deferred (some [])))
      W1 ((Tabs.T P).stay _ _ hH fun b hb => hs1.keep b ((Tabs.T P).low _ hH b hb) (fun h => h)) (hb0.one hs1)
      (fun s A B hs hg' => ⟨hI s A B hs.1 hg', kp hg' hs.2.1, kp hg' hs.2.2⟩)
      (fun s A B hs hg' => by
        obtain ⟨c, hc, hl, hk⟩ := hs
        exact ⟨c, hIx c s A B hc hg', kp hg' hl, kp hg' hk⟩)
      (fun s A k o o' hs hk hko ho => ⟨hIp s A k o o' hs.1 (by omega) hko ho, by rw [World.putObj_heap_other (by omega)]; exact hs.2.1, by rw [World.putObj_heap_other (by omega)]; exact hs.2.2⟩)
      (fun s A k o o' hs hk hko ho => by
        obtain ⟨c, hc, hl, hk'⟩ := hs
        exact ⟨c, hIxp c s A k o o' hc (by omega) hko ho, by rw [World.putObj_heap_other (by omega)]; exact hl, by rw [World.putObj_heap_other (by omega)]; exact hk'⟩)
      ?_ ⟨hI _ _ _ h0 hs1, hL1, hK1⟩).mono ?_
    · -- ONE ROUND
      rintro m pre x W ⟨hi, hl, hk⟩ hlen
      have hlt : w.heap.size + 1 < W.heap.size := (Array.getElem?_eq_some_iff.1 hl).1
      have hy := run_yield (P := P) (args := encs x) hl (by rw [hrec]; exact hps x)
      rw [hrec] at hy
      refine ⟨fn, _, assign, body, hy, roundIn_of_wpIn hfn (hassign _ _ x W _ ⟨_, run_beginRound hl (by rw [hrec]), ?_⟩)⟩
      have hl2 : (W.putObj (w.heap.size + 1) (.loop { rec .ready none with state := .busy })).heap[w.heap.size + 1]? = some (.loop { rec .ready none with state := .busy }) := World.putObj_heap_same hlt
      have hk2 : (W.putObj (w.heap.size + 1) (.loop { rec .ready none with state := .busy })).heap[w.heap.size]? = some (.deferred (some [])) := (World.putObj_heap_other (by omega)).trans hk
      have hw2 : KpA (Tabs.T P).B W1.heap.size W (W.putObj (w.heap.size + 1) (.loop { rec .ready none with state := .busy })) := KpA.putObj _ _ _ _ (by omega) hlow
      refine wpIn_mono (hbody _ _ pre x _ (hIp _ _ _ _ _ hi (by omega) hl rfl) hlen) ?_
      have fin : ∀ (jump : Option Code) (W3 : World), KpA (Tabs.T P).B w.heap.size (W.putObj (w.heap.size + 1) (.loop { rec .ready none with state := .busy })) W3 →
          (Instr.endRound (w.heap.size + 1) jump).run P W3 = .ok (.bool jump.isNone) (W3.putObj (w.heap.size + 1) (.loop (rec (if jump.isNone then .ready else .done) jump))) ∧
          W3.heap[w.heap.size + 1]? = some (.loop { rec .ready none with state := .busy }) ∧
          (W3.putObj (w.heap.size + 1) (.loop (rec (if jump.isNone then .ready else .done) jump))).heap[w.heap.size + 1]? = some (.loop (rec (if jump.isNone then .ready else .done) jump)) ∧
          (W3.putObj (w.heap.size + 1) (.loop (rec (if jump.isNone then .ready else .done) jump))).heap[w.heap.size]? = some (.deferred (some [])) ∧
          KpA (Tabs.T P).B W1.heap.size W (W3.putObj (w.heap.size + 1) (.loop (rec (if jump.isNone then .ready else .done) jump))) := fun jump W3 hk3 => by
        have hl3 := hk3.2.1 _ _ (by omega) hl2
        have := run_endRound (P := P) jump hl3
        have kk : KpA (Tabs.T P).B W1.heap.size W (W3.putObj (w.heap.size + 1) (.loop (rec (if jump.isNone then .ready else .done) jump))) := (hw2.trans (hk3.mono (by omega))).trans (KpA.putObj _ _ _ _ (by omega) hlow)
        rw [hrec] at this kk ⊢
        exact ⟨this, by rw [hrec] at hl3; exact hl3, World.putObj_heap_same (Array.getElem?_eq_some_iff.1 hl3).1, (World.putObj_heap_other (by omega)).trans (hk3.2.1 _ _ (Nat.le_refl _) hk2), kk⟩
      rintro e a3 W3 hp
      cases e with
      | normal =>
        obtain ⟨hk3, hi3⟩ := hp
        obtain ⟨hr, hl3, hl4, hk4, kk⟩ := fin none W3 hk3
        exact ⟨_, _, hr, .inl ⟨rfl, ⟨hIp _ _ _ _ _ hi3 (by omega) hl3 rfl, hl4, hk4⟩, kk⟩⟩
      | ret =>
        obtain ⟨hk3, hi3⟩ := hp
        obtain ⟨hr, hl3, hl4, hk4, kk⟩ := fin (some .ret) W3 hk3
        exact ⟨_, _, hr, .inr ⟨rfl, ⟨.ret, hIxp _ _ _ _ _ _ hi3 (by omega) hl3 rfl, hl4, hk4⟩, kk⟩⟩
      | exit id =>
        obtain ⟨hk3, hi3⟩ := hp
        obtain ⟨hr, hl3, hl4, hk4, kk⟩ := fin (some (.exit id)) W3 hk3
        exact ⟨_, _, hr, .inr ⟨rfl, ⟨.exit id, hIxp _ _ _ _ _ _ hi3 (by omega) hl3 rfl, hl4, hk4⟩, kk⟩⟩
      | goto t =>
        obtain ⟨hk3, hi3⟩ := hp
        obtain ⟨hr, hl3, hl4, hk4, kk⟩ := fin (some (.goto t)) W3 hk3
        exact ⟨_, _, hr, .inr ⟨rfl, ⟨.goto t, hIxp _ _ _ _ _ _ hi3 (by omega) hl3 rfl, hl4, hk4⟩, kk⟩⟩
      | panic ch => exact hp.elim
      | outgrown => exact hp.elim
    · -- BEHIND THE ITERATOR
      rintro e W2 ⟨⟨v, rfl⟩, (⟨hi, hl, hk⟩ | ⟨pre, hSp, c, hi, hl, hk⟩)⟩
      · exact ⟨none, _, by have := run_endLoop (P := P) hl (by rw [hrec]; simp); rw [hrec] at this; exact this, hdone _ _ (Nat.le_refl _) (hIp _ _ _ _ _ hi (by omega) hl rfl) ((World.putObj_heap_other (by omega)).trans hk)⟩
      · exact ⟨some c, _, by have := run_endLoop (P := P) hl (by rw [hrec]; simp); rw [hrec] at this; exact this, hstop _ c pre _ (Nat.le_refl _) hSp (hIxp _ _ _ _ _ _ hi (by omega) hl rfl) ((World.putObj_heap_other (by omega)).trans hk)⟩
end Go.Mw
