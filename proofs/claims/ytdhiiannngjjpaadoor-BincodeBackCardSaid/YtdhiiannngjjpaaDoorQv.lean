/-
  Chapter 11, walks: the reference's GetExpr; sequences compared.
-/
import Derived.Test.YtdhiiannngjjpaaDoorQt
set_option linter.unusedVariables false
set_option linter.unusedSimpArgs false
set_option linter.unusedSectionVars false
set_option maxRecDepth 100000
set_option maxHeartbeats 20000000
set_option linter.unusedVariables false
set_option linter.unusedSimpArgs false
namespace Go.Proofs.YtdhiiannngjjpaaDoor
open Go Go.Mw
-- @U: ro, wo, wa, wx, rx, bk_e, vl_e, ac_, ins_e

variable {b : List UInt8} {a : Nat} (ha : a ≤ b.length) (hb : b.length < 1000000000)
include ha hb
end Go.Proofs.YtdhiiannngjjpaaDoor
set_option maxRecDepth 100000
set_option maxHeartbeats 40000000
set_option linter.unusedVariables false
set_option linter.unusedSimpArgs false
namespace Go.Proofs.YtdhiiannngjjpaaDoor
open Go Go.Mw
-- @U: ro, wo, wa, wx, rx, ins_e, vl_e, insC, slv_none, slv_some

def rq {α : Type} (res : Rd α) (d : α) : α × Nat × Int := match res with
  | .ok (x, k) => (x, k, 0)
  | .error (e, k) => (d, k, e)
theorem Out.det {α : Type} {b : List UInt8} {res : Rd α} {d : α} {q : α × Nat × Int} (h : Out b res d q) : q = rq res d := by
  obtain ⟨h1, ⟨x, k, rfl, rfl⟩ | ⟨e, rfl, h3, h4, h5⟩⟩ := h
  · rfl
  · obtain ⟨q1, q2, q3⟩ := q
    simp only at h4 h5
    subst h4 h5
    rfl
theorem RX.det {α : Type} {f : FuncId} {rest : List AV} {b : List UInt8} {a : Nat} {res : Rd α} {d : α} {av : α → AV} (h : RX f rest b a res d av) : RM f rest true b a 0 (av (rq res d).1) (rq res d).2.1 (rq res d).2.2 := by
  refine ACalls.mono h (fun _ h => h) ?_
  rintro r' σ' ⟨q, ho, rfl, rfl⟩
  obtain rfl := ho.det
  exact ⟨rfl, rfl⟩
theorem QX.det {α : Type} {f : FuncId} {rest : List AV} {b : List UInt8} {a : Nat} {res : Rd α} {d : α} {av : α → AV} (h : QX f rest b a res d av) : PCalls Tryd.prog f (rx b a 0 :: rest) (.tup [rx b (rq res d).2.1 (rq res d).2.2, av (rq res d).1]) := by
  refine ACalls.mono h (fun _ h => h.elim) ?_
  rintro r' σ' ⟨q, ho, rfl, rfl⟩
  obtain rfl := ho.det
  exact ⟨rfl, rfl⟩
end Go.Proofs.YtdhiiannngjjpaaDoor
