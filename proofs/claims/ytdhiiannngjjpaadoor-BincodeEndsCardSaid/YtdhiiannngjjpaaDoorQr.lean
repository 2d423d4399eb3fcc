/-
  Chapter 11, walks: the reference's Put.
-/
import Derived.Test.YtdhiiannngjjpaaDoorQq
import Derived.Test.YtdhiiannngjjpaaDoorQo
set_option linter.unusedVariables false
set_option linter.unusedSimpArgs false
set_option linter.unusedSectionVars false
set_option maxRecDepth 100000
set_option maxHeartbeats 40000000
set_option linter.unusedVariables false
set_option linter.unusedSimpArgs false
namespace Go.Proofs.YtdhiiannngjjpaaDoor
open Go Go.Mw
-- @U: ro, wo, wa, wx, rx, ins_e, vl_e, insC

section
variable {l : List UInt8} (hl : l.length < 2000000000)
include hl
end
end Go.Proofs.YtdhiiannngjjpaaDoor
set_option maxRecDepth 100000
set_option maxHeartbeats 40000000
set_option linter.unusedVariables false
set_option linter.unusedSimpArgs false
namespace Go.Proofs.YtdhiiannngjjpaaDoor
open Go Go.Mw
-- @U: ro, wo, wa, wx, rx, ins_e, vl_e, insC

section
variable {l : List UInt8} {e : Int} (hl : l.length < 1000000000)
include hl
end
end Go.Proofs.YtdhiiannngjjpaaDoor
