/-
  Chapter 14, walks: the reference reads lists of names.
-/
import Derived.Test.YtoikbadfbneahaaDoorQh
import Derived.Test.YtoikbadfbneahaaDoorQe
set_option linter.unusedVariables false
set_option linter.unusedSimpArgs false
set_option linter.unusedSectionVars false
set_option maxRecDepth 100000
set_option maxHeartbeats 20000000
set_option linter.unusedVariables false
set_option linter.unusedSimpArgs false
namespace Go.Proofs.YtoikbadfbneahaaDoor
open Go Go.Mw
-- @U: List.length_map, rx

end Go.Proofs.YtoikbadfbneahaaDoor
set_option maxRecDepth 100000
set_option maxHeartbeats 20000000
set_option linter.unusedVariables false
set_option linter.unusedSimpArgs false
namespace Go.Proofs.YtoikbadfbneahaaDoor
open Go Go.Mw
-- @U: List.length_map, rx

end Go.Proofs.YtoikbadfbneahaaDoor
