/-
  Chapter 14, walks: the laws NamesecFinds, NamesecReads.
-/
import Derived.Test.YtoikbadfbneahaaDoorQl
import Derived.Test.YtoikbadfbneahaaDoorQj
set_option linter.unusedVariables false
set_option linter.unusedSimpArgs false
set_option linter.unusedSectionVars false
set_option maxRecDepth 100000
set_option maxHeartbeats 40000000
set_option linter.unusedVariables false
set_option linter.unusedSimpArgs false
namespace Go.Proofs.YtoikbadfbneahaaDoor
open Go Go.Mw
-- @U: List.length_map

end Go.Proofs.YtoikbadfbneahaaDoor
