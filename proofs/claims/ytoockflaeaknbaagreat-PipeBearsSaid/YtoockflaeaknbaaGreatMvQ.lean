/- The law PipeBounds: frictions between the bounds. -/
import Derived.Test.YtoockflaeaknbaaGreatMvM
namespace Go.MP
open Go Go.Sx Go.Proofs
set_option linter.unusedVariables false
set_option linter.unusedSimpArgs false
noncomputable section
end
end Go.MP
