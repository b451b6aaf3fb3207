/- Fractions compared, the greatest turn of a path; the law PathTurns. -/
import Derived.Test.YtoockflaeaknbaaMqI
import Derived.Test.YtoockflaeaknbaaMqF
namespace Go.MP
open Go Go.Sx Go.Proofs
set_option linter.unusedVariables false
set_option linter.unusedSimpArgs false
noncomputable section
end
end Go.MP
