/- Paths made of numbers. -/
import Derived.Test.YtoockflaeaknbaaMqH
import Derived.Test.YtoockflaeaknbaaMqE
namespace Go.MP
open Go Go.Sx Go.Proofs
set_option linter.unusedVariables false
set_option linter.unusedSimpArgs false
noncomputable section
abbrev tIs : Ty := .sl tI
end
end Go.MP
