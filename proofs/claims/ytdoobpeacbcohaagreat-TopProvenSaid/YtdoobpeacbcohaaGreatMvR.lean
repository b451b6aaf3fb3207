/- Tubes and strings made of numbers. -/
import Derived.Test.YtdoobpeacbcohaaGreatMvC
import Derived.Test.YtdoobpeacbcohaaGreatMvB
namespace Go.MP
open Go Go.Sx Go.Proofs
set_option linter.unusedVariables false
set_option linter.unusedSimpArgs false
noncomputable section
end
end Go.MP
