/- The place at a depth. -/
import Derived.Test.YtdoobpeacbcohaaGreatMwC
namespace Go.MP
open Go Go.Sx Go.Proofs
set_option linter.unusedVariables false
set_option linter.unusedSimpArgs false
noncomputable section
end
end Go.MP
