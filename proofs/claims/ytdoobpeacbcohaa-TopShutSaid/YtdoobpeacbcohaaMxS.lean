/- Rigs: what is made of numbers: states, goals, moves; comparisons. -/
import Derived.Test.YtdoobpeacbcohaaMxR
namespace Go.MR
open Go Go.Sx Go.Proofs
set_option linter.unusedVariables false
set_option linter.unusedSimpArgs false
noncomputable section
end
end Go.MR
