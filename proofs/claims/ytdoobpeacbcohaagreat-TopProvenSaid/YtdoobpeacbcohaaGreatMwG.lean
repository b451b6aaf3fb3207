/- The reference's functions of paths, and that they compute what the program's do. -/
import Derived.Test.YtdoobpeacbcohaaGreatMwD
namespace Go.MP
open Go Go.Sx Go.Proofs
set_option linter.unusedVariables false
set_option linter.unusedSimpArgs false
noncomputable section
end
end Go.MP
