/- When the rule ceases to hold: the program's walk. -/
import Derived.Test.YtfhomgggbhjglaaGreatMuN
import Derived.Test.YtfhomgggbhjglaaGreatMuM
namespace Go.MB
open Go Go.Sx Go.Proofs
set_option linter.unusedVariables false
set_option linter.unusedSimpArgs false
noncomputable section
end
end Go.MB
