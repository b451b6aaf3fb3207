/- The rule: the reference's. -/
import Derived.Test.YtfhomgggbhjglaaMbD
namespace Go.MB
open Go Go.Sx Go.Proofs
set_option linter.unusedVariables false
set_option linter.unusedSimpArgs false
noncomputable section
end
end Go.MB
