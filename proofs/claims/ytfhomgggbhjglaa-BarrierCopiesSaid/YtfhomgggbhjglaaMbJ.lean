/- A house made of numbers. -/
import Derived.Test.YtfhomgggbhjglaaMbI
namespace Go.MB
open Go Go.Sx Go.Proofs
set_option linter.unusedVariables false
set_option linter.unusedSimpArgs false
noncomputable section
end
end Go.MB
