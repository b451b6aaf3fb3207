/- Rigs: the reference's states and moves: as the program's. -/
import Derived.Test.YtmolckndbmjgfaaMrH
namespace Go.MR
open Go Go.Sx Go.Proofs
set_option linter.unusedVariables false
set_option linter.unusedSimpArgs false
noncomputable section
end
end Go.MR
