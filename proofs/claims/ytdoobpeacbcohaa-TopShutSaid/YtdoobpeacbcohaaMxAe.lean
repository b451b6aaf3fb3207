/- RigChecks. -/
import Derived.Test.YtdoobpeacbcohaaMxV
import Derived.Test.YtdoobpeacbcohaaFw4
namespace Go.MR
open Go Go.Sx Go.Proofs
set_option linter.unusedVariables false
set_option linter.unusedSimpArgs false
noncomputable section
end
end Go.MR
