/- PathDirections: a turn is 0 exactly for one direction, at most 2, and does not depend on order and lengths. -/
import Derived.Test.YtoockflaeaknbaaGreatMwE
namespace Go.MP
open Go Go.Sx Go.Proofs
set_option linter.unusedVariables false
set_option linter.unusedSimpArgs false
noncomputable section
theorem inB_of_whole {v:V} {n:Int} (h:(wholeS v).2 = true) (h2:(wholeS v).1 ≤ n):inB v n = true:=inB_mono (wholeS_true h).2.2.2.1 h2
end
end Go.MP
