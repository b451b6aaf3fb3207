/- Rigs: what is made of numbers: states, goals, moves; comparisons. -/
import Derived.Test.YtmolckndbmjgfaaMrR
namespace Go.MR
open Go Go.Sx Go.Proofs
set_option linter.unusedVariables false
set_option linter.unusedSimpArgs false
noncomputable section
structure KRig (r : Rig) : Prop where
  l2 : 2 ≤ r.1.length
  l3 : r.1.length ≤ 3
  sm : smallP r.1
  bl : r.2.length ≤ 4
  ck : checkS r = 0
end
end Go.MR
