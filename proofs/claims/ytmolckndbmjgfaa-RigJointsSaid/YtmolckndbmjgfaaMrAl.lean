/- RigShears. -/
import Derived.Test.YtmolckndbmjgfaaMrAk
import Derived.Test.YtmolckndbmjgfaaMrP
namespace Go.MR
open Go Go.Sx Go.Proofs
open Go.MP (c_kPath c_kStr pr_kPath V_kPath S_kPath nextS_rng lenS lenS_nn strK strK_ok tTs Tb tT)
set_option linter.unusedVariables false
set_option linter.unusedSimpArgs false
noncomputable section
end
end Go.MR
