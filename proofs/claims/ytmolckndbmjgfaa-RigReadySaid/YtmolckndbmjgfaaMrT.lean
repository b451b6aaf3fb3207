/- RigWorst: readiness is that of all safe states. -/
import Derived.Test.YtmolckndbmjgfaaMrS
namespace Go.MR
open Go Go.Sx Go.Proofs
set_option linter.unusedVariables false
set_option linter.unusedSimpArgs false
noncomputable section
theorem tickD_rng (ps : List Int) (bs : List Ban) (g : List (Int × Int)) (l : Nat) (s : List Int) : -1 ≤ tickD ps bs g l s ∧ tickD ps bs g l s < 65 := by
  have := lst_lt (fun d => reD ps bs g d l s) 65
  unfold tickD
  omega
end
end Go.MR
