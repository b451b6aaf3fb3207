/- Tubes and strings made of numbers. -/
import Derived.Test.YtmolckndbmjgfaaMvC
import Derived.Test.YtmolckndbmjgfaaMvB
namespace Go.MP
open Go Go.Sx Go.Proofs
set_option linter.unusedVariables false
set_option linter.unusedSimpArgs false
noncomputable section
structure StrOk (n : Int) (s : List Tb) : Prop where
  fair : AllF s
  le : sumT s ≤ n
  few : sumT s ≤ 19200 * s.length
  wet : ∀ t ∈ s, ∀ m, 0 ≤ m → m ≤ 22000 → 0 < wetS t m
end
end Go.MP
