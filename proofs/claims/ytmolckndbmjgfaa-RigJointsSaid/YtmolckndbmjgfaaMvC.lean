/- Roots, sides and bends; quotients and drags: numbers alone. -/
import Derived.Test.YtmolckndbmjgfaaMvA
namespace Go.MP
open Go Go.Sx Go.Proofs
set_option linter.unusedVariables false
set_option linter.unusedSimpArgs false
noncomputable section
def upS (a b : Int) : Int := -(-a / b)
theorem div_rng {x b M : Int} (hb : 0 < b) (hM : 0 ≤ M) (h1 : -M ≤ x) (h2 : x ≤ M) : -M ≤ x / b ∧ x / b ≤ M := by
  have h3 : M * 1 ≤ M * b := Int.mul_le_mul_of_nonneg_left (by omega) hM
  refine ⟨Int.le_ediv_of_mul_le hb ?_, Int.ediv_le_of_le_mul hb (by omega)⟩
  rw [Int.neg_mul]; omega
end
end Go.MP
