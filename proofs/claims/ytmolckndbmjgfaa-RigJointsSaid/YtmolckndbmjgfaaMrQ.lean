/- Rigs: the reference's states and moves: as the program's. -/
import Derived.Test.YtmolckndbmjgfaaMrH
namespace Go.MR
open Go Go.Sx Go.Proofs
set_option linter.unusedVariables false
set_option linter.unusedSimpArgs false
noncomputable section
theorem getD_still {s : List Int} {i : Nat} (h : i < s.length) : (stillS s).getD i (0, 0) = (s.getD i 0, s.getD i 0) := by
  unfold stillS
  rw [List.getD_eq_getElem?_getD, List.getD_eq_getElem?_getD, List.getElem?_map, List.getElem?_eq_getElem h]
  rfl
end
end Go.MR
