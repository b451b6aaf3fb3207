/- Rigs: the reference's moved, move. -/
import Derived.Test.YtdoobpeacbcohaaMxE
namespace Go.MR
open Go Go.Sx Go.Proofs
set_option linter.unusedVariables false
set_option linter.unusedSimpArgs false
noncomputable section
def movedS:List Int → List Int → List Int
  | p :: s,x :: m => IntKind.i64.wrap (p + x) :: movedS s m
  | _,_ => []
theorem movedS_nil (m:List Int):movedS [] m = []:=by unfold movedS; rfl
end
end Go.MR
