/- Roots, sides and bends; quotients and drags: numbers alone. -/
import Derived.Test.YtdoobpeacbcohaaMvA
namespace Go.MP
open Go Go.Sx Go.Proofs
set_option linter.unusedVariables false
set_option linter.unusedSimpArgs false
noncomputable section
def upS (a b:Int):Int:=-(-a / b)
end
end Go.MP
