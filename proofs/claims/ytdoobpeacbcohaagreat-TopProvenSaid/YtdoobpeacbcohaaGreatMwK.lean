/- Paths made of numbers. -/
import Derived.Test.YtdoobpeacbcohaaGreatMwH
import Derived.Test.YtdoobpeacbcohaaGreatMwE
namespace Go.MP
open Go Go.Sx Go.Proofs
set_option linter.unusedVariables false
set_option linter.unusedSimpArgs false
noncomputable section
abbrev tIs:Ty:=.sl tI
def nextX (l:List Int) (k:Int):Int:=(k * 7919) % 10007 + (if 0 < (l.length:Int) then (l.getD (k % l.length).toNat 0 % 1048576) / (1 + k / l.length) else 0)
def nextS (l:List Int) (at' n:Int):Int:=nextX l (at' + 1) % n
end
end Go.MP
