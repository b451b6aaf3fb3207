/- Logs: what is written is read. -/
import Derived.Test.YtfhomgggbhjglaaGreatMeG
namespace Go.MB
open Go Go.Sx Go.Proofs
set_option linter.unusedVariables false
set_option linter.unusedSimpArgs false
noncomputable section
theorem ord_rng:∀{l:List Pm}{last:Int},ordB last l=false->∀p∈l,last<p.1/\p.1<16
 | [],_,_,p,hp=>by cases hp
 |x::r,last,h,p,hp=>by
  rw[ordB,Bool.or_eq_false_iff,Bool.or_eq_false_iff,decide_eq_false_iff_not,decide_eq_false_iff_not] at h
  rcases List.mem_cons.1 hp with rfl |hp
  ·exact⟨by omega,by omega⟩
  ·have:=ord_rng h.2.2 p hp
   exact⟨by omega,by omega⟩
end
end Go.MB
