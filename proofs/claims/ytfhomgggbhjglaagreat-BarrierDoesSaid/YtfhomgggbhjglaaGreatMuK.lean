/- The law BarrierChecks. -/
import Derived.Test.YtfhomgggbhjglaaGreatMuJ
namespace Go.MB
open Go Go.Sx Go.Proofs
set_option linter.unusedVariables false
set_option linter.unusedSimpArgs false
noncomputable section
theorem bigH_ok{h:Hs}(hb:bigH h=false):hOk h:=by
 unfold bigH at hb
 simp only[Bool.or_eq_false_iff,decide_eq_false_iff_not,List.any_eq_false,decide_eq_true_eq] at hb
 obtain⟨h1,h2,h3⟩:=hb
 exact⟨by omega,by omega,fun q hq=>by have:=h3 q hq;omega⟩
end
end Go.MB
