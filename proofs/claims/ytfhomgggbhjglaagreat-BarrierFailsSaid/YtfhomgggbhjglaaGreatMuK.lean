/- The law BarrierChecks. -/
import Derived.Test.YtfhomgggbhjglaaGreatMuJ
namespace Go.MB
open Go Go.Sx Go.Proofs
set_option linter.unusedVariables false
set_option linter.unusedSimpArgs false
noncomputable section
theorem houK_hOk (l:List Int) {k:Int} (h:0 ≤ k):hOk (houK l k):=by
  obtain ⟨h1,h2,h3,_⟩:=houK_ok l h
  exact ⟨by omega,by omega,fun q hq => by have:=h3 q hq; omega⟩
end
end Go.MB
