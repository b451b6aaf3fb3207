/- RigReached: by the best moves a goal is reached in time. -/
import Derived.Test.YtdoobpeacbcohaaMxZ
namespace Go.MR
open Go Go.Sx Go.Proofs
set_option linter.unusedVariables false
set_option linter.unusedSimpArgs false
noncomputable section
theorem rg_of {r:Rig} {s:List Int} (h:Sf r s):RgOk r.1 r.2:=⟨(checkS_ok h.ck).1,(checkS_ok h.ck).2.1,h.pb⟩
end
end Go.MR
