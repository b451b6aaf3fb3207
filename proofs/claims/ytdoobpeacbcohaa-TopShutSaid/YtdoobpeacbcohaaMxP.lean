/- Rigs: the chapter's rig. -/
import Derived.Test.YtdoobpeacbcohaaMxO
namespace Go.MR
open Go Go.Sx Go.Proofs
set_option linter.unusedVariables false
set_option linter.unusedSimpArgs false
noncomputable section
theorem tickN_eq {r:Rig} {s:List Int} {g:List (Int × Int)} {losses:Int} (h:askedS r s g losses = 0):tickN r s g losses = tickD r.1 r.2 g losses.toNat s:=by
  obtain ⟨a1,a2,a3,a4,a5⟩:=askedS_ok h
  have hr:RgOk r.1 r.2:=⟨a2.l2,a2.l4,a2.pb⟩
  have:=(cntTk_inv hr g (losses:=losses.toNat) (by omega)).2 losses.toNat s (Nat.le_refl _) ⟨a2.sl,a2.si⟩
  rw [show ((losses.toNat:Nat):Int) = losses by omega] at this
  exact this
end
end Go.MR
