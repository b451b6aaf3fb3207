/- The law RigSteps: for every input it returns true, and leaves its arguments as they were; no condition beyond those of the given row. -/
import Derived.Test.YtmolckndbmjgfaaMrAd
import Derived.Test.YtmolckndbmjgfaaRows
namespace Go.Proofs.Ytmolckndbmjgfaa.lawRigSteps
open Go Go.Sx Go.MR Go.Proofs

theorem own : ownKnob Try.prog.godebug = none := by kernel_rfl

set_option maxRecDepth 100000 in
theorem lifted (os : Os) (started : os.Started) (H : Type) (enc : TypeId × Value → H) :
    ReturnsInHanded {} Try.checked os 11 .any (Rows.rigStepsSpec.pre6 enc Try.prog Try.f11 Rows.rigStepsRow.domain false) (Rows.rigStepsSpec.post enc Try.prog Try.f11 false true false false) :=
  law_lift (C := Try.checked) own started (by kernel_rfl) (by kernel_rfl) rfl (by kernel_rfl) (by kernel_rfl) (by kernel_rfl) (tb := 4) (by kernel_rfl) (l := [.agg tRig, .val (.sl tI), .val (.sl tI), .val (.sl tI), .val (.sl (.sl tI)), .val (.sl tI)]) (by kernel_rfl)
    (fun ds h => by match ds, h with | [_, _, _, _, _, _], _ => rfl)
    (ChangeSpec.witness6 (enc := enc) (C := Try.checked) false ⟨#[], #[.agg #[.slice none 0 0, .slice none 0 0], .slice none 0 0, .slice none 0 0, .slice none 0 0, .slice none 0 0, .slice none 0 0], []⟩ 8 (by kernel_rfl) (by kernel_rfl) (by kernel_rfl) (by kernel_rfl))
    (fun x hx => c_RigSteps.ok x (fun q hq => Int.ofNat_le.2 (hx.2.2.2.2.1.2 q hq).1))

theorem over : Rows.rigStepsRow.holds Try.pinned (OpenSpec.ofChange Rows.rigStepsSpec) :=
  OpenClaim.holds_of_wide 11 Try.f11 rfl rfl rfl rfl rfl rfl rfl ⟨rfl, rfl, rfl, rfl, rfl⟩ rfl rfl rfl rfl rfl (by kernel_rfl) (by kernel_rfl) (by kernel_rfl)
    (of_decide_eq_true (by kernel_rfl)) (by unfold Func.isWrapper; first | (rw [if_pos (by decide +kernel)]; kernel_rfl) | (rw [if_neg (by decide +kernel)]; exact ⟨rfl, rfl⟩))
    (fun os started H enc _ => lifted os started H enc)

theorem proved : Rows.RigStepsSaid := over

#print axioms proved
end Go.Proofs.Ytmolckndbmjgfaa.lawRigSteps
