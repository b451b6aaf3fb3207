/- The law RigKnown: for every input it returns true, and leaves its arguments as they were; no condition beyond those of the given row. -/
import Derived.Test.YtmolckndbmjgfaaMrBj
import Derived.Test.YtmolckndbmjgfaaRows
namespace Go.Proofs.Ytmolckndbmjgfaa.lawRigKnown
open Go Go.Sx Go.MR Go.Proofs
theorem own : ownKnob Try.prog.godebug = none := by kernel_rfl
set_option maxRecDepth 100000 in
theorem lifted (os : Os) (started : os.Started) (H : Type) (enc : TypeId × Value → H) :
    ReturnsInHanded {} Try.checked os 17 .any (Rows.rigKnownSpec.pre6 enc Try.prog Try.f17 Rows.rigKnownRow.domain false) (Rows.rigKnownSpec.post enc Try.prog Try.f17 false true false false) :=
  law_lift (C := Try.checked) own started (by kernel_rfl) (by kernel_rfl) rfl (by kernel_rfl) (by kernel_rfl) (by kernel_rfl) (tb := 4) (by kernel_rfl) (l := []) (by kernel_rfl)
    (fun ds h => by match ds, h with | [], _ => rfl)
    (ChangeSpec.witness6 (enc := enc) (C := Try.checked) false ⟨#[], #[], []⟩ 8 (by kernel_rfl) (by kernel_rfl) (by kernel_rfl) (by kernel_rfl))
    (fun x hx => c_RigKnown.ok x trivial)
theorem over : Rows.rigKnownRow.holds Try.pinned (OpenSpec.ofChange Rows.rigKnownSpec) :=
  OpenClaim.holds_of_wide 17 Try.f17 rfl rfl rfl rfl rfl rfl rfl ⟨rfl, rfl, rfl, rfl, rfl⟩ rfl rfl rfl rfl rfl (by kernel_rfl) (by kernel_rfl) (by kernel_rfl)
    (of_decide_eq_true (by kernel_rfl)) (by unfold Func.isWrapper; first | (rw [if_pos (by decide +kernel)]; kernel_rfl) | (rw [if_neg (by decide +kernel)]; exact ⟨rfl, rfl⟩))
    (fun os started H enc _ => lifted os started H enc)
theorem proved : Rows.RigKnownSaid := over
#print axioms proved
end Go.Proofs.Ytmolckndbmjgfaa.lawRigKnown
