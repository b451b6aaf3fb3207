/- The law RigFirst: for every input it returns true, and leaves its arguments as they were; no condition beyond those of the given row. -/
import Derived.Test.YtmolckndbmjgfaaMrBh
import Derived.Test.YtmolckndbmjgfaaRows
namespace Go.Proofs.Ytmolckndbmjgfaa.lawRigFirst
open Go Go.Sx Go.MR Go.Proofs
theorem own : ownKnob Try.prog.godebug = none := by kernel_rfl
set_option maxRecDepth 100000 in
theorem lifted (os : Os) (started : os.Started) (H : Type) (enc : TypeId × Value → H) :
    ReturnsInHanded {} Try.checked os 16 .any (Rows.rigFirstSpec.pre6 enc Try.prog Try.f16 Rows.rigFirstRow.domain false) (Rows.rigFirstSpec.post enc Try.prog Try.f16 false true false false) :=
  law_lift (C := Try.checked) own started (by kernel_rfl) (by kernel_rfl) rfl (by kernel_rfl) (by kernel_rfl) (by kernel_rfl) (tb := 4) (by kernel_rfl) (l := [.val (.sl tI), .val (.sl tReq)]) (by kernel_rfl)
    (fun ds h => by match ds, h with | [_, _], _ => rfl)
    (ChangeSpec.witness6 (enc := enc) (C := Try.checked) false ⟨#[], #[.slice none 0 0, .slice none 0 0], []⟩ 8 (by kernel_rfl) (by kernel_rfl) (by kernel_rfl) (by kernel_rfl))
    (fun x hx => c_RigFirst.ok x trivial)
theorem over : Rows.rigFirstRow.holds Try.pinned (OpenSpec.ofChange Rows.rigFirstSpec) :=
  OpenClaim.holds_of_wide 16 Try.f16 rfl rfl rfl rfl rfl rfl rfl ⟨rfl, rfl, rfl, rfl, rfl⟩ rfl rfl rfl rfl rfl (by kernel_rfl) (by kernel_rfl) (by kernel_rfl)
    (of_decide_eq_true (by kernel_rfl)) (by unfold Func.isWrapper; first | (rw [if_pos (by decide +kernel)]; kernel_rfl) | (rw [if_neg (by decide +kernel)]; exact ⟨rfl, rfl⟩))
    (fun os started H enc _ => lifted os started H enc)
theorem proved : Rows.RigFirstSaid := over
#print axioms proved
end Go.Proofs.Ytmolckndbmjgfaa.lawRigFirst
