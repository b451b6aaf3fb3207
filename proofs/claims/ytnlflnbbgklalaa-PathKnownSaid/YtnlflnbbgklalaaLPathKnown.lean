/- The law PathKnown: for every input it returns true, and leaves its arguments as they were; no condition beyond those of the given row. -/
import Derived.Test.YtnlflnbbgklalaaMpAl
import Derived.Test.YtnlflnbbgklalaaRows
namespace Go.Proofs.Ytnlflnbbgklalaa.lawPathKnown
open Go Go.Sx Go.MP Go.Proofs

theorem own : ownKnob Try.prog.godebug = none := by kernel_rfl

set_option maxRecDepth 100000 in
theorem lifted (os : Os) (started : os.Started) (H : Type) (enc : TypeId × Value → H) :
    ReturnsInHanded {} Try.checked os 17 .any (Rows.pathKnownSpec.pre6 enc Try.prog Try.f17 Rows.pathKnownRow.domain false) (Rows.pathKnownSpec.post enc Try.prog Try.f17 false true false false) :=
  law_lift (C := Try.checked) own started (by kernel_rfl) (by kernel_rfl) rfl (by kernel_rfl) (by kernel_rfl) (by kernel_rfl) (tb := 4) (by kernel_rfl) (l := []) (by kernel_rfl)
    (fun ds h => by match ds, h with | [], _ => rfl)
    (ChangeSpec.witness6 (enc := enc) (C := Try.checked) false ⟨#[], #[], []⟩ 8 (by kernel_rfl) (by kernel_rfl) (by kernel_rfl) (by kernel_rfl))
    (fun x hx => c_PathKnown.ok x trivial)

theorem over : Rows.pathKnownRow.holds Try.pinned (OpenSpec.ofChange Rows.pathKnownSpec) :=
  OpenClaim.holds_of_wide 17 Try.f17 rfl rfl rfl rfl rfl rfl rfl ⟨rfl, rfl, rfl, rfl, rfl⟩ rfl rfl rfl rfl rfl (by kernel_rfl) (by kernel_rfl) (by kernel_rfl)
    (of_decide_eq_true (by kernel_rfl)) (by unfold Func.isWrapper; first | (rw [if_pos (by decide +kernel)]; kernel_rfl) | (rw [if_neg (by decide +kernel)]; exact ⟨rfl, rfl⟩))
    (fun os started H enc _ => lifted os started H enc)

theorem proved : Rows.PathKnownSaid := over

#print axioms proved
end Go.Proofs.Ytnlflnbbgklalaa.lawPathKnown
