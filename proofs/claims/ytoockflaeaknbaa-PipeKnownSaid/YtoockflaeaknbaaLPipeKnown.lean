/- The law PipeKnown: for every input it returns true, and leaves its arguments as they were; no condition beyond those of the given row. -/
import Derived.Test.YtoockflaeaknbaaMsX
import Derived.Test.YtoockflaeaknbaaRows
namespace Go.Proofs.Ytoockflaeaknbaa.lawPipeKnown
open Go Go.Sx Go.MP Go.Proofs
theorem own : ownKnob Try.prog.godebug = none := by kernel_rfl
set_option maxRecDepth 100000 in
theorem lifted (os : Os) (started : os.Started) (H : Type) (enc : TypeId × Value → H) :
    ReturnsInHanded {} Try.checked os 13 .any (Rows.pipeKnownSpec.pre6 enc Try.prog Try.f13 Rows.pipeKnownRow.domain false) (Rows.pipeKnownSpec.post enc Try.prog Try.f13 false true false false) :=
  law_lift (C := Try.checked) own started (by kernel_rfl) (by kernel_rfl) rfl (by kernel_rfl) (by kernel_rfl) (by kernel_rfl) (tb := 4) (by kernel_rfl) (l := []) (by kernel_rfl)
    (fun ds h => by match ds, h with | [], _ => rfl)
    (ChangeSpec.witness6 (enc := enc) (C := Try.checked) false ⟨#[], #[], []⟩ 8 (by kernel_rfl) (by kernel_rfl) (by kernel_rfl) (by kernel_rfl))
    (fun x hx => c_PipeKnown.ok x trivial)
theorem over : Rows.pipeKnownRow.holds Try.pinned (OpenSpec.ofChange Rows.pipeKnownSpec) :=
  OpenClaim.holds_of_wide 13 Try.f13 rfl rfl rfl rfl rfl rfl rfl ⟨rfl, rfl, rfl, rfl, rfl⟩ rfl rfl rfl rfl rfl (by kernel_rfl) (by kernel_rfl) (by kernel_rfl)
    (of_decide_eq_true (by kernel_rfl)) (by unfold Func.isWrapper; first | (rw [if_pos (by decide +kernel)]; kernel_rfl) | (rw [if_neg (by decide +kernel)]; exact ⟨rfl, rfl⟩))
    (fun os started H enc _ => lifted os started H enc)
theorem proved : Rows.PipeKnownSaid := over
#print axioms proved
end Go.Proofs.Ytoockflaeaknbaa.lawPipeKnown
