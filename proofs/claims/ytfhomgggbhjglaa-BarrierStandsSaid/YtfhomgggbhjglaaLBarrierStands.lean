/- The law BarrierStands: for every input it returns true, and leaves its arguments as they were; no condition beyond those of the given row. -/
import Derived.Test.YtfhomgggbhjglaaMbAe
import Derived.Test.YtfhomgggbhjglaaRows
namespace Go.Proofs.Ytfhomgggbhjglaa.lawBarrierStands
open Go Go.Sx Go.MB Go.Proofs
theorem own : ownKnob Try.prog.godebug = none:=by kernel_rfl
set_option maxRecDepth 100000 in
theorem lifted (os : Os) (started : os.Started) (H : Type) (enc : TypeId × Value → H) :
    ReturnsInHanded {} Try.checked os 4 .any (Rows.barrierStandsSpec.pre6 enc Try.prog Try.f4 Rows.barrierStandsRow.domain false) (Rows.barrierStandsSpec.post enc Try.prog Try.f4 false true false false) :=
  law_lift (C:=Try.checked) own started (by kernel_rfl) (by kernel_rfl) rfl (by kernel_rfl) (by kernel_rfl) (by kernel_rfl) (tb:=4) (by kernel_rfl) (l:=[.val (.sl tI)]) (by kernel_rfl)
    (fun ds h => by match ds,h with | [_],_ => rfl)
    (ChangeSpec.witness6 (enc:=enc) (C:=Try.checked) false ⟨#[],#[.slice none 0 0],[]⟩ 8 (by kernel_rfl) (by kernel_rfl) (by kernel_rfl) (by kernel_rfl))
    (fun x hx => c_BarrierStands.ok x trivial)
theorem over : Rows.barrierStandsRow.holds Try.pinned (OpenSpec.ofChange Rows.barrierStandsSpec) :=
  OpenClaim.holds_of_wide 4 Try.f4 rfl rfl rfl rfl rfl rfl rfl ⟨rfl,rfl,rfl,rfl,rfl⟩ rfl rfl rfl rfl rfl (by kernel_rfl) (by kernel_rfl) (by kernel_rfl)
    (of_decide_eq_true (by kernel_rfl)) (by unfold Func.isWrapper; first | (rw [if_pos (by decide +kernel)]; kernel_rfl) | (rw [if_neg (by decide +kernel)]; exact ⟨rfl,rfl⟩))
    (fun os started H enc _ => lifted os started H enc)
theorem proved : Rows.BarrierStandsSaid:=over
#print axioms proved
end Go.Proofs.Ytfhomgggbhjglaa.lawBarrierStands
