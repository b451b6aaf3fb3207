/- The law BarrierValid: for every input it returns true, and leaves its arguments as they were; no condition beyond those of the given row. -/
import Derived.Test.YtfhomgggbhjglaaMbAc
import Derived.Test.YtfhomgggbhjglaaRows
namespace Go.Proofs.Ytfhomgggbhjglaa.lawBarrierValid
open Go Go.Sx Go.MB Go.Proofs
theorem own : ownKnob Try.prog.godebug = none:=by kernel_rfl
set_option maxRecDepth 100000 in
theorem lifted (os : Os) (started : os.Started) (H : Type) (enc : TypeId × Value → H) :
    ReturnsInHanded {} Try.checked os 5 .any (Rows.barrierValidSpec.pre6 enc Try.prog Try.f5 Rows.barrierValidRow.domain false) (Rows.barrierValidSpec.post enc Try.prog Try.f5 false true false false) :=
  law_lift (C:=Try.checked) own started (by kernel_rfl) (by kernel_rfl) rfl (by kernel_rfl) (by kernel_rfl) (by kernel_rfl) (tb:=4) (by kernel_rfl) (l:=[.val (.sl tI)]) (by kernel_rfl)
    (fun ds h => by match ds,h with | [_],_ => rfl)
    (ChangeSpec.witness6 (enc:=enc) (C:=Try.checked) false ⟨#[],#[.slice none 0 0],[]⟩ 8 (by kernel_rfl) (by kernel_rfl) (by kernel_rfl) (by kernel_rfl))
    (fun x hx => c_BarrierValid.ok x trivial)
theorem over : Rows.barrierValidRow.holds Try.pinned (OpenSpec.ofChange Rows.barrierValidSpec) :=
  OpenClaim.holds_of_wide 5 Try.f5 rfl rfl rfl rfl rfl rfl rfl ⟨rfl,rfl,rfl,rfl,rfl⟩ rfl rfl rfl rfl rfl (by kernel_rfl) (by kernel_rfl) (by kernel_rfl)
    (of_decide_eq_true (by kernel_rfl)) (by unfold Func.isWrapper; first | (rw [if_pos (by decide +kernel)]; kernel_rfl) | (rw [if_neg (by decide +kernel)]; exact ⟨rfl,rfl⟩))
    (fun os started H enc _ => lifted os started H enc)
theorem proved : Rows.BarrierValidSaid:=over
#print axioms proved
end Go.Proofs.Ytfhomgggbhjglaa.lawBarrierValid
