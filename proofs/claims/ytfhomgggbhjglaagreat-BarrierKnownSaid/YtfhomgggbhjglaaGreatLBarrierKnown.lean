/- The law BarrierKnown: for every input it returns true, and leaves its arguments as they were; no condition beyond those of the given row. -/
import Derived.Test.YtfhomgggbhjglaaGreatMeF
import Derived.Test.YtfhomgggbhjglaaGreatRows
namespace Go.Proofs.YtfhomgggbhjglaaGreat.lawBarrierKnown
open Go Go.Sx Go.MB Go.Proofs
theorem own : ownKnob Tryz.prog.godebug = none:=by kernel_rfl
set_option maxRecDepth 100000 in
theorem lifted (os : Os) (started : os.Started) (H : Type) (enc : TypeId × Value → H) :
    ReturnsInHanded {} Tryz.checked os 9 .any (Rows.barrierKnownSpec.pre6 enc Tryz.prog Tryz.f9 Rows.barrierKnownRow.domain false) (Rows.barrierKnownSpec.post enc Tryz.prog Tryz.f9 false true false false) :=
  law_lift (C:=Tryz.checked) own started (by kernel_rfl) (by kernel_rfl) rfl (by kernel_rfl) (by kernel_rfl) (by kernel_rfl) (tb:=4) (by kernel_rfl) (l:=[]) (by kernel_rfl)
    (fun ds h => by match ds,h with | [],_ => rfl)
    (ChangeSpec.witness6 (enc:=enc) (C:=Tryz.checked) false ⟨#[],#[],[]⟩ 8 (by kernel_rfl) (by kernel_rfl) (by kernel_rfl) (by kernel_rfl))
    (fun x hx => c_BarrierKnown.ok x trivial)
theorem over : Rows.barrierKnownRow.holds Tryz.pinned (OpenSpec.ofChange Rows.barrierKnownSpec) :=
  OpenClaim.holds_of_wide 9 Tryz.f9 rfl rfl rfl rfl rfl rfl rfl ⟨rfl,rfl,rfl,rfl,rfl⟩ rfl rfl rfl rfl rfl (by kernel_rfl) (by kernel_rfl) (by kernel_rfl)
    (of_decide_eq_true (by kernel_rfl)) (by unfold Func.isWrapper; first | (rw [if_pos (by decide +kernel)]; kernel_rfl) | (rw [if_neg (by decide +kernel)]; exact ⟨rfl,rfl⟩))
    (fun os started H enc _ => lifted os started H enc)
theorem proved : Rows.BarrierKnownSaid:=over
#print axioms proved
end Go.Proofs.YtfhomgggbhjglaaGreat.lawBarrierKnown
