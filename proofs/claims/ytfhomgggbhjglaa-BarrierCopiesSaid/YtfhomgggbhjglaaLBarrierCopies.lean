/- The law BarrierCopies: for every input it returns true, and leaves its arguments as they were; no condition beyond those of the given row. -/
import Derived.Test.YtfhomgggbhjglaaMbAt
import Derived.Test.YtfhomgggbhjglaaRows
namespace Go.Proofs.Ytfhomgggbhjglaa.lawBarrierCopies
open Go Go.Sx Go.MB Go.Proofs
theorem own : ownKnob Try.prog.godebug = none:=by kernel_rfl
set_option maxRecDepth 100000 in
theorem lifted (os : Os) (started : os.Started) (H : Type) (enc : TypeId × Value → H) :
    ReturnsInHanded {} Try.checked os 9 .any (Rows.barrierCopiesSpec.pre6 enc Try.prog Try.f9 Rows.barrierCopiesRow.domain false) (Rows.barrierCopiesSpec.post enc Try.prog Try.f9 false true false false) :=
  law_lift (C:=Try.checked) own started (by kernel_rfl) (by kernel_rfl) rfl (by kernel_rfl) (by kernel_rfl) (by kernel_rfl) (tb:=4) (by kernel_rfl) (l:=[.agg tSite,.agg tSite]) (by kernel_rfl)
    (fun ds h => by match ds,h with | [_,_],_ => rfl)
    (ChangeSpec.witness6 (enc:=enc) (C:=Try.checked) false ⟨#[],#[.agg #[.int .i64 0,.int .i64 0,.int .i64 0,.int .i64 0,.int .i64 0,.slice none 0 0,.slice none 0 0,.int .i64 0,.slice none 0 0,.int .i64 0],.agg #[.int .i64 0,.int .i64 0,.int .i64 0,.int .i64 0,.int .i64 0,.slice none 0 0,.slice none 0 0,.int .i64 0,.slice none 0 0,.int .i64 0]],[]⟩ 8 (by kernel_rfl) (by kernel_rfl) (by kernel_rfl) (by kernel_rfl))
    (fun x hx => c_BarrierCopies.ok x trivial)
theorem over : Rows.barrierCopiesRow.holds Try.pinned (OpenSpec.ofChange Rows.barrierCopiesSpec) :=
  OpenClaim.holds_of_wide 9 Try.f9 rfl rfl rfl rfl rfl rfl rfl ⟨rfl,rfl,rfl,rfl,rfl⟩ rfl rfl rfl rfl rfl (by kernel_rfl) (by kernel_rfl) (by kernel_rfl)
    (of_decide_eq_true (by kernel_rfl)) (by unfold Func.isWrapper; first | (rw [if_pos (by decide +kernel)]; kernel_rfl) | (rw [if_neg (by decide +kernel)]; exact ⟨rfl,rfl⟩))
    (fun os started H enc _ => lifted os started H enc)
theorem proved : Rows.BarrierCopiesSaid:=over
#print axioms proved
end Go.Proofs.Ytfhomgggbhjglaa.lawBarrierCopies
