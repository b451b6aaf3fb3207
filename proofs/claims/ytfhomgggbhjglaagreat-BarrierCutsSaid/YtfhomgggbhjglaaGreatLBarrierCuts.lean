/- The law BarrierCuts: for every input it returns true, and leaves its arguments as they were; no condition beyond those of the given row. -/
import Derived.Test.YtfhomgggbhjglaaGreatMdG
import Derived.Test.YtfhomgggbhjglaaGreatRows
namespace Go.Proofs.YtfhomgggbhjglaaGreat.lawBarrierCuts
open Go Go.Sx Go.MB Go.Proofs
theorem own : ownKnob Tryz.prog.godebug = none:=by kernel_rfl
set_option maxRecDepth 100000 in
theorem lifted (os : Os) (started : os.Started) (H : Type) (enc : TypeId × Value → H) :
    ReturnsInHanded {} Tryz.checked os 8 .any (Rows.barrierCutsSpec.pre6 enc Tryz.prog Tryz.f8 Rows.barrierCutsRow.domain false) (Rows.barrierCutsSpec.post enc Tryz.prog Tryz.f8 false true false false) :=
  law_lift (C:=Tryz.checked) own started (by kernel_rfl) (by kernel_rfl) rfl (by kernel_rfl) (by kernel_rfl) (by kernel_rfl) (tb:=4) (by kernel_rfl) (l:=[.agg tHs,.val tI,.val tI,.val (.sl tI)]) (by kernel_rfl)
    (fun ds h => by match ds,h with | [_,_,_,_],_ => rfl)
    (ChangeSpec.witness6 (enc:=enc) (C:=Tryz.checked) false ⟨#[],#[.agg #[.slice none 0 0,.slice none 0 0,.int .i64 0],.int .i64 0,.int .i64 0,.slice none 0 0],[]⟩ 8 (by kernel_rfl) (by kernel_rfl) (by kernel_rfl) (by kernel_rfl))
    (fun x hx => c_BarrierCuts.ok x trivial)
theorem over : Rows.barrierCutsRow.holds Tryz.pinned (OpenSpec.ofChange Rows.barrierCutsSpec) :=
  OpenClaim.holds_of_wide 8 Tryz.f8 rfl rfl rfl rfl rfl rfl rfl ⟨rfl,rfl,rfl,rfl,rfl⟩ rfl rfl rfl rfl rfl (by kernel_rfl) (by kernel_rfl) (by kernel_rfl)
    (of_decide_eq_true (by kernel_rfl)) (by unfold Func.isWrapper; first | (rw [if_pos (by decide +kernel)]; kernel_rfl) | (rw [if_neg (by decide +kernel)]; exact ⟨rfl,rfl⟩))
    (fun os started H enc _ => lifted os started H enc)
theorem proved : Rows.BarrierCutsSaid:=over
#print axioms proved
end Go.Proofs.YtfhomgggbhjglaaGreat.lawBarrierCuts
