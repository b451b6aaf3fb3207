/- The law PipeBears: for every input it returns true, and leaves its arguments as they were; no condition beyond those of the given row. -/
import Derived.Test.YtoockflaeaknbaaGreatMtE
import Derived.Test.YtoockflaeaknbaaGreatRows
namespace Go.Proofs.YtoockflaeaknbaaGreat.lawPipeBears
open Go Go.Sx Go.MP Go.Proofs
theorem own : ownKnob Tryz.prog.godebug = none:=by kernel_rfl
set_option maxRecDepth 100000 in
theorem lifted (os : Os) (started : os.Started) (H : Type) (enc : TypeId × Value → H) :
    ReturnsInHanded {} Tryz.checked os 4 .any (Rows.pipeBearsSpec.pre6 enc Tryz.prog Tryz.f4 Rows.pipeBearsRow.domain false) (Rows.pipeBearsSpec.post enc Tryz.prog Tryz.f4 false true false false) :=
  law_lift (C:=Tryz.checked) own started (by kernel_rfl) (by kernel_rfl) rfl (by kernel_rfl) (by kernel_rfl) (by kernel_rfl) (tb:=4) (by kernel_rfl) (l:=[.agg tTs,.agg (.pair tV tVs),.agg (.pair tI (.pair tI (.pair (.pair tI tI) tI))),.val tI,.val (.sl tI)]) (by kernel_rfl)
    (fun ds h => by match ds,h with | [_,_,_,_,_],_ => rfl)
    (ChangeSpec.witness6 (enc:=enc) (C:=Tryz.checked) false ⟨#[],#[.agg #[.slice none 0 0],.agg #[.int .i64 0,.int .i64 0,.int .i64 0,.slice none 0 0],.agg #[.int .i64 0,.int .i64 0,.int .i64 0,.int .i64 0,.int .i64 0],.int .i64 0,.slice none 0 0],[]⟩ 8 (by kernel_rfl) (by kernel_rfl) (by kernel_rfl) (by kernel_rfl))
    (fun x hx => c_PipeBears.ok x trivial)
theorem over : Rows.pipeBearsRow.holds Tryz.pinned (OpenSpec.ofChange Rows.pipeBearsSpec) :=
  OpenClaim.holds_of_wide 4 Tryz.f4 rfl rfl rfl rfl rfl rfl rfl ⟨rfl,rfl,rfl,rfl,rfl⟩ rfl rfl rfl rfl rfl (by kernel_rfl) (by kernel_rfl) (by kernel_rfl)
    (of_decide_eq_true (by kernel_rfl)) (by unfold Func.isWrapper; first | (rw [if_pos (by decide +kernel)]; kernel_rfl) | (rw [if_neg (by decide +kernel)]; exact ⟨rfl,rfl⟩))
    (fun os started H enc _ => lifted os started H enc)
theorem proved : Rows.PipeBearsSaid:=over
#print axioms proved
end Go.Proofs.YtoockflaeaknbaaGreat.lawPipeBears
