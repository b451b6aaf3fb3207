/- The law BarrierDoes: for every input it returns true, and leaves its arguments as they were; no condition beyond those of the given row. -/
import Derived.Test.YtfhomgggbhjglaaGreatMhN
import Derived.Test.YtfhomgggbhjglaaGreatRows
namespace Go.Proofs.YtfhomgggbhjglaaGreat.lawBarrierDoes
open Go Go.Sx Go.MB Go.Proofs
theorem own:ownKnob Tryz.prog.godebug=none:=by kernel_rfl
set_option maxRecDepth 100000 in
theorem lifted(os:Os)(started:os.Started)(H:Type)(enc:TypeId × Value->H) :
  ReturnsInHanded {} Tryz.checked os 3 .any (Rows.barrierDoesSpec.pre6 enc Tryz.prog Tryz.f3 Rows.barrierDoesRow.domain false) (Rows.barrierDoesSpec.post enc Tryz.prog Tryz.f3 false true false false) :=
 law_lift (C:=Tryz.checked) own started (by kernel_rfl) (by kernel_rfl) rfl (by kernel_rfl) (by kernel_rfl) (by kernel_rfl) (tb:=4) (by kernel_rfl) (l:=[.agg zR,.agg jE,.val (.sl tI)]) (by kernel_rfl)
  (fun ds h=>by match ds,h with | [_,_,_],_=>rfl)
  (ChangeSpec.witness6 (enc:=enc) (C:=Tryz.checked) false ⟨#[],#[.agg #[.int .i64 0,.int .i64 0,.int .i64 0,.int .i64 0,.int .i64 0,.slice none 0 0,.slice none 0 0,.int .i64 0,.slice none 0 0,.int .i64 0],.agg #[.int .i64 0,.int .i64 0,.int .i64 0,.int .i64 0,.int .i64 0,.int .i64 0],.slice none 0 0],[]⟩ 8 (by kernel_rfl) (by kernel_rfl) (by kernel_rfl) (by kernel_rfl))
  (fun x hx=>c_BarrierDoes.ok x trivial)
theorem over:Rows.barrierDoesRow.holds Tryz.pinned (OpenSpec.ofChange Rows.barrierDoesSpec) :=
 OpenClaim.holds_of_wide 3 Tryz.f3 rfl rfl rfl rfl rfl rfl rfl ⟨rfl,rfl,rfl,rfl,rfl⟩ rfl rfl rfl rfl rfl (by kernel_rfl) (by kernel_rfl) (by kernel_rfl)
  (dcT (by kernel_rfl)) (by unfold Func.isWrapper;first |(rw[if_pos (by decide +kernel)];kernel_rfl) |(rw[if_neg (by decide +kernel)];exact⟨rfl,rfl⟩))
  (fun os started H enc _=>lifted os started H enc)
theorem proved:Rows.BarrierDoesSaid:=over
#print axioms proved
end Go.Proofs.YtfhomgggbhjglaaGreat.lawBarrierDoes
