/- The law BarrierReplays: for every input it returns true, and leaves its arguments as they were; no condition beyond those of the given row. -/
import Derived.Test.YtfhomgggbhjglaaGreatMeI
import Derived.Test.YtfhomgggbhjglaaGreatRows
namespace Go.Proofs.YtfhomgggbhjglaaGreat.lawBarrierReplays
open Go Go.Sx Go.MB Go.Proofs
theorem own:ownKnob Tryz.prog.godebug=none:=by kernel_rfl
set_option maxRecDepth 100000 in
theorem lifted (os:Os) (started:os.Started) (H:Type) (enc:TypeId × Value→H) :
  ReturnsInHanded {} Tryz.checked os 6 .any (Rows.barrierReplaysSpec.pre6 enc Tryz.prog Tryz.f6 Rows.barrierReplaysRow.domain false) (Rows.barrierReplaysSpec.post enc Tryz.prog Tryz.f6 false true false false) :=
 law_lift (C:=Tryz.checked) own started (by kernel_rfl) (by kernel_rfl) rfl (by kernel_rfl) (by kernel_rfl) (by kernel_rfl) (tb:=4) (by kernel_rfl) (l:=[.val (.sl tI),.val tI]) (by kernel_rfl)
  (fun ds h=>by match ds,h with | [_,_],_=>rfl)
  (ChangeSpec.witness6 (enc:=enc) (C:=Tryz.checked) false ⟨#[],#[.slice none 0 0,.int .i64 0],[]⟩ 8 (by kernel_rfl) (by kernel_rfl) (by kernel_rfl) (by kernel_rfl))
  (fun x hx=>c_BarrierReplays.ok x trivial)
theorem over:Rows.barrierReplaysRow.holds Tryz.pinned (OpenSpec.ofChange Rows.barrierReplaysSpec) :=
 OpenClaim.holds_of_wide 6 Tryz.f6 rfl rfl rfl rfl rfl rfl rfl ⟨rfl,rfl,rfl,rfl,rfl⟩ rfl rfl rfl rfl rfl (by kernel_rfl) (by kernel_rfl) (by kernel_rfl)
  (dcT (by kernel_rfl)) (by unfold Func.isWrapper; first |(rw[if_pos (by decide +kernel)]; kernel_rfl) |(rw[if_neg (by decide +kernel)]; exact⟨rfl,rfl⟩))
  (fun os started H enc _=>lifted os started H enc)
theorem proved:Rows.BarrierReplaysSaid:=over
#print axioms proved
end Go.Proofs.YtfhomgggbhjglaaGreat.lawBarrierReplays
