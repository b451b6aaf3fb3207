/- The law BarrierLogs: for every input it returns true, and leaves its arguments as they were; no condition beyond those of the given row. -/
import Derived.Test.YtfhomgggbhjglaaGreatMeN
import Derived.Test.YtfhomgggbhjglaaGreatRows
namespace Go.Proofs.YtfhomgggbhjglaaGreat.lawBarrierLogs
open Go Go.Sx Go.MB Go.Proofs
theorem own:ownKnob Tryz.prog.godebug=none:=by kernel_rfl
set_option maxRecDepth 100000 in
theorem lifted(os:Os)(started:os.Started)(H:Type)(enc:TypeId × Value->H) :
  ReturnsInHanded {} Tryz.checked os 5 .any (Rows.barrierLogsSpec.pre6 enc Tryz.prog Tryz.f5 Rows.barrierLogsRow.domain false) (Rows.barrierLogsSpec.post enc Tryz.prog Tryz.f5 false true false false) :=
 law_lift (C:=Tryz.checked) own started (by kernel_rfl) (by kernel_rfl) rfl (by kernel_rfl) (by kernel_rfl) (by kernel_rfl) (tb:=4) (by kernel_rfl) (l:=[.agg tSite,.val (.sl tEntry),.val (.sl tI),.val (.sl tI),.val (.int .u8),.val tI]) (by kernel_rfl)
  (fun ds h=>by match ds,h with | [_,_,_,_,_,_],_=>rfl)
  (ChangeSpec.witness6 (enc:=enc) (C:=Tryz.checked) false ⟨#[],#[.agg #[.int .i64 0,.int .i64 0,.int .i64 0,.int .i64 0,.int .i64 0,.slice none 0 0,.slice none 0 0,.int .i64 0,.slice none 0 0,.int .i64 0],.slice none 0 0,.slice none 0 0,.slice none 0 0,.int .u8 0,.int .i64 0],[]⟩ 8 (by kernel_rfl) (by kernel_rfl) (by kernel_rfl) (by kernel_rfl))
  (fun x hx=>c_BarrierLogs.ok x trivial)
theorem over:Rows.barrierLogsRow.holds Tryz.pinned (OpenSpec.ofChange Rows.barrierLogsSpec) :=
 OpenClaim.holds_of_wide 5 Tryz.f5 rfl rfl rfl rfl rfl rfl rfl ⟨rfl,rfl,rfl,rfl,rfl⟩ rfl rfl rfl rfl rfl (by kernel_rfl) (by kernel_rfl) (by kernel_rfl)
  (dcT (by kernel_rfl)) (by unfold Func.isWrapper;first |(rw[if_pos (by decide +kernel)];kernel_rfl) |(rw[if_neg (by decide +kernel)];exact⟨rfl,rfl⟩))
  (fun os started H enc _=>lifted os started H enc)
theorem proved:Rows.BarrierLogsSaid:=over
#print axioms proved
end Go.Proofs.YtfhomgggbhjglaaGreat.lawBarrierLogs
