/- Rigs: comparisons. -/
import Derived.Test.YtmolckndbmjgfaaMrS
import Derived.Test.YtmolckndbmjgfaaMrU
namespace Go.MR
open Go Go.Sx Go.Proofs
set_option linter.unusedVariables false
set_option linter.unusedSimpArgs false
noncomputable section
theorem T_BigRig (s0_0 : List Int) (s0_1 : List (Int × (Int × (Int × V)))) : fnTree (P := P) [] (lpOf []) Try.f26 (encL 0 [.agg (.pair tIs (.sl (.pair tI (.pair tI (.pair tI tV)))))] ((s0_0, s0_1), ())) =
  Tree.cond (decide ((↑(List.length s0_0) : Int) > (6 : Int))) (Tree.leaf (SV.bool true)) (Tree.leaf (SV.bool (decide ((↑(List.length s0_1) : Int) > (30 : Int))))) := by kernel_rfl
def c_BigRig : PC P := PC.of (α := (List Int × List (Int × (Int × (Int × V)))) × Unit) 26 [.agg (.pair tIs (.sl (.pair tI (.pair tI (.pair tI tV)))))] (fun x => x) (fun x => x) (fun _ => rfl)
  (fun _ => none)
  (fun x => .bool (decide ((x.1.1.length : Int) > 6) || decide ((x.1.2.length : Int) > 30))) (by kernel_rfl) (by
    rintro ⟨⟨s0_0, s0_1⟩, ⟨⟩⟩ hp
    refine fn_of hm (by kernel_rfl) (by kernel_rfl) (T_BigRig s0_0 s0_1) trivial ?_
    try dsimp only at hp
    try dsimp only
    refine ⟨fun c1 => ?_, fun c1 => ?_⟩
    · exact congrArg SV.bool (by rw [c1, Bool.true_or])
    · exact congrArg SV.bool (by rw [c1, Bool.false_or]))
end
end Go.MR
