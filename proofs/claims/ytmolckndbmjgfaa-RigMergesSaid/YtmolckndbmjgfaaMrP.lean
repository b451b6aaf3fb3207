/- Rigs: the chapter's rig. -/
import Derived.Test.YtmolckndbmjgfaaMrO
namespace Go.MR
open Go Go.Sx Go.Proofs
set_option linter.unusedVariables false
set_option linter.unusedSimpArgs false
noncomputable section
def xBs : List Ban := [(0, 1, 1, 1, 1, 2)]
def xG : List (Int × Int) := [(2, 2), (0, 0)]
def xPs : List Int := [3, 3]
theorem T_shown (_ : Unit) : fnTree (P := P) [] (lpOf []) Try.f67 (encL 0 [] ()) =
  Tree.leaf (SV.agg [SV.sl (Ty.int IntKind.i64) [(3 : Int), (3 : Int)], SV.sl (Ty.pair (Ty.int IntKind.i64) (Ty.pair (Ty.int IntKind.i64) (Ty.pair (Ty.int IntKind.i64) (Ty.pair (Ty.int IntKind.i64) (Ty.pair (Ty.int IntKind.i64) (Ty.int IntKind.i64)))))) [((0 : Int), (1 : Int), (1 : Int), (1 : Int), (1 : Int), (2 : Int))]]) := by kernel_rfl
def c_shown : PC P := PC.of (α := Unit) 67 [] (fun x => x) (fun x => x) (fun _ => rfl)
  (fun _ => none)
  (fun _ => .agg [.sl tI xPs, .sl tBan xBs]) (by kernel_rfl) (by
    rintro ⟨⟩ hp
    refine fn_of hm (by kernel_rfl) (by kernel_rfl) (T_shown ()) trivial ?_
    exact rfl)
theorem T_aim (_ : Unit) : fnTree (P := P) [] (lpOf []) Try.f68 (encL 0 [] ()) =
  Tree.leaf (SV.sl (Ty.pair (Ty.int IntKind.i64) (Ty.int IntKind.i64)) [((2 : Int), (2 : Int)), ((0 : Int), (0 : Int))]) := by kernel_rfl
def c_aim : PC P := PC.of (α := Unit) 68 [] (fun x => x) (fun x => x) (fun _ => rfl)
  (fun _ => none)
  (fun _ => .sl tPart xG) (by kernel_rfl) (by
    rintro ⟨⟩ hp
    refine fn_of hm (by kernel_rfl) (by kernel_rfl) (T_aim ()) trivial ?_
    exact rfl)
theorem T_awake (_ : Unit) : fnTree (P := P) [c_shown.gc, c_aim.gc, c_Allowed.gc, c_Ticks.gc] (lpOf []) Try.f23 (encL 0 [] ()) =
  Tree.need ((↑(List.length [(1 : Int), (1 : Int)]) : Int) < (2 : Int) ^ (62 : Nat)) (Tree.cond true (Tree.cond true (Tree.cond true (Tree.leaf (SV.bool true)) (Tree.leaf (SV.bool false))) (Tree.leaf (SV.bool false))) (Tree.leaf (SV.bool false))) := by kernel_rfl
def c_awake : PC P := PC.of (α := Unit) 23 [] (fun x => x) (fun x => x) (fun _ => rfl)
  (fun _ => none)
  (fun _ => .bool true) (by kernel_rfl) (by
    rintro ⟨⟩ hp
    refine fn_of hm (by kernel_rfl) (by kernel_rfl) (T_awake ()) trivial ?_
    exact ⟨by decide, fun _ => ⟨fun _ => ⟨fun _ => rfl, fun c => by cases c⟩, fun c => by cases c⟩, fun c => by cases c⟩)
end
end Go.MR
