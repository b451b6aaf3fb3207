/-
  No cell of these rows narrows 'for every input' (looked for: loops, veiled, ifaces, maps, wideKeys, modest, calm, conditions, laid).
  DERIVED. THE GIVEN ROWS OF THIS SEAT. 7 by the template 'for every input the law returns true; each argument reads behind the call as it read before'; 0 by the template 'total and deterministic' (their statements: YtfhomgggbhjglaaGreatTotals.lean).
  GIVEN WITH THE SEED: the statements are not yours to turn. If you find one false, say at which input.
  Laid BY PROGRAM, IN A SANDBOX (cutbox-rows.mjs): the forced cells as the released guide's own fill.sh prints them over the translation fe8aa11c24d32b54… (all of the seat's roots in one cut). By AI agents, Wed Nov 11 2026. No macro, syntax, notation, axiom, sorry.
-/
import Derived.Test.YtfhomgggbhjglaaGreatChecked
import GoSem.Claim
import GoSem.ClaimJoined
import GoSem.ClaimMapViews
import Derived.JoinedTies
import Derived.KernelRfl
namespace Go.Proofs.YtfhomgggbhjglaaGreat
/- THE CELL 'sum', in the pinned program and in every row, IS THE sha256 OF THE DUMP (.gsa) THAT YtfhomgggbhjglaaGreatProg.lean LOADS. Nothing in Lean hashes anything: it is a label: what it is worth is what the hold of that sum in a sandbox is worth. -/
noncomputable def Tryz.pinned : Pinned := { name := "ytfhomgggbhjglaagreat", sum := "fe8aa11c24d32b54b993f93188149286e9c56a0a4a7513ce116fdb551209f071", checked := Tryz.checked }
namespace Rows
def none {H : Type} : Left H := { results := [], args := [] }

/-- 'moonpoollaw09.BarrierDoes': WHATEVER THE INPUT: true; the input reads as it did. -/
def barrierDoesSpec : ChangeSpec := { name := "barrierDoes", fn := fun _ => fun
  | [d1, d2, d3] => { results := [.lit (.bool true)], args := [d1, d2, d3] }
  | _ => none }
def barrierDoesRow : OpenClaim := { program := "ytfhomgggbhjglaagreat", sum := "fe8aa11c24d32b54b993f93188149286e9c56a0a4a7513ce116fdb551209f071", func := "moonpool/moonpoollaw09.BarrierDoes", spec := "barrierDoes", inPlace := ["slices.overlaps[moonpool/api.Permit]"], unfollowed := true, recurses := true, apart := false }
def BarrierDoesSaid : Prop := barrierDoesRow.holds Tryz.pinned (OpenSpec.ofChange barrierDoesSpec)

/-- ITS FALSE NEIGHBOUR: 'it returns false'. Refute it at one input. -/
def barrierDoesWrong : ChangeSpec := { name := "barrierDoes", fn := fun _ => fun
  | [d1, d2, d3] => { results := [.lit (.bool false)], args := [d1, d2, d3] }
  | _ => none }
def BarrierDoesWrongFalsely : Prop := barrierDoesRow.holds Tryz.pinned (OpenSpec.ofChange barrierDoesWrong)

/-- 'moonpoollaw09.BarrierRuns': WHATEVER THE INPUT: true; the input reads as it did. -/
def barrierRunsSpec : ChangeSpec := { name := "barrierRuns", fn := fun _ => fun
  | [d1, d2, d3] => { results := [.lit (.bool true)], args := [d1, d2, d3] }
  | _ => none }
def barrierRunsRow : OpenClaim := { program := "ytfhomgggbhjglaagreat", sum := "fe8aa11c24d32b54b993f93188149286e9c56a0a4a7513ce116fdb551209f071", func := "moonpool/moonpoollaw09.BarrierRuns", spec := "barrierRuns", inPlace := ["slices.overlaps[moonpool/api.Permit]"], unfollowed := true, recurses := true, apart := false }
def BarrierRunsSaid : Prop := barrierRunsRow.holds Tryz.pinned (OpenSpec.ofChange barrierRunsSpec)

/-- ITS FALSE NEIGHBOUR: 'it returns false'. Refute it at one input. -/
def barrierRunsWrong : ChangeSpec := { name := "barrierRuns", fn := fun _ => fun
  | [d1, d2, d3] => { results := [.lit (.bool false)], args := [d1, d2, d3] }
  | _ => none }
def BarrierRunsWrongFalsely : Prop := barrierRunsRow.holds Tryz.pinned (OpenSpec.ofChange barrierRunsWrong)

/-- 'moonpoollaw09.BarrierLogs': WHATEVER THE INPUT: true; the input reads as it did. -/
def barrierLogsSpec : ChangeSpec := { name := "barrierLogs", fn := fun _ => fun
  | [d1, d2, d3, d4, d5, d6] => { results := [.lit (.bool true)], args := [d1, d2, d3, d4, d5, d6] }
  | _ => none }
def barrierLogsRow : OpenClaim := { program := "ytfhomgggbhjglaagreat", sum := "fe8aa11c24d32b54b993f93188149286e9c56a0a4a7513ce116fdb551209f071", func := "moonpool/moonpoollaw09.BarrierLogs", spec := "barrierLogs", inPlace := ["slices.overlaps[moonpool/api.Permit]"], unfollowed := true, recurses := true, apart := false }
def BarrierLogsSaid : Prop := barrierLogsRow.holds Tryz.pinned (OpenSpec.ofChange barrierLogsSpec)

/-- ITS FALSE NEIGHBOUR: 'it returns false'. Refute it at one input. -/
def barrierLogsWrong : ChangeSpec := { name := "barrierLogs", fn := fun _ => fun
  | [d1, d2, d3, d4, d5, d6] => { results := [.lit (.bool false)], args := [d1, d2, d3, d4, d5, d6] }
  | _ => none }
def BarrierLogsWrongFalsely : Prop := barrierLogsRow.holds Tryz.pinned (OpenSpec.ofChange barrierLogsWrong)

/-- 'moonpoollaw09.BarrierReplays': WHATEVER THE INPUT: true; the input reads as it did. -/
def barrierReplaysSpec : ChangeSpec := { name := "barrierReplays", fn := fun _ => fun
  | [d1, d2] => { results := [.lit (.bool true)], args := [d1, d2] }
  | _ => none }
def barrierReplaysRow : OpenClaim := { program := "ytfhomgggbhjglaagreat", sum := "fe8aa11c24d32b54b993f93188149286e9c56a0a4a7513ce116fdb551209f071", func := "moonpool/moonpoollaw09.BarrierReplays", spec := "barrierReplays", inPlace := ["slices.overlaps[moonpool/api.Permit]"], unfollowed := true, recurses := true, apart := false }
def BarrierReplaysSaid : Prop := barrierReplaysRow.holds Tryz.pinned (OpenSpec.ofChange barrierReplaysSpec)

/-- ITS FALSE NEIGHBOUR: 'it returns false'. Refute it at one input. -/
def barrierReplaysWrong : ChangeSpec := { name := "barrierReplays", fn := fun _ => fun
  | [d1, d2] => { results := [.lit (.bool false)], args := [d1, d2] }
  | _ => none }
def BarrierReplaysWrongFalsely : Prop := barrierReplaysRow.holds Tryz.pinned (OpenSpec.ofChange barrierReplaysWrong)

/-- 'moonpoollaw09.BarrierFails': WHATEVER THE INPUT: true; the input reads as it did. -/
def barrierFailsSpec : ChangeSpec := { name := "barrierFails", fn := fun _ => fun
  | [d1, d2, d3, d4] => { results := [.lit (.bool true)], args := [d1, d2, d3, d4] }
  | _ => none }
def barrierFailsRow : OpenClaim := { program := "ytfhomgggbhjglaagreat", sum := "fe8aa11c24d32b54b993f93188149286e9c56a0a4a7513ce116fdb551209f071", func := "moonpool/moonpoollaw09.BarrierFails", spec := "barrierFails", inPlace := ["slices.overlaps[moonpool/api.Permit]"], unfollowed := true, recurses := true, apart := false }
def BarrierFailsSaid : Prop := barrierFailsRow.holds Tryz.pinned (OpenSpec.ofChange barrierFailsSpec)

/-- ITS FALSE NEIGHBOUR: 'it returns false'. Refute it at one input. -/
def barrierFailsWrong : ChangeSpec := { name := "barrierFails", fn := fun _ => fun
  | [d1, d2, d3, d4] => { results := [.lit (.bool false)], args := [d1, d2, d3, d4] }
  | _ => none }
def BarrierFailsWrongFalsely : Prop := barrierFailsRow.holds Tryz.pinned (OpenSpec.ofChange barrierFailsWrong)

/-- 'moonpoollaw09.BarrierCuts': WHATEVER THE INPUT: true; the input reads as it did. -/
def barrierCutsSpec : ChangeSpec := { name := "barrierCuts", fn := fun _ => fun
  | [d1, d2, d3, d4] => { results := [.lit (.bool true)], args := [d1, d2, d3, d4] }
  | _ => none }
def barrierCutsRow : OpenClaim := { program := "ytfhomgggbhjglaagreat", sum := "fe8aa11c24d32b54b993f93188149286e9c56a0a4a7513ce116fdb551209f071", func := "moonpool/moonpoollaw09.BarrierCuts", spec := "barrierCuts", inPlace := ["slices.overlaps[moonpool/api.Permit]"], unfollowed := true, recurses := true, apart := false }
def BarrierCutsSaid : Prop := barrierCutsRow.holds Tryz.pinned (OpenSpec.ofChange barrierCutsSpec)

/-- ITS FALSE NEIGHBOUR: 'it returns false'. Refute it at one input. -/
def barrierCutsWrong : ChangeSpec := { name := "barrierCuts", fn := fun _ => fun
  | [d1, d2, d3, d4] => { results := [.lit (.bool false)], args := [d1, d2, d3, d4] }
  | _ => none }
def BarrierCutsWrongFalsely : Prop := barrierCutsRow.holds Tryz.pinned (OpenSpec.ofChange barrierCutsWrong)

/-- 'moonpoollaw09.BarrierKnown': WHATEVER THE INPUT: true; the input reads as it did. -/
def barrierKnownSpec : ChangeSpec := { name := "barrierKnown", fn := fun _ => fun
  | [] => { results := [.lit (.bool true)], args := [] }
  | _ => none }
def barrierKnownRow : OpenClaim := { program := "ytfhomgggbhjglaagreat", sum := "fe8aa11c24d32b54b993f93188149286e9c56a0a4a7513ce116fdb551209f071", func := "moonpool/moonpoollaw09.BarrierKnown", spec := "barrierKnown", inPlace := ["slices.overlaps[moonpool/api.Permit]"], unfollowed := true, recurses := true, apart := false }
def BarrierKnownSaid : Prop := barrierKnownRow.holds Tryz.pinned (OpenSpec.ofChange barrierKnownSpec)

/-- ITS FALSE NEIGHBOUR: 'it returns false'. Refute it at one input. -/
def barrierKnownWrong : ChangeSpec := { name := "barrierKnown", fn := fun _ => fun
  | [] => { results := [.lit (.bool false)], args := [] }
  | _ => none }
def BarrierKnownWrongFalsely : Prop := barrierKnownRow.holds Tryz.pinned (OpenSpec.ofChange barrierKnownWrong)

/- THE SECOND FORM. 'bulk': how many values and letters a reading holds, each counted each time it is reached (what is shared counts as often as it is met; a slice's spare places count too). A statement '..UptoSaid' is the law's where the arguments, and the package variables that the reading takes, are together of bulk at most 1048576: NARROWER than '..Said'. Prove '..Said' where nothing that the law and all that it calls make is longer than what came in: it says more and counts as full. Else prove '..UptoSaid'. A law counts once. -/
mutual
def uptoBulk {H : Type} : DataW H → Nat
  | .lit (.string bytes) => bytes.length + 1
  | .lit _ => 1
  | .nil => 1
  | .ptr d => uptoBulk d + 1
  | .slice elems spare => uptoBulkAll elems + uptoBulkAll spare + 1
  | .agg parts => uptoBulkAll parts + 1
  | .iface _ d => uptoBulk d + 1
  | .map entries => uptoBulkEntries entries + 1
  | .held _ => 1
def uptoBulkAll {H : Type} : List (DataW H) → Nat
  | [] => 0
  | d :: r => uptoBulk d + uptoBulkAll r
def uptoBulkEntries {H : Type} : List (Lit × DataW H) → Nat
  | [] => 0
  | x :: r => uptoBulkEntry x + uptoBulkEntries r
def uptoBulkEntry {H : Type} : Lit × DataW H → Nat
  | (.string bytes, d) => bytes.length + uptoBulk d + 1
  | (_, d) => uptoBulk d + 1
 end
def uptoSmall : (H : Type) → List (DataW H) → Bool := fun _ ds => decide (uptoBulkAll ds ≤ 1048576)
def OpenSpec.upto (s : _root_.Go.ChangeSpec) : _root_.Go.OpenSpec := { _root_.Go.OpenSpec.ofChange s with cond := some uptoSmall }

/-- 'moonpoollaw09.BarrierDoes', WHERE WHAT IT READS IS OF BULK AT MOST 1048576: true; the input reads as it did. -/
def barrierDoesUptoRow : OpenClaim := { program := "ytfhomgggbhjglaagreat", sum := "fe8aa11c24d32b54b993f93188149286e9c56a0a4a7513ce116fdb551209f071", func := "moonpool/moonpoollaw09.BarrierDoes", spec := "barrierDoes", inPlace := ["slices.overlaps[moonpool/api.Permit]"], unfollowed := true, recurses := true, apart := false, narrowed := true }
def BarrierDoesUptoSaid : Prop := barrierDoesUptoRow.holds Tryz.pinned (OpenSpec.upto barrierDoesSpec)

/-- 'moonpoollaw09.BarrierRuns', WHERE WHAT IT READS IS OF BULK AT MOST 1048576: true; the input reads as it did. -/
def barrierRunsUptoRow : OpenClaim := { program := "ytfhomgggbhjglaagreat", sum := "fe8aa11c24d32b54b993f93188149286e9c56a0a4a7513ce116fdb551209f071", func := "moonpool/moonpoollaw09.BarrierRuns", spec := "barrierRuns", inPlace := ["slices.overlaps[moonpool/api.Permit]"], unfollowed := true, recurses := true, apart := false, narrowed := true }
def BarrierRunsUptoSaid : Prop := barrierRunsUptoRow.holds Tryz.pinned (OpenSpec.upto barrierRunsSpec)

/-- 'moonpoollaw09.BarrierLogs', WHERE WHAT IT READS IS OF BULK AT MOST 1048576: true; the input reads as it did. -/
def barrierLogsUptoRow : OpenClaim := { program := "ytfhomgggbhjglaagreat", sum := "fe8aa11c24d32b54b993f93188149286e9c56a0a4a7513ce116fdb551209f071", func := "moonpool/moonpoollaw09.BarrierLogs", spec := "barrierLogs", inPlace := ["slices.overlaps[moonpool/api.Permit]"], unfollowed := true, recurses := true, apart := false, narrowed := true }
def BarrierLogsUptoSaid : Prop := barrierLogsUptoRow.holds Tryz.pinned (OpenSpec.upto barrierLogsSpec)

/-- 'moonpoollaw09.BarrierReplays', WHERE WHAT IT READS IS OF BULK AT MOST 1048576: true; the input reads as it did. -/
def barrierReplaysUptoRow : OpenClaim := { program := "ytfhomgggbhjglaagreat", sum := "fe8aa11c24d32b54b993f93188149286e9c56a0a4a7513ce116fdb551209f071", func := "moonpool/moonpoollaw09.BarrierReplays", spec := "barrierReplays", inPlace := ["slices.overlaps[moonpool/api.Permit]"], unfollowed := true, recurses := true, apart := false, narrowed := true }
def BarrierReplaysUptoSaid : Prop := barrierReplaysUptoRow.holds Tryz.pinned (OpenSpec.upto barrierReplaysSpec)

/-- 'moonpoollaw09.BarrierFails', WHERE WHAT IT READS IS OF BULK AT MOST 1048576: true; the input reads as it did. -/
def barrierFailsUptoRow : OpenClaim := { program := "ytfhomgggbhjglaagreat", sum := "fe8aa11c24d32b54b993f93188149286e9c56a0a4a7513ce116fdb551209f071", func := "moonpool/moonpoollaw09.BarrierFails", spec := "barrierFails", inPlace := ["slices.overlaps[moonpool/api.Permit]"], unfollowed := true, recurses := true, apart := false, narrowed := true }
def BarrierFailsUptoSaid : Prop := barrierFailsUptoRow.holds Tryz.pinned (OpenSpec.upto barrierFailsSpec)

/-- 'moonpoollaw09.BarrierCuts', WHERE WHAT IT READS IS OF BULK AT MOST 1048576: true; the input reads as it did. -/
def barrierCutsUptoRow : OpenClaim := { program := "ytfhomgggbhjglaagreat", sum := "fe8aa11c24d32b54b993f93188149286e9c56a0a4a7513ce116fdb551209f071", func := "moonpool/moonpoollaw09.BarrierCuts", spec := "barrierCuts", inPlace := ["slices.overlaps[moonpool/api.Permit]"], unfollowed := true, recurses := true, apart := false, narrowed := true }
def BarrierCutsUptoSaid : Prop := barrierCutsUptoRow.holds Tryz.pinned (OpenSpec.upto barrierCutsSpec)

/-- 'moonpoollaw09.BarrierKnown', WHERE WHAT IT READS IS OF BULK AT MOST 1048576: true; the input reads as it did. -/
def barrierKnownUptoRow : OpenClaim := { program := "ytfhomgggbhjglaagreat", sum := "fe8aa11c24d32b54b993f93188149286e9c56a0a4a7513ce116fdb551209f071", func := "moonpool/moonpoollaw09.BarrierKnown", spec := "barrierKnown", inPlace := ["slices.overlaps[moonpool/api.Permit]"], unfollowed := true, recurses := true, apart := false, narrowed := true }
def BarrierKnownUptoSaid : Prop := barrierKnownUptoRow.holds Tryz.pinned (OpenSpec.upto barrierKnownSpec)

end Rows
end Go.Proofs.YtfhomgggbhjglaaGreat
