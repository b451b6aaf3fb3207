/-
  No cell of these rows narrows 'for every input' (looked for: loops, veiled, ifaces, maps, wideKeys, modest, calm, conditions, laid).
  DERIVED. THE GIVEN ROWS OF THIS SEAT. 7 by the template 'for every input the law returns true; each argument reads behind the call as it read before'; 0 by the template 'total and deterministic' (their statements: YtfhomgggbhjglaaTotals.lean).
  GIVEN WITH THE SEED: the statements are not yours to turn. If you find one false, say at which input.
  Laid BY PROGRAM, IN A SANDBOX (cutbox-rows.mjs): the forced cells as the released guide's own fill.sh prints them over the translation 433a9089947902f5… (all of the seat's roots in one cut). By AI agents, Wed Nov 11 2026. No macro, syntax, notation, axiom, sorry.
-/
import Derived.Test.YtfhomgggbhjglaaChecked
import GoSem.Claim
import GoSem.ClaimJoined
import GoSem.ClaimMapViews
import Derived.JoinedTies
import Derived.KernelRfl
namespace Go.Proofs.Ytfhomgggbhjglaa
/- THE CELL 'sum', in the pinned program and in every row, IS THE sha256 OF THE DUMP (.gsa) THAT YtfhomgggbhjglaaProg.lean LOADS. Nothing in Lean hashes anything: it is a label: what it is worth is what the hold of that sum in a sandbox is worth. -/
noncomputable def Try.pinned : Pinned := { name := "ytfhomgggbhjglaa", sum := "433a9089947902f5e7814b039e673719280c759cb3bfe51df3f0d519ba49c169", checked := Try.checked }
namespace Rows
def none {H : Type} : Left H := { results := [], args := [] }

/-- 'moonpoollaw09.BarrierCommands': WHATEVER THE INPUT: true; the input reads as it did. -/
def barrierCommandsSpec : ChangeSpec := { name := "barrierCommands", fn := fun _ => fun
  | [d] => { results := [.lit (.bool true)], args := [d] }
  | _ => none }
def barrierCommandsRow : OpenClaim := { program := "ytfhomgggbhjglaa", sum := "433a9089947902f5e7814b039e673719280c759cb3bfe51df3f0d519ba49c169", func := "moonpool/moonpoollaw09.BarrierCommands", spec := "barrierCommands", inPlace := ["slices.overlaps[moonpool/api.Permit]"], unfollowed := true, recurses := true, apart := false }
def BarrierCommandsSaid : Prop := barrierCommandsRow.holds Try.pinned (OpenSpec.ofChange barrierCommandsSpec)

/-- ITS FALSE NEIGHBOUR: 'it returns false'. Refute it at one input. -/
def barrierCommandsWrong : ChangeSpec := { name := "barrierCommands", fn := fun _ => fun
  | [d] => { results := [.lit (.bool false)], args := [d] }
  | _ => none }
def BarrierCommandsWrongFalsely : Prop := barrierCommandsRow.holds Try.pinned (OpenSpec.ofChange barrierCommandsWrong)

/-- 'moonpoollaw09.BarrierStands': WHATEVER THE INPUT: true; the input reads as it did. -/
def barrierStandsSpec : ChangeSpec := { name := "barrierStands", fn := fun _ => fun
  | [d] => { results := [.lit (.bool true)], args := [d] }
  | _ => none }
def barrierStandsRow : OpenClaim := { program := "ytfhomgggbhjglaa", sum := "433a9089947902f5e7814b039e673719280c759cb3bfe51df3f0d519ba49c169", func := "moonpool/moonpoollaw09.BarrierStands", spec := "barrierStands", inPlace := ["slices.overlaps[moonpool/api.Permit]"], unfollowed := true, recurses := true, apart := false }
def BarrierStandsSaid : Prop := barrierStandsRow.holds Try.pinned (OpenSpec.ofChange barrierStandsSpec)

/-- ITS FALSE NEIGHBOUR: 'it returns false'. Refute it at one input. -/
def barrierStandsWrong : ChangeSpec := { name := "barrierStands", fn := fun _ => fun
  | [d] => { results := [.lit (.bool false)], args := [d] }
  | _ => none }
def BarrierStandsWrongFalsely : Prop := barrierStandsRow.holds Try.pinned (OpenSpec.ofChange barrierStandsWrong)

/-- 'moonpoollaw09.BarrierValid': WHATEVER THE INPUT: true; the input reads as it did. -/
def barrierValidSpec : ChangeSpec := { name := "barrierValid", fn := fun _ => fun
  | [d] => { results := [.lit (.bool true)], args := [d] }
  | _ => none }
def barrierValidRow : OpenClaim := { program := "ytfhomgggbhjglaa", sum := "433a9089947902f5e7814b039e673719280c759cb3bfe51df3f0d519ba49c169", func := "moonpool/moonpoollaw09.BarrierValid", spec := "barrierValid", inPlace := ["slices.overlaps[moonpool/api.Permit]"], unfollowed := true, recurses := true, apart := false }
def BarrierValidSaid : Prop := barrierValidRow.holds Try.pinned (OpenSpec.ofChange barrierValidSpec)

/-- ITS FALSE NEIGHBOUR: 'it returns false'. Refute it at one input. -/
def barrierValidWrong : ChangeSpec := { name := "barrierValid", fn := fun _ => fun
  | [d] => { results := [.lit (.bool false)], args := [d] }
  | _ => none }
def BarrierValidWrongFalsely : Prop := barrierValidRow.holds Try.pinned (OpenSpec.ofChange barrierValidWrong)

/-- 'moonpoollaw09.BarrierLapses': WHATEVER THE INPUT: true; the input reads as it did. -/
def barrierLapsesSpec : ChangeSpec := { name := "barrierLapses", fn := fun _ => fun
  | [d1, d2, d3, d4, d5] => { results := [.lit (.bool true)], args := [d1, d2, d3, d4, d5] }
  | _ => none }
def barrierLapsesRow : OpenClaim := { program := "ytfhomgggbhjglaa", sum := "433a9089947902f5e7814b039e673719280c759cb3bfe51df3f0d519ba49c169", func := "moonpool/moonpoollaw09.BarrierLapses", spec := "barrierLapses", inPlace := ["slices.overlaps[moonpool/api.Permit]"], unfollowed := true, recurses := true, apart := false }
def BarrierLapsesSaid : Prop := barrierLapsesRow.holds Try.pinned (OpenSpec.ofChange barrierLapsesSpec)

/-- ITS FALSE NEIGHBOUR: 'it returns false'. Refute it at one input. -/
def barrierLapsesWrong : ChangeSpec := { name := "barrierLapses", fn := fun _ => fun
  | [d1, d2, d3, d4, d5] => { results := [.lit (.bool false)], args := [d1, d2, d3, d4, d5] }
  | _ => none }
def BarrierLapsesWrongFalsely : Prop := barrierLapsesRow.holds Try.pinned (OpenSpec.ofChange barrierLapsesWrong)

/-- 'moonpoollaw09.BarrierChecks': WHATEVER THE INPUT: true; the input reads as it did. -/
def barrierChecksSpec : ChangeSpec := { name := "barrierChecks", fn := fun _ => fun
  | [d1, d2, d3, d4, d5] => { results := [.lit (.bool true)], args := [d1, d2, d3, d4, d5] }
  | _ => none }
def barrierChecksRow : OpenClaim := { program := "ytfhomgggbhjglaa", sum := "433a9089947902f5e7814b039e673719280c759cb3bfe51df3f0d519ba49c169", func := "moonpool/moonpoollaw09.BarrierChecks", spec := "barrierChecks", inPlace := ["slices.overlaps[moonpool/api.Permit]"], unfollowed := true, recurses := true, apart := false }
def BarrierChecksSaid : Prop := barrierChecksRow.holds Try.pinned (OpenSpec.ofChange barrierChecksSpec)

/-- ITS FALSE NEIGHBOUR: 'it returns false'. Refute it at one input. -/
def barrierChecksWrong : ChangeSpec := { name := "barrierChecks", fn := fun _ => fun
  | [d1, d2, d3, d4, d5] => { results := [.lit (.bool false)], args := [d1, d2, d3, d4, d5] }
  | _ => none }
def BarrierChecksWrongFalsely : Prop := barrierChecksRow.holds Try.pinned (OpenSpec.ofChange barrierChecksWrong)

/-- 'moonpoollaw09.BarrierProves': WHATEVER THE INPUT: true; the input reads as it did. -/
def barrierProvesSpec : ChangeSpec := { name := "barrierProves", fn := fun _ => fun
  | [d1, d2, d3, d4, d5, d6] => { results := [.lit (.bool true)], args := [d1, d2, d3, d4, d5, d6] }
  | _ => none }
def barrierProvesRow : OpenClaim := { program := "ytfhomgggbhjglaa", sum := "433a9089947902f5e7814b039e673719280c759cb3bfe51df3f0d519ba49c169", func := "moonpool/moonpoollaw09.BarrierProves", spec := "barrierProves", inPlace := ["slices.overlaps[moonpool/api.Permit]"], unfollowed := true, recurses := true, apart := false }
def BarrierProvesSaid : Prop := barrierProvesRow.holds Try.pinned (OpenSpec.ofChange barrierProvesSpec)

/-- ITS FALSE NEIGHBOUR: 'it returns false'. Refute it at one input. -/
def barrierProvesWrong : ChangeSpec := { name := "barrierProves", fn := fun _ => fun
  | [d1, d2, d3, d4, d5, d6] => { results := [.lit (.bool false)], args := [d1, d2, d3, d4, d5, d6] }
  | _ => none }
def BarrierProvesWrongFalsely : Prop := barrierProvesRow.holds Try.pinned (OpenSpec.ofChange barrierProvesWrong)

/-- 'moonpoollaw09.BarrierCopies': WHATEVER THE INPUT: true; the input reads as it did. -/
def barrierCopiesSpec : ChangeSpec := { name := "barrierCopies", fn := fun _ => fun
  | [d1, d2] => { results := [.lit (.bool true)], args := [d1, d2] }
  | _ => none }
def barrierCopiesRow : OpenClaim := { program := "ytfhomgggbhjglaa", sum := "433a9089947902f5e7814b039e673719280c759cb3bfe51df3f0d519ba49c169", func := "moonpool/moonpoollaw09.BarrierCopies", spec := "barrierCopies", inPlace := ["slices.overlaps[moonpool/api.Permit]"], unfollowed := true, recurses := true, apart := false }
def BarrierCopiesSaid : Prop := barrierCopiesRow.holds Try.pinned (OpenSpec.ofChange barrierCopiesSpec)

/-- ITS FALSE NEIGHBOUR: 'it returns false'. Refute it at one input. -/
def barrierCopiesWrong : ChangeSpec := { name := "barrierCopies", fn := fun _ => fun
  | [d1, d2] => { results := [.lit (.bool false)], args := [d1, d2] }
  | _ => none }
def BarrierCopiesWrongFalsely : Prop := barrierCopiesRow.holds Try.pinned (OpenSpec.ofChange barrierCopiesWrong)

/- THE SECOND FORM. 'bulk': how many values and letters a reading holds, each counted each time it is reached (what is shared counts as often as it is met; a slice's spare places count too). A statement '..UptoSaid' is the law's where the arguments, and the package variables that the reading takes, are together of bulk at most 1048576: NARROWER than '..Said'. Prove '..Said' where nothing that the law and all that it calls make is longer than what came in: it says more and counts as full. Else prove '..UptoSaid'. A law counts once. -/
mutual
def uptoBulk {H : Type} : DataW H → Nat
  | .lit (.string bytes) => bytes.length + 1
  | .lit _ => 1
  | .nil => 1
  | .ptr d => uptoBulk d + 1
  | .slice elems spare => uptoBulkAll elems + uptoBulkAll spare + 1
  | .agg parts => uptoBulkAll parts + 1
  | .iface _ d => uptoBulk d + 1
  | .map entries => uptoBulkEntries entries + 1
  | .held _ => 1
def uptoBulkAll {H : Type} : List (DataW H) → Nat
  | [] => 0
  | d :: r => uptoBulk d + uptoBulkAll r
def uptoBulkEntries {H : Type} : List (Lit × DataW H) → Nat
  | [] => 0
  | x :: r => uptoBulkEntry x + uptoBulkEntries r
def uptoBulkEntry {H : Type} : Lit × DataW H → Nat
  | (.string bytes, d) => bytes.length + uptoBulk d + 1
  | (_, d) => uptoBulk d + 1
 end
def uptoSmall : (H : Type) → List (DataW H) → Bool := fun _ ds => decide (uptoBulkAll ds ≤ 1048576)
def OpenSpec.upto (s : _root_.Go.ChangeSpec) : _root_.Go.OpenSpec := { _root_.Go.OpenSpec.ofChange s with cond := some uptoSmall }

/-- 'moonpoollaw09.BarrierCommands', WHERE WHAT IT READS IS OF BULK AT MOST 1048576: true; the input reads as it did. -/
def barrierCommandsUptoRow : OpenClaim := { program := "ytfhomgggbhjglaa", sum := "433a9089947902f5e7814b039e673719280c759cb3bfe51df3f0d519ba49c169", func := "moonpool/moonpoollaw09.BarrierCommands", spec := "barrierCommands", inPlace := ["slices.overlaps[moonpool/api.Permit]"], unfollowed := true, recurses := true, apart := false, narrowed := true }
def BarrierCommandsUptoSaid : Prop := barrierCommandsUptoRow.holds Try.pinned (OpenSpec.upto barrierCommandsSpec)

/-- 'moonpoollaw09.BarrierStands', WHERE WHAT IT READS IS OF BULK AT MOST 1048576: true; the input reads as it did. -/
def barrierStandsUptoRow : OpenClaim := { program := "ytfhomgggbhjglaa", sum := "433a9089947902f5e7814b039e673719280c759cb3bfe51df3f0d519ba49c169", func := "moonpool/moonpoollaw09.BarrierStands", spec := "barrierStands", inPlace := ["slices.overlaps[moonpool/api.Permit]"], unfollowed := true, recurses := true, apart := false, narrowed := true }
def BarrierStandsUptoSaid : Prop := barrierStandsUptoRow.holds Try.pinned (OpenSpec.upto barrierStandsSpec)

/-- 'moonpoollaw09.BarrierValid', WHERE WHAT IT READS IS OF BULK AT MOST 1048576: true; the input reads as it did. -/
def barrierValidUptoRow : OpenClaim := { program := "ytfhomgggbhjglaa", sum := "433a9089947902f5e7814b039e673719280c759cb3bfe51df3f0d519ba49c169", func := "moonpool/moonpoollaw09.BarrierValid", spec := "barrierValid", inPlace := ["slices.overlaps[moonpool/api.Permit]"], unfollowed := true, recurses := true, apart := false, narrowed := true }
def BarrierValidUptoSaid : Prop := barrierValidUptoRow.holds Try.pinned (OpenSpec.upto barrierValidSpec)

/-- 'moonpoollaw09.BarrierLapses', WHERE WHAT IT READS IS OF BULK AT MOST 1048576: true; the input reads as it did. -/
def barrierLapsesUptoRow : OpenClaim := { program := "ytfhomgggbhjglaa", sum := "433a9089947902f5e7814b039e673719280c759cb3bfe51df3f0d519ba49c169", func := "moonpool/moonpoollaw09.BarrierLapses", spec := "barrierLapses", inPlace := ["slices.overlaps[moonpool/api.Permit]"], unfollowed := true, recurses := true, apart := false, narrowed := true }
def BarrierLapsesUptoSaid : Prop := barrierLapsesUptoRow.holds Try.pinned (OpenSpec.upto barrierLapsesSpec)

/-- 'moonpoollaw09.BarrierChecks', WHERE WHAT IT READS IS OF BULK AT MOST 1048576: true; the input reads as it did. -/
def barrierChecksUptoRow : OpenClaim := { program := "ytfhomgggbhjglaa", sum := "433a9089947902f5e7814b039e673719280c759cb3bfe51df3f0d519ba49c169", func := "moonpool/moonpoollaw09.BarrierChecks", spec := "barrierChecks", inPlace := ["slices.overlaps[moonpool/api.Permit]"], unfollowed := true, recurses := true, apart := false, narrowed := true }
def BarrierChecksUptoSaid : Prop := barrierChecksUptoRow.holds Try.pinned (OpenSpec.upto barrierChecksSpec)

/-- 'moonpoollaw09.BarrierProves', WHERE WHAT IT READS IS OF BULK AT MOST 1048576: true; the input reads as it did. -/
def barrierProvesUptoRow : OpenClaim := { program := "ytfhomgggbhjglaa", sum := "433a9089947902f5e7814b039e673719280c759cb3bfe51df3f0d519ba49c169", func := "moonpool/moonpoollaw09.BarrierProves", spec := "barrierProves", inPlace := ["slices.overlaps[moonpool/api.Permit]"], unfollowed := true, recurses := true, apart := false, narrowed := true }
def BarrierProvesUptoSaid : Prop := barrierProvesUptoRow.holds Try.pinned (OpenSpec.upto barrierProvesSpec)

/-- 'moonpoollaw09.BarrierCopies', WHERE WHAT IT READS IS OF BULK AT MOST 1048576: true; the input reads as it did. -/
def barrierCopiesUptoRow : OpenClaim := { program := "ytfhomgggbhjglaa", sum := "433a9089947902f5e7814b039e673719280c759cb3bfe51df3f0d519ba49c169", func := "moonpool/moonpoollaw09.BarrierCopies", spec := "barrierCopies", inPlace := ["slices.overlaps[moonpool/api.Permit]"], unfollowed := true, recurses := true, apart := false, narrowed := true }
def BarrierCopiesUptoSaid : Prop := barrierCopiesUptoRow.holds Try.pinned (OpenSpec.upto barrierCopiesSpec)

end Rows
end Go.Proofs.Ytfhomgggbhjglaa
