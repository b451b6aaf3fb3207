/-
  No cell of these rows narrows 'for every input' (looked for: loops, veiled, ifaces, maps, wideKeys, modest, calm, conditions, laid).
  DERIVED. THE GIVEN ROWS OF THIS SEAT. 15 by the template 'for every input the law returns true; each argument reads behind the call as it read before'; 0 by the template 'total and deterministic' (their statements: YtmolckndbmjgfaaTotals.lean).
  GIVEN WITH THE SEED: the statements are not yours to turn. If you find one false, say at which input.
  Laid BY PROGRAM, IN A SANDBOX (cutbox-rows.mjs): the forced cells as the released guide's own fill.sh prints them over the translation 9cf08a0d1fe03629… (all of the seat's roots in one cut). By AI agents, Wed Nov 11 2026. No macro, syntax, notation, axiom, sorry.
-/
import Derived.Test.YtmolckndbmjgfaaChecked
import GoSem.Claim
import GoSem.ClaimJoined
import GoSem.ClaimMapViews
import Derived.JoinedTies
import Derived.KernelRfl
namespace Go.Proofs.Ytmolckndbmjgfaa
/- THE CELL 'sum', in the pinned program and in every row, IS THE sha256 OF THE DUMP (.gsa) THAT YtmolckndbmjgfaaProg.lean LOADS. Nothing in Lean hashes anything: it is a label: what it is worth is what the hold of that sum in a sandbox is worth. -/
noncomputable def Try.pinned : Pinned := { name := "ytmolckndbmjgfaa", sum := "9cf08a0d1fe03629fced0ce5155df7c14e5d7a09394a5024dbb9801fb79e6d30", checked := Try.checked }
namespace Rows
def none {H : Type} : Left H := { results := [], args := [] }

/-- 'moonpoollaw08.RigOrder': WHATEVER THE INPUT: true; the input reads as it did. -/
def rigOrderSpec : ChangeSpec := { name := "rigOrder", fn := fun _ => fun
  | [d1, d2] => { results := [.lit (.bool true)], args := [d1, d2] }
  | _ => none }
def rigOrderRow : OpenClaim := { program := "ytmolckndbmjgfaa", sum := "9cf08a0d1fe03629fced0ce5155df7c14e5d7a09394a5024dbb9801fb79e6d30", func := "moonpool/moonpoollaw08.RigOrder", spec := "rigOrder", unfollowed := true, recurses := true, apart := false }
def RigOrderSaid : Prop := rigOrderRow.holds Try.pinned (OpenSpec.ofChange rigOrderSpec)

/-- ITS FALSE NEIGHBOUR: 'it returns false'. Refute it at one input. -/
def rigOrderWrong : ChangeSpec := { name := "rigOrder", fn := fun _ => fun
  | [d1, d2] => { results := [.lit (.bool false)], args := [d1, d2] }
  | _ => none }
def RigOrderWrongFalsely : Prop := rigOrderRow.holds Try.pinned (OpenSpec.ofChange rigOrderWrong)

/-- 'moonpoollaw08.RigChecks': WHATEVER THE INPUT: true; the input reads as it did. -/
def rigChecksSpec : ChangeSpec := { name := "rigChecks", fn := fun _ => fun
  | [d1, d2, d3] => { results := [.lit (.bool true)], args := [d1, d2, d3] }
  | _ => none }
def rigChecksRow : OpenClaim := { program := "ytmolckndbmjgfaa", sum := "9cf08a0d1fe03629fced0ce5155df7c14e5d7a09394a5024dbb9801fb79e6d30", func := "moonpool/moonpoollaw08.RigChecks", spec := "rigChecks", unfollowed := true, recurses := true, apart := false }
def RigChecksSaid : Prop := rigChecksRow.holds Try.pinned (OpenSpec.ofChange rigChecksSpec)

/-- ITS FALSE NEIGHBOUR: 'it returns false'. Refute it at one input. -/
def rigChecksWrong : ChangeSpec := { name := "rigChecks", fn := fun _ => fun
  | [d1, d2, d3] => { results := [.lit (.bool false)], args := [d1, d2, d3] }
  | _ => none }
def RigChecksWrongFalsely : Prop := rigChecksRow.holds Try.pinned (OpenSpec.ofChange rigChecksWrong)

/-- 'moonpoollaw08.RigMoves': WHATEVER THE INPUT: true; the input reads as it did. -/
def rigMovesSpec : ChangeSpec := { name := "rigMoves", fn := fun _ => fun
  | [d1, d2, d3, d4] => { results := [.lit (.bool true)], args := [d1, d2, d3, d4] }
  | _ => none }
def rigMovesRow : OpenClaim := { program := "ytmolckndbmjgfaa", sum := "9cf08a0d1fe03629fced0ce5155df7c14e5d7a09394a5024dbb9801fb79e6d30", func := "moonpool/moonpoollaw08.RigMoves", spec := "rigMoves", unfollowed := true, recurses := true, apart := false }
def RigMovesSaid : Prop := rigMovesRow.holds Try.pinned (OpenSpec.ofChange rigMovesSpec)

/-- ITS FALSE NEIGHBOUR: 'it returns false'. Refute it at one input. -/
def rigMovesWrong : ChangeSpec := { name := "rigMoves", fn := fun _ => fun
  | [d1, d2, d3, d4] => { results := [.lit (.bool false)], args := [d1, d2, d3, d4] }
  | _ => none }
def RigMovesWrongFalsely : Prop := rigMovesRow.holds Try.pinned (OpenSpec.ofChange rigMovesWrong)

/-- 'moonpoollaw08.RigTicks': WHATEVER THE INPUT: true; the input reads as it did. -/
def rigTicksSpec : ChangeSpec := { name := "rigTicks", fn := fun _ => fun
  | [d1, d2, d3, d4, d5] => { results := [.lit (.bool true)], args := [d1, d2, d3, d4, d5] }
  | _ => none }
def rigTicksRow : OpenClaim := { program := "ytmolckndbmjgfaa", sum := "9cf08a0d1fe03629fced0ce5155df7c14e5d7a09394a5024dbb9801fb79e6d30", func := "moonpool/moonpoollaw08.RigTicks", spec := "rigTicks", unfollowed := true, recurses := true, apart := false }
def RigTicksSaid : Prop := rigTicksRow.holds Try.pinned (OpenSpec.ofChange rigTicksSpec)

/-- ITS FALSE NEIGHBOUR: 'it returns false'. Refute it at one input. -/
def rigTicksWrong : ChangeSpec := { name := "rigTicks", fn := fun _ => fun
  | [d1, d2, d3, d4, d5] => { results := [.lit (.bool false)], args := [d1, d2, d3, d4, d5] }
  | _ => none }
def RigTicksWrongFalsely : Prop := rigTicksRow.holds Try.pinned (OpenSpec.ofChange rigTicksWrong)

/-- 'moonpoollaw08.RigReady': WHATEVER THE INPUT: true; the input reads as it did. -/
def rigReadySpec : ChangeSpec := { name := "rigReady", fn := fun _ => fun
  | [d1, d2, d3, d4] => { results := [.lit (.bool true)], args := [d1, d2, d3, d4] }
  | _ => none }
def rigReadyRow : OpenClaim := { program := "ytmolckndbmjgfaa", sum := "9cf08a0d1fe03629fced0ce5155df7c14e5d7a09394a5024dbb9801fb79e6d30", func := "moonpool/moonpoollaw08.RigReady", spec := "rigReady", unfollowed := true, recurses := true, apart := false }
def RigReadySaid : Prop := rigReadyRow.holds Try.pinned (OpenSpec.ofChange rigReadySpec)

/-- ITS FALSE NEIGHBOUR: 'it returns false'. Refute it at one input. -/
def rigReadyWrong : ChangeSpec := { name := "rigReady", fn := fun _ => fun
  | [d1, d2, d3, d4] => { results := [.lit (.bool false)], args := [d1, d2, d3, d4] }
  | _ => none }
def RigReadyWrongFalsely : Prop := rigReadyRow.holds Try.pinned (OpenSpec.ofChange rigReadyWrong)

/-- 'moonpoollaw08.RigWorst': WHATEVER THE INPUT: true; the input reads as it did. -/
def rigWorstSpec : ChangeSpec := { name := "rigWorst", fn := fun _ => fun
  | [d1, d2] => { results := [.lit (.bool true)], args := [d1, d2] }
  | _ => none }
def rigWorstRow : OpenClaim := { program := "ytmolckndbmjgfaa", sum := "9cf08a0d1fe03629fced0ce5155df7c14e5d7a09394a5024dbb9801fb79e6d30", func := "moonpool/moonpoollaw08.RigWorst", spec := "rigWorst", unfollowed := true, recurses := true, apart := false }
def RigWorstSaid : Prop := rigWorstRow.holds Try.pinned (OpenSpec.ofChange rigWorstSpec)

/-- ITS FALSE NEIGHBOUR: 'it returns false'. Refute it at one input. -/
def rigWorstWrong : ChangeSpec := { name := "rigWorst", fn := fun _ => fun
  | [d1, d2] => { results := [.lit (.bool false)], args := [d1, d2] }
  | _ => none }
def RigWorstWrongFalsely : Prop := rigWorstRow.holds Try.pinned (OpenSpec.ofChange rigWorstWrong)

/-- 'moonpoollaw08.RigSafe': WHATEVER THE INPUT: true; the input reads as it did. -/
def rigSafeSpec : ChangeSpec := { name := "rigSafe", fn := fun _ => fun
  | [d1, d2] => { results := [.lit (.bool true)], args := [d1, d2] }
  | _ => none }
def rigSafeRow : OpenClaim := { program := "ytmolckndbmjgfaa", sum := "9cf08a0d1fe03629fced0ce5155df7c14e5d7a09394a5024dbb9801fb79e6d30", func := "moonpool/moonpoollaw08.RigSafe", spec := "rigSafe", unfollowed := true, recurses := true, apart := false }
def RigSafeSaid : Prop := rigSafeRow.holds Try.pinned (OpenSpec.ofChange rigSafeSpec)

/-- ITS FALSE NEIGHBOUR: 'it returns false'. Refute it at one input. -/
def rigSafeWrong : ChangeSpec := { name := "rigSafe", fn := fun _ => fun
  | [d1, d2] => { results := [.lit (.bool false)], args := [d1, d2] }
  | _ => none }
def RigSafeWrongFalsely : Prop := rigSafeRow.holds Try.pinned (OpenSpec.ofChange rigSafeWrong)

/-- 'moonpoollaw08.RigFewer': WHATEVER THE INPUT: true; the input reads as it did. -/
def rigFewerSpec : ChangeSpec := { name := "rigFewer", fn := fun _ => fun
  | [d1, d2, d3] => { results := [.lit (.bool true)], args := [d1, d2, d3] }
  | _ => none }
def rigFewerRow : OpenClaim := { program := "ytmolckndbmjgfaa", sum := "9cf08a0d1fe03629fced0ce5155df7c14e5d7a09394a5024dbb9801fb79e6d30", func := "moonpool/moonpoollaw08.RigFewer", spec := "rigFewer", unfollowed := true, recurses := true, apart := false }
def RigFewerSaid : Prop := rigFewerRow.holds Try.pinned (OpenSpec.ofChange rigFewerSpec)

/-- ITS FALSE NEIGHBOUR: 'it returns false'. Refute it at one input. -/
def rigFewerWrong : ChangeSpec := { name := "rigFewer", fn := fun _ => fun
  | [d1, d2, d3] => { results := [.lit (.bool false)], args := [d1, d2, d3] }
  | _ => none }
def RigFewerWrongFalsely : Prop := rigFewerRow.holds Try.pinned (OpenSpec.ofChange rigFewerWrong)

/-- 'moonpoollaw08.RigSteps': WHATEVER THE INPUT: true; the input reads as it did. -/
def rigStepsSpec : ChangeSpec := { name := "rigSteps", fn := fun _ => fun
  | [d1, d2, d3, d4, d5, d6] => { results := [.lit (.bool true)], args := [d1, d2, d3, d4, d5, d6] }
  | _ => none }
def rigStepsRow : OpenClaim := { program := "ytmolckndbmjgfaa", sum := "9cf08a0d1fe03629fced0ce5155df7c14e5d7a09394a5024dbb9801fb79e6d30", func := "moonpool/moonpoollaw08.RigSteps", spec := "rigSteps", unfollowed := true, recurses := true, apart := false }
def RigStepsSaid : Prop := rigStepsRow.holds Try.pinned (OpenSpec.ofChange rigStepsSpec)

/-- ITS FALSE NEIGHBOUR: 'it returns false'. Refute it at one input. -/
def rigStepsWrong : ChangeSpec := { name := "rigSteps", fn := fun _ => fun
  | [d1, d2, d3, d4, d5, d6] => { results := [.lit (.bool false)], args := [d1, d2, d3, d4, d5, d6] }
  | _ => none }
def RigStepsWrongFalsely : Prop := rigStepsRow.holds Try.pinned (OpenSpec.ofChange rigStepsWrong)

/-- 'moonpoollaw08.RigReached': WHATEVER THE INPUT: true; the input reads as it did. -/
def rigReachedSpec : ChangeSpec := { name := "rigReached", fn := fun _ => fun
  | [d1, d2, d3] => { results := [.lit (.bool true)], args := [d1, d2, d3] }
  | _ => none }
def rigReachedRow : OpenClaim := { program := "ytmolckndbmjgfaa", sum := "9cf08a0d1fe03629fced0ce5155df7c14e5d7a09394a5024dbb9801fb79e6d30", func := "moonpool/moonpoollaw08.RigReached", spec := "rigReached", unfollowed := true, recurses := true, apart := false }
def RigReachedSaid : Prop := rigReachedRow.holds Try.pinned (OpenSpec.ofChange rigReachedSpec)

/-- ITS FALSE NEIGHBOUR: 'it returns false'. Refute it at one input. -/
def rigReachedWrong : ChangeSpec := { name := "rigReached", fn := fun _ => fun
  | [d1, d2, d3] => { results := [.lit (.bool false)], args := [d1, d2, d3] }
  | _ => none }
def RigReachedWrongFalsely : Prop := rigReachedRow.holds Try.pinned (OpenSpec.ofChange rigReachedWrong)

/-- 'moonpoollaw08.RigShears': WHATEVER THE INPUT: true; the input reads as it did. -/
def rigShearsSpec : ChangeSpec := { name := "rigShears", fn := fun _ => fun
  | [d1, d2, d3, d4, d5, d6, d7] => { results := [.lit (.bool true)], args := [d1, d2, d3, d4, d5, d6, d7] }
  | _ => none }
def rigShearsRow : OpenClaim := { program := "ytmolckndbmjgfaa", sum := "9cf08a0d1fe03629fced0ce5155df7c14e5d7a09394a5024dbb9801fb79e6d30", func := "moonpool/moonpoollaw08.RigShears", spec := "rigShears", unfollowed := true, recurses := true, apart := false }
def RigShearsSaid : Prop := rigShearsRow.holds Try.pinned (OpenSpec.ofChange rigShearsSpec)

/-- ITS FALSE NEIGHBOUR: 'it returns false'. Refute it at one input. -/
def rigShearsWrong : ChangeSpec := { name := "rigShears", fn := fun _ => fun
  | [d1, d2, d3, d4, d5, d6, d7] => { results := [.lit (.bool false)], args := [d1, d2, d3, d4, d5, d6, d7] }
  | _ => none }
def RigShearsWrongFalsely : Prop := rigShearsRow.holds Try.pinned (OpenSpec.ofChange rigShearsWrong)

/-- 'moonpoollaw08.RigJoints': WHATEVER THE INPUT: true; the input reads as it did. -/
def rigJointsSpec : ChangeSpec := { name := "rigJoints", fn := fun _ => fun
  | [d1, d2, d3, d4, d5, d6] => { results := [.lit (.bool true)], args := [d1, d2, d3, d4, d5, d6] }
  | _ => none }
def rigJointsRow : OpenClaim := { program := "ytmolckndbmjgfaa", sum := "9cf08a0d1fe03629fced0ce5155df7c14e5d7a09394a5024dbb9801fb79e6d30", func := "moonpool/moonpoollaw08.RigJoints", spec := "rigJoints", unfollowed := true, recurses := true, apart := false }
def RigJointsSaid : Prop := rigJointsRow.holds Try.pinned (OpenSpec.ofChange rigJointsSpec)

/-- ITS FALSE NEIGHBOUR: 'it returns false'. Refute it at one input. -/
def rigJointsWrong : ChangeSpec := { name := "rigJoints", fn := fun _ => fun
  | [d1, d2, d3, d4, d5, d6] => { results := [.lit (.bool false)], args := [d1, d2, d3, d4, d5, d6] }
  | _ => none }
def RigJointsWrongFalsely : Prop := rigJointsRow.holds Try.pinned (OpenSpec.ofChange rigJointsWrong)

/-- 'moonpoollaw08.RigMerges': WHATEVER THE INPUT: true; the input reads as it did. -/
def rigMergesSpec : ChangeSpec := { name := "rigMerges", fn := fun _ => fun
  | [d1, d2, d3, d4] => { results := [.lit (.bool true)], args := [d1, d2, d3, d4] }
  | _ => none }
def rigMergesRow : OpenClaim := { program := "ytmolckndbmjgfaa", sum := "9cf08a0d1fe03629fced0ce5155df7c14e5d7a09394a5024dbb9801fb79e6d30", func := "moonpool/moonpoollaw08.RigMerges", spec := "rigMerges", unfollowed := true, recurses := true, apart := false }
def RigMergesSaid : Prop := rigMergesRow.holds Try.pinned (OpenSpec.ofChange rigMergesSpec)

/-- ITS FALSE NEIGHBOUR: 'it returns false'. Refute it at one input. -/
def rigMergesWrong : ChangeSpec := { name := "rigMerges", fn := fun _ => fun
  | [d1, d2, d3, d4] => { results := [.lit (.bool false)], args := [d1, d2, d3, d4] }
  | _ => none }
def RigMergesWrongFalsely : Prop := rigMergesRow.holds Try.pinned (OpenSpec.ofChange rigMergesWrong)

/-- 'moonpoollaw08.RigFirst': WHATEVER THE INPUT: true; the input reads as it did. -/
def rigFirstSpec : ChangeSpec := { name := "rigFirst", fn := fun _ => fun
  | [d1, d2] => { results := [.lit (.bool true)], args := [d1, d2] }
  | _ => none }
def rigFirstRow : OpenClaim := { program := "ytmolckndbmjgfaa", sum := "9cf08a0d1fe03629fced0ce5155df7c14e5d7a09394a5024dbb9801fb79e6d30", func := "moonpool/moonpoollaw08.RigFirst", spec := "rigFirst", unfollowed := true, recurses := true, apart := false }
def RigFirstSaid : Prop := rigFirstRow.holds Try.pinned (OpenSpec.ofChange rigFirstSpec)

/-- ITS FALSE NEIGHBOUR: 'it returns false'. Refute it at one input. -/
def rigFirstWrong : ChangeSpec := { name := "rigFirst", fn := fun _ => fun
  | [d1, d2] => { results := [.lit (.bool false)], args := [d1, d2] }
  | _ => none }
def RigFirstWrongFalsely : Prop := rigFirstRow.holds Try.pinned (OpenSpec.ofChange rigFirstWrong)

/-- 'moonpoollaw08.RigKnown': WHATEVER THE INPUT: true; the input reads as it did. -/
def rigKnownSpec : ChangeSpec := { name := "rigKnown", fn := fun _ => fun
  | [] => { results := [.lit (.bool true)], args := [] }
  | _ => none }
def rigKnownRow : OpenClaim := { program := "ytmolckndbmjgfaa", sum := "9cf08a0d1fe03629fced0ce5155df7c14e5d7a09394a5024dbb9801fb79e6d30", func := "moonpool/moonpoollaw08.RigKnown", spec := "rigKnown", unfollowed := true, recurses := true, apart := false }
def RigKnownSaid : Prop := rigKnownRow.holds Try.pinned (OpenSpec.ofChange rigKnownSpec)

/-- ITS FALSE NEIGHBOUR: 'it returns false'. Refute it at one input. -/
def rigKnownWrong : ChangeSpec := { name := "rigKnown", fn := fun _ => fun
  | [] => { results := [.lit (.bool false)], args := [] }
  | _ => none }
def RigKnownWrongFalsely : Prop := rigKnownRow.holds Try.pinned (OpenSpec.ofChange rigKnownWrong)

/- THE SECOND FORM. 'bulk': how many values and letters a reading holds, each counted each time it is reached (what is shared counts as often as it is met; a slice's spare places count too). A statement '..UptoSaid' is the law's where the arguments, and the package variables that the reading takes, are together of bulk at most 1048576: NARROWER than '..Said'. Prove '..Said' where nothing that the law and all that it calls make is longer than what came in: it says more and counts as full. Else prove '..UptoSaid'. A law counts once. -/
mutual
def uptoBulk {H : Type} : DataW H → Nat
  | .lit (.string bytes) => bytes.length + 1
  | .lit _ => 1
  | .nil => 1
  | .ptr d => uptoBulk d + 1
  | .slice elems spare => uptoBulkAll elems + uptoBulkAll spare + 1
  | .agg parts => uptoBulkAll parts + 1
  | .iface _ d => uptoBulk d + 1
  | .map entries => uptoBulkEntries entries + 1
  | .held _ => 1
def uptoBulkAll {H : Type} : List (DataW H) → Nat
  | [] => 0
  | d :: r => uptoBulk d + uptoBulkAll r
def uptoBulkEntries {H : Type} : List (Lit × DataW H) → Nat
  | [] => 0
  | x :: r => uptoBulkEntry x + uptoBulkEntries r
def uptoBulkEntry {H : Type} : Lit × DataW H → Nat
  | (.string bytes, d) => bytes.length + uptoBulk d + 1
  | (_, d) => uptoBulk d + 1
 end
def uptoSmall : (H : Type) → List (DataW H) → Bool := fun _ ds => decide (uptoBulkAll ds ≤ 1048576)
def OpenSpec.upto (s : _root_.Go.ChangeSpec) : _root_.Go.OpenSpec := { _root_.Go.OpenSpec.ofChange s with cond := some uptoSmall }

/-- 'moonpoollaw08.RigOrder', WHERE WHAT IT READS IS OF BULK AT MOST 1048576: true; the input reads as it did. -/
def rigOrderUptoRow : OpenClaim := { program := "ytmolckndbmjgfaa", sum := "9cf08a0d1fe03629fced0ce5155df7c14e5d7a09394a5024dbb9801fb79e6d30", func := "moonpool/moonpoollaw08.RigOrder", spec := "rigOrder", unfollowed := true, recurses := true, apart := false, narrowed := true }
def RigOrderUptoSaid : Prop := rigOrderUptoRow.holds Try.pinned (OpenSpec.upto rigOrderSpec)

/-- 'moonpoollaw08.RigChecks', WHERE WHAT IT READS IS OF BULK AT MOST 1048576: true; the input reads as it did. -/
def rigChecksUptoRow : OpenClaim := { program := "ytmolckndbmjgfaa", sum := "9cf08a0d1fe03629fced0ce5155df7c14e5d7a09394a5024dbb9801fb79e6d30", func := "moonpool/moonpoollaw08.RigChecks", spec := "rigChecks", unfollowed := true, recurses := true, apart := false, narrowed := true }
def RigChecksUptoSaid : Prop := rigChecksUptoRow.holds Try.pinned (OpenSpec.upto rigChecksSpec)

/-- 'moonpoollaw08.RigMoves', WHERE WHAT IT READS IS OF BULK AT MOST 1048576: true; the input reads as it did. -/
def rigMovesUptoRow : OpenClaim := { program := "ytmolckndbmjgfaa", sum := "9cf08a0d1fe03629fced0ce5155df7c14e5d7a09394a5024dbb9801fb79e6d30", func := "moonpool/moonpoollaw08.RigMoves", spec := "rigMoves", unfollowed := true, recurses := true, apart := false, narrowed := true }
def RigMovesUptoSaid : Prop := rigMovesUptoRow.holds Try.pinned (OpenSpec.upto rigMovesSpec)

/-- 'moonpoollaw08.RigTicks', WHERE WHAT IT READS IS OF BULK AT MOST 1048576: true; the input reads as it did. -/
def rigTicksUptoRow : OpenClaim := { program := "ytmolckndbmjgfaa", sum := "9cf08a0d1fe03629fced0ce5155df7c14e5d7a09394a5024dbb9801fb79e6d30", func := "moonpool/moonpoollaw08.RigTicks", spec := "rigTicks", unfollowed := true, recurses := true, apart := false, narrowed := true }
def RigTicksUptoSaid : Prop := rigTicksUptoRow.holds Try.pinned (OpenSpec.upto rigTicksSpec)

/-- 'moonpoollaw08.RigReady', WHERE WHAT IT READS IS OF BULK AT MOST 1048576: true; the input reads as it did. -/
def rigReadyUptoRow : OpenClaim := { program := "ytmolckndbmjgfaa", sum := "9cf08a0d1fe03629fced0ce5155df7c14e5d7a09394a5024dbb9801fb79e6d30", func := "moonpool/moonpoollaw08.RigReady", spec := "rigReady", unfollowed := true, recurses := true, apart := false, narrowed := true }
def RigReadyUptoSaid : Prop := rigReadyUptoRow.holds Try.pinned (OpenSpec.upto rigReadySpec)

/-- 'moonpoollaw08.RigWorst', WHERE WHAT IT READS IS OF BULK AT MOST 1048576: true; the input reads as it did. -/
def rigWorstUptoRow : OpenClaim := { program := "ytmolckndbmjgfaa", sum := "9cf08a0d1fe03629fced0ce5155df7c14e5d7a09394a5024dbb9801fb79e6d30", func := "moonpool/moonpoollaw08.RigWorst", spec := "rigWorst", unfollowed := true, recurses := true, apart := false, narrowed := true }
def RigWorstUptoSaid : Prop := rigWorstUptoRow.holds Try.pinned (OpenSpec.upto rigWorstSpec)

/-- 'moonpoollaw08.RigSafe', WHERE WHAT IT READS IS OF BULK AT MOST 1048576: true; the input reads as it did. -/
def rigSafeUptoRow : OpenClaim := { program := "ytmolckndbmjgfaa", sum := "9cf08a0d1fe03629fced0ce5155df7c14e5d7a09394a5024dbb9801fb79e6d30", func := "moonpool/moonpoollaw08.RigSafe", spec := "rigSafe", unfollowed := true, recurses := true, apart := false, narrowed := true }
def RigSafeUptoSaid : Prop := rigSafeUptoRow.holds Try.pinned (OpenSpec.upto rigSafeSpec)

/-- 'moonpoollaw08.RigFewer', WHERE WHAT IT READS IS OF BULK AT MOST 1048576: true; the input reads as it did. -/
def rigFewerUptoRow : OpenClaim := { program := "ytmolckndbmjgfaa", sum := "9cf08a0d1fe03629fced0ce5155df7c14e5d7a09394a5024dbb9801fb79e6d30", func := "moonpool/moonpoollaw08.RigFewer", spec := "rigFewer", unfollowed := true, recurses := true, apart := false, narrowed := true }
def RigFewerUptoSaid : Prop := rigFewerUptoRow.holds Try.pinned (OpenSpec.upto rigFewerSpec)

/-- 'moonpoollaw08.RigSteps', WHERE WHAT IT READS IS OF BULK AT MOST 1048576: true; the input reads as it did. -/
def rigStepsUptoRow : OpenClaim := { program := "ytmolckndbmjgfaa", sum := "9cf08a0d1fe03629fced0ce5155df7c14e5d7a09394a5024dbb9801fb79e6d30", func := "moonpool/moonpoollaw08.RigSteps", spec := "rigSteps", unfollowed := true, recurses := true, apart := false, narrowed := true }
def RigStepsUptoSaid : Prop := rigStepsUptoRow.holds Try.pinned (OpenSpec.upto rigStepsSpec)

/-- 'moonpoollaw08.RigReached', WHERE WHAT IT READS IS OF BULK AT MOST 1048576: true; the input reads as it did. -/
def rigReachedUptoRow : OpenClaim := { program := "ytmolckndbmjgfaa", sum := "9cf08a0d1fe03629fced0ce5155df7c14e5d7a09394a5024dbb9801fb79e6d30", func := "moonpool/moonpoollaw08.RigReached", spec := "rigReached", unfollowed := true, recurses := true, apart := false, narrowed := true }
def RigReachedUptoSaid : Prop := rigReachedUptoRow.holds Try.pinned (OpenSpec.upto rigReachedSpec)

/-- 'moonpoollaw08.RigShears', WHERE WHAT IT READS IS OF BULK AT MOST 1048576: true; the input reads as it did. -/
def rigShearsUptoRow : OpenClaim := { program := "ytmolckndbmjgfaa", sum := "9cf08a0d1fe03629fced0ce5155df7c14e5d7a09394a5024dbb9801fb79e6d30", func := "moonpool/moonpoollaw08.RigShears", spec := "rigShears", unfollowed := true, recurses := true, apart := false, narrowed := true }
def RigShearsUptoSaid : Prop := rigShearsUptoRow.holds Try.pinned (OpenSpec.upto rigShearsSpec)

/-- 'moonpoollaw08.RigJoints', WHERE WHAT IT READS IS OF BULK AT MOST 1048576: true; the input reads as it did. -/
def rigJointsUptoRow : OpenClaim := { program := "ytmolckndbmjgfaa", sum := "9cf08a0d1fe03629fced0ce5155df7c14e5d7a09394a5024dbb9801fb79e6d30", func := "moonpool/moonpoollaw08.RigJoints", spec := "rigJoints", unfollowed := true, recurses := true, apart := false, narrowed := true }
def RigJointsUptoSaid : Prop := rigJointsUptoRow.holds Try.pinned (OpenSpec.upto rigJointsSpec)

/-- 'moonpoollaw08.RigMerges', WHERE WHAT IT READS IS OF BULK AT MOST 1048576: true; the input reads as it did. -/
def rigMergesUptoRow : OpenClaim := { program := "ytmolckndbmjgfaa", sum := "9cf08a0d1fe03629fced0ce5155df7c14e5d7a09394a5024dbb9801fb79e6d30", func := "moonpool/moonpoollaw08.RigMerges", spec := "rigMerges", unfollowed := true, recurses := true, apart := false, narrowed := true }
def RigMergesUptoSaid : Prop := rigMergesUptoRow.holds Try.pinned (OpenSpec.upto rigMergesSpec)

/-- 'moonpoollaw08.RigFirst', WHERE WHAT IT READS IS OF BULK AT MOST 1048576: true; the input reads as it did. -/
def rigFirstUptoRow : OpenClaim := { program := "ytmolckndbmjgfaa", sum := "9cf08a0d1fe03629fced0ce5155df7c14e5d7a09394a5024dbb9801fb79e6d30", func := "moonpool/moonpoollaw08.RigFirst", spec := "rigFirst", unfollowed := true, recurses := true, apart := false, narrowed := true }
def RigFirstUptoSaid : Prop := rigFirstUptoRow.holds Try.pinned (OpenSpec.upto rigFirstSpec)

/-- 'moonpoollaw08.RigKnown', WHERE WHAT IT READS IS OF BULK AT MOST 1048576: true; the input reads as it did. -/
def rigKnownUptoRow : OpenClaim := { program := "ytmolckndbmjgfaa", sum := "9cf08a0d1fe03629fced0ce5155df7c14e5d7a09394a5024dbb9801fb79e6d30", func := "moonpool/moonpoollaw08.RigKnown", spec := "rigKnown", unfollowed := true, recurses := true, apart := false, narrowed := true }
def RigKnownUptoSaid : Prop := rigKnownUptoRow.holds Try.pinned (OpenSpec.upto rigKnownSpec)

end Rows
end Go.Proofs.Ytmolckndbmjgfaa
