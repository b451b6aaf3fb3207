/-
  No cell of these rows narrows 'for every input' (looked for: loops, veiled, ifaces, maps, wideKeys, modest, calm, conditions, laid).
  DERIVED. THE GIVEN ROWS OF THIS SEAT. 11 by the template 'for every input the law returns true; each argument reads behind the call as it read before'; 0 by the template 'total and deterministic' (their statements: YtoockflaeaknbaaTotals.lean).
  GIVEN WITH THE SEED: the statements are not yours to turn. If you find one false, say at which input.
  Laid BY PROGRAM, IN A SANDBOX (cutbox-rows.mjs): the forced cells as the released guide's own fill.sh prints them over the translation 3ea7f0f04f6db0e3… (all of the seat's roots in one cut). By AI agents, Wed Nov 11 2026. No macro, syntax, notation, axiom, sorry.
-/
import Derived.Test.YtoockflaeaknbaaChecked
import GoSem.Claim
import GoSem.ClaimJoined
import GoSem.ClaimMapViews
import Derived.JoinedTies
import Derived.KernelRfl
namespace Go.Proofs.Ytoockflaeaknbaa
/- THE CELL 'sum', in the pinned program and in every row, IS THE sha256 OF THE DUMP (.gsa) THAT YtoockflaeaknbaaProg.lean LOADS. Nothing in Lean hashes anything: it is a label: what it is worth is what the hold of that sum in a sandbox is worth. -/
noncomputable def Try.pinned : Pinned := { name := "ytoockflaeaknbaa", sum := "3ea7f0f04f6db0e35b6aeacc948d7f965412be3cc6af5ac5b4ccb5fa2755082f", checked := Try.checked }
namespace Rows
def none {H : Type} : Left H := { results := [], args := [] }

/-- 'moonpoollaw04.PipeBends': WHATEVER THE INPUT: true; the input reads as it did. -/
def pipeBendsSpec : ChangeSpec := { name := "pipeBends", fn := fun _ => fun
  | [d1, d2] => { results := [.lit (.bool true)], args := [d1, d2] }
  | _ => none }
def pipeBendsRow : OpenClaim := { program := "ytoockflaeaknbaa", sum := "3ea7f0f04f6db0e35b6aeacc948d7f965412be3cc6af5ac5b4ccb5fa2755082f", func := "moonpool/moonpoollaw04.PipeBends", spec := "pipeBends", unfollowed := true, recurses := true, named := ["math/bits.divideError", "math/bits.overflowError"], apart := false }
def PipeBendsSaid : Prop := pipeBendsRow.holds Try.pinned (OpenSpec.ofChange pipeBendsSpec)

/-- ITS FALSE NEIGHBOUR: 'it returns false'. Refute it at one input. -/
def pipeBendsWrong : ChangeSpec := { name := "pipeBends", fn := fun _ => fun
  | [d1, d2] => { results := [.lit (.bool false)], args := [d1, d2] }
  | _ => none }
def PipeBendsWrongFalsely : Prop := pipeBendsRow.holds Try.pinned (OpenSpec.ofChange pipeBendsWrong)

/-- 'moonpoollaw04.PipeModes': WHATEVER THE INPUT: true; the input reads as it did. -/
def pipeModesSpec : ChangeSpec := { name := "pipeModes", fn := fun _ => fun
  | [d] => { results := [.lit (.bool true)], args := [d] }
  | _ => none }
def pipeModesRow : OpenClaim := { program := "ytoockflaeaknbaa", sum := "3ea7f0f04f6db0e35b6aeacc948d7f965412be3cc6af5ac5b4ccb5fa2755082f", func := "moonpool/moonpoollaw04.PipeModes", spec := "pipeModes", unfollowed := true, recurses := true, named := ["math/bits.divideError", "math/bits.overflowError"], apart := false }
def PipeModesSaid : Prop := pipeModesRow.holds Try.pinned (OpenSpec.ofChange pipeModesSpec)

/-- ITS FALSE NEIGHBOUR: 'it returns false'. Refute it at one input. -/
def pipeModesWrong : ChangeSpec := { name := "pipeModes", fn := fun _ => fun
  | [d] => { results := [.lit (.bool false)], args := [d] }
  | _ => none }
def PipeModesWrongFalsely : Prop := pipeModesRow.holds Try.pinned (OpenSpec.ofChange pipeModesWrong)

/-- 'moonpoollaw04.PipeMore': WHATEVER THE INPUT: true; the input reads as it did. -/
def pipeMoreSpec : ChangeSpec := { name := "pipeMore", fn := fun _ => fun
  | [d1, d2, d3] => { results := [.lit (.bool true)], args := [d1, d2, d3] }
  | _ => none }
def pipeMoreRow : OpenClaim := { program := "ytoockflaeaknbaa", sum := "3ea7f0f04f6db0e35b6aeacc948d7f965412be3cc6af5ac5b4ccb5fa2755082f", func := "moonpool/moonpoollaw04.PipeMore", spec := "pipeMore", unfollowed := true, recurses := true, named := ["math/bits.divideError", "math/bits.overflowError"], apart := false }
def PipeMoreSaid : Prop := pipeMoreRow.holds Try.pinned (OpenSpec.ofChange pipeMoreSpec)

/-- ITS FALSE NEIGHBOUR: 'it returns false'. Refute it at one input. -/
def pipeMoreWrong : ChangeSpec := { name := "pipeMore", fn := fun _ => fun
  | [d1, d2, d3] => { results := [.lit (.bool false)], args := [d1, d2, d3] }
  | _ => none }
def PipeMoreWrongFalsely : Prop := pipeMoreRow.holds Try.pinned (OpenSpec.ofChange pipeMoreWrong)

/-- 'moonpoollaw04.PipeWeighs': WHATEVER THE INPUT: true; the input reads as it did. -/
def pipeWeighsSpec : ChangeSpec := { name := "pipeWeighs", fn := fun _ => fun
  | [d1, d2, d3] => { results := [.lit (.bool true)], args := [d1, d2, d3] }
  | _ => none }
def pipeWeighsRow : OpenClaim := { program := "ytoockflaeaknbaa", sum := "3ea7f0f04f6db0e35b6aeacc948d7f965412be3cc6af5ac5b4ccb5fa2755082f", func := "moonpool/moonpoollaw04.PipeWeighs", spec := "pipeWeighs", unfollowed := true, recurses := true, named := ["math/bits.divideError", "math/bits.overflowError"], apart := false }
def PipeWeighsSaid : Prop := pipeWeighsRow.holds Try.pinned (OpenSpec.ofChange pipeWeighsSpec)

/-- ITS FALSE NEIGHBOUR: 'it returns false'. Refute it at one input. -/
def pipeWeighsWrong : ChangeSpec := { name := "pipeWeighs", fn := fun _ => fun
  | [d1, d2, d3] => { results := [.lit (.bool false)], args := [d1, d2, d3] }
  | _ => none }
def PipeWeighsWrongFalsely : Prop := pipeWeighsRow.holds Try.pinned (OpenSpec.ofChange pipeWeighsWrong)

/-- 'moonpoollaw04.PipePieces': WHATEVER THE INPUT: true; the input reads as it did. -/
def pipePiecesSpec : ChangeSpec := { name := "pipePieces", fn := fun _ => fun
  | [d1, d2, d3] => { results := [.lit (.bool true)], args := [d1, d2, d3] }
  | _ => none }
def pipePiecesRow : OpenClaim := { program := "ytoockflaeaknbaa", sum := "3ea7f0f04f6db0e35b6aeacc948d7f965412be3cc6af5ac5b4ccb5fa2755082f", func := "moonpool/moonpoollaw04.PipePieces", spec := "pipePieces", unfollowed := true, recurses := true, named := ["math/bits.divideError", "math/bits.overflowError"], apart := false }
def PipePiecesSaid : Prop := pipePiecesRow.holds Try.pinned (OpenSpec.ofChange pipePiecesSpec)

/-- ITS FALSE NEIGHBOUR: 'it returns false'. Refute it at one input. -/
def pipePiecesWrong : ChangeSpec := { name := "pipePieces", fn := fun _ => fun
  | [d1, d2, d3] => { results := [.lit (.bool false)], args := [d1, d2, d3] }
  | _ => none }
def PipePiecesWrongFalsely : Prop := pipePiecesRow.holds Try.pinned (OpenSpec.ofChange pipePiecesWrong)

/-- 'moonpoollaw04.PipeWhole': WHATEVER THE INPUT: true; the input reads as it did. -/
def pipeWholeSpec : ChangeSpec := { name := "pipeWhole", fn := fun _ => fun
  | [d] => { results := [.lit (.bool true)], args := [d] }
  | _ => none }
def pipeWholeRow : OpenClaim := { program := "ytoockflaeaknbaa", sum := "3ea7f0f04f6db0e35b6aeacc948d7f965412be3cc6af5ac5b4ccb5fa2755082f", func := "moonpool/moonpoollaw04.PipeWhole", spec := "pipeWhole", unfollowed := true, recurses := true, named := ["math/bits.divideError", "math/bits.overflowError"], apart := false }
def PipeWholeSaid : Prop := pipeWholeRow.holds Try.pinned (OpenSpec.ofChange pipeWholeSpec)

/-- ITS FALSE NEIGHBOUR: 'it returns false'. Refute it at one input. -/
def pipeWholeWrong : ChangeSpec := { name := "pipeWhole", fn := fun _ => fun
  | [d] => { results := [.lit (.bool false)], args := [d] }
  | _ => none }
def PipeWholeWrongFalsely : Prop := pipeWholeRow.holds Try.pinned (OpenSpec.ofChange pipeWholeWrong)

/-- 'moonpoollaw04.PipeChecks': WHATEVER THE INPUT: true; the input reads as it did. -/
def pipeChecksSpec : ChangeSpec := { name := "pipeChecks", fn := fun _ => fun
  | [d1, d2, d3, d4, d5] => { results := [.lit (.bool true)], args := [d1, d2, d3, d4, d5] }
  | _ => none }
def pipeChecksRow : OpenClaim := { program := "ytoockflaeaknbaa", sum := "3ea7f0f04f6db0e35b6aeacc948d7f965412be3cc6af5ac5b4ccb5fa2755082f", func := "moonpool/moonpoollaw04.PipeChecks", spec := "pipeChecks", unfollowed := true, recurses := true, named := ["math/bits.divideError", "math/bits.overflowError"], apart := false }
def PipeChecksSaid : Prop := pipeChecksRow.holds Try.pinned (OpenSpec.ofChange pipeChecksSpec)

/-- ITS FALSE NEIGHBOUR: 'it returns false'. Refute it at one input. -/
def pipeChecksWrong : ChangeSpec := { name := "pipeChecks", fn := fun _ => fun
  | [d1, d2, d3, d4, d5] => { results := [.lit (.bool false)], args := [d1, d2, d3, d4, d5] }
  | _ => none }
def PipeChecksWrongFalsely : Prop := pipeChecksRow.holds Try.pinned (OpenSpec.ofChange pipeChecksWrong)

/-- 'moonpoollaw04.PipeBounds': WHATEVER THE INPUT: true; the input reads as it did. -/
def pipeBoundsSpec : ChangeSpec := { name := "pipeBounds", fn := fun _ => fun
  | [d1, d2, d3] => { results := [.lit (.bool true)], args := [d1, d2, d3] }
  | _ => none }
def pipeBoundsRow : OpenClaim := { program := "ytoockflaeaknbaa", sum := "3ea7f0f04f6db0e35b6aeacc948d7f965412be3cc6af5ac5b4ccb5fa2755082f", func := "moonpool/moonpoollaw04.PipeBounds", spec := "pipeBounds", unfollowed := true, recurses := true, named := ["math/bits.divideError", "math/bits.overflowError"], apart := false }
def PipeBoundsSaid : Prop := pipeBoundsRow.holds Try.pinned (OpenSpec.ofChange pipeBoundsSpec)

/-- ITS FALSE NEIGHBOUR: 'it returns false'. Refute it at one input. -/
def pipeBoundsWrong : ChangeSpec := { name := "pipeBounds", fn := fun _ => fun
  | [d1, d2, d3] => { results := [.lit (.bool false)], args := [d1, d2, d3] }
  | _ => none }
def PipeBoundsWrongFalsely : Prop := pipeBoundsRow.holds Try.pinned (OpenSpec.ofChange pipeBoundsWrong)

/-- 'moonpoollaw04.PipeTallies': WHATEVER THE INPUT: true; the input reads as it did. -/
def pipeTalliesSpec : ChangeSpec := { name := "pipeTallies", fn := fun _ => fun
  | [d1, d2, d3, d4] => { results := [.lit (.bool true)], args := [d1, d2, d3, d4] }
  | _ => none }
def pipeTalliesRow : OpenClaim := { program := "ytoockflaeaknbaa", sum := "3ea7f0f04f6db0e35b6aeacc948d7f965412be3cc6af5ac5b4ccb5fa2755082f", func := "moonpool/moonpoollaw04.PipeTallies", spec := "pipeTallies", unfollowed := true, recurses := true, named := ["math/bits.divideError", "math/bits.overflowError"], apart := false }
def PipeTalliesSaid : Prop := pipeTalliesRow.holds Try.pinned (OpenSpec.ofChange pipeTalliesSpec)

/-- ITS FALSE NEIGHBOUR: 'it returns false'. Refute it at one input. -/
def pipeTalliesWrong : ChangeSpec := { name := "pipeTallies", fn := fun _ => fun
  | [d1, d2, d3, d4] => { results := [.lit (.bool false)], args := [d1, d2, d3, d4] }
  | _ => none }
def PipeTalliesWrongFalsely : Prop := pipeTalliesRow.holds Try.pinned (OpenSpec.ofChange pipeTalliesWrong)

/-- 'moonpoollaw04.PipeBack': WHATEVER THE INPUT: true; the input reads as it did. -/
def pipeBackSpec : ChangeSpec := { name := "pipeBack", fn := fun _ => fun
  | [d] => { results := [.lit (.bool true)], args := [d] }
  | _ => none }
def pipeBackRow : OpenClaim := { program := "ytoockflaeaknbaa", sum := "3ea7f0f04f6db0e35b6aeacc948d7f965412be3cc6af5ac5b4ccb5fa2755082f", func := "moonpool/moonpoollaw04.PipeBack", spec := "pipeBack", unfollowed := true, recurses := true, named := ["math/bits.divideError", "math/bits.overflowError"], apart := false }
def PipeBackSaid : Prop := pipeBackRow.holds Try.pinned (OpenSpec.ofChange pipeBackSpec)

/-- ITS FALSE NEIGHBOUR: 'it returns false'. Refute it at one input. -/
def pipeBackWrong : ChangeSpec := { name := "pipeBack", fn := fun _ => fun
  | [d] => { results := [.lit (.bool false)], args := [d] }
  | _ => none }
def PipeBackWrongFalsely : Prop := pipeBackRow.holds Try.pinned (OpenSpec.ofChange pipeBackWrong)

/-- 'moonpoollaw04.PipeKnown': WHATEVER THE INPUT: true; the input reads as it did. -/
def pipeKnownSpec : ChangeSpec := { name := "pipeKnown", fn := fun _ => fun
  | [] => { results := [.lit (.bool true)], args := [] }
  | _ => none }
def pipeKnownRow : OpenClaim := { program := "ytoockflaeaknbaa", sum := "3ea7f0f04f6db0e35b6aeacc948d7f965412be3cc6af5ac5b4ccb5fa2755082f", func := "moonpool/moonpoollaw04.PipeKnown", spec := "pipeKnown", unfollowed := true, recurses := true, named := ["math/bits.divideError", "math/bits.overflowError"], apart := false }
def PipeKnownSaid : Prop := pipeKnownRow.holds Try.pinned (OpenSpec.ofChange pipeKnownSpec)

/-- ITS FALSE NEIGHBOUR: 'it returns false'. Refute it at one input. -/
def pipeKnownWrong : ChangeSpec := { name := "pipeKnown", fn := fun _ => fun
  | [] => { results := [.lit (.bool false)], args := [] }
  | _ => none }
def PipeKnownWrongFalsely : Prop := pipeKnownRow.holds Try.pinned (OpenSpec.ofChange pipeKnownWrong)

/- THE SECOND FORM. 'bulk': how many values and letters a reading holds, each counted each time it is reached (what is shared counts as often as it is met; a slice's spare places count too). A statement '..UptoSaid' is the law's where the arguments, and the package variables that the reading takes, are together of bulk at most 1048576: NARROWER than '..Said'. Prove '..Said' where nothing that the law and all that it calls make is longer than what came in: it says more and counts as full. Else prove '..UptoSaid'. A law counts once. -/
mutual
def uptoBulk {H : Type} : DataW H → Nat
  | .lit (.string bytes) => bytes.length + 1
  | .lit _ => 1
  | .nil => 1
  | .ptr d => uptoBulk d + 1
  | .slice elems spare => uptoBulkAll elems + uptoBulkAll spare + 1
  | .agg parts => uptoBulkAll parts + 1
  | .iface _ d => uptoBulk d + 1
  | .map entries => uptoBulkEntries entries + 1
  | .held _ => 1
def uptoBulkAll {H : Type} : List (DataW H) → Nat
  | [] => 0
  | d :: r => uptoBulk d + uptoBulkAll r
def uptoBulkEntries {H : Type} : List (Lit × DataW H) → Nat
  | [] => 0
  | x :: r => uptoBulkEntry x + uptoBulkEntries r
def uptoBulkEntry {H : Type} : Lit × DataW H → Nat
  | (.string bytes, d) => bytes.length + uptoBulk d + 1
  | (_, d) => uptoBulk d + 1
 end
def uptoSmall : (H : Type) → List (DataW H) → Bool := fun _ ds => decide (uptoBulkAll ds ≤ 1048576)
def OpenSpec.upto (s : _root_.Go.ChangeSpec) : _root_.Go.OpenSpec := { _root_.Go.OpenSpec.ofChange s with cond := some uptoSmall }

/-- 'moonpoollaw04.PipeBends', WHERE WHAT IT READS IS OF BULK AT MOST 1048576: true; the input reads as it did. -/
def pipeBendsUptoRow : OpenClaim := { program := "ytoockflaeaknbaa", sum := "3ea7f0f04f6db0e35b6aeacc948d7f965412be3cc6af5ac5b4ccb5fa2755082f", func := "moonpool/moonpoollaw04.PipeBends", spec := "pipeBends", unfollowed := true, recurses := true, named := ["math/bits.divideError", "math/bits.overflowError"], apart := false, narrowed := true }
def PipeBendsUptoSaid : Prop := pipeBendsUptoRow.holds Try.pinned (OpenSpec.upto pipeBendsSpec)

/-- 'moonpoollaw04.PipeModes', WHERE WHAT IT READS IS OF BULK AT MOST 1048576: true; the input reads as it did. -/
def pipeModesUptoRow : OpenClaim := { program := "ytoockflaeaknbaa", sum := "3ea7f0f04f6db0e35b6aeacc948d7f965412be3cc6af5ac5b4ccb5fa2755082f", func := "moonpool/moonpoollaw04.PipeModes", spec := "pipeModes", unfollowed := true, recurses := true, named := ["math/bits.divideError", "math/bits.overflowError"], apart := false, narrowed := true }
def PipeModesUptoSaid : Prop := pipeModesUptoRow.holds Try.pinned (OpenSpec.upto pipeModesSpec)

/-- 'moonpoollaw04.PipeMore', WHERE WHAT IT READS IS OF BULK AT MOST 1048576: true; the input reads as it did. -/
def pipeMoreUptoRow : OpenClaim := { program := "ytoockflaeaknbaa", sum := "3ea7f0f04f6db0e35b6aeacc948d7f965412be3cc6af5ac5b4ccb5fa2755082f", func := "moonpool/moonpoollaw04.PipeMore", spec := "pipeMore", unfollowed := true, recurses := true, named := ["math/bits.divideError", "math/bits.overflowError"], apart := false, narrowed := true }
def PipeMoreUptoSaid : Prop := pipeMoreUptoRow.holds Try.pinned (OpenSpec.upto pipeMoreSpec)

/-- 'moonpoollaw04.PipeWeighs', WHERE WHAT IT READS IS OF BULK AT MOST 1048576: true; the input reads as it did. -/
def pipeWeighsUptoRow : OpenClaim := { program := "ytoockflaeaknbaa", sum := "3ea7f0f04f6db0e35b6aeacc948d7f965412be3cc6af5ac5b4ccb5fa2755082f", func := "moonpool/moonpoollaw04.PipeWeighs", spec := "pipeWeighs", unfollowed := true, recurses := true, named := ["math/bits.divideError", "math/bits.overflowError"], apart := false, narrowed := true }
def PipeWeighsUptoSaid : Prop := pipeWeighsUptoRow.holds Try.pinned (OpenSpec.upto pipeWeighsSpec)

/-- 'moonpoollaw04.PipePieces', WHERE WHAT IT READS IS OF BULK AT MOST 1048576: true; the input reads as it did. -/
def pipePiecesUptoRow : OpenClaim := { program := "ytoockflaeaknbaa", sum := "3ea7f0f04f6db0e35b6aeacc948d7f965412be3cc6af5ac5b4ccb5fa2755082f", func := "moonpool/moonpoollaw04.PipePieces", spec := "pipePieces", unfollowed := true, recurses := true, named := ["math/bits.divideError", "math/bits.overflowError"], apart := false, narrowed := true }
def PipePiecesUptoSaid : Prop := pipePiecesUptoRow.holds Try.pinned (OpenSpec.upto pipePiecesSpec)

/-- 'moonpoollaw04.PipeWhole', WHERE WHAT IT READS IS OF BULK AT MOST 1048576: true; the input reads as it did. -/
def pipeWholeUptoRow : OpenClaim := { program := "ytoockflaeaknbaa", sum := "3ea7f0f04f6db0e35b6aeacc948d7f965412be3cc6af5ac5b4ccb5fa2755082f", func := "moonpool/moonpoollaw04.PipeWhole", spec := "pipeWhole", unfollowed := true, recurses := true, named := ["math/bits.divideError", "math/bits.overflowError"], apart := false, narrowed := true }
def PipeWholeUptoSaid : Prop := pipeWholeUptoRow.holds Try.pinned (OpenSpec.upto pipeWholeSpec)

/-- 'moonpoollaw04.PipeChecks', WHERE WHAT IT READS IS OF BULK AT MOST 1048576: true; the input reads as it did. -/
def pipeChecksUptoRow : OpenClaim := { program := "ytoockflaeaknbaa", sum := "3ea7f0f04f6db0e35b6aeacc948d7f965412be3cc6af5ac5b4ccb5fa2755082f", func := "moonpool/moonpoollaw04.PipeChecks", spec := "pipeChecks", unfollowed := true, recurses := true, named := ["math/bits.divideError", "math/bits.overflowError"], apart := false, narrowed := true }
def PipeChecksUptoSaid : Prop := pipeChecksUptoRow.holds Try.pinned (OpenSpec.upto pipeChecksSpec)

/-- 'moonpoollaw04.PipeBounds', WHERE WHAT IT READS IS OF BULK AT MOST 1048576: true; the input reads as it did. -/
def pipeBoundsUptoRow : OpenClaim := { program := "ytoockflaeaknbaa", sum := "3ea7f0f04f6db0e35b6aeacc948d7f965412be3cc6af5ac5b4ccb5fa2755082f", func := "moonpool/moonpoollaw04.PipeBounds", spec := "pipeBounds", unfollowed := true, recurses := true, named := ["math/bits.divideError", "math/bits.overflowError"], apart := false, narrowed := true }
def PipeBoundsUptoSaid : Prop := pipeBoundsUptoRow.holds Try.pinned (OpenSpec.upto pipeBoundsSpec)

/-- 'moonpoollaw04.PipeTallies', WHERE WHAT IT READS IS OF BULK AT MOST 1048576: true; the input reads as it did. -/
def pipeTalliesUptoRow : OpenClaim := { program := "ytoockflaeaknbaa", sum := "3ea7f0f04f6db0e35b6aeacc948d7f965412be3cc6af5ac5b4ccb5fa2755082f", func := "moonpool/moonpoollaw04.PipeTallies", spec := "pipeTallies", unfollowed := true, recurses := true, named := ["math/bits.divideError", "math/bits.overflowError"], apart := false, narrowed := true }
def PipeTalliesUptoSaid : Prop := pipeTalliesUptoRow.holds Try.pinned (OpenSpec.upto pipeTalliesSpec)

/-- 'moonpoollaw04.PipeBack', WHERE WHAT IT READS IS OF BULK AT MOST 1048576: true; the input reads as it did. -/
def pipeBackUptoRow : OpenClaim := { program := "ytoockflaeaknbaa", sum := "3ea7f0f04f6db0e35b6aeacc948d7f965412be3cc6af5ac5b4ccb5fa2755082f", func := "moonpool/moonpoollaw04.PipeBack", spec := "pipeBack", unfollowed := true, recurses := true, named := ["math/bits.divideError", "math/bits.overflowError"], apart := false, narrowed := true }
def PipeBackUptoSaid : Prop := pipeBackUptoRow.holds Try.pinned (OpenSpec.upto pipeBackSpec)

/-- 'moonpoollaw04.PipeKnown', WHERE WHAT IT READS IS OF BULK AT MOST 1048576: true; the input reads as it did. -/
def pipeKnownUptoRow : OpenClaim := { program := "ytoockflaeaknbaa", sum := "3ea7f0f04f6db0e35b6aeacc948d7f965412be3cc6af5ac5b4ccb5fa2755082f", func := "moonpool/moonpoollaw04.PipeKnown", spec := "pipeKnown", unfollowed := true, recurses := true, named := ["math/bits.divideError", "math/bits.overflowError"], apart := false, narrowed := true }
def PipeKnownUptoSaid : Prop := pipeKnownUptoRow.holds Try.pinned (OpenSpec.upto pipeKnownSpec)

end Rows
end Go.Proofs.Ytoockflaeaknbaa
