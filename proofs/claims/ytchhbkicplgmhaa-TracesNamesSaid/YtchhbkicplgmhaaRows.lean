/-
  No cell of these rows narrows 'for every input' (looked for: loops, veiled, ifaces, maps, wideKeys, modest, calm, conditions, laid).
  DERIVED. THE GIVEN ROWS OF THIS SEAT. 7 by the template 'for every input the law returns true; each argument reads behind the call as it read before'; 0 by the template 'total and deterministic' (their statements: YtchhbkicplgmhaaTotals.lean).
  GIVEN WITH THE SEED: the statements are not yours to turn. If you find one false, say at which input.
  Laid BY PROGRAM, IN A SANDBOX (cutbox-rows.mjs): the forced cells as the released guide's own fill.sh prints them over the translation d1c9a3d847111c68… (all of the seat's roots in one cut). By AI agents, Wed Nov 11 2026. No macro, syntax, notation, axiom, sorry.
-/
import Derived.Test.YtchhbkicplgmhaaChecked
import GoSem.Claim
import GoSem.ClaimJoined
import GoSem.ClaimMapViews
import Derived.JoinedTies
import Derived.KernelRfl
namespace Go.Proofs.Ytchhbkicplgmhaa
/- THE CELL 'sum', in the pinned program and in every row, IS THE sha256 OF THE DUMP (.gsa) THAT YtchhbkicplgmhaaProg.lean LOADS. Nothing in Lean hashes anything: it is a label: what it is worth is what the hold of that sum in a sandbox is worth. -/
noncomputable def Try.pinned : Pinned := { name := "ytchhbkicplgmhaa", sum := "d1c9a3d847111c681c9fc582ef7dc3856e8c42711379d07a86a632e561747a32", checked := Try.checked }
namespace Rows
def none {H : Type} : Left H := { results := [], args := [] }

/-- 'spiritlevellaw06.TracesStates': WHATEVER THE INPUT: true; the input reads as it did. -/
def tracesStatesSpec : ChangeSpec := { name := "tracesStates", fn := fun _ => fun
  | [d1, d2, d3] => { results := [.lit (.bool true)], args := [d1, d2, d3] }
  | _ => none }
def tracesStatesRow : OpenClaim := { program := "ytchhbkicplgmhaa", sum := "d1c9a3d847111c681c9fc582ef7dc3856e8c42711379d07a86a632e561747a32", func := "spiritlevel/spiritlevellaw06.TracesStates", spec := "tracesStates", unfollowed := true, recurses := true, apart := false }
def TracesStatesSaid : Prop := tracesStatesRow.holds Try.pinned (OpenSpec.ofChange tracesStatesSpec)

/-- ITS FALSE NEIGHBOUR: 'it returns false'. Refute it at one input. -/
def tracesStatesWrong : ChangeSpec := { name := "tracesStates", fn := fun _ => fun
  | [d1, d2, d3] => { results := [.lit (.bool false)], args := [d1, d2, d3] }
  | _ => none }
def TracesStatesWrongFalsely : Prop := tracesStatesRow.holds Try.pinned (OpenSpec.ofChange tracesStatesWrong)

/-- 'spiritlevellaw06.TracesWitnesses': WHATEVER THE INPUT: true; the input reads as it did. -/
def tracesWitnessesSpec : ChangeSpec := { name := "tracesWitnesses", fn := fun _ => fun
  | [d1, d2] => { results := [.lit (.bool true)], args := [d1, d2] }
  | _ => none }
def tracesWitnessesRow : OpenClaim := { program := "ytchhbkicplgmhaa", sum := "d1c9a3d847111c681c9fc582ef7dc3856e8c42711379d07a86a632e561747a32", func := "spiritlevel/spiritlevellaw06.TracesWitnesses", spec := "tracesWitnesses", unfollowed := true, recurses := true, apart := false }
def TracesWitnessesSaid : Prop := tracesWitnessesRow.holds Try.pinned (OpenSpec.ofChange tracesWitnessesSpec)

/-- ITS FALSE NEIGHBOUR: 'it returns false'. Refute it at one input. -/
def tracesWitnessesWrong : ChangeSpec := { name := "tracesWitnesses", fn := fun _ => fun
  | [d1, d2] => { results := [.lit (.bool false)], args := [d1, d2] }
  | _ => none }
def TracesWitnessesWrongFalsely : Prop := tracesWitnessesRow.holds Try.pinned (OpenSpec.ofChange tracesWitnessesWrong)

/-- 'spiritlevellaw06.TracesCut': WHATEVER THE INPUT: true; the input reads as it did. -/
def tracesCutSpec : ChangeSpec := { name := "tracesCut", fn := fun _ => fun
  | [d1, d2] => { results := [.lit (.bool true)], args := [d1, d2] }
  | _ => none }
def tracesCutRow : OpenClaim := { program := "ytchhbkicplgmhaa", sum := "d1c9a3d847111c681c9fc582ef7dc3856e8c42711379d07a86a632e561747a32", func := "spiritlevel/spiritlevellaw06.TracesCut", spec := "tracesCut", unfollowed := true, recurses := true, apart := false }
def TracesCutSaid : Prop := tracesCutRow.holds Try.pinned (OpenSpec.ofChange tracesCutSpec)

/-- ITS FALSE NEIGHBOUR: 'it returns false'. Refute it at one input. -/
def tracesCutWrong : ChangeSpec := { name := "tracesCut", fn := fun _ => fun
  | [d1, d2] => { results := [.lit (.bool false)], args := [d1, d2] }
  | _ => none }
def TracesCutWrongFalsely : Prop := tracesCutRow.holds Try.pinned (OpenSpec.ofChange tracesCutWrong)

/-- 'spiritlevellaw06.TracesFrames': WHATEVER THE INPUT: true; the input reads as it did. -/
def tracesFramesSpec : ChangeSpec := { name := "tracesFrames", fn := fun _ => fun
  | [d1, d2] => { results := [.lit (.bool true)], args := [d1, d2] }
  | _ => none }
def tracesFramesRow : OpenClaim := { program := "ytchhbkicplgmhaa", sum := "d1c9a3d847111c681c9fc582ef7dc3856e8c42711379d07a86a632e561747a32", func := "spiritlevel/spiritlevellaw06.TracesFrames", spec := "tracesFrames", unfollowed := true, recurses := true, apart := false }
def TracesFramesSaid : Prop := tracesFramesRow.holds Try.pinned (OpenSpec.ofChange tracesFramesSpec)

/-- ITS FALSE NEIGHBOUR: 'it returns false'. Refute it at one input. -/
def tracesFramesWrong : ChangeSpec := { name := "tracesFrames", fn := fun _ => fun
  | [d1, d2] => { results := [.lit (.bool false)], args := [d1, d2] }
  | _ => none }
def TracesFramesWrongFalsely : Prop := tracesFramesRow.holds Try.pinned (OpenSpec.ofChange tracesFramesWrong)

/-- 'spiritlevellaw06.TracesMore': WHATEVER THE INPUT: true; the input reads as it did. -/
def tracesMoreSpec : ChangeSpec := { name := "tracesMore", fn := fun _ => fun
  | [d1, d2, d3] => { results := [.lit (.bool true)], args := [d1, d2, d3] }
  | _ => none }
def tracesMoreRow : OpenClaim := { program := "ytchhbkicplgmhaa", sum := "d1c9a3d847111c681c9fc582ef7dc3856e8c42711379d07a86a632e561747a32", func := "spiritlevel/spiritlevellaw06.TracesMore", spec := "tracesMore", unfollowed := true, recurses := true, apart := false }
def TracesMoreSaid : Prop := tracesMoreRow.holds Try.pinned (OpenSpec.ofChange tracesMoreSpec)

/-- ITS FALSE NEIGHBOUR: 'it returns false'. Refute it at one input. -/
def tracesMoreWrong : ChangeSpec := { name := "tracesMore", fn := fun _ => fun
  | [d1, d2, d3] => { results := [.lit (.bool false)], args := [d1, d2, d3] }
  | _ => none }
def TracesMoreWrongFalsely : Prop := tracesMoreRow.holds Try.pinned (OpenSpec.ofChange tracesMoreWrong)

/-- 'spiritlevellaw06.TracesBad': WHATEVER THE INPUT: true; the input reads as it did. -/
def tracesBadSpec : ChangeSpec := { name := "tracesBad", fn := fun _ => fun
  | [d1, d2] => { results := [.lit (.bool true)], args := [d1, d2] }
  | _ => none }
def tracesBadRow : OpenClaim := { program := "ytchhbkicplgmhaa", sum := "d1c9a3d847111c681c9fc582ef7dc3856e8c42711379d07a86a632e561747a32", func := "spiritlevel/spiritlevellaw06.TracesBad", spec := "tracesBad", unfollowed := true, recurses := true, apart := false }
def TracesBadSaid : Prop := tracesBadRow.holds Try.pinned (OpenSpec.ofChange tracesBadSpec)

/-- ITS FALSE NEIGHBOUR: 'it returns false'. Refute it at one input. -/
def tracesBadWrong : ChangeSpec := { name := "tracesBad", fn := fun _ => fun
  | [d1, d2] => { results := [.lit (.bool false)], args := [d1, d2] }
  | _ => none }
def TracesBadWrongFalsely : Prop := tracesBadRow.holds Try.pinned (OpenSpec.ofChange tracesBadWrong)

/-- 'spiritlevellaw06.TracesNames': WHATEVER THE INPUT: true; the input reads as it did. -/
def tracesNamesSpec : ChangeSpec := { name := "tracesNames", fn := fun _ => fun
  | [] => { results := [.lit (.bool true)], args := [] }
  | _ => none }
def tracesNamesRow : OpenClaim := { program := "ytchhbkicplgmhaa", sum := "d1c9a3d847111c681c9fc582ef7dc3856e8c42711379d07a86a632e561747a32", func := "spiritlevel/spiritlevellaw06.TracesNames", spec := "tracesNames", unfollowed := true, recurses := true, apart := false }
def TracesNamesSaid : Prop := tracesNamesRow.holds Try.pinned (OpenSpec.ofChange tracesNamesSpec)

/-- ITS FALSE NEIGHBOUR: 'it returns false'. Refute it at one input. -/
def tracesNamesWrong : ChangeSpec := { name := "tracesNames", fn := fun _ => fun
  | [] => { results := [.lit (.bool false)], args := [] }
  | _ => none }
def TracesNamesWrongFalsely : Prop := tracesNamesRow.holds Try.pinned (OpenSpec.ofChange tracesNamesWrong)

/- THE SECOND FORM. 'bulk': how many values and letters a reading holds, each counted each time it is reached (what is shared counts as often as it is met; a slice's spare places count too). A statement '..UptoSaid' is the law's where the arguments, and the package variables that the reading takes, are together of bulk at most 1048576: NARROWER than '..Said'. Prove '..Said' where nothing that the law and all that it calls make is longer than what came in: it says more and counts as full. Else prove '..UptoSaid'. A law counts once. -/
mutual
def uptoBulk {H : Type} : DataW H → Nat
  | .lit (.string bytes) => bytes.length + 1
  | .lit _ => 1
  | .nil => 1
  | .ptr d => uptoBulk d + 1
  | .slice elems spare => uptoBulkAll elems + uptoBulkAll spare + 1
  | .agg parts => uptoBulkAll parts + 1
  | .iface _ d => uptoBulk d + 1
  | .map entries => uptoBulkEntries entries + 1
  | .held _ => 1
def uptoBulkAll {H : Type} : List (DataW H) → Nat
  | [] => 0
  | d :: r => uptoBulk d + uptoBulkAll r
def uptoBulkEntries {H : Type} : List (Lit × DataW H) → Nat
  | [] => 0
  | x :: r => uptoBulkEntry x + uptoBulkEntries r
def uptoBulkEntry {H : Type} : Lit × DataW H → Nat
  | (.string bytes, d) => bytes.length + uptoBulk d + 1
  | (_, d) => uptoBulk d + 1
 end
def uptoSmall : (H : Type) → List (DataW H) → Bool := fun _ ds => decide (uptoBulkAll ds ≤ 1048576)
def OpenSpec.upto (s : _root_.Go.ChangeSpec) : _root_.Go.OpenSpec := { _root_.Go.OpenSpec.ofChange s with cond := some uptoSmall }

/-- 'spiritlevellaw06.TracesStates', WHERE WHAT IT READS IS OF BULK AT MOST 1048576: true; the input reads as it did. -/
def tracesStatesUptoRow : OpenClaim := { program := "ytchhbkicplgmhaa", sum := "d1c9a3d847111c681c9fc582ef7dc3856e8c42711379d07a86a632e561747a32", func := "spiritlevel/spiritlevellaw06.TracesStates", spec := "tracesStates", unfollowed := true, recurses := true, apart := false, narrowed := true }
def TracesStatesUptoSaid : Prop := tracesStatesUptoRow.holds Try.pinned (OpenSpec.upto tracesStatesSpec)

/-- 'spiritlevellaw06.TracesWitnesses', WHERE WHAT IT READS IS OF BULK AT MOST 1048576: true; the input reads as it did. -/
def tracesWitnessesUptoRow : OpenClaim := { program := "ytchhbkicplgmhaa", sum := "d1c9a3d847111c681c9fc582ef7dc3856e8c42711379d07a86a632e561747a32", func := "spiritlevel/spiritlevellaw06.TracesWitnesses", spec := "tracesWitnesses", unfollowed := true, recurses := true, apart := false, narrowed := true }
def TracesWitnessesUptoSaid : Prop := tracesWitnessesUptoRow.holds Try.pinned (OpenSpec.upto tracesWitnessesSpec)

/-- 'spiritlevellaw06.TracesCut', WHERE WHAT IT READS IS OF BULK AT MOST 1048576: true; the input reads as it did. -/
def tracesCutUptoRow : OpenClaim := { program := "ytchhbkicplgmhaa", sum := "d1c9a3d847111c681c9fc582ef7dc3856e8c42711379d07a86a632e561747a32", func := "spiritlevel/spiritlevellaw06.TracesCut", spec := "tracesCut", unfollowed := true, recurses := true, apart := false, narrowed := true }
def TracesCutUptoSaid : Prop := tracesCutUptoRow.holds Try.pinned (OpenSpec.upto tracesCutSpec)

/-- 'spiritlevellaw06.TracesFrames', WHERE WHAT IT READS IS OF BULK AT MOST 1048576: true; the input reads as it did. -/
def tracesFramesUptoRow : OpenClaim := { program := "ytchhbkicplgmhaa", sum := "d1c9a3d847111c681c9fc582ef7dc3856e8c42711379d07a86a632e561747a32", func := "spiritlevel/spiritlevellaw06.TracesFrames", spec := "tracesFrames", unfollowed := true, recurses := true, apart := false, narrowed := true }
def TracesFramesUptoSaid : Prop := tracesFramesUptoRow.holds Try.pinned (OpenSpec.upto tracesFramesSpec)

/-- 'spiritlevellaw06.TracesMore', WHERE WHAT IT READS IS OF BULK AT MOST 1048576: true; the input reads as it did. -/
def tracesMoreUptoRow : OpenClaim := { program := "ytchhbkicplgmhaa", sum := "d1c9a3d847111c681c9fc582ef7dc3856e8c42711379d07a86a632e561747a32", func := "spiritlevel/spiritlevellaw06.TracesMore", spec := "tracesMore", unfollowed := true, recurses := true, apart := false, narrowed := true }
def TracesMoreUptoSaid : Prop := tracesMoreUptoRow.holds Try.pinned (OpenSpec.upto tracesMoreSpec)

/-- 'spiritlevellaw06.TracesBad', WHERE WHAT IT READS IS OF BULK AT MOST 1048576: true; the input reads as it did. -/
def tracesBadUptoRow : OpenClaim := { program := "ytchhbkicplgmhaa", sum := "d1c9a3d847111c681c9fc582ef7dc3856e8c42711379d07a86a632e561747a32", func := "spiritlevel/spiritlevellaw06.TracesBad", spec := "tracesBad", unfollowed := true, recurses := true, apart := false, narrowed := true }
def TracesBadUptoSaid : Prop := tracesBadUptoRow.holds Try.pinned (OpenSpec.upto tracesBadSpec)

/-- 'spiritlevellaw06.TracesNames', WHERE WHAT IT READS IS OF BULK AT MOST 1048576: true; the input reads as it did. -/
def tracesNamesUptoRow : OpenClaim := { program := "ytchhbkicplgmhaa", sum := "d1c9a3d847111c681c9fc582ef7dc3856e8c42711379d07a86a632e561747a32", func := "spiritlevel/spiritlevellaw06.TracesNames", spec := "tracesNames", unfollowed := true, recurses := true, apart := false, narrowed := true }
def TracesNamesUptoSaid : Prop := tracesNamesUptoRow.holds Try.pinned (OpenSpec.upto tracesNamesSpec)

end Rows
end Go.Proofs.Ytchhbkicplgmhaa
