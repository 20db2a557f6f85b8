/-
  No cell of these rows narrows 'for every input' (looked for: loops, veiled, ifaces, maps, wideKeys, modest, calm, conditions, laid).
  DERIVED. THE GIVEN ROWS OF THIS SEAT. 7 by the template 'for every input the law returns true; each argument reads behind the call as it read before'; 0 by the template 'total and deterministic' (their statements: YtgcdanpihaeioaaTotals.lean).
  GIVEN WITH THE SEED: the statements are not yours to turn. If you find one false, say at which input.
  Laid BY PROGRAM, IN A SANDBOX (cutbox-rows.mjs): the forced cells as the released guide's own fill.sh prints them over the translation 7890e88a0832081c… (all of the seat's roots in one cut). By AI agents, Wed Nov 11 2026. No macro, syntax, notation, axiom, sorry.
-/
import Derived.Test.YtgcdanpihaeioaaChecked
import GoSem.Claim
import GoSem.ClaimJoined
import GoSem.ClaimMapViews
import Derived.JoinedTies
import Derived.KernelRfl
namespace Go.Proofs.Ytgcdanpihaeioaa
/- THE CELL 'sum', in the pinned program and in every row, IS THE sha256 OF THE DUMP (.gsa) THAT YtgcdanpihaeioaaProg.lean LOADS. Nothing in Lean hashes anything: it is a label: what it is worth is what the hold of that sum in a sandbox is worth. -/
noncomputable def Try.pinned : Pinned := { name := "ytgcdanpihaeioaa", sum := "7890e88a0832081c6117a2dd777a2d7b29dcf01cc6329041d1cdaa49ef48e242", checked := Try.checked }
namespace Rows
def none {H : Type} : Left H := { results := [], args := [] }

/-- 'spiritlevellaw24.PredsPuts': WHATEVER THE INPUT: true; the input reads as it did. -/
def predsPutsSpec : ChangeSpec := { name := "predsPuts", fn := fun _ => fun
  | [d1, d2, d3, d4] => { results := [.lit (.bool true)], args := [d1, d2, d3, d4] }
  | _ => none }
def predsPutsRow : OpenClaim := { program := "ytgcdanpihaeioaa", sum := "7890e88a0832081c6117a2dd777a2d7b29dcf01cc6329041d1cdaa49ef48e242", func := "spiritlevel/spiritlevellaw24.PredsPuts", spec := "predsPuts", unfollowed := true, recurses := true, apart := false }
def PredsPutsSaid : Prop := predsPutsRow.holds Try.pinned (OpenSpec.ofChange predsPutsSpec)

/-- ITS FALSE NEIGHBOUR: 'it returns false'. Refute it at one input. -/
def predsPutsWrong : ChangeSpec := { name := "predsPuts", fn := fun _ => fun
  | [d1, d2, d3, d4] => { results := [.lit (.bool false)], args := [d1, d2, d3, d4] }
  | _ => none }
def PredsPutsWrongFalsely : Prop := predsPutsRow.holds Try.pinned (OpenSpec.ofChange predsPutsWrong)

/-- 'spiritlevellaw24.PredsMakes': WHATEVER THE INPUT: true; the input reads as it did. -/
def predsMakesSpec : ChangeSpec := { name := "predsMakes", fn := fun _ => fun
  | [d1, d2, d3, d4] => { results := [.lit (.bool true)], args := [d1, d2, d3, d4] }
  | _ => none }
def predsMakesRow : OpenClaim := { program := "ytgcdanpihaeioaa", sum := "7890e88a0832081c6117a2dd777a2d7b29dcf01cc6329041d1cdaa49ef48e242", func := "spiritlevel/spiritlevellaw24.PredsMakes", spec := "predsMakes", unfollowed := true, recurses := true, apart := false }
def PredsMakesSaid : Prop := predsMakesRow.holds Try.pinned (OpenSpec.ofChange predsMakesSpec)

/-- ITS FALSE NEIGHBOUR: 'it returns false'. Refute it at one input. -/
def predsMakesWrong : ChangeSpec := { name := "predsMakes", fn := fun _ => fun
  | [d1, d2, d3, d4] => { results := [.lit (.bool false)], args := [d1, d2, d3, d4] }
  | _ => none }
def PredsMakesWrongFalsely : Prop := predsMakesRow.holds Try.pinned (OpenSpec.ofChange predsMakesWrong)

/-- 'spiritlevellaw24.PredsTrue': WHATEVER THE INPUT: true; the input reads as it did. -/
def predsTrueSpec : ChangeSpec := { name := "predsTrue", fn := fun _ => fun
  | [d1, d2] => { results := [.lit (.bool true)], args := [d1, d2] }
  | _ => none }
def predsTrueRow : OpenClaim := { program := "ytgcdanpihaeioaa", sum := "7890e88a0832081c6117a2dd777a2d7b29dcf01cc6329041d1cdaa49ef48e242", func := "spiritlevel/spiritlevellaw24.PredsTrue", spec := "predsTrue", unfollowed := true, recurses := true, apart := false }
def PredsTrueSaid : Prop := predsTrueRow.holds Try.pinned (OpenSpec.ofChange predsTrueSpec)

/-- ITS FALSE NEIGHBOUR: 'it returns false'. Refute it at one input. -/
def predsTrueWrong : ChangeSpec := { name := "predsTrue", fn := fun _ => fun
  | [d1, d2] => { results := [.lit (.bool false)], args := [d1, d2] }
  | _ => none }
def PredsTrueWrongFalsely : Prop := predsTrueRow.holds Try.pinned (OpenSpec.ofChange predsTrueWrong)

/-- 'spiritlevellaw24.PredsFrames': WHATEVER THE INPUT: true; the input reads as it did. -/
def predsFramesSpec : ChangeSpec := { name := "predsFrames", fn := fun _ => fun
  | [d1, d2, d3, d4, d5] => { results := [.lit (.bool true)], args := [d1, d2, d3, d4, d5] }
  | _ => none }
def predsFramesRow : OpenClaim := { program := "ytgcdanpihaeioaa", sum := "7890e88a0832081c6117a2dd777a2d7b29dcf01cc6329041d1cdaa49ef48e242", func := "spiritlevel/spiritlevellaw24.PredsFrames", spec := "predsFrames", unfollowed := true, recurses := true, apart := false }
def PredsFramesSaid : Prop := predsFramesRow.holds Try.pinned (OpenSpec.ofChange predsFramesSpec)

/-- ITS FALSE NEIGHBOUR: 'it returns false'. Refute it at one input. -/
def predsFramesWrong : ChangeSpec := { name := "predsFrames", fn := fun _ => fun
  | [d1, d2, d3, d4, d5] => { results := [.lit (.bool false)], args := [d1, d2, d3, d4, d5] }
  | _ => none }
def PredsFramesWrongFalsely : Prop := predsFramesRow.holds Try.pinned (OpenSpec.ofChange predsFramesWrong)

/-- 'spiritlevellaw24.PredsOrder': WHATEVER THE INPUT: true; the input reads as it did. -/
def predsOrderSpec : ChangeSpec := { name := "predsOrder", fn := fun _ => fun
  | [d1, d2, d3, d4, d5] => { results := [.lit (.bool true)], args := [d1, d2, d3, d4, d5] }
  | _ => none }
def predsOrderRow : OpenClaim := { program := "ytgcdanpihaeioaa", sum := "7890e88a0832081c6117a2dd777a2d7b29dcf01cc6329041d1cdaa49ef48e242", func := "spiritlevel/spiritlevellaw24.PredsOrder", spec := "predsOrder", unfollowed := true, recurses := true, apart := false }
def PredsOrderSaid : Prop := predsOrderRow.holds Try.pinned (OpenSpec.ofChange predsOrderSpec)

/-- ITS FALSE NEIGHBOUR: 'it returns false'. Refute it at one input. -/
def predsOrderWrong : ChangeSpec := { name := "predsOrder", fn := fun _ => fun
  | [d1, d2, d3, d4, d5] => { results := [.lit (.bool false)], args := [d1, d2, d3, d4, d5] }
  | _ => none }
def PredsOrderWrongFalsely : Prop := predsOrderRow.holds Try.pinned (OpenSpec.ofChange predsOrderWrong)

/-- 'spiritlevellaw24.PredsNames': WHATEVER THE INPUT: true; the input reads as it did. -/
def predsNamesSpec : ChangeSpec := { name := "predsNames", fn := fun _ => fun
  | [] => { results := [.lit (.bool true)], args := [] }
  | _ => none }
def predsNamesRow : OpenClaim := { program := "ytgcdanpihaeioaa", sum := "7890e88a0832081c6117a2dd777a2d7b29dcf01cc6329041d1cdaa49ef48e242", func := "spiritlevel/spiritlevellaw24.PredsNames", spec := "predsNames", unfollowed := true, recurses := true, apart := false }
def PredsNamesSaid : Prop := predsNamesRow.holds Try.pinned (OpenSpec.ofChange predsNamesSpec)

/-- ITS FALSE NEIGHBOUR: 'it returns false'. Refute it at one input. -/
def predsNamesWrong : ChangeSpec := { name := "predsNames", fn := fun _ => fun
  | [] => { results := [.lit (.bool false)], args := [] }
  | _ => none }
def PredsNamesWrongFalsely : Prop := predsNamesRow.holds Try.pinned (OpenSpec.ofChange predsNamesWrong)

/-- 'spiritlevellaw24.PredsWords': WHATEVER THE INPUT: true; the input reads as it did. -/
def predsWordsSpec : ChangeSpec := { name := "predsWords", fn := fun _ => fun
  | [d1, d2, d3] => { results := [.lit (.bool true)], args := [d1, d2, d3] }
  | _ => none }
def predsWordsRow : OpenClaim := { program := "ytgcdanpihaeioaa", sum := "7890e88a0832081c6117a2dd777a2d7b29dcf01cc6329041d1cdaa49ef48e242", func := "spiritlevel/spiritlevellaw24.PredsWords", spec := "predsWords", unfollowed := true, recurses := true, apart := false }
def PredsWordsSaid : Prop := predsWordsRow.holds Try.pinned (OpenSpec.ofChange predsWordsSpec)

/-- ITS FALSE NEIGHBOUR: 'it returns false'. Refute it at one input. -/
def predsWordsWrong : ChangeSpec := { name := "predsWords", fn := fun _ => fun
  | [d1, d2, d3] => { results := [.lit (.bool false)], args := [d1, d2, d3] }
  | _ => none }
def PredsWordsWrongFalsely : Prop := predsWordsRow.holds Try.pinned (OpenSpec.ofChange predsWordsWrong)

/- THE SECOND FORM. 'bulk': how many values and letters a reading holds, each counted each time it is reached (what is shared counts as often as it is met; a slice's spare places count too). A statement '..UptoSaid' is the law's where the arguments, and the package variables that the reading takes, are together of bulk at most 1048576: NARROWER than '..Said'. Prove '..Said' where nothing that the law and all that it calls make is longer than what came in: it says more and counts as full. Else prove '..UptoSaid'. A law counts once. -/
mutual
def uptoBulk {H : Type} : DataW H → Nat
  | .lit (.string bytes) => bytes.length + 1
  | .lit _ => 1
  | .nil => 1
  | .ptr d => uptoBulk d + 1
  | .slice elems spare => uptoBulkAll elems + uptoBulkAll spare + 1
  | .agg parts => uptoBulkAll parts + 1
  | .iface _ d => uptoBulk d + 1
  | .map entries => uptoBulkEntries entries + 1
  | .held _ => 1
def uptoBulkAll {H : Type} : List (DataW H) → Nat
  | [] => 0
  | d :: r => uptoBulk d + uptoBulkAll r
def uptoBulkEntries {H : Type} : List (Lit × DataW H) → Nat
  | [] => 0
  | x :: r => uptoBulkEntry x + uptoBulkEntries r
def uptoBulkEntry {H : Type} : Lit × DataW H → Nat
  | (.string bytes, d) => bytes.length + uptoBulk d + 1
  | (_, d) => uptoBulk d + 1
 end
def uptoSmall : (H : Type) → List (DataW H) → Bool := fun _ ds => decide (uptoBulkAll ds ≤ 1048576)
def OpenSpec.upto (s : _root_.Go.ChangeSpec) : _root_.Go.OpenSpec := { _root_.Go.OpenSpec.ofChange s with cond := some uptoSmall }

/-- 'spiritlevellaw24.PredsPuts', WHERE WHAT IT READS IS OF BULK AT MOST 1048576: true; the input reads as it did. -/
def predsPutsUptoRow : OpenClaim := { program := "ytgcdanpihaeioaa", sum := "7890e88a0832081c6117a2dd777a2d7b29dcf01cc6329041d1cdaa49ef48e242", func := "spiritlevel/spiritlevellaw24.PredsPuts", spec := "predsPuts", unfollowed := true, recurses := true, apart := false, narrowed := true }
def PredsPutsUptoSaid : Prop := predsPutsUptoRow.holds Try.pinned (OpenSpec.upto predsPutsSpec)

/-- 'spiritlevellaw24.PredsMakes', WHERE WHAT IT READS IS OF BULK AT MOST 1048576: true; the input reads as it did. -/
def predsMakesUptoRow : OpenClaim := { program := "ytgcdanpihaeioaa", sum := "7890e88a0832081c6117a2dd777a2d7b29dcf01cc6329041d1cdaa49ef48e242", func := "spiritlevel/spiritlevellaw24.PredsMakes", spec := "predsMakes", unfollowed := true, recurses := true, apart := false, narrowed := true }
def PredsMakesUptoSaid : Prop := predsMakesUptoRow.holds Try.pinned (OpenSpec.upto predsMakesSpec)

/-- 'spiritlevellaw24.PredsTrue', WHERE WHAT IT READS IS OF BULK AT MOST 1048576: true; the input reads as it did. -/
def predsTrueUptoRow : OpenClaim := { program := "ytgcdanpihaeioaa", sum := "7890e88a0832081c6117a2dd777a2d7b29dcf01cc6329041d1cdaa49ef48e242", func := "spiritlevel/spiritlevellaw24.PredsTrue", spec := "predsTrue", unfollowed := true, recurses := true, apart := false, narrowed := true }
def PredsTrueUptoSaid : Prop := predsTrueUptoRow.holds Try.pinned (OpenSpec.upto predsTrueSpec)

/-- 'spiritlevellaw24.PredsFrames', WHERE WHAT IT READS IS OF BULK AT MOST 1048576: true; the input reads as it did. -/
def predsFramesUptoRow : OpenClaim := { program := "ytgcdanpihaeioaa", sum := "7890e88a0832081c6117a2dd777a2d7b29dcf01cc6329041d1cdaa49ef48e242", func := "spiritlevel/spiritlevellaw24.PredsFrames", spec := "predsFrames", unfollowed := true, recurses := true, apart := false, narrowed := true }
def PredsFramesUptoSaid : Prop := predsFramesUptoRow.holds Try.pinned (OpenSpec.upto predsFramesSpec)

/-- 'spiritlevellaw24.PredsOrder', WHERE WHAT IT READS IS OF BULK AT MOST 1048576: true; the input reads as it did. -/
def predsOrderUptoRow : OpenClaim := { program := "ytgcdanpihaeioaa", sum := "7890e88a0832081c6117a2dd777a2d7b29dcf01cc6329041d1cdaa49ef48e242", func := "spiritlevel/spiritlevellaw24.PredsOrder", spec := "predsOrder", unfollowed := true, recurses := true, apart := false, narrowed := true }
def PredsOrderUptoSaid : Prop := predsOrderUptoRow.holds Try.pinned (OpenSpec.upto predsOrderSpec)

/-- 'spiritlevellaw24.PredsNames', WHERE WHAT IT READS IS OF BULK AT MOST 1048576: true; the input reads as it did. -/
def predsNamesUptoRow : OpenClaim := { program := "ytgcdanpihaeioaa", sum := "7890e88a0832081c6117a2dd777a2d7b29dcf01cc6329041d1cdaa49ef48e242", func := "spiritlevel/spiritlevellaw24.PredsNames", spec := "predsNames", unfollowed := true, recurses := true, apart := false, narrowed := true }
def PredsNamesUptoSaid : Prop := predsNamesUptoRow.holds Try.pinned (OpenSpec.upto predsNamesSpec)

/-- 'spiritlevellaw24.PredsWords', WHERE WHAT IT READS IS OF BULK AT MOST 1048576: true; the input reads as it did. -/
def predsWordsUptoRow : OpenClaim := { program := "ytgcdanpihaeioaa", sum := "7890e88a0832081c6117a2dd777a2d7b29dcf01cc6329041d1cdaa49ef48e242", func := "spiritlevel/spiritlevellaw24.PredsWords", spec := "predsWords", unfollowed := true, recurses := true, apart := false, narrowed := true }
def PredsWordsUptoSaid : Prop := predsWordsUptoRow.holds Try.pinned (OpenSpec.upto predsWordsSpec)

end Rows
end Go.Proofs.Ytgcdanpihaeioaa
