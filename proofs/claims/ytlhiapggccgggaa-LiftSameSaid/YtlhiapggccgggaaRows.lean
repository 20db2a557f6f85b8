/-
  No cell of these rows narrows 'for every input' (looked for: loops, veiled, ifaces, maps, wideKeys, modest, calm, conditions, laid).
  DERIVED. THE GIVEN ROWS OF THIS SEAT. 7 by the template 'for every input the law returns true; each argument reads behind the call as it read before'; 0 by the template 'total and deterministic' (their statements: YtlhiapggccgggaaTotals.lean).
  GIVEN WITH THE SEED: the statements are not yours to turn. If you find one false, say at which input.
  Laid BY PROGRAM, IN A SANDBOX (cutbox-rows.mjs): the forced cells as the released guide's own fill.sh prints them over the translation 3abd0d234831b09f… (all of the seat's roots in one cut). By AI agents, Wed Nov 11 2026. No macro, syntax, notation, axiom, sorry.
-/
import Derived.Test.YtlhiapggccgggaaChecked
import GoSem.Claim
import GoSem.ClaimJoined
import GoSem.ClaimMapViews
import Derived.JoinedTies
import Derived.KernelRfl
namespace Go.Proofs.Ytlhiapggccgggaa
/- THE CELL 'sum', in the pinned program and in every row, IS THE sha256 OF THE DUMP (.gsa) THAT YtlhiapggccgggaaProg.lean LOADS. Nothing in Lean hashes anything: it is a label: what it is worth is what the hold of that sum in a sandbox is worth. -/
noncomputable def Try.pinned : Pinned := { name := "ytlhiapggccgggaa", sum := "3abd0d234831b09f717f6d72e52c55effb5943b23ea9881a7509f76703f6602a", checked := Try.checked }
namespace Rows
def none {H : Type} : Left H := { results := [], args := [] }

/-- 'spiritlevellaw25.LiftChecks': WHATEVER THE INPUT: true; the input reads as it did. -/
def liftChecksSpec : ChangeSpec := { name := "liftChecks", fn := fun _ => fun
  | [d1, d2, d3] => { results := [.lit (.bool true)], args := [d1, d2, d3] }
  | _ => none }
def liftChecksRow : OpenClaim := { program := "ytlhiapggccgggaa", sum := "3abd0d234831b09f717f6d72e52c55effb5943b23ea9881a7509f76703f6602a", func := "spiritlevel/spiritlevellaw25.LiftChecks", spec := "liftChecks", unfollowed := true, recurses := true, apart := false }
def LiftChecksSaid : Prop := liftChecksRow.holds Try.pinned (OpenSpec.ofChange liftChecksSpec)

/-- ITS FALSE NEIGHBOUR: 'it returns false'. Refute it at one input. -/
def liftChecksWrong : ChangeSpec := { name := "liftChecks", fn := fun _ => fun
  | [d1, d2, d3] => { results := [.lit (.bool false)], args := [d1, d2, d3] }
  | _ => none }
def LiftChecksWrongFalsely : Prop := liftChecksRow.holds Try.pinned (OpenSpec.ofChange liftChecksWrong)

/-- 'spiritlevellaw25.LiftComposes': WHATEVER THE INPUT: true; the input reads as it did. -/
def liftComposesSpec : ChangeSpec := { name := "liftComposes", fn := fun _ => fun
  | [d1, d2, d3, d4, d5] => { results := [.lit (.bool true)], args := [d1, d2, d3, d4, d5] }
  | _ => none }
def liftComposesRow : OpenClaim := { program := "ytlhiapggccgggaa", sum := "3abd0d234831b09f717f6d72e52c55effb5943b23ea9881a7509f76703f6602a", func := "spiritlevel/spiritlevellaw25.LiftComposes", spec := "liftComposes", unfollowed := true, recurses := true, apart := false }
def LiftComposesSaid : Prop := liftComposesRow.holds Try.pinned (OpenSpec.ofChange liftComposesSpec)

/-- ITS FALSE NEIGHBOUR: 'it returns false'. Refute it at one input. -/
def liftComposesWrong : ChangeSpec := { name := "liftComposes", fn := fun _ => fun
  | [d1, d2, d3, d4, d5] => { results := [.lit (.bool false)], args := [d1, d2, d3, d4, d5] }
  | _ => none }
def LiftComposesWrongFalsely : Prop := liftComposesRow.holds Try.pinned (OpenSpec.ofChange liftComposesWrong)

/-- 'spiritlevellaw25.LiftTranslated': WHATEVER THE INPUT: true; the input reads as it did. -/
def liftTranslatedSpec : ChangeSpec := { name := "liftTranslated", fn := fun _ => fun
  | [d1, d2, d3, d4, d5] => { results := [.lit (.bool true)], args := [d1, d2, d3, d4, d5] }
  | _ => none }
def liftTranslatedRow : OpenClaim := { program := "ytlhiapggccgggaa", sum := "3abd0d234831b09f717f6d72e52c55effb5943b23ea9881a7509f76703f6602a", func := "spiritlevel/spiritlevellaw25.LiftTranslated", spec := "liftTranslated", unfollowed := true, recurses := true, apart := false }
def LiftTranslatedSaid : Prop := liftTranslatedRow.holds Try.pinned (OpenSpec.ofChange liftTranslatedSpec)

/-- ITS FALSE NEIGHBOUR: 'it returns false'. Refute it at one input. -/
def liftTranslatedWrong : ChangeSpec := { name := "liftTranslated", fn := fun _ => fun
  | [d1, d2, d3, d4, d5] => { results := [.lit (.bool false)], args := [d1, d2, d3, d4, d5] }
  | _ => none }
def LiftTranslatedWrongFalsely : Prop := liftTranslatedRow.holds Try.pinned (OpenSpec.ofChange liftTranslatedWrong)

/-- 'spiritlevellaw25.LiftTraces': WHATEVER THE INPUT: true; the input reads as it did. -/
def liftTracesSpec : ChangeSpec := { name := "liftTraces", fn := fun _ => fun
  | [d1, d2, d3, d4, d5] => { results := [.lit (.bool true)], args := [d1, d2, d3, d4, d5] }
  | _ => none }
def liftTracesRow : OpenClaim := { program := "ytlhiapggccgggaa", sum := "3abd0d234831b09f717f6d72e52c55effb5943b23ea9881a7509f76703f6602a", func := "spiritlevel/spiritlevellaw25.LiftTraces", spec := "liftTraces", unfollowed := true, recurses := true, apart := false }
def LiftTracesSaid : Prop := liftTracesRow.holds Try.pinned (OpenSpec.ofChange liftTracesSpec)

/-- ITS FALSE NEIGHBOUR: 'it returns false'. Refute it at one input. -/
def liftTracesWrong : ChangeSpec := { name := "liftTraces", fn := fun _ => fun
  | [d1, d2, d3, d4, d5] => { results := [.lit (.bool false)], args := [d1, d2, d3, d4, d5] }
  | _ => none }
def LiftTracesWrongFalsely : Prop := liftTracesRow.holds Try.pinned (OpenSpec.ofChange liftTracesWrong)

/-- 'spiritlevellaw25.LiftOne': WHATEVER THE INPUT: true; the input reads as it did. -/
def liftOneSpec : ChangeSpec := { name := "liftOne", fn := fun _ => fun
  | [d1, d2, d3, d4, d5, d6] => { results := [.lit (.bool true)], args := [d1, d2, d3, d4, d5, d6] }
  | _ => none }
def liftOneRow : OpenClaim := { program := "ytlhiapggccgggaa", sum := "3abd0d234831b09f717f6d72e52c55effb5943b23ea9881a7509f76703f6602a", func := "spiritlevel/spiritlevellaw25.LiftOne", spec := "liftOne", unfollowed := true, recurses := true, apart := false }
def LiftOneSaid : Prop := liftOneRow.holds Try.pinned (OpenSpec.ofChange liftOneSpec)

/-- ITS FALSE NEIGHBOUR: 'it returns false'. Refute it at one input. -/
def liftOneWrong : ChangeSpec := { name := "liftOne", fn := fun _ => fun
  | [d1, d2, d3, d4, d5, d6] => { results := [.lit (.bool false)], args := [d1, d2, d3, d4, d5, d6] }
  | _ => none }
def LiftOneWrongFalsely : Prop := liftOneRow.holds Try.pinned (OpenSpec.ofChange liftOneWrong)

/-- 'spiritlevellaw25.LiftSame': WHATEVER THE INPUT: true; the input reads as it did. -/
def liftSameSpec : ChangeSpec := { name := "liftSame", fn := fun _ => fun
  | [d1, d2, d3, d4, d5] => { results := [.lit (.bool true)], args := [d1, d2, d3, d4, d5] }
  | _ => none }
def liftSameRow : OpenClaim := { program := "ytlhiapggccgggaa", sum := "3abd0d234831b09f717f6d72e52c55effb5943b23ea9881a7509f76703f6602a", func := "spiritlevel/spiritlevellaw25.LiftSame", spec := "liftSame", unfollowed := true, recurses := true, apart := false }
def LiftSameSaid : Prop := liftSameRow.holds Try.pinned (OpenSpec.ofChange liftSameSpec)

/-- ITS FALSE NEIGHBOUR: 'it returns false'. Refute it at one input. -/
def liftSameWrong : ChangeSpec := { name := "liftSame", fn := fun _ => fun
  | [d1, d2, d3, d4, d5] => { results := [.lit (.bool false)], args := [d1, d2, d3, d4, d5] }
  | _ => none }
def LiftSameWrongFalsely : Prop := liftSameRow.holds Try.pinned (OpenSpec.ofChange liftSameWrong)

/-- 'spiritlevellaw25.LiftNames': WHATEVER THE INPUT: true; the input reads as it did. -/
def liftNamesSpec : ChangeSpec := { name := "liftNames", fn := fun _ => fun
  | [] => { results := [.lit (.bool true)], args := [] }
  | _ => none }
def liftNamesRow : OpenClaim := { program := "ytlhiapggccgggaa", sum := "3abd0d234831b09f717f6d72e52c55effb5943b23ea9881a7509f76703f6602a", func := "spiritlevel/spiritlevellaw25.LiftNames", spec := "liftNames", unfollowed := true, recurses := true, apart := false }
def LiftNamesSaid : Prop := liftNamesRow.holds Try.pinned (OpenSpec.ofChange liftNamesSpec)

/-- ITS FALSE NEIGHBOUR: 'it returns false'. Refute it at one input. -/
def liftNamesWrong : ChangeSpec := { name := "liftNames", fn := fun _ => fun
  | [] => { results := [.lit (.bool false)], args := [] }
  | _ => none }
def LiftNamesWrongFalsely : Prop := liftNamesRow.holds Try.pinned (OpenSpec.ofChange liftNamesWrong)

/- THE SECOND FORM. 'bulk': how many values and letters a reading holds, each counted each time it is reached (what is shared counts as often as it is met; a slice's spare places count too). A statement '..UptoSaid' is the law's where the arguments, and the package variables that the reading takes, are together of bulk at most 1048576: NARROWER than '..Said'. Prove '..Said' where nothing that the law and all that it calls make is longer than what came in: it says more and counts as full. Else prove '..UptoSaid'. A law counts once. -/
mutual
def uptoBulk {H : Type} : DataW H → Nat
  | .lit (.string bytes) => bytes.length + 1
  | .lit _ => 1
  | .nil => 1
  | .ptr d => uptoBulk d + 1
  | .slice elems spare => uptoBulkAll elems + uptoBulkAll spare + 1
  | .agg parts => uptoBulkAll parts + 1
  | .iface _ d => uptoBulk d + 1
  | .map entries => uptoBulkEntries entries + 1
  | .held _ => 1
def uptoBulkAll {H : Type} : List (DataW H) → Nat
  | [] => 0
  | d :: r => uptoBulk d + uptoBulkAll r
def uptoBulkEntries {H : Type} : List (Lit × DataW H) → Nat
  | [] => 0
  | x :: r => uptoBulkEntry x + uptoBulkEntries r
def uptoBulkEntry {H : Type} : Lit × DataW H → Nat
  | (.string bytes, d) => bytes.length + uptoBulk d + 1
  | (_, d) => uptoBulk d + 1
 end
def uptoSmall : (H : Type) → List (DataW H) → Bool := fun _ ds => decide (uptoBulkAll ds ≤ 1048576)
def OpenSpec.upto (s : _root_.Go.ChangeSpec) : _root_.Go.OpenSpec := { _root_.Go.OpenSpec.ofChange s with cond := some uptoSmall }

/-- 'spiritlevellaw25.LiftChecks', WHERE WHAT IT READS IS OF BULK AT MOST 1048576: true; the input reads as it did. -/
def liftChecksUptoRow : OpenClaim := { program := "ytlhiapggccgggaa", sum := "3abd0d234831b09f717f6d72e52c55effb5943b23ea9881a7509f76703f6602a", func := "spiritlevel/spiritlevellaw25.LiftChecks", spec := "liftChecks", unfollowed := true, recurses := true, apart := false, narrowed := true }
def LiftChecksUptoSaid : Prop := liftChecksUptoRow.holds Try.pinned (OpenSpec.upto liftChecksSpec)

/-- 'spiritlevellaw25.LiftComposes', WHERE WHAT IT READS IS OF BULK AT MOST 1048576: true; the input reads as it did. -/
def liftComposesUptoRow : OpenClaim := { program := "ytlhiapggccgggaa", sum := "3abd0d234831b09f717f6d72e52c55effb5943b23ea9881a7509f76703f6602a", func := "spiritlevel/spiritlevellaw25.LiftComposes", spec := "liftComposes", unfollowed := true, recurses := true, apart := false, narrowed := true }
def LiftComposesUptoSaid : Prop := liftComposesUptoRow.holds Try.pinned (OpenSpec.upto liftComposesSpec)

/-- 'spiritlevellaw25.LiftTranslated', WHERE WHAT IT READS IS OF BULK AT MOST 1048576: true; the input reads as it did. -/
def liftTranslatedUptoRow : OpenClaim := { program := "ytlhiapggccgggaa", sum := "3abd0d234831b09f717f6d72e52c55effb5943b23ea9881a7509f76703f6602a", func := "spiritlevel/spiritlevellaw25.LiftTranslated", spec := "liftTranslated", unfollowed := true, recurses := true, apart := false, narrowed := true }
def LiftTranslatedUptoSaid : Prop := liftTranslatedUptoRow.holds Try.pinned (OpenSpec.upto liftTranslatedSpec)

/-- 'spiritlevellaw25.LiftTraces', WHERE WHAT IT READS IS OF BULK AT MOST 1048576: true; the input reads as it did. -/
def liftTracesUptoRow : OpenClaim := { program := "ytlhiapggccgggaa", sum := "3abd0d234831b09f717f6d72e52c55effb5943b23ea9881a7509f76703f6602a", func := "spiritlevel/spiritlevellaw25.LiftTraces", spec := "liftTraces", unfollowed := true, recurses := true, apart := false, narrowed := true }
def LiftTracesUptoSaid : Prop := liftTracesUptoRow.holds Try.pinned (OpenSpec.upto liftTracesSpec)

/-- 'spiritlevellaw25.LiftOne', WHERE WHAT IT READS IS OF BULK AT MOST 1048576: true; the input reads as it did. -/
def liftOneUptoRow : OpenClaim := { program := "ytlhiapggccgggaa", sum := "3abd0d234831b09f717f6d72e52c55effb5943b23ea9881a7509f76703f6602a", func := "spiritlevel/spiritlevellaw25.LiftOne", spec := "liftOne", unfollowed := true, recurses := true, apart := false, narrowed := true }
def LiftOneUptoSaid : Prop := liftOneUptoRow.holds Try.pinned (OpenSpec.upto liftOneSpec)

/-- 'spiritlevellaw25.LiftSame', WHERE WHAT IT READS IS OF BULK AT MOST 1048576: true; the input reads as it did. -/
def liftSameUptoRow : OpenClaim := { program := "ytlhiapggccgggaa", sum := "3abd0d234831b09f717f6d72e52c55effb5943b23ea9881a7509f76703f6602a", func := "spiritlevel/spiritlevellaw25.LiftSame", spec := "liftSame", unfollowed := true, recurses := true, apart := false, narrowed := true }
def LiftSameUptoSaid : Prop := liftSameUptoRow.holds Try.pinned (OpenSpec.upto liftSameSpec)

/-- 'spiritlevellaw25.LiftNames', WHERE WHAT IT READS IS OF BULK AT MOST 1048576: true; the input reads as it did. -/
def liftNamesUptoRow : OpenClaim := { program := "ytlhiapggccgggaa", sum := "3abd0d234831b09f717f6d72e52c55effb5943b23ea9881a7509f76703f6602a", func := "spiritlevel/spiritlevellaw25.LiftNames", spec := "liftNames", unfollowed := true, recurses := true, apart := false, narrowed := true }
def LiftNamesUptoSaid : Prop := liftNamesUptoRow.holds Try.pinned (OpenSpec.upto liftNamesSpec)

end Rows
end Go.Proofs.Ytlhiapggccgggaa
