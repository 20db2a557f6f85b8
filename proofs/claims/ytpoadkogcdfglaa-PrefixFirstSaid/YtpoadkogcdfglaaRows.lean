/-
  No cell of these rows narrows 'for every input' (looked for: loops, veiled, ifaces, maps, wideKeys, modest, calm, conditions, laid).
  DERIVED. THE GIVEN ROWS OF THIS SEAT. 5 by the template 'for every input the law returns true; each argument reads behind the call as it read before'; 0 by the template 'total and deterministic' (their statements: YtpoadkogcdfglaaTotals.lean).
  GIVEN WITH THE SEED: the statements are not yours to turn. If you find one false, say at which input.
  Laid BY PROGRAM, IN A SANDBOX (cutbox-rows.mjs): the forced cells as the released guide's own fill.sh prints them over the translation 7bd4523d612dc840… (all of the seat's roots in one cut). By AI agents, Wed Nov 11 2026. No macro, syntax, notation, axiom, sorry.
-/
import Derived.Test.YtpoadkogcdfglaaChecked
import GoSem.Claim
import GoSem.ClaimJoined
import GoSem.ClaimMapViews
import Derived.JoinedTies
import Derived.KernelRfl
namespace Go.Proofs.Ytpoadkogcdfglaa
/- THE CELL 'sum', in the pinned program and in every row, IS THE sha256 OF THE DUMP (.gsa) THAT YtpoadkogcdfglaaProg.lean LOADS. Nothing in Lean hashes anything: it is a label: what it is worth is what the hold of that sum in a sandbox is worth. -/
noncomputable def Try.pinned : Pinned := { name := "ytpoadkogcdfglaa", sum := "7bd4523d612dc8404622f152fdf745f53abbf635beb66b1167e35cbccfc9e0df", checked := Try.checked }
namespace Rows
def none {H : Type} : Left H := { results := [], args := [] }

/-- 'spiritlevellaw32.PrefixPasses': WHATEVER THE INPUT: true; the input reads as it did. -/
def prefixPassesSpec : ChangeSpec := { name := "prefixPasses", fn := fun _ => fun
  | [d1, d2] => { results := [.lit (.bool true)], args := [d1, d2] }
  | _ => none }
def prefixPassesRow : OpenClaim := { program := "ytpoadkogcdfglaa", sum := "7bd4523d612dc8404622f152fdf745f53abbf635beb66b1167e35cbccfc9e0df", func := "spiritlevel/spiritlevellaw32.PrefixPasses", spec := "prefixPasses", unfollowed := true, recurses := true, plainKeys := false, apart := false }
def PrefixPassesSaid : Prop := prefixPassesRow.holds Try.pinned (OpenSpec.ofChange prefixPassesSpec)

/-- ITS FALSE NEIGHBOUR: 'it returns false'. Refute it at one input. -/
def prefixPassesWrong : ChangeSpec := { name := "prefixPasses", fn := fun _ => fun
  | [d1, d2] => { results := [.lit (.bool false)], args := [d1, d2] }
  | _ => none }
def PrefixPassesWrongFalsely : Prop := prefixPassesRow.holds Try.pinned (OpenSpec.ofChange prefixPassesWrong)

/-- 'spiritlevellaw32.PrefixNames': WHATEVER THE INPUT: true; the input reads as it did. -/
def prefixNamesSpec : ChangeSpec := { name := "prefixNames", fn := fun _ => fun
  | [] => { results := [.lit (.bool true)], args := [] }
  | _ => none }
def prefixNamesRow : OpenClaim := { program := "ytpoadkogcdfglaa", sum := "7bd4523d612dc8404622f152fdf745f53abbf635beb66b1167e35cbccfc9e0df", func := "spiritlevel/spiritlevellaw32.PrefixNames", spec := "prefixNames", unfollowed := true, recurses := true, plainKeys := false, apart := false }
def PrefixNamesSaid : Prop := prefixNamesRow.holds Try.pinned (OpenSpec.ofChange prefixNamesSpec)

/-- ITS FALSE NEIGHBOUR: 'it returns false'. Refute it at one input. -/
def prefixNamesWrong : ChangeSpec := { name := "prefixNames", fn := fun _ => fun
  | [] => { results := [.lit (.bool false)], args := [] }
  | _ => none }
def PrefixNamesWrongFalsely : Prop := prefixNamesRow.holds Try.pinned (OpenSpec.ofChange prefixNamesWrong)

/-- 'spiritlevellaw32.PrefixVerdict': WHATEVER THE INPUT: true; the input reads as it did. -/
def prefixVerdictSpec : ChangeSpec := { name := "prefixVerdict", fn := fun _ => fun
  | [d1, d2] => { results := [.lit (.bool true)], args := [d1, d2] }
  | _ => none }
def prefixVerdictRow : OpenClaim := { program := "ytpoadkogcdfglaa", sum := "7bd4523d612dc8404622f152fdf745f53abbf635beb66b1167e35cbccfc9e0df", func := "spiritlevel/spiritlevellaw32.PrefixVerdict", spec := "prefixVerdict", unfollowed := true, recurses := true, plainKeys := false, apart := false }
def PrefixVerdictSaid : Prop := prefixVerdictRow.holds Try.pinned (OpenSpec.ofChange prefixVerdictSpec)

/-- ITS FALSE NEIGHBOUR: 'it returns false'. Refute it at one input. -/
def prefixVerdictWrong : ChangeSpec := { name := "prefixVerdict", fn := fun _ => fun
  | [d1, d2] => { results := [.lit (.bool false)], args := [d1, d2] }
  | _ => none }
def PrefixVerdictWrongFalsely : Prop := prefixVerdictRow.holds Try.pinned (OpenSpec.ofChange prefixVerdictWrong)

/-- 'spiritlevellaw32.PrefixLater': WHATEVER THE INPUT: true; the input reads as it did. -/
def prefixLaterSpec : ChangeSpec := { name := "prefixLater", fn := fun _ => fun
  | [d1, d2, d3, d4, d5] => { results := [.lit (.bool true)], args := [d1, d2, d3, d4, d5] }
  | _ => none }
def prefixLaterRow : OpenClaim := { program := "ytpoadkogcdfglaa", sum := "7bd4523d612dc8404622f152fdf745f53abbf635beb66b1167e35cbccfc9e0df", func := "spiritlevel/spiritlevellaw32.PrefixLater", spec := "prefixLater", unfollowed := true, recurses := true, plainKeys := false, apart := false }
def PrefixLaterSaid : Prop := prefixLaterRow.holds Try.pinned (OpenSpec.ofChange prefixLaterSpec)

/-- ITS FALSE NEIGHBOUR: 'it returns false'. Refute it at one input. -/
def prefixLaterWrong : ChangeSpec := { name := "prefixLater", fn := fun _ => fun
  | [d1, d2, d3, d4, d5] => { results := [.lit (.bool false)], args := [d1, d2, d3, d4, d5] }
  | _ => none }
def PrefixLaterWrongFalsely : Prop := prefixLaterRow.holds Try.pinned (OpenSpec.ofChange prefixLaterWrong)

/-- 'spiritlevellaw32.PrefixFirst': WHATEVER THE INPUT: true; the input reads as it did. -/
def prefixFirstSpec : ChangeSpec := { name := "prefixFirst", fn := fun _ => fun
  | [d1, d2, d3, d4] => { results := [.lit (.bool true)], args := [d1, d2, d3, d4] }
  | _ => none }
def prefixFirstRow : OpenClaim := { program := "ytpoadkogcdfglaa", sum := "7bd4523d612dc8404622f152fdf745f53abbf635beb66b1167e35cbccfc9e0df", func := "spiritlevel/spiritlevellaw32.PrefixFirst", spec := "prefixFirst", unfollowed := true, recurses := true, plainKeys := false, apart := false }
def PrefixFirstSaid : Prop := prefixFirstRow.holds Try.pinned (OpenSpec.ofChange prefixFirstSpec)

/-- ITS FALSE NEIGHBOUR: 'it returns false'. Refute it at one input. -/
def prefixFirstWrong : ChangeSpec := { name := "prefixFirst", fn := fun _ => fun
  | [d1, d2, d3, d4] => { results := [.lit (.bool false)], args := [d1, d2, d3, d4] }
  | _ => none }
def PrefixFirstWrongFalsely : Prop := prefixFirstRow.holds Try.pinned (OpenSpec.ofChange prefixFirstWrong)

/- THE SECOND FORM. 'bulk': how many values and letters a reading holds, each counted each time it is reached (what is shared counts as often as it is met; a slice's spare places count too). A statement '..UptoSaid' is the law's where the arguments, and the package variables that the reading takes, are together of bulk at most 1048576: NARROWER than '..Said'. Prove '..Said' where nothing that the law and all that it calls make is longer than what came in: it says more and counts as full. Else prove '..UptoSaid'. A law counts once. -/
mutual
def uptoBulk {H : Type} : DataW H → Nat
  | .lit (.string bytes) => bytes.length + 1
  | .lit _ => 1
  | .nil => 1
  | .ptr d => uptoBulk d + 1
  | .slice elems spare => uptoBulkAll elems + uptoBulkAll spare + 1
  | .agg parts => uptoBulkAll parts + 1
  | .iface _ d => uptoBulk d + 1
  | .map entries => uptoBulkEntries entries + 1
  | .held _ => 1
def uptoBulkAll {H : Type} : List (DataW H) → Nat
  | [] => 0
  | d :: r => uptoBulk d + uptoBulkAll r
def uptoBulkEntries {H : Type} : List (Lit × DataW H) → Nat
  | [] => 0
  | x :: r => uptoBulkEntry x + uptoBulkEntries r
def uptoBulkEntry {H : Type} : Lit × DataW H → Nat
  | (.string bytes, d) => bytes.length + uptoBulk d + 1
  | (_, d) => uptoBulk d + 1
 end
def uptoSmall : (H : Type) → List (DataW H) → Bool := fun _ ds => decide (uptoBulkAll ds ≤ 1048576)
def OpenSpec.upto (s : _root_.Go.ChangeSpec) : _root_.Go.OpenSpec := { _root_.Go.OpenSpec.ofChange s with cond := some uptoSmall }

/-- 'spiritlevellaw32.PrefixPasses', WHERE WHAT IT READS IS OF BULK AT MOST 1048576: true; the input reads as it did. -/
def prefixPassesUptoRow : OpenClaim := { program := "ytpoadkogcdfglaa", sum := "7bd4523d612dc8404622f152fdf745f53abbf635beb66b1167e35cbccfc9e0df", func := "spiritlevel/spiritlevellaw32.PrefixPasses", spec := "prefixPasses", unfollowed := true, recurses := true, plainKeys := false, apart := false, narrowed := true }
def PrefixPassesUptoSaid : Prop := prefixPassesUptoRow.holds Try.pinned (OpenSpec.upto prefixPassesSpec)

/-- 'spiritlevellaw32.PrefixNames', WHERE WHAT IT READS IS OF BULK AT MOST 1048576: true; the input reads as it did. -/
def prefixNamesUptoRow : OpenClaim := { program := "ytpoadkogcdfglaa", sum := "7bd4523d612dc8404622f152fdf745f53abbf635beb66b1167e35cbccfc9e0df", func := "spiritlevel/spiritlevellaw32.PrefixNames", spec := "prefixNames", unfollowed := true, recurses := true, plainKeys := false, apart := false, narrowed := true }
def PrefixNamesUptoSaid : Prop := prefixNamesUptoRow.holds Try.pinned (OpenSpec.upto prefixNamesSpec)

/-- 'spiritlevellaw32.PrefixVerdict', WHERE WHAT IT READS IS OF BULK AT MOST 1048576: true; the input reads as it did. -/
def prefixVerdictUptoRow : OpenClaim := { program := "ytpoadkogcdfglaa", sum := "7bd4523d612dc8404622f152fdf745f53abbf635beb66b1167e35cbccfc9e0df", func := "spiritlevel/spiritlevellaw32.PrefixVerdict", spec := "prefixVerdict", unfollowed := true, recurses := true, plainKeys := false, apart := false, narrowed := true }
def PrefixVerdictUptoSaid : Prop := prefixVerdictUptoRow.holds Try.pinned (OpenSpec.upto prefixVerdictSpec)

/-- 'spiritlevellaw32.PrefixLater', WHERE WHAT IT READS IS OF BULK AT MOST 1048576: true; the input reads as it did. -/
def prefixLaterUptoRow : OpenClaim := { program := "ytpoadkogcdfglaa", sum := "7bd4523d612dc8404622f152fdf745f53abbf635beb66b1167e35cbccfc9e0df", func := "spiritlevel/spiritlevellaw32.PrefixLater", spec := "prefixLater", unfollowed := true, recurses := true, plainKeys := false, apart := false, narrowed := true }
def PrefixLaterUptoSaid : Prop := prefixLaterUptoRow.holds Try.pinned (OpenSpec.upto prefixLaterSpec)

/-- 'spiritlevellaw32.PrefixFirst', WHERE WHAT IT READS IS OF BULK AT MOST 1048576: true; the input reads as it did. -/
def prefixFirstUptoRow : OpenClaim := { program := "ytpoadkogcdfglaa", sum := "7bd4523d612dc8404622f152fdf745f53abbf635beb66b1167e35cbccfc9e0df", func := "spiritlevel/spiritlevellaw32.PrefixFirst", spec := "prefixFirst", unfollowed := true, recurses := true, plainKeys := false, apart := false, narrowed := true }
def PrefixFirstUptoSaid : Prop := prefixFirstUptoRow.holds Try.pinned (OpenSpec.upto prefixFirstSpec)

end Rows
end Go.Proofs.Ytpoadkogcdfglaa
