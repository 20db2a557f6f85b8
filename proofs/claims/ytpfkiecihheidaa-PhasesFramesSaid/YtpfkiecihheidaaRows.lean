/-
  No cell of these rows narrows 'for every input' (looked for: loops, veiled, ifaces, maps, wideKeys, modest, calm, conditions, laid).
  DERIVED. THE GIVEN ROWS OF THIS SEAT. 5 by the template 'for every input the law returns true; each argument reads behind the call as it read before'; 0 by the template 'total and deterministic' (their statements: YtpfkiecihheidaaTotals.lean).
  GIVEN WITH THE SEED: the statements are not yours to turn. If you find one false, say at which input.
  Laid BY PROGRAM, IN A SANDBOX (cutbox-rows.mjs): the forced cells as the released guide's own fill.sh prints them over the translation 9897d3b92d8fef30… (all of the seat's roots in one cut). By AI agents, Wed Nov 11 2026. No macro, syntax, notation, axiom, sorry.
-/
import Derived.Test.YtpfkiecihheidaaChecked
import GoSem.Claim
import GoSem.ClaimJoined
import GoSem.ClaimMapViews
import Derived.JoinedTies
import Derived.KernelRfl
namespace Go.Proofs.Ytpfkiecihheidaa
/- THE CELL 'sum', in the pinned program and in every row, IS THE sha256 OF THE DUMP (.gsa) THAT YtpfkiecihheidaaProg.lean LOADS. Nothing in Lean hashes anything: it is a label: what it is worth is what the hold of that sum in a sandbox is worth. -/
noncomputable def Try.pinned : Pinned := { name := "ytpfkiecihheidaa", sum := "9897d3b92d8fef30aeaa475f1904a89eadc94724d5262d276c7edcfc14f32ca7", checked := Try.checked }
namespace Rows
def none {H : Type} : Left H := { results := [], args := [] }

/-- 'spiritlevellaw33.PhasesPasses': WHATEVER THE INPUT: true; the input reads as it did. -/
def phasesPassesSpec : ChangeSpec := { name := "phasesPasses", fn := fun _ => fun
  | [d1, d2] => { results := [.lit (.bool true)], args := [d1, d2] }
  | _ => none }
def phasesPassesRow : OpenClaim := { program := "ytpfkiecihheidaa", sum := "9897d3b92d8fef30aeaa475f1904a89eadc94724d5262d276c7edcfc14f32ca7", func := "spiritlevel/spiritlevellaw33.PhasesPasses", spec := "phasesPasses", unfollowed := true, recurses := true, plainKeys := false, apart := false }
def PhasesPassesSaid : Prop := phasesPassesRow.holds Try.pinned (OpenSpec.ofChange phasesPassesSpec)

/-- ITS FALSE NEIGHBOUR: 'it returns false'. Refute it at one input. -/
def phasesPassesWrong : ChangeSpec := { name := "phasesPasses", fn := fun _ => fun
  | [d1, d2] => { results := [.lit (.bool false)], args := [d1, d2] }
  | _ => none }
def PhasesPassesWrongFalsely : Prop := phasesPassesRow.holds Try.pinned (OpenSpec.ofChange phasesPassesWrong)

/-- 'spiritlevellaw33.PhasesNames': WHATEVER THE INPUT: true; the input reads as it did. -/
def phasesNamesSpec : ChangeSpec := { name := "phasesNames", fn := fun _ => fun
  | [] => { results := [.lit (.bool true)], args := [] }
  | _ => none }
def phasesNamesRow : OpenClaim := { program := "ytpfkiecihheidaa", sum := "9897d3b92d8fef30aeaa475f1904a89eadc94724d5262d276c7edcfc14f32ca7", func := "spiritlevel/spiritlevellaw33.PhasesNames", spec := "phasesNames", unfollowed := true, recurses := true, plainKeys := false, apart := false }
def PhasesNamesSaid : Prop := phasesNamesRow.holds Try.pinned (OpenSpec.ofChange phasesNamesSpec)

/-- ITS FALSE NEIGHBOUR: 'it returns false'. Refute it at one input. -/
def phasesNamesWrong : ChangeSpec := { name := "phasesNames", fn := fun _ => fun
  | [] => { results := [.lit (.bool false)], args := [] }
  | _ => none }
def PhasesNamesWrongFalsely : Prop := phasesNamesRow.holds Try.pinned (OpenSpec.ofChange phasesNamesWrong)

/-- 'spiritlevellaw33.PhasesVerdict': WHATEVER THE INPUT: true; the input reads as it did. -/
def phasesVerdictSpec : ChangeSpec := { name := "phasesVerdict", fn := fun _ => fun
  | [d1, d2] => { results := [.lit (.bool true)], args := [d1, d2] }
  | _ => none }
def phasesVerdictRow : OpenClaim := { program := "ytpfkiecihheidaa", sum := "9897d3b92d8fef30aeaa475f1904a89eadc94724d5262d276c7edcfc14f32ca7", func := "spiritlevel/spiritlevellaw33.PhasesVerdict", spec := "phasesVerdict", unfollowed := true, recurses := true, plainKeys := false, apart := false }
def PhasesVerdictSaid : Prop := phasesVerdictRow.holds Try.pinned (OpenSpec.ofChange phasesVerdictSpec)

/-- ITS FALSE NEIGHBOUR: 'it returns false'. Refute it at one input. -/
def phasesVerdictWrong : ChangeSpec := { name := "phasesVerdict", fn := fun _ => fun
  | [d1, d2] => { results := [.lit (.bool false)], args := [d1, d2] }
  | _ => none }
def PhasesVerdictWrongFalsely : Prop := phasesVerdictRow.holds Try.pinned (OpenSpec.ofChange phasesVerdictWrong)

/-- 'spiritlevellaw33.PhasesFrames': WHATEVER THE INPUT: true; the input reads as it did. -/
def phasesFramesSpec : ChangeSpec := { name := "phasesFrames", fn := fun _ => fun
  | [d1, d2, d3, d4] => { results := [.lit (.bool true)], args := [d1, d2, d3, d4] }
  | _ => none }
def phasesFramesRow : OpenClaim := { program := "ytpfkiecihheidaa", sum := "9897d3b92d8fef30aeaa475f1904a89eadc94724d5262d276c7edcfc14f32ca7", func := "spiritlevel/spiritlevellaw33.PhasesFrames", spec := "phasesFrames", unfollowed := true, recurses := true, plainKeys := false, apart := false }
def PhasesFramesSaid : Prop := phasesFramesRow.holds Try.pinned (OpenSpec.ofChange phasesFramesSpec)

/-- ITS FALSE NEIGHBOUR: 'it returns false'. Refute it at one input. -/
def phasesFramesWrong : ChangeSpec := { name := "phasesFrames", fn := fun _ => fun
  | [d1, d2, d3, d4] => { results := [.lit (.bool false)], args := [d1, d2, d3, d4] }
  | _ => none }
def PhasesFramesWrongFalsely : Prop := phasesFramesRow.holds Try.pinned (OpenSpec.ofChange phasesFramesWrong)

/-- 'spiritlevellaw33.PhasesTwo': WHATEVER THE INPUT: true; the input reads as it did. -/
def phasesTwoSpec : ChangeSpec := { name := "phasesTwo", fn := fun _ => fun
  | [d1, d2] => { results := [.lit (.bool true)], args := [d1, d2] }
  | _ => none }
def phasesTwoRow : OpenClaim := { program := "ytpfkiecihheidaa", sum := "9897d3b92d8fef30aeaa475f1904a89eadc94724d5262d276c7edcfc14f32ca7", func := "spiritlevel/spiritlevellaw33.PhasesTwo", spec := "phasesTwo", unfollowed := true, recurses := true, plainKeys := false, apart := false }
def PhasesTwoSaid : Prop := phasesTwoRow.holds Try.pinned (OpenSpec.ofChange phasesTwoSpec)

/-- ITS FALSE NEIGHBOUR: 'it returns false'. Refute it at one input. -/
def phasesTwoWrong : ChangeSpec := { name := "phasesTwo", fn := fun _ => fun
  | [d1, d2] => { results := [.lit (.bool false)], args := [d1, d2] }
  | _ => none }
def PhasesTwoWrongFalsely : Prop := phasesTwoRow.holds Try.pinned (OpenSpec.ofChange phasesTwoWrong)

/- THE SECOND FORM. 'bulk': how many values and letters a reading holds, each counted each time it is reached (what is shared counts as often as it is met; a slice's spare places count too). A statement '..UptoSaid' is the law's where the arguments, and the package variables that the reading takes, are together of bulk at most 1048576: NARROWER than '..Said'. Prove '..Said' where nothing that the law and all that it calls make is longer than what came in: it says more and counts as full. Else prove '..UptoSaid'. A law counts once. -/
mutual
def uptoBulk {H : Type} : DataW H → Nat
  | .lit (.string bytes) => bytes.length + 1
  | .lit _ => 1
  | .nil => 1
  | .ptr d => uptoBulk d + 1
  | .slice elems spare => uptoBulkAll elems + uptoBulkAll spare + 1
  | .agg parts => uptoBulkAll parts + 1
  | .iface _ d => uptoBulk d + 1
  | .map entries => uptoBulkEntries entries + 1
  | .held _ => 1
def uptoBulkAll {H : Type} : List (DataW H) → Nat
  | [] => 0
  | d :: r => uptoBulk d + uptoBulkAll r
def uptoBulkEntries {H : Type} : List (Lit × DataW H) → Nat
  | [] => 0
  | x :: r => uptoBulkEntry x + uptoBulkEntries r
def uptoBulkEntry {H : Type} : Lit × DataW H → Nat
  | (.string bytes, d) => bytes.length + uptoBulk d + 1
  | (_, d) => uptoBulk d + 1
 end
def uptoSmall : (H : Type) → List (DataW H) → Bool := fun _ ds => decide (uptoBulkAll ds ≤ 1048576)
def OpenSpec.upto (s : _root_.Go.ChangeSpec) : _root_.Go.OpenSpec := { _root_.Go.OpenSpec.ofChange s with cond := some uptoSmall }

/-- 'spiritlevellaw33.PhasesPasses', WHERE WHAT IT READS IS OF BULK AT MOST 1048576: true; the input reads as it did. -/
def phasesPassesUptoRow : OpenClaim := { program := "ytpfkiecihheidaa", sum := "9897d3b92d8fef30aeaa475f1904a89eadc94724d5262d276c7edcfc14f32ca7", func := "spiritlevel/spiritlevellaw33.PhasesPasses", spec := "phasesPasses", unfollowed := true, recurses := true, plainKeys := false, apart := false, narrowed := true }
def PhasesPassesUptoSaid : Prop := phasesPassesUptoRow.holds Try.pinned (OpenSpec.upto phasesPassesSpec)

/-- 'spiritlevellaw33.PhasesNames', WHERE WHAT IT READS IS OF BULK AT MOST 1048576: true; the input reads as it did. -/
def phasesNamesUptoRow : OpenClaim := { program := "ytpfkiecihheidaa", sum := "9897d3b92d8fef30aeaa475f1904a89eadc94724d5262d276c7edcfc14f32ca7", func := "spiritlevel/spiritlevellaw33.PhasesNames", spec := "phasesNames", unfollowed := true, recurses := true, plainKeys := false, apart := false, narrowed := true }
def PhasesNamesUptoSaid : Prop := phasesNamesUptoRow.holds Try.pinned (OpenSpec.upto phasesNamesSpec)

/-- 'spiritlevellaw33.PhasesVerdict', WHERE WHAT IT READS IS OF BULK AT MOST 1048576: true; the input reads as it did. -/
def phasesVerdictUptoRow : OpenClaim := { program := "ytpfkiecihheidaa", sum := "9897d3b92d8fef30aeaa475f1904a89eadc94724d5262d276c7edcfc14f32ca7", func := "spiritlevel/spiritlevellaw33.PhasesVerdict", spec := "phasesVerdict", unfollowed := true, recurses := true, plainKeys := false, apart := false, narrowed := true }
def PhasesVerdictUptoSaid : Prop := phasesVerdictUptoRow.holds Try.pinned (OpenSpec.upto phasesVerdictSpec)

/-- 'spiritlevellaw33.PhasesFrames', WHERE WHAT IT READS IS OF BULK AT MOST 1048576: true; the input reads as it did. -/
def phasesFramesUptoRow : OpenClaim := { program := "ytpfkiecihheidaa", sum := "9897d3b92d8fef30aeaa475f1904a89eadc94724d5262d276c7edcfc14f32ca7", func := "spiritlevel/spiritlevellaw33.PhasesFrames", spec := "phasesFrames", unfollowed := true, recurses := true, plainKeys := false, apart := false, narrowed := true }
def PhasesFramesUptoSaid : Prop := phasesFramesUptoRow.holds Try.pinned (OpenSpec.upto phasesFramesSpec)

/-- 'spiritlevellaw33.PhasesTwo', WHERE WHAT IT READS IS OF BULK AT MOST 1048576: true; the input reads as it did. -/
def phasesTwoUptoRow : OpenClaim := { program := "ytpfkiecihheidaa", sum := "9897d3b92d8fef30aeaa475f1904a89eadc94724d5262d276c7edcfc14f32ca7", func := "spiritlevel/spiritlevellaw33.PhasesTwo", spec := "phasesTwo", unfollowed := true, recurses := true, plainKeys := false, apart := false, narrowed := true }
def PhasesTwoUptoSaid : Prop := phasesTwoUptoRow.holds Try.pinned (OpenSpec.upto phasesTwoSpec)

end Rows
end Go.Proofs.Ytpfkiecihheidaa
