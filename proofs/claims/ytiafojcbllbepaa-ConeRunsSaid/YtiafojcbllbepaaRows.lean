/-
  No cell of these rows narrows 'for every input' (looked for: loops, veiled, ifaces, maps, wideKeys, modest, calm, conditions, laid).
  DERIVED. THE GIVEN ROWS OF THIS SEAT. 5 by the template 'for every input the law returns true; each argument reads behind the call as it read before'; 0 by the template 'total and deterministic' (their statements: YtiafojcbllbepaaTotals.lean).
  GIVEN WITH THE SEED: the statements are not yours to turn. If you find one false, say at which input.
  Laid BY PROGRAM, IN A SANDBOX (cutbox-rows.mjs): the forced cells as the released guide's own fill.sh prints them over the translation 2fa3aaf3a55b76d3… (all of the seat's roots in one cut). By AI agents, Wed Nov 11 2026. No macro, syntax, notation, axiom, sorry.
-/
import Derived.Test.YtiafojcbllbepaaChecked
import GoSem.Claim
import GoSem.ClaimJoined
import GoSem.ClaimMapViews
import Derived.JoinedTies
import Derived.KernelRfl
namespace Go.Proofs.Ytiafojcbllbepaa
/- THE CELL 'sum', in the pinned program and in every row, IS THE sha256 OF THE DUMP (.gsa) THAT YtiafojcbllbepaaProg.lean LOADS. Nothing in Lean hashes anything: it is a label: what it is worth is what the hold of that sum in a sandbox is worth. -/
noncomputable def Try.pinned : Pinned := { name := "ytiafojcbllbepaa", sum := "2fa3aaf3a55b76d3c589d595160e95f2fc6f3d0171ce54b80817e8f2749efb90", checked := Try.checked }
namespace Rows
def none {H : Type} : Left H := { results := [], args := [] }

/-- 'spiritlevellaw28.ConePasses': WHATEVER THE INPUT: true; the input reads as it did. -/
def conePassesSpec : ChangeSpec := { name := "conePasses", fn := fun _ => fun
  | [d] => { results := [.lit (.bool true)], args := [d] }
  | _ => none }
def conePassesRow : OpenClaim := { program := "ytiafojcbllbepaa", sum := "2fa3aaf3a55b76d3c589d595160e95f2fc6f3d0171ce54b80817e8f2749efb90", func := "spiritlevel/spiritlevellaw28.ConePasses", spec := "conePasses", unfollowed := true, recurses := true, apart := false }
def ConePassesSaid : Prop := conePassesRow.holds Try.pinned (OpenSpec.ofChange conePassesSpec)

/-- ITS FALSE NEIGHBOUR: 'it returns false'. Refute it at one input. -/
def conePassesWrong : ChangeSpec := { name := "conePasses", fn := fun _ => fun
  | [d] => { results := [.lit (.bool false)], args := [d] }
  | _ => none }
def ConePassesWrongFalsely : Prop := conePassesRow.holds Try.pinned (OpenSpec.ofChange conePassesWrong)

/-- 'spiritlevellaw28.ConeNames': WHATEVER THE INPUT: true; the input reads as it did. -/
def coneNamesSpec : ChangeSpec := { name := "coneNames", fn := fun _ => fun
  | [] => { results := [.lit (.bool true)], args := [] }
  | _ => none }
def coneNamesRow : OpenClaim := { program := "ytiafojcbllbepaa", sum := "2fa3aaf3a55b76d3c589d595160e95f2fc6f3d0171ce54b80817e8f2749efb90", func := "spiritlevel/spiritlevellaw28.ConeNames", spec := "coneNames", unfollowed := true, recurses := true, apart := false }
def ConeNamesSaid : Prop := coneNamesRow.holds Try.pinned (OpenSpec.ofChange coneNamesSpec)

/-- ITS FALSE NEIGHBOUR: 'it returns false'. Refute it at one input. -/
def coneNamesWrong : ChangeSpec := { name := "coneNames", fn := fun _ => fun
  | [] => { results := [.lit (.bool false)], args := [] }
  | _ => none }
def ConeNamesWrongFalsely : Prop := coneNamesRow.holds Try.pinned (OpenSpec.ofChange coneNamesWrong)

/-- 'spiritlevellaw28.ConeRest': WHATEVER THE INPUT: true; the input reads as it did. -/
def coneRestSpec : ChangeSpec := { name := "coneRest", fn := fun _ => fun
  | [d1, d2, d3, d4] => { results := [.lit (.bool true)], args := [d1, d2, d3, d4] }
  | _ => none }
def coneRestRow : OpenClaim := { program := "ytiafojcbllbepaa", sum := "2fa3aaf3a55b76d3c589d595160e95f2fc6f3d0171ce54b80817e8f2749efb90", func := "spiritlevel/spiritlevellaw28.ConeRest", spec := "coneRest", unfollowed := true, recurses := true, apart := false }
def ConeRestSaid : Prop := coneRestRow.holds Try.pinned (OpenSpec.ofChange coneRestSpec)

/-- ITS FALSE NEIGHBOUR: 'it returns false'. Refute it at one input. -/
def coneRestWrong : ChangeSpec := { name := "coneRest", fn := fun _ => fun
  | [d1, d2, d3, d4] => { results := [.lit (.bool false)], args := [d1, d2, d3, d4] }
  | _ => none }
def ConeRestWrongFalsely : Prop := coneRestRow.holds Try.pinned (OpenSpec.ofChange coneRestWrong)

/-- 'spiritlevellaw28.ConeAll': WHATEVER THE INPUT: true; the input reads as it did. -/
def coneAllSpec : ChangeSpec := { name := "coneAll", fn := fun _ => fun
  | [d] => { results := [.lit (.bool true)], args := [d] }
  | _ => none }
def coneAllRow : OpenClaim := { program := "ytiafojcbllbepaa", sum := "2fa3aaf3a55b76d3c589d595160e95f2fc6f3d0171ce54b80817e8f2749efb90", func := "spiritlevel/spiritlevellaw28.ConeAll", spec := "coneAll", unfollowed := true, recurses := true, apart := false }
def ConeAllSaid : Prop := coneAllRow.holds Try.pinned (OpenSpec.ofChange coneAllSpec)

/-- ITS FALSE NEIGHBOUR: 'it returns false'. Refute it at one input. -/
def coneAllWrong : ChangeSpec := { name := "coneAll", fn := fun _ => fun
  | [d] => { results := [.lit (.bool false)], args := [d] }
  | _ => none }
def ConeAllWrongFalsely : Prop := coneAllRow.holds Try.pinned (OpenSpec.ofChange coneAllWrong)

/-- 'spiritlevellaw28.ConeRuns': WHATEVER THE INPUT: true; the input reads as it did. -/
def coneRunsSpec : ChangeSpec := { name := "coneRuns", fn := fun _ => fun
  | [d1, d2] => { results := [.lit (.bool true)], args := [d1, d2] }
  | _ => none }
def coneRunsRow : OpenClaim := { program := "ytiafojcbllbepaa", sum := "2fa3aaf3a55b76d3c589d595160e95f2fc6f3d0171ce54b80817e8f2749efb90", func := "spiritlevel/spiritlevellaw28.ConeRuns", spec := "coneRuns", unfollowed := true, recurses := true, apart := false }
def ConeRunsSaid : Prop := coneRunsRow.holds Try.pinned (OpenSpec.ofChange coneRunsSpec)

/-- ITS FALSE NEIGHBOUR: 'it returns false'. Refute it at one input. -/
def coneRunsWrong : ChangeSpec := { name := "coneRuns", fn := fun _ => fun
  | [d1, d2] => { results := [.lit (.bool false)], args := [d1, d2] }
  | _ => none }
def ConeRunsWrongFalsely : Prop := coneRunsRow.holds Try.pinned (OpenSpec.ofChange coneRunsWrong)

/- THE SECOND FORM. 'bulk': how many values and letters a reading holds, each counted each time it is reached (what is shared counts as often as it is met; a slice's spare places count too). A statement '..UptoSaid' is the law's where the arguments, and the package variables that the reading takes, are together of bulk at most 1048576: NARROWER than '..Said'. Prove '..Said' where nothing that the law and all that it calls make is longer than what came in: it says more and counts as full. Else prove '..UptoSaid'. A law counts once. -/
mutual
def uptoBulk {H : Type} : DataW H → Nat
  | .lit (.string bytes) => bytes.length + 1
  | .lit _ => 1
  | .nil => 1
  | .ptr d => uptoBulk d + 1
  | .slice elems spare => uptoBulkAll elems + uptoBulkAll spare + 1
  | .agg parts => uptoBulkAll parts + 1
  | .iface _ d => uptoBulk d + 1
  | .map entries => uptoBulkEntries entries + 1
  | .held _ => 1
def uptoBulkAll {H : Type} : List (DataW H) → Nat
  | [] => 0
  | d :: r => uptoBulk d + uptoBulkAll r
def uptoBulkEntries {H : Type} : List (Lit × DataW H) → Nat
  | [] => 0
  | x :: r => uptoBulkEntry x + uptoBulkEntries r
def uptoBulkEntry {H : Type} : Lit × DataW H → Nat
  | (.string bytes, d) => bytes.length + uptoBulk d + 1
  | (_, d) => uptoBulk d + 1
 end
def uptoSmall : (H : Type) → List (DataW H) → Bool := fun _ ds => decide (uptoBulkAll ds ≤ 1048576)
def OpenSpec.upto (s : _root_.Go.ChangeSpec) : _root_.Go.OpenSpec := { _root_.Go.OpenSpec.ofChange s with cond := some uptoSmall }

/-- 'spiritlevellaw28.ConePasses', WHERE WHAT IT READS IS OF BULK AT MOST 1048576: true; the input reads as it did. -/
def conePassesUptoRow : OpenClaim := { program := "ytiafojcbllbepaa", sum := "2fa3aaf3a55b76d3c589d595160e95f2fc6f3d0171ce54b80817e8f2749efb90", func := "spiritlevel/spiritlevellaw28.ConePasses", spec := "conePasses", unfollowed := true, recurses := true, apart := false, narrowed := true }
def ConePassesUptoSaid : Prop := conePassesUptoRow.holds Try.pinned (OpenSpec.upto conePassesSpec)

/-- 'spiritlevellaw28.ConeNames', WHERE WHAT IT READS IS OF BULK AT MOST 1048576: true; the input reads as it did. -/
def coneNamesUptoRow : OpenClaim := { program := "ytiafojcbllbepaa", sum := "2fa3aaf3a55b76d3c589d595160e95f2fc6f3d0171ce54b80817e8f2749efb90", func := "spiritlevel/spiritlevellaw28.ConeNames", spec := "coneNames", unfollowed := true, recurses := true, apart := false, narrowed := true }
def ConeNamesUptoSaid : Prop := coneNamesUptoRow.holds Try.pinned (OpenSpec.upto coneNamesSpec)

/-- 'spiritlevellaw28.ConeRest', WHERE WHAT IT READS IS OF BULK AT MOST 1048576: true; the input reads as it did. -/
def coneRestUptoRow : OpenClaim := { program := "ytiafojcbllbepaa", sum := "2fa3aaf3a55b76d3c589d595160e95f2fc6f3d0171ce54b80817e8f2749efb90", func := "spiritlevel/spiritlevellaw28.ConeRest", spec := "coneRest", unfollowed := true, recurses := true, apart := false, narrowed := true }
def ConeRestUptoSaid : Prop := coneRestUptoRow.holds Try.pinned (OpenSpec.upto coneRestSpec)

/-- 'spiritlevellaw28.ConeAll', WHERE WHAT IT READS IS OF BULK AT MOST 1048576: true; the input reads as it did. -/
def coneAllUptoRow : OpenClaim := { program := "ytiafojcbllbepaa", sum := "2fa3aaf3a55b76d3c589d595160e95f2fc6f3d0171ce54b80817e8f2749efb90", func := "spiritlevel/spiritlevellaw28.ConeAll", spec := "coneAll", unfollowed := true, recurses := true, apart := false, narrowed := true }
def ConeAllUptoSaid : Prop := coneAllUptoRow.holds Try.pinned (OpenSpec.upto coneAllSpec)

/-- 'spiritlevellaw28.ConeRuns', WHERE WHAT IT READS IS OF BULK AT MOST 1048576: true; the input reads as it did. -/
def coneRunsUptoRow : OpenClaim := { program := "ytiafojcbllbepaa", sum := "2fa3aaf3a55b76d3c589d595160e95f2fc6f3d0171ce54b80817e8f2749efb90", func := "spiritlevel/spiritlevellaw28.ConeRuns", spec := "coneRuns", unfollowed := true, recurses := true, apart := false, narrowed := true }
def ConeRunsUptoSaid : Prop := coneRunsUptoRow.holds Try.pinned (OpenSpec.upto coneRunsSpec)

end Rows
end Go.Proofs.Ytiafojcbllbepaa
