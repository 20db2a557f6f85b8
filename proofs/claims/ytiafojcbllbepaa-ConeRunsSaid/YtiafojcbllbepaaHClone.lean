/- slices.Clone at []int. -/
import Derived.Test.YtiafojcbllbepaaHBase
namespace Go.Proofs.Ytiafojcbllbepaa.PH
open Go.RowKit Go.Proofs.YtiafojcbllbepaaW.PrintWords
set_option linter.unusedVariables false
set_option linter.unusedSimpArgs false

theorem infoInt : (Try.prog.info? 3).map (fun i => (i.zero, i.size, i.bytes)) = some (some (.int .i64 0), 1, 8) := by kernel_rfl
theorem infoRow : (Try.prog.info? 24).map (fun i => (i.zero, i.size, i.bytes)) = some (some (.slice none 0 0), 1, 24) := by kernel_rfl
/-- A new row of its own comes back that reads as l. -/
def RetR {α : Type} (d : Kd α) (t : Nat) (w w' : World) (l : List α) (e : Ending) : Prop := ∃ A c, e = .returned (.slice A l.length c) ∧ d.R t w' w.heap.size (fun _ => True) (.slice A l.length c) l ∧ Below w.heap.size w w'
end Go.Proofs.Ytiafojcbllbepaa.PH
