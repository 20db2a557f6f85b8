/- The builder's begin. -/
import Derived.Test.YtpoadkogcdfglaaHBldH
import Derived.Test.YtpoadkogcdfglaaHPhP
import Derived.Deep.RegionHeld3
import Derived.Deep.QuietTactic
import Derived.BigQuiet
namespace Go.Proofs.Ytpoadkogcdfglaa.PH
open Go.RowKit Go.Proofs.YtpoadkogcdfglaaW.PrintWords Go.Proofs.YtpoadkogcdfglaaW.PrintLast
set_option linter.unusedVariables false
set_option linter.unusedSimpArgs false

theorem bKn_nil (n : Int) : (bKn n [] : Gate → Option Int) = fun _ => none := by funext g; unfold bKn; simp
set_option maxHeartbeats 4000000 in
set_option maxRecDepth 100000 in
theorem b_begin {ps : List Pc} {w0 w : World} (S : Parts w0.heap.size w0 w ps) (p : CP) (f : Circ) (inp : Int) (vL : Option Addr × Nat) (nL : Nat) :
    Calls Try.prog 33 #[cv p f, .int .i64 inp, .slice vL.1 nL vL.2] w fun e w' => ∃ gB gM, e = .returned (.pointer (some ⟨gB, 0, none⟩)) ∧ Parts w0.heap.size w0 w' (bPs w0.heap.size gB gM inp nL (fcOf p f) vL (none, 0) [] ++ ps) := by
  replace S := Aside0.mk (S.new 26 #[.int .i64 f.f0, .slice p.A1 f.f1.length p.c1, .slice p.A2 f.f2.length p.c2, .slice p.A3 f.f3.length p.c3, .slice p.A4 f.f4.length p.c4])
  have hu82 := Try.underlying78
  have hu26 := Try.underlying26
  have hmm := @run_makeMap Try.prog
  go_enter Try.func33, Try.ntmps33
  go_wp2
  go_ret
  have S2 := (S.out.made kyGate 3)
  have S3 := S2.new 78 (bCells inp vL (none, 0) nL 0 (fcOf p f) (w.heap.size + 1))
  have S4 := ((S3.nil kGate 92).erase 3).perm (List.Perm.swap _ _ _)
  simp only [World.size_alloc] at S4
  refine ⟨w.heap.size + 1 + 1, w.heap.size + 1, rfl, ?_⟩
  rw [bKn_nil]
  exact S4
end Go.Proofs.Ytpoadkogcdfglaa.PH
