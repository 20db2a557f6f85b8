/- Blocks of five cells (circuits). -/
import Derived.Test.YtpoadkogcdfglaaHBase
import Derived.Test.YtpoadkogcdfglaaWLast
namespace Go.Proofs.Ytpoadkogcdfglaa.PH
open Go.RowKit Go.Proofs.YtpoadkogcdfglaaW.PrintWords Go.Proofs.YtpoadkogcdfglaaW.PrintLast
set_option linter.unusedVariables false
set_option linter.unusedSimpArgs false

/-- A block of five cells: what is read there, and that it may be written. -/
theorem blk5w {w : World} {g : Nat} {t : TypeId} {v0 v1 v2 v3 v4 : Value} (h : w.heap[g]? = some (.cells #[v0, v1, v2, v3, v4] t (0, 0))) :
    (w.cell? ⟨g, 0, none⟩ = some v0 ∧ w.cell? ⟨g, 1, none⟩ = some v1 ∧ w.cell? ⟨g, 2, none⟩ = some v2 ∧ w.cell? ⟨g, 3, none⟩ = some v3 ∧ w.cell? ⟨g, 4, none⟩ = some v4) ∧
    (w.frozen? ⟨g, 0, none⟩ = false ∧ w.frozen? ⟨g, 1, none⟩ = false ∧ w.frozen? ⟨g, 2, none⟩ = false ∧ w.frozen? ⟨g, 3, none⟩ = false ∧ w.frozen? ⟨g, 4, none⟩ = false) :=
  ⟨⟨(blk_cell h 0).trans rfl, (blk_cell h 1).trans rfl, (blk_cell h 2).trans rfl, (blk_cell h 3).trans rfl, (blk_cell h 4).trans rfl⟩, blk_frozen h 0, blk_frozen h 1, blk_frozen h 2, blk_frozen h 3, blk_frozen h 4⟩
theorem blk5_set {w : World} {g : Nat} {t : TypeId} {v0 v1 v2 v3 v4 : Value} (h : w.heap[g]? = some (.cells #[v0, v1, v2, v3, v4] t (0, 0))) (u0 u1 u2 u3 u4 : Value) :
    (((((w.setCell ⟨g, 0, none⟩ u0).setCell ⟨g, 1, none⟩ u1).setCell ⟨g, 2, none⟩ u2).setCell ⟨g, 3, none⟩ u3).setCell ⟨g, 4, none⟩ u4).heap[g]? = some (.cells #[u0, u1, u2, u3, u4] t (0, 0)) :=
  by simpa using blk_set (blk_set (blk_set (blk_set (blk_set h 0 u0) 1 u1) 2 u2) 3 u3) 4 u4
theorem below5 {b : Nat} {w W : World} {g : Nat} (h : Below b w W) (hg : b ≤ g) (u0 u1 u2 u3 u4 : Value) :
    Below b w (((((W.setCell ⟨g, 0, none⟩ u0).setCell ⟨g, 1, none⟩ u1).setCell ⟨g, 2, none⟩ u2).setCell ⟨g, 3, none⟩ u3).setCell ⟨g, 4, none⟩ u4) :=
  Below.setCell (Below.setCell (Below.setCell (Below.setCell (Below.setCell h (p := ⟨g, 0, none⟩) hg _) (p := ⟨g, 1, none⟩) hg _) (p := ⟨g, 2, none⟩) hg _) (p := ⟨g, 3, none⟩) hg _) (p := ⟨g, 4, none⟩) hg _
theorem far5 {w : World} {g b : Nat} {t : TypeId} {cs : Array Value} (h : w.heap[b]? = some (.cells cs t (0, 0))) (hn : b ≠ g) (u0 u1 u2 u3 u4 : Value) :
    (((((w.setCell ⟨g, 0, none⟩ u0).setCell ⟨g, 1, none⟩ u1).setCell ⟨g, 2, none⟩ u2).setCell ⟨g, 3, none⟩ u3).setCell ⟨g, 4, none⟩ u4).heap[b]? = some (.cells cs t (0, 0)) :=
  blk_far (blk_far (blk_far (blk_far (blk_far h hn _) hn _) hn _) hn _) hn _
theorem R5 {α : Type} {d : Kd α} {e base : Nat} {w : World} {ok : Nat → Prop} {v : Value} {xs : List α} (h : d.R e w base ok v xs) {g t : Nat} {cs : Array Value} (hb : w.heap[g]? = some (.cells cs t (0, 0))) (ht : ∀ q, q ∈ e :: d.E → q ≠ t) (u0 u1 u2 u3 u4 : Value) :
    d.R e (((((w.setCell ⟨g, 0, none⟩ u0).setCell ⟨g, 1, none⟩ u1).setCell ⟨g, 2, none⟩ u2).setCell ⟨g, 3, none⟩ u3).setCell ⟨g, 4, none⟩ u4) base ok v xs :=
  have b0 := blk_set hb 0 u0
  have b1 := blk_set b0 1 u1
  have b2 := blk_set b1 2 u2
  have b3 := blk_set b2 3 u3
  Kd.R_set (Kd.R_set (Kd.R_set (Kd.R_set (Kd.R_set h hb ht 0 u0) b0 ht 1 u1) b1 ht 2 u2) b2 ht 3 u3) b3 ht 4 u4
/-- A circuit, a number and an error come back. -/
def RetC (w w' : World) (r : Circ × Int × Int) (e : Ending) : Prop := ∃ p, e = .returned (.tuple #[cv p r.1, .int .i64 r.2.1, .int .i64 r.2.2]) ∧ RC w' p r.1 ∧ Below w.heap.size w w'
def zeroC : Circ := ⟨0, [], [], [], []⟩
theorem RC.zero (w : World) : RC w ⟨none, 0, none, 0, none, 0, none, 0⟩ zeroC := ⟨RS.nil _ _ _, RS.nil _ _ _, RS.nil _ _ _, RS.nil _ _ _⟩
/-- Rows of a circuit that are its own. -/
structure RCo (b : Nat) (w : World) (p : CP) (c : Circ) : Prop where
  s1 : Kd.R kLatch 45 w b (fun _ => True) (.slice p.A1 c.f1.length p.c1) c.f1
  s2 : Kd.R kGate 92 w b (fun _ => True) (.slice p.A2 c.f2.length p.c2) c.f2
  s3 : Kd.R (Kd.int .i64) 3 w b (fun _ => True) (.slice p.A3 c.f3.length p.c3) c.f3
  s4 : Kd.R (Kd.int .i64) 3 w b (fun _ => True) (.slice p.A4 c.f4.length p.c4) c.f4
theorem RCo.five {b : Nat} {w : World} {p : CP} {c : Circ} (h : RCo b w p c) {g : Nat} {cs : Array Value} (hb : w.heap[g]? = some (.cells cs 26 (0, 0))) (u0 u1 u2 u3 u4 : Value) :
    RCo b (((((w.setCell ⟨g, 0, none⟩ u0).setCell ⟨g, 1, none⟩ u1).setCell ⟨g, 2, none⟩ u2).setCell ⟨g, 3, none⟩ u3).setCell ⟨g, 4, none⟩ u4) p c :=
  ⟨R5 h.s1 hb (by decide) _ _ _ _ _, R5 h.s2 hb (by decide) _ _ _ _ _, R5 h.s3 hb (by decide) _ _ _ _ _, R5 h.s4 hb (by decide) _ _ _ _ _⟩
theorem RCo.below {b : Nat} {w w1 : World} {p : CP} {c : Circ} (h : RCo b w p c) (hb : Below w.heap.size w w1) : RCo b w1 p c :=
  ⟨Kd.R_below h.s1 hb, Kd.R_below h.s2 hb, Kd.R_below h.s3 hb, Kd.R_below h.s4 hb⟩
theorem RCo.rc {b : Nat} {w : World} {p : CP} {c : Circ} (h : RCo b w p c) : RC w p c := ⟨RS.of_R' h.s1, RS.of_R' h.s2, RS.of_R' h.s3, RS.of_R' h.s4⟩
end Go.Proofs.Ytpoadkogcdfglaa.PH
