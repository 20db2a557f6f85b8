/- lift.Identity: the lift of a circuit to itself. -/
import Derived.Test.YtiafojcbllbepaaHGates
import Derived.Test.YtiafojcbllbepaaHClone
import Derived.Test.YtiafojcbllbepaaHLift1
import Derived.Deep.RegionHeld3
namespace Go.Proofs.Ytiafojcbllbepaa.PH
open Go.RowKit Go.Proofs.YtiafojcbllbepaaW.PrintWords Go.Proofs.YtiafojcbllbepaaW.PrintLast
set_option linter.unusedVariables false
set_option linter.unusedSimpArgs false

/-- The first k inputs' literals; the first k latches' literals behind n inputs. -/
def insOf (k : Nat) : List Int := (List.range k).map (fun (i : Nat) => 2 * ((i : Int) + 1))
def lasOf (n : Int) (k : Nat) : List Int := (List.range k).map (fun (i : Nat) => 2 * (n + 1 + (i : Int)))
theorem insOf_len (k : Nat) : (insOf k).length = k := by simp [insOf]
theorem lasOf_len (n : Int) (k : Nat) : (lasOf n k).length = k := by simp [lasOf]
theorem insOf_succ (k : Nat) : insOf (k + 1) = insOf k ++ [2 * ((k : Int) + 1)] := by simp [insOf, List.range_succ]
theorem lasOf_succ (n : Int) (k : Nat) : lasOf n (k + 1) = lasOf n k ++ [2 * (n + 1 + (k : Int))] := by simp [lasOf, List.range_succ]
def idOf (c : Circ) : Lf := ⟨0, 1, lasOf c.f0 c.f1.length, [insOf c.f0.toNat], lasOf c.f0 c.f1.length, ⟨[], 1⟩⟩
def zeroL : Lf := ⟨0, 0, [], [], [], ⟨[], 0⟩⟩
/-- A block of seven cells: what is read there, and that it may be written. -/
theorem blk7 {w : World} {g : Nat} {t : TypeId} {v0 v1 v2 v3 v4 v5 v6 : Value} (h : w.heap[g]? = some (.cells #[v0, v1, v2, v3, v4, v5, v6] t (0, 0))) :
    (w.cell? ⟨g, 0, none⟩ = some v0 ∧ w.cell? ⟨g, 1, none⟩ = some v1 ∧ w.cell? ⟨g, 2, none⟩ = some v2 ∧ w.cell? ⟨g, 3, none⟩ = some v3 ∧ w.cell? ⟨g, 4, none⟩ = some v4 ∧ w.cell? ⟨g, 5, none⟩ = some v5 ∧ w.cell? ⟨g, 6, none⟩ = some v6) ∧
    (w.frozen? ⟨g, 0, none⟩ = false ∧ w.frozen? ⟨g, 1, none⟩ = false ∧ w.frozen? ⟨g, 2, none⟩ = false ∧ w.frozen? ⟨g, 3, none⟩ = false ∧ w.frozen? ⟨g, 4, none⟩ = false ∧ w.frozen? ⟨g, 5, none⟩ = false ∧ w.frozen? ⟨g, 6, none⟩ = false) :=
  ⟨⟨(blk_cell h 0).trans rfl, (blk_cell h 1).trans rfl, (blk_cell h 2).trans rfl, (blk_cell h 3).trans rfl, (blk_cell h 4).trans rfl, (blk_cell h 5).trans rfl, (blk_cell h 6).trans rfl⟩, blk_frozen h 0, blk_frozen h 1, blk_frozen h 2, blk_frozen h 3, blk_frozen h 4, blk_frozen h 5, blk_frozen h 6⟩
theorem blk5 {w : World} {g : Nat} {t : TypeId} {v0 v1 v2 v3 v4 : Value} (h : w.heap[g]? = some (.cells #[v0, v1, v2, v3, v4] t (0, 0))) :
    w.cell? ⟨g, 0, none⟩ = some v0 ∧ w.cell? ⟨g, 1, none⟩ = some v1 ∧ w.cell? ⟨g, 2, none⟩ = some v2 ∧ w.cell? ⟨g, 3, none⟩ = some v3 ∧ w.cell? ⟨g, 4, none⟩ = some v4 :=
  ⟨(blk_cell h 0).trans rfl, (blk_cell h 1).trans rfl, (blk_cell h 2).trans rfl, (blk_cell h 3).trans rfl, (blk_cell h 4).trans rfl⟩
/-- A block of seven cells, written anew. -/
theorem blk7_set {w : World} {g : Nat} {t : TypeId} {v0 v1 v2 v3 v4 v5 v6 : Value} (h : w.heap[g]? = some (.cells #[v0, v1, v2, v3, v4, v5, v6] t (0, 0))) (u0 u1 u2 u3 u4 u5 u6 : Value) :
    (((((((w.setCell ⟨g, 0, none⟩ u0).setCell ⟨g, 1, none⟩ u1).setCell ⟨g, 2, none⟩ u2).setCell ⟨g, 3, none⟩ u3).setCell ⟨g, 4, none⟩ u4).setCell ⟨g, 5, none⟩ u5).setCell ⟨g, 6, none⟩ u6).heap[g]? = some (.cells #[u0, u1, u2, u3, u4, u5, u6] t (0, 0)) :=
  by simpa using blk_set (blk_set (blk_set (blk_set (blk_set (blk_set (blk_set h 0 u0) 1 u1) 2 u2) 3 u3) 4 u4) 5 u5) 6 u6
theorem below7 {w W : World} {g : Nat} (h : Below w.heap.size w W) (hg : w.heap.size ≤ g) (u0 u1 u2 u3 u4 u5 u6 : Value) :
    Below w.heap.size w (((((((W.setCell ⟨g, 0, none⟩ u0).setCell ⟨g, 1, none⟩ u1).setCell ⟨g, 2, none⟩ u2).setCell ⟨g, 3, none⟩ u3).setCell ⟨g, 4, none⟩ u4).setCell ⟨g, 5, none⟩ u5).setCell ⟨g, 6, none⟩ u6) :=
  below_set (below_set (below_set (below_set (below_set (below_set (below_set h hg) hg) hg) hg) hg) hg) hg
theorem far7 {w : World} {g b : Nat} {t : TypeId} {cs : Array Value} (h : w.heap[b]? = some (.cells cs t (0, 0))) (hn : b ≠ g) (u0 u1 u2 u3 u4 u5 u6 : Value) :
    (((((((w.setCell ⟨g, 0, none⟩ u0).setCell ⟨g, 1, none⟩ u1).setCell ⟨g, 2, none⟩ u2).setCell ⟨g, 3, none⟩ u3).setCell ⟨g, 4, none⟩ u4).setCell ⟨g, 5, none⟩ u5).setCell ⟨g, 6, none⟩ u6).heap[b]? = some (.cells cs t (0, 0)) :=
  blk_far (blk_far (blk_far (blk_far (blk_far (blk_far (blk_far h hn _) hn _) hn _) hn _) hn _) hn _) hn _
theorem make_rows (W : World) : (Instr.makeSlice 34 (.int .i64 1) (.int .i64 1)).run Try.prog W = .ok (.slice (some ⟨W.heap.size, 0, none⟩) 1 1) (W.alloc (.cells #[.slice none 0 0] 24)) := by
  obtain ⟨i0, hi, hz⟩ := Option.map_eq_some_iff.1 infoRow
  simp only [Prod.mk.injEq] at hz
  obtain ⟨h0, h1, h2⟩ := hz
  have h := run_make (P := Try.prog) W 34 24 i0 _ Try.underlying34 hi h0 .i64 .i64 1 1 (by omega) (by omega) (by rw [h2]; omega) (by omega)
  rw [h1, show madeCells (Value.slice none 0 0).cells (Int.toNat 1 * 1) = #[Value.slice none 0 0] by kernel_rfl] at h
  exact h
/-- What holds in lift.Identity's loops. -/
structure IdInv (w : World) (p : CP) (c : Circ) (gI gL : Nat) (first lat : Value) (wr : World) (A : Option Addr) (k cap : Nat) : Prop where
  BW : Below w.heap.size w wr
  BC : wr.heap[w.heap.size]? = some (.cells #[.int .i64 c.f0, .slice p.A1 c.f1.length p.c1, .slice p.A2 c.f2.length p.c2, .slice p.A3 c.f3.length p.c3, .slice p.A4 c.f4.length p.c4] 26 (0, 0))
  BR : wr.heap[w.heap.size + 1]? = some (.cells #[.int .i64 0, .int .i64 0, .slice none 0 0, .slice none 0 0, .slice none 0 0, .slice none 0 0, .int .i64 0] 38 (0, 0))
  BL : wr.heap[gL]? = some (.cells #[.int .i64 0, .int .i64 1, first, .slice (some ⟨gI, 0, none⟩) 1 1, lat, .slice none 0 0, .int .i64 1] 38 (0, 0))
  BI : wr.heap[gI]? = some (.cells #[.slice A k cap] 24 (0, 0))
theorem IdInv.grown {w wr w5 : World} {p : CP} {c : Circ} {gI gL : Nat} {f g : Value} {A : Option Addr} {k cap : Nat} (h : IdInv w p c gI gL f g wr A k cap) {base : Nat} {ok : Nat → Prop} {v : Value} {l : List Int}
    (hr : Kd.R (Kd.int .i64) 3 wr base ok v l) (hg : wr.grownBy w5 v.ownBlock) (hb : Below w.heap.size w w5) : IdInv w p c gI gL f g w5 A k cap :=
  ⟨hb, blk_grown h.BC hg (Kd.R_ne hr h.BC (by decide)), blk_grown h.BR hg (Kd.R_ne hr h.BR (by decide)), blk_grown h.BL hg (Kd.R_ne hr h.BL (by decide)), blk_grown h.BI hg (Kd.R_ne hr h.BI (by decide))⟩
theorem IdInv.put {w wr : World} {p : CP} {c : Circ} {gI gL : Nat} {f g : Value} {A A' : Option Addr} {k k' cap cap' : Nat} (h : IdInv w p c gI gL f g wr A k cap) (hI : w.heap.size ≤ gI) :
    IdInv w p c gI gL f g (wr.setCell ⟨gI, 0, none⟩ (.slice A' k' cap')) A' k' cap' :=
  ⟨below_set h.BW hI, blk_far h.BC (blk_ne h.BC h.BI (by decide)) _, blk_far h.BR (blk_ne h.BR h.BI (by decide)) _, blk_far h.BL (blk_ne h.BL h.BI (by decide)) _, by simpa using blk_set h.BI 0 (.slice A' k' cap')⟩
theorem IdInv.drew {w wr : World} {p : CP} {c : Circ} {gI gL : Nat} {f g : Value} {A : Option Addr} {k cap : Nat} (h : IdInv w p c gI gL f g wr A k cap) : IdInv w p c gI gL f g wr.drew A k cap :=
  ⟨below_drew h.BW, h.BC, h.BR, h.BL, h.BI⟩
theorem IdInv.putF {w wr : World} {p : CP} {c : Circ} {gI gL : Nat} {f g : Value} {A : Option Addr} {k cap : Nat} (h : IdInv w p c gI gL f g wr A k cap) (hL : w.heap.size + 1 < gL) (f' : Value) :
    IdInv w p c gI gL f' g (wr.setCell ⟨gL, 2, none⟩ f') A k cap :=
  ⟨below_set h.BW (by omega), blk_far h.BC (show w.heap.size ≠ gL by omega) _, blk_far h.BR (show w.heap.size + 1 ≠ gL by omega) _, by simpa using blk_set h.BL 2 f', blk_far h.BI (blk_ne h.BI h.BL (by decide)) _⟩
theorem IdInv.below {w wr w5 : World} {p : CP} {c : Circ} {gI gL : Nat} {f g : Value} {A : Option Addr} {k cap : Nat} (h : IdInv w p c gI gL f g wr A k cap) (hb : Below wr.heap.size wr w5) : IdInv w p c gI gL f g w5 A k cap :=
  ⟨h.BW.trans (hb.mono h.BW.size), blk_below h.BC hb, blk_below h.BR hb, blk_below h.BL hb, blk_below h.BI hb⟩
theorem R7 {α : Type} {d : Kd α} {e base : Nat} {w : World} {ok : Nat → Prop} {v : Value} {xs : List α} (h : d.R e w base ok v xs) {g t : Nat} {cs : Array Value} (hb : w.heap[g]? = some (.cells cs t (0, 0))) (ht : ∀ q, q ∈ e :: d.E → q ≠ t) (u0 u1 u2 u3 u4 u5 u6 : Value) :
    d.R e (((((((w.setCell ⟨g, 0, none⟩ u0).setCell ⟨g, 1, none⟩ u1).setCell ⟨g, 2, none⟩ u2).setCell ⟨g, 3, none⟩ u3).setCell ⟨g, 4, none⟩ u4).setCell ⟨g, 5, none⟩ u5).setCell ⟨g, 6, none⟩ u6) base ok v xs :=
  have b0 := blk_set hb 0 u0
  have b1 := blk_set b0 1 u1
  have b2 := blk_set b1 2 u2
  have b3 := blk_set b2 3 u3
  have b4 := blk_set b3 4 u4
  have b5 := blk_set b4 5 u5
  Kd.R_set (Kd.R_set (Kd.R_set (Kd.R_set (Kd.R_set (Kd.R_set (Kd.R_set h hb ht 0 u0) b0 ht 1 u1) b1 ht 2 u2) b2 ht 3 u3) b3 ht 4 u4) b4 ht 5 u5) b5 ht 6 u6
/-- One row, in a block of its own. -/
theorem RS.one_row {w : World} {g : Nat} {A : Option Addr} {n cap : Nat} {l : List Int} {t : Nat} (h : w.heap[g]? = some (.cells #[.slice A n cap] t (0, 0))) (hn : n = l.length) (hr : RS (Kd.int .i64) w A cap l) : RS (Kd.slice 3 (Kd.int .i64)) w (some ⟨g, 0, none⟩) 1 [l] :=
  RS.row (by simp) (by simp) (fun j p hj => by
    cases j with
    | zero =>
      have e : l = p := by simpa using hj
      subst e
      exact ⟨[.slice A l.length cap], rfl, ⟨A, cap, rfl, hr.h, hr.r⟩, fun i u hu => by
        cases i with
        | zero => have e : Value.slice A l.length cap = u := by simpa using hu
                  rw [← e, ← hn]; simpa using (blk_cell h 0).trans rfl
        | succ i => simp at hu⟩
    | succ j => simp at hj)
theorem IdInv.putL {w wr : World} {p : CP} {c : Circ} {gI gL : Nat} {f g : Value} {A : Option Addr} {k cap : Nat} (h : IdInv w p c gI gL f g wr A k cap) (hL : w.heap.size + 1 < gL) (g' : Value) :
    IdInv w p c gI gL f g' (wr.setCell ⟨gL, 4, none⟩ g') A k cap :=
  ⟨below_set h.BW (by omega), blk_far h.BC (show w.heap.size ≠ gL by omega) _, blk_far h.BR (show w.heap.size + 1 ≠ gL by omega) _, by simpa using blk_set h.BL 4 g', blk_far h.BI (blk_ne h.BI h.BL (by decide)) _⟩
/-- Of two rows that lie apart the one grows: the other is as it was, and they still lie apart. -/
theorem R_apart {α : Type} {d : Kd α} {e base : Nat} {W w1 : World} {u v v1 : Value} {ys : List α} (hu : d.R e W base (fun j => some j ≠ v.ownBlock) u ys) (hg : W.grownBy w1 v.ownBlock) (hat : v1.ownBlock = v.ownBlock ∨ ∃ b, v1.ownBlock = some b ∧ W.heap.size ≤ b) :
    d.R e w1 base (fun j => some j ≠ v1.ownBlock) u ys :=
  Kd.R_mono (Kd.R_grown (Kd.R_bound hu) hg (fun j h => h.1)) (fun j h => by
    rcases hat with e | ⟨b, e, hb⟩
    · rw [e]; exact h.1
    · rw [e]; intro e2; cases e2; have := h.2.2.1; omega)
def RetL (w w' : World) (l : Lf) (n : Int) (e : Ending) : Prop := ∃ p, e = .returned (.tuple #[lv p l, .int .i64 n]) ∧ RL w' p l ∧ Below w.heap.size w w'
/-- lift.Identity. -/
def identity (c : Circ) : Lf := if check c = 0 then idOf c else zeroL
end Go.Proofs.Ytiafojcbllbepaa.PH
