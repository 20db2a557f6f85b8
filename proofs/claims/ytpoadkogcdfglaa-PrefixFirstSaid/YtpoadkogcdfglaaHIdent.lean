/- lift.Identity: the lift of a circuit to itself. -/
import Derived.Test.YtpoadkogcdfglaaHGates
import Derived.Test.YtpoadkogcdfglaaHClone
import Derived.Test.YtpoadkogcdfglaaHLift1
import Derived.Deep.RegionHeld3
namespace Go.Proofs.Ytpoadkogcdfglaa.PH
open Go.RowKit Go.Proofs.YtpoadkogcdfglaaW.PrintWords Go.Proofs.YtpoadkogcdfglaaW.PrintLast
set_option linter.unusedVariables false
set_option linter.unusedSimpArgs false

/-- The first k inputs' literals; the first k latches' literals behind n inputs. -/
def insOf (k : Nat) : List Int := (List.range k).map (fun (i : Nat) => 2 * ((i : Int) + 1))
def lasOf (n : Int) (k : Nat) : List Int := (List.range k).map (fun (i : Nat) => 2 * (n + 1 + (i : Int)))
theorem insOf_len (k : Nat) : (insOf k).length = k := by simp [insOf]
theorem lasOf_len (n : Int) (k : Nat) : (lasOf n k).length = k := by simp [lasOf]
theorem insOf_succ (k : Nat) : insOf (k + 1) = insOf k ++ [2 * ((k : Int) + 1)] := by simp [insOf, List.range_succ]
theorem lasOf_succ (n : Int) (k : Nat) : lasOf n (k + 1) = lasOf n k ++ [2 * (n + 1 + (k : Int))] := by simp [lasOf, List.range_succ]
def idOf (c : Circ) : Lf := ⟨0, 1, lasOf c.f0 c.f1.length, [insOf c.f0.toNat], lasOf c.f0 c.f1.length, ⟨[], 1⟩⟩
def zeroL : Lf := ⟨0, 0, [], [], [], ⟨[], 0⟩⟩
/-- A block of seven cells: what is read there, and that it may be written. -/
theorem blk7 {w : World} {g : Nat} {t : TypeId} {v0 v1 v2 v3 v4 v5 v6 : Value} (h : w.heap[g]? = some (.cells #[v0, v1, v2, v3, v4, v5, v6] t (0, 0))) :
    (w.cell? ⟨g, 0, none⟩ = some v0 ∧ w.cell? ⟨g, 1, none⟩ = some v1 ∧ w.cell? ⟨g, 2, none⟩ = some v2 ∧ w.cell? ⟨g, 3, none⟩ = some v3 ∧ w.cell? ⟨g, 4, none⟩ = some v4 ∧ w.cell? ⟨g, 5, none⟩ = some v5 ∧ w.cell? ⟨g, 6, none⟩ = some v6) ∧
    (w.frozen? ⟨g, 0, none⟩ = false ∧ w.frozen? ⟨g, 1, none⟩ = false ∧ w.frozen? ⟨g, 2, none⟩ = false ∧ w.frozen? ⟨g, 3, none⟩ = false ∧ w.frozen? ⟨g, 4, none⟩ = false ∧ w.frozen? ⟨g, 5, none⟩ = false ∧ w.frozen? ⟨g, 6, none⟩ = false) :=
  ⟨⟨(blk_cell h 0).trans rfl, (blk_cell h 1).trans rfl, (blk_cell h 2).trans rfl, (blk_cell h 3).trans rfl, (blk_cell h 4).trans rfl, (blk_cell h 5).trans rfl, (blk_cell h 6).trans rfl⟩, blk_frozen h 0, blk_frozen h 1, blk_frozen h 2, blk_frozen h 3, blk_frozen h 4, blk_frozen h 5, blk_frozen h 6⟩
theorem blk5 {w : World} {g : Nat} {t : TypeId} {v0 v1 v2 v3 v4 : Value} (h : w.heap[g]? = some (.cells #[v0, v1, v2, v3, v4] t (0, 0))) :
    w.cell? ⟨g, 0, none⟩ = some v0 ∧ w.cell? ⟨g, 1, none⟩ = some v1 ∧ w.cell? ⟨g, 2, none⟩ = some v2 ∧ w.cell? ⟨g, 3, none⟩ = some v3 ∧ w.cell? ⟨g, 4, none⟩ = some v4 :=
  ⟨(blk_cell h 0).trans rfl, (blk_cell h 1).trans rfl, (blk_cell h 2).trans rfl, (blk_cell h 3).trans rfl, (blk_cell h 4).trans rfl⟩
/-- A block of seven cells, written anew. -/
theorem blk7_set {w : World} {g : Nat} {t : TypeId} {v0 v1 v2 v3 v4 v5 v6 : Value} (h : w.heap[g]? = some (.cells #[v0, v1, v2, v3, v4, v5, v6] t (0, 0))) (u0 u1 u2 u3 u4 u5 u6 : Value) :
    (((((((w.setCell ⟨g, 0, none⟩ u0).setCell ⟨g, 1, none⟩ u1).setCell ⟨g, 2, none⟩ u2).setCell ⟨g, 3, none⟩ u3).setCell ⟨g, 4, none⟩ u4).setCell ⟨g, 5, none⟩ u5).setCell ⟨g, 6, none⟩ u6).heap[g]? = some (.cells #[u0, u1, u2, u3, u4, u5, u6] t (0, 0)) :=
  by simpa using blk_set (blk_set (blk_set (blk_set (blk_set (blk_set (blk_set h 0 u0) 1 u1) 2 u2) 3 u3) 4 u4) 5 u5) 6 u6
theorem below7 {w W : World} {g : Nat} (h : Below w.heap.size w W) (hg : w.heap.size ≤ g) (u0 u1 u2 u3 u4 u5 u6 : Value) :
    Below w.heap.size w (((((((W.setCell ⟨g, 0, none⟩ u0).setCell ⟨g, 1, none⟩ u1).setCell ⟨g, 2, none⟩ u2).setCell ⟨g, 3, none⟩ u3).setCell ⟨g, 4, none⟩ u4).setCell ⟨g, 5, none⟩ u5).setCell ⟨g, 6, none⟩ u6) :=
  below_set (below_set (below_set (below_set (below_set (below_set (below_set h hg) hg) hg) hg) hg) hg) hg
theorem far7 {w : World} {g b : Nat} {t : TypeId} {cs : Array Value} (h : w.heap[b]? = some (.cells cs t (0, 0))) (hn : b ≠ g) (u0 u1 u2 u3 u4 u5 u6 : Value) :
    (((((((w.setCell ⟨g, 0, none⟩ u0).setCell ⟨g, 1, none⟩ u1).setCell ⟨g, 2, none⟩ u2).setCell ⟨g, 3, none⟩ u3).setCell ⟨g, 4, none⟩ u4).setCell ⟨g, 5, none⟩ u5).setCell ⟨g, 6, none⟩ u6).heap[b]? = some (.cells cs t (0, 0)) :=
  blk_far (blk_far (blk_far (blk_far (blk_far (blk_far (blk_far h hn _) hn _) hn _) hn _) hn _) hn _) hn _
theorem make_rows (W : World) : (Instr.makeSlice 29 (.int .i64 1) (.int .i64 1)).run Try.prog W = .ok (.slice (some ⟨W.heap.size, 0, none⟩) 1 1) (W.alloc (.cells #[.slice none 0 0] 24)) := by
  obtain ⟨i0, hi, hz⟩ := Option.map_eq_some_iff.1 infoRow
  simp only [Prod.mk.injEq] at hz
  obtain ⟨h0, h1, h2⟩ := hz
  have h := run_make (P := Try.prog) W 29 24 i0 _ Try.underlying29 hi h0 .i64 .i64 1 1 (by omega) (by omega) (by rw [h2]; omega) (by omega)
  rw [h1, show madeCells (Value.slice none 0 0).cells (Int.toNat 1 * 1) = #[Value.slice none 0 0] by kernel_rfl] at h
  exact h
/-- What holds in lift.Identity's loops. -/
structure IdInv (w : World) (p : CP) (c : Circ) (gI gL : Nat) (first lat : Value) (wr : World) (A : Option Addr) (k cap : Nat) : Prop where
  BW : Below w.heap.size w wr
  BC : wr.heap[w.heap.size]? = some (.cells #[.int .i64 c.f0, .slice p.A1 c.f1.length p.c1, .slice p.A2 c.f2.length p.c2, .slice p.A3 c.f3.length p.c3, .slice p.A4 c.f4.length p.c4] 26 (0, 0))
  BR : wr.heap[w.heap.size + 1]? = some (.cells #[.int .i64 0, .int .i64 0, .slice none 0 0, .slice none 0 0, .slice none 0 0, .slice none 0 0, .int .i64 0] 33 (0, 0))
  BL : wr.heap[gL]? = some (.cells #[.int .i64 0, .int .i64 1, first, .slice (some ⟨gI, 0, none⟩) 1 1, lat, .slice none 0 0, .int .i64 1] 33 (0, 0))
  BI : wr.heap[gI]? = some (.cells #[.slice A k cap] 24 (0, 0))
theorem IdInv.grown {w wr w5 : World} {p : CP} {c : Circ} {gI gL : Nat} {f g : Value} {A : Option Addr} {k cap : Nat} (h : IdInv w p c gI gL f g wr A k cap) {base : Nat} {ok : Nat → Prop} {v : Value} {l : List Int}
    (hr : Kd.R (Kd.int .i64) 3 wr base ok v l) (hg : wr.grownBy w5 v.ownBlock) (hb : Below w.heap.size w w5) : IdInv w p c gI gL f g w5 A k cap :=
  ⟨hb, blk_grown h.BC hg (Kd.R_ne hr h.BC (by decide)), blk_grown h.BR hg (Kd.R_ne hr h.BR (by decide)), blk_grown h.BL hg (Kd.R_ne hr h.BL (by decide)), blk_grown h.BI hg (Kd.R_ne hr h.BI (by decide))⟩
theorem IdInv.put {w wr : World} {p : CP} {c : Circ} {gI gL : Nat} {f g : Value} {A A' : Option Addr} {k k' cap cap' : Nat} (h : IdInv w p c gI gL f g wr A k cap) (hI : w.heap.size ≤ gI) :
    IdInv w p c gI gL f g (wr.setCell ⟨gI, 0, none⟩ (.slice A' k' cap')) A' k' cap' :=
  ⟨below_set h.BW hI, blk_far h.BC (blk_ne h.BC h.BI (by decide)) _, blk_far h.BR (blk_ne h.BR h.BI (by decide)) _, blk_far h.BL (blk_ne h.BL h.BI (by decide)) _, by simpa using blk_set h.BI 0 (.slice A' k' cap')⟩
theorem IdInv.drew {w wr : World} {p : CP} {c : Circ} {gI gL : Nat} {f g : Value} {A : Option Addr} {k cap : Nat} (h : IdInv w p c gI gL f g wr A k cap) : IdInv w p c gI gL f g wr.drew A k cap :=
  ⟨below_drew h.BW, h.BC, h.BR, h.BL, h.BI⟩
theorem IdInv.putF {w wr : World} {p : CP} {c : Circ} {gI gL : Nat} {f g : Value} {A : Option Addr} {k cap : Nat} (h : IdInv w p c gI gL f g wr A k cap) (hL : w.heap.size + 1 < gL) (f' : Value) :
    IdInv w p c gI gL f' g (wr.setCell ⟨gL, 2, none⟩ f') A k cap :=
  ⟨below_set h.BW (by omega), blk_far h.BC (show w.heap.size ≠ gL by omega) _, blk_far h.BR (show w.heap.size + 1 ≠ gL by omega) _, by simpa using blk_set h.BL 2 f', blk_far h.BI (blk_ne h.BI h.BL (by decide)) _⟩
theorem IdInv.below {w wr w5 : World} {p : CP} {c : Circ} {gI gL : Nat} {f g : Value} {A : Option Addr} {k cap : Nat} (h : IdInv w p c gI gL f g wr A k cap) (hb : Below wr.heap.size wr w5) : IdInv w p c gI gL f g w5 A k cap :=
  ⟨h.BW.trans (hb.mono h.BW.size), blk_below h.BC hb, blk_below h.BR hb, blk_below h.BL hb, blk_below h.BI hb⟩
theorem R7 {α : Type} {d : Kd α} {e base : Nat} {w : World} {ok : Nat → Prop} {v : Value} {xs : List α} (h : d.R e w base ok v xs) {g t : Nat} {cs : Array Value} (hb : w.heap[g]? = some (.cells cs t (0, 0))) (ht : ∀ q, q ∈ e :: d.E → q ≠ t) (u0 u1 u2 u3 u4 u5 u6 : Value) :
    d.R e (((((((w.setCell ⟨g, 0, none⟩ u0).setCell ⟨g, 1, none⟩ u1).setCell ⟨g, 2, none⟩ u2).setCell ⟨g, 3, none⟩ u3).setCell ⟨g, 4, none⟩ u4).setCell ⟨g, 5, none⟩ u5).setCell ⟨g, 6, none⟩ u6) base ok v xs :=
  have b0 := blk_set hb 0 u0
  have b1 := blk_set b0 1 u1
  have b2 := blk_set b1 2 u2
  have b3 := blk_set b2 3 u3
  have b4 := blk_set b3 4 u4
  have b5 := blk_set b4 5 u5
  Kd.R_set (Kd.R_set (Kd.R_set (Kd.R_set (Kd.R_set (Kd.R_set (Kd.R_set h hb ht 0 u0) b0 ht 1 u1) b1 ht 2 u2) b2 ht 3 u3) b3 ht 4 u4) b4 ht 5 u5) b5 ht 6 u6
/-- One row, in a block of its own. -/
theorem RS.one_row {w : World} {g : Nat} {A : Option Addr} {n cap : Nat} {l : List Int} {t : Nat} (h : w.heap[g]? = some (.cells #[.slice A n cap] t (0, 0))) (hn : n = l.length) (hr : RS (Kd.int .i64) w A cap l) : RS (Kd.slice 3 (Kd.int .i64)) w (some ⟨g, 0, none⟩) 1 [l] :=
  RS.row (by simp) (by simp) (fun j p hj => by
    cases j with
    | zero =>
      have e : l = p := by simpa using hj
      subst e
      exact ⟨[.slice A l.length cap], rfl, ⟨A, cap, rfl, hr.h, hr.r⟩, fun i u hu => by
        cases i with
        | zero => have e : Value.slice A l.length cap = u := by simpa using hu
                  rw [← e, ← hn]; simpa using (blk_cell h 0).trans rfl
        | succ i => simp at hu⟩
    | succ j => simp at hj)
theorem IdInv.putL {w wr : World} {p : CP} {c : Circ} {gI gL : Nat} {f g : Value} {A : Option Addr} {k cap : Nat} (h : IdInv w p c gI gL f g wr A k cap) (hL : w.heap.size + 1 < gL) (g' : Value) :
    IdInv w p c gI gL f g' (wr.setCell ⟨gL, 4, none⟩ g') A k cap :=
  ⟨below_set h.BW (by omega), blk_far h.BC (show w.heap.size ≠ gL by omega) _, blk_far h.BR (show w.heap.size + 1 ≠ gL by omega) _, by simpa using blk_set h.BL 4 g', blk_far h.BI (blk_ne h.BI h.BL (by decide)) _⟩
/-- Of two rows that lie apart the one grows: the other is as it was, and they still lie apart. -/
theorem R_apart {α : Type} {d : Kd α} {e base : Nat} {W w1 : World} {u v v1 : Value} {ys : List α} (hu : d.R e W base (fun j => some j ≠ v.ownBlock) u ys) (hg : W.grownBy w1 v.ownBlock) (hat : v1.ownBlock = v.ownBlock ∨ ∃ b, v1.ownBlock = some b ∧ W.heap.size ≤ b) :
    d.R e w1 base (fun j => some j ≠ v1.ownBlock) u ys :=
  Kd.R_mono (Kd.R_grown (Kd.R_bound hu) hg (fun j h => h.1)) (fun j h => by
    rcases hat with e | ⟨b, e, hb⟩
    · rw [e]; exact h.1
    · rw [e]; intro e2; cases e2; have := h.2.2.1; omega)
/-- A row of its own, in a world that holds the blocks from b on. -/
theorem R_held {α : Type} {d : Kd α} {e b : Nat} {w W : World} {ok : Nat → Prop} {v : Value} {xs : List α} (h : d.R e w b ok v xs) {b0 : Nat} (hb : b0 ≤ b) (hW : ∀ k, b0 ≤ k → k < w.heap.size → W.heap[k]? = w.heap[k]?) : d.R e W b ok v xs :=
  Kd.R_mono (Kd.R_step (Kd.R_bound h) (fun k hk hlt => hW k (Nat.le_trans hb hk.2.1) hlt)) (fun _ h => h.1)
/-- The same, its rows told in each world that has the new blocks as they are. -/
def RetLs (w w' : World) (l : Lf) (n : Int) (e : Ending) : Prop := ∃ p, e = .returned (.tuple #[lv p l, .int .i64 n]) ∧ (∀ W : World, (∀ k, w.heap.size ≤ k → k < w'.heap.size → W.heap[k]? = w'.heap[k]?) → RL W p l) ∧ Below w.heap.size w w'
def RetL (w w' : World) (l : Lf) (n : Int) (e : Ending) : Prop := ∃ p, e = .returned (.tuple #[lv p l, .int .i64 n]) ∧ RL w' p l ∧ Below w.heap.size w w'
set_option maxHeartbeats 4000000 in
set_option maxRecDepth 100000 in
theorem lift_Identity_bad (p : CP) (c : Circ) (w : World) (h : RC w p c) (hs : c.Fits) (hc : check c ≠ 0) :
    Calls Try.prog 43 #[cv p c] w fun e w' => RetL w w' zeroL (check c) e := by
  have HCK := Aside0.mk (fun W (hb : Below w.heap.size w W) => gates_Check p c W (h.below hb) hs)
  have hu26 := Try.underlying26
  have hu31 := Try.underlying33
  have c1b : (check c != 0) = true := bne_iff_ne.mpr hc
  clear h hs hc
  go_enter Try.func43, Try.ntmps43
  go_wp2_with fail
  refine (HCK.out _ (below_alloc (below_alloc (Below.refl _ _) _) _)).mono ?_
  rintro e w1 ⟨rfl, hb1⟩
  have BR := Aside0.mk (show w1.heap[w.heap.size + 1]? = _ by simpa using blk_below (blk_new (w.alloc (.cells #[.int .i64 c.f0, .slice p.A1 c.f1.length p.c1, .slice p.A2 c.f2.length p.c2, .slice p.A3 c.f3.length p.c3, .slice p.A4 c.f4.length p.c4] 26)) (.cells #[.int .i64 0, .int .i64 0, .slice none 0 0, .slice none 0 0, .slice none 0 0, .slice none 0 0, .int .i64 0] 33)) hb1)
  have BW := Aside0.mk (below_then (below_alloc (below_alloc (Below.refl w.heap.size w) _) _) (by simp; omega) hb1)
  clear hb1
  obtain ⟨⟨r0, r1, r2, r3, r4, r5, r6⟩, z0, z1, z2, z3, z4, z5, z6⟩ := blk7 BR.out
  go_wp2
  refine bodyPost_ret (results_ct rfl _ _ (w.heap.size + 1) 33 #[.int .i64 0, .int .i64 0, .slice none 0 0, .slice none 0 0, .slice none 0 0, .slice none 0 0, .int .i64 0] (0, 0) _ rfl (blk7_set BR.out _ _ _ _ _ _ _) hu31 rfl (by kernel_rfl)) rfl ?_
  exact ⟨⟨none, 0, none, 0, none, 0, none, 0⟩, rfl, ⟨RS.nil _ _ _, RS.nil _ _ _, RS.nil _ _ _, RS.nil _ _ _⟩, below7 BW.out (by omega) _ _ _ _ _ _ _⟩
set_option maxHeartbeats 4000000 in
set_option maxRecDepth 100000 in
theorem lift_Identity_s (p : CP) (c : Circ) (w : World) (h : RC w p c) (hs : c.Fits) (hc : check c = 0) :
    Calls Try.prog 43 #[cv p c] w fun e w' => RetLs w w' (idOf c) 0 e := by
  have HCK := Aside0.mk (fun W (hb : Below w.heap.size w W) => gates_Check p c W (h.below hb) hs)
  have HC0 := Aside0.mk hc
  have HBD := Aside0.mk (gCheck_ok hc)
  have hu26 := Try.underlying26
  have hu31 := Try.underlying33
  clear h hs hc
  go_enter Try.func43, Try.ntmps43
  go_wp2_with fail
  refine (HCK.out _ (below_alloc (below_alloc (Below.refl _ _) _) _)).mono ?_
  rintro e w1 ⟨rfl, hb1⟩
  rw [HC0.out]
  have BC := Aside0.mk (blk_below (blk_alloc (blk_new w (.cells #[.int .i64 c.f0, .slice p.A1 c.f1.length p.c1, .slice p.A2 c.f2.length p.c2, .slice p.A3 c.f3.length p.c3, .slice p.A4 c.f4.length p.c4] 26)) (.cells #[.int .i64 0, .int .i64 0, .slice none 0 0, .slice none 0 0, .slice none 0 0, .slice none 0 0, .int .i64 0] 33)) hb1)
  have BR := Aside0.mk (show w1.heap[w.heap.size + 1]? = _ by simpa using blk_below (blk_new (w.alloc (.cells #[.int .i64 c.f0, .slice p.A1 c.f1.length p.c1, .slice p.A2 c.f2.length p.c2, .slice p.A3 c.f3.length p.c3, .slice p.A4 c.f4.length p.c4] 26)) (.cells #[.int .i64 0, .int .i64 0, .slice none 0 0, .slice none 0 0, .slice none 0 0, .slice none 0 0, .int .i64 0] 33)) hb1)
  have BW := Aside0.mk (below_then (below_alloc (below_alloc (Below.refl w.heap.size w) _) _) (by simp; omega) hb1)
  clear hb1
  have hmk := make_rows
  have hlt1 := Aside0.mk (blk_lt BR.out)
  have I0 : Aside0 (IdInv w p c w1.heap.size (w1.heap.size + 1) (.slice none 0 0) (.slice none 0 0) ((w1.alloc (.cells #[.slice none 0 0] 24)).alloc (.cells #[.int .i64 0, .int .i64 1, .slice none 0 0, .slice (some ⟨w1.heap.size, 0, none⟩) 1 1, .slice none 0 0, .slice none 0 0, .int .i64 1] 33)) none 0 0) := by
    have hl := hlt1.out
    have hw : w.heap.size ≤ w1.heap.size := BW.out.size
    exact ⟨⟨below_alloc (below_alloc BW.out _) _, blk_alloc (blk_alloc BC.out _) _, blk_alloc (blk_alloc BR.out _) _, by simpa using blk_new (w1.alloc (.cells #[.slice none 0 0] 24)) (.cells #[.int .i64 0, .int .i64 1, .slice none 0 0, .slice (some ⟨w1.heap.size, 0, none⟩) 1 1, .slice none 0 0, .slice none 0 0, .int .i64 1] 33), blk_alloc (blk_new w1 _) _⟩⟩
  have hBD := HBD.out
  obtain ⟨n, hn⟩ : ∃ n : Nat, c.f0 = (n : Int) := ⟨c.f0.toNat, by omega⟩
  have HN := Aside0.mk hn
  have HNB := Aside0.mk (show n ≤ 1000 ∧ c.f1.length ≤ 1000 by omega)
  clear hBD hn
  go_wp2
  have HGL := Aside0.mk (show w.heap.size + 1 < w1.heap.size + 1 from Nat.lt_succ_of_lt (blk_lt BR.out))
  have HGI := Aside0.mk (show w.heap.size ≤ w1.heap.size from BW.out.size)
  generalize w1.heap.size = gI at *
  clear hmk
  go_loopg [6] n (fun gg s6 wr => ∃ (k : Nat) (x : Int) (A : Option Addr) (cap : Nat), s6 = .int .i64 x ∧ Aside0 (x = k + 1) ∧ Aside0 (k ≤ n ∧ n - k ≤ gg) ∧ Aside0 (IdInv w p c gI (gI + 1) (.slice none 0 0) (.slice none 0 0) wr A k cap) ∧ Aside0 (Kd.R (Kd.int .i64) 3 wr w.heap.size (fun _ => True) (.slice A k cap) (insOf k)))
  case atStart => exact ⟨0, 1, none, 0, rfl, ⟨rfl⟩, ⟨by omega, by omega⟩, I0, ⟨Kd.R_nil _ _ _ _ _⟩⟩
  case round =>
    obtain ⟨k, x, A, cap, rfl, HX, HK, I, RI⟩ := hrel
    obtain ⟨c0, c1, c2, c3, c4⟩ := blk5 I.out.BC
    obtain ⟨⟨r0, r1, r2, r3, r4, r5, r6⟩, z0, z1, z2, z3, z4, z5, z6⟩ := blk7 I.out.BL
    have i0 := (blk_cell I.out.BI 0).trans rfl
    have y0 := blk_frozen I.out.BI 0
    by_cases hlt : x ≤ c.f0
    · have hx := HX.out
      have hk : k < n := by have := HN.out; omega
      have HKN := Aside0.mk hk
      obtain ⟨y, hy⟩ : ∃ y, IntKind.i64.wrap (2 * x) = y := ⟨_, rfl⟩
      have HY := Aside0.mk (show y = 2 * ((k : Int) + 1) by have := HNB.out; rw [← hy, IntKind.wrap_i64]; omega)
      clear hx hk
      go_wp2
      refine start_ (n := 12) (S := (fun w' => w'.cell? ⟨gI + 1, 3, none⟩ = some (.slice (some ⟨gI, 0, none⟩) 1 1) ∧ w'.cell? ⟨gI, 0, none⟩ = some (.slice A k cap))) (ds := [11]) #[false, false, false, false, false, false, false, false, false, false, false, false] (by kernel_rfl) rfl rfl ⟨r3, i0⟩ (fun hHeld => ?_)
      refine pure_ (i := 0) (N := some 23) (v := ?_) (a' := ?_) #[true, false, false, false, false, false, false, false, false, false, false, false] rfl rfl (by kernel_rfl) (fun _ _ _ h => h) (Or.inl ⟨by rfl, ?_⟩) ?_ ?_
      rotate_left
      · intro w'
        go_simp
        with_reducible rfl
      rotate_left
      · simp only [Act.put, List.setIfInBounds_toArray, List.set_cons_zero, List.set_cons_succ]
        rfl
      refine pure_ (i := 2) (N := some 25) (v := ?_) (a' := ?_) #[true, false, true, false, false, false, false, false, false, false, false, false] rfl rfl (by kernel_rfl) (fun _ _ _ h => h) (Or.inl ⟨by rfl, ?_⟩) ?_ ?_
      rotate_left
      · intro w'
        go_simp
        with_reducible rfl
      rotate_left
      · simp only [Act.put, List.setIfInBounds_toArray, List.set_cons_zero, List.set_cons_succ]
        rfl
      refine pure_ (i := 6) (N := some 29) (v := ?_) (a' := ?_) #[true, false, true, false, false, false, true, false, false, false, false, false] rfl rfl (by kernel_rfl) (fun _ _ _ h => h) (Or.inl ⟨by rfl, ?_⟩) ?_ ?_
      rotate_left
      · intro w'
        go_simp
        with_reducible rfl
      rotate_left
      · simp only [Act.put, List.setIfInBounds_toArray, List.set_cons_zero, List.set_cons_succ]
        rfl
      refine pure_ (i := 7) (N := some 30) (v := ?_) (a' := ?_) #[true, false, true, false, false, false, true, true, false, false, false, false] rfl rfl (by kernel_rfl) (fun _ _ _ h => h) (Or.inl ⟨by rfl, ?_⟩) ?_ ?_
      rotate_left
      · intro w'
        go_simp
        with_reducible rfl
      rotate_left
      · simp only [Act.put, List.setIfInBounds_toArray, List.set_cons_zero, List.set_cons_succ]
        rfl
      refine take_ (i := 1) (N := some 24) (v := ?_) (a' := ?_) #[true, true, true, false, false, false, true, true, false, false, false, false] rfl rfl (by kernel_rfl) (fun _ _ _ h => h) (Or.inl ⟨by rfl, ?_⟩) hHeld ?_ ?_
      rotate_left
      · rintro w' ⟨s0, s1⟩
        go_simp
        with_reducible rfl
      rotate_left
      · simp only [Act.put, List.setIfInBounds_toArray, List.set_cons_zero, List.set_cons_succ]
        rfl
      refine take_ (i := 3) (N := some 26) (v := ?_) (a' := ?_) #[true, true, true, true, false, false, true, true, false, false, false, false] rfl rfl (by kernel_rfl) (fun _ _ _ h => h) (Or.inl ⟨by rfl, ?_⟩) hHeld ?_ ?_
      rotate_left
      · rintro w' ⟨s0, s1⟩
        go_simp
        with_reducible rfl
      rotate_left
      · simp only [Act.put, List.setIfInBounds_toArray, List.set_cons_zero, List.set_cons_succ]
        rfl
      refine pure_ (i := 4) (N := some 27) (v := ?_) (a' := ?_) #[true, true, true, true, true, false, true, true, false, false, false, false] rfl rfl (by kernel_rfl) (fun _ _ _ h => h) (Or.inl ⟨by rfl, ?_⟩) ?_ ?_
      rotate_left
      · intro w'
        go_simp
        with_reducible rfl
      rotate_left
      · simp only [Act.put, List.setIfInBounds_toArray, List.set_cons_zero, List.set_cons_succ]
        rfl
      refine take_ (i := 5) (N := some 28) (v := ?_) (a' := ?_) #[true, true, true, true, true, true, true, true, false, false, false, false] rfl rfl (by kernel_rfl) (fun _ _ _ h => h) (Or.inl ⟨by rfl, ?_⟩) hHeld ?_ ?_
      rotate_left
      · rintro w' ⟨s0, s1⟩
        go_simp
        with_reducible rfl
      rotate_left
      · simp only [Act.put, List.setIfInBounds_toArray, List.set_cons_zero, List.set_cons_succ]
        rfl
      refine one_ (i := 8) (N := some 31) #[true, true, true, true, true, true, true, true, true, false, false, false] rfl rfl (by kernel_rfl) (by decide) (fun K hK => ?_)
      refine value_ (w1 := ?_) (v := ?_) (by rfl) rfl ?_ ?_
      rotate_left 2
      · go_simp
        constructor
        · rfl
        · rfl
      refine hK.out _ _ ⟨(World.cell?_alloc_lt _ _ _ (World.block_lt_of_cell? _ _ hHeld.1)).trans hHeld.1, (World.cell?_alloc_lt _ _ _ (World.block_lt_of_cell? _ _ hHeld.2)).trans hHeld.2⟩ (fun hHeld => ?_)
      clear hK K
      refine norm_ (a' := ?_) ?_ ?_
      rotate_left
      · show Act.put _ (some 31) _ = _
        simp only [Act.put, List.setIfInBounds_toArray, List.set_cons_zero, List.set_cons_succ]
        rfl
      refine one_ (i := 9) (N := some 32) #[true, true, true, true, true, true, true, true, true, true, false, false] rfl rfl (by kernel_rfl) (by decide) (fun K hK => ?_)
      refine Kd.R_append_step (Kd.int .i64) (w0 := w) (W := wr.drew) w.heap.size (by rfl) (.tmp 28) (.tmp 31) 24 3 (.int .i64 0) 8 rfl Try.underlying24 infoInt rfl (by decide) (by omega) (.slice A k cap) (insOf k) y [.int .i64 y] (fun _ => True) (fun _ => False) rfl rfl ?aP ?aK ?aF ?aO ?aB ?aS ?aL ?_
      case aP => exact rfl
      case aK => exact fun _ h => h.elim
      case aF => exact fun _ _ => trivial
      case aO => exact Kd.R_drew RI.out
      case aB => exact below_drew I.out.BW
      case aS => exact I.out.BW.size
      case aL => have := HNB.out; have := HKN.out; rw [insOf_len]; omega
      intro v1 w5 ho hb hg hat
      obtain ⟨A5, cap5, rfl, _, _⟩ := Kd.R_reads ho
      rw [HY.out, ← insOf_succ] at ho
      have I5 := Aside0.mk (I.out.drew.grown (Kd.R_drew RI.out) hg hb)
      have R5 := Aside0.mk ho
      clear ho hb hg hat
      clear c0 c1 c2 c3 c4 r0 r1 r2 r3 r4 r5 r6 z0 z1 z2 z3 z4 z5 z6 i0 y0
      have r3 := (blk_cell I5.out.BL 3).trans rfl
      have i0 := (blk_cell I5.out.BI 0).trans rfl
      have y0 := blk_frozen I5.out.BI 0
      refine hK.out _ _ ⟨r3, i0⟩ (fun hHeld => ?_)
      clear hK K
      refine norm_ (a' := ?_) ?_ ?_
      rotate_left
      · show Act.put _ (some 32) _ = _
        simp only [Act.put, List.setIfInBounds_toArray, List.set_cons_zero, List.set_cons_succ]
        rfl
      refine pure_ (i := 10) (N := some 33) (v := ?_) (a' := ?_) #[true, true, true, true, true, true, true, true, true, true, true, false] rfl rfl (by kernel_rfl) (fun _ _ _ h => h) (Or.inl ⟨by rfl, ?_⟩) ?_ ?_
      rotate_left
      · intro w'
        go_simp
        with_reducible rfl
      rotate_left
      · simp only [Act.put, List.setIfInBounds_toArray, List.set_cons_zero, List.set_cons_succ]
        rfl
      refine last_ (i := 11) (N := none) #[true, true, true, true, true, true, true, true, true, true, true, true] rfl rfl (by kernel_rfl) (by decide) (fun K hK => ?_)
      refine skip_ (w1 := ?_) (by rfl) rfl ?_ ?_
      rotate_left
      · go_simp
        rfl
      refine hK.out _ _ ?_
      clear hK K
      refine done_ (by kernel_rfl) ?_
      go_wp2
      rw [insOf_len] at R5
      rw [show (insOf k).length + 1 = k + 1 by rw [insOf_len]]
      go_roundg (n - (k + 1))
      case measure => have := HK.out; have := HKN.out; omega
      case rel => exact ⟨k + 1, x + 1, A5, cap5, val_eq (wrap_in (by have := HX.out; have := HNB.out; have := HKN.out; omega) (by have := HX.out; have := HNB.out; have := HKN.out; omega)), ⟨by rw [HX.out]; omega⟩, ⟨HKN.out, by have := HK.out; omega⟩, ⟨I5.out.put HGI.out⟩, ⟨Kd.R_set R5.out I5.out.BI (by decide) 0 _⟩⟩
    · have hk : k = n := by have := HN.out; have := HX.out; have := HK.out; omega
      subst hk
      have HLL := Aside0.mk (show c.f1.length ≤ 1000 from HNB.out.2)
      have RB := Aside0.mk (show Kd.R (Kd.int .i64) 3 wr w.heap.size (fun j => j < wr.heap.size) (.slice A k cap) (insOf k) from Kd.R_mono (Kd.R_bound RI.out) (fun _ h => h.2.2.1))
      obtain ⟨g2, hg2⟩ : ∃ g2, wr.heap.size = g2 := ⟨_, rfl⟩
      rw [hg2] at RB
      have HWG := Aside0.mk (show w.heap.size ≤ g2 by have := I.out.BW.size; omega)
      have HG2 := Aside0.mk (show g2 ≤ wr.heap.size by omega)
      clear hg2
      go_wp2
      clear c0 c1 c2 c3 c4 r0 r1 r2 r3 r4 r5 r6 z0 z1 z2 z3 z4 z5 z6 i0 y0
      go_loopg [37] c.f1.length (fun gg s37 wr => ∃ (m : Nat) (F : Option Addr) (capF : Nat), s37 = .int .i64 m ∧ Aside0 (m ≤ c.f1.length ∧ c.f1.length - m ≤ gg) ∧ Aside0 (IdInv w p c gI (gI + 1) (.slice F m capF) (.slice none 0 0) wr A k cap) ∧
        Aside0 (Kd.R (Kd.int .i64) 3 wr g2 (fun _ => True) (.slice F m capF) (lasOf c.f0 m)) ∧ Aside0 (Kd.R (Kd.int .i64) 3 wr w.heap.size (fun j => j < g2) (.slice A k cap) (insOf k)) ∧ Aside0 (g2 ≤ wr.heap.size))
      case atStart => exact ⟨0, none, 0, rfl, ⟨by omega, by omega⟩, I, ⟨Kd.R_nil _ _ _ _ _⟩, RB, HG2⟩
      case round =>
        clear RI RB I HG2
        obtain ⟨m, F, capF, rfl, HM, I, RF, RI, HG2⟩ := hrel
        obtain ⟨c0, c1, c2, c3, c4⟩ := blk5 I.out.BC
        obtain ⟨⟨r0, r1, r2, r3, r4, r5, r6⟩, z0, z1, z2, z3, z4, z5, z6⟩ := blk7 I.out.BL
        by_cases hlt2 : m < c.f1.length
        · have HMT := Aside0.mk hlt2
          have HY := Aside0.mk (show wrap64 (2 * wrap64 (wrap64 (c.f0 + 1) + (m : Int))) = 2 * (c.f0 + 1 + (m : Int)) by
            have := HN.out; have := HNB.out
            rw [wrap_in (x := c.f0 + 1) (by omega) (by omega), wrap_in (x := c.f0 + 1 + (m : Int)) (by omega) (by omega), wrap_in (by omega) (by omega)])
          go_wp2_with (first | (at_builtin; refine Kd.R_append (Kd.int .i64) (w0 := wr) (W := wr) g2 rfl (.tmp 41) (.tmp 48) 24 3 (.int .i64 0) 8 rfl Try.underlying24 infoInt rfl (by decide) (by omega) (.slice F m capF) (lasOf c.f0 m) (wrap64 (2 * wrap64 (wrap64 (c.f0 + 1) + (m : Int)))) [.int .i64 (wrap64 (2 * wrap64 (wrap64 (c.f0 + 1) + (m : Int))))] (fun _ => True) (fun _ => False) rfl rfl ?aP (fun _ h => h.elim) ?aF ?aO ?aB ?aS ?aL ?_; (case aP => exact rfl); (case aF => exact fun _ _ => trivial); (case aO => exact RF.out); (case aB => exact Below.refl _ _); (case aS => exact HG2.out); (case aL => have := HLL.out; have := HMT.out; rw [lasOf_len]; omega); intro v1 w5 ho hb hg hat; obtain ⟨F5, capF5, rfl, _, _⟩ := Kd.R_reads ho; rw [HY.out, ← lasOf_succ] at ho; rw [lasOf_len] at ho; have I5 := Aside0.mk (I.out.grown RF.out hg (I.out.BW.trans (hb.mono HWG.out))); have RI5 := Aside0.mk (Kd.R_grown RI.out hg (fun j hj e => absurd (Kd.R_base RF.out j e.symm) (by omega))); have R5 := Aside0.mk ho; have HG5 := Aside0.mk (Nat.le_trans HG2.out hb.size); clear ho hb hg hat; have r2 := (blk_cell I5.out.BL 2).trans rfl; have z2 := blk_frozen I5.out.BL 2))
          rw [show (lasOf c.f0 m).length + 1 = m + 1 by rw [lasOf_len]]
          go_roundg (c.f1.length - (m + 1))
          case measure => have := HM.out; have := HMT.out; omega
          case rel => exact ⟨m + 1, F5, capF5, val_step HMT.out (by have := HLL.out; omega), ⟨HMT.out, by have := HM.out; omega⟩, ⟨I5.out.putF HGL.out _⟩, ⟨Kd.R_set R5.out I5.out.BL (by decide) 2 _⟩, ⟨Kd.R_set RI5.out I5.out.BL (by decide) 2 _⟩, ⟨by simpa using HG5.out⟩⟩
        · have hm : m = c.f1.length := by have := HM.out; omega
          subst hm
          have HCL := slices_Clone_int F capF (lasOf c.f0 c.f1.length) wr (by have := RS.of_R' RF.out; exact this) (by rw [lasOf_len]; have := HLL.out; omega)
          rw [lasOf_len] at HCL
          have HCL := Aside0.mk HCL
          go_wp2_with fail
          refine HCL.out.mono ?_
          rintro e w6 ⟨A6, c6, rfl, hR6, hb6⟩
          rw [lasOf_len] at hR6 ⊢
          have HB6 := Aside0.mk (show w.heap.size ≤ wr.heap.size from I.out.BW.size)
          have I6 := Aside0.mk (I.out.below hb6)
          have RF6 := Aside0.mk (Kd.R_below RF.out hb6)
          have RI6 := Aside0.mk (Kd.R_below RI.out hb6)
          have RC6 := Aside0.mk hR6
          clear hR6 hb6 HCL I RF RI
          clear c0 c1 c2 c3 c4 r0 r1 r2 r3 r4 r5 r6 z0 z1 z2 z3 z4 z5 z6
          obtain ⟨⟨r0, r1, r2, r3, r4, r5, r6⟩, z0, z1, z2, z3, z4, z5, z6⟩ := blk7 I6.out.BL
          obtain ⟨⟨q0, q1, q2, q3, q4, q5, q6⟩, y0, y1, y2, y3, y4, y5, y6⟩ := blk7 I6.out.BR
          have hne : gI ≠ w.heap.size := by have := HGL.out; omega
          have hne' : w.heap.size ≠ gI := by have := HGL.out; omega
          go_wp2
          have hgl : w.heap.size + 1 ≠ gI + 1 := by omega
          have BR7 : (w6.setCell ⟨gI + 1, 4, none⟩ (.slice A6 c.f1.length c6)).heap[w.heap.size + 1]? = _ := blk_far I6.out.BR hgl _
          have BI7 : (w6.setCell ⟨gI + 1, 4, none⟩ (.slice A6 c.f1.length c6)).heap[gI]? = _ := blk_far I6.out.BI (show gI ≠ gI + 1 by omega) _
          have HF := R7 (Kd.R_set RF6.out I6.out.BL (by decide) 4 (.slice A6 c.f1.length c6)) BR7 (by decide) (.int .i64 0) (.int .i64 1) (.slice F c.f1.length capF) (.slice (some ⟨gI, 0, none⟩) 1 1) (.slice A6 c.f1.length c6) (.slice none 0 0) (.int .i64 1)
          have HI := R7 (Kd.R_set RI6.out I6.out.BL (by decide) 4 (.slice A6 c.f1.length c6)) BR7 (by decide) (.int .i64 0) (.int .i64 1) (.slice F c.f1.length capF) (.slice (some ⟨gI, 0, none⟩) 1 1) (.slice A6 c.f1.length c6) (.slice none 0 0) (.int .i64 1)
          have HC := R7 (Kd.R_set RC6.out I6.out.BL (by decide) 4 (.slice A6 c.f1.length c6)) BR7 (by decide) (.int .i64 0) (.int .i64 1) (.slice F c.f1.length capF) (.slice (some ⟨gI, 0, none⟩) 1 1) (.slice A6 c.f1.length c6) (.slice none 0 0) (.int .i64 1)
          have HBI := far7 BI7 (show gI ≠ w.heap.size + 1 by intro e; exact absurd (blk_ne I6.out.BI I6.out.BR (by decide)) (by omega)) (.int .i64 0) (.int .i64 1) (.slice F c.f1.length capF) (.slice (some ⟨gI, 0, none⟩) 1 1) (.slice A6 c.f1.length c6) (.slice none 0 0) (.int .i64 1)
          have HBR := blk7_set BR7 (.int .i64 0) (.int .i64 1) (.slice F c.f1.length capF) (.slice (some ⟨gI, 0, none⟩) 1 1) (.slice A6 c.f1.length c6) (.slice none 0 0) (.int .i64 1)
          have HBW := below7 (below_set (j := 4) (v := .slice A6 c.f1.length c6) I6.out.BW (show w.heap.size ≤ gI + 1 by have := HGI.out; omega)) (show w.heap.size ≤ w.heap.size + 1 by omega) (.int .i64 0) (.int .i64 1) (.slice F c.f1.length capF) (.slice (some ⟨gI, 0, none⟩) 1 1) (.slice A6 c.f1.length c6) (.slice none 0 0) (.int .i64 1)
          refine bodyPost_ret (results_ct rfl _ _ (w.heap.size + 1) 33 #[.int .i64 0, .int .i64 1, .slice F c.f1.length capF, .slice (some ⟨gI, 0, none⟩) 1 1, .slice A6 c.f1.length c6, .slice none 0 0, .int .i64 1] (0, 0) _ rfl HBR hu31 rfl (by kernel_rfl)) rfl ?_
          have hk : c.f0.toNat = k := by rw [HN.out]; rfl
          have HBB := HWG.out
          refine ⟨⟨F, capF, some ⟨gI, 0, none⟩, 1, A6, c6, none, 0⟩, ?_, fun W hW => ⟨RS.of_R' (R_held HF HBB hW), ?_, RS.of_R' (R_held HC HB6.out hW), RS.nil _ _ _⟩, HBW⟩
          · simp only [lv, idOf, lasOf_len, List.length_singleton, List.length_nil]
            rfl
          · show RS _ _ _ _ [insOf c.f0.toNat]
            rw [hk]
            exact RS.one_row ((hW gI (by have := HGI.out; omega) (blk_lt HBI)).trans HBI) (insOf_len k).symm (RS.of_R' (R_held HI (Nat.le_refl _) hW))
theorem lift_Identity_ok (p : CP) (c : Circ) (w : World) (h : RC w p c) (hs : c.Fits) (hc : check c = 0) :
    Calls Try.prog 43 #[cv p c] w fun e w' => RetL w w' (idOf c) 0 e :=
  (lift_Identity_s p c w h hs hc).mono (fun e w' ⟨q, h1, h2, h3⟩ => ⟨q, h1, h2 w' (fun _ _ _ => rfl), h3⟩)
/-- lift.Identity. -/
def identity (c : Circ) : Lf := if check c = 0 then idOf c else zeroL
theorem lift_Identity (p : CP) (c : Circ) (w : World) (h : RC w p c) (hs : c.Fits) :
    Calls Try.prog 43 #[cv p c] w fun e w' => RetL w w' (identity c) (check c) e := by
  unfold identity
  by_cases hc : check c = 0
  · rw [if_pos hc, hc]; exact lift_Identity_ok p c w h hs hc
  · rw [if_neg hc]; exact lift_Identity_bad p c w h hs hc
end Go.Proofs.Ytpoadkogcdfglaa.PH
