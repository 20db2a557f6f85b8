/- The builder of predicates: over, pred. -/
import Derived.Test.YtlhiapggccgggaaHPut3
import Derived.Test.YtlhiapggccgggaaHFive
namespace Go.Proofs.Ytlhiapggccgggaa.PH
open Go.RowKit Go.Proofs.YtlhiapggccgggaaW.PrintWords Go.Proofs.YtlhiapggccgggaaW.PrintLast
set_option linter.unusedVariables false
set_option linter.unusedSimpArgs false

def zeroP : Pr := ⟨[], 0⟩
/-- A predicate and an error come back. -/
def RetP (b : Nat) (w w' : World) (r : Pr × Int) (e : Ending) : Prop := ∃ A k, e = .returned (.tuple #[pv A k r.1, .int .i64 r.2]) ∧ Kd.R kGate 93 w' b (fun _ => True) (.slice A r.1.f0.length k) r.1.f0 ∧ Below w.heap.size w w'
theorem blk2_set {w : World} {g : Nat} {t : TypeId} {v0 v1 : Value} (h : w.heap[g]? = some (.cells #[v0, v1] t (0, 0))) (u0 u1 : Value) :
    ((w.setCell ⟨g, 0, none⟩ u0).setCell ⟨g, 1, none⟩ u1).heap[g]? = some (.cells #[u0, u1] t (0, 0)) :=
  by simpa using blk_set (blk_set h 0 u0) 1 u1
theorem blk2w {w : World} {g : Nat} {t : TypeId} {v0 v1 : Value} (h : w.heap[g]? = some (.cells #[v0, v1] t (0, 0))) :
    (w.cell? ⟨g, 0, none⟩ = some v0 ∧ w.cell? ⟨g, 1, none⟩ = some v1) ∧ (w.frozen? ⟨g, 0, none⟩ = false ∧ w.frozen? ⟨g, 1, none⟩ = false) :=
  ⟨⟨(blk_cell h 0).trans rfl, (blk_cell h 1).trans rfl⟩, blk_frozen h 0, blk_frozen h 1⟩
theorem below2 {b : Nat} {w W : World} {g : Nat} (h : Below b w W) (hg : b ≤ g) (u0 u1 : Value) : Below b w ((W.setCell ⟨g, 0, none⟩ u0).setCell ⟨g, 1, none⟩ u1) :=
  Below.setCell (Below.setCell h (p := ⟨g, 0, none⟩) hg _) (p := ⟨g, 1, none⟩) hg _
theorem far2 {w : World} {g b : Nat} {t : TypeId} {cs : Array Value} (h : w.heap[b]? = some (.cells cs t (0, 0))) (hn : b ≠ g) (u0 u1 : Value) : ((w.setCell ⟨g, 0, none⟩ u0).setCell ⟨g, 1, none⟩ u1).heap[b]? = some (.cells cs t (0, 0)) :=
  blk_far (blk_far h hn _) hn _
theorem R2 {α : Type} {d : Kd α} {e base : Nat} {w : World} {ok : Nat → Prop} {v : Value} {xs : List α} (h : d.R e w base ok v xs) {g t : Nat} {cs : Array Value} (hb : w.heap[g]? = some (.cells cs t (0, 0))) (ht : ∀ q, q ∈ e :: d.E → q ≠ t) (u0 u1 : Value) :
    d.R e ((w.setCell ⟨g, 0, none⟩ u0).setCell ⟨g, 1, none⟩ u1) base ok v xs :=
  Kd.R_set (Kd.R_set h hb ht 0 u0) (blk_set hb 0 u0) ht 1 u1
/-- The literal of a latch. -/
theorem preds_over1 (v : Int) (w : World) (h0 : 0 ≤ v) (h1 : v ≤ 100000) :
    Calls Try.prog 92 #[.int .i64 v] w fun e w' => e = .returned (.int .i64 (2 * v)) ∧ Below w.heap.size w w' := by
  have HW := Aside0.mk (show wrap64 (2 * v) = 2 * v from wrap_in (by omega) (by omega))
  clear h0 h1
  go_enter Try.func92, Try.ntmps92
  go_wp2
  go_ret
  exact ⟨ret_int HW.out, Below.refl _ _⟩
/-- A builder comes back, over so many latches, with these gates. -/
def RetO (n : Int) (ands : List Gate) (w w' : World) (e : Ending) : Prop :=
  ∃ g E cap, e = .returned (.pointer (some ⟨g, 0, none⟩)) ∧ BInv w.heap.size g E cap ands (n + 1) (.func (.func 92) #[] #[]) false w' ∧ w.heap.size ≤ g ∧ Below w.heap.size w w'
set_option maxHeartbeats 2000000 in
set_option maxRecDepth 100000 in
theorem preds_over (n : Int) (A : Option Addr) (c : Nat) (l : List Gate) (w : World) (h : RS kGate w A c l) (hl : l.length ≤ 4000000) (h0 : 0 ≤ n) (h1 : n ≤ 1000) :
    Calls Try.prog 71 #[.int .i64 n, .slice A l.length c] w fun e w' => RetO n l w w' e := by
  have HC := Aside0.mk (slices_Clone_gate A c l w h hl)
  have hw : wrap64 (n + 1) = n + 1 := wrap_in (by omega) (by omega)
  clear h hl h0 h1
  go_enter Try.func71, Try.ntmps71
  go_wp2_with fail
  refine HC.out.mono ?_
  rintro e w1 ⟨E, cE, rfl, hR, hb⟩
  have R1 := Aside0.mk hR
  have B1 := Aside0.mk hb
  clear hR hb
  go_wp2
  go_ret
  exact ⟨w1.heap.size, E, cE, rfl, ⟨blk_new _ _, Kd.R_alloc R1.out _⟩, B1.out.size, below_alloc B1.out _⟩
def predR (ands : List Gate) (full : Bool) (lit : Int) : Pr × Int := if full then (zeroP, 4) else (⟨ands, lit⟩, 0)
set_option maxHeartbeats 2000000 in
set_option maxRecDepth 100000 in
theorem builder_pred (b0 gB : Nat) (E : Option Addr) (cap : Nat) (ands : List Gate) (first : Int) (F : Value) (full : Bool) (lit : Int) (w : World) (hI : BInv b0 gB E cap ands first F full w) :
    Calls Try.prog 72 #[.pointer (some ⟨gB, 0, none⟩), .int .i64 lit] w fun e w' => RetP b0 w w' (predR ands full lit) e := by
  have hu24 := Try.underlying29
  have hu83 := Try.underlying139
  have B1 := Aside0.mk (below_alloc (Below.refl w.heap.size w) (.cells #[.slice none 0 0, .int .i64 0] 29))
  have BB := Aside0.mk (blk_below hI.BB B1.out)
  have RR := Aside0.mk (Kd.R_below hI.RR B1.out)
  have BN := Aside0.mk (blk_new w (.cells #[.slice none 0 0, .int .i64 0] 29))
  have q0 := (blk_cell BB.out 0).trans rfl
  have q3 := (blk_cell BB.out 3).trans rfl
  obtain ⟨⟨r0, r1⟩, z0, z1⟩ := blk2w BN.out
  have HI := Aside0.mk hI
  clear hI
  unfold predR
  cases full with
  | true =>
    rw [if_pos rfl]
    go_enter Try.func72, Try.ntmps72
    go_wp2
    refine bodyPost_ret (results_ct rfl _ _ w.heap.size 29 #[.slice none 0 0, .int .i64 0] (0, 0) _ rfl BN.out hu24 rfl (by kernel_rfl)) rfl ?_
    exact ⟨none, 0, rfl, Kd.R_nil _ _ _ _ _, B1.out⟩
  | false =>
    rw [if_neg (by decide)]
    go_enter Try.func72, Try.ntmps72
    go_wp2
    refine bodyPost_ret (results_ct rfl _ _ w.heap.size 29 #[.slice E ands.length cap, .int .i64 lit] (0, 0) _ rfl (blk_new _ _) hu24 rfl (by kernel_rfl)) rfl ?_
    exact ⟨E, cap, rfl, Kd.R_alloc HI.out.RR _, below_alloc (Below.refl _ _) _⟩
end Go.Proofs.Ytlhiapggccgggaa.PH
