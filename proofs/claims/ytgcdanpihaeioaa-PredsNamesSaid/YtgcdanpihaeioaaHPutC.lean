/- preds.Put. -/
import Derived.Test.YtgcdanpihaeioaaHPut3
import Derived.Test.YtgcdanpihaeioaaHFive
namespace Go.Proofs.Ytgcdanpihaeioaa.PH
open Go.RowKit Go.Proofs.YtgcdanpihaeioaaW.PrintWords Go.Proofs.YtgcdanpihaeioaaW.PrintLast
set_option linter.unusedVariables false
set_option linter.unusedSimpArgs false

/-- A list of literals of at most n variables. -/
def litsOf (n : Int) (l : List Int) : Bool := l.all (fun x => decide (0 ≤ x) && decide (x / 2 ≤ n))
def nOf (c : Circ) : Int := c.f0 + c.f1.length + c.f2.length
theorem check_few {c : Circ} (h : check c = 0) : c.f3.length ≤ 100 ∧ c.f4.length ≤ 100 := by
  unfold check gCheck at h
  split at h
  · cases h
  split at h
  · cases h
  split at h
  · cases h
  by_cases q : 100 < mx (c.f3.length : Int) (c.f4.length : Int)
  · rw [if_pos q] at h; cases h
  · unfold mx at q
    split at q <;> constructor <;> omega
/-- What preds.Put answers. -/
def putC (c : Circ) (p : Pr) (l : List Int) : Circ × Int × Int :=
  if check c ≠ 0 then (zeroC, 0, check c)
  else if litsOf (nOf c) l = false then (zeroC, 0, 2)
  else if predCheck l.length p ≠ 0 then (zeroC, 0, predCheck l.length p)
  else if (putB p l c.f2 (1 + c.f0 + c.f1.length) false).2.1 = true then (zeroC, 0, 4)
  else (⟨c.f0, c.f1, (putB p l c.f2 (1 + c.f0 + c.f1.length) false).1, c.f3, c.f4⟩, (putB p l c.f2 (1 + c.f0 + c.f1.length) false).2.2, 0)
/-- What preds.Put has boxed. -/
structure PInv (w : World) (pc : CP) (c : Circ) (A : Option Addr) (k : Nat) (p : Pr) (B : Option Addr) (d : Nat) (l : List Int) (wr : World) : Prop where
  BW : Below w.heap.size w wr
  B0 : wr.heap[w.heap.size]? = some (.cells #[.int .i64 c.f0, .slice pc.A1 c.f1.length pc.c1, .slice pc.A2 c.f2.length pc.c2, .slice pc.A3 c.f3.length pc.c3, .slice pc.A4 c.f4.length pc.c4] 29 (0, 0))
  B1 : wr.heap[w.heap.size + 1]? = some (.cells #[.slice A p.f0.length k, .int .i64 p.f1] 24 (0, 0))
  B2 : wr.heap[w.heap.size + 2]? = some (.cells #[.slice B l.length d] 27 (0, 0))
  B3 : wr.heap[w.heap.size + 3]? = some (.cells #[.int .i64 0, .slice none 0 0, .slice none 0 0, .slice none 0 0, .slice none 0 0] 29 (0, 0))
theorem PInv.below {w : World} {pc : CP} {c : Circ} {A : Option Addr} {k : Nat} {p : Pr} {B : Option Addr} {d : Nat} {l : List Int} {wr w2 : World} (h : PInv w pc c A k p B d l wr) {b : Nat} (hb : Below b wr w2) (hs : w.heap.size + 3 < b) : PInv w pc c A k p B d l w2 :=
  ⟨h.BW.trans (hb.mono (by omega)), (hb.block _ (by omega)).trans h.B0, (hb.block _ (by omega)).trans h.B1, (hb.block _ (by omega)).trans h.B2, (hb.block _ (by omega)).trans h.B3⟩
theorem PInv.start (w : World) (pc : CP) (c : Circ) (A : Option Addr) (k : Nat) (p : Pr) (B : Option Addr) (d : Nat) (l : List Int) :
    PInv w pc c A k p B d l ((((w.alloc (.cells #[.int .i64 c.f0, .slice pc.A1 c.f1.length pc.c1, .slice pc.A2 c.f2.length pc.c2, .slice pc.A3 c.f3.length pc.c3, .slice pc.A4 c.f4.length pc.c4] 29)).alloc (.cells #[.slice A p.f0.length k, .int .i64 p.f1] 24)).alloc (.cells #[.slice B l.length d] 27)).alloc (.cells #[.int .i64 0, .slice none 0 0, .slice none 0 0, .slice none 0 0, .slice none 0 0] 29)) :=
  ⟨below_alloc (below_alloc (below_alloc (below_alloc (Below.refl _ _) _) _) _) _, blk_alloc (blk_alloc (blk_alloc (blk_new _ _) _) _) _,
    blk_alloc (blk_alloc (by simpa using blk_new (w.alloc (.cells #[.int .i64 c.f0, .slice pc.A1 c.f1.length pc.c1, .slice pc.A2 c.f2.length pc.c2, .slice pc.A3 c.f3.length pc.c3, .slice pc.A4 c.f4.length pc.c4] 29)) (.cells #[.slice A p.f0.length k, .int .i64 p.f1] 24)) _) _,
    blk_alloc (by simpa using blk_new ((w.alloc (.cells #[.int .i64 c.f0, .slice pc.A1 c.f1.length pc.c1, .slice pc.A2 c.f2.length pc.c2, .slice pc.A3 c.f3.length pc.c3, .slice pc.A4 c.f4.length pc.c4] 29)).alloc (.cells #[.slice A p.f0.length k, .int .i64 p.f1] 24)) (.cells #[.slice B l.length d] 27)) _,
    by simpa using blk_new (((w.alloc (.cells #[.int .i64 c.f0, .slice pc.A1 c.f1.length pc.c1, .slice pc.A2 c.f2.length pc.c2, .slice pc.A3 c.f3.length pc.c3, .slice pc.A4 c.f4.length pc.c4] 29)).alloc (.cells #[.slice A p.f0.length k, .int .i64 p.f1] 24)).alloc (.cells #[.slice B l.length d] 27)) (.cells #[.int .i64 0, .slice none 0 0, .slice none 0 0, .slice none 0 0, .slice none 0 0] 29)⟩
/-- An error comes back. -/
theorem PInv.zero {w : World} {pc : CP} {c : Circ} {A : Option Addr} {k : Nat} {p : Pr} {B : Option Addr} {d : Nat} {l : List Int} {wr : World} (h : PInv w pc c A k p B d l wr) (n : Int) (W : World) (hW : W = (((((wr.setCell ⟨w.heap.size + 3, 0, none⟩ (.int .i64 0)).setCell ⟨w.heap.size + 3, 1, none⟩ (.slice none 0 0)).setCell ⟨w.heap.size + 3, 2, none⟩ (.slice none 0 0)).setCell ⟨w.heap.size + 3, 3, none⟩ (.slice none 0 0)).setCell ⟨w.heap.size + 3, 4, none⟩ (.slice none 0 0))) :
    RetC w W (zeroC, 0, n) (.returned (.tuple #[.agg #[.int .i64 0, .slice none 0 0, .slice none 0 0, .slice none 0 0, .slice none 0 0], .int .i64 0, .int .i64 n])) := by
  subst hW
  exact ⟨⟨none, 0, none, 0, none, 0, none, 0⟩, rfl, RC.zero _, below5 h.BW (by omega) _ _ _ _ _⟩
set_option maxHeartbeats 4000000 in
set_option maxRecDepth 100000 in
theorem preds_Put_bad (pc : CP) (c : Circ) (A : Option Addr) (k : Nat) (p : Pr) (B : Option Addr) (d : Nat) (l : List Int) (w : World) (h : RC w pc c) (hs : c.Fits) (hc : check c ≠ 0) :
    Calls Try.prog 14 #[cv pc c, pv A k p, .slice B l.length d] w fun e w' => RetC w w' (zeroC, 0, check c) e := by
  have HV := Aside0.mk (fun W (hb : Below w.heap.size w W) => gates_Vars pc c W (h.below hb) hs)
  have hu26 := Try.underlying29
  have hu24 := Try.underlying24
  have I0 := Aside0.mk (PInv.start w pc c A k p B d l)
  obtain ⟨pa, lit⟩ := p
  have c1b : (check c != 0) = true := bne_iff_ne.mpr hc
  have HC := Aside0.mk hc
  clear h hs hc
  dsimp only [pv] at *
  go_enter Try.func14, Try.ntmps14
  go_wp2_with fail
  refine (HV.out _ I0.out.BW).mono ?_
  rintro e w1 ⟨rfl, hb1⟩
  rw [if_neg HC.out]
  have I1 := Aside0.mk (I0.out.below hb1 (by simp))
  clear hb1
  obtain ⟨⟨r0, r1, r2, r3, r4⟩, z0, z1, z2, z3, z4⟩ := blk5w I1.out.B3
  go_wp2
  refine bodyPost_ret (results_ctt rfl _ _ (w.heap.size + 3) 29 #[.int .i64 0, .slice none 0 0, .slice none 0 0, .slice none 0 0, .slice none 0 0] (0, 0) _ rfl (blk5_set I1.out.B3 _ _ _ _ _) hu26 rfl (by kernel_rfl)) rfl ?_
  exact I1.out.zero _ _ rfl
end Go.Proofs.Ytgcdanpihaeioaa.PH
