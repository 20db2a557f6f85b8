/- lift.fits and lift.Check: what they answer. -/
import Derived.Test.YtpoadkogcdfglaaHPreds0
namespace Go.Proofs.Ytpoadkogcdfglaa.PH
open Go.RowKit Go.Proofs.YtpoadkogcdfglaaW.PrintWords
set_option linter.unusedVariables false
set_option linter.unusedSimpArgs false

/-- Is a number the literal of a latch? -/
def isL (c : Circ) (l : Int) : Bool := decide (2 * (c.f0 + 1) ≤ l) && decide (l < 2 * (c.f0 + 1 + c.f1.length))
def fOk (tc : Circ) (x : Int) : Bool := decide (x = 0) || (decide (x = 1) || isL tc x)
def iOk (tc : Circ) (x : Int) : Bool := decide (0 ≤ x) && (decide (x % 2 = 0) && decide (x ≤ 2 * tc.f0))
def rOk (fr tc : Circ) (row : List Int) : Bool := decide ((row.length : Int) = fr.f0) && row.all (iOk tc)
def lOk (fr : Circ) (x : Int) : Bool := decide (x = -1) || isL fr x
def headOk (fr tc : Circ) (l : Lf) : Bool := decide (0 ≤ l.f0 ∧ l.f0 ≤ 100 ∧ 1 ≤ l.f1 ∧ l.f1 ≤ 4 ∧ l.f2.length = fr.f1.length ∧ l.f4.length = tc.f1.length ∧ (l.f3.length : Int) = l.f0 + l.f1)
/-- Is a lift valid for two valid circuits? -/
def liftOk (fr tc : Circ) (l : Lf) : Bool := headOk fr tc l && (l.f2.all (fOk tc) && (l.f3.all (rOk fr tc) && (l.f4.all (lOk fr) && decide (predCheck fr.f1.length l.f5 = 0))))

structure Lf.Fits (l : Lf) : Prop where
  p : l.f5.Fits
  i0 : I64 l.f0
  i1 : I64 l.f1
  i2 : ∀ x ∈ l.f2, I64 x
  i3 : ∀ r ∈ l.f3, ∀ x ∈ r, I64 x
  i4 : ∀ x ∈ l.f4, I64 x

structure Box7 (w : World) (B : Nat) (v0 v1 v2 v3 v4 v5 v6 : Value) : Prop where
  g0 : w.cell? ⟨B, 0, none⟩ = some v0
  g1 : w.cell? ⟨B, 1, none⟩ = some v1
  g2 : w.cell? ⟨B, 2, none⟩ = some v2
  g3 : w.cell? ⟨B, 3, none⟩ = some v3
  g4 : w.cell? ⟨B, 4, none⟩ = some v4
  g5 : w.cell? ⟨B, 5, none⟩ = some v5
  g6 : w.cell? ⟨B, 6, none⟩ = some v6
theorem Box7.below {w w1 : World} {B : Nat} {v0 v1 v2 v3 v4 v5 v6 : Value} (h : Box7 w B v0 v1 v2 v3 v4 v5 v6) (hb : Below w.heap.size w w1) : Box7 w1 B v0 v1 v2 v3 v4 v5 v6 :=
  ⟨pw_cell_below hb h.g0, pw_cell_below hb h.g1, pw_cell_below hb h.g2, pw_cell_below hb h.g3, pw_cell_below hb h.g4, pw_cell_below hb h.g5, pw_cell_below hb h.g6⟩
theorem Box7.lt {w : World} {B : Nat} {v0 v1 v2 v3 v4 v5 v6 : Value} (h : Box7 w B v0 v1 v2 v3 v4 v5 v6) : B < w.heap.size := World.block_lt_of_cell? _ _ h.g0

set_option maxRecDepth 100000 in
theorem lift_isLatch (p : CP) (c : Circ) (l : Int) (w : World) (h0 : 0 ≤ c.f0) (h1 : c.f0 ≤ 1000) (hs : c.f1.length ≤ 4000000) :
    Calls Try.prog 83 #[cv p c, .int .i64 l] w fun e w' => e = .returned (.bool (isL c l)) ∧ Below w.heap.size w w' := by
  have hu26 := Try.underlying26
  have HW := Aside0.mk (show wrap64 (2 * wrap64 (c.f0 + 1)) = 2 * (c.f0 + 1) by rw [wrap_in (x := c.f0 + 1) (by omega) (by omega), wrap_in (by omega) (by omega)])
  have HW2 := Aside0.mk (show wrap64 (2 * wrap64 (wrap64 (c.f0 + 1) + (c.f1.length : Int))) = 2 * (c.f0 + 1 + c.f1.length) by
    rw [wrap_in (x := c.f0 + 1) (by omega) (by omega), wrap_in (x := c.f0 + 1 + (c.f1.length : Int)) (by omega) (by omega), wrap_in (by omega) (by omega)])
  clear h0 h1 hs
  go_enter Try.func83, Try.ntmps83
  go_wp2
  all_goals
    go_ret
    refine ⟨ret_bool ?_, below_alloc (Below.refl _ _) _⟩
    have h1 := HW.out; have h2 := HW2.out
    unfold isL
    rw [Bool.eq_iff_iff]; simp; omega
set_option maxRecDepth 100000 in
theorem ref25_latch (p : CP) (c : Circ) (l : Int) (w : World) (h0 : 0 ≤ c.f0) (h1 : c.f0 ≤ 1000) (hs : c.f1.length ≤ 4000000) (hl : I64 l) :
    Calls Try.prog 85 #[cv p c, .int .i64 l] w fun e w' => e = .returned (.bool (isL c l)) ∧ Below w.heap.size w w' := by
  have hu26 := Try.underlying26
  have HW := Aside0.mk (show wrap64 (c.f0 + (c.f1.length : Int)) = c.f0 + c.f1.length by rw [wrap_in (by omega) (by omega)])
  have HQ := Aside0.mk (half_of hl)
  have HN := Aside0.mk (half_neg hl)
  have H0 := Aside0.mk h0
  clear h0 h1 hs hl
  go_enter Try.func85, Try.ntmps85
  go_wp2
  all_goals
    go_ret
    refine ⟨ret_bool ?_, below_alloc (Below.refl _ _) _⟩
    have h1 := HW.out; have h2 := HQ.out; have h3 := HN.out; have h4 := H0.out
    unfold isL
    rw [Bool.eq_iff_iff]; simp
    by_cases hl : 0 ≤ l
    · have := h2 hl; omega
    · have := h3 (by omega); omega
end Go.Proofs.Ytpoadkogcdfglaa.PH
