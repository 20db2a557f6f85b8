/- preds.Not, preds.Or. -/
import Derived.Test.YtlhiapggccgggaaHMake
namespace Go.Proofs.Ytlhiapggccgggaa.PH
open Go.RowKit Go.Proofs.YtlhiapggccgggaaW.PrintWords Go.Proofs.YtlhiapggccgggaaW.PrintLast
set_option linter.unusedVariables false
set_option linter.unusedSimpArgs false

def turnP (p : Pr) : Pr := ⟨p.f0, litNot p.f1⟩
/-- What preds.Not answers. -/
def notP (n : Int) (p : Pr) : Pr × Int := if predCheck n p ≠ 0 then (zeroP, predCheck n p) else (turnP p, 0)
def orP (n : Int) (p q : Pr) : Pr × Int :=
  if twoErr n p q ≠ 0 then (zeroP, twoErr n p q) else if (andP n (turnP p) (turnP q)).2 ≠ 0 then (zeroP, (andP n (turnP p) (turnP q)).2) else (turnP (andP n (turnP p) (turnP q)).1, 0)
theorem litNot_half {l : Int} (h : 0 ≤ l) : 0 ≤ litNot l ∧ litNot l / 2 = l / 2 := by
  unfold litNot
  split <;> omega
theorem check_turn {n : Int} {p : Pr} (h : predCheck n p = 0) : predCheck n (turnP p) = 0 := by
  have h1 := predCheck_parts h
  have h2 := litNot_half h1.2.2.2.1
  unfold predCheck turnP
  dsimp only
  rw [if_neg (by omega), if_neg (by omega), if_neg (by omega), if_pos h1.2.2.1, if_neg (by omega), if_neg (by omega)]
theorem two_turn {n : Int} {p q : Pr} (h : twoErr n p q = 0) : twoErr n (turnP p) (turnP q) = 0 := by
  have h1 := two_ok h
  unfold twoErr
  rw [if_neg (by rw [check_turn h1.1]; simp), check_turn h1.2]
theorem turn_fits {n : Int} {p : Pr} (h : predCheck n p = 0) (hf : p.Fits) : (turnP p).Fits :=
  ⟨hf.h, hf.ig, by have h1 := litNot_lit (lit_of_check h); exact ⟨by have := h1.1; show _ ≤ litNot p.f1; omega, by have := h1.2; show litNot p.f1 ≤ _; omega⟩⟩
theorem andP_lit {n : Int} {p q : Pr} (h : twoErr n p q = 0) : IsLit (andP n p q).1.f1 := by
  have h1 := andB_lit h
  unfold andP predR
  rw [if_neg (by rw [h]; simp)]
  split
  · exact ⟨by decide, by decide⟩
  · exact h1.1
/-- One predicate boxed, and the result's cells. -/
structure NInv (w : World) (A : Option Addr) (k : Nat) (p : Pr) (wr : World) : Prop where
  BW : Below w.heap.size w wr
  B0 : wr.heap[w.heap.size]? = some (.cells #[.slice A p.f0.length k, .int .i64 p.f1] 29 (0, 0))
  B2 : wr.heap[w.heap.size + 1]? = some (.cells #[.slice none 0 0, .int .i64 0] 29 (0, 0))
theorem NInv.below {w : World} {A : Option Addr} {k : Nat} {p : Pr} {wr w2 : World} (h : NInv w A k p wr) (hb : Below wr.heap.size wr w2) : NInv w A k p w2 :=
  ⟨h.BW.trans (hb.mono h.BW.size), blk_below h.B0 hb, blk_below h.B2 hb⟩
theorem NInv.start (w : World) (A : Option Addr) (k : Nat) (p : Pr) : NInv w A k p ((w.alloc (.cells #[.slice A p.f0.length k, .int .i64 p.f1] 29)).alloc (.cells #[.slice none 0 0, .int .i64 0] 29)) :=
  ⟨below_alloc (below_alloc (Below.refl _ _) _) _, blk_alloc (blk_new _ _) _, by simpa using blk_new (w.alloc (.cells #[.slice A p.f0.length k, .int .i64 p.f1] 29)) (.cells #[.slice none 0 0, .int .i64 0] 29)⟩
end Go.Proofs.Ytlhiapggccgggaa.PH
