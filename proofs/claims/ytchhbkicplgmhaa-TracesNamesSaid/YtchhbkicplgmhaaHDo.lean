/- A walk over a run with a function that writes variables of its own: what it keeps, what it is asked. -/
import Derived.Test.YtchhbkicplgmhaaHTraceP
namespace Go.Proofs.Ytchhbkicplgmhaa.PH
open Go.RowKit Go.Proofs.YtchhbkicplgmhaaW.PrintWords Go.Proofs.YtchhbkicplgmhaaW.PrintLast
set_option linter.unusedVariables false
set_option linter.unusedSimpArgs false

/-- What lay below b, and what is in X, stays. -/
structure Kept (b : Nat) (X : Nat → Prop) (w w' : World) : Prop where
  os : w'.os = w.os
  tape : w'.tape = w.tape
  output : w'.output = w.output
  size : w.heap.size ≤ w'.heap.size
  block : ∀ k, k < w.heap.size → (k < b ∨ X k) → w'.heap[k]? = w.heap[k]?
theorem Kept.to {b : Nat} {X : Nat → Prop} {w w' : World} (h : Kept b X w w') (hb : b ≤ w.heap.size) : Below b w w' := ⟨h.os, h.tape, h.output, h.size, fun k hk => h.block k (by omega) (Or.inl hk)⟩
theorem Kept.of {b : Nat} {X : Nat → Prop} {w w' : World} (h : Below w.heap.size w w') : Kept b X w w' := ⟨h.os, h.tape, h.output, h.size, fun k hk _ => h.block k hk⟩
theorem Kept.trans {b : Nat} {X : Nat → Prop} {w w1 w2 : World} (h : Kept b X w w1) (g : Kept b X w1 w2) : Kept b X w w2 :=
  ⟨g.os.trans h.os, g.tape.trans h.tape, g.output.trans h.output, Nat.le_trans h.size g.size, fun k hk hx => (g.block k (Nat.lt_of_lt_of_le hk h.size) hx).trans (h.block k hk hx)⟩
/-- The blocks of X, and those from a up to b. -/
def Grow (X : Nat → Prop) (a b : Nat) : Nat → Prop := fun k => X k ∨ (a ≤ k ∧ k < b)
/-- What a function that is called for each frame is asked. -/
structure Walks (F : List Fr) (g : Nat) (lb : Array Value) (b : Nat) (go : Nat → Fr → Bool) (J : List Fr → (Nat → Prop) → World → Prop) : Prop where
  keep : ∀ h X W W', J h X W → Below W.heap.size W W' → J h (Grow X W.heap.size W'.heap.size) W'
  step : ∀ (k : Nat) (hk : k < F.length) (A : Option Addr) (d : Nat) (E : Option Addr) (e : Nat) (X : Nat → Prop) (W : World), (∀ j (hj : j < k), go j (F[j]'(Nat.lt_trans hj hk)) = true) →
    (∀ q, X q → q < W.heap.size) → b ≤ W.heap.size → J (F.take k) X W → Kd.R Kd.bool 4 W b X (.slice A F[k].1.length d) F[k].1 → RS Kd.bool W E e F[k].2.2 →
    Calls Try.prog g (#[.int .i64 (k : Int), .slice A F[k].1.length d, .bool F[k].2.1, .slice E F[k].2.2.length e] ++ lb) W fun en w' => en = .returned (.bool (go k F[k])) ∧ J (F.take (k + 1)) X w' ∧ Kept b X W w'
  eg : ∀ args w, (callFunc g args).run Try.prog w = .ok (.enter g args) w
/-- What holds in a walk: the function's own, the circuit's box, the state's row. -/
structure WkInv (F : List Fr) (J : List Fr → (Nat → Prop) → World → Prop) (w0 : World) (gc : Nat) (p : CP) (c : Circ) (k : Nat) (A : Option Addr) (n d : Nat) (st : List Bool) (X : Nat → Prop) (wr : World) : Prop where
  B : Below w0.heap.size w0 wr
  J : J (F.take k) X wr
  XB : ∀ q, X q → q < wr.heap.size
  C : wr.heap[gc]? = some (.cells #[.int .i64 c.f0, .slice p.A1 c.f1.length p.c1, .slice p.A2 c.f2.length p.c2, .slice p.A3 c.f3.length p.c3, .slice p.A4 c.f4.length p.c4] 26 (0, 0))
  G : X gc
  S : Kd.R Kd.bool 4 wr w0.heap.size X (.slice A n d) st
theorem Grow.lt {X : Nat → Prop} {a b : Nat} (h : ∀ q, X q → q < a) (hab : a ≤ b) : ∀ q, Grow X a b q → q < b := fun q hq => by
  rcases hq with h1 | h1
  · exact Nat.lt_of_lt_of_le (h q h1) hab
  · exact h1.2
/-- A call that lays blocks of its own alone. -/
theorem WkInv.below {F : List Fr} {J : List Fr → (Nat → Prop) → World → Prop} {w0 : World} {gc : Nat} {p : CP} {c : Circ} {k : Nat} {A : Option Addr} {n d : Nat} {st : List Bool} {X : Nat → Prop} {wr w1 : World}
    (h : WkInv F J w0 gc p c k A n d st X wr) (hk : ∀ h X W W', J h X W → Below W.heap.size W W' → J h (Grow X W.heap.size W'.heap.size) W') (hb : Below wr.heap.size wr w1) : WkInv F J w0 gc p c k A n d st (Grow X wr.heap.size w1.heap.size) w1 :=
  ⟨h.B.trans (hb.mono h.B.size), hk _ _ _ _ h.J hb, Grow.lt h.XB hb.size, blk_below h.C hb, Or.inl h.G, Kd.R_mono (Kd.R_below h.S hb) (fun _ hq => Or.inl hq)⟩
/-- The function's call. -/
theorem WkInv.kept {F : List Fr} {J : List Fr → (Nat → Prop) → World → Prop} {w0 : World} {gc : Nat} {p : CP} {c : Circ} {k : Nat} {A : Option Addr} {n d : Nat} {st : List Bool} {X : Nat → Prop} {wr w1 : World}
    (h : WkInv F J w0 gc p c k A n d st X wr) (hk : Kept w0.heap.size X wr w1) (hj : J (F.take (k + 1)) X w1) : WkInv F J w0 gc p c (k + 1) A n d st X w1 :=
  ⟨h.B.trans (hk.to h.B.size), hj, fun q hq => Nat.lt_of_lt_of_le (h.XB q hq) hk.size, (hk.block gc (h.XB gc h.G) (Or.inr h.G)).trans h.C, h.G, Kd.R_step h.S (fun q hq hlt => hk.block q hlt (Or.inr hq))⟩
/-- A new state. -/
theorem WkInv.next {F : List Fr} {J : List Fr → (Nat → Prop) → World → Prop} {w0 : World} {gc : Nat} {p : CP} {c : Circ} {k : Nat} {A : Option Addr} {n d : Nat} {st : List Bool} {X : Nat → Prop} {wr w1 : World} {A1 : Option Addr} {d1 n1 : Nat} {st1 : List Bool}
    (h : WkInv F J w0 gc p c k A n d st X wr) (hk : ∀ h X W W', J h X W → Below W.heap.size W W' → J h (Grow X W.heap.size W'.heap.size) W') (hb : Below wr.heap.size wr w1)
    (hr : Kd.R Kd.bool 4 w1 wr.heap.size (fun _ => True) (.slice A1 n1 d1) st1) : WkInv F J w0 gc p c k A1 n1 d1 st1 (Grow X wr.heap.size w1.heap.size) w1 :=
  let h1 := h.below hk hb
  ⟨h1.B, h1.J, h1.XB, h1.C, h1.G, Kd.R_lower (Kd.R_mono (Kd.R_bound hr) (fun q hq => Or.inr ⟨hq.2.1, hq.2.2.1⟩)) h.B.size⟩
end Go.Proofs.Ytchhbkicplgmhaa.PH
