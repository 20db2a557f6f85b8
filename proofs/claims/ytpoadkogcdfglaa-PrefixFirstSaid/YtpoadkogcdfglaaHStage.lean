/- Rows that grow one after the other, in a struct that the call itself made. -/
import Derived.Test.YtpoadkogcdfglaaHBase
import Derived.Test.YtpoadkogcdfglaaWLast
namespace Go.Proofs.Ytpoadkogcdfglaa.PH
open Go.RowKit Go.Proofs.YtpoadkogcdfglaaW.PrintWords Go.Proofs.YtpoadkogcdfglaaW.PrintLast
set_option linter.unusedVariables false
set_option linter.unusedSimpArgs false

/-- What holds in each world that has the blocks of S as they are. -/
def Held (S : Nat → Prop) (wr : World) (P : World → Prop) : Prop := ∀ W : World, (∀ k, S k → W.heap[k]? = wr.heap[k]?) → P W
theorem Held.self {S : Nat → Prop} {wr : World} {P : World → Prop} (h : Held S wr P) : P wr := h wr (fun _ _ => rfl)
theorem Held.move {S S' : Nat → Prop} {wr w2 : World} {P : World → Prop} (h : Held S wr P) (hs : ∀ k, S k → S' k) (hm : ∀ k, S k → w2.heap[k]? = wr.heap[k]?) : Held S' w2 P :=
  fun W hW => h W (fun k hk => (hW k (hs k hk)).trans (hm k hk))
theorem Held.and {S : Nat → Prop} {wr : World} {P Q : World → Prop} (h : Held S wr P) (k : Held S wr Q) : Held S wr (fun W => P W ∧ Q W) := fun W hW => ⟨h W hW, k W hW⟩
theorem Held.imp {S : Nat → Prop} {wr : World} {P Q : World → Prop} (h : Held S wr P) (hq : ∀ W, P W → Q W) : Held S wr Q := fun W hW => hq W (h W hW)
/-- A row of the call's own, held. -/
theorem Held.row {α : Type} {d : Kd α} {e b m c : Nat} {w : World} {V : Option Addr} {l : List α} {S : Nat → Prop} (h : d.R e w b (fun _ => True) (.slice V m c) l) (hS : ∀ k, b ≤ k → k < w.heap.size → S k) : Held S w (fun W => RS d W V c l) :=
  fun W hW => RS.of_R' (Kd.R_step (Kd.R_bound h) (fun k hk hlt => hW k (hS k hk.2.1 hlt)))
/-- A row grows: d, l, in the slot of the struct at gO; n: the row lies at or behind it; P: what is done; B: what is boxed, ahead of n0. -/
structure Stg {α : Type} (w : World) (n0 n gO T : Nat) (B P : World → Prop) (d : Kd α) (e : Nat) (cells : Array Value) (V : Option Addr) (m c : Nat) (l : List α) (wr : World) : Prop where
  BW : Below w.heap.size w wr
  N : w.heap.size ≤ n0 ∧ n0 ≤ gO ∧ gO < n ∧ n ≤ wr.heap.size
  HB : Held (fun k => k < n0) wr B
  HD : Held (fun k => n0 ≤ k ∧ k < n ∧ k ≠ gO) wr P
  BO : wr.heap[gO]? = some (.cells cells T (0, 0))
  RV : d.R e wr n (fun _ => True) (.slice V m c) l
section
variable {α : Type} {w : World} {n0 n gO T : Nat} {B P : World → Prop} {d : Kd α} {e : Nat} {cells : Array Value} {V V' : Option Addr} {m m' c c' : Nat} {l l' : List α} {wr w2 : World}
theorem Stg.below (h : Stg w n0 n gO T B P d e cells V m c l wr) (hb : Below wr.heap.size wr w2) : Stg w n0 n gO T B P d e cells V m c l w2 :=
  ⟨h.BW.trans (hb.mono h.BW.size), ⟨h.N.1, h.N.2.1, h.N.2.2.1, Nat.le_trans h.N.2.2.2 hb.size⟩, h.HB.move (fun _ hk => hk) (fun k hk => hb.block k (by have := h.N; omega)), h.HD.move (fun _ hk => hk) (fun k hk => hb.block k (by have := h.N; omega)), blk_below h.BO hb, Kd.R_below h.RV hb⟩
theorem Stg.app (h : Stg w n0 n gO T B P d e cells V m c l wr) (hb : Below n wr w2) (hR : d.R e w2 n (fun _ => True) (.slice V' m' c') l') : Stg w n0 n gO T B P d e cells V' m' c' l' w2 :=
  ⟨h.BW.trans (hb.mono (by have := h.N; omega)), ⟨h.N.1, h.N.2.1, h.N.2.2.1, Nat.le_trans h.N.2.2.2 hb.size⟩, h.HB.move (fun _ hk => hk) (fun k hk => hb.block k (by have := h.N; omega)), h.HD.move (fun _ hk => hk) (fun k hk => hb.block k (by omega)), (hb.block gO h.N.2.2.1).trans h.BO, hR⟩
theorem Stg.put (h : Stg w n0 n gO T B P d e cells V m c l wr) (ht : ∀ q, q ∈ e :: d.E → q ≠ T) (i : Nat) (u : Value) {cells' : Array Value} (hc : cells.setIfInBounds i u = cells') : Stg w n0 n gO T B P d e cells' V m c l (wr.setCell ⟨gO, i, none⟩ u) :=
  hc ▸ ⟨below_set h.BW (by have := h.N; omega), ⟨h.N.1, h.N.2.1, h.N.2.2.1, by have h_ := h.N.2.2.2; simpa using h_⟩, h.HB.move (fun _ hk => hk) (fun k hk => Below.heap_setCell wr ⟨gO, i, none⟩ u k (show k ≠ gO by have := h.N; omega)),
    h.HD.move (fun _ hk => hk) (fun k hk => Below.heap_setCell wr ⟨gO, i, none⟩ u k hk.2.2), blk_set h.BO i u, Kd.R_set h.RV h.BO ht i u⟩
theorem Stg.sz (h : Stg w n0 n gO T B P d e cells V m c l wr) : n ≤ wr.heap.size := h.N.2.2.2
/-- The row is done; another one begins. -/
theorem Stg.next (h : Stg w n0 n gO T B P d e cells V m c l wr) {β : Type} (d2 : Kd β) (e2 : Nat) : Stg w n0 wr.heap.size gO T B (fun W => P W ∧ RS d W V c l) d2 e2 cells none 0 0 ([] : List β) wr :=
  ⟨h.BW, ⟨h.N.1, h.N.2.1, Nat.lt_of_lt_of_le h.N.2.2.1 h.N.2.2.2, Nat.le_refl _⟩, h.HB, Held.and (h.HD.move (fun k hk => ⟨hk.1, by have := h.N; omega, hk.2.2⟩) (fun _ _ => rfl)) (Held.row h.RV (fun k h1 h2 => ⟨by have := h.N; omega, h2, by have := h.N; omega⟩)), h.BO, Kd.R_nil _ _ _ _ _⟩
end
/-- The struct is made: nothing in it grows yet. -/
theorem Stg.start {w w1 : World} {n0 T : Nat} {B : World → Prop} {cells : Array Value} {α : Type} (d : Kd α) (e : Nat) (hw : Below w.heap.size w w1) (h0 : w.heap.size ≤ n0) (h1 : n0 ≤ w1.heap.size) (hB : Held (fun k => k < n0) w1 B) :
    Stg w n0 (w1.heap.size + 1) w1.heap.size T B (fun _ => True) d e cells none 0 0 ([] : List α) (w1.alloc (.cells cells T)) :=
  ⟨below_alloc hw _, ⟨h0, h1, Nat.lt_succ_self _, by simp⟩, hB.move (fun _ hk => hk) (fun k hk => (below_alloc (Below.refl w1.heap.size w1) (.cells cells T)).block k (Nat.lt_of_lt_of_le hk h1)), fun _ _ => trivial, blk_new _ _, Kd.R_nil _ _ _ _ _⟩
theorem Held.blk {S : Nat → Prop} {wr : World} {g : Nat} {o : Obj} (h : wr.heap[g]? = some o) (hg : S g) : Held S wr (fun W => W.heap[g]? = some o) := fun W hW => (hW g hg).trans h
end Go.Proofs.Ytpoadkogcdfglaa.PH
