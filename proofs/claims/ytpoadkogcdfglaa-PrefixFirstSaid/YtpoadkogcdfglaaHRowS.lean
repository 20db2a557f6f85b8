/- Rows that are laid and appended in regions that draw their order, piece by piece. -/
import Derived.Test.YtpoadkogcdfglaaHMap
namespace Go.Proofs.Ytpoadkogcdfglaa.PH
open Go.RowKit Go.Proofs.YtpoadkogcdfglaaW.PrintWords Go.Proofs.YtpoadkogcdfglaaW.PrintLast
set_option linter.unusedVariables false
set_option linter.unusedSimpArgs false

/-- What is read of an element is all that is told of it. -/
def FlatK {α : Type} (d : Kd α) : Prop := ∀ {w w' : World} {base : Nat} {ok : Nat → Prop} {x : α} {cs : List Value}, d.K w x cs → d.M w' base ok x cs
theorem flatK_int {k : IntKind} : FlatK (Kd.int k) := fun h => h
theorem flatK_bool : FlatK Kd.bool := fun h => h
theorem flatK_latch : FlatK kLatch := fun h => by obtain rfl := kLatch_open h; exact kLatch_mkM _ _ _ _
theorem flatK_gate : FlatK kGate := fun h => by obtain rfl := kGate_open h; exact kGate_mkM _ _ _ _
section
variable {P : Program} {ops : Array Oper} {rest : List Oper} {o : Oper} {a : Act} {Q : Exit → Act → World → Prop} {Kc : Act → World → Prop}
variable {b : Nat} {w0 W : World} {ps : List Pc} {α : Type} {d : Kd α} {e : Nat} {v : Value} {xs : List α}
/-- A literal row, in a region. -/
theorem Parts.litS (h : Parts b w0 W ps) (d : Kd α) (e : Nat) (fl : Flat d) (hw : Region.wanted o (yielded ops a.tmps) = true) {N : Tmp} (hd : o.dst = some N) (xs : List α) (inner : List Value)
    (hrun : (execOp a.eval o).run P W = .ok (.value (.slice (some ⟨W.heap.size, 0, none⟩) xs.length xs.length)) (W.alloc (.cells inner.toArray e))) (hrep : Reps (d.M W b (fun _ => False)) d.sz xs inner) (hm : xs.length ≤ 9223372036854775807)
    (K : ∀ V cap w1, Parts b w0 w1 (pF b d e (.slice V xs.length cap) xs :: ps) → Kc (a.put o.dst (.slice V xs.length cap)) w1) : if Region.wanted o (yielded ops a.tmps) = true then Oper.wp P o a W Kc Q else Kc (a.put o.dst undef) W := by
  refine Kd.R_lit_step d (w0 := w0) b e hw hd (xs := xs) (inner := inner) (ok := fun _ => True) (okp := fun _ => False) hrun hrep (fun _ h => h.elim) trivial h.B h.z hm ?_
  intro v1 w1 ho hb hg ⟨k, hk, hWk⟩
  have h1 := h.freshG fl hg ho (fun j hj => by rw [hk] at hj; cases hj; exact hWk)
  obtain ⟨V, cap, rfl⟩ := Kd.R_slice ho
  exact K V cap w1 h1
/-- A literal row, in a plain list. -/
theorem Parts.litL (h : Parts b w0 W ps) (d : Kd α) (e : Nat) (fl : Flat d) (hgd : o.guard = none) {N : Tmp} (hd : o.dst = some N) (xs : List α) (inner : List Value)
    (hrun : (execOp a.eval o).run P W = .ok (.value (.slice (some ⟨W.heap.size, 0, none⟩) xs.length xs.length)) (W.alloc (.cells inner.toArray e))) (hrep : Reps (d.M W b (fun _ => False)) d.sz xs inner) (hm : xs.length ≤ 9223372036854775807)
    (K : ∀ V cap w1, Parts b w0 w1 (pF b d e (.slice V xs.length cap) xs :: ps) → wpList P ops Q rest (a.put o.dst (.slice V xs.length cap)) w1) : wpList P ops Q (o :: rest) a W := by
  refine Kd.R_lit d (w0 := w0) b e hgd hd (xs := xs) (inner := inner) (ok := fun _ => True) (okp := fun _ => False) hrun hrep (fun _ h => h.elim) trivial h.B h.z hm ?_
  intro v1 w1 ho hb hg ⟨k, hk, hWk⟩
  have h1 := h.freshG fl hg ho (fun j hj => by rw [hk] at hj; cases hj; exact hWk)
  obtain ⟨V, cap, rfl⟩ := Kd.R_slice ho
  exact K V cap w1 h1
/-- A whole row is appended, in a region. -/
theorem Parts.appendRS (h : Parts b w0 W ps) (i : Nat) (hi : ps[i]? = some (pF b d e v xs)) (fl : Flat d) (fk : FlatK d) (hw : Region.wanted o (yielded ops a.tmps) = true) (s x : Operand) (t : TypeId) (z : Value) (bytes : Nat)
    (ho : o.op = .call { callee := .builtin .append, args := #[s, x], argTypes := #[t, t] }) (ht : P.underlying t = some (.slice e)) (hinfo : (P.info? e).map (fun i => (i.zero, i.size, i.bytes)) = some (some z, d.sz, bytes)) (hz : z.cells.size = d.sz) (hs0 : 0 < d.sz) (hb0 : 0 < bytes)
    (ys : List α) (A : Option Addr) (c : Nat) (hs : a.eval s = v) (hx : a.eval x = .slice A ys.length c) (hR : RS d W A c ys) (hl : (xs.length + ys.length) * bytes ≤ 140737488355328)
    (K : ∀ V cap w1, Parts b w0 w1 (ps.set i (pF b d e (.slice V (xs.length + ys.length) cap) (xs ++ ys))) → Kc (a.put o.dst (.slice V (xs.length + ys.length) cap)) w1) :
    if Region.wanted o (yielded ops a.tmps) = true then Oper.wp P o a W Kc Q else Kc (a.put o.dst undef) W := by
  refine Kd.R_append_rows_step d (Rr := d.K W) (w0 := w0) b hw s x t e z bytes ho ht hinfo hz hs0 hb0 v xs ys A ys.length c (fun _ => True) (fun _ => False) hs hx (h.ownF i hi) hR.r (fun x cs hx => fk hx) (fun _ h => h.elim) (fun _ _ => trivial) h.B h.z hl ?_
  intro v1 w1 ho1 hb hg hat
  have h2 := h.app i hi fl ho1 hg hat
  obtain ⟨V, cap, rfl⟩ := Kd.R_slice ho1
  rw [List.length_append] at h2 ⊢
  exact K V cap w1 h2
/-- A whole row is appended, of whatever flat kind. -/
theorem Parts.appendRL (h : Parts b w0 W ps) (i : Nat) (hi : ps[i]? = some (pF b d e v xs)) (fl : Flat d) (fk : FlatK d) (hgd : o.guard = none) (s x : Operand) (t : TypeId) (z : Value) (bytes : Nat)
    (ho : o.op = .call { callee := .builtin .append, args := #[s, x], argTypes := #[t, t] }) (ht : P.underlying t = some (.slice e)) (hinfo : (P.info? e).map (fun i => (i.zero, i.size, i.bytes)) = some (some z, d.sz, bytes)) (hz : z.cells.size = d.sz) (hs0 : 0 < d.sz) (hb0 : 0 < bytes)
    (ys : List α) (A : Option Addr) (c : Nat) (hs : a.eval s = v) (hx : a.eval x = .slice A ys.length c) (hR : RS d W A c ys) (hl : (xs.length + ys.length) * bytes ≤ 140737488355328)
    (K : ∀ V cap w1, Parts b w0 w1 (ps.set i (pF b d e (.slice V (xs.length + ys.length) cap) (xs ++ ys))) → wpList P ops Q rest (a.put o.dst (.slice V (xs.length + ys.length) cap)) w1) : wpList P ops Q (o :: rest) a W := by
  refine Kd.R_append_rows d (Rr := d.K W) (w0 := w0) b hgd s x t e z bytes ho ht hinfo hz hs0 hb0 v xs ys A ys.length c (fun _ => True) (fun _ => False) hs hx (h.ownF i hi) hR.r (fun x cs hx => fk hx) (fun _ h => h.elim) (fun _ _ => trivial) h.B h.z hl ?_
  intro v1 w1 ho1 hb hg hat
  have h2 := h.app i hi fl ho1 hg hat
  obtain ⟨V, cap, rfl⟩ := Kd.R_slice ho1
  rw [List.length_append] at h2 ⊢
  exact K V cap w1 h2
end
end Go.Proofs.Ytpoadkogcdfglaa.PH
