/- Maps of the call's own with numbers as elements, by functions; appends and map stores at the operation, piece by piece. -/
import Derived.Test.YtpoadkogcdfglaaHSep
import Derived.Test.YtpoadkogcdfglaaHClone
import Derived.Maps.OwnOps
namespace Go.Proofs.Ytpoadkogcdfglaa.PH
open Go.RowKit Go.Proofs.YtpoadkogcdfglaaW.PrintWords Go.Proofs.YtpoadkogcdfglaaW.PrintLast
set_option linter.unusedVariables false
set_option linter.unusedSimpArgs false

/-! ### Appends -/
section
variable {P : Program} {ops : Array Oper} {rest : List Oper} {o : Oper} {a : Act} {Q : Exit → Act → World → Prop} {Kc : Act → World → Prop}
variable {b : Nat} {w0 W : World} {ps : List Pc} {α : Type} {d : Kd α} {e : Nat} {v : Value} {xs : List α}
theorem Parts.appendL (h : Parts b w0 W ps) (i : Nat) (hi : ps[i]? = some (pF b d e v xs)) (fl : Flat d) (hgd : o.guard = none) (s x : Operand) (t : TypeId) (z : Value) (bytes : Nat)
    (ho : o.op = .call { callee := .builtin .append, args := #[s, x], argTypes := #[t, t] }) (ht : P.underlying t = some (.slice e)) (hinfo : (P.info? e).map (fun i => (i.zero, i.size, i.bytes)) = some (some z, d.sz, bytes)) (hz : z.cells.size = d.sz) (hs0 : 0 < d.sz) (hb0 : 0 < bytes)
    (p : α) (cs : List Value) (hs : a.eval s = v) (hx : a.eval x = .slice (some ⟨W.heap.size, 0, none⟩) 1 1) (hp : d.M W b (fun _ => False) p cs) (hl : (xs.length + 1) * bytes ≤ 140737488355328)
    (K : ∀ V cap w1, Parts b w0 w1 (ps.set i (pF b d e (.slice V (xs.length + 1) cap) (xs ++ [p]))) → wpList P ops Q rest (a.put o.dst (.slice V (xs.length + 1) cap)) w1) : wpList P ops Q (o :: rest) a (W.alloc (.cells cs.toArray e)) := by
  refine Kd.R_append d (w0 := w0) b hgd s x t e z bytes ho ht hinfo hz hs0 hb0 v xs p cs (fun _ => True) (fun _ => False) hs hx hp (fun _ h => h.elim) (fun _ _ => trivial) (h.ownF i hi) h.B h.z hl ?_
  intro v1 w1 ho1 hb hg hat
  have h1 := h.app i hi fl ho1 hg hat
  obtain ⟨V, cap, rfl⟩ := Kd.R_slice ho1
  rw [List.length_append, List.length_singleton] at h1 ⊢
  exact K V cap w1 h1
theorem Parts.appendS (h : Parts b w0 W ps) (i : Nat) (hi : ps[i]? = some (pF b d e v xs)) (fl : Flat d) (hw : Region.wanted o (yielded ops a.tmps) = true) (s x : Operand) (t : TypeId) (z : Value) (bytes : Nat)
    (ho : o.op = .call { callee := .builtin .append, args := #[s, x], argTypes := #[t, t] }) (ht : P.underlying t = some (.slice e)) (hinfo : (P.info? e).map (fun i => (i.zero, i.size, i.bytes)) = some (some z, d.sz, bytes)) (hz : z.cells.size = d.sz) (hs0 : 0 < d.sz) (hb0 : 0 < bytes)
    (p : α) (cs : List Value) (hs : a.eval s = v) (hx : a.eval x = .slice (some ⟨W.heap.size, 0, none⟩) 1 1) (hp : d.M W b (fun _ => False) p cs) (hl : (xs.length + 1) * bytes ≤ 140737488355328)
    (K : ∀ V cap w1, Parts b w0 w1 (ps.set i (pF b d e (.slice V (xs.length + 1) cap) (xs ++ [p]))) → Kc (a.put o.dst (.slice V (xs.length + 1) cap)) w1) :
    if Region.wanted o (yielded ops a.tmps) = true then Oper.wp P o a (W.alloc (.cells cs.toArray e)) Kc Q else Kc (a.put o.dst undef) (W.alloc (.cells cs.toArray e)) := by
  refine Kd.R_append_step d (w0 := w0) b hw s x t e z bytes ho ht hinfo hz hs0 hb0 v xs p cs (fun _ => True) (fun _ => False) hs hx hp (fun _ h => h.elim) (fun _ _ => trivial) (h.ownF i hi) h.B h.z hl ?_
  intro v1 w1 ho1 hb hg hat
  have h1 := h.app i hi fl ho1 hg hat
  obtain ⟨V, cap, rfl⟩ := Kd.R_slice ho1
  rw [List.length_append, List.length_singleton] at h1 ⊢
  exact K V cap w1 h1
/-- A whole row is appended. -/
theorem Parts.appendR {enc : α → Value} {h1 : ∀ x : α, (enc x).oneCell' = true} (dft : α) (h : Parts b w0 W ps) (i : Nat) (hi : ps[i]? = some (pF b (Kd.scalar enc h1) e v xs)) (hgd : o.guard = none) (s x : Operand) (t : TypeId) (z : Value) (bytes : Nat)
    (ho : o.op = .call { callee := .builtin .append, args := #[s, x], argTypes := #[t, t] }) (ht : P.underlying t = some (.slice e)) (hinfo : (P.info? e).map (fun i => (i.zero, i.size, i.bytes)) = some (some z, 1, bytes)) (hz : z.cells.size = 1) (hb0 : 0 < bytes)
    (ys : List α) (A : Option Addr) (c : Nat) (hs : a.eval s = v) (hx : a.eval x = .slice A ys.length c) (hR : RS (Kd.scalar enc h1) W A c ys) (hl : (xs.length + ys.length) * bytes ≤ 140737488355328)
    (K : ∀ V cap w1, Parts b w0 w1 (ps.set i (pF b (Kd.scalar enc h1) e (.slice V (xs.length + ys.length) cap) (xs ++ ys))) → wpList P ops Q rest (a.put o.dst (.slice V (xs.length + ys.length) cap)) w1) : wpList P ops Q (o :: rest) a W := by
  refine Kd.R_append_row enc dft (h1 := h1) (w0 := w0) b hgd s x t e z bytes ho ht hinfo hz hb0 v xs ys A ys.length c (fun _ => True) hs hx (fun _ _ => trivial) (h.ownF i hi) hR.r h.B h.z hl ?_
  intro v1 w1 ho1 hb hg hat
  have h2 := h.app i hi (fun h => h) ho1 hg hat
  obtain ⟨V, cap, rfl⟩ := Kd.R_slice ho1
  rw [List.length_append] at h2 ⊢
  exact K V cap w1 h2
theorem Parts.makeL (h : Parts b w0 W ps) (d : Kd α) (e : Nat) (fl : Flat d) (hgd : o.guard = none) {N : Tmp} (hd : o.dst = some N) (t : TypeId) (x y : Operand) (ho : o.op = .makeSlice t x y) (n : Nat) (hx : a.eval x = .int .i64 (n : Int)) (hy : a.eval y = .int .i64 (n : Int))
    (ht : P.underlying t = some (.slice e)) (z : Value) (bytes : Nat) (hinfo : (P.info? e).map (fun i => (i.zero, i.size, i.bytes)) = some (some z, d.sz, bytes)) (hz : z.cells.size = d.sz) (hs0 : 0 < d.sz) (hb0 : 0 < bytes)
    (z0 : α) (hzero : d.M W b (fun _ => False) z0 z.cells.toList) (hl : n * bytes ≤ 281474976710656)
    (K : ∀ g cap w1, W.heap.size ≤ g → Parts b w0 w1 (pF b d e (.slice (some ⟨g, 0, none⟩) n cap) (List.replicate n z0) :: ps) → wpList P ops Q rest (a.put o.dst (.slice (some ⟨g, 0, none⟩) n cap)) w1) : wpList P ops Q (o :: rest) a W := by
  refine Kd.R_make d (w0 := w0) b e hgd hd t x y ho (n : Int) hx hy ht z bytes hinfo hz hs0 hb0 z0 (ok := fun _ => True) (okp := fun _ => False) hzero (fun _ h => h.elim) trivial (by omega) (by simpa using hl) h.B h.z ?_
  intro v1 w1 ho1 hb hg ⟨k, hk, hWk⟩
  rw [Int.toNat_natCast] at ho1
  have h1 := h.freshG fl hg ho1 (fun j hj => by rw [hk] at hj; cases hj; exact hWk)
  obtain ⟨_, inner, hown, _⟩ := ho1
  rw [List.length_replicate] at hown
  rcases hown.2 with ⟨rfl, _⟩ | ⟨g, cap, cur, rfl, _⟩
  · simp [Value.ownBlock] at hk
  · exact K g cap w1 (by simp [Value.ownBlock] at hk; omega) h1
end

/-! ### Maps -/
/-- A kind of keys: how a key is written, and what it reads as. -/
structure Ky (P : Program) (K : TypeId) (κ : Type) where
  enc : κ → Value
  lit : κ → Lit
  ok : κ → Prop
  hk : ∀ k, ok k → keyOf P K (enc k) = some (lit k)
  inj : ∀ a b, ok a → ok b → lit a = lit b → a = b
  isKey : ∀ k, ok k → WideAt.IsKeyLit (lit k)
  law : Maps.Keyed P K
def MapI {P : Program} {K : TypeId} {κ : Type} (y : Ky P K κ) (E : TypeId) (w : World) (B n : Nat) (f : κ → Option Int) : Prop :=
  ∃ D : DataW Unit, w.ownsMap P K (plainElem P E) B n D ∧ ∀ k, y.ok k → Maps.has D (y.lit k) = (f k).isSome ∧ D.atKey (y.lit k) (.lit (.int .i64 0)) = .lit (.int .i64 ((f k).getD 0))
theorem ownsMap_move {H : Type} {P : Program} {K : TypeId} {R : Value → Option (DataW H × List MemPlace)} {w w1 : World} {B n : Nat} {D : DataW H} (h : w.ownsMap P K R B n D) (hm : w1.heap[B]? = w.heap[B]?) : w1.ownsMap P K R B n D := by
  obtain ⟨es, clock, hb, F, hs, hD⟩ := h
  exact ⟨es, clock, hm.trans hb, F, hs, hD⟩
def pM {P : Program} {K : TypeId} {κ : Type} (y : Ky P K κ) (E : TypeId) (B n : Nat) (f : κ → Option Int) : Pc := ⟨fun k => k = B, fun w => MapI y E w B n f, fun hm h => by
  obtain ⟨D, h1, h2⟩ := h
  exact ⟨D, ownsMap_move h1 (hm B rfl), h2⟩⟩
section
variable {P : Program} {K : TypeId} {κ : Type} {y : Ky P K κ} {E t : TypeId} {w : World} {B n : Nat} {f : κ → Option Int}
theorem MapI.made (w : World) : MapI y E (w.alloc (.map #[] 0)) w.heap.size 0 (fun _ => none) :=
  ⟨.map [], World.ownsMap_made w P K _, fun k hk => ⟨by simp [Maps.has_eq], Maps.atKey_of_not_has (by simp [Maps.has_eq]) _⟩⟩
theorem MapI.congr (h : MapI y E w B n f) {g : κ → Option Int} (hg : ∀ k, y.ok k → g k = f k) : MapI y E w B n g := by
  obtain ⟨D, h1, h2⟩ := h
  exact ⟨D, h1, fun k hk => by rw [hg k hk]; exact h2 k hk⟩
theorem zero_int (he : P.underlying E = some (.int .i64)) (hz : (zeroValue E).run P w = .ok (.int .i64 0) w) : (plainElem (H := Unit) P E (.int .i64 0)) = some (.lit (.int .i64 0), []) := plainElem_int he (by decide)
theorem MapI.look (h : MapI y E w B n f) (ht : P.underlying t = some (.map K E)) (he : P.underlying E = some (.int .i64)) (hz : (zeroValue E).run P w = .ok (.int .i64 0) w) {k : κ} (hk : y.ok k) :
    (Instr.lookup t (.map (some B)) (y.enc k) false).run P w = .ok (.int .i64 ((f k).getD 0)) w := by
  obtain ⟨D, h1, h2⟩ := h
  obtain ⟨c, hrun, hat, _⟩ := h1.lookup_int y.law ht he hz (y.hk k hk)
  have h3 := (h2 k hk).2
  rw [hat] at h3
  injection h3 with h3
  injection h3 with _ h3
  rw [← h3]; exact hrun
theorem MapI.look2 (h : MapI y E w B n f) (ht : P.underlying t = some (.map K E)) (he : P.underlying E = some (.int .i64)) (hz : (zeroValue E).run P w = .ok (.int .i64 0) w) {k : κ} (hk : y.ok k) :
    (Instr.lookup t (.map (some B)) (y.enc k) true).run P w = .ok (.tuple #[.int .i64 ((f k).getD 0), .bool (f k).isSome]) w := by
  obtain ⟨D, h1, h2⟩ := h
  obtain ⟨v, ps, hrun, hv⟩ := h1.look_ok y.law ht hz (plainElem_int (H := Unit) he (by decide)) (y.hk k hk)
  obtain ⟨c, rfl, hc, _⟩ := plainElem_int_inv he hv
  have h3 := (h2 k hk).2
  have h4 := congrArg Prod.fst hc
  dsimp only at h4
  rw [h4] at h3
  injection h3 with h3
  injection h3 with _ h3
  rw [← h3, ← (h2 k hk).1]; exact hrun
theorem MapI.store [DecidableEq κ] (h : MapI y E w B n f) (ht : P.underlying t = some (.map K E)) (he : P.underlying E = some (.int .i64)) (hn : n < maxLen) {k : κ} (hk : y.ok k) {x : Int} (hx : (Lit.int .i64 x).wf = true) :
    ∃ w', (Instr.mapUpdate t (.map (some B)) (y.enc k) (.int .i64 x)).run P w = .ok () w' ∧ MapI y E w' B (n + 1) (fun j => if j = k then some x else f j) ∧ w.grownBy w' (some B) := by
  obtain ⟨D, h1, h2⟩ := h
  obtain ⟨w', hrun, h3, h4⟩ := h1.update y.law ht hn (y.hk k hk) (plainElem_int (H := Unit) he hx)
  refine ⟨w', hrun, ⟨_, h3, fun j hj => ?_⟩, h4⟩
  by_cases hjk : j = k
  · subst hjk
    dsimp only
    rw [if_pos rfl]
    exact ⟨Maps.has_put_same h1.isMap (y.isKey j hj) _, Maps.atKey_put_same h1.isMap (y.isKey j hj) _ _⟩
  · dsimp only
    rw [if_neg hjk]
    have hne : y.lit j ≠ y.lit k := fun e => hjk (y.inj j k hj hk e)
    rw [Maps.has_put_other hne, Maps.atKey_put_other hne]
    exact h2 j hj
end
section
variable {P : Program} {ops : Array Oper} {rest : List Oper} {o : Oper} {a : Act} {Q : Exit → Act → World → Prop}
theorem updL_run {W w1 : World} (hgd : o.guard = none) (m x u : Operand) (t : TypeId) (hop : o.op = Op.mapUpdate t m x u) {mv kv xv : Value} (hm : a.eval m = mv) (hx : a.eval x = kv) (hu : a.eval u = xv) (hrun : (Instr.mapUpdate t mv kv xv).run P W = .ok () w1) (hK : wpList P ops Q rest (a.put o.dst undef) w1) : wpList P ops Q (o :: rest) a W := by
  refine wpList_plain hgd fun K' hK' => ?_
  unfold Oper.wp
  simp [execOp, hop, hm, hx, hu, hrun, Result.andThen]
  exact hK' _ _ hK
theorem insL_run {W w1 : World} (hgd : o.guard = none) (m x u : Operand) (t : TypeId) (hop : o.op = Op.insert t m x u) {mv kv xv : Value} (hm : a.eval m = mv) (hx : a.eval x = kv) (hu : a.eval u = xv) (hrun : (Instr.mapUpdate t mv kv xv).run P W = .ok () w1) (hK : wpList P ops Q rest (a.put o.dst undef) w1) : wpList P ops Q (o :: rest) a W := by
  refine wpList_plain hgd fun K' hK' => ?_
  unfold Oper.wp
  simp [execOp, hop, hm, hx, hu, hrun, Result.andThen]
  exact hK' _ _ hK
end
theorem Parts.made {P : Program} {K : TypeId} {κ : Type} (y : Ky P K κ) (E : TypeId) {b : Nat} {w0 w : World} {ps : List Pc} (h : Parts b w0 w ps) : Parts b w0 (w.alloc (.map #[] 0)) (pM y E w.heap.size 0 (fun _ => none) :: ps) :=
  h.push (below_alloc (Below.refl _ _) _) (MapI.made w) (fun k hk => by rw [show k = w.heap.size from hk]; exact ⟨Nat.le_refl _, by simp⟩)
theorem Parts.stored {P : Program} {K : TypeId} {κ : Type} {y : Ky P K κ} {E : TypeId} {b B n m : Nat} {w0 w w1 : World} {ps : List Pc} {f g : κ → Option Int} (h : Parts b w0 w ps) (i : Nat) (hi : ps[i]? = some (pM y E B n f)) (hm : MapI y E w1 B m g) (hg : w.grownBy w1 (some B)) : Parts b w0 w1 (ps.set i (pM y E B m g)) :=
  h.upd i hi hg (fun k hk => (Option.some.inj hk).symm) hm (fun k hk => ⟨.inl hk, by have := (h.hF i _ hi B rfl).2; have := hg.size; rw [show k = B from hk]; omega⟩)
/-- Keys that are numbers. -/
def kyInt (P : Program) (K : TypeId) (hK : P.underlying K = some (.int .i64)) : Ky P K Int where
  enc := fun k => .int .i64 k
  lit := fun k => .int .i64 k
  ok := I64
  hk := fun k hk => Maps.keyOf_int_mk hK (WalkArith.wf_i64 hk)
  inj := fun a b _ _ h => by injection h
  isKey := fun k _ => by trivial
  law := Maps.int_keyed hK
end Go.Proofs.Ytpoadkogcdfglaa.PH
