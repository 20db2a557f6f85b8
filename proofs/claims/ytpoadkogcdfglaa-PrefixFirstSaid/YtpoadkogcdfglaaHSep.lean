/- Memory of a call's own, piece by piece: no two pieces share a block. -/
import Derived.Test.YtpoadkogcdfglaaHStage
import Derived.Maps.OwnSet
namespace Go.Proofs.Ytpoadkogcdfglaa.PH
open Go.RowKit Go.Proofs.YtpoadkogcdfglaaW.PrintWords Go.Proofs.YtpoadkogcdfglaaW.PrintLast
set_option linter.unusedVariables false
set_option linter.unusedSimpArgs false

/-- A piece: which blocks it has, and what it says of them. -/
structure Pc where
  F : Nat → Prop
  P : World → Prop
  loc : ∀ {W W' : World}, (∀ k, F k → W'.heap[k]? = W.heap[k]?) → P W → P W'
structure Parts (b : Nat) (w0 w : World) (ps : List Pc) : Prop where
  B : Below b w0 w
  z : b ≤ w.heap.size
  hP : ∀ (i : Nat) (p : Pc), ps[i]? = some p → p.P w
  hF : ∀ (i : Nat) (p : Pc), ps[i]? = some p → ∀ k, p.F k → b ≤ k ∧ k < w.heap.size
  ap : ∀ (i j : Nat) (p q : Pc), i ≠ j → ps[i]? = some p → ps[j]? = some q → ∀ k, p.F k → ¬ q.F k
/-- A block of cells. -/
def pB (g : Nat) (t : TypeId) (cs : Array Value) : Pc := ⟨fun k => k = g, fun w => w.heap[g]? = some (.cells cs t (0, 0)), fun hm h => (hm g rfl).trans h⟩
/-- A row, with the rows inside. -/
def pR {α : Type} (b : Nat) (d : Kd α) (e : Nat) (ok : Nat → Prop) (v : Value) (xs : List α) : Pc := ⟨ok, fun w => d.R e w b ok v xs, fun hm h => Kd.R_move h hm⟩
/-- A row without rows inside. -/
def pF {α : Type} (b : Nat) (d : Kd α) (e : Nat) (v : Value) (xs : List α) : Pc := pR b d e (fun k => v.ownBlock = some k) v xs
/-- Something that holds in each world that has the blocks F as they are. -/
def pH (F : Nat → Prop) (w : World) (P : World → Prop) : Pc := ⟨F, fun W => Held F W P, fun hm h => h.move (fun _ hk => hk) hm⟩
/-- Kinds without rows inside. -/
def Flat {α : Type} (d : Kd α) : Prop := ∀ {w w' : World} {base base' : Nat} {ok ok' : Nat → Prop} {x : α} {cs : List Value}, d.M w base ok x cs → d.M w' base' ok' x cs
theorem flat_int {k : IntKind} : Flat (Kd.int k) := fun h => h
theorem flat_bool : Flat Kd.bool := fun h => h
theorem flat_latch : Flat kLatch := fun h => h
theorem flat_gate : Flat kGate := fun h => h
theorem flat_own {α : Type} {d : Kd α} (fl : Flat d) {e : Nat} {w : World} {b : Nat} {ok : Nat → Prop} {v : Value} {xs : List α} (h : d.R e w b ok v xs) : d.R e w b (fun k => v.ownBlock = some k) v xs :=
  ⟨fun _ hk => hk, h.2.imp_ (fun _ _ hp => fl hp)⟩
section
variable {b : Nat} {w0 w w1 : World} {ps : List Pc}
theorem Parts.start (w : World) : Parts w.heap.size w w [] := ⟨Below.refl _ _, Nat.le_refl _, fun _ _ h => by simp at h, fun _ _ h => by simp at h, fun _ _ _ _ _ h => by simp at h⟩
theorem Parts.start' {w0 w : World} (hb : Below w0.heap.size w0 w) : Parts w0.heap.size w0 w [] := ⟨hb, hb.size, fun _ _ h => by simp at h, fun _ _ h => by simp at h, fun _ _ _ _ _ h => by simp at h⟩
/-- What nobody here has may turn; so may what a piece has that turns with it. -/
theorem Parts.upd (h : Parts b w0 w ps) (i : Nat) {p p' : Pc} (hi : ps[i]? = some p) {row : Option Nat} (hg : w.grownBy w1 row) (hr : ∀ k, row = some k → p.F k) (hp : p'.P w1) (hf : ∀ k, p'.F k → (p.F k ∨ w.heap.size ≤ k) ∧ k < w1.heap.size) : Parts b w0 w1 (ps.set i p') := by
  have hlt : i < ps.length := (List.getElem?_eq_some_iff.1 hi).1
  have key : ∀ (j : Nat) (q : Pc), (ps.set i p')[j]? = some q → (j = i ∧ q = p') ∨ (j ≠ i ∧ ps[j]? = some q) := fun j q hq => by
    rw [List.getElem?_set] at hq
    by_cases hj : i = j
    · rw [if_pos hj] at hq
      subst hj
      rw [if_pos hlt] at hq
      exact .inl ⟨rfl, (Option.some.inj hq).symm⟩
    · rw [if_neg hj] at hq
      exact .inr ⟨Ne.symm hj, hq⟩
  have far : ∀ (j : Nat) (q : Pc), j ≠ i → ps[j]? = some q → ∀ k, q.F k → w1.heap[k]? = w.heap[k]? := fun j q hj hq k hk =>
    hg.block k (h.hF j q hq k hk).2 (fun he => h.ap j i q p hj hq hi k hk (hr k he.symm))
  refine ⟨h.B.grown hg h.z (fun k hk => (h.hF i p hi k (hr k hk)).1), Nat.le_trans h.z hg.size, fun j q hq => ?_, fun j q hq k hk => ?_, fun j l q r hjl hq hr' k hk hk2 => ?_⟩
  · rcases key j q hq with ⟨rfl, rfl⟩ | ⟨hj, hq'⟩
    · exact hp
    · exact q.loc (far j q hj hq') (h.hP j q hq')
  · rcases key j q hq with ⟨rfl, rfl⟩ | ⟨hj, hq'⟩
    · have h1 := hf k hk
      rcases h1.1 with h2 | h2
      · exact ⟨(h.hF _ p hi k h2).1, h1.2⟩
      · exact ⟨Nat.le_trans h.z h2, h1.2⟩
    · exact ⟨(h.hF j q hq' k hk).1, Nat.lt_of_lt_of_le (h.hF j q hq' k hk).2 hg.size⟩
  · rcases key j q hq with ⟨rfl, rfl⟩ | ⟨hj, hq'⟩ <;> rcases key l r hr' with ⟨rfl, rfl⟩ | ⟨hl, hr2⟩
    · exact hjl rfl
    · rcases (hf k hk).1 with h2 | h2
      · exact h.ap _ l p r hjl hi hr2 k h2 hk2
      · have := (h.hF l r hr2 k hk2).2; omega
    · rcases (hf k hk2).1 with h2 | h2
      · exact h.ap j _ q p hjl hq' hi k hk h2
      · have := (h.hF j q hq' k hk).2; omega
    · exact h.ap j l q r hjl hq' hr2 k hk hk2
/-- Something new beside it. -/
theorem Parts.push (h : Parts b w0 w ps) {p : Pc} (hb : Below w.heap.size w w1) (hp : p.P w1) (hf : ∀ k, p.F k → w.heap.size ≤ k ∧ k < w1.heap.size) : Parts b w0 w1 (p :: ps) := by
  have far : ∀ (j : Nat) (q : Pc), ps[j]? = some q → ∀ k, q.F k → w1.heap[k]? = w.heap[k]? := fun j q hq k hk => hb.block k (h.hF j q hq k hk).2
  refine ⟨h.B.trans (hb.mono h.z), Nat.le_trans h.z hb.size, fun j q hq => ?_, fun j q hq k hk => ?_, fun j l q r hjl hq hr k hk hk2 => ?_⟩
  · cases j with
    | zero => cases hq; exact hp
    | succ j => exact q.loc (far j q hq) (h.hP j q hq)
  · cases j with
    | zero => cases hq; exact ⟨Nat.le_trans h.z (hf k hk).1, (hf k hk).2⟩
    | succ j => exact ⟨(h.hF j q hq k hk).1, Nat.lt_of_lt_of_le (h.hF j q hq k hk).2 hb.size⟩
  · cases j with
    | zero =>
      cases hq
      cases l with
      | zero => exact hjl rfl
      | succ l => have := (h.hF l r hr k hk2).2; have := (hf k hk).1; omega
    | succ j =>
      cases l with
      | zero => cases hr; have := (h.hF j q hq k hk).2; have := (hf k hk2).1; omega
      | succ l => exact h.ap j l q r (fun e => hjl (by rw [e])) hq hr k hk hk2
theorem Parts.below (h : Parts b w0 w ps) (hb : Below w.heap.size w w1) : Parts b w0 w1 ps :=
  ⟨h.B.trans (hb.mono h.z), Nat.le_trans h.z hb.size, fun j q hq => q.loc (fun k hk => hb.block k (h.hF j q hq k hk).2) (h.hP j q hq), fun j q hq k hk => ⟨(h.hF j q hq k hk).1, Nat.lt_of_lt_of_le (h.hF j q hq k hk).2 hb.size⟩, h.ap⟩
theorem Parts.drew (h : Parts b w0 w ps) : Parts b w0 w.drew ps := h.below (below_drew (Below.refl _ _))
theorem Parts.alloc (h : Parts b w0 w ps) (o : Obj) : Parts b w0 (w.alloc o) ps := h.below (below_alloc (Below.refl _ _) o)
theorem Parts.tail {p : Pc} (h : Parts b w0 w (p :: ps)) : Parts b w0 w ps :=
  ⟨h.B, h.z, fun j q hq => h.hP (j + 1) q hq, fun j q hq => h.hF (j + 1) q hq, fun i j p q hij hp hq => h.ap (i + 1) (j + 1) p q (by omega) hp hq⟩
theorem Parts.erase (h : Parts b w0 w ps) (i : Nat) : Parts b w0 w (ps.eraseIdx i) := by
  have key : ∀ (j : Nat) (q : Pc), (ps.eraseIdx i)[j]? = some q → ps[if j < i then j else j + 1]? = some q := fun j q hq => by
    rw [List.getElem?_eraseIdx] at hq
    split
    · rename_i hj; rwa [if_pos hj] at hq
    · rename_i hj; rwa [if_neg hj] at hq
  refine ⟨h.B, h.z, fun j q hq => h.hP _ q (key j q hq), fun j q hq => h.hF _ q (key j q hq), fun j l q r hjl hq hr => h.ap _ _ q r ?_ (key j q hq) (key l r hr)⟩
  split <;> split <;> omega
/-- The pieces in another order, or some of them. -/
theorem Parts.pick (h : Parts b w0 w ps) {qs : List Pc} (f : List Nat) (hf : f.Nodup) (hl : qs.length = f.length) (hq : ∀ j, j < f.length → qs[j]? = ps[f.getD j 0]?) : Parts b w0 w qs := by
  have key : ∀ (j : Nat) (q : Pc), qs[j]? = some q → j < f.length ∧ ps[f.getD j 0]? = some q := fun j q hq' => by
    have hj : j < f.length := by rw [← hl]; exact (List.getElem?_eq_some_iff.1 hq').1
    exact ⟨hj, (hq j hj).symm.trans hq'⟩
  refine ⟨h.B, h.z, fun j q hq => h.hP _ q (key j q hq).2, fun j q hq => h.hF _ q (key j q hq).2, fun j l q r hjl hq hr => h.ap _ _ q r (fun e => hjl ?_) (key j q hq).2 (key l r hr).2⟩
  have h1 := (key j q hq).1
  have h2 := (key l r hr).1
  rw [List.getD_eq_getElem?_getD, List.getD_eq_getElem?_getD, List.getElem?_eq_getElem h1, List.getElem?_eq_getElem h2] at e
  exact (List.getElem_inj hf).1 (by simpa using e)
theorem pick_len (ps : List Pc) : ∀ f : List Nat, (∀ i ∈ f, i < ps.length) → (f.filterMap (fun i => ps[i]?)).length = f.length
  | [], _ => rfl
  | i :: f, h => by
    have h1 := pick_len ps f (fun j hj => h j (List.mem_cons_of_mem _ hj))
    rw [List.filterMap_cons, List.getElem?_eq_getElem (h i List.mem_cons_self)]
    simp [h1]
theorem pick_get (ps : List Pc) : ∀ (f : List Nat), (∀ i ∈ f, i < ps.length) → ∀ j, j < f.length → (f.filterMap (fun i => ps[i]?))[j]? = ps[f.getD j 0]?
  | [], _, j, hj => by simp at hj
  | i :: f, h, j, hj => by
    rw [List.filterMap_cons, List.getElem?_eq_getElem (h i List.mem_cons_self)]
    cases j with
    | zero => simp [List.getElem?_eq_getElem (h i List.mem_cons_self)]
    | succ j => simpa using pick_get ps f (fun k hk => h k (List.mem_cons_of_mem _ hk)) j (by simpa using hj)
theorem Parts.take (h : Parts b w0 w ps) (f : List Nat) (n : Nat) (hn : n ≤ ps.length) (hf : f.Nodup) (hl : ∀ i ∈ f, i < n) : Parts b w0 w (f.filterMap (fun i => ps[i]?)) :=
  h.pick f hf (pick_len ps f (fun i hi => Nat.lt_of_lt_of_le (hl i hi) hn)) (pick_get ps f (fun i hi => Nat.lt_of_lt_of_le (hl i hi) hn))
/-- A piece says more, or less, of its blocks. -/
theorem Parts.turn (h : Parts b w0 w ps) (i : Nat) {p p' : Pc} (hi : ps[i]? = some p) (hp : p'.P w) (hf : ∀ k, p'.F k → p.F k) : Parts b w0 w (ps.set i p') :=
  h.upd i hi (row := none) ⟨rfl, rfl, rfl, Nat.le_refl _, fun _ _ _ => rfl⟩ (fun _ hk => by cases hk) hp (fun k hk => ⟨.inl (hf k hk), (h.hF i p hi k (hf k hk)).2⟩)
theorem Parts.new (h : Parts b w0 w ps) (t : TypeId) (cs : Array Value) : Parts b w0 (w.alloc (.cells cs t)) (pB w.heap.size t cs :: ps) :=
  h.push (below_alloc (Below.refl _ _) _) (blk_new _ _) (fun k hk => by rw [show k = w.heap.size from hk]; exact ⟨Nat.le_refl _, by simp⟩)
theorem Parts.blk (h : Parts b w0 w ps) (i : Nat) {g : Nat} {t : TypeId} {cs : Array Value} (hi : ps[i]? = some (pB g t cs)) : w.heap[g]? = some (.cells cs t (0, 0)) := h.hP i _ hi
theorem Parts.ge (h : Parts b w0 w ps) (i : Nat) {g : Nat} {t : TypeId} {cs : Array Value} (hi : ps[i]? = some (pB g t cs)) : b ≤ g := (h.hF i _ hi g rfl).1
theorem Parts.cell (h : Parts b w0 w ps) (i : Nat) {g : Nat} {t : TypeId} {cs : Array Value} (hi : ps[i]? = some (pB g t cs)) (j : Nat) {v : Value} (hv : cs[j]? = some v) : w.cell? ⟨g, j, none⟩ = some v ∧ w.frozen? ⟨g, j, none⟩ = false :=
  ⟨(blk_cell (h.blk i hi) j).trans hv, blk_frozen (h.blk i hi) j⟩
theorem grown_set (w : World) (g j : Nat) (u : Value) : w.grownBy (w.setCell ⟨g, j, none⟩ u) (some g) :=
  ⟨rfl, rfl, rfl, by simp [World.setCell], fun k _ hne => Below.heap_setCell w ⟨g, j, none⟩ u k (fun e => hne (by rw [e]))⟩
theorem Parts.put (h : Parts b w0 w ps) (i : Nat) {g : Nat} {t : TypeId} {cs : Array Value} (hi : ps[i]? = some (pB g t cs)) (j : Nat) (u : Value) {cs' : Array Value} (hc : cs.setIfInBounds j u = cs') : Parts b w0 (w.setCell ⟨g, j, none⟩ u) (ps.set i (pB g t cs')) :=
  hc ▸ h.upd i hi (grown_set w g j u) (fun k hk => (Option.some.inj hk).symm) (blk_set (h.blk i hi) j u) (fun k hk => ⟨.inl hk, by have := (h.hF i _ hi g rfl).2; rw [show k = g from hk]; simpa [World.setCell] using this⟩)
section
variable {α : Type} {d : Kd α} {e : Nat} {v v1 : Value} {xs ys : List α} {ok ok1 : Nat → Prop}
theorem Parts.own (h : Parts b w0 w ps) (i : Nat) (hi : ps[i]? = some (pR b d e ok v xs)) : d.R e w b ok v xs := h.hP i _ hi
theorem Parts.ownF (h : Parts b w0 w ps) (i : Nat) (hi : ps[i]? = some (pF b d e v xs)) : d.R e w b (fun _ => True) v xs := Kd.R_mono (h.hP i _ hi) (fun _ _ => trivial)
theorem Parts.row (h : Parts b w0 w ps) (i : Nat) {A : Option Addr} {n c : Nat} (hi : ps[i]? = some (pR b d e ok (.slice A n c) xs)) : RS d w A c xs := RS.of_R' (h.own i hi)
theorem Parts.rowF (h : Parts b w0 w ps) (i : Nat) {A : Option Addr} {n c : Nat} (hi : ps[i]? = some (pF b d e (.slice A n c) xs)) : RS d w A c xs := RS.of_R' (h.hP i _ hi)
theorem Parts.nil (h : Parts b w0 w ps) (d : Kd α) (e : Nat) : Parts b w0 w (pF b d e (.slice none 0 0) [] :: ps) :=
  h.push (Below.refl _ _) (Kd.R_nil _ _ _ _ _) (fun k hk => by have hk' : (Value.slice none 0 0).ownBlock = some k := hk; simp [Value.ownBlock] at hk')
/-- What was appended to, or written into. -/
theorem Parts.app (h : Parts b w0 w ps) (i : Nat) (hi : ps[i]? = some (pF b d e v xs)) (fl : Flat d) (ho : d.R e w1 b ok v1 ys) (hg : w.grownBy w1 v.ownBlock) (hat : v1.ownBlock = v.ownBlock ∨ ∃ k, v1.ownBlock = some k ∧ w.heap.size ≤ k) : Parts b w0 w1 (ps.set i (pF b d e v1 ys)) :=
  h.upd i hi hg (fun k hk => hk) (flat_own fl ho) (fun k hk => by
    refine ⟨?_, Kd.R_lt ho k hk⟩
    rcases hat with h1 | ⟨k', h1, h2⟩
    · exact .inl (h1.symm.trans hk)
    · exact .inr (by have := h1.symm.trans hk; cases this; exact h2))
theorem Parts.fresh (h : Parts b w0 w ps) (hb : Below w.heap.size w w1) (ho : d.R e w1 w.heap.size ok v xs) : Parts b w0 w1 (pR b d e (fun k => ok k ∧ w.heap.size ≤ k ∧ k < w1.heap.size) v xs :: ps) :=
  h.push hb (Kd.R_lower (Kd.R_mono (Kd.R_bound ho) (fun _ hk => ⟨hk.1, hk.2.1, hk.2.2.1⟩)) h.z) (fun k hk => hk.2)
theorem Parts.freshF (h : Parts b w0 w ps) (fl : Flat d) (hb : Below w.heap.size w w1) (ho : d.R e w1 w.heap.size ok v xs) : Parts b w0 w1 (pF b d e v xs :: ps) :=
  h.push hb (Kd.R_lower (flat_own fl ho) h.z) (fun k hk => ⟨Kd.R_base ho k hk, Kd.R_lt ho k hk⟩)
/-- A row is cut. -/
theorem Parts.cut (h : Parts b w0 w ps) (i : Nat) {A : Option Addr} {n c m : Nat} (hi : ps[i]? = some (pF b d e (.slice A n c) xs)) (fl : Flat d) (hm : m ≤ xs.length) : Parts b w0 w (ps.set i (pF b d e (.slice A m c) (xs.take m))) :=
  h.turn i hi (flat_own fl (Kd.R_take (h.ownF i hi) hm)) (fun k hk => by cases A <;> exact hk)
/-- The same behind a step that lies from the base on (make, a literal). -/
theorem Parts.freshG (h : Parts b w0 w ps) (fl : Flat d) (hg : w.grownBy w1 none) (ho : d.R e w1 b ok v xs) (hn : ∀ k, v.ownBlock = some k → w.heap.size ≤ k) : Parts b w0 w1 (pF b d e v xs :: ps) :=
  h.push ⟨hg.os, hg.tape, hg.output, hg.size, fun k hk => hg.block k hk (by simp)⟩ (flat_own fl ho) (fun k hk => ⟨hn k hk, Kd.R_lt ho k hk⟩)
end
/-- A number, a truth value is written into a row. -/
theorem Parts.putRow {α : Type} {enc : α → Value} {h1 : ∀ x, (enc x).oneCell' = true} {e g n cap : Nat} {xs : List α} (h : Parts b w0 w ps) (i : Nat) (hi : ps[i]? = some (pF b (Kd.scalar enc h1) e (.slice (some ⟨g, 0, none⟩) n cap) xs)) (j : Nat) (x : α) :
    Parts b w0 (w.setCell ⟨g, j, none⟩ (enc x)) (ps.set i (pF b (Kd.scalar enc h1) e (.slice (some ⟨g, 0, none⟩) n cap) (xs.set j x))) := by
  have h_ := Kd.R_putg (h.ownF i hi) (j : Int) x
  rw [Int.toNat_natCast] at h_
  exact h.app i hi (fun h => h) h_.1 h_.2 (.inl rfl)
theorem Parts.cellRow {α : Type} {enc : α → Value} {h1 : ∀ x, (enc x).oneCell' = true} {e g n cap : Nat} {xs : List α} (h : Parts b w0 w ps) (i : Nat) (hi : ps[i]? = some (pF b (Kd.scalar enc h1) e (.slice (some ⟨g, 0, none⟩) n cap) xs)) (z : α) (j : Nat) (hj : j < n) :
    w.cell? ⟨g, j, none⟩ = some (enc (xs.getD j z)) ∧ w.frozen? ⟨g, j, none⟩ = false := by
  have h_ := Kd.R_celln (n := n) z (h.ownF i hi) (j : Int) (by omega) (by omega)
  rw [Int.toNat_natCast] at h_
  simpa [rdOf] using h_
end
end Go.Proofs.Ytpoadkogcdfglaa.PH
