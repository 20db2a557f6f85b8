/- Reduced circuits that come back. -/
import Derived.Test.YtpoadkogcdfglaaHIdent
import Derived.Test.YtpoadkogcdfglaaHSep
import Derived.Test.YtpoadkogcdfglaaHRowIn
namespace Go.Proofs.Ytpoadkogcdfglaa.PH
open Go.RowKit Go.Proofs.YtpoadkogcdfglaaW.PrintWords Go.Proofs.YtpoadkogcdfglaaW.PrintLast
set_option linter.unusedVariables false
set_option linter.unusedSimpArgs false

@[reducible] def rv (p : CP) (q : LP) (r : Red) : Value := .agg #[.int .i64 r.f0.f0, .slice p.A1 r.f0.f1.length p.c1, .slice p.A2 r.f0.f2.length p.c2, .slice p.A3 r.f0.f3.length p.c3, .slice p.A4 r.f0.f4.length p.c4,
  .int .i64 r.f1.f0, .int .i64 r.f1.f1, .slice q.A2 r.f1.f2.length q.c2, .slice q.A3 r.f1.f3.length q.c3, .slice q.A4 r.f1.f4.length q.c4, .slice q.A5 r.f1.f5.f0.length q.c5, .int .i64 r.f1.f5.f1]
/-- A reduced circuit comes back, its rows told. -/
def RetRd (w w' : World) (r : Red) (n : Int) (e : Ending) : Prop := ∃ p q, e = .returned (.tuple #[rv p q r, .int .i64 n]) ∧ RC w' p r.f0 ∧ RL w' q r.f1 ∧ Below w.heap.size w w'
/-- The same, its rows told in each world that has the new blocks as they are. -/
def RetRs (w w' : World) (r : Red) (n : Int) (e : Ending) : Prop := ∃ p q, e = .returned (.tuple #[rv p q r, .int .i64 n]) ∧ (∀ W : World, (∀ k, w.heap.size ≤ k → k < w'.heap.size → W.heap[k]? = w'.heap[k]?) → RC W p r.f0 ∧ RL W q r.f1) ∧ Below w.heap.size w w'
/-- The same without an error. -/
def RetR1 (w w' : World) (r : Red) (e : Ending) : Prop := ∃ p q, e = .returned (rv p q r) ∧ (∀ W : World, (∀ k, w.heap.size ≤ k → k < w'.heap.size → W.heap[k]? = w'.heap[k]?) → RC W p r.f0 ∧ RL W q r.f1) ∧ Below w.heap.size w w'
/-- Pieces hold in each world that has the call's own blocks as they are. -/
theorem Parts.moved {b : Nat} {w0 w W : World} {ps : List Pc} (h : Parts b w0 w ps) (hm : ∀ k, b ≤ k → k < w.heap.size → W.heap[k]? = w.heap[k]?) (i : Nat) {p : Pc} (hi : ps[i]? = some p) : p.P W :=
  p.loc (fun k hk => hm k (h.hF i p hi k hk).1 (h.hF i p hi k hk).2) (h.hP i p hi)
theorem Parts.rowM {b : Nat} {w0 w W : World} {ps : List Pc} {α : Type} {d : Kd α} {e : Nat} {xs : List α} (h : Parts b w0 w ps) (hm : ∀ k, b ≤ k → k < w.heap.size → W.heap[k]? = w.heap[k]?) (i : Nat) {A : Option Addr} {n c : Nat} (hi : ps[i]? = some (pF b d e (.slice A n c) xs)) : RS d W A c xs := RS.of_R' (h.moved hm i hi)
theorem Parts.inRowsM {b : Nat} {w0 w W : World} {ps : List Pc} {α : Type} {d : Kd α} {e T : Nat} {hs : List HeadR} {rows : List (List α)} (h : Parts b w0 w ps) (hm : ∀ k, b ≤ k → k < w.heap.size → W.heap[k]? = w.heap[k]?) (i j : Nat) {A : Option Addr} {n c : Nat} (hi : ps[i]? = some (pF b kHead T (.slice A n c) hs)) (hj : ps[j]? = some (pIn d e b hs rows)) : RS (Kd.slice e d) W A c rows :=
  InRows.to (h.rowM hm i hi) (h.moved hm j hj)
theorem RetRs.ret {w w' : World} {r : Red} {n : Int} {e : Ending} (h : RetRs w w' r n e) : RetRd w w' r n e := by
  obtain ⟨p, q, h1, h2, h3⟩ := h
  exact ⟨p, q, h1, (h2 w' (fun _ _ _ => rfl)).1, (h2 w' (fun _ _ _ => rfl)).2, h3⟩
def zeroRd : Red := ⟨⟨0, [], [], [], []⟩, zeroL⟩
theorem Parts.put12 {b : Nat} {w0 w : World} {ps : List Pc} (h : Parts b w0 w ps) (i : Nat) {g : Nat} {t : TypeId} {v0 v1 v2 v3 v4 v5 v6 v7 v8 v9 v10 v11 : Value} (hi : ps[i]? = some (pB g t #[v0, v1, v2, v3, v4, v5, v6, v7, v8, v9, v10, v11])) (u0 u1 u2 u3 u4 u5 u6 u7 u8 u9 u10 u11 : Value) :
    Parts b w0 ((((((((((((w.setCell ⟨g, 0, none⟩ u0).setCell ⟨g, 1, none⟩ u1).setCell ⟨g, 2, none⟩ u2).setCell ⟨g, 3, none⟩ u3).setCell ⟨g, 4, none⟩ u4).setCell ⟨g, 5, none⟩ u5).setCell ⟨g, 6, none⟩ u6).setCell ⟨g, 7, none⟩ u7).setCell ⟨g, 8, none⟩ u8).setCell ⟨g, 9, none⟩ u9).setCell ⟨g, 10, none⟩ u10).setCell ⟨g, 11, none⟩ u11) (ps.set i (pB g t #[u0, u1, u2, u3, u4, u5, u6, u7, u8, u9, u10, u11])) := by
  have hlt := (List.getElem?_eq_some_iff.1 hi).1
  have key : ∀ p : Pc, (ps.set i p)[i]? = some p := fun p => by rw [List.getElem?_set_self hlt]
  have st : ∀ (p q : Pc), (ps.set i p).set i q = ps.set i q := fun p q => List.set_set ..
  have h0 := h.put i hi 0 u0 (cs' := #[u0, v1, v2, v3, v4, v5, v6, v7, v8, v9, v10, v11]) rfl
  have h1 := h0.put i (key _) 1 u1 (cs' := #[u0, u1, v2, v3, v4, v5, v6, v7, v8, v9, v10, v11]) rfl
  rw [st] at h1
  have h2 := h1.put i (key _) 2 u2 (cs' := #[u0, u1, u2, v3, v4, v5, v6, v7, v8, v9, v10, v11]) rfl
  rw [st] at h2
  have h3 := h2.put i (key _) 3 u3 (cs' := #[u0, u1, u2, u3, v4, v5, v6, v7, v8, v9, v10, v11]) rfl
  rw [st] at h3
  have h4 := h3.put i (key _) 4 u4 (cs' := #[u0, u1, u2, u3, u4, v5, v6, v7, v8, v9, v10, v11]) rfl
  rw [st] at h4
  have h5 := h4.put i (key _) 5 u5 (cs' := #[u0, u1, u2, u3, u4, u5, v6, v7, v8, v9, v10, v11]) rfl
  rw [st] at h5
  have h6 := h5.put i (key _) 6 u6 (cs' := #[u0, u1, u2, u3, u4, u5, u6, v7, v8, v9, v10, v11]) rfl
  rw [st] at h6
  have h7 := h6.put i (key _) 7 u7 (cs' := #[u0, u1, u2, u3, u4, u5, u6, u7, v8, v9, v10, v11]) rfl
  rw [st] at h7
  have h8 := h7.put i (key _) 8 u8 (cs' := #[u0, u1, u2, u3, u4, u5, u6, u7, u8, v9, v10, v11]) rfl
  rw [st] at h8
  have h9 := h8.put i (key _) 9 u9 (cs' := #[u0, u1, u2, u3, u4, u5, u6, u7, u8, u9, v10, v11]) rfl
  rw [st] at h9
  have h10 := h9.put i (key _) 10 u10 (cs' := #[u0, u1, u2, u3, u4, u5, u6, u7, u8, u9, u10, v11]) rfl
  rw [st] at h10
  have h11 := h10.put i (key _) 11 u11 (cs' := #[u0, u1, u2, u3, u4, u5, u6, u7, u8, u9, u10, u11]) rfl
  rw [st] at h11
  exact h11
@[reducible] def zCells : Array Value := #[.int .i64 0, .slice none 0 0, .slice none 0 0, .slice none 0 0, .slice none 0 0, .int .i64 0, .int .i64 0, .slice none 0 0, .slice none 0 0, .slice none 0 0, .slice none 0 0, .int .i64 0]
end Go.Proofs.Ytpoadkogcdfglaa.PH
