/- Rows of rows of a call's own: the heads in one row, each row in a block of its own. -/
import Derived.Test.YtpoadkogcdfglaaHRowS
namespace Go.Proofs.Ytpoadkogcdfglaa.PH
open Go.RowKit Go.Proofs.YtpoadkogcdfglaaW.PrintWords Go.Proofs.YtpoadkogcdfglaaW.PrintLast
set_option linter.unusedVariables false
set_option linter.unusedSimpArgs false

/-- The head of a row: address, length, capacity. -/
abbrev HeadR := Option Addr × Nat × Nat
@[reducible] def HeadR.v (x : HeadR) : Value := .slice x.1 x.2.1 x.2.2
def kHead : Kd HeadR := Kd.scalar HeadR.v (fun _ => rfl)
theorem flat_head : Flat kHead := fun h => h
section
variable {b : Nat} {w0 w w1 : World} {ps : List Pc}
/-- Two pieces become one. -/
theorem Parts.join (h : Parts b w0 w ps) (i j : Nat) (hij : i ≠ j) {p q : Pc} (r : Pc) (hi : ps[i]? = some p) (hj : ps[j]? = some q) (hr : p.P w → q.P w → r.P w) (hf : ∀ k, r.F k → p.F k ∨ q.F k) : Parts b w0 w ((ps.set j r).eraseIdx i) := by
  have hjl : j < ps.length := (List.getElem?_eq_some_iff.1 hj).1
  have key : ∀ (m : Nat) (s : Pc), ((ps.set j r).eraseIdx i)[m]? = some s → (if m < i then m else m + 1) ≠ i ∧ (((if m < i then m else m + 1) = j ∧ s = r) ∨ ((if m < i then m else m + 1) ≠ j ∧ ps[if m < i then m else m + 1]? = some s)) := fun m s hs => by
    rw [List.getElem?_eraseIdx] at hs
    have e1 : (ps.set j r)[if m < i then m else m + 1]? = some s := by
      split at hs
      · rename_i hm; rwa [if_pos hm]
      · rename_i hm; rwa [if_neg hm]
    refine ⟨by split <;> omega, ?_⟩
    rw [List.getElem?_set] at e1
    by_cases hm : j = (if m < i then m else m + 1)
    · rw [if_pos hm, if_pos hjl] at e1
      exact .inl ⟨hm.symm, (Option.some.inj e1).symm⟩
    · rw [if_neg hm] at e1
      exact .inr ⟨Ne.symm hm, e1⟩
  have inj : ∀ m n : Nat, m ≠ n → (if m < i then m else m + 1) ≠ (if n < i then n else n + 1) := fun m n hmn => by split <;> split <;> omega
  refine ⟨h.B, h.z, fun m s hs => ?_, fun m s hs k hk => ?_, fun m n s t hmn hs ht k hk hk2 => ?_⟩
  · rcases (key m s hs).2 with ⟨_, rfl⟩ | ⟨_, h2⟩
    · exact hr (h.hP i p hi) (h.hP j q hj)
    · exact h.hP _ s h2
  · rcases (key m s hs).2 with ⟨_, rfl⟩ | ⟨_, h2⟩
    · rcases hf k hk with h3 | h3
      · exact h.hF i p hi k h3
      · exact h.hF j q hj k h3
    · exact h.hF _ s h2 k hk
  · have hne := inj m n hmn
    obtain ⟨hmi, hm⟩ := key m s hs
    obtain ⟨hni, hn⟩ := key n t ht
    rcases hm with ⟨e1, rfl⟩ | ⟨e1, h2⟩ <;> rcases hn with ⟨e2, rfl⟩ | ⟨e2, h3⟩
    · exact hne (e1.trans e2.symm)
    · rcases hf k hk with h4 | h4
      · exact h.ap i _ p t (fun e => hni e.symm) hi h3 k h4 hk2
      · exact h.ap j _ q t (fun e => e2 e.symm) hj h3 k h4 hk2
    · rcases hf k hk2 with h4 | h4
      · exact h.ap _ i s p hmi h2 hi k hk h4
      · exact h.ap _ j s q e1 h2 hj k hk h4
    · exact h.ap _ _ s t hne h2 h3 k hk hk2
/-- The rows that heads tell of. -/
def InRows {α : Type} (d : Kd α) (e b : Nat) (W : World) (hs : List HeadR) (rows : List (List α)) : Prop :=
  hs.length = rows.length ∧ ∀ (j : Nat) (x : HeadR) (y : List α), hs[j]? = some x → rows[j]? = some y → x.2.1 = y.length ∧ d.R e W b (fun k => x.v.ownBlock = some k) x.v y
def pIn {α : Type} (d : Kd α) (e b : Nat) (hs : List HeadR) (rows : List (List α)) : Pc :=
  ⟨fun k => ∃ x ∈ hs, x.v.ownBlock = some k, fun W => InRows d e b W hs rows,
   fun hm h => ⟨h.1, fun j x y hx hy => ⟨(h.2 j x y hx hy).1, Kd.R_move (h.2 j x y hx hy).2 (fun k hk => hm k ⟨x, List.mem_of_getElem? hx, hk⟩)⟩⟩⟩
variable {α : Type} {d : Kd α} {e T : Nat} {hs : List HeadR} {rows : List (List α)}
theorem Parts.inNil (h : Parts b w0 w ps) (d : Kd α) (e : Nat) : Parts b w0 w (pIn d e b [] [] :: ps) :=
  h.push (Below.refl _ _) ⟨rfl, fun j x y hx => by simp at hx⟩ (fun k hk => by obtain ⟨x, hx, _⟩ := hk; simp at hx)
theorem Parts.inAdd (h : Parts b w0 w ps) (i j : Nat) (hij : i ≠ j) {A : Option Addr} {c : Nat} {y : List α} (hi : ps[i]? = some (pF b d e (.slice A y.length c) y)) (hj : ps[j]? = some (pIn d e b hs rows)) :
    Parts b w0 w ((ps.set j (pIn d e b (hs ++ [(A, y.length, c)]) (rows ++ [y]))).eraseIdx i) := by
  refine h.join i j hij (pIn d e b (hs ++ [(A, y.length, c)]) (rows ++ [y])) hi hj (fun hp hq => ?_) (fun k hk => ?_)
  · refine ⟨by simp [hq.1], fun m x z hx hz => ?_⟩
    by_cases hm : m < hs.length
    · rw [List.getElem?_append_left hm] at hx
      rw [List.getElem?_append_left (by rw [← hq.1]; exact hm)] at hz
      exact hq.2 m x z hx hz
    · rw [List.getElem?_append_right (by omega)] at hx
      rw [List.getElem?_append_right (by rw [← hq.1]; omega), ← hq.1] at hz
      have hm0 : m - hs.length = 0 := by
        have := (List.getElem?_eq_some_iff.1 hx).1
        simp at this; omega
      rw [hm0] at hx hz
      have ex : (A, y.length, c) = x := by simpa using hx
      have ez : y = z := by simpa using hz
      subst ex ez
      exact ⟨rfl, hp⟩
  · obtain ⟨x, hx, hk⟩ := hk
    rcases List.mem_append.1 hx with hx | hx
    · exact .inr ⟨x, hx, hk⟩
    · have ex : x = (A, y.length, c) := by simpa using hx
      subst ex
      exact .inl hk
/-- Heads that are read, and their rows, are a row of rows. -/
theorem InRows.to {A : Option Addr} {c : Nat} (h : RS kHead w A c hs) (g : InRows d e b w hs rows) : RS (Kd.slice e d) w A c rows := by
  have hm := h.max
  refine ⟨⟨rfl, by rw [← g.1]; exact hm, fun h0 => ?_⟩, by rw [← g.1]; exact h.h⟩
  obtain ⟨ad, e1, hc⟩ := h.r.2.2 (by rw [g.1]; exact h0)
  refine ⟨ad, e1, fun j p hj => ?_⟩
  have hjl : j < hs.length := by rw [g.1]; exact (List.getElem?_eq_some_iff.1 hj).1
  obtain ⟨cs, h1, h2, h3⟩ := hc j hs[j] (List.getElem?_eq_getElem hjl)
  have hg := g.2 j hs[j] p (List.getElem?_eq_getElem hjl) hj
  refine ⟨cs, h1, ?_, h3⟩
  have e2 : cs = [hs[j].v] := h2
  have hr := RS.of_R' hg.2
  rw [e2]
  refine ⟨_, _, by rw [← hg.1], hr.h, hr.r⟩
theorem InRows.take (g : InRows d e b w hs rows) (m : Nat) : InRows d e b w (hs.take m) (rows.take m) :=
  ⟨by simp [g.1], fun j x y hx hy => by
    rw [List.getElem?_take] at hx hy
    split at hx
    · rename_i hj
      rw [if_pos hj] at hy
      exact g.2 j x y hx hy
    · cases hx⟩
theorem Parts.inRows (h : Parts b w0 w ps) (i j : Nat) {A : Option Addr} {n c : Nat} (hi : ps[i]? = some (pF b kHead T (.slice A n c) hs)) (hj : ps[j]? = some (pIn d e b hs rows)) : RS (Kd.slice e d) w A c rows :=
  InRows.to (h.rowF i hi) (h.hP j _ hj)
theorem Parts.inRowsTake (h : Parts b w0 w ps) (i j m : Nat) {A : Option Addr} {n c : Nat} (hi : ps[i]? = some (pF b kHead T (.slice A n c) (hs.take m))) (hj : ps[j]? = some (pIn d e b hs rows)) : RS (Kd.slice e d) w A c (rows.take m) :=
  InRows.to (h.rowF i hi) (InRows.take (h.hP j _ hj) m)
theorem Parts.inLen (h : Parts b w0 w ps) (j : Nat) (hj : ps[j]? = some (pIn d e b hs rows)) : hs.length = rows.length := (show InRows d e b w hs rows from h.hP j _ hj).1
end
end Go.Proofs.Ytpoadkogcdfglaa.PH
