/- Runs in plain Lean: the frames of a run, how far a walk goes over them. -/
import Derived.Test.YtchhbkicplgmhaaHValues
namespace Go.Proofs.Ytchhbkicplgmhaa.PH
open Go.RowKit Go.Proofs.YtchhbkicplgmhaaW.PrintWords Go.Proofs.YtchhbkicplgmhaaW.PrintLast
set_option linter.unusedVariables false
set_option linter.unusedSimpArgs false

def valsOf (c : Circ) (st ins : List Bool) : List Bool := truthFrom c.f2 (false :: (ins ++ st))
def nextOf (c : Circ) (st ins : List Bool) : List Bool := c.f1.map (fun x => litV (valsOf c st ins) x.f0)
def badsOf (c : Circ) (st ins : List Bool) : List Bool := c.f3.map (litV (valsOf c st ins))
def holdsOf (c : Circ) (st ins : List Bool) : Bool := c.f4.all (litV (valsOf c st ins))
/-- A frame: its state, whether it is allowed, its bad literals' values. -/
abbrev Fr := List Bool × Bool × List Bool
def frames (c : Circ) : List Bool → List (List Bool) → List Fr
  | _, [] => []
  | st, i :: r => (st, holdsOf c st i, badsOf c st i) :: frames c (nextOf c st i) r
/-- How many frames are walked. -/
def stopAt (go : Nat → Fr → Bool) : Nat → List Fr → Nat
  | i, [] => i
  | i, f :: fs => if go i f then stopAt go (i + 1) fs else i + 1
def startOk (q : Latch × Bool) : Bool := q.1.f1 == 2 || q.2 == (q.1.f1 == 1)
def startsB (c : Circ) (st : List Bool) : Bool := (c.f1.zip st).all startOk
/-- The error of a run. -/
def tCheck (c : Circ) (t : Run) : Int :=
  if check c ≠ 0 then check c else if 100 < t.f1.length then 4
  else if t.f1.length = 0 then 8 else if t.f0.length ≠ c.f1.length then 8 else if startsB c t.f0 = false then 8
  else if t.f1.any (fun l => (l.length : Int) != c.f0) = true then 8 else 0
theorem tCheck_ok {c : Circ} {t : Run} (h : tCheck c t = 0) : check c = 0 ∧ t.f1.length ≤ 100 ∧ 0 < t.f1.length ∧ t.f0.length = c.f1.length ∧ startsB c t.f0 = true ∧ ∀ l ∈ t.f1, (l.length : Int) = c.f0 := by
  unfold tCheck at h
  by_cases h1 : check c ≠ 0
  · rw [if_pos h1] at h; exact absurd h h1
  rw [if_neg h1] at h
  by_cases h2 : 100 < t.f1.length
  · rw [if_pos h2] at h; cases h
  rw [if_neg h2] at h
  by_cases h3 : t.f1.length = 0
  · rw [if_pos h3] at h; cases h
  rw [if_neg h3] at h
  by_cases h4 : t.f0.length ≠ c.f1.length
  · rw [if_pos h4] at h; cases h
  rw [if_neg h4] at h
  by_cases h5 : startsB c t.f0 = false
  · rw [if_pos h5] at h; cases h
  rw [if_neg h5] at h
  by_cases h6 : t.f1.any (fun l => (l.length : Int) != c.f0) = true
  · rw [if_pos h6] at h; cases h
  refine ⟨Classical.not_not.1 h1, by omega, by omega, Classical.not_not.1 h4, by simpa using h5, fun l hl => ?_⟩
  have h7 : t.f1.any (fun l => (l.length : Int) != c.f0) = false := by simpa using h6
  have h8 := List.any_eq_false.1 h7 l hl
  simpa using h8
theorem nextOf_len (c : Circ) (st ins : List Bool) : (nextOf c st ins).length = c.f1.length := List.length_map ..
theorem badsOf_len (c : Circ) (st ins : List Bool) : (badsOf c st ins).length = c.f3.length := List.length_map ..
theorem frames_len (c : Circ) : ∀ (l : List (List Bool)) (st : List Bool), (frames c st l).length = l.length
  | [], _ => rfl
  | i :: r, st => by simp [frames, frames_len c r]
theorem frames_take (c : Circ) : ∀ (l : List (List Bool)) (st : List Bool) (n : Nat), frames c st (l.take n) = (frames c st l).take n
  | [], _, n => by simp [frames]
  | i :: r, st, 0 => by simp [frames]
  | i :: r, st, n + 1 => by simp [frames, frames_take c r]
/-- The state that the frame k has. -/
def stateAt (c : Circ) : List Bool → List (List Bool) → List Bool
  | st, [] => st
  | st, i :: r => stateAt c (nextOf c st i) r
theorem stateAt_step (c : Circ) : ∀ (l : List (List Bool)) (st : List Bool) (k : Nat) (hk : k < l.length), stateAt c st (l.take (k + 1)) = nextOf c (stateAt c st (l.take k)) l[k]
  | i :: r, st, 0, _ => by simp [stateAt]
  | i :: r, st, k + 1, hk => by
    simp only [List.take_succ_cons, stateAt, List.getElem_cons_succ]
    exact stateAt_step c r _ k (by simpa using hk)
theorem frames_at (c : Circ) : ∀ (l : List (List Bool)) (st : List Bool) (k : Nat) (hk : k < l.length) (hf : k < (frames c st l).length), (frames c st l)[k] = (stateAt c st (l.take k), holdsOf c (stateAt c st (l.take k)) l[k], badsOf c (stateAt c st (l.take k)) l[k])
  | i :: r, st, 0, _, _ => by simp [frames, stateAt]
  | i :: r, st, k + 1, hk, hf => by
    simp only [frames, List.getElem_cons_succ, List.take_succ_cons, stateAt]
    exact frames_at c r _ k (by simpa using hk) (by simpa [frames] using hf)
theorem stateAt_len (c : Circ) {st : List Bool} (h : st.length = c.f1.length) : ∀ (l : List (List Bool)), (stateAt c st l).length = c.f1.length
  | [] => h
  | i :: r => by
    rw [stateAt]
    exact stateAt_len c (nextOf_len c st i) r
theorem stop_here {go : Nat → Fr → Bool} : ∀ {F : List Fr} {i k : Nat} (hk : k < F.length) (hg : go (i + k) F[k] = false) (ha : ∀ j (hj : j < k), go (i + j) (F[j]'(by omega)) = true), stopAt go i F = i + k + 1
  | f :: fs, i, 0, hk, hg, ha => by
    rw [stopAt, if_neg (by simpa using hg)]
  | f :: fs, i, k + 1, hk, hg, ha => by
    have h0 := ha 0 (by omega)
    rw [stopAt, if_pos (by simpa using h0)]
    have h1 := stop_here (F := fs) (i := i + 1) (k := k) (by simpa using hk) (by have h_ := hg; simp only [List.getElem_cons_succ] at h_; rw [show i + 1 + k = i + (k + 1) by omega]; exact h_)
      (fun j hj => by have h_ := ha (j + 1) (by omega); simp only [List.getElem_cons_succ] at h_; rw [show i + 1 + j = i + (j + 1) by omega]; exact h_)
    rw [h1]; omega
theorem stop_end {go : Nat → Fr → Bool} : ∀ {F : List Fr} {i : Nat} (ha : ∀ j (hj : j < F.length), go (i + j) F[j] = true), stopAt go i F = i + F.length
  | [], i, ha => rfl
  | f :: fs, i, ha => by
    have h0 := ha 0 (by simp)
    rw [stopAt, if_pos (by simpa using h0)]
    have h1 := stop_end (F := fs) (i := i + 1) (fun j hj => by have h_ := ha (j + 1) (by simpa using hj); simp only [List.getElem_cons_succ] at h_; rw [show i + 1 + j = i + (j + 1) by omega]; exact h_)
    rw [h1, List.length_cons]; omega
theorem stopAt_le (go : Nat → Fr → Bool) : ∀ (F : List Fr) (i : Nat), i ≤ stopAt go i F ∧ stopAt go i F ≤ i + F.length
  | [], i => by simp [stopAt]
  | f :: fs, i => by
    have h := stopAt_le go fs (i + 1)
    rw [stopAt]
    split
    · simp only [List.length_cons]; omega
    · simp only [List.length_cons]; omega
end Go.Proofs.Ytchhbkicplgmhaa.PH
