/- Several texts in one: TraceP, HeadB, LiftP. -/
import Derived.Test.YtlhiapggccgggaaHValues
import Derived.Test.YtlhiapggccgggaaHPackD
/- Runs in plain Lean: the frames of a run, how far a walk goes over them. -/
namespace Go.Proofs.Ytlhiapggccgggaa.PH
open Go.RowKit Go.Proofs.YtlhiapggccgggaaW.PrintWords Go.Proofs.YtlhiapggccgggaaW.PrintLast
set_option linter.unusedVariables false
set_option linter.unusedSimpArgs false

def valsOf (c : Circ) (st ins : List Bool) : List Bool := truthFrom c.f2 (false :: (ins ++ st))
def nextOf (c : Circ) (st ins : List Bool) : List Bool := c.f1.map (fun x => litV (valsOf c st ins) x.f0)
def badsOf (c : Circ) (st ins : List Bool) : List Bool := c.f3.map (litV (valsOf c st ins))
def holdsOf (c : Circ) (st ins : List Bool) : Bool := c.f4.all (litV (valsOf c st ins))
/-- A frame: its state, whether it is allowed, its bad literals' values. -/
abbrev Fr := List Bool × Bool × List Bool
def frames (c : Circ) : List Bool → List (List Bool) → List Fr
  | _, [] => []
  | st, i :: r => (st, holdsOf c st i, badsOf c st i) :: frames c (nextOf c st i) r
/-- How many frames are walked. -/
def stopAt (go : Nat → Fr → Bool) : Nat → List Fr → Nat
  | i, [] => i
  | i, f :: fs => if go i f then stopAt go (i + 1) fs else i + 1
def startOk (q : Latch × Bool) : Bool := q.1.f1 == 2 || q.2 == (q.1.f1 == 1)
def startsB (c : Circ) (st : List Bool) : Bool := (c.f1.zip st).all startOk
/-- The error of a run. -/
def tCheck (c : Circ) (t : Run) : Int :=
  if check c ≠ 0 then check c else if 100 < t.f1.length then 4
  else if t.f1.length = 0 then 8 else if t.f0.length ≠ c.f1.length then 8 else if startsB c t.f0 = false then 8
  else if t.f1.any (fun l => (l.length : Int) != c.f0) = true then 8 else 0
theorem tCheck_ok {c : Circ} {t : Run} (h : tCheck c t = 0) : check c = 0 ∧ t.f1.length ≤ 100 ∧ 0 < t.f1.length ∧ t.f0.length = c.f1.length ∧ startsB c t.f0 = true ∧ ∀ l ∈ t.f1, (l.length : Int) = c.f0 := by
  unfold tCheck at h
  by_cases h1 : check c ≠ 0
  · rw [if_pos h1] at h; exact absurd h h1
  rw [if_neg h1] at h
  by_cases h2 : 100 < t.f1.length
  · rw [if_pos h2] at h; cases h
  rw [if_neg h2] at h
  by_cases h3 : t.f1.length = 0
  · rw [if_pos h3] at h; cases h
  rw [if_neg h3] at h
  by_cases h4 : t.f0.length ≠ c.f1.length
  · rw [if_pos h4] at h; cases h
  rw [if_neg h4] at h
  by_cases h5 : startsB c t.f0 = false
  · rw [if_pos h5] at h; cases h
  rw [if_neg h5] at h
  by_cases h6 : t.f1.any (fun l => (l.length : Int) != c.f0) = true
  · rw [if_pos h6] at h; cases h
  refine ⟨Classical.not_not.1 h1, by omega, by omega, Classical.not_not.1 h4, by simpa using h5, fun l hl => ?_⟩
  have h7 : t.f1.any (fun l => (l.length : Int) != c.f0) = false := by simpa using h6
  have h8 := List.any_eq_false.1 h7 l hl
  simpa using h8
theorem nextOf_len (c : Circ) (st ins : List Bool) : (nextOf c st ins).length = c.f1.length := List.length_map ..
theorem badsOf_len (c : Circ) (st ins : List Bool) : (badsOf c st ins).length = c.f3.length := List.length_map ..
theorem frames_len (c : Circ) : ∀ (l : List (List Bool)) (st : List Bool), (frames c st l).length = l.length
  | [], _ => rfl
  | i :: r, st => by simp [frames, frames_len c r]
theorem frames_take (c : Circ) : ∀ (l : List (List Bool)) (st : List Bool) (n : Nat), frames c st (l.take n) = (frames c st l).take n
  | [], _, n => by simp [frames]
  | i :: r, st, 0 => by simp [frames]
  | i :: r, st, n + 1 => by simp [frames, frames_take c r]
/-- The state that the frame k has. -/
def stateAt (c : Circ) : List Bool → List (List Bool) → List Bool
  | st, [] => st
  | st, i :: r => stateAt c (nextOf c st i) r
theorem stateAt_step (c : Circ) : ∀ (l : List (List Bool)) (st : List Bool) (k : Nat) (hk : k < l.length), stateAt c st (l.take (k + 1)) = nextOf c (stateAt c st (l.take k)) l[k]
  | i :: r, st, 0, _ => by simp [stateAt]
  | i :: r, st, k + 1, hk => by
    simp only [List.take_succ_cons, stateAt, List.getElem_cons_succ]
    exact stateAt_step c r _ k (by simpa using hk)
theorem frames_at (c : Circ) : ∀ (l : List (List Bool)) (st : List Bool) (k : Nat) (hk : k < l.length) (hf : k < (frames c st l).length), (frames c st l)[k] = (stateAt c st (l.take k), holdsOf c (stateAt c st (l.take k)) l[k], badsOf c (stateAt c st (l.take k)) l[k])
  | i :: r, st, 0, _, _ => by simp [frames, stateAt]
  | i :: r, st, k + 1, hk, hf => by
    simp only [frames, List.getElem_cons_succ, List.take_succ_cons, stateAt]
    exact frames_at c r _ k (by simpa using hk) (by simpa [frames] using hf)
theorem stateAt_len (c : Circ) {st : List Bool} (h : st.length = c.f1.length) : ∀ (l : List (List Bool)), (stateAt c st l).length = c.f1.length
  | [] => h
  | i :: r => by
    rw [stateAt]
    exact stateAt_len c (nextOf_len c st i) r
theorem stop_here {go : Nat → Fr → Bool} : ∀ {F : List Fr} {i k : Nat} (hk : k < F.length) (hg : go (i + k) F[k] = false) (ha : ∀ j (hj : j < k), go (i + j) (F[j]'(by omega)) = true), stopAt go i F = i + k + 1
  | f :: fs, i, 0, hk, hg, ha => by
    rw [stopAt, if_neg (by simpa using hg)]
  | f :: fs, i, k + 1, hk, hg, ha => by
    have h0 := ha 0 (by omega)
    rw [stopAt, if_pos (by simpa using h0)]
    have h1 := stop_here (F := fs) (i := i + 1) (k := k) (by simpa using hk) (by have h_ := hg; simp only [List.getElem_cons_succ] at h_; rw [show i + 1 + k = i + (k + 1) by omega]; exact h_)
      (fun j hj => by have h_ := ha (j + 1) (by omega); simp only [List.getElem_cons_succ] at h_; rw [show i + 1 + j = i + (j + 1) by omega]; exact h_)
    rw [h1]; omega
theorem stop_end {go : Nat → Fr → Bool} : ∀ {F : List Fr} {i : Nat} (ha : ∀ j (hj : j < F.length), go (i + j) F[j] = true), stopAt go i F = i + F.length
  | [], i, ha => rfl
  | f :: fs, i, ha => by
    have h0 := ha 0 (by simp)
    rw [stopAt, if_pos (by simpa using h0)]
    have h1 := stop_end (F := fs) (i := i + 1) (fun j hj => by have h_ := ha (j + 1) (by simpa using hj); simp only [List.getElem_cons_succ] at h_; rw [show i + 1 + j = i + (j + 1) by omega]; exact h_)
    rw [h1, List.length_cons]; omega
theorem stopAt_le (go : Nat → Fr → Bool) : ∀ (F : List Fr) (i : Nat), i ≤ stopAt go i F ∧ stopAt go i F ≤ i + F.length
  | [], i => by simp [stopAt]
  | f :: fs, i => by
    have h := stopAt_le go fs (i + 1)
    rw [stopAt]
    split
    · simp only [List.length_cons]; omega
    · simp only [List.length_cons]; omega
end Go.Proofs.Ytlhiapggccgggaa.PH

/- Rows of rows of truth values by their heads. -/
namespace Go.Proofs.Ytlhiapggccgggaa.PH
open Go.RowKit Go.Proofs.YtlhiapggccgggaaW.PrintWords Go.Proofs.YtlhiapggccgggaaW.PrintLast
set_option linter.unusedVariables false
set_option linter.unusedSimpArgs false

/-- The head of a row: address, length, capacity. -/
abbrev HeadB := Option Addr × Nat × Nat
def kHdB : Kd HeadB := Kd.scalar (fun a => Value.slice a.1 a.2.1 a.2.2) (fun _ => rfl)
structure HdB (w : World) (hs : List HeadB) (l : List (List Bool)) : Prop where
  n : hs.length = l.length
  r : ∀ (j : Nat) (x : HeadB) (y : List Bool), hs[j]? = some x → l[j]? = some y → x.2.1 = y.length ∧ RS Kd.bool w x.1 x.2.2 y
theorem HdB.below {w w1 : World} {hs : List HeadB} {l : List (List Bool)} (h : HdB w hs l) (hb : Below w.heap.size w w1) : HdB w1 hs l :=
  ⟨h.n, fun j x y h1 h2 => ⟨(h.r j x y h1 h2).1, (h.r j x y h1 h2).2.below hb⟩⟩
theorem HdB.append {w : World} {hs gs : List HeadB} {l m : List (List Bool)} (h : HdB w hs l) (g : HdB w gs m) : HdB w (hs ++ gs) (l ++ m) :=
  ⟨by simp [h.n, g.n], fun j x y h1 h2 => by
    by_cases hj : j < hs.length
    · rw [List.getElem?_append_left hj] at h1
      rw [List.getElem?_append_left (by rw [← h.n]; exact hj)] at h2
      exact h.r j x y h1 h2
    · rw [List.getElem?_append_right (by omega)] at h1
      rw [List.getElem?_append_right (by rw [← h.n]; omega), ← h.n] at h2
      exact g.r _ x y h1 h2⟩
/-- Heads that are read are a row of rows. -/
theorem HdB.to {w : World} {A : Option Addr} {c : Nat} {hs : List HeadB} {l : List (List Bool)} (h : RS kHdB w A c hs) (g : HdB w hs l) : RS (Kd.slice 4 Kd.bool) w A c l := by
  have hm := h.max
  refine ⟨⟨rfl, by rw [← g.n]; exact hm, fun h0 => ?_⟩, by rw [← g.n]; exact h.h⟩
  obtain ⟨ad, e, hc⟩ := h.r.2.2 (by rw [g.n]; exact h0)
  refine ⟨ad, e, fun j p hj => ?_⟩
  have hjl : j < hs.length := by rw [g.n]; exact (List.getElem?_eq_some_iff.1 hj).1
  obtain ⟨cs, h1, h2, h3⟩ := hc j hs[j] (List.getElem?_eq_getElem hjl)
  have hg := g.r j hs[j] p (List.getElem?_eq_getElem hjl) hj
  refine ⟨cs, h1, ?_, h3⟩
  have e2 : cs = [.slice hs[j].1 hs[j].2.1 hs[j].2.2] := h2
  rw [e2, hg.1]
  exact ⟨_, _, rfl, hg.2.h, hg.2.r⟩
end Go.Proofs.Ytlhiapggccgggaa.PH

/- Runs and proofs that are lifted, in plain Lean. -/
namespace Go.Proofs.Ytlhiapggccgggaa.PH
open Go.RowKit Go.Proofs.YtlhiapggccgggaaW.PrintWords Go.Proofs.YtlhiapggccgggaaW.PrintLast
set_option linter.unusedVariables false
set_option linter.unusedSimpArgs false

def bit (t : Bool) (x : Int) : Bool := t != decide (x % 2 = 1)
def liftV (tc : Circ) (t : List Bool) (x : Int) : Bool := decide (x = 1) || (decide (1 < x) && bit (t.getD (x / 2 - tc.f0 - 1).toNat false) x)
def liftB (ins : List Bool) (x : Int) : Bool := decide (0 < x) && ins.getD (x / 2 - 1).toNat false
def liftRow (r : List Int) (ins : List Bool) : List Bool := r.map (liftB ins)
/-- The rows of a frame's inputs. -/
def rowsOf (l : Lf) (n : Nat) : List (List Int) := if n = 0 then l.f3 else l.f3.drop l.f0.toNat
def liftIn (l : Lf) (n : Nat) (ins : List Bool) : List (List Bool) := (rowsOf l n).map (fun r => liftRow r ins)
def liftAll (l : Lf) : Nat → List (List Bool) → List (List Bool)
  | _, [] => []
  | n, i :: r => liftIn l n i ++ liftAll l (n + 1) r
/-- Go on: no bad literal is true. -/
def fine : Nat → Fr → Bool := fun _ f => !f.2.2.any (fun b => true == b)
def cutLen (c : Circ) (st : List Bool) (ins : List (List Bool)) : Nat := stopAt fine 0 (frames c st ins)
def liftRun (tc : Circ) (l : Lf) (t : Run) : Run := ⟨l.f2.map (liftV tc t.f0), liftAll l 0 t.f1⟩
def cutRun (c : Circ) (t : Run) : Run := ⟨t.f0, t.f1.take (cutLen c t.f0 t.f1)⟩
/-- The error of a lift. -/
def liftErr (fr tc : Circ) (l : Lf) : Int := if check fr ≠ 0 then check fr else if check tc ≠ 0 then check tc else if liftOk fr tc l = false then 8 else 0
def runFits (tc : Circ) (t : Run) : Bool := decide (t.f0.length = tc.f1.length) && (decide (0 < t.f1.length) && !t.f1.any (fun r => (r.length : Int) != tc.f0))
def traceC (fr tc : Circ) (l : Lf) (t : Run) : Run × Int :=
  if liftErr fr tc l ≠ 0 then (⟨[], []⟩, liftErr fr tc l)
  else if runFits tc t = false then (⟨[], []⟩, 8)
  else if 100 < t.f1.length ∨ 100 < l.f0 + l.f1 * t.f1.length then (⟨[], []⟩, 4)
  else (cutRun fr (liftRun tc l t), 0)
theorem liftAll_snoc (l : Lf) : ∀ (a : List (List Bool)) (n : Nat) (i : List Bool), liftAll l n (a ++ [i]) = liftAll l n a ++ liftIn l (n + a.length) i
  | [], n, i => by simp [liftAll]
  | x :: a, n, i => by
    rw [List.cons_append, liftAll, liftAll, liftAll_snoc l a (n + 1) i, List.append_assoc]
    simp only [List.length_cons]
    rw [show n + 1 + a.length = n + (a.length + 1) by omega]
theorem liftAll_take (l : Lf) (t : List (List Bool)) (k : Nat) (hk : k < t.length) : liftAll l 0 (t.take (k + 1)) = liftAll l 0 (t.take k) ++ liftIn l k t[k] := by
  rw [take_at hk, liftAll_snoc, List.length_take, Nat.min_eq_left (by omega), Nat.zero_add]
theorem liftErr_ok {fr tc : Circ} {l : Lf} (h : liftErr fr tc l = 0) : check fr = 0 ∧ check tc = 0 ∧ liftOk fr tc l = true := by
  unfold liftErr at h
  by_cases h1 : check fr = 0
  · rw [if_neg (by simp [h1])] at h
    by_cases h2 : check tc = 0
    · rw [if_neg (by simp [h2])] at h
      cases h3 : liftOk fr tc l with
      | true => exact ⟨h1, h2, rfl⟩
      | false => rw [if_pos h3] at h; cases h
    · rw [if_pos h2] at h; exact absurd h h2
  · rw [if_pos h1] at h; exact absurd h h1
theorem runFits_ok {tc : Circ} {t : Run} (h : runFits tc t = true) : t.f0.length = tc.f1.length ∧ 0 < t.f1.length ∧ ∀ r ∈ t.f1, (r.length : Int) = tc.f0 := by
  unfold runFits at h
  simp only [Bool.and_eq_true, decide_eq_true_eq, Bool.not_eq_true'] at h
  refine ⟨h.1, h.2.1, fun r hr => ?_⟩
  have h8 := List.any_eq_false.1 h.2.2 r hr
  simpa using h8
end Go.Proofs.Ytlhiapggccgggaa.PH
