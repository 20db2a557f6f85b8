/- What cone.Pass makes, in plain Lean. -/
import Derived.Test.YtiafojcbllbepaaHConeR
namespace Go.Proofs.Ytiafojcbllbepaa.PH
open Go.RowKit Go.Proofs.YtiafojcbllbepaaW.PrintWords Go.Proofs.YtiafojcbllbepaaW.PrintLast
set_option linter.unusedVariables false
set_option linter.unusedSimpArgs false

/-- The new literal of each variable, 0 where it has none; n have one before. -/
def toldF : List Bool → Int → List Int
  | [], _ => []
  | b :: bs, n => if b then (2 * (n + 1)) :: toldF bs (n + 1) else 0 :: toldF bs n
def plc (t : List Int) (l : Int) : Int := t.getD (varOf l) 0 + l % 2
section
variable (c : Circ) (is : List Bool) (t : List Int)
def insK (k : Nat) : List Int := (List.range k).map (fun i => t.getD (i + 1) 0)
def cntK (k : Nat) : Nat := ((List.range k).filter (fun i => is.getD (i + 1) false)).length
def firI (i : Nat) : Int := if is.getD (c.f0.toNat + 1 + i) false then t.getD (c.f0.toNat + 1 + i) 0 else (c.f1[i]?).elim 0 (fun x => x.f1 % 2)
def firK (k : Nat) : List Int := (List.range k).map (firI c is t)
def lasI (i : Nat) : Option Int := if is.getD (c.f0.toNat + 1 + i) false then some (2 * (c.f0 + 1 + i)) else none
def lasK (k : Nat) : List Int := (List.range k).filterMap (lasI c is)
def latI (i : Nat) : Option Latch := if is.getD (c.f0.toNat + 1 + i) false then (c.f1[i]?).map (fun x => ⟨plc t x.f0, x.f1⟩) else none
def latK (k : Nat) : List Latch := (List.range k).filterMap (latI c is t)
def andI (i : Nat) : Option Gate := if is.getD (c.f0.toNat + c.f1.length + 1 + i) false then (c.f2[i]?).map (fun x => ⟨plc t x.f0, plc t x.f1⟩) else none
def andK (k : Nat) : List Gate := (List.range k).filterMap (andI c is t)
def passC : Circ := ⟨cntK is c.f0.toNat, latK c is t c.f1.length, andK c is t c.f2.length, c.f3.map (plc t), c.f4.map (plc t)⟩
def passL : Lf := ⟨0, 1, firK c is t c.f1.length, [insK t c.f0.toNat], lasK c is c.f1.length, ⟨[], 1⟩⟩
end
section
variable {c : Circ} {is : List Bool} {t : List Int} {k : Nat}
theorem insK_len : (insK t k).length = k := by simp [insK]
theorem firK_len : (firK c is t k).length = k := by simp [firK]
theorem lasK_len : (lasK c is k).length ≤ k := by have := List.length_filterMap_le (lasI c is) (List.range k); simpa [lasK] using this
theorem latK_len : (latK c is t k).length ≤ k := by have := List.length_filterMap_le (latI c is t) (List.range k); simpa [latK] using this
theorem andK_len : (andK c is t k).length ≤ k := by have := List.length_filterMap_le (andI c is t) (List.range k); simpa [andK] using this
theorem cntK_le : cntK is k ≤ k := by have := List.length_filter_le (fun i => is.getD (i + 1) false) (List.range k); simpa [cntK] using this
theorem insK_succ : insK t (k + 1) = insK t k ++ [t.getD (k + 1) 0] := by simp [insK, List.range_succ]
theorem firK_succ : firK c is t (k + 1) = firK c is t k ++ [firI c is t k] := by simp [firK, List.range_succ]
theorem lasK_succ : lasK c is (k + 1) = lasK c is k ++ (lasI c is k).toList := by simp [lasK, List.range_succ, List.filterMap_append, List.filterMap_cons]; cases h : lasI c is k <;> simp
theorem latK_succ : latK c is t (k + 1) = latK c is t k ++ (latI c is t k).toList := by simp [latK, List.range_succ, List.filterMap_append, List.filterMap_cons]; cases h : latI c is t k <;> simp
theorem andK_succ : andK c is t (k + 1) = andK c is t k ++ (andI c is t k).toList := by simp [andK, List.range_succ, List.filterMap_append, List.filterMap_cons]; cases h : andI c is t k <;> simp
theorem cntK_succ : cntK is (k + 1) = cntK is k + if is.getD (k + 1) false then 1 else 0 := by
  simp only [cntK, List.range_succ, List.filter_append, List.length_append, List.filter_cons, List.filter_nil]
  split <;> rfl
end
theorem toldF_len : ∀ (is : List Bool) (n : Int), (toldF is n).length = is.length
  | [], _ => rfl
  | b :: bs, n => by cases b <;> simp [toldF, toldF_len bs]
theorem ones_len : ∀ (is : List Bool) (i : Int), (onesFrom is i).length = is.count true
  | [], _ => rfl
  | b :: bs, i => by cases b <;> simp [onesFrom, ones_len bs]
/-- Where a number is not set its literal is 0. -/
theorem toldF_no : ∀ (is : List Bool) (n : Int) (v : Nat), is.getD v false = false → (toldF is n).getD v 0 = 0
  | [], _, v, _ => by simp [toldF]
  | b :: bs, n, 0, h => by
    have hb : b = false := by simpa using h
    subst hb; simp [toldF]
  | b :: bs, n, v + 1, h => by
    have h' : bs.getD v false = false := by simpa using h
    cases b
    · simpa [toldF] using toldF_no bs n v h'
    · simpa [toldF] using toldF_no bs (n + 1) v h'
/-- How many are set before. -/
theorem toldF_yes : ∀ (is : List Bool) (n : Int) (v : Nat), is.getD v false = true → (toldF is n).getD v 0 = 2 * (n + ((is.take (v + 1)).count true : Nat))
  | [], _, v, h => by simp at h
  | b :: bs, n, 0, h => by
    have hb : b = true := by simpa using h
    subst hb; simp [toldF]
  | b :: bs, n, v + 1, h => by
    have h' : bs.getD v false = true := by simpa using h
    cases b
    · have := toldF_yes bs n v h'
      simpa [toldF] using this
    · have := toldF_yes bs (n + 1) v h'
      simp only [toldF, if_true, List.getD_cons_succ, List.take_succ_cons, List.count_cons_self]
      rw [this]; push_cast; omega
/-- The numbers that are set, and their literals. -/
theorem ones_told : ∀ (is : List Bool) (i n : Int) (j : Nat) (hj : j < (onesFrom is i).length), i ≤ (onesFrom is i)[j] ∧ is.getD ((onesFrom is i)[j] - i).toNat false = true ∧ (toldF is n).getD ((onesFrom is i)[j] - i).toNat 0 = 2 * (n + j + 1)
  | [], _, _, j, hj => by simp [onesFrom] at hj
  | true :: bs, i, n, 0, hj => by simp [onesFrom, toldF]
  | true :: bs, i, n, j + 1, hj => by
    have h := ones_told bs (i + 1) (n + 1) j (by simpa [onesFrom] using hj)
    simp only [onesFrom, if_true, List.getElem_cons_succ, toldF]
    have e : ((onesFrom bs (i + 1))[j]'(by simpa [onesFrom] using hj) - i).toNat = ((onesFrom bs (i + 1))[j]'(by simpa [onesFrom] using hj) - (i + 1)).toNat + 1 := by omega
    rw [e, List.getD_cons_succ, List.getD_cons_succ]
    refine ⟨by omega, h.2.1, ?_⟩
    rw [h.2.2]; push_cast; omega
  | false :: bs, i, n, j, hj => by
    have hj' : j < (onesFrom bs (i + 1)).length := by simpa [onesFrom] using hj
    have h := ones_told bs (i + 1) n j hj'
    have e0 : onesFrom (false :: bs) i = onesFrom bs (i + 1) := by simp [onesFrom]
    simp only [e0]
    have e : ((onesFrom bs (i + 1))[j] - i).toNat = ((onesFrom bs (i + 1))[j] - (i + 1)).toNat + 1 := by omega
    rw [e, show toldF (false :: bs) n = 0 :: toldF bs n from rfl, List.getD_cons_succ, List.getD_cons_succ]
    exact ⟨by omega, h.2.1, h.2.2⟩
/-- Each number that is set is told. -/
theorem ones_mem : ∀ (is : List Bool) (i : Int) (v : Nat), is.getD v false = true → (i + v) ∈ onesFrom is i
  | [], _, v, h => by simp at h
  | b :: bs, i, 0, h => by
    have hb : b = true := by simpa using h
    subst hb; simp [onesFrom]
  | b :: bs, i, v + 1, h => by
    have h' := ones_mem bs (i + 1) v (by simpa using h)
    have e : i + ((v + 1 : Nat) : Int) = i + 1 + (v : Int) := by push_cast; omega
    rw [e]
    cases b <;> simp [onesFrom, h']
end Go.Proofs.Ytiafojcbllbepaa.PH
