/- Cones of circuits that are written out. -/
import Derived.Test.YtiafojcbllbepaaHPassP
namespace Go.Proofs.Ytiafojcbllbepaa.PH
open Go.RowKit Go.Proofs.YtiafojcbllbepaaW.PrintWords Go.Proofs.YtiafojcbllbepaaW.PrintLast
set_option linter.unusedVariables false
set_option linter.unusedSimpArgs false

def gotB (is : List Bool) (l : Int) : Bool := varOf l == 0 || is.getD (varOf l) false
/-- What is set is closed. -/
def closedB (c : Circ) (is : List Bool) : Bool := (c.f3 ++ c.f4).all (gotB is) && (List.range (sizeC c + 1)).all (fun v => !is.getD v false || (gateReads c v ++ latReads c v).all (gotB is))
/-- Each variable of a list is a root's, or read by one that stands ahead of it. -/
def orderB (c : Circ) : List Nat → List Nat → Bool
  | _, [] => true
  | old, v :: vs => decide (0 < v) && ((c.f3 ++ c.f4).any (fun l => varOf l == v) || old.any (fun u => (gateReads c u ++ latReads c u).any (fun l => varOf l == v))) && orderB c (v :: old) vs
theorem order_reach {c : Circ} : ∀ (vs old : List Nat), (∀ u ∈ old, Reach c u) → orderB c old vs = true → ∀ v ∈ vs, Reach c v
  | [], _, _, _, v, hv => by simp at hv
  | w :: vs, old, ho, h, v, hv => by
    unfold orderB at h
    simp only [Bool.and_eq_true, decide_eq_true_eq, Bool.or_eq_true] at h
    obtain ⟨⟨h0, h1⟩, h2⟩ := h
    have hw : Reach c w := by
      rcases h1 with h1 | h1
      · obtain ⟨l, hl, he⟩ := List.any_eq_true.1 h1
        have he' : varOf l = w := by simpa using he
        exact he' ▸ Reach.root hl (by omega)
      · obtain ⟨u, hu, hx⟩ := List.any_eq_true.1 h1
        obtain ⟨l, hl, he⟩ := List.any_eq_true.1 hx
        have he' : varOf l = w := by simpa using he
        exact he' ▸ Reach.step (ho u hu) hl (by omega)
    rcases List.mem_cons.1 hv with rfl | hv
    · exact hw
    · exact order_reach vs (w :: old) (fun u hu => by
        rcases List.mem_cons.1 hu with rfl | hu
        · exact hw
        · exact ho u hu) h2 v hv
/-- A cone that is told by its row and an order. -/
theorem cone_cert {c : Circ} (hi : Inside c) (is : List Bool) (vs : List Nat) (hl : is.length = sizeC c + 1) (hc : closedB c is = true) (ho : orderB c [] vs = true) (hv : (List.range (sizeC c + 1)).all (fun v => is.getD v false == vs.contains v) = true) : coneB c = is := by
  refine (cone_tells hi).unique ⟨hl, fun v => ⟨fun h => ?_, fun h => ?_⟩⟩
  · have hlt : v < sizeC c + 1 := by
      by_cases h2 : v < sizeC c + 1
      · exact h2
      · rw [List.getD_eq_getElem?_getD, List.getElem?_eq_none (by omega)] at h; simp at h
    have h3 := List.all_eq_true.1 hv v (List.mem_range.2 hlt)
    rw [h] at h3
    exact order_reach vs [] (fun u hu => by simp at hu) ho v (by simpa using h3)
  · unfold closedB at hc
    simp only [Bool.and_eq_true] at hc
    have got : ∀ {l : Int}, gotB is l = true → 0 < varOf l → is.getD (varOf l) false = true := fun hg hp => by
      unfold gotB at hg
      simp only [Bool.or_eq_true, beq_iff_eq] at hg
      rcases hg with hg | hg
      · omega
      · exact hg
    induction h with
    | root hr hp => exact got (List.all_eq_true.1 hc.1 _ hr) hp
    | @step u l hu hr hp ih =>
      have h2 := List.all_eq_true.1 hc.2 u (List.mem_range.2 (by have := hu.le hi; omega))
      rw [ih] at h2
      exact got (List.all_eq_true.1 (by simpa using h2) _ hr) hp
end Go.Proofs.Ytiafojcbllbepaa.PH
