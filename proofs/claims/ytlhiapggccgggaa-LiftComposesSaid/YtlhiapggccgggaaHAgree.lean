/- The program's builder and the reference agree, in plain Lean. -/
import Derived.Test.YtlhiapggccgggaaHBehind
namespace Go.Proofs.Ytlhiapggccgggaa.PH
open Go.RowKit Go.Proofs.YtlhiapggccgggaaW.PrintWords
set_option linter.unusedVariables false
set_option linter.unusedSimpArgs false

/-! ### The program's builder and the reference agree -/
theorem andR_full (ands : List Gate) (first : Int) (x y : Int) : (andR ands first true x y).2.1 = true := by
  unfold andR
  split
  · rfl
  · split
    · split <;> rfl
    · rfl
theorem putR_full (first : Int) : ∀ (gs : List Gate) (own : List Int) (ands : List Gate), (putR first gs own ands true).2.2 = true
  | [], own, ands => rfl
  | g :: gs, own, ands => by rw [putR, andR_full]; exact putR_full first gs _ _
theorem joinR_mono (ands : List Gate) (before : Int) (x y : Int) : ands.length ≤ (joinR ands before x y).1.length := by
  unfold joinR
  split
  · exact Nat.le_refl _
  · split <;> simp
theorem behindR_mono (before : Int) : ∀ (gs : List Gate) (own : List Int) (ands : List Gate), ands.length ≤ (behindR before gs own ands).2.length
  | [], own, ands => Nat.le_refl _
  | g :: gs, own, ands => by
    rw [behindR]
    exact Nat.le_trans (joinR_mono ands before _ _) (behindR_mono before gs _ _)
theorem put_behind (before : Int) : ∀ (gs : List Gate) (own : List Int) (ands : List Gate), (1 + before) + ands.length ≤ 1001 →
    ((putR (1 + before) gs own ands false).2.2 = false ∧ (putR (1 + before) gs own ands false).1 = (behindR before gs own ands).1 ∧ (putR (1 + before) gs own ands false).2.1 = (behindR before gs own ands).2 ∧ (1 + before) + (behindR before gs own ands).2.length ≤ 1001) ∨
    ((putR (1 + before) gs own ands false).2.2 = true ∧ 1001 < (1 + before) + (behindR before gs own ands).2.length)
  | [], own, ands, h => .inl ⟨rfl, rfl, rfl, h⟩
  | g :: gs, own, ands, h => by
    rw [putR, behindR]
    generalize told own g.f0 = x
    generalize told own g.f1 = y
    unfold andR joinR
    split
    · exact put_behind before gs _ ands h
    · split
      · split
        · refine .inr ⟨putR_full _ _ _ _, ?_⟩
          have := behindR_mono before gs (own ++ [2 * (before + 1 + (ands.length : Int))]) (ands ++ [gateOf x y])
          simp only [List.length_append, List.length_singleton] at this
          dsimp only
          omega
        · dsimp only
          rw [show 2 * (1 + before + (ands.length : Int)) = 2 * (before + 1 + (ands.length : Int)) by omega]
          exact put_behind before gs _ _ (by simp only [List.length_append, List.length_singleton]; omega)
      · dsimp only
        rw [show 2 * (1 + before + gidx (gateOf x y) ands 0) = 2 * (before + 1 + gidx (gateOf x y) ands 0) by omega]
        exact put_behind before gs _ _ h
/-- One AND. -/
theorem and_join (before : Int) (ands : List Gate) (x y : Int) (h : (1 + before) + ands.length ≤ 1001) :
    ((andR ands (1 + before) false x y).2.1 = false ∧ (andR ands (1 + before) false x y).1 = (joinR ands before x y).1 ∧ (andR ands (1 + before) false x y).2.2 = (joinR ands before x y).2 ∧ (1 + before) + (joinR ands before x y).1.length ≤ 1001) ∨
    ((andR ands (1 + before) false x y).2.1 = true ∧ 1001 < (1 + before) + (joinR ands before x y).1.length) := by
  unfold andR joinR
  split
  · exact .inl ⟨rfl, rfl, rfl, h⟩
  · split
    · split
      · exact .inr ⟨rfl, by simp only [List.length_append, List.length_singleton]; omega⟩
      · exact .inl ⟨rfl, rfl, by dsimp only; omega, by simp only [List.length_append, List.length_singleton]; omega⟩
    · exact .inl ⟨rfl, rfl, by dsimp only; omega, h⟩
end Go.Proofs.Ytlhiapggccgggaa.PH
