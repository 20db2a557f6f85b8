/- preds.Clauses and its reference answer alike, in plain Lean. -/
import Derived.Test.YtgcdanpihaeioaaHAgree2
import Derived.Test.YtgcdanpihaeioaaHClausesR
namespace Go.Proofs.Ytgcdanpihaeioaa.PH
open Go.RowKit Go.Proofs.YtgcdanpihaeioaaW.PrintWords
set_option linter.unusedVariables false
set_option linter.unusedSimpArgs false

/-- The builder's gates and the reference's: the same, or the builder is full and the reference has too many. -/
def Sim (b : Int) (r : List Gate × Bool × Int) (j : List Gate × Int) : Prop :=
  (r.2.1 = false ∧ r.1 = j.1 ∧ r.2.2 = j.2 ∧ (1 + b) + j.1.length ≤ 1001) ∨ (r.2.1 = true ∧ 1001 < (1 + b) + j.1.length)
theorem Sim.step {b : Int} {r : List Gate × Bool × Int} {j : List Gate × Int} (h : Sim b r j) (x x' y y' : Int) (hx : r.2.1 = false → x = x' ∧ y = y') : Sim b (andR r.1 (1 + b) r.2.1 x y) (joinR j.1 b x' y') := by
  rcases h with ⟨h1, h2, h3, h4⟩ | ⟨h1, h2⟩
  · obtain ⟨rfl, rfl⟩ := hx h1
    rw [h1, h2]
    exact and_join b j.1 x y h4
  · rw [h1]
    refine .inr ⟨andR_full _ _ _ _, ?_⟩
    have := joinR_mono j.1 b x' y'
    omega
theorem none_sim (b : Int) : ∀ (c : List Int) (r : List Gate × Bool × Int) (j : List Gate × Int), Sim b r j → Sim b (noneR (1 + b) c r.1 r.2.1 r.2.2) (noneJ b c j.1 j.2)
  | [], r, j, h => h
  | y :: ys, r, j, h => by
    rw [noneR, noneJ]
    refine none_sim b ys _ _ (h.step r.2.2 j.2 (litNot y) (litNot y) (fun h1 => ?_))
    rcases h with ⟨_, _, h3, _⟩ | ⟨h2, _⟩
    · exact ⟨h3, rfl⟩
    · rw [h1] at h2; cases h2
theorem one_sim (b : Int) (c : List Int) (r : List Gate × Bool × Int) (j : List Gate × Int) (h : Sim b r j) : Sim b (oneR (1 + b) c r.1 r.2.1 r.2.2) (oneJ b c j.1 j.2) := by
  have h1 : Sim b (r.1, r.2.1, 1) (j.1, 1) := by
    rcases h with ⟨h1, h2, h3, h4⟩ | ⟨h1, h2⟩
    · exact .inl ⟨h1, h2, rfl, h4⟩
    · exact .inr ⟨h1, h2⟩
  have h2 := none_sim b c _ _ h1
  unfold oneR oneJ
  refine h2.step r.2.2 j.2 _ _ (fun hf => ?_)
  rcases h2 with ⟨_, _, h3, _⟩ | ⟨h4, _⟩
  · refine ⟨?_, by rw [h3]⟩
    rcases h with ⟨_, _, h5, _⟩ | ⟨h5, _⟩
    · exact h5
    · exact absurd hf (by rw [none_full (1 + b) c r.1 r.2.1 1 h5]; decide)
  · rw [hf] at h4; cases h4
where none_full (first : Int) : ∀ (c : List Int) (ands : List Gate) (full : Bool) (x : Int), full = true → (noneR first c ands full x).2.1 = true
  | [], _, _, _, h => h
  | y :: ys, ands, full, x, h => by rw [noneR]; exact none_full first ys _ _ _ (by rw [h]; exact andR_full _ _ _ _)
theorem all_sim (b : Int) : ∀ (l : List (List Int)) (r : List Gate × Bool × Int) (j : List Gate × Int), Sim b r j → Sim b (allR (1 + b) l r.1 r.2.1 r.2.2) (allJ b l j.1 j.2)
  | [], r, j, h => h
  | c :: cs, r, j, h => by
    rw [allR, allJ]
    exact all_sim b cs _ _ (one_sim b c r j h)
theorem clauses_same (n : Int) (l : List (List Int)) : clausesR n l = clausesP n l := by
  unfold clausesR clausesP
  split
  · rfl
  split
  · rfl
  split
  · rfl
  split
  · rfl
  · have h := all_sim n l ([], false, 1) ([], 1) (.inl ⟨rfl, rfl, rfl, by simp; omega⟩)
    rw [show n + 1 = 1 + n by omega]
    unfold fewR predR
    rcases h with ⟨h1, h2, h3, h4⟩ | ⟨h1, h2⟩
    · dsimp only at h1 h2 h3 h4 ⊢
      rw [if_neg (by omega), if_neg (by rw [h1]; decide), h2, h3]
    · dsimp only at h1 h2 ⊢
      rw [if_pos (by omega), if_pos h1]
end Go.Proofs.Ytgcdanpihaeioaa.PH
