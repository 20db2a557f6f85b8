/- preds.And, Or and their references answer alike, in plain Lean. -/
import Derived.Test.YtlhiapggccgggaaHAgree
import Derived.Test.YtlhiapggccgggaaHRefMake2
namespace Go.Proofs.Ytlhiapggccgggaa.PH
open Go.RowKit Go.Proofs.YtlhiapggccgggaaW.PrintWords
set_option linter.unusedVariables false
set_option linter.unusedSimpArgs false

theorem both_same {n : Int} {p q : Pr} (h : twoErr n p q = 0) :
    ((andB n p q).2.1 = false ∧ (andB n p q).1 = (bothR n p q).f0 ∧ (andB n p q).2.2 = (bothR n p q).f1 ∧ n + (bothR n p q).f0.length ≤ 1000) ∨ ((andB n p q).2.1 = true ∧ 1000 < n + (bothR n p q).f0.length) := by
  have h1 := predCheck_parts (two_ok h).1
  unfold andB bothR bothB boxB putB behindB
  rw [show n + 1 = 1 + n by omega]
  dsimp only
  rcases put_behind n q.f0 (0 :: ownLits n.toNat) p.f0 (by omega) with ⟨h2, h3, h4, h5⟩ | ⟨h2, h3⟩
  · rw [h2, h3, h4]
    rcases and_join n (behindR n q.f0 (0 :: ownLits n.toNat) p.f0).2 p.f1 (told (behindR n q.f0 (0 :: ownLits n.toNat) p.f0).1 q.f1) h5 with ⟨a1, a2, a3, a4⟩ | ⟨a1, a2⟩
    · exact .inl ⟨a1, a2, a3, by omega⟩
    · exact .inr ⟨a1, by omega⟩
  · rw [h2]
    refine .inr ⟨andR_full _ _ _ _, ?_⟩
    have := joinR_mono (behindR n q.f0 (0 :: ownLits n.toNat) p.f0).2 n p.f1 (told (behindR n q.f0 (0 :: ownLits n.toNat) p.f0).1 q.f1)
    omega
theorem and_same (n : Int) (p q : Pr) : refAnd n p q = andP n p q := by
  unfold refAnd andP
  split
  · rfl
  · rename_i h
    have h := Classical.not_not.1 h
    unfold fewR predR
    rcases both_same h with ⟨h1, h2, h3, h4⟩ | ⟨h1, h2⟩
    · rw [if_neg (by omega), if_neg (by rw [h1]; decide), h2, h3]
    · rw [if_pos h2, if_pos h1]
theorem or_same (n : Int) (p q : Pr) : refOr n p q = orP n p q := by
  unfold refOr orP
  split
  · rfl
  · rename_i h
    have h := two_turn (Classical.not_not.1 h)
    have e1 : andP n (turnP p) (turnP q) = fewR n (bothR n (turnP p) (turnP q)) := by
      rw [← and_same]
      unfold refAnd
      rw [if_neg (by rw [h]; simp)]
    rw [e1]
    generalize bothR n (turnP p) (turnP q) = b
    unfold fewR
    by_cases hc : 1000 < n + (b.f0.length : Int)
    · rw [if_pos (show 1000 < n + ((turnP b).f0.length : Int) from hc), if_pos hc, if_pos (by decide)]
    · rw [if_neg (show ¬ 1000 < n + ((turnP b).f0.length : Int) from hc), if_neg hc, if_neg (by simp)]
end Go.Proofs.Ytlhiapggccgggaa.PH
