/- The predicate of clauses is true just if all clauses are, in plain Lean. -/
import Derived.Test.YtgcdanpihaeioaaHSem
import Derived.Test.YtgcdanpihaeioaaHClausesP
namespace Go.Proofs.Ytgcdanpihaeioaa.PH
open Go.RowKit Go.Proofs.YtgcdanpihaeioaaW.PrintWords
set_option linter.unusedVariables false
set_option linter.unusedSimpArgs false

/-- A builder's gates are right, and a literal has a value. -/
structure Vw (v0 : List Bool) (ands : List Gate) (x : Int) (b : Bool) : Prop where
  ok : Okg v0.length ands
  rg : InR (v0.length + ands.length) x
  vl : litV (truthFrom ands v0) x = b
theorem Vw.more {v0 : List Bool} {ands : List Gate} {x : Int} {b : Bool} (h : Vw v0 ands x b) {r : List Gate} (ho : Okg v0.length r) (hp : ∃ t, r = ands ++ t) : Vw v0 r x b := by
  obtain ⟨t, rfl⟩ := hp
  have hl := truthFrom_len ands v0
  refine ⟨ho, ⟨h.rg.1, by have := h.rg.2; simp only [List.length_append]; omega⟩, ?_⟩
  obtain ⟨s, hs⟩ := truthFrom_more ands t v0
  rw [hs, litV_app _ _ h.rg.1 (by have := h.rg.2; omega)]
  exact h.vl
theorem Vw.and {v0 : List Bool} (h0 : v0.getD 0 false = false) (hl : 0 < v0.length) {ands : List Gate} {x y : Int} {b c : Bool} (hx : Vw v0 ands x b) (hy : Vw v0 ands y c) (hn : (andR ands v0.length false x y).2.1 = false) :
    Vw v0 (andR ands v0.length false x y).1 (andR ands v0.length false x y).2.2 (b && c) ∧ ∃ t, (andR ands v0.length false x y).1 = ands ++ t := by
  have h := andR_val h0 hl rfl hx.ok hx.rg hy.rg hn
  exact ⟨⟨h.1, h.2.2.1, by rw [h.2.2.2, hx.vl, hy.vl]⟩, h.2.1⟩
theorem Vw.lit {v0 : List Bool} {ands : List Gate} (ho : Okg v0.length ands) {l : Int} (h : 0 ≤ l) (hl : l / 2 < v0.length) : Vw v0 ands l (litV v0 l) :=
  ⟨ho, ⟨h, by omega⟩, truthFrom_lit ands v0 h hl⟩
theorem Vw.not {v0 : List Bool} {ands : List Gate} {x : Int} {b : Bool} (h : Vw v0 ands x b) : Vw v0 ands (litNot x) (!b) := by
  refine ⟨h.ok, ⟨?_, ?_⟩, by rw [litV_not _ h.rg.1, h.vl]⟩
  · have := h.rg.1; unfold litNot; split <;> omega
  · have h1 := h.rg.1; have h2 := h.rg.2; unfold litNot; split <;> omega
theorem noneR_full (first : Int) : ∀ (c : List Int) (ands : List Gate) (x : Int), (noneR first c ands true x).2.1 = true
  | [], _, _ => rfl
  | y :: ys, ands, x => by rw [noneR, andR_full]; exact noneR_full first ys _ _
theorem oneR_full (first : Int) (c : List Int) (ands : List Gate) (x : Int) : (oneR first c ands true x).2.1 = true := by
  unfold oneR
  rw [noneR_full]
  exact andR_full _ _ _ _
theorem allR_full (first : Int) : ∀ (l : List (List Int)) (ands : List Gate) (x : Int), (allR first l ands true x).2.1 = true
  | [], _, _ => rfl
  | c :: cs, ands, x => by rw [allR, oneR_full]; exact allR_full first cs _ _
theorem noneR_val {v0 : List Bool} (h0 : v0.getD 0 false = false) (hl : 0 < v0.length) : ∀ (c : List Int) (ands : List Gate) (x : Int) (b : Bool), (∀ y ∈ c, 0 ≤ y ∧ y / 2 < v0.length) → Vw v0 ands x b → (noneR v0.length c ands false x).2.1 = false →
    Vw v0 (noneR v0.length c ands false x).1 (noneR v0.length c ands false x).2.2 (b && !c.any (litV v0)) ∧ ∃ t, (noneR v0.length c ands false x).1 = ands ++ t
  | [], ands, x, b, _, hx, _ => ⟨by simpa [noneR] using hx, [], by simp [noneR]⟩
  | y :: ys, ands, x, b, hc, hx, hn => by
    rw [noneR] at hn ⊢
    have hy := hc y (by simp)
    have hnf : (andR ands v0.length false x (litNot y)).2.1 = false := by
      cases hq : (andR ands v0.length false x (litNot y)).2.1
      · rfl
      · rw [hq, noneR_full] at hn; cases hn
    have ha := Vw.and h0 hl hx (Vw.lit hx.ok hy.1 hy.2).not hnf
    rw [hnf] at hn ⊢
    have h2 := noneR_val h0 hl ys _ _ _ (fun z hz => hc z (by simp [hz])) ha.1 hn
    obtain ⟨t, ht⟩ := ha.2
    obtain ⟨s, hs⟩ := h2.2
    refine ⟨?_, t ++ s, by rw [hs, ht, List.append_assoc]⟩
    have h3 := h2.1
    rw [show (b && !(y :: ys).any (litV v0)) = (b && !litV v0 y && !ys.any (litV v0)) by simp [Bool.and_assoc]]
    exact h3
theorem oneR_val {v0 : List Bool} (h0 : v0.getD 0 false = false) (hl : 0 < v0.length) (c : List Int) (ands : List Gate) (x : Int) (b : Bool) (hc : ∀ y ∈ c, 0 ≤ y ∧ y / 2 < v0.length) (hx : Vw v0 ands x b) (hn : (oneR v0.length c ands false x).2.1 = false) :
    Vw v0 (oneR v0.length c ands false x).1 (oneR v0.length c ands false x).2.2 (b && c.any (litV v0)) := by
  unfold oneR at hn ⊢
  have hnf : (noneR v0.length c ands false 1).2.1 = false := by
    cases hq : (noneR v0.length c ands false 1).2.1
    · rfl
    · rw [hq, andR_full] at hn; cases hn
  have h1 : Vw v0 ands 1 true := by
    have := Vw.lit (v0 := v0) hx.ok (l := 1) (by decide) (by omega)
    rw [litV_one h0] at this
    exact this
  have h2 := noneR_val h0 hl c ands 1 true hc h1 hnf
  rw [hnf] at hn ⊢
  have h3 := Vw.and h0 hl (hx.more h2.1.ok h2.2) h2.1.not hn
  have h4 := h3.1
  rw [show (b && c.any (litV v0)) = (b && !(true && !c.any (litV v0))) by simp]
  exact h4
theorem allR_val {v0 : List Bool} (h0 : v0.getD 0 false = false) (hl : 0 < v0.length) : ∀ (l : List (List Int)) (ands : List Gate) (x : Int) (b : Bool), (∀ c ∈ l, ∀ y ∈ c, 0 ≤ y ∧ y / 2 < v0.length) → Vw v0 ands x b → (allR v0.length l ands false x).2.1 = false →
    Vw v0 (allR v0.length l ands false x).1 (allR v0.length l ands false x).2.2 (b && l.all (fun c => c.any (litV v0)))
  | [], ands, x, b, _, hx, _ => by simpa [allR] using hx
  | c :: cs, ands, x, b, hc, hx, hn => by
    rw [allR] at hn ⊢
    have hnf : (oneR v0.length c ands false x).2.1 = false := by
      cases hq : (oneR v0.length c ands false x).2.1
      · rfl
      · rw [hq, allR_full] at hn; cases hn
    have h1 := oneR_val h0 hl c ands x b (hc c (by simp)) hx hnf
    rw [hnf] at hn ⊢
    have h2 := allR_val h0 hl cs _ _ _ (fun d hd => hc d (by simp [hd])) h1 hn
    rw [show (b && (c :: cs).all (fun c => c.any (litV v0))) = (b && c.any (litV v0) && cs.all (fun c => c.any (litV v0))) by simp [Bool.and_assoc]]
    exact h2
theorem andR_len {ands : List Gate} {first : Int} {full : Bool} {x y : Int} (h : first + ands.length ≤ 1001) : first + (andR ands first full x y).1.length ≤ 1001 := by
  unfold andR
  split
  · exact h
  · split
    · split
      · exact h
      · simp only [List.length_append, List.length_singleton]; omega
    · exact h
theorem noneR_len (first : Int) : ∀ (c : List Int) (ands : List Gate) (full : Bool) (x : Int), first + ands.length ≤ 1001 → first + (noneR first c ands full x).1.length ≤ 1001
  | [], _, _, _, h => h
  | y :: ys, ands, full, x, h => by rw [noneR]; exact noneR_len first ys _ _ _ (andR_len h)
theorem allR_len (first : Int) : ∀ (l : List (List Int)) (ands : List Gate) (full : Bool) (x : Int), first + ands.length ≤ 1001 → first + (allR first l ands full x).1.length ≤ 1001
  | [], _, _, _, h => h
  | c :: cs, ands, full, x, h => by rw [allR]; exact allR_len first cs _ _ _ (andR_len (noneR_len first c _ _ _ h))
/-- That all clauses are true in a state. -/
def allTrue (st : List Bool) (l : List (List Int)) : Bool := l.all (fun c => c.any (litV (false :: st)))
theorem clauses_val {l : List (List Int)} {st : List Bool} (h1 : st.length ≤ 1000) (h2 : l.length ≤ 1000) (hr : rightC st.length l = true) :
    clausesP st.length l = (zeroP, 4) ∨ ∃ a, clausesP st.length l = (a, 0) ∧ predCheck st.length a = 0 ∧ predValue a st = allTrue st l := by
  unfold clausesP predR
  rw [if_neg (by omega), if_neg (by omega), if_neg (by omega), if_neg (by rw [hr]; decide)]
  cases hf : (allR ((st.length : Int) + 1) l [] false 1).2.1
  · right
    have hvl : ((false :: st).length : Int) = (st.length : Int) + 1 := by simp only [List.length_cons]; omega
    have hl := allR_len ((st.length : Int) + 1) l [] false 1 (by simp; omega)
    rw [← hvl] at hf hl ⊢
    have h0 : Vw (false :: st) [] 1 true := ⟨fun k hk => by simp at hk, ⟨by decide, by simp only [List.length_cons, List.length_nil]; omega⟩, litV_one rfl⟩
    have h := allR_val (v0 := false :: st) rfl (by simp) l [] 1 true (fun c hc y hy => by
      have h3 := List.all_eq_true.1 hr c hc
      simp only [decide_eq_true_eq] at h3
      unfold clauseErr at h3
      split at h3
      · cases h3
      split at h3
      · cases h3
      split at h3
      case isFalse => cases h3
      case isTrue h4 =>
        have h5 := known_parts (cOk_known h4 y hy)
        exact ⟨by omega, by simp only [List.length_cons]; omega⟩) h0 hf
    refine ⟨_, rfl, ?_, ?_⟩
    · unfold predCheck
      dsimp only
      have h3 := h.rg.1
      have h4 := h.rg.2
      have h5 := h.ok
      rw [hvl] at h5 hl h4
      rw [if_neg (by omega), if_neg (by omega), if_neg (by rw [hvl]; omega), if_pos (okg_to (by rw [show 1 + (st.length : Int) + 0 = (st.length : Int) + 1 by omega, hvl]; exact h5)), if_neg (by rw [hvl] at h3 ⊢; omega), if_neg (by rw [hvl]; omega)]
    · have h3 := h.vl
      rw [Bool.true_and] at h3
      exact h3
  · left
    rw [if_pos rfl]
end Go.Proofs.Ytgcdanpihaeioaa.PH
