/- Where a run is cut, and which of its beginnings are witnesses: plain Lean. -/
import Derived.Test.YtchhbkicplgmhaaHAlive6
namespace Go.Proofs.Ytchhbkicplgmhaa.PH
open Go.RowKit Go.Proofs.YtchhbkicplgmhaaW.PrintWords Go.Proofs.YtchhbkicplgmhaaW.PrintLast
set_option linter.unusedVariables false
set_option linter.unusedSimpArgs false

/-- The first n frames are a witness. -/
def hitP (F : List Fr) (n : Nat) : Prop := 1 ≤ n ∧ n ≤ F.length ∧ (∀ j (hj : j < F.length), j < n → F[j].2.1 = true) ∧ ∀ (h : n - 1 < F.length), hitF F[n - 1] = true
theorem go_hit {j : Nat} {f : Fr} (h : goCut j f = true) : f.2.1 = true ∧ hitF f = false := by
  unfold goCut at h
  unfold hitF
  cases hr : f.2.1 <;> cases ha : f.2.2.any (fun x => true == x) <;> rw [hr, ha] at h <;> simp_all
theorem go_not {j : Nat} {f : Fr} (h : goCut j f = false) (h2 : hitF f = false) : f.2.1 = false := by
  unfold goCut at h
  unfold hitF at h2
  cases hr : f.2.1 <;> cases ha : f.2.2.any (fun x => true == x) <;> rw [hr, ha] at h h2 <;> simp_all
theorem first_not (p : Fr → Bool) : ∀ (F : List Fr), (∀ j (hj : j < F.length), p F[j] = true) ∨ ∃ i, ∃ hi : i < F.length, p F[i] = false ∧ ∀ j (hj : j < F.length), j < i → p F[j] = true
  | [] => Or.inl (fun j hj => by simp at hj)
  | f :: fs => by
    cases hf : p f with
    | false => exact Or.inr ⟨0, by simp, hf, fun j _ hj => absurd hj (Nat.not_lt_zero _)⟩
    | true =>
      rcases first_not p fs with h | ⟨i, hi, h1, h2⟩
      · refine Or.inl (fun j hj => ?_)
        cases j with
        | zero => exact hf
        | succ j => exact h j (by simpa using hj)
      · refine Or.inr ⟨i + 1, by simpa using hi, h1, fun j hj hji => ?_⟩
        cases j with
        | zero => exact hf
        | succ j => exact h2 j (by simpa using hj) (by omega)
/-- Cut's number: the least beginning that is a witness, or 0. -/
theorem cut_spec (F : List Fr) : (cutN (walked F goCut 0) = 0 ∧ ∀ n, ¬ hitP F n) ∨ ∃ n : Nat, cutN (walked F goCut 0) = (n : Int) ∧ hitP F n ∧ ∀ m, m < n → ¬ hitP F m := by
  rcases first_not (fun f => goCut 0 f) F with h | ⟨i, hi, h1, h2⟩
  · refine Or.inl ⟨?_, fun n hn => ?_⟩
    · rw [walked_ok rfl, stop_end (fun j hj => h j hj), Nat.zero_add]
      exact cutN_go (Nat.le_refl _) (fun j hj => h j hj)
    · obtain ⟨n1, n2, n3, n4⟩ := hn
      have h3 := (go_hit (h (n - 1) (by omega))).2
      rw [n4 (by omega)] at h3
      cases h3
  · have hw : cutN (walked F goCut 0) = if hitF F[i] = true then ((i + 1 : Nat) : Int) else 0 := by
      rw [walked_ok rfl, stop_here (i := 0) hi h1 (fun j hj => h2 j (by omega) hj), Nat.zero_add, take_at hi, cutN_snoc, List.length_take, Nat.min_eq_left (Nat.le_of_lt hi)]
    have hno : ∀ n, n - 1 < i → ¬ hitP F n := by
      rintro n hn ⟨n1, n2, n3, n4⟩
      have h3 := (go_hit (h2 (n - 1) (by omega) hn)).2
      rw [n4 (by omega)] at h3
      cases h3
    cases hh : hitF F[i] with
    | true =>
      rw [hh, if_pos rfl] at hw
      refine Or.inr ⟨i + 1, hw, ⟨by omega, by omega, fun j hj hji => ?_, fun _ => hh⟩, fun m hm hp => hno m (by have := hp.1; omega) hp⟩
      by_cases e : j = i
      · subst e
        unfold hitF at hh
        rw [Bool.and_eq_true] at hh
        exact hh.1
      · exact (go_hit (h2 j hj (by omega))).1
    | false =>
      rw [hh, if_neg (by decide)] at hw
      have hr := go_not h1 hh
      refine Or.inl ⟨hw, fun n hp => ?_⟩
      by_cases e : n - 1 < i
      · exact hno n e hp
      · obtain ⟨n1, n2, n3, n4⟩ := hp
        by_cases e2 : n - 1 = i
        · have h3 := n4 (by omega)
          simp only [e2] at h3
          rw [hh] at h3
          cases h3
        · have h3 := n3 i hi (by omega)
          rw [hr] at h3
          cases h3
/-- Witness's number: of all frames. -/
theorem wit_spec (F : List Fr) (h0 : 0 < F.length) : (hitP F F.length → 0 ≤ witN F.length (walked F (fun _ f => f.2.1) 0)) ∧ (¬ hitP F F.length → witN F.length (walked F (fun _ f => f.2.1) 0) = -1) ∧
    ((∀ j (hj : j < F.length), F[j].2.1 = true) → witN F.length (walked F (fun _ f => f.2.1) 0) = firstIdx (fun x => true == x) (F[F.length - 1]'(by omega)).2.2 0) := by
  have hany : ∀ (l : List Bool), decide (0 ≤ firstIdx (fun x => true == x) l 0) = l.any (fun x => true == x) := fun l => firstIdx_nonneg _ l 0 (Int.le_refl _)
  have hmiss : ∀ (l : List Bool), l.any (fun x => true == x) = false → firstIdx (fun x => true == x) l 0 = -1 := fun l hl => firstIdx_miss _ l 0 (fun x hx => by
    cases hp : (true == x)
    · rfl
    · have := List.any_eq_false.1 hl x hx
      rw [hp] at this
      exact absurd rfl this)
  rcases first_not (fun f => f.2.1) F with h | ⟨i, hi, h1, h2⟩
  · have hw : witN F.length (walked F (fun _ f => f.2.1) 0) = firstIdx (fun x => true == x) (F[F.length - 1]'(by omega)).2.2 0 := by
      rw [walked_ok rfl, stop_end (fun j hj => h j hj), Nat.zero_add]
      have e : F.take F.length = F.take (F.length - 1) ++ [F[F.length - 1]'(by omega)] := by
        have h3 := take_at (l := F) (k := F.length - 1) (by omega)
        rw [show F.length - 1 + 1 = F.length by omega] at h3
        exact h3
      rw [e, witN_snoc, if_pos ⟨h _ _, by rw [List.length_take]; omega⟩]
    refine ⟨fun hp => ?_, fun hp => ?_, fun _ => hw⟩
    · rw [hw]
      have h3 := hp.2.2.2 (by omega)
      unfold hitF at h3
      rw [Bool.and_eq_true] at h3
      have h4 := hany (F[F.length - 1]'(by omega)).2.2
      rw [h3.2] at h4
      exact of_decide_eq_true h4
    · rw [hw]
      apply hmiss
      cases ha : (F[F.length - 1]'(by omega)).2.2.any (fun x => true == x)
      · rfl
      · exact absurd ⟨by omega, Nat.le_refl _, fun j hj _ => h j hj, fun hx => by unfold hitF; rw [h _ hx, ha]; rfl⟩ hp
  · have hw : witN F.length (walked F (fun _ f => f.2.1) 0) = -1 := by
      rw [walked_ok rfl, stop_here (i := 0) hi h1 (fun j hj => h2 j (by omega) hj), Nat.zero_add, take_at hi, witN_snoc, if_neg]
      rintro ⟨h3, _⟩
      have h4 : F[i].2.1 = false := h1
      rw [h4] at h3
      cases h3
    refine ⟨fun hp => ?_, fun _ => hw, fun h => ?_⟩
    · have h3 := hp.2.2.1 i hi hi
      have h4 : F[i].2.1 = false := h1
      rw [h4] at h3
      cases h3
    · have h3 := h i hi
      have h4 : F[i].2.1 = false := h1
      rw [h4] at h3
      cases h3
/-- The beginning of a run that is right. -/
theorem pre_check {c : Circ} {t : Run} (h : tCheck c t = 0) {n : Nat} (h1 : 1 ≤ n) (h2 : n ≤ t.f1.length) : tCheck c ⟨t.f0, t.f1.take n⟩ = 0 := by
  obtain ⟨a1, a2, a3, a4, a5, a6⟩ := tCheck_ok h
  have hl : (t.f1.take n).length = n := by rw [List.length_take]; omega
  unfold tCheck
  dsimp only
  rw [if_neg (by simp [a1]), if_neg (by rw [hl]; omega), if_neg (by rw [hl]; omega), if_neg (by simp [a4]), if_neg (by simp [a5]), if_neg]
  intro h7
  rw [List.any_eq_true] at h7
  obtain ⟨l, hl2, h8⟩ := h7
  have h9 := a6 l (List.mem_of_mem_take hl2)
  simp [h9] at h8
theorem hit_pre {F : List Fr} {n m : Nat} (hn : n ≤ F.length) (hm : m ≤ n) : hitP (F.take n) m ↔ hitP F m := by
  have hl : (F.take n).length = n := by rw [List.length_take]; omega
  constructor
  · rintro ⟨p1, p2, p3, p4⟩
    refine ⟨p1, by omega, fun j hj hjm => ?_, fun hx => ?_⟩
    · have h3 := p3 j (by omega) hjm
      rw [List.getElem_take] at h3
      exact h3
    · have h3 := p4 (by omega)
      rw [List.getElem_take] at h3
      exact h3
  · rintro ⟨p1, p2, p3, p4⟩
    refine ⟨p1, by omega, fun j hj hjm => ?_, fun hx => ?_⟩
    · rw [List.getElem_take]
      exact p3 j (by omega) hjm
    · rw [List.getElem_take]
      exact p4 (by omega)
end Go.Proofs.Ytchhbkicplgmhaa.PH
