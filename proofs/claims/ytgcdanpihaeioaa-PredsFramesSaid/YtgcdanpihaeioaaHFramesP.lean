/- What is put behind a circuit has, in a frame, the value that the predicate has in the state of the values of its literals: plain Lean. -/
import Derived.Test.YtgcdanpihaeioaaHSem
import Derived.Test.YtgcdanpihaeioaaHValues
import Derived.Test.YtgcdanpihaeioaaHPutC
namespace Go.Proofs.Ytgcdanpihaeioaa.PH
open Go.RowKit Go.Proofs.YtgcdanpihaeioaaW.PrintWords
set_option linter.unusedVariables false
set_option linter.unusedSimpArgs false

theorem gOut_more {s t l : Int} (h : s ≤ t) (hl : gOut s l = false) : gOut t l = false := by
  unfold gOut at hl ⊢
  simp only [Bool.or_eq_false_iff, decide_eq_false_iff_not] at hl ⊢
  omega
theorem gWrong_more {s t : Int} {x : Latch} (h : s ≤ t) (hl : gWrong s x = false) : gWrong t x = false := by
  unfold gWrong at hl ⊢
  simp only [Bool.or_eq_false_iff] at hl ⊢
  exact ⟨⟨gOut_more h hl.1.1, hl.1.2⟩, hl.2⟩
theorem any_more {α : Type} {p q : α → Bool} {l : List α} (h : ∀ x, p x = false → q x = false) (hl : ¬ l.any p = true) : ¬ l.any q = true := by
  intro hq
  rw [List.any_eq_true] at hq
  obtain ⟨x, hx, hqx⟩ := hq
  apply hl
  rw [List.any_eq_true]
  refine ⟨x, hx, ?_⟩
  cases hp : p x
  · rw [h x hp] at hqx; cases hqx
  · rfl
/-- A circuit stays right where right gates are added, within the limit. -/
theorem check_more {c : Circ} {g : List Gate} (h : check c = 0) (hl : c.f2.length ≤ g.length) (hg : Okg (1 + c.f0 + c.f1.length) g) (hm : 1 + c.f0 + c.f1.length + g.length ≤ 1001) : check ⟨c.f0, c.f1, g, c.f3, c.f4⟩ = 0 := by
  unfold check gCheck at h ⊢
  dsimp only
  split at h
  · cases h
  split at h
  · cases h
  split at h
  · cases h
  split at h
  · cases h
  split at h
  · cases h
  split at h
  · cases h
  split at h
  · cases h
  split at h
  case isFalse => cases h
  rename_i h1 h2 h3 h4 h5 h6 h7 h8
  have hle : 1 + c.f0 + (c.f1.length : Int) + (c.f2.length : Int) ≤ 1 + c.f0 + (c.f1.length : Int) + (g.length : Int) := by omega
  rw [if_neg h1, if_neg h2, if_neg (by omega), if_neg h4, if_neg (any_more (fun x hx => gOut_more hle hx) h5), if_neg (any_more (fun x hx => gOut_more hle hx) h6), if_neg (any_more (fun x hx => gWrong_more hle hx) h7), if_pos (okg_to (by rw [Int.add_zero]; exact hg))]
theorem putR_len {first : Int} : ∀ (gs : List Gate) (own : List Int) (ands : List Gate), first + ands.length ≤ 1001 → (putR first gs own ands false).2.2 = false → first + (putR first gs own ands false).2.1.length ≤ 1001 := by
  intro gs own ands h hf
  have h2 := put_behind (first - 1) gs own ands (by omega)
  rw [show 1 + (first - 1) = first by omega] at h2
  rcases h2 with ⟨_, _, h3, h4⟩ | ⟨h3, _⟩
  · rw [h3]; exact h4
  · rw [h3] at hf; cases hf
/-- What preds.Put tells where it tells no error. -/
structure PutOk (c : Circ) (p : Pr) (l : List Int) : Prop where
  ck : check c = 0
  li : ∀ x ∈ l, IsLit x ∧ x / 2 < 1 + c.f0 + c.f1.length + c.f2.length
  pc : predCheck l.length p = 0
  nf : (putB p l c.f2 (1 + c.f0 + c.f1.length) false).2.1 = false
  eq : putC c p l = (⟨c.f0, c.f1, (putB p l c.f2 (1 + c.f0 + c.f1.length) false).1, c.f3, c.f4⟩, (putB p l c.f2 (1 + c.f0 + c.f1.length) false).2.2, 0)
theorem put_ok {c : Circ} {p : Pr} {l : List Int} (h : (putC c p l).2.2 = 0) : PutOk c p l := by
  by_cases h1 : check c ≠ 0
  · unfold putC at h; rw [if_pos h1] at h; exact absurd h h1
  by_cases h2 : litsOf (nOf c) l = false
  · unfold putC at h; rw [if_neg h1, if_pos h2] at h; cases h
  by_cases h3 : predCheck l.length p ≠ 0
  · unfold putC at h; rw [if_neg h1, if_neg h2, if_pos h3] at h; exact absurd h h3
  by_cases h4 : (putB p l c.f2 (1 + c.f0 + c.f1.length) false).2.1 = true
  · unfold putC at h; rw [if_neg h1, if_neg h2, if_neg h3, if_pos h4] at h; cases h
  have hc : check c = 0 := Decidable.not_not.1 h1
  refine ⟨hc, fun x hx => ?_, Decidable.not_not.1 h3, by simpa using h4, ?_⟩
  · have h5 : litsOf (nOf c) l = true := by simpa using h2
    unfold litsOf at h5
    rw [List.all_eq_true] at h5
    have h6 := h5 x hx
    simp only [Bool.and_eq_true, decide_eq_true_eq] at h6
    unfold nOf at h6
    have h7 := gCheck_ok hc
    exact ⟨⟨by omega, by omega⟩, by omega⟩
  · unfold putC
    rw [if_neg h1, if_neg h2, if_neg h3, if_neg h4]
structure PutSaid (c x : Circ) (p : Pr) (l : List Int) (lit : Int) : Prop where
  ck : check x = 0
  e0 : x.f0 = c.f0
  e1 : x.f1 = c.f1
  e2 : ∃ t, x.f2 = c.f2 ++ t
  e3 : x.f3 = c.f3
  e4 : x.f4 = c.f4
  il : IsLit lit
  vl : ∀ v0 : List Bool, v0.getD 0 false = false → (v0.length : Int) = 1 + c.f0 + c.f1.length → lit / 2 < (truthFrom x.f2 v0).length ∧ litV (truthFrom x.f2 v0) lit = predValue p (l.map (litV (truthFrom c.f2 v0)))
theorem put_said {c : Circ} {p : Pr} {l : List Int} (h : PutOk c p l) : PutSaid c (putC c p l).1 p l (putC c p l).2.1 := by
  have hb := gCheck_ok h.ck
  have hok : Okg (1 + c.f0 + c.f1.length) c.f2 := by
    have h1 := okg_of (check_gands h.ck)
    rwa [Int.add_zero] at h1
  have hp := predCheck_parts h.pc
  have hlen : 1 + c.f0 + c.f1.length + (putB p l c.f2 (1 + c.f0 + c.f1.length) false).1.length ≤ 1001 := putR_len p.f0 (0 :: l) c.f2 (by omega) h.nf
  have key : ∀ v0 : List Bool, v0.getD 0 false = false → (v0.length : Int) = 1 + c.f0 + c.f1.length → Okg (1 + c.f0 + c.f1.length) (putB p l c.f2 (1 + c.f0 + c.f1.length) false).1 ∧ (∃ t, (putB p l c.f2 (1 + c.f0 + c.f1.length) false).1 = c.f2 ++ t) ∧
      InR (truthFrom (putB p l c.f2 (1 + c.f0 + c.f1.length) false).1 v0).length (putB p l c.f2 (1 + c.f0 + c.f1.length) false).2.2 ∧ litV (truthFrom (putB p l c.f2 (1 + c.f0 + c.f1.length) false).1 v0) (putB p l c.f2 (1 + c.f0 + c.f1.length) false).2.2 = predValue p (l.map (litV (truthFrom c.f2 v0))) := by
    intro v0 z0 zl
    have hl0 : 0 < v0.length := by omega
    have htl := truthFrom_len c.f2 v0
    have hv0 : (truthFrom c.f2 v0).getD 0 false = false := by
      obtain ⟨t, h1, _⟩ := truthFrom_pre c.f2 v0
      rw [h1, List.getD_eq_getElem?_getD, List.getElem?_append_left hl0, ← List.getD_eq_getElem?_getD, z0]
    have hown : Own (truthFrom c.f2 v0) (0 :: l) (false :: l.map (litV (truthFrom c.f2 v0))) := by
      refine ⟨by simp, fun k hk => ?_⟩
      cases k with
      | zero => exact ⟨⟨by simp, by simp only [List.getElem_cons_zero]; omega⟩, by simp only [List.getElem_cons_zero]; rw [litV_zero hv0]; rfl⟩
      | succ k =>
        have hk2 : k < l.length := by simpa using hk
        have h1 := h.li l[k] (List.getElem_mem hk2)
        simp only [List.getElem_cons_succ]
        exact ⟨⟨h1.1.1, by omega⟩, by simp [hk2]⟩
    have hog : Okg ((false :: l.map (litV (truthFrom c.f2 v0))).length : Nat) p.f0 := by
      have h1 := okg_of0 hp.2.2.1
      simp only [List.length_cons, List.length_map]
      exact h1
    obtain ⟨o1, o2, w1⟩ := putR_val (v0 := v0) (first := 1 + c.f0 + c.f1.length) z0 hl0 zl.symm p.f0 (0 :: l) c.f2 _ hok hown hog h.nf
    have t1 := told_val w1 (l := p.f1) hp.2.2.2.1 (by
      have h2 := w1.1
      rw [truthFrom_len] at h2
      simp only [List.length_cons, List.length_map] at h2
      have := hp.2.2.2.2
      omega)
    exact ⟨o1, o2, t1.1, t1.2⟩
  rw [h.eq]
  obtain ⟨k1, ⟨t, k2⟩, k3, _⟩ := key (false :: List.replicate (c.f0.toNat + c.f1.length) false) rfl (by simp only [List.length_cons, List.length_replicate]; omega)
  have hl2 := truthFrom_len (putB p l c.f2 (1 + c.f0 + c.f1.length) false).1 (false :: List.replicate (c.f0.toNat + c.f1.length) false)
  simp only [List.length_cons, List.length_replicate] at hl2
  refine ⟨check_more h.ck (by rw [k2]; simp) k1 hlen, rfl, rfl, ⟨t, k2⟩, rfl, rfl, ⟨k3.1, ?_⟩, fun v0 z0 zl => ?_⟩
  · have h3 := k3.2
    show (putB p l c.f2 (1 + c.f0 + c.f1.length) false).2.2 ≤ 2001
    omega
  · obtain ⟨_, _, q3, q4⟩ := key v0 z0 zl
    exact ⟨q3.2, q4⟩
/-- A circuit that is right has numbers of 64 bits where its rest has. -/
theorem put_fits {c x : Circ} {p : Pr} {l : List Int} {lit : Int} (h : PutSaid c x p l lit) (hf : c.Fits) : x.Fits := by
  have hb := gCheck_ok h.ck
  have hok := okg_of (check_gands h.ck)
  refine ⟨by omega, by omega, by rw [h.e0]; exact hf.i0, by rw [h.e1]; exact hf.i1, fun y hy => ?_, by rw [h.e3]; exact hf.i3, by rw [h.e4]; exact hf.i4⟩
  obtain ⟨k, hk, rfl⟩ := List.getElem_of_mem hy
  have h3 := hok k hk
  exact ⟨⟨by omega, by omega⟩, by omega, by omega⟩
end Go.Proofs.Ytgcdanpihaeioaa.PH
