/- What the builder makes has the values of its parts, in plain Lean. -/
import Derived.Test.YtgcdanpihaeioaaHAgree2
import Derived.Test.YtgcdanpihaeioaaHTruth
namespace Go.Proofs.Ytgcdanpihaeioaa.PH
open Go.RowKit Go.Proofs.YtgcdanpihaeioaaW.PrintWords
set_option linter.unusedVariables false
set_option linter.unusedSimpArgs false

/-! ### Values of literals -/
theorem litV_not (v : List Bool) {l : Int} (h : 0 ≤ l) : litV v (litNot l) = !litV v l := by
  unfold litV litNot
  split
  · rename_i h2
    rw [show (l + 1) / 2 = l / 2 by omega, show (l + 1) % 2 = 1 by omega, h2]
    cases v.getD (l / 2).toNat false <;> rfl
  · rename_i h2
    rw [show (l - 1) / 2 = l / 2 by omega, show (l - 1) % 2 = 0 by omega, show l % 2 = 1 by omega]
    cases v.getD (l / 2).toNat false <;> rfl
theorem litV_app (v t : List Bool) {l : Int} (h : 0 ≤ l) (hl : l / 2 < v.length) : litV (v ++ t) l = litV v l := by
  unfold litV
  rw [List.getD_eq_getElem?_getD, List.getD_eq_getElem?_getD, List.getElem?_append_left (by omega)]
theorem truthFrom_pre : ∀ (gs : List Gate) (v : List Bool), ∃ t, truthFrom gs v = v ++ t ∧ t.length = gs.length
  | [], v => ⟨[], by simp [truthFrom], rfl⟩
  | g :: gs, v => by
    obtain ⟨t, h1, h2⟩ := truthFrom_pre gs (v ++ [litV v g.f0 && litV v g.f1])
    exact ⟨(litV v g.f0 && litV v g.f1) :: t, by rw [truthFrom, h1]; simp, by simp [h2]⟩
theorem truthFrom_len (gs : List Gate) (v : List Bool) : (truthFrom gs v).length = v.length + gs.length := by
  obtain ⟨t, h1, h2⟩ := truthFrom_pre gs v
  rw [h1, List.length_append, h2]
theorem truthFrom_snoc : ∀ (gs : List Gate) (g : Gate) (v : List Bool), truthFrom (gs ++ [g]) v = truthFrom gs v ++ [litV (truthFrom gs v) g.f0 && litV (truthFrom gs v) g.f1]
  | [], g, v => by simp [truthFrom]
  | x :: xs, g, v => by simp only [List.cons_append, truthFrom]; exact truthFrom_snoc xs g _
theorem truthFrom_lit (gs : List Gate) (v : List Bool) {l : Int} (h : 0 ≤ l) (hl : l / 2 < v.length) : litV (truthFrom gs v) l = litV v l := by
  obtain ⟨t, h1, _⟩ := truthFrom_pre gs v
  rw [h1]
  exact litV_app v t h hl
/-- The gates are right, behind so many variables. -/
def Okg (s : Int) (ands : List Gate) : Prop := ∀ k (hk : k < ands.length), 0 ≤ ands[k].f1 ∧ ands[k].f1 ≤ ands[k].f0 ∧ ands[k].f0 < 2 * (s + k)
theorem okg_of : ∀ {s : Int} {gs : List Gate} {i : Int}, gAnds s gs i = true → Okg (s + i) gs
  | s, [], i, _ => fun k hk => by simp at hk
  | s, g :: gs, i, h => by
    unfold gAnds at h
    split at h
    · cases h
    split at h
    · cases h
    split at h
    · cases h
    · intro k hk
      cases k with
      | zero => exact ⟨by simp; omega, by simp; omega, by simp; omega⟩
      | succ k =>
        have := okg_of h k (by simpa using hk)
        simp only [List.getElem_cons_succ]
        refine ⟨this.1, this.2.1, ?_⟩
        have h3 := this.2.2
        push_cast
        omega
theorem okg_to : ∀ {s : Int} {gs : List Gate} {i : Int}, Okg (s + i) gs → gAnds s gs i = true
  | s, [], i, _ => rfl
  | s, g :: gs, i, h => by
    have h0 := h 0 (by simp)
    simp only [List.getElem_cons_zero] at h0
    unfold gAnds
    rw [if_neg (by omega), if_neg (by omega), if_neg (by omega)]
    refine okg_to (fun k hk => ?_)
    have h1 := h (k + 1) (by simpa using hk)
    simp only [List.getElem_cons_succ] at h1
    refine ⟨h1.1, h1.2.1, ?_⟩
    have h3 := h1.2.2
    push_cast at h3
    omega
theorem truthFrom_at : ∀ (gs : List Gate) (v : List Bool) (k : Nat) (hk : k < gs.length), Okg v.length gs → (truthFrom gs v).getD (v.length + k) false = (litV (truthFrom gs v) gs[k].f0 && litV (truthFrom gs v) gs[k].f1)
  | g :: gs, v, 0, hk, h => by
    have h0 := h 0 (by simp)
    simp only [List.getElem_cons_zero] at h0 ⊢
    rw [truthFrom_lit (g :: gs) v (by omega) (by omega), truthFrom_lit (g :: gs) v (by omega) (by omega), truthFrom]
    obtain ⟨t, h1, _⟩ := truthFrom_pre gs (v ++ [litV v g.f0 && litV v g.f1])
    rw [h1, List.getD_eq_getElem?_getD, List.append_assoc, List.getElem?_append_right (by omega)]
    simp
  | g :: gs, v, k + 1, hk, h => by
    rw [truthFrom]
    have h2 := truthFrom_at gs (v ++ [litV v g.f0 && litV v g.f1]) k (by simpa using hk) (fun j hj => by
      have h3 := h (j + 1) (by simpa using hj)
      simp only [List.getElem_cons_succ] at h3
      refine ⟨h3.1, h3.2.1, ?_⟩
      have h4 := h3.2.2
      simp only [List.length_append, List.length_singleton]
      push_cast at h4 ⊢
      omega)
    simp only [List.length_append, List.length_singleton] at h2
    simp only [List.getElem_cons_succ]
    rw [← h2, show v.length + 1 + k = v.length + (k + 1) by omega]
theorem litV_zero {v : List Bool} (h : v.getD 0 false = false) : litV v 0 = false := by
  unfold litV
  rw [show ((0 : Int) / 2).toNat = 0 by decide, h]
  decide
theorem litV_one {v : List Bool} (h : v.getD 0 false = false) : litV v 1 = true := by
  unfold litV
  rw [show ((1 : Int) / 2).toNat = 0 by decide, h]
  decide
theorem simple_val {v : List Bool} (h : v.getD 0 false = false) {x y : Int} (hx : 0 ≤ x) (hy : 0 ≤ y) (hs : (simpleR x y).2 = true) : litV v (simpleR x y).1 = (litV v x && litV v y) := by
  unfold simpleR at hs ⊢
  split
  · rename_i h1; subst h1; rw [litV_zero h]; rfl
  · split
    · rename_i h1; subst h1; rw [litV_zero h]; simp
    · split
      · rename_i h1; subst h1; rw [litV_zero h, litV_not v hx]; cases litV v x <;> rfl
      · split
        · rename_i h1; subst h1; rw [litV_one h]; simp
        · split
          · rename_i h1; subst h1; rw [litV_one h]; simp
          · split
            · rename_i h1; subst h1; simp
            · rename_i h1 h2 h3 h4 h5 h6
              rw [if_neg h1, if_neg h2, if_neg h3, if_neg h4, if_neg h5, if_neg h6] at hs
              cases hs
theorem simple_range {x y : Int} {m : Int} (hm : 0 < m) (hx : 0 ≤ x) (hy : 0 ≤ y) (hx2 : x / 2 < m) (hy2 : y / 2 < m) : 0 ≤ (simpleR x y).1 ∧ (simpleR x y).1 / 2 < m := by
  unfold simpleR
  repeat' split
  all_goals constructor <;> (dsimp only; omega)
theorem gidx_at (g : Gate) : ∀ (l : List Gate) (i : Nat), ¬ gidx g l i < 0 → ∃ k, ∃ (hk : k < l.length), gidx g l i = (i : Int) + k ∧ g.f0 = l[k].f0 ∧ g.f1 = l[k].f1
  | [], i, h => absurd (by unfold gidx; decide) h
  | x :: xs, i, h => by
    unfold gidx at h ⊢
    split
    · rename_i h1
      exact ⟨0, by simp, by simp, h1.1, h1.2⟩
    · rename_i h1
      rw [if_neg h1] at h
      obtain ⟨k, hk, h2, h3⟩ := gidx_at g xs (i + 1) h
      exact ⟨k + 1, by simpa using hk, by rw [h2]; push_cast; omega, by simpa using h3⟩
/-- A literal of the variables that there are. -/
def InR (m : Int) (l : Int) : Prop := 0 ≤ l ∧ l / 2 < m
theorem gate_val (v : List Bool) (x y : Int) : (litV v (gateOf x y).f0 && litV v (gateOf x y).f1) = (litV v x && litV v y) := by
  unfold gateOf mx mn
  dsimp only
  by_cases h : x < y
  · rw [if_pos h, if_neg (by omega), Bool.and_comm]
  · rw [if_neg h]
    by_cases h2 : y < x
    · rw [if_pos h2]
    · rw [if_neg h2, show x = y by omega]
theorem gate_ok {m x y : Int} (hx : InR m x) (hy : InR m y) : 0 ≤ (gateOf x y).f1 ∧ (gateOf x y).f1 ≤ (gateOf x y).f0 ∧ (gateOf x y).f0 < 2 * m := by
  obtain ⟨h1, h2⟩ := hx
  obtain ⟨h3, h4⟩ := hy
  unfold gateOf mx mn
  dsimp only
  refine ⟨?_, ?_, ?_⟩ <;> (repeat' split) <;> omega
/-- One AND on a builder that is not full behind it. -/
theorem andR_val {v0 : List Bool} {ands : List Gate} {first : Int} {x y : Int} (h0 : v0.getD 0 false = false) (hl : 0 < v0.length) (hf : first = v0.length) (ho : Okg first ands) (hx : InR (first + ands.length) x) (hy : InR (first + ands.length) y) (hn : (andR ands first false x y).2.1 = false) :
    Okg first (andR ands first false x y).1 ∧ (∃ t, (andR ands first false x y).1 = ands ++ t) ∧ InR (first + (andR ands first false x y).1.length) (andR ands first false x y).2.2 ∧
    litV (truthFrom (andR ands first false x y).1 v0) (andR ands first false x y).2.2 = (litV (truthFrom ands v0) x && litV (truthFrom ands v0) y) := by
  have hv0 : (truthFrom ands v0).getD 0 false = false := by
    obtain ⟨t, h1, _⟩ := truthFrom_pre ands v0
    rw [h1, List.getD_eq_getElem?_getD, List.getElem?_append_left hl, ← List.getD_eq_getElem?_getD, h0]
  unfold andR at hn ⊢
  split
  · rename_i hs
    exact ⟨ho, ⟨[], by simp⟩, simple_range (by omega) hx.1 hy.1 hx.2 hy.2, simple_val hv0 hx.1 hy.1 hs⟩
  · rename_i hs
    rw [if_neg hs] at hn
    split
    · rename_i hg
      rw [if_pos hg] at hn
      split
      · rename_i hc
        rw [if_pos hc] at hn
        cases hn
      · have hgo := gate_ok hx hy
        refine ⟨fun k hk => ?_, ⟨[gateOf x y], rfl⟩, ⟨by dsimp only; omega, by simp only [List.length_append, List.length_singleton]; omega⟩, ?_⟩
        · by_cases hk2 : k < ands.length
          · simp only [List.getElem_append_left hk2]
            exact ho k hk2
          · have hk3 : k = ands.length := by simp only [List.length_append, List.length_singleton] at hk; omega
            subst hk3
            simp only [List.getElem_append_right (Nat.le_refl _), Nat.sub_self, List.getElem_cons_zero]
            exact hgo
        · dsimp only
          rw [truthFrom_snoc, gate_val]
          have hlen := truthFrom_len ands v0
          generalize (litV (truthFrom ands v0) x && litV (truthFrom ands v0) y) = b
          unfold litV
          rw [show (2 * (first + (ands.length : Int))) / 2 = first + ands.length by omega, show (2 * (first + (ands.length : Int))) % 2 = 0 by omega, show (first + (ands.length : Int)).toNat = (truthFrom ands v0).length by omega, List.getD_eq_getElem?_getD, List.getElem?_append_right (Nat.le_refl _)]
          simp
    · rename_i hg
      obtain ⟨k, hk, h1, h2, h3⟩ := gidx_at _ ands 0 hg
      rw [h1]
      have hv := truthFrom_at ands v0 k hk (hf ▸ ho)
      refine ⟨ho, ⟨[], by simp⟩, ⟨by dsimp only; omega, by dsimp only; omega⟩, ?_⟩
      dsimp only
      rw [← gate_val, h2, h3, ← hv]
      have e1 : (2 * (first + (((0 : Nat) : Int) + (k : Int)))) / 2 = ((v0.length + k : Nat) : Int) := by omega
      show ((truthFrom ands v0).getD ((2 * (first + (((0 : Nat) : Int) + (k : Int)))) / 2).toNat false != ((2 * (first + (((0 : Nat) : Int) + (k : Int)))) % 2 == 1)) = _
      rw [e1, show (2 * (first + (((0 : Nat) : Int) + (k : Int)))) % 2 = 0 by omega, Int.toNat_natCast]
      cases (truthFrom ands v0).getD (v0.length + k) false <;> rfl
/-- What the literals have become have the values that the variables have. -/
def Own (v : List Bool) (own : List Int) (u : List Bool) : Prop := own.length = u.length ∧ ∀ k (hk : k < own.length), InR v.length own[k] ∧ litV v own[k] = u.getD k false
theorem told_val {v : List Bool} {own : List Int} {u : List Bool} (h : Own v own u) {l : Int} (h0 : 0 ≤ l) (h1 : l / 2 < own.length) : InR v.length (told own l) ∧ litV v (told own l) = litV u l := by
  obtain ⟨k, hk⟩ : ∃ k : Nat, l / 2 = (k : Int) := ⟨(l / 2).toNat, by omega⟩
  have hkv : k < own.length := by omega
  have h2 := h.2 k hkv
  unfold told
  rw [show (l / 2).toNat = k by omega, List.getD_eq_getElem?_getD, List.getElem?_eq_getElem hkv, Option.getD_some]
  have hu : litV u l = (u.getD k false != (l % 2 == 1)) := by unfold litV; rw [hk, Int.toNat_natCast]
  split
  · rename_i h3
    refine ⟨⟨?_, ?_⟩, ?_⟩
    · have := h2.1.1; unfold litNot; split <;> omega
    · have := h2.1.1; have := h2.1.2; unfold litNot; split <;> omega
    · rw [litV_not v h2.1.1, h2.2, hu, h3]
      cases u.getD k false <;> rfl
  · rename_i h3
    refine ⟨h2.1, ?_⟩
    rw [h2.2, hu, show l % 2 = 0 by omega]
    cases u.getD k false <;> rfl
theorem Own.grow {v t : List Bool} {own : List Int} {u : List Bool} (h : Own v own u) : Own (v ++ t) own u :=
  ⟨h.1, fun k hk => ⟨⟨(h.2 k hk).1.1, by have := (h.2 k hk).1.2; simp only [List.length_append]; omega⟩, (litV_app v t (h.2 k hk).1.1 (h.2 k hk).1.2).trans (h.2 k hk).2⟩⟩
theorem truthFrom_more (a t : List Gate) (v : List Bool) : ∃ s, truthFrom (a ++ t) v = truthFrom a v ++ s := by
  have h : ∀ (a : List Gate) (v : List Bool), truthFrom (a ++ t) v = truthFrom t (truthFrom a v) := by
    intro a
    induction a with
    | nil => intro v; rfl
    | cons g gs ih => intro v; simp only [List.cons_append, truthFrom]; exact ih _
  obtain ⟨s, h1, _⟩ := truthFrom_pre t (truthFrom a v)
  exact ⟨s, (h a v).trans h1⟩
/-- A predicate put behind gates: what its variables become have their values. -/
theorem putR_val {v0 : List Bool} {first : Int} (h0 : v0.getD 0 false = false) (hl : 0 < v0.length) (hf : first = v0.length) : ∀ (gs : List Gate) (own : List Int) (ands : List Gate) (u : List Bool), Okg first ands → Own (truthFrom ands v0) own u → Okg u.length gs → (putR first gs own ands false).2.2 = false →
    Okg first (putR first gs own ands false).2.1 ∧ (∃ t, (putR first gs own ands false).2.1 = ands ++ t) ∧ Own (truthFrom (putR first gs own ands false).2.1 v0) (putR first gs own ands false).1 (truthFrom gs u)
  | [], own, ands, u, ho, hw, _, _ => ⟨ho, ⟨[], by simp [putR]⟩, hw⟩
  | g :: gs, own, ands, u, ho, hw, hg, hn => by
    rw [putR] at hn ⊢
    have hg0 := hg 0 (by simp)
    simp only [List.getElem_cons_zero] at hg0
    have hlen := truthFrom_len ands v0
    have t0 := told_val hw (l := g.f0) (by omega) (by have := hw.1; omega)
    have t1 := told_val hw (l := g.f1) (by omega) (by have := hw.1; omega)
    have hnf : (andR ands first false (told own g.f0) (told own g.f1)).2.1 = false := by
      cases hc : (andR ands first false (told own g.f0) (told own g.f1)).2.1
      · rfl
      · rw [hc, putR_full] at hn; cases hn
    have hr : ∀ l, InR (truthFrom ands v0).length l → InR (first + ands.length) l := fun l h => ⟨h.1, by have := h.2; omega⟩
    have ha := andR_val h0 hl hf ho (hr _ t0.1) (hr _ t1.1) hnf
    rw [hnf] at hn ⊢
    obtain ⟨a1, ⟨t, a2⟩, a3, a4⟩ := ha
    obtain ⟨s, hs⟩ := truthFrom_more ands t v0
    have hlen2 := truthFrom_len (andR ands first false (told own g.f0) (told own g.f1)).1 v0
    have hw2 : Own (truthFrom (andR ands first false (told own g.f0) (told own g.f1)).1 v0) (own ++ [(andR ands first false (told own g.f0) (told own g.f1)).2.2]) (u ++ [litV u g.f0 && litV u g.f1]) := by
      have hw3 : Own (truthFrom (andR ands first false (told own g.f0) (told own g.f1)).1 v0) own u := by rw [a2, hs]; exact hw.grow
      refine ⟨by simp [hw.1], fun k hk => ?_⟩
      by_cases hk2 : k < own.length
      · simp only [List.getElem_append_left hk2]
        rw [List.getD_eq_getElem?_getD, List.getElem?_append_left (by have := hw.1; omega), ← List.getD_eq_getElem?_getD]
        exact hw3.2 k hk2
      · have hk3 : k = own.length := by simp only [List.length_append, List.length_singleton] at hk; omega
        subst hk3
        simp only [List.getElem_append_right (Nat.le_refl _), Nat.sub_self, List.getElem_cons_zero]
        refine ⟨⟨a3.1, by have := a3.2; omega⟩, ?_⟩
        rw [a4, t0.2, t1.2, List.getD_eq_getElem?_getD, List.getElem?_append_right (by rw [hw.1]; exact Nat.le_refl _), hw.1]
        simp
    have h2 := putR_val h0 hl hf gs _ _ (u ++ [litV u g.f0 && litV u g.f1]) a1 hw2 (fun k hk => by
      have h3 := hg (k + 1) (by simpa using hk)
      simp only [List.getElem_cons_succ] at h3
      refine ⟨h3.1, h3.2.1, ?_⟩
      have h4 := h3.2.2
      simp only [List.length_append, List.length_singleton]
      push_cast at h4 ⊢
      omega) hn
    obtain ⟨b1, ⟨t', b2⟩, b3⟩ := h2
    exact ⟨b1, ⟨t ++ t', by rw [b2, a2, List.append_assoc]⟩, b3⟩
/-! ### Predicates -/
theorem box_own {n : Int} {gs : List Gate} {st : List Bool} (hn : (st.length : Int) = n) : Own (truthFrom gs (false :: st)) (0 :: ownLits n.toNat) (false :: st) := by
  refine ⟨by simp only [List.length_cons, ownLits_len]; omega, fun k hk => ?_⟩
  have hlen := truthFrom_len gs (false :: st)
  simp only [List.length_cons] at hlen
  cases k with
  | zero =>
    simp only [List.getElem_cons_zero]
    refine ⟨⟨by decide, by omega⟩, ?_⟩
    rw [truthFrom_lit _ _ (by decide) (by simp only [List.length_cons]; omega)]
    rfl
  | succ k =>
    simp only [List.length_cons, ownLits_len] at hk
    simp only [List.getElem_cons_succ, ownLits_get]
    refine ⟨⟨by omega, by omega⟩, ?_⟩
    rw [truthFrom_lit _ _ (by omega) (by simp only [List.length_cons]; omega)]
    unfold litV
    rw [show (2 * ((k : Int) + 1)) / 2 = ((k + 1 : Nat) : Int) by omega, show (2 * ((k : Int) + 1)) % 2 = 0 by omega, Int.toNat_natCast]
    simp
theorem okg_of0 {n : Int} {gs : List Gate} (h : gAnds (1 + n) gs 0 = true) : Okg (n + 1) gs := by
  have h1 := okg_of h
  rw [show 1 + n + 0 = n + 1 by omega] at h1
  exact h1
theorem andB_val {n : Int} {p q : Pr} {st : List Bool} (h : twoErr n p q = 0) (hn : (st.length : Int) = n) (hf : (andB n p q).2.1 = false) :
    predCheck n ⟨(andB n p q).1, (andB n p q).2.2⟩ = 0 ∧ predValue ⟨(andB n p q).1, (andB n p q).2.2⟩ st = (predValue p st && predValue q st) := by
  have hc := two_ok h
  have hp := predCheck_parts hc.1
  have hq := predCheck_parts hc.2
  have hbf : (boxB n p q).2.1 = false := by
    cases hb : (boxB n p q).2.1
    · rfl
    · unfold andB at hf
      rw [hb, andR_full] at hf
      cases hf
  have hvl : ((false :: st).length : Int) = n + 1 := by simp only [List.length_cons]; omega
  obtain ⟨o1, ⟨t, e1⟩, w1⟩ := putR_val (v0 := false :: st) (first := n + 1) rfl (by simp) hvl.symm q.f0 (0 :: ownLits n.toNat) p.f0 (false :: st) (okg_of0 hp.2.2.1) (box_own hn) (hvl ▸ okg_of0 hq.2.2.1) hbf
  have t1 := told_val w1 (l := q.f1) hq.2.2.2.1 (by have := w1.1; have h2 := truthFrom_len q.f0 (false :: st); have h3 := hq.2.2.2.2; simp only [List.length_cons] at h2; omega)
  have hb1 : (putR (n + 1) q.f0 (0 :: ownLits n.toNat) p.f0 false).2.1 = (boxB n p q).1 := rfl
  have hb2 : told (putR (n + 1) q.f0 (0 :: ownLits n.toNat) p.f0 false).1 q.f1 = (boxB n p q).2.2 := rfl
  rw [hb1] at o1 e1 t1
  rw [hb2] at t1
  have hlen := truthFrom_len (boxB n p q).1 (false :: st)
  have hpl : (boxB n p q).1.length = p.f0.length + t.length := by rw [e1, List.length_append]
  have hand : andB n p q = andR (boxB n p q).1 (n + 1) false p.f1 (boxB n p q).2.2 := by unfold andB; rw [hbf]
  rw [hand] at hf ⊢
  have a := andR_val (v0 := false :: st) rfl (by simp) hvl.symm o1 (x := p.f1) (y := (boxB n p q).2.2) ⟨hp.2.2.2.1, by have := hp.2.2.2.2; omega⟩ ⟨t1.1.1, by have := t1.1.2; omega⟩ hf
  have hl := andB_lit h
  rw [hand] at hl
  generalize andR (boxB n p q).1 (n + 1) false p.f1 (boxB n p q).2.2 = r at *
  obtain ⟨a1, _, a3, a4⟩ := a
  constructor
  · unfold predCheck
    dsimp only
    rw [if_neg (by omega), if_neg (by omega), if_neg (by have := hl.2; omega), if_pos (okg_to (by rw [show 1 + n + 0 = n + 1 by omega]; exact a1)), if_neg (by have := a3.1; omega), if_neg (by have := a3.2; omega)]
  · show litV (truthFrom r.1 (false :: st)) r.2.2 = _
    rw [a4, t1.2, e1]
    obtain ⟨s, hs⟩ := truthFrom_more p.f0 t (false :: st)
    have hpv := truthFrom_len p.f0 (false :: st)
    rw [hs, litV_app _ _ hp.2.2.2.1 (by have := hp.2.2.2.2; omega)]
    rfl
theorem val_and {p q : Pr} {st : List Bool} (h : twoErr st.length p q = 0) (hs : st.length + p.f0.length + q.f0.length + 1 ≤ 1000) :
    ∃ a, andP st.length p q = (a, 0) ∧ predCheck st.length a = 0 ∧ predValue a st = (predValue p st && predValue q st) := by
  have hf : (andB st.length p q).2.1 = false := by
    rcases both_same h with ⟨h1, _⟩ | ⟨_, h2⟩
    · exact h1
    · have := (bothR_mid (two_ok h).1 (two_ok h).2).2
      omega
  have h1 := andB_val h rfl hf
  refine ⟨⟨(andB st.length p q).1, (andB st.length p q).2.2⟩, ?_, h1.1, h1.2⟩
  unfold andP predR
  rw [if_neg (by rw [h]; simp), if_neg (by rw [hf]; decide)]
theorem val_turn {p : Pr} {st : List Bool} (h : 0 ≤ p.f1) : predValue (turnP p) st = !predValue p st := litV_not _ h
theorem turn_turn (p : Pr) : turnP (turnP p) = p := by
  obtain ⟨a, l⟩ := p
  unfold turnP litNot
  dsimp only
  congr 1
  split <;> split <;> omega
theorem val_or {p q : Pr} {st : List Bool} (h : twoErr st.length p q = 0) (hs : st.length + p.f0.length + q.f0.length + 1 ≤ 1000) :
    ∃ a, orP st.length p q = (a, 0) ∧ predCheck st.length a = 0 ∧ predValue a st = (predValue p st || predValue q st) := by
  obtain ⟨a, h1, h2, h3⟩ := val_and (st := st) (two_turn h) hs
  have hp := predCheck_parts (two_ok h).1
  have hq := predCheck_parts (two_ok h).2
  refine ⟨turnP a, ?_, check_turn h2, ?_⟩
  · unfold orP
    rw [if_neg (by rw [h]; simp), h1, if_neg (by simp)]
  · rw [val_turn (predCheck_parts h2).2.2.2.1, h3, val_turn hp.2.2.2.1, val_turn hq.2.2.2.1]
    cases predValue p st <;> cases predValue q st <;> rfl
theorem not_val {n : Int} {p : Pr} (h : predCheck n p = 0) : notP n p = (turnP p, 0) := by
  unfold notP
  rw [if_neg (by rw [h]; simp)]
theorem value_val {p : Pr} {st : List Bool} (h : predCheck st.length p = 0) : valueOf p st = predValue p st := by
  unfold valueOf
  rw [if_pos h]
end Go.Proofs.Ytgcdanpihaeioaa.PH
