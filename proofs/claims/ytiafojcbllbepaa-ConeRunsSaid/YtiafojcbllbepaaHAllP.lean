/- The circuit of a cone, in plain Lean: it is right, all of it is in its own cone. -/
import Derived.Test.YtiafojcbllbepaaHPassP
namespace Go.Proofs.Ytiafojcbllbepaa.PH
open Go.RowKit Go.Proofs.YtiafojcbllbepaaW.PrintWords Go.Proofs.YtiafojcbllbepaaW.PrintLast
set_option linter.unusedVariables false
set_option linter.unusedSimpArgs false

/-- How many numbers below one are set. -/
def nb (is : List Bool) (v : Nat) : Nat := (is.take v).count true
theorem nb_succ (is : List Bool) (v : Nat) : nb is (v + 1) = nb is v + (if is.getD v false = true then 1 else 0) := by
  unfold nb
  by_cases hv : v < is.length
  · rw [List.take_succ_eq_append_getElem hv, List.count_append, List.getD_eq_getElem?_getD, List.getElem?_eq_getElem hv, Option.getD_some]
    cases is[v] <;> simp
  · rw [List.take_of_length_le (by omega), List.take_of_length_le (by omega), List.getD_eq_getElem?_getD, List.getElem?_eq_none (by omega)]
    simp
theorem nb_yes {is : List Bool} {v : Nat} (h : is.getD v false = true) : nb is (v + 1) = nb is v + 1 := by rw [nb_succ, if_pos h]
theorem nb_no {is : List Bool} {v : Nat} (h : is.getD v false = false) : nb is (v + 1) = nb is v := by rw [nb_succ, if_neg (by rw [h]; decide)]; omega
theorem nb_zero (is : List Bool) : nb is 0 = 0 := by simp [nb]
theorem nb_add (is : List Bool) (u : Nat) : ∀ k, nb is u ≤ nb is (u + k)
  | 0 => Nat.le_refl _
  | k + 1 => by have h := nb_add is u k; rw [show u + (k + 1) = (u + k) + 1 by omega, nb_succ]; omega
theorem nb_mono {is : List Bool} {u v : Nat} (h : u ≤ v) : nb is u ≤ nb is v := by
  have h1 := nb_add is u (v - u)
  rwa [show u + (v - u) = v by omega] at h1
theorem nb_lt {is : List Bool} {u v : Nat} (h : u < v) (hu : is.getD u false = true) : nb is u < nb is v := by
  have h1 := nb_yes hu
  have h2 := nb_mono (is := is) (show u + 1 ≤ v by omega)
  omega
theorem nb_all (is : List Bool) : nb is is.length = is.count true := by simp [nb]
/-- Each number of those set has its place. -/
theorem nb_onto {is : List Bool} : ∀ (v j : Nat), j < nb is v → ∃ u, u < v ∧ is.getD u false = true ∧ nb is u = j
  | 0, j, h => by rw [nb_zero] at h; omega
  | v + 1, j, h => by
    by_cases hb : is.getD v false = true
    · rw [nb_yes hb] at h
      by_cases hj : j < nb is v
      · obtain ⟨u, h1, h2⟩ := nb_onto v j hj; exact ⟨u, by omega, h2⟩
      · exact ⟨v, by omega, hb, by omega⟩
    · rw [nb_no (by simpa using hb)] at h
      obtain ⟨u, h1, h2⟩ := nb_onto v j h; exact ⟨u, by omega, h2⟩
section
variable {α : Type} {is : List Bool} {s : Nat} {g : Nat → Option α} {f : Nat → α}
theorem fm_len : ∀ k, (∀ i, i < k → g i = if is.getD (s + i) false = true then some (f i) else none) → ((List.range k).filterMap g).length + nb is s = nb is (s + k)
  | 0, _ => by simp
  | k + 1, h => by
    have ih := fm_len k (fun i hi => h i (by omega))
    rw [List.range_succ, List.filterMap_append, List.length_append, show s + (k + 1) = (s + k) + 1 by omega, List.filterMap_cons, h k (by omega)]
    by_cases hb : is.getD (s + k) false = true
    · rw [nb_yes hb, if_pos hb]; simp; omega
    · rw [nb_no (by simpa using hb), if_neg hb]; simp; omega
theorem fm_get : ∀ k, (∀ i, i < k → g i = if is.getD (s + i) false = true then some (f i) else none) → ∀ i, i < k → is.getD (s + i) false = true → ((List.range k).filterMap g)[nb is (s + i) - nb is s]? = some (f i)
  | 0, _, i, hi, _ => by omega
  | k + 1, h, i, hi, ht => by
    have hl := fm_len k (fun i hi => h i (by omega))
    have hm := nb_mono (is := is) (show s ≤ s + i by omega)
    rw [List.range_succ, List.filterMap_append]
    by_cases he : i < k
    · have hlt : nb is (s + i) < nb is (s + k) := nb_lt (by omega) ht
      rw [List.getElem?_append_left (by omega)]
      exact fm_get k (fun i hi => h i (by omega)) i he ht
    · have e : i = k := by omega
      subst e
      rw [List.getElem?_append_right (by omega), show nb is (s + i) - nb is s - ((List.range i).filterMap g).length = 0 by omega, List.filterMap_cons, h i (by omega), if_pos ht]
      simp
theorem fm_inv : ∀ k, (∀ i, i < k → g i = if is.getD (s + i) false = true then some (f i) else none) → ∀ j x, ((List.range k).filterMap g)[j]? = some x → ∃ i, i < k ∧ is.getD (s + i) false = true ∧ nb is (s + i) = nb is s + j ∧ x = f i
  | 0, _, j, x, hj => by simp at hj
  | k + 1, h, j, x, hj => by
    have hl := fm_len k (fun i hi => h i (by omega))
    rw [List.range_succ, List.filterMap_append] at hj
    by_cases he : j < ((List.range k).filterMap g).length
    · rw [List.getElem?_append_left he] at hj
      obtain ⟨i, h1, h2⟩ := fm_inv k (fun i hi => h i (by omega)) j x hj
      exact ⟨i, by omega, h2⟩
    · rw [List.getElem?_append_right (by omega), List.filterMap_cons, h k (by omega)] at hj
      by_cases hb : is.getD (s + k) false = true
      · rw [if_pos hb] at hj
        have hz : j - ((List.range k).filterMap g).length = 0 := by
          obtain ⟨h1, _⟩ := List.getElem?_eq_some_iff.1 hj
          simp at h1; omega
        rw [hz] at hj
        exact ⟨k, by omega, hb, by omega, by simpa using hj.symm⟩
      · rw [if_neg hb] at hj
        simp at hj
end
/-- A circuit's parts that make it right. -/
theorem gAnds_to : ∀ {s : Int} {gs : List Gate} {i : Int}, (∀ k (hk : k < gs.length), 0 ≤ gs[k].f1 ∧ gs[k].f1 ≤ gs[k].f0 ∧ gs[k].f0 < 2 * (s + (i + k))) → gAnds s gs i = true
  | s, [], i, _ => rfl
  | s, g :: gs, i, h => by
    have h0 := h 0 (by simp)
    simp only [List.getElem_cons_zero] at h0
    unfold gAnds
    rw [if_neg (by omega), if_neg (by omega), if_neg (by omega)]
    refine gAnds_to (fun k hk => ?_)
    have h1 := h (k + 1) (by simpa using hk)
    simp only [List.getElem_cons_succ] at h1
    refine ⟨h1.1, h1.2.1, ?_⟩
    have := h1.2.2
    push_cast at this
    omega
theorem gOut_no {s l : Int} (h0 : 0 ≤ l) (h1 : l / 2 < s) : gOut s l = false := by
  unfold gOut
  rw [decide_eq_false (by omega), decide_eq_false (by omega)]; rfl
theorem check_mk {c : Circ} (h0 : 0 ≤ c.f0) (h1 : c.f0 ≤ 1000) (h2 : c.f0 + c.f1.length + c.f2.length ≤ 1000) (h3 : c.f3.length ≤ 100) (h4 : c.f4.length ≤ 100)
    (l3 : ∀ l ∈ c.f3, 0 ≤ l ∧ l / 2 < 1 + c.f0 + c.f1.length + c.f2.length) (l4 : ∀ l ∈ c.f4, 0 ≤ l ∧ l / 2 < 1 + c.f0 + c.f1.length + c.f2.length)
    (l1 : ∀ x ∈ c.f1, (0 ≤ x.f0 ∧ x.f0 / 2 < 1 + c.f0 + c.f1.length + c.f2.length) ∧ 0 ≤ x.f1 ∧ x.f1 ≤ 2) (l2 : gAnds (1 + c.f0 + c.f1.length) c.f2 0 = true) : check c = 0 := by
  unfold check gCheck
  rw [if_neg (by omega), if_neg (by omega), if_neg (by omega), if_neg (by unfold mx; split <;> omega), if_neg, if_neg, if_neg, if_pos l2]
  · simp only [Bool.not_eq_true, List.any_eq_false]
    intro x hx
    obtain ⟨a1, a2, a3⟩ := l1 x hx
    unfold gWrong
    rw [gOut_no a1.1 a1.2, decide_eq_false (by omega), decide_eq_false (by omega)]; simp
  · simp only [Bool.not_eq_true, List.any_eq_false]
    intro l hl
    rw [gOut_no (l4 l hl).1 (l4 l hl).2] <;> simp
  · simp only [Bool.not_eq_true, List.any_eq_false]
    intro l hl
    rw [gOut_no (l3 l hl).1 (l3 l hl).2] <;> simp
theorem check_more {c : Circ} (h : check c = 0) : c.f3.length ≤ 100 ∧ c.f4.length ≤ 100 ∧ (∀ x ∈ c.f1, 0 ≤ x.f1 ∧ x.f1 ≤ 2) ∧ gAnds (1 + c.f0 + c.f1.length) c.f2 0 = true := by
  unfold check gCheck at h
  split at h
  · cases h
  split at h
  · cases h
  split at h
  · cases h
  split at h
  · cases h
  split at h
  · cases h
  split at h
  · cases h
  split at h
  · cases h
  rename_i h4 h5 h6 h7
  split at h
  · rename_i h8
    refine ⟨by unfold mx at h4; split at h4 <;> omega, by unfold mx at h4; split at h4 <;> omega, fun x hx => ?_, h8⟩
    have h9 := List.any_eq_false.1 (Bool.not_eq_true _ ▸ h7) x hx
    unfold gWrong at h9
    simp only [Bool.or_eq_true, not_or, decide_eq_true_eq, Bool.not_eq_true] at h9
    omega
  · cases h
/-- The circuit of the cone, by itself. -/
noncomputable def coneC (c : Circ) : Circ := passC c (coneB c) (toldF (coneB c) 0)
/-- The new number of a variable. -/
noncomputable def newV (c : Circ) (v : Nat) : Nat := nb (coneB c) (v + 1)
noncomputable def newL (c : Circ) (l : Int) : Int := plc (toldF (coneB c) 0) l
section
variable {c : Circ}
theorem cone_zero (hi : Inside c) : (coneB c).getD 0 false = false := by
  cases h : (coneB c).getD 0 false with
  | false => rfl
  | true => exact absurd (((cone_tells hi).2 0).1 h).pos (by omega)
theorem cone_is (hi : Inside c) {v : Nat} : (coneB c).getD v false = true ↔ Reach c v := (cone_tells hi).2 v
theorem nb_one (hi : Inside c) : nb (coneB c) 1 = 0 := by rw [show (1 : Nat) = 0 + 1 from rfl, nb_no (cone_zero hi), nb_zero]
theorem newV_zero (hi : Inside c) : newV c 0 = 0 := nb_one hi
theorem newV_in (hi : Inside c) {v : Nat} (h : Reach c v) : newV c v = nb (coneB c) v + 1 := nb_yes ((cone_is hi).2 h)
/-- A literal that is read somewhere in the cone. -/
def InC (c : Circ) (l : Int) : Prop := 0 ≤ l ∧ (varOf l = 0 ∨ Reach c (varOf l))
theorem newL_at (hi : Inside c) {l : Int} (h : InC c l) : newL c l = 2 * (newV c (varOf l) : Int) + l % 2 := by
  unfold newL plc
  rcases h.2 with h0 | h1
  · rw [toldF_no _ _ _ (by rw [h0]; exact cone_zero hi), h0, newV_zero hi]; simp
  · rw [toldF_yes _ _ _ ((cone_is hi).2 h1)]
    unfold newV nb
    omega
theorem newL_var (hi : Inside c) {l : Int} (h : InC c l) : varOf (newL c l) = newV c (varOf l) := by
  rw [newL_at hi h]
  unfold varOf
  omega
theorem newL_nat (hi : Inside c) {l : Int} (h : InC c l) : 0 ≤ newL c l := by rw [newL_at hi h]; have := h.1; omega
theorem newV_le (hi : Inside c) (v : Nat) (hv : v ≤ sizeC c) : newV c v ≤ nb (coneB c) (sizeC c + 1) := nb_mono (by omega)
theorem inC_root (hi : Inside c) {l : Int} (h : l ∈ c.f3 ++ c.f4) : InC c l := ⟨(hi.hp l h).1, by
  by_cases h0 : varOf l = 0
  · exact .inl h0
  · exact .inr (.root h (by omega))⟩
theorem inC_step (hi : Inside c) {v : Nat} {l : Int} (hv : Reach c v) (h : l ∈ gateReads c v ++ latReads c v) : InC c l := ⟨(hi.all h).1, by
  by_cases h0 : varOf l = 0
  · exact .inl h0
  · exact .inr (hv.step h (by omega))⟩
theorem inC_le (hi : Inside c) {l : Int} (h : InC c l) : varOf l ≤ sizeC c := by
  rcases h.2 with h0 | h1
  · omega
  · exact h1.le hi
theorem cnt_nb (hi : Inside c) : ∀ k, cntK (coneB c) k = nb (coneB c) (k + 1)
  | 0 => by rw [nb_one hi]; rfl
  | k + 1 => by rw [cntK_succ, nb_succ, cnt_nb hi k]
theorem lat_form (i : Nat) (hk : i < c.f1.length) : latI c (coneB c) (toldF (coneB c) 0) i = if (coneB c).getD (c.f0.toNat + 1 + i) false = true then some ⟨newL c (c.f1.getD i ⟨0, 0⟩).f0, (c.f1.getD i ⟨0, 0⟩).f1⟩ else none := by
  unfold latI newL
  rw [List.getD_eq_getElem?_getD (l := c.f1), List.getElem?_eq_getElem hk]
  rfl
theorem las_form (i : Nat) (hk : i < c.f1.length) : lasI c (coneB c) i = if (coneB c).getD (c.f0.toNat + 1 + i) false = true then some (2 * (c.f0 + 1 + (i : Int))) else none := rfl
theorem and_form (i : Nat) (hk : i < c.f2.length) : andI c (coneB c) (toldF (coneB c) 0) i = if (coneB c).getD (c.f0.toNat + c.f1.length + 1 + i) false = true then some ⟨newL c (c.f2.getD i ⟨0, 0⟩).f0, newL c (c.f2.getD i ⟨0, 0⟩).f1⟩ else none := by
  unfold andI newL
  rw [List.getD_eq_getElem?_getD (l := c.f2), List.getElem?_eq_getElem hk]
  rfl
theorem new_f0 (hi : Inside c) : (coneC c).f0 = (nb (coneB c) (c.f0.toNat + 1) : Int) := by
  show ((cntK (coneB c) c.f0.toNat : Nat) : Int) = _
  rw [cnt_nb hi]
theorem new_f1 (hi : Inside c) : (coneC c).f1.length + nb (coneB c) (c.f0.toNat + 1) = nb (coneB c) (c.f0.toNat + 1 + c.f1.length) := fm_len c.f1.length lat_form
theorem new_f2 (hi : Inside c) : (coneC c).f2.length + nb (coneB c) (c.f0.toNat + c.f1.length + 1) = nb (coneB c) (c.f0.toNat + c.f1.length + 1 + c.f2.length) := fm_len c.f2.length and_form
theorem new_size (hi : Inside c) : sizeC (coneC c) = nb (coneB c) (sizeC c + 1) := by
  have h0 := new_f0 hi
  have h1 := new_f1 hi
  have h2 := new_f2 hi
  unfold sizeC
  rw [show c.f0.toNat + 1 + c.f1.length = c.f0.toNat + c.f1.length + 1 by omega] at h1
  rw [show c.f0.toNat + c.f1.length + 1 + c.f2.length = c.f0.toNat + c.f1.length + c.f2.length + 1 by omega] at h2
  have h3 : (coneC c).f0.toNat = nb (coneB c) (c.f0.toNat + 1) := by rw [h0]; omega
  omega
theorem new_lat (hi : Inside c) {i : Nat} (hk : i < c.f1.length) (h : Reach c (c.f0.toNat + 1 + i)) : (coneC c).f1[nb (coneB c) (c.f0.toNat + 1 + i) - nb (coneB c) (c.f0.toNat + 1)]? = some ⟨newL c c.f1[i].f0, c.f1[i].f1⟩ := by
  have h1 := fm_get c.f1.length lat_form i hk ((cone_is hi).2 h)
  rw [show c.f1.getD i ⟨0, 0⟩ = c.f1[i] by rw [List.getD_eq_getElem?_getD, List.getElem?_eq_getElem hk]; rfl] at h1
  exact h1
theorem new_gate (hi : Inside c) {i : Nat} (hk : i < c.f2.length) (h : Reach c (c.f0.toNat + c.f1.length + 1 + i)) : (coneC c).f2[nb (coneB c) (c.f0.toNat + c.f1.length + 1 + i) - nb (coneB c) (c.f0.toNat + c.f1.length + 1)]? = some ⟨newL c c.f2[i].f0, newL c c.f2[i].f1⟩ := by
  have h1 := fm_get c.f2.length and_form i hk ((cone_is hi).2 h)
  rw [show c.f2.getD i ⟨0, 0⟩ = c.f2[i] by rw [List.getD_eq_getElem?_getD, List.getElem?_eq_getElem hk]; rfl] at h1
  exact h1
theorem lat_inv (hi : Inside c) {j : Nat} {x : Latch} (h : (coneC c).f1[j]? = some x) : ∃ i, ∃ hk : i < c.f1.length, Reach c (c.f0.toNat + 1 + i) ∧ nb (coneB c) (c.f0.toNat + 1 + i) = nb (coneB c) (c.f0.toNat + 1) + j ∧ x = ⟨newL c c.f1[i].f0, c.f1[i].f1⟩ := by
  obtain ⟨i, h1, h2, h3, h4⟩ := fm_inv c.f1.length lat_form j x h
  refine ⟨i, h1, (cone_is hi).1 h2, h3, ?_⟩
  rw [show c.f1.getD i ⟨0, 0⟩ = c.f1[i] by rw [List.getD_eq_getElem?_getD, List.getElem?_eq_getElem h1]; rfl] at h4
  exact h4
theorem gate_inv (hi : Inside c) {j : Nat} {x : Gate} (h : (coneC c).f2[j]? = some x) : ∃ i, ∃ hk : i < c.f2.length, Reach c (c.f0.toNat + c.f1.length + 1 + i) ∧ nb (coneB c) (c.f0.toNat + c.f1.length + 1 + i) = nb (coneB c) (c.f0.toNat + c.f1.length + 1) + j ∧ x = ⟨newL c c.f2[i].f0, newL c c.f2[i].f1⟩ := by
  obtain ⟨i, h1, h2, h3, h4⟩ := fm_inv c.f2.length and_form j x h
  refine ⟨i, h1, (cone_is hi).1 h2, h3, ?_⟩
  rw [show c.f2.getD i ⟨0, 0⟩ = c.f2[i] by rw [List.getD_eq_getElem?_getD, List.getElem?_eq_getElem h1]; rfl] at h4
  exact h4
theorem lat_reads {i : Nat} (hk : i < c.f1.length) : latReads c (c.f0.toNat + 1 + i) = [c.f1[i].f0] := by
  unfold latReads
  rw [if_pos (by omega), show c.f0.toNat + 1 + i - (c.f0.toNat + 1) = i by omega, List.getElem?_eq_getElem hk]; rfl
theorem gate_reads {i : Nat} (hk : i < c.f2.length) : gateReads c (c.f0.toNat + c.f1.length + 1 + i) = [c.f2[i].f0, c.f2[i].f1] := by
  unfold gateReads
  rw [if_pos (by omega), show c.f0.toNat + c.f1.length + 1 + i - (c.f0.toNat + c.f1.length + 1) = i by omega, List.getElem?_eq_getElem hk]; rfl
theorem new_reads (hi : Inside c) {u : Nat} (hu : Reach c u) {l : Int} (hl : l ∈ gateReads c u ++ latReads c u) : newL c l ∈ gateReads (coneC c) (newV c u) ++ latReads (coneC c) (newV c u) := by
  have h0 := new_f0 hi
  have h1 := new_f1 hi
  have h3 : (coneC c).f0.toNat = nb (coneB c) (c.f0.toNat + 1) := by rw [h0]; omega
  rw [show c.f0.toNat + 1 + c.f1.length = c.f0.toNat + c.f1.length + 1 by omega] at h1
  have hn := newV_in hi hu
  rcases List.mem_append.1 hl with hm1 | hm1
  · apply List.mem_append_left
    unfold gateReads at hm1
    split at hm1
    · rename_i hle
      cases hg : c.f2[u - (c.f0.toNat + c.f1.length + 1)]? with
      | none => rw [hg] at hm1; simp at hm1
      | some g =>
        rw [hg] at hm1
        obtain ⟨hk, e⟩ := List.getElem?_eq_some_iff.1 hg
        obtain ⟨i, rfl⟩ : ∃ i, u = c.f0.toNat + c.f1.length + 1 + i := ⟨u - (c.f0.toNat + c.f1.length + 1), by omega⟩
        rw [show c.f0.toNat + c.f1.length + 1 + i - (c.f0.toNat + c.f1.length + 1) = i by omega] at hk
        have e' : c.f2[i] = g := by rw [← e]; congr 1; omega
        have hm := nb_mono (is := coneB c) (show c.f0.toNat + c.f1.length + 1 ≤ c.f0.toNat + c.f1.length + 1 + i by omega)
        have hg2 := new_gate hi hk hu
        unfold gateReads
        rw [if_pos (by omega), hn, show nb (coneB c) (c.f0.toNat + c.f1.length + 1 + i) + 1 - ((coneC c).f0.toNat + (coneC c).f1.length + 1) = nb (coneB c) (c.f0.toNat + c.f1.length + 1 + i) - nb (coneB c) (c.f0.toNat + c.f1.length + 1) by omega, hg2, e']
        have hl2 : l = g.f0 ∨ l = g.f1 := by simpa using hm1
        rcases hl2 with rfl | rfl <;> simp
    · simp at hm1
  · apply List.mem_append_right
    unfold latReads at hm1
    split at hm1
    · rename_i hle
      cases hg : c.f1[u - (c.f0.toNat + 1)]? with
      | none => rw [hg] at hm1; simp at hm1
      | some g =>
        rw [hg] at hm1
        obtain ⟨hk, e⟩ := List.getElem?_eq_some_iff.1 hg
        obtain ⟨i, rfl⟩ : ∃ i, u = c.f0.toNat + 1 + i := ⟨u - (c.f0.toNat + 1), by omega⟩
        rw [show c.f0.toNat + 1 + i - (c.f0.toNat + 1) = i by omega] at hk
        have e' : c.f1[i] = g := by rw [← e]; congr 1; omega
        have hm := nb_mono (is := coneB c) (show c.f0.toNat + 1 ≤ c.f0.toNat + 1 + i by omega)
        have hg2 := new_lat hi hk hu
        unfold latReads
        rw [if_pos (by omega), hn, show nb (coneB c) (c.f0.toNat + 1 + i) + 1 - ((coneC c).f0.toNat + 1) = nb (coneB c) (c.f0.toNat + 1 + i) - nb (coneB c) (c.f0.toNat + 1) by omega, hg2, e']
        have hl2 : l = g.f0 := by simpa using hm1
        rw [hl2]; simp
    · simp at hm1
theorem new_root {l : Int} (h : l ∈ c.f3 ++ c.f4) : newL c l ∈ (coneC c).f3 ++ (coneC c).f4 := by
  show _ ∈ c.f3.map _ ++ c.f4.map _
  rw [← List.map_append]
  exact List.mem_map_of_mem h
theorem reach_new (hi : Inside c) {v : Nat} (h : Reach c v) : Reach (coneC c) (newV c v) := by
  induction h with
  | @root l hl hp =>
    have hin := inC_root hi hl
    rw [← newL_var hi hin]
    refine .root (new_root hl) ?_
    rw [newL_var hi hin, newV_in hi (.root hl hp)]; omega
  | @step v l hv hl hp ih =>
    have hin := inC_step hi hv hl
    rw [← newL_var hi hin]
    refine ih.step (new_reads hi hv hl) ?_
    rw [newL_var hi hin, newV_in hi (hv.step hl hp)]; omega
/-- The circuit of the cone is right. -/
theorem new_check (hc : check c = 0) : check (coneC c) = 0 := by
  have hi := inside_of hc
  have hg := gCheck_ok hc
  have hm := check_more hc
  have h0 := new_f0 hi
  have h1 := new_f1 hi
  have h2 := new_f2 hi
  have hs := new_size hi
  have hlen : (coneB c).length = sizeC c + 1 := (cone_tells hi).1
  have hK : nb (coneB c) (sizeC c + 1) ≤ sizeC c := by
    have ha : ∀ k, nb (coneB c) (k + 1) ≤ k := fun k => by
      induction k with
      | zero => rw [nb_one hi]; omega
      | succ k ih => rw [nb_succ]; split <;> omega
    exact ha _
  have hsz : (sizeC c : Int) ≤ 1000 := by unfold sizeC; omega
  have h3 : (coneC c).f0.toNat = nb (coneB c) (c.f0.toNat + 1) := by rw [h0]; omega
  have hsum : (coneC c).f0 + (coneC c).f1.length + (coneC c).f2.length = (nb (coneB c) (sizeC c + 1) : Int) := by
    rw [← hs]; unfold sizeC; omega
  have hlit : ∀ l, InC c l → 0 ≤ newL c l ∧ newL c l / 2 < 1 + (coneC c).f0 + (coneC c).f1.length + (coneC c).f2.length := fun l hl => by
    refine ⟨newL_nat hi hl, ?_⟩
    have h5 := newL_at hi hl
    have h6 := newV_le hi (varOf l) (inC_le hi hl)
    have h7 := hl.1
    omega
  refine check_mk (by omega) (by omega) (by omega) ?_ ?_ (fun l hl => ?_) (fun l hl => ?_) (fun x hx => ?_) (gAnds_to (fun k hk => ?_))
  · show (c.f3.map _).length ≤ 100
    rw [List.length_map]; exact hm.1
  · show (c.f4.map _).length ≤ 100
    rw [List.length_map]; exact hm.2.1
  · obtain ⟨y, hy, rfl⟩ := List.mem_map.1 (show l ∈ c.f3.map (newL c) from hl)
    exact hlit y (inC_root hi (List.mem_append_left _ hy))
  · obtain ⟨y, hy, rfl⟩ := List.mem_map.1 (show l ∈ c.f4.map (newL c) from hl)
    exact hlit y (inC_root hi (List.mem_append_right _ hy))
  · obtain ⟨j, hj⟩ := List.getElem?_of_mem hx
    obtain ⟨i, hk, hr, _, rfl⟩ := lat_inv hi hj
    refine ⟨hlit _ (inC_step hi hr (List.mem_append_right _ (by rw [lat_reads hk]; exact List.mem_singleton_self _))), hm.2.2.1 c.f1[i] (List.getElem_mem hk)⟩
  · obtain ⟨i, hki, hr, hn, e⟩ := gate_inv hi (List.getElem?_eq_getElem hk)
    have hgr := gate_reads hki
    have hi0 := inC_step hi hr (l := c.f2[i].f0) (List.mem_append_left _ (by rw [hgr]; simp))
    have hi1 := inC_step hi hr (l := c.f2[i].f1) (List.mem_append_left _ (by rw [hgr]; simp))
    have ho := gAnds_in c.f2 0 i hki hm.2.2.2
    have hv0 : varOf c.f2[i].f0 < c.f0.toNat + c.f1.length + 1 + i := (hi.hg _ c.f2[i].f0 (by rw [hgr]; simp)).2.1
    rw [e]
    dsimp only
    have e0 := newL_at hi hi0
    have e1 := newL_at hi hi1
    refine ⟨newL_nat hi hi1, ?_, ?_⟩
    · rw [e0, e1]
      by_cases hv : varOf c.f2[i].f1 = varOf c.f2[i].f0
      · rw [hv]
        have := ho.1; have := ho.2.1
        unfold varOf at hv
        omega
      · have hlt : varOf c.f2[i].f1 < varOf c.f2[i].f0 := by
          have := ho.1; have := ho.2.1
          unfold varOf at hv ⊢
          omega
        have hr0 : Reach c (varOf c.f2[i].f0) := by rcases hi0.2 with h_ | h_; omega; exact h_
        have h7 := newV_in hi hr0
        have h8 := nb_mono (is := coneB c) (show varOf c.f2[i].f1 + 1 ≤ varOf c.f2[i].f0 by omega)
        have h9 : newV c (varOf c.f2[i].f1) = nb (coneB c) (varOf c.f2[i].f1 + 1) := rfl
        omega
    · rw [e0]
      have h8 := nb_mono (is := coneB c) (show varOf c.f2[i].f0 + 1 ≤ c.f0.toNat + c.f1.length + 1 + i by omega)
      have h9 : newV c (varOf c.f2[i].f0) = nb (coneB c) (varOf c.f2[i].f0 + 1) := rfl
      rw [show c.f0.toNat + 1 + c.f1.length = c.f0.toNat + c.f1.length + 1 by omega] at h1
      omega
/-- All of it is in its cone. -/
theorem new_cone (hc : check c = 0) : coneB (coneC c) = false :: List.replicate (sizeC (coneC c)) true := by
  have hi := inside_of hc
  have hj := inside_of (new_check hc)
  refine Tells.unique (cone_tells hj) ⟨by simp, fun v => ⟨fun h => ?_, fun h => ?_⟩⟩
  · cases v with
    | zero => simp at h
    | succ v =>
      rw [List.getD_cons_succ, List.getD_eq_getElem?_getD, List.getElem?_replicate] at h
      split at h
      · rename_i hv
        rw [new_size hi] at hv
        obtain ⟨u, h1, h2, h3⟩ := nb_onto (sizeC c + 1) v hv
        have hr := (cone_is hi).1 h2
        have h4 := reach_new hi hr
        rw [newV_in hi hr, h3] at h4
        exact h4
      · simp at h
  · have h1 := h.pos
    have h2 := h.le hj
    cases v with
    | zero => omega
    | succ v =>
      rw [List.getD_cons_succ, List.getD_eq_getElem?_getD, List.getElem?_replicate, if_pos (by omega)]
      rfl
end
end Go.Proofs.Ytiafojcbllbepaa.PH
