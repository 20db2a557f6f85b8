/- Runs of a cone's circuit, in plain Lean: what a lifted run does in the circuit. -/
import Derived.Test.YtiafojcbllbepaaHAllQ
import Derived.Test.YtiafojcbllbepaaHPackV
namespace Go.Proofs.Ytiafojcbllbepaa.PH
open Go.RowKit Go.Proofs.YtiafojcbllbepaaW.PrintWords Go.Proofs.YtiafojcbllbepaaW.PrintLast
set_option linter.unusedVariables false
set_option linter.unusedSimpArgs false

theorem litV_at (v : List Bool) (l : Int) : litV v l = (v.getD (varOf l) false != (l % 2 == 1)) := rfl
/-- The value of a gate. -/
theorem truth_gate : ∀ (gs : List Gate) (v : List Bool) (i : Nat) (hi : i < gs.length), (∀ k (hk : k < gs.length), 0 ≤ gs[k].f0 ∧ 0 ≤ gs[k].f1 ∧ varOf gs[k].f0 < v.length + k ∧ varOf gs[k].f1 < v.length + k) →
    (truthFrom gs v).getD (v.length + i) false = (litV (truthFrom gs v) gs[i].f0 && litV (truthFrom gs v) gs[i].f1)
  | g :: gs, v, 0, hi, h => by
    have h0 := h 0 (by simp)
    simp only [List.getElem_cons_zero, Nat.add_zero] at h0 ⊢
    unfold varOf at h0
    have e : truthFrom (g :: gs) v = truthFrom gs (v ++ [litV v g.f0 && litV v g.f1]) := rfl
    rw [e]
    obtain ⟨t, ht, _⟩ := truthFrom_pre gs (v ++ [litV v g.f0 && litV v g.f1])
    rw [truthFrom_lit gs _ h0.1 (by simp; omega), truthFrom_lit gs _ h0.2.1 (by simp; omega), litV_app v _ h0.1 (by omega), litV_app v _ h0.2.1 (by omega), ht]
    simp [List.getD_eq_getElem?_getD]
  | g :: gs, v, i + 1, hi, h => by
    have e : truthFrom (g :: gs) v = truthFrom gs (v ++ [litV v g.f0 && litV v g.f1]) := rfl
    rw [e]
    have h1 := truth_gate gs (v ++ [litV v g.f0 && litV v g.f1]) i (by simpa using hi) (fun k hk => by
      have h2 := h (k + 1) (by simpa using hk)
      simp only [List.getElem_cons_succ] at h2
      simp only [List.length_append, List.length_singleton]
      exact ⟨h2.1, h2.2.1, by omega, by omega⟩)
    simp only [List.length_append, List.length_singleton, List.getElem_cons_succ] at h1 ⊢
    rw [show v.length + (i + 1) = v.length + 1 + i by omega]
    exact h1
theorem truth_low (gs : List Gate) (v : List Bool) {k : Nat} (hk : k < v.length) : (truthFrom gs v).getD k false = v.getD k false := by
  obtain ⟨t, ht, _⟩ := truthFrom_pre gs v
  rw [ht, List.getD_eq_getElem?_getD, List.getElem?_append_left hk, ← List.getD_eq_getElem?_getD]
section
variable {c : Circ} {st ins : List Bool}
theorem vals_zero : (valsOf c st ins).getD 0 false = false := truth_low _ _ (by simp)
theorem vals_in {i : Nat} (h1 : (ins.length : Int) = c.f0) (hi : i < c.f0.toNat) : (valsOf c st ins).getD (1 + i) false = ins.getD i false := by
  unfold valsOf
  rw [truth_low _ _ (by simp; omega), show 1 + i = i + 1 by omega, List.getD_cons_succ, List.getD_eq_getElem?_getD, List.getElem?_append_left (by omega), ← List.getD_eq_getElem?_getD]
theorem vals_lat {i : Nat} (h1 : (ins.length : Int) = c.f0) (h2 : st.length = c.f1.length) (hi : i < c.f1.length) : (valsOf c st ins).getD (c.f0.toNat + 1 + i) false = st.getD i false := by
  unfold valsOf
  rw [truth_low _ _ (by simp; omega), show c.f0.toNat + 1 + i = (c.f0.toNat + i) + 1 by omega, List.getD_cons_succ, List.getD_eq_getElem?_getD, List.getElem?_append_right (by omega), show c.f0.toNat + i - ins.length = i by omega, ← List.getD_eq_getElem?_getD]
theorem vals_gate (hi : Inside c) {i : Nat} (h1 : (ins.length : Int) = c.f0) (h2 : st.length = c.f1.length) (hk : i < c.f2.length) :
    (valsOf c st ins).getD (c.f0.toNat + c.f1.length + 1 + i) false = (litV (valsOf c st ins) c.f2[i].f0 && litV (valsOf c st ins) c.f2[i].f1) := by
  have hl : (false :: (ins ++ st)).length = c.f0.toNat + c.f1.length + 1 := by simp; omega
  have h3 := truth_gate c.f2 (false :: (ins ++ st)) i hk (fun k hk2 => by
    have g0 := hi.hg (c.f0.toNat + c.f1.length + 1 + k) c.f2[k].f0 (by rw [gate_reads hk2]; simp)
    have g1 := hi.hg (c.f0.toNat + c.f1.length + 1 + k) c.f2[k].f1 (by rw [gate_reads hk2]; simp)
    rw [hl]
    exact ⟨g0.1, g1.1, g0.2.1, g1.2.1⟩)
  rw [hl] at h3
  exact h3
end
/-- A state of the circuit tells what one of the cone's circuit tells; inputs likewise. -/
structure RelS (c : Circ) (st st2 : List Bool) : Prop where
  l1 : st.length = c.f1.length
  l2 : st2.length = (coneC c).f1.length
  h : ∀ i, i < c.f1.length → Reach c (c.f0.toNat + 1 + i) → st.getD i false = st2.getD (nb (coneB c) (c.f0.toNat + 1 + i) - nb (coneB c) (c.f0.toNat + 1)) false
structure RelI (c : Circ) (ins ins2 : List Bool) : Prop where
  l1 : (ins.length : Int) = c.f0
  l2 : (ins2.length : Int) = (coneC c).f0
  h : ∀ i, i < c.f0.toNat → Reach c (1 + i) → ins.getD i false = ins2.getD (nb (coneB c) (1 + i)) false
section
variable {c : Circ} {st st2 ins ins2 : List Bool}
theorem vals_rel (hc : check c = 0) (hs : RelS c st st2) (hn : RelI c ins ins2) : ∀ v, v = 0 ∨ Reach c v → (valsOf c st ins).getD v false = (valsOf (coneC c) st2 ins2).getD (newV c v) false := by
  have hi := inside_of hc
  have hj := inside_of (new_check hc)
  have h0 := new_f0 hi
  have h1 := new_f1 hi
  have hf := hi.h0
  have h3 : (coneC c).f0.toNat = nb (coneB c) (c.f0.toNat + 1) := by rw [h0]; omega
  intro v
  induction v using Nat.strongRecOn with
  | ind v ih =>
    intro hv
    rcases hv with rfl | hr
    · rw [newV_zero hi, vals_zero, vals_zero]
    have hp := hr.pos
    have hle := hr.le hi
    have hnv := newV_in hi hr
    unfold sizeC at hle
    by_cases g1 : v ≤ c.f0.toNat
    · obtain ⟨i, rfl⟩ : ∃ i, v = 1 + i := ⟨v - 1, by omega⟩
      have hm := nb_lt (is := coneB c) (show 1 + i < c.f0.toNat + 1 by omega) ((cone_is hi).2 hr)
      rw [vals_in hn.l1 (by omega), hn.h i (by omega) hr, hnv, Nat.add_comm (nb _ _) 1, vals_in hn.l2 (by omega)]
    · by_cases g2 : v ≤ c.f0.toNat + c.f1.length
      · obtain ⟨i, rfl⟩ : ∃ i, v = c.f0.toNat + 1 + i := ⟨v - (c.f0.toNat + 1), by omega⟩
        have hm := nb_mono (is := coneB c) (show c.f0.toNat + 1 ≤ c.f0.toNat + 1 + i by omega)
        have hm2 := nb_lt (is := coneB c) (show c.f0.toNat + 1 + i < c.f0.toNat + 1 + c.f1.length by omega) ((cone_is hi).2 hr)
        rw [vals_lat hn.l1 hs.l1 (by omega), hs.h i (by omega) hr, hnv, show nb (coneB c) (c.f0.toNat + 1 + i) + 1 = (coneC c).f0.toNat + 1 + (nb (coneB c) (c.f0.toNat + 1 + i) - nb (coneB c) (c.f0.toNat + 1)) by omega, vals_lat hn.l2 hs.l2 (by omega)]
      · obtain ⟨i, rfl⟩ : ∃ i, v = c.f0.toNat + c.f1.length + 1 + i := ⟨v - (c.f0.toNat + c.f1.length + 1), by omega⟩
        have hk : i < c.f2.length := by omega
        have hm := nb_mono (is := coneB c) (show c.f0.toNat + c.f1.length + 1 ≤ c.f0.toNat + c.f1.length + 1 + i by omega)
        have hg := new_gate hi hk hr
        obtain ⟨hk2, e⟩ := List.getElem?_eq_some_iff.1 hg
        rw [show c.f0.toNat + 1 + c.f1.length = c.f0.toNat + c.f1.length + 1 by omega] at h1
        rw [vals_gate hi hn.l1 hs.l1 hk, hnv, show nb (coneB c) (c.f0.toNat + c.f1.length + 1 + i) + 1 = (coneC c).f0.toNat + (coneC c).f1.length + 1 + (nb (coneB c) (c.f0.toNat + c.f1.length + 1 + i) - nb (coneB c) (c.f0.toNat + c.f1.length + 1)) by omega, vals_gate hj hn.l2 hs.l2 hk2, e]
        dsimp only
        have key : ∀ l, l ∈ gateReads c (c.f0.toNat + c.f1.length + 1 + i) → litV (valsOf c st ins) l = litV (valsOf (coneC c) st2 ins2) (newL c l) := fun l hl => by
          have hin := inC_step hi hr (l := l) (List.mem_append_left _ hl)
          have hlt := (hi.hg _ l hl).2.1
          rw [litV_at, litV_at, newL_var hi hin, ih (varOf l) hlt hin.2]
          have e2 : newL c l % 2 = l % 2 := by rw [newL_at hi hin]; omega
          rw [e2]
        rw [key c.f2[i].f0 (by rw [gate_reads hk]; simp), key c.f2[i].f1 (by rw [gate_reads hk]; simp)]
theorem lit_rel (hc : check c = 0) (hs : RelS c st st2) (hn : RelI c ins ins2) {l : Int} (hl : InC c l) : litV (valsOf c st ins) l = litV (valsOf (coneC c) st2 ins2) (newL c l) := by
  have hi := inside_of hc
  rw [litV_at, litV_at, newL_var hi hl, vals_rel hc hs hn (varOf l) hl.2]
  have e2 : newL c l % 2 = l % 2 := by rw [newL_at hi hl]; omega
  rw [e2]
theorem bads_rel (hc : check c = 0) (hs : RelS c st st2) (hn : RelI c ins ins2) : badsOf c st ins = badsOf (coneC c) st2 ins2 := by
  unfold badsOf
  show _ = (c.f3.map (newL c)).map _
  rw [List.map_map]
  exact List.map_congr_left (fun l hl => lit_rel hc hs hn (inC_root (inside_of hc) (List.mem_append_left _ hl)))
theorem holds_rel (hc : check c = 0) (hs : RelS c st st2) (hn : RelI c ins ins2) : holdsOf c st ins = holdsOf (coneC c) st2 ins2 := by
  unfold holdsOf
  show _ = (c.f4.map (newL c)).all _
  rw [List.all_map]
  rw [Bool.eq_iff_iff, List.all_eq_true, List.all_eq_true]
  constructor
  · intro h l hl
    show litV _ (newL c l) = true
    rw [← lit_rel hc hs hn (inC_root (inside_of hc) (List.mem_append_right _ hl))]
    exact h l hl
  · intro h l hl
    rw [lit_rel hc hs hn (inC_root (inside_of hc) (List.mem_append_right _ hl))]
    exact h l hl
theorem next_rel (hc : check c = 0) (hs : RelS c st st2) (hn : RelI c ins ins2) : RelS c (nextOf c st ins) (nextOf (coneC c) st2 ins2) := by
  have hi := inside_of hc
  refine ⟨nextOf_len _ _ _, nextOf_len _ _ _, fun i hk hr => ?_⟩
  have hg := new_lat hi hk hr
  obtain ⟨hk2, e⟩ := List.getElem?_eq_some_iff.1 hg
  have h1 : (nextOf c st ins).getD i false = litV (valsOf c st ins) c.f1[i].f0 := by
    unfold nextOf
    rw [List.getD_eq_getElem?_getD, List.getElem?_map, List.getElem?_eq_getElem hk]; rfl
  have h2 : (nextOf (coneC c) st2 ins2).getD (nb (coneB c) (c.f0.toNat + 1 + i) - nb (coneB c) (c.f0.toNat + 1)) false = litV (valsOf (coneC c) st2 ins2) (newL c c.f1[i].f0) := by
    unfold nextOf
    rw [List.getD_eq_getElem?_getD, List.getElem?_map, hg]; rfl
  rw [h1, h2]
  exact lit_rel hc hs hn (inC_step hi hr (List.mem_append_right _ (by rw [lat_reads hk]; simp)))
end
/-- The lift of the cone. -/
noncomputable def coneL (c : Circ) : Lf := passL c (coneB c) (toldF (coneB c) 0)
section
variable {c : Circ}
theorem told_at (hi : Inside c) {v : Nat} (h : Reach c v) : (toldF (coneB c) 0).getD v 0 = 2 * ((nb (coneB c) v : Int) + 1) := by
  rw [toldF_yes _ _ _ ((cone_is hi).2 h)]
  have h1 := newV_in hi h
  unfold newV at h1
  unfold nb at h1 ⊢
  omega
theorem told_no (hi : Inside c) {v : Nat} (h : ¬ Reach c v) : (toldF (coneB c) 0).getD v 0 = 0 := toldF_no _ _ _ (by
  cases hb : (coneB c).getD v false with
  | false => rfl
  | true => exact absurd ((cone_is hi).1 hb) h)
theorem is_no (hi : Inside c) {v : Nat} (h : ¬ Reach c v) : (coneB c).getD v false = false := by
  cases hb : (coneB c).getD v false with
  | false => rfl
  | true => exact absurd ((cone_is hi).1 hb) h
theorem cone_lift_ok (hc : check c = 0) : LOk c (coneC c) (coneL c) := by
  have hi := inside_of hc
  have h0 := new_f0 hi
  have h1 := new_f1 hi
  have hg := gCheck_ok hc
  have hm := check_more hc
  refine ⟨Int.le_refl 0, show (0 : Int) ≤ 100 by decide, Int.le_refl 1, show (1 : Int) ≤ 4 by decide, firK_len, ?_, ?_, fun x hx => ?_, fun r hr => ?_, fun x hx => ?_, ?_⟩
  · have h2 := fm_len (is := coneB c) (s := c.f0.toNat + 1) c.f1.length (las_form (c := c))
    show ((List.range c.f1.length).filterMap (lasI c (coneB c))).length = _
    omega
  · show ((1 : Nat) : Int) = 0 + 1; rfl
  · obtain ⟨i, hk, rfl⟩ := List.mem_map.1 (show x ∈ (List.range c.f1.length).map (firI c (coneB c) (toldF (coneB c) 0)) from hx)
    rw [List.mem_range] at hk
    unfold firI
    by_cases hr : Reach c (c.f0.toNat + 1 + i)
    · rw [if_pos ((cone_is hi).2 hr), told_at hi hr]
      have m1 := nb_mono (is := coneB c) (show c.f0.toNat + 1 ≤ c.f0.toNat + 1 + i by omega)
      have m2 := nb_lt (is := coneB c) (show c.f0.toNat + 1 + i < c.f0.toNat + 1 + c.f1.length by omega) ((cone_is hi).2 hr)
      exact .inr (.inr ⟨by omega, by omega⟩)
    · rw [if_neg (by rw [is_no hi hr]; decide), List.getElem?_eq_getElem hk]
      have h2 := hm.2.2.1 _ (List.getElem_mem hk)
      show c.f1[i].f1 % 2 = 0 ∨ c.f1[i].f1 % 2 = 1 ∨ _
      omega
  · have e : r = insK (toldF (coneB c) 0) c.f0.toNat := by simpa [coneL, passL] using hr
    subst e
    refine ⟨by rw [insK_len]; omega, fun x hx => ?_⟩
    obtain ⟨i, hk, rfl⟩ := List.mem_map.1 (show x ∈ (List.range c.f0.toNat).map _ from hx)
    rw [List.mem_range] at hk
    by_cases hr : Reach c (i + 1)
    · rw [told_at hi hr]
      have m2 := nb_lt (is := coneB c) (show i + 1 < c.f0.toNat + 1 by omega) ((cone_is hi).2 hr)
      exact ⟨by omega, by omega, by omega⟩
    · rw [told_no hi hr]
      exact ⟨by omega, by omega, by omega⟩
  · obtain ⟨i, hk, hx2⟩ := List.mem_filterMap.1 (show x ∈ (List.range c.f1.length).filterMap (lasI c (coneB c)) from hx)
    rw [List.mem_range] at hk
    unfold lasI at hx2
    split at hx2
    · obtain rfl := Option.some.inj hx2
      exact .inr ⟨by omega, by omega⟩
    · cases hx2
  · show predCheck _ (⟨[], 1⟩ : Pr) = 0
    unfold predCheck
    rw [if_neg (by omega), if_neg (by omega), if_neg (by simp; omega), if_pos (by rfl), if_neg (by decide), if_neg (by simp <;> omega)]
theorem rel_start (hc : check c = 0) {t0 : List Bool} (ht : t0.length = (coneC c).f1.length) : RelS c ((coneL c).f2.map (liftV (coneC c) t0)) t0 := by
  have hi := inside_of hc
  have h0 := new_f0 hi
  refine ⟨by rw [List.length_map]; exact firK_len, ht, fun i hk hr => ?_⟩
  have h2 : ((coneL c).f2)[i]? = some (firI c (coneB c) (toldF (coneB c) 0) i) := by
    show ((List.range c.f1.length).map _)[i]? = _
    rw [List.getElem?_map, List.getElem?_range hk]; rfl
  rw [List.getD_eq_getElem?_getD, List.getElem?_map, h2]
  show liftV (coneC c) t0 _ = _
  unfold firI
  rw [if_pos ((cone_is hi).2 hr), told_at hi hr]
  have m1 := nb_mono (is := coneB c) (show c.f0.toNat + 1 ≤ c.f0.toNat + 1 + i by omega)
  unfold liftV bit
  rw [decide_eq_false (by omega), decide_eq_true (show (1 : Int) < 2 * ((nb (coneB c) (c.f0.toNat + 1 + i) : Int) + 1) by omega), decide_eq_false (by omega), show (2 * ((nb (coneB c) (c.f0.toNat + 1 + i) : Int) + 1) / 2 - (coneC c).f0 - 1).toNat = nb (coneB c) (c.f0.toNat + 1 + i) - nb (coneB c) (c.f0.toNat + 1) by omega]
  simp
theorem rel_ins (hc : check c = 0) {ins : List Bool} (hl : (ins.length : Int) = (coneC c).f0) : RelI c (liftRow (insK (toldF (coneB c) 0) c.f0.toNat) ins) ins := by
  have hi := inside_of hc
  have hf := hi.h0
  refine ⟨by unfold liftRow; rw [List.length_map, insK_len]; omega, hl, fun i hk hr => ?_⟩
  have h2 : (insK (toldF (coneB c) 0) c.f0.toNat)[i]? = some ((toldF (coneB c) 0).getD (i + 1) 0) := by
    unfold insK
    rw [List.getElem?_map, List.getElem?_range hk]; rfl
  unfold liftRow
  rw [List.getD_eq_getElem?_getD, List.getElem?_map, h2]
  show liftB ins _ = _
  rw [show i + 1 = 1 + i by omega, told_at hi hr]
  unfold liftB
  rw [decide_eq_true (show (0 : Int) < 2 * ((nb (coneB c) (1 + i) : Int) + 1) by omega), Bool.true_and]
  congr 1
  omega
theorem cone_all : ∀ (I : List (List Bool)) (n : Nat), liftAll (coneL c) n I = I.map (liftRow (insK (toldF (coneB c) 0) c.f0.toNat))
  | [], _ => rfl
  | i :: I, n => by
    rw [liftAll, cone_all I (n + 1)]
    unfold liftIn rowsOf
    have e2 : (if n = 0 then (coneL c).f3 else (coneL c).f3.drop (coneL c).f0.toNat) = [insK (toldF (coneB c) 0) c.f0.toNat] := by split <;> rfl
    rw [e2]; rfl
theorem starts_rel (hc : check c = 0) {t0 : List Bool} (ht : t0.length = (coneC c).f1.length) (h : startsB (coneC c) t0 = true) : startsB c ((coneL c).f2.map (liftV (coneC c) t0)) = true := by
  have hi := inside_of hc
  have hr0 := rel_start hc ht
  have hm := check_more hc
  unfold startsB at h ⊢
  rw [List.all_eq_true] at h ⊢
  intro q hq
  obtain ⟨i, hk, rfl⟩ := List.getElem_of_mem hq
  rw [List.length_zip] at hk
  have hk1 : i < c.f1.length := by omega
  have hk2 : i < ((coneL c).f2.map (liftV (coneC c) t0)).length := by omega
  rw [List.getElem_zip]
  by_cases hr : Reach c (c.f0.toNat + 1 + i)
  · have hv := hr0.h i hk1 hr
    obtain ⟨hj, e⟩ := List.getElem?_eq_some_iff.1 (new_lat hi hk1 hr)
    have hj2 : nb (coneB c) (c.f0.toNat + 1 + i) - nb (coneB c) (c.f0.toNat + 1) < t0.length := by omega
    rw [getD_at hk2, getD_at hj2] at hv
    have h3 := h ((coneC c).f1[nb (coneB c) (c.f0.toNat + 1 + i) - nb (coneB c) (c.f0.toNat + 1)], t0[nb (coneB c) (c.f0.toNat + 1 + i) - nb (coneB c) (c.f0.toNat + 1)]) (by
      rw [List.mem_iff_getElem]
      exact ⟨_, by rw [List.length_zip]; omega, List.getElem_zip⟩)
    rw [e] at h3
    unfold startOk at h3 ⊢
    rw [hv]
    exact h3
  · have h2 : ((coneL c).f2)[i]? = some (firI c (coneB c) (toldF (coneB c) 0) i) := by
      show ((List.range c.f1.length).map _)[i]? = _
      rw [List.getElem?_map, List.getElem?_range hk1]; rfl
    have h3 : ((coneL c).f2.map (liftV (coneC c) t0))[i] = liftV (coneC c) t0 (c.f1[i].f1 % 2) := by
      have h4 : ((coneL c).f2.map (liftV (coneC c) t0))[i]? = some (liftV (coneC c) t0 (c.f1[i].f1 % 2)) := by
        rw [List.getElem?_map, h2]
        unfold firI
        rw [if_neg (by rw [is_no hi hr]; decide), List.getElem?_eq_getElem hk1]; rfl
      rw [List.getElem?_eq_getElem hk2] at h4
      exact Option.some.inj h4
    rw [h3]
    have hb := hm.2.2.1 _ (List.getElem_mem hk1)
    unfold startOk
    dsimp only
    generalize c.f1[i].f1 = z at *
    have hz : z = 0 ∨ z = 1 ∨ z = 2 := by omega
    rcases hz with rfl | rfl | rfl <;> rfl
end
theorem cone_lift_fits {c : Circ} (hc : check c = 0) : (coneL c).Fits := by
  have h := cone_lift_ok hc
  have gf := gCheck_ok hc
  have gt := gCheck_ok (new_check hc)
  refine ⟨⟨by show (0 : Nat) ≤ 4000000; omega, fun x hx => by simp [coneL, passL] at hx, ⟨by show (-9223372036854775808 : Int) ≤ 1; decide, by show (1 : Int) ≤ 9223372036854775807; decide⟩⟩, ⟨by show (-9223372036854775808 : Int) ≤ 0; decide, by show (0 : Int) ≤ 9223372036854775807; decide⟩, ⟨by show (-9223372036854775808 : Int) ≤ 1; decide, by show (1 : Int) ≤ 9223372036854775807; decide⟩, fun x hx => ?_, fun r hr x hx => ?_, fun x hx => ?_⟩
  · rcases h.m2 x hx with h_ | h_ | h_ <;> exact ⟨by omega, by omega⟩
  · have := (h.m3 r hr).2 x hx; exact ⟨by omega, by omega⟩
  · rcases h.m4 x hx with h_ | h_ <;> exact ⟨by omega, by omega⟩
theorem cone_err {c : Circ} (hc : check c = 0) : liftErr c (coneC c) (coneL c) = 0 := by
  unfold liftErr
  have hk := cone_lift_ok hc
  have ho : liftOk c (coneC c) (coneL c) = true := by
    unfold liftOk headOk
    simp only [Bool.and_eq_true, decide_eq_true_eq, List.all_eq_true]
    refine ⟨⟨hk.s0, hk.s1, hk.p0, hk.p1, hk.n2, hk.n4, hk.n3⟩, fun x hx => ?_, fun r hr => ?_, fun x hx => ?_, hk.k⟩
    · have := hk.m2 x hx
      unfold fOk isL
      simpa using this
    · have := hk.m3 r hr
      unfold rOk iOk
      simp only [Bool.and_eq_true, decide_eq_true_eq, List.all_eq_true]
      exact ⟨this.1, fun x hx => ⟨(this.2 x hx).1, (this.2 x hx).2.1, (this.2 x hx).2.2⟩⟩
    · have := hk.m4 x hx
      unfold lOk isL
      simpa using this
  rw [if_neg (by simp [hc]), if_neg (by simp [new_check hc]), if_neg (by rw [ho]; decide)]
/-- The run that is lifted by the cone's lift. -/
noncomputable def coneRun (c : Circ) (t : Run) : Run := ⟨(coneL c).f2.map (liftV (coneC c) t.f0), (t.f1.map (liftRow (insK (toldF (coneB c) 0) c.f0.toNat))).take (cutLen c ((coneL c).f2.map (liftV (coneC c) t.f0)) (t.f1.map (liftRow (insK (toldF (coneB c) 0) c.f0.toNat))))⟩
theorem cone_trace {c : Circ} (hc : check c = 0) (t : Run) : ((traceC c (coneC c) (coneL c) t).2 ≠ 0 → runFits (coneC c) t = false ∨ 100 < t.f1.length) ∧
    ((traceC c (coneC c) (coneL c) t).2 = 0 → runFits (coneC c) t = true ∧ t.f1.length ≤ 100 ∧ (traceC c (coneC c) (coneL c) t).1 = coneRun c t) := by
  unfold traceC
  rw [if_neg (by rw [cone_err hc]; decide)]
  by_cases h2 : runFits (coneC c) t = false
  · rw [if_pos h2]; exact ⟨fun _ => .inl h2, fun h => by cases h⟩
  · rw [if_neg h2]
    have e : (coneL c).f0 + (coneL c).f1 * (t.f1.length : Int) = (t.f1.length : Int) := by show (0 : Int) + 1 * (t.f1.length : Int) = _; omega
    rw [e]
    by_cases h3 : 100 < t.f1.length
    · rw [if_pos (.inl h3)]; exact ⟨fun _ => .inr h3, fun h => by cases h⟩
    · rw [if_neg (by omega)]
      refine ⟨fun h => absurd rfl h, fun _ => ⟨by simpa using h2, by omega, ?_⟩⟩
      unfold cutRun liftRun coneRun
      rw [cone_all]
theorem coneRun_len {c : Circ} {t : Run} (h : 0 < t.f1.length) : 1 ≤ (coneRun c t).f1.length ∧ (coneRun c t).f1.length ≤ t.f1.length := by
  show 1 ≤ (List.take _ _).length ∧ (List.take _ _).length ≤ _
  rw [List.length_take, List.length_map]
  have h2 : 1 ≤ cutLen c ((coneL c).f2.map (liftV (coneC c) t.f0)) (t.f1.map (liftRow (insK (toldF (coneB c) 0) c.f0.toNat))) := by
    cases hl : t.f1 with
    | nil => rw [hl] at h; simp at h
    | cons i I =>
      unfold cutLen
      rw [List.map_cons, frames, stopAt]
      split
      · exact (stopAt_le fine _ 1).1
      · omega
  omega
theorem coneRun_at {c : Circ} {t : Run} {k : Nat} (hk : k < (coneRun c t).f1.length) (hk2 : k < t.f1.length) : (coneRun c t).f1[k] = liftRow (insK (toldF (coneB c) 0) c.f0.toNat) t.f1[k] := by
  simp only [coneRun, List.getElem_take, List.getElem_map]
end Go.Proofs.Ytiafojcbllbepaa.PH
