/- Composed lifts are one, in plain Lean. -/
import Derived.Test.YtlhiapggccgggaaHPackE
import Derived.Test.YtlhiapggccgggaaHPackD
namespace Go.Proofs.Ytlhiapggccgggaa.PH
open Go.RowKit Go.Proofs.YtlhiapggccgggaaW.PrintWords Go.Proofs.YtlhiapggccgggaaW.PrintLast
set_option linter.unusedVariables false
set_option linter.unusedSimpArgs false

theorem andP_ok {n : Int} {p q : Pr} (h : (andP n p q).2 = 0) : twoErr n p q = 0 ∧ (andB n p q).2.1 = false ∧ (andP n p q).1 = ⟨(andB n p q).1, (andB n p q).2.2⟩ := by
  unfold andP at h ⊢
  by_cases h1 : twoErr n p q = 0
  · rw [if_neg (by simp [h1])] at h ⊢
    refine ⟨h1, ?_⟩
    unfold predR at h ⊢
    cases hb : (andB n p q).2.1 with
    | false => exact ⟨rfl, by simp⟩
    | true => rw [hb] at h; simp at h
  · rw [if_pos h1] at h; exact absurd h h1
theorem andP_val {n : Int} {p q : Pr} {st : List Bool} (h : (andP n p q).2 = 0) (hn : (st.length : Int) = n) :
    predCheck n (andP n p q).1 = 0 ∧ predValue (andP n p q).1 st = (predValue p st && predValue q st) := by
  obtain ⟨h1, h2, h3⟩ := andP_ok h
  rw [h3]
  exact andB_val h1 hn h2
theorem LOk.to {fr tc : Circ} {l : Lf} (h : LOk fr tc l) : liftOk fr tc l = true := by
  unfold liftOk headOk
  simp only [Bool.and_eq_true, decide_eq_true_eq, List.all_eq_true]
  refine ⟨⟨h.s0, h.s1, h.p0, h.p1, h.n2, h.n4, h.n3⟩, fun x hx => ?_, fun r hr => ?_, fun x hx => ?_, h.k⟩
  · have := h.m2 x hx
    unfold fOk isL
    simpa using this
  · have := h.m3 r hr
    unfold rOk iOk
    simp only [Bool.and_eq_true, decide_eq_true_eq, List.all_eq_true]
    exact ⟨this.1, fun x hx => ⟨(this.2 x hx).1, (this.2 x hx).2.1, (this.2 x hx).2.2⟩⟩
  · have := h.m4 x hx
    unfold lOk isL
    simpa using this
theorem liftErr_of {fr tc : Circ} {l : Lf} (h1 : check fr = 0) (h2 : check tc = 0) (h3 : LOk fr tc l) : liftErr fr tc l = 0 := by
  unfold liftErr
  rw [if_neg (by simp [h1]), if_neg (by simp [h2]), if_neg (by rw [h3.to]; decide)]
/-- What a lift's frames are made of. -/
theorem rowAt_lt {a : Lf} {j : Nat} (hj : (j : Int) < a.f0 + a.f1) : rowAt a j = j ∧ frAt a j = 0 := by
  unfold rowAt frAt
  rw [if_neg (by omega), if_neg (by omega)]
  exact ⟨rfl, rfl⟩
theorem rowAt_at {a : Lf} (h0 : 0 ≤ a.f0) (h1 : 1 ≤ a.f1) (h4 : a.f1 ≤ 4) {j k m : Nat} (hm : (m : Int) < a.f1) (hj : (j : Int) = a.f0 + a.f1 * k + m) : (rowAt a j : Int) = a.f0 + m ∧ frAt a j = k := by
  unfold rowAt frAt
  have hk : a.f1 = 1 ∨ a.f1 = 2 ∨ a.f1 = 3 ∨ a.f1 = 4 := by omega
  rcases hk with hk | hk | hk | hk <;> rw [hk] at hm hj ⊢ <;> split <;> constructor <;> omega
theorem liftAll_len {a : Lf} (h1 : 1 ≤ a.f1) (h0 : 0 ≤ a.f0) (h3 : (a.f3.length : Int) = a.f0 + a.f1) : ∀ (Y : List (List Bool)) (n : Nat), ((liftAll a n Y).length : Int) = (if n = 0 ∧ Y ≠ [] then a.f0 else 0) + a.f1 * Y.length
  | [], n => by simp [liftAll]
  | i :: Y, n => by
    have ih := liftAll_len h1 h0 h3 Y (n + 1)
    rw [if_neg (by simp)] at ih
    have hl : ((liftIn a n i).length : Int) = (if n = 0 then a.f0 else 0) + a.f1 := by
      unfold liftIn rowsOf
      split <;> simp <;> omega
    rw [liftAll, List.length_append]
    push_cast
    rw [ih, hl, List.length_cons]
    push_cast
    rw [Int.mul_add, Int.mul_one]
    by_cases hn : n = 0
    · subst hn; simp; omega
    · simp [hn]; omega
theorem liftAll_range {a : Lf} (h0 : 0 ≤ a.f0) (h1 : 1 ≤ a.f1) (h4 : a.f1 ≤ 4) (h3 : (a.f3.length : Int) = a.f0 + a.f1) (Y : List (List Bool)) : ∀ (k : Nat), k + 1 ≤ Y.length →
    liftAll a 0 (Y.take (k + 1)) = (List.range (a.f0 + a.f1 * ((k + 1 : Nat) : Int)).toNat).map (fun j => liftRow (a.f3.getD (rowAt a j) []) (Y.getD (frAt a j) []))
  | 0, hk => by
    rw [liftAll_take a Y 0 (by omega), List.take_zero]
    show [] ++ liftIn a 0 Y[0] = _
    rw [List.nil_append]
    unfold liftIn rowsOf
    rw [if_pos rfl]
    refine List.ext_getElem (by simp; omega) (fun j hj1 hj2 => ?_)
    rw [List.length_map] at hj1
    obtain ⟨e1, e2⟩ := rowAt_lt (a := a) (j := j) (by omega)
    simp only [List.getElem_map, List.getElem_range]
    rw [e1, e2, getD_at hj1, getD_at (show 0 < Y.length by omega)]
  | k + 1, hk => by
    rw [liftAll_take a Y (k + 1) (by omega), liftAll_range h0 h1 h4 h3 Y k (by omega)]
    have e : (a.f0 + a.f1 * ((k + 1 + 1 : Nat) : Int)).toNat = (a.f0 + a.f1 * ((k + 1 : Nat) : Int)).toNat + a.f1.toNat := by
      have hk : a.f1 = 1 ∨ a.f1 = 2 ∨ a.f1 = 3 ∨ a.f1 = 4 := by omega
      rcases hk with hk | hk | hk | hk <;> rw [hk] <;> omega
    rw [e, List.range_add, List.map_append, List.map_map]
    congr 1
    unfold liftIn rowsOf
    rw [if_neg (by omega)]
    refine List.ext_getElem (by simp; omega) (fun m hm1 hm2 => ?_)
    rw [List.length_map, List.length_drop] at hm1
    have hms : (m : Int) < a.f1 := by omega
    obtain ⟨e1, e2⟩ := rowAt_at (a := a) (j := (a.f0 + a.f1 * ((k + 1 : Nat) : Int)).toNat + m) (k := k + 1) (m := m) h0 h1 h4 hms (by
      have hk : a.f1 = 1 ∨ a.f1 = 2 ∨ a.f1 = 3 ∨ a.f1 = 4 := by omega
      rcases hk with hk | hk | hk | hk <;> rw [hk] <;> omega)
    simp only [List.getElem_map, List.getElem_range, List.getElem_drop, Function.comp]
    rw [e2, getD_at (show k + 1 < Y.length by omega), show rowAt a ((a.f0 + a.f1 * ((k + 1 : Nat) : Int)).toNat + m) = a.f0.toNat + m by omega, getD_at (show a.f0.toNat + m < a.f3.length by omega)]
theorem liftAll_eq {a : Lf} (h0 : 0 ≤ a.f0) (h1 : 1 ≤ a.f1) (h4 : a.f1 ≤ 4) (h3 : (a.f3.length : Int) = a.f0 + a.f1) {Y : List (List Bool)} (hY : 0 < Y.length) :
    liftAll a 0 Y = (List.range (a.f0 + a.f1 * (Y.length : Int)).toNat).map (fun j => liftRow (a.f3.getD (rowAt a j) []) (Y.getD (frAt a j) [])) := by
  obtain ⟨k, hk⟩ : ∃ k, Y.length = k + 1 := ⟨Y.length - 1, by omega⟩
  have h := liftAll_range h0 h1 h4 h3 Y k (by omega)
  rw [← hk, List.take_length] at h
  exact h
/-- Where the frames of a composed lift come from. -/
theorem comp_idx {a b l : Lf} (a0 : 0 ≤ a.f0) (a1 : 1 ≤ a.f1) (a4 : a.f1 ≤ 4) (b0 : 0 ≤ b.f0) (b1 : 1 ≤ b.f1) (b4 : b.f1 ≤ 4) (l0 : l.f0 = sk a b) (l1 : l.f1 = ph a b) (l4 : ph a b ≤ 4) (j : Nat) :
    (rowAt l j : Int) < sk a b + ph a b ∧ rowAt a (rowAt l j) = rowAt a j ∧ frAt a (rowAt l j) = rowAt b (frAt a j) ∧ frAt l j = frAt b (frAt a j) := by
  have hp : 1 ≤ ph a b := by
    unfold ph
    have k : a.f1 = 1 ∨ a.f1 = 2 ∨ a.f1 = 3 ∨ a.f1 = 4 := by omega
    rcases k with k | k | k | k <;> rw [k] <;> omega
  have hs : 0 ≤ sk a b := by
    unfold sk
    have k : a.f1 = 1 ∨ a.f1 = 2 ∨ a.f1 = 3 ∨ a.f1 = 4 := by omega
    rcases k with k | k | k | k <;> rw [k] <;> omega
  by_cases hj : (j : Int) < sk a b + ph a b
  · obtain ⟨e1, e2⟩ := rowAt_lt (a := l) (j := j) (by omega)
    rw [e1, e2]
    have hf : (frAt a j : Int) < b.f0 + b.f1 := by
      unfold sk ph at hj
      unfold frAt
      have k : a.f1 = 1 ∨ a.f1 = 2 ∨ a.f1 = 3 ∨ a.f1 = 4 := by omega
      rcases k with k | k | k | k <;> rw [k] at hj ⊢ <;> split <;> omega
    obtain ⟨e3, e4⟩ := rowAt_lt (a := b) (j := frAt a j) hf
    rw [e3, e4]
    exact ⟨hj, rfl, rfl, rfl⟩
  · -- j = sk + ph * k + p * u + v
    obtain ⟨A0, hA0⟩ : ∃ n : Nat, a.f0 = n := ⟨a.f0.toNat, by omega⟩
    obtain ⟨B0, hB0⟩ : ∃ n : Nat, b.f0 = n := ⟨b.f0.toNat, by omega⟩
    obtain ⟨p, hp1⟩ : ∃ n : Nat, a.f1 = n := ⟨a.f1.toNat, by omega⟩
    obtain ⟨c, hc1⟩ : ∃ n : Nat, b.f1 = n := ⟨b.f1.toNat, by omega⟩
    obtain ⟨k, u, v, hu, hv, e⟩ : ∃ k u v : Nat, u < c ∧ v < p ∧ j = A0 + p * B0 + p * c * k + p * u + v := by
      have hj2 : A0 + p * B0 + p * c ≤ j := by
        unfold sk ph at hj
        rw [hA0, hB0, hp1, hc1] at hj
        have h_ : ((A0 + p * B0 + p * c : Nat) : Int) ≤ (j : Int) := by push_cast; omega
        omega
      have hpc : p = 1 ∨ p = 2 ∨ p = 3 ∨ p = 4 := by omega
      have hcc : c = 1 ∨ c = 2 ∨ c = 3 ∨ c = 4 := by omega
      refine ⟨(j - A0 - p * B0) / (p * c), (j - A0 - p * B0) % (p * c) / p, (j - A0 - p * B0) % p, ?_⟩
      rcases hpc with rfl | rfl | rfl | rfl <;> rcases hcc with rfl | rfl | rfl | rfl <;> refine ⟨?_, ?_, ?_⟩ <;> omega
    have E1 := rowAt_at (a := l) (j := j) (k := k) (m := p * u + v) (by rw [l0]; exact hs) (by rw [l1]; exact hp) (by rw [l1]; exact l4) (by
      rw [l1]; unfold ph; rw [hp1, hc1]
      have hpc : p = 1 ∨ p = 2 ∨ p = 3 ∨ p = 4 := by omega
      rcases hpc with rfl | rfl | rfl | rfl <;> push_cast <;> omega) (by
      rw [l0, l1]; unfold sk ph; rw [hA0, hB0, hp1, hc1, e]
      push_cast
      omega)
    have hr : rowAt l j = A0 + p * B0 + (p * u + v) := by
      have h_ := E1.1
      rw [l0] at h_
      unfold sk at h_
      rw [hA0, hB0, hp1] at h_
      have h2 : ((rowAt l j : Nat) : Int) = ((A0 + p * B0 + (p * u + v) : Nat) : Int) := by push_cast; push_cast at h_; omega
      omega
    have E2 := rowAt_at (a := a) (j := rowAt l j) (k := B0 + u) (m := v) a0 a1 a4 (by omega) (by
      rw [hr, hA0, hp1]; push_cast
      rw [Int.mul_add]; omega)
    have E3 := rowAt_at (a := a) (j := j) (k := B0 + c * k + u) (m := v) a0 a1 a4 (by omega) (by
      rw [e, hA0, hp1]; push_cast
      rw [Int.mul_add, Int.mul_add, Int.mul_assoc]; omega)
    have E4 := rowAt_at (a := b) (j := B0 + c * k + u) (k := k) (m := u) b0 b1 b4 (by omega) (by rw [hB0, hc1]; push_cast; omega)
    refine ⟨?_, by omega, ?_, ?_⟩
    · rw [E1.1, l0]
      unfold ph
      rw [hp1, hc1]
      have hpc : p = 1 ∨ p = 2 ∨ p = 3 ∨ p = 4 := by omega
      rcases hpc with rfl | rfl | rfl | rfl <;> push_cast <;> omega
    · rw [E2.2, E3.2]; have := E4.1; omega
    · rw [E1.2, E3.2, E4.2]
theorem liftB_zero (ins : List Bool) : liftB ins 0 = false := rfl
theorem getD_map {α β : Type} (f : α → β) {z : α} {y : β} (h : f z = y) : ∀ (l : List α) (n : Nat), (l.map f).getD n y = f (l.getD n z)
  | [], n => by simp [h]
  | x :: l, 0 => rfl
  | x :: l, n + 1 => by
    rw [List.map_cons, List.getD_cons_succ, List.getD_cons_succ]
    exact getD_map f h l n
theorem liftB_join (b : Lf) (f : Nat) (ins : List Bool) (x : Int) : liftB ins (joinI b f x) = liftB (liftRow (b.f3.getD f []) ins) x := by
  unfold joinI
  by_cases hx : 0 < x
  · rw [if_pos hx]
    conv => rhs; unfold liftB
    unfold liftRow
    rw [decide_eq_true hx, Bool.true_and, getD_map (liftB ins) (liftB_zero ins)]
  · rw [if_neg hx]
    unfold liftB
    rw [decide_eq_false hx, Bool.false_and, Bool.false_and]
theorem liftRow_join (a b : Lf) (j : Nat) (ins : List Bool) : liftRow (joinRow a b j) ins = liftRow (a.f3.getD (rowAt a j) []) (liftRow (b.f3.getD (frAt a j) []) ins) := by
  unfold joinRow liftRow
  rw [List.map_map]
  exact List.map_congr_left (fun x _ => liftB_join b (frAt a j) ins x)
theorem liftV_not {tc : Circ} {t : List Bool} {y : Int} (h0 : 0 ≤ tc.f0) (hy : y = 0 ∨ y = 1 ∨ 2 * (tc.f0 + 1) ≤ y) : liftV tc t (litNot y) = !liftV tc t y := by
  rcases hy with rfl | rfl | hy
  · rfl
  · rfl
  · have h1 : 1 < y := by omega
    have h2 : 1 < litNot y := by unfold litNot; split <;> omega
    have h3 : litNot y / 2 = y / 2 := (litNot_half (by omega)).2
    unfold liftV bit
    rw [decide_eq_false (show ¬ y = 1 by omega), decide_eq_false (show ¬ litNot y = 1 by omega), decide_eq_true h1, decide_eq_true h2, h3]
    have h4 : decide (litNot y % 2 = 1) = !decide (y % 2 = 1) := by
      by_cases hp : y % 2 = 1
      · rw [decide_eq_true hp]; apply decide_eq_false; unfold litNot; split <;> omega
      · rw [decide_eq_false hp]; apply decide_eq_true; unfold litNot; split <;> omega
    rw [h4]
    cases t.getD (y / 2 - tc.f0 - 1).toNat false <;> cases decide (y % 2 = 1) <;> rfl
theorem liftV_lat {md : Circ} {F : List Bool} {x : Int} (hx : 1 < x) : liftV md F x = bit (F.getD (x / 2 - md.f0 - 1).toNat false) x := by
  unfold liftV
  rw [decide_eq_false (show ¬ x = 1 by omega), decide_eq_true hx, Bool.false_or, Bool.true_and]
theorem liftV_join {md tc : Circ} {b : Lf} {t : List Bool} (hb : LOk md tc b) (h0 : 0 ≤ tc.f0) {x : Int} (hx : x = 0 ∨ x = 1 ∨ 1 < x) : liftV tc t (joinF md b x) = liftV md (b.f2.map (liftV tc t)) x := by
  rcases hx with rfl | rfl | hx
  · rfl
  · rfl
  · unfold joinF
    rw [if_pos hx, liftV_lat hx, getD_map (liftV tc t) (z := 0) (by rfl)]
    generalize (x / 2 - md.f0 - 1).toNat = q
    have hy : b.f2.getD q 0 = 0 ∨ b.f2.getD q 0 = 1 ∨ 2 * (tc.f0 + 1) ≤ b.f2.getD q 0 := by
      by_cases hq : q < b.f2.length
      · rw [getD_at hq]
        rcases hb.m2 _ (List.getElem_mem hq) with h | h | h
        · exact .inl h
        · exact .inr (.inl h)
        · exact .inr (.inr h.1)
      · rw [List.getD_eq_getElem?_getD, List.getElem?_eq_none (by omega)]; exact .inl rfl
    unfold byL bit
    by_cases hp : x % 2 = 1
    · rw [if_pos hp, decide_eq_true hp, liftV_not h0 hy]
      cases liftV tc t (b.f2.getD q 0) <;> rfl
    · rw [if_neg hp, decide_eq_false hp]
      cases liftV tc t (b.f2.getD q 0) <;> rfl
theorem runs_len {b : Lf} {tc : Circ} {t : Run} (b0 : 0 ≤ b.f0) (b1 : 1 ≤ b.f1) (b3 : (b.f3.length : Int) = b.f0 + b.f1) (ht : 0 < t.f1.length) : ((liftRun tc b t).f1.length : Int) = b.f0 + b.f1 * t.f1.length := by
  have h := liftAll_len b1 b0 b3 t.f1 0
  rw [if_pos ⟨rfl, by intro e; rw [e] at ht; simp at ht⟩] at h
  exact h
/-- A run that is lifted twice. -/
theorem run_join {fr md tc : Circ} {a b : Lf} {t : Run} (ha : LOk fr md a) (hb : LOk md tc b) (h0 : 0 ≤ tc.f0) (h0m : 0 ≤ md.f0) (h4 : ph a b ≤ 4) (ht : 0 < t.f1.length) : liftRun tc (joined fr md a b) t = liftRun md a (liftRun tc b t) := by
  have hl := runs_len (tc := tc) hb.s0 hb.p0 hb.n3 ht
  have hs := sk_bound ha hb
  have hpos : 0 < (liftRun tc b t).f1.length := by
    have h1 := hb.s0; have h2 := hb.p0; have h3 := hb.p1
    have k : b.f1 = 1 ∨ b.f1 = 2 ∨ b.f1 = 3 ∨ b.f1 = 4 := by omega
    rcases k with k | k | k | k <;> rw [k] at hl <;> omega
  unfold liftRun
  congr 1
  · show (a.f2.map (joinF md b)).map (liftV tc t.f0) = _
    rw [List.map_map]
    refine List.map_congr_left (fun x hx => ?_)
    exact liftV_join hb h0 (by rcases ha.m2 x hx with h | h | h; exact .inl h; exact .inr (.inl h); exact .inr (.inr (by omega)))
  · show liftAll (joined fr md a b) 0 t.f1 = liftAll a 0 (liftAll b 0 t.f1)
    have hl' : ((liftAll b 0 t.f1).length : Int) = b.f0 + b.f1 * t.f1.length := hl
    rw [liftAll_eq (a := joined fr md a b) hs.1 hs.2.2.1 h4 (by
        show ((((List.range (sk a b + ph a b).toNat).map (joinRow a b)).length : Nat) : Int) = sk a b + ph a b
        rw [List.length_map, List.length_range]; omega) ht, liftAll_eq (a := a) ha.s0 ha.p0 ha.p1 ha.n3 (Y := liftAll b 0 t.f1) hpos, hl']
    have e : (joined fr md a b).f0 + (joined fr md a b).f1 * (t.f1.length : Int) = a.f0 + a.f1 * (b.f0 + b.f1 * (t.f1.length : Int)) := by
      show a.f0 + a.f1 * b.f0 + a.f1 * b.f1 * (t.f1.length : Int) = _
      rw [Int.mul_add, Int.mul_assoc]; omega
    rw [e]
    refine List.map_congr_left (fun j hj => ?_)
    rw [List.mem_range] at hj
    obtain ⟨c1, c2, c3, c4⟩ := comp_idx (a := a) (b := b) (l := joined fr md a b) ha.s0 ha.p0 ha.p1 hb.s0 hb.p0 hb.p1 rfl rfl h4 j
    have hrow : (joined fr md a b).f3.getD (rowAt (joined fr md a b) j) [] = joinRow a b (rowAt (joined fr md a b) j) := by
      show ((List.range (sk a b + ph a b).toNat).map (joinRow a b)).getD _ [] = _
      rw [getD_at (by rw [List.length_map, List.length_range]; omega), List.getElem_map, List.getElem_range]
    rw [hrow, liftRow_join, c2, c3, c4]
    congr 1
    have hfb : frAt a j < (liftAll b 0 t.f1).length := by
      unfold frAt
      have h1 := ha.s0; have h2 := ha.p0; have h3 := ha.p1
      have h5 : ((liftAll b 0 t.f1).length : Int) = b.f0 + b.f1 * (t.f1.length : Int) := hl'
      have h6 : 0 < (liftAll b 0 t.f1).length := hpos
      generalize (liftAll b 0 t.f1).length = N at *
      rw [← h5] at hj
      have k : a.f1 = 1 ∨ a.f1 = 2 ∨ a.f1 = 3 ∨ a.f1 = 4 := by omega
      rcases k with k | k | k | k <;> rw [k] at hj ⊢ <;> split <;> omega
    rw [getD_at hfb]
    have hall := liftAll_eq (a := b) hb.s0 hb.p0 hb.p1 hb.n3 ht
    have h9 : (liftAll b 0 t.f1)[frAt a j]? = ((List.range (b.f0 + b.f1 * (t.f1.length : Int)).toNat).map (fun j => liftRow (b.f3.getD (rowAt b j) []) (t.f1.getD (frAt b j) [])))[frAt a j]? := by rw [← hall]
    rw [List.getElem?_eq_getElem hfb, List.getElem?_eq_getElem (by rw [List.length_map, List.length_range]; have : ((liftAll b 0 t.f1).length : Int) = _ := hl'; omega), List.getElem_map, List.getElem_range] at h9
    exact (Option.some.inj h9).symm
theorem byL_latch {c : Circ} {y : Int} (o : Int) (hy : 2 * (c.f0 + 1) ≤ y ∧ y < 2 * (c.f0 + 1 + c.f1.length)) (h0 : 0 ≤ c.f0) : 2 * (c.f0 + 1) ≤ byL y o ∧ byL y o < 2 * (c.f0 + 1 + c.f1.length) := by
  unfold byL litNot
  split
  · split <;> omega
  · exact hy
/-- What is composed is valid. -/
theorem joined_ok {fr md tc : Circ} {a b : Lf} (cf : check fr = 0) (cm : check md = 0) (ct : check tc = 0) (ha : LOk fr md a) (hb : LOk md tc b) (hs : sk a b ≤ 100) (hp : ph a b ≤ 4) (hf : (factOf fr a b).2 = 0) : LOk fr tc (joined fr md a b) := by
  have hk := sk_bound ha hb
  have gf := gCheck_ok cf
  have gm := gCheck_ok cm
  have gt := gCheck_ok ct
  refine ⟨hk.1, hs, hk.2.2.1, hp, ?_, ?_, ?_, fun y hy => ?_, fun r hr => ?_, fun y hy => ?_, ?_⟩
  · show (a.f2.map _).length = _
    rw [List.length_map]; exact ha.n2
  · show (b.f4.map _).length = _
    rw [List.length_map]; exact hb.n4
  · show ((((List.range (sk a b + ph a b).toNat).map (joinRow a b)).length : Nat) : Int) = sk a b + ph a b
    rw [List.length_map, List.length_range]; omega
  · obtain ⟨x, hx, rfl⟩ := List.mem_map.1 hy
    unfold joinF
    rcases ha.m2 x hx with rfl | rfl | h
    · exact .inl rfl
    · exact .inr (.inl rfl)
    · rw [if_pos (by omega)]
      have hq : (x / 2 - md.f0 - 1).toNat < b.f2.length := by have := hb.n2; omega
      rw [getD_at hq]
      rcases hb.m2 _ (List.getElem_mem hq) with h2 | h2 | h2
      · rw [h2]; unfold byL litNot; split; exact .inr (.inl (by simp)); exact .inl rfl
      · rw [h2]; unfold byL litNot; split; exact .inl (by simp); exact .inr (.inl rfl)
      · exact .inr (.inr (byL_latch x h2 (by omega)))
  · obtain ⟨j, hj, rfl⟩ := List.mem_map.1 hr
    rw [List.mem_range] at hj
    have hb2 := at_bound ha hb (j := j) (by omega)
    unfold joinRow
    rw [getD_at hb2.1]
    have hm := ha.m3 _ (List.getElem_mem hb2.1)
    refine ⟨by rw [List.length_map]; exact hm.1, fun y hy => ?_⟩
    obtain ⟨x, hx, rfl⟩ := List.mem_map.1 hy
    have h1 := hm.2 x hx
    unfold joinI
    split
    · rw [getD_at hb2.2]
      have hm2 := hb.m3 _ (List.getElem_mem hb2.2)
      have hq : (x / 2 - 1).toNat < b.f3[frAt a j].length := by have := hm2.1; omega
      rw [getD_at hq]
      exact hm2.2 _ (List.getElem_mem hq)
    · omega
  · obtain ⟨x, hx, rfl⟩ := List.mem_map.1 hy
    unfold joinL
    rcases hb.m4 x hx with rfl | h
    · exact .inl rfl
    · rw [if_pos (by omega)]
      have hq : (x / 2 - md.f0 - 1).toNat < a.f4.length := by have := ha.n4; omega
      rw [getD_at hq]
      rcases ha.m4 _ (List.getElem_mem hq) with h2 | h2
      · rw [h2]; exact .inl rfl
      · rw [if_pos (by omega)]
        exact .inr (byL_latch x h2 (by omega))
  · exact (andP_val (st := List.replicate fr.f1.length false) hf (by simp)).1
/-- No bad literals: nothing is cut. -/
theorem cutLen_none {c : Circ} (h : c.f3 = []) (st : List Bool) (ins : List (List Bool)) : cutLen c st ins = ins.length := by
  unfold cutLen
  suffices ∀ (ins : List (List Bool)) (st : List Bool) (i : Nat), stopAt fine i (frames c st ins) = i + ins.length by have := this ins st 0; omega
  intro ins
  induction ins with
  | nil => intro st i; rfl
  | cons x ins ih =>
    intro st i
    rw [frames, stopAt]
    rw [if_pos (by unfold fine badsOf; rw [h]; rfl), ih, List.length_cons]
    omega
theorem cutRun_none {c : Circ} (h : c.f3 = []) (t : Run) : cutRun c t = t := by
  unfold cutRun
  rw [cutLen_none h, List.take_length]
theorem composeC_ok {fr md tc : Circ} {a b : Lf} (h : (composeC fr md tc a b).2 = 0) :
    check fr = 0 ∧ check md = 0 ∧ check tc = 0 ∧ LOk fr md a ∧ LOk md tc b ∧ sk a b ≤ 100 ∧ ph a b ≤ 4 ∧ (factOf fr a b).2 = 0 ∧ (composeC fr md tc a b).1 = joined fr md a b := by
  unfold composeC at h ⊢
  by_cases h1 : checks [fr, md, tc] = 0
  · rw [if_neg (by simp [h1])] at h ⊢
    obtain ⟨c1, c2, c3⟩ := checks3 h1
    by_cases h2 : liftOk fr md a = false
    · rw [if_pos h2] at h; cases h
    rw [if_neg h2] at h ⊢
    by_cases h3 : liftOk md tc b = false
    · rw [if_pos h3] at h; cases h
    rw [if_neg h3] at h ⊢
    unfold joinC at h ⊢
    by_cases h4 : 100 < sk a b ∨ 4 < ph a b
    · rw [if_pos h4] at h; cases h
    rw [if_neg h4] at h ⊢
    by_cases h5 : (factOf fr a b).2 = 0
    · rw [if_neg (by simp [h5])]; exact ⟨c1, c2, c3, .of (by simpa using h2), .of (by simpa using h3), by omega, by omega, h5, rfl⟩
    · rw [if_pos h5] at h; exact absurd h h5
  · rw [if_pos h1] at h; exact absurd h h1
theorem traceC_ok {fr tc : Circ} {l : Lf} {t : Run} (h : (traceC fr tc l t).2 = 0) : liftErr fr tc l = 0 ∧ runFits tc t = true ∧ ¬ (100 < t.f1.length ∨ 100 < l.f0 + l.f1 * t.f1.length) ∧ (traceC fr tc l t).1 = cutRun fr (liftRun tc l t) := by
  unfold traceC at h ⊢
  by_cases h1 : liftErr fr tc l = 0
  · rw [if_neg (by simp [h1])] at h ⊢
    by_cases h2 : runFits tc t = false
    · rw [if_pos h2] at h; cases h
    rw [if_neg h2] at h ⊢
    by_cases h3 : 100 < t.f1.length ∨ 100 < l.f0 + l.f1 * t.f1.length
    · rw [if_pos h3] at h; cases h
    · rw [if_neg h3]; exact ⟨h1, by simpa using h2, h3, rfl⟩
  · rw [if_pos h1] at h; exact absurd h h1
theorem traceC_of {fr tc : Circ} {l : Lf} {t : Run} (h1 : liftErr fr tc l = 0) (h2 : runFits tc t = true) (h3 : ¬ (100 < t.f1.length ∨ 100 < l.f0 + l.f1 * t.f1.length)) : traceC fr tc l t = (cutRun fr (liftRun tc l t), 0) := by
  unfold traceC
  rw [if_neg (by simp [h1]), if_neg (by rw [h2]; decide), if_neg h3]
theorem runFits_of {tc : Circ} {t : Run} (h1 : t.f0.length = tc.f1.length) (h2 : 0 < t.f1.length) (h3 : ∀ r ∈ t.f1, (r.length : Int) = tc.f0) : runFits tc t = true := by
  unfold runFits
  rw [decide_eq_true h1, decide_eq_true h2, Bool.true_and, Bool.true_and, Bool.not_eq_true', List.any_eq_false]
  intro r hr
  simp [h3 r hr]
theorem liftAll_each {l : Lf} {m : Int} (h : ∀ r ∈ l.f3, (r.length : Int) = m) : ∀ (n : Nat) (x : List (List Bool)), ∀ y ∈ liftAll l n x, (y.length : Int) = m
  | n, [], y, hy => by simp [liftAll] at hy
  | n, i :: x, y, hy => by
    rw [liftAll] at hy
    rcases List.mem_append.1 hy with hy | hy
    · unfold liftIn at hy
      obtain ⟨r, hr, rfl⟩ := List.mem_map.1 hy
      unfold liftRow
      rw [List.length_map]
      refine h r ?_
      unfold rowsOf at hr
      split at hr
      · exact hr
      · exact List.mem_of_mem_drop hr
    · exact liftAll_each h (n + 1) x y hy
/-- The law LiftOne in plain Lean. -/
theorem one_law {fr md tc : Circ} {a b l : Lf} (hm : md.f3 = []) (h : composeC fr md tc a b = (l, 0)) (t : Run) :
    LOk fr tc l ∧ check fr = 0 ∧ check tc = 0 ∧ ((traceC md tc b t).2 = 0 → (traceC fr tc l t).2 = 0 ∨ (traceC fr tc l t).2 = 4) ∧
    ((traceC fr tc l t).2 = 0 → (traceC md tc b t).2 = 0 → traceC fr md a (traceC md tc b t).1 = ((traceC fr tc l t).1, 0)) := by
  obtain ⟨cf, cm, ct, ha, hb, hs, hp, hf, hl⟩ := composeC_ok (by rw [h])
  rw [h] at hl
  dsimp only at hl
  subst hl
  have hok := joined_ok cf cm ct ha hb hs hp hf
  refine ⟨hok, cf, ct, fun hg => ?_, fun hx hg => ?_⟩
  · obtain ⟨g1, g2, g3, g4⟩ := traceC_ok hg
    unfold traceC
    rw [if_neg (by rw [liftErr_of cf ct hok]; decide), if_neg (by rw [g2]; decide)]
    split
    · exact .inr rfl
    · exact .inl rfl
  · obtain ⟨g1, g2, g3, g4⟩ := traceC_ok hg
    obtain ⟨x1, x2, x3, x4⟩ := traceC_ok hx
    have ht := (runFits_ok g2).2.1
    have gm := gCheck_ok cm
    have gt := gCheck_ok ct
    rw [g4, x4, cutRun_none hm, run_join ha hb (by omega) (by omega) hp ht]
    have hl := runs_len (tc := tc) hb.s0 hb.p0 hb.n3 ht
    refine traceC_of (liftErr_of cf cm ha) (runFits_of ?_ ?_ (liftAll_each (fun r hr => (hb.m3 r hr).1) 0 t.f1)) ?_
    · show (b.f2.map _).length = _
      rw [List.length_map]; exact hb.n2
    · have h1 := hb.s0; have h2 := hb.p0; have h3 := hb.p1
      have k : b.f1 = 1 ∨ b.f1 = 2 ∨ b.f1 = 3 ∨ b.f1 = 4 := by omega
      rcases k with k | k | k | k <;> rw [k] at hl <;> omega
    · have e : (joined fr md a b).f0 + (joined fr md a b).f1 * (t.f1.length : Int) = a.f0 + a.f1 * (b.f0 + b.f1 * (t.f1.length : Int)) := by
        show a.f0 + a.f1 * b.f0 + a.f1 * b.f1 * (t.f1.length : Int) = _
        rw [Int.mul_add, Int.mul_assoc]; omega
      rw [e] at x3
      rw [hl]
      omega
theorem LOk.fits {fr tc : Circ} {l : Lf} (h : LOk fr tc l) (cf : check fr = 0) (ct : check tc = 0) (hp : l.f5.Fits) : l.Fits := by
  have gf := gCheck_ok cf
  have gt := gCheck_ok ct
  have s0 := h.s0; have s1 := h.s1; have p0 := h.p0; have p1 := h.p1
  refine ⟨hp, ⟨by omega, by omega⟩, ⟨by omega, by omega⟩, fun x hx => ?_, fun r hr x hx => ?_, fun x hx => ?_⟩
  · rcases h.m2 x hx with h_ | h_ | h_ <;> exact ⟨by omega, by omega⟩
  · have := (h.m3 r hr).2 x hx; exact ⟨by omega, by omega⟩
  · rcases h.m4 x hx with h_ | h_ <;> exact ⟨by omega, by omega⟩
end Go.Proofs.Ytlhiapggccgggaa.PH
