/- Runs without constraints, without bad literals; what a witness tells: plain Lean. -/
import Derived.Test.YtchhbkicplgmhaaHCutP
namespace Go.Proofs.Ytchhbkicplgmhaa.PH
open Go.RowKit Go.Proofs.YtchhbkicplgmhaaW.PrintWords Go.Proofs.YtchhbkicplgmhaaW.PrintLast
set_option linter.unusedVariables false
set_option linter.unusedSimpArgs false

theorem gCheck_less {a : Int} {l1 : List Latch} {l2 : List Gate} {l3 l4 m3 m4 : List Int} (h : gCheck a l1 l2 l3 l4 = 0) (h3 : m3.length ≤ l3.length) (s3 : ∀ x ∈ m3, x ∈ l3) (h4 : m4.length ≤ l4.length) (s4 : ∀ x ∈ m4, x ∈ l4) : gCheck a l1 l2 m3 m4 = 0 := by
  unfold gCheck at h ⊢
  by_cases q1 : a < 0
  · rw [if_pos q1] at h; cases h
  rw [if_neg q1] at h ⊢
  by_cases q2 : 1000 < a
  · rw [if_pos q2] at h; cases h
  rw [if_neg q2] at h ⊢
  by_cases q3 : 1000 < 1 + a + l1.length + l2.length - 1
  · rw [if_pos q3] at h; cases h
  rw [if_neg q3] at h ⊢
  by_cases q4 : 100 < mx (l3.length : Int) (l4.length : Int)
  · rw [if_pos q4] at h; cases h
  rw [if_neg q4] at h
  have q4' : ¬ 100 < mx (m3.length : Int) (m4.length : Int) := by
    unfold mx at q4 ⊢
    split at q4 <;> split <;> omega
  rw [if_neg q4']
  by_cases q5 : l3.any (gOut (1 + a + l1.length + l2.length)) = true
  · rw [if_pos q5] at h; cases h
  rw [if_neg q5] at h
  have q5' : ¬ m3.any (gOut (1 + a + l1.length + l2.length)) = true := by
    rw [List.any_eq_true] at q5 ⊢
    rintro ⟨x, hx, hp⟩
    exact q5 ⟨x, s3 x hx, hp⟩
  rw [if_neg q5']
  by_cases q6 : l4.any (gOut (1 + a + l1.length + l2.length)) = true
  · rw [if_pos q6] at h; cases h
  rw [if_neg q6] at h
  have q6' : ¬ m4.any (gOut (1 + a + l1.length + l2.length)) = true := by
    rw [List.any_eq_true] at q6 ⊢
    rintro ⟨x, hx, hp⟩
    exact q6 ⟨x, s4 x hx, hp⟩
  rw [if_neg q6']
  exact h
theorem tCheck_less {c : Circ} {t : Run} {m3 m4 : List Int} (h : tCheck c t = 0) (h3 : m3.length ≤ c.f3.length) (s3 : ∀ x ∈ m3, x ∈ c.f3) (h4 : m4.length ≤ c.f4.length) (s4 : ∀ x ∈ m4, x ∈ c.f4) : tCheck ⟨c.f0, c.f1, c.f2, m3, m4⟩ t = 0 := by
  obtain ⟨a1, a2, a3, a4, a5, a6⟩ := tCheck_ok h
  have b1 : check ⟨c.f0, c.f1, c.f2, m3, m4⟩ = 0 := gCheck_less a1 h3 s3 h4 s4
  have b5 : startsB ⟨c.f0, c.f1, c.f2, m3, m4⟩ t.f0 = true := a5
  unfold tCheck
  rw [if_neg (by simp [b1]), if_neg (by omega), if_neg (by omega), if_neg (by show ¬ t.f0.length ≠ c.f1.length; simp [a4]), if_neg (by simp [b5]), if_neg]
  intro h7
  rw [List.any_eq_true] at h7
  obtain ⟨l, hl2, h8⟩ := h7
  have h9 := a6 l hl2
  simp [h9] at h8
def freeC (c : Circ) : Circ := ⟨c.f0, c.f1, c.f2, c.f3, []⟩
def noneC (c : Circ) : Circ := ⟨c.f0, c.f1, c.f2, [], c.f4⟩
theorem free_check {c : Circ} {t : Run} (h : tCheck c t = 0) : tCheck (freeC c) t = 0 := tCheck_less h (Nat.le_refl _) (fun _ h => h) (Nat.zero_le _) (fun _ h => by simp at h)
theorem none_check {c : Circ} {t : Run} (h : tCheck c t = 0) : tCheck (noneC c) t = 0 := tCheck_less h (Nat.zero_le _) (fun _ h => by simp at h) (Nat.le_refl _) (fun _ h => h)
theorem right_free {c : Circ} {t : Run} (h : tCheck c t = 0) : rightC (freeC c) t = ((t.f1.length : Int), 0) := by
  obtain ⟨n, h1, h2, h3, h4⟩ := right_spec (freeC c) t (free_check h)
  have hfl : (frames (freeC c) t.f0 t.f1).length = t.f1.length := frames_len _ _ _
  by_cases hn : n < t.f1.length
  · have h5 := h4 (by omega)
    rw [frames_at _ _ _ n hn] at h5
    cases h5
  · rw [h1, show n = t.f1.length by omega]
theorem wit_none {c : Circ} {t : Run} (h : tCheck c t = 0) : witC (noneC c) t = (0, 57) := by
  have hc := none_check h
  have h0 := (tCheck_ok hc).2.2.1
  have hfl : (frames (noneC c) t.f0 t.f1).length = t.f1.length := frames_len _ _ _
  have hs := (wit_spec (frames (noneC c) t.f0 t.f1) (by omega)).2.1
  rw [hfl] at hs
  have hno : ¬ hitP (frames (noneC c) t.f0 t.f1) t.f1.length := by
    intro hp
    have h3 := hp.2.2.2 (by omega)
    unfold hitF at h3
    rw [frames_at _ _ _ (t.f1.length - 1) (by omega)] at h3
    rw [Bool.and_eq_true] at h3
    have h4 := h3.2
    unfold badsOf noneC at h4
    simp at h4
  unfold witC
  rw [if_neg (by simp [hc]), hs hno, if_pos (by decide)]
/-- The first bad literal of the last frame, if each frame is allowed. -/
theorem wit_last {c : Circ} {t : Run} (h : tCheck c t = 0) {n : Nat} (hn : n ≤ t.f1.length) (h2 : ∀ j (hj : j < (frames c t.f0 t.f1).length), j < n → (frames c t.f0 t.f1)[j].2.1 = true) (h3 : ∀ (hx : n < (frames c t.f0 t.f1).length), (frames c t.f0 t.f1)[n].2.1 = false) (h0 : t.f1.length - 1 < t.f1.length) :
    ∃ x : Int, (x = if n = t.f1.length then firstIdx (fun x => true == x) (badsOf c (stateAt c t.f0 (t.f1.take (t.f1.length - 1))) (t.f1[t.f1.length - 1])) 0 else -1) ∧ witC c t = if x < 0 then (0, 57) else (x, 0) := by
  refine ⟨_, rfl, ?_⟩
  have hfl : (frames c t.f0 t.f1).length = t.f1.length := frames_len _ _ _
  have hs := wit_spec (frames c t.f0 t.f1) (by omega)
  have hw : witN t.f1.length (walked (frames c t.f0 t.f1) (fun _ f => f.2.1) 0) = if n = t.f1.length then firstIdx (fun x => true == x) (badsOf c (stateAt c t.f0 (t.f1.take (t.f1.length - 1))) (t.f1[t.f1.length - 1])) 0 else -1 := by
    by_cases e : n = t.f1.length
    · rw [if_pos e]
      have h4 := hs.2.2 (fun j hj => h2 j (by omega) (by omega))
      simp only [hfl] at h4
      rw [h4, frames_at _ _ _ (t.f1.length - 1) h0]
    · rw [if_neg e]
      have h5 := hs.2.1
      rw [hfl] at h5
      apply h5
      intro hp
      have h4 := hp.2.2.1 n (by omega) (by omega)
      rw [h3 (by omega)] at h4
      cases h4
  unfold witC
  rw [if_neg (by simp [h]), hw]
theorem wit_last' {c : Circ} {t : Run} (h : tCheck c t = 0) {n : Nat} (hn : n ≤ t.f1.length) (h2 : ∀ j (hj : j < (frames c t.f0 t.f1).length), j < n → (frames c t.f0 t.f1)[j].2.1 = true) (h3 : ∀ (hx : n < (frames c t.f0 t.f1).length), (frames c t.f0 t.f1)[n].2.1 = false) {i : Nat} (hi : t.f1.length = i + 1) (h0 : i < t.f1.length) :
    ∃ x : Int, (x = if n = t.f1.length then firstIdx (fun x => true == x) (badsOf c (stateAt c t.f0 (t.f1.take i)) t.f1[i]) 0 else -1) ∧ witC c t = if x < 0 then (0, 57) else (x, 0) := by
  obtain rfl : i = t.f1.length - 1 := by omega
  exact wit_last h hn h2 h3 h0
theorem first_drop {p : Bool → Bool} {l : List Bool} {j : Nat} (hj : j < l.length) : firstIdx p (l.drop j) j = if p l[j] = true then (j : Int) else firstIdx p (l.drop (j + 1)) ((j : Int) + 1) := by
  rw [List.drop_eq_getElem_cons hj]
  rfl
theorem first_end {p : Bool → Bool} {l : List Bool} {i : Int} : firstIdx p (l.drop l.length) i = -1 := by
  rw [List.drop_eq_nil_of_le (Nat.le_refl _)]
  rfl
end Go.Proofs.Ytchhbkicplgmhaa.PH
