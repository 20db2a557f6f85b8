/- A run with a frame more: plain; rows of rows by their heads, made from rows of a call's own. -/
import Derived.Test.YtchhbkicplgmhaaHAlive6
import Derived.Test.YtchhbkicplgmhaaHTwin6
import Derived.Test.YtchhbkicplgmhaaHArgs
namespace Go.Proofs.Ytchhbkicplgmhaa.PH
open Go.RowKit Go.Proofs.YtchhbkicplgmhaaW.PrintWords Go.Proofs.YtchhbkicplgmhaaW.PrintLast
set_option linter.unusedVariables false
set_option linter.unusedSimpArgs false

/-- A row of another type has been written. -/
theorem R_other {α : Type} {d : Kd α} {e : Nat} {w w1 : World} {base : Nat} {ok : Nat → Prop} {v : Value} {xs : List α} (h : d.R e w base ok v xs) {v2 : Value} {e2 sz n base2 : Nat} {ys : List Value} (ho : w.ownsRow base2 e2 sz v2 n ys) (ht : ∀ q, q ∈ e :: d.E → q ≠ e2) (hg : w.grownBy w1 v2.ownBlock) : d.R e w1 base ok v xs := by
  cases hv : v2.ownBlock with
  | none => rw [hv] at hg; exact Kd.R_grown h hg (fun k _ => by simp)
  | some g =>
    rw [hv] at hg
    obtain ⟨cells, hc⟩ := own_typed ho g hv
    exact Kd.R_mono (Kd.R_grown (Kd.R_types h hc ht) hg (fun k hk e => hk.2 (Option.some.inj e))) (fun _ hk => hk.1)
/-- A row of rows of the call's own has heads. -/
theorem R_heads {w : World} {base : Nat} {ok : Nat → Prop} {v : Value} {xs : List (List Bool)} (h : Kd.R (Kd.slice 4 Kd.bool) 27 w base ok v xs) :
    ∃ hs : List HeadB, hs.length = xs.length ∧ Kd.R kHdB 27 w base ok v hs ∧ ∀ (j : Nat) (x : HeadB) (y : List Bool), hs[j]? = some x → xs[j]? = some y → x.2.1 = y.length ∧ ∃ ok' : Nat → Prop, Kd.R Kd.bool 4 w base ok' (.slice x.1 x.2.1 x.2.2) y := by
  obtain ⟨h0, inner, hown, hr1, hr2⟩ := h
  have hone : inner.length = xs.length := by rw [hr1]; exact Nat.mul_one _
  obtain ⟨hs, hn, hp⟩ := list_of (P := fun j (x : HeadB) => inner[j]? = some (.slice x.1 x.2.1 x.2.2) ∧ ∀ y, xs[j]? = some y → x.2.1 = y.length ∧ ∃ ok' : Nat → Prop, Kd.R Kd.bool 4 w base ok' (.slice x.1 x.2.1 x.2.2) y) xs.length (fun i hi => by
    obtain ⟨u, hu, hR⟩ := hr2 i xs[i] (List.getElem?_eq_getElem hi)
    obtain ⟨A, c, rfl, _, _⟩ := Kd.R_reads hR
    refine ⟨(A, xs[i].length, c), ?_, fun y hy => ?_⟩
    · have h1 : ((inner.drop (i * 1)).take 1)[0]? = some (.slice A xs[i].length c) := by
        have h2 : (inner.drop (i * (Kd.slice 4 Kd.bool).sz)).take (Kd.slice 4 Kd.bool).sz = [.slice A xs[i].length c] := hu
        rw [show (Kd.slice 4 Kd.bool).sz = 1 from rfl] at h2
        rw [h2]; rfl
      rw [List.getElem?_take, if_pos (by omega), List.getElem?_drop, Nat.mul_one, Nat.add_zero] at h1
      exact h1
    · rw [List.getElem?_eq_getElem hi] at hy
      cases hy
      exact ⟨rfl, _, hR⟩)
  refine ⟨hs, hn, ⟨h0, inner, by rw [hn]; exact hown, by rw [hn]; exact hr1, fun j x hj => ?_⟩, fun j x y hx hy => (hp j x hx).2 y hy⟩
  have h1 := (hp j x hj).1
  show (inner.drop (j * 1)).take 1 = [.slice x.1 x.2.1 x.2.2]
  have hjl : j < inner.length := (List.getElem?_eq_some_iff.1 h1).1
  rw [Nat.mul_one, List.drop_eq_getElem_cons hjl]
  rw [List.getElem?_eq_getElem hjl] at h1
  rw [Option.some.inj h1]
  rfl
def moreT (t : Run) (ins : List Bool) : Run := ⟨t.f0, t.f1 ++ [ins]⟩
theorem more_check {c : Circ} {t : Run} {ins : List Bool} (h : tCheck c t = 0) (hl : t.f1.length ≤ 19) (hi : (ins.length : Int) = c.f0) : tCheck c (moreT t ins) = 0 := by
  obtain ⟨h1, h2, h3, h4, h5, h6⟩ := tCheck_ok h
  unfold tCheck moreT
  dsimp only
  rw [if_neg (by simp [h1]), if_neg (by simp; omega), if_neg (by simp), if_neg (by simp [h4]), if_neg (by simp [h5]), if_neg]
  rw [List.any_append, Bool.or_eq_true]
  rintro (h7 | h7)
  · rw [List.any_eq_true] at h7
    obtain ⟨l, hl2, h8⟩ := h7
    have h9 := h6 l hl2
    simp [h9] at h8
  · simp [hi] at h7
theorem more_frames (c : Circ) (t : Run) (ins : List Bool) : (frames c (moreT t ins).f0 (moreT t ins).f1).take t.f1.length = frames c t.f0 t.f1 := by
  rw [← frames_take]
  unfold moreT
  dsimp only
  rw [List.take_append_of_le_length (Nat.le_refl _), List.take_length]
theorem more_states (c : Circ) (t : Run) (ins : List Bool) : (statesOf c (moreT t ins)).take t.f1.length = statesOf c t := by
  unfold statesOf
  rw [← List.map_take, more_frames]
theorem more_right {c : Circ} {t : Run} {ins : List Bool} (h : tCheck c t = 0) (h' : tCheck c (moreT t ins) = 0) : ∃ n m : Nat, rightC c t = ((n : Int), 0) ∧ rightC c (moreT t ins) = ((m : Int), 0) ∧ n ≤ t.f1.length ∧ n ≤ m ∧ m ≤ n + 1 ∧ (m = n ∨ n = t.f1.length) := by
  obtain ⟨n, hn0, hn1, hn2, hn3⟩ := right_spec c t h
  obtain ⟨m, hm0, hm1, hm2, hm3⟩ := right_spec c (moreT t ins) h'
  refine ⟨n, m, hn0, hm0, hn1, ?_⟩
  have hlen : (moreT t ins).f1.length = t.f1.length + 1 := by unfold moreT; simp
  have hF : ∀ j (hj : j < (frames c t.f0 t.f1).length) (hj2 : j < (frames c (moreT t ins).f0 (moreT t ins).f1).length), (frames c (moreT t ins).f0 (moreT t ins).f1)[j] = (frames c t.f0 t.f1)[j] := by
    intro j hj hj2
    have e := more_frames c t ins
    have h1 : (frames c t.f0 t.f1)[j]? = ((frames c (moreT t ins).f0 (moreT t ins).f1).take t.f1.length)[j]? := by rw [e]
    rw [List.getElem?_take, if_pos (by rw [frames_len] at hj; exact hj), List.getElem?_eq_getElem hj, List.getElem?_eq_getElem hj2] at h1
    exact (Option.some.inj h1).symm
  have fl : (frames c t.f0 t.f1).length = t.f1.length := frames_len _ _ _
  have fl2 : (frames c (moreT t ins).f0 (moreT t ins).f1).length = t.f1.length + 1 := by rw [frames_len, hlen]
  have key : ¬ m < n := by
    intro hlt
    have h1 := hm3 (by omega)
    have h2 := hn2 m (by omega) hlt
    rw [hF m (by omega) (by omega), h2] at h1
    cases h1
  have key2 : n < t.f1.length → m ≤ n := by
    intro hlt
    apply Nat.le_of_not_lt
    intro h3
    have h1 := hn3 (by omega)
    have h2 := hm2 n (by omega) h3
    rw [hF n (by omega) (by omega), h1] at h2
    cases h2
  by_cases hlt : n < t.f1.length
  · have := key2 hlt
    exact ⟨by omega, by omega, Or.inl (by omega)⟩
  · exact ⟨by omega, by omega, Or.inr (by omega)⟩
end Go.Proofs.Ytchhbkicplgmhaa.PH
