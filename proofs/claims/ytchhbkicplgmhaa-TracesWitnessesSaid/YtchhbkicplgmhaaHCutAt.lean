/- Where a run is cut, by number. -/
import Derived.Test.YtchhbkicplgmhaaHCutP
namespace Go.Proofs.Ytchhbkicplgmhaa.PH
open Go.RowKit Go.Proofs.YtchhbkicplgmhaaW.PrintWords Go.Proofs.YtchhbkicplgmhaaW.PrintLast
set_option linter.unusedVariables false
set_option linter.unusedSimpArgs false

/-- The beginning of a row that is read. -/
theorem RS.take {α : Type} {d : Kd α} {w : World} {A : Option Addr} {c : Nat} {l : List α} (h : RS d w A c l) {n : Nat} (hn : n ≤ l.length) : RS d w A c (l.take n) := by
  have hl : (l.take n).length = n := by rw [List.length_take]; omega
  have hm := h.max
  have hh := h.h
  refine ⟨⟨rfl, by rw [hl]; omega, fun h0 => ?_⟩, by rw [hl]; omega⟩
  obtain ⟨ad, e, hc⟩ := h.r.2.2 (by omega)
  refine ⟨ad, e, fun j p hj => hc j p ?_⟩
  rw [List.getElem?_take] at hj
  split at hj
  · exact hj
  · cases hj
def preT (t : Run) (n : Nat) : Run := ⟨t.f0, t.f1.take n⟩
/-- Where the run is cut, or 0. -/
structure CutAt (c : Circ) (t : Run) (K : Nat) : Prop where
  le : K ≤ t.f1.length
  ct : cutC c t = if K = 0 then (⟨[], []⟩, 6) else (preT t K, 0)
  wt : ∀ m, 1 ≤ m → m ≤ t.f1.length → (K = 0 ∨ m ≤ K) → ∃ v, witC c (preT t m) = (v, if m = K then 0 else 57)
  ag : 0 < K → cutC c (preT t K) = (preT t K, 0)
theorem pre_frames (c : Circ) (t : Run) (n : Nat) : frames c (preT t n).f0 (preT t n).f1 = (frames c t.f0 t.f1).take n := frames_take c t.f1 t.f0 n
theorem wit_pre {c : Circ} {t : Run} (h : tCheck c t = 0) {m : Nat} (h1 : 1 ≤ m) (h2 : m ≤ t.f1.length) :
    (hitP (frames c t.f0 t.f1) m → ∃ v, witC c (preT t m) = (v, 0)) ∧ (¬ hitP (frames c t.f0 t.f1) m → ∃ v, witC c (preT t m) = (v, 57)) := by
  have hpc : tCheck c (preT t m) = 0 := pre_check h h1 h2
  have hfl : (frames c t.f0 t.f1).length = t.f1.length := frames_len _ _ _
  have hl : (preT t m).f1.length = m := by show (t.f1.take m).length = m; rw [List.length_take]; omega
  have hl2 : ((frames c t.f0 t.f1).take m).length = m := by rw [List.length_take]; omega
  have hs0 := wit_spec ((frames c t.f0 t.f1).take m) (by omega)
  have hs := And.intro hs0.1 hs0.2.1
  rw [hl2] at hs
  have hiff := hit_pre (F := frames c t.f0 t.f1) (n := m) (m := m) (by omega) (Nat.le_refl _)
  unfold witC
  rw [if_neg (by simp [hpc]), pre_frames, hl]
  constructor
  · intro hp
    have h3 := hs.1 (hiff.2 hp)
    rw [if_neg (by omega)]
    exact ⟨_, rfl⟩
  · intro hp
    have h3 := hs.2 (fun hx => hp (hiff.1 hx))
    rw [if_pos (by rw [h3]; decide)]
    exact ⟨_, rfl⟩
theorem cut_at {c : Circ} {t : Run} (h : tCheck c t = 0) : ∃ K, CutAt c t K := by
  have hfl : (frames c t.f0 t.f1).length = t.f1.length := frames_len _ _ _
  have hct : cutC c t = if cutN (walked (frames c t.f0 t.f1) goCut 0) = 0 then (⟨[], []⟩, 6) else (⟨t.f0, t.f1.take (cutN (walked (frames c t.f0 t.f1) goCut 0)).toNat⟩, 0) := by
    unfold cutC; rw [if_neg (by simp [h])]
  rcases cut_spec (frames c t.f0 t.f1) with ⟨h1, h2⟩ | ⟨K, h1, h2, h3⟩
  · refine ⟨0, ⟨Nat.zero_le _, ?_, fun m m1 m2 _ => ?_, fun h0 => absurd h0 (Nat.lt_irrefl _)⟩⟩
    · rw [hct, h1, if_pos rfl, if_pos rfl]
    · obtain ⟨v, hv⟩ := (wit_pre h m1 m2).2 (h2 m)
      exact ⟨v, by rw [hv, if_neg (by omega)]⟩
  · have hk1 := h2.1
    have hk2 : K ≤ t.f1.length := by have := h2.2.1; omega
    refine ⟨K, ⟨hk2, ?_, fun m m1 m2 hm => ?_, fun _ => ?_⟩⟩
    · rw [hct, h1, if_neg (by omega), if_neg (by omega), Int.toNat_natCast]
      rfl
    · by_cases e : m = K
      · subst e
        obtain ⟨v, hv⟩ := (wit_pre h m1 m2).1 h2
        exact ⟨v, by rw [hv, if_pos rfl]⟩
      · obtain ⟨v, hv⟩ := (wit_pre h m1 m2).2 (h3 m (by omega))
        exact ⟨v, by rw [hv, if_neg e]⟩
    · have hpc : tCheck c (preT t K) = 0 := pre_check h hk1 hk2
      have hcn : cutN (walked ((frames c t.f0 t.f1).take K) goCut 0) = (K : Int) := by
        rcases cut_spec ((frames c t.f0 t.f1).take K) with ⟨_, b2⟩ | ⟨K2, b1, b2, b3⟩
        · exact absurd ((hit_pre (by omega) (Nat.le_refl _)).2 h2) (b2 K)
        · have hl : ((frames c t.f0 t.f1).take K).length = K := by rw [List.length_take]; omega
          have hle : K2 ≤ K := by have := b2.2.1; omega
          have h4 := (hit_pre (by omega) hle).1 b2
          have h5 : ¬ K2 < K := fun hx => h3 K2 hx h4
          rw [b1, show K2 = K by omega]
      unfold cutC
      rw [if_neg (by simp [hpc]), pre_frames, hcn, if_neg (by omega), Int.toNat_natCast]
      show ((⟨t.f0, (t.f1.take K).take K⟩ : Run), (0 : Int)) = (preT t K, 0)
      rw [List.take_take, Nat.min_self]
      rfl
end Go.Proofs.Ytchhbkicplgmhaa.PH
