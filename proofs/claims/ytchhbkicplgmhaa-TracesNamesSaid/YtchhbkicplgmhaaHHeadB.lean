/- Rows of rows of truth values by their heads. -/
import Derived.Test.YtchhbkicplgmhaaHValues
namespace Go.Proofs.Ytchhbkicplgmhaa.PH
open Go.RowKit Go.Proofs.YtchhbkicplgmhaaW.PrintWords Go.Proofs.YtchhbkicplgmhaaW.PrintLast
set_option linter.unusedVariables false
set_option linter.unusedSimpArgs false

/-- The head of a row: address, length, capacity. -/
abbrev HeadB := Option Addr × Nat × Nat
def kHdB : Kd HeadB := Kd.scalar (fun a => Value.slice a.1 a.2.1 a.2.2) (fun _ => rfl)
structure HdB (w : World) (hs : List HeadB) (l : List (List Bool)) : Prop where
  n : hs.length = l.length
  r : ∀ (j : Nat) (x : HeadB) (y : List Bool), hs[j]? = some x → l[j]? = some y → x.2.1 = y.length ∧ RS Kd.bool w x.1 x.2.2 y
theorem HdB.below {w w1 : World} {hs : List HeadB} {l : List (List Bool)} (h : HdB w hs l) (hb : Below w.heap.size w w1) : HdB w1 hs l :=
  ⟨h.n, fun j x y h1 h2 => ⟨(h.r j x y h1 h2).1, (h.r j x y h1 h2).2.below hb⟩⟩
theorem HdB.append {w : World} {hs gs : List HeadB} {l m : List (List Bool)} (h : HdB w hs l) (g : HdB w gs m) : HdB w (hs ++ gs) (l ++ m) :=
  ⟨by simp [h.n, g.n], fun j x y h1 h2 => by
    by_cases hj : j < hs.length
    · rw [List.getElem?_append_left hj] at h1
      rw [List.getElem?_append_left (by rw [← h.n]; exact hj)] at h2
      exact h.r j x y h1 h2
    · rw [List.getElem?_append_right (by omega)] at h1
      rw [List.getElem?_append_right (by rw [← h.n]; omega), ← h.n] at h2
      exact g.r _ x y h1 h2⟩
/-- Heads that are read are a row of rows. -/
theorem HdB.to {w : World} {A : Option Addr} {c : Nat} {hs : List HeadB} {l : List (List Bool)} (h : RS kHdB w A c hs) (g : HdB w hs l) : RS (Kd.slice 4 Kd.bool) w A c l := by
  have hm := h.max
  refine ⟨⟨rfl, by rw [← g.n]; exact hm, fun h0 => ?_⟩, by rw [← g.n]; exact h.h⟩
  obtain ⟨ad, e, hc⟩ := h.r.2.2 (by rw [g.n]; exact h0)
  refine ⟨ad, e, fun j p hj => ?_⟩
  have hjl : j < hs.length := by rw [g.n]; exact (List.getElem?_eq_some_iff.1 hj).1
  obtain ⟨cs, h1, h2, h3⟩ := hc j hs[j] (List.getElem?_eq_getElem hjl)
  have hg := g.r j hs[j] p (List.getElem?_eq_getElem hjl) hj
  refine ⟨cs, h1, ?_, h3⟩
  have e2 : cs = [.slice hs[j].1 hs[j].2.1 hs[j].2.2] := h2
  rw [e2, hg.1]
  exact ⟨_, _, rfl, hg.2.h, hg.2.r⟩
end Go.Proofs.Ytchhbkicplgmhaa.PH
