/- The numbers of what is not great. -/
import Derived.Test.YtlhiapggccgggaaHPackA
import Derived.Test.YtlhiapggccgggaaHVar
import Derived.Test.YtlhiapggccgggaaHPackD
namespace Go.Proofs.Ytlhiapggccgggaa.PH
open Go.RowKit Go.Proofs.YtlhiapggccgggaaW.PrintWords
set_option linter.unusedVariables false
set_option linter.unusedSimpArgs false

theorem Circ.Nums.fits {c : Circ} (h : c.Nums) (hg : great c = false) : c.Fits := by
  unfold great at hg
  simp only [Bool.or_eq_false_iff, decide_eq_false_iff_not] at hg
  exact ⟨by omega, by omega, h.i0, h.i1, h.i2, h.i3, h.i4⟩
theorem Lf.Nums.fits {l : Lf} (h : l.Nums) (hs : smallL l) : l.Fits := ⟨⟨by have := hs.2.2.2; omega, h.ig, h.il⟩, h.i0, h.i1, h.i2, h.i3, h.i4⟩
theorem lat60 {c : Circ} (h : great c = false) : c.f1.length ≤ 60 := by
  unfold great at h
  simp only [Bool.or_eq_false_iff, decide_eq_false_iff_not] at h
  omega
/-- A predicate that is right has numbers of 64 bits. -/
theorem fits_of_check {n : Int} {p : Pr} (hc : predCheck n p = 0) : p.Fits := by
  have h := predCheck_parts hc
  have h2 := okg_of h.2.2.1
  refine ⟨by omega, fun x hx => ?_, ⟨by omega, by omega⟩⟩
  obtain ⟨k, hk, rfl⟩ := List.getElem_of_mem hx
  have h3 := h2 k hk
  exact ⟨⟨by omega, by omega⟩, by omega, by omega⟩
end Go.Proofs.Ytlhiapggccgggaa.PH
