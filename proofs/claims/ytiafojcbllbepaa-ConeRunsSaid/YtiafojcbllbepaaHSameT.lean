/- ref25.SameTrace at equal runs, ref25.GreatTrace. -/
import Derived.Test.YtiafojcbllbepaaHTraceW
import Derived.Deep.QuietTactic
import Derived.BigQuiet
namespace Go.Proofs.Ytiafojcbllbepaa.PH
open Go.RowKit Go.Proofs.YtiafojcbllbepaaW.PrintWords Go.Proofs.YtiafojcbllbepaaW.PrintLast
set_option linter.unusedVariables false
set_option linter.unusedSimpArgs false

/-- A run that is not great. -/
def smallT (t : Run) : Prop := t.f0.length ≤ 60 ∧ t.f1.length ≤ 110
set_option maxHeartbeats 4000000 in
set_option maxRecDepth 100000 in
theorem ref25_GreatTrace (p : TP) (t : Run) (w : World) (h1 : RT w p t) :
    Calls Try.prog 23 #[tv p t] w fun e w' => SomeB (fun b => b = false → smallT t) w w' e := by
  obtain ⟨PA, pa, PB, pb⟩ := p
  have H1 := Aside0.mk h1
  have HM1 := Aside0.mk h1.s1.max
  have hu57 := Try.underlying64
  have S0 := Aside0.mk ((Parts.start w).new 64 #[.slice PA t.f0.length pa, .slice PB t.f1.length pb])
  clear h1
  go_enter Try.func23, Try.ntmps23
  go_upto_region 1 with (fail)
  obtain ⟨w1, hw1⟩ : ∃ W, w.alloc (.cells #[.slice PA t.f0.length pa, .slice PB t.f1.length pb] 64) = W := ⟨_, rfl⟩
  rw [hw1] at S0 ⊢
  clear hw1
  go_wp2
  go_loopg [3] t.f1.length (fun gg s3 wr => ∃ i : Nat, s3 = .int .i64 i ∧ Aside0 (i ≤ t.f1.length ∧ t.f1.length - i ≤ gg) ∧ Aside0 (Parts w.heap.size w wr [pB w.heap.size 64 #[.slice PA t.f0.length pa, .slice PB t.f1.length pb]]))
  case atStart => exact ⟨0, rfl, ⟨by omega, by omega⟩, S0⟩
  case round =>
    clear S0
    obtain ⟨i, rfl, HX, S⟩ := hrel
    obtain ⟨a0, y0⟩ := S.out.cell 0 rfl 0 rfl
    obtain ⟨a1, y1⟩ := S.out.cell 0 rfl 1 rfl
    by_cases hlt : i < t.f1.length
    · obtain ⟨ad, C, c, e1, hx, hC⟩ := at_row (H1.out.s1.below S.out.B).r i hlt
      cases e1
      have hlti : (i : Int) < t.f1.length := by omega
      have HLT := Aside0.mk hlt
      generalize t.f1[i] = r at *
      clear hlt hC
      go_wp2
      all_goals
        first
        | (go_ret; exact ⟨_, rfl, (fun h => by first | (cases h) | (unfold smallT; simp at h; omega)), S.out.B⟩)
        | (go_roundg (t.f1.length - (i + 1))
           case measure => have := HX.out; have := HLT.out; omega
           case rel => exact ⟨i + 1, (by first | exact val_step HLT.out HM1.out | rfl), ⟨by have := HLT.out; omega, by have := HX.out; have := HLT.out; omega⟩, S⟩)
    · have hlti : ¬ (i : Int) < t.f1.length := by omega
      go_wp2
      all_goals
        go_ret
        exact ⟨_, rfl, (fun h => by first | (cases h) | (unfold smallT; simp at h; omega)), S.out.B⟩
end Go.Proofs.Ytiafojcbllbepaa.PH
