/- ref25.SameTrace at equal runs, ref25.GreatTrace. -/
import Derived.Test.YtlhiapggccgggaaHTraceW
import Derived.Deep.QuietTactic
import Derived.BigQuiet
namespace Go.Proofs.Ytlhiapggccgggaa.PH
open Go.RowKit Go.Proofs.YtlhiapggccgggaaW.PrintWords Go.Proofs.YtlhiapggccgggaaW.PrintLast
set_option linter.unusedVariables false
set_option linter.unusedSimpArgs false

set_option maxHeartbeats 4000000 in
set_option maxRecDepth 100000 in
theorem ref25_SameTrace (p q : TP) (t : Run) (w : World) (h1 : RT w p t) (h2 : RT w q t) :
    Calls Try.prog 26 #[tv p t, tv q t] w fun e w' => e = .returned (.bool true) ∧ Below w.heap.size w w' := by
  obtain ⟨PA, pa, PB, pb⟩ := p
  obtain ⟨QA, qa, QB, qb⟩ := q
  have H1 := Aside0.mk h1
  have H2 := Aside0.mk h2
  have HM0 := Aside0.mk h1.s0.max
  have HM1 := Aside0.mk h1.s1.max
  have hu57 := Try.underlying57
  have S := ((Parts.start w).new 57 #[.slice PA t.f0.length pa, .slice PB t.f1.length pb]).new 57 #[.slice QA t.f0.length qa, .slice QB t.f1.length qb]
  simp only [sz_new] at S
  have S0 := Aside0.mk S
  clear S h1 h2
  go_enter Try.func26, Try.ntmps26
  go_upto_region 1 with (fail)
  obtain ⟨w1, hw1⟩ : ∃ W, ((w.alloc (.cells #[.slice PA t.f0.length pa, .slice PB t.f1.length pb] 57)).alloc (.cells #[.slice QA t.f0.length qa, .slice QB t.f1.length qb] 57)) = W := ⟨_, rfl⟩
  rw [hw1] at S0 ⊢
  clear hw1
  obtain ⟨a0, y0⟩ := S0.out.cell 1 rfl 0 rfl
  obtain ⟨a1, y1⟩ := S0.out.cell 1 rfl 1 rfl
  obtain ⟨b0, z0⟩ := S0.out.cell 0 rfl 0 rfl
  obtain ⟨b1, z1⟩ := S0.out.cell 0 rfl 1 rfl
  go_wp2
  clear a0 y0 a1 y1 b0 z0 b1 z1
  go_loopg [5] t.f0.length (fun gg s5 wr => ∃ i : Nat, s5 = .int .i64 i ∧ Aside0 (i ≤ t.f0.length ∧ t.f0.length - i ≤ gg) ∧ Aside0 (Parts w.heap.size w wr [pB (w.heap.size + 1) 57 #[.slice QA t.f0.length qa, .slice QB t.f1.length qb], pB w.heap.size 57 #[.slice PA t.f0.length pa, .slice PB t.f1.length pb]]))
  case atStart => exact ⟨0, rfl, ⟨by omega, by omega⟩, S0⟩
  case round =>
    clear S0
    obtain ⟨i, rfl, HX, S⟩ := hrel
    obtain ⟨a0, y0⟩ := S.out.cell 1 rfl 0 rfl
    obtain ⟨b0, z0⟩ := S.out.cell 0 rfl 0 rfl
    by_cases hlt : i < t.f0.length
    · obtain ⟨ad, e1, hx⟩ := at_bool (H1.out.s0.below S.out.B).r i hlt
      obtain ⟨bd, e2, hy⟩ := at_bool (H2.out.s0.below S.out.B).r i hlt
      cases e1
      cases e2
      have hlti : (i : Int) < t.f0.length := by omega
      have HLT := Aside0.mk hlt
      generalize t.f0[i] = x at *
      clear hlt
      go_wp2
      go_quiet (fail)
      have S2 := Aside0.mk (S.out.below (pw_below_drewN (Below.refl _ _) nq))
      clear a0 y0 b0 z0 hx hy S
      generalize wr.drewN nq = w3 at *
      have hxx : (x != x) = false := by cases x <;> rfl
      go_wp2
      go_roundg (t.f0.length - (i + 1))
      case measure => have := HX.out; have := HLT.out; omega
      case rel => exact ⟨i + 1, (by first | exact val_step HLT.out HM0.out | rfl), ⟨by have := HLT.out; omega, by have := HX.out; have := HLT.out; omega⟩, S2⟩
    · have hlti : ¬ (i : Int) < t.f0.length := by omega
      clear HX
      go_wp2
      clear a0 y0 b0 z0
      go_loopg [6, 7] t.f1.length (fun gg s6 _ wr => ∃ i : Nat, s6 = .int .i64 i ∧ Aside0 (i ≤ t.f1.length ∧ t.f1.length - i ≤ gg) ∧ Aside0 (Parts w.heap.size w wr [pB (w.heap.size + 1) 57 #[.slice QA t.f0.length qa, .slice QB t.f1.length qb], pB w.heap.size 57 #[.slice PA t.f0.length pa, .slice PB t.f1.length pb]]))
      case atStart => exact ⟨0, rfl, ⟨by omega, by omega⟩, S⟩
      case round =>
        clear S hlt hlti
        obtain ⟨k, rfl, HK, S⟩ := hrel
        obtain ⟨a1, y1⟩ := S.out.cell 1 rfl 1 rfl
        obtain ⟨b1, z1⟩ := S.out.cell 0 rfl 1 rfl
        by_cases hlt : k < t.f1.length
        · obtain ⟨ad, C, c, e1, hxq, hC⟩ := at_row H1.out.s1.r k hlt
          obtain ⟨bd, D, d, e2, hyq, hD⟩ := at_row H2.out.s1.r k hlt
          cases e1
          cases e2
          have hxW := Aside0.mk (fun W (hb : Below w.heap.size w W) => pw_cell_below hb hxq)
          have hyW := Aside0.mk (fun W (hb : Below w.heap.size w W) => pw_cell_below hb hyq)
          have hx := hxW.out _ S.out.B
          have hy := hyW.out _ S.out.B
          have hltk : (k : Int) < t.f1.length := by omega
          have HLK := Aside0.mk hlt
          have HC := Aside0.mk hC
          have HD := Aside0.mk hD
          have HM2 := Aside0.mk hC.max
          clear hC hD hxq hyq
          generalize t.f1[k] = r at *
          clear hlt
          go_wp2
          go_quiet (fail)
          have S2 := Aside0.mk (S.out.below (pw_below_drewN (Below.refl _ _) nq))
          clear a1 y1 b1 z1 hx hy S
          generalize wr.drewN nq = w3 at *
          have hxx : ((r.length : Int) != (r.length : Int)) = false := by simp
          go_wp2
          go_loopg [7] r.length (fun gg s7 wr => ∃ j : Nat, s7 = .int .i64 j ∧ Aside0 (j ≤ r.length ∧ r.length - j ≤ gg) ∧ Aside0 (Parts w.heap.size w wr [pB (w.heap.size + 1) 57 #[.slice QA t.f0.length qa, .slice (some bd) t.f1.length qb], pB w.heap.size 57 #[.slice PA t.f0.length pa, .slice (some ad) t.f1.length pb]]))
          case atStart => exact ⟨0, rfl, ⟨by omega, by omega⟩, S2⟩
          case round =>
            clear S2
            obtain ⟨j, rfl, HJ, S⟩ := hrel
            obtain ⟨a1, y1⟩ := S.out.cell 1 rfl 1 rfl
            obtain ⟨b1, z1⟩ := S.out.cell 0 rfl 1 rfl
            have hx := hxW.out _ S.out.B
            have hy := hyW.out _ S.out.B
            by_cases hlt : j < r.length
            · obtain ⟨cd, e3, hu⟩ := at_bool (HC.out.below S.out.B).r j hlt
              obtain ⟨dd, e4, hv⟩ := at_bool (HD.out.below S.out.B).r j hlt
              cases e3
              cases e4
              have hltj : (j : Int) < r.length := by omega
              have HLJ := Aside0.mk hlt
              generalize r[j] = x at *
              clear hlt
              go_wp2
              go_quiet (fail)
              have S3 := Aside0.mk (S.out.below (pw_below_drewN (Below.refl _ _) nq))
              clear a1 y1 b1 z1 hx hy hu hv S
              generalize wr.drewN nq = w4 at *
              have hxx : (x != x) = false := by cases x <;> rfl
              go_wp2
              go_roundg (r.length - (j + 1))
              case measure => have := HJ.out; have := HLJ.out; omega
              case rel => exact ⟨j + 1, (by first | exact val_step HLJ.out HM2.out | rfl), ⟨by have := HLJ.out; omega, by have := HJ.out; have := HLJ.out; omega⟩, S3⟩
            · have hltj : ¬ (j : Int) < r.length := by omega
              go_upto_region 10 with (fail)
              go_wp2
              go_roundg (t.f1.length - (k + 1))
              case measure => have := HK.out; have := HLK.out; omega
              case rel => exact ⟨k + 1, (by first | exact val_step HLK.out HM1.out | rfl), ⟨by have := HLK.out; omega, by have := HK.out; have := HLK.out; omega⟩, S⟩
        · have hltk : ¬ (k : Int) < t.f1.length := by omega
          go_wp2
          go_ret
          exact ⟨rfl, S.out.B⟩
/-- A run that is not great. -/
def smallT (t : Run) : Prop := t.f0.length ≤ 60 ∧ t.f1.length ≤ 110
set_option maxHeartbeats 4000000 in
set_option maxRecDepth 100000 in
theorem ref25_GreatTrace (p : TP) (t : Run) (w : World) (h1 : RT w p t) :
    Calls Try.prog 22 #[tv p t] w fun e w' => SomeB (fun b => b = false → smallT t) w w' e := by
  obtain ⟨PA, pa, PB, pb⟩ := p
  have H1 := Aside0.mk h1
  have HM1 := Aside0.mk h1.s1.max
  have hu57 := Try.underlying57
  have S0 := Aside0.mk ((Parts.start w).new 57 #[.slice PA t.f0.length pa, .slice PB t.f1.length pb])
  clear h1
  go_enter Try.func22, Try.ntmps22
  go_upto_region 1 with (fail)
  obtain ⟨w1, hw1⟩ : ∃ W, w.alloc (.cells #[.slice PA t.f0.length pa, .slice PB t.f1.length pb] 57) = W := ⟨_, rfl⟩
  rw [hw1] at S0 ⊢
  clear hw1
  go_wp2
  go_loopg [3] t.f1.length (fun gg s3 wr => ∃ i : Nat, s3 = .int .i64 i ∧ Aside0 (i ≤ t.f1.length ∧ t.f1.length - i ≤ gg) ∧ Aside0 (Parts w.heap.size w wr [pB w.heap.size 57 #[.slice PA t.f0.length pa, .slice PB t.f1.length pb]]))
  case atStart => exact ⟨0, rfl, ⟨by omega, by omega⟩, S0⟩
  case round =>
    clear S0
    obtain ⟨i, rfl, HX, S⟩ := hrel
    obtain ⟨a0, y0⟩ := S.out.cell 0 rfl 0 rfl
    obtain ⟨a1, y1⟩ := S.out.cell 0 rfl 1 rfl
    by_cases hlt : i < t.f1.length
    · obtain ⟨ad, C, c, e1, hx, hC⟩ := at_row (H1.out.s1.below S.out.B).r i hlt
      cases e1
      have hlti : (i : Int) < t.f1.length := by omega
      have HLT := Aside0.mk hlt
      generalize t.f1[i] = r at *
      clear hlt hC
      go_wp2
      all_goals
        first
        | (go_ret; exact ⟨_, rfl, (fun h => by first | (cases h) | (unfold smallT; simp at h; omega)), S.out.B⟩)
        | (go_roundg (t.f1.length - (i + 1))
           case measure => have := HX.out; have := HLT.out; omega
           case rel => exact ⟨i + 1, (by first | exact val_step HLT.out HM1.out | rfl), ⟨by have := HLT.out; omega, by have := HX.out; have := HLT.out; omega⟩, S⟩)
    · have hlti : ¬ (i : Int) < t.f1.length := by omega
      go_wp2
      all_goals
        go_ret
        exact ⟨_, rfl, (fun h => by first | (cases h) | (unfold smallT; simp at h; omega)), S.out.B⟩
end Go.Proofs.Ytlhiapggccgggaa.PH
