/- traces.starts, First, Check. -/
import Derived.Test.YtchhbkicplgmhaaHProps
import Derived.Test.YtchhbkicplgmhaaHRows
namespace Go.Proofs.Ytchhbkicplgmhaa.PH
open Go.RowKit Go.Proofs.YtchhbkicplgmhaaW.PrintWords Go.Proofs.YtchhbkicplgmhaaW.PrintLast
set_option linter.unusedVariables false
set_option linter.unusedSimpArgs false

theorem zip_at {c : Circ} {st : List Bool} (h : st.length = c.f1.length) {k : Nat} (hk : k < c.f1.length) : ((c.f1.zip st).drop k).all startOk = (startOk (c.f1[k], st[k]'(by omega)) && ((c.f1.zip st).drop (k + 1)).all startOk) := by
  have hz : k < (c.f1.zip st).length := by rw [List.length_zip]; omega
  rw [all_step hz, List.getElem_zip]
set_option maxHeartbeats 4000000 in
set_option maxRecDepth 100000 in
theorem traces_starts (p : CP) (c : Circ) (B : Option Addr) (d : Nat) (st : List Bool) (w : World) (h : RC w p c) (h1 : RS Kd.bool w B d st) (hl : st.length = c.f1.length) :
    Calls Try.prog 35 #[cv p c, .slice B st.length d] w fun e w' => e = .returned (.bool (startsB c st)) ∧ Below w.heap.size w w' := by
  obtain ⟨A1, k1, A2, k2, A3, k3, A4, k4⟩ := p
  have HR := Aside0.mk h
  have HS := Aside0.mk h1
  have HM := Aside0.mk h.s1.max
  have HL := Aside0.mk hl
  have BX := Aside0.mk (below_alloc (Below.refl w.heap.size w) (.cells #[.int .i64 c.f0, .slice A1 c.f1.length k1, .slice A2 c.f2.length k2, .slice A3 c.f3.length k3, .slice A4 c.f4.length k4] 26))
  have hu26 := Try.underlying26
  have hu65 := Try.underlying65
  obtain ⟨r, hr⟩ : ∃ r, startsB c st = r := ⟨_, rfl⟩
  rw [hr]
  have H0 := Aside0.mk (show ((c.f1.zip st).drop 0).all startOk = r from hr)
  clear h h1 hl hr
  dsimp only [cv] at *
  go_enter Try.func35, Try.ntmps35
  go_wp2
  go_loopg [5, 6, 10] c.f1.length (fun gg s5 s6 s10 wr => ∃ k : Nat, s10 = .int .i64 k ∧ Aside0 (k ≤ c.f1.length ∧ c.f1.length - k ≤ gg) ∧ Aside0 (Below w.heap.size w wr) ∧ Aside0 (((c.f1.zip st).drop k).all startOk = r))
  case atStart => exact ⟨0, rfl, ⟨by omega, by omega⟩, BX, H0⟩
  case round =>
    clear BX H0
    obtain ⟨k, rfl, HX, BW, HA⟩ := hrel
    by_cases hlt : k < c.f1.length
    · obtain ⟨ad, e1, hx, hy⟩ := at_latch (HR.out.below BW.out).s1.r k hlt
      have HB2 := Aside0.mk (below_alloc BW.out (.cells #[.int .i64 c.f1[k].f0, .int .i64 c.f1[k].f1] 65))
      obtain ⟨ad2, e2, hz⟩ := at_bool (HS.out.below HB2.out).r k (by rw [HL.out]; exact hlt)
      have HQ := Aside0.mk ((zip_at HL.out hlt).symm.trans HA.out)
      have hlt2 : k < st.length := by rw [HL.out]; exact hlt
      have HLT := Aside0.mk hlt
      generalize c.f1[k] = x at *
      generalize st[k] = b at *
      cases e1
      cases e2
      by_cases h2 : x.f1 = 2
      · have h2d : (x.f1 != 2) = false := by simp [h2]
        have hso : startOk (x, b) = true := by simp [startOk, h2]
        have HQ2 := Aside0.mk (show ((c.f1.zip st).drop (k + 1)).all startOk = r by have h_ := HQ.out; rw [hso, Bool.true_and] at h_; exact h_)
        clear h2 hso
        go_wp2
        go_quiet (fail)
        go_wp2
        go_roundg (c.f1.length - (k + 1))
        case measure => have := HX.out; have := HLT.out; omega
        case rel => exact ⟨k + 1, val_step HLT.out HM.out, ⟨HLT.out, by have := HX.out; omega⟩, ⟨pw_below_drewN HB2.out _⟩, HQ2⟩
      · have h2d : (x.f1 != 2) = true := by simp [h2]
        cases hq : (!b == (x.f1 == 1)) with
        | true =>
          have hso : startOk (x, b) = false := by
            unfold startOk
            cases b <;> cases h1 : (x.f1 == 1) <;> simp_all
          have HQ2 := Aside0.mk (show r = false by have h_ := HQ.out; rw [hso, Bool.false_and] at h_; exact h_.symm)
          clear h2 hso
          go_wp2
          go_quiet (fail)
          go_wp2
          go_ret
          exact ⟨by rw [HQ2.out]; rfl, pw_below_drewN HB2.out _⟩
        | false =>
          have hso : startOk (x, b) = true := by
            unfold startOk
            cases b <;> cases h1 : (x.f1 == 1) <;> simp_all
          have HQ2 := Aside0.mk (show ((c.f1.zip st).drop (k + 1)).all startOk = r by have h_ := HQ.out; rw [hso, Bool.true_and] at h_; exact h_)
          clear h2 hso
          go_wp2
          go_quiet (fail)
          go_wp2
          go_roundg (c.f1.length - (k + 1))
          case measure => have := HX.out; have := HLT.out; omega
          case rel => exact ⟨k + 1, val_step HLT.out HM.out, ⟨HLT.out, by have := HX.out; omega⟩, ⟨pw_below_drewN HB2.out _⟩, HQ2⟩
    · have hk : k = c.f1.length := by have := HX.out; omega
      have HQ2 := Aside0.mk (show r = true by
        have h_ := HA.out
        rw [List.drop_of_length_le (by rw [List.length_zip]; omega)] at h_
        exact h_.symm)
      clear hk
      go_wp2
      go_ret
      exact ⟨by rw [HQ2.out]; rfl, BW.out⟩
/-! ### traces.First -/
/-- What traces.First answers. -/
def firstB (c : Circ) (st : List Bool) : Bool × Int :=
  if check c ≠ 0 then (false, check c) else if st.length ≠ c.f1.length then (false, 2) else (startsB c st, 0)
def RetBI (w w' : World) (r : Bool × Int) (e : Ending) : Prop := e = .returned (.tuple #[.bool r.1, .int .i64 r.2]) ∧ Below w.heap.size w w'
set_option maxHeartbeats 4000000 in
set_option maxRecDepth 100000 in
theorem traces_First (p : CP) (c : Circ) (B : Option Addr) (d : Nat) (st : List Bool) (w : World) (h : RC w p c) (hs : c.Fits) (h1 : RS Kd.bool w B d st) :
    Calls Try.prog 13 #[cv p c, .slice B st.length d] w fun e w' => RetBI w w' (firstB c st) e := by
  have HR := Aside0.mk h
  have HS := Aside0.mk h1
  have HF := Aside0.mk hs
  have BX := Aside0.mk (below_alloc (Below.refl w.heap.size w) (.cells #[.int .i64 c.f0, .slice p.A1 c.f1.length p.c1, .slice p.A2 c.f2.length p.c2, .slice p.A3 c.f3.length p.c3, .slice p.A4 c.f4.length p.c4] 26))
  have HB := Aside0.mk (blk_new w (.cells #[.int .i64 c.f0, .slice p.A1 c.f1.length p.c1, .slice p.A2 c.f2.length p.c2, .slice p.A3 c.f3.length p.c3, .slice p.A4 c.f4.length p.c4] 26))
  have hu26 := Try.underlying26
  obtain ⟨g0, g1, g2, g3, g4⟩ := (blk5w HB.out).1
  obtain ⟨r, hr⟩ : ∃ r, firstB c st = r := ⟨_, rfl⟩
  rw [hr]
  have HRR := Aside0.mk hr
  clear h hs h1 hr
  go_enter Try.func13, Try.ntmps13
  go_wp2_with fail
  refine (gates_Check p c _ (HR.out.below BX.out) HF.out).mono ?_
  rintro e w1 ⟨rfl, hb1⟩
  have BX1 := Aside0.mk (BX.out.trans (hb1.mono BX.out.size))
  have HB1 := Aside0.mk (blk_below HB.out hb1)
  clear hb1 g0 g1 g2 g3 g4
  obtain ⟨g0, g1, g2, g3, g4⟩ := (blk5w HB1.out).1
  by_cases hc : check c = 0
  · rw [hc]
    by_cases hl : st.length = c.f1.length
    · have hld : ((st.length : Int) != (c.f1.length : Int)) = false := bne_eq_false_iff_eq.mpr (by omega)
      have HRV := Aside0.mk (show r = (startsB c st, 0) by rw [← HRR.out]; unfold firstB; rw [if_neg (by simp [hc]), if_neg (by simp [hl])])
      have HL := Aside0.mk hl
      clear hl hc
      go_wp2_with fail
      refine (traces_starts p c B d st _ (HR.out.below BX1.out) (HS.out.below BX1.out) HL.out).mono ?_
      rintro e w2 ⟨rfl, hb2⟩
      have BX2 := Aside0.mk (BX1.out.trans (hb2.mono BX1.out.size))
      clear hb2
      go_wp2
      refine bodyPost_ret (results_tmp2 rfl _ _ _) rfl ?_
      exact ⟨by rw [HRV.out]; rfl, BX2.out⟩
    · have hld : ((st.length : Int) != (c.f1.length : Int)) = true := bne_iff_ne.mpr (by omega)
      have HRV := Aside0.mk (show r = (false, 2) by rw [← HRR.out]; unfold firstB; rw [if_neg (by simp [hc]), if_pos hl])
      clear hl hc
      go_wp2
      refine bodyPost_ret (results_tmp2 rfl _ _ _) rfl ?_
      exact ⟨by rw [HRV.out]; rfl, BX1.out⟩
  · have hcd : (check c != 0) = true := bne_iff_ne.mpr hc
    have HRV := Aside0.mk (show r = (false, check c) by rw [← HRR.out]; unfold firstB; rw [if_pos hc])
    clear hc
    go_wp2
    refine bodyPost_ret (results_tmp2 rfl _ _ _) rfl ?_
    exact ⟨by rw [HRV.out]; rfl, BX1.out⟩
end Go.Proofs.Ytchhbkicplgmhaa.PH
