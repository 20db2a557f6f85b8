/- ref06.Starts, First, Check. -/
import Derived.Test.YtchhbkicplgmhaaHGreat6
namespace Go.Proofs.Ytchhbkicplgmhaa.PH
open Go.RowKit Go.Proofs.YtchhbkicplgmhaaW.PrintWords Go.Proofs.YtchhbkicplgmhaaW.PrintLast
set_option linter.unusedVariables false
set_option linter.unusedSimpArgs false

set_option maxHeartbeats 4000000 in
set_option maxRecDepth 100000 in
theorem ref06_Starts (p : CP) (c : Circ) (B : Option Addr) (d : Nat) (st : List Bool) (w : World) (h : RC w p c) (h1 : RS Kd.bool w B d st) (hl : st.length = c.f1.length) (hrs : ∀ x ∈ c.f1, 0 ≤ x.f1 ∧ x.f1 ≤ 2) :
    Calls Try.prog 37 #[cv p c, .slice B st.length d] w fun e w' => e = .returned (.bool (startsB c st)) ∧ Below w.heap.size w w' := by
  obtain ⟨A1, k1, A2, k2, A3, k3, A4, k4⟩ := p
  have HR := Aside0.mk h
  have HS := Aside0.mk h1
  have HM := Aside0.mk h1.max
  have HL := Aside0.mk hl
  have HRR := Aside0.mk hrs
  have BX := Aside0.mk (below_alloc (Below.refl w.heap.size w) (.cells #[.int .i64 c.f0, .slice A1 c.f1.length k1, .slice A2 c.f2.length k2, .slice A3 c.f3.length k3, .slice A4 c.f4.length k4] 26))
  have HB := Aside0.mk (blk_new w (.cells #[.int .i64 c.f0, .slice A1 c.f1.length k1, .slice A2 c.f2.length k2, .slice A3 c.f3.length k3, .slice A4 c.f4.length k4] 26))
  have hu26 := Try.underlying26
  have hu65 := Try.underlying65
  obtain ⟨r, hr⟩ : ∃ r, startsB c st = r := ⟨_, rfl⟩
  rw [hr]
  have H0 := Aside0.mk (show ((c.f1.zip st).drop 0).all startOk = r from hr)
  obtain ⟨g0, g1, g2, g3, g4⟩ := (blk5w HB.out).1
  clear h h1 hl hr hrs
  dsimp only [cv] at *
  go_enter Try.func37, Try.ntmps37
  go_wp2
  go_loopg [5] st.length (fun gg s5 wr => ∃ k : Nat, s5 = .int .i64 k ∧ Aside0 (k ≤ st.length ∧ st.length - k ≤ gg) ∧ wr = w.alloc (.cells #[.int .i64 c.f0, .slice A1 c.f1.length k1, .slice A2 c.f2.length k2, .slice A3 c.f3.length k3, .slice A4 c.f4.length k4] 26) ∧ Aside0 (((c.f1.zip st).drop k).all startOk = r))
  case atStart => exact ⟨0, rfl, ⟨by omega, by omega⟩, rfl, H0⟩
  case round =>
    clear H0
    obtain ⟨k, rfl, HX, rfl, HA⟩ := hrel
    by_cases hlt : k < st.length
    · have hlt2 : k < c.f1.length := by rw [← HL.out]; exact hlt
      obtain ⟨ad, e1, hx, hy⟩ := at_latch (HR.out.below BX.out).s1.r k hlt2
      obtain ⟨ad2, e2, hz⟩ := at_bool (HS.out.below BX.out).r k hlt
      have HQ := Aside0.mk ((zip_at HL.out hlt2).symm.trans HA.out)
      have HRS := Aside0.mk (HRR.out c.f1[k] (List.getElem_mem hlt2))
      have HLT := Aside0.mk hlt
      generalize c.f1[k] = x at *
      generalize st[k] = b at *
      cases e1
      cases e2
      cases b with
      | true =>
        by_cases hb : x.f1 = 0
        · have hbd : (x.f1 == 0) = true := by rw [hb]; rfl
          have HSO := Aside0.mk (show startOk (x, true) = false by unfold startOk; simp [hb])
          have HRV := Aside0.mk (show r = false by have h_ := HQ.out; rw [HSO.out, Bool.false_and] at h_; exact h_.symm)
          clear hb
          go_wp2
          go_ret
          exact ⟨by rw [HRV.out]; rfl, BX.out⟩
        · have hbd : (x.f1 == 0) = false := beq_eq_false_iff_ne.mpr hb
          have HSO := Aside0.mk (show startOk (x, true) = true by
            have h_ := HRS.out
            have h2 : x.f1 = 1 ∨ x.f1 = 2 := by omega
            unfold startOk
            rcases h2 with h2 | h2 <;> simp [h2])
          have HRV := Aside0.mk (show ((c.f1.zip st).drop (k + 1)).all startOk = r by have h_ := HQ.out; rw [HSO.out, Bool.true_and] at h_; exact h_)
          clear hb
          go_wp2
          go_roundg (st.length - (k + 1))
          case measure => have := HX.out; have := HLT.out; omega
          case rel => exact ⟨k + 1, val_step HLT.out HM.out, ⟨HLT.out, by have := HX.out; omega⟩, rfl, HRV⟩
      | false =>
        by_cases hb : x.f1 = 1
        · have hbd : (x.f1 == 1) = true := by rw [hb]; rfl
          have HSO := Aside0.mk (show startOk (x, false) = false by unfold startOk; simp [hb])
          have HRV := Aside0.mk (show r = false by have h_ := HQ.out; rw [HSO.out, Bool.false_and] at h_; exact h_.symm)
          clear hb
          go_wp2
          go_ret
          exact ⟨by rw [HRV.out]; rfl, BX.out⟩
        · have hbd : (x.f1 == 1) = false := beq_eq_false_iff_ne.mpr hb
          have HSO := Aside0.mk (show startOk (x, false) = true by
            unfold startOk
            simp [hb])
          have HRV := Aside0.mk (show ((c.f1.zip st).drop (k + 1)).all startOk = r by have h_ := HQ.out; rw [HSO.out, Bool.true_and] at h_; exact h_)
          clear hb
          go_wp2
          go_roundg (st.length - (k + 1))
          case measure => have := HX.out; have := HLT.out; omega
          case rel => exact ⟨k + 1, val_step HLT.out HM.out, ⟨HLT.out, by have := HX.out; omega⟩, rfl, HRV⟩
    · have hk : k = st.length := by have := HX.out; omega
      have HQ2 := Aside0.mk (show r = true by
        have h_ := HA.out
        rw [List.drop_of_length_le (by rw [List.length_zip]; omega)] at h_
        exact h_.symm)
      clear hk
      go_wp2
      go_ret
      exact ⟨by rw [HQ2.out]; rfl, BX.out⟩
set_option maxHeartbeats 4000000 in
set_option maxRecDepth 100000 in
theorem ref06_First (p : CP) (c : Circ) (B : Option Addr) (d : Nat) (st : List Bool) (w : World) (h : RC w p c) (hs : c.Fits) (h1 : RS Kd.bool w B d st) :
    Calls Try.prog 14 #[cv p c, .slice B st.length d] w fun e w' => RetBI w w' (firstB c st) e := by
  have HR := Aside0.mk h
  have HS := Aside0.mk h1
  have HF := Aside0.mk hs
  have BX := Aside0.mk (below_alloc (Below.refl w.heap.size w) (.cells #[.int .i64 c.f0, .slice p.A1 c.f1.length p.c1, .slice p.A2 c.f2.length p.c2, .slice p.A3 c.f3.length p.c3, .slice p.A4 c.f4.length p.c4] 26))
  have HB := Aside0.mk (blk_new w (.cells #[.int .i64 c.f0, .slice p.A1 c.f1.length p.c1, .slice p.A2 c.f2.length p.c2, .slice p.A3 c.f3.length p.c3, .slice p.A4 c.f4.length p.c4] 26))
  have hu26 := Try.underlying26
  obtain ⟨g0, g1, g2, g3, g4⟩ := (blk5w HB.out).1
  obtain ⟨r, hr⟩ : ∃ r, firstB c st = r := ⟨_, rfl⟩
  rw [hr]
  have HRR := Aside0.mk hr
  clear h hs h1 hr
  go_enter Try.func14, Try.ntmps14
  go_wp2_with fail
  refine (ref02_Check p c _ (HR.out.below BX.out) HF.out).mono ?_
  rintro e w1 ⟨rfl, hb1⟩
  have BX1 := Aside0.mk (BX.out.trans (hb1.mono BX.out.size))
  have HB1 := Aside0.mk (blk_below HB.out hb1)
  clear hb1 g0 g1 g2 g3 g4
  obtain ⟨g0, g1, g2, g3, g4⟩ := (blk5w HB1.out).1
  by_cases hc : check c = 0
  · rw [hc]
    by_cases hl : st.length = c.f1.length
    · have hld : ((st.length : Int) != (c.f1.length : Int)) = false := bne_eq_false_iff_eq.mpr (by omega)
      have HRV := Aside0.mk (show r = (startsB c st, 0) by rw [← HRR.out]; unfold firstB; rw [if_neg (by simp [hc]), if_neg (by simp [hl])])
      have HL := Aside0.mk hl
      have HRS := Aside0.mk (check_lits hc).2
      clear hl hc
      go_wp2_with fail
      refine (ref06_Starts p c B d st _ (HR.out.below BX1.out) (HS.out.below BX1.out) HL.out HRS.out).mono ?_
      rintro e w2 ⟨rfl, hb2⟩
      have BX2 := Aside0.mk (BX1.out.trans (hb2.mono BX1.out.size))
      clear hb2
      go_wp2
      refine bodyPost_ret (results_tmp2 rfl _ _ _) rfl ?_
      exact ⟨by rw [HRV.out]; rfl, BX2.out⟩
    · have hld : ((st.length : Int) != (c.f1.length : Int)) = true := bne_iff_ne.mpr (by omega)
      have HRV := Aside0.mk (show r = (false, 2) by rw [← HRR.out]; unfold firstB; rw [if_neg (by simp [hc]), if_pos hl])
      clear hl hc
      go_wp2
      refine bodyPost_ret (results_tmp2 rfl _ _ _) rfl ?_
      exact ⟨by rw [HRV.out]; rfl, BX1.out⟩
  · have hcd : (check c != 0) = true := bne_iff_ne.mpr hc
    have HRV := Aside0.mk (show r = (false, check c) by rw [← HRR.out]; unfold firstB; rw [if_pos hc])
    clear hc
    go_wp2_with fail
    refine (ref02_Check p c _ (HR.out.below BX1.out) HF.out).mono ?_
    rintro e w2 ⟨rfl, hb2⟩
    have BX2 := Aside0.mk (BX1.out.trans (hb2.mono BX1.out.size))
    clear hb2
    go_wp2
    refine bodyPost_ret (results_tmp2 rfl _ _ _) rfl ?_
    exact ⟨by rw [HRV.out]; rfl, BX2.out⟩
set_option maxHeartbeats 4000000 in
set_option maxRecDepth 100000 in
theorem ref06_Check (p : CP) (c : Circ) (q : TP) (t : Run) (w : World) (h : RC w p c) (hs : c.Fits) (ht : RT w q t) :
    Calls Try.prog 20 #[cv p c, tv q t] w fun e w' => e = .returned (.int .i64 (tCheck c t)) ∧ Below w.heap.size w w' := by
  obtain ⟨QA0, QC0, QA1, QC1⟩ := q
  have HR := Aside0.mk h
  have HT := Aside0.mk ht
  have HF := Aside0.mk hs
  have HM := Aside0.mk ht.s1.max
  have I := Aside0.mk (CkInv.start w p c ⟨QA0, QC0, QA1, QC1⟩ t)
  have hu26 := Try.underlying26
  have hu30 := Try.underlying30
  obtain ⟨g0, g1, g2, g3, g4⟩ := (blk5w I.out.B0).1
  obtain ⟨u0, u1⟩ := (blk2t I.out.B1).1
  obtain ⟨r, hr⟩ : ∃ r, tCheck c t = r := ⟨_, rfl⟩
  rw [hr]
  have HRR := Aside0.mk hr
  clear h hs ht hr
  dsimp only [tv] at *
  go_enter Try.func20, Try.ntmps20
  go_wp2_with fail
  refine (ref02_Check p c _ (HR.out.below I.out.BW) HF.out).mono ?_
  rintro e w1 ⟨rfl, hb1⟩
  have I := Aside0.mk (I.out.below hb1)
  clear hb1 g0 g1 g2 g3 g4 u0 u1
  obtain ⟨g0, g1, g2, g3, g4⟩ := (blk5w I.out.B0).1
  obtain ⟨u0, u1⟩ := (blk2t I.out.B1).1
  by_cases hc : check c = 0
  case neg =>
    have hcd : (check c != 0) = true := bne_iff_ne.mpr hc
    have HRV := Aside0.mk (show r = check c by rw [← HRR.out]; unfold tCheck; rw [if_pos hc])
    clear hc
    go_wp2_with fail
    refine (ref02_Check p c _ (HR.out.below I.out.BW) HF.out).mono ?_
    rintro e w2 ⟨rfl, hb2⟩
    have I := Aside0.mk (I.out.below hb2)
    clear hb2
    go_wp2
    go_ret
    exact ⟨by rw [HRV.out]; rfl, I.out.BW⟩
  rw [hc]
  have HC := Aside0.mk hc
  clear hc
  by_cases h100 : 100 < t.f1.length
  · have h100d : decide (100 < (t.f1.length : Int)) = true := decide_eq_true (by omega)
    have HRV := Aside0.mk (show r = 4 by rw [← HRR.out]; unfold tCheck; rw [if_neg (by simp [HC.out]), if_pos h100])
    go_wp2
    go_ret
    exact ⟨by rw [HRV.out]; rfl, I.out.BW⟩
  have H100 := Aside0.mk h100
  have h100d : decide (100 < (t.f1.length : Int)) = false := decide_eq_false (by omega)
  by_cases h0 : t.f1.length = 0
  · have h0d : ((t.f1.length : Int) == 0) = true := by rw [h0]; rfl
    have HRV := Aside0.mk (show r = 8 by rw [← HRR.out]; unfold tCheck; rw [if_neg (by simp [HC.out]), if_neg H100.out, if_pos h0])
    clear h0
    go_wp2
    go_ret
    exact ⟨by rw [HRV.out]; rfl, I.out.BW⟩
  have H0 := Aside0.mk h0
  have h0d : ((t.f1.length : Int) == 0) = false := by rw [beq_eq_false_iff_ne]; omega
  by_cases hl : t.f0.length = c.f1.length
  case neg =>
    have hld : ((t.f0.length : Int) != (c.f1.length : Int)) = true := bne_iff_ne.mpr (by omega)
    have HRV := Aside0.mk (show r = 8 by rw [← HRR.out]; unfold tCheck; rw [if_neg (by simp [HC.out]), if_neg H100.out, if_neg H0.out, if_pos hl])
    clear hl h0
    go_wp2
    go_ret
    exact ⟨by rw [HRV.out]; rfl, I.out.BW⟩
  have hld : ((t.f0.length : Int) != (c.f1.length : Int)) = false := bne_eq_false_iff_eq.mpr (by omega)
  have HL := Aside0.mk hl
  have HRS := Aside0.mk (check_lits HC.out).2
  clear hl h0 h100
  go_wp2_with fail
  refine (ref06_Starts p c QA0 QC0 t.f0 _ (HR.out.below I.out.BW) (HT.out.below I.out.BW).s0 HL.out HRS.out).mono ?_
  rintro e w2 ⟨rfl, hb2⟩
  have I := Aside0.mk (I.out.below hb2)
  clear hb2 g0 g1 g2 g3 g4 u0 u1
  obtain ⟨g0, g1, g2, g3, g4⟩ := (blk5w I.out.B0).1
  obtain ⟨u0, u1⟩ := (blk2t I.out.B1).1
  cases hst : startsB c t.f0 with
  | false =>
    have HRV := Aside0.mk (show r = 8 by rw [← HRR.out]; unfold tCheck; rw [if_neg (by simp [HC.out]), if_neg H100.out, if_neg H0.out, if_neg (by simp [HL.out]), if_pos hst])
    clear hst
    go_wp2
    go_ret
    exact ⟨by rw [HRV.out]; rfl, I.out.BW⟩
  | true =>
  have HRV := Aside0.mk (show r = (if t.f1.any (fun l => (l.length : Int) != c.f0) = true then 8 else 0) by rw [← HRR.out]; unfold tCheck; rw [if_neg (by simp [HC.out]), if_neg H100.out, if_neg H0.out, if_neg (by simp [HL.out]), if_neg (by simp [hst])])
  clear hst
  go_wp2
  clear g0 g1 g2 g3 g4 u0 u1
  go_loopg [5] t.f1.length (fun gg s5 wr => ∃ k : Nat, s5 = .int .i64 k ∧ Aside0 (k ≤ t.f1.length ∧ t.f1.length - k ≤ gg) ∧ Aside0 (CkInv w p c ⟨QA0, QC0, QA1, QC1⟩ t wr) ∧ Aside0 (t.f1.any (fun l => (l.length : Int) != c.f0) = (t.f1.drop k).any (fun l => (l.length : Int) != c.f0)))
  case atStart => exact ⟨0, rfl, ⟨by omega, by omega⟩, I, ⟨rfl⟩⟩
  case round =>
    clear I
    obtain ⟨k, rfl, HX, K, HA⟩ := hrel
    obtain ⟨g0, g1, g2, g3, g4⟩ := (blk5w K.out.B0).1
    obtain ⟨u0, u1⟩ := (blk2t K.out.B1).1
    by_cases hlt : k < t.f1.length
    · obtain ⟨ad, Ax, cx, e1, hx, hrx⟩ := at_row (HT.out.below K.out.BW).s1.r k hlt
      have HQ := Aside0.mk (HA.out.trans (any_step (q := fun l => (l.length : Int) != c.f0) hlt))
      have HLT := Aside0.mk hlt
      generalize t.f1[k] = x at *
      cases e1
      clear hrx
      have K2 := Aside0.mk (fun n => K.out.below (pw_below_drewN (Below.refl _ _) n))
      cases hq : ((x.length : Int) != c.f0) with
      | true =>
        have HRW := Aside0.mk (show r = 8 by rw [HRV.out, HQ.out, hq]; rfl)
        go_wp2
        go_quiet (fail)
        go_wp2
        go_ret
        exact ⟨by rw [HRW.out]; rfl, (K2.out _).BW⟩
      | false =>
        have HQ2 := Aside0.mk (show t.f1.any (fun l => (l.length : Int) != c.f0) = (t.f1.drop (k + 1)).any (fun l => (l.length : Int) != c.f0) by rw [HQ.out, hq]; rfl)
        go_wp2
        go_quiet (fail)
        go_wp2
        go_roundg (t.f1.length - (k + 1))
        case measure => have := HX.out; have := HLT.out; omega
        case rel => exact ⟨k + 1, val_step HLT.out HM.out, ⟨HLT.out, by have := HX.out; omega⟩, ⟨K2.out _⟩, HQ2⟩
    · have hk : k = t.f1.length := by have := HX.out; omega
      have HRW := Aside0.mk (show r = 0 by rw [HRV.out, HA.out, hk, List.drop_length]; rfl)
      clear hk
      go_wp2
      go_ret
      exact ⟨by rw [HRW.out]; rfl, K.out.BW⟩
end Go.Proofs.Ytchhbkicplgmhaa.PH
