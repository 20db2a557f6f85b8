/- lift.fits: it answers liftOk. -/
import Derived.Test.YtpoadkogcdfglaaHLift1
namespace Go.Proofs.Ytpoadkogcdfglaa.PH
open Go.RowKit Go.Proofs.YtpoadkogcdfglaaW.PrintWords
set_option linter.unusedVariables false
set_option linter.unusedSimpArgs false

/-- The three boxed arguments, in a world that has grown. -/
structure FitBoxes (w wr : World) (p q : CP) (fr tc : Circ) (r : LP) (l : Lf) : Prop where
  b : Below w.heap.size w wr
  f : Box5 wr w.heap.size (.int .i64 fr.f0) (.slice p.A1 fr.f1.length p.c1) (.slice p.A2 fr.f2.length p.c2) (.slice p.A3 fr.f3.length p.c3) (.slice p.A4 fr.f4.length p.c4)
  t : Box5 wr (w.heap.size + 1) (.int .i64 tc.f0) (.slice q.A1 tc.f1.length q.c1) (.slice q.A2 tc.f2.length q.c2) (.slice q.A3 tc.f3.length q.c3) (.slice q.A4 tc.f4.length q.c4)
  l : Box7 wr (w.heap.size + 1 + 1) (.int .i64 l.f0) (.int .i64 l.f1) (.slice r.A2 l.f2.length r.c2) (.slice r.A3 l.f3.length r.c3) (.slice r.A4 l.f4.length r.c4) (.slice r.A5 l.f5.f0.length r.c5) (.int .i64 l.f5.f1)
theorem FitBoxes.below {w wr w2 : World} {p q : CP} {fr tc : Circ} {r : LP} {l : Lf} (h : FitBoxes w wr p q fr tc r l) (hb : Below wr.heap.size wr w2) : FitBoxes w w2 p q fr tc r l :=
  ⟨h.b.trans (hb.mono h.b.size), h.f.below hb, h.t.below hb, h.l.below hb⟩

theorem Box5.new (W : World) (v0 v1 v2 v3 v4 : Value) (t : TypeId) : Box5 (W.alloc (.cells #[v0, v1, v2, v3, v4] t)) W.heap.size v0 v1 v2 v3 v4 := ⟨by simp, by simp, by simp, by simp, by simp⟩
theorem Box7.new (W : World) (v0 v1 v2 v3 v4 v5 v6 : Value) (t : TypeId) : Box7 (W.alloc (.cells #[v0, v1, v2, v3, v4, v5, v6] t)) W.heap.size v0 v1 v2 v3 v4 v5 v6 := ⟨by simp, by simp, by simp, by simp, by simp, by simp, by simp⟩
theorem FitBoxes.new {w : World} {p q : CP} {fr tc : Circ} {r : LP} {l : Lf} {t1 t2 t3 : TypeId} : FitBoxes w (((w.alloc (.cells #[.int .i64 fr.f0, .slice p.A1 fr.f1.length p.c1, .slice p.A2 fr.f2.length p.c2, .slice p.A3 fr.f3.length p.c3, .slice p.A4 fr.f4.length p.c4] t1)).alloc (.cells #[.int .i64 tc.f0, .slice q.A1 tc.f1.length q.c1, .slice q.A2 tc.f2.length q.c2, .slice q.A3 tc.f3.length q.c3, .slice q.A4 tc.f4.length q.c4] t2)).alloc (.cells #[.int .i64 l.f0, .int .i64 l.f1, .slice r.A2 l.f2.length r.c2, .slice r.A3 l.f3.length r.c3, .slice r.A4 l.f4.length r.c4, .slice r.A5 l.f5.f0.length r.c5, .int .i64 l.f5.f1] t3)) p q fr tc r l :=
  ⟨below_alloc (below_alloc (below_alloc (Below.refl _ _) _) _) _, (Box5.new w _ _ _ _ _ _).below (below_alloc (below_alloc (Below.refl _ _) _) _),
    by simpa using (Box5.new (w.alloc _) _ _ _ _ _ _).below (below_alloc (Below.refl _ _) (.cells #[.int .i64 l.f0, .int .i64 l.f1, .slice r.A2 l.f2.length r.c2, .slice r.A3 l.f3.length r.c3, .slice r.A4 l.f4.length r.c4, .slice r.A5 l.f5.f0.length r.c5, .int .i64 l.f5.f1] t3)), by simpa using Box7.new ((w.alloc _).alloc _) _ _ _ _ _ _ _ _⟩
set_option maxHeartbeats 8000000 in
set_option maxRecDepth 100000 in
theorem lift_fits (p q : CP) (fr tc : Circ) (r : LP) (l : Lf) (w : World) (hr : RL w r l) (hl : l.Fits) (c1 : check fr = 0) (c2 : check tc = 0) (hf1 : fr.f1.length ≤ 4000000) (hf2 : tc.f1.length ≤ 4000000) :
    Calls Try.prog 51 #[cv p fr, cv q tc, lv r l] w fun e w' => e = .returned (.bool (liftOk fr tc l)) ∧ Below w.heap.size w w' := by
  obtain ⟨a0, a1, a2⟩ := gCheck_ok c1
  obtain ⟨b0, b1, b2⟩ := gCheck_ok c2
  have HIF := Aside0.mk (fun x W => lift_isLatch p fr x W a0 a1 hf1)
  have HIT := Aside0.mk (fun x W => lift_isLatch q tc x W b0 b1 hf2)
  obtain ⟨A2, k2, A3, k3, A4, k4, A5, k5⟩ := r
  obtain ⟨s2, s3, s4, s5⟩ := hr
  dsimp only at s2 s3 s4 s5
  have HS2 := Aside0.mk s2
  have HS3 := Aside0.mk s3
  have HS4 := Aside0.mk s4
  have HS5 := Aside0.mk s5
  have HL := Aside0.mk hl
  have HT0 := Aside0.mk b0
  have HT1 := Aside0.mk b1
  have HWR := Aside0.mk (fun (h0 : 0 ≤ l.f0) (h1 : l.f0 ≤ 100) (h2 : 1 ≤ l.f1) (h3 : l.f1 ≤ 4) => wrap_in (x := l.f0 + l.f1) (by omega) (by omega))
  have HW2 := Aside0.mk (show wrap64 (2 * tc.f0) = 2 * tc.f0 by rw [wrap_in (by omega) (by omega)])
  obtain ⟨R, hR⟩ : ∃ b, liftOk fr tc l = b := ⟨_, rfl⟩
  rw [hR]
  unfold liftOk at hR
  have HR := Aside0.mk hR
  clear c1 c2 a0 a1 a2 b0 b1 b2 hf1 hf2 s2 s3 s4 s5 hl hR
  have hu26 := Try.underlying26
  have hu31 := Try.underlying33
  go_enter Try.func51, Try.ntmps51
  go_wp2
  all_goals try
    (go_ret
     refine ⟨ret_bool ?_, below_alloc (below_alloc (below_alloc (Below.refl _ _) _) _) _⟩
     rw [← HR.out, show headOk fr tc l = false by unfold headOk; rw [decide_eq_false_iff_not]; (try simp only [bne_iff_ne, ne_eq] at *); omega, Bool.false_and])
  have HH := Aside0.mk (show headOk fr tc l = true by unfold headOk; rw [decide_eq_true_iff]; simp only [bne_eq_false_iff_eq] at *; omega)
  have HR1 := Aside0.mk (show (l.f2.all (fOk tc) && (l.f3.all (rOk fr tc) && (l.f4.all (lOk fr) && decide (predCheck fr.f1.length l.f5 = 0)))) = R by rw [← HR.out, HH.out, Bool.true_and])
  have hz : ((l.f3.length : Int) != l.f0 + l.f1) = false := by assumption
  rw [hz]
  clear HR HH HWR
  have HM2 := Aside0.mk HS2.out.max
  have HM3 := Aside0.mk HS3.out.max
  have HM4 := Aside0.mk HS4.out.max
  obtain ⟨R1, hR1⟩ : ∃ b, l.f2.all (fOk tc) = b := ⟨_, rfl⟩
  rw [hR1] at HR1
  have HRA := Aside0.mk hR1
  clear hR1
  go_loopg [7, 68] l.f2.length (fun gg s7 s68 wr => ∃ (o : Bool) (k : Nat), s7 = .bool o ∧ s68 = .int .i64 k ∧ Aside0 (k ≤ l.f2.length ∧ l.f2.length - k ≤ gg) ∧ Aside0 (FitBoxes w wr p q fr tc ⟨A2, k2, A3, k3, A4, k4, A5, k5⟩ l) ∧ Aside0 ((o && (l.f2.drop k).all (fOk tc)) = R1))
  case atStart => exact ⟨true, 0, rfl, rfl, ⟨by omega, by omega⟩, ⟨FitBoxes.new (w := w) (p := p) (q := q) (fr := fr) (tc := tc) (r := ⟨A2, k2, A3, k3, A4, k4, A5, k5⟩) (l := l)⟩, HRA⟩
  case round =>
    obtain ⟨o, k, rfl, rfl, HX, FB, HA⟩ := hrel
    have hbl := FB.out.l.lt
    obtain ⟨t0, t1, t2, t3, t4⟩ := FB.out.t
    by_cases hlt : k < l.f2.length
    · obtain ⟨ad, e1, hx⟩ := at_int (HS2.out.below FB.out.b).r k hlt
      cases e1
      have HD := HA.out
      rw [all_step hlt] at HD
      have HLT := Aside0.mk hlt
      generalize l.f2[k] = x at *
      rw [show fOk tc x = (decide (x = 0) || (decide (x = 1) || isL tc x)) from rfl] at HD
      have HDD := Aside0.mk HD
      clear HA HD
      cases o with
      | false =>
        go_wp2
        go_roundg (l.f2.length - (k + 1))
        case measure => have := HX.out; have := HLT.out; omega
        case rel => exact ⟨false, k + 1, rfl, val_step HLT.out HM2.out, ⟨HLT.out, by have := HX.out; omega⟩, FB, ⟨by rw [← HDD.out]; simp⟩⟩
      | true =>
        by_cases x0 : x = 0
        · have x0b : (x == 0) = true := beq_iff_eq.mpr x0
          have HX0 := Aside0.mk x0
          clear x0
          go_wp2
          go_roundg (l.f2.length - (k + 1))
          case measure => have := HX.out; have := HLT.out; omega
          case rel => exact ⟨true, k + 1, rfl, val_step HLT.out HM2.out, ⟨HLT.out, by have := HX.out; omega⟩, FB, ⟨by rw [← HDD.out, decide_eq_true HX0.out]; simp⟩⟩
        · have x0b : (x == 0) = false := beq_eq_false_iff_ne.mpr x0
          have HX0 := Aside0.mk x0
          clear x0
          by_cases x1 : x = 1
          · have x1b : (x == 1) = true := beq_iff_eq.mpr x1
            have HX1 := Aside0.mk x1
            clear x1
            go_wp2
            go_roundg (l.f2.length - (k + 1))
            case measure => have := HX.out; have := HLT.out; omega
            case rel => exact ⟨true, k + 1, rfl, val_step HLT.out HM2.out, ⟨HLT.out, by have := HX.out; omega⟩, FB, ⟨by rw [← HDD.out, decide_eq_true HX1.out]; simp⟩⟩
          · have x1b : (x == 1) = false := beq_eq_false_iff_ne.mpr x1
            have HX1 := Aside0.mk x1
            clear x1
            go_wp2_with fail
            refine (HIT.out x _).mono ?_
            rintro e w5 ⟨rfl, hb5⟩
            have FB5 := Aside0.mk (FB.out.below hb5)
            clear hb5
            go_wp2
            go_roundg (l.f2.length - (k + 1))
            case measure => have := HX.out; have := HLT.out; omega
            case rel => exact ⟨isL tc x, k + 1, rfl, val_step HLT.out HM2.out, ⟨HLT.out, by have := HX.out; omega⟩, FB5, ⟨by rw [← HDD.out, decide_eq_false HX0.out, decide_eq_false HX1.out]; simp⟩⟩
    · have HE : k = l.f2.length := by have := HX.out.1; omega
      have HD := HA.out
      rw [HE, List.drop_length, List.all_nil, Bool.and_true] at HD
      subst HD
      obtain ⟨r0, r1, r2, r3, r4, r5, r6⟩ := FB.out.l
      clear HE HA
      obtain ⟨RJ, hRJ⟩ : ∃ b, l.f3.all (rOk fr tc) = b := ⟨_, rfl⟩
      rw [hRJ] at HR1
      have HRJ := Aside0.mk (show (o && l.f3.all (rOk fr tc)) = (o && RJ) by rw [hRJ])
      clear hRJ
      have FB0 := FB
      go_wp2
      go_loopg [7, 90] l.f3.length (fun gg s7 s90 wp => ∃ (o1 : Bool) (j : Nat), s7 = .bool o1 ∧ s90 = .int .i64 j ∧ Aside0 (j ≤ l.f3.length ∧ l.f3.length - j ≤ gg) ∧ Aside0 (wp = wr) ∧ Aside0 ((o1 && (l.f3.drop j).all (rOk fr tc)) = (o && RJ)))
      case atStart => exact ⟨o, 0, rfl, rfl, ⟨by omega, by omega⟩, ⟨rfl⟩, HRJ⟩
      case round =>
        obtain ⟨o1, j, rfl, rfl, HX2, HW, HA2⟩ := hrel
        obtain rfl := HW.out
        clear HW r0 r1 r2 r3 r4 r5 r6
        obtain ⟨f0, f1, f2, f3, f4⟩ := FB.out.f
        by_cases hlt2 : j < l.f3.length
        · obtain ⟨ad3, B, kr, e3, hrow, hRS⟩ := at_row (HS3.out.below FB.out.b).r j hlt2
          cases e3
          have HD := HA2.out
          rw [all_step hlt2] at HD
          have HLT2 := Aside0.mk hlt2
          have hiw := HL.out.i3 _ (List.getElem_mem hlt2)
          generalize l.f3[j] = row at *
          have HROW := Aside0.mk hRS
          have HIW := Aside0.mk hiw
          have HMR := Aside0.mk hRS.max
          rw [show rOk fr tc row = (decide ((row.length : Int) = fr.f0) && row.all (iOk tc)) from rfl] at HD
          obtain ⟨o', ho'⟩ : ∃ b, (o1 && decide ((row.length : Int) = fr.f0)) = b := ⟨_, rfl⟩
          have HDD := Aside0.mk (show ((o' && row.all (iOk tc)) && (l.f3.drop (j + 1)).all (rOk fr tc)) = (o && RJ) by rw [← HD, ← ho', Bool.and_assoc, Bool.and_assoc, Bool.and_assoc])
          obtain ⟨RI, hRI⟩ : ∃ b, (o' && row.all (iOk tc)) = b := ⟨_, rfl⟩
          rw [hRI] at HDD
          have HRI := Aside0.mk hRI
          have hlen : ((row.length : Int) == fr.f0) = decide ((row.length : Int) = fr.f0) := by rw [Bool.eq_iff_iff]; simp
          clear HA2 HD hiw hRS hRI
          generalize decide ((row.length : Int) = fr.f0) = dl at hlen ho'
          have HO' := Aside0.mk ho'
          clear ho'
          cases o1
          all_goals (try cases dl)
          all_goals
            have ho' := HO'.out
            simp only [Bool.false_and, Bool.true_and] at ho'
            subst ho'
            go_wp2
            go_loopg [7, 104] row.length (fun gg s7 s104 wq => ∃ (o2 : Bool) (m : Nat), s7 = .bool o2 ∧ s104 = .int .i64 m ∧ Aside0 (m ≤ row.length ∧ row.length - m ≤ gg) ∧ Aside0 (wq = wr) ∧ Aside0 ((o2 && (row.drop m).all (iOk tc)) = RI))
            case atStart => exact ⟨_, 0, rfl, rfl, ⟨by omega, by omega⟩, ⟨rfl⟩, HRI⟩
            case round =>
              clear hrow
              obtain ⟨o2, m, rfl, rfl, HX3, HW3, HA3⟩ := hrel
              obtain rfl := HW3.out
              clear HW3
              by_cases hlt3 : m < row.length
              · obtain ⟨adr, e1, hx⟩ := at_int HROW.out.r m hlt3
                cases e1
                have HD3 := HA3.out
                rw [all_step hlt3] at HD3
                have HLT3 := Aside0.mk hlt3
                have hwx := HIW.out _ (List.getElem_mem hlt3)
                generalize row[m] = x at *
                have HREM := Aside0.mk (rem_of hwx)
                have HDD3 := Aside0.mk HD3
                clear HA3 HD3 hwx
                cases o2 with
                | false =>
                  go_wp2
                  go_roundg (row.length - (m + 1))
                  case measure => have := HX3.out; have := HLT3.out; omega
                  case rel => exact ⟨false, m + 1, rfl, val_step HLT3.out HMR.out, ⟨HLT3.out, by have := HX3.out; omega⟩, ⟨rfl⟩, ⟨by rw [← HDD3.out]; simp⟩⟩
                | true =>
                  go_wp2
                  all_goals
                    go_roundg (row.length - (m + 1))
                    case measure => have := HX3.out; have := HLT3.out; omega
                    case rel =>
                      refine ⟨_, m + 1, rfl, val_step HLT3.out HMR.out, ⟨HLT3.out, by have := HX3.out; omega⟩, ⟨rfl⟩, ⟨?_⟩⟩
                      have hd := HDD3.out
                      rw [Bool.true_and] at hd
                      rw [← hd]
                      congr 1
                      have h1 := HREM.out; have h2 := HW2.out
                      unfold iOk
                      rw [Bool.eq_iff_iff]; simp; omega
              · have HE3 : m = row.length := by have := HX3.out.1; omega
                have HD3 := HA3.out
                rw [HE3, List.drop_length, List.all_nil, Bool.and_true] at HD3
                subst HD3
                clear HE3 HA3
                go_wp2
                go_roundg (l.f3.length - (j + 1))
                case measure => have := HX2.out; have := HLT2.out; omega
                case rel => exact ⟨o2, j + 1, rfl, val_step HLT2.out HM3.out, ⟨HLT2.out, by have := HX2.out; omega⟩, ⟨rfl⟩, HDD⟩
        · have HE2 : j = l.f3.length := by have := HX2.out.1; omega
          have HD2 := HA2.out
          rw [HE2, List.drop_length, List.all_nil, Bool.and_true] at HD2
          have HR2 := Aside0.mk (show (o1 && (l.f4.all (lOk fr) && decide (predCheck fr.f1.length l.f5 = 0))) = R by rw [HD2, Bool.and_assoc]; exact HR1.out)
          clear HE2 HA2 HD2 HRJ HR1
          obtain ⟨r0, r1, r2, r3, r4, r5, r6⟩ := FB.out.l
          go_wp2
          obtain ⟨RK, hRK⟩ : ∃ b, l.f4.all (lOk fr) = b := ⟨_, rfl⟩
          have HRK := Aside0.mk (show (o1 && l.f4.all (lOk fr)) = (o1 && RK) by rw [hRK])
          rw [hRK, ← Bool.and_assoc] at HR2
          clear hRK r0 r1 r2 r3 r4 r5 r6 f0 f1 f2 f3 f4
          go_loopg [7, 130] l.f4.length (fun gg s7 s130 wq => ∃ (o2 : Bool) (m : Nat), s7 = .bool o2 ∧ s130 = .int .i64 m ∧ Aside0 (m ≤ l.f4.length ∧ l.f4.length - m ≤ gg) ∧ Aside0 (FitBoxes w wq p q fr tc ⟨A2, k2, A3, k3, A4, k4, A5, k5⟩ l) ∧ Aside0 ((o2 && (l.f4.drop m).all (lOk fr)) = (o1 && RK)))
          case atStart => exact ⟨o1, 0, rfl, rfl, ⟨by omega, by omega⟩, FB, HRK⟩
          case round =>
            clear FB FB0
            obtain ⟨o2, m, rfl, rfl, HX2, FB, HA2⟩ := hrel
            have hbl := FB.out.l.lt
            obtain ⟨f0, f1, f2, f3, f4⟩ := FB.out.f
            by_cases hlt : m < l.f4.length
            · obtain ⟨ad, e1, hx⟩ := at_int (HS4.out.below FB.out.b).r m hlt
              cases e1
              have HD := HA2.out
              rw [all_step hlt] at HD
              have HLT := Aside0.mk hlt
              generalize l.f4[m] = x at *
              rw [show lOk fr x = (decide (x = -1) || isL fr x) from rfl] at HD
              have HDD := Aside0.mk HD
              clear HA2 HD
              cases o2 with
              | false =>
                go_wp2
                go_roundg (l.f4.length - (m + 1))
                case measure => have := HX2.out; have := HLT.out; omega
                case rel => exact ⟨false, m + 1, rfl, val_step HLT.out HM4.out, ⟨HLT.out, by have := HX2.out; omega⟩, FB, ⟨by rw [← HDD.out]; simp⟩⟩
              | true =>
                by_cases x0 : x = -1
                · have x0b : (x == -1) = true := beq_iff_eq.mpr x0
                  have HX0 := Aside0.mk x0
                  clear x0
                  go_wp2
                  go_roundg (l.f4.length - (m + 1))
                  case measure => have := HX2.out; have := HLT.out; omega
                  case rel => exact ⟨true, m + 1, rfl, val_step HLT.out HM4.out, ⟨HLT.out, by have := HX2.out; omega⟩, FB, ⟨by rw [← HDD.out, decide_eq_true HX0.out]; simp⟩⟩
                · have x0b : (x == -1) = false := beq_eq_false_iff_ne.mpr x0
                  have HX0 := Aside0.mk x0
                  clear x0
                  go_wp2_with fail
                  refine (HIF.out x _).mono ?_
                  rintro e w5 ⟨rfl, hb5⟩
                  have FB5 := Aside0.mk (FB.out.below hb5)
                  clear hb5
                  go_wp2
                  go_roundg (l.f4.length - (m + 1))
                  case measure => have := HX2.out; have := HLT.out; omega
                  case rel => exact ⟨isL fr x, m + 1, rfl, val_step HLT.out HM4.out, ⟨HLT.out, by have := HX2.out; omega⟩, FB5, ⟨by rw [← HDD.out, decide_eq_false HX0.out]; simp⟩⟩
            · have HE : m = l.f4.length := by have := HX2.out.1; omega
              have HD := HA2.out
              rw [HE, List.drop_length, List.all_nil, Bool.and_true] at HD
              rw [← HD] at HR2
              clear HE HA2 HD
              cases o2 with
              | false =>
                go_wp2
                go_ret
                exact ⟨ret_bool (by rw [← HR2.out]; rfl), FB.out.b⟩
              | true =>
                obtain ⟨r0, r1, r2, r3, r4, r5, r6⟩ := FB.out.l
                go_wp2_with fail
                refine (preds_Check fr.f1.length A5 k5 l.f5 _ (HS5.out.below FB.out.b) HL.out.p).mono ?_
                rintro e w5 ⟨rfl, hb5⟩
                have FB5 := Aside0.mk (FB.out.b.trans (hb5.mono FB.out.b.size))
                clear hb5
                go_wp2
                go_ret
                exact ⟨ret_bool (by rw [← HR2.out, Bool.true_and]; rw [Bool.eq_iff_iff]; simp), FB5.out⟩
end Go.Proofs.Ytpoadkogcdfglaa.PH
