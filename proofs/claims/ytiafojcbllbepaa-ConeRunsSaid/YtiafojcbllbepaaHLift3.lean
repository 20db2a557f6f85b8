/- The reference's Valid for lifts: it answers liftOk, too. -/
import Derived.Test.YtiafojcbllbepaaHLift2
import Derived.Deep.RegionHeld3
import Derived.Deep.QuietTactic
import Derived.BigQuiet
namespace Go.Proofs.Ytiafojcbllbepaa.PH
open Go.RowKit Go.Proofs.YtiafojcbllbepaaW.PrintWords
set_option linter.unusedVariables false
set_option linter.unusedSimpArgs false

set_option maxHeartbeats 8000000 in
set_option maxRecDepth 100000 in
theorem ref25_Valid (p q : CP) (fr tc : Circ) (r : LP) (l : Lf) (w : World) (hr : RL w r l) (hl : l.Fits) (c1 : check fr = 0) (c2 : check tc = 0) (hf1 : fr.f1.length ≤ 4000000) (hf2 : tc.f1.length ≤ 4000000) :
    Calls Try.prog 44 #[cv p fr, cv q tc, lv r l] w fun e w' => e = .returned (.bool (liftOk fr tc l)) ∧ Below w.heap.size w w' := by
  obtain ⟨a0, a1, a2⟩ := gCheck_ok c1
  obtain ⟨b0, b1, b2⟩ := gCheck_ok c2
  have HIF := Aside0.mk (fun x W hx => ref25_latch p fr x W a0 a1 hf1 hx)
  have HIT := Aside0.mk (fun x W hx => ref25_latch q tc x W b0 b1 hf2 hx)
  obtain ⟨A2, k2, A3, k3, A4, k4, A5, k5⟩ := r
  obtain ⟨s2, s3, s4, s5⟩ := hr
  dsimp only at s2 s3 s4 s5
  have HS2 := Aside0.mk s2
  have HS3 := Aside0.mk s3
  have HS4 := Aside0.mk s4
  have HS5 := Aside0.mk s5
  have HL := Aside0.mk hl
  have HT0 := Aside0.mk b0
  have HT1 := Aside0.mk b1
  have HF0 := Aside0.mk a0
  have HF1 := Aside0.mk a1
  obtain ⟨R, hR⟩ : ∃ b, liftOk fr tc l = b := ⟨_, rfl⟩
  rw [hR]
  unfold liftOk at hR
  have HR := Aside0.mk hR
  clear c1 c2 a0 a1 a2 b0 b1 b2 hf1 hf2 s2 s3 s4 s5 hl hR
  have hu26 := Try.underlying26
  have hu31 := Try.underlying38
  go_enter Try.func44, Try.ntmps44
  go_wp2
  all_goals try
    (go_ret
     refine ⟨ret_bool ?_, below_alloc (below_alloc (below_alloc (Below.refl _ _) _) _) _⟩
     rw [← HR.out, show headOk fr tc l = false by unfold headOk; rw [decide_eq_false_iff_not]; (try simp only [bne_iff_ne, ne_eq, bne_eq_false_iff_eq] at *); omega, Bool.false_and])
  have HH := Aside0.mk (show headOk fr tc l = true by unfold headOk; rw [decide_eq_true_iff]; simp only [bne_eq_false_iff_eq] at *; omega)
  have HR1 := Aside0.mk (show (l.f2.all (fOk tc) && (l.f3.all (rOk fr tc) && (l.f4.all (lOk fr) && decide (predCheck fr.f1.length l.f5 = 0)))) = R by rw [← HR.out, HH.out, Bool.true_and])
  clear HR HH
  rename_i i1 i2 i3 i4 i5 i6 i7 iK iA
  clear i1 i2 i3 i4 i5 i6 i7
  have HM2 := Aside0.mk HS2.out.max
  have HM3 := Aside0.mk HS3.out.max
  have HM4 := Aside0.mk HS4.out.max
  obtain ⟨R1, hR1⟩ : ∃ b, l.f2.all (fOk tc) = b := ⟨_, rfl⟩
  rw [hR1] at HR1
  have HRA := Aside0.mk hR1
  clear hR1
  go_loopg [7] l.f2.length (fun gg s7 wr => ∃ (k : Nat), s7 = .int .i64 k ∧ Aside0 (k ≤ l.f2.length ∧ l.f2.length - k ≤ gg) ∧ Aside0 (FitBoxes w wr p q fr tc ⟨A2, k2, A3, k3, A4, k4, A5, k5⟩ l) ∧ Aside0 ((l.f2.drop k).all (fOk tc) = R1))
  case atStart => exact ⟨0, rfl, ⟨by omega, by omega⟩, ⟨FitBoxes.new (w := w) (p := p) (q := q) (fr := fr) (tc := tc) (r := ⟨A2, k2, A3, k3, A4, k4, A5, k5⟩) (l := l)⟩, HRA⟩
  case round =>
    obtain ⟨k, rfl, HX, FB, HA⟩ := hrel
    obtain ⟨t0, t1, t2, t3, t4⟩ := FB.out.t
    obtain ⟨r0, r1, r2, r3, r4, r5, r6⟩ := FB.out.l
    have FD : ∀ n, FitBoxes w (wr.drewN n) p q fr tc ⟨A2, k2, A3, k3, A4, k4, A5, k5⟩ l := fun n => FB.out.below (pw_below_drewN (Below.refl _ _) n)
    have FDA := Aside0.mk FD
    clear FD
    by_cases hlt : k < l.f2.length
    · obtain ⟨ad, e1, hx⟩ := at_int (HS2.out.below FB.out.b).r k hlt
      cases e1
      have HD := HA.out
      rw [all_step hlt] at HD
      have HLT := Aside0.mk hlt
      have HI := Aside0.mk (HL.out.i2 _ (List.getElem_mem hlt))
      generalize l.f2[k] = x at *
      rw [show fOk tc x = (decide (x = 0) || (decide (x = 1) || isL tc x)) from rfl] at HD
      have HDD := Aside0.mk HD
      clear HA HD
      by_cases x0 : x = 0
      · have x0b : (x != 0) = false := bne_eq_false_iff_eq.mpr x0
        have HX0 := Aside0.mk x0
        clear x0
        go_wp2
        go_quiet (fail)
        go_wp2
        go_roundg (l.f2.length - (k + 1))
        case measure => have := HX.out; have := HLT.out; omega
        case rel => exact ⟨k + 1, val_step HLT.out HM2.out, ⟨HLT.out, by have := HX.out; omega⟩, ⟨FDA.out _⟩, ⟨by rw [← HDD.out, decide_eq_true HX0.out]; simp⟩⟩
      · have x0b : (x != 0) = true := bne_iff_ne.mpr x0
        have HX0 := Aside0.mk x0
        clear x0
        by_cases x1 : x = 1
        · have x1b : (x != 1) = false := bne_eq_false_iff_eq.mpr x1
          have HX1 := Aside0.mk x1
          clear x1
          go_wp2
          go_quiet (fail)
          go_wp2
          go_roundg (l.f2.length - (k + 1))
          case measure => have := HX.out; have := HLT.out; omega
          case rel => exact ⟨k + 1, val_step HLT.out HM2.out, ⟨HLT.out, by have := HX.out; omega⟩, ⟨FDA.out _⟩, ⟨by rw [← HDD.out, decide_eq_true HX1.out]; simp⟩⟩
        · have x1b : (x != 1) = true := bne_iff_ne.mpr x1
          have HX1 := Aside0.mk x1
          clear x1
          have HITX := Aside0.mk (fun W => HIT.out x W HI.out)
          generalize isL tc x = o at HITX HDD
          go_wp2
          go_region_held3 (fun w' => w'.cell? ⟨w.heap.size + 1 + 1, 2, none⟩ = some (.slice (some ad) l.f2.length k2) ∧ w'.cell? (ad.add k) = some (.int .i64 x) ∧ w'.cell? ⟨w.heap.size + 1, 0, none⟩ = some (.int .i64 tc.f0) ∧ w'.cell? ⟨w.heap.size + 1, 1, none⟩ = some (.slice q.A1 tc.f1.length q.c1) ∧ w'.cell? ⟨w.heap.size + 1, 2, none⟩ = some (.slice q.A2 tc.f2.length q.c2) ∧ w'.cell? ⟨w.heap.size + 1, 3, none⟩ = some (.slice q.A3 tc.f3.length q.c3) ∧ w'.cell? ⟨w.heap.size + 1, 4, none⟩ = some (.slice q.A4 tc.f4.length q.c4))
            (first | go_keep | (go_split_ands; refine ⟨?_, ?_, ?_, ?_, ?_, ?_, ?_⟩ <;> (refine pw_cell_below hb5 ?_; assumption)))
            (first | (go_at_call 61; refine (HITX.out _).mono ?_; rintro e w5 ⟨rfl, hb5⟩))
          have FB5 := Aside0.mk ((FB.out.below (below_drew (Below.refl _ _))).below hb5)
          clear hb5
          cases o with
          | true =>
            go_wp2
            go_roundg (l.f2.length - (k + 1))
            case measure => have := HX.out; have := HLT.out; omega
            case rel => exact ⟨k + 1, val_step HLT.out HM2.out, ⟨HLT.out, by have := HX.out; omega⟩, FB5, ⟨by rw [← HDD.out, decide_eq_false HX0.out, decide_eq_false HX1.out]; simp⟩⟩
          | false =>
            go_wp2
            go_ret
            refine ⟨ret_bool ?_, FB5.out.b⟩
            have hd := HDD.out
            rw [decide_eq_false HX0.out, decide_eq_false HX1.out, Bool.false_or, Bool.false_or, Bool.false_and] at hd
            rw [← HR1.out, ← hd]; rfl
    · have HE : k = l.f2.length := by have := HX.out.1; omega
      have HD := HA.out
      rw [HE, List.drop_length, List.all_nil] at HD
      have HR2 := Aside0.mk (show (l.f3.all (rOk fr tc) && (l.f4.all (lOk fr) && decide (predCheck fr.f1.length l.f5 = 0))) = R by rw [← HR1.out, ← HD, Bool.true_and])
      clear HE HA HR1 HD HRA
      go_wp2
      obtain ⟨RJ, hRJ⟩ : ∃ b, l.f3.all (rOk fr tc) = b := ⟨_, rfl⟩
      rw [hRJ] at HR2
      have HRJ := Aside0.mk hRJ
      clear hRJ r0 r1 r2 r3 r4 r5 r6 t0 t1 t2 t3 t4 FDA
      go_loopg [8] l.f3.length (fun gg s8 wp => ∃ (j : Nat), s8 = .int .i64 j ∧ Aside0 (j ≤ l.f3.length ∧ l.f3.length - j ≤ gg) ∧ Aside0 (FitBoxes w wp p q fr tc ⟨A2, k2, A3, k3, A4, k4, A5, k5⟩ l) ∧ Aside0 ((l.f3.drop j).all (rOk fr tc) = RJ))
      case atStart => exact ⟨0, rfl, ⟨by omega, by omega⟩, FB, HRJ⟩
      case round =>
        clear FB
        obtain ⟨j, rfl, HX2, FB, HA2⟩ := hrel
        obtain ⟨r0, r1, r2, r3, r4, r5, r6⟩ := FB.out.l
        obtain ⟨f0, f1, f2, f3, f4⟩ := FB.out.f
        have FDA := Aside0.mk (fun n => FB.out.below (pw_below_drewN (Below.refl _ _) n))
        by_cases hlt2 : j < l.f3.length
        · obtain ⟨ad3, B, kr, e3, hrow0, hRS⟩ := at_row HS3.out.r j hlt2
          cases e3
          have hrow := pw_cell_below FB.out.b hrow0
          have HD := HA2.out
          rw [all_step hlt2] at HD
          have HLT2 := Aside0.mk hlt2
          have hiw := HL.out.i3 _ (List.getElem_mem hlt2)
          generalize l.f3[j] = row at *
          have HROW := Aside0.mk hRS
          have HR0 := Aside0.mk hrow0
          have HIW := Aside0.mk hiw
          have HMR := Aside0.mk hRS.max
          rw [show rOk fr tc row = (decide ((row.length : Int) = fr.f0) && row.all (iOk tc)) from rfl] at HD
          have HDD := Aside0.mk HD
          clear HA2 HD hiw hRS hrow0
          by_cases hl : (row.length : Int) = fr.f0
          · have hlb : ((row.length : Int) != fr.f0) = false := bne_eq_false_iff_eq.mpr hl
            have HLE := Aside0.mk hl
            clear hl
            go_wp2
            go_quiet (fail)
            go_wp2
            obtain ⟨RI, hRI⟩ : ∃ b, row.all (iOk tc) = b := ⟨_, rfl⟩
            have hd := HDD.out
            rw [hRI, decide_eq_true HLE.out, Bool.true_and] at hd
            have HDD2 := Aside0.mk hd
            have HRI := Aside0.mk hRI
            clear hRI hd HDD hrow r0 r1 r2 r3 r4 r5 r6 f0 f1 f2 f3 f4
            go_loopg [9] row.length (fun gg s9 wq => ∃ (m : Nat), s9 = .int .i64 m ∧ Aside0 (m ≤ row.length ∧ row.length - m ≤ gg) ∧ Aside0 (FitBoxes w wq p q fr tc ⟨A2, k2, some ad3, k3, A4, k4, A5, k5⟩ l) ∧ Aside0 ((row.drop m).all (iOk tc) = RI))
            case atStart => exact ⟨0, rfl, ⟨by omega, by omega⟩, ⟨FDA.out _⟩, HRI⟩
            case round =>
              clear FB FDA
              obtain ⟨m, rfl, HX3, FB, HA3⟩ := hrel
              obtain ⟨r0, r1, r2, r3, r4, r5, r6⟩ := FB.out.l
              obtain ⟨f0, f1, f2, f3, f4⟩ := FB.out.f
              obtain ⟨t0, t1, t2, t3, t4⟩ := FB.out.t
              have hrow := pw_cell_below FB.out.b HR0.out
              by_cases hlt3 : m < row.length
              · have hltb : decide ((m : Int) < fr.f0) = true := by rw [← HLE.out]; exact decide_eq_true (by omega)
                obtain ⟨adr, e1, hx⟩ := at_int (HROW.out.below FB.out.b).r m hlt3
                cases e1
                have HD3 := HA3.out
                rw [all_step hlt3] at HD3
                have HLT3 := Aside0.mk hlt3
                have hwx := HIW.out _ (List.getElem_mem hlt3)
                generalize row[m] = x at *
                have HREM := Aside0.mk (rem_of hwx)
                have HHALF := Aside0.mk (half_of hwx)
                have HDD3 := Aside0.mk HD3
                clear HA3 HD3 hwx
                go_wp2
                all_goals first
                  | go_ret
                    refine ⟨ret_bool ?_, FB.out.b⟩
                    have hd := HDD3.out
                    have hi : iOk tc x = false := by
                      have h1 := HHALF.out
                      unfold iOk
                      rw [Bool.eq_iff_iff]; simp
                      intro z1 z2
                      have := h1 z1
                      omega
                    rw [hi, Bool.false_and] at hd
                    have hd2 := HDD2.out
                    rw [← hd, Bool.false_and] at hd2
                    rw [← HR2.out, ← hd2]; rfl
                  | go_roundg (row.length - (m + 1))
                    case measure => have := HX3.out; have := HLT3.out; omega
                    case rel =>
                      refine ⟨m + 1, val_step HLT3.out HMR.out, ⟨HLT3.out, by have := HX3.out; omega⟩, FB, ⟨?_⟩⟩
                      have hd := HDD3.out
                      have hi : iOk tc x = true := by
                        have h1 := HHALF.out
                        unfold iOk
                        rw [Bool.eq_iff_iff]; simp
                        have := h1 (by omega)
                        omega
                      rw [hi, Bool.true_and] at hd
                      exact hd
              · have HE3 : m = row.length := by have := HX3.out.1; omega
                have hltb : decide ((m : Int) < fr.f0) = false := by rw [← HLE.out]; exact decide_eq_false (by omega)
                have HD3 := HA3.out
                rw [HE3, List.drop_length, List.all_nil] at HD3
                have hd2 := HDD2.out
                rw [← HD3, Bool.true_and] at hd2
                have HDX := Aside0.mk hd2
                clear HE3 HA3 HD3 hd2
                go_wp2
                go_roundg (l.f3.length - (j + 1))
                case measure => have := HX2.out; have := HLT2.out; omega
                case rel => exact ⟨j + 1, val_step HLT2.out HM3.out, ⟨HLT2.out, by have := HX2.out; omega⟩, FB, HDX⟩
          · have hlb : ((row.length : Int) != fr.f0) = true := bne_iff_ne.mpr hl
            have HLE := Aside0.mk hl
            clear hl
            go_wp2
            go_quiet (fail)
            go_wp2
            go_ret
            refine ⟨ret_bool ?_, (FDA.out _).b⟩
            have hd := HDD.out
            rw [decide_eq_false HLE.out, Bool.false_and, Bool.false_and] at hd
            rw [← HR2.out, ← hd]; rfl
        · have HE2 : j = l.f3.length := by have := HX2.out.1; omega
          have HD2 := HA2.out
          rw [HE2, List.drop_length, List.all_nil] at HD2
          have HR3 := Aside0.mk (show (l.f4.all (lOk fr) && decide (predCheck fr.f1.length l.f5 = 0)) = R by rw [← HR2.out, ← HD2, Bool.true_and])
          clear HE2 HA2 HD2 HRJ HR2
          go_wp2
          obtain ⟨RK, hRK⟩ : ∃ b, l.f4.all (lOk fr) = b := ⟨_, rfl⟩
          have HRK := Aside0.mk hRK
          rw [hRK] at HR3
          clear hRK r0 r1 r2 r3 r4 r5 r6 f0 f1 f2 f3 f4 FDA
          go_loopg [11] l.f4.length (fun gg s11 wq => ∃ (m : Nat), s11 = .int .i64 m ∧ Aside0 (m ≤ l.f4.length ∧ l.f4.length - m ≤ gg) ∧ Aside0 (FitBoxes w wq p q fr tc ⟨A2, k2, A3, k3, A4, k4, A5, k5⟩ l) ∧ Aside0 ((l.f4.drop m).all (lOk fr) = RK))
          case atStart => exact ⟨0, rfl, ⟨by omega, by omega⟩, FB, HRK⟩
          case round =>
            clear FB
            obtain ⟨m, rfl, HX2, FB, HA2⟩ := hrel
            obtain ⟨r0, r1, r2, r3, r4, r5, r6⟩ := FB.out.l
            obtain ⟨f0, f1, f2, f3, f4⟩ := FB.out.f
            have FDA := Aside0.mk (fun n => FB.out.below (pw_below_drewN (Below.refl _ _) n))
            by_cases hlt : m < l.f4.length
            · obtain ⟨ad, e1, hx⟩ := at_int (HS4.out.below FB.out.b).r m hlt
              cases e1
              have HD := HA2.out
              rw [all_step hlt] at HD
              have HLT := Aside0.mk hlt
              have HI := Aside0.mk (HL.out.i4 _ (List.getElem_mem hlt))
              generalize l.f4[m] = x at *
              rw [show lOk fr x = (decide (x = -1) || isL fr x) from rfl] at HD
              have HDD := Aside0.mk HD
              clear HA2 HD
              by_cases x0 : x = -1
              · have x0b : (x != -1) = false := bne_eq_false_iff_eq.mpr x0
                have HX0 := Aside0.mk x0
                clear x0
                go_wp2
                go_quiet (fail)
                go_wp2
                go_roundg (l.f4.length - (m + 1))
                case measure => have := HX2.out; have := HLT.out; omega
                case rel => exact ⟨m + 1, val_step HLT.out HM4.out, ⟨HLT.out, by have := HX2.out; omega⟩, ⟨FDA.out _⟩, ⟨by rw [← HDD.out, decide_eq_true HX0.out]; simp⟩⟩
              · have x0b : (x != -1) = true := bne_iff_ne.mpr x0
                have HX0 := Aside0.mk x0
                clear x0
                have HITX := Aside0.mk (fun W => HIF.out x W HI.out)
                generalize isL fr x = o at HITX HDD
                go_wp2
                go_region_held3 (fun w' => w'.cell? ⟨w.heap.size + 1 + 1, 4, none⟩ = some (.slice (some ad) l.f4.length k4) ∧ w'.cell? (ad.add m) = some (.int .i64 x) ∧ w'.cell? ⟨w.heap.size, 0, none⟩ = some (.int .i64 fr.f0) ∧ w'.cell? ⟨w.heap.size, 1, none⟩ = some (.slice p.A1 fr.f1.length p.c1) ∧ w'.cell? ⟨w.heap.size, 2, none⟩ = some (.slice p.A2 fr.f2.length p.c2) ∧ w'.cell? ⟨w.heap.size, 3, none⟩ = some (.slice p.A3 fr.f3.length p.c3) ∧ w'.cell? ⟨w.heap.size, 4, none⟩ = some (.slice p.A4 fr.f4.length p.c4))
                  (first | go_keep | (go_split_ands; refine ⟨?_, ?_, ?_, ?_, ?_, ?_, ?_⟩ <;> (refine pw_cell_below hb5 ?_; assumption)))
                  (first | (go_at_call 61; refine (HITX.out _).mono ?_; rintro e w5 ⟨rfl, hb5⟩))
                have FB5 := Aside0.mk ((FB.out.below (below_drew (Below.refl _ _))).below hb5)
                clear hb5
                cases o with
                | true =>
                  go_wp2
                  go_roundg (l.f4.length - (m + 1))
                  case measure => have := HX2.out; have := HLT.out; omega
                  case rel => exact ⟨m + 1, val_step HLT.out HM4.out, ⟨HLT.out, by have := HX2.out; omega⟩, FB5, ⟨by rw [← HDD.out, decide_eq_false HX0.out]; simp⟩⟩
                | false =>
                  go_wp2
                  go_ret
                  refine ⟨ret_bool ?_, FB5.out.b⟩
                  have hd := HDD.out
                  rw [decide_eq_false HX0.out, Bool.false_or, Bool.false_and] at hd
                  rw [← HR3.out, ← hd]; rfl
            · have HE : m = l.f4.length := by have := HX2.out.1; omega
              have HD := HA2.out
              rw [HE, List.drop_length, List.all_nil] at HD
              have HR4 := Aside0.mk (show decide (predCheck fr.f1.length l.f5 = 0) = R by rw [← HR3.out, ← HD, Bool.true_and])
              clear HE HA2 HD
              go_wp2_with fail
              refine (ref24_Check fr.f1.length A5 k5 l.f5 _ (HS5.out.below FB.out.b) HL.out.p).mono ?_
              rintro e w5 ⟨rfl, hb5⟩
              have FB5 := Aside0.mk (FB.out.b.trans (hb5.mono FB.out.b.size))
              clear hb5
              go_wp2
              go_ret
              exact ⟨ret_bool (by rw [← HR4.out]; rw [Bool.eq_iff_iff]; simp), FB5.out⟩
end Go.Proofs.Ytiafojcbllbepaa.PH
