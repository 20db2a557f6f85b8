/- The law PredsNames: its function answers true. -/
import Derived.Test.YtgcdanpihaeioaaHNames
namespace Go.Proofs.Ytgcdanpihaeioaa.PH
open Go.RowKit Go.Proofs.YtgcdanpihaeioaaW.PrintWords Go.Proofs.YtgcdanpihaeioaaW.PrintLast
set_option linter.unusedVariables false
set_option linter.unusedSimpArgs false

set_option maxHeartbeats 16000000 in
set_option maxRecDepth 100000 in
theorem law_PredsNames (w : World) : Calls Try.prog 8 #[] w fun e w' => e = .returned (.bool true) ∧ Below w.heap.size w w' := by
  have hu24 := Try.underlying24
  have hu29 := Try.underlying29
  have hu71 := Try.underlying71
  have HB0 := Aside0.mk (bads_start w)
  have B0 := Aside0.mk (below_alloc (below_alloc (below_alloc (below_alloc (Below.refl w.heap.size w) (.cells #[.int .i64 2, .int .i64 3] 71)) (.cells #[.int .i64 6, .int .i64 2] 71)) (.cells #[.int .i64 3, .int .i64 (-1)] 71))
    (.cells #[.slice (some ⟨w.heap.size, 0, none⟩) 1 1, .int .i64 0, .slice (some ⟨w.heap.size + 1, 0, none⟩) 1 1, .int .i64 0, .slice (some ⟨w.heap.size + 2, 0, none⟩) 1 1, .int .i64 0, .slice none 0 0, .int .i64 6, .slice none 0 0, .int .i64 (-1)] 24))
  obtain ⟨cs1, hmk1, hrm1⟩ := make_ands
  obtain ⟨cs2, hmk2, hrm2⟩ := make_empties
  have HR1 := Aside0.mk hrm1
  have HR2 := Aside0.mk hrm2
  clear hrm1 hrm2
  go_enter Try.func8, Try.ntmps8
  go_wp2
  obtain ⟨s, hs⟩ : ∃ s, w.heap.size = s := ⟨_, rfl⟩
  rw [hs] at HB0
  obtain ⟨AD, hAD⟩ : ∃ AD : Addr, (⟨w.heap.size + 3, 0, none⟩ : Addr) = AD := ⟨_, rfl⟩
  have HS := Aside0.mk hs
  have HAD := Aside0.mk (show (⟨s + 3, 0, none⟩ : Addr) = AD by rw [← hs]; exact hAD)
  simp only [hAD]
  clear hs hAD
  go_loopg [2] 5 (fun gg s2 wr => ∃ i : Nat, s2 = .int .i64 i ∧ Aside0 (i ≤ 5 ∧ 5 - i ≤ gg) ∧ Aside0 (Below w.heap.size w wr) ∧ Aside0 (Bads (s + 3) s wr))
  case atStart => exact ⟨0, rfl, ⟨by omega, by omega⟩, B0, ⟨by have h_ := HB0.out; rw [← HS.out] at h_ ⊢; exact h_⟩⟩
  case round =>
    clear B0 HB0
    obtain ⟨i, rfl, HK, B, HB⟩ := hrel
    by_cases hlt : i < 5
    · have hltI : (i : Int) < 5 := by omega
      have HLT := Aside0.mk hlt
      have HAT := Aside0.mk (fun W (hb : Below wr.heap.size wr W) => (HB.out.below hb).at i hlt)
      have HQ := Aside0.mk (bads_q i hlt)
      have HF := Aside0.mk (bads_fits i hlt)
      rw [HAD.out] at HAT
      generalize badA s i = A at *
      generalize badK i = k at *
      obtain ⟨p, hp⟩ : ∃ p, badP i = p := ⟨_, rfl⟩
      rw [hp] at HAT HQ HF
      clear hp
      have BR := Aside0.mk (Below.refl wr.heap.size wr)
      obtain ⟨c0, c1⟩ := (HAT.out _ BR.out).1
      go_wp2_with fail
      refine (show Calls _ _ #[.int .i64 2, .agg #[.slice none 0 0, .int .i64 0], .agg #[.slice A p.f0.length k, .int .i64 p.f1]] _ _ from preds_And 2 none 0 zeroP A k p _ (RS.nil _ _ _) zero_fits (HAT.out _ BR.out).2 HF.out).mono ?_
      rintro e w1 ⟨A1, k1, rfl, hr, hb⟩
      rw [HQ.out.1]
      have BR := Aside0.mk (BR.out.trans (hb.mono BR.out.size))
      clear hb c0 c1
      clear hr
      have BR := Aside0.mk (below_alloc BR.out (.cells #[.slice A1 zeroP.f0.length k1, .int .i64 zeroP.f1] 24))
      obtain ⟨c0, c1⟩ := (HAT.out _ BR.out).1
      go_wp2_with fail
      refine (show Calls _ _ #[.int .i64 2, .agg #[.slice A p.f0.length k, .int .i64 p.f1], .agg #[.slice none 0 0, .int .i64 0]] _ _ from preds_Or 2 A k p none 0 zeroP _ (HAT.out _ BR.out).2 HF.out (RS.nil _ _ _) zero_fits).mono ?_
      rintro e w1 ⟨A1, k1, rfl, hr, hb⟩
      rw [HQ.out.2.1]
      have BR := Aside0.mk (BR.out.trans (hb.mono BR.out.size))
      clear hb c0 c1
      clear hr
      have BR := Aside0.mk (below_alloc BR.out (.cells #[.slice A1 zeroP.f0.length k1, .int .i64 zeroP.f1] 24))
      obtain ⟨c0, c1⟩ := (HAT.out _ BR.out).1
      go_wp2_with fail
      refine (show Calls _ _ #[.int .i64 2, .agg #[.slice A p.f0.length k, .int .i64 p.f1]] _ _ from preds_Not 2 A k p _ (HAT.out _ BR.out).2 HF.out).mono ?_
      rintro e w1 ⟨A1, k1, rfl, hr, hb⟩
      rw [HQ.out.2.2.1]
      have BR := Aside0.mk (BR.out.trans (hb.mono BR.out.size))
      clear hb c0 c1
      clear hr
      have BR := Aside0.mk (below_alloc BR.out (.cells #[.slice A1 zeroP.f0.length k1, .int .i64 zeroP.f1] 24))
      obtain ⟨c0, c1⟩ := (HAT.out _ BR.out).1
      obtain ⟨r, hr⟩ : ∃ r, valueOf p [true, true] = r := ⟨_, rfl⟩
      have HCB := Aside0.mk (show predCheck ([true, true] : List Bool).length p = 8 from HQ.out.2.2.2.1)
      have BQ := Aside0.mk (below_alloc (Below.refl _ _ : Below (w1.alloc (.cells #[.slice A1 zeroP.f0.length k1, .int .i64 zeroP.f1] 24)).heap.size (w1.alloc (.cells #[.slice A1 zeroP.f0.length k1, .int .i64 zeroP.f1] 24)) (w1.alloc (.cells #[.slice A1 zeroP.f0.length k1, .int .i64 zeroP.f1] 24))) (.cells #[.bool true, .bool true] 4))
      have NV := Aside0.mk (blk_new (w1.alloc (.cells #[.slice A1 zeroP.f0.length k1, .int .i64 zeroP.f1] 24)) (.cells #[.bool true, .bool true] 4))
      have BR := Aside0.mk (BR.out.trans (BQ.out.mono BR.out.size))
      clear BQ
      go_wp2_with fail
      refine (show Calls _ _ #[.agg #[.slice A p.f0.length k, .int .i64 p.f1], .slice (some ⟨w1.heap.size + 1, 0, none⟩) 2 2] _ _ from preds_Value A k p (some ⟨w1.heap.size + 1, 0, none⟩) 2 [true, true] _ (HAT.out _ BR.out).2 HF.out (RS.two_bools (by simpa using NV.out))).mono ?_
      rintro e w1 ⟨rfl, hb⟩
      rw [HCB.out, hr]
      have BR := Aside0.mk (BR.out.trans (hb.mono BR.out.size))
      clear hb c0 c1
      obtain ⟨c0, c1⟩ := (HAT.out _ BR.out).1
      clear HCB NV hr
      have NV := Aside0.mk (blk_new w1 (.cells #[.int .i64 2, .int .i64 4] 3))
      have BR := Aside0.mk (below_alloc BR.out (.cells #[.int .i64 2, .int .i64 4] 3))
      obtain ⟨c0, c1⟩ := (HAT.out _ BR.out).1
      go_wp2_with fail
      refine (show Calls _ _ #[cv ⟨none, 0, none, 0, none, 0, none, 0⟩ twoC, .agg #[.slice A p.f0.length k, .int .i64 p.f1], .slice (some ⟨w1.heap.size, 0, none⟩) 2 2] _ _ from preds_Put ⟨none, 0, none, 0, none, 0, none, 0⟩ twoC A k p (some ⟨w1.heap.size, 0, none⟩) 2 [2, 4] _ ⟨RS.nil _ _ _, RS.nil _ _ _, RS.nil _ _ _, RS.nil _ _ _⟩ two_fits (HAT.out _ BR.out).2 HF.out (RS.lit_ints [2, 4] (by decide) NV.out) (by decide)).mono ?_
      rintro e w1 ⟨p1, rfl, hr, hb⟩
      rw [HQ.out.2.2.2.2]
      have BR := Aside0.mk (BR.out.trans (hb.mono BR.out.size))
      clear hb c0 c1
      clear hr
      have BR := Aside0.mk (below_alloc BR.out (.cells #[.int .i64 zeroC.f0, .slice p1.A1 zeroC.f1.length p1.c1, .slice p1.A2 zeroC.f2.length p1.c2, .slice p1.A3 zeroC.f3.length p1.c3, .slice p1.A4 zeroC.f4.length p1.c4] 29))
      obtain ⟨c0, c1⟩ := (HAT.out _ BR.out).1
      clear NV
      go_wp2_with fail
      refine (show Calls _ _ #[.int .i64 2, .agg #[.slice A p.f0.length k, .int .i64 p.f1]] _ _ from preds_Check 2 A k p _ (HAT.out _ BR.out).2 HF.out).mono ?_
      rintro e w1 ⟨rfl, hb⟩
      rw [HQ.out.2.2.2.1]
      have BR := Aside0.mk (BR.out.trans (hb.mono BR.out.size))
      clear hb c0 c1
      clear HAT HQ HF
      have HB2 := Aside0.mk (HB.out.below BR.out)
      have B2 := Aside0.mk (B.out.trans (BR.out.mono B.out.size))
      clear BR
      go_wp2
      go_roundg (5 - (i + 1))
      case measure => have := HK.out; have := HLT.out; omega
      case rel => exact ⟨i + 1, rfl, ⟨HLT.out, by have := HK.out; omega⟩, B2, HB2⟩
    · have hltI : ¬ (i : Int) < 5 := by omega
      clear HB HAD HK hlt
      have N := Aside0.mk (show NK w (wr.heap.size + 1) wr.heap.size [] ((wr.alloc (.cells cs1 71)).alloc (.cells #[.slice (some ⟨wr.heap.size, 0, none⟩) 1000 1000, .int .i64 (-1)] 24)) from
        ⟨B.out.trans ((below_alloc (below_alloc (Below.refl _ _) _) _).mono B.out.size), by simpa using blk_new (wr.alloc (.cells cs1 71)) (.cells #[.slice (some ⟨wr.heap.size, 0, none⟩) 1000 1000, .int .i64 (-1)] 24), HR1.out _ _ (blk_alloc (blk_new _ _) _), fun q hq => by simp at hq⟩)
      clear B HR1
      obtain ⟨m0, m1⟩ := (blk2w N.out.M).1
      go_wp2_with fail
      refine (show Calls _ _ #[.int .i64 (-1), .agg #[.slice (some ⟨wr.heap.size, 0, none⟩) 1000 1000, .int .i64 (-1)]] _ _ from names_Check (-1) (some ⟨wr.heap.size, 0, none⟩) 1000 _ N.out.R).mono ?_
      rintro e w1 ⟨rfl, hb⟩
      rw [many1]
      have N := Aside0.mk (N.out.below hb)
      clear hb
      clear m0 m1
      obtain ⟨m0, m1⟩ := (blk2w N.out.M).1
      go_wp2_with fail
      refine (show Calls _ _ #[.int .i64 1001, .agg #[.slice (some ⟨wr.heap.size, 0, none⟩) 1000 1000, .int .i64 (-1)]] _ _ from names_Check 1001 (some ⟨wr.heap.size, 0, none⟩) 1000 _ N.out.R).mono ?_
      rintro e w2 ⟨rfl, hb⟩
      rw [many2]
      have N := Aside0.mk (N.out.below hb)
      clear hb
      clear m0 m1
      obtain ⟨m0, m1⟩ := (blk2w N.out.M).1
      go_wp2_with fail
      refine (show Calls _ _ #[.int .i64 1, .agg #[.slice (some ⟨wr.heap.size, 0, none⟩) 1000 1000, .int .i64 (-1)]] _ _ from names_Check 1 (some ⟨wr.heap.size, 0, none⟩) 1000 _ N.out.R).mono ?_
      rintro e w3 ⟨rfl, hb⟩
      rw [many3]
      have N := Aside0.mk (N.out.below hb)
      clear hb
      clear m0 m1
      go_wp2_with fail
      refine (show Calls _ _ #[.int .i64 1001, .slice none 0 0] _ _ from preds_Clauses 1001 none 0 [] _ (RS.nil _ _ _) (by simp)).mono ?_
      rintro e w4 ⟨A4, k4, rfl, hr, hb⟩
      rw [cl1] at hr ⊢
      have N := Aside0.mk (N.out.below hb)
      clear hb
      have P_ := below_alloc (Below.refl w4.heap.size w4) (.cells #[.slice A4 zeroP.f0.length k4, .int .i64 zeroP.f1] 24)
      have N := Aside0.mk (N.out.add (RS.of_R' hr : RS kGate w4 A4 k4 zeroP.f0))
      clear P_ hr
      have P_ := below_alloc (Below.refl (w4.alloc (.cells #[.slice A4 zeroP.f0.length k4, .int .i64 zeroP.f1] 24)).heap.size (w4.alloc (.cells #[.slice A4 zeroP.f0.length k4, .int .i64 zeroP.f1] 24))) (.cells cs2 27)
      have N := Aside0.mk (N.out.below P_)
      clear P_
      have F0 := Aside0.mk (show ((w4.alloc (.cells #[.slice A4 zeroP.f0.length k4, .int .i64 zeroP.f1] 24)).alloc (.cells cs2 27)).heap[w4.heap.size + 1]? = some (.cells cs2 27 (0, 0)) from by simpa using blk_new (w4.alloc (.cells #[.slice A4 zeroP.f0.length k4, .int .i64 zeroP.f1] 24)) (.cells cs2 27))
      go_wp2_with fail
      refine (show Calls _ _ #[.int .i64 2, .slice (some ⟨w4.heap.size + 1, 0, none⟩) 1001 1001] _ _ from names_Clauses 2 (some ⟨w4.heap.size + 1, 0, none⟩) 1001 _ (HR2.out _ _ F0.out)).mono ?_
      rintro e w5 ⟨A5, k5, rfl, hr, hb⟩
      rw [cl2] at hr ⊢
      have N := Aside0.mk (N.out.below hb)
      have F0 := Aside0.mk (blk_below F0.out hb)
      clear hb
      have P_ := below_alloc (Below.refl w5.heap.size w5) (.cells #[.slice A5 zeroP.f0.length k5, .int .i64 zeroP.f1] 24)
      have N := Aside0.mk (N.out.add (RS.of_R' hr : RS kGate w5 A5 k5 zeroP.f0))
      have F0 := Aside0.mk (blk_below F0.out P_)
      clear P_ hr
      clear F0 HR2 hmk2 hmk1
      have P_ := below_alloc (Below.refl (w5.alloc (.cells #[.slice A5 zeroP.f0.length k5, .int .i64 zeroP.f1] 24)).heap.size (w5.alloc (.cells #[.slice A5 zeroP.f0.length k5, .int .i64 zeroP.f1] 24))) (.cells #[.int .i64 6] 3)
      have N := Aside0.mk (N.out.below P_)
      clear P_
      have F0 := Aside0.mk (show ((w5.alloc (.cells #[.slice A5 zeroP.f0.length k5, .int .i64 zeroP.f1] 24)).alloc (.cells #[.int .i64 6] 3)).heap[w5.heap.size + 1]? = some (.cells #[.int .i64 6] 3 (0, 0)) from by simpa using blk_new (w5.alloc (.cells #[.slice A5 zeroP.f0.length k5, .int .i64 zeroP.f1] 24)) (.cells #[.int .i64 6] 3))
      have P_ := below_alloc (Below.refl ((w5.alloc (.cells #[.slice A5 zeroP.f0.length k5, .int .i64 zeroP.f1] 24)).alloc (.cells #[.int .i64 6] 3)).heap.size ((w5.alloc (.cells #[.slice A5 zeroP.f0.length k5, .int .i64 zeroP.f1] 24)).alloc (.cells #[.int .i64 6] 3))) (.cells #[.slice (some ⟨w5.heap.size + 1, 0, none⟩) 1 1] 27)
      have N := Aside0.mk (N.out.below P_)
      have F0 := Aside0.mk (blk_below F0.out P_)
      clear P_
      have F1 := Aside0.mk (show (((w5.alloc (.cells #[.slice A5 zeroP.f0.length k5, .int .i64 zeroP.f1] 24)).alloc (.cells #[.int .i64 6] 3)).alloc (.cells #[.slice (some ⟨w5.heap.size + 1, 0, none⟩) 1 1] 27)).heap[w5.heap.size + 2]? = some (.cells #[.slice (some ⟨w5.heap.size + 1, 0, none⟩) 1 1] 27 (0, 0)) from by simpa using blk_new ((w5.alloc (.cells #[.slice A5 zeroP.f0.length k5, .int .i64 zeroP.f1] 24)).alloc (.cells #[.int .i64 6] 3)) (.cells #[.slice (some ⟨w5.heap.size + 1, 0, none⟩) 1 1] 27))
      go_wp2_with fail
      refine (show Calls _ _ #[.int .i64 2, .slice (some ⟨w5.heap.size + 2, 0, none⟩) 1 1] _ _ from preds_Clauses 2 (some ⟨w5.heap.size + 2, 0, none⟩) 1 [[6]] _ (RS.one_row F1.out (RS.lit_ints [6] (by decide) F0.out)) (by decide)).mono ?_
      rintro e w6 ⟨A6, k6, rfl, hr, hb⟩
      rw [cl3] at hr ⊢
      have N := Aside0.mk (N.out.below hb)
      have F0 := Aside0.mk (blk_below F0.out hb)
      have F1 := Aside0.mk (blk_below F1.out hb)
      clear hb
      have P_ := below_alloc (Below.refl w6.heap.size w6) (.cells #[.slice A6 zeroP.f0.length k6, .int .i64 zeroP.f1] 24)
      have N := Aside0.mk (N.out.add (RS.of_R' hr : RS kGate w6 A6 k6 zeroP.f0))
      have F0 := Aside0.mk (blk_below F0.out P_)
      have F1 := Aside0.mk (blk_below F1.out P_)
      clear P_ hr
      clear F0 F1
      go_wp2_with fail
      refine (show Calls _ _ #[.int .i64 0, .slice none 0 0] _ _ from preds_Clauses 0 none 0 [] _ (RS.nil _ _ _) (by simp)).mono ?_
      rintro e w7 ⟨A7, k7, rfl, hr, hb⟩
      rw [cl4] at hr ⊢
      have N := Aside0.mk (N.out.below hb)
      clear hb
      have P_ := below_alloc (Below.refl w7.heap.size w7) (.cells #[.slice A7 trueP.f0.length k7, .int .i64 trueP.f1] 24)
      have N := Aside0.mk (N.out.add (RS.of_R' hr : RS kGate w7 A7 k7 trueP.f0))
      clear P_ hr
      have P_ := below_alloc (Below.refl (w7.alloc (.cells #[.slice A7 trueP.f0.length k7, .int .i64 trueP.f1] 24)).heap.size (w7.alloc (.cells #[.slice A7 trueP.f0.length k7, .int .i64 trueP.f1] 24))) (.cells #[.int .i64 2] 3)
      have N := Aside0.mk (N.out.below P_)
      clear P_
      have F0 := Aside0.mk (show ((w7.alloc (.cells #[.slice A7 trueP.f0.length k7, .int .i64 trueP.f1] 24)).alloc (.cells #[.int .i64 2] 3)).heap[w7.heap.size + 1]? = some (.cells #[.int .i64 2] 3 (0, 0)) from by simpa using blk_new (w7.alloc (.cells #[.slice A7 trueP.f0.length k7, .int .i64 trueP.f1] 24)) (.cells #[.int .i64 2] 3))
      have P_ := below_alloc (Below.refl ((w7.alloc (.cells #[.slice A7 trueP.f0.length k7, .int .i64 trueP.f1] 24)).alloc (.cells #[.int .i64 2] 3)).heap.size ((w7.alloc (.cells #[.slice A7 trueP.f0.length k7, .int .i64 trueP.f1] 24)).alloc (.cells #[.int .i64 2] 3))) (.cells #[.slice none 0 0, .slice (some ⟨w7.heap.size + 1, 0, none⟩) 1 1] 27)
      have N := Aside0.mk (N.out.below P_)
      have F0 := Aside0.mk (blk_below F0.out P_)
      clear P_
      have F1 := Aside0.mk (show (((w7.alloc (.cells #[.slice A7 trueP.f0.length k7, .int .i64 trueP.f1] 24)).alloc (.cells #[.int .i64 2] 3)).alloc (.cells #[.slice none 0 0, .slice (some ⟨w7.heap.size + 1, 0, none⟩) 1 1] 27)).heap[w7.heap.size + 2]? = some (.cells #[.slice none 0 0, .slice (some ⟨w7.heap.size + 1, 0, none⟩) 1 1] 27 (0, 0)) from by simpa using blk_new ((w7.alloc (.cells #[.slice A7 trueP.f0.length k7, .int .i64 trueP.f1] 24)).alloc (.cells #[.int .i64 2] 3)) (.cells #[.slice none 0 0, .slice (some ⟨w7.heap.size + 1, 0, none⟩) 1 1] 27))
      go_wp2_with fail
      refine (show Calls _ _ #[.int .i64 3, .slice (some ⟨w7.heap.size + 2, 0, none⟩) 2 2] _ _ from preds_Clauses 3 (some ⟨w7.heap.size + 2, 0, none⟩) 2 [[], [2]] _ (RS.two_rows (l := []) (m := [2]) F1.out (RS.nil _ _ _) (RS.lit_ints [2] (by decide) F0.out)) (by decide)).mono ?_
      rintro e w8 ⟨A8, k8, rfl, hr, hb⟩
      rw [cl5] at hr ⊢
      have N := Aside0.mk (N.out.below hb)
      have F0 := Aside0.mk (blk_below F0.out hb)
      have F1 := Aside0.mk (blk_below F1.out hb)
      clear hb
      have P_ := below_alloc (Below.refl w8.heap.size w8) (.cells #[.slice A8 zeroP.f0.length k8, .int .i64 zeroP.f1] 24)
      have N := Aside0.mk (N.out.add (RS.of_R' hr : RS kGate w8 A8 k8 zeroP.f0))
      have F0 := Aside0.mk (blk_below F0.out P_)
      have F1 := Aside0.mk (blk_below F1.out P_)
      clear P_ hr
      clear F0 F1
      have P_ := below_alloc (Below.refl (w8.alloc (.cells #[.slice A8 zeroP.f0.length k8, .int .i64 zeroP.f1] 24)).heap.size (w8.alloc (.cells #[.slice A8 zeroP.f0.length k8, .int .i64 zeroP.f1] 24))) (.cells #[.int .i64 2, .int .i64 4, .int .i64 6] 3)
      have N := Aside0.mk (N.out.below P_)
      clear P_
      have F0 := Aside0.mk (show ((w8.alloc (.cells #[.slice A8 zeroP.f0.length k8, .int .i64 zeroP.f1] 24)).alloc (.cells #[.int .i64 2, .int .i64 4, .int .i64 6] 3)).heap[w8.heap.size + 1]? = some (.cells #[.int .i64 2, .int .i64 4, .int .i64 6] 3 (0, 0)) from by simpa using blk_new (w8.alloc (.cells #[.slice A8 zeroP.f0.length k8, .int .i64 zeroP.f1] 24)) (.cells #[.int .i64 2, .int .i64 4, .int .i64 6] 3))
      have P_ := below_alloc (Below.refl ((w8.alloc (.cells #[.slice A8 zeroP.f0.length k8, .int .i64 zeroP.f1] 24)).alloc (.cells #[.int .i64 2, .int .i64 4, .int .i64 6] 3)).heap.size ((w8.alloc (.cells #[.slice A8 zeroP.f0.length k8, .int .i64 zeroP.f1] 24)).alloc (.cells #[.int .i64 2, .int .i64 4, .int .i64 6] 3))) (.cells #[.slice (some ⟨w8.heap.size + 1, 0, none⟩) 3 3] 27)
      have N := Aside0.mk (N.out.below P_)
      have F0 := Aside0.mk (blk_below F0.out P_)
      clear P_
      have F1 := Aside0.mk (show (((w8.alloc (.cells #[.slice A8 zeroP.f0.length k8, .int .i64 zeroP.f1] 24)).alloc (.cells #[.int .i64 2, .int .i64 4, .int .i64 6] 3)).alloc (.cells #[.slice (some ⟨w8.heap.size + 1, 0, none⟩) 3 3] 27)).heap[w8.heap.size + 2]? = some (.cells #[.slice (some ⟨w8.heap.size + 1, 0, none⟩) 3 3] 27 (0, 0)) from by simpa using blk_new ((w8.alloc (.cells #[.slice A8 zeroP.f0.length k8, .int .i64 zeroP.f1] 24)).alloc (.cells #[.int .i64 2, .int .i64 4, .int .i64 6] 3)) (.cells #[.slice (some ⟨w8.heap.size + 1, 0, none⟩) 3 3] 27))
      go_wp2_with fail
      refine (show Calls _ _ #[.int .i64 999, .slice (some ⟨w8.heap.size + 2, 0, none⟩) 1 1] _ _ from preds_Clauses 999 (some ⟨w8.heap.size + 2, 0, none⟩) 1 [[2, 4, 6]] _ (RS.one_row F1.out (RS.lit_ints [2, 4, 6] (by decide) F0.out)) (by decide)).mono ?_
      rintro e w9 ⟨A9, k9, rfl, hr, hb⟩
      rw [cl6] at hr ⊢
      have N := Aside0.mk (N.out.below hb)
      have F0 := Aside0.mk (blk_below F0.out hb)
      have F1 := Aside0.mk (blk_below F1.out hb)
      clear hb
      have P_ := below_alloc (Below.refl w9.heap.size w9) (.cells #[.slice A9 zeroP.f0.length k9, .int .i64 zeroP.f1] 24)
      have N := Aside0.mk (N.out.add (RS.of_R' hr : RS kGate w9 A9 k9 zeroP.f0))
      have F0 := Aside0.mk (blk_below F0.out P_)
      have F1 := Aside0.mk (blk_below F1.out P_)
      clear P_ hr
      clear F0 F1
      have P_ := below_alloc (Below.refl (w9.alloc (.cells #[.slice A9 zeroP.f0.length k9, .int .i64 zeroP.f1] 24)).heap.size (w9.alloc (.cells #[.slice A9 zeroP.f0.length k9, .int .i64 zeroP.f1] 24))) (.cells #[.int .i64 2, .int .i64 4] 3)
      have N := Aside0.mk (N.out.below P_)
      clear P_
      have F0 := Aside0.mk (show ((w9.alloc (.cells #[.slice A9 zeroP.f0.length k9, .int .i64 zeroP.f1] 24)).alloc (.cells #[.int .i64 2, .int .i64 4] 3)).heap[w9.heap.size + 1]? = some (.cells #[.int .i64 2, .int .i64 4] 3 (0, 0)) from by simpa using blk_new (w9.alloc (.cells #[.slice A9 zeroP.f0.length k9, .int .i64 zeroP.f1] 24)) (.cells #[.int .i64 2, .int .i64 4] 3))
      have P_ := below_alloc (Below.refl ((w9.alloc (.cells #[.slice A9 zeroP.f0.length k9, .int .i64 zeroP.f1] 24)).alloc (.cells #[.int .i64 2, .int .i64 4] 3)).heap.size ((w9.alloc (.cells #[.slice A9 zeroP.f0.length k9, .int .i64 zeroP.f1] 24)).alloc (.cells #[.int .i64 2, .int .i64 4] 3))) (.cells #[.int .i64 2, .int .i64 4] 3)
      have N := Aside0.mk (N.out.below P_)
      have F0 := Aside0.mk (blk_below F0.out P_)
      clear P_
      have F1 := Aside0.mk (show (((w9.alloc (.cells #[.slice A9 zeroP.f0.length k9, .int .i64 zeroP.f1] 24)).alloc (.cells #[.int .i64 2, .int .i64 4] 3)).alloc (.cells #[.int .i64 2, .int .i64 4] 3)).heap[w9.heap.size + 2]? = some (.cells #[.int .i64 2, .int .i64 4] 3 (0, 0)) from by simpa using blk_new ((w9.alloc (.cells #[.slice A9 zeroP.f0.length k9, .int .i64 zeroP.f1] 24)).alloc (.cells #[.int .i64 2, .int .i64 4] 3)) (.cells #[.int .i64 2, .int .i64 4] 3))
      have P_ := below_alloc (Below.refl (((w9.alloc (.cells #[.slice A9 zeroP.f0.length k9, .int .i64 zeroP.f1] 24)).alloc (.cells #[.int .i64 2, .int .i64 4] 3)).alloc (.cells #[.int .i64 2, .int .i64 4] 3)).heap.size (((w9.alloc (.cells #[.slice A9 zeroP.f0.length k9, .int .i64 zeroP.f1] 24)).alloc (.cells #[.int .i64 2, .int .i64 4] 3)).alloc (.cells #[.int .i64 2, .int .i64 4] 3))) (.cells #[.slice (some ⟨w9.heap.size + 1, 0, none⟩) 2 2, .slice (some ⟨w9.heap.size + 2, 0, none⟩) 2 2] 27)
      have N := Aside0.mk (N.out.below P_)
      have F0 := Aside0.mk (blk_below F0.out P_)
      have F1 := Aside0.mk (blk_below F1.out P_)
      clear P_
      have F2 := Aside0.mk (show ((((w9.alloc (.cells #[.slice A9 zeroP.f0.length k9, .int .i64 zeroP.f1] 24)).alloc (.cells #[.int .i64 2, .int .i64 4] 3)).alloc (.cells #[.int .i64 2, .int .i64 4] 3)).alloc (.cells #[.slice (some ⟨w9.heap.size + 1, 0, none⟩) 2 2, .slice (some ⟨w9.heap.size + 2, 0, none⟩) 2 2] 27)).heap[w9.heap.size + 3]? = some (.cells #[.slice (some ⟨w9.heap.size + 1, 0, none⟩) 2 2, .slice (some ⟨w9.heap.size + 2, 0, none⟩) 2 2] 27 (0, 0)) from by simpa using blk_new (((w9.alloc (.cells #[.slice A9 zeroP.f0.length k9, .int .i64 zeroP.f1] 24)).alloc (.cells #[.int .i64 2, .int .i64 4] 3)).alloc (.cells #[.int .i64 2, .int .i64 4] 3)) (.cells #[.slice (some ⟨w9.heap.size + 1, 0, none⟩) 2 2, .slice (some ⟨w9.heap.size + 2, 0, none⟩) 2 2] 27))
      go_wp2_with fail
      refine (show Calls _ _ #[.int .i64 999, .slice (some ⟨w9.heap.size + 3, 0, none⟩) 2 2] _ _ from preds_Clauses 999 (some ⟨w9.heap.size + 3, 0, none⟩) 2 [[2, 4], [2, 4]] _ (RS.two_rows (l := [2, 4]) (m := [2, 4]) F2.out (RS.lit_ints [2, 4] (by decide) F0.out) (RS.lit_ints [2, 4] (by decide) F1.out)) (by decide)).mono ?_
      rintro e w10 ⟨A10, k10, rfl, hr, hb⟩
      rw [cl7] at hr ⊢
      have N := Aside0.mk (N.out.below hb)
      have F0 := Aside0.mk (blk_below F0.out hb)
      have F1 := Aside0.mk (blk_below F1.out hb)
      have F2 := Aside0.mk (blk_below F2.out hb)
      clear hb
      have P_ := below_alloc (Below.refl w10.heap.size w10) (.cells #[.slice A10 oneP.f0.length k10, .int .i64 oneP.f1] 24)
      have N := Aside0.mk (N.out.add (RS.of_R' hr : RS kGate w10 A10 k10 oneP.f0))
      have F0 := Aside0.mk (blk_below F0.out P_)
      have F1 := Aside0.mk (blk_below F1.out P_)
      have F2 := Aside0.mk (blk_below F2.out P_)
      clear P_ hr
      clear F0 F1 F2
      obtain ⟨m0, m1⟩ := (blk2w N.out.M).1
      go_wp2_with fail
      refine (show Calls _ _ #[cv ⟨none, 0, none, 0, none, 0, none, 0⟩ negC, .agg #[.slice (some ⟨wr.heap.size, 0, none⟩) 1000 1000, .int .i64 (-1)], .slice none 0 0] _ _ from names_Put negC ⟨none, 0, none, 0, none, 0, none, 0⟩ (some ⟨wr.heap.size, 0, none⟩) 1000 none 0 [] _ ⟨RS.nil _ _ _, RS.nil _ _ _, RS.nil _ _ _, RS.nil _ _ _⟩ neg_fits N.out.R (RS.nil _ _ _) (by simp)).mono ?_
      rintro e w11 ⟨p11, rfl, hr, hb⟩
      rw [pu1] at hr ⊢
      have N := Aside0.mk (N.out.below hb)
      clear hb
      clear hr
      have P_ := below_alloc (Below.refl w11.heap.size w11) (.cells #[.int .i64 zeroC.f0, .slice p11.A1 zeroC.f1.length p11.c1, .slice p11.A2 zeroC.f2.length p11.c2, .slice p11.A3 zeroC.f3.length p11.c3, .slice p11.A4 zeroC.f4.length p11.c4] 29)
      have N := Aside0.mk (N.out.below P_)
      clear P_
      clear m0 m1
      obtain ⟨m0, m1⟩ := (blk2w N.out.M).1
      have P_ := below_alloc (Below.refl (w11.alloc (.cells #[.int .i64 zeroC.f0, .slice p11.A1 zeroC.f1.length p11.c1, .slice p11.A2 zeroC.f2.length p11.c2, .slice p11.A3 zeroC.f3.length p11.c3, .slice p11.A4 zeroC.f4.length p11.c4] 29)).heap.size (w11.alloc (.cells #[.int .i64 zeroC.f0, .slice p11.A1 zeroC.f1.length p11.c1, .slice p11.A2 zeroC.f2.length p11.c2, .slice p11.A3 zeroC.f3.length p11.c3, .slice p11.A4 zeroC.f4.length p11.c4] 29))) (.cells #[.int .i64 4] 3)
      have N := Aside0.mk (N.out.below P_)
      clear P_
      have F0 := Aside0.mk (show ((w11.alloc (.cells #[.int .i64 zeroC.f0, .slice p11.A1 zeroC.f1.length p11.c1, .slice p11.A2 zeroC.f2.length p11.c2, .slice p11.A3 zeroC.f3.length p11.c3, .slice p11.A4 zeroC.f4.length p11.c4] 29)).alloc (.cells #[.int .i64 4] 3)).heap[w11.heap.size + 1]? = some (.cells #[.int .i64 4] 3 (0, 0)) from by simpa using blk_new (w11.alloc (.cells #[.int .i64 zeroC.f0, .slice p11.A1 zeroC.f1.length p11.c1, .slice p11.A2 zeroC.f2.length p11.c2, .slice p11.A3 zeroC.f3.length p11.c3, .slice p11.A4 zeroC.f4.length p11.c4] 29)) (.cells #[.int .i64 4] 3))
      go_wp2_with fail
      refine (show Calls _ _ #[cv ⟨none, 0, none, 0, none, 0, none, 0⟩ oneC, .agg #[.slice (some ⟨wr.heap.size, 0, none⟩) 1000 1000, .int .i64 (-1)], .slice (some ⟨w11.heap.size + 1, 0, none⟩) 1 1] _ _ from names_Put oneC ⟨none, 0, none, 0, none, 0, none, 0⟩ (some ⟨wr.heap.size, 0, none⟩) 1000 (some ⟨w11.heap.size + 1, 0, none⟩) 1 [4] _ ⟨RS.nil _ _ _, RS.nil _ _ _, RS.nil _ _ _, RS.nil _ _ _⟩ one_fits N.out.R (RS.lit_ints [4] (by decide) F0.out) (by decide)).mono ?_
      rintro e w12 ⟨p12, rfl, hr, hb⟩
      rw [pu2] at hr ⊢
      have N := Aside0.mk (N.out.below hb)
      have F0 := Aside0.mk (blk_below F0.out hb)
      clear hb
      clear hr
      have P_ := below_alloc (Below.refl w12.heap.size w12) (.cells #[.int .i64 zeroC.f0, .slice p12.A1 zeroC.f1.length p12.c1, .slice p12.A2 zeroC.f2.length p12.c2, .slice p12.A3 zeroC.f3.length p12.c3, .slice p12.A4 zeroC.f4.length p12.c4] 29)
      have N := Aside0.mk (N.out.below P_)
      have F0 := Aside0.mk (blk_below F0.out P_)
      clear P_
      clear m0 m1
      clear F0
      go_wp2_with fail
      refine (law24_example _).mono ?_
      rintro e w13 ⟨A13, k13, rfl, hr, hb⟩
      have N := Aside0.mk (N.out.below hb)
      clear hb
      have X13 := Aside0.mk hr
      clear hr
      have P_ := below_alloc (Below.refl w13.heap.size w13) (.cells #[.int .i64 2, .int .i64 4] 3)
      have N := Aside0.mk (N.out.below P_)
      have X13 := Aside0.mk (X13.out.below P_)
      clear P_
      have F0 := Aside0.mk (show (w13.alloc (.cells #[.int .i64 2, .int .i64 4] 3)).heap[w13.heap.size]? = some (.cells #[.int .i64 2, .int .i64 4] 3 (0, 0)) from by simpa using blk_new w13 (.cells #[.int .i64 2, .int .i64 4] 3))
      go_wp2_with fail
      refine (show Calls _ _ #[cv ⟨none, 0, none, 0, none, 0, none, 0⟩ bigC, pv A13 k13 exP, .slice (some ⟨w13.heap.size, 0, none⟩) 2 2] _ _ from preds_Put ⟨none, 0, none, 0, none, 0, none, 0⟩ bigC A13 k13 exP (some ⟨w13.heap.size, 0, none⟩) 2 [2, 4] _ ⟨RS.nil _ _ _, RS.nil _ _ _, RS.nil _ _ _, RS.nil _ _ _⟩ big_fits X13.out ex_fits (RS.lit_ints [2, 4] (by decide) F0.out) (by decide)).mono ?_
      rintro e w14 ⟨p14, rfl, hr, hb⟩
      rw [pu3] at hr ⊢
      have N := Aside0.mk (N.out.below hb)
      have X13 := Aside0.mk (X13.out.below hb)
      have F0 := Aside0.mk (blk_below F0.out hb)
      clear hb
      clear hr
      have P_ := below_alloc (Below.refl w14.heap.size w14) (.cells #[.int .i64 zeroC.f0, .slice p14.A1 zeroC.f1.length p14.c1, .slice p14.A2 zeroC.f2.length p14.c2, .slice p14.A3 zeroC.f3.length p14.c3, .slice p14.A4 zeroC.f4.length p14.c4] 29)
      have N := Aside0.mk (N.out.below P_)
      have X13 := Aside0.mk (X13.out.below P_)
      have F0 := Aside0.mk (blk_below F0.out P_)
      clear P_
      clear F0 X13
      have P_ := below_alloc (Below.refl (w14.alloc (.cells #[.int .i64 zeroC.f0, .slice p14.A1 zeroC.f1.length p14.c1, .slice p14.A2 zeroC.f2.length p14.c2, .slice p14.A3 zeroC.f3.length p14.c3, .slice p14.A4 zeroC.f4.length p14.c4] 29)).heap.size (w14.alloc (.cells #[.int .i64 zeroC.f0, .slice p14.A1 zeroC.f1.length p14.c1, .slice p14.A2 zeroC.f2.length p14.c2, .slice p14.A3 zeroC.f3.length p14.c3, .slice p14.A4 zeroC.f4.length p14.c4] 29))) (.cells #[.int .i64 5, .int .i64 3] 71)
      have N := Aside0.mk (N.out.below P_)
      clear P_
      have F1 := Aside0.mk (show ((w14.alloc (.cells #[.int .i64 zeroC.f0, .slice p14.A1 zeroC.f1.length p14.c1, .slice p14.A2 zeroC.f2.length p14.c2, .slice p14.A3 zeroC.f3.length p14.c3, .slice p14.A4 zeroC.f4.length p14.c4] 29)).alloc (.cells #[.int .i64 5, .int .i64 3] 71)).heap[w14.heap.size + 1]? = some (.cells #[.int .i64 5, .int .i64 3] 71 (0, 0)) from by simpa using blk_new (w14.alloc (.cells #[.int .i64 zeroC.f0, .slice p14.A1 zeroC.f1.length p14.c1, .slice p14.A2 zeroC.f2.length p14.c2, .slice p14.A3 zeroC.f3.length p14.c3, .slice p14.A4 zeroC.f4.length p14.c4] 29)) (.cells #[.int .i64 5, .int .i64 3] 71))
      go_wp2_with fail
      refine (law24_example _).mono ?_
      rintro e w15 ⟨A15, k15, rfl, hr, hb⟩
      have N := Aside0.mk (N.out.below hb)
      have F1 := Aside0.mk (blk_below F1.out hb)
      clear hb
      have X15 := Aside0.mk hr
      clear hr
      have P_ := below_alloc (Below.refl w15.heap.size w15) (.cells #[.int .i64 2, .int .i64 4] 3)
      have N := Aside0.mk (N.out.below P_)
      have F1 := Aside0.mk (blk_below F1.out P_)
      have X15 := Aside0.mk (X15.out.below P_)
      clear P_
      have F0 := Aside0.mk (show (w15.alloc (.cells #[.int .i64 2, .int .i64 4] 3)).heap[w15.heap.size]? = some (.cells #[.int .i64 2, .int .i64 4] 3 (0, 0)) from by simpa using blk_new w15 (.cells #[.int .i64 2, .int .i64 4] 3))
      go_wp2_with fail
      refine (show Calls _ _ #[cv ⟨none, 0, some ⟨w14.heap.size + 1, 0, none⟩, 1, none, 0, none, 0⟩ oneG, pv A15 k15 exP, .slice (some ⟨w15.heap.size, 0, none⟩) 2 2] _ _ from preds_Put ⟨none, 0, some ⟨w14.heap.size + 1, 0, none⟩, 1, none, 0, none, 0⟩ oneG A15 k15 exP (some ⟨w15.heap.size, 0, none⟩) 2 [2, 4] _ ⟨RS.nil _ _ _, RS.one_gate F1.out, RS.nil _ _ _, RS.nil _ _ _⟩ oneG_fits X15.out ex_fits (RS.lit_ints [2, 4] (by decide) F0.out) (by decide)).mono ?_
      rintro e w16 ⟨p16, rfl, hr, hb⟩
      rw [pu4] at hr ⊢
      have N := Aside0.mk (N.out.below hb)
      have F1 := Aside0.mk (blk_below F1.out hb)
      have X15 := Aside0.mk (X15.out.below hb)
      have F0 := Aside0.mk (blk_below F0.out hb)
      clear hb
      clear hr
      have P_ := below_alloc (Below.refl w16.heap.size w16) (.cells #[.int .i64 twoG.f0, .slice p16.A1 twoG.f1.length p16.c1, .slice p16.A2 twoG.f2.length p16.c2, .slice p16.A3 twoG.f3.length p16.c3, .slice p16.A4 twoG.f4.length p16.c4] 29)
      have N := Aside0.mk (N.out.below P_)
      have F1 := Aside0.mk (blk_below F1.out P_)
      have X15 := Aside0.mk (X15.out.below P_)
      have F0 := Aside0.mk (blk_below F0.out P_)
      clear P_
      have GS := Aside0.mk (show (w16.alloc (.cells #[.int .i64 twoG.f0, .slice p16.A1 twoG.f1.length p16.c1, .slice p16.A2 twoG.f2.length p16.c2, .slice p16.A3 twoG.f3.length p16.c3, .slice p16.A4 twoG.f4.length p16.c4] 29)).heap[w16.heap.size]? = some (.cells #[.int .i64 twoG.f0, .slice p16.A1 twoG.f1.length p16.c1, .slice p16.A2 twoG.f2.length p16.c2, .slice p16.A3 twoG.f3.length p16.c3, .slice p16.A4 twoG.f4.length p16.c4] 29 (0, 0)) from by simpa using blk_new w16 (.cells #[.int .i64 twoG.f0, .slice p16.A1 twoG.f1.length p16.c1, .slice p16.A2 twoG.f2.length p16.c2, .slice p16.A3 twoG.f3.length p16.c3, .slice p16.A4 twoG.f4.length p16.c4] 29))
      clear F0 F1 X15
      go_wp2_with fail
      refine (law24_example _).mono ?_
      rintro e w17 ⟨A17, k17, rfl, hr, hb⟩
      have N := Aside0.mk (N.out.below hb)
      have GS := Aside0.mk (blk_below GS.out hb)
      clear hb
      have X17 := Aside0.mk hr
      clear hr
      go_wp2_with fail
      refine (law24_example _).mono ?_
      rintro e w18 ⟨A18, k18, rfl, hr, hb⟩
      have N := Aside0.mk (N.out.below hb)
      have GS := Aside0.mk (blk_below GS.out hb)
      have X17 := Aside0.mk (X17.out.below hb)
      clear hb
      have X18 := Aside0.mk hr
      clear hr
      go_wp2_with fail
      refine (show Calls _ _ #[.int .i64 2, pv A17 k17 exP, pv A18 k18 exP] _ _ from preds_And 2 A17 k17 exP A18 k18 exP _ X17.out ex_fits X18.out ex_fits).mono ?_
      rintro e w19 ⟨A19, k19, rfl, hr, hb⟩
      rw [an1] at hr ⊢
      have N := Aside0.mk (N.out.below hb)
      have GS := Aside0.mk (blk_below GS.out hb)
      have X17 := Aside0.mk (X17.out.below hb)
      have X18 := Aside0.mk (X18.out.below hb)
      clear hb
      have P_ := below_alloc (Below.refl w19.heap.size w19) (.cells #[.slice A19 exP.f0.length k19, .int .i64 exP.f1] 24)
      have N := Aside0.mk (N.out.add (RS.of_R' hr : RS kGate w19 A19 k19 exP.f0))
      have GS := Aside0.mk (blk_below GS.out P_)
      have X17 := Aside0.mk (X17.out.below P_)
      have X18 := Aside0.mk (X18.out.below P_)
      clear P_ hr
      clear X17 X18
      go_wp2
      have N := Aside0.mk (N.out.below (below_drew (Below.refl _ _)))
      have GS := Aside0.mk (blk_below GS.out (below_drew (Below.refl _ _)))
      have HSP := Aside0.mk (show (fun w' : World => w'.cell? ⟨w7.heap.size, 0, none⟩ = some (.slice A7 trueP.f0.length k7) ∧ w'.cell? ⟨w7.heap.size, 1, none⟩ = some (.int .i64 trueP.f1) ∧ w'.cell? ⟨w8.heap.size, 1, none⟩ = some (.int .i64 0) ∧ w'.cell? ⟨w10.heap.size, 0, none⟩ = some (.slice A10 1 k10) ∧ w'.cell? ⟨w10.heap.size, 1, none⟩ = some (.int .i64 2001) ∧ w'.cell? ⟨w16.heap.size, 2, none⟩ = some (.slice p16.A2 2 p16.c2) ∧ w'.cell? ⟨w19.heap.size, 0, none⟩ = some (.slice A19 exP.f0.length k19) ∧ w'.cell? ⟨w19.heap.size, 1, none⟩ = some (.int .i64 exP.f1)) ((w19.alloc (.cells #[.slice A19 exP.f0.length k19, .int .i64 exP.f1] 24)).drew) from ⟨(blk2w (N.out.K _ (.tail _ (.tail _ (.tail _ (.tail _ (.head _)))))).b).1.1, (blk2w (N.out.K _ (.tail _ (.tail _ (.tail _ (.tail _ (.head _)))))).b).1.2, (blk2w (N.out.K _ (.tail _ (.tail _ (.tail _ (.head _))))).b).1.2, (blk2w (N.out.K _ (.tail _ (.head _))).b).1.1, (blk2w (N.out.K _ (.tail _ (.head _))).b).1.2, (blk5w GS.out).1.2.2.1, (blk2w (N.out.K _ (.head _)).b).1.1, (blk2w (N.out.K _ (.head _)).b).1.2⟩)
      refine start_ (n := 106) (S := (fun w' => w'.cell? ⟨w7.heap.size, 0, none⟩ = some (.slice A7 trueP.f0.length k7) ∧ w'.cell? ⟨w7.heap.size, 1, none⟩ = some (.int .i64 trueP.f1) ∧ w'.cell? ⟨w8.heap.size, 1, none⟩ = some (.int .i64 0) ∧ w'.cell? ⟨w10.heap.size, 0, none⟩ = some (.slice A10 1 k10) ∧ w'.cell? ⟨w10.heap.size, 1, none⟩ = some (.int .i64 2001) ∧ w'.cell? ⟨w16.heap.size, 2, none⟩ = some (.slice p16.A2 2 p16.c2) ∧ w'.cell? ⟨w19.heap.size, 0, none⟩ = some (.slice A19 exP.f0.length k19) ∧ w'.cell? ⟨w19.heap.size, 1, none⟩ = some (.int .i64 exP.f1))) (ds := []) #[false, false, false, false, false, false, false, false, false, false, false, false, false, false, false, false, false, false, false, false, false, false, false, false, false, false, false, false, false, false, false, false, false, false, false, false, false, false, false, false, false, false, false, false, false, false, false, false, false, false, false, false, false, false, false, false, false, false, false, false, false, false, false, false, false, false, false, false, false, false, false, false, false, false, false, false, false, false, false, false, false, false, false, false, false, false, false, false, false, false, false, false, false, false, false, false, false, false, false, false, false, false, false, false, false, false] (by as_aux_lemma => kernel_rfl) rfl rfl HSP.out (fun hHeld => ?_)
      refine pure_ (i := 0) (N := some 221) (v := ?_) (a' := ?_) #[true, false, false, false, false, false, false, false, false, false, false, false, false, false, false, false, false, false, false, false, false, false, false, false, false, false, false, false, false, false, false, false, false, false, false, false, false, false, false, false, false, false, false, false, false, false, false, false, false, false, false, false, false, false, false, false, false, false, false, false, false, false, false, false, false, false, false, false, false, false, false, false, false, false, false, false, false, false, false, false, false, false, false, false, false, false, false, false, false, false, false, false, false, false, false, false, false, false, false, false, false, false, false, false, false, false] rfl rfl (by as_aux_lemma => kernel_rfl) (fun _ _ _ h => h) (Or.inl ⟨by rfl, ?_⟩) ?_ ?_
      rotate_left
      · intro w'
        go_simp
        with_reducible rfl
      rotate_left
      · simp only [Act.put, List.setIfInBounds_toArray, List.set_cons_zero, List.set_cons_succ]
        rfl
      refine one_ (i := 1) (N := some 222) #[true, true, false, false, false, false, false, false, false, false, false, false, false, false, false, false, false, false, false, false, false, false, false, false, false, false, false, false, false, false, false, false, false, false, false, false, false, false, false, false, false, false, false, false, false, false, false, false, false, false, false, false, false, false, false, false, false, false, false, false, false, false, false, false, false, false, false, false, false, false, false, false, false, false, false, false, false, false, false, false, false, false, false, false, false, false, false, false, false, false, false, false, false, false, false, false, false, false, false, false, false, false, false, false, false, false] rfl rfl (by as_aux_lemma => kernel_rfl) (by decide) (fun K hK => ?_)
      refine goes_ Try.func30 (by as_aux_lemma => kernel_rfl) rfl #[] (by rfl) rfl rfl (by simp only [List.map_toArray, List.map_cons, List.map_nil] <;> rfl) ?_
      refine (show Calls _ _ #[] _ _ from law24_alive _).mono ?_
      rintro e w20 ⟨rfl, hb⟩
      refine ⟨_, rfl, ?_⟩
      have N := Aside0.mk (N.out.below hb)
      have GS := Aside0.mk (blk_below GS.out hb)
      clear hb HSP
      have HSP := Aside0.mk (show (fun w' : World => w'.cell? ⟨w7.heap.size, 0, none⟩ = some (.slice A7 trueP.f0.length k7) ∧ w'.cell? ⟨w7.heap.size, 1, none⟩ = some (.int .i64 trueP.f1) ∧ w'.cell? ⟨w8.heap.size, 1, none⟩ = some (.int .i64 0) ∧ w'.cell? ⟨w10.heap.size, 0, none⟩ = some (.slice A10 1 k10) ∧ w'.cell? ⟨w10.heap.size, 1, none⟩ = some (.int .i64 2001) ∧ w'.cell? ⟨w16.heap.size, 2, none⟩ = some (.slice p16.A2 2 p16.c2) ∧ w'.cell? ⟨w19.heap.size, 0, none⟩ = some (.slice A19 exP.f0.length k19) ∧ w'.cell? ⟨w19.heap.size, 1, none⟩ = some (.int .i64 exP.f1)) w20 from ⟨(blk2w (N.out.K _ (.tail _ (.tail _ (.tail _ (.tail _ (.head _)))))).b).1.1, (blk2w (N.out.K _ (.tail _ (.tail _ (.tail _ (.tail _ (.head _)))))).b).1.2, (blk2w (N.out.K _ (.tail _ (.tail _ (.tail _ (.head _))))).b).1.2, (blk2w (N.out.K _ (.tail _ (.head _))).b).1.1, (blk2w (N.out.K _ (.tail _ (.head _))).b).1.2, (blk5w GS.out).1.2.2.1, (blk2w (N.out.K _ (.head _)).b).1.1, (blk2w (N.out.K _ (.head _)).b).1.2⟩)
      refine hK.out _ _ HSP.out (fun hHeld => ?_)
      clear hK K
      refine norm_ (a' := ?_) ?_ ?_
      rotate_left
      · show Act.put _ (some 222) _ = _
        simp only [Act.put, List.setIfInBounds_toArray, List.set_cons_zero, List.set_cons_succ]
        rfl
      refine pure_ (i := 2) (N := some 223) (v := ?_) (a' := ?_) #[true, true, true, false, false, false, false, false, false, false, false, false, false, false, false, false, false, false, false, false, false, false, false, false, false, false, false, false, false, false, false, false, false, false, false, false, false, false, false, false, false, false, false, false, false, false, false, false, false, false, false, false, false, false, false, false, false, false, false, false, false, false, false, false, false, false, false, false, false, false, false, false, false, false, false, false, false, false, false, false, false, false, false, false, false, false, false, false, false, false, false, false, false, false, false, false, false, false, false, false, false, false, false, false, false, false] rfl rfl (by as_aux_lemma => kernel_rfl) (fun _ _ _ h => h) (Or.inl ⟨by rfl, ?_⟩) ?_ ?_
      rotate_left
      · intro w'
        go_simp
        with_reducible rfl
      rotate_left
      · simp only [Act.put, List.setIfInBounds_toArray, List.set_cons_zero, List.set_cons_succ]
        rfl
      refine pure_ (i := 3) (N := some 224) (v := ?_) (a' := ?_) #[true, true, true, true, false, false, false, false, false, false, false, false, false, false, false, false, false, false, false, false, false, false, false, false, false, false, false, false, false, false, false, false, false, false, false, false, false, false, false, false, false, false, false, false, false, false, false, false, false, false, false, false, false, false, false, false, false, false, false, false, false, false, false, false, false, false, false, false, false, false, false, false, false, false, false, false, false, false, false, false, false, false, false, false, false, false, false, false, false, false, false, false, false, false, false, false, false, false, false, false, false, false, false, false, false, false] rfl rfl (by as_aux_lemma => kernel_rfl) (fun _ _ _ h => h) (Or.inl ⟨by rfl, ?_⟩) ?_ ?_
      rotate_left
      · intro w'
        go_simp
        with_reducible rfl
      rotate_left
      · simp only [Act.put, List.setIfInBounds_toArray, List.set_cons_zero, List.set_cons_succ]
        rfl
      refine pure_ (i := 4) (N := some 225) (v := ?_) (a' := ?_) #[true, true, true, true, true, false, false, false, false, false, false, false, false, false, false, false, false, false, false, false, false, false, false, false, false, false, false, false, false, false, false, false, false, false, false, false, false, false, false, false, false, false, false, false, false, false, false, false, false, false, false, false, false, false, false, false, false, false, false, false, false, false, false, false, false, false, false, false, false, false, false, false, false, false, false, false, false, false, false, false, false, false, false, false, false, false, false, false, false, false, false, false, false, false, false, false, false, false, false, false, false, false, false, false, false, false] rfl rfl (by as_aux_lemma => kernel_rfl) (fun _ _ _ h => h) (Or.inl ⟨by rfl, ?_⟩) ?_ ?_
      rotate_left
      · intro w'
        go_simp
        with_reducible rfl
      rotate_left
      · simp only [Act.put, List.setIfInBounds_toArray, List.set_cons_zero, List.set_cons_succ]
        rfl
      refine pure_ (i := 5) (N := some 226) (v := ?_) (a' := ?_) #[true, true, true, true, true, true, false, false, false, false, false, false, false, false, false, false, false, false, false, false, false, false, false, false, false, false, false, false, false, false, false, false, false, false, false, false, false, false, false, false, false, false, false, false, false, false, false, false, false, false, false, false, false, false, false, false, false, false, false, false, false, false, false, false, false, false, false, false, false, false, false, false, false, false, false, false, false, false, false, false, false, false, false, false, false, false, false, false, false, false, false, false, false, false, false, false, false, false, false, false, false, false, false, false, false, false] rfl rfl (by as_aux_lemma => kernel_rfl) (fun _ _ _ h => h) (Or.inl ⟨by rfl, ?_⟩) ?_ ?_
      rotate_left
      · intro w'
        go_simp
        with_reducible rfl
      rotate_left
      · simp only [Act.put, List.setIfInBounds_toArray, List.set_cons_zero, List.set_cons_succ]
        rfl
      refine pure_ (i := 6) (N := some 227) (v := ?_) (a' := ?_) #[true, true, true, true, true, true, true, false, false, false, false, false, false, false, false, false, false, false, false, false, false, false, false, false, false, false, false, false, false, false, false, false, false, false, false, false, false, false, false, false, false, false, false, false, false, false, false, false, false, false, false, false, false, false, false, false, false, false, false, false, false, false, false, false, false, false, false, false, false, false, false, false, false, false, false, false, false, false, false, false, false, false, false, false, false, false, false, false, false, false, false, false, false, false, false, false, false, false, false, false, false, false, false, false, false, false] rfl rfl (by as_aux_lemma => kernel_rfl) (fun _ _ _ h => h) (Or.inl ⟨by rfl, ?_⟩) ?_ ?_
      rotate_left
      · intro w'
        go_simp
        with_reducible rfl
      rotate_left
      · simp only [Act.put, List.setIfInBounds_toArray, List.set_cons_zero, List.set_cons_succ]
        rfl
      refine pure_ (i := 7) (N := some 228) (v := ?_) (a' := ?_) #[true, true, true, true, true, true, true, true, false, false, false, false, false, false, false, false, false, false, false, false, false, false, false, false, false, false, false, false, false, false, false, false, false, false, false, false, false, false, false, false, false, false, false, false, false, false, false, false, false, false, false, false, false, false, false, false, false, false, false, false, false, false, false, false, false, false, false, false, false, false, false, false, false, false, false, false, false, false, false, false, false, false, false, false, false, false, false, false, false, false, false, false, false, false, false, false, false, false, false, false, false, false, false, false, false, false] rfl rfl (by as_aux_lemma => kernel_rfl) (fun _ _ _ h => h) (Or.inl ⟨by rfl, ?_⟩) ?_ ?_
      rotate_left
      · intro w'
        go_simp
        with_reducible rfl
      rotate_left
      · simp only [Act.put, List.setIfInBounds_toArray, List.set_cons_zero, List.set_cons_succ]
        rfl
      refine pure_ (i := 8) (N := some 229) (v := ?_) (a' := ?_) #[true, true, true, true, true, true, true, true, true, false, false, false, false, false, false, false, false, false, false, false, false, false, false, false, false, false, false, false, false, false, false, false, false, false, false, false, false, false, false, false, false, false, false, false, false, false, false, false, false, false, false, false, false, false, false, false, false, false, false, false, false, false, false, false, false, false, false, false, false, false, false, false, false, false, false, false, false, false, false, false, false, false, false, false, false, false, false, false, false, false, false, false, false, false, false, false, false, false, false, false, false, false, false, false, false, false] rfl rfl (by as_aux_lemma => kernel_rfl) (fun _ _ _ h => h) (Or.inl ⟨by rfl, ?_⟩) ?_ ?_
      rotate_left
      · intro w'
        go_simp
        with_reducible rfl
      rotate_left
      · simp only [Act.put, List.setIfInBounds_toArray, List.set_cons_zero, List.set_cons_succ]
        rfl
      refine pure_ (i := 9) (N := some 230) (v := ?_) (a' := ?_) #[true, true, true, true, true, true, true, true, true, true, false, false, false, false, false, false, false, false, false, false, false, false, false, false, false, false, false, false, false, false, false, false, false, false, false, false, false, false, false, false, false, false, false, false, false, false, false, false, false, false, false, false, false, false, false, false, false, false, false, false, false, false, false, false, false, false, false, false, false, false, false, false, false, false, false, false, false, false, false, false, false, false, false, false, false, false, false, false, false, false, false, false, false, false, false, false, false, false, false, false, false, false, false, false, false, false] rfl rfl (by as_aux_lemma => kernel_rfl) (fun _ _ _ h => h) (Or.inl ⟨by rfl, ?_⟩) ?_ ?_
      rotate_left
      · intro w'
        go_simp
        with_reducible rfl
      rotate_left
      · simp only [Act.put, List.setIfInBounds_toArray, List.set_cons_zero, List.set_cons_succ]
        rfl
      refine pure_ (i := 10) (N := some 231) (v := ?_) (a' := ?_) #[true, true, true, true, true, true, true, true, true, true, true, false, false, false, false, false, false, false, false, false, false, false, false, false, false, false, false, false, false, false, false, false, false, false, false, false, false, false, false, false, false, false, false, false, false, false, false, false, false, false, false, false, false, false, false, false, false, false, false, false, false, false, false, false, false, false, false, false, false, false, false, false, false, false, false, false, false, false, false, false, false, false, false, false, false, false, false, false, false, false, false, false, false, false, false, false, false, false, false, false, false, false, false, false, false, false] rfl rfl (by as_aux_lemma => kernel_rfl) (fun _ _ _ h => h) (Or.inl ⟨by rfl, ?_⟩) ?_ ?_
      rotate_left
      · intro w'
        go_simp
        with_reducible rfl
      rotate_left
      · simp only [Act.put, List.setIfInBounds_toArray, List.set_cons_zero, List.set_cons_succ]
        rfl
      refine pure_ (i := 11) (N := some 232) (v := ?_) (a' := ?_) #[true, true, true, true, true, true, true, true, true, true, true, true, false, false, false, false, false, false, false, false, false, false, false, false, false, false, false, false, false, false, false, false, false, false, false, false, false, false, false, false, false, false, false, false, false, false, false, false, false, false, false, false, false, false, false, false, false, false, false, false, false, false, false, false, false, false, false, false, false, false, false, false, false, false, false, false, false, false, false, false, false, false, false, false, false, false, false, false, false, false, false, false, false, false, false, false, false, false, false, false, false, false, false, false, false, false] rfl rfl (by as_aux_lemma => kernel_rfl) (fun _ _ _ h => h) (Or.inl ⟨by rfl, ?_⟩) ?_ ?_
      rotate_left
      · intro w'
        go_simp
        with_reducible rfl
      rotate_left
      · simp only [Act.put, List.setIfInBounds_toArray, List.set_cons_zero, List.set_cons_succ]
        rfl
      refine pure_ (i := 12) (N := some 233) (v := ?_) (a' := ?_) #[true, true, true, true, true, true, true, true, true, true, true, true, true, false, false, false, false, false, false, false, false, false, false, false, false, false, false, false, false, false, false, false, false, false, false, false, false, false, false, false, false, false, false, false, false, false, false, false, false, false, false, false, false, false, false, false, false, false, false, false, false, false, false, false, false, false, false, false, false, false, false, false, false, false, false, false, false, false, false, false, false, false, false, false, false, false, false, false, false, false, false, false, false, false, false, false, false, false, false, false, false, false, false, false, false, false] rfl rfl (by as_aux_lemma => kernel_rfl) (fun _ _ _ h => h) (Or.inl ⟨by rfl, ?_⟩) ?_ ?_
      rotate_left
      · intro w'
        go_simp
        with_reducible rfl
      rotate_left
      · simp only [Act.put, List.setIfInBounds_toArray, List.set_cons_zero, List.set_cons_succ]
        rfl
      refine pure_ (i := 13) (N := some 234) (v := ?_) (a' := ?_) #[true, true, true, true, true, true, true, true, true, true, true, true, true, true, false, false, false, false, false, false, false, false, false, false, false, false, false, false, false, false, false, false, false, false, false, false, false, false, false, false, false, false, false, false, false, false, false, false, false, false, false, false, false, false, false, false, false, false, false, false, false, false, false, false, false, false, false, false, false, false, false, false, false, false, false, false, false, false, false, false, false, false, false, false, false, false, false, false, false, false, false, false, false, false, false, false, false, false, false, false, false, false, false, false, false, false] rfl rfl (by as_aux_lemma => kernel_rfl) (fun _ _ _ h => h) (Or.inl ⟨by rfl, ?_⟩) ?_ ?_
      rotate_left
      · intro w'
        go_simp
        with_reducible rfl
      rotate_left
      · simp only [Act.put, List.setIfInBounds_toArray, List.set_cons_zero, List.set_cons_succ]
        rfl
      refine pure_ (i := 14) (N := some 235) (v := ?_) (a' := ?_) #[true, true, true, true, true, true, true, true, true, true, true, true, true, true, true, false, false, false, false, false, false, false, false, false, false, false, false, false, false, false, false, false, false, false, false, false, false, false, false, false, false, false, false, false, false, false, false, false, false, false, false, false, false, false, false, false, false, false, false, false, false, false, false, false, false, false, false, false, false, false, false, false, false, false, false, false, false, false, false, false, false, false, false, false, false, false, false, false, false, false, false, false, false, false, false, false, false, false, false, false, false, false, false, false, false, false] rfl rfl (by as_aux_lemma => kernel_rfl) (fun _ _ _ h => h) (Or.inl ⟨by rfl, ?_⟩) ?_ ?_
      rotate_left
      · intro w'
        go_simp
        with_reducible rfl
      rotate_left
      · simp only [Act.put, List.setIfInBounds_toArray, List.set_cons_zero, List.set_cons_succ]
        rfl
      refine pure_ (i := 15) (N := some 236) (v := ?_) (a' := ?_) #[true, true, true, true, true, true, true, true, true, true, true, true, true, true, true, true, false, false, false, false, false, false, false, false, false, false, false, false, false, false, false, false, false, false, false, false, false, false, false, false, false, false, false, false, false, false, false, false, false, false, false, false, false, false, false, false, false, false, false, false, false, false, false, false, false, false, false, false, false, false, false, false, false, false, false, false, false, false, false, false, false, false, false, false, false, false, false, false, false, false, false, false, false, false, false, false, false, false, false, false, false, false, false, false, false, false] rfl rfl (by as_aux_lemma => kernel_rfl) (fun _ _ _ h => h) (Or.inl ⟨by rfl, ?_⟩) ?_ ?_
      rotate_left
      · intro w'
        go_simp
        with_reducible rfl
      rotate_left
      · simp only [Act.put, List.setIfInBounds_toArray, List.set_cons_zero, List.set_cons_succ]
        rfl
      refine pure_ (i := 16) (N := some 237) (v := ?_) (a' := ?_) #[true, true, true, true, true, true, true, true, true, true, true, true, true, true, true, true, true, false, false, false, false, false, false, false, false, false, false, false, false, false, false, false, false, false, false, false, false, false, false, false, false, false, false, false, false, false, false, false, false, false, false, false, false, false, false, false, false, false, false, false, false, false, false, false, false, false, false, false, false, false, false, false, false, false, false, false, false, false, false, false, false, false, false, false, false, false, false, false, false, false, false, false, false, false, false, false, false, false, false, false, false, false, false, false, false, false] rfl rfl (by as_aux_lemma => kernel_rfl) (fun _ _ _ h => h) (Or.inl ⟨by rfl, ?_⟩) ?_ ?_
      rotate_left
      · intro w'
        go_simp
        with_reducible rfl
      rotate_left
      · simp only [Act.put, List.setIfInBounds_toArray, List.set_cons_zero, List.set_cons_succ]
        rfl
      refine pure_ (i := 17) (N := some 238) (v := ?_) (a' := ?_) #[true, true, true, true, true, true, true, true, true, true, true, true, true, true, true, true, true, true, false, false, false, false, false, false, false, false, false, false, false, false, false, false, false, false, false, false, false, false, false, false, false, false, false, false, false, false, false, false, false, false, false, false, false, false, false, false, false, false, false, false, false, false, false, false, false, false, false, false, false, false, false, false, false, false, false, false, false, false, false, false, false, false, false, false, false, false, false, false, false, false, false, false, false, false, false, false, false, false, false, false, false, false, false, false, false, false] rfl rfl (by as_aux_lemma => kernel_rfl) (fun _ _ _ h => h) (Or.inl ⟨by rfl, ?_⟩) ?_ ?_
      rotate_left
      · intro w'
        go_simp
        with_reducible rfl
      rotate_left
      · simp only [Act.put, List.setIfInBounds_toArray, List.set_cons_zero, List.set_cons_succ]
        rfl
      refine pure_ (i := 18) (N := some 239) (v := ?_) (a' := ?_) #[true, true, true, true, true, true, true, true, true, true, true, true, true, true, true, true, true, true, true, false, false, false, false, false, false, false, false, false, false, false, false, false, false, false, false, false, false, false, false, false, false, false, false, false, false, false, false, false, false, false, false, false, false, false, false, false, false, false, false, false, false, false, false, false, false, false, false, false, false, false, false, false, false, false, false, false, false, false, false, false, false, false, false, false, false, false, false, false, false, false, false, false, false, false, false, false, false, false, false, false, false, false, false, false, false, false] rfl rfl (by as_aux_lemma => kernel_rfl) (fun _ _ _ h => h) (Or.inl ⟨by rfl, ?_⟩) ?_ ?_
      rotate_left
      · intro w'
        go_simp
        with_reducible rfl
      rotate_left
      · simp only [Act.put, List.setIfInBounds_toArray, List.set_cons_zero, List.set_cons_succ]
        rfl
      refine pure_ (i := 19) (N := some 240) (v := ?_) (a' := ?_) #[true, true, true, true, true, true, true, true, true, true, true, true, true, true, true, true, true, true, true, true, false, false, false, false, false, false, false, false, false, false, false, false, false, false, false, false, false, false, false, false, false, false, false, false, false, false, false, false, false, false, false, false, false, false, false, false, false, false, false, false, false, false, false, false, false, false, false, false, false, false, false, false, false, false, false, false, false, false, false, false, false, false, false, false, false, false, false, false, false, false, false, false, false, false, false, false, false, false, false, false, false, false, false, false, false, false] rfl rfl (by as_aux_lemma => kernel_rfl) (fun _ _ _ h => h) (Or.inl ⟨by rfl, ?_⟩) ?_ ?_
      rotate_left
      · intro w'
        go_simp
        with_reducible rfl
      rotate_left
      · simp only [Act.put, List.setIfInBounds_toArray, List.set_cons_zero, List.set_cons_succ]
        rfl
      refine pure_ (i := 20) (N := some 241) (v := ?_) (a' := ?_) #[true, true, true, true, true, true, true, true, true, true, true, true, true, true, true, true, true, true, true, true, true, false, false, false, false, false, false, false, false, false, false, false, false, false, false, false, false, false, false, false, false, false, false, false, false, false, false, false, false, false, false, false, false, false, false, false, false, false, false, false, false, false, false, false, false, false, false, false, false, false, false, false, false, false, false, false, false, false, false, false, false, false, false, false, false, false, false, false, false, false, false, false, false, false, false, false, false, false, false, false, false, false, false, false, false, false] rfl rfl (by as_aux_lemma => kernel_rfl) (fun _ _ _ h => h) (Or.inl ⟨by rfl, ?_⟩) ?_ ?_
      rotate_left
      · intro w'
        go_simp
        with_reducible rfl
      rotate_left
      · simp only [Act.put, List.setIfInBounds_toArray, List.set_cons_zero, List.set_cons_succ]
        rfl
      refine pure_ (i := 21) (N := some 242) (v := ?_) (a' := ?_) #[true, true, true, true, true, true, true, true, true, true, true, true, true, true, true, true, true, true, true, true, true, true, false, false, false, false, false, false, false, false, false, false, false, false, false, false, false, false, false, false, false, false, false, false, false, false, false, false, false, false, false, false, false, false, false, false, false, false, false, false, false, false, false, false, false, false, false, false, false, false, false, false, false, false, false, false, false, false, false, false, false, false, false, false, false, false, false, false, false, false, false, false, false, false, false, false, false, false, false, false, false, false, false, false, false, false] rfl rfl (by as_aux_lemma => kernel_rfl) (fun _ _ _ h => h) (Or.inl ⟨by rfl, ?_⟩) ?_ ?_
      rotate_left
      · intro w'
        go_simp
        with_reducible rfl
      rotate_left
      · simp only [Act.put, List.setIfInBounds_toArray, List.set_cons_zero, List.set_cons_succ]
        rfl
      refine pure_ (i := 22) (N := some 243) (v := ?_) (a' := ?_) #[true, true, true, true, true, true, true, true, true, true, true, true, true, true, true, true, true, true, true, true, true, true, true, false, false, false, false, false, false, false, false, false, false, false, false, false, false, false, false, false, false, false, false, false, false, false, false, false, false, false, false, false, false, false, false, false, false, false, false, false, false, false, false, false, false, false, false, false, false, false, false, false, false, false, false, false, false, false, false, false, false, false, false, false, false, false, false, false, false, false, false, false, false, false, false, false, false, false, false, false, false, false, false, false, false, false] rfl rfl (by as_aux_lemma => kernel_rfl) (fun _ _ _ h => h) (Or.inl ⟨by rfl, ?_⟩) ?_ ?_
      rotate_left
      · intro w'
        go_simp
        with_reducible rfl
      rotate_left
      · simp only [Act.put, List.setIfInBounds_toArray, List.set_cons_zero, List.set_cons_succ]
        rfl
      refine pure_ (i := 23) (N := some 244) (v := ?_) (a' := ?_) #[true, true, true, true, true, true, true, true, true, true, true, true, true, true, true, true, true, true, true, true, true, true, true, true, false, false, false, false, false, false, false, false, false, false, false, false, false, false, false, false, false, false, false, false, false, false, false, false, false, false, false, false, false, false, false, false, false, false, false, false, false, false, false, false, false, false, false, false, false, false, false, false, false, false, false, false, false, false, false, false, false, false, false, false, false, false, false, false, false, false, false, false, false, false, false, false, false, false, false, false, false, false, false, false, false, false] rfl rfl (by as_aux_lemma => kernel_rfl) (fun _ _ _ h => h) (Or.inl ⟨by rfl, ?_⟩) ?_ ?_
      rotate_left
      · intro w'
        go_simp
        with_reducible rfl
      rotate_left
      · simp only [Act.put, List.setIfInBounds_toArray, List.set_cons_zero, List.set_cons_succ]
        rfl
      refine pure_ (i := 24) (N := some 245) (v := ?_) (a' := ?_) #[true, true, true, true, true, true, true, true, true, true, true, true, true, true, true, true, true, true, true, true, true, true, true, true, true, false, false, false, false, false, false, false, false, false, false, false, false, false, false, false, false, false, false, false, false, false, false, false, false, false, false, false, false, false, false, false, false, false, false, false, false, false, false, false, false, false, false, false, false, false, false, false, false, false, false, false, false, false, false, false, false, false, false, false, false, false, false, false, false, false, false, false, false, false, false, false, false, false, false, false, false, false, false, false, false, false] rfl rfl (by as_aux_lemma => kernel_rfl) (fun _ _ _ h => h) (Or.inl ⟨by rfl, ?_⟩) ?_ ?_
      rotate_left
      · intro w'
        go_simp
        with_reducible rfl
      rotate_left
      · simp only [Act.put, List.setIfInBounds_toArray, List.set_cons_zero, List.set_cons_succ]
        rfl
      refine pure_ (i := 25) (N := some 246) (v := ?_) (a' := ?_) #[true, true, true, true, true, true, true, true, true, true, true, true, true, true, true, true, true, true, true, true, true, true, true, true, true, true, false, false, false, false, false, false, false, false, false, false, false, false, false, false, false, false, false, false, false, false, false, false, false, false, false, false, false, false, false, false, false, false, false, false, false, false, false, false, false, false, false, false, false, false, false, false, false, false, false, false, false, false, false, false, false, false, false, false, false, false, false, false, false, false, false, false, false, false, false, false, false, false, false, false, false, false, false, false, false, false] rfl rfl (by as_aux_lemma => kernel_rfl) (fun _ _ _ h => h) (Or.inl ⟨by rfl, ?_⟩) ?_ ?_
      rotate_left
      · intro w'
        go_simp
        with_reducible rfl
      rotate_left
      · simp only [Act.put, List.setIfInBounds_toArray, List.set_cons_zero, List.set_cons_succ]
        rfl
      refine pure_ (i := 26) (N := some 247) (v := ?_) (a' := ?_) #[true, true, true, true, true, true, true, true, true, true, true, true, true, true, true, true, true, true, true, true, true, true, true, true, true, true, true, false, false, false, false, false, false, false, false, false, false, false, false, false, false, false, false, false, false, false, false, false, false, false, false, false, false, false, false, false, false, false, false, false, false, false, false, false, false, false, false, false, false, false, false, false, false, false, false, false, false, false, false, false, false, false, false, false, false, false, false, false, false, false, false, false, false, false, false, false, false, false, false, false, false, false, false, false, false, false] rfl rfl (by as_aux_lemma => kernel_rfl) (fun _ _ _ h => h) (Or.inl ⟨by rfl, ?_⟩) ?_ ?_
      rotate_left
      · intro w'
        go_simp
        with_reducible rfl
      rotate_left
      · simp only [Act.put, List.setIfInBounds_toArray, List.set_cons_zero, List.set_cons_succ]
        rfl
      refine pure_ (i := 27) (N := some 248) (v := ?_) (a' := ?_) #[true, true, true, true, true, true, true, true, true, true, true, true, true, true, true, true, true, true, true, true, true, true, true, true, true, true, true, true, false, false, false, false, false, false, false, false, false, false, false, false, false, false, false, false, false, false, false, false, false, false, false, false, false, false, false, false, false, false, false, false, false, false, false, false, false, false, false, false, false, false, false, false, false, false, false, false, false, false, false, false, false, false, false, false, false, false, false, false, false, false, false, false, false, false, false, false, false, false, false, false, false, false, false, false, false, false] rfl rfl (by as_aux_lemma => kernel_rfl) (fun _ _ _ h => h) (Or.inl ⟨by rfl, ?_⟩) ?_ ?_
      rotate_left
      · intro w'
        go_simp
        with_reducible rfl
      rotate_left
      · simp only [Act.put, List.setIfInBounds_toArray, List.set_cons_zero, List.set_cons_succ]
        rfl
      refine pure_ (i := 28) (N := some 249) (v := ?_) (a' := ?_) #[true, true, true, true, true, true, true, true, true, true, true, true, true, true, true, true, true, true, true, true, true, true, true, true, true, true, true, true, true, false, false, false, false, false, false, false, false, false, false, false, false, false, false, false, false, false, false, false, false, false, false, false, false, false, false, false, false, false, false, false, false, false, false, false, false, false, false, false, false, false, false, false, false, false, false, false, false, false, false, false, false, false, false, false, false, false, false, false, false, false, false, false, false, false, false, false, false, false, false, false, false, false, false, false, false, false] rfl rfl (by as_aux_lemma => kernel_rfl) (fun _ _ _ h => h) (Or.inl ⟨by rfl, ?_⟩) ?_ ?_
      rotate_left
      · intro w'
        go_simp
        with_reducible rfl
      rotate_left
      · simp only [Act.put, List.setIfInBounds_toArray, List.set_cons_zero, List.set_cons_succ]
        rfl
      refine pure_ (i := 29) (N := some 250) (v := ?_) (a' := ?_) #[true, true, true, true, true, true, true, true, true, true, true, true, true, true, true, true, true, true, true, true, true, true, true, true, true, true, true, true, true, true, false, false, false, false, false, false, false, false, false, false, false, false, false, false, false, false, false, false, false, false, false, false, false, false, false, false, false, false, false, false, false, false, false, false, false, false, false, false, false, false, false, false, false, false, false, false, false, false, false, false, false, false, false, false, false, false, false, false, false, false, false, false, false, false, false, false, false, false, false, false, false, false, false, false, false, false] rfl rfl (by as_aux_lemma => kernel_rfl) (fun _ _ _ h => h) (Or.inl ⟨by rfl, ?_⟩) ?_ ?_
      rotate_left
      · intro w'
        go_simp
        with_reducible rfl
      rotate_left
      · simp only [Act.put, List.setIfInBounds_toArray, List.set_cons_zero, List.set_cons_succ]
        rfl
      refine pure_ (i := 30) (N := some 251) (v := ?_) (a' := ?_) #[true, true, true, true, true, true, true, true, true, true, true, true, true, true, true, true, true, true, true, true, true, true, true, true, true, true, true, true, true, true, true, false, false, false, false, false, false, false, false, false, false, false, false, false, false, false, false, false, false, false, false, false, false, false, false, false, false, false, false, false, false, false, false, false, false, false, false, false, false, false, false, false, false, false, false, false, false, false, false, false, false, false, false, false, false, false, false, false, false, false, false, false, false, false, false, false, false, false, false, false, false, false, false, false, false, false] rfl rfl (by as_aux_lemma => kernel_rfl) (fun _ _ _ h => h) (Or.inl ⟨by rfl, ?_⟩) ?_ ?_
      rotate_left
      · intro w'
        go_simp
        with_reducible rfl
      rotate_left
      · simp only [Act.put, List.setIfInBounds_toArray, List.set_cons_zero, List.set_cons_succ]
        rfl
      refine pure_ (i := 31) (N := some 252) (v := ?_) (a' := ?_) #[true, true, true, true, true, true, true, true, true, true, true, true, true, true, true, true, true, true, true, true, true, true, true, true, true, true, true, true, true, true, true, true, false, false, false, false, false, false, false, false, false, false, false, false, false, false, false, false, false, false, false, false, false, false, false, false, false, false, false, false, false, false, false, false, false, false, false, false, false, false, false, false, false, false, false, false, false, false, false, false, false, false, false, false, false, false, false, false, false, false, false, false, false, false, false, false, false, false, false, false, false, false, false, false, false, false] rfl rfl (by as_aux_lemma => kernel_rfl) (fun _ _ _ h => h) (Or.inl ⟨by rfl, ?_⟩) ?_ ?_
      rotate_left
      · intro w'
        go_simp
        with_reducible rfl
      rotate_left
      · simp only [Act.put, List.setIfInBounds_toArray, List.set_cons_zero, List.set_cons_succ]
        rfl
      refine take_ (i := 32) (N := some 253) (v := ?_) (a' := ?_) #[true, true, true, true, true, true, true, true, true, true, true, true, true, true, true, true, true, true, true, true, true, true, true, true, true, true, true, true, true, true, true, true, true, false, false, false, false, false, false, false, false, false, false, false, false, false, false, false, false, false, false, false, false, false, false, false, false, false, false, false, false, false, false, false, false, false, false, false, false, false, false, false, false, false, false, false, false, false, false, false, false, false, false, false, false, false, false, false, false, false, false, false, false, false, false, false, false, false, false, false, false, false, false, false, false, false] rfl rfl (by as_aux_lemma => kernel_rfl) (fun _ _ _ h => h) (Or.inl ⟨by rfl, ?_⟩) hHeld ?_ ?_
      rotate_left
      · rintro w' ⟨s0, s1, s2, s3, s4, s5, s6, s7⟩
        go_simp
        with_reducible rfl
      rotate_left
      · simp only [Act.put, List.setIfInBounds_toArray, List.set_cons_zero, List.set_cons_succ]
        rfl
      refine pure_ (i := 33) (N := some 254) (v := ?_) (a' := ?_) #[true, true, true, true, true, true, true, true, true, true, true, true, true, true, true, true, true, true, true, true, true, true, true, true, true, true, true, true, true, true, true, true, true, true, false, false, false, false, false, false, false, false, false, false, false, false, false, false, false, false, false, false, false, false, false, false, false, false, false, false, false, false, false, false, false, false, false, false, false, false, false, false, false, false, false, false, false, false, false, false, false, false, false, false, false, false, false, false, false, false, false, false, false, false, false, false, false, false, false, false, false, false, false, false, false, false] rfl rfl (by as_aux_lemma => kernel_rfl) (fun _ _ _ h => h) (Or.inl ⟨by rfl, ?_⟩) ?_ ?_
      rotate_left
      · intro w'
        go_simp
        with_reducible rfl
      rotate_left
      · simp only [Act.put, List.setIfInBounds_toArray, List.set_cons_zero, List.set_cons_succ]
        rfl
      refine one_ (i := 34) (N := some 255) #[true, true, true, true, true, true, true, true, true, true, true, true, true, true, true, true, true, true, true, true, true, true, true, true, true, true, true, true, true, true, true, true, true, true, true, false, false, false, false, false, false, false, false, false, false, false, false, false, false, false, false, false, false, false, false, false, false, false, false, false, false, false, false, false, false, false, false, false, false, false, false, false, false, false, false, false, false, false, false, false, false, false, false, false, false, false, false, false, false, false, false, false, false, false, false, false, false, false, false, false, false, false, false, false, false, false] rfl rfl (by as_aux_lemma => kernel_rfl) (by decide) (fun K hK => ?_)
      refine goes_ Try.func27 (by as_aux_lemma => kernel_rfl) rfl #[pv A7 k7 trueP, .agg #[.slice none 0 0, .int .i64 1]] (by rfl) rfl rfl (by simp only [List.map_toArray, List.map_cons, List.map_nil] <;> rfl) ?_
      refine (show Calls _ _ #[pv A7 k7 trueP, .agg #[.slice none 0 0, .int .i64 1]] _ _ from ref24_Same A7 k7 trueP none 0 trueP _ (N.out.K _ (.tail _ (.tail _ (.tail _ (.tail _ (.head _)))))).r (RS.nil _ _ _)).mono ?_
      rintro e w21 ⟨rfl, hb⟩
      rw [decide_eq_true (rfl : trueP = trueP)]
      refine ⟨_, rfl, ?_⟩
      have N := Aside0.mk (N.out.below hb)
      have GS := Aside0.mk (blk_below GS.out hb)
      clear hb HSP
      have HSP := Aside0.mk (show (fun w' : World => w'.cell? ⟨w7.heap.size, 0, none⟩ = some (.slice A7 trueP.f0.length k7) ∧ w'.cell? ⟨w7.heap.size, 1, none⟩ = some (.int .i64 trueP.f1) ∧ w'.cell? ⟨w8.heap.size, 1, none⟩ = some (.int .i64 0) ∧ w'.cell? ⟨w10.heap.size, 0, none⟩ = some (.slice A10 1 k10) ∧ w'.cell? ⟨w10.heap.size, 1, none⟩ = some (.int .i64 2001) ∧ w'.cell? ⟨w16.heap.size, 2, none⟩ = some (.slice p16.A2 2 p16.c2) ∧ w'.cell? ⟨w19.heap.size, 0, none⟩ = some (.slice A19 exP.f0.length k19) ∧ w'.cell? ⟨w19.heap.size, 1, none⟩ = some (.int .i64 exP.f1)) w21 from ⟨(blk2w (N.out.K _ (.tail _ (.tail _ (.tail _ (.tail _ (.head _)))))).b).1.1, (blk2w (N.out.K _ (.tail _ (.tail _ (.tail _ (.tail _ (.head _)))))).b).1.2, (blk2w (N.out.K _ (.tail _ (.tail _ (.tail _ (.head _))))).b).1.2, (blk2w (N.out.K _ (.tail _ (.head _))).b).1.1, (blk2w (N.out.K _ (.tail _ (.head _))).b).1.2, (blk5w GS.out).1.2.2.1, (blk2w (N.out.K _ (.head _)).b).1.1, (blk2w (N.out.K _ (.head _)).b).1.2⟩)
      refine hK.out _ _ HSP.out (fun hHeld => ?_)
      clear hK K
      refine norm_ (a' := ?_) ?_ ?_
      rotate_left
      · show Act.put _ (some 255) _ = _
        simp only [Act.put, List.setIfInBounds_toArray, List.set_cons_zero, List.set_cons_succ]
        rfl
      refine pure_ (i := 35) (N := some 256) (v := ?_) (a' := ?_) #[true, true, true, true, true, true, true, true, true, true, true, true, true, true, true, true, true, true, true, true, true, true, true, true, true, true, true, true, true, true, true, true, true, true, true, true, false, false, false, false, false, false, false, false, false, false, false, false, false, false, false, false, false, false, false, false, false, false, false, false, false, false, false, false, false, false, false, false, false, false, false, false, false, false, false, false, false, false, false, false, false, false, false, false, false, false, false, false, false, false, false, false, false, false, false, false, false, false, false, false, false, false, false, false, false, false] rfl rfl (by as_aux_lemma => kernel_rfl) (fun _ _ _ h => h) (Or.inl ⟨by rfl, ?_⟩) ?_ ?_
      rotate_left
      · intro w'
        go_simp
        with_reducible rfl
      rotate_left
      · simp only [Act.put, List.setIfInBounds_toArray, List.set_cons_zero, List.set_cons_succ]
        rfl
      refine pure_ (i := 36) (N := some 257) (v := ?_) (a' := ?_) #[true, true, true, true, true, true, true, true, true, true, true, true, true, true, true, true, true, true, true, true, true, true, true, true, true, true, true, true, true, true, true, true, true, true, true, true, true, false, false, false, false, false, false, false, false, false, false, false, false, false, false, false, false, false, false, false, false, false, false, false, false, false, false, false, false, false, false, false, false, false, false, false, false, false, false, false, false, false, false, false, false, false, false, false, false, false, false, false, false, false, false, false, false, false, false, false, false, false, false, false, false, false, false, false, false, false] rfl rfl (by as_aux_lemma => kernel_rfl) (fun _ _ _ h => h) (Or.inl ⟨by rfl, ?_⟩) ?_ ?_
      rotate_left
      · intro w'
        go_simp
        with_reducible rfl
      rotate_left
      · simp only [Act.put, List.setIfInBounds_toArray, List.set_cons_zero, List.set_cons_succ]
        rfl
      refine pure_ (i := 37) (N := some 258) (v := ?_) (a' := ?_) #[true, true, true, true, true, true, true, true, true, true, true, true, true, true, true, true, true, true, true, true, true, true, true, true, true, true, true, true, true, true, true, true, true, true, true, true, true, true, false, false, false, false, false, false, false, false, false, false, false, false, false, false, false, false, false, false, false, false, false, false, false, false, false, false, false, false, false, false, false, false, false, false, false, false, false, false, false, false, false, false, false, false, false, false, false, false, false, false, false, false, false, false, false, false, false, false, false, false, false, false, false, false, false, false, false, false] rfl rfl (by as_aux_lemma => kernel_rfl) (fun _ _ _ h => h) (Or.inl ⟨by rfl, ?_⟩) ?_ ?_
      rotate_left
      · intro w'
        go_simp
        with_reducible rfl
      rotate_left
      · simp only [Act.put, List.setIfInBounds_toArray, List.set_cons_zero, List.set_cons_succ]
        rfl
      refine pure_ (i := 38) (N := some 259) (v := ?_) (a' := ?_) #[true, true, true, true, true, true, true, true, true, true, true, true, true, true, true, true, true, true, true, true, true, true, true, true, true, true, true, true, true, true, true, true, true, true, true, true, true, true, true, false, false, false, false, false, false, false, false, false, false, false, false, false, false, false, false, false, false, false, false, false, false, false, false, false, false, false, false, false, false, false, false, false, false, false, false, false, false, false, false, false, false, false, false, false, false, false, false, false, false, false, false, false, false, false, false, false, false, false, false, false, false, false, false, false, false, false] rfl rfl (by as_aux_lemma => kernel_rfl) (fun _ _ _ h => h) (Or.inl ⟨by rfl, ?_⟩) ?_ ?_
      rotate_left
      · intro w'
        go_simp
        with_reducible rfl
      rotate_left
      · simp only [Act.put, List.setIfInBounds_toArray, List.set_cons_zero, List.set_cons_succ]
        rfl
      refine pure_ (i := 39) (N := some 260) (v := ?_) (a' := ?_) #[true, true, true, true, true, true, true, true, true, true, true, true, true, true, true, true, true, true, true, true, true, true, true, true, true, true, true, true, true, true, true, true, true, true, true, true, true, true, true, true, false, false, false, false, false, false, false, false, false, false, false, false, false, false, false, false, false, false, false, false, false, false, false, false, false, false, false, false, false, false, false, false, false, false, false, false, false, false, false, false, false, false, false, false, false, false, false, false, false, false, false, false, false, false, false, false, false, false, false, false, false, false, false, false, false, false] rfl rfl (by as_aux_lemma => kernel_rfl) (fun _ _ _ h => h) (Or.inl ⟨by rfl, ?_⟩) ?_ ?_
      rotate_left
      · intro w'
        go_simp
        with_reducible rfl
      rotate_left
      · simp only [Act.put, List.setIfInBounds_toArray, List.set_cons_zero, List.set_cons_succ]
        rfl
      refine pure_ (i := 40) (N := some 261) (v := ?_) (a' := ?_) #[true, true, true, true, true, true, true, true, true, true, true, true, true, true, true, true, true, true, true, true, true, true, true, true, true, true, true, true, true, true, true, true, true, true, true, true, true, true, true, true, true, false, false, false, false, false, false, false, false, false, false, false, false, false, false, false, false, false, false, false, false, false, false, false, false, false, false, false, false, false, false, false, false, false, false, false, false, false, false, false, false, false, false, false, false, false, false, false, false, false, false, false, false, false, false, false, false, false, false, false, false, false, false, false, false, false] rfl rfl (by as_aux_lemma => kernel_rfl) (fun _ _ _ h => h) (Or.inl ⟨by rfl, ?_⟩) ?_ ?_
      rotate_left
      · intro w'
        go_simp
        with_reducible rfl
      rotate_left
      · simp only [Act.put, List.setIfInBounds_toArray, List.set_cons_zero, List.set_cons_succ]
        rfl
      refine pure_ (i := 41) (N := some 262) (v := ?_) (a' := ?_) #[true, true, true, true, true, true, true, true, true, true, true, true, true, true, true, true, true, true, true, true, true, true, true, true, true, true, true, true, true, true, true, true, true, true, true, true, true, true, true, true, true, true, false, false, false, false, false, false, false, false, false, false, false, false, false, false, false, false, false, false, false, false, false, false, false, false, false, false, false, false, false, false, false, false, false, false, false, false, false, false, false, false, false, false, false, false, false, false, false, false, false, false, false, false, false, false, false, false, false, false, false, false, false, false, false, false] rfl rfl (by as_aux_lemma => kernel_rfl) (fun _ _ _ h => h) (Or.inl ⟨by rfl, ?_⟩) ?_ ?_
      rotate_left
      · intro w'
        go_simp
        with_reducible rfl
      rotate_left
      · simp only [Act.put, List.setIfInBounds_toArray, List.set_cons_zero, List.set_cons_succ]
        rfl
      refine take_ (i := 42) (N := some 263) (v := ?_) (a' := ?_) #[true, true, true, true, true, true, true, true, true, true, true, true, true, true, true, true, true, true, true, true, true, true, true, true, true, true, true, true, true, true, true, true, true, true, true, true, true, true, true, true, true, true, true, false, false, false, false, false, false, false, false, false, false, false, false, false, false, false, false, false, false, false, false, false, false, false, false, false, false, false, false, false, false, false, false, false, false, false, false, false, false, false, false, false, false, false, false, false, false, false, false, false, false, false, false, false, false, false, false, false, false, false, false, false, false, false] rfl rfl (by as_aux_lemma => kernel_rfl) (fun _ _ _ h => h) (Or.inl ⟨by rfl, ?_⟩) hHeld ?_ ?_
      rotate_left
      · rintro w' ⟨s0, s1, s2, s3, s4, s5, s6, s7⟩
        go_simp
        with_reducible rfl
      rotate_left
      · simp only [Act.put, List.setIfInBounds_toArray, List.set_cons_zero, List.set_cons_succ]
        rfl
      refine pure_ (i := 43) (N := some 264) (v := ?_) (a' := ?_) #[true, true, true, true, true, true, true, true, true, true, true, true, true, true, true, true, true, true, true, true, true, true, true, true, true, true, true, true, true, true, true, true, true, true, true, true, true, true, true, true, true, true, true, true, false, false, false, false, false, false, false, false, false, false, false, false, false, false, false, false, false, false, false, false, false, false, false, false, false, false, false, false, false, false, false, false, false, false, false, false, false, false, false, false, false, false, false, false, false, false, false, false, false, false, false, false, false, false, false, false, false, false, false, false, false, false] rfl rfl (by as_aux_lemma => kernel_rfl) (fun _ _ _ h => h) (Or.inl ⟨by rfl, ?_⟩) ?_ ?_
      rotate_left
      · intro w'
        go_simp
        with_reducible rfl
      rotate_left
      · simp only [Act.put, List.setIfInBounds_toArray, List.set_cons_zero, List.set_cons_succ]
        rfl
      refine pure_ (i := 44) (N := some 265) (v := ?_) (a' := ?_) #[true, true, true, true, true, true, true, true, true, true, true, true, true, true, true, true, true, true, true, true, true, true, true, true, true, true, true, true, true, true, true, true, true, true, true, true, true, true, true, true, true, true, true, true, true, false, false, false, false, false, false, false, false, false, false, false, false, false, false, false, false, false, false, false, false, false, false, false, false, false, false, false, false, false, false, false, false, false, false, false, false, false, false, false, false, false, false, false, false, false, false, false, false, false, false, false, false, false, false, false, false, false, false, false, false, false] rfl rfl (by as_aux_lemma => kernel_rfl) (fun _ _ _ h => h) (Or.inl ⟨by rfl, ?_⟩) ?_ ?_
      rotate_left
      · intro w'
        go_simp
        with_reducible rfl
      rotate_left
      · simp only [Act.put, List.setIfInBounds_toArray, List.set_cons_zero, List.set_cons_succ]
        rfl
      refine pure_ (i := 45) (N := some 266) (v := ?_) (a' := ?_) #[true, true, true, true, true, true, true, true, true, true, true, true, true, true, true, true, true, true, true, true, true, true, true, true, true, true, true, true, true, true, true, true, true, true, true, true, true, true, true, true, true, true, true, true, true, true, false, false, false, false, false, false, false, false, false, false, false, false, false, false, false, false, false, false, false, false, false, false, false, false, false, false, false, false, false, false, false, false, false, false, false, false, false, false, false, false, false, false, false, false, false, false, false, false, false, false, false, false, false, false, false, false, false, false, false, false] rfl rfl (by as_aux_lemma => kernel_rfl) (fun _ _ _ h => h) (Or.inl ⟨by rfl, ?_⟩) ?_ ?_
      rotate_left
      · intro w'
        go_simp
        with_reducible rfl
      rotate_left
      · simp only [Act.put, List.setIfInBounds_toArray, List.set_cons_zero, List.set_cons_succ]
        rfl
      refine pure_ (i := 46) (N := some 267) (v := ?_) (a' := ?_) #[true, true, true, true, true, true, true, true, true, true, true, true, true, true, true, true, true, true, true, true, true, true, true, true, true, true, true, true, true, true, true, true, true, true, true, true, true, true, true, true, true, true, true, true, true, true, true, false, false, false, false, false, false, false, false, false, false, false, false, false, false, false, false, false, false, false, false, false, false, false, false, false, false, false, false, false, false, false, false, false, false, false, false, false, false, false, false, false, false, false, false, false, false, false, false, false, false, false, false, false, false, false, false, false, false, false] rfl rfl (by as_aux_lemma => kernel_rfl) (fun _ _ _ h => h) (Or.inl ⟨by rfl, ?_⟩) ?_ ?_
      rotate_left
      · intro w'
        go_simp
        with_reducible rfl
      rotate_left
      · simp only [Act.put, List.setIfInBounds_toArray, List.set_cons_zero, List.set_cons_succ]
        rfl
      refine pure_ (i := 47) (N := some 268) (v := ?_) (a' := ?_) #[true, true, true, true, true, true, true, true, true, true, true, true, true, true, true, true, true, true, true, true, true, true, true, true, true, true, true, true, true, true, true, true, true, true, true, true, true, true, true, true, true, true, true, true, true, true, true, true, false, false, false, false, false, false, false, false, false, false, false, false, false, false, false, false, false, false, false, false, false, false, false, false, false, false, false, false, false, false, false, false, false, false, false, false, false, false, false, false, false, false, false, false, false, false, false, false, false, false, false, false, false, false, false, false, false, false] rfl rfl (by as_aux_lemma => kernel_rfl) (fun _ _ _ h => h) (Or.inl ⟨by rfl, ?_⟩) ?_ ?_
      rotate_left
      · intro w'
        go_simp
        with_reducible rfl
      rotate_left
      · simp only [Act.put, List.setIfInBounds_toArray, List.set_cons_zero, List.set_cons_succ]
        rfl
      refine pure_ (i := 48) (N := some 269) (v := ?_) (a' := ?_) #[true, true, true, true, true, true, true, true, true, true, true, true, true, true, true, true, true, true, true, true, true, true, true, true, true, true, true, true, true, true, true, true, true, true, true, true, true, true, true, true, true, true, true, true, true, true, true, true, true, false, false, false, false, false, false, false, false, false, false, false, false, false, false, false, false, false, false, false, false, false, false, false, false, false, false, false, false, false, false, false, false, false, false, false, false, false, false, false, false, false, false, false, false, false, false, false, false, false, false, false, false, false, false, false, false, false] rfl rfl (by as_aux_lemma => kernel_rfl) (fun _ _ _ h => h) (Or.inl ⟨by rfl, ?_⟩) ?_ ?_
      rotate_left
      · intro w'
        go_simp
        with_reducible rfl
      rotate_left
      · simp only [Act.put, List.setIfInBounds_toArray, List.set_cons_zero, List.set_cons_succ]
        rfl
      refine pure_ (i := 49) (N := some 270) (v := ?_) (a' := ?_) #[true, true, true, true, true, true, true, true, true, true, true, true, true, true, true, true, true, true, true, true, true, true, true, true, true, true, true, true, true, true, true, true, true, true, true, true, true, true, true, true, true, true, true, true, true, true, true, true, true, true, false, false, false, false, false, false, false, false, false, false, false, false, false, false, false, false, false, false, false, false, false, false, false, false, false, false, false, false, false, false, false, false, false, false, false, false, false, false, false, false, false, false, false, false, false, false, false, false, false, false, false, false, false, false, false, false] rfl rfl (by as_aux_lemma => kernel_rfl) (fun _ _ _ h => h) (Or.inl ⟨by rfl, ?_⟩) ?_ ?_
      rotate_left
      · intro w'
        go_simp
        with_reducible rfl
      rotate_left
      · simp only [Act.put, List.setIfInBounds_toArray, List.set_cons_zero, List.set_cons_succ]
        rfl
      refine pure_ (i := 50) (N := some 271) (v := ?_) (a' := ?_) #[true, true, true, true, true, true, true, true, true, true, true, true, true, true, true, true, true, true, true, true, true, true, true, true, true, true, true, true, true, true, true, true, true, true, true, true, true, true, true, true, true, true, true, true, true, true, true, true, true, true, true, false, false, false, false, false, false, false, false, false, false, false, false, false, false, false, false, false, false, false, false, false, false, false, false, false, false, false, false, false, false, false, false, false, false, false, false, false, false, false, false, false, false, false, false, false, false, false, false, false, false, false, false, false, false, false] rfl rfl (by as_aux_lemma => kernel_rfl) (fun _ _ _ h => h) (Or.inl ⟨by rfl, ?_⟩) ?_ ?_
      rotate_left
      · intro w'
        go_simp
        with_reducible rfl
      rotate_left
      · simp only [Act.put, List.setIfInBounds_toArray, List.set_cons_zero, List.set_cons_succ]
        rfl
      refine pure_ (i := 51) (N := some 272) (v := ?_) (a' := ?_) #[true, true, true, true, true, true, true, true, true, true, true, true, true, true, true, true, true, true, true, true, true, true, true, true, true, true, true, true, true, true, true, true, true, true, true, true, true, true, true, true, true, true, true, true, true, true, true, true, true, true, true, true, false, false, false, false, false, false, false, false, false, false, false, false, false, false, false, false, false, false, false, false, false, false, false, false, false, false, false, false, false, false, false, false, false, false, false, false, false, false, false, false, false, false, false, false, false, false, false, false, false, false, false, false, false, false] rfl rfl (by as_aux_lemma => kernel_rfl) (fun _ _ _ h => h) (Or.inl ⟨by rfl, ?_⟩) ?_ ?_
      rotate_left
      · intro w'
        go_simp
        with_reducible rfl
      rotate_left
      · simp only [Act.put, List.setIfInBounds_toArray, List.set_cons_zero, List.set_cons_succ]
        rfl
      refine pure_ (i := 52) (N := some 273) (v := ?_) (a' := ?_) #[true, true, true, true, true, true, true, true, true, true, true, true, true, true, true, true, true, true, true, true, true, true, true, true, true, true, true, true, true, true, true, true, true, true, true, true, true, true, true, true, true, true, true, true, true, true, true, true, true, true, true, true, true, false, false, false, false, false, false, false, false, false, false, false, false, false, false, false, false, false, false, false, false, false, false, false, false, false, false, false, false, false, false, false, false, false, false, false, false, false, false, false, false, false, false, false, false, false, false, false, false, false, false, false, false, false] rfl rfl (by as_aux_lemma => kernel_rfl) (fun _ _ _ h => h) (Or.inl ⟨by rfl, ?_⟩) ?_ ?_
      rotate_left
      · intro w'
        go_simp
        with_reducible rfl
      rotate_left
      · simp only [Act.put, List.setIfInBounds_toArray, List.set_cons_zero, List.set_cons_succ]
        rfl
      refine pure_ (i := 53) (N := some 274) (v := ?_) (a' := ?_) #[true, true, true, true, true, true, true, true, true, true, true, true, true, true, true, true, true, true, true, true, true, true, true, true, true, true, true, true, true, true, true, true, true, true, true, true, true, true, true, true, true, true, true, true, true, true, true, true, true, true, true, true, true, true, false, false, false, false, false, false, false, false, false, false, false, false, false, false, false, false, false, false, false, false, false, false, false, false, false, false, false, false, false, false, false, false, false, false, false, false, false, false, false, false, false, false, false, false, false, false, false, false, false, false, false, false] rfl rfl (by as_aux_lemma => kernel_rfl) (fun _ _ _ h => h) (Or.inl ⟨by rfl, ?_⟩) ?_ ?_
      rotate_left
      · intro w'
        go_simp
        with_reducible rfl
      rotate_left
      · simp only [Act.put, List.setIfInBounds_toArray, List.set_cons_zero, List.set_cons_succ]
        rfl
      refine pure_ (i := 54) (N := some 275) (v := ?_) (a' := ?_) #[true, true, true, true, true, true, true, true, true, true, true, true, true, true, true, true, true, true, true, true, true, true, true, true, true, true, true, true, true, true, true, true, true, true, true, true, true, true, true, true, true, true, true, true, true, true, true, true, true, true, true, true, true, true, true, false, false, false, false, false, false, false, false, false, false, false, false, false, false, false, false, false, false, false, false, false, false, false, false, false, false, false, false, false, false, false, false, false, false, false, false, false, false, false, false, false, false, false, false, false, false, false, false, false, false, false] rfl rfl (by as_aux_lemma => kernel_rfl) (fun _ _ _ h => h) (Or.inl ⟨by rfl, ?_⟩) ?_ ?_
      rotate_left
      · intro w'
        go_simp
        with_reducible rfl
      rotate_left
      · simp only [Act.put, List.setIfInBounds_toArray, List.set_cons_zero, List.set_cons_succ]
        rfl
      refine take_ (i := 55) (N := some 276) (v := ?_) (a' := ?_) #[true, true, true, true, true, true, true, true, true, true, true, true, true, true, true, true, true, true, true, true, true, true, true, true, true, true, true, true, true, true, true, true, true, true, true, true, true, true, true, true, true, true, true, true, true, true, true, true, true, true, true, true, true, true, true, true, false, false, false, false, false, false, false, false, false, false, false, false, false, false, false, false, false, false, false, false, false, false, false, false, false, false, false, false, false, false, false, false, false, false, false, false, false, false, false, false, false, false, false, false, false, false, false, false, false, false] rfl rfl (by as_aux_lemma => kernel_rfl) (fun _ _ _ h => h) (Or.inl ⟨by rfl, ?_⟩) hHeld ?_ ?_
      rotate_left
      · rintro w' ⟨s0, s1, s2, s3, s4, s5, s6, s7⟩
        go_simp
        with_reducible rfl
      rotate_left
      · simp only [Act.put, List.setIfInBounds_toArray, List.set_cons_zero, List.set_cons_succ]
        rfl
      refine pure_ (i := 56) (N := some 277) (v := ?_) (a' := ?_) #[true, true, true, true, true, true, true, true, true, true, true, true, true, true, true, true, true, true, true, true, true, true, true, true, true, true, true, true, true, true, true, true, true, true, true, true, true, true, true, true, true, true, true, true, true, true, true, true, true, true, true, true, true, true, true, true, true, false, false, false, false, false, false, false, false, false, false, false, false, false, false, false, false, false, false, false, false, false, false, false, false, false, false, false, false, false, false, false, false, false, false, false, false, false, false, false, false, false, false, false, false, false, false, false, false, false] rfl rfl (by as_aux_lemma => kernel_rfl) (fun _ _ _ h => h) (Or.inl ⟨by rfl, ?_⟩) ?_ ?_
      rotate_left
      · intro w'
        go_simp
        with_reducible rfl
      rotate_left
      · simp only [Act.put, List.setIfInBounds_toArray, List.set_cons_zero, List.set_cons_succ]
        rfl
      refine pure_ (i := 57) (N := some 278) (v := ?_) (a' := ?_) #[true, true, true, true, true, true, true, true, true, true, true, true, true, true, true, true, true, true, true, true, true, true, true, true, true, true, true, true, true, true, true, true, true, true, true, true, true, true, true, true, true, true, true, true, true, true, true, true, true, true, true, true, true, true, true, true, true, true, false, false, false, false, false, false, false, false, false, false, false, false, false, false, false, false, false, false, false, false, false, false, false, false, false, false, false, false, false, false, false, false, false, false, false, false, false, false, false, false, false, false, false, false, false, false, false, false] rfl rfl (by as_aux_lemma => kernel_rfl) (fun _ _ _ h => h) (Or.inl ⟨by rfl, ?_⟩) ?_ ?_
      rotate_left
      · intro w'
        go_simp
        with_reducible rfl
      rotate_left
      · simp only [Act.put, List.setIfInBounds_toArray, List.set_cons_zero, List.set_cons_succ]
        rfl
      refine pure_ (i := 58) (N := some 279) (v := ?_) (a' := ?_) #[true, true, true, true, true, true, true, true, true, true, true, true, true, true, true, true, true, true, true, true, true, true, true, true, true, true, true, true, true, true, true, true, true, true, true, true, true, true, true, true, true, true, true, true, true, true, true, true, true, true, true, true, true, true, true, true, true, true, true, false, false, false, false, false, false, false, false, false, false, false, false, false, false, false, false, false, false, false, false, false, false, false, false, false, false, false, false, false, false, false, false, false, false, false, false, false, false, false, false, false, false, false, false, false, false, false] rfl rfl (by as_aux_lemma => kernel_rfl) (fun _ _ _ h => h) (Or.inl ⟨by rfl, ?_⟩) ?_ ?_
      rotate_left
      · intro w'
        go_simp
        with_reducible rfl
      rotate_left
      · simp only [Act.put, List.setIfInBounds_toArray, List.set_cons_zero, List.set_cons_succ]
        rfl
      refine pure_ (i := 59) (N := some 280) (v := ?_) (a' := ?_) #[true, true, true, true, true, true, true, true, true, true, true, true, true, true, true, true, true, true, true, true, true, true, true, true, true, true, true, true, true, true, true, true, true, true, true, true, true, true, true, true, true, true, true, true, true, true, true, true, true, true, true, true, true, true, true, true, true, true, true, true, false, false, false, false, false, false, false, false, false, false, false, false, false, false, false, false, false, false, false, false, false, false, false, false, false, false, false, false, false, false, false, false, false, false, false, false, false, false, false, false, false, false, false, false, false, false] rfl rfl (by as_aux_lemma => kernel_rfl) (fun _ _ _ h => h) (Or.inl ⟨by rfl, ?_⟩) ?_ ?_
      rotate_left
      · intro w'
        go_simp
        with_reducible rfl
      rotate_left
      · simp only [Act.put, List.setIfInBounds_toArray, List.set_cons_zero, List.set_cons_succ]
        rfl
      refine pure_ (i := 60) (N := some 281) (v := ?_) (a' := ?_) #[true, true, true, true, true, true, true, true, true, true, true, true, true, true, true, true, true, true, true, true, true, true, true, true, true, true, true, true, true, true, true, true, true, true, true, true, true, true, true, true, true, true, true, true, true, true, true, true, true, true, true, true, true, true, true, true, true, true, true, true, true, false, false, false, false, false, false, false, false, false, false, false, false, false, false, false, false, false, false, false, false, false, false, false, false, false, false, false, false, false, false, false, false, false, false, false, false, false, false, false, false, false, false, false, false, false] rfl rfl (by as_aux_lemma => kernel_rfl) (fun _ _ _ h => h) (Or.inl ⟨by rfl, ?_⟩) ?_ ?_
      rotate_left
      · intro w'
        go_simp
        with_reducible rfl
      rotate_left
      · simp only [Act.put, List.setIfInBounds_toArray, List.set_cons_zero, List.set_cons_succ]
        rfl
      refine take_ (i := 61) (N := some 282) (v := ?_) (a' := ?_) #[true, true, true, true, true, true, true, true, true, true, true, true, true, true, true, true, true, true, true, true, true, true, true, true, true, true, true, true, true, true, true, true, true, true, true, true, true, true, true, true, true, true, true, true, true, true, true, true, true, true, true, true, true, true, true, true, true, true, true, true, true, true, false, false, false, false, false, false, false, false, false, false, false, false, false, false, false, false, false, false, false, false, false, false, false, false, false, false, false, false, false, false, false, false, false, false, false, false, false, false, false, false, false, false, false, false] rfl rfl (by as_aux_lemma => kernel_rfl) (fun _ _ _ h => h) (Or.inl ⟨by rfl, ?_⟩) hHeld ?_ ?_
      rotate_left
      · rintro w' ⟨s0, s1, s2, s3, s4, s5, s6, s7⟩
        go_simp
        with_reducible rfl
      rotate_left
      · simp only [Act.put, List.setIfInBounds_toArray, List.set_cons_zero, List.set_cons_succ]
        rfl
      refine pure_ (i := 62) (N := some 283) (v := ?_) (a' := ?_) #[true, true, true, true, true, true, true, true, true, true, true, true, true, true, true, true, true, true, true, true, true, true, true, true, true, true, true, true, true, true, true, true, true, true, true, true, true, true, true, true, true, true, true, true, true, true, true, true, true, true, true, true, true, true, true, true, true, true, true, true, true, true, true, false, false, false, false, false, false, false, false, false, false, false, false, false, false, false, false, false, false, false, false, false, false, false, false, false, false, false, false, false, false, false, false, false, false, false, false, false, false, false, false, false, false, false] rfl rfl (by as_aux_lemma => kernel_rfl) (fun _ _ _ h => h) (Or.inl ⟨by rfl, ?_⟩) ?_ ?_
      rotate_left
      · intro w'
        go_simp
        with_reducible rfl
      rotate_left
      · simp only [Act.put, List.setIfInBounds_toArray, List.set_cons_zero, List.set_cons_succ]
        rfl
      refine pure_ (i := 63) (N := some 284) (v := ?_) (a' := ?_) #[true, true, true, true, true, true, true, true, true, true, true, true, true, true, true, true, true, true, true, true, true, true, true, true, true, true, true, true, true, true, true, true, true, true, true, true, true, true, true, true, true, true, true, true, true, true, true, true, true, true, true, true, true, true, true, true, true, true, true, true, true, true, true, true, false, false, false, false, false, false, false, false, false, false, false, false, false, false, false, false, false, false, false, false, false, false, false, false, false, false, false, false, false, false, false, false, false, false, false, false, false, false, false, false, false, false] rfl rfl (by as_aux_lemma => kernel_rfl) (fun _ _ _ h => h) (Or.inl ⟨by rfl, ?_⟩) ?_ ?_
      rotate_left
      · intro w'
        go_simp
        with_reducible rfl
      rotate_left
      · simp only [Act.put, List.setIfInBounds_toArray, List.set_cons_zero, List.set_cons_succ]
        rfl
      refine pure_ (i := 64) (N := some 285) (v := ?_) (a' := ?_) #[true, true, true, true, true, true, true, true, true, true, true, true, true, true, true, true, true, true, true, true, true, true, true, true, true, true, true, true, true, true, true, true, true, true, true, true, true, true, true, true, true, true, true, true, true, true, true, true, true, true, true, true, true, true, true, true, true, true, true, true, true, true, true, true, true, false, false, false, false, false, false, false, false, false, false, false, false, false, false, false, false, false, false, false, false, false, false, false, false, false, false, false, false, false, false, false, false, false, false, false, false, false, false, false, false, false] rfl rfl (by as_aux_lemma => kernel_rfl) (fun _ _ _ h => h) (Or.inl ⟨by rfl, ?_⟩) ?_ ?_
      rotate_left
      · intro w'
        go_simp
        with_reducible rfl
      rotate_left
      · simp only [Act.put, List.setIfInBounds_toArray, List.set_cons_zero, List.set_cons_succ]
        rfl
      refine pure_ (i := 65) (N := some 286) (v := ?_) (a' := ?_) #[true, true, true, true, true, true, true, true, true, true, true, true, true, true, true, true, true, true, true, true, true, true, true, true, true, true, true, true, true, true, true, true, true, true, true, true, true, true, true, true, true, true, true, true, true, true, true, true, true, true, true, true, true, true, true, true, true, true, true, true, true, true, true, true, true, true, false, false, false, false, false, false, false, false, false, false, false, false, false, false, false, false, false, false, false, false, false, false, false, false, false, false, false, false, false, false, false, false, false, false, false, false, false, false, false, false] rfl rfl (by as_aux_lemma => kernel_rfl) (fun _ _ _ h => h) (Or.inl ⟨by rfl, ?_⟩) ?_ ?_
      rotate_left
      · intro w'
        go_simp
        with_reducible rfl
      rotate_left
      · simp only [Act.put, List.setIfInBounds_toArray, List.set_cons_zero, List.set_cons_succ]
        rfl
      refine pure_ (i := 66) (N := some 287) (v := ?_) (a' := ?_) #[true, true, true, true, true, true, true, true, true, true, true, true, true, true, true, true, true, true, true, true, true, true, true, true, true, true, true, true, true, true, true, true, true, true, true, true, true, true, true, true, true, true, true, true, true, true, true, true, true, true, true, true, true, true, true, true, true, true, true, true, true, true, true, true, true, true, true, false, false, false, false, false, false, false, false, false, false, false, false, false, false, false, false, false, false, false, false, false, false, false, false, false, false, false, false, false, false, false, false, false, false, false, false, false, false, false] rfl rfl (by as_aux_lemma => kernel_rfl) (fun _ _ _ h => h) (Or.inl ⟨by rfl, ?_⟩) ?_ ?_
      rotate_left
      · intro w'
        go_simp
        with_reducible rfl
      rotate_left
      · simp only [Act.put, List.setIfInBounds_toArray, List.set_cons_zero, List.set_cons_succ]
        rfl
      refine pure_ (i := 67) (N := some 288) (v := ?_) (a' := ?_) #[true, true, true, true, true, true, true, true, true, true, true, true, true, true, true, true, true, true, true, true, true, true, true, true, true, true, true, true, true, true, true, true, true, true, true, true, true, true, true, true, true, true, true, true, true, true, true, true, true, true, true, true, true, true, true, true, true, true, true, true, true, true, true, true, true, true, true, true, false, false, false, false, false, false, false, false, false, false, false, false, false, false, false, false, false, false, false, false, false, false, false, false, false, false, false, false, false, false, false, false, false, false, false, false, false, false] rfl rfl (by as_aux_lemma => kernel_rfl) (fun _ _ _ h => h) (Or.inl ⟨by rfl, ?_⟩) ?_ ?_
      rotate_left
      · intro w'
        go_simp
        with_reducible rfl
      rotate_left
      · simp only [Act.put, List.setIfInBounds_toArray, List.set_cons_zero, List.set_cons_succ]
        rfl
      refine pure_ (i := 68) (N := some 289) (v := ?_) (a' := ?_) #[true, true, true, true, true, true, true, true, true, true, true, true, true, true, true, true, true, true, true, true, true, true, true, true, true, true, true, true, true, true, true, true, true, true, true, true, true, true, true, true, true, true, true, true, true, true, true, true, true, true, true, true, true, true, true, true, true, true, true, true, true, true, true, true, true, true, true, true, true, false, false, false, false, false, false, false, false, false, false, false, false, false, false, false, false, false, false, false, false, false, false, false, false, false, false, false, false, false, false, false, false, false, false, false, false, false] rfl rfl (by as_aux_lemma => kernel_rfl) (fun _ _ _ h => h) (Or.inl ⟨by rfl, ?_⟩) ?_ ?_
      rotate_left
      · intro w'
        go_simp
        with_reducible rfl
      rotate_left
      · simp only [Act.put, List.setIfInBounds_toArray, List.set_cons_zero, List.set_cons_succ]
        rfl
      refine pure_ (i := 69) (N := some 290) (v := ?_) (a' := ?_) #[true, true, true, true, true, true, true, true, true, true, true, true, true, true, true, true, true, true, true, true, true, true, true, true, true, true, true, true, true, true, true, true, true, true, true, true, true, true, true, true, true, true, true, true, true, true, true, true, true, true, true, true, true, true, true, true, true, true, true, true, true, true, true, true, true, true, true, true, true, true, false, false, false, false, false, false, false, false, false, false, false, false, false, false, false, false, false, false, false, false, false, false, false, false, false, false, false, false, false, false, false, false, false, false, false, false] rfl rfl (by as_aux_lemma => kernel_rfl) (fun _ _ _ h => h) (Or.inl ⟨by rfl, ?_⟩) ?_ ?_
      rotate_left
      · intro w'
        go_simp
        with_reducible rfl
      rotate_left
      · simp only [Act.put, List.setIfInBounds_toArray, List.set_cons_zero, List.set_cons_succ]
        rfl
      refine pure_ (i := 70) (N := some 291) (v := ?_) (a' := ?_) #[true, true, true, true, true, true, true, true, true, true, true, true, true, true, true, true, true, true, true, true, true, true, true, true, true, true, true, true, true, true, true, true, true, true, true, true, true, true, true, true, true, true, true, true, true, true, true, true, true, true, true, true, true, true, true, true, true, true, true, true, true, true, true, true, true, true, true, true, true, true, true, false, false, false, false, false, false, false, false, false, false, false, false, false, false, false, false, false, false, false, false, false, false, false, false, false, false, false, false, false, false, false, false, false, false, false] rfl rfl (by as_aux_lemma => kernel_rfl) (fun _ _ _ h => h) (Or.inl ⟨by rfl, ?_⟩) ?_ ?_
      rotate_left
      · intro w'
        go_simp
        with_reducible rfl
      rotate_left
      · simp only [Act.put, List.setIfInBounds_toArray, List.set_cons_zero, List.set_cons_succ]
        rfl
      refine one_ (i := 71) (N := some 292) #[true, true, true, true, true, true, true, true, true, true, true, true, true, true, true, true, true, true, true, true, true, true, true, true, true, true, true, true, true, true, true, true, true, true, true, true, true, true, true, true, true, true, true, true, true, true, true, true, true, true, true, true, true, true, true, true, true, true, true, true, true, true, true, true, true, true, true, true, true, true, true, true, false, false, false, false, false, false, false, false, false, false, false, false, false, false, false, false, false, false, false, false, false, false, false, false, false, false, false, false, false, false, false, false, false, false] rfl rfl (by as_aux_lemma => kernel_rfl) (by decide) (fun K hK => ?_)
      refine goes_ Try.func39 (by as_aux_lemma => kernel_rfl) rfl #[cv ⟨none, 0, none, 0, none, 0, none, 0⟩ negC] (by rfl) rfl rfl (by simp only [List.map_toArray, List.map_cons, List.map_nil] <;> rfl) ?_
      refine (show Calls _ _ #[cv ⟨none, 0, none, 0, none, 0, none, 0⟩ negC] _ _ from ref02_Check ⟨none, 0, none, 0, none, 0, none, 0⟩ negC _ ⟨RS.nil _ _ _, RS.nil _ _ _, RS.nil _ _ _, RS.nil _ _ _⟩ neg_fits).mono ?_
      rintro e w22 ⟨rfl, hb⟩
      rw [ck1]
      refine ⟨_, rfl, ?_⟩
      have N := Aside0.mk (N.out.below hb)
      have GS := Aside0.mk (blk_below GS.out hb)
      clear hb HSP
      have HSP := Aside0.mk (show (fun w' : World => w'.cell? ⟨w7.heap.size, 0, none⟩ = some (.slice A7 trueP.f0.length k7) ∧ w'.cell? ⟨w7.heap.size, 1, none⟩ = some (.int .i64 trueP.f1) ∧ w'.cell? ⟨w8.heap.size, 1, none⟩ = some (.int .i64 0) ∧ w'.cell? ⟨w10.heap.size, 0, none⟩ = some (.slice A10 1 k10) ∧ w'.cell? ⟨w10.heap.size, 1, none⟩ = some (.int .i64 2001) ∧ w'.cell? ⟨w16.heap.size, 2, none⟩ = some (.slice p16.A2 2 p16.c2) ∧ w'.cell? ⟨w19.heap.size, 0, none⟩ = some (.slice A19 exP.f0.length k19) ∧ w'.cell? ⟨w19.heap.size, 1, none⟩ = some (.int .i64 exP.f1)) w22 from ⟨(blk2w (N.out.K _ (.tail _ (.tail _ (.tail _ (.tail _ (.head _)))))).b).1.1, (blk2w (N.out.K _ (.tail _ (.tail _ (.tail _ (.tail _ (.head _)))))).b).1.2, (blk2w (N.out.K _ (.tail _ (.tail _ (.tail _ (.head _))))).b).1.2, (blk2w (N.out.K _ (.tail _ (.head _))).b).1.1, (blk2w (N.out.K _ (.tail _ (.head _))).b).1.2, (blk5w GS.out).1.2.2.1, (blk2w (N.out.K _ (.head _)).b).1.1, (blk2w (N.out.K _ (.head _)).b).1.2⟩)
      refine hK.out _ _ HSP.out (fun hHeld => ?_)
      clear hK K
      refine norm_ (a' := ?_) ?_ ?_
      rotate_left
      · show Act.put _ (some 292) _ = _
        simp only [Act.put, List.setIfInBounds_toArray, List.set_cons_zero, List.set_cons_succ]
        rfl
      refine pure_ (i := 72) (N := some 293) (v := ?_) (a' := ?_) #[true, true, true, true, true, true, true, true, true, true, true, true, true, true, true, true, true, true, true, true, true, true, true, true, true, true, true, true, true, true, true, true, true, true, true, true, true, true, true, true, true, true, true, true, true, true, true, true, true, true, true, true, true, true, true, true, true, true, true, true, true, true, true, true, true, true, true, true, true, true, true, true, true, false, false, false, false, false, false, false, false, false, false, false, false, false, false, false, false, false, false, false, false, false, false, false, false, false, false, false, false, false, false, false, false, false] rfl rfl (by as_aux_lemma => kernel_rfl) (fun _ _ _ h => h) (Or.inl ⟨by rfl, ?_⟩) ?_ ?_
      rotate_left
      · intro w'
        go_simp
        with_reducible rfl
      rotate_left
      · simp only [Act.put, List.setIfInBounds_toArray, List.set_cons_zero, List.set_cons_succ]
        rfl
      refine pure_ (i := 73) (N := some 294) (v := ?_) (a' := ?_) #[true, true, true, true, true, true, true, true, true, true, true, true, true, true, true, true, true, true, true, true, true, true, true, true, true, true, true, true, true, true, true, true, true, true, true, true, true, true, true, true, true, true, true, true, true, true, true, true, true, true, true, true, true, true, true, true, true, true, true, true, true, true, true, true, true, true, true, true, true, true, true, true, true, true, false, false, false, false, false, false, false, false, false, false, false, false, false, false, false, false, false, false, false, false, false, false, false, false, false, false, false, false, false, false, false, false] rfl rfl (by as_aux_lemma => kernel_rfl) (fun _ _ _ h => h) (Or.inl ⟨by rfl, ?_⟩) ?_ ?_
      rotate_left
      · intro w'
        go_simp
        with_reducible rfl
      rotate_left
      · simp only [Act.put, List.setIfInBounds_toArray, List.set_cons_zero, List.set_cons_succ]
        rfl
      refine pure_ (i := 74) (N := some 295) (v := ?_) (a' := ?_) #[true, true, true, true, true, true, true, true, true, true, true, true, true, true, true, true, true, true, true, true, true, true, true, true, true, true, true, true, true, true, true, true, true, true, true, true, true, true, true, true, true, true, true, true, true, true, true, true, true, true, true, true, true, true, true, true, true, true, true, true, true, true, true, true, true, true, true, true, true, true, true, true, true, true, true, false, false, false, false, false, false, false, false, false, false, false, false, false, false, false, false, false, false, false, false, false, false, false, false, false, false, false, false, false, false, false] rfl rfl (by as_aux_lemma => kernel_rfl) (fun _ _ _ h => h) (Or.inl ⟨by rfl, ?_⟩) ?_ ?_
      rotate_left
      · intro w'
        go_simp
        with_reducible rfl
      rotate_left
      · simp only [Act.put, List.setIfInBounds_toArray, List.set_cons_zero, List.set_cons_succ]
        rfl
      refine pure_ (i := 75) (N := some 296) (v := ?_) (a' := ?_) #[true, true, true, true, true, true, true, true, true, true, true, true, true, true, true, true, true, true, true, true, true, true, true, true, true, true, true, true, true, true, true, true, true, true, true, true, true, true, true, true, true, true, true, true, true, true, true, true, true, true, true, true, true, true, true, true, true, true, true, true, true, true, true, true, true, true, true, true, true, true, true, true, true, true, true, true, false, false, false, false, false, false, false, false, false, false, false, false, false, false, false, false, false, false, false, false, false, false, false, false, false, false, false, false, false, false] rfl rfl (by as_aux_lemma => kernel_rfl) (fun _ _ _ h => h) (Or.inl ⟨by rfl, ?_⟩) ?_ ?_
      rotate_left
      · intro w'
        go_simp
        with_reducible rfl
      rotate_left
      · simp only [Act.put, List.setIfInBounds_toArray, List.set_cons_zero, List.set_cons_succ]
        rfl
      refine pure_ (i := 76) (N := some 297) (v := ?_) (a' := ?_) #[true, true, true, true, true, true, true, true, true, true, true, true, true, true, true, true, true, true, true, true, true, true, true, true, true, true, true, true, true, true, true, true, true, true, true, true, true, true, true, true, true, true, true, true, true, true, true, true, true, true, true, true, true, true, true, true, true, true, true, true, true, true, true, true, true, true, true, true, true, true, true, true, true, true, true, true, true, false, false, false, false, false, false, false, false, false, false, false, false, false, false, false, false, false, false, false, false, false, false, false, false, false, false, false, false, false] rfl rfl (by as_aux_lemma => kernel_rfl) (fun _ _ _ h => h) (Or.inl ⟨by rfl, ?_⟩) ?_ ?_
      rotate_left
      · intro w'
        go_simp
        with_reducible rfl
      rotate_left
      · simp only [Act.put, List.setIfInBounds_toArray, List.set_cons_zero, List.set_cons_succ]
        rfl
      refine pure_ (i := 77) (N := some 298) (v := ?_) (a' := ?_) #[true, true, true, true, true, true, true, true, true, true, true, true, true, true, true, true, true, true, true, true, true, true, true, true, true, true, true, true, true, true, true, true, true, true, true, true, true, true, true, true, true, true, true, true, true, true, true, true, true, true, true, true, true, true, true, true, true, true, true, true, true, true, true, true, true, true, true, true, true, true, true, true, true, true, true, true, true, true, false, false, false, false, false, false, false, false, false, false, false, false, false, false, false, false, false, false, false, false, false, false, false, false, false, false, false, false] rfl rfl (by as_aux_lemma => kernel_rfl) (fun _ _ _ h => h) (Or.inl ⟨by rfl, ?_⟩) ?_ ?_
      rotate_left
      · intro w'
        go_simp
        with_reducible rfl
      rotate_left
      · simp only [Act.put, List.setIfInBounds_toArray, List.set_cons_zero, List.set_cons_succ]
        rfl
      refine pure_ (i := 78) (N := some 299) (v := ?_) (a' := ?_) #[true, true, true, true, true, true, true, true, true, true, true, true, true, true, true, true, true, true, true, true, true, true, true, true, true, true, true, true, true, true, true, true, true, true, true, true, true, true, true, true, true, true, true, true, true, true, true, true, true, true, true, true, true, true, true, true, true, true, true, true, true, true, true, true, true, true, true, true, true, true, true, true, true, true, true, true, true, true, true, false, false, false, false, false, false, false, false, false, false, false, false, false, false, false, false, false, false, false, false, false, false, false, false, false, false, false] rfl rfl (by as_aux_lemma => kernel_rfl) (fun _ _ _ h => h) (Or.inl ⟨by rfl, ?_⟩) ?_ ?_
      rotate_left
      · intro w'
        go_simp
        with_reducible rfl
      rotate_left
      · simp only [Act.put, List.setIfInBounds_toArray, List.set_cons_zero, List.set_cons_succ]
        rfl
      refine pure_ (i := 79) (N := some 300) (v := ?_) (a' := ?_) #[true, true, true, true, true, true, true, true, true, true, true, true, true, true, true, true, true, true, true, true, true, true, true, true, true, true, true, true, true, true, true, true, true, true, true, true, true, true, true, true, true, true, true, true, true, true, true, true, true, true, true, true, true, true, true, true, true, true, true, true, true, true, true, true, true, true, true, true, true, true, true, true, true, true, true, true, true, true, true, true, false, false, false, false, false, false, false, false, false, false, false, false, false, false, false, false, false, false, false, false, false, false, false, false, false, false] rfl rfl (by as_aux_lemma => kernel_rfl) (fun _ _ _ h => h) (Or.inl ⟨by rfl, ?_⟩) ?_ ?_
      rotate_left
      · intro w'
        go_simp
        with_reducible rfl
      rotate_left
      · simp only [Act.put, List.setIfInBounds_toArray, List.set_cons_zero, List.set_cons_succ]
        rfl
      refine pure_ (i := 80) (N := some 301) (v := ?_) (a' := ?_) #[true, true, true, true, true, true, true, true, true, true, true, true, true, true, true, true, true, true, true, true, true, true, true, true, true, true, true, true, true, true, true, true, true, true, true, true, true, true, true, true, true, true, true, true, true, true, true, true, true, true, true, true, true, true, true, true, true, true, true, true, true, true, true, true, true, true, true, true, true, true, true, true, true, true, true, true, true, true, true, true, true, false, false, false, false, false, false, false, false, false, false, false, false, false, false, false, false, false, false, false, false, false, false, false, false, false] rfl rfl (by as_aux_lemma => kernel_rfl) (fun _ _ _ h => h) (Or.inl ⟨by rfl, ?_⟩) ?_ ?_
      rotate_left
      · intro w'
        go_simp
        with_reducible rfl
      rotate_left
      · simp only [Act.put, List.setIfInBounds_toArray, List.set_cons_zero, List.set_cons_succ]
        rfl
      refine pure_ (i := 81) (N := some 302) (v := ?_) (a' := ?_) #[true, true, true, true, true, true, true, true, true, true, true, true, true, true, true, true, true, true, true, true, true, true, true, true, true, true, true, true, true, true, true, true, true, true, true, true, true, true, true, true, true, true, true, true, true, true, true, true, true, true, true, true, true, true, true, true, true, true, true, true, true, true, true, true, true, true, true, true, true, true, true, true, true, true, true, true, true, true, true, true, true, true, false, false, false, false, false, false, false, false, false, false, false, false, false, false, false, false, false, false, false, false, false, false, false, false] rfl rfl (by as_aux_lemma => kernel_rfl) (fun _ _ _ h => h) (Or.inl ⟨by rfl, ?_⟩) ?_ ?_
      rotate_left
      · intro w'
        go_simp
        with_reducible rfl
      rotate_left
      · simp only [Act.put, List.setIfInBounds_toArray, List.set_cons_zero, List.set_cons_succ]
        rfl
      refine pure_ (i := 82) (N := some 303) (v := ?_) (a' := ?_) #[true, true, true, true, true, true, true, true, true, true, true, true, true, true, true, true, true, true, true, true, true, true, true, true, true, true, true, true, true, true, true, true, true, true, true, true, true, true, true, true, true, true, true, true, true, true, true, true, true, true, true, true, true, true, true, true, true, true, true, true, true, true, true, true, true, true, true, true, true, true, true, true, true, true, true, true, true, true, true, true, true, true, true, false, false, false, false, false, false, false, false, false, false, false, false, false, false, false, false, false, false, false, false, false, false, false] rfl rfl (by as_aux_lemma => kernel_rfl) (fun _ _ _ h => h) (Or.inl ⟨by rfl, ?_⟩) ?_ ?_
      rotate_left
      · intro w'
        go_simp
        with_reducible rfl
      rotate_left
      · simp only [Act.put, List.setIfInBounds_toArray, List.set_cons_zero, List.set_cons_succ]
        rfl
      refine pure_ (i := 83) (N := some 304) (v := ?_) (a' := ?_) #[true, true, true, true, true, true, true, true, true, true, true, true, true, true, true, true, true, true, true, true, true, true, true, true, true, true, true, true, true, true, true, true, true, true, true, true, true, true, true, true, true, true, true, true, true, true, true, true, true, true, true, true, true, true, true, true, true, true, true, true, true, true, true, true, true, true, true, true, true, true, true, true, true, true, true, true, true, true, true, true, true, true, true, true, false, false, false, false, false, false, false, false, false, false, false, false, false, false, false, false, false, false, false, false, false, false] rfl rfl (by as_aux_lemma => kernel_rfl) (fun _ _ _ h => h) (Or.inl ⟨by rfl, ?_⟩) ?_ ?_
      rotate_left
      · intro w'
        go_simp
        with_reducible rfl
      rotate_left
      · simp only [Act.put, List.setIfInBounds_toArray, List.set_cons_zero, List.set_cons_succ]
        rfl
      refine pure_ (i := 84) (N := some 305) (v := ?_) (a' := ?_) #[true, true, true, true, true, true, true, true, true, true, true, true, true, true, true, true, true, true, true, true, true, true, true, true, true, true, true, true, true, true, true, true, true, true, true, true, true, true, true, true, true, true, true, true, true, true, true, true, true, true, true, true, true, true, true, true, true, true, true, true, true, true, true, true, true, true, true, true, true, true, true, true, true, true, true, true, true, true, true, true, true, true, true, true, true, false, false, false, false, false, false, false, false, false, false, false, false, false, false, false, false, false, false, false, false, false] rfl rfl (by as_aux_lemma => kernel_rfl) (fun _ _ _ h => h) (Or.inl ⟨by rfl, ?_⟩) ?_ ?_
      rotate_left
      · intro w'
        go_simp
        with_reducible rfl
      rotate_left
      · simp only [Act.put, List.setIfInBounds_toArray, List.set_cons_zero, List.set_cons_succ]
        rfl
      refine pure_ (i := 85) (N := some 306) (v := ?_) (a' := ?_) #[true, true, true, true, true, true, true, true, true, true, true, true, true, true, true, true, true, true, true, true, true, true, true, true, true, true, true, true, true, true, true, true, true, true, true, true, true, true, true, true, true, true, true, true, true, true, true, true, true, true, true, true, true, true, true, true, true, true, true, true, true, true, true, true, true, true, true, true, true, true, true, true, true, true, true, true, true, true, true, true, true, true, true, true, true, true, false, false, false, false, false, false, false, false, false, false, false, false, false, false, false, false, false, false, false, false] rfl rfl (by as_aux_lemma => kernel_rfl) (fun _ _ _ h => h) (Or.inl ⟨by rfl, ?_⟩) ?_ ?_
      rotate_left
      · intro w'
        go_simp
        with_reducible rfl
      rotate_left
      · simp only [Act.put, List.setIfInBounds_toArray, List.set_cons_zero, List.set_cons_succ]
        rfl
      refine pure_ (i := 86) (N := some 307) (v := ?_) (a' := ?_) #[true, true, true, true, true, true, true, true, true, true, true, true, true, true, true, true, true, true, true, true, true, true, true, true, true, true, true, true, true, true, true, true, true, true, true, true, true, true, true, true, true, true, true, true, true, true, true, true, true, true, true, true, true, true, true, true, true, true, true, true, true, true, true, true, true, true, true, true, true, true, true, true, true, true, true, true, true, true, true, true, true, true, true, true, true, true, true, false, false, false, false, false, false, false, false, false, false, false, false, false, false, false, false, false, false, false] rfl rfl (by as_aux_lemma => kernel_rfl) (fun _ _ _ h => h) (Or.inl ⟨by rfl, ?_⟩) ?_ ?_
      rotate_left
      · intro w'
        go_simp
        with_reducible rfl
      rotate_left
      · simp only [Act.put, List.setIfInBounds_toArray, List.set_cons_zero, List.set_cons_succ]
        rfl
      refine pure_ (i := 87) (N := some 308) (v := ?_) (a' := ?_) #[true, true, true, true, true, true, true, true, true, true, true, true, true, true, true, true, true, true, true, true, true, true, true, true, true, true, true, true, true, true, true, true, true, true, true, true, true, true, true, true, true, true, true, true, true, true, true, true, true, true, true, true, true, true, true, true, true, true, true, true, true, true, true, true, true, true, true, true, true, true, true, true, true, true, true, true, true, true, true, true, true, true, true, true, true, true, true, true, false, false, false, false, false, false, false, false, false, false, false, false, false, false, false, false, false, false] rfl rfl (by as_aux_lemma => kernel_rfl) (fun _ _ _ h => h) (Or.inl ⟨by rfl, ?_⟩) ?_ ?_
      rotate_left
      · intro w'
        go_simp
        with_reducible rfl
      rotate_left
      · simp only [Act.put, List.setIfInBounds_toArray, List.set_cons_zero, List.set_cons_succ]
        rfl
      refine pure_ (i := 88) (N := some 309) (v := ?_) (a' := ?_) #[true, true, true, true, true, true, true, true, true, true, true, true, true, true, true, true, true, true, true, true, true, true, true, true, true, true, true, true, true, true, true, true, true, true, true, true, true, true, true, true, true, true, true, true, true, true, true, true, true, true, true, true, true, true, true, true, true, true, true, true, true, true, true, true, true, true, true, true, true, true, true, true, true, true, true, true, true, true, true, true, true, true, true, true, true, true, true, true, true, false, false, false, false, false, false, false, false, false, false, false, false, false, false, false, false, false] rfl rfl (by as_aux_lemma => kernel_rfl) (fun _ _ _ h => h) (Or.inl ⟨by rfl, ?_⟩) ?_ ?_
      rotate_left
      · intro w'
        go_simp
        with_reducible rfl
      rotate_left
      · simp only [Act.put, List.setIfInBounds_toArray, List.set_cons_zero, List.set_cons_succ]
        rfl
      refine pure_ (i := 89) (N := some 310) (v := ?_) (a' := ?_) #[true, true, true, true, true, true, true, true, true, true, true, true, true, true, true, true, true, true, true, true, true, true, true, true, true, true, true, true, true, true, true, true, true, true, true, true, true, true, true, true, true, true, true, true, true, true, true, true, true, true, true, true, true, true, true, true, true, true, true, true, true, true, true, true, true, true, true, true, true, true, true, true, true, true, true, true, true, true, true, true, true, true, true, true, true, true, true, true, true, true, false, false, false, false, false, false, false, false, false, false, false, false, false, false, false, false] rfl rfl (by as_aux_lemma => kernel_rfl) (fun _ _ _ h => h) (Or.inl ⟨by rfl, ?_⟩) ?_ ?_
      rotate_left
      · intro w'
        go_simp
        with_reducible rfl
      rotate_left
      · simp only [Act.put, List.setIfInBounds_toArray, List.set_cons_zero, List.set_cons_succ]
        rfl
      refine pure_ (i := 90) (N := some 311) (v := ?_) (a' := ?_) #[true, true, true, true, true, true, true, true, true, true, true, true, true, true, true, true, true, true, true, true, true, true, true, true, true, true, true, true, true, true, true, true, true, true, true, true, true, true, true, true, true, true, true, true, true, true, true, true, true, true, true, true, true, true, true, true, true, true, true, true, true, true, true, true, true, true, true, true, true, true, true, true, true, true, true, true, true, true, true, true, true, true, true, true, true, true, true, true, true, true, true, false, false, false, false, false, false, false, false, false, false, false, false, false, false, false] rfl rfl (by as_aux_lemma => kernel_rfl) (fun _ _ _ h => h) (Or.inl ⟨by rfl, ?_⟩) ?_ ?_
      rotate_left
      · intro w'
        go_simp
        with_reducible rfl
      rotate_left
      · simp only [Act.put, List.setIfInBounds_toArray, List.set_cons_zero, List.set_cons_succ]
        rfl
      refine pure_ (i := 91) (N := some 312) (v := ?_) (a' := ?_) #[true, true, true, true, true, true, true, true, true, true, true, true, true, true, true, true, true, true, true, true, true, true, true, true, true, true, true, true, true, true, true, true, true, true, true, true, true, true, true, true, true, true, true, true, true, true, true, true, true, true, true, true, true, true, true, true, true, true, true, true, true, true, true, true, true, true, true, true, true, true, true, true, true, true, true, true, true, true, true, true, true, true, true, true, true, true, true, true, true, true, true, true, false, false, false, false, false, false, false, false, false, false, false, false, false, false] rfl rfl (by as_aux_lemma => kernel_rfl) (fun _ _ _ h => h) (Or.inl ⟨by rfl, ?_⟩) ?_ ?_
      rotate_left
      · intro w'
        go_simp
        with_reducible rfl
      rotate_left
      · simp only [Act.put, List.setIfInBounds_toArray, List.set_cons_zero, List.set_cons_succ]
        rfl
      refine take_ (i := 92) (N := some 313) (v := ?_) (a' := ?_) #[true, true, true, true, true, true, true, true, true, true, true, true, true, true, true, true, true, true, true, true, true, true, true, true, true, true, true, true, true, true, true, true, true, true, true, true, true, true, true, true, true, true, true, true, true, true, true, true, true, true, true, true, true, true, true, true, true, true, true, true, true, true, true, true, true, true, true, true, true, true, true, true, true, true, true, true, true, true, true, true, true, true, true, true, true, true, true, true, true, true, true, true, true, false, false, false, false, false, false, false, false, false, false, false, false, false] rfl rfl (by as_aux_lemma => kernel_rfl) (fun _ _ _ h => h) (Or.inl ⟨by rfl, ?_⟩) hHeld ?_ ?_
      rotate_left
      · rintro w' ⟨s0, s1, s2, s3, s4, s5, s6, s7⟩
        go_simp
        with_reducible rfl
      rotate_left
      · simp only [Act.put, List.setIfInBounds_toArray, List.set_cons_zero, List.set_cons_succ]
        rfl
      refine pure_ (i := 93) (N := some 314) (v := ?_) (a' := ?_) #[true, true, true, true, true, true, true, true, true, true, true, true, true, true, true, true, true, true, true, true, true, true, true, true, true, true, true, true, true, true, true, true, true, true, true, true, true, true, true, true, true, true, true, true, true, true, true, true, true, true, true, true, true, true, true, true, true, true, true, true, true, true, true, true, true, true, true, true, true, true, true, true, true, true, true, true, true, true, true, true, true, true, true, true, true, true, true, true, true, true, true, true, true, true, false, false, false, false, false, false, false, false, false, false, false, false] rfl rfl (by as_aux_lemma => kernel_rfl) (fun _ _ _ h => h) (Or.inl ⟨by rfl, ?_⟩) ?_ ?_
      rotate_left
      · intro w'
        go_simp
        with_reducible rfl
      rotate_left
      · simp only [Act.put, List.setIfInBounds_toArray, List.set_cons_zero, List.set_cons_succ]
        rfl
      refine pure_ (i := 94) (N := some 315) (v := ?_) (a' := ?_) #[true, true, true, true, true, true, true, true, true, true, true, true, true, true, true, true, true, true, true, true, true, true, true, true, true, true, true, true, true, true, true, true, true, true, true, true, true, true, true, true, true, true, true, true, true, true, true, true, true, true, true, true, true, true, true, true, true, true, true, true, true, true, true, true, true, true, true, true, true, true, true, true, true, true, true, true, true, true, true, true, true, true, true, true, true, true, true, true, true, true, true, true, true, true, true, false, false, false, false, false, false, false, false, false, false, false] rfl rfl (by as_aux_lemma => kernel_rfl) (fun _ _ _ h => h) (Or.inl ⟨by rfl, ?_⟩) ?_ ?_
      rotate_left
      · intro w'
        go_simp
        with_reducible rfl
      rotate_left
      · simp only [Act.put, List.setIfInBounds_toArray, List.set_cons_zero, List.set_cons_succ]
        rfl
      refine pure_ (i := 95) (N := some 316) (v := ?_) (a' := ?_) #[true, true, true, true, true, true, true, true, true, true, true, true, true, true, true, true, true, true, true, true, true, true, true, true, true, true, true, true, true, true, true, true, true, true, true, true, true, true, true, true, true, true, true, true, true, true, true, true, true, true, true, true, true, true, true, true, true, true, true, true, true, true, true, true, true, true, true, true, true, true, true, true, true, true, true, true, true, true, true, true, true, true, true, true, true, true, true, true, true, true, true, true, true, true, true, true, false, false, false, false, false, false, false, false, false, false] rfl rfl (by as_aux_lemma => kernel_rfl) (fun _ _ _ h => h) (Or.inl ⟨by rfl, ?_⟩) ?_ ?_
      rotate_left
      · intro w'
        go_simp
        with_reducible rfl
      rotate_left
      · simp only [Act.put, List.setIfInBounds_toArray, List.set_cons_zero, List.set_cons_succ]
        rfl
      refine pure_ (i := 96) (N := some 317) (v := ?_) (a' := ?_) #[true, true, true, true, true, true, true, true, true, true, true, true, true, true, true, true, true, true, true, true, true, true, true, true, true, true, true, true, true, true, true, true, true, true, true, true, true, true, true, true, true, true, true, true, true, true, true, true, true, true, true, true, true, true, true, true, true, true, true, true, true, true, true, true, true, true, true, true, true, true, true, true, true, true, true, true, true, true, true, true, true, true, true, true, true, true, true, true, true, true, true, true, true, true, true, true, true, false, false, false, false, false, false, false, false, false] rfl rfl (by as_aux_lemma => kernel_rfl) (fun _ _ _ h => h) (Or.inl ⟨by rfl, ?_⟩) ?_ ?_
      rotate_left
      · intro w'
        go_simp
        with_reducible rfl
      rotate_left
      · simp only [Act.put, List.setIfInBounds_toArray, List.set_cons_zero, List.set_cons_succ]
        rfl
      refine pure_ (i := 97) (N := some 318) (v := ?_) (a' := ?_) #[true, true, true, true, true, true, true, true, true, true, true, true, true, true, true, true, true, true, true, true, true, true, true, true, true, true, true, true, true, true, true, true, true, true, true, true, true, true, true, true, true, true, true, true, true, true, true, true, true, true, true, true, true, true, true, true, true, true, true, true, true, true, true, true, true, true, true, true, true, true, true, true, true, true, true, true, true, true, true, true, true, true, true, true, true, true, true, true, true, true, true, true, true, true, true, true, true, true, false, false, false, false, false, false, false, false] rfl rfl (by as_aux_lemma => kernel_rfl) (fun _ _ _ h => h) (Or.inl ⟨by rfl, ?_⟩) ?_ ?_
      rotate_left
      · intro w'
        go_simp
        with_reducible rfl
      rotate_left
      · simp only [Act.put, List.setIfInBounds_toArray, List.set_cons_zero, List.set_cons_succ]
        rfl
      refine pure_ (i := 98) (N := some 319) (v := ?_) (a' := ?_) #[true, true, true, true, true, true, true, true, true, true, true, true, true, true, true, true, true, true, true, true, true, true, true, true, true, true, true, true, true, true, true, true, true, true, true, true, true, true, true, true, true, true, true, true, true, true, true, true, true, true, true, true, true, true, true, true, true, true, true, true, true, true, true, true, true, true, true, true, true, true, true, true, true, true, true, true, true, true, true, true, true, true, true, true, true, true, true, true, true, true, true, true, true, true, true, true, true, true, true, false, false, false, false, false, false, false] rfl rfl (by as_aux_lemma => kernel_rfl) (fun _ _ _ h => h) (Or.inl ⟨by rfl, ?_⟩) ?_ ?_
      rotate_left
      · intro w'
        go_simp
        with_reducible rfl
      rotate_left
      · simp only [Act.put, List.setIfInBounds_toArray, List.set_cons_zero, List.set_cons_succ]
        rfl
      refine pure_ (i := 99) (N := some 320) (v := ?_) (a' := ?_) #[true, true, true, true, true, true, true, true, true, true, true, true, true, true, true, true, true, true, true, true, true, true, true, true, true, true, true, true, true, true, true, true, true, true, true, true, true, true, true, true, true, true, true, true, true, true, true, true, true, true, true, true, true, true, true, true, true, true, true, true, true, true, true, true, true, true, true, true, true, true, true, true, true, true, true, true, true, true, true, true, true, true, true, true, true, true, true, true, true, true, true, true, true, true, true, true, true, true, true, true, false, false, false, false, false, false] rfl rfl (by as_aux_lemma => kernel_rfl) (fun _ _ _ h => h) (Or.inl ⟨by rfl, ?_⟩) ?_ ?_
      rotate_left
      · intro w'
        go_simp
        with_reducible rfl
      rotate_left
      · simp only [Act.put, List.setIfInBounds_toArray, List.set_cons_zero, List.set_cons_succ]
        rfl
      refine pure_ (i := 100) (N := some 321) (v := ?_) (a' := ?_) #[true, true, true, true, true, true, true, true, true, true, true, true, true, true, true, true, true, true, true, true, true, true, true, true, true, true, true, true, true, true, true, true, true, true, true, true, true, true, true, true, true, true, true, true, true, true, true, true, true, true, true, true, true, true, true, true, true, true, true, true, true, true, true, true, true, true, true, true, true, true, true, true, true, true, true, true, true, true, true, true, true, true, true, true, true, true, true, true, true, true, true, true, true, true, true, true, true, true, true, true, true, false, false, false, false, false] rfl rfl (by as_aux_lemma => kernel_rfl) (fun _ _ _ h => h) (Or.inl ⟨by rfl, ?_⟩) ?_ ?_
      rotate_left
      · intro w'
        go_simp
        with_reducible rfl
      rotate_left
      · simp only [Act.put, List.setIfInBounds_toArray, List.set_cons_zero, List.set_cons_succ]
        rfl
      refine take_ (i := 101) (N := some 322) (v := ?_) (a' := ?_) #[true, true, true, true, true, true, true, true, true, true, true, true, true, true, true, true, true, true, true, true, true, true, true, true, true, true, true, true, true, true, true, true, true, true, true, true, true, true, true, true, true, true, true, true, true, true, true, true, true, true, true, true, true, true, true, true, true, true, true, true, true, true, true, true, true, true, true, true, true, true, true, true, true, true, true, true, true, true, true, true, true, true, true, true, true, true, true, true, true, true, true, true, true, true, true, true, true, true, true, true, true, true, false, false, false, false] rfl rfl (by as_aux_lemma => kernel_rfl) (fun _ _ _ h => h) (Or.inl ⟨by rfl, ?_⟩) hHeld ?_ ?_
      rotate_left
      · rintro w' ⟨s0, s1, s2, s3, s4, s5, s6, s7⟩
        go_simp
        with_reducible rfl
      rotate_left
      · simp only [Act.put, List.setIfInBounds_toArray, List.set_cons_zero, List.set_cons_succ]
        rfl
      refine one_ (i := 102) (N := some 323) #[true, true, true, true, true, true, true, true, true, true, true, true, true, true, true, true, true, true, true, true, true, true, true, true, true, true, true, true, true, true, true, true, true, true, true, true, true, true, true, true, true, true, true, true, true, true, true, true, true, true, true, true, true, true, true, true, true, true, true, true, true, true, true, true, true, true, true, true, true, true, true, true, true, true, true, true, true, true, true, true, true, true, true, true, true, true, true, true, true, true, true, true, true, true, true, true, true, true, true, true, true, true, true, false, false, false] rfl rfl (by as_aux_lemma => kernel_rfl) (by decide) (fun K hK => ?_)
      refine goes_ Try.func38 (by as_aux_lemma => kernel_rfl) rfl #[] (by rfl) rfl rfl (by simp only [List.map_toArray, List.map_cons, List.map_nil] <;> rfl) ?_
      refine (show Calls _ _ #[] _ _ from law24_example _).mono ?_
      rintro e w23 ⟨A23, k23, rfl, hr, hb⟩
      refine ⟨_, rfl, ?_⟩
      have N := Aside0.mk (N.out.below hb)
      have GS := Aside0.mk (blk_below GS.out hb)
      clear hb HSP
      have HSP := Aside0.mk (show (fun w' : World => w'.cell? ⟨w7.heap.size, 0, none⟩ = some (.slice A7 trueP.f0.length k7) ∧ w'.cell? ⟨w7.heap.size, 1, none⟩ = some (.int .i64 trueP.f1) ∧ w'.cell? ⟨w8.heap.size, 1, none⟩ = some (.int .i64 0) ∧ w'.cell? ⟨w10.heap.size, 0, none⟩ = some (.slice A10 1 k10) ∧ w'.cell? ⟨w10.heap.size, 1, none⟩ = some (.int .i64 2001) ∧ w'.cell? ⟨w16.heap.size, 2, none⟩ = some (.slice p16.A2 2 p16.c2) ∧ w'.cell? ⟨w19.heap.size, 0, none⟩ = some (.slice A19 exP.f0.length k19) ∧ w'.cell? ⟨w19.heap.size, 1, none⟩ = some (.int .i64 exP.f1)) w23 from ⟨(blk2w (N.out.K _ (.tail _ (.tail _ (.tail _ (.tail _ (.head _)))))).b).1.1, (blk2w (N.out.K _ (.tail _ (.tail _ (.tail _ (.tail _ (.head _)))))).b).1.2, (blk2w (N.out.K _ (.tail _ (.tail _ (.tail _ (.head _))))).b).1.2, (blk2w (N.out.K _ (.tail _ (.head _))).b).1.1, (blk2w (N.out.K _ (.tail _ (.head _))).b).1.2, (blk5w GS.out).1.2.2.1, (blk2w (N.out.K _ (.head _)).b).1.1, (blk2w (N.out.K _ (.head _)).b).1.2⟩)
      have Q_ := Aside0.mk hr
      clear hr
      refine hK.out _ _ HSP.out (fun hHeld => ?_)
      clear hK K
      refine norm_ (a' := ?_) ?_ ?_
      rotate_left
      · show Act.put _ (some 323) _ = _
        simp only [Act.put, List.setIfInBounds_toArray, List.set_cons_zero, List.set_cons_succ]
        rfl
      refine one_ (i := 103) (N := some 324) #[true, true, true, true, true, true, true, true, true, true, true, true, true, true, true, true, true, true, true, true, true, true, true, true, true, true, true, true, true, true, true, true, true, true, true, true, true, true, true, true, true, true, true, true, true, true, true, true, true, true, true, true, true, true, true, true, true, true, true, true, true, true, true, true, true, true, true, true, true, true, true, true, true, true, true, true, true, true, true, true, true, true, true, true, true, true, true, true, true, true, true, true, true, true, true, true, true, true, true, true, true, true, true, true, false, false] rfl rfl (by as_aux_lemma => kernel_rfl) (by decide) (fun K hK => ?_)
      refine goes_ Try.func27 (by as_aux_lemma => kernel_rfl) rfl #[pv A19 k19 exP, pv A23 k23 exP] (by rfl) rfl rfl (by simp only [List.map_toArray, List.map_cons, List.map_nil] <;> rfl) ?_
      refine (show Calls _ _ #[pv A19 k19 exP, pv A23 k23 exP] _ _ from ref24_Same A19 k19 exP A23 k23 exP _ (N.out.K _ (.head _)).r Q_.out).mono ?_
      rintro e w24 ⟨rfl, hb⟩
      rw [decide_eq_true (rfl : exP = exP)]
      refine ⟨_, rfl, ?_⟩
      have N := Aside0.mk (N.out.below hb)
      have GS := Aside0.mk (blk_below GS.out hb)
      clear hb HSP
      have HSP := Aside0.mk (show (fun w' : World => w'.cell? ⟨w7.heap.size, 0, none⟩ = some (.slice A7 trueP.f0.length k7) ∧ w'.cell? ⟨w7.heap.size, 1, none⟩ = some (.int .i64 trueP.f1) ∧ w'.cell? ⟨w8.heap.size, 1, none⟩ = some (.int .i64 0) ∧ w'.cell? ⟨w10.heap.size, 0, none⟩ = some (.slice A10 1 k10) ∧ w'.cell? ⟨w10.heap.size, 1, none⟩ = some (.int .i64 2001) ∧ w'.cell? ⟨w16.heap.size, 2, none⟩ = some (.slice p16.A2 2 p16.c2) ∧ w'.cell? ⟨w19.heap.size, 0, none⟩ = some (.slice A19 exP.f0.length k19) ∧ w'.cell? ⟨w19.heap.size, 1, none⟩ = some (.int .i64 exP.f1)) w24 from ⟨(blk2w (N.out.K _ (.tail _ (.tail _ (.tail _ (.tail _ (.head _)))))).b).1.1, (blk2w (N.out.K _ (.tail _ (.tail _ (.tail _ (.tail _ (.head _)))))).b).1.2, (blk2w (N.out.K _ (.tail _ (.tail _ (.tail _ (.head _))))).b).1.2, (blk2w (N.out.K _ (.tail _ (.head _))).b).1.1, (blk2w (N.out.K _ (.tail _ (.head _))).b).1.2, (blk5w GS.out).1.2.2.1, (blk2w (N.out.K _ (.head _)).b).1.1, (blk2w (N.out.K _ (.head _)).b).1.2⟩)
      refine hK.out _ _ HSP.out (fun hHeld => ?_)
      clear hK K
      refine norm_ (a' := ?_) ?_ ?_
      rotate_left
      · show Act.put _ (some 324) _ = _
        simp only [Act.put, List.setIfInBounds_toArray, List.set_cons_zero, List.set_cons_succ]
        rfl
      refine pure_ (i := 104) (N := some 325) (v := ?_) (a' := ?_) #[true, true, true, true, true, true, true, true, true, true, true, true, true, true, true, true, true, true, true, true, true, true, true, true, true, true, true, true, true, true, true, true, true, true, true, true, true, true, true, true, true, true, true, true, true, true, true, true, true, true, true, true, true, true, true, true, true, true, true, true, true, true, true, true, true, true, true, true, true, true, true, true, true, true, true, true, true, true, true, true, true, true, true, true, true, true, true, true, true, true, true, true, true, true, true, true, true, true, true, true, true, true, true, true, true, false] rfl rfl (by as_aux_lemma => kernel_rfl) (fun _ _ _ h => h) (Or.inl ⟨by rfl, ?_⟩) ?_ ?_
      rotate_left
      · intro w'
        go_simp
        with_reducible rfl
      rotate_left
      · simp only [Act.put, List.setIfInBounds_toArray, List.set_cons_zero, List.set_cons_succ]
        rfl
      refine pure_ (i := 105) (N := some 0) (v := ?_) (a' := ?_) #[true, true, true, true, true, true, true, true, true, true, true, true, true, true, true, true, true, true, true, true, true, true, true, true, true, true, true, true, true, true, true, true, true, true, true, true, true, true, true, true, true, true, true, true, true, true, true, true, true, true, true, true, true, true, true, true, true, true, true, true, true, true, true, true, true, true, true, true, true, true, true, true, true, true, true, true, true, true, true, true, true, true, true, true, true, true, true, true, true, true, true, true, true, true, true, true, true, true, true, true, true, true, true, true, true, true] rfl rfl (by as_aux_lemma => kernel_rfl) (fun _ _ _ h => h) (Or.inl ⟨by rfl, ?_⟩) ?_ ?_
      rotate_left
      · intro w'
        go_simp
        with_reducible rfl
      rotate_left
      · simp only [Act.put, List.setIfInBounds_toArray, List.set_cons_zero, List.set_cons_succ]
        rfl
      refine done_ (by as_aux_lemma => kernel_rfl) ?_
      go_wp2
      go_ret
      exact ⟨rfl, N.out.BW⟩
end Go.Proofs.Ytgcdanpihaeioaa.PH
