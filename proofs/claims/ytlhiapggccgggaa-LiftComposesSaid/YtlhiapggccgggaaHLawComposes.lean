/- The law LiftComposes: its function answers true. -/
import Derived.Test.YtlhiapggccgggaaHComposeR
import Derived.Test.YtlhiapggccgggaaHLawChecks
namespace Go.Proofs.Ytlhiapggccgggaa.PH
open Go.RowKit Go.Proofs.YtlhiapggccgggaaW.PrintWords Go.Proofs.YtlhiapggccgggaaW.PrintLast
set_option linter.unusedVariables false
set_option linter.unusedSimpArgs false

theorem lat60 {c : Circ} (h : great c = false) : c.f1.length ≤ 60 := by
  unfold great at h
  simp only [Bool.or_eq_false_iff, decide_eq_false_iff_not] at h
  omega
set_option maxHeartbeats 8000000 in
set_option maxRecDepth 100000 in
theorem law_LiftComposes (p : CP) (fr : Circ) (q : CP) (md : Circ) (u : CP) (tc : Circ) (r : LP) (a : Lf) (s : LP) (b : Lf) (w : World) (hp : RC w p fr) (hq : RC w q md) (hu : RC w u tc) (hr : RL w r a) (hs : RL w s b) (nf : fr.Nums) (nm : md.Nums) (nt : tc.Nums) (na : a.Nums) (nb : b.Nums) :
    Calls Try.prog 4 #[cv p fr, cv q md, cv u tc, lv r a, lv s b] w fun e w' => e = .returned (.bool true) ∧ Below w.heap.size w w' := by
  obtain ⟨P1, p1, P2, p2, P3, p3, P4, p4⟩ := p
  obtain ⟨M1, m1, M2, m2, M3, m3, M4, m4⟩ := q
  obtain ⟨T1, t1, T2, t2, T3, t3, T4, t4⟩ := u
  obtain ⟨A2, a2, A3, a3, A4, a4, A5, a5⟩ := r
  obtain ⟨B2, b2, B3, b3, B4, b4, B5, b5⟩ := s
  have HP := Aside0.mk hp
  have HQ := Aside0.mk hq
  have HU := Aside0.mk hu
  have HRA := Aside0.mk hr
  have HRB := Aside0.mk hs
  have hu26 := Try.underlying26
  have hu31 := Try.underlying31
  have NF := Aside0.mk nf
  have NM := Aside0.mk nm
  have NT := Aside0.mk nt
  have NA := Aside0.mk na
  have NB := Aside0.mk nb
  clear hp hq hu hr hs nf nm nt na nb
  dsimp only [lv, cv] at *
  have C := Aside0.mk (Cm5.below (Cm5.start w fr md tc a b P1 P2 P3 P4 M1 M2 M3 M4 T1 T2 T3 T4 p1 p2 p3 p4 m1 m2 m3 m4 t1 t2 t3 t4 A2 A3 A4 A5 B2 B3 B4 B5 a2 a3 a4 a5 b2 b3 b4 b5) (below_alloc (Below.refl _ _) (.cells #[.int .i64 fr.f0, .slice P1 fr.f1.length p1, .slice P2 fr.f2.length p2, .slice P3 fr.f3.length p3, .slice P4 fr.f4.length p4, .int .i64 md.f0, .slice M1 md.f1.length m1, .slice M2 md.f2.length m2, .slice M3 md.f3.length m3, .slice M4 md.f4.length m4, .int .i64 tc.f0, .slice T1 tc.f1.length t1, .slice T2 tc.f2.length t2, .slice T3 tc.f3.length t3, .slice T4 tc.f4.length t4] 26)))
  have HS := Aside0.mk (RS.three_circ (p := ⟨P1, p1, P2, p2, P3, p3, P4, p4⟩) (q := ⟨M1, m1, M2, m2, M3, m3, M4, m4⟩) (r := ⟨T1, t1, T2, t2, T3, t3, T4, t4⟩) (B := w.heap.size + 1 + 1 + 1 + 1 + 1) (HP.out.below C.out.BW) (HQ.out.below C.out.BW) (HU.out.below C.out.BW) (fun j u hj => by rw [World.cell?_alloc_at _ _ _ _ (by simp)]; simpa using hj))
  obtain ⟨og, hog⟩ : ∃ og, [fr, md, tc].any great = og := ⟨_, rfl⟩
  have HO := Aside0.mk hog
  clear hog
  go_enter Try.func4, Try.ntmps4
  go_wp2_with fail
  refine (show Calls _ _ #[.slice (some ⟨w.heap.size + 1 + 1 + 1 + 1 + 1, 0, none⟩) 3 3] _ _ from law25_great (some ⟨w.heap.size + 1 + 1 + 1 + 1 + 1, 0, none⟩) 3 [fr, md, tc] _ HS.out).mono ?_
  rintro e w1 ⟨rfl, hb⟩
  have C := Aside0.mk (C.out.below hb)
  rw [HO.out]
  clear hb HS
  cases og with
  | true =>
    go_wp2
    go_ret
    exact ⟨rfl, C.out.BW⟩
  | false =>
  have hg : great fr = false ∧ great md = false ∧ great tc = false := by have h_ := HO.out; simpa using h_
  have FF := Aside0.mk (NF.out.fits hg.1)
  have FM := Aside0.mk (NM.out.fits hg.2.1)
  have FT := Aside0.mk (NT.out.fits hg.2.2)
  have SF := Aside0.mk (lat60 hg.1)
  clear hg
  obtain ⟨f0, f1, f2, f3, f4⟩ := blk5 C.out.F
  obtain ⟨d0, d1, d2, d3, d4⟩ := blk5 C.out.M
  obtain ⟨t0_, t1_, t2_, t3_, t4_⟩ := blk5 C.out.T
  obtain ⟨⟨r0, r1, r2, r3, r4, r5, r6⟩, _⟩ := blk7 C.out.A
  obtain ⟨⟨s0, s1, s2, s3, s4, s5, s6⟩, _⟩ := blk7 C.out.B
  go_wp2_with fail
  refine (show Calls _ _ #[.agg #[.int .i64 a.f0, .int .i64 a.f1, .slice A2 a.f2.length a2, .slice A3 a.f3.length a3, .slice A4 a.f4.length a4, .slice A5 a.f5.f0.length a5, .int .i64 a.f5.f1]] _ _ from ref25_GreatLift ⟨A2, a2, A3, a3, A4, a4, A5, a5⟩ a _ (HRA.out.below C.out.BW)).mono ?_
  rintro e w2 ⟨ba, rfl, hba, hb⟩
  have C := Aside0.mk (C.out.below hb)
  have SA := Aside0.mk hba
  clear hb hba f0 f1 f2 f3 f4 d0 d1 d2 d3 d4 t0_ t1_ t2_ t3_ t4_ r0 r1 r2 r3 r4 r5 r6 s0 s1 s2 s3 s4 s5 s6
  cases ba with
  | true =>
    go_wp2
    go_ret
    exact ⟨rfl, C.out.BW⟩
  | false =>
  have FA := Aside0.mk (NA.out.fits (SA.out rfl))
  clear SA
  obtain ⟨f0, f1, f2, f3, f4⟩ := blk5 C.out.F
  obtain ⟨d0, d1, d2, d3, d4⟩ := blk5 C.out.M
  obtain ⟨t0_, t1_, t2_, t3_, t4_⟩ := blk5 C.out.T
  obtain ⟨⟨r0, r1, r2, r3, r4, r5, r6⟩, _⟩ := blk7 C.out.A
  obtain ⟨⟨s0, s1, s2, s3, s4, s5, s6⟩, _⟩ := blk7 C.out.B
  go_wp2_with fail
  refine (show Calls _ _ #[.agg #[.int .i64 b.f0, .int .i64 b.f1, .slice B2 b.f2.length b2, .slice B3 b.f3.length b3, .slice B4 b.f4.length b4, .slice B5 b.f5.f0.length b5, .int .i64 b.f5.f1]] _ _ from ref25_GreatLift ⟨B2, b2, B3, b3, B4, b4, B5, b5⟩ b _ (HRB.out.below C.out.BW)).mono ?_
  rintro e w3 ⟨bb, rfl, hbb, hb⟩
  have C := Aside0.mk (C.out.below hb)
  have SB := Aside0.mk hbb
  clear hb hbb f0 f1 f2 f3 f4 d0 d1 d2 d3 d4 t0_ t1_ t2_ t3_ t4_ r0 r1 r2 r3 r4 r5 r6 s0 s1 s2 s3 s4 s5 s6
  cases bb with
  | true =>
    go_wp2
    go_ret
    exact ⟨rfl, C.out.BW⟩
  | false =>
  have FB := Aside0.mk (NB.out.fits (SB.out rfl))
  have S3 := Aside0.mk (SB.out rfl).2.2.2
  clear SB
  obtain ⟨R, hR⟩ : ∃ R, composeC fr md tc a b = R := ⟨_, rfl⟩
  have HR := Aside0.mk hR
  clear hR
  obtain ⟨f0, f1, f2, f3, f4⟩ := blk5 C.out.F
  obtain ⟨d0, d1, d2, d3, d4⟩ := blk5 C.out.M
  obtain ⟨t0_, t1_, t2_, t3_, t4_⟩ := blk5 C.out.T
  obtain ⟨⟨r0, r1, r2, r3, r4, r5, r6⟩, _⟩ := blk7 C.out.A
  obtain ⟨⟨s0, s1, s2, s3, s4, s5, s6⟩, _⟩ := blk7 C.out.B
  go_wp2_with fail
  refine (show Calls _ _ #[.agg #[.int .i64 fr.f0, .slice P1 fr.f1.length p1, .slice P2 fr.f2.length p2, .slice P3 fr.f3.length p3, .slice P4 fr.f4.length p4], .agg #[.int .i64 md.f0, .slice M1 md.f1.length m1, .slice M2 md.f2.length m2, .slice M3 md.f3.length m3, .slice M4 md.f4.length m4], .agg #[.int .i64 tc.f0, .slice T1 tc.f1.length t1, .slice T2 tc.f2.length t2, .slice T3 tc.f3.length t3, .slice T4 tc.f4.length t4], .agg #[.int .i64 a.f0, .int .i64 a.f1, .slice A2 a.f2.length a2, .slice A3 a.f3.length a3, .slice A4 a.f4.length a4, .slice A5 a.f5.f0.length a5, .int .i64 a.f5.f1], .agg #[.int .i64 b.f0, .int .i64 b.f1, .slice B2 b.f2.length b2, .slice B3 b.f3.length b3, .slice B4 b.f4.length b4, .slice B5 b.f5.f0.length b5, .int .i64 b.f5.f1]] _ _ from lift_Compose ⟨P1, p1, P2, p2, P3, p3, P4, p4⟩ ⟨M1, m1, M2, m2, M3, m3, M4, m4⟩ ⟨T1, t1, T2, t2, T3, t3, T4, t4⟩ fr md tc ⟨A2, a2, A3, a3, A4, a4, A5, a5⟩ ⟨B2, b2, B3, b3, B4, b4, B5, b5⟩ a b _ (HP.out.below C.out.BW) (HQ.out.below C.out.BW) (HU.out.below C.out.BW) (HRA.out.below C.out.BW) (HRB.out.below C.out.BW) FF.out FM.out FT.out FA.out FB.out S3.out SF.out).mono ?_
  rintro e w4 ⟨⟨X2, x2, X3, x3, X4, x4, X5, x5⟩, rfl, hx, hb⟩
  rw [HR.out] at hx ⊢
  have C := Aside0.mk ((C.out.below hb).below (below_alloc (Below.refl _ _) (.cells #[.int .i64 R.1.f0, .int .i64 R.1.f1, .slice X2 R.1.f2.length x2, .slice X3 R.1.f3.length x3, .slice X4 R.1.f4.length x4, .slice X5 R.1.f5.f0.length x5, .int .i64 R.1.f5.f1] 31)))
  have RX := Aside0.mk (hx.below (below_alloc (Below.refl _ _) (.cells #[.int .i64 R.1.f0, .int .i64 R.1.f1, .slice X2 R.1.f2.length x2, .slice X3 R.1.f3.length x3, .slice X4 R.1.f4.length x4, .slice X5 R.1.f5.f0.length x5, .int .i64 R.1.f5.f1] 31)))
  have BX := Aside0.mk (blk_new w4 (.cells #[.int .i64 R.1.f0, .int .i64 R.1.f1, .slice X2 R.1.f2.length x2, .slice X3 R.1.f3.length x3, .slice X4 R.1.f4.length x4, .slice X5 R.1.f5.f0.length x5, .int .i64 R.1.f5.f1] 31))
  clear hx hb f0 f1 f2 f3 f4 d0 d1 d2 d3 d4 t0_ t1_ t2_ t3_ t4_ r0 r1 r2 r3 r4 r5 r6 s0 s1 s2 s3 s4 s5 s6
  obtain ⟨f0, f1, f2, f3, f4⟩ := blk5 C.out.F
  obtain ⟨d0, d1, d2, d3, d4⟩ := blk5 C.out.M
  obtain ⟨t0_, t1_, t2_, t3_, t4_⟩ := blk5 C.out.T
  obtain ⟨⟨r0, r1, r2, r3, r4, r5, r6⟩, _⟩ := blk7 C.out.A
  obtain ⟨⟨s0, s1, s2, s3, s4, s5, s6⟩, _⟩ := blk7 C.out.B
  go_wp2_with fail
  refine (show Calls _ _ #[.agg #[.int .i64 fr.f0, .slice P1 fr.f1.length p1, .slice P2 fr.f2.length p2, .slice P3 fr.f3.length p3, .slice P4 fr.f4.length p4], .agg #[.int .i64 md.f0, .slice M1 md.f1.length m1, .slice M2 md.f2.length m2, .slice M3 md.f3.length m3, .slice M4 md.f4.length m4], .agg #[.int .i64 tc.f0, .slice T1 tc.f1.length t1, .slice T2 tc.f2.length t2, .slice T3 tc.f3.length t3, .slice T4 tc.f4.length t4], .agg #[.int .i64 a.f0, .int .i64 a.f1, .slice A2 a.f2.length a2, .slice A3 a.f3.length a3, .slice A4 a.f4.length a4, .slice A5 a.f5.f0.length a5, .int .i64 a.f5.f1], .agg #[.int .i64 b.f0, .int .i64 b.f1, .slice B2 b.f2.length b2, .slice B3 b.f3.length b3, .slice B4 b.f4.length b4, .slice B5 b.f5.f0.length b5, .int .i64 b.f5.f1]] _ _ from ref25_Compose ⟨P1, p1, P2, p2, P3, p3, P4, p4⟩ ⟨M1, m1, M2, m2, M3, m3, M4, m4⟩ ⟨T1, t1, T2, t2, T3, t3, T4, t4⟩ fr md tc ⟨A2, a2, A3, a3, A4, a4, A5, a5⟩ ⟨B2, b2, B3, b3, B4, b4, B5, b5⟩ a b _ (HP.out.below C.out.BW) (HQ.out.below C.out.BW) (HU.out.below C.out.BW) (HRA.out.below C.out.BW) (HRB.out.below C.out.BW) FF.out FM.out FT.out FA.out FB.out S3.out SF.out).mono ?_
  rintro e w5 ⟨⟨Y2, y2, Y3, y3, Y4, y4, Y5, y5⟩, rfl, hy, hb⟩
  rw [HR.out] at hy ⊢
  have hb2 := below_then hb hb.size (below_alloc (Below.refl w5.heap.size w5) (.cells #[.int .i64 R.1.f0, .int .i64 R.1.f1, .slice Y2 R.1.f2.length y2, .slice Y3 R.1.f3.length y3, .slice Y4 R.1.f4.length y4, .slice Y5 R.1.f5.f0.length y5, .int .i64 R.1.f5.f1] 31))
  have C := Aside0.mk (C.out.below hb2)
  have RX := Aside0.mk (RX.out.below hb2)
  have BX := Aside0.mk (blk_below BX.out hb2)
  have RY := Aside0.mk (hy.below (below_alloc (Below.refl _ _) (.cells #[.int .i64 R.1.f0, .int .i64 R.1.f1, .slice Y2 R.1.f2.length y2, .slice Y3 R.1.f3.length y3, .slice Y4 R.1.f4.length y4, .slice Y5 R.1.f5.f0.length y5, .int .i64 R.1.f5.f1] 31)))
  have BY := Aside0.mk (blk_new w5 (.cells #[.int .i64 R.1.f0, .int .i64 R.1.f1, .slice Y2 R.1.f2.length y2, .slice Y3 R.1.f3.length y3, .slice Y4 R.1.f4.length y4, .slice Y5 R.1.f5.f0.length y5, .int .i64 R.1.f5.f1] 31))
  clear hy hb hb2 f0 f1 f2 f3 f4 d0 d1 d2 d3 d4 t0_ t1_ t2_ t3_ t4_ r0 r1 r2 r3 r4 r5 r6 s0 s1 s2 s3 s4 s5 s6
  obtain ⟨⟨g0, g1, g2, g3, g4, g5, g6⟩, _⟩ := blk7 BX.out
  obtain ⟨⟨h0, h1, h2, h3, h4, h5, h6⟩, _⟩ := blk7 BY.out
  go_wp2_with fail
  refine (show Calls _ _ #[.agg #[.int .i64 R.1.f0, .int .i64 R.1.f1, .slice X2 R.1.f2.length x2, .slice X3 R.1.f3.length x3, .slice X4 R.1.f4.length x4, .slice X5 R.1.f5.f0.length x5, .int .i64 R.1.f5.f1], .agg #[.int .i64 R.1.f0, .int .i64 R.1.f1, .slice Y2 R.1.f2.length y2, .slice Y3 R.1.f3.length y3, .slice Y4 R.1.f4.length y4, .slice Y5 R.1.f5.f0.length y5, .int .i64 R.1.f5.f1]] _ _ from ref25_SameLift ⟨X2, x2, X3, x3, X4, x4, X5, x5⟩ ⟨Y2, y2, Y3, y3, Y4, y4, Y5, y5⟩ R.1 R.1 _ RX.out RY.out).mono ?_
  rintro e w6 ⟨rfl, hb⟩
  have C := Aside0.mk (C.out.below hb)
  rw [show decide (R.1 = R.1) = true from decide_eq_true rfl]
  clear hb g0 g1 g2 g3 g4 g5 g6 h0 h1 h2 h3 h4 h5 h6
  go_wp2
  go_ret
  exact ⟨by simp, C.out.BW⟩
end Go.Proofs.Ytlhiapggccgggaa.PH
