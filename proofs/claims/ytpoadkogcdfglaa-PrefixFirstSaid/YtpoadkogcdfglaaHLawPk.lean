/- The law of results: its function answers true. -/
import Derived.Test.YtpoadkogcdfglaaHPkPass2
import Derived.Test.YtpoadkogcdfglaaHSameC
import Derived.Test.YtpoadkogcdfglaaHOpen
namespace Go.Proofs.Ytpoadkogcdfglaa.PH
open Go.RowKit Go.Proofs.YtpoadkogcdfglaaW.PrintWords Go.Proofs.YtpoadkogcdfglaaW.PrintLast
set_option linter.unusedVariables false
set_option linter.unusedSimpArgs false

theorem I64.of_wf {k : Int} (h : (Lit.int .i64 k).wf = true) : I64 k := by
  simp only [Lit.wf, Bool.and_eq_true, decide_eq_true_eq] at h
  exact h
theorem Circ.Nums.fitsC {c : Circ} (h : c.Nums) (hg : great c = false) : c.Fits := by
  unfold great at hg
  simp only [Bool.or_eq_false_iff, decide_eq_false_iff_not] at hg
  exact ⟨by omega, by omega, h.i0, h.i1, h.i2, h.i3, h.i4⟩
theorem same_circ (p : CP) (c : Circ) (q : CP) (w : World) (h : RC w p c) (h' : RC w q c) :
    Calls Try.prog 15 #[cv p c, cv q c] w fun e w' => e = .returned (.bool true) ∧ Below w.heap.size w w' := by
  have h_ := ref02_Same p c q c w h h'
  rw [decide_eq_true rfl] at h_
  exact h_
theorem same_lift (r s : LP) (x : Lf) (w : World) (hr : RL w r x) (hs : RL w s x) :
    Calls Try.prog 46 #[lv r x, lv s x] w fun e w' => e = .returned (.bool true) ∧ Below w.heap.size w w' := by
  have h_ := ref25_SameLift r s x x w hr hs
  rw [decide_eq_true rfl] at h_
  exact h_
theorem same_ints (A : Option Addr) (c : Nat) (l : List Int) (B : Option Addr) (d : Nat) (w : World) (hl : RS (Kd.int .i64) w A c l) (hm : RS (Kd.int .i64) w B d l) :
    Calls Try.prog 20 #[.slice A l.length c, .slice B l.length d] w fun e w' => e = .returned (.bool true) ∧ Below w.heap.size w w' := by
  have h_ := ref02_SameInts A c l B d l w hl hm
  rw [decide_eq_true rfl] at h_
  exact h_
set_option maxHeartbeats 4000000 in
set_option maxRecDepth 100000 in
/-- ref25.SameReduced at equal circuits. -/
theorem ref25_SameReduced (p : CP) (q : LP) (p2 : CP) (q2 : LP) (r : Red) (w : World) (h1 : RC w p r.f0) (h2 : RL w q r.f1) (h3 : RC w p2 r.f0) (h4 : RL w q2 r.f1) :
    Calls Try.prog 14 #[rv p q r, rv p2 q2 r] w fun e w' => e = .returned (.bool true) ∧ Below w.heap.size w w' := by
  have HC := Aside0.mk (fun (W : World) (hb : Below w.heap.size w W) => same_circ p r.f0 p2 W (h1.below hb) (h3.below hb))
  have HL := Aside0.mk (fun (W : World) (hb : Below w.heap.size w W) => same_lift q q2 r.f1 W (h2.below hb) (h4.below hb))
  have hu40 := Try.underlying35
  have S0 := Aside0.mk (((Parts.start w).new 35 (rvals p q r)).new 35 (rvals p2 q2 r))
  rw [show (w.alloc (.cells (rvals p q r) 35)).heap.size = w.heap.size + 1 by simp] at S0
  clear h1 h2 h3 h4
  obtain ⟨A1, k1, A2, k2, A3, k3, A4, k4⟩ := p
  obtain ⟨B1, m1, B2, m2, B3, m3, B4, m4⟩ := p2
  obtain ⟨D2, d2, D3, d3, D4, d4, D5, d5⟩ := q
  obtain ⟨E2, e2, E3, e3, E4, e4, E5, e5⟩ := q2
  go_enter Try.func14, Try.ntmps14
  go_wp2_with fail
  refine (HC.out _ S0.out.B).mono ?_
  rintro e w1 ⟨rfl, hb1⟩
  have S1 := Aside0.mk (S0.out.below hb1)
  clear hb1
  obtain ⟨u5, z5⟩ := S1.out.cell 1 rfl 5 rfl
  obtain ⟨u6, z6⟩ := S1.out.cell 1 rfl 6 rfl
  obtain ⟨u7, z7⟩ := S1.out.cell 1 rfl 7 rfl
  obtain ⟨u8, z8⟩ := S1.out.cell 1 rfl 8 rfl
  obtain ⟨u9, z9⟩ := S1.out.cell 1 rfl 9 rfl
  obtain ⟨u10, z10⟩ := S1.out.cell 1 rfl 10 rfl
  obtain ⟨u11, z11⟩ := S1.out.cell 1 rfl 11 rfl
  obtain ⟨v5, y5⟩ := S1.out.cell 0 rfl 5 rfl
  obtain ⟨v6, y6⟩ := S1.out.cell 0 rfl 6 rfl
  obtain ⟨v7, y7⟩ := S1.out.cell 0 rfl 7 rfl
  obtain ⟨v8, y8⟩ := S1.out.cell 0 rfl 8 rfl
  obtain ⟨v9, y9⟩ := S1.out.cell 0 rfl 9 rfl
  obtain ⟨v10, y10⟩ := S1.out.cell 0 rfl 10 rfl
  obtain ⟨v11, y11⟩ := S1.out.cell 0 rfl 11 rfl
  go_wp2_with fail
  refine (HL.out _ S1.out.B).mono ?_
  rintro e w2 ⟨rfl, hb2⟩
  have S2 := Aside0.mk (S1.out.below hb2)
  clear hb2
  go_wp2
  go_ret
  exact ⟨rfl, S2.out.B⟩
set_option maxHeartbeats 4000000 in
set_option maxRecDepth 100000 in
theorem law_PrefixPasses (p : CP) (c : Circ) (k : Int) (w : World) (h : RC w p c) (nc : c.Nums) (nk : I64 k) :
    Calls Try.prog 3 #[cv p c, .int .i64 k] w fun e w' => e = .returned (.bool true) ∧ Below w.heap.size w w' := by
  have HH := Aside0.mk h
  have hu26 := Try.underlying26
  have hu40 := Try.underlying35
  have S0 := Aside0.mk ((Parts.start w).new 26 (fc5 p c))
  obtain ⟨o, ho⟩ : ∃ o, great c = o := ⟨_, rfl⟩
  have HO := Aside0.mk ho
  have HNC := Aside0.mk nc
  clear h nc nk ho
  go_enter Try.func3, Try.ntmps3
  go_wp2_with fail
  refine (ref02_Great p c _).mono ?_
  rintro e w1 ⟨rfl, hb1⟩
  rw [HO.out]
  have S1 := Aside0.mk (S0.out.below hb1)
  clear hb1 S0
  cases o with
  | true =>
    go_wp2
    go_ret
    exact ⟨rfl, S1.out.B⟩
  | false =>
    have HF := Aside0.mk (HNC.out.fitsC HO.out)
    have HGB := Aside0.mk (show c.f3.length ≤ 110 ∧ c.f4.length ≤ 110 by have h_ := HO.out; unfold great at h_; simp only [Bool.or_eq_false_iff, decide_eq_false_iff_not] at h_; omega)
    obtain ⟨c0, c1, c2, c3, c4⟩ := blk5 (S1.out.blk 0 rfl)
    go_wp2_with fail
    refine (ref02_Twin p c _ (HH.out.below S1.out.B) HF.out.h1 HF.out.h2 (by have := HGB.out; omega) (by have := HGB.out; omega)).mono ?_
    rintro e w2 ⟨p2, rfl, hr2, hb2⟩
    clear c0 c1 c2 c3 c4
    go_upto_region 4 with (fail)
    have S2 := Aside0.mk ((S1.out.ofRs (P := fun W => RC W p2 c) (fun W hW => hr2.held hW) hb2).new 26 (fc5 p2 c))
    clear hr2 hb2 S1
    generalize w2.heap.size = g5 at *
    generalize w2.alloc (.cells (fc5 p2 c) 26) = w3 at *
    have C1 := Aside0.mk (fun W (hb : Below w.heap.size w W) => prefix_Of p c k W (HH.out.below hb) HF.out)
    have C2 := Aside0.mk (fun W (hb : RC W p2 c) => ref_Of p2 c k W hb HF.out)
    have C3 := Aside0.mk (fun W (hb : Below w.heap.size w W) => pk_Pass p c k W (HH.out.below hb) HF.out)
    have C4 := Aside0.mk (fun W (hb : RC W p2 c) => ref_Pass p2 c k W hb HF.out)
    obtain ⟨⟨r, n⟩, hr⟩ : ∃ r, pfOf c k = r := ⟨_, rfl⟩
    obtain ⟨⟨s, m⟩, hq⟩ : ∃ r, pkPass c k = r := ⟨_, rfl⟩
    rw [hr] at C1 C2
    rw [hq] at C3 C4
    dsimp only at C1 C2 C3 C4
    clear hr hq
    obtain ⟨c0, c1, c2, c3, c4⟩ := blk5 (S2.out.blk 2 rfl)
    go_wp2_with fail
    refine (C1.out _ S2.out.B).mono ?_
    rintro e w4 ⟨p4, q4, rfl, hh, hb⟩
    clear c0 c1 c2 c3 c4
    go_upto_region 5 with (fail)
    have S4 := Aside0.mk ((S2.out.ofRs hh hb).new 35 (rvals p4 q4 r))
    clear hh hb S2
    generalize w4.heap.size = g6 at *
    generalize w4.alloc (.cells (rvals p4 q4 r) 35) = w5 at *
    obtain ⟨d0, d1, d2, d3, d4⟩ := blk5 (S4.out.blk 2 rfl)
    go_wp2_with fail
    refine (C2.out _ (Held.self (S4.out.hP 3 _ rfl))).mono ?_
    rintro e w6 ⟨p6, q6, rfl, hh, hb⟩
    clear d0 d1 d2 d3 d4
    go_upto_region 6 with (fail)
    have S6 := Aside0.mk ((S4.out.ofRs hh hb).new 35 (rvals p6 q6 r))
    clear hh hb S4
    generalize w6.heap.size = g8 at *
    generalize w6.alloc (.cells (rvals p6 q6 r) 35) = w7 at *
    obtain ⟨c0, c1, c2, c3, c4⟩ := blk5 (S6.out.blk 6 rfl)
    go_wp2_with fail
    refine (C3.out _ S6.out.B).mono ?_
    rintro e w8 ⟨p8, q8, rfl, hh, hb⟩
    clear c0 c1 c2 c3 c4
    go_upto_region 7 with (fail)
    have S8 := Aside0.mk ((S6.out.ofRs hh hb).new 35 (rvals p8 q8 s))
    clear hh hb S6
    generalize w8.heap.size = g10 at *
    generalize w8.alloc (.cells (rvals p8 q8 s) 35) = w9 at *
    obtain ⟨d0, d1, d2, d3, d4⟩ := blk5 (S8.out.blk 6 rfl)
    go_wp2_with fail
    refine (C4.out _ (Held.self (S8.out.hP 7 _ rfl))).mono ?_
    rintro e w10 ⟨p10, q10, rfl, hh, hb⟩
    clear d0 d1 d2 d3 d4
    go_upto_region 8 with (fail)
    have S10 := Aside0.mk ((S8.out.ofRs hh hb).new 35 (rvals p10 q10 s))
    clear hh hb S8 C1 C2 C3 C4
    generalize w10.heap.size = g12 at *
    generalize w10.alloc (.cells (rvals p10 q10 s) 35) = w11 at *
    have HA := Aside0.mk (Held.self (S10.out.hP 7 _ rfl))
    have HB := Aside0.mk (Held.self (S10.out.hP 5 _ rfl))
    obtain ⟨x0, _⟩ := S10.out.cell 6 rfl 0 rfl
    obtain ⟨x1, _⟩ := S10.out.cell 6 rfl 1 rfl
    obtain ⟨x2, _⟩ := S10.out.cell 6 rfl 2 rfl
    obtain ⟨x3, _⟩ := S10.out.cell 6 rfl 3 rfl
    obtain ⟨x4, _⟩ := S10.out.cell 6 rfl 4 rfl
    obtain ⟨x5, _⟩ := S10.out.cell 6 rfl 5 rfl
    obtain ⟨x6, _⟩ := S10.out.cell 6 rfl 6 rfl
    obtain ⟨x7, _⟩ := S10.out.cell 6 rfl 7 rfl
    obtain ⟨x8, _⟩ := S10.out.cell 6 rfl 8 rfl
    obtain ⟨x9, _⟩ := S10.out.cell 6 rfl 9 rfl
    obtain ⟨x10, _⟩ := S10.out.cell 6 rfl 10 rfl
    obtain ⟨x11, _⟩ := S10.out.cell 6 rfl 11 rfl
    obtain ⟨y0, _⟩ := S10.out.cell 4 rfl 0 rfl
    obtain ⟨y1, _⟩ := S10.out.cell 4 rfl 1 rfl
    obtain ⟨y2, _⟩ := S10.out.cell 4 rfl 2 rfl
    obtain ⟨y3, _⟩ := S10.out.cell 4 rfl 3 rfl
    obtain ⟨y4, _⟩ := S10.out.cell 4 rfl 4 rfl
    obtain ⟨y5, _⟩ := S10.out.cell 4 rfl 5 rfl
    obtain ⟨y6, _⟩ := S10.out.cell 4 rfl 6 rfl
    obtain ⟨y7, _⟩ := S10.out.cell 4 rfl 7 rfl
    obtain ⟨y8, _⟩ := S10.out.cell 4 rfl 8 rfl
    obtain ⟨y9, _⟩ := S10.out.cell 4 rfl 9 rfl
    obtain ⟨y10, _⟩ := S10.out.cell 4 rfl 10 rfl
    obtain ⟨y11, _⟩ := S10.out.cell 4 rfl 11 rfl
    go_wp2_with fail
    refine (ref25_SameReduced p4 q4 p6 q6 r _ HA.out.1 HA.out.2 HB.out.1 HB.out.2).mono ?_
    rintro e w12 ⟨rfl, hb⟩
    have S12 := Aside0.mk (S10.out.below hb)
    clear hb S10 HA HB x0 y0 x1 y1 x2 y2 x3 y3 x4 y4 x5 y5 x6 y6 x7 y7 x8 y8 x9 y9 x10 y10 x11 y11
    have HA := Aside0.mk (Held.self (S12.out.hP 3 _ rfl))
    have HB := Aside0.mk (Held.self (S12.out.hP 1 _ rfl))
    obtain ⟨x0, _⟩ := S12.out.cell 2 rfl 0 rfl
    obtain ⟨x1, _⟩ := S12.out.cell 2 rfl 1 rfl
    obtain ⟨x2, _⟩ := S12.out.cell 2 rfl 2 rfl
    obtain ⟨x3, _⟩ := S12.out.cell 2 rfl 3 rfl
    obtain ⟨x4, _⟩ := S12.out.cell 2 rfl 4 rfl
    obtain ⟨x5, _⟩ := S12.out.cell 2 rfl 5 rfl
    obtain ⟨x6, _⟩ := S12.out.cell 2 rfl 6 rfl
    obtain ⟨x7, _⟩ := S12.out.cell 2 rfl 7 rfl
    obtain ⟨x8, _⟩ := S12.out.cell 2 rfl 8 rfl
    obtain ⟨x9, _⟩ := S12.out.cell 2 rfl 9 rfl
    obtain ⟨x10, _⟩ := S12.out.cell 2 rfl 10 rfl
    obtain ⟨x11, _⟩ := S12.out.cell 2 rfl 11 rfl
    obtain ⟨y0, _⟩ := S12.out.cell 0 rfl 0 rfl
    obtain ⟨y1, _⟩ := S12.out.cell 0 rfl 1 rfl
    obtain ⟨y2, _⟩ := S12.out.cell 0 rfl 2 rfl
    obtain ⟨y3, _⟩ := S12.out.cell 0 rfl 3 rfl
    obtain ⟨y4, _⟩ := S12.out.cell 0 rfl 4 rfl
    obtain ⟨y5, _⟩ := S12.out.cell 0 rfl 5 rfl
    obtain ⟨y6, _⟩ := S12.out.cell 0 rfl 6 rfl
    obtain ⟨y7, _⟩ := S12.out.cell 0 rfl 7 rfl
    obtain ⟨y8, _⟩ := S12.out.cell 0 rfl 8 rfl
    obtain ⟨y9, _⟩ := S12.out.cell 0 rfl 9 rfl
    obtain ⟨y10, _⟩ := S12.out.cell 0 rfl 10 rfl
    obtain ⟨y11, _⟩ := S12.out.cell 0 rfl 11 rfl
    go_wp2_with fail
    refine (ref25_SameReduced p8 q8 p10 q10 s _ HA.out.1 HA.out.2 HB.out.1 HB.out.2).mono ?_
    rintro e w14 ⟨rfl, hb⟩
    have S14 := Aside0.mk (S12.out.below hb)
    clear hb S12 HA HB x0 y0 x1 y1 x2 y2 x3 y3 x4 y4 x5 y5 x6 y6 x7 y7 x8 y8 x9 y9 x10 y10 x11 y11
    obtain ⟨c0, c1, c2, c3, c4⟩ := blk5 (S14.out.blk 10 rfl)
    obtain ⟨d0, d1, d2, d3, d4⟩ := blk5 (S14.out.blk 8 rfl)
    go_wp2_with fail
    refine (same_circ p c p2 _ (HH.out.below S14.out.B) (Held.self (S14.out.hP 9 _ rfl))).mono ?_
    rintro e w16 ⟨rfl, hb⟩
    have S16 := Aside0.mk (S14.out.below hb)
    clear hb
    go_wp2
    go_ret
    exact ⟨rfl, S16.out.B⟩
end Go.Proofs.Ytpoadkogcdfglaa.PH
