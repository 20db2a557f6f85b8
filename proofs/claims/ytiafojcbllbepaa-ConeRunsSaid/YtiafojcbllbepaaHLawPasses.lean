/- The law ConePasses: its function answers true. -/
import Derived.Test.YtiafojcbllbepaaHPassR
import Derived.Test.YtiafojcbllbepaaHTwin
import Derived.Test.YtiafojcbllbepaaHSameC
import Derived.Test.YtiafojcbllbepaaHOpen
namespace Go.Proofs.Ytiafojcbllbepaa.PH
open Go.RowKit Go.Proofs.YtiafojcbllbepaaW.PrintWords Go.Proofs.YtiafojcbllbepaaW.PrintLast
set_option linter.unusedVariables false
set_option linter.unusedSimpArgs false

theorem Circ.Nums.fitsC {c : Circ} (h : c.Nums) (hg : great c = false) : c.Fits := by
  unfold great at hg
  simp only [Bool.or_eq_false_iff, decide_eq_false_iff_not] at hg
  exact ⟨by omega, by omega, h.i0, h.i1, h.i2, h.i3, h.i4⟩
@[reducible] def rcells (p : CP) (q : LP) (r : Red) : Array Value := #[.int .i64 r.f0.f0, .slice p.A1 r.f0.f1.length p.c1, .slice p.A2 r.f0.f2.length p.c2, .slice p.A3 r.f0.f3.length p.c3, .slice p.A4 r.f0.f4.length p.c4,
  .int .i64 r.f1.f0, .int .i64 r.f1.f1, .slice q.A2 r.f1.f2.length q.c2, .slice q.A3 r.f1.f3.length q.c3, .slice q.A4 r.f1.f4.length q.c4, .slice q.A5 r.f1.f5.f0.length q.c5, .int .i64 r.f1.f5.f1]
theorem same_circ (p : CP) (c : Circ) (q : CP) (w : World) (h : RC w p c) (h' : RC w q c) :
    Calls Try.prog 16 #[cv p c, cv q c] w fun e w' => e = .returned (.bool true) ∧ Below w.heap.size w w' := by
  have h_ := ref02_Same p c q c w h h'
  rw [decide_eq_true rfl] at h_
  exact h_
theorem same_lift (r s : LP) (x : Lf) (w : World) (hr : RL w r x) (hs : RL w s x) :
    Calls Try.prog 20 #[lv r x, lv s x] w fun e w' => e = .returned (.bool true) ∧ Below w.heap.size w w' := by
  have h_ := ref25_SameLift r s x x w hr hs
  rw [decide_eq_true rfl] at h_
  exact h_
theorem same_ints (A : Option Addr) (c : Nat) (l : List Int) (B : Option Addr) (d : Nat) (w : World) (hl : RS (Kd.int .i64) w A c l) (hm : RS (Kd.int .i64) w B d l) :
    Calls Try.prog 14 #[.slice A l.length c, .slice B l.length d] w fun e w' => e = .returned (.bool true) ∧ Below w.heap.size w w' := by
  have h_ := ref02_SameInts A c l B d l w hl hm
  rw [decide_eq_true rfl] at h_
  exact h_
set_option maxHeartbeats 4000000 in
set_option maxRecDepth 100000 in
/-- ref25.SameReduced at equal circuits. -/
theorem ref25_SameReduced (p : CP) (q : LP) (p2 : CP) (q2 : LP) (r : Red) (w : World) (h1 : RC w p r.f0) (h2 : RL w q r.f1) (h3 : RC w p2 r.f0) (h4 : RL w q2 r.f1) :
    Calls Try.prog 15 #[rv p q r, rv p2 q2 r] w fun e w' => e = .returned (.bool true) ∧ Below w.heap.size w w' := by
  have HC := Aside0.mk (fun (W : World) (hb : Below w.heap.size w W) => same_circ p r.f0 p2 W (h1.below hb) (h3.below hb))
  have HL := Aside0.mk (fun (W : World) (hb : Below w.heap.size w W) => same_lift q q2 r.f1 W (h2.below hb) (h4.below hb))
  have hu40 := Try.underlying40
  have S0 := Aside0.mk (((Parts.start w).new 40 (rcells p q r)).new 40 (rcells p2 q2 r))
  rw [show (w.alloc (.cells (rcells p q r) 40)).heap.size = w.heap.size + 1 by simp] at S0
  clear h1 h2 h3 h4
  obtain ⟨A1, k1, A2, k2, A3, k3, A4, k4⟩ := p
  obtain ⟨B1, m1, B2, m2, B3, m3, B4, m4⟩ := p2
  obtain ⟨D2, d2, D3, d3, D4, d4, D5, d5⟩ := q
  obtain ⟨E2, e2, E3, e3, E4, e4, E5, e5⟩ := q2
  go_enter Try.func15, Try.ntmps15
  go_wp2_with fail
  refine (HC.out _ S0.out.B).mono ?_
  rintro e w1 ⟨rfl, hb1⟩
  have S1 := Aside0.mk (S0.out.below hb1)
  clear hb1
  obtain ⟨u5, z5⟩ := S1.out.cell 1 rfl 5 rfl
  obtain ⟨u6, z6⟩ := S1.out.cell 1 rfl 6 rfl
  obtain ⟨u7, z7⟩ := S1.out.cell 1 rfl 7 rfl
  obtain ⟨u8, z8⟩ := S1.out.cell 1 rfl 8 rfl
  obtain ⟨u9, z9⟩ := S1.out.cell 1 rfl 9 rfl
  obtain ⟨u10, z10⟩ := S1.out.cell 1 rfl 10 rfl
  obtain ⟨u11, z11⟩ := S1.out.cell 1 rfl 11 rfl
  obtain ⟨v5, y5⟩ := S1.out.cell 0 rfl 5 rfl
  obtain ⟨v6, y6⟩ := S1.out.cell 0 rfl 6 rfl
  obtain ⟨v7, y7⟩ := S1.out.cell 0 rfl 7 rfl
  obtain ⟨v8, y8⟩ := S1.out.cell 0 rfl 8 rfl
  obtain ⟨v9, y9⟩ := S1.out.cell 0 rfl 9 rfl
  obtain ⟨v10, y10⟩ := S1.out.cell 0 rfl 10 rfl
  obtain ⟨v11, y11⟩ := S1.out.cell 0 rfl 11 rfl
  go_wp2_with fail
  refine (HL.out _ S1.out.B).mono ?_
  rintro e w2 ⟨rfl, hb2⟩
  have S2 := Aside0.mk (S1.out.below hb2)
  clear hb2
  go_wp2
  go_ret
  exact ⟨rfl, S2.out.B⟩
set_option maxHeartbeats 4000000 in
set_option maxRecDepth 100000 in
theorem law_ConePasses (p : CP) (c : Circ) (w : World) (h : RC w p c) (nc : c.Nums) :
    Calls Try.prog 3 #[cv p c] w fun e w' => e = .returned (.bool true) ∧ Below w.heap.size w w' := by
  have HH := Aside0.mk h
  have hu26 := Try.underlying26
  have hu40 := Try.underlying40
  have S0 := Aside0.mk ((Parts.start w).new 26 #[.int .i64 c.f0, .slice p.A1 c.f1.length p.c1, .slice p.A2 c.f2.length p.c2, .slice p.A3 c.f3.length p.c3, .slice p.A4 c.f4.length p.c4])
  obtain ⟨o, ho⟩ : ∃ o, great c = o := ⟨_, rfl⟩
  have HO := Aside0.mk ho
  have HNC := Aside0.mk nc
  clear h nc ho
  go_enter Try.func3, Try.ntmps3
  go_wp2_with fail
  refine (ref02_Great p c _).mono ?_
  rintro e w1 ⟨rfl, hb1⟩
  rw [HO.out]
  have S1 := Aside0.mk (S0.out.below hb1)
  clear hb1 S0
  cases o with
  | true =>
    go_wp2
    go_ret
    exact ⟨rfl, S1.out.B⟩
  | false =>
    have HF := Aside0.mk (HNC.out.fitsC HO.out)
    obtain ⟨c0, c1, c2, c3, c4⟩ := blk5 (S1.out.blk 0 rfl)
    go_wp2_with fail
    refine (ref02_Twin p c _ (HH.out.below S1.out.B) HF.out.h1 HF.out.h2 (by have h_ := HO.out; unfold great at h_; simp only [Bool.or_eq_false_iff, decide_eq_false_iff_not] at h_; omega) (by have h_ := HO.out; unfold great at h_; simp only [Bool.or_eq_false_iff, decide_eq_false_iff_not] at h_; omega)).mono ?_
    rintro e w2 ⟨p2, rfl, hr2, hb2⟩
    have HR2 := Aside0.mk hr2.rc
    have S2 := Aside0.mk ((S1.out.below hb2).new 26 #[.int .i64 c.f0, .slice p2.A1 c.f1.length p2.c1, .slice p2.A2 c.f2.length p2.c2, .slice p2.A3 c.f3.length p2.c3, .slice p2.A4 c.f4.length p2.c4])
    clear hr2 hb2 c0 c1 c2 c3 c4
    go_upto_region 4 with (fail)
    generalize w2.heap.size = g3 at *
    obtain ⟨w3, hw3⟩ : ∃ w3, w2.alloc (.cells #[.int .i64 c.f0, .slice p2.A1 c.f1.length p2.c1, .slice p2.A2 c.f2.length p2.c2, .slice p2.A3 c.f3.length p2.c3, .slice p2.A4 c.f4.length p2.c4] 26) = w3 := ⟨_, rfl⟩
    have HR3 := Aside0.mk (show RC w3 p2 c from hw3 ▸ HR2.out.below (below_alloc (Below.refl _ _) _))
    rw [hw3] at S2 ⊢
    clear hw3 HR2
    obtain ⟨⟨l, n⟩, hr⟩ : ∃ r, ofC c = r := ⟨_, rfl⟩
    obtain ⟨⟨r, m⟩, hq⟩ : ∃ r, passR c = r := ⟨_, rfl⟩
    have C1 := Aside0.mk (fun W (hb : Below w.heap.size w W) => show Calls Try.prog 10 #[cv p c] W (fun e w' => RetLE W w' (l, n) e) from hr ▸ cone_Of p c W (HH.out.below hb) HF.out)
    have C2 := Aside0.mk (fun W (hb : RC W p2 c) => show Calls Try.prog 11 #[cv p2 c] W (fun e w' => RetLE W w' (l, n) e) from hr ▸ ref28_Of p2 c W hb HF.out)
    have C3 := Aside0.mk (fun W (hb : Below w.heap.size w W) => show Calls Try.prog 12 #[cv p c] W (fun e w' => RetRd W w' r m e) from (by have h_ := cone_Pass p c W (HH.out.below hb) HF.out; rw [hq] at h_; exact h_))
    have C4 := Aside0.mk (fun W (hb : RC W p2 c) => show Calls Try.prog 13 #[cv p2 c] W (fun e w' => RetRd W w' r m e) from (by have h_ := ref28_Pass p2 c W hb HF.out; rw [hq] at h_; exact h_))
    clear hr hq
    obtain ⟨c0, c1, c2, c3, c4⟩ := blk5 (S2.out.blk 1 rfl)
    go_wp2_with fail
    refine (C1.out _ S2.out.B).mono ?_
    rintro e w4 ⟨A, cA, rfl, hR, hb4⟩
    have S4 := Aside0.mk (S2.out.freshF flat_int hb4 hR)
    have HR4 := Aside0.mk (HR3.out.below hb4)
    clear hb4 hR c0 c1 c2 c3 c4 S2 HR3
    dsimp only at S4 ⊢
    obtain ⟨d0, d1, d2, d3, d4⟩ := blk5 (S4.out.blk 1 rfl)
    obtain ⟨c0, c1, c2, c3, c4⟩ := blk5 (S4.out.blk 2 rfl)
    go_wp2_with fail
    refine (C2.out _ HR4.out).mono ?_
    rintro e w5 ⟨B, cB, rfl, hR, hb5⟩
    have S5 := Aside0.mk (S4.out.freshF flat_int hb5 hR)
    have HR5 := Aside0.mk (HR4.out.below hb5)
    clear hb5 hR c0 c1 c2 c3 c4 d0 d1 d2 d3 d4 S4 HR4
    dsimp only at S5 ⊢
    obtain ⟨c0, c1, c2, c3, c4⟩ := blk5 (S5.out.blk 3 rfl)
    go_wp2_with fail
    refine (C3.out _ S5.out.B).mono ?_
    rintro e w6 ⟨p6, q6, rfl, hp6, hq6, hb6⟩
    have S6 := Aside0.mk ((S5.out.below hb6).new 40 (rcells p6 q6 r))
    have HR6 := Aside0.mk ((HR5.out.below hb6).below (below_alloc (Below.refl _ _) (.cells (rcells p6 q6 r) 40)))
    have HX6 := Aside0.mk (hp6.below (below_alloc (Below.refl _ _) (.cells (rcells p6 q6 r) 40)))
    have HY6 := Aside0.mk (hq6.below (below_alloc (Below.refl _ _) (.cells (rcells p6 q6 r) 40)))
    clear hb6 hp6 hq6 c0 c1 c2 c3 c4 S5 HR5
    go_upto_region 7 with (fail)
    generalize w6.heap.size = g8 at *
    generalize w6.alloc (.cells (rcells p6 q6 r) 40) = w7 at *
    obtain ⟨c0, c1, c2, c3, c4⟩ := blk5 (S6.out.blk 3 rfl)
    go_wp2_with fail
    refine (C4.out _ HR6.out).mono ?_
    rintro e w8 ⟨p8, q8, rfl, hp8, hq8, hb8⟩
    have S8 := Aside0.mk ((S6.out.below hb8).new 40 (rcells p8 q8 r))
    have HR8 := Aside0.mk ((HR6.out.below hb8).below (below_alloc (Below.refl _ _) (.cells (rcells p8 q8 r) 40)))
    have HX8 := Aside0.mk ((HX6.out.below hb8).below (below_alloc (Below.refl _ _) (.cells (rcells p8 q8 r) 40)))
    have HY8 := Aside0.mk ((HY6.out.below hb8).below (below_alloc (Below.refl _ _) (.cells (rcells p8 q8 r) 40)))
    have HX9 := Aside0.mk (hp8.below (below_alloc (Below.refl _ _) (.cells (rcells p8 q8 r) 40)))
    have HY9 := Aside0.mk (hq8.below (below_alloc (Below.refl _ _) (.cells (rcells p8 q8 r) 40)))
    clear hb8 hp8 hq8 c0 c1 c2 c3 c4 S6 HR6 HX6 HY6
    go_upto_region 8 with (fail)
    generalize w8.heap.size = g10 at *
    generalize w8.alloc (.cells (rcells p8 q8 r) 40) = w9 at *
    go_wp2_with fail
    refine (same_ints _ _ l _ _ _ (S8.out.rowF 3 rfl) (S8.out.rowF 2 rfl)).mono ?_
    rintro e w10 ⟨rfl, hb10⟩
    have S10 := Aside0.mk (S8.out.below hb10)
    have HR10 := Aside0.mk (HR8.out.below hb10)
    have X1 := Aside0.mk (HX8.out.below hb10)
    have X2 := Aside0.mk (HY8.out.below hb10)
    have X3 := Aside0.mk (HX9.out.below hb10)
    have X4 := Aside0.mk (HY9.out.below hb10)
    clear hb10 S8 HR8 HX8 HY8 HX9 HY9
    obtain ⟨u0, z0⟩ := S10.out.cell 1 rfl 0 rfl
    obtain ⟨v0, y0⟩ := S10.out.cell 0 rfl 0 rfl
    obtain ⟨u1, z1⟩ := S10.out.cell 1 rfl 1 rfl
    obtain ⟨v1, y1⟩ := S10.out.cell 0 rfl 1 rfl
    obtain ⟨u2, z2⟩ := S10.out.cell 1 rfl 2 rfl
    obtain ⟨v2, y2⟩ := S10.out.cell 0 rfl 2 rfl
    obtain ⟨u3, z3⟩ := S10.out.cell 1 rfl 3 rfl
    obtain ⟨v3, y3⟩ := S10.out.cell 0 rfl 3 rfl
    obtain ⟨u4, z4⟩ := S10.out.cell 1 rfl 4 rfl
    obtain ⟨v4, y4⟩ := S10.out.cell 0 rfl 4 rfl
    obtain ⟨u5, z5⟩ := S10.out.cell 1 rfl 5 rfl
    obtain ⟨v5, y5⟩ := S10.out.cell 0 rfl 5 rfl
    obtain ⟨u6, z6⟩ := S10.out.cell 1 rfl 6 rfl
    obtain ⟨v6, y6⟩ := S10.out.cell 0 rfl 6 rfl
    obtain ⟨u7, z7⟩ := S10.out.cell 1 rfl 7 rfl
    obtain ⟨v7, y7⟩ := S10.out.cell 0 rfl 7 rfl
    obtain ⟨u8, z8⟩ := S10.out.cell 1 rfl 8 rfl
    obtain ⟨v8, y8⟩ := S10.out.cell 0 rfl 8 rfl
    obtain ⟨u9, z9⟩ := S10.out.cell 1 rfl 9 rfl
    obtain ⟨v9, y9⟩ := S10.out.cell 0 rfl 9 rfl
    obtain ⟨u10, z10⟩ := S10.out.cell 1 rfl 10 rfl
    obtain ⟨v10, y10⟩ := S10.out.cell 0 rfl 10 rfl
    obtain ⟨u11, z11⟩ := S10.out.cell 1 rfl 11 rfl
    obtain ⟨v11, y11⟩ := S10.out.cell 0 rfl 11 rfl
    go_wp2_with fail
    refine (ref25_SameReduced p6 q6 p8 q8 r _ X1.out X2.out X3.out X4.out).mono ?_
    rintro e w11 ⟨rfl, hb11⟩
    have S11 := Aside0.mk (S10.out.below hb11)
    have HR11 := Aside0.mk (HR10.out.below hb11)
    clear hb11 u0 v0 z0 y0 u1 v1 z1 y1 u2 v2 z2 y2 u3 v3 z3 y3 u4 v4 z4 y4 u5 v5 z5 y5 u6 v6 z6 y6 u7 v7 z7 y7 u8 v8 z8 y8 u9 v9 z9 y9 u10 v10 z10 y10 u11 v11 z11 y11
    obtain ⟨c0, c1, c2, c3, c4⟩ := blk5 (S11.out.blk 5 rfl)
    obtain ⟨d0, d1, d2, d3, d4⟩ := blk5 (S11.out.blk 4 rfl)
    go_wp2_with fail
    refine (same_circ p c p2 _ (HH.out.below S11.out.B) HR11.out).mono ?_
    rintro e w12 ⟨rfl, hb12⟩
    have S12 := Aside0.mk (S11.out.below hb12)
    clear hb12
    go_wp2
    go_ret
    exact ⟨rfl, S12.out.B⟩
end Go.Proofs.Ytiafojcbllbepaa.PH
