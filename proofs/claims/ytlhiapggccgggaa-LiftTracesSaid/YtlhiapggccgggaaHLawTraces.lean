/- The law LiftTraces: lift.Trace and lift.Proof answer as the reference does. -/
import Derived.Test.YtlhiapggccgggaaHTraceR25
import Derived.Test.YtlhiapggccgggaaHProofR25
import Derived.Test.YtlhiapggccgggaaHSameT
import Derived.Test.YtlhiapggccgggaaHArgP
import Derived.Test.YtlhiapggccgggaaHNumsF
namespace Go.Proofs.Ytlhiapggccgggaa.PH
open Go.RowKit Go.Proofs.YtlhiapggccgggaaW.PrintWords Go.Proofs.YtlhiapggccgggaaW.PrintLast
set_option linter.unusedVariables false
set_option linter.unusedSimpArgs false

set_option maxHeartbeats 8000000 in
set_option maxRecDepth 100000 in
theorem law_LiftTraces (p : CP) (fr : Circ) (q : CP) (tc : Circ) (r : LP) (l : Lf) (s : TP) (t : Run) (X : Option Addr × Nat) (x : Prf) (w : World) (hp : RC w p fr) (hq : RC w q tc) (hr : RL w r l) (hs : RT w s t) (hx : RS kGate w X.1 X.2 x.f2.f0)
    (nf : fr.Nums) (nt : tc.Nums) (nl : l.Nums) (ntr : (∀ b ∈ t.f0, True) ∧ ∀ r ∈ t.f1, ∀ b ∈ r, True) (nx : x.Nums) :
    Calls Try.prog 6 #[cv p fr, cv q tc, lv r l, tv s t, .agg #[.int .i64 x.f0, .int .i64 x.f1, .slice X.1 x.f2.f0.length X.2, .int .i64 x.f2.f1]] w fun e w' => e = .returned (.bool true) ∧ Below w.heap.size w w' := by
  obtain ⟨XA, xc⟩ := X
  dsimp only at hx ⊢
  have HP := Aside0.mk hp
  have HQ := Aside0.mk hq
  have HR := Aside0.mk hr
  have HT := Aside0.mk hs
  have HXX := Aside0.mk hx
  have hu26 := Try.underlying26
  have hu31 := Try.underlying31
  have hu57 := Try.underlying57
  have hu49 := Try.underlying49
  have hu29 := Try.underlying29
  have NF := Aside0.mk nf
  have NT := Aside0.mk nt
  have NL := Aside0.mk nl
  have NX := Aside0.mk nx
  have S := ((((((Parts.start w).new 26 (ccells p fr)).new 26 (ccells q tc)).new 31 (lcells r l)).new 57 (tcells s t)).new 49 (xcells XA xc x))
  simp only [sz_new] at S
  have S0 := Aside0.mk S
  clear S hp hq hr hs hx nf nt nl ntr nx
  obtain ⟨og, hog⟩ : ∃ og, [fr, tc].any great = og := ⟨_, rfl⟩
  have HO := Aside0.mk hog
  clear hog
  go_enter Try.func6, Try.ntmps6
  go_upto_region 1 with (fail)
  obtain ⟨w1, hw1⟩ : ∃ W, (((((w.alloc (.cells (ccells p fr) 26)).alloc (.cells (ccells q tc) 26)).alloc (.cells (lcells r l) 31)).alloc (.cells (tcells s t) 57)).alloc (.cells (xcells XA xc x) 49)) = W := ⟨_, rfl⟩
  rw [hw1] at S0 ⊢
  clear hw1
  obtain ⟨a0, a1, a2, a3, a4⟩ := blk5 (S0.out.blk 4 rfl)
  obtain ⟨b0, b1, b2, b3, b4⟩ := blk5 (S0.out.blk 3 rfl)
  go_wp2_with fail
  refine (law25_great (some ⟨w1.heap.size, 0, none⟩) 2 [fr, tc] _ ?g1).mono ?_
  case g1 => exact RS.two_circ (p := p) (q := q) (HP.out.below (below_alloc S0.out.B _)) (HQ.out.below (below_alloc S0.out.B _)) (fun j u hj => by rw [World.cell?_alloc_at _ _ _ _ (by simp)]; simpa using hj)
  rintro e w2 ⟨rfl, hb⟩
  have S := Aside0.mk ((S0.out.alloc _).below hb)
  clear hb S0 a0 a1 a2 a3 a4 b0 b1 b2 b3 b4
  rw [HO.out]
  cases og with
  | true =>
    go_wp2
    go_ret
    exact ⟨rfl, S.out.B⟩
  | false =>
  have hg : great fr = false ∧ great tc = false := by have h_ := HO.out; simpa using h_
  have FF := Aside0.mk (NF.out.fits hg.1)
  have FT := Aside0.mk (NT.out.fits hg.2)
  have SF := Aside0.mk (lat60 hg.1)
  clear hg HO
  obtain ⟨l0, l1, l2, l3, l4, l5, l6⟩ := blk7 (S.out.blk 2 rfl)
  go_wp2_with fail
  refine (ref25_GreatLift r l _ (HR.out.below S.out.B)).mono ?_
  rintro e w3 ⟨ba, rfl, hba, hb⟩
  have S := Aside0.mk (S.out.below hb)
  have SA := Aside0.mk hba
  clear hb hba l0 l1 l2 l3 l4 l5 l6
  cases ba with
  | true =>
    go_wp2
    go_ret
    exact ⟨rfl, S.out.B⟩
  | false =>
  have FL := Aside0.mk (NL.out.fits (SA.out rfl))
  clear SA
  obtain ⟨t0, t1⟩ := blk2 (S.out.blk 1 rfl)
  go_wp2_with fail
  refine (ref25_GreatTrace s t _ (HT.out.below S.out.B)).mono ?_
  rintro e w4 ⟨ba, rfl, hba, hb⟩
  have S := Aside0.mk (S.out.below hb)
  clear hb hba t0 t1
  obtain ⟨x0, x1, x2, x3⟩ := blkP (S.out.blk 0 rfl)
  cases ba with
  | true =>
    go_wp2
    go_ret
    exact ⟨rfl, S.out.B⟩
  | false =>
  by_cases h3 : 300 < x.f2.f0.length
  · have h3b : decide (300 < (x.f2.f0.length : Int)) = true := decide_eq_true (by omega)
    clear h3
    go_wp2
    go_ret
    exact ⟨rfl, S.out.B⟩
  have h3b : decide (300 < (x.f2.f0.length : Int)) = false := decide_eq_false (by omega)
  have HXF := Aside0.mk (show x.f2.Fits from ⟨by omega, NX.out.p.ig, NX.out.p.il⟩)
  have HSZ := Aside0.mk (show (fr.f1.length : Int) + x.f2.f0.length ≤ 1000 by have := SF.out; omega)
  clear h3
  obtain ⟨⟨a, n⟩, ha⟩ : ∃ y, traceC fr tc l t = y := ⟨_, rfl⟩
  obtain ⟨⟨y, m⟩, hy⟩ : ∃ y, proofC fr tc l x = y := ⟨_, rfl⟩
  have C1 := Aside0.mk (fun W (hb : Below w.heap.size w W) => show Calls Try.prog 23 #[cv p fr, cv q tc, lv r l, tv s t] W (fun e w' => RetTr W w' (a, n) e) from ha ▸ lift_Trace p q fr tc r l s t W (HP.out.below hb) (HQ.out.below hb) (HR.out.below hb) (HT.out.below hb) FF.out FT.out FL.out)
  have C2 := Aside0.mk (fun W (hb : Below w.heap.size w W) => show Calls Try.prog 24 #[cv p fr, cv q tc, lv r l, tv s t] W (fun e w' => RetTr W w' (a, n) e) from ha ▸ ref25_Trace p q fr tc r l s t W (HP.out.below hb) (HQ.out.below hb) (HR.out.below hb) (HT.out.below hb) FF.out FT.out FL.out)
  have C3 := Aside0.mk (fun W (hb : Below w.heap.size w W) => show Calls Try.prog 20 #[cv p fr, cv q tc, lv r l, xv XA xc x] W (fun e w' => RetX W w' (y, m) e) from hy ▸ lift_Proof p q fr tc r l XA xc x W (HP.out.below hb) (HQ.out.below hb) (HR.out.below hb) (HXX.out.below hb) FF.out FT.out FL.out HXF.out HSZ.out)
  have C4 := Aside0.mk (fun W (hb : Below w.heap.size w W) => show Calls Try.prog 25 #[cv p fr, cv q tc, lv r l, xv XA xc x] W (fun e w' => RetX W w' (y, m) e) from hy ▸ ref25_Proof p q fr tc r l XA xc x W (HP.out.below hb) (HQ.out.below hb) (HR.out.below hb) (HXX.out.below hb) FF.out FT.out FL.out HXF.out HSZ.out)
  clear ha hy
  obtain ⟨a0, a1, a2, a3, a4⟩ := blk5 (S.out.blk 4 rfl)
  obtain ⟨b0, b1, b2, b3, b4⟩ := blk5 (S.out.blk 3 rfl)
  obtain ⟨l0, l1, l2, l3, l4, l5, l6⟩ := blk7 (S.out.blk 2 rfl)
  obtain ⟨t0, t1⟩ := blk2 (S.out.blk 1 rfl)
  go_wp2_with fail
  refine (C1.out _ S.out.B).mono ?_
  rintro e w5 ⟨q5, rfl, hr5, hb⟩
  have S5 := Aside0.mk ((S.out.below hb).new 57 (tcells q5 a))
  have R5 := Aside0.mk (hr5.below (below_alloc (Below.refl _ _) (.cells (tcells q5 a) 57)))
  clear hb hr5 S a0 a1 a2 a3 a4 b0 b1 b2 b3 b4 l0 l1 l2 l3 l4 l5 l6 t0 t1 x0 x1 x2 x3
  go_upto_region 4 with (fail)
  generalize w5.heap.size = g5 at *
  generalize w5.alloc (.cells (tcells q5 a) 57) = w5 at *
  obtain ⟨a0, a1, a2, a3, a4⟩ := blk5 (S5.out.blk 5 rfl)
  obtain ⟨b0, b1, b2, b3, b4⟩ := blk5 (S5.out.blk 4 rfl)
  obtain ⟨l0, l1, l2, l3, l4, l5, l6⟩ := blk7 (S5.out.blk 3 rfl)
  obtain ⟨t0, t1⟩ := blk2 (S5.out.blk 2 rfl)
  go_wp2_with fail
  refine (C2.out _ S5.out.B).mono ?_
  rintro e w6 ⟨q6, rfl, hr6, hb⟩
  have S6 := Aside0.mk ((S5.out.below hb).new 57 (tcells q6 a))
  have R5 := Aside0.mk ((R5.out.below hb).below (below_alloc (Below.refl _ _) (.cells (tcells q6 a) 57)))
  have R6 := Aside0.mk (hr6.below (below_alloc (Below.refl _ _) (.cells (tcells q6 a) 57)))
  clear hb hr6 S5 a0 a1 a2 a3 a4 b0 b1 b2 b3 b4 l0 l1 l2 l3 l4 l5 l6 t0 t1
  go_upto_region 5 with (fail)
  generalize w6.heap.size = g6 at *
  generalize w6.alloc (.cells (tcells q6 a) 57) = w6 at *
  obtain ⟨a0, a1, a2, a3, a4⟩ := blk5 (S6.out.blk 6 rfl)
  obtain ⟨b0, b1, b2, b3, b4⟩ := blk5 (S6.out.blk 5 rfl)
  obtain ⟨l0, l1, l2, l3, l4, l5, l6⟩ := blk7 (S6.out.blk 4 rfl)
  obtain ⟨x0, x1, x2, x3⟩ := blkP (S6.out.blk 2 rfl)
  go_wp2_with fail
  refine (C3.out _ S6.out.B).mono ?_
  rintro e w7 ⟨Y7, y7, rfl, hr7, hb⟩
  have S7 := Aside0.mk ((S6.out.below hb).new 49 (xcells Y7 y7 y))
  have R5 := Aside0.mk ((R5.out.below hb).below (below_alloc (Below.refl _ _) (.cells (xcells Y7 y7 y) 49)))
  have R6 := Aside0.mk ((R6.out.below hb).below (below_alloc (Below.refl _ _) (.cells (xcells Y7 y7 y) 49)))
  have R7 := Aside0.mk (hr7.below (below_alloc (Below.refl _ _) (.cells (xcells Y7 y7 y) 49)))
  clear hb hr7 S6 a0 a1 a2 a3 a4 b0 b1 b2 b3 b4 l0 l1 l2 l3 l4 l5 l6 x0 x1 x2 x3
  go_upto_region 6 with (fail)
  generalize w7.heap.size = g7 at *
  generalize w7.alloc (.cells (xcells Y7 y7 y) 49) = w7 at *
  obtain ⟨a0, a1, a2, a3, a4⟩ := blk5 (S7.out.blk 7 rfl)
  obtain ⟨b0, b1, b2, b3, b4⟩ := blk5 (S7.out.blk 6 rfl)
  obtain ⟨l0, l1, l2, l3, l4, l5, l6⟩ := blk7 (S7.out.blk 5 rfl)
  obtain ⟨x0, x1, x2, x3⟩ := blkP (S7.out.blk 3 rfl)
  go_wp2_with fail
  refine (C4.out _ S7.out.B).mono ?_
  rintro e w8 ⟨Y8, y8, rfl, hr8, hb⟩
  have S8 := Aside0.mk ((S7.out.below hb).new 49 (xcells Y8 y8 y))
  have R5 := Aside0.mk ((R5.out.below hb).below (below_alloc (Below.refl _ _) (.cells (xcells Y8 y8 y) 49)))
  have R6 := Aside0.mk ((R6.out.below hb).below (below_alloc (Below.refl _ _) (.cells (xcells Y8 y8 y) 49)))
  have R7 := Aside0.mk ((R7.out.below hb).below (below_alloc (Below.refl _ _) (.cells (xcells Y8 y8 y) 49)))
  have R8 := Aside0.mk (hr8.below (below_alloc (Below.refl _ _) (.cells (xcells Y8 y8 y) 49)))
  clear hb hr8 S7 a0 a1 a2 a3 a4 b0 b1 b2 b3 b4 l0 l1 l2 l3 l4 l5 l6 x0 x1 x2 x3
  go_upto_region 7 with (fail)
  generalize w8.heap.size = g8 at *
  generalize w8.alloc (.cells (xcells Y8 y8 y) 49) = w8 at *
  obtain ⟨t0, t1⟩ := blk2 (S8.out.blk 3 rfl)
  obtain ⟨u0, u1⟩ := blk2 (S8.out.blk 2 rfl)
  go_wp2_with fail
  refine (ref25_SameTrace q5 q6 a _ R5.out R6.out).mono ?_
  rintro e w9 ⟨rfl, hb⟩
  have S := Aside0.mk (S8.out.below hb)
  have R7 := Aside0.mk (R7.out.below hb)
  have R8 := Aside0.mk (R8.out.below hb)
  clear hb S8 t0 t1 u0 u1
  obtain ⟨x0, x1, x2, x3⟩ := blkP (S.out.blk 1 rfl)
  obtain ⟨y0, y1, y2, y3⟩ := blkP (S.out.blk 0 rfl)
  go_wp2_with fail
  refine (ref25_SamePred Y7 y7 y.f2 Y8 y8 y.f2 _ R7.out R8.out).mono ?_
  rintro e w10 ⟨rfl, hb⟩
  have S := Aside0.mk (S.out.below hb)
  rw [show decide (y.f2 = y.f2) = true from decide_eq_true rfl]
  clear hb x0 x1 x2 x3 y0 y1 y2 y3
  go_wp2
  go_ret
  exact ⟨rfl, S.out.B⟩
end Go.Proofs.Ytlhiapggccgggaa.PH
