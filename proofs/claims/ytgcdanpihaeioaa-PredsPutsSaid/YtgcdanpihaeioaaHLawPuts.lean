/- The law PredsPuts: its function answers true. -/
import Derived.Test.YtgcdanpihaeioaaHPutD
import Derived.Test.YtgcdanpihaeioaaHPutRef
import Derived.Test.YtgcdanpihaeioaaHSameC
import Derived.Test.YtgcdanpihaeioaaHArgs
import Derived.Test.YtgcdanpihaeioaaHTruth
namespace Go.Proofs.Ytgcdanpihaeioaa.PH
open Go.RowKit Go.Proofs.YtgcdanpihaeioaaW.PrintWords Go.Proofs.YtgcdanpihaeioaaW.PrintLast
set_option linter.unusedVariables false
set_option linter.unusedSimpArgs false

/-! ### The program's builder and the reference agree -/
theorem andR_full (ands : List Gate) (first : Int) (x y : Int) : (andR ands first true x y).2.1 = true := by
  unfold andR
  split
  · rfl
  · split
    · split <;> rfl
    · rfl
theorem putR_full (first : Int) : ∀ (gs : List Gate) (own : List Int) (ands : List Gate), (putR first gs own ands true).2.2 = true
  | [], own, ands => rfl
  | g :: gs, own, ands => by rw [putR, andR_full]; exact putR_full first gs _ _
theorem joinR_mono (ands : List Gate) (before : Int) (x y : Int) : ands.length ≤ (joinR ands before x y).1.length := by
  unfold joinR
  split
  · exact Nat.le_refl _
  · split <;> simp
theorem behindR_mono (before : Int) : ∀ (gs : List Gate) (own : List Int) (ands : List Gate), ands.length ≤ (behindR before gs own ands).2.length
  | [], own, ands => Nat.le_refl _
  | g :: gs, own, ands => by
    rw [behindR]
    exact Nat.le_trans (joinR_mono ands before _ _) (behindR_mono before gs _ _)
theorem put_behind (before : Int) : ∀ (gs : List Gate) (own : List Int) (ands : List Gate), (1 + before) + ands.length ≤ 1001 →
    ((putR (1 + before) gs own ands false).2.2 = false ∧ (putR (1 + before) gs own ands false).1 = (behindR before gs own ands).1 ∧ (putR (1 + before) gs own ands false).2.1 = (behindR before gs own ands).2 ∧ (1 + before) + (behindR before gs own ands).2.length ≤ 1001) ∨
    ((putR (1 + before) gs own ands false).2.2 = true ∧ 1001 < (1 + before) + (behindR before gs own ands).2.length)
  | [], own, ands, h => .inl ⟨rfl, rfl, rfl, h⟩
  | g :: gs, own, ands, h => by
    rw [putR, behindR]
    generalize told own g.f0 = x
    generalize told own g.f1 = y
    unfold andR joinR
    split
    · exact put_behind before gs _ ands h
    · split
      · split
        · refine .inr ⟨putR_full _ _ _ _, ?_⟩
          have := behindR_mono before gs (own ++ [2 * (before + 1 + (ands.length : Int))]) (ands ++ [gateOf x y])
          simp only [List.length_append, List.length_singleton] at this
          dsimp only
          omega
        · dsimp only
          rw [show 2 * (1 + before + (ands.length : Int)) = 2 * (before + 1 + (ands.length : Int)) by omega]
          exact put_behind before gs _ _ (by simp only [List.length_append, List.length_singleton]; omega)
      · dsimp only
        rw [show 2 * (1 + before + gidx (gateOf x y) ands 0) = 2 * (before + 1 + gidx (gateOf x y) ands 0) by omega]
        exact put_behind before gs _ _ h
/-- preds.Put and its reference answer alike. -/
theorem put_same (c : Circ) (p : Pr) (l : List Int) : putRef c p l = putC c p l := by
  unfold putRef putC
  split
  · rfl
  · rename_i h1
    have h1 := gCheck_ok (show gCheck c.f0 c.f1 c.f2 c.f3 c.f4 = 0 from Classical.not_not.1 h1)
    split
    · rfl
    · split
      · rfl
      · have h := put_behind (c.f0 + c.f1.length) p.f0 (0 :: l) c.f2 (by omega)
        unfold behindB putB
        rw [show (1 + c.f0 + (c.f1.length : Int)) = 1 + (c.f0 + (c.f1.length : Int)) by omega]
        dsimp only
        rcases h with ⟨h2, h3, h4, h5⟩ | ⟨h2, h3⟩
        · rw [if_neg (by omega), if_neg (by rw [h2]; decide), h3, h4]
        · rw [if_pos (by omega), if_pos h2]
/-! ### The law -/
structure LInv (w : World) (A : Option Addr) (k : Nat) (p : Pr) (pc : CP) (c : Circ) (wr : World) : Prop where
  BW : Below w.heap.size w wr
  B0 : wr.heap[w.heap.size]? = some (.cells #[.slice A p.f0.length k, .int .i64 p.f1] 24 (0, 0))
  B1 : wr.heap[w.heap.size + 1]? = some (.cells #[.int .i64 c.f0, .slice pc.A1 c.f1.length pc.c1, .slice pc.A2 c.f2.length pc.c2, .slice pc.A3 c.f3.length pc.c3, .slice pc.A4 c.f4.length pc.c4] 29 (0, 0))
theorem LInv.below {w : World} {A : Option Addr} {k : Nat} {p : Pr} {pc : CP} {c : Circ} {wr w2 : World} (h : LInv w A k p pc c wr) (hb : Below wr.heap.size wr w2) : LInv w A k p pc c w2 :=
  ⟨h.BW.trans (hb.mono h.BW.size), blk_below h.B0 hb, blk_below h.B1 hb⟩
theorem LInv.start (w : World) (A : Option Addr) (k : Nat) (p : Pr) (pc : CP) (c : Circ) : LInv w A k p pc c ((w.alloc (.cells #[.slice A p.f0.length k, .int .i64 p.f1] 24)).alloc (.cells #[.int .i64 c.f0, .slice pc.A1 c.f1.length pc.c1, .slice pc.A2 c.f2.length pc.c2, .slice pc.A3 c.f3.length pc.c3, .slice pc.A4 c.f4.length pc.c4] 29)) :=
  ⟨below_alloc (below_alloc (Below.refl _ _) _) _, blk_alloc (blk_new _ _) _, by simpa using blk_new (w.alloc (.cells #[.slice A p.f0.length k, .int .i64 p.f1] 24)) (.cells #[.int .i64 c.f0, .slice pc.A1 c.f1.length pc.c1, .slice pc.A2 c.f2.length pc.c2, .slice pc.A3 c.f3.length pc.c3, .slice pc.A4 c.f4.length pc.c4] 29)⟩
theorem Circ.Nums.fits {c : Circ} (h : c.Nums) (hg : great c = false) : c.Fits := by
  unfold great at hg
  simp only [Bool.or_eq_false_iff, decide_eq_false_iff_not] at hg
  exact ⟨by omega, by omega, h.i0, h.i1, h.i2, h.i3, h.i4⟩
set_option maxHeartbeats 8000000 in
set_option maxRecDepth 100000 in
theorem law_PredsPuts (A : Option Addr × Nat) (p : Pr) (D : Option Addr × Nat) (st : List Bool) (pc : CP) (c : Circ) (B : Option Addr × Nat) (l : List Int) (w : World) (hp : RS kGate w A.1 A.2 p.f0) (hs : RS Kd.bool w D.1 D.2 st) (hc : RC w pc c) (hl : RS (Kd.int .i64) w B.1 B.2 l) (np : p.Nums) (ns : ∀ x ∈ st, True) (nc : c.Nums) (nl : ∀ x ∈ l, I64 x) :
    Calls Try.prog 3 #[pv A.1 A.2 p, .slice D.1 st.length D.2, cv pc c, .slice B.1 l.length B.2] w fun e w' => e = .returned (.bool true) ∧ Below w.heap.size w w' := by
  obtain ⟨A, k⟩ := A
  obtain ⟨D, d⟩ := D
  obtain ⟨B, b⟩ := B
  have HP := Aside0.mk hp
  have HS := Aside0.mk hs
  have HC := Aside0.mk hc
  have HL := Aside0.mk hl
  have NP := Aside0.mk np
  have NC := Aside0.mk nc
  have NL := Aside0.mk nl
  have hu29 := Try.underlying29
  have hu24 := Try.underlying24
  have I0 := Aside0.mk (LInv.start w A k p pc c)
  have HGP := Aside0.mk (fun W => ref24_Great A k p W)
  obtain ⟨gp, hgp⟩ : ∃ gp, (decide (60 < p.f0.length) && decide (p.f0.length ≠ 1001)) = gp := ⟨_, rfl⟩
  rw [hgp] at HGP
  have HG := Aside0.mk hgp
  obtain ⟨gc, hgc⟩ : ∃ gc, great c = gc := ⟨_, rfl⟩
  have HGC := Aside0.mk (fun W => ref02_Great pc c W)
  rw [hgc] at HGC
  have HCG := Aside0.mk hgc
  clear hp hs hc hl np nc nl ns hgp hgc
  obtain ⟨pa, lit⟩ := p
  dsimp only [pv] at *
  by_cases s1 : 60 < (st.length : Int)
  · by_cases s2 : (st.length : Int) = 1001
    · have s2b : ((st.length : Int) != 1001) = false := bne_eq_false_iff_eq.mpr s2
      clear s2
      have b0 := (blk_cell I0.out.B0 0).trans rfl
      have b1 := (blk_cell I0.out.B0 1).trans rfl
      go_enter Try.func3, Try.ntmps3
      go_wp2_with fail
      refine (HGP.out _).mono ?_
      rintro e w1 ⟨rfl, hb1⟩
      have I1 := Aside0.mk (I0.out.below hb1)
      clear hb1 b0 b1
      obtain ⟨⟨c0, c1, c2, c3, c4⟩, _⟩ := blk5w I1.out.B1
      cases gp with
      | true =>
        go_wp2
        go_ret
        exact ⟨rfl, I1.out.BW⟩
      | false =>
        go_wp2_with fail
        refine (HGC.out _).mono ?_
        rintro e w2 ⟨rfl, hb2⟩
        have I2 := Aside0.mk (I1.out.below hb2)
        clear hb2 c0 c1 c2 c3 c4 I1 I0 HGP HGC
        cases gc with
        | true =>
          go_wp2
          go_ret
          exact ⟨rfl, I2.out.BW⟩
        | false =>
          by_cases s3 : 60 < (l.length : Int)
          · go_wp2
            go_ret
            exact ⟨rfl, I2.out.BW⟩
          · skip
            have FP := Aside0.mk (show (⟨pa, lit⟩ : Pr).Fits from ⟨by have h_ := HG.out; simp only [Bool.and_eq_false_iff, decide_eq_false_iff_not] at h_; show pa.length ≤ 4000000; omega, NP.out.ig, NP.out.il⟩)
            have FC := Aside0.mk (NC.out.fits HCG.out)
            have b0 := (blk_cell I2.out.B0 0).trans rfl
            have b1 := (blk_cell I2.out.B0 1).trans rfl
            go_wp2_with fail
            refine (preds_Value A k ⟨pa, lit⟩ D d st _ (HP.out.below I2.out.BW) FP.out (HS.out.below I2.out.BW)).mono ?_
            rintro e w3 ⟨rfl, hb3⟩
            have I3 := Aside0.mk (I2.out.below hb3)
            clear hb3 I2 b0 b1
            have b0 := (blk_cell I3.out.B0 0).trans rfl
            have b1 := (blk_cell I3.out.B0 1).trans rfl
            go_wp2_with fail
            refine (ref24_Value A k ⟨pa, lit⟩ D d st _ (HP.out.below I3.out.BW) FP.out (HS.out.below I3.out.BW)).mono ?_
            rintro e w4 ⟨rfl, hb4⟩
            have I4 := Aside0.mk (I3.out.below hb4)
            clear hb4 I3 b0 b1
            generalize valueOf ⟨pa, lit⟩ st = a
            generalize predCheck st.length ⟨pa, lit⟩ = pe
            obtain ⟨⟨c0, c1, c2, c3, c4⟩, _⟩ := blk5w I4.out.B1
            have b0 := (blk_cell I4.out.B0 0).trans rfl
            have b1 := (blk_cell I4.out.B0 1).trans rfl
            have HPU := Aside0.mk (fun W (hW : Below w.heap.size w W) => preds_Put pc c A k ⟨pa, lit⟩ B b l W ⟨HC.out.s1.below hW, HC.out.s2.below hW, HC.out.s3.below hW, HC.out.s4.below hW⟩ FC.out (HP.out.below hW) FP.out (HL.out.below hW) NL.out)
            have HRE := Aside0.mk (fun W (hW : Below w.heap.size w W) => ref24_Put pc c A k ⟨pa, lit⟩ B b l W ⟨HC.out.s1.below hW, HC.out.s2.below hW, HC.out.s3.below hW, HC.out.s4.below hW⟩ FC.out (HP.out.below hW) FP.out (HL.out.below hW) NL.out)
            rw [put_same] at HRE
            generalize putC c ⟨pa, lit⟩ l = r at *
            obtain ⟨x, m, g⟩ := r
            dsimp only [pv] at HPU HRE
            go_wp2_with fail
            refine (HPU.out _ I4.out.BW).mono ?_
            rintro e w5 ⟨p5, rfl, hr5, hb5⟩
            dsimp only at hr5
            have I5 := Aside0.mk (I4.out.below hb5)
            have R5 := Aside0.mk hr5
            clear hb5 I4 b0 b1 c0 c1 c2 c3 c4 hr5
            have B6 := Aside0.mk (below_alloc (Below.refl w5.heap.size w5) (.cells #[.int .i64 x.f0, .slice p5.A1 x.f1.length p5.c1, .slice p5.A2 x.f2.length p5.c2, .slice p5.A3 x.f3.length p5.c3, .slice p5.A4 x.f4.length p5.c4] 29))
            have G6 := Aside0.mk (blk_new w5 (.cells #[.int .i64 x.f0, .slice p5.A1 x.f1.length p5.c1, .slice p5.A2 x.f2.length p5.c2, .slice p5.A3 x.f3.length p5.c3, .slice p5.A4 x.f4.length p5.c4] 29))
            have I6 := Aside0.mk (I5.out.below B6.out)
            have R6 := Aside0.mk (R5.out.below B6.out)
            obtain ⟨⟨c0, c1, c2, c3, c4⟩, _⟩ := blk5w I6.out.B1
            have b0 := (blk_cell I6.out.B0 0).trans rfl
            have b1 := (blk_cell I6.out.B0 1).trans rfl
            go_wp2_with fail
            refine (HRE.out _ I6.out.BW).mono ?_
            rintro e w7 ⟨p7, rfl, hr7, hb7⟩
            dsimp only at hr7
            have G7 := Aside0.mk (blk_below G6.out hb7)
            have I7 := Aside0.mk (I6.out.below hb7)
            have R7 := Aside0.mk (R6.out.below hb7)
            have S7 := Aside0.mk hr7
            clear hb7 hr7 I5 R5 G6 I6 R6 b0 b1 c0 c1 c2 c3 c4
            generalize w5.heap.size = g5 at *
            have B8 := Aside0.mk (below_alloc (Below.refl w7.heap.size w7) (.cells #[.int .i64 x.f0, .slice p7.A1 x.f1.length p7.c1, .slice p7.A2 x.f2.length p7.c2, .slice p7.A3 x.f3.length p7.c3, .slice p7.A4 x.f4.length p7.c4] 29))
            have G8 := Aside0.mk (blk_below G7.out B8.out)
            have HSM := Aside0.mk (ref02_Same p5 x p7 x _ (R7.out.below B8.out) (S7.out.below B8.out))
            rw [decide_eq_true rfl] at HSM
            have I8 := Aside0.mk (I7.out.below B8.out)
            obtain ⟨⟨c0, c1, c2, c3, c4⟩, _⟩ := blk5w G8.out
            go_wp2_with fail
            refine HSM.out.mono ?_
            rintro e w9 ⟨rfl, hb9⟩
            have I9 := Aside0.mk (I8.out.below hb9)
            clear hb9
            go_wp2
            go_ret
            exact ⟨ret_bool (by simp), I9.out.BW⟩
    · have s2b : ((st.length : Int) != 1001) = true := bne_iff_ne.mpr s2
      clear s2
      have b0 := (blk_cell I0.out.B0 0).trans rfl
      have b1 := (blk_cell I0.out.B0 1).trans rfl
      go_enter Try.func3, Try.ntmps3
      go_wp2_with fail
      refine (HGP.out _).mono ?_
      rintro e w1 ⟨rfl, hb1⟩
      have I1 := Aside0.mk (I0.out.below hb1)
      clear hb1 b0 b1
      cases gp with
      | true =>
        go_wp2
        go_ret
        exact ⟨rfl, I1.out.BW⟩
      | false =>
        go_wp2
        go_ret
        exact ⟨rfl, I1.out.BW⟩
  · skip
    have b0 := (blk_cell I0.out.B0 0).trans rfl
    have b1 := (blk_cell I0.out.B0 1).trans rfl
    go_enter Try.func3, Try.ntmps3
    go_wp2_with fail
    refine (HGP.out _).mono ?_
    rintro e w1 ⟨rfl, hb1⟩
    have I1 := Aside0.mk (I0.out.below hb1)
    clear hb1 b0 b1
    obtain ⟨⟨c0, c1, c2, c3, c4⟩, _⟩ := blk5w I1.out.B1
    cases gp with
    | true =>
      go_wp2
      go_ret
      exact ⟨rfl, I1.out.BW⟩
    | false =>
      go_wp2_with fail
      refine (HGC.out _).mono ?_
      rintro e w2 ⟨rfl, hb2⟩
      have I2 := Aside0.mk (I1.out.below hb2)
      clear hb2 c0 c1 c2 c3 c4 I1 I0 HGP HGC
      cases gc with
      | true =>
        go_wp2
        go_ret
        exact ⟨rfl, I2.out.BW⟩
      | false =>
        by_cases s3 : 60 < (l.length : Int)
        · go_wp2
          go_ret
          exact ⟨rfl, I2.out.BW⟩
        · skip
          have FP := Aside0.mk (show (⟨pa, lit⟩ : Pr).Fits from ⟨by have h_ := HG.out; simp only [Bool.and_eq_false_iff, decide_eq_false_iff_not] at h_; show pa.length ≤ 4000000; omega, NP.out.ig, NP.out.il⟩)
          have FC := Aside0.mk (NC.out.fits HCG.out)
          have b0 := (blk_cell I2.out.B0 0).trans rfl
          have b1 := (blk_cell I2.out.B0 1).trans rfl
          go_wp2_with fail
          refine (preds_Value A k ⟨pa, lit⟩ D d st _ (HP.out.below I2.out.BW) FP.out (HS.out.below I2.out.BW)).mono ?_
          rintro e w3 ⟨rfl, hb3⟩
          have I3 := Aside0.mk (I2.out.below hb3)
          clear hb3 I2 b0 b1
          have b0 := (blk_cell I3.out.B0 0).trans rfl
          have b1 := (blk_cell I3.out.B0 1).trans rfl
          go_wp2_with fail
          refine (ref24_Value A k ⟨pa, lit⟩ D d st _ (HP.out.below I3.out.BW) FP.out (HS.out.below I3.out.BW)).mono ?_
          rintro e w4 ⟨rfl, hb4⟩
          have I4 := Aside0.mk (I3.out.below hb4)
          clear hb4 I3 b0 b1
          generalize valueOf ⟨pa, lit⟩ st = a
          generalize predCheck st.length ⟨pa, lit⟩ = pe
          obtain ⟨⟨c0, c1, c2, c3, c4⟩, _⟩ := blk5w I4.out.B1
          have b0 := (blk_cell I4.out.B0 0).trans rfl
          have b1 := (blk_cell I4.out.B0 1).trans rfl
          have HPU := Aside0.mk (fun W (hW : Below w.heap.size w W) => preds_Put pc c A k ⟨pa, lit⟩ B b l W ⟨HC.out.s1.below hW, HC.out.s2.below hW, HC.out.s3.below hW, HC.out.s4.below hW⟩ FC.out (HP.out.below hW) FP.out (HL.out.below hW) NL.out)
          have HRE := Aside0.mk (fun W (hW : Below w.heap.size w W) => ref24_Put pc c A k ⟨pa, lit⟩ B b l W ⟨HC.out.s1.below hW, HC.out.s2.below hW, HC.out.s3.below hW, HC.out.s4.below hW⟩ FC.out (HP.out.below hW) FP.out (HL.out.below hW) NL.out)
          rw [put_same] at HRE
          generalize putC c ⟨pa, lit⟩ l = r at *
          obtain ⟨x, m, g⟩ := r
          dsimp only [pv] at HPU HRE
          go_wp2_with fail
          refine (HPU.out _ I4.out.BW).mono ?_
          rintro e w5 ⟨p5, rfl, hr5, hb5⟩
          dsimp only at hr5
          have I5 := Aside0.mk (I4.out.below hb5)
          have R5 := Aside0.mk hr5
          clear hb5 I4 b0 b1 c0 c1 c2 c3 c4 hr5
          have B6 := Aside0.mk (below_alloc (Below.refl w5.heap.size w5) (.cells #[.int .i64 x.f0, .slice p5.A1 x.f1.length p5.c1, .slice p5.A2 x.f2.length p5.c2, .slice p5.A3 x.f3.length p5.c3, .slice p5.A4 x.f4.length p5.c4] 29))
          have G6 := Aside0.mk (blk_new w5 (.cells #[.int .i64 x.f0, .slice p5.A1 x.f1.length p5.c1, .slice p5.A2 x.f2.length p5.c2, .slice p5.A3 x.f3.length p5.c3, .slice p5.A4 x.f4.length p5.c4] 29))
          have I6 := Aside0.mk (I5.out.below B6.out)
          have R6 := Aside0.mk (R5.out.below B6.out)
          obtain ⟨⟨c0, c1, c2, c3, c4⟩, _⟩ := blk5w I6.out.B1
          have b0 := (blk_cell I6.out.B0 0).trans rfl
          have b1 := (blk_cell I6.out.B0 1).trans rfl
          go_wp2_with fail
          refine (HRE.out _ I6.out.BW).mono ?_
          rintro e w7 ⟨p7, rfl, hr7, hb7⟩
          dsimp only at hr7
          have G7 := Aside0.mk (blk_below G6.out hb7)
          have I7 := Aside0.mk (I6.out.below hb7)
          have R7 := Aside0.mk (R6.out.below hb7)
          have S7 := Aside0.mk hr7
          clear hb7 hr7 I5 R5 G6 I6 R6 b0 b1 c0 c1 c2 c3 c4
          generalize w5.heap.size = g5 at *
          have B8 := Aside0.mk (below_alloc (Below.refl w7.heap.size w7) (.cells #[.int .i64 x.f0, .slice p7.A1 x.f1.length p7.c1, .slice p7.A2 x.f2.length p7.c2, .slice p7.A3 x.f3.length p7.c3, .slice p7.A4 x.f4.length p7.c4] 29))
          have G8 := Aside0.mk (blk_below G7.out B8.out)
          have HSM := Aside0.mk (ref02_Same p5 x p7 x _ (R7.out.below B8.out) (S7.out.below B8.out))
          rw [decide_eq_true rfl] at HSM
          have I8 := Aside0.mk (I7.out.below B8.out)
          obtain ⟨⟨c0, c1, c2, c3, c4⟩, _⟩ := blk5w G8.out
          go_wp2_with fail
          refine HSM.out.mono ?_
          rintro e w9 ⟨rfl, hb9⟩
          have I9 := Aside0.mk (I8.out.below hb9)
          clear hb9
          go_wp2
          go_ret
          exact ⟨ret_bool (by simp), I9.out.BW⟩
end Go.Proofs.Ytgcdanpihaeioaa.PH
