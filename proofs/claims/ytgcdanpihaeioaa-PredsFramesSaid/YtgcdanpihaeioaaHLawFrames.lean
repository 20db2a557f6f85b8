/- The law PredsFrames: its function answers true. -/
import Derived.Test.YtgcdanpihaeioaaHFramesP
import Derived.Test.YtgcdanpihaeioaaHAlive
import Derived.Test.YtgcdanpihaeioaaHSameC
import Derived.Test.YtgcdanpihaeioaaHArgs
namespace Go.Proofs.Ytgcdanpihaeioaa.PH
open Go.RowKit Go.Proofs.YtgcdanpihaeioaaW.PrintWords Go.Proofs.YtgcdanpihaeioaaW.PrintLast
set_option linter.unusedVariables false
set_option linter.unusedSimpArgs false

theorem nums_fits {c : Circ} (h : c.Nums) (hg : great c = false) : c.Fits := by
  unfold great at hg
  simp only [Bool.or_eq_false_iff, decide_eq_false_iff_not] at hg
  exact ⟨by omega, by omega, h.i0, h.i1, h.i2, h.i3, h.i4⟩
/-- The boxes of the circuit and of the predicate. -/
structure FInv (w : World) (pc : CP) (c : Circ) (A : Option Addr) (k : Nat) (p : Pr) (wr : World) : Prop where
  BW : Below w.heap.size w wr
  B0 : wr.heap[w.heap.size]? = some (.cells #[.int .i64 c.f0, .slice pc.A1 c.f1.length pc.c1, .slice pc.A2 c.f2.length pc.c2, .slice pc.A3 c.f3.length pc.c3, .slice pc.A4 c.f4.length pc.c4] 29 (0, 0))
  B1 : wr.heap[w.heap.size + 1]? = some (.cells #[.slice A p.f0.length k, .int .i64 p.f1] 24 (0, 0))
theorem FInv.below {w : World} {A : Option Addr} {k : Nat} {p : Pr} {pc : CP} {c : Circ} {wr w2 : World} (h : FInv w pc c A k p wr) (hb : Below wr.heap.size wr w2) : FInv w pc c A k p w2 :=
  ⟨h.BW.trans (hb.mono h.BW.size), blk_below h.B0 hb, blk_below h.B1 hb⟩
theorem FInv.start (w : World) (pc : CP) (c : Circ) (A : Option Addr) (k : Nat) (p : Pr) : FInv w pc c A k p ((w.alloc (.cells #[.int .i64 c.f0, .slice pc.A1 c.f1.length pc.c1, .slice pc.A2 c.f2.length pc.c2, .slice pc.A3 c.f3.length pc.c3, .slice pc.A4 c.f4.length pc.c4] 29)).alloc (.cells #[.slice A p.f0.length k, .int .i64 p.f1] 24)) :=
  ⟨below_alloc (below_alloc (Below.refl _ _) _) _, blk_alloc (blk_new _ _) _, by simpa using blk_new (w.alloc (.cells #[.int .i64 c.f0, .slice pc.A1 c.f1.length pc.c1, .slice pc.A2 c.f2.length pc.c2, .slice pc.A3 c.f3.length pc.c3, .slice pc.A4 c.f4.length pc.c4] 29)) (.cells #[.slice A p.f0.length k, .int .i64 p.f1] 24)⟩
/-- What holds behind both calls of values.All. -/
structure FrInv (w : World) (pc : CP) (c : Circ) (A : Option Addr) (k : Nat) (p : Pr) (g : Nat) (p5 : CP) (x : Circ) (V : Option Addr) (cap : Nat) (v : List Bool) (U : Option Addr) (cup : Nat) (u : List Bool) (wr : World) : Prop where
  f : FInv w pc c A k p wr
  b : wr.heap[g]? = some (.cells #[.int .i64 x.f0, .slice p5.A1 x.f1.length p5.c1, .slice p5.A2 x.f2.length p5.c2, .slice p5.A3 x.f3.length p5.c3, .slice p5.A4 x.f4.length p5.c4] 29 (0, 0))
  r : RC wr p5 x
  v : RS Kd.bool wr V cap v
  u : RS Kd.bool wr U cup u
theorem FrInv.below {w : World} {pc : CP} {c : Circ} {A : Option Addr} {k : Nat} {p : Pr} {g : Nat} {p5 : CP} {x : Circ} {V : Option Addr} {cap : Nat} {v : List Bool} {U : Option Addr} {cup : Nat} {u : List Bool} {wr w2 : World} (h : FrInv w pc c A k p g p5 x V cap v U cup u wr) (hb : Below wr.heap.size wr w2) : FrInv w pc c A k p g p5 x V cap v U cup u w2 :=
  ⟨h.f.below hb, blk_below h.b hb, h.r.below hb, h.v.below hb, h.u.below hb⟩
set_option maxHeartbeats 8000000 in
set_option maxRecDepth 100000 in
theorem law_PredsFrames (pc : CP) (c : Circ) (A : Option Addr × Nat) (p : Pr) (B : Option Addr × Nat) (l : List Int) (D : Option Addr × Nat) (st : List Bool) (G : Option Addr × Nat) (ins : List Bool) (w : World) (hc : RC w pc c) (hp : RS kGate w A.1 A.2 p.f0) (hl : RS (Kd.int .i64) w B.1 B.2 l) (hs : RS Kd.bool w D.1 D.2 st) (hi : RS Kd.bool w G.1 G.2 ins) (nc : c.Nums) (np : p.Nums) (nl : ∀ x ∈ l, I64 x) (ns : ∀ x ∈ st, True) (ni : ∀ x ∈ ins, True) :
    Calls Try.prog 6 #[cv pc c, pv A.1 A.2 p, .slice B.1 l.length B.2, .slice D.1 st.length D.2, .slice G.1 ins.length G.2] w fun e w' => e = .returned (.bool true) ∧ Below w.heap.size w w' := by
  obtain ⟨A, k⟩ := A
  obtain ⟨D, d⟩ := D
  obtain ⟨B, b⟩ := B
  obtain ⟨G, g⟩ := G
  have HP := Aside0.mk hp
  have HS := Aside0.mk hs
  have HI := Aside0.mk hi
  have HC := Aside0.mk hc
  have HL := Aside0.mk hl
  have NP := Aside0.mk np
  have NC := Aside0.mk nc
  have NL := Aside0.mk nl
  have hu29 := Try.underlying29
  have hu24 := Try.underlying24
  have I0 := Aside0.mk (FInv.start w pc c A k p)
  have HGP := Aside0.mk (fun W => ref24_Great A k p W)
  obtain ⟨gp, hgp⟩ : ∃ gp, (decide (60 < p.f0.length) && decide (p.f0.length ≠ 1001)) = gp := ⟨_, rfl⟩
  rw [hgp] at HGP
  have HG := Aside0.mk hgp
  obtain ⟨gc, hgc⟩ : ∃ gc, great c = gc := ⟨_, rfl⟩
  have HGC := Aside0.mk (fun W => ref02_Great pc c W)
  rw [hgc] at HGC
  have HCG := Aside0.mk hgc
  clear hp hs hc hl hi np nc nl ns ni hgp hgc
  obtain ⟨pa, lit⟩ := p
  dsimp only [pv] at *
  go_enter Try.func6, Try.ntmps6
  go_wp2_with fail
  refine (law24_alive _).mono ?_
  rintro e w0 ⟨rfl, hb0⟩
  have I := Aside0.mk (I0.out.below hb0)
  clear hb0 I0
  obtain ⟨⟨c0, c1, c2, c3, c4⟩, _⟩ := blk5w I.out.B0
  go_wp2_with fail
  refine (HGC.out _).mono ?_
  rintro e w1 ⟨rfl, hb⟩
  have I := Aside0.mk (I.out.below hb)
  clear hb c0 c1 c2 c3 c4 HGC
  cases gc with
  | true =>
    go_wp2
    go_ret
    exact ⟨rfl, I.out.BW⟩
  | false =>
  obtain ⟨⟨b0, b1⟩, _⟩ := blk2w I.out.B1
  go_wp2_with fail
  refine (HGP.out _).mono ?_
  rintro e w2 ⟨rfl, hb⟩
  have I := Aside0.mk (I.out.below hb)
  clear hb b0 b1 HGP
  cases gp with
  | true =>
    go_wp2
    go_ret
    exact ⟨rfl, I.out.BW⟩
  | false =>
  have FP := Aside0.mk (show (⟨pa, lit⟩ : Pr).Fits from ⟨by have h_ := HG.out; simp only [Bool.and_eq_false_iff, decide_eq_false_iff_not] at h_; show pa.length ≤ 4000000; omega, NP.out.ig, NP.out.il⟩)
  have FC := Aside0.mk (nums_fits NC.out HCG.out)
  obtain ⟨⟨c0, c1, c2, c3, c4⟩, _⟩ := blk5w I.out.B0
  by_cases s3 : 60 < (l.length : Int)
  · go_wp2
    go_ret
    exact ⟨rfl, I.out.BW⟩
  by_cases s4 : st.length = c.f1.length
  case neg =>
    have s4b : ((st.length : Int) != (c.f1.length : Int)) = true := bne_iff_ne.mpr (by omega)
    clear s4
    go_wp2
    go_ret
    exact ⟨rfl, I.out.BW⟩
  by_cases s5 : (ins.length : Int) = c.f0
  case neg =>
    have s5b : ((ins.length : Int) != c.f0) = true := bne_iff_ne.mpr s5
    have s4b : ((st.length : Int) != (c.f1.length : Int)) = false := bne_eq_false_iff_eq.mpr (by omega)
    clear s5 s4
    go_wp2
    go_ret
    exact ⟨rfl, I.out.BW⟩
  have HS4 := Aside0.mk (And.intro s4 s5)
  have H60 := Aside0.mk s3
  have s5b : ((ins.length : Int) != c.f0) = false := bne_eq_false_iff_eq.mpr s5
  have s4b : ((st.length : Int) != (c.f1.length : Int)) = false := bne_eq_false_iff_eq.mpr (by omega)
  clear s4 s5
  obtain ⟨⟨b0, b1⟩, _⟩ := blk2w I.out.B1
  have HPU := Aside0.mk (fun W (hW : Below w.heap.size w W) => preds_Put pc c A k ⟨pa, lit⟩ B b l W (HC.out.below hW) FC.out (HP.out.below hW) FP.out (HL.out.below hW) NL.out)
  have HOK := Aside0.mk (fun h => put_ok (c := c) (p := ⟨pa, lit⟩) (l := l) h)
  have HSA := Aside0.mk (fun h => put_said (put_ok (c := c) (p := ⟨pa, lit⟩) (l := l) h))
  generalize putC c ⟨pa, lit⟩ l = r at *
  obtain ⟨x, m, er⟩ := r
  dsimp only [pv] at HPU HOK HSA
  go_wp2_with fail
  refine (HPU.out _ I.out.BW).mono ?_
  rintro e w5 ⟨p5, rfl, hr5, hb5⟩
  dsimp only at hr5
  have I := Aside0.mk (I.out.below hb5)
  have R5 := Aside0.mk hr5
  clear hb5 b0 b1 c0 c1 c2 c3 c4 hr5 s3 s4b s5b HPU
  have B6 := Aside0.mk (below_alloc (Below.refl w5.heap.size w5) (.cells #[.int .i64 x.f0, .slice p5.A1 x.f1.length p5.c1, .slice p5.A2 x.f2.length p5.c2, .slice p5.A3 x.f3.length p5.c3, .slice p5.A4 x.f4.length p5.c4] 29))
  have G6 := Aside0.mk (blk_new w5 (.cells #[.int .i64 x.f0, .slice p5.A1 x.f1.length p5.c1, .slice p5.A2 x.f2.length p5.c2, .slice p5.A3 x.f3.length p5.c3, .slice p5.A4 x.f4.length p5.c4] 29))
  have I := Aside0.mk (I.out.below B6.out)
  have R6 := Aside0.mk (R5.out.below B6.out)
  by_cases he : er = 0
  case neg =>
    have heb : (er != 0) = true := bne_iff_ne.mpr he
    clear he
    go_wp2
    go_ret
    exact ⟨rfl, I.out.BW⟩
  have HSB := Aside0.mk (HSA.out he)
  have HOB := Aside0.mk (HOK.out he)
  clear HSA HOK
  subst he
  clear R5 B6
  have FX := Aside0.mk (put_fits HSB.out FC.out)
  have HA1 := Aside0.mk (fun W (hW : Below w.heap.size w W) => values_All pc c D d st G g ins W (HC.out.below hW) FC.out (HS.out.below hW) (HI.out.below hW) HOB.out.ck HS4.out.1 HS4.out.2)
  have HA2 := Aside0.mk (fun W (hW : Below w.heap.size w W) (hr : RC W p5 x) => values_All p5 x D d st G g ins W hr FX.out (HS.out.below hW) (HI.out.below hW) HSB.out.ck (by rw [HSB.out.e1]; exact HS4.out.1) (by rw [HSB.out.e0]; exact HS4.out.2))
  obtain ⟨hvl, hval⟩ := HSB.out.vl (false :: (ins ++ st)) rfl (by have := HS4.out; simp only [List.length_cons, List.length_append]; omega)
  obtain ⟨t, ht⟩ := HSB.out.e2
  obtain ⟨s, hsx⟩ := truthFrom_more c.f2 t (false :: (ins ++ st))
  rw [← ht] at hsx
  have hlen := truthFrom_len c.f2 (false :: (ins ++ st))
  have HLI := Aside0.mk (show ∀ y ∈ l, IsLit y ∧ y / 2 < (truthFrom c.f2 (false :: (ins ++ st))).length from fun y hy => by
    have h1 := HOB.out.li y hy
    have h2 := HS4.out
    simp only [List.length_cons, List.length_append] at hlen
    exact ⟨h1.1, by omega⟩)
  have HVM := Aside0.mk (show (truthFrom c.f2 (false :: (ins ++ st))).length ≤ 9223372036854775807 from by
    have h1 := gCheck_ok HOB.out.ck
    have h2 := HS4.out
    simp only [List.length_cons, List.length_append] at hlen
    omega)
  rw [hsx] at HA2 hval hvl
  generalize truthFrom c.f2 (false :: (ins ++ st)) = v at *
  have HVV := Aside0.mk (And.intro hvl hval)
  clear hvl hval ht hsx hlen
  obtain ⟨⟨c0, c1, c2, c3, c4⟩, _⟩ := blk5w I.out.B0
  go_wp2_with fail
  refine (HA1.out _ I.out.BW).mono ?_
  rintro e w7 ⟨V, cap, rfl, hr7, hb7⟩
  have I := Aside0.mk (I.out.below hb7)
  have G7 := Aside0.mk (blk_below G6.out hb7)
  have R7 := Aside0.mk (R6.out.below hb7)
  have V7 := Aside0.mk hr7
  clear hb7 c0 c1 c2 c3 c4 G6 R6 hr7 HA1
  generalize w5.heap.size = g5 at *
  obtain ⟨⟨c0, c1, c2, c3, c4⟩, _⟩ := blk5w G7.out
  go_wp2_with fail
  refine (HA2.out _ I.out.BW R7.out).mono ?_
  rintro e w8 ⟨V2, cap2, rfl, hr8, hb8⟩
  have I := Aside0.mk (I.out.below hb8)
  have G8 := Aside0.mk (blk_below G7.out hb8)
  have R8 := Aside0.mk (R7.out.below hb8)
  have V8 := Aside0.mk (V7.out.below hb8)
  have U8 := Aside0.mk hr8
  have hcmp : decide ((((v ++ s).length : Nat) : Int) < (v.length : Int)) = false := decide_eq_false (by simp only [List.length_append]; omega)
  clear hb8 c0 c1 c2 c3 c4 G7 R7 V7 hr8 HA2
  have Q0 := Aside0.mk (show FrInv w pc c A k ⟨pa, lit⟩ g5 p5 x V cap v V2 cap2 (v ++ s) w8 from ⟨I.out, G8.out, R8.out, V8.out, U8.out⟩)
  clear I G8 R8 V8 U8
  go_wp2_with fail
  go_loopg [19] v.length (fun gg s19 wr => ∃ i : Nat, s19 = .int .i64 i ∧ Aside0 (i ≤ v.length ∧ v.length - i ≤ gg) ∧ Aside0 (FrInv w pc c A k ⟨pa, lit⟩ g5 p5 x V cap v V2 cap2 (v ++ s) wr))
  case atStart => exact ⟨0, rfl, ⟨by omega, by omega⟩, Q0⟩
  case round =>
    clear Q0
    obtain ⟨i, rfl, HX, Q⟩ := hrel
    by_cases hlt : i < v.length
    · obtain ⟨ad, e1, hx⟩ := at_bool Q.out.v.r i hlt
      obtain ⟨ad2, e2, hy⟩ := at_bool Q.out.u.r i (by rw [List.length_append]; omega)
      have hlt2 : i < (v ++ s).length := by rw [List.length_append]; omega
      rw [List.getElem_append_left hlt] at hy
      have HLT := Aside0.mk hlt
      generalize v[i] = bb at *
      cases e1
      cases e2
      have hne : (bb != bb) = false := by cases bb <;> rfl
      go_wp2
      go_quiet (fail)
      go_wp2
      go_roundg (v.length - (i + 1))
      case measure => have := HX.out; have := HLT.out; omega
      case rel => exact ⟨i + 1, val_step HLT.out HVM.out, ⟨HLT.out, by have := HX.out; omega⟩, ⟨Q.out.below (pw_below_drewN (Below.refl _ _) _)⟩⟩
    · have hi : i = v.length := by have := HX.out.1; omega
      obtain ⟨w9, hw9⟩ : ∃ q, q = wr := ⟨_, rfl⟩
      subst hw9
      have hcmp2 : ¬ i < v.length := by omega
      have hr0 := Aside0.mk (Kd.R_nil Kd.bool 4 w9 w9.heap.size (fun _ => True))
      have HLX := Aside0.mk HL.out.max
      clear hi
      go_wp2_with fail
      go_loopg [20, 21, 22, 23] l.length (fun gg s20 s21 s22 s23 w2 => ∃ (j : Nat) (O : Option Addr) (oc : Nat), s20 = .slice O j oc ∧ s21 = .int .i64 j ∧ Aside0 (j ≤ l.length ∧ l.length - j ≤ gg) ∧ Aside0 (Below w9.heap.size w9 w2) ∧ Aside0 (Kd.R Kd.bool 4 w2 w9.heap.size (fun _ => True) (.slice O j oc) ((l.take j).map (litV v))))
      case atStart => exact ⟨0, none, 0, rfl, rfl, ⟨by omega, by omega⟩, ⟨Below.refl _ _⟩, hr0⟩
      case round =>
        obtain ⟨j, O, oc, rfl, rfl, HX2, HB, HR⟩ := hrel
        by_cases hlt : j < l.length
        · obtain ⟨ad, e1, hx⟩ := at_int (HL.out.below (Q.out.f.BW.trans (HB.out.mono Q.out.f.BW.size))).r j hlt
          have hy := HLI.out l[j] (List.getElem_mem hlt)
          have HT := Aside0.mk (show (l.take (j + 1)).map (litV v) = (l.take j).map (litV v) ++ [litV v l[j]] by rw [take_at hlt, List.map_append]; rfl)
          have HLT := Aside0.mk hlt
          generalize l[j] = y at *
          cases e1
          have HOF := Aside0.mk (fun W (hb : Below w9.heap.size w9 W) => values_Of V cap v y W (Q.out.v.below hb) hy.1 hy.2)
          clear hy
          go_wp2_with fail
          refine (HOF.out _ HB.out).mono ?_
          rintro e w3 ⟨rfl, hb3⟩
          have HB3 := Aside0.mk (HB.out.trans (hb3.mono HB.out.size))
          have HR3 := Aside0.mk (Kd.R_below HR.out hb3)
          clear hb3 HR HB hx
          generalize litV v y = bb at *
          have HJ := Aside0.mk (show ((l.take j).map (litV v) ++ [bb]).length = j + 1 by rw [List.length_append, List.length_map, List.length_take, Nat.min_eq_left (Nat.le_of_lt HLT.out)]; rfl)
          go_wp2_with (first | (at_builtin; go_loud (refine Kd.R_append Kd.bool (w0 := w9) w9.heap.size rfl (.tmp 130) (.tmp 132) 25 4 (.bool false) 1 rfl Try.underlying25 infoBool rfl (by decide) (by omega) (.slice O j oc) ((l.take j).map (litV v)) bb [.bool bb] (fun _ => True) (fun _ => False) rfl rfl ?aP (fun _ h => h.elim) ?aF ?aO ?aB ?aS ?aL ?_); (case aP => exact rfl); (case aF => exact fun _ _ => trivial); (case aO => exact HR3.out); (case aB => exact HB3.out); (case aS => exact HB3.out.size); (case aL => rw [List.length_map, List.length_take]; have := H60.out; have := Nat.min_le_right j l.length; omega); intro v1 w6 ho hb hg hat; obtain ⟨V5, cap5, rfl, _, _⟩ := Kd.R_reads ho; rw [HJ.out] at ho ⊢))
          have HR6 := Aside0.mk (show Kd.R Kd.bool 4 w6 w9.heap.size (fun _ => True) (.slice V5 (j + 1) cap5) ((l.take (j + 1)).map (litV v)) from by
            rw [HT.out]
            have h_ := ho
            exact h_)
          have HB6 := Aside0.mk hb
          clear ho hb hg hat HB3 HR3
          go_roundg (l.length - (j + 1))
          case measure => have := HX2.out; have := HLT.out; omega
          case rel => exact ⟨j + 1, V5, cap5, rfl, rfl, ⟨HLT.out, by have := HX2.out; omega⟩, HB6, HR6⟩
        · have hj : j = l.length := by have := HX2.out.1; omega
          subst hj
          have Q2 := Aside0.mk (Q.out.below HB.out)
          have HS2 := Aside0.mk (show RS Kd.bool wr O oc (l.map (litV v)) from by
            have h_ := RS.of_R' HR.out
            rw [List.take_length] at h_
            exact h_)
          have HVL := Aside0.mk (show (l.map (litV v)).length = l.length from List.length_map ..)
          have HPC := Aside0.mk (show predCheck (l.map (litV v)).length ⟨pa, lit⟩ = 0 from by rw [List.length_map]; exact HOB.out.pc)
          clear Q HB HR
          generalize l.map (litV v) = own at *
          obtain ⟨⟨b0, b1⟩, _⟩ := blk2w Q2.out.f.B1
          go_wp2_with fail
          refine (show Calls _ _ #[.agg #[.slice A pa.length k, .int .i64 lit], .slice O l.length oc] _ _ from by
            rw [← HVL.out]
            exact preds_Value A k ⟨pa, lit⟩ O oc own _ (HP.out.below Q2.out.f.BW) FP.out HS2.out).mono ?_
          rintro e w10 ⟨rfl, hb⟩
          rw [HPC.out, value_val HPC.out, ← HVV.out.2]
          have Q3 := Aside0.mk (Q2.out.below hb)
          clear hb b0 b1 Q2
          have HIL := Aside0.mk HSB.out.il
          go_wp2_with fail
          refine (show Calls _ _ #[.slice V2 (v.length + s.length) cap2, .int .i64 m] _ _ from by
            rw [← List.length_append]
            exact values_Of V2 cap2 (v ++ s) m _ Q3.out.u HIL.out HVV.out.1).mono ?_
          rintro e w11 ⟨rfl, hb⟩
          have Q4 := Aside0.mk (Q3.out.below hb)
          clear hb Q3
          obtain ⟨⟨c0, c1, c2, c3, c4⟩, _⟩ := blk5w Q4.out.b
          obtain ⟨⟨d0, d1, d2, d3, d4⟩, _⟩ := blk5w Q4.out.f.B0
          generalize litV (v ++ s) m = bb at *
          have hee : (bb == bb) = true := beq_self_eq_true bb
          go_wp2_with fail
          refine (ref02_SameInts p5.A3 p5.c3 x.f3 pc.A3 pc.c3 c.f3 _ Q4.out.r.s3 (HC.out.below Q4.out.f.BW).s3).mono ?_
          rintro e w12 ⟨rfl, hb⟩
          rw [HSB.out.e3]
          have Q5 := Aside0.mk (Q4.out.below hb)
          clear hb Q4 c0 c1 c2 c3 c4 d0 d1 d2 d3 d4
          obtain ⟨⟨c0, c1, c2, c3, c4⟩, _⟩ := blk5w Q5.out.b
          obtain ⟨⟨d0, d1, d2, d3, d4⟩, _⟩ := blk5w Q5.out.f.B0
          have hd3 : decide (c.f3 = c.f3) = true := decide_eq_true rfl
          rw [hd3]
          go_wp2_with fail
          refine (ref02_SameInts p5.A4 p5.c4 x.f4 pc.A4 pc.c4 c.f4 _ Q5.out.r.s4 (HC.out.below Q5.out.f.BW).s4).mono ?_
          rintro e w13 ⟨rfl, hb⟩
          rw [HSB.out.e4]
          have hd4 : decide (c.f4 = c.f4) = true := decide_eq_true rfl
          rw [hd4]
          have Q6 := Aside0.mk (Q5.out.below hb)
          clear hb
          go_wp2
          go_ret
          exact ⟨rfl, Q6.out.f.BW⟩
end Go.Proofs.Ytgcdanpihaeioaa.PH
