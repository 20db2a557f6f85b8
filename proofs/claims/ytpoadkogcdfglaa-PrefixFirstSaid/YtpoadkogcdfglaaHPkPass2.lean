/- Pass of the package and of its reference. -/
import Derived.Test.YtpoadkogcdfglaaHPkPass
namespace Go.Proofs.Ytpoadkogcdfglaa.PH
open Go.RowKit Go.Proofs.YtpoadkogcdfglaaW.PrintWords Go.Proofs.YtpoadkogcdfglaaW.PrintLast
set_option linter.unusedVariables false
set_option linter.unusedSimpArgs false

set_option maxHeartbeats 4000000 in
set_option maxRecDepth 100000 in
theorem ref26_As (p : CP) (c : Circ) (w : World) (h : RC w p c) (hs : c.Fits) (hck : check c = 0) :
    Calls Try.prog 45 #[cv p c] w fun e w' => RetR1 w w' ⟨c, idOf c⟩ e := by
  have hb := cbnd_of hck
  have HT := Aside0.mk (fun W (hB : Below w.heap.size w W) => ref02_Twin p c W (h.below hB) (by have := hb.n; omega) (by have := hb.n; omega) (by have := hb.b; omega) (by have := hb.k; omega))
  have HS := Aside0.mk (fun W => ref25_Same p c W hck)
  obtain ⟨l, hl⟩ : ∃ l, idOf c = l := ⟨_, rfl⟩
  rw [hl] at HS ⊢
  have hu26 := Try.underlying26
  have hu33 := Try.underlying33
  have hu35 := Try.underlying35
  have S0 := Aside0.mk (((Parts.start w).new 26 (fc5 p c)).new 35 zCells)
  rw [show (w.alloc (.cells (fc5 p c) 26)).heap.size = w.heap.size + 1 by simp] at S0
  clear h hs hck hb hl
  go_enter Try.func45, Try.ntmps45
  go_upto_region 1 with (fail)
  generalize (w.alloc (.cells (fc5 p c) 26)).alloc (.cells zCells 35) = w1 at *
  refine start_ (n := 6) (S := (fun w' : World => w'.cell? ⟨w.heap.size, 0, none⟩ = some (.int .i64 c.f0) ∧ w'.cell? ⟨w.heap.size, 1, none⟩ = some (.slice p.A1 c.f1.length p.c1) ∧ w'.cell? ⟨w.heap.size, 2, none⟩ = some (.slice p.A2 c.f2.length p.c2) ∧ w'.cell? ⟨w.heap.size, 3, none⟩ = some (.slice p.A3 c.f3.length p.c3) ∧ w'.cell? ⟨w.heap.size, 4, none⟩ = some (.slice p.A4 c.f4.length p.c4))) (ds := [5]) #[false, false, false, false, false, false] (by kernel_rfl) rfl rfl (blk5 (S0.out.blk 1 rfl)) (fun hHeld => ?_)
  have S1 := Aside0.mk S0.out.drew
  clear S0
  generalize w1.drew = w2 at *
  refine take_ (i := 0) (N := some 3) (v := ?_) (a' := ?_) #[true, false, false, false, false, false] rfl rfl (by kernel_rfl) (fun _ _ _ h => h) (Or.inl ⟨by rfl, ?_⟩) hHeld ?_ ?_
  rotate_left
  · rintro w' ⟨s0, s1, s2, s3, s4⟩
    go_simp
    with_reducible rfl
  rotate_left
  · simp only [Act.put, List.setIfInBounds_toArray, List.set_cons_zero, List.set_cons_succ]
    rfl
  refine take_ (i := 2) (N := some 5) (v := ?_) (a' := ?_) #[true, false, true, false, false, false] rfl rfl (by kernel_rfl) (fun _ _ _ h => h) (Or.inl ⟨by rfl, ?_⟩) hHeld ?_ ?_
  rotate_left
  · rintro w' ⟨s0, s1, s2, s3, s4⟩
    go_simp
    with_reducible rfl
  rotate_left
  · simp only [Act.put, List.setIfInBounds_toArray, List.set_cons_zero, List.set_cons_succ]
    rfl
  refine one_ (i := 1) (N := some 4) #[true, true, true, false, false, false] rfl rfl (by kernel_rfl) (by decide) (fun K hK => ?_)
  refine goes_ Try.func9 (by kernel_rfl) rfl #[cv p c] (by rfl) rfl rfl (by simp only [List.map_toArray, List.map_cons, List.map_nil] <;> rfl) ?_
  refine (HT.out _ S1.out.B).mono ?_
  rintro e w3 ⟨⟨A1, k1, A2, k2, A3, k3, A4, k4⟩, rfl, hr, hb⟩
  refine ⟨_, rfl, ?_⟩
  have S3 := Aside0.mk (S1.out.ofRs (P := fun W => RC W ⟨A1, k1, A2, k2, A3, k3, A4, k4⟩ c) (fun W hW => hr.held hW) hb)
  clear hr hb S1
  refine hK.out _ _ (blk5 (S3.out.blk 2 rfl)) (fun hHeld => ?_)
  clear hK K
  refine norm_ (a' := ?_) ?_ ?_
  rotate_left
  · show Act.put _ (some 4) _ = _
    simp only [Act.put, List.setIfInBounds_toArray, List.set_cons_zero, List.set_cons_succ]
    rfl
  refine one_ (i := 3) (N := some 6) #[true, true, true, true, false, false] rfl rfl (by kernel_rfl) (by decide) (fun K hK => ?_)
  refine goes_ Try.func19 (by kernel_rfl) rfl #[cv p c] (by rfl) rfl rfl (by simp only [List.map_toArray, List.map_cons, List.map_nil] <;> rfl) ?_
  refine (HS.out _).mono ?_
  rintro e w4 ⟨⟨B2, m2, B3, m3, B4, m4, B5, m5⟩, rfl, hq, hb⟩
  refine ⟨_, rfl, ?_⟩
  have S4 := Aside0.mk (S3.out.ofRs hq hb)
  clear hq hb S3
  refine hK.out _ _ (blk5 (S4.out.blk 3 rfl)) (fun hHeld => ?_)
  clear hK K
  refine norm_ (a' := ?_) ?_ ?_
  rotate_left
  · show Act.put _ (some 6) _ = _
    simp only [Act.put, List.setIfInBounds_toArray, List.set_cons_zero, List.set_cons_succ]
    rfl
  refine pure_ (i := 4) (N := some 7) (v := ?_) (a' := ?_) #[true, true, true, true, true, false] rfl rfl (by kernel_rfl) (fun _ _ _ h => h) (Or.inl ⟨by rfl, ?_⟩) ?_ ?_
  rotate_left
  · intro w'
    go_simp
    with_reducible rfl
  rotate_left
  · simp only [Act.put, List.setIfInBounds_toArray, List.set_cons_zero, List.set_cons_succ]
    rfl
  obtain ⟨r0, z0⟩ := S4.out.cell 2 rfl 0 rfl
  obtain ⟨r1, z1⟩ := S4.out.cell 2 rfl 1 rfl
  obtain ⟨r2, z2⟩ := S4.out.cell 2 rfl 2 rfl
  obtain ⟨r3, z3⟩ := S4.out.cell 2 rfl 3 rfl
  obtain ⟨r4, z4⟩ := S4.out.cell 2 rfl 4 rfl
  obtain ⟨r5, z5⟩ := S4.out.cell 2 rfl 5 rfl
  obtain ⟨r6, z6⟩ := S4.out.cell 2 rfl 6 rfl
  obtain ⟨r7, z7⟩ := S4.out.cell 2 rfl 7 rfl
  obtain ⟨r8, z8⟩ := S4.out.cell 2 rfl 8 rfl
  obtain ⟨r9, z9⟩ := S4.out.cell 2 rfl 9 rfl
  obtain ⟨r10, z10⟩ := S4.out.cell 2 rfl 10 rfl
  obtain ⟨r11, z11⟩ := S4.out.cell 2 rfl 11 rfl
  have HW := Aside0.mk (S4.out.put12 2 rfl (.int .i64 c.f0) (.slice A1 c.f1.length k1) (.slice A2 c.f2.length k2) (.slice A3 c.f3.length k3) (.slice A4 c.f4.length k4) (.int .i64 l.f0) (.int .i64 l.f1) (.slice B2 l.f2.length m2) (.slice B3 l.f3.length m3) (.slice B4 l.f4.length m4) (.slice B5 l.f5.f0.length m5) (.int .i64 l.f5.f1))
  refine last_ (i := 5) (N := none) #[true, true, true, true, true, true] rfl rfl (by kernel_rfl) (by decide) (fun K hK => ?_)
  refine skip_ (w1 := ?_) (by rfl) rfl ?_ ?_
  rotate_left
  · go_simp
    rfl
  refine hK.out _ _ ?_
  clear hK K
  refine done_ (by kernel_rfl) ?_
  clear hHeld
  go_wp2
  refine bodyPost_ret (results_cell_row rfl _ _ (w.heap.size + 1) 35 (rvals ⟨A1, k1, A2, k2, A3, k3, A4, k4⟩ ⟨B2, m2, B3, m3, B4, m4, B5, m5⟩ ⟨c, l⟩) (0, 0) _ rfl (HW.out.blk 2 rfl) hu35 rfl (by kernel_rfl)) rfl ?_
  exact ⟨_, _, rfl, fun W hW => ⟨HW.out.told hW 1 rfl, HW.out.told hW 0 rfl⟩, HW.out.B⟩
/-- What Pass answers. -/
def pkPass (c : Circ) (k : Int) : Red × Int := if check c = 0 then if (pfOf c k).2 = 4 then (⟨c, idOf c⟩, 0) else pfOf c k else pfOf c k
set_option maxHeartbeats 4000000 in
set_option maxRecDepth 100000 in
theorem ref_Pass (p : CP) (c : Circ) (k : Int) (w : World) (h : RC w p c) (hs : c.Fits) :
    Calls Try.prog 13 #[cv p c, .int .i64 k] w fun e w' => RetRs w w' (pkPass c k).1 (pkPass c k).2 e := by
  have HO := Aside0.mk (fun W (hb : Below w.heap.size w W) => ref_Of p c k W (h.below hb) hs)
  have HV := Aside0.mk (fun W (hb : Below w.heap.size w W) => ref02_Check p c W (h.below hb) hs)
  have HA := Aside0.mk (fun (hck : check c = 0) W (hb : Below w.heap.size w W) => ref26_As p c W (h.below hb) hs hck)
  obtain ⟨⟨r, n⟩, hr⟩ : ∃ x, pfOf c k = x := ⟨_, rfl⟩
  rw [hr] at HO
  have HP := Aside0.mk (show pkPass c k = if check c = 0 then if n = 4 then (⟨c, idOf c⟩, 0) else (r, n) else (r, n) by unfold pkPass; rw [hr])
  obtain ⟨⟨R, N⟩, hR⟩ : ∃ x, pkPass c k = x := ⟨_, rfl⟩
  rw [hR] at HP ⊢
  dsimp only at HO ⊢
  have hu26 := Try.underlying26
  have hu33 := Try.underlying33
  have hu35 := Try.underlying35
  have S0 := Aside0.mk (((Parts.start w).new 26 (fc5 p c)).new 35 zCells)
  rw [show (w.alloc (.cells (fc5 p c) 26)).heap.size = w.heap.size + 1 by simp] at S0
  clear h hs hr hR
  go_enter Try.func13, Try.ntmps13
  go_wp2_with fail
  refine (HO.out _ S0.out.B).mono ?_
  rintro e w2 ⟨⟨A1, k1, A2, k2, A3, k3, A4, k4⟩, ⟨B2, m2, B3, m3, B4, m4, B5, m5⟩, rfl, hh2, hb2⟩
  go_upto_region 2 with (fail)
  have S2 := Aside0.mk ((S0.out.ofRs hh2 hb2).new 35 (rvals ⟨A1, k1, A2, k2, A3, k3, A4, k4⟩ ⟨B2, m2, B3, m3, B4, m4, B5, m5⟩ r))
  clear hh2 hb2 S0 HO
  generalize w2.heap.size = g7 at *
  generalize w2.alloc (.cells (rvals ⟨A1, k1, A2, k2, A3, k3, A4, k4⟩ ⟨B2, m2, B3, m3, B4, m4, B5, m5⟩ r) 35) = w3 at *
  by_cases hn : n = 4
  · have hnb : (n == 4) = true := beq_iff_eq.2 hn
    have HN := Aside0.mk hn
    clear hn
    obtain ⟨c0, c1, c2, c3, c4⟩ := blk5 (S2.out.blk 3 rfl)
    go_wp2_with fail
    refine (HV.out _ S2.out.B).mono ?_
    rintro e w4 ⟨rfl, hb4⟩
    have S4 := Aside0.mk (S2.out.below hb4)
    clear hb4 S2 c0 c1 c2 c3 c4
    by_cases hc : check c = 0
    · have hcb : (check c == 0) = true := beq_iff_eq.2 hc
      have HC := Aside0.mk hc
      have HE := Aside0.mk (show ((R, N) : Red × Int) = (⟨c, idOf c⟩, 0) by rw [HP.out, if_pos hc, if_pos HN.out])
      clear hc
      obtain ⟨c0, c1, c2, c3, c4⟩ := blk5 (S4.out.blk 3 rfl)
      have HX := Aside0.mk (HA.out HC.out)
      obtain ⟨l, hl⟩ : ∃ l, idOf c = l := ⟨_, rfl⟩
      rw [hl] at HX HE
      clear hl HA
      go_wp2_with fail
      refine (HX.out _ S4.out.B).mono ?_
      clear c0 c1 c2 c3 c4
      rintro e w5 ⟨⟨A1, k1, A2, k2, A3, k3, A4, k4⟩, ⟨B2, m2, B3, m3, B4, m4, B5, m5⟩, rfl, hh5, hb5⟩
      have S5 := Aside0.mk (S4.out.ofRs hh5 hb5)
      clear hh5 hb5 S4
      obtain ⟨r0, z0⟩ := S5.out.cell 3 rfl 0 rfl
      obtain ⟨r1, z1⟩ := S5.out.cell 3 rfl 1 rfl
      obtain ⟨r2, z2⟩ := S5.out.cell 3 rfl 2 rfl
      obtain ⟨r3, z3⟩ := S5.out.cell 3 rfl 3 rfl
      obtain ⟨r4, z4⟩ := S5.out.cell 3 rfl 4 rfl
      obtain ⟨r5, z5⟩ := S5.out.cell 3 rfl 5 rfl
      obtain ⟨r6, z6⟩ := S5.out.cell 3 rfl 6 rfl
      obtain ⟨r7, z7⟩ := S5.out.cell 3 rfl 7 rfl
      obtain ⟨r8, z8⟩ := S5.out.cell 3 rfl 8 rfl
      obtain ⟨r9, z9⟩ := S5.out.cell 3 rfl 9 rfl
      obtain ⟨r10, z10⟩ := S5.out.cell 3 rfl 10 rfl
      obtain ⟨r11, z11⟩ := S5.out.cell 3 rfl 11 rfl
      have HW := Aside0.mk (S5.out.put12 3 rfl (.int .i64 c.f0) (.slice A1 c.f1.length k1) (.slice A2 c.f2.length k2) (.slice A3 c.f3.length k3) (.slice A4 c.f4.length k4) (.int .i64 l.f0) (.int .i64 l.f1) (.slice B2 l.f2.length m2) (.slice B3 l.f3.length m3) (.slice B4 l.f4.length m4) (.slice B5 l.f5.f0.length m5) (.int .i64 l.f5.f1))
      go_wp2
      refine bodyPost_ret (results_ct rfl _ _ (w.heap.size + 1) 35 (rvals ⟨A1, k1, A2, k2, A3, k3, A4, k4⟩ ⟨B2, m2, B3, m3, B4, m4, B5, m5⟩ ⟨c, l⟩) (0, 0) _ rfl (HW.out.blk 3 rfl) hu35 rfl (by kernel_rfl)) rfl ?_
      obtain ⟨h1, h2⟩ := Prod.mk.inj HE.out
      subst h1 h2
      exact ⟨_, _, rfl, fun W hW => HW.out.told hW 0 rfl, HW.out.B⟩
    · have hcb : (check c == 0) = false := beq_eq_false_iff_ne.2 hc
      have HE := Aside0.mk (show ((R, N) : Red × Int) = (r, n) by rw [HP.out, if_neg hc])
      clear hc
      obtain ⟨r0, z0⟩ := S4.out.cell 2 rfl 0 rfl
      obtain ⟨r1, z1⟩ := S4.out.cell 2 rfl 1 rfl
      obtain ⟨r2, z2⟩ := S4.out.cell 2 rfl 2 rfl
      obtain ⟨r3, z3⟩ := S4.out.cell 2 rfl 3 rfl
      obtain ⟨r4, z4⟩ := S4.out.cell 2 rfl 4 rfl
      obtain ⟨r5, z5⟩ := S4.out.cell 2 rfl 5 rfl
      obtain ⟨r6, z6⟩ := S4.out.cell 2 rfl 6 rfl
      obtain ⟨r7, z7⟩ := S4.out.cell 2 rfl 7 rfl
      obtain ⟨r8, z8⟩ := S4.out.cell 2 rfl 8 rfl
      obtain ⟨r9, z9⟩ := S4.out.cell 2 rfl 9 rfl
      obtain ⟨r10, z10⟩ := S4.out.cell 2 rfl 10 rfl
      obtain ⟨r11, z11⟩ := S4.out.cell 2 rfl 11 rfl
      obtain ⟨x0, _⟩ := S4.out.cell 0 rfl 0 rfl
      obtain ⟨x1, _⟩ := S4.out.cell 0 rfl 1 rfl
      obtain ⟨x2, _⟩ := S4.out.cell 0 rfl 2 rfl
      obtain ⟨x3, _⟩ := S4.out.cell 0 rfl 3 rfl
      obtain ⟨x4, _⟩ := S4.out.cell 0 rfl 4 rfl
      obtain ⟨x5, _⟩ := S4.out.cell 0 rfl 5 rfl
      obtain ⟨x6, _⟩ := S4.out.cell 0 rfl 6 rfl
      obtain ⟨x7, _⟩ := S4.out.cell 0 rfl 7 rfl
      obtain ⟨x8, _⟩ := S4.out.cell 0 rfl 8 rfl
      obtain ⟨x9, _⟩ := S4.out.cell 0 rfl 9 rfl
      obtain ⟨x10, _⟩ := S4.out.cell 0 rfl 10 rfl
      obtain ⟨x11, _⟩ := S4.out.cell 0 rfl 11 rfl
      have HW := Aside0.mk (S4.out.put12 2 rfl (.int .i64 r.f0.f0) (.slice A1 r.f0.f1.length k1) (.slice A2 r.f0.f2.length k2) (.slice A3 r.f0.f3.length k3) (.slice A4 r.f0.f4.length k4) (.int .i64 r.f1.f0) (.int .i64 r.f1.f1) (.slice B2 r.f1.f2.length m2) (.slice B3 r.f1.f3.length m3) (.slice B4 r.f1.f4.length m4) (.slice B5 r.f1.f5.f0.length m5) (.int .i64 r.f1.f5.f1))
      go_wp2
      refine bodyPost_ret (results_ct rfl _ _ (w.heap.size + 1) 35 (rvals ⟨A1, k1, A2, k2, A3, k3, A4, k4⟩ ⟨B2, m2, B3, m3, B4, m4, B5, m5⟩ r) (0, 0) _ rfl (HW.out.blk 2 rfl) hu35 rfl (by kernel_rfl)) rfl ?_
      obtain ⟨h1, h2⟩ := Prod.mk.inj HE.out
      subst h1 h2
      exact ⟨_, _, rfl, fun W hW => HW.out.told hW 1 rfl, HW.out.B⟩
  · have hnb : (n == 4) = false := beq_eq_false_iff_ne.2 hn
    have HE := Aside0.mk (show ((R, N) : Red × Int) = (r, n) by rw [HP.out, if_neg hn]; split <;> rfl)
    clear hn
    obtain ⟨r0, z0⟩ := S2.out.cell 2 rfl 0 rfl
    obtain ⟨r1, z1⟩ := S2.out.cell 2 rfl 1 rfl
    obtain ⟨r2, z2⟩ := S2.out.cell 2 rfl 2 rfl
    obtain ⟨r3, z3⟩ := S2.out.cell 2 rfl 3 rfl
    obtain ⟨r4, z4⟩ := S2.out.cell 2 rfl 4 rfl
    obtain ⟨r5, z5⟩ := S2.out.cell 2 rfl 5 rfl
    obtain ⟨r6, z6⟩ := S2.out.cell 2 rfl 6 rfl
    obtain ⟨r7, z7⟩ := S2.out.cell 2 rfl 7 rfl
    obtain ⟨r8, z8⟩ := S2.out.cell 2 rfl 8 rfl
    obtain ⟨r9, z9⟩ := S2.out.cell 2 rfl 9 rfl
    obtain ⟨r10, z10⟩ := S2.out.cell 2 rfl 10 rfl
    obtain ⟨r11, z11⟩ := S2.out.cell 2 rfl 11 rfl
    obtain ⟨x0, _⟩ := S2.out.cell 0 rfl 0 rfl
    obtain ⟨x1, _⟩ := S2.out.cell 0 rfl 1 rfl
    obtain ⟨x2, _⟩ := S2.out.cell 0 rfl 2 rfl
    obtain ⟨x3, _⟩ := S2.out.cell 0 rfl 3 rfl
    obtain ⟨x4, _⟩ := S2.out.cell 0 rfl 4 rfl
    obtain ⟨x5, _⟩ := S2.out.cell 0 rfl 5 rfl
    obtain ⟨x6, _⟩ := S2.out.cell 0 rfl 6 rfl
    obtain ⟨x7, _⟩ := S2.out.cell 0 rfl 7 rfl
    obtain ⟨x8, _⟩ := S2.out.cell 0 rfl 8 rfl
    obtain ⟨x9, _⟩ := S2.out.cell 0 rfl 9 rfl
    obtain ⟨x10, _⟩ := S2.out.cell 0 rfl 10 rfl
    obtain ⟨x11, _⟩ := S2.out.cell 0 rfl 11 rfl
    have HW := Aside0.mk (S2.out.put12 2 rfl (.int .i64 r.f0.f0) (.slice A1 r.f0.f1.length k1) (.slice A2 r.f0.f2.length k2) (.slice A3 r.f0.f3.length k3) (.slice A4 r.f0.f4.length k4) (.int .i64 r.f1.f0) (.int .i64 r.f1.f1) (.slice B2 r.f1.f2.length m2) (.slice B3 r.f1.f3.length m3) (.slice B4 r.f1.f4.length m4) (.slice B5 r.f1.f5.f0.length m5) (.int .i64 r.f1.f5.f1))
    go_wp2
    refine bodyPost_ret (results_ct rfl _ _ (w.heap.size + 1) 35 (rvals ⟨A1, k1, A2, k2, A3, k3, A4, k4⟩ ⟨B2, m2, B3, m3, B4, m4, B5, m5⟩ r) (0, 0) _ rfl (HW.out.blk 2 rfl) hu35 rfl (by kernel_rfl)) rfl ?_
    obtain ⟨h1, h2⟩ := Prod.mk.inj HE.out
    subst h1 h2
    exact ⟨_, _, rfl, fun W hW => HW.out.told hW 1 rfl, HW.out.B⟩
set_option maxHeartbeats 4000000 in
set_option maxRecDepth 100000 in
theorem pk_Pass_bad (p : CP) (c : Circ) (k : Int) (w : World) (h : RC w p c) (hs : c.Fits) (hck : check c ≠ 0) :
    Calls Try.prog 12 #[cv p c, .int .i64 k] w fun e w' => RetRs w w' zeroRd (check c) e := by
  have HV := Aside0.mk (fun W (hb : Below w.heap.size w W) => gates_Check p c W (h.below hb) hs)
  have c1 : (check c != 0) = true := bne_iff_ne.mpr hck
  have hu26 := Try.underlying26
  have hu33 := Try.underlying33
  have hu35 := Try.underlying35
  have S0 := Aside0.mk (((Parts.start w).new 26 (fc5 p c)).new 35 zCells)
  rw [show (w.alloc (.cells (fc5 p c) 26)).heap.size = w.heap.size + 1 by simp] at S0
  go_enter Try.func12, Try.ntmps12
  go_wp2_with fail
  refine (HV.out _ S0.out.B).mono ?_
  rintro e w1 ⟨rfl, hb1⟩
  have S1 := Aside0.mk (S0.out.below hb1)
  clear hb1
  have HW := Aside0.mk (S1.out.put12 0 rfl (.int .i64 0) (.slice none 0 0) (.slice none 0 0) (.slice none 0 0) (.slice none 0 0) (.int .i64 0) (.int .i64 0) (.slice none 0 0) (.slice none 0 0) (.slice none 0 0) (.slice none 0 0) (.int .i64 0))
  obtain ⟨r0, z0⟩ := S1.out.cell 0 rfl 0 rfl
  obtain ⟨r1, z1⟩ := S1.out.cell 0 rfl 1 rfl
  obtain ⟨r2, z2⟩ := S1.out.cell 0 rfl 2 rfl
  obtain ⟨r3, z3⟩ := S1.out.cell 0 rfl 3 rfl
  obtain ⟨r4, z4⟩ := S1.out.cell 0 rfl 4 rfl
  obtain ⟨r5, z5⟩ := S1.out.cell 0 rfl 5 rfl
  obtain ⟨r6, z6⟩ := S1.out.cell 0 rfl 6 rfl
  obtain ⟨r7, z7⟩ := S1.out.cell 0 rfl 7 rfl
  obtain ⟨r8, z8⟩ := S1.out.cell 0 rfl 8 rfl
  obtain ⟨r9, z9⟩ := S1.out.cell 0 rfl 9 rfl
  obtain ⟨r10, z10⟩ := S1.out.cell 0 rfl 10 rfl
  obtain ⟨r11, z11⟩ := S1.out.cell 0 rfl 11 rfl
  go_wp2
  refine bodyPost_ret (results_ct rfl _ _ (w.heap.size + 1) 35 zCells (0, 0) _ rfl (HW.out.blk 0 rfl) hu35 rfl (by kernel_rfl)) rfl ?_
  exact ⟨⟨none, 0, none, 0, none, 0, none, 0⟩, ⟨none, 0, none, 0, none, 0, none, 0⟩, rfl, fun W hW => ⟨⟨RS.nil _ _ _, RS.nil _ _ _, RS.nil _ _ _, RS.nil _ _ _⟩, ⟨RS.nil _ _ _, RS.nil _ _ _, RS.nil _ _ _, RS.nil _ _ _⟩⟩, HW.out.B⟩
set_option maxHeartbeats 4000000 in
set_option maxRecDepth 100000 in
theorem pk_Pass_ok (p : CP) (c : Circ) (k : Int) (w : World) (h : RC w p c) (hs : c.Fits) (hck : check c = 0) :
    Calls Try.prog 12 #[cv p c, .int .i64 k] w fun e w' => RetRs w w' (pkPass c k).1 (pkPass c k).2 e := by
  have HV := Aside0.mk (fun W (hb : Below w.heap.size w W) => gates_Check p c W (h.below hb) hs)
  have HO := Aside0.mk (fun W (hb : Below w.heap.size w W) => prefix_Of p c k W (h.below hb) hs)
  have HI := Aside0.mk (fun W (hb : Below w.heap.size w W) => lift_Identity_s p c W (h.below hb) hs hck)
  have hbn := cbnd_of hck
  have HT := Aside0.mk (fun W (hB : Below w.heap.size w W) => pk_copied p c W (h.below hB) (by have := hbn.n; omega) (by have := hbn.n; omega) (by have := hbn.b; omega) (by have := hbn.k; omega))
  have HC := Aside0.mk hck
  obtain ⟨⟨r, n⟩, hr⟩ : ∃ x, pfOf c k = x := ⟨_, rfl⟩
  rw [hr] at HO
  have HP := Aside0.mk (show pkPass c k = if n = 4 then (⟨c, idOf c⟩, 0) else (r, n) by unfold pkPass; rw [hr, if_pos hck])
  obtain ⟨⟨R, N⟩, hR⟩ : ∃ x, pkPass c k = x := ⟨_, rfl⟩
  rw [hR] at HP ⊢
  obtain ⟨l, hl⟩ : ∃ l, idOf c = l := ⟨_, rfl⟩
  rw [hl] at HI HP
  dsimp only at HO ⊢
  have hu26 := Try.underlying26
  have hu33 := Try.underlying33
  have hu35 := Try.underlying35
  have S0 := Aside0.mk (((Parts.start w).new 26 (fc5 p c)).new 35 zCells)
  rw [show (w.alloc (.cells (fc5 p c) 26)).heap.size = w.heap.size + 1 by simp] at S0
  clear h hs hr hR hl hck hbn
  go_enter Try.func12, Try.ntmps12
  go_wp2_with fail
  refine (HV.out _ S0.out.B).mono ?_
  rintro e w1 ⟨rfl, hb1⟩
  rw [HC.out]
  have S1 := Aside0.mk (S0.out.below hb1)
  clear hb1 S0
  obtain ⟨c0, c1, c2, c3, c4⟩ := blk5 (S1.out.blk 1 rfl)
  go_wp2_with fail
  refine (HO.out _ S1.out.B).mono ?_
  rintro e w2 ⟨⟨A1, k1, A2, k2, A3, k3, A4, k4⟩, ⟨B2, m2, B3, m3, B4, m4, B5, m5⟩, rfl, hh2, hb2⟩
  clear c0 c1 c2 c3 c4
  go_upto_region 5 with (fail)
  have S2 := Aside0.mk ((S1.out.ofRs hh2 hb2).new 35 (rvals ⟨A1, k1, A2, k2, A3, k3, A4, k4⟩ ⟨B2, m2, B3, m3, B4, m4, B5, m5⟩ r))
  clear hh2 hb2 S1 HO
  generalize w2.heap.size = g7 at *
  generalize w2.alloc (.cells (rvals ⟨A1, k1, A2, k2, A3, k3, A4, k4⟩ ⟨B2, m2, B3, m3, B4, m4, B5, m5⟩ r) 35) = w3 at *
  by_cases hn : n = 4
  · have hnb : (n == 4) = true := beq_iff_eq.2 hn
    have HE := Aside0.mk (show ((R, N) : Red × Int) = (⟨c, l⟩, 0) by rw [HP.out, if_pos hn])
    clear hn
    obtain ⟨c0, c1, c2, c3, c4⟩ := blk5 (S2.out.blk 3 rfl)
    go_wp2_with fail
    refine (HI.out _ S2.out.B).mono ?_
    clear c0 c1 c2 c3 c4
    rintro e w4 ⟨⟨B2, m2, B3, m3, B4, m4, B5, m5⟩, rfl, hh4, hb4⟩
    go_upto_region 7 with (fail)
    have S4 := Aside0.mk ((S2.out.ofRs hh4 hb4).new 33 (lvals ⟨B2, m2, B3, m3, B4, m4, B5, m5⟩ l))
    clear hh4 hb4 S2 HI
    generalize w4.heap.size = gU at *
    generalize w4.alloc (.cells (lvals ⟨B2, m2, B3, m3, B4, m4, B5, m5⟩ l) 33) = w5 at *
    refine start_ (n := 6) (S := (fun w' : World => w'.cell? ⟨w.heap.size, 0, none⟩ = some (.int .i64 c.f0) ∧ w'.cell? ⟨w.heap.size, 1, none⟩ = some (.slice p.A1 c.f1.length p.c1) ∧ w'.cell? ⟨w.heap.size, 2, none⟩ = some (.slice p.A2 c.f2.length p.c2) ∧ w'.cell? ⟨w.heap.size, 3, none⟩ = some (.slice p.A3 c.f3.length p.c3) ∧ w'.cell? ⟨w.heap.size, 4, none⟩ = some (.slice p.A4 c.f4.length p.c4) ∧ w'.cell? ⟨gU, 0, none⟩ = some (.int .i64 l.f0) ∧ w'.cell? ⟨gU, 1, none⟩ = some (.int .i64 l.f1) ∧ w'.cell? ⟨gU, 2, none⟩ = some (.slice B2 l.f2.length m2) ∧ w'.cell? ⟨gU, 3, none⟩ = some (.slice B3 l.f3.length m3) ∧ w'.cell? ⟨gU, 4, none⟩ = some (.slice B4 l.f4.length m4) ∧ w'.cell? ⟨gU, 5, none⟩ = some (.slice B5 l.f5.f0.length m5) ∧ w'.cell? ⟨gU, 6, none⟩ = some (.int .i64 l.f5.f1))) (ds := []) #[false, false, false, false, false, false] (by kernel_rfl) rfl rfl (by obtain ⟨a0, a1, a2, a3, a4⟩ := blk5 (S4.out.blk 5 rfl); obtain ⟨⟨b0, b1, b2, b3, b4, b5, b6⟩, _⟩ := blk7 (S4.out.blk 0 rfl); exact ⟨a0, a1, a2, a3, a4, b0, b1, b2, b3, b4, b5, b6⟩) (fun hHeld => ?_)
    have S5 := Aside0.mk S4.out.drew
    clear S4
    generalize w5.drew = w6 at *
    refine take_ (i := 0) (N := some 30) (v := ?_) (a' := ?_) #[true, false, false, false, false, false] rfl rfl (by kernel_rfl) (fun _ _ _ h => h) (Or.inl ⟨by rfl, ?_⟩) hHeld ?_ ?_
    rotate_left
    · rintro w' ⟨s0, s1, s2, s3, s4, s5, s6, s7, s8, s9, s10, s11⟩
      go_simp
      with_reducible rfl
    rotate_left
    · simp only [Act.put, List.setIfInBounds_toArray, List.set_cons_zero, List.set_cons_succ]
      rfl
    refine take_ (i := 2) (N := some 32) (v := ?_) (a' := ?_) #[true, false, true, false, false, false] rfl rfl (by kernel_rfl) (fun _ _ _ h => h) (Or.inl ⟨by rfl, ?_⟩) hHeld ?_ ?_
    rotate_left
    · rintro w' ⟨s0, s1, s2, s3, s4, s5, s6, s7, s8, s9, s10, s11⟩
      go_simp
      with_reducible rfl
    rotate_left
    · simp only [Act.put, List.setIfInBounds_toArray, List.set_cons_zero, List.set_cons_succ]
      rfl
    refine one_ (i := 1) (N := some 31) #[true, true, true, false, false, false] rfl rfl (by kernel_rfl) (by decide) (fun K hK => ?_)
    refine goes_ Try.func44 (by kernel_rfl) rfl #[cv p c] (by rfl) rfl rfl (by simp only [List.map_toArray, List.map_cons, List.map_nil] <;> rfl) ?_
    refine (HT.out _ S5.out.B).mono ?_
    rintro e w7 ⟨⟨A1, k1, A2, k2, A3, k3, A4, k4⟩, rfl, hr, hb⟩
    refine ⟨_, rfl, ?_⟩
    have S7 := Aside0.mk (S5.out.ofRs (P := fun W => RC W ⟨A1, k1, A2, k2, A3, k3, A4, k4⟩ c) (fun W hW => hr.held hW) hb)
    clear hr hb S5
    refine hK.out _ _ (by obtain ⟨a0, a1, a2, a3, a4⟩ := blk5 (S7.out.blk 6 rfl); obtain ⟨⟨b0, b1, b2, b3, b4, b5, b6⟩, _⟩ := blk7 (S7.out.blk 1 rfl); exact ⟨a0, a1, a2, a3, a4, b0, b1, b2, b3, b4, b5, b6⟩) (fun hHeld => ?_)
    clear hK K
    refine norm_ (a' := ?_) ?_ ?_
    rotate_left
    · show Act.put _ (some 31) _ = _
      simp only [Act.put, List.setIfInBounds_toArray, List.set_cons_zero, List.set_cons_succ]
      rfl
    refine pure_ (i := 3) (N := some 33) (v := ?_) (a' := ?_) #[true, true, true, true, false, false] rfl rfl (by kernel_rfl) (fun _ _ _ h => h) (Or.inl ⟨by rfl, ?_⟩) ?_ ?_
    rotate_left
    · intro w'
      go_simp
      with_reducible rfl
    rotate_left
    · simp only [Act.put, List.setIfInBounds_toArray, List.set_cons_zero, List.set_cons_succ]
      rfl
    obtain ⟨r0, z0⟩ := S7.out.cell 5 rfl 0 rfl
    obtain ⟨r1, z1⟩ := S7.out.cell 5 rfl 1 rfl
    obtain ⟨r2, z2⟩ := S7.out.cell 5 rfl 2 rfl
    obtain ⟨r3, z3⟩ := S7.out.cell 5 rfl 3 rfl
    obtain ⟨r4, z4⟩ := S7.out.cell 5 rfl 4 rfl
    obtain ⟨r5, z5⟩ := S7.out.cell 5 rfl 5 rfl
    obtain ⟨r6, z6⟩ := S7.out.cell 5 rfl 6 rfl
    obtain ⟨r7, z7⟩ := S7.out.cell 5 rfl 7 rfl
    obtain ⟨r8, z8⟩ := S7.out.cell 5 rfl 8 rfl
    obtain ⟨r9, z9⟩ := S7.out.cell 5 rfl 9 rfl
    obtain ⟨r10, z10⟩ := S7.out.cell 5 rfl 10 rfl
    obtain ⟨r11, z11⟩ := S7.out.cell 5 rfl 11 rfl
    have HW := Aside0.mk (S7.out.put12 5 rfl (.int .i64 c.f0) (.slice A1 c.f1.length k1) (.slice A2 c.f2.length k2) (.slice A3 c.f3.length k3) (.slice A4 c.f4.length k4) (.int .i64 l.f0) (.int .i64 l.f1) (.slice B2 l.f2.length m2) (.slice B3 l.f3.length m3) (.slice B4 l.f4.length m4) (.slice B5 l.f5.f0.length m5) (.int .i64 l.f5.f1))
    refine one_ (i := 4) (N := none) #[true, true, true, true, true, false] rfl rfl (by kernel_rfl) (by decide) (fun K hK => ?_)
    refine skip_ (w1 := ?_) (by rfl) rfl ?_ ?_
    rotate_left
    · go_simp
      rfl
    refine hK.out _ _ (by obtain ⟨a0, a1, a2, a3, a4⟩ := blk5 (HW.out.blk 6 rfl); obtain ⟨⟨b0, b1, b2, b3, b4, b5, b6⟩, _⟩ := blk7 (HW.out.blk 1 rfl); exact ⟨a0, a1, a2, a3, a4, b0, b1, b2, b3, b4, b5, b6⟩) (fun hHeld => ?_)
    clear hK K
    refine pure_ (i := 5) (N := some 5) (v := ?_) (a' := ?_) #[true, true, true, true, true, true] rfl rfl (by kernel_rfl) (fun _ _ _ h => h) (Or.inl ⟨by rfl, ?_⟩) ?_ ?_
    rotate_left
    · intro w'
      go_simp
      with_reducible rfl
    rotate_left
    · simp only [Act.put, List.setIfInBounds_toArray, List.set_cons_zero, List.set_cons_succ]
      rfl
    refine done_ (by kernel_rfl) ?_
    clear hHeld
    go_wp2
    refine bodyPost_ret (results_ct rfl _ _ (w.heap.size + 1) 35 (rvals ⟨A1, k1, A2, k2, A3, k3, A4, k4⟩ ⟨B2, m2, B3, m3, B4, m4, B5, m5⟩ ⟨c, l⟩) (0, 0) _ rfl (HW.out.blk 5 rfl) hu35 rfl (by kernel_rfl)) rfl ?_
    obtain ⟨h1, h2⟩ := Prod.mk.inj HE.out
    subst h1 h2
    exact ⟨_, _, rfl, fun W hW => ⟨HW.out.told hW 0 rfl, HW.out.told hW 2 rfl⟩, HW.out.B⟩
  · have hnb : (n == 4) = false := beq_eq_false_iff_ne.2 hn
    have HE := Aside0.mk (show ((R, N) : Red × Int) = (r, n) by rw [HP.out, if_neg hn])
    clear hn
    obtain ⟨r0, z0⟩ := S2.out.cell 2 rfl 0 rfl
    obtain ⟨r1, z1⟩ := S2.out.cell 2 rfl 1 rfl
    obtain ⟨r2, z2⟩ := S2.out.cell 2 rfl 2 rfl
    obtain ⟨r3, z3⟩ := S2.out.cell 2 rfl 3 rfl
    obtain ⟨r4, z4⟩ := S2.out.cell 2 rfl 4 rfl
    obtain ⟨r5, z5⟩ := S2.out.cell 2 rfl 5 rfl
    obtain ⟨r6, z6⟩ := S2.out.cell 2 rfl 6 rfl
    obtain ⟨r7, z7⟩ := S2.out.cell 2 rfl 7 rfl
    obtain ⟨r8, z8⟩ := S2.out.cell 2 rfl 8 rfl
    obtain ⟨r9, z9⟩ := S2.out.cell 2 rfl 9 rfl
    obtain ⟨r10, z10⟩ := S2.out.cell 2 rfl 10 rfl
    obtain ⟨r11, z11⟩ := S2.out.cell 2 rfl 11 rfl
    obtain ⟨x0, _⟩ := S2.out.cell 0 rfl 0 rfl
    obtain ⟨x1, _⟩ := S2.out.cell 0 rfl 1 rfl
    obtain ⟨x2, _⟩ := S2.out.cell 0 rfl 2 rfl
    obtain ⟨x3, _⟩ := S2.out.cell 0 rfl 3 rfl
    obtain ⟨x4, _⟩ := S2.out.cell 0 rfl 4 rfl
    obtain ⟨x5, _⟩ := S2.out.cell 0 rfl 5 rfl
    obtain ⟨x6, _⟩ := S2.out.cell 0 rfl 6 rfl
    obtain ⟨x7, _⟩ := S2.out.cell 0 rfl 7 rfl
    obtain ⟨x8, _⟩ := S2.out.cell 0 rfl 8 rfl
    obtain ⟨x9, _⟩ := S2.out.cell 0 rfl 9 rfl
    obtain ⟨x10, _⟩ := S2.out.cell 0 rfl 10 rfl
    obtain ⟨x11, _⟩ := S2.out.cell 0 rfl 11 rfl
    have HW := Aside0.mk (S2.out.put12 2 rfl (.int .i64 r.f0.f0) (.slice A1 r.f0.f1.length k1) (.slice A2 r.f0.f2.length k2) (.slice A3 r.f0.f3.length k3) (.slice A4 r.f0.f4.length k4) (.int .i64 r.f1.f0) (.int .i64 r.f1.f1) (.slice B2 r.f1.f2.length m2) (.slice B3 r.f1.f3.length m3) (.slice B4 r.f1.f4.length m4) (.slice B5 r.f1.f5.f0.length m5) (.int .i64 r.f1.f5.f1))
    go_wp2
    refine bodyPost_ret (results_ct rfl _ _ (w.heap.size + 1) 35 (rvals ⟨A1, k1, A2, k2, A3, k3, A4, k4⟩ ⟨B2, m2, B3, m3, B4, m4, B5, m5⟩ r) (0, 0) _ rfl (HW.out.blk 2 rfl) hu35 rfl (by kernel_rfl)) rfl ?_
    obtain ⟨h1, h2⟩ := Prod.mk.inj HE.out
    subst h1 h2
    exact ⟨_, _, rfl, fun W hW => HW.out.told hW 1 rfl, HW.out.B⟩
theorem pk_Pass (p : CP) (c : Circ) (k : Int) (w : World) (h : RC w p c) (hs : c.Fits) :
    Calls Try.prog 12 #[cv p c, .int .i64 k] w fun e w' => RetRs w w' (pkPass c k).1 (pkPass c k).2 e := by
  by_cases hc : check c = 0
  · exact pk_Pass_ok p c k w h hs hc
  · rw [show pkPass c k = (zeroRd, check c) by unfold pkPass; rw [if_neg hc]; unfold pfOf; rw [if_neg hc]]
    exact pk_Pass_bad p c k w h hs hc
end Go.Proofs.Ytpoadkogcdfglaa.PH
