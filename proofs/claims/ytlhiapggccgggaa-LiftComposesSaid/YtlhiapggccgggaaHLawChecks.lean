/- The law LiftChecks: its function answers true. -/
import Derived.Test.YtlhiapggccgggaaHVar
import Derived.Test.YtlhiapggccgggaaHIdRef
import Derived.Test.YtlhiapggccgggaaHOpen
namespace Go.Proofs.Ytlhiapggccgggaa.PH
open Go.RowKit Go.Proofs.YtlhiapggccgggaaW.PrintWords Go.Proofs.YtlhiapggccgggaaW.PrintLast
set_option linter.unusedVariables false
set_option linter.unusedSimpArgs false

theorem Circ.Nums.fits {c : Circ} (h : c.Nums) (hg : great c = false) : c.Fits := by
  unfold great at hg
  simp only [Bool.or_eq_false_iff, decide_eq_false_iff_not] at hg
  exact ⟨by omega, by omega, h.i0, h.i1, h.i2, h.i3, h.i4⟩
theorem Lf.Nums.fits {l : Lf} (h : l.Nums) (hs : smallL l) : l.Fits := ⟨⟨by have := hs.2.2.2; omega, h.ig, h.il⟩, h.i0, h.i1, h.i2, h.i3, h.i4⟩
set_option maxHeartbeats 8000000 in
set_option maxRecDepth 100000 in
theorem law_LiftChecks (p : CP) (fr : Circ) (q : CP) (tc : Circ) (r : LP) (l : Lf) (w : World) (hp : RC w p fr) (hq : RC w q tc) (hr : RL w r l) (nf : fr.Nums) (nt : tc.Nums) (nl : l.Nums) :
    Calls Try.prog 3 #[cv p fr, cv q tc, lv r l] w fun e w' => e = .returned (.bool true) ∧ Below w.heap.size w w' := by
  have HP := Aside0.mk hp
  have HQ := Aside0.mk hq
  have HR := Aside0.mk hr
  have F0 := Aside0.mk (FitBoxes.new (w := w) (p := p) (q := q) (fr := fr) (tc := tc) (r := r) (l := l) (t1 := 26) (t2 := 26) (t3 := 31))
  have hu26 := Try.underlying26
  have hu31 := Try.underlying31
  have HNF := Aside0.mk nf
  have HNT := Aside0.mk nt
  have HNL := Aside0.mk nl
  clear hp hq hr nf nt nl
  obtain ⟨o, ho⟩ : ∃ o, [fr, tc].any great = o := ⟨_, rfl⟩
  have HO := Aside0.mk ho
  clear ho
  go_enter Try.func3, Try.ntmps3
  go_wp2_with fail
  refine (law25_great (some ⟨w.heap.size + 1 + 1 + 1, 0, none⟩) 2 [fr, tc] _ ?g1).mono ?_
  case g1 => exact RS.two_circ (p := p) (q := q) (HP.out.below (below_alloc F0.out.b _)) (HQ.out.below (below_alloc F0.out.b _)) (fun j u hj => by rw [World.cell?_alloc_at _ _ _ _ (by simp)]; simpa using hj)
  rintro e w1 ⟨rfl, hb1⟩
  have F1 := Aside0.mk (F0.out.below (below_then (below_alloc (Below.refl _ _) _) (by simp) hb1))
  clear hb1
  rw [HO.out]
  obtain ⟨r0, r1, r2, r3, r4, r5, r6⟩ := F1.out.l
  cases o with
  | true =>
    go_wp2
    go_ret
    exact ⟨rfl, F1.out.b⟩
  | false =>
    have hg : great fr = false ∧ great tc = false := by
      have := HO.out
      simpa using this
    have HFF := Aside0.mk (HNF.out.fits hg.1)
    have HFT := Aside0.mk (HNT.out.fits hg.2)
    clear hg
    go_wp2_with fail
    refine (ref25_GreatLift r l _ (HR.out.below F1.out.b)).mono ?_
    rintro e w2 ⟨b, rfl, hb, hb2⟩
    have HSM := Aside0.mk hb
    have F2 := Aside0.mk (F1.out.below hb2)
    clear hb hb2 r0 r1 r2 r3 r4 r5 r6
    cases b with
    | true =>
      go_wp2
      go_ret
      exact ⟨rfl, F2.out.b⟩
    | false =>
      have HFL := Aside0.mk (HNL.out.fits (HSM.out rfl))
      clear HSM
      obtain ⟨f0, f1, f2, f3, f4⟩ := F2.out.f
      go_wp2_with fail
      refine (lift_Identity p fr _ (HP.out.below F2.out.b) HFF.out).mono ?_
      rintro e w3 ⟨pa, rfl, ha, hb3⟩
      have F3 := Aside0.mk (F2.out.below hb3)
      have HA := Aside0.mk ha
      clear ha hb3 f0 f1 f2 f3 f4
      obtain ⟨f0, f1, f2, f3, f4⟩ := (F3.out.below (below_alloc (Below.refl _ _) (.cells #[.int .i64 (identity fr).f0, .int .i64 (identity fr).f1, .slice pa.A2 (identity fr).f2.length pa.c2, .slice pa.A3 (identity fr).f3.length pa.c3, .slice pa.A4 (identity fr).f4.length pa.c4, .slice pa.A5 (identity fr).f5.f0.length pa.c5, .int .i64 (identity fr).f5.f1] 31))).f
      go_wp2_with fail
      refine (ref25_Identity p fr _ (HP.out.below (below_alloc F3.out.b _)) HFF.out).mono ?_
      rintro e w4 ⟨pb, rfl, hb, hb4⟩
      have HB := Aside0.mk hb
      have HAB := Aside0.mk (HA.out.below (below_then (below_alloc (Below.refl _ _) _) (by simp) hb4))
      have F4 := Aside0.mk (F3.out.below (below_then (below_alloc (Below.refl _ _) _) (by simp) hb4))
      have G7 := Aside0.mk ((Box7.new w3 (.int .i64 (identity fr).f0) (.int .i64 (identity fr).f1) (.slice pa.A2 (identity fr).f2.length pa.c2) (.slice pa.A3 (identity fr).f3.length pa.c3) (.slice pa.A4 (identity fr).f4.length pa.c4) (.slice pa.A5 (identity fr).f5.f0.length pa.c5) (.int .i64 (identity fr).f5.f1) 31).below hb4)
      clear hb hb4 f0 f1 f2 f3 f4
      have F5 := Aside0.mk (F4.out.below (below_alloc (Below.refl _ _) (.cells #[.int .i64 (identity fr).f0, .int .i64 (identity fr).f1, .slice pb.A2 (identity fr).f2.length pb.c2, .slice pb.A3 (identity fr).f3.length pb.c3, .slice pb.A4 (identity fr).f4.length pb.c4, .slice pb.A5 (identity fr).f5.f0.length pb.c5, .int .i64 (identity fr).f5.f1] 31)))
      have G75 := Aside0.mk (G7.out.below (below_alloc (Below.refl _ _) (.cells #[.int .i64 (identity fr).f0, .int .i64 (identity fr).f1, .slice pb.A2 (identity fr).f2.length pb.c2, .slice pb.A3 (identity fr).f3.length pb.c3, .slice pb.A4 (identity fr).f4.length pb.c4, .slice pb.A5 (identity fr).f5.f0.length pb.c5, .int .i64 (identity fr).f5.f1] 31)))
      have G95 := Aside0.mk (Box7.new w4 (.int .i64 (identity fr).f0) (.int .i64 (identity fr).f1) (.slice pb.A2 (identity fr).f2.length pb.c2) (.slice pb.A3 (identity fr).f3.length pb.c3) (.slice pb.A4 (identity fr).f4.length pb.c4) (.slice pb.A5 (identity fr).f5.f0.length pb.c5) (.int .i64 (identity fr).f5.f1) 31)
      have HA5 := Aside0.mk (HAB.out.below (below_alloc (Below.refl _ _) (.cells #[.int .i64 (identity fr).f0, .int .i64 (identity fr).f1, .slice pb.A2 (identity fr).f2.length pb.c2, .slice pb.A3 (identity fr).f3.length pb.c3, .slice pb.A4 (identity fr).f4.length pb.c4, .slice pb.A5 (identity fr).f5.f0.length pb.c5, .int .i64 (identity fr).f5.f1] 31)))
      have HB5 := Aside0.mk (HB.out.below (below_alloc (Below.refl _ _) (.cells #[.int .i64 (identity fr).f0, .int .i64 (identity fr).f1, .slice pb.A2 (identity fr).f2.length pb.c2, .slice pb.A3 (identity fr).f3.length pb.c3, .slice pb.A4 (identity fr).f4.length pb.c4, .slice pb.A5 (identity fr).f5.f0.length pb.c5, .int .i64 (identity fr).f5.f1] 31)))
      clear F0 F1 F2 F3 F4 G7 HA HAB HB
      go_wp2
      generalize w4.alloc (.cells #[.int .i64 (identity fr).f0, .int .i64 (identity fr).f1, .slice pb.A2 (identity fr).f2.length pb.c2, .slice pb.A3 (identity fr).f3.length pb.c3, .slice pb.A4 (identity fr).f4.length pb.c4, .slice pb.A5 (identity fr).f5.f0.length pb.c5, .int .i64 (identity fr).f5.f1] 31) = w5 at *
      generalize w4.heap.size = g9 at *
      generalize w3.heap.size = g7 at *
      refine start_ (n := 20) (S := (fun w' => FitBoxes w w' p q fr tc r l ∧ Box7 w' g7 (.int .i64 (identity fr).f0) (.int .i64 (identity fr).f1) (.slice pa.A2 (identity fr).f2.length pa.c2) (.slice pa.A3 (identity fr).f3.length pa.c3) (.slice pa.A4 (identity fr).f4.length pa.c4) (.slice pa.A5 (identity fr).f5.f0.length pa.c5) (.int .i64 (identity fr).f5.f1) ∧ Box7 w' g9 (.int .i64 (identity fr).f0) (.int .i64 (identity fr).f1) (.slice pb.A2 (identity fr).f2.length pb.c2) (.slice pb.A3 (identity fr).f3.length pb.c3) (.slice pb.A4 (identity fr).f4.length pb.c4) (.slice pb.A5 (identity fr).f5.f0.length pb.c5) (.int .i64 (identity fr).f5.f1))) (ds := []) #[false, false, false, false, false, false, false, false, false, false, false, false, false, false, false, false, false, false, false, false] (by kernel_rfl) rfl rfl ⟨F5.out.below (below_drew (Below.refl _ _)), G75.out.below (below_drew (Below.refl _ _)), G95.out.below (below_drew (Below.refl _ _))⟩ (fun hHeld => ?_)
      refine take_ (i := 0) (N := some 29) (v := ?_) (a' := ?_) #[true, false, false, false, false, false, false, false, false, false, false, false, false, false, false, false, false, false, false, false] rfl rfl (by kernel_rfl) (fun _ _ _ h => h) (Or.inl ⟨by rfl, ?_⟩) hHeld ?_ ?_
      rotate_left
      · intro w' s0
        obtain ⟨s0, s1, s2, s3, s4, s5, s6⟩ := s0.2.1
        go_simp
        with_reducible rfl
      rotate_left
      · simp only [Act.put, List.setIfInBounds_toArray, List.set_cons_zero, List.set_cons_succ]
        rfl
      refine take_ (i := 1) (N := some 30) (v := ?_) (a' := ?_) #[true, true, false, false, false, false, false, false, false, false, false, false, false, false, false, false, false, false, false, false] rfl rfl (by kernel_rfl) (fun _ _ _ h => h) (Or.inl ⟨by rfl, ?_⟩) hHeld ?_ ?_
      rotate_left
      · intro w' s0
        obtain ⟨s0, s1, s2, s3, s4, s5, s6⟩ := s0.2.2
        go_simp
        with_reducible rfl
      rotate_left
      · simp only [Act.put, List.setIfInBounds_toArray, List.set_cons_zero, List.set_cons_succ]
        rfl
      refine one_ (i := 2) (N := some 31) #[true, true, true, false, false, false, false, false, false, false, false, false, false, false, false, false, false, false, false, false] rfl rfl (by kernel_rfl) (by decide) (fun K hK => ?_)
      refine goes_ Try.func14 (by kernel_rfl) rfl #[lv pa (identity fr), lv pb (identity fr)] (by rfl) rfl rfl (by simp only [List.map_toArray, List.map_cons, List.map_nil] <;> rfl) ?_
      refine (ref25_SameLift pa pb (identity fr) (identity fr) _ (HA5.out.below (below_drew (Below.refl _ _))) (HB5.out.below (below_drew (Below.refl _ _)))).mono ?_
      rintro e w6 ⟨rfl, hb6⟩
      rw [show decide (identity fr = identity fr) = true from decide_eq_true rfl]
      refine ⟨_, rfl, ?_⟩
      have F6 := Aside0.mk ((F5.out.below (below_drew (Below.refl _ _))).below hb6)
      have G76 := Aside0.mk ((G75.out.below (below_drew (Below.refl _ _))).below hb6)
      have G96 := Aside0.mk ((G95.out.below (below_drew (Below.refl _ _))).below hb6)
      clear hb6 F5 G75 G95 HA5 HB5
      refine hK.out _ _ ⟨F6.out, G76.out, G96.out⟩ (fun hHeld => ?_)
      clear hK K
      refine norm_ (a' := ?_) ?_ ?_
      rotate_left
      · show Act.put _ (some 31) _ = _
        simp only [Act.put, List.setIfInBounds_toArray, List.set_cons_zero, List.set_cons_succ]
        rfl
      refine pure_ (i := 3) (N := some 32) (v := ?_) (a' := ?_) #[true, true, true, true, false, false, false, false, false, false, false, false, false, false, false, false, false, false, false, false] rfl rfl (by kernel_rfl) (fun _ _ _ h => h) (Or.inl ⟨by rfl, ?_⟩) ?_ ?_
      rotate_left
      · intro w'
        go_simp
        with_reducible rfl
      rotate_left
      · simp only [Act.put, List.setIfInBounds_toArray, List.set_cons_zero, List.set_cons_succ]
        rfl
      refine pure_ (i := 4) (N := some 33) (v := ?_) (a' := ?_) #[true, true, true, true, true, false, false, false, false, false, false, false, false, false, false, false, false, false, false, false] rfl rfl (by kernel_rfl) (fun _ _ _ h => h) (Or.inl ⟨by rfl, ?_⟩) ?_ ?_
      rotate_left
      · intro w'
        go_simp
        with_reducible rfl
      rotate_left
      · simp only [Act.put, List.setIfInBounds_toArray, List.set_cons_zero, List.set_cons_succ]
        rfl
      refine pure_ (i := 5) (N := some 34) (v := ?_) (a' := ?_) #[true, true, true, true, true, true, false, false, false, false, false, false, false, false, false, false, false, false, false, false] rfl rfl (by kernel_rfl) (fun _ _ _ h => h) (Or.inl ⟨by rfl, ?_⟩) ?_ ?_
      rotate_left
      · intro w'
        go_simp
        with_reducible rfl
      rotate_left
      · simp only [Act.put, List.setIfInBounds_toArray, List.set_cons_zero, List.set_cons_succ]
        rfl
      refine pure_ (i := 6) (N := some 35) (v := ?_) (a' := ?_) #[true, true, true, true, true, true, true, false, false, false, false, false, false, false, false, false, false, false, false, false] rfl rfl (by kernel_rfl) (fun _ _ _ h => h) (Or.inl ⟨by rfl, ?_⟩) ?_ ?_
      rotate_left
      · intro w'
        go_simp
        with_reducible rfl
      rotate_left
      · simp only [Act.put, List.setIfInBounds_toArray, List.set_cons_zero, List.set_cons_succ]
        rfl
      refine pure_ (i := 7) (N := some 36) (v := ?_) (a' := ?_) #[true, true, true, true, true, true, true, true, false, false, false, false, false, false, false, false, false, false, false, false] rfl rfl (by kernel_rfl) (fun _ _ _ h => h) (Or.inl ⟨by rfl, ?_⟩) ?_ ?_
      rotate_left
      · intro w'
        go_simp
        with_reducible rfl
      rotate_left
      · simp only [Act.put, List.setIfInBounds_toArray, List.set_cons_zero, List.set_cons_succ]
        rfl
      refine pure_ (i := 8) (N := some 37) (v := ?_) (a' := ?_) #[true, true, true, true, true, true, true, true, true, false, false, false, false, false, false, false, false, false, false, false] rfl rfl (by kernel_rfl) (fun _ _ _ h => h) (Or.inl ⟨by rfl, ?_⟩) ?_ ?_
      rotate_left
      · intro w'
        go_simp
        with_reducible rfl
      rotate_left
      · simp only [Act.put, List.setIfInBounds_toArray, List.set_cons_zero, List.set_cons_succ]
        rfl
      refine take_ (i := 9) (N := some 38) (v := ?_) (a' := ?_) #[true, true, true, true, true, true, true, true, true, true, false, false, false, false, false, false, false, false, false, false] rfl rfl (by kernel_rfl) (fun _ _ _ h => h) (Or.inl ⟨by rfl, ?_⟩) hHeld ?_ ?_
      rotate_left
      · intro w' s0
        obtain ⟨s0, s1, s2, s3, s4⟩ := s0.1.f
        go_simp
        with_reducible rfl
      rotate_left
      · simp only [Act.put, List.setIfInBounds_toArray, List.set_cons_zero, List.set_cons_succ]
        rfl
      refine take_ (i := 10) (N := some 39) (v := ?_) (a' := ?_) #[true, true, true, true, true, true, true, true, true, true, true, false, false, false, false, false, false, false, false, false] rfl rfl (by kernel_rfl) (fun _ _ _ h => h) (Or.inl ⟨by rfl, ?_⟩) hHeld ?_ ?_
      rotate_left
      · intro w' s0
        obtain ⟨s0, s1, s2, s3, s4⟩ := s0.1.t
        go_simp
        with_reducible rfl
      rotate_left
      · simp only [Act.put, List.setIfInBounds_toArray, List.set_cons_zero, List.set_cons_succ]
        rfl
      refine take_ (i := 11) (N := some 40) (v := ?_) (a' := ?_) #[true, true, true, true, true, true, true, true, true, true, true, true, false, false, false, false, false, false, false, false] rfl rfl (by kernel_rfl) (fun _ _ _ h => h) (Or.inl ⟨by rfl, ?_⟩) hHeld ?_ ?_
      rotate_left
      · intro w' s0
        obtain ⟨s0, s1, s2, s3, s4, s5, s6⟩ := s0.1.l
        go_simp
        with_reducible rfl
      rotate_left
      · simp only [Act.put, List.setIfInBounds_toArray, List.set_cons_zero, List.set_cons_succ]
        rfl
      refine take_ (i := 13) (N := some 42) (v := ?_) (a' := ?_) #[true, true, true, true, true, true, true, true, true, true, true, true, false, true, false, false, false, false, false, false] rfl rfl (by kernel_rfl) (fun _ _ _ h => h) (Or.inl ⟨by rfl, ?_⟩) hHeld ?_ ?_
      rotate_left
      · intro w' s0
        obtain ⟨s0, s1, s2, s3, s4⟩ := s0.1.f
        go_simp
        with_reducible rfl
      rotate_left
      · simp only [Act.put, List.setIfInBounds_toArray, List.set_cons_zero, List.set_cons_succ]
        rfl
      refine take_ (i := 14) (N := some 43) (v := ?_) (a' := ?_) #[true, true, true, true, true, true, true, true, true, true, true, true, false, true, true, false, false, false, false, false] rfl rfl (by kernel_rfl) (fun _ _ _ h => h) (Or.inl ⟨by rfl, ?_⟩) hHeld ?_ ?_
      rotate_left
      · intro w' s0
        obtain ⟨s0, s1, s2, s3, s4⟩ := s0.1.t
        go_simp
        with_reducible rfl
      rotate_left
      · simp only [Act.put, List.setIfInBounds_toArray, List.set_cons_zero, List.set_cons_succ]
        rfl
      refine take_ (i := 15) (N := some 44) (v := ?_) (a' := ?_) #[true, true, true, true, true, true, true, true, true, true, true, true, false, true, true, true, false, false, false, false] rfl rfl (by kernel_rfl) (fun _ _ _ h => h) (Or.inl ⟨by rfl, ?_⟩) hHeld ?_ ?_
      rotate_left
      · intro w' s0
        obtain ⟨s0, s1, s2, s3, s4, s5, s6⟩ := s0.1.l
        go_simp
        with_reducible rfl
      rotate_left
      · simp only [Act.put, List.setIfInBounds_toArray, List.set_cons_zero, List.set_cons_succ]
        rfl
      refine one_ (i := 12) (N := some 41) #[true, true, true, true, true, true, true, true, true, true, true, true, true, true, true, true, false, false, false, false] rfl rfl (by kernel_rfl) (by decide) (fun K hK => ?_)
      refine goes_ Try.func15 (by kernel_rfl) rfl #[cv p fr, cv q tc, lv r l] (by rfl) rfl rfl (by simp only [List.map_toArray, List.map_cons, List.map_nil] <;> rfl) ?_
      refine (lift_Check p q fr tc r l _ (HP.out.below F6.out.b) (HQ.out.below F6.out.b) (HR.out.below F6.out.b) HFF.out HFT.out HFL.out).mono ?_
      rintro e w7 ⟨rfl, hb7⟩
      refine ⟨_, rfl, ?_⟩
      have F7 := Aside0.mk (F6.out.below hb7)
      have G77 := Aside0.mk (G76.out.below hb7)
      have G97 := Aside0.mk (G96.out.below hb7)
      clear hb7 F6 G76 G96
      refine hK.out _ _ ⟨F7.out, G77.out, G97.out⟩ (fun hHeld => ?_)
      clear hK K
      refine norm_ (a' := ?_) ?_ ?_
      rotate_left
      · show Act.put _ (some 41) _ = _
        simp only [Act.put, List.setIfInBounds_toArray, List.set_cons_zero, List.set_cons_succ]
        rfl
      refine one_ (i := 16) (N := some 45) #[true, true, true, true, true, true, true, true, true, true, true, true, true, true, true, true, true, false, false, false] rfl rfl (by kernel_rfl) (by decide) (fun K hK => ?_)
      refine goes_ Try.func16 (by kernel_rfl) rfl #[cv p fr, cv q tc, lv r l] (by rfl) rfl rfl (by simp only [List.map_toArray, List.map_cons, List.map_nil] <;> rfl) ?_
      refine (ref25_Check p q fr tc r l _ (HP.out.below F7.out.b) (HQ.out.below F7.out.b) (HR.out.below F7.out.b) HFF.out HFT.out HFL.out).mono ?_
      rintro e w8 ⟨rfl, hb8⟩
      refine ⟨_, rfl, ?_⟩
      have F8 := Aside0.mk (F7.out.below hb8)
      have G78 := Aside0.mk (G77.out.below hb8)
      have G98 := Aside0.mk (G97.out.below hb8)
      clear hb8 F7 G77 G97
      refine hK.out _ _ ⟨F8.out, G78.out, G98.out⟩ (fun hHeld => ?_)
      clear hK K
      refine norm_ (a' := ?_) ?_ ?_
      rotate_left
      · show Act.put _ (some 45) _ = _
        simp only [Act.put, List.setIfInBounds_toArray, List.set_cons_zero, List.set_cons_succ]
        rfl
      refine pure_ (i := 17) (N := some 46) (v := ?_) (a' := ?_) #[true, true, true, true, true, true, true, true, true, true, true, true, true, true, true, true, true, true, false, false] rfl rfl (by kernel_rfl) (fun _ _ _ h => h) (Or.inl ⟨by rfl, ?_⟩) ?_ ?_
      rotate_left
      · intro w'
        go_simp
        with_reducible rfl
      rotate_left
      · simp only [Act.put, List.setIfInBounds_toArray, List.set_cons_zero, List.set_cons_succ]
        rfl
      refine pure_ (i := 18) (N := some 47) (v := ?_) (a' := ?_) #[true, true, true, true, true, true, true, true, true, true, true, true, true, true, true, true, true, true, true, false] rfl rfl (by kernel_rfl) (fun _ _ _ h => h) (Or.inl ⟨by rfl, ?_⟩) ?_ ?_
      rotate_left
      · intro w'
        go_simp
        with_reducible rfl
      rotate_left
      · simp only [Act.put, List.setIfInBounds_toArray, List.set_cons_zero, List.set_cons_succ]
        rfl
      refine pure_ (i := 19) (N := some 6) (v := ?_) (a' := ?_) #[true, true, true, true, true, true, true, true, true, true, true, true, true, true, true, true, true, true, true, true] rfl rfl (by kernel_rfl) (fun _ _ _ h => h) (Or.inl ⟨by rfl, ?_⟩) ?_ ?_
      rotate_left
      · intro w'
        go_simp
        with_reducible rfl
      rotate_left
      · simp only [Act.put, List.setIfInBounds_toArray, List.set_cons_zero, List.set_cons_succ]
        rfl
      refine done_ (by kernel_rfl) ?_
      go_wp2
      go_ret
      exact ⟨by simp, F8.out.b⟩
end Go.Proofs.Ytlhiapggccgggaa.PH
