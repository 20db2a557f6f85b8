/- The law TracesFrames: its function answers true. -/
import Derived.Test.YtchhbkicplgmhaaHAlive6
import Derived.Test.YtchhbkicplgmhaaHArgs
namespace Go.Proofs.Ytchhbkicplgmhaa.PH
open Go.RowKit Go.Proofs.YtchhbkicplgmhaaW.PrintWords Go.Proofs.YtchhbkicplgmhaaW.PrintLast
set_option linter.unusedVariables false
set_option linter.unusedSimpArgs false

theorem add_nil (a : Addr) : a.add 0 = a := by unfold Addr.add; simp
set_option maxHeartbeats 16000000 in
set_option maxRecDepth 100000 in
theorem law_TracesFrames (pc : CP) (c : Circ) (q : TP) (t : Run) (w : World) (hc : RC w pc c) (ht : RT w q t) (nc : c.Nums) (nt : (∀ b ∈ t.f0, True) ∧ ∀ r ∈ t.f1, ∀ b ∈ r, True) :
    Calls Try.prog 6 #[cv pc c, tv q t] w fun e w' => e = .returned (.bool true) ∧ Below w.heap.size w w' := by
  obtain ⟨A1, k1, A2, k2, A3, k3, A4, k4⟩ := pc
  obtain ⟨QA0, QC0, QA1, QC1⟩ := q
  have HR := Aside0.mk hc
  have HT := Aside0.mk ht
  have NC := Aside0.mk nc
  have I := Aside0.mk (CkInv.start w ⟨A1, k1, A2, k2, A3, k3, A4, k4⟩ c ⟨QA0, QC0, QA1, QC1⟩ t)
  have hu26 := Try.underlying26
  have hu30 := Try.underlying30
  obtain ⟨g0, g1, g2, g3, g4⟩ := (blk5w I.out.B0).1
  obtain ⟨u0, u1⟩ := (blk2t I.out.B1).1
  clear hc ht nc nt
  dsimp only [cv, tv] at *
  go_enter Try.func6, Try.ntmps6
  go_wp2_with fail
  refine (law06_fit ⟨A1, k1, A2, k2, A3, k3, A4, k4⟩ c ⟨QA0, QC0, QA1, QC1⟩ t _ (HR.out.below I.out.BW) NC.out (HT.out.below I.out.BW)).mono ?_
  rintro e w1 ⟨b, rfl, hfit, hb⟩
  have I := Aside0.mk (I.out.below hb)
  clear hb g0 g1 g2 g3 g4 u0 u1
  cases b with
  | false =>
    clear hfit
    go_wp2_with fail
    refine (law06_alive _).mono ?_
    rintro e w2 ⟨rfl, hb⟩
    have B2 := Aside0.mk (I.out.BW.trans (hb.mono I.out.BW.size))
    clear hb
    go_wp2
    go_ret
    exact ⟨rfl, B2.out⟩
  | true =>
  have HFIT := Aside0.mk (hfit rfl)
  have FC := Aside0.mk (fits_of_nums NC.out HFIT.out.1)
  have HCC := Aside0.mk HFIT.out.2.2
  have HC := Aside0.mk (tCheck_ok HCC.out)
  have HSO := statesC_ok HCC.out
  obtain ⟨n, hrn, hn1, hn2, hn3⟩ := right_spec c t HCC.out
  have HN := Aside0.mk (And.intro hn1 (And.intro hn2 hn3))
  have C3 := Aside0.mk (fun W (hb : Below w.heap.size w W) => show Calls Try.prog 15 #[cv ⟨A1, k1, A2, k2, A3, k3, A4, k4⟩ c, tv ⟨QA0, QC0, QA1, QC1⟩ t] W (fun e w' => RetSt W w' (statesOf c t, 0) e) from HSO ▸ traces_States ⟨A1, k1, A2, k2, A3, k3, A4, k4⟩ c ⟨QA0, QC0, QA1, QC1⟩ t W (HR.out.below hb) FC.out (HT.out.below hb))
  have C5 := Aside0.mk (fun W (hb : Below w.heap.size w W) => show Calls Try.prog 17 #[cv ⟨A1, k1, A2, k2, A3, k3, A4, k4⟩ c, tv ⟨QA0, QC0, QA1, QC1⟩ t] W (fun e w' => RetII W w' ((n : Int), 0) e) from hrn ▸ traces_Right ⟨A1, k1, A2, k2, A3, k3, A4, k4⟩ c ⟨QA0, QC0, QA1, QC1⟩ t W (HR.out.below hb) FC.out (HT.out.below hb))
  clear hfit HSO hrn hn1 hn2 hn3
  obtain ⟨g0, g1, g2, g3, g4⟩ := (blk5w I.out.B0).1
  obtain ⟨u0, u1⟩ := (blk2t I.out.B1).1
  go_wp2_with fail
  refine (C3.out _ I.out.BW).mono ?_
  rintro e w2 ⟨O, oc, rfl, hrs, hb⟩
  have I := Aside0.mk (I.out.below hb)
  have R := Aside0.mk hrs
  have HSL := Aside0.mk (statesOf_len c t)
  rw [HSL.out]
  clear hb hrs g0 g1 g2 g3 g4 u0 u1 C3
  obtain ⟨g0, g1, g2, g3, g4⟩ := (blk5w I.out.B0).1
  obtain ⟨u0, u1⟩ := (blk2t I.out.B1).1
  go_wp2_with fail
  refine (C5.out _ I.out.BW).mono ?_
  rintro e w3 ⟨rfl, hb⟩
  have I := Aside0.mk (I.out.below hb)
  have R := Aside0.mk (R.out.below hb)
  clear hb g0 g1 g2 g3 g4 u0 u1 C5
  obtain ⟨u0, u1⟩ := (blk2t I.out.B1).1
  have hpos : 0 < (statesOf c t).length := by rw [HSL.out]; exact HC.out.2.2.1
  have hposI : 0 < t.f1.length := HC.out.2.2.1
  obtain ⟨od, Ax, cx, e0, hx, hrx⟩ := at_row R.out.r 0 hpos
  rw [statesOf_at c t hpos, show stateAt c t.f0 (t.f1.take 0) = t.f0 from rfl] at hx hrx
  cases e0
  have HRX := Aside0.mk (hrx.below (below_drew (Below.refl _ _)))
  have ID := Aside0.mk (I.out.below (below_drew (Below.refl _ _)))
  have RD := Aside0.mk (R.out.below (below_drew (Below.refl _ _)))
  have hx0 : w3.cell? od = some (.slice Ax t.f0.length cx) := by have h_ := hx; rwa [add_nil] at h_
  have HSS := Aside0.mk (show w3.cell? ⟨w.heap.size + 1, 0, none⟩ = some (.slice QA0 t.f0.length QC0) ∧ w3.cell? ⟨w.heap.size + 1, 1, none⟩ = some (.slice QA1 t.f1.length QC1) ∧ w3.cell? od = some (.slice Ax t.f0.length cx) from ⟨u0, u1, hx0⟩)
  have t1 : decide ((n : Int) < 0) = false := decide_eq_false (by omega)
  have t2 : decide ((t.f1.length : Int) < (n : Int)) = false := decide_eq_false (by have := HN.out.1; omega)
  have t3 : decide (t.f1.length < n) = false := decide_eq_false (by have := HN.out.1; omega)
  clear hrx hpos
  go_wp2
  refine start_ (n := 33) (S := (fun w' => w'.cell? ⟨w.heap.size + 1, 0, none⟩ = some (.slice QA0 t.f0.length QC0) ∧ w'.cell? ⟨w.heap.size + 1, 1, none⟩ = some (.slice QA1 t.f1.length QC1) ∧ w'.cell? od = some (.slice Ax t.f0.length cx))) (ds := []) #[false, false, false, false, false, false, false, false, false, false, false, false, false, false, false, false, false, false, false, false, false, false, false, false, false, false, false, false, false, false, false, false, false] (by kernel_rfl) rfl rfl HSS.out (fun hHeld => ?_)
  clear u0 u1 hx hx0
  refine pure_ (i := 0) (N := some 32) (v := ?_) (a' := ?_) #[true, false, false, false, false, false, false, false, false, false, false, false, false, false, false, false, false, false, false, false, false, false, false, false, false, false, false, false, false, false, false, false, false] rfl rfl (by kernel_rfl) (fun _ _ _ h => h) (Or.inl ⟨by rfl, ?_⟩) ?_ ?_
  rotate_left
  · intro w'
    go_simp
    with_reducible rfl
  rotate_left
  · simp only [Act.put, List.setIfInBounds_toArray, List.set_cons_zero, List.set_cons_succ]
    rfl
  refine pure_ (i := 1) (N := some 33) (v := ?_) (a' := ?_) #[true, true, false, false, false, false, false, false, false, false, false, false, false, false, false, false, false, false, false, false, false, false, false, false, false, false, false, false, false, false, false, false, false] rfl rfl (by kernel_rfl) (fun _ _ _ h => h) (Or.inl ⟨by rfl, ?_⟩) ?_ ?_
  rotate_left
  · intro w'
    go_simp
    with_reducible rfl
  rotate_left
  · simp only [Act.put, List.setIfInBounds_toArray, List.set_cons_zero, List.set_cons_succ]
    rfl
  refine pure_ (i := 2) (N := some 34) (v := ?_) (a' := ?_) #[true, true, true, false, false, false, false, false, false, false, false, false, false, false, false, false, false, false, false, false, false, false, false, false, false, false, false, false, false, false, false, false, false] rfl rfl (by kernel_rfl) (fun _ _ _ h => h) (Or.inl ⟨by rfl, ?_⟩) ?_ ?_
  rotate_left
  · intro w'
    go_simp
    with_reducible rfl
  rotate_left
  · simp only [Act.put, List.setIfInBounds_toArray, List.set_cons_zero, List.set_cons_succ]
    rfl
  refine pure_ (i := 3) (N := some 35) (v := ?_) (a' := ?_) #[true, true, true, true, false, false, false, false, false, false, false, false, false, false, false, false, false, false, false, false, false, false, false, false, false, false, false, false, false, false, false, false, false] rfl rfl (by kernel_rfl) (fun _ _ _ h => h) (Or.inl ⟨by rfl, ?_⟩) ?_ ?_
  rotate_left
  · intro w'
    go_simp
    with_reducible rfl
  rotate_left
  · simp only [Act.put, List.setIfInBounds_toArray, List.set_cons_zero, List.set_cons_succ]
    rfl
  refine pure_ (i := 4) (N := some 36) (v := ?_) (a' := ?_) #[true, true, true, true, true, false, false, false, false, false, false, false, false, false, false, false, false, false, false, false, false, false, false, false, false, false, false, false, false, false, false, false, false] rfl rfl (by kernel_rfl) (fun _ _ _ h => h) (Or.inl ⟨by rfl, ?_⟩) ?_ ?_
  rotate_left
  · intro w'
    go_simp
    with_reducible rfl
  rotate_left
  · simp only [Act.put, List.setIfInBounds_toArray, List.set_cons_zero, List.set_cons_succ]
    rfl
  refine pure_ (i := 5) (N := some 37) (v := ?_) (a' := ?_) #[true, true, true, true, true, true, false, false, false, false, false, false, false, false, false, false, false, false, false, false, false, false, false, false, false, false, false, false, false, false, false, false, false] rfl rfl (by kernel_rfl) (fun _ _ _ h => h) (Or.inl ⟨by rfl, ?_⟩) ?_ ?_
  rotate_left
  · intro w'
    go_simp
    with_reducible rfl
  rotate_left
  · simp only [Act.put, List.setIfInBounds_toArray, List.set_cons_zero, List.set_cons_succ]
    rfl
  refine pure_ (i := 6) (N := some 38) (v := ?_) (a' := ?_) #[true, true, true, true, true, true, true, false, false, false, false, false, false, false, false, false, false, false, false, false, false, false, false, false, false, false, false, false, false, false, false, false, false] rfl rfl (by kernel_rfl) (fun _ _ _ h => h) (Or.inl ⟨by rfl, ?_⟩) ?_ ?_
  rotate_left
  · intro w'
    go_simp
    with_reducible rfl
  rotate_left
  · simp only [Act.put, List.setIfInBounds_toArray, List.set_cons_zero, List.set_cons_succ]
    rfl
  refine pure_ (i := 7) (N := some 39) (v := ?_) (a' := ?_) #[true, true, true, true, true, true, true, true, false, false, false, false, false, false, false, false, false, false, false, false, false, false, false, false, false, false, false, false, false, false, false, false, false] rfl rfl (by kernel_rfl) (fun _ _ _ h => h) (Or.inl ⟨by rfl, ?_⟩) ?_ ?_
  rotate_left
  · intro w'
    go_simp
    with_reducible rfl
  rotate_left
  · simp only [Act.put, List.setIfInBounds_toArray, List.set_cons_zero, List.set_cons_succ]
    rfl
  refine pure_ (i := 8) (N := some 40) (v := ?_) (a' := ?_) #[true, true, true, true, true, true, true, true, true, false, false, false, false, false, false, false, false, false, false, false, false, false, false, false, false, false, false, false, false, false, false, false, false] rfl rfl (by kernel_rfl) (fun _ _ _ h => h) (Or.inl ⟨by rfl, ?_⟩) ?_ ?_
  rotate_left
  · intro w'
    go_simp
    with_reducible rfl
  rotate_left
  · simp only [Act.put, List.setIfInBounds_toArray, List.set_cons_zero, List.set_cons_succ]
    rfl
  refine pure_ (i := 9) (N := some 41) (v := ?_) (a' := ?_) #[true, true, true, true, true, true, true, true, true, true, false, false, false, false, false, false, false, false, false, false, false, false, false, false, false, false, false, false, false, false, false, false, false] rfl rfl (by kernel_rfl) (fun _ _ _ h => h) (Or.inl ⟨by rfl, ?_⟩) ?_ ?_
  rotate_left
  · intro w'
    go_simp
    with_reducible rfl
  rotate_left
  · simp only [Act.put, List.setIfInBounds_toArray, List.set_cons_zero, List.set_cons_succ]
    rfl
  refine take_ (i := 10) (N := some 42) (v := ?_) (a' := ?_) #[true, true, true, true, true, true, true, true, true, true, true, false, false, false, false, false, false, false, false, false, false, false, false, false, false, false, false, false, false, false, false, false, false] rfl rfl (by kernel_rfl) (fun _ _ _ h => h) (Or.inl ⟨by rfl, ?_⟩) hHeld ?_ ?_
  rotate_left
  · rintro w' ⟨s0, s1, s2⟩
    go_simp
    with_reducible rfl
  rotate_left
  · simp only [Act.put, List.setIfInBounds_toArray, List.set_cons_zero, List.set_cons_succ]
    rfl
  refine pure_ (i := 11) (N := some 43) (v := ?_) (a' := ?_) #[true, true, true, true, true, true, true, true, true, true, true, true, false, false, false, false, false, false, false, false, false, false, false, false, false, false, false, false, false, false, false, false, false] rfl rfl (by kernel_rfl) (fun _ _ _ h => h) (Or.inl ⟨by rfl, ?_⟩) ?_ ?_
  rotate_left
  · intro w'
    go_simp
    with_reducible rfl
  rotate_left
  · simp only [Act.put, List.setIfInBounds_toArray, List.set_cons_zero, List.set_cons_succ]
    rfl
  refine pure_ (i := 12) (N := some 44) (v := ?_) (a' := ?_) #[true, true, true, true, true, true, true, true, true, true, true, true, true, false, false, false, false, false, false, false, false, false, false, false, false, false, false, false, false, false, false, false, false] rfl rfl (by kernel_rfl) (fun _ _ _ h => h) (Or.inl ⟨by rfl, ?_⟩) ?_ ?_
  rotate_left
  · intro w'
    go_simp
    with_reducible rfl
  rotate_left
  · simp only [Act.put, List.setIfInBounds_toArray, List.set_cons_zero, List.set_cons_succ]
    rfl
  refine pure_ (i := 13) (N := some 45) (v := ?_) (a' := ?_) #[true, true, true, true, true, true, true, true, true, true, true, true, true, true, false, false, false, false, false, false, false, false, false, false, false, false, false, false, false, false, false, false, false] rfl rfl (by kernel_rfl) (fun _ _ _ h => h) (Or.inl ⟨by rfl, ?_⟩) ?_ ?_
  rotate_left
  · intro w'
    go_simp
    with_reducible rfl
  rotate_left
  · simp only [Act.put, List.setIfInBounds_toArray, List.set_cons_zero, List.set_cons_succ]
    rfl
  refine pure_ (i := 14) (N := some 46) (v := ?_) (a' := ?_) #[true, true, true, true, true, true, true, true, true, true, true, true, true, true, true, false, false, false, false, false, false, false, false, false, false, false, false, false, false, false, false, false, false] rfl rfl (by kernel_rfl) (fun _ _ _ h => h) (Or.inl ⟨by rfl, ?_⟩) ?_ ?_
  rotate_left
  · intro w'
    go_simp
    with_reducible rfl
  rotate_left
  · simp only [Act.put, List.setIfInBounds_toArray, List.set_cons_zero, List.set_cons_succ]
    rfl
  refine pure_ (i := 15) (N := some 47) (v := ?_) (a' := ?_) #[true, true, true, true, true, true, true, true, true, true, true, true, true, true, true, true, false, false, false, false, false, false, false, false, false, false, false, false, false, false, false, false, false] rfl rfl (by kernel_rfl) (fun _ _ _ h => h) (Or.inl ⟨by rfl, ?_⟩) ?_ ?_
  rotate_left
  · intro w'
    go_simp
    with_reducible rfl
  rotate_left
  · simp only [Act.put, List.setIfInBounds_toArray, List.set_cons_zero, List.set_cons_succ]
    rfl
  refine pure_ (i := 16) (N := some 48) (v := ?_) (a' := ?_) #[true, true, true, true, true, true, true, true, true, true, true, true, true, true, true, true, true, false, false, false, false, false, false, false, false, false, false, false, false, false, false, false, false] rfl rfl (by kernel_rfl) (fun _ _ _ h => h) (Or.inl ⟨by rfl, ?_⟩) ?_ ?_
  rotate_left
  · intro w'
    go_simp
    with_reducible rfl
  rotate_left
  · simp only [Act.put, List.setIfInBounds_toArray, List.set_cons_zero, List.set_cons_succ]
    rfl
  refine take_ (i := 17) (N := some 49) (v := ?_) (a' := ?_) #[true, true, true, true, true, true, true, true, true, true, true, true, true, true, true, true, true, true, false, false, false, false, false, false, false, false, false, false, false, false, false, false, false] rfl rfl (by kernel_rfl) (fun _ _ _ h => h) (Or.inl ⟨by rfl, ?_⟩) hHeld ?_ ?_
  rotate_left
  · rintro w' ⟨s0, s1, s2⟩
    go_simp
    with_reducible rfl
  rotate_left
  · simp only [Act.put, List.setIfInBounds_toArray, List.set_cons_zero, List.set_cons_succ]
    rfl
  refine pure_ (i := 18) (N := some 50) (v := ?_) (a' := ?_) #[true, true, true, true, true, true, true, true, true, true, true, true, true, true, true, true, true, true, true, false, false, false, false, false, false, false, false, false, false, false, false, false, false] rfl rfl (by kernel_rfl) (fun _ _ _ h => h) (Or.inl ⟨by rfl, ?_⟩) ?_ ?_
  rotate_left
  · intro w'
    go_simp
    with_reducible rfl
  rotate_left
  · simp only [Act.put, List.setIfInBounds_toArray, List.set_cons_zero, List.set_cons_succ]
    rfl
  refine take_ (i := 19) (N := some 51) (v := ?_) (a' := ?_) #[true, true, true, true, true, true, true, true, true, true, true, true, true, true, true, true, true, true, true, true, false, false, false, false, false, false, false, false, false, false, false, false, false] rfl rfl (by kernel_rfl) (fun _ _ _ h => h) (Or.inl ⟨by rfl, ?_⟩) hHeld ?_ ?_
  rotate_left
  · rintro w' ⟨s0, s1, s2⟩
    go_simp
    with_reducible rfl
  rotate_left
  · simp only [Act.put, List.setIfInBounds_toArray, List.set_cons_zero, List.set_cons_succ]
    rfl
  refine one_ (i := 20) (N := some 52) #[true, true, true, true, true, true, true, true, true, true, true, true, true, true, true, true, true, true, true, true, true, false, false, false, false, false, false, false, false, false, false, false, false] rfl rfl (by kernel_rfl) (by decide) (fun K hK => ?_)
  refine goes_ Try.func29 (by kernel_rfl) rfl #[.slice Ax t.f0.length cx, .slice QA0 t.f0.length QC0] (by rfl) rfl rfl (by simp only [List.map_toArray, List.map_cons, List.map_nil] <;> rfl) ?_
  refine (ref04_Same Ax cx t.f0 QA0 QC0 t.f0 _ HRX.out (HT.out.below ID.out.BW).s0).mono ?_
  rintro e z ⟨rfl, hb⟩
  rw [decide_eq_true (rfl : t.f0 = t.f0)]
  refine ⟨_, rfl, ?_⟩
  have IZ := Aside0.mk (ID.out.below hb)
  have RZ := Aside0.mk (RD.out.below hb)
  have HBZ := Aside0.mk hb
  clear hb
  refine hK.out _ _ ⟨pw_cell_below HBZ.out HSS.out.1, pw_cell_below HBZ.out HSS.out.2.1, pw_cell_below HBZ.out HSS.out.2.2⟩ (fun hHeld => ?_)
  clear hK K
  refine norm_ (a' := ?_) ?_ ?_
  rotate_left
  · show Act.put _ (some 52) _ = _
    simp only [Act.put, List.setIfInBounds_toArray, List.set_cons_zero, List.set_cons_succ]
    rfl
  refine pure_ (i := 21) (N := some 53) (v := ?_) (a' := ?_) #[true, true, true, true, true, true, true, true, true, true, true, true, true, true, true, true, true, true, true, true, true, true, false, false, false, false, false, false, false, false, false, false, false] rfl rfl (by kernel_rfl) (fun _ _ _ h => h) (Or.inl ⟨by rfl, ?_⟩) ?_ ?_
  rotate_left
  · intro w'
    go_simp
    with_reducible rfl
  rotate_left
  · simp only [Act.put, List.setIfInBounds_toArray, List.set_cons_zero, List.set_cons_succ]
    rfl
  refine pure_ (i := 22) (N := some 54) (v := ?_) (a' := ?_) #[true, true, true, true, true, true, true, true, true, true, true, true, true, true, true, true, true, true, true, true, true, true, true, false, false, false, false, false, false, false, false, false, false] rfl rfl (by kernel_rfl) (fun _ _ _ h => h) (Or.inl ⟨by rfl, ?_⟩) ?_ ?_
  rotate_left
  · intro w'
    go_simp
    with_reducible rfl
  rotate_left
  · simp only [Act.put, List.setIfInBounds_toArray, List.set_cons_zero, List.set_cons_succ]
    rfl
  refine pure_ (i := 23) (N := some 55) (v := ?_) (a' := ?_) #[true, true, true, true, true, true, true, true, true, true, true, true, true, true, true, true, true, true, true, true, true, true, true, true, false, false, false, false, false, false, false, false, false] rfl rfl (by kernel_rfl) (fun _ _ _ h => h) (Or.inl ⟨by rfl, ?_⟩) ?_ ?_
  rotate_left
  · intro w'
    go_simp
    with_reducible rfl
  rotate_left
  · simp only [Act.put, List.setIfInBounds_toArray, List.set_cons_zero, List.set_cons_succ]
    rfl
  refine pure_ (i := 24) (N := some 56) (v := ?_) (a' := ?_) #[true, true, true, true, true, true, true, true, true, true, true, true, true, true, true, true, true, true, true, true, true, true, true, true, true, false, false, false, false, false, false, false, false] rfl rfl (by kernel_rfl) (fun _ _ _ h => h) (Or.inl ⟨by rfl, ?_⟩) ?_ ?_
  rotate_left
  · intro w'
    go_simp
    with_reducible rfl
  rotate_left
  · simp only [Act.put, List.setIfInBounds_toArray, List.set_cons_zero, List.set_cons_succ]
    rfl
  refine pure_ (i := 25) (N := some 57) (v := ?_) (a' := ?_) #[true, true, true, true, true, true, true, true, true, true, true, true, true, true, true, true, true, true, true, true, true, true, true, true, true, true, false, false, false, false, false, false, false] rfl rfl (by kernel_rfl) (fun _ _ _ h => h) (Or.inl ⟨by rfl, ?_⟩) ?_ ?_
  rotate_left
  · intro w'
    go_simp
    with_reducible rfl
  rotate_left
  · simp only [Act.put, List.setIfInBounds_toArray, List.set_cons_zero, List.set_cons_succ]
    rfl
  refine pure_ (i := 26) (N := some 58) (v := ?_) (a' := ?_) #[true, true, true, true, true, true, true, true, true, true, true, true, true, true, true, true, true, true, true, true, true, true, true, true, true, true, true, false, false, false, false, false, false] rfl rfl (by kernel_rfl) (fun _ _ _ h => h) (Or.inl ⟨by rfl, ?_⟩) ?_ ?_
  rotate_left
  · intro w'
    go_simp
    with_reducible rfl
  rotate_left
  · simp only [Act.put, List.setIfInBounds_toArray, List.set_cons_zero, List.set_cons_succ]
    rfl
  refine pure_ (i := 27) (N := some 59) (v := ?_) (a' := ?_) #[true, true, true, true, true, true, true, true, true, true, true, true, true, true, true, true, true, true, true, true, true, true, true, true, true, true, true, true, false, false, false, false, false] rfl rfl (by kernel_rfl) (fun _ _ _ h => h) (Or.inl ⟨by rfl, ?_⟩) ?_ ?_
  rotate_left
  · intro w'
    go_simp
    with_reducible rfl
  rotate_left
  · simp only [Act.put, List.setIfInBounds_toArray, List.set_cons_zero, List.set_cons_succ]
    rfl
  refine pure_ (i := 28) (N := some 60) (v := ?_) (a' := ?_) #[true, true, true, true, true, true, true, true, true, true, true, true, true, true, true, true, true, true, true, true, true, true, true, true, true, true, true, true, true, false, false, false, false] rfl rfl (by kernel_rfl) (fun _ _ _ h => h) (Or.inl ⟨by rfl, ?_⟩) ?_ ?_
  rotate_left
  · intro w'
    go_simp
    with_reducible rfl
  rotate_left
  · simp only [Act.put, List.setIfInBounds_toArray, List.set_cons_zero, List.set_cons_succ]
    rfl
  refine pure_ (i := 29) (N := some 61) (v := ?_) (a' := ?_) #[true, true, true, true, true, true, true, true, true, true, true, true, true, true, true, true, true, true, true, true, true, true, true, true, true, true, true, true, true, true, false, false, false] rfl rfl (by kernel_rfl) (fun _ _ _ h => h) (Or.inl ⟨by rfl, ?_⟩) ?_ ?_
  rotate_left
  · intro w'
    go_simp
    with_reducible rfl
  rotate_left
  · simp only [Act.put, List.setIfInBounds_toArray, List.set_cons_zero, List.set_cons_succ]
    rfl
  refine pure_ (i := 30) (N := some 62) (v := ?_) (a' := ?_) #[true, true, true, true, true, true, true, true, true, true, true, true, true, true, true, true, true, true, true, true, true, true, true, true, true, true, true, true, true, true, true, false, false] rfl rfl (by kernel_rfl) (fun _ _ _ h => h) (Or.inl ⟨by rfl, ?_⟩) ?_ ?_
  rotate_left
  · intro w'
    go_simp
    with_reducible rfl
  rotate_left
  · simp only [Act.put, List.setIfInBounds_toArray, List.set_cons_zero, List.set_cons_succ]
    rfl
  refine pure_ (i := 31) (N := some 63) (v := ?_) (a' := ?_) #[true, true, true, true, true, true, true, true, true, true, true, true, true, true, true, true, true, true, true, true, true, true, true, true, true, true, true, true, true, true, true, true, false] rfl rfl (by kernel_rfl) (fun _ _ _ h => h) (Or.inl ⟨by rfl, ?_⟩) ?_ ?_
  rotate_left
  · intro w'
    go_simp
    with_reducible rfl
  rotate_left
  · simp only [Act.put, List.setIfInBounds_toArray, List.set_cons_zero, List.set_cons_succ]
    rfl
  refine pure_ (i := 32) (N := some 64) (v := ?_) (a' := ?_) #[true, true, true, true, true, true, true, true, true, true, true, true, true, true, true, true, true, true, true, true, true, true, true, true, true, true, true, true, true, true, true, true, true] rfl rfl (by kernel_rfl) (fun _ _ _ h => h) (Or.inl ⟨by rfl, ?_⟩) ?_ ?_
  rotate_left
  · intro w'
    go_simp
    with_reducible rfl
  rotate_left
  · simp only [Act.put, List.setIfInBounds_toArray, List.set_cons_zero, List.set_cons_succ]
    rfl
  refine done_ (by kernel_rfl) ?_
  clear HSS HBZ HRX ID RD R I
  go_wp2
  clear t1 t2 t3 hposI
  go_loopg [9, 10, 11, 12, 13, 14] t.f1.length (fun gg s9 s10 s11 s12 s13 s14 wr => ∃ (i : Nat), s9 = .int .i64 i ∧ Aside0 (i ≤ t.f1.length ∧ t.f1.length - i ≤ gg) ∧ Aside0 (Below z.heap.size z wr))
  case atStart => exact ⟨0, rfl, ⟨by omega, by omega⟩, ⟨Below.refl _ _⟩⟩
  case round =>
    obtain ⟨i, rfl, HX, BW⟩ := hrel
    by_cases hlt : i < t.f1.length
    · have K := Aside0.mk (IZ.out.below BW.out)
      have RK := Aside0.mk (RZ.out.below BW.out)
      obtain ⟨g0, g1, g2, g3, g4⟩ := (blk5w K.out.B0).1
      obtain ⟨u0, u1⟩ := (blk2t K.out.B1).1
      have hkl : i < (statesOf c t).length := by rw [HSL.out]; exact hlt
      have hkF : i < (frames c t.f0 t.f1).length := by rw [frames_len]; exact hlt
      obtain ⟨od2, Ax, cx, e0, hx, hrx⟩ := at_row RK.out.r i hkl
      obtain ⟨bd, Ay, cy, e1, hy, hry⟩ := at_row (HT.out.below K.out.BW).s1.r i hlt
      cases e0
      rw [statesOf_at c t hkl] at hx hrx
      have HSTL := Aside0.mk (stateAt_len c HC.out.2.2.2.1 (t.f1.take i))
      have HINS := Aside0.mk (HC.out.2.2.2.2.2 t.f1[i] (List.getElem_mem hlt))
      have HLT := Aside0.mk hlt
      have HFK := Aside0.mk (show ((frames c t.f0 t.f1)[i]'hkF).2.1 = holdsOf c (stateAt c t.f0 (t.f1.take i)) t.f1[i] by rw [frames_at c t.f1 t.f0 i hlt hkF])
      have HKF := Aside0.mk hkF
      have HNX := Aside0.mk (stateAt_step c t.f1 t.f0 i hlt)
      generalize hst : stateAt c t.f0 (t.f1.take i) = st at *
      generalize t.f1[i] = ins at *
      cases e1
      have KD := Aside0.mk (K.out.below (below_drew (Below.refl _ _)))
      have BD := Aside0.mk (BW.out.trans ((below_drew (Below.refl wr.heap.size wr)).mono BW.out.size))
      have HRX := Aside0.mk (hrx.below (below_drew (Below.refl _ _)))
      have HRY := Aside0.mk (hry.below (below_drew (Below.refl _ _)))
      have HSS : Aside0 ((fun w' : World => w'.cell? ⟨w.heap.size, 0, none⟩ = some (.int .i64 c.f0) ∧ w'.cell? ⟨w.heap.size, 1, none⟩ = some (.slice A1 c.f1.length k1) ∧ w'.cell? ⟨w.heap.size, 2, none⟩ = some (.slice A2 c.f2.length k2) ∧ w'.cell? ⟨w.heap.size, 3, none⟩ = some (.slice A3 c.f3.length k3) ∧ w'.cell? ⟨w.heap.size, 4, none⟩ = some (.slice A4 c.f4.length k4) ∧ w'.cell? (od.add i) = some (.slice Ax st.length cx) ∧ w'.cell? ⟨w.heap.size + 1, 1, none⟩ = some (.slice (some bd) t.f1.length QC1) ∧ w'.cell? (bd.add i) = some (.slice Ay ins.length cy)) wr) := ⟨⟨g0, g1, g2, g3, g4, hx, u1, hy⟩⟩
      clear hrx hry hkl hst
      go_wp2
      refine start_ (n := 18) (S := (fun w' => w'.cell? ⟨w.heap.size, 0, none⟩ = some (.int .i64 c.f0) ∧ w'.cell? ⟨w.heap.size, 1, none⟩ = some (.slice A1 c.f1.length k1) ∧ w'.cell? ⟨w.heap.size, 2, none⟩ = some (.slice A2 c.f2.length k2) ∧ w'.cell? ⟨w.heap.size, 3, none⟩ = some (.slice A3 c.f3.length k3) ∧ w'.cell? ⟨w.heap.size, 4, none⟩ = some (.slice A4 c.f4.length k4) ∧ w'.cell? (od.add i) = some (.slice Ax st.length cx) ∧ w'.cell? ⟨w.heap.size + 1, 1, none⟩ = some (.slice (some bd) t.f1.length QC1) ∧ w'.cell? (bd.add i) = some (.slice Ay ins.length cy))) (ds := []) #[false, false, false, false, false, false, false, false, false, false, false, false, false, false, false, false, false, false] (by kernel_rfl) rfl rfl HSS.out (fun hHeld => ?_)
      clear g0 g1 g2 g3 g4 u0 u1 hx hy
      refine take_ (i := 0) (N := some 72) (v := ?_) (a' := ?_) #[true, false, false, false, false, false, false, false, false, false, false, false, false, false, false, false, false, false] rfl rfl (by kernel_rfl) (fun _ _ _ h => h) (Or.inl ⟨by rfl, ?_⟩) hHeld ?_ ?_
      rotate_left
      · rintro w' ⟨s0, s1, s2, s3, s4, s5, s6, s7⟩
        go_simp
        with_reducible rfl
      rotate_left
      · simp only [Act.put, List.setIfInBounds_toArray, List.set_cons_zero, List.set_cons_succ]
        rfl
      refine pure_ (i := 1) (N := some 73) (v := ?_) (a' := ?_) #[true, true, false, false, false, false, false, false, false, false, false, false, false, false, false, false, false, false] rfl rfl (by kernel_rfl) (fun _ _ _ h => h) (Or.inl ⟨by rfl, ?_⟩) ?_ ?_
      rotate_left
      · intro w'
        go_simp
        with_reducible rfl
      rotate_left
      · simp only [Act.put, List.setIfInBounds_toArray, List.set_cons_zero, List.set_cons_succ]
        rfl
      refine pure_ (i := 2) (N := some 74) (v := ?_) (a' := ?_) #[true, true, true, false, false, false, false, false, false, false, false, false, false, false, false, false, false, false] rfl rfl (by kernel_rfl) (fun _ _ _ h => h) (Or.inl ⟨by rfl, ?_⟩) ?_ ?_
      rotate_left
      · intro w'
        go_simp
        with_reducible rfl
      rotate_left
      · simp only [Act.put, List.setIfInBounds_toArray, List.set_cons_zero, List.set_cons_succ]
        rfl
      refine pure_ (i := 3) (N := some 75) (v := ?_) (a' := ?_) #[true, true, true, true, false, false, false, false, false, false, false, false, false, false, false, false, false, false] rfl rfl (by kernel_rfl) (fun _ _ _ h => h) (Or.inl ⟨by rfl, ?_⟩) ?_ ?_
      rotate_left
      · intro w'
        go_simp
        with_reducible rfl
      rotate_left
      · simp only [Act.put, List.setIfInBounds_toArray, List.set_cons_zero, List.set_cons_succ]
        rfl
      refine take_ (i := 4) (N := some 76) (v := ?_) (a' := ?_) #[true, true, true, true, true, false, false, false, false, false, false, false, false, false, false, false, false, false] rfl rfl (by kernel_rfl) (fun _ _ _ h => h) (Or.inl ⟨by rfl, ?_⟩) hHeld ?_ ?_
      rotate_left
      · rintro w' ⟨s0, s1, s2, s3, s4, s5, s6, s7⟩
        go_simp
        with_reducible rfl
      rotate_left
      · simp only [Act.put, List.setIfInBounds_toArray, List.set_cons_zero, List.set_cons_succ]
        rfl
      refine pure_ (i := 5) (N := some 77) (v := ?_) (a' := ?_) #[true, true, true, true, true, true, false, false, false, false, false, false, false, false, false, false, false, false] rfl rfl (by kernel_rfl) (fun _ _ _ h => h) (Or.inl ⟨by rfl, ?_⟩) ?_ ?_
      rotate_left
      · intro w'
        go_simp
        with_reducible rfl
      rotate_left
      · simp only [Act.put, List.setIfInBounds_toArray, List.set_cons_zero, List.set_cons_succ]
        rfl
      refine take_ (i := 6) (N := some 78) (v := ?_) (a' := ?_) #[true, true, true, true, true, true, true, false, false, false, false, false, false, false, false, false, false, false] rfl rfl (by kernel_rfl) (fun _ _ _ h => h) (Or.inl ⟨by rfl, ?_⟩) hHeld ?_ ?_
      rotate_left
      · rintro w' ⟨s0, s1, s2, s3, s4, s5, s6, s7⟩
        go_simp
        with_reducible rfl
      rotate_left
      · simp only [Act.put, List.setIfInBounds_toArray, List.set_cons_zero, List.set_cons_succ]
        rfl
      refine pure_ (i := 7) (N := some 79) (v := ?_) (a' := ?_) #[true, true, true, true, true, true, true, true, false, false, false, false, false, false, false, false, false, false] rfl rfl (by kernel_rfl) (fun _ _ _ h => h) (Or.inl ⟨by rfl, ?_⟩) ?_ ?_
      rotate_left
      · intro w'
        go_simp
        with_reducible rfl
      rotate_left
      · simp only [Act.put, List.setIfInBounds_toArray, List.set_cons_zero, List.set_cons_succ]
        rfl
      refine pure_ (i := 8) (N := some 80) (v := ?_) (a' := ?_) #[true, true, true, true, true, true, true, true, true, false, false, false, false, false, false, false, false, false] rfl rfl (by kernel_rfl) (fun _ _ _ h => h) (Or.inl ⟨by rfl, ?_⟩) ?_ ?_
      rotate_left
      · intro w'
        go_simp
        with_reducible rfl
      rotate_left
      · simp only [Act.put, List.setIfInBounds_toArray, List.set_cons_zero, List.set_cons_succ]
        rfl
      refine take_ (i := 9) (N := some 81) (v := ?_) (a' := ?_) #[true, true, true, true, true, true, true, true, true, true, false, false, false, false, false, false, false, false] rfl rfl (by kernel_rfl) (fun _ _ _ h => h) (Or.inl ⟨by rfl, ?_⟩) hHeld ?_ ?_
      rotate_left
      · rintro w' ⟨s0, s1, s2, s3, s4, s5, s6, s7⟩
        go_simp
        with_reducible rfl
      rotate_left
      · simp only [Act.put, List.setIfInBounds_toArray, List.set_cons_zero, List.set_cons_succ]
        rfl
      refine one_ (i := 10) (N := some 82) #[true, true, true, true, true, true, true, true, true, true, true, false, false, false, false, false, false, false] rfl rfl (by kernel_rfl) (by decide) (fun K hK => ?_)
      refine goes_ Try.func30 (by kernel_rfl) rfl #[.agg #[.int .i64 c.f0, .slice A1 c.f1.length k1, .slice A2 c.f2.length k2, .slice A3 c.f3.length k3, .slice A4 c.f4.length k4], .slice Ax st.length cx, .slice Ay ins.length cy] (by rfl) rfl rfl (by simp only [List.map_toArray, List.map_cons, List.map_nil] <;> rfl) ?_
      refine (values_Props ⟨A1, k1, A2, k2, A3, k3, A4, k4⟩ c Ax cx st Ay cy ins _ (HR.out.below KD.out.BW) FC.out HRX.out HRY.out HC.out.1 HSTL.out HINS.out (check_lits HC.out.1).1).mono ?_
      rintro e w4 ⟨E4, ec4, rfl, hrb, hb⟩
      refine ⟨_, rfl, ?_⟩
      have HB4 := Aside0.mk hb
      have B4 := Aside0.mk (BD.out.trans (hb.mono BD.out.size))
      have K4 := Aside0.mk (KD.out.below hb)
      have HRX4 := Aside0.mk (HRX.out.below hb)
      have HRY4 := Aside0.mk (HRY.out.below hb)
      clear hb hrb
      refine hK.out _ _ ⟨pw_cell_below HB4.out HSS.out.1, pw_cell_below HB4.out HSS.out.2.1, pw_cell_below HB4.out HSS.out.2.2.1, pw_cell_below HB4.out HSS.out.2.2.2.1, pw_cell_below HB4.out HSS.out.2.2.2.2.1, pw_cell_below HB4.out HSS.out.2.2.2.2.2.1, pw_cell_below HB4.out HSS.out.2.2.2.2.2.2.1, pw_cell_below HB4.out HSS.out.2.2.2.2.2.2.2⟩ (fun hHeld => ?_)
      clear hK K
      refine norm_ (a' := ?_) ?_ ?_
      rotate_left
      · show Act.put _ (some 82) _ = _
        simp only [Act.put, List.setIfInBounds_toArray, List.set_cons_zero, List.set_cons_succ]
        rfl
      refine pure_ (i := 11) (N := some 71) (v := ?_) (a' := ?_) #[true, true, true, true, true, true, true, true, true, true, true, true, false, false, false, false, false, false] rfl rfl (by kernel_rfl) (fun _ _ _ h => h) (Or.inl ⟨by rfl, ?_⟩) ?_ ?_
      rotate_left
      · intro w'
        go_simp
        with_reducible rfl
      rotate_left
      · simp only [Act.put, List.setIfInBounds_toArray, List.set_cons_zero, List.set_cons_succ]
        rfl
      refine pure_ (i := 12) (N := some 83) (v := ?_) (a' := ?_) #[true, true, true, true, true, true, true, true, true, true, true, true, true, false, false, false, false, false] rfl rfl (by kernel_rfl) (fun _ _ _ h => h) (Or.inl ⟨by rfl, ?_⟩) ?_ ?_
      rotate_left
      · intro w'
        go_simp
        with_reducible rfl
      rotate_left
      · simp only [Act.put, List.setIfInBounds_toArray, List.set_cons_zero, List.set_cons_succ]
        rfl
      refine pure_ (i := 13) (N := some 84) (v := ?_) (a' := ?_) #[true, true, true, true, true, true, true, true, true, true, true, true, true, true, false, false, false, false] rfl rfl (by kernel_rfl) (fun _ _ _ h => h) (Or.inl ⟨by rfl, ?_⟩) ?_ ?_
      rotate_left
      · intro w'
        go_simp
        with_reducible rfl
      rotate_left
      · simp only [Act.put, List.setIfInBounds_toArray, List.set_cons_zero, List.set_cons_succ]
        rfl
      refine pure_ (i := 14) (N := some 85) (v := ?_) (a' := ?_) #[true, true, true, true, true, true, true, true, true, true, true, true, true, true, true, false, false, false] rfl rfl (by kernel_rfl) (fun _ _ _ h => h) (Or.inl ⟨by rfl, ?_⟩) ?_ ?_
      rotate_left
      · intro w'
        go_simp
        with_reducible rfl
      rotate_left
      · simp only [Act.put, List.setIfInBounds_toArray, List.set_cons_zero, List.set_cons_succ]
        rfl
      refine pure_ (i := 15) (N := some 10) (v := ?_) (a' := ?_) #[true, true, true, true, true, true, true, true, true, true, true, true, true, true, true, true, false, false] rfl rfl (by kernel_rfl) (fun _ _ _ h => h) (Or.inl ⟨by rfl, ?_⟩) ?_ ?_
      rotate_left
      · intro w'
        go_simp
        with_reducible rfl
      rotate_left
      · simp only [Act.put, List.setIfInBounds_toArray, List.set_cons_zero, List.set_cons_succ]
        rfl
      refine pure_ (i := 16) (N := some 11) (v := ?_) (a' := ?_) #[true, true, true, true, true, true, true, true, true, true, true, true, true, true, true, true, true, false] rfl rfl (by kernel_rfl) (fun _ _ _ h => h) (Or.inl ⟨by rfl, ?_⟩) ?_ ?_
      rotate_left
      · intro w'
        go_simp
        with_reducible rfl
      rotate_left
      · simp only [Act.put, List.setIfInBounds_toArray, List.set_cons_zero, List.set_cons_succ]
        rfl
      refine pure_ (i := 17) (N := some 12) (v := ?_) (a' := ?_) #[true, true, true, true, true, true, true, true, true, true, true, true, true, true, true, true, true, true] rfl rfl (by kernel_rfl) (fun _ _ _ h => h) (Or.inl ⟨by rfl, ?_⟩) ?_ ?_
      rotate_left
      · intro w'
        go_simp
        with_reducible rfl
      rotate_left
      · simp only [Act.put, List.setIfInBounds_toArray, List.set_cons_zero, List.set_cons_succ]
        rfl
      refine done_ (by kernel_rfl) ?_
      have HS4 : Aside0 ((fun w' : World => w'.cell? ⟨w.heap.size, 0, none⟩ = some (.int .i64 c.f0) ∧ w'.cell? ⟨w.heap.size, 1, none⟩ = some (.slice A1 c.f1.length k1) ∧ w'.cell? ⟨w.heap.size, 2, none⟩ = some (.slice A2 c.f2.length k2) ∧ w'.cell? ⟨w.heap.size, 3, none⟩ = some (.slice A3 c.f3.length k3) ∧ w'.cell? ⟨w.heap.size, 4, none⟩ = some (.slice A4 c.f4.length k4) ∧ w'.cell? (od.add i) = some (.slice Ax st.length cx) ∧ w'.cell? ⟨w.heap.size + 1, 1, none⟩ = some (.slice (some bd) t.f1.length QC1) ∧ w'.cell? (bd.add i) = some (.slice Ay ins.length cy)) w4) := ⟨⟨pw_cell_below HB4.out HSS.out.1, pw_cell_below HB4.out HSS.out.2.1, pw_cell_below HB4.out HSS.out.2.2.1, pw_cell_below HB4.out HSS.out.2.2.2.1, pw_cell_below HB4.out HSS.out.2.2.2.2.1, pw_cell_below HB4.out HSS.out.2.2.2.2.2.1, pw_cell_below HB4.out HSS.out.2.2.2.2.2.2.1, pw_cell_below HB4.out HSS.out.2.2.2.2.2.2.2⟩⟩
      clear HSS HB4 K KD BW BD HRX HRY RK
      obtain ⟨r, hr⟩ : ∃ r, holdsOf c st ins = r := ⟨_, rfl⟩
      rw [hr]
      have HRV := Aside0.mk (HFK.out.trans hr)
      clear hr
      have hA : (decide ((i : Int) < (n : Int)) && !r) = false := by
        by_cases h : i < n
        · rw [← HRV.out, HN.out.2.1 i HKF.out h]; simp
        · rw [decide_eq_false (by omega), Bool.false_and]
      have hB : ((i : Int) == (n : Int) && r) = false := by
        by_cases h : i = n
        · subst h
          rw [← HRV.out, HN.out.2.2 HKF.out]; simp
        · rw [beq_eq_false_iff_ne.mpr (by omega), Bool.false_and]
      obtain ⟨a1, ha1⟩ : ∃ a, decide ((i : Int) < (n : Int)) = a := ⟨_, rfl⟩
      have ha1' : decide (i < n) = a1 := by rw [← ha1]; simp
      obtain ⟨a2, ha2⟩ : ∃ a, ((i : Int) == (n : Int)) = a := ⟨_, rfl⟩
      rw [ha1] at hA
      rw [ha2] at hB
      cases r <;> cases a1 <;> cases a2 <;> first | (exfalso; revert hA hB; decide) | skip
      all_goals clear hA hB
      all_goals
        have hwi : wrap64 ((i : Int) + 1) = ((i + 1 : Nat) : Int) := (wrap_in (x := (i : Int) + 1) (by omega) (by have := HLT.out; have := HC.out.2.1; omega)).trans (by omega)
        have HWI := Aside0.mk hwi
        by_cases hlast : i + 1 = t.f1.length
        · have hld : (((i + 1 : Nat) : Int) == (t.f1.length : Int)) = true := by rw [hlast]; exact beq_self_eq_true _
          have hld2 : ((i : Int) + 1 == (t.f1.length : Int)) = true := by rw [beq_iff_eq]; omega
          clear hlast
          go_wp2_with fail
          refine (law06_alive _).mono ?_
          rintro e w8 ⟨rfl, hb⟩
          have B8 := Aside0.mk (K4.out.BW.trans (hb.mono K4.out.BW.size))
          clear hb
          go_wp2
          go_ret
          exact ⟨rfl, B8.out⟩
        · have hld : (((i + 1 : Nat) : Int) == (t.f1.length : Int)) = false := by rw [beq_eq_false_iff_ne]; omega
          have hld2 : ((i : Int) + 1 == (t.f1.length : Int)) = false := by rw [beq_eq_false_iff_ne]; omega
          have hi1 : i + 1 < t.f1.length := by have := HLT.out; omega
          have HI1 := Aside0.mk hi1
          clear hlast
          have KD5 := Aside0.mk (K4.out.below (below_drew (Below.refl _ _)))
          have BD5 := Aside0.mk (B4.out.trans ((below_drew (Below.refl w4.heap.size w4)).mono B4.out.size))
          have HRX5 := Aside0.mk (HRX4.out.below (below_drew (Below.refl _ _)))
          have HRY5 := Aside0.mk (HRY4.out.below (below_drew (Below.refl _ _)))
          go_wp2
          refine start_ (n := 16) (S := (fun w' => w'.cell? ⟨w.heap.size, 0, none⟩ = some (.int .i64 c.f0) ∧ w'.cell? ⟨w.heap.size, 1, none⟩ = some (.slice A1 c.f1.length k1) ∧ w'.cell? ⟨w.heap.size, 2, none⟩ = some (.slice A2 c.f2.length k2) ∧ w'.cell? ⟨w.heap.size, 3, none⟩ = some (.slice A3 c.f3.length k3) ∧ w'.cell? ⟨w.heap.size, 4, none⟩ = some (.slice A4 c.f4.length k4) ∧ w'.cell? (od.add i) = some (.slice Ax st.length cx) ∧ w'.cell? ⟨w.heap.size + 1, 1, none⟩ = some (.slice (some bd) t.f1.length QC1) ∧ w'.cell? (bd.add i) = some (.slice Ay ins.length cy))) (ds := []) #[false, false, false, false, false, false, false, false, false, false, false, false, false, false, false, false] (by kernel_rfl) rfl rfl HS4.out (fun hHeld => ?_)
          refine take_ (i := 0) (N := some 111) (v := ?_) (a' := ?_) #[true, false, false, false, false, false, false, false, false, false, false, false, false, false, false, false] rfl rfl (by kernel_rfl) (fun _ _ _ h => h) (Or.inl ⟨by rfl, ?_⟩) hHeld ?_ ?_
          rotate_left
          · rintro w' ⟨s0, s1, s2, s3, s4, s5, s6, s7⟩
            go_simp
            with_reducible rfl
          rotate_left
          · simp only [Act.put, List.setIfInBounds_toArray, List.set_cons_zero, List.set_cons_succ]
            rfl
          refine pure_ (i := 1) (N := some 112) (v := ?_) (a' := ?_) #[true, true, false, false, false, false, false, false, false, false, false, false, false, false, false, false] rfl rfl (by kernel_rfl) (fun _ _ _ h => h) (Or.inl ⟨by rfl, ?_⟩) ?_ ?_
          rotate_left
          · intro w'
            go_simp
            with_reducible rfl
          rotate_left
          · simp only [Act.put, List.setIfInBounds_toArray, List.set_cons_zero, List.set_cons_succ]
            rfl
          refine pure_ (i := 2) (N := some 113) (v := ?_) (a' := ?_) #[true, true, true, false, false, false, false, false, false, false, false, false, false, false, false, false] rfl rfl (by kernel_rfl) (fun _ _ _ h => h) (Or.inl ⟨by rfl, ?_⟩) ?_ ?_
          rotate_left
          · intro w'
            go_simp
            with_reducible rfl
          rotate_left
          · simp only [Act.put, List.setIfInBounds_toArray, List.set_cons_zero, List.set_cons_succ]
            rfl
          refine pure_ (i := 3) (N := some 114) (v := ?_) (a' := ?_) #[true, true, true, true, false, false, false, false, false, false, false, false, false, false, false, false] rfl rfl (by kernel_rfl) (fun _ _ _ h => h) (Or.inl ⟨by rfl, ?_⟩) ?_ ?_
          rotate_left
          · intro w'
            go_simp
            with_reducible rfl
          rotate_left
          · simp only [Act.put, List.setIfInBounds_toArray, List.set_cons_zero, List.set_cons_succ]
            rfl
          refine take_ (i := 4) (N := some 115) (v := ?_) (a' := ?_) #[true, true, true, true, true, false, false, false, false, false, false, false, false, false, false, false] rfl rfl (by kernel_rfl) (fun _ _ _ h => h) (Or.inl ⟨by rfl, ?_⟩) hHeld ?_ ?_
          rotate_left
          · rintro w' ⟨s0, s1, s2, s3, s4, s5, s6, s7⟩
            go_simp
            with_reducible rfl
          rotate_left
          · simp only [Act.put, List.setIfInBounds_toArray, List.set_cons_zero, List.set_cons_succ]
            rfl
          refine pure_ (i := 5) (N := some 116) (v := ?_) (a' := ?_) #[true, true, true, true, true, true, false, false, false, false, false, false, false, false, false, false] rfl rfl (by kernel_rfl) (fun _ _ _ h => h) (Or.inl ⟨by rfl, ?_⟩) ?_ ?_
          rotate_left
          · intro w'
            go_simp
            with_reducible rfl
          rotate_left
          · simp only [Act.put, List.setIfInBounds_toArray, List.set_cons_zero, List.set_cons_succ]
            rfl
          refine take_ (i := 6) (N := some 117) (v := ?_) (a' := ?_) #[true, true, true, true, true, true, true, false, false, false, false, false, false, false, false, false] rfl rfl (by kernel_rfl) (fun _ _ _ h => h) (Or.inl ⟨by rfl, ?_⟩) hHeld ?_ ?_
          rotate_left
          · rintro w' ⟨s0, s1, s2, s3, s4, s5, s6, s7⟩
            go_simp
            with_reducible rfl
          rotate_left
          · simp only [Act.put, List.setIfInBounds_toArray, List.set_cons_zero, List.set_cons_succ]
            rfl
          refine pure_ (i := 7) (N := some 118) (v := ?_) (a' := ?_) #[true, true, true, true, true, true, true, true, false, false, false, false, false, false, false, false] rfl rfl (by kernel_rfl) (fun _ _ _ h => h) (Or.inl ⟨by rfl, ?_⟩) ?_ ?_
          rotate_left
          · intro w'
            go_simp
            with_reducible rfl
          rotate_left
          · simp only [Act.put, List.setIfInBounds_toArray, List.set_cons_zero, List.set_cons_succ]
            rfl
          refine pure_ (i := 8) (N := some 119) (v := ?_) (a' := ?_) #[true, true, true, true, true, true, true, true, true, false, false, false, false, false, false, false] rfl rfl (by kernel_rfl) (fun _ _ _ h => h) (Or.inl ⟨by rfl, ?_⟩) ?_ ?_
          rotate_left
          · intro w'
            go_simp
            with_reducible rfl
          rotate_left
          · simp only [Act.put, List.setIfInBounds_toArray, List.set_cons_zero, List.set_cons_succ]
            rfl
          refine take_ (i := 9) (N := some 120) (v := ?_) (a' := ?_) #[true, true, true, true, true, true, true, true, true, true, false, false, false, false, false, false] rfl rfl (by kernel_rfl) (fun _ _ _ h => h) (Or.inl ⟨by rfl, ?_⟩) hHeld ?_ ?_
          rotate_left
          · rintro w' ⟨s0, s1, s2, s3, s4, s5, s6, s7⟩
            go_simp
            with_reducible rfl
          rotate_left
          · simp only [Act.put, List.setIfInBounds_toArray, List.set_cons_zero, List.set_cons_succ]
            rfl
          refine one_ (i := 10) (N := some 121) #[true, true, true, true, true, true, true, true, true, true, true, false, false, false, false, false] rfl rfl (by kernel_rfl) (by decide) (fun K hK => ?_)
          refine goes_ Try.func31 (by kernel_rfl) rfl #[.agg #[.int .i64 c.f0, .slice A1 c.f1.length k1, .slice A2 c.f2.length k2, .slice A3 c.f3.length k3, .slice A4 c.f4.length k4], .slice Ax st.length cx, .slice Ay ins.length cy] (by rfl) rfl rfl (by simp only [List.map_toArray, List.map_cons, List.map_nil] <;> rfl) ?_
          refine (values_Next ⟨A1, k1, A2, k2, A3, k3, A4, k4⟩ c Ax cx st Ay cy ins _ (HR.out.below KD5.out.BW) FC.out HRX5.out HRY5.out HC.out.1 HSTL.out HINS.out (check_lits HC.out.1).1).mono ?_
          rintro e w6 ⟨A6, c6, rfl, hr6, hb⟩
          refine ⟨_, rfl, ?_⟩
          have HB6 := Aside0.mk hb
          have B6 := Aside0.mk (BD5.out.trans (hb.mono BD5.out.size))
          have R6 := Aside0.mk (RS.of_R' hr6)
          clear hb hr6
          refine hK.out _ _ ⟨pw_cell_below HB6.out HS4.out.1, pw_cell_below HB6.out HS4.out.2.1, pw_cell_below HB6.out HS4.out.2.2.1, pw_cell_below HB6.out HS4.out.2.2.2.1, pw_cell_below HB6.out HS4.out.2.2.2.2.1, pw_cell_below HB6.out HS4.out.2.2.2.2.2.1, pw_cell_below HB6.out HS4.out.2.2.2.2.2.2.1, pw_cell_below HB6.out HS4.out.2.2.2.2.2.2.2⟩ (fun hHeld => ?_)
          clear hK K
          refine norm_ (a' := ?_) ?_ ?_
          rotate_left
          · show Act.put _ (some 121) _ = _
            simp only [Act.put, List.setIfInBounds_toArray, List.set_cons_zero, List.set_cons_succ]
            rfl
          refine pure_ (i := 11) (N := some 110) (v := ?_) (a' := ?_) #[true, true, true, true, true, true, true, true, true, true, true, true, false, false, false, false] rfl rfl (by kernel_rfl) (fun _ _ _ h => h) (Or.inl ⟨by rfl, ?_⟩) ?_ ?_
          rotate_left
          · intro w'
            go_simp
            with_reducible rfl
          rotate_left
          · simp only [Act.put, List.setIfInBounds_toArray, List.set_cons_zero, List.set_cons_succ]
            rfl
          refine pure_ (i := 12) (N := some 122) (v := ?_) (a' := ?_) #[true, true, true, true, true, true, true, true, true, true, true, true, true, false, false, false] rfl rfl (by kernel_rfl) (fun _ _ _ h => h) (Or.inl ⟨by rfl, ?_⟩) ?_ ?_
          rotate_left
          · intro w'
            go_simp
            with_reducible rfl
          rotate_left
          · simp only [Act.put, List.setIfInBounds_toArray, List.set_cons_zero, List.set_cons_succ]
            rfl
          refine pure_ (i := 13) (N := some 123) (v := ?_) (a' := ?_) #[true, true, true, true, true, true, true, true, true, true, true, true, true, true, false, false] rfl rfl (by kernel_rfl) (fun _ _ _ h => h) (Or.inl ⟨by rfl, ?_⟩) ?_ ?_
          rotate_left
          · intro w'
            go_simp
            with_reducible rfl
          rotate_left
          · simp only [Act.put, List.setIfInBounds_toArray, List.set_cons_zero, List.set_cons_succ]
            rfl
          refine pure_ (i := 14) (N := some 13) (v := ?_) (a' := ?_) #[true, true, true, true, true, true, true, true, true, true, true, true, true, true, true, false] rfl rfl (by kernel_rfl) (fun _ _ _ h => h) (Or.inl ⟨by rfl, ?_⟩) ?_ ?_
          rotate_left
          · intro w'
            go_simp
            with_reducible rfl
          rotate_left
          · simp only [Act.put, List.setIfInBounds_toArray, List.set_cons_zero, List.set_cons_succ]
            rfl
          refine pure_ (i := 15) (N := some 14) (v := ?_) (a' := ?_) #[true, true, true, true, true, true, true, true, true, true, true, true, true, true, true, true] rfl rfl (by kernel_rfl) (fun _ _ _ h => h) (Or.inl ⟨by rfl, ?_⟩) ?_ ?_
          rotate_left
          · intro w'
            go_simp
            with_reducible rfl
          rotate_left
          · simp only [Act.put, List.setIfInBounds_toArray, List.set_cons_zero, List.set_cons_succ]
            rfl
          refine done_ (by kernel_rfl) ?_
          clear HS4 HB6 K4 KD5 BD5 HRX4 HRY4 HRX5 HRY5
          have K6 := Aside0.mk (IZ.out.below B6.out)
          have hkl2 : i + 1 < (statesOf c t).length := by rw [HSL.out]; exact HI1.out
          obtain ⟨od3, Ax3, cx3, e3, hx3, hrx3⟩ := at_row (RZ.out.below B6.out).r (i + 1) hkl2
          cases e3
          rw [statesOf_at c t hkl2, HNX.out] at hx3 hrx3
          have hfd := add_field od 0 (i + 1) (by omega)
          rw [Nat.zero_add, add_nil] at hfd
          rw [hfd] at hx3
          clear hfd
          have HR3 := Aside0.mk hrx3
          clear hrx3 hkl2
          generalize nextOf c st ins = nx at *
          go_wp2_with fail
          refine (ref04_Same A6 c6 nx Ax3 cx3 nx _ R6.out HR3.out).mono ?_
          rintro e w7 ⟨rfl, hb⟩
          rw [decide_eq_true (rfl : nx = nx)]
          have B7 := Aside0.mk (B6.out.trans (hb.mono B6.out.size))
          clear hb hx3
          go_wp2
          go_roundg (t.f1.length - (i + 1))
          case measure => have := HX.out; have := HLT.out; omega
          case rel => exact ⟨i + 1, by rw [HWI.out], ⟨HLT.out, by have := HX.out; omega⟩, B7⟩
    · have hk : i = t.f1.length := by have := HX.out.1; omega
      have K := Aside0.mk (IZ.out.below BW.out)
      clear hk
      go_wp2_with fail
      refine (law06_alive _).mono ?_
      rintro e w8 ⟨rfl, hb⟩
      have B8 := Aside0.mk (K.out.BW.trans (hb.mono K.out.BW.size))
      clear hb
      go_wp2
      go_ret
      exact ⟨rfl, B8.out⟩
end Go.Proofs.Ytchhbkicplgmhaa.PH
