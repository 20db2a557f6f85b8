/- ref06.States, Allowed, Right. -/
import Derived.Test.YtchhbkicplgmhaaHAll6
namespace Go.Proofs.Ytchhbkicplgmhaa.PH
open Go.RowKit Go.Proofs.YtchhbkicplgmhaaW.PrintWords Go.Proofs.YtchhbkicplgmhaaW.PrintLast
set_option linter.unusedVariables false
set_option linter.unusedSimpArgs false

theorem statesC_ok {c : Circ} {t : Run} (h : tCheck c t = 0) : statesC c t = (statesOf c t, 0) := by
  unfold statesC statesOf
  rw [walked_ok h, stop_end (fun _ _ => rfl), Nat.zero_add, List.take_length, h]
theorem statesC_no {c : Circ} {t : Run} (h : tCheck c t ≠ 0) : statesC c t = ([], tCheck c t) := by
  unfold statesC
  rw [walked_no h]
  rfl
theorem count_all {F : List Fr} : ∀ {k : Nat}, k ≤ F.length → (∀ j (hj : j < F.length), j < k → F[j].2.1 = true) → countR (F.take k) = k
  | 0, _, _ => rfl
  | k + 1, hk, h => by
    have h1 := count_all (F := F) (k := k) (by omega) (fun j hj hjk => h j hj (by omega))
    have h2 := h k (by omega) (by omega)
    rw [take_at (by omega : k < F.length)]
    unfold countR at h1 ⊢
    rw [List.countP_append, List.countP_singleton, if_pos h2]
    omega
theorem right_stop {F : List Fr} {k : Nat} (hk : k < F.length) (h : ∀ j (hj : j < F.length), j < k → F[j].2.1 = true) (hn : F[k].2.1 = false) : countR (walked F (fun _ f => f.2.1) 0) = k := by
  rw [walked_ok rfl, stop_here (i := 0) hk hn (fun j hj => h j (by omega) hj), Nat.zero_add, take_at hk]
  have h1 := count_all (F := F) (k := k) (by omega) h
  unfold countR at h1 ⊢
  rw [List.countP_append, List.countP_singleton, if_neg (by rw [hn]; decide)]
  omega
theorem right_end {F : List Fr} (h : ∀ j (hj : j < F.length), F[j].2.1 = true) : countR (walked F (fun _ f => f.2.1) 0) = F.length := by
  rw [walked_ok rfl, stop_end (fun j hj => h j hj), Nat.zero_add]
  exact count_all (Nat.le_refl _) (fun j hj _ => h j hj)
set_option maxHeartbeats 4000000 in
set_option maxRecDepth 100000 in
theorem ref06_States (p : CP) (c : Circ) (q : TP) (t : Run) (w : World) (h : RC w p c) (hs : c.Fits) (ht : RT w q t) :
    Calls Try.prog 16 #[cv p c, tv q t] w fun e w' => RetSt w w' (statesC c t) e := by
  have HR := Aside0.mk h
  have HT := Aside0.mk ht
  have HF := Aside0.mk hs
  have I := Aside0.mk (CkInv.start w p c q t)
  have hu26 := Try.underlying26
  have hu30 := Try.underlying30
  obtain ⟨g0, g1, g2, g3, g4⟩ := (blk5w I.out.B0).1
  obtain ⟨u0, u1⟩ := (blk2t I.out.B1).1
  obtain ⟨m, hm⟩ : ∃ m, statesC c t = m := ⟨_, rfl⟩
  rw [hm]
  have HM := Aside0.mk hm
  clear h hs ht hm
  go_enter Try.func16, Try.ntmps16
  go_wp2_with fail
  refine (ref06_Check p c q t _ (HR.out.below I.out.BW) HF.out (HT.out.below I.out.BW)).mono ?_
  rintro e w1 ⟨rfl, hb1⟩
  have I := Aside0.mk (I.out.below hb1)
  clear hb1 g0 g1 g2 g3 g4 u0 u1
  obtain ⟨g0, g1, g2, g3, g4⟩ := (blk5w I.out.B0).1
  obtain ⟨u0, u1⟩ := (blk2t I.out.B1).1
  by_cases hc : tCheck c t = 0
  · have HC := Aside0.mk hc
    rw [hc]
    clear hc
    go_wp2_with fail
    refine (ref06_All p c q t _ (HR.out.below I.out.BW) HF.out (HT.out.below I.out.BW) HC.out).mono ?_
    rintro e w2 ⟨O, oc, rfl, hrs, hb2⟩
    have HRS := Aside0.mk hrs
    have I2 := Aside0.mk (I.out.BW.trans (hb2.mono I.out.BW.size))
    clear hrs hb2
    go_wp2
    refine bodyPost_ret (results_tmp2 rfl _ _ _) rfl ?_
    exact ⟨O, oc, by rw [← HM.out, statesC_ok HC.out]; rfl, by rw [← HM.out, statesC_ok HC.out]; exact HRS.out, I2.out⟩
  · have hcd : (tCheck c t != 0) = true := bne_iff_ne.mpr hc
    have HC := Aside0.mk hc
    clear hc
    go_wp2_with fail
    refine (ref06_Check p c q t _ (HR.out.below I.out.BW) HF.out (HT.out.below I.out.BW)).mono ?_
    rintro e w2 ⟨rfl, hb2⟩
    have I2 := Aside0.mk (I.out.BW.trans (hb2.mono I.out.BW.size))
    clear hb2
    go_wp2
    refine bodyPost_ret (results_tmp2 rfl _ _ _) rfl ?_
    exact ⟨none, 0, by rw [← HM.out, statesC_no HC.out]; rfl, by rw [← HM.out, statesC_no HC.out]; exact RS.nil _ _ _, I2.out⟩
set_option maxHeartbeats 8000000 in
set_option maxRecDepth 100000 in
theorem ref06_Allowed (p : CP) (c : Circ) (q : TP) (t : Run) (w : World) (h : RC w p c) (hs : c.Fits) (ht : RT w q t) (hc : tCheck c t = 0) :
    Calls Try.prog 42 #[cv p c, tv q t] w fun e w' => e = .returned (.int .i64 (rightC c t).1) ∧ Below w.heap.size w w' := by
  obtain ⟨A1, k1, A2, k2, A3, k3, A4, k4⟩ := p
  obtain ⟨QA0, QC0, QA1, QC1⟩ := q
  have HR := Aside0.mk h
  have HT := Aside0.mk ht
  have HA := Aside0.mk (fun W (hb : Below w.heap.size w W) => ref06_All ⟨A1, k1, A2, k2, A3, k3, A4, k4⟩ c ⟨QA0, QC0, QA1, QC1⟩ t W (h.below hb) hs (ht.below hb) hc)
  have HC := Aside0.mk (tCheck_ok hc)
  have I := Aside0.mk (CkInv.start w ⟨A1, k1, A2, k2, A3, k3, A4, k4⟩ c ⟨QA0, QC0, QA1, QC1⟩ t)
  have hu26 := Try.underlying26
  have hu30 := Try.underlying30
  obtain ⟨g0, g1, g2, g3, g4⟩ := (blk5w I.out.B0).1
  obtain ⟨u0, u1⟩ := (blk2t I.out.B1).1
  obtain ⟨m, hm⟩ : ∃ m, (rightC c t).1 = m := ⟨_, rfl⟩
  rw [hm]
  have HMV := Aside0.mk (show countR (walked (frames c t.f0 t.f1) (fun _ f => f.2.1) 0) = m by rw [← hm, rightC, hc])
  have HSL := Aside0.mk (statesOf_len c t)
  clear h hs ht hc hm
  dsimp only [cv, tv] at *
  go_enter Try.func42, Try.ntmps42
  go_wp2_with fail
  refine (HA.out _ I.out.BW).mono ?_
  rintro e w1 ⟨O, oc, rfl, hrs, hb1⟩
  rw [HSL.out]
  have I1 := Aside0.mk (I.out.below hb1)
  have HRS := Aside0.mk hrs
  clear hb1 hrs g0 g1 g2 g3 g4 u0 u1 HA I
  go_wp2
  go_loopg [6] t.f1.length (fun gg s6 wr => ∃ (k : Nat), s6 = .int .i64 k ∧ Aside0 (k ≤ t.f1.length ∧ t.f1.length - k ≤ gg) ∧ Aside0 (Below w1.heap.size w1 wr) ∧ Aside0 (∀ j (hj : j < (frames c t.f0 t.f1).length), j < k → (frames c t.f0 t.f1)[j].2.1 = true))
  case atStart => exact ⟨0, rfl, ⟨by omega, by omega⟩, ⟨Below.refl _ _⟩, ⟨fun j hj hjk => absurd hjk (Nat.not_lt_zero _)⟩⟩
  case round =>
    obtain ⟨k, rfl, HX, BW, HGO⟩ := hrel
    by_cases hlt : k < t.f1.length
    · have K := Aside0.mk (I1.out.below BW.out)
      obtain ⟨g0, g1, g2, g3, g4⟩ := (blk5w K.out.B0).1
      obtain ⟨u0, u1⟩ := (blk2t K.out.B1).1
      have hkl : k < (statesOf c t).length := by rw [statesOf_len]; exact hlt
      have hkF : k < (frames c t.f0 t.f1).length := by rw [frames_len]; exact hlt
      have hget : (statesOf c t)[k]'hkl = stateAt c t.f0 (t.f1.take k) := statesOf_at c t hkl
      have hFk := frames_at c t.f1 t.f0 k hlt hkF
      obtain ⟨od, Ax, cx, e0, hx, hrx⟩ := at_row (HRS.out.below BW.out).r k hkl
      obtain ⟨bd, Ay, cy, e1, hy, hry⟩ := at_row (HT.out.below K.out.BW).s1.r k hlt
      rw [hget] at hx hrx
      have HSTL := Aside0.mk (stateAt_len c HC.out.2.2.2.1 (t.f1.take k))
      have HINS := Aside0.mk (HC.out.2.2.2.2.2 t.f1[k] (List.getElem_mem hlt))
      have HLT := Aside0.mk hlt
      have HFK := Aside0.mk (show ((frames c t.f0 t.f1)[k]'hkF).2.1 = holdsOf c (stateAt c t.f0 (t.f1.take k)) t.f1[k] by rw [hFk])
      have HKF := Aside0.mk hkF
      clear hget hFk
      generalize stateAt c t.f0 (t.f1.take k) = st at *
      generalize t.f1[k] = ins at *
      cases e0
      cases e1
      have BD := Aside0.mk (BW.out.trans ((below_drew (Below.refl wr.heap.size wr)).mono BW.out.size))
      have KD := Aside0.mk (K.out.below (below_drew (Below.refl _ _)))
      have HRX := Aside0.mk (hrx.below (below_drew (Below.refl _ _)))
      have HRY := Aside0.mk (hry.below (below_drew (Below.refl _ _)))
      have HSS := Aside0.mk (show (wr.cell? ⟨w.heap.size, 0, none⟩ = some (.int .i64 c.f0) ∧ wr.cell? ⟨w.heap.size, 1, none⟩ = some (.slice A1 c.f1.length k1) ∧ wr.cell? ⟨w.heap.size, 2, none⟩ = some (.slice A2 c.f2.length k2) ∧ wr.cell? ⟨w.heap.size, 3, none⟩ = some (.slice A3 c.f3.length k3) ∧ wr.cell? ⟨w.heap.size, 4, none⟩ = some (.slice A4 c.f4.length k4)) ∧ wr.cell? (od.add k) = some (.slice Ax st.length cx) ∧ wr.cell? ⟨w.heap.size + 1, 1, none⟩ = some (.slice (some bd) t.f1.length QC1) ∧ wr.cell? (bd.add k) = some (.slice Ay ins.length cy) from ⟨⟨g0, g1, g2, g3, g4⟩, hx, u1, hy⟩)
      clear hrx hry
      go_wp2
      refine start_ (n := 12) (S := (fun w' => w'.cell? ⟨w.heap.size, 0, none⟩ = some (.int .i64 c.f0) ∧ w'.cell? ⟨w.heap.size, 1, none⟩ = some (.slice A1 c.f1.length k1) ∧ w'.cell? ⟨w.heap.size, 2, none⟩ = some (.slice A2 c.f2.length k2) ∧ w'.cell? ⟨w.heap.size, 3, none⟩ = some (.slice A3 c.f3.length k3) ∧ w'.cell? ⟨w.heap.size, 4, none⟩ = some (.slice A4 c.f4.length k4) ∧ w'.cell? (od.add k) = some (.slice Ax st.length cx) ∧ w'.cell? ⟨w.heap.size + 1, 1, none⟩ = some (.slice (some bd) t.f1.length QC1) ∧ w'.cell? (bd.add k) = some (.slice Ay ins.length cy))) (ds := []) #[false, false, false, false, false, false, false, false, false, false, false, false] (by kernel_rfl) rfl rfl ⟨g0, g1, g2, g3, g4, hx, u1, hy⟩ (fun hHeld => ?_)
      clear g0 g1 g2 g3 g4 u0 u1 hx hy
      refine take_ (i := 0) (N := some 16) (v := ?_) (a' := ?_) #[true, false, false, false, false, false, false, false, false, false, false, false] rfl rfl (by kernel_rfl) (fun _ _ _ h => h) (Or.inl ⟨by rfl, ?_⟩) hHeld ?_ ?_
      rotate_left
      · rintro w' ⟨s0, s1, s2, s3, s4, s5, s6, s7⟩
        go_simp
        with_reducible rfl
      rotate_left
      · simp only [Act.put, List.setIfInBounds_toArray, List.set_cons_zero, List.set_cons_succ]
        rfl
      refine pure_ (i := 1) (N := some 17) (v := ?_) (a' := ?_) #[true, true, false, false, false, false, false, false, false, false, false, false] rfl rfl (by kernel_rfl) (fun _ _ _ h => h) (Or.inl ⟨by rfl, ?_⟩) ?_ ?_
      rotate_left
      · intro w'
        go_simp
        with_reducible rfl
      rotate_left
      · simp only [Act.put, List.setIfInBounds_toArray, List.set_cons_zero, List.set_cons_succ]
        rfl
      refine pure_ (i := 2) (N := some 18) (v := ?_) (a' := ?_) #[true, true, true, false, false, false, false, false, false, false, false, false] rfl rfl (by kernel_rfl) (fun _ _ _ h => h) (Or.inl ⟨by rfl, ?_⟩) ?_ ?_
      rotate_left
      · intro w'
        go_simp
        with_reducible rfl
      rotate_left
      · simp only [Act.put, List.setIfInBounds_toArray, List.set_cons_zero, List.set_cons_succ]
        rfl
      refine pure_ (i := 3) (N := some 19) (v := ?_) (a' := ?_) #[true, true, true, true, false, false, false, false, false, false, false, false] rfl rfl (by kernel_rfl) (fun _ _ _ h => h) (Or.inl ⟨by rfl, ?_⟩) ?_ ?_
      rotate_left
      · intro w'
        go_simp
        with_reducible rfl
      rotate_left
      · simp only [Act.put, List.setIfInBounds_toArray, List.set_cons_zero, List.set_cons_succ]
        rfl
      refine take_ (i := 4) (N := some 20) (v := ?_) (a' := ?_) #[true, true, true, true, true, false, false, false, false, false, false, false] rfl rfl (by kernel_rfl) (fun _ _ _ h => h) (Or.inl ⟨by rfl, ?_⟩) hHeld ?_ ?_
      rotate_left
      · rintro w' ⟨s0, s1, s2, s3, s4, s5, s6, s7⟩
        go_simp
        with_reducible rfl
      rotate_left
      · simp only [Act.put, List.setIfInBounds_toArray, List.set_cons_zero, List.set_cons_succ]
        rfl
      refine pure_ (i := 5) (N := some 21) (v := ?_) (a' := ?_) #[true, true, true, true, true, true, false, false, false, false, false, false] rfl rfl (by kernel_rfl) (fun _ _ _ h => h) (Or.inl ⟨by rfl, ?_⟩) ?_ ?_
      rotate_left
      · intro w'
        go_simp
        with_reducible rfl
      rotate_left
      · simp only [Act.put, List.setIfInBounds_toArray, List.set_cons_zero, List.set_cons_succ]
        rfl
      refine take_ (i := 6) (N := some 22) (v := ?_) (a' := ?_) #[true, true, true, true, true, true, true, false, false, false, false, false] rfl rfl (by kernel_rfl) (fun _ _ _ h => h) (Or.inl ⟨by rfl, ?_⟩) hHeld ?_ ?_
      rotate_left
      · rintro w' ⟨s0, s1, s2, s3, s4, s5, s6, s7⟩
        go_simp
        with_reducible rfl
      rotate_left
      · simp only [Act.put, List.setIfInBounds_toArray, List.set_cons_zero, List.set_cons_succ]
        rfl
      refine pure_ (i := 7) (N := some 23) (v := ?_) (a' := ?_) #[true, true, true, true, true, true, true, true, false, false, false, false] rfl rfl (by kernel_rfl) (fun _ _ _ h => h) (Or.inl ⟨by rfl, ?_⟩) ?_ ?_
      rotate_left
      · intro w'
        go_simp
        with_reducible rfl
      rotate_left
      · simp only [Act.put, List.setIfInBounds_toArray, List.set_cons_zero, List.set_cons_succ]
        rfl
      refine pure_ (i := 8) (N := some 24) (v := ?_) (a' := ?_) #[true, true, true, true, true, true, true, true, true, false, false, false] rfl rfl (by kernel_rfl) (fun _ _ _ h => h) (Or.inl ⟨by rfl, ?_⟩) ?_ ?_
      rotate_left
      · intro w'
        go_simp
        with_reducible rfl
      rotate_left
      · simp only [Act.put, List.setIfInBounds_toArray, List.set_cons_zero, List.set_cons_succ]
        rfl
      refine take_ (i := 9) (N := some 25) (v := ?_) (a' := ?_) #[true, true, true, true, true, true, true, true, true, true, false, false] rfl rfl (by kernel_rfl) (fun _ _ _ h => h) (Or.inl ⟨by rfl, ?_⟩) hHeld ?_ ?_
      rotate_left
      · rintro w' ⟨s0, s1, s2, s3, s4, s5, s6, s7⟩
        go_simp
        with_reducible rfl
      rotate_left
      · simp only [Act.put, List.setIfInBounds_toArray, List.set_cons_zero, List.set_cons_succ]
        rfl
      refine one_ (i := 10) (N := some 26) #[true, true, true, true, true, true, true, true, true, true, true, false] rfl rfl (by kernel_rfl) (by decide) (fun K hK => ?_)
      refine goes_ Try.func63 (by kernel_rfl) rfl #[.agg #[.int .i64 c.f0, .slice A1 c.f1.length k1, .slice A2 c.f2.length k2, .slice A3 c.f3.length k3, .slice A4 c.f4.length k4], .slice Ax st.length cx, .slice Ay ins.length cy] (by rfl) rfl rfl (by simp only [List.map_toArray, List.map_cons, List.map_nil] <;> rfl) ?_
      refine (ref04_Holds ⟨A1, k1, A2, k2, A3, k3, A4, k4⟩ c Ax cx st Ay cy ins _ (HR.out.below KD.out.BW) HRX.out HRY.out HC.out.1 HSTL.out HINS.out).mono ?_
      rintro e w4 ⟨rfl, hb5⟩
      refine ⟨_, rfl, ?_⟩
      have B4 := Aside0.mk (BD.out.trans (hb5.mono BD.out.size))
      have HB5 := Aside0.mk hb5
      clear hb5
      refine hK.out _ _ ⟨pw_cell_below HB5.out HSS.out.1.1, pw_cell_below HB5.out HSS.out.1.2.1, pw_cell_below HB5.out HSS.out.1.2.2.1, pw_cell_below HB5.out HSS.out.1.2.2.2.1, pw_cell_below HB5.out HSS.out.1.2.2.2.2, pw_cell_below HB5.out HSS.out.2.1, pw_cell_below HB5.out HSS.out.2.2.1, pw_cell_below HB5.out HSS.out.2.2.2⟩ (fun hHeld => ?_)
      clear hK K
      refine norm_ (a' := ?_) ?_ ?_
      rotate_left
      · show Act.put _ (some 26) _ = _
        simp only [Act.put, List.setIfInBounds_toArray, List.set_cons_zero, List.set_cons_succ]
        rfl
      refine pure_ (i := 11) (N := some 27) (v := ?_) (a' := ?_) #[true, true, true, true, true, true, true, true, true, true, true, true] rfl rfl (by kernel_rfl) (fun _ _ _ h => h) (Or.inl ⟨by rfl, ?_⟩) ?_ ?_
      rotate_left
      · intro w'
        go_simp
        with_reducible rfl
      rotate_left
      · simp only [Act.put, List.setIfInBounds_toArray, List.set_cons_zero, List.set_cons_succ]
        rfl
      refine done_ (by kernel_rfl) ?_
      cases hq : holdsOf c st ins with
      | true =>
        have HQ := Aside0.mk (HFK.out.trans hq)
        clear hq
        go_wp2
        go_roundg (t.f1.length - (k + 1))
        case measure => have := HX.out; have := HLT.out; omega
        case rel => exact ⟨k + 1, val_step HLT.out (by have := HC.out.2.1; omega), ⟨HLT.out, by have := HX.out; omega⟩, B4, ⟨fun j hj hjk => by
          by_cases e : j = k
          · subst e; exact HQ.out
          · exact HGO.out j hj (by omega)⟩⟩
      | false =>
        have HQ := Aside0.mk (show m = k by rw [← HMV.out]; exact right_stop HKF.out HGO.out (HFK.out.trans hq))
        clear hq
        go_wp2
        go_ret
        exact ⟨by rw [HQ.out]; rfl, I1.out.BW.trans (B4.out.mono I1.out.BW.size)⟩
    · have hk : k = t.f1.length := by have := HX.out.1; omega
      have HQ := Aside0.mk (show m = (t.f1.length : Int) by
        rw [← HMV.out, right_end (fun j hj => HGO.out j hj (by rw [frames_len] at hj; omega)), frames_len])
      clear hk
      go_wp2
      go_ret
      exact ⟨by rw [HQ.out]; rfl, I1.out.BW.trans (BW.out.mono I1.out.BW.size)⟩
set_option maxHeartbeats 4000000 in
set_option maxRecDepth 100000 in
theorem ref06_Right (p : CP) (c : Circ) (q : TP) (t : Run) (w : World) (h : RC w p c) (hs : c.Fits) (ht : RT w q t) :
    Calls Try.prog 18 #[cv p c, tv q t] w fun e w' => RetII w w' (rightC c t) e := by
  have HR := Aside0.mk h
  have HT := Aside0.mk ht
  have HF := Aside0.mk hs
  have I := Aside0.mk (CkInv.start w p c q t)
  have hu26 := Try.underlying26
  have hu30 := Try.underlying30
  obtain ⟨g0, g1, g2, g3, g4⟩ := (blk5w I.out.B0).1
  obtain ⟨u0, u1⟩ := (blk2t I.out.B1).1
  obtain ⟨m, hm⟩ : ∃ m, rightC c t = m := ⟨_, rfl⟩
  rw [hm]
  have HM := Aside0.mk hm
  clear h hs ht hm
  go_enter Try.func18, Try.ntmps18
  go_wp2_with fail
  refine (ref06_Check p c q t _ (HR.out.below I.out.BW) HF.out (HT.out.below I.out.BW)).mono ?_
  rintro e w1 ⟨rfl, hb1⟩
  have I := Aside0.mk (I.out.below hb1)
  clear hb1 g0 g1 g2 g3 g4 u0 u1
  obtain ⟨g0, g1, g2, g3, g4⟩ := (blk5w I.out.B0).1
  obtain ⟨u0, u1⟩ := (blk2t I.out.B1).1
  by_cases hc : tCheck c t = 0
  · have HC := Aside0.mk hc
    rw [hc]
    clear hc
    go_wp2_with fail
    refine (ref06_Allowed p c q t _ (HR.out.below I.out.BW) HF.out (HT.out.below I.out.BW) HC.out).mono ?_
    rintro e w2 ⟨rfl, hb2⟩
    have I2 := Aside0.mk (I.out.BW.trans (hb2.mono I.out.BW.size))
    clear hb2
    go_wp2
    refine bodyPost_ret (results_tmp2 rfl _ _ _) rfl ?_
    exact ⟨by rw [← HM.out, show rightC c t = ((rightC c t).1, 0) by rw [← HC.out]; rfl]; rfl, I2.out⟩
  · have hcd : (tCheck c t != 0) = true := bne_iff_ne.mpr hc
    have HC := Aside0.mk hc
    clear hc
    go_wp2_with fail
    refine (ref06_Check p c q t _ (HR.out.below I.out.BW) HF.out (HT.out.below I.out.BW)).mono ?_
    rintro e w2 ⟨rfl, hb2⟩
    have I2 := Aside0.mk (I.out.BW.trans (hb2.mono I.out.BW.size))
    clear hb2
    go_wp2
    refine bodyPost_ret (results_tmp2 rfl _ _ _) rfl ?_
    exact ⟨by rw [← HM.out, show rightC c t = (0, tCheck c t) by unfold rightC; rw [walked_no HC.out]; rfl]; rfl, I2.out⟩
end Go.Proofs.Ytchhbkicplgmhaa.PH
