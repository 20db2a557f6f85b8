/- ref06.All. -/
import Derived.Test.YtchhbkicplgmhaaHRef04b
namespace Go.Proofs.Ytchhbkicplgmhaa.PH
open Go.RowKit Go.Proofs.YtchhbkicplgmhaaW.PrintWords Go.Proofs.YtchhbkicplgmhaaW.PrintLast
set_option linter.unusedVariables false
set_option linter.unusedSimpArgs false

/-- The states of all frames of a run that is right. -/
def statesOf (c : Circ) (t : Run) : List (List Bool) := (frames c t.f0 t.f1).map (fun f => f.1)
theorem statesOf_len (c : Circ) (t : Run) : (statesOf c t).length = t.f1.length := by unfold statesOf; rw [List.length_map, frames_len]
theorem statesOf_at (c : Circ) (t : Run) {k : Nat} (hk : k < (statesOf c t).length) : (statesOf c t)[k] = stateAt c t.f0 (t.f1.take k) := by
  have hk2 : k < t.f1.length := by rw [statesOf_len] at hk; exact hk
  simp only [statesOf, List.getElem_map]
  rw [frames_at c t.f1 t.f0 k hk2]
theorem statesOf_step (c : Circ) (t : Run) {k : Nat} (hk : k + 1 < t.f1.length) : (statesOf c t).take (k + 2) = (statesOf c t).take (k + 1) ++ [nextOf c (stateAt c t.f0 (t.f1.take k)) (t.f1[k]'(by omega))] := by
  have h1 : k + 1 < (statesOf c t).length := by rw [statesOf_len]; exact hk
  rw [show k + 2 = k + 1 + 1 from rfl, take_at h1, statesOf_at c t h1, stateAt_step c t.f1 t.f0 k (by omega)]
theorem statesOf_one (c : Circ) (t : Run) (h : 0 < t.f1.length) : (statesOf c t).take 1 = [t.f0] := by
  have h1 : 0 < (statesOf c t).length := by rw [statesOf_len]; exact h
  rw [show 1 = 0 + 1 from rfl, take_at h1, statesOf_at c t h1]
  rfl
/-- A list of rows comes back. -/
def RetRows (w w' : World) (l : List (List Bool)) (e : Ending) : Prop := ∃ O oc, e = .returned (.slice O l.length oc) ∧ RS (Kd.slice 4 Kd.bool) w' O oc l ∧ Below w.heap.size w w'
/-- What holds in ref06.All's loop. -/
structure AlI (w : World) (p : CP) (c : Circ) (q : TP) (t : Run) (O : Option Addr) (n oc : Nat) (l : List (List Bool)) (wr : World) : Prop where
  I : CkInv w p c q t wr
  R : Kd.R (Kd.slice 4 Kd.bool) 27 wr (w.heap.size + 2) (fun _ => True) (.slice O n oc) l
theorem AlI.below {w : World} {p : CP} {c : Circ} {q : TP} {t : Run} {O : Option Addr} {n oc : Nat} {l : List (List Bool)} {wr w2 : World} (h : AlI w p c q t O n oc l wr) (hb : Below wr.heap.size wr w2) : AlI w p c q t O n oc l w2 := ⟨h.I.below hb, Kd.R_below h.R hb⟩
theorem CkInv.above {w : World} {p : CP} {c : Circ} {q : TP} {t : Run} {wr w2 : World} (h : CkInv w p c q t wr) (hb : Below (w.heap.size + 2) wr w2) : CkInv w p c q t w2 :=
  ⟨h.BW.trans (hb.mono (by omega)), (hb.block _ (by omega)).trans h.B0, (hb.block _ (by omega)).trans h.B1⟩
set_option maxHeartbeats 8000000 in
set_option maxRecDepth 100000 in
theorem ref06_All (p : CP) (c : Circ) (q : TP) (t : Run) (w : World) (h : RC w p c) (hs : c.Fits) (ht : RT w q t) (hc : tCheck c t = 0) :
    Calls Try.prog 40 #[cv p c, tv q t] w fun e w' => RetRows w w' (statesOf c t) e := by
  obtain ⟨A1, k1, A2, k2, A3, k3, A4, k4⟩ := p
  obtain ⟨QA0, QC0, QA1, QC1⟩ := q
  have HR := Aside0.mk h
  have HT := Aside0.mk ht
  have HF := Aside0.mk hs
  have HC := Aside0.mk (tCheck_ok hc)
  have I := Aside0.mk (CkInv.start w ⟨A1, k1, A2, k2, A3, k3, A4, k4⟩ c ⟨QA0, QC0, QA1, QC1⟩ t)
  have hu26 := Try.underlying26
  have hu30 := Try.underlying30
  obtain ⟨g0, g1, g2, g3, g4⟩ := (blk5w I.out.B0).1
  obtain ⟨u0, u1⟩ := (blk2t I.out.B1).1
  have HL0 := Aside0.mk (show t.f0.length ≤ 4000000 by rw [HC.out.2.2.2.1]; exact hs.h1)
  have HSZ := Aside0.mk (show w.heap.size + 2 ≤ ((w.alloc (.cells #[.int .i64 c.f0, .slice A1 c.f1.length k1, .slice A2 c.f2.length k2, .slice A3 c.f3.length k3, .slice A4 c.f4.length k4] 26)).alloc (.cells #[.slice QA0 t.f0.length QC0, .slice QA1 t.f1.length QC1] 30)).heap.size by simp)
  obtain ⟨w0, hw0⟩ : ∃ w0, ((w.alloc (.cells #[.int .i64 c.f0, .slice A1 c.f1.length k1, .slice A2 c.f2.length k2, .slice A3 c.f3.length k3, .slice A4 c.f4.length k4] 26)).alloc (.cells #[.slice QA0 t.f0.length QC0, .slice QA1 t.f1.length QC1] 30)) = w0 := ⟨_, rfl⟩
  clear h hs ht hc
  dsimp only [cv, tv] at *
  rw [hw0] at HSZ I g0 g1 g2 g3 g4 u0 u1
  go_enter Try.func40, Try.ntmps40
  go_wp2_with (first | ((with_reducible refine gate_dst (N := 7) rfl ?_); clear hw0; go_loud (refine Kd.R_lit Kd.bool (w0 := w0) (w.heap.size + 2) 4 ?hg (N := 7) ?hd (xs := []) (inner := []) (ok := fun _ => True) (okp := fun _ => True) ?hr ?hp (fun _ hk => hk) trivial (Below.refl _ _) HSZ.out (by simp) ?_); (case hd => rfl); (case hg => rfl); (case hr => first | (go_simp; done) | (go_simp; rfl)); (case hp => exact (Reps.none _ _)); intro v1 w1 ho1 hb1 hg1 hnew1; clear hg1 hnew1; have HO1 := Aside0.mk ho1; have I1 := Aside0.mk (I.out.above hb1); have HS1 := Aside0.mk (Nat.le_trans HSZ.out hb1.size); clear ho1 hb1 I g0 g1 g2 g3 g4 u0 u1; obtain ⟨u0, u1⟩ := (blk2t I1.out.B1).1) | ((with_reducible refine gate_dst (N := 10) rfl ?_); go_loud (refine Kd.R_append_row Value.bool false (h1 := fun _ => rfl) (w0 := w1) (w.heap.size + 2) rfl (.tmp 7) (.tmp 9) 27 4 (.bool false) 1 rfl Try.underlying27 infoBool rfl (by omega) v1 [] t.f0 _ _ _ (fun _ => True) rfl rfl ?aF ?aO ?aR ?aB ?aS ?aL ?_); (case aF => exact fun _ _ => trivial); (case aO => exact HO1.out); (case aR => exact (HT.out.below I1.out.BW).s0.r); (case aB => exact Below.refl _ _); (case aS => exact HS1.out); (case aL => have := HL0.out; simp; omega); intro v2 w2 ho hb hg hat; obtain ⟨V2, cp2, rfl, _, _⟩ := Kd.R_reads ho; rw [List.nil_append] at ho ⊢; have HO2 : Aside0 (Kd.R Kd.bool 4 w2 (w.heap.size + 2) (fun _ => True) (.slice V2 t.f0.length cp2) t.f0) := ⟨ho⟩; have I2 := Aside0.mk (I1.out.above hb); have HS2 := Aside0.mk (Nat.le_trans HS1.out hb.size); clear ho hb hg hat I1 u0 u1) | ((with_reducible refine gate_dst (N := 11) rfl ?_); go_loud (refine Kd.R_lit (Kd.slice 4 Kd.bool) (w0 := w2) (w.heap.size + 2) 27 ?hg (N := 11) ?hd (xs := [t.f0]) (inner := [.slice V2 t.f0.length cp2]) (ok := fun _ => True) (okp := fun _ => True) ?hr ?hp (fun _ hk => hk) trivial (Below.refl _ _) HS2.out (by simp) ?_); (case hd => rfl); (case hg => rfl); (case hr => first | (go_simp; done) | (go_simp; rfl)); (case hp => exact (Reps.none _ _).snoc ⟨_, rfl, HO2.out⟩ rfl); intro v3 w3 ho1 hb1 hg1 hnew1; clear hg1 hnew1; obtain ⟨V3, cp3, rfl, _, _⟩ := Kd.R_reads ho1; have K0 : Aside0 (AlI w ⟨A1, k1, A2, k2, A3, k3, A4, k4⟩ c ⟨QA0, QC0, QA1, QC1⟩ t V3 1 cp3 [t.f0] w3) := ⟨⟨I2.out.above hb1, ho1⟩⟩; clear ho1 hb1 I2))
  have K00 : Aside0 (AlI w ⟨A1, k1, A2, k2, A3, k3, A4, k4⟩ c ⟨QA0, QC0, QA1, QC1⟩ t V3 1 cp3 ((statesOf c t).take 1) w3) := ⟨by rw [statesOf_one c t HC.out.2.2.1]; exact K0.out⟩
  clear K0 HO1 HO2 HS1 HS2 HSZ
  go_loopg [5, 6] t.f1.length (fun gg s5 s6 wr => ∃ (k : Nat) (O : Option Addr) (oc : Nat), s5 = .slice O (k + 1) oc ∧ s6 = .int .i64 k ∧ Aside0 (k + 1 ≤ t.f1.length ∧ t.f1.length - k ≤ gg) ∧ Aside0 (AlI w ⟨A1, k1, A2, k2, A3, k3, A4, k4⟩ c ⟨QA0, QC0, QA1, QC1⟩ t O (k + 1) oc ((statesOf c t).take (k + 1)) wr))
  case atStart => exact ⟨0, V3, cp3, rfl, rfl, ⟨by have := HC.out.2.2.1; omega, by omega⟩, K00⟩
  case round =>
    clear K00
    obtain ⟨k, O, oc, rfl, rfl, HX, K⟩ := hrel
    obtain ⟨g0, g1, g2, g3, g4⟩ := (blk5w K.out.I.B0).1
    obtain ⟨u0, u1⟩ := (blk2t K.out.I.B1).1
    have hwk : wrap64 ((k : Int) + 1) = ((k + 1 : Nat) : Int) := (wrap_in (x := (k : Int) + 1) (by omega) (by have := HX.out; have := HC.out.2.1; omega)).trans (by omega)
    by_cases hlt : k + 1 < t.f1.length
    · have hltI : ((k + 1 : Nat) : Int) < (t.f1.length : Int) := by omega
      have hk1 : k < t.f1.length := by omega
      have hlen : ((statesOf c t).take (k + 1)).length = k + 1 := by rw [List.length_take, statesOf_len]; omega
      have hkl : k < ((statesOf c t).take (k + 1)).length := by rw [hlen]; omega
      have hget : ((statesOf c t).take (k + 1))[k]'hkl = stateAt c t.f0 (t.f1.take k) := by rw [List.getElem_take, statesOf_at]
      obtain ⟨od, Ax, cx, e0, hx, hrx⟩ := at_row (RS.of_R' K.out.R).r k hkl
      obtain ⟨bd, Ay, cy, e1, hy, hry⟩ := at_row (HT.out.below K.out.I.BW).s1.r k hk1
      rw [hget] at hx hrx
      have HSTP := Aside0.mk (statesOf_step c t hlt)
      have HSTL := Aside0.mk (stateAt_len c HC.out.2.2.2.1 (t.f1.take k))
      have HINS := Aside0.mk (HC.out.2.2.2.2.2 t.f1[k] (List.getElem_mem hk1))
      have HLT := Aside0.mk hlt
      have HLEN := Aside0.mk hlen
      generalize (statesOf c t).take (k + 1) = L at *
      generalize stateAt c t.f0 (t.f1.take k) = st at *
      generalize t.f1[k] = ins at *
      cases e0
      cases e1
      have KD := Aside0.mk (K.out.below (below_drew (Below.refl _ _)))
      have HRX := Aside0.mk (hrx.below (below_drew (Below.refl _ _)))
      have HRY := Aside0.mk (hry.below (below_drew (Below.refl _ _)))
      have HSS := Aside0.mk (show (wr.cell? ⟨w.heap.size, 0, none⟩ = some (.int .i64 c.f0) ∧ wr.cell? ⟨w.heap.size, 1, none⟩ = some (.slice A1 c.f1.length k1) ∧ wr.cell? ⟨w.heap.size, 2, none⟩ = some (.slice A2 c.f2.length k2) ∧ wr.cell? ⟨w.heap.size, 3, none⟩ = some (.slice A3 c.f3.length k3) ∧ wr.cell? ⟨w.heap.size, 4, none⟩ = some (.slice A4 c.f4.length k4)) ∧ wr.cell? (od.add k) = some (.slice Ax st.length cx) ∧ wr.cell? ⟨w.heap.size + 1, 1, none⟩ = some (.slice (some bd) t.f1.length QC1) ∧ wr.cell? (bd.add k) = some (.slice Ay ins.length cy) from ⟨⟨g0, g1, g2, g3, g4⟩, hx, u1, hy⟩)
      clear hget hkl hrx hry hlen
      have hko : (k : Int) < (k : Int) + 1 := by omega
      have HWK := Aside0.mk hwk
      go_wp2
      refine start_ (n := 15) (S := (fun w' => w'.cell? ⟨w.heap.size, 0, none⟩ = some (.int .i64 c.f0) ∧ w'.cell? ⟨w.heap.size, 1, none⟩ = some (.slice A1 c.f1.length k1) ∧ w'.cell? ⟨w.heap.size, 2, none⟩ = some (.slice A2 c.f2.length k2) ∧ w'.cell? ⟨w.heap.size, 3, none⟩ = some (.slice A3 c.f3.length k3) ∧ w'.cell? ⟨w.heap.size, 4, none⟩ = some (.slice A4 c.f4.length k4) ∧ w'.cell? (od.add k) = some (.slice Ax st.length cx) ∧ w'.cell? ⟨w.heap.size + 1, 1, none⟩ = some (.slice (some bd) t.f1.length QC1) ∧ w'.cell? (bd.add k) = some (.slice Ay ins.length cy))) (ds := [13]) #[false, false, false, false, false, false, false, false, false, false, false, false, false, false, false] (by kernel_rfl) rfl rfl ⟨g0, g1, g2, g3, g4, hx, u1, hy⟩ (fun hHeld => ?_)
      clear g0 g1 g2 g3 g4 u0 u1 hx hy
      refine pure_ (i := 0) (N := some 20) (v := ?_) (a' := ?_) #[true, false, false, false, false, false, false, false, false, false, false, false, false, false, false] rfl rfl (by kernel_rfl) (fun _ _ _ h => h) (Or.inl ⟨by rfl, ?_⟩) ?_ ?_
      rotate_left
      · intro w'
        go_simp
        with_reducible rfl
      rotate_left
      · simp only [Act.put, List.setIfInBounds_toArray, List.set_cons_zero, List.set_cons_succ]
        rfl
      refine take_ (i := 1) (N := some 21) (v := ?_) (a' := ?_) #[true, true, false, false, false, false, false, false, false, false, false, false, false, false, false] rfl rfl (by kernel_rfl) (fun _ _ _ h => h) (Or.inl ⟨by rfl, ?_⟩) hHeld ?_ ?_
      rotate_left
      · rintro w' ⟨s0, s1, s2, s3, s4, s5, s6, s7⟩
        go_simp
        with_reducible rfl
      rotate_left
      · simp only [Act.put, List.setIfInBounds_toArray, List.set_cons_zero, List.set_cons_succ]
        rfl
      refine pure_ (i := 2) (N := some 22) (v := ?_) (a' := ?_) #[true, true, true, false, false, false, false, false, false, false, false, false, false, false, false] rfl rfl (by kernel_rfl) (fun _ _ _ h => h) (Or.inl ⟨by rfl, ?_⟩) ?_ ?_
      rotate_left
      · intro w'
        go_simp
        with_reducible rfl
      rotate_left
      · simp only [Act.put, List.setIfInBounds_toArray, List.set_cons_zero, List.set_cons_succ]
        rfl
      refine pure_ (i := 3) (N := some 23) (v := ?_) (a' := ?_) #[true, true, true, true, false, false, false, false, false, false, false, false, false, false, false] rfl rfl (by kernel_rfl) (fun _ _ _ h => h) (Or.inl ⟨by rfl, ?_⟩) ?_ ?_
      rotate_left
      · intro w'
        go_simp
        with_reducible rfl
      rotate_left
      · simp only [Act.put, List.setIfInBounds_toArray, List.set_cons_zero, List.set_cons_succ]
        rfl
      refine pure_ (i := 4) (N := some 24) (v := ?_) (a' := ?_) #[true, true, true, true, true, false, false, false, false, false, false, false, false, false, false] rfl rfl (by kernel_rfl) (fun _ _ _ h => h) (Or.inl ⟨by rfl, ?_⟩) ?_ ?_
      rotate_left
      · intro w'
        go_simp
        with_reducible rfl
      rotate_left
      · simp only [Act.put, List.setIfInBounds_toArray, List.set_cons_zero, List.set_cons_succ]
        rfl
      refine take_ (i := 5) (N := some 25) (v := ?_) (a' := ?_) #[true, true, true, true, true, true, false, false, false, false, false, false, false, false, false] rfl rfl (by kernel_rfl) (fun _ _ _ h => h) (Or.inl ⟨by rfl, ?_⟩) hHeld ?_ ?_
      rotate_left
      · rintro w' ⟨s0, s1, s2, s3, s4, s5, s6, s7⟩
        go_simp
        with_reducible rfl
      rotate_left
      · simp only [Act.put, List.setIfInBounds_toArray, List.set_cons_zero, List.set_cons_succ]
        rfl
      refine pure_ (i := 6) (N := some 26) (v := ?_) (a' := ?_) #[true, true, true, true, true, true, true, false, false, false, false, false, false, false, false] rfl rfl (by kernel_rfl) (fun _ _ _ h => h) (Or.inl ⟨by rfl, ?_⟩) ?_ ?_
      rotate_left
      · intro w'
        go_simp
        with_reducible rfl
      rotate_left
      · simp only [Act.put, List.setIfInBounds_toArray, List.set_cons_zero, List.set_cons_succ]
        rfl
      refine take_ (i := 7) (N := some 27) (v := ?_) (a' := ?_) #[true, true, true, true, true, true, true, true, false, false, false, false, false, false, false] rfl rfl (by kernel_rfl) (fun _ _ _ h => h) (Or.inl ⟨by rfl, ?_⟩) hHeld ?_ ?_
      rotate_left
      · rintro w' ⟨s0, s1, s2, s3, s4, s5, s6, s7⟩
        go_simp
        with_reducible rfl
      rotate_left
      · simp only [Act.put, List.setIfInBounds_toArray, List.set_cons_zero, List.set_cons_succ]
        rfl
      refine pure_ (i := 8) (N := some 28) (v := ?_) (a' := ?_) #[true, true, true, true, true, true, true, true, true, false, false, false, false, false, false] rfl rfl (by kernel_rfl) (fun _ _ _ h => h) (Or.inl ⟨by rfl, ?_⟩) ?_ ?_
      rotate_left
      · intro w'
        go_simp
        with_reducible rfl
      rotate_left
      · simp only [Act.put, List.setIfInBounds_toArray, List.set_cons_zero, List.set_cons_succ]
        rfl
      refine pure_ (i := 9) (N := some 29) (v := ?_) (a' := ?_) #[true, true, true, true, true, true, true, true, true, true, false, false, false, false, false] rfl rfl (by kernel_rfl) (fun _ _ _ h => h) (Or.inl ⟨by rfl, ?_⟩) ?_ ?_
      rotate_left
      · intro w'
        go_simp
        with_reducible rfl
      rotate_left
      · simp only [Act.put, List.setIfInBounds_toArray, List.set_cons_zero, List.set_cons_succ]
        rfl
      refine take_ (i := 10) (N := some 30) (v := ?_) (a' := ?_) #[true, true, true, true, true, true, true, true, true, true, true, false, false, false, false] rfl rfl (by kernel_rfl) (fun _ _ _ h => h) (Or.inl ⟨by rfl, ?_⟩) hHeld ?_ ?_
      rotate_left
      · rintro w' ⟨s0, s1, s2, s3, s4, s5, s6, s7⟩
        go_simp
        with_reducible rfl
      rotate_left
      · simp only [Act.put, List.setIfInBounds_toArray, List.set_cons_zero, List.set_cons_succ]
        rfl
      refine one_ (i := 11) (N := some 31) #[true, true, true, true, true, true, true, true, true, true, true, true, false, false, false] rfl rfl (by kernel_rfl) (by decide) (fun K hK => ?_)
      refine goes_ Try.func62 (by kernel_rfl) rfl #[.agg #[.int .i64 c.f0, .slice A1 c.f1.length k1, .slice A2 c.f2.length k2, .slice A3 c.f3.length k3, .slice A4 c.f4.length k4], .slice Ax st.length cx, .slice Ay ins.length cy] (by rfl) rfl rfl (by simp only [List.map_toArray, List.map_cons, List.map_nil] <;> rfl) ?_
      refine (ref04_After ⟨A1, k1, A2, k2, A3, k3, A4, k4⟩ c Ax cx st Ay cy ins _ (HR.out.below KD.out.I.BW) HF.out HRX.out HRY.out HC.out.1 HSTL.out HINS.out).mono ?_
      rintro e w4 ⟨A5, c5, rfl, hr5, hb5⟩
      refine ⟨_, rfl, ?_⟩
      have K4 := Aside0.mk (KD.out.below hb5)
      have HB5 := Aside0.mk hb5
      have HR5 := Aside0.mk hr5
      clear hr5 hb5
      refine hK.out _ _ ⟨pw_cell_below HB5.out HSS.out.1.1, pw_cell_below HB5.out HSS.out.1.2.1, pw_cell_below HB5.out HSS.out.1.2.2.1, pw_cell_below HB5.out HSS.out.1.2.2.2.1, pw_cell_below HB5.out HSS.out.1.2.2.2.2, pw_cell_below HB5.out HSS.out.2.1, pw_cell_below HB5.out HSS.out.2.2.1, pw_cell_below HB5.out HSS.out.2.2.2⟩ (fun hHeld => ?_)
      clear hK K
      refine norm_ (a' := ?_) ?_ ?_
      rotate_left
      · show Act.put _ (some 31) _ = _
        simp only [Act.put, List.setIfInBounds_toArray, List.set_cons_zero, List.set_cons_succ]
        rfl
      have HBA := Aside0.mk (HB5.out.trans ((below_alloc (Below.refl w4.heap.size w4) (.cells #[.slice A5 (nextOf c st ins).length c5] 27)).mono HB5.out.size))
      refine one_ (i := 12) (N := some 32) #[true, true, true, true, true, true, true, true, true, true, true, true, true, false, false] rfl rfl (by kernel_rfl) (by decide) (fun K hK => ?_)
      refine value_ (w1 := ?_) (v := ?_) (by rfl) rfl ?_ ?_
      rotate_left 2
      · go_simp
        constructor
        · rfl
        · rfl
      refine hK.out _ _ ⟨pw_cell_below HBA.out HSS.out.1.1, pw_cell_below HBA.out HSS.out.1.2.1, pw_cell_below HBA.out HSS.out.1.2.2.1, pw_cell_below HBA.out HSS.out.1.2.2.2.1, pw_cell_below HBA.out HSS.out.1.2.2.2.2, pw_cell_below HBA.out HSS.out.2.1, pw_cell_below HBA.out HSS.out.2.2.1, pw_cell_below HBA.out HSS.out.2.2.2⟩ (fun hHeld => ?_)
      clear hK K
      refine norm_ (a' := ?_) ?_ ?_
      rotate_left
      · show Act.put _ (some 32) _ = _
        simp only [Act.put, List.setIfInBounds_toArray, List.set_cons_zero, List.set_cons_succ]
        rfl
      refine last_ (i := 13) (N := some 33) #[true, true, true, true, true, true, true, true, true, true, true, true, true, true, false] rfl rfl (by kernel_rfl) (by decide) (fun K hK => ?_)
      refine Kd.R_append_step (Kd.slice 4 Kd.bool) (w0 := w4) (W := w4) (w.heap.size + 2) (by rfl) (.tmp 20) (.tmp 32) 28 27 (.slice none 0 0) 24 rfl Try.underlying28 infoRowB rfl (by decide) (by omega) (.slice (some od) (k + 1) oc) L (nextOf c st ins) [.slice A5 (nextOf c st ins).length c5] (fun _ => True) (fun q => some q ≠ (Value.slice (some od) (k + 1) oc).ownBlock) rfl rfl ?aP ?aK ?aF ?aO ?aB ?aS ?aL ?_
      case aP => exact ⟨_, rfl, Kd.R_lower (Kd.R_mono (Kd.R_new HR5.out (Kd.R_own KD.out.R).choose_spec) (fun q hq => hq.2)) (blk_lt KD.out.I.B1)⟩
      case aK => exact fun q hq => ⟨trivial, hq⟩
      case aF => exact fun _ _ => trivial
      case aO => exact K4.out.R
      case aB => exact Below.refl _ _
      case aS => exact blk_lt K4.out.I.B1
      case aL => have := HC.out.2.1; have := HX.out; have := HLEN.out; omega
      intro v1 w6 ho hb hg hat
      obtain ⟨V5, cap5, rfl, _, _⟩ := Kd.R_reads ho
      have e6 : (L ++ [nextOf c st ins]).length = k + 1 + 1 := by rw [List.length_append, HLEN.out]; rfl
      rw [e6] at ho ⊢
      have K6 := Aside0.mk (show AlI w ⟨A1, k1, A2, k2, A3, k3, A4, k4⟩ c ⟨QA0, QC0, some bd, QC1⟩ t V5 (k + 1 + 1) cap5 ((statesOf c t).take (k + 1 + 1)) w6 from ⟨K4.out.I.above hb, by
        rw [show k + 1 + 1 = k + 2 from rfl, HSTP.out]
        exact ho⟩)
      clear ho hb hg hat
      refine hK.out _ _ ?_
      clear hK
      refine norm_ (a' := ?_) ?_ ?_
      rotate_left
      · show Act.put _ (some 33) _ = _
        simp only [Act.put, List.setIfInBounds_toArray, List.set_cons_zero, List.set_cons_succ]
        rfl
      refine pure_ (i := 14) (N := some 5) (v := ?_) (a' := ?_) #[true, true, true, true, true, true, true, true, true, true, true, true, true, true, true] rfl rfl (by kernel_rfl) (fun _ _ _ h => h) (Or.inl ⟨by rfl, ?_⟩) ?_ ?_
      rotate_left
      · intro w'
        go_simp
        with_reducible rfl
      rotate_left
      · simp only [Act.put, List.setIfInBounds_toArray, List.set_cons_zero, List.set_cons_succ]
        rfl
      refine done_ (by kernel_rfl) ?_
      go_wp2
      go_roundg (t.f1.length - (k + 1))
      case measure => have := HX.out; have := HLT.out; omega
      case rel => exact ⟨k + 1, V5, cap5, rfl, by rw [HWK.out], ⟨HLT.out, by have := HX.out; omega⟩, K6⟩
    · have hk : k + 1 = t.f1.length := by have := HX.out.1; omega
      have hltI : ¬ ((k + 1 : Nat) : Int) < (t.f1.length : Int) := by omega
      have HRS := Aside0.mk (show RS (Kd.slice 4 Kd.bool) wr O oc (statesOf c t) from by
        have h_ := RS.of_R' K.out.R
        rw [hk, ← statesOf_len c t, List.take_length] at h_
        exact h_)
      have HSL := Aside0.mk (show (statesOf c t).length = k + 1 by rw [statesOf_len, hk])
      clear hk
      go_wp2
      go_ret
      exact ⟨O, oc, by rw [HSL.out]; rfl, HRS.out, K.out.I.BW⟩
end Go.Proofs.Ytchhbkicplgmhaa.PH
