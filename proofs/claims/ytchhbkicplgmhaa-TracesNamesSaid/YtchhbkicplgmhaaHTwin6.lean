/- ref06.Twin: a run's copy of its own. -/
import Derived.Test.YtchhbkicplgmhaaHRefR6
namespace Go.Proofs.Ytchhbkicplgmhaa.PH
open Go.RowKit Go.Proofs.YtchhbkicplgmhaaW.PrintWords Go.Proofs.YtchhbkicplgmhaaW.PrintLast
set_option linter.unusedVariables false
set_option linter.unusedSimpArgs false

/-- Rows of a run that are its own. -/
structure RTo (b : Nat) (w : World) (q : TP) (t : Run) : Prop where
  s0 : Kd.R Kd.bool 4 w b (fun _ => True) (.slice q.A0 t.f0.length q.c0) t.f0
  s1 : Kd.R (Kd.slice 4 Kd.bool) 27 w b (fun _ => True) (.slice q.A1 t.f1.length q.c1) t.f1
theorem RTo.rt {b : Nat} {w : World} {q : TP} {t : Run} (h : RTo b w q t) : RT w q t := ⟨RS.of_R' h.s0, RS.of_R' h.s1⟩
theorem RTo.below {b : Nat} {w w1 : World} {q : TP} {t : Run} (h : RTo b w q t) (hb : Below w.heap.size w w1) : RTo b w1 q t := ⟨Kd.R_below h.s0 hb, Kd.R_below h.s1 hb⟩
def RetTw (w w' : World) (t : Run) (e : Ending) : Prop := ∃ q, e = .returned (tv q t) ∧ RTo w.heap.size w' q t ∧ Below w.heap.size w w'
/-- What holds in ref06.Twin's loop. -/
structure TwiI (w : World) (QA0 : Option Addr) (QC0 : Nat) (QA1 : Option Addr) (QC1 : Nat) (t : Run) (gO : Nat) (F : Option Addr) (cf : Nat) (O : Option Addr) (k oc : Nat) (wr : World) : Prop where
  BW : Below w.heap.size w wr
  BT : wr.heap[w.heap.size]? = some (.cells #[.slice QA0 t.f0.length QC0, .slice QA1 t.f1.length QC1] 30 (0, 0))
  BR : wr.heap[w.heap.size + 1]? = some (.cells #[.slice none 0 0, .slice none 0 0] 30 (0, 0))
  BO : wr.heap[gO]? = some (.cells #[.slice F t.f0.length cf, .slice O k oc] 30 (0, 0))
  G : w.heap.size + 2 ≤ gO
  RF : Kd.R Kd.bool 4 wr (w.heap.size + 2) (fun q => q < gO) (.slice F t.f0.length cf) t.f0
  RO : Kd.R (Kd.slice 4 Kd.bool) 27 wr (w.heap.size + 2) (fun q => gO < q) (.slice O k oc) (t.f1.take k)
theorem TwiI.below {w : World} {QA0 : Option Addr} {QC0 : Nat} {QA1 : Option Addr} {QC1 : Nat} {t : Run} {gO : Nat} {F : Option Addr} {cf : Nat} {O : Option Addr} {k oc : Nat} {wr w2 : World} (h : TwiI w QA0 QC0 QA1 QC1 t gO F cf O k oc wr) (hb : Below wr.heap.size wr w2) : TwiI w QA0 QC0 QA1 QC1 t gO F cf O k oc w2 :=
  ⟨h.BW.trans (hb.mono h.BW.size), blk_below h.BT hb, blk_below h.BR hb, blk_below h.BO hb, h.G, Kd.R_below h.RF hb, Kd.R_below h.RO hb⟩
set_option maxHeartbeats 8000000 in
set_option maxRecDepth 100000 in
theorem ref06_Twin (q : TP) (t : Run) (w : World) (ht : RT w q t) (h1 : t.f0.length ≤ 4000000) (h2 : t.f1.length ≤ 4000000) (h3 : ∀ l ∈ t.f1, l.length ≤ 4000000) :
    Calls Try.prog 12 #[tv q t] w fun e w' => RetTw w w' t e := by
  obtain ⟨QA0, QC0, QA1, QC1⟩ := q
  have HT := Aside0.mk ht
  have HL0 := Aside0.mk h1
  have HL1 := Aside0.mk h2
  have HL2 := Aside0.mk h3
  have hu30 := Try.underlying30
  have NB := Aside0.mk (TwoT.start w ⟨QA0, QC0, QA1, QC1⟩ t ⟨none, 0, none, 0⟩ ⟨[], []⟩)
  have HSZ := Aside0.mk (show w.heap.size + 2 ≤ ((w.alloc (.cells #[.slice QA0 t.f0.length QC0, .slice QA1 t.f1.length QC1] 30)).alloc (.cells #[.slice none 0 0, .slice none 0 0] 30)).heap.size by simp)
  obtain ⟨u0, u1⟩ := (blk2t NB.out.B0).1
  obtain ⟨w0, hw0⟩ : ∃ w0, ((w.alloc (.cells #[.slice QA0 t.f0.length QC0, .slice QA1 t.f1.length QC1] 30)).alloc (.cells #[.slice none 0 0, .slice none 0 0] 30)) = w0 := ⟨_, rfl⟩
  have NB2 : Aside0 (TwoT w ⟨QA0, QC0, QA1, QC1⟩ t ⟨none, 0, none, 0⟩ ⟨[], []⟩ w0) := ⟨hw0 ▸ NB.out⟩
  rw [hw0] at HSZ
  have u0 : w0.cell? ⟨w.heap.size, 0, none⟩ = some (.slice QA0 t.f0.length QC0) := (blk2t NB2.out.B0).1.1
  have u1 : w0.cell? ⟨w.heap.size, 1, none⟩ = some (.slice QA1 t.f1.length QC1) := (blk2t NB2.out.B0).1.2
  clear ht h1 h2 h3 NB
  dsimp only [tv] at *
  go_enter Try.func12, Try.ntmps12
  go_wp2_with (first | ((with_reducible refine gate_dst (N := 5) rfl ?_); clear hw0; go_loud (refine Kd.R_lit Kd.bool (w0 := w0) (w.heap.size + 2) 4 ?hg (N := 5) ?hd (xs := []) (inner := []) (ok := fun _ => True) (okp := fun _ => True) ?hr ?hp (fun _ hk => hk) trivial (Below.refl _ _) HSZ.out (by simp) ?_); (case hd => rfl); (case hg => rfl); (case hr => first | (go_simp; done) | (go_simp; rfl)); (case hp => exact (Reps.none _ _)); intro v1 w1 ho1 hb1 hg1 hnew1; clear hg1 hnew1; have HO1 := Aside0.mk ho1; have B1 := Aside0.mk hb1; have HS1 := Aside0.mk (Nat.le_trans HSZ.out hb1.size); clear ho1 hb1 u0 u1; have u0 : w1.cell? ⟨w.heap.size, 0, none⟩ = some (.slice QA0 t.f0.length QC0) := (blk2t ((B1.out.block _ (by omega)).trans NB2.out.B0)).1.1) | ((with_reducible refine gate_dst (N := 8) rfl ?_); go_loud (refine Kd.R_append_row Value.bool false (h1 := fun _ => rfl) (w0 := w0) (w.heap.size + 2) rfl (.tmp 5) (.tmp 7) 27 4 (.bool false) 1 rfl Try.underlying27 infoBool rfl (by omega) v1 [] t.f0 _ _ _ (fun _ => True) rfl rfl ?aF ?aO ?aR ?aB ?aS ?aL ?_); (case aF => exact fun _ _ => trivial); (case aO => exact HO1.out); (case aR => exact (HT.out.below (NB2.out.BW.trans (B1.out.mono (by omega)))).s0.r); (case aB => exact B1.out); (case aS => exact HS1.out); (case aL => have := HL0.out; simp; omega); intro v2 w2 ho hb hg hat; obtain ⟨V2, cp2, rfl, _, _⟩ := Kd.R_reads ho; rw [List.nil_append] at ho ⊢; have HO2 : Aside0 (Kd.R Kd.bool 4 w2 (w.heap.size + 2) (fun _ => True) (.slice V2 t.f0.length cp2) t.f0) := ⟨ho⟩; have B2 := Aside0.mk hb; clear ho hb hg hat u0))
  have HX := Aside0.mk (below_alloc (Below.refl w2.heap.size w2) (.cells #[.slice V2 t.f0.length cp2, .slice none 0 0] 30))
  have I0 : Aside0 (TwiI w QA0 QC0 QA1 QC1 t w2.heap.size V2 cp2 none 0 0 (w2.alloc (.cells #[.slice V2 t.f0.length cp2, .slice none 0 0] 30))) :=
    ⟨⟨(NB2.out.BW.trans (B2.out.mono (by omega))).trans (HX.out.mono (NB2.out.BW.trans (B2.out.mono (by omega))).size), blk_alloc ((B2.out.block _ (by omega)).trans NB2.out.B0) _, blk_alloc ((B2.out.block _ (by omega)).trans NB2.out.B1) _, blk_new _ _, Nat.le_trans HSZ.out B2.out.size,
      Kd.R_below (Kd.R_mono (Kd.R_bound HO2.out) (fun q hq => hq.2.2.1)) HX.out, Kd.R_nil _ _ _ _ _⟩⟩
  have HM := Aside0.mk HT.out.s1.max
  clear HX NB2 B1 B2 HO1 HO2 HSZ HS1
  generalize w2.heap.size = gO at *
  go_loopg [4] t.f1.length (fun gg s4 wr => ∃ (k : Nat) (O : Option Addr) (oc : Nat), s4 = .int .i64 k ∧ Aside0 (k ≤ t.f1.length ∧ t.f1.length - k ≤ gg) ∧ Aside0 (TwiI w QA0 QC0 QA1 QC1 t gO V2 cp2 O k oc wr))
  case atStart => exact ⟨0, none, 0, rfl, ⟨by omega, by omega⟩, I0⟩
  case round =>
    clear I0
    obtain ⟨k, O, oc, rfl, HX, K⟩ := hrel
    obtain ⟨u0, u1⟩ := (blk2t K.out.BT).1
    obtain ⟨⟨o0, o1⟩, _⟩ := blk2t K.out.BO
    by_cases hlt : k < t.f1.length
    · obtain ⟨bd, Ay, cy, e1, hy, hry⟩ := at_row (HT.out.below K.out.BW).s1.r k hlt
      have HTK := Aside0.mk (take_at hlt)
      have HLY := Aside0.mk (HL2.out t.f1[k] (List.getElem_mem hlt))
      have HLEN := Aside0.mk (show (t.f1.take k).length = k by rw [List.length_take]; omega)
      have HLT := Aside0.mk hlt
      generalize t.f1[k] = y at *
      cases e1
      have KD := Aside0.mk (K.out.below (below_drew (Below.refl _ _)))
      have HRY := Aside0.mk (hry.below (below_drew (Below.refl _ _)))
      have HSS := Aside0.mk (show wr.cell? ⟨gO, 1, none⟩ = some (.slice O k oc) ∧ wr.cell? ⟨w.heap.size, 1, none⟩ = some (.slice (some bd) t.f1.length QC1) ∧ wr.cell? (bd.add k) = some (.slice Ay y.length cy) from ⟨o1, u1, hy⟩)
      clear hry
      go_wp2
      refine start_ (n := 13) (S := (fun w' => w'.cell? ⟨gO, 1, none⟩ = some (.slice O k oc) ∧ w'.cell? ⟨w.heap.size, 1, none⟩ = some (.slice (some bd) t.f1.length QC1) ∧ w'.cell? (bd.add k) = some (.slice Ay y.length cy))) (ds := [10,12]) #[false, false, false, false, false, false, false, false, false, false, false, false, false] (by kernel_rfl) rfl rfl HSS.out (fun hHeld => ?_)
      clear u0 u1 o0 o1 hy
      refine pure_ (i := 0) (N := some 17) (v := ?_) (a' := ?_) #[true, false, false, false, false, false, false, false, false, false, false, false, false] rfl rfl (by kernel_rfl) (fun _ _ _ h => h) (Or.inl ⟨by rfl, ?_⟩) ?_ ?_
      rotate_left
      · intro w'
        go_simp
        with_reducible rfl
      rotate_left
      · simp only [Act.put, List.setIfInBounds_toArray, List.set_cons_zero, List.set_cons_succ]
        rfl
      refine take_ (i := 1) (N := some 18) (v := ?_) (a' := ?_) #[true, true, false, false, false, false, false, false, false, false, false, false, false] rfl rfl (by kernel_rfl) (fun _ _ _ h => h) (Or.inl ⟨by rfl, ?_⟩) hHeld ?_ ?_
      rotate_left
      · rintro w' ⟨s0, s1, s2⟩
        go_simp
        with_reducible rfl
      rotate_left
      · simp only [Act.put, List.setIfInBounds_toArray, List.set_cons_zero, List.set_cons_succ]
        rfl
      refine pure_ (i := 3) (N := some 20) (v := ?_) (a' := ?_) #[true, true, false, true, false, false, false, false, false, false, false, false, false] rfl rfl (by kernel_rfl) (fun _ _ _ h => h) (Or.inl ⟨by rfl, ?_⟩) ?_ ?_
      rotate_left
      · intro w'
        go_simp
        with_reducible rfl
      rotate_left
      · simp only [Act.put, List.setIfInBounds_toArray, List.set_cons_zero, List.set_cons_succ]
        rfl
      refine take_ (i := 4) (N := some 21) (v := ?_) (a' := ?_) #[true, true, false, true, true, false, false, false, false, false, false, false, false] rfl rfl (by kernel_rfl) (fun _ _ _ h => h) (Or.inl ⟨by rfl, ?_⟩) hHeld ?_ ?_
      rotate_left
      · rintro w' ⟨s0, s1, s2⟩
        go_simp
        with_reducible rfl
      rotate_left
      · simp only [Act.put, List.setIfInBounds_toArray, List.set_cons_zero, List.set_cons_succ]
        rfl
      refine pure_ (i := 5) (N := some 22) (v := ?_) (a' := ?_) #[true, true, false, true, true, true, false, false, false, false, false, false, false] rfl rfl (by kernel_rfl) (fun _ _ _ h => h) (Or.inl ⟨by rfl, ?_⟩) ?_ ?_
      rotate_left
      · intro w'
        go_simp
        with_reducible rfl
      rotate_left
      · simp only [Act.put, List.setIfInBounds_toArray, List.set_cons_zero, List.set_cons_succ]
        rfl
      refine pure_ (i := 6) (N := some 23) (v := ?_) (a' := ?_) #[true, true, false, true, true, true, true, false, false, false, false, false, false] rfl rfl (by kernel_rfl) (fun _ _ _ h => h) (Or.inl ⟨by rfl, ?_⟩) ?_ ?_
      rotate_left
      · intro w'
        go_simp
        with_reducible rfl
      rotate_left
      · simp only [Act.put, List.setIfInBounds_toArray, List.set_cons_zero, List.set_cons_succ]
        rfl
      refine take_ (i := 7) (N := some 24) (v := ?_) (a' := ?_) #[true, true, false, true, true, true, true, true, false, false, false, false, false] rfl rfl (by kernel_rfl) (fun _ _ _ h => h) (Or.inl ⟨by rfl, ?_⟩) hHeld ?_ ?_
      rotate_left
      · rintro w' ⟨s0, s1, s2⟩
        go_simp
        with_reducible rfl
      rotate_left
      · simp only [Act.put, List.setIfInBounds_toArray, List.set_cons_zero, List.set_cons_succ]
        rfl
      refine one_ (i := 2) (N := some 19) #[true, true, true, true, true, true, true, true, false, false, false, false, false] rfl rfl (by kernel_rfl) (by decide) (fun K hK => ?_)
      obtain ⟨wd, hwd⟩ : ∃ wd, wr.drew = wd := ⟨_, rfl⟩
      rw [hwd] at KD HRY ⊢
      have HSD := Aside0.mk (show wd.cell? ⟨gO, 1, none⟩ = some (.slice O k oc) ∧ wd.cell? ⟨w.heap.size, 1, none⟩ = some (.slice (some bd) t.f1.length QC1) ∧ wd.cell? (bd.add k) = some (.slice Ay y.length cy) from hwd ▸ HSS.out)
      clear hwd HSS
      refine Kd.R_lit_step Kd.bool (w0 := wd) wd.heap.size 4 (by rfl) (N := 19) rfl (xs := []) (inner := []) (ok := fun _ => True) (okp := fun _ => False) ?hr (Reps.none _ _) (fun _ h => h.elim) trivial (Below.refl _ _) (Nat.le_refl _) (by simp) ?_
      case hr => first | (go_simp; done) | (go_simp; rfl)
      intro v1 w3 ho3 hb3 hg3 hnew3
      have R3 := Aside0.mk ho3
      have B3 := Aside0.mk hb3
      clear ho3 hb3 hg3 hnew3
      refine hK.out _ _ ⟨pw_cell_below B3.out HSD.out.1, pw_cell_below B3.out HSD.out.2.1, pw_cell_below B3.out HSD.out.2.2⟩ (fun hHeld => ?_)
      clear hK K
      refine norm_ (a' := ?_) ?_ ?_
      rotate_left
      · show Act.put _ (some 19) _ = _
        simp only [Act.put, List.setIfInBounds_toArray, List.set_cons_zero, List.set_cons_succ]
        rfl
      refine one_ (i := 8) (N := some 25) #[true, true, true, true, true, true, true, true, true, false, false, false, false] rfl rfl (by kernel_rfl) (by decide) (fun K hK => ?_)
      refine Kd.R_append_rows_step Kd.bool (w0 := wd) wd.heap.size (by rfl) (.tmp 19) (.tmp 24) 27 4 (.bool false) 1 rfl Try.underlying27 infoBool rfl (by decide) (by omega) v1 [] y _ _ _ (fun _ => True) (fun _ => False) rfl rfl ?aO ?aR (fun _ _ h => h) (fun _ h => h.elim) ?aF ?aB ?aS ?aL ?_
      case aR => exact Kd.C_below HRY.out.r B3.out
      case aB => exact B3.out
      case aF => exact fun _ _ => trivial
      case aO => exact R3.out
      case aS => exact B3.out.size
      case aL => have := HLY.out; simp; omega
      intro v2 w4 ho hb hg hat
      rw [List.nil_append] at ho
      obtain ⟨A4, c4, rfl, _, _⟩ := Kd.R_reads ho
      have R4 := Aside0.mk ho
      have B4 := Aside0.mk hb
      clear ho hb hg hat R3 B3
      refine hK.out _ _ ⟨pw_cell_below B4.out HSD.out.1, pw_cell_below B4.out HSD.out.2.1, pw_cell_below B4.out HSD.out.2.2⟩ (fun hHeld => ?_)
      clear hK K
      refine norm_ (a' := ?_) ?_ ?_
      rotate_left
      · show Act.put _ (some 25) _ = _
        simp only [Act.put, List.setIfInBounds_toArray, List.set_cons_zero, List.set_cons_succ]
        rfl
      have K4 := Aside0.mk (KD.out.below B4.out)
      have BA := Aside0.mk (B4.out.trans ((below_alloc (Below.refl w4.heap.size w4) (.cells #[.slice A4 y.length c4] 27)).mono B4.out.size))
      refine one_ (i := 9) (N := some 26) #[true, true, true, true, true, true, true, true, true, true, false, false, false] rfl rfl (by kernel_rfl) (by decide) (fun K hK => ?_)
      refine value_ (w1 := ?_) (v := ?_) (by rfl) rfl ?_ ?_
      rotate_left 2
      · go_simp
        constructor
        · rfl
        · rfl
      refine hK.out _ _ ⟨pw_cell_below BA.out HSD.out.1, pw_cell_below BA.out HSD.out.2.1, pw_cell_below BA.out HSD.out.2.2⟩ (fun hHeld => ?_)
      clear hK K
      refine norm_ (a' := ?_) ?_ ?_
      rotate_left
      · show Act.put _ (some 26) _ = _
        simp only [Act.put, List.setIfInBounds_toArray, List.set_cons_zero, List.set_cons_succ]
        rfl
      refine last_ (i := 10) (N := some 27) #[true, true, true, true, true, true, true, true, true, true, true, false, false] rfl rfl (by kernel_rfl) (by decide) (fun K hK => ?_)
      refine Kd.R_append_step (Kd.slice 4 Kd.bool) (w0 := w4) (W := w4) (w.heap.size + 2) (by rfl) (.tmp 18) (.tmp 26) 28 27 (.slice none 0 0) 24 rfl Try.underlying28 infoRowB rfl (by decide) (by omega) (.slice O k oc) (t.f1.take k) y [.slice A4 y.length c4] (fun q => gO < q) (fun q => gO < q ∧ some q ≠ (Value.slice O k oc).ownBlock) rfl rfl ?aP ?aK ?aF ?aO ?aB ?aS ?aL ?_
      case aP =>
        have h_ := Kd.R_bound (Kd.R_new R4.out (Kd.R_own KD.out.RO).choose_spec)
        exact ⟨_, rfl, Kd.R_lower (Kd.R_mono h_ (fun q hq => ⟨Nat.lt_of_lt_of_le (blk_lt KD.out.BO) hq.2.1, hq.1.2⟩)) (Nat.le_trans KD.out.G (Nat.le_of_lt (blk_lt KD.out.BO)))⟩
      case aK => exact fun q hq => hq
      case aF => exact fun q hq => Nat.lt_of_lt_of_le (blk_lt K4.out.BO) hq
      case aO => exact K4.out.RO
      case aB => exact Below.refl _ _
      case aS => exact Nat.le_trans K4.out.G (Nat.le_of_lt (blk_lt K4.out.BO))
      case aL => have := HL1.out; have := HLT.out; rw [HLEN.out]; omega
      intro v1 w6 ho hb hg hat
      obtain ⟨V5, cap5, rfl, _, _⟩ := Kd.R_reads ho
      have e6 : (t.f1.take k ++ [y]).length = k + 1 := by rw [List.length_append, HLEN.out]; rfl
      rw [e6] at ho ⊢
      rw [← HTK.out] at ho
      have hne : ∀ q, q < gO → some q ≠ (Value.slice O k oc).ownBlock := fun q hq e => by
        have := K4.out.RO.1 q e.symm
        omega
      have BO6 := Aside0.mk ((hg.block gO (blk_lt K4.out.BO) (fun e => by have := K4.out.RO.1 gO e.symm; omega)).trans K4.out.BO)
      have BW6 := Aside0.mk (K4.out.BW.trans (hb.mono (by omega)))
      have BT6 := Aside0.mk ((hb.block _ (by omega)).trans K4.out.BT)
      have BR6 := Aside0.mk ((hb.block _ (by omega)).trans K4.out.BR)
      have RF6 := Aside0.mk (Kd.R_grown K4.out.RF hg hne)
      have RO6 := Aside0.mk ho
      clear ho hb hg hat hne
      refine hK.out _ _ ?_
      clear hK
      refine norm_ (a' := ?_) ?_ ?_
      rotate_left
      · show Act.put _ (some 27) _ = _
        simp only [Act.put, List.setIfInBounds_toArray, List.set_cons_zero, List.set_cons_succ]
        rfl
      refine pure_ (i := 11) (N := some 28) (v := ?_) (a' := ?_) #[true, true, true, true, true, true, true, true, true, true, true, true, false] rfl rfl (by kernel_rfl) (fun _ _ _ h => h) (Or.inl ⟨by rfl, ?_⟩) ?_ ?_
      rotate_left
      · intro w'
        go_simp
        with_reducible rfl
      rotate_left
      · simp only [Act.put, List.setIfInBounds_toArray, List.set_cons_zero, List.set_cons_succ]
        rfl
      obtain ⟨⟨o0, o1⟩, z0, z1⟩ := blk2t BO6.out
      refine last_ (i := 12) (N := none) #[true, true, true, true, true, true, true, true, true, true, true, true, true] rfl rfl (by kernel_rfl) (by decide) (fun K hK => ?_)
      refine skip_ (w1 := ?_) (by rfl) rfl ?_ ?_
      rotate_left
      · go_simp
        rfl
      refine hK.out _ _ ?_
      clear hK K
      refine done_ (by kernel_rfl) ?_
      have G_ := KD.out.G
      have I7 := Aside0.mk (show TwiI w QA0 QC0 (some bd) QC1 t gO V2 cp2 V5 (k + 1) cap5 (w6.setCell ⟨gO, 1, none⟩ (.slice V5 (k + 1) cap5)) from
        ⟨below_set BW6.out (by omega), blk_far BT6.out (show w.heap.size ≠ gO by omega) _, blk_far BR6.out (show w.heap.size + 1 ≠ gO by omega) _, by simpa using blk_set BO6.out 1 (.slice V5 (k + 1) cap5), G_,
          Kd.R_far (p := ⟨gO, 1, none⟩) RF6.out (fun q hq => Nat.ne_of_lt hq) _, by
            have h_ := Kd.R_far (p := ⟨gO, 1, none⟩) RO6.out (fun q hq => (Nat.ne_of_lt hq).symm) (.slice V5 (k + 1) cap5)
            exact h_⟩)
      clear o0 o1 z0 z1 G_
      go_wp2
      go_roundg (t.f1.length - (k + 1))
      case measure => have := HX.out; have := HLT.out; omega
      case rel => exact ⟨k + 1, V5, cap5, val_step HLT.out HM.out, ⟨HLT.out, by have := HX.out; omega⟩, I7⟩
    · have hk : k = t.f1.length := by have := HX.out.1; omega
      have HRO := Aside0.mk (show Kd.R (Kd.slice 4 Kd.bool) 27 wr (w.heap.size + 2) (fun q => gO < q) (.slice O t.f1.length oc) t.f1 from by
        have h_ := K.out.RO
        rw [hk, List.take_length] at h_
        exact h_)
      have HBO := Aside0.mk (show wr.heap[gO]? = some (.cells #[.slice V2 t.f0.length cp2, .slice O t.f1.length oc] 30 (0, 0)) from by have h_ := K.out.BO; rw [hk] at h_; exact h_)
      clear hk o0 o1
      obtain ⟨⟨o0, o1⟩, _⟩ := blk2t HBO.out
      obtain ⟨⟨r0, r1⟩, z0, z1⟩ := blk2t K.out.BR
      go_wp2
      have b1 := blk_set K.out.BR 0 (.slice V2 t.f0.length cp2)
      have hset : ((wr.setCell ⟨w.heap.size + 1, 0, none⟩ (.slice V2 t.f0.length cp2)).setCell ⟨w.heap.size + 1, 1, none⟩ (.slice O t.f1.length oc)).heap[w.heap.size + 1]? = some (.cells #[.slice V2 t.f0.length cp2, .slice O t.f1.length oc] 30 (0, 0)) := by simpa using blk_set b1 1 (.slice O t.f1.length oc)
      refine bodyPost_ret (results_cell_row rfl _ _ (w.heap.size + 1) 30 #[.slice V2 t.f0.length cp2, .slice O t.f1.length oc] (0, 0) _ rfl hset hu30 rfl (by kernel_rfl)) rfl ?_
      exact ⟨⟨V2, cp2, O, oc⟩, rfl, ⟨Kd.R_lower (Kd.R_mono (Kd.R_set (Kd.R_set K.out.RF K.out.BR (by decide) 0 _) b1 (by decide) 1 _) (fun _ _ => trivial)) (by omega), Kd.R_lower (Kd.R_mono (Kd.R_set (Kd.R_set HRO.out K.out.BR (by decide) 0 _) b1 (by decide) 1 _) (fun _ _ => trivial)) (by omega)⟩, below_set (below_set K.out.BW (by omega)) (by omega)⟩
end Go.Proofs.Ytchhbkicplgmhaa.PH
