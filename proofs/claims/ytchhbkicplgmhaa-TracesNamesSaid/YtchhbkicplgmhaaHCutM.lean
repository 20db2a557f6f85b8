/- traces.Cut. -/
import Derived.Test.YtchhbkicplgmhaaHCut
namespace Go.Proofs.Ytchhbkicplgmhaa.PH
open Go.RowKit Go.Proofs.YtchhbkicplgmhaaW.PrintWords Go.Proofs.YtchhbkicplgmhaaW.PrintLast
set_option linter.unusedVariables false
set_option linter.unusedSimpArgs false

/-- What traces.Cut answers. -/
def cutC (c : Circ) (t : Run) : Run × Int :=
  if tCheck c t ≠ 0 then (⟨[], []⟩, tCheck c t)
  else if cutN (walked (frames c t.f0 t.f1) goCut 0) = 0 then (⟨[], []⟩, 6)
  else (⟨t.f0, t.f1.take (cutN (walked (frames c t.f0 t.f1) goCut 0)).toNat⟩, 0)
/-- A run and an error come back. -/
def RetTE (w w' : World) (r : Run × Int) (e : Ending) : Prop := ∃ q, e = .returned (.tuple #[tv q r.1, .int .i64 r.2]) ∧ RT w' q r.1 ∧ Below w.heap.size w w'
theorem cutN_range {F : List Fr} : 0 ≤ cutN (walked F goCut 0) ∧ cutN (walked F goCut 0) ≤ F.length := by
  rw [walked_ok rfl]
  have h1 : (F.take (stopAt goCut 0 F)).length ≤ F.length := by rw [List.length_take]; omega
  unfold cutN
  split
  · split
    · omega
    · omega
  · omega
/-- What holds in traces.Cut's loop: the result's block, the run that grows. -/
structure CutI (w : World) (gR gO : Nat) (n0 : Nat) (F : Option Addr) (cf : Nat) (O : Option Addr) (k oc : Nat) (f0 : List Bool) (L : List (List Bool)) (wr : World) : Prop where
  BW : Below w.heap.size w wr
  BR : wr.heap[gR]? = some (.cells #[.slice none 0 0, .slice none 0 0] 30 (0, 0))
  BO : wr.heap[gO]? = some (.cells #[.slice F n0 cf, .slice O k oc] 30 (0, 0))
  G : w.heap.size ≤ gR ∧ gR < gO
  RF : Kd.R Kd.bool 4 wr w.heap.size (fun q => q < gO) (.slice F n0 cf) f0
  RO : Kd.R (Kd.slice 4 Kd.bool) 27 wr w.heap.size (fun q => gO < q) (.slice O k oc) L
theorem CutI.below {w : World} {gR gO n0 : Nat} {F : Option Addr} {cf : Nat} {O : Option Addr} {k oc : Nat} {f0 : List Bool} {L : List (List Bool)} {wr w2 : World} (h : CutI w gR gO n0 F cf O k oc f0 L wr) (hb : Below wr.heap.size wr w2) : CutI w gR gO n0 F cf O k oc f0 L w2 :=
  ⟨h.BW.trans (hb.mono h.BW.size), blk_below h.BR hb, blk_below h.BO hb, h.G, Kd.R_below h.RF hb, Kd.R_below h.RO hb⟩
set_option maxHeartbeats 8000000 in
set_option maxRecDepth 100000 in
theorem traces_Cut (p : CP) (c : Circ) (q : TP) (t : Run) (w : World) (h : RC w p c) (hs : c.Fits) (ht : RT w q t) :
    Calls Try.prog 25 #[cv p c, tv q t] w fun e w' => RetTE w w' (cutC c t) e := by
  obtain ⟨QA0, QC0, QA1, QC1⟩ := q
  have hb0 := below_alloc (Below.refl _ _ : Below ((w.alloc (.cells #[.int .i64 c.f0, .slice p.A1 c.f1.length p.c1, .slice p.A2 c.f2.length p.c2, .slice p.A3 c.f3.length p.c3, .slice p.A4 c.f4.length p.c4] 26)).alloc (.cells #[.slice QA0 t.f0.length QC0, .slice QA1 t.f1.length QC1] 30)).heap.size _ _) (.cells #[.slice none 0 0, .slice none 0 0] 30)
  have I := Aside0.mk ((CkInv.start w p c ⟨QA0, QC0, QA1, QC1⟩ t).below hb0)
  have hbr : (((w.alloc (.cells #[.int .i64 c.f0, .slice p.A1 c.f1.length p.c1, .slice p.A2 c.f2.length p.c2, .slice p.A3 c.f3.length p.c3, .slice p.A4 c.f4.length p.c4] 26)).alloc (.cells #[.slice QA0 t.f0.length QC0, .slice QA1 t.f1.length QC1] 30)).alloc (.cells #[.slice none 0 0, .slice none 0 0] 30)).heap[w.heap.size + 2]? = some (.cells #[.slice none 0 0, .slice none 0 0] 30 (0, 0)) := by
    simpa using blk_new ((w.alloc (.cells #[.int .i64 c.f0, .slice p.A1 c.f1.length p.c1, .slice p.A2 c.f2.length p.c2, .slice p.A3 c.f3.length p.c3, .slice p.A4 c.f4.length p.c4] 26)).alloc (.cells #[.slice QA0 t.f0.length QC0, .slice QA1 t.f1.length QC1] 30)) (.cells #[.slice none 0 0, .slice none 0 0] 30)
  have hsz : (((w.alloc (.cells #[.int .i64 c.f0, .slice p.A1 c.f1.length p.c1, .slice p.A2 c.f2.length p.c2, .slice p.A3 c.f3.length p.c3, .slice p.A4 c.f4.length p.c4] 26)).alloc (.cells #[.slice QA0 t.f0.length QC0, .slice QA1 t.f1.length QC1] 30)).alloc (.cells #[.slice none 0 0, .slice none 0 0] 30)).heap.size = w.heap.size + 3 := by simp
  have HBR := Aside0.mk hbr
  have HW := Aside0.mk (traces_walk p c ⟨QA0, QC0, QA1, QC1⟩ t 48 #[.pointer (some ⟨w.heap.size + 3, 0, none⟩)] goCut (JInt _ (w.heap.size + 3) cutN) (((w.alloc (.cells #[.int .i64 c.f0, .slice p.A1 c.f1.length p.c1, .slice p.A2 c.f2.length p.c2, .slice p.A3 c.f3.length p.c3, .slice p.A4 c.f4.length p.c4] 26)).alloc (.cells #[.slice QA0 t.f0.length QC0, .slice QA1 t.f1.length QC1] 30)).alloc (.cells #[.slice none 0 0, .slice none 0 0] 30)) _ (below_alloc (Below.refl _ _) (.cells #[.int .i64 0] 3)) (h.below I.out.BW) hs (ht.below I.out.BW)
    ⟨Nat.le_of_eq hsz, fun h => h, by rw [← hsz]; exact blk_new _ _⟩ JInt.keep (fun hc => cut_do _ _ (w.heap.size + 3) (by rw [frames_len]; exact (tCheck_ok hc).2.1)))
  have hu26 := Try.underlying26
  have hu30 := Try.underlying30
  have hmf : ∀ (fn : Fn) (first cap : Array Value) (w : World), (Instr.makeFunc fn first cap).run Try.prog w = .ok (.func fn first cap) w := fun _ _ _ _ => rfl
  have hbx := below_alloc (Below.refl _ (((w.alloc (.cells #[.int .i64 c.f0, .slice p.A1 c.f1.length p.c1, .slice p.A2 c.f2.length p.c2, .slice p.A3 c.f3.length p.c3, .slice p.A4 c.f4.length p.c4] 26)).alloc (.cells #[.slice QA0 t.f0.length QC0, .slice QA1 t.f1.length QC1] 30)).alloc (.cells #[.slice none 0 0, .slice none 0 0] 30))) (.cells #[.int .i64 0] 3)
  obtain ⟨g0, g1, g2, g3, g4⟩ := (blk5w (I.out.below hbx).B0).1
  obtain ⟨u0, u1⟩ := (blk2t (I.out.below hbx).B1).1
  have HT := Aside0.mk ht
  have HF := Aside0.mk hs
  have HSZ := Aside0.mk hsz
  obtain ⟨m, hm⟩ : ∃ m, cutC c t = m := ⟨_, rfl⟩
  rw [hm]
  have HM := Aside0.mk hm
  clear h hs ht hm hbx hsz hbr hb0
  dsimp only [tv] at *
  go_enter Try.func25, Try.ntmps25
  go_wp2_with fail
  refine HW.out.mono ?_
  rintro e w1 ⟨rfl, hb1, X, hj⟩
  have I1 := Aside0.mk (I.out.below hb1)
  have BR1 := Aside0.mk (blk_below HBR.out hb1)
  obtain ⟨c0, f0⟩ := blk1w hj.2.2
  have HG0 := Aside0.mk (blk_lt hj.2.2)
  clear hb1 hj HW g0 g1 g2 g3 g4 u0 u1 f0 I HBR
  by_cases hc : tCheck c t = 0
  case neg =>
    have hcd : (tCheck c t != 0) = true := bne_iff_ne.mpr hc
    have HV := Aside0.mk (show m = (⟨[], []⟩, tCheck c t) by rw [← HM.out]; unfold cutC; rw [if_pos hc])
    clear hc
    obtain ⟨⟨r0, r1⟩, z0, z1⟩ := blk2t BR1.out
    go_wp2
    have hset : ((w1.setCell ⟨w.heap.size + 2, 0, none⟩ (.slice none 0 0)).setCell ⟨w.heap.size + 2, 1, none⟩ (.slice none 0 0)).heap[w.heap.size + 2]? = some (.cells #[.slice none 0 0, .slice none 0 0] 30 (0, 0)) := by simpa using blk_set (blk_set BR1.out 0 (.slice none 0 0)) 1 (.slice none 0 0)
    refine bodyPost_ret (results_ct rfl _ _ (w.heap.size + 2) 30 #[.slice none 0 0, .slice none 0 0] (0, 0) _ rfl hset hu30 rfl (by kernel_rfl)) rfl ?_
    exact ⟨⟨none, 0, none, 0⟩, by rw [HV.out]; rfl, by rw [HV.out]; exact ⟨RS.nil _ _ _, RS.nil _ _ _⟩, below_set (below_set I1.out.BW (by omega)) (by omega)⟩
  rw [hc] at c0 ⊢
  have HC := Aside0.mk (tCheck_ok hc)
  have HCC := Aside0.mk hc
  clear hc
  have hrng := cutN_range (F := frames c t.f0 t.f1)
  rw [frames_len] at hrng
  have HM2 := Aside0.mk (show m = if cutN (walked (frames c t.f0 t.f1) goCut 0) = 0 then (⟨[], []⟩, 6) else (⟨t.f0, t.f1.take (cutN (walked (frames c t.f0 t.f1) goCut 0)).toNat⟩, 0) by rw [← HM.out]; unfold cutC; rw [if_neg (by simp [HCC.out])])
  generalize cutN (walked (frames c t.f0 t.f1) goCut 0) = v at *
  obtain ⟨n, rfl⟩ : ∃ n : Nat, v = (n : Int) := ⟨v.toNat, by omega⟩
  by_cases hn : n = 0
  · subst hn
    have HV := Aside0.mk (show m = (⟨[], []⟩, 6) by rw [HM2.out]; rfl)
    obtain ⟨⟨r0, r1⟩, z0, z1⟩ := blk2t BR1.out
    clear hrng
    go_wp2
    have hset : ((w1.setCell ⟨w.heap.size + 2, 0, none⟩ (.slice none 0 0)).setCell ⟨w.heap.size + 2, 1, none⟩ (.slice none 0 0)).heap[w.heap.size + 2]? = some (.cells #[.slice none 0 0, .slice none 0 0] 30 (0, 0)) := by simpa using blk_set (blk_set BR1.out 0 (.slice none 0 0)) 1 (.slice none 0 0)
    refine bodyPost_ret (results_ct rfl _ _ (w.heap.size + 2) 30 #[.slice none 0 0, .slice none 0 0] (0, 0) _ rfl hset hu30 rfl (by kernel_rfl)) rfl ?_
    exact ⟨⟨none, 0, none, 0⟩, by rw [HV.out]; rfl, by rw [HV.out]; exact ⟨RS.nil _ _ _, RS.nil _ _ _⟩, below_set (below_set I1.out.BW (by omega)) (by omega)⟩
  have hnd : ((n : Int) == 0) = false := by rw [beq_eq_false_iff_ne]; omega
  have hn0 : ¬ n = 0 := hn
  have HN := Aside0.mk (show 0 < n ∧ n ≤ t.f1.length by omega)
  have HV := Aside0.mk (show m = (⟨t.f0, t.f1.take n⟩, 0) by rw [HM2.out, if_neg (by omega), Int.toNat_natCast])
  clear hrng hn HM2 HM
  obtain ⟨bd, B0, cB0, e0, -, -⟩ := at_row HT.out.s1.r 0 (by have := HN.out; omega)
  cases e0
  obtain ⟨u0, u1⟩ := (blk2t I1.out.B1).1
  have HL0 := Aside0.mk (show t.f0.length ≤ 4000000 by rw [HC.out.2.2.2.1]; exact HF.out.h1)
  go_wp2_with fail
  refine (slices_Clone_bool QA0 QC0 t.f0 _ (HT.out.below I1.out.BW).s0 HL0.out).mono ?_
  rintro e w2 ⟨F, cf, rfl, hrf, hb2⟩
  have hbx := below_alloc (Below.refl w2.heap.size w2) (.cells #[.slice F t.f0.length cf, .slice none 0 0] 30)
  have I2 := Aside0.mk ((I1.out.below hb2).below hbx)
  have c2 := pw_cell_below hbx (pw_cell_below hb2 c0)
  have K0 : Aside0 (CutI w (w.heap.size + 2) w2.heap.size t.f0.length F cf none 0 0 t.f0 (t.f1.take 0) (w2.alloc (.cells #[.slice F t.f0.length cf, .slice none 0 0] 30))) :=
    ⟨⟨I2.out.BW, blk_below (blk_below BR1.out hb2) hbx, blk_new _ _, ⟨by omega, Nat.lt_of_lt_of_le (blk_lt BR1.out) hb2.size⟩, Kd.R_below (Kd.R_lower (Kd.R_mono (Kd.R_bound hrf) (fun q hq => hq.2.2.1)) I1.out.BW.size) hbx, Kd.R_nil _ _ _ _ _⟩⟩
  clear c0 u0 u1 hb2 hbx hrf
  obtain ⟨u0, u1⟩ := (blk2t I2.out.B1).1
  have hcap : n ≤ QC1 := Nat.le_trans HN.out.2 HT.out.s1.h
  go_wp2
  have HM := Aside0.mk HT.out.s1.max
  clear c2 u0 u1 I2 BR1
  generalize w2.heap.size = gO at *
  go_loopg [10, 31] n (fun gg s10 s31 wr => ∃ (k : Nat) (O : Option Addr) (oc : Nat), s31 = .int .i64 k ∧ Aside0 (k ≤ n ∧ n - k ≤ gg) ∧ Aside0 (CutI w (w.heap.size + 2) gO t.f0.length F cf O k oc t.f0 (t.f1.take k) wr))
  case atStart => exact ⟨0, none, 0, rfl, ⟨by omega, by omega⟩, K0⟩
  case round =>
    clear K0
    obtain ⟨k, O, oc, rfl, HX, K⟩ := hrel
    by_cases hlt : k < n
    · have hlt2 : k < t.f1.length := Nat.lt_of_lt_of_le hlt HN.out.2
      obtain ⟨bd2, Ay, cy, e1, hy, hry⟩ := at_row (HT.out.below K.out.BW).s1.r k hlt2
      cases e1
      have HTK := Aside0.mk (take_at hlt2)
      have HLY := Aside0.mk (show t.f1[k].length ≤ 4000000 by
        have h1 := HC.out.2.2.2.2.2 t.f1[k] (List.getElem_mem hlt2)
        have h2 := (gCheck_ok HC.out.1).2.1
        omega)
      have HLEN := Aside0.mk (show (t.f1.take k).length = k by rw [List.length_take]; omega)
      have HLT := Aside0.mk (And.intro hlt (show k ≤ 100 by have := HC.out.2.1; omega))
      generalize t.f1[k] = y at *
      have KD := Aside0.mk (K.out.below (below_drew (Below.refl _ _)))
      have HRY := Aside0.mk (hry.below (below_drew (Below.refl _ _)))
      obtain ⟨⟨o0, o1⟩, _⟩ := blk2t K.out.BO
      clear hry hlt2
      go_wp2
      refine start_ (n := 8) (S := (fun w' => w'.cell? ⟨gO, 1, none⟩ = some (.slice O k oc))) (ds := [5,7]) #[false, false, false, false, false, false, false, false] (by kernel_rfl) rfl rfl o1 (fun hHeld => ?_)
      clear o0 o1 hy
      refine pure_ (i := 0) (N := some 35) (v := ?_) (a' := ?_) #[true, false, false, false, false, false, false, false] rfl rfl (by kernel_rfl) (fun _ _ _ h => h) (Or.inl ⟨by rfl, ?_⟩) ?_ ?_
      rotate_left
      · intro w'
        go_simp
        with_reducible rfl
      rotate_left
      · simp only [Act.put, List.setIfInBounds_toArray, List.set_cons_zero, List.set_cons_succ]
        rfl
      refine take_ (i := 1) (N := some 36) (v := ?_) (a' := ?_) #[true, true, false, false, false, false, false, false] rfl rfl (by kernel_rfl) (fun _ _ _ h => h) (Or.inl ⟨by rfl, ?_⟩) hHeld ?_ ?_
      rotate_left
      · intro w' s0
        go_simp
        with_reducible rfl
      rotate_left
      · simp only [Act.put, List.setIfInBounds_toArray, List.set_cons_zero, List.set_cons_succ]
        rfl
      refine pure_ (i := 2) (N := some 37) (v := ?_) (a' := ?_) #[true, true, true, false, false, false, false, false] rfl rfl (by kernel_rfl) (fun _ _ _ h => h) (Or.inl ⟨by rfl, ?_⟩) ?_ ?_
      rotate_left
      · intro w'
        go_simp
        with_reducible rfl
      rotate_left
      · simp only [Act.put, List.setIfInBounds_toArray, List.set_cons_zero, List.set_cons_succ]
        rfl
      refine one_ (i := 3) (N := some 38) #[true, true, true, true, false, false, false, false] rfl rfl (by kernel_rfl) (by decide) (fun K hK => ?_)
      refine goes_ Try.func50 (by kernel_rfl) rfl #[.slice Ay y.length cy] (by rfl) rfl rfl (by simp only [List.map_toArray, List.map_cons, List.map_nil] <;> rfl) ?_
      refine (slices_Clone_bool Ay cy y _ HRY.out HLY.out).mono ?_
      rintro e w4 ⟨A4, c4, rfl, hr4, hb4⟩
      refine ⟨_, rfl, ?_⟩
      have R4 := Aside0.mk hr4
      have K4 := Aside0.mk (KD.out.below hb4)
      have HSB := Aside0.mk hb4.size
      clear hr4 hb4
      refine hK.out _ _ (blk2t K4.out.BO).1.2 (fun hHeld => ?_)
      clear hK K
      refine norm_ (a' := ?_) ?_ ?_
      rotate_left
      · show Act.put _ (some 38) _ = _
        simp only [Act.put, List.setIfInBounds_toArray, List.set_cons_zero, List.set_cons_succ]
        rfl
      refine one_ (i := 4) (N := some 39) #[true, true, true, true, true, false, false, false] rfl rfl (by kernel_rfl) (by decide) (fun K hK => ?_)
      refine value_ (w1 := ?_) (v := ?_) (by rfl) rfl ?_ ?_
      rotate_left 2
      · go_simp
        constructor
        · rfl
        · rfl
      refine hK.out _ _ (blk2t (blk_alloc K4.out.BO _)).1.2 (fun hHeld => ?_)
      clear hK K
      refine norm_ (a' := ?_) ?_ ?_
      rotate_left
      · show Act.put _ (some 39) _ = _
        simp only [Act.put, List.setIfInBounds_toArray, List.set_cons_zero, List.set_cons_succ]
        rfl
      refine last_ (i := 5) (N := some 40) #[true, true, true, true, true, true, false, false] rfl rfl (by kernel_rfl) (by decide) (fun K hK => ?_)
      refine Kd.R_append_step (Kd.slice 4 Kd.bool) (w0 := w4) (W := w4) w.heap.size (by rfl) (.tmp 36) (.tmp 39) 28 27 (.slice none 0 0) 24 rfl Try.underlying28 infoRowB rfl (by decide) (by omega) (.slice O k oc) (t.f1.take k) y [.slice A4 y.length c4] (fun q => gO < q) (fun q => gO < q ∧ some q ≠ (Value.slice O k oc).ownBlock) rfl rfl ?aP ?aK ?aF ?aO ?aB ?aS ?aL ?_
      case aP =>
        have h_ := Kd.R_bound (Kd.R_new R4.out (Kd.R_own KD.out.RO).choose_spec)
        exact ⟨_, rfl, Kd.R_lower (Kd.R_mono h_ (fun q hq => ⟨Nat.lt_of_lt_of_le (blk_lt KD.out.BO) hq.2.1, hq.1.2⟩)) KD.out.BW.size⟩
      case aK => exact fun q hq => hq
      case aF => exact fun q hq => Nat.lt_of_lt_of_le (blk_lt K4.out.BO) hq
      case aO => exact K4.out.RO
      case aB => exact Below.refl _ _
      case aS => exact K4.out.BW.size
      case aL => have := HLT.out.2; rw [HLEN.out]; omega
      intro v1 w6 ho hb hg hat
      obtain ⟨V5, cap5, rfl, _, _⟩ := Kd.R_reads ho
      have e6 : (t.f1.take k ++ [y]).length = k + 1 := by rw [List.length_append, HLEN.out]; rfl
      rw [e6] at ho ⊢
      rw [← HTK.out] at ho
      have hne : ∀ q, q < gO → some q ≠ (Value.slice O k oc).ownBlock := fun q hq e => by
        have := K4.out.RO.1 q e.symm
        omega
      have BO6 := Aside0.mk ((hg.block gO (blk_lt K4.out.BO) (fun e => by have := K4.out.RO.1 gO e.symm; omega)).trans K4.out.BO)
      have BR6 := Aside0.mk ((hg.block (w.heap.size + 2) (blk_lt K4.out.BR) (hne _ K4.out.G.2)).trans K4.out.BR)
      have BW6 := Aside0.mk (K4.out.BW.trans hb)
      have RF6 := Aside0.mk (Kd.R_grown K4.out.RF hg hne)
      have RO6 := Aside0.mk ho
      clear ho hb hg hat hne
      refine hK.out _ _ ?_
      clear hK
      refine norm_ (a' := ?_) ?_ ?_
      rotate_left
      · show Act.put _ (some 40) _ = _
        simp only [Act.put, List.setIfInBounds_toArray, List.set_cons_zero, List.set_cons_succ]
        rfl
      refine pure_ (i := 6) (N := some 41) (v := ?_) (a' := ?_) #[true, true, true, true, true, true, true, false] rfl rfl (by kernel_rfl) (fun _ _ _ h => h) (Or.inl ⟨by rfl, ?_⟩) ?_ ?_
      rotate_left
      · intro w'
        go_simp
        with_reducible rfl
      rotate_left
      · simp only [Act.put, List.setIfInBounds_toArray, List.set_cons_zero, List.set_cons_succ]
        rfl
      obtain ⟨⟨o0, o1⟩, z0, z1⟩ := blk2t BO6.out
      refine last_ (i := 7) (N := none) #[true, true, true, true, true, true, true, true] rfl rfl (by kernel_rfl) (by decide) (fun K hK => ?_)
      refine skip_ (w1 := ?_) (by rfl) rfl ?_ ?_
      rotate_left
      · go_simp
        rfl
      refine hK.out _ _ ?_
      clear hK K
      refine done_ (by kernel_rfl) ?_
      have G_ := KD.out.G
      have I7 := Aside0.mk (show CutI w (w.heap.size + 2) gO t.f0.length F cf V5 (k + 1) cap5 t.f0 (t.f1.take (k + 1)) (w6.setCell ⟨gO, 1, none⟩ (.slice V5 (k + 1) cap5)) from
        ⟨below_set BW6.out (by omega), blk_far BR6.out (show w.heap.size + 2 ≠ gO by omega) _, by simpa using blk_set BO6.out 1 (.slice V5 (k + 1) cap5), G_,
          Kd.R_far (p := ⟨gO, 1, none⟩) RF6.out (fun q hq => Nat.ne_of_lt hq) _, by
            have h_ := Kd.R_far (p := ⟨gO, 1, none⟩) RO6.out (fun q hq => (Nat.ne_of_lt hq).symm) (.slice V5 (k + 1) cap5)
            exact h_⟩)
      clear o0 o1 z0 z1 G_
      go_wp2
      go_roundg (n - (k + 1))
      case measure => have := HX.out; have := HLT.out; omega
      case rel => exact ⟨k + 1, V5, cap5, val_step HLT.out.1 (by have := HM.out; have := HN.out; omega), ⟨HLT.out.1, by have := HX.out; omega⟩, I7⟩
    · have hk : k = n := by have := HX.out.1; omega
      subst hk
      obtain ⟨⟨o0, o1⟩, _⟩ := blk2t K.out.BO
      obtain ⟨⟨r0, r1⟩, z0, z1⟩ := blk2t K.out.BR
      go_wp2
      have b1 := blk_set K.out.BR 0 (.slice F t.f0.length cf)
      have hset : ((wr.setCell ⟨w.heap.size + 2, 0, none⟩ (.slice F t.f0.length cf)).setCell ⟨w.heap.size + 2, 1, none⟩ (.slice O k oc)).heap[w.heap.size + 2]? = some (.cells #[.slice F t.f0.length cf, .slice O k oc] 30 (0, 0)) := by simpa using blk_set b1 1 (.slice O k oc)
      have HLK : (t.f1.take k).length = k := by rw [List.length_take]; have := HN.out; omega
      refine bodyPost_ret (results_ct rfl _ _ (w.heap.size + 2) 30 #[.slice F t.f0.length cf, .slice O k oc] (0, 0) _ rfl hset hu30 rfl (by kernel_rfl)) rfl ?_
      exact ⟨⟨F, cf, O, oc⟩, by rw [HV.out]; dsimp only [tv]; rw [HLK]; rfl, by
        rw [HV.out]
        exact ⟨RS.of_R' (Kd.R_set (Kd.R_set K.out.RF K.out.BR (by decide) 0 _) b1 (by decide) 1 _), RS.of_R' (Kd.R_set (Kd.R_set K.out.RO K.out.BR (by decide) 0 _) b1 (by decide) 1 _)⟩, below_set (below_set K.out.BW (by omega)) (by omega)⟩
end Go.Proofs.Ytchhbkicplgmhaa.PH
