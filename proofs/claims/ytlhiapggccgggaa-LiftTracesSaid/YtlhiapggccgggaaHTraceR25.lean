/- ref25.Trace. -/
import Derived.Test.YtlhiapggccgggaaHLiftedR
import Derived.Test.YtlhiapggccgggaaHFits
namespace Go.Proofs.Ytlhiapggccgggaa.PH
open Go.RowKit Go.Proofs.YtlhiapggccgggaaW.PrintWords Go.Proofs.YtlhiapggccgggaaW.PrintLast
set_option linter.unusedVariables false
set_option linter.unusedSimpArgs false

set_option maxHeartbeats 4000000 in
set_option maxRecDepth 100000 in
theorem ref25_Trace (p q : CP) (fr tc : Circ) (r : LP) (l : Lf) (s : TP) (t : Run) (w : World) (hp : RC w p fr) (hq : RC w q tc) (hr : RL w r l) (ht : RT w s t) (ff : fr.Fits) (ft : tc.Fits) (hl : l.Fits) :
    Calls Try.prog 24 #[cv p fr, cv q tc, lv r l, tv s t] w fun e w' => RetTr w w' (traceC fr tc l t) e := by
  obtain ⟨A2, k2, A3, k3, A4, k4, A5, k5⟩ := r
  obtain ⟨TF, tf, TI, ti⟩ := s
  have CK := Aside0.mk (fun W (hb : Below w.heap.size w W) => ref25_Check p q fr tc ⟨A2, k2, A3, k3, A4, k4, A5, k5⟩ l W (hp.below hb) (hq.below hb) (hr.below hb) ff ft hl)
  have HP := Aside0.mk hp
  have HQ := Aside0.mk hq
  have HR := Aside0.mk hr
  have HT := Aside0.mk ht
  have FF := Aside0.mk ff
  have FT := Aside0.mk ft
  have HM := Aside0.mk ht.s1.max
  have hu26 := Try.underlying26
  have hu31 := Try.underlying31
  have hu57 := Try.underlying57
  have hmf : ∀ (fn : Fn) (first cap : Array Value) (w : World), (Instr.makeFunc fn first cap).run Try.prog w = .ok (.func fn first cap) w := fun _ _ _ _ => rfl
  have S := ((((((Parts.start w).new 26 (ccells p fr)).new 26 (ccells q tc)).new 31 (lcells ⟨A2, k2, A3, k3, A4, k4, A5, k5⟩ l)).new 57 #[.slice TF t.f0.length tf, .slice TI t.f1.length ti]).new 57 #[.slice none 0 0, .slice none 0 0])
  simp only [sz_new] at S
  have S0 := Aside0.mk S
  clear S hp hq hr ht ff ft hl
  go_enter Try.func24, Try.ntmps24
  go_upto_region 1 with (fail)
  obtain ⟨w1, hw1⟩ : ∃ W, (((((w.alloc (.cells (ccells p fr) 26)).alloc (.cells (ccells q tc) 26)).alloc (.cells (lcells ⟨A2, k2, A3, k3, A4, k4, A5, k5⟩ l) 31)).alloc (.cells #[.slice TF t.f0.length tf, .slice TI t.f1.length ti] 57)).alloc (.cells #[.slice none 0 0, .slice none 0 0] 57)) = W := ⟨_, rfl⟩
  rw [hw1] at S0 ⊢
  clear hw1
  obtain ⟨a0, a1, a2, a3, a4⟩ := blk5 (S0.out.blk 4 rfl)
  obtain ⟨b0, b1, b2, b3, b4⟩ := blk5 (S0.out.blk 3 rfl)
  obtain ⟨l0, l1, l2, l3, l4, l5, l6⟩ := blk7 (S0.out.blk 2 rfl)
  go_wp2_with fail
  refine (CK.out _ S0.out.B).mono ?_
  rintro e w2 ⟨rfl, hb⟩
  have S2 := Aside0.mk (S0.out.below hb)
  clear hb S0 a0 a1 a2 a3 a4 b0 b1 b2 b3 b4 l0 l1 l2 l3 l4 l5 l6
  obtain ⟨E, hE⟩ : ∃ E, liftCheck fr tc l = E := ⟨_, rfl⟩
  have HEE := Aside0.mk (show liftErr fr tc l = E from (liftErr_eq fr tc l).trans hE)
  rw [hE]
  clear hE CK
  obtain ⟨r0, z0⟩ := S2.out.cell 0 rfl 0 rfl
  obtain ⟨r1, z1⟩ := S2.out.cell 0 rfl 1 rfl
  by_cases he : E = 0
  · subst he
    have LO := Aside0.mk (LOk.of (liftErr_ok HEE.out).2.2)
    have HCF := Aside0.mk (liftErr_ok HEE.out).1
    have HCT := Aside0.mk (liftErr_ok HEE.out).2.1
    obtain ⟨f, hf⟩ : ∃ f, runFits tc t = f := ⟨_, rfl⟩
    have HF := Aside0.mk hf
    obtain ⟨b0, b1, b2, b3, b4⟩ := blk5 (S2.out.blk 3 rfl)
    obtain ⟨t0, y0⟩ := S2.out.cell 1 rfl 0 rfl
    obtain ⟨t1, y1⟩ := S2.out.cell 1 rfl 1 rfl
    go_wp2_with fail
    refine (ref25_Fits q tc ⟨TF, tf, TI, ti⟩ t _ FT.out.h1 FT.out.i0 (HT.out.below S2.out.B)).mono ?_
    rintro e w3 ⟨rfl, hb⟩
    have S3 := Aside0.mk (S2.out.below hb)
    clear hb S2 b0 b1 b2 b3 b4 t0 y0 t1 y1 r0 z0 r1 z1
    obtain ⟨r0, z0⟩ := S3.out.cell 0 rfl 0 rfl
    obtain ⟨r1, z1⟩ := S3.out.cell 0 rfl 1 rfl
    rw [hf]
    clear hf
    cases f with
    | false =>
      go_wp2
      have S2 := S3
      clear S3
      have S3 := Aside0.mk ((S2.out.put 0 rfl 0 (.slice none 0 0) rfl).put 0 rfl 1 (.slice none 0 0) rfl)
      refine bodyPost_ret (results_ct rfl _ _ (w.heap.size + 1 + 1 + 1 + 1) 57 #[.slice none 0 0, .slice none 0 0] (0, 0) _ rfl (S3.out.blk 0 rfl) hu57 rfl (by kernel_rfl)) rfl ?_
      rw [show traceC fr tc l t = (⟨[], []⟩, 8) by unfold traceC; rw [if_neg (by rw [HEE.out]; decide), if_pos HF.out]]
      exact ⟨⟨none, 0, none, 0⟩, rfl, ⟨RS.nil _ _ _, RS.nil _ _ _⟩, S3.out.B⟩
    | true =>
      obtain ⟨t1, y1⟩ := S3.out.cell 1 rfl 1 rfl
      obtain ⟨l0, l1, l2, l3, l4, l5, l6⟩ := blk7 (S3.out.blk 2 rfl)
      by_cases h3 : 100 < t.f1.length
      · have H3 := Aside0.mk h3
        have h3b : decide (100 < (t.f1.length : Int)) = true := decide_eq_true (by omega)
        clear h3
        go_wp2
        have S2 := S3
        clear S3
        have S3 := Aside0.mk ((S2.out.put 0 rfl 0 (.slice none 0 0) rfl).put 0 rfl 1 (.slice none 0 0) rfl)
        refine bodyPost_ret (results_ct rfl _ _ (w.heap.size + 1 + 1 + 1 + 1) 57 #[.slice none 0 0, .slice none 0 0] (0, 0) _ rfl (S3.out.blk 0 rfl) hu57 rfl (by kernel_rfl)) rfl ?_
        rw [show traceC fr tc l t = (⟨[], []⟩, 4) by unfold traceC; rw [if_neg (by rw [HEE.out]; decide), if_neg (by rw [HF.out]; decide), if_pos (.inl H3.out)]]
        exact ⟨⟨none, 0, none, 0⟩, rfl, ⟨RS.nil _ _ _, RS.nil _ _ _⟩, S3.out.B⟩
      · have H3 := Aside0.mk (show t.f1.length ≤ 100 by omega)
        have h3b : decide (100 < (t.f1.length : Int)) = false := decide_eq_false (by omega)
        have hprod : 0 ≤ l.f1 * (t.f1.length : Int) ∧ l.f1 * (t.f1.length : Int) ≤ 400 := by
          have h1 := LO.out.p0
          have h2 := LO.out.p1
          refine ⟨Int.mul_nonneg (by omega) (by omega), ?_⟩
          have h4 := Int.mul_le_mul h2 (show (t.f1.length : Int) ≤ 100 by omega) (by omega) (by omega)
          omega
        obtain ⟨m, hm⟩ : ∃ m, l.f1 * (t.f1.length : Int) = m := ⟨_, rfl⟩
        have HMM := Aside0.mk hm
        rw [hm] at hprod
        have hs0 := LO.out.s0
        have hs1 := LO.out.s1
        have hwm : wrap64 (l.f1 * (t.f1.length : Int)) = m := by rw [hm]; exact wrap_in (by omega) (by omega)
        have hwa : wrap64 (l.f0 + m) = l.f0 + m := wrap_in (by omega) (by omega)
        clear hm h3
        by_cases h4 : 100 < l.f0 + m
        · have H4 := Aside0.mk h4
          have h4b : decide (100 < l.f0 + m) = true := decide_eq_true h4
          clear h4
          go_wp2
          have S2 := S3
          clear S3
          have S3 := Aside0.mk ((S2.out.put 0 rfl 0 (.slice none 0 0) rfl).put 0 rfl 1 (.slice none 0 0) rfl)
          refine bodyPost_ret (results_ct rfl _ _ (w.heap.size + 1 + 1 + 1 + 1) 57 #[.slice none 0 0, .slice none 0 0] (0, 0) _ rfl (S3.out.blk 0 rfl) hu57 rfl (by kernel_rfl)) rfl ?_
          rw [show traceC fr tc l t = (⟨[], []⟩, 4) by unfold traceC; rw [if_neg (by rw [HEE.out]; decide), if_neg (by rw [HF.out]; decide), if_pos (.inr (by rw [HMM.out]; exact H4.out))]]
          exact ⟨⟨none, 0, none, 0⟩, rfl, ⟨RS.nil _ _ _, RS.nil _ _ _⟩, S3.out.B⟩
        · have H4 := Aside0.mk (show ¬ (100 < t.f1.length ∨ 100 < l.f0 + l.f1 * (t.f1.length : Int)) by rw [HMM.out]; have := H3.out; omega)
          have h4b : decide (100 < l.f0 + m) = false := decide_eq_false h4
          have HTR := Aside0.mk (show traceC fr tc l t = (cutRun fr (liftRun tc l t), 0) by unfold traceC; rw [if_neg (by rw [HEE.out]; decide), if_neg (by rw [HF.out]; decide), if_neg H4.out])
          clear h4
          have HFO := Aside0.mk (runFits_ok HF.out)
          have CL := Aside0.mk (fun W (hb : Below w.heap.size w W) => ref25_Lifted p q fr tc ⟨A2, k2, A3, k3, A4, k4, A5, k5⟩ l ⟨TF, tf, TI, ti⟩ t W (HP.out.below hb) (HQ.out.below hb) (HR.out.below hb) (HT.out.below hb) LO.out HCF.out HCT.out HFO.out.1 HFO.out.2.2 H3.out)
          have CC := Aside0.mk (fun W qq (hb : Below w.heap.size w W) (h : RT W qq (liftRun tc l t)) => ref25_Cut p fr qq (liftRun tc l t) W (HP.out.below hb) h FF.out HCF.out (by unfold liftRun; rw [List.length_map]; exact LO.out.n2) (liftAll_rows (fun r hr => (LO.out.m3 r hr).1) 0 t.f1) (by have h1 := liftAll_le l t.f1 0; have h2 : t.f1.length * l.f3.length ≤ 100 * 104 := Nat.mul_le_mul H3.out (by have := LO.out.n3; have := LO.out.s1; have := LO.out.p1; omega); show (liftAll l 0 t.f1).length ≤ 20000; omega))
          go_upto_region 8 with (fail)
          clear r0 z0 r1 z1 t1 y1 l0 l1 l2 l3 l4 l5 l6 hwm hwa HMM
          go_wp2
          have S5 := Aside0.mk S3.out.drew
          refine start_ (n := 9) (S := (fun W => Parts w.heap.size w W [pB (w.heap.size + 1 + 1 + 1) 57 #[.slice TF t.f0.length tf, .slice TI t.f1.length ti], pB (w.heap.size + 1 + 1) 31 (lcells ⟨A2, k2, A3, k3, A4, k4, A5, k5⟩ l), pB (w.heap.size + 1) 26 (ccells q tc), pB w.heap.size 26 (ccells p fr)])) (ds := []) #[false, false, false, false, false, false, false, false, false] (by kernel_rfl) rfl rfl S5.out.tail (fun hHeld => ?_)
          refine take_ (i := 0) (N := some 41) (v := ?_) (a' := ?_) #[true, false, false, false, false, false, false, false, false] rfl rfl (by kernel_rfl) (fun _ _ _ h => h) (Or.inl ⟨by rfl, ?_⟩) hHeld ?_ ?_
          rotate_left
          · intro w' s0
            obtain ⟨d0, d1, d2, d3, d4⟩ := blk5 (s0.blk 3 rfl)
            go_simp
            with_reducible rfl
          rotate_left
          · simp only [Act.put, List.setIfInBounds_toArray, List.set_cons_zero, List.set_cons_succ]
            rfl
          refine take_ (i := 1) (N := some 42) (v := ?_) (a' := ?_) #[true, true, false, false, false, false, false, false, false] rfl rfl (by kernel_rfl) (fun _ _ _ h => h) (Or.inl ⟨by rfl, ?_⟩) hHeld ?_ ?_
          rotate_left
          · intro w' s0
            obtain ⟨d0, d1, d2, d3, d4⟩ := blk5 (s0.blk 3 rfl)
            go_simp
            with_reducible rfl
          rotate_left
          · simp only [Act.put, List.setIfInBounds_toArray, List.set_cons_zero, List.set_cons_succ]
            rfl
          refine take_ (i := 2) (N := some 43) (v := ?_) (a' := ?_) #[true, true, true, false, false, false, false, false, false] rfl rfl (by kernel_rfl) (fun _ _ _ h => h) (Or.inl ⟨by rfl, ?_⟩) hHeld ?_ ?_
          rotate_left
          · intro w' s0
            obtain ⟨d0, d1, d2, d3, d4⟩ := blk5 (s0.blk 2 rfl)
            go_simp
            with_reducible rfl
          rotate_left
          · simp only [Act.put, List.setIfInBounds_toArray, List.set_cons_zero, List.set_cons_succ]
            rfl
          refine take_ (i := 3) (N := some 44) (v := ?_) (a' := ?_) #[true, true, true, true, false, false, false, false, false] rfl rfl (by kernel_rfl) (fun _ _ _ h => h) (Or.inl ⟨by rfl, ?_⟩) hHeld ?_ ?_
          rotate_left
          · intro w' s0
            obtain ⟨d0, d1, d2, d3, d4, d5, d6⟩ := blk7 (s0.blk 1 rfl)
            go_simp
            with_reducible rfl
          rotate_left
          · simp only [Act.put, List.setIfInBounds_toArray, List.set_cons_zero, List.set_cons_succ]
            rfl
          refine take_ (i := 4) (N := some 45) (v := ?_) (a' := ?_) #[true, true, true, true, true, false, false, false, false] rfl rfl (by kernel_rfl) (fun _ _ _ h => h) (Or.inl ⟨by rfl, ?_⟩) hHeld ?_ ?_
          rotate_left
          · intro w' s0
            obtain ⟨d0, x0⟩ := s0.cell 0 rfl 0 rfl; obtain ⟨d1, x1⟩ := s0.cell 0 rfl 1 rfl
            go_simp
            with_reducible rfl
          rotate_left
          · simp only [Act.put, List.setIfInBounds_toArray, List.set_cons_zero, List.set_cons_succ]
            rfl
          refine one_ (i := 5) (N := some 46) #[true, true, true, true, true, true, false, false, false] rfl rfl (by kernel_rfl) (by decide) (fun K hK => ?_)
          refine goes_ Try.func56 (by kernel_rfl) rfl #[cv p fr, cv q tc, lv ⟨A2, k2, A3, k3, A4, k4, A5, k5⟩ l, tv ⟨TF, tf, TI, ti⟩ t] (by rfl) rfl rfl (by simp only [List.map_toArray, List.map_cons, List.map_nil] <;> rfl) ?_
          refine (CL.out _ S5.out.B).mono ?_
          rintro e w6 ⟨q6, rfl, hr6, hb6⟩
          refine ⟨_, rfl, ?_⟩
          have S6 := Aside0.mk (S5.out.below hb6)
          have R6 := Aside0.mk hr6
          clear hb6 hr6
          refine hK.out _ _ S6.out.tail (fun hHeld => ?_)
          clear hK K
          refine norm_ (a' := ?_) ?_ ?_
          rotate_left
          · show Act.put _ (some 46) _ = _
            simp only [Act.put, List.setIfInBounds_toArray, List.set_cons_zero, List.set_cons_succ]
            rfl
          refine one_ (i := 6) (N := some 47) #[true, true, true, true, true, true, true, false, false] rfl rfl (by kernel_rfl) (by decide) (fun K hK => ?_)
          refine goes_ Try.func55 (by kernel_rfl) rfl #[cv p fr, tv q6 (liftRun tc l t)] (by rfl) rfl rfl (by simp only [List.map_toArray, List.map_cons, List.map_nil] <;> rfl) ?_
          refine (CC.out _ q6 S6.out.B (R6.out _ (fun _ _ _ => rfl))).mono ?_
          rintro e w7 ⟨rfl, hb7⟩
          refine ⟨_, rfl, ?_⟩
          have S7 := Aside0.mk (S6.out.below hb7)
          have B7 := Aside0.mk hb7
          clear hb7
          refine hK.out _ _ S7.out.tail (fun hHeld => ?_)
          clear hK K
          refine norm_ (a' := ?_) ?_ ?_
          rotate_left
          · show Act.put _ (some 47) _ = _
            simp only [Act.put, List.setIfInBounds_toArray, List.set_cons_zero, List.set_cons_succ]
            rfl
          obtain ⟨r0, z0⟩ := S7.out.cell 0 rfl 0 rfl
          obtain ⟨r1, z1⟩ := S7.out.cell 0 rfl 1 rfl
          refine one_ (i := 7) (N := none) #[true, true, true, true, true, true, true, true, false] rfl rfl (by kernel_rfl) (by decide) (fun K hK => ?_)
          refine skip_ (w1 := ?_) (by rfl) rfl ?_ ?_
          rotate_left
          · go_simp
            rfl
          have S8 := Aside0.mk ((S7.out.put 0 rfl 0 (.slice q6.A0 (cutRun fr (liftRun tc l t)).f0.length q6.c0) rfl).put 0 rfl 1 (.slice q6.A1 (cutRun fr (liftRun tc l t)).f1.length q6.c1) rfl)
          have R8 := Aside0.mk (show RT ((w7.setCell ⟨w.heap.size + 1 + 1 + 1 + 1, 0, none⟩ (.slice q6.A0 (cutRun fr (liftRun tc l t)).f0.length q6.c0)).setCell ⟨w.heap.size + 1 + 1 + 1 + 1, 1, none⟩ (.slice q6.A1 (cutRun fr (liftRun tc l t)).f1.length q6.c1)) q6 (cutRun fr (liftRun tc l t)) from RT.cut (R6.out _ (fun k h1 h2 => by
            have hlt := (S5.out.hF 0 _ rfl (w.heap.size + 1 + 1 + 1 + 1) rfl).2
            have hne : k ≠ w.heap.size + 1 + 1 + 1 + 1 := by omega
            rw [Below.heap_setCell _ _ _ k hne, Below.heap_setCell _ _ _ k hne]
            exact B7.out.block k h2)))
          refine hK.out _ _ S8.out.tail (fun hHeld => ?_)
          clear hK K
          refine pure_ (i := 8) (N := some 9) (v := ?_) (a' := ?_) #[true, true, true, true, true, true, true, true, true] rfl rfl (by kernel_rfl) (fun _ _ _ h => h) (Or.inl ⟨by rfl, ?_⟩) ?_ ?_
          rotate_left
          · intro w'
            go_simp
            with_reducible rfl
          rotate_left
          · simp only [Act.put, List.setIfInBounds_toArray, List.set_cons_zero, List.set_cons_succ]
            rfl
          refine done_ (by kernel_rfl) ?_
          clear hHeld S7 B7 r0 z0 r1 z1
          go_wp2
          refine bodyPost_ret (results_ct rfl _ _ (w.heap.size + 1 + 1 + 1 + 1) 57 #[.slice q6.A0 (cutRun fr (liftRun tc l t)).f0.length q6.c0, .slice q6.A1 (cutRun fr (liftRun tc l t)).f1.length q6.c1] (0, 0) _ rfl (S8.out.blk 0 rfl) hu57 rfl (by kernel_rfl)) rfl ?_
          rw [HTR.out]
          exact ⟨q6, rfl, R8.out, S8.out.B⟩
  · have hne : (E != 0) = true := bne_iff_ne.2 he
    have HNE := Aside0.mk he
    clear he
    go_wp2
    have S3 := Aside0.mk ((S2.out.put 0 rfl 0 (.slice none 0 0) rfl).put 0 rfl 1 (.slice none 0 0) rfl)
    refine bodyPost_ret (results_ct rfl _ _ (w.heap.size + 1 + 1 + 1 + 1) 57 #[.slice none 0 0, .slice none 0 0] (0, 0) _ rfl (S3.out.blk 0 rfl) hu57 rfl (by kernel_rfl)) rfl ?_
    rw [show traceC fr tc l t = (⟨[], []⟩, E) by unfold traceC; rw [HEE.out, if_pos HNE.out]]
    exact ⟨⟨none, 0, none, 0⟩, rfl, ⟨RS.nil _ _ _, RS.nil _ _ _⟩, S3.out.B⟩
end Go.Proofs.Ytlhiapggccgggaa.PH
