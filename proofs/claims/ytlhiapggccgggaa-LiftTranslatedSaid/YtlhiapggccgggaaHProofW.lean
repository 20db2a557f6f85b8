/- lift.Proof. -/
import Derived.Test.YtlhiapggccgggaaHTraceW
import Derived.Test.YtlhiapggccgggaaHPackD
import Derived.Test.YtlhiapggccgggaaHTrans2
import Derived.Test.YtlhiapggccgggaaHMake
namespace Go.Proofs.Ytlhiapggccgggaa.PH
open Go.RowKit Go.Proofs.YtlhiapggccgggaaW.PrintWords Go.Proofs.YtlhiapggccgggaaW.PrintLast
set_option linter.unusedVariables false
set_option linter.unusedSimpArgs false
attribute [local go_sem] max_pair min_pair

@[reducible] def xv (A : Option Addr) (c : Nat) (x : Prf) : Value := .agg #[.int .i64 x.f0, .int .i64 x.f1, .slice A x.f2.f0.length c, .int .i64 x.f2.f1]
def zeroX : Prf := ⟨0, 0, ⟨[], 0⟩⟩
def skipOf (l : Lf) (s : Int) : Int := if 0 < l.f0 then l.f0 + l.f1 * max s 1 else l.f1 * s
def proofP (fr : Circ) (l : Lf) (x : Prf) : Pr × Int := andP fr.f1.length (transP fr l.f4 x.f2) l.f5
def proofC (fr tc : Circ) (l : Lf) (x : Prf) : Prf × Int :=
  if liftErr fr tc l ≠ 0 then (zeroX, liftErr fr tc l)
  else if x.f1 ≠ 1 ∨ x.f0 < 0 ∨ 100 < x.f0 then (zeroX, 2)
  else if predCheck tc.f1.length x.f2 ≠ 0 then (zeroX, 8)
  else if 100 < skipOf l x.f0 then (zeroX, 4)
  else if (proofP fr l x).2 ≠ 0 then (zeroX, (proofP fr l x).2)
  else (⟨skipOf l x.f0, l.f1, (proofP fr l x).1⟩, 0)
/-- A proof comes back, and an error. -/
def RetX (w w' : World) (r : Prf × Int) (e : Ending) : Prop := ∃ A c, e = .returned (.tuple #[xv A c r.1, .int .i64 r.2]) ∧ RS kGate w' A c r.1.f2.f0 ∧ Below w.heap.size w w'
theorem blkP {w : World} {g : Nat} {t : TypeId} {v0 v1 v2 v3 : Value} (h : w.heap[g]? = some (.cells #[v0, v1, v2, v3] t (0, 0))) : w.cell? ⟨g, 0, none⟩ = some v0 ∧ w.cell? ⟨g, 1, none⟩ = some v1 ∧ w.cell? ⟨g, 2, none⟩ = some v2 ∧ w.cell? ⟨g, 3, none⟩ = some v3 :=
  ⟨blk_cell h 0, blk_cell h 1, blk_cell h 2, blk_cell h 3⟩
theorem skip_bounds {l : Lf} (h1 : 1 ≤ l.f1) (h2 : l.f1 ≤ 4) {s : Int} (hs0 : 0 ≤ s) (hs1 : s ≤ 101) : 0 ≤ l.f1 * s ∧ l.f1 * s ≤ 404 := by
  refine ⟨Int.mul_nonneg (by omega) hs0, ?_⟩
  have h4 := Int.mul_le_mul h2 hs1 hs0 (by omega)
  omega
/-- What lift.Proof has. -/
@[reducible] def prPs (g : Nat) (p q : CP) (fr tc : Circ) (r : LP) (l : Lf) (XA : Option Addr) (xc : Nat) (x : Prf) : List Pc :=
  [pB (g + 1 + 1 + 1 + 1) 49 #[.int .i64 0, .int .i64 0, .slice none 0 0, .int .i64 0], pB (g + 1 + 1 + 1) 49 #[.int .i64 x.f0, .int .i64 x.f1, .slice XA x.f2.f0.length xc, .int .i64 x.f2.f1], pB (g + 1 + 1) 31 (lcells r l), pB (g + 1) 26 (ccells q tc), pB g 26 (ccells p fr)]
set_option maxHeartbeats 4000000 in
set_option maxRecDepth 100000 in
theorem lift_Proof (p q : CP) (fr tc : Circ) (r : LP) (l : Lf) (XA : Option Addr) (xc : Nat) (x : Prf) (w : World) (hp : RC w p fr) (hq : RC w q tc) (hr : RL w r l) (hx : RS kGate w XA xc x.f2.f0) (ff : fr.Fits) (ft : tc.Fits) (hl : l.Fits) (hxf : x.f2.Fits) (hsz : (fr.f1.length : Int) + x.f2.f0.length ≤ 1000) :
    Calls Try.prog 20 #[cv p fr, cv q tc, lv r l, xv XA xc x] w fun e w' => RetX w w' (proofC fr tc l x) e := by
  obtain ⟨A2, k2, A3, k3, A4, k4, A5, k5⟩ := r
  have CK := Aside0.mk (fun W (hb : Below w.heap.size w W) => lift_Check p q fr tc ⟨A2, k2, A3, k3, A4, k4, A5, k5⟩ l W (hp.below hb) (hq.below hb) (hr.below hb) ff ft hl)
  have PK := Aside0.mk (fun W (hb : Below w.heap.size w W) => preds_Check (tc.f1.length : Int) XA xc x.f2 W (hx.below hb) hxf)
  have HP := Aside0.mk hp
  have HR := Aside0.mk hr
  have HXX := Aside0.mk hx
  have HXF := Aside0.mk hxf
  have HLF := Aside0.mk hl
  have HSZ := Aside0.mk hsz
  have hu26 := Try.underlying26
  have hu31 := Try.underlying31
  have hu49 := Try.underlying49
  have hu29 := Try.underlying29
  have S := ((((((Parts.start w).new 26 (ccells p fr)).new 26 (ccells q tc)).new 31 (lcells ⟨A2, k2, A3, k3, A4, k4, A5, k5⟩ l)).new 49 #[.int .i64 x.f0, .int .i64 x.f1, .slice XA x.f2.f0.length xc, .int .i64 x.f2.f1]).new 49 #[.int .i64 0, .int .i64 0, .slice none 0 0, .int .i64 0])
  simp only [sz_new] at S
  have S0 := Aside0.mk S
  clear S hp hq hr hx ff ft hl hxf hsz
  go_enter Try.func20, Try.ntmps20
  go_upto_region 1 with (fail)
  obtain ⟨w1, hw1⟩ : ∃ W, (((((w.alloc (.cells (ccells p fr) 26)).alloc (.cells (ccells q tc) 26)).alloc (.cells (lcells ⟨A2, k2, A3, k3, A4, k4, A5, k5⟩ l) 31)).alloc (.cells #[.int .i64 x.f0, .int .i64 x.f1, .slice XA x.f2.f0.length xc, .int .i64 x.f2.f1] 49)).alloc (.cells #[.int .i64 0, .int .i64 0, .slice none 0 0, .int .i64 0] 49)) = W := ⟨_, rfl⟩
  rw [hw1] at S0 ⊢
  clear hw1
  obtain ⟨a0, a1, a2, a3, a4⟩ := blk5 (S0.out.blk 4 rfl)
  obtain ⟨b0, b1, b2, b3, b4⟩ := blk5 (S0.out.blk 3 rfl)
  obtain ⟨l0, l1, l2, l3, l4, l5, l6⟩ := blk7 (S0.out.blk 2 rfl)
  go_wp2_with fail
  refine (CK.out _ S0.out.B).mono ?_
  rintro e w2 ⟨rfl, hb⟩
  have S := Aside0.mk (S0.out.below hb)
  clear hb S0 a0 a1 a2 a3 a4 b0 b1 b2 b3 b4 l0 l1 l2 l3 l4 l5 l6
  obtain ⟨E, hE⟩ : ∃ E, liftCheck fr tc l = E := ⟨_, rfl⟩
  have HEE := Aside0.mk (show liftErr fr tc l = E from (liftErr_eq fr tc l).trans hE)
  rw [hE]
  clear hE CK
  obtain ⟨r0, z0⟩ := S.out.cell 0 rfl 0 rfl
  obtain ⟨r1, z1⟩ := S.out.cell 0 rfl 1 rfl
  obtain ⟨r2, z2⟩ := S.out.cell 0 rfl 2 rfl
  obtain ⟨r3, z3⟩ := S.out.cell 0 rfl 3 rfl
  by_cases he : E = 0
  · subst he
    have LO := Aside0.mk (LOk.of (liftErr_ok HEE.out).2.2)
    have HCF := Aside0.mk (liftErr_ok HEE.out).1
    obtain ⟨x0, x1, x2, x3⟩ := blkP (S.out.blk 1 rfl)
    by_cases g1 : x.f1 = 1
    · have g1b : (x.f1 != 1) = false := bne_eq_false_iff_eq.2 g1
      have G1 := Aside0.mk g1
      clear g1
      by_cases g2 : x.f0 < 0
      · have g2b : decide (x.f0 < 0) = true := decide_eq_true g2
        have G2 := Aside0.mk g2
        clear g2
        go_wp2
        have SE := Aside0.mk ((((S.out.put 0 rfl 0 (.int .i64 0) rfl).put 0 rfl 1 (.int .i64 0) rfl).put 0 rfl 2 (.slice none 0 0) rfl).put 0 rfl 3 (.int .i64 0) rfl)
        refine bodyPost_ret (results_ct rfl _ _ (w.heap.size + 1 + 1 + 1 + 1) 49 #[.int .i64 0, .int .i64 0, .slice none 0 0, .int .i64 0] (0, 0) _ rfl (SE.out.blk 0 rfl) hu49 rfl (by kernel_rfl)) rfl ?_
        rw [show proofC fr tc l x = (zeroX, 2) by unfold proofC; rw [if_neg (by rw [HEE.out]; decide), if_pos (.inr (.inl G2.out))]]
        exact ⟨none, 0, rfl, RS.nil _ _ _, SE.out.B⟩
      · have g2b : decide (x.f0 < 0) = false := decide_eq_false g2
        have G2 := Aside0.mk (show 0 ≤ x.f0 by omega)
        clear g2
        by_cases g3 : 100 < x.f0
        · have g3b : decide (100 < x.f0) = true := decide_eq_true g3
          have G3 := Aside0.mk g3
          clear g3
          go_wp2
          have SE := Aside0.mk ((((S.out.put 0 rfl 0 (.int .i64 0) rfl).put 0 rfl 1 (.int .i64 0) rfl).put 0 rfl 2 (.slice none 0 0) rfl).put 0 rfl 3 (.int .i64 0) rfl)
          refine bodyPost_ret (results_ct rfl _ _ (w.heap.size + 1 + 1 + 1 + 1) 49 #[.int .i64 0, .int .i64 0, .slice none 0 0, .int .i64 0] (0, 0) _ rfl (SE.out.blk 0 rfl) hu49 rfl (by kernel_rfl)) rfl ?_
          rw [show proofC fr tc l x = (zeroX, 2) by unfold proofC; rw [if_neg (by rw [HEE.out]; decide), if_pos (.inr (.inr G3.out))]]
          exact ⟨none, 0, rfl, RS.nil _ _ _, SE.out.B⟩
        · have g3b : decide (100 < x.f0) = false := decide_eq_false g3
          have G3 := Aside0.mk (show x.f0 ≤ 100 by omega)
          have GG := Aside0.mk (show ¬ (x.f1 ≠ 1 ∨ x.f0 < 0 ∨ 100 < x.f0) by have := G1.out; have := G2.out; omega)
          clear g3
          obtain ⟨b0, b1, b2, b3, b4⟩ := blk5 (S.out.blk 3 rfl)
          go_wp2_with fail
          refine (PK.out _ S.out.B).mono ?_
          rintro e w3 ⟨rfl, hb⟩
          have S := Aside0.mk (S.out.below hb)
          clear hb b0 b1 b2 b3 b4 x0 x1 x2 x3 r0 z0 r1 z1 r2 z2 r3 z3
          obtain ⟨r0, z0⟩ := S.out.cell 0 rfl 0 rfl
          obtain ⟨r1, z1⟩ := S.out.cell 0 rfl 1 rfl
          obtain ⟨r2, z2⟩ := S.out.cell 0 rfl 2 rfl
          obtain ⟨r3, z3⟩ := S.out.cell 0 rfl 3 rfl
          by_cases h4 : predCheck tc.f1.length x.f2 = 0
          · have H4 := Aside0.mk h4
            have h4b : (predCheck tc.f1.length x.f2 != 0) = false := bne_eq_false_iff_eq.2 h4
            clear h4
            obtain ⟨x0, x1, x2, x3⟩ := blkP (S.out.blk 1 rfl)
            obtain ⟨l0, l1, l2, l3, l4, l5, l6⟩ := blk7 (S.out.blk 2 rfl)
            have hb4 := Aside0.mk (skip_bounds LO.out.p0 LO.out.p1 G2.out (by have := G3.out; omega))
            by_cases h5 : 0 < l.f0
            · have h5b : decide (0 < l.f0) = true := decide_eq_true h5
              obtain ⟨sk, hsk⟩ : ∃ sk, skipOf l x.f0 = sk := ⟨_, rfl⟩
              have HSK := Aside0.mk hsk
              have hw : wrap64 (l.f0 + wrap64 (l.f1 * if x.f0 < 1 then 1 else x.f0)) = sk := by
                have h2 := skip_bounds LO.out.p0 LO.out.p1 (s := max x.f0 1) (by omega) (by have := G3.out; omega)
                have h3 : (if x.f0 < 1 then 1 else x.f0) = max x.f0 1 := by split <;> omega
                have h4 := LO.out.s1
                have h5 := LO.out.s0
                rw [h3, wrap_in (x := l.f1 * max x.f0 1) (by omega) (by omega), wrap_in (by omega) (by omega), ← hsk]
                unfold skipOf; rw [if_pos (by omega)]
              clear hsk h5
              go_upto_region 11 with (fail)
              rw [hw]
              generalize (if x.f0 < 1 then (1 : Int) else x.f0) = mx_ at *
              clear hw h5b
              by_cases h6 : 100 < sk
              · have h6b : decide (100 < sk) = true := decide_eq_true h6
                have H6 := Aside0.mk h6
                clear h6
                go_wp2
                have SE := Aside0.mk ((((S.out.put 0 rfl 0 (.int .i64 0) rfl).put 0 rfl 1 (.int .i64 0) rfl).put 0 rfl 2 (.slice none 0 0) rfl).put 0 rfl 3 (.int .i64 0) rfl)
                refine bodyPost_ret (results_ct rfl _ _ (w.heap.size + 1 + 1 + 1 + 1) 49 #[.int .i64 0, .int .i64 0, .slice none 0 0, .int .i64 0] (0, 0) _ rfl (SE.out.blk 0 rfl) hu49 rfl (by kernel_rfl)) rfl ?_
                rw [show proofC fr tc l x = (zeroX, 4) by unfold proofC; rw [if_neg (by rw [HEE.out]; decide), if_neg GG.out, if_neg (by rw [H4.out]; decide), if_pos (by rw [HSK.out]; exact H6.out)]]
                exact ⟨none, 0, rfl, RS.nil _ _ _, SE.out.B⟩
              · have h6b : decide (100 < sk) = false := decide_eq_false h6
                have H6 := Aside0.mk h6
                clear h6
                have hlas := lasOk_of LO.out (gCheck_ok HCF.out).1 (gCheck_ok HCF.out).2.1 (by have := gCheck_ok HCF.out; omega)
                have hck5 : predCheck l.f4.length x.f2 = 0 := by rw [LO.out.n4]; exact H4.out
                obtain ⟨tp, htp⟩ : ∃ tp, transP fr l.f4 x.f2 = tp := ⟨_, rfl⟩
                have HTF := Aside0.mk (transP_fits hlas hck5 HSZ.out)
                have HTC := Aside0.mk (fun W (hb : Below w.heap.size w W) => lift_translate p fr A4 k4 l.f4 XA xc x.f2 W (HR.out.below hb).s4 (HXX.out.below hb) HXF.out hlas hck5 HSZ.out)
                rw [htp] at HTF HTC
                obtain ⟨fp, hfp⟩ : ∃ fp, andP fr.f1.length tp l.f5 = fp := ⟨_, rfl⟩
                have HFP := Aside0.mk (show proofP fr l x = fp by unfold proofP; rw [htp, hfp])
                have HAN := Aside0.mk (fun W TA tk (hb : Below w.heap.size w W) (ht : RS kGate W TA tk tp.f0) => preds_And fr.f1.length TA tk tp A5 k5 l.f5 W ht HTF.out (HR.out.below hb).s5 HLF.out.p)
                rw [hfp] at HAN
                clear htp hfp hlas hck5 x0 x1 x2 x3 l0 l1 l2 l3 l4 l5 l6 r0 z0 r1 z1 r2 z2 r3 z3
                go_upto_region 13 with (fail)
                go_wp2
                have S4 := Aside0.mk (show Parts w.heap.size w w3.drew (prPs w.heap.size p q fr tc ⟨A2, k2, A3, k3, A4, k4, A5, k5⟩ l XA xc x) from S.out.drew)
                refine start_ (n := 18) (S := (fun w' : World => Parts w.heap.size w w' (prPs w.heap.size p q fr tc ⟨A2, k2, A3, k3, A4, k4, A5, k5⟩ l XA xc x))) (ds := []) #[false, false, false, false, false, false, false, false, false, false, false, false, false, false, false, false, false, false] (by kernel_rfl) rfl rfl S4.out (fun hHeld => ?_)
                refine pure_ (i := 0) (N := some 65) (v := ?_) (a' := ?_) #[true, false, false, false, false, false, false, false, false, false, false, false, false, false, false, false, false, false] rfl rfl (by kernel_rfl) (fun _ _ _ h => h) (Or.inl ⟨by rfl, ?_⟩) ?_ ?_
                rotate_left
                · intro w'
                  go_simp
                  with_reducible rfl
                rotate_left
                · simp only [Act.put, List.setIfInBounds_toArray, List.set_cons_zero, List.set_cons_succ]
                  rfl
                refine take_ (i := 1) (N := some 66) (v := ?_) (a' := ?_) #[true, true, false, false, false, false, false, false, false, false, false, false, false, false, false, false, false, false] rfl rfl (by kernel_rfl) (fun _ _ _ h => h) (Or.inl ⟨by rfl, ?_⟩) hHeld ?_ ?_
                rotate_left
                · intro w' s0
                  obtain ⟨c0, c1, c2, c3, c4⟩ := blk5 (s0.blk 4 rfl)
                  go_simp
                  with_reducible rfl
                rotate_left
                · simp only [Act.put, List.setIfInBounds_toArray, List.set_cons_zero, List.set_cons_succ]
                  rfl
                refine pure_ (i := 2) (N := some 67) (v := ?_) (a' := ?_) #[true, true, true, false, false, false, false, false, false, false, false, false, false, false, false, false, false, false] rfl rfl (by kernel_rfl) (fun _ _ _ h => h) (Or.inl ⟨by rfl, ?_⟩) ?_ ?_
                rotate_left
                · intro w'
                  go_simp
                  with_reducible rfl
                rotate_left
                · simp only [Act.put, List.setIfInBounds_toArray, List.set_cons_zero, List.set_cons_succ]
                  rfl
                refine take_ (i := 3) (N := some 68) (v := ?_) (a' := ?_) #[true, true, true, true, false, false, false, false, false, false, false, false, false, false, false, false, false, false] rfl rfl (by kernel_rfl) (fun _ _ _ h => h) (Or.inl ⟨by rfl, ?_⟩) hHeld ?_ ?_
                rotate_left
                · intro w' s0
                  obtain ⟨c0, c1, c2, c3, c4⟩ := blk5 (s0.blk 4 rfl)
                  go_simp
                  with_reducible rfl
                rotate_left
                · simp only [Act.put, List.setIfInBounds_toArray, List.set_cons_zero, List.set_cons_succ]
                  rfl
                refine pure_ (i := 4) (N := some 69) (v := ?_) (a' := ?_) #[true, true, true, true, true, false, false, false, false, false, false, false, false, false, false, false, false, false] rfl rfl (by kernel_rfl) (fun _ _ _ h => h) (Or.inl ⟨by rfl, ?_⟩) ?_ ?_
                rotate_left
                · intro w'
                  go_simp
                  with_reducible rfl
                rotate_left
                · simp only [Act.put, List.setIfInBounds_toArray, List.set_cons_zero, List.set_cons_succ]
                  rfl
                refine take_ (i := 5) (N := some 70) (v := ?_) (a' := ?_) #[true, true, true, true, true, true, false, false, false, false, false, false, false, false, false, false, false, false] rfl rfl (by kernel_rfl) (fun _ _ _ h => h) (Or.inl ⟨by rfl, ?_⟩) hHeld ?_ ?_
                rotate_left
                · intro w' s0
                  obtain ⟨c0, c1, c2, c3, c4, c5, c6⟩ := blk7 (s0.blk 2 rfl)
                  go_simp
                  with_reducible rfl
                rotate_left
                · simp only [Act.put, List.setIfInBounds_toArray, List.set_cons_zero, List.set_cons_succ]
                  rfl
                refine pure_ (i := 6) (N := some 71) (v := ?_) (a' := ?_) #[true, true, true, true, true, true, true, false, false, false, false, false, false, false, false, false, false, false] rfl rfl (by kernel_rfl) (fun _ _ _ h => h) (Or.inl ⟨by rfl, ?_⟩) ?_ ?_
                rotate_left
                · intro w'
                  go_simp
                  with_reducible rfl
                rotate_left
                · simp only [Act.put, List.setIfInBounds_toArray, List.set_cons_zero, List.set_cons_succ]
                  rfl
                refine take_ (i := 7) (N := some 72) (v := ?_) (a' := ?_) #[true, true, true, true, true, true, true, true, false, false, false, false, false, false, false, false, false, false] rfl rfl (by kernel_rfl) (fun _ _ _ h => h) (Or.inl ⟨by rfl, ?_⟩) hHeld ?_ ?_
                rotate_left
                · intro w' s0
                  obtain ⟨c0, c1, c2, c3⟩ := blkP (s0.blk 1 rfl)
                  go_simp
                  with_reducible rfl
                rotate_left
                · simp only [Act.put, List.setIfInBounds_toArray, List.set_cons_zero, List.set_cons_succ]
                  rfl
                refine pure_ (i := 9) (N := some 74) (v := ?_) (a' := ?_) #[true, true, true, true, true, true, true, true, false, true, false, false, false, false, false, false, false, false] rfl rfl (by kernel_rfl) (fun _ _ _ h => h) (Or.inl ⟨by rfl, ?_⟩) ?_ ?_
                rotate_left
                · intro w'
                  go_simp
                  with_reducible rfl
                rotate_left
                · simp only [Act.put, List.setIfInBounds_toArray, List.set_cons_zero, List.set_cons_succ]
                  rfl
                refine take_ (i := 10) (N := some 75) (v := ?_) (a' := ?_) #[true, true, true, true, true, true, true, true, false, true, true, false, false, false, false, false, false, false] rfl rfl (by kernel_rfl) (fun _ _ _ h => h) (Or.inl ⟨by rfl, ?_⟩) hHeld ?_ ?_
                rotate_left
                · intro w' s0
                  obtain ⟨c0, c1, c2, c3, c4, c5, c6⟩ := blk7 (s0.blk 2 rfl)
                  go_simp
                  with_reducible rfl
                rotate_left
                · simp only [Act.put, List.setIfInBounds_toArray, List.set_cons_zero, List.set_cons_succ]
                  rfl
                refine join_ (fuel' := 2) #[true, true, true, true, true, true, true, true, true, true, true, true, true, true, true, true, false, false] (fun s : Nat × (Option Addr × Nat) × (Option Addr × Nat) => [(73, .agg #[.slice s.2.1.1 tp.f0.length s.2.1.2, .int .i64 tp.f1]), (76, .tuple #[.agg #[.slice s.2.2.1 fp.1.f0.length s.2.2.2, .int .i64 fp.1.f1], .int .i64 fp.2]), (64, .tuple #[.agg #[.slice s.2.2.1 fp.1.f0.length s.2.2.2, .int .i64 fp.1.f1], .int .i64 fp.2]), (77, .agg #[.slice s.2.2.1 fp.1.f0.length s.2.2.2, .int .i64 fp.1.f1]), (78, .int .i64 fp.2), (12, .pointer (some ⟨s.1, 0, none⟩))]) (fun s w' => Parts w.heap.size w w' (pF w.heap.size kGate 93 (.slice s.2.2.1 fp.1.f0.length s.2.2.2) fp.1.f0 :: pB s.1 29 #[.slice none 0 0, .int .i64 0] :: (prPs w.heap.size p q fr tc ⟨A2, k2, A3, k3, A4, k4, A5, k5⟩ l XA xc x))) ?hcont ?hjoin
                case hjoin =>
                  intro hcont
                  refine two_ (i := 8) (j := 15) (Ni := some 73) (Nj := some 12) #[true, true, true, true, true, true, true, true, true, true, true, false, false, false, false, false, false, false] #[true, true, true, true, true, true, true, true, false, true, true, false, false, false, false, true, false, false] rfl rfl rfl rfl (by kernel_rfl) (by decide) (by decide) (fun K hK => ?_) (fun K hK => ?_)
                  · skip
                    refine goes_ Try.func45 (by kernel_rfl) rfl #[cv p fr, .slice A4 l.f4.length k4, .agg #[.slice XA x.f2.f0.length xc, .int .i64 x.f2.f1]] (by rfl) rfl rfl (by simp only [List.map_toArray, List.map_cons, List.map_nil] <;> rfl) ?_
                    refine (HTC.out _ S4.out.B).mono ?_
                    rintro e w6 ⟨TA, tk, rfl, hrt, hb6⟩
                    refine ⟨_, rfl, ?_⟩
                    have S6 := Aside0.mk (S4.out.below hb6)
                    have RT6 := Aside0.mk (RS.of_R' hrt)
                    clear hb6 hrt
                    refine hK.out _ _ S6.out (fun hHeld => ?_)
                    clear hK K
                    refine norm_ (a' := ?_) ?_ ?_
                    rotate_left
                    · show Act.put _ (some 73) _ = _
                      simp only [Act.put, List.setIfInBounds_toArray, List.set_cons_zero, List.set_cons_succ]
                      rfl
                    refine two_ (i := 11) (j := 15) (Ni := some 76) (Nj := some 12) #[true, true, true, true, true, true, true, true, true, true, true, true, false, false, false, false, false, false] #[true, true, true, true, true, true, true, true, true, true, true, false, false, false, false, true, false, false] rfl rfl rfl rfl (by kernel_rfl) (by decide) (by decide) (fun K hK => ?_) (fun K hK => ?_)
                    · skip
                      refine goes_ Try.func44 (by kernel_rfl) rfl #[.int .i64 (fr.f1.length : Int), .agg #[.slice TA tp.f0.length tk, .int .i64 tp.f1], .agg #[.slice A5 l.f5.f0.length k5, .int .i64 l.f5.f1]] (by rfl) rfl rfl (by simp only [List.map_toArray, List.map_cons, List.map_nil] <;> rfl) ?_
                      refine (HAN.out _ TA tk S6.out.B RT6.out).mono ?_
                      rintro e w7 ⟨FA7, fk7, rfl, hr7, hb7⟩
                      refine ⟨_, rfl, ?_⟩
                      have S7 := Aside0.mk (S6.out.freshF flat_gate hb7 hr7)
                      clear hb7 hr7
                      refine hK.out _ _ S7.out.tail (fun hHeld => ?_)
                      clear hK K
                      refine norm_ (a' := ?_) ?_ ?_
                      rotate_left
                      · show Act.put _ (some 76) _ = _
                        simp only [Act.put, List.setIfInBounds_toArray, List.set_cons_zero, List.set_cons_succ]
                        rfl
                      refine pure_ (i := 12) (N := some 64) (v := ?_) (a' := ?_) #[true, true, true, true, true, true, true, true, true, true, true, true, true, false, false, false, false, false] rfl rfl (by kernel_rfl) (fun _ _ _ h => h) (Or.inl ⟨by rfl, ?_⟩) ?_ ?_
                      rotate_left
                      · intro w'
                        go_simp
                        with_reducible rfl
                      rotate_left
                      · simp only [Act.put, List.setIfInBounds_toArray, List.set_cons_zero, List.set_cons_succ]
                        rfl
                      refine pure_ (i := 13) (N := some 77) (v := ?_) (a' := ?_) #[true, true, true, true, true, true, true, true, true, true, true, true, true, true, false, false, false, false] rfl rfl (by kernel_rfl) (fun _ _ _ h => h) (Or.inl ⟨by rfl, ?_⟩) ?_ ?_
                      rotate_left
                      · intro w'
                        go_simp
                        with_reducible rfl
                      rotate_left
                      · simp only [Act.put, List.setIfInBounds_toArray, List.set_cons_zero, List.set_cons_succ]
                        rfl
                      refine pure_ (i := 14) (N := some 78) (v := ?_) (a' := ?_) #[true, true, true, true, true, true, true, true, true, true, true, true, true, true, true, false, false, false] rfl rfl (by kernel_rfl) (fun _ _ _ h => h) (Or.inl ⟨by rfl, ?_⟩) ?_ ?_
                      rotate_left
                      · intro w'
                        go_simp
                        with_reducible rfl
                      rotate_left
                      · simp only [Act.put, List.setIfInBounds_toArray, List.set_cons_zero, List.set_cons_succ]
                        rfl
                      refine one_ (i := 15) (N := some 12) #[true, true, true, true, true, true, true, true, true, true, true, true, true, true, true, true, false, false] rfl rfl (by kernel_rfl) (by decide) (fun K hK => ?_)
                      refine value_ (w1 := ?_) (v := ?_) (by rfl) rfl ?_ ?_
                      rotate_left 2
                      · go_simp
                        constructor
                        · rfl
                        · rfl
                      refine hK.out _ _ (S7.out.tail.alloc _) (fun hHeld => ?_)
                      clear hK K
                      refine norm_ (a' := ?_) ?_ ?_
                      rotate_left
                      · show Act.put _ (some 12) _ = _
                        simp only [Act.put, List.setIfInBounds_toArray, List.set_cons_zero, List.set_cons_succ]
                        rfl
                      refine norm_ ?_ (hcont (w7.heap.size, (TA, tk), (FA7, fk7)) _ ((S7.out.new 29 #[.slice none 0 0, .int .i64 0]).take [1, 0, 2, 3, 4, 5, 6] 7 (by simp) (by decide) (by decide)))
                      simp only [putAll, Act.put, List.setIfInBounds_toArray, List.set_cons_zero, List.set_cons_succ] <;> rfl
                    · skip
                      refine value_ (w1 := ?_) (v := ?_) (by rfl) rfl ?_ ?_
                      rotate_left 2
                      · go_simp
                        constructor
                        · rfl
                        · rfl
                      have S7 := Aside0.mk (S6.out.new 29 #[.slice none 0 0, .int .i64 0])
                      refine hK.out _ _ S7.out.tail (fun hHeld => ?_)
                      clear hK K
                      refine norm_ (a' := ?_) ?_ ?_
                      rotate_left
                      · show Act.put _ (some 12) _ = _
                        simp only [Act.put, List.setIfInBounds_toArray, List.set_cons_zero, List.set_cons_succ]
                        rfl
                      refine one_ (i := 11) (N := some 76) #[true, true, true, true, true, true, true, true, true, true, true, true, false, false, false, true, false, false] rfl rfl (by kernel_rfl) (by decide) (fun K hK => ?_)
                      refine goes_ Try.func44 (by kernel_rfl) rfl #[.int .i64 (fr.f1.length : Int), .agg #[.slice TA tp.f0.length tk, .int .i64 tp.f1], .agg #[.slice A5 l.f5.f0.length k5, .int .i64 l.f5.f1]] (by rfl) rfl rfl (by simp only [List.map_toArray, List.map_cons, List.map_nil] <;> rfl) ?_
                      refine (HAN.out _ TA tk S7.out.B (RT6.out.below (below_alloc (Below.refl _ _) _))).mono ?_
                      rintro e w7 ⟨FA7, fk7, rfl, hr7, hb7⟩
                      refine ⟨_, rfl, ?_⟩
                      have S8 := Aside0.mk (S7.out.freshF flat_gate hb7 hr7)
                      clear hb7 hr7
                      refine hK.out _ _ S8.out.tail.tail (fun hHeld => ?_)
                      clear hK K
                      refine norm_ (a' := ?_) ?_ ?_
                      rotate_left
                      · show Act.put _ (some 76) _ = _
                        simp only [Act.put, List.setIfInBounds_toArray, List.set_cons_zero, List.set_cons_succ]
                        rfl
                      refine pure_ (i := 12) (N := some 64) (v := ?_) (a' := ?_) #[true, true, true, true, true, true, true, true, true, true, true, true, true, false, false, true, false, false] rfl rfl (by kernel_rfl) (fun _ _ _ h => h) (Or.inl ⟨by rfl, ?_⟩) ?_ ?_
                      rotate_left
                      · intro w'
                        go_simp
                        with_reducible rfl
                      rotate_left
                      · simp only [Act.put, List.setIfInBounds_toArray, List.set_cons_zero, List.set_cons_succ]
                        rfl
                      refine pure_ (i := 13) (N := some 77) (v := ?_) (a' := ?_) #[true, true, true, true, true, true, true, true, true, true, true, true, true, true, false, true, false, false] rfl rfl (by kernel_rfl) (fun _ _ _ h => h) (Or.inl ⟨by rfl, ?_⟩) ?_ ?_
                      rotate_left
                      · intro w'
                        go_simp
                        with_reducible rfl
                      rotate_left
                      · simp only [Act.put, List.setIfInBounds_toArray, List.set_cons_zero, List.set_cons_succ]
                        rfl
                      refine pure_ (i := 14) (N := some 78) (v := ?_) (a' := ?_) #[true, true, true, true, true, true, true, true, true, true, true, true, true, true, true, true, false, false] rfl rfl (by kernel_rfl) (fun _ _ _ h => h) (Or.inl ⟨by rfl, ?_⟩) ?_ ?_
                      rotate_left
                      · intro w'
                        go_simp
                        with_reducible rfl
                      rotate_left
                      · simp only [Act.put, List.setIfInBounds_toArray, List.set_cons_zero, List.set_cons_succ]
                        rfl
                      refine norm_ ?_ (hcont (w6.heap.size, (TA, tk), (FA7, fk7)) _ S8.out)
                      simp only [putAll, Act.put, List.setIfInBounds_toArray, List.set_cons_zero, List.set_cons_succ] <;> rfl
                  · skip
                    refine value_ (w1 := ?_) (v := ?_) (by rfl) rfl ?_ ?_
                    rotate_left 2
                    · go_simp
                      constructor
                      · rfl
                      · rfl
                    have S5 := Aside0.mk (S4.out.new 29 #[.slice none 0 0, .int .i64 0])
                    refine hK.out _ _ S5.out.tail (fun hHeld => ?_)
                    clear hK K
                    refine norm_ (a' := ?_) ?_ ?_
                    rotate_left
                    · show Act.put _ (some 12) _ = _
                      simp only [Act.put, List.setIfInBounds_toArray, List.set_cons_zero, List.set_cons_succ]
                      rfl
                    refine one_ (i := 8) (N := some 73) #[true, true, true, true, true, true, true, true, true, true, true, false, false, false, false, true, false, false] rfl rfl (by kernel_rfl) (by decide) (fun K hK => ?_)
                    refine goes_ Try.func45 (by kernel_rfl) rfl #[cv p fr, .slice A4 l.f4.length k4, .agg #[.slice XA x.f2.f0.length xc, .int .i64 x.f2.f1]] (by rfl) rfl rfl (by simp only [List.map_toArray, List.map_cons, List.map_nil] <;> rfl) ?_
                    refine (HTC.out _ S5.out.B).mono ?_
                    rintro e w6 ⟨TA, tk, rfl, hrt, hb6⟩
                    refine ⟨_, rfl, ?_⟩
                    have S6 := Aside0.mk (S5.out.below hb6)
                    have RT6 := Aside0.mk (RS.of_R' hrt)
                    clear hb6 hrt
                    refine hK.out _ _ S6.out.tail (fun hHeld => ?_)
                    clear hK K
                    refine norm_ (a' := ?_) ?_ ?_
                    rotate_left
                    · show Act.put _ (some 73) _ = _
                      simp only [Act.put, List.setIfInBounds_toArray, List.set_cons_zero, List.set_cons_succ]
                      rfl
                    refine one_ (i := 11) (N := some 76) #[true, true, true, true, true, true, true, true, true, true, true, true, false, false, false, true, false, false] rfl rfl (by kernel_rfl) (by decide) (fun K hK => ?_)
                    refine goes_ Try.func44 (by kernel_rfl) rfl #[.int .i64 (fr.f1.length : Int), .agg #[.slice TA tp.f0.length tk, .int .i64 tp.f1], .agg #[.slice A5 l.f5.f0.length k5, .int .i64 l.f5.f1]] (by rfl) rfl rfl (by simp only [List.map_toArray, List.map_cons, List.map_nil] <;> rfl) ?_
                    refine (HAN.out _ TA tk S6.out.B RT6.out).mono ?_
                    rintro e w7 ⟨FA7, fk7, rfl, hr7, hb7⟩
                    refine ⟨_, rfl, ?_⟩
                    have S7 := Aside0.mk (S6.out.freshF flat_gate hb7 hr7)
                    clear hb7 hr7
                    refine hK.out _ _ S7.out.tail.tail (fun hHeld => ?_)
                    clear hK K
                    refine norm_ (a' := ?_) ?_ ?_
                    rotate_left
                    · show Act.put _ (some 76) _ = _
                      simp only [Act.put, List.setIfInBounds_toArray, List.set_cons_zero, List.set_cons_succ]
                      rfl
                    refine pure_ (i := 12) (N := some 64) (v := ?_) (a' := ?_) #[true, true, true, true, true, true, true, true, true, true, true, true, true, false, false, true, false, false] rfl rfl (by kernel_rfl) (fun _ _ _ h => h) (Or.inl ⟨by rfl, ?_⟩) ?_ ?_
                    rotate_left
                    · intro w'
                      go_simp
                      with_reducible rfl
                    rotate_left
                    · simp only [Act.put, List.setIfInBounds_toArray, List.set_cons_zero, List.set_cons_succ]
                      rfl
                    refine pure_ (i := 13) (N := some 77) (v := ?_) (a' := ?_) #[true, true, true, true, true, true, true, true, true, true, true, true, true, true, false, true, false, false] rfl rfl (by kernel_rfl) (fun _ _ _ h => h) (Or.inl ⟨by rfl, ?_⟩) ?_ ?_
                    rotate_left
                    · intro w'
                      go_simp
                      with_reducible rfl
                    rotate_left
                    · simp only [Act.put, List.setIfInBounds_toArray, List.set_cons_zero, List.set_cons_succ]
                      rfl
                    refine pure_ (i := 14) (N := some 78) (v := ?_) (a' := ?_) #[true, true, true, true, true, true, true, true, true, true, true, true, true, true, true, true, false, false] rfl rfl (by kernel_rfl) (fun _ _ _ h => h) (Or.inl ⟨by rfl, ?_⟩) ?_ ?_
                    rotate_left
                    · intro w'
                      go_simp
                      with_reducible rfl
                    rotate_left
                    · simp only [Act.put, List.setIfInBounds_toArray, List.set_cons_zero, List.set_cons_succ]
                      rfl
                    refine norm_ ?_ (hcont (w3.drew.heap.size, (TA, tk), (FA7, fk7)) _ S7.out)
                    simp only [putAll, Act.put, List.setIfInBounds_toArray, List.set_cons_zero, List.set_cons_succ] <;> rfl
                case hcont =>
                  rintro ⟨gP, ⟨TA, tk⟩, FA7, fk7⟩ w8 l8
                  dsimp only at l8 ⊢
                  have S8 := Aside0.mk l8
                  clear l8 S4 HTC HAN S
                  refine norm_ (a' := ?_) ?_ ?_
                  rotate_left
                  · simp only [putAll, Act.put, List.setIfInBounds_toArray, List.set_cons_zero, List.set_cons_succ]
                    rfl
                  obtain ⟨v0, y0⟩ := S8.out.cell 1 rfl 0 rfl
                  obtain ⟨v1, y1⟩ := S8.out.cell 1 rfl 1 rfl
                  refine one_ (i := 16) (N := none) #[true, true, true, true, true, true, true, true, true, true, true, true, true, true, true, true, true, false] rfl rfl (by kernel_rfl) (by decide) (fun K hK => ?_)
                  refine skip_ (w1 := ?_) (by rfl) rfl ?_ ?_
                  rotate_left
                  · go_simp
                    rfl
                  have S := Aside0.mk ((S8.out.put 1 rfl 0 (.slice FA7 fp.1.f0.length fk7) rfl).put 1 rfl 1 (.int .i64 fp.1.f1) rfl)
                  refine hK.out _ _ S.out.tail.tail (fun hHeld => ?_)
                  clear hK K
                  refine pure_ (i := 17) (N := some 13) (v := ?_) (a' := ?_) #[true, true, true, true, true, true, true, true, true, true, true, true, true, true, true, true, true, true] rfl rfl (by kernel_rfl) (fun _ _ _ h => h) (Or.inl ⟨by rfl, ?_⟩) ?_ ?_
                  rotate_left
                  · intro w'
                    go_simp
                    with_reducible rfl
                  rotate_left
                  · simp only [Act.put, List.setIfInBounds_toArray, List.set_cons_zero, List.set_cons_succ]
                    rfl
                  refine done_ (by kernel_rfl) ?_
                  clear hHeld S8 v0 y0 v1 y1
                  generalize (w8.setCell ⟨gP, 0, none⟩ (.slice FA7 fp.1.f0.length fk7)).setCell ⟨gP, 1, none⟩ (.int .i64 fp.1.f1) = w9 at *
                  have S := Aside0.mk (S.out.take [2, 0, 1, 3, 4, 5, 6] 7 (by simp) (by decide) (by decide))
                  obtain ⟨r0, z0⟩ := S.out.cell 0 rfl 0 rfl
                  obtain ⟨r1, z1⟩ := S.out.cell 0 rfl 1 rfl
                  obtain ⟨r2, z2⟩ := S.out.cell 0 rfl 2 rfl
                  obtain ⟨r3, z3⟩ := S.out.cell 0 rfl 3 rfl
                  by_cases h7 : fp.2 = 0
                  · have h7b : (fp.2 != 0) = false := bne_eq_false_iff_eq.2 h7
                    have H7 := Aside0.mk h7
                    clear h7
                    obtain ⟨v0, y0⟩ := S.out.cell 2 rfl 0 rfl
                    obtain ⟨v1, y1⟩ := S.out.cell 2 rfl 1 rfl
                    obtain ⟨l0, l1, l2, l3, l4, l5, l6⟩ := blk7 (S.out.blk 4 rfl)
                    go_wp2
                    have SE := Aside0.mk ((((S.out.put 0 rfl 0 (.int .i64 sk) rfl).put 0 rfl 1 (.int .i64 l.f1) rfl).put 0 rfl 2 (.slice FA7 fp.1.f0.length fk7) rfl).put 0 rfl 3 (.int .i64 fp.1.f1) rfl)
                    refine bodyPost_ret (results_ct rfl _ _ (w.heap.size + 1 + 1 + 1 + 1) 49 #[.int .i64 sk, .int .i64 l.f1, .slice FA7 fp.1.f0.length fk7, .int .i64 fp.1.f1] (0, 0) _ rfl (SE.out.blk 0 rfl) hu49 rfl (by kernel_rfl)) rfl ?_
                    rw [show proofC fr tc l x = (⟨sk, l.f1, fp.1⟩, 0) by unfold proofC; rw [if_neg (by rw [HEE.out]; decide), if_neg GG.out, if_neg (by rw [H4.out]; decide), if_neg (by rw [HSK.out]; have := H6.out; omega), HFP.out, if_neg (by rw [H7.out]; decide), HSK.out]]
                    exact ⟨FA7, fk7, rfl, SE.out.rowF 1 rfl, SE.out.B⟩
                  · have h7b : (fp.2 != 0) = true := bne_iff_ne.2 h7
                    have H7 := Aside0.mk h7
                    clear h7
                    go_wp2
                    have SE := Aside0.mk ((((S.out.put 0 rfl 0 (.int .i64 0) rfl).put 0 rfl 1 (.int .i64 0) rfl).put 0 rfl 2 (.slice none 0 0) rfl).put 0 rfl 3 (.int .i64 0) rfl)
                    refine bodyPost_ret (results_ct rfl _ _ (w.heap.size + 1 + 1 + 1 + 1) 49 #[.int .i64 0, .int .i64 0, .slice none 0 0, .int .i64 0] (0, 0) _ rfl (SE.out.blk 0 rfl) hu49 rfl (by kernel_rfl)) rfl ?_
                    rw [show proofC fr tc l x = (zeroX, fp.2) by unfold proofC; rw [if_neg (by rw [HEE.out]; decide), if_neg GG.out, if_neg (by rw [H4.out]; decide), if_neg (by rw [HSK.out]; have := H6.out; omega), HFP.out, if_pos H7.out]]
                    exact ⟨none, 0, rfl, RS.nil _ _ _, SE.out.B⟩
            · have h5b : decide (0 < l.f0) = false := decide_eq_false h5
              obtain ⟨sk, hsk⟩ : ∃ sk, skipOf l x.f0 = sk := ⟨_, rfl⟩
              have HSK := Aside0.mk hsk
              have hw : wrap64 (l.f1 * x.f0) = sk := by
                have h2 := skip_bounds LO.out.p0 LO.out.p1 G2.out (by have := G3.out; omega)
                rw [wrap_in (by omega) (by omega), ← hsk]
                unfold skipOf; rw [if_neg h5]
              clear hsk h5
              go_upto_region 11 with (fail)
              rw [hw]
              clear hw h5b
              by_cases h6 : 100 < sk
              · have h6b : decide (100 < sk) = true := decide_eq_true h6
                have H6 := Aside0.mk h6
                clear h6
                go_wp2
                have SE := Aside0.mk ((((S.out.put 0 rfl 0 (.int .i64 0) rfl).put 0 rfl 1 (.int .i64 0) rfl).put 0 rfl 2 (.slice none 0 0) rfl).put 0 rfl 3 (.int .i64 0) rfl)
                refine bodyPost_ret (results_ct rfl _ _ (w.heap.size + 1 + 1 + 1 + 1) 49 #[.int .i64 0, .int .i64 0, .slice none 0 0, .int .i64 0] (0, 0) _ rfl (SE.out.blk 0 rfl) hu49 rfl (by kernel_rfl)) rfl ?_
                rw [show proofC fr tc l x = (zeroX, 4) by unfold proofC; rw [if_neg (by rw [HEE.out]; decide), if_neg GG.out, if_neg (by rw [H4.out]; decide), if_pos (by rw [HSK.out]; exact H6.out)]]
                exact ⟨none, 0, rfl, RS.nil _ _ _, SE.out.B⟩
              · have h6b : decide (100 < sk) = false := decide_eq_false h6
                have H6 := Aside0.mk h6
                clear h6
                have hlas := lasOk_of LO.out (gCheck_ok HCF.out).1 (gCheck_ok HCF.out).2.1 (by have := gCheck_ok HCF.out; omega)
                have hck5 : predCheck l.f4.length x.f2 = 0 := by rw [LO.out.n4]; exact H4.out
                obtain ⟨tp, htp⟩ : ∃ tp, transP fr l.f4 x.f2 = tp := ⟨_, rfl⟩
                have HTF := Aside0.mk (transP_fits hlas hck5 HSZ.out)
                have HTC := Aside0.mk (fun W (hb : Below w.heap.size w W) => lift_translate p fr A4 k4 l.f4 XA xc x.f2 W (HR.out.below hb).s4 (HXX.out.below hb) HXF.out hlas hck5 HSZ.out)
                rw [htp] at HTF HTC
                obtain ⟨fp, hfp⟩ : ∃ fp, andP fr.f1.length tp l.f5 = fp := ⟨_, rfl⟩
                have HFP := Aside0.mk (show proofP fr l x = fp by unfold proofP; rw [htp, hfp])
                have HAN := Aside0.mk (fun W TA tk (hb : Below w.heap.size w W) (ht : RS kGate W TA tk tp.f0) => preds_And fr.f1.length TA tk tp A5 k5 l.f5 W ht HTF.out (HR.out.below hb).s5 HLF.out.p)
                rw [hfp] at HAN
                clear htp hfp hlas hck5 x0 x1 x2 x3 l0 l1 l2 l3 l4 l5 l6 r0 z0 r1 z1 r2 z2 r3 z3
                go_upto_region 13 with (fail)
                go_wp2
                have S4 := Aside0.mk (show Parts w.heap.size w w3.drew (prPs w.heap.size p q fr tc ⟨A2, k2, A3, k3, A4, k4, A5, k5⟩ l XA xc x) from S.out.drew)
                refine start_ (n := 18) (S := (fun w' : World => Parts w.heap.size w w' (prPs w.heap.size p q fr tc ⟨A2, k2, A3, k3, A4, k4, A5, k5⟩ l XA xc x))) (ds := []) #[false, false, false, false, false, false, false, false, false, false, false, false, false, false, false, false, false, false] (by kernel_rfl) rfl rfl S4.out (fun hHeld => ?_)
                refine pure_ (i := 0) (N := some 65) (v := ?_) (a' := ?_) #[true, false, false, false, false, false, false, false, false, false, false, false, false, false, false, false, false, false] rfl rfl (by kernel_rfl) (fun _ _ _ h => h) (Or.inl ⟨by rfl, ?_⟩) ?_ ?_
                rotate_left
                · intro w'
                  go_simp
                  with_reducible rfl
                rotate_left
                · simp only [Act.put, List.setIfInBounds_toArray, List.set_cons_zero, List.set_cons_succ]
                  rfl
                refine take_ (i := 1) (N := some 66) (v := ?_) (a' := ?_) #[true, true, false, false, false, false, false, false, false, false, false, false, false, false, false, false, false, false] rfl rfl (by kernel_rfl) (fun _ _ _ h => h) (Or.inl ⟨by rfl, ?_⟩) hHeld ?_ ?_
                rotate_left
                · intro w' s0
                  obtain ⟨c0, c1, c2, c3, c4⟩ := blk5 (s0.blk 4 rfl)
                  go_simp
                  with_reducible rfl
                rotate_left
                · simp only [Act.put, List.setIfInBounds_toArray, List.set_cons_zero, List.set_cons_succ]
                  rfl
                refine pure_ (i := 2) (N := some 67) (v := ?_) (a' := ?_) #[true, true, true, false, false, false, false, false, false, false, false, false, false, false, false, false, false, false] rfl rfl (by kernel_rfl) (fun _ _ _ h => h) (Or.inl ⟨by rfl, ?_⟩) ?_ ?_
                rotate_left
                · intro w'
                  go_simp
                  with_reducible rfl
                rotate_left
                · simp only [Act.put, List.setIfInBounds_toArray, List.set_cons_zero, List.set_cons_succ]
                  rfl
                refine take_ (i := 3) (N := some 68) (v := ?_) (a' := ?_) #[true, true, true, true, false, false, false, false, false, false, false, false, false, false, false, false, false, false] rfl rfl (by kernel_rfl) (fun _ _ _ h => h) (Or.inl ⟨by rfl, ?_⟩) hHeld ?_ ?_
                rotate_left
                · intro w' s0
                  obtain ⟨c0, c1, c2, c3, c4⟩ := blk5 (s0.blk 4 rfl)
                  go_simp
                  with_reducible rfl
                rotate_left
                · simp only [Act.put, List.setIfInBounds_toArray, List.set_cons_zero, List.set_cons_succ]
                  rfl
                refine pure_ (i := 4) (N := some 69) (v := ?_) (a' := ?_) #[true, true, true, true, true, false, false, false, false, false, false, false, false, false, false, false, false, false] rfl rfl (by kernel_rfl) (fun _ _ _ h => h) (Or.inl ⟨by rfl, ?_⟩) ?_ ?_
                rotate_left
                · intro w'
                  go_simp
                  with_reducible rfl
                rotate_left
                · simp only [Act.put, List.setIfInBounds_toArray, List.set_cons_zero, List.set_cons_succ]
                  rfl
                refine take_ (i := 5) (N := some 70) (v := ?_) (a' := ?_) #[true, true, true, true, true, true, false, false, false, false, false, false, false, false, false, false, false, false] rfl rfl (by kernel_rfl) (fun _ _ _ h => h) (Or.inl ⟨by rfl, ?_⟩) hHeld ?_ ?_
                rotate_left
                · intro w' s0
                  obtain ⟨c0, c1, c2, c3, c4, c5, c6⟩ := blk7 (s0.blk 2 rfl)
                  go_simp
                  with_reducible rfl
                rotate_left
                · simp only [Act.put, List.setIfInBounds_toArray, List.set_cons_zero, List.set_cons_succ]
                  rfl
                refine pure_ (i := 6) (N := some 71) (v := ?_) (a' := ?_) #[true, true, true, true, true, true, true, false, false, false, false, false, false, false, false, false, false, false] rfl rfl (by kernel_rfl) (fun _ _ _ h => h) (Or.inl ⟨by rfl, ?_⟩) ?_ ?_
                rotate_left
                · intro w'
                  go_simp
                  with_reducible rfl
                rotate_left
                · simp only [Act.put, List.setIfInBounds_toArray, List.set_cons_zero, List.set_cons_succ]
                  rfl
                refine take_ (i := 7) (N := some 72) (v := ?_) (a' := ?_) #[true, true, true, true, true, true, true, true, false, false, false, false, false, false, false, false, false, false] rfl rfl (by kernel_rfl) (fun _ _ _ h => h) (Or.inl ⟨by rfl, ?_⟩) hHeld ?_ ?_
                rotate_left
                · intro w' s0
                  obtain ⟨c0, c1, c2, c3⟩ := blkP (s0.blk 1 rfl)
                  go_simp
                  with_reducible rfl
                rotate_left
                · simp only [Act.put, List.setIfInBounds_toArray, List.set_cons_zero, List.set_cons_succ]
                  rfl
                refine pure_ (i := 9) (N := some 74) (v := ?_) (a' := ?_) #[true, true, true, true, true, true, true, true, false, true, false, false, false, false, false, false, false, false] rfl rfl (by kernel_rfl) (fun _ _ _ h => h) (Or.inl ⟨by rfl, ?_⟩) ?_ ?_
                rotate_left
                · intro w'
                  go_simp
                  with_reducible rfl
                rotate_left
                · simp only [Act.put, List.setIfInBounds_toArray, List.set_cons_zero, List.set_cons_succ]
                  rfl
                refine take_ (i := 10) (N := some 75) (v := ?_) (a' := ?_) #[true, true, true, true, true, true, true, true, false, true, true, false, false, false, false, false, false, false] rfl rfl (by kernel_rfl) (fun _ _ _ h => h) (Or.inl ⟨by rfl, ?_⟩) hHeld ?_ ?_
                rotate_left
                · intro w' s0
                  obtain ⟨c0, c1, c2, c3, c4, c5, c6⟩ := blk7 (s0.blk 2 rfl)
                  go_simp
                  with_reducible rfl
                rotate_left
                · simp only [Act.put, List.setIfInBounds_toArray, List.set_cons_zero, List.set_cons_succ]
                  rfl
                refine join_ (fuel' := 2) #[true, true, true, true, true, true, true, true, true, true, true, true, true, true, true, true, false, false] (fun s : Nat × (Option Addr × Nat) × (Option Addr × Nat) => [(73, .agg #[.slice s.2.1.1 tp.f0.length s.2.1.2, .int .i64 tp.f1]), (76, .tuple #[.agg #[.slice s.2.2.1 fp.1.f0.length s.2.2.2, .int .i64 fp.1.f1], .int .i64 fp.2]), (64, .tuple #[.agg #[.slice s.2.2.1 fp.1.f0.length s.2.2.2, .int .i64 fp.1.f1], .int .i64 fp.2]), (77, .agg #[.slice s.2.2.1 fp.1.f0.length s.2.2.2, .int .i64 fp.1.f1]), (78, .int .i64 fp.2), (12, .pointer (some ⟨s.1, 0, none⟩))]) (fun s w' => Parts w.heap.size w w' (pF w.heap.size kGate 93 (.slice s.2.2.1 fp.1.f0.length s.2.2.2) fp.1.f0 :: pB s.1 29 #[.slice none 0 0, .int .i64 0] :: (prPs w.heap.size p q fr tc ⟨A2, k2, A3, k3, A4, k4, A5, k5⟩ l XA xc x))) ?hcont ?hjoin
                case hjoin =>
                  intro hcont
                  refine two_ (i := 8) (j := 15) (Ni := some 73) (Nj := some 12) #[true, true, true, true, true, true, true, true, true, true, true, false, false, false, false, false, false, false] #[true, true, true, true, true, true, true, true, false, true, true, false, false, false, false, true, false, false] rfl rfl rfl rfl (by kernel_rfl) (by decide) (by decide) (fun K hK => ?_) (fun K hK => ?_)
                  · skip
                    refine goes_ Try.func45 (by kernel_rfl) rfl #[cv p fr, .slice A4 l.f4.length k4, .agg #[.slice XA x.f2.f0.length xc, .int .i64 x.f2.f1]] (by rfl) rfl rfl (by simp only [List.map_toArray, List.map_cons, List.map_nil] <;> rfl) ?_
                    refine (HTC.out _ S4.out.B).mono ?_
                    rintro e w6 ⟨TA, tk, rfl, hrt, hb6⟩
                    refine ⟨_, rfl, ?_⟩
                    have S6 := Aside0.mk (S4.out.below hb6)
                    have RT6 := Aside0.mk (RS.of_R' hrt)
                    clear hb6 hrt
                    refine hK.out _ _ S6.out (fun hHeld => ?_)
                    clear hK K
                    refine norm_ (a' := ?_) ?_ ?_
                    rotate_left
                    · show Act.put _ (some 73) _ = _
                      simp only [Act.put, List.setIfInBounds_toArray, List.set_cons_zero, List.set_cons_succ]
                      rfl
                    refine two_ (i := 11) (j := 15) (Ni := some 76) (Nj := some 12) #[true, true, true, true, true, true, true, true, true, true, true, true, false, false, false, false, false, false] #[true, true, true, true, true, true, true, true, true, true, true, false, false, false, false, true, false, false] rfl rfl rfl rfl (by kernel_rfl) (by decide) (by decide) (fun K hK => ?_) (fun K hK => ?_)
                    · skip
                      refine goes_ Try.func44 (by kernel_rfl) rfl #[.int .i64 (fr.f1.length : Int), .agg #[.slice TA tp.f0.length tk, .int .i64 tp.f1], .agg #[.slice A5 l.f5.f0.length k5, .int .i64 l.f5.f1]] (by rfl) rfl rfl (by simp only [List.map_toArray, List.map_cons, List.map_nil] <;> rfl) ?_
                      refine (HAN.out _ TA tk S6.out.B RT6.out).mono ?_
                      rintro e w7 ⟨FA7, fk7, rfl, hr7, hb7⟩
                      refine ⟨_, rfl, ?_⟩
                      have S7 := Aside0.mk (S6.out.freshF flat_gate hb7 hr7)
                      clear hb7 hr7
                      refine hK.out _ _ S7.out.tail (fun hHeld => ?_)
                      clear hK K
                      refine norm_ (a' := ?_) ?_ ?_
                      rotate_left
                      · show Act.put _ (some 76) _ = _
                        simp only [Act.put, List.setIfInBounds_toArray, List.set_cons_zero, List.set_cons_succ]
                        rfl
                      refine pure_ (i := 12) (N := some 64) (v := ?_) (a' := ?_) #[true, true, true, true, true, true, true, true, true, true, true, true, true, false, false, false, false, false] rfl rfl (by kernel_rfl) (fun _ _ _ h => h) (Or.inl ⟨by rfl, ?_⟩) ?_ ?_
                      rotate_left
                      · intro w'
                        go_simp
                        with_reducible rfl
                      rotate_left
                      · simp only [Act.put, List.setIfInBounds_toArray, List.set_cons_zero, List.set_cons_succ]
                        rfl
                      refine pure_ (i := 13) (N := some 77) (v := ?_) (a' := ?_) #[true, true, true, true, true, true, true, true, true, true, true, true, true, true, false, false, false, false] rfl rfl (by kernel_rfl) (fun _ _ _ h => h) (Or.inl ⟨by rfl, ?_⟩) ?_ ?_
                      rotate_left
                      · intro w'
                        go_simp
                        with_reducible rfl
                      rotate_left
                      · simp only [Act.put, List.setIfInBounds_toArray, List.set_cons_zero, List.set_cons_succ]
                        rfl
                      refine pure_ (i := 14) (N := some 78) (v := ?_) (a' := ?_) #[true, true, true, true, true, true, true, true, true, true, true, true, true, true, true, false, false, false] rfl rfl (by kernel_rfl) (fun _ _ _ h => h) (Or.inl ⟨by rfl, ?_⟩) ?_ ?_
                      rotate_left
                      · intro w'
                        go_simp
                        with_reducible rfl
                      rotate_left
                      · simp only [Act.put, List.setIfInBounds_toArray, List.set_cons_zero, List.set_cons_succ]
                        rfl
                      refine one_ (i := 15) (N := some 12) #[true, true, true, true, true, true, true, true, true, true, true, true, true, true, true, true, false, false] rfl rfl (by kernel_rfl) (by decide) (fun K hK => ?_)
                      refine value_ (w1 := ?_) (v := ?_) (by rfl) rfl ?_ ?_
                      rotate_left 2
                      · go_simp
                        constructor
                        · rfl
                        · rfl
                      refine hK.out _ _ (S7.out.tail.alloc _) (fun hHeld => ?_)
                      clear hK K
                      refine norm_ (a' := ?_) ?_ ?_
                      rotate_left
                      · show Act.put _ (some 12) _ = _
                        simp only [Act.put, List.setIfInBounds_toArray, List.set_cons_zero, List.set_cons_succ]
                        rfl
                      refine norm_ ?_ (hcont (w7.heap.size, (TA, tk), (FA7, fk7)) _ ((S7.out.new 29 #[.slice none 0 0, .int .i64 0]).take [1, 0, 2, 3, 4, 5, 6] 7 (by simp) (by decide) (by decide)))
                      simp only [putAll, Act.put, List.setIfInBounds_toArray, List.set_cons_zero, List.set_cons_succ] <;> rfl
                    · skip
                      refine value_ (w1 := ?_) (v := ?_) (by rfl) rfl ?_ ?_
                      rotate_left 2
                      · go_simp
                        constructor
                        · rfl
                        · rfl
                      have S7 := Aside0.mk (S6.out.new 29 #[.slice none 0 0, .int .i64 0])
                      refine hK.out _ _ S7.out.tail (fun hHeld => ?_)
                      clear hK K
                      refine norm_ (a' := ?_) ?_ ?_
                      rotate_left
                      · show Act.put _ (some 12) _ = _
                        simp only [Act.put, List.setIfInBounds_toArray, List.set_cons_zero, List.set_cons_succ]
                        rfl
                      refine one_ (i := 11) (N := some 76) #[true, true, true, true, true, true, true, true, true, true, true, true, false, false, false, true, false, false] rfl rfl (by kernel_rfl) (by decide) (fun K hK => ?_)
                      refine goes_ Try.func44 (by kernel_rfl) rfl #[.int .i64 (fr.f1.length : Int), .agg #[.slice TA tp.f0.length tk, .int .i64 tp.f1], .agg #[.slice A5 l.f5.f0.length k5, .int .i64 l.f5.f1]] (by rfl) rfl rfl (by simp only [List.map_toArray, List.map_cons, List.map_nil] <;> rfl) ?_
                      refine (HAN.out _ TA tk S7.out.B (RT6.out.below (below_alloc (Below.refl _ _) _))).mono ?_
                      rintro e w7 ⟨FA7, fk7, rfl, hr7, hb7⟩
                      refine ⟨_, rfl, ?_⟩
                      have S8 := Aside0.mk (S7.out.freshF flat_gate hb7 hr7)
                      clear hb7 hr7
                      refine hK.out _ _ S8.out.tail.tail (fun hHeld => ?_)
                      clear hK K
                      refine norm_ (a' := ?_) ?_ ?_
                      rotate_left
                      · show Act.put _ (some 76) _ = _
                        simp only [Act.put, List.setIfInBounds_toArray, List.set_cons_zero, List.set_cons_succ]
                        rfl
                      refine pure_ (i := 12) (N := some 64) (v := ?_) (a' := ?_) #[true, true, true, true, true, true, true, true, true, true, true, true, true, false, false, true, false, false] rfl rfl (by kernel_rfl) (fun _ _ _ h => h) (Or.inl ⟨by rfl, ?_⟩) ?_ ?_
                      rotate_left
                      · intro w'
                        go_simp
                        with_reducible rfl
                      rotate_left
                      · simp only [Act.put, List.setIfInBounds_toArray, List.set_cons_zero, List.set_cons_succ]
                        rfl
                      refine pure_ (i := 13) (N := some 77) (v := ?_) (a' := ?_) #[true, true, true, true, true, true, true, true, true, true, true, true, true, true, false, true, false, false] rfl rfl (by kernel_rfl) (fun _ _ _ h => h) (Or.inl ⟨by rfl, ?_⟩) ?_ ?_
                      rotate_left
                      · intro w'
                        go_simp
                        with_reducible rfl
                      rotate_left
                      · simp only [Act.put, List.setIfInBounds_toArray, List.set_cons_zero, List.set_cons_succ]
                        rfl
                      refine pure_ (i := 14) (N := some 78) (v := ?_) (a' := ?_) #[true, true, true, true, true, true, true, true, true, true, true, true, true, true, true, true, false, false] rfl rfl (by kernel_rfl) (fun _ _ _ h => h) (Or.inl ⟨by rfl, ?_⟩) ?_ ?_
                      rotate_left
                      · intro w'
                        go_simp
                        with_reducible rfl
                      rotate_left
                      · simp only [Act.put, List.setIfInBounds_toArray, List.set_cons_zero, List.set_cons_succ]
                        rfl
                      refine norm_ ?_ (hcont (w6.heap.size, (TA, tk), (FA7, fk7)) _ S8.out)
                      simp only [putAll, Act.put, List.setIfInBounds_toArray, List.set_cons_zero, List.set_cons_succ] <;> rfl
                  · skip
                    refine value_ (w1 := ?_) (v := ?_) (by rfl) rfl ?_ ?_
                    rotate_left 2
                    · go_simp
                      constructor
                      · rfl
                      · rfl
                    have S5 := Aside0.mk (S4.out.new 29 #[.slice none 0 0, .int .i64 0])
                    refine hK.out _ _ S5.out.tail (fun hHeld => ?_)
                    clear hK K
                    refine norm_ (a' := ?_) ?_ ?_
                    rotate_left
                    · show Act.put _ (some 12) _ = _
                      simp only [Act.put, List.setIfInBounds_toArray, List.set_cons_zero, List.set_cons_succ]
                      rfl
                    refine one_ (i := 8) (N := some 73) #[true, true, true, true, true, true, true, true, true, true, true, false, false, false, false, true, false, false] rfl rfl (by kernel_rfl) (by decide) (fun K hK => ?_)
                    refine goes_ Try.func45 (by kernel_rfl) rfl #[cv p fr, .slice A4 l.f4.length k4, .agg #[.slice XA x.f2.f0.length xc, .int .i64 x.f2.f1]] (by rfl) rfl rfl (by simp only [List.map_toArray, List.map_cons, List.map_nil] <;> rfl) ?_
                    refine (HTC.out _ S5.out.B).mono ?_
                    rintro e w6 ⟨TA, tk, rfl, hrt, hb6⟩
                    refine ⟨_, rfl, ?_⟩
                    have S6 := Aside0.mk (S5.out.below hb6)
                    have RT6 := Aside0.mk (RS.of_R' hrt)
                    clear hb6 hrt
                    refine hK.out _ _ S6.out.tail (fun hHeld => ?_)
                    clear hK K
                    refine norm_ (a' := ?_) ?_ ?_
                    rotate_left
                    · show Act.put _ (some 73) _ = _
                      simp only [Act.put, List.setIfInBounds_toArray, List.set_cons_zero, List.set_cons_succ]
                      rfl
                    refine one_ (i := 11) (N := some 76) #[true, true, true, true, true, true, true, true, true, true, true, true, false, false, false, true, false, false] rfl rfl (by kernel_rfl) (by decide) (fun K hK => ?_)
                    refine goes_ Try.func44 (by kernel_rfl) rfl #[.int .i64 (fr.f1.length : Int), .agg #[.slice TA tp.f0.length tk, .int .i64 tp.f1], .agg #[.slice A5 l.f5.f0.length k5, .int .i64 l.f5.f1]] (by rfl) rfl rfl (by simp only [List.map_toArray, List.map_cons, List.map_nil] <;> rfl) ?_
                    refine (HAN.out _ TA tk S6.out.B RT6.out).mono ?_
                    rintro e w7 ⟨FA7, fk7, rfl, hr7, hb7⟩
                    refine ⟨_, rfl, ?_⟩
                    have S7 := Aside0.mk (S6.out.freshF flat_gate hb7 hr7)
                    clear hb7 hr7
                    refine hK.out _ _ S7.out.tail.tail (fun hHeld => ?_)
                    clear hK K
                    refine norm_ (a' := ?_) ?_ ?_
                    rotate_left
                    · show Act.put _ (some 76) _ = _
                      simp only [Act.put, List.setIfInBounds_toArray, List.set_cons_zero, List.set_cons_succ]
                      rfl
                    refine pure_ (i := 12) (N := some 64) (v := ?_) (a' := ?_) #[true, true, true, true, true, true, true, true, true, true, true, true, true, false, false, true, false, false] rfl rfl (by kernel_rfl) (fun _ _ _ h => h) (Or.inl ⟨by rfl, ?_⟩) ?_ ?_
                    rotate_left
                    · intro w'
                      go_simp
                      with_reducible rfl
                    rotate_left
                    · simp only [Act.put, List.setIfInBounds_toArray, List.set_cons_zero, List.set_cons_succ]
                      rfl
                    refine pure_ (i := 13) (N := some 77) (v := ?_) (a' := ?_) #[true, true, true, true, true, true, true, true, true, true, true, true, true, true, false, true, false, false] rfl rfl (by kernel_rfl) (fun _ _ _ h => h) (Or.inl ⟨by rfl, ?_⟩) ?_ ?_
                    rotate_left
                    · intro w'
                      go_simp
                      with_reducible rfl
                    rotate_left
                    · simp only [Act.put, List.setIfInBounds_toArray, List.set_cons_zero, List.set_cons_succ]
                      rfl
                    refine pure_ (i := 14) (N := some 78) (v := ?_) (a' := ?_) #[true, true, true, true, true, true, true, true, true, true, true, true, true, true, true, true, false, false] rfl rfl (by kernel_rfl) (fun _ _ _ h => h) (Or.inl ⟨by rfl, ?_⟩) ?_ ?_
                    rotate_left
                    · intro w'
                      go_simp
                      with_reducible rfl
                    rotate_left
                    · simp only [Act.put, List.setIfInBounds_toArray, List.set_cons_zero, List.set_cons_succ]
                      rfl
                    refine norm_ ?_ (hcont (w3.drew.heap.size, (TA, tk), (FA7, fk7)) _ S7.out)
                    simp only [putAll, Act.put, List.setIfInBounds_toArray, List.set_cons_zero, List.set_cons_succ] <;> rfl
                case hcont =>
                  rintro ⟨gP, ⟨TA, tk⟩, FA7, fk7⟩ w8 l8
                  dsimp only at l8 ⊢
                  have S8 := Aside0.mk l8
                  clear l8 S4 HTC HAN S
                  refine norm_ (a' := ?_) ?_ ?_
                  rotate_left
                  · simp only [putAll, Act.put, List.setIfInBounds_toArray, List.set_cons_zero, List.set_cons_succ]
                    rfl
                  obtain ⟨v0, y0⟩ := S8.out.cell 1 rfl 0 rfl
                  obtain ⟨v1, y1⟩ := S8.out.cell 1 rfl 1 rfl
                  refine one_ (i := 16) (N := none) #[true, true, true, true, true, true, true, true, true, true, true, true, true, true, true, true, true, false] rfl rfl (by kernel_rfl) (by decide) (fun K hK => ?_)
                  refine skip_ (w1 := ?_) (by rfl) rfl ?_ ?_
                  rotate_left
                  · go_simp
                    rfl
                  have S := Aside0.mk ((S8.out.put 1 rfl 0 (.slice FA7 fp.1.f0.length fk7) rfl).put 1 rfl 1 (.int .i64 fp.1.f1) rfl)
                  refine hK.out _ _ S.out.tail.tail (fun hHeld => ?_)
                  clear hK K
                  refine pure_ (i := 17) (N := some 13) (v := ?_) (a' := ?_) #[true, true, true, true, true, true, true, true, true, true, true, true, true, true, true, true, true, true] rfl rfl (by kernel_rfl) (fun _ _ _ h => h) (Or.inl ⟨by rfl, ?_⟩) ?_ ?_
                  rotate_left
                  · intro w'
                    go_simp
                    with_reducible rfl
                  rotate_left
                  · simp only [Act.put, List.setIfInBounds_toArray, List.set_cons_zero, List.set_cons_succ]
                    rfl
                  refine done_ (by kernel_rfl) ?_
                  clear hHeld S8 v0 y0 v1 y1
                  generalize (w8.setCell ⟨gP, 0, none⟩ (.slice FA7 fp.1.f0.length fk7)).setCell ⟨gP, 1, none⟩ (.int .i64 fp.1.f1) = w9 at *
                  have S := Aside0.mk (S.out.take [2, 0, 1, 3, 4, 5, 6] 7 (by simp) (by decide) (by decide))
                  obtain ⟨r0, z0⟩ := S.out.cell 0 rfl 0 rfl
                  obtain ⟨r1, z1⟩ := S.out.cell 0 rfl 1 rfl
                  obtain ⟨r2, z2⟩ := S.out.cell 0 rfl 2 rfl
                  obtain ⟨r3, z3⟩ := S.out.cell 0 rfl 3 rfl
                  by_cases h7 : fp.2 = 0
                  · have h7b : (fp.2 != 0) = false := bne_eq_false_iff_eq.2 h7
                    have H7 := Aside0.mk h7
                    clear h7
                    obtain ⟨v0, y0⟩ := S.out.cell 2 rfl 0 rfl
                    obtain ⟨v1, y1⟩ := S.out.cell 2 rfl 1 rfl
                    obtain ⟨l0, l1, l2, l3, l4, l5, l6⟩ := blk7 (S.out.blk 4 rfl)
                    go_wp2
                    have SE := Aside0.mk ((((S.out.put 0 rfl 0 (.int .i64 sk) rfl).put 0 rfl 1 (.int .i64 l.f1) rfl).put 0 rfl 2 (.slice FA7 fp.1.f0.length fk7) rfl).put 0 rfl 3 (.int .i64 fp.1.f1) rfl)
                    refine bodyPost_ret (results_ct rfl _ _ (w.heap.size + 1 + 1 + 1 + 1) 49 #[.int .i64 sk, .int .i64 l.f1, .slice FA7 fp.1.f0.length fk7, .int .i64 fp.1.f1] (0, 0) _ rfl (SE.out.blk 0 rfl) hu49 rfl (by kernel_rfl)) rfl ?_
                    rw [show proofC fr tc l x = (⟨sk, l.f1, fp.1⟩, 0) by unfold proofC; rw [if_neg (by rw [HEE.out]; decide), if_neg GG.out, if_neg (by rw [H4.out]; decide), if_neg (by rw [HSK.out]; have := H6.out; omega), HFP.out, if_neg (by rw [H7.out]; decide), HSK.out]]
                    exact ⟨FA7, fk7, rfl, SE.out.rowF 1 rfl, SE.out.B⟩
                  · have h7b : (fp.2 != 0) = true := bne_iff_ne.2 h7
                    have H7 := Aside0.mk h7
                    clear h7
                    go_wp2
                    have SE := Aside0.mk ((((S.out.put 0 rfl 0 (.int .i64 0) rfl).put 0 rfl 1 (.int .i64 0) rfl).put 0 rfl 2 (.slice none 0 0) rfl).put 0 rfl 3 (.int .i64 0) rfl)
                    refine bodyPost_ret (results_ct rfl _ _ (w.heap.size + 1 + 1 + 1 + 1) 49 #[.int .i64 0, .int .i64 0, .slice none 0 0, .int .i64 0] (0, 0) _ rfl (SE.out.blk 0 rfl) hu49 rfl (by kernel_rfl)) rfl ?_
                    rw [show proofC fr tc l x = (zeroX, fp.2) by unfold proofC; rw [if_neg (by rw [HEE.out]; decide), if_neg GG.out, if_neg (by rw [H4.out]; decide), if_neg (by rw [HSK.out]; have := H6.out; omega), HFP.out, if_pos H7.out]]
                    exact ⟨none, 0, rfl, RS.nil _ _ _, SE.out.B⟩
          · have H4 := Aside0.mk h4
            have h4b : (predCheck tc.f1.length x.f2 != 0) = true := bne_iff_ne.2 h4
            clear h4
            go_wp2
            have SE := Aside0.mk ((((S.out.put 0 rfl 0 (.int .i64 0) rfl).put 0 rfl 1 (.int .i64 0) rfl).put 0 rfl 2 (.slice none 0 0) rfl).put 0 rfl 3 (.int .i64 0) rfl)
            refine bodyPost_ret (results_ct rfl _ _ (w.heap.size + 1 + 1 + 1 + 1) 49 #[.int .i64 0, .int .i64 0, .slice none 0 0, .int .i64 0] (0, 0) _ rfl (SE.out.blk 0 rfl) hu49 rfl (by kernel_rfl)) rfl ?_
            rw [show proofC fr tc l x = (zeroX, 8) by unfold proofC; rw [if_neg (by rw [HEE.out]; decide), if_neg GG.out, if_pos H4.out]]
            exact ⟨none, 0, rfl, RS.nil _ _ _, SE.out.B⟩
    · have g1b : (x.f1 != 1) = true := bne_iff_ne.2 g1
      have G1 := Aside0.mk g1
      clear g1
      go_wp2
      have SE := Aside0.mk ((((S.out.put 0 rfl 0 (.int .i64 0) rfl).put 0 rfl 1 (.int .i64 0) rfl).put 0 rfl 2 (.slice none 0 0) rfl).put 0 rfl 3 (.int .i64 0) rfl)
      refine bodyPost_ret (results_ct rfl _ _ (w.heap.size + 1 + 1 + 1 + 1) 49 #[.int .i64 0, .int .i64 0, .slice none 0 0, .int .i64 0] (0, 0) _ rfl (SE.out.blk 0 rfl) hu49 rfl (by kernel_rfl)) rfl ?_
      rw [show proofC fr tc l x = (zeroX, 2) by unfold proofC; rw [if_neg (by rw [HEE.out]; decide), if_pos (.inl G1.out)]]
      exact ⟨none, 0, rfl, RS.nil _ _ _, SE.out.B⟩
  · have hne : (E != 0) = true := bne_iff_ne.2 he
    have HNE := Aside0.mk he
    clear he
    go_wp2
    have SE := Aside0.mk ((((S.out.put 0 rfl 0 (.int .i64 0) rfl).put 0 rfl 1 (.int .i64 0) rfl).put 0 rfl 2 (.slice none 0 0) rfl).put 0 rfl 3 (.int .i64 0) rfl)
    refine bodyPost_ret (results_ct rfl _ _ (w.heap.size + 1 + 1 + 1 + 1) 49 #[.int .i64 0, .int .i64 0, .slice none 0 0, .int .i64 0] (0, 0) _ rfl (SE.out.blk 0 rfl) hu49 rfl (by kernel_rfl)) rfl ?_
    rw [show proofC fr tc l x = (zeroX, E) by unfold proofC; rw [HEE.out, if_pos HNE.out]]
    exact ⟨none, 0, rfl, RS.nil _ _ _, SE.out.B⟩
end Go.Proofs.Ytlhiapggccgggaa.PH
