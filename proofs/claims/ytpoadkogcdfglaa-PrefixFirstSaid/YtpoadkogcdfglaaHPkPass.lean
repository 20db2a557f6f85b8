/- Of, Pass of the package and of its reference. -/
import Derived.Test.YtpoadkogcdfglaaHPfR
import Derived.Test.YtpoadkogcdfglaaHTwin
import Derived.Test.YtpoadkogcdfglaaHSameC
namespace Go.Proofs.Ytpoadkogcdfglaa.PH
open Go.RowKit Go.Proofs.YtpoadkogcdfglaaW.PrintWords Go.Proofs.YtpoadkogcdfglaaW.PrintLast
set_option linter.unusedVariables false
set_option linter.unusedSimpArgs false

@[reducible] def rvals (p : CP) (q : LP) (r : Red) : Array Value := #[.int .i64 r.f0.f0, .slice p.A1 r.f0.f1.length p.c1, .slice p.A2 r.f0.f2.length p.c2, .slice p.A3 r.f0.f3.length p.c3, .slice p.A4 r.f0.f4.length p.c4,
  .int .i64 r.f1.f0, .int .i64 r.f1.f1, .slice q.A2 r.f1.f2.length q.c2, .slice q.A3 r.f1.f3.length q.c3, .slice q.A4 r.f1.f4.length q.c4, .slice q.A5 r.f1.f5.f0.length q.c5, .int .i64 r.f1.f5.f1]
@[reducible] def lvals (q : LP) (l : Lf) : Array Value := #[.int .i64 l.f0, .int .i64 l.f1, .slice q.A2 l.f2.length q.c2, .slice q.A3 l.f3.length q.c3, .slice q.A4 l.f4.length q.c4, .slice q.A5 l.f5.f0.length q.c5, .int .i64 l.f5.f1]
/-- What a call's result tells, in each world that has its blocks. -/
theorem Parts.ofRs {b : Nat} {w0 w w1 : World} {ps : List Pc} (h : Parts b w0 w ps) {P : World → Prop} (hP : ∀ W : World, (∀ k, w.heap.size ≤ k → k < w1.heap.size → W.heap[k]? = w1.heap[k]?) → P W) (hb : Below w.heap.size w w1) : Parts b w0 w1 (pH (fun k => w.heap.size ≤ k ∧ k < w1.heap.size) w1 P :: ps) :=
  h.push hb (fun W hW => hP W (fun k h1 h2 => hW k ⟨h1, h2⟩)) (fun k hk => hk)
theorem Parts.told {b : Nat} {w0 w W : World} {ps : List Pc} (h : Parts b w0 w ps) (hm : ∀ k, b ≤ k → k < w.heap.size → W.heap[k]? = w.heap[k]?) (i : Nat) {F : Nat → Prop} {wx : World} {P : World → Prop} (hi : ps[i]? = some (pH F wx P)) : P W :=
  Held.self (h.moved hm i hi)
theorem RCo.held {b : Nat} {w W : World} {p : CP} {c : Circ} (h : RCo b w p c) (hW : ∀ k, b ≤ k → k < w.heap.size → W.heap[k]? = w.heap[k]?) : RC W p c :=
  ⟨RS.of_R' (R_held h.s1 (Nat.le_refl _) hW), RS.of_R' (R_held h.s2 (Nat.le_refl _) hW), RS.of_R' (R_held h.s3 (Nat.le_refl _) hW), RS.of_R' (R_held h.s4 (Nat.le_refl _) hW)⟩
set_option maxHeartbeats 4000000 in
set_option maxRecDepth 100000 in
theorem ref_Of_bad (p : CP) (c : Circ) (k : Int) (w : World) (h : RC w p c) (hs : c.Fits) (hck : check c ≠ 0) :
    Calls Try.prog 11 #[cv p c, .int .i64 k] w fun e w' => RetRs w w' zeroRd (check c) e := by
  have HV := Aside0.mk (fun W (hb : Below w.heap.size w W) => ref02_Check p c W (h.below hb) hs)
  have c1 : (check c != 0) = true := bne_iff_ne.mpr hck
  have hu26 := Try.underlying26
  have hu33 := Try.underlying33
  have hu35 := Try.underlying35
  have S0 := Aside0.mk (((Parts.start w).new 26 (fc5 p c)).new 35 zCells)
  rw [show (w.alloc (.cells (fc5 p c) 26)).heap.size = w.heap.size + 1 by simp] at S0
  go_enter Try.func11, Try.ntmps11
  go_wp2_with fail
  refine (HV.out _ S0.out.B).mono ?_
  rintro e w1 ⟨rfl, hb1⟩
  have S1 := Aside0.mk (S0.out.below hb1)
  clear hb1
  have HW := Aside0.mk (S1.out.put12 0 rfl (.int .i64 0) (.slice none 0 0) (.slice none 0 0) (.slice none 0 0) (.slice none 0 0) (.int .i64 0) (.int .i64 0) (.slice none 0 0) (.slice none 0 0) (.slice none 0 0) (.slice none 0 0) (.int .i64 0))
  obtain ⟨r0, z0⟩ := S1.out.cell 0 rfl 0 rfl
  obtain ⟨r1, z1⟩ := S1.out.cell 0 rfl 1 rfl
  obtain ⟨r2, z2⟩ := S1.out.cell 0 rfl 2 rfl
  obtain ⟨r3, z3⟩ := S1.out.cell 0 rfl 3 rfl
  obtain ⟨r4, z4⟩ := S1.out.cell 0 rfl 4 rfl
  obtain ⟨r5, z5⟩ := S1.out.cell 0 rfl 5 rfl
  obtain ⟨r6, z6⟩ := S1.out.cell 0 rfl 6 rfl
  obtain ⟨r7, z7⟩ := S1.out.cell 0 rfl 7 rfl
  obtain ⟨r8, z8⟩ := S1.out.cell 0 rfl 8 rfl
  obtain ⟨r9, z9⟩ := S1.out.cell 0 rfl 9 rfl
  obtain ⟨r10, z10⟩ := S1.out.cell 0 rfl 10 rfl
  obtain ⟨r11, z11⟩ := S1.out.cell 0 rfl 11 rfl
  go_wp2
  refine bodyPost_ret (results_ct rfl _ _ (w.heap.size + 1) 35 zCells (0, 0) _ rfl (HW.out.blk 0 rfl) hu35 rfl (by kernel_rfl)) rfl ?_
  exact ⟨⟨none, 0, none, 0, none, 0, none, 0⟩, ⟨none, 0, none, 0, none, 0, none, 0⟩, rfl, fun W hW => ⟨⟨RS.nil _ _ _, RS.nil _ _ _, RS.nil _ _ _, RS.nil _ _ _⟩, ⟨RS.nil _ _ _, RS.nil _ _ _, RS.nil _ _ _, RS.nil _ _ _⟩⟩, HW.out.B⟩
set_option maxHeartbeats 4000000 in
set_option maxRecDepth 100000 in
theorem ref_Of_arg (p : CP) (c : Circ) (k : Int) (w : World) (h : RC w p c) (hs : c.Fits) (hck : check c = 0) (hk : k < 1 ∨ 8 < k) :
    Calls Try.prog 11 #[cv p c, .int .i64 k] w fun e w' => RetRs w w' zeroRd 2 e := by
  have HV := Aside0.mk (fun W (hb : Below w.heap.size w W) => ref02_Check p c W (h.below hb) hs)
  have HC := Aside0.mk hck
  have hu26 := Try.underlying26
  have hu33 := Try.underlying33
  have hu35 := Try.underlying35
  have S0 := Aside0.mk (((Parts.start w).new 26 (fc5 p c)).new 35 zCells)
  rw [show (w.alloc (.cells (fc5 p c) 26)).heap.size = w.heap.size + 1 by simp] at S0
  clear h hs hck
  by_cases h2 : k < 1
  · have hb : decide (k < 1) = true := decide_eq_true h2
    clear hk h2
    go_enter Try.func11, Try.ntmps11
    go_wp2_with fail
    refine (HV.out _ S0.out.B).mono ?_
    rintro e w1 ⟨rfl, hb1⟩
    rw [HC.out]
    have S1 := Aside0.mk (S0.out.below hb1)
    clear hb1
    have HW := Aside0.mk (S1.out.put12 0 rfl (.int .i64 0) (.slice none 0 0) (.slice none 0 0) (.slice none 0 0) (.slice none 0 0) (.int .i64 0) (.int .i64 0) (.slice none 0 0) (.slice none 0 0) (.slice none 0 0) (.slice none 0 0) (.int .i64 0))
    obtain ⟨r0, z0⟩ := S1.out.cell 0 rfl 0 rfl
    obtain ⟨r1, z1⟩ := S1.out.cell 0 rfl 1 rfl
    obtain ⟨r2, z2⟩ := S1.out.cell 0 rfl 2 rfl
    obtain ⟨r3, z3⟩ := S1.out.cell 0 rfl 3 rfl
    obtain ⟨r4, z4⟩ := S1.out.cell 0 rfl 4 rfl
    obtain ⟨r5, z5⟩ := S1.out.cell 0 rfl 5 rfl
    obtain ⟨r6, z6⟩ := S1.out.cell 0 rfl 6 rfl
    obtain ⟨r7, z7⟩ := S1.out.cell 0 rfl 7 rfl
    obtain ⟨r8, z8⟩ := S1.out.cell 0 rfl 8 rfl
    obtain ⟨r9, z9⟩ := S1.out.cell 0 rfl 9 rfl
    obtain ⟨r10, z10⟩ := S1.out.cell 0 rfl 10 rfl
    obtain ⟨r11, z11⟩ := S1.out.cell 0 rfl 11 rfl
    go_wp2
    refine bodyPost_ret (results_ct rfl _ _ (w.heap.size + 1) 35 zCells (0, 0) _ rfl (HW.out.blk 0 rfl) hu35 rfl (by kernel_rfl)) rfl ?_
    exact ⟨⟨none, 0, none, 0, none, 0, none, 0⟩, ⟨none, 0, none, 0, none, 0, none, 0⟩, rfl, fun W hW => ⟨⟨RS.nil _ _ _, RS.nil _ _ _, RS.nil _ _ _, RS.nil _ _ _⟩, ⟨RS.nil _ _ _, RS.nil _ _ _, RS.nil _ _ _, RS.nil _ _ _⟩⟩, HW.out.B⟩
  · have hb : decide (k < 1) = false := decide_eq_false h2
    have hb2 : decide (8 < k) = true := decide_eq_true (by omega)
    clear hk h2
    go_enter Try.func11, Try.ntmps11
    go_wp2_with fail
    refine (HV.out _ S0.out.B).mono ?_
    rintro e w1 ⟨rfl, hb1⟩
    rw [HC.out]
    have S1 := Aside0.mk (S0.out.below hb1)
    clear hb1
    have HW := Aside0.mk (S1.out.put12 0 rfl (.int .i64 0) (.slice none 0 0) (.slice none 0 0) (.slice none 0 0) (.slice none 0 0) (.int .i64 0) (.int .i64 0) (.slice none 0 0) (.slice none 0 0) (.slice none 0 0) (.slice none 0 0) (.int .i64 0))
    obtain ⟨r0, z0⟩ := S1.out.cell 0 rfl 0 rfl
    obtain ⟨r1, z1⟩ := S1.out.cell 0 rfl 1 rfl
    obtain ⟨r2, z2⟩ := S1.out.cell 0 rfl 2 rfl
    obtain ⟨r3, z3⟩ := S1.out.cell 0 rfl 3 rfl
    obtain ⟨r4, z4⟩ := S1.out.cell 0 rfl 4 rfl
    obtain ⟨r5, z5⟩ := S1.out.cell 0 rfl 5 rfl
    obtain ⟨r6, z6⟩ := S1.out.cell 0 rfl 6 rfl
    obtain ⟨r7, z7⟩ := S1.out.cell 0 rfl 7 rfl
    obtain ⟨r8, z8⟩ := S1.out.cell 0 rfl 8 rfl
    obtain ⟨r9, z9⟩ := S1.out.cell 0 rfl 9 rfl
    obtain ⟨r10, z10⟩ := S1.out.cell 0 rfl 10 rfl
    obtain ⟨r11, z11⟩ := S1.out.cell 0 rfl 11 rfl
    go_wp2
    refine bodyPost_ret (results_ct rfl _ _ (w.heap.size + 1) 35 zCells (0, 0) _ rfl (HW.out.blk 0 rfl) hu35 rfl (by kernel_rfl)) rfl ?_
    exact ⟨⟨none, 0, none, 0, none, 0, none, 0⟩, ⟨none, 0, none, 0, none, 0, none, 0⟩, rfl, fun W hW => ⟨⟨RS.nil _ _ _, RS.nil _ _ _, RS.nil _ _ _, RS.nil _ _ _⟩, ⟨RS.nil _ _ _, RS.nil _ _ _, RS.nil _ _ _, RS.nil _ _ _⟩⟩, HW.out.B⟩
set_option maxHeartbeats 4000000 in
set_option maxRecDepth 100000 in
theorem ref_Of_ok (p : CP) (c : Circ) (k : Nat) (w : World) (h : RC w p c) (hs : c.Fits) (hck : check c = 0) (h2 : 1 ≤ k) (h4 : k ≤ 8) :
    Calls Try.prog 11 #[cv p c, .int .i64 (k : Int)] w fun e w' => RetRs w w' (pfDone c k).1 (pfDone c k).2 e := by
  have HV := Aside0.mk (fun W (hb : Below w.heap.size w W) => ref02_Check p c W (h.below hb) hs)
  have HM := Aside0.mk (fun W (hb : Below w.heap.size w W) => ref32_Made p c W (h.below hb) hck k h2 h4)
  have HC := Aside0.mk hck
  obtain ⟨⟨r, n⟩, hr⟩ : ∃ x, pfDone c k = x := ⟨_, rfl⟩
  rw [hr] at HM ⊢
  dsimp only at HM ⊢
  have hkb1 : decide ((k : Int) < 1) = false := decide_eq_false (by omega)
  have hkb2 : decide ((8 : Int) < (k : Int)) = false := decide_eq_false (by omega)
  have hu26 := Try.underlying26
  have hu33 := Try.underlying33
  have hu35 := Try.underlying35
  have S0 := Aside0.mk (((Parts.start w).new 26 (fc5 p c)).new 35 zCells)
  rw [show (w.alloc (.cells (fc5 p c) 26)).heap.size = w.heap.size + 1 by simp] at S0
  clear h hs hck h2 h4 hr
  go_enter Try.func11, Try.ntmps11
  go_wp2_with fail
  refine (HV.out _ S0.out.B).mono ?_
  rintro e w1 ⟨rfl, hb1⟩
  rw [HC.out]
  have S1 := Aside0.mk (S0.out.below hb1)
  clear hb1
  obtain ⟨c0, c1, c2, c3, c4⟩ := blk5 (S1.out.blk 1 rfl)
  go_wp2_with fail
  refine (HM.out _ S1.out.B).mono ?_
  rintro e w2 ⟨p2, q2, rfl, hh2, hb2⟩
  have S2 := Aside0.mk (S1.out.ofRs hh2 hb2)
  clear c0 c1 c2 c3 c4 hh2 hb2
  obtain ⟨r0, z0⟩ := S2.out.cell 1 rfl 0 rfl
  obtain ⟨r1, z1⟩ := S2.out.cell 1 rfl 1 rfl
  obtain ⟨r2, z2⟩ := S2.out.cell 1 rfl 2 rfl
  obtain ⟨r3, z3⟩ := S2.out.cell 1 rfl 3 rfl
  obtain ⟨r4, z4⟩ := S2.out.cell 1 rfl 4 rfl
  obtain ⟨r5, z5⟩ := S2.out.cell 1 rfl 5 rfl
  obtain ⟨r6, z6⟩ := S2.out.cell 1 rfl 6 rfl
  obtain ⟨r7, z7⟩ := S2.out.cell 1 rfl 7 rfl
  obtain ⟨r8, z8⟩ := S2.out.cell 1 rfl 8 rfl
  obtain ⟨r9, z9⟩ := S2.out.cell 1 rfl 9 rfl
  obtain ⟨r10, z10⟩ := S2.out.cell 1 rfl 10 rfl
  obtain ⟨r11, z11⟩ := S2.out.cell 1 rfl 11 rfl
  have HW := Aside0.mk (S2.out.put12 1 rfl (.int .i64 r.f0.f0) (.slice p2.A1 r.f0.f1.length p2.c1) (.slice p2.A2 r.f0.f2.length p2.c2) (.slice p2.A3 r.f0.f3.length p2.c3) (.slice p2.A4 r.f0.f4.length p2.c4) (.int .i64 r.f1.f0) (.int .i64 r.f1.f1) (.slice q2.A2 r.f1.f2.length q2.c2) (.slice q2.A3 r.f1.f3.length q2.c3) (.slice q2.A4 r.f1.f4.length q2.c4) (.slice q2.A5 r.f1.f5.f0.length q2.c5) (.int .i64 r.f1.f5.f1))
  obtain ⟨A1, k1, A2, k2, A3, k3, A4, k4⟩ := p2
  obtain ⟨B2, m2, B3, m3, B4, m4, B5, m5⟩ := q2
  go_wp2
  refine bodyPost_ret (results_ct rfl _ _ (w.heap.size + 1) 35 (rvals ⟨A1, k1, A2, k2, A3, k3, A4, k4⟩ ⟨B2, m2, B3, m3, B4, m4, B5, m5⟩ r) (0, 0) _ rfl (HW.out.blk 1 rfl) hu35 rfl (by kernel_rfl)) rfl ?_
  exact ⟨_, _, rfl, fun W hW => HW.out.told hW 0 rfl, HW.out.B⟩
theorem ref_Of (p : CP) (c : Circ) (k : Int) (w : World) (h : RC w p c) (hs : c.Fits) :
    Calls Try.prog 11 #[cv p c, .int .i64 k] w fun e w' => RetRs w w' (pfOf c k).1 (pfOf c k).2 e := by
  unfold pfOf
  by_cases hc : check c = 0
  · rw [if_pos hc]
    by_cases h2 : k < 1
    · rw [if_pos h2]; exact ref_Of_arg p c k w h hs hc (.inl h2)
    rw [if_neg h2]
    by_cases h4 : 8 < k
    · rw [if_pos h4]; exact ref_Of_arg p c k w h hs hc (.inr h4)
    rw [if_neg h4]
    obtain ⟨n, rfl⟩ : ∃ n : Nat, k = (n : Int) := ⟨k.toNat, by omega⟩
    rw [Int.toNat_natCast]
    exact ref_Of_ok p c n w h hs hc (by omega) (by omega)
  · rw [if_neg hc]; exact ref_Of_bad p c k w h hs hc
set_option maxHeartbeats 4000000 in
set_option maxRecDepth 100000 in
theorem pk_copied (p : CP) (c : Circ) (w : World) (h : RC w p c) (h1 : c.f1.length ≤ 4000000) (h2 : c.f2.length ≤ 4000000) (h3 : c.f3.length ≤ 4000000) (h4 : c.f4.length ≤ 4000000) :
    Calls Try.prog 44 #[cv p c] w fun e w' => RetT w w' c e := by
  have HR := Aside0.mk h
  have HL := Aside0.mk (And.intro h1 (And.intro h2 (And.intro h3 h4)))
  have hu26 := Try.underlying26
  have S0 := Aside0.mk (((Parts.start w).new 26 (fc5 p c)).new 26 #[.int .i64 0, .slice none 0 0, .slice none 0 0, .slice none 0 0, .slice none 0 0])
  rw [show (w.alloc (.cells (fc5 p c) 26)).heap.size = w.heap.size + 1 by simp] at S0
  clear h h1 h2 h3 h4
  go_enter Try.func44, Try.ntmps44
  go_upto_region 1 with (fail)
  generalize (w.alloc (.cells (fc5 p c) 26)).alloc (.cells #[.int .i64 0, .slice none 0 0, .slice none 0 0, .slice none 0 0, .slice none 0 0] 26) = w1 at *
  refine start_ (n := 10) (S := (fun w' : World => w'.cell? ⟨w.heap.size, 1, none⟩ = some (.slice p.A1 c.f1.length p.c1) ∧ w'.cell? ⟨w.heap.size, 2, none⟩ = some (.slice p.A2 c.f2.length p.c2))) (ds := [7,9]) #[false, false, false, false, false, false, false, false, false, false] (by kernel_rfl) rfl rfl ⟨(S0.out.cell 1 rfl 1 rfl).1, (S0.out.cell 1 rfl 2 rfl).1⟩ (fun hHeld => ?_)
  have S1 := Aside0.mk S0.out.drew
  clear S0
  generalize w1.drew = w2 at *
  refine pure_ (i := 0) (N := some 3) (v := ?_) (a' := ?_) #[true, false, false, false, false, false, false, false, false, false] rfl rfl (by kernel_rfl) (fun _ _ _ h => h) (Or.inl ⟨by rfl, ?_⟩) ?_ ?_
  rotate_left
  · intro w'
    go_simp
    with_reducible rfl
  rotate_left
  · simp only [Act.put, List.setIfInBounds_toArray, List.set_cons_zero, List.set_cons_succ]
    rfl
  refine take_ (i := 1) (N := some 4) (v := ?_) (a' := ?_) #[true, true, false, false, false, false, false, false, false, false] rfl rfl (by kernel_rfl) (fun _ _ _ h => h) (Or.inl ⟨by rfl, ?_⟩) hHeld ?_ ?_
  rotate_left
  · rintro w' ⟨s0, s1⟩
    go_simp
    with_reducible rfl
  rotate_left
  · simp only [Act.put, List.setIfInBounds_toArray, List.set_cons_zero, List.set_cons_succ]
    rfl
  refine pure_ (i := 3) (N := some 6) (v := ?_) (a' := ?_) #[true, true, false, true, false, false, false, false, false, false] rfl rfl (by kernel_rfl) (fun _ _ _ h => h) (Or.inl ⟨by rfl, ?_⟩) ?_ ?_
  rotate_left
  · intro w'
    go_simp
    with_reducible rfl
  rotate_left
  · simp only [Act.put, List.setIfInBounds_toArray, List.set_cons_zero, List.set_cons_succ]
    rfl
  refine take_ (i := 4) (N := some 7) (v := ?_) (a' := ?_) #[true, true, false, true, true, false, false, false, false, false] rfl rfl (by kernel_rfl) (fun _ _ _ h => h) (Or.inl ⟨by rfl, ?_⟩) hHeld ?_ ?_
  rotate_left
  · rintro w' ⟨s0, s1⟩
    go_simp
    with_reducible rfl
  rotate_left
  · simp only [Act.put, List.setIfInBounds_toArray, List.set_cons_zero, List.set_cons_succ]
    rfl
  refine one_ (i := 2) (N := some 5) #[true, true, true, true, true, false, false, false, false, false] rfl rfl (by kernel_rfl) (by decide) (fun K hK => ?_)
  refine goes_ Try.func34 (by kernel_rfl) rfl #[.slice p.A1 c.f1.length p.c1] (by rfl) rfl rfl (by simp only [List.map_toArray, List.map_cons, List.map_nil] <;> rfl) ?_
  refine (slices_Clone_latch _ _ c.f1 _ (HR.out.below S1.out.B).s1 HL.out.1).mono ?_
  rintro e w3 ⟨A1, k1, rfl, hR, hb⟩
  refine ⟨_, rfl, ?_⟩
  have S3 := Aside0.mk (S1.out.freshF flat_latch hb hR)
  clear hR hb S1
  refine hK.out _ _ ⟨(S3.out.cell 2 rfl 1 rfl).1, (S3.out.cell 2 rfl 2 rfl).1⟩ (fun hHeld => ?_)
  clear hK K
  refine norm_ (a' := ?_) ?_ ?_
  rotate_left
  · show Act.put _ (some 5) _ = _
    simp only [Act.put, List.setIfInBounds_toArray, List.set_cons_zero, List.set_cons_succ]
    rfl
  refine pure_ (i := 6) (N := some 9) (v := ?_) (a' := ?_) #[true, true, true, true, true, false, true, false, false, false] rfl rfl (by kernel_rfl) (fun _ _ _ h => h) (Or.inl ⟨by rfl, ?_⟩) ?_ ?_
  rotate_left
  · intro w'
    go_simp
    with_reducible rfl
  rotate_left
  · simp only [Act.put, List.setIfInBounds_toArray, List.set_cons_zero, List.set_cons_succ]
    rfl
  refine one_ (i := 5) (N := some 8) #[true, true, true, true, true, true, true, false, false, false] rfl rfl (by kernel_rfl) (by decide) (fun K hK => ?_)
  refine goes_ Try.func81 (by kernel_rfl) rfl #[.slice p.A2 c.f2.length p.c2] (by rfl) rfl rfl (by simp only [List.map_toArray, List.map_cons, List.map_nil] <;> rfl) ?_
  refine (slices_Clone_gate _ _ c.f2 _ (HR.out.below S3.out.B).s2 HL.out.2.1).mono ?_
  rintro e w4 ⟨A2, k2, rfl, hR, hb⟩
  refine ⟨_, rfl, ?_⟩
  have S4 := Aside0.mk (S3.out.freshF flat_gate hb hR)
  clear hR hb S3
  refine hK.out _ _ ⟨(S4.out.cell 3 rfl 1 rfl).1, (S4.out.cell 3 rfl 2 rfl).1⟩ (fun hHeld => ?_)
  clear hK K
  refine norm_ (a' := ?_) ?_ ?_
  rotate_left
  · show Act.put _ (some 8) _ = _
    simp only [Act.put, List.setIfInBounds_toArray, List.set_cons_zero, List.set_cons_succ]
    rfl
  obtain ⟨u1, z1⟩ := S4.out.cell 3 rfl 1 rfl
  obtain ⟨u2, z2⟩ := S4.out.cell 3 rfl 2 rfl
  refine last_ (i := 7) (N := none) #[true, true, true, true, true, true, true, true, false, false] rfl rfl (by kernel_rfl) (by decide) (fun K hK => ?_)
  refine skip_ (w1 := ?_) (by rfl) rfl ?_ ?_
  rotate_left
  · go_simp
    rfl
  refine hK.out _ _ ?_
  clear hK K
  refine pure_ (i := 8) (N := some 10) (v := ?_) (a' := ?_) #[true, true, true, true, true, true, true, true, true, false] rfl rfl (by kernel_rfl) (fun _ _ _ h => h) (Or.inl ⟨by rfl, ?_⟩) ?_ ?_
  rotate_left
  · intro w'
    go_simp
    with_reducible rfl
  rotate_left
  · simp only [Act.put, List.setIfInBounds_toArray, List.set_cons_zero, List.set_cons_succ]
    rfl
  refine last_ (i := 9) (N := none) #[true, true, true, true, true, true, true, true, true, true] rfl rfl (by kernel_rfl) (by decide) (fun K hK => ?_)
  refine skip_ (w1 := ?_) (by rfl) rfl ?_ ?_
  rotate_left
  · go_simp
    rfl
  refine hK.out _ _ ?_
  clear hK K
  refine done_ (by kernel_rfl) ?_
  have S5 := Aside0.mk ((S4.out.put 3 rfl 1 (.slice A1 c.f1.length k1) rfl).put 3 rfl 2 (.slice A2 c.f2.length k2) rfl)
  clear S4 u1 z1 u2 z2 hHeld
  go_upto_region 2 with (fail)
  generalize (w4.setCell ⟨w.heap.size, 1, none⟩ (.slice A1 c.f1.length k1)).setCell ⟨w.heap.size, 2, none⟩ (.slice A2 c.f2.length k2) = w5 at *
  refine start_ (n := 10) (S := (fun w' : World => w'.cell? ⟨w.heap.size, 3, none⟩ = some (.slice p.A3 c.f3.length p.c3) ∧ w'.cell? ⟨w.heap.size, 4, none⟩ = some (.slice p.A4 c.f4.length p.c4))) (ds := [7,9]) #[false, false, false, false, false, false, false, false, false, false] (by kernel_rfl) rfl rfl ⟨(S5.out.cell 3 rfl 3 rfl).1, (S5.out.cell 3 rfl 4 rfl).1⟩ (fun hHeld => ?_)
  have S6 := Aside0.mk S5.out.drew
  clear S5
  generalize w5.drew = w6 at *
  refine pure_ (i := 0) (N := some 11) (v := ?_) (a' := ?_) #[true, false, false, false, false, false, false, false, false, false] rfl rfl (by kernel_rfl) (fun _ _ _ h => h) (Or.inl ⟨by rfl, ?_⟩) ?_ ?_
  rotate_left
  · intro w'
    go_simp
    with_reducible rfl
  rotate_left
  · simp only [Act.put, List.setIfInBounds_toArray, List.set_cons_zero, List.set_cons_succ]
    rfl
  refine take_ (i := 1) (N := some 12) (v := ?_) (a' := ?_) #[true, true, false, false, false, false, false, false, false, false] rfl rfl (by kernel_rfl) (fun _ _ _ h => h) (Or.inl ⟨by rfl, ?_⟩) hHeld ?_ ?_
  rotate_left
  · rintro w' ⟨s0, s1⟩
    go_simp
    with_reducible rfl
  rotate_left
  · simp only [Act.put, List.setIfInBounds_toArray, List.set_cons_zero, List.set_cons_succ]
    rfl
  refine pure_ (i := 3) (N := some 14) (v := ?_) (a' := ?_) #[true, true, false, true, false, false, false, false, false, false] rfl rfl (by kernel_rfl) (fun _ _ _ h => h) (Or.inl ⟨by rfl, ?_⟩) ?_ ?_
  rotate_left
  · intro w'
    go_simp
    with_reducible rfl
  rotate_left
  · simp only [Act.put, List.setIfInBounds_toArray, List.set_cons_zero, List.set_cons_succ]
    rfl
  refine take_ (i := 4) (N := some 15) (v := ?_) (a' := ?_) #[true, true, false, true, true, false, false, false, false, false] rfl rfl (by kernel_rfl) (fun _ _ _ h => h) (Or.inl ⟨by rfl, ?_⟩) hHeld ?_ ?_
  rotate_left
  · rintro w' ⟨s0, s1⟩
    go_simp
    with_reducible rfl
  rotate_left
  · simp only [Act.put, List.setIfInBounds_toArray, List.set_cons_zero, List.set_cons_succ]
    rfl
  refine one_ (i := 2) (N := some 13) #[true, true, true, true, true, false, false, false, false, false] rfl rfl (by kernel_rfl) (by decide) (fun K hK => ?_)
  refine goes_ Try.func35 (by kernel_rfl) rfl #[.slice p.A3 c.f3.length p.c3] (by rfl) rfl rfl (by simp only [List.map_toArray, List.map_cons, List.map_nil] <;> rfl) ?_
  refine (slices_Clone_int _ _ c.f3 _ (HR.out.below S6.out.B).s3 HL.out.2.2.1).mono ?_
  rintro e w7 ⟨A3, k3, rfl, hR, hb⟩
  refine ⟨_, rfl, ?_⟩
  have S7 := Aside0.mk (S6.out.freshF flat_int hb hR)
  clear hR hb S6
  refine hK.out _ _ ⟨(S7.out.cell 4 rfl 3 rfl).1, (S7.out.cell 4 rfl 4 rfl).1⟩ (fun hHeld => ?_)
  clear hK K
  refine norm_ (a' := ?_) ?_ ?_
  rotate_left
  · show Act.put _ (some 13) _ = _
    simp only [Act.put, List.setIfInBounds_toArray, List.set_cons_zero, List.set_cons_succ]
    rfl
  refine pure_ (i := 6) (N := some 17) (v := ?_) (a' := ?_) #[true, true, true, true, true, false, true, false, false, false] rfl rfl (by kernel_rfl) (fun _ _ _ h => h) (Or.inl ⟨by rfl, ?_⟩) ?_ ?_
  rotate_left
  · intro w'
    go_simp
    with_reducible rfl
  rotate_left
  · simp only [Act.put, List.setIfInBounds_toArray, List.set_cons_zero, List.set_cons_succ]
    rfl
  refine one_ (i := 5) (N := some 16) #[true, true, true, true, true, true, true, false, false, false] rfl rfl (by kernel_rfl) (by decide) (fun K hK => ?_)
  refine goes_ Try.func35 (by kernel_rfl) rfl #[.slice p.A4 c.f4.length p.c4] (by rfl) rfl rfl (by simp only [List.map_toArray, List.map_cons, List.map_nil] <;> rfl) ?_
  refine (slices_Clone_int _ _ c.f4 _ (HR.out.below S7.out.B).s4 HL.out.2.2.2).mono ?_
  rintro e w8 ⟨A4, k4, rfl, hR, hb⟩
  refine ⟨_, rfl, ?_⟩
  have S8 := Aside0.mk (S7.out.freshF flat_int hb hR)
  clear hR hb S7
  refine hK.out _ _ ⟨(S8.out.cell 5 rfl 3 rfl).1, (S8.out.cell 5 rfl 4 rfl).1⟩ (fun hHeld => ?_)
  clear hK K
  refine norm_ (a' := ?_) ?_ ?_
  rotate_left
  · show Act.put _ (some 16) _ = _
    simp only [Act.put, List.setIfInBounds_toArray, List.set_cons_zero, List.set_cons_succ]
    rfl
  obtain ⟨u1, z1⟩ := S8.out.cell 5 rfl 3 rfl
  obtain ⟨u2, z2⟩ := S8.out.cell 5 rfl 4 rfl
  refine last_ (i := 7) (N := none) #[true, true, true, true, true, true, true, true, false, false] rfl rfl (by kernel_rfl) (by decide) (fun K hK => ?_)
  refine skip_ (w1 := ?_) (by rfl) rfl ?_ ?_
  rotate_left
  · go_simp
    rfl
  refine hK.out _ _ ?_
  clear hK K
  refine pure_ (i := 8) (N := some 18) (v := ?_) (a' := ?_) #[true, true, true, true, true, true, true, true, true, false] rfl rfl (by kernel_rfl) (fun _ _ _ h => h) (Or.inl ⟨by rfl, ?_⟩) ?_ ?_
  rotate_left
  · intro w'
    go_simp
    with_reducible rfl
  rotate_left
  · simp only [Act.put, List.setIfInBounds_toArray, List.set_cons_zero, List.set_cons_succ]
    rfl
  refine last_ (i := 9) (N := none) #[true, true, true, true, true, true, true, true, true, true] rfl rfl (by kernel_rfl) (by decide) (fun K hK => ?_)
  refine skip_ (w1 := ?_) (by rfl) rfl ?_ ?_
  rotate_left
  · go_simp
    rfl
  refine hK.out _ _ ?_
  clear hK K
  refine done_ (by kernel_rfl) ?_
  have S9 := Aside0.mk ((S8.out.put 5 rfl 3 (.slice A3 c.f3.length k3) rfl).put 5 rfl 4 (.slice A4 c.f4.length k4) rfl)
  clear S8 u1 z1 u2 z2 hHeld
  go_upto_region 3 with (fail)
  generalize (w8.setCell ⟨w.heap.size, 3, none⟩ (.slice A3 c.f3.length k3)).setCell ⟨w.heap.size, 4, none⟩ (.slice A4 c.f4.length k4) = w9 at *
  obtain ⟨a0, a1, a2, a3, a4⟩ := blk5 (S9.out.blk 5 rfl)
  obtain ⟨⟨r0, r1, r2, r3, r4⟩, z0, z1, z2, z3, z4⟩ := blk5w (S9.out.blk 4 rfl)
  go_wp2
  have HW := (((((S9.out.put 4 rfl 0 (.int .i64 c.f0) rfl).put 4 rfl 1 (.slice A1 c.f1.length k1) rfl).put 4 rfl 2 (.slice A2 c.f2.length k2) rfl).put 4 rfl 3 (.slice A3 c.f3.length k3) rfl).put 4 rfl 4 (.slice A4 c.f4.length k4) rfl)
  refine bodyPost_ret (results_cell_row rfl _ _ (w.heap.size + 1) 26 #[.int .i64 c.f0, .slice A1 c.f1.length k1, .slice A2 c.f2.length k2, .slice A3 c.f3.length k3, .slice A4 c.f4.length k4] (0, 0) _ rfl (HW.blk 4 rfl) hu26 rfl (by kernel_rfl)) rfl ?_
  exact ⟨⟨A1, k1, A2, k2, A3, k3, A4, k4⟩, rfl, ⟨HW.ownF 3 rfl, HW.ownF 2 rfl, HW.ownF 1 rfl, HW.ownF 0 rfl⟩, HW.B⟩
end Go.Proofs.Ytpoadkogcdfglaa.PH
