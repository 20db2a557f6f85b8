/- The law ConeNames: its function answers true. -/
import Derived.Test.YtiafojcbllbepaaHAlive28
namespace Go.Proofs.Ytiafojcbllbepaa.PH
open Go.RowKit Go.Proofs.YtiafojcbllbepaaW.PrintWords Go.Proofs.YtiafojcbllbepaaW.PrintLast
set_option linter.unusedVariables false
set_option linter.unusedSimpArgs false

def exM : Circ := ⟨-1, [], [], [], []⟩
def exK : Circ := ⟨1001, [], [], [], []⟩
def exN : Circ := ⟨3, [⟨12, 1⟩, ⟨10, 2⟩, ⟨17, 2⟩, ⟨3, 1⟩], [⟨12, 2⟩, ⟨14, 6⟩], [], [9]⟩
def exW : Circ := ⟨1, [⟨6, 1⟩, ⟨9, 2⟩], [⟨6, 2⟩], [], [5]⟩
def exF : Lf := ⟨0, 1, [4, 0, 6, 1], [[2, 0, 0]], [8, 12], ⟨[], 1⟩⟩
theorem exM_of : ofC exM = ([], 8) := by
  unfold ofC
  rw [if_neg (by decide)]; rfl
theorem exM_pass : passR exM = (zeroRd, 8) := by
  unfold passR
  rw [if_neg (by decide)]; rfl
theorem exK_pass : passR exK = (zeroRd, 4) := by
  unfold passR
  rw [if_neg (by decide)]; rfl
theorem exN_cone : coneB exN = [false, true, false, false, true, false, true, false, true, false] := cone_cert (inside_of (by decide)) _ [4, 6, 8, 1] (by decide) (by decide) (by decide) (by decide)
theorem exN_of : ofC exN = ([1, 4, 6, 8], 0) := by
  unfold ofC
  rw [if_pos (by decide)]
  unfold coneV
  rw [exN_cone]; rfl
theorem exN_pass : passR exN = (⟨exW, exF⟩, 0) := by
  unfold passR
  rw [if_pos (by decide), exN_cone]
  rfl
theorem small_fits {n : Int} (h : I64 n) : Circ.Fits ⟨n, [], [], [], []⟩ := ⟨Nat.zero_le _, Nat.zero_le _, h, fun x hx => by simp at hx, fun x hx => by simp at hx, fun x hx => by simp at hx, fun x hx => by simp at hx⟩
instance i64_dec (k : Int) : Decidable (I64 k) := by unfold I64; infer_instance
theorem exN_fits : exN.Fits := ⟨by decide, by decide, ⟨by decide, by decide⟩, by decide, by decide, by decide, by decide⟩
theorem sz_alloc (w : World) (x : Obj) : (w.alloc x).heap.size = w.heap.size + 1 := by simp
theorem rc_small {n : Int} (w : World) : RC w ⟨none, 0, none, 0, none, 0, none, 0⟩ ⟨n, [], [], [], []⟩ := ⟨RS.nil _ _ _, RS.nil _ _ _, RS.nil _ _ _, RS.nil _ _ _⟩
theorem of_M (w : World) : Calls Try.prog 10 #[.agg #[.int .i64 (-1), .slice none 0 0, .slice none 0 0, .slice none 0 0, .slice none 0 0]] w (fun e w' => ∃ A cap, e = .returned (.tuple #[.slice A 0 cap, .int .i64 8]) ∧ Below w.heap.size w w') := by
  have h_ := cone_Of ⟨none, 0, none, 0, none, 0, none, 0⟩ exM w (rc_small w) (small_fits ⟨by decide, by decide⟩)
  rw [exM_of] at h_
  exact h_.mono (fun e w' ⟨A, cap, h1, _, h3⟩ => ⟨A, cap, h1, h3⟩)
@[reducible] def zv (p : CP) (q : LP) : Value := rv p q zeroRd
theorem pass_M (w : World) : Calls Try.prog 12 #[.agg #[.int .i64 (-1), .slice none 0 0, .slice none 0 0, .slice none 0 0, .slice none 0 0]] w (fun e w' => ∃ p q, e = .returned (.tuple #[rv p q zeroRd, .int .i64 8]) ∧ Below w.heap.size w w') := by
  have h_ := cone_Pass ⟨none, 0, none, 0, none, 0, none, 0⟩ exM w (rc_small w) (small_fits ⟨by decide, by decide⟩)
  rw [exM_pass] at h_
  exact h_.mono (fun e w' ⟨p, q, h1, _, _, h3⟩ => ⟨p, q, h1, h3⟩)
theorem pass_K (w : World) : Calls Try.prog 12 #[.agg #[.int .i64 1001, .slice none 0 0, .slice none 0 0, .slice none 0 0, .slice none 0 0]] w (fun e w' => ∃ p q, e = .returned (.tuple #[rv p q zeroRd, .int .i64 4]) ∧ Below w.heap.size w w') := by
  have h_ := cone_Pass ⟨none, 0, none, 0, none, 0, none, 0⟩ exK w (rc_small w) (small_fits ⟨by decide, by decide⟩)
  rw [exK_pass] at h_
  exact h_.mono (fun e w' ⟨p, q, h1, _, _, h3⟩ => ⟨p, q, h1, h3⟩)
theorem of_N (p : CP) (w : World) (h : RC w p exN) : Calls Try.prog 10 #[.agg #[.int .i64 3, .slice p.A1 4 p.c1, .slice p.A2 2 p.c2, .slice p.A3 0 p.c3, .slice p.A4 1 p.c4]] w (fun e w' => ∃ A cap, e = .returned (.tuple #[.slice A 4 cap, .int .i64 0]) ∧ RS (Kd.int .i64) w' A cap [1, 4, 6, 8] ∧ Below w.heap.size w w') := by
  have h_ := cone_Of p exN w h exN_fits
  rw [exN_of] at h_
  exact h_.mono (fun e w' ⟨A, cap, h1, h2, h3⟩ => ⟨A, cap, h1, RS.of_R' h2, h3⟩)
theorem pass_N (p : CP) (w : World) (h : RC w p exN) : Calls Try.prog 12 #[.agg #[.int .i64 3, .slice p.A1 4 p.c1, .slice p.A2 2 p.c2, .slice p.A3 0 p.c3, .slice p.A4 1 p.c4]] w (fun e w' => ∃ p7 q7, e = .returned (.tuple #[.agg #[.int .i64 1, .slice p7.A1 2 p7.c1, .slice p7.A2 1 p7.c2, .slice p7.A3 0 p7.c3, .slice p7.A4 1 p7.c4, .int .i64 0, .int .i64 1, .slice q7.A2 4 q7.c2, .slice q7.A3 1 q7.c3, .slice q7.A4 2 q7.c4, .slice q7.A5 0 q7.c5, .int .i64 1], .int .i64 0]) ∧ RC w' p7 exW ∧ RL w' q7 exF ∧ Below w.heap.size w w') := by
  have h_ := cone_Pass p exN w h exN_fits
  rw [exN_pass] at h_
  exact h_

set_option maxHeartbeats 8000000 in
set_option maxRecDepth 100000 in
theorem law_ConeNames (w : World) : Calls Try.prog 4 #[] w fun e w' => e = .returned (.bool true) ∧ Below w.heap.size w w' := by
  have hu26 := Try.underlying26
  have hu40 := Try.underlying40
  go_enter Try.func4, Try.ntmps4
  go_upto_region 2 with (fail)
  have S := Aside0.mk ((Parts.start w).new 26 #[.int .i64 (-1), .slice none 0 0, .slice none 0 0, .slice none 0 0, .slice none 0 0])
  obtain ⟨w1, hw1⟩ : ∃ w1, w.alloc (.cells #[.int .i64 (-1), .slice none 0 0, .slice none 0 0, .slice none 0 0, .slice none 0 0] 26) = w1 := ⟨_, rfl⟩
  rw [hw1] at S ⊢
  clear hw1
  obtain ⟨c0, c1, c2, c3, c4⟩ := blk5 (S.out.blk 0 rfl)
  go_wp2_with fail
  refine (of_M _).mono ?_
  rintro e w2 ⟨A2, k2, rfl, hb⟩
  have S := Aside0.mk (S.out.below hb)
  clear hb c0 c1 c2 c3 c4
  obtain ⟨c0, c1, c2, c3, c4⟩ := blk5 (S.out.blk 0 rfl)
  go_wp2_with fail
  refine (pass_M _).mono ?_
  rintro e w3 ⟨p3, q3, rfl, hb⟩
  have S := Aside0.mk ((S.out.below hb).tail)
  clear hb c0 c1 c2 c3 c4
  go_upto_region 4 with (fail)
  have S := Aside0.mk (S.out.alloc (.cells (rcells p3 q3 zeroRd) 40))
  generalize w3.heap.size = g3 at *
  generalize w3.alloc (.cells (rcells p3 q3 zeroRd) 40) = w4 at *
  go_wp2_with fail
  refine (pass_K _).mono ?_
  rintro e w5 ⟨p5, q5, rfl, hb⟩
  have S := Aside0.mk (S.out.below hb)
  clear hb
  go_upto_region 5 with (fail)
  have S := Aside0.mk (S.out.alloc (.cells (rcells p5 q5 zeroRd) 40))
  generalize w5.heap.size = g5 at *
  generalize w5.alloc (.cells (rcells p5 q5 zeroRd) 40) = w6 at *
  go_upto_region 6 with (fail)
  have S := Aside0.mk ((((S.out.new 49 #[.int .i64 12, .int .i64 1, .int .i64 10, .int .i64 2, .int .i64 17, .int .i64 2, .int .i64 3, .int .i64 1]).new 51 #[.int .i64 12, .int .i64 2, .int .i64 14, .int .i64 6]).new 3 #[.int .i64 9]).new 26 #[.int .i64 3, .slice (some ⟨w6.heap.size, 0, none⟩) 4 4, .slice (some ⟨w6.heap.size + 1, 0, none⟩) 2 2, .slice none 0 0, .slice (some ⟨w6.heap.size + 1 + 1, 0, none⟩) 1 1])
  simp only [sz_alloc] at S
  generalize w6.heap.size = g6 at *
  obtain ⟨w7, hw7⟩ : ∃ W, (((w6.alloc (.cells #[.int .i64 12, .int .i64 1, .int .i64 10, .int .i64 2, .int .i64 17, .int .i64 2, .int .i64 3, .int .i64 1] 49)).alloc (.cells #[.int .i64 12, .int .i64 2, .int .i64 14, .int .i64 6] 51)).alloc (.cells #[.int .i64 9] 3)).alloc (.cells #[.int .i64 3, .slice (some ⟨g6, 0, none⟩) 4 4, .slice (some ⟨g6 + 1, 0, none⟩) 2 2, .slice none 0 0, .slice (some ⟨g6 + 1 + 1, 0, none⟩) 1 1] 26) = W := ⟨_, rfl⟩
  rw [hw7] at S ⊢
  clear hw7
  have HA := Aside0.mk (show RC w7 ⟨some ⟨g6, 0, none⟩, 4, some ⟨g6 + 1, 0, none⟩, 2, none, 0, some ⟨g6 + 1 + 1, 0, none⟩, 1⟩ exN from ⟨RS.lats (xs := exN.f1) (S.out.blk 3 rfl) (Nat.le_refl 4) (by decide), RS.gats (xs := exN.f2) (S.out.blk 2 rfl) (Nat.le_refl 2) (by decide), RS.nil _ _ _, RS.ints (xs := [9]) (S.out.blk 1 rfl) (Nat.le_refl 1) (by decide)⟩)
  obtain ⟨c0, c1, c2, c3, c4⟩ := blk5 (S.out.blk 0 rfl)
  go_wp2_with fail
  refine (of_N ⟨some ⟨g6, 0, none⟩, 4, some ⟨g6 + 1, 0, none⟩, 2, none, 0, some ⟨g6 + 1 + 1, 0, none⟩, 1⟩ _ HA.out).mono ?_
  rintro e w8 ⟨A8, k8, rfl, hr8, hb⟩
  have H8 := Aside0.mk hr8
  have HA := Aside0.mk (HA.out.below hb)
  have S := Aside0.mk (S.out.below hb)
  clear hb hr8 c0 c1 c2 c3 c4
  obtain ⟨c0, c1, c2, c3, c4⟩ := blk5 (S.out.blk 0 rfl)
  go_wp2_with fail
  refine (pass_N ⟨some ⟨g6, 0, none⟩, 4, some ⟨g6 + 1, 0, none⟩, 2, none, 0, some ⟨g6 + 1 + 1, 0, none⟩, 1⟩ _ HA.out).mono ?_
  rintro e w9 ⟨p7, q7, rfl, hp7, hq7, hb⟩
  have HP := Aside0.mk (hp7.below (below_alloc (Below.refl _ _) (.cells #[.int .i64 1, .slice p7.A1 2 p7.c1, .slice p7.A2 1 p7.c2, .slice p7.A3 0 p7.c3, .slice p7.A4 1 p7.c4, .int .i64 0, .int .i64 1, .slice q7.A2 4 q7.c2, .slice q7.A3 1 q7.c3, .slice q7.A4 2 q7.c4, .slice q7.A5 0 q7.c5, .int .i64 1] 40)))
  have HQ := Aside0.mk (hq7.below (below_alloc (Below.refl _ _) (.cells #[.int .i64 1, .slice p7.A1 2 p7.c1, .slice p7.A2 1 p7.c2, .slice p7.A3 0 p7.c3, .slice p7.A4 1 p7.c4, .int .i64 0, .int .i64 1, .slice q7.A2 4 q7.c2, .slice q7.A3 1 q7.c3, .slice q7.A4 2 q7.c4, .slice q7.A5 0 q7.c5, .int .i64 1] 40)))
  have H8 := Aside0.mk ((H8.out.below hb).below (below_alloc (Below.refl _ _) (.cells #[.int .i64 1, .slice p7.A1 2 p7.c1, .slice p7.A2 1 p7.c2, .slice p7.A3 0 p7.c3, .slice p7.A4 1 p7.c4, .int .i64 0, .int .i64 1, .slice q7.A2 4 q7.c2, .slice q7.A3 1 q7.c3, .slice q7.A4 2 q7.c4, .slice q7.A5 0 q7.c5, .int .i64 1] 40)))
  have S := Aside0.mk (((S.out.below hb).take [] 0 (by simp) (by decide) (by decide)).new 40 #[.int .i64 1, .slice p7.A1 2 p7.c1, .slice p7.A2 1 p7.c2, .slice p7.A3 0 p7.c3, .slice p7.A4 1 p7.c4, .int .i64 0, .int .i64 1, .slice q7.A2 4 q7.c2, .slice q7.A3 1 q7.c3, .slice q7.A4 2 q7.c4, .slice q7.A5 0 q7.c5, .int .i64 1])
  clear hb hp7 hq7 c0 c1 c2 c3 c4 HA
  go_upto_region 8 with (fail)
  generalize w9.heap.size = g9 at *
  generalize w9.alloc (.cells #[.int .i64 1, .slice p7.A1 2 p7.c1, .slice p7.A2 1 p7.c2, .slice p7.A3 0 p7.c3, .slice p7.A4 1 p7.c4, .int .i64 0, .int .i64 1, .slice q7.A2 4 q7.c2, .slice q7.A3 1 q7.c3, .slice q7.A4 2 q7.c4, .slice q7.A5 0 q7.c5, .int .i64 1] 40) = w10 at *
  go_upto_region 9 with (fail)
  have S := Aside0.mk ((((S.out.new 49 #[.int .i64 6, .int .i64 1, .int .i64 9, .int .i64 2]).new 51 #[.int .i64 6, .int .i64 2]).new 3 #[.int .i64 5]).new 26 #[.int .i64 1, .slice (some ⟨w10.heap.size, 0, none⟩) 2 2, .slice (some ⟨w10.heap.size + 1, 0, none⟩) 1 1, .slice none 0 0, .slice (some ⟨w10.heap.size + 1 + 1, 0, none⟩) 1 1])
  simp only [sz_alloc] at S
  have hb := Aside0.mk (below_alloc (below_alloc (below_alloc (below_alloc (Below.refl w10.heap.size w10) (.cells #[.int .i64 6, .int .i64 1, .int .i64 9, .int .i64 2] 49)) (.cells #[.int .i64 6, .int .i64 2] 51)) (.cells #[.int .i64 5] 3)) (.cells #[.int .i64 1, .slice (some ⟨w10.heap.size, 0, none⟩) 2 2, .slice (some ⟨w10.heap.size + 1, 0, none⟩) 1 1, .slice none 0 0, .slice (some ⟨w10.heap.size + 1 + 1, 0, none⟩) 1 1] 26))
  have HP := Aside0.mk (HP.out.below hb.out)
  have HQ := Aside0.mk (HQ.out.below hb.out)
  have H8 := Aside0.mk (H8.out.below hb.out)
  clear hb
  generalize w10.heap.size = gA at *
  obtain ⟨w11, hw11⟩ : ∃ W, (((w10.alloc (.cells #[.int .i64 6, .int .i64 1, .int .i64 9, .int .i64 2] 49)).alloc (.cells #[.int .i64 6, .int .i64 2] 51)).alloc (.cells #[.int .i64 5] 3)).alloc (.cells #[.int .i64 1, .slice (some ⟨gA, 0, none⟩) 2 2, .slice (some ⟨gA + 1, 0, none⟩) 1 1, .slice none 0 0, .slice (some ⟨gA + 1 + 1, 0, none⟩) 1 1] 26) = W := ⟨_, rfl⟩
  rw [hw11] at S HP HQ H8 ⊢
  clear hw11
  go_wp2_with fail
  refine (law28_alive _).mono ?_
  rintro e w12 ⟨rfl, hb⟩
  have HP := Aside0.mk (HP.out.below hb)
  have HQ := Aside0.mk (HQ.out.below hb)
  have H8 := Aside0.mk (H8.out.below hb)
  have S := Aside0.mk (S.out.below hb)
  clear hb
  go_wp2_with fail
  have SN := Aside0.mk (S.out.new 3 #[.int .i64 1, .int .i64 4, .int .i64 6, .int .i64 8])
  refine (same_ints _ _ [1, 4, 6, 8] _ _ _ (H8.out.below (below_alloc (Below.refl _ _) _)) (RS.ints (xs := [1, 4, 6, 8]) (SN.out.blk 0 rfl) (Nat.le_refl 4) (by decide))).mono ?_
  rintro e w13 ⟨rfl, hb0⟩
  have hb := (below_alloc (Below.refl w12.heap.size w12) (.cells #[.int .i64 1, .int .i64 4, .int .i64 6, .int .i64 8] 3)).trans (hb0.mono (by simp))
  have HP := Aside0.mk (HP.out.below hb)
  have HQ := Aside0.mk (HQ.out.below hb)
  have S := Aside0.mk (S.out.below hb)
  clear hb hb0 H8 SN
  have HA := Aside0.mk (show RC w13 ⟨some ⟨gA, 0, none⟩, 2, some ⟨gA + 1, 0, none⟩, 1, none, 0, some ⟨gA + 1 + 1, 0, none⟩, 1⟩ exW from ⟨RS.lats (xs := exW.f1) (S.out.blk 3 rfl) (Nat.le_refl 2) (by decide), RS.gats (xs := exW.f2) (S.out.blk 2 rfl) (Nat.le_refl 1) (by decide), RS.nil _ _ _, RS.ints (xs := [5]) (S.out.blk 1 rfl) (Nat.le_refl 1) (by decide)⟩)
  obtain ⟨c0, c1, c2, c3, c4⟩ := blk5 (S.out.blk 0 rfl)
  obtain ⟨u0, z0⟩ := S.out.cell 4 rfl 0 rfl
  obtain ⟨u1, z1⟩ := S.out.cell 4 rfl 1 rfl
  obtain ⟨u2, z2⟩ := S.out.cell 4 rfl 2 rfl
  obtain ⟨u3, z3⟩ := S.out.cell 4 rfl 3 rfl
  obtain ⟨u4, z4⟩ := S.out.cell 4 rfl 4 rfl
  go_wp2_with fail
  refine (show Calls _ _ #[cv p7 exW, cv ⟨some ⟨gA, 0, none⟩, 2, some ⟨gA + 1, 0, none⟩, 1, none, 0, some ⟨gA + 1 + 1, 0, none⟩, 1⟩ exW] _ _ from same_circ _ _ _ _ HP.out HA.out).mono ?_
  rintro e w14 ⟨rfl, hb⟩
  have HQ := Aside0.mk (HQ.out.below hb)
  have S := Aside0.mk (S.out.below hb)
  clear hb HP HA c0 c1 c2 c3 c4 u0 u1 u2 u3 u4 z0 z1 z2 z3 z4
  obtain ⟨u7, z7⟩ := S.out.cell 4 rfl 7 rfl
  go_wp2_with fail
  have SN := Aside0.mk (S.out.new 3 #[.int .i64 4, .int .i64 0, .int .i64 6, .int .i64 1])
  refine (same_ints _ _ [4, 0, 6, 1] _ _ _ (HQ.out.s2.below (below_alloc (Below.refl _ _) _)) (RS.ints (xs := [4, 0, 6, 1]) (SN.out.blk 0 rfl) (Nat.le_refl 4) (by decide))).mono ?_
  rintro e w15 ⟨rfl, hb0⟩
  have hb := (below_alloc (Below.refl w14.heap.size w14) (.cells #[.int .i64 4, .int .i64 0, .int .i64 6, .int .i64 1] 3)).trans (hb0.mono (by simp))
  have HQ := Aside0.mk (HQ.out.below hb)
  have S := Aside0.mk (S.out.below hb)
  clear hb hb0 SN u7 z7
  obtain ⟨u9, z9⟩ := S.out.cell 4 rfl 9 rfl
  go_wp2_with fail
  have SN := Aside0.mk (S.out.new 3 #[.int .i64 8, .int .i64 12])
  refine (same_ints _ _ [8, 12] _ _ _ (HQ.out.s4.below (below_alloc (Below.refl _ _) _)) (RS.ints (xs := [8, 12]) (SN.out.blk 0 rfl) (Nat.le_refl 2) (by decide))).mono ?_
  rintro e w16 ⟨rfl, hb0⟩
  have hb := (below_alloc (Below.refl w15.heap.size w15) (.cells #[.int .i64 8, .int .i64 12] 3)).trans (hb0.mono (by simp))
  have S := Aside0.mk (S.out.below hb)
  clear hb hb0 SN u9 z9 HQ
  obtain ⟨u5, z5⟩ := S.out.cell 4 rfl 5 rfl
  obtain ⟨u6, z6⟩ := S.out.cell 4 rfl 6 rfl
  go_wp2
  go_ret
  exact ⟨rfl, S.out.B⟩
end Go.Proofs.Ytiafojcbllbepaa.PH
