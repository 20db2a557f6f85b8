/- law28.alive. -/
import Derived.Test.YtiafojcbllbepaaHConeX
import Derived.Test.YtiafojcbllbepaaHLitRows
import Derived.Test.YtiafojcbllbepaaHLawPasses
namespace Go.Proofs.Ytiafojcbllbepaa.PH
open Go.RowKit Go.Proofs.YtiafojcbllbepaaW.PrintWords Go.Proofs.YtiafojcbllbepaaW.PrintLast
set_option linter.unusedVariables false
set_option linter.unusedSimpArgs false

def exA : Circ := ⟨2, [], [], [4], []⟩
def exB : Circ := ⟨2, [⟨2, 0⟩], [], [], []⟩
theorem exA_pass : passR exA = (⟨⟨1, [], [], [2], []⟩, ⟨0, 1, [], [[0, 2]], [], ⟨[], 1⟩⟩⟩, 0) := by
  have hi : Inside exA := inside_of (by decide)
  have hc : coneB exA = [false, false, true] := cone_cert hi _ [2] (by decide) (by decide) (by decide) (by decide)
  unfold passR
  rw [if_pos (by decide), hc]
  rfl
theorem exB_pass : passR exB = (⟨⟨0, [], [], [], []⟩, ⟨0, 1, [0], [[0, 0]], [], ⟨[], 1⟩⟩⟩, 0) := by
  have hi : Inside exB := inside_of (by decide)
  have hc : coneB exB = [false, false, false, false] := cone_cert hi _ [] (by decide) (by decide) (by decide) (by decide)
  unfold passR
  rw [if_pos (by decide), hc]
  rfl
theorem exA_fits : exA.Fits := ⟨by decide, by decide, ⟨by decide, by decide⟩, fun x hx => by simp [exA] at hx, fun x hx => by simp [exA] at hx, fun x hx => by simp [exA] at hx; subst hx; exact ⟨by decide, by decide⟩, fun x hx => by simp [exA] at hx⟩
theorem exB_fits : exB.Fits := ⟨by decide, by decide, ⟨by decide, by decide⟩, fun x hx => by simp [exB] at hx; subst hx; exact ⟨⟨by decide, by decide⟩, ⟨by decide, by decide⟩⟩, fun x hx => by simp [exB] at hx, fun x hx => by simp [exB] at hx, fun x hx => by simp [exB] at hx⟩
set_option maxHeartbeats 4000000 in
set_option maxRecDepth 100000 in
theorem law28_alive (w : World) : Calls Try.prog 17 #[] w fun e w' => e = .returned (.bool true) ∧ Below w.heap.size w w' := by
  have hu26 := Try.underlying26
  have hu40 := Try.underlying40
  have S0 := Aside0.mk ((Parts.start w).new 3 #[.int .i64 4])
  go_enter Try.func17, Try.ntmps17
  go_wp2_with fail
  have HA := Aside0.mk (show RC (w.alloc (.cells #[.int .i64 4] 3)) ⟨none, 0, none, 0, some ⟨w.heap.size, 0, none⟩, 1, none, 0⟩ exA from ⟨RS.nil _ _ _, RS.nil _ _ _, RS.one_int (Nat.le_refl _) (S0.out.cell 0 rfl 0 rfl).1, RS.nil _ _ _⟩)
  have C1 := Aside0.mk (cone_Pass _ exA _ HA.out exA_fits)
  rw [exA_pass] at C1
  refine C1.out.mono ?_
  clear C1
  rintro e w1 ⟨p1, q1, rfl, hp1, hq1, hb1⟩
  have S1 := Aside0.mk (((S0.out.below hb1).tail).new 40 #[.int .i64 1, .slice p1.A1 0 p1.c1, .slice p1.A2 0 p1.c2, .slice p1.A3 1 p1.c3, .slice p1.A4 0 p1.c4, .int .i64 0, .int .i64 1, .slice q1.A2 0 q1.c2, .slice q1.A3 1 q1.c3, .slice q1.A4 0 q1.c4, .slice q1.A5 0 q1.c5, .int .i64 1])
  have R1 := Aside0.mk (hp1.below (below_alloc (Below.refl _ _) (.cells #[.int .i64 1, .slice p1.A1 0 p1.c1, .slice p1.A2 0 p1.c2, .slice p1.A3 1 p1.c3, .slice p1.A4 0 p1.c4, .int .i64 0, .int .i64 1, .slice q1.A2 0 q1.c2, .slice q1.A3 1 q1.c3, .slice q1.A4 0 q1.c4, .slice q1.A5 0 q1.c5, .int .i64 1] 40)))
  have L1 := Aside0.mk (hq1.below (below_alloc (Below.refl _ _) (.cells #[.int .i64 1, .slice p1.A1 0 p1.c1, .slice p1.A2 0 p1.c2, .slice p1.A3 1 p1.c3, .slice p1.A4 0 p1.c4, .int .i64 0, .int .i64 1, .slice q1.A2 0 q1.c2, .slice q1.A3 1 q1.c3, .slice q1.A4 0 q1.c4, .slice q1.A5 0 q1.c5, .int .i64 1] 40)))
  clear hb1 hp1 hq1 S0 HA
  go_upto_region 2 with (fail)
  generalize w1.heap.size = g1 at *
  generalize w1.alloc (.cells #[.int .i64 1, .slice p1.A1 0 p1.c1, .slice p1.A2 0 p1.c2, .slice p1.A3 1 p1.c3, .slice p1.A4 0 p1.c4, .int .i64 0, .int .i64 1, .slice q1.A2 0 q1.c2, .slice q1.A3 1 q1.c3, .slice q1.A4 0 q1.c4, .slice q1.A5 0 q1.c5, .int .i64 1] 40) = w2 at *
  go_wp2_with fail
  have S2 := Aside0.mk (S1.out.new 49 #[.int .i64 2, .int .i64 0])
  have HA := Aside0.mk (show RC (w2.alloc (.cells #[.int .i64 2, .int .i64 0] 49)) ⟨some ⟨w2.heap.size, 0, none⟩, 1, none, 0, none, 0, none, 0⟩ exB from ⟨RS.lats (xs := [⟨2, 0⟩]) (S2.out.blk 0 rfl) (Nat.le_refl 1) (by decide), RS.nil _ _ _, RS.nil _ _ _, RS.nil _ _ _⟩)
  have C1 := Aside0.mk (cone_Pass _ exB _ HA.out exB_fits)
  rw [exB_pass] at C1
  refine C1.out.mono ?_
  clear C1
  rintro e w3 ⟨p3, q3, rfl, hp3, hq3, hb3⟩
  have S3 := Aside0.mk (((S2.out.below hb3).tail).new 40 #[.int .i64 0, .slice p3.A1 0 p3.c1, .slice p3.A2 0 p3.c2, .slice p3.A3 0 p3.c3, .slice p3.A4 0 p3.c4, .int .i64 0, .int .i64 1, .slice q3.A2 1 q3.c2, .slice q3.A3 1 q3.c3, .slice q3.A4 0 q3.c4, .slice q3.A5 0 q3.c5, .int .i64 1])
  have R3 := Aside0.mk (hp3.below (below_alloc (Below.refl _ _) (.cells #[.int .i64 0, .slice p3.A1 0 p3.c1, .slice p3.A2 0 p3.c2, .slice p3.A3 0 p3.c3, .slice p3.A4 0 p3.c4, .int .i64 0, .int .i64 1, .slice q3.A2 1 q3.c2, .slice q3.A3 1 q3.c3, .slice q3.A4 0 q3.c4, .slice q3.A5 0 q3.c5, .int .i64 1] 40)))
  have R1 := Aside0.mk ((R1.out.below (below_alloc (Below.refl _ _) (.cells #[.int .i64 2, .int .i64 0] 49))).below (below_alloc hb3 (.cells #[.int .i64 0, .slice p3.A1 0 p3.c1, .slice p3.A2 0 p3.c2, .slice p3.A3 0 p3.c3, .slice p3.A4 0 p3.c4, .int .i64 0, .int .i64 1, .slice q3.A2 1 q3.c2, .slice q3.A3 1 q3.c3, .slice q3.A4 0 q3.c4, .slice q3.A5 0 q3.c5, .int .i64 1] 40)))
  have L1 := Aside0.mk ((L1.out.below (below_alloc (Below.refl _ _) (.cells #[.int .i64 2, .int .i64 0] 49))).below (below_alloc hb3 (.cells #[.int .i64 0, .slice p3.A1 0 p3.c1, .slice p3.A2 0 p3.c2, .slice p3.A3 0 p3.c3, .slice p3.A4 0 p3.c4, .int .i64 0, .int .i64 1, .slice q3.A2 1 q3.c2, .slice q3.A3 1 q3.c3, .slice q3.A4 0 q3.c4, .slice q3.A5 0 q3.c5, .int .i64 1] 40)))
  clear hb3 hp3 hq3 S1 S2 HA
  go_upto_region 3 with (fail)
  generalize w3.heap.size = g3 at *
  generalize w3.alloc (.cells #[.int .i64 0, .slice p3.A1 0 p3.c1, .slice p3.A2 0 p3.c2, .slice p3.A3 0 p3.c3, .slice p3.A4 0 p3.c4, .int .i64 0, .int .i64 1, .slice q3.A2 1 q3.c2, .slice q3.A3 1 q3.c3, .slice q3.A4 0 q3.c4, .slice q3.A5 0 q3.c5, .int .i64 1] 40) = w4 at *
  obtain ⟨u0, z0⟩ := S3.out.cell 1 rfl 0 rfl
  obtain ⟨u1, z1⟩ := S3.out.cell 1 rfl 1 rfl
  obtain ⟨u2, z2⟩ := S3.out.cell 1 rfl 2 rfl
  obtain ⟨u3, z3⟩ := S3.out.cell 1 rfl 3 rfl
  obtain ⟨u4, z4⟩ := S3.out.cell 1 rfl 4 rfl
  go_wp2_with fail
  have S4 := Aside0.mk (S3.out.new 3 #[.int .i64 2])
  refine (show Calls _ _ #[cv p1 ⟨1, [], [], [2], []⟩, cv ⟨none, 0, none, 0, some ⟨w4.heap.size, 0, none⟩, 1, none, 0⟩ ⟨1, [], [], [2], []⟩] _ _ from same_circ p1 ⟨1, [], [], [2], []⟩ ⟨none, 0, none, 0, some ⟨w4.heap.size, 0, none⟩, 1, none, 0⟩ _ (R1.out.below (below_alloc (Below.refl _ _) _)) ⟨RS.nil _ _ _, RS.nil _ _ _, RS.ints (xs := [2]) (S4.out.blk 0 rfl) (Nat.le_refl 1) (by decide), RS.nil _ _ _⟩).mono ?_
  rintro e w5 ⟨rfl, hb5⟩
  have S5 := Aside0.mk ((S4.out.below hb5).tail)
  have R3 := Aside0.mk ((R3.out.below (below_alloc (Below.refl _ _) (.cells #[.int .i64 2] 3))).below hb5)
  have L1 := Aside0.mk ((L1.out.below (below_alloc (Below.refl _ _) (.cells #[.int .i64 2] 3))).below hb5)
  clear hb5 S3 S4 R1 u0 u1 u2 u3 u4 z0 z1 z2 z3 z4
  obtain ⟨u8, z8⟩ := S5.out.cell 1 rfl 8 rfl
  obtain ⟨ad, P, cp, e1, hx, hP⟩ := at_row L1.out.s3.r 0 (by decide)
  have HP := Aside0.mk hP
  obtain ⟨A2, k2, A3, k3, A4, k4, A5, k5⟩ := q1
  dsimp only at e1 u8
  cases e1
  have hx0 : w5.cell? ad = some (.slice P 2 cp) := by simpa [Addr.add] using hx
  clear hP hx L1
  go_wp2_with fail
  have S6 := Aside0.mk (S5.out.new 3 #[.int .i64 0, .int .i64 2])
  refine (same_ints _ _ [0, 2] _ _ _ (HP.out.below (below_alloc (Below.refl _ _) _)) (RS.ints (xs := [0, 2]) (S6.out.blk 0 rfl) (Nat.le_refl 2) (by decide))).mono ?_
  rintro e w6 ⟨rfl, hb6⟩
  have S7 := Aside0.mk ((S6.out.below hb6).tail)
  have R3 := Aside0.mk ((R3.out.below (below_alloc (Below.refl _ _) (.cells #[.int .i64 0, .int .i64 2] 3))).below hb6)
  clear hb6 S5 S6 HP u8 z8 hx0
  obtain ⟨u0, z0⟩ := S7.out.cell 0 rfl 0 rfl
  obtain ⟨u1, z1⟩ := S7.out.cell 0 rfl 1 rfl
  obtain ⟨u2, z2⟩ := S7.out.cell 0 rfl 2 rfl
  obtain ⟨u3, z3⟩ := S7.out.cell 0 rfl 3 rfl
  obtain ⟨u4, z4⟩ := S7.out.cell 0 rfl 4 rfl
  go_wp2_with fail
  refine (show Calls _ _ #[cv p3 ⟨0, [], [], [], []⟩, cv ⟨none, 0, none, 0, none, 0, none, 0⟩ ⟨0, [], [], [], []⟩] _ _ from same_circ p3 ⟨0, [], [], [], []⟩ ⟨none, 0, none, 0, none, 0, none, 0⟩ _ R3.out ⟨RS.nil _ _ _, RS.nil _ _ _, RS.nil _ _ _, RS.nil _ _ _⟩).mono ?_
  rintro e w7 ⟨rfl, hb7⟩
  have S8 := Aside0.mk (S7.out.below hb7)
  clear hb7
  go_wp2
  go_ret
  exact ⟨rfl, S8.out.B⟩
end Go.Proofs.Ytiafojcbllbepaa.PH
