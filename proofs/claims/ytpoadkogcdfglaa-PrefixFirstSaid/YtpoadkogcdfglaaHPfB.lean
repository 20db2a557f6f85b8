/- prefix.Of at any arguments. -/
import Derived.Test.YtpoadkogcdfglaaHPfW
namespace Go.Proofs.Ytpoadkogcdfglaa.PH
open Go.RowKit Go.Proofs.YtpoadkogcdfglaaW.PrintWords Go.Proofs.YtpoadkogcdfglaaW.PrintLast
set_option linter.unusedVariables false
set_option linter.unusedSimpArgs false

set_option maxHeartbeats 4000000 in
set_option maxRecDepth 100000 in
theorem prefix_Of_bad (p : CP) (c : Circ) (k : Int) (w : World) (h : RC w p c) (hs : c.Fits) (hck : check c ≠ 0) :
    Calls Try.prog 10 #[cv p c, .int .i64 k] w fun e w' => RetRs w w' zeroRd (check c) e := by
  have HV := Aside0.mk (fun W (hb : Below w.heap.size w W) => gates_Check p c W (h.below hb) hs)
  have c1 : (check c != 0) = true := bne_iff_ne.mpr hck
  have hu26 := Try.underlying26
  have hu35 := Try.underlying35
  have HC := Aside0.mk hck
  have S0 := Aside0.mk (((Parts.start w).new 26 (fc5 p c)).new 35 zCells)
  rw [show (w.alloc (.cells (fc5 p c) 26)).heap.size = w.heap.size + 1 by simp] at S0
  clear h hs hck
  go_enter Try.func10, Try.ntmps10
  go_wp2_with fail
  refine (HV.out _ S0.out.B).mono ?_
  rintro e w1 ⟨rfl, hb1⟩
  have S1 := Aside0.mk (S0.out.below hb1)
  clear hb1
  have HW := Aside0.mk (S1.out.put12 0 rfl (.int .i64 0) (.slice none 0 0) (.slice none 0 0) (.slice none 0 0) (.slice none 0 0) (.int .i64 0) (.int .i64 0) (.slice none 0 0) (.slice none 0 0) (.slice none 0 0) (.slice none 0 0) (.int .i64 0))
  obtain ⟨r0, z0⟩ := S1.out.cell 0 rfl 0 rfl
  obtain ⟨r1, z1⟩ := S1.out.cell 0 rfl 1 rfl
  obtain ⟨r2, z2⟩ := S1.out.cell 0 rfl 2 rfl
  obtain ⟨r3, z3⟩ := S1.out.cell 0 rfl 3 rfl
  obtain ⟨r4, z4⟩ := S1.out.cell 0 rfl 4 rfl
  obtain ⟨r5, z5⟩ := S1.out.cell 0 rfl 5 rfl
  obtain ⟨r6, z6⟩ := S1.out.cell 0 rfl 6 rfl
  obtain ⟨r7, z7⟩ := S1.out.cell 0 rfl 7 rfl
  obtain ⟨r8, z8⟩ := S1.out.cell 0 rfl 8 rfl
  obtain ⟨r9, z9⟩ := S1.out.cell 0 rfl 9 rfl
  obtain ⟨r10, z10⟩ := S1.out.cell 0 rfl 10 rfl
  obtain ⟨r11, z11⟩ := S1.out.cell 0 rfl 11 rfl
  go_wp2
  refine bodyPost_ret (results_ct rfl _ _ (w.heap.size + 1) 35 zCells (0, 0) _ rfl (HW.out.blk 0 rfl) hu35 rfl (by kernel_rfl)) rfl ?_
  exact ⟨⟨none, 0, none, 0, none, 0, none, 0⟩, ⟨none, 0, none, 0, none, 0, none, 0⟩, rfl, fun W hW => ⟨⟨RS.nil _ _ _, RS.nil _ _ _, RS.nil _ _ _, RS.nil _ _ _⟩, ⟨RS.nil _ _ _, RS.nil _ _ _, RS.nil _ _ _, RS.nil _ _ _⟩⟩, HW.out.B⟩
set_option maxHeartbeats 4000000 in
set_option maxRecDepth 100000 in
theorem prefix_Of_arg (p : CP) (c : Circ) (k : Int) (w : World) (h : RC w p c) (hs : c.Fits) (hck : check c = 0) (hk : k < 1 ∨ 8 < k) :
    Calls Try.prog 10 #[cv p c, .int .i64 k] w fun e w' => RetRs w w' zeroRd 2 e := by
  have HV := Aside0.mk (fun W (hb : Below w.heap.size w W) => gates_Check p c W (h.below hb) hs)
  have hu26 := Try.underlying26
  have hu35 := Try.underlying35
  have HC := Aside0.mk hck
  have S0 := Aside0.mk (((Parts.start w).new 26 (fc5 p c)).new 35 zCells)
  rw [show (w.alloc (.cells (fc5 p c) 26)).heap.size = w.heap.size + 1 by simp] at S0
  clear h hs hck
  by_cases h2 : k < 1
  · have hb : decide (k < 1) = true := decide_eq_true h2
    clear hk h2
    go_enter Try.func10, Try.ntmps10
    go_wp2_with fail
    refine (HV.out _ S0.out.B).mono ?_
    rintro e w1 ⟨rfl, hb1⟩
    rw [HC.out]
    have S1 := Aside0.mk (S0.out.below hb1)
    clear hb1
    have HW := Aside0.mk (S1.out.put12 0 rfl (.int .i64 0) (.slice none 0 0) (.slice none 0 0) (.slice none 0 0) (.slice none 0 0) (.int .i64 0) (.int .i64 0) (.slice none 0 0) (.slice none 0 0) (.slice none 0 0) (.slice none 0 0) (.int .i64 0))
    obtain ⟨r0, z0⟩ := S1.out.cell 0 rfl 0 rfl
    obtain ⟨r1, z1⟩ := S1.out.cell 0 rfl 1 rfl
    obtain ⟨r2, z2⟩ := S1.out.cell 0 rfl 2 rfl
    obtain ⟨r3, z3⟩ := S1.out.cell 0 rfl 3 rfl
    obtain ⟨r4, z4⟩ := S1.out.cell 0 rfl 4 rfl
    obtain ⟨r5, z5⟩ := S1.out.cell 0 rfl 5 rfl
    obtain ⟨r6, z6⟩ := S1.out.cell 0 rfl 6 rfl
    obtain ⟨r7, z7⟩ := S1.out.cell 0 rfl 7 rfl
    obtain ⟨r8, z8⟩ := S1.out.cell 0 rfl 8 rfl
    obtain ⟨r9, z9⟩ := S1.out.cell 0 rfl 9 rfl
    obtain ⟨r10, z10⟩ := S1.out.cell 0 rfl 10 rfl
    obtain ⟨r11, z11⟩ := S1.out.cell 0 rfl 11 rfl
    go_wp2
    refine bodyPost_ret (results_ct rfl _ _ (w.heap.size + 1) 35 zCells (0, 0) _ rfl (HW.out.blk 0 rfl) hu35 rfl (by kernel_rfl)) rfl ?_
    exact ⟨⟨none, 0, none, 0, none, 0, none, 0⟩, ⟨none, 0, none, 0, none, 0, none, 0⟩, rfl, fun W hW => ⟨⟨RS.nil _ _ _, RS.nil _ _ _, RS.nil _ _ _, RS.nil _ _ _⟩, ⟨RS.nil _ _ _, RS.nil _ _ _, RS.nil _ _ _, RS.nil _ _ _⟩⟩, HW.out.B⟩
  · have hb : decide (k < 1) = false := decide_eq_false h2
    have hb2 : decide (8 < k) = true := decide_eq_true (by omega)
    clear hk h2
    go_enter Try.func10, Try.ntmps10
    go_wp2_with fail
    refine (HV.out _ S0.out.B).mono ?_
    rintro e w1 ⟨rfl, hb1⟩
    rw [HC.out]
    have S1 := Aside0.mk (S0.out.below hb1)
    clear hb1
    have HW := Aside0.mk (S1.out.put12 0 rfl (.int .i64 0) (.slice none 0 0) (.slice none 0 0) (.slice none 0 0) (.slice none 0 0) (.int .i64 0) (.int .i64 0) (.slice none 0 0) (.slice none 0 0) (.slice none 0 0) (.slice none 0 0) (.int .i64 0))
    obtain ⟨r0, z0⟩ := S1.out.cell 0 rfl 0 rfl
    obtain ⟨r1, z1⟩ := S1.out.cell 0 rfl 1 rfl
    obtain ⟨r2, z2⟩ := S1.out.cell 0 rfl 2 rfl
    obtain ⟨r3, z3⟩ := S1.out.cell 0 rfl 3 rfl
    obtain ⟨r4, z4⟩ := S1.out.cell 0 rfl 4 rfl
    obtain ⟨r5, z5⟩ := S1.out.cell 0 rfl 5 rfl
    obtain ⟨r6, z6⟩ := S1.out.cell 0 rfl 6 rfl
    obtain ⟨r7, z7⟩ := S1.out.cell 0 rfl 7 rfl
    obtain ⟨r8, z8⟩ := S1.out.cell 0 rfl 8 rfl
    obtain ⟨r9, z9⟩ := S1.out.cell 0 rfl 9 rfl
    obtain ⟨r10, z10⟩ := S1.out.cell 0 rfl 10 rfl
    obtain ⟨r11, z11⟩ := S1.out.cell 0 rfl 11 rfl
    go_wp2
    refine bodyPost_ret (results_ct rfl _ _ (w.heap.size + 1) 35 zCells (0, 0) _ rfl (HW.out.blk 0 rfl) hu35 rfl (by kernel_rfl)) rfl ?_
    exact ⟨⟨none, 0, none, 0, none, 0, none, 0⟩, ⟨none, 0, none, 0, none, 0, none, 0⟩, rfl, fun W hW => ⟨⟨RS.nil _ _ _, RS.nil _ _ _, RS.nil _ _ _, RS.nil _ _ _⟩, ⟨RS.nil _ _ _, RS.nil _ _ _, RS.nil _ _ _, RS.nil _ _ _⟩⟩, HW.out.B⟩
theorem prefix_Of (p : CP) (c : Circ) (k : Int) (w : World) (h : RC w p c) (hs : c.Fits) :
    Calls Try.prog 10 #[cv p c, .int .i64 k] w fun e w' => RetRs w w' (pfOf c k).1 (pfOf c k).2 e := by
  unfold pfOf
  by_cases hc : check c = 0
  · rw [if_pos hc]
    by_cases h2 : k < 1
    · rw [if_pos h2]; exact prefix_Of_arg p c k w h hs hc (.inl h2)
    rw [if_neg h2]
    by_cases h4 : 8 < k
    · rw [if_pos h4]; exact prefix_Of_arg p c k w h hs hc (.inr h4)
    rw [if_neg h4]
    obtain ⟨n, rfl⟩ : ∃ n : Nat, k = (n : Int) := ⟨k.toNat, by omega⟩
    rw [Int.toNat_natCast]
    exact prefix_Of_ok p c w h hs hc n (by omega) (by omega)
  · rw [if_neg hc]; exact prefix_Of_bad p c k w h hs hc
end Go.Proofs.Ytpoadkogcdfglaa.PH
