/- ref32.Made, walked. -/
import Derived.Test.YtpoadkogcdfglaaHPfB
import Derived.Test.YtpoadkogcdfglaaHRefD
import Derived.Test.YtpoadkogcdfglaaHIdRef
namespace Go.Proofs.Ytpoadkogcdfglaa.PH
open Go.RowKit Go.Proofs.YtpoadkogcdfglaaW.PrintWords Go.Proofs.YtpoadkogcdfglaaW.PrintLast
set_option linter.unusedVariables false
set_option linter.unusedSimpArgs false

abbrev NB : Value × Value := (.slice none 0 0, .slice none 0 0)
def latV (inp i : Int) : Int := wrap64 (2 * wrap64 (wrap64 (inp + 1) + i))
set_option maxHeartbeats 2000000 in
set_option maxRecDepth 100000 in
theorem ref25_LatchV (inp : Int) (vL vA : Option Addr × Nat) (nL nA : Nat) (bs : Value × Value) (i : Int) (w : World) :
    Calls Try.prog 48 #[.agg (rCells inp vL vA nL nA bs), .int .i64 i] w fun e w' => e = .returned (.int .i64 (latV inp i)) ∧ Below w.heap.size w w' := by
  have hu26 := Try.underlying26
  unfold latV
  go_enter Try.func48, Try.ntmps48
  go_wp2
  go_ret
  exact ⟨rfl, below_alloc (Below.refl _ _) _⟩
theorem latV_eq {inp : Int} (h : 0 ≤ inp ∧ inp ≤ 100000) {i : Nat} (hi : i ≤ 100000) : latV inp (i : Int) = 2 * (inp + 1 + (i : Int)) := by
  unfold latV
  rw [wrap_in (x := inp + 1) (by omega) (by omega), wrap_in (x := inp + 1 + (i : Int)) (by omega) (by omega), wrap_in (by omega) (by omega)]
set_option maxHeartbeats 8000000 in
set_option maxRecDepth 100000 in
theorem ref32_Made (p : CP) (c : Circ) (w : World) (h : RC w p c) (hck : check c = 0) (k : Nat) (hk2 : 1 ≤ k) (hk4 : k ≤ 8) :
    Calls Try.prog 42 #[cv p c, .int .i64 (k : Int)] w fun e w' => RetRs w w' (pfDone c k).1 (pfDone c k).2 e := by
  have HH := Aside0.mk h
  have HB := Aside0.mk (cbnd_of hck)
  have HFI := Aside0.mk (cbnd_of hck).fin
  have HKK := Aside0.mk (And.intro hk2 hk4)
  have hu26 := Try.underlying26
  have hu127 := Try.underlying123
  have hu79 := Try.underlying45
  have hu31 := Try.underlying31
  have hu33 := Try.underlying33
  have hu35 := Try.underlying35
  have S0 := Aside0.mk (((Parts.start w).new 26 (fc5 p c)).new 35 zCells)
  rw [show (w.alloc (.cells (fc5 p c) 26)).heap.size = w.heap.size + 1 by simp] at S0
  have HSZ := Aside0.mk (show c.f1.length ≤ 1000 ∧ 0 ≤ c.f0 ∧ c.f0 ≤ 1000 by have h1 := HB.out.h0; have h2 := HB.out.n; omega)
  obtain ⟨inp, hinp⟩ : ∃ n : Int, ((k : Int) + 1) * c.f0 = n := ⟨_, rfl⟩
  have HIN := Aside0.mk hinp
  have HIB := Aside0.mk (show 0 ≤ inp ∧ inp ≤ 9000 by
    have h1 := HSZ.out; have h3 := HKK.out
    constructor
    · rw [← hinp]; exact Int.mul_nonneg (by omega) h1.2.1
    · rw [← hinp]; calc ((k : Int) + 1) * c.f0 ≤ 9 * c.f0 := Int.mul_le_mul_of_nonneg_right (by omega) h1.2.1
        _ ≤ 9000 := by omega)
  have hw0 : IntKind.i64.wrap ((k : Int) + 1) = (k : Int) + 1 := by have := HKK.out; exact wrap_i64 (by omega) (by omega)
  have hw : IntKind.i64.wrap (((k : Int) + 1) * c.f0) = inp := by rw [hinp]; exact wrap_i64 (by have := HIB.out; omega) (by have := HIB.out; omega)
  clear hinp h hck hk2 hk4
  go_enter Try.func42, Try.ntmps42
  go_upto_region 1 with (fail)
  generalize (w.alloc (.cells (fc5 p c) 26)).alloc (.cells zCells 35) = w1 at *
  refine start_ (n := 12) (S := (fun w' : World => Parts w.heap.size w w' [pB (w.heap.size + 1) 35 zCells, pB w.heap.size 26 (fc5 p c)])) (ds := [11]) #[false, false, false, false, false, false, false, false, false, false, false, false] (by kernel_rfl) rfl rfl S0.out.drew (fun hHeld => ?_)
  have S1 := Aside0.mk S0.out.drew
  clear S0
  generalize w1.drew = w2 at *
  refine pure_ (i := 0) (N := some 25) (v := ?_) (a' := ?_) #[true, false, false, false, false, false, false, false, false, false, false, false] rfl rfl (by kernel_rfl) (fun _ _ _ h => h) (Or.inl ⟨by rfl, ?_⟩) ?_ ?_
  rotate_left
  · intro w'
    go_simp
    with_reducible rfl
  rotate_left
  · simp only [Act.put, List.setIfInBounds_toArray, List.set_cons_zero, List.set_cons_succ]
    rfl
  refine pure_ (i := 1) (N := some 26) (v := ?_) (a' := ?_) #[true, true, false, false, false, false, false, false, false, false, false, false] rfl rfl (by kernel_rfl) (fun _ _ _ h => h) (Or.inl ⟨by rfl, ?_⟩) ?_ ?_
  rotate_left
  · intro w'
    go_simp
    with_reducible rfl
  rotate_left
  · simp only [Act.put, List.setIfInBounds_toArray, List.set_cons_zero, List.set_cons_succ]
    rfl
  refine pure_ (i := 2) (N := some 27) (v := ?_) (a' := ?_) #[true, true, true, false, false, false, false, false, false, false, false, false] rfl rfl (by kernel_rfl) (fun _ _ _ h => h) (Or.inl ⟨by rfl, ?_⟩) ?_ ?_
  rotate_left
  · intro w'
    go_simp
    with_reducible rfl
  rotate_left
  · simp only [Act.put, List.setIfInBounds_toArray, List.set_cons_zero, List.set_cons_succ]
    rfl
  refine take_ (i := 3) (N := some 28) (v := ?_) (a' := ?_) #[true, true, true, true, false, false, false, false, false, false, false, false] rfl rfl (by kernel_rfl) (fun _ _ _ h => h) (Or.inl ⟨by rfl, ?_⟩) hHeld ?_ ?_
  rotate_left
  · intro w' s0
    obtain ⟨c0, c1, c2, c3, c4⟩ := blk5 (s0.blk 1 rfl)
    go_simp
    with_reducible rfl
  rotate_left
  · simp only [Act.put, List.setIfInBounds_toArray, List.set_cons_zero, List.set_cons_succ]
    rfl
  refine pure_ (i := 4) (N := some 29) (v := ?_) (a' := ?_) #[true, true, true, true, true, false, false, false, false, false, false, false] rfl rfl (by kernel_rfl) (fun _ _ _ h => h) (Or.inl ⟨by rfl, ?_⟩) ?_ ?_
  rotate_left
  · intro w'
    go_simp
    with_reducible rfl
  rotate_left
  · simp only [Act.put, List.setIfInBounds_toArray, List.set_cons_zero, List.set_cons_succ]
    rfl
  refine pure_ (i := 6) (N := some 31) (v := ?_) (a' := ?_) #[true, true, true, true, true, false, true, false, false, false, false, false] rfl rfl (by kernel_rfl) (fun _ _ _ h => h) (Or.inl ⟨by rfl, ?_⟩) ?_ ?_
  rotate_left
  · intro w'
    go_simp
    with_reducible rfl
  rotate_left
  · simp only [Act.put, List.setIfInBounds_toArray, List.set_cons_zero, List.set_cons_succ]
    rfl
  refine take_ (i := 7) (N := some 32) (v := ?_) (a' := ?_) #[true, true, true, true, true, false, true, true, false, false, false, false] rfl rfl (by kernel_rfl) (fun _ _ _ h => h) (Or.inl ⟨by rfl, ?_⟩) hHeld ?_ ?_
  rotate_left
  · intro w' s0
    obtain ⟨c0, c1, c2, c3, c4⟩ := blk5 (s0.blk 1 rfl)
    go_simp
    with_reducible rfl
  rotate_left
  · simp only [Act.put, List.setIfInBounds_toArray, List.set_cons_zero, List.set_cons_succ]
    rfl
  refine join_ (fuel' := 1) #[true, true, true, true, true, true, true, true, true, true, true, false] (fun s : Nat × (Option Addr × Nat) × (Option Addr × Nat) => [(30, .slice s.2.1.1 0 s.2.1.2), (33, .slice s.2.2.1 c.f1.length s.2.2.2), (34, .agg #[.int .i64 inp, .slice s.2.2.1 c.f1.length s.2.2.2, .slice none 0 0, .slice none 0 0, .slice none 0 0]), (6, .pointer (some ⟨s.1, 0, none⟩))]) (fun s w' => Parts w.heap.size w w' (pF w.heap.size kLatch 45 (.slice s.2.2.1 c.f1.length s.2.2.2) c.f1 :: pB s.1 26 #[.int .i64 0, .slice none 0 0, .slice none 0 0, .slice none 0 0, .slice none 0 0] :: [pB (w.heap.size + 1) 35 zCells, pB w.heap.size 26 (fc5 p c)])) ?hcont ?hjoin
  case hjoin =>
    intro hcont
    refine two_ (i := 5) (j := 10) (Ni := some 30) (Nj := some 6) #[true, true, true, true, true, true, true, true, false, false, false, false] #[true, true, true, true, true, false, true, true, false, false, true, false] rfl rfl rfl rfl (by kernel_rfl) (by decide) (by decide) (fun K hK => ?_) (fun K hK => ?_)
    · skip
      refine Parts.litS S1.out kLatch 45 flat_latch (by rfl) rfl [] [] (by first | (go_simp; done) | (go_simp; rfl)) (Reps.none _ _) (by decide) ?_
      intro V3 cap3 w3 h3
      have S3 := Aside0.mk h3
      clear h3
      refine hK.out _ _ S3.out.tail (fun hHeld => ?_)
      clear hK K
      refine norm_ (a' := ?_) ?_ ?_
      rotate_left
      · show Act.put _ (some 30) _ = _
        simp only [Act.put, List.setIfInBounds_toArray, List.set_cons_zero, List.set_cons_succ]
        rfl
      refine two_ (i := 8) (j := 10) (Ni := some 33) (Nj := some 6) #[true, true, true, true, true, true, true, true, true, false, false, false] #[true, true, true, true, true, true, true, true, false, false, true, false] rfl rfl rfl rfl (by kernel_rfl) (by decide) (by decide) (fun K hK => ?_) (fun K hK => ?_)
      · skip
        refine Parts.appendRS S3.out 0 rfl flat_latch flatK_latch (by rfl) (.tmp 30) (.tmp 32) 22 (.agg #[.int .i64 0, .int .i64 0]) 16 rfl Try.underlying22 infoLatchB rfl (by decide) (by decide) c.f1 p.A1 p.c1 rfl rfl (HH.out.below S3.out.B).s1 (by have := HSZ.out; simp only [List.length_nil]; omega) ?_
        rw [List.nil_append, show ([] : List Latch).length + c.f1.length = c.f1.length by simp]
        intro V4 cap4 w4 h4
        have S4 := Aside0.mk h4
        clear h4
        refine hK.out _ _ S4.out.tail (fun hHeld => ?_)
        clear hK K
        refine norm_ (a' := ?_) ?_ ?_
        rotate_left
        · show Act.put _ (some 33) _ = _
          simp only [Act.put, List.setIfInBounds_toArray, List.set_cons_zero, List.set_cons_succ]
          rfl
        refine pure_ (i := 9) (N := some 34) (v := ?_) (a' := ?_) #[true, true, true, true, true, true, true, true, true, true, false, false] rfl rfl (by kernel_rfl) (fun _ _ _ h => h) (Or.inl ⟨by rfl, ?_⟩) ?_ ?_
        rotate_left
        · intro w'
          go_simp
          with_reducible rfl
        rotate_left
        · simp only [Act.put, List.setIfInBounds_toArray, List.set_cons_zero, List.set_cons_succ]
          rfl
        refine one_ (i := 10) (N := some 6) #[true, true, true, true, true, true, true, true, true, true, true, false] rfl rfl (by kernel_rfl) (by decide) (fun K hK => ?_)
        refine value_ (w1 := ?_) (v := ?_) (by rfl) rfl ?_ ?_
        rotate_left 2
        · go_simp
          constructor
          · rfl
          · rfl
        refine hK.out _ _ (S4.out.tail.alloc _) (fun hHeld => ?_)
        clear hK K
        refine norm_ (a' := ?_) ?_ ?_
        rotate_left
        · show Act.put _ (some 6) _ = _
          simp only [Act.put, List.setIfInBounds_toArray, List.set_cons_zero, List.set_cons_succ]
          rfl
        refine norm_ ?_ (hcont (w4.heap.size, (V3, cap3), (V4, cap4)) _ ((S4.out.new 26 #[.int .i64 0, .slice none 0 0, .slice none 0 0, .slice none 0 0, .slice none 0 0]).take [1, 0, 2, 3] 4 (by simp) (by decide) (by decide)))
        simp only [putAll, Act.put, List.setIfInBounds_toArray, List.set_cons_zero, List.set_cons_succ] <;> rfl
      · skip
        refine value_ (w1 := ?_) (v := ?_) (by rfl) rfl ?_ ?_
        rotate_left 2
        · go_simp
          constructor
          · rfl
          · rfl
        have S9 := Aside0.mk (S3.out.new 26 #[.int .i64 0, .slice none 0 0, .slice none 0 0, .slice none 0 0, .slice none 0 0])
        refine hK.out _ _ S9.out.tail.tail (fun hHeld => ?_)
        clear hK K
        refine norm_ (a' := ?_) ?_ ?_
        rotate_left
        · show Act.put _ (some 6) _ = _
          simp only [Act.put, List.setIfInBounds_toArray, List.set_cons_zero, List.set_cons_succ]
          rfl
        refine one_ (i := 8) (N := some 33) #[true, true, true, true, true, true, true, true, true, false, true, false] rfl rfl (by kernel_rfl) (by decide) (fun K hK => ?_)
        refine Parts.appendRS S9.out 1 rfl flat_latch flatK_latch (by rfl) (.tmp 30) (.tmp 32) 22 (.agg #[.int .i64 0, .int .i64 0]) 16 rfl Try.underlying22 infoLatchB rfl (by decide) (by decide) c.f1 p.A1 p.c1 rfl rfl (HH.out.below S9.out.B).s1 (by have := HSZ.out; simp only [List.length_nil]; omega) ?_
        rw [List.nil_append, show ([] : List Latch).length + c.f1.length = c.f1.length by simp]
        intro V4 cap4 w4 h4
        have S4 := Aside0.mk h4
        clear h4
        refine hK.out _ _ S4.out.tail.tail (fun hHeld => ?_)
        clear hK K
        refine norm_ (a' := ?_) ?_ ?_
        rotate_left
        · show Act.put _ (some 33) _ = _
          simp only [Act.put, List.setIfInBounds_toArray, List.set_cons_zero, List.set_cons_succ]
          rfl
        refine pure_ (i := 9) (N := some 34) (v := ?_) (a' := ?_) #[true, true, true, true, true, true, true, true, true, true, true, false] rfl rfl (by kernel_rfl) (fun _ _ _ h => h) (Or.inl ⟨by rfl, ?_⟩) ?_ ?_
        rotate_left
        · intro w'
          go_simp
          with_reducible rfl
        rotate_left
        · simp only [Act.put, List.setIfInBounds_toArray, List.set_cons_zero, List.set_cons_succ]
          rfl
        refine norm_ ?_ (hcont (w3.heap.size, (V3, cap3), (V4, cap4)) _ (S4.out.take [1, 0, 2, 3] 4 (by simp) (by decide) (by decide)))
        simp only [putAll, Act.put, List.setIfInBounds_toArray, List.set_cons_zero, List.set_cons_succ] <;> rfl
    · skip
      refine value_ (w1 := ?_) (v := ?_) (by rfl) rfl ?_ ?_
      rotate_left 2
      · go_simp
        constructor
        · rfl
        · rfl
      have S9 := Aside0.mk (S1.out.new 26 #[.int .i64 0, .slice none 0 0, .slice none 0 0, .slice none 0 0, .slice none 0 0])
      refine hK.out _ _ S9.out.tail (fun hHeld => ?_)
      clear hK K
      refine norm_ (a' := ?_) ?_ ?_
      rotate_left
      · show Act.put _ (some 6) _ = _
        simp only [Act.put, List.setIfInBounds_toArray, List.set_cons_zero, List.set_cons_succ]
        rfl
      refine one_ (i := 5) (N := some 30) #[true, true, true, true, true, true, true, true, false, false, true, false] rfl rfl (by kernel_rfl) (by decide) (fun K hK => ?_)
      refine Parts.litS S9.out kLatch 45 flat_latch (by rfl) rfl [] [] (by first | (go_simp; done) | (go_simp; rfl)) (Reps.none _ _) (by decide) ?_
      intro V3 cap3 w3 h3
      have S3 := Aside0.mk h3
      clear h3
      refine hK.out _ _ S3.out.tail.tail (fun hHeld => ?_)
      clear hK K
      refine norm_ (a' := ?_) ?_ ?_
      rotate_left
      · show Act.put _ (some 30) _ = _
        simp only [Act.put, List.setIfInBounds_toArray, List.set_cons_zero, List.set_cons_succ]
        rfl
      refine one_ (i := 8) (N := some 33) #[true, true, true, true, true, true, true, true, true, false, true, false] rfl rfl (by kernel_rfl) (by decide) (fun K hK => ?_)
      refine Parts.appendRS S3.out 0 rfl flat_latch flatK_latch (by rfl) (.tmp 30) (.tmp 32) 22 (.agg #[.int .i64 0, .int .i64 0]) 16 rfl Try.underlying22 infoLatchB rfl (by decide) (by decide) c.f1 p.A1 p.c1 rfl rfl (HH.out.below S3.out.B).s1 (by have := HSZ.out; simp only [List.length_nil]; omega) ?_
      rw [List.nil_append, show ([] : List Latch).length + c.f1.length = c.f1.length by simp]
      intro V4 cap4 w4 h4
      have S4 := Aside0.mk h4
      clear h4
      refine hK.out _ _ S4.out.tail.tail (fun hHeld => ?_)
      clear hK K
      refine norm_ (a' := ?_) ?_ ?_
      rotate_left
      · show Act.put _ (some 33) _ = _
        simp only [Act.put, List.setIfInBounds_toArray, List.set_cons_zero, List.set_cons_succ]
        rfl
      refine pure_ (i := 9) (N := some 34) (v := ?_) (a' := ?_) #[true, true, true, true, true, true, true, true, true, true, true, false] rfl rfl (by kernel_rfl) (fun _ _ _ h => h) (Or.inl ⟨by rfl, ?_⟩) ?_ ?_
      rotate_left
      · intro w'
        go_simp
        with_reducible rfl
      rotate_left
      · simp only [Act.put, List.setIfInBounds_toArray, List.set_cons_zero, List.set_cons_succ]
        rfl
      refine norm_ ?_ (hcont (w2.heap.size, (V3, cap3), (V4, cap4)) _ S4.out)
      simp only [putAll, Act.put, List.setIfInBounds_toArray, List.set_cons_zero, List.set_cons_succ] <;> rfl
  case hcont =>
    rintro ⟨gO, ⟨V3, cap3⟩, vM1, vM2⟩ w8 l8
    dsimp only at l8 ⊢
    have S8 := Aside0.mk l8
    clear l8 S1
    refine norm_ (a' := ?_) ?_ ?_
    rotate_left
    · simp only [putAll, Act.put, List.setIfInBounds_toArray, List.set_cons_zero, List.set_cons_succ]
      rfl
    obtain ⟨r0, z0⟩ := S8.out.cell 1 rfl 0 rfl
    obtain ⟨r1, z1⟩ := S8.out.cell 1 rfl 1 rfl
    obtain ⟨r2, z2⟩ := S8.out.cell 1 rfl 2 rfl
    obtain ⟨r3, z3⟩ := S8.out.cell 1 rfl 3 rfl
    obtain ⟨r4, z4⟩ := S8.out.cell 1 rfl 4 rfl
    refine last_ (i := 11) (N := none) #[true, true, true, true, true, true, true, true, true, true, true, true] rfl rfl (by kernel_rfl) (by decide) (fun K hK => ?_)
    refine skip_ (w1 := ?_) (by rfl) rfl ?_ ?_
    rotate_left
    · go_simp
      rfl
    refine hK.out _ _ ?_
    clear hK K
    refine done_ (by kernel_rfl) ?_
    have S9 := Aside0.mk (((((S8.out.put 1 rfl 0 (.int .i64 inp) rfl).put 1 rfl 1 (.slice vM1 c.f1.length vM2) rfl).put 1 rfl 2 (.slice none 0 0) rfl).put 1 rfl 3 (.slice none 0 0) rfl).put 1 rfl 4 (.slice none 0 0) rfl)
    clear S8 r0 z0 r1 z1 r2 z2 r3 z3 r4 z4 hw hw0 hHeld
    generalize ((((w8.setCell ⟨gO, 0, none⟩ (.int .i64 inp)).setCell ⟨gO, 1, none⟩ (.slice vM1 c.f1.length vM2)).setCell ⟨gO, 2, none⟩ (.slice none 0 0)).setCell ⟨gO, 3, none⟩ (.slice none 0 0)).setCell ⟨gO, 4, none⟩ (.slice none 0 0) = w9 at *
    have c1 : w9.cell? ⟨gO, 1, none⟩ = some (.slice vM1 c.f1.length vM2) := (S9.out.cell 1 rfl 1 rfl).1
    go_upto_region 3 with (first | (at_builtin; refine Parts.appendL S9.out 0 rfl flat_latch rfl (.tmp 36) (.tmp 38) 22 (.agg #[.int .i64 0, .int .i64 0]) 16 rfl Try.underlying22 infoLatchB rfl (by decide) (by decide) ⟨0, 1⟩ [.int .i64 0, .int .i64 1] rfl rfl (kLatch_mkM _ _ _ _) (by have := HSZ.out; omega) ?_; intro V9 cap9 w10 h10; obtain ⟨c8, f8⟩ := h10.cell 1 rfl 1 rfl; have S10 := Aside0.mk h10; clear h10) | fail)
    have S11 := Aside0.mk (show Parts w.heap.size w (w10.setCell ⟨gO, 1, none⟩ (.slice V9 (c.f1.length + 1) cap9)) (pF w.heap.size kLatch 45 (.slice V9 (c.f1.length + 1) cap9) (c.f1 ++ [⟨0, 1⟩]) :: pB gO 26 #[.int .i64 inp, .slice V9 (c.f1.length + 1) cap9, .slice none 0 0, .slice none 0 0, .slice none 0 0] :: [pB (w.heap.size + 1) 35 zCells, pB w.heap.size 26 (fc5 p c)]) from S10.out.put 1 rfl 1 (.slice V9 (c.f1.length + 1) cap9) rfl)
    clear c1 c8 f8 S9 S10
    generalize w10.setCell ⟨gO, 1, none⟩ (.slice V9 (c.f1.length + 1) cap9) = w11 at *
    obtain ⟨vL1, hvL⟩ : ∃ v, V9 = v := ⟨_, rfl⟩
    obtain ⟨vL2, hvK⟩ : ∃ v, cap9 = v := ⟨_, rfl⟩
    rw [hvL, hvK] at S11
    clear hvL hvK
    go_wp2_with fail
    refine (ref25_True _).mono ?_
    rintro e w12 ⟨rfl, hb⟩
    go_upto_region 6 with (fail)
    have S12 := Aside0.mk (show Parts w.heap.size w (w12.alloc (.cells #[.int .i64 (k : Int), .int .i64 1, .slice none 0 0, .slice none 0 0, .slice none 0 0, .slice none 0 0, .int .i64 1] 33)) (rPs w.heap.size gO inp (c.f1.length + 1) NB (vL1, vL2) (none, 0) [] ++ (pF w.heap.size (Kd.int .i64) 3 (.slice ((none, 0) : Option Addr × Nat).1 0 ((none, 0) : Option Addr × Nat).2) [] :: pF w.heap.size (Kd.int .i64) 3 (.slice ((none, 0) : Option Addr × Nat).1 0 ((none, 0) : Option Addr × Nat).2) [] :: (ePs w.heap.size w12.heap.size w.heap.size (w.heap.size + 1) k (fc5 p c) (vL1, vL2) (none, 0) (none, 0) (none, 0) (c.f1.length + 1) (c.f1 ++ [⟨0, 1⟩]) [] [] [] []))) from by
      have h1 := ((((((((S11.out.below hb).new 33 #[.int .i64 (k : Int), .int .i64 1, .slice none 0 0, .slice none 0 0, .slice none 0 0, .slice none 0 0, .int .i64 1]).nil kGate 92).nil (Kd.int .i64) 3).nil (Kd.int .i64) 3).nil (Kd.int .i64) 3).nil (Kd.int .i64) 3).nil kHead 24).inNil (Kd.int .i64) 3
      exact h1.take [9, 6, 5, 4, 8, 7, 3, 2, 1, 0, 11, 10] 12 (by simp) (by decide) (by decide))
    clear S11 hb
    generalize w12.heap.size = gU at *
    generalize w12.alloc (.cells #[.int .i64 (k : Int), .int .i64 1, .slice none 0 0, .slice none 0 0, .slice none 0 0, .slice none 0 0, .int .i64 1] 33) = w13 at *
    go_loopg [8, 9] c.f1.length (fun gg s8 s9 wr => ∃ (m : Nat) (vS vF vT : Option Addr × Nat), s8 = .slice vS.1 m vS.2 ∧ s9 = .int .i64 m ∧ Aside0 (m ≤ c.f1.length ∧ c.f1.length - m ≤ gg) ∧ Aside0 (Parts w.heap.size w wr (rPs w.heap.size gO inp (c.f1.length + 1) NB (vL1, vL2) (none, 0) [] ++ (pF w.heap.size (Kd.int .i64) 3 (.slice vS.1 m vS.2) (lasOf inp m) :: pF w.heap.size (Kd.int .i64) 3 (.slice ((none, 0) : Option Addr × Nat).1 0 ((none, 0) : Option Addr × Nat).2) [] :: (ePs w.heap.size gU w.heap.size (w.heap.size + 1) k (fc5 p c) (vL1, vL2) vF vT (none, 0) (c.f1.length + 1) (c.f1 ++ [⟨0, 1⟩]) (lasOf inp m) (lasOf c.f0 m) [] [])))))
    case atStart => exact ⟨0, (none, 0), (none, 0), (none, 0), rfl, rfl, ⟨by omega, by omega⟩, S12⟩
    case round =>
      clear S12
      obtain ⟨m, vS, vF, vT, rfl, rfl, HK, S⟩ := hrel
      have c1 : wr.cell? ⟨w.heap.size, 1, none⟩ = some (.slice p.A1 c.f1.length p.c1) := (S.out.cell 10 rfl 1 rfl).1
      by_cases hlt : m < c.f1.length
      · have HLT := Aside0.mk hlt
        have hlti : (m : Int) < (c.f1.length : Int) := by omega
        obtain ⟨y, hy⟩ : ∃ y : Int, 2 * (inp + 1 + (m : Int)) = y := ⟨_, rfl⟩
        have HY := Aside0.mk (show latV inp (m : Int) = y by rw [latV_eq (by have := HIB.out; omega) (by have := HSZ.out; omega), hy])
        have HSF := Aside0.mk (show lasOf inp (m + 1) = lasOf inp m ++ [y] by rw [lasOf_succ, hy])
        have HLF := Aside0.mk (show m = (lasOf inp m).length from (lasOf_len _ _).symm)
        obtain ⟨z, hz⟩ : ∃ y : Int, 2 * (c.f0 + 1 + (m : Int)) = y := ⟨_, rfl⟩
        have HZ := Aside0.mk (show latchOf c (m : Int) = z by
          have h2 := HSZ.out
          unfold latchOf
          rw [wrap_in (x := c.f0 + 1) (by omega) (by omega), wrap_in (x := c.f0 + 1 + (m : Int)) (by omega) (by omega), wrap_in (by omega) (by omega), hz])
        have HST := Aside0.mk (show lasOf c.f0 (m + 1) = lasOf c.f0 m ++ [z] by rw [lasOf_succ, hz])
        have HLG := Aside0.mk (show (lasOf c.f0 m).length = m from lasOf_len _ _)
        clear hy hz hlt
        generalize lasOf inp m = F at *
        generalize lasOf c.f0 m = T at *
        obtain ⟨o0, o1, o2, o3, o4⟩ := blk5 (S.out.blk 0 rfl)
        go_wp2_with fail
        refine (ref25_LatchV inp (vL1, vL2) (none, 0) (c.f1.length + 1) 0 NB (m : Int) _).mono ?_
        rintro e w12 ⟨rfl, hb⟩
        rw [HY.out]
        have S2 := Aside0.mk (show Parts w.heap.size w w12 (rPs w.heap.size gO inp (c.f1.length + 1) NB (vL1, vL2) (none, 0) [] ++ (pF w.heap.size (Kd.int .i64) 3 (.slice vS.1 F.length vS.2) F :: pF w.heap.size (Kd.int .i64) 3 (.slice ((none, 0) : Option Addr × Nat).1 0 ((none, 0) : Option Addr × Nat).2) [] :: (ePs w.heap.size gU w.heap.size (w.heap.size + 1) k (fc5 p c) (vL1, vL2) vF vT (none, 0) (c.f1.length + 1) (c.f1 ++ [⟨0, 1⟩]) F T [] []))) from by
          have h_ := S.out.below hb
          have hm := HLF.out
          have e1 : pF w.heap.size (Kd.int .i64) 3 (.slice vS.1 m vS.2) F = pF w.heap.size (Kd.int .i64) 3 (.slice vS.1 F.length vS.2) F := by rw [← hm]
          rw [e1] at h_
          exact h_)
        clear hb S o0 o1 o2 o3 o4 c1
        go_upto_region 9 with (first | (at_builtin; refine Parts.appendL S2.out 2 rfl flat_int rfl (.tmp 51) (.tmp 55) 24 (.int .i64 0) 8 rfl Try.underlying24 infoInt rfl (by decide) (by decide) y [.int .i64 y] (by have h_ := HLF.out; show Value.slice vS.1 m vS.2 = Value.slice vS.1 F.length vS.2; rw [← h_]) rfl rfl (by have := HLF.out; have := HLT.out; have := HSZ.out; omega) ?_; intro V5 cap5 w13 h13; have S13 := Aside0.mk h13; clear h13) | fail)
        clear S2
        have q := (⟨(S13.out.cell 5 rfl 2 rfl).1, blk5 (S13.out.blk 0 rfl)⟩ : _ ∧ _)
        refine start_ (n := 9) (S := (fun w' : World => w'.cell? ⟨gU, 2, none⟩ = some (.slice vF.1 F.length vF.2) ∧ w'.cell? ⟨gO, 0, none⟩ = some (.int .i64 inp) ∧ w'.cell? ⟨gO, 1, none⟩ = some (.slice vL1 (c.f1.length + 1) vL2) ∧ w'.cell? ⟨gO, 2, none⟩ = some (.slice none 0 0) ∧ w'.cell? ⟨gO, 3, none⟩ = some (.slice none 0 0) ∧ w'.cell? ⟨gO, 4, none⟩ = some (.slice none 0 0))) (ds := [8]) #[false, false, false, false, false, false, false, false, false] (by kernel_rfl) rfl rfl q (fun hHeld => ?_)
        clear q
        have S2 := Aside0.mk S13.out.drew
        clear S13
        generalize w13.drew = w14 at *
        refine pure_ (i := 0) (N := some 57) (v := ?_) (a' := ?_) #[true, false, false, false, false, false, false, false, false] rfl rfl (by kernel_rfl) (fun _ _ _ h => h) (Or.inl ⟨by rfl, ?_⟩) ?_ ?_
        rotate_left
        · intro w'
          go_simp
          with_reducible rfl
        rotate_left
        · simp only [Act.put, List.setIfInBounds_toArray, List.set_cons_zero, List.set_cons_succ]
          rfl
        refine take_ (i := 1) (N := some 58) (v := ?_) (a' := ?_) #[true, true, false, false, false, false, false, false, false] rfl rfl (by kernel_rfl) (fun _ _ _ h => h) (Or.inl ⟨by rfl, ?_⟩) hHeld ?_ ?_
        rotate_left
        · rintro w' ⟨s0, s1, s2, s3, s4, s5⟩
          go_simp
          with_reducible rfl
        rotate_left
        · simp only [Act.put, List.setIfInBounds_toArray, List.set_cons_zero, List.set_cons_succ]
          rfl
        refine take_ (i := 2) (N := some 59) (v := ?_) (a' := ?_) #[true, true, true, false, false, false, false, false, false] rfl rfl (by kernel_rfl) (fun _ _ _ h => h) (Or.inl ⟨by rfl, ?_⟩) hHeld ?_ ?_
        rotate_left
        · rintro w' ⟨s0, s1, s2, s3, s4, s5⟩
          go_simp
          with_reducible rfl
        rotate_left
        · simp only [Act.put, List.setIfInBounds_toArray, List.set_cons_zero, List.set_cons_succ]
          rfl
        refine pure_ (i := 3) (N := some 60) (v := ?_) (a' := ?_) #[true, true, true, true, false, false, false, false, false] rfl rfl (by kernel_rfl) (fun _ _ _ h => h) (Or.inl ⟨by rfl, ?_⟩) ?_ ?_
        rotate_left
        · intro w'
          go_simp
          with_reducible rfl
        rotate_left
        · simp only [Act.put, List.setIfInBounds_toArray, List.set_cons_zero, List.set_cons_succ]
          rfl
        refine one_ (i := 4) (N := some 61) #[true, true, true, true, true, false, false, false, false] rfl rfl (by kernel_rfl) (by decide) (fun K hK => ?_)
        refine goes_ Try.func48 (by kernel_rfl) rfl #[.agg (rCells inp (vL1, vL2) (none, 0) (c.f1.length + 1) 0 NB), .int .i64 (m : Int)] (by rfl) rfl rfl (by simp only [List.map_toArray, List.map_cons, List.map_nil] <;> rfl) ?_
        refine (ref25_LatchV inp (vL1, vL2) (none, 0) (c.f1.length + 1) 0 NB (m : Int) _).mono ?_
        rintro e w15 ⟨rfl, hb⟩
        refine ⟨_, rfl, ?_⟩
        rw [HY.out]
        have S3 := Aside0.mk (S2.out.below hb)
        clear hb S2
        refine hK.out _ _ ⟨(S3.out.cell 5 rfl 2 rfl).1, blk5 (S3.out.blk 0 rfl)⟩ (fun hHeld => ?_)
        clear hK K
        refine norm_ (a' := ?_) ?_ ?_
        rotate_left
        · show Act.put _ (some 61) _ = _
          simp only [Act.put, List.setIfInBounds_toArray, List.set_cons_zero, List.set_cons_succ]
          rfl
        refine one_ (i := 5) (N := some 62) #[true, true, true, true, true, true, false, false, false] rfl rfl (by kernel_rfl) (by decide) (fun K hK => ?_)
        refine value_ (w1 := ?_) (v := ?_) (by rfl) rfl ?_ ?_
        rotate_left 2
        · go_simp
          constructor
          · rfl
          · rfl
        refine hK.out _ _ ⟨(World.cell?_alloc_lt _ _ _ (World.block_lt_of_cell? _ _ hHeld.1)).trans hHeld.1, (World.cell?_alloc_lt _ _ _ (World.block_lt_of_cell? _ _ hHeld.2.1)).trans hHeld.2.1, (World.cell?_alloc_lt _ _ _ (World.block_lt_of_cell? _ _ hHeld.2.2.1)).trans hHeld.2.2.1, (World.cell?_alloc_lt _ _ _ (World.block_lt_of_cell? _ _ hHeld.2.2.2.1)).trans hHeld.2.2.2.1, (World.cell?_alloc_lt _ _ _ (World.block_lt_of_cell? _ _ hHeld.2.2.2.2.1)).trans hHeld.2.2.2.2.1, (World.cell?_alloc_lt _ _ _ (World.block_lt_of_cell? _ _ hHeld.2.2.2.2.2)).trans hHeld.2.2.2.2.2⟩ (fun hHeld => ?_)
        clear hK K
        refine norm_ (a' := ?_) ?_ ?_
        rotate_left
        · show Act.put _ (some 62) _ = _
          simp only [Act.put, List.setIfInBounds_toArray, List.set_cons_zero, List.set_cons_succ]
          rfl
        refine one_ (i := 6) (N := some 63) #[true, true, true, true, true, true, true, false, false] rfl rfl (by kernel_rfl) (by decide) (fun K hK => ?_)
        refine Parts.appendS S3.out 6 rfl flat_int (by rfl) (.tmp 58) (.tmp 62) 24 (.int .i64 0) 8 rfl Try.underlying24 infoInt rfl (by decide) (by decide) y [.int .i64 y] rfl rfl rfl (by have := HLF.out; have := HLT.out; have := HSZ.out; omega) ?_
        intro V6 cap6 w16 h16
        have S6 := Aside0.mk h16
        clear h16 S3
        refine hK.out _ _ ⟨(S6.out.cell 5 rfl 2 rfl).1, blk5 (S6.out.blk 0 rfl)⟩ (fun hHeld => ?_)
        clear hK K
        refine norm_ (a' := ?_) ?_ ?_
        rotate_left
        · show Act.put _ (some 63) _ = _
          simp only [Act.put, List.setIfInBounds_toArray, List.set_cons_zero, List.set_cons_succ]
          rfl
        obtain ⟨c0, f0⟩ := S6.out.cell 5 rfl 2 rfl
        refine pure_ (i := 7) (N := some 64) (v := ?_) (a' := ?_) #[true, true, true, true, true, true, true, true, false] rfl rfl (by kernel_rfl) (fun _ _ _ h => h) (Or.inl ⟨by rfl, ?_⟩) ?_ ?_
        rotate_left
        · intro w'
          go_simp
          with_reducible rfl
        rotate_left
        · simp only [Act.put, List.setIfInBounds_toArray, List.set_cons_zero, List.set_cons_succ]
          rfl
        refine last_ (i := 8) (N := none) #[true, true, true, true, true, true, true, true, true] rfl rfl (by kernel_rfl) (by decide) (fun K hK => ?_)
        refine skip_ (w1 := ?_) (by rfl) rfl ?_ ?_
        rotate_left
        · go_simp
          rfl
        refine hK.out _ _ ?_
        clear hK K
        refine done_ (by kernel_rfl) ?_
        have S7 := Aside0.mk (S6.out.put 5 rfl 2 (.slice V6 (F.length + 1) cap6) rfl)
        clear S6 c0 f0
        go_upto_region 10 with (fail)
        generalize w16.setCell ⟨gU, 2, none⟩ (.slice V6 (F.length + 1) cap6) = w17 at *
        have q := (⟨(S7.out.cell 5 rfl 4 rfl).1, blk5 (S7.out.blk 10 rfl)⟩ : _ ∧ _)
        refine start_ (n := 9) (S := (fun w' : World => w'.cell? ⟨gU, 4, none⟩ = some (.slice vT.1 T.length vT.2) ∧ w'.cell? ⟨w.heap.size, 0, none⟩ = some (.int .i64 c.f0) ∧ w'.cell? ⟨w.heap.size, 1, none⟩ = some (.slice p.A1 c.f1.length p.c1) ∧ w'.cell? ⟨w.heap.size, 2, none⟩ = some (.slice p.A2 c.f2.length p.c2) ∧ w'.cell? ⟨w.heap.size, 3, none⟩ = some (.slice p.A3 c.f3.length p.c3) ∧ w'.cell? ⟨w.heap.size, 4, none⟩ = some (.slice p.A4 c.f4.length p.c4))) (ds := [8]) #[false, false, false, false, false, false, false, false, false] (by kernel_rfl) rfl rfl q (fun hHeld => ?_)
        clear q
        have S2 := Aside0.mk S7.out.drew
        clear S7
        generalize w17.drew = w18 at *
        refine pure_ (i := 0) (N := some 65) (v := ?_) (a' := ?_) #[true, false, false, false, false, false, false, false, false] rfl rfl (by kernel_rfl) (fun _ _ _ h => h) (Or.inl ⟨by rfl, ?_⟩) ?_ ?_
        rotate_left
        · intro w'
          go_simp
          with_reducible rfl
        rotate_left
        · simp only [Act.put, List.setIfInBounds_toArray, List.set_cons_zero, List.set_cons_succ]
          rfl
        refine take_ (i := 1) (N := some 66) (v := ?_) (a' := ?_) #[true, true, false, false, false, false, false, false, false] rfl rfl (by kernel_rfl) (fun _ _ _ h => h) (Or.inl ⟨by rfl, ?_⟩) hHeld ?_ ?_
        rotate_left
        · rintro w' ⟨s0, s1, s2, s3, s4, s5⟩
          go_simp
          with_reducible rfl
        rotate_left
        · simp only [Act.put, List.setIfInBounds_toArray, List.set_cons_zero, List.set_cons_succ]
          rfl
        refine take_ (i := 2) (N := some 67) (v := ?_) (a' := ?_) #[true, true, true, false, false, false, false, false, false] rfl rfl (by kernel_rfl) (fun _ _ _ h => h) (Or.inl ⟨by rfl, ?_⟩) hHeld ?_ ?_
        rotate_left
        · rintro w' ⟨s0, s1, s2, s3, s4, s5⟩
          go_simp
          with_reducible rfl
        rotate_left
        · simp only [Act.put, List.setIfInBounds_toArray, List.set_cons_zero, List.set_cons_succ]
          rfl
        refine pure_ (i := 3) (N := some 68) (v := ?_) (a' := ?_) #[true, true, true, true, false, false, false, false, false] rfl rfl (by kernel_rfl) (fun _ _ _ h => h) (Or.inl ⟨by rfl, ?_⟩) ?_ ?_
        rotate_left
        · intro w'
          go_simp
          with_reducible rfl
        rotate_left
        · simp only [Act.put, List.setIfInBounds_toArray, List.set_cons_zero, List.set_cons_succ]
          rfl
        refine one_ (i := 4) (N := some 69) #[true, true, true, true, true, false, false, false, false] rfl rfl (by kernel_rfl) (by decide) (fun K hK => ?_)
        refine goes_ Try.func48 (by kernel_rfl) rfl #[cv p c, .int .i64 (m : Int)] (by rfl) rfl rfl (by simp only [List.map_toArray, List.map_cons, List.map_nil] <;> rfl) ?_
        refine (ref25_Latch p c (m : Int) _).mono ?_
        rintro e w19 ⟨rfl, hb⟩
        refine ⟨_, rfl, ?_⟩
        rw [HZ.out]
        have S3 := Aside0.mk (S2.out.below hb)
        clear hb S2
        refine hK.out _ _ ⟨(S3.out.cell 5 rfl 4 rfl).1, blk5 (S3.out.blk 10 rfl)⟩ (fun hHeld => ?_)
        clear hK K
        refine norm_ (a' := ?_) ?_ ?_
        rotate_left
        · show Act.put _ (some 69) _ = _
          simp only [Act.put, List.setIfInBounds_toArray, List.set_cons_zero, List.set_cons_succ]
          rfl
        refine one_ (i := 5) (N := some 70) #[true, true, true, true, true, true, false, false, false] rfl rfl (by kernel_rfl) (by decide) (fun K hK => ?_)
        refine value_ (w1 := ?_) (v := ?_) (by rfl) rfl ?_ ?_
        rotate_left 2
        · go_simp
          constructor
          · rfl
          · rfl
        refine hK.out _ _ ⟨(World.cell?_alloc_lt _ _ _ (World.block_lt_of_cell? _ _ hHeld.1)).trans hHeld.1, (World.cell?_alloc_lt _ _ _ (World.block_lt_of_cell? _ _ hHeld.2.1)).trans hHeld.2.1, (World.cell?_alloc_lt _ _ _ (World.block_lt_of_cell? _ _ hHeld.2.2.1)).trans hHeld.2.2.1, (World.cell?_alloc_lt _ _ _ (World.block_lt_of_cell? _ _ hHeld.2.2.2.1)).trans hHeld.2.2.2.1, (World.cell?_alloc_lt _ _ _ (World.block_lt_of_cell? _ _ hHeld.2.2.2.2.1)).trans hHeld.2.2.2.2.1, (World.cell?_alloc_lt _ _ _ (World.block_lt_of_cell? _ _ hHeld.2.2.2.2.2)).trans hHeld.2.2.2.2.2⟩ (fun hHeld => ?_)
        clear hK K
        refine norm_ (a' := ?_) ?_ ?_
        rotate_left
        · show Act.put _ (some 70) _ = _
          simp only [Act.put, List.setIfInBounds_toArray, List.set_cons_zero, List.set_cons_succ]
          rfl
        refine one_ (i := 6) (N := some 71) #[true, true, true, true, true, true, true, false, false] rfl rfl (by kernel_rfl) (by decide) (fun K hK => ?_)
        refine Parts.appendS S3.out 7 rfl flat_int (by rfl) (.tmp 66) (.tmp 70) 24 (.int .i64 0) 8 rfl Try.underlying24 infoInt rfl (by decide) (by decide) z [.int .i64 z] rfl rfl rfl (by have := HLG.out; have := HLT.out; have := HSZ.out; omega) ?_
        intro V7 cap7 w20 h20
        have S6 := Aside0.mk h20
        clear h20 S3
        refine hK.out _ _ ⟨(S6.out.cell 5 rfl 4 rfl).1, blk5 (S6.out.blk 10 rfl)⟩ (fun hHeld => ?_)
        clear hK K
        refine norm_ (a' := ?_) ?_ ?_
        rotate_left
        · show Act.put _ (some 71) _ = _
          simp only [Act.put, List.setIfInBounds_toArray, List.set_cons_zero, List.set_cons_succ]
          rfl
        obtain ⟨c0, f0⟩ := S6.out.cell 5 rfl 4 rfl
        refine pure_ (i := 7) (N := some 72) (v := ?_) (a' := ?_) #[true, true, true, true, true, true, true, true, false] rfl rfl (by kernel_rfl) (fun _ _ _ h => h) (Or.inl ⟨by rfl, ?_⟩) ?_ ?_
        rotate_left
        · intro w'
          go_simp
          with_reducible rfl
        rotate_left
        · simp only [Act.put, List.setIfInBounds_toArray, List.set_cons_zero, List.set_cons_succ]
          rfl
        refine last_ (i := 8) (N := none) #[true, true, true, true, true, true, true, true, true] rfl rfl (by kernel_rfl) (by decide) (fun K hK => ?_)
        refine skip_ (w1 := ?_) (by rfl) rfl ?_ ?_
        rotate_left
        · go_simp
          rfl
        refine hK.out _ _ ?_
        clear hK K
        refine done_ (by kernel_rfl) ?_
        have S7 := Aside0.mk (S6.out.put 5 rfl 4 (.slice V7 (T.length + 1) cap7) rfl)
        clear S6 c0 f0
        go_wp2
        go_roundg (c.f1.length - (m + 1))
        case measure => have := HK.out; have := HLT.out; omega
        case rel =>
          have hm := HLF.out
          exact ⟨m + 1, (V5, cap5), (V6, cap6), (V7, cap7), (by rw [← hm]), (by first | exact val_step HLT.out (by have := HSZ.out; omega) | exact congrArg (Value.int .i64) (by omega)), ⟨HLT.out, by have := HK.out; omega⟩, ⟨by
            rw [HSF.out, HST.out]
            have e1 : (F ++ [y]).length = F.length + 1 := by simp
            have e2 : (T ++ [z]).length = T.length + 1 := by simp
            rw [show m + 1 = F.length + 1 by rw [← hm]]
            unfold ePs
            rw [e1, e2]
            exact S7.out⟩⟩
      · have hk : m = c.f1.length := by have := HK.out; omega
        subst hk
        clear hlt HK
        have HF0 := Aside0.mk (show lasOf inp c.f1.length = (ph0 inp c).state ∧ (lasOf inp c.f1.length).length = c.f1.length from ⟨rfl, lasOf_len _ _⟩)
        have HT0 := Aside0.mk (show (lasOf c.f0 c.f1.length).length = c.f1.length from lasOf_len _ _)
        obtain ⟨F, hF⟩ : ∃ F, lasOf inp c.f1.length = F := ⟨_, rfl⟩
        obtain ⟨T0, hT⟩ : ∃ T, lasOf c.f0 c.f1.length = T := ⟨_, rfl⟩
        rw [hF] at HF0
        rw [hT] at HT0
        rw [hF, hT] at S
        have HFT := Aside0.mk (And.intro hF hT)
        clear hF hT
        obtain ⟨c4, f4⟩ := S.out.cell 5 rfl 4 rfl
        go_upto_region 12 with (first | (at_builtin; refine Parts.appendL S.out 7 rfl flat_int rfl (.tmp 74) (.tmp 75) 24 (.int .i64 0) 8 rfl Try.underlying24 infoInt rfl (by decide) (by decide) (-1) [.int .i64 (-1)] rfl rfl rfl (by have h1 := HT0.out; have h5 := HSZ.out; omega) ?_; intro V8 cap8 w8 h8; obtain ⟨c8, f8⟩ := h8.cell 5 rfl 4 rfl; have S8 := Aside0.mk h8; clear h8) | fail)
        have S9 := Aside0.mk (show Parts w.heap.size w (w8.setCell ⟨gU, 4, none⟩ (.slice V8 (T0.length + 1) cap8)) (rPs w.heap.size gO inp (c.f1.length + 1) NB (vL1, vL2) (none, 0) [] ++ (pF w.heap.size (Kd.int .i64) 3 (.slice vS.1 c.f1.length vS.2) F :: pF w.heap.size (Kd.int .i64) 3 (.slice ((none, 0) : Option Addr × Nat).1 0 ((none, 0) : Option Addr × Nat).2) [] :: (ePs w.heap.size gU w.heap.size (w.heap.size + 1) k (fc5 p c) (vL1, vL2) vF (V8, cap8) (none, 0) (c.f1.length + 1) (c.f1 ++ [⟨0, 1⟩]) F (T0 ++ [-1]) [] []))) from by
          have h_ := S8.out.put 5 rfl 4 (.slice V8 (T0.length + 1) cap8) rfl
          have e1 : (T0 ++ [-1]).length = T0.length + 1 := by simp
          unfold ePs
          rw [e1]
          exact h_)
        clear S8 c8 f8 c4 f4 S c1
        generalize w8.setCell ⟨gU, 4, none⟩ (.slice V8 (T0.length + 1) cap8) = w9 at *
        obtain ⟨T, hT⟩ : ∃ T, T0 ++ [-1] = T := ⟨_, rfl⟩
        rw [hT] at S9
        have HTT := Aside0.mk (show lasOf c.f0 c.f1.length ++ [-1] = T by rw [HFT.out.2, hT])
        clear hT
        obtain ⟨vT, hvT⟩ : ∃ v : Option Addr × Nat, (V8, cap8) = v := ⟨_, rfl⟩
        rw [hvT] at S9
        clear hvT
        have HN0 := Aside0.mk (show 0 ≤ inp + ((c.f1.length + 1 : Nat) : Int) ∧ inp + ((c.f1.length + 1 : Nat) : Int) ≤ 200000 by have := HIB.out; have := HSZ.out; omega)
        have HP0 := Aside0.mk (ph0_ok (x := inp) (c := c) HIB.out.1 (by have := HIB.out; omega) HSZ.out.1)
        have HFR := Aside0.mk (fun (j : Nat) (hj : j < k) => show 0 ≤ pfFr c j ∧ pfFr c j ≤ 10000 from by
          have h1 := HSZ.out; have h3 := HKK.out
          have h4 : 0 ≤ ((j : Int) + 1) * c.f0 := Int.mul_nonneg (by omega) h1.2.1
          have h5 : ((j : Int) + 1) * c.f0 ≤ 8 * 1000 := calc ((j : Int) + 1) * c.f0 ≤ 8 * c.f0 := Int.mul_le_mul_of_nonneg_right (by omega) h1.2.1
            _ ≤ 8 * 1000 := by omega
          unfold pfFr; omega)
        have HPK := Aside0.mk (fun (j : Nat) (hj : j ≤ k) => PhOk.run HN0.out.1 HN0.out.2 HFI.out HP0.out (fr := pfFr c) j (by have := HKK.out; omega) (fun i hi => HFR.out i (by omega)))
        have HFL := Aside0.mk (show LB (pfFlag inp c) by have h1 := HIB.out; have h2 := HSZ.out; unfold pfFlag; exact ⟨by omega, by omega⟩)
        have HFV := Aside0.mk (show latV inp (c.f1.length : Int) = pfFlag inp c from latV_eq (by have := HIB.out; omega) (by have := HSZ.out; omega))
        obtain ⟨flag, hflag⟩ : ∃ x, pfFlag inp c = x := ⟨_, rfl⟩
        rw [hflag] at HFV HFL
        have HFG := Aside0.mk hflag
        clear hflag
        obtain ⟨o0, o1, o2, o3, o4⟩ := blk5 (S9.out.blk 0 rfl)
        have c1 : w9.cell? ⟨w.heap.size, 1, none⟩ = some (.slice p.A1 c.f1.length p.c1) := (S9.out.cell 10 rfl 1 rfl).1
        go_wp2_with fail
        refine (ref25_LatchV inp (vL1, vL2) (none, 0) (c.f1.length + 1) 0 NB (c.f1.length : Int) _).mono ?_
        rintro e w10 ⟨rfl, hb⟩
        rw [HFV.out]
        have S10 := Aside0.mk (S9.out.below hb)
        clear hb S9 o0 o1 o2 o3 o4 c1
        go_wp2
        go_loopg [8, 11, 12, 13] (k + 1) (fun gg s8 s11 s12 s13 wr => ∃ (j : Nat) (s : Ph) (rows : List (List Int)) (vA vS vH vI : Option Addr × Nat) (hs : List HeadR), s8 = .slice vS.1 c.f1.length vS.2 ∧ s11 = .int .i64 s.sofar ∧ s12 = .slice vH.1 s.hopes.length vH.2 ∧ s13 = .int .i64 j ∧ Aside0 (j ≤ k + 1 ∧ k + 1 - j ≤ gg) ∧ Aside0 (phRun (inp + (c.f1.length + 1 : Nat)) c (pfFr c) (ph0 inp c) (min j k) = s) ∧ Aside0 (rows = if j ≤ k then phRows c (pfFr c) j else (phRows c (pfFr c) k ++ [bIns 1 c.f0.toNat])) ∧
          Aside0 (Parts w.heap.size w wr (rPs w.heap.size gO inp (c.f1.length + 1) NB (vL1, vL2) vA s.ands ++ (pF w.heap.size (Kd.int .i64) 3 (.slice vS.1 c.f1.length vS.2) s.state :: pF w.heap.size (Kd.int .i64) 3 (.slice vH.1 s.hopes.length vH.2) s.hopes :: (ePs w.heap.size gU w.heap.size (w.heap.size + 1) k (fc5 p c) (vL1, vL2) vF vT vI (c.f1.length + 1) (c.f1 ++ [⟨0, 1⟩]) F T hs rows)))))
        case atStart => exact ⟨0, ph0 inp c, [], (none, 0), vS, (none, 0), (none, 0), [], rfl, rfl, rfl, rfl, ⟨by omega, by omega⟩, ⟨by rw [Nat.zero_min]; rfl⟩, ⟨by rw [if_pos (Nat.zero_le _)]; rfl⟩, ⟨by rw [← HF0.out.1]; exact S10.out⟩⟩
        case round =>
          clear S10
          obtain ⟨j, s, rows, vA, vS, vH, vI, hs, rfl, rfl, rfl, rfl, HK, HE, HRR, S⟩ := hrel
          have HPS := Aside0.mk (HPK.out (min j k) (Nat.min_le_right _ _))
          rw [HE.out] at HPS
          have HRL := Aside0.mk (show rows.length ≤ 20 by
            have h1 := HKK.out; have h2 := HK.out
            rw [HRR.out]
            split
            · unfold phRows; rw [List.length_map, List.length_range]; omega
            · rw [List.length_append]; unfold phRows; rw [List.length_map, List.length_range]; simp only [List.length_singleton]; omega)
          by_cases hlt : j < k
          · have HLT := Aside0.mk hlt
            have hlti : decide ((j : Int) < (k : Int)) = true := decide_eq_true (by omega)
            have hle : decide ((j : Int) ≤ (k : Int)) = true := decide_eq_true (by omega)
            have hltn : decide (j < k) = true := decide_eq_true hlt
            have hlen : decide (j ≤ k) = true := decide_eq_true (by omega)
            have hj1 : min j k = j := by omega
            rw [hj1] at HE HPS
            clear hj1
            obtain ⟨fr, hfr⟩ : ∃ x, pfFr c j = x := ⟨_, rfl⟩
            have HFB := Aside0.mk (HFR.out j hlt)
            rw [hfr] at HFB
            have HFE := Aside0.mk hfr
            have hwf : wrap64 (1 + wrap64 (wrap64 ((j : Int) + 1) * c.f0)) = fr := by
              have h0 := HFB.out; have h1 := HKK.out
              unfold pfFr at hfr
              rw [wrap_in (x := (j : Int) + 1) (by omega) (by omega), wrap_in (x := ((j : Int) + 1) * c.f0) (by omega) (by omega), wrap_in (by omega) (by omega), hfr]
            have c0 : wr.cell? ⟨w.heap.size, 0, none⟩ = some (.int .i64 c.f0) := (S.out.cell 10 rfl 0 rfl).1
            clear hlt hfr
            have S1 := Aside0.mk (S.out.nil (Kd.int .i64) 3)
            clear S
            go_upto_region 23 with (fail)
            rw [hwf]
            clear hwf c0
            obtain ⟨ni, hni⟩ : ∃ n : Nat, c.f0 = (n : Int) := ⟨c.f0.toNat, by have := HSZ.out; omega⟩
            have HNI := Aside0.mk (show c.f0.toNat = ni ∧ ni ≤ 1000 by have := HSZ.out; omega)
            have HNJ := Aside0.mk hni
            clear hni
            go_loopg [15, 16] ni (fun gg s15 s16 wr => ∃ (i : Nat) (V : Option Addr) (cV : Nat), s15 = .slice V i cV ∧ s16 = .int .i64 i ∧ Aside0 (i ≤ ni ∧ ni - i ≤ gg) ∧ Aside0 (Parts w.heap.size w wr (pF w.heap.size (Kd.int .i64) 3 (.slice V i cV) (bIns fr i) :: (rPs w.heap.size gO inp (c.f1.length + 1) NB (vL1, vL2) vA s.ands ++ (pF w.heap.size (Kd.int .i64) 3 (.slice vS.1 c.f1.length vS.2) s.state :: pF w.heap.size (Kd.int .i64) 3 (.slice vH.1 s.hopes.length vH.2) s.hopes :: (ePs w.heap.size gU w.heap.size (w.heap.size + 1) k (fc5 p c) (vL1, vL2) vF vT vI (c.f1.length + 1) (c.f1 ++ [⟨0, 1⟩]) F T hs rows))))))
            case atStart => exact ⟨0, none, 0, rfl, rfl, ⟨by omega, by omega⟩, S1⟩
            case round =>
              clear S1
              obtain ⟨i, V, cV, rfl, rfl, HKI, S⟩ := hrel
              have c0 : wr.cell? ⟨w.heap.size, 0, none⟩ = some (.int .i64 c.f0) := (S.out.cell 11 rfl 0 rfl).1
              by_cases hlt : i < ni
              · have HLI := Aside0.mk hlt
                have hd : decide ((i : Int) < c.f0) = true := decide_eq_true (by have := HNJ.out; omega)
                obtain ⟨x, hx⟩ : ∃ x : Int, 2 * (fr + (i : Int)) = x := ⟨_, rfl⟩
                have hw : wrap64 (2 * wrap64 (fr + (i : Int))) = x := by
                  have h1 := HFB.out; have h2 := HNI.out
                  rw [wrap_in (x := fr + (i : Int)) (by omega) (by omega), wrap_in (by omega) (by omega), hx]
                have HST := Aside0.mk (show bIns fr (i + 1) = bIns fr i ++ [x] by rw [bIns_succ, ← hx])
                have HLN := Aside0.mk (show i = (bIns fr i).length by rw [bIns_len])
                clear hx hlt
                generalize bIns fr i = ys at *
                go_wp2_with (first | (at_builtin; refine Parts.appendL S.out 0 rfl flat_int rfl (.tmp 103) (.tmp 108) 24 (.int .i64 0) 8 rfl Try.underlying24 infoInt rfl (by decide) (by decide) x [.int .i64 x] rfl (by rw [hw]; rfl) rfl (by have := HNI.out; have := HLI.out; have := HLN.out; omega) ?_; intro V2 cap2 w8 h8; have S8 := Aside0.mk h8; clear h8))
                have hys := HLN.out
                go_roundg (ni - (i + 1))
                case measure => have := HKI.out; have := HLI.out; omega
                case rel => exact ⟨i + 1, V2, cap2, (by rw [hys]), (by first | exact val_step HLI.out (by have := HNI.out; omega) | exact congrArg (Value.int .i64) (by omega)), ⟨HLI.out, by have := HKI.out; omega⟩, ⟨by rw [HST.out, hys]; exact S8.out⟩⟩
              · have hk : i = ni := by have := HKI.out; omega
                subst hk
                have hd : decide ((i : Int) < c.f0) = false := decide_eq_false (by have := HNJ.out; omega)
                clear hlt HKI
                have HLN := Aside0.mk (show i = (bIns fr i).length by rw [bIns_len])
                have HRW := Aside0.mk (show rows ++ [bIns fr c.f0.toNat] = rows ++ [bIns fr i] by rw [HNI.out.1])
                have HHS := Aside0.mk (show hs.length ≤ 20 by rw [S.out.inLen 10 rfl]; exact HRL.out)
                generalize bIns fr i = row at *
                have hlr := HLN.out
                clear HLN
                subst hlr
                obtain ⟨c3, f3⟩ := S.out.cell 6 rfl 3 rfl
                go_upto_region 27 with (first | (at_builtin; refine Parts.appendL S.out 9 rfl flat_head rfl (.tmp 111) (.tmp 113) 29 (.slice none 0 0) 24 rfl Try.underlying29 infoRow rfl (by decide) (by decide) (V, row.length, cV) [.slice V row.length cV] rfl rfl rfl (by have := HHS.out; omega) ?_; intro V2 cap2 w8 h8; obtain ⟨c8, f8⟩ := h8.cell 6 rfl 3 rfl; have S8 := Aside0.mk h8; clear h8) | fail)
                have S9 := Aside0.mk ((S8.out.put 6 rfl 3 (.slice V2 (hs.length + 1) cap2) rfl).inAdd 0 10 (by decide) rfl rfl)
                generalize w8.setCell ⟨gU, 3, none⟩ (.slice V2 (hs.length + 1) cap2) = w9 at *
                clear c8 f8 S8 c3 f3 S c0 hd
                have S10 := Aside0.mk (show Parts w.heap.size w w9 (rPs w.heap.size gO inp (c.f1.length + 1) NB (vL1, vL2) vA s.ands ++ (pF w.heap.size (Kd.int .i64) 3 (.slice vS.1 c.f1.length vS.2) s.state :: pF w.heap.size (Kd.int .i64) 3 (.slice vH.1 s.hopes.length vH.2) s.hopes :: (ePs w.heap.size gU w.heap.size (w.heap.size + 1) k (fc5 p c) (vL1, vL2) vF vT (V2, cap2) (c.f1.length + 1) (c.f1 ++ [⟨0, 1⟩]) F T (hs ++ [(V, row.length, cV)]) (rows ++ [bIns fr c.f0.toNat])))) from by
                  have e1 : (hs ++ [(V, row.length, cV)]).length = hs.length + 1 := by simp
                  unfold ePs
                  rw [HRW.out, e1]
                  exact S9.out)
                clear S9
                generalize hs ++ [(V, row.length, cV)] = hs2 at *
                have CF := Aside0.mk (ref32_Build (p := p) (f := c) S10.out ⟨HIB.out.1, by have := HIB.out; omega, by have := HSZ.out; omega, by have := HPS.out.n; have := HLT.out; have := HKK.out; omega, HPS.out.g⟩ (by have := HPS.out.n; have := HLT.out; have := HKK.out; omega) HFI.out HH.out (input := fr) HFB.out (sA := vS.1) (sc := vS.2) (state := s.state) (fun W vA ands h => h.rowF 2 rfl) HPS.out.l HPS.out.x)
                rw [HPS.out.l] at CF
                have HFO := Aside0.mk (bFrame_ok HN0.out.1 HN0.out.2 HFI.out (ands := s.ands) (by have := HPS.out.n; have := HLT.out; have := HKK.out; omega) HPS.out.g (input := fr) HFB.out HPS.out.l HPS.out.x)
                have HST := Aside0.mk (show phRun (inp + (c.f1.length + 1 : Nat)) c (pfFr c) (ph0 inp c) (j + 1) = phStep (inp + (c.f1.length + 1 : Nat)) c fr s by rw [← HFE.out, ← HE.out]; rfl)
                unfold phStep at HST
                generalize bFrame (inp + (c.f1.length + 1 : Nat)) c s.ands fr s.state = R at *
                obtain ⟨c0, c1, c2, c3, c4⟩ := blk5 (S10.out.blk 10 rfl)
                go_wp2_with fail
                refine CF.out.mono ?_
                rintro e w10 ⟨vA2, Vn, cn, rfl, h10⟩
                clear c0 c1 c2 c3 c4
                go_upto_region 29 with (fail)
                have S11 := Aside0.mk ((h10.new 123 #[.slice Vn c.f1.length cn, .int .i64 R.bad, .int .i64 R.right]).behind (qs := rPs w.heap.size gO inp (c.f1.length + 1) NB (vL1, vL2) vA2 R.ands))
                clear h10 CF S10
                generalize w10.heap.size = gF at *
                generalize w10.alloc (.cells #[.slice Vn c.f1.length cn, .int .i64 R.bad, .int .i64 R.right] 123) = w11 at *
                have c2 : w11.cell? ⟨gF, 2, none⟩ = some (.int .i64 R.right) := (S11.out.cell 2 rfl 2 rfl).1
                have HAB := Aside0.mk (show R.ands.length ≤ 90000 by have := HFO.out.n; have := HPS.out.n; have := HLT.out; have := HKK.out; omega)
                go_wp2_with fail
                refine (ref26_Made S11.out ⟨HIB.out.1, by have := HIB.out; omega, by have := HSZ.out; omega, by have := HAB.out; omega, HFO.out.g⟩ HPS.out.r HFO.out.r).mono ?_
                rintro e w12 ⟨vA3, rfl, h12⟩
                have HO1 := Aside0.mk (bAnd_op HN0.out.1 HN0.out.2)
                have HA1 := Aside0.mk (And.intro (HO1.out.n R.ands s.sofar R.right) (And.intro (HO1.out.g R.ands s.sofar R.right HFO.out.g HPS.out.r HFO.out.r) (HO1.out.l R.ands s.sofar R.right (by have := HAB.out; omega) HPS.out.r HFO.out.r)))
                have S12 := Aside0.mk h12
                clear h12 S11 c2
                try dsimp only at HST
                generalize bAnd (inp + (c.f1.length + 1 : Nat)) R.ands s.sofar R.right = a at *
                obtain ⟨a1, a2⟩ := a
                dsimp only at HA1 S12 HST ⊢
                have c1 : w12.cell? ⟨gF, 1, none⟩ = some (.int .i64 R.bad) := (S12.out.cell 2 rfl 1 rfl).1
                go_wp2_with fail
                refine (ref26_Made S12.out ⟨HIB.out.1, by have := HIB.out; omega, by have := HSZ.out; omega, by have := HAB.out; have := HA1.out.1; omega, HA1.out.2.1⟩ HFO.out.b HA1.out.2.2).mono ?_
                rintro e w13 ⟨vA4, rfl, h13⟩
                have S13 := Aside0.mk h13
                clear h13 S12 c1
                generalize bAnd (inp + (c.f1.length + 1 : Nat)) a1 R.bad a2 = b at *
                obtain ⟨b1, b2⟩ := b
                dsimp only at S13 HST ⊢
                go_upto_region 31 with (first | (at_builtin; refine Parts.appendL S13.out 5 rfl flat_int rfl (.tmp 127) (.tmp 132) 24 (.int .i64 0) 8 rfl Try.underlying24 infoInt rfl (by decide) (by decide) b2 [.int .i64 b2] rfl rfl rfl (by rw [HPS.out.h]; have := HLT.out; have := HKK.out; omega) ?_; intro V3 cap3 w14 h14; have S14 := Aside0.mk h14; clear h14) | fail)
                have c0 : w14.cell? ⟨gF, 0, none⟩ = some (.slice Vn c.f1.length cn) := (S14.out.cell 2 rfl 0 rfl).1
                have S15 := Aside0.mk ((S14.out.erase 4).erase 2)
                go_wp2
                go_roundg (k + 1 - (j + 1))
                case measure => have := HK.out; have := HLT.out; omega
                case rel => exact ⟨j + 1, ⟨b1, R.nexts, a2, s.hopes ++ [b2]⟩, rows ++ [bIns fr c.f0.toNat], vA4, (Vn, cn), (V3, cap3), (V2, cap2), hs2, rfl, rfl, (by simp), (by first | exact val_step (n := k + 1) (by have := HLT.out; omega) (by have := HKK.out; omega) | exact congrArg (Value.int .i64) (by omega)), ⟨by have := HLT.out; omega, by have := HK.out; have := HLT.out; omega⟩, ⟨by rw [show min (j + 1) k = j + 1 by have := HLT.out; omega]; exact HST.out⟩, ⟨by rw [HRR.out, if_pos (by have := HLT.out; omega), if_pos (by have := HLT.out; omega), phRows_succ, HFE.out]⟩, ⟨by
                  dsimp only
                  rw [show (s.hopes ++ [b2]).length = s.hopes.length + 1 by simp]
                  exact S15.out⟩⟩
          · by_cases hjk : j = k
            · have hkj : k = j := hjk.symm
              subst hkj
              have hlti : decide ((k : Int) < (k : Int)) = false := decide_eq_false (by omega)
              have hle : decide ((k : Int) ≤ (k : Int)) = true := decide_eq_true (by omega)
              have HFB := Aside0.mk (show (0 : Int) ≤ 1 ∧ (1 : Int) ≤ 10000 by decide)
              clear hlt
              have S1 := Aside0.mk (S.out.nil (Kd.int .i64) 3)
              clear S
              go_upto_region 23 with (fail)
              obtain ⟨ni, hni⟩ : ∃ n : Nat, c.f0 = (n : Int) := ⟨c.f0.toNat, by have := HSZ.out; omega⟩
              have HNI := Aside0.mk (show c.f0.toNat = ni ∧ ni ≤ 1000 by have := HSZ.out; omega)
              have HNJ := Aside0.mk hni
              clear hni
              go_loopg [15, 16] ni (fun gg s15 s16 wr => ∃ (i : Nat) (V : Option Addr) (cV : Nat), s15 = .slice V i cV ∧ s16 = .int .i64 i ∧ Aside0 (i ≤ ni ∧ ni - i ≤ gg) ∧ Aside0 (Parts w.heap.size w wr (pF w.heap.size (Kd.int .i64) 3 (.slice V i cV) (bIns 1 i) :: (rPs w.heap.size gO inp (c.f1.length + 1) NB (vL1, vL2) vA s.ands ++ (pF w.heap.size (Kd.int .i64) 3 (.slice vS.1 c.f1.length vS.2) s.state :: pF w.heap.size (Kd.int .i64) 3 (.slice vH.1 s.hopes.length vH.2) s.hopes :: (ePs w.heap.size gU w.heap.size (w.heap.size + 1) k (fc5 p c) (vL1, vL2) vF vT vI (c.f1.length + 1) (c.f1 ++ [⟨0, 1⟩]) F T hs rows))))))
              case atStart => exact ⟨0, none, 0, rfl, rfl, ⟨by omega, by omega⟩, S1⟩
              case round =>
                clear S1
                obtain ⟨i, V, cV, rfl, rfl, HKI, S⟩ := hrel
                have c0 : wr.cell? ⟨w.heap.size, 0, none⟩ = some (.int .i64 c.f0) := (S.out.cell 11 rfl 0 rfl).1
                by_cases hlt : i < ni
                · have HLI := Aside0.mk hlt
                  have hd : decide ((i : Int) < c.f0) = true := decide_eq_true (by have := HNJ.out; omega)
                  obtain ⟨x, hx⟩ : ∃ x : Int, 2 * (1 + (i : Int)) = x := ⟨_, rfl⟩
                  have hw : wrap64 (2 * wrap64 (1 + (i : Int))) = x := by
                    have h1 := HFB.out; have h2 := HNI.out
                    rw [wrap_in (x := 1 + (i : Int)) (by omega) (by omega), wrap_in (by omega) (by omega), hx]
                  have HST := Aside0.mk (show bIns 1 (i + 1) = bIns 1 i ++ [x] by rw [bIns_succ, ← hx])
                  have HLN := Aside0.mk (show i = (bIns 1 i).length by rw [bIns_len])
                  clear hx hlt
                  generalize bIns 1 i = ys at *
                  go_wp2_with (first | (at_builtin; refine Parts.appendL S.out 0 rfl flat_int rfl (.tmp 103) (.tmp 108) 24 (.int .i64 0) 8 rfl Try.underlying24 infoInt rfl (by decide) (by decide) x [.int .i64 x] rfl (by rw [hw]; rfl) rfl (by have := HNI.out; have := HLI.out; have := HLN.out; omega) ?_; intro V2 cap2 w8 h8; have S8 := Aside0.mk h8; clear h8))
                  have hys := HLN.out
                  go_roundg (ni - (i + 1))
                  case measure => have := HKI.out; have := HLI.out; omega
                  case rel => exact ⟨i + 1, V2, cap2, (by rw [hys]), (by first | exact val_step HLI.out (by have := HNI.out; omega) | exact congrArg (Value.int .i64) (by omega)), ⟨HLI.out, by have := HKI.out; omega⟩, ⟨by rw [HST.out, hys]; exact S8.out⟩⟩
                · have hk : i = ni := by have := HKI.out; omega
                  subst hk
                  have hd : decide ((i : Int) < c.f0) = false := decide_eq_false (by have := HNJ.out; omega)
                  clear hlt HKI
                  have HLN := Aside0.mk (show i = (bIns 1 i).length by rw [bIns_len])
                  have HRW := Aside0.mk (show rows ++ [bIns 1 c.f0.toNat] = rows ++ [bIns 1 i] by rw [HNI.out.1])
                  have HHS := Aside0.mk (show hs.length ≤ 20 by rw [S.out.inLen 10 rfl]; exact HRL.out)
                  generalize bIns 1 i = row at *
                  have hlr := HLN.out
                  clear HLN
                  subst hlr
                  obtain ⟨c3, f3⟩ := S.out.cell 6 rfl 3 rfl
                  go_upto_region 27 with (first | (at_builtin; refine Parts.appendL S.out 9 rfl flat_head rfl (.tmp 111) (.tmp 113) 29 (.slice none 0 0) 24 rfl Try.underlying29 infoRow rfl (by decide) (by decide) (V, row.length, cV) [.slice V row.length cV] rfl rfl rfl (by have := HHS.out; omega) ?_; intro V2 cap2 w8 h8; obtain ⟨c8, f8⟩ := h8.cell 6 rfl 3 rfl; have S8 := Aside0.mk h8; clear h8) | fail)
                  have S9 := Aside0.mk ((S8.out.put 6 rfl 3 (.slice V2 (hs.length + 1) cap2) rfl).inAdd 0 10 (by decide) rfl rfl)
                  generalize w8.setCell ⟨gU, 3, none⟩ (.slice V2 (hs.length + 1) cap2) = w9 at *
                  clear c8 f8 S8 c3 f3 S c0 hd
                  have S10 := Aside0.mk (show Parts w.heap.size w w9 (rPs w.heap.size gO inp (c.f1.length + 1) NB (vL1, vL2) vA s.ands ++ (pF w.heap.size (Kd.int .i64) 3 (.slice vS.1 c.f1.length vS.2) s.state :: pF w.heap.size (Kd.int .i64) 3 (.slice vH.1 s.hopes.length vH.2) s.hopes :: (ePs w.heap.size gU w.heap.size (w.heap.size + 1) k (fc5 p c) (vL1, vL2) vF vT (V2, cap2) (c.f1.length + 1) (c.f1 ++ [⟨0, 1⟩]) F T (hs ++ [(V, row.length, cV)]) (rows ++ [bIns 1 c.f0.toNat])))) from by
                    have e1 : (hs ++ [(V, row.length, cV)]).length = hs.length + 1 := by simp
                    unfold ePs
                    rw [HRW.out, e1]
                    exact S9.out)
                  clear S9
                  generalize hs ++ [(V, row.length, cV)] = hs2 at *
                  go_wp2
                  go_roundg (k + 1 - (k + 1))
                  case measure => have := HK.out; omega
                  case rel => exact ⟨k + 1, s, rows ++ [bIns 1 c.f0.toNat], vA, vS, vH, (V2, cap2), hs2, rfl, rfl, rfl, (by first | exact val_step (n := k + 1) (by omega) (by have := HKK.out; omega) | exact congrArg (Value.int .i64) (by omega)), ⟨by omega, by have := HK.out; omega⟩, ⟨by rw [show min (k + 1) k = k by omega, ← HE.out, show min k k = k by omega]⟩, ⟨by rw [HRR.out, if_pos (Nat.le_refl _), if_neg (by omega)]⟩, S10⟩
            · have hk1 : j = k + 1 := by have := HK.out; omega
              subst hk1
              have hle : decide (((k + 1 : Nat) : Int) ≤ (k : Int)) = false := decide_eq_false (by omega)
              have hle2 : ¬ (k + 1 ≤ k) := by omega
              rw [show min (k + 1) k = k by omega] at HE HPS
              rw [if_neg hle2] at HRR
              obtain rfl := HRR.out
              clear hlt hjk HK HRR
              have HBY := Aside0.mk (show s.ands.length ≤ 24016 ∧ s.hopes.length ≤ 8 by have h1 := HPS.out.n; have h2 := HPS.out.h; have := HKK.out; omega)
              obtain ⟨RR, hRR⟩ : ∃ R, pfFrame inp c s = R := ⟨_, rfl⟩
              obtain ⟨EE_, hEE⟩ : ∃ E, pfEnds (inp + (c.f1.length + 1 : Nat)) (pfFlag inp c) RR s = E := ⟨_, rfl⟩
              have HPD := Aside0.mk (pfDone_eq HIN.out HE.out hRR hEE)
              rw [HFT.out.1, HTT.out] at HPD
              unfold pfFrame at hRR
              rw [HFT.out.1, HFG.out] at hRR
              rw [HFG.out] at hEE
              have HRR := Aside0.mk hRR
              have HEQ := Aside0.mk hEE
              clear hRR hEE HPK HE HFR HP0 HRL
              have HFLB := Aside0.mk (show ∀ x ∈ F, LB x by rw [← HFT.out.1]; exact lasOf_ok HIB.out.1 (by have := HIB.out; omega) HSZ.out.1)
              have HM0 := Aside0.mk (show MixOk s.ands.length c.f1.length (s.ands, s.state) from ⟨HPS.out.g, Nat.le_refl _, HPS.out.l, HPS.out.x⟩)
              have HMX := Aside0.mk (fun (i : Nat) (hi : i ≤ c.f1.length) => MixOk.mix HN0.out.1 HN0.out.2 HFL.out HFLB.out HM0.out i (by have := HBY.out; have := HSZ.out; omega))
              have HFV2 := Aside0.mk (fun (m : Nat) (hm : m < c.f1.length) => show F.getD m 0 = latV inp (m : Int) from by
                rw [latV_eq (by have := HIB.out; omega) (by have := HSZ.out; omega), ← HFT.out.1, List.getD_eq_getElem?_getD]
                unfold lasOf
                rw [List.getElem?_map, List.getElem?_range hm]
                rfl)
              go_wp2
              go_loopg [18] c.f1.length (fun gg s18 wr => ∃ (m : Nat) (vA : Option Addr × Nat) (M : List Gate × List Int), s18 = .int .i64 m ∧ Aside0 (m ≤ c.f1.length ∧ c.f1.length - m ≤ gg) ∧ Aside0 (pfMix (inp + (c.f1.length + 1 : Nat)) flag F (s.ands, s.state) m = M) ∧ Aside0 (Parts w.heap.size w wr (rPs w.heap.size gO inp (c.f1.length + 1) NB (vL1, vL2) vA M.1 ++ (pF w.heap.size (Kd.int .i64) 3 (.slice vS.1 c.f1.length vS.2) M.2 :: pF w.heap.size (Kd.int .i64) 3 (.slice vH.1 s.hopes.length vH.2) s.hopes :: (ePs w.heap.size gU w.heap.size (w.heap.size + 1) k (fc5 p c) (vL1, vL2) vF vT vI (c.f1.length + 1) (c.f1 ++ [⟨0, 1⟩]) F T hs (phRows c (pfFr c) k ++ [bIns 1 c.f0.toNat]))))))
              case atStart => exact ⟨0, vA, (s.ands, s.state), rfl, ⟨by omega, by omega⟩, ⟨rfl⟩, S⟩
              case round =>
                clear S
                obtain ⟨m, vA, M, rfl, HK, HE, S⟩ := hrel
                have HMK := Aside0.mk (HMX.out m HK.out.1)
                rw [HE.out] at HMK
                have c1 : wr.cell? ⟨w.heap.size, 1, none⟩ = some (.slice p.A1 c.f1.length p.c1) := (S.out.cell 10 rfl 1 rfl).1
                by_cases hlt : m < c.f1.length
                · have HLT := Aside0.mk hlt
                  have hlti : (m : Int) < (c.f1.length : Int) := by omega
                  have hml : m < M.2.length := by rw [HMK.out.l]; exact hlt
                  obtain ⟨gs, eS, u0, _⟩ := S.out.intOne 2 rfl m hml
                  have HST := Aside0.mk (show pfMix (inp + (c.f1.length + 1 : Nat)) flag F (s.ands, s.state) (m + 1) = pfOne (inp + (c.f1.length + 1 : Nat)) flag F m M by rw [← HE.out]; rfl)
                  unfold pfOne at HST
                  rw [show M.2.getD m 0 = M.2[m] by rw [List.getD_eq_getElem?_getD, List.getElem?_eq_getElem hml]; rfl, HFV2.out m hlt] at HST
                  have HAB := Aside0.mk (show M.1.length ≤ 30000 by have := HMK.out.n; have := HBY.out; have := HSZ.out; omega)
                  have HX := Aside0.mk (And.intro (HMK.out.x _ (List.getElem_mem hml)) (show LB (latV inp (m : Int)) by rw [← HFV2.out m hlt]; exact getD_ok HFLB.out m))
                  try dsimp only at eS
                  have HES := Aside0.mk eS
                  have HOA := Aside0.mk (bAnd_op HN0.out.1 HN0.out.2)
                  have HOO := Aside0.mk (bOr_op HN0.out.1 HN0.out.2)
                  have HLV := Aside0.mk (fun vA nA W => ref25_LatchV inp (vL1, vL2) vA (c.f1.length + 1) nA NB (m : Int) W)
                  generalize M.2[m] = x at *
                  generalize latV inp (m : Int) = y at *
                  rw [eS]
                  clear eS hlt hml
                  go_wp2_with fail
                  refine (ref26_Made S.out ⟨HIB.out.1, by have := HIB.out; omega, by have := HSZ.out; omega, by have := HAB.out; omega, HMK.out.g⟩ HFL.out HX.out.1).mono ?_
                  rintro e w11 ⟨vA1, rfl, hq⟩
                  have H1 := Aside0.mk (And.intro (HOA.out.n M.1 flag x) (And.intro (HOA.out.g M.1 flag x HMK.out.g HFL.out HX.out.1) (HOA.out.l M.1 flag x (by have := HAB.out; omega) HFL.out HX.out.1)))
                  have S1 := Aside0.mk hq
                  clear hq S u0 c1
                  generalize bAnd (inp + (c.f1.length + 1 : Nat)) M.1 flag x = r1 at *
                  obtain ⟨A1, B1⟩ := r1
                  dsimp only at H1 S1 HST ⊢
                  go_upto_region 36 with (fail)
                  refine start_ (n := 7) (S := (fun w' : World => w'.cell? ⟨gO, 0, none⟩ = some (.int .i64 inp) ∧ w'.cell? ⟨gO, 1, none⟩ = some (.slice vL1 (c.f1.length + 1) vL2) ∧ w'.cell? ⟨gO, 2, none⟩ = some (.slice vA1.1 A1.length vA1.2) ∧ w'.cell? ⟨gO, 3, none⟩ = some (.slice none 0 0) ∧ w'.cell? ⟨gO, 4, none⟩ = some (.slice none 0 0))) (ds := [5]) #[false, false, false, false, false, false, false] (by kernel_rfl) rfl rfl (blk5 (S1.out.blk 0 rfl)) (fun hHeld => ?_)
                  have S2 := Aside0.mk S1.out.drew
                  clear S1
                  generalize w11.drew = w12 at *
                  refine pure_ (i := 0) (N := some 149) (v := ?_) (a' := ?_) #[true, false, false, false, false, false, false] rfl rfl (by kernel_rfl) (fun _ _ _ h => h) (Or.inl ⟨by rfl, ?_⟩) ?_ ?_
                  rotate_left
                  · intro w'
                    go_simp
                    with_reducible rfl
                  rotate_left
                  · simp only [Act.put, List.setIfInBounds_toArray, List.set_cons_zero, List.set_cons_succ]
                    rfl
                  refine take_ (i := 2) (N := some 151) (v := ?_) (a' := ?_) #[true, false, true, false, false, false, false] rfl rfl (by kernel_rfl) (fun _ _ _ h => h) (Or.inl ⟨by rfl, ?_⟩) hHeld ?_ ?_
                  rotate_left
                  · rintro w' ⟨s0, s1, s2, s3, s4⟩
                    go_simp
                    with_reducible rfl
                  rotate_left
                  · simp only [Act.put, List.setIfInBounds_toArray, List.set_cons_zero, List.set_cons_succ]
                    rfl
                  refine pure_ (i := 3) (N := some 152) (v := ?_) (a' := ?_) #[true, false, true, true, false, false, false] rfl rfl (by kernel_rfl) (fun _ _ _ h => h) (Or.inl ⟨by rfl, ?_⟩) ?_ ?_
                  rotate_left
                  · intro w'
                    go_simp
                    with_reducible rfl
                  rotate_left
                  · simp only [Act.put, List.setIfInBounds_toArray, List.set_cons_zero, List.set_cons_succ]
                    rfl
                  refine one_ (i := 1) (N := some 150) #[true, true, true, true, false, false, false] rfl rfl (by kernel_rfl) (by decide) (fun K hK => ?_)
                  refine goes_ Try.func78 (by kernel_rfl) rfl #[.int .i64 flag] (by rfl) rfl rfl (by simp only [List.map_toArray, List.map_cons, List.map_nil] <;> rfl) ?_
                  refine (ref26_Other flag _ HFL.out).mono ?_
                  rintro e w13 ⟨rfl, hb⟩
                  refine ⟨_, rfl, ?_⟩
                  have S3 := Aside0.mk (S2.out.below hb)
                  clear hb S2
                  refine hK.out _ _ (blk5 (S3.out.blk 0 rfl)) (fun hHeld => ?_)
                  clear hK K
                  refine norm_ (a' := ?_) ?_ ?_
                  rotate_left
                  · show Act.put _ (some 150) _ = _
                    simp only [Act.put, List.setIfInBounds_toArray, List.set_cons_zero, List.set_cons_succ]
                    rfl
                  refine one_ (i := 4) (N := some 153) #[true, true, true, true, true, false, false] rfl rfl (by kernel_rfl) (by decide) (fun K hK => ?_)
                  refine goes_ Try.func48 (by kernel_rfl) rfl #[.agg (rCells inp (vL1, vL2) vA1 (c.f1.length + 1) A1.length NB), .int .i64 (m : Int)] (by rfl) rfl rfl (by simp only [List.map_toArray, List.map_cons, List.map_nil] <;> rfl) ?_
                  refine (HLV.out vA1 A1.length _).mono ?_
                  rintro e w14 ⟨rfl, hb⟩
                  refine ⟨_, rfl, ?_⟩
                  have S4 := Aside0.mk (S3.out.below hb)
                  clear hb S3
                  refine hK.out _ _ (blk5 (S4.out.blk 0 rfl)) (fun hHeld => ?_)
                  clear hK K
                  refine norm_ (a' := ?_) ?_ ?_
                  rotate_left
                  · show Act.put _ (some 153) _ = _
                    simp only [Act.put, List.setIfInBounds_toArray, List.set_cons_zero, List.set_cons_succ]
                    rfl
                  refine last_ (i := 5) (N := some 154) #[true, true, true, true, true, true, false] rfl rfl (by kernel_rfl) (by decide) (fun K hK => ?_)
                  refine goes_ Try.func77 (by kernel_rfl) rfl #[.pointer (some ⟨gO, 0, none⟩), .int .i64 (lNot flag), .int .i64 y] (by rfl) rfl rfl (by simp only [List.map_toArray, List.map_cons, List.map_nil] <;> rfl) ?_
                  refine (ref26_Made S4.out ⟨HIB.out.1, by have := HIB.out; omega, by have := HSZ.out; omega, by have := HAB.out; have := H1.out.1; omega, H1.out.2.1⟩ HFL.out.not HX.out.2).mono ?_
                  rintro e w15 ⟨vA2, rfl, hq⟩
                  refine ⟨_, rfl, ?_⟩
                  have H2 := Aside0.mk (And.intro (HOA.out.n A1 (lNot flag) y) (And.intro (HOA.out.g A1 (lNot flag) y H1.out.2.1 HFL.out.not HX.out.2) (HOA.out.l A1 (lNot flag) y (by have := HAB.out; have := H1.out.1; omega) HFL.out.not HX.out.2)))
                  have S5 := Aside0.mk hq
                  clear hq S4
                  generalize bAnd (inp + (c.f1.length + 1 : Nat)) A1 (lNot flag) y = r2 at *
                  obtain ⟨A2, B2⟩ := r2
                  dsimp only at H2 S5 HST ⊢
                  refine hK.out _ _ ?_
                  clear hK K
                  refine norm_ (a' := ?_) ?_ ?_
                  rotate_left
                  · show Act.put _ (some 154) _ = _
                    simp only [Act.put, List.setIfInBounds_toArray, List.set_cons_zero, List.set_cons_succ]
                    rfl
                  refine pure_ (i := 6) (N := some 20) (v := ?_) (a' := ?_) #[true, true, true, true, true, true, true] rfl rfl (by kernel_rfl) (fun _ _ _ h => h) (Or.inl ⟨by rfl, ?_⟩) ?_ ?_
                  rotate_left
                  · intro w'
                    go_simp
                    with_reducible rfl
                  rotate_left
                  · simp only [Act.put, List.setIfInBounds_toArray, List.set_cons_zero, List.set_cons_succ]
                    rfl
                  refine done_ (by kernel_rfl) ?_
                  clear hHeld
                  go_wp2_with fail
                  refine (ref26_Either S5.out ⟨HIB.out.1, by have := HIB.out; omega, by have := HSZ.out; omega, by have := HAB.out; have := H1.out.1; have := H2.out.1; omega, H2.out.2.1⟩ H1.out.2.2 H2.out.2.2).mono ?_
                  rintro e w16 ⟨vA3, rfl, hq⟩
                  have S6 := Aside0.mk hq
                  clear hq S5
                  generalize bOr (inp + (c.f1.length + 1 : Nat)) A2 B1 B2 = r3 at *
                  obtain ⟨A3, B3⟩ := r3
                  dsimp only at S6 HST ⊢
                  have S7 := Aside0.mk (show Parts w.heap.size w w16 (rPs w.heap.size gO inp (c.f1.length + 1) NB (vL1, vL2) vA3 A3 ++ (pF w.heap.size (Kd.int .i64) 3 (.slice (some ⟨gs, 0, none⟩) c.f1.length vS.2) M.2 :: pF w.heap.size (Kd.int .i64) 3 (.slice vH.1 s.hopes.length vH.2) s.hopes :: (ePs w.heap.size gU w.heap.size (w.heap.size + 1) k (fc5 p c) (vL1, vL2) vF vT vI (c.f1.length + 1) (c.f1 ++ [⟨0, 1⟩]) F T hs (phRows c (pfFr c) k ++ [bIns 1 c.f0.toNat])))) from by rw [← HES.out]; exact S6.out)
                  have hcl : m < c.f1.length := HLT.out
                  obtain ⟨v0, z0⟩ := S7.out.cellRow 2 rfl 0 m hcl
                  have S8 := Aside0.mk (show Parts w.heap.size w (w16.setCell ⟨gs, m, none⟩ (.int .i64 B3)) (rPs w.heap.size gO inp (c.f1.length + 1) NB (vL1, vL2) vA3 A3 ++ (pF w.heap.size (Kd.int .i64) 3 (.slice vS.1 c.f1.length vS.2) (M.2.set m B3) :: pF w.heap.size (Kd.int .i64) 3 (.slice vH.1 s.hopes.length vH.2) s.hopes :: (ePs w.heap.size gU w.heap.size (w.heap.size + 1) k (fc5 p c) (vL1, vL2) vF vT vI (c.f1.length + 1) (c.f1 ++ [⟨0, 1⟩]) F T hs (phRows c (pfFr c) k ++ [bIns 1 c.f0.toNat])))) from by rw [HES.out]; exact S7.out.putRow 2 rfl m B3)
                  clear S6 S7 hcl
                  go_wp2
                  rw [← HES.out]
                  go_roundg (c.f1.length - (m + 1))
                  case measure => have := HK.out; have := HLT.out; omega
                  case rel => exact ⟨m + 1, vA3, (A3, M.2.set m B3), (by first | exact val_step HLT.out (by have := HSZ.out; omega) | exact congrArg (Value.int .i64) (by omega)), ⟨HLT.out, by have := HK.out; omega⟩, HST, S8⟩
                · have hk : m = c.f1.length := by have := HK.out; omega
                  subst hk
                  rw [HE.out] at HRR
                  clear hlt HK HE HMX HM0
                  have HMA := Aside0.mk (show M.1.length ≤ 28000 by have := HMK.out.n; have := HBY.out; have := HSZ.out; omega)
                  have CF := Aside0.mk (ref32_Build (p := p) (f := c) S.out ⟨HIB.out.1, by have := HIB.out; omega, by have := HSZ.out; omega, by have := HMA.out; omega, HMK.out.g⟩ (by have := HMA.out; omega) HFI.out HH.out (input := 1) ⟨by decide, by decide⟩ (sA := vS.1) (sc := vS.2) (state := M.2) (fun W vA ands h => h.rowF 2 rfl) HMK.out.l HMK.out.x)
                  rw [HMK.out.l] at CF
                  have HFO := Aside0.mk (bFrame_ok HN0.out.1 HN0.out.2 HFI.out (ands := M.1) (by have := HMA.out; omega) HMK.out.g (input := 1) ⟨by decide, by decide⟩ HMK.out.l HMK.out.x)
                  generalize bFrame (inp + (c.f1.length + 1 : Nat)) c M.1 1 M.2 = R at *
                  obtain rfl := HRR.out
                  clear HRR
                  obtain ⟨c0, _, c2, c3, c4⟩ := blk5 (S.out.blk 10 rfl)
                  go_wp2_with fail
                  refine CF.out.mono ?_
                  rintro e w10 ⟨vA2, Vn, cn, rfl, h10⟩
                  clear c0 c1 c2 c3 c4
                  go_upto_region 39 with (fail)
                  have S11 := Aside0.mk ((h10.new 123 #[.slice Vn c.f1.length cn, .int .i64 R.bad, .int .i64 R.right]).behind (qs := rPs w.heap.size gO inp (c.f1.length + 1) NB (vL1, vL2) vA2 R.ands))
                  clear h10 CF S
                  generalize w10.heap.size = gF at *
                  generalize w10.alloc (.cells #[.slice Vn c.f1.length cn, .int .i64 R.bad, .int .i64 R.right] 123) = w11 at *
                  have HAB := Aside0.mk (show R.ands.length ≤ 32000 by have := HFO.out.n; have := HMA.out; omega)
                  have HOA := Aside0.mk (bAnd_op HN0.out.1 HN0.out.2)
                  have HOO := Aside0.mk (bOr_op HN0.out.1 HN0.out.2)
                  unfold pfEnds at HEQ
                  try dsimp only at HEQ
                  have HC0 := Aside0.mk (HOO.out.chain (none := 0) (ands := R.ands) (l := s.hopes) (by have := HBY.out; have := HAB.out; omega) LB.zero HPS.out.y HFO.out.g)
                  rw [show bChain (bOr (inp + (c.f1.length + 1 : Nat))) 0 R.ands s.hopes = bAny (inp + (c.f1.length + 1 : Nat)) R.ands s.hopes from rfl] at HC0
                  go_wp2_with fail
                  refine (ref32_Any S11.out ⟨HIB.out.1, by have := HIB.out; omega, by have := HSZ.out; omega, by have := HAB.out; omega, HFO.out.g⟩ (fun W vA ands h => h.rowF 5 rfl) (by have := HBY.out; have := HAB.out; omega) HPS.out.y).mono ?_
                  rintro e w12 ⟨vA3, rfl, hq⟩
                  have S := Aside0.mk hq
                  clear hq S11
                  generalize bAny (inp + (c.f1.length + 1 : Nat)) R.ands s.hopes = r0 at *
                  obtain ⟨A0, B0⟩ := r0
                  dsimp only at HC0 S HEQ ⊢
                  have HAB := Aside0.mk (show A0.length ≤ 33000 by have := HAB.out; have := HC0.out.2.2; have := HBY.out; omega)
                  go_wp2_with fail
                  refine (ref26_Made S.out ⟨HIB.out.1, by have := HIB.out; omega, by have := HSZ.out; omega, by have := HAB.out; omega, HC0.out.2.1⟩ HFL.out HC0.out.1).mono ?_
                  rintro e w13 ⟨vA4, rfl, hq⟩
                  have H1 := Aside0.mk (And.intro (HOA.out.n A0 flag B0) (And.intro (HOA.out.g A0 flag B0 HC0.out.2.1 HFL.out HC0.out.1) (HOA.out.l A0 flag B0 (by have := HAB.out; omega) HFL.out HC0.out.1)))
                  have S := Aside0.mk hq
                  clear hq
                  generalize bAnd (inp + (c.f1.length + 1 : Nat)) A0 flag B0 = r1 at *
                  obtain ⟨A1, B1⟩ := r1
                  dsimp only at H1 S HEQ ⊢
                  have c1 : w13.cell? ⟨gF, 1, none⟩ = some (.int .i64 R.bad) := (S.out.cell 2 rfl 1 rfl).1
                  go_wp2_with fail
                  refine (ref26_Either S.out ⟨HIB.out.1, by have := HIB.out; omega, by have := HSZ.out; omega, by have := HAB.out; have := H1.out.1; omega, H1.out.2.1⟩ HFO.out.b H1.out.2.2).mono ?_
                  rintro e w14 ⟨vA5, rfl, hq⟩
                  have H2 := Aside0.mk (And.intro (HOO.out.n A1 R.bad B1) (And.intro (HOO.out.g A1 R.bad B1 H1.out.2.1 HFO.out.b H1.out.2.2) (HOO.out.l A1 R.bad B1 (by have := HAB.out; have := H1.out.1; omega) HFO.out.b H1.out.2.2)))
                  have S := Aside0.mk hq
                  clear hq
                  generalize bOr (inp + (c.f1.length + 1 : Nat)) A1 R.bad B1 = r2 at *
                  obtain ⟨A2, B2⟩ := r2
                  dsimp only at H2 S HEQ ⊢
                  clear c1
                  have S15 := Aside0.mk ((S.out.freshF flat_int (below_alloc (Below.refl _ _) (.cells #[.int .i64 B2] 3)) (R_oneB _ B2 _ 3 (Nat.le_refl _))).behind (qs := rPs w.heap.size gO inp (c.f1.length + 1) NB (vL1, vL2) vA5 A2))
                  obtain ⟨_, f3⟩ := S15.out.cell 0 rfl 3 rfl
                  go_upto_region 41 with (fail)
                  clear f3 S
                  generalize w14.heap.size = g1 at *
                  generalize w14.alloc (.cells #[.int .i64 B2] 3) = w15 at *
                  have S := Aside0.mk (show Parts w.heap.size w (w15.setCell ⟨gO, 3, none⟩ (.slice (some ⟨g1, 0, none⟩) 1 1)) (rPs w.heap.size gO inp (c.f1.length + 1) ((.slice (some ⟨g1, 0, none⟩) 1 1), (.slice none 0 0)) (vL1, vL2) vA5 A2 ++ (pF w.heap.size (Kd.int .i64) 3 (.slice (some ⟨g1, 0, none⟩) 1 1) [B2] :: pB gF 123 #[.slice Vn c.f1.length cn, .int .i64 R.bad, .int .i64 R.right] :: pF w.heap.size (Kd.int .i64) 3 (.slice Vn c.f1.length cn) R.nexts :: pF w.heap.size (Kd.int .i64) 3 (.slice vS.1 c.f1.length vS.2) M.2 :: pF w.heap.size (Kd.int .i64) 3 (.slice vH.1 s.hopes.length vH.2) s.hopes :: (ePs w.heap.size gU w.heap.size (w.heap.size + 1) k (fc5 p c) (vL1, vL2) vF vT vI (c.f1.length + 1) (c.f1 ++ [⟨0, 1⟩]) F T hs (phRows c (pfFr c) k ++ [bIns 1 c.f0.toNat])))) from S15.out.put 0 rfl 3 (.slice (some ⟨g1, 0, none⟩) 1 1) rfl)
                  clear S15
                  generalize w15.setCell ⟨gO, 3, none⟩ (.slice (some ⟨g1, 0, none⟩) 1 1) = w16 at *
                  go_wp2_with fail
                  refine (ref26_Other flag _ HFL.out).mono ?_
                  rintro e w17 ⟨rfl, hb⟩
                  have S := Aside0.mk (S.out.below hb)
                  clear hb
                  go_wp2_with fail
                  refine (ref26_Either S.out ⟨HIB.out.1, by have := HIB.out; omega, by have := HSZ.out; omega, by have := HAB.out; have := H1.out.1; have := H2.out.1; omega, H2.out.2.1⟩ HFL.out.not HPS.out.r).mono ?_
                  rintro e w18 ⟨vA6, rfl, hq⟩
                  have H3 := Aside0.mk (And.intro (HOO.out.n A2 (lNot flag) s.sofar) (And.intro (HOO.out.g A2 (lNot flag) s.sofar H2.out.2.1 HFL.out.not HPS.out.r) (HOO.out.l A2 (lNot flag) s.sofar (by have := HAB.out; have := H1.out.1; have := H2.out.1; omega) HFL.out.not HPS.out.r)))
                  have S := Aside0.mk hq
                  clear hq
                  generalize bOr (inp + (c.f1.length + 1 : Nat)) A2 (lNot flag) s.sofar = r3 at *
                  obtain ⟨A3, B3⟩ := r3
                  dsimp only at H3 S HEQ ⊢
                  have c2 : w18.cell? ⟨gF, 2, none⟩ = some (.int .i64 R.right) := (S.out.cell 3 rfl 2 rfl).1
                  go_wp2_with fail
                  refine (ref26_Made S.out ⟨HIB.out.1, by have := HIB.out; omega, by have := HSZ.out; omega, by have := HAB.out; have := H1.out.1; have := H2.out.1; have := H3.out.1; omega, H3.out.2.1⟩ HFO.out.r H3.out.2.2).mono ?_
                  rintro e w19 ⟨vA7, rfl, hq⟩
                  have H4 := Aside0.mk (And.intro (HOA.out.n A3 R.right B3) (And.intro (HOA.out.g A3 R.right B3 H3.out.2.1 HFO.out.r H3.out.2.2) (HOA.out.l A3 R.right B3 (by have := HAB.out; have := H1.out.1; have := H2.out.1; have := H3.out.1; omega) HFO.out.r H3.out.2.2)))
                  have S := Aside0.mk hq
                  clear hq
                  generalize bAnd (inp + (c.f1.length + 1 : Nat)) A3 R.right B3 = r4 at *
                  obtain ⟨A4, B4⟩ := r4
                  dsimp only at H4 S HEQ ⊢
                  clear c2
                  go_wp2_with fail
                  refine (ref26_Either S.out ⟨HIB.out.1, by have := HIB.out; omega, by have := HSZ.out; omega, by have := HAB.out; have := H1.out.1; have := H2.out.1; have := H3.out.1; have := H4.out.1; omega, H4.out.2.1⟩ H1.out.2.2 H4.out.2.2).mono ?_
                  rintro e w20 ⟨vA8, rfl, hq⟩
                  have H5 := Aside0.mk (And.intro (HOO.out.n A4 B1 B4) (And.intro (HOO.out.g A4 B1 B4 H4.out.2.1 H1.out.2.2 H4.out.2.2) (HOO.out.l A4 B1 B4 (by have := HAB.out; have := H1.out.1; have := H2.out.1; have := H3.out.1; have := H4.out.1; omega) H1.out.2.2 H4.out.2.2)))
                  have S := Aside0.mk hq
                  clear hq
                  generalize bOr (inp + (c.f1.length + 1 : Nat)) A4 B1 B4 = r5 at *
                  obtain ⟨A5, B5⟩ := r5
                  dsimp only at H5 S HEQ ⊢
                  have S15 := Aside0.mk ((S.out.freshF flat_int (below_alloc (Below.refl _ _) (.cells #[.int .i64 B5] 3)) (R_oneB _ B5 _ 3 (Nat.le_refl _))).behind (qs := rPs w.heap.size gO inp (c.f1.length + 1) ((.slice (some ⟨g1, 0, none⟩) 1 1), (.slice none 0 0)) (vL1, vL2) vA8 A5))
                  obtain ⟨_, f4⟩ := S15.out.cell 0 rfl 4 rfl
                  go_upto_region 44 with (fail)
                  clear f4 S
                  generalize w20.heap.size = g2 at *
                  generalize w20.alloc (.cells #[.int .i64 B5] 3) = w21 at *
                  have S := Aside0.mk (show Parts w.heap.size w (w21.setCell ⟨gO, 4, none⟩ (.slice (some ⟨g2, 0, none⟩) 1 1)) (rPs w.heap.size gO inp (c.f1.length + 1) ((.slice (some ⟨g1, 0, none⟩) 1 1), (.slice (some ⟨g2, 0, none⟩) 1 1)) (vL1, vL2) vA8 A5 ++ (pF w.heap.size (Kd.int .i64) 3 (.slice (some ⟨g2, 0, none⟩) 1 1) [B5] :: pF w.heap.size (Kd.int .i64) 3 (.slice (some ⟨g1, 0, none⟩) 1 1) [B2] :: pB gF 123 #[.slice Vn c.f1.length cn, .int .i64 R.bad, .int .i64 R.right] :: pF w.heap.size (Kd.int .i64) 3 (.slice Vn c.f1.length cn) R.nexts :: pF w.heap.size (Kd.int .i64) 3 (.slice vS.1 c.f1.length vS.2) M.2 :: pF w.heap.size (Kd.int .i64) 3 (.slice vH.1 s.hopes.length vH.2) s.hopes :: (ePs w.heap.size gU w.heap.size (w.heap.size + 1) k (fc5 p c) (vL1, vL2) vF vT vI (c.f1.length + 1) (someNexts c.f1 R.nexts 0 ++ [⟨0, 1⟩]) F T hs (phRows c (pfFr c) k ++ [bIns 1 c.f0.toNat])))) from S15.out.put 0 rfl 4 (.slice (some ⟨g2, 0, none⟩) 1 1) rfl)
                  clear S15
                  generalize w21.setCell ⟨gO, 4, none⟩ (.slice (some ⟨g2, 0, none⟩) 1 1) = w22 at *
                  go_loopg [24] c.f1.length (fun gg s24 wr => ∃ (m : Nat), s24 = .int .i64 m ∧ Aside0 (m ≤ c.f1.length ∧ c.f1.length - m ≤ gg) ∧ Aside0 (Parts w.heap.size w wr (rPs w.heap.size gO inp (c.f1.length + 1) ((.slice (some ⟨g1, 0, none⟩) 1 1), (.slice (some ⟨g2, 0, none⟩) 1 1)) (vL1, vL2) vA8 A5 ++ (pF w.heap.size (Kd.int .i64) 3 (.slice (some ⟨g2, 0, none⟩) 1 1) [B5] :: pF w.heap.size (Kd.int .i64) 3 (.slice (some ⟨g1, 0, none⟩) 1 1) [B2] :: pB gF 123 #[.slice Vn c.f1.length cn, .int .i64 R.bad, .int .i64 R.right] :: pF w.heap.size (Kd.int .i64) 3 (.slice Vn c.f1.length cn) R.nexts :: pF w.heap.size (Kd.int .i64) 3 (.slice vS.1 c.f1.length vS.2) M.2 :: pF w.heap.size (Kd.int .i64) 3 (.slice vH.1 s.hopes.length vH.2) s.hopes :: (ePs w.heap.size gU w.heap.size (w.heap.size + 1) k (fc5 p c) (vL1, vL2) vF vT vI (c.f1.length + 1) (someNexts c.f1 R.nexts m ++ [⟨0, 1⟩]) F T hs (phRows c (pfFr c) k ++ [bIns 1 c.f0.toNat]))))))
                  case atStart => exact ⟨0, rfl, ⟨by omega, by omega⟩, S⟩
                  case round =>
                    clear S
                    obtain ⟨m, rfl, HK, S⟩ := hrel
                    have hsl := HFO.out.l
                    have c1 : wr.cell? ⟨w.heap.size, 1, none⟩ = some (.slice p.A1 c.f1.length p.c1) := (S.out.cell 14 rfl 1 rfl).1
                    by_cases hlt : m < c.f1.length
                    · have HLT := Aside0.mk hlt
                      have hlti : (m : Int) < (c.f1.length : Int) := by omega
                      go_upto_region 46 with (fail)
                      have S2 := Aside0.mk S.out.drew
                      obtain ⟨ad, eA, hc⟩ := at_int (S2.out.rowF 5 rfl).r m (by omega)
                      obtain ⟨hx1, hx2⟩ := someNexts_last hsl hlt ⟨0, 1⟩
                      obtain ⟨gl, eL, u0, z0⟩ := S2.out.latOne 8 rfl m hx1
                      try dsimp only at eA
                      try dsimp only at eL
                      have cf0 : (wr.drew).cell? ⟨gF, 0, none⟩ = some (.slice (some ad) c.f1.length cn) := by rw [← eA]; exact (S2.out.cell 4 rfl 0 rfl).1
                      have co1 : (wr.drew).cell? ⟨gO, 1, none⟩ = some (.slice (some ⟨gl, 0, none⟩) (c.f1.length + 1) vL2) := by rw [← eL]; exact (S2.out.cell 0 rfl 1 rfl).1
                      have S3 := Aside0.mk (show Parts w.heap.size w ((wr.drew).setCell ⟨gl, m * 2, none⟩ (.int .i64 (R.nexts[m]'(by omega)))) (rPs w.heap.size gO inp (c.f1.length + 1) ((.slice (some ⟨g1, 0, none⟩) 1 1), (.slice (some ⟨g2, 0, none⟩) 1 1)) (vL1, vL2) vA8 A5 ++ (pF w.heap.size (Kd.int .i64) 3 (.slice (some ⟨g2, 0, none⟩) 1 1) [B5] :: pF w.heap.size (Kd.int .i64) 3 (.slice (some ⟨g1, 0, none⟩) 1 1) [B2] :: pB gF 123 #[.slice Vn c.f1.length cn, .int .i64 R.bad, .int .i64 R.right] :: pF w.heap.size (Kd.int .i64) 3 (.slice Vn c.f1.length cn) R.nexts :: pF w.heap.size (Kd.int .i64) 3 (.slice vS.1 c.f1.length vS.2) M.2 :: pF w.heap.size (Kd.int .i64) 3 (.slice vH.1 s.hopes.length vH.2) s.hopes :: (ePs w.heap.size gU w.heap.size (w.heap.size + 1) k (fc5 p c) (vL1, vL2) vF vT vI (c.f1.length + 1) (someNexts c.f1 R.nexts (m + 1) ++ [⟨0, 1⟩]) F T hs (phRows c (pfFr c) k ++ [bIns 1 c.f0.toNat])))) from by
                        have h_ := S2.out
                        rw [eL] at h_
                        have h2 := h_.putNext 8 rfl m hx1 (R.nexts[m]'(by omega))
                        rw [hx2, ← eL] at h2
                        exact h2)
                      clear eA S eL S2 c1 hx2
                      generalize R.nexts[m]'(by omega) = x at *
                      refine start_ (n := 11) (S := (fun w' : World => w'.cell? (ad.add m) = some (.int .i64 x) ∧ w'.cell? ⟨gO, 1, none⟩ = some (.slice (some ⟨gl, 0, none⟩) (c.f1.length + 1) vL2) ∧ w'.cell? ⟨gF, 0, none⟩ = some (.slice (some ad) c.f1.length cn))) (ds := [10]) #[false, false, false, false, false, false, false, false, false, false, false] (by kernel_rfl) rfl rfl ⟨hc, co1, cf0⟩ (fun hHeld => ?_)
                      generalize wr.drew = w2 at *
                      have hlt2 : (m : Int) < ((c.f1.length + 1 : Nat) : Int) := by omega
                      have hlt3 : m < c.f1.length + 1 := by omega
                      have hlt4 : (m : Int) < (c.f1.length : Int) + 1 := by omega
                      refine pure_ (i := 0) (N := some 193) (v := ?_) (a' := ?_) #[true, false, false, false, false, false, false, false, false, false, false] rfl rfl (by kernel_rfl) (fun _ _ _ h => h) (Or.inl ⟨by rfl, ?_⟩) ?_ ?_
                      rotate_left
                      · intro w'
                        go_simp
                        with_reducible rfl
                      rotate_left
                      · simp only [Act.put, List.setIfInBounds_toArray, List.set_cons_zero, List.set_cons_succ]
                        rfl
                      refine take_ (i := 1) (N := some 194) (v := ?_) (a' := ?_) #[true, true, false, false, false, false, false, false, false, false, false] rfl rfl (by kernel_rfl) (fun _ _ _ h => h) (Or.inl ⟨by rfl, ?_⟩) hHeld ?_ ?_
                      rotate_left
                      · rintro w' ⟨s0, s1, s2⟩
                        go_simp
                        with_reducible rfl
                      rotate_left
                      · simp only [Act.put, List.setIfInBounds_toArray, List.set_cons_zero, List.set_cons_succ]
                        rfl
                      refine pure_ (i := 2) (N := some 195) (v := ?_) (a' := ?_) #[true, true, true, false, false, false, false, false, false, false, false] rfl rfl (by kernel_rfl) (fun _ _ _ h => h) (Or.inl ⟨by rfl, ?_⟩) ?_ ?_
                      rotate_left
                      · intro w'
                        go_simp
                        with_reducible rfl
                      rotate_left
                      · simp only [Act.put, List.setIfInBounds_toArray, List.set_cons_zero, List.set_cons_succ]
                        rfl
                      refine pure_ (i := 3) (N := some 196) (v := ?_) (a' := ?_) #[true, true, true, true, false, false, false, false, false, false, false] rfl rfl (by kernel_rfl) (fun _ _ _ h => h) (Or.inl ⟨by rfl, ?_⟩) ?_ ?_
                      rotate_left
                      · intro w'
                        go_simp
                        with_reducible rfl
                      rotate_left
                      · simp only [Act.put, List.setIfInBounds_toArray, List.set_cons_zero, List.set_cons_succ]
                        rfl
                      refine take_ (i := 4) (N := some 197) (v := ?_) (a' := ?_) #[true, true, true, true, true, false, false, false, false, false, false] rfl rfl (by kernel_rfl) (fun _ _ _ h => h) (Or.inl ⟨by rfl, ?_⟩) hHeld ?_ ?_
                      rotate_left
                      · rintro w' ⟨s0, s1, s2⟩
                        go_simp
                        with_reducible rfl
                      rotate_left
                      · simp only [Act.put, List.setIfInBounds_toArray, List.set_cons_zero, List.set_cons_succ]
                        rfl
                      refine pure_ (i := 5) (N := some 198) (v := ?_) (a' := ?_) #[true, true, true, true, true, true, false, false, false, false, false] rfl rfl (by kernel_rfl) (fun _ _ _ h => h) (Or.inl ⟨by rfl, ?_⟩) ?_ ?_
                      rotate_left
                      · intro w'
                        go_simp
                        with_reducible rfl
                      rotate_left
                      · simp only [Act.put, List.setIfInBounds_toArray, List.set_cons_zero, List.set_cons_succ]
                        rfl
                      refine pure_ (i := 6) (N := some 199) (v := ?_) (a' := ?_) #[true, true, true, true, true, true, true, false, false, false, false] rfl rfl (by kernel_rfl) (fun _ _ _ h => h) (Or.inl ⟨by rfl, ?_⟩) ?_ ?_
                      rotate_left
                      · intro w'
                        go_simp
                        with_reducible rfl
                      rotate_left
                      · simp only [Act.put, List.setIfInBounds_toArray, List.set_cons_zero, List.set_cons_succ]
                        rfl
                      refine take_ (i := 7) (N := some 200) (v := ?_) (a' := ?_) #[true, true, true, true, true, true, true, true, false, false, false] rfl rfl (by kernel_rfl) (fun _ _ _ h => h) (Or.inl ⟨by rfl, ?_⟩) hHeld ?_ ?_
                      rotate_left
                      · rintro w' ⟨s0, s1, s2⟩
                        go_simp
                        with_reducible rfl
                      rotate_left
                      · simp only [Act.put, List.setIfInBounds_toArray, List.set_cons_zero, List.set_cons_succ]
                        rfl
                      refine pure_ (i := 8) (N := some 201) (v := ?_) (a' := ?_) #[true, true, true, true, true, true, true, true, true, false, false] rfl rfl (by kernel_rfl) (fun _ _ _ h => h) (Or.inl ⟨by rfl, ?_⟩) ?_ ?_
                      rotate_left
                      · intro w'
                        go_simp
                        with_reducible rfl
                      rotate_left
                      · simp only [Act.put, List.setIfInBounds_toArray, List.set_cons_zero, List.set_cons_succ]
                        rfl
                      refine pure_ (i := 9) (N := some 202) (v := ?_) (a' := ?_) #[true, true, true, true, true, true, true, true, true, true, false] rfl rfl (by kernel_rfl) (fun _ _ _ h => h) (Or.inl ⟨by rfl, ?_⟩) ?_ ?_
                      rotate_left
                      · intro w'
                        go_simp
                        with_reducible rfl
                      rotate_left
                      · simp only [Act.put, List.setIfInBounds_toArray, List.set_cons_zero, List.set_cons_succ]
                        rfl
                      refine last_ (i := 10) (N := none) #[true, true, true, true, true, true, true, true, true, true, true] rfl rfl (by kernel_rfl) (by decide) (fun K hK => ?_)
                      refine skip_ (w1 := ?_) (by rfl) rfl ?_ ?_
                      rotate_left
                      · go_simp
                        rfl
                      refine hK.out _ _ ?_
                      clear hK K
                      refine done_ (by kernel_rfl) ?_
                      clear hHeld hc co1 cf0 u0 z0 hx1
                      go_wp2
                      go_roundg (c.f1.length - (m + 1))
                      case measure => have := HK.out; have := HLT.out; omega
                      case rel => exact ⟨m + 1, (by first | exact val_step HLT.out (by have := HSZ.out; omega) | exact congrArg (Value.int .i64) (by omega)), ⟨HLT.out, by have := HK.out; omega⟩, S3⟩
                    · have hk : m = c.f1.length := by have := HK.out; omega
                      subst hk
                      rw [someNexts_all hsl] at S
                      clear hlt HK
                      have HNL := Aside0.mk (show (setNexts c.f1 R.nexts ++ [(⟨0, 1⟩ : Latch)]).length = c.f1.length + 1 by rw [List.length_append, setNexts_len hsl]; rfl)
                      clear hsl
                      have HD2 := Aside0.mk (show A5.length ≤ 40000 by have := HAB.out; have := H1.out.1; have := H2.out.1; have := H3.out.1; have := H4.out.1; have := H5.out.1; omega)
                      obtain ⟨a0, a1, a2, a3, a4⟩ := blk5 (S.out.blk 0 rfl)
                      go_wp2_with fail
                      refine (ref02_SizeV inp (vL1, vL2) vA8 (c.f1.length + 1) A5.length ((.slice (some ⟨g1, 0, none⟩) 1 1), (.slice (some ⟨g2, 0, none⟩) 1 1)) _ HIB.out.1 (by have := HIB.out; omega) (by have := HSZ.out; omega) (by have := HD2.out; omega)).mono ?_
                      rintro e w23 ⟨rfl, hb⟩
                      have S20 := Aside0.mk (S.out.below hb)
                      clear hb S a0 a1 a2 a3 a4 c1
                      rw [← HEQ.out] at HPD
                      try dsimp only at HPD
                      by_cases hbig : 1000 < inp + ((c.f1.length + 1 : Nat) : Int) + (A5.length : Int)
                      · have HE2 := Aside0.mk (show pfDone c k = (zeroRd, 4) by rw [HPD.out, if_pos hbig])
                        generalize inp + ((c.f1.length + 1 : Nat) : Int) + (A5.length : Int) = nv at *
                        have HW := Aside0.mk (S20.out.put12 15 rfl (.int .i64 0) (.slice none 0 0) (.slice none 0 0) (.slice none 0 0) (.slice none 0 0) (.int .i64 0) (.int .i64 0) (.slice none 0 0) (.slice none 0 0) (.slice none 0 0) (.slice none 0 0) (.int .i64 0))
                        obtain ⟨r0, z0⟩ := S20.out.cell 15 rfl 0 rfl
                        obtain ⟨r1, z1⟩ := S20.out.cell 15 rfl 1 rfl
                        obtain ⟨r2, z2⟩ := S20.out.cell 15 rfl 2 rfl
                        obtain ⟨r3, z3⟩ := S20.out.cell 15 rfl 3 rfl
                        obtain ⟨r4, z4⟩ := S20.out.cell 15 rfl 4 rfl
                        obtain ⟨r5, z5⟩ := S20.out.cell 15 rfl 5 rfl
                        obtain ⟨r6, z6⟩ := S20.out.cell 15 rfl 6 rfl
                        obtain ⟨r7, z7⟩ := S20.out.cell 15 rfl 7 rfl
                        obtain ⟨r8, z8⟩ := S20.out.cell 15 rfl 8 rfl
                        obtain ⟨r9, z9⟩ := S20.out.cell 15 rfl 9 rfl
                        obtain ⟨r10, z10⟩ := S20.out.cell 15 rfl 10 rfl
                        obtain ⟨r11, z11⟩ := S20.out.cell 15 rfl 11 rfl
                        go_wp2
                        refine bodyPost_ret (results_ct rfl _ _ (w.heap.size + 1) 35 zCells (0, 0) _ rfl (HW.out.blk 15 rfl) hu35 rfl (by kernel_rfl)) rfl ?_
                        rw [HE2.out]
                        exact ⟨⟨none, 0, none, 0, none, 0, none, 0⟩, ⟨none, 0, none, 0, none, 0, none, 0⟩, rfl, fun W hW => ⟨⟨RS.nil _ _ _, RS.nil _ _ _, RS.nil _ _ _, RS.nil _ _ _⟩, ⟨RS.nil _ _ _, RS.nil _ _ _, RS.nil _ _ _, RS.nil _ _ _⟩⟩, HW.out.B⟩
                      · have HE2 := Aside0.mk (show pfDone c k = _ by rw [HPD.out, if_neg hbig])
                        generalize inp + ((c.f1.length + 1 : Nat) : Int) + (A5.length : Int) = nv at *
                        obtain ⟨a0, a1, a2, a3, a4⟩ := blk5 (S20.out.blk 0 rfl)
                        obtain ⟨⟨u0, u1, u2, u3, u4, u5, u6⟩, _⟩ := blk7 (S20.out.blk 9 rfl)
                        obtain ⟨r0, z0⟩ := S20.out.cell 15 rfl 0 rfl
                        obtain ⟨r1, z1⟩ := S20.out.cell 15 rfl 1 rfl
                        obtain ⟨r2, z2⟩ := S20.out.cell 15 rfl 2 rfl
                        obtain ⟨r3, z3⟩ := S20.out.cell 15 rfl 3 rfl
                        obtain ⟨r4, z4⟩ := S20.out.cell 15 rfl 4 rfl
                        obtain ⟨r5, z5⟩ := S20.out.cell 15 rfl 5 rfl
                        obtain ⟨r6, z6⟩ := S20.out.cell 15 rfl 6 rfl
                        obtain ⟨r7, z7⟩ := S20.out.cell 15 rfl 7 rfl
                        obtain ⟨r8, z8⟩ := S20.out.cell 15 rfl 8 rfl
                        obtain ⟨r9, z9⟩ := S20.out.cell 15 rfl 9 rfl
                        obtain ⟨r10, z10⟩ := S20.out.cell 15 rfl 10 rfl
                        obtain ⟨r11, z11⟩ := S20.out.cell 15 rfl 11 rfl
                        have HW := Aside0.mk (S20.out.put12 15 rfl (.int .i64 inp) (.slice vL1 (c.f1.length + 1) vL2) (.slice vA8.1 A5.length vA8.2) (.slice (some ⟨g1, 0, none⟩) 1 1) (.slice (some ⟨g2, 0, none⟩) 1 1) (.int .i64 (k : Int)) (.int .i64 1) (.slice vF.1 F.length vF.2) (.slice vI.1 hs.length vI.2) (.slice vT.1 T.length vT.2) (.slice none 0 0) (.int .i64 1))
                        go_wp2
                        refine bodyPost_ret (results_ct rfl _ _ (w.heap.size + 1) 35 _ (0, 0) _ rfl (HW.out.blk 15 rfl) hu35 rfl (by kernel_rfl)) rfl ?_
                        rw [HE2.out]
                        refine ⟨⟨vL1, vL2, vA8.1, vA8.2, some ⟨g1, 0, none⟩, 1, some ⟨g2, 0, none⟩, 1⟩, ⟨vF.1, vF.2, vI.1, vI.2, vT.1, vT.2, none, 0⟩, ?_, fun W hW => ⟨⟨HW.out.rowM hW 8 rfl, HW.out.rowM hW 1 rfl, HW.out.rowM hW 3 rfl, HW.out.rowM hW 2 rfl⟩, ⟨HW.out.rowM hW 10 rfl, HW.out.inRowsM hW 12 13 rfl rfl, HW.out.rowM hW 11 rfl, RS.nil _ _ _⟩⟩, HW.out.B⟩
                        have hil := HW.out.inLen 13 rfl
                        unfold rv
                        dsimp only
                        rw [HNL.out, ← hil]
                        rfl
end Go.Proofs.Ytpoadkogcdfglaa.PH
