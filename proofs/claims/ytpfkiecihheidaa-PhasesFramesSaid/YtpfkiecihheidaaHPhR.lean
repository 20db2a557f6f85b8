/- ref33.Made, walked. -/
import Derived.Test.YtpfkiecihheidaaHPhB
import Derived.Test.YtpfkiecihheidaaHRefD
import Derived.Test.YtpfkiecihheidaaHIdRef
namespace Go.Proofs.Ytpfkiecihheidaa.PH
open Go.RowKit Go.Proofs.YtpfkiecihheidaaW.PrintWords Go.Proofs.YtpfkiecihheidaaW.PrintLast
set_option linter.unusedVariables false
set_option linter.unusedSimpArgs false

abbrev NB : Value × Value := (.slice none 0 0, .slice none 0 0)
theorem infoLatchB : (Try.prog.info? 79).map (fun i => (i.zero, i.size, i.bytes)) = some (some (.agg #[.int .i64 0, .int .i64 0]), 2, 16) := by kernel_rfl
theorem r_made_does {b gC : Nat} {inp : Int} {nL : Nat} {bs : Value × Value} {vL vA : Option Addr × Nat} {ands : List Gate} {ps : List Pc} {w0 w : World} (S : Parts b w0 w (rPs b gC inp nL bs vL vA ands ++ ps)) (hO : BOk inp nL ands) {x y : Int} (hx : LB x) (hy : LB y) :
    Calls Try.prog 80 #[.pointer (some ⟨gC, 0, none⟩), .int .i64 x, .int .i64 y] w fun e w' => RRet b gC inp nL bs vL ps w0 w' (bAnd (inp + nL) ands x y) e := ref26_Made S hO hx hy
set_option maxHeartbeats 8000000 in
set_option maxRecDepth 100000 in
theorem ref33_Made (p : CP) (c : Circ) (w : World) (h : RC w p c) (hck : check c = 0) (k : Nat) (hk2 : 2 ≤ k) (hk4 : k ≤ 4) :
    Calls Try.prog 42 #[cv p c, .int .i64 (k : Int)] w fun e w' => RetRs w w' (phDone c k).1 (phDone c k).2 e := by
  have HH := Aside0.mk h
  have HB := Aside0.mk (cbnd_of hck)
  have HFI := Aside0.mk (cbnd_of hck).fin
  have HKK := Aside0.mk (And.intro hk2 hk4)
  have hu26 := Try.underlying26
  have hu127 := Try.underlying127
  have hu79 := Try.underlying79
  have hu31 := Try.underlying31
  have hu33 := Try.underlying33
  have hu35 := Try.underlying35
  have S0 := Aside0.mk (((Parts.start w).new 26 (fc5 p c)).new 35 zCells)
  rw [show (w.alloc (.cells (fc5 p c) 26)).heap.size = w.heap.size + 1 by simp] at S0
  have HSZ := Aside0.mk (show c.f1.length ≤ 1000 ∧ 0 ≤ c.f0 ∧ c.f0 ≤ 1000 by have h1 := HB.out.h0; have h2 := HB.out.n; omega)
  obtain ⟨inp, hinp⟩ : ∃ n : Int, (k : Int) * c.f0 = n := ⟨_, rfl⟩
  have HIN := Aside0.mk hinp
  have HIB := Aside0.mk (show 0 ≤ inp ∧ inp ≤ 4000 by
    have h1 := HB.out.h0; have h2 := HB.out.n; have h3 := HKK.out
    have h4 : c.f0 ≤ 1000 := by omega
    constructor
    · rw [← hinp]; exact Int.mul_nonneg (by omega) h1
    · rw [← hinp]; calc (k : Int) * c.f0 ≤ 4 * c.f0 := Int.mul_le_mul_of_nonneg_right (by omega) h1
        _ ≤ 4000 := by omega)
  have hw : IntKind.i64.wrap ((k : Int) * c.f0) = inp := by rw [hinp]; exact wrap_i64 (by have := HIB.out; omega) (by have := HIB.out; omega)
  clear hinp h hck hk2 hk4
  go_enter Try.func42, Try.ntmps42
  go_upto_region 1 with (fail)
  generalize (w.alloc (.cells (fc5 p c) 26)).alloc (.cells zCells 35) = w1 at *
  refine start_ (n := 11) (S := (fun w' : World => Parts w.heap.size w w' [pB (w.heap.size + 1) 35 zCells, pB w.heap.size 26 (fc5 p c)])) (ds := [10]) #[false, false, false, false, false, false, false, false, false, false, false] (by kernel_rfl) rfl rfl S0.out.drew (fun hHeld => ?_)
  have S1 := Aside0.mk S0.out.drew
  clear S0
  generalize w1.drew = w2 at *
  refine pure_ (i := 0) (N := some 19) (v := ?_) (a' := ?_) #[true, false, false, false, false, false, false, false, false, false, false] rfl rfl (by kernel_rfl) (fun _ _ _ h => h) (Or.inl ⟨by rfl, ?_⟩) ?_ ?_
  rotate_left
  · intro w'
    go_simp
    with_reducible rfl
  rotate_left
  · simp only [Act.put, List.setIfInBounds_toArray, List.set_cons_zero, List.set_cons_succ]
    rfl
  refine pure_ (i := 1) (N := some 20) (v := ?_) (a' := ?_) #[true, true, false, false, false, false, false, false, false, false, false] rfl rfl (by kernel_rfl) (fun _ _ _ h => h) (Or.inl ⟨by rfl, ?_⟩) ?_ ?_
  rotate_left
  · intro w'
    go_simp
    with_reducible rfl
  rotate_left
  · simp only [Act.put, List.setIfInBounds_toArray, List.set_cons_zero, List.set_cons_succ]
    rfl
  refine take_ (i := 2) (N := some 21) (v := ?_) (a' := ?_) #[true, true, true, false, false, false, false, false, false, false, false] rfl rfl (by kernel_rfl) (fun _ _ _ h => h) (Or.inl ⟨by rfl, ?_⟩) hHeld ?_ ?_
  rotate_left
  · intro w' s0
    obtain ⟨c0, c1, c2, c3, c4⟩ := blk5 (s0.blk 1 rfl)
    go_simp
    with_reducible rfl
  rotate_left
  · simp only [Act.put, List.setIfInBounds_toArray, List.set_cons_zero, List.set_cons_succ]
    rfl
  refine pure_ (i := 3) (N := some 22) (v := ?_) (a' := ?_) #[true, true, true, true, false, false, false, false, false, false, false] rfl rfl (by kernel_rfl) (fun _ _ _ h => h) (Or.inl ⟨by rfl, ?_⟩) ?_ ?_
  rotate_left
  · intro w'
    go_simp
    with_reducible rfl
  rotate_left
  · simp only [Act.put, List.setIfInBounds_toArray, List.set_cons_zero, List.set_cons_succ]
    rfl
  refine pure_ (i := 5) (N := some 24) (v := ?_) (a' := ?_) #[true, true, true, true, false, true, false, false, false, false, false] rfl rfl (by kernel_rfl) (fun _ _ _ h => h) (Or.inl ⟨by rfl, ?_⟩) ?_ ?_
  rotate_left
  · intro w'
    go_simp
    with_reducible rfl
  rotate_left
  · simp only [Act.put, List.setIfInBounds_toArray, List.set_cons_zero, List.set_cons_succ]
    rfl
  refine take_ (i := 6) (N := some 25) (v := ?_) (a' := ?_) #[true, true, true, true, false, true, true, false, false, false, false] rfl rfl (by kernel_rfl) (fun _ _ _ h => h) (Or.inl ⟨by rfl, ?_⟩) hHeld ?_ ?_
  rotate_left
  · intro w' s0
    obtain ⟨c0, c1, c2, c3, c4⟩ := blk5 (s0.blk 1 rfl)
    go_simp
    with_reducible rfl
  rotate_left
  · simp only [Act.put, List.setIfInBounds_toArray, List.set_cons_zero, List.set_cons_succ]
    rfl
  refine join_ (fuel' := 1) #[true, true, true, true, true, true, true, true, true, true, false] (fun s : Nat × (Option Addr × Nat) × (Option Addr × Nat) => [(23, .slice s.2.1.1 0 s.2.1.2), (26, .slice s.2.2.1 c.f1.length s.2.2.2), (27, .agg #[.int .i64 inp, .slice s.2.2.1 c.f1.length s.2.2.2, .slice none 0 0, .slice none 0 0, .slice none 0 0]), (6, .pointer (some ⟨s.1, 0, none⟩))]) (fun s w' => Parts w.heap.size w w' (pF w.heap.size kLatch 79 (.slice s.2.2.1 c.f1.length s.2.2.2) c.f1 :: pB s.1 26 #[.int .i64 0, .slice none 0 0, .slice none 0 0, .slice none 0 0, .slice none 0 0] :: [pB (w.heap.size + 1) 35 zCells, pB w.heap.size 26 (fc5 p c)])) ?hcont ?hjoin
  case hjoin =>
    intro hcont
    refine two_ (i := 4) (j := 9) (Ni := some 23) (Nj := some 6) #[true, true, true, true, true, true, true, false, false, false, false] #[true, true, true, true, false, true, true, false, false, true, false] rfl rfl rfl rfl (by kernel_rfl) (by decide) (by decide) (fun K hK => ?_) (fun K hK => ?_)
    · skip
      refine Parts.litS S1.out kLatch 79 flat_latch (by rfl) rfl [] [] (by first | (go_simp; done) | (go_simp; rfl)) (Reps.none _ _) (by decide) ?_
      intro V3 cap3 w3 h3
      have S3 := Aside0.mk h3
      clear h3
      refine hK.out _ _ S3.out.tail (fun hHeld => ?_)
      clear hK K
      refine norm_ (a' := ?_) ?_ ?_
      rotate_left
      · show Act.put _ (some 23) _ = _
        simp only [Act.put, List.setIfInBounds_toArray, List.set_cons_zero, List.set_cons_succ]
        rfl
      refine two_ (i := 7) (j := 9) (Ni := some 26) (Nj := some 6) #[true, true, true, true, true, true, true, true, false, false, false] #[true, true, true, true, true, true, true, false, false, true, false] rfl rfl rfl rfl (by kernel_rfl) (by decide) (by decide) (fun K hK => ?_) (fun K hK => ?_)
      · skip
        refine Parts.appendRS S3.out 0 rfl flat_latch flatK_latch (by rfl) (.tmp 23) (.tmp 25) 22 (.agg #[.int .i64 0, .int .i64 0]) 16 rfl Try.underlying22 infoLatchB rfl (by decide) (by decide) c.f1 p.A1 p.c1 rfl rfl (HH.out.below S3.out.B).s1 (by have := HSZ.out; simp only [List.length_nil]; omega) ?_
        rw [List.nil_append, show ([] : List Latch).length + c.f1.length = c.f1.length by simp]
        intro V4 cap4 w4 h4
        have S4 := Aside0.mk h4
        clear h4
        refine hK.out _ _ S4.out.tail (fun hHeld => ?_)
        clear hK K
        refine norm_ (a' := ?_) ?_ ?_
        rotate_left
        · show Act.put _ (some 26) _ = _
          simp only [Act.put, List.setIfInBounds_toArray, List.set_cons_zero, List.set_cons_succ]
          rfl
        refine pure_ (i := 8) (N := some 27) (v := ?_) (a' := ?_) #[true, true, true, true, true, true, true, true, true, false, false] rfl rfl (by kernel_rfl) (fun _ _ _ h => h) (Or.inl ⟨by rfl, ?_⟩) ?_ ?_
        rotate_left
        · intro w'
          go_simp
          with_reducible rfl
        rotate_left
        · simp only [Act.put, List.setIfInBounds_toArray, List.set_cons_zero, List.set_cons_succ]
          rfl
        refine one_ (i := 9) (N := some 6) #[true, true, true, true, true, true, true, true, true, true, false] rfl rfl (by kernel_rfl) (by decide) (fun K hK => ?_)
        refine value_ (w1 := ?_) (v := ?_) (by rfl) rfl ?_ ?_
        rotate_left 2
        · go_simp
          constructor
          · rfl
          · rfl
        refine hK.out _ _ (S4.out.tail.alloc _) (fun hHeld => ?_)
        clear hK K
        refine norm_ (a' := ?_) ?_ ?_
        rotate_left
        · show Act.put _ (some 6) _ = _
          simp only [Act.put, List.setIfInBounds_toArray, List.set_cons_zero, List.set_cons_succ]
          rfl
        refine norm_ ?_ (hcont (w4.heap.size, (V3, cap3), (V4, cap4)) _ ((S4.out.new 26 #[.int .i64 0, .slice none 0 0, .slice none 0 0, .slice none 0 0, .slice none 0 0]).take [1, 0, 2, 3] 4 (by simp) (by decide) (by decide)))
        simp only [putAll, Act.put, List.setIfInBounds_toArray, List.set_cons_zero, List.set_cons_succ] <;> rfl
      · skip
        refine value_ (w1 := ?_) (v := ?_) (by rfl) rfl ?_ ?_
        rotate_left 2
        · go_simp
          constructor
          · rfl
          · rfl
        have S9 := Aside0.mk (S3.out.new 26 #[.int .i64 0, .slice none 0 0, .slice none 0 0, .slice none 0 0, .slice none 0 0])
        refine hK.out _ _ S9.out.tail.tail (fun hHeld => ?_)
        clear hK K
        refine norm_ (a' := ?_) ?_ ?_
        rotate_left
        · show Act.put _ (some 6) _ = _
          simp only [Act.put, List.setIfInBounds_toArray, List.set_cons_zero, List.set_cons_succ]
          rfl
        refine one_ (i := 7) (N := some 26) #[true, true, true, true, true, true, true, true, false, true, false] rfl rfl (by kernel_rfl) (by decide) (fun K hK => ?_)
        refine Parts.appendRS S9.out 1 rfl flat_latch flatK_latch (by rfl) (.tmp 23) (.tmp 25) 22 (.agg #[.int .i64 0, .int .i64 0]) 16 rfl Try.underlying22 infoLatchB rfl (by decide) (by decide) c.f1 p.A1 p.c1 rfl rfl (HH.out.below S9.out.B).s1 (by have := HSZ.out; simp only [List.length_nil]; omega) ?_
        rw [List.nil_append, show ([] : List Latch).length + c.f1.length = c.f1.length by simp]
        intro V4 cap4 w4 h4
        have S4 := Aside0.mk h4
        clear h4
        refine hK.out _ _ S4.out.tail.tail (fun hHeld => ?_)
        clear hK K
        refine norm_ (a' := ?_) ?_ ?_
        rotate_left
        · show Act.put _ (some 26) _ = _
          simp only [Act.put, List.setIfInBounds_toArray, List.set_cons_zero, List.set_cons_succ]
          rfl
        refine pure_ (i := 8) (N := some 27) (v := ?_) (a' := ?_) #[true, true, true, true, true, true, true, true, true, true, false] rfl rfl (by kernel_rfl) (fun _ _ _ h => h) (Or.inl ⟨by rfl, ?_⟩) ?_ ?_
        rotate_left
        · intro w'
          go_simp
          with_reducible rfl
        rotate_left
        · simp only [Act.put, List.setIfInBounds_toArray, List.set_cons_zero, List.set_cons_succ]
          rfl
        refine norm_ ?_ (hcont (w3.heap.size, (V3, cap3), (V4, cap4)) _ (S4.out.take [1, 0, 2, 3] 4 (by simp) (by decide) (by decide)))
        simp only [putAll, Act.put, List.setIfInBounds_toArray, List.set_cons_zero, List.set_cons_succ] <;> rfl
    · skip
      refine value_ (w1 := ?_) (v := ?_) (by rfl) rfl ?_ ?_
      rotate_left 2
      · go_simp
        constructor
        · rfl
        · rfl
      have S9 := Aside0.mk (S1.out.new 26 #[.int .i64 0, .slice none 0 0, .slice none 0 0, .slice none 0 0, .slice none 0 0])
      refine hK.out _ _ S9.out.tail (fun hHeld => ?_)
      clear hK K
      refine norm_ (a' := ?_) ?_ ?_
      rotate_left
      · show Act.put _ (some 6) _ = _
        simp only [Act.put, List.setIfInBounds_toArray, List.set_cons_zero, List.set_cons_succ]
        rfl
      refine one_ (i := 4) (N := some 23) #[true, true, true, true, true, true, true, false, false, true, false] rfl rfl (by kernel_rfl) (by decide) (fun K hK => ?_)
      refine Parts.litS S9.out kLatch 79 flat_latch (by rfl) rfl [] [] (by first | (go_simp; done) | (go_simp; rfl)) (Reps.none _ _) (by decide) ?_
      intro V3 cap3 w3 h3
      have S3 := Aside0.mk h3
      clear h3
      refine hK.out _ _ S3.out.tail.tail (fun hHeld => ?_)
      clear hK K
      refine norm_ (a' := ?_) ?_ ?_
      rotate_left
      · show Act.put _ (some 23) _ = _
        simp only [Act.put, List.setIfInBounds_toArray, List.set_cons_zero, List.set_cons_succ]
        rfl
      refine one_ (i := 7) (N := some 26) #[true, true, true, true, true, true, true, true, false, true, false] rfl rfl (by kernel_rfl) (by decide) (fun K hK => ?_)
      refine Parts.appendRS S3.out 0 rfl flat_latch flatK_latch (by rfl) (.tmp 23) (.tmp 25) 22 (.agg #[.int .i64 0, .int .i64 0]) 16 rfl Try.underlying22 infoLatchB rfl (by decide) (by decide) c.f1 p.A1 p.c1 rfl rfl (HH.out.below S3.out.B).s1 (by have := HSZ.out; simp only [List.length_nil]; omega) ?_
      rw [List.nil_append, show ([] : List Latch).length + c.f1.length = c.f1.length by simp]
      intro V4 cap4 w4 h4
      have S4 := Aside0.mk h4
      clear h4
      refine hK.out _ _ S4.out.tail.tail (fun hHeld => ?_)
      clear hK K
      refine norm_ (a' := ?_) ?_ ?_
      rotate_left
      · show Act.put _ (some 26) _ = _
        simp only [Act.put, List.setIfInBounds_toArray, List.set_cons_zero, List.set_cons_succ]
        rfl
      refine pure_ (i := 8) (N := some 27) (v := ?_) (a' := ?_) #[true, true, true, true, true, true, true, true, true, true, false] rfl rfl (by kernel_rfl) (fun _ _ _ h => h) (Or.inl ⟨by rfl, ?_⟩) ?_ ?_
      rotate_left
      · intro w'
        go_simp
        with_reducible rfl
      rotate_left
      · simp only [Act.put, List.setIfInBounds_toArray, List.set_cons_zero, List.set_cons_succ]
        rfl
      refine norm_ ?_ (hcont (w2.heap.size, (V3, cap3), (V4, cap4)) _ S4.out)
      simp only [putAll, Act.put, List.setIfInBounds_toArray, List.set_cons_zero, List.set_cons_succ] <;> rfl
  case hcont =>
    rintro ⟨gO, ⟨V3, cap3⟩, vL1, vL2⟩ w8 l8
    dsimp only at l8 ⊢
    have S8 := Aside0.mk l8
    clear l8 S1
    refine norm_ (a' := ?_) ?_ ?_
    rotate_left
    · simp only [putAll, Act.put, List.setIfInBounds_toArray, List.set_cons_zero, List.set_cons_succ]
      rfl
    obtain ⟨r0, z0⟩ := S8.out.cell 1 rfl 0 rfl
    obtain ⟨r1, z1⟩ := S8.out.cell 1 rfl 1 rfl
    obtain ⟨r2, z2⟩ := S8.out.cell 1 rfl 2 rfl
    obtain ⟨r3, z3⟩ := S8.out.cell 1 rfl 3 rfl
    obtain ⟨r4, z4⟩ := S8.out.cell 1 rfl 4 rfl
    refine last_ (i := 10) (N := none) #[true, true, true, true, true, true, true, true, true, true, true] rfl rfl (by kernel_rfl) (by decide) (fun K hK => ?_)
    refine skip_ (w1 := ?_) (by rfl) rfl ?_ ?_
    rotate_left
    · go_simp
      rfl
    refine hK.out _ _ ?_
    clear hK K
    refine done_ (by kernel_rfl) ?_
    have S9 := Aside0.mk (((((S8.out.put 1 rfl 0 (.int .i64 inp) rfl).put 1 rfl 1 (.slice vL1 c.f1.length vL2) rfl).put 1 rfl 2 (.slice none 0 0) rfl).put 1 rfl 3 (.slice none 0 0) rfl).put 1 rfl 4 (.slice none 0 0) rfl)
    clear S8 r0 z0 r1 z1 r2 z2 r3 z3 r4 z4 hw hHeld
    generalize ((((w8.setCell ⟨gO, 0, none⟩ (.int .i64 inp)).setCell ⟨gO, 1, none⟩ (.slice vL1 c.f1.length vL2)).setCell ⟨gO, 2, none⟩ (.slice none 0 0)).setCell ⟨gO, 3, none⟩ (.slice none 0 0)).setCell ⟨gO, 4, none⟩ (.slice none 0 0) = w9 at *
    go_wp2_with fail
    refine (ref25_True _).mono ?_
    rintro e w10 ⟨rfl, hb⟩
    go_upto_region 5 with (fail)
    have S10 := Aside0.mk (show Parts w.heap.size w (w10.alloc (.cells #[.int .i64 0, .int .i64 (k : Int), .slice none 0 0, .slice none 0 0, .slice none 0 0, .slice none 0 0, .int .i64 1] 33)) (rPs w.heap.size gO inp c.f1.length NB (vL1, vL2) (none, 0) [] ++ (pF w.heap.size (Kd.int .i64) 3 (.slice ((none, 0) : Option Addr × Nat).1 0 ((none, 0) : Option Addr × Nat).2) [] :: pF w.heap.size (Kd.int .i64) 3 (.slice ((none, 0) : Option Addr × Nat).1 0 ((none, 0) : Option Addr × Nat).2) [] :: ePs w.heap.size w10.heap.size w.heap.size (w.heap.size + 1) k (fc5 p c) (vL1, vL2) (none, 0) (none, 0) (none, 0) c.f1.length c.f1 [] [] [] [])) from by
      have h1 := ((((((((S9.out.below hb).new 33 #[.int .i64 0, .int .i64 (k : Int), .slice none 0 0, .slice none 0 0, .slice none 0 0, .slice none 0 0, .int .i64 1]).nil kGate 45).nil (Kd.int .i64) 3).nil (Kd.int .i64) 3).nil (Kd.int .i64) 3).nil (Kd.int .i64) 3).nil kHead 24).inNil (Kd.int .i64) 3
      exact h1.take [9, 6, 5, 4, 8, 7, 3, 2, 1, 0, 11, 10] 12 (by simp) (by decide) (by decide))
    clear S9 hb
    generalize w10.heap.size = gU at *
    generalize w10.alloc (.cells #[.int .i64 0, .int .i64 (k : Int), .slice none 0 0, .slice none 0 0, .slice none 0 0, .slice none 0 0, .int .i64 1] 33) = w11 at *
    go_loopg [8, 10] c.f1.length (fun gg s8 s10 wr => ∃ (m : Nat) (vS vF vT : Option Addr × Nat), s8 = .slice vS.1 m vS.2 ∧ s10 = .int .i64 m ∧ Aside0 (m ≤ c.f1.length ∧ c.f1.length - m ≤ gg) ∧ Aside0 (Parts w.heap.size w wr (rPs w.heap.size gO inp c.f1.length NB (vL1, vL2) (none, 0) [] ++ (pF w.heap.size (Kd.int .i64) 3 (.slice vS.1 m vS.2) (lasOf inp m) :: pF w.heap.size (Kd.int .i64) 3 (.slice ((none, 0) : Option Addr × Nat).1 0 ((none, 0) : Option Addr × Nat).2) [] :: ePs w.heap.size gU w.heap.size (w.heap.size + 1) k (fc5 p c) (vL1, vL2) vF vT (none, 0) c.f1.length c.f1 (lasOf inp m) (lasOf c.f0 m) [] []))))
    case atStart => exact ⟨0, (none, 0), (none, 0), (none, 0), rfl, rfl, ⟨by omega, by omega⟩, S10⟩
    case round =>
      clear S10
      obtain ⟨m, vS, vF, vT, rfl, rfl, HK, S⟩ := hrel
      have c1 : wr.cell? ⟨w.heap.size, 1, none⟩ = some (.slice p.A1 c.f1.length p.c1) := (S.out.cell 10 rfl 1 rfl).1
      by_cases hlt : m < c.f1.length
      · -- <done
        have HLT := Aside0.mk hlt
        have hlti : (m : Int) < (c.f1.length : Int) := by omega
        obtain ⟨y, hy⟩ : ∃ y : Int, 2 * (inp + 1 + (m : Int)) = y := ⟨_, rfl⟩
        have HY := Aside0.mk (show latchOf ⟨inp, c.f1, [], [], []⟩ (m : Int) = y by
          have h1 := HIB.out; have h2 := HSZ.out
          unfold latchOf
          dsimp only
          rw [wrap_in (x := inp + 1) (by omega) (by omega), wrap_in (x := inp + 1 + (m : Int)) (by omega) (by omega), wrap_in (by omega) (by omega), hy])
        have HSF := Aside0.mk (show lasOf inp (m + 1) = lasOf inp m ++ [y] by rw [lasOf_succ, hy])
        have HLF := Aside0.mk (show m = (lasOf inp m).length from (lasOf_len _ _).symm)
        obtain ⟨z, hz⟩ : ∃ y : Int, 2 * (c.f0 + 1 + (m : Int)) = y := ⟨_, rfl⟩
        have HZ := Aside0.mk (show latchOf c (m : Int) = z by
          have h2 := HSZ.out
          unfold latchOf
          rw [wrap_in (x := c.f0 + 1) (by omega) (by omega), wrap_in (x := c.f0 + 1 + (m : Int)) (by omega) (by omega), wrap_in (by omega) (by omega), hz])
        have HST := Aside0.mk (show lasOf c.f0 (m + 1) = lasOf c.f0 m ++ [z] by rw [lasOf_succ, hz])
        have HLG := Aside0.mk (show (lasOf c.f0 m).length = m from lasOf_len _ _)
        clear hy hz hlt
        generalize lasOf inp m = F at *
        generalize lasOf c.f0 m = T at *
        obtain ⟨o0, o1, o2, o3, o4⟩ := blk5 (S.out.blk 0 rfl)
        go_wp2_with fail
        refine (ref25_Latch ⟨vL1, vL2, none, 0, none, 0, none, 0⟩ ⟨inp, c.f1, [], [], []⟩ (m : Int) _).mono ?_
        rintro e w12 ⟨rfl, hb⟩
        rw [HY.out]
        have S2 := Aside0.mk (show Parts w.heap.size w w12 (rPs w.heap.size gO inp c.f1.length NB (vL1, vL2) (none, 0) [] ++ (pF w.heap.size (Kd.int .i64) 3 (.slice vS.1 F.length vS.2) F :: pF w.heap.size (Kd.int .i64) 3 (.slice ((none, 0) : Option Addr × Nat).1 0 ((none, 0) : Option Addr × Nat).2) [] :: ePs w.heap.size gU w.heap.size (w.heap.size + 1) k (fc5 p c) (vL1, vL2) vF vT (none, 0) c.f1.length c.f1 F T [] [])) from by
          have h_ := S.out.below hb
          have hm := HLF.out
          have e1 : pF w.heap.size (Kd.int .i64) 3 (.slice vS.1 m vS.2) F = pF w.heap.size (Kd.int .i64) 3 (.slice vS.1 F.length vS.2) F := by rw [← hm]
          rw [e1] at h_
          exact h_)
        clear hb S o0 o1 o2 o3 o4 c1
        go_upto_region 8 with (first | (at_builtin; refine Parts.appendL S2.out 2 rfl flat_int rfl (.tmp 38) (.tmp 42) 24 (.int .i64 0) 8 rfl Try.underlying24 infoInt rfl (by decide) (by decide) y [.int .i64 y] (by have h_ := HLF.out; show Value.slice vS.1 m vS.2 = Value.slice vS.1 F.length vS.2; rw [← h_]) rfl rfl (by have := HLF.out; have := HLT.out; have := HSZ.out; omega) ?_; intro V5 cap5 w13 h13; have S13 := Aside0.mk h13; clear h13) | fail)
        clear S2
        have q := (⟨(S13.out.cell 5 rfl 2 rfl).1, blk5 (S13.out.blk 0 rfl)⟩ : _ ∧ _)
        refine start_ (n := 9) (S := (fun w' : World => w'.cell? ⟨gU, 2, none⟩ = some (.slice vF.1 F.length vF.2) ∧ w'.cell? ⟨gO, 0, none⟩ = some (.int .i64 inp) ∧ w'.cell? ⟨gO, 1, none⟩ = some (.slice vL1 c.f1.length vL2) ∧ w'.cell? ⟨gO, 2, none⟩ = some (.slice none 0 0) ∧ w'.cell? ⟨gO, 3, none⟩ = some (.slice none 0 0) ∧ w'.cell? ⟨gO, 4, none⟩ = some (.slice none 0 0))) (ds := [8]) #[false, false, false, false, false, false, false, false, false] (by kernel_rfl) rfl rfl q (fun hHeld => ?_)
        clear q
        have S2 := Aside0.mk S13.out.drew
        clear S13
        generalize w13.drew = w14 at *
        refine pure_ (i := 0) (N := some 44) (v := ?_) (a' := ?_) #[true, false, false, false, false, false, false, false, false] rfl rfl (by kernel_rfl) (fun _ _ _ h => h) (Or.inl ⟨by rfl, ?_⟩) ?_ ?_
        rotate_left
        · intro w'
          go_simp
          with_reducible rfl
        rotate_left
        · simp only [Act.put, List.setIfInBounds_toArray, List.set_cons_zero, List.set_cons_succ]
          rfl
        refine take_ (i := 1) (N := some 45) (v := ?_) (a' := ?_) #[true, true, false, false, false, false, false, false, false] rfl rfl (by kernel_rfl) (fun _ _ _ h => h) (Or.inl ⟨by rfl, ?_⟩) hHeld ?_ ?_
        rotate_left
        · rintro w' ⟨s0, s1, s2, s3, s4, s5⟩
          go_simp
          with_reducible rfl
        rotate_left
        · simp only [Act.put, List.setIfInBounds_toArray, List.set_cons_zero, List.set_cons_succ]
          rfl
        refine take_ (i := 2) (N := some 46) (v := ?_) (a' := ?_) #[true, true, true, false, false, false, false, false, false] rfl rfl (by kernel_rfl) (fun _ _ _ h => h) (Or.inl ⟨by rfl, ?_⟩) hHeld ?_ ?_
        rotate_left
        · rintro w' ⟨s0, s1, s2, s3, s4, s5⟩
          go_simp
          with_reducible rfl
        rotate_left
        · simp only [Act.put, List.setIfInBounds_toArray, List.set_cons_zero, List.set_cons_succ]
          rfl
        refine pure_ (i := 3) (N := some 47) (v := ?_) (a' := ?_) #[true, true, true, true, false, false, false, false, false] rfl rfl (by kernel_rfl) (fun _ _ _ h => h) (Or.inl ⟨by rfl, ?_⟩) ?_ ?_
        rotate_left
        · intro w'
          go_simp
          with_reducible rfl
        rotate_left
        · simp only [Act.put, List.setIfInBounds_toArray, List.set_cons_zero, List.set_cons_succ]
          rfl
        refine one_ (i := 4) (N := some 48) #[true, true, true, true, true, false, false, false, false] rfl rfl (by kernel_rfl) (by decide) (fun K hK => ?_)
        refine goes_ Try.func48 (by kernel_rfl) rfl #[cv ⟨vL1, vL2, none, 0, none, 0, none, 0⟩ ⟨inp, c.f1, [], [], []⟩, .int .i64 (m : Int)] (by rfl) rfl rfl (by simp only [List.map_toArray, List.map_cons, List.map_nil] <;> rfl) ?_
        refine (ref25_Latch ⟨vL1, vL2, none, 0, none, 0, none, 0⟩ ⟨inp, c.f1, [], [], []⟩ (m : Int) _).mono ?_
        rintro e w15 ⟨rfl, hb⟩
        refine ⟨_, rfl, ?_⟩
        rw [HY.out]
        have S3 := Aside0.mk (S2.out.below hb)
        clear hb S2
        refine hK.out _ _ ⟨(S3.out.cell 5 rfl 2 rfl).1, blk5 (S3.out.blk 0 rfl)⟩ (fun hHeld => ?_)
        clear hK K
        refine norm_ (a' := ?_) ?_ ?_
        rotate_left
        · show Act.put _ (some 48) _ = _
          simp only [Act.put, List.setIfInBounds_toArray, List.set_cons_zero, List.set_cons_succ]
          rfl
        refine one_ (i := 5) (N := some 49) #[true, true, true, true, true, true, false, false, false] rfl rfl (by kernel_rfl) (by decide) (fun K hK => ?_)
        refine value_ (w1 := ?_) (v := ?_) (by rfl) rfl ?_ ?_
        rotate_left 2
        · go_simp
          constructor
          · rfl
          · rfl
        refine hK.out _ _ ⟨(World.cell?_alloc_lt _ _ _ (World.block_lt_of_cell? _ _ hHeld.1)).trans hHeld.1, (World.cell?_alloc_lt _ _ _ (World.block_lt_of_cell? _ _ hHeld.2.1)).trans hHeld.2.1, (World.cell?_alloc_lt _ _ _ (World.block_lt_of_cell? _ _ hHeld.2.2.1)).trans hHeld.2.2.1, (World.cell?_alloc_lt _ _ _ (World.block_lt_of_cell? _ _ hHeld.2.2.2.1)).trans hHeld.2.2.2.1, (World.cell?_alloc_lt _ _ _ (World.block_lt_of_cell? _ _ hHeld.2.2.2.2.1)).trans hHeld.2.2.2.2.1, (World.cell?_alloc_lt _ _ _ (World.block_lt_of_cell? _ _ hHeld.2.2.2.2.2)).trans hHeld.2.2.2.2.2⟩ (fun hHeld => ?_)
        clear hK K
        refine norm_ (a' := ?_) ?_ ?_
        rotate_left
        · show Act.put _ (some 49) _ = _
          simp only [Act.put, List.setIfInBounds_toArray, List.set_cons_zero, List.set_cons_succ]
          rfl
        refine one_ (i := 6) (N := some 50) #[true, true, true, true, true, true, true, false, false] rfl rfl (by kernel_rfl) (by decide) (fun K hK => ?_)
        refine Parts.appendS S3.out 6 rfl flat_int (by rfl) (.tmp 45) (.tmp 49) 24 (.int .i64 0) 8 rfl Try.underlying24 infoInt rfl (by decide) (by decide) y [.int .i64 y] rfl rfl rfl (by have := HLF.out; have := HLT.out; have := HSZ.out; omega) ?_
        intro V6 cap6 w16 h16
        have S6 := Aside0.mk h16
        clear h16 S3
        refine hK.out _ _ ⟨(S6.out.cell 5 rfl 2 rfl).1, blk5 (S6.out.blk 0 rfl)⟩ (fun hHeld => ?_)
        clear hK K
        refine norm_ (a' := ?_) ?_ ?_
        rotate_left
        · show Act.put _ (some 50) _ = _
          simp only [Act.put, List.setIfInBounds_toArray, List.set_cons_zero, List.set_cons_succ]
          rfl
        obtain ⟨c0, f0⟩ := S6.out.cell 5 rfl 2 rfl
        refine pure_ (i := 7) (N := some 51) (v := ?_) (a' := ?_) #[true, true, true, true, true, true, true, true, false] rfl rfl (by kernel_rfl) (fun _ _ _ h => h) (Or.inl ⟨by rfl, ?_⟩) ?_ ?_
        rotate_left
        · intro w'
          go_simp
          with_reducible rfl
        rotate_left
        · simp only [Act.put, List.setIfInBounds_toArray, List.set_cons_zero, List.set_cons_succ]
          rfl
        refine last_ (i := 8) (N := none) #[true, true, true, true, true, true, true, true, true] rfl rfl (by kernel_rfl) (by decide) (fun K hK => ?_)
        refine skip_ (w1 := ?_) (by rfl) rfl ?_ ?_
        rotate_left
        · go_simp
          rfl
        refine hK.out _ _ ?_
        clear hK K
        refine done_ (by kernel_rfl) ?_
        have S7 := Aside0.mk (S6.out.put 5 rfl 2 (.slice V6 (F.length + 1) cap6) rfl)
        clear S6 c0 f0
        go_upto_region 9 with (fail)
        generalize w16.setCell ⟨gU, 2, none⟩ (.slice V6 (F.length + 1) cap6) = w17 at *
        have q := (⟨(S7.out.cell 5 rfl 4 rfl).1, blk5 (S7.out.blk 10 rfl)⟩ : _ ∧ _)
        refine start_ (n := 9) (S := (fun w' : World => w'.cell? ⟨gU, 4, none⟩ = some (.slice vT.1 T.length vT.2) ∧ w'.cell? ⟨w.heap.size, 0, none⟩ = some (.int .i64 c.f0) ∧ w'.cell? ⟨w.heap.size, 1, none⟩ = some (.slice p.A1 c.f1.length p.c1) ∧ w'.cell? ⟨w.heap.size, 2, none⟩ = some (.slice p.A2 c.f2.length p.c2) ∧ w'.cell? ⟨w.heap.size, 3, none⟩ = some (.slice p.A3 c.f3.length p.c3) ∧ w'.cell? ⟨w.heap.size, 4, none⟩ = some (.slice p.A4 c.f4.length p.c4))) (ds := [8]) #[false, false, false, false, false, false, false, false, false] (by kernel_rfl) rfl rfl q (fun hHeld => ?_)
        clear q
        have S2 := Aside0.mk S7.out.drew
        clear S7
        generalize w17.drew = w18 at *
        refine pure_ (i := 0) (N := some 52) (v := ?_) (a' := ?_) #[true, false, false, false, false, false, false, false, false] rfl rfl (by kernel_rfl) (fun _ _ _ h => h) (Or.inl ⟨by rfl, ?_⟩) ?_ ?_
        rotate_left
        · intro w'
          go_simp
          with_reducible rfl
        rotate_left
        · simp only [Act.put, List.setIfInBounds_toArray, List.set_cons_zero, List.set_cons_succ]
          rfl
        refine take_ (i := 1) (N := some 53) (v := ?_) (a' := ?_) #[true, true, false, false, false, false, false, false, false] rfl rfl (by kernel_rfl) (fun _ _ _ h => h) (Or.inl ⟨by rfl, ?_⟩) hHeld ?_ ?_
        rotate_left
        · rintro w' ⟨s0, s1, s2, s3, s4, s5⟩
          go_simp
          with_reducible rfl
        rotate_left
        · simp only [Act.put, List.setIfInBounds_toArray, List.set_cons_zero, List.set_cons_succ]
          rfl
        refine take_ (i := 2) (N := some 54) (v := ?_) (a' := ?_) #[true, true, true, false, false, false, false, false, false] rfl rfl (by kernel_rfl) (fun _ _ _ h => h) (Or.inl ⟨by rfl, ?_⟩) hHeld ?_ ?_
        rotate_left
        · rintro w' ⟨s0, s1, s2, s3, s4, s5⟩
          go_simp
          with_reducible rfl
        rotate_left
        · simp only [Act.put, List.setIfInBounds_toArray, List.set_cons_zero, List.set_cons_succ]
          rfl
        refine pure_ (i := 3) (N := some 55) (v := ?_) (a' := ?_) #[true, true, true, true, false, false, false, false, false] rfl rfl (by kernel_rfl) (fun _ _ _ h => h) (Or.inl ⟨by rfl, ?_⟩) ?_ ?_
        rotate_left
        · intro w'
          go_simp
          with_reducible rfl
        rotate_left
        · simp only [Act.put, List.setIfInBounds_toArray, List.set_cons_zero, List.set_cons_succ]
          rfl
        refine one_ (i := 4) (N := some 56) #[true, true, true, true, true, false, false, false, false] rfl rfl (by kernel_rfl) (by decide) (fun K hK => ?_)
        refine goes_ Try.func48 (by kernel_rfl) rfl #[cv p c, .int .i64 (m : Int)] (by rfl) rfl rfl (by simp only [List.map_toArray, List.map_cons, List.map_nil] <;> rfl) ?_
        refine (ref25_Latch p c (m : Int) _).mono ?_
        rintro e w19 ⟨rfl, hb⟩
        refine ⟨_, rfl, ?_⟩
        rw [HZ.out]
        have S3 := Aside0.mk (S2.out.below hb)
        clear hb S2
        refine hK.out _ _ ⟨(S3.out.cell 5 rfl 4 rfl).1, blk5 (S3.out.blk 10 rfl)⟩ (fun hHeld => ?_)
        clear hK K
        refine norm_ (a' := ?_) ?_ ?_
        rotate_left
        · show Act.put _ (some 56) _ = _
          simp only [Act.put, List.setIfInBounds_toArray, List.set_cons_zero, List.set_cons_succ]
          rfl
        refine one_ (i := 5) (N := some 57) #[true, true, true, true, true, true, false, false, false] rfl rfl (by kernel_rfl) (by decide) (fun K hK => ?_)
        refine value_ (w1 := ?_) (v := ?_) (by rfl) rfl ?_ ?_
        rotate_left 2
        · go_simp
          constructor
          · rfl
          · rfl
        refine hK.out _ _ ⟨(World.cell?_alloc_lt _ _ _ (World.block_lt_of_cell? _ _ hHeld.1)).trans hHeld.1, (World.cell?_alloc_lt _ _ _ (World.block_lt_of_cell? _ _ hHeld.2.1)).trans hHeld.2.1, (World.cell?_alloc_lt _ _ _ (World.block_lt_of_cell? _ _ hHeld.2.2.1)).trans hHeld.2.2.1, (World.cell?_alloc_lt _ _ _ (World.block_lt_of_cell? _ _ hHeld.2.2.2.1)).trans hHeld.2.2.2.1, (World.cell?_alloc_lt _ _ _ (World.block_lt_of_cell? _ _ hHeld.2.2.2.2.1)).trans hHeld.2.2.2.2.1, (World.cell?_alloc_lt _ _ _ (World.block_lt_of_cell? _ _ hHeld.2.2.2.2.2)).trans hHeld.2.2.2.2.2⟩ (fun hHeld => ?_)
        clear hK K
        refine norm_ (a' := ?_) ?_ ?_
        rotate_left
        · show Act.put _ (some 57) _ = _
          simp only [Act.put, List.setIfInBounds_toArray, List.set_cons_zero, List.set_cons_succ]
          rfl
        refine one_ (i := 6) (N := some 58) #[true, true, true, true, true, true, true, false, false] rfl rfl (by kernel_rfl) (by decide) (fun K hK => ?_)
        refine Parts.appendS S3.out 7 rfl flat_int (by rfl) (.tmp 53) (.tmp 57) 24 (.int .i64 0) 8 rfl Try.underlying24 infoInt rfl (by decide) (by decide) z [.int .i64 z] rfl rfl rfl (by have := HLG.out; have := HLT.out; have := HSZ.out; omega) ?_
        intro V7 cap7 w20 h20
        have S6 := Aside0.mk h20
        clear h20 S3
        refine hK.out _ _ ⟨(S6.out.cell 5 rfl 4 rfl).1, blk5 (S6.out.blk 10 rfl)⟩ (fun hHeld => ?_)
        clear hK K
        refine norm_ (a' := ?_) ?_ ?_
        rotate_left
        · show Act.put _ (some 58) _ = _
          simp only [Act.put, List.setIfInBounds_toArray, List.set_cons_zero, List.set_cons_succ]
          rfl
        obtain ⟨c0, f0⟩ := S6.out.cell 5 rfl 4 rfl
        refine pure_ (i := 7) (N := some 59) (v := ?_) (a' := ?_) #[true, true, true, true, true, true, true, true, false] rfl rfl (by kernel_rfl) (fun _ _ _ h => h) (Or.inl ⟨by rfl, ?_⟩) ?_ ?_
        rotate_left
        · intro w'
          go_simp
          with_reducible rfl
        rotate_left
        · simp only [Act.put, List.setIfInBounds_toArray, List.set_cons_zero, List.set_cons_succ]
          rfl
        refine last_ (i := 8) (N := none) #[true, true, true, true, true, true, true, true, true] rfl rfl (by kernel_rfl) (by decide) (fun K hK => ?_)
        refine skip_ (w1 := ?_) (by rfl) rfl ?_ ?_
        rotate_left
        · go_simp
          rfl
        refine hK.out _ _ ?_
        clear hK K
        refine done_ (by kernel_rfl) ?_
        have S7 := Aside0.mk (S6.out.put 5 rfl 4 (.slice V7 (T.length + 1) cap7) rfl)
        clear S6 c0 f0
        go_wp2
        go_roundg (c.f1.length - (m + 1))
        case measure => have := HK.out; have := HLT.out; omega
        case rel =>
         have hm := HLF.out
         exact ⟨m + 1, (V5, cap5), (V6, cap6), (V7, cap7), (by rw [← hm]), (by first | exact val_step HLT.out (by have := HSZ.out; omega) | exact congrArg (Value.int .i64) (by omega)), ⟨HLT.out, by have := HK.out; omega⟩, ⟨by
          rw [HSF.out, HST.out]
          have e1 : (F ++ [y]).length = F.length + 1 := by simp
          have e2 : (T ++ [z]).length = T.length + 1 := by simp
          rw [show m + 1 = F.length + 1 by rw [← hm]]
          unfold ePs
          rw [e1, e2]
          exact S7.out⟩⟩
      · have hk : m = c.f1.length := by have := HK.out; omega
        subst hk
        clear hlt HK
        have HF0 := Aside0.mk (show lasOf inp c.f1.length = (ph0 inp c).state from rfl)
        obtain ⟨F, hF⟩ : ∃ F, lasOf inp c.f1.length = F := ⟨_, rfl⟩
        obtain ⟨T, hT⟩ : ∃ T, lasOf c.f0 c.f1.length = T := ⟨_, rfl⟩
        rw [hF] at HF0
        rw [hF, hT] at S
        have HFT := Aside0.mk (And.intro hF hT)
        clear hF hT
        have HN0 := Aside0.mk (show 0 ≤ inp + (c.f1.length : Int) ∧ inp + (c.f1.length : Int) ≤ 200000 by have := HIB.out; have := HSZ.out; omega)
        have HP0 := Aside0.mk (ph0_ok (x := inp) (c := c) HIB.out.1 (by have := HIB.out; omega) HSZ.out.1)
        have HFR := Aside0.mk (fun (j : Nat) (hj : j < k) => show 0 ≤ phFr c j ∧ phFr c j ≤ 10000 from by
          have h1 := HSZ.out; have h3 := HKK.out
          have h4 : 0 ≤ (j : Int) * c.f0 := Int.mul_nonneg (by omega) h1.2.1
          have h5 : (j : Int) * c.f0 ≤ 4 * 1000 := calc (j : Int) * c.f0 ≤ 4 * c.f0 := Int.mul_le_mul_of_nonneg_right (by omega) h1.2.1
            _ ≤ 4 * 1000 := by omega
          unfold phFr; omega)
        have HPK := Aside0.mk (fun (j : Nat) (hj : j ≤ k) => PhOk.run HN0.out.1 HN0.out.2 HFI.out HP0.out (fr := phFr c) j (by have := HKK.out; omega) (fun i hi => HFR.out i (by omega)))
        go_wp2
        clear c1
        go_loopg [8, 9, 11, 12] k (fun gg s8 s9 s11 s12 wr => ∃ (j : Nat) (s : Ph) (vA vS vH vI : Option Addr × Nat) (hs : List HeadR), s8 = .slice vS.1 c.f1.length vS.2 ∧ s9 = .slice vH.1 s.hopes.length vH.2 ∧ s11 = .int .i64 s.sofar ∧ s12 = .int .i64 j ∧ Aside0 (j ≤ k ∧ k - j ≤ gg) ∧ Aside0 (phRun (inp + (c.f1.length : Int)) c (phFr c) (ph0 inp c) j = s) ∧
          Aside0 (Parts w.heap.size w wr (rPs w.heap.size gO inp c.f1.length NB (vL1, vL2) vA s.ands ++ (pF w.heap.size (Kd.int .i64) 3 (.slice vS.1 c.f1.length vS.2) s.state :: pF w.heap.size (Kd.int .i64) 3 (.slice vH.1 s.hopes.length vH.2) s.hopes :: ePs w.heap.size gU w.heap.size (w.heap.size + 1) k (fc5 p c) (vL1, vL2) vF vT vI c.f1.length c.f1 F T hs (phRows c (phFr c) j)))))
        case atStart => exact ⟨0, ph0 inp c, (none, 0), vS, (none, 0), (none, 0), [], rfl, rfl, rfl, rfl, ⟨by omega, by omega⟩, ⟨rfl⟩, ⟨by rw [← HF0.out]; exact S.out⟩⟩
        case round =>
          clear S
          obtain ⟨j, s, vA, vS, vH, vI, hs, rfl, rfl, rfl, rfl, HK, HE, S⟩ := hrel
          have HPS := Aside0.mk (HPK.out j HK.out.1)
          rw [HE.out] at HPS
          by_cases hlt : j < k
          · -- <done
            have HLT := Aside0.mk hlt
            have hlti : (j : Int) < (k : Int) := by omega
            obtain ⟨fr, hfr⟩ : ∃ x, phFr c j = x := ⟨_, rfl⟩
            have HFB := Aside0.mk (HFR.out j hlt)
            rw [hfr] at HFB
            have HFE := Aside0.mk hfr
            have HWF := Aside0.mk (show wrap64 (1 + wrap64 ((j : Int) * c.f0)) = fr by
              have h0 := HFB.out
              unfold phFr at hfr
              rw [wrap_in (x := (j : Int) * c.f0) (by omega) (by omega), wrap_in (by omega) (by omega), hfr])
            clear hlt hfr
            have S1 := Aside0.mk (S.out.nil (Kd.int .i64) 3)
            clear S
            obtain ⟨ni, hni⟩ : ∃ n : Nat, c.f0 = (n : Int) := ⟨c.f0.toNat, by have := HSZ.out; omega⟩
            have HNI := Aside0.mk (show c.f0.toNat = ni ∧ ni ≤ 1000 by have := HSZ.out; omega)
            have HNJ := Aside0.mk hni
            clear hni
            go_upto_region 16 with (fail)
            go_loopg [13, 14] ni (fun gg s13 s14 wr => ∃ (i : Nat) (V : Option Addr) (cV : Nat), s13 = .slice V i cV ∧ s14 = .int .i64 i ∧ Aside0 (i ≤ ni ∧ ni - i ≤ gg) ∧ Aside0 (Parts w.heap.size w wr (pF w.heap.size (Kd.int .i64) 3 (.slice V i cV) (bIns fr i) :: (rPs w.heap.size gO inp c.f1.length NB (vL1, vL2) vA s.ands ++ (pF w.heap.size (Kd.int .i64) 3 (.slice vS.1 c.f1.length vS.2) s.state :: pF w.heap.size (Kd.int .i64) 3 (.slice vH.1 s.hopes.length vH.2) s.hopes :: ePs w.heap.size gU w.heap.size (w.heap.size + 1) k (fc5 p c) (vL1, vL2) vF vT vI c.f1.length c.f1 F T hs (phRows c (phFr c) j))))))
            case atStart => exact ⟨0, none, 0, rfl, rfl, ⟨by omega, by omega⟩, S1⟩
            case round =>
              clear S1
              obtain ⟨i, V, cV, rfl, rfl, HKI, S⟩ := hrel
              have c0 : wr.cell? ⟨w.heap.size, 0, none⟩ = some (.int .i64 c.f0) := (S.out.cell 11 rfl 0 rfl).1
              by_cases hlt : i < ni
              · have HLI := Aside0.mk hlt
                have hd : decide ((i : Int) < c.f0) = true := decide_eq_true (by have := HNJ.out; omega)
                obtain ⟨x, hx⟩ : ∃ x : Int, 2 * (fr + (i : Int)) = x := ⟨_, rfl⟩
                have hw : wrap64 (2 * wrap64 (wrap64 (1 + wrap64 ((j : Int) * c.f0)) + (i : Int))) = x := by
                  have h1 := HFB.out; have h2 := HNI.out
                  rw [HWF.out, wrap_in (x := fr + (i : Int)) (by omega) (by omega), wrap_in (by omega) (by omega), hx]
                have HST := Aside0.mk (show bIns fr (i + 1) = bIns fr i ++ [x] by rw [bIns_succ, ← hx])
                have HLN := Aside0.mk (show i = (bIns fr i).length by rw [bIns_len])
                clear hx hlt
                generalize bIns fr i = ys at *
                go_wp2_with (first | (at_builtin; refine Parts.appendL S.out 0 rfl flat_int rfl (.tmp 71) (.tmp 80) 24 (.int .i64 0) 8 rfl Try.underlying24 infoInt rfl (by decide) (by decide) x [.int .i64 x] rfl (by rw [hw]; rfl) rfl (by have := HNI.out; have := HLI.out; have := HLN.out; omega) ?_; intro V2 cap2 w8 h8; have S8 := Aside0.mk h8; clear h8))
                have hys := HLN.out
                go_roundg (ni - (i + 1))
                case measure => have := HKI.out; have := HLI.out; omega
                case rel => exact ⟨i + 1, V2, cap2, (by rw [hys]), (by first | exact val_step HLI.out (by have := HNI.out; omega) | exact congrArg (Value.int .i64) (by omega)), ⟨HLI.out, by have := HKI.out; omega⟩, ⟨by rw [HST.out, hys]; exact S8.out⟩⟩
              · have hk : i = ni := by have := HKI.out; omega
                subst hk
                have hd : decide ((i : Int) < c.f0) = false := decide_eq_false (by have := HNJ.out; omega)
                clear hlt HKI
                have HLN := Aside0.mk (show i = (bIns fr i).length by rw [bIns_len])
                have HRW := Aside0.mk (show phRows c (phFr c) (j + 1) = phRows c (phFr c) j ++ [bIns fr i] by rw [phRows_succ, HNI.out.1, HFE.out])
                have HHS := Aside0.mk (show hs.length ≤ 10 by rw [S.out.inLen 10 rfl]; unfold phRows; rw [List.length_map, List.length_range]; have := HLT.out; have := HKK.out; omega)
                generalize bIns fr i = row at *
                have hlr := HLN.out
                clear HLN
                subst hlr
                obtain ⟨c3, f3⟩ := S.out.cell 6 rfl 3 rfl
                go_upto_region 20 with (first | (at_builtin; refine Parts.appendL S.out 9 rfl flat_head rfl (.tmp 83) (.tmp 85) 29 (.slice none 0 0) 24 rfl Try.underlying29 infoRow rfl (by decide) (by decide) (V, row.length, cV) [.slice V row.length cV] rfl rfl rfl (by have := HHS.out; omega) ?_; intro V2 cap2 w8 h8; obtain ⟨c8, f8⟩ := h8.cell 6 rfl 3 rfl; have S8 := Aside0.mk h8; clear h8) | fail)
                have S9 := Aside0.mk ((S8.out.put 6 rfl 3 (.slice V2 (hs.length + 1) cap2) rfl).inAdd 0 10 (by decide) rfl rfl)
                generalize w8.setCell ⟨gU, 3, none⟩ (.slice V2 (hs.length + 1) cap2) = w9 at *
                clear c8 f8 S8 c3 f3 S c0 hd
                have S10 := Aside0.mk (show Parts w.heap.size w w9 (rPs w.heap.size gO inp c.f1.length NB (vL1, vL2) vA s.ands ++ (pF w.heap.size (Kd.int .i64) 3 (.slice vS.1 c.f1.length vS.2) s.state :: pF w.heap.size (Kd.int .i64) 3 (.slice vH.1 s.hopes.length vH.2) s.hopes :: ePs w.heap.size gU w.heap.size (w.heap.size + 1) k (fc5 p c) (vL1, vL2) vF vT (V2, cap2) c.f1.length c.f1 F T (hs ++ [(V, row.length, cV)]) (phRows c (phFr c) (j + 1)))) from by
                  have e1 : (hs ++ [(V, row.length, cV)]).length = hs.length + 1 := by simp
                  rw [HRW.out]
                  unfold ePs
                  rw [e1]
                  exact S9.out)
                clear S9
                generalize hs ++ [(V, row.length, cV)] = hs2 at *
                have CF := Aside0.mk (ref32_Build (p := p) (f := c) S10.out ⟨HIB.out.1, by have := HIB.out; omega, by have := HSZ.out; omega, by have := HPS.out.n; have := HLT.out; have := HKK.out; omega, HPS.out.g⟩ (by have := HPS.out.n; have := HLT.out; have := HKK.out; omega) HFI.out HH.out (input := fr) HFB.out (sA := vS.1) (sc := vS.2) (state := s.state) (fun W vA ands h => h.rowF 2 rfl) HPS.out.l HPS.out.x)
                rw [HPS.out.l] at CF
                have HFO := Aside0.mk (bFrame_ok HN0.out.1 HN0.out.2 HFI.out (ands := s.ands) (by have := HPS.out.n; have := HLT.out; have := HKK.out; omega) HPS.out.g (input := fr) HFB.out HPS.out.l HPS.out.x)
                have HST := Aside0.mk (show phRun (inp + (c.f1.length : Int)) c (phFr c) (ph0 inp c) (j + 1) = phStep (inp + (c.f1.length : Int)) c fr s by rw [← HFE.out, ← HE.out]; rfl)
                unfold phStep at HST
                generalize bFrame (inp + (c.f1.length : Int)) c s.ands fr s.state = R at *
                obtain ⟨c0, c1, c2, c3, c4⟩ := blk5 (S10.out.blk 10 rfl)
                go_wp2_with fail
                rw [HWF.out]
                refine CF.out.mono ?_
                rintro e w10 ⟨vA2, Vn, cn, rfl, h10⟩
                clear c0 c1 c2 c3 c4
                go_upto_region 21 with (fail)
                have S11 := Aside0.mk ((h10.new 127 #[.slice Vn c.f1.length cn, .int .i64 R.bad, .int .i64 R.right]).behind (qs := rPs w.heap.size gO inp c.f1.length NB (vL1, vL2) vA2 R.ands))
                clear h10 CF S10
                generalize w10.heap.size = gF at *
                generalize w10.alloc (.cells #[.slice Vn c.f1.length cn, .int .i64 R.bad, .int .i64 R.right] 127) = w11 at *
                have c2 : w11.cell? ⟨gF, 2, none⟩ = some (.int .i64 R.right) := (S11.out.cell 2 rfl 2 rfl).1
                have HAB := Aside0.mk (show R.ands.length ≤ 90000 by have := HFO.out.n; have := HPS.out.n; have := HLT.out; have := HKK.out; omega)
                go_wp2_with fail
                refine (r_made_does S11.out ⟨HIB.out.1, by have := HIB.out; omega, by have := HSZ.out; omega, by have := HAB.out; omega, HFO.out.g⟩ HPS.out.r HFO.out.r).mono ?_
                rintro e w12 ⟨vA3, rfl, h12⟩
                have HO1 := Aside0.mk (bAnd_op HN0.out.1 HN0.out.2)
                have HA1 := Aside0.mk (And.intro (HO1.out.n R.ands s.sofar R.right) (And.intro (HO1.out.g R.ands s.sofar R.right HFO.out.g HPS.out.r HFO.out.r) (HO1.out.l R.ands s.sofar R.right (by have := HAB.out; omega) HPS.out.r HFO.out.r)))
                have S12 := Aside0.mk h12
                clear h12 S11 c2
                try dsimp only at HST
                generalize bAnd (inp + (c.f1.length : Int)) R.ands s.sofar R.right = a at *
                obtain ⟨a1, a2⟩ := a
                dsimp only at HA1 S12 HST ⊢
                have c1 : w12.cell? ⟨gF, 1, none⟩ = some (.int .i64 R.bad) := (S12.out.cell 2 rfl 1 rfl).1
                go_wp2_with fail
                refine (r_made_does S12.out ⟨HIB.out.1, by have := HIB.out; omega, by have := HSZ.out; omega, by have := HAB.out; have := HA1.out.1; omega, HA1.out.2.1⟩ HFO.out.b HA1.out.2.2).mono ?_
                rintro e w13 ⟨vA4, rfl, h13⟩
                have S13 := Aside0.mk h13
                clear h13 S12 c1
                generalize bAnd (inp + (c.f1.length : Int)) a1 R.bad a2 = b at *
                obtain ⟨b1, b2⟩ := b
                dsimp only at S13 HST ⊢
                go_upto_region 23 with (first | (at_builtin; refine Parts.appendL S13.out 5 rfl flat_int rfl (.tmp 100) (.tmp 105) 24 (.int .i64 0) 8 rfl Try.underlying24 infoInt rfl (by decide) (by decide) b2 [.int .i64 b2] rfl rfl rfl (by rw [HPS.out.h]; have := HLT.out; have := HKK.out; omega) ?_; intro V3 cap3 w14 h14; have S14 := Aside0.mk h14; clear h14) | fail)
                have c0 : w14.cell? ⟨gF, 0, none⟩ = some (.slice Vn c.f1.length cn) := (S14.out.cell 2 rfl 0 rfl).1
                have S15 := Aside0.mk ((S14.out.erase 4).erase 2)
                go_wp2
                go_roundg (k - (j + 1))
                case measure => have := HK.out; have := HLT.out; omega
                case rel => exact ⟨j + 1, ⟨b1, R.nexts, a2, s.hopes ++ [b2]⟩, vA4, (Vn, cn), (V3, cap3), (V2, cap2), hs2, rfl, (by simp), rfl, (by first | exact val_step HLT.out (by have := HKK.out; omega) | exact congrArg (Value.int .i64) (by omega)), ⟨HLT.out, by have := HK.out; omega⟩, HST, ⟨by
                  dsimp only
                  rw [show (s.hopes ++ [b2]).length = s.hopes.length + 1 by simp]
                  exact S15.out⟩⟩
          · have hk : j = k := by have := HK.out; omega
            subst hk
            clear hlt HK
            have HBY := Aside0.mk (show s.ands.length ≤ 13000 ∧ s.hopes.length ≤ 4 by have h1 := HPS.out.n; have h2 := HPS.out.h; have := HKK.out; omega)
            have HPD := Aside0.mk (show phDone c j = if 1000 < inp + c.f1.length + (bOr (inp + c.f1.length) (bAny (inp + c.f1.length) s.ands s.hopes).1 (bAny (inp + c.f1.length) s.ands s.hopes).2 s.sofar).1.length then (zeroRd, 4) else
                (⟨⟨inp, setNexts c.f1 s.state, (bOr (inp + c.f1.length) (bAny (inp + c.f1.length) s.ands s.hopes).1 (bAny (inp + c.f1.length) s.ands s.hopes).2 s.sofar).1, [(bAny (inp + c.f1.length) s.ands s.hopes).2], [(bOr (inp + c.f1.length) (bAny (inp + c.f1.length) s.ands s.hopes).1 (bAny (inp + c.f1.length) s.ands s.hopes).2 s.sofar).2]⟩, ⟨0, j, F, phRows c (phFr c) j, T, ⟨[], 1⟩⟩⟩, 0) by
              unfold phDone phMade phRight phBad phS
              rw [HIN.out, HE.out, ← HFT.out.1, ← HFT.out.2])
            clear HPK HE HFR HP0
            go_wp2_with fail
            refine (ref32_Any S.out ⟨HIB.out.1, by have := HIB.out; omega, by have := HSZ.out; omega, by have := HBY.out; omega, HPS.out.g⟩ (fun W vA ands h => h.rowF 3 rfl) (by have := HBY.out; omega) HPS.out.y).mono ?_
            rintro e w15 ⟨vA5, rfl, h15⟩
            have S15 := Aside0.mk h15
            have HC5 := Aside0.mk ((bOr_op HN0.out.1 HN0.out.2).chain (none := 0) (ands := s.ands) (l := s.hopes) (by have := HBY.out; omega) LB.zero HPS.out.y HPS.out.g)
            rw [show bChain (bOr (inp + (c.f1.length : Int))) 0 s.ands s.hopes = bAny (inp + (c.f1.length : Int)) s.ands s.hopes from rfl] at HC5
            clear h15 S
            generalize bAny (inp + (c.f1.length : Int)) s.ands s.hopes = B at *
            obtain ⟨B1, B2⟩ := B
            dsimp only at HC5 S15 HPD ⊢
            go_wp2_with fail
            refine (ref26_Either S15.out ⟨HIB.out.1, by have := HIB.out; omega, by have := HSZ.out; omega, by have := HBY.out; have := HC5.out.2.2; omega, HC5.out.2.1⟩ HC5.out.1 HPS.out.r).mono ?_
            rintro e w17 ⟨vA6, rfl, h17⟩
            have S17 := Aside0.mk h17
            have HD1 := Aside0.mk ((bOr_op HN0.out.1 HN0.out.2).n B1 B2 s.sofar)
            clear h17 S15
            generalize bOr (inp + (c.f1.length : Int)) B1 B2 s.sofar = D at *
            obtain ⟨D1, D2⟩ := D
            dsimp only at HD1 S17 HPD ⊢
            go_wp2
            go_loopg [18] c.f1.length (fun gg s18 wr => ∃ (m : Nat), s18 = .int .i64 m ∧ Aside0 (m ≤ c.f1.length ∧ c.f1.length - m ≤ gg) ∧ Aside0 (Parts w.heap.size w wr (rPs w.heap.size gO inp c.f1.length NB (vL1, vL2) vA6 D1 ++ (pF w.heap.size (Kd.int .i64) 3 (.slice vS.1 c.f1.length vS.2) s.state :: pF w.heap.size (Kd.int .i64) 3 (.slice vH.1 s.hopes.length vH.2) s.hopes :: ePs w.heap.size gU w.heap.size (w.heap.size + 1) j (fc5 p c) (vL1, vL2) vF vT vI c.f1.length (someNexts c.f1 s.state m) F T hs (phRows c (phFr c) j)))))
            case atStart => exact ⟨0, rfl, ⟨by omega, by omega⟩, S17⟩
            case round =>
              clear S17
              obtain ⟨m, rfl, HK, S⟩ := hrel
              have hsl := HPS.out.l
              have c1 : wr.cell? ⟨w.heap.size, 1, none⟩ = some (.slice p.A1 c.f1.length p.c1) := (S.out.cell 10 rfl 1 rfl).1
              by_cases hlt : m < c.f1.length
              · have HLT := Aside0.mk hlt
                have hlti : (m : Int) < (c.f1.length : Int) := by omega
                go_upto_region 29 with (fail)
                have S2 := Aside0.mk S.out.drew
                obtain ⟨ad, eA, hc⟩ := at_int (S.out.rowF 2 rfl).r m (by omega)
                obtain ⟨gl, eL, u0, z0⟩ := S2.out.latOne 4 rfl m (by rw [someNexts_len hsl]; exact hlt)
                try dsimp only at eA
                try dsimp only at eL
                rw [eA]
                have EA := Aside0.mk eA
                have hc2 : (wr.drew).cell? (ad.add m) = some (.int .i64 (s.state[m]'(by omega))) := by
                  obtain ⟨ad2, eA2, hcc⟩ := at_int (S2.out.rowF 2 rfl).r m (by omega)
                  try dsimp only at eA2
                  rw [eA] at eA2
                  cases eA2
                  exact hcc
                have co1 : (wr.drew).cell? ⟨gO, 1, none⟩ = some (.slice (some ⟨gl, 0, none⟩) c.f1.length vL2) := by rw [← eL]; exact (S2.out.cell 0 rfl 1 rfl).1
                have HST := Aside0.mk (someNexts_succ hsl hlt)
                have S3 := Aside0.mk (show Parts w.heap.size w ((wr.drew).setCell ⟨gl, m * 2, none⟩ (.int .i64 (s.state[m]'(by omega)))) (rPs w.heap.size gO inp c.f1.length NB (vL1, vL2) vA6 D1 ++ (pF w.heap.size (Kd.int .i64) 3 (.slice vS.1 c.f1.length vS.2) s.state :: pF w.heap.size (Kd.int .i64) 3 (.slice vH.1 s.hopes.length vH.2) s.hopes :: ePs w.heap.size gU w.heap.size (w.heap.size + 1) j (fc5 p c) (vL1, vL2) vF vT vI c.f1.length (someNexts c.f1 s.state (m + 1)) F T hs (phRows c (phFr c) j))) from by
                  have h_ := S2.out
                  rw [eL] at h_
                  have h2 := h_.putNext 4 rfl m (by rw [someNexts_len hsl]; exact hlt) (s.state[m]'(by omega))
                  rw [HST.out.2, HST.out.1, ← eL] at h2
                  exact h2)
                clear eA S HST eL S2 hc c1
                generalize s.state[m]'(by omega) = x at *
                refine start_ (n := 10) (S := (fun w' : World => w'.cell? (ad.add m) = some (.int .i64 x) ∧ w'.cell? ⟨gO, 1, none⟩ = some (.slice (some ⟨gl, 0, none⟩) c.f1.length vL2))) (ds := [9]) #[false, false, false, false, false, false, false, false, false, false] (by kernel_rfl) rfl rfl ⟨hc2, co1⟩ (fun hHeld => ?_)
                generalize wr.drew = w2 at *
                have hnl := hsl
                refine pure_ (i := 0) (N := some 121) (v := ?_) (a' := ?_) #[true, false, false, false, false, false, false, false, false, false] rfl rfl (by kernel_rfl) (fun _ _ _ h => h) (Or.inl ⟨by rfl, ?_⟩) ?_ ?_
                rotate_left
                · intro w'
                  go_simp
                  with_reducible rfl
                rotate_left
                · simp only [Act.put, List.setIfInBounds_toArray, List.set_cons_zero, List.set_cons_succ]
                  rfl
                refine take_ (i := 1) (N := some 122) (v := ?_) (a' := ?_) #[true, true, false, false, false, false, false, false, false, false] rfl rfl (by kernel_rfl) (fun _ _ _ h => h) (Or.inl ⟨by rfl, ?_⟩) hHeld ?_ ?_
                rotate_left
                · rintro w' ⟨s0, s1⟩
                  go_simp
                  with_reducible rfl
                rotate_left
                · simp only [Act.put, List.setIfInBounds_toArray, List.set_cons_zero, List.set_cons_succ]
                  rfl
                refine pure_ (i := 2) (N := some 123) (v := ?_) (a' := ?_) #[true, true, true, false, false, false, false, false, false, false] rfl rfl (by kernel_rfl) (fun _ _ _ h => h) (Or.inl ⟨by rfl, ?_⟩) ?_ ?_
                rotate_left
                · intro w'
                  go_simp
                  with_reducible rfl
                rotate_left
                · simp only [Act.put, List.setIfInBounds_toArray, List.set_cons_zero, List.set_cons_succ]
                  rfl
                refine pure_ (i := 3) (N := some 124) (v := ?_) (a' := ?_) #[true, true, true, true, false, false, false, false, false, false] rfl rfl (by kernel_rfl) (fun _ _ _ h => h) (Or.inl ⟨by rfl, ?_⟩) ?_ ?_
                rotate_left
                · intro w'
                  go_simp
                  with_reducible rfl
                rotate_left
                · simp only [Act.put, List.setIfInBounds_toArray, List.set_cons_zero, List.set_cons_succ]
                  rfl
                refine pure_ (i := 4) (N := some 125) (v := ?_) (a' := ?_) #[true, true, true, true, true, false, false, false, false, false] rfl rfl (by kernel_rfl) (fun _ _ _ h => h) (Or.inl ⟨by rfl, ?_⟩) ?_ ?_
                rotate_left
                · intro w'
                  go_simp
                  with_reducible rfl
                rotate_left
                · simp only [Act.put, List.setIfInBounds_toArray, List.set_cons_zero, List.set_cons_succ]
                  rfl
                refine pure_ (i := 5) (N := some 126) (v := ?_) (a' := ?_) #[true, true, true, true, true, true, false, false, false, false] rfl rfl (by kernel_rfl) (fun _ _ _ h => h) (Or.inl ⟨by rfl, ?_⟩) ?_ ?_
                rotate_left
                · intro w'
                  go_simp
                  with_reducible rfl
                rotate_left
                · simp only [Act.put, List.setIfInBounds_toArray, List.set_cons_zero, List.set_cons_succ]
                  rfl
                refine take_ (i := 6) (N := some 127) (v := ?_) (a' := ?_) #[true, true, true, true, true, true, true, false, false, false] rfl rfl (by kernel_rfl) (fun _ _ _ h => h) (Or.inl ⟨by rfl, ?_⟩) hHeld ?_ ?_
                rotate_left
                · rintro w' ⟨s0, s1⟩
                  go_simp
                  with_reducible rfl
                rotate_left
                · simp only [Act.put, List.setIfInBounds_toArray, List.set_cons_zero, List.set_cons_succ]
                  rfl
                refine pure_ (i := 7) (N := some 128) (v := ?_) (a' := ?_) #[true, true, true, true, true, true, true, true, false, false] rfl rfl (by kernel_rfl) (fun _ _ _ h => h) (Or.inl ⟨by rfl, ?_⟩) ?_ ?_
                rotate_left
                · intro w'
                  go_simp
                  with_reducible rfl
                rotate_left
                · simp only [Act.put, List.setIfInBounds_toArray, List.set_cons_zero, List.set_cons_succ]
                  rfl
                refine pure_ (i := 8) (N := some 129) (v := ?_) (a' := ?_) #[true, true, true, true, true, true, true, true, true, false] rfl rfl (by kernel_rfl) (fun _ _ _ h => h) (Or.inl ⟨by rfl, ?_⟩) ?_ ?_
                rotate_left
                · intro w'
                  go_simp
                  with_reducible rfl
                rotate_left
                · simp only [Act.put, List.setIfInBounds_toArray, List.set_cons_zero, List.set_cons_succ]
                  rfl
                refine last_ (i := 9) (N := none) #[true, true, true, true, true, true, true, true, true, true] rfl rfl (by kernel_rfl) (by decide) (fun K hK => ?_)
                refine skip_ (w1 := ?_) (by rfl) rfl ?_ ?_
                rotate_left
                · go_simp
                  rfl
                refine hK.out _ _ ?_
                clear hK K
                refine done_ (by kernel_rfl) ?_
                clear hHeld hc2 co1 u0 z0
                go_wp2
                rw [← EA.out]
                go_roundg (c.f1.length - (m + 1))
                case measure => have := HK.out; have := HLT.out; omega
                case rel => exact ⟨m + 1, (by first | exact val_step HLT.out (by have := HSZ.out; omega) | exact congrArg (Value.int .i64) (by omega)), ⟨HLT.out, by have := HK.out; omega⟩, S3⟩
              · have hk : m = c.f1.length := by have := HK.out; omega
                subst hk
                rw [someNexts_all hsl] at S
                clear hlt HK
                have HNL := Aside0.mk (setNexts_len hsl)
                clear hsl
                have HD2 := Aside0.mk (show D1.length ≤ 20000 by have := HD1.out; have := HC5.out.2.2; have := HBY.out; omega)
                obtain ⟨⟨a0, _⟩, ⟨a1, _⟩, ⟨a2, _⟩, ⟨a3, _⟩, ⟨a4, _⟩⟩ := (⟨S.out.cell 0 rfl 0 rfl, S.out.cell 0 rfl 1 rfl, S.out.cell 0 rfl 2 rfl, S.out.cell 0 rfl 3 rfl, S.out.cell 0 rfl 4 rfl⟩ : _ ∧ _ ∧ _ ∧ _ ∧ _)
                go_wp2_with fail
                refine (ref02_SizeV inp (vL1, vL2) vA6 c.f1.length D1.length NB _ HIB.out.1 (by have := HIB.out; omega) (by have := HSZ.out; omega) (by have := HD2.out; omega)).mono ?_
                rintro e w20 ⟨rfl, hb⟩
                have S20 := Aside0.mk (S.out.below hb)
                clear hb S a0 a1 a2 a3 a4 c1
                by_cases hbig : 1000 < inp + (c.f1.length : Int) + (D1.length : Int)
                · have HE2 := Aside0.mk (show phDone c j = (zeroRd, 4) by rw [HPD.out, if_pos hbig])
                  generalize inp + (c.f1.length : Int) + (D1.length : Int) = nv at *
                  have HW := Aside0.mk (S20.out.put12 11 rfl (.int .i64 0) (.slice none 0 0) (.slice none 0 0) (.slice none 0 0) (.slice none 0 0) (.int .i64 0) (.int .i64 0) (.slice none 0 0) (.slice none 0 0) (.slice none 0 0) (.slice none 0 0) (.int .i64 0))
                  obtain ⟨r0, z0⟩ := S20.out.cell 11 rfl 0 rfl
                  obtain ⟨r1, z1⟩ := S20.out.cell 11 rfl 1 rfl
                  obtain ⟨r2, z2⟩ := S20.out.cell 11 rfl 2 rfl
                  obtain ⟨r3, z3⟩ := S20.out.cell 11 rfl 3 rfl
                  obtain ⟨r4, z4⟩ := S20.out.cell 11 rfl 4 rfl
                  obtain ⟨r5, z5⟩ := S20.out.cell 11 rfl 5 rfl
                  obtain ⟨r6, z6⟩ := S20.out.cell 11 rfl 6 rfl
                  obtain ⟨r7, z7⟩ := S20.out.cell 11 rfl 7 rfl
                  obtain ⟨r8, z8⟩ := S20.out.cell 11 rfl 8 rfl
                  obtain ⟨r9, z9⟩ := S20.out.cell 11 rfl 9 rfl
                  obtain ⟨r10, z10⟩ := S20.out.cell 11 rfl 10 rfl
                  obtain ⟨r11, z11⟩ := S20.out.cell 11 rfl 11 rfl
                  go_wp2
                  refine bodyPost_ret (results_ct rfl _ _ (w.heap.size + 1) 35 zCells (0, 0) _ rfl (HW.out.blk 11 rfl) hu35 rfl (by kernel_rfl)) rfl ?_
                  rw [HE2.out]
                  exact ⟨⟨none, 0, none, 0, none, 0, none, 0⟩, ⟨none, 0, none, 0, none, 0, none, 0⟩, rfl, fun W hW => ⟨⟨RS.nil _ _ _, RS.nil _ _ _, RS.nil _ _ _, RS.nil _ _ _⟩, ⟨RS.nil _ _ _, RS.nil _ _ _, RS.nil _ _ _, RS.nil _ _ _⟩⟩, HW.out.B⟩
                · have HE2 := Aside0.mk (show phDone c j = _ by rw [HPD.out, if_neg hbig])
                  generalize inp + (c.f1.length : Int) + (D1.length : Int) = nv at *
                  have h1 := S20.out.freshF flat_int (below_alloc (Below.refl _ _) (.cells #[.int .i64 B2] 3)) (R_oneB _ B2 _ 3 (Nat.le_refl _))
                  have h2 := h1.freshF flat_int (below_alloc (Below.refl _ _) (.cells #[.int .i64 D2] 3)) (R_oneB _ D2 _ 3 (Nat.le_refl _))
                  rw [World.size_alloc] at h2
                  have S21 := Aside0.mk h2
                  clear h1 h2
                  obtain ⟨_, f3⟩ := S21.out.cell 2 rfl 3 rfl
                  obtain ⟨_, f4⟩ := S21.out.cell 2 rfl 4 rfl
                  go_upto_region 33 with (fail)
                  have S22 := Aside0.mk ((S21.out.put 2 rfl 3 (.slice (some ⟨w20.heap.size, 0, none⟩) 1 1) rfl).put 2 rfl 4 (.slice (some ⟨w20.heap.size + 1, 0, none⟩) 1 1) rfl)
                  clear S21 S20 f3 f4
                  generalize w20.heap.size + 1 = g2 at *
                  obtain ⟨g1, hg1⟩ : ∃ g, w20.heap.size = g := ⟨_, rfl⟩
                  rw [hg1] at S22
                  rw [hg1]
                  clear hg1
                  generalize (((w20.alloc (.cells #[.int .i64 B2] 3)).alloc (.cells #[.int .i64 D2] 3)).setCell ⟨gO, 3, none⟩ (.slice (some ⟨g1, 0, none⟩) 1 1)).setCell ⟨gO, 4, none⟩ (.slice (some ⟨g2, 0, none⟩) 1 1) = w22 at *
                  obtain ⟨a0, a1, a2, a3, a4⟩ := blk5 (S22.out.blk 2 rfl)
                  obtain ⟨⟨u0, u1, u2, u3, u4, u5, u6⟩, _⟩ := blk7 (S22.out.blk 7 rfl)
                  obtain ⟨r0, z0⟩ := S22.out.cell 13 rfl 0 rfl
                  obtain ⟨r1, z1⟩ := S22.out.cell 13 rfl 1 rfl
                  obtain ⟨r2, z2⟩ := S22.out.cell 13 rfl 2 rfl
                  obtain ⟨r3, z3⟩ := S22.out.cell 13 rfl 3 rfl
                  obtain ⟨r4, z4⟩ := S22.out.cell 13 rfl 4 rfl
                  obtain ⟨r5, z5⟩ := S22.out.cell 13 rfl 5 rfl
                  obtain ⟨r6, z6⟩ := S22.out.cell 13 rfl 6 rfl
                  obtain ⟨r7, z7⟩ := S22.out.cell 13 rfl 7 rfl
                  obtain ⟨r8, z8⟩ := S22.out.cell 13 rfl 8 rfl
                  obtain ⟨r9, z9⟩ := S22.out.cell 13 rfl 9 rfl
                  obtain ⟨r10, z10⟩ := S22.out.cell 13 rfl 10 rfl
                  obtain ⟨r11, z11⟩ := S22.out.cell 13 rfl 11 rfl
                  have HW := Aside0.mk (S22.out.put12 13 rfl (.int .i64 inp) (.slice vL1 c.f1.length vL2) (.slice vA6.1 D1.length vA6.2) (.slice (some ⟨g1, 0, none⟩) 1 1) (.slice (some ⟨g2, 0, none⟩) 1 1) (.int .i64 0) (.int .i64 (j : Int)) (.slice vF.1 F.length vF.2) (.slice vI.1 hs.length vI.2) (.slice vT.1 T.length vT.2) (.slice none 0 0) (.int .i64 1))
                  go_wp2
                  refine bodyPost_ret (results_ct rfl _ _ (w.heap.size + 1) 35 _ (0, 0) _ rfl (HW.out.blk 13 rfl) hu35 rfl (by kernel_rfl)) rfl ?_
                  rw [HE2.out]
                  refine ⟨⟨vL1, vL2, vA6.1, vA6.2, some ⟨g1, 0, none⟩, 1, some ⟨g2, 0, none⟩, 1⟩, ⟨vF.1, vF.2, vI.1, vI.2, vT.1, vT.2, none, 0⟩, ?_, fun W hW => ⟨⟨HW.out.rowM hW 6 rfl, HW.out.rowM hW 3 rfl, HW.out.rowM hW 1 rfl, HW.out.rowM hW 0 rfl⟩, ⟨HW.out.rowM hW 8 rfl, HW.out.inRowsM hW 10 11 rfl rfl, HW.out.rowM hW 9 rfl, RS.nil _ _ _⟩⟩, HW.out.B⟩
                  have hil := HW.out.inLen 11 rfl
                  unfold rv
                  dsimp only
                  rw [HNL.out, ← hil]
                  rfl
end Go.Proofs.Ytpfkiecihheidaa.PH
