/- prefix.Of, walked. -/
import Derived.Test.YtpoadkogcdfglaaHPfI
import Derived.Test.YtpoadkogcdfglaaHClone2
import Derived.Test.YtpoadkogcdfglaaHGoesV
namespace Go.Proofs.Ytpoadkogcdfglaa.PH
open Go.RowKit Go.Proofs.YtpoadkogcdfglaaW.PrintWords Go.Proofs.YtpoadkogcdfglaaW.PrintLast
set_option linter.unusedVariables false
set_option linter.unusedSimpArgs false

theorem infoLatchB : (Try.prog.info? 45).map (fun i => (i.zero, i.size, i.bytes)) = some (some (.agg #[.int .i64 0, .int .i64 0]), 2, 16) := by kernel_rfl
theorem reps_lat {W : World} {b : Nat} {ok : Nat → Prop} (x y : Int) : Reps (kLatch.M W b ok) kLatch.sz [⟨x, y⟩] [.int .i64 x, .int .i64 y] :=
  ⟨rfl, fun j p hj => by
    cases j with
    | zero =>
      have e : (⟨x, y⟩ : Latch) = p := by simpa using hj
      subst e
      exact kLatch_mkM _ _ _ _
    | succ j => simp at hj⟩
/-- What the call has while it builds. -/
@[reducible] def ePs (b gU gC gR : Nat) (k : Int) (fc : Array Value) (vL vF vT vI : Option Addr × Nat) (nL : Nat) (lats : List Latch) (F T : List Int) (hs : List HeadR) (rows : List (List Int)) : List Pc :=
  [pF b kLatch 45 (.slice vL.1 nL vL.2) lats,
   pB gU 33 #[.int .i64 k, .int .i64 1, .slice vF.1 F.length vF.2, .slice vI.1 hs.length vI.2, .slice vT.1 T.length vT.2, .slice none 0 0, .int .i64 1],
   pF b (Kd.int .i64) 3 (.slice vF.1 F.length vF.2) F, pF b (Kd.int .i64) 3 (.slice vT.1 T.length vT.2) T,
   pF b kHead 24 (.slice vI.1 hs.length vI.2) hs, pIn (Kd.int .i64) 3 b hs rows,
   pB gC 26 fc, pB gR 35 zCells]
set_option maxHeartbeats 8000000 in
set_option maxRecDepth 100000 in
theorem prefix_Of_ok (p : CP) (c : Circ) (w : World) (h : RC w p c) (hs : c.Fits) (hck : check c = 0) (k : Nat) (hk2 : 1 ≤ k) (hk4 : k ≤ 8) :
    Calls Try.prog 10 #[cv p c, .int .i64 (k : Int)] w fun e w' => RetRs w w' (pfDone c k).1 (pfDone c k).2 e := by
  have HV := Aside0.mk (fun W (hb : Below w.heap.size w W) => gates_Check p c W (h.below hb) hs)
  have HH := Aside0.mk h
  have HC := Aside0.mk hck
  have HB := Aside0.mk (cbnd_of hck)
  have HFI := Aside0.mk (cbnd_of hck).fin
  have HKK := Aside0.mk (And.intro hk2 hk4)
  have hu26 := Try.underlying26
  have hu82 := Try.underlying78
  have hu85 := Try.underlying82
  have hu79 := Try.underlying45
  have hu31 := Try.underlying31
  have hu33 := Try.underlying33
  have hu35 := Try.underlying35
  have hmf : ∀ (fn : Fn) (first cap : Array Value) (w : World), (Instr.makeFunc fn first cap).run Try.prog w = .ok (.func fn first cap) w := fun _ _ _ _ => rfl
  have eg := eg_inputs
  have S0 := Aside0.mk (((Parts.start w).new 26 (fc5 p c)).new 35 zCells)
  rw [show (w.alloc (.cells (fc5 p c) 26)).heap.size = w.heap.size + 1 by simp] at S0
  have hkb1 : decide ((k : Int) < 1) = false := decide_eq_false (by omega)
  have hkb2 : decide ((8 : Int) < (k : Int)) = false := decide_eq_false (by omega)
  clear h hs hck hk2 hk4
  go_enter Try.func10, Try.ntmps10
  go_wp2_with fail
  refine (HV.out _ S0.out.B).mono ?_
  rintro e w1 ⟨rfl, hb1⟩
  rw [HC.out]
  have S1 := Aside0.mk (S0.out.below hb1)
  clear hb1 S0
  have c1 : w1.cell? ⟨w.heap.size, 1, none⟩ = some (.slice p.A1 c.f1.length p.c1) := (S1.out.cell 1 rfl 1 rfl).1
  go_upto_region 7 with (fail)
  clear c1
  have HSZ := Aside0.mk (show c.f1.length ≤ 1000 ∧ 0 ≤ c.f0 ∧ c.f0 ≤ 1000 by have h1 := HB.out.h0; have h2 := HB.out.n; omega)
  obtain ⟨inp, hinp⟩ : ∃ n : Int, ((k : Int) + 1) * c.f0 = n := ⟨_, rfl⟩
  have HIN := Aside0.mk hinp
  have HIB := Aside0.mk (show 0 ≤ inp ∧ inp ≤ 9000 by
    have h1 := HSZ.out; have h3 := HKK.out
    constructor
    · rw [← hinp]; exact Int.mul_nonneg (by omega) h1.2.1
    · rw [← hinp]; calc ((k : Int) + 1) * c.f0 ≤ 9 * c.f0 := Int.mul_le_mul_of_nonneg_right (by omega) h1.2.1
        _ ≤ 9000 := by omega)
  have hw0 : IntKind.i64.wrap ((k : Int) + 1) = (k : Int) + 1 := by have := HKK.out; exact wrap_i64 (by omega) (by omega)
  have hw : IntKind.i64.wrap (((k : Int) + 1) * c.f0) = inp := by rw [hinp]; exact wrap_i64 (by have := HIB.out; omega) (by have := HIB.out; omega)
  clear hinp
  have q := blk5 (S1.out.blk 1 rfl)
  refine start_ (n := 14) (S := (fun w' : World => Parts w.heap.size w w' [pB (w.heap.size + 1) 35 zCells, pB w.heap.size 26 (fc5 p c)])) (ds := []) #[false, false, false, false, false, false, false, false, false, false, false, false, false, false] (by kernel_rfl) rfl rfl S1.out.drew (fun hHeld => ?_)
  have S2 := Aside0.mk S1.out.drew
  clear S1 q
  generalize w1.drew = w2 at *
  refine take_ (i := 0) (N := some 43) (v := ?_) (a' := ?_) #[true, false, false, false, false, false, false, false, false, false, false, false, false, false] rfl rfl (by kernel_rfl) (fun _ _ _ h => h) (Or.inl ⟨by rfl, ?_⟩) hHeld ?_ ?_
  rotate_left
  · intro w' s0
    obtain ⟨c0, c1, c2, c3, c4⟩ := blk5 (s0.blk 1 rfl)
    go_simp
    with_reducible rfl
  rotate_left
  · simp only [Act.put, List.setIfInBounds_toArray, List.set_cons_zero, List.set_cons_succ]
    rfl
  refine pure_ (i := 1) (N := some 44) (v := ?_) (a' := ?_) #[true, true, false, false, false, false, false, false, false, false, false, false, false, false] rfl rfl (by kernel_rfl) (fun _ _ _ h => h) (Or.inl ⟨by rfl, ?_⟩) ?_ ?_
  rotate_left
  · intro w'
    go_simp
    with_reducible rfl
  rotate_left
  · simp only [Act.put, List.setIfInBounds_toArray, List.set_cons_zero, List.set_cons_succ]
    rfl
  refine pure_ (i := 2) (N := some 45) (v := ?_) (a' := ?_) #[true, true, true, false, false, false, false, false, false, false, false, false, false, false] rfl rfl (by kernel_rfl) (fun _ _ _ h => h) (Or.inl ⟨by rfl, ?_⟩) ?_ ?_
  rotate_left
  · intro w'
    go_simp
    with_reducible rfl
  rotate_left
  · simp only [Act.put, List.setIfInBounds_toArray, List.set_cons_zero, List.set_cons_succ]
    rfl
  refine pure_ (i := 3) (N := some 46) (v := ?_) (a' := ?_) #[true, true, true, true, false, false, false, false, false, false, false, false, false, false] rfl rfl (by kernel_rfl) (fun _ _ _ h => h) (Or.inl ⟨by rfl, ?_⟩) ?_ ?_
  rotate_left
  · intro w'
    go_simp
    with_reducible rfl
  rotate_left
  · simp only [Act.put, List.setIfInBounds_toArray, List.set_cons_zero, List.set_cons_succ]
    rfl
  refine take_ (i := 4) (N := some 47) (v := ?_) (a' := ?_) #[true, true, true, true, true, false, false, false, false, false, false, false, false, false] rfl rfl (by kernel_rfl) (fun _ _ _ h => h) (Or.inl ⟨by rfl, ?_⟩) hHeld ?_ ?_
  rotate_left
  · intro w' s0
    obtain ⟨c0, c1, c2, c3, c4⟩ := blk5 (s0.blk 1 rfl)
    go_simp
    with_reducible rfl
  rotate_left
  · simp only [Act.put, List.setIfInBounds_toArray, List.set_cons_zero, List.set_cons_succ]
    rfl
  refine pure_ (i := 5) (N := some 48) (v := ?_) (a' := ?_) #[true, true, true, true, true, true, false, false, false, false, false, false, false, false] rfl rfl (by kernel_rfl) (fun _ _ _ h => h) (Or.inl ⟨by rfl, ?_⟩) ?_ ?_
  rotate_left
  · intro w'
    go_simp
    with_reducible rfl
  rotate_left
  · simp only [Act.put, List.setIfInBounds_toArray, List.set_cons_zero, List.set_cons_succ]
    rfl
  refine pure_ (i := 6) (N := some 49) (v := ?_) (a' := ?_) #[true, true, true, true, true, true, true, false, false, false, false, false, false, false] rfl rfl (by kernel_rfl) (fun _ _ _ h => h) (Or.inl ⟨by rfl, ?_⟩) ?_ ?_
  rotate_left
  · intro w'
    go_simp
    with_reducible rfl
  rotate_left
  · simp only [Act.put, List.setIfInBounds_toArray, List.set_cons_zero, List.set_cons_succ]
    rfl
  refine take_ (i := 7) (N := some 50) (v := ?_) (a' := ?_) #[true, true, true, true, true, true, true, true, false, false, false, false, false, false] rfl rfl (by kernel_rfl) (fun _ _ _ h => h) (Or.inl ⟨by rfl, ?_⟩) hHeld ?_ ?_
  rotate_left
  · intro w' s0
    obtain ⟨c0, c1, c2, c3, c4⟩ := blk5 (s0.blk 1 rfl)
    go_simp
    with_reducible rfl
  rotate_left
  · simp only [Act.put, List.setIfInBounds_toArray, List.set_cons_zero, List.set_cons_succ]
    rfl
  refine pure_ (i := 9) (N := some 52) (v := ?_) (a' := ?_) #[true, true, true, true, true, true, true, true, false, true, false, false, false, false] rfl rfl (by kernel_rfl) (fun _ _ _ h => h) (Or.inl ⟨by rfl, ?_⟩) ?_ ?_
  rotate_left
  · intro w'
    go_simp
    with_reducible rfl
  rotate_left
  · simp only [Act.put, List.setIfInBounds_toArray, List.set_cons_zero, List.set_cons_succ]
    rfl
  refine join_ (fuel' := 3) #[true, true, true, true, true, true, true, true, true, true, true, false, false, false] (fun s : (Option Addr × Nat) × (Option Addr × Nat) => [(51, .slice s.1.1 c.f1.length s.1.2), (53, .slice s.2.1 1 s.2.2)]) (fun s w' => Parts w.heap.size w w' (pF w.heap.size kLatch 45 (.slice s.1.1 c.f1.length s.1.2) c.f1 :: pF w.heap.size kLatch 45 (.slice s.2.1 1 s.2.2) [⟨0, 1⟩] :: [pB (w.heap.size + 1) 35 zCells, pB w.heap.size 26 (fc5 p c)])) ?hcont ?hjoin
  case hjoin =>
    intro hcont
    refine two_ (i := 8) (j := 10) (Ni := some 51) (Nj := some 53) #[true, true, true, true, true, true, true, true, true, true, false, false, false, false] #[true, true, true, true, true, true, true, true, false, true, true, false, false, false] rfl rfl rfl rfl (by kernel_rfl) (by decide) (by decide) (fun K hK => ?_) (fun K hK => ?_)
    · skip
      refine goes_ Try.func34 (by kernel_rfl) rfl #[.slice p.A1 c.f1.length p.c1] (by rfl) rfl rfl (by simp only [List.map_toArray, List.map_cons, List.map_nil] <;> rfl) ?_
      refine (slices_Clone_latch _ _ c.f1 _ (HH.out.below S2.out.B).s1 (by have := HSZ.out; omega)).mono ?_
      rintro e w3 ⟨A3, k3, rfl, hR, hb⟩
      refine ⟨_, rfl, ?_⟩
      have S3 := Aside0.mk (S2.out.freshF flat_latch hb hR)
      clear hR hb
      refine hK.out _ _ S3.out.tail (fun hHeld => ?_)
      clear hK K
      refine norm_ (a' := ?_) ?_ ?_
      rotate_left
      · show Act.put _ (some 51) _ = _
        simp only [Act.put, List.setIfInBounds_toArray, List.set_cons_zero, List.set_cons_succ]
        rfl
      refine one_ (i := 10) (N := some 53) #[true, true, true, true, true, true, true, true, true, true, true, false, false, false] rfl rfl (by kernel_rfl) (by decide) (fun K hK => ?_)
      refine Parts.litS S3.out kLatch 45 flat_latch (by rfl) rfl [⟨0, 1⟩] [.int .i64 0, .int .i64 1] (by first | (go_simp; done) | (go_simp; rfl)) (reps_lat 0 1) (by decide) ?_
      intro A4 k4 w4 h4
      have S4 := Aside0.mk h4
      clear h4
      refine hK.out _ _ S4.out.tail.tail (fun hHeld => ?_)
      clear hK K
      refine norm_ (a' := ?_) ?_ ?_
      rotate_left
      · show Act.put _ (some 53) _ = _
        simp only [Act.put, List.setIfInBounds_toArray, List.set_cons_zero, List.set_cons_succ]
        rfl
      refine norm_ ?_ (hcont ((A3, k3), (A4, k4)) _ (S4.out.take [1, 0, 2, 3] 4 (by simp) (by decide) (by decide)))
      simp only [putAll, Act.put, List.setIfInBounds_toArray, List.set_cons_zero, List.set_cons_succ] <;> rfl
    · skip
      refine Parts.litS S2.out kLatch 45 flat_latch (by rfl) rfl [⟨0, 1⟩] [.int .i64 0, .int .i64 1] (by first | (go_simp; done) | (go_simp; rfl)) (reps_lat 0 1) (by decide) ?_
      intro A4 k4 w4 h4
      have S4 := Aside0.mk h4
      clear h4
      refine hK.out _ _ S4.out.tail (fun hHeld => ?_)
      clear hK K
      refine norm_ (a' := ?_) ?_ ?_
      rotate_left
      · show Act.put _ (some 53) _ = _
        simp only [Act.put, List.setIfInBounds_toArray, List.set_cons_zero, List.set_cons_succ]
        rfl
      refine one_ (i := 8) (N := some 51) #[true, true, true, true, true, true, true, true, true, true, true, false, false, false] rfl rfl (by kernel_rfl) (by decide) (fun K hK => ?_)
      refine goes_ Try.func34 (by kernel_rfl) rfl #[.slice p.A1 c.f1.length p.c1] (by rfl) rfl rfl (by simp only [List.map_toArray, List.map_cons, List.map_nil] <;> rfl) ?_
      refine (slices_Clone_latch _ _ c.f1 _ (HH.out.below S4.out.B).s1 (by have := HSZ.out; omega)).mono ?_
      rintro e w3 ⟨A3, k3, rfl, hR, hb⟩
      refine ⟨_, rfl, ?_⟩
      have S3 := Aside0.mk (S4.out.freshF flat_latch hb hR)
      clear hR hb
      refine hK.out _ _ S3.out.tail.tail (fun hHeld => ?_)
      clear hK K
      refine norm_ (a' := ?_) ?_ ?_
      rotate_left
      · show Act.put _ (some 51) _ = _
        simp only [Act.put, List.setIfInBounds_toArray, List.set_cons_zero, List.set_cons_succ]
        rfl
      refine norm_ ?_ (hcont ((A3, k3), (A4, k4)) _ S3.out)
      simp only [putAll, Act.put, List.setIfInBounds_toArray, List.set_cons_zero, List.set_cons_succ] <;> rfl
  case hcont =>
    rintro ⟨⟨A3, k3⟩, A4, k4⟩ w5 l5
    dsimp only at l5 ⊢
    have S5 := Aside0.mk l5
    clear l5 S2
    refine norm_ (a' := ?_) ?_ ?_
    rotate_left
    · simp only [putAll, Act.put, List.setIfInBounds_toArray, List.set_cons_zero, List.set_cons_succ]
      rfl
    refine one_ (i := 11) (N := some 54) #[true, true, true, true, true, true, true, true, true, true, true, true, false, false] rfl rfl (by kernel_rfl) (by decide) (fun K hK => ?_)
    refine Parts.appendRS S5.out 0 rfl flat_latch flatK_latch (by rfl) (.tmp 51) (.tmp 53) 22 (.agg #[.int .i64 0, .int .i64 0]) 16 rfl Try.underlying22 infoLatchB rfl (by decide) (by decide) [⟨0, 1⟩] A4 k4 rfl rfl (S5.out.rowF 1 rfl) (by have := HSZ.out; simp only [List.length_singleton]; omega) ?_
    intro vL1 vL2 w6 h6
    have S6 := Aside0.mk (show Parts w.heap.size w w6 (pF w.heap.size kLatch 45 (.slice vL1 (c.f1.length + 1) vL2) (c.f1 ++ [⟨0, 1⟩]) :: [pB (w.heap.size + 1) 35 zCells, pB w.heap.size 26 (fc5 p c)]) from h6.erase 1)
    clear h6 S5
    refine hK.out _ _ S6.out.tail (fun hHeld => ?_)
    clear hK K
    refine norm_ (a' := ?_) ?_ ?_
    rotate_left
    · show Act.put _ (some 54) _ = _
      simp only [Act.put, List.setIfInBounds_toArray, List.set_cons_zero, List.set_cons_succ]
      rfl
    refine one_ (i := 12) (N := some 55) #[true, true, true, true, true, true, true, true, true, true, true, true, true, false] rfl rfl (by kernel_rfl) (by decide) (fun K hK => ?_)
    refine goes_ Try.func33 (by kernel_rfl) rfl #[cv p c, .int .i64 inp, .slice vL1 (c.f1.length + 1) vL2] (by rfl) rfl rfl (by simp only [List.map_toArray, List.map_cons, List.map_nil] <;> rfl) ?_
    refine (b_begin S6.out p c inp (vL1, vL2) (c.f1.length + 1)).mono ?_
    rintro e w7 ⟨gB, gM, rfl, h7⟩
    refine ⟨_, rfl, ?_⟩
    have S7 := Aside0.mk h7
    clear h7 S6
    refine hK.out _ _ S7.out.tail.tail.tail.tail (fun hHeld => ?_)
    clear hK K
    refine norm_ (a' := ?_) ?_ ?_
    rotate_left
    · show Act.put _ (some 55) _ = _
      simp only [Act.put, List.setIfInBounds_toArray, List.set_cons_zero, List.set_cons_succ]
      rfl
    refine pure_ (i := 13) (N := some 8) (v := ?_) (a' := ?_) #[true, true, true, true, true, true, true, true, true, true, true, true, true, true] rfl rfl (by kernel_rfl) (fun _ _ _ h => h) (Or.inl ⟨by rfl, ?_⟩) ?_ ?_
    rotate_left
    · intro w'
      go_simp
      with_reducible rfl
    rotate_left
    · simp only [Act.put, List.setIfInBounds_toArray, List.set_cons_zero, List.set_cons_succ]
      rfl
    refine done_ (by kernel_rfl) ?_
    clear hHeld hw hw0
    go_upto_region 9 with (fail)
    have S8 := Aside0.mk (show Parts w.heap.size w (w7.alloc (.cells #[.int .i64 (k : Int), .int .i64 1, .slice none 0 0, .slice none 0 0, .slice none 0 0, .slice none 0 0, .int .i64 1] 33)) (bPs w.heap.size gB gM inp (c.f1.length + 1) (fcOf p c) (vL1, vL2) (none, 0) [] ++ (ePs w.heap.size w7.heap.size w.heap.size (w.heap.size + 1) k (fc5 p c) (vL1, vL2) (none, 0) (none, 0) (none, 0) (c.f1.length + 1) (c.f1 ++ [⟨0, 1⟩]) [] [] [] [])) from by
      have h1 := (((((S7.out.nil (Kd.int .i64) 3).nil (Kd.int .i64) 3).nil kHead 24).inNil (Kd.int .i64) 3).new 33 #[.int .i64 (k : Int), .int .i64 1, .slice none 0 0, .slice none 0 0, .slice none 0 0, .slice none 0 0, .int .i64 1])
      exact h1.take [5, 6, 7, 8, 0, 4, 3, 2, 1, 10, 9] 11 (by simp) (by decide) (by decide))
    generalize w7.heap.size = gU at *
    generalize w7.alloc (.cells #[.int .i64 (k : Int), .int .i64 1, .slice none 0 0, .slice none 0 0, .slice none 0 0, .slice none 0 0, .int .i64 1] 33) = w8 at *
    clear S7
    go_wp2
    go_loopg [60] c.f1.length (fun gg s60 wr => ∃ (m : Nat) (vF vT : Option Addr × Nat), s60 = .int .i64 m ∧ Aside0 (m ≤ c.f1.length ∧ c.f1.length - m ≤ gg) ∧ Aside0 (Parts w.heap.size w wr (bPs w.heap.size gB gM inp (c.f1.length + 1) (fcOf p c) (vL1, vL2) (none, 0) [] ++ (ePs w.heap.size gU w.heap.size (w.heap.size + 1) k (fc5 p c) (vL1, vL2) vF vT (none, 0) (c.f1.length + 1) (c.f1 ++ [⟨0, 1⟩]) (lasOf inp m) (lasOf c.f0 m) [] []))))
    case atStart => exact ⟨0, (none, 0), (none, 0), rfl, ⟨by omega, by omega⟩, S8⟩
    case round =>
      clear S8
      obtain ⟨m, vF, vT, rfl, HK, S⟩ := hrel
      by_cases hlt : m < c.f1.length
      · have HLT := Aside0.mk hlt
        have hlti : (m : Int) < (c.f1.length : Int) := by omega
        go_upto_region 12 with (fail)
        obtain ⟨y, hy⟩ : ∃ y : Int, 2 * (inp + 1 + (m : Int)) = y := ⟨_, rfl⟩
        have hw : IntKind.i64.wrap (2 * IntKind.i64.wrap (IntKind.i64.wrap (inp + 1) + (m : Int))) = y := by
          have h1 := HIB.out; have h2 := HSZ.out
          rw [wrap_i64 (x := inp + 1) (by omega) (by omega), wrap_i64 (x := inp + 1 + (m : Int)) (by omega) (by omega), wrap_i64 (by omega) (by omega), hy]
        have HSF := Aside0.mk (show lasOf inp (m + 1) = lasOf inp m ++ [y] by rw [lasOf_succ, hy])
        have HLF := Aside0.mk (show (lasOf inp m).length = m from lasOf_len _ _)
        clear hy
        generalize lasOf inp m = F at *
        have q := (⟨(S.out.cell 4 rfl 2 rfl).1, (S.out.cell 0 rfl 0 rfl).1⟩ : _ ∧ _)
        refine start_ (n := 15) (S := (fun w' : World => w'.cell? ⟨gU, 2, none⟩ = some (.slice vF.1 F.length vF.2) ∧ w'.cell? ⟨gB, 0, none⟩ = some (.int .i64 inp))) (ds := [14]) #[false, false, false, false, false, false, false, false, false, false, false, false, false, false, false] (by kernel_rfl) rfl rfl q (fun hHeld => ?_)
        clear q
        have S2 := Aside0.mk S.out.drew
        clear S
        generalize wr.drew = w2 at *
        refine pure_ (i := 0) (N := some 63) (v := ?_) (a' := ?_) #[true, false, false, false, false, false, false, false, false, false, false, false, false, false, false] rfl rfl (by kernel_rfl) (fun _ _ _ h => h) (Or.inl ⟨by rfl, ?_⟩) ?_ ?_
        rotate_left
        · intro w'
          go_simp
          with_reducible rfl
        rotate_left
        · simp only [Act.put, List.setIfInBounds_toArray, List.set_cons_zero, List.set_cons_succ]
          rfl
        refine take_ (i := 1) (N := some 64) (v := ?_) (a' := ?_) #[true, true, false, false, false, false, false, false, false, false, false, false, false, false, false] rfl rfl (by kernel_rfl) (fun _ _ _ h => h) (Or.inl ⟨by rfl, ?_⟩) hHeld ?_ ?_
        rotate_left
        · rintro w' ⟨s0, s1⟩
          go_simp
          with_reducible rfl
        rotate_left
        · simp only [Act.put, List.setIfInBounds_toArray, List.set_cons_zero, List.set_cons_succ]
          rfl
        refine pure_ (i := 2) (N := some 65) (v := ?_) (a' := ?_) #[true, true, true, false, false, false, false, false, false, false, false, false, false, false, false] rfl rfl (by kernel_rfl) (fun _ _ _ h => h) (Or.inl ⟨by rfl, ?_⟩) ?_ ?_
        rotate_left
        · intro w'
          go_simp
          with_reducible rfl
        rotate_left
        · simp only [Act.put, List.setIfInBounds_toArray, List.set_cons_zero, List.set_cons_succ]
          rfl
        refine pure_ (i := 3) (N := some 66) (v := ?_) (a' := ?_) #[true, true, true, true, false, false, false, false, false, false, false, false, false, false, false] rfl rfl (by kernel_rfl) (fun _ _ _ h => h) (Or.inl ⟨by rfl, ?_⟩) ?_ ?_
        rotate_left
        · intro w'
          go_simp
          with_reducible rfl
        rotate_left
        · simp only [Act.put, List.setIfInBounds_toArray, List.set_cons_zero, List.set_cons_succ]
          rfl
        refine pure_ (i := 4) (N := some 67) (v := ?_) (a' := ?_) #[true, true, true, true, true, false, false, false, false, false, false, false, false, false, false] rfl rfl (by kernel_rfl) (fun _ _ _ h => h) (Or.inl ⟨by rfl, ?_⟩) ?_ ?_
        rotate_left
        · intro w'
          go_simp
          with_reducible rfl
        rotate_left
        · simp only [Act.put, List.setIfInBounds_toArray, List.set_cons_zero, List.set_cons_succ]
          rfl
        refine pure_ (i := 5) (N := some 68) (v := ?_) (a' := ?_) #[true, true, true, true, true, true, false, false, false, false, false, false, false, false, false] rfl rfl (by kernel_rfl) (fun _ _ _ h => h) (Or.inl ⟨by rfl, ?_⟩) ?_ ?_
        rotate_left
        · intro w'
          go_simp
          with_reducible rfl
        rotate_left
        · simp only [Act.put, List.setIfInBounds_toArray, List.set_cons_zero, List.set_cons_succ]
          rfl
        refine take_ (i := 6) (N := some 69) (v := ?_) (a' := ?_) #[true, true, true, true, true, true, true, false, false, false, false, false, false, false, false] rfl rfl (by kernel_rfl) (fun _ _ _ h => h) (Or.inl ⟨by rfl, ?_⟩) hHeld ?_ ?_
        rotate_left
        · rintro w' ⟨s0, s1⟩
          go_simp
          with_reducible rfl
        rotate_left
        · simp only [Act.put, List.setIfInBounds_toArray, List.set_cons_zero, List.set_cons_succ]
          rfl
        refine pure_ (i := 7) (N := some 70) (v := ?_) (a' := ?_) #[true, true, true, true, true, true, true, true, false, false, false, false, false, false, false] rfl rfl (by kernel_rfl) (fun _ _ _ h => h) (Or.inl ⟨by rfl, ?_⟩) ?_ ?_
        rotate_left
        · intro w'
          go_simp
          with_reducible rfl
        rotate_left
        · simp only [Act.put, List.setIfInBounds_toArray, List.set_cons_zero, List.set_cons_succ]
          rfl
        refine pure_ (i := 8) (N := some 71) (v := ?_) (a' := ?_) #[true, true, true, true, true, true, true, true, true, false, false, false, false, false, false] rfl rfl (by kernel_rfl) (fun _ _ _ h => h) (Or.inl ⟨by rfl, ?_⟩) ?_ ?_
        rotate_left
        · intro w'
          go_simp
          with_reducible rfl
        rotate_left
        · simp only [Act.put, List.setIfInBounds_toArray, List.set_cons_zero, List.set_cons_succ]
          rfl
        refine pure_ (i := 9) (N := some 72) (v := ?_) (a' := ?_) #[true, true, true, true, true, true, true, true, true, true, false, false, false, false, false] rfl rfl (by kernel_rfl) (fun _ _ _ h => h) (Or.inl ⟨by rfl, ?_⟩) ?_ ?_
        rotate_left
        · intro w'
          go_simp
          with_reducible rfl
        rotate_left
        · simp only [Act.put, List.setIfInBounds_toArray, List.set_cons_zero, List.set_cons_succ]
          rfl
        refine pure_ (i := 10) (N := some 73) (v := ?_) (a' := ?_) #[true, true, true, true, true, true, true, true, true, true, true, false, false, false, false] rfl rfl (by kernel_rfl) (fun _ _ _ h => h) (Or.inl ⟨by rfl, ?_⟩) ?_ ?_
        rotate_left
        · intro w'
          go_simp
          with_reducible rfl
        rotate_left
        · simp only [Act.put, List.setIfInBounds_toArray, List.set_cons_zero, List.set_cons_succ]
          rfl
        refine one_ (i := 11) (N := some 74) #[true, true, true, true, true, true, true, true, true, true, true, true, false, false, false] rfl rfl (by kernel_rfl) (by decide) (fun K hK => ?_)
        refine value_ (w1 := ?_) (v := ?_) (by rfl) rfl ?_ ?_
        rotate_left 2
        · go_simp
          constructor
          · rfl
          · rfl
        refine hK.out _ _ ⟨(World.cell?_alloc_lt _ _ _ (World.block_lt_of_cell? _ _ hHeld.1)).trans hHeld.1, (World.cell?_alloc_lt _ _ _ (World.block_lt_of_cell? _ _ hHeld.2)).trans hHeld.2⟩ (fun hHeld => ?_)
        clear hK K
        refine norm_ (a' := ?_) ?_ ?_
        rotate_left
        · show Act.put _ (some 74) _ = _
          simp only [Act.put, List.setIfInBounds_toArray, List.set_cons_zero, List.set_cons_succ]
          rfl
        refine one_ (i := 12) (N := some 75) #[true, true, true, true, true, true, true, true, true, true, true, true, true, false, false] rfl rfl (by kernel_rfl) (by decide) (fun K hK => ?_)
        refine Parts.appendS S2.out 5 rfl flat_int (by rfl) (.tmp 64) (.tmp 74) 24 (.int .i64 0) 8 rfl Try.underlying24 infoInt rfl (by decide) (by decide) y [.int .i64 y] rfl rfl rfl (by have h1 := HLF.out; have h3 := HLT.out; have h5 := HSZ.out; omega) ?_
        intro V6 cap6 w6 h6
        have S6 := Aside0.mk h6
        clear h6 S2
        refine hK.out _ _ ⟨(S6.out.cell 4 rfl 2 rfl).1, (S6.out.cell 0 rfl 0 rfl).1⟩ (fun hHeld => ?_)
        clear hK K
        refine norm_ (a' := ?_) ?_ ?_
        rotate_left
        · show Act.put _ (some 75) _ = _
          simp only [Act.put, List.setIfInBounds_toArray, List.set_cons_zero, List.set_cons_succ]
          rfl
        obtain ⟨c0, f0⟩ := S6.out.cell 4 rfl 2 rfl
        refine pure_ (i := 13) (N := some 76) (v := ?_) (a' := ?_) #[true, true, true, true, true, true, true, true, true, true, true, true, true, true, false] rfl rfl (by kernel_rfl) (fun _ _ _ h => h) (Or.inl ⟨by rfl, ?_⟩) ?_ ?_
        rotate_left
        · intro w'
          go_simp
          with_reducible rfl
        rotate_left
        · simp only [Act.put, List.setIfInBounds_toArray, List.set_cons_zero, List.set_cons_succ]
          rfl
        refine last_ (i := 14) (N := none) #[true, true, true, true, true, true, true, true, true, true, true, true, true, true, true] rfl rfl (by kernel_rfl) (by decide) (fun K hK => ?_)
        refine skip_ (w1 := ?_) (by rfl) rfl ?_ ?_
        rotate_left
        · go_simp
          rfl
        refine hK.out _ _ ?_
        clear hK K
        refine done_ (by kernel_rfl) ?_
        have S7 := Aside0.mk (S6.out.put 4 rfl 2 (.slice V6 (F.length + 1) cap6) rfl)
        clear S6 c0 f0 hw
        generalize w6.setCell ⟨gU, 2, none⟩ (.slice V6 (F.length + 1) cap6) = w7 at *
        obtain ⟨z, hz⟩ : ∃ y : Int, 2 * (c.f0 + 1 + (m : Int)) = y := ⟨_, rfl⟩
        have hw : wrap64 (2 * wrap64 (wrap64 (c.f0 + 1) + (m : Int))) = z := by
          have h2 := HSZ.out; have h3 := HLT.out
          rw [wrap_in (x := c.f0 + 1) (by omega) (by omega), wrap_in (x := c.f0 + 1 + (m : Int)) (by omega) (by omega), wrap_in (by omega) (by omega), hz]
        have HST := Aside0.mk (show lasOf c.f0 (m + 1) = lasOf c.f0 m ++ [z] by rw [lasOf_succ, hz])
        have HLT2 := Aside0.mk (show (lasOf c.f0 m).length = m from lasOf_len _ _)
        clear hz
        generalize lasOf c.f0 m = T at *
        obtain ⟨c4, f4⟩ := S7.out.cell 4 rfl 4 rfl
        have c0 : w7.cell? ⟨w.heap.size, 0, none⟩ = some (.int .i64 c.f0) := (S7.out.cell 9 rfl 0 rfl).1
        go_wp2_with (first | (at_builtin; refine Parts.appendL S7.out 6 rfl flat_int rfl (.tmp 78) (.tmp 85) 24 (.int .i64 0) 8 rfl Try.underlying24 infoInt rfl (by decide) (by decide) z [.int .i64 z] rfl (by rw [hw]; rfl) rfl (by have h1 := HLT2.out; have h3 := HLT.out; have h5 := HSZ.out; omega) ?_; intro V8 cap8 w8 h8; obtain ⟨c8, f8⟩ := h8.cell 4 rfl 4 rfl; have S8 := Aside0.mk h8; clear h8))
        have S9 := Aside0.mk (S8.out.put 4 rfl 4 (.slice V8 (T.length + 1) cap8) rfl)
        go_roundg (c.f1.length - (m + 1))
        case measure => have := HK.out; have := HLT.out; omega
        case rel => exact ⟨m + 1, (V6, cap6), (V8, cap8), (by first | exact val_step HLT.out (by have := HSZ.out; omega) | exact congrArg (Value.int .i64) (by omega)), ⟨HLT.out, by have := HK.out; omega⟩, ⟨by
          rw [HSF.out, HST.out]
          have e1 : (F ++ [y]).length = F.length + 1 := by simp
          have e2 : (T ++ [z]).length = T.length + 1 := by simp
          unfold ePs
          rw [e1, e2]
          exact S9.out⟩⟩
      · have hk : m = c.f1.length := by have := HK.out; omega
        subst hk
        clear hlt HK
        have HF0 := Aside0.mk (show lasOf inp c.f1.length = (ph0 inp c).state ∧ (lasOf inp c.f1.length).length = c.f1.length from ⟨rfl, lasOf_len _ _⟩)
        have HT0 := Aside0.mk (show (lasOf c.f0 c.f1.length).length = c.f1.length from lasOf_len _ _)
        obtain ⟨F, hF⟩ : ∃ F, lasOf inp c.f1.length = F := ⟨_, rfl⟩
        obtain ⟨T0, hT⟩ : ∃ T, lasOf c.f0 c.f1.length = T := ⟨_, rfl⟩
        rw [hF] at HF0
        rw [hT] at HT0
        rw [hF, hT] at S
        have HFT := Aside0.mk (And.intro hF hT)
        clear hF hT
        obtain ⟨c4, f4⟩ := S.out.cell 4 rfl 4 rfl
        go_upto_region 16 with (first | (at_builtin; refine Parts.appendL S.out 6 rfl flat_int rfl (.tmp 90) (.tmp 91) 24 (.int .i64 0) 8 rfl Try.underlying24 infoInt rfl (by decide) (by decide) (-1) [.int .i64 (-1)] rfl rfl rfl (by have h1 := HT0.out; have h5 := HSZ.out; omega) ?_; intro V8 cap8 w8 h8; obtain ⟨c8, f8⟩ := h8.cell 4 rfl 4 rfl; have S8 := Aside0.mk h8; clear h8) | fail)
        have S9 := Aside0.mk (show Parts w.heap.size w (w8.setCell ⟨gU, 4, none⟩ (.slice V8 (T0.length + 1) cap8)) (bPs w.heap.size gB gM inp (c.f1.length + 1) (fcOf p c) (vL1, vL2) (none, 0) [] ++ (ePs w.heap.size gU w.heap.size (w.heap.size + 1) k (fc5 p c) (vL1, vL2) vF (V8, cap8) (none, 0) (c.f1.length + 1) (c.f1 ++ [⟨0, 1⟩]) F (T0 ++ [-1]) [] [])) from by
          have h_ := S8.out.put 4 rfl 4 (.slice V8 (T0.length + 1) cap8) rfl
          have e1 : (T0 ++ [-1]).length = T0.length + 1 := by simp
          unfold ePs
          rw [e1]
          exact h_)
        clear S8 c8 f8 c4 f4 S
        generalize w8.setCell ⟨gU, 4, none⟩ (.slice V8 (T0.length + 1) cap8) = w9 at *
        obtain ⟨T, hT⟩ : ∃ T, T0 ++ [-1] = T := ⟨_, rfl⟩
        rw [hT] at S9
        have HTT := Aside0.mk (show lasOf c.f0 c.f1.length ++ [-1] = T by rw [HFT.out.2, hT])
        clear hT
        obtain ⟨vT, hvT⟩ : ∃ v : Option Addr × Nat, (V8, cap8) = v := ⟨_, rfl⟩
        rw [hvT] at S9
        clear hvT
        have c2 : w9.cell? ⟨gU, 2, none⟩ = some (.slice vF.1 F.length vF.2) := (S9.out.cell 4 rfl 2 rfl).1
        go_wp2_with fail
        refine (slices_Clone_int _ _ F _ (S9.out.rowF 5 rfl) (by have h1 := HF0.out.2; have := HSZ.out; omega)).mono ?_
        rintro e w10 ⟨A8, k8, rfl, hR, hb⟩
        have S10 := Aside0.mk (show Parts w.heap.size w w10 (bPs w.heap.size gB gM inp (c.f1.length + 1) (fcOf p c) (vL1, vL2) (none, 0) [] ++ (pF w.heap.size (Kd.int .i64) 3 (.slice A8 c.f1.length k8) F :: pF w.heap.size (Kd.int .i64) 3 (.slice ((none, 0) : Option Addr × Nat).1 0 ((none, 0) : Option Addr × Nat).2) [] :: (ePs w.heap.size gU w.heap.size (w.heap.size + 1) k (fc5 p c) (vL1, vL2) vF vT (none, 0) (c.f1.length + 1) (c.f1 ++ [⟨0, 1⟩]) F T [] []))) from by
          have h_ := S9.out.freshF flat_int hb hR
          rw [HF0.out.2] at h_
          exact (h_.nil (Kd.int .i64) 3).take [2, 3, 4, 1, 0, 5, 6, 7, 8, 9, 10, 11, 12] 13 (by simp) (by decide) (by decide))
        clear S9 hR hb c2
        rw [HF0.out.2]
        have HN0 := Aside0.mk (show 0 ≤ inp + ((c.f1.length + 1 : Nat) : Int) ∧ inp + ((c.f1.length + 1 : Nat) : Int) ≤ 200000 by have := HIB.out; have := HSZ.out; omega)
        have HP0 := Aside0.mk (ph0_ok (x := inp) (c := c) HIB.out.1 (by have := HIB.out; omega) HSZ.out.1)
        have HFR := Aside0.mk (fun (j : Nat) (hj : j < k) => show 0 ≤ pfFr c j ∧ pfFr c j ≤ 10000 from by
          have h1 := HSZ.out; have h3 := HKK.out
          have h4 : 0 ≤ ((j : Int) + 1) * c.f0 := Int.mul_nonneg (by omega) h1.2.1
          have h5 : ((j : Int) + 1) * c.f0 ≤ 8 * 1000 := calc ((j : Int) + 1) * c.f0 ≤ 8 * c.f0 := Int.mul_le_mul_of_nonneg_right (by omega) h1.2.1
            _ ≤ 8 * 1000 := by omega
          unfold pfFr; omega)
        have HPK := Aside0.mk (fun (j : Nat) (hj : j ≤ k) => PhOk.run HN0.out.1 HN0.out.2 HFI.out HP0.out (fr := pfFr c) j (by have := HKK.out; omega) (fun i hi => HFR.out i (by omega)))
        have hfl : wrap64 (2 * wrap64 (wrap64 (inp + 1) + (c.f1.length : Int))) = pfFlag inp c := by
          have h1 := HIB.out; have h2 := HSZ.out
          unfold pfFlag
          rw [wrap_in (x := inp + 1) (by omega) (by omega), wrap_in (x := inp + 1 + (c.f1.length : Int)) (by omega) (by omega), wrap_in (by omega) (by omega)]
        have HFL := Aside0.mk (show LB (pfFlag inp c) by have h1 := HIB.out; have h2 := HSZ.out; unfold pfFlag; exact ⟨by omega, by omega⟩)
        obtain ⟨flag, hflag⟩ : ∃ x, pfFlag inp c = x := ⟨_, rfl⟩
        rw [hflag] at hfl HFL
        have HFG := Aside0.mk hflag
        clear hflag
        have cb0 : w10.cell? ⟨gB, 0, none⟩ = some (.int .i64 inp) := (S10.out.cell 0 rfl 0 rfl).1
        go_wp2
        rw [hfl]
        clear hfl cb0
        go_loopg [11, 14, 15, 108] k (fun gg s11 s14 s15 s108 wr => ∃ (j : Nat) (s : Ph) (vA vS vH vI : Option Addr × Nat) (hs : List HeadR), s11 = .slice vS.1 c.f1.length vS.2 ∧ s14 = .int .i64 s.sofar ∧ s15 = .slice vH.1 s.hopes.length vH.2 ∧ s108 = .int .i64 j ∧ Aside0 (j ≤ k ∧ k - j ≤ gg) ∧ Aside0 (phRun (inp + (c.f1.length + 1 : Nat)) c (pfFr c) (ph0 inp c) j = s) ∧
          Aside0 (Parts w.heap.size w wr (bPs w.heap.size gB gM inp (c.f1.length + 1) (fcOf p c) (vL1, vL2) vA s.ands ++ (pF w.heap.size (Kd.int .i64) 3 (.slice vS.1 c.f1.length vS.2) s.state :: pF w.heap.size (Kd.int .i64) 3 (.slice vH.1 s.hopes.length vH.2) s.hopes :: (ePs w.heap.size gU w.heap.size (w.heap.size + 1) k (fc5 p c) (vL1, vL2) vF vT vI (c.f1.length + 1) (c.f1 ++ [⟨0, 1⟩]) F T hs (phRows c (pfFr c) j))))))
        case atStart => exact ⟨0, ph0 inp c, (none, 0), (A8, k8), (none, 0), (none, 0), [], rfl, rfl, rfl, rfl, ⟨by omega, by omega⟩, ⟨rfl⟩, ⟨by rw [← HF0.out.1]; exact S10.out⟩⟩
        case round =>
          clear S10
          obtain ⟨j, s, vA, vS, vH, vI, hs, rfl, rfl, rfl, rfl, HK, HE, S⟩ := hrel
          have HPS := Aside0.mk (HPK.out j HK.out.1)
          rw [HE.out] at HPS
          by_cases hlt : j < k
          · have HLT := Aside0.mk hlt
            have hlti : (j : Int) < (k : Int) := by omega
            obtain ⟨fr, hfr⟩ : ∃ x, pfFr c j = x := ⟨_, rfl⟩
            have HFB := Aside0.mk (HFR.out j hlt)
            rw [hfr] at HFB
            have HFE := Aside0.mk hfr
            have hw : wrap64 (1 + wrap64 (wrap64 ((j : Int) + 1) * c.f0)) = fr := by
              have h0 := HFB.out; have h1 := HKK.out
              unfold pfFr at hfr
              rw [wrap_in (x := (j : Int) + 1) (by omega) (by omega), wrap_in (x := ((j : Int) + 1) * c.f0) (by omega) (by omega), wrap_in (by omega) (by omega), hfr]
            have c0 : wr.cell? ⟨w.heap.size, 0, none⟩ = some (.int .i64 c.f0) := (S.out.cell 11 rfl 0 rfl).1
            clear hlt hfr
            have HRW := Aside0.mk (show phRows c (pfFr c) (j + 1) = phRows c (pfFr c) j ++ [bIns fr c.f0.toNat] by rw [phRows_succ, HFE.out])
            have HRL := Aside0.mk (show (phRows c (pfFr c) j).length ≤ 100 by unfold phRows; rw [List.length_map, List.length_range]; have := HLT.out; have := HKK.out; omega)
            have SI := Aside0.mk (S.out.take [6, 9, 10, 11, 0, 1, 2, 3, 4, 5, 7, 8, 12] 13 (by simp) (by decide) (by decide))
            go_wp2_with fail
            rw [hw]
            clear c0 hw
            refine (pf_inputs SI.out HSZ.out.2 HFB.out HRL.out).mono ?_
            rintro e w8 ⟨rfl, vI2, hs2, h8⟩
            rw [← HRW.out] at h8
            have S10 := Aside0.mk (show Parts w.heap.size w w8 (bPs w.heap.size gB gM inp (c.f1.length + 1) (fcOf p c) (vL1, vL2) vA s.ands ++ (pF w.heap.size (Kd.int .i64) 3 (.slice vS.1 c.f1.length vS.2) s.state :: pF w.heap.size (Kd.int .i64) 3 (.slice vH.1 s.hopes.length vH.2) s.hopes :: (ePs w.heap.size gU w.heap.size (w.heap.size + 1) k (fc5 p c) (vL1, vL2) vF vT vI2 (c.f1.length + 1) (c.f1 ++ [⟨0, 1⟩]) F T hs2 (phRows c (pfFr c) (j + 1))))) from h8.take [4, 5, 6, 7, 8, 9, 0, 10, 11, 1, 2, 3, 12] 13 (by simp) (by decide) (by decide))
            clear h8 SI S
            have CF := Aside0.mk (b_frame (p := p) (f := c) S10.out ⟨HIB.out.1, by have := HIB.out; omega, by have := HSZ.out; omega, by have := HPS.out.n; have := HLT.out; have := HKK.out; omega, HPS.out.g⟩ (by have := HPS.out.n; have := HLT.out; have := HKK.out; omega) HFI.out HH.out (input := fr) HFB.out (sA := vS.1) (sc := vS.2) (state := s.state) (fun W vA ands h => h.rowF 3 rfl) HPS.out.l HPS.out.x)
            rw [HPS.out.l] at CF
            have HFO := Aside0.mk (bFrame_ok HN0.out.1 HN0.out.2 HFI.out (ands := s.ands) (by have := HPS.out.n; have := HLT.out; have := HKK.out; omega) HPS.out.g (input := fr) HFB.out HPS.out.l HPS.out.x)
            have HST := Aside0.mk (show phRun (inp + (c.f1.length + 1 : Nat)) c (pfFr c) (ph0 inp c) (j + 1) = phStep (inp + (c.f1.length + 1 : Nat)) c fr s by rw [← HFE.out, ← HE.out]; rfl)
            unfold phStep at HST
            generalize bFrame (inp + (c.f1.length + 1 : Nat)) c s.ands fr s.state = R at *
            go_wp2_with fail
            refine CF.out.mono ?_
            rintro e w10 ⟨vA2, Vn, cn, rfl, h10⟩
            go_upto_region 27 with (fail)
            have S11 := Aside0.mk ((h10.new 82 #[.slice Vn c.f1.length cn, .int .i64 R.bad, .int .i64 R.right]).behind (qs := bPs w.heap.size gB gM inp (c.f1.length + 1) (fcOf p c) (vL1, vL2) vA2 R.ands))
            clear h10 CF S10
            generalize w10.heap.size = gF at *
            generalize w10.alloc (.cells #[.slice Vn c.f1.length cn, .int .i64 R.bad, .int .i64 R.right] 82) = w11 at *
            have c2 : w11.cell? ⟨gF, 2, none⟩ = some (.int .i64 R.right) := (S11.out.cell 3 rfl 2 rfl).1
            have HAB := Aside0.mk (show R.ands.length ≤ 90000 by have := HFO.out.n; have := HPS.out.n; have := HLT.out; have := HKK.out; omega)
            go_wp2_with fail
            refine (b_and_does _ _ R.ands s.sofar R.right S11.out ⟨HIB.out.1, by have := HIB.out; omega, by have := HSZ.out; omega, by have := HAB.out; omega, HFO.out.g⟩ HPS.out.r HFO.out.r).mono ?_
            rintro e w12 ⟨vA3, rfl, h12⟩
            have HO1 := Aside0.mk (bAnd_op HN0.out.1 HN0.out.2)
            have HA1 := Aside0.mk (And.intro (HO1.out.n R.ands s.sofar R.right) (And.intro (HO1.out.g R.ands s.sofar R.right HFO.out.g HPS.out.r HFO.out.r) (HO1.out.l R.ands s.sofar R.right (by have := HAB.out; omega) HPS.out.r HFO.out.r)))
            have S12 := Aside0.mk h12
            clear h12 S11 c2
            try dsimp only at HST
            generalize bAnd (inp + (c.f1.length + 1 : Nat)) R.ands s.sofar R.right = a at *
            obtain ⟨a1, a2⟩ := a
            dsimp only at HA1 S12 HST ⊢
            have c1 : w12.cell? ⟨gF, 1, none⟩ = some (.int .i64 R.bad) := (S12.out.cell 3 rfl 1 rfl).1
            go_wp2_with fail
            refine (b_and_does _ _ a1 R.bad a2 S12.out ⟨HIB.out.1, by have := HIB.out; omega, by have := HSZ.out; omega, by have := HAB.out; have := HA1.out.1; omega, HA1.out.2.1⟩ HFO.out.b HA1.out.2.2).mono ?_
            rintro e w13 ⟨vA4, rfl, h13⟩
            have S13 := Aside0.mk h13
            clear h13 S12 c1
            generalize bAnd (inp + (c.f1.length + 1 : Nat)) a1 R.bad a2 = b at *
            obtain ⟨b1, b2⟩ := b
            dsimp only at S13 HST ⊢
            go_upto_region 29 with (first | (at_builtin; refine Parts.appendL S13.out 6 rfl flat_int rfl (.tmp 129) (.tmp 135) 24 (.int .i64 0) 8 rfl Try.underlying24 infoInt rfl (by decide) (by decide) b2 [.int .i64 b2] rfl rfl rfl (by rw [HPS.out.h]; have := HLT.out; have := HKK.out; omega) ?_; intro V3 cap3 w14 h14; have S14 := Aside0.mk h14; clear h14) | fail)
            have c0 : w14.cell? ⟨gF, 0, none⟩ = some (.slice Vn c.f1.length cn) := (S14.out.cell 3 rfl 0 rfl).1
            have S15 := Aside0.mk ((S14.out.erase 5).erase 3)
            go_wp2
            go_roundg (k - (j + 1))
            case measure => have := HK.out; have := HLT.out; omega
            case rel => exact ⟨j + 1, ⟨b1, R.nexts, a2, s.hopes ++ [b2]⟩, vA4, (Vn, cn), (V3, cap3), vI2, hs2, rfl, rfl, (by simp), (by first | exact val_step HLT.out (by have := HKK.out; omega) | exact congrArg (Value.int .i64) (by omega)), ⟨HLT.out, by have := HK.out; omega⟩, HST, ⟨by
              dsimp only
              rw [show (s.hopes ++ [b2]).length = s.hopes.length + 1 by simp]
              exact S15.out⟩⟩
          · have hk : k = j := by have := HK.out; omega
            subst hk
            clear hlt HK
            have hki : (k : Int) = (k : Int) := rfl
            have c0 : wr.cell? ⟨w.heap.size, 0, none⟩ = some (.int .i64 c.f0) := (S.out.cell 11 rfl 0 rfl).1
            have HRL := Aside0.mk (show (phRows c (pfFr c) k).length ≤ 100 by unfold phRows; rw [List.length_map, List.length_range]; have := HKK.out; omega)
            have SI := Aside0.mk (S.out.take [6, 9, 10, 11, 0, 1, 2, 3, 4, 5, 7, 8, 12] 13 (by simp) (by decide) (by decide))
            have HBY := Aside0.mk (show s.ands.length ≤ 24016 ∧ s.hopes.length ≤ 8 by have h1 := HPS.out.n; have h2 := HPS.out.h; have := HKK.out; omega)
            obtain ⟨RR, hRR⟩ : ∃ R, pfFrame inp c s = R := ⟨_, rfl⟩
            obtain ⟨EE_, hEE⟩ : ∃ E, pfEnds (inp + (c.f1.length + 1 : Nat)) (pfFlag inp c) RR s = E := ⟨_, rfl⟩
            have HPD := Aside0.mk (pfDone_eq HIN.out HE.out hRR hEE)
            rw [HFT.out.1, HTT.out] at HPD
            unfold pfFrame at hRR
            rw [HFT.out.1, HFG.out] at hRR
            rw [HFG.out] at hEE
            have HRR := Aside0.mk hRR
            have HEQ := Aside0.mk hEE
            clear hRR hEE
            clear HPK HE HFR HP0 hki
            have HFLB := Aside0.mk (show ∀ x ∈ F, LB x by rw [← HFT.out.1]; exact lasOf_ok HIB.out.1 (by have := HIB.out; omega) HSZ.out.1)
            have HM0 := Aside0.mk (show MixOk s.ands.length c.f1.length (s.ands, s.state) from ⟨HPS.out.g, Nat.le_refl _, HPS.out.l, HPS.out.x⟩)
            have HMX := Aside0.mk (fun (i : Nat) (hi : i ≤ c.f1.length) => MixOk.mix HN0.out.1 HN0.out.2 HFL.out HFLB.out HM0.out i (by have := HBY.out; have := HSZ.out; omega))
            go_wp2_with fail
            clear c0
            refine (pf_inputs (fr := 1) SI.out HSZ.out.2 ⟨by decide, by decide⟩ HRL.out).mono ?_
            rintro e w8 ⟨rfl, vI2, hs2, h8⟩
            have S10 := Aside0.mk (show Parts w.heap.size w w8 (bPs w.heap.size gB gM inp (c.f1.length + 1) (fcOf p c) (vL1, vL2) vA s.ands ++ (pF w.heap.size (Kd.int .i64) 3 (.slice vS.1 c.f1.length vS.2) s.state :: pF w.heap.size (Kd.int .i64) 3 (.slice vH.1 s.hopes.length vH.2) s.hopes :: (ePs w.heap.size gU w.heap.size (w.heap.size + 1) k (fc5 p c) (vL1, vL2) vF vT vI2 (c.f1.length + 1) (c.f1 ++ [⟨0, 1⟩]) F T hs2 (phRows c (pfFr c) k ++ [bIns 1 c.f0.toNat])))) from h8.take [4, 5, 6, 7, 8, 9, 0, 10, 11, 1, 2, 3, 12] 13 (by simp) (by decide) (by decide))
            clear h8 SI S
            go_wp2
            go_loopg [143] c.f1.length (fun gg s143 wr => ∃ (m : Nat) (vA : Option Addr × Nat) (M : List Gate × List Int), s143 = .int .i64 m ∧ Aside0 (m ≤ c.f1.length ∧ c.f1.length - m ≤ gg) ∧ Aside0 (pfMix (inp + (c.f1.length + 1 : Nat)) flag F (s.ands, s.state) m = M) ∧ Aside0 (Parts w.heap.size w wr (bPs w.heap.size gB gM inp (c.f1.length + 1) (fcOf p c) (vL1, vL2) vA M.1 ++ (pF w.heap.size (Kd.int .i64) 3 (.slice vS.1 c.f1.length vS.2) M.2 :: pF w.heap.size (Kd.int .i64) 3 (.slice vH.1 s.hopes.length vH.2) s.hopes :: (ePs w.heap.size gU w.heap.size (w.heap.size + 1) k (fc5 p c) (vL1, vL2) vF vT vI2 (c.f1.length + 1) (c.f1 ++ [⟨0, 1⟩]) F T hs2 (phRows c (pfFr c) k ++ [bIns 1 c.f0.toNat]))))))
            case atStart => exact ⟨0, vA, (s.ands, s.state), rfl, ⟨by omega, by omega⟩, ⟨rfl⟩, S10⟩
            case round =>
              clear S10
              obtain ⟨m, vA, M, rfl, HK, HE, S⟩ := hrel
              have HMK := Aside0.mk (HMX.out m HK.out.1)
              rw [HE.out] at HMK
              by_cases hlt : m < c.f1.length
              · have HLT := Aside0.mk hlt
                have hlti : (m : Int) < (c.f1.length : Int) := by omega
                have hml : m < M.2.length := by rw [HMK.out.l]; exact hlt
                have hmf : m < F.length := by rw [HF0.out.2]; exact hlt
                obtain ⟨gs, eS, u0, _⟩ := S.out.intOne 3 rfl m hml
                have HST := Aside0.mk (show pfMix (inp + (c.f1.length + 1 : Nat)) flag F (s.ands, s.state) (m + 1) = pfOne (inp + (c.f1.length + 1 : Nat)) flag F m M by rw [← HE.out]; rfl)
                unfold pfOne at HST
                rw [show M.2.getD m 0 = M.2[m] by rw [List.getD_eq_getElem?_getD, List.getElem?_eq_getElem hml]; rfl, show F.getD m 0 = F[m] by rw [List.getD_eq_getElem?_getD, List.getElem?_eq_getElem hmf]; rfl] at HST
                have HAB := Aside0.mk (show M.1.length ≤ 30000 by have := HMK.out.n; have := HBY.out; have := HSZ.out; omega)
                have HX := Aside0.mk (And.intro (HMK.out.x _ (List.getElem_mem hml)) (HFLB.out _ (List.getElem_mem hmf)))
                obtain ⟨af, eF, hf0⟩ := at_int (S.out.rowF 7 rfl).r m hmf
                have hxo : bits .xor .i64 flag 1 = lNot flag := bits_xor HFL.out.1 (by have := HFL.out.2; omega)
                have c2 : wr.cell? ⟨gU, 2, none⟩ = some (.slice vF.1 F.length vF.2) := (S.out.cell 6 rfl 2 rfl).1
                try dsimp only at eS
                try dsimp only at eF
                rw [eF] at c2
                have HEF := Aside0.mk eF
                have HES := Aside0.mk eS
                have HYC := Aside0.mk (fun (W : World) (hF : RS (Kd.int .i64) W vF.1 vF.2 F) => show W.cell? (af.add m) = some (.int .i64 F[m]) from by
                  obtain ⟨ad2, e2, h2⟩ := at_int hF.r m hmf
                  rw [eF] at e2
                  cases e2
                  exact h2)
                have HOA := Aside0.mk (bAnd_op HN0.out.1 HN0.out.2)
                have HOO := Aside0.mk (bOr_op HN0.out.1 HN0.out.2)
                generalize M.2[m] = x at *
                generalize F[m] = y at *
                rw [eS]
                clear eF eS hlt hml c2 hf0
                go_wp2_with fail
                refine (b_and_does _ _ M.1 flag x S.out ⟨HIB.out.1, by have := HIB.out; omega, by have := HSZ.out; omega, by have := HAB.out; omega, HMK.out.g⟩ HFL.out HX.out.1).mono ?_
                rintro e w11 ⟨vA1, rfl, hq⟩
                have H1 := Aside0.mk (And.intro (HOA.out.n M.1 flag x) (And.intro (HOA.out.g M.1 flag x HMK.out.g HFL.out HX.out.1) (HOA.out.l M.1 flag x (by have := HAB.out; omega) HFL.out HX.out.1)))
                have S1 := Aside0.mk hq
                clear hq S u0
                generalize bAnd (inp + (c.f1.length + 1 : Nat)) M.1 flag x = r1 at *
                obtain ⟨A1, B1⟩ := r1
                dsimp only at H1 S1 HST ⊢
                have c2 : w11.cell? ⟨gU, 2, none⟩ = some (.slice (some af) F.length vF.2) := by rw [← HEF.out]; exact (S1.out.cell 6 rfl 2 rfl).1
                have hf1 : w11.cell? (af.add m) = some (.int .i64 y) := HYC.out w11 (S1.out.rowF 7 rfl)
                go_wp2_with fail
                refine (b_and_does _ _ A1 (lNot flag) y S1.out ⟨HIB.out.1, by have := HIB.out; omega, by have := HSZ.out; omega, by have := HAB.out; have := H1.out.1; omega, H1.out.2.1⟩ HFL.out.not HX.out.2).mono ?_
                rintro e w12 ⟨vA2, rfl, hq⟩
                have H2 := Aside0.mk (And.intro (HOA.out.n A1 (lNot flag) y) (And.intro (HOA.out.g A1 (lNot flag) y H1.out.2.1 HFL.out.not HX.out.2) (HOA.out.l A1 (lNot flag) y (by have := HAB.out; have := H1.out.1; omega) HFL.out.not HX.out.2)))
                have S2 := Aside0.mk hq
                clear hq S1 c2 hf1
                generalize bAnd (inp + (c.f1.length + 1 : Nat)) A1 (lNot flag) y = r2 at *
                obtain ⟨A2, B2⟩ := r2
                dsimp only at H2 S2 HST ⊢
                go_wp2_with fail
                refine (b_or_does _ _ A2 B1 B2 S2.out ⟨HIB.out.1, by have := HIB.out; omega, by have := HSZ.out; omega, by have := HAB.out; have := H1.out.1; have := H2.out.1; omega, H2.out.2.1⟩ H1.out.2.2 H2.out.2.2).mono ?_
                rintro e w13 ⟨vA3, rfl, hq⟩
                have S3 := Aside0.mk hq
                clear hq S2
                generalize bOr (inp + (c.f1.length + 1 : Nat)) A2 B1 B2 = r3 at *
                obtain ⟨A3, B3⟩ := r3
                dsimp only at S3 HST ⊢
                have S4 := Aside0.mk (show Parts w.heap.size w w13 (bPs w.heap.size gB gM inp (c.f1.length + 1) (fcOf p c) (vL1, vL2) vA3 A3 ++ (pF w.heap.size (Kd.int .i64) 3 (.slice (some ⟨gs, 0, none⟩) c.f1.length vS.2) M.2 :: pF w.heap.size (Kd.int .i64) 3 (.slice vH.1 s.hopes.length vH.2) s.hopes :: (ePs w.heap.size gU w.heap.size (w.heap.size + 1) k (fc5 p c) (vL1, vL2) vF vT vI2 (c.f1.length + 1) (c.f1 ++ [⟨0, 1⟩]) F T hs2 (phRows c (pfFr c) k ++ [bIns 1 c.f0.toNat])))) from by rw [← HES.out]; exact S3.out)
                have hcl : m < c.f1.length := HLT.out
                obtain ⟨v0, z0⟩ := S4.out.cellRow 3 rfl 0 m hcl
                have S5 := Aside0.mk (show Parts w.heap.size w (w13.setCell ⟨gs, m, none⟩ (.int .i64 B3)) (bPs w.heap.size gB gM inp (c.f1.length + 1) (fcOf p c) (vL1, vL2) vA3 A3 ++ (pF w.heap.size (Kd.int .i64) 3 (.slice vS.1 c.f1.length vS.2) (M.2.set m B3) :: pF w.heap.size (Kd.int .i64) 3 (.slice vH.1 s.hopes.length vH.2) s.hopes :: (ePs w.heap.size gU w.heap.size (w.heap.size + 1) k (fc5 p c) (vL1, vL2) vF vT vI2 (c.f1.length + 1) (c.f1 ++ [⟨0, 1⟩]) F T hs2 (phRows c (pfFr c) k ++ [bIns 1 c.f0.toNat])))) from by rw [HES.out]; exact S4.out.putRow 3 rfl m B3)
                clear S3 S4 hcl hmf
                go_wp2
                rw [← HES.out]
                go_roundg (c.f1.length - (m + 1))
                case measure => have := HK.out; have := HLT.out; omega
                case rel => exact ⟨m + 1, vA3, (A3, M.2.set m B3), (by first | exact val_step HLT.out (by have := HSZ.out; omega) | exact congrArg (Value.int .i64) (by omega)), ⟨HLT.out, by have := HK.out; omega⟩, HST, S5⟩
              · have hk : m = c.f1.length := by have := HK.out; omega
                subst hk
                rw [HE.out] at HRR
                clear hlt HK HE HMX HM0
                have HMA := Aside0.mk (show M.1.length ≤ 28000 by have := HMK.out.n; have := HBY.out; have := HSZ.out; omega)
                have CF := Aside0.mk (b_frame (p := p) (f := c) S.out ⟨HIB.out.1, by have := HIB.out; omega, by have := HSZ.out; omega, by have := HMA.out; omega, HMK.out.g⟩ (by have := HMA.out; omega) HFI.out HH.out (input := 1) ⟨by decide, by decide⟩ (sA := vS.1) (sc := vS.2) (state := M.2) (fun W vA ands h => h.rowF 3 rfl) HMK.out.l HMK.out.x)
                rw [HMK.out.l] at CF
                have HFO := Aside0.mk (bFrame_ok HN0.out.1 HN0.out.2 HFI.out (ands := M.1) (by have := HMA.out; omega) HMK.out.g (input := 1) ⟨by decide, by decide⟩ HMK.out.l HMK.out.x)
                generalize bFrame (inp + (c.f1.length + 1 : Nat)) c M.1 1 M.2 = R at *
                obtain rfl := HRR.out
                clear HRR
                go_wp2_with fail
                refine CF.out.mono ?_
                rintro e w10 ⟨vA2, Vn, cn, rfl, h10⟩
                go_upto_region 40 with (fail)
                have S11 := Aside0.mk ((h10.new 82 #[.slice Vn c.f1.length cn, .int .i64 R.bad, .int .i64 R.right]).behind (qs := bPs w.heap.size gB gM inp (c.f1.length + 1) (fcOf p c) (vL1, vL2) vA2 R.ands))
                clear h10 CF S
                generalize w10.heap.size = gF at *
                generalize w10.alloc (.cells #[.slice Vn c.f1.length cn, .int .i64 R.bad, .int .i64 R.right] 82) = w11 at *
                have HAB := Aside0.mk (show R.ands.length ≤ 32000 by have := HFO.out.n; have := HMA.out; omega)
                have HOA := Aside0.mk (bAnd_op HN0.out.1 HN0.out.2)
                have HOO := Aside0.mk (bOr_op HN0.out.1 HN0.out.2)
                unfold pfEnds at HEQ
                try dsimp only at HEQ
                have HC0 := Aside0.mk (HOO.out.chain (none := 0) (ands := R.ands) (l := s.hopes) (by have := HBY.out; have := HAB.out; omega) LB.zero HPS.out.y HFO.out.g)
                rw [show bChain (bOr (inp + (c.f1.length + 1 : Nat))) 0 R.ands s.hopes = bAny (inp + (c.f1.length + 1 : Nat)) R.ands s.hopes from rfl] at HC0
                go_wp2_with fail
                refine (b_any S11.out ⟨HIB.out.1, by have := HIB.out; omega, by have := HSZ.out; omega, by have := HAB.out; omega, HFO.out.g⟩ (fun W vA ands h => h.rowF 6 rfl) (by have := HBY.out; have := HAB.out; omega) HPS.out.y).mono ?_
                rintro e w12 ⟨vA3, rfl, hq⟩
                have S := Aside0.mk hq
                clear hq S11
                generalize bAny (inp + (c.f1.length + 1 : Nat)) R.ands s.hopes = r0 at *
                obtain ⟨A0, B0⟩ := r0
                dsimp only at HC0 S HEQ ⊢
                have HAB := Aside0.mk (show A0.length ≤ 33000 by have := HAB.out; have := HC0.out.2.2; have := HBY.out; omega)
                go_wp2_with fail
                refine (b_and_does _ _ A0 flag B0 S.out ⟨HIB.out.1, by have := HIB.out; omega, by have := HSZ.out; omega, by have := HAB.out; omega, HC0.out.2.1⟩ HFL.out HC0.out.1).mono ?_
                rintro e w13 ⟨vA4, rfl, hq⟩
                have H1 := Aside0.mk (And.intro (HOA.out.n A0 flag B0) (And.intro (HOA.out.g A0 flag B0 HC0.out.2.1 HFL.out HC0.out.1) (HOA.out.l A0 flag B0 (by have := HAB.out; omega) HFL.out HC0.out.1)))
                have S := Aside0.mk hq
                clear hq
                generalize bAnd (inp + (c.f1.length + 1 : Nat)) A0 flag B0 = r1 at *
                obtain ⟨A1, B1⟩ := r1
                dsimp only at H1 S HEQ ⊢
                have c1 : w13.cell? ⟨gF, 1, none⟩ = some (.int .i64 R.bad) := (S.out.cell 3 rfl 1 rfl).1
                go_wp2_with fail
                refine (b_or_does _ _ A1 R.bad B1 S.out ⟨HIB.out.1, by have := HIB.out; omega, by have := HSZ.out; omega, by have := HAB.out; have := H1.out.1; omega, H1.out.2.1⟩ HFO.out.b H1.out.2.2).mono ?_
                rintro e w14 ⟨vA5, rfl, hq⟩
                have H2 := Aside0.mk (And.intro (HOO.out.n A1 R.bad B1) (And.intro (HOO.out.g A1 R.bad B1 H1.out.2.1 HFO.out.b H1.out.2.2) (HOO.out.l A1 R.bad B1 (by have := HAB.out; have := H1.out.1; omega) HFO.out.b H1.out.2.2)))
                have S := Aside0.mk hq
                clear hq
                generalize bOr (inp + (c.f1.length + 1 : Nat)) A1 R.bad B1 = r2 at *
                obtain ⟨A2, B2⟩ := r2
                dsimp only at H2 S HEQ ⊢
                clear c1
                have hxo : bits .xor .i64 flag 1 = lNot flag := bits_xor HFL.out.1 (by have := HFL.out.2; omega)
                have S15 := Aside0.mk ((S.out.freshF flat_int (below_alloc (Below.refl _ _) (.cells #[.int .i64 B2] 3)) (R_oneB _ B2 _ 3 (Nat.le_refl _))).behind (qs := bPs w.heap.size gB gM inp (c.f1.length + 1) (fcOf p c) (vL1, vL2) vA5 A2))
                obtain ⟨_, f3⟩ := S15.out.cell 0 rfl 3 rfl
                go_upto_region 42 with (fail)
                clear f3 S
                generalize w14.heap.size = g1 at *
                generalize w14.alloc (.cells #[.int .i64 B2] 3) = w15 at *
                have S := Aside0.mk (show Parts w.heap.size w (w15.setCell ⟨gB, 3, none⟩ (.slice (some ⟨g1, 0, none⟩) 1 1)) (bPs w.heap.size gB gM inp (c.f1.length + 1) (fcE p c (.slice (some ⟨g1, 0, none⟩) 1 1) (.slice none 0 0)) (vL1, vL2) vA5 A2 ++ (pF w.heap.size (Kd.int .i64) 3 (.slice (some ⟨g1, 0, none⟩) 1 1) [B2] :: pB gF 82 #[.slice Vn c.f1.length cn, .int .i64 R.bad, .int .i64 R.right] :: pF w.heap.size (Kd.int .i64) 3 (.slice Vn c.f1.length cn) R.nexts :: pF w.heap.size (Kd.int .i64) 3 (.slice vS.1 c.f1.length vS.2) M.2 :: pF w.heap.size (Kd.int .i64) 3 (.slice vH.1 s.hopes.length vH.2) s.hopes :: (ePs w.heap.size gU w.heap.size (w.heap.size + 1) k (fc5 p c) (vL1, vL2) vF vT vI2 (c.f1.length + 1) (c.f1 ++ [⟨0, 1⟩]) F T hs2 (phRows c (pfFr c) k ++ [bIns 1 c.f0.toNat])))) from S15.out.put 0 rfl 3 (.slice (some ⟨g1, 0, none⟩) 1 1) rfl)
                clear S15
                generalize w15.setCell ⟨gB, 3, none⟩ (.slice (some ⟨g1, 0, none⟩) 1 1) = w16 at *
                go_wp2_with fail
                refine (b_or_does _ _ A2 (lNot flag) s.sofar S.out ⟨HIB.out.1, by have := HIB.out; omega, by have := HSZ.out; omega, by have := HAB.out; have := H1.out.1; have := H2.out.1; omega, H2.out.2.1⟩ HFL.out.not HPS.out.r).mono ?_
                rintro e w17 ⟨vA6, rfl, hq⟩
                have H3 := Aside0.mk (And.intro (HOO.out.n A2 (lNot flag) s.sofar) (And.intro (HOO.out.g A2 (lNot flag) s.sofar H2.out.2.1 HFL.out.not HPS.out.r) (HOO.out.l A2 (lNot flag) s.sofar (by have := HAB.out; have := H1.out.1; have := H2.out.1; omega) HFL.out.not HPS.out.r)))
                have S := Aside0.mk hq
                clear hq
                generalize bOr (inp + (c.f1.length + 1 : Nat)) A2 (lNot flag) s.sofar = r3 at *
                obtain ⟨A3, B3⟩ := r3
                dsimp only at H3 S HEQ ⊢
                have c2 : w17.cell? ⟨gF, 2, none⟩ = some (.int .i64 R.right) := (S.out.cell 4 rfl 2 rfl).1
                go_wp2_with fail
                refine (b_and_does _ _ A3 R.right B3 S.out ⟨HIB.out.1, by have := HIB.out; omega, by have := HSZ.out; omega, by have := HAB.out; have := H1.out.1; have := H2.out.1; have := H3.out.1; omega, H3.out.2.1⟩ HFO.out.r H3.out.2.2).mono ?_
                rintro e w18 ⟨vA7, rfl, hq⟩
                have H4 := Aside0.mk (And.intro (HOA.out.n A3 R.right B3) (And.intro (HOA.out.g A3 R.right B3 H3.out.2.1 HFO.out.r H3.out.2.2) (HOA.out.l A3 R.right B3 (by have := HAB.out; have := H1.out.1; have := H2.out.1; have := H3.out.1; omega) HFO.out.r H3.out.2.2)))
                have S := Aside0.mk hq
                clear hq
                generalize bAnd (inp + (c.f1.length + 1 : Nat)) A3 R.right B3 = r4 at *
                obtain ⟨A4, B4⟩ := r4
                dsimp only at H4 S HEQ ⊢
                clear c2
                go_wp2_with fail
                refine (b_or_does _ _ A4 B1 B4 S.out ⟨HIB.out.1, by have := HIB.out; omega, by have := HSZ.out; omega, by have := HAB.out; have := H1.out.1; have := H2.out.1; have := H3.out.1; have := H4.out.1; omega, H4.out.2.1⟩ H1.out.2.2 H4.out.2.2).mono ?_
                rintro e w19 ⟨vA8, rfl, hq⟩
                have H5 := Aside0.mk (And.intro (HOO.out.n A4 B1 B4) (And.intro (HOO.out.g A4 B1 B4 H4.out.2.1 H1.out.2.2 H4.out.2.2) (HOO.out.l A4 B1 B4 (by have := HAB.out; have := H1.out.1; have := H2.out.1; have := H3.out.1; have := H4.out.1; omega) H1.out.2.2 H4.out.2.2)))
                have S := Aside0.mk hq
                clear hq
                generalize bOr (inp + (c.f1.length + 1 : Nat)) A4 B1 B4 = r5 at *
                obtain ⟨A5, B5⟩ := r5
                dsimp only at H5 S HEQ ⊢
                have S15 := Aside0.mk ((S.out.freshF flat_int (below_alloc (Below.refl _ _) (.cells #[.int .i64 B5] 3)) (R_oneB _ B5 _ 3 (Nat.le_refl _))).behind (qs := bPs w.heap.size gB gM inp (c.f1.length + 1) (fcE p c (.slice (some ⟨g1, 0, none⟩) 1 1) (.slice none 0 0)) (vL1, vL2) vA8 A5))
                obtain ⟨_, f4⟩ := S15.out.cell 0 rfl 4 rfl
                go_upto_region 44 with (fail)
                clear f4 S
                generalize w19.heap.size = g2 at *
                generalize w19.alloc (.cells #[.int .i64 B5] 3) = w20 at *
                have S := Aside0.mk (show Parts w.heap.size w (w20.setCell ⟨gB, 4, none⟩ (.slice (some ⟨g2, 0, none⟩) 1 1)) (bPs w.heap.size gB gM inp (c.f1.length + 1) (fcE p c (.slice (some ⟨g1, 0, none⟩) 1 1) (.slice (some ⟨g2, 0, none⟩) 1 1)) (vL1, vL2) vA8 A5 ++ (pF w.heap.size (Kd.int .i64) 3 (.slice (some ⟨g2, 0, none⟩) 1 1) [B5] :: pF w.heap.size (Kd.int .i64) 3 (.slice (some ⟨g1, 0, none⟩) 1 1) [B2] :: pB gF 82 #[.slice Vn c.f1.length cn, .int .i64 R.bad, .int .i64 R.right] :: pF w.heap.size (Kd.int .i64) 3 (.slice Vn c.f1.length cn) R.nexts :: pF w.heap.size (Kd.int .i64) 3 (.slice vS.1 c.f1.length vS.2) M.2 :: pF w.heap.size (Kd.int .i64) 3 (.slice vH.1 s.hopes.length vH.2) s.hopes :: (ePs w.heap.size gU w.heap.size (w.heap.size + 1) k (fc5 p c) (vL1, vL2) vF vT vI2 (c.f1.length + 1) (someNexts c.f1 R.nexts 0 ++ [⟨0, 1⟩]) F T hs2 (phRows c (pfFr c) k ++ [bIns 1 c.f0.toNat])))) from S15.out.put 0 rfl 4 (.slice (some ⟨g2, 0, none⟩) 1 1) rfl)
                clear S15
                generalize w20.setCell ⟨gB, 4, none⟩ (.slice (some ⟨g2, 0, none⟩) 1 1) = w21 at *
                have c0 : w21.cell? ⟨gF, 0, none⟩ = some (.slice Vn c.f1.length cn) := (S.out.cell 5 rfl 0 rfl).1
                go_wp2
                clear c0
                go_loopg [210] c.f1.length (fun gg s210 wr => ∃ (m : Nat), s210 = .int .i64 m ∧ Aside0 (m ≤ c.f1.length ∧ c.f1.length - m ≤ gg) ∧ Aside0 (Parts w.heap.size w wr (bPs w.heap.size gB gM inp (c.f1.length + 1) (fcE p c (.slice (some ⟨g1, 0, none⟩) 1 1) (.slice (some ⟨g2, 0, none⟩) 1 1)) (vL1, vL2) vA8 A5 ++ (pF w.heap.size (Kd.int .i64) 3 (.slice (some ⟨g2, 0, none⟩) 1 1) [B5] :: pF w.heap.size (Kd.int .i64) 3 (.slice (some ⟨g1, 0, none⟩) 1 1) [B2] :: pB gF 82 #[.slice Vn c.f1.length cn, .int .i64 R.bad, .int .i64 R.right] :: pF w.heap.size (Kd.int .i64) 3 (.slice Vn c.f1.length cn) R.nexts :: pF w.heap.size (Kd.int .i64) 3 (.slice vS.1 c.f1.length vS.2) M.2 :: pF w.heap.size (Kd.int .i64) 3 (.slice vH.1 s.hopes.length vH.2) s.hopes :: (ePs w.heap.size gU w.heap.size (w.heap.size + 1) k (fc5 p c) (vL1, vL2) vF vT vI2 (c.f1.length + 1) (someNexts c.f1 R.nexts m ++ [⟨0, 1⟩]) F T hs2 (phRows c (pfFr c) k ++ [bIns 1 c.f0.toNat]))))))
                case atStart => exact ⟨0, rfl, ⟨by omega, by omega⟩, S⟩
                case round =>
                  clear S
                  obtain ⟨m, rfl, HK, S⟩ := hrel
                  have hsl := HFO.out.l
                  by_cases hlt : m < c.f1.length
                  · obtain ⟨ad, eA, hc⟩ := at_int (S.out.rowF 6 rfl).r m (by omega)
                    obtain ⟨hx1, hx2⟩ := someNexts_last hsl hlt ⟨0, 1⟩
                    obtain ⟨gl, eL, u0, z0⟩ := S.out.latOne 9 rfl m hx1
                    try dsimp only at eA
                    try dsimp only at eL
                    rw [eA]
                    have c1 : wr.cell? ⟨gB, 1, none⟩ = some (.slice (some ⟨gl, 0, none⟩) (c.f1.length + 1) vL2) := by rw [← eL]; exact (S.out.cell 0 rfl 1 rfl).1
                    have HLT := Aside0.mk hlt
                    have hlti : (m : Int) < (c.f1.length : Int) := by omega
                    have S3 := Aside0.mk (show Parts w.heap.size w (wr.setCell ⟨gl, m * 2, none⟩ (.int .i64 (R.nexts[m]'(by omega)))) (bPs w.heap.size gB gM inp (c.f1.length + 1) (fcE p c (.slice (some ⟨g1, 0, none⟩) 1 1) (.slice (some ⟨g2, 0, none⟩) 1 1)) (vL1, vL2) vA8 A5 ++ (pF w.heap.size (Kd.int .i64) 3 (.slice (some ⟨g2, 0, none⟩) 1 1) [B5] :: pF w.heap.size (Kd.int .i64) 3 (.slice (some ⟨g1, 0, none⟩) 1 1) [B2] :: pB gF 82 #[.slice Vn c.f1.length cn, .int .i64 R.bad, .int .i64 R.right] :: pF w.heap.size (Kd.int .i64) 3 (.slice Vn c.f1.length cn) R.nexts :: pF w.heap.size (Kd.int .i64) 3 (.slice vS.1 c.f1.length vS.2) M.2 :: pF w.heap.size (Kd.int .i64) 3 (.slice vH.1 s.hopes.length vH.2) s.hopes :: (ePs w.heap.size gU w.heap.size (w.heap.size + 1) k (fc5 p c) (vL1, vL2) vF vT vI2 (c.f1.length + 1) (someNexts c.f1 R.nexts (m + 1) ++ [⟨0, 1⟩]) F T hs2 (phRows c (pfFr c) k ++ [bIns 1 c.f0.toNat])))) from by
                      have h_ := S.out
                      rw [eL] at h_
                      have h2 := h_.putNext 9 rfl m hx1 (R.nexts[m]'(by omega))
                      rw [hx2, ← eL] at h2
                      exact h2)
                    have EA := Aside0.mk eA
                    clear eA S eL hx2
                    generalize R.nexts[m]'(by omega) = x at *
                    have hlt2 : (m : Int) < ((c.f1.length + 1 : Nat) : Int) := by omega
                    have hlt3 : m < c.f1.length + 1 := by omega
                    go_wp2
                    rw [← EA.out]
                    go_roundg (c.f1.length - (m + 1))
                    case measure => have := HK.out; have := HLT.out; omega
                    case rel => exact ⟨m + 1, (by first | exact val_step HLT.out (by have := HSZ.out; omega) | exact congrArg (Value.int .i64) (by omega)), ⟨HLT.out, by have := HK.out; omega⟩, S3⟩
                  · have hk : m = c.f1.length := by have := HK.out; omega
                    subst hk
                    rw [someNexts_all hsl] at S
                    clear hlt HK
                    have HNL := Aside0.mk (show (setNexts c.f1 R.nexts ++ [(⟨0, 1⟩ : Latch)]).length = c.f1.length + 1 by rw [List.length_append, setNexts_len hsl]; rfl)
                    clear hsl
                    have HD2 := Aside0.mk (show A5.length ≤ 40000 by have := HAB.out; have := H1.out.1; have := H2.out.1; have := H3.out.1; have := H4.out.1; have := H5.out.1; omega)
                    have HBL := Aside0.mk (S.out.blk 0 rfl)
                    go_wp2_with fail
                    refine (b_vars gB inp (vL1, vL2) vA8 (c.f1.length + 1) A5.length (fcE p c (.slice (some ⟨g1, 0, none⟩) 1 1) (.slice (some ⟨g2, 0, none⟩) 1 1)) gM _ HBL.out HIB.out.1 (by have := HIB.out; omega) (by have := HSZ.out; omega) (by have := HD2.out; omega)).mono ?_
                    rintro e w22 ⟨rfl, hb⟩
                    have S20 := Aside0.mk (S.out.below hb)
                    clear hb S HBL
                    rw [← HEQ.out] at HPD
                    try dsimp only at HPD
                    by_cases hbig : 1000 < inp + ((c.f1.length + 1 : Nat) : Int) + (A5.length : Int)
                    · have HE2 := Aside0.mk (show pfDone c k = (zeroRd, 4) by rw [HPD.out, if_pos hbig])
                      generalize inp + ((c.f1.length + 1 : Nat) : Int) + (A5.length : Int) = nv at *
                      have HW := Aside0.mk (S20.out.put12 16 rfl (.int .i64 0) (.slice none 0 0) (.slice none 0 0) (.slice none 0 0) (.slice none 0 0) (.int .i64 0) (.int .i64 0) (.slice none 0 0) (.slice none 0 0) (.slice none 0 0) (.slice none 0 0) (.int .i64 0))
                      obtain ⟨r0, z0⟩ := S20.out.cell 16 rfl 0 rfl
                      obtain ⟨r1, z1⟩ := S20.out.cell 16 rfl 1 rfl
                      obtain ⟨r2, z2⟩ := S20.out.cell 16 rfl 2 rfl
                      obtain ⟨r3, z3⟩ := S20.out.cell 16 rfl 3 rfl
                      obtain ⟨r4, z4⟩ := S20.out.cell 16 rfl 4 rfl
                      obtain ⟨r5, z5⟩ := S20.out.cell 16 rfl 5 rfl
                      obtain ⟨r6, z6⟩ := S20.out.cell 16 rfl 6 rfl
                      obtain ⟨r7, z7⟩ := S20.out.cell 16 rfl 7 rfl
                      obtain ⟨r8, z8⟩ := S20.out.cell 16 rfl 8 rfl
                      obtain ⟨r9, z9⟩ := S20.out.cell 16 rfl 9 rfl
                      obtain ⟨r10, z10⟩ := S20.out.cell 16 rfl 10 rfl
                      obtain ⟨r11, z11⟩ := S20.out.cell 16 rfl 11 rfl
                      go_wp2
                      refine bodyPost_ret (results_ct rfl _ _ (w.heap.size + 1) 35 zCells (0, 0) _ rfl (HW.out.blk 16 rfl) hu35 rfl (by kernel_rfl)) rfl ?_
                      rw [HE2.out]
                      exact ⟨⟨none, 0, none, 0, none, 0, none, 0⟩, ⟨none, 0, none, 0, none, 0, none, 0⟩, rfl, fun W hW => ⟨⟨RS.nil _ _ _, RS.nil _ _ _, RS.nil _ _ _, RS.nil _ _ _⟩, ⟨RS.nil _ _ _, RS.nil _ _ _, RS.nil _ _ _, RS.nil _ _ _⟩⟩, HW.out.B⟩
                    · have HE2 := Aside0.mk (show pfDone c k = _ by rw [HPD.out, if_neg hbig])
                      generalize inp + ((c.f1.length + 1 : Nat) : Int) + (A5.length : Int) = nv at *
                      go_wp2
                      have q := (⟨S20.out.cell 0 rfl 0 rfl, S20.out.cell 0 rfl 1 rfl, S20.out.cell 0 rfl 2 rfl, S20.out.cell 0 rfl 3 rfl, S20.out.cell 0 rfl 4 rfl⟩ : _ ∧ _ ∧ _ ∧ _ ∧ _)
                      obtain ⟨⟨a0, _⟩, ⟨a1, _⟩, ⟨a2, _⟩, ⟨a3, _⟩, ⟨a4, _⟩⟩ := q
                      obtain ⟨⟨u0, u1, u2, u3, u4, u5, u6⟩, _⟩ := blk7 (S20.out.blk 10 rfl)
                      refine start_ (n := 8) (S := (fun w' : World => w'.cell? ⟨gB, 0, none⟩ = some (.int .i64 inp) ∧ w'.cell? ⟨gB, 1, none⟩ = some (.slice vL1 (c.f1.length + 1) vL2) ∧ w'.cell? ⟨gB, 2, none⟩ = some (.slice vA8.1 A5.length vA8.2) ∧ w'.cell? ⟨gB, 3, none⟩ = some (.slice (some ⟨g1, 0, none⟩) 1 1) ∧ w'.cell? ⟨gB, 4, none⟩ = some (.slice (some ⟨g2, 0, none⟩) 1 1) ∧ w'.cell? ⟨gU, 0, none⟩ = some (.int .i64 (k : Int)) ∧ w'.cell? ⟨gU, 1, none⟩ = some (.int .i64 1) ∧ w'.cell? ⟨gU, 2, none⟩ = some (.slice vF.1 F.length vF.2) ∧ w'.cell? ⟨gU, 3, none⟩ = some (.slice vI2.1 hs2.length vI2.2) ∧ w'.cell? ⟨gU, 4, none⟩ = some (.slice vT.1 T.length vT.2) ∧ w'.cell? ⟨gU, 5, none⟩ = some (.slice none 0 0) ∧ w'.cell? ⟨gU, 6, none⟩ = some (.int .i64 1))) (ds := []) #[false, false, false, false, false, false, false, false] (by kernel_rfl) rfl rfl ⟨a0, a1, a2, a3, a4, u0, u1, u2, u3, u4, u5, u6⟩ (fun hHeld => ?_)
                      have S21 := Aside0.mk S20.out.drew
                      clear S20 a0 a1 a2 a3 a4 u0 u1 u2 u3 u4 u5 u6
                      generalize w22.drew = w23 at *
                      refine pure_ (i := 0) (N := some 229) (v := ?_) (a' := ?_) #[true, false, false, false, false, false, false, false] rfl rfl (by kernel_rfl) (fun _ _ _ h => h) (Or.inl ⟨by rfl, ?_⟩) ?_ ?_
                      rotate_left
                      · intro w'
                        go_simp
                        with_reducible rfl
                      rotate_left
                      · simp only [Act.put, List.setIfInBounds_toArray, List.set_cons_zero, List.set_cons_succ]
                        rfl
                      refine pure_ (i := 1) (N := some 230) (v := ?_) (a' := ?_) #[true, true, false, false, false, false, false, false] rfl rfl (by kernel_rfl) (fun _ _ _ h => h) (Or.inl ⟨by rfl, ?_⟩) ?_ ?_
                      rotate_left
                      · intro w'
                        go_simp
                        with_reducible rfl
                      rotate_left
                      · simp only [Act.put, List.setIfInBounds_toArray, List.set_cons_zero, List.set_cons_succ]
                        rfl
                      refine pure_ (i := 2) (N := some 231) (v := ?_) (a' := ?_) #[true, true, true, false, false, false, false, false] rfl rfl (by kernel_rfl) (fun _ _ _ h => h) (Or.inl ⟨by rfl, ?_⟩) ?_ ?_
                      rotate_left
                      · intro w'
                        go_simp
                        with_reducible rfl
                      rotate_left
                      · simp only [Act.put, List.setIfInBounds_toArray, List.set_cons_zero, List.set_cons_succ]
                        rfl
                      refine take_ (i := 3) (N := some 232) (v := ?_) (a' := ?_) #[true, true, true, true, false, false, false, false] rfl rfl (by kernel_rfl) (fun _ _ _ h => h) (Or.inl ⟨by rfl, ?_⟩) hHeld ?_ ?_
                      rotate_left
                      · rintro w' ⟨s0, s1, s2, s3, s4, s5, s6, s7, s8, s9, s10, s11⟩
                        go_simp
                        with_reducible rfl
                      rotate_left
                      · simp only [Act.put, List.setIfInBounds_toArray, List.set_cons_zero, List.set_cons_succ]
                        rfl
                      refine take_ (i := 4) (N := some 233) (v := ?_) (a' := ?_) #[true, true, true, true, true, false, false, false] rfl rfl (by kernel_rfl) (fun _ _ _ h => h) (Or.inl ⟨by rfl, ?_⟩) hHeld ?_ ?_
                      rotate_left
                      · rintro w' ⟨s0, s1, s2, s3, s4, s5, s6, s7, s8, s9, s10, s11⟩
                        go_simp
                        with_reducible rfl
                      rotate_left
                      · simp only [Act.put, List.setIfInBounds_toArray, List.set_cons_zero, List.set_cons_succ]
                        rfl
                      refine pure_ (i := 5) (N := some 234) (v := ?_) (a' := ?_) #[true, true, true, true, true, true, false, false] rfl rfl (by kernel_rfl) (fun _ _ _ h => h) (Or.inl ⟨by rfl, ?_⟩) ?_ ?_
                      rotate_left
                      · intro w'
                        go_simp
                        with_reducible rfl
                      rotate_left
                      · simp only [Act.put, List.setIfInBounds_toArray, List.set_cons_zero, List.set_cons_succ]
                        rfl
                      obtain ⟨r0, z0⟩ := S21.out.cell 16 rfl 0 rfl
                      obtain ⟨r1, z1⟩ := S21.out.cell 16 rfl 1 rfl
                      obtain ⟨r2, z2⟩ := S21.out.cell 16 rfl 2 rfl
                      obtain ⟨r3, z3⟩ := S21.out.cell 16 rfl 3 rfl
                      obtain ⟨r4, z4⟩ := S21.out.cell 16 rfl 4 rfl
                      obtain ⟨r5, z5⟩ := S21.out.cell 16 rfl 5 rfl
                      obtain ⟨r6, z6⟩ := S21.out.cell 16 rfl 6 rfl
                      obtain ⟨r7, z7⟩ := S21.out.cell 16 rfl 7 rfl
                      obtain ⟨r8, z8⟩ := S21.out.cell 16 rfl 8 rfl
                      obtain ⟨r9, z9⟩ := S21.out.cell 16 rfl 9 rfl
                      obtain ⟨r10, z10⟩ := S21.out.cell 16 rfl 10 rfl
                      obtain ⟨r11, z11⟩ := S21.out.cell 16 rfl 11 rfl
                      have HW := Aside0.mk (S21.out.put12 16 rfl (.int .i64 inp) (.slice vL1 (c.f1.length + 1) vL2) (.slice vA8.1 A5.length vA8.2) (.slice (some ⟨g1, 0, none⟩) 1 1) (.slice (some ⟨g2, 0, none⟩) 1 1) (.int .i64 (k : Int)) (.int .i64 1) (.slice vF.1 F.length vF.2) (.slice vI2.1 hs2.length vI2.2) (.slice vT.1 T.length vT.2) (.slice none 0 0) (.int .i64 1))
                      refine one_ (i := 6) (N := none) #[true, true, true, true, true, true, true, false] rfl rfl (by kernel_rfl) (by decide) (fun K hK => ?_)
                      refine skip_ (w1 := ?_) (by rfl) rfl ?_ ?_
                      rotate_left
                      · go_simp
                        rfl
                      refine hK.out _ _ ⟨(HW.out.cell 0 rfl 0 rfl).1, (HW.out.cell 0 rfl 1 rfl).1, (HW.out.cell 0 rfl 2 rfl).1, (HW.out.cell 0 rfl 3 rfl).1, (HW.out.cell 0 rfl 4 rfl).1, (HW.out.cell 10 rfl 0 rfl).1, (HW.out.cell 10 rfl 1 rfl).1, (HW.out.cell 10 rfl 2 rfl).1, (HW.out.cell 10 rfl 3 rfl).1, (HW.out.cell 10 rfl 4 rfl).1, (HW.out.cell 10 rfl 5 rfl).1, (HW.out.cell 10 rfl 6 rfl).1⟩ (fun hHeld => ?_)
                      clear hK K
                      refine pure_ (i := 7) (N := some 5) (v := ?_) (a' := ?_) #[true, true, true, true, true, true, true, true] rfl rfl (by kernel_rfl) (fun _ _ _ h => h) (Or.inl ⟨by rfl, ?_⟩) ?_ ?_
                      rotate_left
                      · intro w'
                        go_simp
                        with_reducible rfl
                      rotate_left
                      · simp only [Act.put, List.setIfInBounds_toArray, List.set_cons_zero, List.set_cons_succ]
                        rfl
                      refine done_ (by kernel_rfl) ?_
                      clear hHeld
                      go_wp2
                      refine bodyPost_ret (results_ct rfl _ _ (w.heap.size + 1) 35 _ (0, 0) _ rfl (HW.out.blk 16 rfl) hu35 rfl (by kernel_rfl)) rfl ?_
                      rw [HE2.out]
                      refine ⟨⟨vL1, vL2, vA8.1, vA8.2, some ⟨g1, 0, none⟩, 1, some ⟨g2, 0, none⟩, 1⟩, ⟨vF.1, vF.2, vI2.1, vI2.2, vT.1, vT.2, none, 0⟩, ?_, fun W hW => ⟨⟨HW.out.rowM hW 9 rfl, HW.out.rowM hW 1 rfl, HW.out.rowM hW 4 rfl, HW.out.rowM hW 3 rfl⟩, ⟨HW.out.rowM hW 11 rfl, HW.out.inRowsM hW 13 14 rfl rfl, HW.out.rowM hW 12 rfl, RS.nil _ _ _⟩⟩, HW.out.B⟩
                      have hil := HW.out.inLen 14 rfl
                      unfold rv
                      dsimp only
                      rw [HNL.out, ← hil]
                      rfl
end Go.Proofs.Ytpoadkogcdfglaa.PH
