/- phases.Of, walked. -/
import Derived.Test.YtpfkiecihheidaaHBegin
import Derived.Test.YtpfkiecihheidaaHClone2
import Derived.Test.YtpfkiecihheidaaHRowIn
import Derived.Test.YtpfkiecihheidaaHRed
namespace Go.Proofs.Ytpfkiecihheidaa.PH
open Go.RowKit Go.Proofs.YtpfkiecihheidaaW.PrintWords Go.Proofs.YtpfkiecihheidaaW.PrintLast
set_option linter.unusedVariables false
set_option linter.unusedSimpArgs false

/-- The phases: what they are. -/
def phRows (c : Circ) (fr : Nat → Int) (k : Nat) : List (List Int) := (List.range k).map (fun j => bIns (fr j) c.f0.toNat)
theorem phRows_succ (c : Circ) (fr : Nat → Int) (k : Nat) : phRows c fr (k + 1) = phRows c fr k ++ [bIns (fr k) c.f0.toNat] := by unfold phRows; rw [List.range_succ, List.map_append]; rfl
def phFr (c : Circ) (j : Nat) : Int := 1 + (j : Int) * c.f0
def phS (c : Circ) (k : Nat) : Ph := phRun ((k : Int) * c.f0 + c.f1.length) c (phFr c) (ph0 ((k : Int) * c.f0) c) k
def phBad (c : Circ) (k : Nat) : List Gate × Int := bAny ((k : Int) * c.f0 + c.f1.length) (phS c k).ands (phS c k).hopes
def phRight (c : Circ) (k : Nat) : List Gate × Int := bOr ((k : Int) * c.f0 + c.f1.length) (phBad c k).1 (phBad c k).2 (phS c k).sofar
def phMade (c : Circ) (k : Nat) : Red :=
  ⟨⟨(k : Int) * c.f0, setNexts c.f1 (phS c k).state, (phRight c k).1, [(phBad c k).2], [(phRight c k).2]⟩, ⟨0, k, lasOf ((k : Int) * c.f0) c.f1.length, phRows c (phFr c) k, lasOf c.f0 c.f1.length, ⟨[], 1⟩⟩⟩
def phDone (c : Circ) (k : Nat) : Red × Int := if 1000 < (k : Int) * c.f0 + c.f1.length + (phRight c k).1.length then (zeroRd, 4) else (phMade c k, 0)
def phOf (c : Circ) (k : Int) : Red × Int := if check c = 0 then if k < 2 then (zeroRd, 2) else if 4 < k then (zeroRd, 2) else phDone c k.toNat else (zeroRd, check c)
/-- What the call has while it builds. -/
@[reducible] def ePs (b gU gC gR : Nat) (k : Int) (fc : Array Value) (vL vF vT vI : Option Addr × Nat) (nL : Nat) (lats : List Latch) (F T : List Int) (hs : List HeadR) (rows : List (List Int)) : List Pc :=
  [pF b kLatch 79 (.slice vL.1 nL vL.2) lats,
   pB gU 33 #[.int .i64 0, .int .i64 k, .slice vF.1 F.length vF.2, .slice vI.1 hs.length vI.2, .slice vT.1 T.length vT.2, .slice none 0 0, .int .i64 1],
   pF b (Kd.int .i64) 3 (.slice vF.1 F.length vF.2) F, pF b (Kd.int .i64) 3 (.slice vT.1 T.length vT.2) T,
   pF b kHead 24 (.slice vI.1 hs.length vI.2) hs, pIn (Kd.int .i64) 3 b hs rows,
   pB gC 26 fc, pB gR 35 zCells]
/-- The circuit that is copied, with rows of the builder's own. -/
@[reducible] def fcE (p : CP) (f : Circ) (v3 v4 : Value) : Array Value := #[.int .i64 f.f0, .slice p.A1 f.f1.length p.c1, .slice p.A2 f.f2.length p.c2, .slice p.A3 f.f3.length p.c3, .slice p.A4 f.f4.length p.c4, v3, v4]
@[reducible] def fc5 (p : CP) (f : Circ) : Array Value := #[.int .i64 f.f0, .slice p.A1 f.f1.length p.c1, .slice p.A2 f.f2.length p.c2, .slice p.A3 f.f3.length p.c3, .slice p.A4 f.f4.length p.c4]
set_option maxHeartbeats 8000000 in
set_option maxRecDepth 100000 in
theorem phases_Of_ok (p : CP) (c : Circ) (w : World) (h : RC w p c) (hs : c.Fits) (hck : check c = 0) (k : Nat) (hk2 : 2 ≤ k) (hk4 : k ≤ 4) :
    Calls Try.prog 10 #[cv p c, .int .i64 (k : Int)] w fun e w' => RetRs w w' (phDone c k).1 (phDone c k).2 e := by
  have HV := Aside0.mk (fun W (hb : Below w.heap.size w W) => gates_Check p c W (h.below hb) hs)
  have HH := Aside0.mk h
  have HC := Aside0.mk hck
  have HB := Aside0.mk (cbnd_of hck)
  have HFI := Aside0.mk (cbnd_of hck).fin
  have HKK := Aside0.mk (And.intro hk2 hk4)
  have hu26 := Try.underlying26
  have hu82 := Try.underlying82
  have hu85 := Try.underlying85
  have hu79 := Try.underlying79
  have hu31 := Try.underlying31
  have hu33 := Try.underlying33
  have hu35 := Try.underlying35
  have S0 := Aside0.mk (((Parts.start w).new 26 (fc5 p c)).new 35 zCells)
  rw [show (w.alloc (.cells (fc5 p c) 26)).heap.size = w.heap.size + 1 by simp] at S0
  have hkb1 : decide ((k : Int) < 2) = false := decide_eq_false (by omega)
  have hkb2 : decide ((4 : Int) < (k : Int)) = false := decide_eq_false (by omega)
  clear h hs hck hk2 hk4
  go_enter Try.func10, Try.ntmps10
  go_wp2_with fail
  refine (HV.out _ S0.out.B).mono ?_
  rintro e w1 ⟨rfl, hb1⟩
  rw [HC.out]
  have S1 := Aside0.mk (S0.out.below hb1)
  clear hb1 S0
  go_upto_region 6 with (fail)
  obtain ⟨inp, hinp⟩ : ∃ n : Int, (k : Int) * c.f0 = n := ⟨_, rfl⟩
  have HIN := Aside0.mk hinp
  have HIB := Aside0.mk (show 0 ≤ inp ∧ inp ≤ 4000 by
    have h1 := HB.out.h0; have h2 := HB.out.n; have h3 := HKK.out
    have h4 : c.f0 ≤ 1000 := by omega
    constructor
    · rw [← hinp]; exact Int.mul_nonneg (by omega) h1
    · rw [← hinp]; calc (k : Int) * c.f0 ≤ 4 * c.f0 := Int.mul_le_mul_of_nonneg_right (by omega) h1
        _ ≤ 4000 := by omega)
  have hw : IntKind.i64.wrap ((k : Int) * c.f0) = inp := by rw [hinp]; exact wrap_i64 (by have := HIB.out; omega) (by have := HIB.out; omega)
  clear hinp
  have q := blk5 (S1.out.blk 1 rfl)
  refine start_ (n := 10) (S := (fun w' : World => w'.cell? ⟨w.heap.size, 0, none⟩ = some (.int .i64 c.f0) ∧ w'.cell? ⟨w.heap.size, 1, none⟩ = some (.slice p.A1 c.f1.length p.c1) ∧ w'.cell? ⟨w.heap.size, 2, none⟩ = some (.slice p.A2 c.f2.length p.c2) ∧ w'.cell? ⟨w.heap.size, 3, none⟩ = some (.slice p.A3 c.f3.length p.c3) ∧ w'.cell? ⟨w.heap.size, 4, none⟩ = some (.slice p.A4 c.f4.length p.c4))) (ds := []) #[false, false, false, false, false, false, false, false, false, false] (by kernel_rfl) rfl rfl q (fun hHeld => ?_)
  clear q
  have S2 := Aside0.mk S1.out.drew
  clear S1
  generalize w1.drew = w2 at *
  refine take_ (i := 0) (N := some 34) (v := ?_) (a' := ?_) #[true, false, false, false, false, false, false, false, false, false] rfl rfl (by kernel_rfl) (fun _ _ _ h => h) (Or.inl ⟨by rfl, ?_⟩) hHeld ?_ ?_
  rotate_left
  · rintro w' ⟨s0, s1, s2, s3, s4⟩
    go_simp
    with_reducible rfl
  rotate_left
  · simp only [Act.put, List.setIfInBounds_toArray, List.set_cons_zero, List.set_cons_succ]
    rfl
  refine pure_ (i := 1) (N := some 35) (v := ?_) (a' := ?_) #[true, true, false, false, false, false, false, false, false, false] rfl rfl (by kernel_rfl) (fun _ _ _ h => h) (Or.inl ⟨by rfl, ?_⟩) ?_ ?_
  rotate_left
  · intro w'
    go_simp
    with_reducible rfl
  rotate_left
  · simp only [Act.put, List.setIfInBounds_toArray, List.set_cons_zero, List.set_cons_succ]
    rfl
  refine pure_ (i := 2) (N := some 36) (v := ?_) (a' := ?_) #[true, true, true, false, false, false, false, false, false, false] rfl rfl (by kernel_rfl) (fun _ _ _ h => h) (Or.inl ⟨by rfl, ?_⟩) ?_ ?_
  rotate_left
  · intro w'
    go_simp
    with_reducible rfl
  rotate_left
  · simp only [Act.put, List.setIfInBounds_toArray, List.set_cons_zero, List.set_cons_succ]
    rfl
  refine take_ (i := 3) (N := some 37) (v := ?_) (a' := ?_) #[true, true, true, true, false, false, false, false, false, false] rfl rfl (by kernel_rfl) (fun _ _ _ h => h) (Or.inl ⟨by rfl, ?_⟩) hHeld ?_ ?_
  rotate_left
  · rintro w' ⟨s0, s1, s2, s3, s4⟩
    go_simp
    with_reducible rfl
  rotate_left
  · simp only [Act.put, List.setIfInBounds_toArray, List.set_cons_zero, List.set_cons_succ]
    rfl
  refine pure_ (i := 4) (N := some 38) (v := ?_) (a' := ?_) #[true, true, true, true, true, false, false, false, false, false] rfl rfl (by kernel_rfl) (fun _ _ _ h => h) (Or.inl ⟨by rfl, ?_⟩) ?_ ?_
  rotate_left
  · intro w'
    go_simp
    with_reducible rfl
  rotate_left
  · simp only [Act.put, List.setIfInBounds_toArray, List.set_cons_zero, List.set_cons_succ]
    rfl
  refine pure_ (i := 5) (N := some 39) (v := ?_) (a' := ?_) #[true, true, true, true, true, true, false, false, false, false] rfl rfl (by kernel_rfl) (fun _ _ _ h => h) (Or.inl ⟨by rfl, ?_⟩) ?_ ?_
  rotate_left
  · intro w'
    go_simp
    with_reducible rfl
  rotate_left
  · simp only [Act.put, List.setIfInBounds_toArray, List.set_cons_zero, List.set_cons_succ]
    rfl
  refine take_ (i := 6) (N := some 40) (v := ?_) (a' := ?_) #[true, true, true, true, true, true, true, false, false, false] rfl rfl (by kernel_rfl) (fun _ _ _ h => h) (Or.inl ⟨by rfl, ?_⟩) hHeld ?_ ?_
  rotate_left
  · rintro w' ⟨s0, s1, s2, s3, s4⟩
    go_simp
    with_reducible rfl
  rotate_left
  · simp only [Act.put, List.setIfInBounds_toArray, List.set_cons_zero, List.set_cons_succ]
    rfl
  refine one_ (i := 7) (N := some 41) #[true, true, true, true, true, true, true, true, false, false] rfl rfl (by kernel_rfl) (by decide) (fun K hK => ?_)
  refine goes_ Try.func35 (by kernel_rfl) rfl #[.slice p.A1 c.f1.length p.c1] (by rfl) rfl rfl (by simp only [List.map_toArray, List.map_cons, List.map_nil] <;> rfl) ?_
  refine (slices_Clone_latch _ _ c.f1 _ (HH.out.below S2.out.B).s1 (by have := HB.out.n; omega)).mono ?_
  rintro e w3 ⟨vL1, vL2, rfl, hR, hb⟩
  refine ⟨_, rfl, ?_⟩
  have S3 := Aside0.mk (S2.out.freshF flat_latch hb hR)
  clear hR hb S2
  refine hK.out _ _ (blk5 (S3.out.blk 2 rfl)) (fun hHeld => ?_)
  clear hK K
  refine norm_ (a' := ?_) ?_ ?_
  rotate_left
  · show Act.put _ (some 41) _ = _
    simp only [Act.put, List.setIfInBounds_toArray, List.set_cons_zero, List.set_cons_succ]
    rfl
  refine one_ (i := 8) (N := some 42) #[true, true, true, true, true, true, true, true, true, false] rfl rfl (by kernel_rfl) (by decide) (fun K hK => ?_)
  refine goes_ Try.func34 (by kernel_rfl) rfl #[cv p c, .int .i64 inp, .slice vL1 c.f1.length vL2] (by rfl) rfl rfl (by simp only [List.map_toArray, List.map_cons, List.map_nil] <;> rfl) ?_
  refine (b_begin S3.out p c inp (vL1, vL2) c.f1.length).mono ?_
  rintro e w4 ⟨gB, gM, rfl, h4⟩
  refine ⟨_, rfl, ?_⟩
  have S4 := Aside0.mk h4
  clear h4 S3
  refine hK.out _ _ (blk5 (S4.out.blk 5 rfl)) (fun hHeld => ?_)
  clear hK K
  refine norm_ (a' := ?_) ?_ ?_
  rotate_left
  · show Act.put _ (some 42) _ = _
    simp only [Act.put, List.setIfInBounds_toArray, List.set_cons_zero, List.set_cons_succ]
    rfl
  refine pure_ (i := 9) (N := some 7) (v := ?_) (a' := ?_) #[true, true, true, true, true, true, true, true, true, true] rfl rfl (by kernel_rfl) (fun _ _ _ h => h) (Or.inl ⟨by rfl, ?_⟩) ?_ ?_
  rotate_left
  · intro w'
    go_simp
    with_reducible rfl
  rotate_left
  · simp only [Act.put, List.setIfInBounds_toArray, List.set_cons_zero, List.set_cons_succ]
    rfl
  refine done_ (by kernel_rfl) ?_
  clear hHeld hw
  go_upto_region 8 with (fail)
  have S5 := Aside0.mk (show Parts w.heap.size w (w4.alloc (.cells #[.int .i64 0, .int .i64 (k : Int), .slice none 0 0, .slice none 0 0, .slice none 0 0, .slice none 0 0, .int .i64 1] 33)) (bPs w.heap.size gB gM inp c.f1.length (fcOf p c) (vL1, vL2) (none, 0) [] ++ ePs w.heap.size w4.heap.size w.heap.size (w.heap.size + 1) k (fc5 p c) (vL1, vL2) (none, 0) (none, 0) (none, 0) c.f1.length c.f1 [] [] [] []) from by
    have h1 := (((((S4.out.nil (Kd.int .i64) 3).nil (Kd.int .i64) 3).nil kHead 24).inNil (Kd.int .i64) 3).new 33 #[.int .i64 0, .int .i64 (k : Int), .slice none 0 0, .slice none 0 0, .slice none 0 0, .slice none 0 0, .int .i64 1])
    exact h1.take [5, 6, 7, 8, 0, 4, 3, 2, 1, 10, 9] 11 (by simp) (by decide) (by decide))
  generalize w4.heap.size = gU at *
  generalize w4.alloc (.cells #[.int .i64 0, .int .i64 (k : Int), .slice none 0 0, .slice none 0 0, .slice none 0 0, .slice none 0 0, .int .i64 1] 33) = w5 at *
  clear S4
  have HSZ := Aside0.mk (show c.f1.length ≤ 1000 ∧ 0 ≤ c.f0 ∧ c.f0 ≤ 1000 by have h1 := HB.out.h0; have h2 := HB.out.n; omega)
  have c1 : w5.cell? ⟨w.heap.size, 1, none⟩ = some (.slice p.A1 c.f1.length p.c1) := (S5.out.cell 9 rfl 1 rfl).1
  go_wp2
  clear c1
  go_loopg [49] c.f1.length (fun gg s49 wr => ∃ (m : Nat) (vF vT : Option Addr × Nat), s49 = .int .i64 m ∧ Aside0 (m ≤ c.f1.length ∧ c.f1.length - m ≤ gg) ∧ Aside0 (Parts w.heap.size w wr (bPs w.heap.size gB gM inp c.f1.length (fcOf p c) (vL1, vL2) (none, 0) [] ++ ePs w.heap.size gU w.heap.size (w.heap.size + 1) k (fc5 p c) (vL1, vL2) vF vT (none, 0) c.f1.length c.f1 (lasOf inp m) (lasOf c.f0 m) [] [])))
  case atStart => exact ⟨0, (none, 0), (none, 0), rfl, ⟨by omega, by omega⟩, S5⟩
  case round =>
    clear S5
    obtain ⟨m, vF, vT, rfl, HK, S⟩ := hrel
    by_cases hlt : m < c.f1.length
    · -- <done
      have HLT := Aside0.mk hlt
      go_upto_region 11 with (fail)
      obtain ⟨y, hy⟩ : ∃ y : Int, 2 * (inp + 1 + (m : Int)) = y := ⟨_, rfl⟩
      have hw : IntKind.i64.wrap (2 * IntKind.i64.wrap (IntKind.i64.wrap (inp + 1) + (m : Int))) = y := by
        have h1 := HIB.out; have h2 := HSZ.out
        rw [wrap_i64 (x := inp + 1) (by omega) (by omega), wrap_i64 (x := inp + 1 + (m : Int)) (by omega) (by omega), wrap_i64 (by omega) (by omega), hy]
      have HSF := Aside0.mk (show lasOf inp (m + 1) = lasOf inp m ++ [y] by rw [lasOf_succ, hy])
      have HLF := Aside0.mk (show (lasOf inp m).length = m from lasOf_len _ _)
      clear hy
      generalize lasOf inp m = F at *
      have q := (⟨(S.out.cell 4 rfl 2 rfl).1, (S.out.cell 0 rfl 0 rfl).1⟩ : _ ∧ _)
      refine start_ (n := 15) (S := (fun w' : World => w'.cell? ⟨gU, 2, none⟩ = some (.slice vF.1 F.length vF.2) ∧ w'.cell? ⟨gB, 0, none⟩ = some (.int .i64 inp))) (ds := [14]) #[false, false, false, false, false, false, false, false, false, false, false, false, false, false, false] (by kernel_rfl) rfl rfl q (fun hHeld => ?_)
      clear q
      have S2 := Aside0.mk S.out.drew
      clear S
      generalize wr.drew = w2 at *
      refine pure_ (i := 0) (N := some 52) (v := ?_) (a' := ?_) #[true, false, false, false, false, false, false, false, false, false, false, false, false, false, false] rfl rfl (by kernel_rfl) (fun _ _ _ h => h) (Or.inl ⟨by rfl, ?_⟩) ?_ ?_
      rotate_left
      · intro w'
        go_simp
        with_reducible rfl
      rotate_left
      · simp only [Act.put, List.setIfInBounds_toArray, List.set_cons_zero, List.set_cons_succ]
        rfl
      refine take_ (i := 1) (N := some 53) (v := ?_) (a' := ?_) #[true, true, false, false, false, false, false, false, false, false, false, false, false, false, false] rfl rfl (by kernel_rfl) (fun _ _ _ h => h) (Or.inl ⟨by rfl, ?_⟩) hHeld ?_ ?_
      rotate_left
      · rintro w' ⟨s0, s1⟩
        go_simp
        with_reducible rfl
      rotate_left
      · simp only [Act.put, List.setIfInBounds_toArray, List.set_cons_zero, List.set_cons_succ]
        rfl
      refine pure_ (i := 2) (N := some 54) (v := ?_) (a' := ?_) #[true, true, true, false, false, false, false, false, false, false, false, false, false, false, false] rfl rfl (by kernel_rfl) (fun _ _ _ h => h) (Or.inl ⟨by rfl, ?_⟩) ?_ ?_
      rotate_left
      · intro w'
        go_simp
        with_reducible rfl
      rotate_left
      · simp only [Act.put, List.setIfInBounds_toArray, List.set_cons_zero, List.set_cons_succ]
        rfl
      refine pure_ (i := 3) (N := some 55) (v := ?_) (a' := ?_) #[true, true, true, true, false, false, false, false, false, false, false, false, false, false, false] rfl rfl (by kernel_rfl) (fun _ _ _ h => h) (Or.inl ⟨by rfl, ?_⟩) ?_ ?_
      rotate_left
      · intro w'
        go_simp
        with_reducible rfl
      rotate_left
      · simp only [Act.put, List.setIfInBounds_toArray, List.set_cons_zero, List.set_cons_succ]
        rfl
      refine pure_ (i := 4) (N := some 56) (v := ?_) (a' := ?_) #[true, true, true, true, true, false, false, false, false, false, false, false, false, false, false] rfl rfl (by kernel_rfl) (fun _ _ _ h => h) (Or.inl ⟨by rfl, ?_⟩) ?_ ?_
      rotate_left
      · intro w'
        go_simp
        with_reducible rfl
      rotate_left
      · simp only [Act.put, List.setIfInBounds_toArray, List.set_cons_zero, List.set_cons_succ]
        rfl
      refine pure_ (i := 5) (N := some 57) (v := ?_) (a' := ?_) #[true, true, true, true, true, true, false, false, false, false, false, false, false, false, false] rfl rfl (by kernel_rfl) (fun _ _ _ h => h) (Or.inl ⟨by rfl, ?_⟩) ?_ ?_
      rotate_left
      · intro w'
        go_simp
        with_reducible rfl
      rotate_left
      · simp only [Act.put, List.setIfInBounds_toArray, List.set_cons_zero, List.set_cons_succ]
        rfl
      refine take_ (i := 6) (N := some 58) (v := ?_) (a' := ?_) #[true, true, true, true, true, true, true, false, false, false, false, false, false, false, false] rfl rfl (by kernel_rfl) (fun _ _ _ h => h) (Or.inl ⟨by rfl, ?_⟩) hHeld ?_ ?_
      rotate_left
      · rintro w' ⟨s0, s1⟩
        go_simp
        with_reducible rfl
      rotate_left
      · simp only [Act.put, List.setIfInBounds_toArray, List.set_cons_zero, List.set_cons_succ]
        rfl
      refine pure_ (i := 7) (N := some 59) (v := ?_) (a' := ?_) #[true, true, true, true, true, true, true, true, false, false, false, false, false, false, false] rfl rfl (by kernel_rfl) (fun _ _ _ h => h) (Or.inl ⟨by rfl, ?_⟩) ?_ ?_
      rotate_left
      · intro w'
        go_simp
        with_reducible rfl
      rotate_left
      · simp only [Act.put, List.setIfInBounds_toArray, List.set_cons_zero, List.set_cons_succ]
        rfl
      refine pure_ (i := 8) (N := some 60) (v := ?_) (a' := ?_) #[true, true, true, true, true, true, true, true, true, false, false, false, false, false, false] rfl rfl (by kernel_rfl) (fun _ _ _ h => h) (Or.inl ⟨by rfl, ?_⟩) ?_ ?_
      rotate_left
      · intro w'
        go_simp
        with_reducible rfl
      rotate_left
      · simp only [Act.put, List.setIfInBounds_toArray, List.set_cons_zero, List.set_cons_succ]
        rfl
      refine pure_ (i := 9) (N := some 61) (v := ?_) (a' := ?_) #[true, true, true, true, true, true, true, true, true, true, false, false, false, false, false] rfl rfl (by kernel_rfl) (fun _ _ _ h => h) (Or.inl ⟨by rfl, ?_⟩) ?_ ?_
      rotate_left
      · intro w'
        go_simp
        with_reducible rfl
      rotate_left
      · simp only [Act.put, List.setIfInBounds_toArray, List.set_cons_zero, List.set_cons_succ]
        rfl
      refine pure_ (i := 10) (N := some 62) (v := ?_) (a' := ?_) #[true, true, true, true, true, true, true, true, true, true, true, false, false, false, false] rfl rfl (by kernel_rfl) (fun _ _ _ h => h) (Or.inl ⟨by rfl, ?_⟩) ?_ ?_
      rotate_left
      · intro w'
        go_simp
        with_reducible rfl
      rotate_left
      · simp only [Act.put, List.setIfInBounds_toArray, List.set_cons_zero, List.set_cons_succ]
        rfl
      refine one_ (i := 11) (N := some 63) #[true, true, true, true, true, true, true, true, true, true, true, true, false, false, false] rfl rfl (by kernel_rfl) (by decide) (fun K hK => ?_)
      refine value_ (w1 := ?_) (v := ?_) (by rfl) rfl ?_ ?_
      rotate_left 2
      · go_simp
        constructor
        · rfl
        · rfl
      refine hK.out _ _ ⟨(World.cell?_alloc_lt _ _ _ (World.block_lt_of_cell? _ _ hHeld.1)).trans hHeld.1, (World.cell?_alloc_lt _ _ _ (World.block_lt_of_cell? _ _ hHeld.2)).trans hHeld.2⟩ (fun hHeld => ?_)
      clear hK K
      refine norm_ (a' := ?_) ?_ ?_
      rotate_left
      · show Act.put _ (some 63) _ = _
        simp only [Act.put, List.setIfInBounds_toArray, List.set_cons_zero, List.set_cons_succ]
        rfl
      refine one_ (i := 12) (N := some 64) #[true, true, true, true, true, true, true, true, true, true, true, true, true, false, false] rfl rfl (by kernel_rfl) (by decide) (fun K hK => ?_)
      refine Parts.appendS S2.out 5 rfl flat_int (by rfl) (.tmp 53) (.tmp 63) 24 (.int .i64 0) 8 rfl Try.underlying24 infoInt rfl (by decide) (by decide) y [.int .i64 y] rfl rfl rfl (by have h1 := HLF.out; have h3 := HLT.out; have h5 := HSZ.out; omega) ?_
      intro V6 cap6 w6 h6
      have S6 := Aside0.mk h6
      clear h6 S2
      refine hK.out _ _ ⟨(S6.out.cell 4 rfl 2 rfl).1, (S6.out.cell 0 rfl 0 rfl).1⟩ (fun hHeld => ?_)
      clear hK K
      refine norm_ (a' := ?_) ?_ ?_
      rotate_left
      · show Act.put _ (some 64) _ = _
        simp only [Act.put, List.setIfInBounds_toArray, List.set_cons_zero, List.set_cons_succ]
        rfl
      obtain ⟨c0, f0⟩ := S6.out.cell 4 rfl 2 rfl
      refine pure_ (i := 13) (N := some 65) (v := ?_) (a' := ?_) #[true, true, true, true, true, true, true, true, true, true, true, true, true, true, false] rfl rfl (by kernel_rfl) (fun _ _ _ h => h) (Or.inl ⟨by rfl, ?_⟩) ?_ ?_
      rotate_left
      · intro w'
        go_simp
        with_reducible rfl
      rotate_left
      · simp only [Act.put, List.setIfInBounds_toArray, List.set_cons_zero, List.set_cons_succ]
        rfl
      refine last_ (i := 14) (N := none) #[true, true, true, true, true, true, true, true, true, true, true, true, true, true, true] rfl rfl (by kernel_rfl) (by decide) (fun K hK => ?_)
      refine skip_ (w1 := ?_) (by rfl) rfl ?_ ?_
      rotate_left
      · go_simp
        rfl
      refine hK.out _ _ ?_
      clear hK K
      refine done_ (by kernel_rfl) ?_
      have S7 := Aside0.mk (S6.out.put 4 rfl 2 (.slice V6 (F.length + 1) cap6) rfl)
      clear S6 c0 f0 hw
      generalize w6.setCell ⟨gU, 2, none⟩ (.slice V6 (F.length + 1) cap6) = w7 at *
      obtain ⟨z, hz⟩ : ∃ y : Int, 2 * (c.f0 + 1 + (m : Int)) = y := ⟨_, rfl⟩
      have hw : wrap64 (2 * wrap64 (wrap64 (c.f0 + 1) + (m : Int))) = z := by
        have h2 := HSZ.out; have h3 := HLT.out
        rw [wrap_in (x := c.f0 + 1) (by omega) (by omega), wrap_in (x := c.f0 + 1 + (m : Int)) (by omega) (by omega), wrap_in (by omega) (by omega), hz]
      have HST := Aside0.mk (show lasOf c.f0 (m + 1) = lasOf c.f0 m ++ [z] by rw [lasOf_succ, hz])
      have HLT2 := Aside0.mk (show (lasOf c.f0 m).length = m from lasOf_len _ _)
      clear hz
      generalize lasOf c.f0 m = T at *
      obtain ⟨c4, f4⟩ := S7.out.cell 4 rfl 4 rfl
      have c0 : w7.cell? ⟨w.heap.size, 0, none⟩ = some (.int .i64 c.f0) := (S7.out.cell 9 rfl 0 rfl).1
      go_wp2_with (first | (at_builtin; refine Parts.appendL S7.out 6 rfl flat_int rfl (.tmp 67) (.tmp 74) 24 (.int .i64 0) 8 rfl Try.underlying24 infoInt rfl (by decide) (by decide) z [.int .i64 z] rfl (by rw [hw]; rfl) rfl (by have h1 := HLT2.out; have h3 := HLT.out; have h5 := HSZ.out; omega) ?_; intro V8 cap8 w8 h8; obtain ⟨c8, f8⟩ := h8.cell 4 rfl 4 rfl; have S8 := Aside0.mk h8; clear h8))
      have S9 := Aside0.mk (S8.out.put 4 rfl 4 (.slice V8 (T.length + 1) cap8) rfl)
      go_roundg (c.f1.length - (m + 1))
      case measure => have := HK.out; have := HLT.out; omega
      case rel => exact ⟨m + 1, (V6, cap6), (V8, cap8), (by first | exact val_step HLT.out (by have := HSZ.out; omega) | exact congrArg (Value.int .i64) (by omega)), ⟨HLT.out, by have := HK.out; omega⟩, ⟨by
        rw [HSF.out, HST.out]
        have e1 : (F ++ [y]).length = F.length + 1 := by simp
        have e2 : (T ++ [z]).length = T.length + 1 := by simp
        unfold ePs
        rw [e1, e2]
        exact S9.out⟩⟩
    · have hk : m = c.f1.length := by have := HK.out; omega
      subst hk
      clear hlt HK
      have HF0 := Aside0.mk (show lasOf inp c.f1.length = (ph0 inp c).state ∧ (lasOf inp c.f1.length).length = c.f1.length from ⟨rfl, lasOf_len _ _⟩)
      obtain ⟨F, hF⟩ : ∃ F, lasOf inp c.f1.length = F := ⟨_, rfl⟩
      obtain ⟨T, hT⟩ : ∃ T, lasOf c.f0 c.f1.length = T := ⟨_, rfl⟩
      rw [hF] at HF0
      rw [hF, hT] at S
      have HFT := Aside0.mk (And.intro hF hT)
      clear hF hT
      have c2 : wr.cell? ⟨gU, 2, none⟩ = some (.slice vF.1 F.length vF.2) := (S.out.cell 4 rfl 2 rfl).1
      go_wp2_with fail
      refine (slices_Clone_int _ _ F _ (S.out.rowF 5 rfl) (by have h1 := HF0.out.2; have := HSZ.out; omega)).mono ?_
      rintro e w8 ⟨A8, k8, rfl, hR, hb⟩
      have S8 := Aside0.mk (show Parts w.heap.size w w8 (bPs w.heap.size gB gM inp c.f1.length (fcOf p c) (vL1, vL2) (none, 0) [] ++ (pF w.heap.size (Kd.int .i64) 3 (.slice A8 c.f1.length k8) F :: pF w.heap.size (Kd.int .i64) 3 (.slice none 0 0) [] :: ePs w.heap.size gU w.heap.size (w.heap.size + 1) k (fc5 p c) (vL1, vL2) vF vT (none, 0) c.f1.length c.f1 F T [] [])) from by
        have h_ := S.out.freshF flat_int hb hR
        rw [HF0.out.2] at h_
        exact (h_.nil (Kd.int .i64) 3).take [2, 3, 4, 1, 0, 5, 6, 7, 8, 9, 10, 11, 12] 13 (by simp) (by decide) (by decide))
      clear S hR hb c2
      rw [HF0.out.2]
      have HN0 := Aside0.mk (show 0 ≤ inp + (c.f1.length : Int) ∧ inp + (c.f1.length : Int) ≤ 200000 by have := HIB.out; have := HSZ.out; omega)
      have HP0 := Aside0.mk (ph0_ok (x := inp) (c := c) HIB.out.1 (by have := HIB.out; omega) HSZ.out.1)
      have HFR := Aside0.mk (fun (j : Nat) (hj : j < k) => show 0 ≤ phFr c j ∧ phFr c j ≤ 10000 from by
        have h1 := HSZ.out; have h3 := HKK.out
        have h4 : 0 ≤ (j : Int) * c.f0 := Int.mul_nonneg (by omega) h1.2.1
        have h5 : (j : Int) * c.f0 ≤ 4 * 1000 := calc (j : Int) * c.f0 ≤ 4 * c.f0 := Int.mul_le_mul_of_nonneg_right (by omega) h1.2.1
          _ ≤ 4 * 1000 := by omega
        unfold phFr; omega)
      have HPK := Aside0.mk (fun (j : Nat) (hj : j ≤ k) => PhOk.run HN0.out.1 HN0.out.2 HFI.out HP0.out (fr := phFr c) j (by have := HKK.out; omega) (fun i hi => HFR.out i (by omega)))
      go_wp2
      go_loopg [10, 11, 12, 82] k (fun gg s10 s11 s12 s82 wr => ∃ (j : Nat) (s : Ph) (vA vS vH vI : Option Addr × Nat) (hs : List HeadR), s10 = .slice vS.1 c.f1.length vS.2 ∧ s11 = .int .i64 s.sofar ∧ s12 = .slice vH.1 s.hopes.length vH.2 ∧ s82 = .int .i64 j ∧ Aside0 (j ≤ k ∧ k - j ≤ gg) ∧ Aside0 (phRun (inp + (c.f1.length : Int)) c (phFr c) (ph0 inp c) j = s) ∧
        Aside0 (Parts w.heap.size w wr (bPs w.heap.size gB gM inp c.f1.length (fcOf p c) (vL1, vL2) vA s.ands ++ (pF w.heap.size (Kd.int .i64) 3 (.slice vS.1 c.f1.length vS.2) s.state :: pF w.heap.size (Kd.int .i64) 3 (.slice vH.1 s.hopes.length vH.2) s.hopes :: ePs w.heap.size gU w.heap.size (w.heap.size + 1) k (fc5 p c) (vL1, vL2) vF vT vI c.f1.length c.f1 F T hs (phRows c (phFr c) j)))))
      case atStart => exact ⟨0, ph0 inp c, (none, 0), (A8, k8), (none, 0), (none, 0), [], rfl, rfl, rfl, rfl, ⟨by omega, by omega⟩, ⟨rfl⟩, ⟨by rw [← HF0.out.1]; exact S8.out⟩⟩
      case round =>
        clear S8
        obtain ⟨j, s, vA, vS, vH, vI, hs, rfl, rfl, rfl, rfl, HK, HE, S⟩ := hrel
        have HPS := Aside0.mk (HPK.out j HK.out.1)
        rw [HE.out] at HPS
        by_cases hlt : j < k
        · -- <done
          have HLT := Aside0.mk hlt
          have hlti : (j : Int) < (k : Int) := by omega
          obtain ⟨fr, hfr⟩ : ∃ x, phFr c j = x := ⟨_, rfl⟩
          have HFB := Aside0.mk (HFR.out j hlt)
          rw [hfr] at HFB
          have HFE := Aside0.mk hfr
          have hw : wrap64 (1 + wrap64 ((j : Int) * c.f0)) = fr := by
            have h0 := HFB.out
            unfold phFr at hfr
            rw [wrap_in (x := (j : Int) * c.f0) (by omega) (by omega), wrap_in (by omega) (by omega), hfr]
          have c0 : wr.cell? ⟨w.heap.size, 0, none⟩ = some (.int .i64 c.f0) := (S.out.cell 11 rfl 0 rfl).1
          clear hlt hfr
          have S1 := Aside0.mk (S.out.nil (Kd.int .i64) 3)
          clear S
          obtain ⟨ni, hni⟩ : ∃ n : Nat, c.f0 = (n : Int) := ⟨c.f0.toNat, by have := HSZ.out; omega⟩
          have HNI := Aside0.mk (show c.f0.toNat = ni ∧ ni ≤ 1000 by have := HSZ.out; omega)
          have HNJ := Aside0.mk hni
          clear hni
          go_upto_region 23 with (fail)
          rw [hw, HNJ.out]
          clear c0 hw
          go_loopg [15, 92] ni (fun gg s15 s92 wr => ∃ (i : Nat) (V : Option Addr) (cV : Nat), s15 = .slice V i cV ∧ s92 = .int .i64 i ∧ Aside0 (i ≤ ni ∧ ni - i ≤ gg) ∧ Aside0 (Parts w.heap.size w wr (pF w.heap.size (Kd.int .i64) 3 (.slice V i cV) (bIns fr i) :: (bPs w.heap.size gB gM inp c.f1.length (fcOf p c) (vL1, vL2) vA s.ands ++ (pF w.heap.size (Kd.int .i64) 3 (.slice vS.1 c.f1.length vS.2) s.state :: pF w.heap.size (Kd.int .i64) 3 (.slice vH.1 s.hopes.length vH.2) s.hopes :: ePs w.heap.size gU w.heap.size (w.heap.size + 1) k (fc5 p c) (vL1, vL2) vF vT vI c.f1.length c.f1 F T hs (phRows c (phFr c) j))))))
          case atStart => exact ⟨0, none, 0, rfl, rfl, ⟨by omega, by omega⟩, S1⟩
          case round =>
            clear S1
            obtain ⟨i, V, cV, rfl, rfl, HKI, S⟩ := hrel
            by_cases hlt : i < ni
            · have HLI := Aside0.mk hlt
              have hltj : (i : Int) < (ni : Int) := by omega
              obtain ⟨x, hx⟩ : ∃ x : Int, 2 * (fr + (i : Int)) = x := ⟨_, rfl⟩
              have hw : wrap64 (2 * wrap64 (fr + (i : Int))) = x := by
                have h1 := HFB.out; have h2 := HNI.out
                rw [wrap_in (x := fr + (i : Int)) (by omega) (by omega), wrap_in (by omega) (by omega), hx]
              have HST := Aside0.mk (show bIns fr (i + 1) = bIns fr i ++ [x] by rw [bIns_succ, ← hx])
              have HLN := Aside0.mk (show i = (bIns fr i).length by rw [bIns_len])
              clear hx hlt
              generalize bIns fr i = ys at *
              go_wp2_with (first | (at_builtin; refine Parts.appendL S.out 0 rfl flat_int rfl (.tmp 95) (.tmp 100) 24 (.int .i64 0) 8 rfl Try.underlying24 infoInt rfl (by decide) (by decide) x [.int .i64 x] rfl (by rw [hw]; rfl) rfl (by have := HNI.out; have := HLI.out; have := HLN.out; omega) ?_; intro V2 cap2 w8 h8; have S8 := Aside0.mk h8; clear h8))
              have hys := HLN.out
              go_roundg (ni - (i + 1))
              case measure => have := HKI.out; have := HLI.out; omega
              case rel => exact ⟨i + 1, V2, cap2, (by rw [hys]), (by first | exact val_step HLI.out (by have := HNI.out; omega) | exact congrArg (Value.int .i64) (by omega)), ⟨HLI.out, by have := HKI.out; omega⟩, ⟨by rw [HST.out, hys]; exact S8.out⟩⟩
            · have hk : i = ni := by have := HKI.out; omega
              subst hk
              clear hlt HKI
              have HLN := Aside0.mk (show i = (bIns fr i).length by rw [bIns_len])
              have HRW := Aside0.mk (show phRows c (phFr c) (j + 1) = phRows c (phFr c) j ++ [bIns fr i] by rw [phRows_succ, HNI.out.1, HFE.out])
              have HHS := Aside0.mk (show hs.length ≤ 10 by rw [S.out.inLen 11 rfl]; unfold phRows; rw [List.length_map, List.length_range]; have := HLT.out; have := HKK.out; omega)
              generalize bIns fr i = row at *
              have hlr := HLN.out
              clear HLN
              subst hlr
              obtain ⟨c3, f3⟩ := S.out.cell 7 rfl 3 rfl
              go_upto_region 28 with (first | (at_builtin; refine Parts.appendL S.out 10 rfl flat_head rfl (.tmp 104) (.tmp 106) 29 (.slice none 0 0) 24 rfl Try.underlying29 infoRow rfl (by decide) (by decide) (V, row.length, cV) [.slice V row.length cV] rfl rfl rfl (by have := HHS.out; omega) ?_; intro V2 cap2 w8 h8; obtain ⟨c8, f8⟩ := h8.cell 7 rfl 3 rfl; have S8 := Aside0.mk h8; clear h8) | fail)
              have S9 := Aside0.mk ((S8.out.put 7 rfl 3 (.slice V2 (hs.length + 1) cap2) rfl).inAdd 0 11 (by decide) rfl rfl)
              generalize w8.setCell ⟨gU, 3, none⟩ (.slice V2 (hs.length + 1) cap2) = w9 at *
              clear c8 f8 S8 c3 f3 S
              have S10 := Aside0.mk (show Parts w.heap.size w w9 (bPs w.heap.size gB gM inp c.f1.length (fcOf p c) (vL1, vL2) vA s.ands ++ (pF w.heap.size (Kd.int .i64) 3 (.slice vS.1 c.f1.length vS.2) s.state :: pF w.heap.size (Kd.int .i64) 3 (.slice vH.1 s.hopes.length vH.2) s.hopes :: ePs w.heap.size gU w.heap.size (w.heap.size + 1) k (fc5 p c) (vL1, vL2) vF vT (V2, cap2) c.f1.length c.f1 F T (hs ++ [(V, row.length, cV)]) (phRows c (phFr c) (j + 1)))) from by
                have e1 : (hs ++ [(V, row.length, cV)]).length = hs.length + 1 := by simp
                rw [HRW.out]
                unfold ePs
                rw [e1]
                exact S9.out)
              clear S9
              generalize hs ++ [(V, row.length, cV)] = hs2 at *
              have CF := Aside0.mk (b_frame (p := p) (f := c) S10.out ⟨HIB.out.1, by have := HIB.out; omega, by have := HSZ.out; omega, by have := HPS.out.n; have := HLT.out; have := HKK.out; omega, HPS.out.g⟩ (by have := HPS.out.n; have := HLT.out; have := HKK.out; omega) HFI.out HH.out (input := fr) HFB.out (sA := vS.1) (sc := vS.2) (state := s.state) (fun W vA ands h => h.rowF 3 rfl) HPS.out.l HPS.out.x)
              rw [HPS.out.l] at CF
              have HFO := Aside0.mk (bFrame_ok HN0.out.1 HN0.out.2 HFI.out (ands := s.ands) (by have := HPS.out.n; have := HLT.out; have := HKK.out; omega) HPS.out.g (input := fr) HFB.out HPS.out.l HPS.out.x)
              have HST := Aside0.mk (show phRun (inp + (c.f1.length : Int)) c (phFr c) (ph0 inp c) (j + 1) = phStep (inp + (c.f1.length : Int)) c fr s by rw [← HFE.out, ← HE.out]; rfl)
              unfold phStep at HST
              generalize bFrame (inp + (c.f1.length : Int)) c s.ands fr s.state = R at *
              go_wp2_with fail
              refine CF.out.mono ?_
              rintro e w10 ⟨vA2, Vn, cn, rfl, h10⟩
              go_upto_region 29 with (fail)
              have S11 := Aside0.mk ((h10.new 85 #[.slice Vn c.f1.length cn, .int .i64 R.bad, .int .i64 R.right]).behind (qs := bPs w.heap.size gB gM inp c.f1.length (fcOf p c) (vL1, vL2) vA2 R.ands))
              clear h10 CF S10
              generalize w10.heap.size = gF at *
              generalize w10.alloc (.cells #[.slice Vn c.f1.length cn, .int .i64 R.bad, .int .i64 R.right] 85) = w11 at *
              have c2 : w11.cell? ⟨gF, 2, none⟩ = some (.int .i64 R.right) := (S11.out.cell 3 rfl 2 rfl).1
              have HAB := Aside0.mk (show R.ands.length ≤ 90000 by have := HFO.out.n; have := HPS.out.n; have := HLT.out; have := HKK.out; omega)
              go_wp2_with fail
              refine (b_and_does _ _ R.ands s.sofar R.right S11.out ⟨HIB.out.1, by have := HIB.out; omega, by have := HSZ.out; omega, by have := HAB.out; omega, HFO.out.g⟩ HPS.out.r HFO.out.r).mono ?_
              rintro e w12 ⟨vA3, rfl, h12⟩
              have HO1 := Aside0.mk (bAnd_op HN0.out.1 HN0.out.2)
              have HA1 := Aside0.mk (And.intro (HO1.out.n R.ands s.sofar R.right) (And.intro (HO1.out.g R.ands s.sofar R.right HFO.out.g HPS.out.r HFO.out.r) (HO1.out.l R.ands s.sofar R.right (by have := HAB.out; omega) HPS.out.r HFO.out.r)))
              have S12 := Aside0.mk h12
              clear h12 S11 c2
              try dsimp only at HST
              generalize bAnd (inp + (c.f1.length : Int)) R.ands s.sofar R.right = a at *
              obtain ⟨a1, a2⟩ := a
              dsimp only at HA1 S12 HST ⊢
              have c1 : w12.cell? ⟨gF, 1, none⟩ = some (.int .i64 R.bad) := (S12.out.cell 3 rfl 1 rfl).1
              go_wp2_with fail
              refine (b_and_does _ _ a1 R.bad a2 S12.out ⟨HIB.out.1, by have := HIB.out; omega, by have := HSZ.out; omega, by have := HAB.out; have := HA1.out.1; omega, HA1.out.2.1⟩ HFO.out.b HA1.out.2.2).mono ?_
              rintro e w13 ⟨vA4, rfl, h13⟩
              have S13 := Aside0.mk h13
              clear h13 S12 c1
              generalize bAnd (inp + (c.f1.length : Int)) a1 R.bad a2 = b at *
              obtain ⟨b1, b2⟩ := b
              dsimp only at S13 HST ⊢
              go_upto_region 31 with (first | (at_builtin; refine Parts.appendL S13.out 6 rfl flat_int rfl (.tmp 118) (.tmp 124) 24 (.int .i64 0) 8 rfl Try.underlying24 infoInt rfl (by decide) (by decide) b2 [.int .i64 b2] rfl rfl rfl (by rw [HPS.out.h]; have := HLT.out; have := HKK.out; omega) ?_; intro V3 cap3 w14 h14; have S14 := Aside0.mk h14; clear h14) | fail)
              have c0 : w14.cell? ⟨gF, 0, none⟩ = some (.slice Vn c.f1.length cn) := (S14.out.cell 3 rfl 0 rfl).1
              have S15 := Aside0.mk ((S14.out.erase 5).erase 3)
              go_wp2
              rw [← HNJ.out]
              go_roundg (k - (j + 1))
              case measure => have := HK.out; have := HLT.out; omega
              case rel => exact ⟨j + 1, ⟨b1, R.nexts, a2, s.hopes ++ [b2]⟩, vA4, (Vn, cn), (V3, cap3), (V2, cap2), hs2, rfl, rfl, (by simp), (by first | exact val_step HLT.out (by have := HKK.out; omega) | exact congrArg (Value.int .i64) (by omega)), ⟨HLT.out, by have := HK.out; omega⟩, HST, ⟨by
                dsimp only
                rw [show (s.hopes ++ [b2]).length = s.hopes.length + 1 by simp]
                exact S15.out⟩⟩
        · have hk : j = k := by have := HK.out; omega
          subst hk
          clear hlt HK
          have HBY := Aside0.mk (show s.ands.length ≤ 13000 ∧ s.hopes.length ≤ 4 by have h1 := HPS.out.n; have h2 := HPS.out.h; have := HKK.out; omega)
          have HPD := Aside0.mk (show phDone c j = if 1000 < inp + c.f1.length + (bOr (inp + c.f1.length) (bAny (inp + c.f1.length) s.ands s.hopes).1 (bAny (inp + c.f1.length) s.ands s.hopes).2 s.sofar).1.length then (zeroRd, 4) else
              (⟨⟨inp, setNexts c.f1 s.state, (bOr (inp + c.f1.length) (bAny (inp + c.f1.length) s.ands s.hopes).1 (bAny (inp + c.f1.length) s.ands s.hopes).2 s.sofar).1, [(bAny (inp + c.f1.length) s.ands s.hopes).2], [(bOr (inp + c.f1.length) (bAny (inp + c.f1.length) s.ands s.hopes).1 (bAny (inp + c.f1.length) s.ands s.hopes).2 s.sofar).2]⟩, ⟨0, j, F, phRows c (phFr c) j, T, ⟨[], 1⟩⟩⟩, 0) by
            unfold phDone phMade phRight phBad phS
            rw [HIN.out, HE.out, ← HFT.out.1, ← HFT.out.2])
          clear HPK HE HFR HP0
          go_wp2_with fail
          refine (b_any S.out ⟨HIB.out.1, by have := HIB.out; omega, by have := HSZ.out; omega, by have := HBY.out; omega, HPS.out.g⟩ (fun W vA ands h => h.rowF 4 rfl) (by have := HBY.out; omega) HPS.out.y).mono ?_
          rintro e w15 ⟨vA5, rfl, h15⟩
          have S15 := Aside0.mk h15
          have HC5 := Aside0.mk ((bOr_op HN0.out.1 HN0.out.2).chain (none := 0) (ands := s.ands) (l := s.hopes) (by have := HBY.out; omega) LB.zero HPS.out.y HPS.out.g)
          rw [show bChain (bOr (inp + (c.f1.length : Int))) 0 s.ands s.hopes = bAny (inp + (c.f1.length : Int)) s.ands s.hopes from rfl] at HC5
          clear h15 S
          generalize bAny (inp + (c.f1.length : Int)) s.ands s.hopes = B at *
          obtain ⟨B1, B2⟩ := B
          dsimp only at HC5 S15 HPD ⊢
          have S16 := Aside0.mk ((S15.out.freshF flat_int (below_alloc (Below.refl _ _) (.cells #[.int .i64 B2] 3)) (R_oneB _ B2 _ 3 (Nat.le_refl _))).behind (qs := bPs w.heap.size gB gM inp c.f1.length (fcOf p c) (vL1, vL2) vA5 B1))
          go_wp2_with fail
          clear S15
          generalize w15.heap.size = g1 at *
          generalize w15.alloc (.cells #[.int .i64 B2] 3) = w16 at *
          refine (b_or_does _ _ B1 B2 s.sofar S16.out ⟨HIB.out.1, by have := HIB.out; omega, by have := HSZ.out; omega, by have := HBY.out; have := HC5.out.2.2; omega, HC5.out.2.1⟩ HC5.out.1 HPS.out.r).mono ?_
          rintro e w17 ⟨vA6, rfl, h17⟩
          have S17 := Aside0.mk h17
          have HD1 := Aside0.mk ((bOr_op HN0.out.1 HN0.out.2).n B1 B2 s.sofar)
          clear h17 S16
          generalize bOr (inp + (c.f1.length : Int)) B1 B2 s.sofar = D at *
          obtain ⟨D1, D2⟩ := D
          dsimp only at HD1 S17 HPD ⊢
          have S18 := Aside0.mk ((S17.out.freshF flat_int (below_alloc (Below.refl _ _) (.cells #[.int .i64 D2] 3)) (R_oneB _ D2 _ 3 (Nat.le_refl _))).behind (qs := bPs w.heap.size gB gM inp c.f1.length (fcOf p c) (vL1, vL2) vA6 D1))
          obtain ⟨_, f3⟩ := S18.out.cell 0 rfl 3 rfl
          obtain ⟨_, f4⟩ := S18.out.cell 0 rfl 4 rfl
          go_upto_region 35 with (fail)
          clear f3 f4 S17
          generalize w17.heap.size = g2 at *
          generalize w17.alloc (.cells #[.int .i64 D2] 3) = w18 at *
          have S19 := Aside0.mk (show Parts w.heap.size w ((w18.setCell ⟨gB, 3, none⟩ (.slice (some ⟨g1, 0, none⟩) 1 1)).setCell ⟨gB, 4, none⟩ (.slice (some ⟨g2, 0, none⟩) 1 1)) (bPs w.heap.size gB gM inp c.f1.length (fcE p c (.slice (some ⟨g1, 0, none⟩) 1 1) (.slice (some ⟨g2, 0, none⟩) 1 1)) (vL1, vL2) vA6 D1 ++ (pF w.heap.size (Kd.int .i64) 3 (.slice (some ⟨g2, 0, none⟩) 1 1) [D2] :: pF w.heap.size (Kd.int .i64) 3 (.slice (some ⟨g1, 0, none⟩) 1 1) [B2] :: pF w.heap.size (Kd.int .i64) 3 (.slice vS.1 c.f1.length vS.2) s.state :: pF w.heap.size (Kd.int .i64) 3 (.slice vH.1 s.hopes.length vH.2) s.hopes :: ePs w.heap.size gU w.heap.size (w.heap.size + 1) j (fc5 p c) (vL1, vL2) vF vT vI c.f1.length (someNexts c.f1 s.state 0) F T hs (phRows c (phFr c) j))) from
            (S18.out.put 0 rfl 3 (.slice (some ⟨g1, 0, none⟩) 1 1) rfl).put 0 rfl 4 (.slice (some ⟨g2, 0, none⟩) 1 1) rfl)
          generalize (w18.setCell ⟨gB, 3, none⟩ (.slice (some ⟨g1, 0, none⟩) 1 1)).setCell ⟨gB, 4, none⟩ (.slice (some ⟨g2, 0, none⟩) 1 1) = w19 at *
          clear S18
          go_wp2
          go_loopg [149] c.f1.length (fun gg s149 wr => ∃ (m : Nat), s149 = .int .i64 m ∧ Aside0 (m ≤ c.f1.length ∧ c.f1.length - m ≤ gg) ∧ Aside0 (Parts w.heap.size w wr (bPs w.heap.size gB gM inp c.f1.length (fcE p c (.slice (some ⟨g1, 0, none⟩) 1 1) (.slice (some ⟨g2, 0, none⟩) 1 1)) (vL1, vL2) vA6 D1 ++ (pF w.heap.size (Kd.int .i64) 3 (.slice (some ⟨g2, 0, none⟩) 1 1) [D2] :: pF w.heap.size (Kd.int .i64) 3 (.slice (some ⟨g1, 0, none⟩) 1 1) [B2] :: pF w.heap.size (Kd.int .i64) 3 (.slice vS.1 c.f1.length vS.2) s.state :: pF w.heap.size (Kd.int .i64) 3 (.slice vH.1 s.hopes.length vH.2) s.hopes :: ePs w.heap.size gU w.heap.size (w.heap.size + 1) j (fc5 p c) (vL1, vL2) vF vT vI c.f1.length (someNexts c.f1 s.state m) F T hs (phRows c (phFr c) j)))))
          case atStart => exact ⟨0, rfl, ⟨by omega, by omega⟩, S19⟩
          case round =>
            clear S19
            obtain ⟨m, rfl, HK, S⟩ := hrel
            have hsl := HPS.out.l
            by_cases hlt : m < c.f1.length
            · obtain ⟨ad, eA, hc⟩ := at_int (S.out.rowF 5 rfl).r m (by omega)
              obtain ⟨gl, eL, u0, z0⟩ := S.out.latOne 7 rfl m (by rw [someNexts_len hsl]; exact hlt)
              dsimp only at eA eL
              rw [eA]
              have c1 : wr.cell? ⟨gB, 1, none⟩ = some (.slice (some ⟨gl, 0, none⟩) c.f1.length vL2) := by rw [← eL]; exact (S.out.cell 0 rfl 1 rfl).1
              have HST := Aside0.mk (someNexts_succ hsl hlt)
              have HLT := Aside0.mk hlt
              have hlti : (m : Int) < (c.f1.length : Int) := by omega
              have S3 := Aside0.mk (show Parts w.heap.size w (wr.setCell ⟨gl, m * 2, none⟩ (.int .i64 (s.state[m]'(by omega)))) (bPs w.heap.size gB gM inp c.f1.length (fcE p c (.slice (some ⟨g1, 0, none⟩) 1 1) (.slice (some ⟨g2, 0, none⟩) 1 1)) (vL1, vL2) vA6 D1 ++ (pF w.heap.size (Kd.int .i64) 3 (.slice (some ⟨g2, 0, none⟩) 1 1) [D2] :: pF w.heap.size (Kd.int .i64) 3 (.slice (some ⟨g1, 0, none⟩) 1 1) [B2] :: pF w.heap.size (Kd.int .i64) 3 (.slice vS.1 c.f1.length vS.2) s.state :: pF w.heap.size (Kd.int .i64) 3 (.slice vH.1 s.hopes.length vH.2) s.hopes :: ePs w.heap.size gU w.heap.size (w.heap.size + 1) j (fc5 p c) (vL1, vL2) vF vT vI c.f1.length (someNexts c.f1 s.state (m + 1)) F T hs (phRows c (phFr c) j))) from by
                have h_ := S.out
                rw [eL] at h_
                have h2 := h_.putNext 7 rfl m (by rw [someNexts_len hsl]; exact hlt) (s.state[m]'(by omega))
                rw [HST.out.2, HST.out.1, ← eL] at h2
                exact h2)
              have EA := Aside0.mk eA
              clear eA S HST eL
              generalize s.state[m]'(by omega) = x at *
              go_wp2
              rw [← EA.out]
              go_roundg (c.f1.length - (m + 1))
              case measure => have := HK.out; have := HLT.out; omega
              case rel => exact ⟨m + 1, (by first | exact val_step HLT.out (by have := HSZ.out; omega) | exact congrArg (Value.int .i64) (by omega)), ⟨HLT.out, by have := HK.out; omega⟩, S3⟩
            · have hk : m = c.f1.length := by have := HK.out; omega
              subst hk
              rw [someNexts_all hsl] at S
              clear hlt HK
              have HNL := Aside0.mk (setNexts_len hsl)
              clear hsl
              have HD2 := Aside0.mk (show D1.length ≤ 20000 by have := HD1.out; have := HC5.out.2.2; have := HBY.out; omega)
              have HBL := Aside0.mk (S.out.blk 0 rfl)
              go_wp2_with fail
              refine (b_vars gB inp (vL1, vL2) vA6 c.f1.length D1.length (fcE p c (.slice (some ⟨g1, 0, none⟩) 1 1) (.slice (some ⟨g2, 0, none⟩) 1 1)) gM _ HBL.out HIB.out.1 (by have := HIB.out; omega) (by have := HSZ.out; omega) (by have := HD2.out; omega)).mono ?_
              rintro e w20 ⟨rfl, hb⟩
              have S20 := Aside0.mk (S.out.below hb)
              clear hb S HBL
              by_cases hbig : 1000 < inp + (c.f1.length : Int) + (D1.length : Int)
              · have HE2 := Aside0.mk (show phDone c j = (zeroRd, 4) by rw [HPD.out, if_pos hbig])
                generalize inp + (c.f1.length : Int) + (D1.length : Int) = nv at *
                have HW := Aside0.mk (S20.out.put12 14 rfl (.int .i64 0) (.slice none 0 0) (.slice none 0 0) (.slice none 0 0) (.slice none 0 0) (.int .i64 0) (.int .i64 0) (.slice none 0 0) (.slice none 0 0) (.slice none 0 0) (.slice none 0 0) (.int .i64 0))
                obtain ⟨r0, z0⟩ := S20.out.cell 14 rfl 0 rfl
                obtain ⟨r1, z1⟩ := S20.out.cell 14 rfl 1 rfl
                obtain ⟨r2, z2⟩ := S20.out.cell 14 rfl 2 rfl
                obtain ⟨r3, z3⟩ := S20.out.cell 14 rfl 3 rfl
                obtain ⟨r4, z4⟩ := S20.out.cell 14 rfl 4 rfl
                obtain ⟨r5, z5⟩ := S20.out.cell 14 rfl 5 rfl
                obtain ⟨r6, z6⟩ := S20.out.cell 14 rfl 6 rfl
                obtain ⟨r7, z7⟩ := S20.out.cell 14 rfl 7 rfl
                obtain ⟨r8, z8⟩ := S20.out.cell 14 rfl 8 rfl
                obtain ⟨r9, z9⟩ := S20.out.cell 14 rfl 9 rfl
                obtain ⟨r10, z10⟩ := S20.out.cell 14 rfl 10 rfl
                obtain ⟨r11, z11⟩ := S20.out.cell 14 rfl 11 rfl
                go_wp2
                refine bodyPost_ret (results_ct rfl _ _ (w.heap.size + 1) 35 zCells (0, 0) _ rfl (HW.out.blk 14 rfl) hu35 rfl (by kernel_rfl)) rfl ?_
                rw [HE2.out]
                exact ⟨⟨none, 0, none, 0, none, 0, none, 0⟩, ⟨none, 0, none, 0, none, 0, none, 0⟩, rfl, fun W hW => ⟨⟨RS.nil _ _ _, RS.nil _ _ _, RS.nil _ _ _, RS.nil _ _ _⟩, ⟨RS.nil _ _ _, RS.nil _ _ _, RS.nil _ _ _, RS.nil _ _ _⟩⟩, HW.out.B⟩
              · have HE2 := Aside0.mk (show phDone c j = _ by rw [HPD.out, if_neg hbig])
                generalize inp + (c.f1.length : Int) + (D1.length : Int) = nv at *
                go_wp2
                have q := (⟨S20.out.cell 0 rfl 0 rfl, S20.out.cell 0 rfl 1 rfl, S20.out.cell 0 rfl 2 rfl, S20.out.cell 0 rfl 3 rfl, S20.out.cell 0 rfl 4 rfl⟩ : _ ∧ _ ∧ _ ∧ _ ∧ _)
                obtain ⟨⟨a0, _⟩, ⟨a1, _⟩, ⟨a2, _⟩, ⟨a3, _⟩, ⟨a4, _⟩⟩ := q
                obtain ⟨⟨u0, u1, u2, u3, u4, u5, u6⟩, _⟩ := blk7 (S20.out.blk 8 rfl)
                refine start_ (n := 8) (S := (fun w' : World => w'.cell? ⟨gB, 0, none⟩ = some (.int .i64 inp) ∧ w'.cell? ⟨gB, 1, none⟩ = some (.slice vL1 c.f1.length vL2) ∧ w'.cell? ⟨gB, 2, none⟩ = some (.slice vA6.1 D1.length vA6.2) ∧ w'.cell? ⟨gB, 3, none⟩ = some (.slice (some ⟨g1, 0, none⟩) 1 1) ∧ w'.cell? ⟨gB, 4, none⟩ = some (.slice (some ⟨g2, 0, none⟩) 1 1) ∧ w'.cell? ⟨gU, 0, none⟩ = some (.int .i64 0) ∧ w'.cell? ⟨gU, 1, none⟩ = some (.int .i64 (j : Int)) ∧ w'.cell? ⟨gU, 2, none⟩ = some (.slice vF.1 F.length vF.2) ∧ w'.cell? ⟨gU, 3, none⟩ = some (.slice vI.1 hs.length vI.2) ∧ w'.cell? ⟨gU, 4, none⟩ = some (.slice vT.1 T.length vT.2) ∧ w'.cell? ⟨gU, 5, none⟩ = some (.slice none 0 0) ∧ w'.cell? ⟨gU, 6, none⟩ = some (.int .i64 1))) (ds := []) #[false, false, false, false, false, false, false, false] (by kernel_rfl) rfl rfl ⟨a0, a1, a2, a3, a4, u0, u1, u2, u3, u4, u5, u6⟩ (fun hHeld => ?_)
                have S21 := Aside0.mk S20.out.drew
                clear S20 a0 a1 a2 a3 a4 u0 u1 u2 u3 u4 u5 u6
                generalize w20.drew = w21 at *
                refine pure_ (i := 0) (N := some 168) (v := ?_) (a' := ?_) #[true, false, false, false, false, false, false, false] rfl rfl (by kernel_rfl) (fun _ _ _ h => h) (Or.inl ⟨by rfl, ?_⟩) ?_ ?_
                rotate_left
                · intro w'
                  go_simp
                  with_reducible rfl
                rotate_left
                · simp only [Act.put, List.setIfInBounds_toArray, List.set_cons_zero, List.set_cons_succ]
                  rfl
                refine pure_ (i := 1) (N := some 169) (v := ?_) (a' := ?_) #[true, true, false, false, false, false, false, false] rfl rfl (by kernel_rfl) (fun _ _ _ h => h) (Or.inl ⟨by rfl, ?_⟩) ?_ ?_
                rotate_left
                · intro w'
                  go_simp
                  with_reducible rfl
                rotate_left
                · simp only [Act.put, List.setIfInBounds_toArray, List.set_cons_zero, List.set_cons_succ]
                  rfl
                refine pure_ (i := 2) (N := some 170) (v := ?_) (a' := ?_) #[true, true, true, false, false, false, false, false] rfl rfl (by kernel_rfl) (fun _ _ _ h => h) (Or.inl ⟨by rfl, ?_⟩) ?_ ?_
                rotate_left
                · intro w'
                  go_simp
                  with_reducible rfl
                rotate_left
                · simp only [Act.put, List.setIfInBounds_toArray, List.set_cons_zero, List.set_cons_succ]
                  rfl
                refine take_ (i := 3) (N := some 171) (v := ?_) (a' := ?_) #[true, true, true, true, false, false, false, false] rfl rfl (by kernel_rfl) (fun _ _ _ h => h) (Or.inl ⟨by rfl, ?_⟩) hHeld ?_ ?_
                rotate_left
                · rintro w' ⟨s0, s1, s2, s3, s4, s5, s6, s7, s8, s9, s10, s11⟩
                  go_simp
                  with_reducible rfl
                rotate_left
                · simp only [Act.put, List.setIfInBounds_toArray, List.set_cons_zero, List.set_cons_succ]
                  rfl
                refine take_ (i := 4) (N := some 172) (v := ?_) (a' := ?_) #[true, true, true, true, true, false, false, false] rfl rfl (by kernel_rfl) (fun _ _ _ h => h) (Or.inl ⟨by rfl, ?_⟩) hHeld ?_ ?_
                rotate_left
                · rintro w' ⟨s0, s1, s2, s3, s4, s5, s6, s7, s8, s9, s10, s11⟩
                  go_simp
                  with_reducible rfl
                rotate_left
                · simp only [Act.put, List.setIfInBounds_toArray, List.set_cons_zero, List.set_cons_succ]
                  rfl
                refine pure_ (i := 5) (N := some 173) (v := ?_) (a' := ?_) #[true, true, true, true, true, true, false, false] rfl rfl (by kernel_rfl) (fun _ _ _ h => h) (Or.inl ⟨by rfl, ?_⟩) ?_ ?_
                rotate_left
                · intro w'
                  go_simp
                  with_reducible rfl
                rotate_left
                · simp only [Act.put, List.setIfInBounds_toArray, List.set_cons_zero, List.set_cons_succ]
                  rfl
                obtain ⟨r0, z0⟩ := S21.out.cell 14 rfl 0 rfl
                obtain ⟨r1, z1⟩ := S21.out.cell 14 rfl 1 rfl
                obtain ⟨r2, z2⟩ := S21.out.cell 14 rfl 2 rfl
                obtain ⟨r3, z3⟩ := S21.out.cell 14 rfl 3 rfl
                obtain ⟨r4, z4⟩ := S21.out.cell 14 rfl 4 rfl
                obtain ⟨r5, z5⟩ := S21.out.cell 14 rfl 5 rfl
                obtain ⟨r6, z6⟩ := S21.out.cell 14 rfl 6 rfl
                obtain ⟨r7, z7⟩ := S21.out.cell 14 rfl 7 rfl
                obtain ⟨r8, z8⟩ := S21.out.cell 14 rfl 8 rfl
                obtain ⟨r9, z9⟩ := S21.out.cell 14 rfl 9 rfl
                obtain ⟨r10, z10⟩ := S21.out.cell 14 rfl 10 rfl
                obtain ⟨r11, z11⟩ := S21.out.cell 14 rfl 11 rfl
                have HW := Aside0.mk (S21.out.put12 14 rfl (.int .i64 inp) (.slice vL1 c.f1.length vL2) (.slice vA6.1 D1.length vA6.2) (.slice (some ⟨g1, 0, none⟩) 1 1) (.slice (some ⟨g2, 0, none⟩) 1 1) (.int .i64 0) (.int .i64 (j : Int)) (.slice vF.1 F.length vF.2) (.slice vI.1 hs.length vI.2) (.slice vT.1 T.length vT.2) (.slice none 0 0) (.int .i64 1))
                refine one_ (i := 6) (N := none) #[true, true, true, true, true, true, true, false] rfl rfl (by kernel_rfl) (by decide) (fun K hK => ?_)
                refine skip_ (w1 := ?_) (by rfl) rfl ?_ ?_
                rotate_left
                · go_simp
                  rfl
                refine hK.out _ _ ⟨(HW.out.cell 0 rfl 0 rfl).1, (HW.out.cell 0 rfl 1 rfl).1, (HW.out.cell 0 rfl 2 rfl).1, (HW.out.cell 0 rfl 3 rfl).1, (HW.out.cell 0 rfl 4 rfl).1, (HW.out.cell 8 rfl 0 rfl).1, (HW.out.cell 8 rfl 1 rfl).1, (HW.out.cell 8 rfl 2 rfl).1, (HW.out.cell 8 rfl 3 rfl).1, (HW.out.cell 8 rfl 4 rfl).1, (HW.out.cell 8 rfl 5 rfl).1, (HW.out.cell 8 rfl 6 rfl).1⟩ (fun hHeld => ?_)
                clear hK K
                refine pure_ (i := 7) (N := some 5) (v := ?_) (a' := ?_) #[true, true, true, true, true, true, true, true] rfl rfl (by kernel_rfl) (fun _ _ _ h => h) (Or.inl ⟨by rfl, ?_⟩) ?_ ?_
                rotate_left
                · intro w'
                  go_simp
                  with_reducible rfl
                rotate_left
                · simp only [Act.put, List.setIfInBounds_toArray, List.set_cons_zero, List.set_cons_succ]
                  rfl
                refine done_ (by kernel_rfl) ?_
                clear hHeld
                go_wp2
                refine bodyPost_ret (results_ct rfl _ _ (w.heap.size + 1) 35 _ (0, 0) _ rfl (HW.out.blk 14 rfl) hu35 rfl (by kernel_rfl)) rfl ?_
                rw [HE2.out]
                refine ⟨⟨vL1, vL2, vA6.1, vA6.2, some ⟨g1, 0, none⟩, 1, some ⟨g2, 0, none⟩, 1⟩, ⟨vF.1, vF.2, vI.1, vI.2, vT.1, vT.2, none, 0⟩, ?_, fun W hW => ⟨⟨HW.out.rowM hW 7 rfl, HW.out.rowM hW 1 rfl, HW.out.rowM hW 4 rfl, HW.out.rowM hW 3 rfl⟩, ⟨HW.out.rowM hW 9 rfl, HW.out.inRowsM hW 11 12 rfl rfl, HW.out.rowM hW 10 rfl, RS.nil _ _ _⟩⟩, HW.out.B⟩
                have hil := HW.out.inLen 12 rfl
                unfold rv
                dsimp only
                rw [HNL.out, ← hil]
                rfl
end Go.Proofs.Ytpfkiecihheidaa.PH
