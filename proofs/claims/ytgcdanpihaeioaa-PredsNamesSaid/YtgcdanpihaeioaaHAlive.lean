/- The chapter's examples: example, alive. -/
import Derived.Test.YtgcdanpihaeioaaHAgree3
import Derived.Test.YtgcdanpihaeioaaHSameP
import Derived.Test.YtgcdanpihaeioaaHPutD
namespace Go.Proofs.Ytgcdanpihaeioaa.PH
open Go.RowKit Go.Proofs.YtgcdanpihaeioaaW.PrintWords Go.Proofs.YtgcdanpihaeioaaW.PrintLast
set_option linter.unusedVariables false
set_option linter.unusedSimpArgs false

/-- A row of numbers that was written down. -/
theorem RS.lit_ints {w : World} {g : Nat} {t : TypeId} (l : List Int) (hm : l.length ≤ 9223372036854775807) (h : w.heap[g]? = some (.cells (l.map (Value.int .i64)).toArray t (0, 0))) : RS (Kd.int .i64) w (some ⟨g, 0, none⟩) l.length l :=
  RS.row hm (Nat.le_refl _) (fun j p hj => ⟨[.int .i64 p], rfl, rfl, fun i u hu => by
    cases i with
    | zero =>
      have e : Value.int .i64 p = u := by simpa using hu
      subst e
      have h2 := blk_cell h j
      rw [show (Kd.int .i64).sz = 1 from rfl, Nat.mul_one, Nat.add_zero, h2]
      simp [hj]
    | succ i => simp at hu⟩)
def exP : Pr := ⟨[⟨5, 3⟩, ⟨7, 3⟩], 8⟩
theorem RS.lit_ex {w : World} {g : Nat} {t : TypeId} (h : w.heap[g]? = some (.cells #[.int .i64 5, .int .i64 3, .int .i64 7, .int .i64 3] t (0, 0))) : RS kGate w (some ⟨g, 0, none⟩) 2 exP.f0 :=
  RS.row (by decide) (by decide) (fun j p hj => by
    match j, hj with
    | 0, hj =>
      have e : (⟨5, 3⟩ : Gate) = p := by simpa [exP] using hj
      subst e
      refine ⟨[.int .i64 5, .int .i64 3], rfl, kGate_mk w ⟨5, 3⟩, fun i u hu => ?_⟩
      match i, hu with
      | 0, hu => have e : Value.int .i64 5 = u := by simpa using hu
                 subst e; exact (blk_cell h 0).trans rfl
      | 1, hu => have e : Value.int .i64 3 = u := by simpa using hu
                 subst e; exact (blk_cell h 1).trans rfl
    | 1, hj =>
      have e : (⟨7, 3⟩ : Gate) = p := by simpa [exP] using hj
      subst e
      refine ⟨[.int .i64 7, .int .i64 3], rfl, kGate_mk w ⟨7, 3⟩, fun i u hu => ?_⟩
      match i, hu with
      | 0, hu => have e : Value.int .i64 7 = u := by simpa using hu
                 subst e; exact (blk_cell h 2).trans rfl
      | 1, hu => have e : Value.int .i64 3 = u := by simpa using hu
                 subst e; exact (blk_cell h 3).trans rfl
    | j + 2, hj => simp [exP] at hj)
def RetE (w w' : World) (e : Ending) : Prop := ∃ A k, e = .returned (pv A k exP) ∧ RS kGate w' A k exP.f0 ∧ Below w.heap.size w w'
set_option maxHeartbeats 2000000 in
set_option maxRecDepth 100000 in
theorem law24_example (w : World) : Calls Try.prog 38 #[] w fun e w' => RetE w w' e := by
  have hu24 := Try.underlying24
  have hu71 := Try.underlying71
  go_enter Try.func38, Try.ntmps38
  go_wp2
  have hh : ((w.alloc (.cells #[.slice (some ⟨w.heap.size + 1, 0, none⟩) 2 2, .int .i64 8] 24)).alloc (.cells #[.int .i64 5, .int .i64 3, .int .i64 7, .int .i64 3] 71)).heap[w.heap.size + 1]? = some (.cells #[.int .i64 5, .int .i64 3, .int .i64 7, .int .i64 3] 71 (0, 0)) := by simpa using blk_new (w.alloc (.cells #[.slice (some ⟨w.heap.size + 1, 0, none⟩) 2 2, .int .i64 8] 24)) (.cells #[.int .i64 5, .int .i64 3, .int .i64 7, .int .i64 3] 71)
  have hr0 : ((w.alloc (.cells #[.slice (some ⟨w.heap.size + 1, 0, none⟩) 2 2, .int .i64 8] 24)).alloc (.cells #[.int .i64 5, .int .i64 3, .int .i64 7, .int .i64 3] 71)).heap[w.heap.size]? = some (.cells #[.slice (some ⟨w.heap.size + 1, 0, none⟩) 2 2, .int .i64 8] 24 (0, 0)) := blk_alloc (blk_new _ _) _
  refine bodyPost_ret (results_cell_row rfl _ _ w.heap.size 24 #[.slice (some ⟨w.heap.size + 1, 0, none⟩) 2 2, .int .i64 8] (0, 0) _ rfl hr0 hu24 rfl (by kernel_rfl)) rfl ?_
  exact ⟨some ⟨w.heap.size + 1, 0, none⟩, 2, rfl, RS.lit_ex hh, below_alloc (below_alloc (Below.refl w.heap.size w) _) _⟩
/-- Two rows, in a block of their own. -/
theorem RS.two_rows {w : World} {g : Nat} {A B : Option Addr} {c d : Nat} {l m : List Int} {t : Nat} (h : w.heap[g]? = some (.cells #[.slice A l.length c, .slice B m.length d] t (0, 0))) (hl : RS (Kd.int .i64) w A c l) (hm : RS (Kd.int .i64) w B d m) : RS (Kd.slice 3 (Kd.int .i64)) w (some ⟨g, 0, none⟩) 2 [l, m] :=
  RS.row (by simp) (by simp) (fun j p hj => by
    match j, hj with
    | 0, hj =>
      have e : l = p := by simpa using hj
      subst e
      exact ⟨[.slice A l.length c], rfl, ⟨A, c, rfl, hl.h, hl.r⟩, fun i u hu => by
        cases i with
        | zero => have e : Value.slice A l.length c = u := by simpa using hu
                  subst e; exact (blk_cell h 0).trans rfl
        | succ i => simp at hu⟩
    | 1, hj =>
      have e : m = p := by simpa using hj
      subst e
      exact ⟨[.slice B m.length d], rfl, ⟨B, d, rfl, hm.h, hm.r⟩, fun i u hu => by
        cases i with
        | zero => have e : Value.slice B m.length d = u := by simpa using hu
                  subst e; exact (blk_cell h 1).trans rfl
        | succ i => simp at hu⟩
    | j + 2, hj => simp at hj)
def oneC : Circ := ⟨1, [], [], [], []⟩
theorem ex_fits : exP.Fits := ⟨by decide, fun x hx => by
  have h : x = ⟨5, 3⟩ ∨ x = ⟨7, 3⟩ := by simpa [exP] using hx
  rcases h with rfl | rfl <;> exact ⟨⟨by decide, by decide⟩, by decide, by decide⟩, ⟨by decide, by decide⟩⟩
theorem one_fits : oneC.Fits := ⟨by decide, by decide, ⟨by decide, by decide⟩, by simp [oneC], by simp [oneC], by simp [oneC], by simp [oneC]⟩
theorem ex_clauses : clausesP 2 [[2, 4], [3]] = (exP, 0) := by decide +kernel
theorem ex_put : putC oneC exP [1, 2] = (oneC, 0, 0) := by decide +kernel
set_option maxHeartbeats 4000000 in
set_option maxRecDepth 100000 in
theorem law24_alive (w : World) : Calls Try.prog 30 #[] w fun e w' => e = .returned (.bool true) ∧ Below w.heap.size w w' := by
  have hu24 := Try.underlying24
  have hu29 := Try.underlying29
  have q1 := below_alloc (Below.refl w.heap.size w) (.cells #[.int .i64 2, .int .i64 4] 3)
  have q2 := below_alloc q1 (.cells #[.int .i64 3] 3)
  have q3 := below_alloc q2 (.cells #[.slice (some ⟨w.heap.size, 0, none⟩) 2 2, .slice (some ⟨w.heap.size + 1, 0, none⟩) 1 1] 27)
  have n1 := blk_alloc (blk_alloc (blk_new w (.cells #[.int .i64 2, .int .i64 4] 3)) (.cells #[.int .i64 3] 3)) (.cells #[.slice (some ⟨w.heap.size, 0, none⟩) 2 2, .slice (some ⟨w.heap.size + 1, 0, none⟩) 1 1] 27)
  have n2 : (((w.alloc (.cells #[.int .i64 2, .int .i64 4] 3)).alloc (.cells #[.int .i64 3] 3)).alloc (.cells #[.slice (some ⟨w.heap.size, 0, none⟩) 2 2, .slice (some ⟨w.heap.size + 1, 0, none⟩) 1 1] 27)).heap[w.heap.size + 1]? = some (.cells #[.int .i64 3] 3 (0, 0)) := blk_alloc (by simpa using blk_new (w.alloc (.cells #[.int .i64 2, .int .i64 4] 3)) (.cells #[.int .i64 3] 3)) _
  have n3 : (((w.alloc (.cells #[.int .i64 2, .int .i64 4] 3)).alloc (.cells #[.int .i64 3] 3)).alloc (.cells #[.slice (some ⟨w.heap.size, 0, none⟩) 2 2, .slice (some ⟨w.heap.size + 1, 0, none⟩) 1 1] 27)).heap[w.heap.size + 2]? = some (.cells #[.slice (some ⟨w.heap.size, 0, none⟩) 2 2, .slice (some ⟨w.heap.size + 1, 0, none⟩) 1 1] 27 (0, 0)) := by simpa using blk_new ((w.alloc (.cells #[.int .i64 2, .int .i64 4] 3)).alloc (.cells #[.int .i64 3] 3)) (.cells #[.slice (some ⟨w.heap.size, 0, none⟩) 2 2, .slice (some ⟨w.heap.size + 1, 0, none⟩) 1 1] 27)
  have HQ := Aside0.mk q3
  have HRS := Aside0.mk (RS.two_rows (l := [2, 4]) (m := [3]) n3 (RS.lit_ints [2, 4] (by decide) n1) (RS.lit_ints [3] (by decide) n2))
  clear q1 q2 q3 n1 n2 n3
  go_enter Try.func30, Try.ntmps30
  go_wp2_with fail
  refine (show Calls _ _ #[.int .i64 2, .slice (some ⟨w.heap.size + 2, 0, none⟩) 2 2] _ _ from preds_Clauses 2 (some ⟨w.heap.size + 2, 0, none⟩) 2 [[2, 4], [3]] _ HRS.out (fun r hr x hx => by
    have h : r = [2, 4] ∨ r = [3] := by simpa using hr
    rcases h with rfl | rfl
    · have h2 : x = 2 ∨ x = 4 := by simpa using hx
      rcases h2 with rfl | rfl <;> exact ⟨by decide, by decide⟩
    · have h2 : x = 3 := by simpa using hx
      subst h2; exact ⟨by decide, by decide⟩)).mono ?_
  rintro e w1 ⟨A1, k1, rfl, hr1, hb1⟩
  rw [ex_clauses] at hr1 ⊢
  have B1 := Aside0.mk (HQ.out.trans (hb1.mono HQ.out.size))
  have hr1 := RS.of_R' hr1
  have P1 := Aside0.mk (below_alloc (Below.refl w1.heap.size w1) (.cells #[.slice A1 exP.f0.length k1, .int .i64 exP.f1] 24))
  have R1 := Aside0.mk (hr1.below P1.out)
  have G1 := Aside0.mk (blk_new w1 (.cells #[.slice A1 exP.f0.length k1, .int .i64 exP.f1] 24))
  have B2 := Aside0.mk (B1.out.trans (P1.out.mono B1.out.size))
  clear hr1 hb1 P1 HRS HQ B1
  go_wp2_with fail
  refine (law24_example _).mono ?_
  rintro e w3 ⟨A3, k3, rfl, hr3, hb3⟩
  have R3 := Aside0.mk hr3
  have G3 := Aside0.mk (blk_below G1.out hb3)
  have R1b := Aside0.mk (R1.out.below hb3)
  have B3 := Aside0.mk (B2.out.trans (hb3.mono B2.out.size))
  clear hr3 hb3 G1 R1 B2
  generalize w1.heap.size = g1 at *
  have P4 := Aside0.mk (below_alloc (Below.refl w3.heap.size w3) (.cells #[.int .i64 1, .int .i64 2] 3))
  have N4 := Aside0.mk (blk_new w3 (.cells #[.int .i64 1, .int .i64 2] 3))
  have B4 := Aside0.mk (B3.out.trans (P4.out.mono B3.out.size))
  have G4 := Aside0.mk (blk_below G3.out P4.out)
  have R4 := Aside0.mk (R3.out.below P4.out)
  have R1c := Aside0.mk (R1b.out.below P4.out)
  clear G3 R3 R1b
  go_wp2_with fail
  refine (show Calls _ _ #[cv ⟨none, 0, none, 0, none, 0, none, 0⟩ oneC, pv A3 k3 exP, .slice (some ⟨w3.heap.size, 0, none⟩) 2 2] _ _ from preds_Put ⟨none, 0, none, 0, none, 0, none, 0⟩ oneC A3 k3 exP (some ⟨w3.heap.size, 0, none⟩) 2 [1, 2] _ ⟨RS.nil _ _ _, RS.nil _ _ _, RS.nil _ _ _, RS.nil _ _ _⟩ one_fits R4.out ex_fits (RS.lit_ints [1, 2] (by decide) N4.out) (fun x hx => by
    have h2 : x = 1 ∨ x = 2 := by simpa using hx
    rcases h2 with rfl | rfl <;> exact ⟨by decide, by decide⟩)).mono ?_
  rintro e w5 ⟨p5, rfl, hr5, hb5⟩
  rw [ex_put]
  have B5 := Aside0.mk (B4.out.trans (hb5.mono B4.out.size))
  have G5 := Aside0.mk (blk_below G4.out hb5)
  have R1d := Aside0.mk (R1c.out.below hb5)
  have P6 := Aside0.mk (below_alloc (Below.refl w5.heap.size w5) (.cells #[.int .i64 oneC.f0, .slice p5.A1 oneC.f1.length p5.c1, .slice p5.A2 oneC.f2.length p5.c2, .slice p5.A3 oneC.f3.length p5.c3, .slice p5.A4 oneC.f4.length p5.c4] 29))
  have B6 := Aside0.mk (B5.out.trans (P6.out.mono B5.out.size))
  have G6 := Aside0.mk (blk_below G5.out P6.out)
  have R6 := Aside0.mk (R1d.out.below P6.out)
  clear hb5 hr5 G4 R4 R1c G5 R1d
  go_wp2
  have G7 := Aside0.mk (blk_drew G6.out)
  have B7 := Aside0.mk (below_drew B6.out)
  have R7_ := Aside0.mk (R6.out.below (below_drew (Below.refl _ _)))
  refine start_ (n := 16) (S := (fun w' => w'.cell? ⟨g1, 0, none⟩ = some (.slice A1 2 k1) ∧ w'.cell? ⟨g1, 1, none⟩ = some (.int .i64 8))) (ds := []) #[false, false, false, false, false, false, false, false, false, false, false, false, false, false, false, false] (by kernel_rfl) rfl rfl ⟨(blk_cell G7.out 0).trans rfl, (blk_cell G7.out 1).trans rfl⟩ (fun hHeld => ?_)
  refine pure_ (i := 0) (N := some 21) (v := ?_) (a' := ?_) #[true, false, false, false, false, false, false, false, false, false, false, false, false, false, false, false] rfl rfl (by kernel_rfl) (fun _ _ _ h => h) (Or.inl ⟨by rfl, ?_⟩) ?_ ?_
  rotate_left
  · intro w'
    go_simp
    with_reducible rfl
  rotate_left
  · simp only [Act.put, List.setIfInBounds_toArray, List.set_cons_zero, List.set_cons_succ]
    rfl
  refine pure_ (i := 1) (N := some 22) (v := ?_) (a' := ?_) #[true, true, false, false, false, false, false, false, false, false, false, false, false, false, false, false] rfl rfl (by kernel_rfl) (fun _ _ _ h => h) (Or.inl ⟨by rfl, ?_⟩) ?_ ?_
  rotate_left
  · intro w'
    go_simp
    with_reducible rfl
  rotate_left
  · simp only [Act.put, List.setIfInBounds_toArray, List.set_cons_zero, List.set_cons_succ]
    rfl
  refine pure_ (i := 2) (N := some 23) (v := ?_) (a' := ?_) #[true, true, true, false, false, false, false, false, false, false, false, false, false, false, false, false] rfl rfl (by kernel_rfl) (fun _ _ _ h => h) (Or.inl ⟨by rfl, ?_⟩) ?_ ?_
  rotate_left
  · intro w'
    go_simp
    with_reducible rfl
  rotate_left
  · simp only [Act.put, List.setIfInBounds_toArray, List.set_cons_zero, List.set_cons_succ]
    rfl
  refine take_ (i := 3) (N := some 24) (v := ?_) (a' := ?_) #[true, true, true, true, false, false, false, false, false, false, false, false, false, false, false, false] rfl rfl (by kernel_rfl) (fun _ _ _ h => h) (Or.inl ⟨by rfl, ?_⟩) hHeld ?_ ?_
  rotate_left
  · rintro w' ⟨s0, s1⟩
    go_simp
    with_reducible rfl
  rotate_left
  · simp only [Act.put, List.setIfInBounds_toArray, List.set_cons_zero, List.set_cons_succ]
    rfl
  refine one_ (i := 4) (N := some 25) #[true, true, true, true, true, false, false, false, false, false, false, false, false, false, false, false] rfl rfl (by kernel_rfl) (by decide) (fun K hK => ?_)
  refine goes_ Try.func38 (by kernel_rfl) rfl #[] (by rfl) rfl rfl (by simp only [List.map_toArray, List.map_cons, List.map_nil] <;> rfl) ?_
  refine (law24_example _).mono ?_
  rintro e w7 ⟨A7, k7, rfl, hr7, hb7⟩
  refine ⟨_, rfl, ?_⟩
  have G8 := Aside0.mk (blk_below G7.out hb7)
  have B8 := Aside0.mk (B7.out.trans (hb7.mono B7.out.size))
  have R8 := Aside0.mk (R7_.out.below hb7)
  have Q8 := Aside0.mk hr7
  clear hr7 hb7
  refine hK.out _ _ ⟨(blk_cell G8.out 0).trans rfl, (blk_cell G8.out 1).trans rfl⟩ (fun hHeld => ?_)
  clear hK K
  refine norm_ (a' := ?_) ?_ ?_
  rotate_left
  · show Act.put _ (some 25) _ = _
    simp only [Act.put, List.setIfInBounds_toArray, List.set_cons_zero, List.set_cons_succ]
    rfl
  refine one_ (i := 5) (N := some 26) #[true, true, true, true, true, true, false, false, false, false, false, false, false, false, false, false] rfl rfl (by kernel_rfl) (by decide) (fun K hK => ?_)
  refine goes_ Try.func27 (by kernel_rfl) rfl #[.agg #[.slice A1 2 k1, .int .i64 8], .agg #[.slice A7 2 k7, .int .i64 8]] (by rfl) rfl rfl (by simp only [List.map_toArray, List.map_cons, List.map_nil] <;> rfl) ?_
  refine (show Calls _ _ #[.agg #[.slice A1 2 k1, .int .i64 8], .agg #[.slice A7 2 k7, .int .i64 8]] _ _ from ref24_Same A1 k1 exP A7 k7 exP w7 R8.out Q8.out).mono ?_
  rintro e w8 ⟨rfl, hb8⟩
  have hd : decide (exP = exP) = true := decide_eq_true rfl
  rw [hd]
  clear hd
  refine ⟨_, rfl, ?_⟩
  have G9 := Aside0.mk (blk_below G8.out hb8)
  have B9 := Aside0.mk (B8.out.trans (hb8.mono B8.out.size))
  clear hb8
  refine hK.out _ _ ⟨(blk_cell G9.out 0).trans rfl, (blk_cell G9.out 1).trans rfl⟩ (fun hHeld => ?_)
  clear hK K
  refine norm_ (a' := ?_) ?_ ?_
  rotate_left
  · show Act.put _ (some 26) _ = _
    simp only [Act.put, List.setIfInBounds_toArray, List.set_cons_zero, List.set_cons_succ]
    rfl
  refine pure_ (i := 6) (N := some 27) (v := ?_) (a' := ?_) #[true, true, true, true, true, true, true, false, false, false, false, false, false, false, false, false] rfl rfl (by kernel_rfl) (fun _ _ _ h => h) (Or.inl ⟨by rfl, ?_⟩) ?_ ?_
  rotate_left
  · intro w'
    go_simp
    with_reducible rfl
  rotate_left
  · simp only [Act.put, List.setIfInBounds_toArray, List.set_cons_zero, List.set_cons_succ]
    rfl
  refine pure_ (i := 7) (N := some 28) (v := ?_) (a' := ?_) #[true, true, true, true, true, true, true, true, false, false, false, false, false, false, false, false] rfl rfl (by kernel_rfl) (fun _ _ _ h => h) (Or.inl ⟨by rfl, ?_⟩) ?_ ?_
  rotate_left
  · intro w'
    go_simp
    with_reducible rfl
  rotate_left
  · simp only [Act.put, List.setIfInBounds_toArray, List.set_cons_zero, List.set_cons_succ]
    rfl
  refine pure_ (i := 8) (N := some 29) (v := ?_) (a' := ?_) #[true, true, true, true, true, true, true, true, true, false, false, false, false, false, false, false] rfl rfl (by kernel_rfl) (fun _ _ _ h => h) (Or.inl ⟨by rfl, ?_⟩) ?_ ?_
  rotate_left
  · intro w'
    go_simp
    with_reducible rfl
  rotate_left
  · simp only [Act.put, List.setIfInBounds_toArray, List.set_cons_zero, List.set_cons_succ]
    rfl
  refine pure_ (i := 9) (N := some 30) (v := ?_) (a' := ?_) #[true, true, true, true, true, true, true, true, true, true, false, false, false, false, false, false] rfl rfl (by kernel_rfl) (fun _ _ _ h => h) (Or.inl ⟨by rfl, ?_⟩) ?_ ?_
  rotate_left
  · intro w'
    go_simp
    with_reducible rfl
  rotate_left
  · simp only [Act.put, List.setIfInBounds_toArray, List.set_cons_zero, List.set_cons_succ]
    rfl
  refine pure_ (i := 10) (N := some 31) (v := ?_) (a' := ?_) #[true, true, true, true, true, true, true, true, true, true, true, false, false, false, false, false] rfl rfl (by kernel_rfl) (fun _ _ _ h => h) (Or.inl ⟨by rfl, ?_⟩) ?_ ?_
  rotate_left
  · intro w'
    go_simp
    with_reducible rfl
  rotate_left
  · simp only [Act.put, List.setIfInBounds_toArray, List.set_cons_zero, List.set_cons_succ]
    rfl
  refine pure_ (i := 11) (N := some 32) (v := ?_) (a' := ?_) #[true, true, true, true, true, true, true, true, true, true, true, true, false, false, false, false] rfl rfl (by kernel_rfl) (fun _ _ _ h => h) (Or.inl ⟨by rfl, ?_⟩) ?_ ?_
  rotate_left
  · intro w'
    go_simp
    with_reducible rfl
  rotate_left
  · simp only [Act.put, List.setIfInBounds_toArray, List.set_cons_zero, List.set_cons_succ]
    rfl
  refine pure_ (i := 12) (N := some 33) (v := ?_) (a' := ?_) #[true, true, true, true, true, true, true, true, true, true, true, true, true, false, false, false] rfl rfl (by kernel_rfl) (fun _ _ _ h => h) (Or.inl ⟨by rfl, ?_⟩) ?_ ?_
  rotate_left
  · intro w'
    go_simp
    with_reducible rfl
  rotate_left
  · simp only [Act.put, List.setIfInBounds_toArray, List.set_cons_zero, List.set_cons_succ]
    rfl
  refine pure_ (i := 13) (N := some 34) (v := ?_) (a' := ?_) #[true, true, true, true, true, true, true, true, true, true, true, true, true, true, false, false] rfl rfl (by kernel_rfl) (fun _ _ _ h => h) (Or.inl ⟨by rfl, ?_⟩) ?_ ?_
  rotate_left
  · intro w'
    go_simp
    with_reducible rfl
  rotate_left
  · simp only [Act.put, List.setIfInBounds_toArray, List.set_cons_zero, List.set_cons_succ]
    rfl
  refine pure_ (i := 14) (N := some 35) (v := ?_) (a' := ?_) #[true, true, true, true, true, true, true, true, true, true, true, true, true, true, true, false] rfl rfl (by kernel_rfl) (fun _ _ _ h => h) (Or.inl ⟨by rfl, ?_⟩) ?_ ?_
  rotate_left
  · intro w'
    go_simp
    with_reducible rfl
  rotate_left
  · simp only [Act.put, List.setIfInBounds_toArray, List.set_cons_zero, List.set_cons_succ]
    rfl
  refine pure_ (i := 15) (N := some 0) (v := ?_) (a' := ?_) #[true, true, true, true, true, true, true, true, true, true, true, true, true, true, true, true] rfl rfl (by kernel_rfl) (fun _ _ _ h => h) (Or.inl ⟨by rfl, ?_⟩) ?_ ?_
  rotate_left
  · intro w'
    go_simp
    with_reducible rfl
  rotate_left
  · simp only [Act.put, List.setIfInBounds_toArray, List.set_cons_zero, List.set_cons_succ]
    rfl
  refine done_ (by kernel_rfl) ?_
  go_wp2
  go_ret
  exact ⟨rfl, B9.out⟩
end Go.Proofs.Ytgcdanpihaeioaa.PH
