/- The chapter's example: example, run, alive; fit. -/
import Derived.Test.YtchhbkicplgmhaaHCutM
import Derived.Test.YtchhbkicplgmhaaHRefR6
namespace Go.Proofs.Ytchhbkicplgmhaa.PH
open Go.RowKit Go.Proofs.YtchhbkicplgmhaaW.PrintWords Go.Proofs.YtchhbkicplgmhaaW.PrintLast
set_option linter.unusedVariables false
set_option linter.unusedSimpArgs false

def exC : Circ := ⟨0, [⟨3, 0⟩], [], [2], []⟩
def runT (n : Nat) : Run := ⟨[false], List.replicate n []⟩
theorem exC_fits : exC.Fits where
  h1 := by decide
  h2 := by decide
  i0 := ⟨by decide, by decide⟩
  i1 := fun x hx => by
    have h : x = ⟨3, 0⟩ := by simpa [exC] using hx
    subst h
    exact ⟨⟨by decide, by decide⟩, by decide, by decide⟩
  i2 := fun x hx => by simp [exC] at hx
  i3 := fun x hx => by
    have h : x = 2 := by simpa [exC] using hx
    subst h
    exact ⟨by decide, by decide⟩
  i4 := fun x hx => by simp [exC] at hx
theorem RS.one_latch {w : World} {g : Nat} {t : TypeId} {x y : Int} (h : w.heap[g]? = some (.cells #[.int .i64 x, .int .i64 y] t (0, 0))) : RS kLatch w (some ⟨g, 0, none⟩) 1 [⟨x, y⟩] :=
  RS.row (by simp) (by simp) (fun j p hj => by
    match j, hj with
    | 0, hj =>
      have e : (⟨x, y⟩ : Latch) = p := by simpa using hj
      subst e
      refine ⟨[.int .i64 x, .int .i64 y], rfl, kLatch_mk w ⟨x, y⟩, fun i u hu => ?_⟩
      match i, hu with
      | 0, hu => have e : Value.int .i64 x = u := by simpa using hu
                 subst e; exact (blk_cell h 0).trans rfl
      | 1, hu => have e : Value.int .i64 y = u := by simpa using hu
                 subst e; exact (blk_cell h 1).trans rfl
    | j + 1, hj => simp at hj)
def RetEx (w w' : World) (e : Ending) : Prop := ∃ p, e = .returned (cv p exC) ∧ RC w' p exC ∧ Below w.heap.size w w'
set_option maxHeartbeats 2000000 in
set_option maxRecDepth 100000 in
theorem law06_example (w : World) : Calls Try.prog 32 #[] w fun e w' => RetEx w w' e := by
  have hu26 := Try.underlying26
  have hu65 := Try.underlying65
  go_enter Try.func32, Try.ntmps32
  go_wp2
  have b0 := blk_new w (.cells #[.int .i64 0, .slice (some ⟨w.heap.size + 1, 0, none⟩) 1 1, .slice none 0 0, .slice (some ⟨w.heap.size + 1 + 1, 0, none⟩) 1 1, .slice none 0 0] 26)
  have b1 : ((w.alloc (.cells #[.int .i64 0, .slice (some ⟨w.heap.size + 1, 0, none⟩) 1 1, .slice none 0 0, .slice (some ⟨w.heap.size + 1 + 1, 0, none⟩) 1 1, .slice none 0 0] 26)).alloc (.cells #[.int .i64 3, .int .i64 0] 65)).heap[w.heap.size + 1]? = some (.cells #[.int .i64 3, .int .i64 0] 65 (0, 0)) := by simpa using blk_new (w.alloc (.cells #[.int .i64 0, .slice (some ⟨w.heap.size + 1, 0, none⟩) 1 1, .slice none 0 0, .slice (some ⟨w.heap.size + 1 + 1, 0, none⟩) 1 1, .slice none 0 0] 26)) (.cells #[.int .i64 3, .int .i64 0] 65)
  have b2 : (((w.alloc (.cells #[.int .i64 0, .slice (some ⟨w.heap.size + 1, 0, none⟩) 1 1, .slice none 0 0, .slice (some ⟨w.heap.size + 1 + 1, 0, none⟩) 1 1, .slice none 0 0] 26)).alloc (.cells #[.int .i64 3, .int .i64 0] 65)).alloc (.cells #[.int .i64 2] 3)).heap[w.heap.size + 1 + 1]? = some (.cells #[.int .i64 2] 3 (0, 0)) := by simpa using blk_new ((w.alloc (.cells #[.int .i64 0, .slice (some ⟨w.heap.size + 1, 0, none⟩) 1 1, .slice none 0 0, .slice (some ⟨w.heap.size + 1 + 1, 0, none⟩) 1 1, .slice none 0 0] 26)).alloc (.cells #[.int .i64 3, .int .i64 0] 65)) (.cells #[.int .i64 2] 3)
  refine bodyPost_ret (results_cell_row rfl _ _ w.heap.size 26 #[.int .i64 0, .slice (some ⟨w.heap.size + 1, 0, none⟩) 1 1, .slice none 0 0, .slice (some ⟨w.heap.size + 1 + 1, 0, none⟩) 1 1, .slice none 0 0] (0, 0) _ rfl (blk_alloc (blk_alloc b0 _) _) hu26 rfl (by kernel_rfl)) rfl ?_
  exact ⟨⟨some ⟨w.heap.size + 1, 0, none⟩, 1, none, 0, some ⟨w.heap.size + 1 + 1, 0, none⟩, 1, none, 0⟩, rfl, ⟨RS.one_latch (blk_alloc b1 _), RS.nil _ _ _, RS.one_int (Nat.le_refl _) ((blk_cell b2 0).trans rfl), RS.nil _ _ _⟩, below_alloc (below_alloc (below_alloc (Below.refl w.heap.size w) _) _) _⟩
theorem made_at (z : Array Value) (n i : Nat) (h : i < n) : (madeCells z n)[i]? = some z[i % z.size]! := by
  unfold madeCells
  rw [Array.getElem?_map, Array.getElem?_range, if_pos h]
  rfl
theorem make_nils (n : Nat) (hn : n ≤ 1000) : ∃ cs : Array Value, (∀ W : World, (Instr.makeSlice 28 (.int .i64 (n : Int)) (.int .i64 (n : Int))).run Try.prog W = .ok (.slice (some ⟨W.heap.size, 0, none⟩) n n) (W.alloc (.cells cs 27))) ∧
    ∀ W : World, ∀ g, W.heap[g]? = some (.cells cs 27 (0, 0)) → RS (Kd.slice 4 Kd.bool) W (some ⟨g, 0, none⟩) n (List.replicate n []) := by
  obtain ⟨i0, hi, hz⟩ := Option.map_eq_some_iff.1 infoRowB
  simp only [Prod.mk.injEq] at hz
  obtain ⟨h0, h1, h2⟩ := hz
  refine ⟨madeCells #[.slice none 0 0] n, fun W => ?_, fun W g hg => ?_⟩
  · have h := run_make (P := Try.prog) W 28 27 i0 _ Try.underlying28 hi h0 .i64 .i64 (n : Int) (n : Int) (by omega) (by omega) (by rw [h2]; omega) (by omega)
    rw [h1, Nat.mul_one] at h
    exact h
  · refine RS.row (by rw [List.length_replicate]; omega) (by rw [List.length_replicate]; exact Nat.le_refl _) (fun j p hj => ?_)
    have hj2 : j < n := by
      have := (List.getElem?_eq_some_iff.1 hj).1
      rwa [List.length_replicate] at this
    have hp : ([] : List Bool) = p := by
      rw [List.getElem?_replicate_of_lt hj2] at hj
      exact Option.some.inj hj
    subst hp
    refine ⟨[.slice none 0 0], rfl, ⟨none, 0, rfl, Nat.zero_le _, Kd.C_nil _ _⟩, fun i u hu => ?_⟩
    match i, hu with
    | 0, hu =>
      have e : Value.slice none 0 0 = u := by simpa using hu
      subst e
      rw [blk_cell hg, made_at _ _ _ (by show j * 1 + 0 < n; omega)]
      rw [show (j * (Kd.slice 4 Kd.bool).sz + 0) % (#[Value.slice none 0 0] : Array Value).size = 0 from by show (j * 1 + 0) % 1 = 0; omega]
      rfl
theorem RS.one_bool {w : World} {g : Nat} {t : TypeId} {x : Bool} (h : w.heap[g]? = some (.cells #[.bool x] t (0, 0))) : RS Kd.bool w (some ⟨g, 0, none⟩) 1 [x] :=
  RS.row (by simp) (by simp) (fun j p hj => by
    match j, hj with
    | 0, hj =>
      have e : x = p := by simpa using hj
      subst e
      exact ⟨[.bool x], rfl, rfl, fun i u hu => by
        cases i with
        | zero => have e : Value.bool x = u := by simpa using hu
                  subst e; exact (blk_cell h 0).trans rfl
        | succ i => simp at hu⟩
    | j + 1, hj => simp at hj)
def RetRun (n : Nat) (w w' : World) (e : Ending) : Prop := ∃ q, e = .returned (.agg #[.slice q.A0 1 q.c0, .slice q.A1 n q.c1]) ∧ RT w' q (runT n) ∧ Below w.heap.size w w'
set_option maxHeartbeats 2000000 in
set_option maxRecDepth 100000 in
theorem law06_run (n : Nat) (hn : n ≤ 1000) (w : World) : Calls Try.prog 33 #[.int .i64 (n : Int)] w fun e w' => RetRun n w w' e := by
  have hu30 := Try.underlying30
  obtain ⟨cs, hmk, hrs⟩ := make_nils n hn
  have HRS := Aside0.mk hrs
  clear hrs
  go_enter Try.func33, Try.ntmps33
  go_wp2
  have b0 := blk_new w (.cells #[.slice (some ⟨w.heap.size + 1, 0, none⟩) 1 1, .slice (some ⟨w.heap.size + 1 + 1, 0, none⟩) n n] 30)
  have b1 : ((w.alloc (.cells #[.slice (some ⟨w.heap.size + 1, 0, none⟩) 1 1, .slice (some ⟨w.heap.size + 1 + 1, 0, none⟩) n n] 30)).alloc (.cells #[.bool false] 4)).heap[w.heap.size + 1]? = some (.cells #[.bool false] 4 (0, 0)) := by simpa using blk_new (w.alloc (.cells #[.slice (some ⟨w.heap.size + 1, 0, none⟩) 1 1, .slice (some ⟨w.heap.size + 1 + 1, 0, none⟩) n n] 30)) (.cells #[.bool false] 4)
  have b2 : (((w.alloc (.cells #[.slice (some ⟨w.heap.size + 1, 0, none⟩) 1 1, .slice (some ⟨w.heap.size + 1 + 1, 0, none⟩) n n] 30)).alloc (.cells #[.bool false] 4)).alloc (.cells cs 27)).heap[w.heap.size + 1 + 1]? = some (.cells cs 27 (0, 0)) := by simpa using blk_new ((w.alloc (.cells #[.slice (some ⟨w.heap.size + 1, 0, none⟩) 1 1, .slice (some ⟨w.heap.size + 1 + 1, 0, none⟩) n n] 30)).alloc (.cells #[.bool false] 4)) (.cells cs 27)
  refine bodyPost_ret (results_cell_row rfl _ _ w.heap.size 30 #[.slice (some ⟨w.heap.size + 1, 0, none⟩) 1 1, .slice (some ⟨w.heap.size + 1 + 1, 0, none⟩) n n] (0, 0) _ rfl (blk_alloc (blk_alloc b0 _) _) hu30 rfl (by kernel_rfl)) rfl ?_
  exact ⟨⟨some ⟨w.heap.size + 1, 0, none⟩, 1, some ⟨w.heap.size + 1 + 1, 0, none⟩, n⟩, rfl, ⟨RS.one_bool (blk_alloc b1 _), HRS.out _ _ b2⟩, below_alloc (below_alloc (below_alloc (Below.refl w.heap.size w) _) _) _⟩
theorem wit1 : witC exC (runT 1) = (0, 57) := by decide +kernel
theorem wit2 : witC exC (runT 2) = (0, 0) := by decide +kernel
theorem wit3 : witC exC (runT 3) = (0, 57) := by decide +kernel
theorem cut3 : cutC exC (runT 3) = (runT 2, 0) := by decide +kernel
set_option maxHeartbeats 4000000 in
set_option maxRecDepth 100000 in
theorem law06_alive (w : World) : Calls Try.prog 28 #[] w fun e w' => e = .returned (.bool true) ∧ Below w.heap.size w w' := by
  have hu30 := Try.underlying30
  have B := Aside0.mk (Below.refl w.heap.size w)
  go_enter Try.func28, Try.ntmps28
  go_wp2_with fail
  refine (law06_example _).mono ?_
  rintro e a1 ⟨p1, rfl, hr, hb⟩
  have B := Aside0.mk (B.out.trans (hb.mono B.out.size))
  have HP := Aside0.mk hr
  clear hr hb
  go_wp2_with fail
  refine (show Calls _ _ #[.int .i64 1] _ _ from law06_run 1 (by decide) _).mono ?_
  rintro e b1 ⟨q1, rfl, hr, hb⟩
  have B := Aside0.mk (B.out.trans (hb.mono B.out.size))
  have HP := Aside0.mk (HP.out.below hb)
  have HQ := Aside0.mk hr
  clear hr hb
  go_wp2_with fail
  refine (show Calls _ _ #[cv p1 exC, .agg #[.slice q1.A0 1 q1.c0, .slice q1.A1 1 q1.c1]] _ _ from traces_Witness p1 exC q1 (runT 1) _ HP.out exC_fits HQ.out).mono ?_
  rintro e c1 ⟨rfl, hb⟩
  rw [wit1]
  have B := Aside0.mk (B.out.trans (hb.mono B.out.size))
  clear hb HP HQ
  go_wp2_with fail
  refine (law06_example _).mono ?_
  rintro e a2 ⟨p2, rfl, hr, hb⟩
  have B := Aside0.mk (B.out.trans (hb.mono B.out.size))
  have HP := Aside0.mk hr
  clear hr hb
  go_wp2_with fail
  refine (show Calls _ _ #[.int .i64 2] _ _ from law06_run 2 (by decide) _).mono ?_
  rintro e b2 ⟨q2, rfl, hr, hb⟩
  have B := Aside0.mk (B.out.trans (hb.mono B.out.size))
  have HP := Aside0.mk (HP.out.below hb)
  have HQ := Aside0.mk hr
  clear hr hb
  go_wp2_with fail
  refine (show Calls _ _ #[cv p2 exC, .agg #[.slice q2.A0 1 q2.c0, .slice q2.A1 2 q2.c1]] _ _ from traces_Witness p2 exC q2 (runT 2) _ HP.out exC_fits HQ.out).mono ?_
  rintro e c2 ⟨rfl, hb⟩
  rw [wit2]
  have B := Aside0.mk (B.out.trans (hb.mono B.out.size))
  clear hb HP HQ
  go_wp2_with fail
  refine (law06_example _).mono ?_
  rintro e a3 ⟨p3, rfl, hr, hb⟩
  have B := Aside0.mk (B.out.trans (hb.mono B.out.size))
  have HP := Aside0.mk hr
  clear hr hb
  go_wp2_with fail
  refine (show Calls _ _ #[.int .i64 3] _ _ from law06_run 3 (by decide) _).mono ?_
  rintro e b3 ⟨q3, rfl, hr, hb⟩
  have B := Aside0.mk (B.out.trans (hb.mono B.out.size))
  have HP := Aside0.mk (HP.out.below hb)
  have HQ := Aside0.mk hr
  clear hr hb
  go_wp2_with fail
  refine (show Calls _ _ #[cv p3 exC, .agg #[.slice q3.A0 1 q3.c0, .slice q3.A1 3 q3.c1]] _ _ from traces_Witness p3 exC q3 (runT 3) _ HP.out exC_fits HQ.out).mono ?_
  rintro e c3 ⟨rfl, hb⟩
  rw [wit3]
  have B := Aside0.mk (B.out.trans (hb.mono B.out.size))
  clear hb HP HQ
  go_wp2_with fail
  refine (law06_example _).mono ?_
  rintro e a4 ⟨p4, rfl, hr, hb⟩
  have B := Aside0.mk (B.out.trans (hb.mono B.out.size))
  have HP := Aside0.mk hr
  clear hr hb
  go_wp2_with fail
  refine (show Calls _ _ #[.int .i64 3] _ _ from law06_run 3 (by decide) _).mono ?_
  rintro e b4 ⟨q4, rfl, hr, hb⟩
  have B := Aside0.mk (B.out.trans (hb.mono B.out.size))
  have HP := Aside0.mk (HP.out.below hb)
  have HQ := Aside0.mk hr
  clear hr hb
  go_wp2_with fail
  refine (show Calls _ _ #[cv p4 exC, .agg #[.slice q4.A0 1 q4.c0, .slice q4.A1 3 q4.c1]] _ _ from traces_Cut p4 exC q4 (runT 3) _ HP.out exC_fits HQ.out).mono ?_
  rintro e c4 ⟨qc, rfl, hr, hb⟩
  rw [cut3]
  have B := Aside0.mk (B.out.trans (hb.mono B.out.size))
  have B9 := Aside0.mk (below_alloc B.out (.cells #[.slice qc.A0 (runT 2).f0.length qc.c0, .slice qc.A1 (runT 2).f1.length qc.c1] 30))
  have HN := Aside0.mk (blk_new c4 (.cells #[.slice qc.A0 (runT 2).f0.length qc.c0, .slice qc.A1 (runT 2).f1.length qc.c1] 30))
  clear hb hr HP HQ
  obtain ⟨o0, o1⟩ : (c4.alloc (.cells #[.slice qc.A0 (runT 2).f0.length qc.c0, .slice qc.A1 (runT 2).f1.length qc.c1] 30)).cell? ⟨c4.heap.size, 0, none⟩ = some (.slice qc.A0 1 qc.c0) ∧ (c4.alloc (.cells #[.slice qc.A0 (runT 2).f0.length qc.c0, .slice qc.A1 (runT 2).f1.length qc.c1] 30)).cell? ⟨c4.heap.size, 1, none⟩ = some (.slice qc.A1 2 qc.c1) := (blk2t HN.out).1
  go_wp2
  go_ret
  exact ⟨rfl, B9.out⟩
theorem fits_of_nums {c : Circ} (h : c.Nums) (hg : great c = false) : c.Fits := by
  unfold great at hg
  simp only [Bool.or_eq_false_iff, decide_eq_false_iff_not] at hg
  exact ⟨by omega, by omega, h.i0, h.i1, h.i2, h.i3, h.i4⟩
def RetFit (c : Circ) (t : Run) (w w' : World) (e : Ending) : Prop := ∃ b, e = .returned (.bool b) ∧ (b = true → great c = false ∧ smallT t ∧ tCheck c t = 0) ∧ Below w.heap.size w w'
set_option maxHeartbeats 4000000 in
set_option maxRecDepth 100000 in
theorem law06_fit (p : CP) (c : Circ) (q : TP) (t : Run) (w : World) (h : RC w p c) (nc : c.Nums) (ht : RT w q t) :
    Calls Try.prog 27 #[cv p c, tv q t] w fun e w' => RetFit c t w w' e := by
  have HR := Aside0.mk h
  have HT := Aside0.mk ht
  have NC := Aside0.mk nc
  have I := Aside0.mk (CkInv.start w p c q t)
  have hu26 := Try.underlying26
  have hu30 := Try.underlying30
  obtain ⟨g0, g1, g2, g3, g4⟩ := (blk5w I.out.B0).1
  obtain ⟨u0, u1⟩ := (blk2t I.out.B1).1
  clear h nc ht
  go_enter Try.func27, Try.ntmps27
  go_wp2_with fail
  refine (ref02_Great p c _).mono ?_
  rintro e w1 ⟨rfl, hb⟩
  have I := Aside0.mk (I.out.below hb)
  clear hb g0 g1 g2 g3 g4 u0 u1
  cases hg : great c with
  | true =>
    clear hg
    go_wp2
    go_ret
    exact ⟨false, rfl, (fun h => by cases h), I.out.BW⟩
  | false =>
  have HG := Aside0.mk hg
  have FC := Aside0.mk (fits_of_nums NC.out hg)
  clear hg
  obtain ⟨u0, u1⟩ := (blk2t I.out.B1).1
  go_wp2_with fail
  refine (ref06_Great q t _ (HT.out.below I.out.BW)).mono ?_
  rintro e w2 ⟨b, rfl, hG, hb⟩
  have I := Aside0.mk (I.out.below hb)
  clear hb u0 u1
  cases b with
  | true =>
    clear hG
    go_wp2
    go_ret
    exact ⟨false, rfl, (fun h => by cases h), I.out.BW⟩
  | false =>
  have HS := Aside0.mk (hG rfl)
  clear hG
  obtain ⟨g0, g1, g2, g3, g4⟩ := (blk5w I.out.B0).1
  obtain ⟨u0, u1⟩ := (blk2t I.out.B1).1
  go_wp2_with fail
  refine (ref06_Check p c q t _ (HR.out.below I.out.BW) FC.out (HT.out.below I.out.BW)).mono ?_
  rintro e w3 ⟨rfl, hb⟩
  have I := Aside0.mk (I.out.below hb)
  clear hb g0 g1 g2 g3 g4 u0 u1
  by_cases hc : tCheck c t = 0
  · have HC := Aside0.mk hc
    have hcd : (tCheck c t == 0) = true := by rw [hc]; rfl
    clear hc
    go_wp2
    go_ret
    exact ⟨true, rfl, (fun _ => ⟨HG.out, HS.out, HC.out⟩), I.out.BW⟩
  · have hcd : (tCheck c t == 0) = false := beq_eq_false_iff_ne.mpr hc
    clear hc
    go_wp2
    go_ret
    exact ⟨false, rfl, (fun h => by cases h), I.out.BW⟩
/-- How many frames are allowed. -/
theorem right_spec (c : Circ) (t : Run) (h : tCheck c t = 0) : ∃ n : Nat, rightC c t = ((n : Int), 0) ∧ n ≤ t.f1.length ∧ (∀ j (hj : j < (frames c t.f0 t.f1).length), j < n → (frames c t.f0 t.f1)[j].2.1 = true) ∧ ∀ (hn : n < (frames c t.f0 t.f1).length), (frames c t.f0 t.f1)[n].2.1 = false := by
  have key : ∀ (F : List Fr), ∃ n, n ≤ F.length ∧ (∀ j (hj : j < F.length), j < n → F[j].2.1 = true) ∧ ∀ (hn : n < F.length), F[n].2.1 = false := by
    intro F
    induction F with
    | nil => exact ⟨0, Nat.le_refl _, fun j hj => by simp at hj, fun hn => by simp at hn⟩
    | cons f fs ih =>
      obtain ⟨n, h1, h2, h3⟩ := ih
      cases hf : f.2.1 with
      | false => exact ⟨0, Nat.zero_le _, fun j _ hj => absurd hj (Nat.not_lt_zero _), fun _ => hf⟩
      | true =>
        refine ⟨n + 1, by simpa using h1, fun j hj hjn => ?_, fun hn => ?_⟩
        · cases j with
          | zero => exact hf
          | succ j => exact h2 j (by simpa using hj) (by omega)
        · exact h3 (by simpa using hn)
  obtain ⟨n, h1, h2, h3⟩ := key (frames c t.f0 t.f1)
  refine ⟨n, ?_, by rw [frames_len] at h1; exact h1, h2, h3⟩
  unfold rightC
  rw [h]
  by_cases hn : n < (frames c t.f0 t.f1).length
  · rw [right_stop hn h2 (h3 hn)]
  · have e : n = (frames c t.f0 t.f1).length := by omega
    rw [right_end (fun j hj => h2 j hj (by omega)), e]
end Go.Proofs.Ytchhbkicplgmhaa.PH
