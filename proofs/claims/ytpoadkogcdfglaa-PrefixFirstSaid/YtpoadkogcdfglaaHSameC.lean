/- The references' comparison of circuits: Same tells whether both are equal. -/
import Derived.Test.YtpoadkogcdfglaaHSame
import Derived.Test.YtpoadkogcdfglaaHFive
namespace Go.Proofs.Ytpoadkogcdfglaa.PH
open Go.RowKit Go.Proofs.YtpoadkogcdfglaaW.PrintWords
set_option linter.unusedVariables false
set_option linter.unusedSimpArgs false

deriving instance DecidableEq for Circ
theorem gate_ext (x y : Gate) : x = y ↔ x.f0 = y.f0 ∧ x.f1 = y.f1 := gate_eq x y
theorem eqLatch (d : Nat) (w : World) (x0 y0 : Int) (x1 y1 : Int) :
    (Op.equalIn (d + 2) 45 (.agg #[.int .i64 x0, .int .i64 x1]) (.agg #[.int .i64 y0, .int .i64 y1])).run Try.prog w = .ok (x0 == y0 && (x1 == y1)) w := by
  refine eqA_of Try.underlying45 (by kernel_rfl) ?_
  refine eqf_cons (by rfl) (by go_simp; rfl) (by go_simp; rfl) (by go_simp) ?_
  exact eqf_last (by rfl) (by go_simp; rfl) (by go_simp; rfl) (by go_simp)
attribute [local go_sem high] eqGate eqLatch
theorem latch_ext (x y : Latch) : x = y ↔ x.f0 = y.f0 ∧ x.f1 = y.f1 := by
  cases x; cases y; simp
/-- What Same has boxed. -/
structure SInv (w : World) (p : CP) (c : Circ) (q : CP) (d : Circ) (wr : World) : Prop where
  BW : Below w.heap.size w wr
  B0 : wr.heap[w.heap.size]? = some (.cells #[.int .i64 c.f0, .slice p.A1 c.f1.length p.c1, .slice p.A2 c.f2.length p.c2, .slice p.A3 c.f3.length p.c3, .slice p.A4 c.f4.length p.c4] 26 (0, 0))
  B1 : wr.heap[w.heap.size + 1]? = some (.cells #[.int .i64 d.f0, .slice q.A1 d.f1.length q.c1, .slice q.A2 d.f2.length q.c2, .slice q.A3 d.f3.length q.c3, .slice q.A4 d.f4.length q.c4] 26 (0, 0))
theorem SInv.below {w : World} {p : CP} {c : Circ} {q : CP} {d : Circ} {wr w2 : World} (h : SInv w p c q d wr) (hb : Below wr.heap.size wr w2) : SInv w p c q d w2 :=
  ⟨h.BW.trans (hb.mono h.BW.size), blk_below h.B0 hb, blk_below h.B1 hb⟩
theorem SInv.start (w : World) (p : CP) (c : Circ) (q : CP) (d : Circ) : SInv w p c q d ((w.alloc (.cells #[.int .i64 c.f0, .slice p.A1 c.f1.length p.c1, .slice p.A2 c.f2.length p.c2, .slice p.A3 c.f3.length p.c3, .slice p.A4 c.f4.length p.c4] 26)).alloc (.cells #[.int .i64 d.f0, .slice q.A1 d.f1.length q.c1, .slice q.A2 d.f2.length q.c2, .slice q.A3 d.f3.length q.c3, .slice q.A4 d.f4.length q.c4] 26)) :=
  ⟨below_alloc (below_alloc (Below.refl _ _) _) _, blk_alloc (blk_new _ _) _, by simpa using blk_new (w.alloc (.cells #[.int .i64 c.f0, .slice p.A1 c.f1.length p.c1, .slice p.A2 c.f2.length p.c2, .slice p.A3 c.f3.length p.c3, .slice p.A4 c.f4.length p.c4] 26)) (.cells #[.int .i64 d.f0, .slice q.A1 d.f1.length q.c1, .slice q.A2 d.f2.length q.c2, .slice q.A3 d.f3.length q.c3, .slice q.A4 d.f4.length q.c4] 26)⟩
set_option maxHeartbeats 4000000 in
set_option maxRecDepth 100000 in
theorem ref02_Same (p : CP) (c : Circ) (q : CP) (d : Circ) (w : World) (h : RC w p c) (h' : RC w q d) :
    Calls Try.prog 15 #[cv p c, cv q d] w fun e w' => e = .returned (.bool (decide (c = d))) ∧ Below w.heap.size w w' := by
  have I0 := Aside0.mk (SInv.start w p c q d)
  have HS3 := Aside0.mk (fun W (hb : Below w.heap.size w W) => ref02_SameInts p.A3 p.c3 c.f3 q.A3 q.c3 d.f3 W (h.s3.below hb) (h'.s3.below hb))
  have HS4 := Aside0.mk (fun W (hb : Below w.heap.size w W) => ref02_SameInts p.A4 p.c4 c.f4 q.A4 q.c4 d.f4 W (h.s4.below hb) (h'.s4.below hb))
  have HC := Aside0.mk h
  have HD := Aside0.mk h'
  have HX1 := Aside0.mk h.s1.max
  have HX2 := Aside0.mk h.s2.max
  have hu26 := Try.underlying26
  have huL := Try.underlying45
  have huG := Try.underlying92
  have HE := Aside0.mk (show decide (c = d) = (decide (c.f0 = d.f0) && decide (c.f1 = d.f1) && decide (c.f2 = d.f2) && decide (c.f3 = d.f3) && decide (c.f4 = d.f4)) by
    obtain ⟨a0, a1, a2, a3, a4⟩ := c
    obtain ⟨b0, b1, b2, b3, b4⟩ := d
    rw [Bool.eq_iff_iff]; simp [and_assoc])
  obtain ⟨x0, x1, x2, x3, x4⟩ := (blk5w I0.out.B0).1
  obtain ⟨y0, y1, y2, y3, y4⟩ := (blk5w I0.out.B1).1
  clear h h' x0 x1 x2 x3 x4 y0 y1 y2 y3 y4
  by_cases q0 : c.f0 = d.f0
  case neg =>
    have b0 : (c.f0 != d.f0) = true := bne_iff_ne.mpr q0
    have HF := Aside0.mk (show decide (c = d) = false from decide_eq_false (fun e => q0 (by rw [e])))
    clear q0
    go_enter Try.func15, Try.ntmps15
    go_wp2
    go_ret
    exact ⟨ret_bool HF.out.symm, I0.out.BW⟩
  have b0 : (c.f0 != d.f0) = false := bne_eq_false_iff_eq.mpr q0
  by_cases q1 : c.f1.length = d.f1.length
  case neg =>
    have b1 : ((c.f1.length : Int) != (d.f1.length : Int)) = true := bne_iff_ne.mpr (by omega)
    have HF := Aside0.mk (show decide (c = d) = false from decide_eq_false (fun e => q1 (by rw [e])))
    clear q0 q1
    go_enter Try.func15, Try.ntmps15
    go_wp2
    go_ret
    exact ⟨ret_bool HF.out.symm, I0.out.BW⟩
  have b1 : ((c.f1.length : Int) != (d.f1.length : Int)) = false := bne_eq_false_iff_eq.mpr (by omega)
  by_cases q2 : c.f2.length = d.f2.length
  case neg =>
    have b2 : ((c.f2.length : Int) != (d.f2.length : Int)) = true := bne_iff_ne.mpr (by omega)
    have HF := Aside0.mk (show decide (c = d) = false from decide_eq_false (fun e => q2 (by rw [e])))
    clear q0 q1 q2
    go_enter Try.func15, Try.ntmps15
    go_wp2
    go_ret
    exact ⟨ret_bool HF.out.symm, I0.out.BW⟩
  have b2 : ((c.f2.length : Int) != (d.f2.length : Int)) = false := bne_eq_false_iff_eq.mpr (by omega)
  by_cases q3 : c.f3 = d.f3
  case neg =>
    have HF := Aside0.mk (show decide (c = d) = false from decide_eq_false (fun e => q3 (by rw [e])))
    rw [decide_eq_false q3] at HS3
    clear q0 q1 q2 q3
    go_enter Try.func15, Try.ntmps15
    go_wp2_with fail
    refine (HS3.out _ I0.out.BW).mono ?_
    rintro e w1 ⟨rfl, hb1⟩
    have I1 := Aside0.mk (I0.out.below hb1)
    clear hb1
    go_wp2
    go_ret
    exact ⟨ret_bool HF.out.symm, I1.out.BW⟩
  rw [decide_eq_true q3] at HS3
  by_cases q4 : c.f4 = d.f4
  case neg =>
    have HF := Aside0.mk (show decide (c = d) = false from decide_eq_false (fun e => q4 (by rw [e])))
    rw [decide_eq_false q4] at HS4
    clear q0 q1 q2 q3 q4
    go_enter Try.func15, Try.ntmps15
    go_wp2_with fail
    refine (HS3.out _ I0.out.BW).mono ?_
    rintro e w1 ⟨rfl, hb1⟩
    have I1 := Aside0.mk (I0.out.below hb1)
    clear hb1
    obtain ⟨x0, x1, x2, x3, x4⟩ := (blk5w I1.out.B0).1
    obtain ⟨y0, y1, y2, y3, y4⟩ := (blk5w I1.out.B1).1
    go_wp2_with fail
    refine (HS4.out _ I1.out.BW).mono ?_
    rintro e w2 ⟨rfl, hb2⟩
    have I2 := Aside0.mk (I1.out.below hb2)
    clear hb2
    go_wp2
    go_ret
    exact ⟨ret_bool HF.out.symm, I2.out.BW⟩
  rw [decide_eq_true q4] at HS4
  have HE := Aside0.mk (show decide (c = d) = (decide (c.f1 = d.f1) && decide (c.f2 = d.f2)) by rw [HE.out, decide_eq_true q0, decide_eq_true q3, decide_eq_true q4]; simp)
  have HN1 := Aside0.mk q1
  have HN2 := Aside0.mk q2
  clear q0 q1 q2 q3 q4
  go_enter Try.func15, Try.ntmps15
  go_wp2_with fail
  refine (HS3.out _ I0.out.BW).mono ?_
  rintro e w1 ⟨rfl, hb1⟩
  have I1 := Aside0.mk (I0.out.below hb1)
  clear hb1 I0
  obtain ⟨x0, x1, x2, x3, x4⟩ := (blk5w I1.out.B0).1
  obtain ⟨y0, y1, y2, y3, y4⟩ := (blk5w I1.out.B1).1
  go_wp2_with fail
  refine (HS4.out _ I1.out.BW).mono ?_
  rintro e w2 ⟨rfl, hb2⟩
  have I2 := Aside0.mk (I1.out.below hb2)
  clear hb2 I1 x0 x1 x2 x3 x4 y0 y1 y2 y3 y4
  go_wp2
  clear b0 b1 b2
  go_loopg [5] c.f1.length (fun gg s5 wr => ∃ k : Nat, s5 = .int .i64 k ∧ Aside0 (k ≤ c.f1.length ∧ c.f1.length - k ≤ gg) ∧ Aside0 (SInv w p c q d wr) ∧ Aside0 (decide (c.f1.drop k = d.f1.drop k) = decide (c.f1 = d.f1)))
  case atStart => exact ⟨0, rfl, ⟨by omega, by omega⟩, I2, ⟨by simp⟩⟩
  case round =>
        clear I2
        obtain ⟨k, rfl, HX, I, HA⟩ := hrel
        obtain ⟨x0, x1, x2, x3, x4⟩ := (blk5w I.out.B0).1
        obtain ⟨y0, y1, y2, y3, y4⟩ := (blk5w I.out.B1).1
        have HBD := Aside0.mk (fun n => I.out.below (pw_below_drewN (Below.refl _ _) n))
        by_cases hlt : k < c.f1.length
        · have hlt2 : k < d.f1.length := by have := HN1.out; omega
          obtain ⟨ad, e1, hx, hx1⟩ := at_latch (Kd.C_below HC.out.s1.r I.out.BW) k hlt
          obtain ⟨bd, e2, hy, hy1⟩ := at_latch (Kd.C_below HD.out.s1.r I.out.BW) k hlt2
          have hdd := HA.out
          simp only [eq_drop hlt hlt2] at hdd
          have HLT := Aside0.mk hlt
          generalize c.f1[k] = x at *
          generalize d.f1[k] = y at *
          have HDD := Aside0.mk hdd
          clear hdd
          rw [e1] at x1
          rw [e2] at y1
          clear HA
          by_cases z : x.f0 = y.f0 ∧ x.f1 = y.f1
          · have hz0 : (x.f0 == y.f0) = true := beq_iff_eq.mpr z.1
            have hz1 : (x.f1 == y.f1) = true := beq_iff_eq.mpr z.2
            have hg0 : (x.f0 != y.f0) = false := bne_eq_false_iff_eq.mpr z.1
            have hg1 : (x.f1 != y.f1) = false := bne_eq_false_iff_eq.mpr z.2
            have HXY := Aside0.mk ((latch_ext x y).2 z)
            clear z
            go_wp2
            go_quiet (fail)
            go_wp2
            go_roundg (c.f1.length - (k + 1))
            case measure => have := HX.out; have := HLT.out; omega
            case rel => exact ⟨k + 1, val_step HLT.out HX1.out, ⟨HLT.out, by have := HX.out; omega⟩, ⟨HBD.out _⟩, ⟨by rw [← HDD.out]; simp [HXY.out]⟩⟩
          · have HXY := Aside0.mk (show decide (x = y ∧ c.f1.drop (k + 1) = d.f1.drop (k + 1)) = false from decide_eq_false (fun h => z ((latch_ext x y).1 h.1)))
            have hzz : (x.f0 == y.f0 && x.f1 == y.f1) = false := by
              rw [Bool.eq_false_iff]; intro h; simp at h; exact z h
            clear z
            cases hz0 : (x.f0 == y.f0) with
            | false =>
              go_wp2
              go_quiet (fail)
              go_wp2
              go_ret
              exact ⟨ret_bool (by have h_ := HDD.out; rw [HXY.out] at h_; rw [HE.out]; rw [← h_]; simp), (HBD.out _).BW⟩
            | true =>
              have hz1 : (x.f1 == y.f1) = false := by rw [hz0, Bool.true_and] at hzz; exact hzz
              clear hzz
              go_wp2
              go_quiet (fail)
              go_wp2
              go_ret
              exact ⟨ret_bool (by have h_ := HDD.out; rw [HXY.out] at h_; rw [HE.out]; rw [← h_]; simp), (HBD.out _).BW⟩
        · have HE1 : k = c.f1.length := by have := HX.out.1; omega
          have hdd := HA.out
          rw [HE1, List.drop_length, show d.f1.drop c.f1.length = [] by rw [HN1.out, List.drop_length]] at hdd
          have HDD := Aside0.mk hdd
          clear hdd
          clear HE1 HA
          go_wp2
          go_loopg [6] c.f2.length (fun gg s6 wr => ∃ k : Nat, s6 = .int .i64 k ∧ Aside0 (k ≤ c.f2.length ∧ c.f2.length - k ≤ gg) ∧ Aside0 (SInv w p c q d wr) ∧ Aside0 (decide (c.f2.drop k = d.f2.drop k) = decide (c.f2 = d.f2)))
          case atStart => exact ⟨0, rfl, ⟨by omega, by omega⟩, I, ⟨by simp⟩⟩
          case round =>
          have HDE := HDD
          clear I HDD x0 x1 x2 x3 x4 y0 y1 y2 y3 y4 HBD
          obtain ⟨k, rfl, HX, I, HA⟩ := hrel
          obtain ⟨x0, x1, x2, x3, x4⟩ := (blk5w I.out.B0).1
          obtain ⟨y0, y1, y2, y3, y4⟩ := (blk5w I.out.B1).1
          have HBD := Aside0.mk (fun n => I.out.below (pw_below_drewN (Below.refl _ _) n))
          by_cases hlt : k < c.f2.length
          · have hlt2 : k < d.f2.length := by have := HN2.out; omega
            obtain ⟨ad, e1, hx, hx1⟩ := at_gate (Kd.C_below HC.out.s2.r I.out.BW) k hlt
            obtain ⟨bd, e2, hy, hy1⟩ := at_gate (Kd.C_below HD.out.s2.r I.out.BW) k hlt2
            have hdd := HA.out
            simp only [eq_drop hlt hlt2] at hdd
            have HLT := Aside0.mk hlt
            generalize c.f2[k] = x at *
            generalize d.f2[k] = y at *
            have HDD := Aside0.mk hdd
            clear hdd
            rw [e1] at x2
            rw [e2] at y2
            clear HA
            by_cases z : x.f0 = y.f0 ∧ x.f1 = y.f1
            · have hz0 : (x.f0 == y.f0) = true := beq_iff_eq.mpr z.1
              have hz1 : (x.f1 == y.f1) = true := beq_iff_eq.mpr z.2
              have hg0 : (x.f0 != y.f0) = false := bne_eq_false_iff_eq.mpr z.1
              have hg1 : (x.f1 != y.f1) = false := bne_eq_false_iff_eq.mpr z.2
              have HXY := Aside0.mk ((gate_ext x y).2 z)
              clear z
              go_wp2
              go_quiet (fail)
              go_wp2
              go_roundg (c.f2.length - (k + 1))
              case measure => have := HX.out; have := HLT.out; omega
              case rel => exact ⟨k + 1, val_step HLT.out HX2.out, ⟨HLT.out, by have := HX.out; omega⟩, ⟨HBD.out _⟩, ⟨by rw [← HDD.out]; simp [HXY.out]⟩⟩
            · have HXY := Aside0.mk (show decide (x = y ∧ c.f2.drop (k + 1) = d.f2.drop (k + 1)) = false from decide_eq_false (fun h => z ((gate_ext x y).1 h.1)))
              have hzz : (x.f0 == y.f0 && x.f1 == y.f1) = false := by
                rw [Bool.eq_false_iff]; intro h; simp at h; exact z h
              clear z
              cases hz0 : (x.f0 == y.f0) with
              | false =>
                go_wp2
                go_quiet (fail)
                go_wp2
                go_ret
                exact ⟨ret_bool (by have h_ := HDD.out; rw [HXY.out] at h_; rw [HE.out]; rw [← h_]; simp), (HBD.out _).BW⟩
              | true =>
                have hz1 : (x.f1 == y.f1) = false := by rw [hz0, Bool.true_and] at hzz; exact hzz
                clear hzz
                go_wp2
                go_quiet (fail)
                go_wp2
                go_ret
                exact ⟨ret_bool (by have h_ := HDD.out; rw [HXY.out] at h_; rw [HE.out]; rw [← h_]; simp), (HBD.out _).BW⟩
          · have HE1 : k = c.f2.length := by have := HX.out.1; omega
            have hdd := HA.out
            rw [HE1, List.drop_length, show d.f2.drop c.f2.length = [] by rw [HN2.out, List.drop_length]] at hdd
            have HDD := Aside0.mk hdd
            clear hdd
            clear HE1 HA
            go_wp2
            go_ret
            exact ⟨ret_bool (by rw [HE.out, ← HDE.out, ← HDD.out]; simp), I.out.BW⟩
end Go.Proofs.Ytpoadkogcdfglaa.PH
