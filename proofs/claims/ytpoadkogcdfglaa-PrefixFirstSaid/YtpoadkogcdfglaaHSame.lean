/- Comparisons of the references: SameInts, SamePred, SameLift tell whether both are equal. -/
import Derived.Test.YtpoadkogcdfglaaHLift2
import Derived.Test.YtpoadkogcdfglaaWEqStruct
import Derived.Deep.RegionHeld3
import Derived.Deep.QuietTactic
import Derived.BigQuiet
namespace Go.Proofs.Ytpoadkogcdfglaa.PH
open Go.RowKit Go.Proofs.YtpoadkogcdfglaaW.PrintWords
set_option linter.unusedVariables false
set_option linter.unusedSimpArgs false

deriving instance DecidableEq for Pr, Lf
theorem eqGate (d : Nat) (w : World) (x0 y0 : Int) (x1 y1 : Int) :
    (Op.equalIn (d + 2) 92 (.agg #[.int .i64 x0, .int .i64 x1]) (.agg #[.int .i64 y0, .int .i64 y1])).run Try.prog w = .ok (x0 == y0 && (x1 == y1)) w := by
  refine eqA_of Try.underlying92 (by kernel_rfl) ?_
  refine eqf_cons (by rfl) (by go_simp; rfl) (by go_simp; rfl) (by go_simp) ?_
  exact eqf_last (by rfl) (by go_simp; rfl) (by go_simp; rfl) (by go_simp)
attribute [local go_sem high] eqGate
theorem gate_eq (x y : Gate) : x = y ↔ x.f0 = y.f0 ∧ x.f1 = y.f1 := by
  cases x; cases y; simp
theorem eq_drop {α : Type} {l m : List α} {k : Nat} (h1 : k < l.length) (h2 : k < m.length) : l.drop k = m.drop k ↔ l[k] = m[k] ∧ l.drop (k + 1) = m.drop (k + 1) := by
  rw [drop_at h1, drop_at h2, List.cons.injEq]
set_option maxHeartbeats 2000000 in
set_option maxRecDepth 100000 in
theorem ref02_SameInts (A : Option Addr) (c : Nat) (l : List Int) (B : Option Addr) (d : Nat) (m : List Int) (w : World) (hl : RS (Kd.int .i64) w A c l) (hm : RS (Kd.int .i64) w B d m) :
    Calls Try.prog 20 #[.slice A l.length c, .slice B m.length d] w fun e w' => e = .returned (.bool (decide (l = m))) ∧ Below w.heap.size w w' := by
  have HL := Aside0.mk hl
  have HM := Aside0.mk hm
  have HX0 := Aside0.mk hl.max
  clear hl hm
  by_cases hn : l.length = m.length
  · have hnb : ((l.length : Int) != (m.length : Int)) = false := bne_eq_false_iff_eq.mpr (by omega)
    have HN := Aside0.mk hn
    clear hn
    go_enter Try.func20, Try.ntmps20
    go_wp2
    clear hnb
    go_loopg [5] l.length (fun gg s5 wr => ∃ k : Nat, s5 = .int .i64 k ∧ Aside0 (k ≤ l.length ∧ l.length - k ≤ gg) ∧ Aside0 (Below w.heap.size w wr) ∧ Aside0 (decide (l.drop k = m.drop k) = decide (l = m)))
    case atStart => exact ⟨0, rfl, ⟨by omega, by omega⟩, ⟨Below.refl _ _⟩, ⟨by simp⟩⟩
    case round =>
      obtain ⟨k, rfl, HX, BW, HA⟩ := hrel
      by_cases hlt : k < l.length
      · have hlt2 : k < m.length := by have := HN.out; omega
        obtain ⟨ad, e1, hx⟩ := at_int (HL.out.below BW.out).r k hlt
        obtain ⟨bd, e2, hy⟩ := at_int (HM.out.below BW.out).r k hlt2
        cases e1
        cases e2
        have HD := HA.out
        simp only [eq_drop hlt hlt2] at HD
        have HLT := Aside0.mk hlt
        generalize l[k] = x at *
        generalize m[k] = y at *
        have HDD := Aside0.mk HD
        clear HA HD
        by_cases hxy : x = y
        · have hb : (x != y) = false := bne_eq_false_iff_eq.mpr hxy
          have HXY := Aside0.mk hxy
          clear hxy
          go_wp2
          go_quiet (fail)
          go_wp2
          go_roundg (l.length - (k + 1))
          case measure => have := HX.out; have := HLT.out; omega
          case rel => exact ⟨k + 1, val_step HLT.out HX0.out, ⟨HLT.out, by have := HX.out; omega⟩, ⟨pw_below_drewN BW.out _⟩, ⟨by rw [← HDD.out]; simp [HXY.out]⟩⟩
        · have hb : (x != y) = true := bne_iff_ne.mpr hxy
          have HXY := Aside0.mk hxy
          clear hxy
          go_wp2
          go_quiet (fail)
          go_wp2
          go_ret
          exact ⟨ret_bool (by rw [← HDD.out]; simp [HXY.out]), pw_below_drewN BW.out _⟩
      · have HE : k = l.length := by have := HX.out.1; omega
        have HD := HA.out
        rw [HE, List.drop_length, show m.drop l.length = [] by rw [HN.out, List.drop_length]] at HD
        have HDD := Aside0.mk HD
        clear HD HE HA
        go_wp2
        go_ret
        exact ⟨ret_bool (by rw [← HDD.out]; simp), BW.out⟩
  · have hnb : ((l.length : Int) != (m.length : Int)) = true := bne_iff_ne.mpr (by omega)
    have HN := Aside0.mk hn
    clear hn
    go_enter Try.func20, Try.ntmps20
    go_wp2
    go_ret
    exact ⟨ret_bool (by rw [decide_eq_false (fun h => HN.out (by rw [h]))]), Below.refl _ _⟩
set_option maxHeartbeats 2000000 in
set_option maxRecDepth 100000 in
theorem ref25_SamePred (A : Option Addr) (c : Nat) (x : Pr) (B : Option Addr) (d : Nat) (y : Pr) (w : World) (hl : RS kGate w A c x.f0) (hm : RS kGate w B d y.f0) :
    Calls Try.prog 82 #[pv A c x, pv B d y] w fun e w' => e = .returned (.bool (decide (x = y))) ∧ Below w.heap.size w w' := by
  obtain ⟨l, xl⟩ := x
  obtain ⟨m, yl⟩ := y
  dsimp only at *
  have HL := Aside0.mk hl
  have HM := Aside0.mk hm
  have HX0 := Aside0.mk hl.max
  clear hl hm
  have hu29 := Try.underlying31
  have hu93 := Try.underlying92
  have e0 : decide ((⟨l, xl⟩ : Pr) = ⟨m, yl⟩) = (decide (xl = yl) && decide (l = m)) := by
    rw [Bool.eq_iff_iff]; simp [and_comm]
  rw [e0]
  clear e0
  by_cases hq : xl = yl
  · have hqb : (xl != yl) = false := bne_eq_false_iff_eq.mpr hq
    rw [decide_eq_true hq, Bool.true_and]
    clear hq
    by_cases hn : l.length = m.length
    · have hnb : ((l.length : Int) != (m.length : Int)) = false := bne_eq_false_iff_eq.mpr (by omega)
      have HN := Aside0.mk hn
      clear hn
      go_enter Try.func82, Try.ntmps82
      go_wp2
      go_loopg [5] l.length (fun gg s5 wr => ∃ k : Nat, s5 = .int .i64 k ∧ Aside0 (k ≤ l.length ∧ l.length - k ≤ gg) ∧ Aside0 (Below w.heap.size w wr) ∧ Aside0 (Box2 wr w.heap.size (.slice A l.length c) (.int .i64 xl) ∧ Box2 wr (w.heap.size + 1) (.slice B m.length d) (.int .i64 yl)) ∧ Aside0 (decide (l.drop k = m.drop k) = decide (l = m)))
      case atStart => exact ⟨0, rfl, ⟨by omega, by omega⟩, ⟨below_alloc (below_alloc (Below.refl _ _) _) _⟩, ⟨(Box2.new w _ _ _).below (below_alloc (Below.refl _ _) _), by simpa using Box2.new (w.alloc _) _ _ _⟩, ⟨by simp⟩⟩
      case round =>
        obtain ⟨k, rfl, HX, BW, HB, HA⟩ := hrel
        have hbl := HB.out.2.lt
        obtain ⟨⟨x0, x1⟩, ⟨y0, y1⟩⟩ := HB.out
        have HBD := Aside0.mk (fun n => And.intro (HB.out.1.below (pw_below_drewN (Below.refl _ _) n)) (HB.out.2.below (pw_below_drewN (Below.refl _ _) n)))
        by_cases hlt : k < l.length
        · have hlt2 : k < m.length := by have := HN.out; omega
          obtain ⟨ad, e1, hx, hx1⟩ := at_gate (HL.out.below BW.out).r k hlt
          obtain ⟨bd, e2, hy, hy1⟩ := at_gate (HM.out.below BW.out).r k hlt2
          cases e1
          cases e2
          have HD := HA.out
          simp only [eq_drop hlt hlt2] at HD
          have HLT := Aside0.mk hlt
          generalize l[k] = x at *
          generalize m[k] = y at *
          have HDD := Aside0.mk HD
          clear HA HD
          by_cases z : x.f0 = y.f0 ∧ x.f1 = y.f1
          · have hz0 : (x.f0 == y.f0) = true := beq_iff_eq.mpr z.1
            have hz1 : (x.f1 == y.f1) = true := beq_iff_eq.mpr z.2
            have hg0 : (x.f0 != y.f0) = false := bne_eq_false_iff_eq.mpr z.1
            have hg1 : (x.f1 != y.f1) = false := bne_eq_false_iff_eq.mpr z.2
            have HXY := Aside0.mk ((gate_eq x y).2 z)
            clear z
            go_wp2
            go_quiet (fail)
            go_wp2
            go_roundg (l.length - (k + 1))
            case measure => have := HX.out; have := HLT.out; omega
            case rel => exact ⟨k + 1, val_step HLT.out HX0.out, ⟨HLT.out, by have := HX.out; omega⟩, ⟨pw_below_drewN BW.out _⟩, ⟨HBD.out _⟩, ⟨by rw [← HDD.out]; simp [HXY.out]⟩⟩
          · have HXY := Aside0.mk (show decide (x = y ∧ l.drop (k + 1) = m.drop (k + 1)) = false from decide_eq_false (fun h => z ((gate_eq x y).1 h.1)))
            have hzz : (x.f0 == y.f0 && x.f1 == y.f1) = false := by
              rw [Bool.eq_false_iff]; intro h; simp at h; exact z h
            clear z
            cases hz0 : (x.f0 == y.f0) with
            | false =>
              go_wp2
              go_quiet (fail)
              go_wp2
              go_ret
              exact ⟨ret_bool (by rw [← HDD.out, HXY.out]), pw_below_drewN BW.out _⟩
            | true =>
              have hz1 : (x.f1 == y.f1) = false := by rw [hz0, Bool.true_and] at hzz; exact hzz
              clear hzz
              go_wp2
              go_quiet (fail)
              go_wp2
              go_ret
              exact ⟨ret_bool (by rw [← HDD.out, HXY.out]), pw_below_drewN BW.out _⟩
        · have HE : k = l.length := by have := HX.out.1; omega
          have HD := HA.out
          rw [HE, List.drop_length, show m.drop l.length = [] by rw [HN.out, List.drop_length]] at HD
          have HDD := Aside0.mk HD
          clear HD HE HA
          go_wp2
          go_ret
          exact ⟨ret_bool (by rw [← HDD.out]; simp), BW.out⟩
    · have hnb : ((l.length : Int) != (m.length : Int)) = true := bne_iff_ne.mpr (by omega)
      have HN := Aside0.mk hn
      clear hn
      go_enter Try.func82, Try.ntmps82
      go_wp2
      go_ret
      exact ⟨ret_bool (by rw [decide_eq_false (fun h => HN.out (by rw [h]))]), below_alloc (below_alloc (Below.refl _ _) _) _⟩
  · have hqb : (xl != yl) = true := bne_iff_ne.mpr hq
    rw [decide_eq_false hq, Bool.false_and]
    clear hq
    go_enter Try.func82, Try.ntmps82
    go_wp2
    go_ret
    exact ⟨rfl, below_alloc (below_alloc (Below.refl _ _) _) _⟩
structure Two7 (w wr : World) (r s : LP) (x y : Lf) : Prop where
  b : Below w.heap.size w wr
  x : Box7 wr w.heap.size (.int .i64 x.f0) (.int .i64 x.f1) (.slice r.A2 x.f2.length r.c2) (.slice r.A3 x.f3.length r.c3) (.slice r.A4 x.f4.length r.c4) (.slice r.A5 x.f5.f0.length r.c5) (.int .i64 x.f5.f1)
  y : Box7 wr (w.heap.size + 1) (.int .i64 y.f0) (.int .i64 y.f1) (.slice s.A2 y.f2.length s.c2) (.slice s.A3 y.f3.length s.c3) (.slice s.A4 y.f4.length s.c4) (.slice s.A5 y.f5.f0.length s.c5) (.int .i64 y.f5.f1)
theorem Two7.below {w wr w2 : World} {r s : LP} {x y : Lf} (h : Two7 w wr r s x y) (hb : Below wr.heap.size wr w2) : Two7 w w2 r s x y := ⟨h.b.trans (hb.mono h.b.size), h.x.below hb, h.y.below hb⟩
theorem Two7.new {w : World} {r s : LP} {x y : Lf} {t1 t2 : TypeId} : Two7 w ((w.alloc (.cells #[.int .i64 x.f0, .int .i64 x.f1, .slice r.A2 x.f2.length r.c2, .slice r.A3 x.f3.length r.c3, .slice r.A4 x.f4.length r.c4, .slice r.A5 x.f5.f0.length r.c5, .int .i64 x.f5.f1] t1)).alloc (.cells #[.int .i64 y.f0, .int .i64 y.f1, .slice s.A2 y.f2.length s.c2, .slice s.A3 y.f3.length s.c3, .slice s.A4 y.f4.length s.c4, .slice s.A5 y.f5.f0.length s.c5, .int .i64 y.f5.f1] t2)) r s x y :=
  ⟨below_alloc (below_alloc (Below.refl _ _) _) _, (Box7.new w _ _ _ _ _ _ _ _).below (below_alloc (Below.refl _ _) _), by simpa using Box7.new (w.alloc _) _ _ _ _ _ _ _ _⟩
theorem lift_eq (x y : Lf) : x = y ↔ x.f0 = y.f0 ∧ x.f1 = y.f1 ∧ x.f2 = y.f2 ∧ x.f4 = y.f4 ∧ x.f3.length = y.f3.length ∧ x.f5 = y.f5 ∧ x.f3 = y.f3 := by
  cases x; cases y; simp only [Lf.mk.injEq]
  constructor
  · rintro ⟨rfl, rfl, rfl, rfl, rfl, rfl⟩; simp
  · rintro ⟨rfl, rfl, rfl, rfl, _, rfl, rfl⟩; simp
set_option maxHeartbeats 4000000 in
set_option maxRecDepth 100000 in
theorem ref25_SameLift (r s : LP) (x y : Lf) (w : World) (hr : RL w r x) (hs : RL w s y) :
    Calls Try.prog 46 #[lv r x, lv s y] w fun e w' => e = .returned (.bool (decide (x = y))) ∧ Below w.heap.size w w' := by
  obtain ⟨A2, k2, A3, k3, A4, k4, A5, k5⟩ := r
  obtain ⟨B2, m2, B3, m3, B4, m4, B5, m5⟩ := s
  obtain ⟨s2, s3, s4, s5⟩ := hr
  obtain ⟨u2, u3, u4, u5⟩ := hs
  dsimp only at s2 s3 s4 s5 u2 u3 u4 u5
  have HS2 := Aside0.mk s2
  have HS3 := Aside0.mk s3
  have HS4 := Aside0.mk s4
  have HS5 := Aside0.mk s5
  have HU2 := Aside0.mk u2
  have HU3 := Aside0.mk u3
  have HU4 := Aside0.mk u4
  have HU5 := Aside0.mk u5
  have hu31 := Try.underlying33
  obtain ⟨R, hR⟩ : ∃ b, decide (x = y) = b := ⟨_, rfl⟩
  rw [hR]
  have HR := Aside0.mk (show decide (x.f0 = y.f0 ∧ x.f1 = y.f1 ∧ x.f2 = y.f2 ∧ x.f4 = y.f4 ∧ x.f3.length = y.f3.length ∧ x.f5 = y.f5 ∧ x.f3 = y.f3) = R by rw [← hR]; exact decide_eq_decide.2 (lift_eq x y).symm)
  clear s2 s3 s4 s5 u2 u3 u4 u5 hR
  by_cases q0 : x.f0 = y.f0
  case neg =>
    have q0b : (x.f0 != y.f0) = true := bne_iff_ne.mpr q0
    have HR1 := Aside0.mk (show false = R by rw [← HR.out, decide_eq_false (fun h => q0 h.1)])
    clear q0 HR
    go_enter Try.func46, Try.ntmps46
    go_wp2
    go_ret
    exact ⟨ret_bool HR1.out, below_alloc (below_alloc (Below.refl _ _) _) _⟩
  have q0b : (x.f0 != y.f0) = false := bne_eq_false_iff_eq.mpr q0
  by_cases q1 : x.f1 = y.f1
  case neg =>
    have q1b : (x.f1 != y.f1) = true := bne_iff_ne.mpr q1
    have HR1 := Aside0.mk (show false = R by rw [← HR.out, decide_eq_false (fun h => q1 h.2.1)])
    clear q0 q1 HR
    go_enter Try.func46, Try.ntmps46
    go_wp2
    go_ret
    exact ⟨ret_bool HR1.out, below_alloc (below_alloc (Below.refl _ _) _) _⟩
  have q1b : (x.f1 != y.f1) = false := bne_eq_false_iff_eq.mpr q1
  have HR1 := Aside0.mk (show decide (x.f2 = y.f2 ∧ x.f4 = y.f4 ∧ x.f3.length = y.f3.length ∧ x.f5 = y.f5 ∧ x.f3 = y.f3) = R by rw [← HR.out]; simp [q0, q1])
  clear q0 q1 HR
  have T0 := Aside0.mk (Two7.new (w := w) (r := ⟨A2, k2, A3, k3, A4, k4, A5, k5⟩) (s := ⟨B2, m2, B3, m3, B4, m4, B5, m5⟩) (x := x) (y := y) (t1 := 33) (t2 := 33))
  go_enter Try.func46, Try.ntmps46
  go_wp2_with fail
  refine (ref02_SameInts A2 k2 x.f2 B2 m2 y.f2 _ (HS2.out.below T0.out.b) (HU2.out.below T0.out.b)).mono ?_
  rintro e w1 ⟨rfl, hb1⟩
  have T1 := Aside0.mk (T0.out.below hb1)
  clear hb1 T0
  by_cases q2 : x.f2 = y.f2
  case neg =>
    rw [decide_eq_false q2]
    have HR2 := Aside0.mk (show false = R by rw [← HR1.out, decide_eq_false (fun h => q2 h.1)])
    clear q2
    go_wp2
    go_ret
    exact ⟨ret_bool HR2.out, T1.out.b⟩
  rw [decide_eq_true q2]
  have HR2 := Aside0.mk (show decide (x.f4 = y.f4 ∧ x.f3.length = y.f3.length ∧ x.f5 = y.f5 ∧ x.f3 = y.f3) = R by rw [← HR1.out]; simp [q2])
  clear q2 HR1
  obtain ⟨x0, x1, x2, x3, x4, x5, x6⟩ := T1.out.x
  obtain ⟨y0, y1, y2, y3, y4, y5, y6⟩ := T1.out.y
  go_wp2_with fail
  refine (ref02_SameInts A4 k4 x.f4 B4 m4 y.f4 _ (HS4.out.below T1.out.b) (HU4.out.below T1.out.b)).mono ?_
  rintro e w2 ⟨rfl, hb2⟩
  have T2 := Aside0.mk (T1.out.below hb2)
  clear hb2 T1 x0 x1 x2 x3 x4 x5 x6 y0 y1 y2 y3 y4 y5 y6
  by_cases q3 : x.f4 = y.f4
  case neg =>
    rw [decide_eq_false q3]
    have HR3 := Aside0.mk (show false = R by rw [← HR2.out, decide_eq_false (fun h => q3 h.1)])
    clear q3
    go_wp2
    go_ret
    exact ⟨ret_bool HR3.out, T2.out.b⟩
  rw [decide_eq_true q3]
  have HR3 := Aside0.mk (show decide (x.f3.length = y.f3.length ∧ x.f5 = y.f5 ∧ x.f3 = y.f3) = R by rw [← HR2.out]; simp [q3])
  clear q3 HR2
  obtain ⟨x0, x1, x2, x3, x4, x5, x6⟩ := T2.out.x
  obtain ⟨y0, y1, y2, y3, y4, y5, y6⟩ := T2.out.y
  by_cases q4 : x.f3.length = y.f3.length
  case neg =>
    have q4b : ((x.f3.length : Int) != (y.f3.length : Int)) = true := bne_iff_ne.mpr (by omega)
    have HR4 := Aside0.mk (show false = R by rw [← HR3.out, decide_eq_false (fun h => q4 h.1)])
    clear q4
    go_wp2
    go_ret
    exact ⟨ret_bool HR4.out, T2.out.b⟩
  have q4b : ((x.f3.length : Int) != (y.f3.length : Int)) = false := bne_eq_false_iff_eq.mpr (by omega)
  have HR4 := Aside0.mk (show decide (x.f5 = y.f5 ∧ x.f3 = y.f3) = R by rw [← HR3.out]; simp [q4])
  have HN := Aside0.mk q4
  clear q4 HR3
  go_wp2_with fail
  refine (ref25_SamePred A5 k5 x.f5 B5 m5 y.f5 _ (HS5.out.below T2.out.b) (HU5.out.below T2.out.b)).mono ?_
  rintro e w3 ⟨rfl, hb3⟩
  have T3 := Aside0.mk (T2.out.below hb3)
  clear hb3 T2 x0 x1 x2 x3 x4 x5 x6 y0 y1 y2 y3 y4 y5 y6
  by_cases q5 : x.f5 = y.f5
  case neg =>
    rw [decide_eq_false q5]
    have HR5 := Aside0.mk (show false = R by rw [← HR4.out, decide_eq_false (fun h => q5 h.1)])
    clear q5
    go_wp2
    go_ret
    exact ⟨ret_bool HR5.out, T3.out.b⟩
  rw [decide_eq_true q5]
  have HR5 := Aside0.mk (show decide (x.f3 = y.f3) = R by rw [← HR4.out]; simp [q5])
  clear q5 HR4
  go_wp2
  have HM := Aside0.mk HS3.out.max
  go_loopg [5] x.f3.length (fun gg s5 wr => ∃ k : Nat, s5 = .int .i64 k ∧ Aside0 (k ≤ x.f3.length ∧ x.f3.length - k ≤ gg) ∧ Aside0 (Two7 w wr ⟨A2, k2, A3, k3, A4, k4, A5, k5⟩ ⟨B2, m2, B3, m3, B4, m4, B5, m5⟩ x y) ∧ Aside0 (decide (x.f3.drop k = y.f3.drop k) = R))
  case atStart => exact ⟨0, rfl, ⟨by omega, by omega⟩, T3, ⟨by simpa using HR5.out⟩⟩
  case round =>
    obtain ⟨k, rfl, HX, T, HA⟩ := hrel
    obtain ⟨x0, x1, x2, x3, x4, x5, x6⟩ := T.out.x
    obtain ⟨y0, y1, y2, y3, y4, y5, y6⟩ := T.out.y
    by_cases hlt : k < x.f3.length
    · have hlt2 : k < y.f3.length := by have := HN.out; omega
      obtain ⟨ad, P, cp, e1, hx, hP⟩ := at_row (HS3.out.below T.out.b).r k hlt
      obtain ⟨bd, Q, cq, e2, hy, hQ⟩ := at_row (HU3.out.below T.out.b).r k hlt2
      cases e1
      cases e2
      have HD := HA.out
      simp only [eq_drop hlt hlt2] at HD
      have HLT := Aside0.mk hlt
      generalize x.f3[k] = xr at *
      generalize y.f3[k] = yr at *
      have HDD := Aside0.mk HD
      have HPP := Aside0.mk hP
      have HQQ := Aside0.mk hQ
      clear HA HD hP hQ
      go_wp2
      go_region_held3 (fun w' => w'.cell? ⟨w.heap.size, 3, none⟩ = some (.slice (some ad) x.f3.length k3) ∧ w'.cell? ⟨w.heap.size + 1, 3, none⟩ = some (.slice (some bd) y.f3.length m3) ∧ w'.cell? (ad.add k) = some (.slice P xr.length cp) ∧ w'.cell? (bd.add k) = some (.slice Q yr.length cq))
        (first | go_keep | (go_split_ands; refine ⟨?_, ?_, ?_, ?_⟩ <;> (refine pw_cell_below hb5 ?_; assumption)))
        (first | (go_at_call 20; refine (ref02_SameInts P cp xr Q cq yr _ (HPP.out.below (below_drew (Below.refl _ _))) (HQQ.out.below (below_drew (Below.refl _ _)))).mono ?_; rintro e w5 ⟨rfl, hb5⟩))
      have T5 := Aside0.mk ((T.out.below (below_drew (Below.refl _ _))).below hb5)
      clear hb5
      by_cases z : xr = yr
      · rw [decide_eq_true z]
        have HZ := Aside0.mk z
        clear z
        go_wp2
        go_roundg (x.f3.length - (k + 1))
        case measure => have := HX.out; have := HLT.out; omega
        case rel => exact ⟨k + 1, val_step HLT.out HM.out, ⟨HLT.out, by have := HX.out; omega⟩, T5, ⟨by rw [← HDD.out]; simp [HZ.out]⟩⟩
      · rw [decide_eq_false z]
        have HZ := Aside0.mk (show false = R by rw [← HDD.out, decide_eq_false (fun h => z h.1)])
        clear z
        go_wp2
        go_ret
        exact ⟨ret_bool HZ.out, T5.out.b⟩
    · have HE : k = x.f3.length := by have := HX.out.1; omega
      have HD := HA.out
      rw [HE, List.drop_length, show y.f3.drop x.f3.length = [] by rw [HN.out, List.drop_length]] at HD
      have HDD := Aside0.mk (show true = R by rw [← HD]; simp)
      clear HD HE HA
      go_wp2
      go_ret
      exact ⟨ret_bool HDD.out, T.out.b⟩
end Go.Proofs.Ytpoadkogcdfglaa.PH
