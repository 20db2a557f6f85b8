/- ref25.Joined. -/
import Derived.Test.YtlhiapggccgggaaHCompose
import Derived.Test.YtlhiapggccgggaaHTrans3
namespace Go.Proofs.Ytlhiapggccgggaa.PH
open Go.RowKit Go.Proofs.YtlhiapggccgggaaW.PrintWords Go.Proofs.YtlhiapggccgggaaW.PrintLast
set_option linter.unusedVariables false
set_option linter.unusedSimpArgs false

/-- A lift of the call's own and an error: its rows lie in new blocks. -/
def RetLS (w w' : World) (l : Lf) (n : Int) (e : Ending) : Prop := ∃ p, e = .returned (.tuple #[lv p l, .int .i64 n]) ∧ (∀ W : World, (∀ k, w.heap.size ≤ k → k < w'.heap.size → W.heap[k]? = w'.heap[k]?) → RL W p l) ∧ Below w.heap.size w w'
set_option maxHeartbeats 16000000 in
set_option maxRecDepth 100000 in
theorem ref25_Joined (p q : CP) (fr md tc : Circ) (r s : LP) (a b : Lf) (w : World) (hr : RL w r a) (hs : RL w s b) (fa : a.Fits) (fb : b.Fits) (sb : b.f5.f0.length ≤ 300) (sf : fr.f1.length ≤ 60) (c1 : check fr = 0) (c2 : check md = 0) (c3 : check tc = 0) (oa : LOk fr md a) (ob : LOk md tc b) :
    Calls Try.prog 46 #[cv p fr, cv q md, lv r a, lv s b] w fun e w' => RetLS w w' (joinC fr md a b).1 (joinC fr md a b).2 e := by
  obtain ⟨P1, p1, P2, p2, P3, p3, P4, p4⟩ := p
  obtain ⟨M1, m1, M2, m2, M3, m3, M4, m4⟩ := q
  obtain ⟨A2, a2, A3, a3, A4, a4, A5, a5⟩ := r
  obtain ⟨B2, b2, B3, b3, B4, b4, B5, b5⟩ := s
  have HRA := Aside0.mk hr
  have HRB := Aside0.mk hs
  have FA := Aside0.mk fa
  have FB := Aside0.mk fb
  have SB := Aside0.mk sb
  have SF := Aside0.mk sf
  have HOA := Aside0.mk oa
  have HOB := Aside0.mk ob
  have HC3 := Aside0.mk (show check fr = 0 ∧ check md = 0 ∧ check tc = 0 from ⟨c1, c2, c3⟩)
  have hu26 := Try.underlying26
  have hu31 := Try.underlying31
  have hu24 := Try.underlying29
  obtain ⟨R, hR⟩ : ∃ R, joinC fr md a b = R := ⟨_, rfl⟩
  rw [hR]
  have HRJ := Aside0.mk hR
  clear hr hs fa fb sb sf oa ob c1 c2 c3 hR
  dsimp only [lv, cv] at *
  have J : Aside0 (JBx (w.heap.size) (w.heap.size + 1) (w.heap.size + 1 + 1) (w.heap.size + 1 + 1 + 1) (w.heap.size + 1 + 1 + 1 + 1) ⟨P1, p1, P2, p2, P3, p3, P4, p4⟩ fr ⟨M1, m1, M2, m2, M3, m3, M4, m4⟩ md ⟨A2, a2, A3, a3, A4, a4, A5, a5⟩ a ⟨B2, b2, B3, b3, B4, b4, B5, b5⟩ b (((((w.alloc (.cells #[.int .i64 fr.f0, .slice P1 fr.f1.length p1, .slice P2 fr.f2.length p2, .slice P3 fr.f3.length p3, .slice P4 fr.f4.length p4] 26)).alloc (.cells #[.int .i64 md.f0, .slice M1 md.f1.length m1, .slice M2 md.f2.length m2, .slice M3 md.f3.length m3, .slice M4 md.f4.length m4] 26)).alloc (.cells #[.int .i64 a.f0, .int .i64 a.f1, .slice A2 a.f2.length a2, .slice A3 a.f3.length a3, .slice A4 a.f4.length a4, .slice A5 a.f5.f0.length a5, .int .i64 a.f5.f1] 31)).alloc (.cells #[.int .i64 b.f0, .int .i64 b.f1, .slice B2 b.f2.length b2, .slice B3 b.f3.length b3, .slice B4 b.f4.length b4, .slice B5 b.f5.f0.length b5, .int .i64 b.f5.f1] 31)).alloc (.cells #[.int .i64 0, .int .i64 0, .slice none 0 0, .slice none 0 0, .slice none 0 0, .slice none 0 0, .int .i64 0] 31))) := by
    have e0 : (w.alloc (.cells #[.int .i64 fr.f0, .slice P1 fr.f1.length p1, .slice P2 fr.f2.length p2, .slice P3 fr.f3.length p3, .slice P4 fr.f4.length p4] 26)).heap[w.heap.size]? = some (.cells #[.int .i64 fr.f0, .slice P1 fr.f1.length p1, .slice P2 fr.f2.length p2, .slice P3 fr.f3.length p3, .slice P4 fr.f4.length p4] 26 (0, 0)) := by simpa using blk_new w (.cells #[.int .i64 fr.f0, .slice P1 fr.f1.length p1, .slice P2 fr.f2.length p2, .slice P3 fr.f3.length p3, .slice P4 fr.f4.length p4] 26)
    have e1 : ((w.alloc (.cells #[.int .i64 fr.f0, .slice P1 fr.f1.length p1, .slice P2 fr.f2.length p2, .slice P3 fr.f3.length p3, .slice P4 fr.f4.length p4] 26)).alloc (.cells #[.int .i64 md.f0, .slice M1 md.f1.length m1, .slice M2 md.f2.length m2, .slice M3 md.f3.length m3, .slice M4 md.f4.length m4] 26)).heap[w.heap.size + 1]? = some (.cells #[.int .i64 md.f0, .slice M1 md.f1.length m1, .slice M2 md.f2.length m2, .slice M3 md.f3.length m3, .slice M4 md.f4.length m4] 26 (0, 0)) := by simpa using blk_new (w.alloc (.cells #[.int .i64 fr.f0, .slice P1 fr.f1.length p1, .slice P2 fr.f2.length p2, .slice P3 fr.f3.length p3, .slice P4 fr.f4.length p4] 26)) (.cells #[.int .i64 md.f0, .slice M1 md.f1.length m1, .slice M2 md.f2.length m2, .slice M3 md.f3.length m3, .slice M4 md.f4.length m4] 26)
    have e2 : (((w.alloc (.cells #[.int .i64 fr.f0, .slice P1 fr.f1.length p1, .slice P2 fr.f2.length p2, .slice P3 fr.f3.length p3, .slice P4 fr.f4.length p4] 26)).alloc (.cells #[.int .i64 md.f0, .slice M1 md.f1.length m1, .slice M2 md.f2.length m2, .slice M3 md.f3.length m3, .slice M4 md.f4.length m4] 26)).alloc (.cells #[.int .i64 a.f0, .int .i64 a.f1, .slice A2 a.f2.length a2, .slice A3 a.f3.length a3, .slice A4 a.f4.length a4, .slice A5 a.f5.f0.length a5, .int .i64 a.f5.f1] 31)).heap[w.heap.size + 1 + 1]? = some (.cells #[.int .i64 a.f0, .int .i64 a.f1, .slice A2 a.f2.length a2, .slice A3 a.f3.length a3, .slice A4 a.f4.length a4, .slice A5 a.f5.f0.length a5, .int .i64 a.f5.f1] 31 (0, 0)) := by simpa using blk_new ((w.alloc (.cells #[.int .i64 fr.f0, .slice P1 fr.f1.length p1, .slice P2 fr.f2.length p2, .slice P3 fr.f3.length p3, .slice P4 fr.f4.length p4] 26)).alloc (.cells #[.int .i64 md.f0, .slice M1 md.f1.length m1, .slice M2 md.f2.length m2, .slice M3 md.f3.length m3, .slice M4 md.f4.length m4] 26)) (.cells #[.int .i64 a.f0, .int .i64 a.f1, .slice A2 a.f2.length a2, .slice A3 a.f3.length a3, .slice A4 a.f4.length a4, .slice A5 a.f5.f0.length a5, .int .i64 a.f5.f1] 31)
    have e3 : ((((w.alloc (.cells #[.int .i64 fr.f0, .slice P1 fr.f1.length p1, .slice P2 fr.f2.length p2, .slice P3 fr.f3.length p3, .slice P4 fr.f4.length p4] 26)).alloc (.cells #[.int .i64 md.f0, .slice M1 md.f1.length m1, .slice M2 md.f2.length m2, .slice M3 md.f3.length m3, .slice M4 md.f4.length m4] 26)).alloc (.cells #[.int .i64 a.f0, .int .i64 a.f1, .slice A2 a.f2.length a2, .slice A3 a.f3.length a3, .slice A4 a.f4.length a4, .slice A5 a.f5.f0.length a5, .int .i64 a.f5.f1] 31)).alloc (.cells #[.int .i64 b.f0, .int .i64 b.f1, .slice B2 b.f2.length b2, .slice B3 b.f3.length b3, .slice B4 b.f4.length b4, .slice B5 b.f5.f0.length b5, .int .i64 b.f5.f1] 31)).heap[w.heap.size + 1 + 1 + 1]? = some (.cells #[.int .i64 b.f0, .int .i64 b.f1, .slice B2 b.f2.length b2, .slice B3 b.f3.length b3, .slice B4 b.f4.length b4, .slice B5 b.f5.f0.length b5, .int .i64 b.f5.f1] 31 (0, 0)) := by simpa using blk_new (((w.alloc (.cells #[.int .i64 fr.f0, .slice P1 fr.f1.length p1, .slice P2 fr.f2.length p2, .slice P3 fr.f3.length p3, .slice P4 fr.f4.length p4] 26)).alloc (.cells #[.int .i64 md.f0, .slice M1 md.f1.length m1, .slice M2 md.f2.length m2, .slice M3 md.f3.length m3, .slice M4 md.f4.length m4] 26)).alloc (.cells #[.int .i64 a.f0, .int .i64 a.f1, .slice A2 a.f2.length a2, .slice A3 a.f3.length a3, .slice A4 a.f4.length a4, .slice A5 a.f5.f0.length a5, .int .i64 a.f5.f1] 31)) (.cells #[.int .i64 b.f0, .int .i64 b.f1, .slice B2 b.f2.length b2, .slice B3 b.f3.length b3, .slice B4 b.f4.length b4, .slice B5 b.f5.f0.length b5, .int .i64 b.f5.f1] 31)
    have e4 : (((((w.alloc (.cells #[.int .i64 fr.f0, .slice P1 fr.f1.length p1, .slice P2 fr.f2.length p2, .slice P3 fr.f3.length p3, .slice P4 fr.f4.length p4] 26)).alloc (.cells #[.int .i64 md.f0, .slice M1 md.f1.length m1, .slice M2 md.f2.length m2, .slice M3 md.f3.length m3, .slice M4 md.f4.length m4] 26)).alloc (.cells #[.int .i64 a.f0, .int .i64 a.f1, .slice A2 a.f2.length a2, .slice A3 a.f3.length a3, .slice A4 a.f4.length a4, .slice A5 a.f5.f0.length a5, .int .i64 a.f5.f1] 31)).alloc (.cells #[.int .i64 b.f0, .int .i64 b.f1, .slice B2 b.f2.length b2, .slice B3 b.f3.length b3, .slice B4 b.f4.length b4, .slice B5 b.f5.f0.length b5, .int .i64 b.f5.f1] 31)).alloc (.cells #[.int .i64 0, .int .i64 0, .slice none 0 0, .slice none 0 0, .slice none 0 0, .slice none 0 0, .int .i64 0] 31)).heap[w.heap.size + 1 + 1 + 1 + 1]? = some (.cells #[.int .i64 0, .int .i64 0, .slice none 0 0, .slice none 0 0, .slice none 0 0, .slice none 0 0, .int .i64 0] 31 (0, 0)) := by simpa using blk_new ((((w.alloc (.cells #[.int .i64 fr.f0, .slice P1 fr.f1.length p1, .slice P2 fr.f2.length p2, .slice P3 fr.f3.length p3, .slice P4 fr.f4.length p4] 26)).alloc (.cells #[.int .i64 md.f0, .slice M1 md.f1.length m1, .slice M2 md.f2.length m2, .slice M3 md.f3.length m3, .slice M4 md.f4.length m4] 26)).alloc (.cells #[.int .i64 a.f0, .int .i64 a.f1, .slice A2 a.f2.length a2, .slice A3 a.f3.length a3, .slice A4 a.f4.length a4, .slice A5 a.f5.f0.length a5, .int .i64 a.f5.f1] 31)).alloc (.cells #[.int .i64 b.f0, .int .i64 b.f1, .slice B2 b.f2.length b2, .slice B3 b.f3.length b3, .slice B4 b.f4.length b4, .slice B5 b.f5.f0.length b5, .int .i64 b.f5.f1] 31)) (.cells #[.int .i64 0, .int .i64 0, .slice none 0 0, .slice none 0 0, .slice none 0 0, .slice none 0 0, .int .i64 0] 31)
    exact ⟨⟨(blk_alloc (blk_alloc (blk_alloc (blk_alloc e0 _) _) _) _), (blk_alloc (blk_alloc (blk_alloc e1 _) _) _), (blk_alloc (blk_alloc e2 _) _), (blk_alloc e3 _), e4⟩⟩
  have BW := Aside0.mk (show Below w.heap.size w (((((w.alloc (.cells #[.int .i64 fr.f0, .slice P1 fr.f1.length p1, .slice P2 fr.f2.length p2, .slice P3 fr.f3.length p3, .slice P4 fr.f4.length p4] 26)).alloc (.cells #[.int .i64 md.f0, .slice M1 md.f1.length m1, .slice M2 md.f2.length m2, .slice M3 md.f3.length m3, .slice M4 md.f4.length m4] 26)).alloc (.cells #[.int .i64 a.f0, .int .i64 a.f1, .slice A2 a.f2.length a2, .slice A3 a.f3.length a3, .slice A4 a.f4.length a4, .slice A5 a.f5.f0.length a5, .int .i64 a.f5.f1] 31)).alloc (.cells #[.int .i64 b.f0, .int .i64 b.f1, .slice B2 b.f2.length b2, .slice B3 b.f3.length b3, .slice B4 b.f4.length b4, .slice B5 b.f5.f0.length b5, .int .i64 b.f5.f1] 31)).alloc (.cells #[.int .i64 0, .int .i64 0, .slice none 0 0, .slice none 0 0, .slice none 0 0, .slice none 0 0, .int .i64 0] 31)) ∧ w.heap.size + 5 ≤ (((((w.alloc (.cells #[.int .i64 fr.f0, .slice P1 fr.f1.length p1, .slice P2 fr.f2.length p2, .slice P3 fr.f3.length p3, .slice P4 fr.f4.length p4] 26)).alloc (.cells #[.int .i64 md.f0, .slice M1 md.f1.length m1, .slice M2 md.f2.length m2, .slice M3 md.f3.length m3, .slice M4 md.f4.length m4] 26)).alloc (.cells #[.int .i64 a.f0, .int .i64 a.f1, .slice A2 a.f2.length a2, .slice A3 a.f3.length a3, .slice A4 a.f4.length a4, .slice A5 a.f5.f0.length a5, .int .i64 a.f5.f1] 31)).alloc (.cells #[.int .i64 b.f0, .int .i64 b.f1, .slice B2 b.f2.length b2, .slice B3 b.f3.length b3, .slice B4 b.f4.length b4, .slice B5 b.f5.f0.length b5, .int .i64 b.f5.f1] 31)).alloc (.cells #[.int .i64 0, .int .i64 0, .slice none 0 0, .slice none 0 0, .slice none 0 0, .slice none 0 0, .int .i64 0] 31)).heap.size from ⟨below_alloc (below_alloc (below_alloc (below_alloc (below_alloc (Below.refl _ _) _) _) _) _) _, by simp⟩)
  go_enter Try.func46, Try.ntmps46
  go_upto_region 1 with (fail)
  generalize (((((w.alloc (.cells #[.int .i64 fr.f0, .slice P1 fr.f1.length p1, .slice P2 fr.f2.length p2, .slice P3 fr.f3.length p3, .slice P4 fr.f4.length p4] 26)).alloc (.cells #[.int .i64 md.f0, .slice M1 md.f1.length m1, .slice M2 md.f2.length m2, .slice M3 md.f3.length m3, .slice M4 md.f4.length m4] 26)).alloc (.cells #[.int .i64 a.f0, .int .i64 a.f1, .slice A2 a.f2.length a2, .slice A3 a.f3.length a3, .slice A4 a.f4.length a4, .slice A5 a.f5.f0.length a5, .int .i64 a.f5.f1] 31)).alloc (.cells #[.int .i64 b.f0, .int .i64 b.f1, .slice B2 b.f2.length b2, .slice B3 b.f3.length b3, .slice B4 b.f4.length b4, .slice B5 b.f5.f0.length b5, .int .i64 b.f5.f1] 31)).alloc (.cells #[.int .i64 0, .int .i64 0, .slice none 0 0, .slice none 0 0, .slice none 0 0, .slice none 0 0, .int .i64 0] 31)) = w5 at *
  have HSK := Aside0.mk (sk_bound HOA.out HOB.out)
  have hwS : wrap64 (a.f0 + wrap64 (a.f1 * b.f0)) = sk a b := by
    have h1 := HSK.out; have h2 := HOA.out.s0; have h3 := HOA.out.s1
    unfold sk ph at *
    rw [wrap_in (x := a.f1 * b.f0) (by omega) (by omega), wrap_in (by omega) (by omega)]
  have hwP : wrap64 (a.f1 * b.f1) = ph a b := by
    have h1 := HSK.out
    unfold sk ph at *
    rw [wrap_in (by omega) (by omega)]
  have G0 := Aside0.mk (Stg.start (T := 31) (n0 := w.heap.size + 5) (cells := #[.int .i64 (sk a b), .int .i64 (ph a b), .slice none 0 0, .slice none 0 0, .slice none 0 0, .slice none 0 0, .int .i64 0]) (Kd.int .i64) 3 BW.out.1 (by omega) BW.out.2 (J.out.held (S := fun k => k < w.heap.size + 5) (by omega) (by omega) (by omega) (by omega) (by omega)))
  obtain ⟨⟨r0, r1, r2, r3, r4, r5, r6⟩, z0, z1, z2, z3, z4, z5, z6⟩ := blk7 J.out.2.2.1
  obtain ⟨⟨s0, s1, s2, s3, s4, s5, s6⟩, x0, x1, x2, x3, x4, x5, x6⟩ := blk7 J.out.2.2.2.1
  by_cases hmany : 100 < sk a b ∨ 4 < ph a b
  · have J3 := Aside0.mk (J.out.below (below_alloc (Below.refl _ _) (.cells #[.int .i64 (sk a b), .int .i64 (ph a b), .slice none 0 0, .slice none 0 0, .slice none 0 0, .slice none 0 0, .int .i64 0] 31)))
    have BW3 := Aside0.mk (below_alloc BW.out.1 (.cells #[.int .i64 (sk a b), .int .i64 (ph a b), .slice none 0 0, .slice none 0 0, .slice none 0 0, .slice none 0 0, .int .i64 0] 31))
    have HV := Aside0.mk (show R = (zeroL, 4) by rw [← HRJ.out]; unfold joinC; rw [if_pos hmany])
    obtain ⟨⟨q0, q1, q2, q3, q4, q5, q6⟩, y0, y1, y2, y3, y4, y5, y6⟩ := blk7 J3.out.2.2.2.2
    by_cases h1 : 100 < sk a b
    · have h1d : decide (100 < sk a b) = true := decide_eq_true h1
      clear hmany h1
      go_wp2
      rw [HV.out]
      refine bodyPost_ret (results_ct rfl _ _ (w.heap.size + 1 + 1 + 1 + 1) 31 #[.int .i64 0, .int .i64 0, .slice none 0 0, .slice none 0 0, .slice none 0 0, .slice none 0 0, .int .i64 0] (0, 0) _ rfl (blk7_set J3.out.2.2.2.2 _ _ _ _ _ _ _) hu31 rfl (by kernel_rfl)) rfl ?_
      exact ⟨⟨none, 0, none, 0, none, 0, none, 0⟩, rfl, fun W _ => ⟨RS.nil _ _ _, RS.nil _ _ _, RS.nil _ _ _, RS.nil _ _ _⟩, below7 BW3.out (by omega) _ _ _ _ _ _ _⟩
    · have h1d : decide (100 < sk a b) = false := decide_eq_false h1
      have h2d : decide (4 < ph a b) = true := decide_eq_true (by omega)
      clear hmany h1
      go_wp2
      rw [HV.out]
      refine bodyPost_ret (results_ct rfl _ _ (w.heap.size + 1 + 1 + 1 + 1) 31 #[.int .i64 0, .int .i64 0, .slice none 0 0, .slice none 0 0, .slice none 0 0, .slice none 0 0, .int .i64 0] (0, 0) _ rfl (blk7_set J3.out.2.2.2.2 _ _ _ _ _ _ _) hu31 rfl (by kernel_rfl)) rfl ?_
      exact ⟨⟨none, 0, none, 0, none, 0, none, 0⟩, rfl, fun W _ => ⟨RS.nil _ _ _, RS.nil _ _ _, RS.nil _ _ _, RS.nil _ _ _⟩, below7 BW3.out (by omega) _ _ _ _ _ _ _⟩
  have h1d : decide (100 < sk a b) = false := decide_eq_false (by omega)
  have h2d : decide (4 < ph a b) = false := decide_eq_false (by omega)
  have HRN := Aside0.mk (show (if (factOf fr a b).2 ≠ 0 then (zeroL, (factOf fr a b).2) else (joined fr md a b, 0)) = R by rw [← HRJ.out]; unfold joinC; rw [if_neg hmany])
  clear hmany HRJ J BW
  have HMX := Aside0.mk HRA.out.s2.max
  obtain ⟨⟨ra0, ra1, ra2, ra3, ra4, ra5, ra6⟩, _⟩ := blk7 G0.out.HB.self.2.2.1
  go_wp2
  clear ra0 ra1 ra2 ra3 ra4 ra5 ra6
  clear r0 r1 r2 r3 r4 r5 r6 z0 z1 z2 z3 z4 z5 z6 s0 s1 s2 s3 s4 s5 s6 x0 x1 x2 x3 x4 x5 x6 hwS hwP h1d h2d
  generalize w5.heap.size = gO at *
  go_loopg [11] a.f2.length (fun gg s11 wr => ∃ (i : Nat) (V : Option Addr) (cap : Nat), s11 = .int .i64 i ∧ Aside0 (i ≤ a.f2.length ∧ a.f2.length - i ≤ gg) ∧ Aside0 (Stg w (w.heap.size + 5) (gO + 1) gO 31 (JBx (w.heap.size) (w.heap.size + 1) (w.heap.size + 1 + 1) (w.heap.size + 1 + 1 + 1) (w.heap.size + 1 + 1 + 1 + 1) ⟨P1, p1, P2, p2, P3, p3, P4, p4⟩ fr ⟨M1, m1, M2, m2, M3, m3, M4, m4⟩ md ⟨A2, a2, A3, a3, A4, a4, A5, a5⟩ a ⟨B2, b2, B3, b3, B4, b4, B5, b5⟩ b) (fun _ => True) (Kd.int .i64) 3 #[.int .i64 (sk a b), .int .i64 (ph a b), .slice V i cap, .slice none 0 0, .slice none 0 0, .slice none 0 0, .int .i64 0] V i cap ((a.f2.take i).map (joinF md b)) wr))
  case atStart => exact ⟨0, none, 0, rfl, ⟨by omega, by omega⟩, G0⟩
  case round =>
    clear G0
    obtain ⟨i, V, cap, rfl, HI, G⟩ := hrel
    obtain ⟨⟨s0, s1, s2, s3, s4, s5, s6⟩, _⟩ := blk7 G.out.HB.self.2.2.1
    by_cases hlt : i < a.f2.length
    · obtain ⟨ad, e1, hx⟩ := at_int (HRA.out.below G.out.BW).s2.r i hlt
      cases e1
      have HLT := Aside0.mk hlt
      have HMAP := Aside0.mk (show ((a.f2.take i).map (joinF md b)) ++ [joinF md b a.f2[i]] = (a.f2.take (i + 1)).map (joinF md b) by rw [take_at hlt, List.map_append]; rfl)
      have HLEN := Aside0.mk (show ((a.f2.take (i + 1)).map (joinF md b)).length = i + 1 by rw [List.length_map, List.length_take]; omega)
      have HLE0 := Aside0.mk (show ((a.f2.take i).map (joinF md b)).length = i by rw [List.length_map, List.length_take]; omega)
      have hxo := HOA.out.m2 a.f2[i] (List.getElem_mem hlt)
      have hli : (i : Int) < (a.f2.length : Int) := by omega
      have HBIG := Aside0.mk (show a.f2.length ≤ 4000000 by rw [HOA.out.n2]; have := SF.out; omega)
      generalize a.f2[i] = x at *
      obtain ⟨⟨b0_, b1_, b2_, b3_, b4_, b5_, b6_⟩, _⟩ := blk7 G.out.HB.self.2.2.2.1
      obtain ⟨d0, d1, d2, d3, d4⟩ := blk5 G.out.HB.self.2.1
      obtain ⟨⟨p0, p1_, p2_, p3_, p4_, p5_, p6_⟩, _⟩ := blk7 G.out.BO
      by_cases h1 : 1 < x
      · have h1d : decide (1 < x) = true := decide_eq_true h1
        obtain ⟨q, hq, hxq⟩ := at_latch_lit HC3.out.2.1 (show 2 * (md.f0 + 1) ≤ x ∧ x < 2 * (md.f0 + 1 + md.f1.length) by omega)
        have hqb : q < b.f2.length := by rw [HOB.out.n2]; exact hq
        obtain ⟨bd, e2, hy⟩ := at_int (HRB.out.below G.out.BW).s2.r q hqb
        cases e2
        have HJ := Aside0.mk (joinF_at HOB.out hqb hxq h1)
        have hlx := lit_isL HC3.out.2.1 (show 2 * (md.f0 + 1) ≤ x ∧ x < 2 * (md.f0 + 1 + md.f1.length) by omega)
        have hmd := gCheck_ok HC3.out.2.1
        have hwq : wrap64 (wrap64 (wrap64 (x.tdiv 2) - md.f0) - 1) = (q : Int) := by
          rw [half_of ⟨by have := hlx.1; omega, by have := hlx.2; omega⟩ hlx.1, wrap_in (x := x / 2 - md.f0) (by omega) (by omega), wrap_in (by omega) (by omega), hxq]
        have hly : IsLit b.f2[q] := by
          rcases HOB.out.m2 b.f2[q] (List.getElem_mem hqb) with e | e | e
          · rw [e]; exact ⟨by decide, by decide⟩
          · rw [e]; exact ⟨by decide, by decide⟩
          · exact lit_isL HC3.out.2.2 e
        generalize b.f2[q] = y at *
        have HLX := Aside0.mk (And.intro hly hlx)
        have hqi : (q : Int) < (b.f2.length : Int) := by omega
        clear hxo hlt h1 hxq hmd hlx hly hq hqb
        go_wp2_with fail
        refine (ref25_signed y x _ HLX.out.1.big HLX.out.2.1).mono ?_
        rintro e w5 ⟨rfl, hb_⟩
        rw [HJ.out] at HMAP
        have G5 := Aside0.mk (G.out.below hb_)
        clear hb_ G b0_ b1_ b2_ b3_ b4_ b5_ b6_ d0 d1 d2 d3 d4 p0 p1_ p2_ p3_ p4_ p5_ p6_ s0 s1 s2 s3 s4 s5 s6 hx hy HJ HLX hwq hqi
        generalize byL y x = xv at *
        obtain ⟨⟨p0, p1_, p2_, p3_, p4_, p5_, p6_⟩, _⟩ := blk7 G5.out.BO
        go_wp2_with (first | (at_builtin; refine Kd.R_append (Kd.int .i64) (w0 := w5) (W := w5) (gO + 1) rfl (.tmp 74) (.tmp 76) 24 3 (.int .i64 0) 8 rfl Try.underlying24 infoInt rfl (by decide) (by omega) (.slice V i cap) ((a.f2.take i).map (joinF md b)) (xv) [.int .i64 (xv)] (fun _ => True) (fun _ => False) rfl rfl ?aP (fun _ h => h.elim) ?aF ?aO ?aB ?aS ?aL ?_; (case aP => exact rfl); (case aF => exact fun _ _ => trivial); (case aO => exact G5.out.RV); (case aB => exact Below.refl _ _); (case aS => exact G5.out.sz); (case aL => have := HBIG.out; have := HLT.out; rw [HLE0.out]; omega); intro v1 w8 ho hb hg hat; rw [HMAP.out] at ho; obtain ⟨V8, cap8, rfl, _, _⟩ := Kd.R_reads ho; rw [HLEN.out] at ho; rw [HLEN.out]; have G8 := Aside0.mk (G5.out.app hb ho); obtain ⟨⟨o0, o1, o2, o3, o4, o5, o6⟩, y0, y1, y2, y3, y4, y5, y6⟩ := blk7 G8.out.BO; clear ho hb hg hat))
        go_roundg (a.f2.length - (i + 1))
        case measure => have := HI.out; have := HLT.out; omega
        case rel => exact ⟨i + 1, V8, cap8, val_step HLT.out HMX.out, ⟨HLT.out, by have := HI.out; omega⟩, ⟨G8.out.put (by decide) 2 _ rfl⟩⟩
      · have h1d : decide (1 < x) = false := decide_eq_false h1
        have HJ := Aside0.mk (show joinF md b x = x by unfold joinF; rw [if_neg h1])
        rw [HJ.out] at HMAP
        clear hxo hlt h1 HJ b0_ b1_ b2_ b3_ b4_ b5_ b6_ d0 d1 d2 d3 d4
        go_wp2_with (first | (at_builtin; refine Kd.R_append (Kd.int .i64) (w0 := wr) (W := wr) (gO + 1) rfl (.tmp 74) (.tmp 76) 24 3 (.int .i64 0) 8 rfl Try.underlying24 infoInt rfl (by decide) (by omega) (.slice V i cap) ((a.f2.take i).map (joinF md b)) (x) [.int .i64 (x)] (fun _ => True) (fun _ => False) rfl rfl ?aP (fun _ h => h.elim) ?aF ?aO ?aB ?aS ?aL ?_; (case aP => exact rfl); (case aF => exact fun _ _ => trivial); (case aO => exact G.out.RV); (case aB => exact Below.refl _ _); (case aS => exact G.out.sz); (case aL => have := HBIG.out; have := HLT.out; rw [HLE0.out]; omega); intro v1 w8 ho hb hg hat; rw [HMAP.out] at ho; obtain ⟨V8, cap8, rfl, _, _⟩ := Kd.R_reads ho; rw [HLEN.out] at ho; rw [HLEN.out]; have G8 := Aside0.mk (G.out.app hb ho); obtain ⟨⟨o0, o1, o2, o3, o4, o5, o6⟩, y0, y1, y2, y3, y4, y5, y6⟩ := blk7 G8.out.BO; clear ho hb hg hat))
        go_roundg (a.f2.length - (i + 1))
        case measure => have := HI.out; have := HLT.out; omega
        case rel => exact ⟨i + 1, V8, cap8, val_step HLT.out HMX.out, ⟨HLT.out, by have := HI.out; omega⟩, ⟨G8.out.put (by decide) 2 _ rfl⟩⟩
    · have hi : i = a.f2.length := by have := HI.out.1; omega
      subst hi
      have hlx : ¬ (a.f2.length : Int) < (a.f2.length : Int) := by omega
      have G1 := Aside0.mk (Stg.next (show Stg w (w.heap.size + 5) (gO + 1) gO 31 (JBx (w.heap.size) (w.heap.size + 1) (w.heap.size + 1 + 1) (w.heap.size + 1 + 1 + 1) (w.heap.size + 1 + 1 + 1 + 1) ⟨P1, p1, P2, p2, P3, p3, P4, p4⟩ fr ⟨M1, m1, M2, m2, M3, m3, M4, m4⟩ md ⟨A2, a2, A3, a3, A4, a4, A5, a5⟩ a ⟨B2, b2, B3, b3, B4, b4, B5, b5⟩ b) (fun _ => True) (Kd.int .i64) 3 #[.int .i64 (sk a b), .int .i64 (ph a b), .slice V a.f2.length cap, .slice none 0 0, .slice none 0 0, .slice none 0 0, .int .i64 0] V a.f2.length cap (a.f2.map (joinF md b)) wr from by have h_ := G.out; rw [List.take_length] at h_; exact h_) (Kd.slice 3 (Kd.int .i64)) 24)
      obtain ⟨N, hN⟩ : ∃ N : Nat, sk a b + ph a b = (N : Int) := ⟨(sk a b + ph a b).toNat, by have := HSK.out; omega⟩
      have HN := Aside0.mk hN
      clear G hN hlt
      have hwN : wrap64 (sk a b + ph a b) = (N : Int) := by rw [wrap_in (by have := HSK.out; omega) (by have := HSK.out; omega), HN.out]
      go_wp2
      clear s0 s1 s2 s3 s4 s5 s6
      generalize wr.heap.size = n1 at *
      go_loopg [13] N (fun gg s13 wr => ∃ (j : Nat) (O : Option Addr) (co : Nat), s13 = .int .i64 j ∧ Aside0 (j ≤ N ∧ N - j ≤ gg) ∧ Aside0 (Stg w (w.heap.size + 5) n1 gO 31 (JBx (w.heap.size) (w.heap.size + 1) (w.heap.size + 1 + 1) (w.heap.size + 1 + 1 + 1) (w.heap.size + 1 + 1 + 1 + 1) ⟨P1, p1, P2, p2, P3, p3, P4, p4⟩ fr ⟨M1, m1, M2, m2, M3, m3, M4, m4⟩ md ⟨A2, a2, A3, a3, A4, a4, A5, a5⟩ a ⟨B2, b2, B3, b3, B4, b4, B5, b5⟩ b) (fun W => True ∧ RS (Kd.int .i64) W V cap (a.f2.map (joinF md b))) (Kd.slice 3 (Kd.int .i64)) 24 #[.int .i64 (sk a b), .int .i64 (ph a b), .slice V a.f2.length cap, .slice O j co, .slice none 0 0, .slice none 0 0, .int .i64 0] O j co ((List.range j).map (joinRow a b)) wr))
      case atStart => exact ⟨0, none, 0, rfl, ⟨by omega, by omega⟩, G1⟩
      case round =>
        clear G1 hlx
        obtain ⟨j, O, co, rfl, HI, G⟩ := hrel
        obtain ⟨⟨p0, p1_, p2_, p3_, p4_, p5_, p6_⟩, _⟩ := blk7 G.out.BO
        by_cases hlt : j < N
        · have HLT := Aside0.mk hlt
          have hjb := at_bound HOA.out HOB.out (show (j : Int) < sk a b + ph a b by rw [HN.out]; omega)
          have HNB := Aside0.mk (show N ≤ 600 by have := HN.out; have := HSK.out; omega)
          have hws : wrap64 (a.f0 + a.f1) = a.f0 + a.f1 := by have := HOA.out.s0; have := HOA.out.s1; have := HOA.out.p0; have := HOA.out.p1; rw [wrap_in (by omega) (by omega)]
          have hji : (j : Int) < (N : Int) := by omega
          obtain ⟨⟨s0, s1, s2, s3, s4, s5, s6⟩, _⟩ := blk7 G.out.HB.self.2.2.1
          by_cases hk : a.f1 ≤ (j : Int) - a.f0
          · have hkd : decide (a.f0 + a.f1 ≤ (j : Int)) = true := decide_eq_true (by omega)
            have hk0 := HOA.out.p0
            have hk4 := HOA.out.p1
            obtain ⟨rj, hrj⟩ : ∃ r : Nat, rowAt a j = r := ⟨_, rfl⟩
            obtain ⟨fj, hfj⟩ : ∃ f : Nat, frAt a j = f := ⟨_, rfl⟩
            rw [hrj, hfj] at hjb
            have HRJ2 := Aside0.mk (And.intro hrj hfj)
            have hs0 := HOA.out.s0
            have hs1 := HOA.out.s1
            have hnb := HNB.out
            have hm0 : 0 ≤ ((j : Int) - a.f0) % a.f1 := Int.emod_nonneg _ (by omega)
            have hm1 : ((j : Int) - a.f0) % a.f1 < a.f1 := Int.emod_lt_of_pos _ (by omega)
            have hd0 : 0 ≤ ((j : Int) - a.f0) / a.f1 := Int.ediv_nonneg (by omega) (by omega)
            have hd1 : ((j : Int) - a.f0) / a.f1 ≤ (j : Int) - a.f0 := Int.ediv_le_self _ (by omega)
            have hwl : IntKind.i64.wrap ((j : Int) - a.f0) = (j : Int) - a.f0 := by rw [i64_w, wrap_in (by omega) (by omega)]
            have hwr : IntKind.i64.wrap (a.f0 + ((j : Int) - a.f0).tmod a.f1) = (rj : Int) := by
              rw [i64_w, Int.tmod_eq_emod_of_nonneg (by omega), wrap_in (by omega) (by omega), ← hrj]
              unfold rowAt
              rw [if_pos hk]
              omega
            have hwf : IntKind.i64.wrap (((j : Int) - a.f0).tdiv a.f1) = (fj : Int) := by
              rw [i64_w, Int.tdiv_eq_ediv_of_nonneg (by omega), wrap_in (by omega) (by omega), ← hfj]
              unfold frAt
              rw [if_pos hk]
              omega
            have hzz : ¬ a.f1 = 0 := by omega
            have G4 := Aside0.mk (G.out.below (below_drew (Below.refl wr.heap.size wr)))
            have HSS := Aside0.mk (show (fun w' : World => w'.cell? ⟨w.heap.size + 1 + 1, 0, none⟩ = some (.int .i64 a.f0) ∧ w'.cell? ⟨w.heap.size + 1 + 1, 1, none⟩ = some (.int .i64 a.f1)) wr from ⟨s0, s1⟩)
            have HJB := Aside0.mk hjb
            clear hrj hfj hm0 hm1 hd0 hd1 hk hk0 hk4 hs0 hs1 hnb hjb s2 s3 s4 s5 s6 G
            go_wp2
            refine start_ (n := 19) (S := (fun w' : World => w'.cell? ⟨w.heap.size + 1 + 1, 0, none⟩ = some (.int .i64 a.f0) ∧ w'.cell? ⟨w.heap.size + 1 + 1, 1, none⟩ = some (.int .i64 a.f1))) (ds := []) #[false, false, false, false, false, false, false, false, false, false, false, false, false, false, false, false, false, false, false] (by kernel_rfl) rfl rfl HSS.out (fun hHeld => ?_)
            refine pure_ (i := 0) (N := some 96) (v := ?_) (a' := ?_) #[true, false, false, false, false, false, false, false, false, false, false, false, false, false, false, false, false, false, false] rfl rfl (by kernel_rfl) (fun _ _ _ h => h) (Or.inl ⟨by rfl, ?_⟩) ?_ ?_
            rotate_left
            · intro w'
              go_simp
              with_reducible rfl
            rotate_left
            · simp only [Act.put, List.setIfInBounds_toArray, List.set_cons_zero, List.set_cons_succ]
              rfl
            refine take_ (i := 1) (N := some 97) (v := ?_) (a' := ?_) #[true, true, false, false, false, false, false, false, false, false, false, false, false, false, false, false, false, false, false] rfl rfl (by kernel_rfl) (fun _ _ _ h => h) (Or.inl ⟨by rfl, ?_⟩) hHeld ?_ ?_
            rotate_left
            · rintro w' ⟨s0, s1⟩
              go_simp
              with_reducible rfl
            rotate_left
            · simp only [Act.put, List.setIfInBounds_toArray, List.set_cons_zero, List.set_cons_succ]
              rfl
            refine pure_ (i := 2) (N := some 98) (v := ?_) (a' := ?_) #[true, true, true, false, false, false, false, false, false, false, false, false, false, false, false, false, false, false, false] rfl rfl (by kernel_rfl) (fun _ _ _ h => h) (Or.inl ⟨by rfl, ?_⟩) ?_ ?_
            rotate_left
            · intro w'
              go_simp
              with_reducible rfl
            rotate_left
            · simp only [Act.put, List.setIfInBounds_toArray, List.set_cons_zero, List.set_cons_succ]
              rfl
            refine pure_ (i := 3) (N := some 99) (v := ?_) (a' := ?_) #[true, true, true, true, false, false, false, false, false, false, false, false, false, false, false, false, false, false, false] rfl rfl (by kernel_rfl) (fun _ _ _ h => h) (Or.inl ⟨by rfl, ?_⟩) ?_ ?_
            rotate_left
            · intro w'
              go_simp
              with_reducible rfl
            rotate_left
            · simp only [Act.put, List.setIfInBounds_toArray, List.set_cons_zero, List.set_cons_succ]
              rfl
            refine take_ (i := 4) (N := some 100) (v := ?_) (a' := ?_) #[true, true, true, true, true, false, false, false, false, false, false, false, false, false, false, false, false, false, false] rfl rfl (by kernel_rfl) (fun _ _ _ h => h) (Or.inl ⟨by rfl, ?_⟩) hHeld ?_ ?_
            rotate_left
            · rintro w' ⟨s0, s1⟩
              go_simp
              with_reducible rfl
            rotate_left
            · simp only [Act.put, List.setIfInBounds_toArray, List.set_cons_zero, List.set_cons_succ]
              rfl
            refine pure_ (i := 5) (N := some 101) (v := ?_) (a' := ?_) #[true, true, true, true, true, true, false, false, false, false, false, false, false, false, false, false, false, false, false] rfl rfl (by kernel_rfl) (fun _ _ _ h => h) (Or.inl ⟨by rfl, ?_⟩) ?_ ?_
            rotate_left
            · intro w'
              go_simp
              with_reducible rfl
            rotate_left
            · simp only [Act.put, List.setIfInBounds_toArray, List.set_cons_zero, List.set_cons_succ]
              rfl
            refine pure_ (i := 6) (N := some 102) (v := ?_) (a' := ?_) #[true, true, true, true, true, true, true, false, false, false, false, false, false, false, false, false, false, false, false] rfl rfl (by kernel_rfl) (fun _ _ _ h => h) (Or.inl ⟨by rfl, ?_⟩) ?_ ?_
            rotate_left
            · intro w'
              go_simp
              with_reducible rfl
            rotate_left
            · simp only [Act.put, List.setIfInBounds_toArray, List.set_cons_zero, List.set_cons_succ]
              rfl
            refine take_ (i := 7) (N := some 103) (v := ?_) (a' := ?_) #[true, true, true, true, true, true, true, true, false, false, false, false, false, false, false, false, false, false, false] rfl rfl (by kernel_rfl) (fun _ _ _ h => h) (Or.inl ⟨by rfl, ?_⟩) hHeld ?_ ?_
            rotate_left
            · rintro w' ⟨s0, s1⟩
              go_simp
              with_reducible rfl
            rotate_left
            · simp only [Act.put, List.setIfInBounds_toArray, List.set_cons_zero, List.set_cons_succ]
              rfl
            refine pure_ (i := 8) (N := some 104) (v := ?_) (a' := ?_) #[true, true, true, true, true, true, true, true, true, false, false, false, false, false, false, false, false, false, false] rfl rfl (by kernel_rfl) (fun _ _ _ h => h) (Or.inl ⟨by rfl, ?_⟩) ?_ ?_
            rotate_left
            · intro w'
              go_simp
              with_reducible rfl
            rotate_left
            · simp only [Act.put, List.setIfInBounds_toArray, List.set_cons_zero, List.set_cons_succ]
              rfl
            refine pure_ (i := 9) (N := some 105) (v := ?_) (a' := ?_) #[true, true, true, true, true, true, true, true, true, true, false, false, false, false, false, false, false, false, false] rfl rfl (by kernel_rfl) (fun _ _ _ h => h) (Or.inl ⟨by rfl, ?_⟩) ?_ ?_
            rotate_left
            · intro w'
              go_simp
              with_reducible rfl
            rotate_left
            · simp only [Act.put, List.setIfInBounds_toArray, List.set_cons_zero, List.set_cons_succ]
              rfl
            refine pure_ (i := 10) (N := some 106) (v := ?_) (a' := ?_) #[true, true, true, true, true, true, true, true, true, true, true, false, false, false, false, false, false, false, false] rfl rfl (by kernel_rfl) (fun _ _ _ h => h) (Or.inl ⟨by rfl, ?_⟩) ?_ ?_
            rotate_left
            · intro w'
              go_simp
              with_reducible rfl
            rotate_left
            · simp only [Act.put, List.setIfInBounds_toArray, List.set_cons_zero, List.set_cons_succ]
              rfl
            refine pure_ (i := 11) (N := some 107) (v := ?_) (a' := ?_) #[true, true, true, true, true, true, true, true, true, true, true, true, false, false, false, false, false, false, false] rfl rfl (by kernel_rfl) (fun _ _ _ h => h) (Or.inl ⟨by rfl, ?_⟩) ?_ ?_
            rotate_left
            · intro w'
              go_simp
              with_reducible rfl
            rotate_left
            · simp only [Act.put, List.setIfInBounds_toArray, List.set_cons_zero, List.set_cons_succ]
              rfl
            refine take_ (i := 12) (N := some 108) (v := ?_) (a' := ?_) #[true, true, true, true, true, true, true, true, true, true, true, true, true, false, false, false, false, false, false] rfl rfl (by kernel_rfl) (fun _ _ _ h => h) (Or.inl ⟨by rfl, ?_⟩) hHeld ?_ ?_
            rotate_left
            · rintro w' ⟨s0, s1⟩
              go_simp
              with_reducible rfl
            rotate_left
            · simp only [Act.put, List.setIfInBounds_toArray, List.set_cons_zero, List.set_cons_succ]
              rfl
            refine pure_ (i := 13) (N := some 109) (v := ?_) (a' := ?_) #[true, true, true, true, true, true, true, true, true, true, true, true, true, true, false, false, false, false, false] rfl rfl (by kernel_rfl) (fun _ _ _ h => h) (Or.inl ⟨by rfl, ?_⟩) ?_ ?_
            rotate_left
            · intro w'
              go_simp
              with_reducible rfl
            rotate_left
            · simp only [Act.put, List.setIfInBounds_toArray, List.set_cons_zero, List.set_cons_succ]
              rfl
            refine pure_ (i := 14) (N := some 110) (v := ?_) (a' := ?_) #[true, true, true, true, true, true, true, true, true, true, true, true, true, true, true, false, false, false, false] rfl rfl (by kernel_rfl) (fun _ _ _ h => h) (Or.inl ⟨by rfl, ?_⟩) ?_ ?_
            rotate_left
            · intro w'
              go_simp
              with_reducible rfl
            rotate_left
            · simp only [Act.put, List.setIfInBounds_toArray, List.set_cons_zero, List.set_cons_succ]
              rfl
            refine take_ (i := 15) (N := some 111) (v := ?_) (a' := ?_) #[true, true, true, true, true, true, true, true, true, true, true, true, true, true, true, true, false, false, false] rfl rfl (by kernel_rfl) (fun _ _ _ h => h) (Or.inl ⟨by rfl, ?_⟩) hHeld ?_ ?_
            rotate_left
            · rintro w' ⟨s0, s1⟩
              go_simp
              with_reducible rfl
            rotate_left
            · simp only [Act.put, List.setIfInBounds_toArray, List.set_cons_zero, List.set_cons_succ]
              rfl
            refine pure_ (i := 16) (N := some 112) (v := ?_) (a' := ?_) #[true, true, true, true, true, true, true, true, true, true, true, true, true, true, true, true, true, false, false] rfl rfl (by kernel_rfl) (fun _ _ _ h => h) (Or.inl ⟨by rfl, ?_⟩) ?_ ?_
            rotate_left
            · intro w'
              go_simp
              with_reducible rfl
            rotate_left
            · simp only [Act.put, List.setIfInBounds_toArray, List.set_cons_zero, List.set_cons_succ]
              rfl
            refine pure_ (i := 17) (N := some 14) (v := ?_) (a' := ?_) #[true, true, true, true, true, true, true, true, true, true, true, true, true, true, true, true, true, true, false] rfl rfl (by kernel_rfl) (fun _ _ _ h => h) (Or.inl ⟨by rfl, ?_⟩) ?_ ?_
            rotate_left
            · intro w'
              go_simp
              with_reducible rfl
            rotate_left
            · simp only [Act.put, List.setIfInBounds_toArray, List.set_cons_zero, List.set_cons_succ]
              rfl
            refine pure_ (i := 18) (N := some 15) (v := ?_) (a' := ?_) #[true, true, true, true, true, true, true, true, true, true, true, true, true, true, true, true, true, true, true] rfl rfl (by kernel_rfl) (fun _ _ _ h => h) (Or.inl ⟨by rfl, ?_⟩) ?_ ?_
            rotate_left
            · intro w'
              go_simp
              with_reducible rfl
            rotate_left
            · simp only [Act.put, List.setIfInBounds_toArray, List.set_cons_zero, List.set_cons_succ]
              rfl
            refine done_ (by kernel_rfl) ?_
            clear hwl hwr hwf hzz HSS hHeld s0 s1 hws hkd p0 p1_ p2_ p3_ p4_ p5_ p6_
            obtain ⟨w4, hw4⟩ : ∃ W, wr.drew = W := ⟨_, rfl⟩
            rw [hw4] at G4 ⊢
            clear hw4
            have hjb1 := HJB.out.1
            obtain ⟨ad, Bx, cx, e3, hx0, hrx⟩ := at_row HRA.out.s3.r rj hjb1
            cases e3
            have HJR := Aside0.mk (joinRow_eq (b := b) HRJ2.out.1 HRJ2.out.2 HJB.out.1)
            have HMR := Aside0.mk (HOA.out.m3 a.f3[rj] (List.getElem_mem hjb1))
            have hrl : (a.f3[rj].length : Int) ≤ 1000 := by have := HMR.out.1; have := gCheck_ok HC3.out.1; omega
            have hji2 : ((rj : Nat) : Int) < (a.f3.length : Int) := by omega
            generalize a.f3[rj] = row at *
            have HRL := Aside0.mk hrl
            have HX0 := Aside0.mk hx0
            have HRX := Aside0.mk hrx
            clear hrx hrl hjb1 hx0
            go_wp2
            clear hwN
            go_loopg [16, 17] row.length (fun gg s16 s17 wr => ∃ (i : Nat) (LV : Option Addr) (cl : Nat), s16 = .slice LV i cl ∧ s17 = .int .i64 i ∧ Aside0 (i ≤ row.length ∧ row.length - i ≤ gg) ∧ Aside0 (Below w4.heap.size w4 wr) ∧ Aside0 (Kd.R (Kd.int .i64) 3 wr w4.heap.size (fun _ => True) (.slice LV i cl) ((row.map (joinI b fj)).take i)))
            case atStart => exact ⟨0, none, 0, rfl, rfl, ⟨by omega, by omega⟩, ⟨Below.refl _ _⟩, ⟨Kd.R_nil _ _ _ _ _⟩⟩
            case round =>
              obtain ⟨i, LV, cl, rfl, rfl, HI4, B5, RC⟩ := hrel
              have G5 := Aside0.mk (G4.out.below B5.out)
              obtain ⟨c0, c1, c2, c3, c4⟩ := blk5 G5.out.HB.self.1
              by_cases hlt4 : i < row.length
              · have HLT4 := Aside0.mk hlt4
                have hif : (i : Int) < fr.f0 := by have := HMR.out.1; omega
                have hx := pw_cell_below G5.out.BW HX0.out
                obtain ⟨⟨s0, s1, s2, s3, s4, s5, s6⟩, _⟩ := blk7 G5.out.HB.self.2.2.1
                obtain ⟨cd, e5, hxc⟩ := at_int (HRX.out.below G5.out.BW).r i hlt4
                cases e5
                have hxm := HMR.out.2 row[i] (List.getElem_mem hlt4)
                have HTK := Aside0.mk (show ((row.map (joinI b fj)).take i) ++ [joinI b fj row[i]] = (row.map (joinI b fj)).take (i + 1) by rw [take_at (by rw [List.length_map]; exact hlt4), List.getElem_map])
                have HLE := Aside0.mk (show ((row.map (joinI b fj)).take (i + 1)).length = i + 1 by rw [List.length_take, List.length_map]; omega)
                have HLE0 := Aside0.mk (show ((row.map (joinI b fj)).take i).length = i by rw [List.length_take, List.length_map]; omega)
                have hjb2 := HJB.out.2
                have HJI := Aside0.mk (fun (q : Nat) (hq : q < b.f3[fj].length) (hxq : row[i] / 2 - 1 = (q : Int)) (h0 : 0 < row[i]) => joinI_at (b := b) (f := fj) hjb2 hq hxq h0)
                generalize row[i] = x at *
                have hli4 : (i : Int) < (row.length : Int) := by omega
                by_cases h0 : 0 < x
                · have h0d : decide (0 < x) = true := decide_eq_true h0
                  obtain ⟨bd, By, cy, e6, hy, hry⟩ := at_row (HRB.out.below G5.out.BW).s3.r fj hjb2
                  cases e6
                  have hmb := HOB.out.m3 b.f3[fj] (List.getElem_mem hjb2)
                  have hfi : ((fj : Nat) : Int) < (b.f3.length : Int) := by omega
                  generalize b.f3[fj] = rb at *
                  have hmd := gCheck_ok HC3.out.2.1
                  obtain ⟨q, hxq⟩ : ∃ q : Nat, x / 2 - 1 = (q : Int) := ⟨(x / 2 - 1).toNat, by omega⟩
                  have hqb : q < rb.length := by have := hmb.1; omega
                  have HJV := Aside0.mk (HJI.out q hqb hxq h0)
                  obtain ⟨yd, e7, hz⟩ := at_int hry.r q hqb
                  cases e7
                  generalize rb[q] = y at *
                  have hwq : wrap64 (wrap64 (x.tdiv 2) - 1) = (q : Int) := by
                    rw [half_of ⟨by omega, by omega⟩ (by omega), wrap_in (by omega) (by omega), hxq]
                  have hqi : (q : Int) < (rb.length : Int) := by omega
                  obtain ⟨⟨b0_, b1_, b2_, b3_, b4_, b5_, b6_⟩, _⟩ := blk7 G5.out.HB.self.2.2.2.1
                  rw [HJV.out] at HTK
                  clear HJI h0 hjb2 hmb hry hmd hqb hxm hxq hlt4
                  go_wp2_with (first | (at_builtin; refine Kd.R_append (Kd.int .i64) (w0 := wr) (W := wr) w4.heap.size rfl (.tmp 139) (.tmp 141) 24 3 (.int .i64 0) 8 rfl Try.underlying24 infoInt rfl (by decide) (by omega) (.slice LV i cl) ((row.map (joinI b fj)).take i) y [.int .i64 y] (fun _ => True) (fun _ => False) rfl rfl ?aP (fun _ h => h.elim) ?aF ?aO ?aB ?aS ?aL ?_; (case aP => exact rfl); (case aF => exact fun _ _ => trivial); (case aO => exact RC.out); (case aB => exact Below.refl _ _); (case aS => exact B5.out.size); (case aL => have := HRL.out; have := HLT4.out; rw [HLE0.out]; omega); intro v1 w8 ho hb hg hat; rw [HTK.out] at ho; obtain ⟨V8, cap8, rfl, _, _⟩ := Kd.R_reads ho; rw [HLE.out] at ho; rw [HLE.out]; have RC8 := Aside0.mk ho; have B8 := Aside0.mk (B5.out.trans hb); clear ho hb hg hat))
                  go_roundg (row.length - (i + 1))
                  case measure => have := HI4.out; have := HLT4.out; omega
                  case rel => exact ⟨i + 1, V8, cap8, rfl, val_step HLT4.out (by have := HRL.out; omega), ⟨HLT4.out, by have := HI4.out; omega⟩, B8, RC8⟩
                · have h0d : decide (0 < x) = false := decide_eq_false h0
                  have HJV := Aside0.mk (show joinI b fj x = x by unfold joinI; rw [if_neg h0])
                  rw [HJV.out] at HTK
                  clear HJI h0 hjb2 hxm hlt4
                  go_wp2_with (first | (at_builtin; refine Kd.R_append (Kd.int .i64) (w0 := wr) (W := wr) w4.heap.size rfl (.tmp 139) (.tmp 141) 24 3 (.int .i64 0) 8 rfl Try.underlying24 infoInt rfl (by decide) (by omega) (.slice LV i cl) ((row.map (joinI b fj)).take i) x [.int .i64 x] (fun _ => True) (fun _ => False) rfl rfl ?aP (fun _ h => h.elim) ?aF ?aO ?aB ?aS ?aL ?_; (case aP => exact rfl); (case aF => exact fun _ _ => trivial); (case aO => exact RC.out); (case aB => exact Below.refl _ _); (case aS => exact B5.out.size); (case aL => have := HRL.out; have := HLT4.out; rw [HLE0.out]; omega); intro v1 w8 ho hb hg hat; rw [HTK.out] at ho; obtain ⟨V8, cap8, rfl, _, _⟩ := Kd.R_reads ho; rw [HLE.out] at ho; rw [HLE.out]; have RC8 := Aside0.mk ho; have B8 := Aside0.mk (B5.out.trans hb); clear ho hb hg hat))
                  go_roundg (row.length - (i + 1))
                  case measure => have := HI4.out; have := HLT4.out; omega
                  case rel => exact ⟨i + 1, V8, cap8, rfl, val_step HLT4.out (by have := HRL.out; omega), ⟨HLT4.out, by have := HI4.out; omega⟩, B8, RC8⟩
              · have hi4 : i = row.length := by have := HI4.out.1; omega
                subst hi4
                have hif : ¬ ((row.length : Int) < fr.f0) := by have := HMR.out.1; omega
                have RJ := Aside0.mk (show Kd.R (Kd.int .i64) 3 wr w4.heap.size (fun _ => True) (.slice LV row.length cl) (joinRow a b j) from by have h_ := RC.out; rw [← List.length_map (f := joinI b fj), List.take_length, List.length_map, ← HJR.out] at h_; exact h_)
                have HRS := Aside0.mk (rows_snoc a b j)
                have HRE := Aside0.mk (show ((List.range (j + 1)).map (joinRow a b)).length = j + 1 by rw [List.length_map, List.length_range])
                obtain ⟨⟨p0, p1_, p2_, p3_, p4_, p5_, p6_⟩, _⟩ := blk7 G5.out.BO
                clear RC
                go_wp2_with (first | (at_builtin; refine Kd.R_append (Kd.slice 3 (Kd.int .i64)) (w0 := wr) (W := wr) n1 rfl (.tmp 144) (.tmp 146) 27 24 (.slice none 0 0) 24 rfl Try.underlying27 infoRow rfl (by decide) (by omega) (.slice O j co) ((List.range j).map (joinRow a b)) (joinRow a b j) [.slice LV row.length cl] (fun _ => True) (fun q => some q ≠ (Value.slice O j co).ownBlock) rfl rfl ?aP (fun _ h => ⟨trivial, h⟩) ?aF ?aO ?aB ?aS ?aL ?_; (case aP => exact ⟨_, rfl, Kd.R_lower (Kd.R_mono (Kd.R_new (W := w4) RJ.out (Kd.R_own G4.out.RV).choose_spec) (fun q hq => hq.2)) G4.out.sz⟩); (case aF => exact fun _ _ => trivial); (case aO => exact G5.out.RV); (case aB => exact Below.refl _ _); (case aS => exact G5.out.sz); (case aL => have := HNB.out; have := HLT.out; rw [List.length_map, List.length_range]; omega); intro v1 w8 ho hb hg hat; rw [HRS.out] at ho; obtain ⟨V8, cap8, rfl, _, _⟩ := Kd.R_reads ho; rw [HRE.out] at ho; rw [HRE.out]; have G8 := Aside0.mk (G5.out.app hb ho); obtain ⟨⟨o0, o1, o2, o3, o4, o5, o6⟩, y0, y1, y2, y3, y4, y5, y6⟩ := blk7 G8.out.BO; clear ho hb hg hat))
                go_roundg (N - (j + 1))
                case measure => have := HI.out; have := HLT.out; omega
                case rel => exact ⟨j + 1, V8, cap8, val_step HLT.out (by have := HNB.out; omega), ⟨HLT.out, by have := HI.out; omega⟩, ⟨G8.out.put (by decide) 3 _ rfl⟩⟩
          · have hkd : decide (a.f0 + a.f1 ≤ (j : Int)) = false := decide_eq_false (by omega)
            have hrj : rowAt a j = j := by unfold rowAt; rw [if_neg hk]
            have hfj : frAt a j = 0 := by unfold frAt; rw [if_neg hk]
            rw [hrj, hfj] at hjb
            have HRJ2 := Aside0.mk (And.intro hrj hfj)
            have HJB := Aside0.mk hjb
            have G4 := G
            obtain ⟨w4, hw4⟩ : ∃ W, wr = W := ⟨_, rfl⟩
            rw [hw4] at G4 s0 s1 p0 p1_ ⊢
            clear hw4 hrj hfj hk hjb s2 s3 s4 s5 s6 G
            have hjb1 := HJB.out.1
            obtain ⟨ad, Bx, cx, e3, hx0, hrx⟩ := at_row HRA.out.s3.r j hjb1
            cases e3
            have HJR := Aside0.mk (joinRow_eq (b := b) HRJ2.out.1 HRJ2.out.2 HJB.out.1)
            have HMR := Aside0.mk (HOA.out.m3 a.f3[j] (List.getElem_mem hjb1))
            have hrl : (a.f3[j].length : Int) ≤ 1000 := by have := HMR.out.1; have := gCheck_ok HC3.out.1; omega
            have hji2 : ((j : Nat) : Int) < (a.f3.length : Int) := by omega
            generalize a.f3[j] = row at *
            have HRL := Aside0.mk hrl
            have HX0 := Aside0.mk hx0
            have HRX := Aside0.mk hrx
            clear hrx hrl hjb1 hx0
            go_wp2
            clear hwN hws hkd p0 p1_ p2_ p3_ p4_ p5_ p6_ s0 s1
            go_loopg [16, 17] row.length (fun gg s16 s17 wr => ∃ (i : Nat) (LV : Option Addr) (cl : Nat), s16 = .slice LV i cl ∧ s17 = .int .i64 i ∧ Aside0 (i ≤ row.length ∧ row.length - i ≤ gg) ∧ Aside0 (Below w4.heap.size w4 wr) ∧ Aside0 (Kd.R (Kd.int .i64) 3 wr w4.heap.size (fun _ => True) (.slice LV i cl) ((row.map (joinI b 0)).take i)))
            case atStart => exact ⟨0, none, 0, rfl, rfl, ⟨by omega, by omega⟩, ⟨Below.refl _ _⟩, ⟨Kd.R_nil _ _ _ _ _⟩⟩
            case round =>
              obtain ⟨i, LV, cl, rfl, rfl, HI4, B5, RC⟩ := hrel
              have G5 := Aside0.mk (G4.out.below B5.out)
              obtain ⟨c0, c1, c2, c3, c4⟩ := blk5 G5.out.HB.self.1
              by_cases hlt4 : i < row.length
              · have HLT4 := Aside0.mk hlt4
                have hif : (i : Int) < fr.f0 := by have := HMR.out.1; omega
                have hx := pw_cell_below G5.out.BW HX0.out
                obtain ⟨⟨s0, s1, s2, s3, s4, s5, s6⟩, _⟩ := blk7 G5.out.HB.self.2.2.1
                obtain ⟨cd, e5, hxc⟩ := at_int (HRX.out.below G5.out.BW).r i hlt4
                cases e5
                have hxm := HMR.out.2 row[i] (List.getElem_mem hlt4)
                have HTK := Aside0.mk (show ((row.map (joinI b 0)).take i) ++ [joinI b 0 row[i]] = (row.map (joinI b 0)).take (i + 1) by rw [take_at (by rw [List.length_map]; exact hlt4), List.getElem_map])
                have HLE := Aside0.mk (show ((row.map (joinI b 0)).take (i + 1)).length = i + 1 by rw [List.length_take, List.length_map]; omega)
                have HLE0 := Aside0.mk (show ((row.map (joinI b 0)).take i).length = i by rw [List.length_take, List.length_map]; omega)
                have hjb2 := HJB.out.2
                have HJI := Aside0.mk (fun (q : Nat) (hq : q < b.f3[0].length) (hxq : row[i] / 2 - 1 = (q : Int)) (h0 : 0 < row[i]) => joinI_at (b := b) (f := 0) hjb2 hq hxq h0)
                generalize row[i] = x at *
                have hli4 : (i : Int) < (row.length : Int) := by omega
                by_cases h0 : 0 < x
                · have h0d : decide (0 < x) = true := decide_eq_true h0
                  obtain ⟨bd, By, cy, e6, hy, hry⟩ := at_row (HRB.out.below G5.out.BW).s3.r 0 hjb2
                  cases e6
                  have hy0 := hy
                  rw [show bd.add 0 = bd from by unfold Addr.add; rfl] at hy0
                  have hmb := HOB.out.m3 b.f3[0] (List.getElem_mem hjb2)
                  have hfi : ((0 : Nat) : Int) < (b.f3.length : Int) := by omega
                  generalize b.f3[0] = rb at *
                  have hmd := gCheck_ok HC3.out.2.1
                  obtain ⟨q, hxq⟩ : ∃ q : Nat, x / 2 - 1 = (q : Int) := ⟨(x / 2 - 1).toNat, by omega⟩
                  have hqb : q < rb.length := by have := hmb.1; omega
                  have HJV := Aside0.mk (HJI.out q hqb hxq h0)
                  obtain ⟨yd, e7, hz⟩ := at_int hry.r q hqb
                  cases e7
                  generalize rb[q] = y at *
                  have hwq : wrap64 (wrap64 (x.tdiv 2) - 1) = (q : Int) := by
                    rw [half_of ⟨by omega, by omega⟩ (by omega), wrap_in (by omega) (by omega), hxq]
                  have hqi : (q : Int) < (rb.length : Int) := by omega
                  obtain ⟨⟨b0_, b1_, b2_, b3_, b4_, b5_, b6_⟩, _⟩ := blk7 G5.out.HB.self.2.2.2.1
                  rw [HJV.out] at HTK
                  clear HJI h0 hjb2 hmb hry hmd hqb hxm hxq hlt4
                  go_wp2_with (first | (at_builtin; refine Kd.R_append (Kd.int .i64) (w0 := wr) (W := wr) w4.heap.size rfl (.tmp 139) (.tmp 141) 24 3 (.int .i64 0) 8 rfl Try.underlying24 infoInt rfl (by decide) (by omega) (.slice LV i cl) ((row.map (joinI b 0)).take i) y [.int .i64 y] (fun _ => True) (fun _ => False) rfl rfl ?aP (fun _ h => h.elim) ?aF ?aO ?aB ?aS ?aL ?_; (case aP => exact rfl); (case aF => exact fun _ _ => trivial); (case aO => exact RC.out); (case aB => exact Below.refl _ _); (case aS => exact B5.out.size); (case aL => have := HRL.out; have := HLT4.out; rw [HLE0.out]; omega); intro v1 w8 ho hb hg hat; rw [HTK.out] at ho; obtain ⟨V8, cap8, rfl, _, _⟩ := Kd.R_reads ho; rw [HLE.out] at ho; rw [HLE.out]; have RC8 := Aside0.mk ho; have B8 := Aside0.mk (B5.out.trans hb); clear ho hb hg hat))
                  go_roundg (row.length - (i + 1))
                  case measure => have := HI4.out; have := HLT4.out; omega
                  case rel => exact ⟨i + 1, V8, cap8, rfl, val_step HLT4.out (by have := HRL.out; omega), ⟨HLT4.out, by have := HI4.out; omega⟩, B8, RC8⟩
                · have h0d : decide (0 < x) = false := decide_eq_false h0
                  have HJV := Aside0.mk (show joinI b 0 x = x by unfold joinI; rw [if_neg h0])
                  rw [HJV.out] at HTK
                  clear HJI h0 hjb2 hxm hlt4
                  go_wp2_with (first | (at_builtin; refine Kd.R_append (Kd.int .i64) (w0 := wr) (W := wr) w4.heap.size rfl (.tmp 139) (.tmp 141) 24 3 (.int .i64 0) 8 rfl Try.underlying24 infoInt rfl (by decide) (by omega) (.slice LV i cl) ((row.map (joinI b 0)).take i) x [.int .i64 x] (fun _ => True) (fun _ => False) rfl rfl ?aP (fun _ h => h.elim) ?aF ?aO ?aB ?aS ?aL ?_; (case aP => exact rfl); (case aF => exact fun _ _ => trivial); (case aO => exact RC.out); (case aB => exact Below.refl _ _); (case aS => exact B5.out.size); (case aL => have := HRL.out; have := HLT4.out; rw [HLE0.out]; omega); intro v1 w8 ho hb hg hat; rw [HTK.out] at ho; obtain ⟨V8, cap8, rfl, _, _⟩ := Kd.R_reads ho; rw [HLE.out] at ho; rw [HLE.out]; have RC8 := Aside0.mk ho; have B8 := Aside0.mk (B5.out.trans hb); clear ho hb hg hat))
                  go_roundg (row.length - (i + 1))
                  case measure => have := HI4.out; have := HLT4.out; omega
                  case rel => exact ⟨i + 1, V8, cap8, rfl, val_step HLT4.out (by have := HRL.out; omega), ⟨HLT4.out, by have := HI4.out; omega⟩, B8, RC8⟩
              · have hi4 : i = row.length := by have := HI4.out.1; omega
                subst hi4
                have hif : ¬ ((row.length : Int) < fr.f0) := by have := HMR.out.1; omega
                have RJ := Aside0.mk (show Kd.R (Kd.int .i64) 3 wr w4.heap.size (fun _ => True) (.slice LV row.length cl) (joinRow a b j) from by have h_ := RC.out; rw [← List.length_map (f := joinI b 0), List.take_length, List.length_map, ← HJR.out] at h_; exact h_)
                have HRS := Aside0.mk (rows_snoc a b j)
                have HRE := Aside0.mk (show ((List.range (j + 1)).map (joinRow a b)).length = j + 1 by rw [List.length_map, List.length_range])
                obtain ⟨⟨p0, p1_, p2_, p3_, p4_, p5_, p6_⟩, _⟩ := blk7 G5.out.BO
                clear RC
                go_wp2_with (first | (at_builtin; refine Kd.R_append (Kd.slice 3 (Kd.int .i64)) (w0 := wr) (W := wr) n1 rfl (.tmp 144) (.tmp 146) 27 24 (.slice none 0 0) 24 rfl Try.underlying27 infoRow rfl (by decide) (by omega) (.slice O j co) ((List.range j).map (joinRow a b)) (joinRow a b j) [.slice LV row.length cl] (fun _ => True) (fun q => some q ≠ (Value.slice O j co).ownBlock) rfl rfl ?aP (fun _ h => ⟨trivial, h⟩) ?aF ?aO ?aB ?aS ?aL ?_; (case aP => exact ⟨_, rfl, Kd.R_lower (Kd.R_mono (Kd.R_new (W := w4) RJ.out (Kd.R_own G4.out.RV).choose_spec) (fun q hq => hq.2)) G4.out.sz⟩); (case aF => exact fun _ _ => trivial); (case aO => exact G5.out.RV); (case aB => exact Below.refl _ _); (case aS => exact G5.out.sz); (case aL => have := HNB.out; have := HLT.out; rw [List.length_map, List.length_range]; omega); intro v1 w8 ho hb hg hat; rw [HRS.out] at ho; obtain ⟨V8, cap8, rfl, _, _⟩ := Kd.R_reads ho; rw [HRE.out] at ho; rw [HRE.out]; have G8 := Aside0.mk (G5.out.app hb ho); obtain ⟨⟨o0, o1, o2, o3, o4, o5, o6⟩, y0, y1, y2, y3, y4, y5, y6⟩ := blk7 G8.out.BO; clear ho hb hg hat))
                go_roundg (N - (j + 1))
                case measure => have := HI.out; have := HLT.out; omega
                case rel => exact ⟨j + 1, V8, cap8, val_step HLT.out (by have := HNB.out; omega), ⟨HLT.out, by have := HI.out; omega⟩, ⟨G8.out.put (by decide) 3 _ rfl⟩⟩
        · have hj : j = N := by have := HI.out.1; omega
          subst hj
          have HNB := Aside0.mk (show j ≤ 600 by have := HN.out; have := HSK.out; omega)
          have hji : ¬ (j : Int) < (j : Int) := by omega
          have G2 := Aside0.mk (Stg.next G.out (Kd.int .i64) 3)
          have HMXL := Aside0.mk HRB.out.s4.max
          clear G hlt
          go_wp2
          clear hwN p0 p1_ p2_ p3_ p4_ p5_ p6_
          generalize wr.heap.size = n2 at *
          go_loopg [19] b.f4.length (fun gg s19 wr => ∃ (i : Nat) (L : Option Addr) (cl : Nat), s19 = .int .i64 i ∧ Aside0 (i ≤ b.f4.length ∧ b.f4.length - i ≤ gg) ∧ Aside0 (Stg w (w.heap.size + 5) n2 gO 31 (JBx (w.heap.size) (w.heap.size + 1) (w.heap.size + 1 + 1) (w.heap.size + 1 + 1 + 1) (w.heap.size + 1 + 1 + 1 + 1) ⟨P1, p1, P2, p2, P3, p3, P4, p4⟩ fr ⟨M1, m1, M2, m2, M3, m3, M4, m4⟩ md ⟨A2, a2, A3, a3, A4, a4, A5, a5⟩ a ⟨B2, b2, B3, b3, B4, b4, B5, b5⟩ b) (fun W => (True ∧ RS (Kd.int .i64) W V cap (a.f2.map (joinF md b))) ∧ RS (Kd.slice 3 (Kd.int .i64)) W O co ((List.range j).map (joinRow a b))) (Kd.int .i64) 3 #[.int .i64 (sk a b), .int .i64 (ph a b), .slice V a.f2.length cap, .slice O j co, .slice L i cl, .slice none 0 0, .int .i64 0] L i cl ((b.f4.take i).map (joinL md a)) wr))
          case atStart => exact ⟨0, none, 0, rfl, ⟨by omega, by omega⟩, G2⟩
          case round =>
            clear G2
            obtain ⟨i, L, cl, rfl, HI5, G⟩ := hrel
            obtain ⟨⟨b0_, b1_, b2_, b3_, b4_, b5_, b6_⟩, _⟩ := blk7 G.out.HB.self.2.2.2.1
            by_cases hlt : i < b.f4.length
            · obtain ⟨ad, e1, hx⟩ := at_int (HRB.out.below G.out.BW).s4.r i hlt
              cases e1
              have HLT := Aside0.mk hlt
              have HMAP := Aside0.mk (show ((b.f4.take i).map (joinL md a)) ++ [joinL md a b.f4[i]] = (b.f4.take (i + 1)).map (joinL md a) by rw [take_at hlt, List.map_append]; rfl)
              have HLEN := Aside0.mk (show ((b.f4.take (i + 1)).map (joinL md a)).length = i + 1 by rw [List.length_map, List.length_take]; omega)
              have HLE0 := Aside0.mk (show ((b.f4.take i).map (joinL md a)).length = i by rw [List.length_map, List.length_take]; omega)
              have hxo := HOB.out.m4 b.f4[i] (List.getElem_mem hlt)
              have hli : (i : Int) < (b.f4.length : Int) := by omega
              have HBIG := Aside0.mk (show b.f4.length ≤ 4000000 by rw [HOB.out.n4]; have := gCheck_ok HC3.out.2.2; omega)
              generalize b.f4[i] = x at *
              obtain ⟨⟨p0, p1_, p2_, p3_, p4_, p5_, p6_⟩, _⟩ := blk7 G.out.BO
              by_cases h1 : 0 ≤ x
              · have h1d : decide (0 ≤ x) = true := decide_eq_true h1
                have hmdb := gCheck_ok HC3.out.2.1
                obtain ⟨q, hq, hxq⟩ := at_latch_lit HC3.out.2.1 (show 2 * (md.f0 + 1) ≤ x ∧ x < 2 * (md.f0 + 1 + md.f1.length) by omega)
                have hqb : q < a.f4.length := by rw [HOA.out.n4]; exact hq
                obtain ⟨bd, e2, hy⟩ := at_int (HRA.out.below G.out.BW).s4.r q hqb
                cases e2
                have HJ := Aside0.mk (joinL_at (md := md) hqb hxq h1)
                have hlx := lit_isL HC3.out.2.1 (show 2 * (md.f0 + 1) ≤ x ∧ x < 2 * (md.f0 + 1 + md.f1.length) by omega)
                have hwq : wrap64 (wrap64 (wrap64 (x.tdiv 2) - md.f0) - 1) = (q : Int) := by
                  rw [half_of ⟨by have := hlx.1; omega, by have := hlx.2; omega⟩ hlx.1, wrap_in (x := x / 2 - md.f0) (by omega) (by omega), wrap_in (by omega) (by omega), hxq]
                have hyo := HOA.out.m4 a.f4[q] (List.getElem_mem hqb)
                generalize a.f4[q] = y at *
                have hqi : (q : Int) < (a.f4.length : Int) := by omega
                obtain ⟨⟨s0, s1, s2, s3, s4, s5, s6⟩, _⟩ := blk7 G.out.HB.self.2.2.1
                obtain ⟨d0, d1, d2, d3, d4⟩ := blk5 G.out.HB.self.2.1
                by_cases h2 : 0 ≤ y
                · have h2d : decide (0 ≤ y) = true := decide_eq_true h2
                  have hfrb := gCheck_ok HC3.out.1
                  have hly := lit_isL HC3.out.1 (show 2 * (fr.f0 + 1) ≤ y ∧ y < 2 * (fr.f0 + 1 + fr.f1.length) by omega)
                  have HLX := Aside0.mk (And.intro hly hlx)
                  have HJV := Aside0.mk (HJ.out.trans (if_pos h2))
                  clear HJ hxo hyo hlt h1 h2 hxq hmdb hfrb hlx hly hq hqb
                  go_wp2_with fail
                  refine (ref25_signed y x _ HLX.out.1.big HLX.out.2.1).mono ?_
                  rintro e w6 ⟨rfl, hb_⟩
                  rw [HJV.out] at HMAP
                  have G5 := Aside0.mk (G.out.below hb_)
                  clear hb_ G b0_ b1_ b2_ b3_ b4_ b5_ b6_ s0 s1 s2 s3 s4 s5 s6 d0 d1 d2 d3 d4 p0 p1_ p2_ p3_ p4_ p5_ p6_ hx hy HJV HLX hwq hqi
                  generalize byL y x = xv at *
                  obtain ⟨⟨p0, p1_, p2_, p3_, p4_, p5_, p6_⟩, _⟩ := blk7 G5.out.BO
                  go_wp2_with (first | (at_builtin; refine Kd.R_append (Kd.int .i64) (w0 := w6) (W := w6) (n2) rfl (.tmp 180) (.tmp 182) 24 3 (.int .i64 0) 8 rfl Try.underlying24 infoInt rfl (by decide) (by omega) (.slice L i cl) ((b.f4.take i).map (joinL md a)) (xv) [.int .i64 (xv)] (fun _ => True) (fun _ => False) rfl rfl ?aP (fun _ h => h.elim) ?aF ?aO ?aB ?aS ?aL ?_; (case aP => exact rfl); (case aF => exact fun _ _ => trivial); (case aO => exact G5.out.RV); (case aB => exact Below.refl _ _); (case aS => exact G5.out.sz); (case aL => have := HBIG.out; have := HLT.out; rw [HLE0.out]; omega); intro v1 w8 ho hb hg hat; rw [HMAP.out] at ho; obtain ⟨V8, cap8, rfl, _, _⟩ := Kd.R_reads ho; rw [HLEN.out] at ho; rw [HLEN.out]; have G8 := Aside0.mk (G5.out.app hb ho); obtain ⟨⟨o0, o1, o2, o3, o4, o5, o6⟩, y0, y1, y2, y3, y4, y5, y6⟩ := blk7 G8.out.BO; clear ho hb hg hat))
                  go_roundg (b.f4.length - (i + 1))
                  case measure => have := HI5.out; have := HLT.out; omega
                  case rel => exact ⟨i + 1, V8, cap8, val_step HLT.out HMXL.out, ⟨HLT.out, by have := HI5.out; omega⟩, ⟨G8.out.put (by decide) 4 _ rfl⟩⟩
                · have h2d : decide (0 ≤ y) = false := decide_eq_false h2
                  have HJV := Aside0.mk (HJ.out.trans (if_neg h2))
                  rw [HJV.out] at HMAP
                  clear HJ hxo hyo hlt h1 h2 hxq hmdb hlx hq hqb
                  go_wp2_with (first | (at_builtin; refine Kd.R_append (Kd.int .i64) (w0 := wr) (W := wr) (n2) rfl (.tmp 180) (.tmp 182) 24 3 (.int .i64 0) 8 rfl Try.underlying24 infoInt rfl (by decide) (by omega) (.slice L i cl) ((b.f4.take i).map (joinL md a)) (y) [.int .i64 (y)] (fun _ => True) (fun _ => False) rfl rfl ?aP (fun _ h => h.elim) ?aF ?aO ?aB ?aS ?aL ?_; (case aP => exact rfl); (case aF => exact fun _ _ => trivial); (case aO => exact G.out.RV); (case aB => exact Below.refl _ _); (case aS => exact G.out.sz); (case aL => have := HBIG.out; have := HLT.out; rw [HLE0.out]; omega); intro v1 w8 ho hb hg hat; rw [HMAP.out] at ho; obtain ⟨V8, cap8, rfl, _, _⟩ := Kd.R_reads ho; rw [HLEN.out] at ho; rw [HLEN.out]; have G8 := Aside0.mk (G.out.app hb ho); obtain ⟨⟨o0, o1, o2, o3, o4, o5, o6⟩, y0, y1, y2, y3, y4, y5, y6⟩ := blk7 G8.out.BO; clear ho hb hg hat))
                  go_roundg (b.f4.length - (i + 1))
                  case measure => have := HI5.out; have := HLT.out; omega
                  case rel => exact ⟨i + 1, V8, cap8, val_step HLT.out HMXL.out, ⟨HLT.out, by have := HI5.out; omega⟩, ⟨G8.out.put (by decide) 4 _ rfl⟩⟩
              · have h1d : decide (0 ≤ x) = false := decide_eq_false h1
                have HJV := Aside0.mk (show joinL md a x = x by unfold joinL; rw [if_neg h1])
                rw [HJV.out] at HMAP
                clear hxo hlt h1
                go_wp2_with (first | (at_builtin; refine Kd.R_append (Kd.int .i64) (w0 := wr) (W := wr) (n2) rfl (.tmp 180) (.tmp 182) 24 3 (.int .i64 0) 8 rfl Try.underlying24 infoInt rfl (by decide) (by omega) (.slice L i cl) ((b.f4.take i).map (joinL md a)) (x) [.int .i64 (x)] (fun _ => True) (fun _ => False) rfl rfl ?aP (fun _ h => h.elim) ?aF ?aO ?aB ?aS ?aL ?_; (case aP => exact rfl); (case aF => exact fun _ _ => trivial); (case aO => exact G.out.RV); (case aB => exact Below.refl _ _); (case aS => exact G.out.sz); (case aL => have := HBIG.out; have := HLT.out; rw [HLE0.out]; omega); intro v1 w8 ho hb hg hat; rw [HMAP.out] at ho; obtain ⟨V8, cap8, rfl, _, _⟩ := Kd.R_reads ho; rw [HLEN.out] at ho; rw [HLEN.out]; have G8 := Aside0.mk (G.out.app hb ho); obtain ⟨⟨o0, o1, o2, o3, o4, o5, o6⟩, y0, y1, y2, y3, y4, y5, y6⟩ := blk7 G8.out.BO; clear ho hb hg hat))
                go_roundg (b.f4.length - (i + 1))
                case measure => have := HI5.out; have := HLT.out; omega
                case rel => exact ⟨i + 1, V8, cap8, val_step HLT.out HMXL.out, ⟨HLT.out, by have := HI5.out; omega⟩, ⟨G8.out.put (by decide) 4 _ rfl⟩⟩
            · have hi : i = b.f4.length := by have := HI5.out.1; omega
              subst hi
              have G3 := Aside0.mk (Stg.next (show Stg w (w.heap.size + 5) n2 gO 31 (JBx (w.heap.size) (w.heap.size + 1) (w.heap.size + 1 + 1) (w.heap.size + 1 + 1 + 1) (w.heap.size + 1 + 1 + 1 + 1) ⟨P1, p1, P2, p2, P3, p3, P4, p4⟩ fr ⟨M1, m1, M2, m2, M3, m3, M4, m4⟩ md ⟨A2, a2, A3, a3, A4, a4, A5, a5⟩ a ⟨B2, b2, B3, b3, B4, b4, B5, b5⟩ b) (fun W => (True ∧ RS (Kd.int .i64) W V cap (a.f2.map (joinF md b))) ∧ RS (Kd.slice 3 (Kd.int .i64)) W O co ((List.range j).map (joinRow a b))) (Kd.int .i64) 3 #[.int .i64 (sk a b), .int .i64 (ph a b), .slice V a.f2.length cap, .slice O j co, .slice L b.f4.length cl, .slice none 0 0, .int .i64 0] L b.f4.length cl (b.f4.map (joinL md a)) wr from by have h_ := G.out; rw [List.take_length] at h_; exact h_) (Kd.int .i64) 3)
              clear G HI5 hlt
              obtain ⟨n3, hn3⟩ : ∃ n3, wr.heap.size = n3 := ⟨_, rfl⟩
              rw [hn3] at G3
              clear hn3
              have hne : ¬ (b.f4.length : Int) < (b.f4.length : Int) := by omega
              obtain ⟨tp, htp⟩ : ∃ tp, transP fr a.f4 b.f5 = tp := ⟨_, rfl⟩
              have hlas := lasOk_of HOA.out (gCheck_ok HC3.out.1).1 (gCheck_ok HC3.out.1).2.1 (by have := gCheck_ok HC3.out.1; omega)
              have hck5 : predCheck a.f4.length b.f5 = 0 := by rw [HOA.out.n4]; exact HOB.out.k
              have hsz5 : (fr.f1.length : Int) + b.f5.f0.length ≤ 1000 := by have := SB.out; have := SF.out; omega
              have HTF := Aside0.mk (transP_fits hlas hck5 hsz5)
              have HTC := Aside0.mk (fun W (hb : Below w.heap.size w W) => ref25_Translated ⟨P1, p1, P2, p2, P3, p3, P4, p4⟩ fr A4 a4 a.f4 B5 b5 b.f5 W (HRA.out.below hb).s4 (HRB.out.below hb).s5 FB.out.p hlas hck5 hsz5)
              rw [htp] at HTF HTC
              obtain ⟨fp, hfp⟩ : ∃ fp, andP fr.f1.length a.f5 tp = fp := ⟨_, rfl⟩
              have HFP := Aside0.mk (show factOf fr a b = fp by unfold factOf; rw [htp, hfp])
              have HAN := Aside0.mk (fun W TA tk (hb : Below w.heap.size w W) (ht : RS kGate W TA tk tp.f0) => ref24_And fr.f1.length A5 a5 a.f5 TA tk tp W (HRA.out.below hb).s5 FA.out.p ht HTF.out)
              rw [and_same, hfp] at HAN
              clear htp hfp hlas hck5 hsz5
              have G4 := Aside0.mk (G3.out.below (below_drew (Below.refl wr.heap.size wr)))
              go_wp2
              refine start_ (n := 18) (S := (fun w' : World => JBx (w.heap.size) (w.heap.size + 1) (w.heap.size + 1 + 1) (w.heap.size + 1 + 1 + 1) (w.heap.size + 1 + 1 + 1 + 1) ⟨P1, p1, P2, p2, P3, p3, P4, p4⟩ fr ⟨M1, m1, M2, m2, M3, m3, M4, m4⟩ md ⟨A2, a2, A3, a3, A4, a4, A5, a5⟩ a ⟨B2, b2, B3, b3, B4, b4, B5, b5⟩ b w')) (ds := []) #[false, false, false, false, false, false, false, false, false, false, false, false, false, false, false, false, false, false] (by kernel_rfl) rfl rfl G3.out.HB.self (fun hHeld => ?_)
              refine pure_ (i := 0) (N := some 186) (v := ?_) (a' := ?_) #[true, false, false, false, false, false, false, false, false, false, false, false, false, false, false, false, false, false] rfl rfl (by kernel_rfl) (fun _ _ _ h => h) (Or.inl ⟨by rfl, ?_⟩) ?_ ?_
              rotate_left
              · intro w'
                go_simp
                with_reducible rfl
              rotate_left
              · simp only [Act.put, List.setIfInBounds_toArray, List.set_cons_zero, List.set_cons_succ]
                rfl
              refine take_ (i := 1) (N := some 187) (v := ?_) (a' := ?_) #[true, true, false, false, false, false, false, false, false, false, false, false, false, false, false, false, false, false] rfl rfl (by kernel_rfl) (fun _ _ _ h => h) (Or.inl ⟨by rfl, ?_⟩) hHeld ?_ ?_
              rotate_left
              · intro w' s0
                obtain ⟨s0, s1, s2, s3, s4⟩ := blk5 s0.1
                go_simp
                with_reducible rfl
              rotate_left
              · simp only [Act.put, List.setIfInBounds_toArray, List.set_cons_zero, List.set_cons_succ]
                rfl
              refine pure_ (i := 2) (N := some 188) (v := ?_) (a' := ?_) #[true, true, true, false, false, false, false, false, false, false, false, false, false, false, false, false, false, false] rfl rfl (by kernel_rfl) (fun _ _ _ h => h) (Or.inl ⟨by rfl, ?_⟩) ?_ ?_
              rotate_left
              · intro w'
                go_simp
                with_reducible rfl
              rotate_left
              · simp only [Act.put, List.setIfInBounds_toArray, List.set_cons_zero, List.set_cons_succ]
                rfl
              refine pure_ (i := 3) (N := some 189) (v := ?_) (a' := ?_) #[true, true, true, true, false, false, false, false, false, false, false, false, false, false, false, false, false, false] rfl rfl (by kernel_rfl) (fun _ _ _ h => h) (Or.inl ⟨by rfl, ?_⟩) ?_ ?_
              rotate_left
              · intro w'
                go_simp
                with_reducible rfl
              rotate_left
              · simp only [Act.put, List.setIfInBounds_toArray, List.set_cons_zero, List.set_cons_succ]
                rfl
              refine take_ (i := 4) (N := some 190) (v := ?_) (a' := ?_) #[true, true, true, true, true, false, false, false, false, false, false, false, false, false, false, false, false, false] rfl rfl (by kernel_rfl) (fun _ _ _ h => h) (Or.inl ⟨by rfl, ?_⟩) hHeld ?_ ?_
              rotate_left
              · intro w' s0
                obtain ⟨⟨s0, s1, s2, s3, s4, s5, s6⟩, _⟩ := blk7 s0.2.2.1
                go_simp
                with_reducible rfl
              rotate_left
              · simp only [Act.put, List.setIfInBounds_toArray, List.set_cons_zero, List.set_cons_succ]
                rfl
              refine take_ (i := 5) (N := some 191) (v := ?_) (a' := ?_) #[true, true, true, true, true, true, false, false, false, false, false, false, false, false, false, false, false, false] rfl rfl (by kernel_rfl) (fun _ _ _ h => h) (Or.inl ⟨by rfl, ?_⟩) hHeld ?_ ?_
              rotate_left
              · intro w' s0
                obtain ⟨s0, s1, s2, s3, s4⟩ := blk5 s0.1
                go_simp
                with_reducible rfl
              rotate_left
              · simp only [Act.put, List.setIfInBounds_toArray, List.set_cons_zero, List.set_cons_succ]
                rfl
              refine pure_ (i := 6) (N := some 192) (v := ?_) (a' := ?_) #[true, true, true, true, true, true, true, false, false, false, false, false, false, false, false, false, false, false] rfl rfl (by kernel_rfl) (fun _ _ _ h => h) (Or.inl ⟨by rfl, ?_⟩) ?_ ?_
              rotate_left
              · intro w'
                go_simp
                with_reducible rfl
              rotate_left
              · simp only [Act.put, List.setIfInBounds_toArray, List.set_cons_zero, List.set_cons_succ]
                rfl
              refine take_ (i := 7) (N := some 193) (v := ?_) (a' := ?_) #[true, true, true, true, true, true, true, true, false, false, false, false, false, false, false, false, false, false] rfl rfl (by kernel_rfl) (fun _ _ _ h => h) (Or.inl ⟨by rfl, ?_⟩) hHeld ?_ ?_
              rotate_left
              · intro w' s0
                obtain ⟨⟨s0, s1, s2, s3, s4, s5, s6⟩, _⟩ := blk7 s0.2.2.1
                go_simp
                with_reducible rfl
              rotate_left
              · simp only [Act.put, List.setIfInBounds_toArray, List.set_cons_zero, List.set_cons_succ]
                rfl
              refine pure_ (i := 8) (N := some 194) (v := ?_) (a' := ?_) #[true, true, true, true, true, true, true, true, true, false, false, false, false, false, false, false, false, false] rfl rfl (by kernel_rfl) (fun _ _ _ h => h) (Or.inl ⟨by rfl, ?_⟩) ?_ ?_
              rotate_left
              · intro w'
                go_simp
                with_reducible rfl
              rotate_left
              · simp only [Act.put, List.setIfInBounds_toArray, List.set_cons_zero, List.set_cons_succ]
                rfl
              refine take_ (i := 9) (N := some 195) (v := ?_) (a' := ?_) #[true, true, true, true, true, true, true, true, true, true, false, false, false, false, false, false, false, false] rfl rfl (by kernel_rfl) (fun _ _ _ h => h) (Or.inl ⟨by rfl, ?_⟩) hHeld ?_ ?_
              rotate_left
              · intro w' s0
                obtain ⟨⟨s0, s1, s2, s3, s4, s5, s6⟩, _⟩ := blk7 s0.2.2.2.1
                go_simp
                with_reducible rfl
              rotate_left
              · simp only [Act.put, List.setIfInBounds_toArray, List.set_cons_zero, List.set_cons_succ]
                rfl
              refine join_ (fuel' := 2) #[true, true, true, true, true, true, true, true, true, true, true, true, true, true, true, true, false, false] (fun s : Nat × (Option Addr × Nat) × (Option Addr × Nat) => [(196, .agg #[.slice s.2.1.1 tp.f0.length s.2.1.2, .int .i64 tp.f1]), (197, .tuple #[.agg #[.slice s.2.2.1 fp.1.f0.length s.2.2.2, .int .i64 fp.1.f1], .int .i64 fp.2]), (185, .tuple #[.agg #[.slice s.2.2.1 fp.1.f0.length s.2.2.2, .int .i64 fp.1.f1], .int .i64 fp.2]), (198, .agg #[.slice s.2.2.1 fp.1.f0.length s.2.2.2, .int .i64 fp.1.f1]), (199, .int .i64 fp.2), (22, .pointer (some ⟨s.1, 0, none⟩))]) (fun s w' => (Stg w (w.heap.size + 5) n3 gO 31 (JBx (w.heap.size) (w.heap.size + 1) (w.heap.size + 1 + 1) (w.heap.size + 1 + 1 + 1) (w.heap.size + 1 + 1 + 1 + 1) ⟨P1, p1, P2, p2, P3, p3, P4, p4⟩ fr ⟨M1, m1, M2, m2, M3, m3, M4, m4⟩ md ⟨A2, a2, A3, a3, A4, a4, A5, a5⟩ a ⟨B2, b2, B3, b3, B4, b4, B5, b5⟩ b) (fun W => ((True ∧ RS (Kd.int .i64) W V cap (a.f2.map (joinF md b))) ∧ RS (Kd.slice 3 (Kd.int .i64)) W O co ((List.range j).map (joinRow a b))) ∧ RS (Kd.int .i64) W L cl (b.f4.map (joinL md a))) (Kd.int .i64) 3 #[.int .i64 (sk a b), .int .i64 (ph a b), .slice V a.f2.length cap, .slice O j co, .slice L b.f4.length cl, .slice none 0 0, .int .i64 0] none 0 0 ([] : List Int) w' ∧ Kd.R kGate 93 w' w.heap.size (fun _ => True) (.slice s.2.2.1 fp.1.f0.length s.2.2.2) fp.1.f0) ∧ w'.heap[s.1]? = some (.cells #[.slice none 0 0, .int .i64 0] 29 (0, 0)) ∧ n3 ≤ s.1) ?hcont ?hjoin
              case hjoin =>
                intro hcont
                refine two_ (i := 10) (j := 15) (Ni := some 196) (Nj := some 22) #[true, true, true, true, true, true, true, true, true, true, true, false, false, false, false, false, false, false] #[true, true, true, true, true, true, true, true, true, true, false, false, false, false, false, true, false, false] rfl rfl rfl rfl (by kernel_rfl) (by decide) (by decide) (fun K hK => ?_) (fun K hK => ?_)
                · skip
                  refine goes_ Try.func58 (by kernel_rfl) rfl #[.agg #[.int .i64 fr.f0, .slice P1 fr.f1.length p1, .slice P2 fr.f2.length p2, .slice P3 fr.f3.length p3, .slice P4 fr.f4.length p4], .slice A4 a.f4.length a4, .agg #[.slice B5 b.f5.f0.length b5, .int .i64 b.f5.f1]] (by rfl) rfl rfl (by simp only [List.map_toArray, List.map_cons, List.map_nil] <;> rfl) ?_
                  refine (HTC.out _ G4.out.BW).mono ?_
                  rintro e w6 ⟨TA, tk, rfl, hrt, hb6⟩
                  refine ⟨_, rfl, ?_⟩
                  have G6 := Aside0.mk (G4.out.below hb6)
                  have RT6 := Aside0.mk (RS.of_R' hrt)
                  clear hb6 hrt
                  refine hK.out _ _ G6.out.HB.self (fun hHeld => ?_)
                  clear hK K
                  refine norm_ (a' := ?_) ?_ ?_
                  rotate_left
                  · show Act.put _ (some 196) _ = _
                    simp only [Act.put, List.setIfInBounds_toArray, List.set_cons_zero, List.set_cons_succ]
                    rfl
                  refine two_ (i := 11) (j := 15) (Ni := some 197) (Nj := some 22) #[true, true, true, true, true, true, true, true, true, true, true, true, false, false, false, false, false, false] #[true, true, true, true, true, true, true, true, true, true, true, false, false, false, false, true, false, false] rfl rfl rfl rfl (by kernel_rfl) (by decide) (by decide) (fun K hK => ?_) (fun K hK => ?_)
                  · skip
                    refine goes_ Try.func57 (by kernel_rfl) rfl #[.int .i64 (fr.f1.length : Int), .agg #[.slice A5 a.f5.f0.length a5, .int .i64 a.f5.f1], .agg #[.slice TA tp.f0.length tk, .int .i64 tp.f1]] (by rfl) rfl rfl (by simp only [List.map_toArray, List.map_cons, List.map_nil] <;> rfl) ?_
                    refine (HAN.out _ TA tk G6.out.BW RT6.out).mono ?_
                    rintro e w7 ⟨FA7, fk7, rfl, hr7, hb7⟩
                    refine ⟨_, rfl, ?_⟩
                    have G7 := Aside0.mk (G6.out.below hb7)
                    have R7_ := Aside0.mk (Kd.R_lower hr7 G6.out.BW.size)
                    clear hb7 hr7
                    refine hK.out _ _ G7.out.HB.self (fun hHeld => ?_)
                    clear hK K
                    refine norm_ (a' := ?_) ?_ ?_
                    rotate_left
                    · show Act.put _ (some 197) _ = _
                      simp only [Act.put, List.setIfInBounds_toArray, List.set_cons_zero, List.set_cons_succ]
                      rfl
                    refine pure_ (i := 12) (N := some 185) (v := ?_) (a' := ?_) #[true, true, true, true, true, true, true, true, true, true, true, true, true, false, false, false, false, false] rfl rfl (by kernel_rfl) (fun _ _ _ h => h) (Or.inl ⟨by rfl, ?_⟩) ?_ ?_
                    rotate_left
                    · intro w'
                      go_simp
                      with_reducible rfl
                    rotate_left
                    · simp only [Act.put, List.setIfInBounds_toArray, List.set_cons_zero, List.set_cons_succ]
                      rfl
                    refine pure_ (i := 13) (N := some 198) (v := ?_) (a' := ?_) #[true, true, true, true, true, true, true, true, true, true, true, true, true, true, false, false, false, false] rfl rfl (by kernel_rfl) (fun _ _ _ h => h) (Or.inl ⟨by rfl, ?_⟩) ?_ ?_
                    rotate_left
                    · intro w'
                      go_simp
                      with_reducible rfl
                    rotate_left
                    · simp only [Act.put, List.setIfInBounds_toArray, List.set_cons_zero, List.set_cons_succ]
                      rfl
                    refine pure_ (i := 14) (N := some 199) (v := ?_) (a' := ?_) #[true, true, true, true, true, true, true, true, true, true, true, true, true, true, true, false, false, false] rfl rfl (by kernel_rfl) (fun _ _ _ h => h) (Or.inl ⟨by rfl, ?_⟩) ?_ ?_
                    rotate_left
                    · intro w'
                      go_simp
                      with_reducible rfl
                    rotate_left
                    · simp only [Act.put, List.setIfInBounds_toArray, List.set_cons_zero, List.set_cons_succ]
                      rfl
                    refine one_ (i := 15) (N := some 22) #[true, true, true, true, true, true, true, true, true, true, true, true, true, true, true, true, false, false] rfl rfl (by kernel_rfl) (by decide) (fun K hK => ?_)
                    refine value_ (w1 := ?_) (v := ?_) (by rfl) rfl ?_ ?_
                    rotate_left 2
                    · go_simp
                      constructor
                      · rfl
                      · rfl
                    refine hK.out _ _ (G7.out.below (below_alloc (Below.refl _ _) _)).HB.self (fun hHeld => ?_)
                    clear hK K
                    refine norm_ (a' := ?_) ?_ ?_
                    rotate_left
                    · show Act.put _ (some 22) _ = _
                      simp only [Act.put, List.setIfInBounds_toArray, List.set_cons_zero, List.set_cons_succ]
                      rfl
                    refine norm_ ?_ (hcont (w7.heap.size, (TA, tk), (FA7, fk7)) _ ⟨⟨G7.out.below (below_alloc (Below.refl _ _) _), Kd.R_below R7_.out (below_alloc (Below.refl _ _) _)⟩, blk_new _ _, G7.out.sz⟩)
                    simp only [putAll, Act.put, List.setIfInBounds_toArray, List.set_cons_zero, List.set_cons_succ] <;> rfl
                  · skip
                    refine value_ (w1 := ?_) (v := ?_) (by rfl) rfl ?_ ?_
                    rotate_left 2
                    · go_simp
                      constructor
                      · rfl
                      · rfl
                    have G7 := Aside0.mk (G6.out.below (below_alloc (Below.refl _ _) (.cells #[.slice none 0 0, .int .i64 0] 29)))
                    refine hK.out _ _ G7.out.HB.self (fun hHeld => ?_)
                    clear hK K
                    refine norm_ (a' := ?_) ?_ ?_
                    rotate_left
                    · show Act.put _ (some 22) _ = _
                      simp only [Act.put, List.setIfInBounds_toArray, List.set_cons_zero, List.set_cons_succ]
                      rfl
                    refine one_ (i := 11) (N := some 197) #[true, true, true, true, true, true, true, true, true, true, true, true, false, false, false, true, false, false] rfl rfl (by kernel_rfl) (by decide) (fun K hK => ?_)
                    refine goes_ Try.func57 (by kernel_rfl) rfl #[.int .i64 (fr.f1.length : Int), .agg #[.slice A5 a.f5.f0.length a5, .int .i64 a.f5.f1], .agg #[.slice TA tp.f0.length tk, .int .i64 tp.f1]] (by rfl) rfl rfl (by simp only [List.map_toArray, List.map_cons, List.map_nil] <;> rfl) ?_
                    refine (HAN.out _ TA tk G7.out.BW (RT6.out.below (below_alloc (Below.refl _ _) _))).mono ?_
                    rintro e w7 ⟨FA7, fk7, rfl, hr7, hb7⟩
                    refine ⟨_, rfl, ?_⟩
                    have G8 := Aside0.mk (G7.out.below hb7)
                    have R7_ := Aside0.mk (Kd.R_lower hr7 G7.out.BW.size)
                    have BP7 := Aside0.mk (blk_below (blk_new w6 (.cells #[.slice none 0 0, .int .i64 0] 29)) hb7)
                    clear hb7 hr7
                    refine hK.out _ _ G8.out.HB.self (fun hHeld => ?_)
                    clear hK K
                    refine norm_ (a' := ?_) ?_ ?_
                    rotate_left
                    · show Act.put _ (some 197) _ = _
                      simp only [Act.put, List.setIfInBounds_toArray, List.set_cons_zero, List.set_cons_succ]
                      rfl
                    refine pure_ (i := 12) (N := some 185) (v := ?_) (a' := ?_) #[true, true, true, true, true, true, true, true, true, true, true, true, true, false, false, true, false, false] rfl rfl (by kernel_rfl) (fun _ _ _ h => h) (Or.inl ⟨by rfl, ?_⟩) ?_ ?_
                    rotate_left
                    · intro w'
                      go_simp
                      with_reducible rfl
                    rotate_left
                    · simp only [Act.put, List.setIfInBounds_toArray, List.set_cons_zero, List.set_cons_succ]
                      rfl
                    refine pure_ (i := 13) (N := some 198) (v := ?_) (a' := ?_) #[true, true, true, true, true, true, true, true, true, true, true, true, true, true, false, true, false, false] rfl rfl (by kernel_rfl) (fun _ _ _ h => h) (Or.inl ⟨by rfl, ?_⟩) ?_ ?_
                    rotate_left
                    · intro w'
                      go_simp
                      with_reducible rfl
                    rotate_left
                    · simp only [Act.put, List.setIfInBounds_toArray, List.set_cons_zero, List.set_cons_succ]
                      rfl
                    refine pure_ (i := 14) (N := some 199) (v := ?_) (a' := ?_) #[true, true, true, true, true, true, true, true, true, true, true, true, true, true, true, true, false, false] rfl rfl (by kernel_rfl) (fun _ _ _ h => h) (Or.inl ⟨by rfl, ?_⟩) ?_ ?_
                    rotate_left
                    · intro w'
                      go_simp
                      with_reducible rfl
                    rotate_left
                    · simp only [Act.put, List.setIfInBounds_toArray, List.set_cons_zero, List.set_cons_succ]
                      rfl
                    refine norm_ ?_ (hcont (w6.heap.size, (TA, tk), (FA7, fk7)) _ ⟨⟨G8.out, R7_.out⟩, BP7.out, G6.out.sz⟩)
                    simp only [putAll, Act.put, List.setIfInBounds_toArray, List.set_cons_zero, List.set_cons_succ] <;> rfl
                · skip
                  refine value_ (w1 := ?_) (v := ?_) (by rfl) rfl ?_ ?_
                  rotate_left 2
                  · go_simp
                    constructor
                    · rfl
                    · rfl
                  have G5 := Aside0.mk (G4.out.below (below_alloc (Below.refl _ _) (.cells #[.slice none 0 0, .int .i64 0] 29)))
                  have BP5 := Aside0.mk (blk_new wr.drew (.cells #[.slice none 0 0, .int .i64 0] 29))
                  refine hK.out _ _ G5.out.HB.self (fun hHeld => ?_)
                  clear hK K
                  refine norm_ (a' := ?_) ?_ ?_
                  rotate_left
                  · show Act.put _ (some 22) _ = _
                    simp only [Act.put, List.setIfInBounds_toArray, List.set_cons_zero, List.set_cons_succ]
                    rfl
                  refine one_ (i := 10) (N := some 196) #[true, true, true, true, true, true, true, true, true, true, true, false, false, false, false, true, false, false] rfl rfl (by kernel_rfl) (by decide) (fun K hK => ?_)
                  refine goes_ Try.func58 (by kernel_rfl) rfl #[.agg #[.int .i64 fr.f0, .slice P1 fr.f1.length p1, .slice P2 fr.f2.length p2, .slice P3 fr.f3.length p3, .slice P4 fr.f4.length p4], .slice A4 a.f4.length a4, .agg #[.slice B5 b.f5.f0.length b5, .int .i64 b.f5.f1]] (by rfl) rfl rfl (by simp only [List.map_toArray, List.map_cons, List.map_nil] <;> rfl) ?_
                  refine (HTC.out _ G5.out.BW).mono ?_
                  rintro e w6 ⟨TA, tk, rfl, hrt, hb6⟩
                  refine ⟨_, rfl, ?_⟩
                  have G6 := Aside0.mk (G5.out.below hb6)
                  have BP6 := Aside0.mk (blk_below BP5.out hb6)
                  have RT6 := Aside0.mk (RS.of_R' hrt)
                  clear hb6 hrt
                  refine hK.out _ _ G6.out.HB.self (fun hHeld => ?_)
                  clear hK K
                  refine norm_ (a' := ?_) ?_ ?_
                  rotate_left
                  · show Act.put _ (some 196) _ = _
                    simp only [Act.put, List.setIfInBounds_toArray, List.set_cons_zero, List.set_cons_succ]
                    rfl
                  refine one_ (i := 11) (N := some 197) #[true, true, true, true, true, true, true, true, true, true, true, true, false, false, false, true, false, false] rfl rfl (by kernel_rfl) (by decide) (fun K hK => ?_)
                  refine goes_ Try.func57 (by kernel_rfl) rfl #[.int .i64 (fr.f1.length : Int), .agg #[.slice A5 a.f5.f0.length a5, .int .i64 a.f5.f1], .agg #[.slice TA tp.f0.length tk, .int .i64 tp.f1]] (by rfl) rfl rfl (by simp only [List.map_toArray, List.map_cons, List.map_nil] <;> rfl) ?_
                  refine (HAN.out _ TA tk G6.out.BW RT6.out).mono ?_
                  rintro e w7 ⟨FA7, fk7, rfl, hr7, hb7⟩
                  refine ⟨_, rfl, ?_⟩
                  have G7 := Aside0.mk (G6.out.below hb7)
                  have R7_ := Aside0.mk (Kd.R_lower hr7 G6.out.BW.size)
                  have BP7 := Aside0.mk (blk_below BP6.out hb7)
                  clear hb7 hr7
                  refine hK.out _ _ G7.out.HB.self (fun hHeld => ?_)
                  clear hK K
                  refine norm_ (a' := ?_) ?_ ?_
                  rotate_left
                  · show Act.put _ (some 197) _ = _
                    simp only [Act.put, List.setIfInBounds_toArray, List.set_cons_zero, List.set_cons_succ]
                    rfl
                  refine pure_ (i := 12) (N := some 185) (v := ?_) (a' := ?_) #[true, true, true, true, true, true, true, true, true, true, true, true, true, false, false, true, false, false] rfl rfl (by kernel_rfl) (fun _ _ _ h => h) (Or.inl ⟨by rfl, ?_⟩) ?_ ?_
                  rotate_left
                  · intro w'
                    go_simp
                    with_reducible rfl
                  rotate_left
                  · simp only [Act.put, List.setIfInBounds_toArray, List.set_cons_zero, List.set_cons_succ]
                    rfl
                  refine pure_ (i := 13) (N := some 198) (v := ?_) (a' := ?_) #[true, true, true, true, true, true, true, true, true, true, true, true, true, true, false, true, false, false] rfl rfl (by kernel_rfl) (fun _ _ _ h => h) (Or.inl ⟨by rfl, ?_⟩) ?_ ?_
                  rotate_left
                  · intro w'
                    go_simp
                    with_reducible rfl
                  rotate_left
                  · simp only [Act.put, List.setIfInBounds_toArray, List.set_cons_zero, List.set_cons_succ]
                    rfl
                  refine pure_ (i := 14) (N := some 199) (v := ?_) (a' := ?_) #[true, true, true, true, true, true, true, true, true, true, true, true, true, true, true, true, false, false] rfl rfl (by kernel_rfl) (fun _ _ _ h => h) (Or.inl ⟨by rfl, ?_⟩) ?_ ?_
                  rotate_left
                  · intro w'
                    go_simp
                    with_reducible rfl
                  rotate_left
                  · simp only [Act.put, List.setIfInBounds_toArray, List.set_cons_zero, List.set_cons_succ]
                    rfl
                  refine norm_ ?_ (hcont (wr.drew.heap.size, (TA, tk), (FA7, fk7)) _ ⟨⟨G7.out, R7_.out⟩, BP7.out, G4.out.sz⟩)
                  simp only [putAll, Act.put, List.setIfInBounds_toArray, List.set_cons_zero, List.set_cons_succ] <;> rfl
              case hcont =>
                rintro ⟨gP, ⟨TA, tk⟩, FA7, fk7⟩ w8 l8
                dsimp only at l8 ⊢
                obtain ⟨⟨g8, r8⟩, bp8, hn8⟩ := l8
                have G8 := Aside0.mk g8
                have R8 := Aside0.mk r8
                have BP8 := Aside0.mk bp8
                have HP8 := Aside0.mk hn8
                clear g8 r8 bp8 hn8 G4 G3 HTC HAN
                refine norm_ (a' := ?_) ?_ ?_
                rotate_left
                · simp only [putAll, Act.put, List.setIfInBounds_toArray, List.set_cons_zero, List.set_cons_succ]
                  rfl
                obtain ⟨⟨v0, v1⟩, z0, z1⟩ := blk2w BP8.out
                refine one_ (i := 16) (N := none) #[true, true, true, true, true, true, true, true, true, true, true, true, true, true, true, true, true, false] rfl rfl (by kernel_rfl) (by decide) (fun K hK => ?_)
                refine skip_ (w1 := ?_) (by rfl) rfl ?_ ?_
                rotate_left
                · go_simp
                  rfl
                have HB9 := Aside0.mk (show Below n3 w8 ((w8.setCell ⟨gP, 0, none⟩ (.slice FA7 fp.1.f0.length fk7)).setCell ⟨gP, 1, none⟩ (.int .i64 fp.1.f1)) from below2 (Below.refl _ _) HP8.out _ _)
                have G9 := Aside0.mk (G8.out.app HB9.out (Kd.R_nil _ _ _ _ _))
                have R9 := Aside0.mk (R2 R8.out BP8.out (by decide) (.slice FA7 fp.1.f0.length fk7) (.int .i64 fp.1.f1))
                have BP9 := Aside0.mk (blk2_set BP8.out (.slice FA7 fp.1.f0.length fk7) (.int .i64 fp.1.f1))
                refine hK.out _ _ G9.out.HB.self (fun hHeld => ?_)
                clear hK K
                refine pure_ (i := 17) (N := some 23) (v := ?_) (a' := ?_) #[true, true, true, true, true, true, true, true, true, true, true, true, true, true, true, true, true, true] rfl rfl (by kernel_rfl) (fun _ _ _ h => h) (Or.inl ⟨by rfl, ?_⟩) ?_ ?_
                rotate_left
                · intro w'
                  go_simp
                  with_reducible rfl
                rotate_left
                · simp only [Act.put, List.setIfInBounds_toArray, List.set_cons_zero, List.set_cons_succ]
                  rfl
                refine done_ (by kernel_rfl) ?_
                clear G8 R8 BP8 HB9 v0 v1 z0 z1 hHeld
                generalize (w8.setCell ⟨gP, 0, none⟩ (.slice FA7 fp.1.f0.length fk7)).setCell ⟨gP, 1, none⟩ (.int .i64 fp.1.f1) = w9 at *
                obtain ⟨v0, v1⟩ := (blk2w BP9.out).1
                obtain ⟨⟨o0, o1, o2, o3, o4, o5, o6⟩, y0, y1, y2, y3, y4, y5, y6⟩ := blk7 G9.out.BO
                obtain ⟨⟨q0, q1, q2, q3, q4, q5, q6⟩, x0, x1, x2, x3, x4, x5, x6⟩ := blk7 G9.out.HB.self.2.2.2.2
                by_cases hz : fp.2 = 0
                · have hzd : (fp.2 != 0) = false := by rw [hz]; rfl
                  have HV := Aside0.mk (show R = (⟨sk a b, ph a b, a.f2.map (joinF md b), (List.range j).map (joinRow a b), b.f4.map (joinL md a), fp.1⟩, 0) by
                    have hj : (sk a b + ph a b).toNat = j := by rw [HN.out]; rfl
                    rw [← HRN.out, HFP.out, if_neg (by simp [hz])]
                    unfold joined
                    rw [HFP.out, hj])
                  clear hz q0 q1 q2 q3 q4 q5 q6 x0 x1 x2 x3 x4 x5 x6
                  go_upto_region 40 with (fail)
                  have G10 := Aside0.mk ((G9.out.put (by decide) 5 (.slice FA7 fp.1.f0.length fk7) rfl).put (by decide) 6 (.int .i64 fp.1.f1) rfl)
                  have R10 := Aside0.mk (Kd.R_set (Kd.R_set R9.out G9.out.BO (by decide) 5 (.slice FA7 fp.1.f0.length fk7)) (blk_set G9.out.BO 5 (.slice FA7 fp.1.f0.length fk7)) (by decide) 6 (.int .i64 fp.1.f1))
                  clear G9 R9 BP9 v0 v1 o0 o1 o2 o3 o4 o5 o6 y0 y1 y2 y3 y4 y5 y6
                  generalize (w9.setCell ⟨gO, 5, none⟩ (.slice FA7 fp.1.f0.length fk7)).setCell ⟨gO, 6, none⟩ (.int .i64 fp.1.f1) = w10 at *
                  obtain ⟨⟨o0, o1, o2, o3, o4, o5, o6⟩, y0, y1, y2, y3, y4, y5, y6⟩ := blk7 G10.out.BO
                  obtain ⟨⟨q0, q1, q2, q3, q4, q5, q6⟩, x0, x1, x2, x3, x4, x5, x6⟩ := blk7 G10.out.HB.self.2.2.2.2
                  go_wp2
                  rw [HV.out]
                  refine bodyPost_ret (results_ct rfl _ _ (w.heap.size + 1 + 1 + 1 + 1) 31 #[.int .i64 (sk a b), .int .i64 (ph a b), .slice V a.f2.length cap, .slice O j co, .slice L b.f4.length cl, .slice FA7 fp.1.f0.length fk7, .int .i64 fp.1.f1] (0, 0) _ rfl (blk7_set G10.out.HB.self.2.2.2.2 _ _ _ _ _ _ _) hu31 rfl (by kernel_rfl)) rfl ?_
                  have hR7 := R7 R10.out G10.out.HB.self.2.2.2.2 (by decide) (.int .i64 (sk a b)) (.int .i64 (ph a b)) (.slice V a.f2.length cap) (.slice O j co) (.slice L b.f4.length cl) (.slice FA7 fp.1.f0.length fk7) (.int .i64 fp.1.f1)
                  refine ⟨⟨V, cap, O, co, L, cl, FA7, fk7⟩, ?_, fun W hW => ?_, below7 G10.out.BW (by omega) _ _ _ _ _ _ _⟩
                  · simp only [lv, List.length_map, List.length_range]
                    rfl
                  · have hP := G10.out.HD W (fun k hk => (hW k (by have := hk.1; omega) (by have h1 := hk.2.1; have h2 := G10.out.N.2.2.2; simp; omega)).trans (heap7 w10 (show k ≠ w.heap.size + 1 + 1 + 1 + 1 by have := hk.1; omega) (.int .i64 (sk a b)) (.int .i64 (ph a b)) (.slice V a.f2.length cap) (.slice O j co) (.slice L b.f4.length cl) (.slice FA7 fp.1.f0.length fk7) (.int .i64 fp.1.f1)))
                    exact ⟨hP.1.1.2, hP.1.2, hP.2, RS.of_R' (Kd.R_step (Kd.R_bound hR7) (fun k hk hlt => hW k hk.2.1 hlt))⟩
                · have hzd : (fp.2 != 0) = true := bne_iff_ne.mpr hz
                  have HV := Aside0.mk (show R = (zeroL, fp.2) by rw [← HRN.out, HFP.out, if_pos hz])
                  clear hz
                  go_wp2
                  rw [HV.out]
                  refine bodyPost_ret (results_ct rfl _ _ (w.heap.size + 1 + 1 + 1 + 1) 31 #[.int .i64 0, .int .i64 0, .slice none 0 0, .slice none 0 0, .slice none 0 0, .slice none 0 0, .int .i64 0] (0, 0) _ rfl (blk7_set G9.out.HB.self.2.2.2.2 _ _ _ _ _ _ _) hu31 rfl (by kernel_rfl)) rfl ?_
                  exact ⟨⟨none, 0, none, 0, none, 0, none, 0⟩, rfl, fun W _ => ⟨RS.nil _ _ _, RS.nil _ _ _, RS.nil _ _ _, RS.nil _ _ _⟩, below7 G9.out.BW (by omega) _ _ _ _ _ _ _⟩
end Go.Proofs.Ytlhiapggccgggaa.PH
