/- The laws of phases: their example, their errors. -/
import Derived.Test.YtpfkiecihheidaaHLawPk
import Derived.Test.YtpfkiecihheidaaHLitRows
namespace Go.Proofs.Ytpfkiecihheidaa.PH
open Go.RowKit Go.Proofs.YtpfkiecihheidaaW.PrintWords Go.Proofs.YtpfkiecihheidaaW.PrintLast
set_option linter.unusedVariables false
set_option linter.unusedSimpArgs false

def turnC : Circ := ⟨0, [⟨3, 0⟩], [], [2], []⟩
theorem R_latB (W : World) (x y : Int) (base t : Nat) (hb : base ≤ W.heap.size) : Kd.R kLatch t (W.alloc (.cells #[.int .i64 x, .int .i64 y] t)) base (fun _ => True) (.slice (some ⟨W.heap.size, 0, none⟩) 1 1) [⟨x, y⟩] :=
  ⟨fun _ _ => trivial, [.int .i64 x, .int .i64 y], (by have h := World.ownsRow_lit (base := base) (e := t) (size := 2) W #[.int .i64 x, .int .i64 y] 1 hb (by decide) rfl; simpa using h : (W.alloc (.cells #[.int .i64 x, .int .i64 y] t)).ownsRow base t 2 (.slice (some ⟨W.heap.size, 0, none⟩) 1 1) 1 [.int .i64 x, .int .i64 y]), ⟨rfl, fun j p hj => by
    cases j with
    | zero =>
      have e : (⟨x, y⟩ : Latch) = p := by simpa using hj
      subst e
      exact kLatch_mkM _ _ _ _
    | succ j => simp at hj⟩⟩
theorem reps_lat (P : World → Nat → Prop) {W : World} {b : Nat} {ok : Nat → Prop} (x y : Int) : Reps (kLatch.M W b ok) kLatch.sz [⟨x, y⟩] [.int .i64 x, .int .i64 y] :=
  ⟨rfl, fun j p hj => by
    cases j with
    | zero =>
      have e : (⟨x, y⟩ : Latch) = p := by simpa using hj
      subst e
      exact kLatch_mkM _ _ _ _
    | succ j => simp at hj⟩
set_option maxHeartbeats 2000000 in
set_option maxRecDepth 100000 in
theorem law_turning (w : World) : Calls Try.prog 18 #[] w fun e w' => RetT w w' turnC e := by
  have hu26 := Try.underlying26
  have S0 := Aside0.mk ((Parts.start w).new 26 #[.int .i64 0, .slice none 0 0, .slice none 0 0, .slice none 0 0, .slice none 0 0])
  go_enter Try.func18, Try.ntmps18
  go_upto_region 1 with (fail)
  generalize w.alloc (.cells #[.int .i64 0, .slice none 0 0, .slice none 0 0, .slice none 0 0, .slice none 0 0] 26) = w1 at *
  go_wp2_with (first | ((with_reducible refine gate_dst (N := 2) rfl ?_); refine Parts.litL S0.out kLatch 79 flat_latch rfl rfl [⟨3, 0⟩] [.int .i64 3, .int .i64 0] ?hr (reps_lat (fun _ _ => True) 3 0) (by decide) ?_; (case hr => first | (go_simp; done) | (go_simp; rfl)); intro V1 k1 w2 h1; have S1 := Aside0.mk h1; clear h1) | ((with_reducible refine gate_dst (N := 3) rfl ?_); refine Parts.litL S1.out (Kd.int .i64) 3 flat_int rfl rfl [2] [.int .i64 2] ?hr (Kd.reps_scalar (enc := Value.int .i64) [2]) (by decide) ?_; (case hr => first | (go_simp; done) | (go_simp; rfl)); intro V2 k2 w3 h2; have S2 := Aside0.mk h2; clear h2; obtain ⟨⟨r0, r1, r2, r3, r4⟩, z0, z1, z2, z3, z4⟩ := blk5w (S2.out.blk 2 rfl)))
  have S3 := Aside0.mk (((((S2.out.put 2 rfl 0 (.int .i64 0) rfl).put 2 rfl 1 (.slice V1 1 k1) rfl).put 2 rfl 2 (.slice none 0 0) rfl).put 2 rfl 3 (.slice V2 1 k2) rfl).put 2 rfl 4 (.slice none 0 0) rfl)
  refine bodyPost_ret (results_cell_row rfl _ _ w.heap.size 26 #[.int .i64 0, .slice V1 1 k1, .slice none 0 0, .slice V2 1 k2, .slice none 0 0] (0, 0) _ rfl (S3.out.blk 2 rfl) hu26 rfl (by kernel_rfl)) rfl ?_
  exact ⟨⟨V1, k1, none, 0, V2, k2, none, 0⟩, rfl, ⟨S3.out.ownF 1 rfl, Kd.R_nil _ _ _ _ _, S3.out.ownF 0 rfl, Kd.R_nil _ _ _ _ _⟩, S3.out.B⟩
theorem fits_of {c : Circ} (h1 : c.f1.length ≤ 1000) (h2 : c.f2.length ≤ 1000) (h0 : I64 c.f0) (hl : ∀ x ∈ c.f1, I64 x.f0 ∧ I64 x.f1) (hg : ∀ x ∈ c.f2, I64 x.f0 ∧ I64 x.f1) (hb : ∀ x ∈ c.f3, I64 x) (hc : ∀ x ∈ c.f4, I64 x) : c.Fits := ⟨by omega, by omega, h0, hl, hg, hb, hc⟩
instance i64_dec (k : Int) : Decidable (I64 k) := by unfold I64; infer_instance
theorem turn_of : ∃ r, phOf turnC 2 = (r, 0) ∧ r.f0 = ⟨0, [⟨2, 0⟩], [], [1], [1]⟩ ∧ r.f1.f0 = 0 ∧ r.f1.f1 = 2 ∧ r.f1.f3.length = 2 := ⟨(phOf turnC 2).1, by kernel_rfl, by kernel_rfl, by kernel_rfl, by kernel_rfl, by kernel_rfl⟩
theorem turn_fits : turnC.Fits := ⟨by decide, by decide, ⟨by decide, by decide⟩, by decide, by decide, by decide, by decide⟩
theorem same_eq (p : CP) (c : Circ) (q : CP) (d : Circ) (w : World) (h : RC w p c) (h' : RC w q d) (e : c = d) :
    Calls Try.prog 15 #[cv p c, cv q d] w fun e w' => e = .returned (.bool true) ∧ Below w.heap.size w w' := by
  subst e
  exact same_circ p c q w h h'
set_option maxHeartbeats 4000000 in
set_option maxRecDepth 100000 in
theorem law_alive (w : World) : Calls Try.prog 16 #[] w fun e w' => e = .returned (.bool true) ∧ Below w.heap.size w w' := by
  have hu26 := Try.underlying26
  have hu40 := Try.underlying35
  have HF := Aside0.mk turn_fits
  have HT := Aside0.mk law_turning
  obtain ⟨r, h0, hr0, hr1, hr2, hr3⟩ := turn_of
  generalize turnC = tc at *
  have HO := Aside0.mk h0
  have HR := Aside0.mk hr0
  have b1 : (r.f1.f0 == 0) = true := beq_iff_eq.2 hr1
  have b2 : (r.f1.f1 == 2) = true := beq_iff_eq.2 hr2
  have b3 : ((r.f1.f3.length : Int) == 2) = true := beq_iff_eq.2 (by omega)
  clear h0 hr0 hr1 hr2 hr3
  have S0 := Aside0.mk (Parts.start w)
  go_enter Try.func16, Try.ntmps16
  go_wp2_with fail
  refine (HT.out _).mono ?_
  rintro e w1 ⟨p1, rfl, hr, hb⟩
  have S1 := Aside0.mk (S0.out.ofRs (P := fun W => RC W p1 tc) (fun W hW => hr.held hW) hb)
  clear hr hb S0
  have CO := Aside0.mk (phases_Of p1 tc 2 _ (Held.self (S1.out.hP 0 _ rfl)) HF.out)
  rw [HO.out] at CO
  go_wp2_with fail
  refine CO.out.mono ?_
  rintro e w2 ⟨p2, q2, rfl, hh, hb⟩
  go_upto_region 2 with (fail)
  have S2 := Aside0.mk ((S1.out.ofRs hh hb).new 35 (rvals p2 q2 r))
  clear hh hb S1 CO
  generalize w2.heap.size = g1 at *
  generalize w2.alloc (.cells (rvals p2 q2 r) 35) = w3 at *
  obtain ⟨x0, _⟩ := S2.out.cell 0 rfl 0 rfl
  obtain ⟨x1, _⟩ := S2.out.cell 0 rfl 1 rfl
  obtain ⟨x2, _⟩ := S2.out.cell 0 rfl 2 rfl
  obtain ⟨x3, _⟩ := S2.out.cell 0 rfl 3 rfl
  obtain ⟨x4, _⟩ := S2.out.cell 0 rfl 4 rfl
  go_wp2_with fail
  have h1 := S2.out.freshF flat_latch (below_alloc (Below.refl _ _) (.cells #[.int .i64 2, .int .i64 0] 79)) (R_latB _ 2 0 _ 79 (Nat.le_refl _))
  have h2 := h1.freshF flat_int (below_alloc (Below.refl _ _) (.cells #[.int .i64 1] 3)) (R_oneB _ 1 _ 3 (Nat.le_refl _))
  have h3 := h2.freshF flat_int (below_alloc (Below.refl _ _) (.cells #[.int .i64 1] 3)) (R_oneB _ 1 _ 3 (Nat.le_refl _))
  simp only [World.size_alloc] at h3
  have S3 := Aside0.mk h3
  clear h1 h2 h3 S2 x0 x1 x2 x3 x4
  refine (same_eq p2 r.f0 ⟨some ⟨w3.heap.size, 0, none⟩, 1, none, 0, some ⟨w3.heap.size + 1, 0, none⟩, 1, some ⟨w3.heap.size + 1 + 1, 0, none⟩, 1⟩ ⟨0, [⟨2, 0⟩], [], [1], [1]⟩ _ (Held.self (S3.out.hP 4 _ rfl)).1 ⟨S3.out.rowF 2 rfl, RS.nil _ _ _, S3.out.rowF 1 rfl, S3.out.rowF 0 rfl⟩ HR.out).mono ?_
  rintro e w4 ⟨rfl, hb⟩
  have S4 := Aside0.mk (S3.out.below hb)
  clear hb S3
  obtain ⟨x5, _⟩ := S4.out.cell 3 rfl 5 rfl
  obtain ⟨x6, _⟩ := S4.out.cell 3 rfl 6 rfl
  obtain ⟨x8, _⟩ := S4.out.cell 3 rfl 8 rfl
  go_wp2
  go_ret
  exact ⟨rfl, S4.out.B⟩
set_option maxHeartbeats 4000000 in
set_option maxRecDepth 100000 in
theorem law_errors (p : CP) (c : Circ) (k n : Int) (w : World) (h : RC w p c) (hs : c.Fits) (h1 : ∃ r, phOf c k = (r, n) ∧ r.f0 = ⟨0, [], [], [], []⟩) (h2 : ∃ r, pkPass c k = (r, n) ∧ r.f0 = ⟨0, [], [], [], []⟩) :
    Calls Try.prog 17 #[cv p c, .int .i64 k, .int .i64 n] w fun e w' => e = .returned (.bool true) ∧ Below w.heap.size w w' := by
  have hu26 := Try.underlying26
  have hu40 := Try.underlying35
  obtain ⟨r, h1, hr⟩ := h1
  obtain ⟨s, h2, hs2⟩ := h2
  have C1 := Aside0.mk (fun W (hb : Below w.heap.size w W) => phases_Of p c k W (h.below hb) hs)
  have C2 := Aside0.mk (fun W (hb : Below w.heap.size w W) => pk_Pass p c k W (h.below hb) hs)
  rw [h1] at C1
  rw [h2] at C2
  dsimp only at C1 C2
  have HR := Aside0.mk (And.intro hr hs2)
  have S0 := Aside0.mk ((Parts.start w).new 26 (fc5 p c))
  clear h hs h1 h2 hr hs2
  go_enter Try.func17, Try.ntmps17
  go_wp2_with fail
  refine (C1.out _ S0.out.B).mono ?_
  rintro e w1 ⟨p1, q1, rfl, hh, hb⟩
  go_upto_region 2 with (fail)
  have S1 := Aside0.mk ((S0.out.ofRs hh hb).new 35 (rvals p1 q1 r))
  clear hh hb S0 C1
  generalize w1.heap.size = g1 at *
  generalize w1.alloc (.cells (rvals p1 q1 r) 35) = w2 at *
  obtain ⟨c0, c1, c2, c3, c4⟩ := blk5 (S1.out.blk 2 rfl)
  go_wp2_with fail
  refine (C2.out _ S1.out.B).mono ?_
  rintro e w3 ⟨p3, q3, rfl, hh, hb⟩
  go_upto_region 3 with (fail)
  have S3 := Aside0.mk ((S1.out.ofRs hh hb).new 35 (rvals p3 q3 s))
  clear hh hb S1 C2 c0 c1 c2 c3 c4
  generalize w3.heap.size = g3 at *
  generalize w3.alloc (.cells (rvals p3 q3 s) 35) = w4 at *
  obtain ⟨x0, _⟩ := S3.out.cell 2 rfl 0 rfl
  obtain ⟨x1, _⟩ := S3.out.cell 2 rfl 1 rfl
  obtain ⟨x2, _⟩ := S3.out.cell 2 rfl 2 rfl
  obtain ⟨x3, _⟩ := S3.out.cell 2 rfl 3 rfl
  obtain ⟨x4, _⟩ := S3.out.cell 2 rfl 4 rfl
  go_wp2_with fail
  refine (same_eq p1 r.f0 ⟨none, 0, none, 0, none, 0, none, 0⟩ ⟨0, [], [], [], []⟩ _ (Held.self (S3.out.hP 3 _ rfl)).1 ⟨RS.nil _ _ _, RS.nil _ _ _, RS.nil _ _ _, RS.nil _ _ _⟩ HR.out.1).mono ?_
  rintro e w5 ⟨rfl, hb⟩
  have S5 := Aside0.mk (S3.out.below hb)
  clear hb S3 x0 x1 x2 x3 x4
  obtain ⟨x0, _⟩ := S5.out.cell 0 rfl 0 rfl
  obtain ⟨x1, _⟩ := S5.out.cell 0 rfl 1 rfl
  obtain ⟨x2, _⟩ := S5.out.cell 0 rfl 2 rfl
  obtain ⟨x3, _⟩ := S5.out.cell 0 rfl 3 rfl
  obtain ⟨x4, _⟩ := S5.out.cell 0 rfl 4 rfl
  go_wp2_with fail
  refine (same_eq p3 s.f0 ⟨none, 0, none, 0, none, 0, none, 0⟩ ⟨0, [], [], [], []⟩ _ (Held.self (S5.out.hP 1 _ rfl)).1 ⟨RS.nil _ _ _, RS.nil _ _ _, RS.nil _ _ _, RS.nil _ _ _⟩ HR.out.2).mono ?_
  rintro e w6 ⟨rfl, hb⟩
  have S6 := Aside0.mk (S5.out.below hb)
  clear hb
  go_wp2
  go_ret
  exact ⟨rfl, S6.out.B⟩
end Go.Proofs.Ytpfkiecihheidaa.PH
