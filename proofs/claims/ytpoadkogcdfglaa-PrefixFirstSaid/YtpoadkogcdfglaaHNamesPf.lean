/- The laws of prefix: their example, their errors. -/
import Derived.Test.YtpoadkogcdfglaaHLawPk
import Derived.Test.YtpoadkogcdfglaaHLitRows
namespace Go.Proofs.Ytpoadkogcdfglaa.PH
open Go.RowKit Go.Proofs.YtpoadkogcdfglaaW.PrintWords Go.Proofs.YtpoadkogcdfglaaW.PrintLast
set_option linter.unusedVariables false
set_option linter.unusedSimpArgs false

def plainC : Circ := ⟨1, [], [], [2], []⟩
theorem R_latB (W : World) (x y : Int) (base t : Nat) (hb : base ≤ W.heap.size) : Kd.R kLatch t (W.alloc (.cells #[.int .i64 x, .int .i64 y] t)) base (fun _ => True) (.slice (some ⟨W.heap.size, 0, none⟩) 1 1) [⟨x, y⟩] :=
  ⟨fun _ _ => trivial, [.int .i64 x, .int .i64 y], (by have h := World.ownsRow_lit (base := base) (e := t) (size := 2) W #[.int .i64 x, .int .i64 y] 1 hb (by decide) rfl; simpa using h : (W.alloc (.cells #[.int .i64 x, .int .i64 y] t)).ownsRow base t 2 (.slice (some ⟨W.heap.size, 0, none⟩) 1 1) 1 [.int .i64 x, .int .i64 y]), ⟨rfl, fun j p hj => by
    cases j with
    | zero =>
      have e : (⟨x, y⟩ : Latch) = p := by simpa using hj
      subst e
      exact kLatch_mkM _ _ _ _
    | succ j => simp at hj⟩⟩
set_option maxHeartbeats 2000000 in
set_option maxRecDepth 100000 in
theorem law_plain (w : World) : Calls Try.prog 16 #[] w fun e w' => RetT w w' plainC e := by
  have hu26 := Try.underlying26
  have S0 := Aside0.mk ((Parts.start w).new 26 #[.int .i64 0, .slice none 0 0, .slice none 0 0, .slice none 0 0, .slice none 0 0])
  go_enter Try.func16, Try.ntmps16
  go_upto_region 1 with (fail)
  generalize w.alloc (.cells #[.int .i64 0, .slice none 0 0, .slice none 0 0, .slice none 0 0, .slice none 0 0] 26) = w1 at *
  go_wp2_with (first | fail | ((with_reducible refine gate_dst (N := 1) rfl ?_); refine Parts.litL S0.out (Kd.int .i64) 3 flat_int rfl rfl [2] [.int .i64 2] ?hr (Kd.reps_scalar (enc := Value.int .i64) [2]) (by decide) ?_; (case hr => first | (go_simp; done) | (go_simp; rfl)); intro V2 k2 w3 hq; have S2 := Aside0.mk hq; clear hq; obtain ⟨⟨r0, r1, r2, r3, r4⟩, z0, z1, z2, z3, z4⟩ := blk5w (S2.out.blk 1 rfl)))
  have S3 := Aside0.mk (((((S2.out.put 1 rfl 0 (.int .i64 1) rfl).put 1 rfl 1 (.slice none 0 0) rfl).put 1 rfl 2 (.slice none 0 0) rfl).put 1 rfl 3 (.slice V2 1 k2) rfl).put 1 rfl 4 (.slice none 0 0) rfl)
  refine bodyPost_ret (results_cell_row rfl _ _ w.heap.size 26 #[.int .i64 1, .slice none 0 0, .slice none 0 0, .slice V2 1 k2, .slice none 0 0] (0, 0) _ rfl (S3.out.blk 1 rfl) hu26 rfl (by kernel_rfl)) rfl ?_
  exact ⟨⟨none, 0, none, 0, V2, k2, none, 0⟩, rfl, ⟨Kd.R_nil _ _ _ _ _, Kd.R_nil _ _ _ _ _, S3.out.ownF 0 rfl, Kd.R_nil _ _ _ _ _⟩, S3.out.B⟩
theorem fits_of {c : Circ} (h1 : c.f1.length ≤ 1000) (h2 : c.f2.length ≤ 1000) (h0 : I64 c.f0) (hl : ∀ x ∈ c.f1, I64 x.f0 ∧ I64 x.f1) (hg : ∀ x ∈ c.f2, I64 x.f0 ∧ I64 x.f1) (hb : ∀ x ∈ c.f3, I64 x) (hc : ∀ x ∈ c.f4, I64 x) : c.Fits := ⟨by omega, by omega, h0, hl, hg, hb, hc⟩
instance i64_dec (k : Int) : Decidable (I64 k) := by unfold I64; infer_instance
theorem plain_of : ∃ r, pfOf plainC 1 = (r, 0) ∧ r.f0 = ⟨2, [⟨0, 1⟩], [⟨6, 4⟩, ⟨9, 3⟩], [11], [1]⟩ ∧ r.f1.f0 = 1 ∧ r.f1.f3 = [[4], [2]] ∧ r.f1.f4 = [-1] := ⟨(pfOf plainC 1).1, by kernel_rfl, by kernel_rfl, by kernel_rfl, by kernel_rfl, by kernel_rfl⟩
theorem plain_fits : plainC.Fits := ⟨by decide, by decide, ⟨by decide, by decide⟩, by decide, by decide, by decide, by decide⟩
theorem same_intsE (A : Option Addr) (c : Nat) (l : List Int) (B : Option Addr) (d : Nat) (m : List Int) (w : World) (hl : RS (Kd.int .i64) w A c l) (hm : RS (Kd.int .i64) w B d m) (e : l = m) :
    Calls Try.prog 20 #[.slice A l.length c, .slice B m.length d] w fun e w' => e = .returned (.bool true) ∧ Below w.heap.size w w' := by
  subst e
  exact same_ints A c l B d w hl hm
theorem reps_gates2 {W : World} {b : Nat} {ok : Nat → Prop} (x y u v : Int) : Reps (kGate.M W b ok) kGate.sz [⟨x, y⟩, ⟨u, v⟩] [.int .i64 x, .int .i64 y, .int .i64 u, .int .i64 v] :=
  ⟨rfl, fun j p hj => by
    rcases j with _ | _ | j
    · have e : (⟨x, y⟩ : Gate) = p := by simpa using hj
      subst e
      exact kGate_mkM _ _ _ _
    · have e : (⟨u, v⟩ : Gate) = p := by simpa using hj
      subst e
      exact kGate_mkM _ _ _ _
    · simp at hj⟩
theorem same_eq (p : CP) (c : Circ) (q : CP) (d : Circ) (w : World) (h : RC w p c) (h' : RC w q d) (e : c = d) :
    Calls Try.prog 15 #[cv p c, cv q d] w fun e w' => e = .returned (.bool true) ∧ Below w.heap.size w w' := by
  subst e
  exact same_circ p c q w h h'
set_option maxHeartbeats 4000000 in
set_option maxRecDepth 100000 in
theorem law_alive (w : World) : Calls Try.prog 17 #[] w fun e w' => e = .returned (.bool true) ∧ Below w.heap.size w w' := by
  have hu26 := Try.underlying26
  have hu40 := Try.underlying35
  have HF := Aside0.mk plain_fits
  have HT := Aside0.mk law_plain
  obtain ⟨r, h0, hr0, hr1, hr3, hr4⟩ := plain_of
  generalize plainC = tc at *
  have HO := Aside0.mk h0
  have HR := Aside0.mk hr0
  have b1 : (r.f1.f0 == 1) = true := beq_iff_eq.2 hr1
  have b3 : ((r.f1.f3.length : Int) == 2) = true := beq_iff_eq.2 (by rw [hr3]; rfl)
  have HR3 := Aside0.mk hr3
  have HR4 := Aside0.mk hr4
  clear h0 hr0 hr1 hr3 hr4
  have S0 := Aside0.mk (Parts.start w)
  go_enter Try.func17, Try.ntmps17
  go_wp2_with fail
  refine (HT.out _).mono ?_
  rintro e w1 ⟨p1, rfl, hr, hb⟩
  have S1 := Aside0.mk (S0.out.ofRs (P := fun W => RC W p1 tc) (fun W hW => hr.held hW) hb)
  clear hr hb S0
  have CO := Aside0.mk (prefix_Of p1 tc 1 _ (Held.self (S1.out.hP 0 _ rfl)) HF.out)
  rw [HO.out] at CO
  go_wp2_with fail
  refine CO.out.mono ?_
  rintro e w2 ⟨p2, q2, rfl, hh, hb⟩
  go_upto_region 2 with (fail)
  have S2 := Aside0.mk ((S1.out.ofRs hh hb).new 35 (rvals p2 q2 r))
  clear hh hb S1 CO
  generalize w2.heap.size = g1 at *
  generalize w2.alloc (.cells (rvals p2 q2 r) 35) = w3 at *
  go_upto_region 3 with (first | fail | ((with_reducible refine gate_dst (N := 10) rfl ?_); refine Parts.litL S2.out kLatch 45 flat_latch rfl rfl [⟨0, 1⟩] [.int .i64 0, .int .i64 1] ?hr (reps_lat 0 1) (by decide) ?_; (case hr => first | (go_simp; done) | (go_simp; rfl)); intro G1 j1 w4 hq; have SA := Aside0.mk hq; clear hq) | ((with_reducible refine gate_dst (N := 13) rfl ?_); refine Parts.litL SA.out kGate 92 flat_gate rfl rfl [⟨6, 4⟩, ⟨9, 3⟩] [.int .i64 6, .int .i64 4, .int .i64 9, .int .i64 3] ?hr (reps_gates2 6 4 9 3) (by decide) ?_; (case hr => first | (go_simp; done) | (go_simp; rfl)); intro G2 j2 w5 hq; have SB := Aside0.mk hq; clear hq) | ((with_reducible refine gate_dst (N := 14) rfl ?_); refine Parts.litL SB.out (Kd.int .i64) 3 flat_int rfl rfl [11] [.int .i64 11] ?hr (Kd.reps_scalar (enc := Value.int .i64) [11]) (by decide) ?_; (case hr => first | (go_simp; done) | (go_simp; rfl)); intro G3 j3 w6 hq; have SC := Aside0.mk hq; clear hq) | ((with_reducible refine gate_dst (N := 15) rfl ?_); refine Parts.litL SC.out (Kd.int .i64) 3 flat_int rfl rfl [1] [.int .i64 1] ?hr (Kd.reps_scalar (enc := Value.int .i64) [1]) (by decide) ?_; (case hr => first | (go_simp; done) | (go_simp; rfl)); intro G4 j4 w7 hq; have SE := Aside0.mk hq; clear hq))
  clear S2 SA SB SC
  have S := Aside0.mk (SE.out.new 26 #[.int .i64 2, .slice G1 1 j1, .slice G2 2 j2, .slice G3 1 j3, .slice G4 1 j4])
  clear SE
  generalize w7.heap.size = gW at *
  generalize w7.alloc (.cells #[.int .i64 2, .slice G1 1 j1, .slice G2 2 j2, .slice G3 1 j3, .slice G4 1 j4] 26) = w8 at *
  obtain ⟨c0, c1, c2, c3, c4⟩ := blk5 (S.out.blk 0 rfl)
  obtain ⟨x0, _⟩ := S.out.cell 5 rfl 0 rfl
  obtain ⟨x1, _⟩ := S.out.cell 5 rfl 1 rfl
  obtain ⟨x2, _⟩ := S.out.cell 5 rfl 2 rfl
  obtain ⟨x3, _⟩ := S.out.cell 5 rfl 3 rfl
  obtain ⟨x4, _⟩ := S.out.cell 5 rfl 4 rfl
  go_wp2_with fail
  refine (same_eq p2 r.f0 ⟨G1, j1, G2, j2, G3, j3, G4, j4⟩ ⟨2, [⟨0, 1⟩], [⟨6, 4⟩, ⟨9, 3⟩], [11], [1]⟩ _ (Held.self (S.out.hP 6 _ rfl)).1 ⟨S.out.rowF 4 rfl, S.out.rowF 3 rfl, S.out.rowF 2 rfl, S.out.rowF 1 rfl⟩ HR.out).mono ?_
  rintro e w9 ⟨rfl, hb⟩
  have S := Aside0.mk (S.out.below hb)
  clear hb c0 c1 c2 c3 c4 x0 x1 x2 x3 x4
  obtain ⟨x5, _⟩ := S.out.cell 5 rfl 5 rfl
  have HQ := Aside0.mk (Held.self (S.out.hP 6 _ rfl)).2
  have h1 : 0 < r.f1.f3.length := by rw [HR3.out]; decide
  obtain ⟨ad, B, cB, eq9, hx, hR⟩ := at_row HQ.out.s3.r 0 h1
  have hi : (0 : Int) < (r.f1.f3.length : Int) := by omega
  obtain ⟨y8, _⟩ := S.out.cell 5 rfl 8 rfl
  have x8 : w9.cell? ⟨g1, 8, none⟩ = some (.slice (some ad) r.f1.f3.length q2.c3) := by rw [← eq9]; exact y8
  have hx' : w9.cell? ad = some (.slice B (r.f1.f3[0]).length cB) := by simpa [Addr.add] using hx
  have HR := Aside0.mk hR
  have HL4 := Aside0.mk (show r.f1.f3[0] = [4] by simp only [HR3.out]; rfl)
  generalize r.f1.f3[0] = row at *
  clear y8 eq9 hR HQ hx h1
  go_wp2_with fail
  have SD := Aside0.mk (S.out.freshF flat_int (below_alloc (Below.refl _ _) (.cells #[.int .i64 4] 3)) (R_oneB _ 4 _ 3 (Nat.le_refl _)))
  refine (same_intsE B cB row (some ⟨w9.heap.size, 0, none⟩) 1 [4] _ (HR.out.below (below_alloc (Below.refl _ _) _)) (SD.out.rowF 0 rfl) HL4.out).mono ?_
  rintro e w10 ⟨rfl, hb⟩
  have S := Aside0.mk (SD.out.below hb).tail
  clear hb x5 SD hx' x8 HR HL4 hi
  have HQ := Aside0.mk (Held.self (S.out.hP 6 _ rfl)).2
  have h1 : 1 < r.f1.f3.length := by rw [HR3.out]; decide
  obtain ⟨ad, B, cB, eq9, hx, hR⟩ := at_row HQ.out.s3.r 1 h1
  have hi : (1 : Int) < (r.f1.f3.length : Int) := by omega
  obtain ⟨y8, _⟩ := S.out.cell 5 rfl 8 rfl
  have x8 : w10.cell? ⟨g1, 8, none⟩ = some (.slice (some ad) r.f1.f3.length q2.c3) := by rw [← eq9]; exact y8
  have hx' : w10.cell? ⟨ad.block, ad.off + 1, none⟩ = some (.slice B (r.f1.f3[1]).length cB) := by simpa [Addr.add] using hx
  have HR := Aside0.mk hR
  have HL4 := Aside0.mk (show r.f1.f3[1] = [2] by simp only [HR3.out]; rfl)
  generalize r.f1.f3[1] = row at *
  clear y8 eq9 hR HQ hx h1
  go_wp2_with fail
  have SD := Aside0.mk (S.out.freshF flat_int (below_alloc (Below.refl _ _) (.cells #[.int .i64 2] 3)) (R_oneB _ 2 _ 3 (Nat.le_refl _)))
  refine (same_intsE B cB row (some ⟨w10.heap.size, 0, none⟩) 1 [2] _ (HR.out.below (below_alloc (Below.refl _ _) _)) (SD.out.rowF 0 rfl) HL4.out).mono ?_
  rintro e w11 ⟨rfl, hb⟩
  have S := Aside0.mk (SD.out.below hb).tail
  clear hb SD hx' x8 HR HL4 hi
  have HQ := Aside0.mk (Held.self (S.out.hP 6 _ rfl)).2
  obtain ⟨x9, _⟩ := S.out.cell 5 rfl 9 rfl
  go_wp2_with fail
  have SD := Aside0.mk (S.out.freshF flat_int (below_alloc (Below.refl _ _) (.cells #[.int .i64 (-1)] 3)) (R_oneB _ (-1) _ 3 (Nat.le_refl _)))
  refine (same_intsE q2.A4 q2.c4 r.f1.f4 (some ⟨w11.heap.size, 0, none⟩) 1 [-1] _ (HQ.out.s4.below (below_alloc (Below.refl _ _) _)) (SD.out.rowF 0 rfl) HR4.out).mono ?_
  rintro e w12 ⟨rfl, hb⟩
  have S := Aside0.mk (SD.out.below hb)
  clear hb
  go_wp2
  go_ret
  exact ⟨rfl, S.out.B⟩
set_option maxHeartbeats 4000000 in
set_option maxRecDepth 100000 in
theorem law_errors (p : CP) (c : Circ) (k n : Int) (w : World) (h : RC w p c) (hs : c.Fits) (h1 : ∃ r, pfOf c k = (r, n) ∧ r.f0 = ⟨0, [], [], [], []⟩) (h2 : ∃ r, pkPass c k = (r, n) ∧ r.f0 = ⟨0, [], [], [], []⟩) :
    Calls Try.prog 18 #[cv p c, .int .i64 k, .int .i64 n] w fun e w' => e = .returned (.bool true) ∧ Below w.heap.size w w' := by
  have hu26 := Try.underlying26
  have hu40 := Try.underlying35
  obtain ⟨r, h1, hr⟩ := h1
  obtain ⟨s, h2, hs2⟩ := h2
  have C1 := Aside0.mk (fun W (hb : Below w.heap.size w W) => prefix_Of p c k W (h.below hb) hs)
  have C2 := Aside0.mk (fun W (hb : Below w.heap.size w W) => pk_Pass p c k W (h.below hb) hs)
  rw [h1] at C1
  rw [h2] at C2
  dsimp only at C1 C2
  have HR := Aside0.mk (And.intro hr hs2)
  have S0 := Aside0.mk ((Parts.start w).new 26 (fc5 p c))
  clear h hs h1 h2 hr hs2
  go_enter Try.func18, Try.ntmps18
  go_wp2_with fail
  refine (C1.out _ S0.out.B).mono ?_
  rintro e w1 ⟨p1, q1, rfl, hh, hb⟩
  go_upto_region 2 with (fail)
  have S1 := Aside0.mk ((S0.out.ofRs hh hb).new 35 (rvals p1 q1 r))
  clear hh hb S0 C1
  generalize w1.heap.size = g1 at *
  generalize w1.alloc (.cells (rvals p1 q1 r) 35) = w2 at *
  obtain ⟨c0, c1, c2, c3, c4⟩ := blk5 (S1.out.blk 2 rfl)
  go_wp2_with fail
  refine (C2.out _ S1.out.B).mono ?_
  rintro e w3 ⟨p3, q3, rfl, hh, hb⟩
  go_upto_region 3 with (fail)
  have S3 := Aside0.mk ((S1.out.ofRs hh hb).new 35 (rvals p3 q3 s))
  clear hh hb S1 C2 c0 c1 c2 c3 c4
  generalize w3.heap.size = g3 at *
  generalize w3.alloc (.cells (rvals p3 q3 s) 35) = w4 at *
  obtain ⟨x0, _⟩ := S3.out.cell 2 rfl 0 rfl
  obtain ⟨x1, _⟩ := S3.out.cell 2 rfl 1 rfl
  obtain ⟨x2, _⟩ := S3.out.cell 2 rfl 2 rfl
  obtain ⟨x3, _⟩ := S3.out.cell 2 rfl 3 rfl
  obtain ⟨x4, _⟩ := S3.out.cell 2 rfl 4 rfl
  go_wp2_with fail
  refine (same_eq p1 r.f0 ⟨none, 0, none, 0, none, 0, none, 0⟩ ⟨0, [], [], [], []⟩ _ (Held.self (S3.out.hP 3 _ rfl)).1 ⟨RS.nil _ _ _, RS.nil _ _ _, RS.nil _ _ _, RS.nil _ _ _⟩ HR.out.1).mono ?_
  rintro e w5 ⟨rfl, hb⟩
  have S5 := Aside0.mk (S3.out.below hb)
  clear hb S3 x0 x1 x2 x3 x4
  obtain ⟨x0, _⟩ := S5.out.cell 0 rfl 0 rfl
  obtain ⟨x1, _⟩ := S5.out.cell 0 rfl 1 rfl
  obtain ⟨x2, _⟩ := S5.out.cell 0 rfl 2 rfl
  obtain ⟨x3, _⟩ := S5.out.cell 0 rfl 3 rfl
  obtain ⟨x4, _⟩ := S5.out.cell 0 rfl 4 rfl
  go_wp2_with fail
  refine (same_eq p3 s.f0 ⟨none, 0, none, 0, none, 0, none, 0⟩ ⟨0, [], [], [], []⟩ _ (Held.self (S5.out.hP 1 _ rfl)).1 ⟨RS.nil _ _ _, RS.nil _ _ _, RS.nil _ _ _, RS.nil _ _ _⟩ HR.out.2).mono ?_
  rintro e w6 ⟨rfl, hb⟩
  have S6 := Aside0.mk (S5.out.below hb)
  clear hb
  go_wp2
  go_ret
  exact ⟨rfl, S6.out.B⟩
end Go.Proofs.Ytpoadkogcdfglaa.PH
