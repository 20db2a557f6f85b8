/- The law PredsMakes: its function answers true. -/
import Derived.Test.YtgcdanpihaeioaaHAgree3
import Derived.Test.YtgcdanpihaeioaaHSameP
import Derived.Test.YtgcdanpihaeioaaHArgs
import Derived.Deep.RegionHeld3
namespace Go.Proofs.Ytgcdanpihaeioaa.PH
open Go.RowKit Go.Proofs.YtgcdanpihaeioaaW.PrintWords Go.Proofs.YtgcdanpihaeioaaW.PrintLast
set_option linter.unusedVariables false
set_option linter.unusedSimpArgs false

/-- A predicate kept in block g, read there. -/
structure PK (g : Nat) (A : Option Addr) (k : Nat) (x : Pr) (wr : World) : Prop where
  b : wr.heap[g]? = some (.cells #[.slice A x.f0.length k, .int .i64 x.f1] 24 (0, 0))
  r : RS kGate wr A k x.f0
theorem PK.below {g : Nat} {A : Option Addr} {k : Nat} {x : Pr} {wr w2 : World} (h : PK g A k x wr) (hb : Below wr.heap.size wr w2) : PK g A k x w2 := ⟨blk_below h.b hb, h.r.below hb⟩
structure MInv (g1 : Nat) (A1 : Option Addr) (k1 g2 : Nat) (A2 : Option Addr) (k2 : Nat) (x1 : Pr) (g3 : Nat) (A3 : Option Addr) (k3 g4 : Nat) (A4 : Option Addr) (k4 : Nat) (x3 : Pr) (g5 : Nat) (A5 : Option Addr) (k5 g6 : Nat) (A6 : Option Addr) (k6 : Nat) (x5 : Pr) (g7 : Nat) (A7 : Option Addr) (k7 g8 : Nat) (A8 : Option Addr) (k8 : Nat) (x7 : Pr) (g0 : Nat) (A : Option Addr) (k : Nat) (p : Pr) (wr : World) : Prop where
  m1 : PK g1 A1 k1 x1 wr
  m2 : PK g2 A2 k2 x1 wr
  m3 : PK g3 A3 k3 x3 wr
  m4 : PK g4 A4 k4 x3 wr
  m5 : PK g5 A5 k5 x5 wr
  m6 : PK g6 A6 k6 x5 wr
  m7 : PK g7 A7 k7 x7 wr
  m8 : PK g8 A8 k8 x7 wr
  m0 : PK g0 A k p wr
theorem MInv.below {g1 : Nat} {A1 : Option Addr} {k1 g2 : Nat} {A2 : Option Addr} {k2 : Nat} {x1 : Pr} {g3 : Nat} {A3 : Option Addr} {k3 g4 : Nat} {A4 : Option Addr} {k4 : Nat} {x3 : Pr} {g5 : Nat} {A5 : Option Addr} {k5 g6 : Nat} {A6 : Option Addr} {k6 : Nat} {x5 : Pr} {g7 : Nat} {A7 : Option Addr} {k7 g8 : Nat} {A8 : Option Addr} {k8 : Nat} {x7 : Pr} {g0 : Nat} {A : Option Addr} {k : Nat} {p : Pr} {wr w2 : World} (h : MInv g1 A1 k1 g2 A2 k2 x1 g3 A3 k3 g4 A4 k4 x3 g5 A5 k5 g6 A6 k6 x5 g7 A7 k7 g8 A8 k8 x7 g0 A k p wr) (hb : Below wr.heap.size wr w2) : MInv g1 A1 k1 g2 A2 k2 x1 g3 A3 k3 g4 A4 k4 x3 g5 A5 k5 g6 A6 k6 x5 g7 A7 k7 g8 A8 k8 x7 g0 A k p w2 :=
  ⟨h.m1.below hb, h.m2.below hb, h.m3.below hb, h.m4.below hb, h.m5.below hb, h.m6.below hb, h.m7.below hb, h.m8.below hb, h.m0.below hb⟩
theorem small_fits {p : Pr} (h : p.Nums) (hs : smallP p) : p.Fits := ⟨by unfold smallP at hs; omega, h.ig, h.il⟩
set_option maxHeartbeats 8000000 in
set_option maxRecDepth 100000 in
theorem law_PredsMakes (n : Int) (A : Option Addr × Nat) (p : Pr) (B : Option Addr × Nat) (q : Pr) (C : Option Addr × Nat) (l : List (List Int)) (w : World) (hp : RS kGate w A.1 A.2 p.f0) (hq : RS kGate w B.1 B.2 q.f0) (hl : RS (Kd.slice 3 (Kd.int .i64)) w C.1 C.2 l) (ni : I64 n) (np : p.Nums) (nq : q.Nums) (nl : ∀ r ∈ l, ∀ x ∈ r, I64 x) :
    Calls Try.prog 4 #[.int .i64 n, pv A.1 A.2 p, pv B.1 B.2 q, .slice C.1 l.length C.2] w fun e w' => e = .returned (.bool true) ∧ Below w.heap.size w w' := by
  obtain ⟨A, k⟩ := A
  obtain ⟨B, d⟩ := B
  obtain ⟨C, c⟩ := C
  have HP := Aside0.mk hp
  have HQ := Aside0.mk hq
  have HL := Aside0.mk hl
  have NP := Aside0.mk np
  have NQ := Aside0.mk nq
  have NL := Aside0.mk nl
  have hu24 := Try.underlying24
  have I0 := Aside0.mk (WInv.start w A k p B d q)
  have HGR := Aside0.mk (fun W => law24_great n A k p B d q W)
  have HG15 := Aside0.mk (fun W (hW : Below w.heap.size w W) => ref15_Great C c l W (hl.below hW))
  clear hp hq hl np nq nl ni
  obtain ⟨pa, pl⟩ := p
  obtain ⟨qa, ql⟩ := q
  dsimp only [pv] at *
  obtain ⟨r0, r1⟩ := (blk2w I0.out.B0).1
  obtain ⟨s0, s1⟩ := (blk2w I0.out.B1).1
  go_enter Try.func4, Try.ntmps4
  go_wp2_with fail
  refine (HGR.out _).mono ?_
  rintro e w1 ⟨b1, rfl, hG1, hb1⟩
  have I := Aside0.mk (I0.out.below hb1)
  have HG1 := Aside0.mk hG1
  clear hb1 hG1 r0 r1 s0 s1 I0
  cases b1 with
  | true =>
    go_wp2
    go_ret
    exact ⟨rfl, I.out.BW⟩
  | false =>
  have HSM := Aside0.mk (HG1.out rfl)
  have FP := Aside0.mk (small_fits NP.out HSM.out.1)
  have FQ := Aside0.mk (small_fits NQ.out HSM.out.2.1)
  go_wp2_with fail
  refine (HG15.out _ I.out.BW).mono ?_
  rintro e w2 ⟨b2, rfl, hG2, hb2⟩
  have I := Aside0.mk (I.out.below hb2)
  have HG2 := Aside0.mk hG2
  clear hb2 hG2
  cases b2 with
  | true =>
    go_wp2
    go_ret
    exact ⟨rfl, I.out.BW⟩
  | false =>
  have HSL := Aside0.mk (HG2.out rfl)
  clear HG1 HG2 HG15 HGR
  obtain ⟨r0, r1⟩ := (blk2w I.out.B0).1
  obtain ⟨s0, s1⟩ := (blk2w I.out.B1).1
  go_wp2_with fail
  refine (preds_Clauses n C c l _ (HL.out.below I.out.BW) NL.out).mono ?_
  rintro e w1' ⟨A1, k1, rfl, hr, hb⟩
  obtain ⟨x1, hx1⟩ : ∃ x, clausesP n l = x := ⟨_, rfl⟩
  have HX1 := Aside0.mk hx1
  rw [HX1.out] at hr ⊢
  clear hx1
  have I := Aside0.mk (I.out.below hb)
  have hr := RS.of_R' hr
  have hb' := below_alloc (Below.refl w1'.heap.size w1') (.cells #[.slice A1 x1.1.f0.length k1, .int .i64 x1.1.f1] 24)
  have K1 : Aside0 (PK w1'.heap.size A1 k1 x1.1 _) := ⟨⟨blk_new w1' (.cells #[.slice A1 x1.1.f0.length k1, .int .i64 x1.1.f1] 24), hr.below hb'⟩⟩
  have I := Aside0.mk (I.out.below hb')
  clear hr hb hb' r0 r1 s0 s1
  obtain ⟨r0, r1⟩ := (blk2w I.out.B0).1
  obtain ⟨s0, s1⟩ := (blk2w I.out.B1).1
  go_wp2_with fail
  refine (ref24_Clauses n C c l _ (HL.out.below I.out.BW) NL.out HSL.out.1 HSL.out.2).mono ?_
  rintro e w2' ⟨A2, k2, rfl, hr, hb⟩
  rw [clauses_same] at hr ⊢
  rw [HX1.out] at hr ⊢
  have I := Aside0.mk (I.out.below hb)
  have K1 := Aside0.mk (K1.out.below hb)
  have hr := RS.of_R' hr
  have hb' := below_alloc (Below.refl w2'.heap.size w2') (.cells #[.slice A2 x1.1.f0.length k2, .int .i64 x1.1.f1] 24)
  have K2 : Aside0 (PK w2'.heap.size A2 k2 x1.1 _) := ⟨⟨blk_new w2' (.cells #[.slice A2 x1.1.f0.length k2, .int .i64 x1.1.f1] 24), hr.below hb'⟩⟩
  have I := Aside0.mk (I.out.below hb')
  have K1 := Aside0.mk (K1.out.below hb')
  clear hr hb hb' r0 r1 s0 s1
  obtain ⟨r0, r1⟩ := (blk2w I.out.B0).1
  obtain ⟨s0, s1⟩ := (blk2w I.out.B1).1
  go_wp2_with fail
  refine (preds_And n A k ⟨pa, pl⟩ B d ⟨qa, ql⟩ _ (HP.out.below I.out.BW) FP.out (HQ.out.below I.out.BW) FQ.out).mono ?_
  rintro e w3' ⟨A3, k3, rfl, hr, hb⟩
  obtain ⟨x3, hx3⟩ : ∃ x, andP n ⟨pa, pl⟩ ⟨qa, ql⟩ = x := ⟨_, rfl⟩
  have HX3 := Aside0.mk hx3
  rw [HX3.out] at hr ⊢
  clear hx3
  have I := Aside0.mk (I.out.below hb)
  have K1 := Aside0.mk (K1.out.below hb)
  have K2 := Aside0.mk (K2.out.below hb)
  have hr := RS.of_R' hr
  have hb' := below_alloc (Below.refl w3'.heap.size w3') (.cells #[.slice A3 x3.1.f0.length k3, .int .i64 x3.1.f1] 24)
  have K3 : Aside0 (PK w3'.heap.size A3 k3 x3.1 _) := ⟨⟨blk_new w3' (.cells #[.slice A3 x3.1.f0.length k3, .int .i64 x3.1.f1] 24), hr.below hb'⟩⟩
  have I := Aside0.mk (I.out.below hb')
  have K1 := Aside0.mk (K1.out.below hb')
  have K2 := Aside0.mk (K2.out.below hb')
  clear hr hb hb' r0 r1 s0 s1
  obtain ⟨r0, r1⟩ := (blk2w I.out.B0).1
  obtain ⟨s0, s1⟩ := (blk2w I.out.B1).1
  go_wp2_with fail
  refine (ref24_And n A k ⟨pa, pl⟩ B d ⟨qa, ql⟩ _ (HP.out.below I.out.BW) FP.out (HQ.out.below I.out.BW) FQ.out).mono ?_
  rintro e w4' ⟨A4, k4, rfl, hr, hb⟩
  rw [and_same] at hr ⊢
  rw [HX3.out] at hr ⊢
  have I := Aside0.mk (I.out.below hb)
  have K1 := Aside0.mk (K1.out.below hb)
  have K2 := Aside0.mk (K2.out.below hb)
  have K3 := Aside0.mk (K3.out.below hb)
  have hr := RS.of_R' hr
  have hb' := below_alloc (Below.refl w4'.heap.size w4') (.cells #[.slice A4 x3.1.f0.length k4, .int .i64 x3.1.f1] 24)
  have K4 : Aside0 (PK w4'.heap.size A4 k4 x3.1 _) := ⟨⟨blk_new w4' (.cells #[.slice A4 x3.1.f0.length k4, .int .i64 x3.1.f1] 24), hr.below hb'⟩⟩
  have I := Aside0.mk (I.out.below hb')
  have K1 := Aside0.mk (K1.out.below hb')
  have K2 := Aside0.mk (K2.out.below hb')
  have K3 := Aside0.mk (K3.out.below hb')
  clear hr hb hb' r0 r1 s0 s1
  obtain ⟨r0, r1⟩ := (blk2w I.out.B0).1
  obtain ⟨s0, s1⟩ := (blk2w I.out.B1).1
  go_wp2_with fail
  refine (preds_Or n A k ⟨pa, pl⟩ B d ⟨qa, ql⟩ _ (HP.out.below I.out.BW) FP.out (HQ.out.below I.out.BW) FQ.out).mono ?_
  rintro e w5' ⟨A5, k5, rfl, hr, hb⟩
  obtain ⟨x5, hx5⟩ : ∃ x, orP n ⟨pa, pl⟩ ⟨qa, ql⟩ = x := ⟨_, rfl⟩
  have HX5 := Aside0.mk hx5
  rw [HX5.out] at hr ⊢
  clear hx5
  have I := Aside0.mk (I.out.below hb)
  have K1 := Aside0.mk (K1.out.below hb)
  have K2 := Aside0.mk (K2.out.below hb)
  have K3 := Aside0.mk (K3.out.below hb)
  have K4 := Aside0.mk (K4.out.below hb)
  have hr := RS.of_R' hr
  have hb' := below_alloc (Below.refl w5'.heap.size w5') (.cells #[.slice A5 x5.1.f0.length k5, .int .i64 x5.1.f1] 24)
  have K5 : Aside0 (PK w5'.heap.size A5 k5 x5.1 _) := ⟨⟨blk_new w5' (.cells #[.slice A5 x5.1.f0.length k5, .int .i64 x5.1.f1] 24), hr.below hb'⟩⟩
  have I := Aside0.mk (I.out.below hb')
  have K1 := Aside0.mk (K1.out.below hb')
  have K2 := Aside0.mk (K2.out.below hb')
  have K3 := Aside0.mk (K3.out.below hb')
  have K4 := Aside0.mk (K4.out.below hb')
  clear hr hb hb' r0 r1 s0 s1
  obtain ⟨r0, r1⟩ := (blk2w I.out.B0).1
  obtain ⟨s0, s1⟩ := (blk2w I.out.B1).1
  go_wp2_with fail
  refine (ref24_Or n A k ⟨pa, pl⟩ B d ⟨qa, ql⟩ _ (HP.out.below I.out.BW) FP.out (HQ.out.below I.out.BW) FQ.out).mono ?_
  rintro e w6' ⟨A6, k6, rfl, hr, hb⟩
  rw [or_same] at hr ⊢
  rw [HX5.out] at hr ⊢
  have I := Aside0.mk (I.out.below hb)
  have K1 := Aside0.mk (K1.out.below hb)
  have K2 := Aside0.mk (K2.out.below hb)
  have K3 := Aside0.mk (K3.out.below hb)
  have K4 := Aside0.mk (K4.out.below hb)
  have K5 := Aside0.mk (K5.out.below hb)
  have hr := RS.of_R' hr
  have hb' := below_alloc (Below.refl w6'.heap.size w6') (.cells #[.slice A6 x5.1.f0.length k6, .int .i64 x5.1.f1] 24)
  have K6 : Aside0 (PK w6'.heap.size A6 k6 x5.1 _) := ⟨⟨blk_new w6' (.cells #[.slice A6 x5.1.f0.length k6, .int .i64 x5.1.f1] 24), hr.below hb'⟩⟩
  have I := Aside0.mk (I.out.below hb')
  have K1 := Aside0.mk (K1.out.below hb')
  have K2 := Aside0.mk (K2.out.below hb')
  have K3 := Aside0.mk (K3.out.below hb')
  have K4 := Aside0.mk (K4.out.below hb')
  have K5 := Aside0.mk (K5.out.below hb')
  clear hr hb hb' r0 r1 s0 s1
  obtain ⟨r0, r1⟩ := (blk2w I.out.B0).1
  obtain ⟨s0, s1⟩ := (blk2w I.out.B1).1
  go_wp2_with fail
  refine (preds_Not n A k ⟨pa, pl⟩ _ (HP.out.below I.out.BW) FP.out).mono ?_
  rintro e w7' ⟨A7, k7, rfl, hr, hb⟩
  obtain ⟨x7, hx7⟩ : ∃ x, notP n ⟨pa, pl⟩ = x := ⟨_, rfl⟩
  have HX7 := Aside0.mk hx7
  rw [HX7.out] at hr ⊢
  clear hx7
  have I := Aside0.mk (I.out.below hb)
  have K1 := Aside0.mk (K1.out.below hb)
  have K2 := Aside0.mk (K2.out.below hb)
  have K3 := Aside0.mk (K3.out.below hb)
  have K4 := Aside0.mk (K4.out.below hb)
  have K5 := Aside0.mk (K5.out.below hb)
  have K6 := Aside0.mk (K6.out.below hb)
  have hr := RS.of_R' hr
  have hb' := below_alloc (Below.refl w7'.heap.size w7') (.cells #[.slice A7 x7.1.f0.length k7, .int .i64 x7.1.f1] 24)
  have K7 : Aside0 (PK w7'.heap.size A7 k7 x7.1 _) := ⟨⟨blk_new w7' (.cells #[.slice A7 x7.1.f0.length k7, .int .i64 x7.1.f1] 24), hr.below hb'⟩⟩
  have I := Aside0.mk (I.out.below hb')
  have K1 := Aside0.mk (K1.out.below hb')
  have K2 := Aside0.mk (K2.out.below hb')
  have K3 := Aside0.mk (K3.out.below hb')
  have K4 := Aside0.mk (K4.out.below hb')
  have K5 := Aside0.mk (K5.out.below hb')
  have K6 := Aside0.mk (K6.out.below hb')
  clear hr hb hb' r0 r1 s0 s1
  obtain ⟨r0, r1⟩ := (blk2w I.out.B0).1
  obtain ⟨s0, s1⟩ := (blk2w I.out.B1).1
  go_wp2_with fail
  refine (ref24_Not n A k ⟨pa, pl⟩ _ (HP.out.below I.out.BW) FP.out).mono ?_
  rintro e w8' ⟨A8, k8, rfl, hr, hb⟩
  rw [HX7.out] at hr ⊢
  have I := Aside0.mk (I.out.below hb)
  have K1 := Aside0.mk (K1.out.below hb)
  have K2 := Aside0.mk (K2.out.below hb)
  have K3 := Aside0.mk (K3.out.below hb)
  have K4 := Aside0.mk (K4.out.below hb)
  have K5 := Aside0.mk (K5.out.below hb)
  have K6 := Aside0.mk (K6.out.below hb)
  have K7 := Aside0.mk (K7.out.below hb)
  have hr := RS.of_R' hr
  have hb' := below_alloc (Below.refl w8'.heap.size w8') (.cells #[.slice A8 x7.1.f0.length k8, .int .i64 x7.1.f1] 24)
  have K8 : Aside0 (PK w8'.heap.size A8 k8 x7.1 _) := ⟨⟨blk_new w8' (.cells #[.slice A8 x7.1.f0.length k8, .int .i64 x7.1.f1] 24), hr.below hb'⟩⟩
  have I := Aside0.mk (I.out.below hb')
  have K1 := Aside0.mk (K1.out.below hb')
  have K2 := Aside0.mk (K2.out.below hb')
  have K3 := Aside0.mk (K3.out.below hb')
  have K4 := Aside0.mk (K4.out.below hb')
  have K5 := Aside0.mk (K5.out.below hb')
  have K6 := Aside0.mk (K6.out.below hb')
  have K7 := Aside0.mk (K7.out.below hb')
  clear hr hb hb' r0 r1 s0 s1
  have M := Aside0.mk (MInv.mk K1.out K2.out K3.out K4.out K5.out K6.out K7.out K8.out ⟨I.out.B0, HP.out.below I.out.BW⟩)
  obtain ⟨r0, r1⟩ := (blk2w I.out.B0).1
  go_wp2
  clear r0 r1 K1 K2 K3 K4 K5 K6 K7 K8
  generalize w1'.heap.size = g1 at *
  generalize w2'.heap.size = g2 at *
  generalize w3'.heap.size = g3 at *
  generalize w4'.heap.size = g4 at *
  generalize w5'.heap.size = g5 at *
  generalize w6'.heap.size = g6 at *
  generalize w7'.heap.size = g7 at *
  generalize w8'.heap.size = g8 at *
  generalize w8'.alloc (.cells #[.slice A8 x7.1.f0.length k8, .int .i64 x7.1.f1] 24) = wz at *
  have HPC := Aside0.mk (fun W (hW : Below w.heap.size w W) => preds_Check n A k ⟨pa, pl⟩ W (HP.out.below hW) FP.out)
  have HRC := Aside0.mk (fun W (hW : Below w.heap.size w W) => ref24_Check n A k ⟨pa, pl⟩ W (HP.out.below hW) FP.out)
  generalize predCheck n ⟨pa, pl⟩ = pe at *
  dsimp only [pv] at HPC HRC
  have I := Aside0.mk (I.out.below (below_drew (Below.refl wz.heap.size wz)))
  have M := Aside0.mk (M.out.below (below_drew (Below.refl wz.heap.size wz)))
  refine start_ (n := 48) (S := (fun w' => MInv g1 A1 k1 g2 A2 k2 x1.1 g3 A3 k3 g4 A4 k4 x3.1 g5 A5 k5 g6 A6 k6 x5.1 g7 A7 k7 g8 A8 k8 x7.1 w.heap.size A k ⟨pa, pl⟩ w')) (ds := []) #[false, false, false, false, false, false, false, false, false, false, false, false, false, false, false, false, false, false, false, false, false, false, false, false, false, false, false, false, false, false, false, false, false, false, false, false, false, false, false, false, false, false, false, false, false, false, false, false] (by kernel_rfl) rfl rfl M.out (fun hHeld => ?_)
  refine take_ (i := 0) (N := some 85) (v := ?_) (a' := ?_) #[true, false, false, false, false, false, false, false, false, false, false, false, false, false, false, false, false, false, false, false, false, false, false, false, false, false, false, false, false, false, false, false, false, false, false, false, false, false, false, false, false, false, false, false, false, false, false, false] rfl rfl (by kernel_rfl) (fun _ _ _ h => h) (Or.inl ⟨by rfl, ?_⟩) hHeld ?_ ?_
  rotate_left
  · intro w' s0
    obtain ⟨⟨m1, _⟩, ⟨m2, _⟩, ⟨m3, _⟩, ⟨m4, _⟩, ⟨m5, _⟩, ⟨m6, _⟩, ⟨m7, _⟩, ⟨m8, _⟩, ⟨m0, _⟩⟩ := s0; obtain ⟨a1, b1⟩ := (blk2w m1).1; obtain ⟨a2, b2⟩ := (blk2w m2).1; obtain ⟨a3, b3⟩ := (blk2w m3).1; obtain ⟨a4, b4⟩ := (blk2w m4).1; obtain ⟨a5, b5⟩ := (blk2w m5).1; obtain ⟨a6, b6⟩ := (blk2w m6).1; obtain ⟨a7, b7⟩ := (blk2w m7).1; obtain ⟨a8, b8⟩ := (blk2w m8).1; obtain ⟨a0, b0⟩ := (blk2w m0).1
    go_simp
    with_reducible rfl
  rotate_left
  · simp only [Act.put, List.setIfInBounds_toArray, List.set_cons_zero, List.set_cons_succ]
    rfl
  refine take_ (i := 1) (N := some 86) (v := ?_) (a' := ?_) #[true, true, false, false, false, false, false, false, false, false, false, false, false, false, false, false, false, false, false, false, false, false, false, false, false, false, false, false, false, false, false, false, false, false, false, false, false, false, false, false, false, false, false, false, false, false, false, false] rfl rfl (by kernel_rfl) (fun _ _ _ h => h) (Or.inl ⟨by rfl, ?_⟩) hHeld ?_ ?_
  rotate_left
  · intro w' s0
    obtain ⟨⟨m1, _⟩, ⟨m2, _⟩, ⟨m3, _⟩, ⟨m4, _⟩, ⟨m5, _⟩, ⟨m6, _⟩, ⟨m7, _⟩, ⟨m8, _⟩, ⟨m0, _⟩⟩ := s0; obtain ⟨a1, b1⟩ := (blk2w m1).1; obtain ⟨a2, b2⟩ := (blk2w m2).1; obtain ⟨a3, b3⟩ := (blk2w m3).1; obtain ⟨a4, b4⟩ := (blk2w m4).1; obtain ⟨a5, b5⟩ := (blk2w m5).1; obtain ⟨a6, b6⟩ := (blk2w m6).1; obtain ⟨a7, b7⟩ := (blk2w m7).1; obtain ⟨a8, b8⟩ := (blk2w m8).1; obtain ⟨a0, b0⟩ := (blk2w m0).1
    go_simp
    with_reducible rfl
  rotate_left
  · simp only [Act.put, List.setIfInBounds_toArray, List.set_cons_zero, List.set_cons_succ]
    rfl
  refine one_ (i := 2) (N := some 87) #[true, true, true, false, false, false, false, false, false, false, false, false, false, false, false, false, false, false, false, false, false, false, false, false, false, false, false, false, false, false, false, false, false, false, false, false, false, false, false, false, false, false, false, false, false, false, false, false] rfl rfl (by kernel_rfl) (by decide) (fun K hK => ?_)
  refine goes_ Try.func27 (by kernel_rfl) rfl #[.agg #[.slice A1 x1.1.f0.length k1, .int .i64 x1.1.f1], .agg #[.slice A2 x1.1.f0.length k2, .int .i64 x1.1.f1]] (by rfl) rfl rfl (by simp only [List.map_toArray, List.map_cons, List.map_nil] <;> rfl) ?_
  refine (ref24_Same A1 k1 x1.1 A2 k2 x1.1 _ M.out.m1.r M.out.m2.r).mono ?_
  rintro e wy ⟨rfl, hb⟩
  refine ⟨_, rfl, ?_⟩
  have hd : decide (x1.1 = x1.1) = true := decide_eq_true rfl
  rw [hd]
  clear hd
  have I := Aside0.mk (I.out.below hb)
  have M := Aside0.mk (M.out.below hb)
  clear hb
  refine hK.out _ _ M.out (fun hHeld => ?_)
  clear hK K
  refine norm_ (a' := ?_) ?_ ?_
  rotate_left
  · show Act.put _ (some 87) _ = _
    simp only [Act.put, List.setIfInBounds_toArray, List.set_cons_zero, List.set_cons_succ]
    rfl
  refine pure_ (i := 3) (N := some 88) (v := ?_) (a' := ?_) #[true, true, true, true, false, false, false, false, false, false, false, false, false, false, false, false, false, false, false, false, false, false, false, false, false, false, false, false, false, false, false, false, false, false, false, false, false, false, false, false, false, false, false, false, false, false, false, false] rfl rfl (by kernel_rfl) (fun _ _ _ h => h) (Or.inl ⟨by rfl, ?_⟩) ?_ ?_
  rotate_left
  · intro w'
    go_simp
    with_reducible rfl
  rotate_left
  · simp only [Act.put, List.setIfInBounds_toArray, List.set_cons_zero, List.set_cons_succ]
    rfl
  refine pure_ (i := 4) (N := some 89) (v := ?_) (a' := ?_) #[true, true, true, true, true, false, false, false, false, false, false, false, false, false, false, false, false, false, false, false, false, false, false, false, false, false, false, false, false, false, false, false, false, false, false, false, false, false, false, false, false, false, false, false, false, false, false, false] rfl rfl (by kernel_rfl) (fun _ _ _ h => h) (Or.inl ⟨by rfl, ?_⟩) ?_ ?_
  rotate_left
  · intro w'
    go_simp
    with_reducible rfl
  rotate_left
  · simp only [Act.put, List.setIfInBounds_toArray, List.set_cons_zero, List.set_cons_succ]
    rfl
  refine pure_ (i := 5) (N := some 90) (v := ?_) (a' := ?_) #[true, true, true, true, true, true, false, false, false, false, false, false, false, false, false, false, false, false, false, false, false, false, false, false, false, false, false, false, false, false, false, false, false, false, false, false, false, false, false, false, false, false, false, false, false, false, false, false] rfl rfl (by kernel_rfl) (fun _ _ _ h => h) (Or.inl ⟨by rfl, ?_⟩) ?_ ?_
  rotate_left
  · intro w'
    go_simp
    with_reducible rfl
  rotate_left
  · simp only [Act.put, List.setIfInBounds_toArray, List.set_cons_zero, List.set_cons_succ]
    rfl
  refine pure_ (i := 6) (N := some 91) (v := ?_) (a' := ?_) #[true, true, true, true, true, true, true, false, false, false, false, false, false, false, false, false, false, false, false, false, false, false, false, false, false, false, false, false, false, false, false, false, false, false, false, false, false, false, false, false, false, false, false, false, false, false, false, false] rfl rfl (by kernel_rfl) (fun _ _ _ h => h) (Or.inl ⟨by rfl, ?_⟩) ?_ ?_
  rotate_left
  · intro w'
    go_simp
    with_reducible rfl
  rotate_left
  · simp only [Act.put, List.setIfInBounds_toArray, List.set_cons_zero, List.set_cons_succ]
    rfl
  refine pure_ (i := 7) (N := some 92) (v := ?_) (a' := ?_) #[true, true, true, true, true, true, true, true, false, false, false, false, false, false, false, false, false, false, false, false, false, false, false, false, false, false, false, false, false, false, false, false, false, false, false, false, false, false, false, false, false, false, false, false, false, false, false, false] rfl rfl (by kernel_rfl) (fun _ _ _ h => h) (Or.inl ⟨by rfl, ?_⟩) ?_ ?_
  rotate_left
  · intro w'
    go_simp
    with_reducible rfl
  rotate_left
  · simp only [Act.put, List.setIfInBounds_toArray, List.set_cons_zero, List.set_cons_succ]
    rfl
  refine pure_ (i := 8) (N := some 93) (v := ?_) (a' := ?_) #[true, true, true, true, true, true, true, true, true, false, false, false, false, false, false, false, false, false, false, false, false, false, false, false, false, false, false, false, false, false, false, false, false, false, false, false, false, false, false, false, false, false, false, false, false, false, false, false] rfl rfl (by kernel_rfl) (fun _ _ _ h => h) (Or.inl ⟨by rfl, ?_⟩) ?_ ?_
  rotate_left
  · intro w'
    go_simp
    with_reducible rfl
  rotate_left
  · simp only [Act.put, List.setIfInBounds_toArray, List.set_cons_zero, List.set_cons_succ]
    rfl
  refine take_ (i := 9) (N := some 94) (v := ?_) (a' := ?_) #[true, true, true, true, true, true, true, true, true, true, false, false, false, false, false, false, false, false, false, false, false, false, false, false, false, false, false, false, false, false, false, false, false, false, false, false, false, false, false, false, false, false, false, false, false, false, false, false] rfl rfl (by kernel_rfl) (fun _ _ _ h => h) (Or.inl ⟨by rfl, ?_⟩) hHeld ?_ ?_
  rotate_left
  · intro w' s0
    obtain ⟨⟨m1, _⟩, ⟨m2, _⟩, ⟨m3, _⟩, ⟨m4, _⟩, ⟨m5, _⟩, ⟨m6, _⟩, ⟨m7, _⟩, ⟨m8, _⟩, ⟨m0, _⟩⟩ := s0; obtain ⟨a1, b1⟩ := (blk2w m1).1; obtain ⟨a2, b2⟩ := (blk2w m2).1; obtain ⟨a3, b3⟩ := (blk2w m3).1; obtain ⟨a4, b4⟩ := (blk2w m4).1; obtain ⟨a5, b5⟩ := (blk2w m5).1; obtain ⟨a6, b6⟩ := (blk2w m6).1; obtain ⟨a7, b7⟩ := (blk2w m7).1; obtain ⟨a8, b8⟩ := (blk2w m8).1; obtain ⟨a0, b0⟩ := (blk2w m0).1
    go_simp
    with_reducible rfl
  rotate_left
  · simp only [Act.put, List.setIfInBounds_toArray, List.set_cons_zero, List.set_cons_succ]
    rfl
  refine take_ (i := 10) (N := some 95) (v := ?_) (a' := ?_) #[true, true, true, true, true, true, true, true, true, true, true, false, false, false, false, false, false, false, false, false, false, false, false, false, false, false, false, false, false, false, false, false, false, false, false, false, false, false, false, false, false, false, false, false, false, false, false, false] rfl rfl (by kernel_rfl) (fun _ _ _ h => h) (Or.inl ⟨by rfl, ?_⟩) hHeld ?_ ?_
  rotate_left
  · intro w' s0
    obtain ⟨⟨m1, _⟩, ⟨m2, _⟩, ⟨m3, _⟩, ⟨m4, _⟩, ⟨m5, _⟩, ⟨m6, _⟩, ⟨m7, _⟩, ⟨m8, _⟩, ⟨m0, _⟩⟩ := s0; obtain ⟨a1, b1⟩ := (blk2w m1).1; obtain ⟨a2, b2⟩ := (blk2w m2).1; obtain ⟨a3, b3⟩ := (blk2w m3).1; obtain ⟨a4, b4⟩ := (blk2w m4).1; obtain ⟨a5, b5⟩ := (blk2w m5).1; obtain ⟨a6, b6⟩ := (blk2w m6).1; obtain ⟨a7, b7⟩ := (blk2w m7).1; obtain ⟨a8, b8⟩ := (blk2w m8).1; obtain ⟨a0, b0⟩ := (blk2w m0).1
    go_simp
    with_reducible rfl
  rotate_left
  · simp only [Act.put, List.setIfInBounds_toArray, List.set_cons_zero, List.set_cons_succ]
    rfl
  refine one_ (i := 11) (N := some 96) #[true, true, true, true, true, true, true, true, true, true, true, true, false, false, false, false, false, false, false, false, false, false, false, false, false, false, false, false, false, false, false, false, false, false, false, false, false, false, false, false, false, false, false, false, false, false, false, false] rfl rfl (by kernel_rfl) (by decide) (fun K hK => ?_)
  refine goes_ Try.func27 (by kernel_rfl) rfl #[.agg #[.slice A3 x3.1.f0.length k3, .int .i64 x3.1.f1], .agg #[.slice A4 x3.1.f0.length k4, .int .i64 x3.1.f1]] (by rfl) rfl rfl (by simp only [List.map_toArray, List.map_cons, List.map_nil] <;> rfl) ?_
  refine (ref24_Same A3 k3 x3.1 A4 k4 x3.1 _ M.out.m3.r M.out.m4.r).mono ?_
  rintro e wy ⟨rfl, hb⟩
  refine ⟨_, rfl, ?_⟩
  have hd : decide (x3.1 = x3.1) = true := decide_eq_true rfl
  rw [hd]
  clear hd
  have I := Aside0.mk (I.out.below hb)
  have M := Aside0.mk (M.out.below hb)
  clear hb
  refine hK.out _ _ M.out (fun hHeld => ?_)
  clear hK K
  refine norm_ (a' := ?_) ?_ ?_
  rotate_left
  · show Act.put _ (some 96) _ = _
    simp only [Act.put, List.setIfInBounds_toArray, List.set_cons_zero, List.set_cons_succ]
    rfl
  refine pure_ (i := 12) (N := some 97) (v := ?_) (a' := ?_) #[true, true, true, true, true, true, true, true, true, true, true, true, true, false, false, false, false, false, false, false, false, false, false, false, false, false, false, false, false, false, false, false, false, false, false, false, false, false, false, false, false, false, false, false, false, false, false, false] rfl rfl (by kernel_rfl) (fun _ _ _ h => h) (Or.inl ⟨by rfl, ?_⟩) ?_ ?_
  rotate_left
  · intro w'
    go_simp
    with_reducible rfl
  rotate_left
  · simp only [Act.put, List.setIfInBounds_toArray, List.set_cons_zero, List.set_cons_succ]
    rfl
  refine pure_ (i := 13) (N := some 98) (v := ?_) (a' := ?_) #[true, true, true, true, true, true, true, true, true, true, true, true, true, true, false, false, false, false, false, false, false, false, false, false, false, false, false, false, false, false, false, false, false, false, false, false, false, false, false, false, false, false, false, false, false, false, false, false] rfl rfl (by kernel_rfl) (fun _ _ _ h => h) (Or.inl ⟨by rfl, ?_⟩) ?_ ?_
  rotate_left
  · intro w'
    go_simp
    with_reducible rfl
  rotate_left
  · simp only [Act.put, List.setIfInBounds_toArray, List.set_cons_zero, List.set_cons_succ]
    rfl
  refine pure_ (i := 14) (N := some 99) (v := ?_) (a' := ?_) #[true, true, true, true, true, true, true, true, true, true, true, true, true, true, true, false, false, false, false, false, false, false, false, false, false, false, false, false, false, false, false, false, false, false, false, false, false, false, false, false, false, false, false, false, false, false, false, false] rfl rfl (by kernel_rfl) (fun _ _ _ h => h) (Or.inl ⟨by rfl, ?_⟩) ?_ ?_
  rotate_left
  · intro w'
    go_simp
    with_reducible rfl
  rotate_left
  · simp only [Act.put, List.setIfInBounds_toArray, List.set_cons_zero, List.set_cons_succ]
    rfl
  refine pure_ (i := 15) (N := some 100) (v := ?_) (a' := ?_) #[true, true, true, true, true, true, true, true, true, true, true, true, true, true, true, true, false, false, false, false, false, false, false, false, false, false, false, false, false, false, false, false, false, false, false, false, false, false, false, false, false, false, false, false, false, false, false, false] rfl rfl (by kernel_rfl) (fun _ _ _ h => h) (Or.inl ⟨by rfl, ?_⟩) ?_ ?_
  rotate_left
  · intro w'
    go_simp
    with_reducible rfl
  rotate_left
  · simp only [Act.put, List.setIfInBounds_toArray, List.set_cons_zero, List.set_cons_succ]
    rfl
  refine pure_ (i := 16) (N := some 101) (v := ?_) (a' := ?_) #[true, true, true, true, true, true, true, true, true, true, true, true, true, true, true, true, true, false, false, false, false, false, false, false, false, false, false, false, false, false, false, false, false, false, false, false, false, false, false, false, false, false, false, false, false, false, false, false] rfl rfl (by kernel_rfl) (fun _ _ _ h => h) (Or.inl ⟨by rfl, ?_⟩) ?_ ?_
  rotate_left
  · intro w'
    go_simp
    with_reducible rfl
  rotate_left
  · simp only [Act.put, List.setIfInBounds_toArray, List.set_cons_zero, List.set_cons_succ]
    rfl
  refine pure_ (i := 17) (N := some 102) (v := ?_) (a' := ?_) #[true, true, true, true, true, true, true, true, true, true, true, true, true, true, true, true, true, true, false, false, false, false, false, false, false, false, false, false, false, false, false, false, false, false, false, false, false, false, false, false, false, false, false, false, false, false, false, false] rfl rfl (by kernel_rfl) (fun _ _ _ h => h) (Or.inl ⟨by rfl, ?_⟩) ?_ ?_
  rotate_left
  · intro w'
    go_simp
    with_reducible rfl
  rotate_left
  · simp only [Act.put, List.setIfInBounds_toArray, List.set_cons_zero, List.set_cons_succ]
    rfl
  refine pure_ (i := 18) (N := some 103) (v := ?_) (a' := ?_) #[true, true, true, true, true, true, true, true, true, true, true, true, true, true, true, true, true, true, true, false, false, false, false, false, false, false, false, false, false, false, false, false, false, false, false, false, false, false, false, false, false, false, false, false, false, false, false, false] rfl rfl (by kernel_rfl) (fun _ _ _ h => h) (Or.inl ⟨by rfl, ?_⟩) ?_ ?_
  rotate_left
  · intro w'
    go_simp
    with_reducible rfl
  rotate_left
  · simp only [Act.put, List.setIfInBounds_toArray, List.set_cons_zero, List.set_cons_succ]
    rfl
  refine take_ (i := 19) (N := some 104) (v := ?_) (a' := ?_) #[true, true, true, true, true, true, true, true, true, true, true, true, true, true, true, true, true, true, true, true, false, false, false, false, false, false, false, false, false, false, false, false, false, false, false, false, false, false, false, false, false, false, false, false, false, false, false, false] rfl rfl (by kernel_rfl) (fun _ _ _ h => h) (Or.inl ⟨by rfl, ?_⟩) hHeld ?_ ?_
  rotate_left
  · intro w' s0
    obtain ⟨⟨m1, _⟩, ⟨m2, _⟩, ⟨m3, _⟩, ⟨m4, _⟩, ⟨m5, _⟩, ⟨m6, _⟩, ⟨m7, _⟩, ⟨m8, _⟩, ⟨m0, _⟩⟩ := s0; obtain ⟨a1, b1⟩ := (blk2w m1).1; obtain ⟨a2, b2⟩ := (blk2w m2).1; obtain ⟨a3, b3⟩ := (blk2w m3).1; obtain ⟨a4, b4⟩ := (blk2w m4).1; obtain ⟨a5, b5⟩ := (blk2w m5).1; obtain ⟨a6, b6⟩ := (blk2w m6).1; obtain ⟨a7, b7⟩ := (blk2w m7).1; obtain ⟨a8, b8⟩ := (blk2w m8).1; obtain ⟨a0, b0⟩ := (blk2w m0).1
    go_simp
    with_reducible rfl
  rotate_left
  · simp only [Act.put, List.setIfInBounds_toArray, List.set_cons_zero, List.set_cons_succ]
    rfl
  refine take_ (i := 20) (N := some 105) (v := ?_) (a' := ?_) #[true, true, true, true, true, true, true, true, true, true, true, true, true, true, true, true, true, true, true, true, true, false, false, false, false, false, false, false, false, false, false, false, false, false, false, false, false, false, false, false, false, false, false, false, false, false, false, false] rfl rfl (by kernel_rfl) (fun _ _ _ h => h) (Or.inl ⟨by rfl, ?_⟩) hHeld ?_ ?_
  rotate_left
  · intro w' s0
    obtain ⟨⟨m1, _⟩, ⟨m2, _⟩, ⟨m3, _⟩, ⟨m4, _⟩, ⟨m5, _⟩, ⟨m6, _⟩, ⟨m7, _⟩, ⟨m8, _⟩, ⟨m0, _⟩⟩ := s0; obtain ⟨a1, b1⟩ := (blk2w m1).1; obtain ⟨a2, b2⟩ := (blk2w m2).1; obtain ⟨a3, b3⟩ := (blk2w m3).1; obtain ⟨a4, b4⟩ := (blk2w m4).1; obtain ⟨a5, b5⟩ := (blk2w m5).1; obtain ⟨a6, b6⟩ := (blk2w m6).1; obtain ⟨a7, b7⟩ := (blk2w m7).1; obtain ⟨a8, b8⟩ := (blk2w m8).1; obtain ⟨a0, b0⟩ := (blk2w m0).1
    go_simp
    with_reducible rfl
  rotate_left
  · simp only [Act.put, List.setIfInBounds_toArray, List.set_cons_zero, List.set_cons_succ]
    rfl
  refine one_ (i := 21) (N := some 106) #[true, true, true, true, true, true, true, true, true, true, true, true, true, true, true, true, true, true, true, true, true, true, false, false, false, false, false, false, false, false, false, false, false, false, false, false, false, false, false, false, false, false, false, false, false, false, false, false] rfl rfl (by kernel_rfl) (by decide) (fun K hK => ?_)
  refine goes_ Try.func27 (by kernel_rfl) rfl #[.agg #[.slice A5 x5.1.f0.length k5, .int .i64 x5.1.f1], .agg #[.slice A6 x5.1.f0.length k6, .int .i64 x5.1.f1]] (by rfl) rfl rfl (by simp only [List.map_toArray, List.map_cons, List.map_nil] <;> rfl) ?_
  refine (ref24_Same A5 k5 x5.1 A6 k6 x5.1 _ M.out.m5.r M.out.m6.r).mono ?_
  rintro e wy ⟨rfl, hb⟩
  refine ⟨_, rfl, ?_⟩
  have hd : decide (x5.1 = x5.1) = true := decide_eq_true rfl
  rw [hd]
  clear hd
  have I := Aside0.mk (I.out.below hb)
  have M := Aside0.mk (M.out.below hb)
  clear hb
  refine hK.out _ _ M.out (fun hHeld => ?_)
  clear hK K
  refine norm_ (a' := ?_) ?_ ?_
  rotate_left
  · show Act.put _ (some 106) _ = _
    simp only [Act.put, List.setIfInBounds_toArray, List.set_cons_zero, List.set_cons_succ]
    rfl
  refine pure_ (i := 22) (N := some 107) (v := ?_) (a' := ?_) #[true, true, true, true, true, true, true, true, true, true, true, true, true, true, true, true, true, true, true, true, true, true, true, false, false, false, false, false, false, false, false, false, false, false, false, false, false, false, false, false, false, false, false, false, false, false, false, false] rfl rfl (by kernel_rfl) (fun _ _ _ h => h) (Or.inl ⟨by rfl, ?_⟩) ?_ ?_
  rotate_left
  · intro w'
    go_simp
    with_reducible rfl
  rotate_left
  · simp only [Act.put, List.setIfInBounds_toArray, List.set_cons_zero, List.set_cons_succ]
    rfl
  refine pure_ (i := 23) (N := some 108) (v := ?_) (a' := ?_) #[true, true, true, true, true, true, true, true, true, true, true, true, true, true, true, true, true, true, true, true, true, true, true, true, false, false, false, false, false, false, false, false, false, false, false, false, false, false, false, false, false, false, false, false, false, false, false, false] rfl rfl (by kernel_rfl) (fun _ _ _ h => h) (Or.inl ⟨by rfl, ?_⟩) ?_ ?_
  rotate_left
  · intro w'
    go_simp
    with_reducible rfl
  rotate_left
  · simp only [Act.put, List.setIfInBounds_toArray, List.set_cons_zero, List.set_cons_succ]
    rfl
  refine pure_ (i := 24) (N := some 109) (v := ?_) (a' := ?_) #[true, true, true, true, true, true, true, true, true, true, true, true, true, true, true, true, true, true, true, true, true, true, true, true, true, false, false, false, false, false, false, false, false, false, false, false, false, false, false, false, false, false, false, false, false, false, false, false] rfl rfl (by kernel_rfl) (fun _ _ _ h => h) (Or.inl ⟨by rfl, ?_⟩) ?_ ?_
  rotate_left
  · intro w'
    go_simp
    with_reducible rfl
  rotate_left
  · simp only [Act.put, List.setIfInBounds_toArray, List.set_cons_zero, List.set_cons_succ]
    rfl
  refine pure_ (i := 25) (N := some 110) (v := ?_) (a' := ?_) #[true, true, true, true, true, true, true, true, true, true, true, true, true, true, true, true, true, true, true, true, true, true, true, true, true, true, false, false, false, false, false, false, false, false, false, false, false, false, false, false, false, false, false, false, false, false, false, false] rfl rfl (by kernel_rfl) (fun _ _ _ h => h) (Or.inl ⟨by rfl, ?_⟩) ?_ ?_
  rotate_left
  · intro w'
    go_simp
    with_reducible rfl
  rotate_left
  · simp only [Act.put, List.setIfInBounds_toArray, List.set_cons_zero, List.set_cons_succ]
    rfl
  refine pure_ (i := 26) (N := some 111) (v := ?_) (a' := ?_) #[true, true, true, true, true, true, true, true, true, true, true, true, true, true, true, true, true, true, true, true, true, true, true, true, true, true, true, false, false, false, false, false, false, false, false, false, false, false, false, false, false, false, false, false, false, false, false, false] rfl rfl (by kernel_rfl) (fun _ _ _ h => h) (Or.inl ⟨by rfl, ?_⟩) ?_ ?_
  rotate_left
  · intro w'
    go_simp
    with_reducible rfl
  rotate_left
  · simp only [Act.put, List.setIfInBounds_toArray, List.set_cons_zero, List.set_cons_succ]
    rfl
  refine pure_ (i := 27) (N := some 112) (v := ?_) (a' := ?_) #[true, true, true, true, true, true, true, true, true, true, true, true, true, true, true, true, true, true, true, true, true, true, true, true, true, true, true, true, false, false, false, false, false, false, false, false, false, false, false, false, false, false, false, false, false, false, false, false] rfl rfl (by kernel_rfl) (fun _ _ _ h => h) (Or.inl ⟨by rfl, ?_⟩) ?_ ?_
  rotate_left
  · intro w'
    go_simp
    with_reducible rfl
  rotate_left
  · simp only [Act.put, List.setIfInBounds_toArray, List.set_cons_zero, List.set_cons_succ]
    rfl
  refine pure_ (i := 28) (N := some 113) (v := ?_) (a' := ?_) #[true, true, true, true, true, true, true, true, true, true, true, true, true, true, true, true, true, true, true, true, true, true, true, true, true, true, true, true, true, false, false, false, false, false, false, false, false, false, false, false, false, false, false, false, false, false, false, false] rfl rfl (by kernel_rfl) (fun _ _ _ h => h) (Or.inl ⟨by rfl, ?_⟩) ?_ ?_
  rotate_left
  · intro w'
    go_simp
    with_reducible rfl
  rotate_left
  · simp only [Act.put, List.setIfInBounds_toArray, List.set_cons_zero, List.set_cons_succ]
    rfl
  refine take_ (i := 29) (N := some 114) (v := ?_) (a' := ?_) #[true, true, true, true, true, true, true, true, true, true, true, true, true, true, true, true, true, true, true, true, true, true, true, true, true, true, true, true, true, true, false, false, false, false, false, false, false, false, false, false, false, false, false, false, false, false, false, false] rfl rfl (by kernel_rfl) (fun _ _ _ h => h) (Or.inl ⟨by rfl, ?_⟩) hHeld ?_ ?_
  rotate_left
  · intro w' s0
    obtain ⟨⟨m1, _⟩, ⟨m2, _⟩, ⟨m3, _⟩, ⟨m4, _⟩, ⟨m5, _⟩, ⟨m6, _⟩, ⟨m7, _⟩, ⟨m8, _⟩, ⟨m0, _⟩⟩ := s0; obtain ⟨a1, b1⟩ := (blk2w m1).1; obtain ⟨a2, b2⟩ := (blk2w m2).1; obtain ⟨a3, b3⟩ := (blk2w m3).1; obtain ⟨a4, b4⟩ := (blk2w m4).1; obtain ⟨a5, b5⟩ := (blk2w m5).1; obtain ⟨a6, b6⟩ := (blk2w m6).1; obtain ⟨a7, b7⟩ := (blk2w m7).1; obtain ⟨a8, b8⟩ := (blk2w m8).1; obtain ⟨a0, b0⟩ := (blk2w m0).1
    go_simp
    with_reducible rfl
  rotate_left
  · simp only [Act.put, List.setIfInBounds_toArray, List.set_cons_zero, List.set_cons_succ]
    rfl
  refine take_ (i := 30) (N := some 115) (v := ?_) (a' := ?_) #[true, true, true, true, true, true, true, true, true, true, true, true, true, true, true, true, true, true, true, true, true, true, true, true, true, true, true, true, true, true, true, false, false, false, false, false, false, false, false, false, false, false, false, false, false, false, false, false] rfl rfl (by kernel_rfl) (fun _ _ _ h => h) (Or.inl ⟨by rfl, ?_⟩) hHeld ?_ ?_
  rotate_left
  · intro w' s0
    obtain ⟨⟨m1, _⟩, ⟨m2, _⟩, ⟨m3, _⟩, ⟨m4, _⟩, ⟨m5, _⟩, ⟨m6, _⟩, ⟨m7, _⟩, ⟨m8, _⟩, ⟨m0, _⟩⟩ := s0; obtain ⟨a1, b1⟩ := (blk2w m1).1; obtain ⟨a2, b2⟩ := (blk2w m2).1; obtain ⟨a3, b3⟩ := (blk2w m3).1; obtain ⟨a4, b4⟩ := (blk2w m4).1; obtain ⟨a5, b5⟩ := (blk2w m5).1; obtain ⟨a6, b6⟩ := (blk2w m6).1; obtain ⟨a7, b7⟩ := (blk2w m7).1; obtain ⟨a8, b8⟩ := (blk2w m8).1; obtain ⟨a0, b0⟩ := (blk2w m0).1
    go_simp
    with_reducible rfl
  rotate_left
  · simp only [Act.put, List.setIfInBounds_toArray, List.set_cons_zero, List.set_cons_succ]
    rfl
  refine one_ (i := 31) (N := some 116) #[true, true, true, true, true, true, true, true, true, true, true, true, true, true, true, true, true, true, true, true, true, true, true, true, true, true, true, true, true, true, true, true, false, false, false, false, false, false, false, false, false, false, false, false, false, false, false, false] rfl rfl (by kernel_rfl) (by decide) (fun K hK => ?_)
  refine goes_ Try.func27 (by kernel_rfl) rfl #[.agg #[.slice A7 x7.1.f0.length k7, .int .i64 x7.1.f1], .agg #[.slice A8 x7.1.f0.length k8, .int .i64 x7.1.f1]] (by rfl) rfl rfl (by simp only [List.map_toArray, List.map_cons, List.map_nil] <;> rfl) ?_
  refine (ref24_Same A7 k7 x7.1 A8 k8 x7.1 _ M.out.m7.r M.out.m8.r).mono ?_
  rintro e wy ⟨rfl, hb⟩
  refine ⟨_, rfl, ?_⟩
  have hd : decide (x7.1 = x7.1) = true := decide_eq_true rfl
  rw [hd]
  clear hd
  have I := Aside0.mk (I.out.below hb)
  have M := Aside0.mk (M.out.below hb)
  clear hb
  refine hK.out _ _ M.out (fun hHeld => ?_)
  clear hK K
  refine norm_ (a' := ?_) ?_ ?_
  rotate_left
  · show Act.put _ (some 116) _ = _
    simp only [Act.put, List.setIfInBounds_toArray, List.set_cons_zero, List.set_cons_succ]
    rfl
  refine pure_ (i := 32) (N := some 117) (v := ?_) (a' := ?_) #[true, true, true, true, true, true, true, true, true, true, true, true, true, true, true, true, true, true, true, true, true, true, true, true, true, true, true, true, true, true, true, true, true, false, false, false, false, false, false, false, false, false, false, false, false, false, false, false] rfl rfl (by kernel_rfl) (fun _ _ _ h => h) (Or.inl ⟨by rfl, ?_⟩) ?_ ?_
  rotate_left
  · intro w'
    go_simp
    with_reducible rfl
  rotate_left
  · simp only [Act.put, List.setIfInBounds_toArray, List.set_cons_zero, List.set_cons_succ]
    rfl
  refine pure_ (i := 33) (N := some 118) (v := ?_) (a' := ?_) #[true, true, true, true, true, true, true, true, true, true, true, true, true, true, true, true, true, true, true, true, true, true, true, true, true, true, true, true, true, true, true, true, true, true, false, false, false, false, false, false, false, false, false, false, false, false, false, false] rfl rfl (by kernel_rfl) (fun _ _ _ h => h) (Or.inl ⟨by rfl, ?_⟩) ?_ ?_
  rotate_left
  · intro w'
    go_simp
    with_reducible rfl
  rotate_left
  · simp only [Act.put, List.setIfInBounds_toArray, List.set_cons_zero, List.set_cons_succ]
    rfl
  refine pure_ (i := 34) (N := some 119) (v := ?_) (a' := ?_) #[true, true, true, true, true, true, true, true, true, true, true, true, true, true, true, true, true, true, true, true, true, true, true, true, true, true, true, true, true, true, true, true, true, true, true, false, false, false, false, false, false, false, false, false, false, false, false, false] rfl rfl (by kernel_rfl) (fun _ _ _ h => h) (Or.inl ⟨by rfl, ?_⟩) ?_ ?_
  rotate_left
  · intro w'
    go_simp
    with_reducible rfl
  rotate_left
  · simp only [Act.put, List.setIfInBounds_toArray, List.set_cons_zero, List.set_cons_succ]
    rfl
  refine pure_ (i := 35) (N := some 120) (v := ?_) (a' := ?_) #[true, true, true, true, true, true, true, true, true, true, true, true, true, true, true, true, true, true, true, true, true, true, true, true, true, true, true, true, true, true, true, true, true, true, true, true, false, false, false, false, false, false, false, false, false, false, false, false] rfl rfl (by kernel_rfl) (fun _ _ _ h => h) (Or.inl ⟨by rfl, ?_⟩) ?_ ?_
  rotate_left
  · intro w'
    go_simp
    with_reducible rfl
  rotate_left
  · simp only [Act.put, List.setIfInBounds_toArray, List.set_cons_zero, List.set_cons_succ]
    rfl
  refine pure_ (i := 36) (N := some 121) (v := ?_) (a' := ?_) #[true, true, true, true, true, true, true, true, true, true, true, true, true, true, true, true, true, true, true, true, true, true, true, true, true, true, true, true, true, true, true, true, true, true, true, true, true, false, false, false, false, false, false, false, false, false, false, false] rfl rfl (by kernel_rfl) (fun _ _ _ h => h) (Or.inl ⟨by rfl, ?_⟩) ?_ ?_
  rotate_left
  · intro w'
    go_simp
    with_reducible rfl
  rotate_left
  · simp only [Act.put, List.setIfInBounds_toArray, List.set_cons_zero, List.set_cons_succ]
    rfl
  refine pure_ (i := 37) (N := some 122) (v := ?_) (a' := ?_) #[true, true, true, true, true, true, true, true, true, true, true, true, true, true, true, true, true, true, true, true, true, true, true, true, true, true, true, true, true, true, true, true, true, true, true, true, true, true, false, false, false, false, false, false, false, false, false, false] rfl rfl (by kernel_rfl) (fun _ _ _ h => h) (Or.inl ⟨by rfl, ?_⟩) ?_ ?_
  rotate_left
  · intro w'
    go_simp
    with_reducible rfl
  rotate_left
  · simp only [Act.put, List.setIfInBounds_toArray, List.set_cons_zero, List.set_cons_succ]
    rfl
  refine pure_ (i := 38) (N := some 123) (v := ?_) (a' := ?_) #[true, true, true, true, true, true, true, true, true, true, true, true, true, true, true, true, true, true, true, true, true, true, true, true, true, true, true, true, true, true, true, true, true, true, true, true, true, true, true, false, false, false, false, false, false, false, false, false] rfl rfl (by kernel_rfl) (fun _ _ _ h => h) (Or.inl ⟨by rfl, ?_⟩) ?_ ?_
  rotate_left
  · intro w'
    go_simp
    with_reducible rfl
  rotate_left
  · simp only [Act.put, List.setIfInBounds_toArray, List.set_cons_zero, List.set_cons_succ]
    rfl
  refine pure_ (i := 39) (N := some 124) (v := ?_) (a' := ?_) #[true, true, true, true, true, true, true, true, true, true, true, true, true, true, true, true, true, true, true, true, true, true, true, true, true, true, true, true, true, true, true, true, true, true, true, true, true, true, true, true, false, false, false, false, false, false, false, false] rfl rfl (by kernel_rfl) (fun _ _ _ h => h) (Or.inl ⟨by rfl, ?_⟩) ?_ ?_
  rotate_left
  · intro w'
    go_simp
    with_reducible rfl
  rotate_left
  · simp only [Act.put, List.setIfInBounds_toArray, List.set_cons_zero, List.set_cons_succ]
    rfl
  refine take_ (i := 40) (N := some 125) (v := ?_) (a' := ?_) #[true, true, true, true, true, true, true, true, true, true, true, true, true, true, true, true, true, true, true, true, true, true, true, true, true, true, true, true, true, true, true, true, true, true, true, true, true, true, true, true, true, false, false, false, false, false, false, false] rfl rfl (by kernel_rfl) (fun _ _ _ h => h) (Or.inl ⟨by rfl, ?_⟩) hHeld ?_ ?_
  rotate_left
  · intro w' s0
    obtain ⟨⟨m1, _⟩, ⟨m2, _⟩, ⟨m3, _⟩, ⟨m4, _⟩, ⟨m5, _⟩, ⟨m6, _⟩, ⟨m7, _⟩, ⟨m8, _⟩, ⟨m0, _⟩⟩ := s0; obtain ⟨a1, b1⟩ := (blk2w m1).1; obtain ⟨a2, b2⟩ := (blk2w m2).1; obtain ⟨a3, b3⟩ := (blk2w m3).1; obtain ⟨a4, b4⟩ := (blk2w m4).1; obtain ⟨a5, b5⟩ := (blk2w m5).1; obtain ⟨a6, b6⟩ := (blk2w m6).1; obtain ⟨a7, b7⟩ := (blk2w m7).1; obtain ⟨a8, b8⟩ := (blk2w m8).1; obtain ⟨a0, b0⟩ := (blk2w m0).1
    go_simp
    with_reducible rfl
  rotate_left
  · simp only [Act.put, List.setIfInBounds_toArray, List.set_cons_zero, List.set_cons_succ]
    rfl
  refine pure_ (i := 42) (N := some 127) (v := ?_) (a' := ?_) #[true, true, true, true, true, true, true, true, true, true, true, true, true, true, true, true, true, true, true, true, true, true, true, true, true, true, true, true, true, true, true, true, true, true, true, true, true, true, true, true, true, false, true, false, false, false, false, false] rfl rfl (by kernel_rfl) (fun _ _ _ h => h) (Or.inl ⟨by rfl, ?_⟩) ?_ ?_
  rotate_left
  · intro w'
    go_simp
    with_reducible rfl
  rotate_left
  · simp only [Act.put, List.setIfInBounds_toArray, List.set_cons_zero, List.set_cons_succ]
    rfl
  refine take_ (i := 43) (N := some 128) (v := ?_) (a' := ?_) #[true, true, true, true, true, true, true, true, true, true, true, true, true, true, true, true, true, true, true, true, true, true, true, true, true, true, true, true, true, true, true, true, true, true, true, true, true, true, true, true, true, false, true, true, false, false, false, false] rfl rfl (by kernel_rfl) (fun _ _ _ h => h) (Or.inl ⟨by rfl, ?_⟩) hHeld ?_ ?_
  rotate_left
  · intro w' s0
    obtain ⟨⟨m1, _⟩, ⟨m2, _⟩, ⟨m3, _⟩, ⟨m4, _⟩, ⟨m5, _⟩, ⟨m6, _⟩, ⟨m7, _⟩, ⟨m8, _⟩, ⟨m0, _⟩⟩ := s0; obtain ⟨a1, b1⟩ := (blk2w m1).1; obtain ⟨a2, b2⟩ := (blk2w m2).1; obtain ⟨a3, b3⟩ := (blk2w m3).1; obtain ⟨a4, b4⟩ := (blk2w m4).1; obtain ⟨a5, b5⟩ := (blk2w m5).1; obtain ⟨a6, b6⟩ := (blk2w m6).1; obtain ⟨a7, b7⟩ := (blk2w m7).1; obtain ⟨a8, b8⟩ := (blk2w m8).1; obtain ⟨a0, b0⟩ := (blk2w m0).1
    go_simp
    with_reducible rfl
  rotate_left
  · simp only [Act.put, List.setIfInBounds_toArray, List.set_cons_zero, List.set_cons_succ]
    rfl
  refine one_ (i := 41) (N := some 126) #[true, true, true, true, true, true, true, true, true, true, true, true, true, true, true, true, true, true, true, true, true, true, true, true, true, true, true, true, true, true, true, true, true, true, true, true, true, true, true, true, true, true, true, true, false, false, false, false] rfl rfl (by kernel_rfl) (by decide) (fun K hK => ?_)
  refine goes_ Try.func28 (by kernel_rfl) rfl #[.int .i64 n, .agg #[.slice A pa.length k, .int .i64 pl]] (by rfl) rfl rfl (by simp only [List.map_toArray, List.map_cons, List.map_nil] <;> rfl) ?_
  refine (HPC.out _ I.out.BW).mono ?_
  rintro e wy ⟨rfl, hb⟩
  refine ⟨_, rfl, ?_⟩
  have I := Aside0.mk (I.out.below hb)
  have M := Aside0.mk (M.out.below hb)
  clear hb
  refine hK.out _ _ M.out (fun hHeld => ?_)
  clear hK K
  refine norm_ (a' := ?_) ?_ ?_
  rotate_left
  · show Act.put _ (some 126) _ = _
    simp only [Act.put, List.setIfInBounds_toArray, List.set_cons_zero, List.set_cons_succ]
    rfl
  refine one_ (i := 44) (N := some 129) #[true, true, true, true, true, true, true, true, true, true, true, true, true, true, true, true, true, true, true, true, true, true, true, true, true, true, true, true, true, true, true, true, true, true, true, true, true, true, true, true, true, true, true, true, true, false, false, false] rfl rfl (by kernel_rfl) (by decide) (fun K hK => ?_)
  refine goes_ Try.func29 (by kernel_rfl) rfl #[.int .i64 n, .agg #[.slice A pa.length k, .int .i64 pl]] (by rfl) rfl rfl (by simp only [List.map_toArray, List.map_cons, List.map_nil] <;> rfl) ?_
  refine (HRC.out _ I.out.BW).mono ?_
  rintro e wx ⟨rfl, hb⟩
  refine ⟨_, rfl, ?_⟩
  have I := Aside0.mk (I.out.below hb)
  have M := Aside0.mk (M.out.below hb)
  clear hb
  refine hK.out _ _ M.out (fun hHeld => ?_)
  clear hK K
  refine norm_ (a' := ?_) ?_ ?_
  rotate_left
  · show Act.put _ (some 129) _ = _
    simp only [Act.put, List.setIfInBounds_toArray, List.set_cons_zero, List.set_cons_succ]
    rfl
  refine pure_ (i := 45) (N := some 130) (v := ?_) (a' := ?_) #[true, true, true, true, true, true, true, true, true, true, true, true, true, true, true, true, true, true, true, true, true, true, true, true, true, true, true, true, true, true, true, true, true, true, true, true, true, true, true, true, true, true, true, true, true, true, false, false] rfl rfl (by kernel_rfl) (fun _ _ _ h => h) (Or.inl ⟨by rfl, ?_⟩) ?_ ?_
  rotate_left
  · intro w'
    go_simp
    with_reducible rfl
  rotate_left
  · simp only [Act.put, List.setIfInBounds_toArray, List.set_cons_zero, List.set_cons_succ]
    rfl
  refine pure_ (i := 46) (N := some 131) (v := ?_) (a' := ?_) #[true, true, true, true, true, true, true, true, true, true, true, true, true, true, true, true, true, true, true, true, true, true, true, true, true, true, true, true, true, true, true, true, true, true, true, true, true, true, true, true, true, true, true, true, true, true, true, false] rfl rfl (by kernel_rfl) (fun _ _ _ h => h) (Or.inl ⟨by rfl, ?_⟩) ?_ ?_
  rotate_left
  · intro w'
    go_simp
    with_reducible rfl
  rotate_left
  · simp only [Act.put, List.setIfInBounds_toArray, List.set_cons_zero, List.set_cons_succ]
    rfl
  refine pure_ (i := 47) (N := some 8) (v := ?_) (a' := ?_) #[true, true, true, true, true, true, true, true, true, true, true, true, true, true, true, true, true, true, true, true, true, true, true, true, true, true, true, true, true, true, true, true, true, true, true, true, true, true, true, true, true, true, true, true, true, true, true, true] rfl rfl (by kernel_rfl) (fun _ _ _ h => h) (Or.inl ⟨by rfl, ?_⟩) ?_ ?_
  rotate_left
  · intro w'
    go_simp
    with_reducible rfl
  rotate_left
  · simp only [Act.put, List.setIfInBounds_toArray, List.set_cons_zero, List.set_cons_succ]
    rfl
  refine done_ (by kernel_rfl) ?_
  go_wp2
  go_ret
  exact ⟨rfl, I.out.BW⟩
end Go.Proofs.Ytgcdanpihaeioaa.PH
