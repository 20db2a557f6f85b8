/- The reference: And, Or, Not; agreement with the program. -/
import Derived.Test.YtgcdanpihaeioaaHRefMake
namespace Go.Proofs.Ytgcdanpihaeioaa.PH
open Go.RowKit Go.Proofs.YtgcdanpihaeioaaW.PrintWords Go.Proofs.YtgcdanpihaeioaaW.PrintLast
set_option linter.unusedVariables false
set_option linter.unusedSimpArgs false

def refAnd (n : Int) (p q : Pr) : Pr × Int := if twoErr n p q ≠ 0 then (zeroP, twoErr n p q) else fewR n (bothR n p q)
def refOr (n : Int) (p q : Pr) : Pr × Int := if twoErr n p q ≠ 0 then (zeroP, twoErr n p q) else fewR n (turnP (bothR n (turnP p) (turnP q)))
set_option maxHeartbeats 4000000 in
set_option maxRecDepth 100000 in
theorem ref24_And (n : Int) (A : Option Addr) (k : Nat) (p : Pr) (B : Option Addr) (d : Nat) (q : Pr) (w : World) (hp : RS kGate w A k p.f0) (hpf : p.Fits) (hq : RS kGate w B d q.f0) (hqf : q.Fits) :
    Calls Try.prog 22 #[.int .i64 n, pv A k p, pv B d q] w fun e w' => RetP w.heap.size w w' (refAnd n p q) e := by
  have H2 := Aside0.mk (fun W (hb : Below w.heap.size w W) => ref24_Two n A k p B d q W (hp.below hb) hpf (hq.below hb) hqf)
  have I0 := Aside0.mk (AInv.start w A k p B d q)
  have hu24 := Try.underlying24
  have HP := Aside0.mk hp
  have HQ := Aside0.mk hq
  have HQF := Aside0.mk hqf
  clear hp hq hpf hqf
  unfold refAnd
  by_cases h0 : twoErr n p q = 0
  case neg =>
    rw [if_pos h0]
    have hb : (twoErr n p q != 0) = true := bne_iff_ne.mpr h0
    clear h0
    obtain ⟨pa, pl⟩ := p
    obtain ⟨qa, ql⟩ := q
    dsimp only [pv] at *
    obtain ⟨r0, r1⟩ := (blk2w I0.out.B0).1
    obtain ⟨s0, s1⟩ := (blk2w I0.out.B1).1
    go_enter Try.func22, Try.ntmps22
    go_wp2_with fail
    refine (H2.out _ I0.out.BW).mono ?_
    rintro e w1 ⟨rfl, hb1⟩
    have I1 := Aside0.mk (I0.out.below hb1 (by simp))
    clear hb1 r0 r1 s0 s1
    obtain ⟨⟨r0, r1⟩, z0, z1⟩ := blk2w I1.out.B2
    go_wp2
    refine bodyPost_ret (results_ct rfl _ _ (w.heap.size + 2) 24 #[.slice none 0 0, .int .i64 0] (0, 0) _ rfl (blk2_set I1.out.B2 _ _) hu24 rfl (by kernel_rfl)) rfl ?_
    exact ⟨none, 0, rfl, Kd.R_nil _ _ _ _ _, below2 I1.out.BW (by omega) _ _⟩
  rw [if_neg (by rw [h0]; simp)]
  rw [h0] at H2
  have HC := Aside0.mk (two_ok h0)
  have HPT := Aside0.mk (predCheck_parts (two_ok h0).1)
  have HQT := Aside0.mk (predCheck_parts (two_ok h0).2)
  have HBO := Aside0.mk (fun W (hb : Below w.heap.size w W) => ref24_Both n A k p B d q W (HP.out.below hb) (HQ.out.below hb) HQF.out HC.out.1 HC.out.2)
  have HBM := Aside0.mk (bothR_mid (two_ok h0).1 (two_ok h0).2)
  clear h0
  generalize bothR n p q = r at *
  obtain ⟨R, hR⟩ : ∃ R, fewR n r = R := ⟨_, rfl⟩
  rw [hR]
  have HR := Aside0.mk hR
  clear hR
  obtain ⟨pa, pl⟩ := p
  obtain ⟨qa, ql⟩ := q
  dsimp only [pv] at *
  obtain ⟨r0, r1⟩ := (blk2w I0.out.B0).1
  obtain ⟨s0, s1⟩ := (blk2w I0.out.B1).1
  go_enter Try.func22, Try.ntmps22
  go_wp2_with fail
  refine (H2.out _ I0.out.BW).mono ?_
  rintro e w1 ⟨rfl, hb1⟩
  have I1 := Aside0.mk (I0.out.below hb1 (by simp))
  have HS1 := Aside0.mk (blk_lt I1.out.B2)
  clear hb1 r0 r1 s0 s1 I0
  obtain ⟨r0, r1⟩ := (blk2w I1.out.B0).1
  obtain ⟨s0, s1⟩ := (blk2w I1.out.B1).1
  go_wp2_with fail
  refine (HBO.out _ I1.out.BW).mono ?_
  rintro e w2 ⟨E2, c2, rfl, hr2, hb2⟩
  have R2_ := Aside0.mk hr2
  have I2 := Aside0.mk (I1.out.below hb2 HS1.out)
  have B2 := Aside0.mk hb2
  clear hr2 hb2 r0 r1 s0 s1
  dsimp only [pv]
  go_wp2_with fail
  refine (ref24_Few n w1.heap.size E2 c2 r w2 R2_.out HPT.out.1 (by have := HPT.out.2.1; omega) (by have h1 : n + (pa.length : Int) ≤ 1000 := HPT.out.2.1; have h2 : n + (qa.length : Int) ≤ 1000 := HQT.out.2.1; have h3 : r.f0.length ≤ pa.length + qa.length + 1 := HBM.out.2; have h4 := HPT.out.1; omega)).mono ?_
  rintro e w3 ⟨E3, c3, rfl, hr3, hb3⟩
  rw [HR.out] at hr3 ⊢
  have R3 := Aside0.mk hr3
  have I3 := Aside0.mk (I2.out.below hb3 (Nat.lt_of_lt_of_le HS1.out B2.out.size))
  clear hr3 hb3
  obtain ⟨⟨r0, r1⟩, z0, z1⟩ := blk2w I3.out.B2
  go_wp2
  refine bodyPost_ret (results_ct rfl _ _ (w.heap.size + 2) 24 #[.slice E3 R.1.f0.length c3, .int .i64 R.1.f1] (0, 0) _ rfl (blk2_set I3.out.B2 _ _) hu24 rfl (by kernel_rfl)) rfl ?_
  exact ⟨E3, c3, rfl, R2 (Kd.R_lower R3.out (by have := HS1.out; omega)) I3.out.B2 (by decide) _ _, below2 I3.out.BW (by omega) _ _⟩
set_option maxHeartbeats 4000000 in
set_option maxRecDepth 100000 in
theorem ref24_Or (n : Int) (A : Option Addr) (k : Nat) (p : Pr) (B : Option Addr) (d : Nat) (q : Pr) (w : World) (hp : RS kGate w A k p.f0) (hpf : p.Fits) (hq : RS kGate w B d q.f0) (hqf : q.Fits) :
    Calls Try.prog 24 #[.int .i64 n, pv A k p, pv B d q] w fun e w' => RetP w.heap.size w w' (refOr n p q) e := by
  have H2 := Aside0.mk (fun W (hb : Below w.heap.size w W) => ref24_Two n A k p B d q W (hp.below hb) hpf (hq.below hb) hqf)
  have I0 := Aside0.mk (AInv.start w A k p B d q)
  have hu24 := Try.underlying24
  have HP := Aside0.mk hp
  have HQ := Aside0.mk hq
  have HQF := Aside0.mk hqf
  have HPF := Aside0.mk hpf
  clear hp hq hpf hqf
  unfold refOr
  by_cases h0 : twoErr n p q = 0
  case neg =>
    rw [if_pos h0]
    have hb : (twoErr n p q != 0) = true := bne_iff_ne.mpr h0
    clear h0
    obtain ⟨pa, pl⟩ := p
    obtain ⟨qa, ql⟩ := q
    dsimp only [pv] at *
    obtain ⟨r0, r1⟩ := (blk2w I0.out.B0).1
    obtain ⟨s0, s1⟩ := (blk2w I0.out.B1).1
    go_enter Try.func24, Try.ntmps24
    go_wp2_with fail
    refine (H2.out _ I0.out.BW).mono ?_
    rintro e w1 ⟨rfl, hb1⟩
    have I1 := Aside0.mk (I0.out.below hb1 (by simp))
    clear hb1 r0 r1 s0 s1
    obtain ⟨⟨r0, r1⟩, z0, z1⟩ := blk2w I1.out.B2
    go_wp2
    refine bodyPost_ret (results_ct rfl _ _ (w.heap.size + 2) 24 #[.slice none 0 0, .int .i64 0] (0, 0) _ rfl (blk2_set I1.out.B2 _ _) hu24 rfl (by kernel_rfl)) rfl ?_
    exact ⟨none, 0, rfl, Kd.R_nil _ _ _ _ _, below2 I1.out.BW (by omega) _ _⟩
  rw [if_neg (by rw [h0]; simp)]
  rw [h0] at H2
  have HC := Aside0.mk (two_ok h0)
  have HPT := Aside0.mk (predCheck_parts (two_ok h0).1)
  have HQT := Aside0.mk (predCheck_parts (two_ok h0).2)
  have HTP := Aside0.mk (fun W (hb : Below w.heap.size w W) => ref24_Turned A k p W (HP.out.below hb) HPF.out.h (lit_of_check (two_ok h0).1).big)
  have HTQ := Aside0.mk (fun W (hb : Below w.heap.size w W) => ref24_Turned B d q W (HQ.out.below hb) HQF.out.h (lit_of_check (two_ok h0).2).big)
  have HBO := Aside0.mk (fun W A' k' B' d' hp' hq' => ref24_Both n A' k' (turnP p) B' d' (turnP q) W hp' hq' (turn_fits (two_ok h0).2 HQF.out) (check_turn (two_ok h0).1) (check_turn (two_ok h0).2))
  have HBM := bothR_mid (check_turn (two_ok h0).1) (check_turn (two_ok h0).2)
  clear h0
  generalize bothR n (turnP p) (turnP q) = r at *
  obtain ⟨R, hR⟩ : ∃ R, fewR n (turnP r) = R := ⟨_, rfl⟩
  rw [hR]
  have HR := Aside0.mk hR
  have HBM := Aside0.mk HBM
  clear hR
  obtain ⟨pa, pl⟩ := p
  obtain ⟨qa, ql⟩ := q
  dsimp only [pv] at *
  obtain ⟨r0, r1⟩ := (blk2w I0.out.B0).1
  obtain ⟨s0, s1⟩ := (blk2w I0.out.B1).1
  go_enter Try.func24, Try.ntmps24
  go_wp2_with fail
  refine (H2.out _ I0.out.BW).mono ?_
  rintro e w1 ⟨rfl, hb1⟩
  have I1 := Aside0.mk (I0.out.below hb1 (by simp))
  have HS1 := Aside0.mk (blk_lt I1.out.B2)
  clear hb1 r0 r1 s0 s1 I0
  obtain ⟨r0, r1⟩ := (blk2w I1.out.B0).1
  obtain ⟨s0, s1⟩ := (blk2w I1.out.B1).1
  clear r0 r1 s0 s1
  go_wp2
  have I2 := Aside0.mk (I1.out.below (below_drew (Below.refl w1.heap.size w1)) HS1.out)
  refine start_ (n := 13) (S := (fun w' => w'.cell? ⟨w.heap.size, 0, none⟩ = some (.slice A pa.length k) ∧ w'.cell? ⟨w.heap.size, 1, none⟩ = some (.int .i64 pl) ∧ w'.cell? ⟨w.heap.size + 1, 0, none⟩ = some (.slice B qa.length d) ∧ w'.cell? ⟨w.heap.size + 1, 1, none⟩ = some (.int .i64 ql))) (ds := []) #[false, false, false, false, false, false, false, false, false, false, false, false, false] (by kernel_rfl) rfl rfl ⟨(blk2w I1.out.B0).1.1, (blk2w I1.out.B0).1.2, (blk2w I1.out.B1).1⟩ (fun hHeld => ?_)
  refine pure_ (i := 0) (N := some 17) (v := ?_) (a' := ?_) #[true, false, false, false, false, false, false, false, false, false, false, false, false] rfl rfl (by kernel_rfl) (fun _ _ _ h => h) (Or.inl ⟨by rfl, ?_⟩) ?_ ?_
  rotate_left
  · intro w'
    go_simp
    with_reducible rfl
  rotate_left
  · simp only [Act.put, List.setIfInBounds_toArray, List.set_cons_zero, List.set_cons_succ]
    rfl
  refine pure_ (i := 1) (N := some 18) (v := ?_) (a' := ?_) #[true, true, false, false, false, false, false, false, false, false, false, false, false] rfl rfl (by kernel_rfl) (fun _ _ _ h => h) (Or.inl ⟨by rfl, ?_⟩) ?_ ?_
  rotate_left
  · intro w'
    go_simp
    with_reducible rfl
  rotate_left
  · simp only [Act.put, List.setIfInBounds_toArray, List.set_cons_zero, List.set_cons_succ]
    rfl
  refine take_ (i := 2) (N := some 19) (v := ?_) (a' := ?_) #[true, true, true, false, false, false, false, false, false, false, false, false, false] rfl rfl (by kernel_rfl) (fun _ _ _ h => h) (Or.inl ⟨by rfl, ?_⟩) hHeld ?_ ?_
  rotate_left
  · rintro w' ⟨s0, s1, s2, s3⟩
    go_simp
    with_reducible rfl
  rotate_left
  · simp only [Act.put, List.setIfInBounds_toArray, List.set_cons_zero, List.set_cons_succ]
    rfl
  refine take_ (i := 4) (N := some 21) (v := ?_) (a' := ?_) #[true, true, true, false, true, false, false, false, false, false, false, false, false] rfl rfl (by kernel_rfl) (fun _ _ _ h => h) (Or.inl ⟨by rfl, ?_⟩) hHeld ?_ ?_
  rotate_left
  · rintro w' ⟨s0, s1, s2, s3⟩
    go_simp
    with_reducible rfl
  rotate_left
  · simp only [Act.put, List.setIfInBounds_toArray, List.set_cons_zero, List.set_cons_succ]
    rfl
  refine one_ (i := 3) (N := some 20) #[true, true, true, true, true, false, false, false, false, false, false, false, false] rfl rfl (by kernel_rfl) (by decide) (fun K hK => ?_)
  refine goes_ Try.func61 (by kernel_rfl) rfl #[.agg #[.slice A pa.length k, .int .i64 pl]] (by rfl) rfl rfl (by simp only [List.map_toArray, List.map_cons, List.map_nil] <;> rfl) ?_
  refine (HTP.out _ I2.out.BW).mono ?_
  rintro e w3 ⟨A3, k3, rfl, hr3, hb3⟩
  refine ⟨_, rfl, ?_⟩
  have R3 := Aside0.mk (Kd.R_lower hr3 (show w1.heap.size ≤ w1.drew.heap.size from Nat.le_refl _))
  have B3 := Aside0.mk ((below_drew (Below.refl w1.heap.size w1)).trans (show Below w1.heap.size w1.drew w3 from hb3))
  have I3 := Aside0.mk (I1.out.below B3.out HS1.out)
  clear hr3 hb3
  dsimp only [pv, turnP] at R3 ⊢
  refine hK.out _ _ ⟨(blk2w I3.out.B0).1.1, (blk2w I3.out.B0).1.2, (blk2w I3.out.B1).1⟩ (fun hHeld => ?_)
  clear hK K
  refine norm_ (a' := ?_) ?_ ?_
  rotate_left
  · show Act.put _ (some 20) _ = _
    simp only [Act.put, List.setIfInBounds_toArray, List.set_cons_zero, List.set_cons_succ]
    rfl
  refine one_ (i := 5) (N := some 22) #[true, true, true, true, true, true, false, false, false, false, false, false, false] rfl rfl (by kernel_rfl) (by decide) (fun K hK => ?_)
  refine goes_ Try.func61 (by kernel_rfl) rfl #[.agg #[.slice B qa.length d, .int .i64 ql]] (by rfl) rfl rfl (by simp only [List.map_toArray, List.map_cons, List.map_nil] <;> rfl) ?_
  refine (HTQ.out _ I3.out.BW).mono ?_
  rintro e w4 ⟨A4, k4, rfl, hr4, hb4⟩
  refine ⟨_, rfl, ?_⟩
  have R3b := Aside0.mk (Kd.R_below R3.out hb4)
  have R4 := Aside0.mk hr4
  have B4 := Aside0.mk (B3.out.trans (hb4.mono B3.out.size))
  have I4 := Aside0.mk (I1.out.below B4.out HS1.out)
  clear hr4 hb4
  dsimp only [pv, turnP] at R4 ⊢
  refine hK.out _ _ ⟨(blk2w I4.out.B0).1.1, (blk2w I4.out.B0).1.2, (blk2w I4.out.B1).1⟩ (fun hHeld => ?_)
  clear hK K
  refine norm_ (a' := ?_) ?_ ?_
  rotate_left
  · show Act.put _ (some 22) _ = _
    simp only [Act.put, List.setIfInBounds_toArray, List.set_cons_zero, List.set_cons_succ]
    rfl
  refine one_ (i := 6) (N := some 23) #[true, true, true, true, true, true, true, false, false, false, false, false, false] rfl rfl (by kernel_rfl) (by decide) (fun K hK => ?_)
  refine goes_ Try.func60 (by kernel_rfl) rfl #[.int .i64 n, .agg #[.slice A3 pa.length k3, .int .i64 (litNot pl)], .agg #[.slice A4 qa.length k4, .int .i64 (litNot ql)]] (by rfl) rfl rfl (by simp only [List.map_toArray, List.map_cons, List.map_nil] <;> rfl) ?_
  refine (HBO.out w4 A3 k3 A4 k4 (RS.of_R' R3b.out) (RS.of_R' R4.out)).mono ?_
  rintro e w5 ⟨A5, k5, rfl, hr5, hb5⟩
  refine ⟨_, rfl, ?_⟩
  have R5_ := Aside0.mk hr5
  have B5 := Aside0.mk (B4.out.trans (hb5.mono B4.out.size))
  have I5 := Aside0.mk (I1.out.below B5.out HS1.out)
  clear hr5 hb5
  dsimp only [pv]
  refine hK.out _ _ ⟨(blk2w I5.out.B0).1.1, (blk2w I5.out.B0).1.2, (blk2w I5.out.B1).1⟩ (fun hHeld => ?_)
  clear hK K
  refine norm_ (a' := ?_) ?_ ?_
  rotate_left
  · show Act.put _ (some 23) _ = _
    simp only [Act.put, List.setIfInBounds_toArray, List.set_cons_zero, List.set_cons_succ]
    rfl
  refine one_ (i := 7) (N := some 24) #[true, true, true, true, true, true, true, true, false, false, false, false, false] rfl rfl (by kernel_rfl) (by decide) (fun K hK => ?_)
  refine goes_ Try.func61 (by kernel_rfl) rfl #[.agg #[.slice A5 r.f0.length k5, .int .i64 r.f1]] (by rfl) rfl rfl (by simp only [List.map_toArray, List.map_cons, List.map_nil] <;> rfl) ?_
  refine (ref24_Turned A5 k5 r w5 (RS.of_R' R5_.out) (by have h1 : n + (pa.length : Int) ≤ 1000 := HPT.out.2.1; have h2 : n + (qa.length : Int) ≤ 1000 := HQT.out.2.1; have h3 : r.f0.length ≤ pa.length + qa.length + 1 := HBM.out.2; have h4 := HPT.out.1; omega) HBM.out.1.big).mono ?_
  rintro e w6 ⟨A6, k6, rfl, hr6, hb6⟩
  refine ⟨_, rfl, ?_⟩
  have R6 := Aside0.mk (Kd.R_lower hr6 B5.out.size)
  have B6 := Aside0.mk (B5.out.trans (hb6.mono B5.out.size))
  have I6 := Aside0.mk (I1.out.below B6.out HS1.out)
  clear hr6 hb6
  dsimp only [pv, turnP]
  refine hK.out _ _ ⟨(blk2w I6.out.B0).1.1, (blk2w I6.out.B0).1.2, (blk2w I6.out.B1).1⟩ (fun hHeld => ?_)
  clear hK K
  refine norm_ (a' := ?_) ?_ ?_
  rotate_left
  · show Act.put _ (some 24) _ = _
    simp only [Act.put, List.setIfInBounds_toArray, List.set_cons_zero, List.set_cons_succ]
    rfl
  refine one_ (i := 8) (N := some 25) #[true, true, true, true, true, true, true, true, true, false, false, false, false] rfl rfl (by kernel_rfl) (by decide) (fun K hK => ?_)
  refine goes_ Try.func58 (by kernel_rfl) rfl #[.int .i64 n, .agg #[.slice A6 r.f0.length k6, .int .i64 (litNot r.f1)]] (by rfl) rfl rfl (by simp only [List.map_toArray, List.map_cons, List.map_nil] <;> rfl) ?_
  refine (ref24_Few n w1.heap.size A6 k6 (turnP r) w6 R6.out HPT.out.1 (by have := HPT.out.2.1; omega) (by have h1 : n + (pa.length : Int) ≤ 1000 := HPT.out.2.1; have h2 : n + (qa.length : Int) ≤ 1000 := HQT.out.2.1; have h3 : r.f0.length ≤ pa.length + qa.length + 1 := HBM.out.2; have h4 := HPT.out.1; show r.f0.length ≤ 100000; omega)).mono ?_
  rintro e w7 ⟨E7, c7, rfl, hr7, hb7⟩
  rw [HR.out] at hr7 ⊢
  refine ⟨_, rfl, ?_⟩
  have R7_ := Aside0.mk hr7
  have B7 := Aside0.mk (B6.out.trans (hb7.mono B6.out.size))
  have I7 := Aside0.mk (I1.out.below B7.out HS1.out)
  clear hr7 hb7
  refine hK.out _ _ ⟨(blk2w I7.out.B0).1.1, (blk2w I7.out.B0).1.2, (blk2w I7.out.B1).1⟩ (fun hHeld => ?_)
  clear hK K
  refine norm_ (a' := ?_) ?_ ?_
  rotate_left
  · show Act.put _ (some 25) _ = _
    simp only [Act.put, List.setIfInBounds_toArray, List.set_cons_zero, List.set_cons_succ]
    rfl
  refine pure_ (i := 9) (N := some 26) (v := ?_) (a' := ?_) #[true, true, true, true, true, true, true, true, true, true, false, false, false] rfl rfl (by kernel_rfl) (fun _ _ _ h => h) (Or.inl ⟨by rfl, ?_⟩) ?_ ?_
  rotate_left
  · intro w'
    go_simp
    with_reducible rfl
  rotate_left
  · simp only [Act.put, List.setIfInBounds_toArray, List.set_cons_zero, List.set_cons_succ]
    rfl
  refine pure_ (i := 10) (N := some 27) (v := ?_) (a' := ?_) #[true, true, true, true, true, true, true, true, true, true, true, false, false] rfl rfl (by kernel_rfl) (fun _ _ _ h => h) (Or.inl ⟨by rfl, ?_⟩) ?_ ?_
  rotate_left
  · intro w'
    go_simp
    with_reducible rfl
  rotate_left
  · simp only [Act.put, List.setIfInBounds_toArray, List.set_cons_zero, List.set_cons_succ]
    rfl
  obtain ⟨⟨t0, t1⟩, y0, y1⟩ := blk2w I7.out.B2
  refine one_ (i := 11) (N := none) #[true, true, true, true, true, true, true, true, true, true, true, true, false] rfl rfl (by kernel_rfl) (by decide) (fun K hK => ?_)
  refine skip_ (w1 := ?_) (by rfl) rfl ?_ ?_
  rotate_left
  · go_simp
    rfl
  have q8 := far2 I7.out.B0 (show w.heap.size ≠ w.heap.size + 2 by omega) (.slice E7 R.1.f0.length c7) (.int .i64 R.1.f1)
  have q9 := far2 I7.out.B1 (show w.heap.size + 1 ≠ w.heap.size + 2 by omega) (.slice E7 R.1.f0.length c7) (.int .i64 R.1.f1)
  refine hK.out _ _ ⟨(blk2w q8).1.1, (blk2w q8).1.2, (blk2w q9).1⟩ (fun hHeld => ?_)
  clear hK K
  refine pure_ (i := 12) (N := some 7) (v := ?_) (a' := ?_) #[true, true, true, true, true, true, true, true, true, true, true, true, true] rfl rfl (by kernel_rfl) (fun _ _ _ h => h) (Or.inl ⟨by rfl, ?_⟩) ?_ ?_
  rotate_left
  · intro w'
    go_simp
    with_reducible rfl
  rotate_left
  · simp only [Act.put, List.setIfInBounds_toArray, List.set_cons_zero, List.set_cons_succ]
    rfl
  refine done_ (by kernel_rfl) ?_
  clear q8 q9 t0 t1 y0 y1
  go_wp2
  refine bodyPost_ret (results_ct rfl _ _ (w.heap.size + 2) 24 #[.slice E7 R.1.f0.length c7, .int .i64 R.1.f1] (0, 0) _ rfl (blk2_set I7.out.B2 _ _) hu24 rfl (by kernel_rfl)) rfl ?_
  exact ⟨E7, c7, rfl, R2 (Kd.R_lower R7_.out (by have := HS1.out; omega)) I7.out.B2 (by decide) _ _, below2 I7.out.BW (by omega) _ _⟩
set_option maxHeartbeats 2000000 in
set_option maxRecDepth 100000 in
theorem ref24_Not (n : Int) (A : Option Addr) (k : Nat) (p : Pr) (w : World) (hp : RS kGate w A k p.f0) (hpf : p.Fits) :
    Calls Try.prog 26 #[.int .i64 n, pv A k p] w fun e w' => RetP w.heap.size w w' (notP n p) e := by
  have H1 := Aside0.mk (fun W (hb : Below w.heap.size w W) => ref24_Check n A k p W (hp.below hb) hpf)
  have I0 := Aside0.mk (NInv.start w A k p)
  have hu24 := Try.underlying24
  have HP := Aside0.mk hp
  have HPF := Aside0.mk hpf
  clear hp hpf
  unfold notP
  by_cases h0 : predCheck n p = 0
  case neg =>
    rw [if_pos h0]
    have hb : (predCheck n p != 0) = true := bne_iff_ne.mpr h0
    clear h0
    obtain ⟨pa, pl⟩ := p
    dsimp only [pv] at *
    obtain ⟨r0, r1⟩ := (blk2w I0.out.B0).1
    go_enter Try.func26, Try.ntmps26
    go_wp2_with fail
    refine (H1.out _ I0.out.BW).mono ?_
    rintro e w1 ⟨rfl, hb1⟩
    have I1 := Aside0.mk (I0.out.below hb1)
    clear hb1 r0 r1
    obtain ⟨⟨r0, r1⟩, z0, z1⟩ := blk2w I1.out.B2
    go_wp2
    refine bodyPost_ret (results_ct rfl _ _ (w.heap.size + 1) 24 #[.slice none 0 0, .int .i64 0] (0, 0) _ rfl (blk2_set I1.out.B2 _ _) hu24 rfl (by kernel_rfl)) rfl ?_
    exact ⟨none, 0, rfl, Kd.R_nil _ _ _ _ _, below2 I1.out.BW (by omega) _ _⟩
  rw [if_neg (by rw [h0]; simp)]
  have HTP := Aside0.mk (fun W (hb : Below w.heap.size w W) => ref24_Turned A k p W (HP.out.below hb) HPF.out.h (lit_of_check h0).big)
  rw [h0] at H1
  clear h0
  obtain ⟨pa, pl⟩ := p
  dsimp only [pv] at *
  obtain ⟨r0, r1⟩ := (blk2w I0.out.B0).1
  go_enter Try.func26, Try.ntmps26
  go_wp2_with fail
  refine (H1.out _ I0.out.BW).mono ?_
  rintro e w1 ⟨rfl, hb1⟩
  have I1 := Aside0.mk (I0.out.below hb1)
  clear hb1 r0 r1 I0
  obtain ⟨r0, r1⟩ := (blk2w I1.out.B0).1
  go_wp2_with fail
  refine (HTP.out _ I1.out.BW).mono ?_
  rintro e w2 ⟨A2, k2, rfl, hr2, hb2⟩
  have R2_ := Aside0.mk (Kd.R_lower hr2 I1.out.BW.size)
  have I2 := Aside0.mk (I1.out.below hb2)
  clear hr2 hb2 r0 r1
  dsimp only [pv, turnP] at R2_ ⊢
  obtain ⟨⟨r0, r1⟩, z0, z1⟩ := blk2w I2.out.B2
  go_wp2
  refine bodyPost_ret (results_ct rfl _ _ (w.heap.size + 1) 24 #[.slice A2 pa.length k2, .int .i64 (litNot pl)] (0, 0) _ rfl (blk2_set I2.out.B2 _ _) hu24 rfl (by kernel_rfl)) rfl ?_
  exact ⟨A2, k2, rfl, R2 R2_.out I2.out.B2 (by decide) _ _, below2 I2.out.BW (by omega) _ _⟩
end Go.Proofs.Ytgcdanpihaeioaa.PH
