/- preds.Not, preds.Or. -/
import Derived.Test.YtgcdanpihaeioaaHMake
namespace Go.Proofs.Ytgcdanpihaeioaa.PH
open Go.RowKit Go.Proofs.YtgcdanpihaeioaaW.PrintWords Go.Proofs.YtgcdanpihaeioaaW.PrintLast
set_option linter.unusedVariables false
set_option linter.unusedSimpArgs false

def turnP (p : Pr) : Pr := ⟨p.f0, litNot p.f1⟩
/-- What preds.Not answers. -/
def notP (n : Int) (p : Pr) : Pr × Int := if predCheck n p ≠ 0 then (zeroP, predCheck n p) else (turnP p, 0)
def orP (n : Int) (p q : Pr) : Pr × Int :=
  if twoErr n p q ≠ 0 then (zeroP, twoErr n p q) else if (andP n (turnP p) (turnP q)).2 ≠ 0 then (zeroP, (andP n (turnP p) (turnP q)).2) else (turnP (andP n (turnP p) (turnP q)).1, 0)
theorem litNot_half {l : Int} (h : 0 ≤ l) : 0 ≤ litNot l ∧ litNot l / 2 = l / 2 := by
  unfold litNot
  split <;> omega
theorem check_turn {n : Int} {p : Pr} (h : predCheck n p = 0) : predCheck n (turnP p) = 0 := by
  have h1 := predCheck_parts h
  have h2 := litNot_half h1.2.2.2.1
  unfold predCheck turnP
  dsimp only
  rw [if_neg (by omega), if_neg (by omega), if_neg (by omega), if_pos h1.2.2.1, if_neg (by omega), if_neg (by omega)]
theorem two_turn {n : Int} {p q : Pr} (h : twoErr n p q = 0) : twoErr n (turnP p) (turnP q) = 0 := by
  have h1 := two_ok h
  unfold twoErr
  rw [if_neg (by rw [check_turn h1.1]; simp), check_turn h1.2]
theorem turn_fits {n : Int} {p : Pr} (h : predCheck n p = 0) (hf : p.Fits) : (turnP p).Fits :=
  ⟨hf.h, hf.ig, by have h1 := litNot_lit (lit_of_check h); exact ⟨by have := h1.1; show _ ≤ litNot p.f1; omega, by have := h1.2; show litNot p.f1 ≤ _; omega⟩⟩
theorem andP_lit {n : Int} {p q : Pr} (h : twoErr n p q = 0) : IsLit (andP n p q).1.f1 := by
  have h1 := andB_lit h
  unfold andP predR
  rw [if_neg (by rw [h]; simp)]
  split
  · exact ⟨by decide, by decide⟩
  · exact h1.1
/-- One predicate boxed, and the result's cells. -/
structure NInv (w : World) (A : Option Addr) (k : Nat) (p : Pr) (wr : World) : Prop where
  BW : Below w.heap.size w wr
  B0 : wr.heap[w.heap.size]? = some (.cells #[.slice A p.f0.length k, .int .i64 p.f1] 24 (0, 0))
  B2 : wr.heap[w.heap.size + 1]? = some (.cells #[.slice none 0 0, .int .i64 0] 24 (0, 0))
theorem NInv.below {w : World} {A : Option Addr} {k : Nat} {p : Pr} {wr w2 : World} (h : NInv w A k p wr) (hb : Below wr.heap.size wr w2) : NInv w A k p w2 :=
  ⟨h.BW.trans (hb.mono h.BW.size), blk_below h.B0 hb, blk_below h.B2 hb⟩
theorem NInv.start (w : World) (A : Option Addr) (k : Nat) (p : Pr) : NInv w A k p ((w.alloc (.cells #[.slice A p.f0.length k, .int .i64 p.f1] 24)).alloc (.cells #[.slice none 0 0, .int .i64 0] 24)) :=
  ⟨below_alloc (below_alloc (Below.refl _ _) _) _, blk_alloc (blk_new _ _) _, by simpa using blk_new (w.alloc (.cells #[.slice A p.f0.length k, .int .i64 p.f1] 24)) (.cells #[.slice none 0 0, .int .i64 0] 24)⟩
set_option maxHeartbeats 2000000 in
set_option maxRecDepth 100000 in
theorem preds_Not (n : Int) (A : Option Addr) (k : Nat) (p : Pr) (w : World) (hp : RS kGate w A k p.f0) (hpf : p.Fits) :
    Calls Try.prog 25 #[.int .i64 n, pv A k p] w fun e w' => RetP w.heap.size w w' (notP n p) e := by
  have H1 := Aside0.mk (fun W (hb : Below w.heap.size w W) => preds_Check n A k p W (hp.below hb) hpf)
  have I0 := Aside0.mk (NInv.start w A k p)
  have hu24 := Try.underlying24
  have HP := Aside0.mk hp
  have HPF := Aside0.mk hpf
  clear hp hpf
  unfold notP turnP
  by_cases h0 : predCheck n p = 0
  case neg =>
    rw [if_pos h0]
    have hb : (predCheck n p != 0) = true := bne_iff_ne.mpr h0
    clear h0
    obtain ⟨pa, pl⟩ := p
    dsimp only [pv] at *
    obtain ⟨r0, r1⟩ := (blk2w I0.out.B0).1
    go_enter Try.func25, Try.ntmps25
    go_wp2_with fail
    refine (H1.out _ I0.out.BW).mono ?_
    rintro e w1 ⟨rfl, hb1⟩
    have I1 := Aside0.mk (I0.out.below hb1)
    clear hb1 r0 r1
    obtain ⟨⟨r0, r1⟩, z0, z1⟩ := blk2w I1.out.B2
    go_wp2
    refine bodyPost_ret (results_ct rfl _ _ (w.heap.size + 1) 24 #[.slice none 0 0, .int .i64 0] (0, 0) _ rfl (blk2_set I1.out.B2 _ _) hu24 rfl (by kernel_rfl)) rfl ?_
    exact ⟨none, 0, rfl, Kd.R_nil _ _ _ _ _, below2 I1.out.BW (by omega) _ _⟩
  rw [if_neg (by rw [h0]; simp)]
  have HPL := Aside0.mk (lit_of_check h0)
  have HX := Aside0.mk (xor_one HPL.out)
  rw [h0] at H1
  clear h0
  obtain ⟨pa, pl⟩ := p
  dsimp only [pv] at *
  obtain ⟨r0, r1⟩ := (blk2w I0.out.B0).1
  go_enter Try.func25, Try.ntmps25
  go_wp2_with fail
  refine (H1.out _ I0.out.BW).mono ?_
  rintro e w1 ⟨rfl, hb1⟩
  have I1 := Aside0.mk (I0.out.below hb1)
  clear hb1 r0 r1 I0
  go_wp2
  have I2 := Aside0.mk (I1.out.below (below_drew (Below.refl w1.heap.size w1)))
  have hx := HX.out
  refine start_ (n := 9) (S := (fun w' => w'.cell? ⟨w.heap.size, 0, none⟩ = some (.slice A pa.length k) ∧ w'.cell? ⟨w.heap.size, 1, none⟩ = some (.int .i64 pl))) (ds := []) #[false, false, false, false, false, false, false, false, false] (by kernel_rfl) rfl rfl ⟨(blk2w I1.out.B0).1.1, (blk2w I1.out.B0).1.2⟩ (fun hHeld => ?_)
  refine pure_ (i := 0) (N := some 14) (v := ?_) (a' := ?_) #[true, false, false, false, false, false, false, false, false] rfl rfl (by kernel_rfl) (fun _ _ _ h => h) (Or.inl ⟨by rfl, ?_⟩) ?_ ?_
  rotate_left
  · intro w'
    go_simp
    with_reducible rfl
  rotate_left
  · simp only [Act.put, List.setIfInBounds_toArray, List.set_cons_zero, List.set_cons_succ]
    rfl
  refine take_ (i := 1) (N := some 15) (v := ?_) (a' := ?_) #[true, true, false, false, false, false, false, false, false] rfl rfl (by kernel_rfl) (fun _ _ _ h => h) (Or.inl ⟨by rfl, ?_⟩) hHeld ?_ ?_
  rotate_left
  · rintro w' ⟨s0, s1⟩
    go_simp
    with_reducible rfl
  rotate_left
  · simp only [Act.put, List.setIfInBounds_toArray, List.set_cons_zero, List.set_cons_succ]
    rfl
  refine pure_ (i := 3) (N := some 17) (v := ?_) (a' := ?_) #[true, true, false, true, false, false, false, false, false] rfl rfl (by kernel_rfl) (fun _ _ _ h => h) (Or.inl ⟨by rfl, ?_⟩) ?_ ?_
  rotate_left
  · intro w'
    go_simp
    with_reducible rfl
  rotate_left
  · simp only [Act.put, List.setIfInBounds_toArray, List.set_cons_zero, List.set_cons_succ]
    rfl
  refine take_ (i := 4) (N := some 18) (v := ?_) (a' := ?_) #[true, true, false, true, true, false, false, false, false] rfl rfl (by kernel_rfl) (fun _ _ _ h => h) (Or.inl ⟨by rfl, ?_⟩) hHeld ?_ ?_
  rotate_left
  · rintro w' ⟨s0, s1⟩
    go_simp
    with_reducible rfl
  rotate_left
  · simp only [Act.put, List.setIfInBounds_toArray, List.set_cons_zero, List.set_cons_succ]
    rfl
  refine pure_ (i := 5) (N := some 19) (v := ?_) (a' := ?_) #[true, true, false, true, true, true, false, false, false] rfl rfl (by kernel_rfl) (fun _ _ _ h => h) (Or.inl ⟨by rfl, ?_⟩) ?_ ?_
  rotate_left
  · intro w'
    go_simp
    with_reducible rfl
  rotate_left
  · simp only [Act.put, List.setIfInBounds_toArray, List.set_cons_zero, List.set_cons_succ]
    rfl
  refine one_ (i := 2) (N := some 16) #[true, true, true, true, true, true, false, false, false] rfl rfl (by kernel_rfl) (by decide) (fun K hK => ?_)
  refine goes_ Try.func43 (by kernel_rfl) rfl #[.slice A pa.length k] (by rfl) rfl rfl (by simp only [List.map_toArray, List.map_cons, List.map_nil] <;> rfl) ?_
  refine (slices_Clone_gate A k pa _ (HP.out.below I2.out.BW) HPF.out.h).mono ?_
  rintro e w3 ⟨E, cE, rfl, hR3, hb3⟩
  refine ⟨_, rfl, ?_⟩
  have I3 := Aside0.mk (I2.out.below hb3)
  have R3 := Aside0.mk (Kd.R_lower hR3 I2.out.BW.size)
  clear hR3 hb3
  refine hK.out _ _ ⟨(blk2w I3.out.B0).1.1, (blk2w I3.out.B0).1.2⟩ (fun hHeld => ?_)
  clear hK K
  refine norm_ (a' := ?_) ?_ ?_
  rotate_left
  · show Act.put _ (some 16) _ = _
    simp only [Act.put, List.setIfInBounds_toArray, List.set_cons_zero, List.set_cons_succ]
    rfl
  refine pure_ (i := 6) (N := some 20) (v := ?_) (a' := ?_) #[true, true, true, true, true, true, true, false, false] rfl rfl (by kernel_rfl) (fun _ _ _ h => h) (Or.inl ⟨by rfl, ?_⟩) ?_ ?_
  rotate_left
  · intro w'
    go_simp
    with_reducible rfl
  rotate_left
  · simp only [Act.put, List.setIfInBounds_toArray, List.set_cons_zero, List.set_cons_succ]
    rfl
  obtain ⟨⟨t0, t1⟩, y0, y1⟩ := blk2w I3.out.B2
  refine one_ (i := 7) (N := none) #[true, true, true, true, true, true, true, true, false] rfl rfl (by kernel_rfl) (by decide) (fun K hK => ?_)
  refine skip_ (w1 := ?_) (by rfl) rfl ?_ ?_
  rotate_left
  · go_simp
    rfl
  have q8 := far2 I3.out.B0 (show w.heap.size ≠ w.heap.size + 1 by omega) (.slice E pa.length cE) (.int .i64 (litNot pl))
  refine hK.out _ _ ⟨(blk2w q8).1.1, (blk2w q8).1.2⟩ (fun hHeld => ?_)
  clear hK K
  refine pure_ (i := 8) (N := some 5) (v := ?_) (a' := ?_) #[true, true, true, true, true, true, true, true, true] rfl rfl (by kernel_rfl) (fun _ _ _ h => h) (Or.inl ⟨by rfl, ?_⟩) ?_ ?_
  rotate_left
  · intro w'
    go_simp
    with_reducible rfl
  rotate_left
  · simp only [Act.put, List.setIfInBounds_toArray, List.set_cons_zero, List.set_cons_succ]
    rfl
  refine done_ (by kernel_rfl) ?_
  clear q8 t0 t1 y0 y1
  go_wp2
  refine bodyPost_ret (results_ct rfl _ _ (w.heap.size + 1) 24 #[.slice E pa.length cE, .int .i64 (litNot pl)] (0, 0) _ rfl (blk2_set I3.out.B2 _ _) hu24 rfl (by kernel_rfl)) rfl ?_
  exact ⟨E, cE, rfl, R2 R3.out I3.out.B2 (by decide) _ _, below2 I3.out.BW (by omega) _ _⟩
set_option maxHeartbeats 4000000 in
set_option maxRecDepth 100000 in
theorem preds_Or (n : Int) (A : Option Addr) (k : Nat) (p : Pr) (B : Option Addr) (d : Nat) (q : Pr) (w : World) (hp : RS kGate w A k p.f0) (hpf : p.Fits) (hq : RS kGate w B d q.f0) (hqf : q.Fits) :
    Calls Try.prog 23 #[.int .i64 n, pv A k p, pv B d q] w fun e w' => RetP w.heap.size w w' (orP n p q) e := by
  have H2 := Aside0.mk (fun W (hb : Below w.heap.size w W) => preds_two n A k p B d q W (hp.below hb) hpf (hq.below hb) hqf)
  have I0 := Aside0.mk (AInv.start w A k p B d q)
  have hu24 := Try.underlying24
  have HP := Aside0.mk hp
  have HQ := Aside0.mk hq
  have HQF := Aside0.mk hqf
  have HPF := Aside0.mk hpf
  clear hp hq hpf hqf
  unfold orP
  by_cases h0 : twoErr n p q = 0
  case neg =>
    rw [if_pos h0]
    have hb : (twoErr n p q != 0) = true := bne_iff_ne.mpr h0
    clear h0
    obtain ⟨pa, pl⟩ := p
    obtain ⟨qa, ql⟩ := q
    dsimp only [pv] at *
    obtain ⟨r0, r1⟩ := (blk2w I0.out.B0).1
    obtain ⟨s0, s1⟩ := (blk2w I0.out.B1).1
    go_enter Try.func23, Try.ntmps23
    go_wp2_with fail
    refine (H2.out _ I0.out.BW).mono ?_
    rintro e w1 ⟨rfl, hb1⟩
    have I1 := Aside0.mk (I0.out.below hb1 (by simp))
    clear hb1 r0 r1 s0 s1
    obtain ⟨⟨r0, r1⟩, z0, z1⟩ := blk2w I1.out.B2
    go_wp2
    refine bodyPost_ret (results_ct rfl _ _ (w.heap.size + 2) 24 #[.slice none 0 0, .int .i64 0] (0, 0) _ rfl (blk2_set I1.out.B2 _ _) hu24 rfl (by kernel_rfl)) rfl ?_
    exact ⟨none, 0, rfl, Kd.R_nil _ _ _ _ _, below2 I1.out.BW (by omega) _ _⟩
  rw [if_neg (by rw [h0]; simp)]
  rw [h0] at H2
  have HC := two_ok h0
  have HPL := Aside0.mk (lit_of_check HC.1)
  have HQL := Aside0.mk (lit_of_check HC.2)
  have HAND := Aside0.mk (fun W (hb : Below w.heap.size w W) => preds_And n A k (turnP p) B d (turnP q) W (HP.out.below hb) (turn_fits HC.1 HPF.out) (HQ.out.below hb) (turn_fits HC.2 HQF.out))
  have HAL := andP_lit (two_turn h0)
  obtain ⟨R, hR⟩ : ∃ R, (if (andP n (turnP p) (turnP q)).2 ≠ 0 then (zeroP, (andP n (turnP p) (turnP q)).2) else (turnP (andP n (turnP p) (turnP q)).1, 0)) = R := ⟨_, rfl⟩
  rw [hR]
  generalize andP n (turnP p) (turnP q) = r at *
  have HR := Aside0.mk hR
  have HAL := Aside0.mk HAL
  have HXP := Aside0.mk (xor_one HPL.out)
  have HXQ := Aside0.mk (xor_one HQL.out)
  clear hR h0 HC
  obtain ⟨pa, pl⟩ := p
  obtain ⟨qa, ql⟩ := q
  dsimp only [pv, turnP] at *
  obtain ⟨r0, r1⟩ := (blk2w I0.out.B0).1
  obtain ⟨s0, s1⟩ := (blk2w I0.out.B1).1
  go_enter Try.func23, Try.ntmps23
  go_wp2_with fail
  refine (H2.out _ I0.out.BW).mono ?_
  rintro e w1 ⟨rfl, hb1⟩
  have I1 := Aside0.mk (I0.out.below hb1 (by simp))
  have HS1 := Aside0.mk (blk_lt I1.out.B2)
  clear hb1 r0 r1 s0 s1 I0
  have hxp := HXP.out
  have hxq := HXQ.out
  obtain ⟨⟨r0, r1⟩, z0, z1⟩ := blk2w I1.out.B0
  obtain ⟨⟨s0, s1⟩, y0, y1⟩ := blk2w I1.out.B1
  go_wp2_with fail
  have B2 := Aside0.mk (below_set (below_set (j := 1) (v := .int .i64 (litNot pl)) I1.out.BW (Nat.le_refl _)) (j := 1) (v := .int .i64 (litNot ql)) (Nat.le_succ w.heap.size))
  have N2 := Aside0.mk (blk_far (p := ⟨w.heap.size + 1, 1, none⟩) (blk_far (p := ⟨w.heap.size, 1, none⟩) I1.out.B2 (show w.heap.size + 2 ≠ w.heap.size by omega) (.int .i64 (litNot pl))) (show w.heap.size + 2 ≠ w.heap.size + 1 by omega) (.int .i64 (litNot ql)))
  generalize (w1.setCell ⟨w.heap.size, 1, none⟩ (.int .i64 (litNot pl))).setCell ⟨w.heap.size + 1, 1, none⟩ (.int .i64 (litNot ql)) = w2 at *
  refine (HAND.out _ B2.out).mono ?_
  rintro e w7 ⟨A7, k7, rfl, hr7, hb7⟩
  have B7 := Aside0.mk (B2.out.trans (hb7.mono B2.out.size))
  have N7 := Aside0.mk (blk_below N2.out hb7)
  have R7_ := Aside0.mk (Kd.R_lower hr7 B2.out.size)
  have HX := Aside0.mk (xor_one HAL.out)
  clear hr7 hb7 r0 r1 z0 z1 s0 s1 y0 y1 hxp hxq HAND I1 HXP HXQ
  have HG9 := Aside0.mk (show w.heap.size + 2 < w7.heap.size from blk_lt N7.out)
  by_cases hz : r.2 = 0
  · have HR2 := Aside0.mk (show R = (⟨r.1.f0, litNot r.1.f1⟩, 0) by have h_ := HR.out; rw [if_neg (by rw [hz]; simp)] at h_; exact h_.symm)
    have hx := HX.out
    rw [hz]
    clear hz
    have N8 := Aside0.mk (blk_alloc N7.out (.cells #[.slice A7 r.1.f0.length k7, .int .i64 (litNot r.1.f1)] 24))
    have HNE := Aside0.mk (show w.heap.size + 2 ≠ w7.heap.size from Nat.ne_of_lt HG9.out)
    have B8 := Aside0.mk (below_alloc B7.out (.cells #[.slice A7 r.1.f0.length k7, .int .i64 (litNot r.1.f1)] 24))
    have R8 := Aside0.mk (Kd.R_alloc R7_.out (.cells #[.slice A7 r.1.f0.length k7, .int .i64 (litNot r.1.f1)] 24))
    obtain ⟨⟨r0, r1⟩, z0, z1⟩ := blk2w N8.out
    go_wp2
    refine bodyPost_ret (results_ct rfl _ _ (w.heap.size + 2) 24 #[.slice A7 r.1.f0.length k7, .int .i64 (litNot r.1.f1)] (0, 0) _ rfl (blk2_set N8.out _ _) hu24 rfl (by kernel_rfl)) rfl ?_
    rw [HR2.out]
    exact ⟨A7, k7, rfl, R2 R8.out N8.out (by decide) _ _, below2 B8.out (by omega) _ _⟩
  · have HR2 := Aside0.mk (show R = (zeroP, r.2) by have h_ := HR.out; rw [if_pos hz] at h_; exact h_.symm)
    have hzb : (r.2 != 0) = true := bne_iff_ne.mpr hz
    clear hz
    have N8 := Aside0.mk (blk_alloc N7.out (.cells #[.slice A7 r.1.f0.length k7, .int .i64 r.1.f1] 24))
    have B8 := Aside0.mk (below_alloc B7.out (.cells #[.slice A7 r.1.f0.length k7, .int .i64 r.1.f1] 24))
    obtain ⟨⟨r0, r1⟩, z0, z1⟩ := blk2w N8.out
    go_wp2
    refine bodyPost_ret (results_ct rfl _ _ (w.heap.size + 2) 24 #[.slice none 0 0, .int .i64 0] (0, 0) _ rfl (blk2_set N8.out _ _) hu24 rfl (by kernel_rfl)) rfl ?_
    rw [HR2.out]
    exact ⟨none, 0, rfl, Kd.R_nil _ _ _ _ _, below2 B8.out (by omega) _ _⟩
end Go.Proofs.Ytgcdanpihaeioaa.PH
