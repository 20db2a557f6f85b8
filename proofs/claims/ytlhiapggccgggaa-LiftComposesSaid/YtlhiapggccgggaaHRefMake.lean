/- The reference: Turned, Both, And, Or, Not. -/
import Derived.Test.YtlhiapggccgggaaHMake2
import Derived.Test.YtlhiapggccgggaaHBehind
namespace Go.Proofs.Ytlhiapggccgggaa.PH
open Go.RowKit Go.Proofs.YtlhiapggccgggaaW.PrintWords Go.Proofs.YtlhiapggccgggaaW.PrintLast
set_option linter.unusedVariables false
set_option linter.unusedSimpArgs false

/-- A predicate of its own comes back. -/
def RetQ (b : Nat) (w w' : World) (r : Pr) (e : Ending) : Prop := ∃ A k, e = .returned (pv A k r) ∧ Kd.R kGate 93 w' b (fun _ => True) (.slice A r.f0.length k) r.f0 ∧ Below w.heap.size w w'
theorem lit_runs (W : World) : True := trivial
def bothB (n : Int) (p q : Pr) : List Gate × Int := behindB q (ownLits n.toNat) p.f0 n
def bothR (n : Int) (p q : Pr) : Pr := ⟨(joinR (bothB n p q).1 n p.f1 (bothB n p q).2).1, (joinR (bothB n p q).1 n p.f1 (bothB n p q).2).2⟩
theorem behindR_len2 (before : Int) : ∀ (gs : List Gate) (own : List Int) (ands : List Gate), (behindR before gs own ands).2.length ≤ ands.length + gs.length
  | [], own, ands => by simp [behindR]
  | g :: gs, own, ands => by
    have h2 : (joinR ands before (told own g.f0) (told own g.f1)).1.length ≤ ands.length + 1 := by
      unfold joinR
      split
      · simp
      · split <;> simp
    rw [behindR]
    have h1 := behindR_len2 before gs (own ++ [(joinR ands before (told own g.f0) (told own g.f1)).2]) (joinR ands before (told own g.f0) (told own g.f1)).1
    simp only [List.length_cons]
    omega
theorem behindR_mid {s before : Int} : ∀ (gs : List Gate) (own : List Int) (ands : List Gate) (i : Int), (∀ x ∈ own, IsMid x) → 0 ≤ before → before + ands.length + gs.length ≤ 9000 → gAnds s gs i = true → (own.length : Int) = s + i →
    (∀ x ∈ (behindR before gs own ands).1, IsMid x) ∧ ((behindR before gs own ands).1.length : Int) = s + i + gs.length
  | [], own, ands, i, h1, _, h2, _, h3 => ⟨h1, by simp [behindR]; omega⟩
  | g :: gs, own, ands, i, h1, h0, h2, h4, h3 => by
    unfold gAnds at h4
    split at h4
    · cases h4
    split at h4
    · cases h4
    split at h4
    · cases h4
    have l0 := told_mid (l := g.f0) h1 (by omega) (by omega)
    have l1 := told_mid (l := g.f1) h1 (by omega) (by omega)
    simp only [List.length_cons] at h2
    have hl := joinR_mid (ands := ands) (before := before) l0 l1 h0 (by omega)
    rw [behindR]
    have h5 := behindR_mid (s := s) (before := before) gs (own ++ [(joinR ands before (told own g.f0) (told own g.f1)).2]) (joinR ands before (told own g.f0) (told own g.f1)).1 (i + 1)
      (fun x hx => by rcases List.mem_append.1 hx with h_ | h_; exact h1 x h_; exact (List.mem_singleton.1 h_) ▸ hl.1) h0 (by omega) h4 (by simp only [List.length_append, List.length_singleton]; omega)
    refine ⟨h5.1, ?_⟩
    rw [h5.2]
    simp only [List.length_cons]
    omega
theorem bothB_mid {n : Int} {p q : Pr} (hp : predCheck n p = 0) (hq : predCheck n q = 0) : IsMid (bothB n p q).2 ∧ (bothB n p q).1.length ≤ p.f0.length + q.f0.length := by
  have h1 := predCheck_parts hp
  have h2 := predCheck_parts hq
  have h := behindR_mid (s := 1 + n) (before := n) q.f0 (0 :: ownLits n.toNat) p.f0 0 (fun x hx => by
    rcases List.mem_cons.1 hx with rfl | h_
    · exact ⟨by decide, by decide⟩
    · have := ownLits_mem h_; exact ⟨by omega, by omega⟩) h1.1 (by omega) h2.2.2.1 (by simp only [List.length_cons, ownLits_len]; omega)
  exact ⟨told_mid h.1 h2.2.2.2.1 (by have := h.2; omega), behindR_len2 _ _ _ _⟩
theorem bothR_mid {n : Int} {p q : Pr} (hp : predCheck n p = 0) (hq : predCheck n q = 0) : IsMid (bothR n p q).f1 ∧ (bothR n p q).f0.length ≤ p.f0.length + q.f0.length + 1 := by
  have h := bothB_mid hp hq
  have h1 := predCheck_parts hp
  have h2 := predCheck_parts hq
  have hl := lit_of_check hp
  have hj := joinR_mid (ands := (bothB n p q).1) (before := n) (x := p.f1) (y := (bothB n p q).2) ⟨hl.1, by have := hl.2; omega⟩ h.1 h1.1 (by have := h.2; omega)
  exact ⟨hj.1, by have h3 : (bothR n p q).f0.length ≤ _ := hj.2; have := h.2; omega⟩
set_option maxHeartbeats 4000000 in
set_option maxRecDepth 100000 in
theorem ref24_Both (n : Int) (A : Option Addr) (k : Nat) (p : Pr) (B : Option Addr) (d : Nat) (q : Pr) (w : World) (hp : RS kGate w A k p.f0) (hq : RS kGate w B d q.f0) (hqf : q.Fits) (hc : predCheck n p = 0) (hd : predCheck n q = 0) :
    Calls Try.prog 87 #[.int .i64 n, pv A k p, pv B d q] w fun e w' => RetQ w.heap.size w w' (bothR n p q) e := by
  have I0 := Aside0.mk (AInv.start w A k p B d q)
  have hu24 := Try.underlying29
  have HP := Aside0.mk hp
  have HQ := Aside0.mk hq
  have HQF := Aside0.mk hqf
  have HPT := Aside0.mk (predCheck_parts hc)
  have HQT := Aside0.mk (predCheck_parts hd)
  have HPL := Aside0.mk (lit_of_check hc)
  have HD := Aside0.mk hd
  have HBM := bothB_mid hc hd
  obtain ⟨R, hR⟩ : ∃ R, bothR n p q = R := ⟨_, rfl⟩
  rw [hR]
  have HR := hR
  unfold bothR at HR
  have HBE := Aside0.mk (show behindB q (ownLits n.toNat) p.f0 n = bothB n p q from rfl)
  generalize bothB n p q = r at *
  have HR := Aside0.mk HR
  have HBM := Aside0.mk HBM
  clear hp hq hqf hc hd hR
  obtain ⟨pa, pl⟩ := p
  obtain ⟨qa, ql⟩ := q
  dsimp only [pv] at *
  go_enter Try.func87, Try.ntmps87
  go_wp2
  have HS1 := Aside0.mk (show w.heap.size + 2 < (((w.alloc (.cells #[.slice A pa.length k, .int .i64 pl] 29)).alloc (.cells #[.slice B qa.length d, .int .i64 ql] 29)).alloc (.cells #[.slice none 0 0, .int .i64 0] 29)).heap.size from blk_lt I0.out.B2)
  generalize ((w.alloc (.cells #[.slice A pa.length k, .int .i64 pl] 29)).alloc (.cells #[.slice B qa.length d, .int .i64 ql] 29)).alloc (.cells #[.slice none 0 0, .int .i64 0] 29) = w1 at *
  refine start_ (n := 14) (S := (fun w' => w'.cell? ⟨w.heap.size, 0, none⟩ = some (.slice A pa.length k) ∧ w'.cell? ⟨w.heap.size + 1, 0, none⟩ = some (.slice B qa.length d) ∧ w'.cell? ⟨w.heap.size + 1, 1, none⟩ = some (.int .i64 ql))) (ds := []) #[false, false, false, false, false, false, false, false, false, false, false, false, false, false] (by kernel_rfl) rfl rfl ⟨(blk2w I0.out.B0).1.1, (blk2w I0.out.B1).1⟩ (fun hHeld => ?_)
  refine pure_ (i := 1) (N := some 11) (v := ?_) (a' := ?_) #[false, true, false, false, false, false, false, false, false, false, false, false, false, false] rfl rfl (by kernel_rfl) (fun _ _ _ h => h) (Or.inl ⟨by rfl, ?_⟩) ?_ ?_
  rotate_left
  · intro w'
    go_simp
    with_reducible rfl
  rotate_left
  · simp only [Act.put, List.setIfInBounds_toArray, List.set_cons_zero, List.set_cons_succ]
    rfl
  refine take_ (i := 2) (N := some 12) (v := ?_) (a' := ?_) #[false, true, true, false, false, false, false, false, false, false, false, false, false, false] rfl rfl (by kernel_rfl) (fun _ _ _ h => h) (Or.inl ⟨by rfl, ?_⟩) hHeld ?_ ?_
  rotate_left
  · rintro w' ⟨s0, s1, s2⟩
    go_simp
    with_reducible rfl
  rotate_left
  · simp only [Act.put, List.setIfInBounds_toArray, List.set_cons_zero, List.set_cons_succ]
    rfl
  refine pure_ (i := 4) (N := some 14) (v := ?_) (a' := ?_) #[false, true, true, false, true, false, false, false, false, false, false, false, false, false] rfl rfl (by kernel_rfl) (fun _ _ _ h => h) (Or.inl ⟨by rfl, ?_⟩) ?_ ?_
  rotate_left
  · intro w'
    go_simp
    with_reducible rfl
  rotate_left
  · simp only [Act.put, List.setIfInBounds_toArray, List.set_cons_zero, List.set_cons_succ]
    rfl
  refine take_ (i := 5) (N := some 15) (v := ?_) (a' := ?_) #[false, true, true, false, true, true, false, false, false, false, false, false, false, false] rfl rfl (by kernel_rfl) (fun _ _ _ h => h) (Or.inl ⟨by rfl, ?_⟩) hHeld ?_ ?_
  rotate_left
  · rintro w' ⟨s0, s1, s2⟩
    go_simp
    with_reducible rfl
  rotate_left
  · simp only [Act.put, List.setIfInBounds_toArray, List.set_cons_zero, List.set_cons_succ]
    rfl
  refine pure_ (i := 6) (N := some 16) (v := ?_) (a' := ?_) #[false, true, true, false, true, true, true, false, false, false, false, false, false, false] rfl rfl (by kernel_rfl) (fun _ _ _ h => h) (Or.inl ⟨by rfl, ?_⟩) ?_ ?_
  rotate_left
  · intro w'
    go_simp
    with_reducible rfl
  rotate_left
  · simp only [Act.put, List.setIfInBounds_toArray, List.set_cons_zero, List.set_cons_succ]
    rfl
  refine one_ (i := 0) (N := some 10) #[true, true, true, false, true, true, true, false, false, false, false, false, false, false] rfl rfl (by kernel_rfl) (by decide) (fun K hK => ?_)
  refine Kd.R_lit_step kGate (w0 := w1) w1.heap.size 93 (by rfl) (N := 10) rfl (xs := []) (inner := []) (ok := fun _ => True) (okp := fun _ => False) ?hr (Reps.none _ _) (fun _ h => h.elim) trivial (below_drew (Below.refl _ _)) (Nat.le_refl _) (by simp) ?_
  case hr => first | (go_simp; done) | (go_simp; rfl)
  intro v1 w3 ho3 hb3 hg3 hnew3
  have R3 := Aside0.mk ho3
  have I3 := Aside0.mk (I0.out.below hb3 HS1.out)
  have B3 := Aside0.mk hb3
  clear ho3 hb3 hg3 hnew3
  refine hK.out _ _ ⟨(blk2w I3.out.B0).1.1, (blk2w I3.out.B1).1⟩ (fun hHeld => ?_)
  clear hK K
  refine norm_ (a' := ?_) ?_ ?_
  rotate_left
  · show Act.put _ (some 10) _ = _
    simp only [Act.put, List.setIfInBounds_toArray, List.set_cons_zero, List.set_cons_succ]
    rfl
  refine one_ (i := 3) (N := some 13) #[true, true, true, true, true, true, true, false, false, false, false, false, false, false] rfl rfl (by kernel_rfl) (by decide) (fun K hK => ?_)
  refine Kd.R_append_rows_step kGate (w0 := w1) w1.heap.size (by rfl) (.tmp 10) (.tmp 12) 23 93 (.agg #[.int .i64 0, .int .i64 0]) 16 rfl Try.underlying23 info_gate rfl (by decide) (by omega) v1 [] pa _ _ _ (fun _ => True) (fun _ => False) rfl rfl ?aO ?aR (fun _ _ h => h) (fun _ h => h.elim) ?aF ?aB ?aS ?aL ?_
  case aR => exact Kd.C_below HP.out.r I3.out.BW
  case aB => exact B3.out
  case aF => exact fun _ _ => trivial
  case aO => exact R3.out
  case aS => exact B3.out.size
  case aL => have h_ : n + (pa.length : Int) ≤ 1000 := HPT.out.2.1; have := HPT.out.1; simp; omega
  intro v2 w4 ho hb hg hat
  rw [List.nil_append] at ho
  obtain ⟨A4, c4, rfl, _, _⟩ := Kd.R_reads ho
  have R4 := Aside0.mk ho
  have B4 := Aside0.mk hb
  have I4 := Aside0.mk (I0.out.below hb HS1.out)
  clear ho hb hg hat
  refine hK.out _ _ ⟨(blk2w I4.out.B0).1.1, (blk2w I4.out.B1).1⟩ (fun hHeld => ?_)
  clear hK K
  refine norm_ (a' := ?_) ?_ ?_
  rotate_left
  · show Act.put _ (some 13) _ = _
    simp only [Act.put, List.setIfInBounds_toArray, List.set_cons_zero, List.set_cons_succ]
    rfl
  refine one_ (i := 7) (N := some 17) #[true, true, true, true, true, true, true, true, false, false, false, false, false, false] rfl rfl (by kernel_rfl) (by decide) (fun K hK => ?_)
  refine goes_ Try.func105 (by kernel_rfl) rfl #[.int .i64 n] (by rfl) rfl rfl (by simp only [List.map_toArray, List.map_cons, List.map_nil] <;> rfl) ?_
  refine (ref24_Own n.toNat n w4 (by have := HPT.out.1; omega) (by have := HPT.out.2.1; have := HPT.out.1; omega)).mono ?_
  rintro e w5 ⟨L5, c5, rfl, hr5, hb5⟩
  refine ⟨_, rfl, ?_⟩
  have R5_ := Aside0.mk (Kd.R_below R4.out hb5)
  have L5_ := Aside0.mk hr5
  have B5 := Aside0.mk (B4.out.trans (hb5.mono B4.out.size))
  have I5 := Aside0.mk (I0.out.below B5.out HS1.out)
  clear hb5 hr5
  refine hK.out _ _ ⟨(blk2w I5.out.B0).1.1, (blk2w I5.out.B1).1⟩ (fun hHeld => ?_)
  clear hK K
  refine norm_ (a' := ?_) ?_ ?_
  rotate_left
  · show Act.put _ (some 17) _ = _
    simp only [Act.put, List.setIfInBounds_toArray, List.set_cons_zero, List.set_cons_succ]
    rfl
  refine one_ (i := 8) (N := some 18) #[true, true, true, true, true, true, true, true, true, false, false, false, false, false] rfl rfl (by kernel_rfl) (by decide) (fun K hK => ?_)
  refine goes_ Try.func104 (by kernel_rfl) rfl #[.slice A4 pa.length c4, .int .i64 n, .agg #[.slice B qa.length d, .int .i64 ql], .slice L5 (ownLits n.toNat).length c5] (by rfl) rfl rfl (by simp only [List.map_toArray, List.map_cons, List.map_nil] <;> rfl) ?_
  refine (ref24_Behind w1.heap.size A4 c4 pa n B d ⟨qa, ql⟩ L5 c5 (ownLits n.toNat) w5 R5_.out B5.out.size HPT.out.1 (by have h1 := HPT.out.2.1; have h2 := HQT.out.2.1; have := HPT.out.1; dsimp only at h1 h2 ⊢; omega)
    (fun W hW => HQ.out.below (I5.out.BW.trans (hW.mono (by have := HS1.out; omega)))) HQF.out (by rw [ownLits_len, Int.toNat_of_nonneg HPT.out.1]; exact HD.out) (RS.of_R' L5_.out) (fun x hx => by have := ownLits_mem hx; have := HPT.out.1; have := HPT.out.2.1; exact ⟨by omega, by omega⟩)).mono ?_
  rintro e w6 ⟨E6, c6, rfl, hr6, _, hb6, _⟩
  have hbe : behindB ⟨qa, ql⟩ (ownLits n.toNat) pa n = r := HBE.out
  rw [hbe] at hr6 ⊢
  refine ⟨_, rfl, ?_⟩
  have R6 := Aside0.mk hr6
  have B6 := Aside0.mk (B5.out.trans hb6)
  have I6 := Aside0.mk (I0.out.below B6.out HS1.out)
  clear hr6 hb6 hbe
  refine hK.out _ _ ⟨(blk2w I6.out.B0).1.1, (blk2w I6.out.B1).1⟩ (fun hHeld => ?_)
  clear hK K
  refine norm_ (a' := ?_) ?_ ?_
  rotate_left
  · show Act.put _ (some 18) _ = _
    simp only [Act.put, List.setIfInBounds_toArray, List.set_cons_zero, List.set_cons_succ]
    rfl
  refine pure_ (i := 9) (N := some 9) (v := ?_) (a' := ?_) #[true, true, true, true, true, true, true, true, true, true, false, false, false, false] rfl rfl (by kernel_rfl) (fun _ _ _ h => h) (Or.inl ⟨by rfl, ?_⟩) ?_ ?_
  rotate_left
  · intro w'
    go_simp
    with_reducible rfl
  rotate_left
  · simp only [Act.put, List.setIfInBounds_toArray, List.set_cons_zero, List.set_cons_succ]
    rfl
  refine pure_ (i := 10) (N := some 19) (v := ?_) (a' := ?_) #[true, true, true, true, true, true, true, true, true, true, true, false, false, false] rfl rfl (by kernel_rfl) (fun _ _ _ h => h) (Or.inl ⟨by rfl, ?_⟩) ?_ ?_
  rotate_left
  · intro w'
    go_simp
    with_reducible rfl
  rotate_left
  · simp only [Act.put, List.setIfInBounds_toArray, List.set_cons_zero, List.set_cons_succ]
    rfl
  refine pure_ (i := 11) (N := some 20) (v := ?_) (a' := ?_) #[true, true, true, true, true, true, true, true, true, true, true, true, false, false] rfl rfl (by kernel_rfl) (fun _ _ _ h => h) (Or.inl ⟨by rfl, ?_⟩) ?_ ?_
  rotate_left
  · intro w'
    go_simp
    with_reducible rfl
  rotate_left
  · simp only [Act.put, List.setIfInBounds_toArray, List.set_cons_zero, List.set_cons_succ]
    rfl
  refine pure_ (i := 12) (N := some 7) (v := ?_) (a' := ?_) #[true, true, true, true, true, true, true, true, true, true, true, true, true, false] rfl rfl (by kernel_rfl) (fun _ _ _ h => h) (Or.inl ⟨by rfl, ?_⟩) ?_ ?_
  rotate_left
  · intro w'
    go_simp
    with_reducible rfl
  rotate_left
  · simp only [Act.put, List.setIfInBounds_toArray, List.set_cons_zero, List.set_cons_succ]
    rfl
  refine pure_ (i := 13) (N := some 8) (v := ?_) (a' := ?_) #[true, true, true, true, true, true, true, true, true, true, true, true, true, true] rfl rfl (by kernel_rfl) (fun _ _ _ h => h) (Or.inl ⟨by rfl, ?_⟩) ?_ ?_
  rotate_left
  · intro w'
    go_simp
    with_reducible rfl
  rotate_left
  · simp only [Act.put, List.setIfInBounds_toArray, List.set_cons_zero, List.set_cons_succ]
    rfl
  refine done_ (by kernel_rfl) ?_
  obtain ⟨r0, r1⟩ := (blk2w I6.out.B0).1
  go_wp2_with fail
  refine (ref24_Join w1.heap.size E6 c6 r.1 n pl r.2 w6 HPL.out.big R6.out B6.out.size (by have h1 : n + (pa.length : Int) ≤ 1000 := HPT.out.2.1; have h2 : n + (qa.length : Int) ≤ 1000 := HQT.out.2.1; have h3 : r.1.length ≤ pa.length + qa.length := HBM.out.2; have h4 := HPT.out.1; omega) HPT.out.1 (by have := HPT.out.2.1; omega)).mono ?_
  rintro e w7 ⟨E7, c7, rfl, hr7, _, hb7, _⟩
  have hre : (⟨(joinR r.1 n pl r.2).1, (joinR r.1 n pl r.2).2⟩ : Pr) = R := HR.out
  generalize joinR r.1 n pl r.2 = j at *
  have R7_ := Aside0.mk hr7
  have B7 := Aside0.mk (B6.out.trans hb7)
  have I7 := Aside0.mk (I0.out.below B7.out HS1.out)
  have HRE := Aside0.mk hre
  clear hr7 hb7 hre r0 r1
  obtain ⟨⟨t0, t1⟩, y0, y1⟩ := blk2w I7.out.B2
  go_wp2
  refine bodyPost_ret (results_cell_row rfl _ _ (w.heap.size + 2) 29 #[.slice E7 j.1.length c7, .int .i64 j.2] (0, 0) _ rfl (blk2_set I7.out.B2 _ _) hu24 rfl (by kernel_rfl)) rfl ?_
  rw [← HRE.out]
  exact ⟨E7, c7, rfl, R2 (Kd.R_lower R7_.out I0.out.BW.size) I7.out.B2 (by decide) _ _, below2 I7.out.BW (by omega) _ _⟩
end Go.Proofs.Ytlhiapggccgggaa.PH
