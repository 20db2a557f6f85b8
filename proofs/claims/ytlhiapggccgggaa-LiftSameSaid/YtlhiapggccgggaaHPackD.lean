/- Several texts in one: Make2, RefMake, RefMake2, Agree2, Sem, TransP, Trans1, ComposeP, TransSem, Values0. -/
import Derived.Test.YtlhiapggccgggaaHMake
import Derived.Test.YtlhiapggccgggaaHBehind
import Derived.Test.YtlhiapggccgggaaHPackC
import Derived.Test.YtlhiapggccgggaaHPackB
import Derived.Test.YtlhiapggccgggaaHPut1
import Derived.Test.YtlhiapggccgggaaHIdent
import Derived.Test.YtlhiapggccgggaaHVar
/- preds.Not, preds.Or. -/
namespace Go.Proofs.Ytlhiapggccgggaa.PH
open Go.RowKit Go.Proofs.YtlhiapggccgggaaW.PrintWords Go.Proofs.YtlhiapggccgggaaW.PrintLast
set_option linter.unusedVariables false
set_option linter.unusedSimpArgs false

def turnP (p : Pr) : Pr := ⟨p.f0, litNot p.f1⟩
/-- What preds.Not answers. -/
def notP (n : Int) (p : Pr) : Pr × Int := if predCheck n p ≠ 0 then (zeroP, predCheck n p) else (turnP p, 0)
def orP (n : Int) (p q : Pr) : Pr × Int :=
  if twoErr n p q ≠ 0 then (zeroP, twoErr n p q) else if (andP n (turnP p) (turnP q)).2 ≠ 0 then (zeroP, (andP n (turnP p) (turnP q)).2) else (turnP (andP n (turnP p) (turnP q)).1, 0)
theorem litNot_half {l : Int} (h : 0 ≤ l) : 0 ≤ litNot l ∧ litNot l / 2 = l / 2 := by
  unfold litNot
  split <;> omega
theorem check_turn {n : Int} {p : Pr} (h : predCheck n p = 0) : predCheck n (turnP p) = 0 := by
  have h1 := predCheck_parts h
  have h2 := litNot_half h1.2.2.2.1
  unfold predCheck turnP
  dsimp only
  rw [if_neg (by omega), if_neg (by omega), if_neg (by omega), if_pos h1.2.2.1, if_neg (by omega), if_neg (by omega)]
theorem two_turn {n : Int} {p q : Pr} (h : twoErr n p q = 0) : twoErr n (turnP p) (turnP q) = 0 := by
  have h1 := two_ok h
  unfold twoErr
  rw [if_neg (by rw [check_turn h1.1]; simp), check_turn h1.2]
theorem turn_fits {n : Int} {p : Pr} (h : predCheck n p = 0) (hf : p.Fits) : (turnP p).Fits :=
  ⟨hf.h, hf.ig, by have h1 := litNot_lit (lit_of_check h); exact ⟨by have := h1.1; show _ ≤ litNot p.f1; omega, by have := h1.2; show litNot p.f1 ≤ _; omega⟩⟩
theorem andP_lit {n : Int} {p q : Pr} (h : twoErr n p q = 0) : IsLit (andP n p q).1.f1 := by
  have h1 := andB_lit h
  unfold andP predR
  rw [if_neg (by rw [h]; simp)]
  split
  · exact ⟨by decide, by decide⟩
  · exact h1.1
/-- One predicate boxed, and the result's cells. -/
structure NInv (w : World) (A : Option Addr) (k : Nat) (p : Pr) (wr : World) : Prop where
  BW : Below w.heap.size w wr
  B0 : wr.heap[w.heap.size]? = some (.cells #[.slice A p.f0.length k, .int .i64 p.f1] 29 (0, 0))
  B2 : wr.heap[w.heap.size + 1]? = some (.cells #[.slice none 0 0, .int .i64 0] 29 (0, 0))
theorem NInv.below {w : World} {A : Option Addr} {k : Nat} {p : Pr} {wr w2 : World} (h : NInv w A k p wr) (hb : Below wr.heap.size wr w2) : NInv w A k p w2 :=
  ⟨h.BW.trans (hb.mono h.BW.size), blk_below h.B0 hb, blk_below h.B2 hb⟩
theorem NInv.start (w : World) (A : Option Addr) (k : Nat) (p : Pr) : NInv w A k p ((w.alloc (.cells #[.slice A p.f0.length k, .int .i64 p.f1] 29)).alloc (.cells #[.slice none 0 0, .int .i64 0] 29)) :=
  ⟨below_alloc (below_alloc (Below.refl _ _) _) _, blk_alloc (blk_new _ _) _, by simpa using blk_new (w.alloc (.cells #[.slice A p.f0.length k, .int .i64 p.f1] 29)) (.cells #[.slice none 0 0, .int .i64 0] 29)⟩
end Go.Proofs.Ytlhiapggccgggaa.PH

/- The reference: Turned, Both, And, Or, Not. -/
namespace Go.Proofs.Ytlhiapggccgggaa.PH
open Go.RowKit Go.Proofs.YtlhiapggccgggaaW.PrintWords Go.Proofs.YtlhiapggccgggaaW.PrintLast
set_option linter.unusedVariables false
set_option linter.unusedSimpArgs false

/-- A predicate of its own comes back. -/
def RetQ (b : Nat) (w w' : World) (r : Pr) (e : Ending) : Prop := ∃ A k, e = .returned (pv A k r) ∧ Kd.R kGate 93 w' b (fun _ => True) (.slice A r.f0.length k) r.f0 ∧ Below w.heap.size w w'
theorem lit_runs (W : World) : True := trivial
def bothB (n : Int) (p q : Pr) : List Gate × Int := behindB q (ownLits n.toNat) p.f0 n
def bothR (n : Int) (p q : Pr) : Pr := ⟨(joinR (bothB n p q).1 n p.f1 (bothB n p q).2).1, (joinR (bothB n p q).1 n p.f1 (bothB n p q).2).2⟩
theorem behindR_len2 (before : Int) : ∀ (gs : List Gate) (own : List Int) (ands : List Gate), (behindR before gs own ands).2.length ≤ ands.length + gs.length
  | [], own, ands => by simp [behindR]
  | g :: gs, own, ands => by
    have h2 : (joinR ands before (told own g.f0) (told own g.f1)).1.length ≤ ands.length + 1 := by
      unfold joinR
      split
      · simp
      · split <;> simp
    rw [behindR]
    have h1 := behindR_len2 before gs (own ++ [(joinR ands before (told own g.f0) (told own g.f1)).2]) (joinR ands before (told own g.f0) (told own g.f1)).1
    simp only [List.length_cons]
    omega
theorem behindR_mid {s before : Int} : ∀ (gs : List Gate) (own : List Int) (ands : List Gate) (i : Int), (∀ x ∈ own, IsMid x) → 0 ≤ before → before + ands.length + gs.length ≤ 9000 → gAnds s gs i = true → (own.length : Int) = s + i →
    (∀ x ∈ (behindR before gs own ands).1, IsMid x) ∧ ((behindR before gs own ands).1.length : Int) = s + i + gs.length
  | [], own, ands, i, h1, _, h2, _, h3 => ⟨h1, by simp [behindR]; omega⟩
  | g :: gs, own, ands, i, h1, h0, h2, h4, h3 => by
    unfold gAnds at h4
    split at h4
    · cases h4
    split at h4
    · cases h4
    split at h4
    · cases h4
    have l0 := told_mid (l := g.f0) h1 (by omega) (by omega)
    have l1 := told_mid (l := g.f1) h1 (by omega) (by omega)
    simp only [List.length_cons] at h2
    have hl := joinR_mid (ands := ands) (before := before) l0 l1 h0 (by omega)
    rw [behindR]
    have h5 := behindR_mid (s := s) (before := before) gs (own ++ [(joinR ands before (told own g.f0) (told own g.f1)).2]) (joinR ands before (told own g.f0) (told own g.f1)).1 (i + 1)
      (fun x hx => by rcases List.mem_append.1 hx with h_ | h_; exact h1 x h_; exact (List.mem_singleton.1 h_) ▸ hl.1) h0 (by omega) h4 (by simp only [List.length_append, List.length_singleton]; omega)
    refine ⟨h5.1, ?_⟩
    rw [h5.2]
    simp only [List.length_cons]
    omega
theorem bothB_mid {n : Int} {p q : Pr} (hp : predCheck n p = 0) (hq : predCheck n q = 0) : IsMid (bothB n p q).2 ∧ (bothB n p q).1.length ≤ p.f0.length + q.f0.length := by
  have h1 := predCheck_parts hp
  have h2 := predCheck_parts hq
  have h := behindR_mid (s := 1 + n) (before := n) q.f0 (0 :: ownLits n.toNat) p.f0 0 (fun x hx => by
    rcases List.mem_cons.1 hx with rfl | h_
    · exact ⟨by decide, by decide⟩
    · have := ownLits_mem h_; exact ⟨by omega, by omega⟩) h1.1 (by omega) h2.2.2.1 (by simp only [List.length_cons, ownLits_len]; omega)
  exact ⟨told_mid h.1 h2.2.2.2.1 (by have := h.2; omega), behindR_len2 _ _ _ _⟩
theorem bothR_mid {n : Int} {p q : Pr} (hp : predCheck n p = 0) (hq : predCheck n q = 0) : IsMid (bothR n p q).f1 ∧ (bothR n p q).f0.length ≤ p.f0.length + q.f0.length + 1 := by
  have h := bothB_mid hp hq
  have h1 := predCheck_parts hp
  have h2 := predCheck_parts hq
  have hl := lit_of_check hp
  have hj := joinR_mid (ands := (bothB n p q).1) (before := n) (x := p.f1) (y := (bothB n p q).2) ⟨hl.1, by have := hl.2; omega⟩ h.1 h1.1 (by have := h.2; omega)
  exact ⟨hj.1, by have h3 : (bothR n p q).f0.length ≤ _ := hj.2; have := h.2; omega⟩
set_option maxHeartbeats 4000000 in
set_option maxRecDepth 100000 in
theorem ref24_Both (n : Int) (A : Option Addr) (k : Nat) (p : Pr) (B : Option Addr) (d : Nat) (q : Pr) (w : World) (hp : RS kGate w A k p.f0) (hq : RS kGate w B d q.f0) (hqf : q.Fits) (hc : predCheck n p = 0) (hd : predCheck n q = 0) :
    Calls Try.prog 87 #[.int .i64 n, pv A k p, pv B d q] w fun e w' => RetQ w.heap.size w w' (bothR n p q) e := by
  have I0 := Aside0.mk (AInv.start w A k p B d q)
  have hu24 := Try.underlying29
  have HP := Aside0.mk hp
  have HQ := Aside0.mk hq
  have HQF := Aside0.mk hqf
  have HPT := Aside0.mk (predCheck_parts hc)
  have HQT := Aside0.mk (predCheck_parts hd)
  have HPL := Aside0.mk (lit_of_check hc)
  have HD := Aside0.mk hd
  have HBM := bothB_mid hc hd
  obtain ⟨R, hR⟩ : ∃ R, bothR n p q = R := ⟨_, rfl⟩
  rw [hR]
  have HR := hR
  unfold bothR at HR
  have HBE := Aside0.mk (show behindB q (ownLits n.toNat) p.f0 n = bothB n p q from rfl)
  generalize bothB n p q = r at *
  have HR := Aside0.mk HR
  have HBM := Aside0.mk HBM
  clear hp hq hqf hc hd hR
  obtain ⟨pa, pl⟩ := p
  obtain ⟨qa, ql⟩ := q
  dsimp only [pv] at *
  go_enter Try.func87, Try.ntmps87
  go_wp2
  have HS1 := Aside0.mk (show w.heap.size + 2 < (((w.alloc (.cells #[.slice A pa.length k, .int .i64 pl] 29)).alloc (.cells #[.slice B qa.length d, .int .i64 ql] 29)).alloc (.cells #[.slice none 0 0, .int .i64 0] 29)).heap.size from blk_lt I0.out.B2)
  generalize ((w.alloc (.cells #[.slice A pa.length k, .int .i64 pl] 29)).alloc (.cells #[.slice B qa.length d, .int .i64 ql] 29)).alloc (.cells #[.slice none 0 0, .int .i64 0] 29) = w1 at *
  refine start_ (n := 14) (S := (fun w' => w'.cell? ⟨w.heap.size, 0, none⟩ = some (.slice A pa.length k) ∧ w'.cell? ⟨w.heap.size + 1, 0, none⟩ = some (.slice B qa.length d) ∧ w'.cell? ⟨w.heap.size + 1, 1, none⟩ = some (.int .i64 ql))) (ds := []) #[false, false, false, false, false, false, false, false, false, false, false, false, false, false] (by kernel_rfl) rfl rfl ⟨(blk2w I0.out.B0).1.1, (blk2w I0.out.B1).1⟩ (fun hHeld => ?_)
  refine pure_ (i := 1) (N := some 11) (v := ?_) (a' := ?_) #[false, true, false, false, false, false, false, false, false, false, false, false, false, false] rfl rfl (by kernel_rfl) (fun _ _ _ h => h) (Or.inl ⟨by rfl, ?_⟩) ?_ ?_
  rotate_left
  · intro w'
    go_simp
    with_reducible rfl
  rotate_left
  · simp only [Act.put, List.setIfInBounds_toArray, List.set_cons_zero, List.set_cons_succ]
    rfl
  refine take_ (i := 2) (N := some 12) (v := ?_) (a' := ?_) #[false, true, true, false, false, false, false, false, false, false, false, false, false, false] rfl rfl (by kernel_rfl) (fun _ _ _ h => h) (Or.inl ⟨by rfl, ?_⟩) hHeld ?_ ?_
  rotate_left
  · rintro w' ⟨s0, s1, s2⟩
    go_simp
    with_reducible rfl
  rotate_left
  · simp only [Act.put, List.setIfInBounds_toArray, List.set_cons_zero, List.set_cons_succ]
    rfl
  refine pure_ (i := 4) (N := some 14) (v := ?_) (a' := ?_) #[false, true, true, false, true, false, false, false, false, false, false, false, false, false] rfl rfl (by kernel_rfl) (fun _ _ _ h => h) (Or.inl ⟨by rfl, ?_⟩) ?_ ?_
  rotate_left
  · intro w'
    go_simp
    with_reducible rfl
  rotate_left
  · simp only [Act.put, List.setIfInBounds_toArray, List.set_cons_zero, List.set_cons_succ]
    rfl
  refine take_ (i := 5) (N := some 15) (v := ?_) (a' := ?_) #[false, true, true, false, true, true, false, false, false, false, false, false, false, false] rfl rfl (by kernel_rfl) (fun _ _ _ h => h) (Or.inl ⟨by rfl, ?_⟩) hHeld ?_ ?_
  rotate_left
  · rintro w' ⟨s0, s1, s2⟩
    go_simp
    with_reducible rfl
  rotate_left
  · simp only [Act.put, List.setIfInBounds_toArray, List.set_cons_zero, List.set_cons_succ]
    rfl
  refine pure_ (i := 6) (N := some 16) (v := ?_) (a' := ?_) #[false, true, true, false, true, true, true, false, false, false, false, false, false, false] rfl rfl (by kernel_rfl) (fun _ _ _ h => h) (Or.inl ⟨by rfl, ?_⟩) ?_ ?_
  rotate_left
  · intro w'
    go_simp
    with_reducible rfl
  rotate_left
  · simp only [Act.put, List.setIfInBounds_toArray, List.set_cons_zero, List.set_cons_succ]
    rfl
  refine one_ (i := 0) (N := some 10) #[true, true, true, false, true, true, true, false, false, false, false, false, false, false] rfl rfl (by kernel_rfl) (by decide) (fun K hK => ?_)
  refine Kd.R_lit_step kGate (w0 := w1) w1.heap.size 93 (by rfl) (N := 10) rfl (xs := []) (inner := []) (ok := fun _ => True) (okp := fun _ => False) ?hr (Reps.none _ _) (fun _ h => h.elim) trivial (below_drew (Below.refl _ _)) (Nat.le_refl _) (by simp) ?_
  case hr => first | (go_simp; done) | (go_simp; rfl)
  intro v1 w3 ho3 hb3 hg3 hnew3
  have R3 := Aside0.mk ho3
  have I3 := Aside0.mk (I0.out.below hb3 HS1.out)
  have B3 := Aside0.mk hb3
  clear ho3 hb3 hg3 hnew3
  refine hK.out _ _ ⟨(blk2w I3.out.B0).1.1, (blk2w I3.out.B1).1⟩ (fun hHeld => ?_)
  clear hK K
  refine norm_ (a' := ?_) ?_ ?_
  rotate_left
  · show Act.put _ (some 10) _ = _
    simp only [Act.put, List.setIfInBounds_toArray, List.set_cons_zero, List.set_cons_succ]
    rfl
  refine one_ (i := 3) (N := some 13) #[true, true, true, true, true, true, true, false, false, false, false, false, false, false] rfl rfl (by kernel_rfl) (by decide) (fun K hK => ?_)
  refine Kd.R_append_rows_step kGate (w0 := w1) w1.heap.size (by rfl) (.tmp 10) (.tmp 12) 23 93 (.agg #[.int .i64 0, .int .i64 0]) 16 rfl Try.underlying23 info_gate rfl (by decide) (by omega) v1 [] pa _ _ _ (fun _ => True) (fun _ => False) rfl rfl ?aO ?aR (fun _ _ h => h) (fun _ h => h.elim) ?aF ?aB ?aS ?aL ?_
  case aR => exact Kd.C_below HP.out.r I3.out.BW
  case aB => exact B3.out
  case aF => exact fun _ _ => trivial
  case aO => exact R3.out
  case aS => exact B3.out.size
  case aL => have h_ : n + (pa.length : Int) ≤ 1000 := HPT.out.2.1; have := HPT.out.1; simp; omega
  intro v2 w4 ho hb hg hat
  rw [List.nil_append] at ho
  obtain ⟨A4, c4, rfl, _, _⟩ := Kd.R_reads ho
  have R4 := Aside0.mk ho
  have B4 := Aside0.mk hb
  have I4 := Aside0.mk (I0.out.below hb HS1.out)
  clear ho hb hg hat
  refine hK.out _ _ ⟨(blk2w I4.out.B0).1.1, (blk2w I4.out.B1).1⟩ (fun hHeld => ?_)
  clear hK K
  refine norm_ (a' := ?_) ?_ ?_
  rotate_left
  · show Act.put _ (some 13) _ = _
    simp only [Act.put, List.setIfInBounds_toArray, List.set_cons_zero, List.set_cons_succ]
    rfl
  refine one_ (i := 7) (N := some 17) #[true, true, true, true, true, true, true, true, false, false, false, false, false, false] rfl rfl (by kernel_rfl) (by decide) (fun K hK => ?_)
  refine goes_ Try.func105 (by kernel_rfl) rfl #[.int .i64 n] (by rfl) rfl rfl (by simp only [List.map_toArray, List.map_cons, List.map_nil] <;> rfl) ?_
  refine (ref24_Own n.toNat n w4 (by have := HPT.out.1; omega) (by have := HPT.out.2.1; have := HPT.out.1; omega)).mono ?_
  rintro e w5 ⟨L5, c5, rfl, hr5, hb5⟩
  refine ⟨_, rfl, ?_⟩
  have R5_ := Aside0.mk (Kd.R_below R4.out hb5)
  have L5_ := Aside0.mk hr5
  have B5 := Aside0.mk (B4.out.trans (hb5.mono B4.out.size))
  have I5 := Aside0.mk (I0.out.below B5.out HS1.out)
  clear hb5 hr5
  refine hK.out _ _ ⟨(blk2w I5.out.B0).1.1, (blk2w I5.out.B1).1⟩ (fun hHeld => ?_)
  clear hK K
  refine norm_ (a' := ?_) ?_ ?_
  rotate_left
  · show Act.put _ (some 17) _ = _
    simp only [Act.put, List.setIfInBounds_toArray, List.set_cons_zero, List.set_cons_succ]
    rfl
  refine one_ (i := 8) (N := some 18) #[true, true, true, true, true, true, true, true, true, false, false, false, false, false] rfl rfl (by kernel_rfl) (by decide) (fun K hK => ?_)
  refine goes_ Try.func104 (by kernel_rfl) rfl #[.slice A4 pa.length c4, .int .i64 n, .agg #[.slice B qa.length d, .int .i64 ql], .slice L5 (ownLits n.toNat).length c5] (by rfl) rfl rfl (by simp only [List.map_toArray, List.map_cons, List.map_nil] <;> rfl) ?_
  refine (ref24_Behind w1.heap.size A4 c4 pa n B d ⟨qa, ql⟩ L5 c5 (ownLits n.toNat) w5 R5_.out B5.out.size HPT.out.1 (by have h1 := HPT.out.2.1; have h2 := HQT.out.2.1; have := HPT.out.1; dsimp only at h1 h2 ⊢; omega)
    (fun W hW => HQ.out.below (I5.out.BW.trans (hW.mono (by have := HS1.out; omega)))) HQF.out (by rw [ownLits_len, Int.toNat_of_nonneg HPT.out.1]; exact HD.out) (RS.of_R' L5_.out) (fun x hx => by have := ownLits_mem hx; have := HPT.out.1; have := HPT.out.2.1; exact ⟨by omega, by omega⟩)).mono ?_
  rintro e w6 ⟨E6, c6, rfl, hr6, _, hb6, _⟩
  have hbe : behindB ⟨qa, ql⟩ (ownLits n.toNat) pa n = r := HBE.out
  rw [hbe] at hr6 ⊢
  refine ⟨_, rfl, ?_⟩
  have R6 := Aside0.mk hr6
  have B6 := Aside0.mk (B5.out.trans hb6)
  have I6 := Aside0.mk (I0.out.below B6.out HS1.out)
  clear hr6 hb6 hbe
  refine hK.out _ _ ⟨(blk2w I6.out.B0).1.1, (blk2w I6.out.B1).1⟩ (fun hHeld => ?_)
  clear hK K
  refine norm_ (a' := ?_) ?_ ?_
  rotate_left
  · show Act.put _ (some 18) _ = _
    simp only [Act.put, List.setIfInBounds_toArray, List.set_cons_zero, List.set_cons_succ]
    rfl
  refine pure_ (i := 9) (N := some 9) (v := ?_) (a' := ?_) #[true, true, true, true, true, true, true, true, true, true, false, false, false, false] rfl rfl (by kernel_rfl) (fun _ _ _ h => h) (Or.inl ⟨by rfl, ?_⟩) ?_ ?_
  rotate_left
  · intro w'
    go_simp
    with_reducible rfl
  rotate_left
  · simp only [Act.put, List.setIfInBounds_toArray, List.set_cons_zero, List.set_cons_succ]
    rfl
  refine pure_ (i := 10) (N := some 19) (v := ?_) (a' := ?_) #[true, true, true, true, true, true, true, true, true, true, true, false, false, false] rfl rfl (by kernel_rfl) (fun _ _ _ h => h) (Or.inl ⟨by rfl, ?_⟩) ?_ ?_
  rotate_left
  · intro w'
    go_simp
    with_reducible rfl
  rotate_left
  · simp only [Act.put, List.setIfInBounds_toArray, List.set_cons_zero, List.set_cons_succ]
    rfl
  refine pure_ (i := 11) (N := some 20) (v := ?_) (a' := ?_) #[true, true, true, true, true, true, true, true, true, true, true, true, false, false] rfl rfl (by kernel_rfl) (fun _ _ _ h => h) (Or.inl ⟨by rfl, ?_⟩) ?_ ?_
  rotate_left
  · intro w'
    go_simp
    with_reducible rfl
  rotate_left
  · simp only [Act.put, List.setIfInBounds_toArray, List.set_cons_zero, List.set_cons_succ]
    rfl
  refine pure_ (i := 12) (N := some 7) (v := ?_) (a' := ?_) #[true, true, true, true, true, true, true, true, true, true, true, true, true, false] rfl rfl (by kernel_rfl) (fun _ _ _ h => h) (Or.inl ⟨by rfl, ?_⟩) ?_ ?_
  rotate_left
  · intro w'
    go_simp
    with_reducible rfl
  rotate_left
  · simp only [Act.put, List.setIfInBounds_toArray, List.set_cons_zero, List.set_cons_succ]
    rfl
  refine pure_ (i := 13) (N := some 8) (v := ?_) (a' := ?_) #[true, true, true, true, true, true, true, true, true, true, true, true, true, true] rfl rfl (by kernel_rfl) (fun _ _ _ h => h) (Or.inl ⟨by rfl, ?_⟩) ?_ ?_
  rotate_left
  · intro w'
    go_simp
    with_reducible rfl
  rotate_left
  · simp only [Act.put, List.setIfInBounds_toArray, List.set_cons_zero, List.set_cons_succ]
    rfl
  refine done_ (by kernel_rfl) ?_
  obtain ⟨r0, r1⟩ := (blk2w I6.out.B0).1
  go_wp2_with fail
  refine (ref24_Join w1.heap.size E6 c6 r.1 n pl r.2 w6 HPL.out.big R6.out B6.out.size (by have h1 : n + (pa.length : Int) ≤ 1000 := HPT.out.2.1; have h2 : n + (qa.length : Int) ≤ 1000 := HQT.out.2.1; have h3 : r.1.length ≤ pa.length + qa.length := HBM.out.2; have h4 := HPT.out.1; omega) HPT.out.1 (by have := HPT.out.2.1; omega)).mono ?_
  rintro e w7 ⟨E7, c7, rfl, hr7, _, hb7, _⟩
  have hre : (⟨(joinR r.1 n pl r.2).1, (joinR r.1 n pl r.2).2⟩ : Pr) = R := HR.out
  generalize joinR r.1 n pl r.2 = j at *
  have R7_ := Aside0.mk hr7
  have B7 := Aside0.mk (B6.out.trans hb7)
  have I7 := Aside0.mk (I0.out.below B7.out HS1.out)
  have HRE := Aside0.mk hre
  clear hr7 hb7 hre r0 r1
  obtain ⟨⟨t0, t1⟩, y0, y1⟩ := blk2w I7.out.B2
  go_wp2
  refine bodyPost_ret (results_cell_row rfl _ _ (w.heap.size + 2) 29 #[.slice E7 j.1.length c7, .int .i64 j.2] (0, 0) _ rfl (blk2_set I7.out.B2 _ _) hu24 rfl (by kernel_rfl)) rfl ?_
  rw [← HRE.out]
  exact ⟨E7, c7, rfl, R2 (Kd.R_lower R7_.out I0.out.BW.size) I7.out.B2 (by decide) _ _, below2 I7.out.BW (by omega) _ _⟩
end Go.Proofs.Ytlhiapggccgggaa.PH

/- The reference: And, Or, Not; agreement with the program. -/
namespace Go.Proofs.Ytlhiapggccgggaa.PH
open Go.RowKit Go.Proofs.YtlhiapggccgggaaW.PrintWords Go.Proofs.YtlhiapggccgggaaW.PrintLast
set_option linter.unusedVariables false
set_option linter.unusedSimpArgs false

def refAnd (n : Int) (p q : Pr) : Pr × Int := if twoErr n p q ≠ 0 then (zeroP, twoErr n p q) else fewR n (bothR n p q)
def refOr (n : Int) (p q : Pr) : Pr × Int := if twoErr n p q ≠ 0 then (zeroP, twoErr n p q) else fewR n (turnP (bothR n (turnP p) (turnP q)))
set_option maxHeartbeats 4000000 in
set_option maxRecDepth 100000 in
theorem ref24_And (n : Int) (A : Option Addr) (k : Nat) (p : Pr) (B : Option Addr) (d : Nat) (q : Pr) (w : World) (hp : RS kGate w A k p.f0) (hpf : p.Fits) (hq : RS kGate w B d q.f0) (hqf : q.Fits) :
    Calls Try.prog 57 #[.int .i64 n, pv A k p, pv B d q] w fun e w' => RetP w.heap.size w w' (refAnd n p q) e := by
  have H2 := Aside0.mk (fun W (hb : Below w.heap.size w W) => ref24_Two n A k p B d q W (hp.below hb) hpf (hq.below hb) hqf)
  have I0 := Aside0.mk (AInv.start w A k p B d q)
  have hu24 := Try.underlying29
  have HP := Aside0.mk hp
  have HQ := Aside0.mk hq
  have HQF := Aside0.mk hqf
  clear hp hq hpf hqf
  unfold refAnd
  by_cases h0 : twoErr n p q = 0
  case neg =>
    rw [if_pos h0]
    have hb : (twoErr n p q != 0) = true := bne_iff_ne.mpr h0
    clear h0
    obtain ⟨pa, pl⟩ := p
    obtain ⟨qa, ql⟩ := q
    dsimp only [pv] at *
    obtain ⟨r0, r1⟩ := (blk2w I0.out.B0).1
    obtain ⟨s0, s1⟩ := (blk2w I0.out.B1).1
    go_enter Try.func57, Try.ntmps57
    go_wp2_with fail
    refine (H2.out _ I0.out.BW).mono ?_
    rintro e w1 ⟨rfl, hb1⟩
    have I1 := Aside0.mk (I0.out.below hb1 (by simp))
    clear hb1 r0 r1 s0 s1
    obtain ⟨⟨r0, r1⟩, z0, z1⟩ := blk2w I1.out.B2
    go_wp2
    refine bodyPost_ret (results_ct rfl _ _ (w.heap.size + 2) 29 #[.slice none 0 0, .int .i64 0] (0, 0) _ rfl (blk2_set I1.out.B2 _ _) hu24 rfl (by kernel_rfl)) rfl ?_
    exact ⟨none, 0, rfl, Kd.R_nil _ _ _ _ _, below2 I1.out.BW (by omega) _ _⟩
  rw [if_neg (by rw [h0]; simp)]
  rw [h0] at H2
  have HC := Aside0.mk (two_ok h0)
  have HPT := Aside0.mk (predCheck_parts (two_ok h0).1)
  have HQT := Aside0.mk (predCheck_parts (two_ok h0).2)
  have HBO := Aside0.mk (fun W (hb : Below w.heap.size w W) => ref24_Both n A k p B d q W (HP.out.below hb) (HQ.out.below hb) HQF.out HC.out.1 HC.out.2)
  have HBM := Aside0.mk (bothR_mid (two_ok h0).1 (two_ok h0).2)
  clear h0
  generalize bothR n p q = r at *
  obtain ⟨R, hR⟩ : ∃ R, fewR n r = R := ⟨_, rfl⟩
  rw [hR]
  have HR := Aside0.mk hR
  clear hR
  obtain ⟨pa, pl⟩ := p
  obtain ⟨qa, ql⟩ := q
  dsimp only [pv] at *
  obtain ⟨r0, r1⟩ := (blk2w I0.out.B0).1
  obtain ⟨s0, s1⟩ := (blk2w I0.out.B1).1
  go_enter Try.func57, Try.ntmps57
  go_wp2_with fail
  refine (H2.out _ I0.out.BW).mono ?_
  rintro e w1 ⟨rfl, hb1⟩
  have I1 := Aside0.mk (I0.out.below hb1 (by simp))
  have HS1 := Aside0.mk (blk_lt I1.out.B2)
  clear hb1 r0 r1 s0 s1 I0
  obtain ⟨r0, r1⟩ := (blk2w I1.out.B0).1
  obtain ⟨s0, s1⟩ := (blk2w I1.out.B1).1
  go_wp2_with fail
  refine (HBO.out _ I1.out.BW).mono ?_
  rintro e w2 ⟨E2, c2, rfl, hr2, hb2⟩
  have R2_ := Aside0.mk hr2
  have I2 := Aside0.mk (I1.out.below hb2 HS1.out)
  have B2 := Aside0.mk hb2
  clear hr2 hb2 r0 r1 s0 s1
  dsimp only [pv]
  go_wp2_with fail
  refine (ref24_Few n w1.heap.size E2 c2 r w2 R2_.out HPT.out.1 (by have := HPT.out.2.1; omega) (by have h1 : n + (pa.length : Int) ≤ 1000 := HPT.out.2.1; have h2 : n + (qa.length : Int) ≤ 1000 := HQT.out.2.1; have h3 : r.f0.length ≤ pa.length + qa.length + 1 := HBM.out.2; have h4 := HPT.out.1; omega)).mono ?_
  rintro e w3 ⟨E3, c3, rfl, hr3, hb3⟩
  rw [HR.out] at hr3 ⊢
  have R3 := Aside0.mk hr3
  have I3 := Aside0.mk (I2.out.below hb3 (Nat.lt_of_lt_of_le HS1.out B2.out.size))
  clear hr3 hb3
  obtain ⟨⟨r0, r1⟩, z0, z1⟩ := blk2w I3.out.B2
  go_wp2
  refine bodyPost_ret (results_ct rfl _ _ (w.heap.size + 2) 29 #[.slice E3 R.1.f0.length c3, .int .i64 R.1.f1] (0, 0) _ rfl (blk2_set I3.out.B2 _ _) hu24 rfl (by kernel_rfl)) rfl ?_
  exact ⟨E3, c3, rfl, R2 (Kd.R_lower R3.out (by have := HS1.out; omega)) I3.out.B2 (by decide) _ _, below2 I3.out.BW (by omega) _ _⟩
end Go.Proofs.Ytlhiapggccgggaa.PH

/- preds.And, Or and their references answer alike, in plain Lean. -/
namespace Go.Proofs.Ytlhiapggccgggaa.PH
open Go.RowKit Go.Proofs.YtlhiapggccgggaaW.PrintWords
set_option linter.unusedVariables false
set_option linter.unusedSimpArgs false

theorem both_same {n : Int} {p q : Pr} (h : twoErr n p q = 0) :
    ((andB n p q).2.1 = false ∧ (andB n p q).1 = (bothR n p q).f0 ∧ (andB n p q).2.2 = (bothR n p q).f1 ∧ n + (bothR n p q).f0.length ≤ 1000) ∨ ((andB n p q).2.1 = true ∧ 1000 < n + (bothR n p q).f0.length) := by
  have h1 := predCheck_parts (two_ok h).1
  unfold andB bothR bothB boxB putB behindB
  rw [show n + 1 = 1 + n by omega]
  dsimp only
  rcases put_behind n q.f0 (0 :: ownLits n.toNat) p.f0 (by omega) with ⟨h2, h3, h4, h5⟩ | ⟨h2, h3⟩
  · rw [h2, h3, h4]
    rcases and_join n (behindR n q.f0 (0 :: ownLits n.toNat) p.f0).2 p.f1 (told (behindR n q.f0 (0 :: ownLits n.toNat) p.f0).1 q.f1) h5 with ⟨a1, a2, a3, a4⟩ | ⟨a1, a2⟩
    · exact .inl ⟨a1, a2, a3, by omega⟩
    · exact .inr ⟨a1, by omega⟩
  · rw [h2]
    refine .inr ⟨andR_full _ _ _ _, ?_⟩
    have := joinR_mono (behindR n q.f0 (0 :: ownLits n.toNat) p.f0).2 n p.f1 (told (behindR n q.f0 (0 :: ownLits n.toNat) p.f0).1 q.f1)
    omega
theorem and_same (n : Int) (p q : Pr) : refAnd n p q = andP n p q := by
  unfold refAnd andP
  split
  · rfl
  · rename_i h
    have h := Classical.not_not.1 h
    unfold fewR predR
    rcases both_same h with ⟨h1, h2, h3, h4⟩ | ⟨h1, h2⟩
    · rw [if_neg (by omega), if_neg (by rw [h1]; decide), h2, h3]
    · rw [if_pos h2, if_pos h1]
theorem or_same (n : Int) (p q : Pr) : refOr n p q = orP n p q := by
  unfold refOr orP
  split
  · rfl
  · rename_i h
    have h := two_turn (Classical.not_not.1 h)
    have e1 : andP n (turnP p) (turnP q) = fewR n (bothR n (turnP p) (turnP q)) := by
      rw [← and_same]
      unfold refAnd
      rw [if_neg (by rw [h]; simp)]
    rw [e1]
    generalize bothR n (turnP p) (turnP q) = b
    unfold fewR
    by_cases hc : 1000 < n + (b.f0.length : Int)
    · rw [if_pos (show 1000 < n + ((turnP b).f0.length : Int) from hc), if_pos hc, if_pos (by decide)]
    · rw [if_neg (show ¬ 1000 < n + ((turnP b).f0.length : Int) from hc), if_neg hc, if_neg (by simp)]
end Go.Proofs.Ytlhiapggccgggaa.PH

/- What the builder makes has the values of its parts, in plain Lean. -/
namespace Go.Proofs.Ytlhiapggccgggaa.PH
open Go.RowKit Go.Proofs.YtlhiapggccgggaaW.PrintWords
set_option linter.unusedVariables false
set_option linter.unusedSimpArgs false

/-! ### Values of literals -/
theorem litV_not (v : List Bool) {l : Int} (h : 0 ≤ l) : litV v (litNot l) = !litV v l := by
  unfold litV litNot
  split
  · rename_i h2
    rw [show (l + 1) / 2 = l / 2 by omega, show (l + 1) % 2 = 1 by omega, h2]
    cases v.getD (l / 2).toNat false <;> rfl
  · rename_i h2
    rw [show (l - 1) / 2 = l / 2 by omega, show (l - 1) % 2 = 0 by omega, show l % 2 = 1 by omega]
    cases v.getD (l / 2).toNat false <;> rfl
theorem litV_app (v t : List Bool) {l : Int} (h : 0 ≤ l) (hl : l / 2 < v.length) : litV (v ++ t) l = litV v l := by
  unfold litV
  rw [List.getD_eq_getElem?_getD, List.getD_eq_getElem?_getD, List.getElem?_append_left (by omega)]
theorem truthFrom_pre : ∀ (gs : List Gate) (v : List Bool), ∃ t, truthFrom gs v = v ++ t ∧ t.length = gs.length
  | [], v => ⟨[], by simp [truthFrom], rfl⟩
  | g :: gs, v => by
    obtain ⟨t, h1, h2⟩ := truthFrom_pre gs (v ++ [litV v g.f0 && litV v g.f1])
    exact ⟨(litV v g.f0 && litV v g.f1) :: t, by rw [truthFrom, h1]; simp, by simp [h2]⟩
theorem truthFrom_len (gs : List Gate) (v : List Bool) : (truthFrom gs v).length = v.length + gs.length := by
  obtain ⟨t, h1, h2⟩ := truthFrom_pre gs v
  rw [h1, List.length_append, h2]
theorem truthFrom_snoc : ∀ (gs : List Gate) (g : Gate) (v : List Bool), truthFrom (gs ++ [g]) v = truthFrom gs v ++ [litV (truthFrom gs v) g.f0 && litV (truthFrom gs v) g.f1]
  | [], g, v => by simp [truthFrom]
  | x :: xs, g, v => by simp only [List.cons_append, truthFrom]; exact truthFrom_snoc xs g _
theorem truthFrom_lit (gs : List Gate) (v : List Bool) {l : Int} (h : 0 ≤ l) (hl : l / 2 < v.length) : litV (truthFrom gs v) l = litV v l := by
  obtain ⟨t, h1, _⟩ := truthFrom_pre gs v
  rw [h1]
  exact litV_app v t h hl
/-- The gates are right, behind so many variables. -/
def Okg (s : Int) (ands : List Gate) : Prop := ∀ k (hk : k < ands.length), 0 ≤ ands[k].f1 ∧ ands[k].f1 ≤ ands[k].f0 ∧ ands[k].f0 < 2 * (s + k)
theorem okg_of : ∀ {s : Int} {gs : List Gate} {i : Int}, gAnds s gs i = true → Okg (s + i) gs
  | s, [], i, _ => fun k hk => by simp at hk
  | s, g :: gs, i, h => by
    unfold gAnds at h
    split at h
    · cases h
    split at h
    · cases h
    split at h
    · cases h
    · intro k hk
      cases k with
      | zero => exact ⟨by simp; omega, by simp; omega, by simp; omega⟩
      | succ k =>
        have := okg_of h k (by simpa using hk)
        simp only [List.getElem_cons_succ]
        refine ⟨this.1, this.2.1, ?_⟩
        have h3 := this.2.2
        push_cast
        omega
theorem okg_to : ∀ {s : Int} {gs : List Gate} {i : Int}, Okg (s + i) gs → gAnds s gs i = true
  | s, [], i, _ => rfl
  | s, g :: gs, i, h => by
    have h0 := h 0 (by simp)
    simp only [List.getElem_cons_zero] at h0
    unfold gAnds
    rw [if_neg (by omega), if_neg (by omega), if_neg (by omega)]
    refine okg_to (fun k hk => ?_)
    have h1 := h (k + 1) (by simpa using hk)
    simp only [List.getElem_cons_succ] at h1
    refine ⟨h1.1, h1.2.1, ?_⟩
    have h3 := h1.2.2
    push_cast at h3
    omega
theorem truthFrom_at : ∀ (gs : List Gate) (v : List Bool) (k : Nat) (hk : k < gs.length), Okg v.length gs → (truthFrom gs v).getD (v.length + k) false = (litV (truthFrom gs v) gs[k].f0 && litV (truthFrom gs v) gs[k].f1)
  | g :: gs, v, 0, hk, h => by
    have h0 := h 0 (by simp)
    simp only [List.getElem_cons_zero] at h0 ⊢
    rw [truthFrom_lit (g :: gs) v (by omega) (by omega), truthFrom_lit (g :: gs) v (by omega) (by omega), truthFrom]
    obtain ⟨t, h1, _⟩ := truthFrom_pre gs (v ++ [litV v g.f0 && litV v g.f1])
    rw [h1, List.getD_eq_getElem?_getD, List.append_assoc, List.getElem?_append_right (by omega)]
    simp
  | g :: gs, v, k + 1, hk, h => by
    rw [truthFrom]
    have h2 := truthFrom_at gs (v ++ [litV v g.f0 && litV v g.f1]) k (by simpa using hk) (fun j hj => by
      have h3 := h (j + 1) (by simpa using hj)
      simp only [List.getElem_cons_succ] at h3
      refine ⟨h3.1, h3.2.1, ?_⟩
      have h4 := h3.2.2
      simp only [List.length_append, List.length_singleton]
      push_cast at h4 ⊢
      omega)
    simp only [List.length_append, List.length_singleton] at h2
    simp only [List.getElem_cons_succ]
    rw [← h2, show v.length + 1 + k = v.length + (k + 1) by omega]
theorem litV_zero {v : List Bool} (h : v.getD 0 false = false) : litV v 0 = false := by
  unfold litV
  rw [show ((0 : Int) / 2).toNat = 0 by decide, h]
  decide
theorem litV_one {v : List Bool} (h : v.getD 0 false = false) : litV v 1 = true := by
  unfold litV
  rw [show ((1 : Int) / 2).toNat = 0 by decide, h]
  decide
theorem simple_val {v : List Bool} (h : v.getD 0 false = false) {x y : Int} (hx : 0 ≤ x) (hy : 0 ≤ y) (hs : (simpleR x y).2 = true) : litV v (simpleR x y).1 = (litV v x && litV v y) := by
  unfold simpleR at hs ⊢
  split
  · rename_i h1; subst h1; rw [litV_zero h]; rfl
  · split
    · rename_i h1; subst h1; rw [litV_zero h]; simp
    · split
      · rename_i h1; subst h1; rw [litV_zero h, litV_not v hx]; cases litV v x <;> rfl
      · split
        · rename_i h1; subst h1; rw [litV_one h]; simp
        · split
          · rename_i h1; subst h1; rw [litV_one h]; simp
          · split
            · rename_i h1; subst h1; simp
            · rename_i h1 h2 h3 h4 h5 h6
              rw [if_neg h1, if_neg h2, if_neg h3, if_neg h4, if_neg h5, if_neg h6] at hs
              cases hs
theorem simple_range {x y : Int} {m : Int} (hm : 0 < m) (hx : 0 ≤ x) (hy : 0 ≤ y) (hx2 : x / 2 < m) (hy2 : y / 2 < m) : 0 ≤ (simpleR x y).1 ∧ (simpleR x y).1 / 2 < m := by
  unfold simpleR
  repeat' split
  all_goals constructor <;> (dsimp only; omega)
theorem gidx_at (g : Gate) : ∀ (l : List Gate) (i : Nat), ¬ gidx g l i < 0 → ∃ k, ∃ (hk : k < l.length), gidx g l i = (i : Int) + k ∧ g.f0 = l[k].f0 ∧ g.f1 = l[k].f1
  | [], i, h => absurd (by unfold gidx; decide) h
  | x :: xs, i, h => by
    unfold gidx at h ⊢
    split
    · rename_i h1
      exact ⟨0, by simp, by simp, h1.1, h1.2⟩
    · rename_i h1
      rw [if_neg h1] at h
      obtain ⟨k, hk, h2, h3⟩ := gidx_at g xs (i + 1) h
      exact ⟨k + 1, by simpa using hk, by rw [h2]; push_cast; omega, by simpa using h3⟩
/-- A literal of the variables that there are. -/
def InR (m : Int) (l : Int) : Prop := 0 ≤ l ∧ l / 2 < m
theorem gate_val (v : List Bool) (x y : Int) : (litV v (gateOf x y).f0 && litV v (gateOf x y).f1) = (litV v x && litV v y) := by
  unfold gateOf mx mn
  dsimp only
  by_cases h : x < y
  · rw [if_pos h, if_neg (by omega), Bool.and_comm]
  · rw [if_neg h]
    by_cases h2 : y < x
    · rw [if_pos h2]
    · rw [if_neg h2, show x = y by omega]
theorem gate_ok {m x y : Int} (hx : InR m x) (hy : InR m y) : 0 ≤ (gateOf x y).f1 ∧ (gateOf x y).f1 ≤ (gateOf x y).f0 ∧ (gateOf x y).f0 < 2 * m := by
  obtain ⟨h1, h2⟩ := hx
  obtain ⟨h3, h4⟩ := hy
  unfold gateOf mx mn
  dsimp only
  refine ⟨?_, ?_, ?_⟩ <;> (repeat' split) <;> omega
/-- One AND on a builder that is not full behind it. -/
theorem andR_val {v0 : List Bool} {ands : List Gate} {first : Int} {x y : Int} (h0 : v0.getD 0 false = false) (hl : 0 < v0.length) (hf : first = v0.length) (ho : Okg first ands) (hx : InR (first + ands.length) x) (hy : InR (first + ands.length) y) (hn : (andR ands first false x y).2.1 = false) :
    Okg first (andR ands first false x y).1 ∧ (∃ t, (andR ands first false x y).1 = ands ++ t) ∧ InR (first + (andR ands first false x y).1.length) (andR ands first false x y).2.2 ∧
    litV (truthFrom (andR ands first false x y).1 v0) (andR ands first false x y).2.2 = (litV (truthFrom ands v0) x && litV (truthFrom ands v0) y) := by
  have hv0 : (truthFrom ands v0).getD 0 false = false := by
    obtain ⟨t, h1, _⟩ := truthFrom_pre ands v0
    rw [h1, List.getD_eq_getElem?_getD, List.getElem?_append_left hl, ← List.getD_eq_getElem?_getD, h0]
  unfold andR at hn ⊢
  split
  · rename_i hs
    exact ⟨ho, ⟨[], by simp⟩, simple_range (by omega) hx.1 hy.1 hx.2 hy.2, simple_val hv0 hx.1 hy.1 hs⟩
  · rename_i hs
    rw [if_neg hs] at hn
    split
    · rename_i hg
      rw [if_pos hg] at hn
      split
      · rename_i hc
        rw [if_pos hc] at hn
        cases hn
      · have hgo := gate_ok hx hy
        refine ⟨fun k hk => ?_, ⟨[gateOf x y], rfl⟩, ⟨by dsimp only; omega, by simp only [List.length_append, List.length_singleton]; omega⟩, ?_⟩
        · by_cases hk2 : k < ands.length
          · simp only [List.getElem_append_left hk2]
            exact ho k hk2
          · have hk3 : k = ands.length := by simp only [List.length_append, List.length_singleton] at hk; omega
            subst hk3
            simp only [List.getElem_append_right (Nat.le_refl _), Nat.sub_self, List.getElem_cons_zero]
            exact hgo
        · dsimp only
          rw [truthFrom_snoc, gate_val]
          have hlen := truthFrom_len ands v0
          generalize (litV (truthFrom ands v0) x && litV (truthFrom ands v0) y) = b
          unfold litV
          rw [show (2 * (first + (ands.length : Int))) / 2 = first + ands.length by omega, show (2 * (first + (ands.length : Int))) % 2 = 0 by omega, show (first + (ands.length : Int)).toNat = (truthFrom ands v0).length by omega, List.getD_eq_getElem?_getD, List.getElem?_append_right (Nat.le_refl _)]
          simp
    · rename_i hg
      obtain ⟨k, hk, h1, h2, h3⟩ := gidx_at _ ands 0 hg
      rw [h1]
      have hv := truthFrom_at ands v0 k hk (hf ▸ ho)
      refine ⟨ho, ⟨[], by simp⟩, ⟨by dsimp only; omega, by dsimp only; omega⟩, ?_⟩
      dsimp only
      rw [← gate_val, h2, h3, ← hv]
      have e1 : (2 * (first + (((0 : Nat) : Int) + (k : Int)))) / 2 = ((v0.length + k : Nat) : Int) := by omega
      show ((truthFrom ands v0).getD ((2 * (first + (((0 : Nat) : Int) + (k : Int)))) / 2).toNat false != ((2 * (first + (((0 : Nat) : Int) + (k : Int)))) % 2 == 1)) = _
      rw [e1, show (2 * (first + (((0 : Nat) : Int) + (k : Int)))) % 2 = 0 by omega, Int.toNat_natCast]
      cases (truthFrom ands v0).getD (v0.length + k) false <;> rfl
/-- What the literals have become have the values that the variables have. -/
def Own (v : List Bool) (own : List Int) (u : List Bool) : Prop := own.length = u.length ∧ ∀ k (hk : k < own.length), InR v.length own[k] ∧ litV v own[k] = u.getD k false
theorem told_val {v : List Bool} {own : List Int} {u : List Bool} (h : Own v own u) {l : Int} (h0 : 0 ≤ l) (h1 : l / 2 < own.length) : InR v.length (told own l) ∧ litV v (told own l) = litV u l := by
  obtain ⟨k, hk⟩ : ∃ k : Nat, l / 2 = (k : Int) := ⟨(l / 2).toNat, by omega⟩
  have hkv : k < own.length := by omega
  have h2 := h.2 k hkv
  unfold told
  rw [show (l / 2).toNat = k by omega, List.getD_eq_getElem?_getD, List.getElem?_eq_getElem hkv, Option.getD_some]
  have hu : litV u l = (u.getD k false != (l % 2 == 1)) := by unfold litV; rw [hk, Int.toNat_natCast]
  split
  · rename_i h3
    refine ⟨⟨?_, ?_⟩, ?_⟩
    · have := h2.1.1; unfold litNot; split <;> omega
    · have := h2.1.1; have := h2.1.2; unfold litNot; split <;> omega
    · rw [litV_not v h2.1.1, h2.2, hu, h3]
      cases u.getD k false <;> rfl
  · rename_i h3
    refine ⟨h2.1, ?_⟩
    rw [h2.2, hu, show l % 2 = 0 by omega]
    cases u.getD k false <;> rfl
theorem Own.grow {v t : List Bool} {own : List Int} {u : List Bool} (h : Own v own u) : Own (v ++ t) own u :=
  ⟨h.1, fun k hk => ⟨⟨(h.2 k hk).1.1, by have := (h.2 k hk).1.2; simp only [List.length_append]; omega⟩, (litV_app v t (h.2 k hk).1.1 (h.2 k hk).1.2).trans (h.2 k hk).2⟩⟩
theorem truthFrom_more (a t : List Gate) (v : List Bool) : ∃ s, truthFrom (a ++ t) v = truthFrom a v ++ s := by
  have h : ∀ (a : List Gate) (v : List Bool), truthFrom (a ++ t) v = truthFrom t (truthFrom a v) := by
    intro a
    induction a with
    | nil => intro v; rfl
    | cons g gs ih => intro v; simp only [List.cons_append, truthFrom]; exact ih _
  obtain ⟨s, h1, _⟩ := truthFrom_pre t (truthFrom a v)
  exact ⟨s, (h a v).trans h1⟩
/-- A predicate put behind gates: what its variables become have their values. -/
theorem putR_val {v0 : List Bool} {first : Int} (h0 : v0.getD 0 false = false) (hl : 0 < v0.length) (hf : first = v0.length) : ∀ (gs : List Gate) (own : List Int) (ands : List Gate) (u : List Bool), Okg first ands → Own (truthFrom ands v0) own u → Okg u.length gs → (putR first gs own ands false).2.2 = false →
    Okg first (putR first gs own ands false).2.1 ∧ (∃ t, (putR first gs own ands false).2.1 = ands ++ t) ∧ Own (truthFrom (putR first gs own ands false).2.1 v0) (putR first gs own ands false).1 (truthFrom gs u)
  | [], own, ands, u, ho, hw, _, _ => ⟨ho, ⟨[], by simp [putR]⟩, hw⟩
  | g :: gs, own, ands, u, ho, hw, hg, hn => by
    rw [putR] at hn ⊢
    have hg0 := hg 0 (by simp)
    simp only [List.getElem_cons_zero] at hg0
    have hlen := truthFrom_len ands v0
    have t0 := told_val hw (l := g.f0) (by omega) (by have := hw.1; omega)
    have t1 := told_val hw (l := g.f1) (by omega) (by have := hw.1; omega)
    have hnf : (andR ands first false (told own g.f0) (told own g.f1)).2.1 = false := by
      cases hc : (andR ands first false (told own g.f0) (told own g.f1)).2.1
      · rfl
      · rw [hc, putR_full] at hn; cases hn
    have hr : ∀ l, InR (truthFrom ands v0).length l → InR (first + ands.length) l := fun l h => ⟨h.1, by have := h.2; omega⟩
    have ha := andR_val h0 hl hf ho (hr _ t0.1) (hr _ t1.1) hnf
    rw [hnf] at hn ⊢
    obtain ⟨a1, ⟨t, a2⟩, a3, a4⟩ := ha
    obtain ⟨s, hs⟩ := truthFrom_more ands t v0
    have hlen2 := truthFrom_len (andR ands first false (told own g.f0) (told own g.f1)).1 v0
    have hw2 : Own (truthFrom (andR ands first false (told own g.f0) (told own g.f1)).1 v0) (own ++ [(andR ands first false (told own g.f0) (told own g.f1)).2.2]) (u ++ [litV u g.f0 && litV u g.f1]) := by
      have hw3 : Own (truthFrom (andR ands first false (told own g.f0) (told own g.f1)).1 v0) own u := by rw [a2, hs]; exact hw.grow
      refine ⟨by simp [hw.1], fun k hk => ?_⟩
      by_cases hk2 : k < own.length
      · simp only [List.getElem_append_left hk2]
        rw [List.getD_eq_getElem?_getD, List.getElem?_append_left (by have := hw.1; omega), ← List.getD_eq_getElem?_getD]
        exact hw3.2 k hk2
      · have hk3 : k = own.length := by simp only [List.length_append, List.length_singleton] at hk; omega
        subst hk3
        simp only [List.getElem_append_right (Nat.le_refl _), Nat.sub_self, List.getElem_cons_zero]
        refine ⟨⟨a3.1, by have := a3.2; omega⟩, ?_⟩
        rw [a4, t0.2, t1.2, List.getD_eq_getElem?_getD, List.getElem?_append_right (by rw [hw.1]; exact Nat.le_refl _), hw.1]
        simp
    have h2 := putR_val h0 hl hf gs _ _ (u ++ [litV u g.f0 && litV u g.f1]) a1 hw2 (fun k hk => by
      have h3 := hg (k + 1) (by simpa using hk)
      simp only [List.getElem_cons_succ] at h3
      refine ⟨h3.1, h3.2.1, ?_⟩
      have h4 := h3.2.2
      simp only [List.length_append, List.length_singleton]
      push_cast at h4 ⊢
      omega) hn
    obtain ⟨b1, ⟨t', b2⟩, b3⟩ := h2
    exact ⟨b1, ⟨t ++ t', by rw [b2, a2, List.append_assoc]⟩, b3⟩
/-! ### Predicates -/
theorem box_own {n : Int} {gs : List Gate} {st : List Bool} (hn : (st.length : Int) = n) : Own (truthFrom gs (false :: st)) (0 :: ownLits n.toNat) (false :: st) := by
  refine ⟨by simp only [List.length_cons, ownLits_len]; omega, fun k hk => ?_⟩
  have hlen := truthFrom_len gs (false :: st)
  simp only [List.length_cons] at hlen
  cases k with
  | zero =>
    simp only [List.getElem_cons_zero]
    refine ⟨⟨by decide, by omega⟩, ?_⟩
    rw [truthFrom_lit _ _ (by decide) (by simp only [List.length_cons]; omega)]
    rfl
  | succ k =>
    simp only [List.length_cons, ownLits_len] at hk
    simp only [List.getElem_cons_succ, ownLits_get]
    refine ⟨⟨by omega, by omega⟩, ?_⟩
    rw [truthFrom_lit _ _ (by omega) (by simp only [List.length_cons]; omega)]
    unfold litV
    rw [show (2 * ((k : Int) + 1)) / 2 = ((k + 1 : Nat) : Int) by omega, show (2 * ((k : Int) + 1)) % 2 = 0 by omega, Int.toNat_natCast]
    simp
theorem okg_of0 {n : Int} {gs : List Gate} (h : gAnds (1 + n) gs 0 = true) : Okg (n + 1) gs := by
  have h1 := okg_of h
  rw [show 1 + n + 0 = n + 1 by omega] at h1
  exact h1
theorem andB_val {n : Int} {p q : Pr} {st : List Bool} (h : twoErr n p q = 0) (hn : (st.length : Int) = n) (hf : (andB n p q).2.1 = false) :
    predCheck n ⟨(andB n p q).1, (andB n p q).2.2⟩ = 0 ∧ predValue ⟨(andB n p q).1, (andB n p q).2.2⟩ st = (predValue p st && predValue q st) := by
  have hc := two_ok h
  have hp := predCheck_parts hc.1
  have hq := predCheck_parts hc.2
  have hbf : (boxB n p q).2.1 = false := by
    cases hb : (boxB n p q).2.1
    · rfl
    · unfold andB at hf
      rw [hb, andR_full] at hf
      cases hf
  have hvl : ((false :: st).length : Int) = n + 1 := by simp only [List.length_cons]; omega
  obtain ⟨o1, ⟨t, e1⟩, w1⟩ := putR_val (v0 := false :: st) (first := n + 1) rfl (by simp) hvl.symm q.f0 (0 :: ownLits n.toNat) p.f0 (false :: st) (okg_of0 hp.2.2.1) (box_own hn) (hvl ▸ okg_of0 hq.2.2.1) hbf
  have t1 := told_val w1 (l := q.f1) hq.2.2.2.1 (by have := w1.1; have h2 := truthFrom_len q.f0 (false :: st); have h3 := hq.2.2.2.2; simp only [List.length_cons] at h2; omega)
  have hb1 : (putR (n + 1) q.f0 (0 :: ownLits n.toNat) p.f0 false).2.1 = (boxB n p q).1 := rfl
  have hb2 : told (putR (n + 1) q.f0 (0 :: ownLits n.toNat) p.f0 false).1 q.f1 = (boxB n p q).2.2 := rfl
  rw [hb1] at o1 e1 t1
  rw [hb2] at t1
  have hlen := truthFrom_len (boxB n p q).1 (false :: st)
  have hpl : (boxB n p q).1.length = p.f0.length + t.length := by rw [e1, List.length_append]
  have hand : andB n p q = andR (boxB n p q).1 (n + 1) false p.f1 (boxB n p q).2.2 := by unfold andB; rw [hbf]
  rw [hand] at hf ⊢
  have a := andR_val (v0 := false :: st) rfl (by simp) hvl.symm o1 (x := p.f1) (y := (boxB n p q).2.2) ⟨hp.2.2.2.1, by have := hp.2.2.2.2; omega⟩ ⟨t1.1.1, by have := t1.1.2; omega⟩ hf
  have hl := andB_lit h
  rw [hand] at hl
  generalize andR (boxB n p q).1 (n + 1) false p.f1 (boxB n p q).2.2 = r at *
  obtain ⟨a1, _, a3, a4⟩ := a
  constructor
  · unfold predCheck
    dsimp only
    rw [if_neg (by omega), if_neg (by omega), if_neg (by have := hl.2; omega), if_pos (okg_to (by rw [show 1 + n + 0 = n + 1 by omega]; exact a1)), if_neg (by have := a3.1; omega), if_neg (by have := a3.2; omega)]
  · show litV (truthFrom r.1 (false :: st)) r.2.2 = _
    rw [a4, t1.2, e1]
    obtain ⟨s, hs⟩ := truthFrom_more p.f0 t (false :: st)
    have hpv := truthFrom_len p.f0 (false :: st)
    rw [hs, litV_app _ _ hp.2.2.2.1 (by have := hp.2.2.2.2; omega)]
    rfl
theorem val_and {p q : Pr} {st : List Bool} (h : twoErr st.length p q = 0) (hs : st.length + p.f0.length + q.f0.length + 1 ≤ 1000) :
    ∃ a, andP st.length p q = (a, 0) ∧ predCheck st.length a = 0 ∧ predValue a st = (predValue p st && predValue q st) := by
  have hf : (andB st.length p q).2.1 = false := by
    rcases both_same h with ⟨h1, _⟩ | ⟨_, h2⟩
    · exact h1
    · have := (bothR_mid (two_ok h).1 (two_ok h).2).2
      omega
  have h1 := andB_val h rfl hf
  refine ⟨⟨(andB st.length p q).1, (andB st.length p q).2.2⟩, ?_, h1.1, h1.2⟩
  unfold andP predR
  rw [if_neg (by rw [h]; simp), if_neg (by rw [hf]; decide)]
theorem val_turn {p : Pr} {st : List Bool} (h : 0 ≤ p.f1) : predValue (turnP p) st = !predValue p st := litV_not _ h
theorem turn_turn (p : Pr) : turnP (turnP p) = p := by
  obtain ⟨a, l⟩ := p
  unfold turnP litNot
  dsimp only
  congr 1
  split <;> split <;> omega
theorem val_or {p q : Pr} {st : List Bool} (h : twoErr st.length p q = 0) (hs : st.length + p.f0.length + q.f0.length + 1 ≤ 1000) :
    ∃ a, orP st.length p q = (a, 0) ∧ predCheck st.length a = 0 ∧ predValue a st = (predValue p st || predValue q st) := by
  obtain ⟨a, h1, h2, h3⟩ := val_and (st := st) (two_turn h) hs
  have hp := predCheck_parts (two_ok h).1
  have hq := predCheck_parts (two_ok h).2
  refine ⟨turnP a, ?_, check_turn h2, ?_⟩
  · unfold orP
    rw [if_neg (by rw [h]; simp), h1, if_neg (by simp)]
  · rw [val_turn (predCheck_parts h2).2.2.2.1, h3, val_turn hp.2.2.2.1, val_turn hq.2.2.2.1]
    cases predValue p st <;> cases predValue q st <;> rfl
theorem not_val {n : Int} {p : Pr} (h : predCheck n p = 0) : notP n p = (turnP p, 0) := by
  unfold notP
  rw [if_neg (by rw [h]; simp)]
theorem value_val {p : Pr} {st : List Bool} (h : predCheck st.length p = 0) : valueOf p st = predValue p st := by
  unfold valueOf
  rw [if_pos h]
end Go.Proofs.Ytlhiapggccgggaa.PH

/- Translated predicates, in plain Lean. -/
namespace Go.Proofs.Ytlhiapggccgggaa.PH
open Go.RowKit Go.Proofs.YtlhiapggccgggaaW.PrintWords Go.Proofs.YtlhiapggccgggaaW.PrintLast
set_option linter.unusedVariables false
set_option linter.unusedSimpArgs false

def byL (x o : Int) : Int := if o % 2 = 1 then litNot x else x
theorem byL_lit {x : Int} (o : Int) (h : IsLit x) : IsLit (byL x o) := by
  unfold byL
  split
  · exact litNot_lit h
  · exact h
/-- What a reduced latch stands for, as a literal of a predicate. -/
def standOf (n x : Int) : Int := if 0 ≤ x then x - 2 * n else 0
/-- One gate more is translated. -/
def transS (n : Int) (g : Gate) (t : List Int) (a : List Gate) : List Int × List Gate :=
  if (simpleR (told t g.f0) (told t g.f1)).2 then (t ++ [(simpleR (told t g.f0) (told t g.f1)).1], a)
  else (t ++ [2 * (n + ((a.length : Int) + 1))], a ++ [gateOf (told t g.f0) (told t g.f1)])
def transR (n : Int) : List Gate → List Int → List Gate → List Int × List Gate
  | [], t, a => (t, a)
  | g :: gs, t, a => transR n gs (transS n g t a).1 (transS n g t a).2
theorem transR_drop {n : Int} {gs : List Gate} {t : List Int} {a : List Gate} {k : Nat} (hk : k < gs.length) :
    transR n (gs.drop k) t a = transR n (gs.drop (k + 1)) (transS n gs[k] t a).1 (transS n gs[k] t a).2 := by
  rw [drop_at hk, transR]
def standsOf (c : Circ) (las : List Int) : List Int := 0 :: las.map (standOf c.f0)
def transB (c : Circ) (las : List Int) (p : Pr) : List Int × List Gate := transR c.f1.length p.f0 (standsOf c las) []
def transP (c : Circ) (las : List Int) (p : Pr) : Pr := ⟨(transB c las p).2, told (transB c las p).1 p.f1⟩
/-- What is told so far is literals, as many as there should be; the gates are not too many, and of literals. -/
structure TrI (s k : Nat) (t : List Int) (a : List Gate) : Prop where
  hl : ∀ x ∈ t, IsLit x
  hn : t.length = s + k
  ha : a.length ≤ k
  hg : ∀ y ∈ a, IsLit y.f0 ∧ IsLit y.f1
theorem gateOf_lit {x y : Int} (hx : IsLit x) (hy : IsLit y) : IsLit (gateOf x y).f0 ∧ IsLit (gateOf x y).f1 := by
  unfold gateOf mx mn
  constructor <;> dsimp only <;> split <;> assumption
theorem TrI.step {s k : Nat} {n : Int} {t : List Int} {a : List Gate} {g : Gate} (h : TrI s k t a) (h0 : 0 ≤ n) (h1 : n + (k : Int) + 1 ≤ 1000) (g0 : 0 ≤ g.f0) (g1 : g.f0 / 2 < s + k) (g2 : 0 ≤ g.f1) (g3 : g.f1 / 2 < s + k) :
    TrI s (k + 1) (transS n g t a).1 (transS n g t a).2 := by
  have l0 := told_lit (l := g.f0) h.hl g0 (by have := h.hn; omega)
  have l1 := told_lit (l := g.f1) h.hl g2 (by have := h.hn; omega)
  have ha := h.ha
  have hn := h.hn
  unfold transS
  split
  · dsimp only
    exact ⟨fun x hx => by rcases List.mem_append.1 hx with h_ | h_; exact h.hl x h_; exact (List.mem_singleton.1 h_) ▸ simpleR_lit l0 l1, by simp only [List.length_append, List.length_singleton]; omega, by omega, h.hg⟩
  · dsimp only
    exact ⟨fun x hx => by rcases List.mem_append.1 hx with h_ | h_; exact h.hl x h_; rw [List.mem_singleton.1 h_]; exact ⟨by omega, by omega⟩, by simp only [List.length_append, List.length_singleton]; omega, by simp only [List.length_append, List.length_singleton]; omega,
      fun y hy => by rcases List.mem_append.1 hy with h_ | h_; exact h.hg y h_; exact (List.mem_singleton.1 h_) ▸ gateOf_lit l0 l1⟩
/-- Latches of a lift that is valid: their literals, or -1. -/
def LasOk (c : Circ) (las : List Int) : Prop := 0 ≤ c.f0 ∧ c.f0 ≤ 1000 ∧ c.f1.length ≤ 1000 ∧ ∀ x ∈ las, x = -1 ∨ (2 * (c.f0 + 1) ≤ x ∧ x < 2 * (c.f0 + 1 + c.f1.length))
theorem stand_lit {c : Circ} {las : List Int} (h : LasOk c las) : ∀ x ∈ las, IsLit (standOf c.f0 x) := fun x hx => by
  have h3 := h.2.2.1
  unfold standOf
  rcases h.2.2.2 x hx with rfl | ⟨h1, h2⟩
  · rw [if_neg (by decide)]; exact ⟨by decide, by decide⟩
  · rw [if_pos (by have := h.1; omega)]
    exact ⟨by omega, by omega⟩
theorem TrI.start {c : Circ} {las : List Int} (h : LasOk c las) : TrI (1 + las.length) 0 (standsOf c las) [] :=
  ⟨fun x hx => by
    rcases List.mem_cons.1 hx with rfl | h_
    · exact ⟨by decide, by decide⟩
    · obtain ⟨y, hy, rfl⟩ := List.mem_map.1 h_
      exact stand_lit h y hy, by simp [standsOf]; omega, Nat.le_refl _, fun y hy => by simp at hy⟩
theorem transR_ok {n : Int} {s : Nat} (h0 : 0 ≤ n) : ∀ (gs : List Gate) (k : Nat) (t : List Int) (a : List Gate), TrI s k t a → n + (k : Int) + gs.length ≤ 1000 → gAnds s gs k = true →
    TrI s (k + gs.length) (transR n gs t a).1 (transR n gs t a).2
  | [], k, t, a, h, _, _ => h
  | g :: gs, k, t, a, h, h1, h2 => by
    have hg := gAnds_at 0 (by simp) h2
    simp only [List.getElem_cons_zero] at hg
    simp only [List.length_cons] at h1
    unfold gAnds at h2
    split at h2
    · cases h2
    split at h2
    · cases h2
    split at h2
    · cases h2
    rw [transR, show k + (g :: gs).length = (k + 1) + gs.length by simp only [List.length_cons]; omega]
    exact transR_ok h0 gs (k + 1) _ _ (h.step h0 (by omega) (by omega) (by omega) (by omega) (by omega)) (by omega) (by push_cast; exact h2)
theorem transB_ok {c : Circ} {las : List Int} {p : Pr} (h : LasOk c las) (hp : predCheck las.length p = 0) (h1 : (c.f1.length : Int) + p.f0.length ≤ 1000) :
    TrI (1 + las.length) p.f0.length (transB c las p).1 (transB c las p).2 := by
  have h2 := predCheck_parts hp
  have h3 := transR_ok (n := c.f1.length) (s := 1 + las.length) (by omega) p.f0 0 (standsOf c las) [] (TrI.start h) (by omega) (by push_cast; exact h2.2.2.1)
  rw [Nat.zero_add] at h3
  exact h3
theorem transP_fits {c : Circ} {las : List Int} {p : Pr} (h : LasOk c las) (hp : predCheck las.length p = 0) (h1 : (c.f1.length : Int) + p.f0.length ≤ 1000) : (transP c las p).Fits := by
  have h2 := transB_ok h hp h1
  have h3 := predCheck_parts hp
  have h4 := told_lit (l := p.f1) h2.hl h3.2.2.2.1 (by have := h2.hn; have := h3.2.2.2.2; omega)
  refine ⟨by have h_ : (transP c las p).f0.length ≤ p.f0.length := h2.ha; omega, fun y hy => ?_, ⟨by have h_ : 0 ≤ (transP c las p).f1 := h4.1; omega, by have h_ : (transP c las p).f1 ≤ 2001 := h4.2; omega⟩⟩
  have h5 := h2.hg y hy
  exact ⟨⟨by have := h5.1.1; omega, by have := h5.1.2; omega⟩, ⟨by have := h5.2.1; omega, by have := h5.2.2; omega⟩⟩
end Go.Proofs.Ytlhiapggccgggaa.PH

/- lift.by, lift.and; the reference's signed. -/
namespace Go.Proofs.Ytlhiapggccgggaa.PH
open Go.RowKit Go.Proofs.YtlhiapggccgggaaW.PrintWords Go.Proofs.YtlhiapggccgggaaW.PrintLast
set_option linter.unusedVariables false
set_option linter.unusedSimpArgs false

theorem by_bits {x o : Int} (hx : IsLit x) (ho : IsLit o) : bits .xor .i64 x (bits .and .i64 o 1) = byL x o := by
  rw [and_one ho]
  unfold byL
  split
  · rename_i z; rw [z]; exact xor_one hx
  · rename_i z
    have := ho.1
    rw [show o % 2 = 0 by omega]; exact xor_zero hx
set_option maxHeartbeats 1000000 in
set_option maxRecDepth 100000 in
theorem lift_by (x o : Int) (w : World) (hx : IsLit x) (ho : IsLit o) :
    Calls Try.prog 43 #[.int .i64 x, .int .i64 o] w fun e w' => e = .returned (.int .i64 (byL x o)) ∧ Below w.heap.size w w' := by
  have HB := Aside0.mk (by_bits hx ho)
  clear hx ho
  go_enter Try.func43, Try.ntmps43
  go_wp2
  go_ret
  exact ⟨ret_int HB.out, Below.refl _ _⟩
set_option maxHeartbeats 2000000 in
set_option maxRecDepth 100000 in
theorem lift_and (x y : Int) (w : World) (hx : IsLit x) (hy : IsLit y) :
    Calls Try.prog 75 #[.int .i64 x, .int .i64 y] w fun e w' => RetIB w w' (simpleR x y) e := by
  have HA := Aside0.mk (fun W => lits_And x y W hx hy)
  have h1 : decide (x ≤ 2001) = true := decide_eq_true hx.2
  have h2 : decide (y ≤ 2001) = true := decide_eq_true hy.2
  generalize simpleR x y = r at *
  clear hx hy
  go_enter Try.func75, Try.ntmps75
  go_wp2_with fail
  refine (HA.out _).mono ?_
  rintro e w1 ⟨rfl, hb⟩
  have HB := Aside0.mk hb
  clear hb
  go_wp2
  refine bodyPost_ret (results_tmp2 rfl _ _ _) rfl ?_
  exact ⟨rfl, HB.out⟩
set_option maxHeartbeats 1000000 in
set_option maxRecDepth 100000 in
theorem ref25_signed (x o : Int) (w : World) (hx : IsBig x) (ho : 0 ≤ o) :
    Calls Try.prog 76 #[.int .i64 x, .int .i64 o] w fun e w' => e = .returned (.int .i64 (byL x o)) ∧ Below w.heap.size w w' := by
  have HN := Aside0.mk (fun W => ref01_Not x W hx)
  have ht := tmod_two ho
  unfold byL
  by_cases z : o % 2 = 1
  · rw [if_pos z]
    have zb : (o.tmod 2 == 1) = true := by rw [ht]; exact beq_iff_eq.mpr z
    clear z ht hx ho
    go_enter Try.func76, Try.ntmps76
    go_wp2_with fail
    refine (HN.out _).mono ?_
    rintro e w1 ⟨rfl, hb⟩
    have HB := Aside0.mk hb
    clear hb
    go_wp2
    go_ret
    exact ⟨rfl, HB.out⟩
  · rw [if_neg z]
    have zb : (o.tmod 2 == 1) = false := by rw [ht]; exact beq_eq_false_iff_ne.mpr z
    clear z ht hx ho
    go_enter Try.func76, Try.ntmps76
    go_wp2
    go_ret
    exact ⟨rfl, Below.refl _ _⟩
end Go.Proofs.Ytlhiapggccgggaa.PH

/- Composed lifts, in plain Lean. -/
namespace Go.Proofs.Ytlhiapggccgggaa.PH
open Go.RowKit Go.Proofs.YtlhiapggccgggaaW.PrintWords Go.Proofs.YtlhiapggccgggaaW.PrintLast
set_option linter.unusedVariables false
set_option linter.unusedSimpArgs false

/-- A lift that is valid. -/
structure LOk (fr tc : Circ) (l : Lf) : Prop where
  s0 : 0 ≤ l.f0
  s1 : l.f0 ≤ 100
  p0 : 1 ≤ l.f1
  p1 : l.f1 ≤ 4
  n2 : l.f2.length = fr.f1.length
  n4 : l.f4.length = tc.f1.length
  n3 : (l.f3.length : Int) = l.f0 + l.f1
  m2 : ∀ x ∈ l.f2, x = 0 ∨ x = 1 ∨ (2 * (tc.f0 + 1) ≤ x ∧ x < 2 * (tc.f0 + 1 + tc.f1.length))
  m3 : ∀ r ∈ l.f3, (r.length : Int) = fr.f0 ∧ ∀ x ∈ r, 0 ≤ x ∧ x % 2 = 0 ∧ x ≤ 2 * tc.f0
  m4 : ∀ x ∈ l.f4, x = -1 ∨ (2 * (fr.f0 + 1) ≤ x ∧ x < 2 * (fr.f0 + 1 + fr.f1.length))
  k : predCheck fr.f1.length l.f5 = 0
theorem LOk.of {fr tc : Circ} {l : Lf} (h : liftOk fr tc l = true) : LOk fr tc l := by
  unfold liftOk headOk at h
  simp only [Bool.and_eq_true, decide_eq_true_eq, List.all_eq_true] at h
  obtain ⟨⟨h1, h2, h3, h4, h5, h6, h7⟩, h8, h9, h10, h11⟩ := h
  refine ⟨h1, h2, h3, h4, h5, h6, h7, fun x hx => ?_, fun r hr => ?_, fun x hx => ?_, h11⟩
  · have := h8 x hx
    unfold fOk isL at this
    simpa using this
  · have := h9 r hr
    unfold rOk iOk at this
    simp only [Bool.and_eq_true, decide_eq_true_eq, List.all_eq_true] at this
    exact ⟨this.1, fun x hx => ⟨(this.2 x hx).1, (this.2 x hx).2.1, (this.2 x hx).2.2⟩⟩
  · have := h10 x hx
    unfold lOk isL at this
    simpa using this
def joinF (md : Circ) (b : Lf) (x : Int) : Int := if 1 < x then byL (b.f2.getD (x / 2 - md.f0 - 1).toNat 0) x else x
def joinL (md : Circ) (a : Lf) (x : Int) : Int := if 0 ≤ x then (if 0 ≤ a.f4.getD (x / 2 - md.f0 - 1).toNat 0 then byL (a.f4.getD (x / 2 - md.f0 - 1).toNat 0) x else a.f4.getD (x / 2 - md.f0 - 1).toNat 0) else x
/-- The row of the first lift and the frame of the second one that a frame has. -/
def rowAt (a : Lf) (j : Nat) : Nat := if a.f1 ≤ (j : Int) - a.f0 then (a.f0 + ((j : Int) - a.f0) % a.f1).toNat else j
def frAt (a : Lf) (j : Nat) : Nat := if a.f1 ≤ (j : Int) - a.f0 then (((j : Int) - a.f0) / a.f1).toNat else 0
def joinI (b : Lf) (f : Nat) (x : Int) : Int := if 0 < x then (b.f3.getD f []).getD (x / 2 - 1).toNat 0 else x
def joinRow (a b : Lf) (j : Nat) : List Int := (a.f3.getD (rowAt a j) []).map (joinI b (frAt a j))
def sk (a b : Lf) : Int := a.f0 + a.f1 * b.f0
def ph (a b : Lf) : Int := a.f1 * b.f1
def factOf (fr : Circ) (a b : Lf) : Pr × Int := andP fr.f1.length a.f5 (transP fr a.f4 b.f5)
def joined (fr md : Circ) (a b : Lf) : Lf := ⟨sk a b, ph a b, a.f2.map (joinF md b), (List.range (sk a b + ph a b).toNat).map (joinRow a b), b.f4.map (joinL md a), (factOf fr a b).1⟩
def joinC (fr md : Circ) (a b : Lf) : Lf × Int :=
  if 100 < sk a b ∨ 4 < ph a b then (zeroL, 4) else if (factOf fr a b).2 ≠ 0 then (zeroL, (factOf fr a b).2) else (joined fr md a b, 0)
def composeC (fr md tc : Circ) (a b : Lf) : Lf × Int :=
  if checks [fr, md, tc] ≠ 0 then (zeroL, checks [fr, md, tc])
  else if liftOk fr md a = false then (zeroL, 8) else if liftOk md tc b = false then (zeroL, 8) else joinC fr md a b
theorem checks3 {fr md tc : Circ} (h : checks [fr, md, tc] = 0) : check fr = 0 ∧ check md = 0 ∧ check tc = 0 := by
  simp only [checks] at h
  by_cases h1 : check fr = 0
  · rw [if_pos h1] at h
    by_cases h2 : check md = 0
    · rw [if_pos h2] at h
      by_cases h3 : check tc = 0
      · exact ⟨h1, h2, h3⟩
      · rw [if_neg h3] at h; exact absurd h h3
    · rw [if_neg h2] at h; exact absurd h h2
  · rw [if_neg h1] at h; exact absurd h h1
theorem lasOk_of {fr tc : Circ} {l : Lf} (h : LOk fr tc l) (h0 : 0 ≤ fr.f0) (h1 : fr.f0 ≤ 1000) (h2 : fr.f1.length ≤ 1000) : LasOk fr l.f4 := ⟨h0, h1, h2, h.m4⟩
theorem lit_isL {c : Circ} {x : Int} (h : check c = 0) (hx : 2 * (c.f0 + 1) ≤ x ∧ x < 2 * (c.f0 + 1 + c.f1.length)) : IsLit x := by
  have h1 := gCheck_ok h
  exact ⟨by omega, by omega⟩
/-- The place of a latch's literal. -/
theorem at_latch_lit {c : Circ} {x : Int} (h : check c = 0) (hx : 2 * (c.f0 + 1) ≤ x ∧ x < 2 * (c.f0 + 1 + c.f1.length)) : ∃ q : Nat, q < c.f1.length ∧ x / 2 - c.f0 - 1 = (q : Int) := by
  have h1 := gCheck_ok h
  exact ⟨(x / 2 - c.f0 - 1).toNat, by omega, by omega⟩
theorem getD_at {α : Type} {l : List α} {q : Nat} (h : q < l.length) (z : α) : l.getD q z = l[q] := by
  rw [List.getD_eq_getElem?_getD, List.getElem?_eq_getElem h]; rfl
theorem joinF_at {md tc : Circ} {b : Lf} {x : Int} (hb : LOk md tc b) {q : Nat} (hq : q < b.f2.length) (hx : x / 2 - md.f0 - 1 = (q : Int)) (h1 : 1 < x) : joinF md b x = byL b.f2[q] x := by
  unfold joinF
  rw [if_pos h1, hx, Int.toNat_natCast, getD_at hq]
theorem joinL_at {md : Circ} {a : Lf} {x : Int} {q : Nat} (hq : q < a.f4.length) (hx : x / 2 - md.f0 - 1 = (q : Int)) (h1 : 0 ≤ x) : joinL md a x = if 0 ≤ a.f4[q] then byL a.f4[q] x else a.f4[q] := by
  unfold joinL
  rw [if_pos h1, hx, Int.toNat_natCast, getD_at hq]
theorem sk_bound {fr md tc : Circ} {a b : Lf} (ha : LOk fr md a) (hb : LOk md tc b) : 0 ≤ sk a b ∧ sk a b ≤ 500 ∧ 1 ≤ ph a b ∧ ph a b ≤ 16 := by
  have h1 := ha.s0; have h2 := ha.s1; have h3 := ha.p0; have h4 := ha.p1
  have h5 := hb.s0; have h6 := hb.s1; have h7 := hb.p0; have h8 := hb.p1
  unfold sk ph
  have k : a.f1 = 1 ∨ a.f1 = 2 ∨ a.f1 = 3 ∨ a.f1 = 4 := by omega
  rcases k with k | k | k | k <;> rw [k] <;> omega
/-- Both places are there. -/
theorem at_bound {fr md tc : Circ} {a b : Lf} (ha : LOk fr md a) (hb : LOk md tc b) {j : Nat} (hj : (j : Int) < sk a b + ph a b) : rowAt a j < a.f3.length ∧ frAt a j < b.f3.length := by
  have h1 := ha.s0; have h2 := ha.s1; have h3 := ha.p0; have h4 := ha.p1
  have h5 := hb.s0; have h6 := hb.s1; have h7 := hb.p0; have h8 := hb.p1
  have n1 := ha.n3; have n2 := hb.n3
  unfold sk ph at hj
  unfold rowAt frAt
  have k : a.f1 = 1 ∨ a.f1 = 2 ∨ a.f1 = 3 ∨ a.f1 = 4 := by omega
  by_cases hk : a.f1 ≤ (j : Int) - a.f0
  · rw [if_pos hk, if_pos hk]
    rcases k with k | k | k | k <;> rw [k] at hk hj n1 ⊢ <;> constructor <;> omega
  · rw [if_neg hk, if_neg hk]
    constructor <;> omega
theorem joinI_at {b : Lf} {f q : Nat} {x : Int} (hf : f < b.f3.length) (hq : q < b.f3[f].length) (hx : x / 2 - 1 = (q : Int)) (h0 : 0 < x) : joinI b f x = b.f3[f][q] := by
  unfold joinI
  rw [if_pos h0, getD_at hf, hx, Int.toNat_natCast, getD_at hq]
/-- A row that is being rewritten from its head on. -/
def mix (f : Int → Int) (l : List Int) (i : Nat) : List Int := (l.map f).take i ++ l.drop i
theorem mix_len (f : Int → Int) (l : List Int) (i : Nat) : (mix f l i).length = l.length := by
  unfold mix
  rw [List.length_append, List.length_take, List.length_map, List.length_drop]; omega
theorem mix_at {f : Int → Int} {l : List Int} {i : Nat} (h : i < l.length) (h' : i < (mix f l i).length) : (mix f l i)[i] = l[i] := by
  have h1 : (mix f l i)[i]? = l[i]? := by
    unfold mix
    rw [List.getElem?_append_right (by rw [List.length_take, List.length_map]; omega), List.length_take, List.length_map, List.getElem?_drop, Nat.min_eq_left (by omega)]
    simp
  rw [List.getElem?_eq_getElem h', List.getElem?_eq_getElem h] at h1
  exact Option.some.inj h1
theorem mix_set {f : Int → Int} {l : List Int} {i : Nat} (h : i < l.length) {y : Int} (hy : f l[i] = y) : (mix f l i).set i y = mix f l (i + 1) := by
  unfold mix
  have h1 : ((l.map f).take i).length = i := by rw [List.length_take, List.length_map]; omega
  rw [List.set_append_right _ _ (by omega), h1, Nat.sub_self, drop_at h, List.set_cons_zero, List.take_succ_eq_append_getElem (by rw [List.length_map]; exact h), List.getElem_map, hy, List.append_assoc]
  rfl
theorem mix_skip {f : Int → Int} {l : List Int} {i : Nat} (h : i < l.length) (hy : f l[i] = l[i]) : mix f l (i + 1) = mix f l i := by
  unfold mix
  rw [drop_at h, List.take_succ_eq_append_getElem (by rw [List.length_map]; exact h), List.getElem_map, hy, List.append_assoc]
  rfl
theorem mix_zero (f : Int → Int) (l : List Int) : mix f l 0 = l := rfl
theorem mix_end (f : Int → Int) (l : List Int) : mix f l l.length = l.map f := by
  unfold mix
  rw [List.drop_length, List.append_nil, ← List.length_map (f := f), List.take_length]
theorem joinRow_eq {a b : Lf} {j r f : Nat} (hr : rowAt a j = r) (hf : frAt a j = f) (h : r < a.f3.length) : joinRow a b j = a.f3[r].map (joinI b f) := by
  unfold joinRow
  rw [hr, hf, getD_at h]
theorem rows_snoc (a b : Lf) (j : Nat) : (List.range j).map (joinRow a b) ++ [joinRow a b j] = (List.range (j + 1)).map (joinRow a b) := by
  rw [List.range_succ, List.map_append]; rfl
end Go.Proofs.Ytlhiapggccgggaa.PH

/- What a translated predicate says, in plain Lean. -/
namespace Go.Proofs.Ytlhiapggccgggaa.PH
open Go.RowKit Go.Proofs.YtlhiapggccgggaaW.PrintWords Go.Proofs.YtlhiapggccgggaaW.PrintLast
set_option linter.unusedVariables false
set_option linter.unusedSimpArgs false

theorem own_snoc {v : List Bool} {own : List Int} {u : List Bool} (h : Own v own u) {l : Int} {b : Bool} (hr : InR v.length l) (hv : litV v l = b) : Own v (own ++ [l]) (u ++ [b]) := by
  refine ⟨by simp [h.1], fun k hk => ?_⟩
  by_cases hk2 : k < own.length
  · simp only [List.getElem_append_left hk2]
    rw [List.getD_eq_getElem?_getD, List.getElem?_append_left (by have := h.1; omega), ← List.getD_eq_getElem?_getD]
    exact h.2 k hk2
  · have hk3 : k = own.length := by simp only [List.length_append, List.length_singleton] at hk; omega
    subst hk3
    simp only [List.getElem_append_right (Nat.le_refl _), Nat.sub_self, List.getElem_cons_zero]
    refine ⟨hr, ?_⟩
    rw [hv, List.getD_eq_getElem?_getD, List.getElem?_append_right (by rw [h.1]; exact Nat.le_refl _), h.1]
    simp
theorem okg_snoc {s : Int} {a : List Gate} {g : Gate} (h : Okg s a) (hg : 0 ≤ g.f1 ∧ g.f1 ≤ g.f0 ∧ g.f0 < 2 * (s + a.length)) : Okg s (a ++ [g]) := fun k hk => by
  by_cases hk2 : k < a.length
  · simp only [List.getElem_append_left hk2]
    exact h k hk2
  · have hk3 : k = a.length := by simp only [List.length_append, List.length_singleton] at hk; omega
    subst hk3
    simp only [List.getElem_append_right (Nat.le_refl _), Nat.sub_self, List.getElem_cons_zero]
    exact hg
theorem transS_val {v0 : List Bool} {n : Int} (h0 : v0.getD 0 false = false) (hl : 0 < v0.length) (hn : n + 1 = v0.length) {g : Gate} {t : List Int} {a : List Gate} {u : List Bool} (ho : Okg v0.length a) (hw : Own (truthFrom a v0) t u) (hg : 0 ≤ g.f1 ∧ g.f1 ≤ g.f0 ∧ g.f0 < 2 * (u.length : Int)) :
    Okg v0.length (transS n g t a).2 ∧ Own (truthFrom (transS n g t a).2 v0) (transS n g t a).1 (u ++ [litV u g.f0 && litV u g.f1]) := by
  have hlen := truthFrom_len a v0
  have t0 := told_val hw (l := g.f0) (by omega) (by have := hw.1; omega)
  have t1 := told_val hw (l := g.f1) (by omega) (by have := hw.1; omega)
  have hv0 : (truthFrom a v0).getD 0 false = false := by
    obtain ⟨s, h1, _⟩ := truthFrom_pre a v0
    rw [h1, List.getD_eq_getElem?_getD, List.getElem?_append_left hl, ← List.getD_eq_getElem?_getD, h0]
  unfold transS
  split
  · rename_i hs
    refine ⟨ho, own_snoc hw (simple_range (by omega) t0.1.1 t1.1.1 t0.1.2 t1.1.2) ?_⟩
    rw [simple_val hv0 t0.1.1 t1.1.1 hs, t0.2, t1.2]
  · have hgo := gate_ok t0.1 t1.1
    refine ⟨okg_snoc ho ⟨hgo.1, hgo.2.1, by have := hgo.2.2; omega⟩, ?_⟩
    dsimp only
    rw [truthFrom_snoc, gate_val, t0.2, t1.2]
    refine own_snoc hw.grow ⟨by omega, by simp only [List.length_append, List.length_singleton]; omega⟩ ?_
    generalize (litV u g.f0 && litV u g.f1) = b
    unfold litV
    rw [show (2 * (n + ((a.length : Int) + 1))) / 2 = n + ((a.length : Int) + 1) by omega, show (2 * (n + ((a.length : Int) + 1))) % 2 = 0 by omega, show (n + ((a.length : Int) + 1)).toNat = (truthFrom a v0).length by omega, List.getD_eq_getElem?_getD, List.getElem?_append_right (Nat.le_refl _)]
    simp
theorem transR_val {v0 : List Bool} {n : Int} (h0 : v0.getD 0 false = false) (hl : 0 < v0.length) (hn : n + 1 = v0.length) : ∀ (gs : List Gate) (t : List Int) (a : List Gate) (u : List Bool), Okg v0.length a → Own (truthFrom a v0) t u → Okg u.length gs →
    Okg v0.length (transR n gs t a).2 ∧ Own (truthFrom (transR n gs t a).2 v0) (transR n gs t a).1 (truthFrom gs u)
  | [], t, a, u, ho, hw, _ => ⟨ho, hw⟩
  | g :: gs, t, a, u, ho, hw, hg => by
    have hg0 := hg 0 (by simp)
    simp only [List.getElem_cons_zero] at hg0
    have h1 := transS_val h0 hl hn ho hw ⟨hg0.1, hg0.2.1, by have := hg0.2.2; omega⟩
    rw [transR, truthFrom]
    exact transR_val h0 hl hn gs _ _ _ h1.1 h1.2 (fun k hk => by
      have h3 := hg (k + 1) (by simpa using hk)
      simp only [List.getElem_cons_succ] at h3
      refine ⟨h3.1, h3.2.1, ?_⟩
      have h4 := h3.2.2
      simp only [List.length_append, List.length_singleton]
      push_cast at h4 ⊢
      omega)
/-- The value that a reduced latch has by what it stands for. -/
def stV (c : Circ) (st : List Bool) (y : Int) : Bool := decide (0 ≤ y) && (st.getD (y / 2 - c.f0 - 1).toNat false != decide (y % 2 = 1))
theorem stands_own {c : Circ} {las : List Int} {st : List Bool} (h : LasOk c las) (hs : st.length = c.f1.length) : Own (truthFrom [] (false :: st)) (standsOf c las) (false :: las.map (stV c st)) := by
  have hf := h.1
  refine ⟨by simp [standsOf], fun k hk => ?_⟩
  have hz : Own (truthFrom [] (false :: st)) [0] [false] := ⟨rfl, fun k hk => by
    have : k = 0 := by simp at hk; omega
    subst this
    exact ⟨⟨Int.le_refl 0, by simp [truthFrom]⟩, litV_zero rfl⟩⟩
  cases k with
  | zero => exact hz.2 0 (by simp)
  | succ k =>
    have hkl : k < las.length := by simp [standsOf] at hk; omega
    have he : (standsOf c las)[k + 1] = standOf c.f0 las[k] := by simp [standsOf]
    have hu : (false :: las.map (stV c st)).getD (k + 1) false = stV c st las[k] := by
      rw [List.getD_cons_succ, List.getD_eq_getElem?_getD, List.getElem?_map, List.getElem?_eq_getElem hkl]; rfl
    rw [he, hu]
    have hx := h.2.2.2 las[k] (List.getElem_mem hkl)
    generalize las[k] = y at *
    unfold standOf stV
    rcases hx with rfl | ⟨h1, h2⟩
    · rw [if_neg (by decide)]
      exact ⟨⟨by decide, by simp [truthFrom]⟩, litV_zero rfl⟩
    · rw [if_pos (by omega)]
      refine ⟨⟨by omega, by simp only [truthFrom, List.length_cons]; omega⟩, ?_⟩
      have e1 : ((y - 2 * c.f0) / 2).toNat = (y / 2 - c.f0 - 1).toNat + 1 := by omega
      rw [decide_eq_true (show 0 ≤ y by omega), Bool.true_and]
      unfold litV truthFrom
      rw [e1, List.getD_cons_succ, show (y - 2 * c.f0) % 2 = y % 2 by omega]
      congr 1
theorem transP_val {c : Circ} {las : List Int} {p : Pr} {st : List Bool} (h : LasOk c las) (hp : predCheck las.length p = 0) (hs : st.length = c.f1.length) (h1 : (c.f1.length : Int) + p.f0.length ≤ 1000) :
    predCheck c.f1.length (transP c las p) = 0 ∧ predValue (transP c las p) st = predValue p (las.map (stV c st)) := by
  have hpp := predCheck_parts hp
  have hg := okg_of hpp.2.2.1
  have hv := transR_val (v0 := false :: st) (n := c.f1.length) rfl (by simp) (by simp [hs]) p.f0 (standsOf c las) [] (false :: las.map (stV c st)) (fun k hk => by simp at hk) (stands_own h hs) (fun k hk => by
    have h3 := hg k hk
    refine ⟨h3.1, h3.2.1, ?_⟩
    have h4 := h3.2.2
    simp only [List.length_cons, List.length_map]
    push_cast at h4 ⊢
    omega)
  have ht := transB_ok h hp h1
  have hlit := told_val hv.2 (l := p.f1) hpp.2.2.2.1 (by
    have h5 := ht.hn
    have h6 : (transR c.f1.length p.f0 (standsOf c las) []).1.length = 1 + las.length + p.f0.length := h5
    have := hpp.2.2.2.2
    omega)
  refine ⟨?_, ?_⟩
  · unfold predCheck
    have ha : (transP c las p).f0.length ≤ p.f0.length := ht.ha
    have hl2 : InR (truthFrom (transR c.f1.length p.f0 (standsOf c las) []).2 (false :: st)).length (transP c las p).f1 := hlit.1
    rw [truthFrom_len, List.length_cons, hs] at hl2
    have hl3 : (transP c las p).f1 / 2 < ((c.f1.length + 1 + (transP c las p).f0.length : Nat) : Int) := hl2.2
    have hg2 : gAnds (1 + (c.f1.length : Int)) (transP c las p).f0 0 = true := okg_to (by
      have h7 := hv.1
      rw [List.length_cons, hs] at h7
      rw [show (1 + (c.f1.length : Int)) + 0 = ((c.f1.length + 1 : Nat) : Int) by push_cast; omega]
      exact h7)
    rw [if_neg (by omega), if_neg (by omega), if_neg (by omega), if_pos hg2, if_neg (by have := hl2.1; omega), if_neg (by omega)]
  · exact hlit.2
end Go.Proofs.Ytlhiapggccgggaa.PH

/- values.of, values.Of; a row of truth values in a block of its own, copy into it. -/
namespace Go.Proofs.Ytlhiapggccgggaa.PH
open Go.RowKit Go.Proofs.YtlhiapggccgggaaW.PrintWords Go.Proofs.YtlhiapggccgggaaW.PrintLast
set_option linter.unusedVariables false
set_option linter.unusedSimpArgs false

set_option maxHeartbeats 2000000 in
set_option maxRecDepth 100000 in
theorem values_of (A : Option Addr) (c : Nat) (v : List Bool) (l : Int) (w : World) (h : RS Kd.bool w A c v) (hl : IsLit l) (h1 : l / 2 < v.length) :
    Calls Try.prog 98 #[.slice A v.length c, .int .i64 l] w fun e w' => e = .returned (.bool (litV v l)) ∧ Below w.heap.size w w' := by
  obtain ⟨k, hk⟩ : ∃ k : Nat, l / 2 = (k : Int) := ⟨(l / 2).toNat, by have := hl.1; omega⟩
  have hkv : k < v.length := by omega
  have ha := and_one hl
  obtain ⟨ad, e1, hx⟩ := at_bool h.r k hkv
  cases e1
  have hR : litV v l = (v[k] != (l % 2 == 1)) := by
    unfold litV
    rw [hk, Int.toNat_natCast, List.getD_eq_getElem?_getD, List.getElem?_eq_getElem hkv]
    rfl
  rw [hR]
  generalize v[k] = b at *
  have hlt : (k : Int) < (v.length : Int) := by omega
  clear h1 hR
  go_enter Try.func98, Try.ntmps98
  go_wp2
  go_ret
  exact ⟨rfl, Below.refl _ _⟩
/-! ### A row of truth values in a block of its own -/
@[reducible] def bRow (l : List Bool) : Array Value := (l.map Value.bool).toArray
/-- What copy leaves in a row of truth values. -/
def over (xs ys : List Bool) (o : Nat) : List Bool := xs.take o ++ ys ++ xs.drop (o + ys.length)
theorem over_len {xs ys : List Bool} {o : Nat} (h : o + ys.length ≤ xs.length) : (over xs ys o).length = xs.length := by
  unfold over
  simp only [List.length_append, List.length_take, List.length_drop]
  omega
theorem RS.bools {w : World} {g : Nat} {l : List Bool} {c : Nat} (hc : l.length ≤ c) (hm : l.length ≤ 9223372036854775807) (h : w.heap[g]? = some (.cells (bRow l) 4 (0, 0))) : RS Kd.bool w (some ⟨g, 0, none⟩) c l :=
  RS.row hm hc (fun j p hj => ⟨[.bool p], rfl, rfl, fun i u hu => by
    cases i with
    | zero =>
      have e : Value.bool p = u := by simpa using hu
      subst e
      have h2 := blk_cell h j
      rw [show Kd.bool.sz = 1 from rfl, Nat.mul_one, Nat.add_zero, h2]
      simp [hj]
    | succ i => simp at hu⟩)
theorem copy_bools {ops : Array Oper} {rest : List Oper} {o : Oper} {a : Act} {Q : Exit → Act → World → Prop} {w0 W : World} (hgd : o.guard = none) (s x : Operand)
    (ho : o.op = .call { callee := .builtin .copy, args := #[s, x], argTypes := #[46, 46] }) (g off dl dc : Nat) (D : Option Addr) (xs ys : List Bool) (A : Option Addr) (c : Nat) (hs : a.eval s = .slice D dl dc) (hx : a.eval x = .slice A ys.length c)
    (HD : 0 < ys.length → D = some ⟨g, off, none⟩) (HL : ys.length ≤ dl) (HF : off + ys.length ≤ xs.length) (HG : w0.heap.size ≤ g) (HB : Below w0.heap.size w0 W) (HO : W.heap[g]? = some (.cells (bRow xs) 4 (0, 0))) (HR : RS Kd.bool W A c ys)
    (h : ∀ w1, w1.heap[g]? = some (.cells (bRow (over xs ys off)) 4 (0, 0)) → Below w0.heap.size w0 w1 → (∀ k, k ≠ g → w1.heap[k]? = W.heap[k]?) → w1.heap.size = W.heap.size → wpList Try.prog ops Q rest (a.put o.dst (.int .i64 (ys.length : Int))) w1) :
    wpList Try.prog ops Q (o :: rest) a W := by
  have fin : ∀ w1, (Builtin.copy_ #[46, 46] o.type #[.slice D dl dc, .slice A ys.length c]).run Try.prog W = .ok (goInt (ys.length : Int)) w1 → w1.heap[g]? = some (.cells (bRow (over xs ys off)) 4 (0, 0)) → Below w0.heap.size w0 w1 → (∀ k, k ≠ g → w1.heap[k]? = W.heap[k]?) → w1.heap.size = W.heap.size → wpList Try.prog ops Q (o :: rest) a W := by
    intro w1 hr h1 h2 h3 h4
    refine wpList_plain hgd fun K hK => ?_
    unfold Oper.wp execOp
    simp only [ho, resolve, invoke, builtin, Sem.run_bind, Sem.run_pure, Result.andThen_ok, List.map_toArray, List.map_cons, List.map_nil, hs, hx, hr]
    exact hK _ _ (h w1 h1 h2 h3 h4)
  have hinfo : (Try.prog.info? 4).map (·.size) = some 1 := by kernel_rfl
  by_cases h0 : ys.length = 0
  · have he : ys = [] := List.eq_nil_of_length_eq_zero h0
    refine fin W ?_ ?_ HB (fun _ _ => rfl) rfl
    · rw [h0]
      exact run_copy_none W _ _ _ 4 D A dl dc 0 c Try.underlying46 hinfo (by simp)
    · rw [he]; unfold over; simpa using HO
  · have hD := HD (by omega)
    subst hD
    obtain ⟨ad, hA, hc⟩ := HR.r.2.2 (by omega)
    have hkl : (ys.map Value.bool).length = ys.length := List.length_map ..
    have hsrc : ∀ j u, (ys.map Value.bool)[j]? = some u → W.cell? (ad.add j) = some u := by
      intro j u hu
      have hj : j < ys.length := by
        rcases Nat.lt_or_ge j ys.length with h | h
        · exact h
        · rw [List.getElem?_eq_none (by rw [hkl]; exact h)] at hu
          cases hu
      obtain ⟨ad2, e2, h2⟩ := at_bool HR.r j hj
      rw [hA] at e2
      cases e2
      rw [h2, ← hu]
      simp [hj]
    have hr := run_copy_cells (P := Try.prog) W 46 46 o.type 4 g off dl dc ad ys.length c (ys.map Value.bool) Try.underlying46 hinfo (by rw [hkl]; exact (Nat.min_eq_left HL).symm) hsrc
      (fun j hj => by rw [cell_of_row W g _ (bRow xs) 4 (0, 0) HO]; simp at hj ⊢; omega) (fun j _ => blk_frozen HO _) (by intro u hu; simp only [List.mem_map] at hu; obtain ⟨q, _, rfl⟩ := hu; rfl)
    obtain ⟨cur', h3, h4, h5⟩ := setCells_row (ys.map Value.bool) off W (bRow xs) HO (by simp; omega)
    obtain ⟨s1, s2, s3, s4⟩ := setCells_same g (ys.map Value.bool) off W
    have hfar : ∀ k, k ≠ g → (W.setCells g off (ys.map Value.bool)).heap[k]? = W.heap[k]? := fun k hk => setCells_far _ _ k hk
    refine fin _ (by rw [hA, hr, hkl]) ?_ ?_ hfar s4
    · rw [h3]
      have : cur' = bRow (over xs ys off) := by
        apply Array.ext'
        rw [h5]
        simp [over, List.map_take, List.map_drop]
      rw [this]
    · exact HB.trans ⟨s1, s2, s3, by rw [s4]; exact Nat.le_refl _, fun k hk => hfar k (by omega)⟩
end Go.Proofs.Ytlhiapggccgggaa.PH
