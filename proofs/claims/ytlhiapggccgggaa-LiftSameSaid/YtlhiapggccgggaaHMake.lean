/- preds.And, Not, Or. -/
import Derived.Test.YtlhiapggccgggaaHPackC
namespace Go.Proofs.Ytlhiapggccgggaa.PH
open Go.RowKit Go.Proofs.YtlhiapggccgggaaW.PrintWords Go.Proofs.YtlhiapggccgggaaW.PrintLast
set_option linter.unusedVariables false
set_option linter.unusedSimpArgs false

/-- What is put is literals; the gates are not too many. -/
theorem putR_lit {s first : Int} : ∀ (gs : List Gate) (own : List Int) (ands : List Gate) (full : Bool) (i : Int), (∀ x ∈ own, IsLit x) → 0 ≤ first → first + ands.length ≤ 1001 → gAnds s gs i = true → (own.length : Int) = s + i →
    (∀ x ∈ (putR first gs own ands full).1, IsLit x) ∧ ((putR first gs own ands full).1.length : Int) = s + i + gs.length ∧ first + (putR first gs own ands full).2.1.length ≤ 1001
  | [], own, ands, full, i, h1, _, h2, _, h3 => ⟨h1, by simp [putR]; omega, h2⟩
  | g :: gs, own, ands, full, i, h1, h0, h2, h4, h3 => by
    unfold gAnds at h4
    split at h4
    · cases h4
    split at h4
    · cases h4
    split at h4
    · cases h4
    have l0 := told_lit (l := g.f0) h1 (by omega) (by omega)
    have l1 := told_lit (l := g.f1) h1 (by omega) (by omega)
    have hl := andR_lit (full := full) (ands := ands) l0 l1 h0 h2
    rw [putR]
    have h5 := putR_lit (s := s) (first := first) gs (own ++ [(andR ands first full (told own g.f0) (told own g.f1)).2.2]) (andR ands first full (told own g.f0) (told own g.f1)).1 (andR ands first full (told own g.f0) (told own g.f1)).2.1 (i + 1)
      (fun x hx => by rcases List.mem_append.1 hx with h_ | h_; exact h1 x h_; exact (List.mem_singleton.1 h_) ▸ hl.1) h0 hl.2 h4 (by simp only [List.length_append, List.length_singleton]; omega)
    refine ⟨h5.1, ?_, h5.2.2⟩
    rw [h5.2.1]
    simp only [List.length_cons]
    omega
theorem putB_lit {p : Pr} {ls : List Int} {ands : List Gate} {first : Int} {full : Bool} (hls : ∀ x ∈ ls, IsLit x) (h0 : 0 ≤ first) (h1 : first + ands.length ≤ 1001) (hc : predCheck ls.length p = 0) :
    IsLit (putB p ls ands first full).2.2 ∧ first + (putB p ls ands first full).1.length ≤ 1001 := by
  have hp := predCheck_parts hc
  have h := putR_lit (s := 1 + ls.length) (first := first) p.f0 (0 :: ls) ands full 0 (fun x hx => by rcases List.mem_cons.1 hx with rfl | h_; exact ⟨by decide, by decide⟩; exact hls x h_) h0 h1 hp.2.2.1 (by simp only [List.length_cons]; omega)
  exact ⟨told_lit h.1 hp.2.2.2.1 (by have := hp.2.2.2.2; have := h.2.1; omega), h.2.2⟩
def boxB (n : Int) (p q : Pr) : List Gate × Bool × Int := putB q (ownLits n.toNat) p.f0 (n + 1) false
def andB (n : Int) (p q : Pr) : List Gate × Bool × Int := andR (boxB n p q).1 (n + 1) (boxB n p q).2.1 p.f1 (boxB n p q).2.2
/-- What preds.And answers. -/
def andP (n : Int) (p q : Pr) : Pr × Int := if twoErr n p q ≠ 0 then (zeroP, twoErr n p q) else predR (andB n p q).1 (andB n p q).2.1 (andB n p q).2.2
theorem two_ok {n : Int} {p q : Pr} (h : twoErr n p q = 0) : predCheck n p = 0 ∧ predCheck n q = 0 := by
  unfold twoErr at h
  split at h
  · rename_i h1; exact absurd h h1
  · rename_i h1; exact ⟨Classical.not_not.1 h1, h⟩
theorem own_lit {n : Int} (h0 : 0 ≤ n) (h1 : n ≤ 1000) : ∀ x ∈ ownLits n.toNat, IsLit x := fun x hx => by
  have := ownLits_mem hx
  constructor <;> omega
theorem boxB_lit {n : Int} {p q : Pr} (h : twoErr n p q = 0) : IsLit (boxB n p q).2.2 ∧ (n + 1) + (boxB n p q).1.length ≤ 1001 := by
  have h1 := two_ok h
  have h2 := predCheck_parts h1.1
  exact putB_lit (own_lit h2.1 (by omega)) (by omega) (by omega) (by rw [ownLits_len, Int.toNat_of_nonneg h2.1]; exact h1.2)
theorem lit_of_check {n : Int} {p : Pr} (h : predCheck n p = 0) : IsLit p.f1 := by
  have h2 := predCheck_parts h
  exact ⟨h2.2.2.2.1, by have := h2.2.2.2.2; have := h2.2.1; omega⟩
theorem andB_lit {n : Int} {p q : Pr} (h : twoErr n p q = 0) : IsLit (andB n p q).2.2 ∧ (n + 1) + (andB n p q).1.length ≤ 1001 := by
  have h1 := boxB_lit h
  exact andR_lit (lit_of_check (two_ok h).1) h1.1 (by have := (predCheck_parts (two_ok h).1).1; omega) h1.2
/-- What is boxed, and the result's cells. -/
structure AInv (w : World) (A : Option Addr) (k : Nat) (p : Pr) (B : Option Addr) (d : Nat) (q : Pr) (wr : World) : Prop where
  BW : Below w.heap.size w wr
  B0 : wr.heap[w.heap.size]? = some (.cells #[.slice A p.f0.length k, .int .i64 p.f1] 29 (0, 0))
  B1 : wr.heap[w.heap.size + 1]? = some (.cells #[.slice B q.f0.length d, .int .i64 q.f1] 29 (0, 0))
  B2 : wr.heap[w.heap.size + 2]? = some (.cells #[.slice none 0 0, .int .i64 0] 29 (0, 0))
theorem AInv.below {w : World} {A : Option Addr} {k : Nat} {p : Pr} {B : Option Addr} {d : Nat} {q : Pr} {wr w2 : World} (h : AInv w A k p B d q wr) {b : Nat} (hb : Below b wr w2) (hs : w.heap.size + 2 < b) : AInv w A k p B d q w2 :=
  ⟨h.BW.trans (hb.mono (by omega)), (hb.block _ (by omega)).trans h.B0, (hb.block _ (by omega)).trans h.B1, (hb.block _ (by omega)).trans h.B2⟩
theorem AInv.start (w : World) (A : Option Addr) (k : Nat) (p : Pr) (B : Option Addr) (d : Nat) (q : Pr) : AInv w A k p B d q (((w.alloc (.cells #[.slice A p.f0.length k, .int .i64 p.f1] 29)).alloc (.cells #[.slice B q.f0.length d, .int .i64 q.f1] 29)).alloc (.cells #[.slice none 0 0, .int .i64 0] 29)) :=
  ⟨below_alloc (below_alloc (below_alloc (Below.refl _ _) _) _) _, blk_alloc (blk_alloc (blk_new _ _) _) _, blk_alloc (by simpa using blk_new (w.alloc (.cells #[.slice A p.f0.length k, .int .i64 p.f1] 29)) (.cells #[.slice B q.f0.length d, .int .i64 q.f1] 29)) _,
    by simpa using blk_new ((w.alloc (.cells #[.slice A p.f0.length k, .int .i64 p.f1] 29)).alloc (.cells #[.slice B q.f0.length d, .int .i64 q.f1] 29)) (.cells #[.slice none 0 0, .int .i64 0] 29)⟩
set_option maxHeartbeats 4000000 in
set_option maxRecDepth 100000 in
theorem preds_And (n : Int) (A : Option Addr) (k : Nat) (p : Pr) (B : Option Addr) (d : Nat) (q : Pr) (w : World) (hp : RS kGate w A k p.f0) (hpf : p.Fits) (hq : RS kGate w B d q.f0) (hqf : q.Fits) :
    Calls Try.prog 44 #[.int .i64 n, pv A k p, pv B d q] w fun e w' => RetP w.heap.size w w' (andP n p q) e := by
  have H2 := Aside0.mk (fun W (hb : Below w.heap.size w W) => preds_two n A k p B d q W (hp.below hb) hpf (hq.below hb) hqf)
  have I0 := Aside0.mk (AInv.start w A k p B d q)
  have hu24 := Try.underlying29
  have hu83 := Try.underlying139
  have HP := Aside0.mk hp
  have HQ := Aside0.mk hq
  have HQF := Aside0.mk hqf
  have HPF := Aside0.mk hpf
  clear hp hq hpf hqf
  unfold andP
  by_cases h0 : twoErr n p q = 0
  case neg =>
    rw [if_pos h0]
    have hb : (twoErr n p q != 0) = true := bne_iff_ne.mpr h0
    clear h0
    obtain ⟨pa, pl⟩ := p
    obtain ⟨qa, ql⟩ := q
    dsimp only [pv] at *
    obtain ⟨r0, r1⟩ := (blk2w I0.out.B0).1
    obtain ⟨s0, s1⟩ := (blk2w I0.out.B1).1
    go_enter Try.func44, Try.ntmps44
    go_wp2_with fail
    refine (H2.out _ I0.out.BW).mono ?_
    rintro e w1 ⟨rfl, hb1⟩
    have I1 := Aside0.mk (I0.out.below hb1 (by simp))
    clear hb1 r0 r1 s0 s1
    obtain ⟨⟨r0, r1⟩, z0, z1⟩ := blk2w I1.out.B2
    go_wp2
    refine bodyPost_ret (results_ct rfl _ _ (w.heap.size + 2) 29 #[.slice none 0 0, .int .i64 0] (0, 0) _ rfl (blk2_set I1.out.B2 _ _) hu24 rfl (by kernel_rfl)) rfl ?_
    exact ⟨none, 0, rfl, Kd.R_nil _ _ _ _ _, below2 I1.out.BW (by omega) _ _⟩
  rw [if_neg (by rw [h0]; simp)]
  rw [h0] at H2
  have HT := Aside0.mk h0
  have HC := Aside0.mk (two_ok h0)
  have HPT := Aside0.mk (predCheck_parts (two_ok h0).1)
  have HBL := Aside0.mk (boxB_lit h0)
  have HPL := Aside0.mk (lit_of_check (two_ok h0).1)
  obtain ⟨R, hR⟩ : ∃ R, predR (andB n p q).1 (andB n p q).2.1 (andB n p q).2.2 = R := ⟨_, rfl⟩
  rw [hR]
  have HR := Aside0.mk hR
  clear hR h0
  obtain ⟨pa, pl⟩ := p
  obtain ⟨qa, ql⟩ := q
  dsimp only [pv] at *
  obtain ⟨r0, r1⟩ := (blk2w I0.out.B0).1
  obtain ⟨s0, s1⟩ := (blk2w I0.out.B1).1
  go_enter Try.func44, Try.ntmps44
  go_wp2_with fail
  refine (H2.out _ I0.out.BW).mono ?_
  rintro e w1 ⟨rfl, hb1⟩
  have I1 := Aside0.mk (I0.out.below hb1 (by simp))
  have HS1 := Aside0.mk (blk_lt I1.out.B2)
  clear hb1 r0 r1 s0 s1 I0
  obtain ⟨r0, r1⟩ := (blk2w I1.out.B0).1
  go_wp2_with fail
  refine (preds_over n A k pa _ (HP.out.below I1.out.BW) HPF.out.h HPT.out.1 (by have := HPT.out.2.1; omega)).mono ?_
  rintro e w2 ⟨gB, E, cap, rfl, hI, hg, hb2⟩
  have I2 := Aside0.mk (I1.out.below hb2 HS1.out)
  have BI := Aside0.mk hI
  have HGB := Aside0.mk hg
  have HSZ := Aside0.mk hb2.size
  generalize w1.heap.size = b0 at *
  clear hI hg hb2 I1 r0 r1
  go_wp2
  have I2d := Aside0.mk (I2.out.below ((below_drew (Below.refl w2.heap.size w2)).mono HSZ.out) HS1.out)
  obtain ⟨r0, r1⟩ := (blk2w I2.out.B0).1
  obtain ⟨s0, s1⟩ := (blk2w I2.out.B1).1
  refine start_ (n := 14) (S := (fun w' => w'.cell? ⟨w.heap.size, 1, none⟩ = some (.int .i64 pl) ∧ w'.cell? ⟨w.heap.size + 1, 0, none⟩ = some (.slice B qa.length d) ∧ w'.cell? ⟨w.heap.size + 1, 1, none⟩ = some (.int .i64 ql))) (ds := []) #[false, false, false, false, false, false, false, false, false, false, false, false, false, false] (by kernel_rfl) rfl rfl ⟨r1, s0, s1⟩ (fun hHeld => ?_)
  clear r0 r1 s0 s1
  refine pure_ (i := 0) (N := some 22) (v := ?_) (a' := ?_) #[true, false, false, false, false, false, false, false, false, false, false, false, false, false] rfl rfl (by kernel_rfl) (fun _ _ _ h => h) (Or.inl ⟨by rfl, ?_⟩) ?_ ?_
  rotate_left
  · intro w'
    go_simp
    with_reducible rfl
  rotate_left
  · simp only [Act.put, List.setIfInBounds_toArray, List.set_cons_zero, List.set_cons_succ]
    rfl
  refine pure_ (i := 1) (N := some 23) (v := ?_) (a' := ?_) #[true, true, false, false, false, false, false, false, false, false, false, false, false, false] rfl rfl (by kernel_rfl) (fun _ _ _ h => h) (Or.inl ⟨by rfl, ?_⟩) ?_ ?_
  rotate_left
  · intro w'
    go_simp
    with_reducible rfl
  rotate_left
  · simp only [Act.put, List.setIfInBounds_toArray, List.set_cons_zero, List.set_cons_succ]
    rfl
  refine pure_ (i := 2) (N := some 24) (v := ?_) (a' := ?_) #[true, true, true, false, false, false, false, false, false, false, false, false, false, false] rfl rfl (by kernel_rfl) (fun _ _ _ h => h) (Or.inl ⟨by rfl, ?_⟩) ?_ ?_
  rotate_left
  · intro w'
    go_simp
    with_reducible rfl
  rotate_left
  · simp only [Act.put, List.setIfInBounds_toArray, List.set_cons_zero, List.set_cons_succ]
    rfl
  refine take_ (i := 3) (N := some 25) (v := ?_) (a' := ?_) #[true, true, true, true, false, false, false, false, false, false, false, false, false, false] rfl rfl (by kernel_rfl) (fun _ _ _ h => h) (Or.inl ⟨by rfl, ?_⟩) hHeld ?_ ?_
  rotate_left
  · rintro w' ⟨s0, s1, s2⟩
    go_simp
    with_reducible rfl
  rotate_left
  · simp only [Act.put, List.setIfInBounds_toArray, List.set_cons_zero, List.set_cons_succ]
    rfl
  refine pure_ (i := 4) (N := some 26) (v := ?_) (a' := ?_) #[true, true, true, true, true, false, false, false, false, false, false, false, false, false] rfl rfl (by kernel_rfl) (fun _ _ _ h => h) (Or.inl ⟨by rfl, ?_⟩) ?_ ?_
  rotate_left
  · intro w'
    go_simp
    with_reducible rfl
  rotate_left
  · simp only [Act.put, List.setIfInBounds_toArray, List.set_cons_zero, List.set_cons_succ]
    rfl
  refine pure_ (i := 5) (N := some 27) (v := ?_) (a' := ?_) #[true, true, true, true, true, true, false, false, false, false, false, false, false, false] rfl rfl (by kernel_rfl) (fun _ _ _ h => h) (Or.inl ⟨by rfl, ?_⟩) ?_ ?_
  rotate_left
  · intro w'
    go_simp
    with_reducible rfl
  rotate_left
  · simp only [Act.put, List.setIfInBounds_toArray, List.set_cons_zero, List.set_cons_succ]
    rfl
  refine take_ (i := 6) (N := some 28) (v := ?_) (a' := ?_) #[true, true, true, true, true, true, true, false, false, false, false, false, false, false] rfl rfl (by kernel_rfl) (fun _ _ _ h => h) (Or.inl ⟨by rfl, ?_⟩) hHeld ?_ ?_
  rotate_left
  · rintro w' ⟨s0, s1, s2⟩
    go_simp
    with_reducible rfl
  rotate_left
  · simp only [Act.put, List.setIfInBounds_toArray, List.set_cons_zero, List.set_cons_succ]
    rfl
  refine one_ (i := 7) (N := some 29) #[true, true, true, true, true, true, true, true, false, false, false, false, false, false] rfl rfl (by kernel_rfl) (by decide) (fun K hK => ?_)
  refine goes_ Try.func74 (by kernel_rfl) rfl #[.pointer (some ⟨gB, 0, none⟩), .int .i64 n, .agg #[.slice B qa.length d, .int .i64 ql]] (by rfl) rfl rfl (by simp only [List.map_toArray, List.map_cons, List.map_nil] <;> rfl) ?_
  refine (builder_put b0 gB E cap pa (n + 1) 92 #[] false B d ⟨qa, ql⟩ (ownLits n.toNat) n w2.drew (by rw [ownLits_len]; have := HPT.out.1; omega) ⟨blk_drew BI.out.BB, Kd.R_drew BI.out.RR⟩ HSZ.out HGB.out (by have := HPT.out.1; omega) (by have h_ : n + (pa.length : Int) ≤ 1000 := HPT.out.2.1; omega)
    (fun W hW => HQ.out.below (I2d.out.BW.trans (hW.mono (by have := HS1.out; omega)))) HQF.out (by rw [ownLits_len, Int.toNat_of_nonneg HPT.out.1]; exact HC.out.2) (own_lit HPT.out.1 (by have := HPT.out.2.1; omega)) (enters_fn Try.func92 (by kernel_rfl) rfl)
    (fun W _ _ v hv => by
      have h_ := preds_over1 ((v + 1 : Nat) : Int) W (by omega) (by rw [ownLits_len] at hv; have := HPT.out.2.1; omega)
      rw [ownLits_get]
      exact h_)).mono ?_
  rintro e w5 hRB
  have hBL := HBL.out
  have hRd := HR.out
  unfold andB at hRd
  have hRB' : RetB b0 gB E pa.length cap (n + 1) (.func (.func 92) #[] #[]) (boxB n ⟨pa, pl⟩ ⟨qa, ql⟩) w2.drew w5 e := hRB
  clear hRB
  generalize boxB n ⟨pa, pl⟩ ⟨qa, ql⟩ = r at *
  obtain ⟨rfl, ⟨E5, c5, J5, _⟩, hB5, _⟩ := hRB'
  refine ⟨_, rfl, ?_⟩
  have J5 := Aside0.mk J5
  have I5 := Aside0.mk (I2d.out.below hB5 HS1.out)
  have S5 := Aside0.mk (Nat.le_trans HSZ.out (show w2.heap.size ≤ w5.heap.size from hB5.size))
  clear hB5
  have L5 := Aside0.mk hBL
  have HR5 := Aside0.mk hRd
  clear hBL hRd
  refine hK.out _ _ ⟨(blk2w I5.out.B0).1.2, (blk2w I5.out.B1).1⟩ (fun hHeld => ?_)
  clear hK K
  refine norm_ (a' := ?_) ?_ ?_
  rotate_left
  · show Act.put _ (some 29) _ = _
    simp only [Act.put, List.setIfInBounds_toArray, List.set_cons_zero, List.set_cons_succ]
    rfl
  refine one_ (i := 8) (N := some 30) #[true, true, true, true, true, true, true, true, true, false, false, false, false, false] rfl rfl (by kernel_rfl) (by decide) (fun K hK => ?_)
  refine goes_ Try.func73 (by kernel_rfl) rfl #[.pointer (some ⟨gB, 0, none⟩), .int .i64 pl, .int .i64 r.2.2] (by rfl) rfl rfl (by simp only [List.map_toArray, List.map_cons, List.map_nil] <;> rfl) ?_
  refine (builder_and b0 gB E5 c5 r.1 (n + 1) _ r.2.1 pl r.2.2 w5 HPL.out L5.out.1 J5.out S5.out HGB.out (by have := HPT.out.1; omega) (by have := HPT.out.2.1; have := HPT.out.1; omega) (by have := L5.out.2; have := HPT.out.1; omega)).mono ?_
  rintro e w6 hRB
  generalize andR r.1 (n + 1) r.2.1 pl r.2.2 = r6 at *
  obtain ⟨rfl, ⟨E6, c6, J6, _⟩, hB6, _⟩ := hRB
  refine ⟨_, rfl, ?_⟩
  have J6 := Aside0.mk J6
  have I6 := Aside0.mk (I5.out.below hB6 HS1.out)
  have S6 := Aside0.mk (Nat.le_trans S5.out hB6.size)
  clear hB6
  refine hK.out _ _ ⟨(blk2w I6.out.B0).1.2, (blk2w I6.out.B1).1⟩ (fun hHeld => ?_)
  clear hK K
  refine norm_ (a' := ?_) ?_ ?_
  rotate_left
  · show Act.put _ (some 30) _ = _
    simp only [Act.put, List.setIfInBounds_toArray, List.set_cons_zero, List.set_cons_succ]
    rfl
  refine one_ (i := 9) (N := some 31) #[true, true, true, true, true, true, true, true, true, true, false, false, false, false] rfl rfl (by kernel_rfl) (by decide) (fun K hK => ?_)
  refine goes_ Try.func72 (by kernel_rfl) rfl #[.pointer (some ⟨gB, 0, none⟩), .int .i64 r6.2.2] (by rfl) rfl rfl (by simp only [List.map_toArray, List.map_cons, List.map_nil] <;> rfl) ?_
  refine (builder_pred b0 gB E6 c6 r6.1 (n + 1) _ r6.2.1 r6.2.2 w6 J6.out).mono ?_
  rintro e w7 ⟨A7, k7, rfl, hr7, hb7⟩
  rw [HR5.out] at hr7
  refine ⟨_, rfl, ?_⟩
  rw [HR5.out]
  have I7 := Aside0.mk (I6.out.below hb7 (Nat.lt_of_lt_of_le HS1.out S6.out))
  have R7_ := Aside0.mk hr7
  clear hr7 hb7
  refine hK.out _ _ ⟨(blk2w I7.out.B0).1.2, (blk2w I7.out.B1).1⟩ (fun hHeld => ?_)
  clear hK K
  refine norm_ (a' := ?_) ?_ ?_
  rotate_left
  · show Act.put _ (some 31) _ = _
    simp only [Act.put, List.setIfInBounds_toArray, List.set_cons_zero, List.set_cons_succ]
    rfl
  refine pure_ (i := 10) (N := some 32) (v := ?_) (a' := ?_) #[true, true, true, true, true, true, true, true, true, true, true, false, false, false] rfl rfl (by kernel_rfl) (fun _ _ _ h => h) (Or.inl ⟨by rfl, ?_⟩) ?_ ?_
  rotate_left
  · intro w'
    go_simp
    with_reducible rfl
  rotate_left
  · simp only [Act.put, List.setIfInBounds_toArray, List.set_cons_zero, List.set_cons_succ]
    rfl
  refine pure_ (i := 11) (N := some 33) (v := ?_) (a' := ?_) #[true, true, true, true, true, true, true, true, true, true, true, true, false, false] rfl rfl (by kernel_rfl) (fun _ _ _ h => h) (Or.inl ⟨by rfl, ?_⟩) ?_ ?_
  rotate_left
  · intro w'
    go_simp
    with_reducible rfl
  rotate_left
  · simp only [Act.put, List.setIfInBounds_toArray, List.set_cons_zero, List.set_cons_succ]
    rfl
  obtain ⟨⟨t0, t1⟩, y0, y1⟩ := blk2w I7.out.B2
  refine one_ (i := 12) (N := none) #[true, true, true, true, true, true, true, true, true, true, true, true, true, false] rfl rfl (by kernel_rfl) (by decide) (fun K hK => ?_)
  refine skip_ (w1 := ?_) (by rfl) rfl ?_ ?_
  rotate_left
  · go_simp
    rfl
  have q8 := far2 I7.out.B0 (show w.heap.size ≠ w.heap.size + 2 by omega) (.slice A7 R.1.f0.length k7) (.int .i64 R.1.f1)
  have q9 := far2 I7.out.B1 (show w.heap.size + 1 ≠ w.heap.size + 2 by omega) (.slice A7 R.1.f0.length k7) (.int .i64 R.1.f1)
  refine hK.out _ _ ⟨(blk2w q8).1.2, (blk2w q9).1⟩ (fun hHeld => ?_)
  clear hK K
  refine pure_ (i := 13) (N := some 7) (v := ?_) (a' := ?_) #[true, true, true, true, true, true, true, true, true, true, true, true, true, true] rfl rfl (by kernel_rfl) (fun _ _ _ h => h) (Or.inl ⟨by rfl, ?_⟩) ?_ ?_
  rotate_left
  · intro w'
    go_simp
    with_reducible rfl
  rotate_left
  · simp only [Act.put, List.setIfInBounds_toArray, List.set_cons_zero, List.set_cons_succ]
    rfl
  refine done_ (by kernel_rfl) ?_
  clear q8 q9 t0 t1 y0 y1
  go_wp2
  refine bodyPost_ret (results_ct rfl _ _ (w.heap.size + 2) 29 #[.slice A7 R.1.f0.length k7, .int .i64 R.1.f1] (0, 0) _ rfl (blk2_set I7.out.B2 _ _) hu24 rfl (by kernel_rfl)) rfl ?_
  exact ⟨A7, k7, rfl, R2 (Kd.R_lower R7_.out (by have := HS1.out; omega)) I7.out.B2 (by decide) _ _, below2 I7.out.BW (by omega) _ _⟩
end Go.Proofs.Ytlhiapggccgggaa.PH
