/- The law PredsOrder: its function answers true. -/
import Derived.Test.YtgcdanpihaeioaaHHeads
namespace Go.Proofs.Ytgcdanpihaeioaa.PH
open Go.RowKit Go.Proofs.YtgcdanpihaeioaaW.PrintWords Go.Proofs.YtgcdanpihaeioaaW.PrintLast
set_option linter.unusedVariables false
set_option linter.unusedSimpArgs false

set_option maxHeartbeats 8000000 in
set_option maxRecDepth 100000 in
theorem law_PredsOrder (A : Option Addr × Nat) (p : Pr) (B : Option Addr × Nat) (q : Pr) (D : Option Addr × Nat) (st : List Bool) (C : Option Addr × Nat) (l : List (List Int)) (f : Int) (w : World) (hp : RS kGate w A.1 A.2 p.f0) (hq : RS kGate w B.1 B.2 q.f0) (hs : RS Kd.bool w D.1 D.2 st) (hl : RS (Kd.slice 3 (Kd.int .i64)) w C.1 C.2 l) (np : p.Nums) (nq : q.Nums) (ns : ∀ x ∈ st, True) (nl : ∀ r ∈ l, ∀ x ∈ r, I64 x) (nf : I64 f) :
    Calls Try.prog 7 #[pv A.1 A.2 p, pv B.1 B.2 q, .slice D.1 st.length D.2, .slice C.1 l.length C.2, .int .i64 f] w fun e w' => e = .returned (.bool true) ∧ Below w.heap.size w w' := by
  obtain ⟨A, k⟩ := A
  obtain ⟨B, d⟩ := B
  obtain ⟨D, c⟩ := D
  obtain ⟨C, cc⟩ := C
  have HP := Aside0.mk hp
  have HQ := Aside0.mk hq
  have HS := Aside0.mk hs
  have HL := Aside0.mk hl
  have NP := Aside0.mk np
  have NQ := Aside0.mk nq
  have NL := Aside0.mk nl
  have hu24 := Try.underlying24
  have I0 := Aside0.mk (WInv.start w A k p B d q)
  have HGR := Aside0.mk (fun W => law24_great st.length A k p B d q W)
  obtain ⟨pa, pl⟩ := p
  obtain ⟨qa, ql⟩ := q
  clear hp hq hs hl np nq ns nl nf
  dsimp only [pv] at *
  go_enter Try.func7, Try.ntmps7
  go_wp2_with fail
  refine (law24_alive _).mono ?_
  rintro e w0 ⟨rfl, hb0⟩
  have I := Aside0.mk (I0.out.below hb0)
  clear hb0 I0
  by_cases h40 : 40 < (st.length : Int)
  · have h40n : 40 < st.length := by omega
    have h40d : decide (40 < st.length) = true := decide_eq_true h40n
    go_wp2
    go_ret
    exact ⟨rfl, I.out.BW⟩
  have h40n : ¬ 40 < st.length := by omega
  have h40d : decide (40 < st.length) = false := decide_eq_false h40n
  have H40 := Aside0.mk h40n
  obtain ⟨r0, r1⟩ := (blk2w I.out.B0).1
  obtain ⟨s0, s1⟩ := (blk2w I.out.B1).1
  go_wp2_with fail
  refine (HGR.out _).mono ?_
  rintro e w1 ⟨b1, rfl, hG1, hb1⟩
  have I := Aside0.mk (I.out.below hb1)
  have HG1 := Aside0.mk hG1
  clear hb1 hG1 r0 r1 s0 s1 HGR
  cases b1 with
  | true =>
    go_wp2
    go_ret
    exact ⟨rfl, I.out.BW⟩
  | false =>
  have HSM := Aside0.mk (HG1.out rfl)
  have FP := Aside0.mk (small_fits NP.out HSM.out.1)
  have FQ := Aside0.mk (small_fits NQ.out HSM.out.2.1)
  obtain ⟨r0, r1⟩ := (blk2w I.out.B0).1
  obtain ⟨s0, s1⟩ := (blk2w I.out.B1).1
  go_wp2_with fail
  refine (ref24_Two st.length A k ⟨pa, pl⟩ B d ⟨qa, ql⟩ _ (HP.out.below I.out.BW) FP.out (HQ.out.below I.out.BW) FQ.out).mono ?_
  rintro e w2 ⟨rfl, hb2⟩
  have I := Aside0.mk (I.out.below hb2)
  clear hb2 r0 r1 s0 s1
  by_cases h2 : twoErr st.length ⟨pa, pl⟩ ⟨qa, ql⟩ = 0
  case neg =>
    have h2b : (twoErr st.length ⟨pa, pl⟩ ⟨qa, ql⟩ != 0) = true := bne_iff_ne.mpr h2
    clear h2
    go_wp2
    go_ret
    exact ⟨rfl, I.out.BW⟩
  rw [h2]
  have H2 := Aside0.mk h2
  clear h2
  go_wp2_with fail
  refine (ref15_Great C cc l _ (HL.out.below I.out.BW)).mono ?_
  rintro e w3 ⟨b3, rfl, hG3, hb3⟩
  have I := Aside0.mk (I.out.below hb3)
  have HG3 := Aside0.mk hG3
  clear hb3 hG3
  cases b3 with
  | true =>
    go_wp2
    go_ret
    exact ⟨rfl, I.out.BW⟩
  | false =>
  have H60 := Aside0.mk (HG3.out rfl).1
  go_wp2_with fail
  refine (ref15_Wrong st.length C cc l _ (HL.out.below I.out.BW) NL.out).mono ?_
  rintro e w4 ⟨n4, rfl, hR4, hb4⟩
  have I := Aside0.mk (I.out.below hb4)
  have HW := Aside0.mk hR4
  clear hb4 hR4
  by_cases hn4 : n4 = 0
  case neg =>
    have hn4b : (n4 != 0) = true := bne_iff_ne.mpr hn4
    clear hn4
    go_wp2
    go_ret
    exact ⟨rfl, I.out.BW⟩
  have HRC := Aside0.mk (HW.out hn4)
  subst hn4
  by_cases hf0 : f < 0
  · have hf0d : decide (f < 0) = true := decide_eq_true hf0
    go_wp2
    go_ret
    exact ⟨rfl, I.out.BW⟩
  obtain ⟨m, rfl⟩ := Int.eq_ofNat_of_zero_le (by omega : 0 ≤ f)
  have hf0d : decide ((m : Int) < 0) = false := decide_eq_false hf0
  by_cases hf1 : l.length < m
  · have hf1i : (l.length : Int) < (m : Int) := by omega
    have hf1d : decide (l.length < m) = true := decide_eq_true hf1
    go_wp2
    go_ret
    exact ⟨rfl, I.out.BW⟩
  have hf1i : ¬ (l.length : Int) < (m : Int) := by omega
  have hf1d : decide (l.length < m) = false := decide_eq_false hf1
  have HM := Aside0.mk (show m ≤ l.length by omega)
  have HH := Aside0.mk (show st.length + pa.length + qa.length + 1 ≤ 1000 by
    have h3 := (predCheck_parts (two_ok H2.out).1).2.1
    have h4 := (predCheck_parts (two_ok H2.out).2).2.1
    have h5 := HSM.out.1
    have h6 := HSM.out.2.1
    have h7 := H40.out
    unfold smallP at h5 h6
    dsimp only at h3 h4 h5 h6
    omega)
  obtain ⟨x1, e1, c1, v1⟩ := val_and (st := st) H2.out HH.out
  obtain ⟨x2, e2, c2, v2⟩ := val_and (st := st) (two_swap H2.out) (by have := HH.out; dsimp only; omega)
  obtain ⟨x3, e3, c3, v3⟩ := val_or (st := st) H2.out HH.out
  obtain ⟨x4, e4, c4, v4⟩ := val_or (st := st) (two_swap H2.out) (by have := HH.out; dsimp only; omega)
  have V12 := Aside0.mk (And.intro c1 (And.intro c2 (v1.trans ((Bool.and_comm _ _).trans v2.symm))))
  have V34 := Aside0.mk (And.intro c3 (And.intro c4 (v3.trans ((Bool.or_comm _ _).trans v4.symm))))
  have HE1 := Aside0.mk e1
  have HE2 := Aside0.mk e2
  have HE3 := Aside0.mk e3
  have HE4 := Aside0.mk e4
  clear e1 e2 e3 e4 c1 c2 c3 c4 v1 v2 v3 v4
  obtain ⟨r0, r1⟩ := (blk2w I.out.B0).1
  obtain ⟨s0, s1⟩ := (blk2w I.out.B1).1
  go_wp2_with fail
  refine (preds_And st.length A k ⟨pa, pl⟩ B d ⟨qa, ql⟩ _ (HP.out.below I.out.BW) FP.out (HQ.out.below I.out.BW) FQ.out).mono ?_
  rintro e w1' ⟨A1, k1, rfl, hr, hb⟩
  rw [HE1.out] at hr ⊢
  have I := Aside0.mk (I.out.below hb)
  have hr := RS.of_R' hr
  dsimp only at hr
  have hb' := below_alloc (Below.refl w1'.heap.size w1') (.cells #[.slice A1 x1.f0.length k1, .int .i64 x1.f1] 24)
  have K1 : Aside0 (PK w1'.heap.size A1 k1 x1 _) := ⟨⟨blk_new w1' (.cells #[.slice A1 x1.f0.length k1, .int .i64 x1.f1] 24), hr.below hb'⟩⟩
  have I := Aside0.mk (I.out.below hb')
  clear hr hb hb' r0 r1 s0 s1
  obtain ⟨r0, r1⟩ := (blk2w I.out.B0).1
  obtain ⟨s0, s1⟩ := (blk2w I.out.B1).1
  go_wp2_with fail
  refine (preds_And st.length B d ⟨qa, ql⟩ A k ⟨pa, pl⟩ _ (HQ.out.below I.out.BW) FQ.out (HP.out.below I.out.BW) FP.out).mono ?_
  rintro e w2' ⟨A2, k2, rfl, hr, hb⟩
  rw [HE2.out] at hr ⊢
  have I := Aside0.mk (I.out.below hb)
  have K1 := Aside0.mk (K1.out.below hb)
  have hr := RS.of_R' hr
  dsimp only at hr
  have hb' := below_alloc (Below.refl w2'.heap.size w2') (.cells #[.slice A2 x2.f0.length k2, .int .i64 x2.f1] 24)
  have K2 : Aside0 (PK w2'.heap.size A2 k2 x2 _) := ⟨⟨blk_new w2' (.cells #[.slice A2 x2.f0.length k2, .int .i64 x2.f1] 24), hr.below hb'⟩⟩
  have I := Aside0.mk (I.out.below hb')
  have K1 := Aside0.mk (K1.out.below hb')
  clear hr hb hb' r0 r1 s0 s1
  obtain ⟨r0, r1⟩ := (blk2w I.out.B0).1
  obtain ⟨s0, s1⟩ := (blk2w I.out.B1).1
  go_wp2_with fail
  refine (preds_Or st.length A k ⟨pa, pl⟩ B d ⟨qa, ql⟩ _ (HP.out.below I.out.BW) FP.out (HQ.out.below I.out.BW) FQ.out).mono ?_
  rintro e w3' ⟨A3, k3, rfl, hr, hb⟩
  rw [HE3.out] at hr ⊢
  have I := Aside0.mk (I.out.below hb)
  have K1 := Aside0.mk (K1.out.below hb)
  have K2 := Aside0.mk (K2.out.below hb)
  have hr := RS.of_R' hr
  dsimp only at hr
  have hb' := below_alloc (Below.refl w3'.heap.size w3') (.cells #[.slice A3 x3.f0.length k3, .int .i64 x3.f1] 24)
  have K3 : Aside0 (PK w3'.heap.size A3 k3 x3 _) := ⟨⟨blk_new w3' (.cells #[.slice A3 x3.f0.length k3, .int .i64 x3.f1] 24), hr.below hb'⟩⟩
  have I := Aside0.mk (I.out.below hb')
  have K1 := Aside0.mk (K1.out.below hb')
  have K2 := Aside0.mk (K2.out.below hb')
  clear hr hb hb' r0 r1 s0 s1
  obtain ⟨r0, r1⟩ := (blk2w I.out.B0).1
  obtain ⟨s0, s1⟩ := (blk2w I.out.B1).1
  go_wp2_with fail
  refine (preds_Or st.length B d ⟨qa, ql⟩ A k ⟨pa, pl⟩ _ (HQ.out.below I.out.BW) FQ.out (HP.out.below I.out.BW) FP.out).mono ?_
  rintro e w4' ⟨A4, k4, rfl, hr, hb⟩
  rw [HE4.out] at hr ⊢
  have I := Aside0.mk (I.out.below hb)
  have K1 := Aside0.mk (K1.out.below hb)
  have K2 := Aside0.mk (K2.out.below hb)
  have K3 := Aside0.mk (K3.out.below hb)
  have hr := RS.of_R' hr
  dsimp only at hr
  have hb' := below_alloc (Below.refl w4'.heap.size w4') (.cells #[.slice A4 x4.f0.length k4, .int .i64 x4.f1] 24)
  have K4 : Aside0 (PK w4'.heap.size A4 k4 x4 _) := ⟨⟨blk_new w4' (.cells #[.slice A4 x4.f0.length k4, .int .i64 x4.f1] 24), hr.below hb'⟩⟩
  have I := Aside0.mk (I.out.below hb')
  have K1 := Aside0.mk (K1.out.below hb')
  have K2 := Aside0.mk (K2.out.below hb')
  have K3 := Aside0.mk (K3.out.below hb')
  clear hr hb hb' r0 r1 s0 s1
  generalize w1'.heap.size = g1 at *
  generalize w2'.heap.size = g2 at *
  generalize w3'.heap.size = g3 at *
  obtain ⟨r0, r1⟩ := (blk2w K1.out.b).1
  obtain ⟨s0, s1⟩ := (blk2w K2.out.b).1
  go_wp2_with fail
  refine (law24_same A1 k1 x1 A2 k2 x2 D c st _ K1.out.r K2.out.r (HS.out.below I.out.BW) V12.out.1 V12.out.2.1 V12.out.2.2).mono ?_
  rintro e w5' ⟨rfl, hb⟩
  have I := Aside0.mk (I.out.below hb)
  have K3 := Aside0.mk (K3.out.below hb)
  have K4 := Aside0.mk (K4.out.below hb)
  clear hb r0 r1 s0 s1
  obtain ⟨r0, r1⟩ := (blk2w K3.out.b).1
  obtain ⟨s0, s1⟩ := (blk2w K4.out.b).1
  go_wp2_with fail
  refine (law24_same A3 k3 x3 A4 k4 x4 D c st _ K3.out.r K4.out.r (HS.out.below I.out.BW) V34.out.1 V34.out.2.1 V34.out.2.2).mono ?_
  rintro e w5' ⟨rfl, hb⟩
  have I := Aside0.mk (I.out.below hb)
  have K3 := Aside0.mk (K3.out.below hb)
  have K4 := Aside0.mk (K4.out.below hb)
  clear hb r0 r1 s0 s1
  clear K1 K2 K3 K4 V12 V34 HE1 HE2 HE3 HE4
  have HCV5 := Aside0.mk (clauses_val (st := st) (l := l) (by have := H40.out; omega) (by have := H60.out; omega) HRC.out)
  have HCV6 := Aside0.mk (clauses_val (st := st) (l := l.drop m ++ l.take m) (by have := H40.out; omega) (by have := H60.out; have := HM.out; simp only [List.length_append, List.length_drop, List.length_take]; omega) (rightC_swap _ _ _ HRC.out))
  have HPC := Aside0.mk (preds_Clauses st.length C cc l)
  obtain ⟨r5, hr5⟩ : ∃ r, clausesP st.length l = r := ⟨_, rfl⟩
  rw [hr5] at HPC HCV5
  clear hr5
  go_wp2_with fail
  refine (HPC.out _ (HL.out.below I.out.BW) NL.out).mono ?_
  rintro e w6 ⟨A5, k5, rfl, hr, hb⟩
  have I := Aside0.mk (I.out.below hb)
  have hr := RS.of_R' hr
  have hb' := below_alloc (Below.refl w6.heap.size w6) (.cells #[.slice A5 r5.1.f0.length k5, .int .i64 r5.1.f1] 24)
  have K5 : Aside0 (PK w6.heap.size A5 k5 r5.1 _) := ⟨⟨blk_new w6 (.cells #[.slice A5 r5.1.f0.length k5, .int .i64 r5.1.f1] 24), hr.below hb'⟩⟩
  have I := Aside0.mk (I.out.below hb')
  clear hr hb hb' HPC
  go_wp2
  generalize w6.alloc (.cells #[.slice A5 r5.1.f0.length k5, .int .i64 r5.1.f1] 24) = wr at *
  generalize w6.heap.size = g5 at *
  obtain ⟨hs, hhr, hhd⟩ := Hd.of (HL.out.below I.out.BW)
  have HHR := Aside0.mk hhr
  have HHD := Aside0.mk hhd
  clear hhr hhd
  have hm0 : 0 ≤ (m : Int) := by omega
  have hm1 : (m : Int) ≤ (l.length : Int) := by have := HM.out; omega
  have hm2 : (m : Int) ≤ (cc : Int) := by have := HM.out; have := HL.out.h; omega
  refine start_ (n := 17) (S := (fun w' => True)) (ds := []) #[false, false, false, false, false, false, false, false, false, false, false, false, false, false, false, false, false] (by kernel_rfl) rfl rfl trivial (fun hHeld => ?_)
  refine pure_ (i := 0) (N := some 131) (v := ?_) (a' := ?_) #[true, false, false, false, false, false, false, false, false, false, false, false, false, false, false, false, false] rfl rfl (by kernel_rfl) (fun _ _ _ h => h) (Or.inl ⟨by rfl, ?_⟩) ?_ ?_
  rotate_left
  · intro w'
    go_simp
    with_reducible rfl
  rotate_left
  · simp only [Act.put, List.setIfInBounds_toArray, List.set_cons_zero, List.set_cons_succ]
    rfl
  refine pure_ (i := 2) (N := some 133) (v := ?_) (a' := ?_) #[true, false, true, false, false, false, false, false, false, false, false, false, false, false, false, false, false] rfl rfl (by kernel_rfl) (fun _ _ _ h => h) (Or.inl ⟨by rfl, ?_⟩) ?_ ?_
  rotate_left
  · intro w'
    go_simp
    with_reducible rfl
  rotate_left
  · simp only [Act.put, List.setIfInBounds_toArray, List.set_cons_zero, List.set_cons_succ]
    rfl
  refine pure_ (i := 3) (N := some 134) (v := ?_) (a' := ?_) #[true, false, true, true, false, false, false, false, false, false, false, false, false, false, false, false, false] rfl rfl (by kernel_rfl) (fun _ _ _ h => h) (Or.inl ⟨by rfl, ?_⟩) ?_ ?_
  rotate_left
  · intro w'
    go_simp
    with_reducible rfl
  rotate_left
  · simp only [Act.put, List.setIfInBounds_toArray, List.set_cons_zero, List.set_cons_succ]
    rfl
  refine pure_ (i := 4) (N := some 135) (v := ?_) (a' := ?_) #[true, false, true, true, true, false, false, false, false, false, false, false, false, false, false, false, false] rfl rfl (by kernel_rfl) (fun _ _ _ h => h) (Or.inl ⟨by rfl, ?_⟩) ?_ ?_
  rotate_left
  · intro w'
    go_simp
    with_reducible rfl
  rotate_left
  · simp only [Act.put, List.setIfInBounds_toArray, List.set_cons_zero, List.set_cons_succ]
    rfl
  refine pure_ (i := 6) (N := some 137) (v := ?_) (a' := ?_) #[true, false, true, true, true, false, true, false, false, false, false, false, false, false, false, false, false] rfl rfl (by kernel_rfl) (fun _ _ _ h => h) (Or.inl ⟨by rfl, ?_⟩) ?_ ?_
  rotate_left
  · intro w'
    go_simp
    with_reducible rfl
  rotate_left
  · simp only [Act.put, List.setIfInBounds_toArray, List.set_cons_zero, List.set_cons_succ]
    rfl
  refine pure_ (i := 7) (N := some 138) (v := ?_) (a' := ?_) #[true, false, true, true, true, false, true, true, false, false, false, false, false, false, false, false, false] rfl rfl (by kernel_rfl) (fun _ _ _ h => h) (Or.inl ⟨by rfl, ?_⟩) ?_ ?_
  rotate_left
  · intro w'
    go_simp
    with_reducible rfl
  rotate_left
  · simp only [Act.put, List.setIfInBounds_toArray, List.set_cons_zero, List.set_cons_succ]
    rfl
  refine pure_ (i := 8) (N := some 139) (v := ?_) (a' := ?_) #[true, false, true, true, true, false, true, true, true, false, false, false, false, false, false, false, false] rfl rfl (by kernel_rfl) (fun _ _ _ h => h) (Or.inl ⟨by rfl, ?_⟩) ?_ ?_
  rotate_left
  · intro w'
    go_simp
    with_reducible rfl
  rotate_left
  · simp only [Act.put, List.setIfInBounds_toArray, List.set_cons_zero, List.set_cons_succ]
    rfl
  obtain ⟨r6, hr6⟩ : ∃ r, clausesP st.length (l.drop m ++ l.take m) = r := ⟨_, rfl⟩
  rw [hr6] at HCV6
  have HR6 := Aside0.mk hr6
  clear hr6
  have W := Aside0.mk (below_drew (Below.refl wr.heap.size wr))
  have HLEN := Aside0.mk (show (hs.drop m ++ hs.take m).length = (l.drop m ++ l.take m).length by have := HHD.out.n; simp only [List.length_append, List.length_drop, List.length_take, this])
  have HCD := Aside0.mk (fun V (hV : Below wr.heap.size wr V) => (by
    have h_ := Kd.C_drop (k := kHd) (w := V) (A := C) (xs := hs) (c := cc) (m := m) (Kd.C_below HHR.out.r hV) (by have := HHD.out.n; have := HM.out; omega) HHR.out.h
    rw [show kHd.sz = 1 from rfl, Nat.mul_one, List.length_drop, HHD.out.n] at h_
    exact h_ : Kd.C kHd V (if cc = m then C else Option.map (fun x => x.add m) C) (l.length - m) (hs.drop m)))
  have HCT := Aside0.mk (fun V (hV : Below wr.heap.size wr V) => (by
    have h_ := Kd.C_take (k := kHd) (w := V) (A := C) (xs := hs) (m := m) (Kd.C_below HHR.out.r hV) (by have := HHD.out.n; have := HM.out; omega)
    rw [List.length_take, HHD.out.n, Nat.min_eq_left HM.out] at h_
    exact h_ : Kd.C kHd V C m (hs.take m)))
  have HHA := Aside0.mk (fun V (hV : Below wr.heap.size wr V) => Hd.append ((HHD.out.below hV).drop m) ((HHD.out.below hV).take m))
  have NLS := Aside0.mk (show ∀ r ∈ l.drop m ++ l.take m, ∀ x ∈ r, I64 x from fun r hr => by
    rcases List.mem_append.1 hr with h_ | h_
    · exact NL.out r (List.mem_of_mem_drop h_)
    · exact NL.out r (List.mem_of_mem_take h_))
  refine join_ (fuel' := 2) #[true, true, true, true, true, true, true, true, true, true, true, true, true, true, true, false, false] (fun s : Value × Head × Head × (Option Addr × Nat) × Nat => [(132, s.1), (136, .slice s.2.1.1 s.2.1.2.1 s.2.1.2.2), (140, .slice s.2.2.1.1 s.2.2.1.2.1 s.2.2.1.2.2), (141, .tuple #[pv s.2.2.2.1.1 s.2.2.2.1.2 r6.1, .int .i64 r6.2]), (130, .tuple #[pv s.2.2.2.1.1 s.2.2.2.1.2 r6.1, .int .i64 r6.2]), (142, pv s.2.2.2.1.1 s.2.2.2.1.2 r6.1), (143, .int .i64 r6.2), (23, .pointer (some ⟨s.2.2.2.2, 0, none⟩))]) (fun s w' => Below wr.heap.size wr w' ∧ Kd.R kGate 71 w' wr.heap.size (fun _ => True) (.slice s.2.2.2.1.1 r6.1.f0.length s.2.2.2.1.2) r6.1.f0 ∧ w'.heap[s.2.2.2.2]? = some (.cells #[.slice none 0 0, .int .i64 0] 24 (0, 0)) ∧ wr.heap.size ≤ s.2.2.2.2) ?hcont ?hjoin
  case hjoin =>
    intro hcont
    refine two_ (i := 1) (j := 14) (Ni := some 132) (Nj := some 23) #[true, true, true, true, true, false, true, true, true, false, false, false, false, false, false, false, false] #[true, false, true, true, true, false, true, true, true, false, false, false, false, false, true, false, false] rfl rfl rfl rfl (by kernel_rfl) (by decide) (by decide) (fun K hK => ?_) (fun K hK => ?_)
    rotate_left
    · skip
      refine value_ (w1 := ?_) (v := ?_) (by rfl) rfl ?_ ?_
      rotate_left 2
      · go_simp
        constructor
        · rfl
        · rfl
      have HG8 := Aside0.mk (show wr.heap.size ≤ (wr.drew).heap.size from W.out.size)
      have hG := blk_new (wr.drew) (.cells #[.slice none 0 0, .int .i64 0] 24)
      have hb := below_alloc (Below.refl (wr.drew).heap.size (wr.drew)) (.cells #[.slice none 0 0, .int .i64 0] 24)
      first | (have R1 := Aside0.mk (Kd.R_below R1.out hb)) | skip
      first | (have R5 := Aside0.mk (Kd.R_below R5.out hb)) | skip
      first | (have R9 := Aside0.mk (Kd.R_below R9.out hb)) | skip
      first | (have Q := Aside0.mk (Kd.R_below Q.out hb)) | skip
      have W := Aside0.mk (below_alloc W.out (.cells #[.slice none 0 0, .int .i64 0] 24))
      have G := Aside0.mk hG
      clear hG hb
      refine hK.out _ _ trivial (fun hHeld => ?_)
      clear hK K
      refine norm_ (a' := ?_) ?_ ?_
      rotate_left
      · show Act.put _ (some 23) _ = _
        simp only [Act.put, List.setIfInBounds_toArray, List.set_cons_zero, List.set_cons_succ]
        rfl
      refine one_ (i := 1) (N := some 132) #[true, true, true, true, true, false, true, true, true, false, false, false, false, false, true, false, false] rfl rfl (by kernel_rfl) (by decide) (fun K hK => ?_)
      refine Kd.R_lit_step kHd (w0 := wr) wr.heap.size 27 (by rfl) (N := 132) rfl (xs := []) (inner := []) (ok := fun _ => True) (okp := fun _ => False) ?hr (Reps.none _ _) (fun _ h => h.elim) trivial W.out W.out.size (by simp) ?_
      case hr => first | (go_simp; done) | (go_simp; rfl)
      intro v1 w1 ho hb hg hat
      have R1 := Aside0.mk ho
      have W := Aside0.mk hb
      first | (have G := Aside0.mk ((hg.block _ (blk_lt G.out) (by simp)).trans G.out)) | skip
      clear ho hb hg hat
      refine hK.out _ _ trivial (fun hHeld => ?_)
      clear hK K
      refine norm_ (a' := ?_) ?_ ?_
      rotate_left
      · show Act.put _ (some 132) _ = _
        simp only [Act.put, List.setIfInBounds_toArray, List.set_cons_zero, List.set_cons_succ]
        rfl
      refine one_ (i := 5) (N := some 136) #[true, true, true, true, true, true, true, true, true, false, false, false, false, false, true, false, false] rfl rfl (by kernel_rfl) (by decide) (fun K hK => ?_)
      refine Kd.R_append_rows_step kHd (w0 := wr) wr.heap.size (by rfl) (.tmp 132) (.tmp 135) 43 27 (.slice none 0 0) 24 rfl Try.underlying43 infoRow rfl (by decide) (by omega) v1 [] (hs.drop m) _ _ _ (fun _ => True) (fun _ => False) rfl rfl ?aO ?aR (fun _ _ h => h) (fun _ h => h.elim) ?aF ?aB ?aS ?aL ?_
      case aR => exact HCD.out _ W.out
      case aB => exact W.out
      case aF => exact fun _ _ => trivial
      case aO => exact R1.out
      case aS => exact W.out.size
      case aL => have := H60.out; simp only [List.length_nil]; omega
      intro v5 w5 ho hb hg hat
      rw [List.nil_append] at ho
      obtain ⟨E5, c5, rfl, _, _⟩ := Kd.R_reads ho
      have R5 := Aside0.mk ho
      have W := Aside0.mk hb
      first | (have G := Aside0.mk (blk_grown G.out hg (Kd.R_ne R1.out G.out (by decide)))) | skip
      clear ho hb hg hat
      refine hK.out _ _ trivial (fun hHeld => ?_)
      clear hK K
      refine norm_ (a' := ?_) ?_ ?_
      rotate_left
      · show Act.put _ (some 136) _ = _
        simp only [Act.put, List.setIfInBounds_toArray, List.set_cons_zero, List.set_cons_succ]
        rfl
      refine one_ (i := 9) (N := some 140) #[true, true, true, true, true, true, true, true, true, true, false, false, false, false, true, false, false] rfl rfl (by kernel_rfl) (by decide) (fun K hK => ?_)
      refine Kd.R_append_rows_step kHd (w0 := wr) wr.heap.size (by rfl) (.tmp 136) (.tmp 139) 43 27 (.slice none 0 0) 24 rfl Try.underlying43 infoRow rfl (by decide) (by omega) (.slice E5 (hs.drop m).length c5) (hs.drop m) (hs.take m) _ _ _ (fun _ => True) (fun _ => False) rfl rfl ?aO ?aR (fun _ _ h => h) (fun _ h => h.elim) ?aF ?aB ?aS ?aL ?_
      case aR => exact HCT.out _ W.out
      case aB => exact W.out
      case aF => exact fun _ _ => trivial
      case aO => exact R5.out
      case aS => exact W.out.size
      case aL => have := H60.out; have := HM.out; have := HHD.out.n; simp only [List.length_drop]; omega
      intro v9 w9 ho hb hg hat
      obtain ⟨E9, c9, rfl, _, _⟩ := Kd.R_reads ho
      rw [HLEN.out] at ho ⊢
      have R9 := Aside0.mk ho
      have W := Aside0.mk hb
      first | (have G := Aside0.mk (blk_grown G.out hg (Kd.R_ne R5.out G.out (by decide)))) | skip
      clear ho hb hg hat
      refine hK.out _ _ trivial (fun hHeld => ?_)
      clear hK K
      refine norm_ (a' := ?_) ?_ ?_
      rotate_left
      · show Act.put _ (some 140) _ = _
        simp only [Act.put, List.setIfInBounds_toArray, List.set_cons_zero, List.set_cons_succ]
        rfl
      refine one_ (i := 10) (N := some 141) #[true, true, true, true, true, true, true, true, true, true, true, false, false, false, true, false, false] rfl rfl (by kernel_rfl) (by decide) (fun K hK => ?_)
      refine goes_ Try.func19 (by kernel_rfl) rfl #[.int .i64 st.length, .slice E9 (l.drop m ++ l.take m).length c9] (by rfl) rfl rfl (by simp only [List.map_toArray, List.map_cons, List.map_nil] <;> rfl) ?_
      refine (preds_Clauses st.length E9 c9 (l.drop m ++ l.take m) _ (Hd.to (RS.of_R' R9.out) (HHA.out _ W.out)) NLS.out).mono ?_
      rintro e w10 ⟨A10, k10, rfl, hr, hb⟩
      rw [HR6.out] at hr ⊢
      refine ⟨_, rfl, ?_⟩
      have Q := Aside0.mk (Kd.R_lower hr W.out.size)
      have W := Aside0.mk (W.out.trans (hb.mono W.out.size))
      first | (have G := Aside0.mk (blk_below G.out hb)) | skip
      clear hr hb
      refine hK.out _ _ trivial (fun hHeld => ?_)
      clear hK K
      refine norm_ (a' := ?_) ?_ ?_
      rotate_left
      · show Act.put _ (some 141) _ = _
        simp only [Act.put, List.setIfInBounds_toArray, List.set_cons_zero, List.set_cons_succ]
        rfl
      refine pure_ (i := 11) (N := some 130) (v := ?_) (a' := ?_) #[true, true, true, true, true, true, true, true, true, true, true, true, false, false, true, false, false] rfl rfl (by kernel_rfl) (fun _ _ _ h => h) (Or.inl ⟨by rfl, ?_⟩) ?_ ?_
      rotate_left
      · intro w'
        go_simp
        with_reducible rfl
      rotate_left
      · simp only [Act.put, List.setIfInBounds_toArray, List.set_cons_zero, List.set_cons_succ]
        rfl
      refine pure_ (i := 12) (N := some 142) (v := ?_) (a' := ?_) #[true, true, true, true, true, true, true, true, true, true, true, true, true, false, true, false, false] rfl rfl (by kernel_rfl) (fun _ _ _ h => h) (Or.inl ⟨by rfl, ?_⟩) ?_ ?_
      rotate_left
      · intro w'
        go_simp
        with_reducible rfl
      rotate_left
      · simp only [Act.put, List.setIfInBounds_toArray, List.set_cons_zero, List.set_cons_succ]
        rfl
      refine pure_ (i := 13) (N := some 143) (v := ?_) (a' := ?_) #[true, true, true, true, true, true, true, true, true, true, true, true, true, true, true, false, false] rfl rfl (by kernel_rfl) (fun _ _ _ h => h) (Or.inl ⟨by rfl, ?_⟩) ?_ ?_
      rotate_left
      · intro w'
        go_simp
        with_reducible rfl
      rotate_left
      · simp only [Act.put, List.setIfInBounds_toArray, List.set_cons_zero, List.set_cons_succ]
        rfl
      refine norm_ ?_ (hcont (v1, (E5, (hs.drop m).length, c5), (E9, (l.drop m ++ l.take m).length, c9), (A10, k10), (wr.drew).heap.size) _ ⟨W.out, Q.out, G.out, HG8.out⟩)
      simp only [putAll, Act.put, List.setIfInBounds_toArray, List.set_cons_zero, List.set_cons_succ] <;> rfl
    refine Kd.R_lit_step kHd (w0 := wr) wr.heap.size 27 (by rfl) (N := 132) rfl (xs := []) (inner := []) (ok := fun _ => True) (okp := fun _ => False) ?hr (Reps.none _ _) (fun _ h => h.elim) trivial W.out W.out.size (by simp) ?_
    case hr => first | (go_simp; done) | (go_simp; rfl)
    intro v1 w1 ho hb hg hat
    have R1 := Aside0.mk ho
    have W := Aside0.mk hb
    first | (have G := Aside0.mk ((hg.block _ (blk_lt G.out) (by simp)).trans G.out)) | skip
    clear ho hb hg hat
    refine hK.out _ _ trivial (fun hHeld => ?_)
    clear hK K
    refine norm_ (a' := ?_) ?_ ?_
    rotate_left
    · show Act.put _ (some 132) _ = _
      simp only [Act.put, List.setIfInBounds_toArray, List.set_cons_zero, List.set_cons_succ]
      rfl
    refine two_ (i := 5) (j := 14) (Ni := some 136) (Nj := some 23) #[true, true, true, true, true, true, true, true, true, false, false, false, false, false, false, false, false] #[true, true, true, true, true, false, true, true, true, false, false, false, false, false, true, false, false] rfl rfl rfl rfl (by kernel_rfl) (by decide) (by decide) (fun K hK => ?_) (fun K hK => ?_)
    rotate_left
    · skip
      refine value_ (w1 := ?_) (v := ?_) (by rfl) rfl ?_ ?_
      rotate_left 2
      · go_simp
        constructor
        · rfl
        · rfl
      have HG8 := Aside0.mk (show wr.heap.size ≤ (w1).heap.size from W.out.size)
      have hG := blk_new (w1) (.cells #[.slice none 0 0, .int .i64 0] 24)
      have hb := below_alloc (Below.refl (w1).heap.size (w1)) (.cells #[.slice none 0 0, .int .i64 0] 24)
      first | (have R1 := Aside0.mk (Kd.R_below R1.out hb)) | skip
      first | (have R5 := Aside0.mk (Kd.R_below R5.out hb)) | skip
      first | (have R9 := Aside0.mk (Kd.R_below R9.out hb)) | skip
      first | (have Q := Aside0.mk (Kd.R_below Q.out hb)) | skip
      have W := Aside0.mk (below_alloc W.out (.cells #[.slice none 0 0, .int .i64 0] 24))
      have G := Aside0.mk hG
      clear hG hb
      refine hK.out _ _ trivial (fun hHeld => ?_)
      clear hK K
      refine norm_ (a' := ?_) ?_ ?_
      rotate_left
      · show Act.put _ (some 23) _ = _
        simp only [Act.put, List.setIfInBounds_toArray, List.set_cons_zero, List.set_cons_succ]
        rfl
      refine one_ (i := 5) (N := some 136) #[true, true, true, true, true, true, true, true, true, false, false, false, false, false, true, false, false] rfl rfl (by kernel_rfl) (by decide) (fun K hK => ?_)
      refine Kd.R_append_rows_step kHd (w0 := wr) wr.heap.size (by rfl) (.tmp 132) (.tmp 135) 43 27 (.slice none 0 0) 24 rfl Try.underlying43 infoRow rfl (by decide) (by omega) v1 [] (hs.drop m) _ _ _ (fun _ => True) (fun _ => False) rfl rfl ?aO ?aR (fun _ _ h => h) (fun _ h => h.elim) ?aF ?aB ?aS ?aL ?_
      case aR => exact HCD.out _ W.out
      case aB => exact W.out
      case aF => exact fun _ _ => trivial
      case aO => exact R1.out
      case aS => exact W.out.size
      case aL => have := H60.out; simp only [List.length_nil]; omega
      intro v5 w5 ho hb hg hat
      rw [List.nil_append] at ho
      obtain ⟨E5, c5, rfl, _, _⟩ := Kd.R_reads ho
      have R5 := Aside0.mk ho
      have W := Aside0.mk hb
      first | (have G := Aside0.mk (blk_grown G.out hg (Kd.R_ne R1.out G.out (by decide)))) | skip
      clear ho hb hg hat
      refine hK.out _ _ trivial (fun hHeld => ?_)
      clear hK K
      refine norm_ (a' := ?_) ?_ ?_
      rotate_left
      · show Act.put _ (some 136) _ = _
        simp only [Act.put, List.setIfInBounds_toArray, List.set_cons_zero, List.set_cons_succ]
        rfl
      refine one_ (i := 9) (N := some 140) #[true, true, true, true, true, true, true, true, true, true, false, false, false, false, true, false, false] rfl rfl (by kernel_rfl) (by decide) (fun K hK => ?_)
      refine Kd.R_append_rows_step kHd (w0 := wr) wr.heap.size (by rfl) (.tmp 136) (.tmp 139) 43 27 (.slice none 0 0) 24 rfl Try.underlying43 infoRow rfl (by decide) (by omega) (.slice E5 (hs.drop m).length c5) (hs.drop m) (hs.take m) _ _ _ (fun _ => True) (fun _ => False) rfl rfl ?aO ?aR (fun _ _ h => h) (fun _ h => h.elim) ?aF ?aB ?aS ?aL ?_
      case aR => exact HCT.out _ W.out
      case aB => exact W.out
      case aF => exact fun _ _ => trivial
      case aO => exact R5.out
      case aS => exact W.out.size
      case aL => have := H60.out; have := HM.out; have := HHD.out.n; simp only [List.length_drop]; omega
      intro v9 w9 ho hb hg hat
      obtain ⟨E9, c9, rfl, _, _⟩ := Kd.R_reads ho
      rw [HLEN.out] at ho ⊢
      have R9 := Aside0.mk ho
      have W := Aside0.mk hb
      first | (have G := Aside0.mk (blk_grown G.out hg (Kd.R_ne R5.out G.out (by decide)))) | skip
      clear ho hb hg hat
      refine hK.out _ _ trivial (fun hHeld => ?_)
      clear hK K
      refine norm_ (a' := ?_) ?_ ?_
      rotate_left
      · show Act.put _ (some 140) _ = _
        simp only [Act.put, List.setIfInBounds_toArray, List.set_cons_zero, List.set_cons_succ]
        rfl
      refine one_ (i := 10) (N := some 141) #[true, true, true, true, true, true, true, true, true, true, true, false, false, false, true, false, false] rfl rfl (by kernel_rfl) (by decide) (fun K hK => ?_)
      refine goes_ Try.func19 (by kernel_rfl) rfl #[.int .i64 st.length, .slice E9 (l.drop m ++ l.take m).length c9] (by rfl) rfl rfl (by simp only [List.map_toArray, List.map_cons, List.map_nil] <;> rfl) ?_
      refine (preds_Clauses st.length E9 c9 (l.drop m ++ l.take m) _ (Hd.to (RS.of_R' R9.out) (HHA.out _ W.out)) NLS.out).mono ?_
      rintro e w10 ⟨A10, k10, rfl, hr, hb⟩
      rw [HR6.out] at hr ⊢
      refine ⟨_, rfl, ?_⟩
      have Q := Aside0.mk (Kd.R_lower hr W.out.size)
      have W := Aside0.mk (W.out.trans (hb.mono W.out.size))
      first | (have G := Aside0.mk (blk_below G.out hb)) | skip
      clear hr hb
      refine hK.out _ _ trivial (fun hHeld => ?_)
      clear hK K
      refine norm_ (a' := ?_) ?_ ?_
      rotate_left
      · show Act.put _ (some 141) _ = _
        simp only [Act.put, List.setIfInBounds_toArray, List.set_cons_zero, List.set_cons_succ]
        rfl
      refine pure_ (i := 11) (N := some 130) (v := ?_) (a' := ?_) #[true, true, true, true, true, true, true, true, true, true, true, true, false, false, true, false, false] rfl rfl (by kernel_rfl) (fun _ _ _ h => h) (Or.inl ⟨by rfl, ?_⟩) ?_ ?_
      rotate_left
      · intro w'
        go_simp
        with_reducible rfl
      rotate_left
      · simp only [Act.put, List.setIfInBounds_toArray, List.set_cons_zero, List.set_cons_succ]
        rfl
      refine pure_ (i := 12) (N := some 142) (v := ?_) (a' := ?_) #[true, true, true, true, true, true, true, true, true, true, true, true, true, false, true, false, false] rfl rfl (by kernel_rfl) (fun _ _ _ h => h) (Or.inl ⟨by rfl, ?_⟩) ?_ ?_
      rotate_left
      · intro w'
        go_simp
        with_reducible rfl
      rotate_left
      · simp only [Act.put, List.setIfInBounds_toArray, List.set_cons_zero, List.set_cons_succ]
        rfl
      refine pure_ (i := 13) (N := some 143) (v := ?_) (a' := ?_) #[true, true, true, true, true, true, true, true, true, true, true, true, true, true, true, false, false] rfl rfl (by kernel_rfl) (fun _ _ _ h => h) (Or.inl ⟨by rfl, ?_⟩) ?_ ?_
      rotate_left
      · intro w'
        go_simp
        with_reducible rfl
      rotate_left
      · simp only [Act.put, List.setIfInBounds_toArray, List.set_cons_zero, List.set_cons_succ]
        rfl
      refine norm_ ?_ (hcont (v1, (E5, (hs.drop m).length, c5), (E9, (l.drop m ++ l.take m).length, c9), (A10, k10), (w1).heap.size) _ ⟨W.out, Q.out, G.out, HG8.out⟩)
      simp only [putAll, Act.put, List.setIfInBounds_toArray, List.set_cons_zero, List.set_cons_succ] <;> rfl
    refine Kd.R_append_rows_step kHd (w0 := wr) wr.heap.size (by rfl) (.tmp 132) (.tmp 135) 43 27 (.slice none 0 0) 24 rfl Try.underlying43 infoRow rfl (by decide) (by omega) v1 [] (hs.drop m) _ _ _ (fun _ => True) (fun _ => False) rfl rfl ?aO ?aR (fun _ _ h => h) (fun _ h => h.elim) ?aF ?aB ?aS ?aL ?_
    case aR => exact HCD.out _ W.out
    case aB => exact W.out
    case aF => exact fun _ _ => trivial
    case aO => exact R1.out
    case aS => exact W.out.size
    case aL => have := H60.out; simp only [List.length_nil]; omega
    intro v5 w5 ho hb hg hat
    rw [List.nil_append] at ho
    obtain ⟨E5, c5, rfl, _, _⟩ := Kd.R_reads ho
    have R5 := Aside0.mk ho
    have W := Aside0.mk hb
    first | (have G := Aside0.mk (blk_grown G.out hg (Kd.R_ne R1.out G.out (by decide)))) | skip
    clear ho hb hg hat
    refine hK.out _ _ trivial (fun hHeld => ?_)
    clear hK K
    refine norm_ (a' := ?_) ?_ ?_
    rotate_left
    · show Act.put _ (some 136) _ = _
      simp only [Act.put, List.setIfInBounds_toArray, List.set_cons_zero, List.set_cons_succ]
      rfl
    refine two_ (i := 9) (j := 14) (Ni := some 140) (Nj := some 23) #[true, true, true, true, true, true, true, true, true, true, false, false, false, false, false, false, false] #[true, true, true, true, true, true, true, true, true, false, false, false, false, false, true, false, false] rfl rfl rfl rfl (by kernel_rfl) (by decide) (by decide) (fun K hK => ?_) (fun K hK => ?_)
    rotate_left
    · skip
      refine value_ (w1 := ?_) (v := ?_) (by rfl) rfl ?_ ?_
      rotate_left 2
      · go_simp
        constructor
        · rfl
        · rfl
      have HG8 := Aside0.mk (show wr.heap.size ≤ (w5).heap.size from W.out.size)
      have hG := blk_new (w5) (.cells #[.slice none 0 0, .int .i64 0] 24)
      have hb := below_alloc (Below.refl (w5).heap.size (w5)) (.cells #[.slice none 0 0, .int .i64 0] 24)
      first | (have R1 := Aside0.mk (Kd.R_below R1.out hb)) | skip
      first | (have R5 := Aside0.mk (Kd.R_below R5.out hb)) | skip
      first | (have R9 := Aside0.mk (Kd.R_below R9.out hb)) | skip
      first | (have Q := Aside0.mk (Kd.R_below Q.out hb)) | skip
      have W := Aside0.mk (below_alloc W.out (.cells #[.slice none 0 0, .int .i64 0] 24))
      have G := Aside0.mk hG
      clear hG hb
      refine hK.out _ _ trivial (fun hHeld => ?_)
      clear hK K
      refine norm_ (a' := ?_) ?_ ?_
      rotate_left
      · show Act.put _ (some 23) _ = _
        simp only [Act.put, List.setIfInBounds_toArray, List.set_cons_zero, List.set_cons_succ]
        rfl
      refine one_ (i := 9) (N := some 140) #[true, true, true, true, true, true, true, true, true, true, false, false, false, false, true, false, false] rfl rfl (by kernel_rfl) (by decide) (fun K hK => ?_)
      refine Kd.R_append_rows_step kHd (w0 := wr) wr.heap.size (by rfl) (.tmp 136) (.tmp 139) 43 27 (.slice none 0 0) 24 rfl Try.underlying43 infoRow rfl (by decide) (by omega) (.slice E5 (hs.drop m).length c5) (hs.drop m) (hs.take m) _ _ _ (fun _ => True) (fun _ => False) rfl rfl ?aO ?aR (fun _ _ h => h) (fun _ h => h.elim) ?aF ?aB ?aS ?aL ?_
      case aR => exact HCT.out _ W.out
      case aB => exact W.out
      case aF => exact fun _ _ => trivial
      case aO => exact R5.out
      case aS => exact W.out.size
      case aL => have := H60.out; have := HM.out; have := HHD.out.n; simp only [List.length_drop]; omega
      intro v9 w9 ho hb hg hat
      obtain ⟨E9, c9, rfl, _, _⟩ := Kd.R_reads ho
      rw [HLEN.out] at ho ⊢
      have R9 := Aside0.mk ho
      have W := Aside0.mk hb
      first | (have G := Aside0.mk (blk_grown G.out hg (Kd.R_ne R5.out G.out (by decide)))) | skip
      clear ho hb hg hat
      refine hK.out _ _ trivial (fun hHeld => ?_)
      clear hK K
      refine norm_ (a' := ?_) ?_ ?_
      rotate_left
      · show Act.put _ (some 140) _ = _
        simp only [Act.put, List.setIfInBounds_toArray, List.set_cons_zero, List.set_cons_succ]
        rfl
      refine one_ (i := 10) (N := some 141) #[true, true, true, true, true, true, true, true, true, true, true, false, false, false, true, false, false] rfl rfl (by kernel_rfl) (by decide) (fun K hK => ?_)
      refine goes_ Try.func19 (by kernel_rfl) rfl #[.int .i64 st.length, .slice E9 (l.drop m ++ l.take m).length c9] (by rfl) rfl rfl (by simp only [List.map_toArray, List.map_cons, List.map_nil] <;> rfl) ?_
      refine (preds_Clauses st.length E9 c9 (l.drop m ++ l.take m) _ (Hd.to (RS.of_R' R9.out) (HHA.out _ W.out)) NLS.out).mono ?_
      rintro e w10 ⟨A10, k10, rfl, hr, hb⟩
      rw [HR6.out] at hr ⊢
      refine ⟨_, rfl, ?_⟩
      have Q := Aside0.mk (Kd.R_lower hr W.out.size)
      have W := Aside0.mk (W.out.trans (hb.mono W.out.size))
      first | (have G := Aside0.mk (blk_below G.out hb)) | skip
      clear hr hb
      refine hK.out _ _ trivial (fun hHeld => ?_)
      clear hK K
      refine norm_ (a' := ?_) ?_ ?_
      rotate_left
      · show Act.put _ (some 141) _ = _
        simp only [Act.put, List.setIfInBounds_toArray, List.set_cons_zero, List.set_cons_succ]
        rfl
      refine pure_ (i := 11) (N := some 130) (v := ?_) (a' := ?_) #[true, true, true, true, true, true, true, true, true, true, true, true, false, false, true, false, false] rfl rfl (by kernel_rfl) (fun _ _ _ h => h) (Or.inl ⟨by rfl, ?_⟩) ?_ ?_
      rotate_left
      · intro w'
        go_simp
        with_reducible rfl
      rotate_left
      · simp only [Act.put, List.setIfInBounds_toArray, List.set_cons_zero, List.set_cons_succ]
        rfl
      refine pure_ (i := 12) (N := some 142) (v := ?_) (a' := ?_) #[true, true, true, true, true, true, true, true, true, true, true, true, true, false, true, false, false] rfl rfl (by kernel_rfl) (fun _ _ _ h => h) (Or.inl ⟨by rfl, ?_⟩) ?_ ?_
      rotate_left
      · intro w'
        go_simp
        with_reducible rfl
      rotate_left
      · simp only [Act.put, List.setIfInBounds_toArray, List.set_cons_zero, List.set_cons_succ]
        rfl
      refine pure_ (i := 13) (N := some 143) (v := ?_) (a' := ?_) #[true, true, true, true, true, true, true, true, true, true, true, true, true, true, true, false, false] rfl rfl (by kernel_rfl) (fun _ _ _ h => h) (Or.inl ⟨by rfl, ?_⟩) ?_ ?_
      rotate_left
      · intro w'
        go_simp
        with_reducible rfl
      rotate_left
      · simp only [Act.put, List.setIfInBounds_toArray, List.set_cons_zero, List.set_cons_succ]
        rfl
      refine norm_ ?_ (hcont (v1, (E5, (hs.drop m).length, c5), (E9, (l.drop m ++ l.take m).length, c9), (A10, k10), (w5).heap.size) _ ⟨W.out, Q.out, G.out, HG8.out⟩)
      simp only [putAll, Act.put, List.setIfInBounds_toArray, List.set_cons_zero, List.set_cons_succ] <;> rfl
    refine Kd.R_append_rows_step kHd (w0 := wr) wr.heap.size (by rfl) (.tmp 136) (.tmp 139) 43 27 (.slice none 0 0) 24 rfl Try.underlying43 infoRow rfl (by decide) (by omega) (.slice E5 (hs.drop m).length c5) (hs.drop m) (hs.take m) _ _ _ (fun _ => True) (fun _ => False) rfl rfl ?aO ?aR (fun _ _ h => h) (fun _ h => h.elim) ?aF ?aB ?aS ?aL ?_
    case aR => exact HCT.out _ W.out
    case aB => exact W.out
    case aF => exact fun _ _ => trivial
    case aO => exact R5.out
    case aS => exact W.out.size
    case aL => have := H60.out; have := HM.out; have := HHD.out.n; simp only [List.length_drop]; omega
    intro v9 w9 ho hb hg hat
    obtain ⟨E9, c9, rfl, _, _⟩ := Kd.R_reads ho
    rw [HLEN.out] at ho ⊢
    have R9 := Aside0.mk ho
    have W := Aside0.mk hb
    first | (have G := Aside0.mk (blk_grown G.out hg (Kd.R_ne R5.out G.out (by decide)))) | skip
    clear ho hb hg hat
    refine hK.out _ _ trivial (fun hHeld => ?_)
    clear hK K
    refine norm_ (a' := ?_) ?_ ?_
    rotate_left
    · show Act.put _ (some 140) _ = _
      simp only [Act.put, List.setIfInBounds_toArray, List.set_cons_zero, List.set_cons_succ]
      rfl
    refine two_ (i := 10) (j := 14) (Ni := some 141) (Nj := some 23) #[true, true, true, true, true, true, true, true, true, true, true, false, false, false, false, false, false] #[true, true, true, true, true, true, true, true, true, true, false, false, false, false, true, false, false] rfl rfl rfl rfl (by kernel_rfl) (by decide) (by decide) (fun K hK => ?_) (fun K hK => ?_)
    rotate_left
    · skip
      refine value_ (w1 := ?_) (v := ?_) (by rfl) rfl ?_ ?_
      rotate_left 2
      · go_simp
        constructor
        · rfl
        · rfl
      have HG8 := Aside0.mk (show wr.heap.size ≤ (w9).heap.size from W.out.size)
      have hG := blk_new (w9) (.cells #[.slice none 0 0, .int .i64 0] 24)
      have hb := below_alloc (Below.refl (w9).heap.size (w9)) (.cells #[.slice none 0 0, .int .i64 0] 24)
      first | (have R1 := Aside0.mk (Kd.R_below R1.out hb)) | skip
      first | (have R5 := Aside0.mk (Kd.R_below R5.out hb)) | skip
      first | (have R9 := Aside0.mk (Kd.R_below R9.out hb)) | skip
      first | (have Q := Aside0.mk (Kd.R_below Q.out hb)) | skip
      have W := Aside0.mk (below_alloc W.out (.cells #[.slice none 0 0, .int .i64 0] 24))
      have G := Aside0.mk hG
      clear hG hb
      refine hK.out _ _ trivial (fun hHeld => ?_)
      clear hK K
      refine norm_ (a' := ?_) ?_ ?_
      rotate_left
      · show Act.put _ (some 23) _ = _
        simp only [Act.put, List.setIfInBounds_toArray, List.set_cons_zero, List.set_cons_succ]
        rfl
      refine one_ (i := 10) (N := some 141) #[true, true, true, true, true, true, true, true, true, true, true, false, false, false, true, false, false] rfl rfl (by kernel_rfl) (by decide) (fun K hK => ?_)
      refine goes_ Try.func19 (by kernel_rfl) rfl #[.int .i64 st.length, .slice E9 (l.drop m ++ l.take m).length c9] (by rfl) rfl rfl (by simp only [List.map_toArray, List.map_cons, List.map_nil] <;> rfl) ?_
      refine (preds_Clauses st.length E9 c9 (l.drop m ++ l.take m) _ (Hd.to (RS.of_R' R9.out) (HHA.out _ W.out)) NLS.out).mono ?_
      rintro e w10 ⟨A10, k10, rfl, hr, hb⟩
      rw [HR6.out] at hr ⊢
      refine ⟨_, rfl, ?_⟩
      have Q := Aside0.mk (Kd.R_lower hr W.out.size)
      have W := Aside0.mk (W.out.trans (hb.mono W.out.size))
      first | (have G := Aside0.mk (blk_below G.out hb)) | skip
      clear hr hb
      refine hK.out _ _ trivial (fun hHeld => ?_)
      clear hK K
      refine norm_ (a' := ?_) ?_ ?_
      rotate_left
      · show Act.put _ (some 141) _ = _
        simp only [Act.put, List.setIfInBounds_toArray, List.set_cons_zero, List.set_cons_succ]
        rfl
      refine pure_ (i := 11) (N := some 130) (v := ?_) (a' := ?_) #[true, true, true, true, true, true, true, true, true, true, true, true, false, false, true, false, false] rfl rfl (by kernel_rfl) (fun _ _ _ h => h) (Or.inl ⟨by rfl, ?_⟩) ?_ ?_
      rotate_left
      · intro w'
        go_simp
        with_reducible rfl
      rotate_left
      · simp only [Act.put, List.setIfInBounds_toArray, List.set_cons_zero, List.set_cons_succ]
        rfl
      refine pure_ (i := 12) (N := some 142) (v := ?_) (a' := ?_) #[true, true, true, true, true, true, true, true, true, true, true, true, true, false, true, false, false] rfl rfl (by kernel_rfl) (fun _ _ _ h => h) (Or.inl ⟨by rfl, ?_⟩) ?_ ?_
      rotate_left
      · intro w'
        go_simp
        with_reducible rfl
      rotate_left
      · simp only [Act.put, List.setIfInBounds_toArray, List.set_cons_zero, List.set_cons_succ]
        rfl
      refine pure_ (i := 13) (N := some 143) (v := ?_) (a' := ?_) #[true, true, true, true, true, true, true, true, true, true, true, true, true, true, true, false, false] rfl rfl (by kernel_rfl) (fun _ _ _ h => h) (Or.inl ⟨by rfl, ?_⟩) ?_ ?_
      rotate_left
      · intro w'
        go_simp
        with_reducible rfl
      rotate_left
      · simp only [Act.put, List.setIfInBounds_toArray, List.set_cons_zero, List.set_cons_succ]
        rfl
      refine norm_ ?_ (hcont (v1, (E5, (hs.drop m).length, c5), (E9, (l.drop m ++ l.take m).length, c9), (A10, k10), (w9).heap.size) _ ⟨W.out, Q.out, G.out, HG8.out⟩)
      simp only [putAll, Act.put, List.setIfInBounds_toArray, List.set_cons_zero, List.set_cons_succ] <;> rfl
    refine goes_ Try.func19 (by kernel_rfl) rfl #[.int .i64 st.length, .slice E9 (l.drop m ++ l.take m).length c9] (by rfl) rfl rfl (by simp only [List.map_toArray, List.map_cons, List.map_nil] <;> rfl) ?_
    refine (preds_Clauses st.length E9 c9 (l.drop m ++ l.take m) _ (Hd.to (RS.of_R' R9.out) (HHA.out _ W.out)) NLS.out).mono ?_
    rintro e w10 ⟨A10, k10, rfl, hr, hb⟩
    rw [HR6.out] at hr ⊢
    refine ⟨_, rfl, ?_⟩
    have Q := Aside0.mk (Kd.R_lower hr W.out.size)
    have W := Aside0.mk (W.out.trans (hb.mono W.out.size))
    first | (have G := Aside0.mk (blk_below G.out hb)) | skip
    clear hr hb
    refine hK.out _ _ trivial (fun hHeld => ?_)
    clear hK K
    refine norm_ (a' := ?_) ?_ ?_
    rotate_left
    · show Act.put _ (some 141) _ = _
      simp only [Act.put, List.setIfInBounds_toArray, List.set_cons_zero, List.set_cons_succ]
      rfl
    refine pure_ (i := 11) (N := some 130) (v := ?_) (a' := ?_) #[true, true, true, true, true, true, true, true, true, true, true, true, false, false, false, false, false] rfl rfl (by kernel_rfl) (fun _ _ _ h => h) (Or.inl ⟨by rfl, ?_⟩) ?_ ?_
    rotate_left
    · intro w'
      go_simp
      with_reducible rfl
    rotate_left
    · simp only [Act.put, List.setIfInBounds_toArray, List.set_cons_zero, List.set_cons_succ]
      rfl
    refine pure_ (i := 12) (N := some 142) (v := ?_) (a' := ?_) #[true, true, true, true, true, true, true, true, true, true, true, true, true, false, false, false, false] rfl rfl (by kernel_rfl) (fun _ _ _ h => h) (Or.inl ⟨by rfl, ?_⟩) ?_ ?_
    rotate_left
    · intro w'
      go_simp
      with_reducible rfl
    rotate_left
    · simp only [Act.put, List.setIfInBounds_toArray, List.set_cons_zero, List.set_cons_succ]
      rfl
    refine pure_ (i := 13) (N := some 143) (v := ?_) (a' := ?_) #[true, true, true, true, true, true, true, true, true, true, true, true, true, true, false, false, false] rfl rfl (by kernel_rfl) (fun _ _ _ h => h) (Or.inl ⟨by rfl, ?_⟩) ?_ ?_
    rotate_left
    · intro w'
      go_simp
      with_reducible rfl
    rotate_left
    · simp only [Act.put, List.setIfInBounds_toArray, List.set_cons_zero, List.set_cons_succ]
      rfl
    refine one_ (i := 14) (N := some 23) #[true, true, true, true, true, true, true, true, true, true, true, true, true, true, true, false, false] rfl rfl (by kernel_rfl) (by decide) (fun K hK => ?_)
    refine value_ (w1 := ?_) (v := ?_) (by rfl) rfl ?_ ?_
    rotate_left 2
    · go_simp
      constructor
      · rfl
      · rfl
    have HG8 := Aside0.mk (show wr.heap.size ≤ (w10).heap.size from W.out.size)
    have hG := blk_new (w10) (.cells #[.slice none 0 0, .int .i64 0] 24)
    have hb := below_alloc (Below.refl (w10).heap.size (w10)) (.cells #[.slice none 0 0, .int .i64 0] 24)
    first | (have R1 := Aside0.mk (Kd.R_below R1.out hb)) | skip
    first | (have R5 := Aside0.mk (Kd.R_below R5.out hb)) | skip
    first | (have R9 := Aside0.mk (Kd.R_below R9.out hb)) | skip
    first | (have Q := Aside0.mk (Kd.R_below Q.out hb)) | skip
    have W := Aside0.mk (below_alloc W.out (.cells #[.slice none 0 0, .int .i64 0] 24))
    have G := Aside0.mk hG
    clear hG hb
    refine hK.out _ _ trivial (fun hHeld => ?_)
    clear hK K
    refine norm_ (a' := ?_) ?_ ?_
    rotate_left
    · show Act.put _ (some 23) _ = _
      simp only [Act.put, List.setIfInBounds_toArray, List.set_cons_zero, List.set_cons_succ]
      rfl
    refine norm_ ?_ (hcont (v1, (E5, (hs.drop m).length, c5), (E9, (l.drop m ++ l.take m).length, c9), (A10, k10), (w10).heap.size) _ ⟨W.out, Q.out, G.out, HG8.out⟩)
    simp only [putAll, Act.put, List.setIfInBounds_toArray, List.set_cons_zero, List.set_cons_succ] <;> rfl
  case hcont =>
    rintro ⟨v1, ⟨E5, n5, c5⟩, ⟨E9, n9, c9⟩, ⟨A6, k6⟩, g6⟩ w6 ⟨hw6, hq6, hg6, hs6⟩
    dsimp only at hw6 hq6 hg6 hs6 ⊢
    refine norm_ (a' := ?_) ?_ ?_
    rotate_left
    · simp only [putAll, Act.put, List.setIfInBounds_toArray, List.set_cons_zero, List.set_cons_succ]
      rfl
    have W6 := Aside0.mk (below2 hw6 hs6 (.slice A6 r6.1.f0.length k6) (.int .i64 r6.1.f1))
    have G6 := Aside0.mk (blk2_set hg6 (.slice A6 r6.1.f0.length k6) (.int .i64 r6.1.f1))
    have Q6 := Aside0.mk (RS.of_R' (R2 hq6 hg6 (by decide) (.slice A6 r6.1.f0.length k6) (.int .i64 r6.1.f1)))
    obtain ⟨⟨t0, t1⟩, y0, y1⟩ := blk2w hg6
    clear W hw6 hq6 hs6 hHeld HCD
    generalize (if cc = m then C else Option.map (fun x => x.add m) C) = Cx at *
    refine one_ (i := 15) (N := none) #[true, true, true, true, true, true, true, true, true, true, true, true, true, true, true, true, false] rfl rfl (by kernel_rfl) (by decide) (fun K hK => ?_)
    refine skip_ (w1 := ?_) (by rfl) rfl ?_ ?_
    rotate_left
    · go_simp
      rfl
    generalize (w6.setCell ⟨g6, 0, none⟩ (.slice A6 r6.1.f0.length k6)).setCell ⟨g6, 1, none⟩ (.int .i64 r6.1.f1) = w7 at *
    clear hg6 t0 t1 y0 y1
    refine hK.out _ _ trivial (fun hHeld => ?_)
    clear hK K
    refine pure_ (i := 16) (N := some 24) (v := ?_) (a' := ?_) #[true, true, true, true, true, true, true, true, true, true, true, true, true, true, true, true, true] rfl rfl (by kernel_rfl) (fun _ _ _ h => h) (Or.inl ⟨by rfl, ?_⟩) ?_ ?_
    rotate_left
    · intro w'
      go_simp
      with_reducible rfl
    rotate_left
    · simp only [Act.put, List.setIfInBounds_toArray, List.set_cons_zero, List.set_cons_succ]
      rfl
    refine done_ (by kernel_rfl) ?_
    have I := Aside0.mk (I.out.below W6.out)
    have K5 := Aside0.mk (K5.out.below W6.out)
    have K6 : Aside0 (PK g6 A6 k6 r6.1 w7) := ⟨⟨G6.out, Q6.out⟩⟩
    rcases HCV5.out with h5 | ⟨a5, h5, c5', v5⟩
    · rcases HCV6.out with h6 | ⟨a6, h6, c6', v6⟩
      · subst h5
        subst h6
        go_wp2
        go_ret
        exact ⟨rfl, I.out.BW⟩
      · subst h5
        subst h6
        go_wp2
        go_ret
        exact ⟨rfl, I.out.BW⟩
    · rcases HCV6.out with h6 | ⟨a6, h6, c6', v6⟩
      · subst h5
        subst h6
        go_wp2
        go_ret
        exact ⟨rfl, I.out.BW⟩
      · subst h5
        subst h6
        rw [allTrue_swap] at v6
        obtain ⟨r0, r1⟩ := (blk2w K5.out.b).1
        obtain ⟨s0, s1⟩ := (blk2w K6.out.b).1
        have HSM5 := Aside0.mk (law24_same A5 k5 a5 A6 k6 a6 D c st w7 K5.out.r K6.out.r (HS.out.below I.out.BW) c5' c6' (v5.trans v6.symm))
        clear c5' c6' v5 v6
        dsimp only [pv] at *
        go_wp2_with fail
        refine HSM5.out.mono ?_
        rintro e w8 ⟨rfl, hb⟩
        have I := Aside0.mk (I.out.below hb)
        clear hb
        go_wp2
        go_ret
        exact ⟨rfl, I.out.BW⟩
end Go.Proofs.Ytgcdanpihaeioaa.PH
