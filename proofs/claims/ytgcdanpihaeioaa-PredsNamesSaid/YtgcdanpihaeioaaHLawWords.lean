/- The law PredsWords: its function answers true. -/
import Derived.Test.YtgcdanpihaeioaaHSem
import Derived.Test.YtgcdanpihaeioaaHAlive
import Derived.Test.YtgcdanpihaeioaaHLawMakes
namespace Go.Proofs.Ytgcdanpihaeioaa.PH
open Go.RowKit Go.Proofs.YtgcdanpihaeioaaW.PrintWords Go.Proofs.YtgcdanpihaeioaaW.PrintLast
set_option linter.unusedVariables false
set_option linter.unusedSimpArgs false

theorem check_fits {n : Int} {p : Pr} (h : p.Nums) (hc : predCheck n p = 0) : p.Fits := ⟨by have := predCheck_parts hc; omega, h.ig, h.il⟩
/-- A predicate that is right over at most 60 latches and so on has numbers of 64 bits. -/
theorem fits_of_check {n : Int} {p : Pr} (hc : predCheck n p = 0) : p.Fits := by
  have h := predCheck_parts hc
  have h2 := okg_of h.2.2.1
  refine ⟨by omega, fun x hx => ?_, ⟨by omega, by omega⟩⟩
  obtain ⟨k, hk, rfl⟩ := List.getElem_of_mem hx
  have h3 := h2 k hk
  exact ⟨⟨by omega, by omega⟩, by omega, by omega⟩
set_option maxHeartbeats 8000000 in
set_option maxRecDepth 100000 in
theorem law_PredsWords (A : Option Addr × Nat) (p : Pr) (B : Option Addr × Nat) (q : Pr) (D : Option Addr × Nat) (st : List Bool) (w : World) (hp : RS kGate w A.1 A.2 p.f0) (hq : RS kGate w B.1 B.2 q.f0) (hs : RS Kd.bool w D.1 D.2 st) (np : p.Nums) (nq : q.Nums) (ns : ∀ x ∈ st, True) :
    Calls Try.prog 9 #[pv A.1 A.2 p, pv B.1 B.2 q, .slice D.1 st.length D.2] w fun e w' => e = .returned (.bool true) ∧ Below w.heap.size w w' := by
  obtain ⟨A, k⟩ := A
  obtain ⟨B, d⟩ := B
  obtain ⟨D, c⟩ := D
  have HP := Aside0.mk hp
  have HQ := Aside0.mk hq
  have HS := Aside0.mk hs
  have NP := Aside0.mk np
  have NQ := Aside0.mk nq
  have hu24 := Try.underlying24
  have I0 := Aside0.mk (WInv.start w A k p B d q)
  have HGR := Aside0.mk (fun W => law24_great st.length A k p B d q W)
  obtain ⟨pa, pl⟩ := p
  obtain ⟨qa, ql⟩ := q
  clear hp hq hs np nq ns
  dsimp only [pv] at *
  go_enter Try.func9, Try.ntmps9
  go_wp2_with fail
  refine (law24_alive _).mono ?_
  rintro e w0 ⟨rfl, hb0⟩
  have I := Aside0.mk (I0.out.below hb0)
  clear hb0 I0
  by_cases h60 : 60 < (st.length : Int)
  · have h60n : 60 < st.length := by omega
    have h60d : decide (60 < st.length) = true := decide_eq_true h60n
    go_wp2
    go_ret
    exact ⟨rfl, I.out.BW⟩
  have h60n : ¬ 60 < st.length := by omega
  have h60d : decide (60 < st.length) = false := decide_eq_false h60n
  obtain ⟨r0, r1⟩ := (blk2w I.out.B0).1
  obtain ⟨s0, s1⟩ := (blk2w I.out.B1).1
  go_wp2_with fail
  refine (HGR.out _).mono ?_
  rintro e w1 ⟨b1, rfl, hG1, hb1⟩
  have I := Aside0.mk (I.out.below hb1)
  have HG1 := Aside0.mk hG1
  clear hb1 hG1 r0 r1 s0 s1 HGR
  cases b1 with
  | true =>
    go_wp2
    go_ret
    exact ⟨rfl, I.out.BW⟩
  | false =>
  have HSM := Aside0.mk (HG1.out rfl)
  have FP := Aside0.mk (small_fits NP.out HSM.out.1)
  have FQ := Aside0.mk (small_fits NQ.out HSM.out.2.1)
  obtain ⟨r0, r1⟩ := (blk2w I.out.B0).1
  obtain ⟨s0, s1⟩ := (blk2w I.out.B1).1
  go_wp2_with fail
  refine (ref24_Two st.length A k ⟨pa, pl⟩ B d ⟨qa, ql⟩ _ (HP.out.below I.out.BW) FP.out (HQ.out.below I.out.BW) FQ.out).mono ?_
  rintro e w2 ⟨rfl, hb2⟩
  have I := Aside0.mk (I.out.below hb2)
  clear hb2 r0 r1 s0 s1
  by_cases h2 : twoErr st.length ⟨pa, pl⟩ ⟨qa, ql⟩ = 0
  case neg =>
    have h2b : (twoErr st.length ⟨pa, pl⟩ ⟨qa, ql⟩ != 0) = true := bne_iff_ne.mpr h2
    clear h2
    go_wp2
    go_ret
    exact ⟨rfl, I.out.BW⟩
  rw [h2]
  have HH := Aside0.mk (show st.length + pa.length + qa.length + 1 ≤ 1000 by
    have h3 := (predCheck_parts (two_ok h2).1).2.1
    have h4 := (predCheck_parts (two_ok h2).2).2.1
    have h5 := HSM.out.1
    have h6 := HSM.out.2.1
    unfold smallP at h5 h6
    dsimp only at h3 h4 h5 h6
    omega)
  obtain ⟨x1, e1, c1, v1⟩ := val_and h2 HH.out
  obtain ⟨x2, e2, c2, v2⟩ := val_or h2 HH.out
  have HPC := (two_ok h2).1
  have HQC := (two_ok h2).2
  have e3 := not_val HPC
  have e4 := not_val (check_turn HPC)
  rw [turn_turn] at e4
  have v3 := val_turn (st := st) (predCheck_parts HPC).2.2.2.1
  have c3 := check_turn HPC
  have HV1 := Aside0.mk (And.intro c1 ((value_val c1).trans v1))
  have HV2 := Aside0.mk (And.intro c2 ((value_val c2).trans v2))
  have HV3 := Aside0.mk (And.intro c3 ((value_val c3).trans v3))
  have HVP := Aside0.mk (And.intro HPC (value_val HPC))
  have HVQ := Aside0.mk (And.intro HQC (value_val HQC))
  have HE1 := Aside0.mk e1
  have HE2 := Aside0.mk e2
  have HE3 := Aside0.mk e3
  have HE4 := Aside0.mk e4
  have F1 := Aside0.mk (fits_of_check c1)
  have F2 := Aside0.mk (fits_of_check c2)
  have F3 := Aside0.mk (fits_of_check c3)
  clear h2 e1 e2 e3 e4 c1 c2 c3 v1 v2 v3 HPC HQC
  obtain ⟨x3, hx3⟩ : ∃ x, turnP ⟨pa, pl⟩ = x := ⟨_, rfl⟩
  rw [hx3] at HV3 HE3 HE4 F3
  clear hx3
  generalize predValue ⟨pa, pl⟩ st = a at *
  generalize predValue ⟨qa, ql⟩ st = b at *
  obtain ⟨r0, r1⟩ := (blk2w I.out.B0).1
  obtain ⟨s0, s1⟩ := (blk2w I.out.B1).1
  go_wp2_with fail
  refine (preds_And st.length A k ⟨pa, pl⟩ B d ⟨qa, ql⟩ _ (HP.out.below I.out.BW) FP.out (HQ.out.below I.out.BW) FQ.out).mono ?_
  rintro e w1' ⟨A1, k1, rfl, hr, hb⟩
  rw [HE1.out] at hr ⊢
  have I := Aside0.mk (I.out.below hb)
  have hr := RS.of_R' hr
  dsimp only at hr
  have hb' := below_alloc (Below.refl w1'.heap.size w1') (.cells #[.slice A1 x1.f0.length k1, .int .i64 x1.f1] 24)
  have K1 : Aside0 (PK w1'.heap.size A1 k1 x1 _) := ⟨⟨blk_new w1' (.cells #[.slice A1 x1.f0.length k1, .int .i64 x1.f1] 24), hr.below hb'⟩⟩
  have I := Aside0.mk (I.out.below hb')
  clear hr hb hb' r0 r1 s0 s1
  obtain ⟨r0, r1⟩ := (blk2w I.out.B0).1
  obtain ⟨s0, s1⟩ := (blk2w I.out.B1).1
  go_wp2_with fail
  refine (preds_Or st.length A k ⟨pa, pl⟩ B d ⟨qa, ql⟩ _ (HP.out.below I.out.BW) FP.out (HQ.out.below I.out.BW) FQ.out).mono ?_
  rintro e w2' ⟨A2, k2, rfl, hr, hb⟩
  rw [HE2.out] at hr ⊢
  have I := Aside0.mk (I.out.below hb)
  have K1 := Aside0.mk (K1.out.below hb)
  have hr := RS.of_R' hr
  dsimp only at hr
  have hb' := below_alloc (Below.refl w2'.heap.size w2') (.cells #[.slice A2 x2.f0.length k2, .int .i64 x2.f1] 24)
  have K2 : Aside0 (PK w2'.heap.size A2 k2 x2 _) := ⟨⟨blk_new w2' (.cells #[.slice A2 x2.f0.length k2, .int .i64 x2.f1] 24), hr.below hb'⟩⟩
  have I := Aside0.mk (I.out.below hb')
  have K1 := Aside0.mk (K1.out.below hb')
  clear hr hb hb' r0 r1 s0 s1
  obtain ⟨r0, r1⟩ := (blk2w I.out.B0).1
  obtain ⟨s0, s1⟩ := (blk2w I.out.B1).1
  go_wp2_with fail
  refine (preds_Not st.length A k ⟨pa, pl⟩ _ (HP.out.below I.out.BW) FP.out).mono ?_
  rintro e w3' ⟨A3, k3, rfl, hr, hb⟩
  rw [HE3.out] at hr ⊢
  have I := Aside0.mk (I.out.below hb)
  have K1 := Aside0.mk (K1.out.below hb)
  have K2 := Aside0.mk (K2.out.below hb)
  have hr := RS.of_R' hr
  dsimp only at hr
  have hb' := below_alloc (Below.refl w3'.heap.size w3') (.cells #[.slice A3 x3.f0.length k3, .int .i64 x3.f1] 24)
  have K3 : Aside0 (PK w3'.heap.size A3 k3 x3 _) := ⟨⟨blk_new w3' (.cells #[.slice A3 x3.f0.length k3, .int .i64 x3.f1] 24), hr.below hb'⟩⟩
  have I := Aside0.mk (I.out.below hb')
  have K1 := Aside0.mk (K1.out.below hb')
  have K2 := Aside0.mk (K2.out.below hb')
  clear hr hb hb' r0 r1 s0 s1
  obtain ⟨r0, r1⟩ := (blk2w I.out.B0).1
  obtain ⟨s0, s1⟩ := (blk2w I.out.B1).1
  obtain ⟨t0, t1⟩ := (blk2w K3.out.b).1
  go_wp2_with fail
  refine (preds_Not st.length A3 k3 x3 _ K3.out.r F3.out).mono ?_
  rintro e w4' ⟨A4, k4, rfl, hr, hb⟩
  rw [HE4.out] at hr ⊢
  have I := Aside0.mk (I.out.below hb)
  have K1 := Aside0.mk (K1.out.below hb)
  have K2 := Aside0.mk (K2.out.below hb)
  have K3 := Aside0.mk (K3.out.below hb)
  have hr := RS.of_R' hr
  dsimp only at hr
  have hb' := below_alloc (Below.refl w4'.heap.size w4') (.cells #[.slice A4 pa.length k4, .int .i64 pl] 24)
  have K4 : Aside0 (PK w4'.heap.size A4 k4 (⟨pa, pl⟩ : Pr) _) := ⟨⟨blk_new w4' (.cells #[.slice A4 pa.length k4, .int .i64 pl] 24), hr.below hb'⟩⟩
  have I := Aside0.mk (I.out.below hb')
  have K1 := Aside0.mk (K1.out.below hb')
  have K2 := Aside0.mk (K2.out.below hb')
  have K3 := Aside0.mk (K3.out.below hb')
  clear hr hb hb' r0 r1 s0 s1 t0 t1
  generalize w1'.heap.size = g1 at *
  generalize w2'.heap.size = g2 at *
  generalize w3'.heap.size = g3 at *
  obtain ⟨r0, r1⟩ := (blk2w I.out.B0).1
  obtain ⟨t0, t1⟩ := (blk2w K4.out.b).1
  go_wp2_with fail
  refine (ref24_Same A4 k4 ⟨pa, pl⟩ A k ⟨pa, pl⟩ _ K4.out.r (HP.out.below I.out.BW)).mono ?_
  rintro e w5 ⟨rfl, hb⟩
  have hd : decide ((⟨pa, pl⟩ : Pr) = ⟨pa, pl⟩) = true := decide_eq_true rfl
  rw [hd]
  clear hd
  have I := Aside0.mk (I.out.below hb)
  have K1 := Aside0.mk (K1.out.below hb)
  have K2 := Aside0.mk (K2.out.below hb)
  have K3 := Aside0.mk (K3.out.below hb)
  clear hb r0 r1 t0 t1 K4
  obtain ⟨r0, r1⟩ := (blk2w I.out.B0).1
  go_wp2_with fail
  refine (preds_Value A k ⟨pa, pl⟩ D c st _ (HP.out.below I.out.BW) FP.out (HS.out.below I.out.BW)).mono ?_
  rintro e w6 ⟨rfl, hb⟩
  rw [HVP.out.1, HVP.out.2]
  have I := Aside0.mk (I.out.below hb)
  have K1 := Aside0.mk (K1.out.below hb)
  have K2 := Aside0.mk (K2.out.below hb)
  have K3 := Aside0.mk (K3.out.below hb)
  clear hb r0 r1
  obtain ⟨r0, r1⟩ := (blk2w I.out.B1).1
  go_wp2_with fail
  refine (preds_Value B d ⟨qa, ql⟩ D c st _ (HQ.out.below I.out.BW) FQ.out (HS.out.below I.out.BW)).mono ?_
  rintro e w6 ⟨rfl, hb⟩
  rw [HVQ.out.1, HVQ.out.2]
  have I := Aside0.mk (I.out.below hb)
  have K1 := Aside0.mk (K1.out.below hb)
  have K2 := Aside0.mk (K2.out.below hb)
  have K3 := Aside0.mk (K3.out.below hb)
  clear hb r0 r1
  obtain ⟨r0, r1⟩ := (blk2w K1.out.b).1
  go_wp2_with fail
  refine (preds_Value A1 k1 x1 D c st _ K1.out.r F1.out (HS.out.below I.out.BW)).mono ?_
  rintro e w6 ⟨rfl, hb⟩
  rw [HV1.out.1, HV1.out.2]
  have I := Aside0.mk (I.out.below hb)
  have K1 := Aside0.mk (K1.out.below hb)
  have K2 := Aside0.mk (K2.out.below hb)
  have K3 := Aside0.mk (K3.out.below hb)
  clear hb r0 r1
  obtain ⟨r0, r1⟩ := (blk2w K2.out.b).1
  go_wp2_with fail
  refine (preds_Value A2 k2 x2 D c st _ K2.out.r F2.out (HS.out.below I.out.BW)).mono ?_
  rintro e w6 ⟨rfl, hb⟩
  rw [HV2.out.1, HV2.out.2]
  have I := Aside0.mk (I.out.below hb)
  have K1 := Aside0.mk (K1.out.below hb)
  have K2 := Aside0.mk (K2.out.below hb)
  have K3 := Aside0.mk (K3.out.below hb)
  clear hb r0 r1
  obtain ⟨r0, r1⟩ := (blk2w K3.out.b).1
  go_wp2_with fail
  refine (preds_Value A3 k3 x3 D c st _ K3.out.r F3.out (HS.out.below I.out.BW)).mono ?_
  rintro e w6 ⟨rfl, hb⟩
  rw [HV3.out.1, HV3.out.2]
  have I := Aside0.mk (I.out.below hb)
  have K1 := Aside0.mk (K1.out.below hb)
  have K2 := Aside0.mk (K2.out.below hb)
  have K3 := Aside0.mk (K3.out.below hb)
  clear hb r0 r1
  cases a with
  | true =>
    cases b with
    | true =>
      go_wp2
      go_ret
      exact ⟨rfl, I.out.BW⟩
    | false =>
      go_wp2
      go_ret
      exact ⟨rfl, I.out.BW⟩
  | false =>
    cases b with
    | true =>
      go_wp2
      go_ret
      exact ⟨rfl, I.out.BW⟩
    | false =>
      go_wp2
      go_ret
      exact ⟨rfl, I.out.BW⟩
end Go.Proofs.Ytgcdanpihaeioaa.PH
