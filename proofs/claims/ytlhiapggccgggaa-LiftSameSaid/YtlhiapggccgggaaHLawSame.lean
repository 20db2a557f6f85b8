/- The law LiftSame: the identity changes nothing. -/
import Derived.Test.YtlhiapggccgggaaHCompose
import Derived.Test.YtlhiapggccgggaaHTraceW
import Derived.Test.YtlhiapggccgggaaHSameT
import Derived.Test.YtlhiapggccgggaaHNumsF
import Derived.Test.YtlhiapggccgggaaHAlive25
import Derived.Test.YtlhiapggccgggaaHSelfP
import Derived.Test.YtlhiapggccgggaaHCutL
import Derived.Test.YtlhiapggccgggaaHArgP
import Derived.Test.YtlhiapggccgggaaHFits
import Derived.Test.YtlhiapggccgggaaHIdRef
namespace Go.Proofs.Ytlhiapggccgggaa.PH
open Go.RowKit Go.Proofs.YtlhiapggccgggaaW.PrintWords Go.Proofs.YtlhiapggccgggaaW.PrintLast
set_option linter.unusedVariables false
set_option linter.unusedSimpArgs false

set_option maxHeartbeats 16000000 in
set_option maxRecDepth 100000 in
theorem law_LiftSame (p : CP) (fr : Circ) (q : CP) (tc : Circ) (r : LP) (l : Lf) (v : TP) (t : Run) (D : Option Addr × Nat) (st : List Bool) (w : World) (hp : RC w p fr) (hq : RC w q tc) (hr : RL w r l) (ht : RT w v t) (hs : RS Kd.bool w D.1 D.2 st)
    (nf : fr.Nums) (nt : tc.Nums) (nl : l.Nums) (ntr : (∀ b ∈ t.f0, True) ∧ ∀ r ∈ t.f1, ∀ b ∈ r, True) (ns : ∀ b ∈ st, True) :
    Calls Try.prog 8 #[cv p fr, cv q tc, lv r l, tv v t, .slice D.1 st.length D.2] w fun e w' => e = .returned (.bool true) ∧ Below w.heap.size w w' := by
  obtain ⟨D, dc⟩ := D
  obtain ⟨TF, tf, TI, ti⟩ := v
  dsimp only at hs ⊢
  have HP := Aside0.mk hp
  have HQ := Aside0.mk hq
  have HR := Aside0.mk hr
  have HT := Aside0.mk ht
  have HS := Aside0.mk hs
  have hu26 := Try.underlying26
  have hu31 := Try.underlying31
  have hu57 := Try.underlying57
  have hu29 := Try.underlying29
  have NF := Aside0.mk nf
  have NT := Aside0.mk nt
  have NL := Aside0.mk nl
  have S := (((((Parts.start w).new 26 (ccells p fr)).new 26 (ccells q tc)).new 31 (lcells r l)).new 57 (tcells ⟨TF, tf, TI, ti⟩ t))
  simp only [sz_new] at S
  replace S := Aside0.mk S
  clear hp hq hr ht hs nf nt nl ntr ns
  obtain ⟨og, hog⟩ : ∃ og, [fr, tc].any great = og := ⟨_, rfl⟩
  have HO := Aside0.mk hog
  clear hog
  go_enter Try.func8, Try.ntmps8
  go_upto_region 1 with (fail)
  obtain ⟨w1, hw1⟩ : ∃ W, ((((w.alloc (.cells (ccells p fr) 26)).alloc (.cells (ccells q tc) 26)).alloc (.cells (lcells r l) 31)).alloc (.cells (tcells ⟨TF, tf, TI, ti⟩ t) 57)) = W := ⟨_, rfl⟩
  rw [hw1] at S ⊢
  clear hw1
  go_wp2_with fail
  refine (law25_alive _).mono ?_
  rintro e w2 ⟨rfl, hb⟩
  replace S := Aside0.mk (S.out.below hb)
  clear hb
  obtain ⟨a_0, a_1, a_2, a_3, a_4⟩ := blk5 (S.out.blk 3 rfl)
  obtain ⟨b_0, b_1, b_2, b_3, b_4⟩ := blk5 (S.out.blk 2 rfl)
  go_wp2_with fail
  refine (law25_great (some ⟨w2.heap.size, 0, none⟩) 2 [fr, tc] _ (RS.two_circ (p := p) (q := q) (HP.out.below (below_alloc S.out.B _)) (HQ.out.below (below_alloc S.out.B _)) (fun j u hj => by rw [World.cell?_alloc_at _ _ _ _ (by simp)]; simpa using hj))).mono ?_
  rintro e w3 ⟨rfl, hb⟩
  replace S := Aside0.mk ((S.out.alloc _).below hb)
  rw [HO.out]
  clear a_0 a_1 a_2 a_3 a_4 b_0 b_1 b_2 b_3 b_4 hb
  cases og with
  | true =>
    go_wp2
    go_ret
    exact ⟨rfl, S.out.B⟩
  | false =>
  have hg : great fr = false ∧ great tc = false := by have h_ := HO.out; simpa using h_
  have FF := Aside0.mk (NF.out.fits hg.1)
  have FT := Aside0.mk (NT.out.fits hg.2)
  have SF := Aside0.mk (lat60 hg.1)
  clear hg HO
  obtain ⟨l_0, l_1, l_2, l_3, l_4, l_5, l_6⟩ := blk7 (S.out.blk 1 rfl)
  go_wp2_with fail
  refine (ref25_GreatLift r l _ (HR.out.below S.out.B)).mono ?_
  rintro e w4 ⟨ba, rfl, hba, hb⟩
  replace S := Aside0.mk (S.out.below hb)
  have SA := Aside0.mk hba
  clear hba
  clear l_0 l_1 l_2 l_3 l_4 l_5 l_6 hb
  cases ba with
  | true =>
    go_wp2
    go_ret
    exact ⟨rfl, S.out.B⟩
  | false =>
  have FL := Aside0.mk (NL.out.fits (SA.out rfl))
  have SB := Aside0.mk ((SA.out rfl).2.2.2)
  clear SA
  obtain ⟨t_0, t_1⟩ := blk2 (S.out.blk 0 rfl)
  go_wp2_with fail
  refine (ref25_GreatTrace ⟨TF, tf, TI, ti⟩ t _ (HT.out.below S.out.B)).mono ?_
  rintro e w5 ⟨ba, rfl, hba, hb⟩
  replace S := Aside0.mk (S.out.below hb)
  clear hba
  clear t_0 t_1 hb
  cases ba with
  | true =>
    go_wp2
    go_ret
    exact ⟨rfl, S.out.B⟩
  | false =>
  obtain ⟨a_0, a_1, a_2, a_3, a_4⟩ := blk5 (S.out.blk 3 rfl)
  obtain ⟨b_0, b_1, b_2, b_3, b_4⟩ := blk5 (S.out.blk 2 rfl)
  obtain ⟨l_0, l_1, l_2, l_3, l_4, l_5, l_6⟩ := blk7 (S.out.blk 1 rfl)
  go_wp2_with fail
  refine (lift_Check p q fr tc r l _ (HP.out.below S.out.B) (HQ.out.below S.out.B) (HR.out.below S.out.B) FF.out FT.out FL.out).mono ?_
  rintro e w6 ⟨rfl, hb⟩
  replace S := Aside0.mk (S.out.below hb)
  clear a_0 a_1 a_2 a_3 a_4 b_0 b_1 b_2 b_3 b_4 l_0 l_1 l_2 l_3 l_4 l_5 l_6 hb
  obtain ⟨E, hE⟩ : ∃ E, liftCheck fr tc l = E := ⟨_, rfl⟩
  have HEE := Aside0.mk (show liftErr fr tc l = E from (liftErr_eq fr tc l).trans hE)
  have HE := Aside0.mk hE
  rw [hE]
  clear hE
  by_cases he : E = 0
  case neg =>
    have hne : (E != 0) = true := bne_iff_ne.2 he
    clear he
    go_wp2
    go_ret
    exact ⟨rfl, S.out.B⟩
  subst he
  have LO := Aside0.mk (LOk.of (liftErr_ok HEE.out).2.2)
  have HCF := Aside0.mk (liftErr_ok HEE.out).1
  have HCT := Aside0.mk (liftErr_ok HEE.out).2.1
  obtain ⟨a_0, a_1, a_2, a_3, a_4⟩ := blk5 (S.out.blk 3 rfl)
  obtain ⟨b_0, b_1, b_2, b_3, b_4⟩ := blk5 (S.out.blk 2 rfl)
  obtain ⟨l_0, l_1, l_2, l_3, l_4, l_5, l_6⟩ := blk7 (S.out.blk 1 rfl)
  go_wp2_with fail
  refine (ref25_Check p q fr tc r l _ (HP.out.below S.out.B) (HQ.out.below S.out.B) (HR.out.below S.out.B) FF.out FT.out FL.out).mono ?_
  rintro e w7 ⟨rfl, hb⟩
  replace S := Aside0.mk (S.out.below hb)
  rw [HE.out]
  clear HE HEE
  clear a_0 a_1 a_2 a_3 a_4 b_0 b_1 b_2 b_3 b_4 l_0 l_1 l_2 l_3 l_4 l_5 l_6 hb
  obtain ⟨a_0, a_1, a_2, a_3, a_4⟩ := blk5 (S.out.blk 3 rfl)
  have FI := Aside0.mk ((id_ok HCF.out).fits HCF.out HCF.out (fits_of_check (id_ok HCF.out).k))
  have CI := Aside0.mk (fun W (hb : Below w.heap.size w W) => show Calls Try.prog 12 #[cv p fr] W (fun e w' => RetL W w' (idOf fr) 0 e) from by
    have h_ := lift_Identity p fr W (HP.out.below hb) FF.out
    unfold identity at h_
    rw [if_pos HCF.out, HCF.out] at h_
    exact h_)
  obtain ⟨⟨y, f⟩, hy⟩ : ∃ y, composeC fr fr tc (idOf fr) l = y := ⟨_, rfl⟩
  have HSF := Aside0.mk (self_law HCF.out LO.out (by have := SF.out; have := SB.out; omega) hy)
  have CC := Aside0.mk (fun W ri (hb : Below w.heap.size w W) (hi : RL W ri (idOf fr)) => show Calls Try.prog 17 #[cv p fr, cv p fr, cv q tc, lv ri (idOf fr), lv r l] W (fun e w' => RetL W w' y f e) from by
    have h_ := lift_Compose p p q fr fr tc ri r (idOf fr) l W (HP.out.below hb) (HP.out.below hb) (HQ.out.below hb) hi (HR.out.below hb) FF.out FF.out FT.out FI.out FL.out SB.out SF.out
    rw [hy] at h_
    exact h_)
  clear hy
  go_wp2_with fail
  refine (CI.out _ S.out.B).mono ?_
  rintro e w8 ⟨ri, rfl, hri, hb⟩
  replace S := Aside0.mk (S.out.below hb)
  have RI := Aside0.mk hri
  clear hri CI
  clear a_0 a_1 a_2 a_3 a_4 hb
  obtain ⟨li, hli⟩ : ∃ li, idOf fr = li := ⟨_, rfl⟩
  rw [hli] at RI CC FI ⊢
  have HLI := Aside0.mk hli
  clear hli
  replace S := Aside0.mk (S.out.new 31 (lcells ri li))
  replace RI := Aside0.mk (RI.out.below (below_alloc (Below.refl _ _) (.cells (lcells ri li) 31)))
  go_upto_region 5 with (fail)
  generalize w8.heap.size = gi at *
  generalize w8.alloc (.cells (lcells ri li) 31) = w8b at *
  obtain ⟨a_0, a_1, a_2, a_3, a_4⟩ := blk5 (S.out.blk 4 rfl)
  obtain ⟨b_0, b_1, b_2, b_3, b_4⟩ := blk5 (S.out.blk 3 rfl)
  obtain ⟨i_0, i_1, i_2, i_3, i_4, i_5, i_6⟩ := blk7 (S.out.blk 0 rfl)
  obtain ⟨l_0, l_1, l_2, l_3, l_4, l_5, l_6⟩ := blk7 (S.out.blk 2 rfl)
  go_wp2_with fail
  refine (CC.out _ ri S.out.B RI.out).mono ?_
  rintro e w9 ⟨rx, rfl, hrx, hb⟩
  replace S := Aside0.mk (S.out.below hb)
  replace RI := Aside0.mk (RI.out.below hb)
  have RX := Aside0.mk hrx
  clear hrx CC
  clear a_0 a_1 a_2 a_3 a_4 b_0 b_1 b_2 b_3 b_4 i_0 i_1 i_2 i_3 i_4 i_5 i_6 l_0 l_1 l_2 l_3 l_4 l_5 l_6 hb
  replace S := Aside0.mk (S.out.new 31 (lcells rx y))
  replace RI := Aside0.mk (RI.out.below (below_alloc (Below.refl _ _) (.cells (lcells rx y) 31)))
  replace RX := Aside0.mk (RX.out.below (below_alloc (Below.refl _ _) (.cells (lcells rx y) 31)))
  go_upto_region 6 with (fail)
  generalize w9.heap.size = gx at *
  generalize w9.alloc (.cells (lcells rx y) 31) = w9b at *
  by_cases hf : f = 0
  case neg =>
    have hfb : (f == 0) = false := beq_eq_false_iff_ne.2 hf
    clear hf HSF
    obtain ⟨a_0, a_1, a_2, a_3, a_4⟩ := blk5 (S.out.blk 5 rfl)
    obtain ⟨t_0, t_1⟩ := blk2 (S.out.blk 2 rfl)
    go_wp2_with fail
    refine (ref25_Fits p fr ⟨TF, tf, TI, ti⟩ t _ FF.out.h1 FF.out.i0 (HT.out.below S.out.B)).mono ?_
    rintro e w10 ⟨rfl, hb⟩
    replace S := Aside0.mk (S.out.below hb)
    replace RI := Aside0.mk (RI.out.below hb)
    replace RX := Aside0.mk (RX.out.below hb)
    clear a_0 a_1 a_2 a_3 a_4 t_0 t_1 hb
    obtain ⟨rf, hrf⟩ : ∃ b, runFits fr t = b := ⟨_, rfl⟩
    have HRF := Aside0.mk hrf
    rw [hrf]
    clear hrf
    obtain ⟨t_0, t_1⟩ := blk2 (S.out.blk 2 rfl)
    cases rf with
    | false =>
      go_wp2
      go_ret
      exact ⟨rfl, S.out.B⟩
    | true =>
    by_cases h100 : 100 < t.f1.length
    · have h100b : decide (100 < (t.f1.length : Int)) = true := decide_eq_true (by omega)
      clear h100
      go_wp2
      go_ret
      exact ⟨rfl, S.out.B⟩
    have h100b : decide (100 < (t.f1.length : Int)) = false := decide_eq_false (by omega)
    obtain ⟨C, hC⟩ : ∃ C, cutLen fr t.f0 t.f1 = C := ⟨_, rfl⟩
    have hfit := runFits_ok HRF.out
    have HCL := Aside0.mk (show C ≤ t.f1.length from hC ▸ cutLen_le fr t.f0 t.f1)
    have HCP := Aside0.mk (show 1 ≤ C from hC ▸ cutLen_pos fr t.f0 t.f1 hfit.2.1)
    obtain ⟨U, hU⟩ : ∃ U, t.f1.take C = U := ⟨_, rfl⟩
    have HUL := Aside0.mk (show U.length = C by rw [← hU, List.length_take]; have := HCL.out; omega)
    have HIT := Aside0.mk (show traceC fr fr li t = (⟨t.f0, U⟩, 0) by rw [← HLI.out, id_trace HCF.out HRF.out (by omega), hC, hU])
    have CT := Aside0.mk (fun W (hb : Below w.heap.size w W) (hi : RL W ri li) => show Calls Try.prog 23 #[cv p fr, cv p fr, lv ri li, tv ⟨TF, tf, TI, ti⟩ t] W (fun e w' => RetTr W w' (⟨t.f0, U⟩, 0) e) from HIT.out ▸ lift_Trace p p fr fr ri li ⟨TF, tf, TI, ti⟩ t W (HP.out.below hb) (HP.out.below hb) hi (HT.out.below hb) FF.out FF.out FI.out)
    have HM1 := Aside0.mk (show t.f1.length ≤ 100 by omega)
    have HCUT := Aside0.mk (fun W qu (hb : Below w.heap.size w W) (h : RT W qu ⟨t.f0, U⟩) => show Calls Try.prog 30 #[cv p fr, .agg #[.slice qu.A0 t.f0.length qu.c0, .slice qu.A1 U.length qu.c1], .bool (decide (C < t.f1.length))] W (fun e w' => e = .returned (.bool true) ∧ Below W.heap.size W w') from by
      rw [HUL.out]
      exact law25_cut p fr qu t.f0 t.f1 C W (HP.out.below hb) (hU ▸ h) FF.out HCF.out hfit.1 hfit.2.2 hC HCL.out (by have := HM1.out; omega))
    have HTU := Aside0.mk (show RT w ⟨TF, tf, TI, ti⟩ ⟨t.f0, U⟩ from ⟨HT.out.s0, hU ▸ ⟨Kd.C_take (m := C) HT.out.s1.r HCL.out, by have := HT.out.s1.h; rw [List.length_take]; omega⟩⟩)
    obtain ⟨ad, hTI⟩ : ∃ ad, TI = some ad := by
      obtain ⟨ad, B, cB, e1, _⟩ := at_row HT.out.s1.r 0 hfit.2.1
      exact ⟨ad, e1⟩
    subst hTI
    clear h100 hC hfit hU HIT
    obtain ⟨a_0, a_1, a_2, a_3, a_4⟩ := blk5 (S.out.blk 5 rfl)
    obtain ⟨i_0, i_1, i_2, i_3, i_4, i_5, i_6⟩ := blk7 (S.out.blk 1 rfl)
    obtain ⟨t_0, t_1⟩ := blk2 (S.out.blk 2 rfl)
    go_wp2_with fail
    refine (CT.out _ S.out.B RI.out).mono ?_
    rintro e w11 ⟨qu, rfl, hru, hb⟩
    replace S := Aside0.mk (S.out.below hb)
    replace RI := Aside0.mk (RI.out.below hb)
    replace RX := Aside0.mk (RX.out.below hb)
    have RU := Aside0.mk hru
    clear hru CT h100b
    clear t_0 t_1 a_0 a_1 a_2 a_3 a_4 i_0 i_1 i_2 i_3 i_4 i_5 i_6 hb
    replace S := Aside0.mk (S.out.new 57 (tcells qu ⟨t.f0, U⟩))
    replace RI := Aside0.mk (RI.out.below (below_alloc (Below.refl _ _) (.cells (tcells qu ⟨t.f0, U⟩) 57)))
    replace RX := Aside0.mk (RX.out.below (below_alloc (Below.refl _ _) (.cells (tcells qu ⟨t.f0, U⟩) 57)))
    replace RU := Aside0.mk (RU.out.below (below_alloc (Below.refl _ _) (.cells (tcells qu ⟨t.f0, U⟩) 57)))
    go_upto_region 20 with (fail)
    generalize w11.heap.size = gu at *
    generalize w11.alloc (.cells (tcells qu ⟨t.f0, U⟩) 57) = w11b at *
    obtain ⟨hb, hhb⟩ : ∃ b, decide (C < t.f1.length) = b := ⟨_, rfl⟩
    rw [hhb] at HCUT
    have hw1 : decide (U.length < t.f1.length) = hb := by rw [← hhb, HUL.out]
    have hc1 : (U.length : Int) ≤ (ti : Int) := by have h_ : t.f1.length ≤ ti := HT.out.s1.h; have := HUL.out; have := HCL.out; omega
    have hn1 : decide ((U.length : Int) < 1) = false := decide_eq_false (by have := HUL.out; have := HCP.out; omega)
    have hn2 : decide (t.f1.length < U.length) = false := decide_eq_false (by have := HUL.out; have := HCL.out; omega)
    have HW1 := Aside0.mk hw1
    clear hhb hw1
    obtain ⟨t_0, t_1⟩ := blk2 (S.out.blk 3 rfl)
    obtain ⟨u_0, u_1⟩ := blk2 (S.out.blk 0 rfl)
    go_upto_region 21 with (fail)
    clear t_0 t_1 u_0 u_1
    go_wp2
    refine start_ (n := 25) (S := (fun W => Parts w.heap.size w W [pB gu 57 (tcells qu ⟨t.f0, U⟩), pB gx 31 (lcells rx y), pB gi 31 (lcells ri li), pB (w.heap.size + 1 + 1 + 1) 57 (tcells ⟨TF, tf, some ad, ti⟩ t), pB (w.heap.size + 1 + 1) 31 (lcells r l), pB (w.heap.size + 1) 26 (ccells q tc), pB w.heap.size 26 (ccells p fr)])) (ds := []) #[false, false, false, false, false, false, false, false, false, false, false, false, false, false, false, false, false, false, false, false, false, false, false, false, false] (by kernel_rfl) rfl rfl S.out.drew (fun hHeld => ?_)
    refine pure_ (i := 0) (N := some 146) (v := ?_) (a' := ?_) #[true, false, false, false, false, false, false, false, false, false, false, false, false, false, false, false, false, false, false, false, false, false, false, false, false] rfl rfl (by kernel_rfl) (fun _ _ _ h => h) (Or.inl ⟨by rfl, ?_⟩) ?_ ?_
    rotate_left
    · intro w'
      go_simp
      with_reducible rfl
    rotate_left
    · simp only [Act.put, List.setIfInBounds_toArray, List.set_cons_zero, List.set_cons_succ]
      rfl
    refine pure_ (i := 1) (N := some 147) (v := ?_) (a' := ?_) #[true, true, false, false, false, false, false, false, false, false, false, false, false, false, false, false, false, false, false, false, false, false, false, false, false] rfl rfl (by kernel_rfl) (fun _ _ _ h => h) (Or.inl ⟨by rfl, ?_⟩) ?_ ?_
    rotate_left
    · intro w'
      go_simp
      with_reducible rfl
    rotate_left
    · simp only [Act.put, List.setIfInBounds_toArray, List.set_cons_zero, List.set_cons_succ]
      rfl
    refine pure_ (i := 2) (N := some 148) (v := ?_) (a' := ?_) #[true, true, true, false, false, false, false, false, false, false, false, false, false, false, false, false, false, false, false, false, false, false, false, false, false] rfl rfl (by kernel_rfl) (fun _ _ _ h => h) (Or.inl ⟨by rfl, ?_⟩) ?_ ?_
    rotate_left
    · intro w'
      go_simp
      with_reducible rfl
    rotate_left
    · simp only [Act.put, List.setIfInBounds_toArray, List.set_cons_zero, List.set_cons_succ]
      rfl
    refine pure_ (i := 3) (N := some 149) (v := ?_) (a' := ?_) #[true, true, true, true, false, false, false, false, false, false, false, false, false, false, false, false, false, false, false, false, false, false, false, false, false] rfl rfl (by kernel_rfl) (fun _ _ _ h => h) (Or.inl ⟨by rfl, ?_⟩) ?_ ?_
    rotate_left
    · intro w'
      go_simp
      with_reducible rfl
    rotate_left
    · simp only [Act.put, List.setIfInBounds_toArray, List.set_cons_zero, List.set_cons_succ]
      rfl
    refine pure_ (i := 4) (N := some 150) (v := ?_) (a' := ?_) #[true, true, true, true, true, false, false, false, false, false, false, false, false, false, false, false, false, false, false, false, false, false, false, false, false] rfl rfl (by kernel_rfl) (fun _ _ _ h => h) (Or.inl ⟨by rfl, ?_⟩) ?_ ?_
    rotate_left
    · intro w'
      go_simp
      with_reducible rfl
    rotate_left
    · simp only [Act.put, List.setIfInBounds_toArray, List.set_cons_zero, List.set_cons_succ]
      rfl
    refine pure_ (i := 5) (N := some 151) (v := ?_) (a' := ?_) #[true, true, true, true, true, true, false, false, false, false, false, false, false, false, false, false, false, false, false, false, false, false, false, false, false] rfl rfl (by kernel_rfl) (fun _ _ _ h => h) (Or.inl ⟨by rfl, ?_⟩) ?_ ?_
    rotate_left
    · intro w'
      go_simp
      with_reducible rfl
    rotate_left
    · simp only [Act.put, List.setIfInBounds_toArray, List.set_cons_zero, List.set_cons_succ]
      rfl
    refine pure_ (i := 6) (N := some 152) (v := ?_) (a' := ?_) #[true, true, true, true, true, true, true, false, false, false, false, false, false, false, false, false, false, false, false, false, false, false, false, false, false] rfl rfl (by kernel_rfl) (fun _ _ _ h => h) (Or.inl ⟨by rfl, ?_⟩) ?_ ?_
    rotate_left
    · intro w'
      go_simp
      with_reducible rfl
    rotate_left
    · simp only [Act.put, List.setIfInBounds_toArray, List.set_cons_zero, List.set_cons_succ]
      rfl
    refine pure_ (i := 7) (N := some 153) (v := ?_) (a' := ?_) #[true, true, true, true, true, true, true, true, false, false, false, false, false, false, false, false, false, false, false, false, false, false, false, false, false] rfl rfl (by kernel_rfl) (fun _ _ _ h => h) (Or.inl ⟨by rfl, ?_⟩) ?_ ?_
    rotate_left
    · intro w'
      go_simp
      with_reducible rfl
    rotate_left
    · simp only [Act.put, List.setIfInBounds_toArray, List.set_cons_zero, List.set_cons_succ]
      rfl
    refine pure_ (i := 8) (N := some 154) (v := ?_) (a' := ?_) #[true, true, true, true, true, true, true, true, true, false, false, false, false, false, false, false, false, false, false, false, false, false, false, false, false] rfl rfl (by kernel_rfl) (fun _ _ _ h => h) (Or.inl ⟨by rfl, ?_⟩) ?_ ?_
    rotate_left
    · intro w'
      go_simp
      with_reducible rfl
    rotate_left
    · simp only [Act.put, List.setIfInBounds_toArray, List.set_cons_zero, List.set_cons_succ]
      rfl
    refine take_ (i := 9) (N := some 155) (v := ?_) (a' := ?_) #[true, true, true, true, true, true, true, true, true, true, false, false, false, false, false, false, false, false, false, false, false, false, false, false, false] rfl rfl (by kernel_rfl) (fun _ _ _ h => h) (Or.inl ⟨by rfl, ?_⟩) hHeld ?_ ?_
    rotate_left
    · intro w' s0
      obtain ⟨d0, d1⟩ := blk2 (s0.blk 3 rfl); obtain ⟨e0, e1⟩ := blk2 (s0.blk 0 rfl)
      go_simp
      with_reducible rfl
    rotate_left
    · simp only [Act.put, List.setIfInBounds_toArray, List.set_cons_zero, List.set_cons_succ]
      rfl
    refine pure_ (i := 10) (N := some 156) (v := ?_) (a' := ?_) #[true, true, true, true, true, true, true, true, true, true, true, false, false, false, false, false, false, false, false, false, false, false, false, false, false] rfl rfl (by kernel_rfl) (fun _ _ _ h => h) (Or.inl ⟨by rfl, ?_⟩) ?_ ?_
    rotate_left
    · intro w'
      go_simp
      with_reducible rfl
    rotate_left
    · simp only [Act.put, List.setIfInBounds_toArray, List.set_cons_zero, List.set_cons_succ]
      rfl
    refine pure_ (i := 11) (N := some 157) (v := ?_) (a' := ?_) #[true, true, true, true, true, true, true, true, true, true, true, true, false, false, false, false, false, false, false, false, false, false, false, false, false] rfl rfl (by kernel_rfl) (fun _ _ _ h => h) (Or.inl ⟨by rfl, ?_⟩) ?_ ?_
    rotate_left
    · intro w'
      go_simp
      with_reducible rfl
    rotate_left
    · simp only [Act.put, List.setIfInBounds_toArray, List.set_cons_zero, List.set_cons_succ]
      rfl
    refine pure_ (i := 12) (N := some 158) (v := ?_) (a' := ?_) #[true, true, true, true, true, true, true, true, true, true, true, true, true, false, false, false, false, false, false, false, false, false, false, false, false] rfl rfl (by kernel_rfl) (fun _ _ _ h => h) (Or.inl ⟨by rfl, ?_⟩) ?_ ?_
    rotate_left
    · intro w'
      go_simp
      with_reducible rfl
    rotate_left
    · simp only [Act.put, List.setIfInBounds_toArray, List.set_cons_zero, List.set_cons_succ]
      rfl
    refine pure_ (i := 13) (N := some 159) (v := ?_) (a' := ?_) #[true, true, true, true, true, true, true, true, true, true, true, true, true, true, false, false, false, false, false, false, false, false, false, false, false] rfl rfl (by kernel_rfl) (fun _ _ _ h => h) (Or.inl ⟨by rfl, ?_⟩) ?_ ?_
    rotate_left
    · intro w'
      go_simp
      with_reducible rfl
    rotate_left
    · simp only [Act.put, List.setIfInBounds_toArray, List.set_cons_zero, List.set_cons_succ]
      rfl
    refine take_ (i := 14) (N := some 160) (v := ?_) (a' := ?_) #[true, true, true, true, true, true, true, true, true, true, true, true, true, true, true, false, false, false, false, false, false, false, false, false, false] rfl rfl (by kernel_rfl) (fun _ _ _ h => h) (Or.inl ⟨by rfl, ?_⟩) hHeld ?_ ?_
    rotate_left
    · intro w' s0
      obtain ⟨d0, d1⟩ := blk2 (s0.blk 3 rfl); obtain ⟨e0, e1⟩ := blk2 (s0.blk 0 rfl)
      go_simp
      with_reducible rfl
    rotate_left
    · simp only [Act.put, List.setIfInBounds_toArray, List.set_cons_zero, List.set_cons_succ]
      rfl
    refine pure_ (i := 15) (N := some 161) (v := ?_) (a' := ?_) #[true, true, true, true, true, true, true, true, true, true, true, true, true, true, true, true, false, false, false, false, false, false, false, false, false] rfl rfl (by kernel_rfl) (fun _ _ _ h => h) (Or.inl ⟨by rfl, ?_⟩) ?_ ?_
    rotate_left
    · intro w'
      go_simp
      with_reducible rfl
    rotate_left
    · simp only [Act.put, List.setIfInBounds_toArray, List.set_cons_zero, List.set_cons_succ]
      rfl
    refine take_ (i := 16) (N := some 162) (v := ?_) (a' := ?_) #[true, true, true, true, true, true, true, true, true, true, true, true, true, true, true, true, true, false, false, false, false, false, false, false, false] rfl rfl (by kernel_rfl) (fun _ _ _ h => h) (Or.inl ⟨by rfl, ?_⟩) hHeld ?_ ?_
    rotate_left
    · intro w' s0
      obtain ⟨d0, d1⟩ := blk2 (s0.blk 3 rfl); obtain ⟨e0, e1⟩ := blk2 (s0.blk 0 rfl)
      go_simp
      with_reducible rfl
    rotate_left
    · simp only [Act.put, List.setIfInBounds_toArray, List.set_cons_zero, List.set_cons_succ]
      rfl
    refine pure_ (i := 17) (N := some 163) (v := ?_) (a' := ?_) #[true, true, true, true, true, true, true, true, true, true, true, true, true, true, true, true, true, true, false, false, false, false, false, false, false] rfl rfl (by kernel_rfl) (fun _ _ _ h => h) (Or.inl ⟨by rfl, ?_⟩) ?_ ?_
    rotate_left
    · intro w'
      go_simp
      with_reducible rfl
    rotate_left
    · simp only [Act.put, List.setIfInBounds_toArray, List.set_cons_zero, List.set_cons_succ]
      rfl
    refine take_ (i := 18) (N := some 164) (v := ?_) (a' := ?_) #[true, true, true, true, true, true, true, true, true, true, true, true, true, true, true, true, true, true, true, false, false, false, false, false, false] rfl rfl (by kernel_rfl) (fun _ _ _ h => h) (Or.inl ⟨by rfl, ?_⟩) hHeld ?_ ?_
    rotate_left
    · intro w' s0
      obtain ⟨d0, d1⟩ := blk2 (s0.blk 3 rfl); obtain ⟨e0, e1⟩ := blk2 (s0.blk 0 rfl)
      go_simp
      with_reducible rfl
    rotate_left
    · simp only [Act.put, List.setIfInBounds_toArray, List.set_cons_zero, List.set_cons_succ]
      rfl
    refine pure_ (i := 19) (N := some 165) (v := ?_) (a' := ?_) #[true, true, true, true, true, true, true, true, true, true, true, true, true, true, true, true, true, true, true, true, false, false, false, false, false] rfl rfl (by kernel_rfl) (fun _ _ _ h => h) (Or.inl ⟨by rfl, ?_⟩) ?_ ?_
    rotate_left
    · intro w'
      go_simp
      with_reducible rfl
    rotate_left
    · simp only [Act.put, List.setIfInBounds_toArray, List.set_cons_zero, List.set_cons_succ]
      rfl
    refine pure_ (i := 20) (N := some 166) (v := ?_) (a' := ?_) #[true, true, true, true, true, true, true, true, true, true, true, true, true, true, true, true, true, true, true, true, true, false, false, false, false] rfl rfl (by kernel_rfl) (fun _ _ _ h => h) (Or.inl ⟨by rfl, ?_⟩) ?_ ?_
    rotate_left
    · intro w'
      go_simp
      with_reducible rfl
    rotate_left
    · simp only [Act.put, List.setIfInBounds_toArray, List.set_cons_zero, List.set_cons_succ]
      rfl
    refine pure_ (i := 21) (N := some 167) (v := ?_) (a' := ?_) #[true, true, true, true, true, true, true, true, true, true, true, true, true, true, true, true, true, true, true, true, true, true, false, false, false] rfl rfl (by kernel_rfl) (fun _ _ _ h => h) (Or.inl ⟨by rfl, ?_⟩) ?_ ?_
    rotate_left
    · intro w'
      go_simp
      with_reducible rfl
    rotate_left
    · simp only [Act.put, List.setIfInBounds_toArray, List.set_cons_zero, List.set_cons_succ]
      rfl
    refine one_ (i := 22) (N := some 168) #[true, true, true, true, true, true, true, true, true, true, true, true, true, true, true, true, true, true, true, true, true, true, true, false, false] rfl rfl (by kernel_rfl) (by decide) (fun K hK => ?_)
    refine goes_ Try.func26 (by kernel_rfl) rfl #[tv qu ⟨t.f0, U⟩, .agg #[.slice TF t.f0.length tf, .slice (some ad) U.length ti]] (by rfl) rfl rfl (by simp only [List.map_toArray, List.map_cons, List.map_nil] <;> rfl) ?_
    refine (ref25_SameTrace qu ⟨TF, tf, some ad, ti⟩ ⟨t.f0, U⟩ _ (RU.out.below (below_drew (Below.refl _ _))) (HTU.out.below S.out.drew.B)).mono ?_
    rintro e w30 ⟨rfl, hb3⟩
    refine ⟨_, rfl, ?_⟩
    have S30 := Aside0.mk (S.out.drew.below hb3)
    replace RU := Aside0.mk ((RU.out.below (below_drew (Below.refl _ _))).below hb3)
    clear hb3
    refine hK.out _ _ S30.out (fun hHeld => ?_)
    clear hK K
    refine norm_ (a' := ?_) ?_ ?_
    rotate_left
    · show Act.put _ (some 168) _ = _
      simp only [Act.put, List.setIfInBounds_toArray, List.set_cons_zero, List.set_cons_succ]
      rfl
    refine pure_ (i := 23) (N := some 169) (v := ?_) (a' := ?_) #[true, true, true, true, true, true, true, true, true, true, true, true, true, true, true, true, true, true, true, true, true, true, true, true, false] rfl rfl (by kernel_rfl) (fun _ _ _ h => h) (Or.inl ⟨by rfl, ?_⟩) ?_ ?_
    rotate_left
    · intro w'
      go_simp
      with_reducible rfl
    rotate_left
    · simp only [Act.put, List.setIfInBounds_toArray, List.set_cons_zero, List.set_cons_succ]
      rfl
    refine pure_ (i := 24) (N := some 170) (v := ?_) (a' := ?_) #[true, true, true, true, true, true, true, true, true, true, true, true, true, true, true, true, true, true, true, true, true, true, true, true, true] rfl rfl (by kernel_rfl) (fun _ _ _ h => h) (Or.inl ⟨by rfl, ?_⟩) ?_ ?_
    rotate_left
    · intro w'
      go_simp
      with_reducible rfl
    rotate_left
    · simp only [Act.put, List.setIfInBounds_toArray, List.set_cons_zero, List.set_cons_succ]
      rfl
    refine done_ (by kernel_rfl) ?_
    clear hHeld S hn1 hn2 hc1
    have hw1 := HW1.out
    have S := S30
    clear S30
    obtain ⟨a_0, a_1, a_2, a_3, a_4⟩ := blk5 (S.out.blk 6 rfl)
    obtain ⟨t_0, t_1⟩ := blk2 (S.out.blk 3 rfl)
    obtain ⟨u_0, u_1⟩ := blk2 (S.out.blk 0 rfl)
    go_wp2_with fail
    refine (HCUT.out _ qu S.out.B RU.out).mono ?_
    rintro e w31 ⟨rfl, hb3⟩
    replace S := Aside0.mk (S.out.below hb3)
    clear hb3
    go_wp2
    go_ret
    exact ⟨rfl, S.out.B⟩
  obtain ⟨hE, hck, hval⟩ := HSF.out hf
  have HEQ := Aside0.mk hE
  have HCK := Aside0.mk hck
  have HVAL := Aside0.mk hval
  have hfb : (f == 0) = true := beq_iff_eq.2 hf
  clear hf HSF hE hck hval
  have RK := Aside0.mk (show ∀ W, RL W rx y → Below w.heap.size w W → RL W ⟨rx.A2, rx.c2, rx.A3, rx.c3, rx.A4, rx.c4, r.A5, r.c5⟩ l from fun W h hb => by
    have h_ : RL W ⟨rx.A2, rx.c2, rx.A3, rx.c3, rx.A4, rx.c4, r.A5, r.c5⟩ ⟨y.f0, y.f1, y.f2, y.f3, y.f4, l.f5⟩ := ⟨h.s2, h.s3, h.s4, (HR.out.below hb).s5⟩
    rw [HEQ.out] at h_
    exact h_)
  obtain ⟨x_0, x_1, x_2, x_3, x_4, x_5, x_6⟩ := blk7 (S.out.blk 0 rfl)
  go_upto_region 10 with (fail)
  replace S := Aside0.mk (S.out.new 31 (lcells rx y))
  have hbw := below_set (j := 6) (v := .int .i64 l.f5.f1) (below_set (j := 5) (v := .slice r.A5 l.f5.f0.length r.c5) (below_alloc (Below.refl w9b.heap.size w9b) (.cells (lcells rx y) 31)) (Nat.le_refl _)) (Nat.le_refl _)
  replace RI := Aside0.mk (RI.out.below hbw)
  replace RX := Aside0.mk (RX.out.below hbw)
  clear hbw
  generalize w9b.heap.size = gy at *
  generalize w9b.alloc (.cells (lcells rx y) 31) = w20 at *
  clear x_0 x_1 x_2 x_3 x_4 x_5 x_6
  obtain ⟨l_0, l_1, l_2, l_3, l_4, l_5, l_6⟩ := blk7 (S.out.blk 4 rfl)
  obtain ⟨y5, z5⟩ := S.out.cell 0 rfl 5 rfl
  obtain ⟨y6, z6⟩ := S.out.cell 0 rfl 6 rfl
  go_upto_region 11 with (fail)
  replace S := Aside0.mk ((S.out.put 0 rfl 5 (.slice r.A5 l.f5.f0.length r.c5) rfl).put 0 rfl 6 (.int .i64 l.f5.f1) rfl)
  generalize (w20.setCell ⟨gy, 5, none⟩ (.slice r.A5 l.f5.f0.length r.c5)).setCell ⟨gy, 6, none⟩ (.int .i64 l.f5.f1) = w21 at *
  clear l_0 l_1 l_2 l_3 l_4 l_5 l_6 y5 z5 y6 z6
  replace S := Aside0.mk (show Parts w.heap.size w w21 [pB gy 31 (lcells ⟨rx.A2, rx.c2, rx.A3, rx.c3, rx.A4, rx.c4, r.A5, r.c5⟩ ⟨y.f0, y.f1, y.f2, y.f3, y.f4, l.f5⟩), pB gx 31 (lcells rx y), pB gi 31 (lcells ri li), pB (w.heap.size + 1 + 1 + 1) 57 (tcells ⟨TF, tf, TI, ti⟩ t), pB (w.heap.size + 1 + 1) 31 (lcells r l), pB (w.heap.size + 1) 26 (ccells q tc), pB w.heap.size 26 (ccells p fr)] from S.out)
  rw [HEQ.out] at S
  obtain ⟨y_0, y_1, y_2, y_3, y_4, y_5, y_6⟩ := blk7 (S.out.blk 0 rfl)
  obtain ⟨l_0, l_1, l_2, l_3, l_4, l_5, l_6⟩ := blk7 (S.out.blk 4 rfl)
  go_wp2_with fail
  refine ((show Calls _ _ #[lv ⟨rx.A2, rx.c2, rx.A3, rx.c3, rx.A4, rx.c4, r.A5, r.c5⟩ l, lv r l] _ _ from ref25_SameLift ⟨rx.A2, rx.c2, rx.A3, rx.c3, rx.A4, rx.c4, r.A5, r.c5⟩ r l l _ (RK.out _ RX.out S.out.B) (HR.out.below S.out.B))).mono ?_
  rintro e w22 ⟨rfl, hb⟩
  replace S := Aside0.mk (S.out.below hb)
  replace RI := Aside0.mk (RI.out.below hb)
  replace RX := Aside0.mk (RX.out.below hb)
  rw [show decide (l = l) = true from decide_eq_true rfl]
  clear hfb
  clear y_0 y_1 y_2 y_3 y_4 y_5 y_6 l_0 l_1 l_2 l_3 l_4 l_5 l_6 hb
  obtain ⟨a_0, a_1, a_2, a_3, a_4⟩ := blk5 (S.out.blk 6 rfl)
  obtain ⟨x_0, x_1, x_2, x_3, x_4, x_5, x_6⟩ := blk7 (S.out.blk 1 rfl)
  go_wp2_with fail
  refine (ref24_Check (fr.f1.length : Int) rx.A5 rx.c5 y.f5 _ RX.out.s5 (fits_of_check HCK.out)).mono ?_
  rintro e w23 ⟨rfl, hb⟩
  replace S := Aside0.mk (S.out.below hb)
  replace RI := Aside0.mk (RI.out.below hb)
  replace RX := Aside0.mk (RX.out.below hb)
  rw [HCK.out]
  clear a_0 a_1 a_2 a_3 a_4 x_0 x_1 x_2 x_3 x_4 x_5 x_6 hb
  obtain ⟨x_0, x_1, x_2, x_3, x_4, x_5, x_6⟩ := blk7 (S.out.blk 1 rfl)
  go_wp2_with fail
  refine (preds_Value rx.A5 rx.c5 y.f5 D dc st _ RX.out.s5 (fits_of_check HCK.out) (HS.out.below S.out.B)).mono ?_
  rintro e w24 ⟨rfl, hb⟩
  replace S := Aside0.mk (S.out.below hb)
  replace RI := Aside0.mk (RI.out.below hb)
  replace RX := Aside0.mk (RX.out.below hb)
  clear x_0 x_1 x_2 x_3 x_4 x_5 x_6 hb
  obtain ⟨l_0, l_1, l_2, l_3, l_4, l_5, l_6⟩ := blk7 (S.out.blk 4 rfl)
  go_wp2_with fail
  refine (preds_Value r.A5 r.c5 l.f5 D dc st _ (HR.out.below S.out.B).s5 FL.out.p (HS.out.below S.out.B)).mono ?_
  rintro e w25 ⟨rfl, hb⟩
  replace S := Aside0.mk (S.out.below hb)
  replace RI := Aside0.mk (RI.out.below hb)
  replace RX := Aside0.mk (RX.out.below hb)
  clear l_0 l_1 l_2 l_3 l_4 l_5 l_6 hb
  replace S := Aside0.mk S.out.tail
  by_cases hn : st.length = fr.f1.length
  case neg =>
    have hnb : ((st.length : Int) == (fr.f1.length : Int)) = false := beq_eq_false_iff_ne.2 (by omega)
    clear hn
    generalize valueOf y.f5 st = va
    generalize valueOf l.f5 st = vb
    generalize predCheck (↑st.length) y.f5 = ea
    generalize predCheck (↑st.length) l.f5 = eb
    obtain ⟨a_0, a_1, a_2, a_3, a_4⟩ := blk5 (S.out.blk 5 rfl)
    obtain ⟨t_0, t_1⟩ := blk2 (S.out.blk 2 rfl)
    go_wp2_with fail
    refine (ref25_Fits p fr ⟨TF, tf, TI, ti⟩ t _ FF.out.h1 FF.out.i0 (HT.out.below S.out.B)).mono ?_
    rintro e w26 ⟨rfl, hb⟩
    replace S := Aside0.mk (S.out.below hb)
    replace RI := Aside0.mk (RI.out.below hb)
    replace RX := Aside0.mk (RX.out.below hb)
    clear a_0 a_1 a_2 a_3 a_4 t_0 t_1 hb
    obtain ⟨rf, hrf⟩ : ∃ b, runFits fr t = b := ⟨_, rfl⟩
    have HRF := Aside0.mk hrf
    rw [hrf]
    clear hrf
    obtain ⟨t_0, t_1⟩ := blk2 (S.out.blk 2 rfl)
    cases rf with
    | false =>
      go_wp2
      go_ret
      exact ⟨rfl, S.out.B⟩
    | true =>
    by_cases h100 : 100 < t.f1.length
    · have h100b : decide (100 < (t.f1.length : Int)) = true := decide_eq_true (by omega)
      clear h100
      go_wp2
      go_ret
      exact ⟨rfl, S.out.B⟩
    have h100b : decide (100 < (t.f1.length : Int)) = false := decide_eq_false (by omega)
    obtain ⟨C, hC⟩ : ∃ C, cutLen fr t.f0 t.f1 = C := ⟨_, rfl⟩
    have hfit := runFits_ok HRF.out
    have HCL := Aside0.mk (show C ≤ t.f1.length from hC ▸ cutLen_le fr t.f0 t.f1)
    have HCP := Aside0.mk (show 1 ≤ C from hC ▸ cutLen_pos fr t.f0 t.f1 hfit.2.1)
    obtain ⟨U, hU⟩ : ∃ U, t.f1.take C = U := ⟨_, rfl⟩
    have HUL := Aside0.mk (show U.length = C by rw [← hU, List.length_take]; have := HCL.out; omega)
    have HIT := Aside0.mk (show traceC fr fr li t = (⟨t.f0, U⟩, 0) by rw [← HLI.out, id_trace HCF.out HRF.out (by omega), hC, hU])
    have CT := Aside0.mk (fun W (hb : Below w.heap.size w W) (hi : RL W ri li) => show Calls Try.prog 23 #[cv p fr, cv p fr, lv ri li, tv ⟨TF, tf, TI, ti⟩ t] W (fun e w' => RetTr W w' (⟨t.f0, U⟩, 0) e) from HIT.out ▸ lift_Trace p p fr fr ri li ⟨TF, tf, TI, ti⟩ t W (HP.out.below hb) (HP.out.below hb) hi (HT.out.below hb) FF.out FF.out FI.out)
    have HM1 := Aside0.mk (show t.f1.length ≤ 100 by omega)
    have HCUT := Aside0.mk (fun W qu (hb : Below w.heap.size w W) (h : RT W qu ⟨t.f0, U⟩) => show Calls Try.prog 30 #[cv p fr, .agg #[.slice qu.A0 t.f0.length qu.c0, .slice qu.A1 U.length qu.c1], .bool (decide (C < t.f1.length))] W (fun e w' => e = .returned (.bool true) ∧ Below W.heap.size W w') from by
      rw [HUL.out]
      exact law25_cut p fr qu t.f0 t.f1 C W (HP.out.below hb) (hU ▸ h) FF.out HCF.out hfit.1 hfit.2.2 hC HCL.out (by have := HM1.out; omega))
    have HTU := Aside0.mk (show RT w ⟨TF, tf, TI, ti⟩ ⟨t.f0, U⟩ from ⟨HT.out.s0, hU ▸ ⟨Kd.C_take (m := C) HT.out.s1.r HCL.out, by have := HT.out.s1.h; rw [List.length_take]; omega⟩⟩)
    obtain ⟨ad, hTI⟩ : ∃ ad, TI = some ad := by
      obtain ⟨ad, B, cB, e1, _⟩ := at_row HT.out.s1.r 0 hfit.2.1
      exact ⟨ad, e1⟩
    subst hTI
    clear h100 hC hfit hU HIT
    obtain ⟨a_0, a_1, a_2, a_3, a_4⟩ := blk5 (S.out.blk 5 rfl)
    obtain ⟨i_0, i_1, i_2, i_3, i_4, i_5, i_6⟩ := blk7 (S.out.blk 1 rfl)
    obtain ⟨t_0, t_1⟩ := blk2 (S.out.blk 2 rfl)
    go_wp2_with fail
    refine (CT.out _ S.out.B RI.out).mono ?_
    rintro e w27 ⟨qu, rfl, hru, hb⟩
    replace S := Aside0.mk (S.out.below hb)
    replace RI := Aside0.mk (RI.out.below hb)
    replace RX := Aside0.mk (RX.out.below hb)
    have RU := Aside0.mk hru
    clear hru CT h100b
    clear t_0 t_1 a_0 a_1 a_2 a_3 a_4 i_0 i_1 i_2 i_3 i_4 i_5 i_6 hb
    replace S := Aside0.mk (S.out.new 57 (tcells qu ⟨t.f0, U⟩))
    replace RI := Aside0.mk (RI.out.below (below_alloc (Below.refl _ _) (.cells (tcells qu ⟨t.f0, U⟩) 57)))
    replace RX := Aside0.mk (RX.out.below (below_alloc (Below.refl _ _) (.cells (tcells qu ⟨t.f0, U⟩) 57)))
    replace RU := Aside0.mk (RU.out.below (below_alloc (Below.refl _ _) (.cells (tcells qu ⟨t.f0, U⟩) 57)))
    go_upto_region 20 with (fail)
    generalize w27.heap.size = gu at *
    generalize w27.alloc (.cells (tcells qu ⟨t.f0, U⟩) 57) = w27b at *
    obtain ⟨hb, hhb⟩ : ∃ b, decide (C < t.f1.length) = b := ⟨_, rfl⟩
    rw [hhb] at HCUT
    have hw1 : decide (U.length < t.f1.length) = hb := by rw [← hhb, HUL.out]
    have hc1 : (U.length : Int) ≤ (ti : Int) := by have h_ : t.f1.length ≤ ti := HT.out.s1.h; have := HUL.out; have := HCL.out; omega
    have hn1 : decide ((U.length : Int) < 1) = false := decide_eq_false (by have := HUL.out; have := HCP.out; omega)
    have hn2 : decide (t.f1.length < U.length) = false := decide_eq_false (by have := HUL.out; have := HCL.out; omega)
    have HW1 := Aside0.mk hw1
    clear hhb hw1
    obtain ⟨t_0, t_1⟩ := blk2 (S.out.blk 3 rfl)
    obtain ⟨u_0, u_1⟩ := blk2 (S.out.blk 0 rfl)
    go_upto_region 21 with (fail)
    clear t_0 t_1 u_0 u_1
    go_wp2
    refine start_ (n := 25) (S := (fun W => Parts w.heap.size w W [pB gu 57 (tcells qu ⟨t.f0, U⟩), pB gx 31 (lcells rx y), pB gi 31 (lcells ri li), pB (w.heap.size + 1 + 1 + 1) 57 (tcells ⟨TF, tf, some ad, ti⟩ t), pB (w.heap.size + 1 + 1) 31 (lcells r l), pB (w.heap.size + 1) 26 (ccells q tc), pB w.heap.size 26 (ccells p fr)])) (ds := []) #[false, false, false, false, false, false, false, false, false, false, false, false, false, false, false, false, false, false, false, false, false, false, false, false, false] (by kernel_rfl) rfl rfl S.out.drew (fun hHeld => ?_)
    refine pure_ (i := 0) (N := some 146) (v := ?_) (a' := ?_) #[true, false, false, false, false, false, false, false, false, false, false, false, false, false, false, false, false, false, false, false, false, false, false, false, false] rfl rfl (by kernel_rfl) (fun _ _ _ h => h) (Or.inl ⟨by rfl, ?_⟩) ?_ ?_
    rotate_left
    · intro w'
      go_simp
      with_reducible rfl
    rotate_left
    · simp only [Act.put, List.setIfInBounds_toArray, List.set_cons_zero, List.set_cons_succ]
      rfl
    refine pure_ (i := 1) (N := some 147) (v := ?_) (a' := ?_) #[true, true, false, false, false, false, false, false, false, false, false, false, false, false, false, false, false, false, false, false, false, false, false, false, false] rfl rfl (by kernel_rfl) (fun _ _ _ h => h) (Or.inl ⟨by rfl, ?_⟩) ?_ ?_
    rotate_left
    · intro w'
      go_simp
      with_reducible rfl
    rotate_left
    · simp only [Act.put, List.setIfInBounds_toArray, List.set_cons_zero, List.set_cons_succ]
      rfl
    refine pure_ (i := 2) (N := some 148) (v := ?_) (a' := ?_) #[true, true, true, false, false, false, false, false, false, false, false, false, false, false, false, false, false, false, false, false, false, false, false, false, false] rfl rfl (by kernel_rfl) (fun _ _ _ h => h) (Or.inl ⟨by rfl, ?_⟩) ?_ ?_
    rotate_left
    · intro w'
      go_simp
      with_reducible rfl
    rotate_left
    · simp only [Act.put, List.setIfInBounds_toArray, List.set_cons_zero, List.set_cons_succ]
      rfl
    refine pure_ (i := 3) (N := some 149) (v := ?_) (a' := ?_) #[true, true, true, true, false, false, false, false, false, false, false, false, false, false, false, false, false, false, false, false, false, false, false, false, false] rfl rfl (by kernel_rfl) (fun _ _ _ h => h) (Or.inl ⟨by rfl, ?_⟩) ?_ ?_
    rotate_left
    · intro w'
      go_simp
      with_reducible rfl
    rotate_left
    · simp only [Act.put, List.setIfInBounds_toArray, List.set_cons_zero, List.set_cons_succ]
      rfl
    refine pure_ (i := 4) (N := some 150) (v := ?_) (a' := ?_) #[true, true, true, true, true, false, false, false, false, false, false, false, false, false, false, false, false, false, false, false, false, false, false, false, false] rfl rfl (by kernel_rfl) (fun _ _ _ h => h) (Or.inl ⟨by rfl, ?_⟩) ?_ ?_
    rotate_left
    · intro w'
      go_simp
      with_reducible rfl
    rotate_left
    · simp only [Act.put, List.setIfInBounds_toArray, List.set_cons_zero, List.set_cons_succ]
      rfl
    refine pure_ (i := 5) (N := some 151) (v := ?_) (a' := ?_) #[true, true, true, true, true, true, false, false, false, false, false, false, false, false, false, false, false, false, false, false, false, false, false, false, false] rfl rfl (by kernel_rfl) (fun _ _ _ h => h) (Or.inl ⟨by rfl, ?_⟩) ?_ ?_
    rotate_left
    · intro w'
      go_simp
      with_reducible rfl
    rotate_left
    · simp only [Act.put, List.setIfInBounds_toArray, List.set_cons_zero, List.set_cons_succ]
      rfl
    refine pure_ (i := 6) (N := some 152) (v := ?_) (a' := ?_) #[true, true, true, true, true, true, true, false, false, false, false, false, false, false, false, false, false, false, false, false, false, false, false, false, false] rfl rfl (by kernel_rfl) (fun _ _ _ h => h) (Or.inl ⟨by rfl, ?_⟩) ?_ ?_
    rotate_left
    · intro w'
      go_simp
      with_reducible rfl
    rotate_left
    · simp only [Act.put, List.setIfInBounds_toArray, List.set_cons_zero, List.set_cons_succ]
      rfl
    refine pure_ (i := 7) (N := some 153) (v := ?_) (a' := ?_) #[true, true, true, true, true, true, true, true, false, false, false, false, false, false, false, false, false, false, false, false, false, false, false, false, false] rfl rfl (by kernel_rfl) (fun _ _ _ h => h) (Or.inl ⟨by rfl, ?_⟩) ?_ ?_
    rotate_left
    · intro w'
      go_simp
      with_reducible rfl
    rotate_left
    · simp only [Act.put, List.setIfInBounds_toArray, List.set_cons_zero, List.set_cons_succ]
      rfl
    refine pure_ (i := 8) (N := some 154) (v := ?_) (a' := ?_) #[true, true, true, true, true, true, true, true, true, false, false, false, false, false, false, false, false, false, false, false, false, false, false, false, false] rfl rfl (by kernel_rfl) (fun _ _ _ h => h) (Or.inl ⟨by rfl, ?_⟩) ?_ ?_
    rotate_left
    · intro w'
      go_simp
      with_reducible rfl
    rotate_left
    · simp only [Act.put, List.setIfInBounds_toArray, List.set_cons_zero, List.set_cons_succ]
      rfl
    refine take_ (i := 9) (N := some 155) (v := ?_) (a' := ?_) #[true, true, true, true, true, true, true, true, true, true, false, false, false, false, false, false, false, false, false, false, false, false, false, false, false] rfl rfl (by kernel_rfl) (fun _ _ _ h => h) (Or.inl ⟨by rfl, ?_⟩) hHeld ?_ ?_
    rotate_left
    · intro w' s0
      obtain ⟨d0, d1⟩ := blk2 (s0.blk 3 rfl); obtain ⟨e0, e1⟩ := blk2 (s0.blk 0 rfl)
      go_simp
      with_reducible rfl
    rotate_left
    · simp only [Act.put, List.setIfInBounds_toArray, List.set_cons_zero, List.set_cons_succ]
      rfl
    refine pure_ (i := 10) (N := some 156) (v := ?_) (a' := ?_) #[true, true, true, true, true, true, true, true, true, true, true, false, false, false, false, false, false, false, false, false, false, false, false, false, false] rfl rfl (by kernel_rfl) (fun _ _ _ h => h) (Or.inl ⟨by rfl, ?_⟩) ?_ ?_
    rotate_left
    · intro w'
      go_simp
      with_reducible rfl
    rotate_left
    · simp only [Act.put, List.setIfInBounds_toArray, List.set_cons_zero, List.set_cons_succ]
      rfl
    refine pure_ (i := 11) (N := some 157) (v := ?_) (a' := ?_) #[true, true, true, true, true, true, true, true, true, true, true, true, false, false, false, false, false, false, false, false, false, false, false, false, false] rfl rfl (by kernel_rfl) (fun _ _ _ h => h) (Or.inl ⟨by rfl, ?_⟩) ?_ ?_
    rotate_left
    · intro w'
      go_simp
      with_reducible rfl
    rotate_left
    · simp only [Act.put, List.setIfInBounds_toArray, List.set_cons_zero, List.set_cons_succ]
      rfl
    refine pure_ (i := 12) (N := some 158) (v := ?_) (a' := ?_) #[true, true, true, true, true, true, true, true, true, true, true, true, true, false, false, false, false, false, false, false, false, false, false, false, false] rfl rfl (by kernel_rfl) (fun _ _ _ h => h) (Or.inl ⟨by rfl, ?_⟩) ?_ ?_
    rotate_left
    · intro w'
      go_simp
      with_reducible rfl
    rotate_left
    · simp only [Act.put, List.setIfInBounds_toArray, List.set_cons_zero, List.set_cons_succ]
      rfl
    refine pure_ (i := 13) (N := some 159) (v := ?_) (a' := ?_) #[true, true, true, true, true, true, true, true, true, true, true, true, true, true, false, false, false, false, false, false, false, false, false, false, false] rfl rfl (by kernel_rfl) (fun _ _ _ h => h) (Or.inl ⟨by rfl, ?_⟩) ?_ ?_
    rotate_left
    · intro w'
      go_simp
      with_reducible rfl
    rotate_left
    · simp only [Act.put, List.setIfInBounds_toArray, List.set_cons_zero, List.set_cons_succ]
      rfl
    refine take_ (i := 14) (N := some 160) (v := ?_) (a' := ?_) #[true, true, true, true, true, true, true, true, true, true, true, true, true, true, true, false, false, false, false, false, false, false, false, false, false] rfl rfl (by kernel_rfl) (fun _ _ _ h => h) (Or.inl ⟨by rfl, ?_⟩) hHeld ?_ ?_
    rotate_left
    · intro w' s0
      obtain ⟨d0, d1⟩ := blk2 (s0.blk 3 rfl); obtain ⟨e0, e1⟩ := blk2 (s0.blk 0 rfl)
      go_simp
      with_reducible rfl
    rotate_left
    · simp only [Act.put, List.setIfInBounds_toArray, List.set_cons_zero, List.set_cons_succ]
      rfl
    refine pure_ (i := 15) (N := some 161) (v := ?_) (a' := ?_) #[true, true, true, true, true, true, true, true, true, true, true, true, true, true, true, true, false, false, false, false, false, false, false, false, false] rfl rfl (by kernel_rfl) (fun _ _ _ h => h) (Or.inl ⟨by rfl, ?_⟩) ?_ ?_
    rotate_left
    · intro w'
      go_simp
      with_reducible rfl
    rotate_left
    · simp only [Act.put, List.setIfInBounds_toArray, List.set_cons_zero, List.set_cons_succ]
      rfl
    refine take_ (i := 16) (N := some 162) (v := ?_) (a' := ?_) #[true, true, true, true, true, true, true, true, true, true, true, true, true, true, true, true, true, false, false, false, false, false, false, false, false] rfl rfl (by kernel_rfl) (fun _ _ _ h => h) (Or.inl ⟨by rfl, ?_⟩) hHeld ?_ ?_
    rotate_left
    · intro w' s0
      obtain ⟨d0, d1⟩ := blk2 (s0.blk 3 rfl); obtain ⟨e0, e1⟩ := blk2 (s0.blk 0 rfl)
      go_simp
      with_reducible rfl
    rotate_left
    · simp only [Act.put, List.setIfInBounds_toArray, List.set_cons_zero, List.set_cons_succ]
      rfl
    refine pure_ (i := 17) (N := some 163) (v := ?_) (a' := ?_) #[true, true, true, true, true, true, true, true, true, true, true, true, true, true, true, true, true, true, false, false, false, false, false, false, false] rfl rfl (by kernel_rfl) (fun _ _ _ h => h) (Or.inl ⟨by rfl, ?_⟩) ?_ ?_
    rotate_left
    · intro w'
      go_simp
      with_reducible rfl
    rotate_left
    · simp only [Act.put, List.setIfInBounds_toArray, List.set_cons_zero, List.set_cons_succ]
      rfl
    refine take_ (i := 18) (N := some 164) (v := ?_) (a' := ?_) #[true, true, true, true, true, true, true, true, true, true, true, true, true, true, true, true, true, true, true, false, false, false, false, false, false] rfl rfl (by kernel_rfl) (fun _ _ _ h => h) (Or.inl ⟨by rfl, ?_⟩) hHeld ?_ ?_
    rotate_left
    · intro w' s0
      obtain ⟨d0, d1⟩ := blk2 (s0.blk 3 rfl); obtain ⟨e0, e1⟩ := blk2 (s0.blk 0 rfl)
      go_simp
      with_reducible rfl
    rotate_left
    · simp only [Act.put, List.setIfInBounds_toArray, List.set_cons_zero, List.set_cons_succ]
      rfl
    refine pure_ (i := 19) (N := some 165) (v := ?_) (a' := ?_) #[true, true, true, true, true, true, true, true, true, true, true, true, true, true, true, true, true, true, true, true, false, false, false, false, false] rfl rfl (by kernel_rfl) (fun _ _ _ h => h) (Or.inl ⟨by rfl, ?_⟩) ?_ ?_
    rotate_left
    · intro w'
      go_simp
      with_reducible rfl
    rotate_left
    · simp only [Act.put, List.setIfInBounds_toArray, List.set_cons_zero, List.set_cons_succ]
      rfl
    refine pure_ (i := 20) (N := some 166) (v := ?_) (a' := ?_) #[true, true, true, true, true, true, true, true, true, true, true, true, true, true, true, true, true, true, true, true, true, false, false, false, false] rfl rfl (by kernel_rfl) (fun _ _ _ h => h) (Or.inl ⟨by rfl, ?_⟩) ?_ ?_
    rotate_left
    · intro w'
      go_simp
      with_reducible rfl
    rotate_left
    · simp only [Act.put, List.setIfInBounds_toArray, List.set_cons_zero, List.set_cons_succ]
      rfl
    refine pure_ (i := 21) (N := some 167) (v := ?_) (a' := ?_) #[true, true, true, true, true, true, true, true, true, true, true, true, true, true, true, true, true, true, true, true, true, true, false, false, false] rfl rfl (by kernel_rfl) (fun _ _ _ h => h) (Or.inl ⟨by rfl, ?_⟩) ?_ ?_
    rotate_left
    · intro w'
      go_simp
      with_reducible rfl
    rotate_left
    · simp only [Act.put, List.setIfInBounds_toArray, List.set_cons_zero, List.set_cons_succ]
      rfl
    refine one_ (i := 22) (N := some 168) #[true, true, true, true, true, true, true, true, true, true, true, true, true, true, true, true, true, true, true, true, true, true, true, false, false] rfl rfl (by kernel_rfl) (by decide) (fun K hK => ?_)
    refine goes_ Try.func26 (by kernel_rfl) rfl #[tv qu ⟨t.f0, U⟩, .agg #[.slice TF t.f0.length tf, .slice (some ad) U.length ti]] (by rfl) rfl rfl (by simp only [List.map_toArray, List.map_cons, List.map_nil] <;> rfl) ?_
    refine (ref25_SameTrace qu ⟨TF, tf, some ad, ti⟩ ⟨t.f0, U⟩ _ (RU.out.below (below_drew (Below.refl _ _))) (HTU.out.below S.out.drew.B)).mono ?_
    rintro e w30 ⟨rfl, hb3⟩
    refine ⟨_, rfl, ?_⟩
    have S30 := Aside0.mk (S.out.drew.below hb3)
    replace RU := Aside0.mk ((RU.out.below (below_drew (Below.refl _ _))).below hb3)
    clear hb3
    refine hK.out _ _ S30.out (fun hHeld => ?_)
    clear hK K
    refine norm_ (a' := ?_) ?_ ?_
    rotate_left
    · show Act.put _ (some 168) _ = _
      simp only [Act.put, List.setIfInBounds_toArray, List.set_cons_zero, List.set_cons_succ]
      rfl
    refine pure_ (i := 23) (N := some 169) (v := ?_) (a' := ?_) #[true, true, true, true, true, true, true, true, true, true, true, true, true, true, true, true, true, true, true, true, true, true, true, true, false] rfl rfl (by kernel_rfl) (fun _ _ _ h => h) (Or.inl ⟨by rfl, ?_⟩) ?_ ?_
    rotate_left
    · intro w'
      go_simp
      with_reducible rfl
    rotate_left
    · simp only [Act.put, List.setIfInBounds_toArray, List.set_cons_zero, List.set_cons_succ]
      rfl
    refine pure_ (i := 24) (N := some 170) (v := ?_) (a' := ?_) #[true, true, true, true, true, true, true, true, true, true, true, true, true, true, true, true, true, true, true, true, true, true, true, true, true] rfl rfl (by kernel_rfl) (fun _ _ _ h => h) (Or.inl ⟨by rfl, ?_⟩) ?_ ?_
    rotate_left
    · intro w'
      go_simp
      with_reducible rfl
    rotate_left
    · simp only [Act.put, List.setIfInBounds_toArray, List.set_cons_zero, List.set_cons_succ]
      rfl
    refine done_ (by kernel_rfl) ?_
    clear hHeld S hn1 hn2 hc1
    have hw1 := HW1.out
    have S := S30
    clear S30
    obtain ⟨a_0, a_1, a_2, a_3, a_4⟩ := blk5 (S.out.blk 6 rfl)
    obtain ⟨t_0, t_1⟩ := blk2 (S.out.blk 3 rfl)
    obtain ⟨u_0, u_1⟩ := blk2 (S.out.blk 0 rfl)
    go_wp2_with fail
    refine (HCUT.out _ qu S.out.B RU.out).mono ?_
    rintro e w31 ⟨rfl, hb3⟩
    replace S := Aside0.mk (S.out.below hb3)
    clear hb3
    go_wp2
    go_ret
    exact ⟨rfl, S.out.B⟩
  have hnb : ((st.length : Int) == (fr.f1.length : Int)) = true := beq_iff_eq.2 (by omega)
  have hca : predCheck st.length y.f5 = 0 := by rw [hn]; exact HCK.out
  have hcb : predCheck st.length l.f5 = 0 := by rw [hn]; exact LO.out.k
  have hva : valueOf y.f5 st = predValue l.f5 st := by unfold valueOf; rw [if_pos hca]; exact HVAL.out st hn
  have hvb : valueOf l.f5 st = predValue l.f5 st := by unfold valueOf; rw [if_pos hcb]
  rw [hva, hvb, hca, hcb]
  clear hca hcb hva hvb hn
  generalize predValue l.f5 st = va
  obtain ⟨a_0, a_1, a_2, a_3, a_4⟩ := blk5 (S.out.blk 5 rfl)
  obtain ⟨t_0, t_1⟩ := blk2 (S.out.blk 2 rfl)
  go_wp2_with fail
  refine (ref25_Fits p fr ⟨TF, tf, TI, ti⟩ t _ FF.out.h1 FF.out.i0 (HT.out.below S.out.B)).mono ?_
  rintro e w26 ⟨rfl, hb⟩
  replace S := Aside0.mk (S.out.below hb)
  replace RI := Aside0.mk (RI.out.below hb)
  replace RX := Aside0.mk (RX.out.below hb)
  clear a_0 a_1 a_2 a_3 a_4 t_0 t_1 hb
  obtain ⟨rf, hrf⟩ : ∃ b, runFits fr t = b := ⟨_, rfl⟩
  have HRF := Aside0.mk hrf
  rw [hrf]
  clear hrf
  obtain ⟨t_0, t_1⟩ := blk2 (S.out.blk 2 rfl)
  cases rf with
  | false =>
    go_wp2
    go_ret
    exact ⟨rfl, S.out.B⟩
  | true =>
  by_cases h100 : 100 < t.f1.length
  · have h100b : decide (100 < (t.f1.length : Int)) = true := decide_eq_true (by omega)
    clear h100
    go_wp2
    go_ret
    exact ⟨rfl, S.out.B⟩
  have h100b : decide (100 < (t.f1.length : Int)) = false := decide_eq_false (by omega)
  obtain ⟨C, hC⟩ : ∃ C, cutLen fr t.f0 t.f1 = C := ⟨_, rfl⟩
  have hfit := runFits_ok HRF.out
  have HCL := Aside0.mk (show C ≤ t.f1.length from hC ▸ cutLen_le fr t.f0 t.f1)
  have HCP := Aside0.mk (show 1 ≤ C from hC ▸ cutLen_pos fr t.f0 t.f1 hfit.2.1)
  obtain ⟨U, hU⟩ : ∃ U, t.f1.take C = U := ⟨_, rfl⟩
  have HUL := Aside0.mk (show U.length = C by rw [← hU, List.length_take]; have := HCL.out; omega)
  have HIT := Aside0.mk (show traceC fr fr li t = (⟨t.f0, U⟩, 0) by rw [← HLI.out, id_trace HCF.out HRF.out (by omega), hC, hU])
  have CT := Aside0.mk (fun W (hb : Below w.heap.size w W) (hi : RL W ri li) => show Calls Try.prog 23 #[cv p fr, cv p fr, lv ri li, tv ⟨TF, tf, TI, ti⟩ t] W (fun e w' => RetTr W w' (⟨t.f0, U⟩, 0) e) from HIT.out ▸ lift_Trace p p fr fr ri li ⟨TF, tf, TI, ti⟩ t W (HP.out.below hb) (HP.out.below hb) hi (HT.out.below hb) FF.out FF.out FI.out)
  have HM1 := Aside0.mk (show t.f1.length ≤ 100 by omega)
  have HCUT := Aside0.mk (fun W qu (hb : Below w.heap.size w W) (h : RT W qu ⟨t.f0, U⟩) => show Calls Try.prog 30 #[cv p fr, .agg #[.slice qu.A0 t.f0.length qu.c0, .slice qu.A1 U.length qu.c1], .bool (decide (C < t.f1.length))] W (fun e w' => e = .returned (.bool true) ∧ Below W.heap.size W w') from by
    rw [HUL.out]
    exact law25_cut p fr qu t.f0 t.f1 C W (HP.out.below hb) (hU ▸ h) FF.out HCF.out hfit.1 hfit.2.2 hC HCL.out (by have := HM1.out; omega))
  have HTU := Aside0.mk (show RT w ⟨TF, tf, TI, ti⟩ ⟨t.f0, U⟩ from ⟨HT.out.s0, hU ▸ ⟨Kd.C_take (m := C) HT.out.s1.r HCL.out, by have := HT.out.s1.h; rw [List.length_take]; omega⟩⟩)
  obtain ⟨ad, hTI⟩ : ∃ ad, TI = some ad := by
    obtain ⟨ad, B, cB, e1, _⟩ := at_row HT.out.s1.r 0 hfit.2.1
    exact ⟨ad, e1⟩
  subst hTI
  clear h100 hC hfit hU HIT
  obtain ⟨a_0, a_1, a_2, a_3, a_4⟩ := blk5 (S.out.blk 5 rfl)
  obtain ⟨i_0, i_1, i_2, i_3, i_4, i_5, i_6⟩ := blk7 (S.out.blk 1 rfl)
  obtain ⟨t_0, t_1⟩ := blk2 (S.out.blk 2 rfl)
  go_wp2_with fail
  refine (CT.out _ S.out.B RI.out).mono ?_
  rintro e w27 ⟨qu, rfl, hru, hb⟩
  replace S := Aside0.mk (S.out.below hb)
  replace RI := Aside0.mk (RI.out.below hb)
  replace RX := Aside0.mk (RX.out.below hb)
  have RU := Aside0.mk hru
  clear hru CT h100b
  clear t_0 t_1 a_0 a_1 a_2 a_3 a_4 i_0 i_1 i_2 i_3 i_4 i_5 i_6 hb
  replace S := Aside0.mk (S.out.new 57 (tcells qu ⟨t.f0, U⟩))
  replace RI := Aside0.mk (RI.out.below (below_alloc (Below.refl _ _) (.cells (tcells qu ⟨t.f0, U⟩) 57)))
  replace RX := Aside0.mk (RX.out.below (below_alloc (Below.refl _ _) (.cells (tcells qu ⟨t.f0, U⟩) 57)))
  replace RU := Aside0.mk (RU.out.below (below_alloc (Below.refl _ _) (.cells (tcells qu ⟨t.f0, U⟩) 57)))
  go_upto_region 20 with (fail)
  generalize w27.heap.size = gu at *
  generalize w27.alloc (.cells (tcells qu ⟨t.f0, U⟩) 57) = w27b at *
  obtain ⟨hb, hhb⟩ : ∃ b, decide (C < t.f1.length) = b := ⟨_, rfl⟩
  rw [hhb] at HCUT
  have hw1 : decide (U.length < t.f1.length) = hb := by rw [← hhb, HUL.out]
  have hc1 : (U.length : Int) ≤ (ti : Int) := by have h_ : t.f1.length ≤ ti := HT.out.s1.h; have := HUL.out; have := HCL.out; omega
  have hn1 : decide ((U.length : Int) < 1) = false := decide_eq_false (by have := HUL.out; have := HCP.out; omega)
  have hn2 : decide (t.f1.length < U.length) = false := decide_eq_false (by have := HUL.out; have := HCL.out; omega)
  have HW1 := Aside0.mk hw1
  clear hhb hw1
  obtain ⟨t_0, t_1⟩ := blk2 (S.out.blk 3 rfl)
  obtain ⟨u_0, u_1⟩ := blk2 (S.out.blk 0 rfl)
  go_upto_region 21 with (fail)
  clear t_0 t_1 u_0 u_1
  go_wp2
  refine start_ (n := 25) (S := (fun W => Parts w.heap.size w W [pB gu 57 (tcells qu ⟨t.f0, U⟩), pB gx 31 (lcells rx y), pB gi 31 (lcells ri li), pB (w.heap.size + 1 + 1 + 1) 57 (tcells ⟨TF, tf, some ad, ti⟩ t), pB (w.heap.size + 1 + 1) 31 (lcells r l), pB (w.heap.size + 1) 26 (ccells q tc), pB w.heap.size 26 (ccells p fr)])) (ds := []) #[false, false, false, false, false, false, false, false, false, false, false, false, false, false, false, false, false, false, false, false, false, false, false, false, false] (by kernel_rfl) rfl rfl S.out.drew (fun hHeld => ?_)
  refine pure_ (i := 0) (N := some 146) (v := ?_) (a' := ?_) #[true, false, false, false, false, false, false, false, false, false, false, false, false, false, false, false, false, false, false, false, false, false, false, false, false] rfl rfl (by kernel_rfl) (fun _ _ _ h => h) (Or.inl ⟨by rfl, ?_⟩) ?_ ?_
  rotate_left
  · intro w'
    go_simp
    with_reducible rfl
  rotate_left
  · simp only [Act.put, List.setIfInBounds_toArray, List.set_cons_zero, List.set_cons_succ]
    rfl
  refine pure_ (i := 1) (N := some 147) (v := ?_) (a' := ?_) #[true, true, false, false, false, false, false, false, false, false, false, false, false, false, false, false, false, false, false, false, false, false, false, false, false] rfl rfl (by kernel_rfl) (fun _ _ _ h => h) (Or.inl ⟨by rfl, ?_⟩) ?_ ?_
  rotate_left
  · intro w'
    go_simp
    with_reducible rfl
  rotate_left
  · simp only [Act.put, List.setIfInBounds_toArray, List.set_cons_zero, List.set_cons_succ]
    rfl
  refine pure_ (i := 2) (N := some 148) (v := ?_) (a' := ?_) #[true, true, true, false, false, false, false, false, false, false, false, false, false, false, false, false, false, false, false, false, false, false, false, false, false] rfl rfl (by kernel_rfl) (fun _ _ _ h => h) (Or.inl ⟨by rfl, ?_⟩) ?_ ?_
  rotate_left
  · intro w'
    go_simp
    with_reducible rfl
  rotate_left
  · simp only [Act.put, List.setIfInBounds_toArray, List.set_cons_zero, List.set_cons_succ]
    rfl
  refine pure_ (i := 3) (N := some 149) (v := ?_) (a' := ?_) #[true, true, true, true, false, false, false, false, false, false, false, false, false, false, false, false, false, false, false, false, false, false, false, false, false] rfl rfl (by kernel_rfl) (fun _ _ _ h => h) (Or.inl ⟨by rfl, ?_⟩) ?_ ?_
  rotate_left
  · intro w'
    go_simp
    with_reducible rfl
  rotate_left
  · simp only [Act.put, List.setIfInBounds_toArray, List.set_cons_zero, List.set_cons_succ]
    rfl
  refine pure_ (i := 4) (N := some 150) (v := ?_) (a' := ?_) #[true, true, true, true, true, false, false, false, false, false, false, false, false, false, false, false, false, false, false, false, false, false, false, false, false] rfl rfl (by kernel_rfl) (fun _ _ _ h => h) (Or.inl ⟨by rfl, ?_⟩) ?_ ?_
  rotate_left
  · intro w'
    go_simp
    with_reducible rfl
  rotate_left
  · simp only [Act.put, List.setIfInBounds_toArray, List.set_cons_zero, List.set_cons_succ]
    rfl
  refine pure_ (i := 5) (N := some 151) (v := ?_) (a' := ?_) #[true, true, true, true, true, true, false, false, false, false, false, false, false, false, false, false, false, false, false, false, false, false, false, false, false] rfl rfl (by kernel_rfl) (fun _ _ _ h => h) (Or.inl ⟨by rfl, ?_⟩) ?_ ?_
  rotate_left
  · intro w'
    go_simp
    with_reducible rfl
  rotate_left
  · simp only [Act.put, List.setIfInBounds_toArray, List.set_cons_zero, List.set_cons_succ]
    rfl
  refine pure_ (i := 6) (N := some 152) (v := ?_) (a' := ?_) #[true, true, true, true, true, true, true, false, false, false, false, false, false, false, false, false, false, false, false, false, false, false, false, false, false] rfl rfl (by kernel_rfl) (fun _ _ _ h => h) (Or.inl ⟨by rfl, ?_⟩) ?_ ?_
  rotate_left
  · intro w'
    go_simp
    with_reducible rfl
  rotate_left
  · simp only [Act.put, List.setIfInBounds_toArray, List.set_cons_zero, List.set_cons_succ]
    rfl
  refine pure_ (i := 7) (N := some 153) (v := ?_) (a' := ?_) #[true, true, true, true, true, true, true, true, false, false, false, false, false, false, false, false, false, false, false, false, false, false, false, false, false] rfl rfl (by kernel_rfl) (fun _ _ _ h => h) (Or.inl ⟨by rfl, ?_⟩) ?_ ?_
  rotate_left
  · intro w'
    go_simp
    with_reducible rfl
  rotate_left
  · simp only [Act.put, List.setIfInBounds_toArray, List.set_cons_zero, List.set_cons_succ]
    rfl
  refine pure_ (i := 8) (N := some 154) (v := ?_) (a' := ?_) #[true, true, true, true, true, true, true, true, true, false, false, false, false, false, false, false, false, false, false, false, false, false, false, false, false] rfl rfl (by kernel_rfl) (fun _ _ _ h => h) (Or.inl ⟨by rfl, ?_⟩) ?_ ?_
  rotate_left
  · intro w'
    go_simp
    with_reducible rfl
  rotate_left
  · simp only [Act.put, List.setIfInBounds_toArray, List.set_cons_zero, List.set_cons_succ]
    rfl
  refine take_ (i := 9) (N := some 155) (v := ?_) (a' := ?_) #[true, true, true, true, true, true, true, true, true, true, false, false, false, false, false, false, false, false, false, false, false, false, false, false, false] rfl rfl (by kernel_rfl) (fun _ _ _ h => h) (Or.inl ⟨by rfl, ?_⟩) hHeld ?_ ?_
  rotate_left
  · intro w' s0
    obtain ⟨d0, d1⟩ := blk2 (s0.blk 3 rfl); obtain ⟨e0, e1⟩ := blk2 (s0.blk 0 rfl)
    go_simp
    with_reducible rfl
  rotate_left
  · simp only [Act.put, List.setIfInBounds_toArray, List.set_cons_zero, List.set_cons_succ]
    rfl
  refine pure_ (i := 10) (N := some 156) (v := ?_) (a' := ?_) #[true, true, true, true, true, true, true, true, true, true, true, false, false, false, false, false, false, false, false, false, false, false, false, false, false] rfl rfl (by kernel_rfl) (fun _ _ _ h => h) (Or.inl ⟨by rfl, ?_⟩) ?_ ?_
  rotate_left
  · intro w'
    go_simp
    with_reducible rfl
  rotate_left
  · simp only [Act.put, List.setIfInBounds_toArray, List.set_cons_zero, List.set_cons_succ]
    rfl
  refine pure_ (i := 11) (N := some 157) (v := ?_) (a' := ?_) #[true, true, true, true, true, true, true, true, true, true, true, true, false, false, false, false, false, false, false, false, false, false, false, false, false] rfl rfl (by kernel_rfl) (fun _ _ _ h => h) (Or.inl ⟨by rfl, ?_⟩) ?_ ?_
  rotate_left
  · intro w'
    go_simp
    with_reducible rfl
  rotate_left
  · simp only [Act.put, List.setIfInBounds_toArray, List.set_cons_zero, List.set_cons_succ]
    rfl
  refine pure_ (i := 12) (N := some 158) (v := ?_) (a' := ?_) #[true, true, true, true, true, true, true, true, true, true, true, true, true, false, false, false, false, false, false, false, false, false, false, false, false] rfl rfl (by kernel_rfl) (fun _ _ _ h => h) (Or.inl ⟨by rfl, ?_⟩) ?_ ?_
  rotate_left
  · intro w'
    go_simp
    with_reducible rfl
  rotate_left
  · simp only [Act.put, List.setIfInBounds_toArray, List.set_cons_zero, List.set_cons_succ]
    rfl
  refine pure_ (i := 13) (N := some 159) (v := ?_) (a' := ?_) #[true, true, true, true, true, true, true, true, true, true, true, true, true, true, false, false, false, false, false, false, false, false, false, false, false] rfl rfl (by kernel_rfl) (fun _ _ _ h => h) (Or.inl ⟨by rfl, ?_⟩) ?_ ?_
  rotate_left
  · intro w'
    go_simp
    with_reducible rfl
  rotate_left
  · simp only [Act.put, List.setIfInBounds_toArray, List.set_cons_zero, List.set_cons_succ]
    rfl
  refine take_ (i := 14) (N := some 160) (v := ?_) (a' := ?_) #[true, true, true, true, true, true, true, true, true, true, true, true, true, true, true, false, false, false, false, false, false, false, false, false, false] rfl rfl (by kernel_rfl) (fun _ _ _ h => h) (Or.inl ⟨by rfl, ?_⟩) hHeld ?_ ?_
  rotate_left
  · intro w' s0
    obtain ⟨d0, d1⟩ := blk2 (s0.blk 3 rfl); obtain ⟨e0, e1⟩ := blk2 (s0.blk 0 rfl)
    go_simp
    with_reducible rfl
  rotate_left
  · simp only [Act.put, List.setIfInBounds_toArray, List.set_cons_zero, List.set_cons_succ]
    rfl
  refine pure_ (i := 15) (N := some 161) (v := ?_) (a' := ?_) #[true, true, true, true, true, true, true, true, true, true, true, true, true, true, true, true, false, false, false, false, false, false, false, false, false] rfl rfl (by kernel_rfl) (fun _ _ _ h => h) (Or.inl ⟨by rfl, ?_⟩) ?_ ?_
  rotate_left
  · intro w'
    go_simp
    with_reducible rfl
  rotate_left
  · simp only [Act.put, List.setIfInBounds_toArray, List.set_cons_zero, List.set_cons_succ]
    rfl
  refine take_ (i := 16) (N := some 162) (v := ?_) (a' := ?_) #[true, true, true, true, true, true, true, true, true, true, true, true, true, true, true, true, true, false, false, false, false, false, false, false, false] rfl rfl (by kernel_rfl) (fun _ _ _ h => h) (Or.inl ⟨by rfl, ?_⟩) hHeld ?_ ?_
  rotate_left
  · intro w' s0
    obtain ⟨d0, d1⟩ := blk2 (s0.blk 3 rfl); obtain ⟨e0, e1⟩ := blk2 (s0.blk 0 rfl)
    go_simp
    with_reducible rfl
  rotate_left
  · simp only [Act.put, List.setIfInBounds_toArray, List.set_cons_zero, List.set_cons_succ]
    rfl
  refine pure_ (i := 17) (N := some 163) (v := ?_) (a' := ?_) #[true, true, true, true, true, true, true, true, true, true, true, true, true, true, true, true, true, true, false, false, false, false, false, false, false] rfl rfl (by kernel_rfl) (fun _ _ _ h => h) (Or.inl ⟨by rfl, ?_⟩) ?_ ?_
  rotate_left
  · intro w'
    go_simp
    with_reducible rfl
  rotate_left
  · simp only [Act.put, List.setIfInBounds_toArray, List.set_cons_zero, List.set_cons_succ]
    rfl
  refine take_ (i := 18) (N := some 164) (v := ?_) (a' := ?_) #[true, true, true, true, true, true, true, true, true, true, true, true, true, true, true, true, true, true, true, false, false, false, false, false, false] rfl rfl (by kernel_rfl) (fun _ _ _ h => h) (Or.inl ⟨by rfl, ?_⟩) hHeld ?_ ?_
  rotate_left
  · intro w' s0
    obtain ⟨d0, d1⟩ := blk2 (s0.blk 3 rfl); obtain ⟨e0, e1⟩ := blk2 (s0.blk 0 rfl)
    go_simp
    with_reducible rfl
  rotate_left
  · simp only [Act.put, List.setIfInBounds_toArray, List.set_cons_zero, List.set_cons_succ]
    rfl
  refine pure_ (i := 19) (N := some 165) (v := ?_) (a' := ?_) #[true, true, true, true, true, true, true, true, true, true, true, true, true, true, true, true, true, true, true, true, false, false, false, false, false] rfl rfl (by kernel_rfl) (fun _ _ _ h => h) (Or.inl ⟨by rfl, ?_⟩) ?_ ?_
  rotate_left
  · intro w'
    go_simp
    with_reducible rfl
  rotate_left
  · simp only [Act.put, List.setIfInBounds_toArray, List.set_cons_zero, List.set_cons_succ]
    rfl
  refine pure_ (i := 20) (N := some 166) (v := ?_) (a' := ?_) #[true, true, true, true, true, true, true, true, true, true, true, true, true, true, true, true, true, true, true, true, true, false, false, false, false] rfl rfl (by kernel_rfl) (fun _ _ _ h => h) (Or.inl ⟨by rfl, ?_⟩) ?_ ?_
  rotate_left
  · intro w'
    go_simp
    with_reducible rfl
  rotate_left
  · simp only [Act.put, List.setIfInBounds_toArray, List.set_cons_zero, List.set_cons_succ]
    rfl
  refine pure_ (i := 21) (N := some 167) (v := ?_) (a' := ?_) #[true, true, true, true, true, true, true, true, true, true, true, true, true, true, true, true, true, true, true, true, true, true, false, false, false] rfl rfl (by kernel_rfl) (fun _ _ _ h => h) (Or.inl ⟨by rfl, ?_⟩) ?_ ?_
  rotate_left
  · intro w'
    go_simp
    with_reducible rfl
  rotate_left
  · simp only [Act.put, List.setIfInBounds_toArray, List.set_cons_zero, List.set_cons_succ]
    rfl
  refine one_ (i := 22) (N := some 168) #[true, true, true, true, true, true, true, true, true, true, true, true, true, true, true, true, true, true, true, true, true, true, true, false, false] rfl rfl (by kernel_rfl) (by decide) (fun K hK => ?_)
  refine goes_ Try.func26 (by kernel_rfl) rfl #[tv qu ⟨t.f0, U⟩, .agg #[.slice TF t.f0.length tf, .slice (some ad) U.length ti]] (by rfl) rfl rfl (by simp only [List.map_toArray, List.map_cons, List.map_nil] <;> rfl) ?_
  refine (ref25_SameTrace qu ⟨TF, tf, some ad, ti⟩ ⟨t.f0, U⟩ _ (RU.out.below (below_drew (Below.refl _ _))) (HTU.out.below S.out.drew.B)).mono ?_
  rintro e w30 ⟨rfl, hb3⟩
  refine ⟨_, rfl, ?_⟩
  have S30 := Aside0.mk (S.out.drew.below hb3)
  replace RU := Aside0.mk ((RU.out.below (below_drew (Below.refl _ _))).below hb3)
  clear hb3
  refine hK.out _ _ S30.out (fun hHeld => ?_)
  clear hK K
  refine norm_ (a' := ?_) ?_ ?_
  rotate_left
  · show Act.put _ (some 168) _ = _
    simp only [Act.put, List.setIfInBounds_toArray, List.set_cons_zero, List.set_cons_succ]
    rfl
  refine pure_ (i := 23) (N := some 169) (v := ?_) (a' := ?_) #[true, true, true, true, true, true, true, true, true, true, true, true, true, true, true, true, true, true, true, true, true, true, true, true, false] rfl rfl (by kernel_rfl) (fun _ _ _ h => h) (Or.inl ⟨by rfl, ?_⟩) ?_ ?_
  rotate_left
  · intro w'
    go_simp
    with_reducible rfl
  rotate_left
  · simp only [Act.put, List.setIfInBounds_toArray, List.set_cons_zero, List.set_cons_succ]
    rfl
  refine pure_ (i := 24) (N := some 170) (v := ?_) (a' := ?_) #[true, true, true, true, true, true, true, true, true, true, true, true, true, true, true, true, true, true, true, true, true, true, true, true, true] rfl rfl (by kernel_rfl) (fun _ _ _ h => h) (Or.inl ⟨by rfl, ?_⟩) ?_ ?_
  rotate_left
  · intro w'
    go_simp
    with_reducible rfl
  rotate_left
  · simp only [Act.put, List.setIfInBounds_toArray, List.set_cons_zero, List.set_cons_succ]
    rfl
  refine done_ (by kernel_rfl) ?_
  clear hHeld S hn1 hn2 hc1
  have hw1 := HW1.out
  have S := S30
  clear S30
  obtain ⟨a_0, a_1, a_2, a_3, a_4⟩ := blk5 (S.out.blk 6 rfl)
  obtain ⟨t_0, t_1⟩ := blk2 (S.out.blk 3 rfl)
  obtain ⟨u_0, u_1⟩ := blk2 (S.out.blk 0 rfl)
  go_wp2_with fail
  refine (HCUT.out _ qu S.out.B RU.out).mono ?_
  rintro e w31 ⟨rfl, hb3⟩
  replace S := Aside0.mk (S.out.below hb3)
  clear hb3
  go_wp2
  go_ret
  exact ⟨rfl, S.out.B⟩
end Go.Proofs.Ytlhiapggccgggaa.PH
