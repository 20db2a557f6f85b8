/- The law LiftOne: composed lifts are one. -/
import Derived.Test.YtlhiapggccgggaaHCompose
import Derived.Test.YtlhiapggccgggaaHTraceW
import Derived.Test.YtlhiapggccgggaaHSameT
import Derived.Test.YtlhiapggccgggaaHNumsF
import Derived.Test.YtlhiapggccgggaaHAlive25
import Derived.Test.YtlhiapggccgggaaHOneP
import Derived.Test.YtlhiapggccgggaaHArgP
namespace Go.Proofs.Ytlhiapggccgggaa.PH
open Go.RowKit Go.Proofs.YtlhiapggccgggaaW.PrintWords Go.Proofs.YtlhiapggccgggaaW.PrintLast
set_option linter.unusedVariables false
set_option linter.unusedSimpArgs false

set_option maxHeartbeats 8000000 in
set_option maxRecDepth 100000 in
theorem law_LiftOne (p : CP) (fr : Circ) (q : CP) (md : Circ) (u : CP) (tc : Circ) (r : LP) (a : Lf) (s : LP) (b : Lf) (v : TP) (t : Run) (w : World) (hp : RC w p fr) (hq : RC w q md) (hu : RC w u tc) (hr : RL w r a) (hs : RL w s b) (ht : RT w v t)
    (nf : fr.Nums) (nm : md.Nums) (nt : tc.Nums) (na : a.Nums) (nb : b.Nums) (ntr : (∀ b ∈ t.f0, True) ∧ ∀ r ∈ t.f1, ∀ b ∈ r, True) :
    Calls Try.prog 7 #[cv p fr, cv q md, cv u tc, lv r a, lv s b, tv v t] w fun e w' => e = .returned (.bool true) ∧ Below w.heap.size w w' := by
  have HP := Aside0.mk hp
  have HQ0 := Aside0.mk hq
  have HU := Aside0.mk hu
  have HR := Aside0.mk hr
  have HS := Aside0.mk hs
  have HT := Aside0.mk ht
  have hu26 := Try.underlying26
  have hu31 := Try.underlying31
  have hu57 := Try.underlying57
  have NF := Aside0.mk nf
  have NM0 := Aside0.mk nm
  have NT := Aside0.mk nt
  have NA := Aside0.mk na
  have NB := Aside0.mk nb
  have S := (((((((Parts.start w).new 26 (ccells p fr)).new 26 (ccells q md)).new 26 (ccells u tc)).new 31 (lcells r a)).new 31 (lcells s b)).new 57 (tcells v t))
  simp only [sz_new] at S
  replace S := Aside0.mk S
  clear hp hq hu hr hs ht nf nm nt na nb ntr
  go_enter Try.func7, Try.ntmps7
  go_upto_region 1 with (fail)
  obtain ⟨w1, hw1⟩ : ∃ W, ((((((w.alloc (.cells (ccells p fr) 26)).alloc (.cells (ccells q md) 26)).alloc (.cells (ccells u tc) 26)).alloc (.cells (lcells r a) 31)).alloc (.cells (lcells s b) 31)).alloc (.cells (tcells v t) 57)) = W := ⟨_, rfl⟩
  rw [hw1] at S ⊢
  clear hw1
  go_wp2_with fail
  refine (law25_alive _).mono ?_
  rintro e w2 ⟨rfl, hb⟩
  replace S := Aside0.mk (S.out.below hb)
  clear hb
  obtain ⟨c3, z3⟩ := S.out.cell 4 rfl 3 rfl
  go_upto_region 3 with (fail)
  clear c3 z3
  obtain ⟨md', hmd⟩ : ∃ c : Circ, (⟨md.f0, md.f1, md.f2, [], md.f4⟩ : Circ) = c := ⟨_, rfl⟩
  obtain ⟨q', hqq⟩ : ∃ p : CP, (⟨q.A1, q.c1, q.A2, q.c2, none, 0, q.A4, q.c4⟩ : CP) = p := ⟨_, rfl⟩
  replace S := Aside0.mk (show Parts w.heap.size w (w2.setCell ⟨w.heap.size + 1, 3, none⟩ (.slice none 0 0)) [pB (w.heap.size + 1 + 1 + 1 + 1 + 1) 57 (tcells v t), pB (w.heap.size + 1 + 1 + 1 + 1) 31 (lcells s b), pB (w.heap.size + 1 + 1 + 1) 31 (lcells r a), pB (w.heap.size + 1 + 1) 26 (ccells u tc), pB (w.heap.size + 1) 26 (ccells q' md'), pB (w.heap.size) 26 (ccells p fr)] from by
    subst hmd; subst hqq
    exact S.out.put 4 rfl 3 (.slice none 0 0) rfl)
  have HQ := Aside0.mk (show RC w q' md' from by
    subst hmd; subst hqq
    exact ⟨HQ0.out.s1, HQ0.out.s2, RS.nil _ _ _, HQ0.out.s4⟩)
  have NM := Aside0.mk (show md'.Nums from by subst hmd; exact ⟨NM0.out.i0, NM0.out.i1, NM0.out.i2, fun x hx => by simp at hx, NM0.out.i4⟩)
  have HM3 := Aside0.mk (show md'.f3 = [] from by subst hmd; rfl)
  clear hmd hqq HQ0 NM0
  generalize w2.setCell ⟨w.heap.size + 1, 3, none⟩ (.slice none 0 0) = w2b at *
  obtain ⟨og, hog⟩ : ∃ og, [fr, md', tc].any great = og := ⟨_, rfl⟩
  have HO := Aside0.mk hog
  clear hog
  obtain ⟨f_0, f_1, f_2, f_3, f_4⟩ := blk5 (S.out.blk 5 rfl)
  obtain ⟨m_0, m_1, m_2, m_3, m_4⟩ := blk5 (S.out.blk 4 rfl)
  obtain ⟨u_0, u_1, u_2, u_3, u_4⟩ := blk5 (S.out.blk 3 rfl)
  go_wp2_with fail
  refine (law25_great (some ⟨w2b.heap.size, 0, none⟩) 3 [fr, md', tc] _ (RS.three_circ (p := p) (q := q') (r := u) (HP.out.below (below_alloc S.out.B _)) (HQ.out.below (below_alloc S.out.B _)) (HU.out.below (below_alloc S.out.B _)) (fun j u hj => by rw [World.cell?_alloc_at _ _ _ _ (by simp)]; simpa using hj))).mono ?_
  rintro e w3 ⟨rfl, hb⟩
  replace S := Aside0.mk ((S.out.alloc _).below hb)
  rw [HO.out]
  clear f_0 f_1 f_2 f_3 f_4 m_0 m_1 m_2 m_3 m_4 u_0 u_1 u_2 u_3 u_4 hb
  cases og with
  | true =>
    go_wp2
    go_ret
    exact ⟨rfl, S.out.B⟩
  | false =>
  have hg : great fr = false ∧ great md' = false ∧ great tc = false := by have h_ := HO.out; simpa using h_
  have FF := Aside0.mk (NF.out.fits hg.1)
  have FM := Aside0.mk (NM.out.fits hg.2.1)
  have FT := Aside0.mk (NT.out.fits hg.2.2)
  have SF := Aside0.mk (lat60 hg.1)
  clear hg HO
  obtain ⟨a_0, a_1, a_2, a_3, a_4, a_5, a_6⟩ := blk7 (S.out.blk 2 rfl)
  go_wp2_with fail
  refine (ref25_GreatLift r a _ (HR.out.below S.out.B)).mono ?_
  rintro e w4 ⟨ba, rfl, hba, hb⟩
  replace S := Aside0.mk (S.out.below hb)
  have SAa := Aside0.mk hba
  clear hba
  clear a_0 a_1 a_2 a_3 a_4 a_5 a_6 hb
  cases ba with
  | true =>
    go_wp2
    go_ret
    exact ⟨rfl, S.out.B⟩
  | false =>
  have FA := Aside0.mk (NA.out.fits (SAa.out rfl))
  have SBa := Aside0.mk ((SAa.out rfl).2.2.2)
  clear SAa
  obtain ⟨b_0, b_1, b_2, b_3, b_4, b_5, b_6⟩ := blk7 (S.out.blk 1 rfl)
  go_wp2_with fail
  refine (ref25_GreatLift s b _ (HS.out.below S.out.B)).mono ?_
  rintro e w5 ⟨ba, rfl, hba, hb⟩
  replace S := Aside0.mk (S.out.below hb)
  have SAb := Aside0.mk hba
  clear hba
  clear b_0 b_1 b_2 b_3 b_4 b_5 b_6 hb
  cases ba with
  | true =>
    go_wp2
    go_ret
    exact ⟨rfl, S.out.B⟩
  | false =>
  have FB := Aside0.mk (NB.out.fits (SAb.out rfl))
  have SBb := Aside0.mk ((SAb.out rfl).2.2.2)
  clear SAb
  obtain ⟨t_0, t_1⟩ := blk2 (S.out.blk 0 rfl)
  go_wp2_with fail
  refine (ref25_GreatTrace v t _ (HT.out.below S.out.B)).mono ?_
  rintro e w6 ⟨ba, rfl, hba, hb⟩
  replace S := Aside0.mk (S.out.below hb)
  clear hba
  clear t_0 t_1 hb
  cases ba with
  | true =>
    go_wp2
    go_ret
    exact ⟨rfl, S.out.B⟩
  | false =>
  obtain ⟨⟨l, n⟩, hl⟩ : ∃ y, composeC fr md' tc a b = y := ⟨_, rfl⟩
  have HL := Aside0.mk hl
  have C1 := Aside0.mk (fun W (hb : Below w.heap.size w W) => show Calls Try.prog 17 #[cv p fr, cv q' md', cv u tc, lv r a, lv s b] W (fun e w' => RetL W w' l n e) from by
    have h_ := lift_Compose p q' u fr md' tc r s a b W (HP.out.below hb) (HQ.out.below hb) (HU.out.below hb) (HR.out.below hb) (HS.out.below hb) FF.out FM.out FT.out FA.out FB.out SBb.out SF.out
    rw [hl] at h_
    exact h_)
  clear hl SBa
  obtain ⟨f_0, f_1, f_2, f_3, f_4⟩ := blk5 (S.out.blk 5 rfl)
  obtain ⟨m_0, m_1, m_2, m_3, m_4⟩ := blk5 (S.out.blk 4 rfl)
  obtain ⟨u_0, u_1, u_2, u_3, u_4⟩ := blk5 (S.out.blk 3 rfl)
  obtain ⟨a_0, a_1, a_2, a_3, a_4, a_5, a_6⟩ := blk7 (S.out.blk 2 rfl)
  obtain ⟨b_0, b_1, b_2, b_3, b_4, b_5, b_6⟩ := blk7 (S.out.blk 1 rfl)
  go_wp2_with fail
  refine (C1.out _ S.out.B).mono ?_
  rintro e w7 ⟨r', rfl, hrl, hb⟩
  replace S := Aside0.mk (S.out.below hb)
  have RL' := Aside0.mk hrl
  clear hrl C1
  clear f_0 f_1 f_2 f_3 f_4 m_0 m_1 m_2 m_3 m_4 u_0 u_1 u_2 u_3 u_4 a_0 a_1 a_2 a_3 a_4 a_5 a_6 b_0 b_1 b_2 b_3 b_4 b_5 b_6 hb
  replace S := Aside0.mk (S.out.new 31 (lcells r' l))
  replace RL' := Aside0.mk (RL'.out.below (below_alloc (Below.refl _ _) (.cells (lcells r' l) 31)))
  go_upto_region 6 with (fail)
  generalize w7.heap.size = gl at *
  generalize w7.alloc (.cells (lcells r' l) 31) = w7b at *
  by_cases hn : n = 0
  case neg =>
    have hnb : (n != 0) = true := bne_iff_ne.2 hn
    clear hn
    go_wp2
    go_ret
    exact ⟨rfl, S.out.B⟩
  have hnb : (n != 0) = false := bne_eq_false_iff_eq.2 hn
  subst hn
  obtain ⟨hok, hcf, hct, hB, hC⟩ := one_law HM3.out HL.out t
  have LO := Aside0.mk hok
  have FL := Aside0.mk (hok.fits hcf hct (fits_of_check hok.k))
  have HLC := Aside0.mk (show liftCheck fr tc l = 0 from (liftErr_eq fr tc l).symm.trans (liftErr_of hcf hct hok))
  have HB := Aside0.mk hB
  have HC := Aside0.mk hC
  clear hok hcf hct hB hC HL
  obtain ⟨f_0, f_1, f_2, f_3, f_4⟩ := blk5 (S.out.blk 6 rfl)
  obtain ⟨u_0, u_1, u_2, u_3, u_4⟩ := blk5 (S.out.blk 4 rfl)
  obtain ⟨l_0, l_1, l_2, l_3, l_4, l_5, l_6⟩ := blk7 (S.out.blk 0 rfl)
  go_wp2_with fail
  refine (lift_Check p u fr tc r' l _ (HP.out.below S.out.B) (HU.out.below S.out.B) RL'.out FF.out FT.out FL.out).mono ?_
  rintro e w8 ⟨rfl, hb⟩
  replace S := Aside0.mk (S.out.below hb)
  replace RL' := Aside0.mk (RL'.out.below hb)
  rw [HLC.out]
  clear hnb
  clear f_0 f_1 f_2 f_3 f_4 u_0 u_1 u_2 u_3 u_4 l_0 l_1 l_2 l_3 l_4 l_5 l_6 hb
  obtain ⟨⟨x, f⟩, hx⟩ : ∃ y, traceC fr tc l t = y := ⟨_, rfl⟩
  obtain ⟨⟨y, k⟩, hy⟩ : ∃ y, traceC md' tc b t = y := ⟨_, rfl⟩
  rw [hx, hy] at HB HC
  have C1 := Aside0.mk (fun W (hb : Below w.heap.size w W) (hl : RL W r' l) => show Calls Try.prog 23 #[cv p fr, cv u tc, lv r' l, tv v t] W (fun e w' => RetTr W w' (x, f) e) from hx ▸ lift_Trace p u fr tc r' l v t W (HP.out.below hb) (HU.out.below hb) hl (HT.out.below hb) FF.out FT.out FL.out)
  have C2 := Aside0.mk (fun W (hb : Below w.heap.size w W) => show Calls Try.prog 23 #[cv q' md', cv u tc, lv s b, tv v t] W (fun e w' => RetTr W w' (y, k) e) from hy ▸ lift_Trace q' u md' tc s b v t W (HQ.out.below hb) (HU.out.below hb) (HS.out.below hb) (HT.out.below hb) FM.out FT.out FB.out)
  clear hx hy
  obtain ⟨f_0, f_1, f_2, f_3, f_4⟩ := blk5 (S.out.blk 6 rfl)
  obtain ⟨u_0, u_1, u_2, u_3, u_4⟩ := blk5 (S.out.blk 4 rfl)
  obtain ⟨l_0, l_1, l_2, l_3, l_4, l_5, l_6⟩ := blk7 (S.out.blk 0 rfl)
  obtain ⟨t_0, t_1⟩ := blk2 (S.out.blk 1 rfl)
  go_wp2_with fail
  refine (C1.out _ S.out.B RL'.out).mono ?_
  rintro e w9 ⟨qx, rfl, hrx, hb⟩
  replace S := Aside0.mk (S.out.below hb)
  replace RL' := Aside0.mk (RL'.out.below hb)
  have RX := Aside0.mk hrx
  clear hrx C1
  clear f_0 f_1 f_2 f_3 f_4 u_0 u_1 u_2 u_3 u_4 l_0 l_1 l_2 l_3 l_4 l_5 l_6 t_0 t_1 hb
  replace S := Aside0.mk (S.out.new 57 (tcells qx x))
  replace RL' := Aside0.mk (RL'.out.below (below_alloc (Below.refl _ _) (.cells (tcells qx x) 57)))
  replace RX := Aside0.mk (RX.out.below (below_alloc (Below.refl _ _) (.cells (tcells qx x) 57)))
  go_upto_region 11 with (fail)
  generalize w9.heap.size = gx at *
  generalize w9.alloc (.cells (tcells qx x) 57) = w9b at *
  obtain ⟨m_0, m_1, m_2, m_3, m_4⟩ := blk5 (S.out.blk 6 rfl)
  obtain ⟨u_0, u_1, u_2, u_3, u_4⟩ := blk5 (S.out.blk 5 rfl)
  obtain ⟨b_0, b_1, b_2, b_3, b_4, b_5, b_6⟩ := blk7 (S.out.blk 3 rfl)
  obtain ⟨t_0, t_1⟩ := blk2 (S.out.blk 2 rfl)
  go_wp2_with fail
  refine (C2.out _ S.out.B).mono ?_
  rintro e w10 ⟨qy, rfl, hry, hb⟩
  replace S := Aside0.mk (S.out.below hb)
  replace RL' := Aside0.mk (RL'.out.below hb)
  replace RX := Aside0.mk (RX.out.below hb)
  have RY := Aside0.mk hry
  clear hry C2
  clear m_0 m_1 m_2 m_3 m_4 u_0 u_1 u_2 u_3 u_4 b_0 b_1 b_2 b_3 b_4 b_5 b_6 t_0 t_1 hb
  replace S := Aside0.mk (S.out.new 57 (tcells qy y))
  replace RL' := Aside0.mk (RL'.out.below (below_alloc (Below.refl _ _) (.cells (tcells qy y) 57)))
  replace RX := Aside0.mk (RX.out.below (below_alloc (Below.refl _ _) (.cells (tcells qy y) 57)))
  replace RY := Aside0.mk (RY.out.below (below_alloc (Below.refl _ _) (.cells (tcells qy y) 57)))
  go_upto_region 12 with (fail)
  generalize w10.heap.size = gy at *
  generalize w10.alloc (.cells (tcells qy y) 57) = w10b at *
  by_cases hf : f = 0
  case neg =>
    have hfb : (f != 0) = true := bne_iff_ne.2 hf
    by_cases hk : k = 0
    · have hkb : (k != 0) = false := bne_eq_false_iff_eq.2 hk
      have h4 : f = 4 := by rcases HB.out hk with h_ | h_; exact absurd h_ hf; exact h_
      have h4b : (f == 4) = true := beq_iff_eq.2 h4
      clear hf hk h4
      go_wp2
      go_ret
      exact ⟨rfl, S.out.B⟩
    · have hkb : (k != 0) = true := bne_iff_ne.2 hk
      clear hf hk
      go_wp2
      go_ret
      exact ⟨rfl, S.out.B⟩
  have hfb : (f != 0) = false := bne_eq_false_iff_eq.2 hf
  by_cases hk : k = 0
  case neg =>
    have hkb : (k != 0) = true := bne_iff_ne.2 hk
    clear hf hk
    go_wp2
    go_ret
    exact ⟨rfl, S.out.B⟩
  have hkb : (k != 0) = false := bne_eq_false_iff_eq.2 hk
  have HE := Aside0.mk (HC.out hf hk)
  subst hf
  subst hk
  have C3 := Aside0.mk (fun W (hb : Below w.heap.size w W) (h : RT W qy y) => show Calls Try.prog 23 #[cv p fr, cv q' md', lv r a, tv qy y] W (fun e w' => RetTr W w' (x, 0) e) from HE.out ▸ lift_Trace p q' fr md' r a qy y W (HP.out.below hb) (HQ.out.below hb) (HR.out.below hb) h FF.out FM.out FA.out)
  clear HB HC HE
  obtain ⟨f_0, f_1, f_2, f_3, f_4⟩ := blk5 (S.out.blk 8 rfl)
  obtain ⟨m_0, m_1, m_2, m_3, m_4⟩ := blk5 (S.out.blk 7 rfl)
  obtain ⟨a_0, a_1, a_2, a_3, a_4, a_5, a_6⟩ := blk7 (S.out.blk 5 rfl)
  obtain ⟨y_0, y_1⟩ := blk2 (S.out.blk 0 rfl)
  go_wp2_with fail
  refine (C3.out _ S.out.B RY.out).mono ?_
  rintro e w11 ⟨qz, rfl, hrz, hb⟩
  replace S := Aside0.mk (S.out.below hb)
  replace RL' := Aside0.mk (RL'.out.below hb)
  replace RX := Aside0.mk (RX.out.below hb)
  replace RY := Aside0.mk (RY.out.below hb)
  have RZ := Aside0.mk hrz
  clear hrz C3 hfb hkb
  clear f_0 f_1 f_2 f_3 f_4 m_0 m_1 m_2 m_3 m_4 a_0 a_1 a_2 a_3 a_4 a_5 a_6 y_0 y_1 hb
  replace S := Aside0.mk (S.out.new 57 (tcells qz x))
  replace RL' := Aside0.mk (RL'.out.below (below_alloc (Below.refl _ _) (.cells (tcells qz x) 57)))
  replace RX := Aside0.mk (RX.out.below (below_alloc (Below.refl _ _) (.cells (tcells qz x) 57)))
  replace RY := Aside0.mk (RY.out.below (below_alloc (Below.refl _ _) (.cells (tcells qz x) 57)))
  replace RZ := Aside0.mk (RZ.out.below (below_alloc (Below.refl _ _) (.cells (tcells qz x) 57)))
  go_upto_region 15 with (fail)
  generalize w11.heap.size = gz at *
  generalize w11.alloc (.cells (tcells qz x) 57) = w11b at *
  obtain ⟨x_0, x_1⟩ := blk2 (S.out.blk 2 rfl)
  obtain ⟨z_0, z_1⟩ := blk2 (S.out.blk 0 rfl)
  go_wp2_with fail
  refine (ref25_SameTrace qx qz x _ RX.out RZ.out).mono ?_
  rintro e w12 ⟨rfl, hb⟩
  replace S := Aside0.mk (S.out.below hb)
  replace RL' := Aside0.mk (RL'.out.below hb)
  replace RX := Aside0.mk (RX.out.below hb)
  replace RY := Aside0.mk (RY.out.below hb)
  replace RZ := Aside0.mk (RZ.out.below hb)
  clear x_0 x_1 z_0 z_1 hb
  go_wp2
  go_ret
  exact ⟨rfl, S.out.B⟩
end Go.Proofs.Ytlhiapggccgggaa.PH
