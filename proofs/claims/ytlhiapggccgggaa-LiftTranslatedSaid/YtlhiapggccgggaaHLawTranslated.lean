/- The law LiftTranslated: a translated predicate has the value of the one before, AND that of the Fact. -/
import Derived.Test.YtlhiapggccgggaaHProofW
import Derived.Test.YtlhiapggccgggaaHNumsF
import Derived.Test.YtlhiapggccgggaaHAlive25
import Derived.Test.YtlhiapggccgggaaHOneP
import Derived.Test.YtlhiapggccgggaaHArgP
namespace Go.Proofs.Ytlhiapggccgggaa.PH
open Go.RowKit Go.Proofs.YtlhiapggccgggaaW.PrintWords Go.Proofs.YtlhiapggccgggaaW.PrintLast
set_option linter.unusedVariables false
set_option linter.unusedSimpArgs false

theorem proofC_ok {fr tc : Circ} {l : Lf} {x : Prf} (h : (proofC fr tc l x).2 = 0) : predCheck tc.f1.length x.f2 = 0 ∧ (proofP fr l x).2 = 0 ∧ (proofC fr tc l x).1 = ⟨skipOf l x.f0, l.f1, (proofP fr l x).1⟩ := by
  unfold proofC at h ⊢
  by_cases h1 : liftErr fr tc l = 0
  · rw [if_neg (by simp [h1])] at h ⊢
    by_cases h2 : x.f1 ≠ 1 ∨ x.f0 < 0 ∨ 100 < x.f0
    · rw [if_pos h2] at h; cases h
    · rw [if_neg h2] at h ⊢
      by_cases h3 : predCheck tc.f1.length x.f2 = 0
      · rw [if_neg (by simp [h3])] at h ⊢
        by_cases h4 : 100 < skipOf l x.f0
        · rw [if_pos h4] at h; cases h
        · rw [if_neg h4] at h ⊢
          by_cases h5 : (proofP fr l x).2 = 0
          · rw [if_neg (by simp [h5])]; exact ⟨h3, h5, rfl⟩
          · rw [if_pos h5] at h; exact absurd h h5
      · rw [if_pos h3] at h; cases h
  · rw [if_pos h1] at h; exact absurd h h1
theorem tr_step {b : Nat} {w0 w : World} {fr : Circ} {st : List Bool} {las : List Int} {i : Nat} {z : Int} {v : Bool} {V : Option Addr} {cap : Nat} (hz : las[i]? = some z) (hv : stV fr st z = v)
    (S : Aside0 (Parts b w0 w [pF b Kd.bool 4 (.slice V (i + 1) cap) ((las.take i).map (stV fr st) ++ [v])])) : Aside0 (Parts b w0 w [pF b Kd.bool 4 (.slice V (i + 1) cap) ((las.take (i + 1)).map (stV fr st))]) := by
  rw [List.take_add_one, hz, List.map_append]
  subst hv
  exact S
set_option maxHeartbeats 8000000 in
set_option maxRecDepth 100000 in
theorem law_LiftTranslated (p : CP) (fr : Circ) (q : CP) (tc : Circ) (r : LP) (l : Lf) (X : Option Addr × Nat) (x : Pr) (D : Option Addr × Nat) (st : List Bool) (w : World) (hp : RC w p fr) (hq : RC w q tc) (hr : RL w r l) (hx : RS kGate w X.1 X.2 x.f0) (hs : RS Kd.bool w D.1 D.2 st)
    (nf : fr.Nums) (nt : tc.Nums) (nl : l.Nums) (nx : x.Nums) (ns : ∀ b ∈ st, True) :
    Calls Try.prog 5 #[cv p fr, cv q tc, lv r l, pv X.1 X.2 x, .slice D.1 st.length D.2] w fun e w' => e = .returned (.bool true) ∧ Below w.heap.size w w' := by
  obtain ⟨XA, xc⟩ := X
  obtain ⟨D, dc⟩ := D
  dsimp only at hx hs ⊢
  have HP := Aside0.mk hp
  have HQ := Aside0.mk hq
  have HR := Aside0.mk hr
  have HXX := Aside0.mk hx
  have HS := Aside0.mk hs
  have hu26 := Try.underlying26
  have hu31 := Try.underlying31
  have hu29 := Try.underlying29
  have hu49 := Try.underlying49
  have NF := Aside0.mk nf
  have NT := Aside0.mk nt
  have NL := Aside0.mk nl
  have NX := Aside0.mk nx
  have S := (((((Parts.start w).new 26 (ccells p fr)).new 26 (ccells q tc)).new 31 (lcells r l)).new 29 (pcells XA xc x))
  simp only [sz_new] at S
  replace S := Aside0.mk S
  clear hp hq hr hx hs nf nt nl ns nx
  obtain ⟨og, hog⟩ : ∃ og, [fr, tc].any great = og := ⟨_, rfl⟩
  have HO := Aside0.mk hog
  clear hog
  go_enter Try.func5, Try.ntmps5
  go_upto_region 1 with (fail)
  obtain ⟨w1, hw1⟩ : ∃ W, ((((w.alloc (.cells (ccells p fr) 26)).alloc (.cells (ccells q tc) 26)).alloc (.cells (lcells r l) 31)).alloc (.cells (pcells XA xc x) 29)) = W := ⟨_, rfl⟩
  rw [hw1] at S ⊢
  clear hw1
  go_wp2_with fail
  refine (law25_alive _).mono ?_
  rintro e w2 ⟨rfl, hb⟩
  replace S := Aside0.mk (S.out.below hb)
  clear hb
  obtain ⟨a_0, a_1, a_2, a_3, a_4⟩ := blk5 (S.out.blk 3 rfl)
  obtain ⟨b_0, b_1, b_2, b_3, b_4⟩ := blk5 (S.out.blk 2 rfl)
  go_wp2_with fail
  refine (law25_great (some ⟨w2.heap.size, 0, none⟩) 2 [fr, tc] _ (RS.two_circ (p := p) (q := q) (HP.out.below (below_alloc S.out.B _)) (HQ.out.below (below_alloc S.out.B _)) (fun j u hj => by rw [World.cell?_alloc_at _ _ _ _ (by simp)]; simpa using hj))).mono ?_
  rintro e w3 ⟨rfl, hb⟩
  replace S := Aside0.mk ((S.out.alloc _).below hb)
  rw [HO.out]
  clear a_0 a_1 a_2 a_3 a_4 b_0 b_1 b_2 b_3 b_4 hb
  cases og with
  | true =>
    go_wp2
    go_ret
    exact ⟨rfl, S.out.B⟩
  | false =>
  have hg : great fr = false ∧ great tc = false := by have h_ := HO.out; simpa using h_
  have FF := Aside0.mk (NF.out.fits hg.1)
  have FT := Aside0.mk (NT.out.fits hg.2)
  have SF := Aside0.mk (lat60 hg.1)
  have ST := Aside0.mk (lat60 hg.2)
  clear hg HO
  obtain ⟨l_0, l_1, l_2, l_3, l_4, l_5, l_6⟩ := blk7 (S.out.blk 1 rfl)
  go_wp2_with fail
  refine (ref25_GreatLift r l _ (HR.out.below S.out.B)).mono ?_
  rintro e w4 ⟨ba, rfl, hba, hb⟩
  replace S := Aside0.mk (S.out.below hb)
  have SA := Aside0.mk hba
  clear hba
  clear l_0 l_1 l_2 l_3 l_4 l_5 l_6 hb
  cases ba with
  | true =>
    go_wp2
    go_ret
    exact ⟨rfl, S.out.B⟩
  | false =>
  have FL := Aside0.mk (NL.out.fits (SA.out rfl))
  clear SA
  by_cases h3 : 300 < x.f0.length
  · have h3b : decide (300 < (x.f0.length : Int)) = true := decide_eq_true (by omega)
    clear h3
    obtain ⟨x_0, x_1⟩ := blk2 (S.out.blk 0 rfl)
    go_wp2
    go_ret
    exact ⟨rfl, S.out.B⟩
  have h3b : decide (300 < (x.f0.length : Int)) = false := decide_eq_false (by omega)
  have HXF := Aside0.mk (show x.Fits from ⟨by omega, NX.out.ig, NX.out.il⟩)
  have HSZ := Aside0.mk (show (fr.f1.length : Int) + x.f0.length ≤ 1000 by have := SF.out; omega)
  clear h3
  obtain ⟨a_0, a_1, a_2, a_3, a_4⟩ := blk5 (S.out.blk 3 rfl)
  obtain ⟨b_0, b_1, b_2, b_3, b_4⟩ := blk5 (S.out.blk 2 rfl)
  obtain ⟨l_0, l_1, l_2, l_3, l_4, l_5, l_6⟩ := blk7 (S.out.blk 1 rfl)
  obtain ⟨x_0, x_1⟩ := blk2 (S.out.blk 0 rfl)
  go_wp2_with fail
  refine (ref25_Check p q fr tc r l _ (HP.out.below S.out.B) (HQ.out.below S.out.B) (HR.out.below S.out.B) FF.out FT.out FL.out).mono ?_
  rintro e w5 ⟨rfl, hb⟩
  replace S := Aside0.mk (S.out.below hb)
  clear a_0 a_1 a_2 a_3 a_4 b_0 b_1 b_2 b_3 b_4 l_0 l_1 l_2 l_3 l_4 l_5 l_6 x_0 x_1 hb
  obtain ⟨E, hE⟩ : ∃ E, liftCheck fr tc l = E := ⟨_, rfl⟩
  have HEE := Aside0.mk (show liftErr fr tc l = E from (liftErr_eq fr tc l).trans hE)
  rw [hE]
  clear hE h3b
  by_cases he : E = 0
  case neg =>
    have hne : (E != 0) = true := bne_iff_ne.2 he
    clear he
    go_wp2
    go_ret
    exact ⟨rfl, S.out.B⟩
  subst he
  have LO := Aside0.mk (LOk.of (liftErr_ok HEE.out).2.2)
  have HCF := Aside0.mk (liftErr_ok HEE.out).1
  obtain ⟨a_0, a_1, a_2, a_3, a_4⟩ := blk5 (S.out.blk 3 rfl)
  by_cases hn : st.length = fr.f1.length
  case neg =>
    have hnb : ((st.length : Int) != (fr.f1.length : Int)) = true := bne_iff_ne.2 (by omega)
    clear hn
    go_wp2
    go_ret
    exact ⟨rfl, S.out.B⟩
  have hnb : ((st.length : Int) != (fr.f1.length : Int)) = false := bne_eq_false_iff_eq.2 (by omega)
  have HN := Aside0.mk hn
  clear hn
  obtain ⟨⟨y, m⟩, hy⟩ : ∃ y, proofC fr tc l ⟨0, 1, x⟩ = y := ⟨_, rfl⟩
  have HY := Aside0.mk hy
  have C1 := Aside0.mk (fun W (hb : Below w.heap.size w W) => show Calls Try.prog 20 #[cv p fr, cv q tc, lv r l, xv XA xc ⟨0, 1, x⟩] W (fun e w' => RetX W w' (y, m) e) from hy ▸ lift_Proof p q fr tc r l XA xc ⟨0, 1, x⟩ W (HP.out.below hb) (HQ.out.below hb) (HR.out.below hb) (HXX.out.below hb) FF.out FT.out FL.out HXF.out HSZ.out)
  clear hy
  obtain ⟨b_0, b_1, b_2, b_3, b_4⟩ := blk5 (S.out.blk 2 rfl)
  obtain ⟨l_0, l_1, l_2, l_3, l_4, l_5, l_6⟩ := blk7 (S.out.blk 1 rfl)
  obtain ⟨x_0, x_1⟩ := blk2 (S.out.blk 0 rfl)
  go_wp2_with fail
  refine (C1.out _ S.out.B).mono ?_
  rintro e w6 ⟨Y, yc, rfl, hry, hb⟩
  replace S := Aside0.mk (S.out.below hb)
  have RY := Aside0.mk hry
  clear hry hnb C1
  clear a_0 a_1 a_2 a_3 a_4 b_0 b_1 b_2 b_3 b_4 l_0 l_1 l_2 l_3 l_4 l_5 l_6 x_0 x_1 hb
  replace S := Aside0.mk (S.out.new 49 (xcells Y yc y))
  replace RY := Aside0.mk (RY.out.below (below_alloc (Below.refl _ _) (.cells (xcells Y yc y) 49)))
  go_upto_region 5 with (fail)
  generalize w6.heap.size = gy at *
  generalize w6.alloc (.cells (xcells Y yc y) 49) = w6b at *
  by_cases hm : m = 0
  case neg =>
    have hmb : (m != 0) = true := bne_iff_ne.2 hm
    clear hm
    go_wp2
    go_ret
    exact ⟨rfl, S.out.B⟩
  have hmb : (m != 0) = false := bne_eq_false_iff_eq.2 hm
  subst hm
  obtain ⟨HK, HPE, HYY⟩ := proofC_ok (by rw [HY.out])
  rw [HY.out] at HYY
  dsimp only at HK HYY
  have HYF := Aside0.mk (congrArg Prf.f1 HYY)
  have HYP := Aside0.mk (congrArg Prf.f2 HYY)
  have HCK := Aside0.mk HK
  have HPR := Aside0.mk HPE
  clear HK HPE HYY HY
  have hyf : (y.f1 != l.f1) = false := bne_eq_false_iff_eq.2 HYF.out
  have HLM := Aside0.mk (show l.f4.length ≤ 60 by rw [LO.out.n4]; exact ST.out)
  obtain ⟨l_0, l_1, l_2, l_3, l_4, l_5, l_6⟩ := blk7 (S.out.blk 2 rfl)
  obtain ⟨y_0, y_1, y_2, y_3⟩ := blkP (S.out.blk 0 rfl)
  go_upto_region 9 with (fail)
  clear l_0 l_1 l_2 l_3 l_4 l_5 l_6 y_0 y_1 y_2 y_3 hyf
  have SB := Aside0.mk S.out.B
  have T := Aside0.mk ((Parts.start w6b).nil Kd.bool 4)
  go_loopg [14, 15, 16, 17] l.f4.length (fun gg s14 s15 _ _ wr => ∃ (i : Nat) (V : Option Addr) (c : Nat), s14 = .slice V i c ∧ s15 = .int .i64 i ∧ Aside0 (i ≤ l.f4.length ∧ l.f4.length - i ≤ gg) ∧ Aside0 (Parts w6b.heap.size w6b wr [pF w6b.heap.size Kd.bool 4 (.slice V i c) ((l.f4.take i).map (stV fr st))]))
  case atStart => exact ⟨0, none, 0, rfl, rfl, ⟨by omega, by omega⟩, T⟩
  case round =>
    clear T
    obtain ⟨i, V, c, rfl, rfl, HX, T⟩ := hrel
    replace S := Aside0.mk (S.out.below T.out.B)
    replace RY := Aside0.mk (RY.out.below T.out.B)
    obtain ⟨l_0, l_1, l_2, l_3, l_4, l_5, l_6⟩ := blk7 (S.out.blk 2 rfl)
    obtain ⟨a_0, a_1, a_2, a_3, a_4⟩ := blk5 (S.out.blk 4 rfl)
    by_cases hlt : i < l.f4.length
    · obtain ⟨ad, e1, hx⟩ := at_int (HR.out.s4.below S.out.B).r i hlt
      obtain ⟨r2, k2, r3, k3, r4, k4, r5, k5⟩ := r
      dsimp only at e1
      subst e1
      obtain ⟨z, hz⟩ : ∃ z, l.f4[i] = z := ⟨_, rfl⟩
      rw [hz] at hx
      have HZ := Aside0.mk (show l.f4[i]? = some z by rw [List.getElem?_eq_getElem hlt, hz])
      have HZM := Aside0.mk (LO.out.m4 z (hz ▸ List.getElem_mem hlt))
      have hlti : (i : Int) < l.f4.length := by omega
      have HLT := Aside0.mk hlt
      have HFL := Aside0.mk (show ((l.f4.take i).map (stV fr st)).length = i by simp; omega)
      clear hz hlt
      by_cases hz0 : 0 ≤ z
      · have hzb : decide (0 ≤ z) = true := decide_eq_true hz0
        obtain ⟨qx, hqx⟩ : ∃ qx : Nat, z / 2 - fr.f0 - 1 = (qx : Int) := ⟨(z / 2 - fr.f0 - 1).toNat, by rcases HZM.out with h_ | h_ <;> omega⟩
        have hg := gCheck_ok HCF.out
        have hqi : qx < st.length := by have h1 := HN.out; rcases HZM.out with h_ | h_ <;> omega
        obtain ⟨bd, e7, hx7⟩ := at_bool (HS.out.below S.out.B).r qx hqi
        subst e7
        obtain ⟨v, hv⟩ : ∃ v, st[qx] = v := ⟨_, rfl⟩
        rw [hv] at hx7
        have hwq : wrap64 (wrap64 (wrap64 (z.tdiv 2) - fr.f0) - 1) = (qx : Int) := by
          rcases HZM.out with h_ | h_
          · omega
          · rw [Int.tdiv_eq_ediv_of_nonneg (by omega), wrap_in (x := z / 2) (by omega) (by omega), wrap_in (x := z / 2 - fr.f0) (by omega) (by omega), wrap_in (by omega) (by omega)]
            exact hqx
        have hrm : wrap64 (z.tmod 2) = z % 2 := by
          rcases HZM.out with h_ | h_
          · omega
          · rw [Int.tmod_eq_emod_of_nonneg (by omega), wrap_in (by omega) (by omega)]
        have HV := Aside0.mk (show stV fr st z = (!v == (z.tmod 2 == 1)) by
          unfold stV
          rw [decide_eq_true hz0, Bool.true_and, hqx, Int.toNat_natCast, getD_at hqi, hv, Int.tmod_eq_emod_of_nonneg hz0]
          cases v <;> by_cases h_ : z % 2 = 1 <;> simp [h_])
        have hqii : (qx : Int) < st.length := by omega
        clear hg hv hqx hqi hz0
        go_wp2_with (first | (at_builtin; refine Parts.appendL T.out 0 rfl flat_bool rfl (.tmp 109) (.tmp 111) 46 (.bool false) 1 rfl Try.underlying46 infoBool rfl (by decide) (by decide) (!v == (z.tmod 2 == 1)) [.bool (!v == (z.tmod 2 == 1))] rfl rfl rfl (by have := HFL.out; have := HLT.out; have := HLM.out; omega) ?_; intro V5 cap5 w8 h8; have T8 := Aside0.mk h8; clear h8))
        go_roundg (l.f4.length - (i + 1))
        case measure => have := HX.out; have := HLT.out; omega
        case rel => exact ⟨i + 1, V5, cap5, by rw [Nat.min_eq_left (by have := HLT.out; omega)], (by first | exact val_step HLT.out (by have := HLM.out; omega) | rfl), ⟨by have := HLT.out; omega, by have := HX.out; have := HLT.out; omega⟩, tr_step HZ.out HV.out (by have h_ := T8; rw [HFL.out] at h_; exact h_)⟩
      · have hzb : decide (0 ≤ z) = false := decide_eq_false hz0
        have HV := Aside0.mk (show stV fr st z = false by unfold stV; rw [decide_eq_false hz0, Bool.false_and])
        clear hz0
        go_wp2_with (first | (at_builtin; refine Parts.appendL T.out 0 rfl flat_bool rfl (.tmp 109) (.tmp 111) 46 (.bool false) 1 rfl Try.underlying46 infoBool rfl (by decide) (by decide) false [.bool false] rfl rfl rfl (by have := HFL.out; have := HLT.out; have := HLM.out; omega) ?_; intro V5 cap5 w8 h8; have T8 := Aside0.mk h8; clear h8))
        go_roundg (l.f4.length - (i + 1))
        case measure => have := HX.out; have := HLT.out; omega
        case rel => exact ⟨i + 1, V5, cap5, by rw [Nat.min_eq_left (by have := HLT.out; omega)], (by first | exact val_step HLT.out (by have := HLM.out; omega) | rfl), ⟨by have := HLT.out; omega, by have := HX.out; have := HLT.out; omega⟩, tr_step HZ.out HV.out (by have h_ := T8; rw [HFL.out] at h_; exact h_)⟩
    · have hk : i = l.f4.length := by have := HX.out; omega
      subst hk
      have hlti : ¬ ((l.f4.length : Nat) : Int) < l.f4.length := by omega
      clear hlt
      rw [List.take_length] at T
      obtain ⟨R, hR⟩ : ∃ R, l.f4.map (stV fr st) = R := ⟨_, rfl⟩
      rw [hR] at T
      have hRL : R.length = l.f4.length := by rw [← hR, List.length_map]
      have hck : predCheck l.f4.length x = 0 := by rw [LO.out.n4]; exact HCK.out
      have hap := andP_val (st := st) HPR.out (by have := HN.out; omega)
      have htr := transP_val (lasOk_of LO.out (gCheck_ok HCF.out).1 (gCheck_ok HCF.out).2.1 (by have := gCheck_ok HCF.out; omega)) hck HN.out HSZ.out
      have hcy : predCheck st.length y.f2 = 0 := by rw [HYP.out, HN.out]; exact hap.1
      have hvy : predValue y.f2 st = (predValue x R && predValue l.f5 st) := by rw [HYP.out, ← hR, ← htr.2]; exact hap.2
      have hcf : predCheck st.length l.f5 = 0 := by rw [HN.out]; exact LO.out.k
      obtain ⟨va, hva⟩ : ∃ b, predValue x R = b := ⟨_, rfl⟩
      obtain ⟨vb, hvb⟩ : ∃ b, predValue l.f5 st = b := ⟨_, rfl⟩
      rw [hva, hvb] at hvy
      have PA := Aside0.mk (fun W (hb : Below w6b.heap.size w6b W) (h : RS Kd.bool W V c R) => show Calls Try.prog 21 #[pv XA xc x, .slice V l.f4.length c] W (fun e w' => RetBE W w' va 0 e) from by
        have h_ := preds_Value XA xc x V c R W (HXX.out.below (SB.out.trans (hb.mono SB.out.size))) HXF.out h
        unfold valueOf at h_
        rw [hRL, if_pos hck, hck, hva] at h_
        exact h_)
      have PB := Aside0.mk (fun W (hb : Below w6b.heap.size w6b W) => show Calls Try.prog 21 #[pv r.A5 r.c5 l.f5, .slice D st.length dc] W (fun e w' => RetBE W w' vb 0 e) from by
        have h_ := preds_Value r.A5 r.c5 l.f5 D dc st W (HR.out.below (SB.out.trans (hb.mono SB.out.size))).s5 FL.out.p (HS.out.below (SB.out.trans (hb.mono SB.out.size)))
        unfold valueOf at h_
        rw [if_pos hcf, hcf, hvb] at h_
        exact h_)
      have PC := Aside0.mk (fun W (hb : Below w6b.heap.size w6b W) (h : RS kGate W Y yc y.f2.f0) => show Calls Try.prog 21 #[pv Y yc y.f2, .slice D st.length dc] W (fun e w' => RetBE W w' (va && vb) 0 e) from by
        have h_ := preds_Value Y yc y.f2 D dc st W h (fits_of_check hcy) (HS.out.below (SB.out.trans (hb.mono SB.out.size)))
        unfold valueOf at h_
        rw [if_pos hcy, hcy, hvy] at h_
        exact h_)
      clear hR hRL hck hap htr hcy hvy hcf hva hvb
      obtain ⟨x_0, x_1⟩ := blk2 (S.out.blk 1 rfl)
      go_wp2_with fail
      refine (PA.out _ T.out.B (T.out.rowF 0 rfl)).mono ?_
      rintro e w21 ⟨rfl, hb⟩
      replace S := Aside0.mk (S.out.below hb)
      replace RY := Aside0.mk (RY.out.below hb)
      have B21 := Aside0.mk (T.out.B.trans (hb.mono T.out.B.size))
      clear l_0 l_1 l_2 l_3 l_4 l_5 l_6 a_0 a_1 a_2 a_3 a_4 x_0 x_1 hb T PA
      obtain ⟨l_0, l_1, l_2, l_3, l_4, l_5, l_6⟩ := blk7 (S.out.blk 2 rfl)
      go_wp2_with fail
      refine (PB.out _ B21.out).mono ?_
      rintro e w22 ⟨rfl, hb⟩
      replace S := Aside0.mk (S.out.below hb)
      replace RY := Aside0.mk (RY.out.below hb)
      have B22 := Aside0.mk (B21.out.trans (hb.mono B21.out.size))
      clear l_0 l_1 l_2 l_3 l_4 l_5 l_6 hb B21 PB
      obtain ⟨y_0, y_1, y_2, y_3⟩ := blkP (S.out.blk 0 rfl)
      go_wp2_with fail
      refine (PC.out _ B22.out RY.out).mono ?_
      rintro e w23 ⟨rfl, hb⟩
      replace S := Aside0.mk (S.out.below hb)
      clear y_0 y_1 y_2 y_3 hb B22 PC RY
      cases va <;> cases vb
      all_goals (go_wp2; go_ret; exact ⟨rfl, S.out.B⟩)
end Go.Proofs.Ytlhiapggccgggaa.PH
