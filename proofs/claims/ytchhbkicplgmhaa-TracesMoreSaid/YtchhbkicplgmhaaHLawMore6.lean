/- The law TracesMore: its function answers true. -/
import Derived.Test.YtchhbkicplgmhaaHMore
namespace Go.Proofs.Ytchhbkicplgmhaa.PH
open Go.RowKit Go.Proofs.YtchhbkicplgmhaaW.PrintWords Go.Proofs.YtchhbkicplgmhaaW.PrintLast
set_option linter.unusedVariables false
set_option linter.unusedSimpArgs false

/-- The beginning of a row that is read. -/
theorem RS.take {α : Type} {d : Kd α} {w : World} {A : Option Addr} {c : Nat} {l : List α} (h : RS d w A c l) {n : Nat} (hn : n ≤ l.length) : RS d w A c (l.take n) := by
  have hl : (l.take n).length = n := by rw [List.length_take]; omega
  have hm := h.max
  have hh := h.h
  refine ⟨⟨rfl, by rw [hl]; omega, fun h0 => ?_⟩, by rw [hl]; omega⟩
  obtain ⟨ad, e, hc⟩ := h.r.2.2 (by omega)
  refine ⟨ad, e, fun j p hj => hc j p ?_⟩
  rw [List.getElem?_take] at hj
  split at hj
  · exact hj
  · cases hj
/-- The boxes, and the run with a frame more. -/
structure LM (w : World) (pc : CP) (c : Circ) (q : TP) (t : Run) (gW : Nat) (qm : TP) (u : Run) (wr : World) : Prop where
  I : CkInv w pc c q t wr
  BO : wr.heap[gW]? = some (.cells #[.slice qm.A0 u.f0.length qm.c0, .slice qm.A1 u.f1.length qm.c1] 30 (0, 0))
  RM : RT wr qm u
theorem LM.below {w : World} {pc : CP} {c : Circ} {q : TP} {t : Run} {gW : Nat} {qm : TP} {u : Run} {wr w2 : World} (h : LM w pc c q t gW qm u wr) (hb : Below wr.heap.size wr w2) : LM w pc c q t gW qm u w2 := ⟨h.I.below hb, blk_below h.BO hb, h.RM.below hb⟩
theorem lm_grown {w : World} {pc : CP} {c : Circ} {q : TP} {t : Run} {ins : List Bool} {W w6 : World} {b gW : Nat} {QA0 : Option Addr} {QC0 : Nat} {QA1 : Option Addr} {QC1 : Nat} {D : Option Addr} {d : Nat} {hs : List HeadB} {V5 : Option Addr} {cap5 : Nat}
    (J : CkInv w pc c q t W) (hb0 : w.heap.size + 2 ≤ b) (hbg : b ≤ gW) (HO0 : Kd.R Kd.bool 4 W b (fun _ => True) (.slice QA0 t.f0.length QC0) t.f0) (BO6 : w6.heap[gW]? = some (.cells #[.slice QA0 t.f0.length QC0, .slice QA1 t.f1.length QC1] 30 (0, 0)))
    (HHL : hs.length = t.f1.length) (HHR : Kd.R kHdB 27 W b (fun _ => True) (.slice QA1 t.f1.length QC1) hs)
    (HHE : ∀ (j : Nat) (x : HeadB) (y : List Bool), hs[j]? = some x → t.f1[j]? = some y → x.2.1 = y.length ∧ ∃ ok' : Nat → Prop, Kd.R Kd.bool 4 W b ok' (.slice x.1 x.2.1 x.2.2) y)
    (HI : RS Kd.bool w D d ins) (HO6 : Kd.R kHdB 27 w6 b (fun _ => True) (.slice V5 (t.f1.length + 1) cap5) (hs ++ [((D, ins.length, d) : HeadB)])) (HB6 : Below b W w6) (HG6 : W.grownBy w6 (Value.slice QA1 t.f1.length QC1).ownBlock) :
    LM w pc c q t gW ⟨QA0, QC0, V5, cap5⟩ (moreT t ins) (w6.setCell ⟨gW, 1, none⟩ (.slice V5 (t.f1.length + 1) cap5)) := by
  have hml : (moreT t ins).f1.length = t.f1.length + 1 := by unfold moreT; simp
  have hbw : Below w.heap.size w (w6.setCell ⟨gW, 1, none⟩ (.slice V5 (t.f1.length + 1) cap5)) := below_set (J.BW.trans (HB6.mono (by omega))) (by omega)
  refine ⟨⟨hbw, blk_far ((HB6.block _ (by omega)).trans J.B0) (show w.heap.size ≠ gW by omega) _, blk_far ((HB6.block _ (by omega)).trans J.B1) (show w.heap.size + 1 ≠ gW by omega) _⟩, ?_, ⟨RS.of_R' (Kd.R_set (R_other HO0 (Kd.R_own HHR).choose_spec (by decide) HG6) BO6 (by decide) 1 _), ?_⟩⟩
  · rw [hml]
    show (w6.setCell ⟨gW, 1, none⟩ (.slice V5 (t.f1.length + 1) cap5)).heap[gW]? = some (.cells #[.slice QA0 t.f0.length QC0, .slice V5 (t.f1.length + 1) cap5] 30 (0, 0))
    simpa using blk_set BO6 1 (.slice V5 (t.f1.length + 1) cap5)
  · refine HdB.to (hs := hs ++ [((D, ins.length, d) : HeadB)]) (RS.of_R' (Kd.R_set HO6 BO6 (by decide) 1 _)) ⟨by rw [hml, List.length_append, HHL]; rfl, fun j x y hx hy => ?_⟩
    have hy : (t.f1 ++ [ins])[j]? = some y := hy
    by_cases hj : j < t.f1.length
    · rw [List.getElem?_append_left (by rw [HHL]; exact hj)] at hx
      rw [List.getElem?_append_left hj] at hy
      obtain ⟨e1, ok', hR⟩ := HHE j x y hx hy
      exact ⟨e1, RS.of_R' (Kd.R_set (R_other hR (Kd.R_own HHR).choose_spec (by decide) HG6) BO6 (by decide) 1 _)⟩
    · rw [List.getElem?_append_right (by rw [HHL]; omega), HHL] at hx
      rw [List.getElem?_append_right (by omega)] at hy
      have hj0 : j - t.f1.length = 0 := by
        cases hjj : j - t.f1.length with
        | zero => rfl
        | succ m => rw [hjj] at hx; simp at hx
      rw [hj0] at hx hy
      have ex : ((D, ins.length, d) : HeadB) = x := by simpa using hx
      have ey : ins = y := by simpa using hy
      subst ex
      subst ey
      exact ⟨rfl, HI.below hbw⟩
set_option maxHeartbeats 16000000 in
set_option maxRecDepth 100000 in
theorem law_TracesMore (pc : CP) (c : Circ) (q : TP) (t : Run) (D : Option Addr × Nat) (ins : List Bool) (w : World) (hc : RC w pc c) (ht : RT w q t) (hi : RS Kd.bool w D.1 D.2 ins) (nc : c.Nums) (nt : (∀ b ∈ t.f0, True) ∧ ∀ r ∈ t.f1, ∀ b ∈ r, True) (ni : ∀ x ∈ ins, True) :
    Calls Try.prog 7 #[cv pc c, tv q t, .slice D.1 ins.length D.2] w fun e w' => e = .returned (.bool true) ∧ Below w.heap.size w w' := by
  obtain ⟨D, d⟩ := D
  dsimp only at hi
  have HR := Aside0.mk hc
  have HT := Aside0.mk ht
  have HI := Aside0.mk hi
  have NC := Aside0.mk nc
  have I := Aside0.mk (CkInv.start w pc c q t)
  have hu26 := Try.underlying26
  have hu30 := Try.underlying30
  obtain ⟨g0, g1, g2, g3, g4⟩ := (blk5w I.out.B0).1
  obtain ⟨u0, u1⟩ := (blk2t I.out.B1).1
  clear hc ht nc nt hi ni
  go_enter Try.func7, Try.ntmps7
  go_wp2_with fail
  refine (law06_fit pc c q t _ (HR.out.below I.out.BW) NC.out (HT.out.below I.out.BW)).mono ?_
  rintro e w1 ⟨b, rfl, hfit, hb⟩
  have I := Aside0.mk (I.out.below hb)
  clear hb g0 g1 g2 g3 g4 u0 u1
  cases b with
  | false =>
    clear hfit
    go_wp2_with fail
    refine (law06_alive _).mono ?_
    rintro e w2 ⟨rfl, hb⟩
    have B2 := Aside0.mk (I.out.BW.trans (hb.mono I.out.BW.size))
    clear hb
    go_wp2
    go_ret
    exact ⟨rfl, B2.out⟩
  | true =>
  have HFIT := Aside0.mk (hfit rfl)
  clear hfit
  obtain ⟨g0, g1, g2, g3, g4⟩ := (blk5w I.out.B0).1
  obtain ⟨u0, u1⟩ := (blk2t I.out.B1).1
  by_cases h19 : 19 < t.f1.length
  · have h19d : decide (19 < (t.f1.length : Int)) = true := decide_eq_true (by omega)
    clear h19
    go_wp2_with fail
    refine (law06_alive _).mono ?_
    rintro e w2 ⟨rfl, hb⟩
    have B2 := Aside0.mk (I.out.BW.trans (hb.mono I.out.BW.size))
    clear hb
    go_wp2
    go_ret
    exact ⟨rfl, B2.out⟩
  have h19d : decide (19 < (t.f1.length : Int)) = false := decide_eq_false (by omega)
  by_cases hin : (ins.length : Int) = c.f0
  case neg =>
    have hind : ((ins.length : Int) != c.f0) = true := bne_iff_ne.mpr hin
    clear hin h19
    go_wp2_with fail
    refine (law06_alive _).mono ?_
    rintro e w2 ⟨rfl, hb⟩
    have B2 := Aside0.mk (I.out.BW.trans (hb.mono I.out.BW.size))
    clear hb
    go_wp2
    go_ret
    exact ⟨rfl, B2.out⟩
  have hind : ((ins.length : Int) != c.f0) = false := bne_eq_false_iff_eq.mpr hin
  have HL := Aside0.mk (And.intro (show t.f1.length ≤ 19 by omega) hin)
  have HCK := Aside0.mk HFIT.out.2.2
  have HCM := Aside0.mk (more_check HCK.out HL.out.1 HL.out.2)
  have FC := Aside0.mk (fits_of_nums NC.out HFIT.out.1)
  clear h19 hin
  go_wp2_with fail
  refine (ref06_Twin q t _ (HT.out.below I.out.BW) (by have := HFIT.out.2.1.1; omega) (by have := HL.out.1; omega) (fun l hl => by have := HFIT.out.2.1.2.2 l hl; omega)).mono ?_
  rintro e w3 ⟨qo, rfl, ho, hb3⟩
  obtain ⟨QA0, QC0, QA1, QC1⟩ := qo
  have hx := below_alloc (Below.refl w3.heap.size w3) (.cells #[.slice QA0 t.f0.length QC0, .slice QA1 t.f1.length QC1] 30)
  have HBW := Aside0.mk (show w.heap.size + 2 ≤ w1.heap.size ∧ w1.heap.size ≤ w3.heap.size from ⟨blk_lt I.out.B1, hb3.size⟩)
  have J := Aside0.mk ((I.out.below hb3).below hx)
  have HO := Aside0.mk (ho.below hx)
  have BO := Aside0.mk (blk_new w3 (.cells #[.slice QA0 t.f0.length QC0, .slice QA1 t.f1.length QC1] 30))
  have HSZ := Aside0.mk hx.size
  clear hb3 hx ho I g0 g1 g2 g3 g4 u0 u1 h19d hind
  obtain ⟨W, hW⟩ : ∃ W, w3.alloc (.cells #[.slice QA0 t.f0.length QC0, .slice QA1 t.f1.length QC1] 30) = W := ⟨_, rfl⟩
  rw [hW] at J HO BO HSZ
  obtain ⟨hs, hhl, hhr, hhe⟩ := R_heads HO.out.s1
  have HHL := Aside0.mk hhl
  have HHR := Aside0.mk hhr
  have HHE := Aside0.mk hhe
  clear hhl hhr hhe
  obtain ⟨o0, o1⟩ := (blk2t BO.out).1
  have HJ := Aside0.mk (show (hs ++ [((D, ins.length, d) : HeadB)]).length = t.f1.length + 1 by rw [List.length_append, HHL.out]; rfl)
  go_wp2_with (first | (at_builtin; go_loud (refine Kd.R_append kHdB (w0 := W) w1.heap.size rfl (.tmp 37) (.tmp 39) 28 27 (.slice none 0 0) 24 rfl Try.underlying28 infoRowB rfl (by decide) (by omega) (.slice QA1 t.f1.length QC1) hs (D, ins.length, d) [.slice D ins.length d] (fun _ => True) (fun _ => False) rfl rfl ?aP (fun _ h => h.elim) ?aF ?aO ?aB ?aS ?aL ?_); (case aP => exact rfl); (case aF => exact fun _ _ => trivial); (case aO => exact HHR.out); (case aB => exact Below.refl _ _); (case aS => exact Nat.le_trans HBW.out.2 HSZ.out); (case aL => have := HHL.out; have := HL.out.1; omega); intro v1 w6 ho hb hg hat; obtain ⟨V5, cap5, rfl, _, _⟩ := Kd.R_reads ho; rw [HJ.out] at ho ⊢; have BO6 := Aside0.mk ((hg.block _ (blk_lt BO.out) (Kd.R_ne HHR.out BO.out (by decide))).trans BO.out); have HO6 := Aside0.mk ho; have HB6 := Aside0.mk hb; have HG6 := Aside0.mk hg; clear ho hb hg hat o0 o1; have L := Aside0.mk (lm_grown J.out HBW.out.1 HBW.out.2 (HO.out.s0) BO6.out HHL.out HHR.out HHE.out HI.out HO6.out HB6.out HG6.out); obtain ⟨⟨o0, o1⟩, z0, z1⟩ := blk2t BO6.out; obtain ⟨g0, g1, g2, g3, g4⟩ := (blk5w L.out.I.B0).1; obtain ⟨u0, u1⟩ := (blk2t L.out.I.B1).1))
  clear o0 o1 z0 z1 g0 g1 g2 g3 g4 u0 u1
  generalize w6.setCell ⟨w3.heap.size, 1, none⟩ (.slice V5 (t.f1.length + 1) cap5) = w7 at *
  generalize w3.heap.size = gW at *
  have HML := Aside0.mk (show (moreT t ins).f1.length = t.f1.length + 1 by unfold moreT; simp)
  have HST := Aside0.mk (more_states c t ins)
  obtain ⟨n, m, hn, hm, h0, h1, h2, h3⟩ := more_right (ins := ins) HCK.out HCM.out
  have HNM := Aside0.mk (And.intro h1 (And.intro h2 h3))
  have HN0 := Aside0.mk (show (n : Int) ≤ 19 by have := HL.out.1; omega)
  generalize moreT t ins = u at *
  have HSO := statesC_ok HCK.out
  have HSU := statesC_ok HCM.out
  have HLS := Aside0.mk (statesOf_len c t)
  have HLU := Aside0.mk ((statesOf_len c u).trans HML.out)
  have HS0 := Aside0.mk (tCheck_ok HCK.out).2.2.1
  generalize statesOf c t = S at *
  generalize statesOf c u = U at *
  have C1 := Aside0.mk (fun W (hb : Below w.heap.size w W) => show Calls Try.prog 15 #[cv pc c, tv q t] W (fun e w' => RetSt W w' (S, 0) e) from HSO ▸ traces_States pc c q t W (HR.out.below hb) FC.out (HT.out.below hb))
  have C2 := Aside0.mk (fun W (hb : Below w.heap.size w W) (hr : RT W ⟨QA0, QC0, V5, cap5⟩ u) => show Calls Try.prog 15 #[cv pc c, tv ⟨QA0, QC0, V5, cap5⟩ u] W (fun e w' => RetSt W w' (U, 0) e) from HSU ▸ traces_States pc c ⟨QA0, QC0, V5, cap5⟩ u W (HR.out.below hb) FC.out hr)
  have C3 := Aside0.mk (fun W (hb : Below w.heap.size w W) => show Calls Try.prog 17 #[cv pc c, tv q t] W (fun e w' => RetII W w' ((n : Int), 0) e) from hn ▸ traces_Right pc c q t W (HR.out.below hb) FC.out (HT.out.below hb))
  have C4 := Aside0.mk (fun W (hb : Below w.heap.size w W) (hr : RT W ⟨QA0, QC0, V5, cap5⟩ u) => show Calls Try.prog 17 #[cv pc c, tv ⟨QA0, QC0, V5, cap5⟩ u] W (fun e w' => RetII W w' ((m : Int), 0) e) from hm ▸ traces_Right pc c ⟨QA0, QC0, V5, cap5⟩ u W (HR.out.below hb) FC.out hr)
  clear hn hm h0 h1 h2 h3 HSO HSU J HO BO BO6 HO6 HB6 HG6 HHL HHR HHE HJ HSZ
  obtain ⟨g0, g1, g2, g3, g4⟩ := (blk5w L.out.I.B0).1
  obtain ⟨u0, u1⟩ := (blk2t L.out.I.B1).1
  obtain ⟨o0, o1⟩ := (blk2t L.out.BO).1
  go_wp2_with fail
  refine (C1.out _ L.out.I.BW).mono ?_
  rintro e z ⟨Oa, oca, rfl, hrs, hb⟩
  have L := Aside0.mk (L.out.below hb)
  have R1 := Aside0.mk hrs
  clear hrs
  clear hb g0 g1 g2 g3 g4 u0 u1 o0 o1
  rw [HLS.out]
  obtain ⟨g0, g1, g2, g3, g4⟩ := (blk5w L.out.I.B0).1
  obtain ⟨u0, u1⟩ := (blk2t L.out.I.B1).1
  obtain ⟨o0, o1⟩ := (blk2t L.out.BO).1
  go_wp2_with fail
  refine (C2.out _ L.out.I.BW L.out.RM).mono ?_
  rintro e z ⟨Ob, ocb, rfl, hrs, hb⟩
  have L := Aside0.mk (L.out.below hb)
  have R1 := Aside0.mk (R1.out.below hb)
  have R2 := Aside0.mk hrs
  clear hrs
  clear hb g0 g1 g2 g3 g4 u0 u1 o0 o1
  rw [HLU.out]
  obtain ⟨g0, g1, g2, g3, g4⟩ := (blk5w L.out.I.B0).1
  obtain ⟨u0, u1⟩ := (blk2t L.out.I.B1).1
  obtain ⟨o0, o1⟩ := (blk2t L.out.BO).1
  go_wp2_with fail
  refine (C3.out _ L.out.I.BW).mono ?_
  rintro e z ⟨rfl, hb⟩
  have L := Aside0.mk (L.out.below hb)
  have R1 := Aside0.mk (R1.out.below hb)
  have R2 := Aside0.mk (R2.out.below hb)
  clear hb g0 g1 g2 g3 g4 u0 u1 o0 o1
  obtain ⟨g0, g1, g2, g3, g4⟩ := (blk5w L.out.I.B0).1
  obtain ⟨u0, u1⟩ := (blk2t L.out.I.B1).1
  obtain ⟨o0, o1⟩ := (blk2t L.out.BO).1
  go_wp2_with fail
  refine (C4.out _ L.out.I.BW L.out.RM).mono ?_
  rintro e z ⟨rfl, hb⟩
  have L := Aside0.mk (L.out.below hb)
  have R1 := Aside0.mk (R1.out.below hb)
  have R2 := Aside0.mk (R2.out.below hb)
  clear hb g0 g1 g2 g3 g4 u0 u1 o0 o1
  obtain ⟨od, _, _, e0, _, _⟩ := at_row R2.out.r 0 (by rw [HLU.out]; omega)
  cases e0
  have hcap : t.f1.length ≤ ocb := by have := R2.out.h; rw [HLU.out] at this; omega
  have hw1 : wrap64 ((t.f1.length : Int) + 1) = (t.f1.length : Int) + 1 := wrap_in (by omega) (by have := HL.out.1; omega)
  have HSA := ref06_SameAll (some od) ocb (U.take t.f1.length) Oa oca S _ (R2.out.take (by rw [HLU.out]; omega)) R1.out
  rw [HST.out, HLS.out, decide_eq_true (rfl : S = S)] at HSA
  go_wp2_with fail
  refine HSA.mono ?_
  rintro e z2 ⟨rfl, hb⟩
  have B9 := Aside0.mk (L.out.I.BW.trans (hb.mono L.out.I.BW.size))
  clear hb HSA
  by_cases hmn : m = n
  · subst hmn
    have hw2 : wrap64 ((m : Int) + 1) = (m : Int) + 1 := wrap_in (x := (m : Int) + 1) (by clear hw1; omega) (by clear hw1; have := HN0.out; omega)
    go_wp2_with fail
    refine (law06_alive _).mono ?_
    rintro e w2 ⟨rfl, hb⟩
    have B2 := Aside0.mk (B9.out.trans (hb.mono B9.out.size))
    clear hb
    go_wp2
    go_ret
    exact ⟨rfl, B2.out⟩
  · have hm1 : m = n + 1 := by have := HNM.out; omega
    have hn1 : n = t.f1.length := by have := HNM.out; omega
    subst hm1
    subst hn1
    have hne : (((t.f1.length + 1 : Nat) : Int) == (t.f1.length : Int)) = false := by clear hw1; rw [beq_eq_false_iff_ne]; omega
    have hne2 : ((t.f1.length : Int) + 1 == (t.f1.length : Int)) = false := by clear hw1; rw [beq_eq_false_iff_ne]; omega
    go_wp2_with fail
    refine (law06_alive _).mono ?_
    rintro e w2 ⟨rfl, hb⟩
    have B2 := Aside0.mk (B9.out.trans (hb.mono B9.out.size))
    clear hb
    go_wp2
    go_ret
    exact ⟨rfl, B2.out⟩
end Go.Proofs.Ytchhbkicplgmhaa.PH
