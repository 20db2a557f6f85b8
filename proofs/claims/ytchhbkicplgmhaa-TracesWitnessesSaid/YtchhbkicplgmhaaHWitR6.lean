/- ref06.Witness, ref06.Cut. -/
import Derived.Test.YtchhbkicplgmhaaHShows6
import Derived.Test.YtchhbkicplgmhaaHCutAt
import Derived.Test.YtchhbkicplgmhaaHTwin6
namespace Go.Proofs.Ytchhbkicplgmhaa.PH
open Go.RowKit Go.Proofs.YtchhbkicplgmhaaW.PrintWords Go.Proofs.YtchhbkicplgmhaaW.PrintLast
set_option linter.unusedVariables false
set_option linter.unusedSimpArgs false

theorem blk2_set_ {w : World} {g : Nat} {t : TypeId} {v0 v1 : Value} (h : w.heap[g]? = some (.cells #[v0, v1] t (0, 0))) (u0 u1 : Value) :
    ((w.setCell ⟨g, 0, none⟩ u0).setCell ⟨g, 1, none⟩ u1).heap[g]? = some (.cells #[u0, u1] t (0, 0)) := by
  simpa using blk_set (blk_set h 0 u0) 1 u1
theorem RTo.two_ {b : Nat} {w : World} {q : TP} {t : Run} (h : RTo b w q t) {g : Nat} {v0 v1 : Value} (hb : w.heap[g]? = some (.cells #[v0, v1] 30 (0, 0))) (u0 u1 : Value) : RT ((w.setCell ⟨g, 0, none⟩ u0).setCell ⟨g, 1, none⟩ u1) q t := by
  have b1 := blk_set hb 0 u0
  exact ⟨RS.of_R' (Kd.R_set (Kd.R_set h.s0 hb (by decide) 0 _) b1 (by decide) 1 _), RS.of_R' (Kd.R_set (Kd.R_set h.s1 hb (by decide) 0 _) b1 (by decide) 1 _)⟩
set_option maxHeartbeats 4000000 in
set_option maxRecDepth 100000 in
theorem ref06_Witness (p : CP) (c : Circ) (q : TP) (t : Run) (w : World) (h : RC w p c) (hs : c.Fits) (ht : RT w q t) :
    Calls Try.prog 24 #[cv p c, tv q t] w fun e w' => RetII w w' (witC c t) e := by
  have HR := Aside0.mk h
  have HT := Aside0.mk ht
  have HF := Aside0.mk hs
  have I := Aside0.mk (CkInv.start w p c q t)
  have hu26 := Try.underlying26
  have hu30 := Try.underlying30
  obtain ⟨g0, g1, g2, g3, g4⟩ := (blk5w I.out.B0).1
  obtain ⟨u0, u1⟩ := (blk2t I.out.B1).1
  obtain ⟨m, hm⟩ : ∃ m, witC c t = m := ⟨_, rfl⟩
  rw [hm]
  have HM := Aside0.mk hm
  clear h hs ht hm
  go_enter Try.func24, Try.ntmps24
  go_wp2_with fail
  refine (ref06_Check p c q t _ (HR.out.below I.out.BW) HF.out (HT.out.below I.out.BW)).mono ?_
  rintro e w1 ⟨rfl, hb1⟩
  have I := Aside0.mk (I.out.below hb1)
  clear hb1 g0 g1 g2 g3 g4 u0 u1
  obtain ⟨g0, g1, g2, g3, g4⟩ := (blk5w I.out.B0).1
  obtain ⟨u0, u1⟩ := (blk2t I.out.B1).1
  by_cases hc : tCheck c t = 0
  · have HC := Aside0.mk hc
    rw [hc]
    clear hc
    go_wp2_with fail
    refine (ref06_Shows p c q t _ (HR.out.below I.out.BW) HF.out (HT.out.below I.out.BW) HC.out).mono ?_
    rintro e w2 ⟨rfl, hb2⟩
    have I := Aside0.mk (I.out.below hb2)
    have HM := Aside0.mk (HM.out.symm.trans (witC_shows HC.out))
    clear hb2 g0 g1 g2 g3 g4 u0 u1
    obtain ⟨g0, g1, g2, g3, g4⟩ := (blk5w I.out.B0).1
    obtain ⟨u0, u1⟩ := (blk2t I.out.B1).1
    have CS := Aside0.mk (ref06_Shows p c q t w2 (HR.out.below I.out.BW) HF.out (HT.out.below I.out.BW) HC.out)
    obtain ⟨s, hsv⟩ : ∃ s, showsC c t = s := ⟨_, rfl⟩
    rw [hsv] at HM CS
    rw [hsv]
    clear hsv
    by_cases hs : s < 0
    · have hsd : decide (s < 0) = true := decide_eq_true hs
      have HV := Aside0.mk (HM.out.trans (if_pos hs))
      clear hs CS
      go_wp2
      refine bodyPost_ret (results_tmp2 rfl _ _ _) rfl ?_
      exact ⟨by rw [HV.out]; rfl, I.out.BW⟩
    · have hsd : decide (s < 0) = false := decide_eq_false hs
      have HV := Aside0.mk (HM.out.trans (if_neg hs))
      clear hs
      go_wp2_with fail
      refine CS.out.mono ?_
      rintro e w3 ⟨rfl, hb3⟩
      have I3 := Aside0.mk (I.out.BW.trans (hb3.mono I.out.BW.size))
      clear hb3
      go_wp2
      refine bodyPost_ret (results_tmp2 rfl _ _ _) rfl ?_
      exact ⟨by rw [HV.out]; rfl, I3.out⟩
  · have hcd : (tCheck c t != 0) = true := bne_iff_ne.mpr hc
    have HC := Aside0.mk hc
    clear hc
    go_wp2_with fail
    refine (ref06_Check p c q t _ (HR.out.below I.out.BW) HF.out (HT.out.below I.out.BW)).mono ?_
    rintro e w2 ⟨rfl, hb2⟩
    have I2 := Aside0.mk (I.out.BW.trans (hb2.mono I.out.BW.size))
    clear hb2
    go_wp2
    refine bodyPost_ret (results_tmp2 rfl _ _ _) rfl ?_
    exact ⟨by rw [← HM.out, show witC c t = (0, tCheck c t) by unfold witC; rw [if_pos HC.out]]; rfl, I2.out⟩
/-- The boxes of ref06.Cut, and its result's cell. -/
structure CrI (w : World) (pc : CP) (c : Circ) (q : TP) (t : Run) (a : Array Value) (wr : World) : Prop where
  I : CkInv w pc c q t wr
  BR : wr.heap[w.heap.size + 2]? = some (.cells a 30 (0, 0))
theorem CrI.below {w : World} {pc : CP} {c : Circ} {q : TP} {t : Run} {a : Array Value} {wr w2 : World} (h : CrI w pc c q t a wr) (hb : Below wr.heap.size wr w2) : CrI w pc c q t a w2 := ⟨h.I.below hb, blk_below h.BR hb⟩
theorem CrI.above {w : World} {pc : CP} {c : Circ} {q : TP} {t : Run} {a : Array Value} {wr w2 : World} (h : CrI w pc c q t a wr) (hb : Below (w.heap.size + 3) wr w2) : CrI w pc c q t a w2 :=
  ⟨⟨h.I.BW.trans (hb.mono (by omega)), (hb.block _ (by omega)).trans h.I.B0, (hb.block _ (by omega)).trans h.I.B1⟩, (hb.block _ (by omega)).trans h.BR⟩
theorem shows_hit {c : Circ} {t : Run} {K : Nat} (h : tCheck c t = 0) (hK : CutAt c t K) {m : Nat} (h1 : 1 ≤ m) (h2 : m ≤ t.f1.length) (h3 : K = 0 ∨ m ≤ K) : decide (0 ≤ showsC c (preT t m)) = decide (m = K) := by
  obtain ⟨v, hv⟩ := hK.wt m h1 h2 h3
  have hpc : tCheck c (preT t m) = 0 := pre_check h h1 h2
  rw [witC_shows hpc] at hv
  by_cases e : m = K
  · rw [if_pos e] at hv
    by_cases e2 : showsC c (preT t m) < 0
    · rw [if_pos e2, Prod.mk.injEq] at hv
      omega
    · rw [decide_eq_true e, decide_eq_true (by omega)]
  · rw [if_neg e] at hv
    by_cases e2 : showsC c (preT t m) < 0
    · rw [decide_eq_false e, decide_eq_false (by omega)]
    · rw [if_neg e2, Prod.mk.injEq] at hv
      omega
set_option maxHeartbeats 8000000 in
set_option maxRecDepth 100000 in
theorem ref06_Cut (p : CP) (c : Circ) (q : TP) (t : Run) (w : World) (h : RC w p c) (hs : c.Fits) (ht : RT w q t) (h1 : t.f0.length ≤ 4000000) (h3 : ∀ l ∈ t.f1, l.length ≤ 4000000) :
    Calls Try.prog 26 #[cv p c, tv q t] w fun e w' => RetTE w w' (cutC c t) e := by
  obtain ⟨A1, k1, A2, k2, A3, k3, A4, k4⟩ := p
  obtain ⟨QA0, QC0, QA1, QC1⟩ := q
  have HR := Aside0.mk h
  have HT := Aside0.mk ht
  have HF := Aside0.mk hs
  have HL := Aside0.mk (And.intro h1 h3)
  have CC := Aside0.mk (fun W (hb : Below w.heap.size w W) => show Calls Try.prog 20 #[.agg #[.int .i64 c.f0, .slice A1 c.f1.length k1, .slice A2 c.f2.length k2, .slice A3 c.f3.length k3, .slice A4 c.f4.length k4], .agg #[.slice QA0 t.f0.length QC0, .slice QA1 t.f1.length QC1]] W (fun e w' => e = .returned (.int .i64 (tCheck c t)) ∧ Below W.heap.size W w') from ref06_Check ⟨A1, k1, A2, k2, A3, k3, A4, k4⟩ c ⟨QA0, QC0, QA1, QC1⟩ t W (h.below hb) hs (ht.below hb))
  have I := Aside0.mk (show CrI w ⟨A1, k1, A2, k2, A3, k3, A4, k4⟩ c ⟨QA0, QC0, QA1, QC1⟩ t #[.slice none 0 0, .slice none 0 0] _ from ⟨(CkInv.start w ⟨A1, k1, A2, k2, A3, k3, A4, k4⟩ c ⟨QA0, QC0, QA1, QC1⟩ t).below (below_alloc (Below.refl _ _) (.cells #[.slice none 0 0, .slice none 0 0] 30)), by simpa using blk_new ((w.alloc (.cells #[.int .i64 c.f0, .slice A1 c.f1.length k1, .slice A2 c.f2.length k2, .slice A3 c.f3.length k3, .slice A4 c.f4.length k4] 26)).alloc (.cells #[.slice QA0 t.f0.length QC0, .slice QA1 t.f1.length QC1] 30)) (.cells #[.slice none 0 0, .slice none 0 0] 30)⟩)
  have hu26 := Try.underlying26
  have hu30 := Try.underlying30
  obtain ⟨⟨R, er⟩, hm⟩ : ∃ m, cutC c t = m := ⟨_, rfl⟩
  rw [hm]
  have HM := Aside0.mk hm
  obtain ⟨g0, g1, g2, g3, g4⟩ := (blk5w I.out.I.B0).1
  obtain ⟨u0, u1⟩ := (blk2t I.out.I.B1).1
  clear h hs ht hm h1 h3
  dsimp only [cv, tv] at *
  go_enter Try.func26, Try.ntmps26
  go_wp2_with fail
  refine (CC.out _ I.out.I.BW).mono ?_
  rintro e w1 ⟨rfl, hb⟩
  have I := Aside0.mk (I.out.below hb)
  clear hb g0 g1 g2 g3 g4 u0 u1
  obtain ⟨g0, g1, g2, g3, g4⟩ := (blk5w I.out.I.B0).1
  obtain ⟨u0, u1⟩ := (blk2t I.out.I.B1).1
  by_cases hc : tCheck c t = 0
  case neg =>
    have hcd : (tCheck c t != 0) = true := bne_iff_ne.mpr hc
    have hh := HM.out
    unfold cutC at hh
    rw [if_pos hc, Prod.mk.injEq] at hh
    obtain ⟨rfl, rfl⟩ := hh
    clear hc
    go_wp2_with fail
    refine (CC.out _ I.out.I.BW).mono ?_
    rintro e w2 ⟨rfl, hb⟩
    have I := Aside0.mk (I.out.below hb)
    clear hb g0 g1 g2 g3 g4 u0 u1
    obtain ⟨⟨r0, r1⟩, z0, z1⟩ := blk2t I.out.BR
    go_wp2
    have hset := blk2_set_ I.out.BR (.slice none 0 0) (.slice none 0 0)
    refine bodyPost_ret (results_ct rfl _ _ (w.heap.size + 2) 30 #[.slice none 0 0, .slice none 0 0] (0, 0) _ rfl hset hu30 rfl (by kernel_rfl)) rfl ?_
    exact ⟨⟨none, 0, none, 0⟩, rfl, ⟨RS.nil _ _ _, RS.nil _ _ _⟩, below_set (below_set I.out.I.BW (by omega)) (by omega)⟩
  case pos =>
  have HCK := Aside0.mk hc
  have HC := Aside0.mk (tCheck_ok hc)
  obtain ⟨K, hK⟩ := cut_at hc
  have HRE := Aside0.mk (hK.ct.symm.trans HM.out)
  have HK := Aside0.mk hK
  rw [hc]
  clear hc hK HM
  obtain ⟨bd, _, _, e0, _, _⟩ := at_row HT.out.s1.r 0 HC.out.2.2.1
  cases e0
  have hcap0 := Aside0.mk HT.out.s1.h
  go_wp2
  clear g0 g1 g2 g3 g4 u0 u1
  go_loopg [6, 7] (t.f1.length + 1) (fun gg s6 s7 wr => ∃ (m : Nat), s6 = .int .i64 m ∧ Aside0 (1 ≤ m ∧ m ≤ t.f1.length + 1 ∧ t.f1.length + 1 - m ≤ gg) ∧ Aside0 (K = 0 ∨ m ≤ K) ∧ Aside0 (CrI w ⟨A1, k1, A2, k2, A3, k3, A4, k4⟩ c ⟨QA0, QC0, some bd, QC1⟩ t #[.slice none 0 0, .slice none 0 0] wr))
  case atStart => exact ⟨1, rfl, ⟨by omega, by omega, by omega⟩, ⟨by omega⟩, I⟩
  case round =>
    clear I
    obtain ⟨m, rfl, HX, HMK, I⟩ := hrel
    obtain ⟨u0, u1⟩ := (blk2t I.out.I.B1).1
    by_cases hle : m ≤ t.f1.length
    · have HLE := Aside0.mk hle
      have h1 : decide ((m : Int) ≤ (t.f1.length : Int)) = true := decide_eq_true (by omega)
      have h2 : decide (m ≤ t.f1.length) = true := decide_eq_true hle
      have hcap : m ≤ QC1 := Nat.le_trans hle hcap0.out
      have HP0 := Aside0.mk (show t.f0.length = (preT t m).f0.length from rfl)
      have HP1 := Aside0.mk (show m = (preT t m).f1.length by show m = (t.f1.take m).length; rw [List.length_take]; omega)
      have HPC := Aside0.mk (show tCheck c (preT t m) = 0 from pre_check HCK.out HX.out.1 hle)
      have HPR := Aside0.mk (show ∀ W, Below w.heap.size w W → RT W ⟨QA0, QC0, some bd, QC1⟩ (preT t m) from fun W hb => ⟨(HT.out.below hb).s0, (HT.out.below hb).s1.take HLE.out⟩)
      have HPL := Aside0.mk (show ∀ l ∈ (preT t m).f1, l.length ≤ 4000000 from fun l hl => HL.out.2 l (List.mem_of_mem_take hl))
      have HSH := Aside0.mk (shows_hit HCK.out HK.out HX.out.1 hle HMK.out)
      have HPT := Aside0.mk (show K = m → R = preT t m ∧ er = 0 from fun e => by
        subst e
        have h_ := HRE.out
        rw [if_neg (by have := HX.out; omega), Prod.mk.injEq] at h_
        exact ⟨h_.1.symm, h_.2.symm⟩)
      generalize preT t m = P at *
      have CS := Aside0.mk (fun W (hb : Below w.heap.size w W) => show Calls Try.prog 47 #[.agg #[.int .i64 c.f0, .slice A1 c.f1.length k1, .slice A2 c.f2.length k2, .slice A3 c.f3.length k3, .slice A4 c.f4.length k4], .agg #[.slice QA0 t.f0.length QC0, .slice (some bd) m QC1]] W (fun e w' => e = .returned (.int .i64 (showsC c P)) ∧ Below W.heap.size W w') from by
        have h_ := ref06_Shows ⟨A1, k1, A2, k2, A3, k3, A4, k4⟩ c ⟨QA0, QC0, some bd, QC1⟩ P W (HR.out.below hb) HF.out (HPR.out W hb) HPC.out
        dsimp only [tv, cv] at h_
        rw [← HP0.out, ← HP1.out] at h_
        exact h_)
      have CT := Aside0.mk (fun W (hb : Below w.heap.size w W) => show Calls Try.prog 12 #[.agg #[.slice QA0 t.f0.length QC0, .slice (some bd) m QC1]] W (fun e w' => RetTw W w' P e) from by
        have h_ := ref06_Twin ⟨QA0, QC0, some bd, QC1⟩ P W (HPR.out W hb) (by rw [← HP0.out]; exact HL.out.1) (by rw [← HP1.out]; have := HC.out.2.1; have := HLE.out; omega) HPL.out
        dsimp only [tv] at h_
        rw [← HP0.out, ← HP1.out] at h_
        exact h_)
      have HSS : Aside0 ((fun w' : World => w'.cell? ⟨w.heap.size + 1, 0, none⟩ = some (.slice QA0 t.f0.length QC0) ∧ w'.cell? ⟨w.heap.size + 1, 1, none⟩ = some (.slice (some bd) t.f1.length QC1)) wr) := ⟨⟨u0, u1⟩⟩
      have ID := Aside0.mk (I.out.below (below_drew (Below.refl _ _)))
      clear hle
      go_wp2
      refine start_ (n := 9) (S := (fun w' => w'.cell? ⟨w.heap.size + 1, 0, none⟩ = some (.slice QA0 t.f0.length QC0) ∧ w'.cell? ⟨w.heap.size + 1, 1, none⟩ = some (.slice (some bd) t.f1.length QC1))) (ds := []) #[false, false, false, false, false, false, false, false, false] (by kernel_rfl) rfl rfl HSS.out (fun hHeld => ?_)
      clear u0 u1
      refine pure_ (i := 0) (N := some 23) (v := ?_) (a' := ?_) #[true, false, false, false, false, false, false, false, false] rfl rfl (by kernel_rfl) (fun _ _ _ h => h) (Or.inl ⟨by rfl, ?_⟩) ?_ ?_
      rotate_left
      · intro w'
        go_simp
        with_reducible rfl
      rotate_left
      · simp only [Act.put, List.setIfInBounds_toArray, List.set_cons_zero, List.set_cons_succ]
        rfl
      refine take_ (i := 1) (N := some 24) (v := ?_) (a' := ?_) #[true, true, false, false, false, false, false, false, false] rfl rfl (by kernel_rfl) (fun _ _ _ h => h) (Or.inl ⟨by rfl, ?_⟩) hHeld ?_ ?_
      rotate_left
      · rintro w' ⟨s0, s1⟩
        go_simp
        with_reducible rfl
      rotate_left
      · simp only [Act.put, List.setIfInBounds_toArray, List.set_cons_zero, List.set_cons_succ]
        rfl
      refine pure_ (i := 2) (N := some 25) (v := ?_) (a' := ?_) #[true, true, true, false, false, false, false, false, false] rfl rfl (by kernel_rfl) (fun _ _ _ h => h) (Or.inl ⟨by rfl, ?_⟩) ?_ ?_
      rotate_left
      · intro w'
        go_simp
        with_reducible rfl
      rotate_left
      · simp only [Act.put, List.setIfInBounds_toArray, List.set_cons_zero, List.set_cons_succ]
        rfl
      refine take_ (i := 3) (N := some 26) (v := ?_) (a' := ?_) #[true, true, true, true, false, false, false, false, false] rfl rfl (by kernel_rfl) (fun _ _ _ h => h) (Or.inl ⟨by rfl, ?_⟩) hHeld ?_ ?_
      rotate_left
      · rintro w' ⟨s0, s1⟩
        go_simp
        with_reducible rfl
      rotate_left
      · simp only [Act.put, List.setIfInBounds_toArray, List.set_cons_zero, List.set_cons_succ]
        rfl
      refine pure_ (i := 4) (N := some 27) (v := ?_) (a' := ?_) #[true, true, true, true, true, false, false, false, false] rfl rfl (by kernel_rfl) (fun _ _ _ h => h) (Or.inl ⟨by rfl, ?_⟩) ?_ ?_
      rotate_left
      · intro w'
        go_simp
        with_reducible rfl
      rotate_left
      · simp only [Act.put, List.setIfInBounds_toArray, List.set_cons_zero, List.set_cons_succ]
        rfl
      refine pure_ (i := 5) (N := some 28) (v := ?_) (a' := ?_) #[true, true, true, true, true, true, false, false, false] rfl rfl (by kernel_rfl) (fun _ _ _ h => h) (Or.inl ⟨by rfl, ?_⟩) ?_ ?_
      rotate_left
      · intro w'
        go_simp
        with_reducible rfl
      rotate_left
      · simp only [Act.put, List.setIfInBounds_toArray, List.set_cons_zero, List.set_cons_succ]
        rfl
      refine pure_ (i := 6) (N := some 29) (v := ?_) (a' := ?_) #[true, true, true, true, true, true, true, false, false] rfl rfl (by kernel_rfl) (fun _ _ _ h => h) (Or.inl ⟨by rfl, ?_⟩) ?_ ?_
      rotate_left
      · intro w'
        go_simp
        with_reducible rfl
      rotate_left
      · simp only [Act.put, List.setIfInBounds_toArray, List.set_cons_zero, List.set_cons_succ]
        rfl
      refine one_ (i := 7) (N := some 7) #[true, true, true, true, true, true, true, true, false] rfl rfl (by kernel_rfl) (by decide) (fun K hK => ?_)
      refine value_ (w1 := ?_) (v := ?_) (by rfl) rfl ?_ ?_
      rotate_left 2
      · go_simp
        constructor
        · rfl
        · rfl
      have hxb := below_alloc (Below.refl wr.drew.heap.size wr.drew) (.cells #[.slice none 0 0, .slice none 0 0] 30)
      have I2 := Aside0.mk (show CrI w ⟨A1, k1, A2, k2, A3, k3, A4, k4⟩ c ⟨QA0, QC0, some bd, QC1⟩ t #[.slice none 0 0, .slice none 0 0] (wr.alloc (.cells #[.slice none 0 0, .slice none 0 0] 30)).drew from ID.out.below hxb)
      have HN2 := Aside0.mk (show (wr.alloc (.cells #[.slice none 0 0, .slice none 0 0] 30)).drew.heap[wr.heap.size]? = some (.cells #[.slice none 0 0, .slice none 0 0] 30 (0, 0)) from blk_new wr.drew _)
      have HG := Aside0.mk (show w.heap.size + 3 ≤ wr.heap.size from blk_lt I.out.BR)
      clear hxb
      refine hK.out _ _ (blk2t I2.out.I.B1).1 (fun hHeld => ?_)
      clear hK K
      refine norm_ (a' := ?_) ?_ ?_
      rotate_left
      · show Act.put _ (some 7) _ = _
        simp only [Act.put, List.setIfInBounds_toArray, List.set_cons_zero, List.set_cons_succ]
        rfl
      generalize (wr.alloc (.cells #[.slice none 0 0, .slice none 0 0] 30)).drew = w3 at *
      generalize wr.heap.size = gX at *
      obtain ⟨⟨x0, x1⟩, y0, y1⟩ := blk2t HN2.out
      refine one_ (i := 8) (N := none) #[true, true, true, true, true, true, true, true, true] rfl rfl (by kernel_rfl) (by decide) (fun K hK => ?_)
      refine skip_ (w1 := ?_) (by rfl) rfl ?_ ?_
      rotate_left
      · go_simp
        rfl
      have HN4 := Aside0.mk (blk2_set_ HN2.out (.slice QA0 t.f0.length QC0) (.slice (some bd) m QC1))
      have I4 := Aside0.mk (I2.out.above (w2 := (w3.setCell ⟨gX, 0, none⟩ (.slice QA0 t.f0.length QC0)).setCell ⟨gX, 1, none⟩ (.slice (some bd) m QC1)) (Below.setCell (Below.setCell (Below.refl _ _) (p := ⟨gX, 0, none⟩) HG.out _) (p := ⟨gX, 1, none⟩) HG.out _))
      generalize (w3.setCell ⟨gX, 0, none⟩ (.slice QA0 t.f0.length QC0)).setCell ⟨gX, 1, none⟩ (.slice (some bd) m QC1) = w4 at *
      clear x0 x1 y0 y1
      refine hK.out _ _ (blk2t I4.out.I.B1).1 (fun hHeld => ?_)
      clear hK K
      refine done_ (by kernel_rfl) ?_
      clear HSS ID I2 HN2 I hcap
      obtain ⟨g0, g1, g2, g3, g4⟩ := (blk5w I4.out.I.B0).1
      obtain ⟨x0, x1⟩ := (blk2t HN4.out).1
      go_wp2_with fail
      refine (CS.out _ I4.out.I.BW).mono ?_
      rintro e w5 ⟨rfl, hb⟩
      have I5 := Aside0.mk (I4.out.below hb)
      have HN5 := Aside0.mk (blk_below HN4.out hb)
      clear hb g0 g1 g2 g3 g4 x0 x1 I4 HN4 CS
      obtain ⟨s, hsv⟩ : ∃ s, showsC c P = s := ⟨_, rfl⟩
      rw [hsv] at HSH
      rw [hsv]
      clear hsv
      have hwi : wrap64 ((m : Int) + 1) = ((m + 1 : Nat) : Int) := (wrap_in (x := (m : Int) + 1) (by omega) (by have := HC.out.2.1; have := HLE.out; omega)).trans (by omega)
      have HWI := Aside0.mk hwi
      by_cases hmk : m = K
      · have hsd : decide (0 ≤ s) = true := by rw [HSH.out, decide_eq_true hmk]
        have HPT2 := Aside0.mk (HPT.out hmk.symm)
        clear hwi hmk HPT HSH
        obtain ⟨x0, x1⟩ := (blk2t HN5.out).1
        go_wp2_with fail
        refine (CT.out _ I5.out.I.BW).mono ?_
        rintro e w6 ⟨qo, rfl, ho, hb⟩
        have I6 := Aside0.mk (I5.out.below hb)
        have HO := Aside0.mk ho
        clear hb ho x0 x1
        obtain ⟨⟨r0, r1⟩, z0, z1⟩ := blk2t (show w6.heap[w.heap.size + 1 + 1]? = _ from I6.out.BR)
        obtain ⟨hRP, hER⟩ := HPT2.out
        subst hRP
        subst hER
        go_wp2
        have hset := blk2_set_ I6.out.BR (.slice qo.A0 R.f0.length qo.c0) (.slice qo.A1 R.f1.length qo.c1)
        refine bodyPost_ret (results_ct rfl _ _ (w.heap.size + 2) 30 #[.slice qo.A0 R.f0.length qo.c0, .slice qo.A1 R.f1.length qo.c1] (0, 0) _ rfl hset hu30 rfl (by kernel_rfl)) rfl ?_
        exact ⟨qo, rfl, HO.out.two_ I6.out.BR _ _, below_set (below_set I6.out.I.BW (by omega)) (by omega)⟩
      · have hsd : decide (0 ≤ s) = false := by rw [HSH.out, decide_eq_false hmk]
        have HMK2 := Aside0.mk (show K = 0 ∨ m + 1 ≤ K by have := HMK.out; omega)
        clear hmk
        go_wp2
        clear hwi
        go_roundg (t.f1.length + 1 - (m + 1))
        case measure => have := HX.out; have := HLE.out; omega
        case rel => exact ⟨m + 1, by rw [HWI.out], ⟨by omega, by have := HLE.out; omega, by omega⟩, HMK2, I5⟩
    · have h1 : decide ((m : Int) ≤ (t.f1.length : Int)) = false := decide_eq_false (by omega)
      have h2 : decide (m ≤ t.f1.length) = false := decide_eq_false hle
      have hK0 : K = 0 := by have := HMK.out; have := HK.out.le; omega
      have hh := HRE.out
      rw [if_pos hK0, Prod.mk.injEq] at hh
      obtain ⟨rfl, rfl⟩ := hh
      clear hle hK0
      obtain ⟨⟨r0, r1⟩, z0, z1⟩ := blk2t (show wr.heap[w.heap.size + 1 + 1]? = _ from I.out.BR)
      go_wp2
      have hset := blk2_set_ I.out.BR (.slice none 0 0) (.slice none 0 0)
      refine bodyPost_ret (results_ct rfl _ _ (w.heap.size + 2) 30 #[.slice none 0 0, .slice none 0 0] (0, 0) _ rfl hset hu30 rfl (by kernel_rfl)) rfl ?_
      exact ⟨⟨none, 0, none, 0⟩, rfl, ⟨RS.nil _ _ _, RS.nil _ _ _⟩, below_set (below_set I.out.I.BW (by omega)) (by omega)⟩
end Go.Proofs.Ytchhbkicplgmhaa.PH
