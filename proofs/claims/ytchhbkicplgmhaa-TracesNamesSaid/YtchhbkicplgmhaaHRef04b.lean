/- ref04.After, Holds. -/
import Derived.Test.YtchhbkicplgmhaaHRef04
namespace Go.Proofs.Ytchhbkicplgmhaa.PH
open Go.RowKit Go.Proofs.YtchhbkicplgmhaaW.PrintWords Go.Proofs.YtchhbkicplgmhaaW.PrintLast
set_option linter.unusedVariables false
set_option linter.unusedSimpArgs false

theorem vals_len {c : Circ} {st ins : List Bool} (hl1 : st.length = c.f1.length) (hl2 : (ins.length : Int) = c.f0) : ((valsOf c st ins).length : Int) = 1 + c.f0 + c.f1.length + c.f2.length := by
  unfold valsOf
  rw [truthFrom_len]
  simp only [List.length_cons, List.length_append]
  omega
set_option maxHeartbeats 4000000 in
set_option maxRecDepth 100000 in
theorem ref04_After (p : CP) (c : Circ) (B : Option Addr) (d : Nat) (st : List Bool) (B2 : Option Addr) (d2 : Nat) (ins : List Bool) (w : World) (h : RC w p c) (hs : c.Fits) (h1 : RS Kd.bool w B d st) (h2 : RS Kd.bool w B2 d2 ins)
    (hc : check c = 0) (hl1 : st.length = c.f1.length) (hl2 : (ins.length : Int) = c.f0) :
    Calls Try.prog 62 #[cv p c, .slice B st.length d, .slice B2 ins.length d2] w fun e w' => RetVr w w' (nextOf c st ins) e := by
  obtain ⟨A1, k1, A2, k2, A3, k3, A4, k4⟩ := p
  have HF := Aside0.mk (fun W (hb : Below w.heap.size w W) => ref04_Frame ⟨A1, k1, A2, k2, A3, k3, A4, k4⟩ c B d st B2 d2 ins W (h.below hb) (h1.below hb) (h2.below hb) hc hl1 hl2)
  have HR := Aside0.mk h
  have HL := Aside0.mk (check_lits hc).1.l1
  have HVL := Aside0.mk (vals_len (c := c) hl1 hl2)
  have HM := Aside0.mk h.s1.max
  have HN := Aside0.mk hs.h1
  have BX := Aside0.mk (below_alloc (Below.refl w.heap.size w) (.cells #[.int .i64 c.f0, .slice A1 c.f1.length k1, .slice A2 c.f2.length k2, .slice A3 c.f3.length k3, .slice A4 c.f4.length k4] 26))
  have HB := Aside0.mk (blk_new w (.cells #[.int .i64 c.f0, .slice A1 c.f1.length k1, .slice A2 c.f2.length k2, .slice A3 c.f3.length k3, .slice A4 c.f4.length k4] 26))
  have hu26 := Try.underlying26
  have hu65 := Try.underlying65
  have HNX : Aside0 (nextOf c st ins = c.f1.map (fun x => litV (valsOf c st ins) x.f0)) := ⟨rfl⟩
  rw [HNX.out]
  generalize valsOf c st ins = vals at *
  obtain ⟨n, hn⟩ : ∃ n, vals.length = n := ⟨_, rfl⟩
  rw [hn] at HVL
  have HVN := Aside0.mk hn
  obtain ⟨g0, g1, g2, g3, g4⟩ := (blk5w HB.out).1
  clear h hs h1 h2 hc hl1 hl2 HNX hn
  dsimp only [cv] at *
  go_enter Try.func62, Try.ntmps62
  go_wp2_with fail
  refine (HF.out _ BX.out).mono ?_
  rintro e w1 ⟨V, cap, rfl, hv, hb1⟩
  have hv2 := RS.of_R' hv
  rw [HVN.out]
  have HV := Aside0.mk hv2
  have B1 := Aside0.mk (BX.out.trans (hb1.mono BX.out.size))
  have HB1 := Aside0.mk (blk_below HB.out hb1)
  have hr0 := Aside0.mk (Kd.R_nil Kd.bool 4 w1 w1.heap.size (fun _ => True))
  clear hv hv2 hb1 HF BX HB g0 g1 g2 g3 g4
  go_wp2
  go_loopg [8, 9] c.f1.length (fun gg s8 s9 wr => ∃ (i : Nat) (O : Option Addr) (oc : Nat), s8 = .slice O i oc ∧ s9 = .int .i64 i ∧ Aside0 (i ≤ c.f1.length ∧ c.f1.length - i ≤ gg) ∧ Aside0 (Below w1.heap.size w1 wr) ∧ Aside0 (Kd.R Kd.bool 4 wr w1.heap.size (fun _ => True) (.slice O i oc) ((c.f1.take i).map (fun x => litV vals x.f0))))
  case atStart => exact ⟨0, none, 0, rfl, rfl, ⟨by omega, by omega⟩, ⟨Below.refl _ _⟩, hr0⟩
  case round =>
    clear hr0
    obtain ⟨i, O, oc, rfl, rfl, HX, BW, HRR⟩ := hrel
    obtain ⟨g0, g1, g2, g3, g4⟩ := (blk5w (blk_below HB1.out BW.out)).1
    by_cases hlt : i < c.f1.length
    · obtain ⟨ad, e1, hx, hy⟩ := at_latch (HR.out.below (B1.out.trans (BW.out.mono B1.out.size))).s1.r i hlt
      have HT := Aside0.mk (show (c.f1.take (i + 1)).map (fun x => litV vals x.f0) = (c.f1.take i).map (fun x => litV vals x.f0) ++ [litV vals c.f1[i].f0] by rw [take_at hlt, List.map_append]; rfl)
      have hxl := HL.out c.f1[i] (List.getElem_mem hlt)
      have HLT := Aside0.mk hlt
      generalize c.f1[i] = x at *
      cases e1
      have C0 := Aside0.mk (ref04_Value V cap vals n x.f0 wr (HV.out.below BW.out) HVN.out hxl.1 (by have := HVL.out; have := HVN.out; omega))
      clear hxl
      go_wp2_with fail
      refine C0.out.mono ?_
      rintro e w4 ⟨rfl, hb4⟩
      have B4 := Aside0.mk (BW.out.trans (hb4.mono BW.out.size))
      have HR4 := Aside0.mk (Kd.R_below HRR.out hb4)
      clear hb4 BW HRR C0 hx hy g0 g1 g2 g3 g4
      generalize litV vals x.f0 = bb at *
      have HJ := Aside0.mk (show ((c.f1.take i).map (fun x => litV vals x.f0) ++ [bb]).length = i + 1 by rw [List.length_append, List.length_map, List.length_take, Nat.min_eq_left (Nat.le_of_lt HLT.out)]; rfl)
      go_wp2_with (first | (at_builtin; go_loud (refine Kd.R_append Kd.bool (w0 := w1) w1.heap.size rfl (.tmp 21) (.tmp 30) 27 4 (.bool false) 1 rfl Try.underlying27 infoBool rfl (by decide) (by omega) (.slice O i oc) ((c.f1.take i).map (fun x => litV vals x.f0)) bb [.bool bb] (fun _ => True) (fun _ => False) rfl rfl ?aP (fun _ h => h.elim) ?aF ?aO ?aB ?aS ?aL ?_); (case aP => exact rfl); (case aF => exact fun _ _ => trivial); (case aO => exact HR4.out); (case aB => exact B4.out); (case aS => exact B4.out.size); (case aL => rw [List.length_map, List.length_take]; have := HN.out; have := Nat.min_le_right i c.f1.length; omega); intro v1 w6 ho hb hg hat; obtain ⟨V5, cap5, rfl, _, _⟩ := Kd.R_reads ho; rw [HJ.out] at ho ⊢))
      have HR6 := Aside0.mk (show Kd.R Kd.bool 4 w6 w1.heap.size (fun _ => True) (.slice V5 (i + 1) cap5) ((c.f1.take (i + 1)).map (fun x => litV vals x.f0)) from by
        rw [HT.out]
        have h_ := ho
        exact h_)
      have HB6 := Aside0.mk hb
      clear ho hb hg hat B4 HR4
      go_roundg (c.f1.length - (i + 1))
      case measure => have := HX.out; have := HLT.out; omega
      case rel => exact ⟨i + 1, V5, cap5, rfl, val_step HLT.out HM.out, ⟨HLT.out, by have := HX.out; omega⟩, HB6, HR6⟩
    · have hi : i = c.f1.length := by have := HX.out.1; omega
      subst hi
      have hr := HRR.out
      rw [List.take_length] at hr
      have HS := Aside0.mk hr
      clear HRR hr
      go_wp2
      go_ret
      exact ⟨O, oc, by rw [List.length_map]; rfl, by rw [List.length_map]; exact Kd.R_lower HS.out B1.out.size, B1.out.trans (BW.out.mono B1.out.size)⟩
set_option maxHeartbeats 4000000 in
set_option maxRecDepth 100000 in
theorem ref04_Holds (p : CP) (c : Circ) (B : Option Addr) (d : Nat) (st : List Bool) (B2 : Option Addr) (d2 : Nat) (ins : List Bool) (w : World) (h : RC w p c) (h1 : RS Kd.bool w B d st) (h2 : RS Kd.bool w B2 d2 ins)
    (hc : check c = 0) (hl1 : st.length = c.f1.length) (hl2 : (ins.length : Int) = c.f0) :
    Calls Try.prog 63 #[cv p c, .slice B st.length d, .slice B2 ins.length d2] w fun e w' => e = .returned (.bool (holdsOf c st ins)) ∧ Below w.heap.size w w' := by
  obtain ⟨A1, k1, A2, k2, A3, k3, A4, k4⟩ := p
  have HF := Aside0.mk (fun W (hb : Below w.heap.size w W) => ref04_Frame ⟨A1, k1, A2, k2, A3, k3, A4, k4⟩ c B d st B2 d2 ins W (h.below hb) (h1.below hb) (h2.below hb) hc hl1 hl2)
  have HR := Aside0.mk h
  have HL := Aside0.mk (check_lits hc).1.l4
  have HVL := Aside0.mk (vals_len (c := c) hl1 hl2)
  have HM := Aside0.mk h.s4.max
  have BX := Aside0.mk (below_alloc (Below.refl w.heap.size w) (.cells #[.int .i64 c.f0, .slice A1 c.f1.length k1, .slice A2 c.f2.length k2, .slice A3 c.f3.length k3, .slice A4 c.f4.length k4] 26))
  have HB := Aside0.mk (blk_new w (.cells #[.int .i64 c.f0, .slice A1 c.f1.length k1, .slice A2 c.f2.length k2, .slice A3 c.f3.length k3, .slice A4 c.f4.length k4] 26))
  have hu26 := Try.underlying26
  have HNX : Aside0 (holdsOf c st ins = c.f4.all (litV (valsOf c st ins))) := ⟨rfl⟩
  rw [HNX.out]
  generalize valsOf c st ins = vals at *
  obtain ⟨n, hn⟩ : ∃ n, vals.length = n := ⟨_, rfl⟩
  rw [hn] at HVL
  have HVN := Aside0.mk hn
  obtain ⟨r, hr⟩ : ∃ r, c.f4.all (litV vals) = r := ⟨_, rfl⟩
  rw [hr]
  have H0 := Aside0.mk (show (c.f4.drop 0).all (litV vals) = r from hr)
  obtain ⟨g0, g1, g2, g3, g4⟩ := (blk5w HB.out).1
  clear h h1 h2 hc hl1 hl2 HNX hn hr
  dsimp only [cv] at *
  go_enter Try.func63, Try.ntmps63
  go_wp2_with fail
  refine (HF.out _ BX.out).mono ?_
  rintro e w1 ⟨V, cap, rfl, hv, hb1⟩
  have hv2 := RS.of_R' hv
  rw [HVN.out]
  have HV := Aside0.mk hv2
  have B1 := Aside0.mk (BX.out.trans (hb1.mono BX.out.size))
  have HB1 := Aside0.mk (blk_below HB.out hb1)
  clear hv hv2 hb1 HF BX HB g0 g1 g2 g3 g4
  go_wp2
  go_loopg [8] c.f4.length (fun gg s8 wr => ∃ (i : Nat), s8 = .int .i64 i ∧ Aside0 (i ≤ c.f4.length ∧ c.f4.length - i ≤ gg) ∧ Aside0 (Below w1.heap.size w1 wr) ∧ Aside0 ((c.f4.drop i).all (litV vals) = r))
  case atStart => exact ⟨0, rfl, ⟨by omega, by omega⟩, ⟨Below.refl _ _⟩, H0⟩
  case round =>
    clear H0
    obtain ⟨i, rfl, HX, BW, HA⟩ := hrel
    obtain ⟨g0, g1, g2, g3, g4⟩ := (blk5w (blk_below HB1.out BW.out)).1
    by_cases hlt : i < c.f4.length
    · obtain ⟨ad, e1, hx⟩ := at_int (HR.out.below (B1.out.trans (BW.out.mono B1.out.size))).s4.r i hlt
      have HQ := Aside0.mk ((all_step (q := litV vals) hlt).symm.trans HA.out)
      have hxl := HL.out c.f4[i] (List.getElem_mem hlt)
      have HLT := Aside0.mk hlt
      generalize c.f4[i] = x at *
      cases e1
      have C0 := Aside0.mk (ref04_Value V cap vals n x wr (HV.out.below BW.out) HVN.out hxl.1 (by have := HVL.out; have := HVN.out; omega))
      clear hxl
      go_wp2_with fail
      refine C0.out.mono ?_
      rintro e w4 ⟨rfl, hb4⟩
      have B4 := Aside0.mk (BW.out.trans (hb4.mono BW.out.size))
      clear hb4 BW C0 hx g0 g1 g2 g3 g4
      cases hq : litV vals x with
      | true =>
        have HQ2 := Aside0.mk (show (c.f4.drop (i + 1)).all (litV vals) = r by have h_ := HQ.out; rw [hq, Bool.true_and] at h_; exact h_)
        clear hq
        go_wp2
        go_roundg (c.f4.length - (i + 1))
        case measure => have := HX.out; have := HLT.out; omega
        case rel => exact ⟨i + 1, val_step HLT.out HM.out, ⟨HLT.out, by have := HX.out; omega⟩, B4, HQ2⟩
      | false =>
        have HQ2 := Aside0.mk (show r = false by have h_ := HQ.out; rw [hq, Bool.false_and] at h_; exact h_.symm)
        clear hq
        go_wp2
        go_ret
        exact ⟨by rw [HQ2.out]; rfl, B1.out.trans (B4.out.mono B1.out.size)⟩
    · have hi : i = c.f4.length := by have := HX.out.1; omega
      have HQ2 := Aside0.mk (show r = true by have h_ := HA.out; rw [hi, List.drop_length] at h_; exact h_.symm)
      clear hi
      go_wp2
      go_ret
      exact ⟨by rw [HQ2.out]; rfl, B1.out.trans (BW.out.mono B1.out.size)⟩
end Go.Proofs.Ytchhbkicplgmhaa.PH
