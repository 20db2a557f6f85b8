/- ref04.Value, Frame, After, Holds. -/
import Derived.Test.YtchhbkicplgmhaaHCheckR6
namespace Go.Proofs.Ytchhbkicplgmhaa.PH
open Go.RowKit Go.Proofs.YtchhbkicplgmhaaW.PrintWords Go.Proofs.YtchhbkicplgmhaaW.PrintLast
set_option linter.unusedVariables false
set_option linter.unusedSimpArgs false

/-- How a literal's value is reckoned. -/
theorem litV_at {v : List Bool} {l : Int} (hl : I64 l) (h0 : 0 ≤ l) (h1 : l / 2 < v.length) : ∃ (k : Nat) (hk : k < v.length), wrap64 (l.tdiv 2) = (k : Int) ∧ (!v[k] == (l.tmod 2 == 1)) = litV v l := by
  obtain ⟨k, hk⟩ : ∃ k : Nat, l / 2 = (k : Int) := ⟨(l / 2).toNat, by omega⟩
  have hkv : k < v.length := by omega
  refine ⟨k, hkv, (half_of hl h0).trans hk, ?_⟩
  have hr : l.tmod 2 = l % 2 := by
    have h1 : -2 < l.tmod 2 ∧ l.tmod 2 < 2 := ⟨Int.lt_tmod_of_pos l (by decide), Int.tmod_lt_of_pos l (by decide)⟩
    rw [← rem_of hl h0, wrap_in (by omega) (by omega)]
  unfold litV
  rw [hk, hr, Int.toNat_natCast, List.getD_eq_getElem?_getD, List.getElem?_eq_getElem hkv]
  rfl
set_option maxHeartbeats 2000000 in
set_option maxRecDepth 100000 in
theorem ref04_Value (A : Option Addr) (c : Nat) (v : List Bool) (N : Nat) (l : Int) (w : World) (h : RS Kd.bool w A c v) (hN : v.length = N) (hl : IsLit l) (h1 : l / 2 < v.length) :
    Calls Try.prog 71 #[.slice A N c, .int .i64 l] w fun e w' => e = .returned (.bool (litV v l)) ∧ Below w.heap.size w w' := by
  obtain ⟨k, hk, hq, hv⟩ := litV_at (v := v) (l := l) ⟨by have := hl.1; omega, by have := hl.2; omega⟩ hl.1 h1
  obtain ⟨ad, e1, hx⟩ := at_bool h.r k hk
  cases e1
  rw [← hv]
  generalize v[k] = b at *
  have hlt : (k : Int) < (N : Int) := by omega
  have hlt' : k < N := by omega
  clear h1 hv hN h hk
  go_enter Try.func71, Try.ntmps71
  go_wp2
  go_ret
  exact ⟨rfl, Below.refl _ _⟩
/-- A row of truth values comes back. -/
def RetVr (w w' : World) (l : List Bool) (e : Ending) : Prop := ∃ A cap, e = .returned (.slice A l.length cap) ∧ Kd.R Kd.bool 4 w' w.heap.size (fun _ => True) (.slice A l.length cap) l ∧ Below w.heap.size w w'
/-- What holds in ref04.Frame. -/
structure FrI (w : World) (p : CP) (c : Circ) (V : Option Addr) (n cap : Nat) (vals : List Bool) (wr : World) : Prop where
  BW : Below w.heap.size w wr
  BC : wr.heap[w.heap.size]? = some (.cells #[.int .i64 c.f0, .slice p.A1 c.f1.length p.c1, .slice p.A2 c.f2.length p.c2, .slice p.A3 c.f3.length p.c3, .slice p.A4 c.f4.length p.c4] 26 (0, 0))
  RV : Kd.R Kd.bool 4 wr (w.heap.size + 1) (fun _ => True) (.slice V n cap) vals
theorem FrI.below {w : World} {p : CP} {c : Circ} {V : Option Addr} {n cap : Nat} {vals : List Bool} {wr w2 : World} (h : FrI w p c V n cap vals wr) (hb : Below wr.heap.size wr w2) : FrI w p c V n cap vals w2 :=
  ⟨h.BW.trans (hb.mono h.BW.size), blk_below h.BC hb, Kd.R_below h.RV hb⟩
/-- The row grows. -/
theorem FrI.grow {w : World} {p : CP} {c : Circ} {V : Option Addr} {n cap : Nat} {vals : List Bool} {wr w2 : World} {V2 : Option Addr} {n2 cap2 : Nat} {vals2 : List Bool} (h : FrI w p c V n cap vals wr) (hr : Kd.R Kd.bool 4 w2 (w.heap.size + 1) (fun _ => True) (.slice V2 n2 cap2) vals2)
    (hb : Below (w.heap.size + 1) wr w2) : FrI w p c V2 n2 cap2 vals2 w2 :=
  ⟨h.BW.trans (hb.mono (Nat.le_succ _)), (hb.block _ (Nat.lt_succ_self _)).trans h.BC, hr⟩
set_option maxHeartbeats 8000000 in
set_option maxRecDepth 100000 in
theorem ref04_Frame (p : CP) (c : Circ) (B : Option Addr) (d : Nat) (st : List Bool) (B2 : Option Addr) (d2 : Nat) (ins : List Bool) (w : World) (h : RC w p c) (h1 : RS Kd.bool w B d st) (h2 : RS Kd.bool w B2 d2 ins)
    (hc : check c = 0) (hl1 : st.length = c.f1.length) (hl2 : (ins.length : Int) = c.f0) :
    Calls Try.prog 70 #[cv p c, .slice B st.length d, .slice B2 ins.length d2] w fun e w' => RetVr w w' (valsOf c st ins) e := by
  obtain ⟨A1, k1, A2, k2, A3, k3, A4, k4⟩ := p
  have hgc := gCheck_ok hc
  have HR := Aside0.mk h
  have HS := Aside0.mk h1
  have HI := Aside0.mk h2
  have HG := Aside0.mk (check_gands hc)
  have HL := Aside0.mk (show st.length = c.f1.length ∧ (ins.length : Int) = c.f0 ∧ 0 ≤ c.f0 ∧ c.f0 ≤ 1000 ∧ c.f0 + c.f1.length + c.f2.length ≤ 1000 from ⟨hl1, hl2, hgc⟩)
  have HM := Aside0.mk h.s2.max
  have BX0 := Aside0.mk (below_alloc (Below.refl w.heap.size w) (.cells #[.int .i64 c.f0, .slice A1 c.f1.length k1, .slice A2 c.f2.length k2, .slice A3 c.f3.length k3, .slice A4 c.f4.length k4] 26))
  have HB0 := Aside0.mk (blk_new w (.cells #[.int .i64 c.f0, .slice A1 c.f1.length k1, .slice A2 c.f2.length k2, .slice A3 c.f3.length k3, .slice A4 c.f4.length k4] 26))
  have BX := Aside0.mk (below_alloc BX0.out (.cells #[.bool false] 4))
  have HB := Aside0.mk (blk_alloc HB0.out (.cells #[.bool false] 4))
  have HRF := Aside0.mk (show Kd.R Kd.bool 4 ((w.alloc (.cells #[.int .i64 c.f0, .slice A1 c.f1.length k1, .slice A2 c.f2.length k2, .slice A3 c.f3.length k3, .slice A4 c.f4.length k4] 26)).alloc (.cells #[.bool false] 4)) (w.heap.size + 1) (fun _ => True) (.slice (some ⟨w.heap.size + 1, 0, none⟩) 1 1) [false] from by
    have h_ := R_false (w.alloc (.cells #[.int .i64 c.f0, .slice A1 c.f1.length k1, .slice A2 c.f2.length k2, .slice A3 c.f3.length k3, .slice A4 c.f4.length k4] 26)) (w.heap.size + 1) 4 (by simp)
    simpa using h_)
  have I0 := Aside0.mk (show FrI w ⟨A1, k1, A2, k2, A3, k3, A4, k4⟩ c (some ⟨w.heap.size + 1, 0, none⟩) 1 1 [false] _ from ⟨BX.out, HB.out, HRF.out⟩)
  obtain ⟨R, hR⟩ : ∃ R, valsOf c st ins = R := ⟨_, rfl⟩
  rw [hR]
  have HRR := Aside0.mk hR
  have hu26 := Try.underlying26
  have hu89 := Try.underlying89
  clear h h1 h2 hc hl1 hl2 hgc hR BX0 HB0 BX HB HRF
  obtain ⟨E, hE⟩ : ∃ E, ins.length + 1 + st.length = E := ⟨_, rfl⟩
  have HE0 := Aside0.mk (show (([false] ++ ins) ++ st).length = E by rw [← hE]; simp; omega)
  have HE1 := Aside0.mk hE
  clear hE
  dsimp only [cv] at *
  go_enter Try.func70, Try.ntmps70
  go_wp2_with (first | ((with_reducible refine gate_dst (N := 11) rfl ?_); go_loud (refine Kd.R_append_row Value.bool false (h1 := fun _ => rfl) (w0 := (w.alloc (.cells #[.int .i64 c.f0, .slice A1 c.f1.length k1, .slice A2 c.f2.length k2, .slice A3 c.f3.length k3, .slice A4 c.f4.length k4] 26)).alloc (.cells #[.bool false] 4)) (w.heap.size + 1) rfl (.tmp 9) (.tmp 10) 27 4 (.bool false) 1 rfl Try.underlying27 infoBool rfl (by omega) (.slice (some ⟨w.heap.size + 1, 0, none⟩) 1 1) [false] ins _ _ _ (fun _ => True) rfl rfl ?aF ?aO ?aR ?aB ?aS ?aL ?_); (case aF => exact fun _ _ => trivial); (case aO => exact I0.out.RV); (case aR => exact (HI.out.below I0.out.BW).r); (case aB => exact Below.refl _ _); (case aS => simp); (case aL => have := HL.out; simp; omega); intro v1 w2 ho hb hg hat; obtain ⟨V0, cap0, rfl, _, _⟩ := Kd.R_reads ho; rw [show ([false] ++ ins).length = ins.length + 1 by simp] at ho ⊢; have I1 := Aside0.mk (I0.out.grow ho hb); clear ho hb hg hat I0) | ((with_reducible refine gate_dst (N := 14) rfl ?_); go_loud (refine Kd.R_append_row Value.bool false (h1 := fun _ => rfl) (w0 := w2) (w.heap.size + 1) rfl (.tmp 12) (.tmp 13) 27 4 (.bool false) 1 rfl Try.underlying27 infoBool rfl (by omega) (.slice V0 (ins.length + 1) cap0) ([false] ++ ins) st _ _ _ (fun _ => True) rfl rfl ?aF ?aO ?aR ?aB ?aS ?aL ?_); (case aF => exact fun _ _ => trivial); (case aO => exact I1.out.RV); (case aR => exact (HS.out.below I1.out.BW).r); (case aB => exact Below.refl _ _); (case aS => exact blk_lt I1.out.BC); (case aL => have := HL.out; simp; omega); intro v1 w3 ho hb hg hat; obtain ⟨V1, cap1, rfl, _, _⟩ := Kd.R_reads ho; rw [HE0.out] at ho ⊢; have I2 := Aside0.mk (I1.out.grow ho hb); clear ho hb hg hat I1))
  have HBS := Aside0.mk (blk_lt I2.out.BC)
  have HV0 := Aside0.mk (show (false :: (ins ++ st)).length = E from HE0.out)
  go_loopg [7, 8] c.f2.length (fun gg s7 s8 wr => ∃ (k : Nat) (V : Option Addr) (cap : Nat), s7 = .slice V (E + k) cap ∧ s8 = .int .i64 k ∧ Aside0 (k ≤ c.f2.length ∧ c.f2.length - k ≤ gg) ∧ Aside0 (FrI w ⟨A1, k1, A2, k2, A3, k3, A4, k4⟩ c V (E + k) cap (truthFrom (c.f2.take k) (false :: (ins ++ st))) wr))
  case atStart => exact ⟨0, V1, cap1, rfl, rfl, ⟨by omega, by omega⟩, I2⟩
  case round =>
    clear I2
    obtain ⟨k, V, cap, rfl, rfl, HX, I⟩ := hrel
    obtain ⟨g0, g1, g2, g3, g4⟩ := (blk5w I.out.BC).1
    by_cases hlt : k < c.f2.length
    · obtain ⟨ad, e1, hx, hy⟩ := at_gate (HR.out.below I.out.BW).s2.r k hlt
      have hpt := gAnds_at k hlt HG.out
      have HT := Aside0.mk (truthFrom_take (v := false :: (ins ++ st)) hlt)
      have hlen : (truthFrom (c.f2.take k) (false :: (ins ++ st))).length = E + k := by rw [truthFrom_len, HV0.out, List.length_take, Nat.min_eq_left (Nat.le_of_lt hlt)]
      have HLT := Aside0.mk hlt
      have hG := HL.out
      have hE1 := HE1.out
      have l0 : IsLit c.f2[k].f0 := ⟨by omega, by omega⟩
      have l1 : IsLit c.f2[k].f1 := ⟨by omega, by omega⟩
      generalize c.f2[k] = g at *
      have hRS := RS.of_R' I.out.RV
      have C0 := Aside0.mk (fun W (hb : Below wr.heap.size wr W) => ref04_Value V cap _ (E + k) g.f0 W (hRS.below hb) hlen l0 (by rw [hlen]; omega))
      have C1 := Aside0.mk (fun W (hb : Below wr.heap.size wr W) => ref04_Value V cap _ (E + k) g.f1 W (hRS.below hb) hlen l1 (by rw [hlen]; omega))
      have HLN := Aside0.mk hlen
      have HLW := Aside0.mk (show E + k + 1 ≤ 1002 by omega)
      clear hpt hlen hRS l0 l1 hG hE1
      generalize truthFrom (c.f2.take k) (false :: (ins ++ st)) = vals at *
      cases e1
      go_wp2_with fail
      refine (C0.out _ (Below.refl _ _)).mono ?_
      rintro e w4 ⟨rfl, hb4⟩
      have I4 := Aside0.mk (I.out.below hb4)
      have hy4 := pw_cell_below hb4 hy
      have HB4 := Aside0.mk hb4
      have HMX := Aside0.mk (show (w.heap.size + 1) ≤ w4.heap.size from blk_lt I4.out.BC)
      clear hb4 hx hy g0 g1 g2 g3 g4
      cases hA : litV vals g.f0
      · have HA0 := Aside0.mk (show truthFrom (c.f2.take (k + 1)) (false :: (ins ++ st)) = vals ++ [false] by rw [HT.out, hA]; rfl)
        clear hA
        have HJ := Aside0.mk (show (vals ++ [false]).length = E + (k + 1) by rw [List.length_append, HLN.out]; rfl)
        go_wp2_with (first | (at_builtin; go_loud (refine Kd.R_append Kd.bool (w0 := w4) (w.heap.size + 1) rfl (.tmp 22) (.tmp 41) 27 4 (.bool false) 1 rfl Try.underlying27 infoBool rfl (by decide) (by omega) (.slice V (E + k) cap) vals (false) [.bool (false)] (fun _ => True) (fun _ => False) rfl rfl ?aP (fun _ h => h.elim) ?aF ?aO ?aB ?aS ?aL ?_); (case aP => exact rfl); (case aF => exact fun _ _ => trivial); (case aO => exact I4.out.RV); (case aB => exact Below.refl _ _); (case aS => exact HMX.out); (case aL => have := HLN.out; have := HLW.out; omega); intro v1 w6 ho hb hg hat; obtain ⟨V5, cap5, rfl, _, _⟩ := Kd.R_reads ho; rw [HJ.out] at ho ⊢; have I6 := Aside0.mk (I4.out.grow ho hb); clear ho hb hg hat))
        go_roundg (c.f2.length - (k + 1))
        case measure => have := HX.out; have := HLT.out; omega
        case rel => exact ⟨k + 1, V5, cap5, rfl, val_step HLT.out HM.out, ⟨HLT.out, by have := HX.out; omega⟩, ⟨by rw [HA0.out]; exact I6.out⟩⟩
      · have HAT := Aside0.mk hA
        clear hA
        obtain ⟨g0, g1, g2, g3, g4⟩ := (blk5w I4.out.BC).1
        go_wp2_with fail
        refine (C1.out _ HB4.out).mono ?_
        rintro e w5 ⟨rfl, hb5⟩
        have I5 := Aside0.mk (I4.out.below hb5)
        have HMX := Aside0.mk (show (w.heap.size + 1) ≤ w5.heap.size from blk_lt I5.out.BC)
        clear hb5 hy4 g0 g1 g2 g3 g4
        have HA0 := Aside0.mk (show truthFrom (c.f2.take (k + 1)) (false :: (ins ++ st)) = vals ++ [litV vals g.f1] by rw [HT.out, HAT.out, Bool.true_and])
        generalize litV vals g.f1 = bb at *
        have HJ := Aside0.mk (show (vals ++ [bb]).length = E + (k + 1) by rw [List.length_append, HLN.out]; rfl)
        go_wp2_with (first | (at_builtin; go_loud (refine Kd.R_append Kd.bool (w0 := w5) (w.heap.size + 1) rfl (.tmp 22) (.tmp 41) 27 4 (.bool false) 1 rfl Try.underlying27 infoBool rfl (by decide) (by omega) (.slice V (E + k) cap) vals (bb) [.bool (bb)] (fun _ => True) (fun _ => False) rfl rfl ?aP (fun _ h => h.elim) ?aF ?aO ?aB ?aS ?aL ?_); (case aP => exact rfl); (case aF => exact fun _ _ => trivial); (case aO => exact I5.out.RV); (case aB => exact Below.refl _ _); (case aS => exact HMX.out); (case aL => have := HLN.out; have := HLW.out; omega); intro v1 w6 ho hb hg hat; obtain ⟨V5, cap5, rfl, _, _⟩ := Kd.R_reads ho; rw [HJ.out] at ho ⊢; have I6 := Aside0.mk (I5.out.grow ho hb); clear ho hb hg hat))
        go_roundg (c.f2.length - (k + 1))
        case measure => have := HX.out; have := HLT.out; omega
        case rel => exact ⟨k + 1, V5, cap5, rfl, val_step HLT.out HM.out, ⟨HLT.out, by have := HX.out; omega⟩, ⟨by rw [HA0.out]; exact I6.out⟩⟩
    · have hk : k = c.f2.length := by have := HX.out.1; omega
      subst hk
      have hRR := HRR.out
      unfold valsOf at hRR
      have hlen : R.length = E + c.f2.length := by rw [← hRR, truthFrom_len, HV0.out]
      have HV := Aside0.mk (show Kd.R Kd.bool 4 wr w.heap.size (fun _ => True) (.slice V (E + c.f2.length) cap) R from by
        have h_ := I.out.RV
        rw [List.take_length, hRR] at h_
        exact Kd.R_lower h_ (Nat.le_succ _))
      have HLN := Aside0.mk hlen
      clear hRR hlen
      go_wp2
      go_ret
      exact ⟨V, cap, by rw [HLN.out]; rfl, by rw [HLN.out]; exact HV.out, I.out.BW⟩
end Go.Proofs.Ytchhbkicplgmhaa.PH
