/- traces.walk, with any function that tells whether to go on. -/
import Derived.Test.YtchhbkicplgmhaaHDo
import Derived.Test.YtchhbkicplgmhaaHCheck6
import Derived.WalkMore
namespace Go.Proofs.Ytchhbkicplgmhaa.PH
open Go.RowKit Go.Proofs.YtchhbkicplgmhaaW.PrintWords Go.Proofs.YtchhbkicplgmhaaW.PrintLast
set_option linter.unusedVariables false
set_option linter.unusedSimpArgs false

theorem make_row0 (n : Nat) (hM : n ≤ 4000000) (W : World) : (Instr.makeSlice 27 (.int .i64 (n : Int)) (.int .i64 (n : Int))).run Try.prog W = .ok (.slice (some ⟨W.heap.size, 0, none⟩) n n) (W.alloc (.cells (bRow (List.replicate n false)) 4)) := by
  obtain ⟨i0, hi, hz⟩ := Option.map_eq_some_iff.1 infoBool
  simp only [Prod.mk.injEq] at hz
  obtain ⟨h0, h1, h2⟩ := hz
  have h := run_make (P := Try.prog) W 27 4 i0 _ Try.underlying27 hi h0 .i64 .i64 (n : Int) (n : Int) (by omega) (by omega) (by rw [h2]; omega) (by omega)
  rw [h1, Nat.mul_one] at h
  rw [show madeCells (Value.bool false).cells (Int.toNat (n : Int)) = bRow (List.replicate n false) from ?_] at h
  · exact h
  · apply Array.ext'
    simp only [madeCells, bRow, Value.cells]
    simp [List.eq_replicate_iff]
    exact fun a _ => by rw [Nat.mod_one]; rfl
theorem R_blk {W : World} {base g t : Nat} {ok : Nat → Prop} {l : List Bool} (hb : base ≤ g) (hok : ok g) (hm : l.length ≤ 9223372036854775807) (h : W.heap[g]? = some (.cells (bRow l) t (0, 0))) : Kd.R Kd.bool t W base ok (.slice (some ⟨g, 0, none⟩) l.length l.length) l :=
  ⟨fun k hk => by
    have e : g = k := by simpa [Value.ownBlock] using hk
    rw [← e]; exact hok, l.map Value.bool, ⟨by rw [List.length_map]; exact (Nat.mul_one _).symm, .inr ⟨g, l.length, _, rfl, hb, h, Nat.le_refl _, by unfold maxLen; omega, by rw [show Kd.bool.sz = 1 from rfl]; simp, by rw [show Kd.bool.sz = 1 from rfl, Nat.mul_one]; simp [List.take_of_length_le]⟩⟩, Kd.reps_scalar (enc := Value.bool) l⟩
theorem over_all (l : List Bool) : over (List.replicate l.length false) l 0 = l := by
  unfold over
  simp
/-- The frames that are walked, by the run's error. -/
def walked (F : List Fr) (go : Nat → Fr → Bool) (n : Int) : List Fr := if n = 0 then F.take (stopAt go 0 F) else []
theorem walked_ok {F : List Fr} {go : Nat → Fr → Bool} {n : Int} (h : n = 0) : walked F go n = F.take (stopAt go 0 F) := if_pos h
theorem walked_no {F : List Fr} {go : Nat → Fr → Bool} {n : Int} (h : n ≠ 0) : walked F go n = [] := if_neg h
/-- What traces.walk leaves. -/
def RetW (F : List Fr) (go : Nat → Fr → Bool) (J : List Fr → (Nat → Prop) → World → Prop) (w0 w' : World) (n : Int) (e : Ending) : Prop :=
  e = .returned (.int .i64 n) ∧ Below w0.heap.size w0 w' ∧ ∃ X, J (walked F go n) X w'
set_option maxHeartbeats 8000000 in
set_option maxRecDepth 100000 in
theorem traces_walk (p : CP) (c : Circ) (q : TP) (t : Run) (g : Nat) (lb : Array Value) (go : Nat → Fr → Bool) (J : List Fr → (Nat → Prop) → World → Prop) (w0 w : World) (hB : Below w0.heap.size w0 w) (h : RC w0 p c) (hs : c.Fits) (ht : RT w0 q t)
    (hJ : J [] (fun _ => False) w) (hK : ∀ h X W W', J h X W → Below W.heap.size W W' → J h (Grow X W.heap.size W'.heap.size) W') (hW : tCheck c t = 0 → Walks (frames c t.f0 t.f1) g lb w0.heap.size go J) :
    Calls Try.prog 38 #[cv p c, tv q t, .func (.func g) #[] lb] w fun e w' => RetW (frames c t.f0 t.f1) go J w0 w' (tCheck c t) e := by
  obtain ⟨QA0, QC0, QA1, QC1⟩ := q
  have HR := Aside0.mk h
  have HT := Aside0.mk ht
  have HF := Aside0.mk hs
  have HW0 := Aside0.mk hW
  have HKP := Aside0.mk hK
  have HJ := Aside0.mk hJ
  have HB := Aside0.mk hB
  have I := Aside0.mk (CkInv.start w p c ⟨QA0, QC0, QA1, QC1⟩ t)
  have hu26 := Try.underlying26
  have hu30 := Try.underlying30
  obtain ⟨g0, g1, g2, g3, g4⟩ := (blk5w I.out.B0).1
  obtain ⟨u0, u1⟩ := (blk2t I.out.B1).1
  obtain ⟨F, hF⟩ : ∃ F, frames c t.f0 t.f1 = F := ⟨_, rfl⟩
  rw [hF] at HW0 ⊢
  have HFR := Aside0.mk hF
  clear h hs ht hW hJ hB hF hK
  dsimp only at *
  go_enter Try.func38, Try.ntmps38
  go_wp2
  refine wp_scope_straight ?_
  go_wp2_with fail
  refine (traces_Check p c ⟨QA0, QC0, QA1, QC1⟩ t _ (HR.out.below (HB.out.trans (I.out.BW.mono HB.out.size))) HF.out (HT.out.below (HB.out.trans (I.out.BW.mono HB.out.size)))).mono ?_
  rintro e w1 ⟨rfl, hb1⟩
  have I := Aside0.mk (I.out.below hb1)
  clear hb1 g0 g1 g2 g3 g4 u0 u1
  by_cases hc : tCheck c t = 0
  case neg =>
    have hcd : (tCheck c t != 0) = true := bne_iff_ne.mpr hc
    have HC := Aside0.mk hc
    clear hc
    go_wp2
    rw [Exit.noGoto_ret]
    go_ret
    exact ⟨rfl, HB.out.trans (I.out.BW.mono HB.out.size), _, by rw [walked_no HC.out]; exact HKP.out _ _ _ _ HJ.out I.out.BW⟩
  rw [hc]
  have HC := Aside0.mk (tCheck_ok hc)
  have HCC := Aside0.mk hc
  have HW := Aside0.mk (HW0.out hc)
  have eg := HW.out.eg
  clear HW0 HKP
  clear hc
  obtain ⟨g0, g1, g2, g3, g4⟩ := (blk5w I.out.B0).1
  obtain ⟨u0, u1⟩ := (blk2t I.out.B1).1
  have hmk := make_row0 t.f0.length (by rw [HC.out.2.2.2.1]; exact HF.out.h1)
  have NB := Aside0.mk (blk_new w1 (.cells (bRow (List.replicate t.f0.length false)) 4))
  have I2 := Aside0.mk (I.out.below (below_alloc (Below.refl w1.heap.size w1) (.cells (bRow (List.replicate t.f0.length false)) 4)))
  have HTW := Aside0.mk (HT.out.below (HB.out.trans (I2.out.BW.mono HB.out.size)))
  have HG := Aside0.mk (show w.heap.size ≤ w1.heap.size ∧ w.heap.size ≠ w1.heap.size ∧ w.heap.size + 1 ≠ w1.heap.size from ⟨I.out.BW.size, Nat.ne_of_lt (blk_lt I.out.B0), Nat.ne_of_lt (blk_lt I.out.B1)⟩)
  obtain ⟨v0, v1⟩ := (blk2t I2.out.B1).1
  clear I
  go_wp2_with (first | ((with_reducible refine gate_dst (N := 27) rfl ?_); go_loud (refine copy_bools (w0 := w) rfl (.tmp 24) (.tmp 26) rfl w1.heap.size 0 t.f0.length t.f0.length (some ⟨w1.heap.size, 0, none⟩) (List.replicate t.f0.length false) t.f0 QA0 QC0 rfl rfl ?cD ?cL ?cF ?cG I2.out.BW NB.out HTW.out.s0 ?_); (case cD => exact fun _ => rfl); (case cL => exact Nat.le_refl _); (case cF => simp); (case cG => exact HG.out.1); intro w3 k1 k2 k3 k4; have I3 : Aside0 (CkInv w p c ⟨QA0, QC0, QA1, QC1⟩ t w3) := ⟨⟨k2, (k3 _ HG.out.2.1).trans I2.out.B0, (k3 _ HG.out.2.2).trans I2.out.B1⟩⟩; have N3 := Aside0.mk k1; clear k1 k2 k3 k4 u0 u1 v0 v1; obtain ⟨u0, u1⟩ := (blk2t I3.out.B1).1))
  have hlen := HC.out.2.2.2.1
  have HLE := Aside0.mk hlen
  have S0 : Aside0 (WkInv F J w0 w.heap.size p c 0 (some ⟨w1.heap.size, 0, none⟩) c.f1.length t.f0.length t.f0 (Grow (fun _ => False) w.heap.size w3.heap.size) w3) := ⟨⟨HB.out.trans (I3.out.BW.mono HB.out.size), HW.out.keep _ _ _ _ HJ.out I3.out.BW, Grow.lt (fun q hq => hq.elim) I3.out.BW.size, I3.out.B0, Or.inr ⟨Nat.le_refl _, blk_lt I3.out.B0⟩, by
    have h_ := R_blk (ok := Grow (fun _ => False) w.heap.size w3.heap.size) (base := w0.heap.size) (Nat.le_trans HB.out.size HG.out.1) (Or.inr ⟨HG.out.1, blk_lt N3.out⟩) HTW.out.s0.max (by have h2 := N3.out; rw [over_all] at h2; exact h2)
    rw [← hlen]
    exact h_⟩⟩
  have HD := Aside0.mk (And.intro HC.out.1 HC.out.2.2.2.2.2)
  have HM := Aside0.mk HT.out.s1.max
  clear hlen hmk NB I2 HTW HG N3 I3 HJ HC
  refine wp_label ?_
  go_wp2
  go_loopg [8, 9, 10, 11, 12, 13, 31] t.f1.length (fun gg s8 s9 s10 s11 s12 s13 s31 wr => ∃ (k : Nat) (A : Option Addr) (d : Nat), s8 = .slice A c.f1.length d ∧ s31 = .int .i64 k ∧ Aside0 (k ≤ t.f1.length ∧ t.f1.length - k ≤ gg) ∧ Aside0 (∃ X, WkInv F J w0 w.heap.size p c k A c.f1.length d (stateAt c t.f0 (t.f1.take k)) X wr) ∧ Aside0 (∀ j (hj : j < k) (hf : j < F.length), go j F[j] = true))
  case atStart => exact ⟨0, some ⟨w1.heap.size, 0, none⟩, t.f0.length, by rw [← HLE.out], rfl, ⟨by omega, by omega⟩, ⟨_, S0.out⟩, ⟨fun j hj => absurd hj (Nat.not_lt_zero _)⟩⟩
  case round =>
    clear S0 u0 u1
    obtain ⟨k, A, d, rfl, rfl, HX, HI, HGO⟩ := hrel
    obtain ⟨X, hI⟩ := HI.out
    have KI := Aside0.mk hI
    clear HI hI
    obtain ⟨g0, g1, g2, g3, g4⟩ := (blk5w KI.out.C).1
    by_cases hlt : k < t.f1.length
    · have hkF : k < F.length := by rw [← HFR.out, frames_len]; exact hlt
      have hFk : F[k]'hkF = (stateAt c t.f0 (t.f1.take k), holdsOf c (stateAt c t.f0 (t.f1.take k)) t.f1[k], badsOf c (stateAt c t.f0 (t.f1.take k)) t.f1[k]) := by
        have h_ := frames_at c t.f1 t.f0 k hlt (by rw [frames_len]; exact hlt)
        simp only [HFR.out] at h_
        exact h_
      have hstl := stateAt_len c HLE.out (t.f1.take k)
      have HNX := Aside0.mk (stateAt_step c t.f1 t.f0 k hlt)
      obtain ⟨ad, Bi, ci, e1, hx0, hrow⟩ := at_row HT.out.s1.r k hlt
      have hx := pw_cell_below KI.out.B hx0
      have hins := HD.out.2 t.f1[k] (List.getElem_mem hlt)
      have HST := Aside0.mk (HW.out.step k hkF)
      rw [hFk] at HST
      have HLT := Aside0.mk hlt
      generalize t.f1[k] = ins at *
      generalize stateAt c t.f0 (t.f1.take k) = st at *
      cases e1
      have HROW := Aside0.mk hrow
      have HINS := Aside0.mk hins
      have HKF := Aside0.mk hkF
      have HFK := Aside0.mk hFk
      have HPL := Aside0.mk (check_lits HD.out.1).1
      have HP := values_Props p c A d st Bi ci ins wr (HR.out.below KI.out.B) HF.out (RS.of_R' KI.out.S) (hrow.below KI.out.B) HD.out.1 hstl hins HPL.out
      rw [hstl] at HP
      have HSL := Aside0.mk hstl
      clear hFk hx0 hrow hins
      go_wp2_with fail
      refine HP.mono ?_
      rintro e w4 ⟨E, ec, rfl, hbads, hb⟩
      have K4 := Aside0.mk (KI.out.below HW.out.keep hb)
      have HBD := Aside0.mk hbads
      clear HP hb hbads g0 g1 g2 g3 g4 KI
      generalize Grow X wr.heap.size w4.heap.size = X4 at *
      obtain ⟨g0, g1, g2, g3, g4⟩ := (blk5w K4.out.C).1
      have HS4 := HST.out A d E ec X4 w4 (fun j hj => HGO.out j hj (Nat.lt_trans hj HKF.out)) K4.out.XB K4.out.B.size K4.out.J (by rw [HSL.out]; exact K4.out.S) HBD.out
      rw [HSL.out] at HS4
      go_wp2_with fail
      refine HS4.mono ?_
      rintro e w5 ⟨rfl, hj5, hk5⟩
      have K5 := Aside0.mk (K4.out.kept hk5 hj5)
      clear HS4 hj5 hk5 K4 g0 g1 g2 g3 g4
      obtain ⟨g0, g1, g2, g3, g4⟩ := (blk5w K5.out.C).1
      rw [← HFK.out]
      cases hgo : go k (F[k]'HKF.out) with
      | false =>
        have HGF := Aside0.mk hgo
        clear hgo
        go_wp2
        rw [Exit.noGoto_ret]
        go_ret
        refine ⟨by rw [HCC.out]; rfl, K5.out.B, X4, ?_⟩
        rw [walked_ok HCC.out, stop_here (i := 0) HKF.out (by rw [Nat.zero_add]; exact HGF.out) (fun j hj => by rw [Nat.zero_add]; exact HGO.out j hj (Nat.lt_trans hj HKF.out)), Nat.zero_add]
        exact K5.out.J
      | true =>
        have HGT := Aside0.mk hgo
        clear hgo
        have HN := values_Next p c A d st Bi ci ins w5 (HR.out.below K5.out.B) HF.out (RS.of_R' K5.out.S) (HROW.out.below K5.out.B) HD.out.1 HSL.out HINS.out HPL.out
        rw [HSL.out] at HN
        go_wp2_with fail
        refine HN.mono ?_
        rintro e w6 ⟨A6, d6, rfl, hr6, hb6⟩
        have K6 := Aside0.mk (K5.out.next HW.out.keep hb6 hr6)
        have hnl := nextOf_len c st ins
        rw [hnl] at K6 ⊢
        clear HN hr6 hb6 K5 g0 g1 g2 g3 g4 hnl
        go_wp2
        go_roundg (t.f1.length - (k + 1))
        case measure => have := HX.out; have := HLT.out; omega
        case rel => exact ⟨k + 1, A6, d6, rfl, val_step HLT.out HM.out, ⟨HLT.out, by have := HX.out; omega⟩, ⟨_, by rw [HNX.out]; exact K6.out⟩, ⟨fun j hj hf => by
          by_cases e : j = k
          · subst e; exact HGT.out
          · exact HGO.out j (by omega) hf⟩⟩
    · have hk : k = t.f1.length := by have := HX.out; omega
      have HK := Aside0.mk (show k = F.length by rw [hk, ← HFR.out, frames_len])
      clear hk
      go_wp2
      rw [Exit.noGoto_ret]
      go_ret
      refine ⟨by rw [HCC.out]; rfl, KI.out.B, X, ?_⟩
      rw [walked_ok HCC.out, stop_end (fun j hj => by rw [Nat.zero_add]; exact HGO.out j (by rw [HK.out]; exact hj) hj), Nat.zero_add, ← HK.out]
      exact KI.out.J
end Go.Proofs.Ytchhbkicplgmhaa.PH
