/- ref02.Gate, ref02.In. -/
import Derived.Test.YtiafojcbllbepaaHConeR
import Derived.Test.YtiafojcbllbepaaHConeV
import Derived.Test.YtiafojcbllbepaaWApart
namespace Go.Proofs.Ytiafojcbllbepaa.PH
open Go.RowKit Go.Proofs.YtiafojcbllbepaaW.PrintWords Go.Proofs.YtiafojcbllbepaaW.PrintLast
set_option linter.unusedVariables false
set_option linter.unusedSimpArgs false

set_option maxHeartbeats 2000000 in
set_option maxRecDepth 100000 in
theorem ref02_Gate (p : CP) (c : Circ) (v : Int) (w : World) (h0 : 0 ≤ c.f0) (h1 : c.f0 ≤ 1000) (h2 : c.f1.length ≤ 1000) (h3 : 0 ≤ v) (h4 : v ≤ 1000) :
    Calls Try.prog 68 #[cv p c, .int .i64 v] w fun e w' => e = .returned (.int .i64 (v - 1 - c.f0 - c.f1.length)) ∧ Below w.heap.size w w' := by
  have hu26 := Try.underlying26
  have hw1 : wrap64 (v - 1) = v - 1 := wrap_in (by omega) (by omega)
  have hw2 : wrap64 (v - 1 - c.f0) = v - 1 - c.f0 := wrap_in (by omega) (by omega)
  have hw3 : wrap64 (v - 1 - c.f0 - c.f1.length) = v - 1 - c.f0 - c.f1.length := wrap_in (by omega) (by omega)
  obtain ⟨A1, k1, A2, k2, A3, k3, A4, k4⟩ := p
  go_enter Try.func68, Try.ntmps68
  go_wp2
  go_ret
  exact ⟨ret_int (by simp only [hw1, hw2, hw3]), below_alloc (Below.refl _ _) _⟩
theorem infoBool : (Try.prog.info? 4).map (fun i => (i.zero, i.size, i.bytes)) = some (some (.bool false), 1, 1) := by kernel_rfl
/-- A row of truth values of the call's own comes back. -/
def RetIn (w w' : World) (l : List Bool) (e : Ending) : Prop := ∃ A cap, e = .returned (.slice A l.length cap) ∧ Kd.R Kd.bool 4 w' w.heap.size (fun _ => True) (.slice A l.length cap) l ∧ Below w.heap.size w w'
set_option maxHeartbeats 4000000 in
set_option maxRecDepth 100000 in
theorem ref02_In (p : CP) (c : Circ) (l : Int) (w : World) (h : RC w p c) (hs : c.Fits) (hck : check c = 0) (hl0 : 0 ≤ l) (hl : varOf l ≤ sizeC c) :
    Calls Try.prog 56 #[cv p c, .int .i64 l] w fun e w' => RetIn w w' (inB c l) e := by
  have hc := gCheck_ok hck
  have hu26 := Try.underlying26
  have HSZ := fun W => ref02_Size p c W hc.1 hc.2.1 hs
  have HGT := Aside0.mk (fun (v : Int) W => ref02_Gate p c v W hc.1 hc.2.1 (by have := hc.2.2; omega))
  have hn : c.f0 + (c.f1.length : Int) + c.f2.length = (sizeC c : Int) := by unfold sizeC; have := hc.1; omega
  rw [hn] at HSZ
  have HN := Aside0.mk (show sizeC c ≤ 1000 by have := hc.2.2; omega)
  have hN := HN.out
  have hw1 : wrap64 ((sizeC c : Int) + 1) = ((sizeC c + 1 : Nat) : Int) := by rw [wrap_in (by omega) (by omega)]; omega
  have HH := Aside0.mk h
  obtain ⟨A1, k1, A2, k2, A3, k3, A4, k4⟩ := p
  have HSZ1 := Aside0.mk HSZ
  clear HSZ h
  go_enter Try.func56, Try.ntmps56
  go_wp2_with fail
  refine (HSZ1.out _).mono ?_
  rintro e w1 ⟨rfl, hb1⟩
  have e0 := blk_below (blk_new w (.cells #[.int .i64 c.f0, .slice A1 c.f1.length k1, .slice A2 c.f2.length k2, .slice A3 c.f3.length k3, .slice A4 c.f4.length k4] 26)) hb1
  have HB1 := Aside0.mk ((below_alloc (Below.refl w.heap.size w) (.cells #[.int .i64 c.f0, .slice A1 c.f1.length k1, .slice A2 c.f2.length k2, .slice A3 c.f3.length k3, .slice A4 c.f4.length k4] 26)).trans (hb1.mono (by simp)))
  have E1 := Aside0.mk e0
  clear e0 hb1
  go_upto_region 2 with (first | (refine Kd.R_make Kd.bool (w0 := w) w.heap.size 4 rfl rfl 59 (.tmp 10) (.tmp 10) rfl ((sizeC c + 1 : Nat) : Int) rfl rfl Try.underlying59 (.bool false) 1 infoBool rfl (by decide) (by decide) false (ok := fun _ => True) (okp := fun _ => False) ?aP (fun _ h => h.elim) trivial (by omega) ?aL HB1.out HB1.out.size ?_; (case aP => exact rfl); (case aL => omega); intro v1 w2 ho hb hg hat; obtain ⟨V, cap, hv⟩ := Kd.R_slice ho; have HO := Aside0.mk ho; have HB := Aside0.mk hb; have E2 := Aside0.mk (blk_grown E1.out hg (by simp)); have HAT := Aside0.mk hat; clear ho hb hg hat; subst hv))
  obtain ⟨g, hV⟩ : ∃ g, V = some ⟨g, 0, none⟩ := by
    obtain ⟨b, hb, _⟩ := HAT.out
    cases V with
    | none => simp [Value.ownBlock] at hb
    | some ad => obtain ⟨g, hg⟩ := Kd.R_head HO.out; exact ⟨g, by rw [hg]⟩
  subst hV
  have HG := Aside0.mk (show w1.heap.size ≤ g by obtain ⟨b, hb, h_⟩ := HAT.out; injection hb with hb; rw [show b = g from hb.symm] at h_; exact h_)
  have HR := Aside0.mk (show Kd.R Kd.bool 4 w2 w.heap.size (fun _ => True) (.slice (some ⟨g, 0, none⟩) (sizeC c + 1) cap) (List.replicate (sizeC c + 1) false) by
    have h_ := HO.out
    simp only [Int.toNat_natCast, List.length_replicate] at h_
    exact h_)
  clear HO HAT
  have hw2 : wrap64 (l.tdiv 2) = (varOf l : Int) := by rw [half_of ⟨by omega, by unfold varOf at hl; omega⟩ hl0]; unfold varOf; omega
  have hc0 := Kd.R_celln (n := sizeC c + 1) false HR.out (varOf l : Int) (by omega) (by omega)
  have cV : w2.cell? ⟨g, varOf l, none⟩ = some (.bool ((List.replicate (sizeC c + 1) false).getD (varOf l) false)) := by have h_ := hc0.1; rw [Int.toNat_natCast] at h_; simpa [rdOf] using h_
  have cW : w2.frozen? ⟨g, varOf l, none⟩ = false := by have h_ := hc0.2; rw [Int.toNat_natCast] at h_; exact h_
  have HR2 := Aside0.mk (show Kd.R Kd.bool 4 (w2.setCell ⟨g, varOf l, none⟩ (.bool true)) w.heap.size (fun _ => True) (.slice (some ⟨g, 0, none⟩) (sizeC c + 1) cap) ((List.replicate (sizeC c + 1) false).set (varOf l) true) by have h_ := Kd.R_putn HR.out (varOf l : Int) true; rw [Int.toNat_natCast] at h_; exact h_)
  have hki : (varOf l : Int) < ((sizeC c + 1 : Nat) : Int) := by omega
  clear hc0
  generalize (List.replicate (sizeC c + 1) false).getD (varOf l) false = bv at cV
  go_upto_region 3 with (fail)
  have hgw : w.heap.size < g := by have := HG.out; have := blk_lt E1.out; omega
  have E3 := Aside0.mk (blk_far (p := ⟨g, varOf l, none⟩) E2.out (Nat.ne_of_lt hgw) (.bool true))
  have HB3 := Aside0.mk (HB.out.setCell (p := ⟨g, varOf l, none⟩) (Nat.le_of_lt hgw) (.bool true))
  have HGW := Aside0.mk hgw
  generalize w2.setCell ⟨g, varOf l, none⟩ (.bool true) = w3 at *
  obtain ⟨c0, c1, c2, c3, c4⟩ := blk5 E3.out
  clear HR cV cW E2 HB E1 HB1 hki hw2 hgw
  go_wp2_with fail
  refine (HSZ1.out _).mono ?_
  rintro e w4 ⟨rfl, hb4⟩
  have E4 := Aside0.mk (blk_below E3.out hb4)
  have HB4 := Aside0.mk (HB3.out.trans (hb4.mono HB3.out.size))
  have HR4 := Aside0.mk (Kd.R_below HR2.out hb4)
  clear E3 HB3 HR2 c0 c1 c2 c3 c4 hb4
  go_wp2
  have HK0 := Aside0.mk (show inB c l = (inR c (sizeC c) ((List.replicate (sizeC c + 1) false).set (varOf l) true)).set 0 false from rfl)
  have HL0 := Aside0.mk (show ((List.replicate (sizeC c + 1) false).set (varOf l) true).length = sizeC c + 1 by simp)
  generalize (List.replicate (sizeC c + 1) false).set (varOf l) true = is0 at *
  go_loopg [6] (sizeC c) (fun gg s6 wr => ∃ (k : Nat) (is : List Bool), s6 = .int .i64 k ∧ Aside0 (k ≤ sizeC c ∧ k ≤ gg) ∧ Aside0 (is.length = sizeC c + 1) ∧ Aside0 (Below w.heap.size w wr) ∧ Aside0 (wr.heap[w.heap.size]? = some (.cells #[.int .i64 c.f0, .slice A1 c.f1.length k1, .slice A2 c.f2.length k2, .slice A3 c.f3.length k3, .slice A4 c.f4.length k4] 26 (0, 0))) ∧ Aside0 (Kd.R Kd.bool 4 wr w.heap.size (fun _ => True) (.slice (some ⟨g, 0, none⟩) (sizeC c + 1) cap) is) ∧ Aside0 (inB c l = (inR c k is).set 0 false))
  case atStart => exact ⟨sizeC c, is0, rfl, ⟨Nat.le_refl _, Nat.le_refl _⟩, HL0, HB4, E4, HR4, HK0⟩
  case round =>
    obtain ⟨k, is, rfl, HK, LN, BW, E, RW, IN⟩ := hrel
    cases k with
    | zero =>
      have hc0 := Kd.R_celln (n := sizeC c + 1) false RW.out (0 : Int) (by omega) (by omega)
      have cV : wr.cell? ⟨g, 0, none⟩ = some (.bool (is.getD 0 false)) := by have h_ := hc0.1; simpa [rdOf] using h_
      have cW : wr.frozen? ⟨g, 0, none⟩ = false := hc0.2
      generalize is.getD 0 false = bv at cV
      have hn1 : (inB c l).length = sizeC c + 1 := by rw [IN.out, List.length_set]; exact LN.out
      have HE := Aside0.mk (show Kd.R Kd.bool 4 (wr.setCell ⟨g, 0, none⟩ (.bool false)) w.heap.size (fun _ => True) (.slice (some ⟨g, 0, none⟩) (sizeC c + 1) cap) (inB c l) by have h_ := Kd.R_putn RW.out (0 : Int) false; rw [IN.out]; exact h_)
      have HN1 := Aside0.mk hn1
      clear hc0 hn1
      go_wp2
      go_ret
      exact ⟨some ⟨g, 0, none⟩, cap, by rw [HN1.out]; rfl, by rw [HN1.out]; exact HE.out, BW.out.setCell (p := ⟨g, 0, none⟩) (Nat.le_of_lt HGW.out) _⟩
    | succ k =>
      obtain ⟨c0, c1, c2, c3, c4⟩ := blk5 E.out
      have hc0 := Kd.R_celln (n := sizeC c + 1) false RW.out ((k + 1 : Nat) : Int) (by omega) (by have := HK.out.1; omega)
      have HCV := Aside0.mk (show wr.cell? ⟨g, k + 1, none⟩ = some (.bool (is.getD (k + 1) false)) by have h_ := hc0.1; rw [Int.toNat_natCast] at h_; simpa [rdOf] using h_)
      have hki : ((k + 1 : Nat) : Int) < ((sizeC c + 1 : Nat) : Int) := by have := HK.out.1; omega
      clear hc0
      go_wp2_with fail
      refine (HGT.out _ _ (by omega) (by have := HK.out.1; omega)).mono ?_
      rintro e w6 ⟨rfl, hb6⟩
      have E6 := Aside0.mk (blk_below E.out hb6)
      have BW6 := Aside0.mk (BW.out.trans (hb6.mono BW.out.size))
      have RW6 := Aside0.mk (Kd.R_below RW.out hb6)
      have cV := (hb6.cell (p := ⟨g, k + 1, none⟩) (World.block_lt_of_cell? _ _ HCV.out)).trans HCV.out
      have hws : wrap64 (((k + 1 : Nat) : Int) - 1) = (k : Int) := by rw [wrap_in (by omega) (by have := HK.out.1; omega)]; omega
      clear hb6 c0 c1 c2 c3 c4
      cases hb : is.getD (k + 1) false with
      | false =>
        rw [hb] at cV
        have HI := Aside0.mk (show inB c l = (inR c k is).set 0 false by rw [IN.out, inR, inS, if_neg (by rw [hb]; decide)])
        clear hb
        go_wp2
        go_roundg k
        case measure => have := HK.out; omega
        case rel => exact ⟨k, is, rfl, ⟨by have := HK.out; omega, Nat.le_refl _⟩, LN, BW6, E6, RW6, HI⟩
      | true =>
        rw [hb] at cV
        have hc0 := hc.1
        by_cases hj : (k : Int) - c.f0 - (c.f1.length : Int) < 0
        · have HI := Aside0.mk (show inB c l = (inR c k is).set 0 false by rw [IN.out, inR, inS, if_pos hb, show gateReads c (k + 1) = [] by unfold gateReads; rw [if_neg (by omega)]]; rfl)
          obtain ⟨j, hjj⟩ : ∃ j : Int, (k : Int) + 1 - 1 - c.f0 - (c.f1.length : Int) = j := ⟨_, rfl⟩
          have hjd : decide (0 ≤ j) = false := decide_eq_false (by omega)
          rw [hjj]
          clear hb hj hjj
          go_wp2
          go_roundg k
          case measure => have := HK.out; omega
          case rel => exact ⟨k, is, rfl, ⟨by have := HK.out; omega, Nat.le_refl _⟩, LN, BW6, E6, RW6, HI⟩
        · obtain ⟨m, hm⟩ : ∃ m : Nat, (k : Int) - c.f0 - (c.f1.length : Int) = (m : Int) := ⟨((k : Int) - c.f0 - (c.f1.length : Int)).toNat, by omega⟩
          have hmk : k + 1 - (c.f0.toNat + c.f1.length + 1) = m := by omega
          have hml : m < c.f2.length := by have := HK.out.1; unfold sizeC at this; omega
          obtain ⟨ad2, e2, hy0, hy1⟩ := at_gate HH.out.s2.r m hml
          cases e2
          have hx0 := (BW6.out.cell (World.block_lt_of_cell? _ _ hy0)).trans hy0
          have hx1 := (BW6.out.cell (World.block_lt_of_cell? _ _ hy1)).trans hy1
          have HAD := Aside0.mk (World.block_lt_of_cell? _ _ hy0)
          clear hy0 hy1
          have hgr : gateReads c (k + 1) = [(c.f2[m]).f0, (c.f2[m]).f1] := by
            unfold gateReads
            rw [if_pos (by omega), hmk, List.getElem?_eq_getElem hml]; rfl
          have hin := inside_of hck
          have hA := hin.hg (k + 1) (c.f2[m]).f0 (by rw [hgr]; simp)
          have hB := hin.hg (k + 1) (c.f2[m]).f1 (by rw [hgr]; simp)
          have hNN := HN.out
          have hwA : wrap64 ((c.f2[m]).f0.tdiv 2) = (varOf (c.f2[m]).f0 : Int) := by
            have := hA.2; rw [half_of ⟨by omega, by unfold varOf at this; omega⟩ hA.1]; unfold varOf; have := hA.1; omega
          have hwB : wrap64 ((c.f2[m]).f1.tdiv 2) = (varOf (c.f2[m]).f1 : Int) := by
            have := hB.2; rw [half_of ⟨by omega, by unfold varOf at this; omega⟩ hB.1]; unfold varOf; have := hB.1; omega
          have hA2 : varOf (c.f2[m]).f0 < sizeC c + 1 := by omega
          have hB2 : varOf (c.f2[m]).f1 < sizeC c + 1 := by omega
          have HI := Aside0.mk (show inB c l = (inR c k ((is.set (varOf (c.f2[m]).f0) true).set (varOf (c.f2[m]).f1) true)).set 0 false by rw [IN.out, inR, inS, if_pos hb, hgr]; rfl)
          generalize c.f2[m] = gt at *
          generalize varOf gt.f0 = a at *
          generalize varOf gt.f1 = b2 at *
          have HL2 := Aside0.mk (show (is.set a true).length = sizeC c + 1 by rw [List.length_set]; exact LN.out)
          have HL3 := Aside0.mk (show ((is.set a true).set b2 true).length = sizeC c + 1 by rw [List.length_set, List.length_set]; exact LN.out)
          have HB2 := Aside0.mk hB2
          have HJ := Aside0.mk hj
          have hj0 : decide (0 ≤ (m : Int)) = true := decide_eq_true (by omega)
          have hc1 := Kd.R_celln (n := sizeC c + 1) false RW6.out (a : Int) (by omega) (by omega)
          have cA : w6.cell? ⟨g, a, none⟩ = some (.bool (is.getD a false)) := by have h_ := hc1.1; rw [Int.toNat_natCast] at h_; simpa [rdOf] using h_
          have fA : w6.frozen? ⟨g, a, none⟩ = false := by have h_ := hc1.2; rw [Int.toNat_natCast] at h_; exact h_
          have RW7 := Aside0.mk (show Kd.R Kd.bool 4 (w6.setCell ⟨g, a, none⟩ (.bool true)) w.heap.size (fun _ => True) (.slice (some ⟨g, 0, none⟩) (sizeC c + 1) cap) (is.set a true) by have h_ := Kd.R_putn RW6.out (a : Int) true; rw [Int.toNat_natCast] at h_; exact h_)
          have E7 := Aside0.mk (blk_far (p := ⟨g, a, none⟩) E6.out (Nat.ne_of_lt HGW.out) (.bool true))
          have BW7 := Aside0.mk (BW6.out.setCell (p := ⟨g, a, none⟩) (Nat.le_of_lt HGW.out) (.bool true))
          have hki2 : (a : Int) < ((sizeC c + 1 : Nat) : Int) := by omega
          have hki3 : (b2 : Int) < ((sizeC c + 1 : Nat) : Int) := by omega
          obtain ⟨c0, c1, c2, c3, c4⟩ := blk5 E6.out
          rw [show (k : Int) + 1 - 1 - c.f0 - (c.f1.length : Int) = (m : Int) by rw [← hm]; omega]
          clear hA hB hA2 hB2 hin hgr hb hm hmk hj hNN hc1 hws
          go_upto_region 9 with (fail)
          have hx8 := (BW7.out.cell (p := ⟨(ad2.add (m * 2)).block, (ad2.add (m * 2)).off + 1, none⟩) HAD.out).trans ((BW6.out.cell (p := ⟨(ad2.add (m * 2)).block, (ad2.add (m * 2)).off + 1, none⟩) HAD.out).symm.trans hx1)
          clear hx0 hx1 c0 c1 c2 c3 c4 cA fA
          generalize w6.setCell ⟨g, a, none⟩ (.bool true) = w7 at *
          obtain ⟨c0, c1, c2, c3, c4⟩ := blk5 E7.out
          have hc1 := Kd.R_celln (n := sizeC c + 1) false RW7.out (b2 : Int) (by omega) (by omega)
          have cA : w7.cell? ⟨g, b2, none⟩ = some (.bool ((is.set a true).getD b2 false)) := by have h_ := hc1.1; rw [Int.toNat_natCast] at h_; simpa [rdOf] using h_
          have fA : w7.frozen? ⟨g, b2, none⟩ = false := by have h_ := hc1.2; rw [Int.toNat_natCast] at h_; exact h_
          have RW8 := Aside0.mk (show Kd.R Kd.bool 4 (w7.setCell ⟨g, b2, none⟩ (.bool true)) w.heap.size (fun _ => True) (.slice (some ⟨g, 0, none⟩) (sizeC c + 1) cap) ((is.set a true).set b2 true) by have h_ := Kd.R_putn RW7.out (b2 : Int) true; rw [Int.toNat_natCast] at h_; exact h_)
          have E8 := Aside0.mk (blk_far (p := ⟨g, b2, none⟩) E7.out (Nat.ne_of_lt HGW.out) (.bool true))
          have BW8 := Aside0.mk (BW7.out.setCell (p := ⟨g, b2, none⟩) (Nat.le_of_lt HGW.out) (.bool true))
          generalize (is.set a true).getD b2 false = bv at cA
          clear hc1
          go_wp2
          go_roundg k
          case measure => have := HK.out; omega
          case rel => exact ⟨k, _, rfl, ⟨by have := HK.out; omega, Nat.le_refl _⟩, HL3, BW8, E8, RW8, HI⟩
end Go.Proofs.Ytiafojcbllbepaa.PH
