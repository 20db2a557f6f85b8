/- ref25.Fits. -/
import Derived.Test.YtlhiapggccgggaaHPackF
import Derived.Deep.QuietTactic
import Derived.BigQuiet
namespace Go.Proofs.Ytlhiapggccgggaa.PH
open Go.RowKit Go.Proofs.YtlhiapggccgggaaW.PrintWords Go.Proofs.YtlhiapggccgggaaW.PrintLast
set_option linter.unusedVariables false
set_option linter.unusedSimpArgs false

set_option maxHeartbeats 4000000 in
set_option maxRecDepth 100000 in
theorem ref25_Fits (p : CP) (c : Circ) (q : TP) (t : Run) (w : World) (hc : c.f1.length ≤ 4000000) (h0 : I64 c.f0) (ht : RT w q t) :
    Calls Try.prog 29 #[cv p c, tv q t] w fun e w' => e = .returned (.bool (runFits c t)) ∧ Below w.heap.size w w' := by
  have HT := Aside0.mk ht
  obtain ⟨A1, k1, A2, k2, A3, k3, A4, k4⟩ := p
  obtain ⟨F, fc, O, oc⟩ := q
  obtain ⟨R, hR⟩ : ∃ b, runFits c t = b := ⟨_, rfl⟩
  rw [hR]
  unfold runFits at hR
  have HR := Aside0.mk hR
  have HM := Aside0.mk ht.s1.max
  have HM0 := Aside0.mk ht.s0.max
  clear hR ht
  have hu26 := Try.underlying26
  have hu57 := Try.underlying57
  go_enter Try.func29, Try.ntmps29
  go_upto_region 1 with (fail)
  have HB := Aside0.mk (below_alloc (below_alloc (Below.refl w.heap.size w) (.cells #[.int .i64 c.f0, .slice A1 c.f1.length k1, .slice A2 c.f2.length k2, .slice A3 c.f3.length k3, .slice A4 c.f4.length k4] 26)) (.cells #[.slice F t.f0.length fc, .slice O t.f1.length oc] 57))
  have e0 := blk_alloc (blk_new w (.cells #[.int .i64 c.f0, .slice A1 c.f1.length k1, .slice A2 c.f2.length k2, .slice A3 c.f3.length k3, .slice A4 c.f4.length k4] 26)) (.cells #[.slice F t.f0.length fc, .slice O t.f1.length oc] 57)
  have e1 := blk_new (w.alloc (.cells #[.int .i64 c.f0, .slice A1 c.f1.length k1, .slice A2 c.f2.length k2, .slice A3 c.f3.length k3, .slice A4 c.f4.length k4] 26)) (.cells #[.slice F t.f0.length fc, .slice O t.f1.length oc] 57)
  have hz : (w.alloc (.cells #[.int .i64 c.f0, .slice A1 c.f1.length k1, .slice A2 c.f2.length k2, .slice A3 c.f3.length k3, .slice A4 c.f4.length k4] 26)).heap.size = w.heap.size + 1 := by simp
  rw [hz] at e1
  generalize (w.alloc (.cells #[.int .i64 c.f0, .slice A1 c.f1.length k1, .slice A2 c.f2.length k2, .slice A3 c.f3.length k3, .slice A4 c.f4.length k4] 26)).alloc (.cells #[.slice F t.f0.length fc, .slice O t.f1.length oc] 57) = w5 at *
  have E0 := Aside0.mk e0
  have E1 := Aside0.mk e1
  clear e0 e1 hz
  go_wp2
  go_loopg [5] t.f1.length (fun gg s5 wr => ∃ i : Nat, s5 = .int .i64 i ∧ Aside0 (i ≤ t.f1.length ∧ t.f1.length - i ≤ gg) ∧ Aside0 (Below w5.heap.size w5 wr) ∧ Aside0 (t.f1.any (fun r => (r.length : Int) != c.f0) = (t.f1.drop i).any (fun r => (r.length : Int) != c.f0)))
  case atStart => exact ⟨0, rfl, ⟨Nat.zero_le _, by omega⟩, ⟨Below.refl _ _⟩, ⟨rfl⟩⟩
  case round =>
    obtain ⟨i, rfl, HK, BW, AN⟩ := hrel
    obtain ⟨c0, c1, c2, c3, c4⟩ := blk5 (blk_below E0.out BW.out)
    have d0 := (blk_cell (blk_below E1.out BW.out) 0).trans rfl
    have d1 := (blk_cell (blk_below E1.out BW.out) 1).trans rfl
    by_cases hlt : i < t.f1.length
    · have HLT := Aside0.mk hlt
      obtain ⟨ad, B, bc, e1, hx, hrr⟩ := at_row (HT.out.below (HB.out.trans (BW.out.mono HB.out.size))).s1.r i hlt
      dsimp only at e1
      subst e1
      have hst := any_step (q := fun r : List Bool => (r.length : Int) != c.f0) hlt
      have hm := hrr.max
      generalize t.f1[i] = r at *
      have HST := Aside0.mk hst
      have hii : (i : Int) < (t.f1.length : Int) := by omega
      clear hst hrr
      cases hq : ((r.length : Int) != c.f0) with
      | true =>
        have HRW := Aside0.mk (show R = false by rw [← HR.out, AN.out, HST.out, hq]; simp)
        go_wp2
        go_quiet (fail)
        go_wp2
        go_ret
        exact ⟨by rw [HRW.out]; rfl, HB.out.trans ((BW.out.trans ((pw_below_drewN (Below.refl _ _) _).mono BW.out.size)).mono HB.out.size)⟩
      | false =>
        have HQ2 := Aside0.mk (show t.f1.any (fun r => (r.length : Int) != c.f0) = (t.f1.drop (i + 1)).any (fun r => (r.length : Int) != c.f0) by rw [AN.out, HST.out, hq]; rfl)
        go_wp2
        go_quiet (fail)
        go_wp2
        go_roundg (t.f1.length - (i + 1))
        case measure => have := HK.out; have := HLT.out; omega
        case rel => exact ⟨i + 1, val_step HLT.out HM.out, ⟨HLT.out, by have := HK.out; omega⟩, ⟨BW.out.trans ((pw_below_drewN (Below.refl _ _) _).mono BW.out.size)⟩, HQ2⟩
    · have hk : i = t.f1.length := by have := HK.out.1; omega
      have HRW := Aside0.mk (show R = (decide (t.f0.length = c.f1.length) && decide (0 < t.f1.length)) by rw [← HR.out, AN.out, hk, List.drop_length]; simp)
      clear hk
      cases hq : decide (t.f0.length = c.f1.length) with
      | true =>
        have hqe : t.f0.length = c.f1.length := of_decide_eq_true hq
        have hb1 : ((t.f0.length : Int) == (c.f1.length : Int)) = true := by simp [hqe]
        have HQ := Aside0.mk hq
        clear hq hqe
        go_wp2
        go_ret
        exact ⟨by rw [HRW.out, HQ.out]; rfl, HB.out.trans (BW.out.mono HB.out.size)⟩
      | false =>
        have hqe : ¬ t.f0.length = c.f1.length := of_decide_eq_false hq
        have hb1 : ((t.f0.length : Int) == (c.f1.length : Int)) = false := by simp; omega
        have HQ := Aside0.mk hq
        clear hq hqe
        go_wp2
        go_ret
        exact ⟨by rw [HRW.out, HQ.out]; rfl, HB.out.trans (BW.out.mono HB.out.size)⟩
end Go.Proofs.Ytlhiapggccgggaa.PH
