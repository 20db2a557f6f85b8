/- The law TracesWitnesses: its function answers true. -/
import Derived.Test.YtchhbkicplgmhaaHWitR6
import Derived.Test.YtchhbkicplgmhaaHArgs
namespace Go.Proofs.Ytchhbkicplgmhaa.PH
open Go.RowKit Go.Proofs.YtchhbkicplgmhaaW.PrintWords Go.Proofs.YtchhbkicplgmhaaW.PrintLast
set_option linter.unusedVariables false
set_option linter.unusedSimpArgs false

set_option maxHeartbeats 16000000 in
set_option maxRecDepth 100000 in
theorem law_TracesWitnesses (pc : CP) (c : Circ) (q : TP) (t : Run) (w : World) (hc : RC w pc c) (ht : RT w q t) (nc : c.Nums) (nt : (∀ b ∈ t.f0, True) ∧ ∀ r ∈ t.f1, ∀ b ∈ r, True) :
    Calls Try.prog 4 #[cv pc c, tv q t] w fun e w' => e = .returned (.bool true) ∧ Below w.heap.size w w' := by
  have HC := Aside0.mk hc
  have HT := Aside0.mk ht
  have NC := Aside0.mk nc
  have I := Aside0.mk (CkInv.start w pc c q t)
  have hu26 := Try.underlying26
  have hu30 := Try.underlying30
  obtain ⟨g0, g1, g2, g3, g4⟩ := (blk5w I.out.B0).1
  obtain ⟨u0, u1⟩ := (blk2t I.out.B1).1
  clear hc ht nc nt
  go_enter Try.func4, Try.ntmps4
  go_wp2_with fail
  refine (ref02_Great pc c _).mono ?_
  rintro e w1 ⟨rfl, hb1⟩
  have I := Aside0.mk (I.out.below hb1)
  clear hb1 g0 g1 g2 g3 g4 u0 u1
  cases hg : great c with
  | true =>
    clear hg
    go_wp2
    go_ret
    exact ⟨rfl, I.out.BW⟩
  | false =>
  have FC := Aside0.mk (fits_of_nums NC.out hg)
  clear hg
  obtain ⟨u0, u1⟩ := (blk2t I.out.B1).1
  go_wp2_with fail
  refine (ref06_Great q t _ (HT.out.below I.out.BW)).mono ?_
  rintro e w2 ⟨b, rfl, hG, hb2⟩
  have I := Aside0.mk (I.out.below hb2)
  clear hb2 u0 u1
  cases b with
  | true =>
    clear hG
    go_wp2
    go_ret
    exact ⟨rfl, I.out.BW⟩
  | false =>
  have HG := Aside0.mk (hG rfl)
  clear hG
  obtain ⟨⟨a, n⟩, hw⟩ : ∃ r, witC c t = r := ⟨_, rfl⟩
  obtain ⟨⟨R, m⟩, hk⟩ : ∃ r, cutC c t = r := ⟨_, rfl⟩
  have C1 := Aside0.mk (fun W (hb : Below w.heap.size w W) => show Calls Try.prog 23 #[cv pc c, tv q t] W (fun e w' => RetII W w' (a, n) e) from hw ▸ traces_Witness pc c q t W (HC.out.below hb) FC.out (HT.out.below hb))
  have C2 := Aside0.mk (fun W (hb : Below w.heap.size w W) => show Calls Try.prog 24 #[cv pc c, tv q t] W (fun e w' => RetII W w' (a, n) e) from hw ▸ ref06_Witness pc c q t W (HC.out.below hb) FC.out (HT.out.below hb))
  have C3 := Aside0.mk (fun W (hb : Below w.heap.size w W) => show Calls Try.prog 25 #[cv pc c, tv q t] W (fun e w' => RetTE W w' (R, m) e) from hk ▸ traces_Cut pc c q t W (HC.out.below hb) FC.out (HT.out.below hb))
  have C4 := Aside0.mk (fun W (hb : Below w.heap.size w W) => show Calls Try.prog 26 #[cv pc c, tv q t] W (fun e w' => RetTE W w' (R, m) e) from hk ▸ ref06_Cut pc c q t W (HC.out.below hb) FC.out (HT.out.below hb) (by have := HG.out.1; omega) (fun l hl => by have := HG.out.2.2 l hl; omega))
  clear hw hk
  obtain ⟨g0, g1, g2, g3, g4⟩ := (blk5w I.out.B0).1
  obtain ⟨u0, u1⟩ := (blk2t I.out.B1).1
  go_wp2_with fail
  refine (C1.out _ I.out.BW).mono ?_
  rintro e w3 ⟨rfl, hb⟩
  have I := Aside0.mk (I.out.below hb)
  clear hb g0 g1 g2 g3 g4 u0 u1 C1
  obtain ⟨g0, g1, g2, g3, g4⟩ := (blk5w I.out.B0).1
  obtain ⟨u0, u1⟩ := (blk2t I.out.B1).1
  go_wp2_with fail
  refine (C2.out _ I.out.BW).mono ?_
  rintro e w4 ⟨rfl, hb⟩
  have I := Aside0.mk (I.out.below hb)
  clear hb g0 g1 g2 g3 g4 u0 u1 C2
  obtain ⟨g0, g1, g2, g3, g4⟩ := (blk5w I.out.B0).1
  obtain ⟨u0, u1⟩ := (blk2t I.out.B1).1
  go_wp2_with fail
  refine (C3.out _ I.out.BW).mono ?_
  rintro e w5 ⟨⟨XA, XC, XB, XD⟩, rfl, hx, hb⟩
  have ha := below_alloc (Below.refl w5.heap.size w5) (.cells #[.slice XA R.f0.length XC, .slice XB R.f1.length XD] 30)
  have I := Aside0.mk ((I.out.below hb).below ha)
  have BX := Aside0.mk (blk_new w5 (.cells #[.slice XA R.f0.length XC, .slice XB R.f1.length XD] 30))
  have RX := Aside0.mk (hx.below ha)
  clear ha hx hb g0 g1 g2 g3 g4 u0 u1 C3
  obtain ⟨w6, hw6⟩ : ∃ W, w5.alloc (.cells #[.slice XA R.f0.length XC, .slice XB R.f1.length XD] 30) = W := ⟨_, rfl⟩
  rw [hw6] at I BX RX
  obtain ⟨g0, g1, g2, g3, g4⟩ := (blk5w I.out.B0).1
  obtain ⟨u0, u1⟩ := (blk2t I.out.B1).1
  go_wp2_with fail
  refine (C4.out _ I.out.BW).mono ?_
  rintro e w7 ⟨⟨YA, YC, YB, YD⟩, rfl, hy, hb⟩
  have ha := below_alloc (Below.refl w7.heap.size w7) (.cells #[.slice YA R.f0.length YC, .slice YB R.f1.length YD] 30)
  have I := Aside0.mk ((I.out.below hb).below ha)
  have BX := Aside0.mk (blk_below (blk_below BX.out hb) ha)
  have RX := Aside0.mk ((RX.out.below hb).below ha)
  have BY := Aside0.mk (blk_new w7 (.cells #[.slice YA R.f0.length YC, .slice YB R.f1.length YD] 30))
  have RY := Aside0.mk (hy.below ha)
  clear ha hy hb g0 g1 g2 g3 g4 u0 u1 C4 hw6
  obtain ⟨w8, hw8⟩ : ∃ W, w7.alloc (.cells #[.slice YA R.f0.length YC, .slice YB R.f1.length YD] 30) = W := ⟨_, rfl⟩
  rw [hw8] at I BX RX BY RY
  obtain ⟨⟨x0, x1⟩, _⟩ := blk2t BX.out
  obtain ⟨⟨y0, y1⟩, _⟩ := blk2t BY.out
  go_wp2_with fail
  refine (ref06_Same ⟨XA, XC, XB, XD⟩ R ⟨YA, YC, YB, YD⟩ R _ RX.out RY.out).mono ?_
  rintro e w9 ⟨rfl, hb⟩
  rw [decide_eq_true (rfl : R = R)]
  have B9 := Aside0.mk (I.out.BW.trans (hb.mono I.out.BW.size))
  clear hb x0 x1 y0 y1
  go_wp2
  go_ret
  exact ⟨rfl, B9.out⟩
end Go.Proofs.Ytchhbkicplgmhaa.PH
