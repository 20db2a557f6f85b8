/- traces.Cut: its function, its frames. -/
import Derived.Test.YtchhbkicplgmhaaHWitness
import Derived.Test.YtchhbkicplgmhaaHCloneB
namespace Go.Proofs.Ytchhbkicplgmhaa.PH
open Go.RowKit Go.Proofs.YtchhbkicplgmhaaW.PrintWords Go.Proofs.YtchhbkicplgmhaaW.PrintLast
set_option linter.unusedVariables false
set_option linter.unusedSimpArgs false

/-- A frame at which a run is cut. -/
def hitF (f : Fr) : Bool := f.2.1 && f.2.2.any (fun x => true == x)
def goCut (_ : Nat) (f : Fr) : Bool := f.2.1 && !f.2.2.any (fun x => true == x)
/-- What the frames leave in Cut's variable. -/
def cutN (h : List Fr) : Int :=
  match h.getLast? with
  | some f => if hitF f = true then (h.length : Int) else 0
  | none => 0
theorem cutN_snoc {h : List Fr} {f : Fr} : cutN (h ++ [f]) = if hitF f = true then ((h.length + 1 : Nat) : Int) else 0 := by
  unfold cutN
  rw [List.getLast?_append]
  simp
theorem cutN_go {F : List Fr} {k : Nat} (hk : k ≤ F.length) (h : ∀ j (hj : j < k), goCut j (F[j]'(by omega)) = true) : cutN (F.take k) = 0 := by
  cases k with
  | zero => simp [cutN]
  | succ k =>
    rw [take_at (by omega : k < F.length), cutN_snoc]
    have h1 := h k (by omega)
    rw [if_neg]
    unfold goCut at h1
    unfold hitF
    cases hr : F[k].2.1 <;> cases ha : F[k].2.2.any (fun x => true == x) <;> simp_all
set_option maxHeartbeats 2000000 in
set_option maxRecDepth 100000 in
theorem cut_do (F : List Fr) (b g : Nat) (hF2 : F.length ≤ 100) : Walks F 48 #[.pointer (some ⟨g, 0, none⟩)] b goCut (JInt b g cutN) where
  keep := JInt.keep
  eg := enters_fn Try.func48 rfl rfl
  step := fun k hk A d E e X W hgo hX hb hj hs he => by
    have hT : F.take (k + 1) = F.take k ++ [F[k]] := List.take_succ_eq_append_getElem hk
    have hL : (F.take k).length = k := by rw [List.length_take]; omega
    have hW0 : cutN (F.take k) = 0 := cutN_go (Nat.le_of_lt hk) hgo
    have hW1 := cutN_snoc (h := F.take k) (f := F[k])
    rw [← hT, hL] at hW1
    obtain ⟨j1, j2, j3⟩ := hj
    rw [hW0] at j3
    have HJ := Aside0.mk (show b ≤ g ∧ ¬ X g from ⟨j1, j2⟩)
    have H3 := Aside0.mk j3
    have HE := Aside0.mk he
    have HW1 := Aside0.mk hW1
    have hwl : wrap64 ((k : Int) + 1) = (k : Int) + 1 := wrap_in (x := (k : Int) + 1) (by omega) (by omega)
    have hk0 : ((k : Int) + 1 == 0) = false := by rw [beq_eq_false_iff_ne]; omega
    have HKC := Aside0.mk (show ((k + 1 : Nat) : Int) = (k : Int) + 1 by omega)
    obtain ⟨c0, f0⟩ := blk1w j3
    clear hs he hX hgo hT hL hW0 hW1 j1 j2 j3 hb
    generalize hf : F[k] = fr at *
    obtain ⟨st, r, bs⟩ := fr
    unfold goCut
    unfold hitF at HW1
    dsimp only at *
    show Calls _ _ #[.int .i64 (k : Int), .slice A st.length d, .bool r, .slice E bs.length e, .pointer (some ⟨g, 0, none⟩)] _ _
    cases r with
    | false =>
      have hn := HW1.out
      rw [if_neg (by simp)] at hn
      go_enter Try.func48, Try.ntmps48
      go_wp2
      go_ret
      exact ⟨rfl, ⟨HJ.out.1, HJ.out.2, by rw [hn]; exact H3.out⟩, Kept.of (Below.refl _ _)⟩
    | true =>
      go_enter Try.func48, Try.ntmps48
      go_wp2_with fail
      refine (slices_Contains_bool E e bs true _ HE.out).mono ?_
      rintro en w1 ⟨rfl, hb1⟩
      have h3 := blk_below H3.out hb1
      have HBX := Aside0.mk hb1
      clear c0 f0 hb1
      obtain ⟨c0, f0⟩ := blk1w h3
      have H31 := Aside0.mk h3
      clear h3
      cases ha : bs.any (fun x => true == x) with
      | false =>
        have hn := HW1.out
        rw [if_neg (by rw [ha]; decide)] at hn
        have HA := Aside0.mk ha
        clear ha
        go_wp2
        go_ret
        exact ⟨by rw [HA.out]; rfl, ⟨HJ.out.1, HJ.out.2, by rw [hn]; exact H31.out⟩, Kept.of HBX.out⟩
      | true =>
        have hn := HW1.out
        rw [if_pos (by rw [ha]; decide), HKC.out] at hn
        have HN := Aside0.mk hn
        have HA := Aside0.mk ha
        clear ha hn
        have HS := Aside0.mk (show JInt b g cutN (F.take (k + 1)) X (w1.setCell ⟨g, 0, none⟩ (.int .i64 ((k : Int) + 1))) from ⟨HJ.out.1, HJ.out.2, by rw [HN.out]; simpa using blk_set H31.out 0 (.int .i64 ((k : Int) + 1))⟩)
        have HKK := Aside0.mk ((Kept.of HBX.out : Kept b X W w1).trans (Kept.set (X := X) (W := w1) HJ.out.1 HJ.out.2 (.int .i64 ((k : Int) + 1))))
        have c1 : (w1.setCell ⟨g, 0, none⟩ (.int .i64 ((k : Int) + 1))).cell? ⟨g, 0, none⟩ = some (.int .i64 ((k : Int) + 1)) := (blk1w (show (w1.setCell ⟨g, 0, none⟩ (.int .i64 ((k : Int) + 1))).heap[g]? = some (.cells #[.int .i64 ((k : Int) + 1)] 3 (0, 0)) by simpa using blk_set H31.out 0 (.int .i64 ((k : Int) + 1)))).1
        go_wp2
        go_ret
        exact ⟨by rw [HA.out]; rfl, HS.out, HKK.out⟩
end Go.Proofs.Ytchhbkicplgmhaa.PH
