/- traces.Witness. -/
import Derived.Test.YtchhbkicplgmhaaHStates
namespace Go.Proofs.Ytchhbkicplgmhaa.PH
open Go.RowKit Go.Proofs.YtchhbkicplgmhaaW.PrintWords Go.Proofs.YtchhbkicplgmhaaW.PrintLast
set_option linter.unusedVariables false
set_option linter.unusedSimpArgs false

/-- What the frame k leaves in the variable 'bad' of a run of so many frames. -/
def witN (tot : Nat) (h : List Fr) : Int :=
  match h.getLast? with
  | some f => if f.2.1 = true ∧ h.length = tot then firstIdx (fun x => true == x) f.2.2 0 else -1
  | none => -1
theorem witN_before {tot : Nat} {h : List Fr} (hl : h.length ≠ tot) : witN tot h = -1 := by
  unfold witN
  split
  · rw [if_neg (fun e => hl e.2)]
  · rfl
theorem witN_snoc {tot : Nat} {h : List Fr} {f : Fr} : witN tot (h ++ [f]) = if f.2.1 = true ∧ h.length + 1 = tot then firstIdx (fun x => true == x) f.2.2 0 else -1 := by
  unfold witN
  rw [List.getLast?_append]
  simp
/-- The cell of 'bad', and the run's box. -/
def JWit (b gt g tot : Nat) (q : TP) (t : Run) (h : List Fr) (X : Nat → Prop) (W : World) : Prop :=
  JInt b g (witN tot) h X W ∧ g ≠ gt ∧ W.heap[gt]? = some (.cells #[.slice q.A0 t.f0.length q.c0, .slice q.A1 t.f1.length q.c1] 30 (0, 0))
theorem JWit.keep {b gt g tot : Nat} {q : TP} {t : Run} : ∀ h X W W', JWit b gt g tot q t h X W → Below W.heap.size W W' → JWit b gt g tot q t h (Grow X W.heap.size W'.heap.size) W' :=
  fun h X W W' hj hb => ⟨JInt.keep h X W W' hj.1 hb, hj.2.1, blk_below hj.2.2 hb⟩
set_option maxHeartbeats 2000000 in
set_option maxRecDepth 100000 in
theorem witness_do (F : List Fr) (b gt g : Nat) (q : TP) (t : Run) (hF : F.length = t.f1.length) (hF2 : F.length ≤ 100) : Walks F 45 #[.pointer (some ⟨gt, 0, none⟩), .pointer (some ⟨g, 0, none⟩)] b (fun _ f => f.2.1) (JWit b gt g t.f1.length q t) where
  keep := JWit.keep
  eg := enters_fn Try.func45 rfl rfl
  step := fun k hk A d E e X W hgo hX hb hj hs he => by
    have hT : F.take (k + 1) = F.take k ++ [F[k]] := List.take_succ_eq_append_getElem hk
    have hL : (F.take k).length = k := by rw [List.length_take]; omega
    have hW0 : witN t.f1.length (F.take k) = -1 := witN_before (by rw [hL]; omega)
    have hW1 := witN_snoc (tot := t.f1.length) (h := F.take k) (f := F[k])
    rw [← hT, hL] at hW1
    obtain ⟨⟨j1, j2, j3⟩, j4, j5⟩ := hj
    rw [hW0] at j3
    have HJ := Aside0.mk (show b ≤ g ∧ ¬ X g ∧ g ≠ gt from ⟨j1, j2, j4⟩)
    have H3 := Aside0.mk j3
    have H5 := Aside0.mk j5
    have HE := Aside0.mk he
    have HB := Aside0.mk hb
    have HW1 := Aside0.mk hW1
    have HKL := Aside0.mk (show k < t.f1.length ∧ t.f1.length ≤ 100 by omega)
    obtain ⟨u0, u1⟩ := (blk2t j5).1
    obtain ⟨c0, f0⟩ := blk1w j3
    clear hs he hX hgo hT hL hW0 hW1 j1 j2 j3 j4 j5 hb
    generalize hf : F[k] = fr at *
    obtain ⟨st, r, bs⟩ := fr
    dsimp only at *
    show Calls _ _ #[.int .i64 (k : Int), .slice A st.length d, .bool r, .slice E bs.length e, .pointer (some ⟨gt, 0, none⟩), .pointer (some ⟨g, 0, none⟩)] _ _
    cases r with
    | false =>
      have hn := HW1.out
      rw [if_neg (by simp)] at hn
      go_enter Try.func45, Try.ntmps45
      go_wp2
      go_ret
      exact ⟨rfl, ⟨⟨HJ.out.1, HJ.out.2.1, by rw [hn]; exact H3.out⟩, HJ.out.2.2, H5.out⟩, Kept.of (Below.refl _ _)⟩
    | true =>
      have hwl : wrap64 ((t.f1.length : Int) - 1) = (t.f1.length : Int) - 1 := wrap_in (by have := HKL.out; omega) (by have := HKL.out; omega)
      by_cases hkl : k + 1 = t.f1.length
      · have hd : ((k : Int) == (t.f1.length : Int) - 1) = true := by rw [beq_iff_eq]; omega
        have hn := HW1.out
        rw [if_pos ⟨rfl, hkl⟩] at hn
        have HN := Aside0.mk hn
        clear hn hkl
        go_enter Try.func45, Try.ntmps45
        go_wp2_with fail
        refine (slices_Index_bool E e bs true _ HE.out).mono ?_
        rintro en w1 ⟨rfl, hb1⟩
        rw [← HN.out]
        have h3 := blk_below H3.out hb1
        have h5 := blk_below H5.out hb1
        have HS := Aside0.mk (show JInt b g (witN t.f1.length) (F.take (k + 1)) X (w1.setCell ⟨g, 0, none⟩ (.int .i64 (witN t.f1.length (F.take (k + 1))))) from ⟨HJ.out.1, HJ.out.2.1, by simpa using blk_set h3 0 (.int .i64 (witN t.f1.length (F.take (k + 1))))⟩)
        have HT5 := Aside0.mk (show (w1.setCell ⟨g, 0, none⟩ (.int .i64 (witN t.f1.length (F.take (k + 1))))).heap[gt]? = some (.cells #[.slice q.A0 t.f0.length q.c0, .slice q.A1 t.f1.length q.c1] 30 (0, 0)) from blk_far h5 (show gt ≠ g from fun e => HJ.out.2.2 e.symm) _)
        have HKK := Aside0.mk ((Kept.of hb1 : Kept b X W w1).trans (Kept.set (X := X) (W := w1) HJ.out.1 HJ.out.2.1 (.int .i64 (witN t.f1.length (F.take (k + 1))))))
        clear c0 f0 hb1 h5
        obtain ⟨c0, f0⟩ := blk1w h3
        clear h3
        generalize witN t.f1.length (F.take (k + 1)) = nn at *
        go_wp2
        go_ret
        exact ⟨rfl, ⟨HS.out, HJ.out.2.2, HT5.out⟩, HKK.out⟩
      · have hd : ((k : Int) == (t.f1.length : Int) - 1) = false := by rw [beq_eq_false_iff_ne]; omega
        have hn := HW1.out
        rw [if_neg (fun h => hkl h.2)] at hn
        clear hkl
        go_enter Try.func45, Try.ntmps45
        go_wp2
        go_ret
        exact ⟨rfl, ⟨⟨HJ.out.1, HJ.out.2.1, by rw [hn]; exact H3.out⟩, HJ.out.2.2, H5.out⟩, Kept.of (Below.refl _ _)⟩
/-- What traces.Witness answers. -/
def witC (c : Circ) (t : Run) : Int × Int :=
  if tCheck c t ≠ 0 then (0, tCheck c t)
  else if witN t.f1.length (walked (frames c t.f0 t.f1) (fun _ f => f.2.1) 0) < 0 then (0, 57) else (witN t.f1.length (walked (frames c t.f0 t.f1) (fun _ f => f.2.1) 0), 0)
set_option maxHeartbeats 4000000 in
set_option maxRecDepth 100000 in
theorem traces_Witness (p : CP) (c : Circ) (q : TP) (t : Run) (w : World) (h : RC w p c) (hs : c.Fits) (ht : RT w q t) :
    Calls Try.prog 23 #[cv p c, tv q t] w fun e w' => RetII w w' (witC c t) e := by
  have I := Aside0.mk (three_any w p c q t (.int .i64 (-1)) 3)
  have HW := Aside0.mk (traces_walk p c q t 45 #[.pointer (some ⟨w.heap.size + 1, 0, none⟩), .pointer (some ⟨w.heap.size + 2, 0, none⟩)] (fun _ f => f.2.1) (JWit w.heap.size (w.heap.size + 1) (w.heap.size + 2) t.f1.length q t) w _ I.out.1.BW h hs ht
    ⟨⟨by omega, fun h => h, I.out.2⟩, by omega, I.out.1.B1⟩ JWit.keep (fun hc => witness_do _ w.heap.size (w.heap.size + 1) (w.heap.size + 2) q t (frames_len _ _ _) (by rw [frames_len]; exact (tCheck_ok hc).2.1)))
  have hu26 := Try.underlying26
  have hu30 := Try.underlying30
  have hmf : ∀ (fn : Fn) (first cap : Array Value) (w : World), (Instr.makeFunc fn first cap).run Try.prog w = .ok (.func fn first cap) w := fun _ _ _ _ => rfl
  obtain ⟨g0, g1, g2, g3, g4⟩ := (blk5w I.out.1.B0).1
  obtain ⟨u0, u1⟩ := (blk2t I.out.1.B1).1
  obtain ⟨m, hm⟩ : ∃ m, witC c t = m := ⟨_, rfl⟩
  rw [hm]
  have HM := Aside0.mk hm
  clear h hs ht hm
  go_enter Try.func23, Try.ntmps23
  go_wp2_with fail
  refine HW.out.mono ?_
  rintro e w1 ⟨rfl, hb1, X, hj⟩
  have HB := Aside0.mk hb1
  obtain ⟨c0, f0⟩ := blk1w hj.1.2.2
  clear hb1 hj HW g0 g1 g2 g3 g4 u0 u1 f0
  by_cases hc : tCheck c t = 0
  · rw [hc] at c0 ⊢
    have HC := Aside0.mk hc
    clear hc
    by_cases hn : witN t.f1.length (walked (frames c t.f0 t.f1) (fun _ f => f.2.1) 0) < 0
    · have hnd : decide (witN t.f1.length (walked (frames c t.f0 t.f1) (fun _ f => f.2.1) 0) < 0) = true := decide_eq_true hn
      have HV := Aside0.mk (show m = (0, 57) by rw [← HM.out]; unfold witC; rw [if_neg (by simp [HC.out]), if_pos hn])
      clear hn
      generalize witN t.f1.length (walked (frames c t.f0 t.f1) (fun _ f => f.2.1) 0) = v at *
      go_wp2
      refine bodyPost_ret (results_tmp2 rfl _ _ _) rfl ?_
      exact ⟨by rw [HV.out]; rfl, HB.out⟩
    · have hnd : decide (witN t.f1.length (walked (frames c t.f0 t.f1) (fun _ f => f.2.1) 0) < 0) = false := decide_eq_false hn
      have HV := Aside0.mk (show m = (witN t.f1.length (walked (frames c t.f0 t.f1) (fun _ f => f.2.1) 0), 0) by rw [← HM.out]; unfold witC; rw [if_neg (by simp [HC.out]), if_neg hn])
      clear hn
      generalize witN t.f1.length (walked (frames c t.f0 t.f1) (fun _ f => f.2.1) 0) = v at *
      go_wp2
      refine bodyPost_ret (results_tmp2 rfl _ _ _) rfl ?_
      exact ⟨by rw [HV.out]; rfl, HB.out⟩
  · have hcd : (tCheck c t != 0) = true := bne_iff_ne.mpr hc
    have HV := Aside0.mk (show m = (0, tCheck c t) by rw [← HM.out]; unfold witC; rw [if_pos hc])
    clear hc
    go_wp2
    refine bodyPost_ret (results_tmp2 rfl _ _ _) rfl ?_
    exact ⟨by rw [HV.out]; rfl, HB.out⟩
end Go.Proofs.Ytchhbkicplgmhaa.PH
