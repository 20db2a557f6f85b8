/- traces.Check. -/
import Derived.Test.YtchhbkicplgmhaaHStarts
namespace Go.Proofs.Ytchhbkicplgmhaa.PH
open Go.RowKit Go.Proofs.YtchhbkicplgmhaaW.PrintWords Go.Proofs.YtchhbkicplgmhaaW.PrintLast
set_option linter.unusedVariables false
set_option linter.unusedSimpArgs false

set_option maxHeartbeats 1000000 in
set_option maxRecDepth 100000 in
theorem traces_wrong (p : CP) (c : Circ) (g : Nat) (w : World) (hg : w.heap[g]? = some (.cells #[.int .i64 c.f0, .slice p.A1 c.f1.length p.c1, .slice p.A2 c.f2.length p.c2, .slice p.A3 c.f3.length p.c3, .slice p.A4 c.f4.length p.c4] 26 (0, 0))) :
    PRow Try.prog 43 #[.pointer (some ⟨g, 0, none⟩)] (fun l => (l.length : Int) != c.f0) w := by
  intro W B d x hb hx
  have hu26 := Try.underlying26
  obtain ⟨g0, g1, g2, g3, g4⟩ := (blk5w (blk_below hg hb)).1
  clear hg hb hx g1 g2 g3 g4
  show Calls _ _ #[.slice B x.length d, .pointer (some ⟨g, 0, none⟩)] _ _
  go_enter Try.func43, Try.ntmps43
  go_wp2
  go_ret
  exact ⟨rfl, Below.refl _ _⟩
/-- What traces.Check holds: its arguments, boxed. -/
structure CkInv (w : World) (p : CP) (c : Circ) (q : TP) (t : Run) (wr : World) : Prop where
  BW : Below w.heap.size w wr
  B0 : wr.heap[w.heap.size]? = some (.cells #[.int .i64 c.f0, .slice p.A1 c.f1.length p.c1, .slice p.A2 c.f2.length p.c2, .slice p.A3 c.f3.length p.c3, .slice p.A4 c.f4.length p.c4] 26 (0, 0))
  B1 : wr.heap[w.heap.size + 1]? = some (.cells #[.slice q.A0 t.f0.length q.c0, .slice q.A1 t.f1.length q.c1] 30 (0, 0))
theorem CkInv.below {w : World} {p : CP} {c : Circ} {q : TP} {t : Run} {wr w2 : World} (h : CkInv w p c q t wr) (hb : Below wr.heap.size wr w2) : CkInv w p c q t w2 :=
  ⟨h.BW.trans (hb.mono h.BW.size), blk_below h.B0 hb, blk_below h.B1 hb⟩
theorem CkInv.start (w : World) (p : CP) (c : Circ) (q : TP) (t : Run) : CkInv w p c q t ((w.alloc (.cells #[.int .i64 c.f0, .slice p.A1 c.f1.length p.c1, .slice p.A2 c.f2.length p.c2, .slice p.A3 c.f3.length p.c3, .slice p.A4 c.f4.length p.c4] 26)).alloc (.cells #[.slice q.A0 t.f0.length q.c0, .slice q.A1 t.f1.length q.c1] 30)) :=
  ⟨below_alloc (below_alloc (Below.refl _ _) _) _, blk_alloc (blk_new _ _) _, by simpa using blk_new (w.alloc (.cells #[.int .i64 c.f0, .slice p.A1 c.f1.length p.c1, .slice p.A2 c.f2.length p.c2, .slice p.A3 c.f3.length p.c3, .slice p.A4 c.f4.length p.c4] 26)) (.cells #[.slice q.A0 t.f0.length q.c0, .slice q.A1 t.f1.length q.c1] 30)⟩
theorem blk2t {w : World} {g : Nat} {t : TypeId} {v0 v1 : Value} (h : w.heap[g]? = some (.cells #[v0, v1] t (0, 0))) :
    (w.cell? ⟨g, 0, none⟩ = some v0 ∧ w.cell? ⟨g, 1, none⟩ = some v1) ∧ (w.frozen? ⟨g, 0, none⟩ = false ∧ w.frozen? ⟨g, 1, none⟩ = false) :=
  ⟨⟨(blk_cell h 0).trans rfl, (blk_cell h 1).trans rfl⟩, blk_frozen h 0, blk_frozen h 1⟩
set_option maxHeartbeats 4000000 in
set_option maxRecDepth 100000 in
theorem traces_Check (p : CP) (c : Circ) (q : TP) (t : Run) (w : World) (h : RC w p c) (hs : c.Fits) (ht : RT w q t) :
    Calls Try.prog 19 #[cv p c, tv q t] w fun e w' => e = .returned (.int .i64 (tCheck c t)) ∧ Below w.heap.size w w' := by
  have HR := Aside0.mk h
  have HT := Aside0.mk ht
  have HF := Aside0.mk hs
  have I := Aside0.mk (CkInv.start w p c q t)
  have hu26 := Try.underlying26
  have hu30 := Try.underlying30
  have hmf : ∀ (fn : Fn) (first cap : Array Value) (w : World), (Instr.makeFunc fn first cap).run Try.prog w = .ok (.func fn first cap) w := fun _ _ _ _ => rfl
  obtain ⟨g0, g1, g2, g3, g4⟩ := (blk5w I.out.B0).1
  obtain ⟨u0, u1⟩ := (blk2t I.out.B1).1
  obtain ⟨r, hr⟩ : ∃ r, tCheck c t = r := ⟨_, rfl⟩
  rw [hr]
  have HRR := Aside0.mk hr
  clear h hs ht hr
  go_enter Try.func19, Try.ntmps19
  go_wp2_with fail
  refine (gates_Check p c _ (HR.out.below I.out.BW) HF.out).mono ?_
  rintro e w1 ⟨rfl, hb1⟩
  have I := Aside0.mk (I.out.below hb1)
  clear hb1 g0 g1 g2 g3 g4 u0 u1
  obtain ⟨g0, g1, g2, g3, g4⟩ := (blk5w I.out.B0).1
  obtain ⟨u0, u1⟩ := (blk2t I.out.B1).1
  by_cases hc : check c = 0
  case neg =>
    have hcd : (check c != 0) = true := bne_iff_ne.mpr hc
    have HRV := Aside0.mk (show r = check c by rw [← HRR.out]; unfold tCheck; rw [if_pos hc])
    clear hc
    go_wp2
    go_ret
    exact ⟨by rw [HRV.out]; rfl, I.out.BW⟩
  rw [hc]
  have HC := Aside0.mk hc
  clear hc
  by_cases h100 : 100 < t.f1.length
  · have h100d : decide (100 < t.f1.length) = true := decide_eq_true h100
    have HRV := Aside0.mk (show r = 4 by rw [← HRR.out]; unfold tCheck; rw [if_neg (by simp [HC.out]), if_pos h100])
    go_wp2
    go_ret
    exact ⟨by rw [HRV.out]; rfl, I.out.BW⟩
  have H100 := Aside0.mk h100
  have h100d : decide (100 < t.f1.length) = false := decide_eq_false h100
  by_cases h0 : t.f1.length = 0
  · have h0d : ((t.f1.length : Int) == 0) = true := by rw [h0]; rfl
    have HRV := Aside0.mk (show r = 8 by rw [← HRR.out]; unfold tCheck; rw [if_neg (by simp [HC.out]), if_neg H100.out, if_pos h0])
    clear h0
    go_wp2
    go_ret
    exact ⟨by rw [HRV.out]; rfl, I.out.BW⟩
  have H0 := Aside0.mk h0
  have h0d : ((t.f1.length : Int) == 0) = false := by rw [beq_eq_false_iff_ne]; omega
  by_cases hl : t.f0.length = c.f1.length
  case neg =>
    have hld : ((t.f0.length : Int) != (c.f1.length : Int)) = true := bne_iff_ne.mpr (by omega)
    have HRV := Aside0.mk (show r = 8 by rw [← HRR.out]; unfold tCheck; rw [if_neg (by simp [HC.out]), if_neg H100.out, if_neg H0.out, if_pos hl])
    clear hl h0
    go_wp2
    go_ret
    exact ⟨by rw [HRV.out]; rfl, I.out.BW⟩
  have hld : ((t.f0.length : Int) != (c.f1.length : Int)) = false := bne_eq_false_iff_eq.mpr (by omega)
  have HL := Aside0.mk hl
  clear hl h0
  go_wp2_with fail
  refine (traces_starts p c q.A0 q.c0 t.f0 _ (HR.out.below I.out.BW) (HT.out.below I.out.BW).s0 HL.out).mono ?_
  rintro e w2 ⟨rfl, hb2⟩
  have I := Aside0.mk (I.out.below hb2)
  clear hb2 g0 g1 g2 g3 g4 u0 u1
  obtain ⟨g0, g1, g2, g3, g4⟩ := (blk5w I.out.B0).1
  obtain ⟨u0, u1⟩ := (blk2t I.out.B1).1
  cases hst : startsB c t.f0 with
  | false =>
    have HRV := Aside0.mk (show r = 8 by rw [← HRR.out]; unfold tCheck; rw [if_neg (by simp [HC.out]), if_neg H100.out, if_neg H0.out, if_neg (by simp [HL.out]), if_pos hst])
    clear hst
    go_wp2
    go_ret
    exact ⟨by rw [HRV.out]; rfl, I.out.BW⟩
  | true =>
  have HST := Aside0.mk hst
  clear hst
  go_wp2_with fail
  refine (slices_ContainsFunc_row q.A1 q.c1 t.f1 (fun l => (l.length : Int) != c.f0) 43 #[.pointer (some ⟨w.heap.size, 0, none⟩)] _ (HT.out.below I.out.BW).s1 (traces_wrong p c w.heap.size _ I.out.B0) (enters_fn Try.func43 rfl rfl)).mono ?_
  rintro e w3 ⟨rfl, hb3⟩
  have I := Aside0.mk (I.out.below hb3)
  clear hb3 g0 g1 g2 g3 g4 u0 u1
  cases ha : t.f1.any (fun l => (l.length : Int) != c.f0) with
  | true =>
    have HRV := Aside0.mk (show r = 8 by rw [← HRR.out]; unfold tCheck; rw [if_neg (by simp [HC.out]), if_neg H100.out, if_neg H0.out, if_neg (by simp [HL.out]), if_neg (by simp [HST.out]), if_pos ha])
    clear ha
    go_wp2
    go_ret
    exact ⟨by rw [HRV.out]; rfl, I.out.BW⟩
  | false =>
    have HRV := Aside0.mk (show r = 0 by rw [← HRR.out]; unfold tCheck; rw [if_neg (by simp [HC.out]), if_neg H100.out, if_neg H0.out, if_neg (by simp [HL.out]), if_neg (by simp [HST.out]), if_neg (by simp [ha])])
    clear ha
    go_wp2
    go_ret
    exact ⟨by rw [HRV.out]; rfl, I.out.BW⟩
end Go.Proofs.Ytchhbkicplgmhaa.PH
