/- traces.Right. -/
import Derived.Test.YtchhbkicplgmhaaHWalk
namespace Go.Proofs.Ytchhbkicplgmhaa.PH
open Go.RowKit Go.Proofs.YtchhbkicplgmhaaW.PrintWords Go.Proofs.YtchhbkicplgmhaaW.PrintLast
set_option linter.unusedVariables false
set_option linter.unusedSimpArgs false

/-- A cell of the function's own, in block g; n tells its number by the frames walked. -/
def JInt (b g : Nat) (n : List Fr → Int) (h : List Fr) (X : Nat → Prop) (W : World) : Prop := b ≤ g ∧ ¬ X g ∧ W.heap[g]? = some (.cells #[.int .i64 (n h)] 3 (0, 0))
theorem JInt.keep {b g : Nat} {n : List Fr → Int} : ∀ h X W W', JInt b g n h X W → Below W.heap.size W W' → JInt b g n h (Grow X W.heap.size W'.heap.size) W' := fun h X W W' hj hb => by
  refine ⟨hj.1, fun hx => ?_, blk_below hj.2.2 hb⟩
  rcases hx with hx | hx
  · exact hj.2.1 hx
  · have := blk_lt hj.2.2; omega
theorem blk1w {w : World} {g : Nat} {t : TypeId} {v0 : Value} (h : w.heap[g]? = some (.cells #[v0] t (0, 0))) : w.cell? ⟨g, 0, none⟩ = some v0 ∧ w.frozen? ⟨g, 0, none⟩ = false := ⟨(blk_cell h 0).trans rfl, blk_frozen h 0⟩
/-- The cell is written. -/
theorem JInt.set {b g : Nat} {n : List Fr → Int} {h : List Fr} {X : Nat → Prop} {W : World} (hj : JInt b g n h X W) (h2 : List Fr) : JInt b g n h2 X (W.setCell ⟨g, 0, none⟩ (.int .i64 (n h2))) :=
  ⟨hj.1, hj.2.1, by simpa using blk_set hj.2.2 0 (.int .i64 (n h2))⟩
theorem Kept.set {b g : Nat} {X : Nat → Prop} {W : World} (hb : b ≤ g) (hx : ¬ X g) (u : Value) : Kept b X W (W.setCell ⟨g, 0, none⟩ u) :=
  have h := Below.setCell (Below.refl b W) (p := ⟨g, 0, none⟩) hb u
  ⟨h.os, h.tape, h.output, h.size, fun k hk hq => Below.heap_setCell W ⟨g, 0, none⟩ u k (by
    rintro rfl
    rcases hq with hq | hq
    · exact absurd hb (Nat.not_le.mpr hq)
    · exact hx hq)⟩
def countR (h : List Fr) : Int := ((h.countP (fun f => f.2.1) : Nat) : Int)
theorem countR_le (h : List Fr) : 0 ≤ countR h ∧ countR h ≤ h.length := ⟨by unfold countR; omega, by unfold countR; have := List.countP_le_length (p := fun f : Fr => f.2.1) (l := h); omega⟩
set_option maxHeartbeats 1000000 in
set_option maxRecDepth 100000 in
theorem right_do (F : List Fr) (b g : Nat) (hF : F.length ≤ 9223372036854775807) : Walks F 41 #[.pointer (some ⟨g, 0, none⟩)] b (fun _ f => f.2.1) (JInt b g countR) where
  keep := JInt.keep
  eg := enters_fn Try.func41 rfl rfl
  step := fun k hk A d E e X W hgo hX hb hj hs he => by
    have hT : F.take (k + 1) = F.take k ++ [F[k]] := List.take_succ_eq_append_getElem hk
    have hC := countR_le (F.take k)
    have hL : (F.take k).length ≤ k := by rw [List.length_take]; omega
    have hN : countR (F.take (k + 1)) = if F[k].2.1 then countR (F.take k) + 1 else countR (F.take k) := by
      rw [hT]
      unfold countR
      rw [List.countP_append, List.countP_singleton]
      split <;> simp
    have HS := Aside0.mk (hj.set (F.take (k + 1)))
    have HK := Aside0.mk (Kept.set (X := X) (W := W) hj.1 hj.2.1 (.int .i64 (countR (F.take (k + 1)))))
    have HJ0 := Aside0.mk (show b ≤ g ∧ ¬ X g ∧ W.heap[g]? = some (.cells #[.int .i64 (countR (F.take k))] 3 (0, 0)) from hj)
    obtain ⟨c0, f0⟩ := blk1w hj.2.2
    have hw : wrap64 (countR (F.take k) + 1) = countR (F.take k) + 1 := wrap_in (by omega) (by omega)
    have HN := Aside0.mk hN
    have HT := Aside0.mk hT
    clear hs he hj hX hgo hT hC hL hN
    generalize countR (F.take k) = n0 at *
    generalize hf : F[k] = fr at *
    obtain ⟨st, r, bs⟩ := fr
    dsimp only at *
    show Calls _ _ #[.int .i64 (k : Int), .slice A st.length d, .bool r, .slice E bs.length e, .pointer (some ⟨g, 0, none⟩)] _ _
    cases r with
    | true =>
      have hn2 := HN.out
      rw [if_pos rfl] at hn2
      rw [hn2] at HS HK
      go_enter Try.func41, Try.ntmps41
      go_wp2
      go_ret
      exact ⟨rfl, HS.out, HK.out⟩
    | false =>
      have hn2 := HN.out
      rw [if_neg (by decide)] at hn2
      go_enter Try.func41, Try.ntmps41
      go_wp2
      go_ret
      exact ⟨rfl, ⟨HJ0.out.1, HJ0.out.2.1, by rw [hn2]; exact HJ0.out.2.2⟩, Kept.of (Below.refl _ _)⟩
/-- A number and an error come back. -/
def RetII (w w' : World) (r : Int × Int) (e : Ending) : Prop := e = .returned (.tuple #[.int .i64 r.1, .int .i64 r.2]) ∧ Below w.heap.size w w'
/-- What traces.Right answers. -/
def rightC (c : Circ) (t : Run) : Int × Int :=
  (countR (walked (frames c t.f0 t.f1) (fun _ f => f.2.1) (tCheck c t)), tCheck c t)
/-- A world with both arguments boxed and a number's cell behind them. -/
theorem three_start (w : World) (p : CP) (c : Circ) (q : TP) (t : Run) (n : Int) :
    CkInv w p c q t (((w.alloc (.cells #[.int .i64 c.f0, .slice p.A1 c.f1.length p.c1, .slice p.A2 c.f2.length p.c2, .slice p.A3 c.f3.length p.c3, .slice p.A4 c.f4.length p.c4] 26)).alloc (.cells #[.slice q.A0 t.f0.length q.c0, .slice q.A1 t.f1.length q.c1] 30)).alloc (.cells #[.int .i64 n] 3)) ∧
    (((w.alloc (.cells #[.int .i64 c.f0, .slice p.A1 c.f1.length p.c1, .slice p.A2 c.f2.length p.c2, .slice p.A3 c.f3.length p.c3, .slice p.A4 c.f4.length p.c4] 26)).alloc (.cells #[.slice q.A0 t.f0.length q.c0, .slice q.A1 t.f1.length q.c1] 30)).alloc (.cells #[.int .i64 n] 3)).heap[w.heap.size + 2]? = some (.cells #[.int .i64 n] 3 (0, 0)) :=
  ⟨(CkInv.start w p c q t).below (below_alloc (Below.refl _ _) _), by simpa using blk_new ((w.alloc (.cells #[.int .i64 c.f0, .slice p.A1 c.f1.length p.c1, .slice p.A2 c.f2.length p.c2, .slice p.A3 c.f3.length p.c3, .slice p.A4 c.f4.length p.c4] 26)).alloc (.cells #[.slice q.A0 t.f0.length q.c0, .slice q.A1 t.f1.length q.c1] 30)) (.cells #[.int .i64 n] 3)⟩
set_option maxHeartbeats 4000000 in
set_option maxRecDepth 100000 in
theorem traces_Right (p : CP) (c : Circ) (q : TP) (t : Run) (w : World) (h : RC w p c) (hs : c.Fits) (ht : RT w q t) :
    Calls Try.prog 17 #[cv p c, tv q t] w fun e w' => RetII w w' (rightC c t) e := by
  have I := Aside0.mk (three_start w p c q t 0)
  have hF : (frames c t.f0 t.f1).length ≤ 9223372036854775807 := by rw [frames_len]; exact ht.s1.max
  have HW := Aside0.mk (traces_walk p c q t 41 #[.pointer (some ⟨w.heap.size + 2, 0, none⟩)] (fun _ f => f.2.1) (JInt w.heap.size (w.heap.size + 2) countR) w _ I.out.1.BW h hs ht ⟨by omega, fun h => h, I.out.2⟩ JInt.keep (fun _ => right_do _ w.heap.size (w.heap.size + 2) hF))
  have hu26 := Try.underlying26
  have hu30 := Try.underlying30
  have hmf : ∀ (fn : Fn) (first cap : Array Value) (w : World), (Instr.makeFunc fn first cap).run Try.prog w = .ok (.func fn first cap) w := fun _ _ _ _ => rfl
  obtain ⟨g0, g1, g2, g3, g4⟩ := (blk5w I.out.1.B0).1
  obtain ⟨u0, u1⟩ := (blk2t I.out.1.B1).1
  obtain ⟨m, hm⟩ : ∃ m, rightC c t = m := ⟨_, rfl⟩
  rw [hm]
  have HM := Aside0.mk hm
  clear h hs ht hF hm
  go_enter Try.func17, Try.ntmps17
  go_wp2_with fail
  refine HW.out.mono ?_
  rintro e w1 ⟨rfl, hb1, X, hj⟩
  have HB := Aside0.mk hb1
  obtain ⟨c0, f0⟩ := blk1w hj.2.2
  clear hb1 hj HW g0 g1 g2 g3 g4 u0 u1 f0
  go_wp2
  refine bodyPost_ret (results_tmp2 rfl _ _ _) rfl ?_
  exact ⟨by rw [← HM.out]; rfl, HB.out⟩
end Go.Proofs.Ytchhbkicplgmhaa.PH
