/- traces.States. -/
import Derived.Test.YtchhbkicplgmhaaHRight
import Derived.Test.YtchhbkicplgmhaaHHeadB
namespace Go.Proofs.Ytchhbkicplgmhaa.PH
open Go.RowKit Go.Proofs.YtchhbkicplgmhaaW.PrintWords Go.Proofs.YtchhbkicplgmhaaW.PrintLast
set_option linter.unusedVariables false
set_option linter.unusedSimpArgs false

theorem infoRowB : (Try.prog.info? 27).map (fun i => (i.zero, i.size, i.bytes)) = some (some (.slice none 0 0), 1, 24) := by kernel_rfl
/-- The list of states, in a cell of the function's own; its elements' rows are the walk's. -/
def JSt (b g : Nat) (h : List Fr) (X : Nat → Prop) (W : World) : Prop := b ≤ g ∧ ¬ X g ∧ ∃ (O : Option Addr) (oc : Nat) (hs : List HeadB), hs.length = h.length ∧ W.heap[g]? = some (.cells #[.slice O h.length oc] 28 (0, 0)) ∧
  Kd.R kHdB 27 W b (fun k => k ≠ g ∧ ¬ X k) (.slice O h.length oc) hs ∧ ∀ (j : Nat) (x : HeadB) (f : Fr), hs[j]? = some x → h[j]? = some f → x.2.1 = f.1.length ∧ Kd.R Kd.bool 4 W b X (.slice x.1 x.2.1 x.2.2) f.1
theorem JSt.keep {b g : Nat} : ∀ h X W W', JSt b g h X W → Below W.heap.size W W' → JSt b g h (Grow X W.heap.size W'.heap.size) W' := fun h X W W' hj hb => by
  obtain ⟨h1, h2, O, oc, hs, h3, h4, h5, h6⟩ := hj
  have hg := blk_lt h4
  refine ⟨h1, fun hx => ?_, O, oc, hs, h3, blk_below h4 hb, Kd.R_below (Kd.R_mono (Kd.R_bound h5) (fun k hk => ⟨hk.1.1, fun hx => ?_⟩)) hb, fun j x f hx hf => ⟨(h6 j x f hx hf).1, Kd.R_mono (Kd.R_below (h6 j x f hx hf).2 hb) (fun k hk => Or.inl hk)⟩⟩
  · rcases hx with hx | hx
    · exact h2 hx
    · omega
  · have h7 := hk.2.2.1
    rcases hx with hx | hx
    · exact hk.1.2 hx
    · omega
set_option maxHeartbeats 2000000 in
set_option maxRecDepth 100000 in
theorem states_do (F : List Fr) (b g : Nat) (hF : F.length ≤ 100) : Walks F 39 #[.pointer (some ⟨g, 0, none⟩)] b (fun _ _ => true) (JSt b g) where
  keep := JSt.keep
  eg := enters_fn Try.func39 rfl rfl
  step := fun k hk A d E e X W hgo hX hb hj hs he => by
    have hT : F.take (k + 1) = F.take k ++ [F[k]] := List.take_succ_eq_append_getElem hk
    have hL : (F.take k).length = k := by rw [List.length_take]; omega
    have HT := Aside0.mk hT
    obtain ⟨h1, h2, O, oc, hd, h3, h4, h5, h6⟩ := hj
    rw [hL] at h3 h4 h5
    obtain ⟨c0, f0⟩ := blk1w h4
    have HG := Aside0.mk (show b ≤ g ∧ ¬ X g ∧ hd.length = k from ⟨h1, h2, h3⟩)
    have H4 := Aside0.mk h4
    have H5 := Aside0.mk h5
    have H6 := Aside0.mk h6
    have HS := Aside0.mk hs
    have HX := Aside0.mk hX
    have HB := Aside0.mk hb
    have HK := Aside0.mk (show k ≤ 100 by omega)
    clear hs he hX hgo hT h1 h2 h3 h4 h5 h6 hb
    generalize hf : F[k] = fr at *
    obtain ⟨st, r, bs⟩ := fr
    dsimp only at *
    have HJ := Aside0.mk (show (hd ++ [((A, st.length, d) : HeadB)]).length = k + 1 by rw [List.length_append, HG.out.2.2]; rfl)
    show Calls _ _ #[.int .i64 (k : Int), .slice A st.length d, .bool r, .slice E bs.length e, .pointer (some ⟨g, 0, none⟩)] _ _
    go_enter Try.func39, Try.ntmps39
    go_wp2_with (first | (at_builtin; go_loud (refine Kd.R_append kHdB (w0 := W) b rfl (.tmp 10) (.tmp 12) 28 27 (.slice none 0 0) 24 rfl Try.underlying28 infoRowB rfl (by decide) (by omega) (.slice O k oc) hd (A, st.length, d) [.slice A st.length d] (fun q => q ≠ g ∧ ¬ X q) (fun _ => False) rfl rfl ?aP (fun _ h => h.elim) ?aF ?aO ?aB ?aS ?aL ?_); (case aP => exact rfl); (case aF => intro q hq; exact ⟨fun e => by have := blk_lt H4.out; omega, fun hx => by have := HX.out q hx; omega⟩); (case aO => exact H5.out); (case aB => exact Below.refl _ _); (case aS => exact HB.out); (case aL => have := HG.out.2.2; have := HK.out; omega); intro v1 w6 ho hb hg hat; obtain ⟨V5, cap5, rfl, _, _⟩ := Kd.R_reads ho; rw [HJ.out] at ho ⊢; have G6 := Aside0.mk ((hg.block g (blk_lt H4.out) (fun e => (H5.out.1 g e.symm).1 rfl)).trans H4.out); have HO6 := Aside0.mk ho; have HB6 := Aside0.mk hb; have HG6 := Aside0.mk hg; have HA6 := Aside0.mk hat; clear ho hb hg hat c0 f0; obtain ⟨c6, f6⟩ := blk1w G6.out))
    go_ret
    have h5 := H5.out
    have hown := fun q (hq : (Value.slice O k oc).ownBlock = some q) => h5.1 q hq
    have hset := blk_set G6.out 0 (.slice V5 (k + 1) cap5)
    have hXo : ∀ q, X q → some q ≠ (Value.slice O k oc).ownBlock := fun q hq e => (hown q e.symm).2 hq
    have hTl : (F.take (k + 1)).length = k + 1 := by rw [HT.out, List.length_append, hL]; rfl
    refine ⟨rfl, ⟨HG.out.1, HG.out.2.1, V5, cap5, hd ++ [(A, st.length, d)], by rw [hTl, HJ.out], by rw [hTl]; simpa using hset, ?_, ?_⟩, ?_⟩
    · rw [hTl]
      have h_ := Kd.R_far (p := ⟨g, 0, none⟩) HO6.out (fun q hq => hq.1) (.slice V5 (k + 1) cap5)
      exact h_
    · intro j x f hx hf2
      rw [HT.out] at hf2
      have hmv : ∀ (y : HeadB) (l : List Bool), Kd.R Kd.bool 4 W b X (.slice y.1 y.2.1 y.2.2) l → Kd.R Kd.bool 4 (w6.setCell ⟨g, 0, none⟩ (.slice V5 (k + 1) cap5)) b X (.slice y.1 y.2.1 y.2.2) l :=
        fun y l hy => Kd.R_far (p := ⟨g, 0, none⟩) (Kd.R_grown hy HG6.out hXo) (fun q hq e => by have e2 : q = g := e; subst e2; exact HG.out.2.1 hq) _
      by_cases hjk : j < k
      · rw [List.getElem?_append_left (by rw [HG.out.2.2]; exact hjk)] at hx
        rw [List.getElem?_append_left (by rw [hL]; exact hjk)] at hf2
        have h_ := H6.out j x f hx hf2
        exact ⟨h_.1, hmv x f.1 h_.2⟩
      · rw [List.getElem?_append_right (by rw [HG.out.2.2]; omega), HG.out.2.2] at hx
        rw [List.getElem?_append_right (by rw [hL]; omega), hL] at hf2
        have hj0 : j - k = 0 := by
          cases hjj : j - k with
          | zero => rfl
          | succ m => rw [hjj] at hx; simp at hx
        rw [hj0] at hx hf2
        have ex : ((A, st.length, d) : HeadB) = x := by simpa using hx
        have ef : ((st, r, bs) : Fr) = f := by simpa using hf2
        subst ex
        subst ef
        exact ⟨rfl, hmv (A, st.length, d) st HS.out⟩
    · refine ⟨HG6.out.os, HG6.out.tape, HG6.out.output, ?_, fun q hq hx => ?_⟩
      · exact Nat.le_trans HG6.out.size (Below.setCell (Below.refl b w6) (p := ⟨g, 0, none⟩) HG.out.1 _).size
      · have hqg : q ≠ g := by
          rintro rfl
          rcases hx with hx | hx
          · have := HG.out.1; omega
          · exact HG.out.2.1 hx
        have hqo : some q ≠ (Value.slice O k oc).ownBlock := by
          rcases hx with hx | hx
          · intro e
            have := own_base (Kd.R_own h5).choose_spec q e.symm
            omega
          · exact hXo q hx
        exact (Below.heap_setCell w6 ⟨g, 0, none⟩ _ q hqg).trans (HG6.out.block q hq hqo)
/-- A list of states and an error come back. -/
def RetSt (w w' : World) (r : List (List Bool) × Int) (e : Ending) : Prop := ∃ O oc, e = .returned (.tuple #[.slice O r.1.length oc, .int .i64 r.2]) ∧ RS (Kd.slice 4 Kd.bool) w' O oc r.1 ∧ Below w.heap.size w w'
/-- What traces.States answers. -/
def statesC (c : Circ) (t : Run) : List (List Bool) × Int := ((walked (frames c t.f0 t.f1) (fun _ _ => true) (tCheck c t)).map (fun f => f.1), tCheck c t)
theorem JSt.rows {b g : Nat} {h : List Fr} {X : Nat → Prop} {W : World} (hj : JSt b g h X W) : ∃ O oc, W.heap[g]? = some (.cells #[.slice O h.length oc] 28 (0, 0)) ∧ RS (Kd.slice 4 Kd.bool) W O oc (h.map (fun f => f.1)) := by
  obtain ⟨_, _, O, oc, hs, h3, h4, h5, h6⟩ := hj
  refine ⟨O, oc, h4, HdB.to (RS.of_R' h5) ⟨by rw [List.length_map]; exact h3, fun j x y hx hy => ?_⟩⟩
  rw [List.getElem?_map] at hy
  cases hf : h[j]? with
  | none => rw [hf] at hy; cases hy
  | some f =>
    rw [hf] at hy
    have e : f.1 = y := by simpa using hy
    subst e
    have h_ := h6 j x f hx hf
    exact ⟨h_.1, RS.of_R' h_.2⟩
theorem three_any (w : World) (p : CP) (c : Circ) (q : TP) (t : Run) (v : Value) (ty : TypeId) :
    CkInv w p c q t (((w.alloc (.cells #[.int .i64 c.f0, .slice p.A1 c.f1.length p.c1, .slice p.A2 c.f2.length p.c2, .slice p.A3 c.f3.length p.c3, .slice p.A4 c.f4.length p.c4] 26)).alloc (.cells #[.slice q.A0 t.f0.length q.c0, .slice q.A1 t.f1.length q.c1] 30)).alloc (.cells #[v] ty)) ∧
    (((w.alloc (.cells #[.int .i64 c.f0, .slice p.A1 c.f1.length p.c1, .slice p.A2 c.f2.length p.c2, .slice p.A3 c.f3.length p.c3, .slice p.A4 c.f4.length p.c4] 26)).alloc (.cells #[.slice q.A0 t.f0.length q.c0, .slice q.A1 t.f1.length q.c1] 30)).alloc (.cells #[v] ty)).heap[w.heap.size + 2]? = some (.cells #[v] ty (0, 0)) :=
  ⟨(CkInv.start w p c q t).below (below_alloc (Below.refl _ _) _), by simpa using blk_new ((w.alloc (.cells #[.int .i64 c.f0, .slice p.A1 c.f1.length p.c1, .slice p.A2 c.f2.length p.c2, .slice p.A3 c.f3.length p.c3, .slice p.A4 c.f4.length p.c4] 26)).alloc (.cells #[.slice q.A0 t.f0.length q.c0, .slice q.A1 t.f1.length q.c1] 30)) (.cells #[v] ty)⟩
set_option maxHeartbeats 4000000 in
set_option maxRecDepth 100000 in
theorem traces_States (p : CP) (c : Circ) (q : TP) (t : Run) (w : World) (h : RC w p c) (hs : c.Fits) (ht : RT w q t) :
    Calls Try.prog 15 #[cv p c, tv q t] w fun e w' => RetSt w w' (statesC c t) e := by
  have I := Aside0.mk (three_any w p c q t (.slice none 0 0) 28)
  have HW := Aside0.mk (traces_walk p c q t 39 #[.pointer (some ⟨w.heap.size + 2, 0, none⟩)] (fun _ _ => true) (JSt w.heap.size (w.heap.size + 2)) w _ I.out.1.BW h hs ht
    ⟨by omega, fun h => h, none, 0, [], rfl, I.out.2, Kd.R_nil _ _ _ _ _, fun j x f hx _ => by simp at hx⟩ JSt.keep (fun hc => states_do _ w.heap.size (w.heap.size + 2) (by rw [frames_len]; exact (tCheck_ok hc).2.1)))
  have hu26 := Try.underlying26
  have hu30 := Try.underlying30
  have hmf : ∀ (fn : Fn) (first cap : Array Value) (w : World), (Instr.makeFunc fn first cap).run Try.prog w = .ok (.func fn first cap) w := fun _ _ _ _ => rfl
  obtain ⟨g0, g1, g2, g3, g4⟩ := (blk5w I.out.1.B0).1
  obtain ⟨u0, u1⟩ := (blk2t I.out.1.B1).1
  obtain ⟨m, hm⟩ : ∃ m, statesC c t = m := ⟨_, rfl⟩
  rw [hm]
  have HM := Aside0.mk hm
  clear h hs ht hm
  go_enter Try.func15, Try.ntmps15
  go_wp2_with fail
  refine HW.out.mono ?_
  rintro e w1 ⟨rfl, hb1, X, hj⟩
  have HB := Aside0.mk hb1
  obtain ⟨O, oc, hblk, hrs⟩ := hj.rows
  have HRS := Aside0.mk hrs
  obtain ⟨c0, f0⟩ := blk1w hblk
  clear hb1 hj HW g0 g1 g2 g3 g4 u0 u1 f0 hrs hblk
  go_wp2
  refine bodyPost_ret (results_tmp2 rfl _ _ _) rfl ?_
  exact ⟨O, oc, by rw [← HM.out, statesC, List.length_map]; rfl, by rw [← HM.out]; exact HRS.out, HB.out⟩
end Go.Proofs.Ytchhbkicplgmhaa.PH
