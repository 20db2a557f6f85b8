/- The law TracesBad: its function answers true. -/
import Derived.Test.YtchhbkicplgmhaaHBadP
import Derived.Test.YtchhbkicplgmhaaHArgs
namespace Go.Proofs.Ytchhbkicplgmhaa.PH
open Go.RowKit Go.Proofs.YtchhbkicplgmhaaW.PrintWords Go.Proofs.YtchhbkicplgmhaaW.PrintLast
set_option linter.unusedVariables false
set_option linter.unusedSimpArgs false

/-- The boxes, the two copies of the circuit. -/
structure LB (w : World) (pc : CP) (c : Circ) (q : TP) (t : Run) (gA gB : Nat) (a b : Array Value) (wr : World) : Prop where
  I : CkInv w pc c q t wr
  BA : wr.heap[gA]? = some (.cells a 26 (0, 0))
  BB : wr.heap[gB]? = some (.cells b 26 (0, 0))
  G : w.heap.size + 2 ≤ gA ∧ w.heap.size + 2 ≤ gB ∧ gA ≠ gB
theorem LB.below {w : World} {pc : CP} {c : Circ} {q : TP} {t : Run} {gA gB : Nat} {a b : Array Value} {wr w2 : World} (h : LB w pc c q t gA gB a b wr) (hb : Below wr.heap.size wr w2) : LB w pc c q t gA gB a b w2 := ⟨h.I.below hb, blk_below h.BA hb, blk_below h.BB hb, h.G⟩
theorem CkInv.far {w : World} {pc : CP} {c : Circ} {q : TP} {t : Run} {wr : World} (h : CkInv w pc c q t wr) {g : Nat} (hg : w.heap.size + 2 ≤ g) (i : Nat) (u : Value) : CkInv w pc c q t (wr.setCell ⟨g, i, none⟩ u) :=
  ⟨below_set h.BW (by omega), blk_far h.B0 (show w.heap.size ≠ g by omega) _, blk_far h.B1 (show w.heap.size + 1 ≠ g by omega) _⟩
theorem LB.setA {w : World} {pc : CP} {c : Circ} {q : TP} {t : Run} {gA gB : Nat} {a b : Array Value} {wr : World} (h : LB w pc c q t gA gB a b wr) (i : Nat) (u : Value) : LB w pc c q t gA gB (a.setIfInBounds i u) b (wr.setCell ⟨gA, i, none⟩ u) :=
  ⟨h.I.far h.G.1 i u, blk_set h.BA i u, blk_far h.BB (fun e => h.G.2.2 e.symm) _, h.G⟩
theorem LB.setB {w : World} {pc : CP} {c : Circ} {q : TP} {t : Run} {gA gB : Nat} {a b : Array Value} {wr : World} (h : LB w pc c q t gA gB a b wr) (i : Nat) (u : Value) : LB w pc c q t gA gB a (b.setIfInBounds i u) (wr.setCell ⟨gB, i, none⟩ u) :=
  ⟨h.I.far h.G.2.1 i u, blk_far h.BA h.G.2.2 _, blk_set h.BB i u, h.G⟩
theorem LB.setA5 {w : World} {pc : CP} {c : Circ} {q : TP} {t : Run} {gA gB : Nat} {b : Array Value} {v0 v1 v2 v3 v4 : Value} {wr : World} (h : LB w pc c q t gA gB #[v0, v1, v2, v3, v4] b wr) (u0 u1 u2 u3 u4 : Value) :
    LB w pc c q t gA gB #[u0, u1, u2, u3, u4] b (((((wr.setCell ⟨gA, 0, none⟩ u0).setCell ⟨gA, 1, none⟩ u1).setCell ⟨gA, 2, none⟩ u2).setCell ⟨gA, 3, none⟩ u3).setCell ⟨gA, 4, none⟩ u4) := by
  simpa using ((((h.setA 0 u0).setA 1 u1).setA 2 u2).setA 3 u3).setA 4 u4
theorem LB.setB5 {w : World} {pc : CP} {c : Circ} {q : TP} {t : Run} {gA gB : Nat} {a : Array Value} {v0 v1 v2 v3 v4 : Value} {wr : World} (h : LB w pc c q t gA gB a #[v0, v1, v2, v3, v4] wr) (u0 u1 u2 u3 u4 : Value) :
    LB w pc c q t gA gB a #[u0, u1, u2, u3, u4] (((((wr.setCell ⟨gB, 0, none⟩ u0).setCell ⟨gB, 1, none⟩ u1).setCell ⟨gB, 2, none⟩ u2).setCell ⟨gB, 3, none⟩ u3).setCell ⟨gB, 4, none⟩ u4) := by
  simpa using ((((h.setB 0 u0).setB 1 u1).setB 2 u2).setB 3 u3).setB 4 u4
/-- What the loop has found when so many bad literals are left. -/
def wantAt (n L : Nat) (bs : List Bool) (j : Nat) : Int := if n = L then firstIdx (fun x => true == x) (bs.drop j) j else -1
theorem want_end {n L : Nat} {bs : List Bool} : wantAt n L bs bs.length = -1 := by
  unfold wantAt
  split
  · exact first_end
  · rfl
theorem want_step {n L : Nat} {bs : List Bool} {i : Nat} (hn : n = L) (hi : i < bs.length) : wantAt n L bs i = if bs[i] = true then (i : Int) else wantAt n L bs (i + 1) := by
  unfold wantAt
  rw [if_pos hn, if_pos hn, first_drop hi]
  have e : ((i : Int) + 1) = ((i + 1 : Nat) : Int) := by omega
  rw [e]
  cases bs[i] <;> rfl
set_option maxHeartbeats 16000000 in
set_option maxRecDepth 100000 in
theorem law_TracesBad (pc : CP) (c : Circ) (q : TP) (t : Run) (w : World) (hc : RC w pc c) (ht : RT w q t) (nc : c.Nums) (nt : (∀ b ∈ t.f0, True) ∧ ∀ r ∈ t.f1, ∀ b ∈ r, True) :
    Calls Try.prog 8 #[cv pc c, tv q t] w fun e w' => e = .returned (.bool true) ∧ Below w.heap.size w w' := by
  obtain ⟨A1, k1, A2, k2, A3, k3, A4, k4⟩ := pc
  obtain ⟨QA0, QC0, QA1, QC1⟩ := q
  have HR := Aside0.mk hc
  have HT := Aside0.mk ht
  have NC := Aside0.mk nc
  have I := Aside0.mk (CkInv.start w ⟨A1, k1, A2, k2, A3, k3, A4, k4⟩ c ⟨QA0, QC0, QA1, QC1⟩ t)
  have hu26 := Try.underlying26
  have hu30 := Try.underlying30
  obtain ⟨g0, g1, g2, g3, g4⟩ := (blk5w I.out.B0).1
  obtain ⟨u0, u1⟩ := (blk2t I.out.B1).1
  clear hc ht nc nt
  dsimp only [cv, tv] at *
  go_enter Try.func8, Try.ntmps8
  go_wp2_with fail
  refine (law06_fit ⟨A1, k1, A2, k2, A3, k3, A4, k4⟩ c ⟨QA0, QC0, QA1, QC1⟩ t _ (HR.out.below I.out.BW) NC.out (HT.out.below I.out.BW)).mono ?_
  rintro e w1 ⟨b, rfl, hfit, hb⟩
  have I := Aside0.mk (I.out.below hb)
  clear hb g0 g1 g2 g3 g4 u0 u1
  cases b with
  | false =>
    clear hfit
    go_wp2_with fail
    refine (law06_alive _).mono ?_
    rintro e wz ⟨rfl, hb⟩
    have B2 := Aside0.mk (I.out.BW.trans (hb.mono I.out.BW.size))
    clear hb
    go_wp2
    go_ret
    exact ⟨rfl, B2.out⟩
  | true =>
  have HFIT := Aside0.mk (hfit rfl)
  have FC := Aside0.mk (fits_of_nums NC.out HFIT.out.1)
  have HCK := Aside0.mk HFIT.out.2.2
  have HC := Aside0.mk (tCheck_ok HCK.out)
  clear hfit
  obtain ⟨g0, g1, g2, g3, g4⟩ := (blk5w I.out.B0).1
  obtain ⟨u0, u1⟩ := (blk2t I.out.B1).1
  have ID := Aside0.mk (I.out.below (below_drew (Below.refl _ _)))
  have BASE := Aside0.mk (show w.heap.size + 2 ≤ w1.heap.size from blk_lt I.out.B1)
  have BN := Aside0.mk (show (w1.drew.alloc (.cells #[.int .i64 0, .slice none 0 0, .slice none 0 0, .slice none 0 0, .slice none 0 0] 26)).heap.size = w1.heap.size + 1 by simp)
  have HS5 := Aside0.mk (show (fun w' => w'.cell? ⟨w.heap.size, 0, none⟩ = some (.int .i64 c.f0) ∧ w'.cell? ⟨w.heap.size, 1, none⟩ = some (.slice A1 c.f1.length k1) ∧ w'.cell? ⟨w.heap.size, 2, none⟩ = some (.slice A2 c.f2.length k2) ∧ w'.cell? ⟨w.heap.size, 3, none⟩ = some (.slice A3 c.f3.length k3) ∧ w'.cell? ⟨w.heap.size, 4, none⟩ = some (.slice A4 c.f4.length k4)) w1 from ⟨g0, g1, g2, g3, g4⟩)
  go_wp2
  refine start_ (n := 6) (S := (fun w' => w'.cell? ⟨w.heap.size, 0, none⟩ = some (.int .i64 c.f0) ∧ w'.cell? ⟨w.heap.size, 1, none⟩ = some (.slice A1 c.f1.length k1) ∧ w'.cell? ⟨w.heap.size, 2, none⟩ = some (.slice A2 c.f2.length k2) ∧ w'.cell? ⟨w.heap.size, 3, none⟩ = some (.slice A3 c.f3.length k3) ∧ w'.cell? ⟨w.heap.size, 4, none⟩ = some (.slice A4 c.f4.length k4))) (ds := []) #[false, false, false, false, false, false] (by kernel_rfl) rfl rfl HS5.out (fun hHeld => ?_)
  clear g0 g1 g2 g3 g4 u0 u1
  refine take_ (i := 0) (N := some 27) (v := ?_) (a' := ?_) #[true, false, false, false, false, false] rfl rfl (by kernel_rfl) (fun _ _ _ h => h) (Or.inl ⟨by rfl, ?_⟩) hHeld ?_ ?_
  rotate_left
  · rintro w' ⟨s0, s1, s2, s3, s4⟩
    go_simp
    with_reducible rfl
  rotate_left
  · simp only [Act.put, List.setIfInBounds_toArray, List.set_cons_zero, List.set_cons_succ]
    rfl
  refine take_ (i := 1) (N := some 28) (v := ?_) (a' := ?_) #[true, true, false, false, false, false] rfl rfl (by kernel_rfl) (fun _ _ _ h => h) (Or.inl ⟨by rfl, ?_⟩) hHeld ?_ ?_
  rotate_left
  · rintro w' ⟨s0, s1, s2, s3, s4⟩
    go_simp
    with_reducible rfl
  rotate_left
  · simp only [Act.put, List.setIfInBounds_toArray, List.set_cons_zero, List.set_cons_succ]
    rfl
  refine join_ (fuel' := 2) #[true, true, true, true, false, false] (fun s : Nat × Nat => [(5, .pointer (some ⟨s.1, 0, none⟩)), (6, .pointer (some ⟨s.2, 0, none⟩))]) (fun s w' => LB w ⟨A1, k1, A2, k2, A3, k3, A4, k4⟩ c ⟨QA0, QC0, QA1, QC1⟩ t s.1 s.2 #[.int .i64 0, .slice none 0 0, .slice none 0 0, .slice none 0 0, .slice none 0 0] #[.int .i64 0, .slice none 0 0, .slice none 0 0, .slice none 0 0, .slice none 0 0] w') ?hcont ?hjoin
  case hjoin =>
    intro hcont
    refine two_ (i := 2) (j := 3) (Ni := some 5) (Nj := some 6) #[true, true, true, false, false, false] #[true, true, false, true, false, false] rfl rfl rfl rfl (by kernel_rfl) (by decide) (by decide) (fun K hK => ?_) (fun K hK => ?_)
    · skip
      refine value_ (w1 := ?_) (v := ?_) (by rfl) rfl ?_ ?_
      rotate_left 2
      · go_simp
        constructor
        · rfl
        · rfl
      refine hK.out _ _ (blk5w (ID.out.below (below_alloc (Below.refl _ _) _)).B0).1 (fun hHeld => ?_)
      clear hK K
      refine norm_ (a' := ?_) ?_ ?_
      rotate_left
      · show Act.put _ (some 5) _ = _
        simp only [Act.put, List.setIfInBounds_toArray, List.set_cons_zero, List.set_cons_succ]
        rfl
      refine one_ (i := 3) (N := some 6) #[true, true, true, true, false, false] rfl rfl (by kernel_rfl) (by decide) (fun K hK => ?_)
      refine value_ (w1 := ?_) (v := ?_) (by rfl) rfl ?_ ?_
      rotate_left 2
      · go_simp
        constructor
        · rfl
        · rfl
      refine hK.out _ _ (blk5w ((ID.out.below (below_alloc (Below.refl _ _) _)).below (below_alloc (Below.refl _ _) _)).B0).1 (fun hHeld => ?_)
      clear hK K
      refine norm_ (a' := ?_) ?_ ?_
      rotate_left
      · show Act.put _ (some 6) _ = _
        simp only [Act.put, List.setIfInBounds_toArray, List.set_cons_zero, List.set_cons_succ]
        rfl
      refine norm_ ?_ (hcont (w1.heap.size, w1.heap.size + 1) _ ⟨(ID.out.below (below_alloc (Below.refl _ _) _)).below (below_alloc (Below.refl _ _) _), blk_alloc (blk_new _ _) _, BN.out ▸ blk_new _ _, BASE.out, Nat.le_succ_of_le BASE.out, by simp⟩)
      simp only [putAll, Act.put, List.setIfInBounds_toArray, List.set_cons_zero, List.set_cons_succ] <;> rfl
    · skip
      refine value_ (w1 := ?_) (v := ?_) (by rfl) rfl ?_ ?_
      rotate_left 2
      · go_simp
        constructor
        · rfl
        · rfl
      refine hK.out _ _ (blk5w (ID.out.below (below_alloc (Below.refl _ _) _)).B0).1 (fun hHeld => ?_)
      clear hK K
      refine norm_ (a' := ?_) ?_ ?_
      rotate_left
      · show Act.put _ (some 6) _ = _
        simp only [Act.put, List.setIfInBounds_toArray, List.set_cons_zero, List.set_cons_succ]
        rfl
      refine one_ (i := 2) (N := some 5) #[true, true, true, true, false, false] rfl rfl (by kernel_rfl) (by decide) (fun K hK => ?_)
      refine value_ (w1 := ?_) (v := ?_) (by rfl) rfl ?_ ?_
      rotate_left 2
      · go_simp
        constructor
        · rfl
        · rfl
      refine hK.out _ _ (blk5w ((ID.out.below (below_alloc (Below.refl _ _) _)).below (below_alloc (Below.refl _ _) _)).B0).1 (fun hHeld => ?_)
      clear hK K
      refine norm_ (a' := ?_) ?_ ?_
      rotate_left
      · show Act.put _ (some 5) _ = _
        simp only [Act.put, List.setIfInBounds_toArray, List.set_cons_zero, List.set_cons_succ]
        rfl
      refine norm_ ?_ (hcont (w1.heap.size + 1, w1.heap.size) _ ⟨(ID.out.below (below_alloc (Below.refl _ _) _)).below (below_alloc (Below.refl _ _) _), BN.out ▸ blk_new _ _, blk_alloc (blk_new _ _) _, Nat.le_succ_of_le BASE.out, BASE.out, by simp⟩)
      simp only [putAll, Act.put, List.setIfInBounds_toArray, List.set_cons_zero, List.set_cons_succ] <;> rfl
  case hcont =>
    rintro ⟨gA, gB⟩ w8 l8
    dsimp only at l8 ⊢
    have L8 := Aside0.mk l8
    clear l8 ID HS5 BASE BN I
    refine norm_ (a' := ?_) ?_ ?_
    rotate_left
    · simp only [putAll, Act.put, List.setIfInBounds_toArray, List.set_cons_zero, List.set_cons_succ]
      rfl
    obtain ⟨⟨r0, r1, r2, r3, r4⟩, y0, y1, y2, y3, y4⟩ := blk5w L8.out.BA
    refine one_ (i := 4) (N := none) #[true, true, true, true, true, false] rfl rfl (by kernel_rfl) (by decide) (fun K hK => ?_)
    refine skip_ (w1 := ?_) (by rfl) rfl ?_ ?_
    rotate_left
    · go_simp
      rfl
    have L9 := Aside0.mk (L8.out.setA5 (.int .i64 c.f0) (.slice A1 c.f1.length k1) (.slice A2 c.f2.length k2) (.slice A3 c.f3.length k3) (.slice A4 c.f4.length k4))
    generalize (((((w8.setCell ⟨gA, 0, none⟩ (.int .i64 c.f0)).setCell ⟨gA, 1, none⟩ (.slice A1 c.f1.length k1)).setCell ⟨gA, 2, none⟩ (.slice A2 c.f2.length k2)).setCell ⟨gA, 3, none⟩ (.slice A3 c.f3.length k3)).setCell ⟨gA, 4, none⟩ (.slice A4 c.f4.length k4)) = w9 at *
    clear y0 y1 y2 y3 y4 r0 r1 r2 r3 r4 L8
    obtain ⟨⟨r0, r1, r2, r3, r4⟩, y0, y1, y2, y3, y4⟩ := blk5w L9.out.BB
    refine hK.out _ _ (blk5w L9.out.I.B0).1 (fun hHeld => ?_)
    clear hK K
    refine one_ (i := 5) (N := none) #[true, true, true, true, true, true] rfl rfl (by kernel_rfl) (by decide) (fun K hK => ?_)
    refine skip_ (w1 := ?_) (by rfl) rfl ?_ ?_
    rotate_left
    · go_simp
      rfl
    have L10 := Aside0.mk (L9.out.setB5 (.int .i64 c.f0) (.slice A1 c.f1.length k1) (.slice A2 c.f2.length k2) (.slice A3 c.f3.length k3) (.slice A4 c.f4.length k4))
    generalize (((((w9.setCell ⟨gB, 0, none⟩ (.int .i64 c.f0)).setCell ⟨gB, 1, none⟩ (.slice A1 c.f1.length k1)).setCell ⟨gB, 2, none⟩ (.slice A2 c.f2.length k2)).setCell ⟨gB, 3, none⟩ (.slice A3 c.f3.length k3)).setCell ⟨gB, 4, none⟩ (.slice A4 c.f4.length k4)) = w10 at *
    clear y0 y1 y2 y3 y4 r0 r1 r2 r3 r4 L9
    refine hK.out _ _ (blk5w L10.out.I.B0).1 (fun hHeld => ?_)
    clear hK K
    refine done_ (by kernel_rfl) ?_
    clear hHeld
    obtain ⟨⟨r0, r1, r2, r3, r4⟩, y0, y1, y2, y3, y4⟩ := blk5w L10.out.BA
    have L11 := Aside0.mk (L10.out.setA 4 (.slice none 0 0))
    obtain ⟨⟨s0, s1, s2, s3, s4⟩, z0, z1, z2, z3, z4⟩ := blk5w L11.out.BB
    have L := Aside0.mk (show LB w ⟨A1, k1, A2, k2, A3, k3, A4, k4⟩ c ⟨QA0, QC0, QA1, QC1⟩ t gA gB #[.int .i64 c.f0, .slice A1 c.f1.length k1, .slice A2 c.f2.length k2, .slice A3 c.f3.length k3, .slice none 0 0] #[.int .i64 c.f0, .slice A1 c.f1.length k1, .slice A2 c.f2.length k2, .slice none 0 0, .slice A4 c.f4.length k4] _ from by simpa using L11.out.setB 3 (.slice none 0 0))
    obtain ⟨w11, hw11⟩ : ∃ W, (w10.setCell ⟨gA, 4, none⟩ (.slice none 0 0)) = W := ⟨_, rfl⟩
    rw [hw11] at L L11 s0 s1 s2 s3 s4 z0 z1 z2 z3 z4
    obtain ⟨w12, hw12⟩ : ∃ W, (w11.setCell ⟨gB, 3, none⟩ (.slice none 0 0)) = W := ⟨_, rfl⟩
    rw [hw12] at L
    clear L10 L11
    obtain ⟨⟨fa0, fa1, fa2, fa3, fa4⟩, _⟩ := blk5w L.out.BA
    obtain ⟨u0, u1⟩ := (blk2t L.out.I.B1).1
    obtain ⟨i0, hi0⟩ : ∃ i0, t.f1.length = i0 + 1 := ⟨t.f1.length - 1, by have := HC.out.2.2.1; omega⟩
    have HI0 := Aside0.mk hi0
    have HLT := Aside0.mk (show i0 < t.f1.length by omega)
    have HSL := Aside0.mk (statesOf_len c t)
    obtain ⟨n, hrn, hn1, hn2, hn3⟩ := right_spec c t HCK.out
    obtain ⟨x, hx, hw⟩ := wit_last' HCK.out hn1 hn2 hn3 hi0 HLT.out
    have HXV := Aside0.mk hx
    obtain ⟨⟨v, er⟩, hve⟩ : ∃ r, (if x < 0 then ((0 : Int), (57 : Int)) else (x, 0)) = r := ⟨_, rfl⟩
    rw [hve] at hw
    have HVE := Aside0.mk hve
    have HSO := statesC_ok HCK.out
    have C1 := Aside0.mk (fun W (hb : Below w.heap.size w W) => show Calls Try.prog 17 #[.agg #[.int .i64 c.f0, .slice A1 c.f1.length k1, .slice A2 c.f2.length k2, .slice A3 c.f3.length k3, .slice none 0 0], .agg #[.slice QA0 t.f0.length QC0, .slice QA1 t.f1.length QC1]] W (fun e w' => RetII W w' ((t.f1.length : Int), 0) e) from right_free HCK.out ▸ traces_Right ⟨A1, k1, A2, k2, A3, k3, none, 0⟩ (freeC c) ⟨QA0, QC0, QA1, QC1⟩ t W ⟨(HR.out.below hb).s1, (HR.out.below hb).s2, (HR.out.below hb).s3, RS.nil _ _ _⟩ ⟨FC.out.h1, FC.out.h2, FC.out.i0, FC.out.i1, FC.out.i2, FC.out.i3, fun y hy => by simp [freeC] at hy⟩ (HT.out.below hb))
    have C2 := Aside0.mk (fun W (hb : Below w.heap.size w W) => show Calls Try.prog 23 #[.agg #[.int .i64 c.f0, .slice A1 c.f1.length k1, .slice A2 c.f2.length k2, .slice none 0 0, .slice A4 c.f4.length k4], .agg #[.slice QA0 t.f0.length QC0, .slice QA1 t.f1.length QC1]] W (fun e w' => RetII W w' (0, 57) e) from wit_none HCK.out ▸ traces_Witness ⟨A1, k1, A2, k2, none, 0, A4, k4⟩ (noneC c) ⟨QA0, QC0, QA1, QC1⟩ t W ⟨(HR.out.below hb).s1, (HR.out.below hb).s2, RS.nil _ _ _, (HR.out.below hb).s4⟩ ⟨FC.out.h1, FC.out.h2, FC.out.i0, FC.out.i1, FC.out.i2, fun y hy => by simp [noneC] at hy, FC.out.i4⟩ (HT.out.below hb))
    have C3 := Aside0.mk (fun W (hb : Below w.heap.size w W) => show Calls Try.prog 15 #[.agg #[.int .i64 c.f0, .slice A1 c.f1.length k1, .slice A2 c.f2.length k2, .slice A3 c.f3.length k3, .slice A4 c.f4.length k4], .agg #[.slice QA0 t.f0.length QC0, .slice QA1 t.f1.length QC1]] W (fun e w' => RetSt W w' (statesOf c t, 0) e) from HSO ▸ traces_States ⟨A1, k1, A2, k2, A3, k3, A4, k4⟩ c ⟨QA0, QC0, QA1, QC1⟩ t W (HR.out.below hb) FC.out (HT.out.below hb))
    have C4 := Aside0.mk (fun W (hb : Below w.heap.size w W) => show Calls Try.prog 23 #[.agg #[.int .i64 c.f0, .slice A1 c.f1.length k1, .slice A2 c.f2.length k2, .slice A3 c.f3.length k3, .slice A4 c.f4.length k4], .agg #[.slice QA0 t.f0.length QC0, .slice QA1 t.f1.length QC1]] W (fun e w' => RetII W w' (v, er) e) from hw ▸ traces_Witness ⟨A1, k1, A2, k2, A3, k3, A4, k4⟩ c ⟨QA0, QC0, QA1, QC1⟩ t W (HR.out.below hb) FC.out (HT.out.below hb))
    have C5 := Aside0.mk (fun W (hb : Below w.heap.size w W) => show Calls Try.prog 17 #[.agg #[.int .i64 c.f0, .slice A1 c.f1.length k1, .slice A2 c.f2.length k2, .slice A3 c.f3.length k3, .slice A4 c.f4.length k4], .agg #[.slice QA0 t.f0.length QC0, .slice QA1 t.f1.length QC1]] W (fun e w' => RetII W w' ((n : Int), 0) e) from hrn ▸ traces_Right ⟨A1, k1, A2, k2, A3, k3, A4, k4⟩ c ⟨QA0, QC0, QA1, QC1⟩ t W (HR.out.below hb) FC.out (HT.out.below hb))
    clear hi0 hrn hn1 hn2 hn3 hx hw hve HSO
    clear r0 r1 r2 r3 y0 y1 y2 y3 s0 s1 s2 s4 z0 z1 z2 z4
    go_wp2_with fail
    refine (C1.out _ L.out.I.BW).mono ?_
    rintro e x1 ⟨rfl, hb⟩
    have L := Aside0.mk (L.out.below hb)
    clear hb fa0 fa1 fa2 fa3 fa4 u0 u1 r4 s3 y4 z3 hw11 hw12 C1
    obtain ⟨⟨fb0, fb1, fb2, fb3, fb4⟩, _⟩ := blk5w L.out.BB
    obtain ⟨u0, u1⟩ := (blk2t L.out.I.B1).1
    go_wp2_with fail
    refine (C2.out _ L.out.I.BW).mono ?_
    rintro e x2 ⟨rfl, hb⟩
    have L := Aside0.mk (L.out.below hb)
    clear hb fb0 fb1 fb2 fb3 fb4 u0 u1 C2
    obtain ⟨g0, g1, g2, g3, g4⟩ := (blk5w L.out.I.B0).1
    obtain ⟨u0, u1⟩ := (blk2t L.out.I.B1).1
    go_wp2_with fail
    refine (C3.out _ L.out.I.BW).mono ?_
    rintro e x3 ⟨O, oc, rfl, hrs, hb⟩
    have L := Aside0.mk (L.out.below hb)
    have R := Aside0.mk hrs
    rw [HSL.out]
    clear hb hrs g0 g1 g2 g3 g4 u0 u1 C3
    obtain ⟨g0, g1, g2, g3, g4⟩ := (blk5w L.out.I.B0).1
    obtain ⟨u0, u1⟩ := (blk2t L.out.I.B1).1
    go_wp2_with fail
    refine (C4.out _ L.out.I.BW).mono ?_
    rintro e x4 ⟨rfl, hb⟩
    have L := Aside0.mk (L.out.below hb)
    have R := Aside0.mk (R.out.below hb)
    clear hb g0 g1 g2 g3 g4 u0 u1 C4
    obtain ⟨g0, g1, g2, g3, g4⟩ := (blk5w L.out.I.B0).1
    obtain ⟨u0, u1⟩ := (blk2t L.out.I.B1).1
    go_wp2_with fail
    refine (C5.out _ L.out.I.BW).mono ?_
    rintro e x5 ⟨rfl, hb⟩
    have L := Aside0.mk (L.out.below hb)
    have R := Aside0.mk (R.out.below hb)
    clear hb g0 g1 g2 g3 g4 u0 u1 C5
    obtain ⟨g0, g1, g2, g3, g4⟩ := (blk5w L.out.I.B0).1
    obtain ⟨u0, u1⟩ := (blk2t L.out.I.B1).1
    have hlt := HLT.out
    have hkl : i0 < (statesOf c t).length := by rw [HSL.out]; exact hlt
    obtain ⟨od, Ax, cx, e0, hx, hrx⟩ := at_row R.out.r i0 hkl
    obtain ⟨bd, Ay, cy, e1, hy, hry⟩ := at_row (HT.out.below L.out.I.BW).s1.r i0 hlt
    cases e0
    rw [statesOf_at c t hkl] at hx hrx
    have HSTL := Aside0.mk (stateAt_len c HC.out.2.2.2.1 (t.f1.take i0))
    have HINS := Aside0.mk (HC.out.2.2.2.2.2 t.f1[i0] (List.getElem_mem hlt))
    generalize hst : stateAt c t.f0 (t.f1.take i0) = st at *
    generalize t.f1[i0] = ins at *
    cases e1
    have LD := Aside0.mk (L.out.below (below_drew (Below.refl _ _)))
    have HRX := Aside0.mk (hrx.below (below_drew (Below.refl _ _)))
    have HRY := Aside0.mk (hry.below (below_drew (Below.refl _ _)))
    have HSS : Aside0 ((fun w' => w'.cell? ⟨w.heap.size, 0, none⟩ = some (.int .i64 c.f0) ∧ w'.cell? ⟨w.heap.size, 1, none⟩ = some (.slice A1 c.f1.length k1) ∧ w'.cell? ⟨w.heap.size, 2, none⟩ = some (.slice A2 c.f2.length k2) ∧ w'.cell? ⟨w.heap.size, 3, none⟩ = some (.slice A3 c.f3.length k3) ∧ w'.cell? ⟨w.heap.size, 4, none⟩ = some (.slice A4 c.f4.length k4) ∧ w'.cell? (od.add i0) = some (.slice Ax st.length cx) ∧ w'.cell? ⟨w.heap.size + 1, 1, none⟩ = some (.slice (some bd) t.f1.length QC1) ∧ w'.cell? (bd.add i0) = some (.slice Ay ins.length cy)) x5) := ⟨⟨g0, g1, g2, g3, g4, hx, u1, hy⟩⟩
    have hwl : IntKind.i64.wrap ((t.f1.length : Int) - 1) = (i0 : Int) := by
      rw [i64_w, wrap_in (by omega) (by have := HC.out.2.1; omega), HI0.out]; omega
    have hbi : i0 < t.f1.length := hlt
    clear hrx hry hkl hst R
    go_wp2
    refine start_ (n := 20) (S := (fun w' => w'.cell? ⟨w.heap.size, 0, none⟩ = some (.int .i64 c.f0) ∧ w'.cell? ⟨w.heap.size, 1, none⟩ = some (.slice A1 c.f1.length k1) ∧ w'.cell? ⟨w.heap.size, 2, none⟩ = some (.slice A2 c.f2.length k2) ∧ w'.cell? ⟨w.heap.size, 3, none⟩ = some (.slice A3 c.f3.length k3) ∧ w'.cell? ⟨w.heap.size, 4, none⟩ = some (.slice A4 c.f4.length k4) ∧ w'.cell? (od.add i0) = some (.slice Ax st.length cx) ∧ w'.cell? ⟨w.heap.size + 1, 1, none⟩ = some (.slice (some bd) t.f1.length QC1) ∧ w'.cell? (bd.add i0) = some (.slice Ay ins.length cy))) (ds := []) #[false, false, false, false, false, false, false, false, false, false, false, false, false, false, false, false, false, false, false, false] (by kernel_rfl) rfl rfl HSS.out (fun hHeld => ?_)
    clear g0 g1 g2 g3 g4 u0 u1 hx hy
    refine take_ (i := 0) (N := some 85) (v := ?_) (a' := ?_) #[true, false, false, false, false, false, false, false, false, false, false, false, false, false, false, false, false, false, false, false] rfl rfl (by kernel_rfl) (fun _ _ _ h => h) (Or.inl ⟨by rfl, ?_⟩) hHeld ?_ ?_
    rotate_left
    · rintro w' ⟨s0, s1, s2, s3, s4, s5, s6, s7⟩
      go_simp
      with_reducible rfl
    rotate_left
    · simp only [Act.put, List.setIfInBounds_toArray, List.set_cons_zero, List.set_cons_succ]
      rfl
    refine pure_ (i := 1) (N := some 86) (v := ?_) (a' := ?_) #[true, true, false, false, false, false, false, false, false, false, false, false, false, false, false, false, false, false, false, false] rfl rfl (by kernel_rfl) (fun _ _ _ h => h) (Or.inl ⟨by rfl, ?_⟩) ?_ ?_
    rotate_left
    · intro w'
      go_simp
      with_reducible rfl
    rotate_left
    · simp only [Act.put, List.setIfInBounds_toArray, List.set_cons_zero, List.set_cons_succ]
      rfl
    refine pure_ (i := 2) (N := some 87) (v := ?_) (a' := ?_) #[true, true, true, false, false, false, false, false, false, false, false, false, false, false, false, false, false, false, false, false] rfl rfl (by kernel_rfl) (fun _ _ _ h => h) (Or.inl ⟨by rfl, ?_⟩) ?_ ?_
    rotate_left
    · intro w'
      go_simp
      with_reducible rfl
    rotate_left
    · simp only [Act.put, List.setIfInBounds_toArray, List.set_cons_zero, List.set_cons_succ]
      rfl
    refine pure_ (i := 3) (N := some 88) (v := ?_) (a' := ?_) #[true, true, true, true, false, false, false, false, false, false, false, false, false, false, false, false, false, false, false, false] rfl rfl (by kernel_rfl) (fun _ _ _ h => h) (Or.inl ⟨by rfl, ?_⟩) ?_ ?_
    rotate_left
    · intro w'
      go_simp
      with_reducible rfl
    rotate_left
    · simp only [Act.put, List.setIfInBounds_toArray, List.set_cons_zero, List.set_cons_succ]
      rfl
    refine pure_ (i := 4) (N := some 89) (v := ?_) (a' := ?_) #[true, true, true, true, true, false, false, false, false, false, false, false, false, false, false, false, false, false, false, false] rfl rfl (by kernel_rfl) (fun _ _ _ h => h) (Or.inl ⟨by rfl, ?_⟩) ?_ ?_
    rotate_left
    · intro w'
      go_simp
      with_reducible rfl
    rotate_left
    · simp only [Act.put, List.setIfInBounds_toArray, List.set_cons_zero, List.set_cons_succ]
      rfl
    refine take_ (i := 5) (N := some 90) (v := ?_) (a' := ?_) #[true, true, true, true, true, true, false, false, false, false, false, false, false, false, false, false, false, false, false, false] rfl rfl (by kernel_rfl) (fun _ _ _ h => h) (Or.inl ⟨by rfl, ?_⟩) hHeld ?_ ?_
    rotate_left
    · rintro w' ⟨s0, s1, s2, s3, s4, s5, s6, s7⟩
      go_simp
      with_reducible rfl
    rotate_left
    · simp only [Act.put, List.setIfInBounds_toArray, List.set_cons_zero, List.set_cons_succ]
      rfl
    refine pure_ (i := 6) (N := some 91) (v := ?_) (a' := ?_) #[true, true, true, true, true, true, true, false, false, false, false, false, false, false, false, false, false, false, false, false] rfl rfl (by kernel_rfl) (fun _ _ _ h => h) (Or.inl ⟨by rfl, ?_⟩) ?_ ?_
    rotate_left
    · intro w'
      go_simp
      with_reducible rfl
    rotate_left
    · simp only [Act.put, List.setIfInBounds_toArray, List.set_cons_zero, List.set_cons_succ]
      rfl
    refine take_ (i := 7) (N := some 92) (v := ?_) (a' := ?_) #[true, true, true, true, true, true, true, true, false, false, false, false, false, false, false, false, false, false, false, false] rfl rfl (by kernel_rfl) (fun _ _ _ h => h) (Or.inl ⟨by rfl, ?_⟩) hHeld ?_ ?_
    rotate_left
    · rintro w' ⟨s0, s1, s2, s3, s4, s5, s6, s7⟩
      go_simp
      with_reducible rfl
    rotate_left
    · simp only [Act.put, List.setIfInBounds_toArray, List.set_cons_zero, List.set_cons_succ]
      rfl
    refine pure_ (i := 8) (N := some 93) (v := ?_) (a' := ?_) #[true, true, true, true, true, true, true, true, true, false, false, false, false, false, false, false, false, false, false, false] rfl rfl (by kernel_rfl) (fun _ _ _ h => h) (Or.inl ⟨by rfl, ?_⟩) ?_ ?_
    rotate_left
    · intro w'
      go_simp
      with_reducible rfl
    rotate_left
    · simp only [Act.put, List.setIfInBounds_toArray, List.set_cons_zero, List.set_cons_succ]
      rfl
    refine pure_ (i := 9) (N := some 94) (v := ?_) (a' := ?_) #[true, true, true, true, true, true, true, true, true, true, false, false, false, false, false, false, false, false, false, false] rfl rfl (by kernel_rfl) (fun _ _ _ h => h) (Or.inl ⟨by rfl, ?_⟩) ?_ ?_
    rotate_left
    · intro w'
      go_simp
      with_reducible rfl
    rotate_left
    · simp only [Act.put, List.setIfInBounds_toArray, List.set_cons_zero, List.set_cons_succ]
      rfl
    refine pure_ (i := 10) (N := some 95) (v := ?_) (a' := ?_) #[true, true, true, true, true, true, true, true, true, true, true, false, false, false, false, false, false, false, false, false] rfl rfl (by kernel_rfl) (fun _ _ _ h => h) (Or.inl ⟨by rfl, ?_⟩) ?_ ?_
    rotate_left
    · intro w'
      go_simp
      with_reducible rfl
    rotate_left
    · simp only [Act.put, List.setIfInBounds_toArray, List.set_cons_zero, List.set_cons_succ]
      rfl
    refine take_ (i := 11) (N := some 96) (v := ?_) (a' := ?_) #[true, true, true, true, true, true, true, true, true, true, true, true, false, false, false, false, false, false, false, false] rfl rfl (by kernel_rfl) (fun _ _ _ h => h) (Or.inl ⟨by rfl, ?_⟩) hHeld ?_ ?_
    rotate_left
    · rintro w' ⟨s0, s1, s2, s3, s4, s5, s6, s7⟩
      go_simp
      with_reducible rfl
    rotate_left
    · simp only [Act.put, List.setIfInBounds_toArray, List.set_cons_zero, List.set_cons_succ]
      rfl
    refine one_ (i := 12) (N := some 97) #[true, true, true, true, true, true, true, true, true, true, true, true, true, false, false, false, false, false, false, false] rfl rfl (by kernel_rfl) (by decide) (fun K hK => ?_)
    refine goes_ Try.func30 (by kernel_rfl) rfl #[.agg #[.int .i64 c.f0, .slice A1 c.f1.length k1, .slice A2 c.f2.length k2, .slice A3 c.f3.length k3, .slice A4 c.f4.length k4], .slice Ax st.length cx, .slice Ay ins.length cy] (by rfl) rfl rfl (by simp only [List.map_toArray, List.map_cons, List.map_nil] <;> rfl) ?_
    refine (values_Props ⟨A1, k1, A2, k2, A3, k3, A4, k4⟩ c Ax cx st Ay cy ins _ (HR.out.below LD.out.I.BW) FC.out HRX.out HRY.out HC.out.1 HSTL.out HINS.out (check_lits HC.out.1).1).mono ?_
    rintro e x6 ⟨E4, ec4, rfl, hrb, hb⟩
    refine ⟨_, rfl, ?_⟩
    have HB6 := Aside0.mk hb
    have L6 := Aside0.mk (LD.out.below hb)
    have RB := Aside0.mk hrb
    clear hb hrb
    refine hK.out _ _ ⟨pw_cell_below HB6.out HSS.out.1, pw_cell_below HB6.out HSS.out.2.1, pw_cell_below HB6.out HSS.out.2.2.1, pw_cell_below HB6.out HSS.out.2.2.2.1, pw_cell_below HB6.out HSS.out.2.2.2.2.1, pw_cell_below HB6.out HSS.out.2.2.2.2.2.1, pw_cell_below HB6.out HSS.out.2.2.2.2.2.2.1, pw_cell_below HB6.out HSS.out.2.2.2.2.2.2.2⟩ (fun hHeld => ?_)
    clear hK K
    refine norm_ (a' := ?_) ?_ ?_
    rotate_left
    · show Act.put _ (some 97) _ = _
      simp only [Act.put, List.setIfInBounds_toArray, List.set_cons_zero, List.set_cons_succ]
      rfl
    refine pure_ (i := 13) (N := some 84) (v := ?_) (a' := ?_) #[true, true, true, true, true, true, true, true, true, true, true, true, true, true, false, false, false, false, false, false] rfl rfl (by kernel_rfl) (fun _ _ _ h => h) (Or.inl ⟨by rfl, ?_⟩) ?_ ?_
    rotate_left
    · intro w'
      go_simp
      with_reducible rfl
    rotate_left
    · simp only [Act.put, List.setIfInBounds_toArray, List.set_cons_zero, List.set_cons_succ]
      rfl
    refine pure_ (i := 14) (N := some 98) (v := ?_) (a' := ?_) #[true, true, true, true, true, true, true, true, true, true, true, true, true, true, true, false, false, false, false, false] rfl rfl (by kernel_rfl) (fun _ _ _ h => h) (Or.inl ⟨by rfl, ?_⟩) ?_ ?_
    rotate_left
    · intro w'
      go_simp
      with_reducible rfl
    rotate_left
    · simp only [Act.put, List.setIfInBounds_toArray, List.set_cons_zero, List.set_cons_succ]
      rfl
    refine pure_ (i := 15) (N := some 99) (v := ?_) (a' := ?_) #[true, true, true, true, true, true, true, true, true, true, true, true, true, true, true, true, false, false, false, false] rfl rfl (by kernel_rfl) (fun _ _ _ h => h) (Or.inl ⟨by rfl, ?_⟩) ?_ ?_
    rotate_left
    · intro w'
      go_simp
      with_reducible rfl
    rotate_left
    · simp only [Act.put, List.setIfInBounds_toArray, List.set_cons_zero, List.set_cons_succ]
      rfl
    refine pure_ (i := 16) (N := some 100) (v := ?_) (a' := ?_) #[true, true, true, true, true, true, true, true, true, true, true, true, true, true, true, true, true, false, false, false] rfl rfl (by kernel_rfl) (fun _ _ _ h => h) (Or.inl ⟨by rfl, ?_⟩) ?_ ?_
    rotate_left
    · intro w'
      go_simp
      with_reducible rfl
    rotate_left
    · simp only [Act.put, List.setIfInBounds_toArray, List.set_cons_zero, List.set_cons_succ]
      rfl
    refine pure_ (i := 17) (N := some 17) (v := ?_) (a' := ?_) #[true, true, true, true, true, true, true, true, true, true, true, true, true, true, true, true, true, true, false, false] rfl rfl (by kernel_rfl) (fun _ _ _ h => h) (Or.inl ⟨by rfl, ?_⟩) ?_ ?_
    rotate_left
    · intro w'
      go_simp
      with_reducible rfl
    rotate_left
    · simp only [Act.put, List.setIfInBounds_toArray, List.set_cons_zero, List.set_cons_succ]
      rfl
    refine pure_ (i := 18) (N := some 18) (v := ?_) (a' := ?_) #[true, true, true, true, true, true, true, true, true, true, true, true, true, true, true, true, true, true, true, false] rfl rfl (by kernel_rfl) (fun _ _ _ h => h) (Or.inl ⟨by rfl, ?_⟩) ?_ ?_
    rotate_left
    · intro w'
      go_simp
      with_reducible rfl
    rotate_left
    · simp only [Act.put, List.setIfInBounds_toArray, List.set_cons_zero, List.set_cons_succ]
      rfl
    refine pure_ (i := 19) (N := some 19) (v := ?_) (a' := ?_) #[true, true, true, true, true, true, true, true, true, true, true, true, true, true, true, true, true, true, true, true] rfl rfl (by kernel_rfl) (fun _ _ _ h => h) (Or.inl ⟨by rfl, ?_⟩) ?_ ?_
    rotate_left
    · intro w'
      go_simp
      with_reducible rfl
    rotate_left
    · simp only [Act.put, List.setIfInBounds_toArray, List.set_cons_zero, List.set_cons_succ]
      rfl
    refine done_ (by kernel_rfl) ?_
    clear HSS HB6 LD HRX HRY L hwl
    generalize badsOf c st ins = bs at *
    have hbm : bs.length ≤ 9223372036854775807 := by have := RB.out.max; omega
    have HBM := Aside0.mk hbm
    have hwb : wrap64 ((bs.length : Int) - 1) = (bs.length : Int) - 1 := wrap_in (by omega) (by omega)
    have HWB := Aside0.mk hwb
    clear hbm hlt hbi
    go_wp2
    clear hwb
    go_loopg [20, 21] bs.length (fun gg s20 s21 wr => ∃ (j : Nat) (k : Int), s20 = .int .i64 (wantAt n t.f1.length bs j) ∧ s21 = .int .i64 k ∧ Aside0 (k = (j : Int) - 1 ∧ j ≤ bs.length ∧ j ≤ gg) ∧ Aside0 (Below x6.heap.size x6 wr))
    case atStart => exact ⟨bs.length, _, by rw [want_end], rfl, ⟨HWB.out, Nat.le_refl _, Nat.le_refl _⟩, ⟨Below.refl _ _⟩⟩
    case round =>
      obtain ⟨j, k, rfl, rfl, HX, BW⟩ := hrel
      by_cases hc1 : 0 < j ∧ n = t.f1.length
      · obtain ⟨hj, hn⟩ := hc1
        obtain ⟨i, rfl⟩ : ∃ i, j = i + 1 := ⟨j - 1, by omega⟩
        obtain rfl : k = (i : Int) := by have := HX.out.1; omega
        have hib : i < bs.length := by have := HX.out.2.1; omega
        obtain ⟨ed, e1, hz⟩ := at_bool (RB.out.below BW.out).r i hib
        have HWS := Aside0.mk (want_step (bs := bs) hn hib)
        cases e1
        have hge : decide (0 ≤ (i : Int)) = true := decide_eq_true (by omega)
        have hnl : ((n : Int) == (t.f1.length : Int)) = true := by rw [hn]; exact beq_self_eq_true _
        have hwi : wrap64 ((i : Int) - 1) = (i : Int) - 1 := wrap_in (by omega) (by have := HBM.out; omega)
        have HWI := Aside0.mk hwi
        clear hn hj
        cases hbi : bs[i] with
        | true =>
          rw [hbi] at hz
          have HW := Aside0.mk (HWS.out.trans (if_pos hbi))
          go_wp2
          go_roundg i
          case measure => have := HX.out; omega
          case rel => exact ⟨i, _, by rw [HW.out], rfl, ⟨HWI.out, by omega, Nat.le_refl _⟩, BW⟩
        | false =>
          rw [hbi] at hz
          have HW := Aside0.mk (HWS.out.trans (if_neg (by rw [hbi]; decide)))
          go_wp2
          go_roundg i
          case measure => have := HX.out; omega
          case rel => exact ⟨i, _, by rw [HW.out], rfl, ⟨HWI.out, by omega, Nat.le_refl _⟩, BW⟩
      · have hwx : wantAt n t.f1.length bs j = x := by
          rw [HXV.out]
          unfold wantAt
          by_cases hn : n = t.f1.length
          · rw [if_pos hn, if_pos hn, show j = 0 by omega]
            rfl
          · rw [if_neg hn, if_neg hn]
        rw [hwx]
        have L7 := Aside0.mk (L6.out.below BW.out)
        have hve := HVE.out
        by_cases hxn : x < 0
        · rw [if_pos hxn, Prod.mk.injEq] at hve
          obtain ⟨rfl, rfl⟩ := hve
          have hxd : decide (x < 0) = true := decide_eq_true hxn
          by_cases hj : j = 0
          · subst hj
            obtain rfl : k = -1 := by have := HX.out.1; omega
            clear hc1 hwx hxn
            go_wp2_with fail
            refine (law06_alive _).mono ?_
            rintro e wz ⟨rfl, hb⟩
            have B2 := Aside0.mk (L7.out.I.BW.trans (hb.mono L7.out.I.BW.size))
            clear hb
            go_wp2
            go_ret
            exact ⟨rfl, B2.out⟩
          · have hnn : ¬ n = t.f1.length := by omega
            have hge : decide (0 ≤ k) = true := decide_eq_true (by have := HX.out.1; omega)
            have hnl : ((n : Int) == (t.f1.length : Int)) = false := by rw [beq_eq_false_iff_ne]; omega
            clear hc1 hwx hxn hnn
            go_wp2_with fail
            refine (law06_alive _).mono ?_
            rintro e wz ⟨rfl, hb⟩
            have B2 := Aside0.mk (L7.out.I.BW.trans (hb.mono L7.out.I.BW.size))
            clear hb
            go_wp2
            go_ret
            exact ⟨rfl, B2.out⟩
        · rw [if_neg hxn, Prod.mk.injEq] at hve
          obtain ⟨rfl, rfl⟩ := hve
          have hxd : decide (x < 0) = false := decide_eq_false hxn
          by_cases hj : j = 0
          · subst hj
            obtain rfl : k = -1 := by have := HX.out.1; omega
            clear hc1 hwx hxn
            go_wp2_with fail
            refine (law06_alive _).mono ?_
            rintro e wz ⟨rfl, hb⟩
            have B2 := Aside0.mk (L7.out.I.BW.trans (hb.mono L7.out.I.BW.size))
            clear hb
            go_wp2
            go_ret
            exact ⟨rfl, B2.out⟩
          · have hnn : ¬ n = t.f1.length := by omega
            have hge : decide (0 ≤ k) = true := decide_eq_true (by have := HX.out.1; omega)
            have hnl : ((n : Int) == (t.f1.length : Int)) = false := by rw [beq_eq_false_iff_ne]; omega
            clear hc1 hwx hxn hnn
            go_wp2_with fail
            refine (law06_alive _).mono ?_
            rintro e wz ⟨rfl, hb⟩
            have B2 := Aside0.mk (L7.out.I.BW.trans (hb.mono L7.out.I.BW.size))
            clear hb
            go_wp2
            go_ret
            exact ⟨rfl, B2.out⟩
end Go.Proofs.Ytchhbkicplgmhaa.PH