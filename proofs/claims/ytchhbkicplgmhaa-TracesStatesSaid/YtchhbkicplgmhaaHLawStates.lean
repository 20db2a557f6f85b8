/- The law TracesStates: its function answers true. -/
import Derived.Test.YtchhbkicplgmhaaHTwin6
import Derived.Test.YtchhbkicplgmhaaHArgs
namespace Go.Proofs.Ytchhbkicplgmhaa.PH
open Go.RowKit Go.Proofs.YtchhbkicplgmhaaW.PrintWords Go.Proofs.YtchhbkicplgmhaaW.PrintLast
set_option linter.unusedVariables false
set_option linter.unusedSimpArgs false

theorem nums_fits {c : Circ} (h : c.Nums) (hg : great c = false) : c.Fits := by
  unfold great at hg
  simp only [Bool.or_eq_false_iff, decide_eq_false_iff_not] at hg
  exact ⟨by omega, by omega, h.i0, h.i1, h.i2, h.i3, h.i4⟩
/-- The boxes of the circuit and the run, and a copy of the run. -/
structure LS (w : World) (pc : CP) (c : Circ) (q : TP) (t : Run) (gW : Nat) (qo : TP) (wr : World) : Prop where
  I : CkInv w pc c q t wr
  BO : wr.heap[gW]? = some (.cells #[.slice qo.A0 t.f0.length qo.c0, .slice qo.A1 t.f1.length qo.c1] 30 (0, 0))
  RO : RT wr qo t
theorem LS.below {w : World} {pc : CP} {c : Circ} {q : TP} {t : Run} {gW : Nat} {qo : TP} {wr w2 : World} (h : LS w pc c q t gW qo wr) (hb : Below wr.heap.size wr w2) : LS w pc c q t gW qo w2 :=
  ⟨h.I.below hb, blk_below h.BO hb, h.RO.below hb⟩
def LSS (w : World) (pc : CP) (c : Circ) (q : TP) (t : Run) (gW : Nat) (qo : TP) (w' : World) : Prop :=
  w'.cell? ⟨w.heap.size, 0, none⟩ = some (.int .i64 c.f0) ∧ w'.cell? ⟨w.heap.size, 1, none⟩ = some (.slice pc.A1 c.f1.length pc.c1) ∧ w'.cell? ⟨w.heap.size, 2, none⟩ = some (.slice pc.A2 c.f2.length pc.c2) ∧ w'.cell? ⟨w.heap.size, 3, none⟩ = some (.slice pc.A3 c.f3.length pc.c3) ∧ w'.cell? ⟨w.heap.size, 4, none⟩ = some (.slice pc.A4 c.f4.length pc.c4) ∧
  w'.cell? ⟨gW, 0, none⟩ = some (.slice qo.A0 t.f0.length qo.c0) ∧ w'.cell? ⟨gW, 1, none⟩ = some (.slice qo.A1 t.f1.length qo.c1) ∧ w'.cell? ⟨w.heap.size + 1, 0, none⟩ = some (.slice q.A0 t.f0.length q.c0) ∧ w'.cell? ⟨w.heap.size + 1, 1, none⟩ = some (.slice q.A1 t.f1.length q.c1)
theorem LS.cells {w : World} {pc : CP} {c : Circ} {q : TP} {t : Run} {gW : Nat} {qo : TP} {wr : World} (h : LS w pc c q t gW qo wr) : LSS w pc c q t gW qo wr :=
  have a := (blk5w h.I.B0).1
  ⟨a.1, a.2.1, a.2.2.1, a.2.2.2.1, a.2.2.2.2, (blk2t h.BO).1.1, (blk2t h.BO).1.2, (blk2t h.I.B1).1.1, (blk2t h.I.B1).1.2⟩
set_option maxHeartbeats 16000000 in
set_option maxRecDepth 100000 in
theorem law_TracesStates (pc : CP) (c : Circ) (D : Option Addr × Nat) (st : List Bool) (q : TP) (t : Run) (w : World) (hc : RC w pc c) (hs : RS Kd.bool w D.1 D.2 st) (ht : RT w q t) (nc : c.Nums) (ns : ∀ x ∈ st, True) (nt : (∀ b ∈ t.f0, True) ∧ ∀ r ∈ t.f1, ∀ b ∈ r, True) :
    Calls Try.prog 3 #[cv pc c, .slice D.1 st.length D.2, tv q t] w fun e w' => e = .returned (.bool true) ∧ Below w.heap.size w w' := by
  obtain ⟨D, d⟩ := D
  dsimp only at hs
  have HC := Aside0.mk hc
  have HS := Aside0.mk hs
  have HT := Aside0.mk ht
  have NC := Aside0.mk nc
  have I := Aside0.mk (CkInv.start w pc c q t)
  have hu26 := Try.underlying26
  have hu30 := Try.underlying30
  obtain ⟨g0, g1, g2, g3, g4⟩ := (blk5w I.out.B0).1
  obtain ⟨u0, u1⟩ := (blk2t I.out.B1).1
  clear hc hs ht nc ns nt
  go_enter Try.func3, Try.ntmps3
  go_wp2_with fail
  refine (ref02_Great pc c _).mono ?_
  rintro e w1 ⟨rfl, hb1⟩
  have I := Aside0.mk (I.out.below hb1)
  clear hb1 g0 g1 g2 g3 g4 u0 u1
  cases hg : great c with
  | true =>
    clear hg
    go_wp2
    go_ret
    exact ⟨rfl, I.out.BW⟩
  | false =>
  have FC := Aside0.mk (nums_fits NC.out hg)
  clear hg
  by_cases h60 : 60 < st.length
  · have h60d : decide (60 < (st.length : Int)) = true := decide_eq_true (by omega)
    clear h60
    go_wp2
    go_ret
    exact ⟨rfl, I.out.BW⟩
  have h60d : decide (60 < (st.length : Int)) = false := decide_eq_false (by omega)
  clear h60
  obtain ⟨u0, u1⟩ := (blk2t I.out.B1).1
  go_wp2_with fail
  refine (ref06_Great q t _ (HT.out.below I.out.BW)).mono ?_
  rintro e w2 ⟨b, rfl, hG, hb2⟩
  have I := Aside0.mk (I.out.below hb2)
  clear hb2 u0 u1
  cases b with
  | true =>
    clear hG
    go_wp2
    go_ret
    exact ⟨rfl, I.out.BW⟩
  | false =>
  have HG := Aside0.mk (hG rfl)
  clear hG
  obtain ⟨u0, u1⟩ := (blk2t I.out.B1).1
  go_wp2_with fail
  refine (ref06_Twin q t _ (HT.out.below I.out.BW) (by have := HG.out.1; omega) (by have := HG.out.2.1; omega) (fun l hl => by have := HG.out.2.2 l hl; omega)).mono ?_
  rintro e w3 ⟨qo, rfl, ho, hb3⟩
  have hx := below_alloc (Below.refl w3.heap.size w3) (.cells #[.slice qo.A0 t.f0.length qo.c0, .slice qo.A1 t.f1.length qo.c1] 30)
  have L := Aside0.mk (show LS w pc c q t w3.heap.size qo (w3.alloc (.cells #[.slice qo.A0 t.f0.length qo.c0, .slice qo.A1 t.f1.length qo.c1] 30)) from ⟨(I.out.below hb3).below hx, blk_new _ _, ho.rt.below hx⟩)
  clear hb3 hx ho I u0 u1
  obtain ⟨⟨b0, n0⟩, hfb⟩ : ∃ r, firstB c st = r := ⟨_, rfl⟩
  obtain ⟨⟨S, n1⟩, hst⟩ : ∃ r, statesC c t = r := ⟨_, rfl⟩
  obtain ⟨⟨m, n2⟩, hrt⟩ : ∃ r, rightC c t = r := ⟨_, rfl⟩
  obtain ⟨n3, hck⟩ : ∃ r, tCheck c t = r := ⟨_, rfl⟩
  have C1 := Aside0.mk (fun W (hb : Below w.heap.size w W) => show Calls Try.prog 13 #[cv pc c, .slice D st.length d] W (fun e w' => RetBI W w' (b0, n0) e) from hfb ▸ traces_First pc c D d st W (HC.out.below hb) FC.out (HS.out.below hb))
  have C2 := Aside0.mk (fun W (hb : Below w.heap.size w W) => show Calls Try.prog 14 #[cv pc c, .slice D st.length d] W (fun e w' => RetBI W w' (b0, n0) e) from hfb ▸ ref06_First pc c D d st W (HC.out.below hb) FC.out (HS.out.below hb))
  have C3 := Aside0.mk (fun W (hb : Below w.heap.size w W) (hr : RT W qo t) => show Calls Try.prog 15 #[cv pc c, tv qo t] W (fun e w' => RetSt W w' (S, n1) e) from hst ▸ traces_States pc c qo t W (HC.out.below hb) FC.out hr)
  have C4 := Aside0.mk (fun W (hb : Below w.heap.size w W) => show Calls Try.prog 16 #[cv pc c, tv q t] W (fun e w' => RetSt W w' (S, n1) e) from hst ▸ ref06_States pc c q t W (HC.out.below hb) FC.out (HT.out.below hb))
  have C5 := Aside0.mk (fun W (hb : Below w.heap.size w W) (hr : RT W qo t) => show Calls Try.prog 17 #[cv pc c, tv qo t] W (fun e w' => RetII W w' (m, n2) e) from hrt ▸ traces_Right pc c qo t W (HC.out.below hb) FC.out hr)
  have C6 := Aside0.mk (fun W (hb : Below w.heap.size w W) => show Calls Try.prog 18 #[cv pc c, tv q t] W (fun e w' => RetII W w' (m, n2) e) from hrt ▸ ref06_Right pc c q t W (HC.out.below hb) FC.out (HT.out.below hb))
  have C7 := Aside0.mk (fun W (hb : Below w.heap.size w W) (hr : RT W qo t) => show Calls Try.prog 19 #[cv pc c, tv qo t] W (fun e w' => e = .returned (.int .i64 n3) ∧ Below W.heap.size W w') from hck ▸ traces_Check pc c qo t W (HC.out.below hb) FC.out hr)
  have C8 := Aside0.mk (fun W (hb : Below w.heap.size w W) => show Calls Try.prog 20 #[cv pc c, tv q t] W (fun e w' => e = .returned (.int .i64 n3) ∧ Below W.heap.size W w') from hck ▸ ref06_Check pc c q t W (HC.out.below hb) FC.out (HT.out.below hb))
  clear hfb hst hrt hck
  obtain ⟨g0, g1, g2, g3, g4, o0, o1, u0, u1⟩ := L.out.cells
  go_wp2_with fail
  refine (C1.out _ L.out.I.BW).mono ?_
  rintro e v1 ⟨rfl, hb⟩
  have L := Aside0.mk (L.out.below hb)
  clear hb g0 g1 g2 g3 g4 o0 o1 u0 u1
  obtain ⟨g0, g1, g2, g3, g4, o0, o1, u0, u1⟩ := L.out.cells
  go_wp2_with fail
  refine (C2.out _ L.out.I.BW).mono ?_
  rintro e v2 ⟨rfl, hb⟩
  have L := Aside0.mk (L.out.below hb)
  clear hb g0 g1 g2 g3 g4 o0 o1 u0 u1
  obtain ⟨g0, g1, g2, g3, g4, o0, o1, u0, u1⟩ := L.out.cells
  go_wp2_with fail
  refine (C3.out _ L.out.I.BW L.out.RO).mono ?_
  rintro e v3 ⟨O1, oc1, rfl, hrs, hb⟩
  have L := Aside0.mk (L.out.below hb)
  have R1 := Aside0.mk hrs
  clear hb g0 g1 g2 g3 g4 o0 o1 u0 u1 hrs
  obtain ⟨g0, g1, g2, g3, g4, o0, o1, u0, u1⟩ := L.out.cells
  go_wp2_with fail
  refine (C4.out _ L.out.I.BW).mono ?_
  rintro e v4 ⟨O2, oc2, rfl, hrs, hb⟩
  have L := Aside0.mk (L.out.below hb)
  have R1 := Aside0.mk (R1.out.below hb)
  have R2 := Aside0.mk hrs
  clear hb g0 g1 g2 g3 g4 o0 o1 u0 u1 hrs
  obtain ⟨g0, g1, g2, g3, g4, o0, o1, u0, u1⟩ := L.out.cells
  go_wp2_with fail
  refine (C5.out _ L.out.I.BW L.out.RO).mono ?_
  rintro e v5 ⟨rfl, hb⟩
  have L := Aside0.mk (L.out.below hb)
  have R1 := Aside0.mk (R1.out.below hb)
  have R2 := Aside0.mk (R2.out.below hb)
  clear hb g0 g1 g2 g3 g4 o0 o1 u0 u1
  obtain ⟨g0, g1, g2, g3, g4, o0, o1, u0, u1⟩ := L.out.cells
  go_wp2_with fail
  refine (C6.out _ L.out.I.BW).mono ?_
  rintro e v6 ⟨rfl, hb⟩
  have L := Aside0.mk (L.out.below hb)
  have R1 := Aside0.mk (R1.out.below hb)
  have R2 := Aside0.mk (R2.out.below hb)
  clear hb g0 g1 g2 g3 g4 o0 o1 u0 u1
  generalize w3.heap.size = gW at *
  have hb0 : (b0 == b0) = true := beq_self_eq_true b0
  go_wp2
  have L := Aside0.mk (L.out.below (below_drew (Below.refl _ _)))
  have R1 := Aside0.mk (R1.out.below (below_drew (Below.refl _ _)))
  have R2 := Aside0.mk (R2.out.below (below_drew (Below.refl _ _)))
  refine start_ (n := 43) (S := (fun w' => w'.cell? ⟨w.heap.size, 0, none⟩ = some (.int .i64 c.f0) ∧ w'.cell? ⟨w.heap.size, 1, none⟩ = some (.slice pc.A1 c.f1.length pc.c1) ∧ w'.cell? ⟨w.heap.size, 2, none⟩ = some (.slice pc.A2 c.f2.length pc.c2) ∧ w'.cell? ⟨w.heap.size, 3, none⟩ = some (.slice pc.A3 c.f3.length pc.c3) ∧ w'.cell? ⟨w.heap.size, 4, none⟩ = some (.slice pc.A4 c.f4.length pc.c4) ∧ w'.cell? ⟨gW, 0, none⟩ = some (.slice qo.A0 t.f0.length qo.c0) ∧ w'.cell? ⟨gW, 1, none⟩ = some (.slice qo.A1 t.f1.length qo.c1) ∧ w'.cell? ⟨w.heap.size + 1, 0, none⟩ = some (.slice q.A0 t.f0.length q.c0) ∧ w'.cell? ⟨w.heap.size + 1, 1, none⟩ = some (.slice q.A1 t.f1.length q.c1))) (ds := []) #[false, false, false, false, false, false, false, false, false, false, false, false, false, false, false, false, false, false, false, false, false, false, false, false, false, false, false, false, false, false, false, false, false, false, false, false, false, false, false, false, false, false, false] (by kernel_rfl) rfl rfl L.out.cells (fun hHeld => ?_)
  refine pure_ (i := 0) (N := some 69) (v := ?_) (a' := ?_) #[true, false, false, false, false, false, false, false, false, false, false, false, false, false, false, false, false, false, false, false, false, false, false, false, false, false, false, false, false, false, false, false, false, false, false, false, false, false, false, false, false, false, false] rfl rfl (by kernel_rfl) (fun _ _ _ h => h) (Or.inl ⟨by rfl, ?_⟩) ?_ ?_
  rotate_left
  · intro w'
    go_simp
    with_reducible rfl
  rotate_left
  · simp only [Act.put, List.setIfInBounds_toArray, List.set_cons_zero, List.set_cons_succ]
    rfl
  refine pure_ (i := 1) (N := some 70) (v := ?_) (a' := ?_) #[true, true, false, false, false, false, false, false, false, false, false, false, false, false, false, false, false, false, false, false, false, false, false, false, false, false, false, false, false, false, false, false, false, false, false, false, false, false, false, false, false, false, false] rfl rfl (by kernel_rfl) (fun _ _ _ h => h) (Or.inl ⟨by rfl, ?_⟩) ?_ ?_
  rotate_left
  · intro w'
    go_simp
    with_reducible rfl
  rotate_left
  · simp only [Act.put, List.setIfInBounds_toArray, List.set_cons_zero, List.set_cons_succ]
    rfl
  refine pure_ (i := 2) (N := some 71) (v := ?_) (a' := ?_) #[true, true, true, false, false, false, false, false, false, false, false, false, false, false, false, false, false, false, false, false, false, false, false, false, false, false, false, false, false, false, false, false, false, false, false, false, false, false, false, false, false, false, false] rfl rfl (by kernel_rfl) (fun _ _ _ h => h) (Or.inl ⟨by rfl, ?_⟩) ?_ ?_
  rotate_left
  · intro w'
    go_simp
    with_reducible rfl
  rotate_left
  · simp only [Act.put, List.setIfInBounds_toArray, List.set_cons_zero, List.set_cons_succ]
    rfl
  refine pure_ (i := 3) (N := some 72) (v := ?_) (a' := ?_) #[true, true, true, true, false, false, false, false, false, false, false, false, false, false, false, false, false, false, false, false, false, false, false, false, false, false, false, false, false, false, false, false, false, false, false, false, false, false, false, false, false, false, false] rfl rfl (by kernel_rfl) (fun _ _ _ h => h) (Or.inl ⟨by rfl, ?_⟩) ?_ ?_
  rotate_left
  · intro w'
    go_simp
    with_reducible rfl
  rotate_left
  · simp only [Act.put, List.setIfInBounds_toArray, List.set_cons_zero, List.set_cons_succ]
    rfl
  refine pure_ (i := 4) (N := some 73) (v := ?_) (a' := ?_) #[true, true, true, true, true, false, false, false, false, false, false, false, false, false, false, false, false, false, false, false, false, false, false, false, false, false, false, false, false, false, false, false, false, false, false, false, false, false, false, false, false, false, false] rfl rfl (by kernel_rfl) (fun _ _ _ h => h) (Or.inl ⟨by rfl, ?_⟩) ?_ ?_
  rotate_left
  · intro w'
    go_simp
    with_reducible rfl
  rotate_left
  · simp only [Act.put, List.setIfInBounds_toArray, List.set_cons_zero, List.set_cons_succ]
    rfl
  refine pure_ (i := 5) (N := some 74) (v := ?_) (a' := ?_) #[true, true, true, true, true, true, false, false, false, false, false, false, false, false, false, false, false, false, false, false, false, false, false, false, false, false, false, false, false, false, false, false, false, false, false, false, false, false, false, false, false, false, false] rfl rfl (by kernel_rfl) (fun _ _ _ h => h) (Or.inl ⟨by rfl, ?_⟩) ?_ ?_
  rotate_left
  · intro w'
    go_simp
    with_reducible rfl
  rotate_left
  · simp only [Act.put, List.setIfInBounds_toArray, List.set_cons_zero, List.set_cons_succ]
    rfl
  refine pure_ (i := 6) (N := some 75) (v := ?_) (a' := ?_) #[true, true, true, true, true, true, true, false, false, false, false, false, false, false, false, false, false, false, false, false, false, false, false, false, false, false, false, false, false, false, false, false, false, false, false, false, false, false, false, false, false, false, false] rfl rfl (by kernel_rfl) (fun _ _ _ h => h) (Or.inl ⟨by rfl, ?_⟩) ?_ ?_
  rotate_left
  · intro w'
    go_simp
    with_reducible rfl
  rotate_left
  · simp only [Act.put, List.setIfInBounds_toArray, List.set_cons_zero, List.set_cons_succ]
    rfl
  refine pure_ (i := 7) (N := some 76) (v := ?_) (a' := ?_) #[true, true, true, true, true, true, true, true, false, false, false, false, false, false, false, false, false, false, false, false, false, false, false, false, false, false, false, false, false, false, false, false, false, false, false, false, false, false, false, false, false, false, false] rfl rfl (by kernel_rfl) (fun _ _ _ h => h) (Or.inl ⟨by rfl, ?_⟩) ?_ ?_
  rotate_left
  · intro w'
    go_simp
    with_reducible rfl
  rotate_left
  · simp only [Act.put, List.setIfInBounds_toArray, List.set_cons_zero, List.set_cons_succ]
    rfl
  refine pure_ (i := 8) (N := some 77) (v := ?_) (a' := ?_) #[true, true, true, true, true, true, true, true, true, false, false, false, false, false, false, false, false, false, false, false, false, false, false, false, false, false, false, false, false, false, false, false, false, false, false, false, false, false, false, false, false, false, false] rfl rfl (by kernel_rfl) (fun _ _ _ h => h) (Or.inl ⟨by rfl, ?_⟩) ?_ ?_
  rotate_left
  · intro w'
    go_simp
    with_reducible rfl
  rotate_left
  · simp only [Act.put, List.setIfInBounds_toArray, List.set_cons_zero, List.set_cons_succ]
    rfl
  refine take_ (i := 9) (N := some 78) (v := ?_) (a' := ?_) #[true, true, true, true, true, true, true, true, true, true, false, false, false, false, false, false, false, false, false, false, false, false, false, false, false, false, false, false, false, false, false, false, false, false, false, false, false, false, false, false, false, false, false] rfl rfl (by kernel_rfl) (fun _ _ _ h => h) (Or.inl ⟨by rfl, ?_⟩) hHeld ?_ ?_
  rotate_left
  · rintro w' ⟨s0, s1, s2, s3, s4, s5, s6, s7, s8⟩
    go_simp
    with_reducible rfl
  rotate_left
  · simp only [Act.put, List.setIfInBounds_toArray, List.set_cons_zero, List.set_cons_succ]
    rfl
  refine take_ (i := 10) (N := some 79) (v := ?_) (a' := ?_) #[true, true, true, true, true, true, true, true, true, true, true, false, false, false, false, false, false, false, false, false, false, false, false, false, false, false, false, false, false, false, false, false, false, false, false, false, false, false, false, false, false, false, false] rfl rfl (by kernel_rfl) (fun _ _ _ h => h) (Or.inl ⟨by rfl, ?_⟩) hHeld ?_ ?_
  rotate_left
  · rintro w' ⟨s0, s1, s2, s3, s4, s5, s6, s7, s8⟩
    go_simp
    with_reducible rfl
  rotate_left
  · simp only [Act.put, List.setIfInBounds_toArray, List.set_cons_zero, List.set_cons_succ]
    rfl
  refine take_ (i := 12) (N := some 81) (v := ?_) (a' := ?_) #[true, true, true, true, true, true, true, true, true, true, true, false, true, false, false, false, false, false, false, false, false, false, false, false, false, false, false, false, false, false, false, false, false, false, false, false, false, false, false, false, false, false, false] rfl rfl (by kernel_rfl) (fun _ _ _ h => h) (Or.inl ⟨by rfl, ?_⟩) hHeld ?_ ?_
  rotate_left
  · rintro w' ⟨s0, s1, s2, s3, s4, s5, s6, s7, s8⟩
    go_simp
    with_reducible rfl
  rotate_left
  · simp only [Act.put, List.setIfInBounds_toArray, List.set_cons_zero, List.set_cons_succ]
    rfl
  refine take_ (i := 13) (N := some 82) (v := ?_) (a' := ?_) #[true, true, true, true, true, true, true, true, true, true, true, false, true, true, false, false, false, false, false, false, false, false, false, false, false, false, false, false, false, false, false, false, false, false, false, false, false, false, false, false, false, false, false] rfl rfl (by kernel_rfl) (fun _ _ _ h => h) (Or.inl ⟨by rfl, ?_⟩) hHeld ?_ ?_
  rotate_left
  · rintro w' ⟨s0, s1, s2, s3, s4, s5, s6, s7, s8⟩
    go_simp
    with_reducible rfl
  rotate_left
  · simp only [Act.put, List.setIfInBounds_toArray, List.set_cons_zero, List.set_cons_succ]
    rfl
  refine one_ (i := 11) (N := some 80) #[true, true, true, true, true, true, true, true, true, true, true, true, true, true, false, false, false, false, false, false, false, false, false, false, false, false, false, false, false, false, false, false, false, false, false, false, false, false, false, false, false, false, false] rfl rfl (by kernel_rfl) (by decide) (fun K hK => ?_)
  refine goes_ Try.func19 (by kernel_rfl) rfl #[.agg #[.int .i64 c.f0, .slice pc.A1 c.f1.length pc.c1, .slice pc.A2 c.f2.length pc.c2, .slice pc.A3 c.f3.length pc.c3, .slice pc.A4 c.f4.length pc.c4], .agg #[.slice qo.A0 t.f0.length qo.c0, .slice qo.A1 t.f1.length qo.c1]] (by rfl) rfl rfl (by simp only [List.map_toArray, List.map_cons, List.map_nil] <;> rfl) ?_
  refine (C7.out _ L.out.I.BW L.out.RO).mono ?_
  rintro e z11 ⟨rfl, hb⟩
  refine ⟨_, rfl, ?_⟩
  have L := Aside0.mk (L.out.below hb)
  have R1 := Aside0.mk (R1.out.below hb)
  have R2 := Aside0.mk (R2.out.below hb)
  clear hb
  refine hK.out _ _ L.out.cells (fun hHeld => ?_)
  clear hK K
  refine norm_ (a' := ?_) ?_ ?_
  rotate_left
  · show Act.put _ (some 80) _ = _
    simp only [Act.put, List.setIfInBounds_toArray, List.set_cons_zero, List.set_cons_succ]
    rfl
  refine one_ (i := 14) (N := some 83) #[true, true, true, true, true, true, true, true, true, true, true, true, true, true, true, false, false, false, false, false, false, false, false, false, false, false, false, false, false, false, false, false, false, false, false, false, false, false, false, false, false, false, false] rfl rfl (by kernel_rfl) (by decide) (fun K hK => ?_)
  refine goes_ Try.func20 (by kernel_rfl) rfl #[.agg #[.int .i64 c.f0, .slice pc.A1 c.f1.length pc.c1, .slice pc.A2 c.f2.length pc.c2, .slice pc.A3 c.f3.length pc.c3, .slice pc.A4 c.f4.length pc.c4], .agg #[.slice q.A0 t.f0.length q.c0, .slice q.A1 t.f1.length q.c1]] (by rfl) rfl rfl (by simp only [List.map_toArray, List.map_cons, List.map_nil] <;> rfl) ?_
  refine (C8.out _ L.out.I.BW).mono ?_
  rintro e z14 ⟨rfl, hb⟩
  refine ⟨_, rfl, ?_⟩
  have L := Aside0.mk (L.out.below hb)
  have R1 := Aside0.mk (R1.out.below hb)
  have R2 := Aside0.mk (R2.out.below hb)
  clear hb
  refine hK.out _ _ L.out.cells (fun hHeld => ?_)
  clear hK K
  refine norm_ (a' := ?_) ?_ ?_
  rotate_left
  · show Act.put _ (some 83) _ = _
    simp only [Act.put, List.setIfInBounds_toArray, List.set_cons_zero, List.set_cons_succ]
    rfl
  refine pure_ (i := 15) (N := some 84) (v := ?_) (a' := ?_) #[true, true, true, true, true, true, true, true, true, true, true, true, true, true, true, true, false, false, false, false, false, false, false, false, false, false, false, false, false, false, false, false, false, false, false, false, false, false, false, false, false, false, false] rfl rfl (by kernel_rfl) (fun _ _ _ h => h) (Or.inl ⟨by rfl, ?_⟩) ?_ ?_
  rotate_left
  · intro w'
    go_simp
    with_reducible rfl
  rotate_left
  · simp only [Act.put, List.setIfInBounds_toArray, List.set_cons_zero, List.set_cons_succ]
    rfl
  refine pure_ (i := 16) (N := some 85) (v := ?_) (a' := ?_) #[true, true, true, true, true, true, true, true, true, true, true, true, true, true, true, true, true, false, false, false, false, false, false, false, false, false, false, false, false, false, false, false, false, false, false, false, false, false, false, false, false, false, false] rfl rfl (by kernel_rfl) (fun _ _ _ h => h) (Or.inl ⟨by rfl, ?_⟩) ?_ ?_
  rotate_left
  · intro w'
    go_simp
    with_reducible rfl
  rotate_left
  · simp only [Act.put, List.setIfInBounds_toArray, List.set_cons_zero, List.set_cons_succ]
    rfl
  refine pure_ (i := 17) (N := some 86) (v := ?_) (a' := ?_) #[true, true, true, true, true, true, true, true, true, true, true, true, true, true, true, true, true, true, false, false, false, false, false, false, false, false, false, false, false, false, false, false, false, false, false, false, false, false, false, false, false, false, false] rfl rfl (by kernel_rfl) (fun _ _ _ h => h) (Or.inl ⟨by rfl, ?_⟩) ?_ ?_
  rotate_left
  · intro w'
    go_simp
    with_reducible rfl
  rotate_left
  · simp only [Act.put, List.setIfInBounds_toArray, List.set_cons_zero, List.set_cons_succ]
    rfl
  refine pure_ (i := 18) (N := some 87) (v := ?_) (a' := ?_) #[true, true, true, true, true, true, true, true, true, true, true, true, true, true, true, true, true, true, true, false, false, false, false, false, false, false, false, false, false, false, false, false, false, false, false, false, false, false, false, false, false, false, false] rfl rfl (by kernel_rfl) (fun _ _ _ h => h) (Or.inl ⟨by rfl, ?_⟩) ?_ ?_
  rotate_left
  · intro w'
    go_simp
    with_reducible rfl
  rotate_left
  · simp only [Act.put, List.setIfInBounds_toArray, List.set_cons_zero, List.set_cons_succ]
    rfl
  refine pure_ (i := 19) (N := some 88) (v := ?_) (a' := ?_) #[true, true, true, true, true, true, true, true, true, true, true, true, true, true, true, true, true, true, true, true, false, false, false, false, false, false, false, false, false, false, false, false, false, false, false, false, false, false, false, false, false, false, false] rfl rfl (by kernel_rfl) (fun _ _ _ h => h) (Or.inl ⟨by rfl, ?_⟩) ?_ ?_
  rotate_left
  · intro w'
    go_simp
    with_reducible rfl
  rotate_left
  · simp only [Act.put, List.setIfInBounds_toArray, List.set_cons_zero, List.set_cons_succ]
    rfl
  refine one_ (i := 20) (N := some 89) #[true, true, true, true, true, true, true, true, true, true, true, true, true, true, true, true, true, true, true, true, true, false, false, false, false, false, false, false, false, false, false, false, false, false, false, false, false, false, false, false, false, false, false] rfl rfl (by kernel_rfl) (by decide) (fun K hK => ?_)
  refine goes_ Try.func21 (by kernel_rfl) rfl #[.slice O1 S.length oc1, .slice O2 S.length oc2] (by rfl) rfl rfl (by simp only [List.map_toArray, List.map_cons, List.map_nil] <;> rfl) ?_
  refine (ref06_SameAll O1 oc1 S O2 oc2 S _ R1.out R2.out).mono ?_
  rintro e z20 ⟨rfl, hb⟩
  rw [decide_eq_true (rfl : S = S)]
  refine ⟨_, rfl, ?_⟩
  have L := Aside0.mk (L.out.below hb)
  have R1 := Aside0.mk (R1.out.below hb)
  have R2 := Aside0.mk (R2.out.below hb)
  clear hb
  refine hK.out _ _ L.out.cells (fun hHeld => ?_)
  clear hK K
  refine norm_ (a' := ?_) ?_ ?_
  rotate_left
  · show Act.put _ (some 89) _ = _
    simp only [Act.put, List.setIfInBounds_toArray, List.set_cons_zero, List.set_cons_succ]
    rfl
  refine pure_ (i := 21) (N := some 90) (v := ?_) (a' := ?_) #[true, true, true, true, true, true, true, true, true, true, true, true, true, true, true, true, true, true, true, true, true, true, false, false, false, false, false, false, false, false, false, false, false, false, false, false, false, false, false, false, false, false, false] rfl rfl (by kernel_rfl) (fun _ _ _ h => h) (Or.inl ⟨by rfl, ?_⟩) ?_ ?_
  rotate_left
  · intro w'
    go_simp
    with_reducible rfl
  rotate_left
  · simp only [Act.put, List.setIfInBounds_toArray, List.set_cons_zero, List.set_cons_succ]
    rfl
  refine pure_ (i := 22) (N := some 91) (v := ?_) (a' := ?_) #[true, true, true, true, true, true, true, true, true, true, true, true, true, true, true, true, true, true, true, true, true, true, true, false, false, false, false, false, false, false, false, false, false, false, false, false, false, false, false, false, false, false, false] rfl rfl (by kernel_rfl) (fun _ _ _ h => h) (Or.inl ⟨by rfl, ?_⟩) ?_ ?_
  rotate_left
  · intro w'
    go_simp
    with_reducible rfl
  rotate_left
  · simp only [Act.put, List.setIfInBounds_toArray, List.set_cons_zero, List.set_cons_succ]
    rfl
  refine pure_ (i := 23) (N := some 92) (v := ?_) (a' := ?_) #[true, true, true, true, true, true, true, true, true, true, true, true, true, true, true, true, true, true, true, true, true, true, true, true, false, false, false, false, false, false, false, false, false, false, false, false, false, false, false, false, false, false, false] rfl rfl (by kernel_rfl) (fun _ _ _ h => h) (Or.inl ⟨by rfl, ?_⟩) ?_ ?_
  rotate_left
  · intro w'
    go_simp
    with_reducible rfl
  rotate_left
  · simp only [Act.put, List.setIfInBounds_toArray, List.set_cons_zero, List.set_cons_succ]
    rfl
  refine pure_ (i := 24) (N := some 93) (v := ?_) (a' := ?_) #[true, true, true, true, true, true, true, true, true, true, true, true, true, true, true, true, true, true, true, true, true, true, true, true, true, false, false, false, false, false, false, false, false, false, false, false, false, false, false, false, false, false, false] rfl rfl (by kernel_rfl) (fun _ _ _ h => h) (Or.inl ⟨by rfl, ?_⟩) ?_ ?_
  rotate_left
  · intro w'
    go_simp
    with_reducible rfl
  rotate_left
  · simp only [Act.put, List.setIfInBounds_toArray, List.set_cons_zero, List.set_cons_succ]
    rfl
  refine pure_ (i := 25) (N := some 94) (v := ?_) (a' := ?_) #[true, true, true, true, true, true, true, true, true, true, true, true, true, true, true, true, true, true, true, true, true, true, true, true, true, true, false, false, false, false, false, false, false, false, false, false, false, false, false, false, false, false, false] rfl rfl (by kernel_rfl) (fun _ _ _ h => h) (Or.inl ⟨by rfl, ?_⟩) ?_ ?_
  rotate_left
  · intro w'
    go_simp
    with_reducible rfl
  rotate_left
  · simp only [Act.put, List.setIfInBounds_toArray, List.set_cons_zero, List.set_cons_succ]
    rfl
  refine pure_ (i := 26) (N := some 95) (v := ?_) (a' := ?_) #[true, true, true, true, true, true, true, true, true, true, true, true, true, true, true, true, true, true, true, true, true, true, true, true, true, true, true, false, false, false, false, false, false, false, false, false, false, false, false, false, false, false, false] rfl rfl (by kernel_rfl) (fun _ _ _ h => h) (Or.inl ⟨by rfl, ?_⟩) ?_ ?_
  rotate_left
  · intro w'
    go_simp
    with_reducible rfl
  rotate_left
  · simp only [Act.put, List.setIfInBounds_toArray, List.set_cons_zero, List.set_cons_succ]
    rfl
  refine pure_ (i := 27) (N := some 96) (v := ?_) (a' := ?_) #[true, true, true, true, true, true, true, true, true, true, true, true, true, true, true, true, true, true, true, true, true, true, true, true, true, true, true, true, false, false, false, false, false, false, false, false, false, false, false, false, false, false, false] rfl rfl (by kernel_rfl) (fun _ _ _ h => h) (Or.inl ⟨by rfl, ?_⟩) ?_ ?_
  rotate_left
  · intro w'
    go_simp
    with_reducible rfl
  rotate_left
  · simp only [Act.put, List.setIfInBounds_toArray, List.set_cons_zero, List.set_cons_succ]
    rfl
  refine pure_ (i := 28) (N := some 97) (v := ?_) (a' := ?_) #[true, true, true, true, true, true, true, true, true, true, true, true, true, true, true, true, true, true, true, true, true, true, true, true, true, true, true, true, true, false, false, false, false, false, false, false, false, false, false, false, false, false, false] rfl rfl (by kernel_rfl) (fun _ _ _ h => h) (Or.inl ⟨by rfl, ?_⟩) ?_ ?_
  rotate_left
  · intro w'
    go_simp
    with_reducible rfl
  rotate_left
  · simp only [Act.put, List.setIfInBounds_toArray, List.set_cons_zero, List.set_cons_succ]
    rfl
  refine pure_ (i := 29) (N := some 98) (v := ?_) (a' := ?_) #[true, true, true, true, true, true, true, true, true, true, true, true, true, true, true, true, true, true, true, true, true, true, true, true, true, true, true, true, true, true, false, false, false, false, false, false, false, false, false, false, false, false, false] rfl rfl (by kernel_rfl) (fun _ _ _ h => h) (Or.inl ⟨by rfl, ?_⟩) ?_ ?_
  rotate_left
  · intro w'
    go_simp
    with_reducible rfl
  rotate_left
  · simp only [Act.put, List.setIfInBounds_toArray, List.set_cons_zero, List.set_cons_succ]
    rfl
  refine pure_ (i := 30) (N := some 99) (v := ?_) (a' := ?_) #[true, true, true, true, true, true, true, true, true, true, true, true, true, true, true, true, true, true, true, true, true, true, true, true, true, true, true, true, true, true, true, false, false, false, false, false, false, false, false, false, false, false, false] rfl rfl (by kernel_rfl) (fun _ _ _ h => h) (Or.inl ⟨by rfl, ?_⟩) ?_ ?_
  rotate_left
  · intro w'
    go_simp
    with_reducible rfl
  rotate_left
  · simp only [Act.put, List.setIfInBounds_toArray, List.set_cons_zero, List.set_cons_succ]
    rfl
  refine pure_ (i := 31) (N := some 100) (v := ?_) (a' := ?_) #[true, true, true, true, true, true, true, true, true, true, true, true, true, true, true, true, true, true, true, true, true, true, true, true, true, true, true, true, true, true, true, true, false, false, false, false, false, false, false, false, false, false, false] rfl rfl (by kernel_rfl) (fun _ _ _ h => h) (Or.inl ⟨by rfl, ?_⟩) ?_ ?_
  rotate_left
  · intro w'
    go_simp
    with_reducible rfl
  rotate_left
  · simp only [Act.put, List.setIfInBounds_toArray, List.set_cons_zero, List.set_cons_succ]
    rfl
  refine pure_ (i := 32) (N := some 101) (v := ?_) (a' := ?_) #[true, true, true, true, true, true, true, true, true, true, true, true, true, true, true, true, true, true, true, true, true, true, true, true, true, true, true, true, true, true, true, true, true, false, false, false, false, false, false, false, false, false, false] rfl rfl (by kernel_rfl) (fun _ _ _ h => h) (Or.inl ⟨by rfl, ?_⟩) ?_ ?_
  rotate_left
  · intro w'
    go_simp
    with_reducible rfl
  rotate_left
  · simp only [Act.put, List.setIfInBounds_toArray, List.set_cons_zero, List.set_cons_succ]
    rfl
  refine pure_ (i := 33) (N := some 102) (v := ?_) (a' := ?_) #[true, true, true, true, true, true, true, true, true, true, true, true, true, true, true, true, true, true, true, true, true, true, true, true, true, true, true, true, true, true, true, true, true, true, false, false, false, false, false, false, false, false, false] rfl rfl (by kernel_rfl) (fun _ _ _ h => h) (Or.inl ⟨by rfl, ?_⟩) ?_ ?_
  rotate_left
  · intro w'
    go_simp
    with_reducible rfl
  rotate_left
  · simp only [Act.put, List.setIfInBounds_toArray, List.set_cons_zero, List.set_cons_succ]
    rfl
  refine pure_ (i := 34) (N := some 103) (v := ?_) (a' := ?_) #[true, true, true, true, true, true, true, true, true, true, true, true, true, true, true, true, true, true, true, true, true, true, true, true, true, true, true, true, true, true, true, true, true, true, true, false, false, false, false, false, false, false, false] rfl rfl (by kernel_rfl) (fun _ _ _ h => h) (Or.inl ⟨by rfl, ?_⟩) ?_ ?_
  rotate_left
  · intro w'
    go_simp
    with_reducible rfl
  rotate_left
  · simp only [Act.put, List.setIfInBounds_toArray, List.set_cons_zero, List.set_cons_succ]
    rfl
  refine pure_ (i := 35) (N := some 104) (v := ?_) (a' := ?_) #[true, true, true, true, true, true, true, true, true, true, true, true, true, true, true, true, true, true, true, true, true, true, true, true, true, true, true, true, true, true, true, true, true, true, true, true, false, false, false, false, false, false, false] rfl rfl (by kernel_rfl) (fun _ _ _ h => h) (Or.inl ⟨by rfl, ?_⟩) ?_ ?_
  rotate_left
  · intro w'
    go_simp
    with_reducible rfl
  rotate_left
  · simp only [Act.put, List.setIfInBounds_toArray, List.set_cons_zero, List.set_cons_succ]
    rfl
  refine pure_ (i := 36) (N := some 105) (v := ?_) (a' := ?_) #[true, true, true, true, true, true, true, true, true, true, true, true, true, true, true, true, true, true, true, true, true, true, true, true, true, true, true, true, true, true, true, true, true, true, true, true, true, false, false, false, false, false, false] rfl rfl (by kernel_rfl) (fun _ _ _ h => h) (Or.inl ⟨by rfl, ?_⟩) ?_ ?_
  rotate_left
  · intro w'
    go_simp
    with_reducible rfl
  rotate_left
  · simp only [Act.put, List.setIfInBounds_toArray, List.set_cons_zero, List.set_cons_succ]
    rfl
  refine pure_ (i := 37) (N := some 106) (v := ?_) (a' := ?_) #[true, true, true, true, true, true, true, true, true, true, true, true, true, true, true, true, true, true, true, true, true, true, true, true, true, true, true, true, true, true, true, true, true, true, true, true, true, true, false, false, false, false, false] rfl rfl (by kernel_rfl) (fun _ _ _ h => h) (Or.inl ⟨by rfl, ?_⟩) ?_ ?_
  rotate_left
  · intro w'
    go_simp
    with_reducible rfl
  rotate_left
  · simp only [Act.put, List.setIfInBounds_toArray, List.set_cons_zero, List.set_cons_succ]
    rfl
  refine take_ (i := 38) (N := some 107) (v := ?_) (a' := ?_) #[true, true, true, true, true, true, true, true, true, true, true, true, true, true, true, true, true, true, true, true, true, true, true, true, true, true, true, true, true, true, true, true, true, true, true, true, true, true, true, false, false, false, false] rfl rfl (by kernel_rfl) (fun _ _ _ h => h) (Or.inl ⟨by rfl, ?_⟩) hHeld ?_ ?_
  rotate_left
  · rintro w' ⟨s0, s1, s2, s3, s4, s5, s6, s7, s8⟩
    go_simp
    with_reducible rfl
  rotate_left
  · simp only [Act.put, List.setIfInBounds_toArray, List.set_cons_zero, List.set_cons_succ]
    rfl
  refine take_ (i := 39) (N := some 108) (v := ?_) (a' := ?_) #[true, true, true, true, true, true, true, true, true, true, true, true, true, true, true, true, true, true, true, true, true, true, true, true, true, true, true, true, true, true, true, true, true, true, true, true, true, true, true, true, false, false, false] rfl rfl (by kernel_rfl) (fun _ _ _ h => h) (Or.inl ⟨by rfl, ?_⟩) hHeld ?_ ?_
  rotate_left
  · rintro w' ⟨s0, s1, s2, s3, s4, s5, s6, s7, s8⟩
    go_simp
    with_reducible rfl
  rotate_left
  · simp only [Act.put, List.setIfInBounds_toArray, List.set_cons_zero, List.set_cons_succ]
    rfl
  refine one_ (i := 40) (N := some 109) #[true, true, true, true, true, true, true, true, true, true, true, true, true, true, true, true, true, true, true, true, true, true, true, true, true, true, true, true, true, true, true, true, true, true, true, true, true, true, true, true, true, false, false] rfl rfl (by kernel_rfl) (by decide) (fun K hK => ?_)
  refine goes_ Try.func22 (by kernel_rfl) rfl #[.agg #[.slice qo.A0 t.f0.length qo.c0, .slice qo.A1 t.f1.length qo.c1], .agg #[.slice q.A0 t.f0.length q.c0, .slice q.A1 t.f1.length q.c1]] (by rfl) rfl rfl (by simp only [List.map_toArray, List.map_cons, List.map_nil] <;> rfl) ?_
  refine (ref06_Same qo t q t _ L.out.RO (HT.out.below L.out.I.BW)).mono ?_
  rintro e z40 ⟨rfl, hb⟩
  rw [decide_eq_true (rfl : t = t)]
  refine ⟨_, rfl, ?_⟩
  have L := Aside0.mk (L.out.below hb)
  have R1 := Aside0.mk (R1.out.below hb)
  have R2 := Aside0.mk (R2.out.below hb)
  clear hb
  refine hK.out _ _ L.out.cells (fun hHeld => ?_)
  clear hK K
  refine norm_ (a' := ?_) ?_ ?_
  rotate_left
  · show Act.put _ (some 109) _ = _
    simp only [Act.put, List.setIfInBounds_toArray, List.set_cons_zero, List.set_cons_succ]
    rfl
  refine pure_ (i := 41) (N := some 110) (v := ?_) (a' := ?_) #[true, true, true, true, true, true, true, true, true, true, true, true, true, true, true, true, true, true, true, true, true, true, true, true, true, true, true, true, true, true, true, true, true, true, true, true, true, true, true, true, true, true, false] rfl rfl (by kernel_rfl) (fun _ _ _ h => h) (Or.inl ⟨by rfl, ?_⟩) ?_ ?_
  rotate_left
  · intro w'
    go_simp
    with_reducible rfl
  rotate_left
  · simp only [Act.put, List.setIfInBounds_toArray, List.set_cons_zero, List.set_cons_succ]
    rfl
  refine pure_ (i := 42) (N := some 6) (v := ?_) (a' := ?_) #[true, true, true, true, true, true, true, true, true, true, true, true, true, true, true, true, true, true, true, true, true, true, true, true, true, true, true, true, true, true, true, true, true, true, true, true, true, true, true, true, true, true, true] rfl rfl (by kernel_rfl) (fun _ _ _ h => h) (Or.inl ⟨by rfl, ?_⟩) ?_ ?_
  rotate_left
  · intro w'
    go_simp
    with_reducible rfl
  rotate_left
  · simp only [Act.put, List.setIfInBounds_toArray, List.set_cons_zero, List.set_cons_succ]
    rfl
  refine done_ (by kernel_rfl) ?_
  go_wp2
  go_ret
  exact ⟨rfl, L.out.I.BW⟩
end Go.Proofs.Ytchhbkicplgmhaa.PH
