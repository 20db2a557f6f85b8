/- The law's function cut: no frame but the last one has a bad literal that is true. -/
import Derived.Test.YtlhiapggccgggaaHSelfP
import Derived.Test.YtlhiapggccgggaaHTraceW
import Derived.Test.YtlhiapggccgggaaHArgP
namespace Go.Proofs.Ytlhiapggccgggaa.PH
open Go.RowKit Go.Proofs.YtlhiapggccgggaaW.PrintWords Go.Proofs.YtlhiapggccgggaaW.PrintLast
set_option linter.unusedVariables false
set_option linter.unusedSimpArgs false

theorem fineAt (k : Nat) (f : Fr) : fine k f = !f.2.2.any id := by
  unfold fine
  congr 2
  funext b
  cases b <;> rfl
/-- What is known at a frame of a run that is cut. -/
theorem cut_at {c : Circ} {st : List Bool} {I : List (List Bool)} {k C : Nat} (hk : k < C) (hC : C ≤ I.length) (h : stopAt fine k (frames c st (I.drop k)) = C) :
    ∃ hI : k < I.length, ((badsOf c st I[k]).any id = true ∧ k + 1 = C) ∨ ((badsOf c st I[k]).any id = false ∧ stopAt fine (k + 1) (frames c (nextOf c st I[k]) (I.drop (k + 1))) = C ∧ (k + 1 = C → C = I.length)) := by
  have hI : k < I.length := by omega
  refine ⟨hI, ?_⟩
  rw [List.drop_eq_getElem_cons hI] at h
  unfold frames stopAt at h
  rw [fineAt] at h
  dsimp only at h
  cases hb : (badsOf c st I[k]).any id with
  | true => rw [hb] at h; left; exact ⟨rfl, by simpa using h⟩
  | false =>
    rw [hb] at h
    right
    refine ⟨rfl, by simpa using h, fun e => ?_⟩
    have h2 : stopAt fine (k + 1) (frames c (nextOf c st I[k]) (I.drop (k + 1))) = C := by simpa using h
    by_cases hl : k + 1 < I.length
    · exfalso
      rw [List.drop_eq_getElem_cons hl] at h2
      unfold frames stopAt at h2
      split at h2
      · have := (stopAt_le fine (frames c (nextOf c (nextOf c st I[k]) I[k + 1]) (I.drop (k + 1 + 1))) (k + 1 + 1)).1
        omega
      · omega
    · omega
theorem any_step_id {l : List Bool} {j : Nat} {y b : Bool} (hy : l[j]? = some y) (hb : (l.take j).any id = b) : (l.take (j + 1)).any id = (b || y) := by
  rw [List.take_add_one, hy, List.any_append, hb]
  simp
set_option maxHeartbeats 4000000 in
set_option maxRecDepth 100000 in
theorem law25_cut (p : CP) (c : Circ) (q : TP) (F : List Bool) (I : List (List Bool)) (C : Nat) (w : World) (hp : RC w p c) (ht : RT w q ⟨F, I.take C⟩) (hs : c.Fits) (hc : check c = 0) (hl1 : F.length = c.f1.length) (hl2 : ∀ x ∈ I, (x.length : Int) = c.f0) (hC : cutLen c F I = C) (hCI : C ≤ I.length) (hm : I.length ≤ 1000) :
    Calls Try.prog 30 #[cv p c, .agg #[.slice q.A0 F.length q.c0, .slice q.A1 C q.c1], .bool (decide (C < I.length))] w fun e w' => e = .returned (.bool true) ∧ Below w.heap.size w w' := by
  obtain ⟨TF, tf, TI, ti⟩ := q
  have HP := Aside0.mk hp
  have HT := Aside0.mk ht
  have HS := Aside0.mk hs
  have HC := Aside0.mk hc
  have HSL := Aside0.mk (check_lits hc).1
  have HL1 := Aside0.mk hl1
  have HL2 := Aside0.mk hl2
  have HM := Aside0.mk hm
  have HCI := Aside0.mk hCI
  have HCC := Aside0.mk (show stopAt fine 0 (frames c F (I.drop 0)) = C from hC)
  have HTL := Aside0.mk (show (I.take C).length = C by rw [List.length_take]; omega)
  have hu26 := Try.underlying26
  have hu57 := Try.underlying57
  have S := ((Parts.start w).new 26 (ccells p c)).new 57 #[.slice TF F.length tf, .slice TI C ti]
  simp only [sz_new] at S
  replace S := Aside0.mk S
  obtain ⟨has, hhas⟩ : ∃ b, decide (C < I.length) = b := ⟨_, rfl⟩
  rw [hhas]
  have HH := Aside0.mk hhas
  clear hp ht hs hc hl1 hl2 hm hC hhas hCI
  go_enter Try.func30, Try.ntmps30
  go_upto_region 1 with (fail)
  obtain ⟨w1, hw1⟩ : ∃ W, ((w.alloc (.cells (ccells p c) 26)).alloc (.cells #[.slice TF F.length tf, .slice TI C ti] 57)) = W := ⟨_, rfl⟩
  rw [hw1] at S ⊢
  clear hw1
  obtain ⟨t0, t1⟩ := blk2 (S.out.blk 0 rfl)
  go_wp2
  clear t0 t1
  go_loopg [7, 8, 9, 10, 11, 12, 13, 14, 15] C (fun gg s7 s8 _ _ _ _ _ _ _ wr => ∃ (k : Nat) (A : Option Addr) (d : Nat) (st : List Bool), s7 = .slice A st.length d ∧ s8 = .int .i64 k ∧ Aside0 (k ≤ C ∧ C - k ≤ gg) ∧ Aside0 (Parts w.heap.size w wr [pB (w.heap.size + 1) 57 #[.slice TF F.length tf, .slice TI C ti], pB w.heap.size 26 (ccells p c)]) ∧ Aside0 (RS Kd.bool wr A d st ∧ st.length = c.f1.length) ∧ Aside0 (k < C → stopAt fine k (frames c st (I.drop k)) = C))
  case atStart => exact ⟨0, TF, tf, F, rfl, rfl, ⟨by omega, by omega⟩, S, ⟨HT.out.s0.below S.out.B, HL1.out⟩, ⟨fun _ => HCC.out⟩⟩
  case round =>
    clear S HCC
    obtain ⟨k, A, d, st, rfl, rfl, HX, S, HST, HSA⟩ := hrel
    obtain ⟨t0, t1⟩ := blk2 (S.out.blk 0 rfl)
    by_cases hlt : k < C
    · obtain ⟨hI, HCASE⟩ := cut_at hlt HCI.out (HSA.out hlt)
      obtain ⟨ad, B, cB, e1, hxq, hB⟩ := at_row HT.out.s1.r k (by show k < (I.take C).length; rw [HTL.out]; exact hlt)
      dsimp only at e1
      subst e1
      have hlti : (k : Int) < C := by omega
      obtain ⟨ins, hins⟩ : ∃ ins, I[k] = ins := ⟨_, rfl⟩
      have hins2 : (I.take C)[k]'(by rw [HTL.out]; exact hlt) = ins := by rw [List.getElem_take]; exact hins
      rw [hins2] at hxq hB
      rw [hins] at HCASE
      have HXW := Aside0.mk (fun W (hb : Below w.heap.size w W) => pw_cell_below hb hxq)
      have HCS := Aside0.mk HCASE
      have HIL := Aside0.mk (HL2.out ins (hins ▸ List.getElem_mem hI))
      have HLT := Aside0.mk hlt
      have HB := Aside0.mk hB
      have PC := Aside0.mk (fun W (hb : Below wr.heap.size wr W) => values_Props p c A d st B cB ins W (HP.out.below (S.out.B.trans (hb.mono S.out.z))) HS.out (HST.out.1.below hb) (HB.out.below (S.out.B.trans (hb.mono S.out.z))) HC.out HST.out.2 HIL.out HSL.out)
      have NC := Aside0.mk (fun W (hb : Below wr.heap.size wr W) => values_Next p c A d st B cB ins W (HP.out.below (S.out.B.trans (hb.mono S.out.z))) HS.out (HST.out.1.below hb) (HB.out.below (S.out.B.trans (hb.mono S.out.z))) HC.out HST.out.2 HIL.out HSL.out)
      clear hins hins2 hlt hB hxq HSA HCASE hI
      have PD := Aside0.mk (PC.out wr.drew (below_drew (Below.refl _ _)))
      go_wp2
      refine start_ (n := 15) (S := (fun W => Parts w.heap.size w W [pB (w.heap.size + 1) 57 #[.slice TF F.length tf, .slice (some ad) C ti], pB w.heap.size 26 (ccells p c)])) (ds := []) #[false, false, false, false, false, false, false, false, false, false, false, false, false, false, false] (by kernel_rfl) rfl rfl S.out.drew (fun hHeld => ?_)
      refine take_ (i := 0) (N := some 26) (v := ?_) (a' := ?_) #[true, false, false, false, false, false, false, false, false, false, false, false, false, false, false] rfl rfl (by kernel_rfl) (fun _ _ _ h => h) (Or.inl ⟨by rfl, ?_⟩) hHeld ?_ ?_
      rotate_left
      · intro w' s0
        obtain ⟨d0, d1, d2, d3, d4⟩ := blk5 (s0.blk 1 rfl)
        go_simp
        with_reducible rfl
      rotate_left
      · simp only [Act.put, List.setIfInBounds_toArray, List.set_cons_zero, List.set_cons_succ]
        rfl
      refine pure_ (i := 1) (N := some 27) (v := ?_) (a' := ?_) #[true, true, false, false, false, false, false, false, false, false, false, false, false, false, false] rfl rfl (by kernel_rfl) (fun _ _ _ h => h) (Or.inl ⟨by rfl, ?_⟩) ?_ ?_
      rotate_left
      · intro w'
        go_simp
        with_reducible rfl
      rotate_left
      · simp only [Act.put, List.setIfInBounds_toArray, List.set_cons_zero, List.set_cons_succ]
        rfl
      refine pure_ (i := 2) (N := some 28) (v := ?_) (a' := ?_) #[true, true, true, false, false, false, false, false, false, false, false, false, false, false, false] rfl rfl (by kernel_rfl) (fun _ _ _ h => h) (Or.inl ⟨by rfl, ?_⟩) ?_ ?_
      rotate_left
      · intro w'
        go_simp
        with_reducible rfl
      rotate_left
      · simp only [Act.put, List.setIfInBounds_toArray, List.set_cons_zero, List.set_cons_succ]
        rfl
      refine take_ (i := 3) (N := some 29) (v := ?_) (a' := ?_) #[true, true, true, true, false, false, false, false, false, false, false, false, false, false, false] rfl rfl (by kernel_rfl) (fun _ _ _ h => h) (Or.inl ⟨by rfl, ?_⟩) hHeld ?_ ?_
      rotate_left
      · intro w' s0
        have h_ := (s0.cell 0 rfl 1 rfl).1
        go_simp
        with_reducible rfl
      rotate_left
      · simp only [Act.put, List.setIfInBounds_toArray, List.set_cons_zero, List.set_cons_succ]
        rfl
      refine pure_ (i := 4) (N := some 30) (v := ?_) (a' := ?_) #[true, true, true, true, true, false, false, false, false, false, false, false, false, false, false] rfl rfl (by kernel_rfl) (fun _ _ _ h => h) (Or.inl ⟨by rfl, ?_⟩) ?_ ?_
      rotate_left
      · intro w'
        go_simp
        with_reducible rfl
      rotate_left
      · simp only [Act.put, List.setIfInBounds_toArray, List.set_cons_zero, List.set_cons_succ]
        rfl
      refine pure_ (i := 5) (N := some 31) (v := ?_) (a' := ?_) #[true, true, true, true, true, true, false, false, false, false, false, false, false, false, false] rfl rfl (by kernel_rfl) (fun _ _ _ h => h) (Or.inl ⟨by rfl, ?_⟩) ?_ ?_
      rotate_left
      · intro w'
        go_simp
        with_reducible rfl
      rotate_left
      · simp only [Act.put, List.setIfInBounds_toArray, List.set_cons_zero, List.set_cons_succ]
        rfl
      refine take_ (i := 6) (N := some 32) (v := ?_) (a' := ?_) #[true, true, true, true, true, true, true, false, false, false, false, false, false, false, false] rfl rfl (by kernel_rfl) (fun _ _ _ h => h) (Or.inl ⟨by rfl, ?_⟩) hHeld ?_ ?_
      rotate_left
      · intro w' s0
        have h_ := HXW.out _ s0.B
        go_simp
        with_reducible rfl
      rotate_left
      · simp only [Act.put, List.setIfInBounds_toArray, List.set_cons_zero, List.set_cons_succ]
        rfl
      refine one_ (i := 7) (N := some 33) #[true, true, true, true, true, true, true, true, false, false, false, false, false, false, false] rfl rfl (by kernel_rfl) (by decide) (fun K hK => ?_)
      refine goes_ Try.func52 (by kernel_rfl) rfl #[cv p c, .slice A st.length d, .slice B ins.length cB] (by rfl) rfl rfl (by simp only [List.map_toArray, List.map_cons, List.map_nil] <;> rfl) ?_
      refine PD.out.mono ?_
      rintro e w5 ⟨A5, c5, rfl, hR5, hb5⟩
      refine ⟨_, rfl, ?_⟩
      have S5 := Aside0.mk (S.out.drew.below hb5)
      have B5 := Aside0.mk ((below_drew (Below.refl wr.heap.size wr)).trans (hb5.mono (below_drew (Below.refl wr.heap.size wr)).size))
      have R5 := Aside0.mk hR5
      clear hb5 hR5 PD
      refine hK.out _ _ S5.out (fun hHeld => ?_)
      clear hK K
      refine norm_ (a' := ?_) ?_ ?_
      rotate_left
      · show Act.put _ (some 33) _ = _
        simp only [Act.put, List.setIfInBounds_toArray, List.set_cons_zero, List.set_cons_succ]
        rfl
      refine pure_ (i := 8) (N := some 25) (v := ?_) (a' := ?_) #[true, true, true, true, true, true, true, true, true, false, false, false, false, false, false] rfl rfl (by kernel_rfl) (fun _ _ _ h => h) (Or.inl ⟨by rfl, ?_⟩) ?_ ?_
      rotate_left
      · intro w'
        go_simp
        with_reducible rfl
      rotate_left
      · simp only [Act.put, List.setIfInBounds_toArray, List.set_cons_zero, List.set_cons_succ]
        rfl
      refine pure_ (i := 9) (N := some 34) (v := ?_) (a' := ?_) #[true, true, true, true, true, true, true, true, true, true, false, false, false, false, false] rfl rfl (by kernel_rfl) (fun _ _ _ h => h) (Or.inl ⟨by rfl, ?_⟩) ?_ ?_
      rotate_left
      · intro w'
        go_simp
        with_reducible rfl
      rotate_left
      · simp only [Act.put, List.setIfInBounds_toArray, List.set_cons_zero, List.set_cons_succ]
        rfl
      refine pure_ (i := 10) (N := some 35) (v := ?_) (a' := ?_) #[true, true, true, true, true, true, true, true, true, true, true, false, false, false, false] rfl rfl (by kernel_rfl) (fun _ _ _ h => h) (Or.inl ⟨by rfl, ?_⟩) ?_ ?_
      rotate_left
      · intro w'
        go_simp
        with_reducible rfl
      rotate_left
      · simp only [Act.put, List.setIfInBounds_toArray, List.set_cons_zero, List.set_cons_succ]
        rfl
      refine pure_ (i := 11) (N := some 36) (v := ?_) (a' := ?_) #[true, true, true, true, true, true, true, true, true, true, true, true, false, false, false] rfl rfl (by kernel_rfl) (fun _ _ _ h => h) (Or.inl ⟨by rfl, ?_⟩) ?_ ?_
      rotate_left
      · intro w'
        go_simp
        with_reducible rfl
      rotate_left
      · simp only [Act.put, List.setIfInBounds_toArray, List.set_cons_zero, List.set_cons_succ]
        rfl
      refine pure_ (i := 12) (N := some 9) (v := ?_) (a' := ?_) #[true, true, true, true, true, true, true, true, true, true, true, true, true, false, false] rfl rfl (by kernel_rfl) (fun _ _ _ h => h) (Or.inl ⟨by rfl, ?_⟩) ?_ ?_
      rotate_left
      · intro w'
        go_simp
        with_reducible rfl
      rotate_left
      · simp only [Act.put, List.setIfInBounds_toArray, List.set_cons_zero, List.set_cons_succ]
        rfl
      refine pure_ (i := 13) (N := some 10) (v := ?_) (a' := ?_) #[true, true, true, true, true, true, true, true, true, true, true, true, true, true, false] rfl rfl (by kernel_rfl) (fun _ _ _ h => h) (Or.inl ⟨by rfl, ?_⟩) ?_ ?_
      rotate_left
      · intro w'
        go_simp
        with_reducible rfl
      rotate_left
      · simp only [Act.put, List.setIfInBounds_toArray, List.set_cons_zero, List.set_cons_succ]
        rfl
      refine pure_ (i := 14) (N := some 11) (v := ?_) (a' := ?_) #[true, true, true, true, true, true, true, true, true, true, true, true, true, true, true] rfl rfl (by kernel_rfl) (fun _ _ _ h => h) (Or.inl ⟨by rfl, ?_⟩) ?_ ?_
      rotate_left
      · intro w'
        go_simp
        with_reducible rfl
      rotate_left
      · simp only [Act.put, List.setIfInBounds_toArray, List.set_cons_zero, List.set_cons_succ]
        rfl
      refine done_ (by kernel_rfl) ?_
      clear hHeld t0 t1 S
      have ND := Aside0.mk (NC.out _ (B5.out.trans ((below_drew (Below.refl _ _)).mono B5.out.size)))
      obtain ⟨t0, t1⟩ := blk2 (S5.out.blk 0 rfl)
      have hx := HXW.out _ S5.out.B
      go_wp2
      refine start_ (n := 13) (S := (fun W => Parts w.heap.size w W [pB (w.heap.size + 1) 57 #[.slice TF F.length tf, .slice (some ad) C ti], pB w.heap.size 26 (ccells p c)])) (ds := []) #[false, false, false, false, false, false, false, false, false, false, false, false, false] (by kernel_rfl) rfl rfl S5.out.drew (fun hHeld => ?_)
      refine take_ (i := 0) (N := some 38) (v := ?_) (a' := ?_) #[true, false, false, false, false, false, false, false, false, false, false, false, false] rfl rfl (by kernel_rfl) (fun _ _ _ h => h) (Or.inl ⟨by rfl, ?_⟩) hHeld ?_ ?_
      rotate_left
      · intro w' s0
        obtain ⟨d0, d1, d2, d3, d4⟩ := blk5 (s0.blk 1 rfl)
        go_simp
        with_reducible rfl
      rotate_left
      · simp only [Act.put, List.setIfInBounds_toArray, List.set_cons_zero, List.set_cons_succ]
        rfl
      refine pure_ (i := 1) (N := some 39) (v := ?_) (a' := ?_) #[true, true, false, false, false, false, false, false, false, false, false, false, false] rfl rfl (by kernel_rfl) (fun _ _ _ h => h) (Or.inl ⟨by rfl, ?_⟩) ?_ ?_
      rotate_left
      · intro w'
        go_simp
        with_reducible rfl
      rotate_left
      · simp only [Act.put, List.setIfInBounds_toArray, List.set_cons_zero, List.set_cons_succ]
        rfl
      refine pure_ (i := 2) (N := some 40) (v := ?_) (a' := ?_) #[true, true, true, false, false, false, false, false, false, false, false, false, false] rfl rfl (by kernel_rfl) (fun _ _ _ h => h) (Or.inl ⟨by rfl, ?_⟩) ?_ ?_
      rotate_left
      · intro w'
        go_simp
        with_reducible rfl
      rotate_left
      · simp only [Act.put, List.setIfInBounds_toArray, List.set_cons_zero, List.set_cons_succ]
        rfl
      refine take_ (i := 3) (N := some 41) (v := ?_) (a' := ?_) #[true, true, true, true, false, false, false, false, false, false, false, false, false] rfl rfl (by kernel_rfl) (fun _ _ _ h => h) (Or.inl ⟨by rfl, ?_⟩) hHeld ?_ ?_
      rotate_left
      · intro w' s0
        have h_ := (s0.cell 0 rfl 1 rfl).1
        go_simp
        with_reducible rfl
      rotate_left
      · simp only [Act.put, List.setIfInBounds_toArray, List.set_cons_zero, List.set_cons_succ]
        rfl
      refine pure_ (i := 4) (N := some 42) (v := ?_) (a' := ?_) #[true, true, true, true, true, false, false, false, false, false, false, false, false] rfl rfl (by kernel_rfl) (fun _ _ _ h => h) (Or.inl ⟨by rfl, ?_⟩) ?_ ?_
      rotate_left
      · intro w'
        go_simp
        with_reducible rfl
      rotate_left
      · simp only [Act.put, List.setIfInBounds_toArray, List.set_cons_zero, List.set_cons_succ]
        rfl
      refine pure_ (i := 5) (N := some 43) (v := ?_) (a' := ?_) #[true, true, true, true, true, true, false, false, false, false, false, false, false] rfl rfl (by kernel_rfl) (fun _ _ _ h => h) (Or.inl ⟨by rfl, ?_⟩) ?_ ?_
      rotate_left
      · intro w'
        go_simp
        with_reducible rfl
      rotate_left
      · simp only [Act.put, List.setIfInBounds_toArray, List.set_cons_zero, List.set_cons_succ]
        rfl
      refine take_ (i := 6) (N := some 44) (v := ?_) (a' := ?_) #[true, true, true, true, true, true, true, false, false, false, false, false, false] rfl rfl (by kernel_rfl) (fun _ _ _ h => h) (Or.inl ⟨by rfl, ?_⟩) hHeld ?_ ?_
      rotate_left
      · intro w' s0
        have h_ := HXW.out _ s0.B
        go_simp
        with_reducible rfl
      rotate_left
      · simp only [Act.put, List.setIfInBounds_toArray, List.set_cons_zero, List.set_cons_succ]
        rfl
      refine one_ (i := 7) (N := some 45) #[true, true, true, true, true, true, true, true, false, false, false, false, false] rfl rfl (by kernel_rfl) (by decide) (fun K hK => ?_)
      refine goes_ Try.func54 (by kernel_rfl) rfl #[cv p c, .slice A st.length d, .slice B ins.length cB] (by rfl) rfl rfl (by simp only [List.map_toArray, List.map_cons, List.map_nil] <;> rfl) ?_
      refine ND.out.mono ?_
      rintro e w8 ⟨A8, c8, rfl, hR8, hb8⟩
      refine ⟨_, rfl, ?_⟩
      have S8 := Aside0.mk (S5.out.drew.below hb8)
      have R5 := Aside0.mk (R5.out.below ((below_drew (Below.refl w5.heap.size w5)).trans (hb8.mono (below_drew (Below.refl w5.heap.size w5)).size)))
      have R8 := Aside0.mk (RS.of_R' hR8)
      have N8 := Aside0.mk (show (nextOf c st ins).length = c.f1.length by unfold nextOf; simp)
      clear hb8 hR8 ND
      refine hK.out _ _ S8.out (fun hHeld => ?_)
      clear hK K
      refine norm_ (a' := ?_) ?_ ?_
      rotate_left
      · show Act.put _ (some 45) _ = _
        simp only [Act.put, List.setIfInBounds_toArray, List.set_cons_zero, List.set_cons_succ]
        rfl
      refine pure_ (i := 8) (N := some 37) (v := ?_) (a' := ?_) #[true, true, true, true, true, true, true, true, true, false, false, false, false] rfl rfl (by kernel_rfl) (fun _ _ _ h => h) (Or.inl ⟨by rfl, ?_⟩) ?_ ?_
      rotate_left
      · intro w'
        go_simp
        with_reducible rfl
      rotate_left
      · simp only [Act.put, List.setIfInBounds_toArray, List.set_cons_zero, List.set_cons_succ]
        rfl
      refine pure_ (i := 9) (N := some 46) (v := ?_) (a' := ?_) #[true, true, true, true, true, true, true, true, true, true, false, false, false] rfl rfl (by kernel_rfl) (fun _ _ _ h => h) (Or.inl ⟨by rfl, ?_⟩) ?_ ?_
      rotate_left
      · intro w'
        go_simp
        with_reducible rfl
      rotate_left
      · simp only [Act.put, List.setIfInBounds_toArray, List.set_cons_zero, List.set_cons_succ]
        rfl
      refine pure_ (i := 10) (N := some 47) (v := ?_) (a' := ?_) #[true, true, true, true, true, true, true, true, true, true, true, false, false] rfl rfl (by kernel_rfl) (fun _ _ _ h => h) (Or.inl ⟨by rfl, ?_⟩) ?_ ?_
      rotate_left
      · intro w'
        go_simp
        with_reducible rfl
      rotate_left
      · simp only [Act.put, List.setIfInBounds_toArray, List.set_cons_zero, List.set_cons_succ]
        rfl
      refine pure_ (i := 11) (N := some 12) (v := ?_) (a' := ?_) #[true, true, true, true, true, true, true, true, true, true, true, true, false] rfl rfl (by kernel_rfl) (fun _ _ _ h => h) (Or.inl ⟨by rfl, ?_⟩) ?_ ?_
      rotate_left
      · intro w'
        go_simp
        with_reducible rfl
      rotate_left
      · simp only [Act.put, List.setIfInBounds_toArray, List.set_cons_zero, List.set_cons_succ]
        rfl
      refine pure_ (i := 12) (N := some 13) (v := ?_) (a' := ?_) #[true, true, true, true, true, true, true, true, true, true, true, true, true] rfl rfl (by kernel_rfl) (fun _ _ _ h => h) (Or.inl ⟨by rfl, ?_⟩) ?_ ?_
      rotate_left
      · intro w'
        go_simp
        with_reducible rfl
      rotate_left
      · simp only [Act.put, List.setIfInBounds_toArray, List.set_cons_zero, List.set_cons_succ]
        rfl
      refine done_ (by kernel_rfl) ?_
      clear hHeld t0 t1 hx S5 B5 PC NC
      obtain ⟨bl, hbl⟩ : ∃ l, badsOf c st ins = l := ⟨_, rfl⟩
      rw [hbl] at R5 HCS ⊢
      have HMB := Aside0.mk R5.out.max
      clear hbl
      go_wp2
      go_loopg [14, 15] bl.length (fun gg s14 s15 wq => ∃ j : Nat, s14 = .bool ((bl.take j).any id) ∧ s15 = .int .i64 j ∧ Aside0 (j ≤ bl.length ∧ bl.length - j ≤ gg) ∧ Aside0 (Below w8.heap.size w8 wq))
      case atStart => exact ⟨0, rfl, rfl, ⟨by omega, by omega⟩, ⟨Below.refl _ _⟩⟩
      case round =>
        obtain ⟨j, rfl, rfl, HJ, BQ⟩ := hrel
        obtain ⟨bd, hbd⟩ : ∃ b, (bl.take j).any id = b := ⟨_, rfl⟩
        have HBD := Aside0.mk hbd
        rw [hbd]
        clear hbd
        by_cases hlt : j < bl.length
        · obtain ⟨cd, e3, hu⟩ := at_bool (R5.out.below BQ.out).r j hlt
          subst e3
          have hltj : (j : Int) < bl.length := by omega
          obtain ⟨y, hy⟩ : ∃ y, bl[j] = y := ⟨_, rfl⟩
          rw [hy] at hu
          have HY := Aside0.mk (show bl[j]? = some y by rw [List.getElem?_eq_getElem hlt, hy])
          have HLJ := Aside0.mk hlt
          clear hy hlt
          cases bd with
          | true =>
            go_wp2
            go_roundg (bl.length - (j + 1))
            case measure => have := HJ.out; have := HLJ.out; omega
            case rel => exact ⟨j + 1, by rw [any_step_id HY.out HBD.out]; rfl, (by first | exact val_step HLJ.out HMB.out | rfl), ⟨by have := HLJ.out; omega, by have := HJ.out; have := HLJ.out; omega⟩, BQ⟩
          | false =>
            go_wp2
            go_roundg (bl.length - (j + 1))
            case measure => have := HJ.out; have := HLJ.out; omega
            case rel => exact ⟨j + 1, by rw [any_step_id HY.out HBD.out]; rfl, (by first | exact val_step HLJ.out HMB.out | rfl), ⟨by have := HLJ.out; omega, by have := HJ.out; have := HLJ.out; omega⟩, BQ⟩
        · have hj : j = bl.length := by have := HJ.out; omega
          subst hj
          have HBA := Aside0.mk (show bl.any id = bd by have h_ := HBD.out; rw [List.take_length] at h_; exact h_)
          clear HBD HJ hlt
          have S9 := Aside0.mk (S8.out.below BQ.out)
          have R9 := Aside0.mk (R8.out.below BQ.out)
          clear S8 R8 BQ R5
          obtain ⟨t0, t1⟩ := blk2 (S9.out.blk 0 rfl)
          have hw1 : wrap64 ((C : Int) - 1) = (C : Int) - 1 := wrap_in (by omega) (by have := HCI.out; have := HM.out; omega)
          cases bd with
          | true =>
            have hkC : k + 1 = C := by
              rcases HCS.out with h_ | h_
              · exact h_.2
              · rw [HBA.out] at h_; exact absurd h_.1 (by decide)
            have HKC := Aside0.mk hkC
            have hk1 : ¬ (k : Int) < (C : Int) - 1 := by omega
            have hk2 : ((k : Int) == (C : Int) - 1) = true := beq_iff_eq.2 (by omega)
            clear hkC
            cases has with
            | true =>
              go_wp2
              go_roundg (C - (k + 1))
              case measure => have := HX.out; have := HLT.out; omega
              case rel => exact ⟨k + 1, A8, c8, nextOf c st ins, rfl, (by first | exact val_step HLT.out (by have := HM.out; have := HCI.out; omega) | rfl), ⟨by have := HLT.out; omega, by have := HX.out; have := HLT.out; omega⟩, S9, ⟨R9.out, N8.out⟩, ⟨fun h_ => by have := HKC.out; omega⟩⟩
            | false =>
              go_wp2
              go_roundg (C - (k + 1))
              case measure => have := HX.out; have := HLT.out; omega
              case rel => exact ⟨k + 1, A8, c8, nextOf c st ins, rfl, (by first | exact val_step HLT.out (by have := HM.out; have := HCI.out; omega) | rfl), ⟨by have := HLT.out; omega, by have := HX.out; have := HLT.out; omega⟩, S9, ⟨R9.out, N8.out⟩, ⟨fun h_ => by have := HKC.out; omega⟩⟩
          | false =>
            have hkC : stopAt fine (k + 1) (frames c (nextOf c st ins) (I.drop (k + 1))) = C ∧ (k + 1 = C → C = I.length) := by
              rcases HCS.out with h_ | h_
              · rw [HBA.out] at h_; exact absurd h_.1 (by decide)
              · exact h_.2
            have HKC := Aside0.mk hkC.1
            cases has with
            | true =>
              have hk2 : ((k : Int) == (C : Int) - 1) = false := beq_eq_false_iff_ne.2 (fun h_ => by
                have h1 := of_decide_eq_true HH.out
                have h2 := hkC.2 (by omega)
                omega)
              clear hkC
              go_wp2
              go_roundg (C - (k + 1))
              case measure => have := HX.out; have := HLT.out; omega
              case rel => exact ⟨k + 1, A8, c8, nextOf c st ins, rfl, (by first | exact val_step HLT.out (by have := HM.out; have := HCI.out; omega) | rfl), ⟨by have := HLT.out; omega, by have := HX.out; have := HLT.out; omega⟩, S9, ⟨R9.out, N8.out⟩, ⟨fun h_ => HKC.out⟩⟩
            | false =>
              clear hkC
              go_wp2
              go_roundg (C - (k + 1))
              case measure => have := HX.out; have := HLT.out; omega
              case rel => exact ⟨k + 1, A8, c8, nextOf c st ins, rfl, (by first | exact val_step HLT.out (by have := HM.out; have := HCI.out; omega) | rfl), ⟨by have := HLT.out; omega, by have := HX.out; have := HLT.out; omega⟩, S9, ⟨R9.out, N8.out⟩, ⟨fun h_ => HKC.out⟩⟩
    · have hk : k = C := by have := HX.out; omega
      subst hk
      have hlti : ¬ ((k : Nat) : Int) < (k : Int) := by omega
      clear hlt
      go_wp2
      go_ret
      exact ⟨rfl, S.out.B⟩
end Go.Proofs.Ytlhiapggccgggaa.PH
