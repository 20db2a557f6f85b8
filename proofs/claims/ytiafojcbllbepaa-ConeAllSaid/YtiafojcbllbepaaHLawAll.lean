/- The law ConeAll: all that is left is in the cone. -/
import Derived.Test.YtiafojcbllbepaaHLawRest
import Derived.Test.YtiafojcbllbepaaHAllQ
import Derived.Test.YtiafojcbllbepaaHKind
import Derived.Test.YtiafojcbllbepaaHLawPasses
namespace Go.Proofs.Ytiafojcbllbepaa.PH
open Go.RowKit Go.Proofs.YtiafojcbllbepaaW.PrintWords Go.Proofs.YtiafojcbllbepaaW.PrintLast
set_option linter.unusedVariables false
set_option linter.unusedSimpArgs false

@[reducible] def cc5 (p : CP) (c : Circ) : Array Value := #[.int .i64 c.f0, .slice p.A1 c.f1.length p.c1, .slice p.A2 c.f2.length p.c2, .slice p.A3 c.f3.length p.c3, .slice p.A4 c.f4.length p.c4]
theorem blk12 {w : World} {g : Nat} {t : TypeId} {v0 v1 v2 v3 v4 v5 v6 v7 v8 v9 v10 v11 : Value} (h : w.heap[g]? = some (.cells #[v0, v1, v2, v3, v4, v5, v6, v7, v8, v9, v10, v11] t (0, 0))) :
    (w.cell? ⟨g, 0, none⟩ = some v0 ∧ w.cell? ⟨g, 1, none⟩ = some v1 ∧ w.cell? ⟨g, 2, none⟩ = some v2 ∧ w.cell? ⟨g, 3, none⟩ = some v3 ∧ w.cell? ⟨g, 4, none⟩ = some v4) ∧ w.cell? ⟨g, 5, none⟩ = some v5 ∧ w.cell? ⟨g, 6, none⟩ = some v6 ∧ w.cell? ⟨g, 7, none⟩ = some v7 ∧ w.cell? ⟨g, 8, none⟩ = some v8 ∧ w.cell? ⟨g, 9, none⟩ = some v9 ∧ w.cell? ⟨g, 10, none⟩ = some v10 ∧ w.cell? ⟨g, 11, none⟩ = some v11 :=
  ⟨⟨blk_cell h 0, blk_cell h 1, blk_cell h 2, blk_cell h 3, blk_cell h 4⟩, blk_cell h 5, blk_cell h 6, blk_cell h 7, blk_cell h 8, blk_cell h 9, blk_cell h 10, blk_cell h 11⟩
/-- A row comes back whose length is known by another name. -/
def RetLV (w w' : World) (l : List Int) (n : Nat) (e : Ending) : Prop := ∃ A cap, e = .returned (.tuple #[.slice A n cap, .int .i64 0]) ∧ Kd.R (Kd.int .i64) 3 w' w.heap.size (fun _ => True) (.slice A l.length cap) l ∧ Below w.heap.size w w'
/-- A circuit that is right has numbers of 64 bits. -/
theorem fits_check {c : Circ} (h : check c = 0) : c.Fits := by
  have hi := inside_of h
  have hg := gCheck_ok h
  have hm := check_more h
  have hs : (sizeC c : Int) ≤ 1000 := by unfold sizeC; omega
  have hv : ∀ l : Int, 0 ≤ l → varOf l ≤ sizeC c → I64 l := fun l h0 h1 => by
    unfold varOf at h1
    exact ⟨by omega, by omega⟩
  refine ⟨by omega, by omega, ⟨by omega, by omega⟩, fun x hx => ?_, fun x hx => ?_, fun l hl => ?_, fun l hl => ?_⟩
  · obtain ⟨i, hk, rfl⟩ := List.getElem_of_mem hx
    have h1 := hi.hl _ c.f1[i].f0 (by rw [lat_reads hk]; exact List.mem_singleton_self _)
    have h2 := hm.2.2.1 _ hx
    exact ⟨hv _ h1.1 h1.2, ⟨by omega, by omega⟩⟩
  · obtain ⟨i, hk, rfl⟩ := List.getElem_of_mem hx
    have h1 := hi.hg _ c.f2[i].f0 (by rw [gate_reads hk]; simp)
    have h2 := hi.hg _ c.f2[i].f1 (by rw [gate_reads hk]; simp)
    exact ⟨hv _ h1.1 (by omega), hv _ h2.1 (by omega)⟩
  · have h1 := hi.hp l (List.mem_append_left _ hl); exact hv _ h1.1 h1.2
  · have h1 := hi.hp l (List.mem_append_right _ hl); exact hv _ h1.1 h1.2
theorem set_step {V : List Int} {k u : Nat} {b : List Bool} (h : V[k]? = some (u : Int)) : (setAll (V.take k) b).set u true = setAll (V.take (k + 1)) b := by
  rw [List.take_add_one, h]
  show _ = setAll (V.take k ++ [(u : Int)]) b
  rw [setAll_snoc, Int.toNat_natCast]
set_option maxHeartbeats 16000000 in
set_option maxRecDepth 100000 in
theorem law_ConeAll (p : CP) (c : Circ) (w : World) (h : RC w p c) (nc : c.Nums) :
    Calls Try.prog 6 #[cv p c] w fun e w' => e = .returned (.bool true) ∧ Below w.heap.size w w' := by
  have HH := Aside0.mk h
  have hu26 := Try.underlying26
  have hu40 := Try.underlying40
  have hu49 := Try.underlying49
  have hu51 := Try.underlying51
  have NC := Aside0.mk nc
  have S := ((Parts.start w).new 26 (cc5 p c))
  replace S := Aside0.mk S
  obtain ⟨o, ho⟩ : ∃ o, great c = o := ⟨_, rfl⟩
  have HO := Aside0.mk ho
  clear h nc ho
  go_enter Try.func6, Try.ntmps6
  go_upto_region 1 with (fail)
  obtain ⟨w1, hw1⟩ : ∃ W, (w.alloc (.cells (cc5 p c) 26)) = W := ⟨_, rfl⟩
  rw [hw1] at S ⊢
  clear hw1
  go_wp2_with fail
  refine (law28_alive _).mono ?_
  rintro e w2 ⟨rfl, hb⟩
  replace S := Aside0.mk (S.out.below hb)
  clear hb
  obtain ⟨a_0, a_1, a_2, a_3, a_4⟩ := blk5 (S.out.blk 0 rfl)
  go_wp2_with fail
  refine (ref02_Great p c _).mono ?_
  rintro e w3 ⟨rfl, hb⟩
  replace S := Aside0.mk (S.out.below hb)
  rw [HO.out]
  clear a_0 a_1 a_2 a_3 a_4 hb
  cases o with
  | true =>
    go_wp2
    go_ret
    exact ⟨rfl, S.out.B⟩
  | false =>
  have FC := Aside0.mk (NC.out.fitsC HO.out)
  obtain ⟨a_0, a_1, a_2, a_3, a_4⟩ := blk5 (S.out.blk 0 rfl)
  go_wp2_with fail
  refine (ref02_Check p c _ (HH.out.below S.out.B) FC.out).mono ?_
  rintro e w4 ⟨rfl, hb⟩
  replace S := Aside0.mk (S.out.below hb)
  clear a_0 a_1 a_2 a_3 a_4 hb
  by_cases hc : check c = 0
  case neg =>
    have hcb : (check c != 0) = true := bne_iff_ne.2 hc
    clear hc
    go_wp2
    go_ret
    exact ⟨rfl, S.out.B⟩
  rw [hc]
  have HC := Aside0.mk hc
  have hcr := new_check hc
  have HCR := Aside0.mk hcr
  have HSZ := Aside0.mk (show sizeC c ≤ 1000 by have := gCheck_ok hc; unfold sizeC; omega)
  obtain ⟨R, hR⟩ : ∃ R, coneC c = R := ⟨_, rfl⟩
  obtain ⟨V, hV⟩ : ∃ V, coneV c = V := ⟨_, rfl⟩
  obtain ⟨M, hM⟩ : ∃ M, coneV R = M := ⟨_, rfl⟩
  have HVL := Aside0.mk (show V.length = sizeC R by rw [← hV, ← hR]; exact vars_len hc)
  have HML := Aside0.mk (show M.length = V.length by rw [← hM, ← hR, new_vars hc, List.length_map, List.length_range, HVL.out, hR])
  have HMK := Aside0.mk (show ∀ k (hk : k < M.length), M[k] = (k : Int) + 1 from fun k hk => by
    have h_ := new_vars hc
    rw [hR, hM] at h_
    simp only [h_, List.getElem_map, List.getElem_range])
  have HVK := Aside0.mk (show ∀ k (hk : k < V.length), ∃ u : Nat, V[k] = (u : Int) ∧ Reach c u ∧ newV c u = k + 1 from by rw [← hV]; exact fun k hk => var_at hc hk)
  rw [hR] at hcr
  have HCQ := Aside0.mk hcr
  have FR := Aside0.mk (fits_check hcr)
  have HSR := Aside0.mk (show sizeC R ≤ 1000 by have := gCheck_ok hcr; unfold sizeC; omega)
  have HIR := Aside0.mk (inside_of hcr).h0
  obtain ⟨L, hL⟩ : ∃ L, passL c (coneB c) (toldF (coneB c) 0) = L := ⟨_, rfl⟩
  have C1 := Aside0.mk (fun W (hb : Below w.heap.size w W) => show Calls Try.prog 10 #[cv p c] W (fun e w' => RetLE W w' (V, 0) e) from by
    have h_ := cone_Of p c W (HH.out.below hb) FC.out
    unfold ofC at h_
    rw [if_pos hc, hV] at h_
    exact h_)
  have C2 := Aside0.mk (fun W (hb : Below w.heap.size w W) => show Calls Try.prog 12 #[cv p c] W (fun e w' => RetRd W w' ⟨R, L⟩ 0 e) from by
    have h_ := cone_Pass p c W (HH.out.below hb) FC.out
    unfold passR at h_
    rw [if_pos hc, hL, show passC c (coneB c) (toldF (coneB c) 0) = R from hR] at h_
    exact h_)
  have C3 := Aside0.mk (fun W q (hq : RC W q R) => show Calls Try.prog 10 #[cv q R] W (fun e w' => RetLV W w' M V.length e) from by
    have h_ := cone_Of q R W hq FR.out
    unfold ofC at h_
    rw [if_pos hcr, hM] at h_
    refine h_.mono ?_
    rintro e w' ⟨A, cap, rfl, hr, hb⟩
    exact ⟨A, cap, by rw [← HML.out], hr, hb⟩)
  have C4 := Aside0.mk (fun W q (hq : RC W q R) => show Calls Try.prog 12 #[cv q R] W (fun e w' => RetRd W w' ⟨R, idOf R⟩ 0 e) from by
    have h_ := cone_Pass q R W hq FR.out
    have h2 := new_pass hc
    rw [hR] at h2
    rw [h2] at h_
    exact h_)
  have C5 := Aside0.mk (fun W q (hq : RC W q R) => show Calls Try.prog 19 #[cv q R] W (fun e w' => e = .returned (.tuple #[.int .i64 (V.length : Int), .int .i64 0]) ∧ Below W.heap.size W w') from by
    have h_ := gates_Vars q R W hq FR.out
    have h0 := (inside_of hcr).h0
    rw [if_pos hcr, hcr, show R.f0 + (R.f1.length : Int) + (R.f2.length : Int) = (V.length : Int) by rw [HVL.out]; unfold sizeC; omega] at h_
    exact h_)
  have C6 := Aside0.mk (fun W (hb : Below w.heap.size w W) (u : Nat) (hu : Reach c u) => show Calls Try.prog 22 #[cv p c, .int .i64 (u : Int)] W (fun e w' => e = .returned (.tuple #[.int .i64 (kindV c u).1, .int .i64 (kindV c u).2, .int .i64 0]) ∧ Below W.heap.size W w') from
    gates_Kind p c u W (HH.out.below hb) FC.out HC.out (by omega) (by have h1 := hu.le (inside_of HC.out); have h0 := (inside_of HC.out).h0; unfold sizeC at h1; omega))
  have C7 := Aside0.mk (fun W q (hq : RC W q R) (k : Nat) (hk : k + 1 ≤ sizeC R) => show Calls Try.prog 22 #[cv q R, .int .i64 ((k : Int) + 1)] W (fun e w' => e = .returned (.tuple #[.int .i64 (kindV R ((k : Int) + 1)).1, .int .i64 (kindV R ((k : Int) + 1)).2, .int .i64 0]) ∧ Below W.heap.size W w') from
    gates_Kind q R _ W hq FR.out hcr (by omega) (by have h0 := (inside_of hcr).h0; unfold sizeC at hk; omega))
  have HKN := Aside0.mk (show ∀ (u k : Nat), Reach c u → newV c u = k + 1 → (kindV c (u : Int)).1 = (kindV R ((k : Int) + 1)).1 ∧ (kindV R ((k : Int) + 1)).2 ≤ (kindV c (u : Int)).2 from fun u k hu hk => by
    have h_ := kind_new hc hu
    rw [hR, hk] at h_
    push_cast at h_
    exact h_)
  have HRS := Aside0.mk (show ∀ v, Reach c v → (setAll V (List.replicate 1002 false)).getD v false = true from fun v hv => hV ▸ reach_set hc hv)
  clear hc hcr hV hM hR hL
  obtain ⟨a_0, a_1, a_2, a_3, a_4⟩ := blk5 (S.out.blk 0 rfl)
  go_wp2_with fail
  refine (C1.out _ S.out.B).mono ?_
  rintro e w5 ⟨A, cA, rfl, hrr, hb⟩
  replace S := Aside0.mk (S.out.below hb)
  have RV := Aside0.mk (RS.of_R' hrr)
  clear hrr C1
  clear a_0 a_1 a_2 a_3 a_4 hb
  dsimp only at RV ⊢
  obtain ⟨a_0, a_1, a_2, a_3, a_4⟩ := blk5 (S.out.blk 0 rfl)
  go_wp2_with fail
  refine (C2.out _ S.out.B).mono ?_
  rintro e w6 ⟨p5, q5, rfl, hp5, hq5, hb⟩
  replace S := Aside0.mk (S.out.below hb)
  replace RV := Aside0.mk (RV.out.below hb)
  have RR := Aside0.mk hp5
  clear hp5 hq5 C2
  clear a_0 a_1 a_2 a_3 a_4 hb
  replace S := Aside0.mk (S.out.new 40 (rcells p5 q5 ⟨R, L⟩))
  replace RV := Aside0.mk (RV.out.below (below_alloc (Below.refl _ _) (.cells (rcells p5 q5 ⟨R, L⟩) 40)))
  replace RR := Aside0.mk (RR.out.below (below_alloc (Below.refl _ _) (.cells (rcells p5 q5 ⟨R, L⟩) 40)))
  go_upto_region 6 with (fail)
  generalize w6.heap.size = gr at *
  generalize w6.alloc (.cells (rcells p5 q5 ⟨R, L⟩) 40) = w6b at *
  obtain ⟨r_c0, r_f0⟩ := S.out.cell 0 rfl 0 rfl
  obtain ⟨r_c1, r_f1⟩ := S.out.cell 0 rfl 1 rfl
  obtain ⟨r_c2, r_f2⟩ := S.out.cell 0 rfl 2 rfl
  obtain ⟨r_c3, r_f3⟩ := S.out.cell 0 rfl 3 rfl
  obtain ⟨r_c4, r_f4⟩ := S.out.cell 0 rfl 4 rfl
  go_wp2_with fail
  refine (C3.out _ p5 RR.out).mono ?_
  rintro e w7 ⟨B, cB, rfl, hrr, hb⟩
  replace S := Aside0.mk (S.out.below hb)
  replace RV := Aside0.mk (RV.out.below hb)
  replace RR := Aside0.mk (RR.out.below hb)
  have RM := Aside0.mk (RS.of_R' hrr)
  clear hrr C3
  clear r_c0 r_f0 r_c1 r_f1 r_c2 r_f2 r_c3 r_f3 r_c4 r_f4 hb
  obtain ⟨r_c0, r_f0⟩ := S.out.cell 0 rfl 0 rfl
  obtain ⟨r_c1, r_f1⟩ := S.out.cell 0 rfl 1 rfl
  obtain ⟨r_c2, r_f2⟩ := S.out.cell 0 rfl 2 rfl
  obtain ⟨r_c3, r_f3⟩ := S.out.cell 0 rfl 3 rfl
  obtain ⟨r_c4, r_f4⟩ := S.out.cell 0 rfl 4 rfl
  go_wp2_with fail
  refine (C4.out _ p5 RR.out).mono ?_
  rintro e w8 ⟨p7, q7, rfl, hp7, hq7, hb⟩
  replace S := Aside0.mk (S.out.below hb)
  replace RV := Aside0.mk (RV.out.below hb)
  replace RR := Aside0.mk (RR.out.below hb)
  replace RM := Aside0.mk (RM.out.below hb)
  have RQ := Aside0.mk hp7
  have LQ := Aside0.mk hq7
  clear hp7 hq7 C4
  clear r_c0 r_f0 r_c1 r_f1 r_c2 r_f2 r_c3 r_f3 r_c4 r_f4 hb
  replace S := Aside0.mk (S.out.new 40 (rcells p7 q7 ⟨R, idOf R⟩))
  replace RV := Aside0.mk (RV.out.below (below_alloc (Below.refl _ _) (.cells (rcells p7 q7 ⟨R, idOf R⟩) 40)))
  replace RR := Aside0.mk (RR.out.below (below_alloc (Below.refl _ _) (.cells (rcells p7 q7 ⟨R, idOf R⟩) 40)))
  replace RM := Aside0.mk (RM.out.below (below_alloc (Below.refl _ _) (.cells (rcells p7 q7 ⟨R, idOf R⟩) 40)))
  replace RQ := Aside0.mk (RQ.out.below (below_alloc (Below.refl _ _) (.cells (rcells p7 q7 ⟨R, idOf R⟩) 40)))
  replace LQ := Aside0.mk (LQ.out.below (below_alloc (Below.refl _ _) (.cells (rcells p7 q7 ⟨R, idOf R⟩) 40)))
  go_upto_region 8 with (fail)
  generalize w8.heap.size = gq at *
  generalize w8.alloc (.cells (rcells p7 q7 ⟨R, idOf R⟩) 40) = w8b at *
  obtain ⟨r_c0, r_f0⟩ := S.out.cell 1 rfl 0 rfl
  obtain ⟨r_c1, r_f1⟩ := S.out.cell 1 rfl 1 rfl
  obtain ⟨r_c2, r_f2⟩ := S.out.cell 1 rfl 2 rfl
  obtain ⟨r_c3, r_f3⟩ := S.out.cell 1 rfl 3 rfl
  obtain ⟨r_c4, r_f4⟩ := S.out.cell 1 rfl 4 rfl
  go_wp2_with fail
  refine (C5.out _ p5 RR.out).mono ?_
  rintro e w9 ⟨rfl, hb⟩
  replace S := Aside0.mk (S.out.below hb)
  replace RV := Aside0.mk (RV.out.below hb)
  replace RR := Aside0.mk (RR.out.below hb)
  replace RM := Aside0.mk (RM.out.below hb)
  replace RQ := Aside0.mk (RQ.out.below hb)
  replace LQ := Aside0.mk (LQ.out.below hb)
  clear C5
  clear r_c0 r_f0 r_c1 r_f1 r_c2 r_f2 r_c3 r_f3 r_c4 r_f4 hb
  go_upto_region 9 with (fail)
  go_wp2
  refine start_ (n := 48) (S := (fun W => Parts w.heap.size w W [pB gq 40 (rcells p7 q7 ⟨R, idOf R⟩), pB gr 40 (rcells p5 q5 ⟨R, L⟩), pB w.heap.size 26 (cc5 p c)])) (ds := []) #[false, false, false, false, false, false, false, false, false, false, false, false, false, false, false, false, false, false, false, false, false, false, false, false, false, false, false, false, false, false, false, false, false, false, false, false, false, false, false, false, false, false, false, false, false, false, false, false] (by as_aux_lemma => kernel_rfl) rfl rfl S.out.drew (fun hHeld => ?_)
  refine pure_ (i := 0) (N := some 64) (v := ?_) (a' := ?_) #[true, false, false, false, false, false, false, false, false, false, false, false, false, false, false, false, false, false, false, false, false, false, false, false, false, false, false, false, false, false, false, false, false, false, false, false, false, false, false, false, false, false, false, false, false, false, false, false] rfl rfl (by as_aux_lemma => kernel_rfl) (fun _ _ _ h => h) (Or.inl ⟨by rfl, ?_⟩) ?_ ?_
  rotate_left
  · intro w'
    go_simp
    with_reducible rfl
  rotate_left
  · simp only [Act.put, List.setIfInBounds_toArray, List.set_cons_zero, List.set_cons_succ]
    rfl
  refine pure_ (i := 1) (N := some 65) (v := ?_) (a' := ?_) #[true, true, false, false, false, false, false, false, false, false, false, false, false, false, false, false, false, false, false, false, false, false, false, false, false, false, false, false, false, false, false, false, false, false, false, false, false, false, false, false, false, false, false, false, false, false, false, false] rfl rfl (by as_aux_lemma => kernel_rfl) (fun _ _ _ h => h) (Or.inl ⟨by rfl, ?_⟩) ?_ ?_
  rotate_left
  · intro w'
    go_simp
    with_reducible rfl
  rotate_left
  · simp only [Act.put, List.setIfInBounds_toArray, List.set_cons_zero, List.set_cons_succ]
    rfl
  refine pure_ (i := 2) (N := some 66) (v := ?_) (a' := ?_) #[true, true, true, false, false, false, false, false, false, false, false, false, false, false, false, false, false, false, false, false, false, false, false, false, false, false, false, false, false, false, false, false, false, false, false, false, false, false, false, false, false, false, false, false, false, false, false, false] rfl rfl (by as_aux_lemma => kernel_rfl) (fun _ _ _ h => h) (Or.inl ⟨by rfl, ?_⟩) ?_ ?_
  rotate_left
  · intro w'
    go_simp
    with_reducible rfl
  rotate_left
  · simp only [Act.put, List.setIfInBounds_toArray, List.set_cons_zero, List.set_cons_succ]
    rfl
  refine pure_ (i := 3) (N := some 67) (v := ?_) (a' := ?_) #[true, true, true, true, false, false, false, false, false, false, false, false, false, false, false, false, false, false, false, false, false, false, false, false, false, false, false, false, false, false, false, false, false, false, false, false, false, false, false, false, false, false, false, false, false, false, false, false] rfl rfl (by as_aux_lemma => kernel_rfl) (fun _ _ _ h => h) (Or.inl ⟨by rfl, ?_⟩) ?_ ?_
  rotate_left
  · intro w'
    go_simp
    with_reducible rfl
  rotate_left
  · simp only [Act.put, List.setIfInBounds_toArray, List.set_cons_zero, List.set_cons_succ]
    rfl
  refine pure_ (i := 4) (N := some 68) (v := ?_) (a' := ?_) #[true, true, true, true, true, false, false, false, false, false, false, false, false, false, false, false, false, false, false, false, false, false, false, false, false, false, false, false, false, false, false, false, false, false, false, false, false, false, false, false, false, false, false, false, false, false, false, false] rfl rfl (by as_aux_lemma => kernel_rfl) (fun _ _ _ h => h) (Or.inl ⟨by rfl, ?_⟩) ?_ ?_
  rotate_left
  · intro w'
    go_simp
    with_reducible rfl
  rotate_left
  · simp only [Act.put, List.setIfInBounds_toArray, List.set_cons_zero, List.set_cons_succ]
    rfl
  refine pure_ (i := 5) (N := some 69) (v := ?_) (a' := ?_) #[true, true, true, true, true, true, false, false, false, false, false, false, false, false, false, false, false, false, false, false, false, false, false, false, false, false, false, false, false, false, false, false, false, false, false, false, false, false, false, false, false, false, false, false, false, false, false, false] rfl rfl (by as_aux_lemma => kernel_rfl) (fun _ _ _ h => h) (Or.inl ⟨by rfl, ?_⟩) ?_ ?_
  rotate_left
  · intro w'
    go_simp
    with_reducible rfl
  rotate_left
  · simp only [Act.put, List.setIfInBounds_toArray, List.set_cons_zero, List.set_cons_succ]
    rfl
  refine pure_ (i := 6) (N := some 70) (v := ?_) (a' := ?_) #[true, true, true, true, true, true, true, false, false, false, false, false, false, false, false, false, false, false, false, false, false, false, false, false, false, false, false, false, false, false, false, false, false, false, false, false, false, false, false, false, false, false, false, false, false, false, false, false] rfl rfl (by as_aux_lemma => kernel_rfl) (fun _ _ _ h => h) (Or.inl ⟨by rfl, ?_⟩) ?_ ?_
  rotate_left
  · intro w'
    go_simp
    with_reducible rfl
  rotate_left
  · simp only [Act.put, List.setIfInBounds_toArray, List.set_cons_zero, List.set_cons_succ]
    rfl
  refine pure_ (i := 7) (N := some 71) (v := ?_) (a' := ?_) #[true, true, true, true, true, true, true, true, false, false, false, false, false, false, false, false, false, false, false, false, false, false, false, false, false, false, false, false, false, false, false, false, false, false, false, false, false, false, false, false, false, false, false, false, false, false, false, false] rfl rfl (by as_aux_lemma => kernel_rfl) (fun _ _ _ h => h) (Or.inl ⟨by rfl, ?_⟩) ?_ ?_
  rotate_left
  · intro w'
    go_simp
    with_reducible rfl
  rotate_left
  · simp only [Act.put, List.setIfInBounds_toArray, List.set_cons_zero, List.set_cons_succ]
    rfl
  refine pure_ (i := 8) (N := some 72) (v := ?_) (a' := ?_) #[true, true, true, true, true, true, true, true, true, false, false, false, false, false, false, false, false, false, false, false, false, false, false, false, false, false, false, false, false, false, false, false, false, false, false, false, false, false, false, false, false, false, false, false, false, false, false, false] rfl rfl (by as_aux_lemma => kernel_rfl) (fun _ _ _ h => h) (Or.inl ⟨by rfl, ?_⟩) ?_ ?_
  rotate_left
  · intro w'
    go_simp
    with_reducible rfl
  rotate_left
  · simp only [Act.put, List.setIfInBounds_toArray, List.set_cons_zero, List.set_cons_succ]
    rfl
  refine pure_ (i := 9) (N := some 73) (v := ?_) (a' := ?_) #[true, true, true, true, true, true, true, true, true, true, false, false, false, false, false, false, false, false, false, false, false, false, false, false, false, false, false, false, false, false, false, false, false, false, false, false, false, false, false, false, false, false, false, false, false, false, false, false] rfl rfl (by as_aux_lemma => kernel_rfl) (fun _ _ _ h => h) (Or.inl ⟨by rfl, ?_⟩) ?_ ?_
  rotate_left
  · intro w'
    go_simp
    with_reducible rfl
  rotate_left
  · simp only [Act.put, List.setIfInBounds_toArray, List.set_cons_zero, List.set_cons_succ]
    rfl
  refine pure_ (i := 10) (N := some 74) (v := ?_) (a' := ?_) #[true, true, true, true, true, true, true, true, true, true, true, false, false, false, false, false, false, false, false, false, false, false, false, false, false, false, false, false, false, false, false, false, false, false, false, false, false, false, false, false, false, false, false, false, false, false, false, false] rfl rfl (by as_aux_lemma => kernel_rfl) (fun _ _ _ h => h) (Or.inl ⟨by rfl, ?_⟩) ?_ ?_
  rotate_left
  · intro w'
    go_simp
    with_reducible rfl
  rotate_left
  · simp only [Act.put, List.setIfInBounds_toArray, List.set_cons_zero, List.set_cons_succ]
    rfl
  refine pure_ (i := 11) (N := some 75) (v := ?_) (a' := ?_) #[true, true, true, true, true, true, true, true, true, true, true, true, false, false, false, false, false, false, false, false, false, false, false, false, false, false, false, false, false, false, false, false, false, false, false, false, false, false, false, false, false, false, false, false, false, false, false, false] rfl rfl (by as_aux_lemma => kernel_rfl) (fun _ _ _ h => h) (Or.inl ⟨by rfl, ?_⟩) ?_ ?_
  rotate_left
  · intro w'
    go_simp
    with_reducible rfl
  rotate_left
  · simp only [Act.put, List.setIfInBounds_toArray, List.set_cons_zero, List.set_cons_succ]
    rfl
  refine pure_ (i := 12) (N := some 76) (v := ?_) (a' := ?_) #[true, true, true, true, true, true, true, true, true, true, true, true, true, false, false, false, false, false, false, false, false, false, false, false, false, false, false, false, false, false, false, false, false, false, false, false, false, false, false, false, false, false, false, false, false, false, false, false] rfl rfl (by as_aux_lemma => kernel_rfl) (fun _ _ _ h => h) (Or.inl ⟨by rfl, ?_⟩) ?_ ?_
  rotate_left
  · intro w'
    go_simp
    with_reducible rfl
  rotate_left
  · simp only [Act.put, List.setIfInBounds_toArray, List.set_cons_zero, List.set_cons_succ]
    rfl
  refine pure_ (i := 13) (N := some 77) (v := ?_) (a' := ?_) #[true, true, true, true, true, true, true, true, true, true, true, true, true, true, false, false, false, false, false, false, false, false, false, false, false, false, false, false, false, false, false, false, false, false, false, false, false, false, false, false, false, false, false, false, false, false, false, false] rfl rfl (by as_aux_lemma => kernel_rfl) (fun _ _ _ h => h) (Or.inl ⟨by rfl, ?_⟩) ?_ ?_
  rotate_left
  · intro w'
    go_simp
    with_reducible rfl
  rotate_left
  · simp only [Act.put, List.setIfInBounds_toArray, List.set_cons_zero, List.set_cons_succ]
    rfl
  refine pure_ (i := 14) (N := some 78) (v := ?_) (a' := ?_) #[true, true, true, true, true, true, true, true, true, true, true, true, true, true, true, false, false, false, false, false, false, false, false, false, false, false, false, false, false, false, false, false, false, false, false, false, false, false, false, false, false, false, false, false, false, false, false, false] rfl rfl (by as_aux_lemma => kernel_rfl) (fun _ _ _ h => h) (Or.inl ⟨by rfl, ?_⟩) ?_ ?_
  rotate_left
  · intro w'
    go_simp
    with_reducible rfl
  rotate_left
  · simp only [Act.put, List.setIfInBounds_toArray, List.set_cons_zero, List.set_cons_succ]
    rfl
  refine pure_ (i := 15) (N := some 79) (v := ?_) (a' := ?_) #[true, true, true, true, true, true, true, true, true, true, true, true, true, true, true, true, false, false, false, false, false, false, false, false, false, false, false, false, false, false, false, false, false, false, false, false, false, false, false, false, false, false, false, false, false, false, false, false] rfl rfl (by as_aux_lemma => kernel_rfl) (fun _ _ _ h => h) (Or.inl ⟨by rfl, ?_⟩) ?_ ?_
  rotate_left
  · intro w'
    go_simp
    with_reducible rfl
  rotate_left
  · simp only [Act.put, List.setIfInBounds_toArray, List.set_cons_zero, List.set_cons_succ]
    rfl
  refine pure_ (i := 16) (N := some 80) (v := ?_) (a' := ?_) #[true, true, true, true, true, true, true, true, true, true, true, true, true, true, true, true, true, false, false, false, false, false, false, false, false, false, false, false, false, false, false, false, false, false, false, false, false, false, false, false, false, false, false, false, false, false, false, false] rfl rfl (by as_aux_lemma => kernel_rfl) (fun _ _ _ h => h) (Or.inl ⟨by rfl, ?_⟩) ?_ ?_
  rotate_left
  · intro w'
    go_simp
    with_reducible rfl
  rotate_left
  · simp only [Act.put, List.setIfInBounds_toArray, List.set_cons_zero, List.set_cons_succ]
    rfl
  refine pure_ (i := 17) (N := some 81) (v := ?_) (a' := ?_) #[true, true, true, true, true, true, true, true, true, true, true, true, true, true, true, true, true, true, false, false, false, false, false, false, false, false, false, false, false, false, false, false, false, false, false, false, false, false, false, false, false, false, false, false, false, false, false, false] rfl rfl (by as_aux_lemma => kernel_rfl) (fun _ _ _ h => h) (Or.inl ⟨by rfl, ?_⟩) ?_ ?_
  rotate_left
  · intro w'
    go_simp
    with_reducible rfl
  rotate_left
  · simp only [Act.put, List.setIfInBounds_toArray, List.set_cons_zero, List.set_cons_succ]
    rfl
  refine pure_ (i := 18) (N := some 82) (v := ?_) (a' := ?_) #[true, true, true, true, true, true, true, true, true, true, true, true, true, true, true, true, true, true, true, false, false, false, false, false, false, false, false, false, false, false, false, false, false, false, false, false, false, false, false, false, false, false, false, false, false, false, false, false] rfl rfl (by as_aux_lemma => kernel_rfl) (fun _ _ _ h => h) (Or.inl ⟨by rfl, ?_⟩) ?_ ?_
  rotate_left
  · intro w'
    go_simp
    with_reducible rfl
  rotate_left
  · simp only [Act.put, List.setIfInBounds_toArray, List.set_cons_zero, List.set_cons_succ]
    rfl
  refine pure_ (i := 19) (N := some 83) (v := ?_) (a' := ?_) #[true, true, true, true, true, true, true, true, true, true, true, true, true, true, true, true, true, true, true, true, false, false, false, false, false, false, false, false, false, false, false, false, false, false, false, false, false, false, false, false, false, false, false, false, false, false, false, false] rfl rfl (by as_aux_lemma => kernel_rfl) (fun _ _ _ h => h) (Or.inl ⟨by rfl, ?_⟩) ?_ ?_
  rotate_left
  · intro w'
    go_simp
    with_reducible rfl
  rotate_left
  · simp only [Act.put, List.setIfInBounds_toArray, List.set_cons_zero, List.set_cons_succ]
    rfl
  refine pure_ (i := 20) (N := some 84) (v := ?_) (a' := ?_) #[true, true, true, true, true, true, true, true, true, true, true, true, true, true, true, true, true, true, true, true, true, false, false, false, false, false, false, false, false, false, false, false, false, false, false, false, false, false, false, false, false, false, false, false, false, false, false, false] rfl rfl (by as_aux_lemma => kernel_rfl) (fun _ _ _ h => h) (Or.inl ⟨by rfl, ?_⟩) ?_ ?_
  rotate_left
  · intro w'
    go_simp
    with_reducible rfl
  rotate_left
  · simp only [Act.put, List.setIfInBounds_toArray, List.set_cons_zero, List.set_cons_succ]
    rfl
  refine pure_ (i := 21) (N := some 85) (v := ?_) (a' := ?_) #[true, true, true, true, true, true, true, true, true, true, true, true, true, true, true, true, true, true, true, true, true, true, false, false, false, false, false, false, false, false, false, false, false, false, false, false, false, false, false, false, false, false, false, false, false, false, false, false] rfl rfl (by as_aux_lemma => kernel_rfl) (fun _ _ _ h => h) (Or.inl ⟨by rfl, ?_⟩) ?_ ?_
  rotate_left
  · intro w'
    go_simp
    with_reducible rfl
  rotate_left
  · simp only [Act.put, List.setIfInBounds_toArray, List.set_cons_zero, List.set_cons_succ]
    rfl
  refine pure_ (i := 22) (N := some 86) (v := ?_) (a' := ?_) #[true, true, true, true, true, true, true, true, true, true, true, true, true, true, true, true, true, true, true, true, true, true, true, false, false, false, false, false, false, false, false, false, false, false, false, false, false, false, false, false, false, false, false, false, false, false, false, false] rfl rfl (by as_aux_lemma => kernel_rfl) (fun _ _ _ h => h) (Or.inl ⟨by rfl, ?_⟩) ?_ ?_
  rotate_left
  · intro w'
    go_simp
    with_reducible rfl
  rotate_left
  · simp only [Act.put, List.setIfInBounds_toArray, List.set_cons_zero, List.set_cons_succ]
    rfl
  refine pure_ (i := 23) (N := some 87) (v := ?_) (a' := ?_) #[true, true, true, true, true, true, true, true, true, true, true, true, true, true, true, true, true, true, true, true, true, true, true, true, false, false, false, false, false, false, false, false, false, false, false, false, false, false, false, false, false, false, false, false, false, false, false, false] rfl rfl (by as_aux_lemma => kernel_rfl) (fun _ _ _ h => h) (Or.inl ⟨by rfl, ?_⟩) ?_ ?_
  rotate_left
  · intro w'
    go_simp
    with_reducible rfl
  rotate_left
  · simp only [Act.put, List.setIfInBounds_toArray, List.set_cons_zero, List.set_cons_succ]
    rfl
  refine pure_ (i := 24) (N := some 88) (v := ?_) (a' := ?_) #[true, true, true, true, true, true, true, true, true, true, true, true, true, true, true, true, true, true, true, true, true, true, true, true, true, false, false, false, false, false, false, false, false, false, false, false, false, false, false, false, false, false, false, false, false, false, false, false] rfl rfl (by as_aux_lemma => kernel_rfl) (fun _ _ _ h => h) (Or.inl ⟨by rfl, ?_⟩) ?_ ?_
  rotate_left
  · intro w'
    go_simp
    with_reducible rfl
  rotate_left
  · simp only [Act.put, List.setIfInBounds_toArray, List.set_cons_zero, List.set_cons_succ]
    rfl
  refine pure_ (i := 25) (N := some 89) (v := ?_) (a' := ?_) #[true, true, true, true, true, true, true, true, true, true, true, true, true, true, true, true, true, true, true, true, true, true, true, true, true, true, false, false, false, false, false, false, false, false, false, false, false, false, false, false, false, false, false, false, false, false, false, false] rfl rfl (by as_aux_lemma => kernel_rfl) (fun _ _ _ h => h) (Or.inl ⟨by rfl, ?_⟩) ?_ ?_
  rotate_left
  · intro w'
    go_simp
    with_reducible rfl
  rotate_left
  · simp only [Act.put, List.setIfInBounds_toArray, List.set_cons_zero, List.set_cons_succ]
    rfl
  refine pure_ (i := 26) (N := some 90) (v := ?_) (a' := ?_) #[true, true, true, true, true, true, true, true, true, true, true, true, true, true, true, true, true, true, true, true, true, true, true, true, true, true, true, false, false, false, false, false, false, false, false, false, false, false, false, false, false, false, false, false, false, false, false, false] rfl rfl (by as_aux_lemma => kernel_rfl) (fun _ _ _ h => h) (Or.inl ⟨by rfl, ?_⟩) ?_ ?_
  rotate_left
  · intro w'
    go_simp
    with_reducible rfl
  rotate_left
  · simp only [Act.put, List.setIfInBounds_toArray, List.set_cons_zero, List.set_cons_succ]
    rfl
  refine pure_ (i := 27) (N := some 91) (v := ?_) (a' := ?_) #[true, true, true, true, true, true, true, true, true, true, true, true, true, true, true, true, true, true, true, true, true, true, true, true, true, true, true, true, false, false, false, false, false, false, false, false, false, false, false, false, false, false, false, false, false, false, false, false] rfl rfl (by as_aux_lemma => kernel_rfl) (fun _ _ _ h => h) (Or.inl ⟨by rfl, ?_⟩) ?_ ?_
  rotate_left
  · intro w'
    go_simp
    with_reducible rfl
  rotate_left
  · simp only [Act.put, List.setIfInBounds_toArray, List.set_cons_zero, List.set_cons_succ]
    rfl
  refine pure_ (i := 28) (N := some 92) (v := ?_) (a' := ?_) #[true, true, true, true, true, true, true, true, true, true, true, true, true, true, true, true, true, true, true, true, true, true, true, true, true, true, true, true, true, false, false, false, false, false, false, false, false, false, false, false, false, false, false, false, false, false, false, false] rfl rfl (by as_aux_lemma => kernel_rfl) (fun _ _ _ h => h) (Or.inl ⟨by rfl, ?_⟩) ?_ ?_
  rotate_left
  · intro w'
    go_simp
    with_reducible rfl
  rotate_left
  · simp only [Act.put, List.setIfInBounds_toArray, List.set_cons_zero, List.set_cons_succ]
    rfl
  refine pure_ (i := 29) (N := some 93) (v := ?_) (a' := ?_) #[true, true, true, true, true, true, true, true, true, true, true, true, true, true, true, true, true, true, true, true, true, true, true, true, true, true, true, true, true, true, false, false, false, false, false, false, false, false, false, false, false, false, false, false, false, false, false, false] rfl rfl (by as_aux_lemma => kernel_rfl) (fun _ _ _ h => h) (Or.inl ⟨by rfl, ?_⟩) ?_ ?_
  rotate_left
  · intro w'
    go_simp
    with_reducible rfl
  rotate_left
  · simp only [Act.put, List.setIfInBounds_toArray, List.set_cons_zero, List.set_cons_succ]
    rfl
  refine pure_ (i := 30) (N := some 94) (v := ?_) (a' := ?_) #[true, true, true, true, true, true, true, true, true, true, true, true, true, true, true, true, true, true, true, true, true, true, true, true, true, true, true, true, true, true, true, false, false, false, false, false, false, false, false, false, false, false, false, false, false, false, false, false] rfl rfl (by as_aux_lemma => kernel_rfl) (fun _ _ _ h => h) (Or.inl ⟨by rfl, ?_⟩) ?_ ?_
  rotate_left
  · intro w'
    go_simp
    with_reducible rfl
  rotate_left
  · simp only [Act.put, List.setIfInBounds_toArray, List.set_cons_zero, List.set_cons_succ]
    rfl
  refine pure_ (i := 31) (N := some 95) (v := ?_) (a' := ?_) #[true, true, true, true, true, true, true, true, true, true, true, true, true, true, true, true, true, true, true, true, true, true, true, true, true, true, true, true, true, true, true, true, false, false, false, false, false, false, false, false, false, false, false, false, false, false, false, false] rfl rfl (by as_aux_lemma => kernel_rfl) (fun _ _ _ h => h) (Or.inl ⟨by rfl, ?_⟩) ?_ ?_
  rotate_left
  · intro w'
    go_simp
    with_reducible rfl
  rotate_left
  · simp only [Act.put, List.setIfInBounds_toArray, List.set_cons_zero, List.set_cons_succ]
    rfl
  refine pure_ (i := 32) (N := some 96) (v := ?_) (a' := ?_) #[true, true, true, true, true, true, true, true, true, true, true, true, true, true, true, true, true, true, true, true, true, true, true, true, true, true, true, true, true, true, true, true, true, false, false, false, false, false, false, false, false, false, false, false, false, false, false, false] rfl rfl (by as_aux_lemma => kernel_rfl) (fun _ _ _ h => h) (Or.inl ⟨by rfl, ?_⟩) ?_ ?_
  rotate_left
  · intro w'
    go_simp
    with_reducible rfl
  rotate_left
  · simp only [Act.put, List.setIfInBounds_toArray, List.set_cons_zero, List.set_cons_succ]
    rfl
  refine take_ (i := 33) (N := some 97) (v := ?_) (a' := ?_) #[true, true, true, true, true, true, true, true, true, true, true, true, true, true, true, true, true, true, true, true, true, true, true, true, true, true, true, true, true, true, true, true, true, true, false, false, false, false, false, false, false, false, false, false, false, false, false, false] rfl rfl (by as_aux_lemma => kernel_rfl) (fun _ _ _ h => h) (Or.inl ⟨by rfl, ?_⟩) hHeld ?_ ?_
  rotate_left
  · intro w' s0
    obtain ⟨⟨d0, d1, d2, d3, d4⟩, d5, d6, d7, d8, d9, d10, d11⟩ := blk12 (s0.blk 0 rfl); obtain ⟨⟨e0, e1, e2, e3, e4⟩, _⟩ := blk12 (s0.blk 1 rfl)
    go_simp
    with_reducible rfl
  rotate_left
  · simp only [Act.put, List.setIfInBounds_toArray, List.set_cons_zero, List.set_cons_succ]
    rfl
  refine pure_ (i := 34) (N := some 98) (v := ?_) (a' := ?_) #[true, true, true, true, true, true, true, true, true, true, true, true, true, true, true, true, true, true, true, true, true, true, true, true, true, true, true, true, true, true, true, true, true, true, true, false, false, false, false, false, false, false, false, false, false, false, false, false] rfl rfl (by as_aux_lemma => kernel_rfl) (fun _ _ _ h => h) (Or.inl ⟨by rfl, ?_⟩) ?_ ?_
  rotate_left
  · intro w'
    go_simp
    with_reducible rfl
  rotate_left
  · simp only [Act.put, List.setIfInBounds_toArray, List.set_cons_zero, List.set_cons_succ]
    rfl
  refine take_ (i := 35) (N := some 99) (v := ?_) (a' := ?_) #[true, true, true, true, true, true, true, true, true, true, true, true, true, true, true, true, true, true, true, true, true, true, true, true, true, true, true, true, true, true, true, true, true, true, true, true, false, false, false, false, false, false, false, false, false, false, false, false] rfl rfl (by as_aux_lemma => kernel_rfl) (fun _ _ _ h => h) (Or.inl ⟨by rfl, ?_⟩) hHeld ?_ ?_
  rotate_left
  · intro w' s0
    obtain ⟨⟨d0, d1, d2, d3, d4⟩, d5, d6, d7, d8, d9, d10, d11⟩ := blk12 (s0.blk 0 rfl); obtain ⟨⟨e0, e1, e2, e3, e4⟩, _⟩ := blk12 (s0.blk 1 rfl)
    go_simp
    with_reducible rfl
  rotate_left
  · simp only [Act.put, List.setIfInBounds_toArray, List.set_cons_zero, List.set_cons_succ]
    rfl
  refine one_ (i := 36) (N := some 100) #[true, true, true, true, true, true, true, true, true, true, true, true, true, true, true, true, true, true, true, true, true, true, true, true, true, true, true, true, true, true, true, true, true, true, true, true, true, false, false, false, false, false, false, false, false, false, false, false] rfl rfl (by as_aux_lemma => kernel_rfl) (by decide) (fun K hK => ?_)
  refine goes_ Try.func16 (by as_aux_lemma => kernel_rfl) rfl #[cv p7 R, cv p5 R] (by rfl) rfl rfl (by simp only [List.map_toArray, List.map_cons, List.map_nil] <;> rfl) ?_
  refine (same_circ p7 R p5 _ (RQ.out.below (below_drew (Below.refl _ _))) (RR.out.below (below_drew (Below.refl _ _)))).mono ?_
  rintro e w20 ⟨rfl, hb⟩
  refine ⟨_, rfl, ?_⟩
  replace S := Aside0.mk (S.out.drew.below hb)
  replace RR := Aside0.mk ((RR.out.below (below_drew (Below.refl _ _))).below hb)
  replace LQ := Aside0.mk ((LQ.out.below (below_drew (Below.refl _ _))).below hb)
  replace RV := Aside0.mk ((RV.out.below (below_drew (Below.refl _ _))).below hb)
  replace RM := Aside0.mk ((RM.out.below (below_drew (Below.refl _ _))).below hb)
  clear hb RQ
  refine hK.out _ _ S.out (fun hHeld => ?_)
  clear hK K
  refine norm_ (a' := ?_) ?_ ?_
  rotate_left
  · show Act.put _ (some 100) _ = _
    simp only [Act.put, List.setIfInBounds_toArray, List.set_cons_zero, List.set_cons_succ]
    rfl
  refine pure_ (i := 37) (N := some 101) (v := ?_) (a' := ?_) #[true, true, true, true, true, true, true, true, true, true, true, true, true, true, true, true, true, true, true, true, true, true, true, true, true, true, true, true, true, true, true, true, true, true, true, true, true, true, false, false, false, false, false, false, false, false, false, false] rfl rfl (by as_aux_lemma => kernel_rfl) (fun _ _ _ h => h) (Or.inl ⟨by rfl, ?_⟩) ?_ ?_
  rotate_left
  · intro w'
    go_simp
    with_reducible rfl
  rotate_left
  · simp only [Act.put, List.setIfInBounds_toArray, List.set_cons_zero, List.set_cons_succ]
    rfl
  refine pure_ (i := 38) (N := some 102) (v := ?_) (a' := ?_) #[true, true, true, true, true, true, true, true, true, true, true, true, true, true, true, true, true, true, true, true, true, true, true, true, true, true, true, true, true, true, true, true, true, true, true, true, true, true, true, false, false, false, false, false, false, false, false, false] rfl rfl (by as_aux_lemma => kernel_rfl) (fun _ _ _ h => h) (Or.inl ⟨by rfl, ?_⟩) ?_ ?_
  rotate_left
  · intro w'
    go_simp
    with_reducible rfl
  rotate_left
  · simp only [Act.put, List.setIfInBounds_toArray, List.set_cons_zero, List.set_cons_succ]
    rfl
  refine pure_ (i := 39) (N := some 103) (v := ?_) (a' := ?_) #[true, true, true, true, true, true, true, true, true, true, true, true, true, true, true, true, true, true, true, true, true, true, true, true, true, true, true, true, true, true, true, true, true, true, true, true, true, true, true, true, false, false, false, false, false, false, false, false] rfl rfl (by as_aux_lemma => kernel_rfl) (fun _ _ _ h => h) (Or.inl ⟨by rfl, ?_⟩) ?_ ?_
  rotate_left
  · intro w'
    go_simp
    with_reducible rfl
  rotate_left
  · simp only [Act.put, List.setIfInBounds_toArray, List.set_cons_zero, List.set_cons_succ]
    rfl
  refine pure_ (i := 40) (N := some 104) (v := ?_) (a' := ?_) #[true, true, true, true, true, true, true, true, true, true, true, true, true, true, true, true, true, true, true, true, true, true, true, true, true, true, true, true, true, true, true, true, true, true, true, true, true, true, true, true, true, false, false, false, false, false, false, false] rfl rfl (by as_aux_lemma => kernel_rfl) (fun _ _ _ h => h) (Or.inl ⟨by rfl, ?_⟩) ?_ ?_
  rotate_left
  · intro w'
    go_simp
    with_reducible rfl
  rotate_left
  · simp only [Act.put, List.setIfInBounds_toArray, List.set_cons_zero, List.set_cons_succ]
    rfl
  refine take_ (i := 41) (N := some 105) (v := ?_) (a' := ?_) #[true, true, true, true, true, true, true, true, true, true, true, true, true, true, true, true, true, true, true, true, true, true, true, true, true, true, true, true, true, true, true, true, true, true, true, true, true, true, true, true, true, true, false, false, false, false, false, false] rfl rfl (by as_aux_lemma => kernel_rfl) (fun _ _ _ h => h) (Or.inl ⟨by rfl, ?_⟩) hHeld ?_ ?_
  rotate_left
  · intro w' s0
    obtain ⟨⟨d0, d1, d2, d3, d4⟩, d5, d6, d7, d8, d9, d10, d11⟩ := blk12 (s0.blk 0 rfl); obtain ⟨⟨e0, e1, e2, e3, e4⟩, _⟩ := blk12 (s0.blk 1 rfl)
    go_simp
    with_reducible rfl
  rotate_left
  · simp only [Act.put, List.setIfInBounds_toArray, List.set_cons_zero, List.set_cons_succ]
    rfl
  refine pure_ (i := 42) (N := some 106) (v := ?_) (a' := ?_) #[true, true, true, true, true, true, true, true, true, true, true, true, true, true, true, true, true, true, true, true, true, true, true, true, true, true, true, true, true, true, true, true, true, true, true, true, true, true, true, true, true, true, true, false, false, false, false, false] rfl rfl (by as_aux_lemma => kernel_rfl) (fun _ _ _ h => h) (Or.inl ⟨by rfl, ?_⟩) ?_ ?_
  rotate_left
  · intro w'
    go_simp
    with_reducible rfl
  rotate_left
  · simp only [Act.put, List.setIfInBounds_toArray, List.set_cons_zero, List.set_cons_succ]
    rfl
  refine take_ (i := 43) (N := some 107) (v := ?_) (a' := ?_) #[true, true, true, true, true, true, true, true, true, true, true, true, true, true, true, true, true, true, true, true, true, true, true, true, true, true, true, true, true, true, true, true, true, true, true, true, true, true, true, true, true, true, true, true, false, false, false, false] rfl rfl (by as_aux_lemma => kernel_rfl) (fun _ _ _ h => h) (Or.inl ⟨by rfl, ?_⟩) hHeld ?_ ?_
  rotate_left
  · intro w' s0
    obtain ⟨⟨d0, d1, d2, d3, d4⟩, d5, d6, d7, d8, d9, d10, d11⟩ := blk12 (s0.blk 0 rfl); obtain ⟨⟨e0, e1, e2, e3, e4⟩, _⟩ := blk12 (s0.blk 1 rfl)
    go_simp
    with_reducible rfl
  rotate_left
  · simp only [Act.put, List.setIfInBounds_toArray, List.set_cons_zero, List.set_cons_succ]
    rfl
  refine one_ (i := 44) (N := some 108) #[true, true, true, true, true, true, true, true, true, true, true, true, true, true, true, true, true, true, true, true, true, true, true, true, true, true, true, true, true, true, true, true, true, true, true, true, true, true, true, true, true, true, true, true, true, false, false, false] rfl rfl (by as_aux_lemma => kernel_rfl) (by decide) (fun K hK => ?_)
  refine goes_ Try.func21 (by as_aux_lemma => kernel_rfl) rfl #[cv p5 R] (by rfl) rfl rfl (by simp only [List.map_toArray, List.map_cons, List.map_nil] <;> rfl) ?_
  refine (ref25_Same p5 R _ HCQ.out).mono ?_
  rintro e w21 ⟨q9, rfl, hq9, hb⟩
  refine ⟨_, rfl, ?_⟩
  replace S := Aside0.mk (S.out.below hb)
  replace RR := Aside0.mk (RR.out.below hb)
  replace LQ := Aside0.mk (LQ.out.below hb)
  replace RV := Aside0.mk (RV.out.below hb)
  replace RM := Aside0.mk (RM.out.below hb)
  have L9 := Aside0.mk (hq9 _ (fun _ _ _ => rfl))
  clear hb hq9
  refine hK.out _ _ S.out (fun hHeld => ?_)
  clear hK K
  refine norm_ (a' := ?_) ?_ ?_
  rotate_left
  · show Act.put _ (some 108) _ = _
    simp only [Act.put, List.setIfInBounds_toArray, List.set_cons_zero, List.set_cons_succ]
    rfl
  refine one_ (i := 45) (N := some 109) #[true, true, true, true, true, true, true, true, true, true, true, true, true, true, true, true, true, true, true, true, true, true, true, true, true, true, true, true, true, true, true, true, true, true, true, true, true, true, true, true, true, true, true, true, true, true, false, false] rfl rfl (by as_aux_lemma => kernel_rfl) (by decide) (fun K hK => ?_)
  refine goes_ Try.func20 (by as_aux_lemma => kernel_rfl) rfl #[lv q7 (idOf R), lv q9 (idOf R)] (by rfl) rfl rfl (by simp only [List.map_toArray, List.map_cons, List.map_nil] <;> rfl) ?_
  refine (ref25_SameLift q7 q9 (idOf R) (idOf R) _ LQ.out L9.out).mono ?_
  rintro e w22 ⟨rfl, hb⟩
  rw [show decide (idOf R = idOf R) = true from decide_eq_true rfl]
  refine ⟨_, rfl, ?_⟩
  replace S := Aside0.mk (S.out.below hb)
  replace RR := Aside0.mk (RR.out.below hb)
  replace RV := Aside0.mk (RV.out.below hb)
  replace RM := Aside0.mk (RM.out.below hb)
  clear hb LQ L9
  refine hK.out _ _ S.out (fun hHeld => ?_)
  clear hK K
  refine norm_ (a' := ?_) ?_ ?_
  rotate_left
  · show Act.put _ (some 109) _ = _
    simp only [Act.put, List.setIfInBounds_toArray, List.set_cons_zero, List.set_cons_succ]
    rfl
  refine pure_ (i := 46) (N := some 110) (v := ?_) (a' := ?_) #[true, true, true, true, true, true, true, true, true, true, true, true, true, true, true, true, true, true, true, true, true, true, true, true, true, true, true, true, true, true, true, true, true, true, true, true, true, true, true, true, true, true, true, true, true, true, true, false] rfl rfl (by as_aux_lemma => kernel_rfl) (fun _ _ _ h => h) (Or.inl ⟨by rfl, ?_⟩) ?_ ?_
  rotate_left
  · intro w'
    go_simp
    with_reducible rfl
  rotate_left
  · simp only [Act.put, List.setIfInBounds_toArray, List.set_cons_zero, List.set_cons_succ]
    rfl
  refine pure_ (i := 47) (N := some 111) (v := ?_) (a' := ?_) #[true, true, true, true, true, true, true, true, true, true, true, true, true, true, true, true, true, true, true, true, true, true, true, true, true, true, true, true, true, true, true, true, true, true, true, true, true, true, true, true, true, true, true, true, true, true, true, true] rfl rfl (by as_aux_lemma => kernel_rfl) (fun _ _ _ h => h) (Or.inl ⟨by rfl, ?_⟩) ?_ ?_
  rotate_left
  · intro w'
    go_simp
    with_reducible rfl
  rotate_left
  · simp only [Act.put, List.setIfInBounds_toArray, List.set_cons_zero, List.set_cons_succ]
    rfl
  refine done_ (by as_aux_lemma => kernel_rfl) ?_
  clear hHeld
  go_wp2_with (first | (refine Parts.makeL (Parts.start w22) Kd.bool 4 flat_bool rfl (N := 112) rfl 59 (.const (.int .i64 1002)) (.const (.int .i64 1002)) rfl 1002 rfl rfl Try.underlying59 (.bool false) 1 infoBool rfl (by decide) (by decide) false rfl (by decide) ?_; intro gI capI w23 hgw h2; have T := Aside0.mk h2; have HG := Aside0.mk hgw; clear h2 hgw))
  have HVM := Aside0.mk (show V.length ≤ 1000 by rw [HVL.out]; exact HSR.out)
  go_loopg [15] V.length (fun gg s15 wr => ∃ k : Nat, s15 = .int .i64 k ∧ Aside0 (k ≤ V.length ∧ V.length - k ≤ gg) ∧ Aside0 (Parts w22.heap.size w22 wr [pF w22.heap.size Kd.bool 4 (.slice (some ⟨gI, 0, none⟩) 1002 capI) (setAll (V.take k) (List.replicate 1002 false))]))
  case atStart => exact ⟨0, rfl, ⟨by omega, by omega⟩, T⟩
  case round =>
    clear T
    obtain ⟨k, rfl, HX, T⟩ := hrel
    by_cases hlt : k < V.length
    · obtain ⟨ad, e1, hx⟩ := at_int (RV.out.below T.out.B).r k hlt
      obtain ⟨am, e2, hm⟩ := at_int (RM.out.below T.out.B).r k (by rw [HML.out]; exact hlt)
      rw [HMK.out k (by rw [HML.out]; exact hlt)] at hm
      subst e1
      subst e2
      obtain ⟨u, hu, hur, hun⟩ := HVK.out k hlt
      obtain ⟨x, hxv⟩ : ∃ x, V[k] = x := ⟨_, rfl⟩
      have HVX := Aside0.mk (show V[k]? = some (u : Int) by rw [List.getElem?_eq_getElem hlt, hu])
      rw [hxv] at hx hu
      have HXU := Aside0.mk hu
      have HXW := Aside0.mk (fun W (hb : Below wr.heap.size wr W) => pw_cell_below hb hx)
      have HUL := Aside0.mk (show 1 ≤ u ∧ u ≤ 1000 from ⟨hur.pos, Nat.le_trans (hur.le (inside_of HC.out)) HSZ.out⟩)
      have d1 : decide (x < 1) = false := decide_eq_false (by have := HUL.out; omega)
      have d2 : decide (1000 < x) = false := decide_eq_false (by have := HUL.out; omega)
      have HLT := Aside0.mk hlt
      have hlti : (k : Int) < V.length := by omega
      have hwk : wrap64 ((k : Int) + 1) = (k : Int) + 1 := wrap_in (by omega) (by have := HVM.out; have := HLT.out; omega)
      by_cases hk0 : 0 < k
      · have dk : decide (0 < k) = true := decide_eq_true hk0
        obtain ⟨ap, e3, hp⟩ := at_int (RV.out.below T.out.B).r (k - 1) (by omega)
        cases e3
        obtain ⟨u2, hu2, hur2, hun2⟩ := HVK.out (k - 1) (by omega)
        obtain ⟨y, hy⟩ : ∃ y, V[k - 1] = y := ⟨_, rfl⟩
        rw [hy] at hp hu2
        have hlt2 : u2 < u := by
          by_cases h_ : u2 < u
          · exact h_
          · have := newV_mono (c := c) (show u ≤ u2 by omega); omega
        have d3 : decide (x ≤ y) = false := decide_eq_false (by omega)
        have hw : wrap64 ((k : Int) - 1) = ((k - 1 : Nat) : Int) := by rw [wrap_in (by omega) (by have := HVM.out; have := HLT.out; omega)]; omega
        have hj1 : ((k - 1 : Nat) : Int) < V.length := by omega
        clear hxv hu hur hun hlt hk0 hu2 hur2 hun2 hlt2 hy
        generalize k - 1 = j at *
        go_wp2
        go_quiet (fail)
        go_upto_region 17 with (fail)
        replace T := Aside0.mk (T.out.below (pw_below_drewN (Below.refl _ _) nq))
        have hx := HXW.out _ (pw_below_drewN (Below.refl wr.heap.size wr) nq)
        generalize wr.drewN nq = wd at *
        obtain ⟨z0, z1⟩ := T.out.cellRow 0 rfl false u (by have := HUL.out; omega)
        have hxu := HXU.out
        subst hxu
        have hub : ((u : Nat) : Int) < 1002 := by have := HUL.out; omega
        go_wp2
        have T3 := Aside0.mk (show Parts w22.heap.size w22 _ [pF w22.heap.size Kd.bool 4 (.slice (some ⟨gI, 0, none⟩) 1002 capI) (setAll (V.take (k + 1)) (List.replicate 1002 false))] from by
          have h_ := T.out.putRow 0 rfl u true
          rw [set_step HVX.out] at h_
          exact h_)
        go_roundg (V.length - (k + 1))
        case measure => have := HX.out; have := HLT.out; omega
        case rel => exact ⟨k + 1, (by first | exact val_step HLT.out (by have := HVM.out; omega) | rfl), ⟨by have := HLT.out; omega, by have := HX.out; have := HLT.out; omega⟩, T3⟩
      · have dk : decide (0 < k) = false := decide_eq_false hk0
        clear hxv hu hur hun hlt hk0
        go_wp2
        go_quiet (fail)
        go_upto_region 17 with (fail)
        replace T := Aside0.mk (T.out.below (pw_below_drewN (Below.refl _ _) nq))
        have hx := HXW.out _ (pw_below_drewN (Below.refl wr.heap.size wr) nq)
        generalize wr.drewN nq = wd at *
        obtain ⟨z0, z1⟩ := T.out.cellRow 0 rfl false u (by have := HUL.out; omega)
        have hxu := HXU.out
        subst hxu
        have hub : ((u : Nat) : Int) < 1002 := by have := HUL.out; omega
        go_wp2
        have T3 := Aside0.mk (show Parts w22.heap.size w22 _ [pF w22.heap.size Kd.bool 4 (.slice (some ⟨gI, 0, none⟩) 1002 capI) (setAll (V.take (k + 1)) (List.replicate 1002 false))] from by
          have h_ := T.out.putRow 0 rfl u true
          rw [set_step HVX.out] at h_
          exact h_)
        go_roundg (V.length - (k + 1))
        case measure => have := HX.out; have := HLT.out; omega
        case rel => exact ⟨k + 1, (by first | exact val_step HLT.out (by have := HVM.out; omega) | rfl), ⟨by have := HLT.out; omega, by have := HX.out; have := HLT.out; omega⟩, T3⟩
    · have hk : k = V.length := by have := HX.out; omega
      subst hk
      have hlti : ¬ ((V.length : Nat) : Int) < V.length := by omega
      rw [List.take_length] at T
      clear hlt HX
      go_upto_region 19 with (fail)
      obtain ⟨wz, hwz⟩ : ∃ W, wr = W := ⟨_, rfl⟩
      rw [hwz] at T ⊢
      replace hwz := Aside0.mk hwz
      have HB0 := Aside0.mk T.out.B
      go_loopg [16, 17, 18, 19, 20, 21, 22] V.length (fun gg s16 _ _ _ _ _ _ wr => ∃ k : Nat, s16 = .int .i64 k ∧ Aside0 (k ≤ V.length ∧ V.length - k ≤ gg) ∧ Aside0 (Below wz.heap.size wz wr))
      case atStart => exact ⟨0, rfl, ⟨by omega, by omega⟩, ⟨Below.refl _ _⟩⟩
      case round =>
        obtain ⟨k, rfl, HX, BW⟩ := hrel
        by_cases hlt : k < V.length
        · have HWB := Aside0.mk (show Below w22.heap.size w22 wr from HB0.out.trans (BW.out.mono HB0.out.size))
          have SB := Aside0.mk (S.out.below HWB.out)
          obtain ⟨ad, e1, hx⟩ := at_int (RV.out.below HWB.out).r k hlt
          subst e1
          obtain ⟨u, hu, hur, hun⟩ := HVK.out k hlt
          rw [hu] at hx
          have HXW := Aside0.mk (fun W (hb : Below wr.heap.size wr W) => pw_cell_below hb hx)
          have HA := Aside0.mk (fun W (hb : Below wr.heap.size wr W) => blk_below (SB.out.blk 2 rfl) hb)
          obtain ⟨⟨kd, ix⟩, hkd⟩ : ∃ r, kindV c (u : Int) = r := ⟨_, rfl⟩
          obtain ⟨⟨kd2, at2⟩, hkd2⟩ : ∃ r, kindV R ((k : Int) + 1) = r := ⟨_, rfl⟩
          have hkn := HKN.out u k hur hun
          rw [hkd, hkd2] at hkn
          obtain ⟨hk1, hk2⟩ := hkn
          dsimp only at hk1 hk2
          subst hk1
          have D6 := Aside0.mk (show ∀ W, Below wr.heap.size wr W → Calls Try.prog 22 #[cv p c, .int .i64 (u : Int)] W (fun e w' => e = .returned (.tuple #[.int .i64 kd, .int .i64 ix, .int .i64 0]) ∧ Below W.heap.size W w') from fun W hb => by
            have h_ := C6.out W (SB.out.B.trans (hb.mono SB.out.z)) u hur
            rw [hkd] at h_
            exact h_)
          have D7 := Aside0.mk (show ∀ W, Below wr.heap.size wr W → Calls Try.prog 22 #[cv p5 R, .int .i64 ((k : Int) + 1)] W (fun e w' => e = .returned (.tuple #[.int .i64 kd, .int .i64 at2, .int .i64 0]) ∧ Below W.heap.size W w') from fun W hb => by
            have h_ := C7.out W p5 ((RR.out.below HWB.out).below hb) k (by rw [← HVL.out]; exact hlt)
            rw [hkd2] at h_
            exact h_)
          have HUR := Aside0.mk hur
          have HKD := Aside0.mk hkd
          have HK2 := Aside0.mk hk2
          have HLT := Aside0.mk hlt
          have hlti : (k : Int) < V.length := by omega
          obtain ⟨d0, d1, d2, d3, d4⟩ := blk5 (HA.out _ (Below.refl _ _))
          clear hu hun hkd2 hlt hur hkd hk2
          go_wp2
          refine start_ (n := 13) (S := (fun W => Below wr.heap.size wr W)) (ds := []) #[false, false, false, false, false, false, false, false, false, false, false, false, false] (by as_aux_lemma => kernel_rfl) rfl rfl (below_drew (Below.refl _ _)) (fun hHeld => ?_)
          refine take_ (i := 0) (N := some 169) (v := ?_) (a' := ?_) #[true, false, false, false, false, false, false, false, false, false, false, false, false] rfl rfl (by as_aux_lemma => kernel_rfl) (fun _ _ _ h => h) (Or.inl ⟨by rfl, ?_⟩) hHeld ?_ ?_
          rotate_left
          · intro w' s0
            obtain ⟨d0, d1, d2, d3, d4⟩ := blk5 (HA.out _ s0)
            go_simp
            with_reducible rfl
          rotate_left
          · simp only [Act.put, List.setIfInBounds_toArray, List.set_cons_zero, List.set_cons_succ]
            rfl
          refine pure_ (i := 1) (N := some 170) (v := ?_) (a' := ?_) #[true, true, false, false, false, false, false, false, false, false, false, false, false] rfl rfl (by as_aux_lemma => kernel_rfl) (fun _ _ _ h => h) (Or.inl ⟨by rfl, ?_⟩) ?_ ?_
          rotate_left
          · intro w'
            go_simp
            with_reducible rfl
          rotate_left
          · simp only [Act.put, List.setIfInBounds_toArray, List.set_cons_zero, List.set_cons_succ]
            rfl
          refine pure_ (i := 2) (N := some 171) (v := ?_) (a' := ?_) #[true, true, true, false, false, false, false, false, false, false, false, false, false] rfl rfl (by as_aux_lemma => kernel_rfl) (fun _ _ _ h => h) (Or.inl ⟨by rfl, ?_⟩) ?_ ?_
          rotate_left
          · intro w'
            go_simp
            with_reducible rfl
          rotate_left
          · simp only [Act.put, List.setIfInBounds_toArray, List.set_cons_zero, List.set_cons_succ]
            rfl
          refine pure_ (i := 3) (N := some 172) (v := ?_) (a' := ?_) #[true, true, true, true, false, false, false, false, false, false, false, false, false] rfl rfl (by as_aux_lemma => kernel_rfl) (fun _ _ _ h => h) (Or.inl ⟨by rfl, ?_⟩) ?_ ?_
          rotate_left
          · intro w'
            go_simp
            with_reducible rfl
          rotate_left
          · simp only [Act.put, List.setIfInBounds_toArray, List.set_cons_zero, List.set_cons_succ]
            rfl
          refine take_ (i := 4) (N := some 173) (v := ?_) (a' := ?_) #[true, true, true, true, true, false, false, false, false, false, false, false, false] rfl rfl (by as_aux_lemma => kernel_rfl) (fun _ _ _ h => h) (Or.inl ⟨by rfl, ?_⟩) hHeld ?_ ?_
          rotate_left
          · intro w' s0
            have h_ := HXW.out _ s0
            go_simp
            with_reducible rfl
          rotate_left
          · simp only [Act.put, List.setIfInBounds_toArray, List.set_cons_zero, List.set_cons_succ]
            rfl
          refine one_ (i := 5) (N := some 174) #[true, true, true, true, true, true, false, false, false, false, false, false, false] rfl rfl (by as_aux_lemma => kernel_rfl) (by decide) (fun K hK => ?_)
          refine goes_ Try.func22 (by as_aux_lemma => kernel_rfl) rfl #[cv p c, .int .i64 (u : Int)] (by rfl) rfl rfl (by simp only [List.map_toArray, List.map_cons, List.map_nil] <;> rfl) ?_
          refine (D6.out _ hHeld).mono ?_
          rintro e w30 ⟨rfl, hb⟩
          refine ⟨_, rfl, ?_⟩
          have B3 := Aside0.mk (hHeld.trans (hb.mono hHeld.size))
          clear hb hHeld d0 d1 d2 d3 d4
          refine hK.out _ _ B3.out (fun hHeld => ?_)
          clear hK K
          refine norm_ (a' := ?_) ?_ ?_
          rotate_left
          · show Act.put _ (some 174) _ = _
            simp only [Act.put, List.setIfInBounds_toArray, List.set_cons_zero, List.set_cons_succ]
            rfl
          refine pure_ (i := 6) (N := some 168) (v := ?_) (a' := ?_) #[true, true, true, true, true, true, true, false, false, false, false, false, false] rfl rfl (by as_aux_lemma => kernel_rfl) (fun _ _ _ h => h) (Or.inl ⟨by rfl, ?_⟩) ?_ ?_
          rotate_left
          · intro w'
            go_simp
            with_reducible rfl
          rotate_left
          · simp only [Act.put, List.setIfInBounds_toArray, List.set_cons_zero, List.set_cons_succ]
            rfl
          refine pure_ (i := 7) (N := some 175) (v := ?_) (a' := ?_) #[true, true, true, true, true, true, true, true, false, false, false, false, false] rfl rfl (by as_aux_lemma => kernel_rfl) (fun _ _ _ h => h) (Or.inl ⟨by rfl, ?_⟩) ?_ ?_
          rotate_left
          · intro w'
            go_simp
            with_reducible rfl
          rotate_left
          · simp only [Act.put, List.setIfInBounds_toArray, List.set_cons_zero, List.set_cons_succ]
            rfl
          refine pure_ (i := 8) (N := some 176) (v := ?_) (a' := ?_) #[true, true, true, true, true, true, true, true, true, false, false, false, false] rfl rfl (by as_aux_lemma => kernel_rfl) (fun _ _ _ h => h) (Or.inl ⟨by rfl, ?_⟩) ?_ ?_
          rotate_left
          · intro w'
            go_simp
            with_reducible rfl
          rotate_left
          · simp only [Act.put, List.setIfInBounds_toArray, List.set_cons_zero, List.set_cons_succ]
            rfl
          refine pure_ (i := 9) (N := some 177) (v := ?_) (a' := ?_) #[true, true, true, true, true, true, true, true, true, true, false, false, false] rfl rfl (by as_aux_lemma => kernel_rfl) (fun _ _ _ h => h) (Or.inl ⟨by rfl, ?_⟩) ?_ ?_
          rotate_left
          · intro w'
            go_simp
            with_reducible rfl
          rotate_left
          · simp only [Act.put, List.setIfInBounds_toArray, List.set_cons_zero, List.set_cons_succ]
            rfl
          refine pure_ (i := 10) (N := some 17) (v := ?_) (a' := ?_) #[true, true, true, true, true, true, true, true, true, true, true, false, false] rfl rfl (by as_aux_lemma => kernel_rfl) (fun _ _ _ h => h) (Or.inl ⟨by rfl, ?_⟩) ?_ ?_
          rotate_left
          · intro w'
            go_simp
            with_reducible rfl
          rotate_left
          · simp only [Act.put, List.setIfInBounds_toArray, List.set_cons_zero, List.set_cons_succ]
            rfl
          refine pure_ (i := 11) (N := some 18) (v := ?_) (a' := ?_) #[true, true, true, true, true, true, true, true, true, true, true, true, false] rfl rfl (by as_aux_lemma => kernel_rfl) (fun _ _ _ h => h) (Or.inl ⟨by rfl, ?_⟩) ?_ ?_
          rotate_left
          · intro w'
            go_simp
            with_reducible rfl
          rotate_left
          · simp only [Act.put, List.setIfInBounds_toArray, List.set_cons_zero, List.set_cons_succ]
            rfl
          refine pure_ (i := 12) (N := some 19) (v := ?_) (a' := ?_) #[true, true, true, true, true, true, true, true, true, true, true, true, true] rfl rfl (by as_aux_lemma => kernel_rfl) (fun _ _ _ h => h) (Or.inl ⟨by rfl, ?_⟩) ?_ ?_
          rotate_left
          · intro w'
            go_simp
            with_reducible rfl
          rotate_left
          · simp only [Act.put, List.setIfInBounds_toArray, List.set_cons_zero, List.set_cons_succ]
            rfl
          refine done_ (by as_aux_lemma => kernel_rfl) ?_
          clear hHeld hx D6
          have S3 := Aside0.mk (SB.out.below B3.out)
          obtain ⟨⟨f0, f1, f2, f3, f4⟩, _⟩ := blk12 (S3.out.blk 1 rfl)
          have hwk : wrap64 ((k : Int) + 1) = (k : Int) + 1 := wrap_in (by omega) (by have := HVM.out; have := HLT.out; omega)
          go_wp2_with fail
          refine (D7.out _ B3.out).mono ?_
          rintro e w31 ⟨rfl, hb⟩
          have B5 := Aside0.mk (B3.out.trans (hb.mono B3.out.size))
          have S5 := Aside0.mk (S3.out.below hb)
          clear hb f0 f1 f2 f3 f4 S3 B3 D7 SB HA HXW
          have hat : decide (ix < at2) = false := decide_eq_false (by have := HK2.out; omega)
          have T5 := Aside0.mk (T.out.below (BW.out.trans (B5.out.mono BW.out.size)))
          have HC5 := Aside0.mk (HH.out.below S5.out.B)
          obtain ⟨d0, d1, d2, d3, d4⟩ := blk5 (S5.out.blk 2 rfl)
          have hi := inside_of HC.out
          have hul := HUR.out.le hi
          have hup := HUR.out.pos
          have h0 := hi.h0
          have hkv := HKD.out
          rw [kindV_eq] at hkv
          unfold sizeC at hul
          by_cases g3 : 1 + c.f0 + c.f1.length ≤ (u : Int)
          · rw [if_pos g3] at hkv
            obtain ⟨i, hi1⟩ : ∃ i : Nat, u = c.f0.toNat + c.f1.length + 1 + i := ⟨u - (c.f0.toNat + c.f1.length + 1), by omega⟩
            have hil : i < c.f2.length := by omega
            obtain ⟨hkd, hix⟩ := Prod.mk.inj hkv
            obtain rfl : kd = 3 := hkd.symm
            obtain rfl : ix = (i : Int) := by omega
            obtain ⟨ag, e2, hga, hgb⟩ := at_gate HC5.out.s2.r i hil
            have HUR2 := HUR.out
            rw [hi1] at HUR2
            have hr0 := inC_step hi HUR2 (l := c.f2[i].f0) (List.mem_append_left _ (by rw [gate_reads hil]; simp))
            have hr1 := inC_step hi HUR2 (l := c.f2[i].f1) (List.mem_append_left _ (by rw [gate_reads hil]; simp))
            obtain ⟨x0, hx0⟩ : ∃ x, c.f2[i].f0 = x := ⟨_, rfl⟩
            obtain ⟨x1, hx1⟩ : ∃ x, c.f2[i].f1 = x := ⟨_, rfl⟩
            rw [hx0] at hga hr0
            rw [hx1] at hgb hr1
            have hili : (i : Int) < c.f2.length := by omega
            have HR0 := Aside0.mk hr0
            have HR1 := Aside0.mk hr1
            obtain ⟨P1, c1_, P2, c2_, P3, c3_, P4, c4_⟩ := p
            dsimp only at e2
            subst e2
            clear hx0 hx1 hr0 hr1 HUR2 hil hkd hix hkv g3 hi1 hul hup h0 hi HKD
            by_cases a_x0 : 1 < x0
            · have b_x0 : decide (1 < x0) = true := decide_eq_true a_x0
              obtain ⟨q_x0, h_x0⟩ : ∃ q : Nat, x0 / 2 = (q : Int) := ⟨(x0 / 2).toNat, by omega⟩
              have r_x0 : Reach c q_x0 := by
                rcases HR0.out.2 with h_ | h_
                · unfold varOf at h_; omega
                · unfold varOf at h_; rw [h_x0, Int.toNat_natCast] at h_; exact h_
              have l_x0 : q_x0 ≤ 1000 := Nat.le_trans (r_x0.le (inside_of HC.out)) HSZ.out
              obtain ⟨t_x0, _⟩ := T5.out.cellRow 0 rfl false q_x0 (by omega)
              rw [HRS.out q_x0 r_x0] at t_x0
              have w_x0 : wrap64 (x0.tdiv 2) = (q_x0 : Int) := by rw [Int.tdiv_eq_ediv_of_nonneg (by omega), wrap_in (by omega) (by omega)]; exact h_x0
              have m_x0 : ((q_x0 : Nat) : Int) < 1002 := by omega
              clear a_x0 h_x0 r_x0 l_x0
              by_cases a_x1 : 1 < x1
              · have b_x1 : decide (1 < x1) = true := decide_eq_true a_x1
                obtain ⟨q_x1, h_x1⟩ : ∃ q : Nat, x1 / 2 = (q : Int) := ⟨(x1 / 2).toNat, by omega⟩
                have r_x1 : Reach c q_x1 := by
                  rcases HR1.out.2 with h_ | h_
                  · unfold varOf at h_; omega
                  · unfold varOf at h_; rw [h_x1, Int.toNat_natCast] at h_; exact h_
                have l_x1 : q_x1 ≤ 1000 := Nat.le_trans (r_x1.le (inside_of HC.out)) HSZ.out
                obtain ⟨t_x1, _⟩ := T5.out.cellRow 0 rfl false q_x1 (by omega)
                rw [HRS.out q_x1 r_x1] at t_x1
                have w_x1 : wrap64 (x1.tdiv 2) = (q_x1 : Int) := by rw [Int.tdiv_eq_ediv_of_nonneg (by omega), wrap_in (by omega) (by omega)]; exact h_x1
                have m_x1 : ((q_x1 : Nat) : Int) < 1002 := by omega
                clear a_x1 h_x1 r_x1 l_x1
                go_wp2
                go_roundg (V.length - (k + 1))
                case measure => have := HX.out; have := HLT.out; omega
                case rel => exact ⟨k + 1, (by first | exact val_step HLT.out (by have := HVM.out; omega) | rfl), ⟨by have := HLT.out; omega, by have := HX.out; have := HLT.out; omega⟩, ⟨BW.out.trans (B5.out.mono BW.out.size)⟩⟩
              · have b_x1 : decide (1 < x1) = false := decide_eq_false a_x1
                clear a_x1
                go_wp2
                go_roundg (V.length - (k + 1))
                case measure => have := HX.out; have := HLT.out; omega
                case rel => exact ⟨k + 1, (by first | exact val_step HLT.out (by have := HVM.out; omega) | rfl), ⟨by have := HLT.out; omega, by have := HX.out; have := HLT.out; omega⟩, ⟨BW.out.trans (B5.out.mono BW.out.size)⟩⟩
            · have b_x0 : decide (1 < x0) = false := decide_eq_false a_x0
              clear a_x0
              by_cases a_x1 : 1 < x1
              · have b_x1 : decide (1 < x1) = true := decide_eq_true a_x1
                obtain ⟨q_x1, h_x1⟩ : ∃ q : Nat, x1 / 2 = (q : Int) := ⟨(x1 / 2).toNat, by omega⟩
                have r_x1 : Reach c q_x1 := by
                  rcases HR1.out.2 with h_ | h_
                  · unfold varOf at h_; omega
                  · unfold varOf at h_; rw [h_x1, Int.toNat_natCast] at h_; exact h_
                have l_x1 : q_x1 ≤ 1000 := Nat.le_trans (r_x1.le (inside_of HC.out)) HSZ.out
                obtain ⟨t_x1, _⟩ := T5.out.cellRow 0 rfl false q_x1 (by omega)
                rw [HRS.out q_x1 r_x1] at t_x1
                have w_x1 : wrap64 (x1.tdiv 2) = (q_x1 : Int) := by rw [Int.tdiv_eq_ediv_of_nonneg (by omega), wrap_in (by omega) (by omega)]; exact h_x1
                have m_x1 : ((q_x1 : Nat) : Int) < 1002 := by omega
                clear a_x1 h_x1 r_x1 l_x1
                go_wp2
                go_roundg (V.length - (k + 1))
                case measure => have := HX.out; have := HLT.out; omega
                case rel => exact ⟨k + 1, (by first | exact val_step HLT.out (by have := HVM.out; omega) | rfl), ⟨by have := HLT.out; omega, by have := HX.out; have := HLT.out; omega⟩, ⟨BW.out.trans (B5.out.mono BW.out.size)⟩⟩
              · have b_x1 : decide (1 < x1) = false := decide_eq_false a_x1
                clear a_x1
                go_wp2
                go_roundg (V.length - (k + 1))
                case measure => have := HX.out; have := HLT.out; omega
                case rel => exact ⟨k + 1, (by first | exact val_step HLT.out (by have := HVM.out; omega) | rfl), ⟨by have := HLT.out; omega, by have := HX.out; have := HLT.out; omega⟩, ⟨BW.out.trans (B5.out.mono BW.out.size)⟩⟩
          · rw [if_neg g3] at hkv
            by_cases g2 : 1 + c.f0 ≤ (u : Int)
            · rw [if_pos g2] at hkv
              obtain ⟨i, hi1⟩ : ∃ i : Nat, u = c.f0.toNat + 1 + i := ⟨u - (c.f0.toNat + 1), by omega⟩
              have hil : i < c.f1.length := by omega
              obtain ⟨hkd, hix⟩ := Prod.mk.inj hkv
              obtain rfl : kd = 2 := hkd.symm
              obtain rfl : ix = (i : Int) := by omega
              obtain ⟨ag, e2, hga, hgb⟩ := at_latch HC5.out.s1.r i hil
              have HUR2 := HUR.out
              rw [hi1] at HUR2
              have hr0 := inC_step hi HUR2 (l := c.f1[i].f0) (List.mem_append_right _ (by rw [lat_reads hil]; simp))
              obtain ⟨x0, hx0⟩ : ∃ x, c.f1[i].f0 = x := ⟨_, rfl⟩
              rw [hx0] at hga hr0
              have hili : (i : Int) < c.f1.length := by omega
              have HR0 := Aside0.mk hr0
              obtain ⟨P1, c1_, P2, c2_, P3, c3_, P4, c4_⟩ := p
              dsimp only at e2
              subst e2
              clear hgb hx0 hr0 HUR2 hil hkd hix hkv g3 g2 hi1 hul hup h0 hi HKD
              by_cases a_x0 : 1 < x0
              · have b_x0 : decide (1 < x0) = true := decide_eq_true a_x0
                obtain ⟨q_x0, h_x0⟩ : ∃ q : Nat, x0 / 2 = (q : Int) := ⟨(x0 / 2).toNat, by omega⟩
                have r_x0 : Reach c q_x0 := by
                  rcases HR0.out.2 with h_ | h_
                  · unfold varOf at h_; omega
                  · unfold varOf at h_; rw [h_x0, Int.toNat_natCast] at h_; exact h_
                have l_x0 : q_x0 ≤ 1000 := Nat.le_trans (r_x0.le (inside_of HC.out)) HSZ.out
                obtain ⟨t_x0, _⟩ := T5.out.cellRow 0 rfl false q_x0 (by omega)
                rw [HRS.out q_x0 r_x0] at t_x0
                have w_x0 : wrap64 (x0.tdiv 2) = (q_x0 : Int) := by rw [Int.tdiv_eq_ediv_of_nonneg (by omega), wrap_in (by omega) (by omega)]; exact h_x0
                have m_x0 : ((q_x0 : Nat) : Int) < 1002 := by omega
                clear a_x0 h_x0 r_x0 l_x0
                go_wp2
                go_roundg (V.length - (k + 1))
                case measure => have := HX.out; have := HLT.out; omega
                case rel => exact ⟨k + 1, (by first | exact val_step HLT.out (by have := HVM.out; omega) | rfl), ⟨by have := HLT.out; omega, by have := HX.out; have := HLT.out; omega⟩, ⟨BW.out.trans (B5.out.mono BW.out.size)⟩⟩
              · have b_x0 : decide (1 < x0) = false := decide_eq_false a_x0
                clear a_x0
                go_wp2
                go_roundg (V.length - (k + 1))
                case measure => have := HX.out; have := HLT.out; omega
                case rel => exact ⟨k + 1, (by first | exact val_step HLT.out (by have := HVM.out; omega) | rfl), ⟨by have := HLT.out; omega, by have := HX.out; have := HLT.out; omega⟩, ⟨BW.out.trans (B5.out.mono BW.out.size)⟩⟩
            · rw [if_neg g2, if_pos (by omega)] at hkv
              obtain ⟨hkd, hix⟩ := Prod.mk.inj hkv
              obtain rfl : kd = 1 := hkd.symm
              clear hkd hix hkv g3 g2 hul hup h0 hi HKD
              go_wp2
              go_roundg (V.length - (k + 1))
              case measure => have := HX.out; have := HLT.out; omega
              case rel => exact ⟨k + 1, (by first | exact val_step HLT.out (by have := HVM.out; omega) | rfl), ⟨by have := HLT.out; omega, by have := HX.out; have := HLT.out; omega⟩, ⟨BW.out.trans (B5.out.mono BW.out.size)⟩⟩
        · have hk : k = V.length := by have := HX.out; omega
          subst hk
          have hlti : ¬ ((V.length : Nat) : Int) < V.length := by omega
          clear hlt
          go_wp2
          go_ret
          exact ⟨rfl, S.out.B.trans ((HB0.out.trans (BW.out.mono HB0.out.size)).mono S.out.z)⟩
end Go.Proofs.Ytiafojcbllbepaa.PH
