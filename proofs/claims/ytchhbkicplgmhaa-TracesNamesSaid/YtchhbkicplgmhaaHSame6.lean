/- ref04.Same, ref06.SameAll and Same. -/
import Derived.Test.YtchhbkicplgmhaaHStates
namespace Go.Proofs.Ytchhbkicplgmhaa.PH
open Go.RowKit Go.Proofs.YtchhbkicplgmhaaW.PrintWords Go.Proofs.YtchhbkicplgmhaaW.PrintLast
set_option linter.unusedVariables false
set_option linter.unusedSimpArgs false

theorem eq_drop {α : Type} {l m : List α} {k : Nat} (h1 : k < l.length) (h2 : k < m.length) : l.drop k = m.drop k ↔ l[k] = m[k] ∧ l.drop (k + 1) = m.drop (k + 1) := by
  rw [drop_at h1, drop_at h2, List.cons.injEq]
set_option maxHeartbeats 2000000 in
set_option maxRecDepth 100000 in
theorem ref04_Same (A : Option Addr) (c : Nat) (l : List Bool) (B : Option Addr) (d : Nat) (m : List Bool) (w : World) (hl : RS Kd.bool w A c l) (hm : RS Kd.bool w B d m) :
    Calls Try.prog 29 #[.slice A l.length c, .slice B m.length d] w fun e w' => e = .returned (.bool (decide (l = m))) ∧ Below w.heap.size w w' := by
  have HL := Aside0.mk hl
  have HM := Aside0.mk hm
  have HX0 := Aside0.mk hl.max
  clear hl hm
  by_cases hn : l.length = m.length
  · have hnb : ((l.length : Int) != (m.length : Int)) = false := bne_eq_false_iff_eq.mpr (by omega)
    have HN := Aside0.mk hn
    clear hn
    go_enter Try.func29, Try.ntmps29
    go_wp2
    clear hnb
    go_loopg [5] l.length (fun gg s5 wr => ∃ k : Nat, s5 = .int .i64 k ∧ Aside0 (k ≤ l.length ∧ l.length - k ≤ gg) ∧ Aside0 (Below w.heap.size w wr) ∧ Aside0 (decide (l.drop k = m.drop k) = decide (l = m)))
    case atStart => exact ⟨0, rfl, ⟨by omega, by omega⟩, ⟨Below.refl _ _⟩, ⟨by simp⟩⟩
    case round =>
      obtain ⟨k, rfl, HX, BW, HA⟩ := hrel
      by_cases hlt : k < l.length
      · have hlt2 : k < m.length := by have := HN.out; omega
        obtain ⟨ad, e1, hx⟩ := at_bool (HL.out.below BW.out).r k hlt
        obtain ⟨bd, e2, hy⟩ := at_bool (HM.out.below BW.out).r k hlt2
        cases e1
        cases e2
        have HD := HA.out
        simp only [eq_drop hlt hlt2] at HD
        have HLT := Aside0.mk hlt
        generalize l[k] = x at *
        generalize m[k] = y at *
        have HDD := Aside0.mk HD
        clear HA HD
        by_cases hxy : x = y
        · have hb : (!x == y) = false := by rw [hxy]; cases y <;> rfl
          have HXY := Aside0.mk hxy
          clear hxy
          go_wp2
          go_quiet (fail)
          go_wp2
          go_roundg (l.length - (k + 1))
          case measure => have := HX.out; have := HLT.out; omega
          case rel => exact ⟨k + 1, val_step HLT.out HX0.out, ⟨HLT.out, by have := HX.out; omega⟩, ⟨pw_below_drewN BW.out _⟩, ⟨by rw [← HDD.out]; simp [HXY.out]⟩⟩
        · have hb : (!x == y) = true := by cases x <;> cases y <;> simp_all
          have HXY := Aside0.mk hxy
          clear hxy
          go_wp2
          go_quiet (fail)
          go_wp2
          go_ret
          exact ⟨ret_bool (by rw [← HDD.out]; simp [HXY.out]), pw_below_drewN BW.out _⟩
      · have HE : k = l.length := by have := HX.out.1; omega
        have HD := HA.out
        rw [HE, List.drop_length, show m.drop l.length = [] by rw [HN.out, List.drop_length]] at HD
        have HDD := Aside0.mk HD
        clear HD HE HA
        go_wp2
        go_ret
        exact ⟨ret_bool (by rw [← HDD.out]; simp), BW.out⟩
  · have hnb : ((l.length : Int) != (m.length : Int)) = true := bne_iff_ne.mpr (by omega)
    have HN := Aside0.mk hn
    clear hn
    go_enter Try.func29, Try.ntmps29
    go_wp2
    go_ret
    exact ⟨ret_bool (by rw [decide_eq_false (fun h => HN.out (by rw [h]))]), Below.refl _ _⟩
set_option maxHeartbeats 4000000 in
set_option maxRecDepth 100000 in
theorem ref06_SameAll (A : Option Addr) (c : Nat) (l : List (List Bool)) (B : Option Addr) (d : Nat) (m : List (List Bool)) (w : World) (hl : RS (Kd.slice 4 Kd.bool) w A c l) (hm : RS (Kd.slice 4 Kd.bool) w B d m) :
    Calls Try.prog 21 #[.slice A l.length c, .slice B m.length d] w fun e w' => e = .returned (.bool (decide (l = m))) ∧ Below w.heap.size w w' := by
  have HL := Aside0.mk hl
  have HM := Aside0.mk hm
  have HX0 := Aside0.mk hl.max
  clear hl hm
  by_cases hn : l.length = m.length
  · have hnb : ((l.length : Int) != (m.length : Int)) = false := bne_eq_false_iff_eq.mpr (by omega)
    have HN := Aside0.mk hn
    clear hn
    go_enter Try.func21, Try.ntmps21
    go_wp2
    clear hnb
    go_loopg [5] l.length (fun gg s5 wr => ∃ k : Nat, s5 = .int .i64 k ∧ Aside0 (k ≤ l.length ∧ l.length - k ≤ gg) ∧ Aside0 (Below w.heap.size w wr) ∧ Aside0 (decide (l.drop k = m.drop k) = decide (l = m)))
    case atStart => exact ⟨0, rfl, ⟨by omega, by omega⟩, ⟨Below.refl _ _⟩, ⟨by simp⟩⟩
    case round =>
      obtain ⟨k, rfl, HX, BW, HA⟩ := hrel
      by_cases hlt : k < l.length
      · have hlt2 : k < m.length := by have := HN.out; omega
        obtain ⟨ad, Ax, cx, e1, hx, hrx⟩ := at_row (HL.out.below BW.out).r k hlt
        obtain ⟨bd, Ay, cy, e2, hy, hry⟩ := at_row (HM.out.below BW.out).r k hlt2
        cases e1
        cases e2
        have HD := HA.out
        simp only [eq_drop hlt hlt2] at HD
        have HLT := Aside0.mk hlt
        have HRX := Aside0.mk (hrx.below (below_drew (Below.refl _ _)))
        have HRY := Aside0.mk (hry.below (below_drew (Below.refl _ _)))
        clear hrx hry
        generalize l[k] = x at *
        generalize m[k] = y at *
        have HDD := Aside0.mk HD
        clear HA HD
        have BD := Aside0.mk (below_drew BW.out)
        have HXY := Aside0.mk (And.intro hx hy)
        go_wp2
        refine start_ (n := 10) (S := (fun w' => w'.cell? (ad.add k) = some (.slice Ax x.length cx) ∧ w'.cell? (bd.add k) = some (.slice Ay y.length cy))) (ds := []) #[false, false, false, false, false, false, false, false, false, false] (by kernel_rfl) rfl rfl HXY.out (fun hHeld => ?_)
        refine pure_ (i := 0) (N := some 17) (v := ?_) (a' := ?_) #[true, false, false, false, false, false, false, false, false, false] rfl rfl (by kernel_rfl) (fun _ _ _ h => h) (Or.inl ⟨by rfl, ?_⟩) ?_ ?_
        rotate_left
        · intro w'
          go_simp
          with_reducible rfl
        rotate_left
        · simp only [Act.put, List.setIfInBounds_toArray, List.set_cons_zero, List.set_cons_succ]
          rfl
        refine pure_ (i := 1) (N := some 18) (v := ?_) (a' := ?_) #[true, true, false, false, false, false, false, false, false, false] rfl rfl (by kernel_rfl) (fun _ _ _ h => h) (Or.inl ⟨by rfl, ?_⟩) ?_ ?_
        rotate_left
        · intro w'
          go_simp
          with_reducible rfl
        rotate_left
        · simp only [Act.put, List.setIfInBounds_toArray, List.set_cons_zero, List.set_cons_succ]
          rfl
        refine pure_ (i := 2) (N := some 19) (v := ?_) (a' := ?_) #[true, true, true, false, false, false, false, false, false, false] rfl rfl (by kernel_rfl) (fun _ _ _ h => h) (Or.inl ⟨by rfl, ?_⟩) ?_ ?_
        rotate_left
        · intro w'
          go_simp
          with_reducible rfl
        rotate_left
        · simp only [Act.put, List.setIfInBounds_toArray, List.set_cons_zero, List.set_cons_succ]
          rfl
        refine take_ (i := 3) (N := some 20) (v := ?_) (a' := ?_) #[true, true, true, true, false, false, false, false, false, false] rfl rfl (by kernel_rfl) (fun _ _ _ h => h) (Or.inl ⟨by rfl, ?_⟩) hHeld ?_ ?_
        rotate_left
        · rintro w' ⟨s0, s1⟩
          go_simp
          with_reducible rfl
        rotate_left
        · simp only [Act.put, List.setIfInBounds_toArray, List.set_cons_zero, List.set_cons_succ]
          rfl
        refine pure_ (i := 4) (N := some 21) (v := ?_) (a' := ?_) #[true, true, true, true, true, false, false, false, false, false] rfl rfl (by kernel_rfl) (fun _ _ _ h => h) (Or.inl ⟨by rfl, ?_⟩) ?_ ?_
        rotate_left
        · intro w'
          go_simp
          with_reducible rfl
        rotate_left
        · simp only [Act.put, List.setIfInBounds_toArray, List.set_cons_zero, List.set_cons_succ]
          rfl
        refine pure_ (i := 5) (N := some 22) (v := ?_) (a' := ?_) #[true, true, true, true, true, true, false, false, false, false] rfl rfl (by kernel_rfl) (fun _ _ _ h => h) (Or.inl ⟨by rfl, ?_⟩) ?_ ?_
        rotate_left
        · intro w'
          go_simp
          with_reducible rfl
        rotate_left
        · simp only [Act.put, List.setIfInBounds_toArray, List.set_cons_zero, List.set_cons_succ]
          rfl
        refine pure_ (i := 6) (N := some 23) (v := ?_) (a' := ?_) #[true, true, true, true, true, true, true, false, false, false] rfl rfl (by kernel_rfl) (fun _ _ _ h => h) (Or.inl ⟨by rfl, ?_⟩) ?_ ?_
        rotate_left
        · intro w'
          go_simp
          with_reducible rfl
        rotate_left
        · simp only [Act.put, List.setIfInBounds_toArray, List.set_cons_zero, List.set_cons_succ]
          rfl
        refine take_ (i := 7) (N := some 24) (v := ?_) (a' := ?_) #[true, true, true, true, true, true, true, true, false, false] rfl rfl (by kernel_rfl) (fun _ _ _ h => h) (Or.inl ⟨by rfl, ?_⟩) hHeld ?_ ?_
        rotate_left
        · rintro w' ⟨s0, s1⟩
          go_simp
          with_reducible rfl
        rotate_left
        · simp only [Act.put, List.setIfInBounds_toArray, List.set_cons_zero, List.set_cons_succ]
          rfl
        refine one_ (i := 8) (N := some 25) #[true, true, true, true, true, true, true, true, true, false] rfl rfl (by kernel_rfl) (by decide) (fun K hK => ?_)
        refine goes_ Try.func29 (by kernel_rfl) rfl #[.slice Ax x.length cx, .slice Ay y.length cy] (by rfl) rfl rfl (by simp only [List.map_toArray, List.map_cons, List.map_nil] <;> rfl) ?_
        refine (ref04_Same Ax cx x Ay cy y _ HRX.out HRY.out).mono ?_
        rintro e w7 ⟨rfl, hb7⟩
        refine ⟨_, rfl, ?_⟩
        have B7 := Aside0.mk (BD.out.trans (hb7.mono BD.out.size))
        have H7 := Aside0.mk (And.intro (pw_cell_below hb7 HXY.out.1) (pw_cell_below hb7 HXY.out.2))
        clear hb7
        refine hK.out _ _ H7.out (fun hHeld => ?_)
        clear hK K
        refine norm_ (a' := ?_) ?_ ?_
        rotate_left
        · show Act.put _ (some 25) _ = _
          simp only [Act.put, List.setIfInBounds_toArray, List.set_cons_zero, List.set_cons_succ]
          rfl
        refine pure_ (i := 9) (N := some 26) (v := ?_) (a' := ?_) #[true, true, true, true, true, true, true, true, true, true] rfl rfl (by kernel_rfl) (fun _ _ _ h => h) (Or.inl ⟨by rfl, ?_⟩) ?_ ?_
        rotate_left
        · intro w'
          go_simp
          with_reducible rfl
        rotate_left
        · simp only [Act.put, List.setIfInBounds_toArray, List.set_cons_zero, List.set_cons_succ]
          rfl
        refine done_ (by kernel_rfl) ?_
        by_cases hxy : x = y
        · have HXE := Aside0.mk hxy
          rw [decide_eq_true hxy]
          clear hxy
          go_wp2
          go_roundg (l.length - (k + 1))
          case measure => have := HX.out; have := HLT.out; omega
          case rel => exact ⟨k + 1, val_step HLT.out HX0.out, ⟨HLT.out, by have := HX.out; omega⟩, B7, ⟨by rw [← HDD.out]; simp [HXE.out]⟩⟩
        · have HXE := Aside0.mk hxy
          rw [decide_eq_false hxy]
          clear hxy
          go_wp2
          go_ret
          exact ⟨ret_bool (by rw [← HDD.out]; simp [HXE.out]), B7.out⟩
      · have HE : k = l.length := by have := HX.out.1; omega
        have HD := HA.out
        rw [HE, List.drop_length, show m.drop l.length = [] by rw [HN.out, List.drop_length]] at HD
        have HDD := Aside0.mk HD
        clear HD HE HA
        go_wp2
        go_ret
        exact ⟨ret_bool (by rw [← HDD.out]; simp), BW.out⟩
  · have hnb : ((l.length : Int) != (m.length : Int)) = true := bne_iff_ne.mpr (by omega)
    have HN := Aside0.mk hn
    clear hn
    go_enter Try.func21, Try.ntmps21
    go_wp2
    go_ret
    exact ⟨ret_bool (by rw [decide_eq_false (fun h => HN.out (by rw [h]))]), Below.refl _ _⟩
deriving instance DecidableEq for Run
theorem run_ext (x y : Run) : x = y ↔ x.f0 = y.f0 ∧ x.f1 = y.f1 := by
  obtain ⟨a, b⟩ := x
  obtain ⟨c, d⟩ := y
  simp
/-- Two runs, boxed. -/
structure TwoT (w : World) (q : TP) (t : Run) (r : TP) (u : Run) (wr : World) : Prop where
  BW : Below w.heap.size w wr
  B0 : wr.heap[w.heap.size]? = some (.cells #[.slice q.A0 t.f0.length q.c0, .slice q.A1 t.f1.length q.c1] 30 (0, 0))
  B1 : wr.heap[w.heap.size + 1]? = some (.cells #[.slice r.A0 u.f0.length r.c0, .slice r.A1 u.f1.length r.c1] 30 (0, 0))
theorem TwoT.below {w : World} {q : TP} {t : Run} {r : TP} {u : Run} {wr w2 : World} (h : TwoT w q t r u wr) (hb : Below wr.heap.size wr w2) : TwoT w q t r u w2 := ⟨h.BW.trans (hb.mono h.BW.size), blk_below h.B0 hb, blk_below h.B1 hb⟩
theorem TwoT.start (w : World) (q : TP) (t : Run) (r : TP) (u : Run) : TwoT w q t r u ((w.alloc (.cells #[.slice q.A0 t.f0.length q.c0, .slice q.A1 t.f1.length q.c1] 30)).alloc (.cells #[.slice r.A0 u.f0.length r.c0, .slice r.A1 u.f1.length r.c1] 30)) :=
  ⟨below_alloc (below_alloc (Below.refl _ _) _) _, blk_alloc (blk_new _ _) _, by simpa using blk_new (w.alloc (.cells #[.slice q.A0 t.f0.length q.c0, .slice q.A1 t.f1.length q.c1] 30)) (.cells #[.slice r.A0 u.f0.length r.c0, .slice r.A1 u.f1.length r.c1] 30)⟩
set_option maxHeartbeats 4000000 in
set_option maxRecDepth 100000 in
theorem ref06_Same (q : TP) (t : Run) (r : TP) (u : Run) (w : World) (ht : RT w q t) (hu : RT w r u) :
    Calls Try.prog 22 #[tv q t, tv r u] w fun e w' => e = .returned (.bool (decide (t = u))) ∧ Below w.heap.size w w' := by
  have HT := Aside0.mk ht
  have HU := Aside0.mk hu
  have I := Aside0.mk (TwoT.start w q t r u)
  have hu30 := Try.underlying30
  obtain ⟨g0, g1⟩ := (blk2t I.out.B0).1
  obtain ⟨u0, u1⟩ := (blk2t I.out.B1).1
  obtain ⟨m, hm⟩ : ∃ m, decide (t = u) = m := ⟨_, rfl⟩
  rw [hm]
  have HM := Aside0.mk hm
  clear ht hu hm
  go_enter Try.func22, Try.ntmps22
  go_wp2_with fail
  refine (ref04_Same q.A0 q.c0 t.f0 r.A0 r.c0 u.f0 _ (HT.out.below I.out.BW).s0 (HU.out.below I.out.BW).s0).mono ?_
  rintro e w1 ⟨rfl, hb1⟩
  have I := Aside0.mk (I.out.below hb1)
  clear hb1 g0 g1 u0 u1
  obtain ⟨g0, g1⟩ := (blk2t I.out.B0).1
  obtain ⟨u0, u1⟩ := (blk2t I.out.B1).1
  by_cases h0 : t.f0 = u.f0
  · have H0 := Aside0.mk h0
    rw [decide_eq_true h0]
    clear h0
    go_wp2_with fail
    refine (ref06_SameAll q.A1 q.c1 t.f1 r.A1 r.c1 u.f1 _ (HT.out.below I.out.BW).s1 (HU.out.below I.out.BW).s1).mono ?_
    rintro e w2 ⟨rfl, hb2⟩
    have I := Aside0.mk (I.out.below hb2)
    have HE := Aside0.mk (show decide (t.f1 = u.f1) = m by rw [← HM.out]; simp only [run_ext, H0.out, true_and])
    rw [HE.out]
    clear hb2 g0 g1 u0 u1
    go_wp2
    go_ret
    exact ⟨by simp, I.out.BW⟩
  · have HE := Aside0.mk (show m = false by rw [← HM.out]; exact decide_eq_false (fun h => h0 (by rw [h])))
    rw [decide_eq_false h0]
    clear h0
    go_wp2
    go_ret
    exact ⟨by rw [HE.out]; rfl, I.out.BW⟩
end Go.Proofs.Ytchhbkicplgmhaa.PH
