/- ref04.Bad, ref06.Shows. -/
import Derived.Test.YtchhbkicplgmhaaHCutP
namespace Go.Proofs.Ytchhbkicplgmhaa.PH
open Go.RowKit Go.Proofs.YtchhbkicplgmhaaW.PrintWords Go.Proofs.YtchhbkicplgmhaaW.PrintLast
set_option linter.unusedVariables false
set_option linter.unusedSimpArgs false

/-- Which bad literal a right run shows, or -1. -/
def showsC (c : Circ) (t : Run) : Int := witN t.f1.length (walked (frames c t.f0 t.f1) (fun _ f => f.2.1) 0)
theorem shows_last {c : Circ} {t : Run} (h : tCheck c t = 0) {n : Nat} (hn : n ≤ t.f1.length) (h2 : ∀ j (hj : j < (frames c t.f0 t.f1).length), j < n → (frames c t.f0 t.f1)[j].2.1 = true) (h3 : ∀ (hx : n < (frames c t.f0 t.f1).length), (frames c t.f0 t.f1)[n].2.1 = false) {i : Nat} (hi : t.f1.length = i + 1) (h0 : i < t.f1.length) :
    showsC c t = if n = t.f1.length then firstIdx (fun x => true == x) (badsOf c (stateAt c t.f0 (t.f1.take i)) t.f1[i]) 0 else -1 := by
  obtain rfl : i = t.f1.length - 1 := by omega
  have hfl : (frames c t.f0 t.f1).length = t.f1.length := frames_len _ _ _
  have hs := wit_spec (frames c t.f0 t.f1) (by omega)
  unfold showsC
  by_cases e : n = t.f1.length
  · rw [if_pos e]
    have h4 := hs.2.2 (fun j hj => h2 j (by omega) (by omega))
    simp only [hfl] at h4
    rw [h4, frames_at _ _ _ (t.f1.length - 1) h0]
  · rw [if_neg e]
    have h5 := hs.2.1
    rw [hfl] at h5
    apply h5
    intro hp
    have h4 := hp.2.2.1 n (by omega) (by omega)
    rw [h3 (by omega)] at h4
    cases h4
theorem witC_shows {c : Circ} {t : Run} (h : tCheck c t = 0) : witC c t = if showsC c t < 0 then (0, 57) else (showsC c t, 0) := by
  unfold witC showsC
  rw [if_neg (by simp [h])]
theorem firstIdx_map {α β : Type} (p : β → Bool) (f : α → β) : ∀ (l : List α) (i : Int), firstIdx p (l.map f) i = firstIdx (fun x => p (f x)) l i
  | [], _ => rfl
  | x :: xs, i => by
    rw [List.map_cons]
    show (if p (f x) = true then i else firstIdx p (xs.map f) (i + 1)) = if p (f x) = true then i else firstIdx (fun x => p (f x)) xs (i + 1)
    rw [firstIdx_map p f xs]
theorem first_bads (c : Circ) (st ins : List Bool) : firstIdx (fun x => true == x) (badsOf c st ins) 0 = firstIdx (litV (valsOf c st ins)) (c.f3.drop 0) ((0 : Nat) : Int) := by
  unfold badsOf
  rw [firstIdx_map, List.drop_zero]
  have e : (fun x => true == litV (valsOf c st ins) x) = litV (valsOf c st ins) := by
    funext x
    cases litV (valsOf c st ins) x <;> rfl
  rw [e]
  rfl
theorem first_step {α : Type} {p : α → Bool} {l : List α} {j : Nat} (hj : j < l.length) : firstIdx p (l.drop j) (j : Int) = if p l[j] = true then (j : Int) else firstIdx p (l.drop (j + 1)) ((j + 1 : Nat) : Int) := by
  rw [List.drop_eq_getElem_cons hj]
  rfl
set_option maxHeartbeats 4000000 in
set_option maxRecDepth 100000 in
theorem ref04_Bad (p : CP) (c : Circ) (B : Option Addr) (d : Nat) (st : List Bool) (B2 : Option Addr) (d2 : Nat) (ins : List Bool) (w : World) (h : RC w p c) (h1 : RS Kd.bool w B d st) (h2 : RS Kd.bool w B2 d2 ins)
    (hc : check c = 0) (hl1 : st.length = c.f1.length) (hl2 : (ins.length : Int) = c.f0) :
    Calls Try.prog 65 #[cv p c, .slice B st.length d, .slice B2 ins.length d2] w fun e w' => e = .returned (.int .i64 (firstIdx (fun x => true == x) (badsOf c st ins) 0)) ∧ Below w.heap.size w w' := by
  obtain ⟨A1, k1, A2, k2, A3, k3, A4, k4⟩ := p
  have HF := Aside0.mk (fun W (hb : Below w.heap.size w W) => ref04_Frame ⟨A1, k1, A2, k2, A3, k3, A4, k4⟩ c B d st B2 d2 ins W (h.below hb) (h1.below hb) (h2.below hb) hc hl1 hl2)
  have HR := Aside0.mk h
  have HL := Aside0.mk (check_lits hc).1.l3
  have HVL := Aside0.mk (vals_len (c := c) hl1 hl2)
  have HM := Aside0.mk h.s3.max
  have BX := Aside0.mk (below_alloc (Below.refl w.heap.size w) (.cells #[.int .i64 c.f0, .slice A1 c.f1.length k1, .slice A2 c.f2.length k2, .slice A3 c.f3.length k3, .slice A4 c.f4.length k4] 26))
  have HB := Aside0.mk (blk_new w (.cells #[.int .i64 c.f0, .slice A1 c.f1.length k1, .slice A2 c.f2.length k2, .slice A3 c.f3.length k3, .slice A4 c.f4.length k4] 26))
  have hu26 := Try.underlying26
  have HNX : Aside0 (firstIdx (fun x => true == x) (badsOf c st ins) 0 = firstIdx (litV (valsOf c st ins)) (c.f3.drop 0) ((0 : Nat) : Int)) := ⟨first_bads _ _ _⟩
  rw [HNX.out]
  generalize valsOf c st ins = vals at *
  obtain ⟨n, hn⟩ : ∃ n, vals.length = n := ⟨_, rfl⟩
  rw [hn] at HVL
  have HVN := Aside0.mk hn
  obtain ⟨r, hr⟩ : ∃ r, firstIdx (litV vals) (c.f3.drop 0) ((0 : Nat) : Int) = r := ⟨_, rfl⟩
  rw [hr]
  have H0 := Aside0.mk hr
  obtain ⟨g0, g1, g2, g3, g4⟩ := (blk5w HB.out).1
  clear h h1 h2 hc hl1 hl2 HNX hn hr
  dsimp only [cv] at *
  go_enter Try.func65, Try.ntmps65
  go_wp2_with fail
  refine (HF.out _ BX.out).mono ?_
  rintro e w1 ⟨V, cap, rfl, hv, hb1⟩
  have hv2 := RS.of_R' hv
  rw [HVN.out]
  have HV := Aside0.mk hv2
  have B1 := Aside0.mk (BX.out.trans (hb1.mono BX.out.size))
  have HB1 := Aside0.mk (blk_below HB.out hb1)
  clear hv hv2 hb1 HF BX HB g0 g1 g2 g3 g4
  go_wp2
  go_loopg [8] c.f3.length (fun gg s8 wr => ∃ (i : Nat), s8 = .int .i64 i ∧ Aside0 (i ≤ c.f3.length ∧ c.f3.length - i ≤ gg) ∧ Aside0 (Below w1.heap.size w1 wr) ∧ Aside0 (firstIdx (litV vals) (c.f3.drop i) (i : Int) = r))
  case atStart => exact ⟨0, rfl, ⟨by omega, by omega⟩, ⟨Below.refl _ _⟩, H0⟩
  case round =>
    clear H0
    obtain ⟨i, rfl, HX, BW, HA⟩ := hrel
    obtain ⟨g0, g1, g2, g3, g4⟩ := (blk5w (blk_below HB1.out BW.out)).1
    by_cases hlt : i < c.f3.length
    · obtain ⟨ad, e1, hx⟩ := at_int (HR.out.below (B1.out.trans (BW.out.mono B1.out.size))).s3.r i hlt
      have HQ := Aside0.mk ((first_step (p := litV vals) hlt).symm.trans HA.out)
      have hxl := HL.out c.f3[i] (List.getElem_mem hlt)
      have HLT := Aside0.mk hlt
      generalize c.f3[i] = x at *
      cases e1
      have C0 := Aside0.mk (ref04_Value V cap vals n x wr (HV.out.below BW.out) HVN.out hxl.1 (by have := HVL.out; have := HVN.out; omega))
      clear hxl
      go_wp2_with fail
      refine C0.out.mono ?_
      rintro e w4 ⟨rfl, hb4⟩
      have B4 := Aside0.mk (BW.out.trans (hb4.mono BW.out.size))
      clear hb4 BW C0 hx g0 g1 g2 g3 g4
      cases hq : litV vals x with
      | false =>
        have HQ2 := Aside0.mk (show firstIdx (litV vals) (c.f3.drop (i + 1)) ((i + 1 : Nat) : Int) = r by have h_ := HQ.out; rw [if_neg (by rw [hq]; decide)] at h_; exact h_)
        clear hq
        go_wp2
        go_roundg (c.f3.length - (i + 1))
        case measure => have := HX.out; have := HLT.out; omega
        case rel => exact ⟨i + 1, val_step HLT.out HM.out, ⟨HLT.out, by have := HX.out; omega⟩, B4, HQ2⟩
      | true =>
        have HQ2 := Aside0.mk (show r = (i : Int) by have h_ := HQ.out; rw [if_pos hq] at h_; exact h_.symm)
        clear hq
        go_wp2
        go_ret
        exact ⟨by rw [HQ2.out]; rfl, B1.out.trans (B4.out.mono B1.out.size)⟩
    · have hi : i = c.f3.length := by have := HX.out.1; omega
      have HQ2 := Aside0.mk (show r = -1 by have h_ := HA.out; rw [hi, List.drop_length] at h_; exact h_.symm)
      clear hi
      go_wp2
      go_ret
      exact ⟨by rw [HQ2.out]; rfl, B1.out.trans (BW.out.mono B1.out.size)⟩
set_option maxHeartbeats 8000000 in
set_option maxRecDepth 100000 in
theorem ref06_Shows (p : CP) (c : Circ) (q : TP) (t : Run) (w : World) (h : RC w p c) (hs : c.Fits) (ht : RT w q t) (hc : tCheck c t = 0) :
    Calls Try.prog 47 #[cv p c, tv q t] w fun e w' => e = .returned (.int .i64 (showsC c t)) ∧ Below w.heap.size w w' := by
  obtain ⟨A1, k1, A2, k2, A3, k3, A4, k4⟩ := p
  obtain ⟨QA0, QC0, QA1, QC1⟩ := q
  have HR := Aside0.mk h
  have HT := Aside0.mk ht
  have HC := Aside0.mk (tCheck_ok hc)
  obtain ⟨i0, hi0⟩ : ∃ i0, t.f1.length = i0 + 1 := ⟨t.f1.length - 1, by have := HC.out.2.2.1; omega⟩
  have HI0 := Aside0.mk hi0
  have HLT := Aside0.mk (show i0 < t.f1.length by omega)
  obtain ⟨n, hrn, hn1, hn2, hn3⟩ := right_spec c t hc
  have HW := Aside0.mk (shows_last hc hn1 hn2 hn3 hi0 HLT.out)
  obtain ⟨bd, Ay, cy, e1, _, _⟩ := at_row ht.s1.r i0 HLT.out
  cases e1
  have HAW := Aside0.mk (show (rightC c t).1 = (n : Int) by rw [hrn])
  have CA := Aside0.mk (fun W (hb : Below w.heap.size w W) => show Calls Try.prog 42 #[.agg #[.int .i64 c.f0, .slice A1 c.f1.length k1, .slice A2 c.f2.length k2, .slice A3 c.f3.length k3, .slice A4 c.f4.length k4], .agg #[.slice QA0 t.f0.length QC0, .slice (some bd) t.f1.length QC1]] W (fun e w' => e = .returned (.int .i64 (n : Int)) ∧ Below W.heap.size W w') from HAW.out ▸ ref06_Allowed ⟨A1, k1, A2, k2, A3, k3, A4, k4⟩ c ⟨QA0, QC0, some bd, QC1⟩ t W (h.below hb) hs (ht.below hb) hc)
  have CL := Aside0.mk (fun W (hb : Below w.heap.size w W) => show Calls Try.prog 40 #[.agg #[.int .i64 c.f0, .slice A1 c.f1.length k1, .slice A2 c.f2.length k2, .slice A3 c.f3.length k3, .slice A4 c.f4.length k4], .agg #[.slice QA0 t.f0.length QC0, .slice (some bd) t.f1.length QC1]] W (fun e w' => RetRows W w' (statesOf c t) e) from ref06_All ⟨A1, k1, A2, k2, A3, k3, A4, k4⟩ c ⟨QA0, QC0, some bd, QC1⟩ t W (h.below hb) hs (ht.below hb) hc)
  have I := Aside0.mk (CkInv.start w ⟨A1, k1, A2, k2, A3, k3, A4, k4⟩ c ⟨QA0, QC0, some bd, QC1⟩ t)
  have hu26 := Try.underlying26
  have hu30 := Try.underlying30
  obtain ⟨m, hm⟩ : ∃ m, showsC c t = m := ⟨_, rfl⟩
  rw [hm]
  have HM := Aside0.mk (hm.symm.trans HW.out)
  have HSL := Aside0.mk (statesOf_len c t)
  have HN1 := Aside0.mk hn1
  obtain ⟨g0, g1, g2, g3, g4⟩ := (blk5w I.out.B0).1
  obtain ⟨u0, u1⟩ := (blk2t I.out.B1).1
  clear h hs ht hc hm hi0 hrn hn1 hn2 hn3 HW HAW
  dsimp only [cv, tv] at *
  go_enter Try.func47, Try.ntmps47
  go_wp2_with fail
  refine (CA.out _ I.out.BW).mono ?_
  rintro e w1 ⟨rfl, hb⟩
  have I := Aside0.mk (I.out.below hb)
  clear hb g0 g1 g2 g3 g4 u0 u1 CA
  by_cases hnl : n < t.f1.length
  · have hd : decide ((n : Int) < (t.f1.length : Int)) = true := decide_eq_true (by omega)
    have hd2 : decide (n < t.f1.length) = true := decide_eq_true hnl
    have HV := Aside0.mk (show m = -1 by rw [HM.out, if_neg (by omega)])
    clear hnl
    go_wp2
    go_ret
    exact ⟨by rw [HV.out]; rfl, I.out.BW⟩
  · have hd : decide ((n : Int) < (t.f1.length : Int)) = false := decide_eq_false (by omega)
    have hd2 : decide (n < t.f1.length) = false := decide_eq_false hnl
    have HV := Aside0.mk (show m = firstIdx (fun x => true == x) (badsOf c (stateAt c t.f0 (t.f1.take i0)) (t.f1[i0]'HLT.out)) 0 by rw [HM.out, if_pos (by have := HN1.out; omega)])
    clear hnl HM
    obtain ⟨g0, g1, g2, g3, g4⟩ := (blk5w I.out.B0).1
    obtain ⟨u0, u1⟩ := (blk2t I.out.B1).1
    have hlt := HLT.out
    obtain ⟨bd', Ay, cy, e1, hy, hry⟩ := at_row (HT.out.below I.out.BW).s1.r i0 hlt
    cases e1
    have hkl : i0 < (statesOf c t).length := by rw [HSL.out]; exact hlt
    have HKL := Aside0.mk hkl
    have HGET := Aside0.mk (show ∀ (hk : i0 < (statesOf c t).length), (statesOf c t)[i0]'hk = stateAt c t.f0 (t.f1.take i0) from fun hk => statesOf_at c t hk)
    have HSTL := Aside0.mk (stateAt_len c HC.out.2.2.2.1 (t.f1.take i0))
    have HINS := Aside0.mk (HC.out.2.2.2.2.2 t.f1[i0] (List.getElem_mem hlt))
    generalize stateAt c t.f0 (t.f1.take i0) = st at *
    generalize t.f1[i0] = ins at *
    have ID := Aside0.mk (I.out.below (below_drew (Below.refl _ _)))
    have HRY := Aside0.mk (hry.below (below_drew (Below.refl _ _)))
    have HSS : Aside0 ((fun w' : World => w'.cell? ⟨w.heap.size, 0, none⟩ = some (.int .i64 c.f0) ∧ w'.cell? ⟨w.heap.size, 1, none⟩ = some (.slice A1 c.f1.length k1) ∧ w'.cell? ⟨w.heap.size, 2, none⟩ = some (.slice A2 c.f2.length k2) ∧ w'.cell? ⟨w.heap.size, 3, none⟩ = some (.slice A3 c.f3.length k3) ∧ w'.cell? ⟨w.heap.size, 4, none⟩ = some (.slice A4 c.f4.length k4) ∧ w'.cell? ⟨w.heap.size + 1, 0, none⟩ = some (.slice QA0 t.f0.length QC0) ∧ w'.cell? ⟨w.heap.size + 1, 1, none⟩ = some (.slice (some bd) t.f1.length QC1) ∧ w'.cell? (bd.add i0) = some (.slice Ay ins.length cy)) w1) := ⟨⟨g0, g1, g2, g3, g4, u0, u1, hy⟩⟩
    have hwl : IntKind.i64.wrap ((t.f1.length : Int) - 1) = (i0 : Int) := by
      rw [i64_w, wrap_in (by omega) (by have := HC.out.2.1; omega), HI0.out]; omega
    clear hry hkl I
    go_wp2
    refine start_ (n := 16) (S := (fun w' => w'.cell? ⟨w.heap.size, 0, none⟩ = some (.int .i64 c.f0) ∧ w'.cell? ⟨w.heap.size, 1, none⟩ = some (.slice A1 c.f1.length k1) ∧ w'.cell? ⟨w.heap.size, 2, none⟩ = some (.slice A2 c.f2.length k2) ∧ w'.cell? ⟨w.heap.size, 3, none⟩ = some (.slice A3 c.f3.length k3) ∧ w'.cell? ⟨w.heap.size, 4, none⟩ = some (.slice A4 c.f4.length k4) ∧ w'.cell? ⟨w.heap.size + 1, 0, none⟩ = some (.slice QA0 t.f0.length QC0) ∧ w'.cell? ⟨w.heap.size + 1, 1, none⟩ = some (.slice (some bd) t.f1.length QC1) ∧ w'.cell? (bd.add i0) = some (.slice Ay ins.length cy))) (ds := []) #[false, false, false, false, false, false, false, false, false, false, false, false, false, false, false, false] (by kernel_rfl) rfl rfl HSS.out (fun hHeld => ?_)
    clear g0 g1 g2 g3 g4 u0 u1 hy
    refine take_ (i := 0) (N := some 14) (v := ?_) (a' := ?_) #[true, false, false, false, false, false, false, false, false, false, false, false, false, false, false, false] rfl rfl (by kernel_rfl) (fun _ _ _ h => h) (Or.inl ⟨by rfl, ?_⟩) hHeld ?_ ?_
    rotate_left
    · rintro w' ⟨s0, s1, s2, s3, s4, s5, s6, s7⟩
      go_simp
      with_reducible rfl
    rotate_left
    · simp only [Act.put, List.setIfInBounds_toArray, List.set_cons_zero, List.set_cons_succ]
      rfl
    refine take_ (i := 1) (N := some 15) (v := ?_) (a' := ?_) #[true, true, false, false, false, false, false, false, false, false, false, false, false, false, false, false] rfl rfl (by kernel_rfl) (fun _ _ _ h => h) (Or.inl ⟨by rfl, ?_⟩) hHeld ?_ ?_
    rotate_left
    · rintro w' ⟨s0, s1, s2, s3, s4, s5, s6, s7⟩
      go_simp
      with_reducible rfl
    rotate_left
    · simp only [Act.put, List.setIfInBounds_toArray, List.set_cons_zero, List.set_cons_succ]
      rfl
    refine take_ (i := 2) (N := some 16) (v := ?_) (a' := ?_) #[true, true, true, false, false, false, false, false, false, false, false, false, false, false, false, false] rfl rfl (by kernel_rfl) (fun _ _ _ h => h) (Or.inl ⟨by rfl, ?_⟩) hHeld ?_ ?_
    rotate_left
    · rintro w' ⟨s0, s1, s2, s3, s4, s5, s6, s7⟩
      go_simp
      with_reducible rfl
    rotate_left
    · simp only [Act.put, List.setIfInBounds_toArray, List.set_cons_zero, List.set_cons_succ]
      rfl
    refine pure_ (i := 4) (N := some 18) (v := ?_) (a' := ?_) #[true, true, true, false, true, false, false, false, false, false, false, false, false, false, false, false] rfl rfl (by kernel_rfl) (fun _ _ _ h => h) (Or.inl ⟨by rfl, ?_⟩) ?_ ?_
    rotate_left
    · intro w'
      go_simp
      with_reducible rfl
    rotate_left
    · simp only [Act.put, List.setIfInBounds_toArray, List.set_cons_zero, List.set_cons_succ]
      rfl
    refine pure_ (i := 5) (N := some 19) (v := ?_) (a' := ?_) #[true, true, true, false, true, true, false, false, false, false, false, false, false, false, false, false] rfl rfl (by kernel_rfl) (fun _ _ _ h => h) (Or.inl ⟨by rfl, ?_⟩) ?_ ?_
    rotate_left
    · intro w'
      go_simp
      with_reducible rfl
    rotate_left
    · simp only [Act.put, List.setIfInBounds_toArray, List.set_cons_zero, List.set_cons_succ]
      rfl
    refine pure_ (i := 8) (N := some 22) (v := ?_) (a' := ?_) #[true, true, true, false, true, true, false, false, true, false, false, false, false, false, false, false] rfl rfl (by kernel_rfl) (fun _ _ _ h => h) (Or.inl ⟨by rfl, ?_⟩) ?_ ?_
    rotate_left
    · intro w'
      go_simp
      with_reducible rfl
    rotate_left
    · simp only [Act.put, List.setIfInBounds_toArray, List.set_cons_zero, List.set_cons_succ]
      rfl
    refine take_ (i := 9) (N := some 23) (v := ?_) (a' := ?_) #[true, true, true, false, true, true, false, false, true, true, false, false, false, false, false, false] rfl rfl (by kernel_rfl) (fun _ _ _ h => h) (Or.inl ⟨by rfl, ?_⟩) hHeld ?_ ?_
    rotate_left
    · rintro w' ⟨s0, s1, s2, s3, s4, s5, s6, s7⟩
      go_simp
      with_reducible rfl
    rotate_left
    · simp only [Act.put, List.setIfInBounds_toArray, List.set_cons_zero, List.set_cons_succ]
      rfl
    refine pure_ (i := 10) (N := some 24) (v := ?_) (a' := ?_) #[true, true, true, false, true, true, false, false, true, true, true, false, false, false, false, false] rfl rfl (by kernel_rfl) (fun _ _ _ h => h) (Or.inl ⟨by rfl, ?_⟩) ?_ ?_
    rotate_left
    · intro w'
      go_simp
      with_reducible rfl
    rotate_left
    · simp only [Act.put, List.setIfInBounds_toArray, List.set_cons_zero, List.set_cons_succ]
      rfl
    refine pure_ (i := 11) (N := some 25) (v := ?_) (a' := ?_) #[true, true, true, false, true, true, false, false, true, true, true, true, false, false, false, false] rfl rfl (by kernel_rfl) (fun _ _ _ h => h) (Or.inl ⟨by rfl, ?_⟩) ?_ ?_
    rotate_left
    · intro w'
      go_simp
      with_reducible rfl
    rotate_left
    · simp only [Act.put, List.setIfInBounds_toArray, List.set_cons_zero, List.set_cons_succ]
      rfl
    refine pure_ (i := 12) (N := some 26) (v := ?_) (a' := ?_) #[true, true, true, false, true, true, false, false, true, true, true, true, true, false, false, false] rfl rfl (by kernel_rfl) (fun _ _ _ h => h) (Or.inl ⟨by rfl, ?_⟩) ?_ ?_
    rotate_left
    · intro w'
      go_simp
      with_reducible rfl
    rotate_left
    · simp only [Act.put, List.setIfInBounds_toArray, List.set_cons_zero, List.set_cons_succ]
      rfl
    refine take_ (i := 13) (N := some 27) (v := ?_) (a' := ?_) #[true, true, true, false, true, true, false, false, true, true, true, true, true, true, false, false] rfl rfl (by kernel_rfl) (fun _ _ _ h => h) (Or.inl ⟨by rfl, ?_⟩) hHeld ?_ ?_
    rotate_left
    · rintro w' ⟨s0, s1, s2, s3, s4, s5, s6, s7⟩
      go_simp
      with_reducible rfl
    rotate_left
    · simp only [Act.put, List.setIfInBounds_toArray, List.set_cons_zero, List.set_cons_succ]
      rfl
    refine one_ (i := 3) (N := some 17) #[true, true, true, true, true, true, false, false, true, true, true, true, true, true, false, false] rfl rfl (by kernel_rfl) (by decide) (fun K hK => ?_)
    refine goes_ Try.func40 (by kernel_rfl) rfl #[.agg #[.int .i64 c.f0, .slice A1 c.f1.length k1, .slice A2 c.f2.length k2, .slice A3 c.f3.length k3, .slice A4 c.f4.length k4], .agg #[.slice QA0 t.f0.length QC0, .slice (some bd) t.f1.length QC1]] (by rfl) rfl rfl (by simp only [List.map_toArray, List.map_cons, List.map_nil] <;> rfl) ?_
    refine (CL.out _ ID.out.BW).mono ?_
    rintro e w2 ⟨O, oc, rfl, hrs, hb⟩
    rw [HSL.out]
    refine ⟨_, rfl, ?_⟩
    have HB2 := Aside0.mk hb
    have ID2 := Aside0.mk (ID.out.below hb)
    have HRY2 := Aside0.mk (HRY.out.below hb)
    have RL := Aside0.mk hrs
    clear hb hrs
    refine hK.out _ _ ⟨pw_cell_below HB2.out HSS.out.1, pw_cell_below HB2.out HSS.out.2.1, pw_cell_below HB2.out HSS.out.2.2.1, pw_cell_below HB2.out HSS.out.2.2.2.1, pw_cell_below HB2.out HSS.out.2.2.2.2.1, pw_cell_below HB2.out HSS.out.2.2.2.2.2.1, pw_cell_below HB2.out HSS.out.2.2.2.2.2.2.1, pw_cell_below HB2.out HSS.out.2.2.2.2.2.2.2⟩ (fun hHeld => ?_)
    clear hK K
    refine norm_ (a' := ?_) ?_ ?_
    rotate_left
    · show Act.put _ (some 17) _ = _
      simp only [Act.put, List.setIfInBounds_toArray, List.set_cons_zero, List.set_cons_succ]
      rfl
    obtain ⟨od, Ax, cx, e0, hx, hrx⟩ := at_row RL.out.r i0 HKL.out
    rw [HGET.out HKL.out] at hx hrx
    cases e0
    have HRX2 := Aside0.mk hrx
    clear hrx
    have HS2 : Aside0 ((fun w' : World => w'.cell? ⟨w.heap.size, 0, none⟩ = some (.int .i64 c.f0) ∧ w'.cell? ⟨w.heap.size, 1, none⟩ = some (.slice A1 c.f1.length k1) ∧ w'.cell? ⟨w.heap.size, 2, none⟩ = some (.slice A2 c.f2.length k2) ∧ w'.cell? ⟨w.heap.size, 3, none⟩ = some (.slice A3 c.f3.length k3) ∧ w'.cell? ⟨w.heap.size, 4, none⟩ = some (.slice A4 c.f4.length k4) ∧ w'.cell? ⟨w.heap.size + 1, 0, none⟩ = some (.slice QA0 t.f0.length QC0) ∧ w'.cell? ⟨w.heap.size + 1, 1, none⟩ = some (.slice (some bd) t.f1.length QC1) ∧ w'.cell? (bd.add i0) = some (.slice Ay ins.length cy)) w2) := ⟨⟨pw_cell_below HB2.out HSS.out.1, pw_cell_below HB2.out HSS.out.2.1, pw_cell_below HB2.out HSS.out.2.2.1, pw_cell_below HB2.out HSS.out.2.2.2.1, pw_cell_below HB2.out HSS.out.2.2.2.2.1, pw_cell_below HB2.out HSS.out.2.2.2.2.2.1, pw_cell_below HB2.out HSS.out.2.2.2.2.2.2.1, pw_cell_below HB2.out HSS.out.2.2.2.2.2.2.2⟩⟩
    refine pure_ (i := 6) (N := some 20) (v := ?_) (a' := ?_) #[true, true, true, true, true, true, true, false, true, true, true, true, true, true, false, false] rfl rfl (by kernel_rfl) (fun _ _ _ h => h) (Or.inl ⟨by rfl, ?_⟩) ?_ ?_
    rotate_left
    · intro w'
      go_simp
      with_reducible rfl
    rotate_left
    · simp only [Act.put, List.setIfInBounds_toArray, List.set_cons_zero, List.set_cons_succ]
      rfl
    refine one_ (i := 7) (N := some 21) #[true, true, true, true, true, true, true, true, true, true, true, true, true, true, false, false] rfl rfl (by kernel_rfl) (by decide) (fun K hK => ?_)
    refine value_ (w1 := ?_) (v := ?_) (by rfl) rfl ?_ ?_
    rotate_left 2
    · go_simp
      constructor
      · rfl
      · rfl
    refine hK.out _ _ HS2.out (fun hHeld => ?_)
    clear hK K
    refine norm_ (a' := ?_) ?_ ?_
    rotate_left
    · show Act.put _ (some 21) _ = _
      simp only [Act.put, List.setIfInBounds_toArray, List.set_cons_zero, List.set_cons_succ]
      rfl
    refine one_ (i := 14) (N := some 28) #[true, true, true, true, true, true, true, true, true, true, true, true, true, true, true, false] rfl rfl (by kernel_rfl) (by decide) (fun K hK => ?_)
    refine goes_ Try.func65 (by kernel_rfl) rfl #[.agg #[.int .i64 c.f0, .slice A1 c.f1.length k1, .slice A2 c.f2.length k2, .slice A3 c.f3.length k3, .slice A4 c.f4.length k4], .slice Ax st.length cx, .slice Ay ins.length cy] (by rfl) rfl rfl (by simp only [List.map_toArray, List.map_cons, List.map_nil] <;> rfl) ?_
    refine (ref04_Bad ⟨A1, k1, A2, k2, A3, k3, A4, k4⟩ c Ax cx st Ay cy ins _ (HR.out.below ID2.out.BW) HRX2.out HRY2.out HC.out.1 HSTL.out HINS.out).mono ?_
    rintro e w3 ⟨rfl, hb⟩
    rw [← HV.out]
    refine ⟨_, rfl, ?_⟩
    have HB3 := Aside0.mk hb
    have B3 := Aside0.mk (ID2.out.BW.trans (hb.mono ID2.out.BW.size))
    clear hb
    refine hK.out _ _ ⟨pw_cell_below HB3.out HS2.out.1, pw_cell_below HB3.out HS2.out.2.1, pw_cell_below HB3.out HS2.out.2.2.1, pw_cell_below HB3.out HS2.out.2.2.2.1, pw_cell_below HB3.out HS2.out.2.2.2.2.1, pw_cell_below HB3.out HS2.out.2.2.2.2.2.1, pw_cell_below HB3.out HS2.out.2.2.2.2.2.2.1, pw_cell_below HB3.out HS2.out.2.2.2.2.2.2.2⟩ (fun hHeld => ?_)
    clear hK K
    refine norm_ (a' := ?_) ?_ ?_
    rotate_left
    · show Act.put _ (some 28) _ = _
      simp only [Act.put, List.setIfInBounds_toArray, List.set_cons_zero, List.set_cons_succ]
      rfl
    refine pure_ (i := 15) (N := some 4) (v := ?_) (a' := ?_) #[true, true, true, true, true, true, true, true, true, true, true, true, true, true, true, true] rfl rfl (by kernel_rfl) (fun _ _ _ h => h) (Or.inl ⟨by rfl, ?_⟩) ?_ ?_
    rotate_left
    · intro w'
      go_simp
      with_reducible rfl
    rotate_left
    · simp only [Act.put, List.setIfInBounds_toArray, List.set_cons_zero, List.set_cons_succ]
      rfl
    refine done_ (by kernel_rfl) ?_
    clear hx
    go_wp2
    go_ret
    exact ⟨rfl, B3.out⟩
end Go.Proofs.Ytchhbkicplgmhaa.PH
