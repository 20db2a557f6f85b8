/- The law PrefixFirst: its function answers true. -/
import Derived.Test.YtpoadkogcdfglaaHNamesPf
import Derived.Test.YtpoadkogcdfglaaHPfS
import Derived.Test.YtpoadkogcdfglaaHSame4
import Derived.Test.YtpoadkogcdfglaaHPackV
namespace Go.Proofs.Ytpoadkogcdfglaa.PH
open Go.RowKit Go.Proofs.YtpoadkogcdfglaaW.PrintWords Go.Proofs.YtpoadkogcdfglaaW.PrintLast
set_option linter.unusedVariables false
set_option linter.unusedSimpArgs false

theorem infoB1 : ∃ i, Try.prog.info? 4 = some i ∧ i.size = 1 := by
  have h := infoBool
  cases h2 : Try.prog.info? 4 with
  | none => rw [h2] at h; cases h
  | some i =>
    rw [h2] at h
    refine ⟨i, rfl, ?_⟩
    simp only [Option.map_some, Option.some.injEq, Prod.mk.injEq] at h
    exact h.2.1
theorem pf_of_err {c : Circ} (hc : check c = 0) {k : Nat} (h1 : 1 ≤ k) (h8 : k ≤ 8) {r : Red} {n : Int} (h : pfOf c k = (r, n)) : pfDone c k = (r, n) ∧ (n = 0 ∨ n = 4) := by
  unfold pfOf at h
  rw [if_pos hc, if_neg (by omega), if_neg (by omega), Int.toNat_natCast] at h
  refine ⟨h, ?_⟩
  unfold pfDone at h
  dsimp only at h
  split at h
  · exact .inr (congrArg Prod.snd h).symm
  · exact .inl (congrArg Prod.snd h).symm
/-- The inputs of a frame are a part of all. -/
theorem row_cut {c : Circ} (h0 : 0 ≤ c.f0) {all : List Bool} {m : Nat} (ha : (all.length : Int) = (m : Int) * c.f0) {j : Nat} (hj : j < m) :
    0 ≤ (j : Int) * c.f0 ∧ (j : Int) * c.f0 ≤ ((j : Int) + 1) * c.f0 ∧ ((j : Int) + 1) * c.f0 ≤ (all.length : Int) ∧ (all.take (((j : Int) + 1) * c.f0).toNat).drop ((j : Int) * c.f0).toNat = rowAt c all j := by
  obtain ⟨I, hI⟩ : ∃ I : Nat, c.f0 = I := ⟨c.f0.toNat, by omega⟩
  have e1 : (j : Int) * c.f0 = ((j * I : Nat) : Int) := by rw [hI]; push_cast; rfl
  have e2 : ((j : Int) + 1) * c.f0 = ((j * I + I : Nat) : Int) := by rw [hI, Int.add_mul]; push_cast; omega
  have e3 : j * I + I ≤ m * I := by have h1 := Nat.mul_le_mul_right I (show j + 1 ≤ m by omega); rw [Nat.add_mul] at h1; omega
  have e4 : (m : Int) * c.f0 = ((m * I : Nat) : Int) := by rw [hI]; push_cast; rfl
  rw [e1, e2, ha, e4]
  refine ⟨by omega, by omega, by omega, ?_⟩
  unfold rowAt
  rw [Int.toNat_natCast, Int.toNat_natCast, hI, Int.toNat_natCast, List.drop_take]
  congr 1
  omega
/-- One more. -/
theorem any_take {l : List Bool} {i : Nat} (h : i < l.length) : (l.take (i + 1)).any id = ((l.take i).any id || l[i]) := by
  rw [take_at h, List.any_append]
  simp
set_option maxHeartbeats 8000000 in
set_option maxRecDepth 100000 in
theorem law_PrefixFirst (p : CP) (c : Circ) (k : Int) (D : Option Addr × Nat) (st : List Bool) (G : Option Addr × Nat) (all : List Bool) (w : World) (h : RC w p c) (hst : RS Kd.bool w D.1 D.2 st) (hall : RS Kd.bool w G.1 G.2 all) (nc : c.Nums) (nk : I64 k) (ns : ∀ x ∈ st, True) (na : ∀ x ∈ all, True) :
    Calls Try.prog 7 #[cv p c, .int .i64 k, .slice D.1 st.length D.2, .slice G.1 all.length G.2] w fun e w' => e = .returned (.bool true) ∧ Below w.heap.size w w' := by
  obtain ⟨D, d⟩ := D
  obtain ⟨G, gc⟩ := G
  dsimp only at hst hall ⊢
  have HH := Aside0.mk h
  have HS := Aside0.mk hst
  have HG := Aside0.mk hall
  have hu26 := Try.underlying26
  have hu40 := Try.underlying35
  have hu54 := Try.underlying54
  have S := Aside0.mk ((Parts.start w).new 26 (fc5 p c))
  obtain ⟨o, ho⟩ : ∃ o, great c = o := ⟨_, rfl⟩
  have HO := Aside0.mk ho
  have NC := Aside0.mk nc
  have NK := Aside0.mk nk
  clear h hst hall nc nk ns na ho
  go_enter Try.func7, Try.ntmps7
  go_wp2_with fail
  refine (law_alive _).mono ?_
  rintro e w2 ⟨rfl, hb⟩
  replace S := Aside0.mk (S.out.below hb)
  clear hb
  obtain ⟨a_0, a_1, a_2, a_3, a_4⟩ := blk5 (S.out.blk 0 rfl)
  go_wp2_with fail
  refine (ref02_Great p c _).mono ?_
  rintro e w3 ⟨rfl, hb⟩
  replace S := Aside0.mk (S.out.below hb)
  rw [HO.out]
  clear a_0 a_1 a_2 a_3 a_4 hb
  cases o with
  | true =>
    go_wp2
    go_ret
    exact ⟨rfl, S.out.B⟩
  | false =>
  have FC := Aside0.mk (NC.out.fitsC HO.out)
  obtain ⟨a_0, a_1, a_2, a_3, a_4⟩ := blk5 (S.out.blk 0 rfl)
  go_wp2_with fail
  refine (ref02_Check p c _ (HH.out.below S.out.B) FC.out).mono ?_
  rintro e w4 ⟨rfl, hb⟩
  replace S := Aside0.mk (S.out.below hb)
  clear a_0 a_1 a_2 a_3 a_4 hb
  obtain ⟨a_0, a_1, a_2, a_3, a_4⟩ := blk5 (S.out.blk 0 rfl)
  by_cases hc : check c = 0
  case neg =>
    have hcb : (check c != 0) = true := bne_iff_ne.2 hc
    clear hc
    go_wp2
    go_ret
    exact ⟨rfl, S.out.B⟩
  rw [hc]
  have HC := Aside0.mk hc
  clear hc
  by_cases hl : st.length = c.f1.length
  case neg =>
    have hlb : ((st.length : Int) != c.f1.length) = true := bne_iff_ne.2 (by omega)
    clear hl
    go_wp2
    go_ret
    exact ⟨rfl, S.out.B⟩
  have hlb : ((st.length : Int) != c.f1.length) = false := bne_eq_false_iff_eq.2 (by omega)
  have HL := Aside0.mk hl
  clear hl
  by_cases hk2 : k < 1
  case pos =>
    go_wp2
    go_ret
    exact ⟨rfl, S.out.B⟩
  by_cases hk4 : 8 < k
  case pos =>
    go_wp2
    go_ret
    exact ⟨rfl, S.out.B⟩
  have HB := Aside0.mk (cbnd_of HC.out)
  obtain ⟨m, rfl⟩ : ∃ m : Nat, k = m := ⟨k.toNat, by omega⟩
  have HK := Aside0.mk (show 1 ≤ m ∧ m ≤ 8 by omega)
  have HI := Aside0.mk (show 0 ≤ c.f0 ∧ c.f0 ≤ 1000 by have := HB.out.h0; have := HB.out.n; omega)
  have HW : ∀ j : Nat, j ≤ 11 → wrap64 ((j : Int) * c.f0) = (j : Int) * c.f0 := fun j hj => by
    have h1 := HI.out
    have h2 : 0 ≤ (j : Int) * c.f0 := Int.mul_nonneg (by omega) h1.1
    have h3 : (j : Int) * c.f0 ≤ 11 * 1000 := Int.mul_le_mul (by omega) h1.2 h1.1 (by decide)
    exact wrap_in (by omega) (by omega)
  have hw := HW (m + 1) (by have := HK.out; omega)
  rw [show ((m + 1 : Nat) : Int) = (m : Int) + 1 by push_cast; rfl] at hw
  have hm1 : wrap64 ((m : Int) + 1) = (m : Int) + 1 := by have := HK.out; exact wrap_in (by omega) (by omega)
  have HWA := Aside0.mk HW
  clear HW
  by_cases ha : (all.length : Int) = ((m : Int) + 1) * c.f0
  case neg =>
    have hlb2 : ((all.length : Int) != ((m : Int) + 1) * c.f0) = true := bne_iff_ne.2 ha
    clear ha
    go_wp2
    go_ret
    exact ⟨rfl, S.out.B⟩
  have hlb2 : ((all.length : Int) != ((m : Int) + 1) * c.f0) = false := bne_eq_false_iff_eq.2 ha
  have HA := Aside0.mk ha
  clear ha
  obtain ⟨⟨r, n⟩, hr⟩ : ∃ r, pfOf c m = r := ⟨_, rfl⟩
  have h1 := pf_of_err HC.out HK.out.1 HK.out.2 hr
  have HR := Aside0.mk h1.1
  have HN := Aside0.mk h1.2
  have C1 := Aside0.mk (fun W (hb : Below w.heap.size w W) => show Calls Try.prog 10 #[cv p c, .int .i64 (m : Int)] W (fun e w' => RetRs W w' r n e) from (by have h_ := prefix_Of p c m W (HH.out.below hb) FC.out; rw [hr] at h_; exact h_))
  clear h1 hr
  go_wp2_with fail
  refine (C1.out _ S.out.B).mono ?_
  rintro e w5 ⟨p5, q5, rfl, hh, hb⟩
  replace S := Aside0.mk ((S.out.ofRs hh hb).new 35 (rvals p5 q5 r))
  clear hh hb a_0 a_1 a_2 a_3 a_4 hlb hlb2 hw
  go_upto_region 5 with (fail)
  generalize w5.heap.size = g5 at *
  generalize w5.alloc (.cells (rvals p5 q5 r) 35) = w6 at *
  rcases HN.out with rfl | rfl
  case inr =>
    go_wp2
    go_ret
    exact ⟨rfl, S.out.B⟩
  obtain ⟨H, hH⟩ : ∃ H, hxRun c (fun j => rowAt c all (j + 1)) st m = H := ⟨_, rfl⟩
  have F := Aside0.mk (pf_frame HC.out HR.out true HL.out HA.out)
  rw [hH] at F
  have HH2 := Aside0.mk hH
  have FR := Aside0.mk (fits_cb F.out.hc)
  have HLR := Aside0.mk (check_lits F.out.hc).1
  have HLC := Aside0.mk (check_lits HC.out).1
  have HSL := Aside0.mk (show st.length ≤ 1000 by have := HB.out.n; have := HL.out; omega)
  clear hH
  have K5 := Aside0.mk (Held.self (S.out.hP 1 _ rfl)).1
  obtain ⟨hp, hhp⟩ : ∃ b, (H.hope || (holdsOf c H.now (rowAt c all 0) && H.so)) = b := ⟨_, rfl⟩
  obtain ⟨bd, hbd⟩ : ∃ b, ((badsOf c H.now (rowAt c all 0)).any id || H.hope) = b := ⟨_, rfl⟩
  obtain ⟨nx, hnx⟩ : ∃ b, nextOf c H.now (rowAt c all 0) = b := ⟨_, rfl⟩
  have P1 := Aside0.mk (fun W X xc (hb : Below w6.heap.size w6 W) (hX : RS Kd.bool W X xc (st ++ [true])) => show Calls Try.prog 29 #[cv p5 r.f0, .slice X (st ++ [true]).length xc, .slice G all.length gc] W (fun e w' => RetPp W w' hp [bd] e) from (by
    have h_ := values_Props p5 r.f0 X xc (st ++ [true]) G gc all W (K5.out.below hb) FR.out hX (HG.out.below (S.out.B.trans (hb.mono S.out.z))) F.out.hc (by rw [F.out.f1, List.length_append, HL.out]; rfl) (by rw [F.out.f0]; exact HA.out) HLR.out
    rw [F.out.b, F.out.h] at h_
    simp only [if_true, Bool.true_and, Bool.not_true, Bool.false_or] at h_
    rw [hhp, hbd] at h_
    exact h_))
  have N1 := Aside0.mk (fun W X xc (hb : Below w6.heap.size w6 W) (hX : RS Kd.bool W X xc (st ++ [true])) => show Calls Try.prog 30 #[cv p5 r.f0, .slice X (st ++ [true]).length xc, .slice G all.length gc] W (fun e w' => RetVo W w' (nx ++ [false]) e) from (by
    have h_ := values_Next p5 r.f0 X xc (st ++ [true]) G gc all W (K5.out.below hb) FR.out hX (HG.out.below (S.out.B.trans (hb.mono S.out.z))) F.out.hc (by rw [F.out.f1, List.length_append, HL.out]; rfl) (by rw [F.out.f0]; exact HA.out) HLR.out
    rw [F.out.n] at h_
    simp only [if_true] at h_
    rw [hnx] at h_
    exact h_))
  have HHP := Aside0.mk hhp
  have HBD := Aside0.mk hbd
  have HNX := Aside0.mk hnx
  clear hhp hbd hnx F HR
  have HB5 := Aside0.mk (blk12 (S.out.blk 0 rfl)).1
  have HSt := Aside0.mk (HS.out.below S.out.B)
  go_upto_region 7 with (fail)
  clear hm1
  refine start_ (n := 16) (S := (fun W : World => Below w6.heap.size w6 W)) (ds := []) #[false, false, false, false, false, false, false, false, false, false, false, false, false, false, false, false] (by kernel_rfl) rfl rfl (below_drew (Below.refl _ _)) (fun hHeld => ?_)
  have BD := Aside0.mk (below_drew (w := w6) (Below.refl w6.heap.size w6))
  generalize w6.drew = w7 at *
  have Z0 := Aside0.mk (Parts.start w7)
  refine pure_ (i := 0) (N := some 82) (v := ?_) (a' := ?_) #[true, false, false, false, false, false, false, false, false, false, false, false, false, false, false, false] rfl rfl (by kernel_rfl) (fun _ _ _ h => h) (Or.inl ⟨by rfl, ?_⟩) ?_ ?_
  rotate_left
  · intro w'
    go_simp
    with_reducible rfl
  rotate_left
  · simp only [Act.put, List.setIfInBounds_toArray, List.set_cons_zero, List.set_cons_succ]
    rfl
  refine take_ (i := 1) (N := some 83) (v := ?_) (a' := ?_) #[true, true, false, false, false, false, false, false, false, false, false, false, false, false, false, false] rfl rfl (by kernel_rfl) (fun _ _ _ h => h) (Or.inl ⟨by rfl, ?_⟩) hHeld ?_ ?_
  rotate_left
  · intro w' s0
    obtain ⟨e0, e1, e2, e3, e4⟩ := HB5.out; have y0 := pw_cell_below s0 e0; have y1 := pw_cell_below s0 e1; have y2 := pw_cell_below s0 e2; have y3 := pw_cell_below s0 e3; have y4 := pw_cell_below s0 e4
    go_simp
    with_reducible rfl
  rotate_left
  · simp only [Act.put, List.setIfInBounds_toArray, List.set_cons_zero, List.set_cons_succ]
    rfl
  refine pure_ (i := 3) (N := some 85) (v := ?_) (a' := ?_) #[true, true, false, true, false, false, false, false, false, false, false, false, false, false, false, false] rfl rfl (by kernel_rfl) (fun _ _ _ h => h) (Or.inl ⟨by rfl, ?_⟩) ?_ ?_
  rotate_left
  · intro w'
    go_simp
    with_reducible rfl
  rotate_left
  · simp only [Act.put, List.setIfInBounds_toArray, List.set_cons_zero, List.set_cons_succ]
    rfl
  refine pure_ (i := 7) (N := some 89) (v := ?_) (a' := ?_) #[true, true, false, true, false, false, false, true, false, false, false, false, false, false, false, false] rfl rfl (by kernel_rfl) (fun _ _ _ h => h) (Or.inl ⟨by rfl, ?_⟩) ?_ ?_
  rotate_left
  · intro w'
    go_simp
    with_reducible rfl
  rotate_left
  · simp only [Act.put, List.setIfInBounds_toArray, List.set_cons_zero, List.set_cons_succ]
    rfl
  refine join_ (fuel' := 9) #[true, true, true, true, true, true, false, true, false, false, false, false, false, false, false, false] (fun s : Value × (Option Addr × Nat) × (Option Addr × Nat) => [(84, s.1), (86, .slice s.2.1.1 st.length s.2.1.2), (87, .slice s.2.2.1 1 s.2.2.2)]) (fun s w' => Parts w7.heap.size w7 w' [pF w7.heap.size Kd.bool 4 (.slice s.2.2.1 1 s.2.2.2) [true], pF w7.heap.size Kd.bool 4 (.slice s.2.1.1 st.length s.2.1.2) st]) ?hcont ?hjoin
  case hjoin =>
    intro hcont
    refine two_ (i := 2) (j := 5) (Ni := some 84) (Nj := some 87) #[true, true, true, true, false, false, false, true, false, false, false, false, false, false, false, false] #[true, true, false, true, false, true, false, true, false, false, false, false, false, false, false, false] rfl rfl rfl rfl (by kernel_rfl) (by decide) (by decide) (fun K hK => ?_) (fun K hK => ?_)
    · skip
      refine Parts.litS Z0.out Kd.bool 4 flat_bool (by rfl) rfl ([] : List Bool) [] (by first | (go_simp; done) | (go_simp; rfl)) (Reps.none _ _) (by decide) ?_
      intro V3 cV3 wV3 hV3
      have S3 := Aside0.mk hV3
      clear hV3
      refine hK.out _ _ (BD.out.trans (S3.out.B.mono BD.out.size)) (fun hHeld => ?_)
      clear hK K
      refine norm_ (a' := ?_) ?_ ?_
      rotate_left
      · show Act.put _ (some 84) _ = _
        simp only [Act.put, List.setIfInBounds_toArray, List.set_cons_zero, List.set_cons_succ]
        rfl
      refine two_ (i := 4) (j := 5) (Ni := some 86) (Nj := some 87) #[true, true, true, true, true, false, false, true, false, false, false, false, false, false, false, false] #[true, true, true, true, false, true, false, true, false, false, false, false, false, false, false, false] rfl rfl rfl rfl (by kernel_rfl) (by decide) (by decide) (fun K hK => ?_) (fun K hK => ?_)
      · skip
        refine Parts.appendRS S3.out 0 rfl flat_bool flatK_bool (by rfl) (.tmp 84) (.tmp 85) 54 (.bool false) 1 rfl hu54 infoBool rfl (by decide) (by decide) st D d rfl rfl ((HSt.out.below BD.out).below S3.out.B) (by have := HSL.out; simp only [List.length_nil]; omega) ?_
        rw [List.nil_append, show ([] : List Bool).length + st.length = st.length by simp]
        intro V4 cV4 wV4 hV4
        have S4 := Aside0.mk hV4
        clear hV4
        refine hK.out _ _ (BD.out.trans (S4.out.B.mono BD.out.size)) (fun hHeld => ?_)
        clear hK K
        refine norm_ (a' := ?_) ?_ ?_
        rotate_left
        · show Act.put _ (some 86) _ = _
          simp only [Act.put, List.setIfInBounds_toArray, List.set_cons_zero, List.set_cons_succ]
          rfl
        refine one_ (i := 5) (N := some 87) #[true, true, true, true, true, true, false, true, false, false, false, false, false, false, false, false] rfl rfl (by kernel_rfl) (by decide) (fun K hK => ?_)
        refine Parts.litS S4.out Kd.bool 4 flat_bool (by rfl) rfl ([true] : List Bool) [.bool true] (by first | (go_simp; done) | (go_simp; rfl)) (Kd.reps_scalar (enc := Value.bool) [true]) (by decide) ?_
        intro V5 cV5 wV5 hV5
        have S5 := Aside0.mk hV5
        clear hV5
        refine hK.out _ _ (BD.out.trans (S5.out.B.mono BD.out.size)) (fun hHeld => ?_)
        clear hK K
        refine norm_ (a' := ?_) ?_ ?_
        rotate_left
        · show Act.put _ (some 87) _ = _
          simp only [Act.put, List.setIfInBounds_toArray, List.set_cons_zero, List.set_cons_succ]
          rfl
        refine norm_ ?_ (hcont (.slice V3 0 cV3, (V4, cV4), (V5, cV5)) _ S5.out)
        simp only [putAll, Act.put, List.setIfInBounds_toArray, List.set_cons_zero, List.set_cons_succ] <;> rfl
      · skip
        refine Parts.litS S3.out Kd.bool 4 flat_bool (by rfl) rfl ([true] : List Bool) [.bool true] (by first | (go_simp; done) | (go_simp; rfl)) (Kd.reps_scalar (enc := Value.bool) [true]) (by decide) ?_
        intro V5 cV5 wV5 hV5
        have S5 := Aside0.mk hV5
        clear hV5
        refine hK.out _ _ (BD.out.trans (S5.out.B.mono BD.out.size)) (fun hHeld => ?_)
        clear hK K
        refine norm_ (a' := ?_) ?_ ?_
        rotate_left
        · show Act.put _ (some 87) _ = _
          simp only [Act.put, List.setIfInBounds_toArray, List.set_cons_zero, List.set_cons_succ]
          rfl
        refine one_ (i := 4) (N := some 86) #[true, true, true, true, true, true, false, true, false, false, false, false, false, false, false, false] rfl rfl (by kernel_rfl) (by decide) (fun K hK => ?_)
        refine Parts.appendRS S5.out 1 rfl flat_bool flatK_bool (by rfl) (.tmp 84) (.tmp 85) 54 (.bool false) 1 rfl hu54 infoBool rfl (by decide) (by decide) st D d rfl rfl ((HSt.out.below BD.out).below S5.out.B) (by have := HSL.out; simp only [List.length_nil]; omega) ?_
        rw [List.nil_append, show ([] : List Bool).length + st.length = st.length by simp]
        intro V4 cV4 wV4 hV4
        have S4 := Aside0.mk hV4
        clear hV4
        refine hK.out _ _ (BD.out.trans (S4.out.B.mono BD.out.size)) (fun hHeld => ?_)
        clear hK K
        refine norm_ (a' := ?_) ?_ ?_
        rotate_left
        · show Act.put _ (some 86) _ = _
          simp only [Act.put, List.setIfInBounds_toArray, List.set_cons_zero, List.set_cons_succ]
          rfl
        refine norm_ ?_ (hcont (.slice V3 0 cV3, (V4, cV4), (V5, cV5)) _ S4.out)
        simp only [putAll, Act.put, List.setIfInBounds_toArray, List.set_cons_zero, List.set_cons_succ] <;> rfl
    · skip
      refine Parts.litS Z0.out Kd.bool 4 flat_bool (by rfl) rfl ([true] : List Bool) [.bool true] (by first | (go_simp; done) | (go_simp; rfl)) (Kd.reps_scalar (enc := Value.bool) [true]) (by decide) ?_
      intro V5 cV5 wV5 hV5
      have S5 := Aside0.mk hV5
      clear hV5
      refine hK.out _ _ (BD.out.trans (S5.out.B.mono BD.out.size)) (fun hHeld => ?_)
      clear hK K
      refine norm_ (a' := ?_) ?_ ?_
      rotate_left
      · show Act.put _ (some 87) _ = _
        simp only [Act.put, List.setIfInBounds_toArray, List.set_cons_zero, List.set_cons_succ]
        rfl
      refine one_ (i := 2) (N := some 84) #[true, true, true, true, false, true, false, true, false, false, false, false, false, false, false, false] rfl rfl (by kernel_rfl) (by decide) (fun K hK => ?_)
      refine Parts.litS S5.out Kd.bool 4 flat_bool (by rfl) rfl ([] : List Bool) [] (by first | (go_simp; done) | (go_simp; rfl)) (Reps.none _ _) (by decide) ?_
      intro V3 cV3 wV3 hV3
      have S3 := Aside0.mk hV3
      clear hV3
      refine hK.out _ _ (BD.out.trans (S3.out.B.mono BD.out.size)) (fun hHeld => ?_)
      clear hK K
      refine norm_ (a' := ?_) ?_ ?_
      rotate_left
      · show Act.put _ (some 84) _ = _
        simp only [Act.put, List.setIfInBounds_toArray, List.set_cons_zero, List.set_cons_succ]
        rfl
      refine one_ (i := 4) (N := some 86) #[true, true, true, true, true, true, false, true, false, false, false, false, false, false, false, false] rfl rfl (by kernel_rfl) (by decide) (fun K hK => ?_)
      refine Parts.appendRS S3.out 0 rfl flat_bool flatK_bool (by rfl) (.tmp 84) (.tmp 85) 54 (.bool false) 1 rfl hu54 infoBool rfl (by decide) (by decide) st D d rfl rfl ((HSt.out.below BD.out).below S3.out.B) (by have := HSL.out; simp only [List.length_nil]; omega) ?_
      rw [List.nil_append, show ([] : List Bool).length + st.length = st.length by simp]
      intro V4 cV4 wV4 hV4
      have S4 := Aside0.mk hV4
      clear hV4
      refine hK.out _ _ (BD.out.trans (S4.out.B.mono BD.out.size)) (fun hHeld => ?_)
      clear hK K
      refine norm_ (a' := ?_) ?_ ?_
      rotate_left
      · show Act.put _ (some 86) _ = _
        simp only [Act.put, List.setIfInBounds_toArray, List.set_cons_zero, List.set_cons_succ]
        rfl
      refine norm_ ?_ (hcont (.slice V3 0 cV3, (V4, cV4), (V5, cV5)) _ (S4.out.perm (List.Perm.swap _ _ _)))
      simp only [putAll, Act.put, List.setIfInBounds_toArray, List.set_cons_zero, List.set_cons_succ] <;> rfl
  case hcont =>
    rintro ⟨v3, ⟨V4, c4⟩, ⟨V5, c5⟩⟩ w8 l8
    dsimp only at l8 ⊢
    have L8 := Aside0.mk l8
    clear l8
    refine norm_ (a' := ?_) ?_ ?_
    rotate_left
    · simp only [putAll, Act.put, List.setIfInBounds_toArray, List.set_cons_zero, List.set_cons_succ]
      rfl
    refine one_ (i := 6) (N := some 88) #[true, true, true, true, true, true, true, true, false, false, false, false, false, false, false, false] rfl rfl (by kernel_rfl) (by decide) (fun K hK => ?_)
    refine Parts.appendRS L8.out 1 rfl flat_bool flatK_bool (by rfl) (.tmp 86) (.tmp 87) 54 (.bool false) 1 rfl hu54 infoBool rfl (by decide) (by decide) [true] V5 c5 rfl rfl (L8.out.rowF 0 rfl) (by have := HSL.out; simp only [List.length_singleton]; omega) ?_
    rw [show st.length + ([true] : List Bool).length = (st ++ [true]).length by simp]
    intro V9 cV9 wV9 hV9
    have S9 := Aside0.mk hV9
    clear hV9
    refine hK.out _ _ (BD.out.trans (S9.out.B.mono BD.out.size)) (fun hHeld => ?_)
    clear hK K
    refine norm_ (a' := ?_) ?_ ?_
    rotate_left
    · show Act.put _ (some 88) _ = _
      simp only [Act.put, List.setIfInBounds_toArray, List.set_cons_zero, List.set_cons_succ]
      rfl
    refine one_ (i := 8) (N := some 90) #[true, true, true, true, true, true, true, true, true, false, false, false, false, false, false, false] rfl rfl (by kernel_rfl) (by decide) (fun K hK => ?_)
    refine goes_ Try.func29 (by kernel_rfl) rfl #[cv p5 r.f0, .slice V9 (st ++ [true]).length cV9, .slice G all.length gc] (by rfl) rfl rfl (by simp only [List.map_toArray, List.map_cons, List.map_nil] <;> rfl) ?_
    refine (P1.out _ V9 cV9 hHeld (S9.out.rowF 1 rfl)).mono ?_
    rintro e wE ⟨PA, pa, rfl, hr, hb⟩
    refine ⟨_, rfl, ?_⟩
    have BE := Aside0.mk (BD.out.trans ((S9.out.B.trans (hb.mono S9.out.B.size)).mono BD.out.size))
    have RE := Aside0.mk hr
    clear hr hb hHeld
    refine hK.out _ _ BE.out (fun hHeld => ?_)
    clear hK K
    refine norm_ (a' := ?_) ?_ ?_
    rotate_left
    · show Act.put _ (some 90) _ = _
      simp only [Act.put, List.setIfInBounds_toArray, List.set_cons_zero, List.set_cons_succ]
      rfl
    clear hHeld
    refine pure_ (i := 9) (N := some 81) (v := ?_) (a' := ?_) #[true, true, true, true, true, true, true, true, true, true, false, false, false, false, false, false] rfl rfl (by kernel_rfl) (fun _ _ _ h => h) (Or.inl ⟨by rfl, ?_⟩) ?_ ?_
    rotate_left
    · intro w'
      go_simp
      with_reducible rfl
    rotate_left
    · simp only [Act.put, List.setIfInBounds_toArray, List.set_cons_zero, List.set_cons_succ]
      rfl
    refine pure_ (i := 10) (N := some 91) (v := ?_) (a' := ?_) #[true, true, true, true, true, true, true, true, true, true, true, false, false, false, false, false] rfl rfl (by kernel_rfl) (fun _ _ _ h => h) (Or.inl ⟨by rfl, ?_⟩) ?_ ?_
    rotate_left
    · intro w'
      go_simp
      with_reducible rfl
    rotate_left
    · simp only [Act.put, List.setIfInBounds_toArray, List.set_cons_zero, List.set_cons_succ]
      rfl
    refine pure_ (i := 11) (N := some 92) (v := ?_) (a' := ?_) #[true, true, true, true, true, true, true, true, true, true, true, true, false, false, false, false] rfl rfl (by kernel_rfl) (fun _ _ _ h => h) (Or.inl ⟨by rfl, ?_⟩) ?_ ?_
    rotate_left
    · intro w'
      go_simp
      with_reducible rfl
    rotate_left
    · simp only [Act.put, List.setIfInBounds_toArray, List.set_cons_zero, List.set_cons_succ]
      rfl
    refine pure_ (i := 12) (N := some 93) (v := ?_) (a' := ?_) #[true, true, true, true, true, true, true, true, true, true, true, true, true, false, false, false] rfl rfl (by kernel_rfl) (fun _ _ _ h => h) (Or.inl ⟨by rfl, ?_⟩) ?_ ?_
    rotate_left
    · intro w'
      go_simp
      with_reducible rfl
    rotate_left
    · simp only [Act.put, List.setIfInBounds_toArray, List.set_cons_zero, List.set_cons_succ]
      rfl
    refine pure_ (i := 13) (N := some 12) (v := ?_) (a' := ?_) #[true, true, true, true, true, true, true, true, true, true, true, true, true, true, false, false] rfl rfl (by kernel_rfl) (fun _ _ _ h => h) (Or.inl ⟨by rfl, ?_⟩) ?_ ?_
    rotate_left
    · intro w'
      go_simp
      with_reducible rfl
    rotate_left
    · simp only [Act.put, List.setIfInBounds_toArray, List.set_cons_zero, List.set_cons_succ]
      rfl
    refine pure_ (i := 14) (N := some 13) (v := ?_) (a' := ?_) #[true, true, true, true, true, true, true, true, true, true, true, true, true, true, true, false] rfl rfl (by kernel_rfl) (fun _ _ _ h => h) (Or.inl ⟨by rfl, ?_⟩) ?_ ?_
    rotate_left
    · intro w'
      go_simp
      with_reducible rfl
    rotate_left
    · simp only [Act.put, List.setIfInBounds_toArray, List.set_cons_zero, List.set_cons_succ]
      rfl
    refine pure_ (i := 15) (N := some 14) (v := ?_) (a' := ?_) #[true, true, true, true, true, true, true, true, true, true, true, true, true, true, true, true] rfl rfl (by kernel_rfl) (fun _ _ _ h => h) (Or.inl ⟨by rfl, ?_⟩) ?_ ?_
    rotate_left
    · intro w'
      go_simp
      with_reducible rfl
    rotate_left
    · simp only [Act.put, List.setIfInBounds_toArray, List.set_cons_zero, List.set_cons_succ]
      rfl
    refine done_ (by kernel_rfl) ?_
    replace S := Aside0.mk (S.out.below BE.out)
    have BX := BE
    have R7 := RE
    obtain ⟨w9, hw9⟩ : ∃ W, wE = W := ⟨_, rfl⟩
    rw [hw9] at S BX R7 ⊢
    clear BE RE Z0 BD HB5 HSt L8 S9
    have HB5 := Aside0.mk (blk12 (S.out.blk 0 rfl)).1
    have HSt := Aside0.mk (HS.out.below S.out.B)
    clear hw9
    go_upto_region 8 with (fail)
    
    refine start_ (n := 14) (S := (fun W : World => Below w9.heap.size w9 W)) (ds := []) #[false, false, false, false, false, false, false, false, false, false, false, false, false, false] (by kernel_rfl) rfl rfl (below_drew (Below.refl _ _)) (fun hHeld => ?_)
    have BD := Aside0.mk (below_drew (w := w9) (Below.refl w9.heap.size w9))
    generalize w9.drew = w11 at *
    have Z0 := Aside0.mk (Parts.start w11)
    refine pure_ (i := 0) (N := some 95) (v := ?_) (a' := ?_) #[true, false, false, false, false, false, false, false, false, false, false, false, false, false] rfl rfl (by kernel_rfl) (fun _ _ _ h => h) (Or.inl ⟨by rfl, ?_⟩) ?_ ?_
    rotate_left
    · intro w'
      go_simp
      with_reducible rfl
    rotate_left
    · simp only [Act.put, List.setIfInBounds_toArray, List.set_cons_zero, List.set_cons_succ]
      rfl
    refine take_ (i := 1) (N := some 96) (v := ?_) (a' := ?_) #[true, true, false, false, false, false, false, false, false, false, false, false, false, false] rfl rfl (by kernel_rfl) (fun _ _ _ h => h) (Or.inl ⟨by rfl, ?_⟩) hHeld ?_ ?_
    rotate_left
    · intro w' s0
      obtain ⟨e0, e1, e2, e3, e4⟩ := HB5.out; have y0 := pw_cell_below s0 e0; have y1 := pw_cell_below s0 e1; have y2 := pw_cell_below s0 e2; have y3 := pw_cell_below s0 e3; have y4 := pw_cell_below s0 e4
      go_simp
      with_reducible rfl
    rotate_left
    · simp only [Act.put, List.setIfInBounds_toArray, List.set_cons_zero, List.set_cons_succ]
      rfl
    refine pure_ (i := 3) (N := some 98) (v := ?_) (a' := ?_) #[true, true, false, true, false, false, false, false, false, false, false, false, false, false] rfl rfl (by kernel_rfl) (fun _ _ _ h => h) (Or.inl ⟨by rfl, ?_⟩) ?_ ?_
    rotate_left
    · intro w'
      go_simp
      with_reducible rfl
    rotate_left
    · simp only [Act.put, List.setIfInBounds_toArray, List.set_cons_zero, List.set_cons_succ]
      rfl
    refine pure_ (i := 7) (N := some 102) (v := ?_) (a' := ?_) #[true, true, false, true, false, false, false, true, false, false, false, false, false, false] rfl rfl (by kernel_rfl) (fun _ _ _ h => h) (Or.inl ⟨by rfl, ?_⟩) ?_ ?_
    rotate_left
    · intro w'
      go_simp
      with_reducible rfl
    rotate_left
    · simp only [Act.put, List.setIfInBounds_toArray, List.set_cons_zero, List.set_cons_succ]
      rfl
    refine join_ (fuel' := 7) #[true, true, true, true, true, true, false, true, false, false, false, false, false, false] (fun s : Value × (Option Addr × Nat) × (Option Addr × Nat) => [(97, s.1), (99, .slice s.2.1.1 st.length s.2.1.2), (100, .slice s.2.2.1 1 s.2.2.2)]) (fun s w' => Parts w11.heap.size w11 w' [pF w11.heap.size Kd.bool 4 (.slice s.2.2.1 1 s.2.2.2) [true], pF w11.heap.size Kd.bool 4 (.slice s.2.1.1 st.length s.2.1.2) st]) ?hcont ?hjoin
    case hjoin =>
      intro hcont
      refine two_ (i := 2) (j := 5) (Ni := some 97) (Nj := some 100) #[true, true, true, true, false, false, false, true, false, false, false, false, false, false] #[true, true, false, true, false, true, false, true, false, false, false, false, false, false] rfl rfl rfl rfl (by kernel_rfl) (by decide) (by decide) (fun K hK => ?_) (fun K hK => ?_)
      · skip
        refine Parts.litS Z0.out Kd.bool 4 flat_bool (by rfl) rfl ([] : List Bool) [] (by first | (go_simp; done) | (go_simp; rfl)) (Reps.none _ _) (by decide) ?_
        intro V3 cV3 wV3 hV3
        have S3 := Aside0.mk hV3
        clear hV3
        refine hK.out _ _ (BD.out.trans (S3.out.B.mono BD.out.size)) (fun hHeld => ?_)
        clear hK K
        refine norm_ (a' := ?_) ?_ ?_
        rotate_left
        · show Act.put _ (some 97) _ = _
          simp only [Act.put, List.setIfInBounds_toArray, List.set_cons_zero, List.set_cons_succ]
          rfl
        refine two_ (i := 4) (j := 5) (Ni := some 99) (Nj := some 100) #[true, true, true, true, true, false, false, true, false, false, false, false, false, false] #[true, true, true, true, false, true, false, true, false, false, false, false, false, false] rfl rfl rfl rfl (by kernel_rfl) (by decide) (by decide) (fun K hK => ?_) (fun K hK => ?_)
        · skip
          refine Parts.appendRS S3.out 0 rfl flat_bool flatK_bool (by rfl) (.tmp 97) (.tmp 98) 54 (.bool false) 1 rfl hu54 infoBool rfl (by decide) (by decide) st D d rfl rfl ((HSt.out.below BD.out).below S3.out.B) (by have := HSL.out; simp only [List.length_nil]; omega) ?_
          rw [List.nil_append, show ([] : List Bool).length + st.length = st.length by simp]
          intro V4 cV4 wV4 hV4
          have S4 := Aside0.mk hV4
          clear hV4
          refine hK.out _ _ (BD.out.trans (S4.out.B.mono BD.out.size)) (fun hHeld => ?_)
          clear hK K
          refine norm_ (a' := ?_) ?_ ?_
          rotate_left
          · show Act.put _ (some 99) _ = _
            simp only [Act.put, List.setIfInBounds_toArray, List.set_cons_zero, List.set_cons_succ]
            rfl
          refine one_ (i := 5) (N := some 100) #[true, true, true, true, true, true, false, true, false, false, false, false, false, false] rfl rfl (by kernel_rfl) (by decide) (fun K hK => ?_)
          refine Parts.litS S4.out Kd.bool 4 flat_bool (by rfl) rfl ([true] : List Bool) [.bool true] (by first | (go_simp; done) | (go_simp; rfl)) (Kd.reps_scalar (enc := Value.bool) [true]) (by decide) ?_
          intro V5 cV5 wV5 hV5
          have S5 := Aside0.mk hV5
          clear hV5
          refine hK.out _ _ (BD.out.trans (S5.out.B.mono BD.out.size)) (fun hHeld => ?_)
          clear hK K
          refine norm_ (a' := ?_) ?_ ?_
          rotate_left
          · show Act.put _ (some 100) _ = _
            simp only [Act.put, List.setIfInBounds_toArray, List.set_cons_zero, List.set_cons_succ]
            rfl
          refine norm_ ?_ (hcont (.slice V3 0 cV3, (V4, cV4), (V5, cV5)) _ S5.out)
          simp only [putAll, Act.put, List.setIfInBounds_toArray, List.set_cons_zero, List.set_cons_succ] <;> rfl
        · skip
          refine Parts.litS S3.out Kd.bool 4 flat_bool (by rfl) rfl ([true] : List Bool) [.bool true] (by first | (go_simp; done) | (go_simp; rfl)) (Kd.reps_scalar (enc := Value.bool) [true]) (by decide) ?_
          intro V5 cV5 wV5 hV5
          have S5 := Aside0.mk hV5
          clear hV5
          refine hK.out _ _ (BD.out.trans (S5.out.B.mono BD.out.size)) (fun hHeld => ?_)
          clear hK K
          refine norm_ (a' := ?_) ?_ ?_
          rotate_left
          · show Act.put _ (some 100) _ = _
            simp only [Act.put, List.setIfInBounds_toArray, List.set_cons_zero, List.set_cons_succ]
            rfl
          refine one_ (i := 4) (N := some 99) #[true, true, true, true, true, true, false, true, false, false, false, false, false, false] rfl rfl (by kernel_rfl) (by decide) (fun K hK => ?_)
          refine Parts.appendRS S5.out 1 rfl flat_bool flatK_bool (by rfl) (.tmp 97) (.tmp 98) 54 (.bool false) 1 rfl hu54 infoBool rfl (by decide) (by decide) st D d rfl rfl ((HSt.out.below BD.out).below S5.out.B) (by have := HSL.out; simp only [List.length_nil]; omega) ?_
          rw [List.nil_append, show ([] : List Bool).length + st.length = st.length by simp]
          intro V4 cV4 wV4 hV4
          have S4 := Aside0.mk hV4
          clear hV4
          refine hK.out _ _ (BD.out.trans (S4.out.B.mono BD.out.size)) (fun hHeld => ?_)
          clear hK K
          refine norm_ (a' := ?_) ?_ ?_
          rotate_left
          · show Act.put _ (some 99) _ = _
            simp only [Act.put, List.setIfInBounds_toArray, List.set_cons_zero, List.set_cons_succ]
            rfl
          refine norm_ ?_ (hcont (.slice V3 0 cV3, (V4, cV4), (V5, cV5)) _ S4.out)
          simp only [putAll, Act.put, List.setIfInBounds_toArray, List.set_cons_zero, List.set_cons_succ] <;> rfl
      · skip
        refine Parts.litS Z0.out Kd.bool 4 flat_bool (by rfl) rfl ([true] : List Bool) [.bool true] (by first | (go_simp; done) | (go_simp; rfl)) (Kd.reps_scalar (enc := Value.bool) [true]) (by decide) ?_
        intro V5 cV5 wV5 hV5
        have S5 := Aside0.mk hV5
        clear hV5
        refine hK.out _ _ (BD.out.trans (S5.out.B.mono BD.out.size)) (fun hHeld => ?_)
        clear hK K
        refine norm_ (a' := ?_) ?_ ?_
        rotate_left
        · show Act.put _ (some 100) _ = _
          simp only [Act.put, List.setIfInBounds_toArray, List.set_cons_zero, List.set_cons_succ]
          rfl
        refine one_ (i := 2) (N := some 97) #[true, true, true, true, false, true, false, true, false, false, false, false, false, false] rfl rfl (by kernel_rfl) (by decide) (fun K hK => ?_)
        refine Parts.litS S5.out Kd.bool 4 flat_bool (by rfl) rfl ([] : List Bool) [] (by first | (go_simp; done) | (go_simp; rfl)) (Reps.none _ _) (by decide) ?_
        intro V3 cV3 wV3 hV3
        have S3 := Aside0.mk hV3
        clear hV3
        refine hK.out _ _ (BD.out.trans (S3.out.B.mono BD.out.size)) (fun hHeld => ?_)
        clear hK K
        refine norm_ (a' := ?_) ?_ ?_
        rotate_left
        · show Act.put _ (some 97) _ = _
          simp only [Act.put, List.setIfInBounds_toArray, List.set_cons_zero, List.set_cons_succ]
          rfl
        refine one_ (i := 4) (N := some 99) #[true, true, true, true, true, true, false, true, false, false, false, false, false, false] rfl rfl (by kernel_rfl) (by decide) (fun K hK => ?_)
        refine Parts.appendRS S3.out 0 rfl flat_bool flatK_bool (by rfl) (.tmp 97) (.tmp 98) 54 (.bool false) 1 rfl hu54 infoBool rfl (by decide) (by decide) st D d rfl rfl ((HSt.out.below BD.out).below S3.out.B) (by have := HSL.out; simp only [List.length_nil]; omega) ?_
        rw [List.nil_append, show ([] : List Bool).length + st.length = st.length by simp]
        intro V4 cV4 wV4 hV4
        have S4 := Aside0.mk hV4
        clear hV4
        refine hK.out _ _ (BD.out.trans (S4.out.B.mono BD.out.size)) (fun hHeld => ?_)
        clear hK K
        refine norm_ (a' := ?_) ?_ ?_
        rotate_left
        · show Act.put _ (some 99) _ = _
          simp only [Act.put, List.setIfInBounds_toArray, List.set_cons_zero, List.set_cons_succ]
          rfl
        refine norm_ ?_ (hcont (.slice V3 0 cV3, (V4, cV4), (V5, cV5)) _ (S4.out.perm (List.Perm.swap _ _ _)))
        simp only [putAll, Act.put, List.setIfInBounds_toArray, List.set_cons_zero, List.set_cons_succ] <;> rfl
    case hcont =>
      rintro ⟨v3, ⟨V4, c4⟩, ⟨V5, c5⟩⟩ w8 l8
      dsimp only at l8 ⊢
      have L8 := Aside0.mk l8
      clear l8
      refine norm_ (a' := ?_) ?_ ?_
      rotate_left
      · simp only [putAll, Act.put, List.setIfInBounds_toArray, List.set_cons_zero, List.set_cons_succ]
        rfl
      refine one_ (i := 6) (N := some 101) #[true, true, true, true, true, true, true, true, false, false, false, false, false, false] rfl rfl (by kernel_rfl) (by decide) (fun K hK => ?_)
      refine Parts.appendRS L8.out 1 rfl flat_bool flatK_bool (by rfl) (.tmp 99) (.tmp 100) 54 (.bool false) 1 rfl hu54 infoBool rfl (by decide) (by decide) [true] V5 c5 rfl rfl (L8.out.rowF 0 rfl) (by have := HSL.out; simp only [List.length_singleton]; omega) ?_
      rw [show st.length + ([true] : List Bool).length = (st ++ [true]).length by simp]
      intro V9 cV9 wV9 hV9
      have S9 := Aside0.mk hV9
      clear hV9
      refine hK.out _ _ (BD.out.trans (S9.out.B.mono BD.out.size)) (fun hHeld => ?_)
      clear hK K
      refine norm_ (a' := ?_) ?_ ?_
      rotate_left
      · show Act.put _ (some 101) _ = _
        simp only [Act.put, List.setIfInBounds_toArray, List.set_cons_zero, List.set_cons_succ]
        rfl
      refine one_ (i := 8) (N := some 103) #[true, true, true, true, true, true, true, true, true, false, false, false, false, false] rfl rfl (by kernel_rfl) (by decide) (fun K hK => ?_)
      refine goes_ Try.func30 (by kernel_rfl) rfl #[cv p5 r.f0, .slice V9 (st ++ [true]).length cV9, .slice G all.length gc] (by rfl) rfl rfl (by simp only [List.map_toArray, List.map_cons, List.map_nil] <;> rfl) ?_
      refine (N1.out _ V9 cV9 (BX.out.trans (hHeld.mono BX.out.size)) (S9.out.rowF 1 rfl)).mono ?_
      rintro e wE ⟨NA, na, rfl, hr, hb⟩
      refine ⟨_, rfl, ?_⟩
      have BE := Aside0.mk (BD.out.trans ((S9.out.B.trans (hb.mono S9.out.B.size)).mono BD.out.size))
      have RE := Aside0.mk hr
      clear hr hb hHeld
      refine hK.out _ _ BE.out (fun hHeld => ?_)
      clear hK K
      refine norm_ (a' := ?_) ?_ ?_
      rotate_left
      · show Act.put _ (some 103) _ = _
        simp only [Act.put, List.setIfInBounds_toArray, List.set_cons_zero, List.set_cons_succ]
        rfl
      clear hHeld
      refine pure_ (i := 9) (N := some 94) (v := ?_) (a' := ?_) #[true, true, true, true, true, true, true, true, true, true, false, false, false, false] rfl rfl (by kernel_rfl) (fun _ _ _ h => h) (Or.inl ⟨by rfl, ?_⟩) ?_ ?_
      rotate_left
      · intro w'
        go_simp
        with_reducible rfl
      rotate_left
      · simp only [Act.put, List.setIfInBounds_toArray, List.set_cons_zero, List.set_cons_succ]
        rfl
      refine pure_ (i := 10) (N := some 104) (v := ?_) (a' := ?_) #[true, true, true, true, true, true, true, true, true, true, true, false, false, false] rfl rfl (by kernel_rfl) (fun _ _ _ h => h) (Or.inl ⟨by rfl, ?_⟩) ?_ ?_
      rotate_left
      · intro w'
        go_simp
        with_reducible rfl
      rotate_left
      · simp only [Act.put, List.setIfInBounds_toArray, List.set_cons_zero, List.set_cons_succ]
        rfl
      refine pure_ (i := 11) (N := some 105) (v := ?_) (a' := ?_) #[true, true, true, true, true, true, true, true, true, true, true, true, false, false] rfl rfl (by kernel_rfl) (fun _ _ _ h => h) (Or.inl ⟨by rfl, ?_⟩) ?_ ?_
      rotate_left
      · intro w'
        go_simp
        with_reducible rfl
      rotate_left
      · simp only [Act.put, List.setIfInBounds_toArray, List.set_cons_zero, List.set_cons_succ]
        rfl
      refine pure_ (i := 12) (N := some 15) (v := ?_) (a' := ?_) #[true, true, true, true, true, true, true, true, true, true, true, true, true, false] rfl rfl (by kernel_rfl) (fun _ _ _ h => h) (Or.inl ⟨by rfl, ?_⟩) ?_ ?_
      rotate_left
      · intro w'
        go_simp
        with_reducible rfl
      rotate_left
      · simp only [Act.put, List.setIfInBounds_toArray, List.set_cons_zero, List.set_cons_succ]
        rfl
      refine pure_ (i := 13) (N := some 16) (v := ?_) (a' := ?_) #[true, true, true, true, true, true, true, true, true, true, true, true, true, true] rfl rfl (by kernel_rfl) (fun _ _ _ h => h) (Or.inl ⟨by rfl, ?_⟩) ?_ ?_
      rotate_left
      · intro w'
        go_simp
        with_reducible rfl
      rotate_left
      · simp only [Act.put, List.setIfInBounds_toArray, List.set_cons_zero, List.set_cons_succ]
        rfl
      refine done_ (by kernel_rfl) ?_
      replace S := Aside0.mk (S.out.below BE.out)
      have R7b := Aside0.mk (R7.out.below BE.out)
      have R8 := Aside0.mk (RS.of_R' RE.out)
      obtain ⟨w10, hw10⟩ : ∃ W, wE = W := ⟨_, rfl⟩
      rw [hw10] at S R7b R8 ⊢
      clear BE RE Z0 BD HB5 HSt L8 S9 R7 BX P1 N1 C1 hw10
      rw [show (nx ++ [false]).length = nx.length + 1 by simp]
      have HSD := Aside0.mk (HS.out.below S.out.B)
      go_upto_region 12 with (fail)
      go_loopg [17, 18, 19, 20, 21, 22, 23, 24, 25, 26, 27, 28] (m + 1) (fun gg s17 s18 s19 s20 s21 _ _ _ _ _ _ _ wr => ∃ (j : Nat) (A : Option Addr) (e : Nat) (now : List Bool) (so hope bad : Bool), s17 = .bool hope ∧ s18 = .bool so ∧ s19 = .bool bad ∧ s20 = .slice A now.length e ∧ s21 = .int .i64 j ∧ Aside0 (j ≤ m + 1 ∧ m + 1 - j ≤ gg) ∧ Aside0 (Below w10.heap.size w10 wr) ∧ Aside0 (RS Kd.bool wr A e now) ∧ Aside0 (j ≤ m → hxRun c (fun j => rowAt c all (j + 1)) st j = ⟨now, so, hope⟩) ∧ Aside0 (j = m + 1 → now = nx ∧ (hope || so) = hp ∧ (bad || hope) = bd))
      case atStart => exact ⟨0, D, d, st, true, false, false, rfl, rfl, rfl, rfl, rfl, ⟨by omega, by omega⟩, ⟨Below.refl _ _⟩, HSD, ⟨fun _ => rfl⟩, ⟨fun h_ => by omega⟩⟩
      case round =>
        obtain ⟨j, A, e, now, so, hope, bad, rfl, rfl, rfl, rfl, rfl, HX, BW, HR1, HE1, HE2⟩ := hrel
        have SB := Aside0.mk (S.out.below BW.out)
        by_cases hle : j < m + 1
        · have HLE := Aside0.mk hle
          have hlei : (j : Int) ≤ m := by omega
          have HE := Aside0.mk (HE1.out (by omega))
          have HNL := Aside0.mk (show now.length = c.f1.length by have h_ := hxRun_len (c := c) (rows := fun j => rowAt c all (j + 1)) HL.out j; rw [HE.out] at h_; exact h_)
          clear HE1 HE2
          obtain ⟨ib, hib, hisz⟩ := infoB1
          have hI1 : c.f0 ≤ (all.length : Int) := by
            have h1 := HA.out
            rw [Int.add_mul] at h1
            have h2 : 0 ≤ (m : Int) * c.f0 := Int.mul_nonneg (by omega) HI.out.1
            omega
          have hct := cut_to (P := Try.prog) 54 4 .i64 hu54 hib G all.length gc c.f0 HI.out.1 hI1 HG.out.h
          by_cases hlt : j < m
          · have HLT := Aside0.mk hlt
            have hlti : (j : Int) < m := by omega
            have hj1 : wrap64 ((j : Int) + 1) = (j : Int) + 1 := by have := HK.out; exact wrap_in (by omega) (by omega)
            have hj2 : wrap64 ((j : Int) + 2) = (j : Int) + 2 := by have := HK.out; exact wrap_in (by omega) (by omega)
            have hw1 := HWA.out (j + 1) (by have := HK.out; omega)
            have hw2 := HWA.out (j + 2) (by have := HK.out; omega)
            rw [show ((j + 1 : Nat) : Int) = (j : Int) + 1 by push_cast; rfl] at hw1
            rw [show ((j + 2 : Nat) : Int) = (j : Int) + 2 by push_cast; rfl] at hw2
            obtain ⟨hlo0, hlh, hhi, hrow⟩ := row_cut HI.out.1 (m := m + 1) (by rw [HA.out]; push_cast; rfl) (show j + 1 < m + 1 by omega)
            rw [show ((j + 1 : Nat) : Int) = (j : Int) + 1 by push_cast; rfl, show (j : Int) + 1 + 1 = (j : Int) + 2 by omega] at hrow hlh hhi
            rw [show ((j + 1 : Nat) : Int) = (j : Int) + 1 by push_cast; rfl] at hlo0
            have hcut := cut_mid (P := Try.prog) 54 4 .i64 .i64 hu54 hib 1 hisz G all.length gc (((j : Int) + 1) * c.f0) (((j : Int) + 2) * c.f0) hlo0 hlh hhi HG.out.h
            have hX := Kd.C_mid (c := gc) (HG.out.below SB.out.B).r (show (((j : Int) + 1) * c.f0).toNat ≤ (((j : Int) + 2) * c.f0).toNat by omega) (by omega) HG.out.h
            rw [hrow] at hX
            simp only [show Kd.bool.sz = 1 from rfl, Nat.mul_one] at hX
            have hIl : (((j : Int) + 2) * c.f0).toNat - (((j : Int) + 1) * c.f0).toNat = (rowAt c all (j + 1)).length := by rw [← hrow, List.length_drop, List.length_take]; omega
            have hIc : ((rowAt c all (j + 1)).length : Int) = c.f0 := by
              rw [← hIl]
              have h2 : ((j : Int) + 2) * c.f0 = ((j : Int) + 1) * c.f0 + c.f0 := by rw [show (j : Int) + 2 = ((j : Int) + 1) + 1 by omega, Int.add_mul, Int.one_mul]
              rw [h2] at hlh hhi ⊢
              omega
            have hcap : (rowAt c all (j + 1)).length ≤ gc - (((j : Int) + 1) * c.f0).toNat := by rw [← hIl]; have := HG.out.h; omega
            simp only [Nat.mul_one, hIl] at hcut
            generalize (if gc = (((j : Int) + 1) * c.f0).toNat then G else G.map (·.add ((((j : Int) + 1) * c.f0).toNat))) = X at *
            generalize gc - (((j : Int) + 1) * c.f0).toNat = xc at *
            have HX2 := Aside0.mk (show hxRun c (fun j => rowAt c all (j + 1)) st (j + 1) = hxStep c (rowAt c all (j + 1)) ⟨now, so, hope⟩ by rw [← HE.out]; rfl)
            generalize hrw : rowAt c all (j + 1) = row at *
            have HRX := Aside0.mk (show RS Kd.bool wr X xc row from ⟨hX, hcap⟩)
            have HIC := Aside0.mk hIc
            clear hrw hib hisz hlo0 hlh hhi hrow hX hIl hIc hcap hI1
            obtain ⟨a_0, a_1, a_2, a_3, a_4⟩ := blk5 (SB.out.blk 2 rfl)
            clear hlt hle
            go_upto_region 17 with (fail)
            obtain ⟨hv, hhv⟩ : ∃ b, holdsOf c now row = b := ⟨_, rfl⟩
            obtain ⟨bl, hbl⟩ : ∃ b, badsOf c now row = b := ⟨_, rfl⟩
            obtain ⟨nx2, hnx2⟩ : ∃ b, nextOf c now row = b := ⟨_, rfl⟩
            have HXS0 := Aside0.mk (show hxRun c (fun j => rowAt c all (j + 1)) st (j + 1) = ⟨nx2, so && hv, hope || (bl.any id && (so && hv))⟩ by rw [HX2.out]; unfold hxStep; dsimp only; rw [hhv, hbl, hnx2])
            have P2 := Aside0.mk (fun W (hb : Below wr.heap.size wr W) => show Calls Try.prog 29 #[cv p c, .slice A now.length e, .slice X row.length xc] W (fun e w' => RetPp W w' hv bl e) from (by
              have h_ := values_Props p c A e now X xc row W (HH.out.below (SB.out.B.trans (hb.mono SB.out.z))) FC.out (HR1.out.below hb) (HRX.out.below hb) HC.out HNL.out HIC.out HLC.out
              rw [hhv, hbl] at h_
              exact h_))
            have N2 := Aside0.mk (fun W (hb : Below wr.heap.size wr W) => show Calls Try.prog 30 #[cv p c, .slice A now.length e, .slice X row.length xc] W (fun e w' => RetVo W w' nx2 e) from (by
              have h_ := values_Next p c A e now X xc row W (HH.out.below (SB.out.B.trans (hb.mono SB.out.z))) FC.out (HR1.out.below hb) (HRX.out.below hb) HC.out HNL.out HIC.out HLC.out
              rw [hnx2] at h_
              exact h_))
            have HBL := Aside0.mk (show bl.length ≤ 100 by rw [← hbl, badsOf_len]; exact HB.out.b)
            clear hhv hbl hnx2
            go_wp2_with fail
            refine (P2.out _ (Below.refl _ _)).mono ?_
            rintro e wb ⟨BA, ba, rfl, hr11, hb11⟩
            have SC := Aside0.mk (SB.out.below hb11)
            have B11 := Aside0.mk hb11
            have R11 := Aside0.mk hr11
            clear a_0 a_1 a_2 a_3 a_4 hb11 hr11
            obtain ⟨a_0, a_1, a_2, a_3, a_4⟩ := blk5 (SC.out.blk 2 rfl)
            go_wp2_with fail
            refine (N2.out _ B11.out).mono ?_
            rintro e w12 ⟨XA, xa, rfl, hr12, hb12⟩
            have B12 := Aside0.mk (B11.out.trans (hb12.mono B11.out.size))
            have R12 := Aside0.mk (RS.of_R' hr12)
            have R11b := Aside0.mk (R11.out.below hb12)
            clear a_0 a_1 a_2 a_3 a_4 hb12 hr12 P2 N2
            obtain ⟨wz, hwz⟩ : ∃ W, wr = W := ⟨_, rfl⟩
            rw [hwz] at BW HR1 SB HRX B12
            clear hwz R11 B11 SC
            go_upto_region 23 with (fail)
            go_loopg [19, 28] bl.length (fun gg s19 s28 wr => ∃ (i : Nat) (bb : Bool), s19 = .bool bb ∧ s28 = .int .i64 i ∧ Aside0 (i ≤ bl.length ∧ bl.length - i ≤ gg) ∧ Aside0 (Below w12.heap.size w12 wr) ∧ Aside0 (bb = (bl.take i).any id))
            case atStart => exact ⟨0, false, rfl, rfl, ⟨by omega, by omega⟩, ⟨Below.refl _ _⟩, ⟨by simp⟩⟩
            case round =>
              obtain ⟨i, bb, rfl, rfl, HXi, BWi, HPi⟩ := hrel
              by_cases hli : i < bl.length
              · obtain ⟨qd, e1, hx⟩ := at_bool (R11b.out.below BWi.out).r i hli
                have HST := Aside0.mk (any_take hli)
                have HLI := Aside0.mk hli
                subst e1
                generalize bl[i] = x at *
                have hlii : (i : Int) < bl.length := by omega
                clear hli
                have HQ := Aside0.mk (show (bb || x) = (bl.take (i + 1)).any id by rw [HST.out, HPi.out])
                cases bb with
                | true =>
                  go_wp2
                  go_roundg (bl.length - (i + 1))
                  case measure => have := HXi.out; have := HLI.out; omega
                  case rel => exact ⟨i + 1, true, rfl, (by first | exact val_step HLI.out (by have := HBL.out; omega) | (push_cast; rfl)), ⟨HLI.out, by have := HXi.out; omega⟩, BWi, ⟨by rw [← HQ.out]; rfl⟩⟩
                | false =>
                  go_wp2
                  go_roundg (bl.length - (i + 1))
                  case measure => have := HXi.out; have := HLI.out; omega
                  case rel => exact ⟨i + 1, x, rfl, (by first | exact val_step HLI.out (by have := HBL.out; omega) | (push_cast; rfl)), ⟨HLI.out, by have := HXi.out; omega⟩, BWi, ⟨by rw [← HQ.out]; rfl⟩⟩
              · have HEi := Aside0.mk (show i = bl.length by have := HXi.out; omega)
                have HQ := Aside0.mk (show bb = bl.any id by have h_ := HPi.out; rw [HEi.out, List.take_length] at h_; exact h_)
                have HXS := HXS0
                rw [← HQ.out] at HXS
                clear HXS0
                cases hope with
                | true =>
                  cases so with
                  | true =>
                    cases hv with
                    | true =>
                      cases bb with
                      | true =>
                        go_wp2
                        go_roundg (m + 1 - (j + 1))
                        case measure => have := HX.out; have := HLE.out; omega
                        case rel => exact ⟨j + 1, XA, xa, nx2, (true && true), (true || (true && (true && true))), true, rfl, rfl, rfl, rfl, (by first | exact val_step HLE.out (by have := HK.out; omega) | (push_cast; rfl)), ⟨by have := HLE.out; omega, by have := HX.out; omega⟩, ⟨BW.out.trans ((B12.out.trans (BWi.out.mono B12.out.size)).mono BW.out.size)⟩, ⟨R12.out.below BWi.out⟩, ⟨fun _ => HXS.out⟩, ⟨fun h_ => by have := HLT.out; omega⟩⟩
                      | false =>
                        go_wp2
                        go_roundg (m + 1 - (j + 1))
                        case measure => have := HX.out; have := HLE.out; omega
                        case rel => exact ⟨j + 1, XA, xa, nx2, (true && true), (true || (false && (true && true))), false, rfl, rfl, rfl, rfl, (by first | exact val_step HLE.out (by have := HK.out; omega) | (push_cast; rfl)), ⟨by have := HLE.out; omega, by have := HX.out; omega⟩, ⟨BW.out.trans ((B12.out.trans (BWi.out.mono B12.out.size)).mono BW.out.size)⟩, ⟨R12.out.below BWi.out⟩, ⟨fun _ => HXS.out⟩, ⟨fun h_ => by have := HLT.out; omega⟩⟩
                    | false =>
                      cases bb with
                      | true =>
                        go_wp2
                        go_roundg (m + 1 - (j + 1))
                        case measure => have := HX.out; have := HLE.out; omega
                        case rel => exact ⟨j + 1, XA, xa, nx2, (true && false), (true || (true && (true && false))), true, rfl, rfl, rfl, rfl, (by first | exact val_step HLE.out (by have := HK.out; omega) | (push_cast; rfl)), ⟨by have := HLE.out; omega, by have := HX.out; omega⟩, ⟨BW.out.trans ((B12.out.trans (BWi.out.mono B12.out.size)).mono BW.out.size)⟩, ⟨R12.out.below BWi.out⟩, ⟨fun _ => HXS.out⟩, ⟨fun h_ => by have := HLT.out; omega⟩⟩
                      | false =>
                        go_wp2
                        go_roundg (m + 1 - (j + 1))
                        case measure => have := HX.out; have := HLE.out; omega
                        case rel => exact ⟨j + 1, XA, xa, nx2, (true && false), (true || (false && (true && false))), false, rfl, rfl, rfl, rfl, (by first | exact val_step HLE.out (by have := HK.out; omega) | (push_cast; rfl)), ⟨by have := HLE.out; omega, by have := HX.out; omega⟩, ⟨BW.out.trans ((B12.out.trans (BWi.out.mono B12.out.size)).mono BW.out.size)⟩, ⟨R12.out.below BWi.out⟩, ⟨fun _ => HXS.out⟩, ⟨fun h_ => by have := HLT.out; omega⟩⟩
                  | false =>
                    cases hv with
                    | true =>
                      cases bb with
                      | true =>
                        go_wp2
                        go_roundg (m + 1 - (j + 1))
                        case measure => have := HX.out; have := HLE.out; omega
                        case rel => exact ⟨j + 1, XA, xa, nx2, (false && true), (true || (true && (false && true))), true, rfl, rfl, rfl, rfl, (by first | exact val_step HLE.out (by have := HK.out; omega) | (push_cast; rfl)), ⟨by have := HLE.out; omega, by have := HX.out; omega⟩, ⟨BW.out.trans ((B12.out.trans (BWi.out.mono B12.out.size)).mono BW.out.size)⟩, ⟨R12.out.below BWi.out⟩, ⟨fun _ => HXS.out⟩, ⟨fun h_ => by have := HLT.out; omega⟩⟩
                      | false =>
                        go_wp2
                        go_roundg (m + 1 - (j + 1))
                        case measure => have := HX.out; have := HLE.out; omega
                        case rel => exact ⟨j + 1, XA, xa, nx2, (false && true), (true || (false && (false && true))), false, rfl, rfl, rfl, rfl, (by first | exact val_step HLE.out (by have := HK.out; omega) | (push_cast; rfl)), ⟨by have := HLE.out; omega, by have := HX.out; omega⟩, ⟨BW.out.trans ((B12.out.trans (BWi.out.mono B12.out.size)).mono BW.out.size)⟩, ⟨R12.out.below BWi.out⟩, ⟨fun _ => HXS.out⟩, ⟨fun h_ => by have := HLT.out; omega⟩⟩
                    | false =>
                      cases bb with
                      | true =>
                        go_wp2
                        go_roundg (m + 1 - (j + 1))
                        case measure => have := HX.out; have := HLE.out; omega
                        case rel => exact ⟨j + 1, XA, xa, nx2, (false && false), (true || (true && (false && false))), true, rfl, rfl, rfl, rfl, (by first | exact val_step HLE.out (by have := HK.out; omega) | (push_cast; rfl)), ⟨by have := HLE.out; omega, by have := HX.out; omega⟩, ⟨BW.out.trans ((B12.out.trans (BWi.out.mono B12.out.size)).mono BW.out.size)⟩, ⟨R12.out.below BWi.out⟩, ⟨fun _ => HXS.out⟩, ⟨fun h_ => by have := HLT.out; omega⟩⟩
                      | false =>
                        go_wp2
                        go_roundg (m + 1 - (j + 1))
                        case measure => have := HX.out; have := HLE.out; omega
                        case rel => exact ⟨j + 1, XA, xa, nx2, (false && false), (true || (false && (false && false))), false, rfl, rfl, rfl, rfl, (by first | exact val_step HLE.out (by have := HK.out; omega) | (push_cast; rfl)), ⟨by have := HLE.out; omega, by have := HX.out; omega⟩, ⟨BW.out.trans ((B12.out.trans (BWi.out.mono B12.out.size)).mono BW.out.size)⟩, ⟨R12.out.below BWi.out⟩, ⟨fun _ => HXS.out⟩, ⟨fun h_ => by have := HLT.out; omega⟩⟩
                | false =>
                  cases so with
                  | true =>
                    cases hv with
                    | true =>
                      cases bb with
                      | true =>
                        go_wp2
                        go_roundg (m + 1 - (j + 1))
                        case measure => have := HX.out; have := HLE.out; omega
                        case rel => exact ⟨j + 1, XA, xa, nx2, (true && true), (false || (true && (true && true))), true, rfl, rfl, rfl, rfl, (by first | exact val_step HLE.out (by have := HK.out; omega) | (push_cast; rfl)), ⟨by have := HLE.out; omega, by have := HX.out; omega⟩, ⟨BW.out.trans ((B12.out.trans (BWi.out.mono B12.out.size)).mono BW.out.size)⟩, ⟨R12.out.below BWi.out⟩, ⟨fun _ => HXS.out⟩, ⟨fun h_ => by have := HLT.out; omega⟩⟩
                      | false =>
                        go_wp2
                        go_roundg (m + 1 - (j + 1))
                        case measure => have := HX.out; have := HLE.out; omega
                        case rel => exact ⟨j + 1, XA, xa, nx2, (true && true), (false || (false && (true && true))), false, rfl, rfl, rfl, rfl, (by first | exact val_step HLE.out (by have := HK.out; omega) | (push_cast; rfl)), ⟨by have := HLE.out; omega, by have := HX.out; omega⟩, ⟨BW.out.trans ((B12.out.trans (BWi.out.mono B12.out.size)).mono BW.out.size)⟩, ⟨R12.out.below BWi.out⟩, ⟨fun _ => HXS.out⟩, ⟨fun h_ => by have := HLT.out; omega⟩⟩
                    | false =>
                      cases bb with
                      | true =>
                        go_wp2
                        go_roundg (m + 1 - (j + 1))
                        case measure => have := HX.out; have := HLE.out; omega
                        case rel => exact ⟨j + 1, XA, xa, nx2, (true && false), (false || (true && (true && false))), true, rfl, rfl, rfl, rfl, (by first | exact val_step HLE.out (by have := HK.out; omega) | (push_cast; rfl)), ⟨by have := HLE.out; omega, by have := HX.out; omega⟩, ⟨BW.out.trans ((B12.out.trans (BWi.out.mono B12.out.size)).mono BW.out.size)⟩, ⟨R12.out.below BWi.out⟩, ⟨fun _ => HXS.out⟩, ⟨fun h_ => by have := HLT.out; omega⟩⟩
                      | false =>
                        go_wp2
                        go_roundg (m + 1 - (j + 1))
                        case measure => have := HX.out; have := HLE.out; omega
                        case rel => exact ⟨j + 1, XA, xa, nx2, (true && false), (false || (false && (true && false))), false, rfl, rfl, rfl, rfl, (by first | exact val_step HLE.out (by have := HK.out; omega) | (push_cast; rfl)), ⟨by have := HLE.out; omega, by have := HX.out; omega⟩, ⟨BW.out.trans ((B12.out.trans (BWi.out.mono B12.out.size)).mono BW.out.size)⟩, ⟨R12.out.below BWi.out⟩, ⟨fun _ => HXS.out⟩, ⟨fun h_ => by have := HLT.out; omega⟩⟩
                  | false =>
                    cases hv with
                    | true =>
                      cases bb with
                      | true =>
                        go_wp2
                        go_roundg (m + 1 - (j + 1))
                        case measure => have := HX.out; have := HLE.out; omega
                        case rel => exact ⟨j + 1, XA, xa, nx2, (false && true), (false || (true && (false && true))), true, rfl, rfl, rfl, rfl, (by first | exact val_step HLE.out (by have := HK.out; omega) | (push_cast; rfl)), ⟨by have := HLE.out; omega, by have := HX.out; omega⟩, ⟨BW.out.trans ((B12.out.trans (BWi.out.mono B12.out.size)).mono BW.out.size)⟩, ⟨R12.out.below BWi.out⟩, ⟨fun _ => HXS.out⟩, ⟨fun h_ => by have := HLT.out; omega⟩⟩
                      | false =>
                        go_wp2
                        go_roundg (m + 1 - (j + 1))
                        case measure => have := HX.out; have := HLE.out; omega
                        case rel => exact ⟨j + 1, XA, xa, nx2, (false && true), (false || (false && (false && true))), false, rfl, rfl, rfl, rfl, (by first | exact val_step HLE.out (by have := HK.out; omega) | (push_cast; rfl)), ⟨by have := HLE.out; omega, by have := HX.out; omega⟩, ⟨BW.out.trans ((B12.out.trans (BWi.out.mono B12.out.size)).mono BW.out.size)⟩, ⟨R12.out.below BWi.out⟩, ⟨fun _ => HXS.out⟩, ⟨fun h_ => by have := HLT.out; omega⟩⟩
                    | false =>
                      cases bb with
                      | true =>
                        go_wp2
                        go_roundg (m + 1 - (j + 1))
                        case measure => have := HX.out; have := HLE.out; omega
                        case rel => exact ⟨j + 1, XA, xa, nx2, (false && false), (false || (true && (false && false))), true, rfl, rfl, rfl, rfl, (by first | exact val_step HLE.out (by have := HK.out; omega) | (push_cast; rfl)), ⟨by have := HLE.out; omega, by have := HX.out; omega⟩, ⟨BW.out.trans ((B12.out.trans (BWi.out.mono B12.out.size)).mono BW.out.size)⟩, ⟨R12.out.below BWi.out⟩, ⟨fun _ => HXS.out⟩, ⟨fun h_ => by have := HLT.out; omega⟩⟩
                      | false =>
                        go_wp2
                        go_roundg (m + 1 - (j + 1))
                        case measure => have := HX.out; have := HLE.out; omega
                        case rel => exact ⟨j + 1, XA, xa, nx2, (false && false), (false || (false && (false && false))), false, rfl, rfl, rfl, rfl, (by first | exact val_step HLE.out (by have := HK.out; omega) | (push_cast; rfl)), ⟨by have := HLE.out; omega, by have := HX.out; omega⟩, ⟨BW.out.trans ((B12.out.trans (BWi.out.mono B12.out.size)).mono BW.out.size)⟩, ⟨R12.out.below BWi.out⟩, ⟨fun _ => HXS.out⟩, ⟨fun h_ => by have := HLT.out; omega⟩⟩
          · have HEQ := Aside0.mk (show j = m by omega)
            have hlti : ¬ (j : Int) < m := by omega
            obtain ⟨row, hrow⟩ : ∃ row, all.take c.f0.toNat = row := ⟨_, rfl⟩
            have HROW := Aside0.mk (show row = rowAt c all 0 by rw [← hrow]; unfold rowAt; rw [Nat.zero_mul, List.drop_zero])
            have hrl : c.f0.toNat = row.length := by rw [← hrow, List.length_take]; omega
            have HRX := Aside0.mk (show RS Kd.bool wr G gc row from ⟨by rw [← hrow]; exact Kd.C_take (HG.out.below SB.out.B).r (by omega), by rw [← hrl]; have := HG.out.h; omega⟩)
            have HIC := Aside0.mk (show (row.length : Int) = c.f0 by rw [← hrl]; have := HI.out; omega)
            simp only [hrl] at hct
            clear hrow hrl hib hisz hI1 hle hlt
            obtain ⟨a_0, a_1, a_2, a_3, a_4⟩ := blk5 (SB.out.blk 2 rfl)
            go_upto_region 17 with (fail)
            obtain ⟨hv, hhv⟩ : ∃ b, holdsOf c now row = b := ⟨_, rfl⟩
            obtain ⟨bl, hbl⟩ : ∃ b, badsOf c now row = b := ⟨_, rfl⟩
            obtain ⟨nx2, hnx2⟩ : ∃ b, nextOf c now row = b := ⟨_, rfl⟩
            have HFIN0 := Aside0.mk (show nx2 = nx ∧ (hope || (so && hv)) = hp ∧ (bl.any id || hope) = bd by
              have h_ := HE.out
              rw [HEQ.out, HH2.out] at h_
              rw [← HHP.out, ← HBD.out, ← HNX.out, h_, ← HROW.out]
              dsimp only
              rw [hhv, hbl, hnx2, Bool.and_comm so hv]
              exact ⟨rfl, rfl, rfl⟩)
            have P2 := Aside0.mk (fun W (hb : Below wr.heap.size wr W) => show Calls Try.prog 29 #[cv p c, .slice A now.length e, .slice G row.length gc] W (fun e w' => RetPp W w' hv bl e) from (by
              have h_ := values_Props p c A e now G gc row W (HH.out.below (SB.out.B.trans (hb.mono SB.out.z))) FC.out (HR1.out.below hb) (HRX.out.below hb) HC.out HNL.out HIC.out HLC.out
              rw [hhv, hbl] at h_
              exact h_))
            have N2 := Aside0.mk (fun W (hb : Below wr.heap.size wr W) => show Calls Try.prog 30 #[cv p c, .slice A now.length e, .slice G row.length gc] W (fun e w' => RetVo W w' nx2 e) from (by
              have h_ := values_Next p c A e now G gc row W (HH.out.below (SB.out.B.trans (hb.mono SB.out.z))) FC.out (HR1.out.below hb) (HRX.out.below hb) HC.out HNL.out HIC.out HLC.out
              rw [hnx2] at h_
              exact h_))
            have HBL := Aside0.mk (show bl.length ≤ 100 by rw [← hbl, badsOf_len]; exact HB.out.b)
            clear hhv hbl hnx2
            go_wp2_with fail
            refine (P2.out _ (Below.refl _ _)).mono ?_
            rintro e wb ⟨BA, ba, rfl, hr11, hb11⟩
            have SC := Aside0.mk (SB.out.below hb11)
            have B11 := Aside0.mk hb11
            have R11 := Aside0.mk hr11
            clear a_0 a_1 a_2 a_3 a_4 hb11 hr11
            obtain ⟨a_0, a_1, a_2, a_3, a_4⟩ := blk5 (SC.out.blk 2 rfl)
            go_wp2_with fail
            refine (N2.out _ B11.out).mono ?_
            rintro e w12 ⟨XA, xa, rfl, hr12, hb12⟩
            have B12 := Aside0.mk (B11.out.trans (hb12.mono B11.out.size))
            have R12 := Aside0.mk (RS.of_R' hr12)
            have R11b := Aside0.mk (R11.out.below hb12)
            clear a_0 a_1 a_2 a_3 a_4 hb12 hr12 P2 N2
            obtain ⟨wz, hwz⟩ : ∃ W, wr = W := ⟨_, rfl⟩
            rw [hwz] at BW HR1 SB HRX B12
            clear hwz R11 B11 SC
            go_upto_region 23 with (fail)
            go_loopg [19, 28] bl.length (fun gg s19 s28 wr => ∃ (i : Nat) (bb : Bool), s19 = .bool bb ∧ s28 = .int .i64 i ∧ Aside0 (i ≤ bl.length ∧ bl.length - i ≤ gg) ∧ Aside0 (Below w12.heap.size w12 wr) ∧ Aside0 (bb = (bl.take i).any id))
            case atStart => exact ⟨0, false, rfl, rfl, ⟨by omega, by omega⟩, ⟨Below.refl _ _⟩, ⟨by simp⟩⟩
            case round =>
              obtain ⟨i, bb, rfl, rfl, HXi, BWi, HPi⟩ := hrel
              by_cases hli : i < bl.length
              · obtain ⟨qd, e1, hx⟩ := at_bool (R11b.out.below BWi.out).r i hli
                have HST := Aside0.mk (any_take hli)
                have HLI := Aside0.mk hli
                subst e1
                generalize bl[i] = x at *
                have hlii : (i : Int) < bl.length := by omega
                clear hli
                have HQ := Aside0.mk (show (bb || x) = (bl.take (i + 1)).any id by rw [HST.out, HPi.out])
                cases bb with
                | true =>
                  go_wp2
                  go_roundg (bl.length - (i + 1))
                  case measure => have := HXi.out; have := HLI.out; omega
                  case rel => exact ⟨i + 1, true, rfl, (by first | exact val_step HLI.out (by have := HBL.out; omega) | (push_cast; rfl)), ⟨HLI.out, by have := HXi.out; omega⟩, BWi, ⟨by rw [← HQ.out]; rfl⟩⟩
                | false =>
                  go_wp2
                  go_roundg (bl.length - (i + 1))
                  case measure => have := HXi.out; have := HLI.out; omega
                  case rel => exact ⟨i + 1, x, rfl, (by first | exact val_step HLI.out (by have := HBL.out; omega) | (push_cast; rfl)), ⟨HLI.out, by have := HXi.out; omega⟩, BWi, ⟨by rw [← HQ.out]; rfl⟩⟩
              · have HEi := Aside0.mk (show i = bl.length by have := HXi.out; omega)
                have HQ := Aside0.mk (show bb = bl.any id by have h_ := HPi.out; rw [HEi.out, List.take_length] at h_; exact h_)
                have HFIN := HFIN0
                rw [← HQ.out] at HFIN
                clear HFIN0
                cases hope with
                | true =>
                  cases so with
                  | true =>
                    cases hv with
                    | true =>
                      cases bb with
                      | true =>
                        go_wp2
                        go_roundg (m + 1 - (j + 1))
                        case measure => have := HX.out; have := HLE.out; omega
                        case rel => exact ⟨j + 1, XA, xa, nx2, (true && true), true, true, rfl, rfl, rfl, rfl, (by first | exact val_step HLE.out (by have := HK.out; omega) | (push_cast; rfl)), ⟨by have := HLE.out; omega, by have := HX.out; omega⟩, ⟨BW.out.trans ((B12.out.trans (BWi.out.mono B12.out.size)).mono BW.out.size)⟩, ⟨R12.out.below BWi.out⟩, ⟨fun h_ => by have := HEQ.out; omega⟩, ⟨fun _ => HFIN.out⟩⟩
                      | false =>
                        go_wp2
                        go_roundg (m + 1 - (j + 1))
                        case measure => have := HX.out; have := HLE.out; omega
                        case rel => exact ⟨j + 1, XA, xa, nx2, (true && true), true, false, rfl, rfl, rfl, rfl, (by first | exact val_step HLE.out (by have := HK.out; omega) | (push_cast; rfl)), ⟨by have := HLE.out; omega, by have := HX.out; omega⟩, ⟨BW.out.trans ((B12.out.trans (BWi.out.mono B12.out.size)).mono BW.out.size)⟩, ⟨R12.out.below BWi.out⟩, ⟨fun h_ => by have := HEQ.out; omega⟩, ⟨fun _ => HFIN.out⟩⟩
                    | false =>
                      cases bb with
                      | true =>
                        go_wp2
                        go_roundg (m + 1 - (j + 1))
                        case measure => have := HX.out; have := HLE.out; omega
                        case rel => exact ⟨j + 1, XA, xa, nx2, (true && false), true, true, rfl, rfl, rfl, rfl, (by first | exact val_step HLE.out (by have := HK.out; omega) | (push_cast; rfl)), ⟨by have := HLE.out; omega, by have := HX.out; omega⟩, ⟨BW.out.trans ((B12.out.trans (BWi.out.mono B12.out.size)).mono BW.out.size)⟩, ⟨R12.out.below BWi.out⟩, ⟨fun h_ => by have := HEQ.out; omega⟩, ⟨fun _ => HFIN.out⟩⟩
                      | false =>
                        go_wp2
                        go_roundg (m + 1 - (j + 1))
                        case measure => have := HX.out; have := HLE.out; omega
                        case rel => exact ⟨j + 1, XA, xa, nx2, (true && false), true, false, rfl, rfl, rfl, rfl, (by first | exact val_step HLE.out (by have := HK.out; omega) | (push_cast; rfl)), ⟨by have := HLE.out; omega, by have := HX.out; omega⟩, ⟨BW.out.trans ((B12.out.trans (BWi.out.mono B12.out.size)).mono BW.out.size)⟩, ⟨R12.out.below BWi.out⟩, ⟨fun h_ => by have := HEQ.out; omega⟩, ⟨fun _ => HFIN.out⟩⟩
                  | false =>
                    cases hv with
                    | true =>
                      cases bb with
                      | true =>
                        go_wp2
                        go_roundg (m + 1 - (j + 1))
                        case measure => have := HX.out; have := HLE.out; omega
                        case rel => exact ⟨j + 1, XA, xa, nx2, (false && true), true, true, rfl, rfl, rfl, rfl, (by first | exact val_step HLE.out (by have := HK.out; omega) | (push_cast; rfl)), ⟨by have := HLE.out; omega, by have := HX.out; omega⟩, ⟨BW.out.trans ((B12.out.trans (BWi.out.mono B12.out.size)).mono BW.out.size)⟩, ⟨R12.out.below BWi.out⟩, ⟨fun h_ => by have := HEQ.out; omega⟩, ⟨fun _ => HFIN.out⟩⟩
                      | false =>
                        go_wp2
                        go_roundg (m + 1 - (j + 1))
                        case measure => have := HX.out; have := HLE.out; omega
                        case rel => exact ⟨j + 1, XA, xa, nx2, (false && true), true, false, rfl, rfl, rfl, rfl, (by first | exact val_step HLE.out (by have := HK.out; omega) | (push_cast; rfl)), ⟨by have := HLE.out; omega, by have := HX.out; omega⟩, ⟨BW.out.trans ((B12.out.trans (BWi.out.mono B12.out.size)).mono BW.out.size)⟩, ⟨R12.out.below BWi.out⟩, ⟨fun h_ => by have := HEQ.out; omega⟩, ⟨fun _ => HFIN.out⟩⟩
                    | false =>
                      cases bb with
                      | true =>
                        go_wp2
                        go_roundg (m + 1 - (j + 1))
                        case measure => have := HX.out; have := HLE.out; omega
                        case rel => exact ⟨j + 1, XA, xa, nx2, (false && false), true, true, rfl, rfl, rfl, rfl, (by first | exact val_step HLE.out (by have := HK.out; omega) | (push_cast; rfl)), ⟨by have := HLE.out; omega, by have := HX.out; omega⟩, ⟨BW.out.trans ((B12.out.trans (BWi.out.mono B12.out.size)).mono BW.out.size)⟩, ⟨R12.out.below BWi.out⟩, ⟨fun h_ => by have := HEQ.out; omega⟩, ⟨fun _ => HFIN.out⟩⟩
                      | false =>
                        go_wp2
                        go_roundg (m + 1 - (j + 1))
                        case measure => have := HX.out; have := HLE.out; omega
                        case rel => exact ⟨j + 1, XA, xa, nx2, (false && false), true, false, rfl, rfl, rfl, rfl, (by first | exact val_step HLE.out (by have := HK.out; omega) | (push_cast; rfl)), ⟨by have := HLE.out; omega, by have := HX.out; omega⟩, ⟨BW.out.trans ((B12.out.trans (BWi.out.mono B12.out.size)).mono BW.out.size)⟩, ⟨R12.out.below BWi.out⟩, ⟨fun h_ => by have := HEQ.out; omega⟩, ⟨fun _ => HFIN.out⟩⟩
                | false =>
                  cases so with
                  | true =>
                    cases hv with
                    | true =>
                      cases bb with
                      | true =>
                        go_wp2
                        go_roundg (m + 1 - (j + 1))
                        case measure => have := HX.out; have := HLE.out; omega
                        case rel => exact ⟨j + 1, XA, xa, nx2, (true && true), false, true, rfl, rfl, rfl, rfl, (by first | exact val_step HLE.out (by have := HK.out; omega) | (push_cast; rfl)), ⟨by have := HLE.out; omega, by have := HX.out; omega⟩, ⟨BW.out.trans ((B12.out.trans (BWi.out.mono B12.out.size)).mono BW.out.size)⟩, ⟨R12.out.below BWi.out⟩, ⟨fun h_ => by have := HEQ.out; omega⟩, ⟨fun _ => HFIN.out⟩⟩
                      | false =>
                        go_wp2
                        go_roundg (m + 1 - (j + 1))
                        case measure => have := HX.out; have := HLE.out; omega
                        case rel => exact ⟨j + 1, XA, xa, nx2, (true && true), false, false, rfl, rfl, rfl, rfl, (by first | exact val_step HLE.out (by have := HK.out; omega) | (push_cast; rfl)), ⟨by have := HLE.out; omega, by have := HX.out; omega⟩, ⟨BW.out.trans ((B12.out.trans (BWi.out.mono B12.out.size)).mono BW.out.size)⟩, ⟨R12.out.below BWi.out⟩, ⟨fun h_ => by have := HEQ.out; omega⟩, ⟨fun _ => HFIN.out⟩⟩
                    | false =>
                      cases bb with
                      | true =>
                        go_wp2
                        go_roundg (m + 1 - (j + 1))
                        case measure => have := HX.out; have := HLE.out; omega
                        case rel => exact ⟨j + 1, XA, xa, nx2, (true && false), false, true, rfl, rfl, rfl, rfl, (by first | exact val_step HLE.out (by have := HK.out; omega) | (push_cast; rfl)), ⟨by have := HLE.out; omega, by have := HX.out; omega⟩, ⟨BW.out.trans ((B12.out.trans (BWi.out.mono B12.out.size)).mono BW.out.size)⟩, ⟨R12.out.below BWi.out⟩, ⟨fun h_ => by have := HEQ.out; omega⟩, ⟨fun _ => HFIN.out⟩⟩
                      | false =>
                        go_wp2
                        go_roundg (m + 1 - (j + 1))
                        case measure => have := HX.out; have := HLE.out; omega
                        case rel => exact ⟨j + 1, XA, xa, nx2, (true && false), false, false, rfl, rfl, rfl, rfl, (by first | exact val_step HLE.out (by have := HK.out; omega) | (push_cast; rfl)), ⟨by have := HLE.out; omega, by have := HX.out; omega⟩, ⟨BW.out.trans ((B12.out.trans (BWi.out.mono B12.out.size)).mono BW.out.size)⟩, ⟨R12.out.below BWi.out⟩, ⟨fun h_ => by have := HEQ.out; omega⟩, ⟨fun _ => HFIN.out⟩⟩
                  | false =>
                    cases hv with
                    | true =>
                      cases bb with
                      | true =>
                        go_wp2
                        go_roundg (m + 1 - (j + 1))
                        case measure => have := HX.out; have := HLE.out; omega
                        case rel => exact ⟨j + 1, XA, xa, nx2, (false && true), false, true, rfl, rfl, rfl, rfl, (by first | exact val_step HLE.out (by have := HK.out; omega) | (push_cast; rfl)), ⟨by have := HLE.out; omega, by have := HX.out; omega⟩, ⟨BW.out.trans ((B12.out.trans (BWi.out.mono B12.out.size)).mono BW.out.size)⟩, ⟨R12.out.below BWi.out⟩, ⟨fun h_ => by have := HEQ.out; omega⟩, ⟨fun _ => HFIN.out⟩⟩
                      | false =>
                        go_wp2
                        go_roundg (m + 1 - (j + 1))
                        case measure => have := HX.out; have := HLE.out; omega
                        case rel => exact ⟨j + 1, XA, xa, nx2, (false && true), false, false, rfl, rfl, rfl, rfl, (by first | exact val_step HLE.out (by have := HK.out; omega) | (push_cast; rfl)), ⟨by have := HLE.out; omega, by have := HX.out; omega⟩, ⟨BW.out.trans ((B12.out.trans (BWi.out.mono B12.out.size)).mono BW.out.size)⟩, ⟨R12.out.below BWi.out⟩, ⟨fun h_ => by have := HEQ.out; omega⟩, ⟨fun _ => HFIN.out⟩⟩
                    | false =>
                      cases bb with
                      | true =>
                        go_wp2
                        go_roundg (m + 1 - (j + 1))
                        case measure => have := HX.out; have := HLE.out; omega
                        case rel => exact ⟨j + 1, XA, xa, nx2, (false && false), false, true, rfl, rfl, rfl, rfl, (by first | exact val_step HLE.out (by have := HK.out; omega) | (push_cast; rfl)), ⟨by have := HLE.out; omega, by have := HX.out; omega⟩, ⟨BW.out.trans ((B12.out.trans (BWi.out.mono B12.out.size)).mono BW.out.size)⟩, ⟨R12.out.below BWi.out⟩, ⟨fun h_ => by have := HEQ.out; omega⟩, ⟨fun _ => HFIN.out⟩⟩
                      | false =>
                        go_wp2
                        go_roundg (m + 1 - (j + 1))
                        case measure => have := HX.out; have := HLE.out; omega
                        case rel => exact ⟨j + 1, XA, xa, nx2, (false && false), false, false, rfl, rfl, rfl, rfl, (by first | exact val_step HLE.out (by have := HK.out; omega) | (push_cast; rfl)), ⟨by have := HLE.out; omega, by have := HX.out; omega⟩, ⟨BW.out.trans ((B12.out.trans (BWi.out.mono B12.out.size)).mono BW.out.size)⟩, ⟨R12.out.below BWi.out⟩, ⟨fun h_ => by have := HEQ.out; omega⟩, ⟨fun _ => HFIN.out⟩⟩
        · have HEj := Aside0.mk (show j = m + 1 by have := HX.out; omega)
          obtain ⟨h1, h2, h3⟩ := HE2.out HEj.out
          have hlei : ¬ (j : Int) ≤ m := by have := HEj.out; omega
          subst h1
          subst h2
          subst h3
          have HNL := Aside0.mk (show now.length ≤ 1000 by rw [← HNX.out, nextOf_len]; have := HB.out.n; omega)
          have R7c := Aside0.mk (R7b.out.below BW.out)
          have R8c := Aside0.mk (R8.out.below BW.out)
          obtain ⟨qd, e1, hx⟩ := at_bool R7c.out.r 0 (by simp)
          obtain ⟨rd, e2, hy⟩ := at_bool R8c.out.r now.length (by simp)
          subst e1
          subst e2
          rw [show ([bad || hope] : List Bool)[0]'(by simp) = (bad || hope) from rfl, show qd.add 0 = qd by simp [Addr.add]] at hx
          rw [show (now ++ [false])[now.length]'(by simp) = false by simp] at hy
          obtain ⟨ib, hib, hisz⟩ := infoB1
          have hcp : now.length + 1 ≤ na := by have h_ := R8c.out.h; rw [List.length_append] at h_; exact h_
          have hct := cut_to (P := Try.prog) 54 4 .i64 hu54 hib (some rd) (now.length + 1) na (now.length : Int) (by omega) (by omega) hcp
          rw [Int.toNat_natCast] at hct
          have SM := Aside0.mk (show Calls Try.prog 31 #[.slice (some rd) now.length na, .slice A now.length e] wr (fun e w' => e = .returned (.bool true) ∧ Below wr.heap.size wr w') from (by
            have hr_ : RS Kd.bool wr (some rd) na now := ⟨by
              have h_ := Kd.C_take (m := now.length) R8c.out.r (by simp)
              rw [List.take_left] at h_
              exact h_, by omega⟩
            have h_ := ref04_Same (some rd) na now A e now wr hr_ HR1.out
            rw [decide_eq_true rfl] at h_
            exact h_))
          have hwl : wrap64 ((now.length : Int) + 1) = (now.length : Int) + 1 := by have := HNL.out; exact wrap_in (by omega) (by omega)
          have hlp : (now.length : Int) < ((now.length + 1 : Nat) : Int) := by omega
          clear hib hisz hle HE1 HE2
          cases hope with
          | true =>
            cases so with
            | true =>
              cases bad with
              | true =>
                go_wp2_with fail
                refine SM.out.mono ?_
                rintro e wl ⟨rfl, hbl⟩
                have SL := Aside0.mk (SB.out.below hbl)
                have hyl := pw_cell_below hbl hy
                clear hbl
                go_wp2
                go_ret
                exact ⟨rfl, SL.out.B⟩
              | false =>
                go_wp2_with fail
                refine SM.out.mono ?_
                rintro e wl ⟨rfl, hbl⟩
                have SL := Aside0.mk (SB.out.below hbl)
                have hyl := pw_cell_below hbl hy
                clear hbl
                go_wp2
                go_ret
                exact ⟨rfl, SL.out.B⟩
            | false =>
              cases bad with
              | true =>
                go_wp2_with fail
                refine SM.out.mono ?_
                rintro e wl ⟨rfl, hbl⟩
                have SL := Aside0.mk (SB.out.below hbl)
                have hyl := pw_cell_below hbl hy
                clear hbl
                go_wp2
                go_ret
                exact ⟨rfl, SL.out.B⟩
              | false =>
                go_wp2_with fail
                refine SM.out.mono ?_
                rintro e wl ⟨rfl, hbl⟩
                have SL := Aside0.mk (SB.out.below hbl)
                have hyl := pw_cell_below hbl hy
                clear hbl
                go_wp2
                go_ret
                exact ⟨rfl, SL.out.B⟩
          | false =>
            cases so with
            | true =>
              cases bad with
              | true =>
                go_wp2_with fail
                refine SM.out.mono ?_
                rintro e wl ⟨rfl, hbl⟩
                have SL := Aside0.mk (SB.out.below hbl)
                have hyl := pw_cell_below hbl hy
                clear hbl
                go_wp2
                go_ret
                exact ⟨rfl, SL.out.B⟩
              | false =>
                go_wp2_with fail
                refine SM.out.mono ?_
                rintro e wl ⟨rfl, hbl⟩
                have SL := Aside0.mk (SB.out.below hbl)
                have hyl := pw_cell_below hbl hy
                clear hbl
                go_wp2
                go_ret
                exact ⟨rfl, SL.out.B⟩
            | false =>
              cases bad with
              | true =>
                go_wp2_with fail
                refine SM.out.mono ?_
                rintro e wl ⟨rfl, hbl⟩
                have SL := Aside0.mk (SB.out.below hbl)
                have hyl := pw_cell_below hbl hy
                clear hbl
                go_wp2
                go_ret
                exact ⟨rfl, SL.out.B⟩
              | false =>
                go_wp2_with fail
                refine SM.out.mono ?_
                rintro e wl ⟨rfl, hbl⟩
                have SL := Aside0.mk (SB.out.below hbl)
                have hyl := pw_cell_below hbl hy
                clear hbl
                go_wp2
                go_ret
                exact ⟨rfl, SL.out.B⟩
end Go.Proofs.Ytpoadkogcdfglaa.PH
