/- The reference's builder: Build. -/
import Derived.Test.YtpoadkogcdfglaaHRefC
import Derived.Test.YtpoadkogcdfglaaHBldH
import Derived.Test.YtpoadkogcdfglaaHRowS
import Derived.Deep.RegionHeld3
import Derived.Deep.QuietTactic
import Derived.BigQuiet
namespace Go.Proofs.Ytpoadkogcdfglaa.PH
open Go.RowKit Go.Proofs.YtpoadkogcdfglaaW.PrintWords Go.Proofs.YtpoadkogcdfglaaW.PrintLast
set_option linter.unusedVariables false
set_option linter.unusedSimpArgs false

set_option maxHeartbeats 4000000 in
set_option maxRecDepth 100000 in
theorem ref32_Build {gC : Nat} {inp : Int} {nL : Nat} {bs : Value × Value} {vL vA : Option Addr × Nat} {ands : List Gate} {ps : List Pc} {w0 w : World} {p : CP} {f : Circ} {m : Nat} (S : Parts w0.heap.size w0 w (rPs w0.heap.size gC inp nL bs vL vA ands ++ ps)) (hO : BOk inp nL ands) (ha : ands.length ≤ 80000) (hf : FIn f m) (hR : RC w0 p f)
    {input : Int} (hi : 0 ≤ input ∧ input ≤ 10000) {sA : Option Addr} {sc : Nat} {state : List Int} (hs : ∀ W vA ands, Parts w0.heap.size w0 W (rPs w0.heap.size gC inp nL bs vL vA ands ++ ps) → RS (Kd.int .i64) W sA sc state) (hsl : state.length = f.f1.length) (hsb : ∀ x ∈ state, LB x) :
    Calls Try.prog 76 #[.pointer (some ⟨gC, 0, none⟩), cv p f, .int .i64 input, .slice sA state.length sc] w fun e w' => ∃ vA V c, e = .returned (.agg #[.slice V f.f1.length c, .int .i64 (bFrame (inp + nL) f ands input state).bad, .int .i64 (bFrame (inp + nL) f ands input state).right]) ∧
      Parts w0.heap.size w0 w' (rPs w0.heap.size gC inp nL bs vL vA (bFrame (inp + nL) f ands input state).ands ++ pF w0.heap.size (Kd.int .i64) 3 (.slice V f.f1.length c) (bFrame (inp + nL) f ands input state).nexts :: ps) := by
  replace S := Aside0.mk S
  have HO := Aside0.mk hO
  have HA := Aside0.mk ha
  have HF := Aside0.mk hf
  have HR := Aside0.mk hR
  have HI := Aside0.mk hi
  have HS := Aside0.mk hs
  have HSL := Aside0.mk hsl
  have HSB := Aside0.mk hsb
  have hu26 := Try.underlying26
  have hu45 := Try.underlying92
  have hu79 := Try.underlying45
  have hu127 := Try.underlying123
  clear hO ha hf hR hi hs hsl hsb
  obtain ⟨R, hRR⟩ : ∃ R, bFrame (inp + nL) f ands input state = R := ⟨_, rfl⟩
  rw [hRR]
  have HRR := Aside0.mk hRR
  clear hRR
  go_enter Try.func76, Try.ntmps76
  go_upto_region 2 with (fail)
  have S1 := Aside0.mk (show Parts w0.heap.size w0 _ (kPs w0.heap.size w.heap.size (w.heap.size + 1) (fcV p f) (some ⟨w.heap.size + 1 + 1, 0, none⟩) 1 1 [0] ++ (rPs w0.heap.size gC inp nL bs vL vA ands ++ ps)) from by
    have h1 := (S.out.new 26 (fcV p f)).new 123 #[.slice none 0 0, .int .i64 0, .int .i64 0]
    have h2 := h1.freshF flat_int (below_alloc (Below.refl _ _) (.cells #[.int .i64 0] 3)) (R_zeroB _ _ 3 (Nat.le_refl _))
    simp only [World.size_alloc] at h2
    exact h2)
  generalize hV0 : w.heap.size + 1 + 1 = gV at *
  clear hV0
  generalize hgR : w.heap.size + 1 = gR at *
  clear hgR
  obtain ⟨gP, hgP⟩ : ∃ g, w.heap.size = g := ⟨_, rfl⟩
  rw [hgP] at S1
  generalize (((w.alloc (.cells (fcV p f) 26)).alloc (.cells #[.slice none 0 0, .int .i64 0, .int .i64 0] 123)).alloc (.cells #[.int .i64 0] 3)) = w1 at *
  simp only [hgP]
  clear S hgP
  obtain ⟨ni, hni⟩ : ∃ n : Nat, f.f0 = (n : Int) := ⟨f.f0.toNat, by have := HF.out.i; omega⟩
  have HNI := Aside0.mk (show f.f0.toNat = ni ∧ ni ≤ 1000 by have := HF.out.i; omega)
  have HNJ := Aside0.mk hni
  clear hni
  go_wp2
  go_loopg [9, 10] ni (fun gg s9 s10 wr => ∃ (i : Nat) (V : Option Addr) (c : Nat), s9 = .slice V (i + 1) c ∧ s10 = .int .i64 i ∧ Aside0 (i ≤ ni ∧ ni - i ≤ gg) ∧ Aside0 (Parts w0.heap.size w0 wr (kPs w0.heap.size gP gR (fcV p f) V (i + 1) c (0 :: bIns input i) ++ (rPs w0.heap.size gC inp nL bs vL vA ands ++ ps))))
  case atStart => exact ⟨0, some ⟨gV, 0, none⟩, 1, rfl, rfl, ⟨by omega, by omega⟩, S1⟩
  case round =>
    clear S1
    obtain ⟨i, V, c, rfl, rfl, HK, S⟩ := hrel
    have c0 : wr.cell? ⟨gP, 0, none⟩ = some (.int .i64 f.f0) := (S.out.cell 2 rfl 0 rfl).1
    rw [HNJ.out] at c0
    by_cases hlt : i < ni
    · have HLT := Aside0.mk hlt
      have hlti : (i : Int) < (ni : Int) := by omega
      obtain ⟨x, hx⟩ : ∃ x : Int, 2 * (input + (i : Int)) = x := ⟨_, rfl⟩
      have hw : wrap64 (2 * wrap64 (input + (i : Int))) = x := by
        have h1 := HI.out; have h2 := HNI.out
        rw [wrap_in (x := input + (i : Int)) (by omega) (by omega), wrap_in (by omega) (by omega), hx]
      have HST := Aside0.mk (show 0 :: bIns input (i + 1) = (0 :: bIns input i) ++ [x] by rw [bIns_succ, ← hx]; rfl)
      have HLN := Aside0.mk (show i + 1 = (0 :: bIns input i).length by rw [List.length_cons, bIns_len])
      clear hx hlt
      generalize 0 :: bIns input i = ys at *
      go_wp2_with (first | (at_builtin; refine Parts.appendL S.out 0 rfl flat_int rfl (.tmp 25) (.tmp 30) 24 (.int .i64 0) 8 rfl Try.underlying24 infoInt rfl (by decide) (by decide) x [.int .i64 x] rfl (by rw [hw]; rfl) rfl (by have := HNI.out; have := HLT.out; have := HLN.out; omega) ?_; intro V2 cap2 w8 h8; have S8 := Aside0.mk h8; clear h8))
      have hys := HLN.out
      go_roundg (ni - (i + 1))
      case measure => have := HK.out; have := HLT.out; omega
      case rel => exact ⟨i + 1, V2, cap2, (by rw [hys]), (by first | exact val_step HLT.out (by have := HNI.out; omega) | exact congrArg (Value.int .i64) (by omega)), ⟨HLT.out, by have := HK.out; omega⟩, ⟨by rw [HST.out, hys]; exact S8.out⟩⟩
    · have hk : i = ni := by have := HK.out; omega
      subst hk
      clear hlt
      have HLN := Aside0.mk (show i + 1 = (0 :: bIns input i).length by rw [List.length_cons, bIns_len])
      have HTD := Aside0.mk (show bTold f input state = (0 :: bIns input i) ++ state by unfold bTold; rw [HNI.out.1]; rfl)
      have HST := Aside0.mk (HS.out _ _ _ S.out.tail.tail.tail)
      generalize 0 :: bIns input i = ys at *
      have hys := HLN.out
      rw [hys] at S
      rw [hys]
      clear hys
      go_upto_region 7 with (first | (at_builtin; refine Parts.appendRL S.out 0 rfl flat_int flatK_int rfl (.tmp 32) (.tmp 33) 24 (.int .i64 0) 8 rfl Try.underlying24 infoInt rfl (by decide) (by decide) state sA sc rfl rfl HST.out (by have := HNI.out; have := HLN.out; have := HSL.out; have := HF.out.l; omega) ?_; intro V2 cap2 w8 h8; have S8 := Aside0.mk h8; clear h8) | fail)
      clear S c0
      obtain ⟨T0, hT0⟩ : ∃ T, ys ++ state = T := ⟨_, rfl⟩
      have hT0l : ys.length + state.length = T0.length := by rw [← hT0, List.length_append]
      have HTL := Aside0.mk (show T0.length = m by rw [← hT0l, ← HLN.out, HSL.out, HF.out.mm, HNI.out.1]; omega)
      have HTB := Aside0.mk (show ∀ x ∈ T0, LB x by
        rw [← HTD.out] at hT0
        intro x hx
        rw [← hT0] at hx
        rcases List.mem_cons.1 hx with rfl | hx
        · exact LB.zero
        · rcases List.mem_append.1 hx with hx | hx
          · obtain ⟨q, hq, rfl⟩ := List.mem_map.1 hx
            have := List.mem_range.1 hq
            have := HI.out
            have := HNI.out
            exact ⟨by omega, by omega⟩
          · exact HSB.out x hx)
      rw [hT0, hT0l] at S8
      rw [hT0l]
      rw [hT0] at HTD
      have S10 := Aside0.mk (show Parts w0.heap.size w0 w8 (rPs w0.heap.size gC inp nL bs vL vA ands ++ (kPs w0.heap.size gP gR (fcV p f) V2 T0.length cap2 T0 ++ ps)) from
        S8.out.perm (List.perm_append_comm_assoc (kPs w0.heap.size gP gR (fcV p f) V2 T0.length cap2 T0) _ _))
      have HT0 := Aside0.mk (show TOk (ands, T0) ands.length m from ⟨HO.out.g, HTB.out, Nat.le_refl _, HTL.out⟩)
      clear hT0 hT0l S8 HTB HTL HLN HST HK
      have HMB := Aside0.mk (show m + f.f2.length ≤ 10000 by have := HF.out.mm; have := HF.out.i; have := HF.out.l; have := HF.out.g; omega)
      go_wp2
      go_loopg [9, 11] f.f2.length (fun gg s9 s11 wr => ∃ (j : Nat) (vA : Option Addr × Nat) (V : Option Addr) (c : Nat) (s : List Gate × List Int), s9 = .slice V s.2.length c ∧ s11 = .int .i64 j ∧ Aside0 (j ≤ f.f2.length ∧ f.f2.length - j ≤ gg) ∧ Aside0 (bGates (inp + nL) (f.f2.take j) (ands, T0) = s) ∧ Aside0 (Parts w0.heap.size w0 wr (rPs w0.heap.size gC inp nL bs vL vA s.1 ++ (kPs w0.heap.size gP gR (fcV p f) V s.2.length c s.2 ++ ps))))
      case atStart => exact ⟨0, vA, V2, cap2, (ands, T0), rfl, rfl, ⟨by omega, by omega⟩, ⟨rfl⟩, S10⟩
      case round =>
        clear S10
        obtain ⟨j, vA, V, c, ⟨an, T⟩, rfl, rfl, HK, HE, S⟩ := hrel
        have HTK := Aside0.mk (bGates_ok HO.out.n0 HO.out.n1 HF.out HT0.out (by have := HA.out; omega) j HK.out.1)
        rw [HE.out] at HTK
        dsimp only at S ⊢
        have c2 : wr.cell? ⟨gP, 2, none⟩ = some (.slice p.A2 f.f2.length p.c2) := (S.out.cell 4 rfl 2 rfl).1
        by_cases hlt : j < f.f2.length
        · obtain ⟨ad, eA, hg0, hg1⟩ := at_gate HR.out.s2.r j hlt
          rw [eA] at c2
          have EA := Aside0.mk eA
          have HG0 := Aside0.mk hg0
          have HG1 := Aside0.mk hg1
          have HGS := Aside0.mk (HF.out.gs j hlt)
          have HST := Aside0.mk (bGates_succ hlt HE.out)
          have HLT := Aside0.mk hlt
          have hlti : (j : Int) < (f.f2.length : Int) := by omega
          generalize f.f2[j] = gt at *
          clear hlt HE eA hg0 hg1
          have HX := Aside0.mk (show LIn T gt.f0 ∧ LIn T gt.f1 by
            have h1 := HGS.out; have h2 := HTK.out.m; have h3 := HMB.out; have h4 := HLT.out
            dsimp only at h2
            exact ⟨⟨h1.1.1, by omega, by omega⟩, ⟨h1.2.1, by omega, by omega⟩⟩)
          go_wp2
          have q := (⟨c2, pw_cell_below S.out.B HG0.out, pw_cell_below S.out.B HG1.out⟩ : _ ∧ _ ∧ _)
          clear c2
          refine start_ (n := 22) (S := (fun w' : World => w'.cell? ⟨gP, 2, none⟩ = some (.slice (some ad) f.f2.length p.c2) ∧ w'.cell? (ad.add (j * 2)) = some (.int .i64 gt.f0) ∧ w'.cell? ⟨(ad.add (j * 2)).block, (ad.add (j * 2)).off + 1, none⟩ = some (.int .i64 gt.f1))) (ds := []) #[false, false, false, false, false, false, false, false, false, false, false, false, false, false, false, false, false, false, false, false, false, false] (by kernel_rfl) rfl rfl q (fun hHeld => ?_)
          clear q
          have S2 := Aside0.mk S.out.drew
          clear S
          generalize wr.drew = w2 at *
          refine pure_ (i := 0) (N := some 42) (v := ?_) (a' := ?_) #[true, false, false, false, false, false, false, false, false, false, false, false, false, false, false, false, false, false, false, false, false, false] rfl rfl (by kernel_rfl) (fun _ _ _ h => h) (Or.inl ⟨by rfl, ?_⟩) ?_ ?_
          rotate_left
          · intro w'
            go_simp
            with_reducible rfl
          rotate_left
          · simp only [Act.put, List.setIfInBounds_toArray, List.set_cons_zero, List.set_cons_succ]
            rfl
          refine pure_ (i := 1) (N := some 43) (v := ?_) (a' := ?_) #[true, true, false, false, false, false, false, false, false, false, false, false, false, false, false, false, false, false, false, false, false, false] rfl rfl (by kernel_rfl) (fun _ _ _ h => h) (Or.inl ⟨by rfl, ?_⟩) ?_ ?_
          rotate_left
          · intro w'
            go_simp
            with_reducible rfl
          rotate_left
          · simp only [Act.put, List.setIfInBounds_toArray, List.set_cons_zero, List.set_cons_succ]
            rfl
          refine pure_ (i := 2) (N := some 44) (v := ?_) (a' := ?_) #[true, true, true, false, false, false, false, false, false, false, false, false, false, false, false, false, false, false, false, false, false, false] rfl rfl (by kernel_rfl) (fun _ _ _ h => h) (Or.inl ⟨by rfl, ?_⟩) ?_ ?_
          rotate_left
          · intro w'
            go_simp
            with_reducible rfl
          rotate_left
          · simp only [Act.put, List.setIfInBounds_toArray, List.set_cons_zero, List.set_cons_succ]
            rfl
          refine pure_ (i := 3) (N := some 45) (v := ?_) (a' := ?_) #[true, true, true, true, false, false, false, false, false, false, false, false, false, false, false, false, false, false, false, false, false, false] rfl rfl (by kernel_rfl) (fun _ _ _ h => h) (Or.inl ⟨by rfl, ?_⟩) ?_ ?_
          rotate_left
          · intro w'
            go_simp
            with_reducible rfl
          rotate_left
          · simp only [Act.put, List.setIfInBounds_toArray, List.set_cons_zero, List.set_cons_succ]
            rfl
          refine take_ (i := 4) (N := some 46) (v := ?_) (a' := ?_) #[true, true, true, true, true, false, false, false, false, false, false, false, false, false, false, false, false, false, false, false, false, false] rfl rfl (by kernel_rfl) (fun _ _ _ h => h) (Or.inl ⟨by rfl, ?_⟩) hHeld ?_ ?_
          rotate_left
          · rintro w' ⟨s0, s1, s2⟩
            go_simp
            with_reducible rfl
          rotate_left
          · simp only [Act.put, List.setIfInBounds_toArray, List.set_cons_zero, List.set_cons_succ]
            rfl
          refine pure_ (i := 5) (N := some 47) (v := ?_) (a' := ?_) #[true, true, true, true, true, true, false, false, false, false, false, false, false, false, false, false, false, false, false, false, false, false] rfl rfl (by kernel_rfl) (fun _ _ _ h => h) (Or.inl ⟨by rfl, ?_⟩) ?_ ?_
          rotate_left
          · intro w'
            go_simp
            with_reducible rfl
          rotate_left
          · simp only [Act.put, List.setIfInBounds_toArray, List.set_cons_zero, List.set_cons_succ]
            rfl
          refine pure_ (i := 6) (N := some 48) (v := ?_) (a' := ?_) #[true, true, true, true, true, true, true, false, false, false, false, false, false, false, false, false, false, false, false, false, false, false] rfl rfl (by kernel_rfl) (fun _ _ _ h => h) (Or.inl ⟨by rfl, ?_⟩) ?_ ?_
          rotate_left
          · intro w'
            go_simp
            with_reducible rfl
          rotate_left
          · simp only [Act.put, List.setIfInBounds_toArray, List.set_cons_zero, List.set_cons_succ]
            rfl
          refine pure_ (i := 7) (N := some 49) (v := ?_) (a' := ?_) #[true, true, true, true, true, true, true, true, false, false, false, false, false, false, false, false, false, false, false, false, false, false] rfl rfl (by kernel_rfl) (fun _ _ _ h => h) (Or.inl ⟨by rfl, ?_⟩) ?_ ?_
          rotate_left
          · intro w'
            go_simp
            with_reducible rfl
          rotate_left
          · simp only [Act.put, List.setIfInBounds_toArray, List.set_cons_zero, List.set_cons_succ]
            rfl
          refine take_ (i := 8) (N := some 50) (v := ?_) (a' := ?_) #[true, true, true, true, true, true, true, true, true, false, false, false, false, false, false, false, false, false, false, false, false, false] rfl rfl (by kernel_rfl) (fun _ _ _ h => h) (Or.inl ⟨by rfl, ?_⟩) hHeld ?_ ?_
          rotate_left
          · rintro w' ⟨s0, s1, s2⟩
            go_simp
            with_reducible rfl
          rotate_left
          · simp only [Act.put, List.setIfInBounds_toArray, List.set_cons_zero, List.set_cons_succ]
            rfl
          refine pure_ (i := 10) (N := some 52) (v := ?_) (a' := ?_) #[true, true, true, true, true, true, true, true, true, false, true, false, false, false, false, false, false, false, false, false, false, false] rfl rfl (by kernel_rfl) (fun _ _ _ h => h) (Or.inl ⟨by rfl, ?_⟩) ?_ ?_
          rotate_left
          · intro w'
            go_simp
            with_reducible rfl
          rotate_left
          · simp only [Act.put, List.setIfInBounds_toArray, List.set_cons_zero, List.set_cons_succ]
            rfl
          refine pure_ (i := 11) (N := some 53) (v := ?_) (a' := ?_) #[true, true, true, true, true, true, true, true, true, false, true, true, false, false, false, false, false, false, false, false, false, false] rfl rfl (by kernel_rfl) (fun _ _ _ h => h) (Or.inl ⟨by rfl, ?_⟩) ?_ ?_
          rotate_left
          · intro w'
            go_simp
            with_reducible rfl
          rotate_left
          · simp only [Act.put, List.setIfInBounds_toArray, List.set_cons_zero, List.set_cons_succ]
            rfl
          refine take_ (i := 12) (N := some 54) (v := ?_) (a' := ?_) #[true, true, true, true, true, true, true, true, true, false, true, true, true, false, false, false, false, false, false, false, false, false] rfl rfl (by kernel_rfl) (fun _ _ _ h => h) (Or.inl ⟨by rfl, ?_⟩) hHeld ?_ ?_
          rotate_left
          · rintro w' ⟨s0, s1, s2⟩
            go_simp
            with_reducible rfl
          rotate_left
          · simp only [Act.put, List.setIfInBounds_toArray, List.set_cons_zero, List.set_cons_succ]
            rfl
          refine pure_ (i := 13) (N := some 55) (v := ?_) (a' := ?_) #[true, true, true, true, true, true, true, true, true, false, true, true, true, true, false, false, false, false, false, false, false, false] rfl rfl (by kernel_rfl) (fun _ _ _ h => h) (Or.inl ⟨by rfl, ?_⟩) ?_ ?_
          rotate_left
          · intro w'
            go_simp
            with_reducible rfl
          rotate_left
          · simp only [Act.put, List.setIfInBounds_toArray, List.set_cons_zero, List.set_cons_succ]
            rfl
          refine pure_ (i := 14) (N := some 56) (v := ?_) (a' := ?_) #[true, true, true, true, true, true, true, true, true, false, true, true, true, true, true, false, false, false, false, false, false, false] rfl rfl (by kernel_rfl) (fun _ _ _ h => h) (Or.inl ⟨by rfl, ?_⟩) ?_ ?_
          rotate_left
          · intro w'
            go_simp
            with_reducible rfl
          rotate_left
          · simp only [Act.put, List.setIfInBounds_toArray, List.set_cons_zero, List.set_cons_succ]
            rfl
          refine pure_ (i := 15) (N := some 57) (v := ?_) (a' := ?_) #[true, true, true, true, true, true, true, true, true, false, true, true, true, true, true, true, false, false, false, false, false, false] rfl rfl (by kernel_rfl) (fun _ _ _ h => h) (Or.inl ⟨by rfl, ?_⟩) ?_ ?_
          rotate_left
          · intro w'
            go_simp
            with_reducible rfl
          rotate_left
          · simp only [Act.put, List.setIfInBounds_toArray, List.set_cons_zero, List.set_cons_succ]
            rfl
          refine take_ (i := 16) (N := some 58) (v := ?_) (a' := ?_) #[true, true, true, true, true, true, true, true, true, false, true, true, true, true, true, true, true, false, false, false, false, false] rfl rfl (by kernel_rfl) (fun _ _ _ h => h) (Or.inl ⟨by rfl, ?_⟩) hHeld ?_ ?_
          rotate_left
          · rintro w' ⟨s0, s1, s2⟩
            go_simp
            with_reducible rfl
          rotate_left
          · simp only [Act.put, List.setIfInBounds_toArray, List.set_cons_zero, List.set_cons_succ]
            rfl
          refine one_ (i := 9) (N := some 51) #[true, true, true, true, true, true, true, true, true, true, true, true, true, true, true, true, true, false, false, false, false, false] rfl rfl (by kernel_rfl) (by decide) (fun K hK => ?_)
          refine goes_ Try.func102 (by kernel_rfl) rfl #[.slice V T.length c, .int .i64 gt.f0] (by rfl) rfl rfl (by simp only [List.map_toArray, List.map_cons, List.map_nil] <;> rfl) ?_
          refine (ref32_lit V c T gt.f0 _ (S2.out.rowF 2 rfl) HTK.out.t HX.out.1).mono ?_
          rintro e w3 ⟨rfl, hb⟩
          refine ⟨_, rfl, ?_⟩
          have S3 := Aside0.mk (S2.out.below hb)
          clear hb S2
          refine hK.out _ _ ⟨by rw [← EA.out]; exact (S3.out.cell 4 rfl 2 rfl).1, pw_cell_below S3.out.B HG0.out, pw_cell_below S3.out.B HG1.out⟩ (fun hHeld => ?_)
          clear hK K
          refine norm_ (a' := ?_) ?_ ?_
          rotate_left
          · show Act.put _ (some 51) _ = _
            simp only [Act.put, List.setIfInBounds_toArray, List.set_cons_zero, List.set_cons_succ]
            rfl
          refine one_ (i := 17) (N := some 59) #[true, true, true, true, true, true, true, true, true, true, true, true, true, true, true, true, true, true, false, false, false, false] rfl rfl (by kernel_rfl) (by decide) (fun K hK => ?_)
          refine goes_ Try.func102 (by kernel_rfl) rfl #[.slice V T.length c, .int .i64 gt.f1] (by rfl) rfl rfl (by simp only [List.map_toArray, List.map_cons, List.map_nil] <;> rfl) ?_
          refine (ref32_lit V c T gt.f1 _ (S3.out.rowF 2 rfl) HTK.out.t HX.out.2).mono ?_
          rintro e w4 ⟨rfl, hb⟩
          refine ⟨_, rfl, ?_⟩
          have S4 := Aside0.mk (S3.out.below hb)
          clear hb S3
          refine hK.out _ _ ⟨by rw [← EA.out]; exact (S4.out.cell 4 rfl 2 rfl).1, pw_cell_below S4.out.B HG0.out, pw_cell_below S4.out.B HG1.out⟩ (fun hHeld => ?_)
          clear hK K
          refine norm_ (a' := ?_) ?_ ?_
          rotate_left
          · show Act.put _ (some 59) _ = _
            simp only [Act.put, List.setIfInBounds_toArray, List.set_cons_zero, List.set_cons_succ]
            rfl
          have HLX := Aside0.mk (And.intro (bLit_ok HTK.out.t HX.out.1) (bLit_ok HTK.out.t HX.out.2))
          generalize bLit T gt.f0 = x at *
          generalize bLit T gt.f1 = y at *
          refine one_ (i := 18) (N := some 60) #[true, true, true, true, true, true, true, true, true, true, true, true, true, true, true, true, true, true, true, false, false, false] rfl rfl (by kernel_rfl) (by decide) (fun K hK => ?_)
          refine goes_ Try.func77 (by kernel_rfl) rfl #[.pointer (some ⟨gC, 0, none⟩), .int .i64 x, .int .i64 y] (by rfl) rfl rfl (by simp only [List.map_toArray, List.map_cons, List.map_nil] <;> rfl) ?_
          refine (ref26_Made S4.out ⟨HO.out.i0, HO.out.i1, HO.out.l1, by have h1 := HTK.out.n; have h2 := HA.out; have h3 := HF.out.g; have h4 := HLT.out; dsimp only at h1; omega, HTK.out.g⟩ HLX.out.1 HLX.out.2).mono ?_
          rintro e w5 ⟨vA5, rfl, h5⟩
          refine ⟨_, rfl, ?_⟩
          have S5 := Aside0.mk h5
          clear h5 S4
          refine hK.out _ _ ⟨by rw [← EA.out]; exact (S5.out.cell 4 rfl 2 rfl).1, pw_cell_below S5.out.B HG0.out, pw_cell_below S5.out.B HG1.out⟩ (fun hHeld => ?_)
          clear hK K
          refine norm_ (a' := ?_) ?_ ?_
          rotate_left
          · show Act.put _ (some 60) _ = _
            simp only [Act.put, List.setIfInBounds_toArray, List.set_cons_zero, List.set_cons_succ]
            rfl
          have HL5 := Aside0.mk ((bAnd_op HO.out.n0 HO.out.n1).n an x y)
          obtain ⟨⟨ra, rl⟩, hr5⟩ : ∃ r, bAnd (inp + nL) an x y = r := ⟨_, rfl⟩
          rw [hr5] at S5 HL5 HST
          rw [hr5]
          clear hr5
          dsimp only at S5 HL5 HST ⊢
          refine one_ (i := 19) (N := some 61) #[true, true, true, true, true, true, true, true, true, true, true, true, true, true, true, true, true, true, true, true, false, false] rfl rfl (by kernel_rfl) (by decide) (fun K hK => ?_)
          refine value_ (w1 := ?_) (v := ?_) (by rfl) rfl ?_ ?_
          rotate_left 2
          · go_simp
            constructor
            · rfl
            · rfl
          refine hK.out _ _ ⟨(World.cell?_alloc_lt _ _ _ (World.block_lt_of_cell? _ _ hHeld.1)).trans hHeld.1, (World.cell?_alloc_lt _ _ _ (World.block_lt_of_cell? _ _ hHeld.2.1)).trans hHeld.2.1, (World.cell?_alloc_lt _ _ _ (World.block_lt_of_cell? _ _ hHeld.2.2)).trans hHeld.2.2⟩ (fun hHeld => ?_)
          clear hK K
          refine norm_ (a' := ?_) ?_ ?_
          rotate_left
          · show Act.put _ (some 61) _ = _
            simp only [Act.put, List.setIfInBounds_toArray, List.set_cons_zero, List.set_cons_succ]
            rfl
          refine one_ (i := 20) (N := some 62) #[true, true, true, true, true, true, true, true, true, true, true, true, true, true, true, true, true, true, true, true, true, false] rfl rfl (by kernel_rfl) (by decide) (fun K hK => ?_)
          refine Parts.appendS S5.out 2 rfl flat_int (by rfl) (.tmp 42) (.tmp 61) 24 (.int .i64 0) 8 rfl Try.underlying24 infoInt rfl (by decide) (by decide) rl [.int .i64 rl] rfl rfl rfl (by have h1 := HTK.out.m; have h2 := HMB.out; have h3 := HLT.out; dsimp only at h1; omega) ?_
          intro V6 cap6 w6 h6
          have S6 := Aside0.mk h6
          clear h6 S5
          refine hK.out _ _ ⟨by rw [← EA.out]; exact (S6.out.cell 4 rfl 2 rfl).1, pw_cell_below S6.out.B HG0.out, pw_cell_below S6.out.B HG1.out⟩ (fun hHeld => ?_)
          clear hK K
          refine norm_ (a' := ?_) ?_ ?_
          rotate_left
          · show Act.put _ (some 62) _ = _
            simp only [Act.put, List.setIfInBounds_toArray, List.set_cons_zero, List.set_cons_succ]
            rfl
          refine pure_ (i := 21) (N := some 9) (v := ?_) (a' := ?_) #[true, true, true, true, true, true, true, true, true, true, true, true, true, true, true, true, true, true, true, true, true, true] rfl rfl (by kernel_rfl) (fun _ _ _ h => h) (Or.inl ⟨by rfl, ?_⟩) ?_ ?_
          rotate_left
          · intro w'
            go_simp
            with_reducible rfl
          rotate_left
          · simp only [Act.put, List.setIfInBounds_toArray, List.set_cons_zero, List.set_cons_succ]
            rfl
          refine done_ (by kernel_rfl) ?_
          clear hHeld
          have S8 := Aside0.mk (show Parts w0.heap.size w0 w6 (rPs w0.heap.size gC inp nL bs vL vA5 ra ++ (kPs w0.heap.size gP gR (fcV p f) V6 (T ++ [rl]).length cap6 (T ++ [rl]) ++ ps)) from by
            rw [show (T ++ [rl]).length = T.length + 1 by simp]
            exact S6.out)
          clear S6
          go_wp2
          go_roundg (f.f2.length - (j + 1))
          case measure => have := HK.out; have := HLT.out; omega
          case rel => exact ⟨j + 1, vA5, V6, cap6, (ra, T ++ [rl]), (by simp), (by first | exact val_step HLT.out (by have := HF.out.g; omega) | exact congrArg (Value.int .i64) (by omega)), ⟨HLT.out, by have := HK.out; omega⟩, HST, S8⟩
        · have hk : j = f.f2.length := by have := HK.out; omega
          subst hk
          rw [List.take_length] at HE
          clear hlt
          go_upto_region 12 with (fail)
          have S1 := Aside0.mk (show Parts w0.heap.size w0 (wr.alloc (.cells #[.slice none 0 0, .int .i64 0, .int .i64 0] 123)) (rPs w0.heap.size gC inp nL bs vL vA an ++ (qPs w0.heap.size wr.heap.size none 0 0 [] gP gR (fcV p f) V T.length c T ++ ps)) from
            (((S.out.nil (Kd.int .i64) 3).behind (qs := rPs w0.heap.size gC inp nL bs vL vA an)).new 123 #[.slice none 0 0, .int .i64 0, .int .i64 0]).behind (qs := rPs w0.heap.size gC inp nL bs vL vA an))
          generalize wr.heap.size = gF at *
          generalize wr.alloc (.cells #[.slice none 0 0, .int .i64 0, .int .i64 0] 123) = w1 at *
          clear S HK c2
          go_wp2
          go_loopg [13] f.f1.length (fun gg s13 wr => ∃ (j : Nat) (Vn : Option Addr) (cn : Nat) (N : List Int), s13 = .int .i64 j ∧ Aside0 (j ≤ f.f1.length ∧ f.f1.length - j ≤ gg) ∧ Aside0 (N = (f.f1.take j).map (fun l => bLit T l.f0)) ∧ Aside0 (Parts w0.heap.size w0 wr (rPs w0.heap.size gC inp nL bs vL vA an ++ (qPs w0.heap.size gF Vn N.length cn N gP gR (fcV p f) V T.length c T ++ ps))))
          case atStart => exact ⟨0, none, 0, [], rfl, ⟨by omega, by omega⟩, ⟨rfl⟩, S1⟩
          case round =>
            clear S1
            obtain ⟨j, Vn, cn, N, rfl, HK, HN, S⟩ := hrel
            have c1 : wr.cell? ⟨gP, 1, none⟩ = some (.slice p.A1 f.f1.length p.c1) := (S.out.cell 6 rfl 1 rfl).1
            by_cases hlt : j < f.f1.length
            · obtain ⟨ad, eA, hg0, _⟩ := at_latch HR.out.s1.r j hlt
              rw [eA] at c1
              have EA := Aside0.mk eA
              have HG0 := Aside0.mk hg0
              have HLS := Aside0.mk (HF.out.ls f.f1[j] (by simp))
              have HST := Aside0.mk (show (f.f1.take (j + 1)).map (fun l => bLit T l.f0) = N ++ [bLit T (f.f1[j]).f0] by rw [List.take_add_one, List.getElem?_eq_getElem hlt, List.map_append, ← HN.out]; rfl)
              have HLT := Aside0.mk hlt
              have HNL := Aside0.mk (show N.length = j by rw [HN.out, List.length_map, List.length_take]; omega)
              have hlti : (j : Int) < (f.f1.length : Int) := by omega
              generalize f.f1[j] = lt at *
              clear hlt HN eA hg0
              have HX := Aside0.mk (show LIn T lt.f0 by
                have h1 := HLS.out; have h2 := HTK.out.m; have h3 := HF.out.mm; have h4 := HF.out.i; have h5 := HF.out.l; have h6 := HF.out.g
                dsimp only at h2
                exact ⟨h1.1, by omega, by omega⟩)
              go_wp2
              have q := (⟨(S.out.cell 2 rfl 0 rfl).1, c1, pw_cell_below S.out.B HG0.out⟩ : _ ∧ _ ∧ _)
              clear c1
              refine start_ (n := 14) (S := (fun w' : World => w'.cell? ⟨gF, 0, none⟩ = some (.slice Vn N.length cn) ∧ w'.cell? ⟨gP, 1, none⟩ = some (.slice (some ad) f.f1.length p.c1) ∧ w'.cell? (ad.add (j * 2)) = some (.int .i64 lt.f0))) (ds := [13]) #[false, false, false, false, false, false, false, false, false, false, false, false, false, false] (by kernel_rfl) rfl rfl q (fun hHeld => ?_)
              clear q
              have S2 := Aside0.mk S.out.drew
              clear S
              generalize wr.drew = w2 at *
              refine pure_ (i := 0) (N := some 70) (v := ?_) (a' := ?_) #[true, false, false, false, false, false, false, false, false, false, false, false, false, false] rfl rfl (by kernel_rfl) (fun _ _ _ h => h) (Or.inl ⟨by rfl, ?_⟩) ?_ ?_
              rotate_left
              · intro w'
                go_simp
                with_reducible rfl
              rotate_left
              · simp only [Act.put, List.setIfInBounds_toArray, List.set_cons_zero, List.set_cons_succ]
                rfl
              refine take_ (i := 1) (N := some 71) (v := ?_) (a' := ?_) #[true, true, false, false, false, false, false, false, false, false, false, false, false, false] rfl rfl (by kernel_rfl) (fun _ _ _ h => h) (Or.inl ⟨by rfl, ?_⟩) hHeld ?_ ?_
              rotate_left
              · rintro w' ⟨s0, s1, s2⟩
                go_simp
                with_reducible rfl
              rotate_left
              · simp only [Act.put, List.setIfInBounds_toArray, List.set_cons_zero, List.set_cons_succ]
                rfl
              refine pure_ (i := 2) (N := some 72) (v := ?_) (a' := ?_) #[true, true, true, false, false, false, false, false, false, false, false, false, false, false] rfl rfl (by kernel_rfl) (fun _ _ _ h => h) (Or.inl ⟨by rfl, ?_⟩) ?_ ?_
              rotate_left
              · intro w'
                go_simp
                with_reducible rfl
              rotate_left
              · simp only [Act.put, List.setIfInBounds_toArray, List.set_cons_zero, List.set_cons_succ]
                rfl
              refine pure_ (i := 3) (N := some 73) (v := ?_) (a' := ?_) #[true, true, true, true, false, false, false, false, false, false, false, false, false, false] rfl rfl (by kernel_rfl) (fun _ _ _ h => h) (Or.inl ⟨by rfl, ?_⟩) ?_ ?_
              rotate_left
              · intro w'
                go_simp
                with_reducible rfl
              rotate_left
              · simp only [Act.put, List.setIfInBounds_toArray, List.set_cons_zero, List.set_cons_succ]
                rfl
              refine take_ (i := 4) (N := some 74) (v := ?_) (a' := ?_) #[true, true, true, true, true, false, false, false, false, false, false, false, false, false] rfl rfl (by kernel_rfl) (fun _ _ _ h => h) (Or.inl ⟨by rfl, ?_⟩) hHeld ?_ ?_
              rotate_left
              · rintro w' ⟨s0, s1, s2⟩
                go_simp
                with_reducible rfl
              rotate_left
              · simp only [Act.put, List.setIfInBounds_toArray, List.set_cons_zero, List.set_cons_succ]
                rfl
              refine pure_ (i := 5) (N := some 75) (v := ?_) (a' := ?_) #[true, true, true, true, true, true, false, false, false, false, false, false, false, false] rfl rfl (by kernel_rfl) (fun _ _ _ h => h) (Or.inl ⟨by rfl, ?_⟩) ?_ ?_
              rotate_left
              · intro w'
                go_simp
                with_reducible rfl
              rotate_left
              · simp only [Act.put, List.setIfInBounds_toArray, List.set_cons_zero, List.set_cons_succ]
                rfl
              refine pure_ (i := 6) (N := some 76) (v := ?_) (a' := ?_) #[true, true, true, true, true, true, true, false, false, false, false, false, false, false] rfl rfl (by kernel_rfl) (fun _ _ _ h => h) (Or.inl ⟨by rfl, ?_⟩) ?_ ?_
              rotate_left
              · intro w'
                go_simp
                with_reducible rfl
              rotate_left
              · simp only [Act.put, List.setIfInBounds_toArray, List.set_cons_zero, List.set_cons_succ]
                rfl
              refine pure_ (i := 7) (N := some 77) (v := ?_) (a' := ?_) #[true, true, true, true, true, true, true, true, false, false, false, false, false, false] rfl rfl (by kernel_rfl) (fun _ _ _ h => h) (Or.inl ⟨by rfl, ?_⟩) ?_ ?_
              rotate_left
              · intro w'
                go_simp
                with_reducible rfl
              rotate_left
              · simp only [Act.put, List.setIfInBounds_toArray, List.set_cons_zero, List.set_cons_succ]
                rfl
              refine take_ (i := 8) (N := some 78) (v := ?_) (a' := ?_) #[true, true, true, true, true, true, true, true, true, false, false, false, false, false] rfl rfl (by kernel_rfl) (fun _ _ _ h => h) (Or.inl ⟨by rfl, ?_⟩) hHeld ?_ ?_
              rotate_left
              · rintro w' ⟨s0, s1, s2⟩
                go_simp
                with_reducible rfl
              rotate_left
              · simp only [Act.put, List.setIfInBounds_toArray, List.set_cons_zero, List.set_cons_succ]
                rfl
              refine one_ (i := 9) (N := some 79) #[true, true, true, true, true, true, true, true, true, true, false, false, false, false] rfl rfl (by kernel_rfl) (by decide) (fun K hK => ?_)
              refine goes_ Try.func102 (by kernel_rfl) rfl #[.slice V T.length c, .int .i64 lt.f0] (by rfl) rfl rfl (by simp only [List.map_toArray, List.map_cons, List.map_nil] <;> rfl) ?_
              refine (ref32_lit V c T lt.f0 _ (S2.out.rowF 4 rfl) HTK.out.t HX.out).mono ?_
              rintro e w3 ⟨rfl, hb⟩
              refine ⟨_, rfl, ?_⟩
              have S3 := Aside0.mk (S2.out.below hb)
              clear hb S2
              refine hK.out _ _ ⟨(S3.out.cell 2 rfl 0 rfl).1, by rw [← EA.out]; exact (S3.out.cell 6 rfl 1 rfl).1, pw_cell_below S3.out.B HG0.out⟩ (fun hHeld => ?_)
              clear hK K
              refine norm_ (a' := ?_) ?_ ?_
              rotate_left
              · show Act.put _ (some 79) _ = _
                simp only [Act.put, List.setIfInBounds_toArray, List.set_cons_zero, List.set_cons_succ]
                rfl
              generalize bLit T lt.f0 = x at *
              refine one_ (i := 10) (N := some 80) #[true, true, true, true, true, true, true, true, true, true, true, false, false, false] rfl rfl (by kernel_rfl) (by decide) (fun K hK => ?_)
              refine value_ (w1 := ?_) (v := ?_) (by rfl) rfl ?_ ?_
              rotate_left 2
              · go_simp
                constructor
                · rfl
                · rfl
              refine hK.out _ _ ⟨(World.cell?_alloc_lt _ _ _ (World.block_lt_of_cell? _ _ hHeld.1)).trans hHeld.1, (World.cell?_alloc_lt _ _ _ (World.block_lt_of_cell? _ _ hHeld.2.1)).trans hHeld.2.1, (World.cell?_alloc_lt _ _ _ (World.block_lt_of_cell? _ _ hHeld.2.2)).trans hHeld.2.2⟩ (fun hHeld => ?_)
              clear hK K
              refine norm_ (a' := ?_) ?_ ?_
              rotate_left
              · show Act.put _ (some 80) _ = _
                simp only [Act.put, List.setIfInBounds_toArray, List.set_cons_zero, List.set_cons_succ]
                rfl
              refine one_ (i := 11) (N := some 81) #[true, true, true, true, true, true, true, true, true, true, true, true, false, false] rfl rfl (by kernel_rfl) (by decide) (fun K hK => ?_)
              refine Parts.appendS S3.out 3 rfl flat_int (by rfl) (.tmp 71) (.tmp 80) 24 (.int .i64 0) 8 rfl Try.underlying24 infoInt rfl (by decide) (by decide) x [.int .i64 x] rfl rfl rfl (by have h1 := HNL.out; have h3 := HLT.out; have h5 := HF.out.l; omega) ?_
              intro V6 cap6 w6 h6
              have S6 := Aside0.mk h6
              clear h6 S3
              refine hK.out _ _ ⟨(S6.out.cell 2 rfl 0 rfl).1, by rw [← EA.out]; exact (S6.out.cell 6 rfl 1 rfl).1, pw_cell_below S6.out.B HG0.out⟩ (fun hHeld => ?_)
              clear hK K
              refine norm_ (a' := ?_) ?_ ?_
              rotate_left
              · show Act.put _ (some 81) _ = _
                simp only [Act.put, List.setIfInBounds_toArray, List.set_cons_zero, List.set_cons_succ]
                rfl
              obtain ⟨c0, f0⟩ := S6.out.cell 2 rfl 0 rfl
              refine pure_ (i := 12) (N := some 82) (v := ?_) (a' := ?_) #[true, true, true, true, true, true, true, true, true, true, true, true, true, false] rfl rfl (by kernel_rfl) (fun _ _ _ h => h) (Or.inl ⟨by rfl, ?_⟩) ?_ ?_
              rotate_left
              · intro w'
                go_simp
                with_reducible rfl
              rotate_left
              · simp only [Act.put, List.setIfInBounds_toArray, List.set_cons_zero, List.set_cons_succ]
                rfl
              refine last_ (i := 13) (N := none) #[true, true, true, true, true, true, true, true, true, true, true, true, true, true] rfl rfl (by kernel_rfl) (by decide) (fun K hK => ?_)
              refine skip_ (w1 := ?_) (by rfl) rfl ?_ ?_
              rotate_left
              · go_simp
                rfl
              refine hK.out _ _ ?_
              clear hK K
              refine done_ (by kernel_rfl) ?_
              have S7 := Aside0.mk (S6.out.put 2 rfl 0 (.slice V6 (N.length + 1) cap6) rfl)
              clear S6 c0 f0
              have S8 := Aside0.mk (show Parts w0.heap.size w0 (w6.setCell ⟨gF, 0, none⟩ (.slice V6 (N.length + 1) cap6)) (rPs w0.heap.size gC inp nL bs vL vA an ++ (qPs w0.heap.size gF V6 (N ++ [x]).length cap6 (N ++ [x]) gP gR (fcV p f) V T.length c T ++ ps)) from by
                rw [show (N ++ [x]).length = N.length + 1 by simp]
                exact S7.out)
              clear S7
              go_wp2
              go_roundg (f.f1.length - (j + 1))
              case measure => have := HK.out; have := HLT.out; omega
              case rel => exact ⟨j + 1, V6, cap6, N ++ [x], (by first | exact val_step HLT.out (by have := HF.out.l; omega) | exact congrArg (Value.int .i64) (by omega)), ⟨HLT.out, by have := HK.out; omega⟩, ⟨HST.out.symm⟩, S8⟩
            · have hk : j = f.f1.length := by have := HK.out; omega
              subst hk
              rw [List.take_length] at HN
              clear hlt
              have HNL := Aside0.mk (show N.length = f.f1.length by rw [HN.out, List.length_map])
              have HBS := Aside0.mk (show (∀ x ∈ f.f3, LIn T x) ∧ ∀ x ∈ f.f4, LIn T x by
                have h2 := HTK.out.m; have h3 := HF.out.mm; have h4 := HF.out.i; have h5 := HF.out.l; have h6 := HF.out.g
                dsimp only at h2
                constructor <;> intro x hx
                · have h1 := HF.out.bs x hx; exact ⟨h1.1, by omega, by omega⟩
                · have h1 := HF.out.cs x hx; exact ⟨h1.1, by omega, by omega⟩)
              have HAN := Aside0.mk (show an.length ≤ 81000 by have h1 := HTK.out.n; have h2 := HA.out; have h3 := HF.out.g; dsimp only at h1; omega)
              have HLA := Aside0.mk (show (∀ x ∈ f.f3.map (bLit T), LB x) ∧ ∀ x ∈ f.f4.map (bLit T), LB x by
                constructor <;> intro x hx <;> obtain ⟨y, hy, rfl⟩ := List.mem_map.1 hx
                · exact bLit_ok HTK.out.t (HBS.out.1 y hy)
                · exact bLit_ok HTK.out.t (HBS.out.2 y hy))
              have HFR := Aside0.mk (show R = ⟨(bAll (inp + nL) (bAny (inp + nL) an (f.f3.map (bLit T))).1 (f.f4.map (bLit T))).1, N, (bAny (inp + nL) an (f.f3.map (bLit T))).2, (bAll (inp + nL) (bAny (inp + nL) an (f.f3.map (bLit T))).1 (f.f4.map (bLit T))).2⟩ by
                rw [← HRR.out, HN.out]; unfold bFrame; rw [HTD.out, HE.out])
              clear HRR HN HTD HE HS HSL HSB HI HNI HT0 HK HNJ
              have S3 := Aside0.mk (((S.out.nil (Kd.int .i64) 3).behind (qs := rPs w0.heap.size gC inp nL bs vL vA an)))
              clear S
              go_wp2
              clear c1
              go_loopg [14, 16] f.f3.length (fun gg sr si wr => ∃ (j : Nat) (Vb : Option Addr) (cb : Nat) (B : List Int), sr = .slice Vb B.length cb ∧ si = .int .i64 j ∧ Aside0 (j ≤ f.f3.length ∧ f.f3.length - j ≤ gg) ∧ Aside0 (B = (f.f3.take j).map (bLit T)) ∧ Aside0 (Parts w0.heap.size w0 wr (rPs w0.heap.size gC inp nL bs vL vA an ++ pF w0.heap.size (Kd.int .i64) 3 (.slice Vb B.length cb) B :: (qPs w0.heap.size gF Vn N.length cn N gP gR (fcV p f) V T.length c T ++ ps))))
              case atStart => exact ⟨0, none, 0, [], rfl, rfl, ⟨by omega, by omega⟩, ⟨rfl⟩, S3⟩
              case round =>
                clear S3
                obtain ⟨j, Vb, cb, B, rfl, rfl, HK, HB, S⟩ := hrel
                have c3 : wr.cell? ⟨gP, 3, none⟩ = some (.slice p.A3 f.f3.length p.c3) := (S.out.cell 7 rfl 3 rfl).1
                by_cases hlt : j < f.f3.length
                · obtain ⟨ad, eA, hg0⟩ := at_int (HR.out.s3.below S.out.B).r j hlt
                  rw [eA] at c3
                  have HXX := Aside0.mk (HBS.out.1 _ (List.getElem_mem hlt))
                  have HST := Aside0.mk (show (f.f3.take (j + 1)).map (bLit T) = B ++ [bLit T f.f3[j]] by rw [List.take_add_one, List.getElem?_eq_getElem hlt, List.map_append, ← HB.out]; rfl)
                  have HLT := Aside0.mk hlt
                  have HNB := Aside0.mk (show B.length = j by rw [HB.out, List.length_map, List.length_take]; omega)
                  have hlti : (j : Int) < (f.f3.length : Int) := by omega
                  generalize f.f3[j] = lt at *
                  clear hlt HB eA
                  go_wp2_with fail
                  refine (ref32_lit V c T lt _ (S.out.rowF 5 rfl) HTK.out.t HXX.out).mono ?_
                  rintro e w2 ⟨rfl, hb⟩
                  have S2 := Aside0.mk (S.out.below hb)
                  clear hb S c3 hg0
                  generalize bLit T lt = x at *
                  go_wp2_with (first | (at_builtin; refine Parts.appendL S2.out 2 rfl flat_int rfl (.tmp 90) (.tmp 98) 24 (.int .i64 0) 8 rfl Try.underlying24 infoInt rfl (by decide) (by decide) x [.int .i64 x] rfl rfl rfl (by have := HNB.out; have := HLT.out; have := HF.out.b; omega) ?_; intro V8 cap8 w8 h8; have S8 := Aside0.mk h8; clear h8))
                  have S9 := Aside0.mk (show Parts w0.heap.size w0 w8 (rPs w0.heap.size gC inp nL bs vL vA an ++ pF w0.heap.size (Kd.int .i64) 3 (.slice V8 (B ++ [x]).length cap8) (B ++ [x]) :: (qPs w0.heap.size gF Vn N.length cn N gP gR (fcV p f) V T.length c T ++ ps)) from by
                    rw [show (B ++ [x]).length = B.length + 1 by simp]
                    exact S8.out)
                  go_roundg (f.f3.length - (j + 1))
                  case measure => have := HK.out; have := HLT.out; omega
                  case rel => exact ⟨j + 1, V8, cap8, B ++ [x], (by simp), (by first | exact val_step HLT.out (by have := HF.out.b; omega) | exact congrArg (Value.int .i64) (by omega)), ⟨HLT.out, by have := HK.out; omega⟩, ⟨HST.out.symm⟩, S9⟩
                · have hk : j = f.f3.length := by have := HK.out; omega
                  subst hk
                  rw [List.take_length] at HB
                  clear hlt
                  obtain ⟨V3, hV3⟩ : ∃ V, Vb = V := ⟨_, rfl⟩
                  obtain ⟨k3, hc3⟩ : ∃ V, cb = V := ⟨_, rfl⟩
                  obtain ⟨B3, hB3⟩ : ∃ V, B = V := ⟨_, rfl⟩
                  rw [hV3, hc3, hB3] at S
                  rw [hV3, hc3, hB3]
                  have HB3 := Aside0.mk (And.intro (hB3.symm.trans HB.out) (show B3.length = f.f3.length by rw [← hB3, HB.out, List.length_map]))
                  have hB4 : B3 = f.f3.map (bLit T) := HB3.out.1
                  rw [← hB4] at HLA HFR
                  clear hV3 hc3 hB3 hB4 HB Vb cb B
                  have S3 := Aside0.mk ((S.out.nil (Kd.int .i64) 3).behind (qs := rPs w0.heap.size gC inp nL bs vL vA an))
                  clear S HK
                  go_wp2
                  clear c3
                  go_loopg [15, 17] f.f4.length (fun gg sr si wr => ∃ (j : Nat) (Vb : Option Addr) (cb : Nat) (B : List Int), sr = .slice Vb B.length cb ∧ si = .int .i64 j ∧ Aside0 (j ≤ f.f4.length ∧ f.f4.length - j ≤ gg) ∧ Aside0 (B = (f.f4.take j).map (bLit T)) ∧ Aside0 (Parts w0.heap.size w0 wr (rPs w0.heap.size gC inp nL bs vL vA an ++ pF w0.heap.size (Kd.int .i64) 3 (.slice Vb B.length cb) B :: pF w0.heap.size (Kd.int .i64) 3 (.slice V3 B3.length k3) B3 :: (qPs w0.heap.size gF Vn N.length cn N gP gR (fcV p f) V T.length c T ++ ps))))
                  case atStart => exact ⟨0, none, 0, [], rfl, rfl, ⟨by omega, by omega⟩, ⟨rfl⟩, S3⟩
                  case round =>
                    clear S3
                    obtain ⟨j, Vb, cb, B, rfl, rfl, HK, HB, S⟩ := hrel
                    have c3 : wr.cell? ⟨gP, 4, none⟩ = some (.slice p.A4 f.f4.length p.c4) := (S.out.cell 8 rfl 4 rfl).1
                    by_cases hlt : j < f.f4.length
                    · obtain ⟨ad, eA, hg0⟩ := at_int (HR.out.s4.below S.out.B).r j hlt
                      rw [eA] at c3
                      have HXX := Aside0.mk (HBS.out.2 _ (List.getElem_mem hlt))
                      have HST := Aside0.mk (show (f.f4.take (j + 1)).map (bLit T) = B ++ [bLit T f.f4[j]] by rw [List.take_add_one, List.getElem?_eq_getElem hlt, List.map_append, ← HB.out]; rfl)
                      have HLT := Aside0.mk hlt
                      have HNB := Aside0.mk (show B.length = j by rw [HB.out, List.length_map, List.length_take]; omega)
                      have hlti : (j : Int) < (f.f4.length : Int) := by omega
                      generalize f.f4[j] = lt at *
                      clear hlt HB eA
                      go_wp2_with fail
                      refine (ref32_lit V c T lt _ (S.out.rowF 6 rfl) HTK.out.t HXX.out).mono ?_
                      rintro e w2 ⟨rfl, hb⟩
                      have S2 := Aside0.mk (S.out.below hb)
                      clear hb S c3 hg0
                      generalize bLit T lt = x at *
                      go_wp2_with (first | (at_builtin; refine Parts.appendL S2.out 2 rfl flat_int rfl (.tmp 107) (.tmp 115) 24 (.int .i64 0) 8 rfl Try.underlying24 infoInt rfl (by decide) (by decide) x [.int .i64 x] rfl rfl rfl (by have := HNB.out; have := HLT.out; have := HF.out.c; omega) ?_; intro V8 cap8 w8 h8; have S8 := Aside0.mk h8; clear h8))
                      have S9 := Aside0.mk (show Parts w0.heap.size w0 w8 (rPs w0.heap.size gC inp nL bs vL vA an ++ pF w0.heap.size (Kd.int .i64) 3 (.slice V8 (B ++ [x]).length cap8) (B ++ [x]) :: pF w0.heap.size (Kd.int .i64) 3 (.slice V3 B3.length k3) B3 :: (qPs w0.heap.size gF Vn N.length cn N gP gR (fcV p f) V T.length c T ++ ps)) from by
                        rw [show (B ++ [x]).length = B.length + 1 by simp]
                        exact S8.out)
                      go_roundg (f.f4.length - (j + 1))
                      case measure => have := HK.out; have := HLT.out; omega
                      case rel => exact ⟨j + 1, V8, cap8, B ++ [x], (by simp), (by first | exact val_step HLT.out (by have := HF.out.c; omega) | exact congrArg (Value.int .i64) (by omega)), ⟨HLT.out, by have := HK.out; omega⟩, ⟨HST.out.symm⟩, S9⟩
                    · have hk : j = f.f4.length := by have := HK.out; omega
                      subst hk
                      rw [List.take_length] at HB
                      clear hlt
                      have hB4 : B = f.f4.map (bLit T) := HB.out
                      rw [← hB4] at HLA HFR
                      have HL3 := Aside0.mk (show B3.length ≤ 1000 ∧ B.length ≤ 1000 by rw [HB3.out.2, HB.out, List.length_map]; exact ⟨HF.out.b, HF.out.c⟩)
                      clear hB4 HB
                      go_wp2_with fail
                      refine (ref32_Any S.out ⟨HO.out.i0, HO.out.i1, HO.out.l1, by have := HAN.out; omega, HTK.out.g⟩ (fun W vA ands h => h.rowF 3 rfl) (by have := HAN.out; have := HL3.out; omega) HLA.out.1).mono ?_
                      rintro e w3 ⟨vA3, rfl, h3⟩
                      have S3 := Aside0.mk h3
                      have HC3 := Aside0.mk ((bOr_op HO.out.n0 HO.out.n1).chain (none := 0) (ands := an) (l := B3) (by have := HAN.out; have := HL3.out; omega) LB.zero HLA.out.1 HTK.out.g)
                      rw [show bChain (bOr (inp + nL)) 0 an B3 = bAny (inp + nL) an B3 from rfl] at HC3
                      clear h3 S
                      generalize bAny (inp + nL) an B3 = r3 at *
                      obtain ⟨a3, l3⟩ := r3
                      dsimp only at HC3 S3 HFR ⊢
                      obtain ⟨cF, fF⟩ := S3.out.cell 4 rfl 1 rfl
                      go_upto_region 26 with (fail)
                      have S4 := Aside0.mk (S3.out.put 4 rfl 1 (.int .i64 l3) rfl)
                      clear S3 cF fF
                      generalize w3.setCell ⟨gF, 1, none⟩ (.int .i64 l3) = w4 at *
                      go_wp2_with fail
                      refine (ref32_All S4.out ⟨HO.out.i0, HO.out.i1, HO.out.l1, by have := HAN.out; have := HL3.out; have := HC3.out.2.2; omega, HC3.out.2.1⟩ (fun W vA ands h => h.rowF 2 rfl) (by have := HAN.out; have := HL3.out; have := HC3.out.2.2; omega) HLA.out.2).mono ?_
                      rintro e w6 ⟨vA6, rfl, h6⟩
                      have S6 := Aside0.mk h6
                      clear h6 S4
                      generalize bAll (inp + nL) a3 B = r6 at *
                      obtain ⟨a6, l6⟩ := r6
                      dsimp only at S6 HFR ⊢
                      obtain ⟨cF, fF⟩ := S6.out.cell 4 rfl 2 rfl
                      go_upto_region 27 with (fail)
                      have S7 := Aside0.mk (S6.out.put 4 rfl 2 (.int .i64 l6) rfl)
                      clear S6 cF fF
                      generalize w6.setCell ⟨gF, 2, none⟩ (.int .i64 l6) = w7 at *
                      obtain ⟨cF0, _⟩ := S7.out.cell 4 rfl 0 rfl
                      obtain ⟨cF1, _⟩ := S7.out.cell 4 rfl 1 rfl
                      obtain ⟨cF2, _⟩ := S7.out.cell 4 rfl 2 rfl
                      obtain ⟨_, fR0⟩ := S7.out.cell 7 rfl 0 rfl
                      obtain ⟨_, fR1⟩ := S7.out.cell 7 rfl 1 rfl
                      obtain ⟨_, fR2⟩ := S7.out.cell 7 rfl 2 rfl
                      go_wp2
                      have S8 := ((S7.out.put 7 rfl 0 (.slice Vn N.length cn) rfl).put 7 rfl 1 (.int .i64 l3) rfl).put 7 rfl 2 (.int .i64 l6) rfl
                      refine bodyPost_ret (results_cell_row rfl _ _ gR 123 #[.slice Vn N.length cn, .int .i64 l3, .int .i64 l6] (0, 0) _ rfl (S8.blk 7 rfl) hu127 rfl (by kernel_rfl)) rfl ?_
                      rw [HFR.out]
                      refine ⟨vA6, Vn, cn, by rw [HNL.out], ?_⟩
                      rw [← HNL.out]
                      exact (((((S8.erase 8).erase 7).erase 6).erase 4).erase 3).erase 2
end Go.Proofs.Ytpoadkogcdfglaa.PH
