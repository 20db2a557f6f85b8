/- The builder's frame, walked. -/
import Derived.Test.YtpoadkogcdfglaaHBldG
import Derived.Test.YtpoadkogcdfglaaHRowS
import Derived.Test.YtpoadkogcdfglaaHGoesV
import Derived.Deep.RegionHeld3
import Derived.Deep.QuietTactic
import Derived.BigQuiet
namespace Go.Proofs.Ytpoadkogcdfglaa.PH
open Go.RowKit Go.Proofs.YtpoadkogcdfglaaW.PrintWords Go.Proofs.YtpoadkogcdfglaaW.PrintLast
set_option linter.unusedVariables false
set_option linter.unusedSimpArgs false
attribute [local go_sem] max_pair min_pair

@[reducible] def fcOf (p : CP) (f : Circ) : Array Value := #[.int .i64 f.f0, .slice p.A1 f.f1.length p.c1, .slice p.A2 f.f2.length p.c2, .slice p.A3 f.f3.length p.c3, .slice p.A4 f.f4.length p.c4, .slice none 0 0, .slice none 0 0]
theorem R_zeroB (W : World) (base t : Nat) (hb : base ≤ W.heap.size) : Kd.R (Kd.int .i64) t (W.alloc (.cells #[.int .i64 0] t)) base (fun _ => True) (.slice (some ⟨W.heap.size, 0, none⟩) 1 1) [0] :=
  ⟨fun _ _ => trivial, [.int .i64 0], (by have h := World.ownsRow_lit (base := base) (e := t) (size := 1) W #[.int .i64 0] 1 hb (by decide) rfl; simpa using h : (W.alloc (.cells #[.int .i64 0] t)).ownsRow base t 1 (.slice (some ⟨W.heap.size, 0, none⟩) 1 1) 1 [.int .i64 0]), Kd.reps_scalar (enc := Value.int .i64) [0]⟩
/-- A frame's memory ahead of its closures: the row that tells, its cell, the result's cell. -/
@[reducible] def fPs (b gT gR : Nat) (V : Option Addr) (n c : Nat) (T : List Int) : List Pc :=
  [pB gT 24 #[.slice V n c], pF b (Kd.int .i64) 3 (.slice V n c) T, pB gR 82 #[.slice none 0 0, .int .i64 0, .int .i64 0]]
/-- With the closure's cell. -/
@[reducible] def gPs (b gO gT gR : Nat) (V : Option Addr) (n c : Nat) (T : List Int) : List Pc :=
  pB gO 112 #[.func (.func 73) #[] #[.pointer (some ⟨gT, 0, none⟩)]] :: fPs b gT gR V n c T
/-- With the frame's own block and its row of nexts. -/
@[reducible] def hPs (b gF : Nat) (Vn : Option Addr) (nn cn : Nat) (N : List Int) (bad : Int) (gO gT gR : Nat) (V : Option Addr) (n c : Nat) (T : List Int) : List Pc :=
  pB gF 82 #[.slice Vn nn cn, .int .i64 bad, .int .i64 0] :: pF b (Kd.int .i64) 3 (.slice Vn nn cn) N :: gPs b gO gT gR V n c T
set_option maxHeartbeats 4000000 in
set_option maxRecDepth 100000 in
theorem b_frame {gB gM : Nat} {inp : Int} {nL : Nat} {vL vA : Option Addr × Nat} {ands : List Gate} {ps : List Pc} {w0 w : World} {p : CP} {f : Circ} {m : Nat} (S : Parts w0.heap.size w0 w (bPs w0.heap.size gB gM inp nL (fcOf p f) vL vA ands ++ ps)) (hO : BOk inp nL ands) (ha : ands.length ≤ 80000) (hf : FIn f m) (hR : RC w0 p f)
    {input : Int} (hi : 0 ≤ input ∧ input ≤ 10000) {sA : Option Addr} {sc : Nat} {state : List Int} (hs : ∀ W vA ands, Parts w0.heap.size w0 W (bPs w0.heap.size gB gM inp nL (fcOf p f) vL vA ands ++ ps) → RS (Kd.int .i64) W sA sc state) (hsl : state.length = f.f1.length) (hsb : ∀ x ∈ state, LB x) :
    Calls Try.prog 37 #[.pointer (some ⟨gB, 0, none⟩), .int .i64 input, .slice sA state.length sc] w fun e w' => ∃ vA V c, e = .returned (.agg #[.slice V f.f1.length c, .int .i64 (bFrame (inp + nL) f ands input state).bad, .int .i64 (bFrame (inp + nL) f ands input state).right]) ∧
      Parts w0.heap.size w0 w' (bPs w0.heap.size gB gM inp nL (fcOf p f) vL vA (bFrame (inp + nL) f ands input state).ands ++ pF w0.heap.size (Kd.int .i64) 3 (.slice V f.f1.length c) (bFrame (inp + nL) f ands input state).nexts :: ps) := by
  replace S := Aside0.mk S
  have HO := Aside0.mk hO
  have HA := Aside0.mk ha
  have HF := Aside0.mk hf
  have HR := Aside0.mk hR
  have HI := Aside0.mk hi
  have HS := Aside0.mk hs
  have HSL := Aside0.mk hsl
  have HSB := Aside0.mk hsb
  have hu82 := Try.underlying78
  have hu26 := Try.underlying26
  have hu45 := Try.underlying92
  have hu79 := Try.underlying45
  have hu85 := Try.underlying82
  have hmf : ∀ (fn : Fn) (first cap : Array Value) (w : World), (Instr.makeFunc fn first cap).run Try.prog w = .ok (.func fn first cap) w := fun _ _ _ _ => rfl
  have eg := eg_of
  have eg2 := eg_all
  clear hO ha hf hR hi hs hsl hsb
  obtain ⟨R, hRR⟩ : ∃ R, bFrame (inp + nL) f ands input state = R := ⟨_, rfl⟩
  rw [hRR]
  have HRR := Aside0.mk hRR
  clear hRR
  go_enter Try.func37, Try.ntmps37
  go_upto_region 2 with (fail)
  have S1 := Aside0.mk (show Parts w0.heap.size w0 _ (fPs w0.heap.size (w.heap.size + 1 + 1) w.heap.size (some ⟨w.heap.size + 1, 0, none⟩) 1 1 [0] ++ (bPs w0.heap.size gB gM inp nL (fcOf p f) vL vA ands ++ ps)) from by
    have h1 := S.out.new 82 #[.slice none 0 0, .int .i64 0, .int .i64 0]
    have h2 := h1.freshF flat_int (below_alloc (Below.refl _ _) (.cells #[.int .i64 0] 3)) (R_zeroB _ _ 3 (Nat.le_refl _))
    have h3 := h2.new 24 #[.slice (some ⟨w.heap.size + 1, 0, none⟩) 1 1]
    simp only [World.size_alloc] at h3
    exact h3)
  generalize w.heap.size + 1 + 1 = gT at *
  generalize hV0 : w.heap.size + 1 = gV at *
  clear hV0
  obtain ⟨gR, hgR⟩ : ∃ g, w.heap.size = g := ⟨_, rfl⟩
  rw [hgR] at S1
  generalize (((w.alloc (.cells #[.slice none 0 0, .int .i64 0, .int .i64 0] 82)).alloc (.cells #[.int .i64 0] 3)).alloc (.cells #[.slice (some ⟨gV, 0, none⟩) 1 1] 24)) = w1 at *
  simp only [hgR]
  clear S hgR
  have c5 : w1.cell? ⟨gB, 5, none⟩ = some (.int .i64 f.f0) := (S1.out.cell 3 rfl 5 rfl).1
  obtain ⟨ni, hni⟩ : ∃ n : Nat, f.f0 = (n : Int) := ⟨f.f0.toNat, by have := HF.out.i; omega⟩
  have HNI := Aside0.mk (show f.f0.toNat = ni ∧ ni ≤ 1000 by have := HF.out.i; omega)
  rw [hni] at c5
  go_wp2
  clear c5
  go_loopg [23] ni (fun gg s23 wr => ∃ (i : Nat) (V : Option Addr) (c : Nat), s23 = .int .i64 i ∧ Aside0 (i ≤ ni ∧ ni - i ≤ gg) ∧ Aside0 (Parts w0.heap.size w0 wr (fPs w0.heap.size gT gR V (i + 1) c (0 :: bIns input i) ++ (bPs w0.heap.size gB gM inp nL (fcOf p f) vL vA ands ++ ps))))
  case atStart => exact ⟨0, some ⟨gV, 0, none⟩, 1, rfl, ⟨by omega, by omega⟩, S1⟩
  case round =>
    clear S1
    obtain ⟨i, V, c, rfl, HK, S⟩ := hrel
    by_cases hlt : i < ni
    · have HLT := Aside0.mk hlt
      have hlti : (i : Int) < (ni : Int) := by omega
      obtain ⟨c0, f0⟩ := S.out.cell 0 rfl 0 rfl
      obtain ⟨x, hx⟩ : ∃ x : Int, 2 * (input + (i : Int)) = x := ⟨_, rfl⟩
      have hw : wrap64 (2 * wrap64 (input + (i : Int))) = x := by
        have h1 := HI.out; have h2 := HNI.out
        rw [wrap_in (x := input + (i : Int)) (by omega) (by omega), wrap_in (by omega) (by omega), hx]
      have HST := Aside0.mk (show 0 :: bIns input (i + 1) = (0 :: bIns input i) ++ [x] by rw [bIns_succ, ← hx]; rfl)
      have HLN := Aside0.mk (show i + 1 = (0 :: bIns input i).length by rw [List.length_cons, bIns_len])
      clear hx hlt
      generalize 0 :: bIns input i = ys at *
      go_wp2_with (first | (at_builtin; refine Parts.appendL S.out 1 rfl flat_int rfl (.tmp 26) (.tmp 31) 24 (.int .i64 0) 8 rfl Try.underlying24 infoInt rfl (by decide) (by decide) x [.int .i64 x] rfl (by rw [hw]; rfl) rfl (by have := HNI.out; have := HLT.out; have := HLN.out; omega) ?_; intro V2 cap2 w8 h8; obtain ⟨c8, f8⟩ := h8.cell 0 rfl 0 rfl; have S8 := Aside0.mk h8; clear h8))
      have S9 := Aside0.mk (S8.out.put 0 rfl 0 (.slice V2 (ys.length + 1) cap2) rfl)
      have hys := HLN.out
      go_roundg (ni - (i + 1))
      case measure => have := HK.out; have := HLT.out; omega
      case rel => exact ⟨i + 1, V2, cap2, (by first | exact val_step HLT.out (by have := HNI.out; omega) | exact congrArg (Value.int .i64) (by omega)), ⟨HLT.out, by have := HK.out; omega⟩, ⟨by rw [HST.out, hys]; exact S9.out⟩⟩
    · have hk : i = ni := by have := HK.out; omega
      subst hk
      clear hlt
      have HLN := Aside0.mk (show i + 1 = (0 :: bIns input i).length by rw [List.length_cons, bIns_len])
      have HTD := Aside0.mk (show bTold f input state = (0 :: bIns input i) ++ state by unfold bTold; rw [HNI.out.1]; rfl)
      obtain ⟨c0, f0⟩ := S.out.cell 0 rfl 0 rfl
      have HST := Aside0.mk (HS.out _ _ _ S.out.tail.tail.tail)
      generalize 0 :: bIns input i = ys at *
      have hys := HLN.out
      rw [hys] at S c0
      go_upto_region 9 with (first | (at_builtin; refine Parts.appendRL S.out 1 rfl flat_int flatK_int rfl (.tmp 34) (.tmp 35) 24 (.int .i64 0) 8 rfl Try.underlying24 infoInt rfl (by decide) (by decide) state sA sc rfl rfl HST.out (by have := HNI.out; have := HSL.out; have := HF.out.l; omega) ?_; intro V2 cap2 w8 h8; obtain ⟨c8, f8⟩ := h8.cell 0 rfl 0 rfl; have S8 := Aside0.mk h8; clear h8) | fail)
      have S9 := Aside0.mk (S8.out.put 0 rfl 0 (.slice V2 (ys.length + state.length) cap2) rfl)
      have hsz : (w8.setCell ⟨gT, 0, none⟩ (.slice V2 (ys.length + state.length) cap2)).heap.size = w8.heap.size := by simp
      rw [← hsz]
      clear hsz
      generalize w8.setCell ⟨gT, 0, none⟩ (.slice V2 (ys.length + state.length) cap2) = w9 at *
      clear c8 f8 S8 c0 f0 S
      obtain ⟨T0, hT0⟩ : ∃ T, ys ++ state = T := ⟨_, rfl⟩
      have HTL := Aside0.mk (show T0.length = m by rw [← hT0, List.length_append, ← hys, HSL.out, HF.out.mm, HNI.out.1]; omega)
      have HTB := Aside0.mk (show ∀ x ∈ T0, LB x by
        rw [← HTD.out] at hT0
        intro x hx
        rw [← hT0] at hx
        rcases List.mem_cons.1 hx with rfl | hx
        · exact LB.zero
        · rcases List.mem_append.1 hx with hx | hx
          · obtain ⟨q, hq, rfl⟩ := List.mem_map.1 hx
            have := List.mem_range.1 hq
            have := HI.out
            have := HNI.out
            exact ⟨by omega, by omega⟩
          · exact HSB.out x hx)
      have S10 := Aside0.mk (show Parts w0.heap.size w0 (w9.alloc (.cells #[.func (.func 73) #[] #[.pointer (some ⟨gT, 0, none⟩)]] 112)) (bPs w0.heap.size gB gM inp nL (fcOf p f) vL vA ands ++ (gPs w0.heap.size w9.heap.size gT gR V2 T0.length cap2 T0 ++ ps)) from by
        have h1 := S9.out.new 112 #[.func (.func 73) #[] #[.pointer (some ⟨gT, 0, none⟩)]]
        rw [← List.length_append, hT0] at h1
        exact h1.perm (List.perm_append_comm_assoc (gPs w0.heap.size w9.heap.size gT gR V2 T0.length cap2 T0) _ _))
      rw [hT0] at HTD
      have HT0 := Aside0.mk (show TOk (ands, T0) ands.length m from ⟨HO.out.g, HTB.out, Nat.le_refl _, HTL.out⟩)
      clear hT0 S9 hys HTB HTL HLN HST HK
      generalize w9.heap.size = gO at *
      generalize w9.alloc (.cells #[.func (.func 73) #[] #[.pointer (some ⟨gT, 0, none⟩)]] 112) = wA at *
      have c7 : wA.cell? ⟨gB, 7, none⟩ = some (.slice p.A2 f.f2.length p.c2) := (S10.out.cell 0 rfl 7 rfl).1
      go_wp2
      clear c7
      go_loopg [44] f.f2.length (fun gg s44 wr => ∃ (j : Nat) (vA : Option Addr × Nat) (V : Option Addr) (c : Nat) (s : List Gate × List Int), s44 = .int .i64 j ∧ Aside0 (j ≤ f.f2.length ∧ f.f2.length - j ≤ gg) ∧ Aside0 (bGates (inp + nL) (f.f2.take j) (ands, T0) = s) ∧ Aside0 (Parts w0.heap.size w0 wr (bPs w0.heap.size gB gM inp nL (fcOf p f) vL vA s.1 ++ (gPs w0.heap.size gO gT gR V s.2.length c s.2 ++ ps))))
      case atStart => exact ⟨0, vA, V2, cap2, (ands, T0), rfl, ⟨by omega, by omega⟩, ⟨rfl⟩, S10⟩
      case round =>
        clear S10
        obtain ⟨j, vA, V, c, ⟨an, T⟩, rfl, HK, HE, S⟩ := hrel
        have HTK := Aside0.mk (bGates_ok HO.out.n0 HO.out.n1 HF.out HT0.out (by have := HA.out; omega) j HK.out.1)
        rw [HE.out] at HTK
        dsimp only at S
        by_cases hlt : j < f.f2.length
        · obtain ⟨ad, eA, hc0, hc1⟩ := at_gate (HR.out.s2.below S.out.B).r j hlt
          rw [eA]
          have EA := Aside0.mk eA
          clear eA
          have HGS := Aside0.mk (HF.out.gs j hlt)
          have HST := Aside0.mk (bGates_succ hlt HE.out)
          have HLT := Aside0.mk hlt
          have hlti : (j : Int) < (f.f2.length : Int) := by omega
          generalize f.f2[j] = gt at *
          clear hlt HE
          go_upto_region 12 with (fail)
          have S1 := Aside0.mk (show Parts w0.heap.size w0 (wr.alloc (.cells #[.int .i64 gt.f0, .int .i64 gt.f1] 92)) (bPs w0.heap.size gB gM inp nL (fcOf p f) vL vA an ++ (pB wr.heap.size 92 #[.int .i64 gt.f0, .int .i64 gt.f1] :: (gPs w0.heap.size gO gT gR V T.length c T ++ ps))) from
            (S.out.new 92 #[.int .i64 gt.f0, .int .i64 gt.f1]).behind (qs := bPs w0.heap.size gB gM inp nL (fcOf p f) vL vA an))
          generalize wr.heap.size = gG at *
          generalize wr.alloc (.cells #[.int .i64 gt.f0, .int .i64 gt.f1] 92) = w1 at *
          clear S hc0 hc1
          have HMB := Aside0.mk (show m + f.f2.length ≤ 10000 by have := HF.out.mm; have := HF.out.i; have := HF.out.l; have := HF.out.g; omega)
          have HX := Aside0.mk (show LIn T gt.f0 ∧ LIn T gt.f1 by
            have h1 := HGS.out; have h2 := HTK.out.m; have h3 := HMB.out; have h4 := HLT.out
            dsimp only at h2
            exact ⟨⟨h1.1.1, by omega, by omega⟩, ⟨h1.2.1, by omega, by omega⟩⟩)
          have q := (⟨(S1.out.cell 5 rfl 0 rfl).1, (S1.out.cell 4 rfl 0 rfl).1, (S1.out.cell 3 rfl 0 rfl).1, (S1.out.cell 3 rfl 1 rfl).1⟩ : _ ∧ _ ∧ _ ∧ _)
          refine start_ (n := 14) (S := (fun w' : World => w'.cell? ⟨gT, 0, none⟩ = some (.slice V T.length c) ∧ w'.cell? ⟨gO, 0, none⟩ = some (.func (.func 73) #[] #[.pointer (some ⟨gT, 0, none⟩)]) ∧ w'.cell? ⟨gG, 0, none⟩ = some (.int .i64 gt.f0) ∧ w'.cell? ⟨gG, 1, none⟩ = some (.int .i64 gt.f1))) (ds := [13]) #[false, false, false, false, false, false, false, false, false, false, false, false, false, false] (by kernel_rfl) rfl rfl q (fun hHeld => ?_)
          clear q
          have S2 := Aside0.mk S1.out.drew
          clear S1
          generalize w1.drew = w2 at *
          refine take_ (i := 0) (N := some 48) (v := ?_) (a' := ?_) #[true, false, false, false, false, false, false, false, false, false, false, false, false, false] rfl rfl (by kernel_rfl) (fun _ _ _ h => h) (Or.inl ⟨by rfl, ?_⟩) hHeld ?_ ?_
          rotate_left
          · rintro w' ⟨s0, s1, s2, s3⟩
            go_simp
            with_reducible rfl
          rotate_left
          · simp only [Act.put, List.setIfInBounds_toArray, List.set_cons_zero, List.set_cons_succ]
            rfl
          refine pure_ (i := 1) (N := some 49) (v := ?_) (a' := ?_) #[true, true, false, false, false, false, false, false, false, false, false, false, false, false] rfl rfl (by kernel_rfl) (fun _ _ _ h => h) (Or.inl ⟨by rfl, ?_⟩) ?_ ?_
          rotate_left
          · intro w'
            go_simp
            with_reducible rfl
          rotate_left
          · simp only [Act.put, List.setIfInBounds_toArray, List.set_cons_zero, List.set_cons_succ]
            rfl
          refine take_ (i := 2) (N := some 50) (v := ?_) (a' := ?_) #[true, true, true, false, false, false, false, false, false, false, false, false, false, false] rfl rfl (by kernel_rfl) (fun _ _ _ h => h) (Or.inl ⟨by rfl, ?_⟩) hHeld ?_ ?_
          rotate_left
          · rintro w' ⟨s0, s1, s2, s3⟩
            go_simp
            with_reducible rfl
          rotate_left
          · simp only [Act.put, List.setIfInBounds_toArray, List.set_cons_zero, List.set_cons_succ]
            rfl
          refine pure_ (i := 3) (N := some 51) (v := ?_) (a' := ?_) #[true, true, true, true, false, false, false, false, false, false, false, false, false, false] rfl rfl (by kernel_rfl) (fun _ _ _ h => h) (Or.inl ⟨by rfl, ?_⟩) ?_ ?_
          rotate_left
          · intro w'
            go_simp
            with_reducible rfl
          rotate_left
          · simp only [Act.put, List.setIfInBounds_toArray, List.set_cons_zero, List.set_cons_succ]
            rfl
          refine take_ (i := 4) (N := some 52) (v := ?_) (a' := ?_) #[true, true, true, true, true, false, false, false, false, false, false, false, false, false] rfl rfl (by kernel_rfl) (fun _ _ _ h => h) (Or.inl ⟨by rfl, ?_⟩) hHeld ?_ ?_
          rotate_left
          · rintro w' ⟨s0, s1, s2, s3⟩
            go_simp
            with_reducible rfl
          rotate_left
          · simp only [Act.put, List.setIfInBounds_toArray, List.set_cons_zero, List.set_cons_succ]
            rfl
          refine take_ (i := 6) (N := some 54) (v := ?_) (a' := ?_) #[true, true, true, true, true, false, true, false, false, false, false, false, false, false] rfl rfl (by kernel_rfl) (fun _ _ _ h => h) (Or.inl ⟨by rfl, ?_⟩) hHeld ?_ ?_
          rotate_left
          · rintro w' ⟨s0, s1, s2, s3⟩
            go_simp
            with_reducible rfl
          rotate_left
          · simp only [Act.put, List.setIfInBounds_toArray, List.set_cons_zero, List.set_cons_succ]
            rfl
          refine pure_ (i := 7) (N := some 55) (v := ?_) (a' := ?_) #[true, true, true, true, true, false, true, true, false, false, false, false, false, false] rfl rfl (by kernel_rfl) (fun _ _ _ h => h) (Or.inl ⟨by rfl, ?_⟩) ?_ ?_
          rotate_left
          · intro w'
            go_simp
            with_reducible rfl
          rotate_left
          · simp only [Act.put, List.setIfInBounds_toArray, List.set_cons_zero, List.set_cons_succ]
            rfl
          refine take_ (i := 8) (N := some 56) (v := ?_) (a' := ?_) #[true, true, true, true, true, false, true, true, true, false, false, false, false, false] rfl rfl (by kernel_rfl) (fun _ _ _ h => h) (Or.inl ⟨by rfl, ?_⟩) hHeld ?_ ?_
          rotate_left
          · rintro w' ⟨s0, s1, s2, s3⟩
            go_simp
            with_reducible rfl
          rotate_left
          · simp only [Act.put, List.setIfInBounds_toArray, List.set_cons_zero, List.set_cons_succ]
            rfl
          refine one_ (i := 5) (N := some 53) #[true, true, true, true, true, true, true, true, true, false, false, false, false, false] rfl rfl (by kernel_rfl) (by decide) (fun K hK => ?_)
          refine goesV_ eg #[.int .i64 gt.f0, .pointer (some ⟨gT, 0, none⟩)] (by rfl) rfl rfl rfl (by simp only [List.map_toArray, List.map_cons, List.map_nil, List.append_toArray, List.nil_append, List.cons_append] <;> rfl) ?_
          refine (b_of gT V c T gt.f0 _ (S2.out.cell 5 rfl 0 rfl).1 (S2.out.rowF 6 rfl) HTK.out.t HX.out.1).mono ?_
          rintro e w3 ⟨rfl, hb⟩
          refine ⟨_, rfl, ?_⟩
          have S3 := Aside0.mk (S2.out.below hb)
          clear hb S2
          refine hK.out _ _ ⟨(S3.out.cell 5 rfl 0 rfl).1, (S3.out.cell 4 rfl 0 rfl).1, (S3.out.cell 3 rfl 0 rfl).1, (S3.out.cell 3 rfl 1 rfl).1⟩ (fun hHeld => ?_)
          clear hK K
          refine norm_ (a' := ?_) ?_ ?_
          rotate_left
          · show Act.put _ (some 53) _ = _
            simp only [Act.put, List.setIfInBounds_toArray, List.set_cons_zero, List.set_cons_succ]
            rfl
          refine one_ (i := 9) (N := some 57) #[true, true, true, true, true, true, true, true, true, true, false, false, false, false] rfl rfl (by kernel_rfl) (by decide) (fun K hK => ?_)
          refine goesV_ eg #[.int .i64 gt.f1, .pointer (some ⟨gT, 0, none⟩)] (by rfl) rfl rfl rfl (by simp only [List.map_toArray, List.map_cons, List.map_nil, List.append_toArray, List.nil_append, List.cons_append] <;> rfl) ?_
          refine (b_of gT V c T gt.f1 _ (S3.out.cell 5 rfl 0 rfl).1 (S3.out.rowF 6 rfl) HTK.out.t HX.out.2).mono ?_
          rintro e w4 ⟨rfl, hb⟩
          refine ⟨_, rfl, ?_⟩
          have S4 := Aside0.mk (S3.out.below hb)
          clear hb S3
          refine hK.out _ _ ⟨(S4.out.cell 5 rfl 0 rfl).1, (S4.out.cell 4 rfl 0 rfl).1, (S4.out.cell 3 rfl 0 rfl).1, (S4.out.cell 3 rfl 1 rfl).1⟩ (fun hHeld => ?_)
          clear hK K
          refine norm_ (a' := ?_) ?_ ?_
          rotate_left
          · show Act.put _ (some 57) _ = _
            simp only [Act.put, List.setIfInBounds_toArray, List.set_cons_zero, List.set_cons_succ]
            rfl
          have HLX := Aside0.mk (And.intro (bLit_ok HTK.out.t HX.out.1) (bLit_ok HTK.out.t HX.out.2))
          generalize bLit T gt.f0 = x at *
          generalize bLit T gt.f1 = y at *
          refine one_ (i := 10) (N := some 58) #[true, true, true, true, true, true, true, true, true, true, true, false, false, false] rfl rfl (by kernel_rfl) (by decide) (fun K hK => ?_)
          refine goes_ Try.func38 (by kernel_rfl) rfl #[.pointer (some ⟨gB, 0, none⟩), .int .i64 x, .int .i64 y] (by rfl) rfl rfl (by simp only [List.map_toArray, List.map_cons, List.map_nil] <;> rfl) ?_
          refine (b_and_does _ _ an x y S4.out ⟨HO.out.i0, HO.out.i1, HO.out.l1, by have h1 := HTK.out.n; have h2 := HA.out; have h3 := HF.out.g; have h4 := HLT.out; dsimp only at h1; omega, HTK.out.g⟩ HLX.out.1 HLX.out.2).mono ?_
          rintro e w5 ⟨vA5, rfl, h5⟩
          refine ⟨_, rfl, ?_⟩
          have S5 := Aside0.mk h5
          clear h5 S4
          refine hK.out _ _ ⟨(S5.out.cell 5 rfl 0 rfl).1, (S5.out.cell 4 rfl 0 rfl).1, (S5.out.cell 3 rfl 0 rfl).1, (S5.out.cell 3 rfl 1 rfl).1⟩ (fun hHeld => ?_)
          clear hK K
          refine norm_ (a' := ?_) ?_ ?_
          rotate_left
          · show Act.put _ (some 58) _ = _
            simp only [Act.put, List.setIfInBounds_toArray, List.set_cons_zero, List.set_cons_succ]
            rfl
          have HL5 := Aside0.mk ((bAnd_op HO.out.n0 HO.out.n1).n an x y)
          obtain ⟨⟨ra, rl⟩, hr5⟩ : ∃ r, bAnd (inp + nL) an x y = r := ⟨_, rfl⟩
          rw [hr5] at S5 HL5 HST
          rw [hr5]
          clear hr5
          dsimp only at S5 HL5 HST ⊢
          refine one_ (i := 11) (N := some 59) #[true, true, true, true, true, true, true, true, true, true, true, true, false, false] rfl rfl (by kernel_rfl) (by decide) (fun K hK => ?_)
          refine value_ (w1 := ?_) (v := ?_) (by rfl) rfl ?_ ?_
          rotate_left 2
          · go_simp
            constructor
            · rfl
            · rfl
          refine hK.out _ _ ⟨(World.cell?_alloc_lt _ _ _ (World.block_lt_of_cell? _ _ hHeld.1)).trans hHeld.1, (World.cell?_alloc_lt _ _ _ (World.block_lt_of_cell? _ _ hHeld.2.1)).trans hHeld.2.1, (World.cell?_alloc_lt _ _ _ (World.block_lt_of_cell? _ _ hHeld.2.2.1)).trans hHeld.2.2.1, (World.cell?_alloc_lt _ _ _ (World.block_lt_of_cell? _ _ hHeld.2.2.2)).trans hHeld.2.2.2⟩ (fun hHeld => ?_)
          clear hK K
          refine norm_ (a' := ?_) ?_ ?_
          rotate_left
          · show Act.put _ (some 59) _ = _
            simp only [Act.put, List.setIfInBounds_toArray, List.set_cons_zero, List.set_cons_succ]
            rfl
          refine one_ (i := 12) (N := some 60) #[true, true, true, true, true, true, true, true, true, true, true, true, true, false] rfl rfl (by kernel_rfl) (by decide) (fun K hK => ?_)
          refine Parts.appendS S5.out 6 rfl flat_int (by rfl) (.tmp 48) (.tmp 59) 24 (.int .i64 0) 8 rfl Try.underlying24 infoInt rfl (by decide) (by decide) rl [.int .i64 rl] rfl rfl rfl (by have h1 := HTK.out.m; have h2 := HMB.out; have h3 := HLT.out; dsimp only at h1; omega) ?_
          intro V6 cap6 w6 h6
          have S6 := Aside0.mk h6
          clear h6 S5
          refine hK.out _ _ ⟨(S6.out.cell 5 rfl 0 rfl).1, (S6.out.cell 4 rfl 0 rfl).1, (S6.out.cell 3 rfl 0 rfl).1, (S6.out.cell 3 rfl 1 rfl).1⟩ (fun hHeld => ?_)
          clear hK K
          refine norm_ (a' := ?_) ?_ ?_
          rotate_left
          · show Act.put _ (some 60) _ = _
            simp only [Act.put, List.setIfInBounds_toArray, List.set_cons_zero, List.set_cons_succ]
            rfl
          obtain ⟨c0, f0⟩ := S6.out.cell 5 rfl 0 rfl
          refine last_ (i := 13) (N := none) #[true, true, true, true, true, true, true, true, true, true, true, true, true, true] rfl rfl (by kernel_rfl) (by decide) (fun K hK => ?_)
          refine skip_ (w1 := ?_) (by rfl) rfl ?_ ?_
          rotate_left
          · go_simp
            rfl
          refine hK.out _ _ ?_
          clear hK K
          refine done_ (by kernel_rfl) ?_
          have S7 := Aside0.mk (S6.out.put 5 rfl 0 (.slice V6 (T.length + 1) cap6) rfl)
          clear S6 c0 f0
          have S8 := Aside0.mk (show Parts w0.heap.size w0 (w6.setCell ⟨gT, 0, none⟩ (.slice V6 (T.length + 1) cap6)) (bPs w0.heap.size gB gM inp nL (fcOf p f) vL vA5 ra ++ (gPs w0.heap.size gO gT gR V6 (T ++ [rl]).length cap6 (T ++ [rl]) ++ ps)) from by
            rw [show (T ++ [rl]).length = T.length + 1 by simp]
            exact (Parts.ahead (qs := bPs w0.heap.size gB gM inp nL (fcOf p f) vL vA5 ra) S7.out).tail)
          clear S7
          go_wp2
          rw [← EA.out]
          go_roundg (f.f2.length - (j + 1))
          case measure => have := HK.out; have := HLT.out; omega
          case rel => exact ⟨j + 1, vA5, V6, cap6, (ra, T ++ [rl]), (by first | exact val_step HLT.out (by have := HF.out.g; omega) | exact congrArg (Value.int .i64) (by omega)), ⟨HLT.out, by have := HK.out; omega⟩, HST, S8⟩
        · have hk : j = f.f2.length := by have := HK.out; omega
          subst hk
          rw [List.take_length] at HE
          clear hlt
          go_upto_region 15 with (fail)
          have S1 := Aside0.mk (show Parts w0.heap.size w0 (wr.alloc (.cells #[.slice none 0 0, .int .i64 0, .int .i64 0] 82)) (bPs w0.heap.size gB gM inp nL (fcOf p f) vL vA an ++ (hPs w0.heap.size wr.heap.size none 0 0 [] 0 gO gT gR V T.length c T ++ ps)) from
            (((S.out.nil (Kd.int .i64) 3).behind (qs := bPs w0.heap.size gB gM inp nL (fcOf p f) vL vA an)).new 82 #[.slice none 0 0, .int .i64 0, .int .i64 0]).behind (qs := bPs w0.heap.size gB gM inp nL (fcOf p f) vL vA an))
          generalize wr.heap.size = gF at *
          generalize wr.alloc (.cells #[.slice none 0 0, .int .i64 0, .int .i64 0] 82) = w1 at *
          clear S HK
          have c6 : w1.cell? ⟨gB, 6, none⟩ = some (.slice p.A1 f.f1.length p.c1) := (S1.out.cell 0 rfl 6 rfl).1
          go_wp2
          clear c6
          go_loopg [68] f.f1.length (fun gg s68 wr => ∃ (j : Nat) (Vn : Option Addr) (cn : Nat) (N : List Int), s68 = .int .i64 j ∧ Aside0 (j ≤ f.f1.length ∧ f.f1.length - j ≤ gg) ∧ Aside0 (N = (f.f1.take j).map (fun l => bLit T l.f0)) ∧ Aside0 (Parts w0.heap.size w0 wr (bPs w0.heap.size gB gM inp nL (fcOf p f) vL vA an ++ (hPs w0.heap.size gF Vn N.length cn N 0 gO gT gR V T.length c T ++ ps))))
          case atStart => exact ⟨0, none, 0, [], rfl, ⟨by omega, by omega⟩, ⟨rfl⟩, S1⟩
          case round =>
            clear S1
            obtain ⟨j, Vn, cn, N, rfl, HK, HN, S⟩ := hrel
            by_cases hlt : j < f.f1.length
            · obtain ⟨ad, eA, hc0, hc1⟩ := at_latch (HR.out.s1.below S.out.B).r j hlt
              rw [eA]
              have EA := Aside0.mk eA
              clear eA
              have HLS := Aside0.mk (HF.out.ls f.f1[j] (by simp))
              have HST := Aside0.mk (show (f.f1.take (j + 1)).map (fun l => bLit T l.f0) = N ++ [bLit T (f.f1[j]).f0] by rw [List.take_add_one, List.getElem?_eq_getElem hlt, List.map_append, ← HN.out]; rfl)
              have HLT := Aside0.mk hlt
              have HNL := Aside0.mk (show N.length = j by rw [HN.out, List.length_map, List.length_take]; omega)
              have hlti : (j : Int) < (f.f1.length : Int) := by omega
              generalize f.f1[j] = lt at *
              clear hlt HN
              go_upto_region 18 with (fail)
              have S1 := Aside0.mk (show Parts w0.heap.size w0 (wr.alloc (.cells #[.int .i64 lt.f0, .int .i64 lt.f1] 45)) (bPs w0.heap.size gB gM inp nL (fcOf p f) vL vA an ++ (pB wr.heap.size 45 #[.int .i64 lt.f0, .int .i64 lt.f1] :: (hPs w0.heap.size gF Vn N.length cn N 0 gO gT gR V T.length c T ++ ps))) from
                (S.out.new 45 #[.int .i64 lt.f0, .int .i64 lt.f1]).behind (qs := bPs w0.heap.size gB gM inp nL (fcOf p f) vL vA an))
              generalize wr.heap.size = gL at *
              generalize wr.alloc (.cells #[.int .i64 lt.f0, .int .i64 lt.f1] 45) = w1 at *
              clear S hc0 hc1
              have HX := Aside0.mk (show LIn T lt.f0 by
                have h1 := HLS.out; have h2 := HTK.out.m; have h3 := HF.out.mm; have h4 := HF.out.i; have h5 := HF.out.l; have h6 := HF.out.g
                dsimp only at h2
                exact ⟨h1.1, by omega, by omega⟩)
              have q := (⟨(S1.out.cell 4 rfl 0 rfl).1, (S1.out.cell 6 rfl 0 rfl).1, (S1.out.cell 3 rfl 0 rfl).1⟩ : _ ∧ _ ∧ _)
              refine start_ (n := 10) (S := (fun w' : World => w'.cell? ⟨gF, 0, none⟩ = some (.slice Vn N.length cn) ∧ w'.cell? ⟨gO, 0, none⟩ = some (.func (.func 73) #[] #[.pointer (some ⟨gT, 0, none⟩)]) ∧ w'.cell? ⟨gL, 0, none⟩ = some (.int .i64 lt.f0))) (ds := [9]) #[false, false, false, false, false, false, false, false, false, false] (by kernel_rfl) rfl rfl q (fun hHeld => ?_)
              clear q
              have S2 := Aside0.mk S1.out.drew
              clear S1
              generalize w1.drew = w2 at *
              refine pure_ (i := 0) (N := some 72) (v := ?_) (a' := ?_) #[true, false, false, false, false, false, false, false, false, false] rfl rfl (by kernel_rfl) (fun _ _ _ h => h) (Or.inl ⟨by rfl, ?_⟩) ?_ ?_
              rotate_left
              · intro w'
                go_simp
                with_reducible rfl
              rotate_left
              · simp only [Act.put, List.setIfInBounds_toArray, List.set_cons_zero, List.set_cons_succ]
                rfl
              refine take_ (i := 1) (N := some 73) (v := ?_) (a' := ?_) #[true, true, false, false, false, false, false, false, false, false] rfl rfl (by kernel_rfl) (fun _ _ _ h => h) (Or.inl ⟨by rfl, ?_⟩) hHeld ?_ ?_
              rotate_left
              · rintro w' ⟨s0, s1, s2⟩
                go_simp
                with_reducible rfl
              rotate_left
              · simp only [Act.put, List.setIfInBounds_toArray, List.set_cons_zero, List.set_cons_succ]
                rfl
              refine take_ (i := 2) (N := some 74) (v := ?_) (a' := ?_) #[true, true, true, false, false, false, false, false, false, false] rfl rfl (by kernel_rfl) (fun _ _ _ h => h) (Or.inl ⟨by rfl, ?_⟩) hHeld ?_ ?_
              rotate_left
              · rintro w' ⟨s0, s1, s2⟩
                go_simp
                with_reducible rfl
              rotate_left
              · simp only [Act.put, List.setIfInBounds_toArray, List.set_cons_zero, List.set_cons_succ]
                rfl
              refine pure_ (i := 3) (N := some 75) (v := ?_) (a' := ?_) #[true, true, true, true, false, false, false, false, false, false] rfl rfl (by kernel_rfl) (fun _ _ _ h => h) (Or.inl ⟨by rfl, ?_⟩) ?_ ?_
              rotate_left
              · intro w'
                go_simp
                with_reducible rfl
              rotate_left
              · simp only [Act.put, List.setIfInBounds_toArray, List.set_cons_zero, List.set_cons_succ]
                rfl
              refine take_ (i := 4) (N := some 76) (v := ?_) (a' := ?_) #[true, true, true, true, true, false, false, false, false, false] rfl rfl (by kernel_rfl) (fun _ _ _ h => h) (Or.inl ⟨by rfl, ?_⟩) hHeld ?_ ?_
              rotate_left
              · rintro w' ⟨s0, s1, s2⟩
                go_simp
                with_reducible rfl
              rotate_left
              · simp only [Act.put, List.setIfInBounds_toArray, List.set_cons_zero, List.set_cons_succ]
                rfl
              refine one_ (i := 5) (N := some 77) #[true, true, true, true, true, true, false, false, false, false] rfl rfl (by kernel_rfl) (by decide) (fun K hK => ?_)
              refine goesV_ eg #[.int .i64 lt.f0, .pointer (some ⟨gT, 0, none⟩)] (by rfl) rfl rfl rfl (by simp only [List.map_toArray, List.map_cons, List.map_nil, List.append_toArray, List.nil_append, List.cons_append] <;> rfl) ?_
              refine (b_of gT V c T lt.f0 _ (S2.out.cell 7 rfl 0 rfl).1 (S2.out.rowF 8 rfl) HTK.out.t HX.out).mono ?_
              rintro e w3 ⟨rfl, hb⟩
              refine ⟨_, rfl, ?_⟩
              have S3 := Aside0.mk (S2.out.below hb)
              clear hb S2
              refine hK.out _ _ ⟨(S3.out.cell 4 rfl 0 rfl).1, (S3.out.cell 6 rfl 0 rfl).1, (S3.out.cell 3 rfl 0 rfl).1⟩ (fun hHeld => ?_)
              clear hK K
              refine norm_ (a' := ?_) ?_ ?_
              rotate_left
              · show Act.put _ (some 77) _ = _
                simp only [Act.put, List.setIfInBounds_toArray, List.set_cons_zero, List.set_cons_succ]
                rfl
              generalize bLit T lt.f0 = x at *
              refine one_ (i := 6) (N := some 78) #[true, true, true, true, true, true, true, false, false, false] rfl rfl (by kernel_rfl) (by decide) (fun K hK => ?_)
              refine value_ (w1 := ?_) (v := ?_) (by rfl) rfl ?_ ?_
              rotate_left 2
              · go_simp
                constructor
                · rfl
                · rfl
              refine hK.out _ _ ⟨(World.cell?_alloc_lt _ _ _ (World.block_lt_of_cell? _ _ hHeld.1)).trans hHeld.1, (World.cell?_alloc_lt _ _ _ (World.block_lt_of_cell? _ _ hHeld.2.1)).trans hHeld.2.1, (World.cell?_alloc_lt _ _ _ (World.block_lt_of_cell? _ _ hHeld.2.2)).trans hHeld.2.2⟩ (fun hHeld => ?_)
              clear hK K
              refine norm_ (a' := ?_) ?_ ?_
              rotate_left
              · show Act.put _ (some 78) _ = _
                simp only [Act.put, List.setIfInBounds_toArray, List.set_cons_zero, List.set_cons_succ]
                rfl
              refine one_ (i := 7) (N := some 79) #[true, true, true, true, true, true, true, true, false, false] rfl rfl (by kernel_rfl) (by decide) (fun K hK => ?_)
              refine Parts.appendS S3.out 5 rfl flat_int (by rfl) (.tmp 73) (.tmp 78) 24 (.int .i64 0) 8 rfl Try.underlying24 infoInt rfl (by decide) (by decide) x [.int .i64 x] rfl rfl rfl (by have h1 := HNL.out; have h3 := HLT.out; have h5 := HF.out.l; omega) ?_
              intro V6 cap6 w6 h6
              have S6 := Aside0.mk h6
              clear h6 S3
              refine hK.out _ _ ⟨(S6.out.cell 4 rfl 0 rfl).1, (S6.out.cell 6 rfl 0 rfl).1, (S6.out.cell 3 rfl 0 rfl).1⟩ (fun hHeld => ?_)
              clear hK K
              refine norm_ (a' := ?_) ?_ ?_
              rotate_left
              · show Act.put _ (some 79) _ = _
                simp only [Act.put, List.setIfInBounds_toArray, List.set_cons_zero, List.set_cons_succ]
                rfl
              obtain ⟨c0, f0⟩ := S6.out.cell 4 rfl 0 rfl
              refine pure_ (i := 8) (N := some 80) (v := ?_) (a' := ?_) #[true, true, true, true, true, true, true, true, true, false] rfl rfl (by kernel_rfl) (fun _ _ _ h => h) (Or.inl ⟨by rfl, ?_⟩) ?_ ?_
              rotate_left
              · intro w'
                go_simp
                with_reducible rfl
              rotate_left
              · simp only [Act.put, List.setIfInBounds_toArray, List.set_cons_zero, List.set_cons_succ]
                rfl
              refine last_ (i := 9) (N := none) #[true, true, true, true, true, true, true, true, true, true] rfl rfl (by kernel_rfl) (by decide) (fun K hK => ?_)
              refine skip_ (w1 := ?_) (by rfl) rfl ?_ ?_
              rotate_left
              · go_simp
                rfl
              refine hK.out _ _ ?_
              clear hK K
              refine done_ (by kernel_rfl) ?_
              have S7 := Aside0.mk (S6.out.put 4 rfl 0 (.slice V6 (N.length + 1) cap6) rfl)
              clear S6 c0 f0
              have S8 := Aside0.mk (show Parts w0.heap.size w0 (w6.setCell ⟨gF, 0, none⟩ (.slice V6 (N.length + 1) cap6)) (bPs w0.heap.size gB gM inp nL (fcOf p f) vL vA an ++ (hPs w0.heap.size gF V6 (N ++ [x]).length cap6 (N ++ [x]) 0 gO gT gR V T.length c T ++ ps)) from by
                rw [show (N ++ [x]).length = N.length + 1 by simp]
                exact (Parts.ahead (qs := bPs w0.heap.size gB gM inp nL (fcOf p f) vL vA an) S7.out).tail)
              clear S7
              go_wp2
              rw [← EA.out]
              go_roundg (f.f1.length - (j + 1))
              case measure => have := HK.out; have := HLT.out; omega
              case rel => exact ⟨j + 1, V6, cap6, N ++ [x], (by first | exact val_step HLT.out (by have := HF.out.l; omega) | exact congrArg (Value.int .i64) (by omega)), ⟨HLT.out, by have := HK.out; omega⟩, ⟨HST.out.symm⟩, S8⟩
            · have hk : j = f.f1.length := by have := HK.out; omega
              subst hk
              rw [List.take_length] at HN
              clear hlt
              have HNL := Aside0.mk (show N.length = f.f1.length by rw [HN.out, List.length_map])
              have HBS := Aside0.mk (show (∀ x ∈ f.f3, LIn T x) ∧ ∀ x ∈ f.f4, LIn T x by
                have h2 := HTK.out.m; have h3 := HF.out.mm; have h4 := HF.out.i; have h5 := HF.out.l; have h6 := HF.out.g
                dsimp only at h2
                constructor <;> intro x hx
                · have h1 := HF.out.bs x hx; exact ⟨h1.1, by omega, by omega⟩
                · have h1 := HF.out.cs x hx; exact ⟨h1.1, by omega, by omega⟩)
              have HAN := Aside0.mk (show an.length ≤ 81000 by have h1 := HTK.out.n; have h2 := HA.out; have h3 := HF.out.g; dsimp only at h1; omega)
              have HLA := Aside0.mk (show (∀ x ∈ f.f3.map (bLit T), LB x) ∧ ∀ x ∈ f.f4.map (bLit T), LB x by
                constructor <;> intro x hx <;> obtain ⟨y, hy, rfl⟩ := List.mem_map.1 hx
                · exact bLit_ok HTK.out.t (HBS.out.1 y hy)
                · exact bLit_ok HTK.out.t (HBS.out.2 y hy))
              have HFR := Aside0.mk (show R = ⟨(bAll (inp + nL) (bAny (inp + nL) an (f.f3.map (bLit T))).1 (f.f4.map (bLit T))).1, N, (bAny (inp + nL) an (f.f3.map (bLit T))).2, (bAll (inp + nL) (bAny (inp + nL) an (f.f3.map (bLit T))).1 (f.f4.map (bLit T))).2⟩ by
                rw [← HRR.out, HN.out]; unfold bFrame; rw [HTD.out, HE.out])
              clear HRR HN HTD HE HS HSL HSB HI HNI HT0 HK
              have c8 := (S.out.cell 0 rfl 8 rfl).1
              go_upto_region 22 with (fail)
              go_wp2_with fail
              refine (b_all gO gT V c T p.A3 p.c3 f.f3 _ (S.out.cell 5 rfl 0 rfl).1 (S.out.cell 6 rfl 0 rfl).1 (S.out.rowF 7 rfl) HTK.out.t (HR.out.s3.below S.out.B) HBS.out.1 (by have := HF.out.b; omega)).mono ?_
              rintro e w2 ⟨V3, c3, rfl, h2⟩
              have hl3 : f.f3.length = (f.f3.map (bLit T)).length := by rw [List.length_map]
              have HL3 := Aside0.mk (show (f.f3.map (bLit T)).length ≤ 1000 by rw [List.length_map]; exact HF.out.b)
              rw [hl3] at h2
              rw [hl3]
              clear hl3 c8
              have S2 := Aside0.mk ((S.out.freshF flat_int h2.B (h2.own 0 rfl)).behind (qs := bPs w0.heap.size gB gM inp nL (fcOf p f) vL vA an))
              clear h2 S
              generalize f.f3.map (bLit T) = B3 at *
              go_wp2_with fail
              refine (b_any S2.out ⟨HO.out.i0, HO.out.i1, HO.out.l1, by have := HAN.out; omega, HTK.out.g⟩ (fun W vA ands h => h.rowF 3 rfl) (by have := HAN.out; have := HL3.out; omega) HLA.out.1).mono ?_
              rintro e w3 ⟨vA3, rfl, h3⟩
              have S3 := Aside0.mk h3
              have HC3 := Aside0.mk ((bOr_op HO.out.n0 HO.out.n1).chain (none := 0) (ands := an) (l := B3) (by have := HAN.out; have := HL3.out; omega) LB.zero HLA.out.1 HTK.out.g)
              rw [show bChain (bOr (inp + nL)) 0 an B3 = bAny (inp + nL) an B3 from rfl] at HC3
              clear h3 S2
              generalize bAny (inp + nL) an B3 = r3 at *
              obtain ⟨a3, l3⟩ := r3
              dsimp only at HC3 S3 HFR ⊢
              obtain ⟨cF, fF⟩ := S3.out.cell 4 rfl 1 rfl
              go_upto_region 23 with (fail)
              have S4 := Aside0.mk (S3.out.put 4 rfl 1 (.int .i64 l3) rfl)
              clear S3 cF fF
              generalize w3.setCell ⟨gF, 1, none⟩ (.int .i64 l3) = w4 at *
              have c9 := (S4.out.cell 0 rfl 9 rfl).1
              go_wp2_with fail
              refine (b_all gO gT V c T p.A4 p.c4 f.f4 _ (S4.out.cell 6 rfl 0 rfl).1 (S4.out.cell 7 rfl 0 rfl).1 (S4.out.rowF 8 rfl) HTK.out.t (HR.out.s4.below S4.out.B) HBS.out.2 (by have := HF.out.c; omega)).mono ?_
              rintro e w5 ⟨V4, c4, rfl, h5⟩
              have hl4 : f.f4.length = (f.f4.map (bLit T)).length := by rw [List.length_map]
              have HL4 := Aside0.mk (show (f.f4.map (bLit T)).length ≤ 1000 by rw [List.length_map]; exact HF.out.c)
              rw [hl4] at h5
              rw [hl4]
              clear hl4 c9
              have S5 := Aside0.mk ((S4.out.freshF flat_int h5.B (h5.own 0 rfl)).behind (qs := bPs w0.heap.size gB gM inp nL (fcOf p f) vL vA3 a3))
              clear h5 S4
              generalize f.f4.map (bLit T) = B4 at *
              go_wp2_with fail
              refine (b_chain S5.out ⟨HO.out.i0, HO.out.i1, HO.out.l1, by have := HAN.out; have := HL3.out; have := HC3.out.2.2; omega, HC3.out.2.1⟩ b_and_does (bAnd_op HO.out.n0 HO.out.n1) eg_and (fun W vA ands h => h.rowF 3 rfl) (by have := HAN.out; have := HL3.out; have := HC3.out.2.2; have := HL4.out; omega) LB.one HLA.out.2).mono ?_
              rintro e w6 ⟨vA6, rfl, h6⟩
              rw [show bChain (bAnd (inp + nL)) 1 a3 B4 = bAll (inp + nL) a3 B4 from rfl] at h6 ⊢
              have S6 := Aside0.mk h6
              clear h6 S5
              generalize bAll (inp + nL) a3 B4 = r6 at *
              obtain ⟨a6, l6⟩ := r6
              dsimp only at S6 HFR ⊢
              obtain ⟨cF, fF⟩ := S6.out.cell 5 rfl 2 rfl
              go_upto_region 24 with (fail)
              have S7 := Aside0.mk (S6.out.put 5 rfl 2 (.int .i64 l6) rfl)
              clear S6 cF fF
              generalize w6.setCell ⟨gF, 2, none⟩ (.int .i64 l6) = w7 at *
              obtain ⟨cF0, _⟩ := S7.out.cell 5 rfl 0 rfl
              obtain ⟨cF1, _⟩ := S7.out.cell 5 rfl 1 rfl
              obtain ⟨cF2, _⟩ := S7.out.cell 5 rfl 2 rfl
              obtain ⟨_, fR0⟩ := S7.out.cell 10 rfl 0 rfl
              obtain ⟨_, fR1⟩ := S7.out.cell 10 rfl 1 rfl
              obtain ⟨_, fR2⟩ := S7.out.cell 10 rfl 2 rfl
              go_wp2
              have S8 := ((S7.out.put 10 rfl 0 (.slice Vn N.length cn) rfl).put 10 rfl 1 (.int .i64 l3) rfl).put 10 rfl 2 (.int .i64 l6) rfl
              refine bodyPost_ret (results_cell_row rfl _ _ gR 82 #[.slice Vn N.length cn, .int .i64 l3, .int .i64 l6] (0, 0) _ rfl (S8.blk 10 rfl) hu85 rfl (by kernel_rfl)) rfl ?_
              rw [HFR.out]
              refine ⟨vA6, Vn, cn, by rw [HNL.out], ?_⟩
              rw [← HNL.out]
              exact ((((((S8.erase 10).erase 9).erase 8).erase 7).erase 5).erase 4).erase 3
end Go.Proofs.Ytpoadkogcdfglaa.PH
