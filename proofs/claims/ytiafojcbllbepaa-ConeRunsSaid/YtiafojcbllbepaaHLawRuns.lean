/- The law ConeRuns: a run of the cone's circuit, lifted, does the same in the circuit. -/
import Derived.Test.YtiafojcbllbepaaHAlive28
import Derived.Test.YtiafojcbllbepaaHRunsP
import Derived.Test.YtiafojcbllbepaaHLawPasses
import Derived.Test.YtiafojcbllbepaaHTraceW
import Derived.Test.YtiafojcbllbepaaHSameT
import Derived.Test.YtiafojcbllbepaaHPackV
namespace Go.Proofs.Ytiafojcbllbepaa.PH
open Go.RowKit Go.Proofs.YtiafojcbllbepaaW.PrintWords Go.Proofs.YtiafojcbllbepaaW.PrintLast
set_option linter.unusedVariables false
set_option linter.unusedSimpArgs false

@[reducible] def cc5 (p : CP) (c : Circ) : Array Value := #[.int .i64 c.f0, .slice p.A1 c.f1.length p.c1, .slice p.A2 c.f2.length p.c2, .slice p.A3 c.f3.length p.c3, .slice p.A4 c.f4.length p.c4]
@[reducible] def tc2 (p : TP) (t : Run) : Array Value := #[.slice p.A0 t.f0.length p.c0, .slice p.A1 t.f1.length p.c1]
theorem blk2 {w : World} {g : Nat} {t : TypeId} {v0 v1 : Value} (h : w.heap[g]? = some (.cells #[v0, v1] t (0, 0))) : w.cell? ⟨g, 0, none⟩ = some v0 ∧ w.cell? ⟨g, 1, none⟩ = some v1 := ⟨blk_cell h 0, blk_cell h 1⟩
theorem blk12 {w : World} {g : Nat} {t : TypeId} {v0 v1 v2 v3 v4 v5 v6 v7 v8 v9 v10 v11 : Value} (h : w.heap[g]? = some (.cells #[v0, v1, v2, v3, v4, v5, v6, v7, v8, v9, v10, v11] t (0, 0))) :
    (w.cell? ⟨g, 0, none⟩ = some v0 ∧ w.cell? ⟨g, 1, none⟩ = some v1 ∧ w.cell? ⟨g, 2, none⟩ = some v2 ∧ w.cell? ⟨g, 3, none⟩ = some v3 ∧ w.cell? ⟨g, 4, none⟩ = some v4) ∧ w.cell? ⟨g, 5, none⟩ = some v5 ∧ w.cell? ⟨g, 6, none⟩ = some v6 ∧ w.cell? ⟨g, 7, none⟩ = some v7 ∧ w.cell? ⟨g, 8, none⟩ = some v8 ∧ w.cell? ⟨g, 9, none⟩ = some v9 ∧ w.cell? ⟨g, 10, none⟩ = some v10 ∧ w.cell? ⟨g, 11, none⟩ = some v11 :=
  ⟨⟨blk_cell h 0, blk_cell h 1, blk_cell h 2, blk_cell h 3, blk_cell h 4⟩, blk_cell h 5, blk_cell h 6, blk_cell h 7, blk_cell h 8, blk_cell h 9, blk_cell h 10, blk_cell h 11⟩
/-- A circuit that is right has numbers of 64 bits. -/
theorem fits_check {c : Circ} (h : check c = 0) : c.Fits := by
  have hi := inside_of h
  have hg := gCheck_ok h
  have hm := check_more h
  have hs : (sizeC c : Int) ≤ 1000 := by unfold sizeC; omega
  have hv : ∀ l : Int, 0 ≤ l → varOf l ≤ sizeC c → I64 l := fun l h0 h1 => by
    unfold varOf at h1
    exact ⟨by omega, by omega⟩
  refine ⟨by omega, by omega, ⟨by omega, by omega⟩, fun x hx => ?_, fun x hx => ?_, fun l hl => ?_, fun l hl => ?_⟩
  · obtain ⟨i, hk, rfl⟩ := List.getElem_of_mem hx
    have h1 := hi.hl _ c.f1[i].f0 (by rw [lat_reads hk]; exact List.mem_singleton_self _)
    have h2 := hm.2.2.1 _ hx
    exact ⟨hv _ h1.1 h1.2, ⟨by omega, by omega⟩⟩
  · obtain ⟨i, hk, rfl⟩ := List.getElem_of_mem hx
    have h1 := hi.hg _ c.f2[i].f0 (by rw [gate_reads hk]; simp)
    have h2 := hi.hg _ c.f2[i].f1 (by rw [gate_reads hk]; simp)
    exact ⟨hv _ h1.1 (by omega), hv _ h2.1 (by omega)⟩
  · have h1 := hi.hp l (List.mem_append_left _ hl); exact hv _ h1.1 h1.2
  · have h1 := hi.hp l (List.mem_append_right _ hl); exact hv _ h1.1 h1.2
set_option maxHeartbeats 16000000 in
set_option maxRecDepth 100000 in
theorem law_ConeRuns (p : CP) (c : Circ) (v : TP) (t : Run) (w : World) (h : RC w p c) (ht : RT w v t) (nc : c.Nums) (ntr : (∀ b ∈ t.f0, True) ∧ ∀ r ∈ t.f1, ∀ b ∈ r, True) :
    Calls Try.prog 7 #[cv p c, tv v t] w fun e w' => e = .returned (.bool true) ∧ Below w.heap.size w w' := by
  have HH := Aside0.mk h
  have HT := Aside0.mk ht
  have hu26 := Try.underlying26
  have hu40 := Try.underlying40
  have hu64 := Try.underlying64
  have hu38 := Try.underlying38
  have NC := Aside0.mk nc
  have S := (((Parts.start w).new 26 (cc5 p c)).new 64 (tc2 v t))
  simp only [sz_new] at S
  replace S := Aside0.mk S
  obtain ⟨o, ho⟩ : ∃ o, great c = o := ⟨_, rfl⟩
  have HO := Aside0.mk ho
  clear h ht nc ntr ho
  go_enter Try.func7, Try.ntmps7
  go_upto_region 1 with (fail)
  obtain ⟨w1, hw1⟩ : ∃ W, ((w.alloc (.cells (cc5 p c) 26)).alloc (.cells (tc2 v t) 64)) = W := ⟨_, rfl⟩
  rw [hw1] at S ⊢
  clear hw1
  go_wp2_with fail
  refine (law28_alive _).mono ?_
  rintro e w2 ⟨rfl, hb⟩
  replace S := Aside0.mk (S.out.below hb)
  clear hb
  obtain ⟨a_0, a_1, a_2, a_3, a_4⟩ := blk5 (S.out.blk 1 rfl)
  go_wp2_with fail
  refine (ref02_Great p c _).mono ?_
  rintro e w3 ⟨rfl, hb⟩
  replace S := Aside0.mk (S.out.below hb)
  rw [HO.out]
  clear a_0 a_1 a_2 a_3 a_4 hb
  cases o with
  | true =>
    go_wp2
    go_ret
    exact ⟨rfl, S.out.B⟩
  | false =>
  have FC := Aside0.mk (NC.out.fitsC HO.out)
  obtain ⟨t_0, t_1⟩ := blk2 (S.out.blk 0 rfl)
  go_wp2_with fail
  refine (ref25_GreatTrace v t _ (HT.out.below S.out.B)).mono ?_
  rintro e w4 ⟨ba, rfl, hba, hb⟩
  replace S := Aside0.mk (S.out.below hb)
  clear hba
  clear t_0 t_1 hb
  cases ba with
  | true =>
    go_wp2
    go_ret
    exact ⟨rfl, S.out.B⟩
  | false =>
  obtain ⟨a_0, a_1, a_2, a_3, a_4⟩ := blk5 (S.out.blk 1 rfl)
  go_wp2_with fail
  refine (ref02_Check p c _ (HH.out.below S.out.B) FC.out).mono ?_
  rintro e w5 ⟨rfl, hb⟩
  replace S := Aside0.mk (S.out.below hb)
  clear a_0 a_1 a_2 a_3 a_4 hb
  by_cases hc : check c = 0
  case neg =>
    have hcb : (check c != 0) = true := bne_iff_ne.2 hc
    clear hc
    go_wp2
    go_ret
    exact ⟨rfl, S.out.B⟩
  rw [hc]
  have HC := Aside0.mk hc
  have hcr := new_check hc
  obtain ⟨R, hR⟩ : ∃ R, coneC c = R := ⟨_, rfl⟩
  obtain ⟨L, hL⟩ : ∃ L, coneL c = L := ⟨_, rfl⟩
  rw [hR] at hcr
  have HCQ := Aside0.mk hcr
  have FR := Aside0.mk (fits_check hcr)
  have FL := Aside0.mk (hL ▸ cone_lift_fits hc)
  have HLC := Aside0.mk (show liftCheck c R L = 0 from by rw [← hL, ← hR]; exact (liftErr_eq _ _ _).symm.trans (cone_err hc))
  obtain ⟨⟨x, f⟩, hx⟩ : ∃ y, traceC c R L t = y := ⟨_, rfl⟩
  have HTR := Aside0.mk (show (f ≠ 0 → runFits R t = false ∨ 100 < t.f1.length) ∧ (f = 0 → runFits R t = true ∧ t.f1.length ≤ 100 ∧ x = coneRun c t) from by
    have h_ := cone_trace hc t
    rw [hR, hL, hx] at h_
    exact h_)
  have C2 := Aside0.mk (fun W (hb : Below w.heap.size w W) => show Calls Try.prog 12 #[cv p c] W (fun e w' => RetRd W w' ⟨R, L⟩ 0 e) from by
    have h_ := cone_Pass p c W (HH.out.below hb) FC.out
    unfold passR at h_
    rw [if_pos hc, show passL c (coneB c) (toldF (coneB c) 0) = L from hL, show passC c (coneB c) (toldF (coneB c) 0) = R from hR] at h_
    exact h_)
  have CT := Aside0.mk (fun W q5 q6 (hb : Below w.heap.size w W) (h5 : RC W q5 R) (h6 : RL W q6 L) => show Calls Try.prog 25 #[cv p c, cv q5 R, lv q6 L, tv v t] W (fun e w' => RetTr W w' (x, f) e) from hx ▸ lift_Trace p q5 c R q6 L v t W (HH.out.below hb) h5 h6 (HT.out.below hb) FC.out FR.out FL.out)
  have HRR := Aside0.mk hR
  have HLL := Aside0.mk hL
  clear hc hcr hL hR hx
  obtain ⟨a_0, a_1, a_2, a_3, a_4⟩ := blk5 (S.out.blk 1 rfl)
  go_wp2_with fail
  refine (C2.out _ S.out.B).mono ?_
  rintro e w6 ⟨p5, q5, rfl, hp5, hq5, hb⟩
  replace S := Aside0.mk (S.out.below hb)
  have RR := Aside0.mk hp5
  have RL5 := Aside0.mk hq5
  clear hp5 hq5 C2
  clear a_0 a_1 a_2 a_3 a_4 hb
  replace S := Aside0.mk (S.out.new 40 (rcells p5 q5 ⟨R, L⟩))
  replace RR := Aside0.mk (RR.out.below (below_alloc (Below.refl _ _) (.cells (rcells p5 q5 ⟨R, L⟩) 40)))
  replace RL5 := Aside0.mk (RL5.out.below (below_alloc (Below.refl _ _) (.cells (rcells p5 q5 ⟨R, L⟩) 40)))
  go_upto_region 5 with (fail)
  generalize w6.heap.size = gr at *
  generalize w6.alloc (.cells (rcells p5 q5 ⟨R, L⟩) 40) = w6b at *
  obtain ⟨r_c0, r_f0⟩ := S.out.cell 0 rfl 0 rfl
  obtain ⟨r_c1, r_f1⟩ := S.out.cell 0 rfl 1 rfl
  obtain ⟨r_c2, r_f2⟩ := S.out.cell 0 rfl 2 rfl
  obtain ⟨r_c3, r_f3⟩ := S.out.cell 0 rfl 3 rfl
  obtain ⟨r_c4, r_f4⟩ := S.out.cell 0 rfl 4 rfl
  go_wp2_with fail
  refine (ref02_Check p5 R _ RR.out FR.out).mono ?_
  rintro e w7 ⟨rfl, hb⟩
  replace S := Aside0.mk (S.out.below hb)
  replace RR := Aside0.mk (RR.out.below hb)
  replace RL5 := Aside0.mk (RL5.out.below hb)
  rw [HCQ.out]
  clear r_c0 r_f0 r_c1 r_f1 r_c2 r_f2 r_c3 r_f3 r_c4 r_f4 hb
  obtain ⟨a_0, a_1, a_2, a_3, a_4⟩ := blk5 (S.out.blk 2 rfl)
  obtain ⟨r_c0, r_f0⟩ := S.out.cell 0 rfl 0 rfl
  obtain ⟨r_c1, r_f1⟩ := S.out.cell 0 rfl 1 rfl
  obtain ⟨r_c2, r_f2⟩ := S.out.cell 0 rfl 2 rfl
  obtain ⟨r_c3, r_f3⟩ := S.out.cell 0 rfl 3 rfl
  obtain ⟨r_c4, r_f4⟩ := S.out.cell 0 rfl 4 rfl
  obtain ⟨r_c5, r_f5⟩ := S.out.cell 0 rfl 5 rfl
  obtain ⟨r_c6, r_f6⟩ := S.out.cell 0 rfl 6 rfl
  obtain ⟨r_c7, r_f7⟩ := S.out.cell 0 rfl 7 rfl
  obtain ⟨r_c8, r_f8⟩ := S.out.cell 0 rfl 8 rfl
  obtain ⟨r_c9, r_f9⟩ := S.out.cell 0 rfl 9 rfl
  obtain ⟨r_c10, r_f10⟩ := S.out.cell 0 rfl 10 rfl
  obtain ⟨r_c11, r_f11⟩ := S.out.cell 0 rfl 11 rfl
  go_wp2_with fail
  refine (ref25_Check p p5 c R q5 L _ (HH.out.below S.out.B) RR.out RL5.out FC.out FR.out FL.out).mono ?_
  rintro e w8 ⟨rfl, hb⟩
  replace S := Aside0.mk (S.out.below hb)
  replace RR := Aside0.mk (RR.out.below hb)
  replace RL5 := Aside0.mk (RL5.out.below hb)
  rw [HLC.out]
  clear a_0 a_1 a_2 a_3 a_4 r_c0 r_f0 r_c1 r_f1 r_c2 r_f2 r_c3 r_f3 r_c4 r_f4 r_c5 r_f5 r_c6 r_f6 r_c7 r_f7 r_c8 r_f8 r_c9 r_f9 r_c10 r_f10 r_c11 r_f11 hb
  obtain ⟨a_0, a_1, a_2, a_3, a_4⟩ := blk5 (S.out.blk 2 rfl)
  obtain ⟨t_0, t_1⟩ := blk2 (S.out.blk 1 rfl)
  obtain ⟨r_c0, r_f0⟩ := S.out.cell 0 rfl 0 rfl
  obtain ⟨r_c1, r_f1⟩ := S.out.cell 0 rfl 1 rfl
  obtain ⟨r_c2, r_f2⟩ := S.out.cell 0 rfl 2 rfl
  obtain ⟨r_c3, r_f3⟩ := S.out.cell 0 rfl 3 rfl
  obtain ⟨r_c4, r_f4⟩ := S.out.cell 0 rfl 4 rfl
  obtain ⟨r_c5, r_f5⟩ := S.out.cell 0 rfl 5 rfl
  obtain ⟨r_c6, r_f6⟩ := S.out.cell 0 rfl 6 rfl
  obtain ⟨r_c7, r_f7⟩ := S.out.cell 0 rfl 7 rfl
  obtain ⟨r_c8, r_f8⟩ := S.out.cell 0 rfl 8 rfl
  obtain ⟨r_c9, r_f9⟩ := S.out.cell 0 rfl 9 rfl
  obtain ⟨r_c10, r_f10⟩ := S.out.cell 0 rfl 10 rfl
  obtain ⟨r_c11, r_f11⟩ := S.out.cell 0 rfl 11 rfl
  go_wp2_with fail
  refine (CT.out _ p5 q5 S.out.B RR.out RL5.out).mono ?_
  rintro e w9 ⟨qx, rfl, hrx, hb⟩
  replace S := Aside0.mk (S.out.below hb)
  replace RR := Aside0.mk (RR.out.below hb)
  replace RL5 := Aside0.mk (RL5.out.below hb)
  have RX := Aside0.mk hrx
  clear hrx CT
  clear a_0 a_1 a_2 a_3 a_4 t_0 t_1 r_c0 r_f0 r_c1 r_f1 r_c2 r_f2 r_c3 r_f3 r_c4 r_f4 r_c5 r_f5 r_c6 r_f6 r_c7 r_f7 r_c8 r_f8 r_c9 r_f9 r_c10 r_f10 r_c11 r_f11 hb
  replace S := Aside0.mk (S.out.new 64 (tc2 qx x))
  replace RR := Aside0.mk (RR.out.below (below_alloc (Below.refl _ _) (.cells (tc2 qx x) 64)))
  replace RL5 := Aside0.mk (RL5.out.below (below_alloc (Below.refl _ _) (.cells (tc2 qx x) 64)))
  replace RX := Aside0.mk (RX.out.below (below_alloc (Below.refl _ _) (.cells (tc2 qx x) 64)))
  go_upto_region 8 with (fail)
  generalize w9.heap.size = gx at *
  generalize w9.alloc (.cells (tc2 qx x) 64) = w9b at *
  by_cases hf : f = 0
  case neg =>
    have hfb : (f != 0) = true := bne_iff_ne.2 hf
    have HFF := Aside0.mk (HTR.out.1 hf)
    clear hf
    obtain ⟨r_c0, r_f0⟩ := S.out.cell 1 rfl 0 rfl
    obtain ⟨r_c1, r_f1⟩ := S.out.cell 1 rfl 1 rfl
    obtain ⟨r_c2, r_f2⟩ := S.out.cell 1 rfl 2 rfl
    obtain ⟨r_c3, r_f3⟩ := S.out.cell 1 rfl 3 rfl
    obtain ⟨r_c4, r_f4⟩ := S.out.cell 1 rfl 4 rfl
    obtain ⟨t_0, t_1⟩ := blk2 (S.out.blk 2 rfl)
    go_wp2_with fail
    refine (ref25_Fits p5 R v t _ FR.out.h1 FR.out.i0 (HT.out.below S.out.B)).mono ?_
    rintro e w10 ⟨rfl, hb⟩
    replace S := Aside0.mk (S.out.below hb)
    replace RR := Aside0.mk (RR.out.below hb)
    replace RL5 := Aside0.mk (RL5.out.below hb)
    replace RX := Aside0.mk (RX.out.below hb)
    clear r_c0 r_f0 r_c1 r_f1 r_c2 r_f2 r_c3 r_f3 r_c4 r_f4 t_0 t_1 hb
    obtain ⟨rf, hrf⟩ : ∃ b, runFits R t = b := ⟨_, rfl⟩
    rw [hrf] at HFF ⊢
    clear hrf
    obtain ⟨t_0, t_1⟩ := blk2 (S.out.blk 2 rfl)
    cases rf with
    | false =>
      go_wp2
      go_ret
      exact ⟨rfl, S.out.B⟩
    | true =>
      have h1 : decide (100 < (t.f1.length : Int)) = true := decide_eq_true (by rcases HFF.out with h_ | h_; cases h_; omega)
      go_wp2
      go_ret
      exact ⟨rfl, S.out.B⟩
  have hfb : (f != 0) = false := bne_eq_false_iff_eq.2 hf
  obtain ⟨hfit, h100, hxe⟩ := HTR.out.2 hf
  subst hf
  have hfo := runFits_ok hfit
  have HF1 := Aside0.mk hfo.1
  have HF3 := Aside0.mk hfo.2.2
  have HXE := Aside0.mk hxe
  have hlen := coneRun_len (c := c) hfo.2.1
  rw [← hxe] at hlen
  have HX1 := Aside0.mk hlen.1
  have HX2 := Aside0.mk hlen.2
  have H100 := Aside0.mk h100
  have HXS := Aside0.mk (show RelS c x.f0 t.f0 from by rw [hxe]; exact rel_start HC.out (by rw [HRR.out]; exact hfo.1))
  have HXI := Aside0.mk (show ∀ k (hk : k < x.f1.length) (hk2 : k < t.f1.length), RelI c x.f1[k] t.f1[k] from fun k hk hk2 => by
    have e : x.f1[k] = liftRow (insK (toldF (coneB c) 0) c.f0.toNat) t.f1[k] := by subst hxe; exact coneRun_at hk hk2
    rw [e]
    exact rel_ins HC.out (by rw [HRR.out]; exact hfo.2.2 _ (List.getElem_mem hk2)))
  have HST := Aside0.mk (show startsB R t.f0 = true → startsB c x.f0 = true from fun h_ => by
    rw [hxe]
    rw [← HRR.out] at h_
    exact starts_rel HC.out (by rw [HRR.out]; exact hfo.1) h_)
  have CF := Aside0.mk (fun W (hb : Below w.heap.size w W) (hr : RT W qx x) => show Calls Try.prog 27 #[cv p c, .slice qx.A0 x.f0.length qx.c0] W (fun e w' => e = .returned (.tuple #[.bool (startsB c x.f0), .int .i64 0]) ∧ Below W.heap.size W w') from by
    have h_ := traces_First p c qx.A0 qx.c0 x.f0 W (HH.out.below hb) FC.out hr.s0
    unfold firstB at h_
    rw [if_neg (by rw [HC.out]; decide), if_neg (by rw [HXS.out.l1]; simp)] at h_
    exact h_)
  have CG := Aside0.mk (fun W (hb : Below w.heap.size w W) (hr : RC W p5 R) => show Calls Try.prog 27 #[cv p5 R, .slice v.A0 t.f0.length v.c0] W (fun e w' => e = .returned (.tuple #[.bool (startsB R t.f0), .int .i64 0]) ∧ Below W.heap.size W w') from by
    have h_ := traces_First p5 R v.A0 v.c0 t.f0 W hr FR.out (HT.out.below hb).s0
    unfold firstB at h_
    rw [if_neg (by rw [HCQ.out]; decide), if_neg (by rw [hfo.1]; simp)] at h_
    exact h_)
  clear hfit h100 hxe hfo hlen HTR
  obtain ⟨a_0, a_1, a_2, a_3, a_4⟩ := blk5 (S.out.blk 3 rfl)
  obtain ⟨x_0, x_1⟩ := blk2 (S.out.blk 0 rfl)
  go_wp2_with fail
  refine (CF.out _ S.out.B RX.out).mono ?_
  rintro e w10 ⟨rfl, hb⟩
  replace S := Aside0.mk (S.out.below hb)
  replace RR := Aside0.mk (RR.out.below hb)
  replace RL5 := Aside0.mk (RL5.out.below hb)
  replace RX := Aside0.mk (RX.out.below hb)
  clear CF hfb
  clear a_0 a_1 a_2 a_3 a_4 x_0 x_1 hb
  obtain ⟨r_c0, r_f0⟩ := S.out.cell 1 rfl 0 rfl
  obtain ⟨r_c1, r_f1⟩ := S.out.cell 1 rfl 1 rfl
  obtain ⟨r_c2, r_f2⟩ := S.out.cell 1 rfl 2 rfl
  obtain ⟨r_c3, r_f3⟩ := S.out.cell 1 rfl 3 rfl
  obtain ⟨r_c4, r_f4⟩ := S.out.cell 1 rfl 4 rfl
  obtain ⟨t_0, t_1⟩ := blk2 (S.out.blk 2 rfl)
  go_wp2_with fail
  refine (CG.out _ S.out.B RR.out).mono ?_
  rintro e w11 ⟨rfl, hb⟩
  replace S := Aside0.mk (S.out.below hb)
  replace RR := Aside0.mk (RR.out.below hb)
  replace RL5 := Aside0.mk (RL5.out.below hb)
  replace RX := Aside0.mk (RX.out.below hb)
  clear CG
  clear r_c0 r_f0 r_c1 r_f1 r_c2 r_f2 r_c3 r_f3 r_c4 r_f4 t_0 t_1 hb
  obtain ⟨s1, hs1⟩ : ∃ b, startsB c x.f0 = b := ⟨_, rfl⟩
  obtain ⟨s2, hs2⟩ : ∃ b, startsB R t.f0 = b := ⟨_, rfl⟩
  rw [hs1, hs2] at HST ⊢
  clear hs1 hs2
  have hl1 : decide (x.f1.length < 1) = false := decide_eq_false (by have := HX1.out; omega)
  have hl1b : decide ((x.f1.length : Int) < 1) = false := decide_eq_false (by have := HX1.out; omega)
  have hl2 : decide (t.f1.length < x.f1.length) = false := decide_eq_false (by have := HX2.out; omega)
  have hl0 : ¬ x.f1.length = 0 := by have := HX1.out; omega
  have hs3 : s2 = false ∨ (s2 = true ∧ s1 = true) := by cases s2 with | false => exact .inl rfl | true => exact .inr ⟨rfl, HST.out rfl⟩
  obtain ⟨x_0, x_1⟩ := blk2 (S.out.blk 0 rfl)
  obtain ⟨t_0, t_1⟩ := blk2 (S.out.blk 2 rfl)
  clear HST
  rcases hs3 with rfl | ⟨rfl, rfl⟩
  all_goals go_upto_region 14 with (fail)
  all_goals
    go_quiet (fail)
    replace S := Aside0.mk (S.out.below (pw_below_drewN (Below.refl _ _) nq))
    replace RR := Aside0.mk (RR.out.below (pw_below_drewN (Below.refl _ _) nq))
    replace RX := Aside0.mk (RX.out.below (pw_below_drewN (Below.refl _ _) nq))
    clear hl1 hl1b hl2 hl0 x_0 x_1 t_0 t_1
    generalize w11.drewN nq = wd at *
    obtain ⟨XF, xf, XI, xi⟩ := qx
    obtain ⟨TF, tf, TI, ti⟩ := v
    have HLC1 := Aside0.mk (check_lits HC.out).1
    have HLC2 := Aside0.mk (check_lits HCQ.out).1
    go_upto_region 16 with (fail)
    go_loopg [14, 15, 16, 17, 18, 19, 20, 21, 22, 23, 24, 25, 26] x.f1.length (fun gg s14 s15 s16 _ _ _ _ _ _ _ _ _ _ wr => ∃ (k : Nat) (A : Option Addr) (d : Nat) (st : List Bool) (B : Option Addr) (e : Nat) (st2 : List Bool), s14 = .slice A st.length d ∧ s15 = .slice B st2.length e ∧ s16 = .int .i64 k ∧ Aside0 (k ≤ x.f1.length ∧ x.f1.length - k ≤ gg) ∧ Aside0 (Below wd.heap.size wd wr) ∧ Aside0 (RS Kd.bool wr A d st ∧ RS Kd.bool wr B e st2) ∧ Aside0 (RelS c st st2))
    case atStart => exact ⟨0, XF, xf, x.f0, TF, tf, t.f0, rfl, rfl, rfl, ⟨by omega, by omega⟩, ⟨Below.refl _ _⟩, ⟨RX.out.s0, (HT.out.below S.out.B).s0⟩, HXS⟩
    case round =>
      obtain ⟨k, A, d, st, B, e, st2, rfl, rfl, rfl, HX, BW, HRS, HRL⟩ := hrel
      have SB := Aside0.mk (S.out.below BW.out)
      obtain ⟨q0, q1⟩ := blk2 (SB.out.blk 0 rfl)
      by_cases hlt : k < x.f1.length
      · have hlt2 : k < t.f1.length := by have := HX2.out; omega
        obtain ⟨ad, P, cP, e1, hx, hP⟩ := at_row (RX.out.below BW.out).s1.r k hlt
        obtain ⟨bd, Q, cQ, e2, hy, hQ⟩ := at_row (HT.out.below SB.out.B).s1.r k hlt2
        dsimp only at e1 e2
        subst e1
        subst e2
        have hri := HXI.out k hlt hlt2
        have hl3 := HF3.out _ (List.getElem_mem hlt2)
        obtain ⟨ins, hins⟩ : ∃ ins, x.f1[k] = ins := ⟨_, rfl⟩
        obtain ⟨ins2, hins2⟩ : ∃ ins, t.f1[k] = ins := ⟨_, rfl⟩
        rw [hins] at hx hP hri
        rw [hins2] at hy hQ hri hl3
        have HXW := Aside0.mk (fun W (hb : Below wr.heap.size wr W) => pw_cell_below hb hx)
        have HYW := Aside0.mk (fun W (hb : Below wr.heap.size wr W) => pw_cell_below hb hy)
        have HALL := Aside0.mk (fun W (hb : Below wr.heap.size wr W) => (⟨blk_below (SB.out.blk 3 rfl) hb, blk_below (SB.out.blk 1 rfl) hb, blk_below (SB.out.blk 0 rfl) hb, blk_below (SB.out.blk 2 rfl) hb⟩ : _ ∧ _ ∧ _ ∧ _))
        obtain ⟨hv, hhv⟩ : ∃ b, holdsOf c st ins = b := ⟨_, rfl⟩
        obtain ⟨bl, hbl⟩ : ∃ b, badsOf c st ins = b := ⟨_, rfl⟩
        obtain ⟨n1, hn1⟩ : ∃ b, nextOf c st ins = b := ⟨_, rfl⟩
        obtain ⟨n2, hn2⟩ : ∃ b, nextOf R st2 ins2 = b := ⟨_, rfl⟩
        have HNR := Aside0.mk (show RelS c n1 n2 from by rw [← hn1, ← hn2, ← HRR.out]; exact next_rel HC.out HRL.out hri)
        have hv2 : holdsOf R st2 ins2 = hv := by rw [← hhv, ← HRR.out]; exact (holds_rel HC.out HRL.out hri).symm
        have hb2 : badsOf R st2 ins2 = bl := by rw [← hbl, ← HRR.out]; exact (bads_rel HC.out HRL.out hri).symm
        have hs2l : st2.length = R.f1.length := by rw [HRL.out.l2, HRR.out]
        have P1 := Aside0.mk (fun W (hb : Below wr.heap.size wr W) => show Calls Try.prog 28 #[cv p c, .slice A st.length d, .slice P ins.length cP] W (fun e w' => RetPp W w' hv bl e) from (by
          have h_ := values_Props p c A d st P cP ins W (HH.out.below (SB.out.B.trans (hb.mono SB.out.z))) FC.out (HRS.out.1.below hb) (hP.below hb) HC.out HRL.out.l1 hri.l1 HLC1.out
          rw [hhv, hbl] at h_
          exact h_))
        have P2 := Aside0.mk (fun W (hb : Below wr.heap.size wr W) => show Calls Try.prog 28 #[cv p5 R, .slice B st2.length e, .slice Q ins2.length cQ] W (fun e w' => RetPp W w' hv bl e) from (by
          have h_ := values_Props p5 R B e st2 Q cQ ins2 W ((RR.out.below BW.out).below hb) FR.out (HRS.out.2.below hb) (hQ.below hb) HCQ.out hs2l hl3 HLC2.out
          rw [hv2, hb2] at h_
          exact h_))
        have N1 := Aside0.mk (fun W (hb : Below wr.heap.size wr W) => show Calls Try.prog 30 #[cv p c, .slice A st.length d, .slice P ins.length cP] W (fun e w' => RetVo W w' n1 e) from (by
          have h_ := values_Next p c A d st P cP ins W (HH.out.below (SB.out.B.trans (hb.mono SB.out.z))) FC.out (HRS.out.1.below hb) (hP.below hb) HC.out HRL.out.l1 hri.l1 HLC1.out
          rw [hn1] at h_
          exact h_))
        have N2 := Aside0.mk (fun W (hb : Below wr.heap.size wr W) => show Calls Try.prog 30 #[cv p5 R, .slice B st2.length e, .slice Q ins2.length cQ] W (fun e w' => RetVo W w' n2 e) from (by
          have h_ := values_Next p5 R B e st2 Q cQ ins2 W ((RR.out.below BW.out).below hb) FR.out (HRS.out.2.below hb) (hQ.below hb) HCQ.out hs2l hl3 HLC2.out
          rw [hn2] at h_
          exact h_))
        have HLT := Aside0.mk hlt
        have hlti : (k : Int) < x.f1.length := by omega
        have hlti2 : (k : Int) < t.f1.length := by omega
        clear hhv hbl hn1 hn2 hv2 hb2 hs2l hins hins2 hlt hlt2 hri hl3 hP hQ
        obtain ⟨b1, b2, b3, b4⟩ := HALL.out _ (Below.refl _ _)
        obtain ⟨d0, d1, d2, d3, d4⟩ := blk5 b1
        obtain ⟨⟨e0, e1, e2, e3, e4⟩, _⟩ := blk12 b2
        obtain ⟨g0, g1⟩ := blk2 b4
        go_wp2
        refine start_ (n := 15) (S := (fun W => Below wr.heap.size wr W)) (ds := []) #[false, false, false, false, false, false, false, false, false, false, false, false, false, false, false] (by as_aux_lemma => kernel_rfl) rfl rfl (below_drew (Below.refl _ _)) (fun hHeld => ?_)
        refine take_ (i := 0) (N := some 147) (v := ?_) (a' := ?_) #[true, false, false, false, false, false, false, false, false, false, false, false, false, false, false] rfl rfl (by as_aux_lemma => kernel_rfl) (fun _ _ _ h => h) (Or.inl ⟨by rfl, ?_⟩) hHeld ?_ ?_
        rotate_left
        · intro w' s0
          obtain ⟨b1, b2, b3, b4⟩ := HALL.out _ s0; obtain ⟨d0, d1, d2, d3, d4⟩ := blk5 b1; obtain ⟨⟨e0, e1, e2, e3, e4⟩, _⟩ := blk12 b2; obtain ⟨f0, f1⟩ := blk2 b3; obtain ⟨g0, g1⟩ := blk2 b4; have hx_ := HXW.out _ s0; have hy_ := HYW.out _ s0
          go_simp
          with_reducible rfl
        rotate_left
        · simp only [Act.put, List.setIfInBounds_toArray, List.set_cons_zero, List.set_cons_succ]
          rfl
        refine pure_ (i := 1) (N := some 148) (v := ?_) (a' := ?_) #[true, true, false, false, false, false, false, false, false, false, false, false, false, false, false] rfl rfl (by as_aux_lemma => kernel_rfl) (fun _ _ _ h => h) (Or.inl ⟨by rfl, ?_⟩) ?_ ?_
        rotate_left
        · intro w'
          go_simp
          with_reducible rfl
        rotate_left
        · simp only [Act.put, List.setIfInBounds_toArray, List.set_cons_zero, List.set_cons_succ]
          rfl
        refine pure_ (i := 2) (N := some 149) (v := ?_) (a' := ?_) #[true, true, true, false, false, false, false, false, false, false, false, false, false, false, false] rfl rfl (by as_aux_lemma => kernel_rfl) (fun _ _ _ h => h) (Or.inl ⟨by rfl, ?_⟩) ?_ ?_
        rotate_left
        · intro w'
          go_simp
          with_reducible rfl
        rotate_left
        · simp only [Act.put, List.setIfInBounds_toArray, List.set_cons_zero, List.set_cons_succ]
          rfl
        refine take_ (i := 3) (N := some 150) (v := ?_) (a' := ?_) #[true, true, true, true, false, false, false, false, false, false, false, false, false, false, false] rfl rfl (by as_aux_lemma => kernel_rfl) (fun _ _ _ h => h) (Or.inl ⟨by rfl, ?_⟩) hHeld ?_ ?_
        rotate_left
        · intro w' s0
          obtain ⟨b1, b2, b3, b4⟩ := HALL.out _ s0; obtain ⟨d0, d1, d2, d3, d4⟩ := blk5 b1; obtain ⟨⟨e0, e1, e2, e3, e4⟩, _⟩ := blk12 b2; obtain ⟨f0, f1⟩ := blk2 b3; obtain ⟨g0, g1⟩ := blk2 b4; have hx_ := HXW.out _ s0; have hy_ := HYW.out _ s0
          go_simp
          with_reducible rfl
        rotate_left
        · simp only [Act.put, List.setIfInBounds_toArray, List.set_cons_zero, List.set_cons_succ]
          rfl
        refine pure_ (i := 4) (N := some 151) (v := ?_) (a' := ?_) #[true, true, true, true, true, false, false, false, false, false, false, false, false, false, false] rfl rfl (by as_aux_lemma => kernel_rfl) (fun _ _ _ h => h) (Or.inl ⟨by rfl, ?_⟩) ?_ ?_
        rotate_left
        · intro w'
          go_simp
          with_reducible rfl
        rotate_left
        · simp only [Act.put, List.setIfInBounds_toArray, List.set_cons_zero, List.set_cons_succ]
          rfl
        refine pure_ (i := 5) (N := some 152) (v := ?_) (a' := ?_) #[true, true, true, true, true, true, false, false, false, false, false, false, false, false, false] rfl rfl (by as_aux_lemma => kernel_rfl) (fun _ _ _ h => h) (Or.inl ⟨by rfl, ?_⟩) ?_ ?_
        rotate_left
        · intro w'
          go_simp
          with_reducible rfl
        rotate_left
        · simp only [Act.put, List.setIfInBounds_toArray, List.set_cons_zero, List.set_cons_succ]
          rfl
        refine take_ (i := 6) (N := some 153) (v := ?_) (a' := ?_) #[true, true, true, true, true, true, true, false, false, false, false, false, false, false, false] rfl rfl (by as_aux_lemma => kernel_rfl) (fun _ _ _ h => h) (Or.inl ⟨by rfl, ?_⟩) hHeld ?_ ?_
        rotate_left
        · intro w' s0
          obtain ⟨b1, b2, b3, b4⟩ := HALL.out _ s0; obtain ⟨d0, d1, d2, d3, d4⟩ := blk5 b1; obtain ⟨⟨e0, e1, e2, e3, e4⟩, _⟩ := blk12 b2; obtain ⟨f0, f1⟩ := blk2 b3; obtain ⟨g0, g1⟩ := blk2 b4; have hx_ := HXW.out _ s0; have hy_ := HYW.out _ s0
          go_simp
          with_reducible rfl
        rotate_left
        · simp only [Act.put, List.setIfInBounds_toArray, List.set_cons_zero, List.set_cons_succ]
          rfl
        refine one_ (i := 7) (N := some 154) #[true, true, true, true, true, true, true, true, false, false, false, false, false, false, false] rfl rfl (by as_aux_lemma => kernel_rfl) (by decide) (fun K hK => ?_)
        refine goes_ Try.func28 (by as_aux_lemma => kernel_rfl) rfl #[cv p c, .slice A st.length d, .slice P ins.length cP] (by rfl) rfl rfl (by simp only [List.map_toArray, List.map_cons, List.map_nil] <;> rfl) ?_
        refine (P1.out _ hHeld).mono ?_
        rintro e w5 ⟨A5, c5, rfl, hr, hb⟩
        refine ⟨_, rfl, ?_⟩
        have hB := hHeld.trans (hb.mono hHeld.size)
        have R5 := Aside0.mk hr
        have w5B := Aside0.mk hB
        clear hHeld hb hr
        refine hK.out _ _ hB (fun hHeld => ?_)
        clear hK K
        refine norm_ (a' := ?_) ?_ ?_
        rotate_left
        · show Act.put _ (some 154) _ = _
          simp only [Act.put, List.setIfInBounds_toArray, List.set_cons_zero, List.set_cons_succ]
          rfl
        clear hB
        refine pure_ (i := 8) (N := some 146) (v := ?_) (a' := ?_) #[true, true, true, true, true, true, true, true, true, false, false, false, false, false, false] rfl rfl (by as_aux_lemma => kernel_rfl) (fun _ _ _ h => h) (Or.inl ⟨by rfl, ?_⟩) ?_ ?_
        rotate_left
        · intro w'
          go_simp
          with_reducible rfl
        rotate_left
        · simp only [Act.put, List.setIfInBounds_toArray, List.set_cons_zero, List.set_cons_succ]
          rfl
        refine pure_ (i := 9) (N := some 155) (v := ?_) (a' := ?_) #[true, true, true, true, true, true, true, true, true, true, false, false, false, false, false] rfl rfl (by as_aux_lemma => kernel_rfl) (fun _ _ _ h => h) (Or.inl ⟨by rfl, ?_⟩) ?_ ?_
        rotate_left
        · intro w'
          go_simp
          with_reducible rfl
        rotate_left
        · simp only [Act.put, List.setIfInBounds_toArray, List.set_cons_zero, List.set_cons_succ]
          rfl
        refine pure_ (i := 10) (N := some 156) (v := ?_) (a' := ?_) #[true, true, true, true, true, true, true, true, true, true, true, false, false, false, false] rfl rfl (by as_aux_lemma => kernel_rfl) (fun _ _ _ h => h) (Or.inl ⟨by rfl, ?_⟩) ?_ ?_
        rotate_left
        · intro w'
          go_simp
          with_reducible rfl
        rotate_left
        · simp only [Act.put, List.setIfInBounds_toArray, List.set_cons_zero, List.set_cons_succ]
          rfl
        refine pure_ (i := 11) (N := some 157) (v := ?_) (a' := ?_) #[true, true, true, true, true, true, true, true, true, true, true, true, false, false, false] rfl rfl (by as_aux_lemma => kernel_rfl) (fun _ _ _ h => h) (Or.inl ⟨by rfl, ?_⟩) ?_ ?_
        rotate_left
        · intro w'
          go_simp
          with_reducible rfl
        rotate_left
        · simp only [Act.put, List.setIfInBounds_toArray, List.set_cons_zero, List.set_cons_succ]
          rfl
        refine pure_ (i := 12) (N := some 17) (v := ?_) (a' := ?_) #[true, true, true, true, true, true, true, true, true, true, true, true, true, false, false] rfl rfl (by as_aux_lemma => kernel_rfl) (fun _ _ _ h => h) (Or.inl ⟨by rfl, ?_⟩) ?_ ?_
        rotate_left
        · intro w'
          go_simp
          with_reducible rfl
        rotate_left
        · simp only [Act.put, List.setIfInBounds_toArray, List.set_cons_zero, List.set_cons_succ]
          rfl
        refine pure_ (i := 13) (N := some 18) (v := ?_) (a' := ?_) #[true, true, true, true, true, true, true, true, true, true, true, true, true, true, false] rfl rfl (by as_aux_lemma => kernel_rfl) (fun _ _ _ h => h) (Or.inl ⟨by rfl, ?_⟩) ?_ ?_
        rotate_left
        · intro w'
          go_simp
          with_reducible rfl
        rotate_left
        · simp only [Act.put, List.setIfInBounds_toArray, List.set_cons_zero, List.set_cons_succ]
          rfl
        refine pure_ (i := 14) (N := some 19) (v := ?_) (a' := ?_) #[true, true, true, true, true, true, true, true, true, true, true, true, true, true, true] rfl rfl (by as_aux_lemma => kernel_rfl) (fun _ _ _ h => h) (Or.inl ⟨by rfl, ?_⟩) ?_ ?_
        rotate_left
        · intro w'
          go_simp
          with_reducible rfl
        rotate_left
        · simp only [Act.put, List.setIfInBounds_toArray, List.set_cons_zero, List.set_cons_succ]
          rfl
        refine done_ (by as_aux_lemma => kernel_rfl) ?_
        clear hHeld
        obtain ⟨b1, b2, b3, b4⟩ := HALL.out _ w5B.out
        obtain ⟨d0, d1, d2, d3, d4⟩ := blk5 b1
        obtain ⟨⟨e0, e1, e2, e3, e4⟩, _⟩ := blk12 b2
        obtain ⟨f0, f1⟩ := blk2 b3
        obtain ⟨g0, g1⟩ := blk2 b4
        have hx := HXW.out _ w5B.out
        have hy := HYW.out _ w5B.out
        go_wp2
        refine start_ (n := 16) (S := (fun W => Below wr.heap.size wr W)) (ds := []) #[false, false, false, false, false, false, false, false, false, false, false, false, false, false, false, false] (by as_aux_lemma => kernel_rfl) rfl rfl (below_drew w5B.out) (fun hHeld => ?_)
        refine pure_ (i := 0) (N := some 159) (v := ?_) (a' := ?_) #[true, false, false, false, false, false, false, false, false, false, false, false, false, false, false, false] rfl rfl (by as_aux_lemma => kernel_rfl) (fun _ _ _ h => h) (Or.inl ⟨by rfl, ?_⟩) ?_ ?_
        rotate_left
        · intro w'
          go_simp
          with_reducible rfl
        rotate_left
        · simp only [Act.put, List.setIfInBounds_toArray, List.set_cons_zero, List.set_cons_succ]
          rfl
        refine take_ (i := 1) (N := some 160) (v := ?_) (a' := ?_) #[true, true, false, false, false, false, false, false, false, false, false, false, false, false, false, false] rfl rfl (by as_aux_lemma => kernel_rfl) (fun _ _ _ h => h) (Or.inl ⟨by rfl, ?_⟩) hHeld ?_ ?_
        rotate_left
        · intro w' s0
          obtain ⟨b1, b2, b3, b4⟩ := HALL.out _ s0; obtain ⟨d0, d1, d2, d3, d4⟩ := blk5 b1; obtain ⟨⟨e0, e1, e2, e3, e4⟩, _⟩ := blk12 b2; obtain ⟨f0, f1⟩ := blk2 b3; obtain ⟨g0, g1⟩ := blk2 b4; have hx_ := HXW.out _ s0; have hy_ := HYW.out _ s0
          go_simp
          with_reducible rfl
        rotate_left
        · simp only [Act.put, List.setIfInBounds_toArray, List.set_cons_zero, List.set_cons_succ]
          rfl
        refine pure_ (i := 2) (N := some 161) (v := ?_) (a' := ?_) #[true, true, true, false, false, false, false, false, false, false, false, false, false, false, false, false] rfl rfl (by as_aux_lemma => kernel_rfl) (fun _ _ _ h => h) (Or.inl ⟨by rfl, ?_⟩) ?_ ?_
        rotate_left
        · intro w'
          go_simp
          with_reducible rfl
        rotate_left
        · simp only [Act.put, List.setIfInBounds_toArray, List.set_cons_zero, List.set_cons_succ]
          rfl
        refine pure_ (i := 3) (N := some 162) (v := ?_) (a' := ?_) #[true, true, true, true, false, false, false, false, false, false, false, false, false, false, false, false] rfl rfl (by as_aux_lemma => kernel_rfl) (fun _ _ _ h => h) (Or.inl ⟨by rfl, ?_⟩) ?_ ?_
        rotate_left
        · intro w'
          go_simp
          with_reducible rfl
        rotate_left
        · simp only [Act.put, List.setIfInBounds_toArray, List.set_cons_zero, List.set_cons_succ]
          rfl
        refine take_ (i := 4) (N := some 163) (v := ?_) (a' := ?_) #[true, true, true, true, true, false, false, false, false, false, false, false, false, false, false, false] rfl rfl (by as_aux_lemma => kernel_rfl) (fun _ _ _ h => h) (Or.inl ⟨by rfl, ?_⟩) hHeld ?_ ?_
        rotate_left
        · intro w' s0
          obtain ⟨b1, b2, b3, b4⟩ := HALL.out _ s0; obtain ⟨d0, d1, d2, d3, d4⟩ := blk5 b1; obtain ⟨⟨e0, e1, e2, e3, e4⟩, _⟩ := blk12 b2; obtain ⟨f0, f1⟩ := blk2 b3; obtain ⟨g0, g1⟩ := blk2 b4; have hx_ := HXW.out _ s0; have hy_ := HYW.out _ s0
          go_simp
          with_reducible rfl
        rotate_left
        · simp only [Act.put, List.setIfInBounds_toArray, List.set_cons_zero, List.set_cons_succ]
          rfl
        refine pure_ (i := 5) (N := some 164) (v := ?_) (a' := ?_) #[true, true, true, true, true, true, false, false, false, false, false, false, false, false, false, false] rfl rfl (by as_aux_lemma => kernel_rfl) (fun _ _ _ h => h) (Or.inl ⟨by rfl, ?_⟩) ?_ ?_
        rotate_left
        · intro w'
          go_simp
          with_reducible rfl
        rotate_left
        · simp only [Act.put, List.setIfInBounds_toArray, List.set_cons_zero, List.set_cons_succ]
          rfl
        refine pure_ (i := 6) (N := some 165) (v := ?_) (a' := ?_) #[true, true, true, true, true, true, true, false, false, false, false, false, false, false, false, false] rfl rfl (by as_aux_lemma => kernel_rfl) (fun _ _ _ h => h) (Or.inl ⟨by rfl, ?_⟩) ?_ ?_
        rotate_left
        · intro w'
          go_simp
          with_reducible rfl
        rotate_left
        · simp only [Act.put, List.setIfInBounds_toArray, List.set_cons_zero, List.set_cons_succ]
          rfl
        refine take_ (i := 7) (N := some 166) (v := ?_) (a' := ?_) #[true, true, true, true, true, true, true, true, false, false, false, false, false, false, false, false] rfl rfl (by as_aux_lemma => kernel_rfl) (fun _ _ _ h => h) (Or.inl ⟨by rfl, ?_⟩) hHeld ?_ ?_
        rotate_left
        · intro w' s0
          obtain ⟨b1, b2, b3, b4⟩ := HALL.out _ s0; obtain ⟨d0, d1, d2, d3, d4⟩ := blk5 b1; obtain ⟨⟨e0, e1, e2, e3, e4⟩, _⟩ := blk12 b2; obtain ⟨f0, f1⟩ := blk2 b3; obtain ⟨g0, g1⟩ := blk2 b4; have hx_ := HXW.out _ s0; have hy_ := HYW.out _ s0
          go_simp
          with_reducible rfl
        rotate_left
        · simp only [Act.put, List.setIfInBounds_toArray, List.set_cons_zero, List.set_cons_succ]
          rfl
        refine one_ (i := 8) (N := some 167) #[true, true, true, true, true, true, true, true, true, false, false, false, false, false, false, false] rfl rfl (by as_aux_lemma => kernel_rfl) (by decide) (fun K hK => ?_)
        refine goes_ Try.func28 (by as_aux_lemma => kernel_rfl) rfl #[cv p5 R, .slice B st2.length e, .slice Q ins2.length cQ] (by rfl) rfl rfl (by simp only [List.map_toArray, List.map_cons, List.map_nil] <;> rfl) ?_
        refine (P2.out _ hHeld).mono ?_
        rintro e w6 ⟨A6, c6, rfl, hr, hb⟩
        refine ⟨_, rfl, ?_⟩
        have hB := hHeld.trans (hb.mono hHeld.size)
        replace R5 := Aside0.mk ((R5.out.below (below_drew (Below.refl _ _))).below hb)
        have R6 := Aside0.mk hr
        have w6B := Aside0.mk hB
        clear hHeld hb hr
        refine hK.out _ _ hB (fun hHeld => ?_)
        clear hK K
        refine norm_ (a' := ?_) ?_ ?_
        rotate_left
        · show Act.put _ (some 167) _ = _
          simp only [Act.put, List.setIfInBounds_toArray, List.set_cons_zero, List.set_cons_succ]
          rfl
        clear hB
        refine pure_ (i := 9) (N := some 158) (v := ?_) (a' := ?_) #[true, true, true, true, true, true, true, true, true, true, false, false, false, false, false, false] rfl rfl (by as_aux_lemma => kernel_rfl) (fun _ _ _ h => h) (Or.inl ⟨by rfl, ?_⟩) ?_ ?_
        rotate_left
        · intro w'
          go_simp
          with_reducible rfl
        rotate_left
        · simp only [Act.put, List.setIfInBounds_toArray, List.set_cons_zero, List.set_cons_succ]
          rfl
        refine pure_ (i := 10) (N := some 168) (v := ?_) (a' := ?_) #[true, true, true, true, true, true, true, true, true, true, true, false, false, false, false, false] rfl rfl (by as_aux_lemma => kernel_rfl) (fun _ _ _ h => h) (Or.inl ⟨by rfl, ?_⟩) ?_ ?_
        rotate_left
        · intro w'
          go_simp
          with_reducible rfl
        rotate_left
        · simp only [Act.put, List.setIfInBounds_toArray, List.set_cons_zero, List.set_cons_succ]
          rfl
        refine pure_ (i := 11) (N := some 169) (v := ?_) (a' := ?_) #[true, true, true, true, true, true, true, true, true, true, true, true, false, false, false, false] rfl rfl (by as_aux_lemma => kernel_rfl) (fun _ _ _ h => h) (Or.inl ⟨by rfl, ?_⟩) ?_ ?_
        rotate_left
        · intro w'
          go_simp
          with_reducible rfl
        rotate_left
        · simp only [Act.put, List.setIfInBounds_toArray, List.set_cons_zero, List.set_cons_succ]
          rfl
        refine pure_ (i := 12) (N := some 170) (v := ?_) (a' := ?_) #[true, true, true, true, true, true, true, true, true, true, true, true, true, false, false, false] rfl rfl (by as_aux_lemma => kernel_rfl) (fun _ _ _ h => h) (Or.inl ⟨by rfl, ?_⟩) ?_ ?_
        rotate_left
        · intro w'
          go_simp
          with_reducible rfl
        rotate_left
        · simp only [Act.put, List.setIfInBounds_toArray, List.set_cons_zero, List.set_cons_succ]
          rfl
        refine pure_ (i := 13) (N := some 20) (v := ?_) (a' := ?_) #[true, true, true, true, true, true, true, true, true, true, true, true, true, true, false, false] rfl rfl (by as_aux_lemma => kernel_rfl) (fun _ _ _ h => h) (Or.inl ⟨by rfl, ?_⟩) ?_ ?_
        rotate_left
        · intro w'
          go_simp
          with_reducible rfl
        rotate_left
        · simp only [Act.put, List.setIfInBounds_toArray, List.set_cons_zero, List.set_cons_succ]
          rfl
        refine pure_ (i := 14) (N := some 21) (v := ?_) (a' := ?_) #[true, true, true, true, true, true, true, true, true, true, true, true, true, true, true, false] rfl rfl (by as_aux_lemma => kernel_rfl) (fun _ _ _ h => h) (Or.inl ⟨by rfl, ?_⟩) ?_ ?_
        rotate_left
        · intro w'
          go_simp
          with_reducible rfl
        rotate_left
        · simp only [Act.put, List.setIfInBounds_toArray, List.set_cons_zero, List.set_cons_succ]
          rfl
        refine pure_ (i := 15) (N := some 22) (v := ?_) (a' := ?_) #[true, true, true, true, true, true, true, true, true, true, true, true, true, true, true, true] rfl rfl (by as_aux_lemma => kernel_rfl) (fun _ _ _ h => h) (Or.inl ⟨by rfl, ?_⟩) ?_ ?_
        rotate_left
        · intro w'
          go_simp
          with_reducible rfl
        rotate_left
        · simp only [Act.put, List.setIfInBounds_toArray, List.set_cons_zero, List.set_cons_succ]
          rfl
        refine done_ (by as_aux_lemma => kernel_rfl) ?_
        clear hHeld
        clear d0 d1 d2 d3 d4 e0 e1 e2 e3 e4 g0 g1 q0 q1 hx hy b1 b2 b3 b4
        go_wp2_with fail
        refine (ref04_Same A5 c5 bl A6 c6 bl _ R5.out R6.out).mono ?_
        rintro e w7 ⟨rfl, hb⟩
        rw [show decide (bl = bl) = true from decide_eq_true rfl]
        have w7B := Aside0.mk (w6B.out.trans (hb.mono w6B.out.size))
        clear hb R5 R6
        obtain ⟨b1, b2, b3, b4⟩ := HALL.out _ w7B.out
        obtain ⟨d0, d1, d2, d3, d4⟩ := blk5 b1
        obtain ⟨⟨e0, e1, e2, e3, e4⟩, _⟩ := blk12 b2
        obtain ⟨f0, f1⟩ := blk2 b3
        obtain ⟨g0, g1⟩ := blk2 b4
        have hx := HXW.out _ w7B.out
        have hy := HYW.out _ w7B.out
        go_wp2
        refine start_ (n := 13) (S := (fun W => Below wr.heap.size wr W)) (ds := []) #[false, false, false, false, false, false, false, false, false, false, false, false, false] (by as_aux_lemma => kernel_rfl) rfl rfl (below_drew w7B.out) (fun hHeld => ?_)
        refine take_ (i := 0) (N := some 189) (v := ?_) (a' := ?_) #[true, false, false, false, false, false, false, false, false, false, false, false, false] rfl rfl (by as_aux_lemma => kernel_rfl) (fun _ _ _ h => h) (Or.inl ⟨by rfl, ?_⟩) hHeld ?_ ?_
        rotate_left
        · intro w' s0
          obtain ⟨b1, b2, b3, b4⟩ := HALL.out _ s0; obtain ⟨d0, d1, d2, d3, d4⟩ := blk5 b1; obtain ⟨⟨e0, e1, e2, e3, e4⟩, _⟩ := blk12 b2; obtain ⟨f0, f1⟩ := blk2 b3; obtain ⟨g0, g1⟩ := blk2 b4; have hx_ := HXW.out _ s0; have hy_ := HYW.out _ s0
          go_simp
          with_reducible rfl
        rotate_left
        · simp only [Act.put, List.setIfInBounds_toArray, List.set_cons_zero, List.set_cons_succ]
          rfl
        refine pure_ (i := 1) (N := some 190) (v := ?_) (a' := ?_) #[true, true, false, false, false, false, false, false, false, false, false, false, false] rfl rfl (by as_aux_lemma => kernel_rfl) (fun _ _ _ h => h) (Or.inl ⟨by rfl, ?_⟩) ?_ ?_
        rotate_left
        · intro w'
          go_simp
          with_reducible rfl
        rotate_left
        · simp only [Act.put, List.setIfInBounds_toArray, List.set_cons_zero, List.set_cons_succ]
          rfl
        refine pure_ (i := 2) (N := some 191) (v := ?_) (a' := ?_) #[true, true, true, false, false, false, false, false, false, false, false, false, false] rfl rfl (by as_aux_lemma => kernel_rfl) (fun _ _ _ h => h) (Or.inl ⟨by rfl, ?_⟩) ?_ ?_
        rotate_left
        · intro w'
          go_simp
          with_reducible rfl
        rotate_left
        · simp only [Act.put, List.setIfInBounds_toArray, List.set_cons_zero, List.set_cons_succ]
          rfl
        refine take_ (i := 3) (N := some 192) (v := ?_) (a' := ?_) #[true, true, true, true, false, false, false, false, false, false, false, false, false] rfl rfl (by as_aux_lemma => kernel_rfl) (fun _ _ _ h => h) (Or.inl ⟨by rfl, ?_⟩) hHeld ?_ ?_
        rotate_left
        · intro w' s0
          obtain ⟨b1, b2, b3, b4⟩ := HALL.out _ s0; obtain ⟨d0, d1, d2, d3, d4⟩ := blk5 b1; obtain ⟨⟨e0, e1, e2, e3, e4⟩, _⟩ := blk12 b2; obtain ⟨f0, f1⟩ := blk2 b3; obtain ⟨g0, g1⟩ := blk2 b4; have hx_ := HXW.out _ s0; have hy_ := HYW.out _ s0
          go_simp
          with_reducible rfl
        rotate_left
        · simp only [Act.put, List.setIfInBounds_toArray, List.set_cons_zero, List.set_cons_succ]
          rfl
        refine pure_ (i := 4) (N := some 193) (v := ?_) (a' := ?_) #[true, true, true, true, true, false, false, false, false, false, false, false, false] rfl rfl (by as_aux_lemma => kernel_rfl) (fun _ _ _ h => h) (Or.inl ⟨by rfl, ?_⟩) ?_ ?_
        rotate_left
        · intro w'
          go_simp
          with_reducible rfl
        rotate_left
        · simp only [Act.put, List.setIfInBounds_toArray, List.set_cons_zero, List.set_cons_succ]
          rfl
        refine pure_ (i := 5) (N := some 194) (v := ?_) (a' := ?_) #[true, true, true, true, true, true, false, false, false, false, false, false, false] rfl rfl (by as_aux_lemma => kernel_rfl) (fun _ _ _ h => h) (Or.inl ⟨by rfl, ?_⟩) ?_ ?_
        rotate_left
        · intro w'
          go_simp
          with_reducible rfl
        rotate_left
        · simp only [Act.put, List.setIfInBounds_toArray, List.set_cons_zero, List.set_cons_succ]
          rfl
        refine take_ (i := 6) (N := some 195) (v := ?_) (a' := ?_) #[true, true, true, true, true, true, true, false, false, false, false, false, false] rfl rfl (by as_aux_lemma => kernel_rfl) (fun _ _ _ h => h) (Or.inl ⟨by rfl, ?_⟩) hHeld ?_ ?_
        rotate_left
        · intro w' s0
          obtain ⟨b1, b2, b3, b4⟩ := HALL.out _ s0; obtain ⟨d0, d1, d2, d3, d4⟩ := blk5 b1; obtain ⟨⟨e0, e1, e2, e3, e4⟩, _⟩ := blk12 b2; obtain ⟨f0, f1⟩ := blk2 b3; obtain ⟨g0, g1⟩ := blk2 b4; have hx_ := HXW.out _ s0; have hy_ := HYW.out _ s0
          go_simp
          with_reducible rfl
        rotate_left
        · simp only [Act.put, List.setIfInBounds_toArray, List.set_cons_zero, List.set_cons_succ]
          rfl
        refine one_ (i := 7) (N := some 196) #[true, true, true, true, true, true, true, true, false, false, false, false, false] rfl rfl (by as_aux_lemma => kernel_rfl) (by decide) (fun K hK => ?_)
        refine goes_ Try.func30 (by as_aux_lemma => kernel_rfl) rfl #[cv p c, .slice A st.length d, .slice P ins.length cP] (by rfl) rfl rfl (by simp only [List.map_toArray, List.map_cons, List.map_nil] <;> rfl) ?_
        refine (N1.out _ hHeld).mono ?_
        rintro e w8 ⟨A8, c8, rfl, hr, hb⟩
        refine ⟨_, rfl, ?_⟩
        have hB := hHeld.trans (hb.mono hHeld.size)
        have R8 := Aside0.mk (RS.of_R' hr)
        have w8B := Aside0.mk hB
        clear hHeld hb hr
        refine hK.out _ _ hB (fun hHeld => ?_)
        clear hK K
        refine norm_ (a' := ?_) ?_ ?_
        rotate_left
        · show Act.put _ (some 196) _ = _
          simp only [Act.put, List.setIfInBounds_toArray, List.set_cons_zero, List.set_cons_succ]
          rfl
        clear hB
        refine pure_ (i := 8) (N := some 188) (v := ?_) (a' := ?_) #[true, true, true, true, true, true, true, true, true, false, false, false, false] rfl rfl (by as_aux_lemma => kernel_rfl) (fun _ _ _ h => h) (Or.inl ⟨by rfl, ?_⟩) ?_ ?_
        rotate_left
        · intro w'
          go_simp
          with_reducible rfl
        rotate_left
        · simp only [Act.put, List.setIfInBounds_toArray, List.set_cons_zero, List.set_cons_succ]
          rfl
        refine pure_ (i := 9) (N := some 197) (v := ?_) (a' := ?_) #[true, true, true, true, true, true, true, true, true, true, false, false, false] rfl rfl (by as_aux_lemma => kernel_rfl) (fun _ _ _ h => h) (Or.inl ⟨by rfl, ?_⟩) ?_ ?_
        rotate_left
        · intro w'
          go_simp
          with_reducible rfl
        rotate_left
        · simp only [Act.put, List.setIfInBounds_toArray, List.set_cons_zero, List.set_cons_succ]
          rfl
        refine pure_ (i := 10) (N := some 198) (v := ?_) (a' := ?_) #[true, true, true, true, true, true, true, true, true, true, true, false, false] rfl rfl (by as_aux_lemma => kernel_rfl) (fun _ _ _ h => h) (Or.inl ⟨by rfl, ?_⟩) ?_ ?_
        rotate_left
        · intro w'
          go_simp
          with_reducible rfl
        rotate_left
        · simp only [Act.put, List.setIfInBounds_toArray, List.set_cons_zero, List.set_cons_succ]
          rfl
        refine pure_ (i := 11) (N := some 23) (v := ?_) (a' := ?_) #[true, true, true, true, true, true, true, true, true, true, true, true, false] rfl rfl (by as_aux_lemma => kernel_rfl) (fun _ _ _ h => h) (Or.inl ⟨by rfl, ?_⟩) ?_ ?_
        rotate_left
        · intro w'
          go_simp
          with_reducible rfl
        rotate_left
        · simp only [Act.put, List.setIfInBounds_toArray, List.set_cons_zero, List.set_cons_succ]
          rfl
        refine pure_ (i := 12) (N := some 24) (v := ?_) (a' := ?_) #[true, true, true, true, true, true, true, true, true, true, true, true, true] rfl rfl (by as_aux_lemma => kernel_rfl) (fun _ _ _ h => h) (Or.inl ⟨by rfl, ?_⟩) ?_ ?_
        rotate_left
        · intro w'
          go_simp
          with_reducible rfl
        rotate_left
        · simp only [Act.put, List.setIfInBounds_toArray, List.set_cons_zero, List.set_cons_succ]
          rfl
        refine done_ (by as_aux_lemma => kernel_rfl) ?_
        clear hHeld
        obtain ⟨b1, b2, b3, b4⟩ := HALL.out _ w8B.out
        obtain ⟨d0, d1, d2, d3, d4⟩ := blk5 b1
        obtain ⟨⟨e0, e1, e2, e3, e4⟩, _⟩ := blk12 b2
        obtain ⟨f0, f1⟩ := blk2 b3
        obtain ⟨g0, g1⟩ := blk2 b4
        have hx := HXW.out _ w8B.out
        have hy := HYW.out _ w8B.out
        go_wp2
        refine start_ (n := 14) (S := (fun W => Below wr.heap.size wr W)) (ds := []) #[false, false, false, false, false, false, false, false, false, false, false, false, false, false] (by as_aux_lemma => kernel_rfl) rfl rfl (below_drew w8B.out) (fun hHeld => ?_)
        refine pure_ (i := 0) (N := some 200) (v := ?_) (a' := ?_) #[true, false, false, false, false, false, false, false, false, false, false, false, false, false] rfl rfl (by as_aux_lemma => kernel_rfl) (fun _ _ _ h => h) (Or.inl ⟨by rfl, ?_⟩) ?_ ?_
        rotate_left
        · intro w'
          go_simp
          with_reducible rfl
        rotate_left
        · simp only [Act.put, List.setIfInBounds_toArray, List.set_cons_zero, List.set_cons_succ]
          rfl
        refine take_ (i := 1) (N := some 201) (v := ?_) (a' := ?_) #[true, true, false, false, false, false, false, false, false, false, false, false, false, false] rfl rfl (by as_aux_lemma => kernel_rfl) (fun _ _ _ h => h) (Or.inl ⟨by rfl, ?_⟩) hHeld ?_ ?_
        rotate_left
        · intro w' s0
          obtain ⟨b1, b2, b3, b4⟩ := HALL.out _ s0; obtain ⟨d0, d1, d2, d3, d4⟩ := blk5 b1; obtain ⟨⟨e0, e1, e2, e3, e4⟩, _⟩ := blk12 b2; obtain ⟨f0, f1⟩ := blk2 b3; obtain ⟨g0, g1⟩ := blk2 b4; have hx_ := HXW.out _ s0; have hy_ := HYW.out _ s0
          go_simp
          with_reducible rfl
        rotate_left
        · simp only [Act.put, List.setIfInBounds_toArray, List.set_cons_zero, List.set_cons_succ]
          rfl
        refine pure_ (i := 2) (N := some 202) (v := ?_) (a' := ?_) #[true, true, true, false, false, false, false, false, false, false, false, false, false, false] rfl rfl (by as_aux_lemma => kernel_rfl) (fun _ _ _ h => h) (Or.inl ⟨by rfl, ?_⟩) ?_ ?_
        rotate_left
        · intro w'
          go_simp
          with_reducible rfl
        rotate_left
        · simp only [Act.put, List.setIfInBounds_toArray, List.set_cons_zero, List.set_cons_succ]
          rfl
        refine pure_ (i := 3) (N := some 203) (v := ?_) (a' := ?_) #[true, true, true, true, false, false, false, false, false, false, false, false, false, false] rfl rfl (by as_aux_lemma => kernel_rfl) (fun _ _ _ h => h) (Or.inl ⟨by rfl, ?_⟩) ?_ ?_
        rotate_left
        · intro w'
          go_simp
          with_reducible rfl
        rotate_left
        · simp only [Act.put, List.setIfInBounds_toArray, List.set_cons_zero, List.set_cons_succ]
          rfl
        refine take_ (i := 4) (N := some 204) (v := ?_) (a' := ?_) #[true, true, true, true, true, false, false, false, false, false, false, false, false, false] rfl rfl (by as_aux_lemma => kernel_rfl) (fun _ _ _ h => h) (Or.inl ⟨by rfl, ?_⟩) hHeld ?_ ?_
        rotate_left
        · intro w' s0
          obtain ⟨b1, b2, b3, b4⟩ := HALL.out _ s0; obtain ⟨d0, d1, d2, d3, d4⟩ := blk5 b1; obtain ⟨⟨e0, e1, e2, e3, e4⟩, _⟩ := blk12 b2; obtain ⟨f0, f1⟩ := blk2 b3; obtain ⟨g0, g1⟩ := blk2 b4; have hx_ := HXW.out _ s0; have hy_ := HYW.out _ s0
          go_simp
          with_reducible rfl
        rotate_left
        · simp only [Act.put, List.setIfInBounds_toArray, List.set_cons_zero, List.set_cons_succ]
          rfl
        refine pure_ (i := 5) (N := some 205) (v := ?_) (a' := ?_) #[true, true, true, true, true, true, false, false, false, false, false, false, false, false] rfl rfl (by as_aux_lemma => kernel_rfl) (fun _ _ _ h => h) (Or.inl ⟨by rfl, ?_⟩) ?_ ?_
        rotate_left
        · intro w'
          go_simp
          with_reducible rfl
        rotate_left
        · simp only [Act.put, List.setIfInBounds_toArray, List.set_cons_zero, List.set_cons_succ]
          rfl
        refine pure_ (i := 6) (N := some 206) (v := ?_) (a' := ?_) #[true, true, true, true, true, true, true, false, false, false, false, false, false, false] rfl rfl (by as_aux_lemma => kernel_rfl) (fun _ _ _ h => h) (Or.inl ⟨by rfl, ?_⟩) ?_ ?_
        rotate_left
        · intro w'
          go_simp
          with_reducible rfl
        rotate_left
        · simp only [Act.put, List.setIfInBounds_toArray, List.set_cons_zero, List.set_cons_succ]
          rfl
        refine take_ (i := 7) (N := some 207) (v := ?_) (a' := ?_) #[true, true, true, true, true, true, true, true, false, false, false, false, false, false] rfl rfl (by as_aux_lemma => kernel_rfl) (fun _ _ _ h => h) (Or.inl ⟨by rfl, ?_⟩) hHeld ?_ ?_
        rotate_left
        · intro w' s0
          obtain ⟨b1, b2, b3, b4⟩ := HALL.out _ s0; obtain ⟨d0, d1, d2, d3, d4⟩ := blk5 b1; obtain ⟨⟨e0, e1, e2, e3, e4⟩, _⟩ := blk12 b2; obtain ⟨f0, f1⟩ := blk2 b3; obtain ⟨g0, g1⟩ := blk2 b4; have hx_ := HXW.out _ s0; have hy_ := HYW.out _ s0
          go_simp
          with_reducible rfl
        rotate_left
        · simp only [Act.put, List.setIfInBounds_toArray, List.set_cons_zero, List.set_cons_succ]
          rfl
        refine one_ (i := 8) (N := some 208) #[true, true, true, true, true, true, true, true, true, false, false, false, false, false] rfl rfl (by as_aux_lemma => kernel_rfl) (by decide) (fun K hK => ?_)
        refine goes_ Try.func30 (by as_aux_lemma => kernel_rfl) rfl #[cv p5 R, .slice B st2.length e, .slice Q ins2.length cQ] (by rfl) rfl rfl (by simp only [List.map_toArray, List.map_cons, List.map_nil] <;> rfl) ?_
        refine (N2.out _ hHeld).mono ?_
        rintro e w9 ⟨A9, c9, rfl, hr, hb⟩
        refine ⟨_, rfl, ?_⟩
        have hB := hHeld.trans (hb.mono hHeld.size)
        replace R8 := Aside0.mk ((R8.out.below (below_drew (Below.refl _ _))).below hb)
        have R9 := Aside0.mk (RS.of_R' hr)
        have w9B := Aside0.mk hB
        clear hHeld hb hr
        refine hK.out _ _ hB (fun hHeld => ?_)
        clear hK K
        refine norm_ (a' := ?_) ?_ ?_
        rotate_left
        · show Act.put _ (some 208) _ = _
          simp only [Act.put, List.setIfInBounds_toArray, List.set_cons_zero, List.set_cons_succ]
          rfl
        clear hB
        refine pure_ (i := 9) (N := some 199) (v := ?_) (a' := ?_) #[true, true, true, true, true, true, true, true, true, true, false, false, false, false] rfl rfl (by as_aux_lemma => kernel_rfl) (fun _ _ _ h => h) (Or.inl ⟨by rfl, ?_⟩) ?_ ?_
        rotate_left
        · intro w'
          go_simp
          with_reducible rfl
        rotate_left
        · simp only [Act.put, List.setIfInBounds_toArray, List.set_cons_zero, List.set_cons_succ]
          rfl
        refine pure_ (i := 10) (N := some 209) (v := ?_) (a' := ?_) #[true, true, true, true, true, true, true, true, true, true, true, false, false, false] rfl rfl (by as_aux_lemma => kernel_rfl) (fun _ _ _ h => h) (Or.inl ⟨by rfl, ?_⟩) ?_ ?_
        rotate_left
        · intro w'
          go_simp
          with_reducible rfl
        rotate_left
        · simp only [Act.put, List.setIfInBounds_toArray, List.set_cons_zero, List.set_cons_succ]
          rfl
        refine pure_ (i := 11) (N := some 210) (v := ?_) (a' := ?_) #[true, true, true, true, true, true, true, true, true, true, true, true, false, false] rfl rfl (by as_aux_lemma => kernel_rfl) (fun _ _ _ h => h) (Or.inl ⟨by rfl, ?_⟩) ?_ ?_
        rotate_left
        · intro w'
          go_simp
          with_reducible rfl
        rotate_left
        · simp only [Act.put, List.setIfInBounds_toArray, List.set_cons_zero, List.set_cons_succ]
          rfl
        refine pure_ (i := 12) (N := some 25) (v := ?_) (a' := ?_) #[true, true, true, true, true, true, true, true, true, true, true, true, true, false] rfl rfl (by as_aux_lemma => kernel_rfl) (fun _ _ _ h => h) (Or.inl ⟨by rfl, ?_⟩) ?_ ?_
        rotate_left
        · intro w'
          go_simp
          with_reducible rfl
        rotate_left
        · simp only [Act.put, List.setIfInBounds_toArray, List.set_cons_zero, List.set_cons_succ]
          rfl
        refine pure_ (i := 13) (N := some 26) (v := ?_) (a' := ?_) #[true, true, true, true, true, true, true, true, true, true, true, true, true, true] rfl rfl (by as_aux_lemma => kernel_rfl) (fun _ _ _ h => h) (Or.inl ⟨by rfl, ?_⟩) ?_ ?_
        rotate_left
        · intro w'
          go_simp
          with_reducible rfl
        rotate_left
        · simp only [Act.put, List.setIfInBounds_toArray, List.set_cons_zero, List.set_cons_succ]
          rfl
        refine done_ (by as_aux_lemma => kernel_rfl) ?_
        clear hHeld
        clear d0 d1 d2 d3 d4 e0 e1 e2 e3 e4 f0 f1 g0 g1 hx hy b1 b2 b3 b4
        go_wp2
        go_roundg (x.f1.length - (k + 1))
        case measure => have := HX.out; have := HLT.out; omega
        case rel => exact ⟨k + 1, A8, c8, n1, A9, c9, n2, rfl, rfl, (by first | exact val_step HLT.out (by have := H100.out; have := HX2.out; omega) | rfl), ⟨by have := HLT.out; omega, by have := HX.out; have := HLT.out; omega⟩, ⟨BW.out.trans (w9B.out.mono BW.out.size)⟩, ⟨R8.out, R9.out⟩, HNR⟩
      · have hk : k = x.f1.length := by have := HX.out; omega
        subst hk
        have hlti : ¬ ((x.f1.length : Nat) : Int) < x.f1.length := by omega
        clear hlt
        go_wp2
        go_ret
        exact ⟨rfl, SB.out.B⟩
end Go.Proofs.Ytiafojcbllbepaa.PH
