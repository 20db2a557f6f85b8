/- ref25.Cut. -/
import Derived.Test.YtlhiapggccgggaaHTraceW
import Derived.Test.YtlhiapggccgggaaHPackF
import Derived.Deep.QuietTactic
import Derived.BigQuiet
namespace Go.Proofs.Ytlhiapggccgggaa.PH
open Go.RowKit Go.Proofs.YtlhiapggccgggaaW.PrintWords Go.Proofs.YtlhiapggccgggaaW.PrintLast
set_option linter.unusedVariables false
set_option linter.unusedSimpArgs false

/-- A run comes back. -/
def RetTu (w w' : World) (r : Run) (e : Ending) : Prop := ∃ q, e = .returned (tv q r) ∧ RT w' q r ∧ Below w.heap.size w w'
theorem fine_hit {l : List Bool} {i : Nat} (h : l[i]? = some true) : l.any (fun b => true == b) = true := List.any_eq_true.2 ⟨true, List.mem_of_getElem? h, rfl⟩
theorem fine_miss {l : List Bool} (h : ∀ b ∈ l, b = false) : l.any (fun b => true == b) = false := List.any_eq_false.2 (fun b hb => by rw [h b hb]; decide)
set_option maxHeartbeats 4000000 in
set_option maxRecDepth 100000 in
theorem ref25_Cut (p : CP) (c : Circ) (q : TP) (t : Run) (w : World) (hp : RC w p c) (ht : RT w q t) (hs : c.Fits) (hc : check c = 0) (hl1 : t.f0.length = c.f1.length) (hl2 : ∀ x ∈ t.f1, (x.length : Int) = c.f0) (hm : t.f1.length ≤ 20000) :
    Calls Try.prog 55 #[cv p c, tv q t] w fun e w' => e = .returned (tv q (cutRun c t)) ∧ Below w.heap.size w w' := by
  obtain ⟨TF, tf, TI, ti⟩ := q
  have HP := Aside0.mk hp
  have HT := Aside0.mk ht
  have HS := Aside0.mk hs
  have HC := Aside0.mk hc
  have HL1 := Aside0.mk hl1
  have HL2 := Aside0.mk hl2
  have HM := Aside0.mk hm
  have hu26 := Try.underlying26
  have hu57 := Try.underlying57
  have S := (((Parts.start w).new 26 (ccells p c)).new 57 #[.slice TF t.f0.length tf, .slice TI t.f1.length ti]).new 57 #[.slice none 0 0, .slice none 0 0]
  simp only [sz_new] at S
  have S0 := Aside0.mk S
  obtain ⟨C, hC⟩ : ∃ C, cutLen c t.f0 t.f1 = C := ⟨_, rfl⟩
  have HCR := Aside0.mk (show cutRun c t = ⟨t.f0, t.f1.take C⟩ by unfold cutRun; rw [hC])
  have HCC := Aside0.mk (show stopAt fine 0 (frames c t.f0 (t.f1.drop 0)) = C from hC)
  clear S hp ht hs hc hl1 hl2 hm hC
  go_enter Try.func55, Try.ntmps55
  go_upto_region 1 with (fail)
  obtain ⟨w1, hw1⟩ : ∃ W, (((w.alloc (.cells (ccells p c) 26)).alloc (.cells #[.slice TF t.f0.length tf, .slice TI t.f1.length ti] 57)).alloc (.cells #[.slice none 0 0, .slice none 0 0] 57)) = W := ⟨_, rfl⟩
  rw [hw1] at S0 ⊢
  clear hw1
  obtain ⟨t0, y0⟩ := S0.out.cell 1 rfl 0 rfl
  go_wp2
  clear t0 y0
  go_loopg [5, 6, 7, 8, 9, 10] t.f1.length (fun gg s5 s6 _ _ _ _ wr => ∃ (k : Nat) (A : Option Addr) (d : Nat) (st : List Bool), s5 = .slice A st.length d ∧ s6 = .int .i64 k ∧ Aside0 (k ≤ t.f1.length ∧ t.f1.length - k ≤ gg) ∧ Aside0 (Parts w.heap.size w wr [pB (w.heap.size + 1 + 1) 57 #[.slice none 0 0, .slice none 0 0], pB (w.heap.size + 1) 57 #[.slice TF t.f0.length tf, .slice TI t.f1.length ti], pB w.heap.size 26 (ccells p c)]) ∧ Aside0 (RS Kd.bool wr A d st ∧ st.length = c.f1.length) ∧ Aside0 (stopAt fine k (frames c st (t.f1.drop k)) = C))
  case atStart => exact ⟨0, TF, tf, t.f0, rfl, rfl, ⟨by omega, by omega⟩, S0, ⟨HT.out.s0.below S0.out.B, HL1.out⟩, HCC⟩
  case round =>
    clear S0 HCC
    obtain ⟨k, A, d, st, rfl, rfl, HX, S, HST, HSA⟩ := hrel
    obtain ⟨t1, y1⟩ := S.out.cell 1 rfl 1 rfl
    by_cases hlt : k < t.f1.length
    · obtain ⟨ad, B, cB, e1, hxq, hB⟩ := at_row HT.out.s1.r k hlt
      cases e1
      have hlti : (k : Int) < t.f1.length := by omega
      obtain ⟨ins, hins⟩ : ∃ ins, t.f1[k] = ins := ⟨_, rfl⟩
      rw [hins] at hxq hB
      have hx := pw_cell_below S.out.B hxq
      have HXW := Aside0.mk (fun W (hb : Below w.heap.size w W) => pw_cell_below hb hxq)
      have HSD := Aside0.mk (show stopAt fine k ((st, holdsOf c st ins, badsOf c st ins) :: frames c (nextOf c st ins) (t.f1.drop (k + 1))) = C by
        have h_ := HSA.out
        rw [List.drop_eq_getElem_cons hlt, hins] at h_
        exact h_)
      have HIL := Aside0.mk (HL2.out ins (hins ▸ List.getElem_mem hlt))
      have HLT := Aside0.mk hlt
      have HB := Aside0.mk hB
      have PC := Aside0.mk (fun W (hb : Below wr.heap.size wr W) => ref04_Props p c A d st B cB ins W (HP.out.below (S.out.B.trans (hb.mono S.out.z))) HS.out (HST.out.1.below hb) (HB.out.below (S.out.B.trans (hb.mono S.out.z))) HC.out HST.out.2 HIL.out)
      have NC := Aside0.mk (fun W (hb : Below wr.heap.size wr W) => ref04_Next p c A d st B cB ins W (HP.out.below (S.out.B.trans (hb.mono S.out.z))) HS.out (HST.out.1.below hb) (HB.out.below (S.out.B.trans (hb.mono S.out.z))) HC.out HST.out.2 HIL.out)
      clear hins hlt hB hxq HSA
      obtain ⟨a0, a1, a2, a3, a4⟩ := blk5 (S.out.blk 2 rfl)
      have PD := Aside0.mk (PC.out wr.drew (below_drew (Below.refl _ _)))
      go_wp2
      refine start_ (n := 15) (S := (fun W => Parts w.heap.size w W [pB (w.heap.size + 1 + 1) 57 #[.slice none 0 0, .slice none 0 0], pB (w.heap.size + 1) 57 #[.slice TF t.f0.length tf, .slice (some ad) t.f1.length ti], pB w.heap.size 26 (ccells p c)])) (ds := []) #[false, false, false, false, false, false, false, false, false, false, false, false, false, false, false] (by kernel_rfl) rfl rfl S.out.drew (fun hHeld => ?_)
      refine take_ (i := 0) (N := some 21) (v := ?_) (a' := ?_) #[true, false, false, false, false, false, false, false, false, false, false, false, false, false, false] rfl rfl (by kernel_rfl) (fun _ _ _ h => h) (Or.inl ⟨by rfl, ?_⟩) hHeld ?_ ?_
      rotate_left
      · intro w' s0
        obtain ⟨d0, d1, d2, d3, d4⟩ := blk5 (s0.blk 2 rfl)
        go_simp
        with_reducible rfl
      rotate_left
      · simp only [Act.put, List.setIfInBounds_toArray, List.set_cons_zero, List.set_cons_succ]
        rfl
      refine pure_ (i := 1) (N := some 22) (v := ?_) (a' := ?_) #[true, true, false, false, false, false, false, false, false, false, false, false, false, false, false] rfl rfl (by kernel_rfl) (fun _ _ _ h => h) (Or.inl ⟨by rfl, ?_⟩) ?_ ?_
      rotate_left
      · intro w'
        go_simp
        with_reducible rfl
      rotate_left
      · simp only [Act.put, List.setIfInBounds_toArray, List.set_cons_zero, List.set_cons_succ]
        rfl
      refine pure_ (i := 2) (N := some 23) (v := ?_) (a' := ?_) #[true, true, true, false, false, false, false, false, false, false, false, false, false, false, false] rfl rfl (by kernel_rfl) (fun _ _ _ h => h) (Or.inl ⟨by rfl, ?_⟩) ?_ ?_
      rotate_left
      · intro w'
        go_simp
        with_reducible rfl
      rotate_left
      · simp only [Act.put, List.setIfInBounds_toArray, List.set_cons_zero, List.set_cons_succ]
        rfl
      refine take_ (i := 3) (N := some 24) (v := ?_) (a' := ?_) #[true, true, true, true, false, false, false, false, false, false, false, false, false, false, false] rfl rfl (by kernel_rfl) (fun _ _ _ h => h) (Or.inl ⟨by rfl, ?_⟩) hHeld ?_ ?_
      rotate_left
      · intro w' s0
        have h_ := (s0.cell 1 rfl 1 rfl).1
        go_simp
        with_reducible rfl
      rotate_left
      · simp only [Act.put, List.setIfInBounds_toArray, List.set_cons_zero, List.set_cons_succ]
        rfl
      refine pure_ (i := 4) (N := some 25) (v := ?_) (a' := ?_) #[true, true, true, true, true, false, false, false, false, false, false, false, false, false, false] rfl rfl (by kernel_rfl) (fun _ _ _ h => h) (Or.inl ⟨by rfl, ?_⟩) ?_ ?_
      rotate_left
      · intro w'
        go_simp
        with_reducible rfl
      rotate_left
      · simp only [Act.put, List.setIfInBounds_toArray, List.set_cons_zero, List.set_cons_succ]
        rfl
      refine pure_ (i := 5) (N := some 26) (v := ?_) (a' := ?_) #[true, true, true, true, true, true, false, false, false, false, false, false, false, false, false] rfl rfl (by kernel_rfl) (fun _ _ _ h => h) (Or.inl ⟨by rfl, ?_⟩) ?_ ?_
      rotate_left
      · intro w'
        go_simp
        with_reducible rfl
      rotate_left
      · simp only [Act.put, List.setIfInBounds_toArray, List.set_cons_zero, List.set_cons_succ]
        rfl
      refine take_ (i := 6) (N := some 27) (v := ?_) (a' := ?_) #[true, true, true, true, true, true, true, false, false, false, false, false, false, false, false] rfl rfl (by kernel_rfl) (fun _ _ _ h => h) (Or.inl ⟨by rfl, ?_⟩) hHeld ?_ ?_
      rotate_left
      · intro w' s0
        have h_ := HXW.out _ s0.B
        go_simp
        with_reducible rfl
      rotate_left
      · simp only [Act.put, List.setIfInBounds_toArray, List.set_cons_zero, List.set_cons_succ]
        rfl
      refine one_ (i := 7) (N := some 28) #[true, true, true, true, true, true, true, true, false, false, false, false, false, false, false] rfl rfl (by kernel_rfl) (by decide) (fun K hK => ?_)
      refine goes_ Try.func83 (by kernel_rfl) rfl #[cv p c, .slice A st.length d, .slice B ins.length cB] (by rfl) rfl rfl (by simp only [List.map_toArray, List.map_cons, List.map_nil] <;> rfl) ?_
      refine PD.out.mono ?_
      rintro e w5 ⟨A5, c5, rfl, hR5, hb5⟩
      refine ⟨_, rfl, ?_⟩
      have S5 := Aside0.mk (S.out.drew.below hb5)
      have B5 := Aside0.mk ((below_drew (Below.refl wr.heap.size wr)).trans (hb5.mono (below_drew (Below.refl wr.heap.size wr)).size))
      have R5 := Aside0.mk hR5
      clear hb5 hR5 PD
      refine hK.out _ _ S5.out (fun hHeld => ?_)
      clear hK K
      refine norm_ (a' := ?_) ?_ ?_
      rotate_left
      · show Act.put _ (some 28) _ = _
        simp only [Act.put, List.setIfInBounds_toArray, List.set_cons_zero, List.set_cons_succ]
        rfl
      refine pure_ (i := 8) (N := some 20) (v := ?_) (a' := ?_) #[true, true, true, true, true, true, true, true, true, false, false, false, false, false, false] rfl rfl (by kernel_rfl) (fun _ _ _ h => h) (Or.inl ⟨by rfl, ?_⟩) ?_ ?_
      rotate_left
      · intro w'
        go_simp
        with_reducible rfl
      rotate_left
      · simp only [Act.put, List.setIfInBounds_toArray, List.set_cons_zero, List.set_cons_succ]
        rfl
      refine pure_ (i := 9) (N := some 29) (v := ?_) (a' := ?_) #[true, true, true, true, true, true, true, true, true, true, false, false, false, false, false] rfl rfl (by kernel_rfl) (fun _ _ _ h => h) (Or.inl ⟨by rfl, ?_⟩) ?_ ?_
      rotate_left
      · intro w'
        go_simp
        with_reducible rfl
      rotate_left
      · simp only [Act.put, List.setIfInBounds_toArray, List.set_cons_zero, List.set_cons_succ]
        rfl
      refine pure_ (i := 10) (N := some 30) (v := ?_) (a' := ?_) #[true, true, true, true, true, true, true, true, true, true, true, false, false, false, false] rfl rfl (by kernel_rfl) (fun _ _ _ h => h) (Or.inl ⟨by rfl, ?_⟩) ?_ ?_
      rotate_left
      · intro w'
        go_simp
        with_reducible rfl
      rotate_left
      · simp only [Act.put, List.setIfInBounds_toArray, List.set_cons_zero, List.set_cons_succ]
        rfl
      refine pure_ (i := 11) (N := some 31) (v := ?_) (a' := ?_) #[true, true, true, true, true, true, true, true, true, true, true, true, false, false, false] rfl rfl (by kernel_rfl) (fun _ _ _ h => h) (Or.inl ⟨by rfl, ?_⟩) ?_ ?_
      rotate_left
      · intro w'
        go_simp
        with_reducible rfl
      rotate_left
      · simp only [Act.put, List.setIfInBounds_toArray, List.set_cons_zero, List.set_cons_succ]
        rfl
      refine pure_ (i := 12) (N := some 7) (v := ?_) (a' := ?_) #[true, true, true, true, true, true, true, true, true, true, true, true, true, false, false] rfl rfl (by kernel_rfl) (fun _ _ _ h => h) (Or.inl ⟨by rfl, ?_⟩) ?_ ?_
      rotate_left
      · intro w'
        go_simp
        with_reducible rfl
      rotate_left
      · simp only [Act.put, List.setIfInBounds_toArray, List.set_cons_zero, List.set_cons_succ]
        rfl
      refine pure_ (i := 13) (N := some 8) (v := ?_) (a' := ?_) #[true, true, true, true, true, true, true, true, true, true, true, true, true, true, false] rfl rfl (by kernel_rfl) (fun _ _ _ h => h) (Or.inl ⟨by rfl, ?_⟩) ?_ ?_
      rotate_left
      · intro w'
        go_simp
        with_reducible rfl
      rotate_left
      · simp only [Act.put, List.setIfInBounds_toArray, List.set_cons_zero, List.set_cons_succ]
        rfl
      refine pure_ (i := 14) (N := some 9) (v := ?_) (a' := ?_) #[true, true, true, true, true, true, true, true, true, true, true, true, true, true, true] rfl rfl (by kernel_rfl) (fun _ _ _ h => h) (Or.inl ⟨by rfl, ?_⟩) ?_ ?_
      rotate_left
      · intro w'
        go_simp
        with_reducible rfl
      rotate_left
      · simp only [Act.put, List.setIfInBounds_toArray, List.set_cons_zero, List.set_cons_succ]
        rfl
      refine done_ (by kernel_rfl) ?_
      clear hHeld t1 y1 hx a0 a1 a2 a3 a4
      obtain ⟨bl, hbl⟩ : ∃ l, badsOf c st ins = l := ⟨_, rfl⟩
      have HBL := Aside0.mk hbl
      rw [hbl] at R5 ⊢
      clear hbl
      have HMB := Aside0.mk R5.out.max
      go_wp2
      go_loopg [10] bl.length (fun gg s10 wq => ∃ j : Nat, s10 = .int .i64 j ∧ Aside0 (j ≤ bl.length ∧ bl.length - j ≤ gg) ∧ Aside0 (Parts w.heap.size w wq [pB (w.heap.size + 1 + 1) 57 #[.slice none 0 0, .slice none 0 0], pB (w.heap.size + 1) 57 #[.slice TF t.f0.length tf, .slice (some ad) t.f1.length ti], pB w.heap.size 26 (ccells p c)]) ∧ Aside0 (Below wr.heap.size wr wq) ∧ Aside0 (RS Kd.bool wq A5 c5 bl) ∧ Aside0 (∀ b ∈ bl.take j, b = false))
      case atStart => exact ⟨0, rfl, ⟨by omega, by omega⟩, S5, B5, R5, ⟨by simp⟩⟩
      case round =>
        clear S5 B5 R5 S
        obtain ⟨j, rfl, HJ, S, B5, R5, HNB⟩ := hrel
        by_cases hlt : j < bl.length
        · obtain ⟨cd, e3, hu⟩ := at_bool R5.out.r j hlt
          cases e3
          have hltj : (j : Int) < bl.length := by omega
          obtain ⟨y, hy⟩ : ∃ y, bl[j] = y := ⟨_, rfl⟩
          rw [hy] at hu
          have HY := Aside0.mk (show bl[j]? = some y by rw [List.getElem?_eq_getElem hlt, hy])
          have HLJ := Aside0.mk hlt
          clear hy hlt
          cases y with
          | true =>
            obtain ⟨t1, y1⟩ := S.out.cell 1 rfl 1 rfl
            have hcap : (t.f1.length : Int) ≤ (ti : Int) := by have h_ : t.f1.length ≤ ti := HT.out.s1.h; omega
            have hb20 : (t.f1.length : Int) ≤ 20000 := by have := HM.out; omega
            go_upto_region 11 with (fail)
            have SX := Aside0.mk (S.out.put 1 rfl 1 (.slice (some ad) (k + 1) ti) rfl)
            clear t1 y1 hcap hb20 S hu
            generalize wr.setCell ⟨w.heap.size + 1, 1, none⟩ (.slice (some ad) (k + 1) ti) = w9 at *
            obtain ⟨u0, x0⟩ := SX.out.cell 1 rfl 0 rfl
            obtain ⟨u1, x1⟩ := SX.out.cell 1 rfl 1 rfl
            obtain ⟨r0, z0⟩ := SX.out.cell 0 rfl 0 rfl
            obtain ⟨r1, z1⟩ := SX.out.cell 0 rfl 1 rfl
            go_wp2
            have SZ := Aside0.mk ((SX.out.put 0 rfl 0 (.slice TF t.f0.length tf) rfl).put 0 rfl 1 (.slice (some ad) (k + 1) ti) rfl)
            refine bodyPost_ret (results_cell_row rfl _ _ (w.heap.size + 1 + 1) 57 #[.slice TF t.f0.length tf, .slice (some ad) (k + 1) ti] (0, 0) _ rfl (SZ.out.blk 0 rfl) hu57 rfl (by kernel_rfl)) rfl ?_
            rw [HCR.out]
            have HSC : k + 1 = C := by
              have h_ := HSD.out
              unfold stopAt at h_
              rw [show fine k (st, holdsOf c st ins, badsOf c st ins) = false by unfold fine; rw [show (badsOf c st ins) = bl from HBL.out, fine_hit HY.out]; rfl] at h_
              simpa using h_
            exact ⟨by show _ = Ending.returned (.agg #[.slice TF t.f0.length tf, .slice (some ad) (t.f1.take C).length ti]); rw [show (t.f1.take C).length = k + 1 by rw [← HSC, List.length_take]; have := HLT.out; omega], SZ.out.B⟩
          | false =>
            go_wp2
            go_roundg (bl.length - (j + 1))
            case measure => have := HJ.out; have := HLJ.out; omega
            case rel => exact ⟨j + 1, (by first | exact val_step HLJ.out HMB.out | rfl), ⟨by have := HLJ.out; omega, by have := HJ.out; have := HLJ.out; omega⟩, S, B5, R5, ⟨fun b hb => by
              rw [List.take_add_one, HY.out] at hb
              rcases List.mem_append.1 hb with hb | hb
              · exact HNB.out b hb
              · simpa using hb⟩⟩
        · have hj : j = bl.length := by have := HJ.out; omega
          subst hj
          have HSC := Aside0.mk (show stopAt fine (k + 1) (frames c (nextOf c st ins) (t.f1.drop (k + 1))) = C by
            have h_ := HSD.out
            unfold stopAt at h_
            rw [show fine k (st, holdsOf c st ins, badsOf c st ins) = true by unfold fine; rw [show (badsOf c st ins) = bl from HBL.out, fine_miss (fun b hb => HNB.out b (by rw [List.take_length]; exact hb))]; rfl] at h_
            simpa using h_)
          clear HNB HJ
          obtain ⟨t1, y1⟩ := S.out.cell 1 rfl 1 rfl
          have hx := HXW.out _ S.out.B
          obtain ⟨a0, a1, a2, a3, a4⟩ := blk5 (S.out.blk 2 rfl)
          have ND := Aside0.mk (NC.out _ (B5.out.trans ((below_drew (Below.refl _ _)).mono B5.out.size)))
          go_wp2
          refine start_ (n := 12) (S := (fun W => Parts w.heap.size w W [pB (w.heap.size + 1 + 1) 57 #[.slice none 0 0, .slice none 0 0], pB (w.heap.size + 1) 57 #[.slice TF t.f0.length tf, .slice (some ad) t.f1.length ti], pB w.heap.size 26 (ccells p c)])) (ds := []) #[false, false, false, false, false, false, false, false, false, false, false, false] (by kernel_rfl) rfl rfl S.out.drew (fun hHeld => ?_)
          refine take_ (i := 0) (N := some 50) (v := ?_) (a' := ?_) #[true, false, false, false, false, false, false, false, false, false, false, false] rfl rfl (by kernel_rfl) (fun _ _ _ h => h) (Or.inl ⟨by rfl, ?_⟩) hHeld ?_ ?_
          rotate_left
          · intro w' s0
            obtain ⟨d0, d1, d2, d3, d4⟩ := blk5 (s0.blk 2 rfl)
            go_simp
            with_reducible rfl
          rotate_left
          · simp only [Act.put, List.setIfInBounds_toArray, List.set_cons_zero, List.set_cons_succ]
            rfl
          refine pure_ (i := 1) (N := some 51) (v := ?_) (a' := ?_) #[true, true, false, false, false, false, false, false, false, false, false, false] rfl rfl (by kernel_rfl) (fun _ _ _ h => h) (Or.inl ⟨by rfl, ?_⟩) ?_ ?_
          rotate_left
          · intro w'
            go_simp
            with_reducible rfl
          rotate_left
          · simp only [Act.put, List.setIfInBounds_toArray, List.set_cons_zero, List.set_cons_succ]
            rfl
          refine pure_ (i := 2) (N := some 52) (v := ?_) (a' := ?_) #[true, true, true, false, false, false, false, false, false, false, false, false] rfl rfl (by kernel_rfl) (fun _ _ _ h => h) (Or.inl ⟨by rfl, ?_⟩) ?_ ?_
          rotate_left
          · intro w'
            go_simp
            with_reducible rfl
          rotate_left
          · simp only [Act.put, List.setIfInBounds_toArray, List.set_cons_zero, List.set_cons_succ]
            rfl
          refine take_ (i := 3) (N := some 53) (v := ?_) (a' := ?_) #[true, true, true, true, false, false, false, false, false, false, false, false] rfl rfl (by kernel_rfl) (fun _ _ _ h => h) (Or.inl ⟨by rfl, ?_⟩) hHeld ?_ ?_
          rotate_left
          · intro w' s0
            have h_ := (s0.cell 1 rfl 1 rfl).1
            go_simp
            with_reducible rfl
          rotate_left
          · simp only [Act.put, List.setIfInBounds_toArray, List.set_cons_zero, List.set_cons_succ]
            rfl
          refine pure_ (i := 4) (N := some 54) (v := ?_) (a' := ?_) #[true, true, true, true, true, false, false, false, false, false, false, false] rfl rfl (by kernel_rfl) (fun _ _ _ h => h) (Or.inl ⟨by rfl, ?_⟩) ?_ ?_
          rotate_left
          · intro w'
            go_simp
            with_reducible rfl
          rotate_left
          · simp only [Act.put, List.setIfInBounds_toArray, List.set_cons_zero, List.set_cons_succ]
            rfl
          refine pure_ (i := 5) (N := some 55) (v := ?_) (a' := ?_) #[true, true, true, true, true, true, false, false, false, false, false, false] rfl rfl (by kernel_rfl) (fun _ _ _ h => h) (Or.inl ⟨by rfl, ?_⟩) ?_ ?_
          rotate_left
          · intro w'
            go_simp
            with_reducible rfl
          rotate_left
          · simp only [Act.put, List.setIfInBounds_toArray, List.set_cons_zero, List.set_cons_succ]
            rfl
          refine take_ (i := 6) (N := some 56) (v := ?_) (a' := ?_) #[true, true, true, true, true, true, true, false, false, false, false, false] rfl rfl (by kernel_rfl) (fun _ _ _ h => h) (Or.inl ⟨by rfl, ?_⟩) hHeld ?_ ?_
          rotate_left
          · intro w' s0
            have h_ := HXW.out _ s0.B
            go_simp
            with_reducible rfl
          rotate_left
          · simp only [Act.put, List.setIfInBounds_toArray, List.set_cons_zero, List.set_cons_succ]
            rfl
          refine one_ (i := 7) (N := some 57) #[true, true, true, true, true, true, true, true, false, false, false, false] rfl rfl (by kernel_rfl) (by decide) (fun K hK => ?_)
          refine goes_ Try.func84 (by kernel_rfl) rfl #[cv p c, .slice A st.length d, .slice B ins.length cB] (by rfl) rfl rfl (by simp only [List.map_toArray, List.map_cons, List.map_nil] <;> rfl) ?_
          refine ND.out.mono ?_
          rintro e w8 ⟨A8, c8, rfl, hR8, hb8⟩
          refine ⟨_, rfl, ?_⟩
          have S8 := Aside0.mk (S.out.drew.below hb8)
          have R8 := Aside0.mk (RS.of_R' hR8)
          have N8 := Aside0.mk (show (nextOf c st ins).length = c.f1.length by unfold nextOf; simp)
          clear hb8 hR8 ND
          refine hK.out _ _ S8.out (fun hHeld => ?_)
          clear hK K
          refine norm_ (a' := ?_) ?_ ?_
          rotate_left
          · show Act.put _ (some 57) _ = _
            simp only [Act.put, List.setIfInBounds_toArray, List.set_cons_zero, List.set_cons_succ]
            rfl
          refine pure_ (i := 8) (N := some 49) (v := ?_) (a' := ?_) #[true, true, true, true, true, true, true, true, true, false, false, false] rfl rfl (by kernel_rfl) (fun _ _ _ h => h) (Or.inl ⟨by rfl, ?_⟩) ?_ ?_
          rotate_left
          · intro w'
            go_simp
            with_reducible rfl
          rotate_left
          · simp only [Act.put, List.setIfInBounds_toArray, List.set_cons_zero, List.set_cons_succ]
            rfl
          refine pure_ (i := 9) (N := some 58) (v := ?_) (a' := ?_) #[true, true, true, true, true, true, true, true, true, true, false, false] rfl rfl (by kernel_rfl) (fun _ _ _ h => h) (Or.inl ⟨by rfl, ?_⟩) ?_ ?_
          rotate_left
          · intro w'
            go_simp
            with_reducible rfl
          rotate_left
          · simp only [Act.put, List.setIfInBounds_toArray, List.set_cons_zero, List.set_cons_succ]
            rfl
          refine pure_ (i := 10) (N := some 59) (v := ?_) (a' := ?_) #[true, true, true, true, true, true, true, true, true, true, true, false] rfl rfl (by kernel_rfl) (fun _ _ _ h => h) (Or.inl ⟨by rfl, ?_⟩) ?_ ?_
          rotate_left
          · intro w'
            go_simp
            with_reducible rfl
          rotate_left
          · simp only [Act.put, List.setIfInBounds_toArray, List.set_cons_zero, List.set_cons_succ]
            rfl
          refine pure_ (i := 11) (N := some 5) (v := ?_) (a' := ?_) #[true, true, true, true, true, true, true, true, true, true, true, true] rfl rfl (by kernel_rfl) (fun _ _ _ h => h) (Or.inl ⟨by rfl, ?_⟩) ?_ ?_
          rotate_left
          · intro w'
            go_simp
            with_reducible rfl
          rotate_left
          · simp only [Act.put, List.setIfInBounds_toArray, List.set_cons_zero, List.set_cons_succ]
            rfl
          refine done_ (by kernel_rfl) ?_
          clear hHeld t1 y1 hx a0 a1 a2 a3 a4 S
          go_wp2
          go_roundg (t.f1.length - (k + 1))
          case measure => have := HX.out; have := HLT.out; omega
          case rel => exact ⟨k + 1, A8, c8, nextOf c st ins, rfl, (by first | exact val_step HLT.out (by have := HM.out; omega) | rfl), ⟨by have := HLT.out; omega, by have := HX.out; have := HLT.out; omega⟩, S8, ⟨R8.out, N8.out⟩, HSC⟩
    · have hk : k = t.f1.length := by have := HX.out; omega
      subst hk
      have HSC : t.f1.take C = t.f1 := by
        have h_ := HSA.out
        rw [List.drop_length] at h_
        rw [← show t.f1.length = C from h_, List.take_length]
      have SX := S
      clear hlt HX HSA S t1 y1
      obtain ⟨u0, x0⟩ := SX.out.cell 1 rfl 0 rfl
      obtain ⟨u1, x1⟩ := SX.out.cell 1 rfl 1 rfl
      obtain ⟨r0, z0⟩ := SX.out.cell 0 rfl 0 rfl
      obtain ⟨r1, z1⟩ := SX.out.cell 0 rfl 1 rfl
      go_wp2
      have SZ := Aside0.mk ((SX.out.put 0 rfl 0 (.slice TF t.f0.length tf) rfl).put 0 rfl 1 (.slice TI t.f1.length ti) rfl)
      refine bodyPost_ret (results_cell_row rfl _ _ (w.heap.size + 1 + 1) 57 #[.slice TF t.f0.length tf, .slice TI t.f1.length ti] (0, 0) _ rfl (SZ.out.blk 0 rfl) hu57 rfl (by kernel_rfl)) rfl ?_
      rw [HCR.out]
      exact ⟨by show _ = Ending.returned (.agg #[.slice TF t.f0.length tf, .slice TI (t.f1.take C).length ti]); rw [HSC], SZ.out.B⟩
theorem RT.cut {w : World} {q : TP} {c : Circ} {t : Run} (h : RT w q t) : RT w q (cutRun c t) :=
  ⟨h.s0, by
    show RS _ w q.A1 q.c1 (t.f1.take (cutLen c t.f0 t.f1))
    by_cases hm : cutLen c t.f0 t.f1 ≤ t.f1.length
    · exact ⟨Kd.C_take (m := cutLen c t.f0 t.f1) h.s1.r hm, by have := h.s1.h; rw [List.length_take]; omega⟩
    · rw [List.take_of_length_le (by omega)]; exact h.s1⟩
/-- Pieces hold in each world that has the call's own blocks as they are. -/
theorem Parts.moved {b : Nat} {w0 w W : World} {ps : List Pc} (h : Parts b w0 w ps) (hm : ∀ k, b ≤ k → k < w.heap.size → W.heap[k]? = w.heap[k]?) (i : Nat) {p : Pc} (hi : ps[i]? = some p) : p.P W :=
  p.loc (fun k hk => hm k (h.hF i p hi k hk).1 (h.hF i p hi k hk).2) (h.hP i p hi)
end Go.Proofs.Ytlhiapggccgggaa.PH
