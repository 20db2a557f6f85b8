/- ref25.Lifted. -/
import Derived.Test.YtlhiapggccgggaaHCutR25
namespace Go.Proofs.Ytlhiapggccgggaa.PH
open Go.RowKit Go.Proofs.YtlhiapggccgggaaW.PrintWords Go.Proofs.YtlhiapggccgggaaW.PrintLast
set_option linter.unusedVariables false
set_option linter.unusedSimpArgs false

/-- A run of the call's own comes back. -/
def RetTh (w w' : World) (r : Run) (e : Ending) : Prop := ∃ q, e = .returned (tv q r) ∧ (∀ W : World, (∀ k, w.heap.size ≤ k → k < w'.heap.size → W.heap[k]? = w'.heap[k]?) → RT W q r) ∧ Below w.heap.size w w'
theorem lrAt_put {r : List Int} {ins : List Bool} {i : Nat} {x : Int} {b : Bool} (hx : r[i]? = some x) (hb : liftB ins x = b) : (lrAt r ins i).set i b = lrAt r ins (i + 1) := by
  obtain ⟨hi, e⟩ := List.getElem?_eq_some_iff.1 hx
  exact lrAt_set r ins hi (by rw [e]; exact hb)
theorem lrAt_skip {r : List Int} {ins : List Bool} {i : Nat} {x : Int} (hx : r[i]? = some x) (hb : liftB ins x = false) : lrAt r ins i = lrAt r ins (i + 1) := by
  obtain ⟨hi, e⟩ := List.getElem?_eq_some_iff.1 hx
  unfold lrAt
  rw [take_at hi, List.map_append, List.map_singleton, e, hb, List.append_assoc, show r.length - i = (r.length - (i + 1)) + 1 by omega, List.replicate_succ]
  rfl
set_option maxHeartbeats 4000000 in
set_option maxRecDepth 100000 in
theorem ref25_Lifted (p q : CP) (fr tc : Circ) (r : LP) (l : Lf) (s : TP) (t : Run) (w : World) (hp : RC w p fr) (hq : RC w q tc) (hr : RL w r l) (ht : RT w s t) (lo : LOk fr tc l) (hcf : check fr = 0) (hct : check tc = 0) (h1 : t.f0.length = tc.f1.length) (h2 : ∀ x ∈ t.f1, (x.length : Int) = tc.f0) (h3 : t.f1.length ≤ 100) :
    Calls Try.prog 56 #[cv p fr, cv q tc, lv r l, tv s t] w fun e w' => RetTh w w' (liftRun tc l t) e := by
  obtain ⟨A2, k2, A3, k3, A4, k4, A5, k5⟩ := r
  obtain ⟨TF, tf, TI, ti⟩ := s
  have HR := Aside0.mk hr
  have HT := Aside0.mk ht
  have LO := Aside0.mk lo
  have HCF := Aside0.mk hcf
  have HCT := Aside0.mk hct
  have H1 := Aside0.mk h1
  have H2 := Aside0.mk h2
  have H3 := Aside0.mk h3
  have hu26 := Try.underlying26
  have hu31 := Try.underlying31
  have hu57 := Try.underlying57
  have HL2 := Aside0.mk (show l.f2.length ≤ 1000 by rw [lo.n2]; have := gCheck_ok hcf; omega)
  have HL3 := Aside0.mk (show l.f3.length ≤ 104 by have := lo.n3; have := lo.s1; have := lo.p1; omega)
  obtain ⟨fn, hfn⟩ : ∃ fn : Nat, fr.f0 = (fn : Int) := ⟨fr.f0.toNat, by have := gCheck_ok hcf; omega⟩
  have HFN := Aside0.mk hfn
  have HFB := Aside0.mk (show fn ≤ 1000 by have := gCheck_ok hcf; omega)
  have S := (((((((((Parts.start w).new 26 (ccells p fr)).new 26 (ccells q tc)).new 31 (lcells ⟨A2, k2, A3, k3, A4, k4, A5, k5⟩ l)).new 57 #[.slice TF t.f0.length tf, .slice TI t.f1.length ti]).new 57 #[.slice none 0 0, .slice none 0 0]).new 57 #[.slice none 0 0, .slice none 0 0]).inNil Kd.bool 4).nil kHead 46).nil Kd.bool 4
  simp only [sz_new] at S
  have S5 := Aside0.mk (show Parts w.heap.size w _ (trPs w.heap.size w.heap.size (w.heap.size + 1 + 1 + 1 + 1 + 1) p q fr tc ⟨A2, k2, A3, k3, A4, k4, A5, k5⟩ l ⟨TF, tf, TI, ti⟩ t (none, 0) (none, 0) [] [] []) from S.take [3, 0, 1, 2, 4, 5, 6, 7, 8] 9 (by simp) (by decide) (by decide))
  clear S hp hq hr ht lo hcf hct h1 h2 h3 hfn
  go_enter Try.func56, Try.ntmps56
  go_upto_region 2 with (fail)
  obtain ⟨w1, hw1⟩ : ∃ W, ((((((w.alloc (.cells (ccells p fr) 26)).alloc (.cells (ccells q tc) 26)).alloc (.cells (lcells ⟨A2, k2, A3, k3, A4, k4, A5, k5⟩ l) 31)).alloc (.cells #[.slice TF t.f0.length tf, .slice TI t.f1.length ti] 57)).alloc (.cells #[.slice none 0 0, .slice none 0 0] 57)).alloc (.cells #[.slice none 0 0, .slice none 0 0] 57)) = W := ⟨_, rfl⟩
  rw [hw1] at S5 ⊢
  clear hw1
  go_wp2
  go_loopg [10, 11, 12] l.f2.length (fun gg s10 _ _ wr => ∃ (i : Nat) (vF : Option Addr × Nat), s10 = .int .i64 i ∧ Aside0 (i ≤ l.f2.length ∧ l.f2.length - i ≤ gg) ∧ Aside0 (Parts w.heap.size w wr (trPs w.heap.size w.heap.size (w.heap.size + 1 + 1 + 1 + 1 + 1) p q fr tc ⟨A2, k2, A3, k3, A4, k4, A5, k5⟩ l ⟨TF, tf, TI, ti⟩ t vF (none, 0) ((l.f2.take i).map (liftV tc t.f0)) [] [])))
  case atStart => exact ⟨0, (none, 0), rfl, ⟨by omega, by omega⟩, S5⟩
  case round =>
    clear S5
    obtain ⟨i, vF, rfl, HX, S⟩ := hrel
    obtain ⟨l0, l1, l2, l3, l4, l5, l6⟩ := blk7 (S.out.blk 6 rfl)
    by_cases hlt : i < l.f2.length
    · obtain ⟨ad, e1, hx⟩ := at_int (HR.out.s2.below S.out.B).r i hlt
      obtain ⟨x, hx0⟩ : ∃ x, l.f2[i] = x := ⟨_, rfl⟩
      rw [hx0] at hx
      have HX0 := Aside0.mk (show l.f2[i]? = some x by rw [List.getElem?_eq_getElem hlt, hx0])
      have HX2 := LO.out.m2 x (hx0 ▸ List.getElem_mem hlt)
      have hlti : (i : Int) < l.f2.length := by omega
      have HLT := Aside0.mk hlt
      clear hx0 hlt
      obtain ⟨F0, hF0⟩ : ∃ F0, (l.f2.take i).map (liftV tc t.f0) = F0 := ⟨_, rfl⟩
      have HFL := Aside0.mk (show F0.length = i by rw [← hF0]; simp; have := HLT.out; omega)
      have HF0 := Aside0.mk hF0
      rw [hF0] at S
      clear hF0
      obtain ⟨o0, q0⟩ := S.out.cell 0 rfl 0 rfl
      obtain ⟨b0, b1, b2, b3, b4⟩ := blk5 (S.out.blk 7 rfl)
      obtain ⟨t0, y0⟩ := S.out.cell 5 rfl 0 rfl
      cases e1
      rcases HX2 with rfl | rfl | HX2
      · have HV := Aside0.mk (show liftV tc t.f0 0 = false from rfl)
        go_wp2_with (first | (at_builtin; refine Parts.appendL S.out 1 rfl flat_bool rfl (.tmp 49) (.tmp 51) 46 (.bool false) 1 rfl Try.underlying46 infoBool rfl (by decide) (by decide) false [.bool false] rfl rfl rfl (by have := HFL.out; have := HLT.out; have := HL2.out; omega) ?_; intro V5 cap5 w8 h8; have S8 := Aside0.mk h8; clear h8 o0 q0; obtain ⟨o0, q0⟩ := S8.out.cell 0 rfl 0 rfl))
        have S11 := Aside0.mk (S8.out.put 0 rfl 0 (.slice V5 (F0.length + 1) cap5) rfl)
        go_roundg (l.f2.length - (i + 1))
        case measure => have := HX.out; have := HLT.out; omega
        case rel => exact ⟨i + 1, (V5, cap5), (by first | exact val_step HLT.out (by have := HL2.out; omega) | rfl), ⟨by have := HLT.out; omega, by have := HX.out; have := HLT.out; omega⟩, trF_step HX0.out HF0.out HV.out S11⟩
      · have HV := Aside0.mk (show liftV tc t.f0 1 = true from rfl)
        go_wp2_with (first | (at_builtin; refine Parts.appendL S.out 1 rfl flat_bool rfl (.tmp 49) (.tmp 51) 46 (.bool false) 1 rfl Try.underlying46 infoBool rfl (by decide) (by decide) true [.bool true] rfl rfl rfl (by have := HFL.out; have := HLT.out; have := HL2.out; omega) ?_; intro V5 cap5 w8 h8; have S8 := Aside0.mk h8; clear h8 o0 q0; obtain ⟨o0, q0⟩ := S8.out.cell 0 rfl 0 rfl))
        have S11 := Aside0.mk (S8.out.put 0 rfl 0 (.slice V5 (F0.length + 1) cap5) rfl)
        go_roundg (l.f2.length - (i + 1))
        case measure => have := HX.out; have := HLT.out; omega
        case rel => exact ⟨i + 1, (V5, cap5), (by first | exact val_step HLT.out (by have := HL2.out; omega) | rfl), ⟨by have := HLT.out; omega, by have := HX.out; have := HLT.out; omega⟩, trF_step HX0.out HF0.out HV.out S11⟩
      · obtain ⟨qn, hqn, hqe⟩ := at_latch_lit HCT.out HX2
        obtain ⟨ad2, e2, hy⟩ := at_bool (HT.out.s0.below S.out.B).r qn (by rw [H1.out]; exact hqn)
        cases e2
        have HQN := Aside0.mk (show qn < t.f0.length by rw [H1.out]; exact hqn)
        obtain ⟨y, hyy⟩ : ∃ y, t.f0[qn]'HQN.out = y := ⟨_, rfl⟩
        rw [hyy] at hy
        have HCB := Aside0.mk (gCheck_ok HCT.out)
        have h1b : (x == 1) = false := beq_eq_false_iff_ne.2 (by have := HCB.out.1; omega)
        have h2b : decide (1 < x) = true := decide_eq_true (by have := HCB.out.1; omega)
        have hwq : wrap64 (wrap64 (wrap64 (x.tdiv 2) - tc.f0) - 1) = (qn : Int) := by
          have := HCB.out
          have h0 : 0 ≤ x := by omega
          rw [Int.tdiv_eq_ediv_of_nonneg h0, wrap_in (x := x / 2) (by omega) (by omega), wrap_in (x := x / 2 - tc.f0) (by omega) (by omega), wrap_in (by omega) (by omega)]
          exact hqe
        have HV := Aside0.mk (show liftV tc t.f0 x = (y != (x.tmod 2 == 1)) by
          have h0 : 0 ≤ x := by have := HCB.out.1; omega
          unfold liftV bit
          rw [hqe, Int.toNat_natCast, decide_eq_false (by have := HCB.out.1; omega), decide_eq_true (by have := HCB.out.1; omega), Bool.false_or, Bool.true_and, getD_at HQN.out, hyy, Int.tmod_eq_emod_of_nonneg h0]
          rfl)
        have hq1 : (qn : Int) < t.f0.length := by have := HQN.out; omega
        clear HX2 hyy hqe hqn
        go_wp2_with (first | (at_builtin; refine Parts.appendL S.out 1 rfl flat_bool rfl (.tmp 49) (.tmp 51) 46 (.bool false) 1 rfl Try.underlying46 infoBool rfl (by decide) (by decide) (y != (x.tmod 2 == 1)) [.bool (y != (x.tmod 2 == 1))] rfl rfl rfl (by have := HFL.out; have := HLT.out; have := HL2.out; omega) ?_; intro V5 cap5 w8 h8; have S8 := Aside0.mk h8; clear h8 o0 q0; obtain ⟨o0, q0⟩ := S8.out.cell 0 rfl 0 rfl))
        have S11 := Aside0.mk (S8.out.put 0 rfl 0 (.slice V5 (F0.length + 1) cap5) rfl)
        go_roundg (l.f2.length - (i + 1))
        case measure => have := HX.out; have := HLT.out; omega
        case rel => exact ⟨i + 1, (V5, cap5), (by first | exact val_step HLT.out (by have := HL2.out; omega) | rfl), ⟨by have := HLT.out; omega, by have := HX.out; have := HLT.out; omega⟩, trF_step HX0.out HF0.out HV.out S11⟩
    · have hk : i = l.f2.length := by have := HX.out; omega
      subst hk
      clear hlt HX
      obtain ⟨F, hF⟩ : ∃ F, l.f2.map (liftV tc t.f0) = F := ⟨_, rfl⟩
      rw [List.take_length, hF] at S
      have HF := Aside0.mk hF
      have h3i : (t.f1.length : Int) ≤ 100 := by have := H3.out; omega
      go_wp2
      clear l0 l1 l2 l3 l4 l5 l6 hF
      go_loopg [13, 14, 15, 16, 17] t.f1.length (fun gg s13 _ _ _ _ wr => ∃ (n : Nat) (vI : Option Addr × Nat) (hs : List HeadR), s13 = .int .i64 n ∧ Aside0 (n ≤ t.f1.length ∧ t.f1.length - n ≤ gg) ∧ Aside0 (Parts w.heap.size w wr (trPs w.heap.size w.heap.size (w.heap.size + 1 + 1 + 1 + 1 + 1) p q fr tc ⟨A2, k2, A3, k3, A4, k4, A5, k5⟩ l ⟨TF, tf, TI, ti⟩ t vF vI F hs (liftAll l 0 (t.f1.take n)))))
      case atStart => exact ⟨0, (none, 0), [], rfl, ⟨by omega, by omega⟩, S⟩
      case round =>
        clear S
        obtain ⟨n, vI, hs, rfl, HX, S⟩ := hrel
        obtain ⟨t1, y1⟩ := S.out.cell 5 rfl 1 rfl
        obtain ⟨l0, l1, l2, l3, l4, l5, l6⟩ := blk7 (S.out.blk 6 rfl)
        by_cases hlt : n < t.f1.length
        · obtain ⟨ad, B, cB, e1, hxw, hB⟩ := at_row HT.out.s1.r n hlt
          cases e1
          have HXW := Aside0.mk (fun W (hb : Below w.heap.size w W) => pw_cell_below hb hxw)
          have hlti : (n : Int) < t.f1.length := by omega
          obtain ⟨ins, hins⟩ : ∃ ins, t.f1[n] = ins := ⟨_, rfl⟩
          rw [hins] at HXW hB
          clear hxw
          have HIN := Aside0.mk (show t.f1[n]? = some ins by rw [List.getElem?_eq_getElem hlt, hins])
          have HIL := Aside0.mk (show (ins.length : Int) = tc.f0 from H2.out ins (hins ▸ List.getElem_mem hlt))
          have HB0 := Aside0.mk hB
          have HLT := Aside0.mk hlt
          clear hins hB hlt
          by_cases hn0 : n = 0
          · have hn0b : decide (0 < (n : Int)) = false := decide_eq_false (by omega)
            have hn0c : decide (0 < n) = false := decide_eq_false (by omega)
            obtain ⟨j0, hj0⟩ : ∃ j0 : Nat, 0 = j0 := ⟨0, rfl⟩
            have HJ0 := Aside0.mk (show rowsOf l n = l.f3.drop j0 ∧ j0 ≤ l.f3.length by rw [← hj0]; unfold rowsOf; rw [if_pos hn0]; exact ⟨rfl, Nat.zero_le _⟩)
            have HJS := Aside0.mk (show (0 : Int) = (j0 : Int) by omega)
            clear hn0 hj0
            go_wp2
            have SJ := Aside0.mk (show Parts w.heap.size w wr (trPs w.heap.size w.heap.size (w.heap.size + 1 + 1 + 1 + 1 + 1) p q fr tc ⟨A2, k2, A3, k3, A4, k4, A5, k5⟩ l ⟨TF, tf, some ad, ti⟩ t vF vI F hs (liftAll l 0 (t.f1.take n) ++ ((rowsOf l n).take (j0 - j0)).map (fun r => liftRow r ins))) from by rw [Nat.sub_self, List.take_zero, List.map_nil, List.append_nil]; exact S.out)
            clear S t1 y1 l0 l1 l2 l3 l4 l5 l6
            go_loopg [14, 15, 16, 17] l.f3.length (fun gg s14 _ _ _ wr => ∃ (j : Nat) (vI : Option Addr × Nat) (hs : List HeadR), s14 = .int .i64 j ∧ Aside0 (j0 ≤ j ∧ j ≤ l.f3.length ∧ l.f3.length - j ≤ gg) ∧ Aside0 (Parts w.heap.size w wr (trPs w.heap.size w.heap.size (w.heap.size + 1 + 1 + 1 + 1 + 1) p q fr tc ⟨A2, k2, A3, k3, A4, k4, A5, k5⟩ l ⟨TF, tf, some ad, ti⟩ t vF vI F hs (liftAll l 0 (t.f1.take n) ++ ((rowsOf l n).take (j - j0)).map (fun r => liftRow r ins)))))
            case atStart => exact ⟨j0, vI, hs, by rw [← HJS.out], ⟨by omega, by have := HJ0.out.2; omega, by omega⟩, SJ⟩
            case round =>
              clear SJ vI hs
              obtain ⟨j, vI, hs, rfl, HJ, S⟩ := hrel
              obtain ⟨l0, l1, l2, l3, l4, l5, l6⟩ := blk7 (S.out.blk 6 rfl)
              by_cases hlt : j < l.f3.length
              · obtain ⟨ad3, B5, cB5, e5, hx5, hB5⟩ := at_row HR.out.s3.r j hlt
                cases e5
                have HX5 := Aside0.mk (fun W (hb : Below w.heap.size w W) => pw_cell_below hb hx5)
                obtain ⟨r, hr⟩ : ∃ r, l.f3[j] = r := ⟨_, rfl⟩
                rw [hr] at HX5 hB5
                clear hx5
                have HRI := Aside0.mk (show (rowsOf l n)[j - j0]? = some r by rw [HJ0.out.1, List.getElem?_drop, show j0 + (j - j0) = j by have := HJ.out; omega, List.getElem?_eq_getElem hlt, hr])
                have HRM := Aside0.mk (LO.out.m3 r (hr ▸ List.getElem_mem hlt))
                have HRL := Aside0.mk (show r.length = fn by have := HRM.out.1; have := HFN.out; omega)
                have hltj : (j : Int) < l.f3.length := by omega
                have HLJ := Aside0.mk hlt
                have HBR := Aside0.mk hB5
                clear hr hlt hB5
                obtain ⟨rows, hrows⟩ : ∃ rows, (liftAll l 0 (t.f1.take n) ++ ((rowsOf l n).take (j - j0)).map (fun r => liftRow r ins)) = rows := ⟨_, rfl⟩
                have HRO := Aside0.mk hrows
                rw [hrows] at S
                have HHL := Aside0.mk (show hs.length ≤ 20000 by rw [S.out.inLen 3 rfl, ← hrows]; exact rows_le HL3.out (by have := H3.out; simp; omega) (j - j0) ins)
                clear hrows
                obtain ⟨c0, c1, c2, c3, c4⟩ := blk5 (S.out.blk 8 rfl)
                rw [HFN.out] at c0
                have hfb : (fn : Int) ≤ 1000 := by have := HFB.out; omega
                go_upto_region 19 with (first | (refine Parts.makeL S.out Kd.bool 4 flat_bool rfl (N := 74) rfl 46 (.tmp 73) (.tmp 73) rfl fn rfl rfl Try.underlying46 (.bool false) 1 infoBool rfl (by decide) (by decide) false rfl (by have := HFB.out; omega) ?_; intro g cap w2 hgw h2; have S2 := Aside0.mk h2; have HG := Aside0.mk hgw; clear h2 hgw))
                have S6 := Aside0.mk (show Parts w.heap.size w w2 (pF w.heap.size Kd.bool 4 (.slice (some ⟨g, 0, none⟩) fn cap) (lrAt r ins 0) :: (trPs w.heap.size w.heap.size (w.heap.size + 1 + 1 + 1 + 1 + 1) p q fr tc ⟨A2, k2, some ad3, k3, A4, k4, A5, k5⟩ l ⟨TF, tf, some ad, ti⟩ t vF vI F hs rows)) from by rw [lrAt_zero, HRL.out]; exact S2.out)
                clear S2 S c0 c1 c2 c3 c4 l0 l1 l2 l3 l4 l5 l6
                go_wp2
                go_loopg [16, 17] fn (fun gg s16 _ wr => ∃ i : Nat, s16 = .int .i64 i ∧ Aside0 (i ≤ fn ∧ fn - i ≤ gg) ∧ Aside0 (Parts w.heap.size w wr (pF w.heap.size Kd.bool 4 (.slice (some ⟨g, 0, none⟩) fn cap) (lrAt r ins i) :: (trPs w.heap.size w.heap.size (w.heap.size + 1 + 1 + 1 + 1 + 1) p q fr tc ⟨A2, k2, some ad3, k3, A4, k4, A5, k5⟩ l ⟨TF, tf, some ad, ti⟩ t vF vI F hs rows))))
                case atStart => exact ⟨0, rfl, ⟨by omega, by omega⟩, S6⟩
                case round =>
                  clear S6
                  obtain ⟨i, rfl, HI, S⟩ := hrel
                  obtain ⟨c0, c1, c2, c3, c4⟩ := blk5 (S.out.blk 9 rfl)
                  rw [HFN.out] at c0
                  obtain ⟨l0, l1, l2, l3, l4, l5, l6⟩ := blk7 (S.out.blk 7 rfl)
                  obtain ⟨t1, y1⟩ := S.out.cell 6 rfl 1 rfl
                  by_cases hlt : i < fn
                  · have hlt' : i < r.length := by rw [HRL.out]; exact hlt
                    obtain ⟨bd, e6, hx6⟩ := at_int (HBR.out.below S.out.B).r i hlt'
                    cases e6
                    obtain ⟨x, hx0⟩ : ∃ x, r[i] = x := ⟨_, rfl⟩
                    have hxm := HRM.out.2 x (hx0 ▸ List.getElem_mem hlt')
                    have HXI := Aside0.mk (show r[i]? = some x by rw [List.getElem?_eq_getElem hlt', hx0])
                    have HXM := Aside0.mk hxm
                    rw [hx0] at hx6
                    have hlti2 : (i : Int) < fn := by omega
                    have hlti3 : (i : Int) < r.length := by omega
                    have HLI := Aside0.mk hlt
                    have hx5 := HX5.out _ S.out.B
                    have hx := HXW.out _ S.out.B
                    obtain ⟨v0, z0⟩ := S.out.cellRow 0 rfl false i hlt
                    clear hx0 hlt hlt' hxm
                    by_cases hxp : 0 < x
                    · have hxpd : decide (0 < x) = true := decide_eq_true hxp
                      obtain ⟨qx, hqx⟩ : ∃ qx : Nat, x / 2 - 1 = (qx : Int) := ⟨(x / 2 - 1).toNat, by have := HXM.out; omega⟩
                      have hqi : qx < ins.length := by have := HXM.out; have := HIL.out; omega
                      obtain ⟨bd2, e7, hx7⟩ := at_bool (HB0.out.below S.out.B).r qx hqi
                      cases e7
                      obtain ⟨y, hy⟩ : ∃ y, ins[qx] = y := ⟨_, rfl⟩
                      rw [hy] at hx7
                      have HLB := Aside0.mk (show liftB ins x = y by unfold liftB; rw [decide_eq_true hxp, Bool.true_and, hqx, Int.toNat_natCast, getD_at hqi, hy])
                      have hwq2 : wrap64 (wrap64 (x.tdiv 2) - 1) = (qx : Int) := by
                        have hb1 := (gCheck_ok HCT.out)
                        have hb2 := HXM.out
                        rw [Int.tdiv_eq_ediv_of_nonneg (by omega), wrap_in (x := x / 2) (by omega) (by omega), wrap_in (by omega) (by omega)]
                        exact hqx
                      have hqii : (qx : Int) < ins.length := by omega
                      clear hy hqx hqi hxp
                      go_wp2
                      have S7 := Aside0.mk (show Parts w.heap.size w _ (pF w.heap.size Kd.bool 4 (.slice (some ⟨g, 0, none⟩) fn cap) (lrAt r ins (i + 1)) :: (trPs w.heap.size w.heap.size (w.heap.size + 1 + 1 + 1 + 1 + 1) p q fr tc ⟨A2, k2, some ad3, k3, A4, k4, A5, k5⟩ l ⟨TF, tf, some ad, ti⟩ t vF vI F hs rows)) from by
                        have h_ := S.out.putRow 0 rfl i y
                        rw [lrAt_put HXI.out HLB.out] at h_
                        exact h_)
                      go_roundg (fn - (i + 1))
                      case measure => have := HI.out; have := HLI.out; omega
                      case rel => exact ⟨i + 1, (by first | exact val_step HLI.out (by have := HFB.out; omega) | rfl), ⟨by have := HLI.out; omega, by have := HI.out; have := HLI.out; omega⟩, S7⟩
                    · have hxpd : decide (0 < x) = false := decide_eq_false hxp
                      have HLB := Aside0.mk (show liftB ins x = false by unfold liftB; rw [decide_eq_false hxp, Bool.false_and])
                      clear hxp
                      go_wp2
                      go_roundg (fn - (i + 1))
                      case measure => have := HI.out; have := HLI.out; omega
                      case rel => exact ⟨i + 1, (by first | exact val_step HLI.out (by have := HFB.out; omega) | rfl), ⟨by have := HLI.out; omega, by have := HI.out; have := HLI.out; omega⟩, by rw [← lrAt_skip HXI.out HLB.out]; exact S⟩
                  · have hi : i = fn := by have := HI.out; omega
                    subst hi
                    have hne : ¬ ((i : Nat) : Int) < (i : Int) := by omega
                    have S8 := Aside0.mk (show Parts w.heap.size w wr (pF w.heap.size Kd.bool 4 (.slice (some ⟨g, 0, none⟩) i cap) (liftRow r ins) :: (trPs w.heap.size w.heap.size (w.heap.size + 1 + 1 + 1 + 1 + 1) p q fr tc ⟨A2, k2, some ad3, k3, A4, k4, A5, k5⟩ l ⟨TF, tf, some ad, ti⟩ t vF vI F hs rows)) from by
                      have h_ := S.out
                      rw [show lrAt r ins i = liftRow r ins by rw [← HRL.out]; exact lrAt_end r ins] at h_
                      exact h_)
                    clear S hlt
                    obtain ⟨o0, q0⟩ := S8.out.cell 1 rfl 0 rfl
                    obtain ⟨o1, q1⟩ := S8.out.cell 1 rfl 1 rfl
                    go_wp2_with (first | (at_builtin; refine Parts.appendL S8.out 3 rfl flat_head rfl (.tmp 105) (.tmp 107) 55 (.slice none 0 0) 24 rfl Try.underlying55 infoRowB rfl (by decide) (by decide) (some ⟨g, 0, none⟩, i, cap) [.slice (some ⟨g, 0, none⟩) i cap] rfl rfl rfl (by have := HHL.out; omega) ?_; intro V7 cap7 w9 h9; have S9 := Aside0.mk h9; clear h9 o0 q0 o1 q1; obtain ⟨o1, q1⟩ := S9.out.cell 1 rfl 1 rfl))
                    have S10 := Aside0.mk (S9.out.put 1 rfl 1 (.slice V7 (hs.length + 1) cap7) rfl)
                    clear S9 S8 o1 q1
                    generalize w9.setCell ⟨w.heap.size + 1 + 1 + 1 + 1 + 1, 1, none⟩ (.slice V7 (hs.length + 1) cap7) = w10 at *
                    have hlr : i = (liftRow r ins).length := by unfold liftRow; rw [List.length_map, HRL.out]
                    have S11 := Aside0.mk (by have h_ := S10.out; rw [hlr] at h_; exact h_.inAdd 0 4 (by decide) rfl rfl)
                    clear hlr
                    go_roundg (l.f3.length - (j + 1))
                    case measure => have := HJ.out; have := HLJ.out; omega
                    case rel => exact ⟨j + 1, (V7, cap7), hs ++ [(some ⟨g, 0, none⟩, (liftRow r ins).length, cap)], (by first | exact val_step HLJ.out (by have := HL3.out; omega) | rfl), ⟨by have := HJ.out; omega, by have := HLJ.out; omega, by have := HJ.out; have := HLJ.out; omega⟩, by rw [show j + 1 - j0 = (j - j0) + 1 by have := HJ.out; omega]; exact trI_step HRI.out HRO.out S11⟩
              · have hlt2 : ¬ (j : Int) < l.f3.length := by omega
                have HE : j = l.f3.length := by have := HJ.out; omega
                go_wp2
                go_roundg (t.f1.length - (n + 1))
                case measure => have := HX.out; have := HLT.out; omega
                case rel => exact ⟨n + 1, vI, hs, (by first | exact val_step HLT.out (by have := H3.out; omega) | rfl), ⟨by have := HLT.out; omega, by have := HX.out; have := HLT.out; omega⟩, ⟨trN_step (m := j - j0) HIN.out (by rw [HJ0.out.1, List.length_drop]; omega) ▸ S.out⟩⟩
          · have hn0b : decide (0 < (n : Int)) = true := decide_eq_true (by omega)
            have hn0c : decide (0 < n) = true := decide_eq_true (by omega)
            obtain ⟨j0, hj0⟩ : ∃ j0 : Nat, l.f0.toNat = j0 := ⟨_, rfl⟩
            have HJ0 := Aside0.mk (show rowsOf l n = l.f3.drop j0 ∧ j0 ≤ l.f3.length by rw [← hj0]; unfold rowsOf; rw [if_neg hn0]; exact ⟨rfl, by have := LO.out.n3; have := LO.out.s0; have := LO.out.p0; omega⟩)
            have HJS := Aside0.mk (show l.f0 = (j0 : Int) by have := LO.out.s0; omega)
            clear hn0 hj0
            go_upto_region 16 with (fail)
            have SJ := Aside0.mk (show Parts w.heap.size w wr (trPs w.heap.size w.heap.size (w.heap.size + 1 + 1 + 1 + 1 + 1) p q fr tc ⟨A2, k2, A3, k3, A4, k4, A5, k5⟩ l ⟨TF, tf, some ad, ti⟩ t vF vI F hs (liftAll l 0 (t.f1.take n) ++ ((rowsOf l n).take (j0 - j0)).map (fun r => liftRow r ins))) from by rw [Nat.sub_self, List.take_zero, List.map_nil, List.append_nil]; exact S.out)
            clear S t1 y1 l0 l1 l2 l3 l4 l5 l6
            go_loopg [14, 15, 16, 17] l.f3.length (fun gg s14 _ _ _ wr => ∃ (j : Nat) (vI : Option Addr × Nat) (hs : List HeadR), s14 = .int .i64 j ∧ Aside0 (j0 ≤ j ∧ j ≤ l.f3.length ∧ l.f3.length - j ≤ gg) ∧ Aside0 (Parts w.heap.size w wr (trPs w.heap.size w.heap.size (w.heap.size + 1 + 1 + 1 + 1 + 1) p q fr tc ⟨A2, k2, A3, k3, A4, k4, A5, k5⟩ l ⟨TF, tf, some ad, ti⟩ t vF vI F hs (liftAll l 0 (t.f1.take n) ++ ((rowsOf l n).take (j - j0)).map (fun r => liftRow r ins)))))
            case atStart => exact ⟨j0, vI, hs, by rw [← HJS.out], ⟨by omega, by have := HJ0.out.2; omega, by omega⟩, SJ⟩
            case round =>
              clear SJ vI hs
              obtain ⟨j, vI, hs, rfl, HJ, S⟩ := hrel
              obtain ⟨l0, l1, l2, l3, l4, l5, l6⟩ := blk7 (S.out.blk 6 rfl)
              by_cases hlt : j < l.f3.length
              · obtain ⟨ad3, B5, cB5, e5, hx5, hB5⟩ := at_row HR.out.s3.r j hlt
                cases e5
                have HX5 := Aside0.mk (fun W (hb : Below w.heap.size w W) => pw_cell_below hb hx5)
                obtain ⟨r, hr⟩ : ∃ r, l.f3[j] = r := ⟨_, rfl⟩
                rw [hr] at HX5 hB5
                clear hx5
                have HRI := Aside0.mk (show (rowsOf l n)[j - j0]? = some r by rw [HJ0.out.1, List.getElem?_drop, show j0 + (j - j0) = j by have := HJ.out; omega, List.getElem?_eq_getElem hlt, hr])
                have HRM := Aside0.mk (LO.out.m3 r (hr ▸ List.getElem_mem hlt))
                have HRL := Aside0.mk (show r.length = fn by have := HRM.out.1; have := HFN.out; omega)
                have hltj : (j : Int) < l.f3.length := by omega
                have HLJ := Aside0.mk hlt
                have HBR := Aside0.mk hB5
                clear hr hlt hB5
                obtain ⟨rows, hrows⟩ : ∃ rows, (liftAll l 0 (t.f1.take n) ++ ((rowsOf l n).take (j - j0)).map (fun r => liftRow r ins)) = rows := ⟨_, rfl⟩
                have HRO := Aside0.mk hrows
                rw [hrows] at S
                have HHL := Aside0.mk (show hs.length ≤ 20000 by rw [S.out.inLen 3 rfl, ← hrows]; exact rows_le HL3.out (by have := H3.out; simp; omega) (j - j0) ins)
                clear hrows
                obtain ⟨c0, c1, c2, c3, c4⟩ := blk5 (S.out.blk 8 rfl)
                rw [HFN.out] at c0
                have hfb : (fn : Int) ≤ 1000 := by have := HFB.out; omega
                go_upto_region 19 with (first | (refine Parts.makeL S.out Kd.bool 4 flat_bool rfl (N := 74) rfl 46 (.tmp 73) (.tmp 73) rfl fn rfl rfl Try.underlying46 (.bool false) 1 infoBool rfl (by decide) (by decide) false rfl (by have := HFB.out; omega) ?_; intro g cap w2 hgw h2; have S2 := Aside0.mk h2; have HG := Aside0.mk hgw; clear h2 hgw))
                have S6 := Aside0.mk (show Parts w.heap.size w w2 (pF w.heap.size Kd.bool 4 (.slice (some ⟨g, 0, none⟩) fn cap) (lrAt r ins 0) :: (trPs w.heap.size w.heap.size (w.heap.size + 1 + 1 + 1 + 1 + 1) p q fr tc ⟨A2, k2, some ad3, k3, A4, k4, A5, k5⟩ l ⟨TF, tf, some ad, ti⟩ t vF vI F hs rows)) from by rw [lrAt_zero, HRL.out]; exact S2.out)
                clear S2 S c0 c1 c2 c3 c4 l0 l1 l2 l3 l4 l5 l6
                go_wp2
                go_loopg [16, 17] fn (fun gg s16 _ wr => ∃ i : Nat, s16 = .int .i64 i ∧ Aside0 (i ≤ fn ∧ fn - i ≤ gg) ∧ Aside0 (Parts w.heap.size w wr (pF w.heap.size Kd.bool 4 (.slice (some ⟨g, 0, none⟩) fn cap) (lrAt r ins i) :: (trPs w.heap.size w.heap.size (w.heap.size + 1 + 1 + 1 + 1 + 1) p q fr tc ⟨A2, k2, some ad3, k3, A4, k4, A5, k5⟩ l ⟨TF, tf, some ad, ti⟩ t vF vI F hs rows))))
                case atStart => exact ⟨0, rfl, ⟨by omega, by omega⟩, S6⟩
                case round =>
                  clear S6
                  obtain ⟨i, rfl, HI, S⟩ := hrel
                  obtain ⟨c0, c1, c2, c3, c4⟩ := blk5 (S.out.blk 9 rfl)
                  rw [HFN.out] at c0
                  obtain ⟨l0, l1, l2, l3, l4, l5, l6⟩ := blk7 (S.out.blk 7 rfl)
                  obtain ⟨t1, y1⟩ := S.out.cell 6 rfl 1 rfl
                  by_cases hlt : i < fn
                  · have hlt' : i < r.length := by rw [HRL.out]; exact hlt
                    obtain ⟨bd, e6, hx6⟩ := at_int (HBR.out.below S.out.B).r i hlt'
                    cases e6
                    obtain ⟨x, hx0⟩ : ∃ x, r[i] = x := ⟨_, rfl⟩
                    have hxm := HRM.out.2 x (hx0 ▸ List.getElem_mem hlt')
                    have HXI := Aside0.mk (show r[i]? = some x by rw [List.getElem?_eq_getElem hlt', hx0])
                    have HXM := Aside0.mk hxm
                    rw [hx0] at hx6
                    have hlti2 : (i : Int) < fn := by omega
                    have hlti3 : (i : Int) < r.length := by omega
                    have HLI := Aside0.mk hlt
                    have hx5 := HX5.out _ S.out.B
                    have hx := HXW.out _ S.out.B
                    obtain ⟨v0, z0⟩ := S.out.cellRow 0 rfl false i hlt
                    clear hx0 hlt hlt' hxm
                    by_cases hxp : 0 < x
                    · have hxpd : decide (0 < x) = true := decide_eq_true hxp
                      obtain ⟨qx, hqx⟩ : ∃ qx : Nat, x / 2 - 1 = (qx : Int) := ⟨(x / 2 - 1).toNat, by have := HXM.out; omega⟩
                      have hqi : qx < ins.length := by have := HXM.out; have := HIL.out; omega
                      obtain ⟨bd2, e7, hx7⟩ := at_bool (HB0.out.below S.out.B).r qx hqi
                      cases e7
                      obtain ⟨y, hy⟩ : ∃ y, ins[qx] = y := ⟨_, rfl⟩
                      rw [hy] at hx7
                      have HLB := Aside0.mk (show liftB ins x = y by unfold liftB; rw [decide_eq_true hxp, Bool.true_and, hqx, Int.toNat_natCast, getD_at hqi, hy])
                      have hwq2 : wrap64 (wrap64 (x.tdiv 2) - 1) = (qx : Int) := by
                        have hb1 := (gCheck_ok HCT.out)
                        have hb2 := HXM.out
                        rw [Int.tdiv_eq_ediv_of_nonneg (by omega), wrap_in (x := x / 2) (by omega) (by omega), wrap_in (by omega) (by omega)]
                        exact hqx
                      have hqii : (qx : Int) < ins.length := by omega
                      clear hy hqx hqi hxp
                      go_wp2
                      have S7 := Aside0.mk (show Parts w.heap.size w _ (pF w.heap.size Kd.bool 4 (.slice (some ⟨g, 0, none⟩) fn cap) (lrAt r ins (i + 1)) :: (trPs w.heap.size w.heap.size (w.heap.size + 1 + 1 + 1 + 1 + 1) p q fr tc ⟨A2, k2, some ad3, k3, A4, k4, A5, k5⟩ l ⟨TF, tf, some ad, ti⟩ t vF vI F hs rows)) from by
                        have h_ := S.out.putRow 0 rfl i y
                        rw [lrAt_put HXI.out HLB.out] at h_
                        exact h_)
                      go_roundg (fn - (i + 1))
                      case measure => have := HI.out; have := HLI.out; omega
                      case rel => exact ⟨i + 1, (by first | exact val_step HLI.out (by have := HFB.out; omega) | rfl), ⟨by have := HLI.out; omega, by have := HI.out; have := HLI.out; omega⟩, S7⟩
                    · have hxpd : decide (0 < x) = false := decide_eq_false hxp
                      have HLB := Aside0.mk (show liftB ins x = false by unfold liftB; rw [decide_eq_false hxp, Bool.false_and])
                      clear hxp
                      go_wp2
                      go_roundg (fn - (i + 1))
                      case measure => have := HI.out; have := HLI.out; omega
                      case rel => exact ⟨i + 1, (by first | exact val_step HLI.out (by have := HFB.out; omega) | rfl), ⟨by have := HLI.out; omega, by have := HI.out; have := HLI.out; omega⟩, by rw [← lrAt_skip HXI.out HLB.out]; exact S⟩
                  · have hi : i = fn := by have := HI.out; omega
                    subst hi
                    have hne : ¬ ((i : Nat) : Int) < (i : Int) := by omega
                    have S8 := Aside0.mk (show Parts w.heap.size w wr (pF w.heap.size Kd.bool 4 (.slice (some ⟨g, 0, none⟩) i cap) (liftRow r ins) :: (trPs w.heap.size w.heap.size (w.heap.size + 1 + 1 + 1 + 1 + 1) p q fr tc ⟨A2, k2, some ad3, k3, A4, k4, A5, k5⟩ l ⟨TF, tf, some ad, ti⟩ t vF vI F hs rows)) from by
                      have h_ := S.out
                      rw [show lrAt r ins i = liftRow r ins by rw [← HRL.out]; exact lrAt_end r ins] at h_
                      exact h_)
                    clear S hlt
                    obtain ⟨o0, q0⟩ := S8.out.cell 1 rfl 0 rfl
                    obtain ⟨o1, q1⟩ := S8.out.cell 1 rfl 1 rfl
                    go_wp2_with (first | (at_builtin; refine Parts.appendL S8.out 3 rfl flat_head rfl (.tmp 105) (.tmp 107) 55 (.slice none 0 0) 24 rfl Try.underlying55 infoRowB rfl (by decide) (by decide) (some ⟨g, 0, none⟩, i, cap) [.slice (some ⟨g, 0, none⟩) i cap] rfl rfl rfl (by have := HHL.out; omega) ?_; intro V7 cap7 w9 h9; have S9 := Aside0.mk h9; clear h9 o0 q0 o1 q1; obtain ⟨o1, q1⟩ := S9.out.cell 1 rfl 1 rfl))
                    have S10 := Aside0.mk (S9.out.put 1 rfl 1 (.slice V7 (hs.length + 1) cap7) rfl)
                    clear S9 S8 o1 q1
                    generalize w9.setCell ⟨w.heap.size + 1 + 1 + 1 + 1 + 1, 1, none⟩ (.slice V7 (hs.length + 1) cap7) = w10 at *
                    have hlr : i = (liftRow r ins).length := by unfold liftRow; rw [List.length_map, HRL.out]
                    have S11 := Aside0.mk (by have h_ := S10.out; rw [hlr] at h_; exact h_.inAdd 0 4 (by decide) rfl rfl)
                    clear hlr
                    go_roundg (l.f3.length - (j + 1))
                    case measure => have := HJ.out; have := HLJ.out; omega
                    case rel => exact ⟨j + 1, (V7, cap7), hs ++ [(some ⟨g, 0, none⟩, (liftRow r ins).length, cap)], (by first | exact val_step HLJ.out (by have := HL3.out; omega) | rfl), ⟨by have := HJ.out; omega, by have := HLJ.out; omega, by have := HJ.out; have := HLJ.out; omega⟩, by rw [show j + 1 - j0 = (j - j0) + 1 by have := HJ.out; omega]; exact trI_step HRI.out HRO.out S11⟩
              · have hlt2 : ¬ (j : Int) < l.f3.length := by omega
                have HE : j = l.f3.length := by have := HJ.out; omega
                go_wp2
                go_roundg (t.f1.length - (n + 1))
                case measure => have := HX.out; have := HLT.out; omega
                case rel => exact ⟨n + 1, vI, hs, (by first | exact val_step HLT.out (by have := H3.out; omega) | rfl), ⟨by have := HLT.out; omega, by have := HX.out; have := HLT.out; omega⟩, ⟨trN_step (m := j - j0) HIN.out (by rw [HJ0.out.1, List.length_drop]; omega) ▸ S.out⟩⟩
        · have hk : n = t.f1.length := by have := HX.out; omega
          subst hk
          have hlti : ¬ ((t.f1.length : Nat) : Int) < t.f1.length := by omega
          rw [List.take_length] at S
          obtain ⟨I, hI⟩ : ∃ I, liftAll l 0 t.f1 = I := ⟨_, rfl⟩
          rw [hI] at S
          have HHS := Aside0.mk (S.out.inLen 3 rfl)
          obtain ⟨o0, q0⟩ := S.out.cell 0 rfl 0 rfl
          obtain ⟨o1, q1⟩ := S.out.cell 0 rfl 1 rfl
          obtain ⟨r0, z0⟩ := S.out.cell 4 rfl 0 rfl
          obtain ⟨r1, z1⟩ := S.out.cell 4 rfl 1 rfl
          go_wp2
          have SZ := Aside0.mk ((S.out.put 4 rfl 0 (.slice vF.1 F.length vF.2) rfl).put 4 rfl 1 (.slice vI.1 hs.length vI.2) rfl)
          refine bodyPost_ret (results_cell_row rfl _ _ (w.heap.size + 1 + 1 + 1 + 1) 57 #[.slice vF.1 F.length vF.2, .slice vI.1 hs.length vI.2] (0, 0) _ rfl (SZ.out.blk 4 rfl) hu57 rfl (by kernel_rfl)) rfl ?_
          rw [show liftRun tc l t = ⟨F, I⟩ by unfold liftRun; rw [HF.out, hI]]
          exact ⟨⟨vF.1, vF.2, vI.1, vI.2⟩, by show _ = Ending.returned (.agg #[.slice vF.1 F.length vF.2, .slice vI.1 I.length vI.2]); rw [← HHS.out], fun W hm => ⟨RS.of_R' (SZ.out.moved hm 1 rfl), InRows.to (RS.of_R' (SZ.out.moved hm 2 rfl)) (SZ.out.moved hm 3 rfl)⟩, SZ.out.B⟩
end Go.Proofs.Ytlhiapggccgggaa.PH
