/- preds.Clauses. -/
import Derived.Test.YtgcdanpihaeioaaHOver
import Derived.Test.YtgcdanpihaeioaaHClause
namespace Go.Proofs.Ytgcdanpihaeioaa.PH
open Go.RowKit Go.Proofs.YtgcdanpihaeioaaW.PrintWords Go.Proofs.YtgcdanpihaeioaaW.PrintLast
set_option linter.unusedVariables false
set_option linter.unusedSimpArgs false

/-- That no literal of a clause is true, put together; that all clauses are true. -/
def noneR (first : Int) : List Int → List Gate → Bool → Int → List Gate × Bool × Int
  | [], ands, full, x => (ands, full, x)
  | y :: ys, ands, full, x => noneR first ys (andR ands first full x (litNot y)).1 (andR ands first full x (litNot y)).2.1 (andR ands first full x (litNot y)).2.2
def oneR (first : Int) (c : List Int) (ands : List Gate) (full : Bool) (x : Int) : List Gate × Bool × Int :=
  andR (noneR first c ands full 1).1 first (noneR first c ands full 1).2.1 x (litNot (noneR first c ands full 1).2.2)
def allR (first : Int) : List (List Int) → List Gate → Bool → Int → List Gate × Bool × Int
  | [], ands, full, x => (ands, full, x)
  | c :: cs, ands, full, x => allR first cs (oneR first c ands full x).1 (oneR first c ands full x).2.1 (oneR first c ands full x).2.2
def rightC (n : Int) (l : List (List Int)) : Bool := l.all (fun c => decide (clauseErr n c = 0))
/-- What preds.Clauses answers. -/
def clausesP (n : Int) (l : List (List Int)) : Pr × Int :=
  if n < 0 then (zeroP, 2) else if 1000 < n then (zeroP, 2) else if 1000 < (l.length : Int) then (zeroP, 4) else if rightC n l = false then (zeroP, 8)
  else predR (allR (n + 1) l [] false 1).1 (allR (n + 1) l [] false 1).2.1 (allR (n + 1) l [] false 1).2.2
theorem cOk_known {n : Int} : ∀ {l : List Int} {p : Int}, cOk n p l = true → ∀ y ∈ l, known n y = true
  | [], _, _, y, hy => by simp at hy
  | x :: xs, p, h, y, hy => by
    rw [cOk] at h
    simp only [Bool.and_eq_true] at h
    rcases List.mem_cons.1 hy with rfl | hy
    · exact h.1.1
    · exact cOk_known h.2 y hy
theorem rightC_lit {n : Int} {l : List (List Int)} (h : rightC n l = true) (h1 : n ≤ 1000) : ∀ c ∈ l, ∀ y ∈ c, IsLit y := fun c hc y hy => by
  have h2 := List.all_eq_true.1 h c hc
  simp only [decide_eq_true_eq] at h2
  unfold clauseErr at h2
  split at h2
  · cases h2
  split at h2
  · cases h2
  split at h2
  case isFalse => cases h2
  case isTrue h3 =>
    have h4 := known_parts (cOk_known h3 y hy)
    exact ⟨by omega, by omega⟩
theorem noneR_drop {first : Int} {c : List Int} {ands : List Gate} {full : Bool} {x : Int} {k : Nat} (hk : k < c.length) :
    noneR first (c.drop k) ands full x = noneR first (c.drop (k + 1)) (andR ands first full x (litNot c[k])).1 (andR ands first full x (litNot c[k])).2.1 (andR ands first full x (litNot c[k])).2.2 := by
  rw [drop_at hk, noneR]
theorem allR_drop {first : Int} {l : List (List Int)} {ands : List Gate} {full : Bool} {x : Int} {k : Nat} (hk : k < l.length) :
    allR first (l.drop k) ands full x = allR first (l.drop (k + 1)) (oneR first l[k] ands full x).1 (oneR first l[k] ands full x).2.1 (oneR first l[k] ands full x).2.2 := by
  rw [drop_at hk, allR]
/-- What holds in preds.Clauses: the result's cells, the builder. -/
structure CInv (w : World) (b0 gB : Nat) (E : Option Addr) (cap : Nat) (ands : List Gate) (first : Int) (F : Value) (full : Bool) (wr : World) : Prop where
  BW : Below w.heap.size w wr
  BR : wr.heap[w.heap.size]? = some (.cells #[.slice none 0 0, .int .i64 0] 24 (0, 0))
  SZ : b0 ≤ wr.heap.size
  BI : BInv b0 gB E cap ands first F full wr
theorem CInv.and {w : World} {b0 gB : Nat} {E : Option Addr} {cap : Nat} {ands : List Gate} {first : Int} {F : Value} {full : Bool} {wr w2 : World} {r : List Gate × Bool × Int} {e : Ending} (h : CInv w b0 gB E cap ands first F full wr) (hb : w.heap.size < b0) (hr : RetB b0 gB E ands.length cap first F r wr w2 e) :
    ∃ E' cap', CInv w b0 gB E' cap' r.1 first F r.2.1 w2 := by
  obtain ⟨_, ⟨E', cap', hI, _⟩, hB, _⟩ := hr
  exact ⟨E', cap', h.BW.trans (hB.mono (Nat.le_of_lt hb)), (hB.block _ hb).trans h.BR, Nat.le_trans h.SZ hB.size, hI⟩
theorem CInv.below {w : World} {b0 gB : Nat} {E : Option Addr} {cap : Nat} {ands : List Gate} {first : Int} {F : Value} {full : Bool} {wr w2 : World} (h : CInv w b0 gB E cap ands first F full wr) (hb : Below wr.heap.size wr w2) : CInv w b0 gB E cap ands first F full w2 :=
  ⟨h.BW.trans (hb.mono h.BW.size), blk_below h.BR hb, Nat.le_trans h.SZ hb.size, ⟨blk_below h.BI.BB hb, Kd.R_below h.BI.RR hb⟩⟩
set_option maxHeartbeats 4000000 in
set_option maxRecDepth 100000 in
theorem preds_Clauses (n : Int) (A : Option Addr) (c : Nat) (l : List (List Int)) (w : World) (h : RS (Kd.slice 3 (Kd.int .i64)) w A c l) (hi : ∀ r ∈ l, ∀ x ∈ r, I64 x) :
    Calls Try.prog 19 #[.int .i64 n, .slice A l.length c] w fun e w' => RetP w.heap.size w w' (clausesP n l) e := by
  have HL := Aside0.mk h
  have HI := Aside0.mk hi
  have HX := Aside0.mk h.max
  have hu24 := Try.underlying24
  have hu83 := Try.underlying83
  have B1 := Aside0.mk (below_alloc (Below.refl w.heap.size w) (.cells #[.slice none 0 0, .int .i64 0] 24))
  have BN := Aside0.mk (blk_new w (.cells #[.slice none 0 0, .int .i64 0] 24))
  clear h hi
  unfold clausesP
  by_cases h0 : n < 0
  · rw [if_pos h0]
    obtain ⟨⟨r0, r1⟩, z0, z1⟩ := blk2w BN.out
    go_enter Try.func19, Try.ntmps19
    go_wp2
    refine bodyPost_ret (results_ct rfl _ _ w.heap.size 24 #[.slice none 0 0, .int .i64 0] (0, 0) _ rfl BN.out hu24 rfl (by kernel_rfl)) rfl ?_
    exact ⟨none, 0, rfl, Kd.R_nil _ _ _ _ _, B1.out⟩
  rw [if_neg h0]
  by_cases h1 : 1000 < n
  · rw [if_pos h1]
    obtain ⟨⟨r0, r1⟩, z0, z1⟩ := blk2w BN.out
    go_enter Try.func19, Try.ntmps19
    go_wp2
    refine bodyPost_ret (results_ct rfl _ _ w.heap.size 24 #[.slice none 0 0, .int .i64 0] (0, 0) _ rfl BN.out hu24 rfl (by kernel_rfl)) rfl ?_
    exact ⟨none, 0, rfl, Kd.R_nil _ _ _ _ _, B1.out⟩
  rw [if_neg h1]
  by_cases h2 : 1000 < (l.length : Int)
  · rw [if_pos h2]
    obtain ⟨⟨r0, r1⟩, z0, z1⟩ := blk2w BN.out
    go_enter Try.func19, Try.ntmps19
    go_wp2
    refine bodyPost_ret (results_ct rfl _ _ w.heap.size 24 #[.slice none 0 0, .int .i64 0] (0, 0) _ rfl BN.out hu24 rfl (by kernel_rfl)) rfl ?_
    exact ⟨none, 0, rfl, Kd.R_nil _ _ _ _ _, B1.out⟩
  rw [if_neg h2]
  obtain ⟨R, hR⟩ : ∃ R, (if rightC n l = false then (zeroP, 8) else predR (allR (n + 1) l [] false 1).1 (allR (n + 1) l [] false 1).2.1 (allR (n + 1) l [] false 1).2.2) = R := ⟨_, rfl⟩
  rw [hR]
  have HR := Aside0.mk hR
  have HN := Aside0.mk (And.intro (show 0 ≤ n by omega) (show n ≤ 1000 by omega))
  clear hR
  go_enter Try.func19, Try.ntmps19
  go_wp2
  clear h0 h1 h2
  generalize w.alloc (.cells #[.slice none 0 0, .int .i64 0] 24) = w1 at *
  go_loopg [28] l.length (fun gg s28 wr => ∃ (i : Nat), s28 = .int .i64 i ∧ Aside0 (i ≤ l.length ∧ l.length - i ≤ gg) ∧ Aside0 (Below w.heap.size w wr) ∧ Aside0 (wr.heap[w.heap.size]? = some (.cells #[.slice none 0 0, .int .i64 0] 24 (0, 0))) ∧ Aside0 (rightC n (l.drop i) = rightC n l))
  case atStart => exact ⟨0, rfl, ⟨by omega, by omega⟩, B1, BN, ⟨rfl⟩⟩
  case round =>
    clear B1 BN
    obtain ⟨i, rfl, HK, BW, BR, HT⟩ := hrel
    obtain ⟨⟨r0, r1⟩, z0, z1⟩ := blk2w BR.out
    by_cases hlt : i < l.length
    · obtain ⟨ad, B, cB, e1, hx, hrow⟩ := at_row (HL.out.below BW.out).r i hlt
      cases e1
      have HIC := Aside0.mk (HI.out _ (List.getElem_mem hlt))
      have hst : rightC n (l.drop i) = (decide (clauseErr n l[i] = 0) && rightC n (l.drop (i + 1))) := all_step hlt
      generalize l[i] = cl at *
      have HST := Aside0.mk hst
      have HRW := Aside0.mk hrow
      have HLT := Aside0.mk hlt
      clear hst hrow
      go_wp2_with fail
      refine (clause_Check n B cB cl _ HRW.out HIC.out).mono ?_
      rintro e w2 ⟨rfl, hb2⟩
      have B2 := Aside0.mk (BW.out.trans (hb2.mono BW.out.size))
      have R2_ := Aside0.mk (blk_below BR.out hb2)
      clear hb2 r0 r1 z0 z1
      obtain ⟨⟨r0, r1⟩, z0, z1⟩ := blk2w R2_.out
      by_cases hce : clauseErr n cl = 0
      · have HT2 := Aside0.mk (show rightC n (l.drop (i + 1)) = rightC n l by have h_ := HT.out; rw [HST.out, decide_eq_true hce, Bool.true_and] at h_; exact h_)
        rw [hce]
        clear hce
        go_wp2
        go_roundg (l.length - (i + 1))
        case measure => have := HK.out; have := HLT.out; omega
        case rel => exact ⟨i + 1, val_step HLT.out HX.out, ⟨HLT.out, by have := HK.out; omega⟩, B2, R2_, HT2⟩
      · have HR2 := Aside0.mk (show R = (zeroP, 8) by
          have h_ := HT.out
          rw [HST.out, decide_eq_false hce, Bool.false_and] at h_
          have h2 := HR.out
          rw [if_pos h_.symm] at h2
          exact h2.symm)
        have hcb : (clauseErr n cl != 0) = true := bne_iff_ne.mpr hce
        clear hce
        go_wp2
        refine bodyPost_ret (results_ct rfl _ _ w.heap.size 24 #[.slice none 0 0, .int .i64 0] (0, 0) _ rfl (blk2_set R2_.out _ _) hu24 rfl (by kernel_rfl)) rfl ?_
        rw [HR2.out]
        exact ⟨none, 0, rfl, Kd.R_nil _ _ _ _ _, below2 B2.out (Nat.le_refl _) _ _⟩
    · have hi : i = l.length := by have := HK.out.1; omega
      subst hi
      have HLA := Aside0.mk (show rightC n l = true by have h_ := HT.out; rw [List.drop_length] at h_; exact h_.symm)
      have HLIT := Aside0.mk (rightC_lit HLA.out HN.out.2)
      have HR2 := Aside0.mk (show R = predR (allR (n + 1) l [] false 1).1 (allR (n + 1) l [] false 1).2.1 (allR (n + 1) l [] false 1).2.2 by
        have h2 := HR.out
        rw [if_neg (by rw [HLA.out]; decide)] at h2
        exact h2.symm)
      clear HT r0 r1 z0 z1
      go_wp2_with fail
      refine (show Calls _ _ #[.int .i64 n, .slice none 0 0] _ _ from preds_over n none 0 [] wr (RS.nil _ _ _) (by simp) HN.out.1 HN.out.2).mono ?_
      rintro e w2 ⟨gB, E, cap, rfl, hI, hg, hb2⟩
      have I0 : Aside0 (CInv w wr.heap.size gB E cap [] (n + 1) (.func (.func 69) #[] #[]) false w2) := ⟨⟨BW.out.trans (hb2.mono BW.out.size), blk_below BR.out hb2, hb2.size, hI⟩⟩
      have HGB := Aside0.mk hg
      have HB0 := Aside0.mk (show w.heap.size < wr.heap.size from blk_lt BR.out)
      generalize wr.heap.size = b0 at *
      generalize (Value.func (.func 69) #[] #[]) = F at *
      clear hI hg hb2 BW BR
      go_wp2
      go_loopg [9, 42] l.length (fun gg s9 s42 wr => ∃ (i : Nat) (x : Int) (E : Option Addr) (cap : Nat) (ands : List Gate) (full : Bool), s9 = .int .i64 x ∧ s42 = .int .i64 i ∧ Aside0 (i ≤ l.length ∧ l.length - i ≤ gg) ∧ Aside0 (CInv w b0 gB E cap ands (n + 1) F full wr) ∧ Aside0 (IsLit x ∧ n + 1 + ands.length ≤ 1001) ∧ Aside0 (allR (n + 1) (l.drop i) ands full x = allR (n + 1) l [] false 1))
      case atStart => exact ⟨0, 1, E, cap, [], false, rfl, rfl, ⟨by omega, by omega⟩, I0, ⟨⟨by decide, by decide⟩, by have := HN.out; simp; omega⟩, ⟨rfl⟩⟩
      case round =>
        clear I0
        obtain ⟨i, x, E, cap, ands, full, rfl, rfl, HK2, I, HO, HT⟩ := hrel
        by_cases hlt : i < l.length
        · obtain ⟨ad, B, cB, e1, hx0, hrow⟩ := at_row HL.out.r i hlt
          cases e1
          have HCL := Aside0.mk (HLIT.out _ (List.getElem_mem hlt))
          have HTT := HT.out
          rw [allR_drop hlt] at HTT
          generalize l[i] = cl at *
          have HRW := Aside0.mk hrow
          have HLT := Aside0.mk hlt
          have HT2 := Aside0.mk HTT
          have HXC := Aside0.mk hrow.max
          have hx := pw_cell_below I.out.BW hx0
          clear hrow HT HTT hx0
          go_wp2
          clear hx
          go_loopg [12, 48] cl.length (fun gg s12 s48 wr => ∃ (k : Nat) (y : Int) (E' : Option Addr) (cap' : Nat) (ands' : List Gate) (full' : Bool), s12 = .int .i64 y ∧ s48 = .int .i64 k ∧ Aside0 (k ≤ cl.length ∧ cl.length - k ≤ gg) ∧ Aside0 (CInv w b0 gB E' cap' ands' (n + 1) F full' wr) ∧ Aside0 (IsLit y ∧ n + 1 + ands'.length ≤ 1001) ∧ Aside0 (noneR (n + 1) (cl.drop k) ands' full' y = noneR (n + 1) cl ands full 1))
          case atStart => exact ⟨0, 1, E, cap, ands, full, rfl, rfl, ⟨by omega, by omega⟩, I, ⟨⟨by decide, by decide⟩, HO.out.2⟩, ⟨rfl⟩⟩
          case round =>
            clear I
            obtain ⟨k, y, E', cap', ands', full', rfl, rfl, HK3, I, HO3, HT3⟩ := hrel
            by_cases hlt3 : k < cl.length
            · obtain ⟨ad3, e1, hx⟩ := at_int (HRW.out.below I.out.BW).r k hlt3
              cases e1
              have HZ := Aside0.mk (HCL.out _ (List.getElem_mem hlt3))
              have HTT := HT3.out
              rw [noneR_drop hlt3] at HTT
              generalize cl[k] = z at *
              have hxz := xor_one HZ.out
              have HT4 := Aside0.mk HTT
              have HLT3 := Aside0.mk hlt3
              have HAN := Aside0.mk (builder_and b0 gB E' cap' ands' (n + 1) F full' y (litNot z) wr HO3.out.1 (litNot_lit HZ.out) I.out.BI I.out.SZ HGB.out (by have := HN.out; omega) (by have := HN.out; omega) (by have := HO3.out.2; have := HN.out; omega))
              have HAL := Aside0.mk (andR_lit (full := full') (first := n + 1) HO3.out.1 (litNot_lit HZ.out) (by have := HN.out; omega) HO3.out.2)
              clear HTT HT3
              go_wp2_with fail
              refine HAN.out.mono ?_
              clear HAN
              rintro e w5 hRB
              obtain ⟨E5, cap5, I5⟩ := I.out.and HB0.out hRB
              obtain ⟨rfl, _⟩ := hRB
              have I5 := Aside0.mk I5
              generalize andR ands' (n + 1) full' y (litNot z) = r at *
              clear hxz
              go_wp2
              go_roundg (cl.length - (k + 1))
              case measure => have := HK3.out; have := HLT3.out; omega
              case rel => exact ⟨k + 1, r.2.2, E5, cap5, r.1, r.2.1, rfl, val_step HLT3.out HXC.out, ⟨HLT3.out, by have := HK3.out; omega⟩, I5, HAL, HT4⟩
            · have hk : k = cl.length := by have := HK3.out.1; omega
              subst hk
              have HNR := Aside0.mk (show oneR (n + 1) cl ands full x = andR ands' (n + 1) full' x (litNot y) by
                have h_ := HT3.out
                rw [List.drop_length] at h_
                unfold oneR
                rw [← h_]
                rfl)
              have hxy := xor_one HO3.out.1
              have HAN := Aside0.mk (builder_and b0 gB E' cap' ands' (n + 1) F full' x (litNot y) wr HO.out.1 (litNot_lit HO3.out.1) I.out.BI I.out.SZ HGB.out (by have := HN.out; omega) (by have := HN.out; omega) (by have := HO3.out.2; have := HN.out; omega))
              have HAL := Aside0.mk (andR_lit (full := full') (first := n + 1) HO.out.1 (litNot_lit HO3.out.1) (by have := HN.out; omega) HO3.out.2)
              have HT5 := HT2.out
              rw [HNR.out] at HT5
              have HT6 := Aside0.mk HT5
              clear HT3 HT5 HT2 HNR
              go_wp2_with fail
              refine HAN.out.mono ?_
              clear HAN
              rintro e w5 hRB
              obtain ⟨E5, cap5, I5⟩ := I.out.and HB0.out hRB
              obtain ⟨rfl, _⟩ := hRB
              have I5 := Aside0.mk I5
              generalize andR ands' (n + 1) full' x (litNot y) = r at *
              clear hxy
              go_wp2
              go_roundg (l.length - (i + 1))
              case measure => have := HK2.out; have := HLT.out; omega
              case rel => exact ⟨i + 1, r.2.2, E5, cap5, r.1, r.2.1, rfl, val_step HLT.out HX.out, ⟨HLT.out, by have := HK2.out; omega⟩, I5, HAL, HT6⟩
        · have hi : i = l.length := by have := HK2.out.1; omega
          subst hi
          have HR3 := Aside0.mk (show R = predR ands full x by
            have h_ := HT.out
            rw [List.drop_length] at h_
            rw [HR2.out, ← h_]
            rfl)
          clear HT
          go_wp2_with fail
          refine (builder_pred b0 gB E cap ands (n + 1) F full x _ I.out.BI).mono ?_
          rintro e w6 ⟨A6, k6, rfl, hr6, hb6⟩
          have I6 := Aside0.mk (I.out.below hb6)
          have R6 := Aside0.mk hr6
          rw [← HR3.out] at R6 ⊢
          clear hb6 hr6
          obtain ⟨⟨r0, r1⟩, z0, z1⟩ := blk2w I6.out.BR
          go_wp2
          refine bodyPost_ret (results_ct rfl _ _ w.heap.size 24 #[.slice A6 R.1.f0.length k6, .int .i64 R.1.f1] (0, 0) _ rfl (blk2_set I6.out.BR _ _) hu24 rfl (by kernel_rfl)) rfl ?_
          exact ⟨A6, k6, rfl, R2 (Kd.R_lower R6.out (Nat.le_of_lt HB0.out)) I6.out.BR (by decide) _ _, below2 I6.out.BW (Nat.le_refl _) _ _⟩
end Go.Proofs.Ytgcdanpihaeioaa.PH
