/- The reference's Clauses. -/
import Derived.Test.YtgcdanpihaeioaaHClausesP
import Derived.Test.YtgcdanpihaeioaaHClauseR
import Derived.Test.YtgcdanpihaeioaaHRefMake2
namespace Go.Proofs.Ytgcdanpihaeioaa.PH
open Go.RowKit Go.Proofs.YtgcdanpihaeioaaW.PrintWords Go.Proofs.YtgcdanpihaeioaaW.PrintLast
set_option linter.unusedVariables false
set_option linter.unusedSimpArgs false

def noneJ (n : Int) : List Int → List Gate → Int → List Gate × Int
  | [], ands, x => (ands, x)
  | y :: ys, ands, x => noneJ n ys (joinR ands n x (litNot y)).1 (joinR ands n x (litNot y)).2
def oneJ (n : Int) (c : List Int) (ands : List Gate) (x : Int) : List Gate × Int := joinR (noneJ n c ands 1).1 n x (litNot (noneJ n c ands 1).2)
def allJ (n : Int) : List (List Int) → List Gate → Int → List Gate × Int
  | [], ands, x => (ands, x)
  | c :: cs, ands, x => allJ n cs (oneJ n c ands x).1 (oneJ n c ands x).2
/-- What the reference's Clauses answers. -/
def clausesR (n : Int) (l : List (List Int)) : Pr × Int :=
  if n < 0 then (zeroP, 2) else if 1000 < n then (zeroP, 2) else if 1000 < (l.length : Int) then (zeroP, 4) else if rightC n l = false then (zeroP, 8)
  else fewR n ⟨(allJ n l [] 1).1, (allJ n l [] 1).2⟩
theorem noneJ_drop {n : Int} {c : List Int} {ands : List Gate} {x : Int} {k : Nat} (hk : k < c.length) :
    noneJ n (c.drop k) ands x = noneJ n (c.drop (k + 1)) (joinR ands n x (litNot c[k])).1 (joinR ands n x (litNot c[k])).2 := by
  rw [drop_at hk, noneJ]
theorem allJ_drop {n : Int} {l : List (List Int)} {ands : List Gate} {x : Int} {k : Nat} (hk : k < l.length) :
    allJ n (l.drop k) ands x = allJ n (l.drop (k + 1)) (oneJ n l[k] ands x).1 (oneJ n l[k] ands x).2 := by
  rw [drop_at hk, allJ]
/-- What holds in Clauses: the result's cells, the predicate that grows. -/
structure DInv (w : World) (g : Nat) (E : Option Addr) (cap : Nat) (ands : List Gate) (x : Int) (wr : World) : Prop where
  BW : Below w.heap.size w wr
  BR : wr.heap[w.heap.size]? = some (.cells #[.slice none 0 0, .int .i64 0] 24 (0, 0))
  BO : wr.heap[g]? = some (.cells #[.slice E ands.length cap, .int .i64 x] 24 (0, 0))
  SZ : g ≤ wr.heap.size
  RE : Kd.R kGate 71 wr g (fun _ => True) (.slice E ands.length cap) ands
theorem DInv.below {w : World} {g : Nat} {E : Option Addr} {cap : Nat} {ands : List Gate} {x : Int} {wr w2 : World} (h : DInv w g E cap ands x wr) (hb : Below wr.heap.size wr w2) : DInv w g E cap ands x w2 :=
  ⟨h.BW.trans (hb.mono h.BW.size), blk_below h.BR hb, blk_below h.BO hb, Nat.le_trans h.SZ hb.size, Kd.R_below h.RE hb⟩
/-- Behind a Join, ahead of the store. -/
structure EInv (w : World) (g : Nat) (E : Option Addr) (m cap : Nat) (x : Int) (E' : Option Addr) (cap' : Nat) (ands' : List Gate) (wr : World) : Prop where
  BW : Below w.heap.size w wr
  BR : wr.heap[w.heap.size]? = some (.cells #[.slice none 0 0, .int .i64 0] 24 (0, 0))
  BO : wr.heap[g]? = some (.cells #[.slice E m cap, .int .i64 x] 24 (0, 0))
  SZ : g ≤ wr.heap.size
  RE : Kd.R kGate 71 wr g (fun _ => True) (.slice E' ands'.length cap') ands'
theorem DInv.join {w : World} {g : Nat} {E : Option Addr} {cap : Nat} {ands : List Gate} {x : Int} {wr w2 : World} (h : DInv w g E cap ands x wr) (hg : w.heap.size < g) {E' : Option Addr} {cap' : Nat} {r : List Gate} (hR : Kd.R kGate 71 w2 g (fun _ => True) (.slice E' r.length cap') r) (hB : Below g wr w2) (hK : ∀ k, k < wr.heap.size → some k ≠ (Value.slice E ands.length cap).ownBlock → w2.heap[k]? = wr.heap[k]?) :
    EInv w g E ands.length cap x E' cap' r w2 :=
  ⟨h.BW.trans (hB.mono (Nat.le_of_lt hg)), (hB.block _ hg).trans h.BR, (hK g (blk_lt h.BO) (Kd.R_ne h.RE h.BO (by decide))).trans h.BO, Nat.le_trans h.SZ hB.size, hR⟩
theorem EInv.put {w : World} {g : Nat} {E : Option Addr} {m cap : Nat} {x : Int} {E' : Option Addr} {cap' : Nat} {ands' : List Gate} {wr : World} (h : EInv w g E m cap x E' cap' ands' wr) (hg : w.heap.size < g) : DInv w g E' cap' ands' x (wr.setCell ⟨g, 0, none⟩ (.slice E' ands'.length cap')) :=
  ⟨below_set h.BW (Nat.le_of_lt hg), blk_far (p := ⟨g, 0, none⟩) h.BR (Nat.ne_of_lt hg) _, by simpa using blk_set h.BO 0 (.slice E' ands'.length cap'), by simpa using h.SZ, Kd.R_set h.RE h.BO (by decide) 0 _⟩
theorem EInv.put2 {w : World} {g : Nat} {E : Option Addr} {m cap : Nat} {x : Int} {E' : Option Addr} {cap' : Nat} {ands' : List Gate} {wr : World} (h : EInv w g E m cap x E' cap' ands' wr) (hg : w.heap.size < g) (y : Int) : DInv w g E' cap' ands' y ((wr.setCell ⟨g, 0, none⟩ (.slice E' ands'.length cap')).setCell ⟨g, 1, none⟩ (.int .i64 y)) :=
  ⟨below2 h.BW (Nat.le_of_lt hg) _ _, far2 h.BR (Nat.ne_of_lt hg) _ _, blk2_set h.BO _ _, by simpa using h.SZ, R2 h.RE h.BO (by decide) _ _⟩
set_option maxHeartbeats 4000000 in
set_option maxRecDepth 100000 in
theorem ref24_Clauses (n : Int) (A : Option Addr) (c : Nat) (l : List (List Int)) (w : World) (h : RS (Kd.slice 3 (Kd.int .i64)) w A c l) (hi : ∀ r ∈ l, ∀ x ∈ r, I64 x) (hl60 : l.length ≤ 60) (hl40 : ∀ r ∈ l, r.length ≤ 40) :
    Calls Try.prog 20 #[.int .i64 n, .slice A l.length c] w fun e w' => RetP w.heap.size w w' (clausesR n l) e := by
  have HL := Aside0.mk h
  have HI := Aside0.mk hi
  have HX := Aside0.mk h.max
  have H60 := Aside0.mk hl60
  have H40 := Aside0.mk hl40
  have hu24 := Try.underlying24
  have B1 := Aside0.mk (below_alloc (Below.refl w.heap.size w) (.cells #[.slice none 0 0, .int .i64 0] 24))
  have BN := Aside0.mk (blk_new w (.cells #[.slice none 0 0, .int .i64 0] 24))
  clear h hi hl60 hl40
  unfold clausesR
  by_cases h0 : n < 0
  · rw [if_pos h0]
    obtain ⟨⟨r0, r1⟩, z0, z1⟩ := blk2w BN.out
    go_enter Try.func20, Try.ntmps20
    go_wp2
    refine bodyPost_ret (results_ct rfl _ _ w.heap.size 24 #[.slice none 0 0, .int .i64 0] (0, 0) _ rfl BN.out hu24 rfl (by kernel_rfl)) rfl ?_
    exact ⟨none, 0, rfl, Kd.R_nil _ _ _ _ _, B1.out⟩
  rw [if_neg h0]
  by_cases h1 : 1000 < n
  · rw [if_pos h1]
    obtain ⟨⟨r0, r1⟩, z0, z1⟩ := blk2w BN.out
    go_enter Try.func20, Try.ntmps20
    go_wp2
    refine bodyPost_ret (results_ct rfl _ _ w.heap.size 24 #[.slice none 0 0, .int .i64 0] (0, 0) _ rfl BN.out hu24 rfl (by kernel_rfl)) rfl ?_
    exact ⟨none, 0, rfl, Kd.R_nil _ _ _ _ _, B1.out⟩
  rw [if_neg h1]
  have h2 : ¬ 1000 < (l.length : Int) := by have := H60.out; omega
  rw [if_neg h2]
  obtain ⟨R, hR⟩ : ∃ R, (if rightC n l = false then (zeroP, 8) else fewR n ⟨(allJ n l [] 1).1, (allJ n l [] 1).2⟩) = R := ⟨_, rfl⟩
  rw [hR]
  have HR := Aside0.mk hR
  have HN := Aside0.mk (And.intro (show 0 ≤ n by omega) (show n ≤ 1000 by omega))
  clear hR
  go_enter Try.func20, Try.ntmps20
  go_wp2
  clear h0 h1 h2
  generalize w.alloc (.cells #[.slice none 0 0, .int .i64 0] 24) = w1 at *
  go_loopg [6] l.length (fun gg s6 wr => ∃ (i : Nat), s6 = .int .i64 i ∧ Aside0 (i ≤ l.length ∧ l.length - i ≤ gg) ∧ Aside0 (Below w.heap.size w wr) ∧ Aside0 (wr.heap[w.heap.size]? = some (.cells #[.slice none 0 0, .int .i64 0] 24 (0, 0))) ∧ Aside0 (rightC n (l.drop i) = rightC n l))
  case atStart => exact ⟨0, rfl, ⟨by omega, by omega⟩, B1, BN, ⟨rfl⟩⟩
  case round =>
    clear B1 BN
    obtain ⟨i, rfl, HK, BW, BR, HT⟩ := hrel
    obtain ⟨⟨r0, r1⟩, z0, z1⟩ := blk2w BR.out
    by_cases hlt : i < l.length
    · obtain ⟨ad, B, cB, e1, hx, hrow⟩ := at_row (HL.out.below BW.out).r i hlt
      cases e1
      have HIC := Aside0.mk (HI.out _ (List.getElem_mem hlt))
      have hst : rightC n (l.drop i) = (decide (clauseErr n l[i] = 0) && rightC n (l.drop (i + 1))) := all_step hlt
      generalize l[i] = cl at *
      have HST := Aside0.mk hst
      have HRW := Aside0.mk hrow
      have HLT := Aside0.mk hlt
      clear hst hrow
      go_wp2_with fail
      refine (ref13_Check n B cB cl _ HRW.out HIC.out).mono ?_
      rintro e w2 ⟨rfl, hb2⟩
      have B2 := Aside0.mk (BW.out.trans (hb2.mono BW.out.size))
      have R2_ := Aside0.mk (blk_below BR.out hb2)
      clear hb2 r0 r1 z0 z1
      obtain ⟨⟨r0, r1⟩, z0, z1⟩ := blk2w R2_.out
      by_cases hce : clauseErr n cl = 0
      · have HT2 := Aside0.mk (show rightC n (l.drop (i + 1)) = rightC n l by have h_ := HT.out; rw [HST.out, decide_eq_true hce, Bool.true_and] at h_; exact h_)
        rw [hce]
        clear hce
        go_wp2
        go_roundg (l.length - (i + 1))
        case measure => have := HK.out; have := HLT.out; omega
        case rel => exact ⟨i + 1, val_step HLT.out HX.out, ⟨HLT.out, by have := HK.out; omega⟩, B2, R2_, HT2⟩
      · have HR2 := Aside0.mk (show R = (zeroP, 8) by
          have h_ := HT.out
          rw [HST.out, decide_eq_false hce, Bool.false_and] at h_
          have h2 := HR.out
          rw [if_pos h_.symm] at h2
          exact h2.symm)
        have hcb : (clauseErr n cl != 0) = true := bne_iff_ne.mpr hce
        clear hce
        go_wp2
        refine bodyPost_ret (results_ct rfl _ _ w.heap.size 24 #[.slice none 0 0, .int .i64 0] (0, 0) _ rfl (blk2_set R2_.out _ _) hu24 rfl (by kernel_rfl)) rfl ?_
        rw [HR2.out]
        exact ⟨none, 0, rfl, Kd.R_nil _ _ _ _ _, below2 B2.out (Nat.le_refl _) _ _⟩
    · have hi : i = l.length := by have := HK.out.1; omega
      subst hi
      have HLA := Aside0.mk (show rightC n l = true by have h_ := HT.out; rw [List.drop_length] at h_; exact h_.symm)
      have HLIT := Aside0.mk (rightC_lit HLA.out HN.out.2)
      have HR2 := Aside0.mk (show R = fewR n ⟨(allJ n l [] 1).1, (allJ n l [] 1).2⟩ by
        have h2 := HR.out
        rw [if_neg (by rw [HLA.out]; decide)] at h2
        exact h2.symm)
      clear HT r0 r1 z0 z1
      have I0 : Aside0 (DInv w wr.heap.size none 0 [] 1 (wr.alloc (.cells #[.slice none 0 0, .int .i64 1] 24))) := ⟨⟨below_alloc BW.out _, blk_alloc BR.out _, blk_new _ _, by simp, Kd.R_nil _ _ _ _ _⟩⟩
      have HG0 := Aside0.mk (show w.heap.size < wr.heap.size from blk_lt BR.out)
      go_wp2
      generalize wr.alloc (.cells #[.slice none 0 0, .int .i64 1] 24) = w2 at *
      generalize wr.heap.size = g at *
      clear BW BR
      go_loopg [8] l.length (fun gg s8 wr => ∃ (i : Nat) (x : Int) (E : Option Addr) (cap : Nat) (ands : List Gate), s8 = .int .i64 i ∧ Aside0 (i ≤ l.length ∧ l.length - i ≤ gg) ∧ Aside0 (DInv w g E cap ands x wr) ∧ Aside0 (IsMid x ∧ ands.length ≤ 41 * i) ∧ Aside0 (allJ n (l.drop i) ands x = allJ n l [] 1))
      case atStart => exact ⟨0, 1, none, 0, [], rfl, ⟨by omega, by omega⟩, I0, ⟨⟨by decide, by decide⟩, by simp⟩, ⟨rfl⟩⟩
      case round =>
        clear I0
        obtain ⟨i, x, E, cap, ands, rfl, HK2, I, HO, HT⟩ := hrel
        by_cases hlt : i < l.length
        · obtain ⟨ad, B, cB, e1, hx0, hrow⟩ := at_row HL.out.r i hlt
          cases e1
          have HCL := Aside0.mk (HLIT.out _ (List.getElem_mem hlt))
          have HC40 := Aside0.mk (H40.out _ (List.getElem_mem hlt))
          have HTT := HT.out
          rw [allJ_drop hlt] at HTT
          generalize l[i] = cl at *
          have HRW := Aside0.mk hrow
          have HLT := Aside0.mk hlt
          have HT2 := Aside0.mk HTT
          have HXC := Aside0.mk hrow.max
          have HXD := Aside0.mk hx0
          clear hrow HT HTT
          have hx := pw_cell_below I.out.BW hx0
          clear hx0
          go_wp2
          clear hx
          go_loopg [9, 10] cl.length (fun gg s9 s10 wr => ∃ (k : Nat) (y : Int) (E' : Option Addr) (cap' : Nat) (ands' : List Gate), s9 = .int .i64 y ∧ s10 = .int .i64 k ∧ Aside0 (k ≤ cl.length ∧ cl.length - k ≤ gg) ∧ Aside0 (DInv w g E' cap' ands' x wr) ∧ Aside0 (IsMid y ∧ ands'.length ≤ 41 * i + k) ∧ Aside0 (noneJ n (cl.drop k) ands' y = noneJ n cl ands 1))
          case atStart => exact ⟨0, 1, E, cap, ands, rfl, rfl, ⟨by omega, by omega⟩, I, ⟨⟨by decide, by decide⟩, HO.out.2⟩, ⟨rfl⟩⟩
          case round =>
            clear I
            obtain ⟨k, y, E', cap', ands', rfl, rfl, HK3, I, HO3, HT3⟩ := hrel
            have hx := pw_cell_below I.out.BW HXD.out
            have hli : (i : Int) < (l.length : Int) := by have := HLT.out; omega
            have hnn : ¬ ((i : Int) < 0) := by omega
            by_cases hlt3 : k < cl.length
            · obtain ⟨bd, e1, hz⟩ := at_int (HRW.out.below I.out.BW).r k hlt3
              cases e1
              have HZ := Aside0.mk (HCL.out _ (List.getElem_mem hlt3))
              have HTT := HT3.out
              rw [noneJ_drop hlt3] at HTT
              have HZD := Aside0.mk (fun W (hW : Below w.heap.size w W) => (by
                obtain ⟨bd', e1, h1⟩ := at_int (HRW.out.below hW).r k hlt3
                cases e1
                exact h1 : W.cell? (bd.add k) = some (.int .i64 cl[k])))
              generalize cl[k] = z at *
              have HT4 := Aside0.mk HTT
              have HLT3 := Aside0.mk hlt3
              have hki : (k : Int) < (cl.length : Int) := by have := HLT3.out; omega
              have hkn : ¬ ((k : Int) < 0) := by omega
              have HJM := Aside0.mk (joinR_mid (ands := ands') (before := n) HO3.out.1 (show IsMid (litNot z) from ⟨(litNot_lit HZ.out).1, by have := (litNot_lit HZ.out).2; omega⟩) HN.out.1 (by have := HO3.out.2; have := HN.out; have := HC40.out; have := HLT.out; have := H60.out; have := HLT3.out; omega))
              clear HTT HT3
              go_wp2
              have I2 := Aside0.mk (I.out.below (below_drew (Below.refl wr.heap.size wr)))
              have o0 := (blk2w I.out.BO).1.1
              refine start_ (n := 19) (S := (fun w' => w'.cell? ⟨g, 0, none⟩ = some (.slice E' ands'.length cap') ∧ w'.cell? (ad.add i) = some (.slice (some bd) cl.length cB) ∧ w'.cell? (bd.add k) = some (.int .i64 z))) (ds := [17]) #[false, false, false, false, false, false, false, false, false, false, false, false, false, false, false, false, false, false, false] (by kernel_rfl) rfl rfl ⟨o0, hx, hz⟩ (fun hHeld => ?_)
              clear o0
              refine pure_ (i := 0) (N := some 53) (v := ?_) (a' := ?_) #[true, false, false, false, false, false, false, false, false, false, false, false, false, false, false, false, false, false, false] rfl rfl (by kernel_rfl) (fun _ _ _ h => h) (Or.inl ⟨by rfl, ?_⟩) ?_ ?_
              rotate_left
              · intro w'
                go_simp
                with_reducible rfl
              rotate_left
              · simp only [Act.put, List.setIfInBounds_toArray, List.set_cons_zero, List.set_cons_succ]
                rfl
              refine take_ (i := 1) (N := some 54) (v := ?_) (a' := ?_) #[true, true, false, false, false, false, false, false, false, false, false, false, false, false, false, false, false, false, false] rfl rfl (by kernel_rfl) (fun _ _ _ h => h) (Or.inl ⟨by rfl, ?_⟩) hHeld ?_ ?_
              rotate_left
              · rintro w' ⟨s0, s1, s2⟩
                go_simp
                with_reducible rfl
              rotate_left
              · simp only [Act.put, List.setIfInBounds_toArray, List.set_cons_zero, List.set_cons_succ]
                rfl
              refine pure_ (i := 2) (N := some 55) (v := ?_) (a' := ?_) #[true, true, true, false, false, false, false, false, false, false, false, false, false, false, false, false, false, false, false] rfl rfl (by kernel_rfl) (fun _ _ _ h => h) (Or.inl ⟨by rfl, ?_⟩) ?_ ?_
              rotate_left
              · intro w'
                go_simp
                with_reducible rfl
              rotate_left
              · simp only [Act.put, List.setIfInBounds_toArray, List.set_cons_zero, List.set_cons_succ]
                rfl
              refine pure_ (i := 3) (N := some 56) (v := ?_) (a' := ?_) #[true, true, true, true, false, false, false, false, false, false, false, false, false, false, false, false, false, false, false] rfl rfl (by kernel_rfl) (fun _ _ _ h => h) (Or.inl ⟨by rfl, ?_⟩) ?_ ?_
              rotate_left
              · intro w'
                go_simp
                with_reducible rfl
              rotate_left
              · simp only [Act.put, List.setIfInBounds_toArray, List.set_cons_zero, List.set_cons_succ]
                rfl
              refine pure_ (i := 4) (N := some 57) (v := ?_) (a' := ?_) #[true, true, true, true, true, false, false, false, false, false, false, false, false, false, false, false, false, false, false] rfl rfl (by kernel_rfl) (fun _ _ _ h => h) (Or.inl ⟨by rfl, ?_⟩) ?_ ?_
              rotate_left
              · intro w'
                go_simp
                with_reducible rfl
              rotate_left
              · simp only [Act.put, List.setIfInBounds_toArray, List.set_cons_zero, List.set_cons_succ]
                rfl
              refine pure_ (i := 5) (N := some 58) (v := ?_) (a' := ?_) #[true, true, true, true, true, true, false, false, false, false, false, false, false, false, false, false, false, false, false] rfl rfl (by kernel_rfl) (fun _ _ _ h => h) (Or.inl ⟨by rfl, ?_⟩) ?_ ?_
              rotate_left
              · intro w'
                go_simp
                with_reducible rfl
              rotate_left
              · simp only [Act.put, List.setIfInBounds_toArray, List.set_cons_zero, List.set_cons_succ]
                rfl
              refine pure_ (i := 6) (N := some 59) (v := ?_) (a' := ?_) #[true, true, true, true, true, true, true, false, false, false, false, false, false, false, false, false, false, false, false] rfl rfl (by kernel_rfl) (fun _ _ _ h => h) (Or.inl ⟨by rfl, ?_⟩) ?_ ?_
              rotate_left
              · intro w'
                go_simp
                with_reducible rfl
              rotate_left
              · simp only [Act.put, List.setIfInBounds_toArray, List.set_cons_zero, List.set_cons_succ]
                rfl
              refine take_ (i := 7) (N := some 60) (v := ?_) (a' := ?_) #[true, true, true, true, true, true, true, true, false, false, false, false, false, false, false, false, false, false, false] rfl rfl (by kernel_rfl) (fun _ _ _ h => h) (Or.inl ⟨by rfl, ?_⟩) hHeld ?_ ?_
              rotate_left
              · rintro w' ⟨s0, s1, s2⟩
                go_simp
                with_reducible rfl
              rotate_left
              · simp only [Act.put, List.setIfInBounds_toArray, List.set_cons_zero, List.set_cons_succ]
                rfl
              refine pure_ (i := 8) (N := some 61) (v := ?_) (a' := ?_) #[true, true, true, true, true, true, true, true, true, false, false, false, false, false, false, false, false, false, false] rfl rfl (by kernel_rfl) (fun _ _ _ h => h) (Or.inl ⟨by rfl, ?_⟩) ?_ ?_
              rotate_left
              · intro w'
                go_simp
                with_reducible rfl
              rotate_left
              · simp only [Act.put, List.setIfInBounds_toArray, List.set_cons_zero, List.set_cons_succ]
                rfl
              refine pure_ (i := 9) (N := some 62) (v := ?_) (a' := ?_) #[true, true, true, true, true, true, true, true, true, true, false, false, false, false, false, false, false, false, false] rfl rfl (by kernel_rfl) (fun _ _ _ h => h) (Or.inl ⟨by rfl, ?_⟩) ?_ ?_
              rotate_left
              · intro w'
                go_simp
                with_reducible rfl
              rotate_left
              · simp only [Act.put, List.setIfInBounds_toArray, List.set_cons_zero, List.set_cons_succ]
                rfl
              refine take_ (i := 10) (N := some 63) (v := ?_) (a' := ?_) #[true, true, true, true, true, true, true, true, true, true, true, false, false, false, false, false, false, false, false] rfl rfl (by kernel_rfl) (fun _ _ _ h => h) (Or.inl ⟨by rfl, ?_⟩) hHeld ?_ ?_
              rotate_left
              · rintro w' ⟨s0, s1, s2⟩
                go_simp
                with_reducible rfl
              rotate_left
              · simp only [Act.put, List.setIfInBounds_toArray, List.set_cons_zero, List.set_cons_succ]
                rfl
              refine one_ (i := 11) (N := some 64) #[true, true, true, true, true, true, true, true, true, true, true, true, false, false, false, false, false, false, false] rfl rfl (by kernel_rfl) (by decide) (fun K hK => ?_)
              refine goes_ Try.func57 (by kernel_rfl) rfl #[.int .i64 z] (by rfl) rfl rfl (by simp only [List.map_toArray, List.map_cons, List.map_nil] <;> rfl) ?_
              refine (ref13_Not z _ HZ.out.big).mono ?_
              rintro e w4 ⟨rfl, hb4⟩
              refine ⟨_, rfl, ?_⟩
              have I4 := Aside0.mk (I2.out.below hb4)
              clear hb4
              have hx4 := pw_cell_below I4.out.BW HXD.out
              refine hK.out _ _ ⟨(blk2w I4.out.BO).1.1, hx4, HZD.out _ I4.out.BW⟩ (fun hHeld => ?_)
              clear hK K
              refine norm_ (a' := ?_) ?_ ?_
              rotate_left
              · show Act.put _ (some 64) _ = _
                simp only [Act.put, List.setIfInBounds_toArray, List.set_cons_zero, List.set_cons_succ]
                rfl
              clear hx4
              refine one_ (i := 12) (N := some 65) #[true, true, true, true, true, true, true, true, true, true, true, true, true, false, false, false, false, false, false] rfl rfl (by kernel_rfl) (by decide) (fun K hK => ?_)
              refine goes_ Try.func56 (by kernel_rfl) rfl #[.slice E' ands'.length cap', .int .i64 n, .int .i64 y, .int .i64 (litNot z)] (by rfl) rfl rfl (by simp only [List.map_toArray, List.map_cons, List.map_nil] <;> rfl) ?_
              refine (ref24_Join g E' cap' ands' n y (litNot z) w4 HO3.out.1.big I4.out.RE I4.out.SZ (by have := HO3.out.2; have := HC40.out; have := HLT.out; have := H60.out; have := HLT3.out; omega) HN.out.1 (by have := HN.out; omega)).mono ?_
              rintro e w5 ⟨E5, cap5, rfl, hr5, _, hb5, hk5⟩
              refine ⟨_, rfl, ?_⟩
              have I5 := Aside0.mk (I4.out.join HG0.out hr5 hb5 hk5)
              clear hr5 hb5 hk5
              generalize joinR ands' n y (litNot z) = r at *
              have hx5 := pw_cell_below I5.out.BW HXD.out
              refine hK.out _ _ ⟨(blk2w I5.out.BO).1.1, hx5, HZD.out _ I5.out.BW⟩ (fun hHeld => ?_)
              clear hK K
              refine norm_ (a' := ?_) ?_ ?_
              rotate_left
              · show Act.put _ (some 65) _ = _
                simp only [Act.put, List.setIfInBounds_toArray, List.set_cons_zero, List.set_cons_succ]
                rfl
              clear hx5
              refine pure_ (i := 13) (N := some 52) (v := ?_) (a' := ?_) #[true, true, true, true, true, true, true, true, true, true, true, true, true, true, false, false, false, false, false] rfl rfl (by kernel_rfl) (fun _ _ _ h => h) (Or.inl ⟨by rfl, ?_⟩) ?_ ?_
              rotate_left
              · intro w'
                go_simp
                with_reducible rfl
              rotate_left
              · simp only [Act.put, List.setIfInBounds_toArray, List.set_cons_zero, List.set_cons_succ]
                rfl
              refine pure_ (i := 14) (N := some 66) (v := ?_) (a' := ?_) #[true, true, true, true, true, true, true, true, true, true, true, true, true, true, true, false, false, false, false] rfl rfl (by kernel_rfl) (fun _ _ _ h => h) (Or.inl ⟨by rfl, ?_⟩) ?_ ?_
              rotate_left
              · intro w'
                go_simp
                with_reducible rfl
              rotate_left
              · simp only [Act.put, List.setIfInBounds_toArray, List.set_cons_zero, List.set_cons_succ]
                rfl
              refine pure_ (i := 15) (N := some 67) (v := ?_) (a' := ?_) #[true, true, true, true, true, true, true, true, true, true, true, true, true, true, true, true, false, false, false] rfl rfl (by kernel_rfl) (fun _ _ _ h => h) (Or.inl ⟨by rfl, ?_⟩) ?_ ?_
              rotate_left
              · intro w'
                go_simp
                with_reducible rfl
              rotate_left
              · simp only [Act.put, List.setIfInBounds_toArray, List.set_cons_zero, List.set_cons_succ]
                rfl
              refine pure_ (i := 16) (N := some 68) (v := ?_) (a' := ?_) #[true, true, true, true, true, true, true, true, true, true, true, true, true, true, true, true, true, false, false] rfl rfl (by kernel_rfl) (fun _ _ _ h => h) (Or.inl ⟨by rfl, ?_⟩) ?_ ?_
              rotate_left
              · intro w'
                go_simp
                with_reducible rfl
              rotate_left
              · simp only [Act.put, List.setIfInBounds_toArray, List.set_cons_zero, List.set_cons_succ]
                rfl
              obtain ⟨⟨o0, o1⟩, y0, y1⟩ := blk2w I5.out.BO
              refine last_ (i := 17) (N := none) #[true, true, true, true, true, true, true, true, true, true, true, true, true, true, true, true, true, true, false] rfl rfl (by kernel_rfl) (by decide) (fun K hK => ?_)
              refine skip_ (w1 := ?_) (by rfl) rfl ?_ ?_
              rotate_left
              · go_simp
                rfl
              refine hK.out _ _ ?_
              clear hK K
              refine pure_ (i := 18) (N := some 9) (v := ?_) (a' := ?_) #[true, true, true, true, true, true, true, true, true, true, true, true, true, true, true, true, true, true, true] rfl rfl (by kernel_rfl) (fun _ _ _ h => h) (Or.inl ⟨by rfl, ?_⟩) ?_ ?_
              rotate_left
              · intro w'
                go_simp
                with_reducible rfl
              rotate_left
              · simp only [Act.put, List.setIfInBounds_toArray, List.set_cons_zero, List.set_cons_succ]
                rfl
              refine done_ (by kernel_rfl) ?_
              have I6 := Aside0.mk (I5.out.put HG0.out)
              clear o0 o1 y0 y1 hx hz
              go_wp2
              go_roundg (cl.length - (k + 1))
              case measure => have := HK3.out; have := HLT3.out; omega
              case rel => exact ⟨k + 1, r.2, E5, cap5, r.1, rfl, val_step HLT3.out HXC.out, ⟨HLT3.out, by have := HK3.out; omega⟩, I6, ⟨HJM.out.1, by have := HJM.out.2; have := HO3.out.2; omega⟩, HT4⟩
            · have hk : k = cl.length := by have := HK3.out.1; omega
              subst hk
              have HNR := Aside0.mk (show oneJ n cl ands x = joinR ands' n x (litNot y) by
                have h_ := HT3.out
                rw [List.drop_length] at h_
                unfold oneJ
                rw [← h_]
                rfl)
              have HT5 := HT2.out
              rw [HNR.out] at HT5
              have HT6 := Aside0.mk HT5
              have HJM := Aside0.mk (joinR_mid (ands := ands') (before := n) HO.out.1 (litNot_mid HO3.out.1) HN.out.1 (by have := HO3.out.2; have := HN.out; have := HC40.out; have := HLT.out; have := H60.out; omega))
              clear HT3 HT5 HT2 HNR
              go_wp2
              have I2 := Aside0.mk (I.out.below (below_drew (Below.refl wr.heap.size wr)))
              have o0 := (blk2w I.out.BO).1
              refine start_ (n := 15) (S := (fun w' => w'.cell? ⟨g, 0, none⟩ = some (.slice E' ands'.length cap') ∧ w'.cell? ⟨g, 1, none⟩ = some (.int .i64 x))) (ds := [12,14]) #[false, false, false, false, false, false, false, false, false, false, false, false, false, false, false] (by kernel_rfl) rfl rfl o0 (fun hHeld => ?_)
              clear o0
              refine pure_ (i := 0) (N := some 70) (v := ?_) (a' := ?_) #[true, false, false, false, false, false, false, false, false, false, false, false, false, false, false] rfl rfl (by kernel_rfl) (fun _ _ _ h => h) (Or.inl ⟨by rfl, ?_⟩) ?_ ?_
              rotate_left
              · intro w'
                go_simp
                with_reducible rfl
              rotate_left
              · simp only [Act.put, List.setIfInBounds_toArray, List.set_cons_zero, List.set_cons_succ]
                rfl
              refine take_ (i := 1) (N := some 71) (v := ?_) (a' := ?_) #[true, true, false, false, false, false, false, false, false, false, false, false, false, false, false] rfl rfl (by kernel_rfl) (fun _ _ _ h => h) (Or.inl ⟨by rfl, ?_⟩) hHeld ?_ ?_
              rotate_left
              · rintro w' ⟨s0, s1⟩
                go_simp
                with_reducible rfl
              rotate_left
              · simp only [Act.put, List.setIfInBounds_toArray, List.set_cons_zero, List.set_cons_succ]
                rfl
              refine pure_ (i := 2) (N := some 72) (v := ?_) (a' := ?_) #[true, true, true, false, false, false, false, false, false, false, false, false, false, false, false] rfl rfl (by kernel_rfl) (fun _ _ _ h => h) (Or.inl ⟨by rfl, ?_⟩) ?_ ?_
              rotate_left
              · intro w'
                go_simp
                with_reducible rfl
              rotate_left
              · simp only [Act.put, List.setIfInBounds_toArray, List.set_cons_zero, List.set_cons_succ]
                rfl
              refine pure_ (i := 3) (N := some 73) (v := ?_) (a' := ?_) #[true, true, true, true, false, false, false, false, false, false, false, false, false, false, false] rfl rfl (by kernel_rfl) (fun _ _ _ h => h) (Or.inl ⟨by rfl, ?_⟩) ?_ ?_
              rotate_left
              · intro w'
                go_simp
                with_reducible rfl
              rotate_left
              · simp only [Act.put, List.setIfInBounds_toArray, List.set_cons_zero, List.set_cons_succ]
                rfl
              refine take_ (i := 4) (N := some 74) (v := ?_) (a' := ?_) #[true, true, true, true, true, false, false, false, false, false, false, false, false, false, false] rfl rfl (by kernel_rfl) (fun _ _ _ h => h) (Or.inl ⟨by rfl, ?_⟩) hHeld ?_ ?_
              rotate_left
              · rintro w' ⟨s0, s1⟩
                go_simp
                with_reducible rfl
              rotate_left
              · simp only [Act.put, List.setIfInBounds_toArray, List.set_cons_zero, List.set_cons_succ]
                rfl
              refine pure_ (i := 5) (N := some 75) (v := ?_) (a' := ?_) #[true, true, true, true, true, true, false, false, false, false, false, false, false, false, false] rfl rfl (by kernel_rfl) (fun _ _ _ h => h) (Or.inl ⟨by rfl, ?_⟩) ?_ ?_
              rotate_left
              · intro w'
                go_simp
                with_reducible rfl
              rotate_left
              · simp only [Act.put, List.setIfInBounds_toArray, List.set_cons_zero, List.set_cons_succ]
                rfl
              refine one_ (i := 6) (N := some 76) #[true, true, true, true, true, true, true, false, false, false, false, false, false, false, false] rfl rfl (by kernel_rfl) (by decide) (fun K hK => ?_)
              refine goes_ Try.func57 (by kernel_rfl) rfl #[.int .i64 y] (by rfl) rfl rfl (by simp only [List.map_toArray, List.map_cons, List.map_nil] <;> rfl) ?_
              refine (ref13_Not y _ HO3.out.1.big).mono ?_
              rintro e w4 ⟨rfl, hb4⟩
              refine ⟨_, rfl, ?_⟩
              have I4 := Aside0.mk (I2.out.below hb4)
              clear hb4
              refine hK.out _ _ (blk2w I4.out.BO).1 (fun hHeld => ?_)
              clear hK K
              refine norm_ (a' := ?_) ?_ ?_
              rotate_left
              · show Act.put _ (some 76) _ = _
                simp only [Act.put, List.setIfInBounds_toArray, List.set_cons_zero, List.set_cons_succ]
                rfl
              refine one_ (i := 7) (N := some 77) #[true, true, true, true, true, true, true, true, false, false, false, false, false, false, false] rfl rfl (by kernel_rfl) (by decide) (fun K hK => ?_)
              refine goes_ Try.func56 (by kernel_rfl) rfl #[.slice E' ands'.length cap', .int .i64 n, .int .i64 x, .int .i64 (litNot y)] (by rfl) rfl rfl (by simp only [List.map_toArray, List.map_cons, List.map_nil] <;> rfl) ?_
              refine (ref24_Join g E' cap' ands' n x (litNot y) w4 HO.out.1.big I4.out.RE I4.out.SZ (by have := HO3.out.2; have := HC40.out; have := HLT.out; have := H60.out; omega) HN.out.1 (by have := HN.out; omega)).mono ?_
              rintro e w5 ⟨E5, cap5, rfl, hr5, _, hb5, hk5⟩
              refine ⟨_, rfl, ?_⟩
              have I5 := Aside0.mk (I4.out.join HG0.out hr5 hb5 hk5)
              clear hr5 hb5 hk5
              generalize joinR ands' n x (litNot y) = r at *
              refine hK.out _ _ (blk2w I5.out.BO).1 (fun hHeld => ?_)
              clear hK K
              refine norm_ (a' := ?_) ?_ ?_
              rotate_left
              · show Act.put _ (some 77) _ = _
                simp only [Act.put, List.setIfInBounds_toArray, List.set_cons_zero, List.set_cons_succ]
                rfl
              refine pure_ (i := 8) (N := some 69) (v := ?_) (a' := ?_) #[true, true, true, true, true, true, true, true, true, false, false, false, false, false, false] rfl rfl (by kernel_rfl) (fun _ _ _ h => h) (Or.inl ⟨by rfl, ?_⟩) ?_ ?_
              rotate_left
              · intro w'
                go_simp
                with_reducible rfl
              rotate_left
              · simp only [Act.put, List.setIfInBounds_toArray, List.set_cons_zero, List.set_cons_succ]
                rfl
              refine pure_ (i := 9) (N := some 78) (v := ?_) (a' := ?_) #[true, true, true, true, true, true, true, true, true, true, false, false, false, false, false] rfl rfl (by kernel_rfl) (fun _ _ _ h => h) (Or.inl ⟨by rfl, ?_⟩) ?_ ?_
              rotate_left
              · intro w'
                go_simp
                with_reducible rfl
              rotate_left
              · simp only [Act.put, List.setIfInBounds_toArray, List.set_cons_zero, List.set_cons_succ]
                rfl
              refine pure_ (i := 10) (N := some 79) (v := ?_) (a' := ?_) #[true, true, true, true, true, true, true, true, true, true, true, false, false, false, false] rfl rfl (by kernel_rfl) (fun _ _ _ h => h) (Or.inl ⟨by rfl, ?_⟩) ?_ ?_
              rotate_left
              · intro w'
                go_simp
                with_reducible rfl
              rotate_left
              · simp only [Act.put, List.setIfInBounds_toArray, List.set_cons_zero, List.set_cons_succ]
                rfl
              refine pure_ (i := 11) (N := some 80) (v := ?_) (a' := ?_) #[true, true, true, true, true, true, true, true, true, true, true, true, false, false, false] rfl rfl (by kernel_rfl) (fun _ _ _ h => h) (Or.inl ⟨by rfl, ?_⟩) ?_ ?_
              rotate_left
              · intro w'
                go_simp
                with_reducible rfl
              rotate_left
              · simp only [Act.put, List.setIfInBounds_toArray, List.set_cons_zero, List.set_cons_succ]
                rfl
              obtain ⟨⟨o0, o1⟩, y0, y1⟩ := blk2w I5.out.BO
              refine last_ (i := 12) (N := none) #[true, true, true, true, true, true, true, true, true, true, true, true, true, false, false] rfl rfl (by kernel_rfl) (by decide) (fun K hK => ?_)
              refine skip_ (w1 := ?_) (by rfl) rfl ?_ ?_
              rotate_left
              · go_simp
                rfl
              refine hK.out _ _ ?_
              clear hK K
              refine pure_ (i := 13) (N := some 81) (v := ?_) (a' := ?_) #[true, true, true, true, true, true, true, true, true, true, true, true, true, true, false] rfl rfl (by kernel_rfl) (fun _ _ _ h => h) (Or.inl ⟨by rfl, ?_⟩) ?_ ?_
              rotate_left
              · intro w'
                go_simp
                with_reducible rfl
              rotate_left
              · simp only [Act.put, List.setIfInBounds_toArray, List.set_cons_zero, List.set_cons_succ]
                rfl
              refine last_ (i := 14) (N := none) #[true, true, true, true, true, true, true, true, true, true, true, true, true, true, true] rfl rfl (by kernel_rfl) (by decide) (fun K hK => ?_)
              refine skip_ (w1 := ?_) (by rfl) rfl ?_ ?_
              rotate_left
              · go_simp
                rfl
              refine hK.out _ _ ?_
              clear hK K
              refine done_ (by kernel_rfl) ?_
              have I6 := Aside0.mk (I5.out.put2 HG0.out r.2)
              clear o0 o1 y0 y1 hx
              go_wp2
              go_roundg (l.length - (i + 1))
              case measure => have := HK2.out; have := HLT.out; omega
              case rel => exact ⟨i + 1, r.2, E5, cap5, r.1, val_step HLT.out HX.out, ⟨HLT.out, by have := HK2.out; omega⟩, I6, ⟨HJM.out.1, by have := HJM.out.2; have := HO3.out.2; have := HC40.out; omega⟩, HT6⟩
        · have hi : i = l.length := by have := HK2.out.1; omega
          subst hi
          have HR3 := Aside0.mk (show R = fewR n ⟨ands, x⟩ by
            have h_ := HT.out
            rw [List.drop_length] at h_
            rw [HR2.out, ← h_]
            rfl)
          clear HT
          obtain ⟨o0, o1⟩ := (blk2w I.out.BO).1
          go_wp2_with fail
          refine (ref24_Few n g E cap ⟨ands, x⟩ _ I.out.RE HN.out.1 (by have := HN.out; omega) (by have := HO.out.2; have := H60.out; show ands.length ≤ 100000; omega)).mono ?_
          rintro e w6 ⟨A6, k6, rfl, hr6, hb6⟩
          have I6 := Aside0.mk (I.out.below hb6)
          have R6 := Aside0.mk hr6
          rw [← HR3.out] at R6 ⊢
          clear hb6 hr6 o0 o1
          obtain ⟨⟨r0, r1⟩, z0, z1⟩ := blk2w I6.out.BR
          go_wp2
          refine bodyPost_ret (results_ct rfl _ _ w.heap.size 24 #[.slice A6 R.1.f0.length k6, .int .i64 R.1.f1] (0, 0) _ rfl (blk2_set I6.out.BR _ _) hu24 rfl (by kernel_rfl)) rfl ?_
          exact ⟨A6, k6, rfl, R2 (Kd.R_lower R6.out (Nat.le_of_lt HG0.out)) I6.out.BR (by decide) _ _, below2 I6.out.BW (Nat.le_refl _) _ _⟩
end Go.Proofs.Ytgcdanpihaeioaa.PH
