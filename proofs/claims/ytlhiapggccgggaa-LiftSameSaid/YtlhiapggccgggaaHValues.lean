/- values.All: the values of a circuit's variables in a frame. -/
import Derived.Test.YtlhiapggccgggaaHPackD
import Derived.Test.YtlhiapggccgggaaHPackA
namespace Go.Proofs.Ytlhiapggccgggaa.PH
open Go.RowKit Go.Proofs.YtlhiapggccgggaaW.PrintWords Go.Proofs.YtlhiapggccgggaaW.PrintLast
set_option linter.unusedVariables false
set_option linter.unusedSimpArgs false

theorem make_row (M : Nat) (hM : M ≤ 1000) (W : World) : (Instr.makeSlice 46 (.int .i64 ((M + 1 : Nat) : Int)) (.int .i64 ((M + 1 : Nat) : Int))).run Try.prog W = .ok (.slice (some ⟨W.heap.size, 0, none⟩) (M + 1) (M + 1)) (W.alloc (.cells (bRow (List.replicate (M + 1) false)) 4)) := by
  obtain ⟨i0, hi, hz⟩ := Option.map_eq_some_iff.1 infoBool
  simp only [Prod.mk.injEq] at hz
  obtain ⟨h0, h1, h2⟩ := hz
  have h := run_make (P := Try.prog) W 46 4 i0 _ Try.underlying46 hi h0 .i64 .i64 ((M + 1 : Nat) : Int) ((M + 1 : Nat) : Int) (by omega) (by omega) (by rw [h2]; omega) (by omega)
  rw [h1, Nat.mul_one] at h
  rw [show madeCells (Value.bool false).cells (Int.toNat ((M + 1 : Nat) : Int)) = bRow (List.replicate (M + 1) false) from ?_] at h
  · exact h
  · apply Array.ext'
    simp only [madeCells, bRow, Value.cells]
    simp [List.eq_replicate_iff]
    exact fun a _ => by rw [Nat.mod_one]; rfl
theorem rep_take (n k : Nat) : (List.replicate n false).take k = List.replicate (min k n) false := by simp
/-- The row before the gates. -/
theorem start_row (ins st : List Bool) (n : Nat) : over (over (List.replicate (1 + ins.length + st.length + n) false) ins 1) st (1 + ins.length) = (false :: (ins ++ st)) ++ List.replicate n false := by
  have h1 : over (List.replicate (1 + ins.length + st.length + n) false) ins 1 = (false :: ins) ++ List.replicate (st.length + n) false := by
    unfold over
    rw [List.take_replicate, List.drop_replicate, show min 1 (1 + ins.length + st.length + n) = 1 by omega, show 1 + ins.length + st.length + n - (1 + ins.length) = st.length + n by omega]
    simp
  rw [h1]
  unfold over
  rw [List.take_append_of_le_length (by simp; omega), List.take_of_length_le (by simp; omega), List.drop_append, List.drop_of_length_le (by simp; omega), List.drop_replicate]
  simp
  congr 1
  omega
theorem set_row (l : List Bool) (n : Nat) (b : Bool) (j : Nat) (hj : j = l.length) : (bRow (l ++ List.replicate (n + 1) false)).setIfInBounds j (.bool b) = bRow ((l ++ [b]) ++ List.replicate n false) := by
  subst hj
  apply Array.ext'
  simp [List.replicate_succ]
theorem row_at (l : List Bool) (n j : Nat) (hj : j = l.length) (hn : 0 < n) : (bRow (l ++ List.replicate n false))[j]? = some (.bool false) := by
  subst hj
  cases n with
  | zero => omega
  | succ n => simp [List.replicate_succ]
theorem truthFrom_take {gs : List Gate} {v : List Bool} {k : Nat} (hk : k < gs.length) : truthFrom (gs.take (k + 1)) v = truthFrom (gs.take k) v ++ [litV (truthFrom (gs.take k) v) gs[k].f0 && litV (truthFrom (gs.take k) v) gs[k].f1] := by
  rw [take_at hk, truthFrom_snoc]
theorem check_gands {c : Circ} (h : check c = 0) : gAnds (1 + c.f0 + c.f1.length) c.f2 0 = true := by
  unfold check gCheck at h
  by_cases hg : gAnds (1 + c.f0 + c.f1.length) c.f2 0 = true
  · exact hg
  · rw [if_neg hg] at h
    repeat' split at h
    all_goals cases h
theorem values_of2 (A : Option Addr) (c N : Nat) (v r : List Bool) (l : Int) (w : World) (h : RS Kd.bool w A c (v ++ r)) (hN : (v ++ r).length = N) (hl : IsLit l) (h1 : l / 2 < v.length) :
    Calls Try.prog 98 #[.slice A N c, .int .i64 l] w fun e w' => e = .returned (.bool (litV v l)) ∧ Below w.heap.size w w' := by
  subst hN
  have h_ := values_of A c (v ++ r) l w h hl (by rw [List.length_append]; omega)
  rwa [litV_app v r hl.1 h1] at h_
/-- A row of truth values comes back, and OK. -/
def RetV (w w' : World) (l : List Bool) (e : Ending) : Prop := ∃ A cap, e = .returned (.tuple #[.slice A l.length cap, .int .i64 0]) ∧ RS Kd.bool w' A cap l ∧ Below w.heap.size w w'
/-- What holds in values.All: the circuit's box, the row of the values. -/
structure VaInv (w : World) (p : CP) (c : Circ) (g : Nat) (l : List Bool) (wr : World) : Prop where
  BW : Below w.heap.size w wr
  BC : wr.heap[w.heap.size]? = some (.cells #[.int .i64 c.f0, .slice p.A1 c.f1.length p.c1, .slice p.A2 c.f2.length p.c2, .slice p.A3 c.f3.length p.c3, .slice p.A4 c.f4.length p.c4] 26 (0, 0))
  BL : wr.heap[g]? = some (.cells (bRow l) 4 (0, 0))
theorem VaInv.below {w wr w2 : World} {p : CP} {c : Circ} {g : Nat} {l : List Bool} (h : VaInv w p c g l wr) (hb : Below wr.heap.size wr w2) : VaInv w p c g l w2 :=
  ⟨h.BW.trans (hb.mono h.BW.size), blk_below h.BC hb, blk_below h.BL hb⟩
set_option maxHeartbeats 4000000 in
set_option maxRecDepth 100000 in
theorem values_All (p : CP) (c : Circ) (B : Option Addr) (d : Nat) (st : List Bool) (B2 : Option Addr) (d2 : Nat) (ins : List Bool) (w : World) (h : RC w p c) (hs : c.Fits) (h1 : RS Kd.bool w B d st) (h2 : RS Kd.bool w B2 d2 ins)
    (hc : check c = 0) (hl1 : st.length = c.f1.length) (hl2 : (ins.length : Int) = c.f0) :
    Calls Try.prog 97 #[cv p c, .slice B st.length d, .slice B2 ins.length d2] w fun e w' => RetV w w' (truthFrom c.f2 (false :: (ins ++ st))) e := by
  have hgc := gCheck_ok hc
  obtain ⟨V, hV⟩ : ∃ V : Nat, c.f0 + c.f1.length + c.f2.length = (V : Int) := ⟨(c.f0 + c.f1.length + c.f2.length).toNat, by omega⟩
  have HV := Aside0.mk (fun W (hb : Below w.heap.size w W) => by
    have h_ := gates_Vars p c W (h.below hb) hs
    rw [if_pos hc, hc, hV] at h_
    exact h_)
  have HOF := Aside0.mk (check_gands hc)
  have HRC := Aside0.mk h
  have HS := Aside0.mk h1
  have HI := Aside0.mk h2
  have HC := Aside0.mk hc
  have HL := Aside0.mk (And.intro hgc (And.intro hV (And.intro hl1 hl2)))
  have hu26 := Try.underlying26
  have hmk := make_row V (by omega)
  obtain ⟨F, hF⟩ : ∃ F, 1 + ins.length = F := ⟨_, rfl⟩
  obtain ⟨E, hE⟩ : ∃ E, F + st.length = E := ⟨_, rfl⟩
  have n2 : F ≤ E := hE ▸ Nat.le_add_right _ _
  have hn3 : E ≤ V + 1 := by omega
  have hn4 : E + c.f2.length = V + 1 := by omega
  have hwf : wrap64 (1 + (ins.length : Int)) = (F : Int) := (wrap_in (x := 1 + (ins.length : Int)) (by have := hgc.2.1; omega) (by have := hgc.2.1; omega)).trans (by omega)
  have hwe : wrap64 ((F : Int) + (st.length : Int)) = (E : Int) := (wrap_in (x := (F : Int) + (st.length : Int)) (by have := hgc.2.2; omega) (by have := hgc.2.2; omega)).trans (by omega)
  have hwv : wrap64 ((V : Int) + 1) = ((V + 1 : Nat) : Int) := by rw [wrap_in (by omega) (by omega)]; rfl
  obtain ⟨N, hN⟩ : ∃ N, V + 1 = N := ⟨_, rfl⟩
  rw [hN] at hmk hwv
  have n1 : 1 ≤ N := by omega
  have n3 : E ≤ N := hN ▸ hn3
  have HN := Aside0.mk (show V + 1 = N ∧ 1 + ins.length = F ∧ F + st.length = E ∧ E + c.f2.length = N from ⟨hN, hF, hE, hn4.trans hN⟩)
  obtain ⟨ad1, had1⟩ : ∃ ad1 : Nat → Option Addr, ∀ g, (if N = 1 then some (⟨g, 0, none⟩ : Addr) else some ⟨g, 1, none⟩) = ad1 g := ⟨fun g => _, fun _ => rfl⟩
  obtain ⟨ad2, had2⟩ : ∃ ad2 : Nat → Option Addr, ∀ g, (if E = F then some (⟨g, 0, none⟩ : Addr) else some ⟨g, F, none⟩) = ad2 g := ⟨fun g => _, fun _ => rfl⟩
  have HA1 := Aside0.mk had1
  have HA2 := Aside0.mk had2
  have HB0 := Aside0.mk (blk_new w (.cells #[.int .i64 c.f0, .slice p.A1 c.f1.length p.c1, .slice p.A2 c.f2.length p.c2, .slice p.A3 c.f3.length p.c3, .slice p.A4 c.f4.length p.c4] 26))
  have t1 : ((st.length : Int) != (c.f1.length : Int)) = false := bne_eq_false_iff_eq.mpr (by omega)
  have t2 : ((ins.length : Int) != c.f0) = false := bne_eq_false_iff_eq.mpr hl2
  clear h hs h1 h2 hc hl1 hl2 hV hgc hN hF hE hn3 hn4
  go_enter Try.func97, Try.ntmps97
  go_wp2_with fail
  refine (HV.out _ (below_alloc (Below.refl _ _) _)).mono ?_
  rintro e w1 ⟨rfl, hb1⟩
  have BC := Aside0.mk (blk_below HB0.out hb1)
  have BW := Aside0.mk (below_then (below_alloc (Below.refl w.heap.size w) _) (by simp) hb1)
  clear hb1 HB0 HV
  obtain ⟨g0, g1, g2, g3, g4⟩ := (blk5w BC.out).1
  have BL := Aside0.mk (blk_new w1 (.cells (bRow (List.replicate N false)) 4))
  have BC1 := Aside0.mk (blk_alloc BC.out (.cells (bRow (List.replicate N false)) 4))
  have BW1 := Aside0.mk (below_alloc BW.out (.cells (bRow (List.replicate N false)) 4))
  have HG := Aside0.mk BW.out.size
  go_wp2_with (first | ((with_reducible refine gate_dst (N := 40) rfl ?_); go_loud (refine copy_bools (w0 := w) rfl (.tmp 38) (.tmp 39) rfl w1.heap.size 1 (N - 1) (N - 1) (ad1 w1.heap.size) (List.replicate N false) ins B2 d2 rfl rfl ?cD ?cL ?cF ?cG BW1.out BL.out (HI.out.below BW1.out) ?_); (case cD => intro h0; rw [← HA1.out, if_neg (by have := HN.out; omega)]); (case cL => have := HN.out; omega); (case cF => rw [List.length_replicate]; have := HN.out; omega); (case cG => exact HG.out); intro w2 k1 k2 k3 k4; have BL2 := Aside0.mk k1; have BW2 := Aside0.mk k2; have BC2 := Aside0.mk ((k3 _ (Nat.ne_of_lt (blk_lt BC.out))).trans BC1.out); clear k1 k2 k3 k4) | ((with_reducible refine gate_dst (N := 54) rfl ?_); go_loud (refine copy_bools (w0 := w) rfl (.tmp 52) (.tmp 53) rfl w1.heap.size F (E - F) (E - F) (ad2 w1.heap.size) (over (List.replicate N false) ins 1) st B d rfl rfl ?cD ?cL ?cF ?cG BW2.out BL2.out (HS.out.below BW2.out) ?_); (case cD => intro h0; rw [← HA2.out, if_neg (by have := HN.out; omega)]); (case cL => have := HN.out; omega); (case cF => rw [over_len (by rw [List.length_replicate]; have := HN.out; omega), List.length_replicate]; have := HN.out; omega); (case cG => exact HG.out); intro w3 k1 k2 k3 k4; have BL3 := Aside0.mk k1; have BW3 := Aside0.mk k2; have BC3 := Aside0.mk ((k3 _ (Nat.ne_of_lt (blk_lt BC.out))).trans BC2.out); clear k1 k2 k3 k4; have h2_ := (blk5w BC3.out).1.2.2.1))
  have HV0 := Aside0.mk (show (false :: (ins ++ st)).length = E from by have := HN.out; simp only [List.length_cons, List.length_append]; omega)
  have I0 : Aside0 (VaInv w p c w1.heap.size ((false :: (ins ++ st)) ++ List.replicate c.f2.length false) w3) := ⟨⟨BW3.out, BC3.out, by
    have h_ := BL3.out
    rw [show N = 1 + ins.length + st.length + c.f2.length by have := HN.out; omega, show F = 1 + ins.length by have := HN.out; omega, start_row] at h_
    exact h_⟩⟩
  have HX := Aside0.mk (show w.heap.size < w1.heap.size from blk_lt BC.out)
  clear g0 g1 g2 g3 g4 BC BC1 BC2 BC3 BL BL2 BL3 BW BW1 BW2 BW3 HG HA1 HA2 had1 had2 h2_ hwv hwf hmk t1 t2
  generalize w1.heap.size = gR at *
  have HM := Aside0.mk HRC.out.s2.max
  rw [hwe]
  clear hwe
  go_loopg [12, 62] c.f2.length (fun gg s12 s62 wr => ∃ k : Nat, s62 = .int .i64 k ∧ Aside0 (k ≤ c.f2.length ∧ c.f2.length - k ≤ gg) ∧ Aside0 (VaInv w p c gR (truthFrom (c.f2.take k) (false :: (ins ++ st)) ++ List.replicate (c.f2.length - k) false) wr))
  case atStart => exact ⟨0, rfl, ⟨by omega, by omega⟩, I0⟩
  case round =>
    clear I0
    obtain ⟨k, rfl, HX2, I⟩ := hrel
    obtain ⟨g0, g1, g2, g3, g4⟩ := (blk5w I.out.BC).1
    by_cases hlt : k < c.f2.length
    · obtain ⟨ad, e1, hx, hy⟩ := at_gate (HRC.out.s2.below I.out.BW).r k hlt
      have hpt := gAnds_at k hlt HOF.out
      have HT := Aside0.mk (truthFrom_take (v := false :: (ins ++ st)) hlt)
      have hlen : (truthFrom (c.f2.take k) (false :: (ins ++ st))).length = E + k := by rw [truthFrom_len, HV0.out, List.length_take, Nat.min_eq_left (Nat.le_of_lt hlt)]
      have hall : (truthFrom (c.f2.take k) (false :: (ins ++ st)) ++ List.replicate (c.f2.length - k) false).length = N := by rw [List.length_append, hlen, List.length_replicate]; have := HN.out; omega
      have HLT := Aside0.mk hlt
      have hRS := RS.bools (c := N) (by rw [hall]; exact Nat.le_refl _) (by rw [hall]; have := HN.out; have := HL.out.1.2.2; have := HL.out.2.1; omega) I.out.BL
      have hE := HN.out
      have hF0 := HL.out.1
      have hV0 := HL.out.2.1
      have l0 : IsLit c.f2[k].f0 := ⟨by omega, by omega⟩
      have l1 : IsLit c.f2[k].f1 := ⟨by omega, by omega⟩
      generalize c.f2[k] = g at *
      have C0 := Aside0.mk (fun W (hb : Below wr.heap.size wr W) => values_of2 _ N N _ _ g.f0 W (hRS.below hb) hall l0 (by rw [hlen]; omega))
      have C1 := Aside0.mk (fun W (hb : Below wr.heap.size wr W) => values_of2 _ N N _ _ g.f1 W (hRS.below hb) hall l1 (by rw [hlen]; omega))
      have hi1 : E + k < N := by omega
      have hcell : wr.cell? ⟨gR, E + k, none⟩ = some (.bool false) := by
        rw [blk_cell I.out.BL, row_at _ _ _ hlen.symm (by omega)]
      have hix : wrap64 ((E : Int) + (k : Int)) = ((E + k : Nat) : Int) := (wrap_in (x := (E : Int) + (k : Int)) (by omega) (by omega)).trans (by omega)
      have hfz := blk_frozen I.out.BL (E + k)
      have HLN := Aside0.mk hlen
      clear hpt hlen hall hRS hE hF0 hV0 l0 l1
      generalize truthFrom (c.f2.take k) (false :: (ins ++ st)) = vals at *
      rw [e1] at g2
      clear e1
      cases hb0 : litV vals g.f0
      · have HB0 := Aside0.mk hb0
        clear hb0
        go_wp2_with fail
        refine (C0.out _ (Below.refl _ _)).mono ?_
        rintro e w4 ⟨rfl, hb4⟩
        rw [HB0.out]
        have I4 := Aside0.mk (I.out.below hb4)
        have hcell4 := pw_cell_below hb4 hcell
        have hfz4 := blk_frozen I4.out.BL (E + k)
        clear hb4 hcell hfz I g0 g1 g2 g3 g4 hx hy
        have BW5 := Aside0.mk (I4.out.BW)
        have hrow := Aside0.mk (set_row vals (c.f2.length - (k + 1)) false (E + k) HLN.out.symm)
        go_wp2
        go_roundg (c.f2.length - (k + 1))
        case measure => have := HX2.out; have := HLT.out; omega
        case rel => exact ⟨k + 1, val_step HLT.out HM.out, ⟨HLT.out, by have := HX2.out; omega⟩, ⟨⟨below_set I4.out.BW (Nat.le_of_lt HX.out), blk_far I4.out.BC (Nat.ne_of_lt HX.out) _, by
          have h_ := blk_set I4.out.BL (E + k) (.bool false)
          rw [show c.f2.length - k = (c.f2.length - (k + 1)) + 1 by have := HLT.out; omega, hrow.out] at h_
          rw [HT.out]
          simpa [HB0.out] using h_⟩⟩⟩
      · have HB0 := Aside0.mk hb0
        clear hb0
        go_wp2_with fail
        refine (C0.out _ (Below.refl _ _)).mono ?_
        rintro e w4 ⟨rfl, hb4⟩
        rw [HB0.out]
        have I4 := Aside0.mk (I.out.below hb4)
        have g2_ := pw_cell_below hb4 g2
        have hx_ := pw_cell_below hb4 hx
        have hy_ := pw_cell_below hb4 hy
        have hcell4 := pw_cell_below hb4 hcell
        have HB4 := Aside0.mk hb4
        clear hb4 hcell hfz I g0 g1 g2 g3 g4 hx hy
        go_wp2_with fail
        refine (C1.out _ HB4.out).mono ?_
        rintro e w5 ⟨rfl, hb5⟩
        have I5 := Aside0.mk (I4.out.below hb5)
        have hcell5 := pw_cell_below hb5 hcell4
        have hfz5 := blk_frozen I5.out.BL (E + k)
        clear hb5 hcell4 I4 g2_ hx_ hy_
        have BW5 := Aside0.mk (I5.out.BW)
        have hrow := Aside0.mk (set_row vals (c.f2.length - (k + 1)) (litV vals g.f1) (E + k) HLN.out.symm)
        go_wp2
        go_roundg (c.f2.length - (k + 1))
        case measure => have := HX2.out; have := HLT.out; omega
        case rel => exact ⟨k + 1, val_step HLT.out HM.out, ⟨HLT.out, by have := HX2.out; omega⟩, ⟨⟨below_set I5.out.BW (Nat.le_of_lt HX.out), blk_far I5.out.BC (Nat.ne_of_lt HX.out) _, by
          have h_ := blk_set I5.out.BL (E + k) (.bool (litV vals g.f1))
          rw [show c.f2.length - k = (c.f2.length - (k + 1)) + 1 by have := HLT.out; omega, hrow.out] at h_
          rw [HT.out]
          simpa [HB0.out] using h_⟩⟩⟩
    · have hk : k = c.f2.length := by have := HX2.out.1; omega
      subst hk
      have IF := Aside0.mk (show VaInv w p c gR (truthFrom c.f2 (false :: (ins ++ st))) wr from by
        have h_ := I.out
        rw [List.take_length, Nat.sub_self] at h_
        simpa using h_)
      have HLF := Aside0.mk (show (truthFrom c.f2 (false :: (ins ++ st))).length = N by rw [truthFrom_len, HV0.out]; exact HN.out.2.2.2)
      clear I
      go_wp2
      refine bodyPost_ret (results_tmp2 rfl _ _ _) rfl ?_
      refine ⟨some ⟨gR, 0, none⟩, N, ?_, RS.bools (by rw [HLF.out]; exact Nat.le_refl _) (by rw [HLF.out]; have := HN.out; have := HL.out.1.2.2; have := HL.out.2.1; omega) IF.out.BL, IF.out.BW⟩
      rw [HLF.out]
      rfl
end Go.Proofs.Ytlhiapggccgggaa.PH
