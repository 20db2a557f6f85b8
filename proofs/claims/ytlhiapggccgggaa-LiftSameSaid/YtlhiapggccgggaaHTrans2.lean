/- lift.translate. -/
import Derived.Test.YtlhiapggccgggaaHPackD
import Derived.Test.YtlhiapggccgggaaHBehind
namespace Go.Proofs.Ytlhiapggccgggaa.PH
open Go.RowKit Go.Proofs.YtlhiapggccgggaaW.PrintWords Go.Proofs.YtlhiapggccgggaaW.PrintLast
set_option linter.unusedVariables false
set_option linter.unusedSimpArgs false
attribute [local go_sem] max_pair min_pair

theorem made_take_int (M : Nat) : (madeCells #[Value.int .i64 0] (M + 1)).toList.take 1 = [Value.int .i64 0] := by
  simp [madeCells, List.range_succ_eq_map]
theorem R_made_int (W : World) (base t M : Nat) (hb : base ≤ W.heap.size) (hm : M + 1 ≤ 9223372036854775807) : Kd.R (Kd.int .i64) t (W.alloc (.cells (madeCells #[Value.int .i64 0] (M + 1)) t)) base (fun _ => True) (.slice (some ⟨W.heap.size, 0, none⟩) 1 (M + 1)) [0] :=
  ⟨fun _ _ => trivial, [.int .i64 0], ⟨rfl, .inr ⟨W.heap.size, M + 1, _, rfl, hb, blk_new W _, by simp, by unfold maxLen; omega, by rw [size_madeCells]; exact (Nat.mul_one _).symm, made_take_int M⟩⟩, Kd.reps_scalar (enc := Value.int .i64) [0]⟩
theorem make_ints1 (M : Nat) (hM : M ≤ 100000) (W : World) : (Instr.makeSlice 24 (.int .i64 1) (.int .i64 ((M + 1 : Nat) : Int))).run Try.prog W = .ok (.slice (some ⟨W.heap.size, 0, none⟩) 1 (M + 1)) (W.alloc (.cells (madeCells #[Value.int .i64 0] (M + 1)) 3)) := by
  obtain ⟨i0, hi, hz⟩ := Option.map_eq_some_iff.1 infoInt
  simp only [Prod.mk.injEq] at hz
  obtain ⟨h0, h1, h2⟩ := hz
  have h := run_make (P := Try.prog) W 24 3 i0 _ Try.underlying24 hi h0 .i64 .i64 1 ((M + 1 : Nat) : Int) (by omega) (by omega) (by rw [h2]; omega) (by omega)
  rw [h1, Nat.mul_one] at h
  exact h
/-- What a translation holds: its arguments boxed, its result's cells, the row of what is told. -/
structure TrW (w : World) (b : CP) (c : Circ) (A : Option Addr) (k n : Nat) (lit : Int) (V : Option Addr) (m cap : Nat) (own : List Int) (wr : World) : Prop where
  BW : Below w.heap.size w wr
  BC : wr.heap[w.heap.size]? = some (.cells #[.int .i64 c.f0, .slice b.A1 c.f1.length b.c1, .slice b.A2 c.f2.length b.c2, .slice b.A3 c.f3.length b.c3, .slice b.A4 c.f4.length b.c4] 26 (0, 0))
  BP : wr.heap[w.heap.size + 1]? = some (.cells #[.slice A n k, .int .i64 lit] 29 (0, 0))
  BR : wr.heap[w.heap.size + 2]? = some (.cells #[.slice none 0 0, .int .i64 0] 29 (0, 0))
  RV : Kd.R (Kd.int .i64) 3 wr (w.heap.size + 3) (fun _ => True) (.slice V m cap) own
theorem TrW.below {w : World} {b : CP} {c : Circ} {A : Option Addr} {k n : Nat} {lit : Int} {V : Option Addr} {m cap : Nat} {own : List Int} {wr w2 : World} (h : TrW w b c A k n lit V m cap own wr) (hb : Below wr.heap.size wr w2) : TrW w b c A k n lit V m cap own w2 :=
  ⟨h.BW.trans (hb.mono h.BW.size), blk_below h.BC hb, blk_below h.BP hb, blk_below h.BR hb, Kd.R_below h.RV hb⟩
theorem TrW.grown {w : World} {b : CP} {c : Circ} {A : Option Addr} {k n : Nat} {lit : Int} {V V' : Option Addr} {m m' cap cap' : Nat} {own own' : List Int} {wr w2 : World} (h : TrW w b c A k n lit V m cap own wr) (hb : Below (w.heap.size + 3) wr w2)
    (hR : Kd.R (Kd.int .i64) 3 w2 (w.heap.size + 3) (fun _ => True) (.slice V' m' cap') own') : TrW w b c A k n lit V' m' cap' own' w2 :=
  ⟨h.BW.trans (hb.mono (by omega)), (hb.block _ (by omega)).trans h.BC, (hb.block _ (by omega)).trans h.BP, (hb.block _ (by omega)).trans h.BR, hR⟩
theorem TrW.size {w : World} {b : CP} {c : Circ} {A : Option Addr} {k n : Nat} {lit : Int} {V : Option Addr} {m cap : Nat} {own : List Int} {wr : World} (h : TrW w b c A k n lit V m cap own wr) : w.heap.size + 3 ≤ wr.heap.size := blk_lt h.BR
/-- And the gates that are put together, in a block of their own. -/
structure TrO (w : World) (b : CP) (c : Circ) (A : Option Addr) (k n : Nat) (lit : Int) (V : Option Addr) (m cap : Nat) (own : List Int) (gO : Nat) (E : Option Addr) (ce : Nat) (ands : List Gate) (wr : World) : Prop where
  T : TrW w b c A k n lit V m cap own wr
  G : w.heap.size + 3 ≤ gO
  BO : wr.heap[gO]? = some (.cells #[.slice E ands.length ce, .int .i64 0] 29 (0, 0))
  RE : Kd.R kGate 93 wr (w.heap.size + 3) (fun _ => True) (.slice E ands.length ce) ands
theorem TrO.below {w : World} {b : CP} {c : Circ} {A : Option Addr} {k n : Nat} {lit : Int} {V : Option Addr} {m cap : Nat} {own : List Int} {gO : Nat} {E : Option Addr} {ce : Nat} {ands : List Gate} {wr w2 : World} (h : TrO w b c A k n lit V m cap own gO E ce ands wr) (hb : Below wr.heap.size wr w2) : TrO w b c A k n lit V m cap own gO E ce ands w2 :=
  ⟨h.T.below hb, h.G, blk_below h.BO hb, Kd.R_below h.RE hb⟩
theorem TrO.grownV {w : World} {b : CP} {c : Circ} {A : Option Addr} {k n : Nat} {lit : Int} {V V' : Option Addr} {m m' cap cap' : Nat} {own own' : List Int} {gO : Nat} {E : Option Addr} {ce : Nat} {ands : List Gate} {wr w2 : World} (h : TrO w b c A k n lit V m cap own gO E ce ands wr) (hb : Below (w.heap.size + 3) wr w2)
    (hg : wr.grownBy w2 (Value.slice V m cap).ownBlock) (hR : Kd.R (Kd.int .i64) 3 w2 (w.heap.size + 3) (fun _ => True) (.slice V' m' cap') own') : TrO w b c A k n lit V' m' cap' own' gO E ce ands w2 :=
  ⟨h.T.grown hb hR, h.G, blk_grown h.BO hg (Kd.R_ne h.T.RV h.BO (by decide)), Kd.R_over h.RE h.T.RV (by decide) hg⟩
theorem TrO.grownE {w : World} {b : CP} {c : Circ} {A : Option Addr} {k n : Nat} {lit : Int} {V : Option Addr} {m cap : Nat} {own : List Int} {gO : Nat} {E E' : Option Addr} {ce ce' : Nat} {ands ands' : List Gate} {wr w2 : World} (h : TrO w b c A k n lit V m cap own gO E ce ands wr) (hb : Below (w.heap.size + 3) wr w2)
    (hg : wr.grownBy w2 (Value.slice E ands.length ce).ownBlock) (hR : Kd.R kGate 93 w2 (w.heap.size + 3) (fun _ => True) (.slice E' ands'.length ce') ands') :
    TrO w b c A k n lit V m cap own gO E' ce' ands' (w2.setCell ⟨gO, 0, none⟩ (.slice E' ands'.length ce')) := by
  have hBO := blk_grown h.BO hg (Kd.R_ne h.RE h.BO (by decide))
  have hG := h.G
  refine ⟨⟨below_set (h.T.BW.trans (hb.mono (by omega))) (by omega), ?_, ?_, ?_, ?_⟩, h.G, by simpa using blk_set hBO 0 (.slice E' ands'.length ce'), Kd.R_set hR hBO (by decide) 0 _⟩
  · exact blk_far ((hb.block _ (by omega)).trans h.T.BC) (show w.heap.size ≠ gO by omega) _
  · exact blk_far ((hb.block _ (by omega)).trans h.T.BP) (show w.heap.size + 1 ≠ gO by omega) _
  · exact blk_far ((hb.block _ (by omega)).trans h.T.BR) (show w.heap.size + 2 ≠ gO by omega) _
  · exact Kd.R_set (Kd.R_over h.T.RV h.RE (by decide) hg) hBO (by decide) 0 _
theorem stand_max {c : Circ} {las : List Int} (h : LasOk c las) {x : Int} (hx : x ∈ las) : mx 0 (wrap64 (x - wrap64 (2 * c.f0))) = standOf c.f0 x := by
  have h0 := h.1
  have h1 := h.2.1
  have h3 := h.2.2.1
  unfold standOf mx
  rcases h.2.2.2 x hx with rfl | ⟨h4, h5⟩
  · rw [wrap_in (x := 2 * c.f0) (by omega) (by omega), wrap_in (by omega) (by omega), if_neg (by omega), if_neg (by omega)]
  · rw [wrap_in (x := 2 * c.f0) (by omega) (by omega), wrap_in (by omega) (by omega), if_pos (by omega), if_pos (by omega)]
theorem stand_take {c : Circ} {las : List Int} {k : Nat} (hk : k < las.length) : (0 :: (las.take k).map (standOf c.f0)) ++ [standOf c.f0 las[k]] = 0 :: (las.take (k + 1)).map (standOf c.f0) := by
  rw [take_at hk, List.map_append, List.cons_append]; rfl
theorem simple_ne {x y : Int} (h : (simpleR x y).2 = false) : x ≠ y := fun e => by
  subst e
  unfold simpleR at h
  by_cases h0 : x = 0
  · rw [if_pos h0] at h; cases h
  rw [if_neg h0, if_neg h0] at h
  by_cases h2 : litNot x = x
  · rw [if_pos h2] at h; cases h
  rw [if_neg h2] at h
  by_cases h3 : x = 1
  · rw [if_pos h3] at h; cases h
  rw [if_neg h3, if_neg h3, if_pos rfl] at h
  cases h
theorem told_by {own : List Int} {l : Int} {k : Nat} (hk : k < own.length) (h : l / 2 = (k : Int)) : told own l = byL own[k] l := by
  unfold told byL
  rw [h, Int.toNat_natCast, List.getD_eq_getElem?_getD, List.getElem?_eq_getElem hk]
  rfl
set_option maxHeartbeats 8000000 in
set_option maxRecDepth 100000 in
theorem lift_translate (b : CP) (c : Circ) (L : Option Addr) (lc : Nat) (las : List Int) (A : Option Addr) (k : Nat) (p : Pr) (w : World) (hl : RS (Kd.int .i64) w L lc las) (hp : RS kGate w A k p.f0) (hpf : p.Fits)
    (hok : LasOk c las) (hck : predCheck las.length p = 0) (h1 : (c.f1.length : Int) + p.f0.length ≤ 1000) :
    Calls Try.prog 45 #[cv b c, .slice L las.length lc, pv A k p] w fun e w' => RetQ w.heap.size w w' (transP c las p) e := by
  obtain ⟨A1, k1, A2, k2, A3, k3, A4, k4⟩ := b
  have HL := Aside0.mk hl
  have HP := Aside0.mk hp
  have HF := Aside0.mk hpf
  have HOK := Aside0.mk hok
  have HPT := Aside0.mk (predCheck_parts hck)
  have H1 := Aside0.mk h1
  have HTB := Aside0.mk (transB_ok hok hck h1)
  have hu24 := Try.underlying29
  have hu26 := Try.underlying26
  have hu71 := Try.underlying93
  obtain ⟨pa, lit⟩ := p
  obtain ⟨R, hR⟩ : ∃ R, transP c las ⟨pa, lit⟩ = R := ⟨_, rfl⟩
  rw [hR]
  have HR := Aside0.mk hR
  dsimp only [pv, cv] at *
  have h_ : (las.length : Int) + pa.length ≤ 1000 := HPT.out.2.1
  obtain ⟨M, hM⟩ : ∃ M : Nat, M = las.length + pa.length := ⟨_, rfl⟩
  have hMI : wrap64 (wrap64 ((las.length : Int) + (pa.length : Int)) + 1) = ((M + 1 : Nat) : Int) := by
    rw [wrap_in (x := (las.length : Int) + (pa.length : Int)) (by omega) (by omega), wrap_in (by omega) (by omega), hM]; omega
  have hmk := make_ints1 M (by omega)
  obtain ⟨N, hN⟩ : ∃ N, M + 1 = N := ⟨_, rfl⟩
  have HRM := Aside0.mk (fun (W : World) base (hb : base ≤ W.heap.size) => R_made_int W base 3 M hb (by omega))
  rw [hN] at hMI hmk HRM
  generalize madeCells #[Value.int .i64 0] N = cs0 at hmk HRM
  clear hl hp hpf hok hck h1 h_ hM hN hR
  have I0 : Aside0 (TrW w ⟨A1, k1, A2, k2, A3, k3, A4, k4⟩ c A k pa.length lit (some ⟨w.heap.size + 3, 0, none⟩) 1 N [0] ((((w.alloc (.cells #[.int .i64 c.f0, .slice A1 c.f1.length k1, .slice A2 c.f2.length k2, .slice A3 c.f3.length k3, .slice A4 c.f4.length k4] 26)).alloc (.cells #[.slice A pa.length k, .int .i64 lit] 29)).alloc (.cells #[.slice none 0 0, .int .i64 0] 29)).alloc (.cells cs0 3))) := by
    refine ⟨?_⟩
    refine ⟨below_alloc (below_alloc (below_alloc (below_alloc (Below.refl _ _) _) _) _) _, blk_alloc (blk_alloc (blk_alloc (blk_new _ _) _) _) _, ?_, ?_, ?_⟩
    · exact blk_alloc (blk_alloc (by simpa using blk_new (w.alloc (.cells #[.int .i64 c.f0, .slice A1 c.f1.length k1, .slice A2 c.f2.length k2, .slice A3 c.f3.length k3, .slice A4 c.f4.length k4] 26)) (.cells #[.slice A pa.length k, .int .i64 lit] 29)) _) _
    · exact blk_alloc (by simpa using blk_new ((w.alloc (.cells #[.int .i64 c.f0, .slice A1 c.f1.length k1, .slice A2 c.f2.length k2, .slice A3 c.f3.length k3, .slice A4 c.f4.length k4] 26)).alloc (.cells #[.slice A pa.length k, .int .i64 lit] 29)) (.cells #[.slice none 0 0, .int .i64 0] 29)) _
    · have h_ := HRM.out (((w.alloc (.cells #[.int .i64 c.f0, .slice A1 c.f1.length k1, .slice A2 c.f2.length k2, .slice A3 c.f3.length k3, .slice A4 c.f4.length k4] 26)).alloc (.cells #[.slice A pa.length k, .int .i64 lit] 29)).alloc (.cells #[.slice none 0 0, .int .i64 0] 29)) (w.heap.size + 3) (by simp)
      simpa using h_
  clear HRM
  go_enter Try.func45, Try.ntmps45
  go_wp2
  clear hmk hMI
  have HXL := Aside0.mk HL.out.max
  go_loopg [7, 27] las.length (fun gg s7 s27 wr => ∃ (i : Nat) (V : Option Addr) (cap : Nat), s7 = .slice V (1 + i) cap ∧ s27 = .int .i64 i ∧ Aside0 (i ≤ las.length ∧ las.length - i ≤ gg) ∧ Aside0 (TrW w ⟨A1, k1, A2, k2, A3, k3, A4, k4⟩ c A k pa.length lit V (1 + i) cap (0 :: (las.take i).map (standOf c.f0)) wr))
  case atStart => exact ⟨0, _, N, rfl, rfl, ⟨by omega, by omega⟩, I0⟩
  case round =>
    clear I0
    obtain ⟨i, V, cap, rfl, rfl, HI, I⟩ := hrel
    by_cases hlt : i < las.length
    · obtain ⟨ad, e1, hx⟩ := at_int (HL.out.below I.out.BW).r i hlt
      cases e1
      have HSM := Aside0.mk (stand_max HOK.out (List.getElem_mem hlt))
      have HST := Aside0.mk (stand_take (c := c) hlt)
      have HLT := Aside0.mk hlt
      have g0 := (blk_cell I.out.BC 0).trans rfl
      have hli : (i : Int) < (las.length : Int) := by omega
      generalize las[i] = x at *
      go_wp2_with (first | (at_builtin; go_loud (refine Kd.R_append (Kd.int .i64) (w0 := wr) (W := wr) (w.heap.size + 3) rfl (.tmp 31) (.tmp 38) 24 3 (.int .i64 0) 8 rfl Try.underlying24 infoInt rfl (by decide) (by omega) (.slice V (1 + i) cap) (0 :: (las.take i).map (standOf c.f0)) (mx 0 (wrap64 (x - wrap64 (2 * c.f0)))) [.int .i64 (mx 0 (wrap64 (x - wrap64 (2 * c.f0))))] (fun _ => True) (fun _ => False) rfl rfl ?aP (fun _ h => h.elim) ?aF ?aO ?aB ?aS ?aL ?_); (case aP => exact rfl); (case aF => exact fun _ _ => trivial); (case aO => exact I.out.RV); (case aB => exact Below.refl _ _); (case aS => exact I.out.size); (case aL => have h_ : (las.length : Int) + pa.length ≤ 1000 := HPT.out.2.1; have := HLT.out; simp only [List.length_cons, List.length_map, List.length_take]; omega); intro v1 w8 ho hb hg hat; rw [HSM.out, HST.out] at ho; obtain ⟨V8, cap8, rfl, _, _⟩ := Kd.R_reads ho; have e8 : (0 :: (las.take (i + 1)).map (standOf c.f0)).length = 1 + (i + 1) := by { have := HLT.out; simp only [List.length_cons, List.length_map, List.length_take]; omega }; rw [e8] at ho; rw [e8]; have I8 := Aside0.mk (I.out.grown hb ho); clear ho hb hg hat e8))
      all_goals
        go_roundg (las.length - (i + 1))
        case measure => have := HI.out; have := HLT.out; omega
        case rel => exact ⟨i + 1, V8, cap8, rfl, val_step HLT.out HXL.out, ⟨HLT.out, by have := HI.out; omega⟩, I8⟩
    · have hi : i = las.length := by have := HI.out.1; omega
      subst hi
      have I1 := Aside0.mk (show TrW w ⟨A1, k1, A2, k2, A3, k3, A4, k4⟩ c A k pa.length lit V (1 + las.length) cap (standsOf c las) wr from by have h_ := I.out; rw [List.take_length] at h_; exact h_)
      have J0 : Aside0 (TrO w ⟨A1, k1, A2, k2, A3, k3, A4, k4⟩ c A k pa.length lit V (1 + las.length) cap (standsOf c las) wr.heap.size none 0 [] (wr.alloc (.cells #[.slice none 0 0, .int .i64 0] 29))) :=
        ⟨⟨I1.out.below (below_alloc (Below.refl _ _) _), I1.out.size, blk_new _ _, Kd.R_nil _ _ _ _ _⟩⟩
      have HX := Aside0.mk (HP.out.max)
      have p0 := (blk_cell J0.out.T.BP 0).trans rfl
      clear I HXL
      go_wp2
      clear I1 p0
      generalize wr.heap.size = gO at *
      go_loopg [7, 44] pa.length (fun gg s7 s44 wr => ∃ (i : Nat) (V : Option Addr) (cap : Nat) (own : List Int) (E : Option Addr) (ce : Nat) (ands : List Gate), s7 = .slice V (1 + las.length + i) cap ∧ s44 = .int .i64 i ∧ Aside0 (i ≤ pa.length ∧ pa.length - i ≤ gg) ∧ Aside0 (TrO w ⟨A1, k1, A2, k2, A3, k3, A4, k4⟩ c A k pa.length lit V (1 + las.length + i) cap own gO E ce ands wr) ∧ Aside0 (TrI (1 + las.length) i own ands) ∧ Aside0 (transR c.f1.length (pa.drop i) own ands = transB c las ⟨pa, lit⟩))
      case atStart => exact ⟨0, V, cap, standsOf c las, none, 0, [], rfl, rfl, ⟨by omega, by omega⟩, J0, ⟨TrI.start HOK.out⟩, ⟨rfl⟩⟩
      case round =>
        clear J0
        obtain ⟨i, V, cap, own, E, ce, ands, rfl, rfl, HI, J, HO, HT⟩ := hrel
        by_cases hlt : i < pa.length
        · obtain ⟨ad, e1, hx, hy⟩ := at_gate (HP.out.below J.out.T.BW).r i hlt
          cases e1
          have hpt := gAnds_at i hlt HPT.out.2.2.1
          have HTT := HT.out
          rw [transR_drop hlt] at HTT
          have HLE := Aside0.mk hlt
          have hli : (i : Int) < (pa.length : Int) := by omega
          have hnn : ¬ ((i : Int) < 0) := by omega
          generalize pa[i] = g at *
          have HGP := Aside0.mk hpt
          have HT2 := Aside0.mk HTT
          clear hpt HTT HT
          have J3 := Aside0.mk (J.out.below (below_alloc (Below.refl _ _) (.cells #[.int .i64 g.f0, .int .i64 g.f1] 93)))
          have BG := Aside0.mk (blk_new wr (.cells #[.int .i64 g.f0, .int .i64 g.f1] 93))
          go_wp2
          clear J hx hy
          generalize wr.alloc (.cells #[.int .i64 g.f0, .int .i64 g.f1] 93) = w3 at *
          generalize wr.heap.size = gG at *
          obtain ⟨q0, hq0⟩ : ∃ q : Nat, g.f0 / 2 = (q : Int) := ⟨(g.f0 / 2).toNat, by have := HGP.out; omega⟩
          obtain ⟨q1, hq1⟩ : ∃ q : Nat, g.f1 / 2 = (q : Int) := ⟨(g.f1 / 2).toNat, by have := HGP.out; omega⟩
          have hlen := HO.out.hn
          have hb0 : q0 < own.length := by have := HGP.out; omega
          have hb1 : q1 < own.length := by have := HGP.out; omega
          obtain ⟨vd, e1, hx0⟩ := at_int (RS.of_R' J3.out.T.RV).r q0 hb0
          obtain ⟨vd', e2, hx1⟩ := at_int (RS.of_R' J3.out.T.RV).r q1 hb1
          cases e1
          cases e2
          have hgl : IsLit g.f0 ∧ IsLit g.f1 := by
            have h_ : (las.length : Int) + pa.length ≤ 1000 := HPT.out.2.1
            have := HGP.out; have := HLE.out
            exact ⟨⟨by omega, by omega⟩, ⟨by omega, by omega⟩⟩
          have HGL := Aside0.mk hgl
          have hw0 : IntKind.i64.wrap (g.f0.tdiv 2) = (q0 : Int) := by rw [i64_w, half_of ⟨by have := hgl.1.1; omega, by have := hgl.1.2; omega⟩ hgl.1.1, hq0]
          have hw1 : IntKind.i64.wrap (g.f1.tdiv 2) = (q1 : Int) := by rw [i64_w, half_of ⟨by have := hgl.2.1; omega, by have := hgl.2.2; omega⟩ hgl.2.1, hq1]
          have HT0 := Aside0.mk (told_by hb0 hq0)
          have HT1 := Aside0.mk (told_by hb1 hq1)
          have hly0 := HO.out.hl _ (List.getElem_mem hb0)
          have hly1 := HO.out.hl _ (List.getElem_mem hb1)
          generalize own[q0] = y0 at *
          generalize own[q1] = y1 at *
          have hbb0 : (q0 : Int) < 1 + (las.length : Int) + (i : Int) := by omega
          have hbb1 : (q1 : Int) < 1 + (las.length : Int) + (i : Int) := by omega
          have HLY := Aside0.mk (And.intro hly0 hly1)
          have J3d := Aside0.mk (J3.out.below (below_drew (Below.refl w3.heap.size w3)))
          have HSS := Aside0.mk (show (fun w' => w'.cell? ⟨gG, 0, none⟩ = some (.int .i64 g.f0) ∧ w'.cell? ⟨gG, 1, none⟩ = some (.int .i64 g.f1) ∧ w'.cell? (vd.add q0) = some (.int .i64 y0) ∧ w'.cell? (vd.add q1) = some (.int .i64 y1)) w3 from ⟨(blk_cell BG.out 0).trans rfl, (blk_cell BG.out 1).trans rfl, hx0, hx1⟩)
          clear hq0 hq1 hlen hb0 hb1 hgl hly0 hly1 hx0 hx1 BG J3
          refine start_ (n := 20) (S := (fun w' => w'.cell? ⟨gG, 0, none⟩ = some (.int .i64 g.f0) ∧ w'.cell? ⟨gG, 1, none⟩ = some (.int .i64 g.f1) ∧ w'.cell? (vd.add q0) = some (.int .i64 y0) ∧ w'.cell? (vd.add q1) = some (.int .i64 y1))) (ds := []) #[false, false, false, false, false, false, false, false, false, false, false, false, false, false, false, false, false, false, false, false] (by kernel_rfl) rfl rfl HSS.out (fun hHeld => ?_)
          refine pure_ (i := 0) (N := some 48) (v := ?_) (a' := ?_) #[true, false, false, false, false, false, false, false, false, false, false, false, false, false, false, false, false, false, false, false] rfl rfl (by kernel_rfl) (fun _ _ _ h => h) (Or.inl ⟨by rfl, ?_⟩) ?_ ?_
          rotate_left
          · intro w'
            go_simp
            with_reducible rfl
          rotate_left
          · simp only [Act.put, List.setIfInBounds_toArray, List.set_cons_zero, List.set_cons_succ]
            rfl
          refine pure_ (i := 1) (N := some 49) (v := ?_) (a' := ?_) #[true, true, false, false, false, false, false, false, false, false, false, false, false, false, false, false, false, false, false, false] rfl rfl (by kernel_rfl) (fun _ _ _ h => h) (Or.inl ⟨by rfl, ?_⟩) ?_ ?_
          rotate_left
          · intro w'
            go_simp
            with_reducible rfl
          rotate_left
          · simp only [Act.put, List.setIfInBounds_toArray, List.set_cons_zero, List.set_cons_succ]
            rfl
          refine take_ (i := 2) (N := some 50) (v := ?_) (a' := ?_) #[true, true, true, false, false, false, false, false, false, false, false, false, false, false, false, false, false, false, false, false] rfl rfl (by kernel_rfl) (fun _ _ _ h => h) (Or.inl ⟨by rfl, ?_⟩) hHeld ?_ ?_
          rotate_left
          · rintro w' ⟨s0, s1, s2, s3⟩
            go_simp
            with_reducible rfl
          rotate_left
          · simp only [Act.put, List.setIfInBounds_toArray, List.set_cons_zero, List.set_cons_succ]
            rfl
          refine pure_ (i := 3) (N := some 51) (v := ?_) (a' := ?_) #[true, true, true, true, false, false, false, false, false, false, false, false, false, false, false, false, false, false, false, false] rfl rfl (by kernel_rfl) (fun _ _ _ h => h) (Or.inl ⟨by rfl, ?_⟩) ?_ ?_
          rotate_left
          · intro w'
            go_simp
            with_reducible rfl
          rotate_left
          · simp only [Act.put, List.setIfInBounds_toArray, List.set_cons_zero, List.set_cons_succ]
            rfl
          refine pure_ (i := 4) (N := some 52) (v := ?_) (a' := ?_) #[true, true, true, true, true, false, false, false, false, false, false, false, false, false, false, false, false, false, false, false] rfl rfl (by kernel_rfl) (fun _ _ _ h => h) (Or.inl ⟨by rfl, ?_⟩) ?_ ?_
          rotate_left
          · intro w'
            go_simp
            with_reducible rfl
          rotate_left
          · simp only [Act.put, List.setIfInBounds_toArray, List.set_cons_zero, List.set_cons_succ]
            rfl
          refine take_ (i := 5) (N := some 53) (v := ?_) (a' := ?_) #[true, true, true, true, true, true, false, false, false, false, false, false, false, false, false, false, false, false, false, false] rfl rfl (by kernel_rfl) (fun _ _ _ h => h) (Or.inl ⟨by rfl, ?_⟩) hHeld ?_ ?_
          rotate_left
          · rintro w' ⟨s0, s1, s2, s3⟩
            go_simp
            with_reducible rfl
          rotate_left
          · simp only [Act.put, List.setIfInBounds_toArray, List.set_cons_zero, List.set_cons_succ]
            rfl
          refine pure_ (i := 6) (N := some 54) (v := ?_) (a' := ?_) #[true, true, true, true, true, true, true, false, false, false, false, false, false, false, false, false, false, false, false, false] rfl rfl (by kernel_rfl) (fun _ _ _ h => h) (Or.inl ⟨by rfl, ?_⟩) ?_ ?_
          rotate_left
          · intro w'
            go_simp
            with_reducible rfl
          rotate_left
          · simp only [Act.put, List.setIfInBounds_toArray, List.set_cons_zero, List.set_cons_succ]
            rfl
          refine take_ (i := 7) (N := some 55) (v := ?_) (a' := ?_) #[true, true, true, true, true, true, true, true, false, false, false, false, false, false, false, false, false, false, false, false] rfl rfl (by kernel_rfl) (fun _ _ _ h => h) (Or.inl ⟨by rfl, ?_⟩) hHeld ?_ ?_
          rotate_left
          · rintro w' ⟨s0, s1, s2, s3⟩
            go_simp
            with_reducible rfl
          rotate_left
          · simp only [Act.put, List.setIfInBounds_toArray, List.set_cons_zero, List.set_cons_succ]
            rfl
          refine pure_ (i := 9) (N := some 57) (v := ?_) (a' := ?_) #[true, true, true, true, true, true, true, true, false, true, false, false, false, false, false, false, false, false, false, false] rfl rfl (by kernel_rfl) (fun _ _ _ h => h) (Or.inl ⟨by rfl, ?_⟩) ?_ ?_
          rotate_left
          · intro w'
            go_simp
            with_reducible rfl
          rotate_left
          · simp only [Act.put, List.setIfInBounds_toArray, List.set_cons_zero, List.set_cons_succ]
            rfl
          refine pure_ (i := 10) (N := some 58) (v := ?_) (a' := ?_) #[true, true, true, true, true, true, true, true, false, true, true, false, false, false, false, false, false, false, false, false] rfl rfl (by kernel_rfl) (fun _ _ _ h => h) (Or.inl ⟨by rfl, ?_⟩) ?_ ?_
          rotate_left
          · intro w'
            go_simp
            with_reducible rfl
          rotate_left
          · simp only [Act.put, List.setIfInBounds_toArray, List.set_cons_zero, List.set_cons_succ]
            rfl
          refine take_ (i := 11) (N := some 59) (v := ?_) (a' := ?_) #[true, true, true, true, true, true, true, true, false, true, true, true, false, false, false, false, false, false, false, false] rfl rfl (by kernel_rfl) (fun _ _ _ h => h) (Or.inl ⟨by rfl, ?_⟩) hHeld ?_ ?_
          rotate_left
          · rintro w' ⟨s0, s1, s2, s3⟩
            go_simp
            with_reducible rfl
          rotate_left
          · simp only [Act.put, List.setIfInBounds_toArray, List.set_cons_zero, List.set_cons_succ]
            rfl
          refine pure_ (i := 12) (N := some 60) (v := ?_) (a' := ?_) #[true, true, true, true, true, true, true, true, false, true, true, true, true, false, false, false, false, false, false, false] rfl rfl (by kernel_rfl) (fun _ _ _ h => h) (Or.inl ⟨by rfl, ?_⟩) ?_ ?_
          rotate_left
          · intro w'
            go_simp
            with_reducible rfl
          rotate_left
          · simp only [Act.put, List.setIfInBounds_toArray, List.set_cons_zero, List.set_cons_succ]
            rfl
          refine pure_ (i := 13) (N := some 61) (v := ?_) (a' := ?_) #[true, true, true, true, true, true, true, true, false, true, true, true, true, true, false, false, false, false, false, false] rfl rfl (by kernel_rfl) (fun _ _ _ h => h) (Or.inl ⟨by rfl, ?_⟩) ?_ ?_
          rotate_left
          · intro w'
            go_simp
            with_reducible rfl
          rotate_left
          · simp only [Act.put, List.setIfInBounds_toArray, List.set_cons_zero, List.set_cons_succ]
            rfl
          refine take_ (i := 14) (N := some 62) (v := ?_) (a' := ?_) #[true, true, true, true, true, true, true, true, false, true, true, true, true, true, true, false, false, false, false, false] rfl rfl (by kernel_rfl) (fun _ _ _ h => h) (Or.inl ⟨by rfl, ?_⟩) hHeld ?_ ?_
          rotate_left
          · rintro w' ⟨s0, s1, s2, s3⟩
            go_simp
            with_reducible rfl
          rotate_left
          · simp only [Act.put, List.setIfInBounds_toArray, List.set_cons_zero, List.set_cons_succ]
            rfl
          refine pure_ (i := 15) (N := some 63) (v := ?_) (a' := ?_) #[true, true, true, true, true, true, true, true, false, true, true, true, true, true, true, true, false, false, false, false] rfl rfl (by kernel_rfl) (fun _ _ _ h => h) (Or.inl ⟨by rfl, ?_⟩) ?_ ?_
          rotate_left
          · intro w'
            go_simp
            with_reducible rfl
          rotate_left
          · simp only [Act.put, List.setIfInBounds_toArray, List.set_cons_zero, List.set_cons_succ]
            rfl
          refine take_ (i := 16) (N := some 64) (v := ?_) (a' := ?_) #[true, true, true, true, true, true, true, true, false, true, true, true, true, true, true, true, true, false, false, false] rfl rfl (by kernel_rfl) (fun _ _ _ h => h) (Or.inl ⟨by rfl, ?_⟩) hHeld ?_ ?_
          rotate_left
          · rintro w' ⟨s0, s1, s2, s3⟩
            go_simp
            with_reducible rfl
          rotate_left
          · simp only [Act.put, List.setIfInBounds_toArray, List.set_cons_zero, List.set_cons_succ]
            rfl
          refine one_ (i := 8) (N := some 56) #[true, true, true, true, true, true, true, true, true, true, true, true, true, true, true, true, true, false, false, false] rfl rfl (by kernel_rfl) (by decide) (fun K hK => ?_)
          refine goes_ Try.func43 (by kernel_rfl) rfl #[.int .i64 y0, .int .i64 g.f0] (by rfl) rfl rfl (by simp only [List.map_toArray, List.map_cons, List.map_nil] <;> rfl) ?_
          refine (lift_by y0 g.f0 _ HLY.out.1 HGL.out.1).mono ?_
          rintro e w4 ⟨rfl, hb_⟩
          refine ⟨_, rfl, ?_⟩
          have J4 := Aside0.mk (J3d.out.below hb_)
          have HSS4 := Aside0.mk (show (fun w' => w'.cell? ⟨gG, 0, none⟩ = some (.int .i64 g.f0) ∧ w'.cell? ⟨gG, 1, none⟩ = some (.int .i64 g.f1) ∧ w'.cell? (vd.add q0) = some (.int .i64 y0) ∧ w'.cell? (vd.add q1) = some (.int .i64 y1)) w4 from ⟨pw_cell_below hb_ HSS.out.1, pw_cell_below hb_ HSS.out.2.1, pw_cell_below hb_ HSS.out.2.2.1, pw_cell_below hb_ HSS.out.2.2.2⟩)
          clear hb_ J3d
          refine hK.out _ _ HSS4.out (fun hHeld => ?_)
          clear hK K
          refine norm_ (a' := ?_) ?_ ?_
          rotate_left
          · show Act.put _ (some 56) _ = _
            simp only [Act.put, List.setIfInBounds_toArray, List.set_cons_zero, List.set_cons_succ]
            rfl
          clear HSS
          refine one_ (i := 17) (N := some 65) #[true, true, true, true, true, true, true, true, true, true, true, true, true, true, true, true, true, true, false, false] rfl rfl (by kernel_rfl) (by decide) (fun K hK => ?_)
          refine goes_ Try.func43 (by kernel_rfl) rfl #[.int .i64 y1, .int .i64 g.f1] (by rfl) rfl rfl (by simp only [List.map_toArray, List.map_cons, List.map_nil] <;> rfl) ?_
          refine (lift_by y1 g.f1 _ HLY.out.2 HGL.out.2).mono ?_
          rintro e w5 ⟨rfl, hb_⟩
          refine ⟨_, rfl, ?_⟩
          have J5 := Aside0.mk (J4.out.below hb_)
          have HSS5 := Aside0.mk (show (fun w' => w'.cell? ⟨gG, 0, none⟩ = some (.int .i64 g.f0) ∧ w'.cell? ⟨gG, 1, none⟩ = some (.int .i64 g.f1) ∧ w'.cell? (vd.add q0) = some (.int .i64 y0) ∧ w'.cell? (vd.add q1) = some (.int .i64 y1)) w5 from ⟨pw_cell_below hb_ HSS4.out.1, pw_cell_below hb_ HSS4.out.2.1, pw_cell_below hb_ HSS4.out.2.2.1, pw_cell_below hb_ HSS4.out.2.2.2⟩)
          clear hb_ J4
          refine hK.out _ _ HSS5.out (fun hHeld => ?_)
          clear hK K
          refine norm_ (a' := ?_) ?_ ?_
          rotate_left
          · show Act.put _ (some 65) _ = _
            simp only [Act.put, List.setIfInBounds_toArray, List.set_cons_zero, List.set_cons_succ]
            rfl
          clear HSS4
          refine pure_ (i := 18) (N := some 13) (v := ?_) (a' := ?_) #[true, true, true, true, true, true, true, true, true, true, true, true, true, true, true, true, true, true, true, false] rfl rfl (by kernel_rfl) (fun _ _ _ h => h) (Or.inl ⟨by rfl, ?_⟩) ?_ ?_
          rotate_left
          · intro w'
            go_simp
            with_reducible rfl
          rotate_left
          · simp only [Act.put, List.setIfInBounds_toArray, List.set_cons_zero, List.set_cons_succ]
            rfl
          refine pure_ (i := 19) (N := some 14) (v := ?_) (a' := ?_) #[true, true, true, true, true, true, true, true, true, true, true, true, true, true, true, true, true, true, true, true] rfl rfl (by kernel_rfl) (fun _ _ _ h => h) (Or.inl ⟨by rfl, ?_⟩) ?_ ?_
          rotate_left
          · intro w'
            go_simp
            with_reducible rfl
          rotate_left
          · simp only [Act.put, List.setIfInBounds_toArray, List.set_cons_zero, List.set_cons_succ]
            rfl
          refine done_ (by kernel_rfl) ?_
          clear HSS5 hw0 hw1 hbb0 hbb1 hHeld
          have hTS : transS c.f1.length g own ands = if (simpleR (byL y0 g.f0) (byL y1 g.f1)).2 then (own ++ [(simpleR (byL y0 g.f0) (byL y1 g.f1)).1], ands) else (own ++ [2 * ((c.f1.length : Int) + ((ands.length : Int) + 1))], ands ++ [gateOf (byL y0 g.f0) (byL y1 g.f1)]) := by
            unfold transS
            rw [HT0.out, HT1.out]
          have HTS := Aside0.mk hTS
          have hz0 := byL_lit g.f0 HLY.out.1
          have hz1 := byL_lit g.f1 HLY.out.2
          have HST := Aside0.mk (HO.out.step (n := c.f1.length) (g := g) (by omega) (by have h_ : (c.f1.length : Int) + pa.length ≤ 1000 := H1.out; have := HLE.out; omega) (by have := HGP.out; omega) (by have := HGP.out; omega) (by have := HGP.out; omega) (by have := HGP.out; omega))
          clear hTS HT0 HT1 HLY HGL
          generalize byL y0 g.f0 = z0 at *
          generalize byL y1 g.f1 = z1 at *
          have HZ := Aside0.mk (And.intro hz0 hz1)
          clear hz0 hz1
          go_wp2_with fail
          refine (lift_and z0 z1 _ HZ.out.1 HZ.out.2).mono ?_
          rintro e w6 ⟨rfl, hb_⟩
          have J6 := Aside0.mk (J5.out.below hb_)
          clear hb_ J5
          cases hs : (simpleR z0 z1).2 with
          | true =>
            have HTR := HTS.out
            rw [if_pos hs] at HTR
            rw [HTR] at HT2 HST
            clear HTR HTS hs
            generalize (simpleR z0 z1).1 = l at *
            clear HZ
            go_wp2_with (first | (at_builtin; refine Kd.R_append (Kd.int .i64) (w0 := w6) (W := w6) (w.heap.size + 3) rfl (.tmp 94) (.tmp 96) 24 3 (.int .i64 0) 8 rfl Try.underlying24 infoInt rfl (by decide) (by omega) (.slice (some vd) (1 + las.length + i) cap) own (l) [.int .i64 (l)] (fun _ => True) (fun _ => False) rfl rfl ?aP (fun _ h => h.elim) ?aF ?aO ?aB ?aS ?aL ?_; (case aP => exact rfl); (case aF => exact fun _ _ => trivial); (case aO => exact J6.out.T.RV); (case aB => exact Below.refl _ _); (case aS => exact J6.out.T.size); (case aL => have h_ : (las.length : Int) + pa.length ≤ 1000 := HPT.out.2.1; have := HLE.out; have := HO.out.hn; omega); intro v1 w8 ho hb hg hat; obtain ⟨V8, cap8, rfl, _, _⟩ := Kd.R_reads ho; have e8 : (own ++ [l]).length = 1 + las.length + (i + 1) := by { rw [List.length_append, HO.out.hn]; rfl }; rw [e8] at ho; rw [e8]; have J8 := Aside0.mk (J6.out.grownV hb hg ho); clear ho hb hg hat e8))
            go_roundg (pa.length - (i + 1))
            case measure => have := HI.out; have := HLE.out; omega
            case rel => exact ⟨i + 1, V8, cap8, _, E, ce, ands, rfl, val_step HLE.out HX.out, ⟨HLE.out, by have := HI.out; omega⟩, J8, HST, HT2⟩
          | false =>
            have HTR := HTS.out
            rw [if_neg (by rw [hs]; decide)] at HTR
            rw [HTR] at HT2 HST
            have hne := simple_ne hs
            clear HTR HTS hs HZ
            rcases (show z0 < z1 ∨ z1 < z0 by omega) with h1 | h1
            · have h2 : ¬ z1 < z0 := by omega
              clear hne
              have HGG := Aside0.mk (show gateOf z0 z1 = (⟨z1, z0⟩ : Gate) by unfold gateOf mx mn; first | rw [if_pos h1, if_neg h2] | rw [if_neg h2, if_pos h1])
              have o0 := (blk_cell J6.out.BO 0).trans rfl
              go_upto_region 15 with (first | (at_builtin; refine Kd.R_append kGate (w0 := w6) (W := w6) (w.heap.size + 3) rfl (.tmp 75) (.tmp 83) 23 93 (.agg #[.int .i64 0, .int .i64 0]) 16 rfl Try.underlying23 info_gate rfl (by decide) (by omega) (.slice E ands.length ce) ands (⟨z1, z0⟩ : Gate) [.int .i64 (⟨z1, z0⟩ : Gate).f0, .int .i64 (⟨z1, z0⟩ : Gate).f1] (fun _ => True) (fun _ => False) rfl rfl ?aP (fun _ h => h.elim) ?aF ?aO ?aB ?aS ?aL ?_; (case aP => exact kGate_mkM _ _ _ (⟨z1, z0⟩ : Gate)); (case aF => exact fun _ _ => trivial); (case aO => exact J6.out.RE); (case aB => exact Below.refl _ _); (case aS => exact J6.out.T.size); (case aL => have h_ : (c.f1.length : Int) + pa.length ≤ 1000 := H1.out; have := HLE.out; have := HO.out.ha; omega); intro v1 w7 ho hb hg hat; obtain ⟨E7, ce7, rfl, _, _⟩ := Kd.R_reads ho; have hBO := blk_grown J6.out.BO hg (Kd.R_ne J6.out.RE J6.out.BO (by decide)); obtain ⟨⟨b0, b1⟩, y0_, y1_⟩ := blk2w hBO; have J7 := Aside0.mk (J6.out.grownE hb hg ho); clear ho hb hg hat hBO))
              clear o0 b0 b1 y0_ y1_
              have hw9 : w7.setCell ⟨gO, 0, none⟩ (.slice E7 (ands ++ [(⟨z1, z0⟩ : Gate)]).length ce7) = w7.setCell ⟨gO, 0, none⟩ (.slice E7 (ands.length + 1) ce7) := by rw [List.length_append]; rfl
              rw [hw9] at J7
              clear hw9
              generalize w7.setCell ⟨gO, 0, none⟩ (.slice E7 (ands.length + 1) ce7) = w9 at *
              rw [← HGG.out] at J7
              obtain ⟨n', hn'⟩ : ∃ n', (ands ++ [gateOf z0 z1]).length = n' := ⟨_, rfl⟩
              have HN' := Aside0.mk (show n' = ands.length + 1 by rw [← hn', List.length_append]; rfl)
              have HNN := Aside0.mk hn'
              have o0 := (blk_cell J7.out.BO 0).trans rfl
              have c1 := (blk_cell J7.out.T.BC 1).trans rfl
              rw [hn'] at o0
              clear hn'
              have HWV := Aside0.mk (show wrap64 (2 * wrap64 ((c.f1.length : Int) + (n' : Int))) = 2 * ((c.f1.length : Int) + ((ands.length : Int) + 1)) from by
                have h_ : (c.f1.length : Int) + pa.length ≤ 1000 := H1.out
                have := HLE.out
                have := HO.out.ha
                have := HN'.out
                rw [wrap_in (x := (c.f1.length : Int) + (n' : Int)) (by omega) (by omega), wrap_in (by omega) (by omega)]
                omega)
              go_wp2_with (first | (at_builtin; refine Kd.R_append (Kd.int .i64) (w0 := w9) (W := w9) (w.heap.size + 3) rfl (.tmp 94) (.tmp 96) 24 3 (.int .i64 0) 8 rfl Try.underlying24 infoInt rfl (by decide) (by omega) (.slice (some vd) (1 + las.length + i) cap) own (wrap64 (2 * wrap64 ((c.f1.length : Int) + (n' : Int)))) [.int .i64 (wrap64 (2 * wrap64 ((c.f1.length : Int) + (n' : Int))))] (fun _ => True) (fun _ => False) rfl rfl ?aP (fun _ h => h.elim) ?aF ?aO ?aB ?aS ?aL ?_; (case aP => exact rfl); (case aF => exact fun _ _ => trivial); (case aO => exact J7.out.T.RV); (case aB => exact Below.refl _ _); (case aS => exact J7.out.T.size); (case aL => have h_ : (las.length : Int) + pa.length ≤ 1000 := HPT.out.2.1; have := HLE.out; have := HO.out.hn; omega); intro v1 w8 ho hb hg hat; rw [HWV.out] at ho; obtain ⟨V8, cap8, rfl, _, _⟩ := Kd.R_reads ho; have e8 : (own ++ [2 * ((c.f1.length : Int) + ((ands.length : Int) + 1))]).length = 1 + las.length + (i + 1) := by { rw [List.length_append, HO.out.hn]; rfl }; rw [e8] at ho; rw [e8]; have J8 := Aside0.mk (J7.out.grownV hb hg ho); clear ho hb hg hat e8))
              go_roundg (pa.length - (i + 1))
              case measure => have := HI.out; have := HLE.out; omega
              case rel => exact ⟨i + 1, V8, cap8, _, E7, ce7, _, rfl, val_step HLE.out HX.out, ⟨HLE.out, by have := HI.out; omega⟩, ⟨J8.out⟩, HST, HT2⟩
            · have h2 : ¬ z0 < z1 := by omega
              clear hne
              have HGG := Aside0.mk (show gateOf z0 z1 = (⟨z0, z1⟩ : Gate) by unfold gateOf mx mn; first | rw [if_pos h1, if_neg h2] | rw [if_neg h2, if_pos h1])
              have o0 := (blk_cell J6.out.BO 0).trans rfl
              go_upto_region 15 with (first | (at_builtin; refine Kd.R_append kGate (w0 := w6) (W := w6) (w.heap.size + 3) rfl (.tmp 75) (.tmp 83) 23 93 (.agg #[.int .i64 0, .int .i64 0]) 16 rfl Try.underlying23 info_gate rfl (by decide) (by omega) (.slice E ands.length ce) ands (⟨z0, z1⟩ : Gate) [.int .i64 (⟨z0, z1⟩ : Gate).f0, .int .i64 (⟨z0, z1⟩ : Gate).f1] (fun _ => True) (fun _ => False) rfl rfl ?aP (fun _ h => h.elim) ?aF ?aO ?aB ?aS ?aL ?_; (case aP => exact kGate_mkM _ _ _ (⟨z0, z1⟩ : Gate)); (case aF => exact fun _ _ => trivial); (case aO => exact J6.out.RE); (case aB => exact Below.refl _ _); (case aS => exact J6.out.T.size); (case aL => have h_ : (c.f1.length : Int) + pa.length ≤ 1000 := H1.out; have := HLE.out; have := HO.out.ha; omega); intro v1 w7 ho hb hg hat; obtain ⟨E7, ce7, rfl, _, _⟩ := Kd.R_reads ho; have hBO := blk_grown J6.out.BO hg (Kd.R_ne J6.out.RE J6.out.BO (by decide)); obtain ⟨⟨b0, b1⟩, y0_, y1_⟩ := blk2w hBO; have J7 := Aside0.mk (J6.out.grownE hb hg ho); clear ho hb hg hat hBO))
              clear o0 b0 b1 y0_ y1_
              have hw9 : w7.setCell ⟨gO, 0, none⟩ (.slice E7 (ands ++ [(⟨z0, z1⟩ : Gate)]).length ce7) = w7.setCell ⟨gO, 0, none⟩ (.slice E7 (ands.length + 1) ce7) := by rw [List.length_append]; rfl
              rw [hw9] at J7
              clear hw9
              generalize w7.setCell ⟨gO, 0, none⟩ (.slice E7 (ands.length + 1) ce7) = w9 at *
              rw [← HGG.out] at J7
              obtain ⟨n', hn'⟩ : ∃ n', (ands ++ [gateOf z0 z1]).length = n' := ⟨_, rfl⟩
              have HN' := Aside0.mk (show n' = ands.length + 1 by rw [← hn', List.length_append]; rfl)
              have HNN := Aside0.mk hn'
              have o0 := (blk_cell J7.out.BO 0).trans rfl
              have c1 := (blk_cell J7.out.T.BC 1).trans rfl
              rw [hn'] at o0
              clear hn'
              have HWV := Aside0.mk (show wrap64 (2 * wrap64 ((c.f1.length : Int) + (n' : Int))) = 2 * ((c.f1.length : Int) + ((ands.length : Int) + 1)) from by
                have h_ : (c.f1.length : Int) + pa.length ≤ 1000 := H1.out
                have := HLE.out
                have := HO.out.ha
                have := HN'.out
                rw [wrap_in (x := (c.f1.length : Int) + (n' : Int)) (by omega) (by omega), wrap_in (by omega) (by omega)]
                omega)
              go_wp2_with (first | (at_builtin; refine Kd.R_append (Kd.int .i64) (w0 := w9) (W := w9) (w.heap.size + 3) rfl (.tmp 94) (.tmp 96) 24 3 (.int .i64 0) 8 rfl Try.underlying24 infoInt rfl (by decide) (by omega) (.slice (some vd) (1 + las.length + i) cap) own (wrap64 (2 * wrap64 ((c.f1.length : Int) + (n' : Int)))) [.int .i64 (wrap64 (2 * wrap64 ((c.f1.length : Int) + (n' : Int))))] (fun _ => True) (fun _ => False) rfl rfl ?aP (fun _ h => h.elim) ?aF ?aO ?aB ?aS ?aL ?_; (case aP => exact rfl); (case aF => exact fun _ _ => trivial); (case aO => exact J7.out.T.RV); (case aB => exact Below.refl _ _); (case aS => exact J7.out.T.size); (case aL => have h_ : (las.length : Int) + pa.length ≤ 1000 := HPT.out.2.1; have := HLE.out; have := HO.out.hn; omega); intro v1 w8 ho hb hg hat; rw [HWV.out] at ho; obtain ⟨V8, cap8, rfl, _, _⟩ := Kd.R_reads ho; have e8 : (own ++ [2 * ((c.f1.length : Int) + ((ands.length : Int) + 1))]).length = 1 + las.length + (i + 1) := by { rw [List.length_append, HO.out.hn]; rfl }; rw [e8] at ho; rw [e8]; have J8 := Aside0.mk (J7.out.grownV hb hg ho); clear ho hb hg hat e8))
              go_roundg (pa.length - (i + 1))
              case measure => have := HI.out; have := HLE.out; omega
              case rel => exact ⟨i + 1, V8, cap8, _, E7, ce7, _, rfl, val_step HLE.out HX.out, ⟨HLE.out, by have := HI.out; omega⟩, ⟨J8.out⟩, HST, HT2⟩
        · have hi : i = pa.length := by have := HI.out.1; omega
          subst hi
          have HTF := HT.out
          rw [List.drop_length] at HTF
          have hlit : 0 ≤ lit ∧ lit / 2 ≤ (las.length : Int) + pa.length := HPT.out.2.2.2
          have hls : (las.length : Int) + pa.length ≤ 1000 := HPT.out.2.1
          obtain ⟨q0, hq0⟩ : ∃ q : Nat, lit / 2 = (q : Int) := ⟨(lit / 2).toNat, by omega⟩
          have hlen := HO.out.hn
          have hb0 : q0 < own.length := by omega
          obtain ⟨vd, e1, hx0⟩ := at_int (RS.of_R' J.out.T.RV).r q0 hb0
          cases e1
          have hli : IsLit lit := ⟨hlit.1, by omega⟩
          have HLI := Aside0.mk hli
          have hw0 : IntKind.i64.wrap (lit.tdiv 2) = (q0 : Int) := by rw [i64_w, half_of ⟨by omega, by have := hli.2; omega⟩ hli.1, hq0]
          have hbb0 : (q0 : Int) < 1 + (las.length : Int) + (pa.length : Int) := by omega
          have HRV := Aside0.mk (show R = (⟨ands, byL own[q0] lit⟩ : Pr) by
            rw [← HR.out, ← told_by hb0 hq0]
            show (⟨(transB c las ⟨pa, lit⟩).2, told (transB c las ⟨pa, lit⟩).1 lit⟩ : Pr) = _
            rw [← HTF]
            rfl)
          have hly := HO.out.hl _ (List.getElem_mem hb0)
          generalize own[q0] = y0 at *
          have HLY := Aside0.mk hly
          have Jd := Aside0.mk (J.out.below (below_drew (Below.refl wr.heap.size wr)))
          have HSS := Aside0.mk (show (fun w' => w'.cell? ⟨w.heap.size + 1, 1, none⟩ = some (.int .i64 lit) ∧ w'.cell? (vd.add q0) = some (.int .i64 y0)) wr from ⟨(blk_cell J.out.T.BP 1).trans rfl, hx0⟩)
          clear HTF HT hlit hls hlen hb0 hli hly hq0 hx0 HR
          go_wp2
          refine start_ (n := 11) (S := (fun w' => w'.cell? ⟨w.heap.size + 1, 1, none⟩ = some (.int .i64 lit) ∧ w'.cell? (vd.add q0) = some (.int .i64 y0))) (ds := [10]) #[false, false, false, false, false, false, false, false, false, false, false] (by kernel_rfl) rfl rfl HSS.out (fun hHeld => ?_)
          refine pure_ (i := 0) (N := some 99) (v := ?_) (a' := ?_) #[true, false, false, false, false, false, false, false, false, false, false] rfl rfl (by kernel_rfl) (fun _ _ _ h => h) (Or.inl ⟨by rfl, ?_⟩) ?_ ?_
          rotate_left
          · intro w'
            go_simp
            with_reducible rfl
          rotate_left
          · simp only [Act.put, List.setIfInBounds_toArray, List.set_cons_zero, List.set_cons_succ]
            rfl
          refine pure_ (i := 1) (N := some 100) (v := ?_) (a' := ?_) #[true, true, false, false, false, false, false, false, false, false, false] rfl rfl (by kernel_rfl) (fun _ _ _ h => h) (Or.inl ⟨by rfl, ?_⟩) ?_ ?_
          rotate_left
          · intro w'
            go_simp
            with_reducible rfl
          rotate_left
          · simp only [Act.put, List.setIfInBounds_toArray, List.set_cons_zero, List.set_cons_succ]
            rfl
          refine take_ (i := 2) (N := some 101) (v := ?_) (a' := ?_) #[true, true, true, false, false, false, false, false, false, false, false] rfl rfl (by kernel_rfl) (fun _ _ _ h => h) (Or.inl ⟨by rfl, ?_⟩) hHeld ?_ ?_
          rotate_left
          · rintro w' ⟨s0, s1⟩
            go_simp
            with_reducible rfl
          rotate_left
          · simp only [Act.put, List.setIfInBounds_toArray, List.set_cons_zero, List.set_cons_succ]
            rfl
          refine pure_ (i := 3) (N := some 102) (v := ?_) (a' := ?_) #[true, true, true, true, false, false, false, false, false, false, false] rfl rfl (by kernel_rfl) (fun _ _ _ h => h) (Or.inl ⟨by rfl, ?_⟩) ?_ ?_
          rotate_left
          · intro w'
            go_simp
            with_reducible rfl
          rotate_left
          · simp only [Act.put, List.setIfInBounds_toArray, List.set_cons_zero, List.set_cons_succ]
            rfl
          refine pure_ (i := 4) (N := some 103) (v := ?_) (a' := ?_) #[true, true, true, true, true, false, false, false, false, false, false] rfl rfl (by kernel_rfl) (fun _ _ _ h => h) (Or.inl ⟨by rfl, ?_⟩) ?_ ?_
          rotate_left
          · intro w'
            go_simp
            with_reducible rfl
          rotate_left
          · simp only [Act.put, List.setIfInBounds_toArray, List.set_cons_zero, List.set_cons_succ]
            rfl
          refine take_ (i := 5) (N := some 104) (v := ?_) (a' := ?_) #[true, true, true, true, true, true, false, false, false, false, false] rfl rfl (by kernel_rfl) (fun _ _ _ h => h) (Or.inl ⟨by rfl, ?_⟩) hHeld ?_ ?_
          rotate_left
          · rintro w' ⟨s0, s1⟩
            go_simp
            with_reducible rfl
          rotate_left
          · simp only [Act.put, List.setIfInBounds_toArray, List.set_cons_zero, List.set_cons_succ]
            rfl
          refine pure_ (i := 6) (N := some 105) (v := ?_) (a' := ?_) #[true, true, true, true, true, true, true, false, false, false, false] rfl rfl (by kernel_rfl) (fun _ _ _ h => h) (Or.inl ⟨by rfl, ?_⟩) ?_ ?_
          rotate_left
          · intro w'
            go_simp
            with_reducible rfl
          rotate_left
          · simp only [Act.put, List.setIfInBounds_toArray, List.set_cons_zero, List.set_cons_succ]
            rfl
          refine take_ (i := 7) (N := some 106) (v := ?_) (a' := ?_) #[true, true, true, true, true, true, true, true, false, false, false] rfl rfl (by kernel_rfl) (fun _ _ _ h => h) (Or.inl ⟨by rfl, ?_⟩) hHeld ?_ ?_
          rotate_left
          · rintro w' ⟨s0, s1⟩
            go_simp
            with_reducible rfl
          rotate_left
          · simp only [Act.put, List.setIfInBounds_toArray, List.set_cons_zero, List.set_cons_succ]
            rfl
          refine one_ (i := 8) (N := some 107) #[true, true, true, true, true, true, true, true, true, false, false] rfl rfl (by kernel_rfl) (by decide) (fun K hK => ?_)
          refine goes_ Try.func43 (by kernel_rfl) rfl #[.int .i64 y0, .int .i64 lit] (by rfl) rfl rfl (by simp only [List.map_toArray, List.map_cons, List.map_nil] <;> rfl) ?_
          refine (lift_by y0 lit _ HLY.out HLI.out).mono ?_
          rintro e w4 ⟨rfl, hb_⟩
          refine ⟨_, rfl, ?_⟩
          have J4 := Aside0.mk (Jd.out.below hb_)
          have HSS4 := Aside0.mk (show (fun w' => w'.cell? ⟨w.heap.size + 1, 1, none⟩ = some (.int .i64 lit) ∧ w'.cell? (vd.add q0) = some (.int .i64 y0)) w4 from ⟨pw_cell_below hb_ HSS.out.1, pw_cell_below hb_ HSS.out.2⟩)
          clear hb_ Jd J
          refine hK.out _ _ HSS4.out (fun hHeld => ?_)
          clear hK K
          refine norm_ (a' := ?_) ?_ ?_
          rotate_left
          · show Act.put _ (some 107) _ = _
            simp only [Act.put, List.setIfInBounds_toArray, List.set_cons_zero, List.set_cons_succ]
            rfl
          refine pure_ (i := 9) (N := some 108) (v := ?_) (a' := ?_) #[true, true, true, true, true, true, true, true, true, true, false] rfl rfl (by kernel_rfl) (fun _ _ _ h => h) (Or.inl ⟨by rfl, ?_⟩) ?_ ?_
          rotate_left
          · intro w'
            go_simp
            with_reducible rfl
          rotate_left
          · simp only [Act.put, List.setIfInBounds_toArray, List.set_cons_zero, List.set_cons_succ]
            rfl
          obtain ⟨⟨o0, o1⟩, z0, z1⟩ := blk2w J4.out.BO
          refine last_ (i := 10) (N := none) #[true, true, true, true, true, true, true, true, true, true, true] rfl rfl (by kernel_rfl) (by decide) (fun K hK => ?_)
          refine skip_ (w1 := ?_) (by rfl) rfl ?_ ?_
          rotate_left
          · go_simp
            rfl
          refine hK.out _ _ ?_
          clear hK K
          refine done_ (by kernel_rfl) ?_
          obtain ⟨x, hx⟩ : ∃ x, byL y0 lit = x := ⟨_, rfl⟩
          rw [hx] at HRV ⊢
          have G := Aside0.mk J4.out.G
          have BO5 := Aside0.mk (show (w4.setCell ⟨gO, 1, none⟩ (.int .i64 x)).heap[gO]? = some (.cells #[.slice E ands.length ce, .int .i64 x] 29 (0, 0)) from by have h_ := blk_set J4.out.BO 1 (.int .i64 x); simp at h_; exact h_)
          have BR5 := Aside0.mk (blk_far (p := ⟨gO, 1, none⟩) J4.out.T.BR (show w.heap.size + 2 ≠ gO by have := G.out; omega) (.int .i64 x))
          have RE5 := Aside0.mk (Kd.R_set J4.out.RE J4.out.BO (by decide) 1 (.int .i64 x))
          have BW5 := Aside0.mk (below_set (g := gO) (j := 1) (v := .int .i64 x) J4.out.T.BW (by have := G.out; omega))
          generalize w4.setCell ⟨gO, 1, none⟩ (.int .i64 x) = w5 at *
          clear HSS HSS4 o0 o1 z0 z1 J4 hx hw0 hbb0 hHeld
          obtain ⟨⟨o0, o1⟩, z0, z1⟩ := blk2w BO5.out
          obtain ⟨⟨r0, r1⟩, y0_, y1_⟩ := blk2w BR5.out
          go_wp2
          refine bodyPost_ret (results_cell_row rfl _ _ (w.heap.size + 2) 29 #[.slice E ands.length ce, .int .i64 x] (0, 0) _ rfl (blk2_set BR5.out _ _) hu24 rfl (by kernel_rfl)) rfl ?_
          rw [HRV.out]
          exact ⟨E, ce, rfl, R2 (Kd.R_lower RE5.out (by omega)) BR5.out (by decide) _ _, below2 BW5.out (by omega) _ _⟩
end Go.Proofs.Ytlhiapggccgggaa.PH
