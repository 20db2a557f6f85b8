/- The reference's Truth and Value of a predicate. -/
import Derived.Test.YtgcdanpihaeioaaHValue
namespace Go.Proofs.Ytgcdanpihaeioaa.PH
open Go.RowKit Go.Proofs.YtgcdanpihaeioaaW.PrintWords Go.Proofs.YtgcdanpihaeioaaW.PrintLast
set_option linter.unusedVariables false
set_option linter.unusedSimpArgs false

theorem made_take (M : Nat) : (madeCells #[Value.bool false] (M + 1)).toList.take 1 = [Value.bool false] := by
  simp [madeCells, List.range_succ_eq_map]
theorem R_made (W : World) (base t M : Nat) (hb : base ≤ W.heap.size) (hm : M + 1 ≤ 9223372036854775807) : Kd.R Kd.bool t (W.alloc (.cells (madeCells #[Value.bool false] (M + 1)) t)) base (fun _ => True) (.slice (some ⟨W.heap.size, 0, none⟩) 1 (M + 1)) [false] :=
  ⟨fun _ _ => trivial, [.bool false], ⟨rfl, .inr ⟨W.heap.size, M + 1, _, rfl, hb, blk_new W _, by simp, by unfold maxLen; omega, by rw [size_madeCells]; exact (Nat.mul_one _).symm, made_take M⟩⟩, Kd.reps_scalar (enc := Value.bool) [false]⟩
theorem make_bools (M : Nat) (hM : M ≤ 1000) (W : World) : (Instr.makeSlice 25 (.int .i64 1) (.int .i64 ((M + 1 : Nat) : Int))).run Try.prog W = .ok (.slice (some ⟨W.heap.size, 0, none⟩) 1 (M + 1)) (W.alloc (.cells (madeCells #[Value.bool false] (M + 1)) 4)) := by
  obtain ⟨i0, hi, hz⟩ := Option.map_eq_some_iff.1 infoBool
  simp only [Prod.mk.injEq] at hz
  obtain ⟨h0, h1, h2⟩ := hz
  have h := run_make (P := Try.prog) W 25 4 i0 _ Try.underlying25 hi h0 .i64 .i64 1 ((M + 1 : Nat) : Int) (by omega) (by omega) (by rw [h2]; omega) (by omega)
  rw [h1, Nat.mul_one] at h
  exact h
/-- How a literal's value is reckoned. -/
theorem litV_at {v : List Bool} {l : Int} (hl : I64 l) (h0 : 0 ≤ l) (h1 : l / 2 < v.length) : ∃ (k : Nat) (hk : k < v.length), wrap64 (l.tdiv 2) = (k : Int) ∧ (!v[k] == (l.tmod 2 == 1)) = litV v l := by
  obtain ⟨k, hk⟩ : ∃ k : Nat, l / 2 = (k : Int) := ⟨(l / 2).toNat, by omega⟩
  have hkv : k < v.length := by omega
  refine ⟨k, hkv, (half_of hl h0).trans hk, ?_⟩
  have hr : l.tmod 2 = l % 2 := by
    have h1 : -2 < l.tmod 2 ∧ l.tmod 2 < 2 := ⟨Int.lt_tmod_of_pos l (by decide), Int.tmod_lt_of_pos l (by decide)⟩
    rw [← rem_of hl h0, wrap_in (by omega) (by omega)]
  unfold litV
  rw [hk, hr, Int.toNat_natCast, List.getD_eq_getElem?_getD, List.getElem?_eq_getElem hkv]
  rfl
structure TInv (w : World) (A : Option Addr) (k : Nat) (ands : List Gate) (lit : Int) (V : Option Addr) (n cap : Nat) (vals : List Bool) (wr : World) : Prop where
  BW : Below w.heap.size w wr
  BC : wr.heap[w.heap.size]? = some (.cells #[.slice A ands.length k, .int .i64 lit] 24 (0, 0))
  RV : Kd.R Kd.bool 4 wr w.heap.size (fun _ => True) (.slice V n cap) vals
theorem TInv.below {w wr w2 : World} {A : Option Addr} {k : Nat} {ands : List Gate} {lit : Int} {V : Option Addr} {n cap : Nat} {vals : List Bool} (h : TInv w A k ands lit V n cap vals wr) (hb : Below wr.heap.size wr w2) : TInv w A k ands lit V n cap vals w2 :=
  ⟨h.BW.trans (hb.mono h.BW.size), blk_below h.BC hb, Kd.R_below h.RV hb⟩
set_option maxHeartbeats 4000000 in
set_option maxRecDepth 100000 in
theorem ref24_Truth (A : Option Addr) (k : Nat) (p : Pr) (B : Option Addr) (d : Nat) (st : List Bool) (l : Int) (w : World) (h : RS kGate w A k p.f0) (hf : p.Fits) (hs : RS Kd.bool w B d st) (hp : predCheck st.length p = 0) (hl : I64 l) (hl0 : 0 ≤ l) (hl1 : l / 2 ≤ st.length + p.f0.length) :
    Calls Try.prog 41 #[pv A k p, .slice B st.length d, .int .i64 l] w fun e w' => e = .returned (.bool (litV (truthFrom p.f0 (false :: st)) l)) ∧ Below w.heap.size w w' := by
  have HS := Aside0.mk hs
  have HP := Aside0.mk h
  have HF := Aside0.mk hf
  have hu24 := Try.underlying24
  have hu71 := Try.underlying71
  obtain ⟨ands, lit⟩ := p
  dsimp only [pv] at *
  have HPT := Aside0.mk (predCheck_parts hp)
  have HLL := Aside0.mk (And.intro hl (And.intro hl0 hl1))
  have h_ : (st.length : Int) + ands.length ≤ 1000 := HPT.out.2.1
  obtain ⟨M, hM⟩ : ∃ M : Nat, M = st.length + ands.length := ⟨_, rfl⟩
  have hMI : wrap64 (wrap64 (1 + (st.length : Int)) + (ands.length : Int)) = ((M + 1 : Nat) : Int) := by
    rw [wrap_in (x := 1 + (st.length : Int)) (by omega) (by omega), wrap_in (by omega) (by omega), hM]; omega
  have hmk := make_bools M (by omega)
  obtain ⟨N, hN⟩ : ∃ N, M + 1 = N := ⟨_, rfl⟩
  have HRM := Aside0.mk (fun (W : World) base (hb : base ≤ W.heap.size) => R_made W base 4 M hb (by omega))
  rw [hN] at hMI hmk HRM
  generalize madeCells #[Value.bool false] N = cs0 at hmk HRM
  have HM := Aside0.mk (show N ≤ 1001 by omega)
  clear h hf hs hp hl hl0 hl1 h_ hM hN
  obtain ⟨R, hR⟩ : ∃ R, litV (truthFrom ands (false :: st)) l = R := ⟨_, rfl⟩
  rw [hR]
  have HR := Aside0.mk hR
  clear hR
  have BP0 := Aside0.mk (blk_alloc (blk_new w (.cells #[.slice A ands.length k, .int .i64 lit] 24)) (.cells cs0 4))
  have HR0 := Aside0.mk (show Kd.R Kd.bool 4 ((w.alloc (.cells #[.slice A ands.length k, .int .i64 lit] 24)).alloc (.cells cs0 4)) w.heap.size (fun _ => True) (.slice (some ⟨w.heap.size + 1, 0, none⟩) 1 N) [false] from by
    have h_ := HRM.out (w.alloc (.cells #[.slice A ands.length k, .int .i64 lit] 24)) w.heap.size (by simp)
    rw [show (w.alloc (.cells #[.slice A ands.length k, .int .i64 lit] 24)).heap.size = w.heap.size + 1 by simp] at h_
    exact h_)
  have HX := Aside0.mk HP.out.max
  go_enter Try.func41, Try.ntmps41
  go_wp2_with (first | (at_builtin; refine Kd.R_append_row Value.bool false (h1 := fun _ => rfl) (w0 := w) (W := (w.alloc (.cells #[.slice A ands.length k, .int .i64 lit] 24)).alloc (.cells cs0 4)) w.heap.size rfl (.tmp 19) (.tmp 20) 25 4 (.bool false) 1 rfl Try.underlying25 infoBool rfl (by omega) (.slice (some ⟨w.heap.size + 1, 0, none⟩) 1 N) [false] st _ _ _ (fun _ => True) rfl rfl ?aF ?aO ?aR ?aB ?aS ?aL ?_; (case aF => exact fun _ _ => trivial); (case aO => exact HR0.out); (case aR => exact Kd.C_below HS.out.r (below_alloc (below_alloc (Below.refl _ _) _) _)); (case aB => exact below_alloc (below_alloc (Below.refl _ _) _) _); (case aS => simp; omega); (case aL => have h_ : (st.length : Int) + ands.length ≤ 1000 := HPT.out.2.1; simp; omega); intro v1 w2 ho hb hg hat; obtain ⟨V0, cap0, rfl, _, _⟩ := Kd.R_reads ho; have I0 : Aside0 (TInv w A k ands lit V0 (st.length + 1) cap0 (false :: st) w2) := ⟨⟨hb, blk_grown BP0.out hg (Kd.R_ne HR0.out BP0.out (by decide)), ho⟩⟩; clear ho hb hg hat))
  clear hmk hMI
  go_loopg [7, 8] ands.length (fun gg s7 s8 wr => ∃ (i : Nat) (V : Option Addr) (cap : Nat) (vals : List Bool), s7 = .slice V (st.length + 1 + i) cap ∧ s8 = .int .i64 i ∧ Aside0 (i ≤ ands.length ∧ ands.length - i ≤ gg) ∧ Aside0 (TInv w A k ands lit V (st.length + 1 + i) cap vals wr) ∧ Aside0 (vals.length = st.length + 1 + i) ∧ Aside0 (truthFrom (ands.drop i) vals = truthFrom ands (false :: st)))
  case atStart => exact ⟨0, V0, cap0, false :: st, rfl, rfl, ⟨by omega, by omega⟩, I0, ⟨by simp⟩, ⟨rfl⟩⟩
  case round =>
    clear I0
    obtain ⟨i, V, cap, vals, rfl, rfl, HI, I, HL, HT⟩ := hrel
    have g0 := (blk_cell I.out.BC 0).trans rfl
    by_cases hlt : i < ands.length
    · obtain ⟨ad, e1, hx, hy⟩ := at_gate (HP.out.below I.out.BW).r i hlt
      cases e1
      have hpt := gAnds_at i hlt HPT.out.2.2.1
      have hig := HF.out.ig ands[i] (List.getElem_mem hlt)
      have HTT := HT.out
      rw [truthFrom_drop hlt] at HTT
      have HLT := Aside0.mk hlt
      generalize ands[i] = g at *
      have hRS := RS.of_R' I.out.RV
      obtain ⟨ka, hka, hqa, hva⟩ := litV_at hig.1 (by omega) (show g.f0 / 2 < vals.length by have := HL.out; omega)
      obtain ⟨kb, hkb, hqb, hvb⟩ := litV_at hig.2 (by omega) (show g.f1 / 2 < vals.length by have := HL.out; omega)
      obtain ⟨va, ea, hca⟩ := at_bool hRS.r ka hka
      obtain ⟨vb, eb, hcb⟩ := at_bool hRS.r kb hkb
      cases ea
      cases eb
      generalize vals[ka] = xa at *
      generalize vals[kb] = xb at *
      have hla : (ka : Int) < ((st.length + 1 + i : Nat) : Int) := by have := HL.out; omega
      have hlb : (kb : Int) < ((st.length + 1 + i : Nat) : Int) := by have := HL.out; omega
      have hla' : ka < st.length + 1 + i := by omega
      have hlb' : kb < st.length + 1 + i := by omega
      have HT2 := Aside0.mk HTT
      clear hpt hig HTT HT hRS hka hkb
      go_wp2
      go_quiet (fail)
      have I3 := Aside0.mk (I.out.below (pw_below_drewN (Below.refl wr.heap.size wr) nq))
      have hca3 := pw_cell_below (pw_below_drewN (Below.refl wr.heap.size wr) nq) hca
      have hcb3 := pw_cell_below (pw_below_drewN (Below.refl wr.heap.size wr) nq) hcb
      have g3 := pw_cell_below (pw_below_drewN (Below.refl wr.heap.size wr) nq) g0
      clear hx hy hca hcb g0 I
      generalize wr.drewN nq = w3 at *
      cases hA : litV vals g.f0
      · have HB0 := Aside0.mk hA
        rw [hA] at hva
        clear hA
        go_wp2_with (first | (at_builtin; refine Kd.R_append Kd.bool (w0 := w) (W := w3) w.heap.size rfl (.tmp 41) (.tmp 62) 25 4 (.bool false) 1 rfl Try.underlying25 infoBool rfl (by decide) (by omega) (.slice (some va) (st.length + 1 + i) cap) vals (false) [.bool (false)] (fun _ => True) (fun _ => False) rfl rfl ?aP (fun _ h => h.elim) ?aF ?aO ?aB ?aS ?aL ?_; (case aP => exact rfl); (case aF => exact fun _ _ => trivial); (case aO => exact I3.out.RV); (case aB => exact I3.out.BW); (case aS => exact I3.out.BW.size); (case aL => have h_ : (st.length : Int) + ands.length ≤ 1000 := HPT.out.2.1; have := HLT.out; have := HL.out; omega); intro v1 w6 ho hb hg hat; obtain ⟨V5, cap5, rfl, _, _⟩ := Kd.R_reads ho; rw [show (vals ++ [false]).length = st.length + 1 + (i + 1) by rw [List.length_append, HL.out]; rfl] at ho ⊢; have I6 : Aside0 (TInv w (some ad) k ands lit V5 (st.length + 1 + (i + 1)) cap5 (vals ++ [false]) w6) := ⟨⟨hb, blk_grown I3.out.BC hg (Kd.R_ne I3.out.RV I3.out.BC (by decide)), ho⟩⟩; clear ho hb hg hat))
        go_roundg (ands.length - (i + 1))
        case measure => have := HI.out; have := HLT.out; omega
        case rel => exact ⟨i + 1, V5, cap5, vals ++ [false], rfl, val_step HLT.out HX.out, ⟨HLT.out, by have := HI.out; omega⟩, I6, ⟨by rw [List.length_append, HL.out]; rfl⟩, ⟨by have h_ := HT2.out; rw [HB0.out] at h_; simpa using h_⟩⟩
      · have HB0 := Aside0.mk hA
        rw [hA] at hva
        clear hA
        go_wp2_with (first | (at_builtin; refine Kd.R_append Kd.bool (w0 := w) (W := w3) w.heap.size rfl (.tmp 41) (.tmp 62) 25 4 (.bool false) 1 rfl Try.underlying25 infoBool rfl (by decide) (by omega) (.slice (some va) (st.length + 1 + i) cap) vals (litV vals g.f1) [.bool (litV vals g.f1)] (fun _ => True) (fun _ => False) rfl rfl ?aP (fun _ h => h.elim) ?aF ?aO ?aB ?aS ?aL ?_; (case aP => exact rfl); (case aF => exact fun _ _ => trivial); (case aO => exact I3.out.RV); (case aB => exact I3.out.BW); (case aS => exact I3.out.BW.size); (case aL => have h_ : (st.length : Int) + ands.length ≤ 1000 := HPT.out.2.1; have := HLT.out; have := HL.out; omega); intro v1 w6 ho hb hg hat; obtain ⟨V5, cap5, rfl, _, _⟩ := Kd.R_reads ho; rw [show (vals ++ [litV vals g.f1]).length = st.length + 1 + (i + 1) by rw [List.length_append, HL.out]; rfl] at ho ⊢; have I6 : Aside0 (TInv w (some ad) k ands lit V5 (st.length + 1 + (i + 1)) cap5 (vals ++ [litV vals g.f1]) w6) := ⟨⟨hb, blk_grown I3.out.BC hg (Kd.R_ne I3.out.RV I3.out.BC (by decide)), ho⟩⟩; clear ho hb hg hat))
        go_roundg (ands.length - (i + 1))
        case measure => have := HI.out; have := HLT.out; omega
        case rel => exact ⟨i + 1, V5, cap5, vals ++ [litV vals g.f1], rfl, val_step HLT.out HX.out, ⟨HLT.out, by have := HI.out; omega⟩, I6, ⟨by rw [List.length_append, HL.out]; rfl⟩, ⟨by have h_ := HT2.out; rw [HB0.out] at h_; simpa using h_⟩⟩
    · have hi : i = ands.length := by have := HI.out.1; omega
      subst hi
      have HVL := Aside0.mk (show truthFrom ands (false :: st) = vals by
        have h_ := HT.out
        rw [List.drop_length] at h_
        rw [← h_]
        rfl)
      obtain ⟨hl, hl0, hl1⟩ := HLL.out
      have hRS := RS.of_R' I.out.RV
      obtain ⟨ka, hka, hqa, hva⟩ := litV_at hl hl0 (show l / 2 < vals.length by have := HL.out; omega)
      obtain ⟨va, ea, hca⟩ := at_bool hRS.r ka hka
      cases ea
      generalize vals[ka] = xa at *
      have hla : (ka : Int) < ((st.length + 1 + ands.length : Nat) : Int) := by have := HL.out; omega
      have hla' : ka < st.length + 1 + ands.length := by have := HL.out; omega
      clear hl hl0 hl1 hRS hka HT
      go_wp2
      go_ret
      exact ⟨ret_bool (by rw [← HR.out, HVL.out]), I.out.BW⟩
set_option maxHeartbeats 4000000 in
set_option maxRecDepth 100000 in
theorem ref24_Value (A : Option Addr) (k : Nat) (p : Pr) (B : Option Addr) (d : Nat) (st : List Bool) (w : World) (h : RS kGate w A k p.f0) (hf : p.Fits) (hs : RS Kd.bool w B d st) :
    Calls Try.prog 13 #[pv A k p, .slice B st.length d] w fun e w' => RetBE w w' (valueOf p st) (predCheck st.length p) e := by
  have HCK := Aside0.mk (fun W (hb : Below w.heap.size w W) => ref24_Check st.length A k p W (h.below hb) hf)
  have HTR := Aside0.mk (fun (hc : predCheck st.length p = 0) W (hb : Below w.heap.size w W) => ref24_Truth A k p B d st p.f1 W (h.below hb) hf (hs.below hb) hc hf.il (predCheck_parts hc).2.2.2.1 (by have := (predCheck_parts hc).2.2.2.2; omega))
  have hu24 := Try.underlying24
  clear h hf hs
  unfold valueOf predValue
  obtain ⟨ands, lit⟩ := p
  dsimp only [pv] at *
  by_cases hc : predCheck st.length ⟨ands, lit⟩ = 0
  case neg =>
    rw [if_neg hc]
    have c1b : (predCheck st.length ⟨ands, lit⟩ != 0) = true := bne_iff_ne.mpr hc
    clear hc
    go_enter Try.func13, Try.ntmps13
    go_wp2_with fail
    refine (HCK.out _ (below_alloc (Below.refl _ _) _)).mono ?_
    rintro e w1 ⟨rfl, hb1⟩
    have BW := Aside0.mk (below_then (below_alloc (Below.refl w.heap.size w) _) (by simp) hb1)
    clear hb1
    go_wp2
    refine bodyPost_ret (results_tmp2 rfl _ _ _) rfl ?_
    exact ⟨rfl, BW.out⟩
  case pos =>
    rw [if_pos hc]
    have HTC := Aside0.mk (HTR.out hc)
    rw [hc] at HCK ⊢
    clear hc HTR
    generalize litV (truthFrom ands (false :: st)) lit = R at *
    go_enter Try.func13, Try.ntmps13
    go_wp2_with fail
    refine (HCK.out _ (below_alloc (Below.refl _ _) _)).mono ?_
    rintro e w1 ⟨rfl, hb1⟩
    have BC := Aside0.mk (blk_below (blk_new w (.cells #[.slice A ands.length k, .int .i64 lit] 24)) hb1)
    have BW := Aside0.mk (below_then (below_alloc (Below.refl w.heap.size w) _) (by simp) hb1)
    clear hb1
    have g0 := (blk_cell BC.out 0).trans rfl
    have g1 := (blk_cell BC.out 1).trans rfl
    go_wp2_with fail
    refine (HTC.out _ BW.out).mono ?_
    rintro e w2 ⟨rfl, hb2⟩
    have BW2 := Aside0.mk (BW.out.trans (hb2.mono BW.out.size))
    clear hb2
    go_wp2
    refine bodyPost_ret (results_tmp2 rfl _ _ _) rfl ?_
    exact ⟨rfl, BW2.out⟩
set_option maxHeartbeats 2000000 in
set_option maxRecDepth 100000 in
theorem ref24_Great (A : Option Addr) (k : Nat) (p : Pr) (w : World) :
    Calls Try.prog 10 #[pv A k p] w fun e w' => e = .returned (.bool (decide (60 < p.f0.length) && decide (p.f0.length ≠ 1001))) ∧ Below w.heap.size w w' := by
  have hu24 := Try.underlying24
  obtain ⟨ands, lit⟩ := p
  dsimp only [pv] at *
  obtain ⟨R, hR⟩ : ∃ R, (decide (60 < ands.length) && decide (ands.length ≠ 1001)) = R := ⟨_, rfl⟩
  rw [hR]
  have HR := Aside0.mk hR
  clear hR
  go_enter Try.func10, Try.ntmps10
  go_wp2
  all_goals
    go_ret
    exact ⟨ret_bool (by rw [← HR.out, Bool.eq_iff_iff]; simp; omega), below_alloc (Below.refl _ _) _⟩
end Go.Proofs.Ytgcdanpihaeioaa.PH
