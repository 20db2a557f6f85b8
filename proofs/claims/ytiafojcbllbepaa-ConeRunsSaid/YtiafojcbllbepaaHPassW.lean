/- cone.Pass, walked. -/
import Derived.Test.YtiafojcbllbepaaHPassN
namespace Go.Proofs.Ytiafojcbllbepaa.PH
open Go.RowKit Go.Proofs.YtiafojcbllbepaaW.PrintWords Go.Proofs.YtiafojcbllbepaaW.PrintLast
set_option linter.unusedVariables false
set_option linter.unusedSimpArgs false

@[reducible] def rv (p : CP) (q : LP) (r : Red) : Value := .agg #[.int .i64 r.f0.f0, .slice p.A1 r.f0.f1.length p.c1, .slice p.A2 r.f0.f2.length p.c2, .slice p.A3 r.f0.f3.length p.c3, .slice p.A4 r.f0.f4.length p.c4,
  .int .i64 r.f1.f0, .int .i64 r.f1.f1, .slice q.A2 r.f1.f2.length q.c2, .slice q.A3 r.f1.f3.length q.c3, .slice q.A4 r.f1.f4.length q.c4, .slice q.A5 r.f1.f5.f0.length q.c5, .int .i64 r.f1.f5.f1]
/-- A reduced circuit comes back, its rows told. -/
def RetRd (w w' : World) (r : Red) (n : Int) (e : Ending) : Prop := ∃ p q, e = .returned (.tuple #[rv p q r, .int .i64 n]) ∧ RC w' p r.f0 ∧ RL w' q r.f1 ∧ Below w.heap.size w w'
def zeroRd : Red := ⟨⟨0, [], [], [], []⟩, zeroL⟩
theorem Parts.put12 {b : Nat} {w0 w : World} {ps : List Pc} (h : Parts b w0 w ps) (i : Nat) {g : Nat} {t : TypeId} {v0 v1 v2 v3 v4 v5 v6 v7 v8 v9 v10 v11 : Value} (hi : ps[i]? = some (pB g t #[v0, v1, v2, v3, v4, v5, v6, v7, v8, v9, v10, v11])) (u0 u1 u2 u3 u4 u5 u6 u7 u8 u9 u10 u11 : Value) :
    Parts b w0 ((((((((((((w.setCell ⟨g, 0, none⟩ u0).setCell ⟨g, 1, none⟩ u1).setCell ⟨g, 2, none⟩ u2).setCell ⟨g, 3, none⟩ u3).setCell ⟨g, 4, none⟩ u4).setCell ⟨g, 5, none⟩ u5).setCell ⟨g, 6, none⟩ u6).setCell ⟨g, 7, none⟩ u7).setCell ⟨g, 8, none⟩ u8).setCell ⟨g, 9, none⟩ u9).setCell ⟨g, 10, none⟩ u10).setCell ⟨g, 11, none⟩ u11) (ps.set i (pB g t #[u0, u1, u2, u3, u4, u5, u6, u7, u8, u9, u10, u11])) := by
  have hlt := (List.getElem?_eq_some_iff.1 hi).1
  have key : ∀ p : Pc, (ps.set i p)[i]? = some p := fun p => by rw [List.getElem?_set_self hlt]
  have st : ∀ (p q : Pc), (ps.set i p).set i q = ps.set i q := fun p q => List.set_set ..
  have h0 := h.put i hi 0 u0 (cs' := #[u0, v1, v2, v3, v4, v5, v6, v7, v8, v9, v10, v11]) rfl
  have h1 := h0.put i (key _) 1 u1 (cs' := #[u0, u1, v2, v3, v4, v5, v6, v7, v8, v9, v10, v11]) rfl
  rw [st] at h1
  have h2 := h1.put i (key _) 2 u2 (cs' := #[u0, u1, u2, v3, v4, v5, v6, v7, v8, v9, v10, v11]) rfl
  rw [st] at h2
  have h3 := h2.put i (key _) 3 u3 (cs' := #[u0, u1, u2, u3, v4, v5, v6, v7, v8, v9, v10, v11]) rfl
  rw [st] at h3
  have h4 := h3.put i (key _) 4 u4 (cs' := #[u0, u1, u2, u3, u4, v5, v6, v7, v8, v9, v10, v11]) rfl
  rw [st] at h4
  have h5 := h4.put i (key _) 5 u5 (cs' := #[u0, u1, u2, u3, u4, u5, v6, v7, v8, v9, v10, v11]) rfl
  rw [st] at h5
  have h6 := h5.put i (key _) 6 u6 (cs' := #[u0, u1, u2, u3, u4, u5, u6, v7, v8, v9, v10, v11]) rfl
  rw [st] at h6
  have h7 := h6.put i (key _) 7 u7 (cs' := #[u0, u1, u2, u3, u4, u5, u6, u7, v8, v9, v10, v11]) rfl
  rw [st] at h7
  have h8 := h7.put i (key _) 8 u8 (cs' := #[u0, u1, u2, u3, u4, u5, u6, u7, u8, v9, v10, v11]) rfl
  rw [st] at h8
  have h9 := h8.put i (key _) 9 u9 (cs' := #[u0, u1, u2, u3, u4, u5, u6, u7, u8, u9, v10, v11]) rfl
  rw [st] at h9
  have h10 := h9.put i (key _) 10 u10 (cs' := #[u0, u1, u2, u3, u4, u5, u6, u7, u8, u9, u10, v11]) rfl
  rw [st] at h10
  have h11 := h10.put i (key _) 11 u11 (cs' := #[u0, u1, u2, u3, u4, u5, u6, u7, u8, u9, u10, u11]) rfl
  rw [st] at h11
  exact h11
@[reducible] def zCells : Array Value := #[.int .i64 0, .slice none 0 0, .slice none 0 0, .slice none 0 0, .slice none 0 0, .int .i64 0, .int .i64 0, .slice none 0 0, .slice none 0 0, .slice none 0 0, .slice none 0 0, .int .i64 0]
set_option maxHeartbeats 4000000 in
set_option maxRecDepth 100000 in
theorem cone_Pass_bad (p : CP) (c : Circ) (w : World) (h : RC w p c) (hs : c.Fits) (hck : check c ≠ 0) :
    Calls Try.prog 12 #[cv p c] w fun e w' => RetRd w w' zeroRd (check c) e := by
  have HV := Aside0.mk (fun W (hb : Below w.heap.size w W) => cone_Of p c W (h.below hb) hs)
  have hu26 := Try.underlying26
  have hu40 := Try.underlying40
  have c1 : (check c != 0) = true := bne_iff_ne.mpr hck
  have HC := Aside0.mk hck
  have S0 := Aside0.mk (((Parts.start w).new 26 #[.int .i64 c.f0, .slice p.A1 c.f1.length p.c1, .slice p.A2 c.f2.length p.c2, .slice p.A3 c.f3.length p.c3, .slice p.A4 c.f4.length p.c4]).new 40 zCells)
  rw [show (w.alloc (.cells #[.int .i64 c.f0, .slice p.A1 c.f1.length p.c1, .slice p.A2 c.f2.length p.c2, .slice p.A3 c.f3.length p.c3, .slice p.A4 c.f4.length p.c4] 26)).heap.size = w.heap.size + 1 by simp] at S0
  clear h hs hck
  go_enter Try.func12, Try.ntmps12
  go_wp2_with fail
  refine (HV.out _ S0.out.B).mono ?_
  rintro e w1 ⟨A, cap, rfl, hR, hb1⟩
  unfold ofC
  rw [if_neg HC.out]
  have S1 := Aside0.mk (S0.out.below hb1)
  clear hb1 hR
  have HW := Aside0.mk (S1.out.put12 0 rfl (.int .i64 0) (.slice none 0 0) (.slice none 0 0) (.slice none 0 0) (.slice none 0 0) (.int .i64 0) (.int .i64 0) (.slice none 0 0) (.slice none 0 0) (.slice none 0 0) (.slice none 0 0) (.int .i64 0))
  dsimp only
  obtain ⟨r0, z0⟩ := S1.out.cell 0 rfl 0 rfl
  obtain ⟨r1, z1⟩ := S1.out.cell 0 rfl 1 rfl
  obtain ⟨r2, z2⟩ := S1.out.cell 0 rfl 2 rfl
  obtain ⟨r3, z3⟩ := S1.out.cell 0 rfl 3 rfl
  obtain ⟨r4, z4⟩ := S1.out.cell 0 rfl 4 rfl
  obtain ⟨r5, z5⟩ := S1.out.cell 0 rfl 5 rfl
  obtain ⟨r6, z6⟩ := S1.out.cell 0 rfl 6 rfl
  obtain ⟨r7, z7⟩ := S1.out.cell 0 rfl 7 rfl
  obtain ⟨r8, z8⟩ := S1.out.cell 0 rfl 8 rfl
  obtain ⟨r9, z9⟩ := S1.out.cell 0 rfl 9 rfl
  obtain ⟨r10, z10⟩ := S1.out.cell 0 rfl 10 rfl
  obtain ⟨r11, z11⟩ := S1.out.cell 0 rfl 11 rfl
  go_wp2
  refine bodyPost_ret (results_ct rfl _ _ (w.heap.size + 1) 40 zCells (0, 0) _ rfl (HW.out.blk 0 rfl) hu40 rfl (by kernel_rfl)) rfl ?_
  exact ⟨⟨none, 0, none, 0, none, 0, none, 0⟩, ⟨none, 0, none, 0, none, 0, none, 0⟩, rfl, ⟨RS.nil _ _ _, RS.nil _ _ _, RS.nil _ _ _, RS.nil _ _ _⟩, ⟨RS.nil _ _ _, RS.nil _ _ _, RS.nil _ _ _, RS.nil _ _ _⟩, HW.out.B⟩
/-- What the call has while it makes the circuit. -/
@[reducible] noncomputable def passPs (b gN B gO gI gU gC gR n : Nat) (bx : Array Value) (f : Int → Option Int) (cnt : Int) (vI vF vL vOL vOA vOB vOC : Option Addr × Nat) (I F L : List Int) (OL : List Latch) (OA : List Gate) (OB OC : List Int) : List Pc :=
  [pM yI 3 B n f, pB gN 80 #[.map (some B)],
   pB gO 26 #[.int .i64 cnt, .slice vOL.1 OL.length vOL.2, .slice vOA.1 OA.length vOA.2, .slice vOB.1 OB.length vOB.2, .slice vOC.1 OC.length vOC.2],
   pB gI 24 #[.slice vI.1 I.length vI.2],
   pB gU 38 #[.int .i64 0, .int .i64 1, .slice vF.1 F.length vF.2, .slice (some ⟨gI, 0, none⟩) 1 1, .slice vL.1 L.length vL.2, .slice none 0 0, .int .i64 1],
   pF b (Kd.int .i64) 3 (.slice vI.1 I.length vI.2) I, pF b (Kd.int .i64) 3 (.slice vF.1 F.length vF.2) F, pF b (Kd.int .i64) 3 (.slice vL.1 L.length vL.2) L,
   pF b kLatch 49 (.slice vOL.1 OL.length vOL.2) OL, pF b kGate 51 (.slice vOA.1 OA.length vOA.2) OA,
   pF b (Kd.int .i64) 3 (.slice vOB.1 OB.length vOB.2) OB, pF b (Kd.int .i64) 3 (.slice vOC.1 OC.length vOC.2) OC,
   pB gC 26 bx, pB gR 40 zCells]
theorem infoLatchC : (Try.prog.info? 49).map (fun i => (i.zero, i.size, i.bytes)) = some (some (.agg #[.int .i64 0, .int .i64 0]), 2, 16) := by kernel_rfl
theorem infoGateC : (Try.prog.info? 51).map (fun i => (i.zero, i.size, i.bytes)) = some (some (.agg #[.int .i64 0, .int .i64 0]), 2, 16) := by kernel_rfl
theorem resets_ok {c : Circ} (h : check c = 0) : ∀ x ∈ c.f1, 0 ≤ x.f1 ∧ x.f1 ≤ 2 := by
  unfold check gCheck at h
  split at h
  · cases h
  split at h
  · cases h
  split at h
  · cases h
  split at h
  · cases h
  split at h
  · cases h
  split at h
  · cases h
  split at h
  · cases h
  rename_i q
  intro x hx
  have h1 : gWrong (1 + c.f0 + (c.f1.length : Int) + c.f2.length) x = false := Bool.eq_false_iff.2 fun h2 => q (List.any_eq_true.2 ⟨x, hx, h2⟩)
  unfold gWrong at h1
  simp only [Bool.or_eq_false_iff, decide_eq_false_iff_not] at h1
  omega
set_option maxHeartbeats 4000000 in
set_option maxRecDepth 100000 in
theorem cone_Pass_ok (p : CP) (c : Circ) (w : World) (h : RC w p c) (hs : c.Fits) (hck : check c = 0) :
    Calls Try.prog 12 #[cv p c] w fun e w' => RetRd w w' ⟨passC c (coneB c) (toldF (coneB c) 0), passL c (coneB c) (toldF (coneB c) 0)⟩ 0 e := by
  have HV := Aside0.mk (fun W (hb : Below w.heap.size w W) => cone_Of p c W (h.below hb) hs)
  have hu26 := Try.underlying26
  have hu38 := Try.underlying38
  have hu40 := Try.underlying40
  have hbd := gCheck_ok hck
  have hin := Aside0.mk (inside_of hck)
  have HN := Aside0.mk (show sizeC c ≤ 1000 by have h1 := hbd.2.2; have h2 := hbd.1; unfold sizeC; omega)
  have HC := Aside0.mk hck
  have HH := Aside0.mk h
  have hmf : ∀ (fn : Fn) (first cap : Array Value) (w : World), (Instr.makeFunc fn first cap).run Try.prog w = .ok (.func fn first cap) w := fun _ _ _ _ => rfl
  have hmk := make_rows
  have hmm := @run_makeMap Try.prog
  obtain ⟨A1, k1, A2, k2, A3, k3, A4, k4⟩ := p
  have S0 := Aside0.mk (((Parts.start w).new 26 #[.int .i64 c.f0, .slice A1 c.f1.length k1, .slice A2 c.f2.length k2, .slice A3 c.f3.length k3, .slice A4 c.f4.length k4]).new 40 zCells)
  rw [show (w.alloc (.cells #[.int .i64 c.f0, .slice A1 c.f1.length k1, .slice A2 c.f2.length k2, .slice A3 c.f3.length k3, .slice A4 c.f4.length k4] 26)).heap.size = w.heap.size + 1 by simp] at S0
  clear h hs hck
  go_enter Try.func12, Try.ntmps12
  go_wp2_with fail
  refine (HV.out _ S0.out.B).mono ?_
  rintro e w1 ⟨A, cap, rfl, hR, hb1⟩
  unfold ofC at hR ⊢
  rw [if_pos HC.out] at hR ⊢
  have S1 := Aside0.mk (S0.out.freshF flat_int hb1 hR)
  clear hb1 hR
  dsimp only at S1 ⊢
  have HIS := Aside0.mk (show (coneB c).length = sizeC c + 1 by simp [coneB])
  have HI0 := Aside0.mk (show (coneB c).getD 0 false = false by
    cases hb : (coneB c).getD 0 false with
    | false => rfl
    | true => exact absurd (((cone_tells hin.out).2 0).1 hb).pos (by omega))
  have HVV := Aside0.mk (show coneV c = onesFrom (coneB c) 0 from rfl)
  have S2 := S1.out.made yI 3
  obtain ⟨w2, hrun, hm2, hg2⟩ := MapI.store (S2.hP 0 _ rfl) Try.underlying80 Try.underlying3 (by decide) (k := (0 : Int)) (show I64 0 from ⟨by omega, by omega⟩) (x := 0) (by decide)
  have S3 := Aside0.mk (S2.stored (m := 1) (g := numJ (coneV c) 0) 0 rfl hm2 hg2)
  clear S2 hm2 hg2
  go_upto_region 5 with (first | (refine insL_run rfl _ _ _ _ rfl rfl rfl rfl hrun ?_))
  have S4 := Aside0.mk (S3.out.new 80 #[.map (some w1.heap.size)])
  clear S3 hrun S1
  generalize w1.heap.size = B at *
  generalize w2.heap.size = gN at *
  generalize w2.alloc (.cells #[.map (some B)] 80) = w3 at *
  have HLV := Aside0.mk (show (coneV c).length ≤ 1001 by rw [HVV.out, ones_len]; have := List.count_le_length (a := true) (l := coneB c); have := HIS.out; have := HN.out; omega)
  have HLI := Aside0.mk (show ∀ i (hi : i < (coneV c).length), 0 ≤ (coneV c)[i] ∧ (coneV c)[i] ≤ 1000 from fun i hi => by
    have h1 := ones_at (is := coneB c) hi
    have h2 := h1.2.1
    have h3 : ((onesFrom (coneB c) 0)[i]).toNat < (coneB c).length := by
      by_cases h4 : ((onesFrom (coneB c) 0)[i]).toNat < (coneB c).length
      · exact h4
      · rw [List.getD_eq_getElem?_getD, List.getElem?_eq_none (by omega)] at h2; simp at h2
    rw [HIS.out] at h3
    have h4 := HN.out
    have h5 := h1.1
    show 0 ≤ (onesFrom (coneB c) 0)[i] ∧ (onesFrom (coneB c) 0)[i] ≤ 1000
    omega)
  go_wp2
  go_loopg [40] (coneV c).length (fun gg s40 wr => ∃ (k : Nat), s40 = .int .i64 k ∧ Aside0 (k ≤ (coneV c).length ∧ (coneV c).length - k ≤ gg) ∧ Aside0 (Parts w.heap.size w wr [pB gN 80 #[.map (some B)], pM yI 3 B (1 + k) (numJ (coneV c) k), pF w.heap.size (Kd.int .i64) 3 (.slice A (coneV c).length cap) (coneV c), pB (w.heap.size + 1) 40 zCells, pB w.heap.size 26 #[.int .i64 c.f0, .slice A1 c.f1.length k1, .slice A2 c.f2.length k2, .slice A3 c.f3.length k3, .slice A4 c.f4.length k4]]))
  case atStart => exact ⟨0, rfl, ⟨by omega, by omega⟩, S4⟩
  case round =>
    clear S4
    obtain ⟨k, rfl, HK, S⟩ := hrel
    by_cases hlt : k < (coneV c).length
    · obtain ⟨ad, e, hc⟩ := at_int (S.out.rowF 2 rfl).r k hlt
      cases e
      have hv := HLI.out k hlt
      have hgk : (coneV c).getD k 0 = (coneV c)[k] := by rw [List.getD_eq_getElem?_getD, List.getElem?_eq_getElem hlt]; rfl
      obtain ⟨cN, fN⟩ := S.out.cell 0 rfl 0 rfl
      have hkk : k < 1001 := by have := HLV.out; omega
      obtain ⟨w5, hrun, hm5, hg5⟩ := MapI.store (S.out.hP 1 _ rfl) Try.underlying80 Try.underlying3 (by have h_ : maxLen = 9223372036854775807 := rfl; rw [h_]; omega) (k := (coneV c)[k]) (show I64 _ from ⟨by omega, by omega⟩) (x := (k : Int) + 1) (WalkArith.wf_i64 ⟨by omega, by omega⟩)
      have S5 := Aside0.mk (S.out.stored (m := 1 + (k + 1)) (g := numJ (coneV c) (k + 1)) 1 rfl (by
        have h_ : numJ (coneV c) (k + 1) = fun j => if j = (coneV c)[k] then some ((k : Int) + 1) else numJ (coneV c) k j := by
          funext j; show (if j = (coneV c).getD k 0 then some ((k : Int) + 1) else numJ (coneV c) k j) = _; rw [hgk]
        rw [h_]; exact hm5) hg5)
      have HKK := Aside0.mk hlt
      clear hm5 hg5 hgk hv
      generalize (coneV c)[k] = x at *
      go_wp2_with (first | (refine updL_run rfl _ _ _ _ rfl rfl rfl rfl hrun ?_))
      go_roundg ((coneV c).length - (k + 1))
      case measure => have := HK.out; have := HKK.out; omega
      case rel => exact ⟨k + 1, rfl, ⟨HKK.out, by have := HK.out; omega⟩, S5⟩
    · have hk : k = (coneV c).length := by have := HK.out; omega
      subst hk
      obtain ⟨nm, hnm⟩ : ∃ nm, 1 + (coneV c).length = nm := ⟨_, rfl⟩
      have S5 := Aside0.mk (show Parts w.heap.size w wr [pM yI 3 B nm (numF (coneB c)), pB gN 80 #[.map (some B)], pB w.heap.size 26 #[.int .i64 c.f0, .slice A1 c.f1.length k1, .slice A2 c.f2.length k2, .slice A3 c.f3.length k3, .slice A4 c.f4.length k4], pB (w.heap.size + 1) 40 zCells] from by
        have h_ := S.out.take [1, 0, 4, 3] 5 (by simp) (by decide) (by decide)
        rw [hnm] at h_
        have e_ : numJ (coneV c) (coneV c).length = numF (coneB c) := by funext k; rw [HVV.out]; exact numJ_end HI0.out k
        rw [e_] at h_
        exact h_)
      clear S HK hlt hnm
      have hz1 : ∀ (W : World) (o : Obj), (W.alloc o).heap.size = W.heap.size + 1 := fun W o => by simp
      have S6 := (((S5.out.new 26 #[.int .i64 0, .slice none 0 0, .slice none 0 0, .slice none 0 0, .slice none 0 0]).new 24 #[.slice none 0 0]).new 38 #[.int .i64 0, .int .i64 1, .slice none 0 0, .slice (some ⟨wr.heap.size + 1, 0, none⟩) 1 1, .slice none 0 0, .slice none 0 0, .int .i64 1])
      rw [hz1, hz1] at S6
      have S7 := Aside0.mk (show Parts w.heap.size w (((wr.alloc (.cells #[.int .i64 0, .slice none 0 0, .slice none 0 0, .slice none 0 0, .slice none 0 0] 26)).alloc (.cells #[.slice none 0 0] 24)).alloc (.cells #[.int .i64 0, .int .i64 1, .slice none 0 0, .slice (some ⟨wr.heap.size + 1, 0, none⟩) 1 1, .slice none 0 0, .slice none 0 0, .int .i64 1] 38))
          (passPs w.heap.size gN B wr.heap.size (wr.heap.size + 1) (wr.heap.size + 1 + 1) w.heap.size (w.heap.size + 1) nm #[.int .i64 c.f0, .slice A1 c.f1.length k1, .slice A2 c.f2.length k2, .slice A3 c.f3.length k3, .slice A4 c.f4.length k4] (numF (coneB c)) 0 (none, 0) (none, 0) (none, 0) (none, 0) (none, 0) (none, 0) (none, 0) [] [] [] [] [] [] []) from
        ((((((((S6.nil (Kd.int .i64) 3).nil (Kd.int .i64) 3).nil kGate 51).nil kLatch 49).nil (Kd.int .i64) 3).nil (Kd.int .i64) 3).nil (Kd.int .i64) 3).take [10, 11, 9, 8, 7, 0, 1, 2, 3, 4, 5, 6, 12, 13] 14 (by simp) (by decide) (by decide)))
      clear S5 S6 hz1
      go_upto_region 13 with (fail)
      generalize wr.heap.size = gO at *
      generalize ((wr.alloc (.cells #[.int .i64 0, .slice none 0 0, .slice none 0 0, .slice none 0 0, .slice none 0 0] 26)).alloc (.cells #[.slice none 0 0] 24)).alloc (.cells #[.int .i64 0, .int .i64 1, .slice none 0 0, .slice (some ⟨gO + 1, 0, none⟩) 1 1, .slice none 0 0, .slice none 0 0, .int .i64 1] 38) = w6 at *
      generalize gO + 1 + 1 = gU at *
      generalize gO + 1 = gI at *
      obtain ⟨c0, c1, c2, c3, c4⟩ := blk5 (S7.out.blk 12 rfl)
      go_quiet (fail)
      have S8 := Aside0.mk (S7.out.below (pw_below_drewN (Below.refl _ _) nq))
      clear c0 c1 c2 c3 c4 S7
      generalize w6.drewN nq = w7 at *
      obtain ⟨n0, hn0⟩ : ∃ n0 : Nat, c.f0 = (n0 : Int) := ⟨c.f0.toNat, by have := hin.out.h0; omega⟩
      have HTN := Aside0.mk (show c.f0.toNat = n0 by omega)
      have HSZ := Aside0.mk (show sizeC c = n0 + c.f1.length + c.f2.length by unfold sizeC; rw [HTN.out])
      have HN0 := Aside0.mk hn0
      clear hn0 hmk hmm
      have HTL := Aside0.mk (toldF_len (coneB c) 0)
      have HT0 := Aside0.mk (toldF_no (coneB c) 0)
      have HNF := Aside0.mk (fun v => numF_half (is := coneB c) v HI0.out)
      have HNB := Aside0.mk (numF_bound (is := coneB c) (by have := HIS.out; have := HN.out; omega))
      have HNS := Aside0.mk (fun v (hv : 0 < v) => numF_some (is := coneB c) v hv)
      have HCO := Aside0.mk (fun (n : Nat) (l : Int) (W : World) hN hM hx hx2 => cone_of1 gN B n (coneB c) l W hN hM (by have := HIS.out; have := HN.out; omega) HI0.out hx hx2)
      obtain ⟨is, his⟩ : ∃ is, coneB c = is := ⟨_, rfl⟩
      obtain ⟨t, ht⟩ : ∃ t, toldF (coneB c) 0 = t := ⟨_, rfl⟩
      have HPOST := Aside0.mk (show (⟨passC c (coneB c) (toldF (coneB c) 0), passL c (coneB c) (toldF (coneB c) 0)⟩ : Red) = ⟨passC c is t, passL c is t⟩ by rw [ht, his])
      rw [his] at S8 HNF HNB HNS HCO HIS HTL HT0
      rw [his] at ht
      rw [ht] at HNF HCO HTL HT0
      clear his ht HVV HI0 HLV HLI HV
      go_wp2
      go_loopg [14] (n0 + c.f1.length) (fun gg s14 wr => ∃ (i l : Nat) (x : Int) (vI vF vL vOL : Option Addr × Nat), s14 = .int .i64 x ∧ Aside0 (x = 1 + (i : Int) + (l : Int)) ∧ Aside0 (i ≤ n0 ∧ l ≤ c.f1.length ∧ (0 < l → i = n0) ∧ n0 + c.f1.length - (i + l) ≤ gg) ∧
        Aside0 (Parts w.heap.size w wr (passPs w.heap.size gN B gO gI gU w.heap.size (w.heap.size + 1) nm #[.int .i64 c.f0, .slice A1 c.f1.length k1, .slice A2 c.f2.length k2, .slice A3 c.f3.length k3, .slice A4 c.f4.length k4] (numF is) (cntK is i) vI vF vL vOL (none, 0) (none, 0) (none, 0) (insK t i) (firK c is t l) (lasK c is l) (latK c is t l) [] [] [])))
      case atStart => exact ⟨0, 0, 1, (none, 0), (none, 0), (none, 0), (none, 0), rfl, ⟨by omega⟩, ⟨by omega, by omega, by omega, by omega⟩, S8⟩
      case round =>
        clear S8
        obtain ⟨i, l, x, vI, vF, vL, vOL, rfl, HX, HK, S⟩ := hrel
        have hx := HX.out
        have hk := HK.out
        obtain ⟨cN, fN⟩ := S.out.cell 1 rfl 0 rfl
        obtain ⟨num, hnum⟩ : ∃ num, (numF is x).getD 0 = num := ⟨_, rfl⟩
        obtain ⟨b, hb⟩ : ∃ b, is.getD (1 + i + l) false = b := ⟨_, rfl⟩
        have hlk : (Instr.lookup 80 (.map (some B)) (.int .i64 x) true).run Try.prog wr = .ok (.tuple #[.int .i64 num, .bool b]) wr := by
          have h_ := (show MapI yI 3 wr B nm (numF is) from S.out.hP 0 _ rfl).look2 Try.underlying80 Try.underlying3 (zeroInt wr) (k := x) (show I64 x from ⟨by omega, by have := HSZ.out; have := HN.out; omega⟩)
          rw [hnum, show x = ((1 + i + l : Nat) : Int) by omega, HNS.out _ (by omega), hb] at h_
          rw [show x = ((1 + i + l : Nat) : Int) by omega]
          exact h_
        have hnb := HNB.out x
        rw [hnum] at hnb
        obtain ⟨hnb1, hnb2⟩ := hnb
        have HNT := Aside0.mk (show 2 * num = t.getD (1 + i + l) 0 by have h_ := HNF.out (1 + i + l); rw [show ((1 + i + l : Nat) : Int) = x by omega, hnum] at h_; exact h_)
        obtain ⟨y, hy⟩ : ∃ y, IntKind.i64.wrap (2 * num) = y := ⟨_, rfl⟩
        have HY := Aside0.mk (show y = t.getD (1 + i + l) 0 by rw [← HNT.out, ← hy, IntKind.wrap_i64]; omega)
        have HB := Aside0.mk hb
        clear hnum hb hx hk
        by_cases hA : i < n0
        · have hl0 : l = 0 := by have := HK.out; omega
          subst hl0
          have hd1 : decide (x < c.f0 + 1) = true := decide_eq_true (by have := HN0.out; have := HX.out; omega)
          have hd2 : decide (x < c.f0 + (c.f1.length : Int) + 1) = true := decide_eq_true (by have := HN0.out; have := HX.out; omega)
          cases b with
          | true =>
            have hcb : cntK is i ≤ 1000 := by have := cntK_le (is := is) (k := i); have := HSZ.out; have := HN.out; omega
            have HIL := Aside0.mk (show i ≤ 1000 by have := HSZ.out; have := HN.out; omega)
            have HKA := Aside0.mk hA
            obtain ⟨cO, fO⟩ := S.out.cell 2 rfl 0 rfl
            have S9 := Aside0.mk (S.out.put 2 rfl 0 (.int .i64 ((cntK is i : Int) + 1)) rfl)
            go_upto_region 24 with (fail)
            clear cN fN hlk cO fO
            generalize wr.setCell ⟨gO, 0, none⟩ (.int .i64 ((cntK is i : Int) + 1)) = w9 at *
            obtain ⟨r3, z3⟩ := S9.out.cell 4 rfl 3 rfl
            obtain ⟨i0, y0⟩ := S9.out.cell 3 rfl 0 rfl
            go_wp2
            refine start_ (n := 12) (S := (fun w' => w'.cell? ⟨gU, 3, none⟩ = some (.slice (some ⟨gI, 0, none⟩) 1 1) ∧ w'.cell? ⟨gI, 0, none⟩ = some (.slice vI.1 (insK t i).length vI.2))) (ds := [11]) #[false, false, false, false, false, false, false, false, false, false, false, false] (by kernel_rfl) rfl rfl ⟨r3, i0⟩ (fun hHeld => ?_)
            refine pure_ (i := 0) (N := some 101) (v := ?_) (a' := ?_) #[true, false, false, false, false, false, false, false, false, false, false, false] rfl rfl (by kernel_rfl) (fun _ _ _ h => h) (Or.inl ⟨by rfl, ?_⟩) ?_ ?_
            rotate_left
            · intro w'
              go_simp
              with_reducible rfl
            rotate_left
            · simp only [Act.put, List.setIfInBounds_toArray, List.set_cons_zero, List.set_cons_succ]
              rfl
            refine pure_ (i := 2) (N := some 103) (v := ?_) (a' := ?_) #[true, false, true, false, false, false, false, false, false, false, false, false] rfl rfl (by kernel_rfl) (fun _ _ _ h => h) (Or.inl ⟨by rfl, ?_⟩) ?_ ?_
            rotate_left
            · intro w'
              go_simp
              with_reducible rfl
            rotate_left
            · simp only [Act.put, List.setIfInBounds_toArray, List.set_cons_zero, List.set_cons_succ]
              rfl
            refine pure_ (i := 6) (N := some 107) (v := ?_) (a' := ?_) #[true, false, true, false, false, false, true, false, false, false, false, false] rfl rfl (by kernel_rfl) (fun _ _ _ h => h) (Or.inl ⟨by rfl, ?_⟩) ?_ ?_
            rotate_left
            · intro w'
              go_simp
              with_reducible rfl
            rotate_left
            · simp only [Act.put, List.setIfInBounds_toArray, List.set_cons_zero, List.set_cons_succ]
              rfl
            refine pure_ (i := 7) (N := some 108) (v := ?_) (a' := ?_) #[true, false, true, false, false, false, true, true, false, false, false, false] rfl rfl (by kernel_rfl) (fun _ _ _ h => h) (Or.inl ⟨by rfl, ?_⟩) ?_ ?_
            rotate_left
            · intro w'
              go_simp
              with_reducible rfl
            rotate_left
            · simp only [Act.put, List.setIfInBounds_toArray, List.set_cons_zero, List.set_cons_succ]
              rfl
            refine take_ (i := 1) (N := some 102) (v := ?_) (a' := ?_) #[true, true, true, false, false, false, true, true, false, false, false, false] rfl rfl (by kernel_rfl) (fun _ _ _ h => h) (Or.inl ⟨by rfl, ?_⟩) hHeld ?_ ?_
            rotate_left
            · rintro w' ⟨s0, s1⟩
              go_simp
              with_reducible rfl
            rotate_left
            · simp only [Act.put, List.setIfInBounds_toArray, List.set_cons_zero, List.set_cons_succ]
              rfl
            refine take_ (i := 3) (N := some 104) (v := ?_) (a' := ?_) #[true, true, true, true, false, false, true, true, false, false, false, false] rfl rfl (by kernel_rfl) (fun _ _ _ h => h) (Or.inl ⟨by rfl, ?_⟩) hHeld ?_ ?_
            rotate_left
            · rintro w' ⟨s0, s1⟩
              go_simp
              with_reducible rfl
            rotate_left
            · simp only [Act.put, List.setIfInBounds_toArray, List.set_cons_zero, List.set_cons_succ]
              rfl
            refine pure_ (i := 4) (N := some 105) (v := ?_) (a' := ?_) #[true, true, true, true, true, false, true, true, false, false, false, false] rfl rfl (by kernel_rfl) (fun _ _ _ h => h) (Or.inl ⟨by rfl, ?_⟩) ?_ ?_
            rotate_left
            · intro w'
              go_simp
              with_reducible rfl
            rotate_left
            · simp only [Act.put, List.setIfInBounds_toArray, List.set_cons_zero, List.set_cons_succ]
              rfl
            refine take_ (i := 5) (N := some 106) (v := ?_) (a' := ?_) #[true, true, true, true, true, true, true, true, false, false, false, false] rfl rfl (by kernel_rfl) (fun _ _ _ h => h) (Or.inl ⟨by rfl, ?_⟩) hHeld ?_ ?_
            rotate_left
            · rintro w' ⟨s0, s1⟩
              go_simp
              with_reducible rfl
            rotate_left
            · simp only [Act.put, List.setIfInBounds_toArray, List.set_cons_zero, List.set_cons_succ]
              rfl
            refine one_ (i := 8) (N := some 109) #[true, true, true, true, true, true, true, true, true, false, false, false] rfl rfl (by kernel_rfl) (by decide) (fun K hK => ?_)
            refine value_ (w1 := ?_) (v := ?_) (by rfl) rfl ?_ ?_
            rotate_left 2
            · go_simp
              constructor
              · rfl
              · rfl
            refine hK.out _ _ ⟨(World.cell?_alloc_lt _ _ _ (World.block_lt_of_cell? _ _ hHeld.1)).trans hHeld.1, (World.cell?_alloc_lt _ _ _ (World.block_lt_of_cell? _ _ hHeld.2)).trans hHeld.2⟩ (fun hHeld => ?_)
            clear hK K
            refine norm_ (a' := ?_) ?_ ?_
            rotate_left
            · show Act.put _ (some 109) _ = _
              simp only [Act.put, List.setIfInBounds_toArray, List.set_cons_zero, List.set_cons_succ]
              rfl
            refine one_ (i := 9) (N := some 110) #[true, true, true, true, true, true, true, true, true, true, false, false] rfl rfl (by kernel_rfl) (by decide) (fun K hK => ?_)
            refine Parts.appendS S9.out.drew 5 rfl flat_int (by rfl) (.tmp 106) (.tmp 109) 24 (.int .i64 0) 8 rfl Try.underlying24 infoInt rfl (by decide) (by decide) y [.int .i64 y] rfl rfl rfl (by rw [insK_len]; have := HIL.out; omega) ?_
            intro V5 cap5 w10 h10
            have S10 := Aside0.mk h10
            clear h10 r3 i0 z3 y0
            obtain ⟨r3, z3⟩ := S10.out.cell 4 rfl 3 rfl
            obtain ⟨i0, y0⟩ := S10.out.cell 3 rfl 0 rfl
            refine hK.out _ _ ⟨r3, i0⟩ (fun hHeld => ?_)
            clear hK K
            refine norm_ (a' := ?_) ?_ ?_
            rotate_left
            · show Act.put _ (some 110) _ = _
              simp only [Act.put, List.setIfInBounds_toArray, List.set_cons_zero, List.set_cons_succ]
              rfl
            refine pure_ (i := 10) (N := some 111) (v := ?_) (a' := ?_) #[true, true, true, true, true, true, true, true, true, true, true, false] rfl rfl (by kernel_rfl) (fun _ _ _ h => h) (Or.inl ⟨by rfl, ?_⟩) ?_ ?_
            rotate_left
            · intro w'
              go_simp
              with_reducible rfl
            rotate_left
            · simp only [Act.put, List.setIfInBounds_toArray, List.set_cons_zero, List.set_cons_succ]
              rfl
            refine last_ (i := 11) (N := none) #[true, true, true, true, true, true, true, true, true, true, true, true] rfl rfl (by kernel_rfl) (by decide) (fun K hK => ?_)
            refine skip_ (w1 := ?_) (by rfl) rfl ?_ ?_
            rotate_left
            · go_simp
              rfl
            refine hK.out _ _ ?_
            clear hK K
            refine done_ (by kernel_rfl) ?_
            have S11 := Aside0.mk (S10.out.put 3 rfl 0 (.slice V5 ((insK t i).length + 1) cap5) rfl)
            clear r3 i0 z3 y0 S9 S10
            go_wp2
            go_roundg (n0 + c.f1.length - (i + 1))
            case measure => have := HK.out; have := HKA.out; omega
            case rel => exact ⟨i + 1, 0, x + 1, (V5, cap5), vF, vL, vOL, val_eq (wrap_in (by have := HX.out; omega) (by have := HX.out; have := HIL.out; omega)), ⟨by have := HX.out; omega⟩, ⟨HKA.out, by omega, by omega, by omega⟩, ⟨by
              have h_ := S11.out
              rw [HY.out, show 1 + i + 0 = i + 1 by omega] at h_
              have e1 : insK t (i + 1) = insK t i ++ [t.getD (i + 1) 0] := insK_succ
              have e2 : ((cntK is (i + 1) : Nat) : Int) = (cntK is i : Int) + 1 := by rw [cntK_succ, if_pos (by have h_ := HB.out; rw [show 1 + i + 0 = i + 1 by omega] at h_; exact h_)]; push_cast; rfl
              rw [e1, e2]
              unfold passPs
              rw [List.length_append, List.length_singleton]
              exact h_⟩⟩
          | false =>
            have HIL := Aside0.mk (show i ≤ 1000 by have := HSZ.out; have := HN.out; omega)
            have HKA := Aside0.mk hA
            obtain ⟨r3, z3⟩ := S.out.cell 4 rfl 3 rfl
            obtain ⟨i0, y0⟩ := S.out.cell 3 rfl 0 rfl
            go_wp2
            refine start_ (n := 10) (S := (fun w' => w'.cell? ⟨gU, 3, none⟩ = some (.slice (some ⟨gI, 0, none⟩) 1 1) ∧ w'.cell? ⟨gI, 0, none⟩ = some (.slice vI.1 (insK t i).length vI.2))) (ds := [9]) #[false, false, false, false, false, false, false, false, false, false] (by kernel_rfl) rfl rfl ⟨r3, i0⟩ (fun hHeld => ?_)
            refine pure_ (i := 0) (N := some 116) (v := ?_) (a' := ?_) #[true, false, false, false, false, false, false, false, false, false] rfl rfl (by kernel_rfl) (fun _ _ _ h => h) (Or.inl ⟨by rfl, ?_⟩) ?_ ?_
            rotate_left
            · intro w'
              go_simp
              with_reducible rfl
            rotate_left
            · simp only [Act.put, List.setIfInBounds_toArray, List.set_cons_zero, List.set_cons_succ]
              rfl
            refine pure_ (i := 2) (N := some 118) (v := ?_) (a' := ?_) #[true, false, true, false, false, false, false, false, false, false] rfl rfl (by kernel_rfl) (fun _ _ _ h => h) (Or.inl ⟨by rfl, ?_⟩) ?_ ?_
            rotate_left
            · intro w'
              go_simp
              with_reducible rfl
            rotate_left
            · simp only [Act.put, List.setIfInBounds_toArray, List.set_cons_zero, List.set_cons_succ]
              rfl
            refine take_ (i := 1) (N := some 117) (v := ?_) (a' := ?_) #[true, true, true, false, false, false, false, false, false, false] rfl rfl (by kernel_rfl) (fun _ _ _ h => h) (Or.inl ⟨by rfl, ?_⟩) hHeld ?_ ?_
            rotate_left
            · rintro w' ⟨s0, s1⟩
              go_simp
              with_reducible rfl
            rotate_left
            · simp only [Act.put, List.setIfInBounds_toArray, List.set_cons_zero, List.set_cons_succ]
              rfl
            refine take_ (i := 3) (N := some 119) (v := ?_) (a' := ?_) #[true, true, true, true, false, false, false, false, false, false] rfl rfl (by kernel_rfl) (fun _ _ _ h => h) (Or.inl ⟨by rfl, ?_⟩) hHeld ?_ ?_
            rotate_left
            · rintro w' ⟨s0, s1⟩
              go_simp
              with_reducible rfl
            rotate_left
            · simp only [Act.put, List.setIfInBounds_toArray, List.set_cons_zero, List.set_cons_succ]
              rfl
            refine pure_ (i := 4) (N := some 120) (v := ?_) (a' := ?_) #[true, true, true, true, true, false, false, false, false, false] rfl rfl (by kernel_rfl) (fun _ _ _ h => h) (Or.inl ⟨by rfl, ?_⟩) ?_ ?_
            rotate_left
            · intro w'
              go_simp
              with_reducible rfl
            rotate_left
            · simp only [Act.put, List.setIfInBounds_toArray, List.set_cons_zero, List.set_cons_succ]
              rfl
            refine take_ (i := 5) (N := some 121) (v := ?_) (a' := ?_) #[true, true, true, true, true, true, false, false, false, false] rfl rfl (by kernel_rfl) (fun _ _ _ h => h) (Or.inl ⟨by rfl, ?_⟩) hHeld ?_ ?_
            rotate_left
            · rintro w' ⟨s0, s1⟩
              go_simp
              with_reducible rfl
            rotate_left
            · simp only [Act.put, List.setIfInBounds_toArray, List.set_cons_zero, List.set_cons_succ]
              rfl
            refine one_ (i := 6) (N := some 122) #[true, true, true, true, true, true, true, false, false, false] rfl rfl (by kernel_rfl) (by decide) (fun K hK => ?_)
            refine value_ (w1 := ?_) (v := ?_) (by rfl) rfl ?_ ?_
            rotate_left 2
            · go_simp
              constructor
              · rfl
              · rfl
            refine hK.out _ _ ⟨(World.cell?_alloc_lt _ _ _ (World.block_lt_of_cell? _ _ hHeld.1)).trans hHeld.1, (World.cell?_alloc_lt _ _ _ (World.block_lt_of_cell? _ _ hHeld.2)).trans hHeld.2⟩ (fun hHeld => ?_)
            clear hK K
            refine norm_ (a' := ?_) ?_ ?_
            rotate_left
            · show Act.put _ (some 122) _ = _
              simp only [Act.put, List.setIfInBounds_toArray, List.set_cons_zero, List.set_cons_succ]
              rfl
            refine one_ (i := 7) (N := some 123) #[true, true, true, true, true, true, true, true, false, false] rfl rfl (by kernel_rfl) (by decide) (fun K hK => ?_)
            refine Parts.appendS S.out.drew 5 rfl flat_int (by rfl) (.tmp 121) (.tmp 122) 24 (.int .i64 0) 8 rfl Try.underlying24 infoInt rfl (by decide) (by decide) 0 [.int .i64 0] rfl rfl rfl (by rw [insK_len]; have := HIL.out; omega) ?_
            intro V5 cap5 w10 h10
            have S10 := Aside0.mk h10
            clear h10 r3 i0 z3 y0
            obtain ⟨r3, z3⟩ := S10.out.cell 4 rfl 3 rfl
            obtain ⟨i0, y0⟩ := S10.out.cell 3 rfl 0 rfl
            refine hK.out _ _ ⟨r3, i0⟩ (fun hHeld => ?_)
            clear hK K
            refine norm_ (a' := ?_) ?_ ?_
            rotate_left
            · show Act.put _ (some 123) _ = _
              simp only [Act.put, List.setIfInBounds_toArray, List.set_cons_zero, List.set_cons_succ]
              rfl
            refine pure_ (i := 8) (N := some 124) (v := ?_) (a' := ?_) #[true, true, true, true, true, true, true, true, true, false] rfl rfl (by kernel_rfl) (fun _ _ _ h => h) (Or.inl ⟨by rfl, ?_⟩) ?_ ?_
            rotate_left
            · intro w'
              go_simp
              with_reducible rfl
            rotate_left
            · simp only [Act.put, List.setIfInBounds_toArray, List.set_cons_zero, List.set_cons_succ]
              rfl
            refine last_ (i := 9) (N := none) #[true, true, true, true, true, true, true, true, true, true] rfl rfl (by kernel_rfl) (by decide) (fun K hK => ?_)
            refine skip_ (w1 := ?_) (by rfl) rfl ?_ ?_
            rotate_left
            · go_simp
              rfl
            refine hK.out _ _ ?_
            clear hK K
            refine done_ (by kernel_rfl) ?_
            have S11 := Aside0.mk (S10.out.put 3 rfl 0 (.slice V5 ((insK t i).length + 1) cap5) rfl)
            clear r3 i0 z3 y0 S10
            clear cN fN hlk
            go_wp2
            go_roundg (n0 + c.f1.length - (i + 1))
            case measure => have := HK.out; have := HKA.out; omega
            case rel => exact ⟨i + 1, 0, x + 1, (V5, cap5), vF, vL, vOL, val_eq (wrap_in (by have := HX.out; omega) (by have := HX.out; have := HIL.out; omega)), ⟨by have := HX.out; omega⟩, ⟨HKA.out, by omega, by omega, by omega⟩, ⟨by
              have h_ := S11.out
              have hb_ := HB.out
              rw [show 1 + i + 0 = i + 1 by omega] at hb_
              have e1 : insK t (i + 1) = insK t i ++ [0] := by rw [insK_succ, HT0.out _ hb_]
              have e2 : cntK is (i + 1) = cntK is i := by rw [cntK_succ, if_neg (by rw [hb_]; decide)]; rfl
              rw [e1, e2]
              unfold passPs
              rw [List.length_append, List.length_singleton]
              exact h_⟩⟩
        · by_cases hB : l < c.f1.length
          · have hi0 : i = n0 := by have := HK.out; omega
            subst hi0
            have hd1 : decide (x < c.f0 + 1) = false := decide_eq_false (by have := HN0.out; have := HX.out; omega)
            have hd2 : decide (x < c.f0 + (c.f1.length : Int) + 1) = true := decide_eq_true (by have := HN0.out; have := HX.out; omega)
            have HKB := Aside0.mk hB
            have hrs := resets_ok HC.out _ (List.getElem_mem hB)
            have hgl := List.getElem?_eq_getElem hB
            have HGL := Aside0.mk hgl
            obtain ⟨ad2, e2, hy0, hy1⟩ := at_latch HH.out.s1.r l hB
            cases e2
            have hx0 := (S.out.B.cell (World.block_lt_of_cell? _ _ hy0)).trans hy0
            have hx1 := (S.out.B.cell (World.block_lt_of_cell? _ _ hy1)).trans hy1
            have HGA := Aside0.mk (hin.out.hl (c.f0.toNat + 1 + l) (c.f1[l]).f0 (by
              unfold latReads
              rw [if_pos (by omega), show c.f0.toNat + 1 + l - (c.f0.toNat + 1) = l by omega, hgl]; simp))
            have hxb1 : 0 ≤ x := by have := HX.out; omega
            have hxb2 : x ≤ 1001 := by have := HX.out; have := HSZ.out; have := HN.out; omega
            have hw2 : x - (c.f0 + 1) = (l : Int) := by have := HX.out; have := HN0.out; omega
            have hw3 : wrap64 (x - (c.f0 + 1)) = (l : Int) := by rw [hw2, wrap_in (by omega) (by omega)]
            have HRS := Aside0.mk hrs
            have HLL := Aside0.mk (show l ≤ 1000 by have := HSZ.out; have := HN.out; omega)
            obtain ⟨c0, c1, c2, c3, c4⟩ := blk5 (S.out.blk 12 rfl)
            clear hy0 hy1 hgl hrs
            generalize c.f1[l] = gt at *
            cases b with
            | true =>
              have HLN := Aside0.mk (show lasI c is l = some (2 * x) by
                unfold lasI
                rw [if_pos (by have h_ := HB.out; rw [HTN.out, show i + 1 + l = 1 + i + l by omega, h_]), show 2 * (c.f0 + 1 + (l : Int)) = 2 * x by have := HX.out; have := HN0.out; omega])
              have HTN2 := Aside0.mk (show latI c is t l = some ⟨plc t gt.f0, gt.f1⟩ by
                unfold latI
                rw [if_pos (by have h_ := HB.out; rw [HTN.out, show i + 1 + l = 1 + i + l by omega, h_]), HGL.out]; rfl)
              have HFI := Aside0.mk (show firI c is t l = y by
                unfold firI
                rw [if_pos (by have h_ := HB.out; rw [HTN.out, show i + 1 + l = 1 + i + l by omega, h_]), HTN.out, show i + 1 + l = 1 + i + l by omega, HY.out])
              have S1 := Aside0.mk (S.out.new 49 #[.int .i64 gt.f0, .int .i64 gt.f1])
              go_upto_region 29 with (fail)
              clear c0 c1 c2 c3 c4 hx0 hx1 cN fN hlk
              generalize wr.heap.size = gX at *
              generalize wr.alloc (.cells #[.int .i64 gt.f0, .int .i64 gt.f1] 49) = w8 at *
              obtain ⟨r2, z2⟩ := S1.out.cell 5 rfl 2 rfl
              go_upto_region 30 with (first | (at_builtin; refine Parts.appendL S1.out 7 rfl flat_int rfl (.tmp 135) (.tmp 138) 24 (.int .i64 0) 8 rfl Try.underlying24 infoInt rfl (by decide) (by decide) y [.int .i64 y] rfl rfl rfl (by rw [firK_len]; have := HLL.out; omega) ?_; intro V5 cap5 w10 h10; have S10 := Aside0.mk h10; clear h10 r2 z2; obtain ⟨r2, z2⟩ := S10.out.cell 5 rfl 2 rfl))
              have S11 := Aside0.mk (S10.out.put 5 rfl 2 (.slice V5 ((firK c is t l).length + 1) cap5) rfl)
              clear r2 z2 S10 S1
              generalize w10.setCell ⟨gU, 2, none⟩ (.slice V5 ((firK c is t l).length + 1) cap5) = w11 at *
              obtain ⟨r4, z4⟩ := S11.out.cell 5 rfl 4 rfl
              go_upto_region 31 with (first | (at_builtin; refine Parts.appendL S11.out 8 rfl flat_int rfl (.tmp 142) (.tmp 145) 24 (.int .i64 0) 8 rfl Try.underlying24 infoInt rfl (by decide) (by decide) (2 * x) [.int .i64 (2 * x)] rfl rfl rfl (by have := lasK_len (c := c) (is := is) (k := l); have := HLL.out; omega) ?_; intro V6 cap6 w12 h12; have S12 := Aside0.mk h12; clear h12 r4 z4; obtain ⟨r4, z4⟩ := S12.out.cell 5 rfl 4 rfl))
              have S13 := Aside0.mk (S12.out.put 5 rfl 4 (.slice V6 ((lasK c is l).length + 1) cap6) rfl)
              clear r4 z4 S12 S11
              generalize w12.setCell ⟨gU, 4, none⟩ (.slice V6 ((lasK c is l).length + 1) cap6) = w13 at *
              obtain ⟨r1, z1⟩ := S13.out.cell 3 rfl 1 rfl
              obtain ⟨x0, q0⟩ := S13.out.cell 0 rfl 0 rfl
              obtain ⟨x1, q1⟩ := S13.out.cell 0 rfl 1 rfl
              go_wp2
              refine start_ (n := 13) (S := (fun w' => w'.cell? ⟨gO, 1, none⟩ = some (.slice vOL.1 (latK c is t l).length vOL.2) ∧ w'.cell? ⟨gX, 0, none⟩ = some (.int .i64 gt.f0) ∧ w'.cell? ⟨gX, 1, none⟩ = some (.int .i64 gt.f1))) (ds := [12]) #[false, false, false, false, false, false, false, false, false, false, false, false, false] (by kernel_rfl) rfl rfl ⟨r1, x0, x1⟩ (fun hHeld => ?_)
              refine pure_ (i := 0) (N := some 148) (v := ?_) (a' := ?_) #[true, false, false, false, false, false, false, false, false, false, false, false, false] rfl rfl (by kernel_rfl) (fun _ _ _ h => h) (Or.inl ⟨by rfl, ?_⟩) ?_ ?_
              rotate_left
              · intro w'
                go_simp
                with_reducible rfl
              rotate_left
              · simp only [Act.put, List.setIfInBounds_toArray, List.set_cons_zero, List.set_cons_succ]
                rfl
              refine pure_ (i := 2) (N := some 150) (v := ?_) (a' := ?_) #[true, false, true, false, false, false, false, false, false, false, false, false, false] rfl rfl (by kernel_rfl) (fun _ _ _ h => h) (Or.inl ⟨by rfl, ?_⟩) ?_ ?_
              rotate_left
              · intro w'
                go_simp
                with_reducible rfl
              rotate_left
              · simp only [Act.put, List.setIfInBounds_toArray, List.set_cons_zero, List.set_cons_succ]
                rfl
              refine pure_ (i := 3) (N := some 151) (v := ?_) (a' := ?_) #[true, false, true, true, false, false, false, false, false, false, false, false, false] rfl rfl (by kernel_rfl) (fun _ _ _ h => h) (Or.inl ⟨by rfl, ?_⟩) ?_ ?_
              rotate_left
              · intro w'
                go_simp
                with_reducible rfl
              rotate_left
              · simp only [Act.put, List.setIfInBounds_toArray, List.set_cons_zero, List.set_cons_succ]
                rfl
              refine pure_ (i := 6) (N := some 154) (v := ?_) (a' := ?_) #[true, false, true, true, false, false, true, false, false, false, false, false, false] rfl rfl (by kernel_rfl) (fun _ _ _ h => h) (Or.inl ⟨by rfl, ?_⟩) ?_ ?_
              rotate_left
              · intro w'
                go_simp
                with_reducible rfl
              rotate_left
              · simp only [Act.put, List.setIfInBounds_toArray, List.set_cons_zero, List.set_cons_succ]
                rfl
              refine take_ (i := 1) (N := some 149) (v := ?_) (a' := ?_) #[true, true, true, true, false, false, true, false, false, false, false, false, false] rfl rfl (by kernel_rfl) (fun _ _ _ h => h) (Or.inl ⟨by rfl, ?_⟩) hHeld ?_ ?_
              rotate_left
              · rintro w' ⟨s0, s1, s2⟩
                go_simp
                with_reducible rfl
              rotate_left
              · simp only [Act.put, List.setIfInBounds_toArray, List.set_cons_zero, List.set_cons_succ]
                rfl
              refine take_ (i := 4) (N := some 152) (v := ?_) (a' := ?_) #[true, true, true, true, true, false, true, false, false, false, false, false, false] rfl rfl (by kernel_rfl) (fun _ _ _ h => h) (Or.inl ⟨by rfl, ?_⟩) hHeld ?_ ?_
              rotate_left
              · rintro w' ⟨s0, s1, s2⟩
                go_simp
                with_reducible rfl
              rotate_left
              · simp only [Act.put, List.setIfInBounds_toArray, List.set_cons_zero, List.set_cons_succ]
                rfl
              refine take_ (i := 7) (N := some 155) (v := ?_) (a' := ?_) #[true, true, true, true, true, false, true, true, false, false, false, false, false] rfl rfl (by kernel_rfl) (fun _ _ _ h => h) (Or.inl ⟨by rfl, ?_⟩) hHeld ?_ ?_
              rotate_left
              · rintro w' ⟨s0, s1, s2⟩
                go_simp
                with_reducible rfl
              rotate_left
              · simp only [Act.put, List.setIfInBounds_toArray, List.set_cons_zero, List.set_cons_succ]
                rfl
              refine one_ (i := 5) (N := some 153) #[true, true, true, true, true, true, true, true, false, false, false, false, false] rfl rfl (by kernel_rfl) (by decide) (fun K hK => ?_)
              refine call_ 34 #[.int .i64 gt.f0, .pointer (some ⟨gN, 0, none⟩)] (by rfl) rfl ?hrun1 ?_
              case hrun1 => go_simp
              refine (HCO.out nm gt.f0 _ (S13.out.drew.cell 2 rfl 0 rfl).1 (S13.out.drew.hP 1 _ rfl) HGA.out.1 (by have h1 := HGA.out.2; unfold varOf at h1; have := HN.out; have := HGA.out.1; omega)).mono ?_
              rintro e w14 ⟨rfl, hb_⟩
              refine ⟨_, rfl, ?_⟩
              have S14 := Aside0.mk (S13.out.drew.below hb_)
              clear hb_
              refine hK.out _ _ ⟨(S14.out.cell 3 rfl 1 rfl).1, (S14.out.cell 0 rfl 0 rfl).1, (S14.out.cell 0 rfl 1 rfl).1⟩ (fun hHeld => ?_)
              clear hK K
              refine norm_ (a' := ?_) ?_ ?_
              rotate_left
              · show Act.put _ (some 153) _ = _
                simp only [Act.put, List.setIfInBounds_toArray, List.set_cons_zero, List.set_cons_succ]
                rfl
              refine pure_ (i := 8) (N := some 156) (v := ?_) (a' := ?_) #[true, true, true, true, true, true, true, true, true, false, false, false, false] rfl rfl (by kernel_rfl) (fun _ _ _ h => h) (Or.inl ⟨by rfl, ?_⟩) ?_ ?_
              rotate_left
              · intro w'
                go_simp
                with_reducible rfl
              rotate_left
              · simp only [Act.put, List.setIfInBounds_toArray, List.set_cons_zero, List.set_cons_succ]
                rfl
              refine one_ (i := 9) (N := some 157) #[true, true, true, true, true, true, true, true, true, true, false, false, false] rfl rfl (by kernel_rfl) (by decide) (fun K hK => ?_)
              refine value_ (w1 := ?_) (v := ?_) (by rfl) rfl ?_ ?_
              rotate_left 2
              · go_simp
                constructor
                · rfl
                · rfl
              refine hK.out _ _ ⟨(World.cell?_alloc_lt _ _ _ (World.block_lt_of_cell? _ _ hHeld.1)).trans hHeld.1, (World.cell?_alloc_lt _ _ _ (World.block_lt_of_cell? _ _ hHeld.2.1)).trans hHeld.2.1, (World.cell?_alloc_lt _ _ _ (World.block_lt_of_cell? _ _ hHeld.2.2)).trans hHeld.2.2⟩ (fun hHeld => ?_)
              clear hK K
              refine norm_ (a' := ?_) ?_ ?_
              rotate_left
              · show Act.put _ (some 157) _ = _
                simp only [Act.put, List.setIfInBounds_toArray, List.set_cons_zero, List.set_cons_succ]
                rfl
              refine one_ (i := 10) (N := some 158) #[true, true, true, true, true, true, true, true, true, true, true, false, false] rfl rfl (by kernel_rfl) (by decide) (fun K hK => ?_)
              refine Parts.appendS S14.out 9 rfl flat_latch (by rfl) (.tmp 149) (.tmp 157) 22 (.agg #[.int .i64 0, .int .i64 0]) 16 rfl Try.underlying22 infoLatchC rfl (by decide) (by decide) ⟨plc t gt.f0, gt.f1⟩ [.int .i64 (plc t gt.f0), .int .i64 gt.f1] rfl rfl (kLatch_mkM _ _ _ _) (by have := latK_len (c := c) (is := is) (t := t) (k := l); have := HLL.out; omega) ?_
              intro V7 cap7 w15 h15
              have S15 := Aside0.mk h15
              clear h15 r1 z1 x0 q0 x1 q1
              obtain ⟨r1, z1⟩ := S15.out.cell 3 rfl 1 rfl
              obtain ⟨x0, q0⟩ := S15.out.cell 0 rfl 0 rfl
              obtain ⟨x1, q1⟩ := S15.out.cell 0 rfl 1 rfl
              refine hK.out _ _ ⟨r1, x0, x1⟩ (fun hHeld => ?_)
              clear hK K
              refine norm_ (a' := ?_) ?_ ?_
              rotate_left
              · show Act.put _ (some 158) _ = _
                simp only [Act.put, List.setIfInBounds_toArray, List.set_cons_zero, List.set_cons_succ]
                rfl
              refine pure_ (i := 11) (N := some 159) (v := ?_) (a' := ?_) #[true, true, true, true, true, true, true, true, true, true, true, true, false] rfl rfl (by kernel_rfl) (fun _ _ _ h => h) (Or.inl ⟨by rfl, ?_⟩) ?_ ?_
              rotate_left
              · intro w'
                go_simp
                with_reducible rfl
              rotate_left
              · simp only [Act.put, List.setIfInBounds_toArray, List.set_cons_zero, List.set_cons_succ]
                rfl
              refine last_ (i := 12) (N := none) #[true, true, true, true, true, true, true, true, true, true, true, true, true] rfl rfl (by kernel_rfl) (by decide) (fun K hK => ?_)
              refine skip_ (w1 := ?_) (by rfl) rfl ?_ ?_
              rotate_left
              · go_simp
                rfl
              refine hK.out _ _ ?_
              clear hK K
              refine done_ (by kernel_rfl) ?_
              have S16 := Aside0.mk ((S15.out.put 3 rfl 1 (.slice V7 ((latK c is t l).length + 1) cap7) rfl).tail)
              clear r1 z1 x0 q0 x1 q1 S15 S14 S13
              go_wp2
              go_roundg (i + c.f1.length - (i + (l + 1)))
              case measure => have := HK.out; have := HKB.out; omega
              case rel => exact ⟨i, l + 1, x + 1, vI, (V5, cap5), (V6, cap6), (V7, cap7), rfl, ⟨by have := HX.out; push_cast; omega⟩, ⟨Nat.le_refl _, HKB.out, fun _ => rfl, Nat.le_refl _⟩, ⟨by
                  have h_ := S16.out
                  have e1 : firK c is t (l + 1) = firK c is t l ++ [y] := by rw [firK_succ, HFI.out]
                  have e2 : lasK c is (l + 1) = lasK c is l ++ [2 * x] := by rw [lasK_succ, HLN.out]; rfl
                  have e3 : latK c is t (l + 1) = latK c is t l ++ [⟨plc t gt.f0, gt.f1⟩] := by rw [latK_succ, HTN2.out]; rfl
                  rw [e1, e2, e3]
                  unfold passPs
                  simp only [List.length_append, List.length_singleton]
                  exact h_⟩⟩
            | false =>
              obtain ⟨r2, z2⟩ := S.out.cell 4 rfl 2 rfl
              have HFI := Aside0.mk (show firI c is t l = gt.f1 % 2 by
                unfold firI
                rw [if_neg (by have h_ := HB.out; rw [HTN.out, show i + 1 + l = 1 + i + l by omega, h_]; decide), HGL.out]; rfl)
              have HLN := Aside0.mk (show lasI c is l = none by
                unfold lasI
                rw [if_neg (by have h_ := HB.out; rw [HTN.out, show i + 1 + l = 1 + i + l by omega, h_]; decide)])
              have HTN2 := Aside0.mk (show latI c is t l = none by
                unfold latI
                rw [if_neg (by have h_ := HB.out; rw [HTN.out, show i + 1 + l = 1 + i + l by omega, h_]; decide)])
              by_cases hz : gt.f1 = 1
              · have hzd : (gt.f1 == 1) = true := beq_iff_eq.mpr hz
                have HF1 := Aside0.mk (show firI c is t l = 1 by rw [HFI.out]; rw [hz]; rfl)
                clear hz
                go_wp2_with (first | (at_builtin; refine Parts.appendL S.out 6 rfl flat_int rfl (.tmp 85) (.tmp 87) 24 (.int .i64 0) 8 rfl Try.underlying24 infoInt rfl (by decide) (by decide) 1 [.int .i64 1] rfl rfl rfl (by rw [firK_len]; have := HLL.out; omega) ?_; intro V5 cap5 w10 h10; have S10 := Aside0.mk h10; clear h10 r2 z2; obtain ⟨r2, z2⟩ := S10.out.cell 4 rfl 2 rfl))
                have S11 := Aside0.mk (S10.out.put 4 rfl 2 (.slice V5 ((firK c is t l).length + 1) cap5) rfl)
                go_roundg (i + c.f1.length - (i + (l + 1)))
                case measure => have := HK.out; have := HKB.out; omega
                case rel => exact ⟨i, l + 1, x + 1, vI, (V5, cap5), vL, vOL, rfl, ⟨by have := HX.out; push_cast; omega⟩, ⟨Nat.le_refl _, HKB.out, fun _ => rfl, Nat.le_refl _⟩, ⟨by
                  have h_ := S11.out
                  have e1 : firK c is t (l + 1) = firK c is t l ++ [1] := by rw [firK_succ, HF1.out]
                  have e2 : lasK c is (l + 1) = lasK c is l := by rw [lasK_succ, HLN.out]; exact List.append_nil _
                  have e3 : latK c is t (l + 1) = latK c is t l := by rw [latK_succ, HTN2.out]; exact List.append_nil _
                  rw [e1, e2, e3]
                  unfold passPs
                  rw [List.length_append, List.length_singleton]
                  exact h_⟩⟩
              · have hzd : (gt.f1 == 1) = false := beq_eq_false_iff_ne.mpr hz
                have HF1 := Aside0.mk (show firI c is t l = 0 by rw [HFI.out]; have := HRS.out; omega)
                clear hz
                go_wp2_with (first | (at_builtin; refine Parts.appendL S.out 6 rfl flat_int rfl (.tmp 85) (.tmp 87) 24 (.int .i64 0) 8 rfl Try.underlying24 infoInt rfl (by decide) (by decide) 0 [.int .i64 0] rfl rfl rfl (by rw [firK_len]; have := HLL.out; omega) ?_; intro V5 cap5 w10 h10; have S10 := Aside0.mk h10; clear h10 r2 z2; obtain ⟨r2, z2⟩ := S10.out.cell 4 rfl 2 rfl))
                have S11 := Aside0.mk (S10.out.put 4 rfl 2 (.slice V5 ((firK c is t l).length + 1) cap5) rfl)
                go_roundg (i + c.f1.length - (i + (l + 1)))
                case measure => have := HK.out; have := HKB.out; omega
                case rel => exact ⟨i, l + 1, x + 1, vI, (V5, cap5), vL, vOL, rfl, ⟨by have := HX.out; push_cast; omega⟩, ⟨Nat.le_refl _, HKB.out, fun _ => rfl, Nat.le_refl _⟩, ⟨by
                  have h_ := S11.out
                  have e1 : firK c is t (l + 1) = firK c is t l ++ [0] := by rw [firK_succ, HF1.out]
                  have e2 : lasK c is (l + 1) = lasK c is l := by rw [lasK_succ, HLN.out]; exact List.append_nil _
                  have e3 : latK c is t (l + 1) = latK c is t l := by rw [latK_succ, HTN2.out]; exact List.append_nil _
                  rw [e1, e2, e3]
                  unfold passPs
                  rw [List.length_append, List.length_singleton]
                  exact h_⟩⟩
          · have hi0 : i = n0 := by have := HK.out; omega
            have hl0 : l = c.f1.length := by have := HK.out; omega
            subst hl0
            have hd2 : decide (x < c.f0 + (c.f1.length : Int) + 1) = false := decide_eq_false (by have := HN0.out; have := HX.out; omega)
            rw [hi0] at S
            clear HK HX HNT HY HB hlk cN fN hA hB hi0
            obtain ⟨c0, c1, c2, c3, c4⟩ := blk5 (S.out.blk 12 rfl)
            go_wp2
            clear hd2 c0 c1 c2 c3 c4
            go_loopg [163] c.f2.length (fun gg s163 wr => ∃ (k : Nat) (vOA : Option Addr × Nat), s163 = .int .i64 k ∧ Aside0 (k ≤ c.f2.length ∧ c.f2.length - k ≤ gg) ∧
              Aside0 (Parts w.heap.size w wr (passPs w.heap.size gN B gO gI gU w.heap.size (w.heap.size + 1) nm #[.int .i64 c.f0, .slice A1 c.f1.length k1, .slice A2 c.f2.length k2, .slice A3 c.f3.length k3, .slice A4 c.f4.length k4] (numF is) (cntK is n0) vI vF vL vOL vOA (none, 0) (none, 0) (insK t n0) (firK c is t c.f1.length) (lasK c is c.f1.length) (latK c is t c.f1.length) (andK c is t k) [] [])))
            case atStart => exact ⟨0, (none, 0), rfl, ⟨by omega, by omega⟩, S⟩
            case round =>
              clear S
              obtain ⟨k, vOA, rfl, HK, S⟩ := hrel
              by_cases hlt : k < c.f2.length
              · obtain ⟨num, hnum⟩ : ∃ num, (numF is (c.f0 + (c.f1.length : Int) + 1 + (k : Int))).getD 0 = num := ⟨_, rfl⟩
                obtain ⟨b, hb⟩ : ∃ b, is.getD (n0 + c.f1.length + 1 + k) false = b := ⟨_, rfl⟩
                have hbk : k ≤ 1000 := by have := HSZ.out; have := HN.out; omega
                have hlk : ∀ W : World, Parts w.heap.size w W (pB wr.heap.size 51 #[.int .i64 (c.f2[k]).f0, .int .i64 (c.f2[k]).f1] :: passPs w.heap.size gN B gO gI gU w.heap.size (w.heap.size + 1) nm #[.int .i64 c.f0, .slice A1 c.f1.length k1, .slice A2 c.f2.length k2, .slice A3 c.f3.length k3, .slice A4 c.f4.length k4] (numF is) (cntK is n0) vI vF vL vOL vOA (none, 0) (none, 0) (insK t n0) (firK c is t c.f1.length) (lasK c is c.f1.length) (latK c is t c.f1.length) (andK c is t k) [] []) →
                    (Instr.lookup 80 (.map (some B)) (.int .i64 (c.f0 + (c.f1.length : Int) + 1 + (k : Int))) true).run Try.prog W = .ok (.tuple #[.int .i64 num, .bool b]) W := fun W hW => by
                  have h_ := (show MapI yI 3 W B nm (numF is) from hW.hP 1 _ rfl).look2 Try.underlying80 Try.underlying3 (zeroInt W) (k := c.f0 + (c.f1.length : Int) + 1 + (k : Int)) (show I64 _ from ⟨by have := HN0.out; omega, by have := HN0.out; have := HSZ.out; have := HN.out; omega⟩)
                  have e_ : c.f0 + (c.f1.length : Int) + 1 + (k : Int) = ((n0 + c.f1.length + 1 + k : Nat) : Int) := by have := HN0.out; push_cast; omega
                  rw [hnum, e_, HNS.out _ (by omega), hb] at h_
                  rw [e_]
                  exact h_
                obtain ⟨ad2, e2, hy0, hy1⟩ := at_gate HH.out.s2.r k hlt
                have HB := Aside0.mk hb
                have HKK := Aside0.mk hlt
                have HGL := Aside0.mk (List.getElem?_eq_getElem hlt)
                have hgr : gateReads c (n0 + c.f1.length + 1 + k) = [(c.f2[k]).f0, (c.f2[k]).f1] := by
                  unfold gateReads
                  rw [if_pos (by have := HTN.out; omega), show n0 + c.f1.length + 1 + k - (c.f0.toNat + c.f1.length + 1) = k by have := HTN.out; omega, List.getElem?_eq_getElem hlt]; rfl
                have HGA := Aside0.mk (hin.out.hg (n0 + c.f1.length + 1 + k) (c.f2[k]).f0 (by rw [hgr]; simp))
                have HGB := Aside0.mk (hin.out.hg (n0 + c.f1.length + 1 + k) (c.f2[k]).f1 (by rw [hgr]; simp))
                cases e2
                have hx0 := (S.out.B.cell (World.block_lt_of_cell? _ _ hy0)).trans hy0
                have hx1 := (S.out.B.cell (World.block_lt_of_cell? _ _ hy1)).trans hy1
                have S1 := Aside0.mk (S.out.new 51 #[.int .i64 (c.f2[k]).f0, .int .i64 (c.f2[k]).f1])
                clear hnum hb hgr hy0 hy1
                generalize c.f2[k] = gt at *
                go_upto_region 35 with (fail)
                clear hx0 hx1
                have HLK := Aside0.mk (hlk _ S1.out)
                clear hlk
                generalize wr.heap.size = gX at *
                generalize wr.alloc (.cells #[.int .i64 gt.f0, .int .i64 gt.f1] 51) = w8 at *
                have hlk2 := HLK.out
                obtain ⟨cN, fN⟩ := S1.out.cell 2 rfl 0 rfl
                cases b with
                | false =>
                  have HAI := Aside0.mk (show andI c is t k = none by
                    unfold andI
                    rw [if_neg (by have h_ := HB.out; rw [HTN.out, h_]; decide)])
                  have S2 := Aside0.mk S1.out.tail
                  go_wp2
                  go_roundg (c.f2.length - (k + 1))
                  case measure => have := HK.out; have := HKK.out; omega
                  case rel => exact ⟨k + 1, vOA, rfl, ⟨HKK.out, by have := HK.out; omega⟩, ⟨by
                    have e1 : andK c is t (k + 1) = andK c is t k := by rw [andK_succ, HAI.out]; exact List.append_nil _
                    rw [e1]; exact S2.out⟩⟩
                | true =>
                  have HAI := Aside0.mk (show andI c is t k = some ⟨plc t gt.f0, plc t gt.f1⟩ by
                    unfold andI
                    rw [if_pos (by have h_ := HB.out; rw [HTN.out, h_]), HGL.out]; rfl)
                  go_upto_region 37 with (fail)
                  clear cN fN hlk2 HLK
                  obtain ⟨r1, z1⟩ := S1.out.cell 3 rfl 2 rfl
                  obtain ⟨x0, q0⟩ := S1.out.cell 0 rfl 0 rfl
                  obtain ⟨x1, q1⟩ := S1.out.cell 0 rfl 1 rfl
                  go_wp2
                  refine start_ (n := 15) (S := (fun w' => w'.cell? ⟨gO, 2, none⟩ = some (.slice vOA.1 (andK c is t k).length vOA.2) ∧ w'.cell? ⟨gX, 0, none⟩ = some (.int .i64 gt.f0) ∧ w'.cell? ⟨gX, 1, none⟩ = some (.int .i64 gt.f1))) (ds := [14]) #[false, false, false, false, false, false, false, false, false, false, false, false, false, false, false] (by kernel_rfl) rfl rfl ⟨r1, x0, x1⟩ (fun hHeld => ?_)
                  refine pure_ (i := 0) (N := some 177) (v := ?_) (a' := ?_) #[true, false, false, false, false, false, false, false, false, false, false, false, false, false, false] rfl rfl (by kernel_rfl) (fun _ _ _ h => h) (Or.inl ⟨by rfl, ?_⟩) ?_ ?_
                  rotate_left
                  · intro w'
                    go_simp
                    with_reducible rfl
                  rotate_left
                  · simp only [Act.put, List.setIfInBounds_toArray, List.set_cons_zero, List.set_cons_succ]
                    rfl
                  refine pure_ (i := 2) (N := some 179) (v := ?_) (a' := ?_) #[true, false, true, false, false, false, false, false, false, false, false, false, false, false, false] rfl rfl (by kernel_rfl) (fun _ _ _ h => h) (Or.inl ⟨by rfl, ?_⟩) ?_ ?_
                  rotate_left
                  · intro w'
                    go_simp
                    with_reducible rfl
                  rotate_left
                  · simp only [Act.put, List.setIfInBounds_toArray, List.set_cons_zero, List.set_cons_succ]
                    rfl
                  refine pure_ (i := 3) (N := some 180) (v := ?_) (a' := ?_) #[true, false, true, true, false, false, false, false, false, false, false, false, false, false, false] rfl rfl (by kernel_rfl) (fun _ _ _ h => h) (Or.inl ⟨by rfl, ?_⟩) ?_ ?_
                  rotate_left
                  · intro w'
                    go_simp
                    with_reducible rfl
                  rotate_left
                  · simp only [Act.put, List.setIfInBounds_toArray, List.set_cons_zero, List.set_cons_succ]
                    rfl
                  refine pure_ (i := 6) (N := some 183) (v := ?_) (a' := ?_) #[true, false, true, true, false, false, true, false, false, false, false, false, false, false, false] rfl rfl (by kernel_rfl) (fun _ _ _ h => h) (Or.inl ⟨by rfl, ?_⟩) ?_ ?_
                  rotate_left
                  · intro w'
                    go_simp
                    with_reducible rfl
                  rotate_left
                  · simp only [Act.put, List.setIfInBounds_toArray, List.set_cons_zero, List.set_cons_succ]
                    rfl
                  refine pure_ (i := 7) (N := some 184) (v := ?_) (a' := ?_) #[true, false, true, true, false, false, true, true, false, false, false, false, false, false, false] rfl rfl (by kernel_rfl) (fun _ _ _ h => h) (Or.inl ⟨by rfl, ?_⟩) ?_ ?_
                  rotate_left
                  · intro w'
                    go_simp
                    with_reducible rfl
                  rotate_left
                  · simp only [Act.put, List.setIfInBounds_toArray, List.set_cons_zero, List.set_cons_succ]
                    rfl
                  refine take_ (i := 1) (N := some 178) (v := ?_) (a' := ?_) #[true, true, true, true, false, false, true, true, false, false, false, false, false, false, false] rfl rfl (by kernel_rfl) (fun _ _ _ h => h) (Or.inl ⟨by rfl, ?_⟩) hHeld ?_ ?_
                  rotate_left
                  · rintro w' ⟨s0, s1, s2⟩
                    go_simp
                    with_reducible rfl
                  rotate_left
                  · simp only [Act.put, List.setIfInBounds_toArray, List.set_cons_zero, List.set_cons_succ]
                    rfl
                  refine take_ (i := 4) (N := some 181) (v := ?_) (a' := ?_) #[true, true, true, true, true, false, true, true, false, false, false, false, false, false, false] rfl rfl (by kernel_rfl) (fun _ _ _ h => h) (Or.inl ⟨by rfl, ?_⟩) hHeld ?_ ?_
                  rotate_left
                  · rintro w' ⟨s0, s1, s2⟩
                    go_simp
                    with_reducible rfl
                  rotate_left
                  · simp only [Act.put, List.setIfInBounds_toArray, List.set_cons_zero, List.set_cons_succ]
                    rfl
                  refine take_ (i := 8) (N := some 185) (v := ?_) (a' := ?_) #[true, true, true, true, true, false, true, true, true, false, false, false, false, false, false] rfl rfl (by kernel_rfl) (fun _ _ _ h => h) (Or.inl ⟨by rfl, ?_⟩) hHeld ?_ ?_
                  rotate_left
                  · rintro w' ⟨s0, s1, s2⟩
                    go_simp
                    with_reducible rfl
                  rotate_left
                  · simp only [Act.put, List.setIfInBounds_toArray, List.set_cons_zero, List.set_cons_succ]
                    rfl
                  refine one_ (i := 5) (N := some 182) #[true, true, true, true, true, true, true, true, true, false, false, false, false, false, false] rfl rfl (by kernel_rfl) (by decide) (fun K hK => ?_)
                  refine call_ 34 #[.int .i64 gt.f0, .pointer (some ⟨gN, 0, none⟩)] (by rfl) rfl ?hrun1 ?_
                  case hrun1 => go_simp
                  refine (HCO.out nm gt.f0 _ (S1.out.drew.cell 2 rfl 0 rfl).1 (S1.out.drew.hP 1 _ rfl) HGA.out.1 (by have h1 := HGA.out.2; unfold varOf at h1; have := HN.out; have := HGA.out.1; omega)).mono ?_
                  rintro e w14 ⟨rfl, hb_⟩
                  refine ⟨_, rfl, ?_⟩
                  have S14 := Aside0.mk (S1.out.drew.below hb_)
                  clear hb_
                  refine hK.out _ _ ⟨(S14.out.cell 3 rfl 2 rfl).1, (S14.out.cell 0 rfl 0 rfl).1, (S14.out.cell 0 rfl 1 rfl).1⟩ (fun hHeld => ?_)
                  clear hK K
                  refine norm_ (a' := ?_) ?_ ?_
                  rotate_left
                  · show Act.put _ (some 182) _ = _
                    simp only [Act.put, List.setIfInBounds_toArray, List.set_cons_zero, List.set_cons_succ]
                    rfl
                  refine one_ (i := 9) (N := some 186) #[true, true, true, true, true, true, true, true, true, true, false, false, false, false, false] rfl rfl (by kernel_rfl) (by decide) (fun K hK => ?_)
                  refine call_ 34 #[.int .i64 gt.f1, .pointer (some ⟨gN, 0, none⟩)] (by rfl) rfl ?hrun2 ?_
                  case hrun2 => go_simp
                  refine (HCO.out nm gt.f1 _ (S14.out.cell 2 rfl 0 rfl).1 (S14.out.hP 1 _ rfl) HGB.out.1 (by have h1 := HGB.out.2; unfold varOf at h1; have := HN.out; have := HGB.out.1; omega)).mono ?_
                  rintro e w15 ⟨rfl, hb_⟩
                  refine ⟨_, rfl, ?_⟩
                  have S15 := Aside0.mk (S14.out.below hb_)
                  clear hb_
                  refine hK.out _ _ ⟨(S15.out.cell 3 rfl 2 rfl).1, (S15.out.cell 0 rfl 0 rfl).1, (S15.out.cell 0 rfl 1 rfl).1⟩ (fun hHeld => ?_)
                  clear hK K
                  refine norm_ (a' := ?_) ?_ ?_
                  rotate_left
                  · show Act.put _ (some 186) _ = _
                    simp only [Act.put, List.setIfInBounds_toArray, List.set_cons_zero, List.set_cons_succ]
                    rfl
                  refine pure_ (i := 10) (N := some 187) (v := ?_) (a' := ?_) #[true, true, true, true, true, true, true, true, true, true, true, false, false, false, false] rfl rfl (by kernel_rfl) (fun _ _ _ h => h) (Or.inl ⟨by rfl, ?_⟩) ?_ ?_
                  rotate_left
                  · intro w'
                    go_simp
                    with_reducible rfl
                  rotate_left
                  · simp only [Act.put, List.setIfInBounds_toArray, List.set_cons_zero, List.set_cons_succ]
                    rfl
                  refine one_ (i := 11) (N := some 188) #[true, true, true, true, true, true, true, true, true, true, true, true, false, false, false] rfl rfl (by kernel_rfl) (by decide) (fun K hK => ?_)
                  refine value_ (w1 := ?_) (v := ?_) (by rfl) rfl ?_ ?_
                  rotate_left 2
                  · go_simp
                    constructor
                    · rfl
                    · rfl
                  refine hK.out _ _ ⟨(World.cell?_alloc_lt _ _ _ (World.block_lt_of_cell? _ _ hHeld.1)).trans hHeld.1, (World.cell?_alloc_lt _ _ _ (World.block_lt_of_cell? _ _ hHeld.2.1)).trans hHeld.2.1, (World.cell?_alloc_lt _ _ _ (World.block_lt_of_cell? _ _ hHeld.2.2)).trans hHeld.2.2⟩ (fun hHeld => ?_)
                  clear hK K
                  refine norm_ (a' := ?_) ?_ ?_
                  rotate_left
                  · show Act.put _ (some 188) _ = _
                    simp only [Act.put, List.setIfInBounds_toArray, List.set_cons_zero, List.set_cons_succ]
                    rfl
                  refine one_ (i := 12) (N := some 189) #[true, true, true, true, true, true, true, true, true, true, true, true, true, false, false] rfl rfl (by kernel_rfl) (by decide) (fun K hK => ?_)
                  refine Parts.appendS S15.out 10 rfl flat_gate (by rfl) (.tmp 178) (.tmp 188) 23 (.agg #[.int .i64 0, .int .i64 0]) 16 rfl Try.underlying23 infoGateC rfl (by decide) (by decide) ⟨plc t gt.f0, plc t gt.f1⟩ [.int .i64 (plc t gt.f0), .int .i64 (plc t gt.f1)] rfl rfl (kGate_mkM _ _ _ _) (by have := andK_len (c := c) (is := is) (t := t) (k := k); omega) ?_
                  intro V7 cap7 w16 h16
                  have S16 := Aside0.mk h16
                  clear h16 r1 z1 x0 q0 x1 q1
                  obtain ⟨r1, z1⟩ := S16.out.cell 3 rfl 2 rfl
                  obtain ⟨x0, q0⟩ := S16.out.cell 0 rfl 0 rfl
                  obtain ⟨x1, q1⟩ := S16.out.cell 0 rfl 1 rfl
                  refine hK.out _ _ ⟨r1, x0, x1⟩ (fun hHeld => ?_)
                  clear hK K
                  refine norm_ (a' := ?_) ?_ ?_
                  rotate_left
                  · show Act.put _ (some 189) _ = _
                    simp only [Act.put, List.setIfInBounds_toArray, List.set_cons_zero, List.set_cons_succ]
                    rfl
                  refine pure_ (i := 13) (N := some 190) (v := ?_) (a' := ?_) #[true, true, true, true, true, true, true, true, true, true, true, true, true, true, false] rfl rfl (by kernel_rfl) (fun _ _ _ h => h) (Or.inl ⟨by rfl, ?_⟩) ?_ ?_
                  rotate_left
                  · intro w'
                    go_simp
                    with_reducible rfl
                  rotate_left
                  · simp only [Act.put, List.setIfInBounds_toArray, List.set_cons_zero, List.set_cons_succ]
                    rfl
                  refine last_ (i := 14) (N := none) #[true, true, true, true, true, true, true, true, true, true, true, true, true, true, true] rfl rfl (by kernel_rfl) (by decide) (fun K hK => ?_)
                  refine skip_ (w1 := ?_) (by rfl) rfl ?_ ?_
                  rotate_left
                  · go_simp
                    rfl
                  refine hK.out _ _ ?_
                  clear hK K
                  refine done_ (by kernel_rfl) ?_
                  have S17 := Aside0.mk ((S16.out.put 3 rfl 2 (.slice V7 ((andK c is t k).length + 1) cap7) rfl).tail)
                  clear r1 z1 x0 q0 x1 q1 S16 S15 S14
                  go_wp2
                  go_roundg (c.f2.length - (k + 1))
                  case measure => have := HK.out; have := HKK.out; omega
                  case rel => exact ⟨k + 1, (V7, cap7), rfl, ⟨HKK.out, by have := HK.out; omega⟩, ⟨by
                    have h_ := S17.out
                    have e1 : andK c is t (k + 1) = andK c is t k ++ [⟨plc t gt.f0, plc t gt.f1⟩] := by rw [andK_succ, HAI.out]; rfl
                    rw [e1]
                    unfold passPs
                    simp only [List.length_append, List.length_singleton]
                    exact h_⟩⟩
              · have hk : k = c.f2.length := by have := HK.out; omega
                subst hk
                clear HK hlt
                obtain ⟨c0, c1, c2, c3, c4⟩ := blk5 (S.out.blk 12 rfl)
                go_wp2
                clear c0 c1 c2 c3 c4
                go_loopg [195] c.f3.length (fun gg s195 wr => ∃ (k : Nat) (vOB : Option Addr × Nat), s195 = .int .i64 k ∧ Aside0 (k ≤ c.f3.length ∧ c.f3.length - k ≤ gg) ∧
                  Aside0 (Parts w.heap.size w wr (passPs w.heap.size gN B gO gI gU w.heap.size (w.heap.size + 1) nm #[.int .i64 c.f0, .slice A1 c.f1.length k1, .slice A2 c.f2.length k2, .slice A3 c.f3.length k3, .slice A4 c.f4.length k4] (numF is) (cntK is n0) vI vF vL vOL vOA vOB (none, 0) (insK t n0) (firK c is t c.f1.length) (lasK c is c.f1.length) (latK c is t c.f1.length) (andK c is t c.f2.length) ((c.f3.take k).map (plc t)) [])))
                case atStart => exact ⟨0, (none, 0), rfl, ⟨by omega, by omega⟩, S⟩
                case round =>
                  clear S
                  obtain ⟨k, vOB, rfl, HK, S⟩ := hrel
                  by_cases hlt : k < c.f3.length
                  ·
                    obtain ⟨ad3, e3, hy0⟩ := at_int HH.out.s3.r k hlt
                    cases e3
                    have hx0 := (S.out.B.cell (World.block_lt_of_cell? _ _ hy0)).trans hy0
                    have HP := Aside0.mk (hin.out.hp (c.f3[k]) (List.mem_append_left _ (List.getElem_mem hlt)))
                    have HKK := Aside0.mk hlt
                    have HTK := Aside0.mk (show (c.f3.take (k + 1)).map (plc t) = (c.f3.take k).map (plc t) ++ [plc t c.f3[k]] by rw [take_at hlt, List.map_append]; rfl)
                    have HBK := Aside0.mk (show k ≤ 100 by have := check_fewC HC.out; omega)
                    have HLT := Aside0.mk (show ((c.f3.take k).map (plc t)).length ≤ k by rw [List.length_map, List.length_take]; omega)
                    clear hy0
                    generalize c.f3[k] = lt at *
                    generalize (c.f3.take k).map (plc t) = ob at *
                    go_upto_region 42 with (fail)
                    clear hx0
                    obtain ⟨r1, z1⟩ := S.out.cell 2 rfl 3 rfl
                    go_wp2
                    refine start_ (n := 9) (S := (fun w' => w'.cell? ⟨gO, 3, none⟩ = some (.slice vOB.1 ob.length vOB.2))) (ds := [8]) #[false, false, false, false, false, false, false, false, false] (by kernel_rfl) rfl rfl r1 (fun hHeld => ?_)
                    refine pure_ (i := 0) (N := some 199) (v := ?_) (a' := ?_) #[true, false, false, false, false, false, false, false, false] rfl rfl (by kernel_rfl) (fun _ _ _ h => h) (Or.inl ⟨by rfl, ?_⟩) ?_ ?_
                    rotate_left
                    · intro w'
                      go_simp
                      with_reducible rfl
                    rotate_left
                    · simp only [Act.put, List.setIfInBounds_toArray, List.set_cons_zero, List.set_cons_succ]
                      rfl
                    refine pure_ (i := 2) (N := some 201) (v := ?_) (a' := ?_) #[true, false, true, false, false, false, false, false, false] rfl rfl (by kernel_rfl) (fun _ _ _ h => h) (Or.inl ⟨by rfl, ?_⟩) ?_ ?_
                    rotate_left
                    · intro w'
                      go_simp
                      with_reducible rfl
                    rotate_left
                    · simp only [Act.put, List.setIfInBounds_toArray, List.set_cons_zero, List.set_cons_succ]
                      rfl
                    refine pure_ (i := 3) (N := some 202) (v := ?_) (a' := ?_) #[true, false, true, true, false, false, false, false, false] rfl rfl (by kernel_rfl) (fun _ _ _ h => h) (Or.inl ⟨by rfl, ?_⟩) ?_ ?_
                    rotate_left
                    · intro w'
                      go_simp
                      with_reducible rfl
                    rotate_left
                    · simp only [Act.put, List.setIfInBounds_toArray, List.set_cons_zero, List.set_cons_succ]
                      rfl
                    refine take_ (i := 1) (N := some 200) (v := ?_) (a' := ?_) #[true, true, true, true, false, false, false, false, false] rfl rfl (by kernel_rfl) (fun _ _ _ h => h) (Or.inl ⟨by rfl, ?_⟩) hHeld ?_ ?_
                    rotate_left
                    · intro w' s0
                      go_simp
                      with_reducible rfl
                    rotate_left
                    · simp only [Act.put, List.setIfInBounds_toArray, List.set_cons_zero, List.set_cons_succ]
                      rfl
                    refine one_ (i := 4) (N := some 203) #[true, true, true, true, true, false, false, false, false] rfl rfl (by kernel_rfl) (by decide) (fun K hK => ?_)
                    refine call_ 34 #[.int .i64 lt, .pointer (some ⟨gN, 0, none⟩)] (by rfl) rfl ?hrun1 ?_
                    case hrun1 => go_simp
                    refine (HCO.out nm lt _ (S.out.drew.cell 1 rfl 0 rfl).1 (S.out.drew.hP 0 _ rfl) HP.out.1 (by have h1 := HP.out.2; unfold varOf at h1; have := HN.out; have := HP.out.1; omega)).mono ?_
                    rintro e w14 ⟨rfl, hb_⟩
                    refine ⟨_, rfl, ?_⟩
                    have S14 := Aside0.mk (S.out.drew.below hb_)
                    clear hb_
                    refine hK.out _ _ (S14.out.cell 2 rfl 3 rfl).1 (fun hHeld => ?_)
                    clear hK K
                    refine norm_ (a' := ?_) ?_ ?_
                    rotate_left
                    · show Act.put _ (some 203) _ = _
                      simp only [Act.put, List.setIfInBounds_toArray, List.set_cons_zero, List.set_cons_succ]
                      rfl
                    refine one_ (i := 5) (N := some 204) #[true, true, true, true, true, true, false, false, false] rfl rfl (by kernel_rfl) (by decide) (fun K hK => ?_)
                    refine value_ (w1 := ?_) (v := ?_) (by rfl) rfl ?_ ?_
                    rotate_left 2
                    · go_simp
                      constructor
                      · rfl
                      · rfl
                    refine hK.out _ _ ((World.cell?_alloc_lt _ _ _ (World.block_lt_of_cell? _ _ hHeld)).trans hHeld) (fun hHeld => ?_)
                    clear hK K
                    refine norm_ (a' := ?_) ?_ ?_
                    rotate_left
                    · show Act.put _ (some 204) _ = _
                      simp only [Act.put, List.setIfInBounds_toArray, List.set_cons_zero, List.set_cons_succ]
                      rfl
                    refine one_ (i := 6) (N := some 205) #[true, true, true, true, true, true, true, false, false] rfl rfl (by kernel_rfl) (by decide) (fun K hK => ?_)
                    refine Parts.appendS S14.out 10 rfl flat_int (by rfl) (.tmp 200) (.tmp 204) 24 (.int .i64 0) 8 rfl Try.underlying24 infoInt rfl (by decide) (by decide) (plc t lt) [.int .i64 (plc t lt)] rfl rfl rfl (by have := HLT.out; have := HBK.out; omega) ?_
                    intro V7 cap7 w16 h16
                    have S16 := Aside0.mk h16
                    clear h16 r1 z1
                    obtain ⟨r1, z1⟩ := S16.out.cell 2 rfl 3 rfl
                    refine hK.out _ _ r1 (fun hHeld => ?_)
                    clear hK K
                    refine norm_ (a' := ?_) ?_ ?_
                    rotate_left
                    · show Act.put _ (some 205) _ = _
                      simp only [Act.put, List.setIfInBounds_toArray, List.set_cons_zero, List.set_cons_succ]
                      rfl
                    refine pure_ (i := 7) (N := some 206) (v := ?_) (a' := ?_) #[true, true, true, true, true, true, true, true, false] rfl rfl (by kernel_rfl) (fun _ _ _ h => h) (Or.inl ⟨by rfl, ?_⟩) ?_ ?_
                    rotate_left
                    · intro w'
                      go_simp
                      with_reducible rfl
                    rotate_left
                    · simp only [Act.put, List.setIfInBounds_toArray, List.set_cons_zero, List.set_cons_succ]
                      rfl
                    refine last_ (i := 8) (N := none) #[true, true, true, true, true, true, true, true, true] rfl rfl (by kernel_rfl) (by decide) (fun K hK => ?_)
                    refine skip_ (w1 := ?_) (by rfl) rfl ?_ ?_
                    rotate_left
                    · go_simp
                      rfl
                    refine hK.out _ _ ?_
                    clear hK K
                    refine done_ (by kernel_rfl) ?_
                    have S17 := Aside0.mk (S16.out.put 2 rfl 3 (.slice V7 (ob.length + 1) cap7) rfl)
                    clear r1 z1 S16 S14
                    go_wp2
                    go_roundg (c.f3.length - (k + 1))
                    case measure => have := HK.out; have := HKK.out; omega
                    case rel => exact ⟨k + 1, (V7, cap7), val_step HKK.out (by have := check_fewC HC.out; omega), ⟨HKK.out, by have := HK.out; omega⟩, ⟨by
                      have h_ := S17.out
                      rw [HTK.out]
                      unfold passPs
                      simp only [List.length_append, List.length_singleton]
                      exact h_⟩⟩
                  · have hk : k = c.f3.length := by have := HK.out; omega
                    subst hk
                    rw [List.take_length] at S
                    clear HK hlt
                    obtain ⟨c0, c1, c2, c3, c4⟩ := blk5 (S.out.blk 12 rfl)
                    go_wp2
                    clear c0 c1 c2 c3 c4
                    go_loopg [211] c.f4.length (fun gg s211 wr => ∃ (k : Nat) (vOC : Option Addr × Nat), s211 = .int .i64 k ∧ Aside0 (k ≤ c.f4.length ∧ c.f4.length - k ≤ gg) ∧
                      Aside0 (Parts w.heap.size w wr (passPs w.heap.size gN B gO gI gU w.heap.size (w.heap.size + 1) nm #[.int .i64 c.f0, .slice A1 c.f1.length k1, .slice A2 c.f2.length k2, .slice A3 c.f3.length k3, .slice A4 c.f4.length k4] (numF is) (cntK is n0) vI vF vL vOL vOA vOB vOC (insK t n0) (firK c is t c.f1.length) (lasK c is c.f1.length) (latK c is t c.f1.length) (andK c is t c.f2.length) (c.f3.map (plc t)) ((c.f4.take k).map (plc t)))))
                    case atStart => exact ⟨0, (none, 0), rfl, ⟨by omega, by omega⟩, S⟩
                    case round =>
                      clear S
                      obtain ⟨k, vOC, rfl, HK, S⟩ := hrel
                      by_cases hlt : k < c.f4.length
                      · obtain ⟨ad3, e3, hy0⟩ := at_int HH.out.s4.r k hlt
                        cases e3
                        have hx0 := (S.out.B.cell (World.block_lt_of_cell? _ _ hy0)).trans hy0
                        have HP := Aside0.mk (hin.out.hp (c.f4[k]) (List.mem_append_right _ (List.getElem_mem hlt)))
                        have HKK := Aside0.mk hlt
                        have HTK := Aside0.mk (show (c.f4.take (k + 1)).map (plc t) = (c.f4.take k).map (plc t) ++ [plc t c.f4[k]] by rw [take_at hlt, List.map_append]; rfl)
                        have HBK := Aside0.mk (show k ≤ 100 by have := check_fewC HC.out; omega)
                        have HLT := Aside0.mk (show ((c.f4.take k).map (plc t)).length ≤ k by rw [List.length_map, List.length_take]; omega)
                        clear hy0
                        generalize c.f4[k] = lt at *
                        generalize (c.f4.take k).map (plc t) = oc at *
                        go_upto_region 47 with (fail)
                        clear hx0
                        obtain ⟨r1, z1⟩ := S.out.cell 2 rfl 4 rfl
                        go_wp2
                        refine start_ (n := 9) (S := (fun w' => w'.cell? ⟨gO, 4, none⟩ = some (.slice vOC.1 oc.length vOC.2))) (ds := [8]) #[false, false, false, false, false, false, false, false, false] (by kernel_rfl) rfl rfl r1 (fun hHeld => ?_)
                        refine pure_ (i := 0) (N := some 215) (v := ?_) (a' := ?_) #[true, false, false, false, false, false, false, false, false] rfl rfl (by kernel_rfl) (fun _ _ _ h => h) (Or.inl ⟨by rfl, ?_⟩) ?_ ?_
                        rotate_left
                        · intro w'
                          go_simp
                          with_reducible rfl
                        rotate_left
                        · simp only [Act.put, List.setIfInBounds_toArray, List.set_cons_zero, List.set_cons_succ]
                          rfl
                        refine pure_ (i := 2) (N := some 217) (v := ?_) (a' := ?_) #[true, false, true, false, false, false, false, false, false] rfl rfl (by kernel_rfl) (fun _ _ _ h => h) (Or.inl ⟨by rfl, ?_⟩) ?_ ?_
                        rotate_left
                        · intro w'
                          go_simp
                          with_reducible rfl
                        rotate_left
                        · simp only [Act.put, List.setIfInBounds_toArray, List.set_cons_zero, List.set_cons_succ]
                          rfl
                        refine pure_ (i := 3) (N := some 218) (v := ?_) (a' := ?_) #[true, false, true, true, false, false, false, false, false] rfl rfl (by kernel_rfl) (fun _ _ _ h => h) (Or.inl ⟨by rfl, ?_⟩) ?_ ?_
                        rotate_left
                        · intro w'
                          go_simp
                          with_reducible rfl
                        rotate_left
                        · simp only [Act.put, List.setIfInBounds_toArray, List.set_cons_zero, List.set_cons_succ]
                          rfl
                        refine take_ (i := 1) (N := some 216) (v := ?_) (a' := ?_) #[true, true, true, true, false, false, false, false, false] rfl rfl (by kernel_rfl) (fun _ _ _ h => h) (Or.inl ⟨by rfl, ?_⟩) hHeld ?_ ?_
                        rotate_left
                        · intro w' s0
                          go_simp
                          with_reducible rfl
                        rotate_left
                        · simp only [Act.put, List.setIfInBounds_toArray, List.set_cons_zero, List.set_cons_succ]
                          rfl
                        refine one_ (i := 4) (N := some 219) #[true, true, true, true, true, false, false, false, false] rfl rfl (by kernel_rfl) (by decide) (fun K hK => ?_)
                        refine call_ 34 #[.int .i64 lt, .pointer (some ⟨gN, 0, none⟩)] (by rfl) rfl ?hrun1 ?_
                        case hrun1 => go_simp
                        refine (HCO.out nm lt _ (S.out.drew.cell 1 rfl 0 rfl).1 (S.out.drew.hP 0 _ rfl) HP.out.1 (by have h1 := HP.out.2; unfold varOf at h1; have := HN.out; have := HP.out.1; omega)).mono ?_
                        rintro e w14 ⟨rfl, hb_⟩
                        refine ⟨_, rfl, ?_⟩
                        have S14 := Aside0.mk (S.out.drew.below hb_)
                        clear hb_
                        refine hK.out _ _ (S14.out.cell 2 rfl 4 rfl).1 (fun hHeld => ?_)
                        clear hK K
                        refine norm_ (a' := ?_) ?_ ?_
                        rotate_left
                        · show Act.put _ (some 219) _ = _
                          simp only [Act.put, List.setIfInBounds_toArray, List.set_cons_zero, List.set_cons_succ]
                          rfl
                        refine one_ (i := 5) (N := some 220) #[true, true, true, true, true, true, false, false, false] rfl rfl (by kernel_rfl) (by decide) (fun K hK => ?_)
                        refine value_ (w1 := ?_) (v := ?_) (by rfl) rfl ?_ ?_
                        rotate_left 2
                        · go_simp
                          constructor
                          · rfl
                          · rfl
                        refine hK.out _ _ ((World.cell?_alloc_lt _ _ _ (World.block_lt_of_cell? _ _ hHeld)).trans hHeld) (fun hHeld => ?_)
                        clear hK K
                        refine norm_ (a' := ?_) ?_ ?_
                        rotate_left
                        · show Act.put _ (some 220) _ = _
                          simp only [Act.put, List.setIfInBounds_toArray, List.set_cons_zero, List.set_cons_succ]
                          rfl
                        refine one_ (i := 6) (N := some 221) #[true, true, true, true, true, true, true, false, false] rfl rfl (by kernel_rfl) (by decide) (fun K hK => ?_)
                        refine Parts.appendS S14.out 11 rfl flat_int (by rfl) (.tmp 216) (.tmp 220) 24 (.int .i64 0) 8 rfl Try.underlying24 infoInt rfl (by decide) (by decide) (plc t lt) [.int .i64 (plc t lt)] rfl rfl rfl (by have := HLT.out; have := HBK.out; omega) ?_
                        intro V7 cap7 w16 h16
                        have S16 := Aside0.mk h16
                        clear h16 r1 z1
                        obtain ⟨r1, z1⟩ := S16.out.cell 2 rfl 4 rfl
                        refine hK.out _ _ r1 (fun hHeld => ?_)
                        clear hK K
                        refine norm_ (a' := ?_) ?_ ?_
                        rotate_left
                        · show Act.put _ (some 221) _ = _
                          simp only [Act.put, List.setIfInBounds_toArray, List.set_cons_zero, List.set_cons_succ]
                          rfl
                        refine pure_ (i := 7) (N := some 222) (v := ?_) (a' := ?_) #[true, true, true, true, true, true, true, true, false] rfl rfl (by kernel_rfl) (fun _ _ _ h => h) (Or.inl ⟨by rfl, ?_⟩) ?_ ?_
                        rotate_left
                        · intro w'
                          go_simp
                          with_reducible rfl
                        rotate_left
                        · simp only [Act.put, List.setIfInBounds_toArray, List.set_cons_zero, List.set_cons_succ]
                          rfl
                        refine last_ (i := 8) (N := none) #[true, true, true, true, true, true, true, true, true] rfl rfl (by kernel_rfl) (by decide) (fun K hK => ?_)
                        refine skip_ (w1 := ?_) (by rfl) rfl ?_ ?_
                        rotate_left
                        · go_simp
                          rfl
                        refine hK.out _ _ ?_
                        clear hK K
                        refine done_ (by kernel_rfl) ?_
                        have S17 := Aside0.mk (S16.out.put 2 rfl 4 (.slice V7 (oc.length + 1) cap7) rfl)
                        clear r1 z1 S16 S14
                        go_wp2
                        go_roundg (c.f4.length - (k + 1))
                        case measure => have := HK.out; have := HKK.out; omega
                        case rel => exact ⟨k + 1, (V7, cap7), val_step HKK.out (by have := check_fewC HC.out; omega), ⟨HKK.out, by have := HK.out; omega⟩, ⟨by
                          have h_ := S17.out
                          rw [HTK.out]
                          unfold passPs
                          simp only [List.length_append, List.length_singleton]
                          exact h_⟩⟩
                      · have hk : k = c.f4.length := by have := HK.out; omega
                        subst hk
                        rw [List.take_length] at S
                        clear HK hlt
                        obtain rfl := HTN.out
                        obtain ⟨a0, a1, a2, a3, a4⟩ := blk5 (S.out.blk 2 rfl)
                        obtain ⟨⟨u0, u1, u2, u3, u4, u5, u6⟩, q0, q1, q2, q3, q4, q5, q6⟩ := blk7 (S.out.blk 4 rfl)
                        obtain ⟨r0, z0⟩ := S.out.cell 13 rfl 0 rfl
                        obtain ⟨r1, z1⟩ := S.out.cell 13 rfl 1 rfl
                        obtain ⟨r2, z2⟩ := S.out.cell 13 rfl 2 rfl
                        obtain ⟨r3, z3⟩ := S.out.cell 13 rfl 3 rfl
                        obtain ⟨r4, z4⟩ := S.out.cell 13 rfl 4 rfl
                        obtain ⟨r5, z5⟩ := S.out.cell 13 rfl 5 rfl
                        obtain ⟨r6, z6⟩ := S.out.cell 13 rfl 6 rfl
                        obtain ⟨r7, z7⟩ := S.out.cell 13 rfl 7 rfl
                        obtain ⟨r8, z8⟩ := S.out.cell 13 rfl 8 rfl
                        obtain ⟨r9, z9⟩ := S.out.cell 13 rfl 9 rfl
                        obtain ⟨r10, z10⟩ := S.out.cell 13 rfl 10 rfl
                        obtain ⟨r11, z11⟩ := S.out.cell 13 rfl 11 rfl
                        have HW := Aside0.mk (S.out.put12 13 rfl (.int .i64 ((cntK is c.f0.toNat : Nat) : Int)) (.slice vOL.1 (latK c is t c.f1.length).length vOL.2) (.slice vOA.1 (andK c is t c.f2.length).length vOA.2) (.slice vOB.1 (c.f3.map (plc t)).length vOB.2) (.slice vOC.1 (c.f4.map (plc t)).length vOC.2) (.int .i64 0) (.int .i64 1) (.slice vF.1 (firK c is t c.f1.length).length vF.2) (.slice (some ⟨gI, 0, none⟩) 1 1) (.slice vL.1 (lasK c is c.f1.length).length vL.2) (.slice none 0 0) (.int .i64 1))
                        obtain ⟨ob, hob⟩ : ∃ ob, c.f3.map (plc t) = ob := ⟨_, rfl⟩
                        obtain ⟨oc, hoc⟩ : ∃ oc, c.f4.map (plc t) = oc := ⟨_, rfl⟩
                        rw [hob, hoc] at S HW
                        rw [hob] at a3
                        rw [hoc] at a4
                        have HQ := Aside0.mk (show (⟨passC c is t, passL c is t⟩ : Red) = ⟨⟨((cntK is c.f0.toNat : Nat) : Int), latK c is t c.f1.length, andK c is t c.f2.length, ob, oc⟩, passL c is t⟩ by rw [← hob, ← hoc]; rfl)
                        clear hob hoc
                        go_wp2
                        refine bodyPost_ret (results_ct rfl _ _ (w.heap.size + 1) 40 _ (0, 0) _ rfl (HW.out.blk 13 rfl) hu40 rfl (by kernel_rfl)) rfl ?_
                        rw [HPOST.out, HQ.out]
                        exact ⟨⟨vOL.1, vOL.2, vOA.1, vOA.2, vOB.1, vOB.2, vOC.1, vOC.2⟩, ⟨vF.1, vF.2, some ⟨gI, 0, none⟩, 1, vL.1, vL.2, none, 0⟩, rfl, ⟨HW.out.rowF 8 rfl, HW.out.rowF 9 rfl, HW.out.rowF 10 rfl, HW.out.rowF 11 rfl⟩,
                          ⟨HW.out.rowF 6 rfl, RS.one_row (HW.out.blk 3 rfl) rfl (HW.out.rowF 5 rfl), HW.out.rowF 7 rfl, RS.nil _ _ _⟩, HW.out.B⟩
/-- What cone.Pass answers. -/
noncomputable def passR (c : Circ) : Red × Int := if check c = 0 then (⟨passC c (coneB c) (toldF (coneB c) 0), passL c (coneB c) (toldF (coneB c) 0)⟩, 0) else (zeroRd, check c)
theorem cone_Pass (p : CP) (c : Circ) (w : World) (h : RC w p c) (hs : c.Fits) :
    Calls Try.prog 12 #[cv p c] w fun e w' => RetRd w w' (passR c).1 (passR c).2 e := by
  unfold passR
  by_cases hc : check c = 0
  · rw [if_pos hc]; exact cone_Pass_ok p c w h hs hc
  · rw [if_neg hc]; exact cone_Pass_bad p c w h hs hc
end Go.Proofs.Ytiafojcbllbepaa.PH
