/- The law ConeRest: its function answers true. -/
import Derived.Test.YtiafojcbllbepaaHAlive28
import Derived.Test.YtiafojcbllbepaaHRestP
import Derived.Test.YtiafojcbllbepaaHTwin
namespace Go.Proofs.Ytiafojcbllbepaa.PH
open Go.RowKit Go.Proofs.YtiafojcbllbepaaW.PrintWords Go.Proofs.YtiafojcbllbepaaW.PrintLast
set_option linter.unusedVariables false
set_option linter.unusedSimpArgs false

/-- An element of a row of latches is written. -/
theorem Parts.putLatch {b : Nat} {w0 w : World} {ps : List Pc} {g n cap : Nat} {xs : List Latch} (h : Parts b w0 w ps) (i : Nat) (hi : ps[i]? = some (pF b kLatch 49 (.slice (some ⟨g, 0, none⟩) n cap) xs)) (j : Nat) (hj : j < xs.length) (y : Latch) :
    Parts b w0 ((w.setCell ⟨g, j * 2, none⟩ (.int .i64 y.f0)).setCell ⟨g, j * 2 + 1, none⟩ (.int .i64 y.f1)) (ps.set i (pF b kLatch 49 (.slice (some ⟨g, 0, none⟩) n cap) (xs.set j y))) := by
  have hn := (Kd.R_reads' (h.ownF i hi)).1
  obtain ⟨c, hcl, _, hcc, _⟩ := Kd.R_elem (h.ownF i hi) ⟨0, 0⟩ (j : Int) (by omega) (by omega)
  have hcl2 : c.length = 2 := hcl
  have h2 := Kd.R_seg (h.ownF i hi) (j : Int) (by omega) (by omega) (c := c) (seg := [.int .i64 y.f0, .int .i64 y.f1]) (j := 0) hcl hcc (by show 0 + 2 ≤ 2; omega) (x' := y) (okp := fun _ => False) (by
    rw [List.take_zero, List.nil_append, List.drop_of_length_le (by rw [hcl2]; exact Nat.le_refl _), List.append_nil]
    exact kLatch_mkM _ _ _ _) (fun _ hk => hk.elim)
  rw [Int.toNat_natCast] at h2
  exact h.app i hi flat_latch h2.1 h2.2 (.inl rfl)
/-- Two new things at once. -/
theorem Parts.push2 {b : Nat} {w0 w w1 : World} {ps : List Pc} (h : Parts b w0 w ps) {p q : Pc} (hb : Below w.heap.size w w1) (hp : p.P w1) (hq : q.P w1) (hpf : ∀ k, p.F k → w.heap.size ≤ k ∧ k < w1.heap.size) (hqf : ∀ k, q.F k → w.heap.size ≤ k ∧ k < w1.heap.size) (hd : ∀ k, p.F k → ¬ q.F k) : Parts b w0 w1 (p :: q :: ps) := by
  have h1 := h.push hb hq hqf
  refine ⟨h1.B, h1.z, fun j r hr => ?_, fun j r hr k hk => ?_, fun j l r s hjl hr hs k hk hk2 => ?_⟩
  · cases j with
    | zero => cases hr; exact hp
    | succ j => exact h1.hP j r hr
  · cases j with
    | zero => cases hr; exact ⟨Nat.le_trans h.z (hpf k hk).1, (hpf k hk).2⟩
    | succ j => exact h1.hF j r hr k hk
  · have far : ∀ (j : Nat) (r : Pc), (q :: ps)[j]? = some r → r.F k → p.F k → False := fun j r hr hk hp => by
      cases j with
      | zero => cases hr; exact hd k hp hk
      | succ j => have := (h.hF j r hr k hk).2; have := (hpf k hp).1; omega
    cases j with
    | zero =>
      cases hr
      cases l with
      | zero => exact hjl rfl
      | succ l => exact far l s hs hk2 hk
    | succ j =>
      cases l with
      | zero => cases hs; exact far j r hr hk hk2
      | succ l => exact h1.ap j l r s (fun e => hjl (by rw [e])) hr hs k hk hk2
/-- A copied circuit's rows but for its latches. -/
def pTw (b : Nat) (p : CP) (c : Circ) : Pc :=
  ⟨fun k => (Value.slice p.A2 c.f2.length p.c2).ownBlock = some k ∨ (Value.slice p.A3 c.f3.length p.c3).ownBlock = some k ∨ (Value.slice p.A4 c.f4.length p.c4).ownBlock = some k,
   fun W => Kd.R kGate 51 W b (fun k => (Value.slice p.A2 c.f2.length p.c2).ownBlock = some k) (.slice p.A2 c.f2.length p.c2) c.f2 ∧ Kd.R (Kd.int .i64) 3 W b (fun k => (Value.slice p.A3 c.f3.length p.c3).ownBlock = some k) (.slice p.A3 c.f3.length p.c3) c.f3 ∧ Kd.R (Kd.int .i64) 3 W b (fun k => (Value.slice p.A4 c.f4.length p.c4).ownBlock = some k) (.slice p.A4 c.f4.length p.c4) c.f4,
   fun hm h => ⟨Kd.R_move h.1 (fun k hk => hm k (.inl hk)), Kd.R_move h.2.1 (fun k hk => hm k (.inr (.inl hk))), Kd.R_move h.2.2 (fun k hk => hm k (.inr (.inr hk)))⟩⟩
theorem R_ty {α : Type} {d : Kd α} {e : Nat} {w : World} {base : Nat} {ok : Nat → Prop} {v : Value} {xs : List α} (h : d.R e w base ok v xs) (k : Nat) (hk : v.ownBlock = some k) : ∃ cells, w.heap[k]? = some (.cells cells e (0, 0)) := by
  obtain ⟨_, inner, ho, _⟩ := h
  exact own_typed ho k hk
theorem Parts.twin {b : Nat} {w0 w w1 : World} {ps : List Pc} {p : CP} {c : Circ} (h : Parts b w0 w ps) (hb : Below w.heap.size w w1) (hr : RCo w.heap.size w1 p c) : Parts b w0 w1 (pF b kLatch 49 (.slice p.A1 c.f1.length p.c1) c.f1 :: pTw b p c :: ps) := by
  refine h.push2 hb (Kd.R_lower (flat_own flat_latch hr.s1) h.z) ⟨Kd.R_lower (flat_own flat_gate hr.s2) h.z, Kd.R_lower (flat_own flat_int hr.s3) h.z, Kd.R_lower (flat_own flat_int hr.s4) h.z⟩ (fun k hk => ⟨Kd.R_base hr.s1 k hk, Kd.R_lt hr.s1 k hk⟩) (fun k hk => ?_) (fun k hk hk2 => ?_)
  · rcases hk with hk | hk | hk
    · exact ⟨Kd.R_base hr.s2 k hk, Kd.R_lt hr.s2 k hk⟩
    · exact ⟨Kd.R_base hr.s3 k hk, Kd.R_lt hr.s3 k hk⟩
    · exact ⟨Kd.R_base hr.s4 k hk, Kd.R_lt hr.s4 k hk⟩
  · obtain ⟨x, hx⟩ := R_ty hr.s1 k hk
    rcases hk2 with hk | hk | hk
    · obtain ⟨y, hy⟩ := R_ty hr.s2 k hk
      rw [hx] at hy; simp at hy
    · obtain ⟨y, hy⟩ := R_ty hr.s3 k hk
      rw [hx] at hy; simp at hy
    · obtain ⟨y, hy⟩ := R_ty hr.s4 k hk
      rw [hx] at hy; simp at hy
theorem Parts.twinRC {b : Nat} {w0 w : World} {ps : List Pc} {p : CP} {c : Circ} {xs : List Latch} (h : Parts b w0 w ps) (i j : Nat) (hi : ps[i]? = some (pF b kLatch 49 (.slice p.A1 c.f1.length p.c1) xs)) (hj : ps[j]? = some (pTw b p c)) : RC w p ⟨c.f0, xs, c.f2, c.f3, c.f4⟩ := by
  obtain ⟨h1, h2, h3⟩ := h.hP j _ hj
  exact ⟨h.rowF i hi, RS.of_R' h1, RS.of_R' h2, RS.of_R' h3⟩
theorem Parts.latAt {b : Nat} {w0 w : World} {ps : List Pc} {n cap : Nat} {A : Option Addr} {xs : List Latch} (h : Parts b w0 w ps) (i : Nat) (hi : ps[i]? = some (pF b kLatch 49 (.slice A n cap) xs)) (j : Nat) (hj : j < xs.length) :
    ∃ g u v, A = some ⟨g, 0, none⟩ ∧ (w.cell? ⟨g, j * 2, none⟩ = some (.int .i64 u) ∧ w.frozen? ⟨g, j * 2, none⟩ = false) ∧ (w.cell? ⟨g, j * 2 + 1, none⟩ = some (.int .i64 v) ∧ w.frozen? ⟨g, j * 2 + 1, none⟩ = false) := by
  obtain ⟨ad, rfl, h0, h1⟩ := at_latch (h.rowF i hi).r j hj
  obtain ⟨inner, ho, hr⟩ := (h.ownF i hi).2
  rcases ho.2 with ⟨he, _⟩ | ⟨g, cap', cur, he, hg, hh, r⟩
  · cases he
  · cases he
    have e : (⟨g, 0, none⟩ : Addr).add (j * 2) = ⟨g, j * 2, none⟩ := by by_cases hz : j * 2 = 0 <;> simp [Addr.add, hz]
    rw [e] at h0 h1
    exact ⟨g, _, _, rfl, ⟨h0, blk_frozen hh _⟩, ⟨h1, blk_frozen hh _⟩⟩
theorem same_circ2 (p : CP) (c : Circ) (q : CP) (d : Circ) (w : World) (h : RC w p c) (h' : RC w q d) (e : d = c) :
    Calls Try.prog 16 #[cv p c, cv q d] w fun e w' => e = .returned (.bool true) ∧ Below w.heap.size w w' := by
  subst e
  exact same_circ p d q w h h'
theorem rest_pass {c : Circ} {k : Nat} {y : Latch} (hc : check c = 0) (hk : k < c.f1.length) (hx : check (putLat c k y) = 0) (hno : (k : Int) + c.f0 + 1 ∉ coneV c) :
    ∃ r r2 : Red, passR c = (r, 0) ∧ passR (putLat c k y) = (r2, 0) ∧ r2.f0 = r.f0 := by
  have hi := inside_of hc
  have h0 := hi.h0
  have hn : ¬ Reach c (c.f0.toNat + 1 + k) := no_reach hi (by
    rw [show ((c.f0.toNat + 1 + k : Nat) : Int) = (k : Int) + c.f0 + 1 by omega]
    exact hno)
  unfold passR
  rw [if_pos hc, if_pos hx, put_cone hn]
  exact ⟨_, _, rfl, rfl, put_pass hi hn _⟩
set_option maxHeartbeats 4000000 in
set_option maxRecDepth 100000 in
theorem law_ConeRest (p : CP) (c : Circ) (m nx rs : Int) (w : World) (h : RC w p c) (nc : c.Nums) (hm : I64 m) (hnx : I64 nx) (hrs : I64 rs) :
    Calls Try.prog 5 #[cv p c, .int .i64 m, .int .i64 nx, .int .i64 rs] w fun e w' => e = .returned (.bool true) ∧ Below w.heap.size w w' := by
  have HH := Aside0.mk h
  have hu26 := Try.underlying26
  have hu40 := Try.underlying40
  have S0 := Aside0.mk ((Parts.start w).new 26 #[.int .i64 c.f0, .slice p.A1 c.f1.length p.c1, .slice p.A2 c.f2.length p.c2, .slice p.A3 c.f3.length p.c3, .slice p.A4 c.f4.length p.c4])
  obtain ⟨o, ho⟩ : ∃ o, great c = o := ⟨_, rfl⟩
  have HO := Aside0.mk ho
  have HNC := Aside0.mk nc
  have HRS := Aside0.mk (show I64 nx ∧ I64 rs from ⟨hnx, hrs⟩)
  clear hnx hrs
  obtain ⟨hm1, hm2⟩ := hm
  clear h nc ho
  go_enter Try.func5, Try.ntmps5
  go_wp2_with fail
  refine (law28_alive _).mono ?_
  rintro e w1 ⟨rfl, hb1⟩
  have S1 := Aside0.mk (S0.out.below hb1)
  clear hb1 S0
  obtain ⟨c0, c1, c2, c3, c4⟩ := blk5 (S1.out.blk 0 rfl)
  go_wp2_with fail
  refine (ref02_Great p c _).mono ?_
  rintro e w2 ⟨rfl, hb2⟩
  rw [HO.out]
  have S2 := Aside0.mk (S1.out.below hb2)
  clear hb2 S1 c0 c1 c2 c3 c4
  cases o with
  | true =>
    go_wp2
    go_ret
    exact ⟨rfl, S2.out.B⟩
  | false =>
    have HF := Aside0.mk (HNC.out.fitsC HO.out)
    obtain ⟨c0, c1, c2, c3, c4⟩ := blk5 (S2.out.blk 0 rfl)
    go_wp2_with fail
    refine (ref02_Check p c _ (HH.out.below S2.out.B) HF.out).mono ?_
    rintro e w3 ⟨rfl, hb3⟩
    have S3 := Aside0.mk (S2.out.below hb3)
    clear hb3 S2 c0 c1 c2 c3 c4
    by_cases hck : check c = 0
    · have HC := Aside0.mk hck
      rw [hck]
      clear hck
      obtain ⟨c0, c1, c2, c3, c4⟩ := blk5 (S3.out.blk 0 rfl)
      by_cases hn : m < 0
      · have hnd : decide (m < 0) = true := decide_eq_true hn
        clear hn
        go_wp2
        go_ret
        exact ⟨rfl, S3.out.B⟩
      · have hnd : decide (m < 0) = false := decide_eq_false hn
        by_cases hg : (c.f1.length : Int) ≤ m
        · have hgd : decide ((c.f1.length : Int) ≤ m) = true := decide_eq_true hg
          clear hg hn
          go_wp2
          go_ret
          exact ⟨rfl, S3.out.B⟩
        · obtain ⟨k, rfl⟩ : ∃ k : Nat, m = (k : Int) := ⟨m.toNat, by omega⟩
          have HK := Aside0.mk (show k < c.f1.length by omega)
          have hgd : decide ((c.f1.length : Int) ≤ (k : Int)) = false := decide_eq_false hg
          have hgd2 : decide (c.f1.length ≤ k) = false := decide_eq_false (by omega)
          clear hg hn
          go_wp2_with fail
          refine (cone_Of p c _ (HH.out.below S3.out.B) HF.out).mono ?_
          rw [show ofC c = (coneV c, 0) by unfold ofC; rw [if_pos HC.out]]
          obtain ⟨l, hl⟩ : ∃ l, coneV c = l := ⟨_, rfl⟩
          rw [hl]
          rintro e w4 ⟨A, cA, rfl, hR, hb4⟩
          have S4 := Aside0.mk (S3.out.freshF flat_int hb4 hR)
          have HL := Aside0.mk hl
          have HI := Aside0.mk (show 0 ≤ c.f0 ∧ c.f0 + c.f1.length ≤ 1000 from by
            have h_ := gCheck_ok HC.out
            have h1 := h_.2.2
            have h2 := h_.1
            omega)
          have HM := Aside0.mk (S4.out.rowF 0 rfl).max
          clear hb4 hR c0 c1 c2 c3 c4 S3 hl
          dsimp only at S4 ⊢
          go_wp2_with fail
          go_loopg [12] l.length (fun gg s12 wr => ∃ i : Nat, s12 = .int .i64 i ∧ Aside0 (i ≤ l.length ∧ l.length - i ≤ gg) ∧ Aside0 (Parts w.heap.size w wr [pF w.heap.size (Kd.int .i64) 3 (.slice A l.length cA) l, pB w.heap.size 26 #[.int .i64 c.f0, .slice p.A1 c.f1.length p.c1, .slice p.A2 c.f2.length p.c2, .slice p.A3 c.f3.length p.c3, .slice p.A4 c.f4.length p.c4]]) ∧ Aside0 (∀ x ∈ l.take i, x ≠ c.f0 + 1 + k))
          case atStart => exact ⟨0, rfl, ⟨by omega, by omega⟩, S4, ⟨by simp⟩⟩
          case round =>
            obtain ⟨i, rfl, HX, S5, HN⟩ := hrel
            clear S4
            obtain ⟨c0, c1, c2, c3, c4⟩ := blk5 (S5.out.blk 1 rfl)
            by_cases hlt : i < l.length
            · have hlti : (i : Int) < l.length := by omega
              obtain ⟨ad, e1, hx⟩ := at_int (S5.out.rowF 0 rfl).r i hlt
              cases e1
              obtain ⟨x, hx0⟩ : ∃ x, l[i] = x := ⟨_, rfl⟩
              rw [hx0] at hx
              have HX0 := Aside0.mk (show l[i]? = some x by rw [List.getElem?_eq_getElem hlt, hx0])
              clear hx0
              obtain ⟨hI0, hI1⟩ : 0 ≤ c.f0 ∧ c.f0 + c.f1.length ≤ 1000 := HI.out
              have hkk : (k : Int) < c.f1.length := by have := HK.out; omega
              go_wp2
              go_quiet (fail)
              have S6 := Aside0.mk (S5.out.below (pw_below_drewN (Below.refl _ _) nq))
              clear c0 c1 c2 c3 c4 S5 hx
              generalize wr.drewN nq = w6 at *
              by_cases hq : x = c.f0 + 1 + k
              · have hqd : (x == c.f0 + 1 + (k : Int)) = true := beq_iff_eq.2 hq
                clear hq
                go_wp2
                go_ret
                exact ⟨rfl, S6.out.B⟩
              · have hqd : (x == c.f0 + 1 + (k : Int)) = false := beq_eq_false_iff_ne.2 hq
                have HN2 := Aside0.mk (show ∀ x ∈ l.take (i + 1), x ≠ c.f0 + 1 + k from fun y hy => by
                  rw [List.take_add_one, HX0.out] at hy
                  rcases List.mem_append.1 hy with hy | hy
                  · exact HN.out y hy
                  · have hy' : y = x := by simpa using hy
                    rw [hy']; exact hq)
                have HLT := Aside0.mk hlt
                clear hq HN hlt
                go_wp2
                go_roundg (l.length - (i + 1))
                case measure => have := HX.out; have := HLT.out; omega
                case rel => exact ⟨i + 1, val_step HLT.out HM.out, ⟨by have := HLT.out; omega, by have := HLT.out; omega⟩, S6, HN2⟩
            · have hlti : ¬ (i : Int) < l.length := by omega
              have HE : i = l.length := by have := HX.out.1; omega
              subst HE
              have HNO := Aside0.mk (show (k : Int) + c.f0 + 1 ∉ l from fun hm => HN.out _ (by rw [List.take_length]; exact hm) (by omega))
              clear HN HX hlt
              go_wp2_with fail
              refine (ref02_Twin p c _ (HH.out.below S5.out.B) HF.out.h1 HF.out.h2 (by have h_ := HO.out; unfold great at h_; simp only [Bool.or_eq_false_iff, decide_eq_false_iff_not] at h_; omega) (by have h_ := HO.out; unfold great at h_; simp only [Bool.or_eq_false_iff, decide_eq_false_iff_not] at h_; omega)).mono ?_
              rintro e w6 ⟨p2, rfl, hr2, hb2⟩
              have S6 := Aside0.mk ((S5.out.twin hb2 hr2).new 26 #[.int .i64 c.f0, .slice p2.A1 c.f1.length p2.c1, .slice p2.A2 c.f2.length p2.c2, .slice p2.A3 c.f3.length p2.c3, .slice p2.A4 c.f4.length p2.c4])
              clear hb2 hr2 c0 c1 c2 c3 c4 S5
              go_upto_region 13 with (fail)
              generalize w6.heap.size = g6 at *
              generalize w6.alloc (.cells #[.int .i64 c.f0, .slice p2.A1 c.f1.length p2.c1, .slice p2.A2 c.f2.length p2.c2, .slice p2.A3 c.f3.length p2.c3, .slice p2.A4 c.f4.length p2.c4] 26) = w7 at *
              obtain ⟨c0, c1, c2, c3, c4⟩ := blk5 (S6.out.blk 0 rfl)
              obtain ⟨gl, u, v, hB, hu, hv⟩ := S6.out.latAt 1 rfl k HK.out
              obtain ⟨u0, u1⟩ := hu
              obtain ⟨v0, v1⟩ := hv
              obtain ⟨B1, d1, B2, d2, B3, d3, B4, d4⟩ := p2
              dsimp only at hB
              subst hB
              dsimp only at c0 c1 c2 c3 c4 S6 ⊢
              have hkk : (k : Int) < c.f1.length := by have := HK.out; omega
              go_upto_region 14 with (fail)
              have S8 := Aside0.mk (S6.out.putLatch 1 rfl k HK.out ⟨nx, rs⟩)
              clear u0 u1 v0 v1 c0 c1 c2 c3 c4 S6
              dsimp only at S8
              generalize (w7.setCell ⟨gl, k * 2, none⟩ (.int .i64 nx)).setCell ⟨gl, k * 2 + 1, none⟩ (.int .i64 rs) = w8 at *
              have HRX := Aside0.mk (show RC w8 ⟨some ⟨gl, 0, none⟩, d1, B2, d2, B3, d3, B4, d4⟩ (putLat c k ⟨nx, rs⟩) from S8.out.twinRC (c := c) 1 2 rfl rfl)
              have hlen : (putLat c k ⟨nx, rs⟩).f1.length = c.f1.length := by unfold putLat; simp
              have HFX := Aside0.mk (show (putLat c k ⟨nx, rs⟩).Fits from ⟨by rw [hlen]; exact HF.out.h1, HF.out.h2, HF.out.i0, fun y hy => by
                rcases List.mem_or_eq_of_mem_set hy with hy | rfl
                · exact HF.out.i1 y hy
                · exact ⟨HRS.out.1, HRS.out.2⟩, HF.out.i2, HF.out.i3, HF.out.i4⟩)
              obtain ⟨c0, c1, c2, c3, c4⟩ := blk5 (S8.out.blk 0 rfl)
              have CK := Aside0.mk (fun W (hb : Below w8.heap.size w8 W) => ref02_Check ⟨some ⟨gl, 0, none⟩, d1, B2, d2, B3, d3, B4, d4⟩ (putLat c k ⟨nx, rs⟩) W (HRX.out.below hb) HFX.out)
              have CP := Aside0.mk (fun W (hb : Below w8.heap.size w8 W) => cone_Pass ⟨some ⟨gl, 0, none⟩, d1, B2, d2, B3, d3, B4, d4⟩ (putLat c k ⟨nx, rs⟩) W (HRX.out.below hb) HFX.out)
              unfold cv at CK CP
              rw [hlen] at CK CP
              clear hlen
              go_wp2_with fail
              refine (CK.out _ (Below.refl _ _)).mono ?_
              rintro e w9 ⟨rfl, hb9⟩
              have S9 := Aside0.mk (S8.out.below hb9)
              have B9 := Aside0.mk hb9
              clear hb9 c0 c1 c2 c3 c4 S8
              by_cases hcx : check (putLat c k ⟨nx, rs⟩) = 0
              · have HCX := Aside0.mk hcx
                rw [hcx]
                clear hcx
                obtain ⟨r, r2, hq1, hq2, hq3⟩ := rest_pass HC.out HK.out (y := ⟨nx, rs⟩) HCX.out (by rw [HL.out]; exact HNO.out)
                have C1 := Aside0.mk (fun W (hb : Below w.heap.size w W) => show Calls Try.prog 12 #[cv p c] W (fun e w' => RetRd W w' r 0 e) from (by have h_ := cone_Pass p c W (HH.out.below hb) HF.out; rw [hq1] at h_; exact h_))
                have C2 := Aside0.mk (fun W (hb : Below w8.heap.size w8 W) => by have h_ := CP.out W hb; rw [hq2] at h_; exact h_)
                have HQ := Aside0.mk hq3
                clear hq1 hq2 hq3 CK CP
                obtain ⟨c0, c1, c2, c3, c4⟩ := blk5 (S9.out.blk 4 rfl)
                go_wp2_with fail
                refine (C1.out _ S9.out.B).mono ?_
                rintro e w10 ⟨p6, q6, rfl, hp6, hq6, hb6⟩
                have S10 := Aside0.mk ((S9.out.below hb6).new 40 (rcells p6 q6 r))
                have B10 := Aside0.mk (below_alloc (B9.out.trans (hb6.mono B9.out.size)) (.cells (rcells p6 q6 r) 40))
                have HX6 := Aside0.mk (hp6.below (below_alloc (Below.refl _ _) (.cells (rcells p6 q6 r) 40)))
                clear hb6 hp6 hq6 c0 c1 c2 c3 c4 S9 B9
                go_upto_region 17 with (fail)
                generalize w10.heap.size = g10 at *
                generalize w10.alloc (.cells (rcells p6 q6 r) 40) = w11 at *
                obtain ⟨c0, c1, c2, c3, c4⟩ := blk5 (S10.out.blk 1 rfl)
                go_wp2_with fail
                refine (C2.out _ B10.out).mono ?_
                rintro e w12 ⟨p8, q8, rfl, hp8, hq8, hb8⟩
                have S12 := Aside0.mk ((S10.out.below hb8).new 40 (rcells p8 q8 r2))
                have HX6 := Aside0.mk ((HX6.out.below hb8).below (below_alloc (Below.refl _ _) (.cells (rcells p8 q8 r2) 40)))
                have HX8 := Aside0.mk (hp8.below (below_alloc (Below.refl _ _) (.cells (rcells p8 q8 r2) 40)))
                clear hb8 hp8 hq8 c0 c1 c2 c3 c4 S10 B10
                go_upto_region 18 with (fail)
                generalize w12.heap.size = g12 at *
                generalize w12.alloc (.cells (rcells p8 q8 r2) 40) = w13 at *
                obtain ⟨u0, z0⟩ := S12.out.cell 1 rfl 0 rfl
                obtain ⟨v0, y0⟩ := S12.out.cell 0 rfl 0 rfl
                obtain ⟨u1, z1⟩ := S12.out.cell 1 rfl 1 rfl
                obtain ⟨v1, y1⟩ := S12.out.cell 0 rfl 1 rfl
                obtain ⟨u2, z2⟩ := S12.out.cell 1 rfl 2 rfl
                obtain ⟨v2, y2⟩ := S12.out.cell 0 rfl 2 rfl
                obtain ⟨u3, z3⟩ := S12.out.cell 1 rfl 3 rfl
                obtain ⟨v3, y3⟩ := S12.out.cell 0 rfl 3 rfl
                obtain ⟨u4, z4⟩ := S12.out.cell 1 rfl 4 rfl
                obtain ⟨v4, y4⟩ := S12.out.cell 0 rfl 4 rfl
                go_wp2_with fail
                refine (show Calls _ _ #[cv p6 r.f0, cv p8 r2.f0] _ _ from same_circ2 p6 r.f0 p8 r2.f0 _ HX6.out HX8.out HQ.out).mono ?_
                rintro e w14 ⟨rfl, hb14⟩
                have S14 := Aside0.mk (S12.out.below hb14)
                clear hb14
                go_wp2
                go_ret
                exact ⟨rfl, S14.out.B⟩
              · have hnz : (check (putLat c k ⟨nx, rs⟩) != 0) = true := bne_iff_ne.mpr hcx
                clear hcx
                go_wp2
                go_ret
                exact ⟨rfl, S9.out.B⟩
    · have hnz : (check c != 0) = true := bne_iff_ne.mpr hck
      clear hck
      go_wp2
      go_ret
      exact ⟨rfl, S3.out.B⟩
end Go.Proofs.Ytiafojcbllbepaa.PH
