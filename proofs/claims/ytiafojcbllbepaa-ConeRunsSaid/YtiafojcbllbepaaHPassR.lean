/- ref28.Pass. -/
import Derived.Test.YtiafojcbllbepaaHRef28
import Derived.Test.YtiafojcbllbepaaHPassW
namespace Go.Proofs.Ytiafojcbllbepaa.PH
open Go.RowKit Go.Proofs.YtiafojcbllbepaaW.PrintWords Go.Proofs.YtiafojcbllbepaaW.PrintLast
set_option linter.unusedVariables false
set_option linter.unusedSimpArgs false

theorem toldF_snoc : ∀ (a : List Bool) (b : Bool) (n : Int), toldF (a ++ [b]) n = toldF a n ++ [if b then 2 * (n + (a.count true : Nat) + 1) else 0]
  | [], b, n => by cases b <;> simp [toldF]
  | x :: xs, b, n => by
    have h := toldF_snoc xs b (n + 1)
    have h2 := toldF_snoc xs b n
    cases x
    · simp only [List.cons_append, toldF, Bool.false_eq_true, if_false, h2]
      simp
    · simp only [List.cons_append, toldF, if_true, h]
      cases b <;> simp <;> omega
theorem toldF_bound : ∀ (is : List Bool) (n : Int), 0 ≤ n → ∀ x ∈ toldF is n, 0 ≤ x ∧ x ≤ 2 * (n + is.length)
  | [], n, h, x, hx => by simp [toldF] at hx
  | b :: bs, n, h, x, hx => by
    cases b
    · simp only [toldF, Bool.false_eq_true, if_false, List.mem_cons] at hx
      rcases hx with rfl | hx
      · simp; omega
      · have := toldF_bound bs n h x hx; simp; omega
    · simp only [toldF, if_true, List.mem_cons] at hx
      rcases hx with rfl | hx
      · simp; omega
      · have := toldF_bound bs (n + 1) (by omega) x hx; simp; omega
/-- The new literals of the first v variables. -/
def toldK (is : List Bool) (v : Nat) : List Int := toldF (is.take v) 0 ++ List.replicate (is.length - v) 0
theorem toldK_len {is : List Bool} {v : Nat} (h : v ≤ is.length) : (toldK is v).length = is.length := by
  unfold toldK
  rw [List.length_append, toldF_len, List.length_take, List.length_replicate]; omega
theorem toldK_all (is : List Bool) : toldK is is.length = toldF is 0 := by simp [toldK]
theorem toldK_no {is : List Bool} {v : Nat} (h : v < is.length) (hb : is.getD v false = false) : toldK is (v + 1) = toldK is v := by
  have hv : is[v] = false := by rw [List.getD_eq_getElem?_getD, List.getElem?_eq_getElem h] at hb; exact hb
  unfold toldK
  rw [take_at h, toldF_snoc, hv, List.append_assoc, show is.length - v = (is.length - (v + 1)) + 1 by omega, List.replicate_succ]
  rfl
theorem toldK_yes {is : List Bool} {v : Nat} (h : v < is.length) (hb : is.getD v false = true) : (toldK is v).set v (2 * (((is.take v).count true : Nat) + 1)) = toldK is (v + 1) ∧ (is.take (v + 1)).count true = (is.take v).count true + 1 := by
  have hv : is[v] = true := by rw [List.getD_eq_getElem?_getD, List.getElem?_eq_getElem h] at hb; exact hb
  refine ⟨?_, by rw [take_at h, hv, List.count_append]; rfl⟩
  unfold toldK
  rw [take_at h, toldF_snoc, hv, List.append_assoc, show is.length - v = (is.length - (v + 1)) + 1 by omega, List.replicate_succ, List.set_append_right _ _ (by rw [toldF_len, List.length_take]; omega), toldF_len, List.length_take, Nat.min_eq_left (by omega), Nat.sub_self, List.set_cons_zero]
  simp
theorem toldK_cnt {is : List Bool} {v : Nat} (h : v < is.length) (hb : is.getD v false = false) : (is.take (v + 1)).count true = (is.take v).count true := by
  have hv : is[v] = false := by rw [List.getD_eq_getElem?_getD, List.getElem?_eq_getElem h] at hb; exact hb
  rw [take_at h, hv, List.count_append]; rfl
/-- What the call has while it makes the circuit. -/
@[reducible] def passQs (b gT cT gA cA m gO gI gU gC gR : Nat) (bx : Array Value) (t : List Int) (is : List Bool) (cnt : Int) (vI vF vL vOL vOA vOB vOC : Option Addr × Nat) (I F L : List Int) (OL : List Latch) (OA : List Gate) (OB OC : List Int) : List Pc :=
  [pF b (Kd.int .i64) 3 (.slice (some ⟨gT, 0, none⟩) m cT) t, pF b Kd.bool 4 (.slice (some ⟨gA, 0, none⟩) m cA) is,
   pB gO 26 #[.int .i64 cnt, .slice vOL.1 OL.length vOL.2, .slice vOA.1 OA.length vOA.2, .slice vOB.1 OB.length vOB.2, .slice vOC.1 OC.length vOC.2],
   pB gI 24 #[.slice vI.1 I.length vI.2],
   pB gU 38 #[.int .i64 0, .int .i64 1, .slice vF.1 F.length vF.2, .slice (some ⟨gI, 0, none⟩) 1 1, .slice vL.1 L.length vL.2, .slice none 0 0, .int .i64 1],
   pF b (Kd.int .i64) 3 (.slice vI.1 I.length vI.2) I, pF b (Kd.int .i64) 3 (.slice vF.1 F.length vF.2) F, pF b (Kd.int .i64) 3 (.slice vL.1 L.length vL.2) L,
   pF b kLatch 49 (.slice vOL.1 OL.length vOL.2) OL, pF b kGate 51 (.slice vOA.1 OA.length vOA.2) OA,
   pF b (Kd.int .i64) 3 (.slice vOB.1 OB.length vOB.2) OB, pF b (Kd.int .i64) 3 (.slice vOC.1 OC.length vOC.2) OC,
   pB gC 26 bx, pB gR 40 zCells]
set_option maxHeartbeats 4000000 in
set_option maxRecDepth 100000 in
theorem ref28_Pass_ok (p : CP) (c : Circ) (w : World) (h : RC w p c) (hs : c.Fits) (hck : check c = 0) :
    Calls Try.prog 13 #[cv p c] w fun e w' => RetRd w w' ⟨passC c (coneB c) (toldF (coneB c) 0), passL c (coneB c) (toldF (coneB c) 0)⟩ 0 e := by
  have HV := Aside0.mk (fun W (hb : Below w.heap.size w W) => ref02_Check p c W (h.below hb) hs)
  have HI := Aside0.mk (fun W (hb : Below w.heap.size w W) => ref28_In p c W (h.below hb) hs hck)
  have HLT := Aside0.mk (fun (i : Nat) W (hb : Below w.heap.size w W) => ref25_Latch p c i W)
  have hu26 := Try.underlying26
  have hu38 := Try.underlying38
  have hu40 := Try.underlying40
  have hbd := gCheck_ok hck
  have hin := Aside0.mk (inside_of hck)
  have HN := Aside0.mk (show sizeC c ≤ 1000 by have h1 := hbd.2.2; have h2 := hbd.1; unfold sizeC; omega)
  have HC := Aside0.mk hck
  have HH := Aside0.mk h
  obtain ⟨A1, k1, A2, k2, A3, k3, A4, k4⟩ := p
  have S0 := Aside0.mk (((Parts.start w).new 26 #[.int .i64 c.f0, .slice A1 c.f1.length k1, .slice A2 c.f2.length k2, .slice A3 c.f3.length k3, .slice A4 c.f4.length k4]).new 40 zCells)
  rw [show (w.alloc (.cells #[.int .i64 c.f0, .slice A1 c.f1.length k1, .slice A2 c.f2.length k2, .slice A3 c.f3.length k3, .slice A4 c.f4.length k4] 26)).heap.size = w.heap.size + 1 by simp] at S0
  have HIS := Aside0.mk (show (coneB c).length = sizeC c + 1 by simp [coneB])
  have HI0 := Aside0.mk (show (coneB c).getD 0 false = false by
    cases hb : (coneB c).getD 0 false with
    | false => rfl
    | true => exact absurd (((cone_tells (inside_of hck)).2 0).1 hb).pos (by omega))
  obtain ⟨n0, hn0⟩ : ∃ n0 : Nat, c.f0 = (n0 : Int) := ⟨c.f0.toNat, by have := hin.out.h0; omega⟩
  have HTN := Aside0.mk (show c.f0.toNat = n0 by omega)
  have HSZ := Aside0.mk (show sizeC c = n0 + c.f1.length + c.f2.length by unfold sizeC; rw [HTN.out])
  have HN0 := Aside0.mk hn0
  clear h hs hck hn0
  go_enter Try.func13, Try.ntmps13
  go_wp2_with fail
  refine (HV.out _ S0.out.B).mono ?_
  rintro e w1 ⟨rfl, hb1⟩
  rw [HC.out]
  have S1 := Aside0.mk (S0.out.below hb1)
  clear hb1 S0 HV
  obtain ⟨c0, c1, c2, c3, c4⟩ := blk5 (S1.out.blk 1 rfl)
  go_wp2_with fail
  refine (HI.out _ S1.out.B).mono ?_
  rintro e w2 ⟨V, cA, rfl, hR, hb2⟩
  have S2 := Aside0.mk (S1.out.freshF flat_bool hb2 hR)
  clear hR hb2 S1 c0 c1 c2 c3 c4 HI
  rw [HIS.out] at S2 ⊢
  obtain ⟨gA, hg⟩ : ∃ g, V = some ⟨g, 0, none⟩ := by
    obtain ⟨_, inner, hown, _⟩ := S2.out.ownF 0 rfl
    rcases hown.2 with ⟨h_, _⟩ | ⟨g', cap', cur, h_, _⟩
    · injection h_ with _ h2 _; omega
    · injection h_ with h2 _ _; exact ⟨g', h2⟩
  subst hg
  obtain ⟨is, his⟩ : ∃ is, coneB c = is := ⟨_, rfl⟩
  have HPOST := Aside0.mk (show (⟨passC c (coneB c) (toldF (coneB c) 0), passL c (coneB c) (toldF (coneB c) 0)⟩ : Red) = ⟨passC c is (toldF is 0), passL c is (toldF is 0)⟩ by rw [his])
  rw [his] at S2 HIS HI0
  clear his
  have hN := HN.out
  go_upto_region 6 with (first | (refine Parts.makeL S2.out (Kd.int .i64) 3 flat_int rfl (N := 27) rfl 24 (.tmp 26) (.tmp 26) rfl (sizeC c + 1) rfl rfl Try.underlying24 (.int .i64 0) 8 infoInt rfl (by decide) (by decide) (0 : Int) rfl (by have := HN.out; omega) ?_; intro gT cT w3 hgw h3; have S3 := Aside0.mk h3; clear h3 hgw))
  have S4 := Aside0.mk (show Parts w.heap.size w w3 [pF w.heap.size (Kd.int .i64) 3 (.slice (some ⟨gT, 0, none⟩) (sizeC c + 1) cT) (toldK is 1), pF w.heap.size Kd.bool 4 (.slice (some ⟨gA, 0, none⟩) (sizeC c + 1) cA) is, pB (w.heap.size + 1) 40 zCells, pB w.heap.size 26 #[.int .i64 c.f0, .slice A1 c.f1.length k1, .slice A2 c.f2.length k2, .slice A3 c.f3.length k3, .slice A4 c.f4.length k4]] from by
    have e1 : toldK is 1 = List.replicate (sizeC c + 1) 0 := by
      rw [toldK_no (v := 0) (by rw [HIS.out]; omega) HI0.out]; unfold toldK; rw [HIS.out]; simp [toldF]
    rw [e1]; exact S3.out)
  have HC1 := Aside0.mk (show (is.take 1).count true = 0 by
    rw [toldK_cnt (v := 0) (by rw [HIS.out]; omega) HI0.out]; rfl)
  clear S2 S3
  go_wp2
  go_loopg [7, 8] (sizeC c + 1) (fun gg s7 s8 wr => ∃ (v n : Nat), s7 = .int .i64 n ∧ s8 = .int .i64 v ∧ Aside0 (v ≤ sizeC c + 1 ∧ sizeC c + 1 - v ≤ gg) ∧ Aside0 (n = (is.take v).count true ∧ n ≤ v) ∧ Aside0 (Parts w.heap.size w wr [pF w.heap.size (Kd.int .i64) 3 (.slice (some ⟨gT, 0, none⟩) (sizeC c + 1) cT) (toldK is v), pF w.heap.size Kd.bool 4 (.slice (some ⟨gA, 0, none⟩) (sizeC c + 1) cA) is, pB (w.heap.size + 1) 40 zCells, pB w.heap.size 26 #[.int .i64 c.f0, .slice A1 c.f1.length k1, .slice A2 c.f2.length k2, .slice A3 c.f3.length k3, .slice A4 c.f4.length k4]]))
  case atStart => exact ⟨1, 0, rfl, rfl, ⟨by omega, by omega⟩, ⟨HC1.out.symm, by omega⟩, S4⟩
  case round =>
    clear S4
    obtain ⟨v, n, rfl, rfl, HK, HCN, S⟩ := hrel
    by_cases hlt : v < sizeC c + 1
    · obtain ⟨cK, fK⟩ := S.out.cellRow 1 rfl false v hlt
      obtain ⟨cT0, fT0⟩ := S.out.cellRow 0 rfl (0 : Int) v hlt
      have HKK := Aside0.mk hlt
      have hki : (v : Int) < ((sizeC c + 1 : Nat) : Int) := by omega
      have hnb : n ≤ 1001 := by have := HCN.out; omega
      have hvb : v ≤ 1001 := by omega
      cases hb : is.getD v false with
      | false =>
        rw [hb] at cK
        have HE1 := Aside0.mk (toldK_no (is := is) (v := v) (by rw [HIS.out]; exact hlt) hb)
        have HE2 := Aside0.mk (toldK_cnt (is := is) (v := v) (by rw [HIS.out]; exact hlt) hb)
        clear hb
        go_wp2
        go_roundg (sizeC c + 1 - (v + 1))
        case measure => have := HK.out; have := HKK.out; omega
        case rel => exact ⟨v + 1, n, rfl, rfl, ⟨HKK.out, by have := HK.out; omega⟩, ⟨by rw [HE2.out]; exact HCN.out.1, by have := HCN.out; omega⟩, ⟨by rw [HE1.out]; exact S.out⟩⟩
      | true =>
        rw [hb] at cK
        have HE1 := Aside0.mk (toldK_yes (is := is) (v := v) (by rw [HIS.out]; exact hlt) hb)
        have S5 := Aside0.mk (show Parts w.heap.size w (wr.setCell ⟨gT, v, none⟩ (.int .i64 (2 * ((n : Int) + 1)))) [pF w.heap.size (Kd.int .i64) 3 (.slice (some ⟨gT, 0, none⟩) (sizeC c + 1) cT) (toldK is (v + 1)), pF w.heap.size Kd.bool 4 (.slice (some ⟨gA, 0, none⟩) (sizeC c + 1) cA) is, pB (w.heap.size + 1) 40 zCells, pB w.heap.size 26 #[.int .i64 c.f0, .slice A1 c.f1.length k1, .slice A2 c.f2.length k2, .slice A3 c.f3.length k3, .slice A4 c.f4.length k4]] from by
          rw [← HE1.out.1, ← HCN.out.1]
          exact S.out.putRow 0 rfl v _)
        clear hb
        go_wp2
        go_roundg (sizeC c + 1 - (v + 1))
        case measure => have := HK.out; have := HKK.out; omega
        case rel => exact ⟨v + 1, n + 1, rfl, rfl, ⟨HKK.out, by have := HK.out; omega⟩, ⟨by rw [HE1.out.2, HCN.out.1], by have := HCN.out; omega⟩, S5⟩
    · have hv : v = sizeC c + 1 := by have := HK.out; omega
      subst hv
      have HTL := Aside0.mk (show (toldF is 0).length = sizeC c + 1 by rw [toldF_len, HIS.out])
      have HTB := Aside0.mk (show ∀ x ∈ toldF is 0, 0 ≤ x ∧ x ≤ 3000 from fun x hx => by have h_ := toldF_bound is 0 (by omega) x hx; rw [HIS.out] at h_; have := HN.out; omega)
      have HT0 := Aside0.mk (toldF_no is 0)
      have S5 := Aside0.mk (show Parts w.heap.size w wr [pF w.heap.size (Kd.int .i64) 3 (.slice (some ⟨gT, 0, none⟩) (sizeC c + 1) cT) (toldF is 0), pF w.heap.size Kd.bool 4 (.slice (some ⟨gA, 0, none⟩) (sizeC c + 1) cA) is, pB (w.heap.size + 1) 40 zCells, pB w.heap.size 26 #[.int .i64 c.f0, .slice A1 c.f1.length k1, .slice A2 c.f2.length k2, .slice A3 c.f3.length k3, .slice A4 c.f4.length k4]] from by
        have h_ := S.out
        rw [← HIS.out, toldK_all, HIS.out] at h_
        exact h_)
      have HPL := Aside0.mk (fun cT l W (hR : RS (Kd.int .i64) W (some ⟨gT, 0, none⟩) cT (toldF is 0)) h0 (h1 : varOf l ≤ sizeC c) => ref28_place (some ⟨gT, 0, none⟩) cT (toldF is 0) l W hR h0 (by rw [HTL.out]; omega) HTB.out (by rw [HTL.out]; have := HN.out; omega))
      rw [HTL.out] at HPL
      generalize toldF is 0 = t at *
      clear S hlt HK HCN
      have hz1 : ∀ (W : World) (o : Obj), (W.alloc o).heap.size = W.heap.size + 1 := fun W o => by simp
      have S6 := Aside0.mk ((S5.out.new 26 #[.int .i64 0, .slice none 0 0, .slice none 0 0, .slice none 0 0, .slice none 0 0]).new 24 #[.slice none 0 0])
      rw [hz1] at S6
      clear S5
      go_wp2_with fail
      refine (ref25_True _).mono ?_
      rintro e w5 ⟨rfl, hb5⟩
      have S7 := (S6.out.below hb5).new 38 #[.int .i64 0, .int .i64 1, .slice none 0 0, .slice (some ⟨wr.heap.size + 1, 0, none⟩) 1 1, .slice none 0 0, .slice none 0 0, .int .i64 1]
      clear hb5 S6
      generalize wr.heap.size = gO at *
      generalize gO + 1 = gI at *
      go_upto_region 15 with (fail)
      generalize w5.heap.size = gU at *
      generalize w5.alloc (.cells #[.int .i64 0, .int .i64 1, .slice none 0 0, .slice (some ⟨gI, 0, none⟩) 1 1, .slice none 0 0, .slice none 0 0, .int .i64 1] 38) = w6 at *
      have S8 := Aside0.mk (show Parts w.heap.size w w6 (passQs w.heap.size gT cT gA cA (sizeC c + 1) gO gI gU w.heap.size (w.heap.size + 1) #[.int .i64 c.f0, .slice A1 c.f1.length k1, .slice A2 c.f2.length k2, .slice A3 c.f3.length k3, .slice A4 c.f4.length k4] t is 0 (none, 0) (none, 0) (none, 0) (none, 0) (none, 0) (none, 0) (none, 0) [] [] [] [] [] [] []) from
        ((((((((S7.nil (Kd.int .i64) 3).nil (Kd.int .i64) 3).nil kGate 51).nil kLatch 49).nil (Kd.int .i64) 3).nil (Kd.int .i64) 3).nil (Kd.int .i64) 3).take [10, 11, 9, 8, 7, 0, 1, 2, 3, 4, 5, 6, 13, 12] 14 (by simp) (by decide) (by decide)))
      clear S7 hz1
      go_wp2
      go_loopg [11] n0 (fun gg s11 wr => ∃ (i : Nat) (vI : Option Addr × Nat), s11 = .int .i64 i ∧ Aside0 (i ≤ n0 ∧ n0 - i ≤ gg) ∧ Aside0 (Parts w.heap.size w wr (passQs w.heap.size gT cT gA cA (sizeC c + 1) gO gI gU w.heap.size (w.heap.size + 1) #[.int .i64 c.f0, .slice A1 c.f1.length k1, .slice A2 c.f2.length k2, .slice A3 c.f3.length k3, .slice A4 c.f4.length k4] t is (cntK is i) vI (none, 0) (none, 0) (none, 0) (none, 0) (none, 0) (none, 0) (insK t i) [] [] [] [] [] [])))
      case atStart => exact ⟨0, (none, 0), rfl, ⟨by omega, by omega⟩, S8⟩
      case round =>
        clear S8
        obtain ⟨i, vI, rfl, HK, S⟩ := hrel
        have HB0 := Aside0.mk (show n0 ≤ 1000 by have := HSZ.out; have := HN.out; omega)
        obtain ⟨c0, c1, c2, c3, c4⟩ := blk5 (S.out.blk 12 rfl)
        rw [HN0.out] at c0
        by_cases hA : i < n0
        · have hdi : decide ((i : Int) < (n0 : Int)) = true := decide_eq_true (by omega)
          have hil : i ≤ 1000 := by have := HB0.out; omega
          have hi1 : i + 1 < sizeC c + 1 := by have := HSZ.out; omega
          have hiz : i < sizeC c := by omega
          have h0i : 0 ≤ (i : Int) + 1 := by omega
          obtain ⟨cI, fI⟩ := S.out.cellRow 1 rfl false (i + 1) hi1
          have HKA := Aside0.mk hA
          have HIL := Aside0.mk hil
          have hwi : IntKind.i64.wrap ((i : Int) + 1) = ((i + 1 : Nat) : Int) := by rw [IntKind.wrap_i64]; omega
          cases hb : is.getD (i + 1) false with
          | true =>
            rw [hb] at cI
            have HB := Aside0.mk hb
            clear hb
            have hcb : cntK is i ≤ 1000 := by have := cntK_le (is := is) (k := i); omega
            obtain ⟨cO, fO⟩ := S.out.cell 2 rfl 0 rfl
            have S9 := Aside0.mk (S.out.put 2 rfl 0 (.int .i64 ((cntK is i : Int) + 1)) rfl)
            go_upto_region 20 with (fail)
            clear cI fI cO fO c0 c1 c2 c3 c4
            generalize wr.setCell ⟨gO, 0, none⟩ (.int .i64 ((cntK is i : Int) + 1)) = w9 at *
            obtain ⟨r3, z3⟩ := S9.out.cell 4 rfl 3 rfl
            obtain ⟨i0, y0⟩ := S9.out.cell 3 rfl 0 rfl
            obtain ⟨rT, zT⟩ := S9.out.cellRow 0 rfl (0 : Int) (i + 1) hi1
            obtain ⟨y, hy⟩ : ∃ y, t.getD (i + 1) 0 = y := ⟨_, rfl⟩
            rw [hy] at rT
            have HY := Aside0.mk hy
            clear hy
            go_wp2
            refine start_ (n := 15) (S := (fun w' => w'.cell? ⟨gU, 3, none⟩ = some (.slice (some ⟨gI, 0, none⟩) 1 1) ∧ w'.cell? ⟨gI, 0, none⟩ = some (.slice vI.1 (insK t i).length vI.2) ∧ w'.cell? ⟨gT, i + 1, none⟩ = some (.int .i64 y))) (ds := [14]) #[false, false, false, false, false, false, false, false, false, false, false, false, false, false, false] (by kernel_rfl) rfl rfl ⟨r3, i0, rT⟩ (fun hHeld => ?_)
            refine pure_ (i := 0) (N := some 63) (v := ?_) (a' := ?_) #[true, false, false, false, false, false, false, false, false, false, false, false, false, false, false] rfl rfl (by kernel_rfl) (fun _ _ _ h => h) (Or.inl ⟨by rfl, ?_⟩) ?_ ?_
            rotate_left
            · intro w'
              go_simp
              with_reducible rfl
            rotate_left
            · simp only [Act.put, List.setIfInBounds_toArray, List.set_cons_zero, List.set_cons_succ]
              rfl
            refine pure_ (i := 2) (N := some 65) (v := ?_) (a' := ?_) #[true, false, true, false, false, false, false, false, false, false, false, false, false, false, false] rfl rfl (by kernel_rfl) (fun _ _ _ h => h) (Or.inl ⟨by rfl, ?_⟩) ?_ ?_
            rotate_left
            · intro w'
              go_simp
              with_reducible rfl
            rotate_left
            · simp only [Act.put, List.setIfInBounds_toArray, List.set_cons_zero, List.set_cons_succ]
              rfl
            refine pure_ (i := 6) (N := some 69) (v := ?_) (a' := ?_) #[true, false, true, false, false, false, true, false, false, false, false, false, false, false, false] rfl rfl (by kernel_rfl) (fun _ _ _ h => h) (Or.inl ⟨by rfl, ?_⟩) ?_ ?_
            rotate_left
            · intro w'
              go_simp
              with_reducible rfl
            rotate_left
            · simp only [Act.put, List.setIfInBounds_toArray, List.set_cons_zero, List.set_cons_succ]
              rfl
            refine pure_ (i := 7) (N := some 70) (v := ?_) (a' := ?_) #[true, false, true, false, false, false, true, true, false, false, false, false, false, false, false] rfl rfl (by kernel_rfl) (fun _ _ _ h => h) (Or.inl ⟨by rfl, ?_⟩) ?_ ?_
            rotate_left
            · intro w'
              go_simp
              with_reducible rfl
            rotate_left
            · simp only [Act.put, List.setIfInBounds_toArray, List.set_cons_zero, List.set_cons_succ]
              rfl
            refine pure_ (i := 8) (N := some 71) (v := ?_) (a' := ?_) #[true, false, true, false, false, false, true, true, true, false, false, false, false, false, false] rfl rfl (by kernel_rfl) (fun _ _ _ h => h) (Or.inl ⟨by rfl, ?_⟩) ?_ ?_
            rotate_left
            · intro w'
              go_simp
              with_reducible rfl
            rotate_left
            · simp only [Act.put, List.setIfInBounds_toArray, List.set_cons_zero, List.set_cons_succ]
              rfl
            refine pure_ (i := 9) (N := some 72) (v := ?_) (a' := ?_) #[true, false, true, false, false, false, true, true, true, true, false, false, false, false, false] rfl rfl (by kernel_rfl) (fun _ _ _ h => h) (Or.inl ⟨by rfl, ?_⟩) ?_ ?_
            rotate_left
            · intro w'
              go_simp
              with_reducible rfl
            rotate_left
            · simp only [Act.put, List.setIfInBounds_toArray, List.set_cons_zero, List.set_cons_succ]
              rfl
            refine take_ (i := 1) (N := some 64) (v := ?_) (a' := ?_) #[true, true, true, false, false, false, true, true, true, true, false, false, false, false, false] rfl rfl (by kernel_rfl) (fun _ _ _ h => h) (Or.inl ⟨by rfl, ?_⟩) hHeld ?_ ?_
            rotate_left
            · rintro w' ⟨s0, s1, s2⟩
              go_simp
              with_reducible rfl
            rotate_left
            · simp only [Act.put, List.setIfInBounds_toArray, List.set_cons_zero, List.set_cons_succ]
              rfl
            refine take_ (i := 3) (N := some 66) (v := ?_) (a' := ?_) #[true, true, true, true, false, false, true, true, true, true, false, false, false, false, false] rfl rfl (by kernel_rfl) (fun _ _ _ h => h) (Or.inl ⟨by rfl, ?_⟩) hHeld ?_ ?_
            rotate_left
            · rintro w' ⟨s0, s1, s2⟩
              go_simp
              with_reducible rfl
            rotate_left
            · simp only [Act.put, List.setIfInBounds_toArray, List.set_cons_zero, List.set_cons_succ]
              rfl
            refine pure_ (i := 4) (N := some 67) (v := ?_) (a' := ?_) #[true, true, true, true, true, false, true, true, true, true, false, false, false, false, false] rfl rfl (by kernel_rfl) (fun _ _ _ h => h) (Or.inl ⟨by rfl, ?_⟩) ?_ ?_
            rotate_left
            · intro w'
              go_simp
              with_reducible rfl
            rotate_left
            · simp only [Act.put, List.setIfInBounds_toArray, List.set_cons_zero, List.set_cons_succ]
              rfl
            refine take_ (i := 5) (N := some 68) (v := ?_) (a' := ?_) #[true, true, true, true, true, true, true, true, true, true, false, false, false, false, false] rfl rfl (by kernel_rfl) (fun _ _ _ h => h) (Or.inl ⟨by rfl, ?_⟩) hHeld ?_ ?_
            rotate_left
            · rintro w' ⟨s0, s1, s2⟩
              go_simp
              with_reducible rfl
            rotate_left
            · simp only [Act.put, List.setIfInBounds_toArray, List.set_cons_zero, List.set_cons_succ]
              rfl
            refine take_ (i := 10) (N := some 73) (v := ?_) (a' := ?_) #[true, true, true, true, true, true, true, true, true, true, true, false, false, false, false] rfl rfl (by kernel_rfl) (fun _ _ _ h => h) (Or.inl ⟨by rfl, ?_⟩) hHeld ?_ ?_
            rotate_left
            · rintro w' ⟨s0, s1, s2⟩
              go_simp
              with_reducible rfl
            rotate_left
            · simp only [Act.put, List.setIfInBounds_toArray, List.set_cons_zero, List.set_cons_succ]
              rfl
            refine one_ (i := 11) (N := some 74) #[true, true, true, true, true, true, true, true, true, true, true, true, false, false, false] rfl rfl (by kernel_rfl) (by decide) (fun K hK => ?_)
            refine value_ (w1 := ?_) (v := ?_) (by rfl) rfl ?_ ?_
            rotate_left 2
            · go_simp
              constructor
              · rfl
              · rfl
            refine hK.out _ _ ⟨(World.cell?_alloc_lt _ _ _ (World.block_lt_of_cell? _ _ hHeld.1)).trans hHeld.1, (World.cell?_alloc_lt _ _ _ (World.block_lt_of_cell? _ _ hHeld.2.1)).trans hHeld.2.1, (World.cell?_alloc_lt _ _ _ (World.block_lt_of_cell? _ _ hHeld.2.2)).trans hHeld.2.2⟩ (fun hHeld => ?_)
            clear hK K
            refine norm_ (a' := ?_) ?_ ?_
            rotate_left
            · show Act.put _ (some 74) _ = _
              simp only [Act.put, List.setIfInBounds_toArray, List.set_cons_zero, List.set_cons_succ]
              rfl
            refine one_ (i := 12) (N := some 75) #[true, true, true, true, true, true, true, true, true, true, true, true, true, false, false] rfl rfl (by kernel_rfl) (by decide) (fun K hK => ?_)
            refine Parts.appendS S9.out.drew 5 rfl flat_int (by rfl) (.tmp 68) (.tmp 74) 24 (.int .i64 0) 8 rfl Try.underlying24 infoInt rfl (by decide) (by decide) y [.int .i64 y] rfl rfl rfl (by rw [insK_len]; have := HIL.out; omega) ?_
            intro V5 cap5 w10 h10
            have S10 := Aside0.mk h10
            clear h10 r3 i0 z3 y0 rT zT
            obtain ⟨r3, z3⟩ := S10.out.cell 4 rfl 3 rfl
            obtain ⟨i0, y0⟩ := S10.out.cell 3 rfl 0 rfl
            obtain ⟨rT, zT⟩ := S10.out.cellRow 0 rfl (0 : Int) (i + 1) (by have := HSZ.out; have := HKA.out; omega)
            rw [HY.out] at rT
            refine hK.out _ _ ⟨r3, i0, rT⟩ (fun hHeld => ?_)
            clear hK K
            refine norm_ (a' := ?_) ?_ ?_
            rotate_left
            · show Act.put _ (some 75) _ = _
              simp only [Act.put, List.setIfInBounds_toArray, List.set_cons_zero, List.set_cons_succ]
              rfl
            refine pure_ (i := 13) (N := some 76) (v := ?_) (a' := ?_) #[true, true, true, true, true, true, true, true, true, true, true, true, true, true, false] rfl rfl (by kernel_rfl) (fun _ _ _ h => h) (Or.inl ⟨by rfl, ?_⟩) ?_ ?_
            rotate_left
            · intro w'
              go_simp
              with_reducible rfl
            rotate_left
            · simp only [Act.put, List.setIfInBounds_toArray, List.set_cons_zero, List.set_cons_succ]
              rfl
            refine last_ (i := 14) (N := none) #[true, true, true, true, true, true, true, true, true, true, true, true, true, true, true] rfl rfl (by kernel_rfl) (by decide) (fun K hK => ?_)
            refine skip_ (w1 := ?_) (by rfl) rfl ?_ ?_
            rotate_left
            · go_simp
              rfl
            refine hK.out _ _ ?_
            clear hK K
            refine done_ (by kernel_rfl) ?_
            have S11 := Aside0.mk (S10.out.put 3 rfl 0 (.slice V5 ((insK t i).length + 1) cap5) rfl)
            clear r3 i0 z3 y0 rT zT S10 S9
            go_wp2
            go_roundg (n0 - (i + 1))
            case measure => have := HK.out; have := HKA.out; omega
            case rel => exact ⟨i + 1, (V5, cap5), rfl, ⟨HKA.out, by have := HK.out; omega⟩, ⟨by
              have h_ := S11.out
              rw [← HY.out] at h_
              have e1 : insK t (i + 1) = insK t i ++ [t.getD (i + 1) 0] := insK_succ
              have e2 : ((cntK is (i + 1) : Nat) : Int) = (cntK is i : Int) + 1 := by rw [cntK_succ, if_pos HB.out]; push_cast; rfl
              rw [e1, e2]
              unfold passQs
              rw [List.length_append, List.length_singleton]
              exact h_⟩⟩
          | false =>
            rw [hb] at cI
            have HB := Aside0.mk hb
            clear hb
            go_upto_region 20 with (fail)
            clear cI fI c0 c1 c2 c3 c4
            obtain ⟨r3, z3⟩ := S.out.cell 4 rfl 3 rfl
            obtain ⟨i0, y0⟩ := S.out.cell 3 rfl 0 rfl
            obtain ⟨rT, zT⟩ := S.out.cellRow 0 rfl (0 : Int) (i + 1) hi1
            obtain ⟨y, hy⟩ : ∃ y, t.getD (i + 1) 0 = y := ⟨_, rfl⟩
            rw [hy] at rT
            have HY := Aside0.mk hy
            clear hy
            go_wp2
            refine start_ (n := 15) (S := (fun w' => w'.cell? ⟨gU, 3, none⟩ = some (.slice (some ⟨gI, 0, none⟩) 1 1) ∧ w'.cell? ⟨gI, 0, none⟩ = some (.slice vI.1 (insK t i).length vI.2) ∧ w'.cell? ⟨gT, i + 1, none⟩ = some (.int .i64 y))) (ds := [14]) #[false, false, false, false, false, false, false, false, false, false, false, false, false, false, false] (by kernel_rfl) rfl rfl ⟨r3, i0, rT⟩ (fun hHeld => ?_)
            refine pure_ (i := 0) (N := some 63) (v := ?_) (a' := ?_) #[true, false, false, false, false, false, false, false, false, false, false, false, false, false, false] rfl rfl (by kernel_rfl) (fun _ _ _ h => h) (Or.inl ⟨by rfl, ?_⟩) ?_ ?_
            rotate_left
            · intro w'
              go_simp
              with_reducible rfl
            rotate_left
            · simp only [Act.put, List.setIfInBounds_toArray, List.set_cons_zero, List.set_cons_succ]
              rfl
            refine pure_ (i := 2) (N := some 65) (v := ?_) (a' := ?_) #[true, false, true, false, false, false, false, false, false, false, false, false, false, false, false] rfl rfl (by kernel_rfl) (fun _ _ _ h => h) (Or.inl ⟨by rfl, ?_⟩) ?_ ?_
            rotate_left
            · intro w'
              go_simp
              with_reducible rfl
            rotate_left
            · simp only [Act.put, List.setIfInBounds_toArray, List.set_cons_zero, List.set_cons_succ]
              rfl
            refine pure_ (i := 6) (N := some 69) (v := ?_) (a' := ?_) #[true, false, true, false, false, false, true, false, false, false, false, false, false, false, false] rfl rfl (by kernel_rfl) (fun _ _ _ h => h) (Or.inl ⟨by rfl, ?_⟩) ?_ ?_
            rotate_left
            · intro w'
              go_simp
              with_reducible rfl
            rotate_left
            · simp only [Act.put, List.setIfInBounds_toArray, List.set_cons_zero, List.set_cons_succ]
              rfl
            refine pure_ (i := 7) (N := some 70) (v := ?_) (a' := ?_) #[true, false, true, false, false, false, true, true, false, false, false, false, false, false, false] rfl rfl (by kernel_rfl) (fun _ _ _ h => h) (Or.inl ⟨by rfl, ?_⟩) ?_ ?_
            rotate_left
            · intro w'
              go_simp
              with_reducible rfl
            rotate_left
            · simp only [Act.put, List.setIfInBounds_toArray, List.set_cons_zero, List.set_cons_succ]
              rfl
            refine pure_ (i := 8) (N := some 71) (v := ?_) (a' := ?_) #[true, false, true, false, false, false, true, true, true, false, false, false, false, false, false] rfl rfl (by kernel_rfl) (fun _ _ _ h => h) (Or.inl ⟨by rfl, ?_⟩) ?_ ?_
            rotate_left
            · intro w'
              go_simp
              with_reducible rfl
            rotate_left
            · simp only [Act.put, List.setIfInBounds_toArray, List.set_cons_zero, List.set_cons_succ]
              rfl
            refine pure_ (i := 9) (N := some 72) (v := ?_) (a' := ?_) #[true, false, true, false, false, false, true, true, true, true, false, false, false, false, false] rfl rfl (by kernel_rfl) (fun _ _ _ h => h) (Or.inl ⟨by rfl, ?_⟩) ?_ ?_
            rotate_left
            · intro w'
              go_simp
              with_reducible rfl
            rotate_left
            · simp only [Act.put, List.setIfInBounds_toArray, List.set_cons_zero, List.set_cons_succ]
              rfl
            refine take_ (i := 1) (N := some 64) (v := ?_) (a' := ?_) #[true, true, true, false, false, false, true, true, true, true, false, false, false, false, false] rfl rfl (by kernel_rfl) (fun _ _ _ h => h) (Or.inl ⟨by rfl, ?_⟩) hHeld ?_ ?_
            rotate_left
            · rintro w' ⟨s0, s1, s2⟩
              go_simp
              with_reducible rfl
            rotate_left
            · simp only [Act.put, List.setIfInBounds_toArray, List.set_cons_zero, List.set_cons_succ]
              rfl
            refine take_ (i := 3) (N := some 66) (v := ?_) (a' := ?_) #[true, true, true, true, false, false, true, true, true, true, false, false, false, false, false] rfl rfl (by kernel_rfl) (fun _ _ _ h => h) (Or.inl ⟨by rfl, ?_⟩) hHeld ?_ ?_
            rotate_left
            · rintro w' ⟨s0, s1, s2⟩
              go_simp
              with_reducible rfl
            rotate_left
            · simp only [Act.put, List.setIfInBounds_toArray, List.set_cons_zero, List.set_cons_succ]
              rfl
            refine pure_ (i := 4) (N := some 67) (v := ?_) (a' := ?_) #[true, true, true, true, true, false, true, true, true, true, false, false, false, false, false] rfl rfl (by kernel_rfl) (fun _ _ _ h => h) (Or.inl ⟨by rfl, ?_⟩) ?_ ?_
            rotate_left
            · intro w'
              go_simp
              with_reducible rfl
            rotate_left
            · simp only [Act.put, List.setIfInBounds_toArray, List.set_cons_zero, List.set_cons_succ]
              rfl
            refine take_ (i := 5) (N := some 68) (v := ?_) (a' := ?_) #[true, true, true, true, true, true, true, true, true, true, false, false, false, false, false] rfl rfl (by kernel_rfl) (fun _ _ _ h => h) (Or.inl ⟨by rfl, ?_⟩) hHeld ?_ ?_
            rotate_left
            · rintro w' ⟨s0, s1, s2⟩
              go_simp
              with_reducible rfl
            rotate_left
            · simp only [Act.put, List.setIfInBounds_toArray, List.set_cons_zero, List.set_cons_succ]
              rfl
            refine take_ (i := 10) (N := some 73) (v := ?_) (a' := ?_) #[true, true, true, true, true, true, true, true, true, true, true, false, false, false, false] rfl rfl (by kernel_rfl) (fun _ _ _ h => h) (Or.inl ⟨by rfl, ?_⟩) hHeld ?_ ?_
            rotate_left
            · rintro w' ⟨s0, s1, s2⟩
              go_simp
              with_reducible rfl
            rotate_left
            · simp only [Act.put, List.setIfInBounds_toArray, List.set_cons_zero, List.set_cons_succ]
              rfl
            refine one_ (i := 11) (N := some 74) #[true, true, true, true, true, true, true, true, true, true, true, true, false, false, false] rfl rfl (by kernel_rfl) (by decide) (fun K hK => ?_)
            refine value_ (w1 := ?_) (v := ?_) (by rfl) rfl ?_ ?_
            rotate_left 2
            · go_simp
              constructor
              · rfl
              · rfl
            refine hK.out _ _ ⟨(World.cell?_alloc_lt _ _ _ (World.block_lt_of_cell? _ _ hHeld.1)).trans hHeld.1, (World.cell?_alloc_lt _ _ _ (World.block_lt_of_cell? _ _ hHeld.2.1)).trans hHeld.2.1, (World.cell?_alloc_lt _ _ _ (World.block_lt_of_cell? _ _ hHeld.2.2)).trans hHeld.2.2⟩ (fun hHeld => ?_)
            clear hK K
            refine norm_ (a' := ?_) ?_ ?_
            rotate_left
            · show Act.put _ (some 74) _ = _
              simp only [Act.put, List.setIfInBounds_toArray, List.set_cons_zero, List.set_cons_succ]
              rfl
            refine one_ (i := 12) (N := some 75) #[true, true, true, true, true, true, true, true, true, true, true, true, true, false, false] rfl rfl (by kernel_rfl) (by decide) (fun K hK => ?_)
            refine Parts.appendS S.out.drew 5 rfl flat_int (by rfl) (.tmp 68) (.tmp 74) 24 (.int .i64 0) 8 rfl Try.underlying24 infoInt rfl (by decide) (by decide) y [.int .i64 y] rfl rfl rfl (by rw [insK_len]; have := HIL.out; omega) ?_
            intro V5 cap5 w10 h10
            have S10 := Aside0.mk h10
            clear h10 r3 i0 z3 y0 rT zT
            obtain ⟨r3, z3⟩ := S10.out.cell 4 rfl 3 rfl
            obtain ⟨i0, y0⟩ := S10.out.cell 3 rfl 0 rfl
            obtain ⟨rT, zT⟩ := S10.out.cellRow 0 rfl (0 : Int) (i + 1) (by have := HSZ.out; have := HKA.out; omega)
            rw [HY.out] at rT
            refine hK.out _ _ ⟨r3, i0, rT⟩ (fun hHeld => ?_)
            clear hK K
            refine norm_ (a' := ?_) ?_ ?_
            rotate_left
            · show Act.put _ (some 75) _ = _
              simp only [Act.put, List.setIfInBounds_toArray, List.set_cons_zero, List.set_cons_succ]
              rfl
            refine pure_ (i := 13) (N := some 76) (v := ?_) (a' := ?_) #[true, true, true, true, true, true, true, true, true, true, true, true, true, true, false] rfl rfl (by kernel_rfl) (fun _ _ _ h => h) (Or.inl ⟨by rfl, ?_⟩) ?_ ?_
            rotate_left
            · intro w'
              go_simp
              with_reducible rfl
            rotate_left
            · simp only [Act.put, List.setIfInBounds_toArray, List.set_cons_zero, List.set_cons_succ]
              rfl
            refine last_ (i := 14) (N := none) #[true, true, true, true, true, true, true, true, true, true, true, true, true, true, true] rfl rfl (by kernel_rfl) (by decide) (fun K hK => ?_)
            refine skip_ (w1 := ?_) (by rfl) rfl ?_ ?_
            rotate_left
            · go_simp
              rfl
            refine hK.out _ _ ?_
            clear hK K
            refine done_ (by kernel_rfl) ?_
            have S11 := Aside0.mk (S10.out.put 3 rfl 0 (.slice V5 ((insK t i).length + 1) cap5) rfl)
            clear r3 i0 z3 y0 rT zT S10 S
            go_wp2
            go_roundg (n0 - (i + 1))
            case measure => have := HK.out; have := HKA.out; omega
            case rel => exact ⟨i + 1, (V5, cap5), rfl, ⟨HKA.out, by have := HK.out; omega⟩, ⟨by
              have h_ := S11.out
              rw [← HY.out] at h_
              have e1 : insK t (i + 1) = insK t i ++ [t.getD (i + 1) 0] := insK_succ
              have e2 : cntK is (i + 1) = cntK is i := by rw [cntK_succ, if_neg (by rw [HB.out]; decide)]; rfl
              rw [e1, e2]
              unfold passQs
              rw [List.length_append, List.length_singleton]
              exact h_⟩⟩
        · have hi : i = n0 := by have := HK.out; omega
          subst hi
          have hdi : decide ((i : Int) < (i : Int)) = false := decide_eq_false (by omega)
          clear HK hA
          go_wp2
          clear c0 c1 c2 c3 c4 hdi
          go_loopg [12] c.f1.length (fun gg s12 wr => ∃ (l : Nat) (vF vL vOL : Option Addr × Nat), s12 = .int .i64 l ∧ Aside0 (l ≤ c.f1.length ∧ c.f1.length - l ≤ gg) ∧ Aside0 (Parts w.heap.size w wr (passQs w.heap.size gT cT gA cA (sizeC c + 1) gO gI gU w.heap.size (w.heap.size + 1) #[.int .i64 c.f0, .slice A1 c.f1.length k1, .slice A2 c.f2.length k2, .slice A3 c.f3.length k3, .slice A4 c.f4.length k4] t is (cntK is i) vI vF vL vOL (none, 0) (none, 0) (none, 0) (insK t i) (firK c is t l) (lasK c is l) (latK c is t l) [] [] [])))
          case atStart => exact ⟨0, (none, 0), (none, 0), (none, 0), rfl, ⟨by omega, by omega⟩, S⟩
          case round =>
            clear S
            obtain ⟨l, vF, vL, vOL, rfl, HK, S⟩ := hrel
            by_cases hB : l < c.f1.length
            · have HKB := Aside0.mk hB
              have hrs := resets_ok HC.out _ (List.getElem_mem hB)
              have hgl := List.getElem?_eq_getElem hB
              have HGL := Aside0.mk hgl
              obtain ⟨ad2, e2, hy0, hy1⟩ := at_latch HH.out.s1.r l hB
              cases e2
              have hx0 := (S.out.B.cell (World.block_lt_of_cell? _ _ hy0)).trans hy0
              have hx1 := (S.out.B.cell (World.block_lt_of_cell? _ _ hy1)).trans hy1
              have HGA := Aside0.mk (hin.out.hl (i + 1 + l) (c.f1[l]).f0 (by
                have h_ := HTN.out
                unfold latReads
                rw [if_pos (by omega), show i + 1 + l - (c.f0.toNat + 1) = l by omega, hgl]; simp))
              have S1 := Aside0.mk (S.out.new 49 #[.int .i64 (c.f1[l]).f0, .int .i64 (c.f1[l]).f1])
              obtain ⟨hr1, hr2⟩ := hrs
              obtain ⟨c0, c1, c2, c3, c4⟩ := blk5 (S.out.blk 12 rfl)
              have HLL := Aside0.mk (show i + l + 1 ≤ 1000 by have := HSZ.out; have := HN.out; omega)
              clear hy0 hy1 hgl
              generalize c.f1[l] = gt at *
              go_upto_region 25 with (fail)
              clear c0 c1 c2 c3 c4 hx0 hx1 S
              generalize wr.heap.size = gX at *
              generalize wr.alloc (.cells #[.int .i64 gt.f0, .int .i64 gt.f1] 49) = w8 at *
              obtain ⟨c0, c1, c2, c3, c4⟩ := blk5 (S1.out.blk 13 rfl)
              rw [HN0.out] at c0
              have hix : i + 1 + l < sizeC c + 1 := by have := HSZ.out; omega
              obtain ⟨cI, fI⟩ := S1.out.cellRow 2 rfl false (i + 1 + l) hix
              have hib : i + l ≤ 1000 := by have := HLL.out; omega
              have hii : (i : Int) + 1 + (l : Int) < ((sizeC c + 1 : Nat) : Int) := by omega
              have hii2 : (i : Int) + 1 + (l : Int) < (sizeC c : Int) + 1 := by omega
              have hit : ((i : Int) + 1 + (l : Int)).toNat = i + 1 + l := by omega
              have hge : 0 ≤ (i : Int) + 1 + (l : Int) := by omega
              obtain ⟨x0, q0⟩ := S1.out.cell 0 rfl 0 rfl
              obtain ⟨x1, q1⟩ := S1.out.cell 0 rfl 1 rfl
              obtain ⟨r2, z2⟩ := S1.out.cell 5 rfl 2 rfl
              cases hb : is.getD (i + 1 + l) false with
              | false =>
                rw [hb] at cI
                have HLN := Aside0.mk (show lasI c is l = none by
                  unfold lasI
                  rw [if_neg (by rw [HTN.out, hb]; decide)])
                have HTN2 := Aside0.mk (show latI c is t l = none by
                  unfold latI
                  rw [if_neg (by rw [HTN.out, hb]; decide)])
                have HFI := Aside0.mk (show firI c is t l = gt.f1 % 2 by
                  unfold firI
                  rw [if_neg (by rw [HTN.out, hb]; decide), HGL.out]; rfl)
                clear hb
                go_wp2_with (first | (at_builtin; refine Parts.appendL S1.out 7 rfl flat_int rfl (.tmp 99) (.tmp 103) 24 (.int .i64 0) 8 rfl Try.underlying24 infoInt rfl (by decide) (by decide) (gt.f1 % 2) [.int .i64 (gt.f1 % 2)] rfl rfl rfl (by rw [firK_len]; have := HLL.out; omega) ?_; intro V5 cap5 w10 h10; have S10 := Aside0.mk h10; clear h10 r2 z2; obtain ⟨r2, z2⟩ := S10.out.cell 5 rfl 2 rfl))
                have S11 := Aside0.mk ((S10.out.put 5 rfl 2 (.slice V5 ((firK c is t l).length + 1) cap5) rfl).tail)
                go_roundg (c.f1.length - (l + 1))
                case measure => have := HK.out; have := HKB.out; omega
                case rel => exact ⟨l + 1, (V5, cap5), vL, vOL, rfl, ⟨HKB.out, by have := HK.out; omega⟩, ⟨by
                  have h_ := S11.out
                  have e1 : firK c is t (l + 1) = firK c is t l ++ [gt.f1 % 2] := by rw [firK_succ, HFI.out]
                  have e2 : lasK c is (l + 1) = lasK c is l := by rw [lasK_succ, HLN.out]; exact List.append_nil _
                  have e3 : latK c is t (l + 1) = latK c is t l := by rw [latK_succ, HTN2.out]; exact List.append_nil _
                  rw [e1, e2, e3]
                  unfold passQs
                  rw [List.length_append, List.length_singleton]
                  exact h_⟩⟩
              | true =>
                rw [hb] at cI
                obtain ⟨rT, zT⟩ := S1.out.cellRow 1 rfl (0 : Int) (i + 1 + l) hix
                obtain ⟨y, hy⟩ : ∃ y, t.getD (i + 1 + l) 0 = y := ⟨_, rfl⟩
                rw [hy] at rT
                have HLN := Aside0.mk (show lasI c is l = some (2 * (c.f0 + 1 + (l : Int))) by
                  unfold lasI
                  rw [if_pos (by rw [HTN.out, hb])])
                have HTN2 := Aside0.mk (show latI c is t l = some ⟨plc t gt.f0, gt.f1⟩ by
                  unfold latI
                  rw [if_pos (by rw [HTN.out, hb]), HGL.out]; rfl)
                have HFI := Aside0.mk (show firI c is t l = y by
                  unfold firI
                  rw [if_pos (by rw [HTN.out, hb]), HTN.out, hy])
                have HLO := Aside0.mk (show latchOf c (l : Int) = 2 * (c.f0 + 1 + (l : Int)) by
                  have := HN0.out
                  unfold latchOf
                  rw [wrap_in (x := c.f0 + 1) (by omega) (by omega), wrap_in (x := c.f0 + 1 + (l : Int)) (by omega) (by omega), wrap_in (by omega) (by omega)])
                have HY := Aside0.mk hy
                have hwa : IntKind.i64.wrap ((i : Int) + 1) = (i : Int) + 1 := by rw [IntKind.wrap_i64]; omega
                have hwb : IntKind.i64.wrap ((i : Int) + 1 + (l : Int)) = (i : Int) + 1 + (l : Int) := by rw [IntKind.wrap_i64]; omega
                clear hb hy
                go_upto_region 27 with (fail)
                clear cI fI c1 c2 c3 c4
                go_wp2
                refine start_ (n := 14) (S := (fun w' => w'.cell? ⟨gU, 2, none⟩ = some (.slice vF.1 (firK c is t l).length vF.2) ∧ w'.cell? ⟨w.heap.size, 0, none⟩ = some (.int .i64 (i : Int)) ∧ w'.cell? ⟨gT, i + 1 + l, none⟩ = some (.int .i64 y))) (ds := [13]) #[false, false, false, false, false, false, false, false, false, false, false, false, false, false] (by kernel_rfl) rfl rfl ⟨r2, c0, rT⟩ (fun hHeld => ?_)
                refine pure_ (i := 0) (N := some 106) (v := ?_) (a' := ?_) #[true, false, false, false, false, false, false, false, false, false, false, false, false, false] rfl rfl (by kernel_rfl) (fun _ _ _ h => h) (Or.inl ⟨by rfl, ?_⟩) ?_ ?_
                rotate_left
                · intro w'
                  go_simp
                  with_reducible rfl
                rotate_left
                · simp only [Act.put, List.setIfInBounds_toArray, List.set_cons_zero, List.set_cons_succ]
                  rfl
                refine pure_ (i := 2) (N := some 108) (v := ?_) (a' := ?_) #[true, false, true, false, false, false, false, false, false, false, false, false, false, false] rfl rfl (by kernel_rfl) (fun _ _ _ h => h) (Or.inl ⟨by rfl, ?_⟩) ?_ ?_
                rotate_left
                · intro w'
                  go_simp
                  with_reducible rfl
                rotate_left
                · simp only [Act.put, List.setIfInBounds_toArray, List.set_cons_zero, List.set_cons_succ]
                  rfl
                refine pure_ (i := 3) (N := some 109) (v := ?_) (a' := ?_) #[true, false, true, true, false, false, false, false, false, false, false, false, false, false] rfl rfl (by kernel_rfl) (fun _ _ _ h => h) (Or.inl ⟨by rfl, ?_⟩) ?_ ?_
                rotate_left
                · intro w'
                  go_simp
                  with_reducible rfl
                rotate_left
                · simp only [Act.put, List.setIfInBounds_toArray, List.set_cons_zero, List.set_cons_succ]
                  rfl
                refine pure_ (i := 6) (N := some 112) (v := ?_) (a' := ?_) #[true, false, true, true, false, false, true, false, false, false, false, false, false, false] rfl rfl (by kernel_rfl) (fun _ _ _ h => h) (Or.inl ⟨by rfl, ?_⟩) ?_ ?_
                rotate_left
                · intro w'
                  go_simp
                  with_reducible rfl
                rotate_left
                · simp only [Act.put, List.setIfInBounds_toArray, List.set_cons_zero, List.set_cons_succ]
                  rfl
                refine take_ (i := 1) (N := some 107) (v := ?_) (a' := ?_) #[true, true, true, true, false, false, true, false, false, false, false, false, false, false] rfl rfl (by kernel_rfl) (fun _ _ _ h => h) (Or.inl ⟨by rfl, ?_⟩) hHeld ?_ ?_
                rotate_left
                · rintro w' ⟨s0, s1, s2⟩
                  go_simp
                  with_reducible rfl
                rotate_left
                · simp only [Act.put, List.setIfInBounds_toArray, List.set_cons_zero, List.set_cons_succ]
                  rfl
                refine take_ (i := 4) (N := some 110) (v := ?_) (a' := ?_) #[true, true, true, true, true, false, true, false, false, false, false, false, false, false] rfl rfl (by kernel_rfl) (fun _ _ _ h => h) (Or.inl ⟨by rfl, ?_⟩) hHeld ?_ ?_
                rotate_left
                · rintro w' ⟨s0, s1, s2⟩
                  go_simp
                  with_reducible rfl
                rotate_left
                · simp only [Act.put, List.setIfInBounds_toArray, List.set_cons_zero, List.set_cons_succ]
                  rfl
                refine pure_ (i := 5) (N := some 111) (v := ?_) (a' := ?_) #[true, true, true, true, true, true, true, false, false, false, false, false, false, false] rfl rfl (by kernel_rfl) (fun _ _ _ h => h) (Or.inl ⟨by rfl, ?_⟩) ?_ ?_
                rotate_left
                · intro w'
                  go_simp
                  with_reducible rfl
                rotate_left
                · simp only [Act.put, List.setIfInBounds_toArray, List.set_cons_zero, List.set_cons_succ]
                  rfl
                refine pure_ (i := 7) (N := some 113) (v := ?_) (a' := ?_) #[true, true, true, true, true, true, true, true, false, false, false, false, false, false] rfl rfl (by kernel_rfl) (fun _ _ _ h => h) (Or.inl ⟨by rfl, ?_⟩) ?_ ?_
                rotate_left
                · intro w'
                  go_simp
                  with_reducible rfl
                rotate_left
                · simp only [Act.put, List.setIfInBounds_toArray, List.set_cons_zero, List.set_cons_succ]
                  rfl
                refine pure_ (i := 8) (N := some 114) (v := ?_) (a' := ?_) #[true, true, true, true, true, true, true, true, true, false, false, false, false, false] rfl rfl (by kernel_rfl) (fun _ _ _ h => h) (Or.inl ⟨by rfl, ?_⟩) ?_ ?_
                rotate_left
                · intro w'
                  go_simp
                  with_reducible rfl
                rotate_left
                · simp only [Act.put, List.setIfInBounds_toArray, List.set_cons_zero, List.set_cons_succ]
                  rfl
                refine take_ (i := 9) (N := some 115) (v := ?_) (a' := ?_) #[true, true, true, true, true, true, true, true, true, true, false, false, false, false] rfl rfl (by kernel_rfl) (fun _ _ _ h => h) (Or.inl ⟨by rfl, ?_⟩) hHeld ?_ ?_
                rotate_left
                · rintro w' ⟨s0, s1, s2⟩
                  go_simp
                  with_reducible rfl
                rotate_left
                · simp only [Act.put, List.setIfInBounds_toArray, List.set_cons_zero, List.set_cons_succ]
                  rfl
                refine one_ (i := 10) (N := some 116) #[true, true, true, true, true, true, true, true, true, true, true, false, false, false] rfl rfl (by kernel_rfl) (by decide) (fun K hK => ?_)
                refine value_ (w1 := ?_) (v := ?_) (by rfl) rfl ?_ ?_
                rotate_left 2
                · go_simp
                  constructor
                  · rfl
                  · rfl
                refine hK.out _ _ ⟨(World.cell?_alloc_lt _ _ _ (World.block_lt_of_cell? _ _ hHeld.1)).trans hHeld.1, (World.cell?_alloc_lt _ _ _ (World.block_lt_of_cell? _ _ hHeld.2.1)).trans hHeld.2.1, (World.cell?_alloc_lt _ _ _ (World.block_lt_of_cell? _ _ hHeld.2.2)).trans hHeld.2.2⟩ (fun hHeld => ?_)
                clear hK K
                refine norm_ (a' := ?_) ?_ ?_
                rotate_left
                · show Act.put _ (some 116) _ = _
                  simp only [Act.put, List.setIfInBounds_toArray, List.set_cons_zero, List.set_cons_succ]
                  rfl
                refine one_ (i := 11) (N := some 117) #[true, true, true, true, true, true, true, true, true, true, true, true, false, false] rfl rfl (by kernel_rfl) (by decide) (fun K hK => ?_)
                refine Parts.appendS S1.out.drew 7 rfl flat_int (by rfl) (.tmp 107) (.tmp 116) 24 (.int .i64 0) 8 rfl Try.underlying24 infoInt rfl (by decide) (by decide) y [.int .i64 y] rfl rfl rfl (by rw [firK_len]; have := HLL.out; omega) ?_
                intro V5 cap5 w10 h10
                have S10 := Aside0.mk h10
                clear h10 r2 z2 c0 rT zT
                obtain ⟨r2, z2⟩ := S10.out.cell 5 rfl 2 rfl
                obtain ⟨c0, c1, c2, c3, c4⟩ := blk5 (S10.out.blk 13 rfl)
                rw [HN0.out] at c0
                obtain ⟨rT, zT⟩ := S10.out.cellRow 1 rfl (0 : Int) (i + 1 + l) hix
                rw [HY.out] at rT
                refine hK.out _ _ ⟨r2, c0, rT⟩ (fun hHeld => ?_)
                clear hK K
                refine norm_ (a' := ?_) ?_ ?_
                rotate_left
                · show Act.put _ (some 117) _ = _
                  simp only [Act.put, List.setIfInBounds_toArray, List.set_cons_zero, List.set_cons_succ]
                  rfl
                refine pure_ (i := 12) (N := some 118) (v := ?_) (a' := ?_) #[true, true, true, true, true, true, true, true, true, true, true, true, true, false] rfl rfl (by kernel_rfl) (fun _ _ _ h => h) (Or.inl ⟨by rfl, ?_⟩) ?_ ?_
                rotate_left
                · intro w'
                  go_simp
                  with_reducible rfl
                rotate_left
                · simp only [Act.put, List.setIfInBounds_toArray, List.set_cons_zero, List.set_cons_succ]
                  rfl
                refine last_ (i := 13) (N := none) #[true, true, true, true, true, true, true, true, true, true, true, true, true, true] rfl rfl (by kernel_rfl) (by decide) (fun K hK => ?_)
                refine skip_ (w1 := ?_) (by rfl) rfl ?_ ?_
                rotate_left
                · go_simp
                  rfl
                refine hK.out _ _ ?_
                clear hK K
                refine done_ (by kernel_rfl) ?_
                have S11 := Aside0.mk (S10.out.put 5 rfl 2 (.slice V5 ((firK c is t l).length + 1) cap5) rfl)
                clear r2 z2 c0 c1 c2 c3 c4 rT zT S10 S1 x0 q0 x1 q1
                generalize w10.setCell ⟨gU, 2, none⟩ (.slice V5 ((firK c is t l).length + 1) cap5) = w11 at *
                obtain ⟨r4, z4⟩ := S11.out.cell 5 rfl 4 rfl
                obtain ⟨c0, c1, c2, c3, c4⟩ := blk5 (S11.out.blk 13 rfl)
                go_wp2
                refine start_ (n := 9) (S := (fun w' => w'.cell? ⟨gU, 4, none⟩ = some (.slice vL.1 (lasK c is l).length vL.2) ∧ w'.cell? ⟨w.heap.size, 0, none⟩ = some (.int .i64 c.f0) ∧ w'.cell? ⟨w.heap.size, 1, none⟩ = some (.slice (some ad2) c.f1.length k1) ∧ w'.cell? ⟨w.heap.size, 2, none⟩ = some (.slice A2 c.f2.length k2) ∧ w'.cell? ⟨w.heap.size, 3, none⟩ = some (.slice A3 c.f3.length k3) ∧ w'.cell? ⟨w.heap.size, 4, none⟩ = some (.slice A4 c.f4.length k4))) (ds := [8]) #[false, false, false, false, false, false, false, false, false] (by kernel_rfl) rfl rfl ⟨r4, c0, c1, c2, c3, c4⟩ (fun hHeld => ?_)
                refine pure_ (i := 0) (N := some 119) (v := ?_) (a' := ?_) #[true, false, false, false, false, false, false, false, false] rfl rfl (by kernel_rfl) (fun _ _ _ h => h) (Or.inl ⟨by rfl, ?_⟩) ?_ ?_
                rotate_left
                · intro w'
                  go_simp
                  with_reducible rfl
                rotate_left
                · simp only [Act.put, List.setIfInBounds_toArray, List.set_cons_zero, List.set_cons_succ]
                  rfl
                refine pure_ (i := 3) (N := some 122) (v := ?_) (a' := ?_) #[true, false, false, true, false, false, false, false, false] rfl rfl (by kernel_rfl) (fun _ _ _ h => h) (Or.inl ⟨by rfl, ?_⟩) ?_ ?_
                rotate_left
                · intro w'
                  go_simp
                  with_reducible rfl
                rotate_left
                · simp only [Act.put, List.setIfInBounds_toArray, List.set_cons_zero, List.set_cons_succ]
                  rfl
                refine take_ (i := 1) (N := some 120) (v := ?_) (a' := ?_) #[true, true, false, true, false, false, false, false, false] rfl rfl (by kernel_rfl) (fun _ _ _ h => h) (Or.inl ⟨by rfl, ?_⟩) hHeld ?_ ?_
                rotate_left
                · rintro w' ⟨s0, s1, s2, s3, s4, s5⟩
                  go_simp
                  with_reducible rfl
                rotate_left
                · simp only [Act.put, List.setIfInBounds_toArray, List.set_cons_zero, List.set_cons_succ]
                  rfl
                refine take_ (i := 2) (N := some 121) (v := ?_) (a' := ?_) #[true, true, true, true, false, false, false, false, false] rfl rfl (by kernel_rfl) (fun _ _ _ h => h) (Or.inl ⟨by rfl, ?_⟩) hHeld ?_ ?_
                rotate_left
                · rintro w' ⟨s0, s1, s2, s3, s4, s5⟩
                  go_simp
                  with_reducible rfl
                rotate_left
                · simp only [Act.put, List.setIfInBounds_toArray, List.set_cons_zero, List.set_cons_succ]
                  rfl
                refine one_ (i := 4) (N := some 123) #[true, true, true, true, true, false, false, false, false] rfl rfl (by kernel_rfl) (by decide) (fun K hK => ?_)
                refine goes_ Try.func36 (by kernel_rfl) rfl #[cv ⟨some ad2, k1, A2, k2, A3, k3, A4, k4⟩ c, .int .i64 (l : Int)] (by rfl) rfl rfl (by simp only [List.map_toArray, List.map_cons, List.map_nil] <;> rfl) ?_
                refine (HLT.out l _ S11.out.drew.B).mono ?_
                rintro e w12 ⟨rfl, hb_⟩
                refine ⟨_, rfl, ?_⟩
                have S12 := Aside0.mk (S11.out.drew.below hb_)
                clear hb_
                rw [HLO.out]
                refine hK.out _ _ ⟨(S12.out.cell 5 rfl 4 rfl).1, (S12.out.cell 13 rfl 0 rfl).1, (S12.out.cell 13 rfl 1 rfl).1, (S12.out.cell 13 rfl 2 rfl).1, (S12.out.cell 13 rfl 3 rfl).1, (S12.out.cell 13 rfl 4 rfl).1⟩ (fun hHeld => ?_)
                clear hK K
                refine norm_ (a' := ?_) ?_ ?_
                rotate_left
                · show Act.put _ (some 123) _ = _
                  simp only [Act.put, List.setIfInBounds_toArray, List.set_cons_zero, List.set_cons_succ]
                  rfl
                refine one_ (i := 5) (N := some 124) #[true, true, true, true, true, true, false, false, false] rfl rfl (by kernel_rfl) (by decide) (fun K hK => ?_)
                refine value_ (w1 := ?_) (v := ?_) (by rfl) rfl ?_ ?_
                rotate_left 2
                · go_simp
                  constructor
                  · rfl
                  · rfl
                refine hK.out _ _ ⟨(World.cell?_alloc_lt _ _ _ (World.block_lt_of_cell? _ _ hHeld.1)).trans hHeld.1, (World.cell?_alloc_lt _ _ _ (World.block_lt_of_cell? _ _ hHeld.2.1)).trans hHeld.2.1, (World.cell?_alloc_lt _ _ _ (World.block_lt_of_cell? _ _ hHeld.2.2.1)).trans hHeld.2.2.1, (World.cell?_alloc_lt _ _ _ (World.block_lt_of_cell? _ _ hHeld.2.2.2.1)).trans hHeld.2.2.2.1, (World.cell?_alloc_lt _ _ _ (World.block_lt_of_cell? _ _ hHeld.2.2.2.2.1)).trans hHeld.2.2.2.2.1, (World.cell?_alloc_lt _ _ _ (World.block_lt_of_cell? _ _ hHeld.2.2.2.2.2)).trans hHeld.2.2.2.2.2⟩ (fun hHeld => ?_)
                clear hK K
                refine norm_ (a' := ?_) ?_ ?_
                rotate_left
                · show Act.put _ (some 124) _ = _
                  simp only [Act.put, List.setIfInBounds_toArray, List.set_cons_zero, List.set_cons_succ]
                  rfl
                refine one_ (i := 6) (N := some 125) #[true, true, true, true, true, true, true, false, false] rfl rfl (by kernel_rfl) (by decide) (fun K hK => ?_)
                refine Parts.appendS S12.out 8 rfl flat_int (by rfl) (.tmp 120) (.tmp 124) 24 (.int .i64 0) 8 rfl Try.underlying24 infoInt rfl (by decide) (by decide) (2 * (c.f0 + 1 + (l : Int))) [.int .i64 (2 * (c.f0 + 1 + (l : Int)))] rfl rfl rfl (by have := lasK_len (c := c) (is := is) (k := l); have := HLL.out; omega) ?_
                intro V6 cap6 w13 h13
                have S13 := Aside0.mk h13
                clear h13 r4 z4 c0 c1 c2 c3 c4
                refine hK.out _ _ ⟨(S13.out.cell 5 rfl 4 rfl).1, (S13.out.cell 13 rfl 0 rfl).1, (S13.out.cell 13 rfl 1 rfl).1, (S13.out.cell 13 rfl 2 rfl).1, (S13.out.cell 13 rfl 3 rfl).1, (S13.out.cell 13 rfl 4 rfl).1⟩ (fun hHeld => ?_)
                clear hK K
                refine norm_ (a' := ?_) ?_ ?_
                rotate_left
                · show Act.put _ (some 125) _ = _
                  simp only [Act.put, List.setIfInBounds_toArray, List.set_cons_zero, List.set_cons_succ]
                  rfl
                obtain ⟨r4, z4⟩ := S13.out.cell 5 rfl 4 rfl
                refine pure_ (i := 7) (N := some 126) (v := ?_) (a' := ?_) #[true, true, true, true, true, true, true, true, false] rfl rfl (by kernel_rfl) (fun _ _ _ h => h) (Or.inl ⟨by rfl, ?_⟩) ?_ ?_
                rotate_left
                · intro w'
                  go_simp
                  with_reducible rfl
                rotate_left
                · simp only [Act.put, List.setIfInBounds_toArray, List.set_cons_zero, List.set_cons_succ]
                  rfl
                refine last_ (i := 8) (N := none) #[true, true, true, true, true, true, true, true, true] rfl rfl (by kernel_rfl) (by decide) (fun K hK => ?_)
                refine skip_ (w1 := ?_) (by rfl) rfl ?_ ?_
                rotate_left
                · go_simp
                  rfl
                refine hK.out _ _ ?_
                clear hK K
                refine done_ (by kernel_rfl) ?_
                have S14 := Aside0.mk (S13.out.put 5 rfl 4 (.slice V6 ((lasK c is l).length + 1) cap6) rfl)
                clear r4 z4 S13 S12 S11
                generalize w13.setCell ⟨gU, 4, none⟩ (.slice V6 ((lasK c is l).length + 1) cap6) = w14 at *
                obtain ⟨r1, z1⟩ := S14.out.cell 3 rfl 1 rfl
                obtain ⟨x0, q0⟩ := S14.out.cell 0 rfl 0 rfl
                obtain ⟨x1, q1⟩ := S14.out.cell 0 rfl 1 rfl
                go_wp2
                refine start_ (n := 13) (S := (fun w' => w'.cell? ⟨gO, 1, none⟩ = some (.slice vOL.1 (latK c is t l).length vOL.2) ∧ w'.cell? ⟨gX, 0, none⟩ = some (.int .i64 gt.f0) ∧ w'.cell? ⟨gX, 1, none⟩ = some (.int .i64 gt.f1))) (ds := [12]) #[false, false, false, false, false, false, false, false, false, false, false, false, false] (by kernel_rfl) rfl rfl ⟨r1, x0, x1⟩ (fun hHeld => ?_)
                refine pure_ (i := 0) (N := some 127) (v := ?_) (a' := ?_) #[true, false, false, false, false, false, false, false, false, false, false, false, false] rfl rfl (by kernel_rfl) (fun _ _ _ h => h) (Or.inl ⟨by rfl, ?_⟩) ?_ ?_
                rotate_left
                · intro w'
                  go_simp
                  with_reducible rfl
                rotate_left
                · simp only [Act.put, List.setIfInBounds_toArray, List.set_cons_zero, List.set_cons_succ]
                  rfl
                refine pure_ (i := 2) (N := some 129) (v := ?_) (a' := ?_) #[true, false, true, false, false, false, false, false, false, false, false, false, false] rfl rfl (by kernel_rfl) (fun _ _ _ h => h) (Or.inl ⟨by rfl, ?_⟩) ?_ ?_
                rotate_left
                · intro w'
                  go_simp
                  with_reducible rfl
                rotate_left
                · simp only [Act.put, List.setIfInBounds_toArray, List.set_cons_zero, List.set_cons_succ]
                  rfl
                refine pure_ (i := 3) (N := some 130) (v := ?_) (a' := ?_) #[true, false, true, true, false, false, false, false, false, false, false, false, false] rfl rfl (by kernel_rfl) (fun _ _ _ h => h) (Or.inl ⟨by rfl, ?_⟩) ?_ ?_
                rotate_left
                · intro w'
                  go_simp
                  with_reducible rfl
                rotate_left
                · simp only [Act.put, List.setIfInBounds_toArray, List.set_cons_zero, List.set_cons_succ]
                  rfl
                refine pure_ (i := 6) (N := some 133) (v := ?_) (a' := ?_) #[true, false, true, true, false, false, true, false, false, false, false, false, false] rfl rfl (by kernel_rfl) (fun _ _ _ h => h) (Or.inl ⟨by rfl, ?_⟩) ?_ ?_
                rotate_left
                · intro w'
                  go_simp
                  with_reducible rfl
                rotate_left
                · simp only [Act.put, List.setIfInBounds_toArray, List.set_cons_zero, List.set_cons_succ]
                  rfl
                refine take_ (i := 1) (N := some 128) (v := ?_) (a' := ?_) #[true, true, true, true, false, false, true, false, false, false, false, false, false] rfl rfl (by kernel_rfl) (fun _ _ _ h => h) (Or.inl ⟨by rfl, ?_⟩) hHeld ?_ ?_
                rotate_left
                · rintro w' ⟨s0, s1, s2⟩
                  go_simp
                  with_reducible rfl
                rotate_left
                · simp only [Act.put, List.setIfInBounds_toArray, List.set_cons_zero, List.set_cons_succ]
                  rfl
                refine take_ (i := 4) (N := some 131) (v := ?_) (a' := ?_) #[true, true, true, true, true, false, true, false, false, false, false, false, false] rfl rfl (by kernel_rfl) (fun _ _ _ h => h) (Or.inl ⟨by rfl, ?_⟩) hHeld ?_ ?_
                rotate_left
                · rintro w' ⟨s0, s1, s2⟩
                  go_simp
                  with_reducible rfl
                rotate_left
                · simp only [Act.put, List.setIfInBounds_toArray, List.set_cons_zero, List.set_cons_succ]
                  rfl
                refine take_ (i := 7) (N := some 134) (v := ?_) (a' := ?_) #[true, true, true, true, true, false, true, true, false, false, false, false, false] rfl rfl (by kernel_rfl) (fun _ _ _ h => h) (Or.inl ⟨by rfl, ?_⟩) hHeld ?_ ?_
                rotate_left
                · rintro w' ⟨s0, s1, s2⟩
                  go_simp
                  with_reducible rfl
                rotate_left
                · simp only [Act.put, List.setIfInBounds_toArray, List.set_cons_zero, List.set_cons_succ]
                  rfl
                refine one_ (i := 5) (N := some 132) #[true, true, true, true, true, true, true, true, false, false, false, false, false] rfl rfl (by kernel_rfl) (by decide) (fun K hK => ?_)
                refine goes_ Try.func37 (by kernel_rfl) rfl #[.slice (some ⟨gT, 0, none⟩) (sizeC c + 1) cT, .int .i64 gt.f0] (by rfl) rfl rfl (by simp only [List.map_toArray, List.map_cons, List.map_nil] <;> rfl) ?_
                refine (HPL.out cT gt.f0 _ (S14.out.drew.rowF 1 rfl) HGA.out.1 HGA.out.2).mono ?_
                rintro e w15 ⟨rfl, hb_⟩
                refine ⟨_, rfl, ?_⟩
                have S15 := Aside0.mk (S14.out.drew.below hb_)
                clear hb_
                refine hK.out _ _ ⟨(S15.out.cell 3 rfl 1 rfl).1, (S15.out.cell 0 rfl 0 rfl).1, (S15.out.cell 0 rfl 1 rfl).1⟩ (fun hHeld => ?_)
                clear hK K
                refine norm_ (a' := ?_) ?_ ?_
                rotate_left
                · show Act.put _ (some 132) _ = _
                  simp only [Act.put, List.setIfInBounds_toArray, List.set_cons_zero, List.set_cons_succ]
                  rfl
                refine pure_ (i := 8) (N := some 135) (v := ?_) (a' := ?_) #[true, true, true, true, true, true, true, true, true, false, false, false, false] rfl rfl (by kernel_rfl) (fun _ _ _ h => h) (Or.inl ⟨by rfl, ?_⟩) ?_ ?_
                rotate_left
                · intro w'
                  go_simp
                  with_reducible rfl
                rotate_left
                · simp only [Act.put, List.setIfInBounds_toArray, List.set_cons_zero, List.set_cons_succ]
                  rfl
                refine one_ (i := 9) (N := some 136) #[true, true, true, true, true, true, true, true, true, true, false, false, false] rfl rfl (by kernel_rfl) (by decide) (fun K hK => ?_)
                refine value_ (w1 := ?_) (v := ?_) (by rfl) rfl ?_ ?_
                rotate_left 2
                · go_simp
                  constructor
                  · rfl
                  · rfl
                refine hK.out _ _ ⟨(World.cell?_alloc_lt _ _ _ (World.block_lt_of_cell? _ _ hHeld.1)).trans hHeld.1, (World.cell?_alloc_lt _ _ _ (World.block_lt_of_cell? _ _ hHeld.2.1)).trans hHeld.2.1, (World.cell?_alloc_lt _ _ _ (World.block_lt_of_cell? _ _ hHeld.2.2)).trans hHeld.2.2⟩ (fun hHeld => ?_)
                clear hK K
                refine norm_ (a' := ?_) ?_ ?_
                rotate_left
                · show Act.put _ (some 136) _ = _
                  simp only [Act.put, List.setIfInBounds_toArray, List.set_cons_zero, List.set_cons_succ]
                  rfl
                refine one_ (i := 10) (N := some 137) #[true, true, true, true, true, true, true, true, true, true, true, false, false] rfl rfl (by kernel_rfl) (by decide) (fun K hK => ?_)
                refine Parts.appendS S15.out 9 rfl flat_latch (by rfl) (.tmp 128) (.tmp 136) 22 (.agg #[.int .i64 0, .int .i64 0]) 16 rfl Try.underlying22 infoLatchC rfl (by decide) (by decide) ⟨plc t gt.f0, gt.f1⟩ [.int .i64 (plc t gt.f0), .int .i64 gt.f1] rfl rfl (kLatch_mkM _ _ _ _) (by have := latK_len (c := c) (is := is) (t := t) (k := l); have := HLL.out; omega) ?_
                intro V7 cap7 w16 h16
                have S16 := Aside0.mk h16
                clear h16 r1 z1 x0 q0 x1 q1
                obtain ⟨r1, z1⟩ := S16.out.cell 3 rfl 1 rfl
                obtain ⟨x0, q0⟩ := S16.out.cell 0 rfl 0 rfl
                obtain ⟨x1, q1⟩ := S16.out.cell 0 rfl 1 rfl
                refine hK.out _ _ ⟨r1, x0, x1⟩ (fun hHeld => ?_)
                clear hK K
                refine norm_ (a' := ?_) ?_ ?_
                rotate_left
                · show Act.put _ (some 137) _ = _
                  simp only [Act.put, List.setIfInBounds_toArray, List.set_cons_zero, List.set_cons_succ]
                  rfl
                refine pure_ (i := 11) (N := some 138) (v := ?_) (a' := ?_) #[true, true, true, true, true, true, true, true, true, true, true, true, false] rfl rfl (by kernel_rfl) (fun _ _ _ h => h) (Or.inl ⟨by rfl, ?_⟩) ?_ ?_
                rotate_left
                · intro w'
                  go_simp
                  with_reducible rfl
                rotate_left
                · simp only [Act.put, List.setIfInBounds_toArray, List.set_cons_zero, List.set_cons_succ]
                  rfl
                refine last_ (i := 12) (N := none) #[true, true, true, true, true, true, true, true, true, true, true, true, true] rfl rfl (by kernel_rfl) (by decide) (fun K hK => ?_)
                refine skip_ (w1 := ?_) (by rfl) rfl ?_ ?_
                rotate_left
                · go_simp
                  rfl
                refine hK.out _ _ ?_
                clear hK K
                refine done_ (by kernel_rfl) ?_
                have S17 := Aside0.mk ((S16.out.put 3 rfl 1 (.slice V7 ((latK c is t l).length + 1) cap7) rfl).tail)
                clear r1 z1 x0 q0 x1 q1 S16 S15 S14
                go_wp2
                go_roundg (c.f1.length - (l + 1))
                case measure => have := HK.out; have := HKB.out; omega
                case rel => exact ⟨l + 1, (V5, cap5), (V6, cap6), (V7, cap7), rfl, ⟨HKB.out, by have := HK.out; omega⟩, ⟨by
                  have h_ := S17.out
                  have e1 : firK c is t (l + 1) = firK c is t l ++ [y] := by rw [firK_succ, HFI.out]
                  have e2 : lasK c is (l + 1) = lasK c is l ++ [2 * (c.f0 + 1 + (l : Int))] := by rw [lasK_succ, HLN.out]; rfl
                  have e3 : latK c is t (l + 1) = latK c is t l ++ [⟨plc t gt.f0, gt.f1⟩] := by rw [latK_succ, HTN2.out]; rfl
                  rw [e1, e2, e3]
                  unfold passQs
                  simp only [List.length_append, List.length_singleton]
                  exact h_⟩⟩
            · have hl : l = c.f1.length := by have := HK.out; omega
              subst hl
              clear HK hB
              obtain ⟨c0, c1, c2, c3, c4⟩ := blk5 (S.out.blk 12 rfl)
              go_wp2
              clear c0 c1 c2 c3 c4
              go_loopg [14] c.f2.length (fun gg s14 wr => ∃ (k : Nat) (vOA : Option Addr × Nat), s14 = .int .i64 k ∧ Aside0 (k ≤ c.f2.length ∧ c.f2.length - k ≤ gg) ∧ Aside0 (Parts w.heap.size w wr (passQs w.heap.size gT cT gA cA (sizeC c + 1) gO gI gU w.heap.size (w.heap.size + 1) #[.int .i64 c.f0, .slice A1 c.f1.length k1, .slice A2 c.f2.length k2, .slice A3 c.f3.length k3, .slice A4 c.f4.length k4] t is (cntK is i) vI vF vL vOL vOA (none, 0) (none, 0) (insK t i) (firK c is t c.f1.length) (lasK c is c.f1.length) (latK c is t c.f1.length) (andK c is t k) [] [])))
              case atStart => exact ⟨0, (none, 0), rfl, ⟨by omega, by omega⟩, S⟩
              case round =>
                clear S
                obtain ⟨k, vOA, rfl, HK, S⟩ := hrel
                by_cases hlt : k < c.f2.length
                ·
                  obtain ⟨ad2, e2, hy0, hy1⟩ := at_gate HH.out.s2.r k hlt
                  cases e2
                  have HKK := Aside0.mk hlt
                  have HGL := Aside0.mk (List.getElem?_eq_getElem hlt)
                  have hgr : gateReads c (i + c.f1.length + 1 + k) = [(c.f2[k]).f0, (c.f2[k]).f1] := by
                    unfold gateReads
                    rw [if_pos (by have := HTN.out; omega), show i + c.f1.length + 1 + k - (c.f0.toNat + c.f1.length + 1) = k by have := HTN.out; omega, List.getElem?_eq_getElem hlt]; rfl
                  have HGA := Aside0.mk (hin.out.hg (i + c.f1.length + 1 + k) (c.f2[k]).f0 (by rw [hgr]; simp))
                  have HGB := Aside0.mk (hin.out.hg (i + c.f1.length + 1 + k) (c.f2[k]).f1 (by rw [hgr]; simp))
                  have HY0 := Aside0.mk (fun (W : World) (hW : Below w.heap.size w W) => (hW.cell (World.block_lt_of_cell? _ _ hy0)).trans hy0)
                  have HY1 := Aside0.mk (fun (W : World) (hW : Below w.heap.size w W) => (hW.cell (World.block_lt_of_cell? _ _ hy1)).trans hy1)
                  have hx0 := HY0.out _ S.out.B
                  have hx1 := HY1.out _ S.out.B
                  obtain ⟨c0, c1, c2, c3, c4⟩ := blk5 (S.out.blk 12 rfl)
                  rw [HN0.out] at c0
                  have hix : i + c.f1.length + 1 + k < sizeC c + 1 := by have := HSZ.out; omega
                  obtain ⟨cI, fI⟩ := S.out.cellRow 1 rfl false (i + c.f1.length + 1 + k) hix
                  have HLL := Aside0.mk (show i + c.f1.length + 1 + k ≤ 1000 by have := HSZ.out; have := HN.out; omega)
                  have hib : i + c.f1.length + 1 + k ≤ 1000 := HLL.out
                  have hii : (i : Int) + (c.f1.length : Int) + 1 + (k : Int) < ((sizeC c + 1 : Nat) : Int) := by omega
                  have hii2 : (i : Int) + (c.f1.length : Int) + 1 + (k : Int) < (sizeC c : Int) + 1 := by omega
                  have hit : ((i : Int) + (c.f1.length : Int) + 1 + (k : Int)).toNat = i + c.f1.length + 1 + k := by omega
                  have hge : 0 ≤ (i : Int) + (c.f1.length : Int) + 1 + (k : Int) := by omega
                  clear hy0 hy1 hgr
                  generalize c.f2[k] = gt at *
                  cases hb : is.getD (i + c.f1.length + 1 + k) false with
                  | false =>
                    rw [hb] at cI
                    have HAI := Aside0.mk (show andI c is t k = none by
                      unfold andI
                      rw [if_neg (by rw [HTN.out, hb]; decide)])
                    clear hb
                    go_wp2
                    go_roundg (c.f2.length - (k + 1))
                    case measure => have := HK.out; have := HKK.out; omega
                    case rel => exact ⟨k + 1, vOA, rfl, ⟨HKK.out, by have := HK.out; omega⟩, ⟨by
                      have e1 : andK c is t (k + 1) = andK c is t k := by rw [andK_succ, HAI.out]; exact List.append_nil _
                      rw [e1]; exact S.out⟩⟩
                  | true =>
                    rw [hb] at cI
                    have HAI := Aside0.mk (show andI c is t k = some ⟨plc t gt.f0, plc t gt.f1⟩ by
                      unfold andI
                      rw [if_pos (by rw [HTN.out, hb]), HGL.out]; rfl)
                    clear hb
                    go_upto_region 34 with (fail)
                    clear cI fI
                    obtain ⟨r1, z1⟩ := S.out.cell 2 rfl 2 rfl
                    go_wp2
                    refine start_ (n := 23) (S := (fun w' => w'.cell? ⟨gO, 2, none⟩ = some (.slice vOA.1 (andK c is t k).length vOA.2) ∧ w'.cell? ⟨w.heap.size, 2, none⟩ = some (.slice (some ad2) c.f2.length k2) ∧ w'.cell? (ad2.add (k * 2)) = some (.int .i64 gt.f0) ∧ w'.cell? ⟨(ad2.add (k * 2)).block, (ad2.add (k * 2)).off + 1, none⟩ = some (.int .i64 gt.f1))) (ds := [22]) #[false, false, false, false, false, false, false, false, false, false, false, false, false, false, false, false, false, false, false, false, false, false, false] (by kernel_rfl) rfl rfl ⟨r1, c2, hx0, hx1⟩ (fun hHeld => ?_)
                    refine pure_ (i := 0) (N := some 158) (v := ?_) (a' := ?_) #[true, false, false, false, false, false, false, false, false, false, false, false, false, false, false, false, false, false, false, false, false, false, false] rfl rfl (by kernel_rfl) (fun _ _ _ h => h) (Or.inl ⟨by rfl, ?_⟩) ?_ ?_
                    rotate_left
                    · intro w'
                      go_simp
                      with_reducible rfl
                    rotate_left
                    · simp only [Act.put, List.setIfInBounds_toArray, List.set_cons_zero, List.set_cons_succ]
                      rfl
                    refine pure_ (i := 2) (N := some 160) (v := ?_) (a' := ?_) #[true, false, true, false, false, false, false, false, false, false, false, false, false, false, false, false, false, false, false, false, false, false, false] rfl rfl (by kernel_rfl) (fun _ _ _ h => h) (Or.inl ⟨by rfl, ?_⟩) ?_ ?_
                    rotate_left
                    · intro w'
                      go_simp
                      with_reducible rfl
                    rotate_left
                    · simp only [Act.put, List.setIfInBounds_toArray, List.set_cons_zero, List.set_cons_succ]
                      rfl
                    refine pure_ (i := 3) (N := some 161) (v := ?_) (a' := ?_) #[true, false, true, true, false, false, false, false, false, false, false, false, false, false, false, false, false, false, false, false, false, false, false] rfl rfl (by kernel_rfl) (fun _ _ _ h => h) (Or.inl ⟨by rfl, ?_⟩) ?_ ?_
                    rotate_left
                    · intro w'
                      go_simp
                      with_reducible rfl
                    rotate_left
                    · simp only [Act.put, List.setIfInBounds_toArray, List.set_cons_zero, List.set_cons_succ]
                      rfl
                    refine pure_ (i := 5) (N := some 163) (v := ?_) (a' := ?_) #[true, false, true, true, false, true, false, false, false, false, false, false, false, false, false, false, false, false, false, false, false, false, false] rfl rfl (by kernel_rfl) (fun _ _ _ h => h) (Or.inl ⟨by rfl, ?_⟩) ?_ ?_
                    rotate_left
                    · intro w'
                      go_simp
                      with_reducible rfl
                    rotate_left
                    · simp only [Act.put, List.setIfInBounds_toArray, List.set_cons_zero, List.set_cons_succ]
                      rfl
                    refine pure_ (i := 10) (N := some 168) (v := ?_) (a' := ?_) #[true, false, true, true, false, true, false, false, false, false, true, false, false, false, false, false, false, false, false, false, false, false, false] rfl rfl (by kernel_rfl) (fun _ _ _ h => h) (Or.inl ⟨by rfl, ?_⟩) ?_ ?_
                    rotate_left
                    · intro w'
                      go_simp
                      with_reducible rfl
                    rotate_left
                    · simp only [Act.put, List.setIfInBounds_toArray, List.set_cons_zero, List.set_cons_succ]
                      rfl
                    refine pure_ (i := 11) (N := some 169) (v := ?_) (a' := ?_) #[true, false, true, true, false, true, false, false, false, false, true, true, false, false, false, false, false, false, false, false, false, false, false] rfl rfl (by kernel_rfl) (fun _ _ _ h => h) (Or.inl ⟨by rfl, ?_⟩) ?_ ?_
                    rotate_left
                    · intro w'
                      go_simp
                      with_reducible rfl
                    rotate_left
                    · simp only [Act.put, List.setIfInBounds_toArray, List.set_cons_zero, List.set_cons_succ]
                      rfl
                    refine pure_ (i := 13) (N := some 171) (v := ?_) (a' := ?_) #[true, false, true, true, false, true, false, false, false, false, true, true, false, true, false, false, false, false, false, false, false, false, false] rfl rfl (by kernel_rfl) (fun _ _ _ h => h) (Or.inl ⟨by rfl, ?_⟩) ?_ ?_
                    rotate_left
                    · intro w'
                      go_simp
                      with_reducible rfl
                    rotate_left
                    · simp only [Act.put, List.setIfInBounds_toArray, List.set_cons_zero, List.set_cons_succ]
                      rfl
                    refine take_ (i := 1) (N := some 159) (v := ?_) (a' := ?_) #[true, true, true, true, false, true, false, false, false, false, true, true, false, true, false, false, false, false, false, false, false, false, false] rfl rfl (by kernel_rfl) (fun _ _ _ h => h) (Or.inl ⟨by rfl, ?_⟩) hHeld ?_ ?_
                    rotate_left
                    · rintro w' ⟨s0, s1, s2, s3⟩
                      go_simp
                      with_reducible rfl
                    rotate_left
                    · simp only [Act.put, List.setIfInBounds_toArray, List.set_cons_zero, List.set_cons_succ]
                      rfl
                    refine take_ (i := 4) (N := some 162) (v := ?_) (a' := ?_) #[true, true, true, true, true, true, false, false, false, false, true, true, false, true, false, false, false, false, false, false, false, false, false] rfl rfl (by kernel_rfl) (fun _ _ _ h => h) (Or.inl ⟨by rfl, ?_⟩) hHeld ?_ ?_
                    rotate_left
                    · rintro w' ⟨s0, s1, s2, s3⟩
                      go_simp
                      with_reducible rfl
                    rotate_left
                    · simp only [Act.put, List.setIfInBounds_toArray, List.set_cons_zero, List.set_cons_succ]
                      rfl
                    refine take_ (i := 12) (N := some 170) (v := ?_) (a' := ?_) #[true, true, true, true, true, true, false, false, false, false, true, true, true, true, false, false, false, false, false, false, false, false, false] rfl rfl (by kernel_rfl) (fun _ _ _ h => h) (Or.inl ⟨by rfl, ?_⟩) hHeld ?_ ?_
                    rotate_left
                    · rintro w' ⟨s0, s1, s2, s3⟩
                      go_simp
                      with_reducible rfl
                    rotate_left
                    · simp only [Act.put, List.setIfInBounds_toArray, List.set_cons_zero, List.set_cons_succ]
                      rfl
                    refine pure_ (i := 6) (N := some 164) (v := ?_) (a' := ?_) #[true, true, true, true, true, true, true, false, false, false, true, true, true, true, false, false, false, false, false, false, false, false, false] rfl rfl (by kernel_rfl) (fun _ _ _ h => h) (Or.inl ⟨by rfl, ?_⟩) ?_ ?_
                    rotate_left
                    · intro w'
                      go_simp
                      with_reducible rfl
                    rotate_left
                    · simp only [Act.put, List.setIfInBounds_toArray, List.set_cons_zero, List.set_cons_succ]
                      rfl
                    refine pure_ (i := 7) (N := some 165) (v := ?_) (a' := ?_) #[true, true, true, true, true, true, true, true, false, false, true, true, true, true, false, false, false, false, false, false, false, false, false] rfl rfl (by kernel_rfl) (fun _ _ _ h => h) (Or.inl ⟨by rfl, ?_⟩) ?_ ?_
                    rotate_left
                    · intro w'
                      go_simp
                      with_reducible rfl
                    rotate_left
                    · simp only [Act.put, List.setIfInBounds_toArray, List.set_cons_zero, List.set_cons_succ]
                      rfl
                    refine pure_ (i := 14) (N := some 172) (v := ?_) (a' := ?_) #[true, true, true, true, true, true, true, true, false, false, true, true, true, true, true, false, false, false, false, false, false, false, false] rfl rfl (by kernel_rfl) (fun _ _ _ h => h) (Or.inl ⟨by rfl, ?_⟩) ?_ ?_
                    rotate_left
                    · intro w'
                      go_simp
                      with_reducible rfl
                    rotate_left
                    · simp only [Act.put, List.setIfInBounds_toArray, List.set_cons_zero, List.set_cons_succ]
                      rfl
                    refine pure_ (i := 15) (N := some 173) (v := ?_) (a' := ?_) #[true, true, true, true, true, true, true, true, false, false, true, true, true, true, true, true, false, false, false, false, false, false, false] rfl rfl (by kernel_rfl) (fun _ _ _ h => h) (Or.inl ⟨by rfl, ?_⟩) ?_ ?_
                    rotate_left
                    · intro w'
                      go_simp
                      with_reducible rfl
                    rotate_left
                    · simp only [Act.put, List.setIfInBounds_toArray, List.set_cons_zero, List.set_cons_succ]
                      rfl
                    refine take_ (i := 8) (N := some 166) (v := ?_) (a' := ?_) #[true, true, true, true, true, true, true, true, true, false, true, true, true, true, true, true, false, false, false, false, false, false, false] rfl rfl (by kernel_rfl) (fun _ _ _ h => h) (Or.inl ⟨by rfl, ?_⟩) hHeld ?_ ?_
                    rotate_left
                    · rintro w' ⟨s0, s1, s2, s3⟩
                      go_simp
                      with_reducible rfl
                    rotate_left
                    · simp only [Act.put, List.setIfInBounds_toArray, List.set_cons_zero, List.set_cons_succ]
                      rfl
                    refine take_ (i := 16) (N := some 174) (v := ?_) (a' := ?_) #[true, true, true, true, true, true, true, true, true, false, true, true, true, true, true, true, true, false, false, false, false, false, false] rfl rfl (by kernel_rfl) (fun _ _ _ h => h) (Or.inl ⟨by rfl, ?_⟩) hHeld ?_ ?_
                    rotate_left
                    · rintro w' ⟨s0, s1, s2, s3⟩
                      go_simp
                      with_reducible rfl
                    rotate_left
                    · simp only [Act.put, List.setIfInBounds_toArray, List.set_cons_zero, List.set_cons_succ]
                      rfl
                    refine one_ (i := 9) (N := some 167) #[true, true, true, true, true, true, true, true, true, true, true, true, true, true, true, true, true, false, false, false, false, false, false] rfl rfl (by kernel_rfl) (by decide) (fun K hK => ?_)
                    refine goes_ Try.func37 (by kernel_rfl) rfl #[.slice (some ⟨gT, 0, none⟩) (sizeC c + 1) cT, .int .i64 gt.f0] (by rfl) rfl rfl (by simp only [List.map_toArray, List.map_cons, List.map_nil] <;> rfl) ?_
                    refine (HPL.out cT gt.f0 _ (S.out.drew.rowF 0 rfl) HGA.out.1 (by have := HGA.out; omega)).mono ?_
                    rintro e w14 ⟨rfl, hb_⟩
                    refine ⟨_, rfl, ?_⟩
                    have S14 := Aside0.mk (S.out.drew.below hb_)
                    clear hb_
                    refine hK.out _ _ ⟨(S14.out.cell 2 rfl 2 rfl).1, (S14.out.cell 12 rfl 2 rfl).1, HY0.out _ S14.out.B, HY1.out _ S14.out.B⟩ (fun hHeld => ?_)
                    clear hK K
                    refine norm_ (a' := ?_) ?_ ?_
                    rotate_left
                    · show Act.put _ (some 167) _ = _
                      simp only [Act.put, List.setIfInBounds_toArray, List.set_cons_zero, List.set_cons_succ]
                      rfl
                    refine one_ (i := 17) (N := some 175) #[true, true, true, true, true, true, true, true, true, true, true, true, true, true, true, true, true, true, false, false, false, false, false] rfl rfl (by kernel_rfl) (by decide) (fun K hK => ?_)
                    refine goes_ Try.func37 (by kernel_rfl) rfl #[.slice (some ⟨gT, 0, none⟩) (sizeC c + 1) cT, .int .i64 gt.f1] (by rfl) rfl rfl (by simp only [List.map_toArray, List.map_cons, List.map_nil] <;> rfl) ?_
                    refine (HPL.out cT gt.f1 _ (S14.out.rowF 0 rfl) HGB.out.1 (by have := HGB.out; omega)).mono ?_
                    rintro e w15 ⟨rfl, hb_⟩
                    refine ⟨_, rfl, ?_⟩
                    have S15 := Aside0.mk (S14.out.below hb_)
                    clear hb_
                    refine hK.out _ _ ⟨(S15.out.cell 2 rfl 2 rfl).1, (S15.out.cell 12 rfl 2 rfl).1, HY0.out _ S15.out.B, HY1.out _ S15.out.B⟩ (fun hHeld => ?_)
                    clear hK K
                    refine norm_ (a' := ?_) ?_ ?_
                    rotate_left
                    · show Act.put _ (some 175) _ = _
                      simp only [Act.put, List.setIfInBounds_toArray, List.set_cons_zero, List.set_cons_succ]
                      rfl
                    refine pure_ (i := 18) (N := some 176) (v := ?_) (a' := ?_) #[true, true, true, true, true, true, true, true, true, true, true, true, true, true, true, true, true, true, true, false, false, false, false] rfl rfl (by kernel_rfl) (fun _ _ _ h => h) (Or.inl ⟨by rfl, ?_⟩) ?_ ?_
                    rotate_left
                    · intro w'
                      go_simp
                      with_reducible rfl
                    rotate_left
                    · simp only [Act.put, List.setIfInBounds_toArray, List.set_cons_zero, List.set_cons_succ]
                      rfl
                    refine one_ (i := 19) (N := some 177) #[true, true, true, true, true, true, true, true, true, true, true, true, true, true, true, true, true, true, true, true, false, false, false] rfl rfl (by kernel_rfl) (by decide) (fun K hK => ?_)
                    refine value_ (w1 := ?_) (v := ?_) (by rfl) rfl ?_ ?_
                    rotate_left 2
                    · go_simp
                      constructor
                      · rfl
                      · rfl
                    refine hK.out _ _ ⟨(World.cell?_alloc_lt _ _ _ (World.block_lt_of_cell? _ _ hHeld.1)).trans hHeld.1, (World.cell?_alloc_lt _ _ _ (World.block_lt_of_cell? _ _ hHeld.2.1)).trans hHeld.2.1, (World.cell?_alloc_lt _ _ _ (World.block_lt_of_cell? _ _ hHeld.2.2.1)).trans hHeld.2.2.1, (World.cell?_alloc_lt _ _ _ (World.block_lt_of_cell? _ _ hHeld.2.2.2)).trans hHeld.2.2.2⟩ (fun hHeld => ?_)
                    clear hK K
                    refine norm_ (a' := ?_) ?_ ?_
                    rotate_left
                    · show Act.put _ (some 177) _ = _
                      simp only [Act.put, List.setIfInBounds_toArray, List.set_cons_zero, List.set_cons_succ]
                      rfl
                    refine one_ (i := 20) (N := some 178) #[true, true, true, true, true, true, true, true, true, true, true, true, true, true, true, true, true, true, true, true, true, false, false] rfl rfl (by kernel_rfl) (by decide) (fun K hK => ?_)
                    refine Parts.appendS S15.out 9 rfl flat_gate (by rfl) (.tmp 159) (.tmp 177) 23 (.agg #[.int .i64 0, .int .i64 0]) 16 rfl Try.underlying23 infoGateC rfl (by decide) (by decide) ⟨plc t gt.f0, plc t gt.f1⟩ [.int .i64 (plc t gt.f0), .int .i64 (plc t gt.f1)] rfl rfl (kGate_mkM _ _ _ _) (by have := andK_len (c := c) (is := is) (t := t) (k := k); have := HLL.out; omega) ?_
                    intro V7 cap7 w16 h16
                    have S16 := Aside0.mk h16
                    clear h16 r1 z1
                    obtain ⟨r1, z1⟩ := S16.out.cell 2 rfl 2 rfl
                    refine hK.out _ _ ⟨r1, (S16.out.cell 12 rfl 2 rfl).1, HY0.out _ S16.out.B, HY1.out _ S16.out.B⟩ (fun hHeld => ?_)
                    clear hK K
                    refine norm_ (a' := ?_) ?_ ?_
                    rotate_left
                    · show Act.put _ (some 178) _ = _
                      simp only [Act.put, List.setIfInBounds_toArray, List.set_cons_zero, List.set_cons_succ]
                      rfl
                    refine pure_ (i := 21) (N := some 179) (v := ?_) (a' := ?_) #[true, true, true, true, true, true, true, true, true, true, true, true, true, true, true, true, true, true, true, true, true, true, false] rfl rfl (by kernel_rfl) (fun _ _ _ h => h) (Or.inl ⟨by rfl, ?_⟩) ?_ ?_
                    rotate_left
                    · intro w'
                      go_simp
                      with_reducible rfl
                    rotate_left
                    · simp only [Act.put, List.setIfInBounds_toArray, List.set_cons_zero, List.set_cons_succ]
                      rfl
                    refine last_ (i := 22) (N := none) #[true, true, true, true, true, true, true, true, true, true, true, true, true, true, true, true, true, true, true, true, true, true, true] rfl rfl (by kernel_rfl) (by decide) (fun K hK => ?_)
                    refine skip_ (w1 := ?_) (by rfl) rfl ?_ ?_
                    rotate_left
                    · go_simp
                      rfl
                    refine hK.out _ _ ?_
                    clear hK K
                    refine done_ (by kernel_rfl) ?_
                    have S17 := Aside0.mk (S16.out.put 2 rfl 2 (.slice V7 ((andK c is t k).length + 1) cap7) rfl)
                    clear r1 z1 S16 S15 S14 c0 c1 c2 c3 c4 hx0 hx1
                    go_wp2
                    go_roundg (c.f2.length - (k + 1))
                    case measure => have := HK.out; have := HKK.out; omega
                    case rel => exact ⟨k + 1, (V7, cap7), rfl, ⟨HKK.out, by have := HK.out; omega⟩, ⟨by
                      have h_ := S17.out
                      have e1 : andK c is t (k + 1) = andK c is t k ++ [⟨plc t gt.f0, plc t gt.f1⟩] := by rw [andK_succ, HAI.out]; rfl
                      rw [e1]
                      unfold passQs
                      simp only [List.length_append, List.length_singleton]
                      exact h_⟩⟩
                · have hk : k = c.f2.length := by have := HK.out; omega
                  subst hk
                  clear HK hlt
                  obtain ⟨c0, c1, c2, c3, c4⟩ := blk5 (S.out.blk 12 rfl)
                  go_wp2
                  clear c0 c1 c2 c3 c4
                  go_loopg [15] c.f3.length (fun gg s15 wr => ∃ (k : Nat) (vOB : Option Addr × Nat), s15 = .int .i64 k ∧ Aside0 (k ≤ c.f3.length ∧ c.f3.length - k ≤ gg) ∧ Aside0 (Parts w.heap.size w wr (passQs w.heap.size gT cT gA cA (sizeC c + 1) gO gI gU w.heap.size (w.heap.size + 1) #[.int .i64 c.f0, .slice A1 c.f1.length k1, .slice A2 c.f2.length k2, .slice A3 c.f3.length k3, .slice A4 c.f4.length k4] t is (cntK is i) vI vF vL vOL vOA vOB (none, 0) (insK t i) (firK c is t c.f1.length) (lasK c is c.f1.length) (latK c is t c.f1.length) (andK c is t c.f2.length) ((c.f3.take k).map (plc t)) [])))
                  case atStart => exact ⟨0, (none, 0), rfl, ⟨by omega, by omega⟩, S⟩
                  case round =>
                    clear S
                    obtain ⟨k, vOB, rfl, HK, S⟩ := hrel
                    by_cases hlt : k < c.f3.length
                    ·
                      obtain ⟨ad3, e3, hy0⟩ := at_int HH.out.s3.r k hlt
                      cases e3
                      have HP := Aside0.mk (hin.out.hp (c.f3[k]) (List.mem_append_left _ (List.getElem_mem hlt)))
                      have HKK := Aside0.mk hlt
                      have HTK := Aside0.mk (show (c.f3.take (k + 1)).map (plc t) = (c.f3.take k).map (plc t) ++ [plc t c.f3[k]] by rw [take_at hlt, List.map_append]; rfl)
                      have HBK := Aside0.mk (show k ≤ 100 by have := check_fewC HC.out; omega)
                      have HLT2 := Aside0.mk (show ((c.f3.take k).map (plc t)).length ≤ k by rw [List.length_map, List.length_take]; omega)
                      have HYY := Aside0.mk (fun (W : World) (hW : Below w.heap.size w W) => (hW.cell (World.block_lt_of_cell? _ _ hy0)).trans hy0)
                      obtain ⟨c0, c1, c2, c3, c4⟩ := blk5 (S.out.blk 12 rfl)
                      clear hy0
                      generalize c.f3[k] = lt at *
                      generalize (c.f3.take k).map (plc t) = ob at *
                      have hx0 := HYY.out _ S.out.B
                      go_upto_region 38 with (fail)
                      obtain ⟨r1, z1⟩ := S.out.cell 2 rfl 3 rfl
                      go_wp2
                      refine start_ (n := 13) (S := (fun w' => w'.cell? ⟨gO, 3, none⟩ = some (.slice vOB.1 ob.length vOB.2) ∧ w'.cell? ⟨w.heap.size, 3, none⟩ = some (.slice (some ad3) c.f3.length k3) ∧ w'.cell? (ad3.add k) = some (.int .i64 lt))) (ds := [12]) #[false, false, false, false, false, false, false, false, false, false, false, false, false] (by kernel_rfl) rfl rfl ⟨r1, c3, hx0⟩ (fun hHeld => ?_)
                      refine pure_ (i := 0) (N := some 187) (v := ?_) (a' := ?_) #[true, false, false, false, false, false, false, false, false, false, false, false, false] rfl rfl (by kernel_rfl) (fun _ _ _ h => h) (Or.inl ⟨by rfl, ?_⟩) ?_ ?_
                      rotate_left
                      · intro w'
                        go_simp
                        with_reducible rfl
                      rotate_left
                      · simp only [Act.put, List.setIfInBounds_toArray, List.set_cons_zero, List.set_cons_succ]
                        rfl
                      refine pure_ (i := 2) (N := some 189) (v := ?_) (a' := ?_) #[true, false, true, false, false, false, false, false, false, false, false, false, false] rfl rfl (by kernel_rfl) (fun _ _ _ h => h) (Or.inl ⟨by rfl, ?_⟩) ?_ ?_
                      rotate_left
                      · intro w'
                        go_simp
                        with_reducible rfl
                      rotate_left
                      · simp only [Act.put, List.setIfInBounds_toArray, List.set_cons_zero, List.set_cons_succ]
                        rfl
                      refine pure_ (i := 3) (N := some 190) (v := ?_) (a' := ?_) #[true, false, true, true, false, false, false, false, false, false, false, false, false] rfl rfl (by kernel_rfl) (fun _ _ _ h => h) (Or.inl ⟨by rfl, ?_⟩) ?_ ?_
                      rotate_left
                      · intro w'
                        go_simp
                        with_reducible rfl
                      rotate_left
                      · simp only [Act.put, List.setIfInBounds_toArray, List.set_cons_zero, List.set_cons_succ]
                        rfl
                      refine pure_ (i := 5) (N := some 192) (v := ?_) (a' := ?_) #[true, false, true, true, false, true, false, false, false, false, false, false, false] rfl rfl (by kernel_rfl) (fun _ _ _ h => h) (Or.inl ⟨by rfl, ?_⟩) ?_ ?_
                      rotate_left
                      · intro w'
                        go_simp
                        with_reducible rfl
                      rotate_left
                      · simp only [Act.put, List.setIfInBounds_toArray, List.set_cons_zero, List.set_cons_succ]
                        rfl
                      refine take_ (i := 1) (N := some 188) (v := ?_) (a' := ?_) #[true, true, true, true, false, true, false, false, false, false, false, false, false] rfl rfl (by kernel_rfl) (fun _ _ _ h => h) (Or.inl ⟨by rfl, ?_⟩) hHeld ?_ ?_
                      rotate_left
                      · rintro w' ⟨s0, s1, s2⟩
                        go_simp
                        with_reducible rfl
                      rotate_left
                      · simp only [Act.put, List.setIfInBounds_toArray, List.set_cons_zero, List.set_cons_succ]
                        rfl
                      refine take_ (i := 4) (N := some 191) (v := ?_) (a' := ?_) #[true, true, true, true, true, true, false, false, false, false, false, false, false] rfl rfl (by kernel_rfl) (fun _ _ _ h => h) (Or.inl ⟨by rfl, ?_⟩) hHeld ?_ ?_
                      rotate_left
                      · rintro w' ⟨s0, s1, s2⟩
                        go_simp
                        with_reducible rfl
                      rotate_left
                      · simp only [Act.put, List.setIfInBounds_toArray, List.set_cons_zero, List.set_cons_succ]
                        rfl
                      refine pure_ (i := 6) (N := some 193) (v := ?_) (a' := ?_) #[true, true, true, true, true, true, true, false, false, false, false, false, false] rfl rfl (by kernel_rfl) (fun _ _ _ h => h) (Or.inl ⟨by rfl, ?_⟩) ?_ ?_
                      rotate_left
                      · intro w'
                        go_simp
                        with_reducible rfl
                      rotate_left
                      · simp only [Act.put, List.setIfInBounds_toArray, List.set_cons_zero, List.set_cons_succ]
                        rfl
                      refine take_ (i := 7) (N := some 194) (v := ?_) (a' := ?_) #[true, true, true, true, true, true, true, true, false, false, false, false, false] rfl rfl (by kernel_rfl) (fun _ _ _ h => h) (Or.inl ⟨by rfl, ?_⟩) hHeld ?_ ?_
                      rotate_left
                      · rintro w' ⟨s0, s1, s2⟩
                        go_simp
                        with_reducible rfl
                      rotate_left
                      · simp only [Act.put, List.setIfInBounds_toArray, List.set_cons_zero, List.set_cons_succ]
                        rfl
                      refine one_ (i := 8) (N := some 195) #[true, true, true, true, true, true, true, true, true, false, false, false, false] rfl rfl (by kernel_rfl) (by decide) (fun K hK => ?_)
                      refine goes_ Try.func37 (by kernel_rfl) rfl #[.slice (some ⟨gT, 0, none⟩) (sizeC c + 1) cT, .int .i64 lt] (by rfl) rfl rfl (by simp only [List.map_toArray, List.map_cons, List.map_nil] <;> rfl) ?_
                      refine (HPL.out cT lt _ (S.out.drew.rowF 0 rfl) HP.out.1 HP.out.2).mono ?_
                      rintro e w14 ⟨rfl, hb_⟩
                      refine ⟨_, rfl, ?_⟩
                      have S14 := Aside0.mk (S.out.drew.below hb_)
                      clear hb_
                      refine hK.out _ _ ⟨(S14.out.cell 2 rfl 3 rfl).1, (S14.out.cell 12 rfl 3 rfl).1, HYY.out _ S14.out.B⟩ (fun hHeld => ?_)
                      clear hK K
                      refine norm_ (a' := ?_) ?_ ?_
                      rotate_left
                      · show Act.put _ (some 195) _ = _
                        simp only [Act.put, List.setIfInBounds_toArray, List.set_cons_zero, List.set_cons_succ]
                        rfl
                      refine one_ (i := 9) (N := some 196) #[true, true, true, true, true, true, true, true, true, true, false, false, false] rfl rfl (by kernel_rfl) (by decide) (fun K hK => ?_)
                      refine value_ (w1 := ?_) (v := ?_) (by rfl) rfl ?_ ?_
                      rotate_left 2
                      · go_simp
                        constructor
                        · rfl
                        · rfl
                      refine hK.out _ _ ⟨(World.cell?_alloc_lt _ _ _ (World.block_lt_of_cell? _ _ hHeld.1)).trans hHeld.1, (World.cell?_alloc_lt _ _ _ (World.block_lt_of_cell? _ _ hHeld.2.1)).trans hHeld.2.1, (World.cell?_alloc_lt _ _ _ (World.block_lt_of_cell? _ _ hHeld.2.2)).trans hHeld.2.2⟩ (fun hHeld => ?_)
                      clear hK K
                      refine norm_ (a' := ?_) ?_ ?_
                      rotate_left
                      · show Act.put _ (some 196) _ = _
                        simp only [Act.put, List.setIfInBounds_toArray, List.set_cons_zero, List.set_cons_succ]
                        rfl
                      refine one_ (i := 10) (N := some 197) #[true, true, true, true, true, true, true, true, true, true, true, false, false] rfl rfl (by kernel_rfl) (by decide) (fun K hK => ?_)
                      refine Parts.appendS S14.out 10 rfl flat_int (by rfl) (.tmp 188) (.tmp 196) 24 (.int .i64 0) 8 rfl Try.underlying24 infoInt rfl (by decide) (by decide) (plc t lt) [.int .i64 (plc t lt)] rfl rfl rfl (by have := HLT2.out; have := HBK.out; omega) ?_
                      intro V7 cap7 w16 h16
                      have S16 := Aside0.mk h16
                      clear h16 r1 z1
                      obtain ⟨r1, z1⟩ := S16.out.cell 2 rfl 3 rfl
                      refine hK.out _ _ ⟨r1, (S16.out.cell 12 rfl 3 rfl).1, HYY.out _ S16.out.B⟩ (fun hHeld => ?_)
                      clear hK K
                      refine norm_ (a' := ?_) ?_ ?_
                      rotate_left
                      · show Act.put _ (some 197) _ = _
                        simp only [Act.put, List.setIfInBounds_toArray, List.set_cons_zero, List.set_cons_succ]
                        rfl
                      refine pure_ (i := 11) (N := some 198) (v := ?_) (a' := ?_) #[true, true, true, true, true, true, true, true, true, true, true, true, false] rfl rfl (by kernel_rfl) (fun _ _ _ h => h) (Or.inl ⟨by rfl, ?_⟩) ?_ ?_
                      rotate_left
                      · intro w'
                        go_simp
                        with_reducible rfl
                      rotate_left
                      · simp only [Act.put, List.setIfInBounds_toArray, List.set_cons_zero, List.set_cons_succ]
                        rfl
                      refine last_ (i := 12) (N := none) #[true, true, true, true, true, true, true, true, true, true, true, true, true] rfl rfl (by kernel_rfl) (by decide) (fun K hK => ?_)
                      refine skip_ (w1 := ?_) (by rfl) rfl ?_ ?_
                      rotate_left
                      · go_simp
                        rfl
                      refine hK.out _ _ ?_
                      clear hK K
                      refine done_ (by kernel_rfl) ?_
                      have S17 := Aside0.mk (S16.out.put 2 rfl 3 (.slice V7 (ob.length + 1) cap7) rfl)
                      clear r1 z1 S16 S14 c0 c1 c2 c3 c4 hx0
                      go_wp2
                      go_roundg (c.f3.length - (k + 1))
                      case measure => have := HK.out; have := HKK.out; omega
                      case rel => exact ⟨k + 1, (V7, cap7), val_step HKK.out (by have := check_fewC HC.out; omega), ⟨HKK.out, by have := HK.out; omega⟩, ⟨by
                        have h_ := S17.out
                        rw [HTK.out]
                        unfold passQs
                        simp only [List.length_append, List.length_singleton]
                        exact h_⟩⟩
                    · have hk : k = c.f3.length := by have := HK.out; omega
                      subst hk
                      rw [List.take_length] at S
                      clear HK hlt
                      obtain ⟨c0, c1, c2, c3, c4⟩ := blk5 (S.out.blk 12 rfl)
                      go_wp2
                      clear c0 c1 c2 c3 c4
                      go_loopg [16] c.f4.length (fun gg s16 wr => ∃ (k : Nat) (vOC : Option Addr × Nat), s16 = .int .i64 k ∧ Aside0 (k ≤ c.f4.length ∧ c.f4.length - k ≤ gg) ∧ Aside0 (Parts w.heap.size w wr (passQs w.heap.size gT cT gA cA (sizeC c + 1) gO gI gU w.heap.size (w.heap.size + 1) #[.int .i64 c.f0, .slice A1 c.f1.length k1, .slice A2 c.f2.length k2, .slice A3 c.f3.length k3, .slice A4 c.f4.length k4] t is (cntK is i) vI vF vL vOL vOA vOB vOC (insK t i) (firK c is t c.f1.length) (lasK c is c.f1.length) (latK c is t c.f1.length) (andK c is t c.f2.length) (c.f3.map (plc t)) ((c.f4.take k).map (plc t)))))
                      case atStart => exact ⟨0, (none, 0), rfl, ⟨by omega, by omega⟩, S⟩
                      case round =>
                        clear S
                        obtain ⟨k, vOC, rfl, HK, S⟩ := hrel
                        by_cases hlt : k < c.f4.length
                        ·
                          obtain ⟨ad3, e3, hy0⟩ := at_int HH.out.s4.r k hlt
                          cases e3
                          have HP := Aside0.mk (hin.out.hp (c.f4[k]) (List.mem_append_right _ (List.getElem_mem hlt)))
                          have HKK := Aside0.mk hlt
                          have HTK := Aside0.mk (show (c.f4.take (k + 1)).map (plc t) = (c.f4.take k).map (plc t) ++ [plc t c.f4[k]] by rw [take_at hlt, List.map_append]; rfl)
                          have HBK := Aside0.mk (show k ≤ 100 by have := check_fewC HC.out; omega)
                          have HLT2 := Aside0.mk (show ((c.f4.take k).map (plc t)).length ≤ k by rw [List.length_map, List.length_take]; omega)
                          have HYY := Aside0.mk (fun (W : World) (hW : Below w.heap.size w W) => (hW.cell (World.block_lt_of_cell? _ _ hy0)).trans hy0)
                          obtain ⟨c0, c1, c2, c3, c4⟩ := blk5 (S.out.blk 12 rfl)
                          clear hy0
                          generalize c.f4[k] = lt at *
                          generalize (c.f4.take k).map (plc t) = ob at *
                          have hx0 := HYY.out _ S.out.B
                          go_upto_region 42 with (fail)
                          obtain ⟨r1, z1⟩ := S.out.cell 2 rfl 4 rfl
                          go_wp2
                          refine start_ (n := 13) (S := (fun w' => w'.cell? ⟨gO, 4, none⟩ = some (.slice vOC.1 ob.length vOC.2) ∧ w'.cell? ⟨w.heap.size, 4, none⟩ = some (.slice (some ad3) c.f4.length k4) ∧ w'.cell? (ad3.add k) = some (.int .i64 lt))) (ds := [12]) #[false, false, false, false, false, false, false, false, false, false, false, false, false] (by kernel_rfl) rfl rfl ⟨r1, c4, hx0⟩ (fun hHeld => ?_)
                          refine pure_ (i := 0) (N := some 206) (v := ?_) (a' := ?_) #[true, false, false, false, false, false, false, false, false, false, false, false, false] rfl rfl (by kernel_rfl) (fun _ _ _ h => h) (Or.inl ⟨by rfl, ?_⟩) ?_ ?_
                          rotate_left
                          · intro w'
                            go_simp
                            with_reducible rfl
                          rotate_left
                          · simp only [Act.put, List.setIfInBounds_toArray, List.set_cons_zero, List.set_cons_succ]
                            rfl
                          refine pure_ (i := 2) (N := some 208) (v := ?_) (a' := ?_) #[true, false, true, false, false, false, false, false, false, false, false, false, false] rfl rfl (by kernel_rfl) (fun _ _ _ h => h) (Or.inl ⟨by rfl, ?_⟩) ?_ ?_
                          rotate_left
                          · intro w'
                            go_simp
                            with_reducible rfl
                          rotate_left
                          · simp only [Act.put, List.setIfInBounds_toArray, List.set_cons_zero, List.set_cons_succ]
                            rfl
                          refine pure_ (i := 3) (N := some 209) (v := ?_) (a' := ?_) #[true, false, true, true, false, false, false, false, false, false, false, false, false] rfl rfl (by kernel_rfl) (fun _ _ _ h => h) (Or.inl ⟨by rfl, ?_⟩) ?_ ?_
                          rotate_left
                          · intro w'
                            go_simp
                            with_reducible rfl
                          rotate_left
                          · simp only [Act.put, List.setIfInBounds_toArray, List.set_cons_zero, List.set_cons_succ]
                            rfl
                          refine pure_ (i := 5) (N := some 211) (v := ?_) (a' := ?_) #[true, false, true, true, false, true, false, false, false, false, false, false, false] rfl rfl (by kernel_rfl) (fun _ _ _ h => h) (Or.inl ⟨by rfl, ?_⟩) ?_ ?_
                          rotate_left
                          · intro w'
                            go_simp
                            with_reducible rfl
                          rotate_left
                          · simp only [Act.put, List.setIfInBounds_toArray, List.set_cons_zero, List.set_cons_succ]
                            rfl
                          refine take_ (i := 1) (N := some 207) (v := ?_) (a' := ?_) #[true, true, true, true, false, true, false, false, false, false, false, false, false] rfl rfl (by kernel_rfl) (fun _ _ _ h => h) (Or.inl ⟨by rfl, ?_⟩) hHeld ?_ ?_
                          rotate_left
                          · rintro w' ⟨s0, s1, s2⟩
                            go_simp
                            with_reducible rfl
                          rotate_left
                          · simp only [Act.put, List.setIfInBounds_toArray, List.set_cons_zero, List.set_cons_succ]
                            rfl
                          refine take_ (i := 4) (N := some 210) (v := ?_) (a' := ?_) #[true, true, true, true, true, true, false, false, false, false, false, false, false] rfl rfl (by kernel_rfl) (fun _ _ _ h => h) (Or.inl ⟨by rfl, ?_⟩) hHeld ?_ ?_
                          rotate_left
                          · rintro w' ⟨s0, s1, s2⟩
                            go_simp
                            with_reducible rfl
                          rotate_left
                          · simp only [Act.put, List.setIfInBounds_toArray, List.set_cons_zero, List.set_cons_succ]
                            rfl
                          refine pure_ (i := 6) (N := some 212) (v := ?_) (a' := ?_) #[true, true, true, true, true, true, true, false, false, false, false, false, false] rfl rfl (by kernel_rfl) (fun _ _ _ h => h) (Or.inl ⟨by rfl, ?_⟩) ?_ ?_
                          rotate_left
                          · intro w'
                            go_simp
                            with_reducible rfl
                          rotate_left
                          · simp only [Act.put, List.setIfInBounds_toArray, List.set_cons_zero, List.set_cons_succ]
                            rfl
                          refine take_ (i := 7) (N := some 213) (v := ?_) (a' := ?_) #[true, true, true, true, true, true, true, true, false, false, false, false, false] rfl rfl (by kernel_rfl) (fun _ _ _ h => h) (Or.inl ⟨by rfl, ?_⟩) hHeld ?_ ?_
                          rotate_left
                          · rintro w' ⟨s0, s1, s2⟩
                            go_simp
                            with_reducible rfl
                          rotate_left
                          · simp only [Act.put, List.setIfInBounds_toArray, List.set_cons_zero, List.set_cons_succ]
                            rfl
                          refine one_ (i := 8) (N := some 214) #[true, true, true, true, true, true, true, true, true, false, false, false, false] rfl rfl (by kernel_rfl) (by decide) (fun K hK => ?_)
                          refine goes_ Try.func37 (by kernel_rfl) rfl #[.slice (some ⟨gT, 0, none⟩) (sizeC c + 1) cT, .int .i64 lt] (by rfl) rfl rfl (by simp only [List.map_toArray, List.map_cons, List.map_nil] <;> rfl) ?_
                          refine (HPL.out cT lt _ (S.out.drew.rowF 0 rfl) HP.out.1 HP.out.2).mono ?_
                          rintro e w14 ⟨rfl, hb_⟩
                          refine ⟨_, rfl, ?_⟩
                          have S14 := Aside0.mk (S.out.drew.below hb_)
                          clear hb_
                          refine hK.out _ _ ⟨(S14.out.cell 2 rfl 4 rfl).1, (S14.out.cell 12 rfl 4 rfl).1, HYY.out _ S14.out.B⟩ (fun hHeld => ?_)
                          clear hK K
                          refine norm_ (a' := ?_) ?_ ?_
                          rotate_left
                          · show Act.put _ (some 214) _ = _
                            simp only [Act.put, List.setIfInBounds_toArray, List.set_cons_zero, List.set_cons_succ]
                            rfl
                          refine one_ (i := 9) (N := some 215) #[true, true, true, true, true, true, true, true, true, true, false, false, false] rfl rfl (by kernel_rfl) (by decide) (fun K hK => ?_)
                          refine value_ (w1 := ?_) (v := ?_) (by rfl) rfl ?_ ?_
                          rotate_left 2
                          · go_simp
                            constructor
                            · rfl
                            · rfl
                          refine hK.out _ _ ⟨(World.cell?_alloc_lt _ _ _ (World.block_lt_of_cell? _ _ hHeld.1)).trans hHeld.1, (World.cell?_alloc_lt _ _ _ (World.block_lt_of_cell? _ _ hHeld.2.1)).trans hHeld.2.1, (World.cell?_alloc_lt _ _ _ (World.block_lt_of_cell? _ _ hHeld.2.2)).trans hHeld.2.2⟩ (fun hHeld => ?_)
                          clear hK K
                          refine norm_ (a' := ?_) ?_ ?_
                          rotate_left
                          · show Act.put _ (some 215) _ = _
                            simp only [Act.put, List.setIfInBounds_toArray, List.set_cons_zero, List.set_cons_succ]
                            rfl
                          refine one_ (i := 10) (N := some 216) #[true, true, true, true, true, true, true, true, true, true, true, false, false] rfl rfl (by kernel_rfl) (by decide) (fun K hK => ?_)
                          refine Parts.appendS S14.out 11 rfl flat_int (by rfl) (.tmp 207) (.tmp 215) 24 (.int .i64 0) 8 rfl Try.underlying24 infoInt rfl (by decide) (by decide) (plc t lt) [.int .i64 (plc t lt)] rfl rfl rfl (by have := HLT2.out; have := HBK.out; omega) ?_
                          intro V7 cap7 w16 h16
                          have S16 := Aside0.mk h16
                          clear h16 r1 z1
                          obtain ⟨r1, z1⟩ := S16.out.cell 2 rfl 4 rfl
                          refine hK.out _ _ ⟨r1, (S16.out.cell 12 rfl 4 rfl).1, HYY.out _ S16.out.B⟩ (fun hHeld => ?_)
                          clear hK K
                          refine norm_ (a' := ?_) ?_ ?_
                          rotate_left
                          · show Act.put _ (some 216) _ = _
                            simp only [Act.put, List.setIfInBounds_toArray, List.set_cons_zero, List.set_cons_succ]
                            rfl
                          refine pure_ (i := 11) (N := some 217) (v := ?_) (a' := ?_) #[true, true, true, true, true, true, true, true, true, true, true, true, false] rfl rfl (by kernel_rfl) (fun _ _ _ h => h) (Or.inl ⟨by rfl, ?_⟩) ?_ ?_
                          rotate_left
                          · intro w'
                            go_simp
                            with_reducible rfl
                          rotate_left
                          · simp only [Act.put, List.setIfInBounds_toArray, List.set_cons_zero, List.set_cons_succ]
                            rfl
                          refine last_ (i := 12) (N := none) #[true, true, true, true, true, true, true, true, true, true, true, true, true] rfl rfl (by kernel_rfl) (by decide) (fun K hK => ?_)
                          refine skip_ (w1 := ?_) (by rfl) rfl ?_ ?_
                          rotate_left
                          · go_simp
                            rfl
                          refine hK.out _ _ ?_
                          clear hK K
                          refine done_ (by kernel_rfl) ?_
                          have S17 := Aside0.mk (S16.out.put 2 rfl 4 (.slice V7 (ob.length + 1) cap7) rfl)
                          clear r1 z1 S16 S14 c0 c1 c2 c3 c4 hx0
                          go_wp2
                          go_roundg (c.f4.length - (k + 1))
                          case measure => have := HK.out; have := HKK.out; omega
                          case rel => exact ⟨k + 1, (V7, cap7), val_step HKK.out (by have := check_fewC HC.out; omega), ⟨HKK.out, by have := HK.out; omega⟩, ⟨by
                            have h_ := S17.out
                            rw [HTK.out]
                            unfold passQs
                            simp only [List.length_append, List.length_singleton]
                            exact h_⟩⟩
                        · have hk : k = c.f4.length := by have := HK.out; omega
                          subst hk
                          rw [List.take_length] at S
                          clear HK hlt
                          obtain rfl := HTN.out
                          obtain ⟨a0, a1, a2, a3, a4⟩ := blk5 (S.out.blk 2 rfl)
                          obtain ⟨⟨u0, u1, u2, u3, u4, u5, u6⟩, q0, q1, q2, q3, q4, q5, q6⟩ := blk7 (S.out.blk 4 rfl)
                          obtain ⟨r0, z0⟩ := S.out.cell 13 rfl 0 rfl
                          obtain ⟨r1, z1⟩ := S.out.cell 13 rfl 1 rfl
                          obtain ⟨r2, z2⟩ := S.out.cell 13 rfl 2 rfl
                          obtain ⟨r3, z3⟩ := S.out.cell 13 rfl 3 rfl
                          obtain ⟨r4, z4⟩ := S.out.cell 13 rfl 4 rfl
                          obtain ⟨r5, z5⟩ := S.out.cell 13 rfl 5 rfl
                          obtain ⟨r6, z6⟩ := S.out.cell 13 rfl 6 rfl
                          obtain ⟨r7, z7⟩ := S.out.cell 13 rfl 7 rfl
                          obtain ⟨r8, z8⟩ := S.out.cell 13 rfl 8 rfl
                          obtain ⟨r9, z9⟩ := S.out.cell 13 rfl 9 rfl
                          obtain ⟨r10, z10⟩ := S.out.cell 13 rfl 10 rfl
                          obtain ⟨r11, z11⟩ := S.out.cell 13 rfl 11 rfl
                          have HW := Aside0.mk (S.out.put12 13 rfl (.int .i64 ((cntK is c.f0.toNat : Nat) : Int)) (.slice vOL.1 (latK c is t c.f1.length).length vOL.2) (.slice vOA.1 (andK c is t c.f2.length).length vOA.2) (.slice vOB.1 (c.f3.map (plc t)).length vOB.2) (.slice vOC.1 (c.f4.map (plc t)).length vOC.2) (.int .i64 0) (.int .i64 1) (.slice vF.1 (firK c is t c.f1.length).length vF.2) (.slice (some ⟨gI, 0, none⟩) 1 1) (.slice vL.1 (lasK c is c.f1.length).length vL.2) (.slice none 0 0) (.int .i64 1))
                          obtain ⟨ob, hob⟩ : ∃ ob, c.f3.map (plc t) = ob := ⟨_, rfl⟩
                          obtain ⟨oc, hoc⟩ : ∃ oc, c.f4.map (plc t) = oc := ⟨_, rfl⟩
                          rw [hob, hoc] at S HW
                          rw [hob] at a3
                          rw [hoc] at a4
                          have HQ := Aside0.mk (show (⟨passC c is t, passL c is t⟩ : Red) = ⟨⟨((cntK is c.f0.toNat : Nat) : Int), latK c is t c.f1.length, andK c is t c.f2.length, ob, oc⟩, passL c is t⟩ by rw [← hob, ← hoc]; rfl)
                          clear hob hoc
                          obtain ⟨b0, b1, b2, b3, b4⟩ := blk5 (S.out.blk 12 rfl)
                          go_wp2
                          refine bodyPost_ret (results_ct rfl _ _ (w.heap.size + 1) 40 _ (0, 0) _ rfl (HW.out.blk 13 rfl) hu40 rfl (by kernel_rfl)) rfl ?_
                          rw [HPOST.out, HQ.out]
                          exact ⟨⟨vOL.1, vOL.2, vOA.1, vOA.2, vOB.1, vOB.2, vOC.1, vOC.2⟩, ⟨vF.1, vF.2, some ⟨gI, 0, none⟩, 1, vL.1, vL.2, none, 0⟩, rfl, ⟨HW.out.rowF 8 rfl, HW.out.rowF 9 rfl, HW.out.rowF 10 rfl, HW.out.rowF 11 rfl⟩,
                            ⟨HW.out.rowF 6 rfl, RS.one_row (HW.out.blk 3 rfl) rfl (HW.out.rowF 5 rfl), HW.out.rowF 7 rfl, RS.nil _ _ _⟩, HW.out.B⟩
set_option maxHeartbeats 4000000 in
set_option maxRecDepth 100000 in
theorem ref28_Pass_bad (p : CP) (c : Circ) (w : World) (h : RC w p c) (hs : c.Fits) (hck : check c ≠ 0) :
    Calls Try.prog 13 #[cv p c] w fun e w' => RetRd w w' zeroRd (check c) e := by
  have HV := Aside0.mk (fun W (hb : Below w.heap.size w W) => ref02_Check p c W (h.below hb) hs)
  have hu26 := Try.underlying26
  have hu40 := Try.underlying40
  have c1 : (check c != 0) = true := bne_iff_ne.mpr hck
  have S0 := Aside0.mk (((Parts.start w).new 26 #[.int .i64 c.f0, .slice p.A1 c.f1.length p.c1, .slice p.A2 c.f2.length p.c2, .slice p.A3 c.f3.length p.c3, .slice p.A4 c.f4.length p.c4]).new 40 zCells)
  rw [show (w.alloc (.cells #[.int .i64 c.f0, .slice p.A1 c.f1.length p.c1, .slice p.A2 c.f2.length p.c2, .slice p.A3 c.f3.length p.c3, .slice p.A4 c.f4.length p.c4] 26)).heap.size = w.heap.size + 1 by simp] at S0
  clear h hs hck
  go_enter Try.func13, Try.ntmps13
  go_wp2_with fail
  refine (HV.out _ S0.out.B).mono ?_
  rintro e w1 ⟨rfl, hb1⟩
  have S1 := Aside0.mk (S0.out.below hb1)
  clear hb1
  have HW := Aside0.mk (S1.out.put12 0 rfl (.int .i64 0) (.slice none 0 0) (.slice none 0 0) (.slice none 0 0) (.slice none 0 0) (.int .i64 0) (.int .i64 0) (.slice none 0 0) (.slice none 0 0) (.slice none 0 0) (.slice none 0 0) (.int .i64 0))
  obtain ⟨r0, z0⟩ := S1.out.cell 0 rfl 0 rfl
  obtain ⟨r1, z1⟩ := S1.out.cell 0 rfl 1 rfl
  obtain ⟨r2, z2⟩ := S1.out.cell 0 rfl 2 rfl
  obtain ⟨r3, z3⟩ := S1.out.cell 0 rfl 3 rfl
  obtain ⟨r4, z4⟩ := S1.out.cell 0 rfl 4 rfl
  obtain ⟨r5, z5⟩ := S1.out.cell 0 rfl 5 rfl
  obtain ⟨r6, z6⟩ := S1.out.cell 0 rfl 6 rfl
  obtain ⟨r7, z7⟩ := S1.out.cell 0 rfl 7 rfl
  obtain ⟨r8, z8⟩ := S1.out.cell 0 rfl 8 rfl
  obtain ⟨r9, z9⟩ := S1.out.cell 0 rfl 9 rfl
  obtain ⟨r10, z10⟩ := S1.out.cell 0 rfl 10 rfl
  obtain ⟨r11, z11⟩ := S1.out.cell 0 rfl 11 rfl
  go_wp2
  refine bodyPost_ret (results_ct rfl _ _ (w.heap.size + 1) 40 zCells (0, 0) _ rfl (HW.out.blk 0 rfl) hu40 rfl (by kernel_rfl)) rfl ?_
  exact ⟨⟨none, 0, none, 0, none, 0, none, 0⟩, ⟨none, 0, none, 0, none, 0, none, 0⟩, rfl, ⟨RS.nil _ _ _, RS.nil _ _ _, RS.nil _ _ _, RS.nil _ _ _⟩, ⟨RS.nil _ _ _, RS.nil _ _ _, RS.nil _ _ _, RS.nil _ _ _⟩, HW.out.B⟩
theorem ref28_Pass (p : CP) (c : Circ) (w : World) (h : RC w p c) (hs : c.Fits) :
    Calls Try.prog 13 #[cv p c] w fun e w' => RetRd w w' (passR c).1 (passR c).2 e := by
  unfold passR
  by_cases hc : check c = 0
  · rw [if_pos hc]; exact ref28_Pass_ok p c w h hs hc
  · rw [if_neg hc]; exact ref28_Pass_bad p c w h hs hc
end Go.Proofs.Ytiafojcbllbepaa.PH
