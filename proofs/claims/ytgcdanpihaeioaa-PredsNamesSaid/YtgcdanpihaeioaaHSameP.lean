/- The reference's comparison of predicates; what is great. -/
import Derived.Test.YtgcdanpihaeioaaHSameC
import Derived.Test.YtgcdanpihaeioaaHTwoOwn
import Derived.Test.YtgcdanpihaeioaaHTruth
namespace Go.Proofs.Ytgcdanpihaeioaa.PH
open Go.RowKit Go.Proofs.YtgcdanpihaeioaaW.PrintWords
set_option linter.unusedVariables false
set_option linter.unusedSimpArgs false

deriving instance DecidableEq for Pr
attribute [local go_sem high] eqGate
set_option maxHeartbeats 2000000 in
set_option maxRecDepth 100000 in
theorem ref24_Same (A : Option Addr) (c : Nat) (x : Pr) (B : Option Addr) (d : Nat) (y : Pr) (w : World) (hl : RS kGate w A c x.f0) (hm : RS kGate w B d y.f0) :
    Calls Try.prog 27 #[pv A c x, pv B d y] w fun e w' => e = .returned (.bool (decide (x = y))) ∧ Below w.heap.size w w' := by
  have I0 := Aside0.mk (WInv.start w A c x B d y)
  obtain ⟨l, xl⟩ := x
  obtain ⟨m, yl⟩ := y
  dsimp only at *
  have HL := Aside0.mk hl
  have HM := Aside0.mk hm
  have HX0 := Aside0.mk hl.max
  clear hl hm
  have hu29 := Try.underlying24
  have hu93 := Try.underlying71
  have e0 : decide ((⟨l, xl⟩ : Pr) = ⟨m, yl⟩) = (decide (xl = yl) && decide (l = m)) := by
    rw [Bool.eq_iff_iff]; simp [and_comm]
  rw [e0]
  clear e0
  by_cases hn : l.length = m.length
  case neg =>
    have hnb : ((l.length : Int) != (m.length : Int)) = true := bne_iff_ne.mpr (by omega)
    have HF := Aside0.mk (show (decide (xl = yl) && decide (l = m)) = false by rw [decide_eq_false (fun h : l = m => hn (by rw [h])), Bool.and_false])
    clear hn
    obtain ⟨r0, r1⟩ := (blk2w I0.out.B0).1
    obtain ⟨s0, s1⟩ := (blk2w I0.out.B1).1
    go_enter Try.func27, Try.ntmps27
    go_wp2
    go_ret
    exact ⟨ret_bool HF.out.symm, I0.out.BW⟩
  have hnb : ((l.length : Int) != (m.length : Int)) = false := bne_eq_false_iff_eq.mpr (by omega)
  have HN := Aside0.mk hn
  clear hn
  by_cases hq : xl = yl
  case neg =>
    have hqb : (xl != yl) = true := bne_iff_ne.mpr hq
    rw [decide_eq_false hq, Bool.false_and]
    clear hq
    obtain ⟨r0, r1⟩ := (blk2w I0.out.B0).1
    obtain ⟨s0, s1⟩ := (blk2w I0.out.B1).1
    go_enter Try.func27, Try.ntmps27
    go_wp2
    go_ret
    exact ⟨rfl, I0.out.BW⟩
  have hqb : (xl != yl) = false := bne_eq_false_iff_eq.mpr hq
  rw [decide_eq_true hq, Bool.true_and]
  clear hq
  obtain ⟨R, hR⟩ : ∃ R, decide (l = m) = R := ⟨_, rfl⟩
  rw [hR]
  have HR := Aside0.mk hR
  clear hR
  go_enter Try.func27, Try.ntmps27
  go_wp2
  clear hqb hnb
  go_loopg [5] l.length (fun gg s5 wr => ∃ k : Nat, s5 = .int .i64 k ∧ Aside0 (k ≤ l.length ∧ l.length - k ≤ gg) ∧ Aside0 (WInv w A c ⟨l, xl⟩ B d ⟨m, yl⟩ wr) ∧ Aside0 (decide (l.drop k = m.drop k) = R))
  case atStart => exact ⟨0, rfl, ⟨by omega, by omega⟩, I0, ⟨by simpa using HR.out⟩⟩
  case round =>
    clear I0
    obtain ⟨k, rfl, HX, I, HA⟩ := hrel
    obtain ⟨r0, r1⟩ := (blk2w I.out.B0).1
    obtain ⟨s0, s1⟩ := (blk2w I.out.B1).1
    have HBD := Aside0.mk (fun n => I.out.below (pw_below_drewN (Below.refl _ _) n))
    by_cases hlt : k < l.length
    · have hlt2 : k < m.length := by have := HN.out; omega
      obtain ⟨ad, e1, hx, hx1⟩ := at_gate (HL.out.below I.out.BW).r k hlt
      obtain ⟨bd, e2, hy, hy1⟩ := at_gate (HM.out.below I.out.BW).r k hlt2
      cases e1
      cases e2
      have hdd := HA.out
      simp only [eq_drop hlt hlt2] at hdd
      have HLT := Aside0.mk hlt
      generalize l[k] = x at *
      generalize m[k] = y at *
      have HDD := Aside0.mk hdd
      clear HA hdd
      by_cases z : x.f0 = y.f0 ∧ x.f1 = y.f1
      · have hz0 : (x.f0 == y.f0) = true := beq_iff_eq.mpr z.1
        have hz1 : (x.f1 == y.f1) = true := beq_iff_eq.mpr z.2
        have hg0 : (x.f0 != y.f0) = false := bne_eq_false_iff_eq.mpr z.1
        have hg1 : (x.f1 != y.f1) = false := bne_eq_false_iff_eq.mpr z.2
        have HXY := Aside0.mk ((gate_ext x y).2 z)
        clear z
        go_wp2
        go_quiet (fail)
        go_wp2
        go_roundg (l.length - (k + 1))
        case measure => have := HX.out; have := HLT.out; omega
        case rel => exact ⟨k + 1, val_step HLT.out HX0.out, ⟨HLT.out, by have := HX.out; omega⟩, ⟨HBD.out _⟩, ⟨by rw [← HDD.out]; simp [HXY.out]⟩⟩
      · have HXY := Aside0.mk (show decide (x = y ∧ l.drop (k + 1) = m.drop (k + 1)) = false from decide_eq_false (fun h => z ((gate_ext x y).1 h.1)))
        have hzz : (x.f0 == y.f0 && x.f1 == y.f1) = false := by
          rw [Bool.eq_false_iff]; intro h; simp at h; exact z h
        clear z
        cases hz0 : (x.f0 == y.f0) with
        | false =>
          go_wp2
          go_quiet (fail)
          go_wp2
          go_ret
          exact ⟨ret_bool (by rw [← HDD.out, HXY.out]), (HBD.out _).BW⟩
        | true =>
          have hz1 : (x.f1 == y.f1) = false := by rw [hz0, Bool.true_and] at hzz; exact hzz
          clear hzz
          go_wp2
          go_quiet (fail)
          go_wp2
          go_ret
          exact ⟨ret_bool (by rw [← HDD.out, HXY.out]), (HBD.out _).BW⟩
    · have hE : k = l.length := by have := HX.out.1; omega
      have hdd := HA.out
      rw [hE, List.drop_length, show m.drop l.length = [] by rw [HN.out, List.drop_length]] at hdd
      have HDD := Aside0.mk hdd
      clear hdd hE HA
      go_wp2
      go_ret
      exact ⟨ret_bool (by rw [← HDD.out]; simp), I.out.BW⟩
/-- A truth value comes back; if it is false, P holds. -/
def RetG (P : Prop) (w w' : World) (e : Ending) : Prop := ∃ b, e = .returned (.bool b) ∧ (b = false → P) ∧ Below w.heap.size w w'
set_option maxHeartbeats 2000000 in
set_option maxRecDepth 100000 in
theorem ref15_Great (A : Option Addr) (c : Nat) (l : List (List Int)) (w : World) (h : RS (Kd.slice 3 (Kd.int .i64)) w A c l) :
    Calls Try.prog 18 #[.int .i64 0, .slice A l.length c] w fun e w' => RetG (l.length ≤ 60 ∧ ∀ r ∈ l, r.length ≤ 40) w w' e := by
  have HL := Aside0.mk h
  have HX := Aside0.mk h.max
  clear h
  go_enter Try.func18, Try.ntmps18
  go_wp2
  go_loopg [5] 62 (fun gg s5 wr => ∃ k : Nat, s5 = .int .i64 k ∧ Aside0 (k ≤ l.length ∧ k ≤ 61 ∧ 62 - k ≤ gg) ∧ Aside0 (Below w.heap.size w wr) ∧ Aside0 (∀ j (hj : j < l.length), j < k → l[j].length ≤ 40))
  case atStart => exact ⟨0, rfl, ⟨by omega, by omega, by omega⟩, ⟨Below.refl _ _⟩, ⟨fun j _ hj => absurd hj (by omega)⟩⟩
  case round =>
    obtain ⟨k, rfl, HK, BW, HA⟩ := hrel
    by_cases hlt : (k : Int) < (l.length : Int)
    · by_cases h60 : (k : Int) ≤ 60
      · have hlt' : k < l.length := by omega
        obtain ⟨ad, B, cB, e1, hx, hrow⟩ := at_row (HL.out.below BW.out).r k hlt'
        cases e1
        have HS := Aside0.mk (show l[k].length ≤ 40 → ∀ j (hj : j < l.length), j < k + 1 → l[j].length ≤ 40 from fun h_ j hj hjk => by
          by_cases e0 : j = k
          · subst e0; exact h_
          · exact HA.out j hj (by omega))
        have HLT := Aside0.mk (And.intro hlt' h60)
        generalize l[k] = r at *
        clear hlt'
        by_cases hr : 40 < (r.length : Int)
        · go_wp2
          go_ret
          exact ⟨true, rfl, (fun h => by cases h), BW.out⟩
        · have HR := Aside0.mk (HS.out (by omega))
          go_wp2
          go_roundg (62 - (k + 1))
          case measure => have := HK.out; omega
          case rel => exact ⟨k + 1, rfl, ⟨by have := HLT.out; omega, by have := HLT.out; omega, by have := HK.out; omega⟩, BW, HR⟩
      · have hl60 : 60 < (l.length : Int) := by omega
        go_wp2
        go_ret
        exact ⟨true, rfl, (fun h => by cases h), BW.out⟩
    · have hk : k = l.length := by have := HK.out.1; omega
      have HK2 := Aside0.mk hk
      by_cases hl60 : 60 < (l.length : Int)
      · go_wp2
        go_ret
        exact ⟨true, rfl, (fun h => by cases h), BW.out⟩
      · have HL60 := Aside0.mk hl60
        go_wp2
        go_ret
        exact ⟨false, rfl, fun _ => ⟨by have := HL60.out; omega, fun r hr => by
          obtain ⟨j, hj, rfl⟩ := List.getElem_of_mem hr
          exact HA.out j hj (by have := HK2.out; omega)⟩, BW.out⟩
def smallP (p : Pr) : Prop := p.f0.length ≤ 60 ∨ p.f0.length = 1001
set_option maxHeartbeats 2000000 in
set_option maxRecDepth 100000 in
theorem law24_great (n : Int) (A : Option Addr) (k : Nat) (p : Pr) (B : Option Addr) (d : Nat) (q : Pr) (w : World) :
    Calls Try.prog 17 #[.int .i64 n, pv A k p, pv B d q] w fun e w' => RetG (smallP p ∧ smallP q ∧ n ≤ 1001) w w' e := by
  have I0 := Aside0.mk (WInv.start w A k p B d q)
  have hu24 := Try.underlying24
  have H1 := Aside0.mk (fun W => ref24_Great A k p W)
  have H2 := Aside0.mk (fun W => ref24_Great B d q W)
  have G1 := Aside0.mk (show (decide (60 < p.f0.length) && decide (p.f0.length ≠ 1001)) = false → smallP p from fun h => by
    simp only [Bool.and_eq_false_iff, decide_eq_false_iff_not] at h
    unfold smallP
    omega)
  have G2 := Aside0.mk (show (decide (60 < q.f0.length) && decide (q.f0.length ≠ 1001)) = false → smallP q from fun h => by
    simp only [Bool.and_eq_false_iff, decide_eq_false_iff_not] at h
    unfold smallP
    omega)
  generalize (decide (60 < p.f0.length) && decide (p.f0.length ≠ 1001)) = g1 at *
  generalize (decide (60 < q.f0.length) && decide (q.f0.length ≠ 1001)) = g2 at *
  generalize smallP p = P1 at *
  generalize smallP q = P2 at *
  obtain ⟨pa, pl⟩ := p
  obtain ⟨qa, ql⟩ := q
  dsimp only [pv] at *
  obtain ⟨r0, r1⟩ := (blk2w I0.out.B0).1
  obtain ⟨s0, s1⟩ := (blk2w I0.out.B1).1
  go_enter Try.func17, Try.ntmps17
  go_wp2_with fail
  refine (H1.out _).mono ?_
  rintro e w1 ⟨rfl, hb1⟩
  have I1 := Aside0.mk (I0.out.below hb1)
  clear hb1 r0 r1 s0 s1
  obtain ⟨s0, s1⟩ := (blk2w I1.out.B1).1
  cases g1 with
  | true =>
    go_wp2
    go_ret
    exact ⟨true, rfl, (fun h => by cases h), I1.out.BW⟩
  | false =>
    go_wp2_with fail
    refine (H2.out _).mono ?_
    rintro e w2 ⟨rfl, hb2⟩
    have I2 := Aside0.mk (I1.out.below hb2)
    clear hb2 s0 s1
    cases g2 with
    | true =>
      go_wp2
      go_ret
      exact ⟨true, rfl, (fun h => by cases h), I2.out.BW⟩
    | false =>
      by_cases h60 : 60 < n
      · by_cases h940 : n < 940
        · go_wp2
          go_ret
          exact ⟨true, rfl, (fun h => by cases h), I2.out.BW⟩
        · have d1 : decide (n < 940) = false := decide_eq_false h940
          by_cases h1 : 1001 < n
          · go_wp2
            go_ret
            exact ⟨true, rfl, (fun h => by cases h), I2.out.BW⟩
          · have HF := Aside0.mk h1
            have d2 : decide (1001 < n) = false := decide_eq_false h1
            go_wp2
            go_ret
            exact ⟨false, rfl, fun _ => ⟨(by first | exact G1.out rfl | exact G1.out trivial), (by first | exact G2.out rfl | exact G2.out trivial), by have := HF.out; omega⟩, I2.out.BW⟩
      · have hno : ¬ 1001 < n := by omega
        have d0 : decide (60 < n) = false := decide_eq_false h60
        have d2 : decide (1001 < n) = false := decide_eq_false hno
        have HF := Aside0.mk hno
        go_wp2
        go_ret
        exact ⟨false, rfl, fun _ => ⟨(by first | exact G1.out rfl | exact G1.out trivial), (by first | exact G2.out rfl | exact G2.out trivial), by have := HF.out; omega⟩, I2.out.BW⟩
end Go.Proofs.Ytgcdanpihaeioaa.PH
