/- The law PhasesFrames: its function answers true. -/
import Derived.Test.YtpfkiecihheidaaHNamesPh
import Derived.Test.YtpfkiecihheidaaHPhS
import Derived.Test.YtpfkiecihheidaaHSame4
import Derived.Test.YtpfkiecihheidaaHPackV
namespace Go.Proofs.Ytpfkiecihheidaa.PH
open Go.RowKit Go.Proofs.YtpfkiecihheidaaW.PrintWords Go.Proofs.YtpfkiecihheidaaW.PrintLast
set_option linter.unusedVariables false
set_option linter.unusedSimpArgs false

theorem infoB1 : ∃ i, Try.prog.info? 4 = some i ∧ i.size = 1 := by
  have h := infoBool
  cases h2 : Try.prog.info? 4 with
  | none => rw [h2] at h; cases h
  | some i =>
    rw [h2] at h
    refine ⟨i, rfl, ?_⟩
    simp only [Option.map_some, Option.some.injEq, Prod.mk.injEq] at h
    exact h.2.1
/-- The inputs of a frame are a part of all. -/
theorem row_cut {c : Circ} (h0 : 0 ≤ c.f0) {all : List Bool} {m : Nat} (ha : (all.length : Int) = (m : Int) * c.f0) {j : Nat} (hj : j < m) :
    0 ≤ (j : Int) * c.f0 ∧ (j : Int) * c.f0 ≤ ((j : Int) + 1) * c.f0 ∧ ((j : Int) + 1) * c.f0 ≤ (all.length : Int) ∧ (all.take (((j : Int) + 1) * c.f0).toNat).drop ((j : Int) * c.f0).toNat = rowAt c all j := by
  obtain ⟨I, hI⟩ : ∃ I : Nat, c.f0 = I := ⟨c.f0.toNat, by omega⟩
  have e1 : (j : Int) * c.f0 = ((j * I : Nat) : Int) := by rw [hI]; push_cast; rfl
  have e2 : ((j : Int) + 1) * c.f0 = ((j * I + I : Nat) : Int) := by rw [hI, Int.add_mul]; push_cast; omega
  have e3 : j * I + I ≤ m * I := by have h1 := Nat.mul_le_mul_right I (show j + 1 ≤ m by omega); rw [Nat.add_mul] at h1; omega
  have e4 : (m : Int) * c.f0 = ((m * I : Nat) : Int) := by rw [hI]; push_cast; rfl
  rw [e1, e2, ha, e4]
  refine ⟨by omega, by omega, by omega, ?_⟩
  unfold rowAt
  rw [Int.toNat_natCast, Int.toNat_natCast, hI, Int.toNat_natCast, List.drop_take]
  congr 1
  omega
theorem ph_of_err {c : Circ} (hc : check c = 0) {k : Nat} (h2 : 2 ≤ k) (h4 : k ≤ 4) {r : Red} {n : Int} (h : phOf c k = (r, n)) : phDone c k = (r, n) ∧ (n = 0 ∨ n = 4) := by
  unfold phOf at h
  rw [if_pos hc, if_neg (by omega), if_neg (by omega), Int.toNat_natCast] at h
  refine ⟨h, ?_⟩
  unfold phDone at h
  split at h
  · exact .inr (congrArg Prod.snd h).symm
  · exact .inl (congrArg Prod.snd h).symm
/-- One more. -/
theorem any_take {l : List Bool} {i : Nat} (h : i < l.length) : (l.take (i + 1)).any id = ((l.take i).any id || l[i]) := by
  rw [take_at h, List.any_append]
  simp
theorem or_step (h t x s : Bool) : ((h || (t && s)) || (x && s)) = (h || ((t || x) && s)) := by
  cases h <;> cases t <;> cases x <;> cases s <;> rfl
set_option maxHeartbeats 8000000 in
set_option maxRecDepth 100000 in
theorem law_PhasesFrames (p : CP) (c : Circ) (k : Int) (D : Option Addr × Nat) (st : List Bool) (G : Option Addr × Nat) (all : List Bool) (w : World) (h : RC w p c) (hst : RS Kd.bool w D.1 D.2 st) (hall : RS Kd.bool w G.1 G.2 all) (nc : c.Nums) (nk : I64 k) (ns : ∀ x ∈ st, True) (na : ∀ x ∈ all, True) :
    Calls Try.prog 6 #[cv p c, .int .i64 k, .slice D.1 st.length D.2, .slice G.1 all.length G.2] w fun e w' => e = .returned (.bool true) ∧ Below w.heap.size w w' := by
  obtain ⟨D, d⟩ := D
  obtain ⟨G, gc⟩ := G
  dsimp only at hst hall ⊢
  have HH := Aside0.mk h
  have HS := Aside0.mk hst
  have HG := Aside0.mk hall
  have hu26 := Try.underlying26
  have hu40 := Try.underlying35
  have hu54 := Try.underlying54
  have S := Aside0.mk ((Parts.start w).new 26 (fc5 p c))
  obtain ⟨o, ho⟩ : ∃ o, great c = o := ⟨_, rfl⟩
  have HO := Aside0.mk ho
  have NC := Aside0.mk nc
  have NK := Aside0.mk nk
  clear h hst hall nc nk ns na ho
  go_enter Try.func6, Try.ntmps6
  go_wp2_with fail
  refine (law_alive _).mono ?_
  rintro e w2 ⟨rfl, hb⟩
  replace S := Aside0.mk (S.out.below hb)
  clear hb
  obtain ⟨a_0, a_1, a_2, a_3, a_4⟩ := blk5 (S.out.blk 0 rfl)
  go_wp2_with fail
  refine (ref02_Great p c _).mono ?_
  rintro e w3 ⟨rfl, hb⟩
  replace S := Aside0.mk (S.out.below hb)
  rw [HO.out]
  clear a_0 a_1 a_2 a_3 a_4 hb
  cases o with
  | true =>
    go_wp2
    go_ret
    exact ⟨rfl, S.out.B⟩
  | false =>
  have FC := Aside0.mk (NC.out.fitsC HO.out)
  obtain ⟨a_0, a_1, a_2, a_3, a_4⟩ := blk5 (S.out.blk 0 rfl)
  go_wp2_with fail
  refine (ref02_Check p c _ (HH.out.below S.out.B) FC.out).mono ?_
  rintro e w4 ⟨rfl, hb⟩
  replace S := Aside0.mk (S.out.below hb)
  clear a_0 a_1 a_2 a_3 a_4 hb
  obtain ⟨a_0, a_1, a_2, a_3, a_4⟩ := blk5 (S.out.blk 0 rfl)
  by_cases hc : check c = 0
  case neg =>
    have hcb : (check c != 0) = true := bne_iff_ne.2 hc
    clear hc
    go_wp2
    go_ret
    exact ⟨rfl, S.out.B⟩
  rw [hc]
  have HC := Aside0.mk hc
  clear hc
  by_cases hl : st.length = c.f1.length
  case neg =>
    have hlb : ((st.length : Int) != c.f1.length) = true := bne_iff_ne.2 (by omega)
    clear hl
    go_wp2
    go_ret
    exact ⟨rfl, S.out.B⟩
  have hlb : ((st.length : Int) != c.f1.length) = false := bne_eq_false_iff_eq.2 (by omega)
  have HL := Aside0.mk hl
  clear hl
  by_cases hk2 : k < 2
  case pos =>
    go_wp2
    go_ret
    exact ⟨rfl, S.out.B⟩
  by_cases hk4 : 4 < k
  case pos =>
    go_wp2
    go_ret
    exact ⟨rfl, S.out.B⟩
  have HB := Aside0.mk (cbnd_of HC.out)
  obtain ⟨m, rfl⟩ : ∃ m : Nat, k = m := ⟨k.toNat, by omega⟩
  have HK := Aside0.mk (show 2 ≤ m ∧ m ≤ 4 by omega)
  have HI := Aside0.mk (show 0 ≤ c.f0 ∧ c.f0 ≤ 1000 by have := HB.out.h0; have := HB.out.n; omega)
  have HW : ∀ j : Nat, j ≤ 5 → wrap64 ((j : Int) * c.f0) = (j : Int) * c.f0 := fun j hj => by
    have h1 := HI.out
    have h2 : 0 ≤ (j : Int) * c.f0 := Int.mul_nonneg (by omega) h1.1
    have h3 : (j : Int) * c.f0 ≤ 5 * 1000 := Int.mul_le_mul (by omega) h1.2 h1.1 (by decide)
    exact wrap_in (by omega) (by omega)
  have hw := HW m (by have := HK.out; omega)
  have HWA := Aside0.mk HW
  clear HW
  by_cases ha : (all.length : Int) = (m : Int) * c.f0
  case neg =>
    have hlb2 : ((all.length : Int) != (m : Int) * c.f0) = true := bne_iff_ne.2 ha
    clear ha
    go_wp2
    go_ret
    exact ⟨rfl, S.out.B⟩
  have hlb2 : ((all.length : Int) != (m : Int) * c.f0) = false := bne_eq_false_iff_eq.2 ha
  have HA := Aside0.mk ha
  clear ha
  obtain ⟨⟨r, n⟩, hr⟩ : ∃ r, phOf c m = r := ⟨_, rfl⟩
  have h1 := ph_of_err HC.out HK.out.1 HK.out.2 hr
  have HR := Aside0.mk h1.1
  have HN := Aside0.mk h1.2
  have C1 := Aside0.mk (fun W (hb : Below w.heap.size w W) => show Calls Try.prog 10 #[cv p c, .int .i64 (m : Int)] W (fun e w' => RetRs W w' r n e) from (by have h_ := phases_Of p c m W (HH.out.below hb) FC.out; rw [hr] at h_; exact h_))
  clear h1 hr
  go_wp2_with fail
  refine (C1.out _ S.out.B).mono ?_
  rintro e w5 ⟨p5, q5, rfl, hh, hb⟩
  replace S := Aside0.mk ((S.out.ofRs hh hb).new 35 (rvals p5 q5 r))
  clear hh hb a_0 a_1 a_2 a_3 a_4 hlb hlb2 hw
  go_upto_region 5 with (fail)
  generalize w5.heap.size = g5 at *
  generalize w5.alloc (.cells (rvals p5 q5 r) 35) = w6 at *
  rcases HN.out with rfl | rfl
  case inr =>
    go_wp2
    go_ret
    exact ⟨rfl, S.out.B⟩
  obtain ⟨H, hH⟩ : ∃ H, hxRun c (rowAt c all) st m = H := ⟨_, rfl⟩
  have F := Aside0.mk (ph_frame HC.out HR.out HL.out HA.out)
  rw [hH] at F
  have HH2 := Aside0.mk hH
  have FR := Aside0.mk (fits_cb F.out.hc)
  have HLR := Aside0.mk (check_lits F.out.hc).1
  have HLC := Aside0.mk (check_lits HC.out).1
  clear hH
  have K5 := Aside0.mk (Held.self (S.out.hP 1 _ rfl)).1
  have P1 := Aside0.mk (fun W (hb : Below w6.heap.size w6 W) => show Calls Try.prog 28 #[cv p5 r.f0, .slice D st.length d, .slice G all.length gc] W (fun e w' => RetPp W w' (H.hope || H.so) [H.hope] e) from (by
    have h_ := values_Props p5 r.f0 D d st G gc all W (K5.out.below hb) FR.out (HS.out.below (S.out.B.trans (hb.mono S.out.z))) (HG.out.below (S.out.B.trans (hb.mono S.out.z))) F.out.hc (by rw [F.out.f1]; exact HL.out) (by rw [F.out.f0]; exact HA.out) HLR.out
    rw [F.out.b, F.out.h] at h_
    exact h_))
  have N1 := Aside0.mk (fun W (hb : Below w6.heap.size w6 W) => show Calls Try.prog 29 #[cv p5 r.f0, .slice D st.length d, .slice G all.length gc] W (fun e w' => RetVo W w' H.now e) from (by
    have h_ := values_Next p5 r.f0 D d st G gc all W (K5.out.below hb) FR.out (HS.out.below (S.out.B.trans (hb.mono S.out.z))) (HG.out.below (S.out.B.trans (hb.mono S.out.z))) F.out.hc (by rw [F.out.f1]; exact HL.out) (by rw [F.out.f0]; exact HA.out) HLR.out
    rw [F.out.n] at h_
    exact h_))
  obtain ⟨a_0, a_1, a_2, a_3, a_4⟩ := blk5 (S.out.blk 2 rfl)
  obtain ⟨⟨b_0, b_1, b_2, b_3, b_4⟩, _⟩ := blk12 (S.out.blk 0 rfl)
  have S6 := S
  go_wp2_with fail
  refine (P1.out _ (Below.refl _ _)).mono ?_
  rintro e w7 ⟨PA, pa, rfl, hr7, hb7⟩
  replace S := Aside0.mk (S.out.below hb7)
  have B7 := Aside0.mk hb7
  have R7 := Aside0.mk hr7
  clear a_0 a_1 a_2 a_3 a_4 b_0 b_1 b_2 b_3 b_4 hb7 hr7
  obtain ⟨⟨b_0, b_1, b_2, b_3, b_4⟩, _⟩ := blk12 (S.out.blk 0 rfl)
  go_wp2_with fail
  refine (N1.out _ B7.out).mono ?_
  rintro e w8 ⟨NA, na, rfl, hr8, hb8⟩
  replace S := Aside0.mk (S.out.below hb8)
  have R7b := Aside0.mk (R7.out.below hb8)
  have R8 := Aside0.mk (RS.of_R' hr8)
  clear b_0 b_1 b_2 b_3 b_4 hb8 hr8
  go_upto_region 12 with (fail)
  have HSD := Aside0.mk (HS.out.below S.out.B)
  obtain ⟨Hn, Hs, Hh⟩ := H
  clear R7
  dsimp only at R7b R8 HH2 ⊢
  clear P1 N1 C1 S6
  go_loopg [17, 18, 19, 20, 21, 22, 23, 24, 25, 26, 27] m (fun gg s17 s18 s19 s20 _ _ _ _ _ _ _ wr => ∃ (j : Nat) (A : Option Addr) (e : Nat) (now : List Bool) (so hope : Bool), s17 = .bool hope ∧ s18 = .bool so ∧ s19 = .slice A now.length e ∧ s20 = .int .i64 j ∧ Aside0 (j ≤ m ∧ m - j ≤ gg) ∧ Aside0 (Below w8.heap.size w8 wr) ∧ Aside0 (RS Kd.bool wr A e now) ∧ Aside0 (hxRun c (rowAt c all) st j = ⟨now, so, hope⟩))
  case atStart => exact ⟨0, D, d, st, true, false, rfl, rfl, rfl, rfl, ⟨by omega, by omega⟩, ⟨Below.refl _ _⟩, HSD, ⟨rfl⟩⟩
  case round =>
    obtain ⟨j, A, e, now, so, hope, rfl, rfl, rfl, rfl, HX, BW, HR1, HE⟩ := hrel
    have SB := Aside0.mk (S.out.below BW.out)
    by_cases hlt : j < m
    · have HLT := Aside0.mk hlt
      have hlti : (j : Int) < m := by omega
      have hj1 : wrap64 ((j : Int) + 1) = (j : Int) + 1 := by have := HK.out; exact wrap_in (by omega) (by omega)
      have hw1 := HWA.out j (by have := HK.out; omega)
      have hw2 := HWA.out (j + 1) (by have := HK.out; omega)
      rw [show ((j + 1 : Nat) : Int) = (j : Int) + 1 by push_cast; rfl] at hw2
      obtain ⟨hlo0, hlh, hhi, hrow⟩ := row_cut HI.out.1 HA.out hlt
      obtain ⟨ib, hib, hisz⟩ := infoB1
      have hcut := cut_mid (P := Try.prog) 54 4 .i64 .i64 hu54 hib 1 hisz G all.length gc ((j : Int) * c.f0) (((j : Int) + 1) * c.f0) hlo0 hlh hhi HG.out.h
      have hX := Kd.C_mid (c := gc) (HG.out.below SB.out.B).r (show ((j : Int) * c.f0).toNat ≤ (((j : Int) + 1) * c.f0).toNat by omega) (by omega) HG.out.h
      rw [hrow] at hX
      simp only [show Kd.bool.sz = 1 from rfl, Nat.mul_one] at hX
      have hIl : (((j : Int) + 1) * c.f0).toNat - ((j : Int) * c.f0).toNat = (rowAt c all j).length := by rw [← hrow, List.length_drop, List.length_take]; omega
      have hIc : ((rowAt c all j).length : Int) = c.f0 := by rw [← hIl]; rw [Int.add_mul] at hhi hlh ⊢; omega
      have hcap : (rowAt c all j).length ≤ gc - ((j : Int) * c.f0).toNat := by rw [← hIl]; have := HG.out.h; omega
      simp only [Nat.mul_one, hIl] at hcut
      generalize (if gc = ((j : Int) * c.f0).toNat then G else G.map (·.add (((j : Int) * c.f0).toNat))) = X at *
      generalize gc - ((j : Int) * c.f0).toNat = xc at *
      have HX2 := Aside0.mk (show hxRun c (rowAt c all) st (j + 1) = hxStep c (rowAt c all j) ⟨now, so, hope⟩ by rw [← HE.out]; rfl)
      generalize rowAt c all j = row at *
      have HRX := Aside0.mk (show RS Kd.bool wr X xc row from ⟨hX, hcap⟩)
      have HIC := Aside0.mk hIc
      have HNL := Aside0.mk (show now.length = c.f1.length by have h_ := hxRun_len (c := c) (rows := rowAt c all) HL.out j; rw [HE.out] at h_; exact h_)
      clear hib hisz hlo0 hlh hhi hrow hX hIl hIc hcap
      obtain ⟨a_0, a_1, a_2, a_3, a_4⟩ := blk5 (SB.out.blk 2 rfl)
      clear hlt
      go_upto_region 15 with (fail)
      obtain ⟨hv, hhv⟩ : ∃ b, holdsOf c now row = b := ⟨_, rfl⟩
      obtain ⟨bl, hbl⟩ : ∃ b, badsOf c now row = b := ⟨_, rfl⟩
      obtain ⟨nx, hnx⟩ : ∃ b, nextOf c now row = b := ⟨_, rfl⟩
      have HXS := Aside0.mk (show hxRun c (rowAt c all) st (j + 1) = ⟨nx, so && hv, hope || (bl.any id && (so && hv))⟩ by rw [HX2.out]; unfold hxStep; dsimp only; rw [hhv, hbl, hnx])
      have P1 := Aside0.mk (fun W (hb : Below wr.heap.size wr W) => show Calls Try.prog 28 #[cv p c, .slice A now.length e, .slice X row.length xc] W (fun e w' => RetPp W w' hv bl e) from (by
        have h_ := values_Props p c A e now X xc row W (HH.out.below (SB.out.B.trans (hb.mono SB.out.z))) FC.out (HR1.out.below hb) (HRX.out.below hb) HC.out HNL.out HIC.out HLC.out
        rw [hhv, hbl] at h_
        exact h_))
      have N1 := Aside0.mk (fun W (hb : Below wr.heap.size wr W) => show Calls Try.prog 29 #[cv p c, .slice A now.length e, .slice X row.length xc] W (fun e w' => RetVo W w' nx e) from (by
        have h_ := values_Next p c A e now X xc row W (HH.out.below (SB.out.B.trans (hb.mono SB.out.z))) FC.out (HR1.out.below hb) (HRX.out.below hb) HC.out HNL.out HIC.out HLC.out
        rw [hnx] at h_
        exact h_))
      have HBL := Aside0.mk (show bl.length ≤ 100 by rw [← hbl, badsOf_len]; exact HB.out.b)
      clear hhv hbl hnx HX2 hcut hw1 hw2
      go_wp2_with fail
      refine (P1.out _ (Below.refl _ _)).mono ?_
      rintro e w9 ⟨BA, ba, rfl, hr9, hb9⟩
      have SC := Aside0.mk (SB.out.below hb9)
      have B9 := Aside0.mk hb9
      have R9 := Aside0.mk hr9
      clear a_0 a_1 a_2 a_3 a_4 hb9 hr9
      obtain ⟨a_0, a_1, a_2, a_3, a_4⟩ := blk5 (SC.out.blk 2 rfl)
      go_wp2_with fail
      refine (N1.out _ B9.out).mono ?_
      rintro e w10 ⟨XA, xa, rfl, hr10, hb10⟩
      have SD := Aside0.mk (SC.out.below hb10)
      have B10 := Aside0.mk (B9.out.trans (hb10.mono B9.out.size))
      have R10 := Aside0.mk (RS.of_R' hr10)
      have R9 := Aside0.mk (R9.out.below hb10)
      clear a_0 a_1 a_2 a_3 a_4 hb10 hr10 hj1 P1 N1
      obtain ⟨wz, hwz⟩ : ∃ W, wr = W := ⟨_, rfl⟩
      rw [hwz] at BW HR1 SB HRX B9 B10
      clear hwz
      cases so with
      | true =>
        simp only [Bool.true_and] at HXS
        cases hv with
        | true =>
          go_upto_region 21 with (fail)
          go_loopg [17, 27] bl.length (fun gg s17 s27 wr => ∃ (i : Nat) (hp : Bool), s17 = .bool hp ∧ s27 = .int .i64 i ∧ Aside0 (i ≤ bl.length ∧ bl.length - i ≤ gg) ∧ Aside0 (Below w10.heap.size w10 wr) ∧ Aside0 (hp = (hope || ((bl.take i).any id && true))))
          case atStart => exact ⟨0, hope, rfl, rfl, ⟨by omega, by omega⟩, ⟨Below.refl _ _⟩, ⟨by simp⟩⟩
          case round =>
            obtain ⟨i, hp, rfl, rfl, HXi, BWi, HPi⟩ := hrel
            by_cases hli : i < bl.length
            · obtain ⟨bd, e1, hx⟩ := at_bool (R9.out.below BWi.out).r i hli
              have HST := Aside0.mk (any_take hli)
              have HLI := Aside0.mk hli
              subst e1
              generalize bl[i] = x at *
              have hlii : (i : Int) < bl.length := by omega
              clear hli
              have HQ := Aside0.mk (show (hp || (x && true)) = (hope || ((bl.take (i + 1)).any id && true)) by rw [HST.out, HPi.out]; exact or_step _ _ _ _)
              cases hp with
              | true =>
                go_wp2
                go_roundg (bl.length - (i + 1))
                case measure => have := HXi.out; have := HLI.out; omega
                case rel => exact ⟨i + 1, true, rfl, (by first | exact val_step HLI.out (by have := HBL.out; omega) | (push_cast; rfl)), ⟨HLI.out, by have := HXi.out; omega⟩, BWi, ⟨by rw [← HQ.out]; rfl⟩⟩
              | false =>
                go_wp2
                go_roundg (bl.length - (i + 1))
                case measure => have := HXi.out; have := HLI.out; omega
                case rel => exact ⟨i + 1, (x && true), by simp, (by first | exact val_step HLI.out (by have := HBL.out; omega) | (push_cast; rfl)), ⟨HLI.out, by have := HXi.out; omega⟩, BWi, ⟨by rw [← HQ.out]; rfl⟩⟩
            · have HEi := Aside0.mk (show i = bl.length by have := HXi.out; omega)
              have HQ := Aside0.mk (show hp = (hope || (bl.any id && true)) by have h_ := HPi.out; rw [HEi.out, List.take_length] at h_; exact h_)
              go_wp2
              go_roundg (m - (j + 1))
              case measure => have := HX.out; have := HLT.out; omega
              case rel => exact ⟨j + 1, XA, xa, nx, true, hp, rfl, rfl, rfl, (by first | exact val_step HLT.out (by have := HK.out; omega) | (push_cast; rfl)), ⟨HLT.out, by have := HX.out; omega⟩, ⟨BW.out.trans ((B10.out.trans (BWi.out.mono B10.out.size)).mono BW.out.size)⟩, ⟨R10.out.below BWi.out⟩, ⟨by rw [HXS.out, ← HQ.out]⟩⟩
        | false =>
          go_upto_region 21 with (fail)
          go_loopg [17, 27] bl.length (fun gg s17 s27 wr => ∃ (i : Nat) (hp : Bool), s17 = .bool hp ∧ s27 = .int .i64 i ∧ Aside0 (i ≤ bl.length ∧ bl.length - i ≤ gg) ∧ Aside0 (Below w10.heap.size w10 wr) ∧ Aside0 (hp = (hope || ((bl.take i).any id && false))))
          case atStart => exact ⟨0, hope, rfl, rfl, ⟨by omega, by omega⟩, ⟨Below.refl _ _⟩, ⟨by simp⟩⟩
          case round =>
            obtain ⟨i, hp, rfl, rfl, HXi, BWi, HPi⟩ := hrel
            by_cases hli : i < bl.length
            · obtain ⟨bd, e1, hx⟩ := at_bool (R9.out.below BWi.out).r i hli
              have HST := Aside0.mk (any_take hli)
              have HLI := Aside0.mk hli
              subst e1
              generalize bl[i] = x at *
              have hlii : (i : Int) < bl.length := by omega
              clear hli
              have HQ := Aside0.mk (show (hp || (x && false)) = (hope || ((bl.take (i + 1)).any id && false)) by rw [HST.out, HPi.out]; exact or_step _ _ _ _)
              cases hp with
              | true =>
                go_wp2
                go_roundg (bl.length - (i + 1))
                case measure => have := HXi.out; have := HLI.out; omega
                case rel => exact ⟨i + 1, true, rfl, (by first | exact val_step HLI.out (by have := HBL.out; omega) | (push_cast; rfl)), ⟨HLI.out, by have := HXi.out; omega⟩, BWi, ⟨by rw [← HQ.out]; rfl⟩⟩
              | false =>
                go_wp2
                go_roundg (bl.length - (i + 1))
                case measure => have := HXi.out; have := HLI.out; omega
                case rel => exact ⟨i + 1, (x && false), by simp, (by first | exact val_step HLI.out (by have := HBL.out; omega) | (push_cast; rfl)), ⟨HLI.out, by have := HXi.out; omega⟩, BWi, ⟨by rw [← HQ.out]; rfl⟩⟩
            · have HEi := Aside0.mk (show i = bl.length by have := HXi.out; omega)
              have HQ := Aside0.mk (show hp = (hope || (bl.any id && false)) by have h_ := HPi.out; rw [HEi.out, List.take_length] at h_; exact h_)
              go_wp2
              go_roundg (m - (j + 1))
              case measure => have := HX.out; have := HLT.out; omega
              case rel => exact ⟨j + 1, XA, xa, nx, false, hp, rfl, rfl, rfl, (by first | exact val_step HLT.out (by have := HK.out; omega) | (push_cast; rfl)), ⟨HLT.out, by have := HX.out; omega⟩, ⟨BW.out.trans ((B10.out.trans (BWi.out.mono B10.out.size)).mono BW.out.size)⟩, ⟨R10.out.below BWi.out⟩, ⟨by rw [HXS.out, ← HQ.out]⟩⟩
      | false =>
        simp only [Bool.false_and] at HXS
        go_upto_region 21 with (fail)
        go_loopg [17, 27] bl.length (fun gg s17 s27 wr => ∃ (i : Nat) (hp : Bool), s17 = .bool hp ∧ s27 = .int .i64 i ∧ Aside0 (i ≤ bl.length ∧ bl.length - i ≤ gg) ∧ Aside0 (Below w10.heap.size w10 wr) ∧ Aside0 (hp = (hope || ((bl.take i).any id && false))))
        case atStart => exact ⟨0, hope, rfl, rfl, ⟨by omega, by omega⟩, ⟨Below.refl _ _⟩, ⟨by simp⟩⟩
        case round =>
          obtain ⟨i, hp, rfl, rfl, HXi, BWi, HPi⟩ := hrel
          by_cases hli : i < bl.length
          · obtain ⟨bd, e1, hx⟩ := at_bool (R9.out.below BWi.out).r i hli
            have HST := Aside0.mk (any_take hli)
            have HLI := Aside0.mk hli
            subst e1
            generalize bl[i] = x at *
            have hlii : (i : Int) < bl.length := by omega
            clear hli
            have HQ := Aside0.mk (show (hp || (x && false)) = (hope || ((bl.take (i + 1)).any id && false)) by rw [HST.out, HPi.out]; exact or_step _ _ _ _)
            cases hp with
            | true =>
              go_wp2
              go_roundg (bl.length - (i + 1))
              case measure => have := HXi.out; have := HLI.out; omega
              case rel => exact ⟨i + 1, true, rfl, (by first | exact val_step HLI.out (by have := HBL.out; omega) | (push_cast; rfl)), ⟨HLI.out, by have := HXi.out; omega⟩, BWi, ⟨by rw [← HQ.out]; rfl⟩⟩
            | false =>
              go_wp2
              go_roundg (bl.length - (i + 1))
              case measure => have := HXi.out; have := HLI.out; omega
              case rel => exact ⟨i + 1, (x && false), by simp, (by first | exact val_step HLI.out (by have := HBL.out; omega) | (push_cast; rfl)), ⟨HLI.out, by have := HXi.out; omega⟩, BWi, ⟨by rw [← HQ.out]; rfl⟩⟩
          · have HEi := Aside0.mk (show i = bl.length by have := HXi.out; omega)
            have HQ := Aside0.mk (show hp = (hope || (bl.any id && false)) by have h_ := HPi.out; rw [HEi.out, List.take_length] at h_; exact h_)
            go_wp2
            go_roundg (m - (j + 1))
            case measure => have := HX.out; have := HLT.out; omega
            case rel => exact ⟨j + 1, XA, xa, nx, false, hp, rfl, rfl, rfl, (by first | exact val_step HLT.out (by have := HK.out; omega) | (push_cast; rfl)), ⟨HLT.out, by have := HX.out; omega⟩, ⟨BW.out.trans ((B10.out.trans (BWi.out.mono B10.out.size)).mono BW.out.size)⟩, ⟨R10.out.below BWi.out⟩, ⟨by rw [HXS.out, ← HQ.out]⟩⟩
    · have HEj := Aside0.mk (show j = m by have := HX.out; omega)
      have h_ : (⟨now, so, hope⟩ : Hx) = ⟨Hn, Hs, Hh⟩ := by rw [← HH2.out, ← HE.out, HEj.out]
      injection h_ with h1 h2 h3
      subst h1
      subst h2
      subst h3
      have R7c := Aside0.mk (R7b.out.below BW.out)
      have R8c := Aside0.mk (R8.out.below BW.out)
      obtain ⟨bd, e1, hx⟩ := at_bool R7c.out.r 0 (by simp)
      subst e1
      have SM := Aside0.mk (show Calls Try.prog 30 #[.slice NA now.length na, .slice A now.length e] wr (fun e w' => e = .returned (.bool true) ∧ Below wr.heap.size wr w') from (by
        have h_ := ref04_Same NA na now A e now wr R8c.out HR1.out
        rw [decide_eq_true rfl] at h_
        exact h_))
      rw [show ([hope] : List Bool)[0]'(by simp) = hope from rfl, show bd.add 0 = bd by simp [Addr.add]] at hx
      cases hope with
      | true =>
        go_wp2_with fail
        refine SM.out.mono ?_
        rintro e wl ⟨rfl, hbl⟩
        have SL := Aside0.mk (SB.out.below hbl)
        clear hbl
        go_wp2
        go_ret
        exact ⟨rfl, SL.out.B⟩
      | false =>
        cases so with
        | true =>
          go_wp2_with fail
          refine SM.out.mono ?_
          rintro e wl ⟨rfl, hbl⟩
          have SL := Aside0.mk (SB.out.below hbl)
          clear hbl
          go_wp2
          go_ret
          exact ⟨rfl, SL.out.B⟩
        | false =>
          go_wp2_with fail
          refine SM.out.mono ?_
          rintro e wl ⟨rfl, hbl⟩
          have SL := Aside0.mk (SB.out.below hbl)
          clear hbl
          go_wp2
          go_ret
          exact ⟨rfl, SL.out.B⟩
end Go.Proofs.Ytpfkiecihheidaa.PH
