/- The law PredsTrue: its function answers true. -/
import Derived.Test.YtgcdanpihaeioaaHTrueC
import Derived.Test.YtgcdanpihaeioaaHLawWords
namespace Go.Proofs.Ytgcdanpihaeioaa.PH
open Go.RowKit Go.Proofs.YtgcdanpihaeioaaW.PrintWords Go.Proofs.YtgcdanpihaeioaaW.PrintLast
set_option linter.unusedVariables false
set_option linter.unusedSimpArgs false

theorem rightC_err {n : Int} {l : List (List Int)} (h : rightC n l = true) : ∀ c ∈ l, clauseErr n c = 0 := fun c hc => by
  have h2 := List.all_eq_true.1 h c hc
  simpa using h2
set_option maxHeartbeats 8000000 in
set_option maxRecDepth 100000 in
theorem law_PredsTrue (C : Option Addr × Nat) (l : List (List Int)) (D : Option Addr × Nat) (st : List Bool) (w : World) (hl : RS (Kd.slice 3 (Kd.int .i64)) w C.1 C.2 l) (hs : RS Kd.bool w D.1 D.2 st) (nl : ∀ r ∈ l, ∀ x ∈ r, I64 x) (ns : ∀ x ∈ st, True) :
    Calls Try.prog 5 #[.slice C.1 l.length C.2, .slice D.1 st.length D.2] w fun e w' => e = .returned (.bool true) ∧ Below w.heap.size w w' := by
  obtain ⟨C, c⟩ := C
  obtain ⟨D, d⟩ := D
  have HL := Aside0.mk hl
  have HS := Aside0.mk hs
  have NL := Aside0.mk nl
  have HX := Aside0.mk hl.max
  have hu24 := Try.underlying24
  clear hl hs nl ns
  dsimp only at *
  go_enter Try.func5, Try.ntmps5
  go_wp2_with fail
  refine (law24_alive _).mono ?_
  rintro e w0 ⟨rfl, hb0⟩
  have B := Aside0.mk hb0
  clear hb0
  by_cases h40 : 40 < (st.length : Int)
  · have h40n : 40 < st.length := by omega
    have h40d : decide (40 < st.length) = true := decide_eq_true h40n
    go_wp2
    go_ret
    exact ⟨rfl, B.out⟩
  have h40n : ¬ 40 < st.length := by omega
  have h40d : decide (40 < st.length) = false := decide_eq_false h40n
  have H40 := Aside0.mk h40n
  go_wp2_with fail
  refine (ref15_Great C c l _ (HL.out.below B.out)).mono ?_
  rintro e w1 ⟨b1, rfl, hG1, hb1⟩
  have B := Aside0.mk (B.out.trans (hb1.mono B.out.size))
  have HG1 := Aside0.mk hG1
  clear hb1 hG1
  cases b1 with
  | true =>
    go_wp2
    go_ret
    exact ⟨rfl, B.out⟩
  | false =>
  have H60 := Aside0.mk (HG1.out rfl).1
  go_wp2_with fail
  refine (ref15_Wrong st.length C c l _ (HL.out.below B.out) NL.out).mono ?_
  rintro e w2 ⟨n2, rfl, hR2, hb2⟩
  have B := Aside0.mk (B.out.trans (hb2.mono B.out.size))
  have HW := Aside0.mk hR2
  clear hb2 hR2
  by_cases hn2 : n2 = 0
  case neg =>
    have hn2b : (n2 != 0) = true := bne_iff_ne.mpr hn2
    clear hn2
    go_wp2
    go_ret
    exact ⟨rfl, B.out⟩
  have HRC := Aside0.mk (HW.out hn2)
  subst hn2
  have HCV := clauses_val (st := st) (by have := H40.out; omega) (by have := H60.out; omega) HRC.out
  have HPC := Aside0.mk (preds_Clauses st.length C c l)
  obtain ⟨r, hr⟩ : ∃ r, clausesP st.length l = r := ⟨_, rfl⟩
  rw [hr] at HPC HCV
  clear hr
  go_wp2_with fail
  refine (HPC.out _ (HL.out.below B.out) NL.out).mono ?_
  rintro e w3 ⟨A3, k3, rfl, hr3, hb3⟩
  have B := Aside0.mk (B.out.trans (hb3.mono B.out.size))
  clear hb3 HPC
  rcases HCV with rfl | ⟨a, rfl, ha1, ha2⟩
  · have B := Aside0.mk (below_alloc B.out (.cells #[.slice A3 zeroP.f0.length k3, .int .i64 zeroP.f1] 24))
    clear hr3
    go_wp2
    go_ret
    exact ⟨rfl, B.out⟩
  have hr3 := RS.of_R' hr3
  dsimp only at hr3
  have P3 := below_alloc (Below.refl w3.heap.size w3) (.cells #[.slice A3 a.f0.length k3, .int .i64 a.f1] 24)
  have K := Aside0.mk (PK.mk (blk_new w3 (.cells #[.slice A3 a.f0.length k3, .int .i64 a.f1] 24)) (hr3.below P3))
  have B := Aside0.mk (B.out.trans (P3.mono B.out.size))
  have HA1 := Aside0.mk ha1
  have HA2 := Aside0.mk ((value_val ha1).trans ha2)
  have FA := Aside0.mk (fits_of_check ha1)
  clear hr3 P3 ha1 ha2
  obtain ⟨r0, r1⟩ := (blk2w K.out.b).1
  go_wp2_with fail
  refine (preds_Value A3 k3 a D d st _ K.out.r FA.out (HS.out.below B.out)).mono ?_
  rintro e w4 ⟨rfl, hb4⟩
  rw [HA1.out, HA2.out]
  have K := Aside0.mk (K.out.below hb4)
  have B := Aside0.mk (B.out.trans (hb4.mono B.out.size))
  clear hb4 r0 r1
  generalize w3.heap.size = g3 at *
  obtain ⟨v, hv⟩ : ∃ v, allTrue st l = v := ⟨_, rfl⟩
  rw [hv]
  have HV := Aside0.mk hv
  clear hv
  go_wp2
  go_loopg [10, 11] l.length (fun gg s10 s11 wr => ∃ (i : Nat) (b : Bool), s10 = .bool b ∧ s11 = .int .i64 i ∧ Aside0 (i ≤ l.length ∧ l.length - i ≤ gg) ∧ Aside0 (Below w.heap.size w wr) ∧ Aside0 (PK g3 A3 k3 a wr) ∧ Aside0 ((b && allTrue st (l.drop i)) = v))
  case atStart => exact ⟨0, true, rfl, rfl, ⟨by omega, by omega⟩, B, K, ⟨by rw [Bool.true_and]; exact HV.out⟩⟩
  case round =>
    clear B K
    obtain ⟨i, b, rfl, rfl, HK, B, K, HT⟩ := hrel
    by_cases hlt : i < l.length
    · obtain ⟨ad, BB, cB, e1, hx, hrow⟩ := at_row (HL.out.below B.out).r i hlt
      cases e1
      have HIC := Aside0.mk (NL.out _ (List.getElem_mem hlt))
      have HCE := Aside0.mk (rightC_err HRC.out _ (List.getElem_mem hlt))
      have hst : allTrue st (l.drop i) = (clauseTrue st l[i] && allTrue st (l.drop (i + 1))) := all_step hlt
      generalize l[i] = cl at *
      have HST := Aside0.mk hst
      have HRW := Aside0.mk hrow
      have HLT := Aside0.mk hlt
      clear hst hrow
      go_wp2_with fail
      refine (clause_True BB cB cl D d st _ HRW.out HIC.out (HS.out.below B.out) HCE.out).mono ?_
      rintro e w5 ⟨rfl, hb5⟩
      have K := Aside0.mk (K.out.below hb5)
      have B := Aside0.mk (B.out.trans (hb5.mono B.out.size))
      have HT2 := Aside0.mk (show (b && clauseTrue st cl && allTrue st (l.drop (i + 1))) = v by have h_ := HT.out; rw [HST.out, ← Bool.and_assoc] at h_; exact h_)
      clear hb5
      generalize clauseTrue st cl = t at *
      cases b with
      | true =>
        go_wp2
        go_roundg (l.length - (i + 1))
        case measure => have := HK.out; have := HLT.out; omega
        case rel => exact ⟨i + 1, t, rfl, val_step HLT.out HX.out, ⟨HLT.out, by have := HK.out; omega⟩, B, K, ⟨by have h_ := HT2.out; simpa using h_⟩⟩
      | false =>
        go_wp2
        go_roundg (l.length - (i + 1))
        case measure => have := HK.out; have := HLT.out; omega
        case rel => exact ⟨i + 1, false, rfl, val_step HLT.out HX.out, ⟨HLT.out, by have := HK.out; omega⟩, B, K, ⟨by have h_ := HT2.out; simpa using h_⟩⟩
    · have hi : i = l.length := by have := HK.out.1; omega
      subst hi
      have hbv : b = v := by have h_ := HT.out; rw [List.drop_length] at h_; rw [← h_]; simp [allTrue]
      subst hbv
      clear HT
      obtain ⟨r0, r1⟩ := (blk2w K.out.b).1
      go_wp2_with fail
      refine (preds_Check st.length A3 k3 a _ K.out.r FA.out).mono ?_
      rintro e w6 ⟨rfl, hb6⟩
      rw [HA1.out]
      have B := Aside0.mk (B.out.trans (hb6.mono B.out.size))
      clear hb6
      go_wp2
      go_ret
      exact ⟨rfl, B.out⟩
end Go.Proofs.Ytgcdanpihaeioaa.PH
