/- clause.True; ref15.Wrong. -/
import Derived.Test.YtgcdanpihaeioaaHSem3
import Derived.Test.YtgcdanpihaeioaaHClauseR
import Derived.Test.YtgcdanpihaeioaaHSameP
namespace Go.Proofs.Ytgcdanpihaeioaa.PH
open Go.RowKit Go.Proofs.YtgcdanpihaeioaaW.PrintWords Go.Proofs.YtgcdanpihaeioaaW.PrintLast
set_option linter.unusedVariables false
set_option linter.unusedSimpArgs false

def clauseTrue (st : List Bool) (l : List Int) : Bool := l.any (litV (false :: st))
theorem litV_st {st : List Bool} {x : Int} {j : Nat} (hj : j < st.length) (hx : x / 2 = (j : Int) + 1) : litV (false :: st) x = (st[j] == (x % 2 == 0)) := by
  unfold litV
  rw [hx, show ((j : Int) + 1).toNat = j + 1 by omega, List.getD_eq_getElem?_getD, List.getElem?_cons_succ, List.getElem?_eq_getElem hj, Option.getD_some]
  rcases (by omega : x % 2 = 0 ∨ x % 2 = 1) with h | h <;> rw [h] <;> cases st[j] <;> rfl
set_option maxHeartbeats 4000000 in
set_option maxRecDepth 100000 in
theorem clause_True (A : Option Addr) (c : Nat) (l : List Int) (B : Option Addr) (d : Nat) (st : List Bool) (w : World) (h : RS (Kd.int .i64) w A c l) (hi : ∀ x ∈ l, I64 x) (hs : RS Kd.bool w B d st) (hc : clauseErr st.length l = 0) :
    Calls Try.prog 32 #[.slice A l.length c, .slice B st.length d] w fun e w' => RetBE w w' (clauseTrue st l) 0 e := by
  have HCK := Aside0.mk (clause_Check st.length A c l w h hi)
  rw [hc] at HCK
  have HL := Aside0.mk h
  have HS := Aside0.mk hs
  have HI := Aside0.mk hi
  have HX := Aside0.mk h.max
  have HK := Aside0.mk (show ∀ y ∈ l, known st.length y = true by
    unfold clauseErr at hc
    split at hc
    · cases hc
    split at hc
    · cases hc
    split at hc
    case isFalse => cases hc
    case isTrue h4 => exact fun y hy => cOk_known h4 y hy)
  clear h hi hs hc
  obtain ⟨R, hR⟩ : ∃ R, clauseTrue st l = R := ⟨_, rfl⟩
  rw [hR]
  have HR := Aside0.mk hR
  clear hR
  go_enter Try.func32, Try.ntmps32
  go_wp2_with fail
  refine HCK.out.mono ?_
  rintro e w1 ⟨rfl, hb1⟩
  have B1 := Aside0.mk hb1
  clear hb1 HCK
  go_wp2
  go_loopg [18] l.length (fun gg s18 wr => ∃ (i : Nat), s18 = .int .i64 i ∧ Aside0 (i ≤ l.length ∧ l.length - i ≤ gg) ∧ Aside0 (Below w.heap.size w wr) ∧ Aside0 (clauseTrue st (l.drop i) = R))
  case atStart => exact ⟨0, rfl, ⟨by omega, by omega⟩, B1, HR⟩
  case round =>
    clear B1
    obtain ⟨i, rfl, HKK, BW, HT⟩ := hrel
    by_cases hlt : i < l.length
    · obtain ⟨ad, e1, hx⟩ := at_int (HL.out.below BW.out).r i hlt
      cases e1
      have hki := known_parts (HK.out _ (List.getElem_mem hlt))
      have hxi := HI.out _ (List.getElem_mem hlt)
      have HTT : clauseTrue st (l.drop i) = (litV (false :: st) l[i] || clauseTrue st (l.drop (i + 1))) := any_step hlt
      generalize l[i] = x at *
      obtain ⟨j, hj⟩ : ∃ j : Nat, x / 2 = (j : Int) + 1 := ⟨(x / 2 - 1).toNat, by omega⟩
      have hjs : j < st.length := by omega
      obtain ⟨bd, e2, hy⟩ := at_bool (HS.out.below BW.out).r j hjs
      cases e2
      have hv := litV_st hjs hj
      generalize st[j] = sb at *
      have hq : wrap64 (x.tdiv 2) = (j : Int) + 1 := (half_of hxi (by omega)).trans hj
      have hsm := HS.out.max
      have hw0 : wrap64 ((j : Int) + 1 - 1) = (j : Int) := by rw [wrap_in (by omega) (by omega)]; omega
      have hw1 : wrap64 (j : Int) = (j : Int) := by rw [wrap_in (by omega) (by omega)]
      clear hsm
      have hjl : (j : Int) < (st.length : Int) := by omega
      have HM := Aside0.mk (show x.tmod 2 = x % 2 from Int.tmod_eq_emod_of_nonneg (by omega))
      have HLT := Aside0.mk hlt
      have HT2 := Aside0.mk (HTT.symm.trans HT.out)
      have HV := Aside0.mk hv
      clear HTT HT hv hki hxi hj hjs
      cases hb : (sb == (x.tmod 2 == 0)) with
      | true =>
        have HR2 := Aside0.mk (show R = true by have h_ := HT2.out; rw [HV.out, ← HM.out, hb, Bool.true_or] at h_; exact h_.symm)
        go_wp2
        refine bodyPost_ret (results_tmp2 rfl _ _ _) rfl ?_
        rw [HR2.out]
        exact ⟨rfl, BW.out⟩
      | false =>
        have HT3 := Aside0.mk (show clauseTrue st (l.drop (i + 1)) = R by have h_ := HT2.out; rw [HV.out, ← HM.out, hb, Bool.false_or] at h_; exact h_)
        go_wp2
        go_roundg (l.length - (i + 1))
        case measure => have := HKK.out; have := HLT.out; omega
        case rel => exact ⟨i + 1, val_step HLT.out HX.out, ⟨HLT.out, by have := HKK.out; omega⟩, BW, HT3⟩
    · have hi : i = l.length := by have := HKK.out.1; omega
      subst hi
      have HR2 := Aside0.mk (show R = false by have h_ := HT.out; rw [List.drop_length] at h_; exact h_.symm)
      clear HT
      go_wp2
      refine bodyPost_ret (results_tmp2 rfl _ _ _) rfl ?_
      rw [HR2.out]
      exact ⟨rfl, BW.out⟩
/-- A number comes back; if it is 0, P holds. -/
def RetN (P : Prop) (w w' : World) (e : Ending) : Prop := ∃ n, e = .returned (.int .i64 n) ∧ (n = 0 → P) ∧ Below w.heap.size w w'
set_option maxHeartbeats 2000000 in
set_option maxRecDepth 100000 in
theorem ref15_Wrong (n : Int) (A : Option Addr) (c : Nat) (l : List (List Int)) (w : World) (h : RS (Kd.slice 3 (Kd.int .i64)) w A c l) (hi : ∀ r ∈ l, ∀ x ∈ r, I64 x) :
    Calls Try.prog 31 #[.int .i64 n, .slice A l.length c] w fun e w' => RetN (rightC n l = true) w w' e := by
  have HL := Aside0.mk h
  have HI := Aside0.mk hi
  have HX := Aside0.mk h.max
  clear h hi
  by_cases hm : 20000 < (l.length : Int)
  · have hmn : 20000 < l.length := by omega
    go_enter Try.func31, Try.ntmps31
    go_wp2
    go_ret
    exact ⟨4, rfl, (fun h => by cases h), Below.refl _ _⟩
  have hmn : ¬ 20000 < l.length := by omega
  go_enter Try.func31, Try.ntmps31
  go_wp2
  clear hm hmn
  go_loopg [5] l.length (fun gg s5 wr => ∃ (i : Nat), s5 = .int .i64 i ∧ Aside0 (i ≤ l.length ∧ l.length - i ≤ gg) ∧ Aside0 (Below w.heap.size w wr) ∧ Aside0 (rightC n (l.drop i) = rightC n l))
  case atStart => exact ⟨0, rfl, ⟨by omega, by omega⟩, ⟨Below.refl _ _⟩, ⟨rfl⟩⟩
  case round =>
    obtain ⟨i, rfl, HK, BW, HT⟩ := hrel
    by_cases hlt : i < l.length
    · obtain ⟨ad, B, cB, e1, hx, hrow⟩ := at_row (HL.out.below BW.out).r i hlt
      cases e1
      have HIC := Aside0.mk (HI.out _ (List.getElem_mem hlt))
      have hst : rightC n (l.drop i) = (decide (clauseErr n l[i] = 0) && rightC n (l.drop (i + 1))) := all_step hlt
      generalize l[i] = cl at *
      have HST := Aside0.mk hst
      have HRW := Aside0.mk hrow
      have HLT := Aside0.mk hlt
      clear hst hrow
      go_wp2_with fail
      refine (ref13_Check n B cB cl _ HRW.out HIC.out).mono ?_
      rintro e w2 ⟨rfl, hb2⟩
      have B2 := Aside0.mk (BW.out.trans (hb2.mono BW.out.size))
      clear hb2
      by_cases hce : clauseErr n cl = 0
      · have HT2 := Aside0.mk (show rightC n (l.drop (i + 1)) = rightC n l by have h_ := HT.out; rw [HST.out, decide_eq_true hce, Bool.true_and] at h_; exact h_)
        rw [hce]
        clear hce
        go_wp2
        go_roundg (l.length - (i + 1))
        case measure => have := HK.out; have := HLT.out; omega
        case rel => exact ⟨i + 1, val_step HLT.out HX.out, ⟨HLT.out, by have := HK.out; omega⟩, B2, HT2⟩
      · have hcb : (clauseErr n cl != 0) = true := bne_iff_ne.mpr hce
        have HCE := Aside0.mk hce
        clear hce
        go_wp2
        go_ret
        exact ⟨clauseErr n cl, rfl, fun h => absurd h HCE.out, B2.out⟩
    · have hi : i = l.length := by have := HK.out.1; omega
      subst hi
      have HLA := Aside0.mk (show rightC n l = true by have h_ := HT.out; rw [List.drop_length] at h_; exact h_.symm)
      clear HT
      go_wp2
      go_ret
      exact ⟨0, rfl, fun _ => HLA.out, BW.out⟩
end Go.Proofs.Ytgcdanpihaeioaa.PH
