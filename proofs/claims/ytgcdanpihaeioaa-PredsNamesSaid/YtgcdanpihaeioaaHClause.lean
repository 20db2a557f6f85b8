/- Clauses: what is one, by the program and by its reference. -/
import Derived.Test.YtgcdanpihaeioaaHBase
import Derived.Test.YtgcdanpihaeioaaWLast
import Derived.Deep.RegionHeld3
import Derived.Deep.QuietTactic
import Derived.BigQuiet
namespace Go.Proofs.Ytgcdanpihaeioaa.PH
open Go.RowKit Go.Proofs.YtgcdanpihaeioaaW.PrintWords Go.Proofs.YtgcdanpihaeioaaW.PrintLast
set_option linter.unusedVariables false
set_option linter.unusedSimpArgs false

/-- A literal of n variables. -/
def known (n l : Int) : Bool := decide (2 ≤ l) && decide (l / 2 ≤ n)
/-- A clause of n variables, behind the literal p (0: none). -/
def cOk (n : Int) : Int → List Int → Bool
  | _, [] => true
  | p, x :: xs => (known n x && !(decide (0 < p) && (decide (x ≤ p) || decide (x / 2 = p / 2)))) && cOk n x xs
def clauseErr (n : Int) (l : List Int) : Int := if n < 0 then 2 else if 4000 < n then 2 else if cOk n 0 l = true then 0 else 8
set_option maxHeartbeats 1000000 in
set_option maxRecDepth 100000 in
theorem clause_known (n l : Int) (w : World) (h : I64 l) :
    Calls Try.prog 68 #[.int .i64 n, .int .i64 l] w fun e w' => e = .returned (.bool (known n l)) ∧ Below w.heap.size w w' := by
  unfold known
  by_cases h2 : 2 ≤ l
  · have hq := half_of h (by omega)
    rw [decide_eq_true h2, Bool.true_and]
    clear h
    go_enter Try.func68, Try.ntmps68
    go_wp2
    go_ret
    exact ⟨rfl, Below.refl _ _⟩
  · rw [decide_eq_false h2, Bool.false_and]
    clear h
    go_enter Try.func68, Try.ntmps68
    go_wp2
    go_ret
    exact ⟨rfl, Below.refl _ _⟩
set_option maxHeartbeats 1000000 in
set_option maxRecDepth 100000 in
theorem ref13_Lit (n l : Int) (w : World) (h0 : 0 ≤ n) (h1 : n ≤ 4000) :
    Calls Try.prog 81 #[.int .i64 n, .int .i64 l] w fun e w' => e = .returned (.bool (known n l)) ∧ Below w.heap.size w w' := by
  unfold known
  have hw : wrap64 (wrap64 (2 * n) + 1) = 2 * n + 1 := by rw [wrap_in (x := 2 * n) (by omega) (by omega), wrap_in (by omega) (by omega)]
  have HD := Aside0.mk (show decide (l ≤ 2 * n + 1) = decide (l / 2 ≤ n) by rw [Bool.eq_iff_iff]; simp; omega)
  clear h0 h1
  by_cases h2 : 2 ≤ l
  · rw [decide_eq_true h2, Bool.true_and]
    go_enter Try.func81, Try.ntmps81
    go_wp2
    go_ret
    exact ⟨ret_bool HD.out, Below.refl _ _⟩
  · rw [decide_eq_false h2, Bool.false_and]
    go_enter Try.func81, Try.ntmps81
    go_wp2
    go_ret
    exact ⟨rfl, Below.refl _ _⟩
theorem ref13_Vars (n : Int) (w : World) :
    Calls Try.prog 72 #[.int .i64 n] w fun e w' => e = .returned (.bool (decide (0 ≤ n) && decide (n ≤ 4000))) ∧ Below w.heap.size w w' := by
  by_cases h2 : 0 ≤ n
  · rw [decide_eq_true h2, Bool.true_and]
    go_enter Try.func72, Try.ntmps72
    go_wp2
    go_ret
    exact ⟨rfl, Below.refl _ _⟩
  · rw [decide_eq_false h2, Bool.false_and]
    go_enter Try.func72, Try.ntmps72
    go_wp2
    go_ret
    exact ⟨rfl, Below.refl _ _⟩
/-- What lies behind the literal at i - 1. -/
def Prev (n : Int) (l : List Int) (i : Nat) (p : Int) : Prop := (i = 0 ∧ p = 0) ∨ ∃ (j : Nat) (hj : j < l.length), i = j + 1 ∧ l[j] = p ∧ 2 ≤ p ∧ p / 2 ≤ n
theorem known_parts {n x : Int} (h : known n x = true) : 2 ≤ x ∧ x / 2 ≤ n := by
  unfold known at h
  simpa using h
set_option maxHeartbeats 4000000 in
set_option maxRecDepth 100000 in
theorem clause_Check (n : Int) (A : Option Addr) (c : Nat) (l : List Int) (w : World) (h : RS (Kd.int .i64) w A c l) (hi : ∀ x ∈ l, I64 x) :
    Calls Try.prog 51 #[.int .i64 n, .slice A l.length c] w fun e w' => e = .returned (.int .i64 (clauseErr n l)) ∧ Below w.heap.size w w' := by
  have HL := Aside0.mk h
  have HI := Aside0.mk hi
  have HX := Aside0.mk h.max
  clear h hi
  unfold clauseErr
  by_cases h0 : n < 0
  · rw [if_pos h0]
    go_enter Try.func51, Try.ntmps51
    go_wp2
    go_ret
    exact ⟨rfl, Below.refl _ _⟩
  rw [if_neg h0]
  by_cases h1 : 4000 < n
  · rw [if_pos h1]
    go_enter Try.func51, Try.ntmps51
    go_wp2
    go_ret
    exact ⟨rfl, Below.refl _ _⟩
  rw [if_neg h1]
  obtain ⟨b, hb⟩ : ∃ b, cOk n 0 l = b := ⟨_, rfl⟩
  rw [hb]
  have HB := Aside0.mk hb
  clear hb
  obtain ⟨R, hR⟩ : ∃ R, (if b = true then (0 : Int) else 8) = R := ⟨_, rfl⟩
  rw [hR]
  have HRR := Aside0.mk hR
  clear hR
  go_enter Try.func51, Try.ntmps51
  go_wp2
  clear h0 h1
  go_loopg [15] l.length (fun gg s15 wr => ∃ (i : Nat) (p : Int), s15 = .int .i64 i ∧ Aside0 (i ≤ l.length ∧ l.length - i ≤ gg) ∧ Aside0 (Below w.heap.size w wr) ∧ Aside0 (Prev n l i p) ∧ Aside0 (cOk n p (l.drop i) = b))
  case atStart => exact ⟨0, 0, rfl, ⟨by omega, by omega⟩, ⟨Below.refl _ _⟩, ⟨.inl ⟨rfl, rfl⟩⟩, HB⟩
  case round =>
    obtain ⟨i, p, rfl, HK, BW, HP, HT⟩ := hrel
    by_cases hlt : i < l.length
    · obtain ⟨ad, e1, hx⟩ := at_int (HL.out.below BW.out).r i hlt
      cases e1
      have hxi := HI.out _ (List.getElem_mem hlt)
      have HTT := HT.out
      rw [drop_at hlt, cOk] at HTT
      have HLT := Aside0.mk hlt
      have HNX := Aside0.mk (show known n l[i] = true → Prev n l (i + 1) l[i] from fun hk => .inr ⟨i, hlt, rfl, rfl, (known_parts hk).1, (known_parts hk).2⟩)
      generalize l[i] = x at *
      have HXI := Aside0.mk hxi
      have HT2 := Aside0.mk HTT
      clear hxi HTT HT
      go_wp2_with fail
      refine (clause_known n x _ HXI.out).mono ?_
      rintro e w1 ⟨rfl, hb1⟩
      have B1 := Aside0.mk (BW.out.trans (hb1.mono BW.out.size))
      have hx := pw_cell_below hb1 hx
      clear hb1
      cases hk : known n x with
      | false =>
        have HR := Aside0.mk (show b = false by have h_ := HT2.out; rw [hk, Bool.false_and, Bool.false_and] at h_; exact h_.symm)
        clear hk
        go_wp2
        go_ret
        exact ⟨ret_int (by rw [← HRR.out, HR.out, if_neg (by decide)]), B1.out⟩
      | true =>
        have HT3 := HT2.out
        rw [hk, Bool.true_and] at HT3
        have HT4 := Aside0.mk HT3
        have HN2 := Aside0.mk (HNX.out hk)
        clear HT3 HT2 hk
        rcases HP.out with ⟨rfl, rfl⟩ | ⟨j, hj, rfl, hp1, hp2, hp3⟩
        · go_wp2
          go_roundg (l.length - (0 + 1))
          case measure => have := HK.out; have := HLT.out; omega
          case rel => exact ⟨1, x, rfl, ⟨HLT.out, by have := HK.out; omega⟩, B1, HN2, ⟨by have h_ := HT4.out; simpa using h_⟩⟩
        · obtain ⟨ad', e1, hy⟩ := at_int (HL.out.below B1.out).r j hj
          cases e1
          rw [hp1] at hy
          have hw : wrap64 (((j + 1 : Nat) : Int) - 1) = (j : Int) := by have := HX.out; rw [wrap_in (by omega) (by omega)]; omega
          have hw' : wrap64 ((j : Int) + 1 - 1) = (j : Int) := by have := HX.out; rw [wrap_in (by omega) (by omega)]; omega
          have hw'' : wrap64 (j : Int) = (j : Int) := by have := HX.out; rw [wrap_in (by omega) (by omega)]
          have hjl : (j : Int) < (l.length : Int) := by omega
          have hpos : 0 < (j : Int) + 1 := by omega
          have hq1 : wrap64 (x.tdiv 2) = x / 2 := half_of HXI.out (by have := known_parts (n := n) (x := x); have h_ := HN2.out; rcases h_ with ⟨h_, _⟩ | ⟨_, _, _, _, h_, _⟩ <;> omega)
          have hq2 : wrap64 (p.tdiv 2) = p / 2 := half_of (HI.out p (hp1 ▸ List.getElem_mem hj)) (by omega)
          have hpp : decide (0 < p) = true := decide_eq_true (by omega)
          have HT5 := HT4.out
          rw [hpp, Bool.true_and] at HT5
          have HT6 := Aside0.mk HT5
          clear HT5 hpp
          by_cases hxp : x ≤ p
          · have HR := Aside0.mk (show b = false by have h_ := HT6.out; rw [decide_eq_true hxp] at h_; simpa using h_.symm)
            go_wp2
            go_ret
            exact ⟨ret_int (by rw [← HRR.out, HR.out, if_neg (by decide)]), B1.out⟩
          · by_cases hxq : x / 2 = p / 2
            · have HR := Aside0.mk (show b = false by have h_ := HT6.out; rw [decide_eq_true hxq] at h_; simpa using h_.symm)
              have hxb : (x / 2 == p / 2) = true := beq_iff_eq.mpr hxq
              clear hxq
              go_wp2
              go_ret
              exact ⟨ret_int (by rw [← HRR.out, HR.out, if_neg (by decide)]), B1.out⟩
            · have HT7 := Aside0.mk (show cOk n x (l.drop (j + 1 + 1)) = b by have h_ := HT6.out; rw [decide_eq_false hxp, decide_eq_false hxq] at h_; simpa using h_)
              have hxb : (x / 2 == p / 2) = false := beq_eq_false_iff_ne.mpr hxq
              clear hxq
              go_wp2
              go_roundg (l.length - (j + 1 + 1))
              case measure => have := HK.out; have := HLT.out; omega
              case rel => exact ⟨j + 1 + 1, x, val_step (k := j + 1) HLT.out HX.out, ⟨HLT.out, by have := HK.out; omega⟩, B1, HN2, HT7⟩
    · have hi : i = l.length := by have := HK.out.1; omega
      subst hi
      have HR := Aside0.mk (show b = true by have h_ := HT.out; rw [List.drop_length] at h_; exact h_.symm)
      clear HT HP
      go_wp2
      go_ret
      exact ⟨ret_int (by rw [← HRR.out, HR.out, if_pos rfl]), BW.out⟩
end Go.Proofs.Ytgcdanpihaeioaa.PH
