/- The reference's literals: their negation, and what the AND of two is, if it is simple. -/
import Derived.Test.YtpoadkogcdfglaaHBldC
namespace Go.Proofs.Ytpoadkogcdfglaa.PH
open Go.RowKit Go.Proofs.YtpoadkogcdfglaaW.PrintWords Go.Proofs.YtpoadkogcdfglaaW.PrintLast
set_option linter.unusedVariables false
set_option linter.unusedSimpArgs false

theorem tmod_two {l : Int} (h : 0 ≤ l) : l.tmod 2 = l % 2 := Int.tmod_eq_emod_of_nonneg h
set_option maxHeartbeats 1000000 in
set_option maxRecDepth 100000 in
theorem ref01_Not (l : Int) (w : World) (h : LB l) :
    Calls Try.prog 105 #[.int .i64 l] w fun e w' => e = .returned (.int .i64 (lNot l)) ∧ Below w.heap.size w w' := by
  obtain ⟨R, hR⟩ : ∃ R, lNot l = R := ⟨_, rfl⟩
  rw [hR]
  have HR := Aside0.mk hR
  have HL := Aside0.mk h
  have HT := Aside0.mk (tmod_two h.1)
  clear hR h
  go_enter Try.func105, Try.ntmps105
  go_wp2
  all_goals
    go_ret
    refine ⟨ret_int ?_, Below.refl _ _⟩
    rename_i hz
    obtain ⟨h1, h2⟩ := HL.out
    have ht := HT.out
    rw [← HR.out]
    unfold lNot
    simp only [beq_iff_eq, Bool.not_eq_true, beq_eq_false_iff_ne, ne_eq] at hz
    rw [wrap_in (by omega) (by omega)]
    first
    | rw [if_pos (by omega)]
    | rw [if_neg (by omega)]
def lSimple (x y : Int) : Int × Bool := if x = 0 then (0, true) else if y = 0 then (0, true) else if lNot x = y then (0, true) else if x = 1 then (y, true) else if y = 1 then (x, true) else if x = y then (x, true) else (0, false)
def RetIB (w w' : World) (p : Int × Bool) (e : Ending) : Prop := e = .returned (.tuple #[.int .i64 p.1, .bool p.2]) ∧ Below w.heap.size w w'
set_option maxHeartbeats 2000000 in
set_option maxRecDepth 100000 in
theorem ref01_Simple (x y : Int) (w : World) (hx : LB x) :
    Calls Try.prog 104 #[.int .i64 x, .int .i64 y] w fun e w' => RetIB w w' (lSimple x y) e := by
  have HX := Aside0.mk hx
  clear hx
  unfold lSimple
  by_cases a0 : x = 0
  · rw [if_pos a0]
    have b0 : (x == 0) = true := beq_iff_eq.mpr a0
    clear a0
    go_enter Try.func104, Try.ntmps104
    go_wp2
    refine bodyPost_ret (results_tmp2 rfl _ _ _) rfl ?_
    exact ⟨rfl, Below.refl _ _⟩
  rw [if_neg a0]
  have b0 : (x == 0) = false := beq_eq_false_iff_ne.mpr a0
  clear a0
  by_cases a1 : y = 0
  · rw [if_pos a1]
    have b1 : (y == 0) = true := beq_iff_eq.mpr a1
    clear a1
    go_enter Try.func104, Try.ntmps104
    go_wp2
    refine bodyPost_ret (results_tmp2 rfl _ _ _) rfl ?_
    exact ⟨rfl, Below.refl _ _⟩
  rw [if_neg a1]
  have b1 : (y == 0) = false := beq_eq_false_iff_ne.mpr a1
  clear a1
  by_cases a2 : lNot x = y
  · rw [if_pos a2]
    have b2 : (lNot x == y) = true := beq_iff_eq.mpr a2
    clear a2
    go_enter Try.func104, Try.ntmps104
    go_wp2_with fail
    refine (ref01_Not x _ HX.out).mono ?_
    rintro e w1 ⟨rfl, hb1⟩
    have BW := Aside0.mk hb1
    clear hb1
    go_wp2
    refine bodyPost_ret (results_tmp2 rfl _ _ _) rfl ?_
    exact ⟨rfl, BW.out⟩
  rw [if_neg a2]
  have b2 : (lNot x == y) = false := beq_eq_false_iff_ne.mpr a2
  clear a2
  by_cases a3 : x = 1
  · rw [if_pos a3]
    have b3 : (x == 1) = true := beq_iff_eq.mpr a3
    clear a3
    go_enter Try.func104, Try.ntmps104
    go_wp2_with fail
    refine (ref01_Not x _ HX.out).mono ?_
    rintro e w1 ⟨rfl, hb1⟩
    have BW := Aside0.mk hb1
    clear hb1
    go_wp2
    refine bodyPost_ret (results_tmp2 rfl _ _ _) rfl ?_
    exact ⟨rfl, BW.out⟩
  rw [if_neg a3]
  have b3 : (x == 1) = false := beq_eq_false_iff_ne.mpr a3
  clear a3
  by_cases a4 : y = 1
  · rw [if_pos a4]
    have b4 : (y == 1) = true := beq_iff_eq.mpr a4
    clear a4
    go_enter Try.func104, Try.ntmps104
    go_wp2_with fail
    refine (ref01_Not x _ HX.out).mono ?_
    rintro e w1 ⟨rfl, hb1⟩
    have BW := Aside0.mk hb1
    clear hb1
    go_wp2
    refine bodyPost_ret (results_tmp2 rfl _ _ _) rfl ?_
    exact ⟨rfl, BW.out⟩
  rw [if_neg a4]
  have b4 : (y == 1) = false := beq_eq_false_iff_ne.mpr a4
  clear a4
  by_cases a5 : x = y
  · rw [if_pos a5]
    have b5 : (x == y) = true := beq_iff_eq.mpr a5
    clear a5
    go_enter Try.func104, Try.ntmps104
    go_wp2_with fail
    refine (ref01_Not x _ HX.out).mono ?_
    rintro e w1 ⟨rfl, hb1⟩
    have BW := Aside0.mk hb1
    clear hb1
    go_wp2
    refine bodyPost_ret (results_tmp2 rfl _ _ _) rfl ?_
    exact ⟨rfl, BW.out⟩
  · rw [if_neg a5]
    have b5 : (x == y) = false := beq_eq_false_iff_ne.mpr a5
    clear a5
    go_enter Try.func104, Try.ntmps104
    go_wp2_with fail
    refine (ref01_Not x _ HX.out).mono ?_
    rintro e w1 ⟨rfl, hb1⟩
    have BW := Aside0.mk hb1
    clear hb1
    go_wp2
    refine bodyPost_ret (results_tmp2 rfl _ _ _) rfl ?_
    exact ⟨rfl, BW.out⟩
/-- It is what the builder takes for simple. -/
theorem simple_eq {x y : Int} (hx : LB x) (hy : LB y) : bSimple x y = if (lSimple x y).2 = true then some (lSimple x y).1 else none := by
  have hn : x = lNot y ↔ lNot x = y := by
    have h1 := hx.1; have h2 := hy.1
    unfold lNot
    constructor <;> intro h <;> (split at h) <;> (split) <;> omega
  unfold bSimple lSimple
  simp only [hn]
  by_cases a0 : x = 0
  · simp [a0]
  by_cases a1 : y = 0
  · simp [a1]
  by_cases a2 : lNot x = y
  · simp [a2]
  by_cases a3 : x = 1
  · subst a3; simp [a1, a2]
  by_cases a5 : x = y
  · subst a5; simp [a0, a2, a3]
  by_cases a4 : y = 1
  · subst a4; simp [a0, a2, a3]
  · simp [a0, a1, a2, a3, a4, a5]
end Go.Proofs.Ytpoadkogcdfglaa.PH
