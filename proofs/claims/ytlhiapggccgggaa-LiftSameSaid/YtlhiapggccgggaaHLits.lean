/- Literals: their negation, and what the AND of two is, if it is simple. -/
import Derived.Test.YtlhiapggccgggaaHPackB
namespace Go.Proofs.Ytlhiapggccgggaa.PH
open Go.RowKit Go.Proofs.YtlhiapggccgggaaW.PrintWords Go.Proofs.YtlhiapggccgggaaW.PrintLast
set_option linter.unusedVariables false
set_option linter.unusedSimpArgs false

/-- A literal of at most 1000 variables. -/
def IsLit (l : Int) : Prop := 0 ≤ l ∧ l ≤ 2001
/-- A literal as the references have it (their rows may grow past the limit). -/
def IsBig (l : Int) : Prop := 0 ≤ l ∧ l ≤ 1000000
theorem IsLit.big {l : Int} (h : IsLit l) : IsBig l := ⟨h.1, by have := h.2; omega⟩
def litNot (l : Int) : Int := if l % 2 = 0 then l + 1 else l - 1
theorem tmod_two {l : Int} (h : 0 ≤ l) : l.tmod 2 = l % 2 := Int.tmod_eq_emod_of_nonneg h
set_option maxHeartbeats 1000000 in
set_option maxRecDepth 100000 in
theorem ref01_Not (l : Int) (w : World) (h : IsBig l) :
    Calls Try.prog 96 #[.int .i64 l] w fun e w' => e = .returned (.int .i64 (litNot l)) ∧ Below w.heap.size w w' := by
  obtain ⟨R, hR⟩ : ∃ R, litNot l = R := ⟨_, rfl⟩
  rw [hR]
  have HR := Aside0.mk hR
  have HL := Aside0.mk h
  have HT := Aside0.mk (tmod_two h.1)
  clear hR h
  go_enter Try.func96, Try.ntmps96
  go_wp2
  all_goals
    go_ret
    refine ⟨ret_int ?_, Below.refl _ _⟩
    rename_i hz
    obtain ⟨h1, h2⟩ := HL.out
    have ht := HT.out
    rw [← HR.out]
    unfold litNot
    simp only [beq_iff_eq, Bool.not_eq_true, beq_eq_false_iff_ne, ne_eq] at hz
    rw [wrap_in (by omega) (by omega)]
    first
    | rw [if_pos (by omega)]
    | rw [if_neg (by omega)]
set_option maxHeartbeats 1000000 in
set_option maxRecDepth 100000 in
theorem ref13_Not (l : Int) (w : World) (h : IsBig l) :
    Calls Try.prog 110 #[.int .i64 l] w fun e w' => e = .returned (.int .i64 (litNot l)) ∧ Below w.heap.size w w' := by
  obtain ⟨R, hR⟩ : ∃ R, litNot l = R := ⟨_, rfl⟩
  rw [hR]
  have HR := Aside0.mk hR
  have HL := Aside0.mk h
  have HT := Aside0.mk (tmod_two h.1)
  clear hR h
  go_enter Try.func110, Try.ntmps110
  go_wp2
  all_goals
    go_ret
    refine ⟨ret_int ?_, Below.refl _ _⟩
    rename_i hz
    obtain ⟨h1, h2⟩ := HL.out
    have ht := HT.out
    rw [← HR.out]
    unfold litNot
    simp only [beq_iff_eq, Bool.not_eq_true, beq_eq_false_iff_ne, ne_eq] at hz
    rw [wrap_in (by omega) (by omega)]
    first
    | rw [if_pos (by omega)]
    | rw [if_neg (by omega)]
def simpleR (x y : Int) : Int × Bool := if x = 0 then (0, true) else if y = 0 then (0, true) else if litNot x = y then (0, true) else if x = 1 then (y, true) else if y = 1 then (x, true) else if x = y then (x, true) else (0, false)
def RetIB (w w' : World) (p : Int × Bool) (e : Ending) : Prop := e = .returned (.tuple #[.int .i64 p.1, .bool p.2]) ∧ Below w.heap.size w w'
set_option maxHeartbeats 2000000 in
set_option maxRecDepth 100000 in
theorem ref01_Simple (x y : Int) (w : World) (hx : IsBig x) :
    Calls Try.prog 88 #[.int .i64 x, .int .i64 y] w fun e w' => RetIB w w' (simpleR x y) e := by
  have HX := Aside0.mk hx
  clear hx
  unfold simpleR
  by_cases a0 : x = 0
  · rw [if_pos a0]
    have b0 : (x == 0) = true := beq_iff_eq.mpr a0
    clear a0
    go_enter Try.func88, Try.ntmps88
    go_wp2
    refine bodyPost_ret (results_tmp2 rfl _ _ _) rfl ?_
    exact ⟨rfl, Below.refl _ _⟩
  rw [if_neg a0]
  have b0 : (x == 0) = false := beq_eq_false_iff_ne.mpr a0
  clear a0
  by_cases a1 : y = 0
  · rw [if_pos a1]
    have b1 : (y == 0) = true := beq_iff_eq.mpr a1
    clear a1
    go_enter Try.func88, Try.ntmps88
    go_wp2
    refine bodyPost_ret (results_tmp2 rfl _ _ _) rfl ?_
    exact ⟨rfl, Below.refl _ _⟩
  rw [if_neg a1]
  have b1 : (y == 0) = false := beq_eq_false_iff_ne.mpr a1
  clear a1
  by_cases a2 : litNot x = y
  · rw [if_pos a2]
    have b2 : (litNot x == y) = true := beq_iff_eq.mpr a2
    clear a2
    go_enter Try.func88, Try.ntmps88
    go_wp2_with fail
    refine (ref01_Not x _ HX.out).mono ?_
    rintro e w1 ⟨rfl, hb1⟩
    have BW := Aside0.mk hb1
    clear hb1
    go_wp2
    refine bodyPost_ret (results_tmp2 rfl _ _ _) rfl ?_
    exact ⟨rfl, BW.out⟩
  rw [if_neg a2]
  have b2 : (litNot x == y) = false := beq_eq_false_iff_ne.mpr a2
  clear a2
  by_cases a3 : x = 1
  · rw [if_pos a3]
    have b3 : (x == 1) = true := beq_iff_eq.mpr a3
    clear a3
    go_enter Try.func88, Try.ntmps88
    go_wp2_with fail
    refine (ref01_Not x _ HX.out).mono ?_
    rintro e w1 ⟨rfl, hb1⟩
    have BW := Aside0.mk hb1
    clear hb1
    go_wp2
    refine bodyPost_ret (results_tmp2 rfl _ _ _) rfl ?_
    exact ⟨rfl, BW.out⟩
  rw [if_neg a3]
  have b3 : (x == 1) = false := beq_eq_false_iff_ne.mpr a3
  clear a3
  by_cases a4 : y = 1
  · rw [if_pos a4]
    have b4 : (y == 1) = true := beq_iff_eq.mpr a4
    clear a4
    go_enter Try.func88, Try.ntmps88
    go_wp2_with fail
    refine (ref01_Not x _ HX.out).mono ?_
    rintro e w1 ⟨rfl, hb1⟩
    have BW := Aside0.mk hb1
    clear hb1
    go_wp2
    refine bodyPost_ret (results_tmp2 rfl _ _ _) rfl ?_
    exact ⟨rfl, BW.out⟩
  rw [if_neg a4]
  have b4 : (y == 1) = false := beq_eq_false_iff_ne.mpr a4
  clear a4
  by_cases a5 : x = y
  · rw [if_pos a5]
    have b5 : (x == y) = true := beq_iff_eq.mpr a5
    clear a5
    go_enter Try.func88, Try.ntmps88
    go_wp2_with fail
    refine (ref01_Not x _ HX.out).mono ?_
    rintro e w1 ⟨rfl, hb1⟩
    have BW := Aside0.mk hb1
    clear hb1
    go_wp2
    refine bodyPost_ret (results_tmp2 rfl _ _ _) rfl ?_
    exact ⟨rfl, BW.out⟩
  · rw [if_neg a5]
    have b5 : (x == y) = false := beq_eq_false_iff_ne.mpr a5
    clear a5
    go_enter Try.func88, Try.ntmps88
    go_wp2_with fail
    refine (ref01_Not x _ HX.out).mono ?_
    rintro e w1 ⟨rfl, hb1⟩
    have BW := Aside0.mk hb1
    clear hb1
    go_wp2
    refine bodyPost_ret (results_tmp2 rfl _ _ _) rfl ?_
    exact ⟨rfl, BW.out⟩
set_option maxHeartbeats 2000000 in
set_option maxRecDepth 100000 in
theorem lits_check (A : Option Addr) (c : Nat) (l : List Int) (w : World) (h : RS (Kd.int .i64) w A c l) (hl : ∀ x ∈ l, IsLit x) :
    Calls Try.prog 107 #[.slice A l.length c] w fun e w' => e = .returned (.int .i64 0) ∧ Below w.heap.size w w' := by
  have HS := Aside0.mk h
  have HM := Aside0.mk h.max
  have HF := Aside0.mk hl
  clear h hl
  go_enter Try.func107, Try.ntmps107
  go_wp2
  go_loopg [7] l.length (fun gg s7 wr => ∃ k : Nat, s7 = .int .i64 k ∧ Aside0 (k ≤ l.length ∧ l.length - k ≤ gg) ∧ Aside0 (Below w.heap.size w wr))
  case atStart => exact ⟨0, rfl, ⟨by omega, by omega⟩, ⟨Below.refl _ _⟩⟩
  case round =>
    obtain ⟨k, rfl, HX, BW⟩ := hrel
    by_cases hlt : k < l.length
    · obtain ⟨ad, e1, hx⟩ := at_int (HS.out.below BW.out).r k hlt
      cases e1
      have HLT := Aside0.mk hlt
      have hlit := HF.out _ (List.getElem_mem hlt)
      generalize l[k] = x at *
      have q1 : ¬ x < 0 := by have := hlit.1; omega
      have q2 : ¬ 2001 < x := by have := hlit.2; omega
      clear hlit
      go_wp2
      go_roundg (l.length - (k + 1))
      case measure => have := HX.out; have := HLT.out; omega
      case rel => exact ⟨k + 1, val_step HLT.out HM.out, ⟨HLT.out, by have := HX.out; omega⟩, BW⟩
    · go_wp2
      go_ret
      exact ⟨rfl, BW.out⟩
theorem RS.two_int {w : World} {B : Nat} {x y : Int} (h0 : w.cell? ⟨B, 0, none⟩ = some (.int .i64 x)) (h1 : w.cell? ⟨B, 1, none⟩ = some (.int .i64 y)) : RS (Kd.int .i64) w (some ⟨B, 0, none⟩) 2 [x, y] :=
  RS.row (by simp) (Nat.le_refl _) (fun j p hj => by
    match j with
    | 0 =>
      have e : x = p := by simpa using hj
      subst e
      exact ⟨[.int .i64 x], rfl, rfl, fun i u hu => by
        cases i with
        | zero => have e : Value.int .i64 x = u := by simpa using hu
                  rw [← e]; simpa using h0
        | succ i => simp at hu⟩
    | 1 =>
      have e : y = p := by simpa using hj
      subst e
      exact ⟨[.int .i64 y], rfl, rfl, fun i u hu => by
        cases i with
        | zero => have e : Value.int .i64 y = u := by simpa using hu
                  rw [← e]; exact h1
        | succ i => simp at hu⟩
    | j + 2 => simp at hj)
theorem xor_nat : ∀ n : Nat, n < 2002 → bits .xor .i64 (n : Int) 1 = litNot (n : Int) := by decide +kernel
theorem xor_one {l : Int} (h : IsLit l) : bits .xor .i64 l 1 = litNot l := by
  obtain ⟨n, rfl⟩ := Int.eq_ofNat_of_zero_le h.1
  exact xor_nat n (by have := h.2; omega)
theorem simple_lohi {x y : Int} (hx : IsLit x) (hy : IsLit y) : simpleR x y = (if (if y < x then y else x) = 0 then (0, true) else if litNot (if y < x then y else x) = (if x < y then y else x) then (0, true) else if (if y < x then y else x) = 1 then ((if x < y then y else x), true) else if (if y < x then y else x) = (if x < y then y else x) then ((if x < y then y else x), true) else (0, false)) := by
  obtain ⟨h1, h2⟩ := hx
  obtain ⟨h3, h4⟩ := hy
  unfold simpleR litNot
  repeat' split
  all_goals first
    | rfl
    | (exfalso; omega)
    | (congr 1; omega)
def RetIBE (w w' : World) (p : Int × Bool) (n : Int) (e : Ending) : Prop := e = .returned (.tuple #[.int .i64 p.1, .bool p.2, .int .i64 n]) ∧ Below w.heap.size w w'
attribute [local go_sem] max_pair min_pair
set_option maxHeartbeats 2000000 in
set_option maxRecDepth 100000 in
theorem lits_And (x y : Int) (w : World) (hx : IsLit x) (hy : IsLit y) :
    Calls Try.prog 93 #[.int .i64 x, .int .i64 y] w fun e w' => RetIBE w w' (simpleR x y) 0 e := by
  have HX := Aside0.mk hx
  have HY := Aside0.mk hy
  clear hx hy
  obtain ⟨lo, hlo⟩ : ∃ lo, (if y < x then y else x) = lo := ⟨_, rfl⟩
  obtain ⟨hi, hhi⟩ : ∃ hi, (if x < y then y else x) = hi := ⟨_, rfl⟩
  rw [simple_lohi HX.out HY.out, hlo, hhi]
  have hxo : bits .xor .i64 lo 1 = litNot lo := xor_one (by rw [← hlo]; split; exact HY.out; exact HX.out)
  by_cases a0 : lo = 0
  · rw [if_pos a0]
    have b0 : (lo == 0) = true := beq_iff_eq.mpr a0
    clear a0
    go_enter Try.func93, Try.ntmps93
    go_wp2_with fail
    refine (lits_check (some ⟨w.heap.size, 0, none⟩) 2 [x, y] _ (RS.two_int (by simp) (by simp)) (by intro z hz; rcases List.mem_cons.1 hz with rfl | hz; exact HX.out; rw [List.mem_singleton.1 hz]; exact HY.out)).mono ?_
    rintro e w1 ⟨rfl, hb1⟩
    have BW := Aside0.mk (below_then (below_alloc (Below.refl w.heap.size w) _) (by simp) hb1)
    clear hb1
    go_wp2
    refine bodyPost_ret (results_tmp3 rfl _ _ _) rfl ?_
    exact ⟨rfl, BW.out⟩
  rw [if_neg a0]
  have b0 : (lo == 0) = false := beq_eq_false_iff_ne.mpr a0
  clear a0
  by_cases a1 : litNot lo = hi
  · rw [if_pos a1]
    have b1 : (litNot lo == hi) = true := beq_iff_eq.mpr a1
    clear a1
    go_enter Try.func93, Try.ntmps93
    go_wp2_with fail
    refine (lits_check (some ⟨w.heap.size, 0, none⟩) 2 [x, y] _ (RS.two_int (by simp) (by simp)) (by intro z hz; rcases List.mem_cons.1 hz with rfl | hz; exact HX.out; rw [List.mem_singleton.1 hz]; exact HY.out)).mono ?_
    rintro e w1 ⟨rfl, hb1⟩
    have BW := Aside0.mk (below_then (below_alloc (Below.refl w.heap.size w) _) (by simp) hb1)
    clear hb1
    go_wp2
    refine bodyPost_ret (results_tmp3 rfl _ _ _) rfl ?_
    exact ⟨rfl, BW.out⟩
  rw [if_neg a1]
  have b1 : (litNot lo == hi) = false := beq_eq_false_iff_ne.mpr a1
  clear a1
  by_cases a2 : lo = 1
  · rw [if_pos a2]
    have b2 : (lo == 1) = true := beq_iff_eq.mpr a2
    clear a2
    go_enter Try.func93, Try.ntmps93
    go_wp2_with fail
    refine (lits_check (some ⟨w.heap.size, 0, none⟩) 2 [x, y] _ (RS.two_int (by simp) (by simp)) (by intro z hz; rcases List.mem_cons.1 hz with rfl | hz; exact HX.out; rw [List.mem_singleton.1 hz]; exact HY.out)).mono ?_
    rintro e w1 ⟨rfl, hb1⟩
    have BW := Aside0.mk (below_then (below_alloc (Below.refl w.heap.size w) _) (by simp) hb1)
    clear hb1
    go_wp2
    refine bodyPost_ret (results_tmp3 rfl _ _ _) rfl ?_
    exact ⟨rfl, BW.out⟩
  rw [if_neg a2]
  have b2 : (lo == 1) = false := beq_eq_false_iff_ne.mpr a2
  clear a2
  by_cases a3 : lo = hi
  · rw [if_pos a3]
    have b3 : (lo == hi) = true := beq_iff_eq.mpr a3
    clear a3
    go_enter Try.func93, Try.ntmps93
    go_wp2_with fail
    refine (lits_check (some ⟨w.heap.size, 0, none⟩) 2 [x, y] _ (RS.two_int (by simp) (by simp)) (by intro z hz; rcases List.mem_cons.1 hz with rfl | hz; exact HX.out; rw [List.mem_singleton.1 hz]; exact HY.out)).mono ?_
    rintro e w1 ⟨rfl, hb1⟩
    have BW := Aside0.mk (below_then (below_alloc (Below.refl w.heap.size w) _) (by simp) hb1)
    clear hb1
    go_wp2
    refine bodyPost_ret (results_tmp3 rfl _ _ _) rfl ?_
    exact ⟨rfl, BW.out⟩
  rw [if_neg a3]
  have b3 : (lo == hi) = false := beq_eq_false_iff_ne.mpr a3
  clear a3
  go_enter Try.func93, Try.ntmps93
  go_wp2_with fail
  refine (lits_check (some ⟨w.heap.size, 0, none⟩) 2 [x, y] _ (RS.two_int (by simp) (by simp)) (by intro z hz; rcases List.mem_cons.1 hz with rfl | hz; exact HX.out; rw [List.mem_singleton.1 hz]; exact HY.out)).mono ?_
  rintro e w1 ⟨rfl, hb1⟩
  have BW := Aside0.mk (below_then (below_alloc (Below.refl w.heap.size w) _) (by simp) hb1)
  clear hb1
  go_wp2
  refine bodyPost_ret (results_tmp3 rfl _ _ _) rfl ?_
  exact ⟨rfl, BW.out⟩
end Go.Proofs.Ytlhiapggccgggaa.PH
