/- preds.Check and the reference's Check of predicates: both answer predCheck. -/
import Derived.Test.YtpoadkogcdfglaaHRef02
namespace Go.Proofs.Ytpoadkogcdfglaa.PH
open Go.RowKit Go.Proofs.YtpoadkogcdfglaaW.PrintWords
set_option linter.unusedVariables false
set_option linter.unusedSimpArgs false

structure Pr.Fits (p : Pr) : Prop where
  h : p.f0.length ≤ 4000000
  ig : ∀ x ∈ p.f0, I64 x.f0 ∧ I64 x.f1
  il : I64 p.f1
/-- The error of a predicate over n latches. -/
def predCheck (n : Int) (p : Pr) : Int :=
  if n < 0 then 2 else if 1000 < n then 2 else if 1000 < n + p.f0.length then 4 else if gAnds (1 + n) p.f0 0 = true then if p.f1 < 0 then 8 else if n + p.f0.length < p.f1 / 2 then 8 else 0 else 8
theorem predCheck_ok {n : Int} {p : Pr} (h : predCheck n p = 0) : 0 ≤ n ∧ n ≤ 1000 ∧ n + p.f0.length ≤ 1000 ∧ gAnds (1 + n) p.f0 0 = true ∧ 0 ≤ p.f1 ∧ p.f1 / 2 ≤ n + p.f0.length := by
  unfold predCheck at h
  by_cases h1 : n < 0
  · rw [if_pos h1] at h; cases h
  rw [if_neg h1] at h
  by_cases h2 : 1000 < n
  · rw [if_pos h2] at h; cases h
  rw [if_neg h2] at h
  by_cases h3 : 1000 < n + (p.f0.length : Int)
  · rw [if_pos h3] at h; cases h
  rw [if_neg h3] at h
  by_cases h4 : gAnds (1 + n) p.f0 0 = true
  · rw [if_pos h4] at h
    by_cases h5 : p.f1 < 0
    · rw [if_pos h5] at h; cases h
    rw [if_neg h5] at h
    by_cases h6 : n + (p.f0.length : Int) < p.f1 / 2
    · rw [if_pos h6] at h; cases h
    exact ⟨by omega, by omega, by omega, h4, by omega, by omega⟩
  · rw [if_neg h4] at h; cases h
/-- A predicate that was boxed at block B. -/
structure Box2 (w : World) (B : Nat) (v0 v1 : Value) : Prop where
  g0 : w.cell? ⟨B, 0, none⟩ = some v0
  g1 : w.cell? ⟨B, 1, none⟩ = some v1
theorem Box2.below {w w1 : World} {B : Nat} {v0 v1 : Value} (h : Box2 w B v0 v1) (hb : Below w.heap.size w w1) : Box2 w1 B v0 v1 := ⟨pw_cell_below hb h.g0, pw_cell_below hb h.g1⟩
theorem Box2.lt {w : World} {B : Nat} {v0 v1 : Value} (h : Box2 w B v0 v1) : B < w.heap.size := World.block_lt_of_cell? _ _ h.g0
theorem Box2.new (W : World) (v0 v1 : Value) (t : TypeId) : Box2 (W.alloc (.cells #[v0, v1] t)) W.heap.size v0 v1 := ⟨by simp, by simp⟩
set_option maxHeartbeats 8000000 in
set_option maxRecDepth 100000 in
theorem preds_Check (n : Int) (A : Option Addr) (k : Nat) (p : Pr) (w : World) (h : RS kGate w A k p.f0) (hf : p.Fits) :
    Calls Try.prog 84 #[.int .i64 n, pv A k p] w fun e w' => e = .returned (.int .i64 (predCheck n p)) ∧ Below w.heap.size w w' := by
  obtain ⟨ands, lit⟩ := p
  obtain ⟨hl, hg, hi⟩ := hf
  dsimp only at *
  obtain ⟨r, H⟩ : ∃ r, predCheck n ⟨ands, lit⟩ = r := ⟨_, rfl⟩
  rw [H]
  unfold predCheck at H
  dsimp only at H
  have hu29 := Try.underlying31
  have hu93 := Try.underlying92
  have HS := Aside0.mk h
  have HL := Aside0.mk hl
  have HG := Aside0.mk hg
  have HI := Aside0.mk hi
  clear h hl hg hi
  by_cases q1 : n < 0
  · rw [if_pos q1] at H
    subst H
    have q1b : decide (n < 0) = true := decide_eq_true q1
    clear q1
    go_enter Try.func84, Try.ntmps84
    go_wp2
    go_ret
    exact ⟨rfl, below_alloc (Below.refl _ _) _⟩
  rw [if_neg q1] at H
  have q1b : decide (n < 0) = false := decide_eq_false q1
  by_cases q2 : 1000 < n
  · rw [if_pos q2] at H
    subst H
    have q2b : decide (1000 < n) = true := decide_eq_true q2
    clear q1 q2
    go_enter Try.func84, Try.ntmps84
    go_wp2
    go_ret
    exact ⟨rfl, below_alloc (Below.refl _ _) _⟩
  rw [if_neg q2] at H
  have q2b : decide (1000 < n) = false := decide_eq_false q2
  have B1 := Aside0.mk q1
  have B2 := Aside0.mk q2
  clear q1 q2
  have HW := Aside0.mk (show wrap64 (n + (ands.length : Int)) = n + (ands.length : Int) by have := HL.out; have := B1.out; have := B2.out; rw [wrap_in (by omega) (by omega)])
  by_cases q3 : 1000 < n + (ands.length : Int)
  · rw [if_pos q3] at H
    subst H
    have q3b : decide (1000 < wrap64 (n + (ands.length : Int))) = true := by have := HW.out; have := HL.out; rw [HW.out]; exact decide_eq_true (by omega)
    clear q3
    go_enter Try.func84, Try.ntmps84
    go_wp2
    go_ret
    exact ⟨rfl, below_alloc (Below.refl _ _) _⟩
  rw [if_neg q3] at H
  have q3b : decide (1000 < wrap64 (n + (ands.length : Int))) = false := by have := HW.out; have := HL.out; rw [HW.out]; exact decide_eq_false (by omega)
  have B3 := Aside0.mk q3
  clear q3
  obtain ⟨b, hb⟩ : ∃ b, gAnds (1 + n) ands 0 = b := ⟨_, rfl⟩
  rw [hb] at H
  have HH := Aside0.mk H
  have HB := Aside0.mk hb
  clear H hb
  go_enter Try.func84, Try.ntmps84
  go_wp2
  have HM := Aside0.mk HS.out.max
  go_loopg [22] ands.length (fun gg s5 wr => ∃ m : Nat, s5 = .int .i64 m ∧ Aside0 (m ≤ ands.length ∧ ands.length - m ≤ gg) ∧ Aside0 (Below (w.alloc (.cells #[.slice A ands.length k, .int .i64 lit] 31)).heap.size (w.alloc (.cells #[.slice A ands.length k, .int .i64 lit] 31)) wr) ∧ Aside0 (gAnds (1 + n) (ands.drop m) m = b))
  case atStart => exact ⟨0, rfl, ⟨by omega, by omega⟩, ⟨Below.refl _ _⟩, HB⟩
  case round =>
    obtain ⟨m, rfl, HX, BR, HA⟩ := hrel
    have GR := (Box2.new w (.slice A ands.length k) (.int .i64 lit) 31).below BR.out
    have BWR := Aside0.mk (below_then (below_alloc (Below.refl w.heap.size w) _) (by simp) BR.out)
    have hlB := GR.lt
    obtain ⟨g0, g1⟩ := GR
    by_cases hlt : m < ands.length
    · obtain ⟨ad, e1, hx0, hx1⟩ := at_gate (HS.out.below BWR.out).r m hlt
      cases e1
      have HD := HA.out
      rw [drop_at hlt] at HD
      have HLT := Aside0.mk hlt
      have hwx := HG.out _ (List.getElem_mem hlt)
      generalize ands[m] = g at *
      unfold gAnds at HD
      have HDD := Aside0.mk HD
      have HWI := Aside0.mk (show wrap64 (2 * wrap64 (wrap64 (n + 1) + (m : Int))) = 2 * (1 + n + (m : Int)) by have := HL.out; have := B1.out; have := B2.out; rw [wrap_in (x := n + 1) (by omega) (by omega), wrap_in (x := n + 1 + (m : Int)) (by omega) (by omega), wrap_in (by omega) (by omega)]; omega)
      clear HA HD hwx
      go_wp2
      all_goals first
        | go_ret
          refine ⟨ret_int ?_, below_alloc BWR.out _⟩
          have hd := HDD.out; have hw := HWI.out
          have hb : b = false := by
            rw [← hd]
            by_cases z1 : g.f1 < 0
            · rw [if_pos z1]
            rw [if_neg z1]
            by_cases z2 : g.f0 < g.f1
            · rw [if_pos z2]
            rw [if_neg z2, if_pos (by omega)]
          rw [← HH.out, hb]; rfl
        | go_roundg (ands.length - (m + 1))
          case measure => have := HX.out; have := HLT.out; omega
          case rel =>
            refine ⟨m + 1, val_step HLT.out HM.out, ⟨HLT.out, by have := HX.out; omega⟩, ⟨below_alloc BR.out _⟩, ⟨?_⟩⟩
            have hd := HDD.out; have hw := HWI.out
            rw [if_neg (by omega), if_neg (by omega), if_neg (by omega)] at hd
            simpa using hd
    · have HE : m = ands.length := by have := HX.out.1; omega
      have HD := HA.out
      rw [HE, List.drop_length] at HD
      have hb : b = true := by rw [← HD]; rfl
      have H := HH.out
      rw [hb, if_pos rfl] at H
      have HH2 := Aside0.mk H
      have HQ := Aside0.mk (half_of HI.out)
      have HW2 := Aside0.mk (show wrap64 (n + (ands.length : Int)) = n + (ands.length : Int) by have := HL.out; have := B1.out; have := B2.out; exact HW.out)
      clear HD HE HA hb H HH HB
      go_wp2
      all_goals
        go_ret
        refine ⟨ret_int ?_, BWR.out⟩
        have hq := HQ.out; have hw := HW2.out; have hw1 := HW.out
        rw [← HH2.out]
        by_cases z1 : lit < 0
        · rw [if_pos z1] <;> (first | rfl | (exfalso; omega))
        rw [if_neg z1]
        have hq1 := hq (by omega)
        by_cases z2 : n + (ands.length : Int) < lit / 2
        · rw [if_pos z2] <;> (first | rfl | (exfalso; omega))
        rw [if_neg z2] <;> (first | rfl | (exfalso; omega))
set_option maxHeartbeats 8000000 in
set_option maxRecDepth 100000 in
theorem ref24_Check (n : Int) (A : Option Addr) (k : Nat) (p : Pr) (w : World) (h : RS kGate w A k p.f0) (hf : p.Fits) :
    Calls Try.prog 86 #[.int .i64 n, pv A k p] w fun e w' => e = .returned (.int .i64 (predCheck n p)) ∧ Below w.heap.size w w' := by
  obtain ⟨ands, lit⟩ := p
  obtain ⟨hl, hg, hi⟩ := hf
  dsimp only at *
  obtain ⟨r, H⟩ : ∃ r, predCheck n ⟨ands, lit⟩ = r := ⟨_, rfl⟩
  rw [H]
  unfold predCheck at H
  dsimp only at H
  have hu29 := Try.underlying31
  have hu93 := Try.underlying92
  have HS := Aside0.mk h
  have HL := Aside0.mk hl
  have HG := Aside0.mk hg
  have HI := Aside0.mk hi
  clear h hl hg hi
  by_cases q1 : n < 0
  · rw [if_pos q1] at H
    subst H
    have q1b : decide (n < 0) = true := decide_eq_true q1
    clear q1
    go_enter Try.func86, Try.ntmps86
    go_wp2
    go_ret
    exact ⟨rfl, below_alloc (Below.refl _ _) _⟩
  rw [if_neg q1] at H
  have q1b : decide (n < 0) = false := decide_eq_false q1
  by_cases q2 : 1000 < n
  · rw [if_pos q2] at H
    subst H
    have q2b : decide (1000 < n) = true := decide_eq_true q2
    clear q1 q2
    go_enter Try.func86, Try.ntmps86
    go_wp2
    go_ret
    exact ⟨rfl, below_alloc (Below.refl _ _) _⟩
  rw [if_neg q2] at H
  have q2b : decide (1000 < n) = false := decide_eq_false q2
  have B1 := Aside0.mk q1
  have B2 := Aside0.mk q2
  clear q1 q2
  have HW := Aside0.mk (show wrap64 (1000 - n) = 1000 - n by have := HL.out; have := B1.out; have := B2.out; rw [wrap_in (by omega) (by omega)])
  by_cases q3 : 1000 < n + (ands.length : Int)
  · rw [if_pos q3] at H
    subst H
    have q3b : decide (wrap64 (1000 - n) < (ands.length : Int)) = true := by have := HW.out; have := HL.out; rw [HW.out]; exact decide_eq_true (by omega)
    clear q3
    go_enter Try.func86, Try.ntmps86
    go_wp2
    go_ret
    exact ⟨rfl, below_alloc (Below.refl _ _) _⟩
  rw [if_neg q3] at H
  have q3b : decide (wrap64 (1000 - n) < (ands.length : Int)) = false := by have := HW.out; have := HL.out; rw [HW.out]; exact decide_eq_false (by omega)
  have B3 := Aside0.mk q3
  clear q3
  obtain ⟨b, hb⟩ : ∃ b, gAnds (1 + n) ands 0 = b := ⟨_, rfl⟩
  rw [hb] at H
  have HH := Aside0.mk H
  have HB := Aside0.mk hb
  clear H hb
  go_enter Try.func86, Try.ntmps86
  go_wp2
  have HM := Aside0.mk HS.out.max
  go_loopg [5] ands.length (fun gg s5 wr => ∃ m : Nat, s5 = .int .i64 m ∧ Aside0 (m ≤ ands.length ∧ ands.length - m ≤ gg) ∧ Aside0 (Below (w.alloc (.cells #[.slice A ands.length k, .int .i64 lit] 31)).heap.size (w.alloc (.cells #[.slice A ands.length k, .int .i64 lit] 31)) wr) ∧ Aside0 (gAnds (1 + n) (ands.drop m) m = b))
  case atStart => exact ⟨0, rfl, ⟨by omega, by omega⟩, ⟨Below.refl _ _⟩, HB⟩
  case round =>
    obtain ⟨m, rfl, HX, BR, HA⟩ := hrel
    have GR := (Box2.new w (.slice A ands.length k) (.int .i64 lit) 31).below BR.out
    have BWR := Aside0.mk (below_then (below_alloc (Below.refl w.heap.size w) _) (by simp) BR.out)
    have hlB := GR.lt
    obtain ⟨g0, g1⟩ := GR
    by_cases hlt : m < ands.length
    · obtain ⟨ad, e1, hx0, hx1⟩ := at_gate (HS.out.below BWR.out).r m hlt
      cases e1
      have HD := HA.out
      rw [drop_at hlt] at HD
      have HLT := Aside0.mk hlt
      have hwx := HG.out _ (List.getElem_mem hlt)
      generalize ands[m] = g at *
      unfold gAnds at HD
      have HDD := Aside0.mk HD
      have HWI := Aside0.mk (show wrap64 (wrap64 (2 * wrap64 (n + (m : Int))) + 1) = 2 * (n + (m : Int)) + 1 by have := HL.out; have := B1.out; have := B2.out; rw [wrap_in (x := n + (m : Int)) (by omega) (by omega), wrap_in (x := 2 * (n + (m : Int))) (by omega) (by omega), wrap_in (by omega) (by omega)])
      clear HA HD hwx
      go_wp2
      all_goals first
        | go_ret
          refine ⟨ret_int ?_, below_alloc BWR.out _⟩
          have hd := HDD.out; have hw := HWI.out
          have hb : b = false := by
            rw [← hd]
            by_cases z1 : g.f1 < 0
            · rw [if_pos z1]
            rw [if_neg z1]
            by_cases z2 : g.f0 < g.f1
            · rw [if_pos z2]
            rw [if_neg z2, if_pos (by omega)]
          rw [← HH.out, hb]; rfl
        | go_roundg (ands.length - (m + 1))
          case measure => have := HX.out; have := HLT.out; omega
          case rel =>
            refine ⟨m + 1, val_step HLT.out HM.out, ⟨HLT.out, by have := HX.out; omega⟩, ⟨below_alloc BR.out _⟩, ⟨?_⟩⟩
            have hd := HDD.out; have hw := HWI.out
            rw [if_neg (by omega), if_neg (by omega), if_neg (by omega)] at hd
            simpa using hd
    · have HE : m = ands.length := by have := HX.out.1; omega
      have HD := HA.out
      rw [HE, List.drop_length] at HD
      have hb : b = true := by rw [← HD]; rfl
      have H := HH.out
      rw [hb, if_pos rfl] at H
      have HH2 := Aside0.mk H
      have HQ := Aside0.mk (half_of HI.out)
      have HW2 := Aside0.mk (show wrap64 (wrap64 (2 * wrap64 (n + (ands.length : Int))) + 1) = 2 * (n + (ands.length : Int)) + 1 by have := HL.out; have := B1.out; have := B2.out; rw [wrap_in (x := n + (ands.length : Int)) (by omega) (by omega), wrap_in (x := 2 * (n + (ands.length : Int))) (by omega) (by omega), wrap_in (by omega) (by omega)])
      clear HD HE HA hb H HH HB
      go_wp2
      all_goals
        go_ret
        refine ⟨ret_int ?_, BWR.out⟩
        have hq := HQ.out; have hw := HW2.out; have hw1 := HW.out
        rw [← HH2.out]
        by_cases z1 : lit < 0
        · rw [if_pos z1] <;> (first | rfl | (exfalso; omega))
        rw [if_neg z1]
        have hq1 := hq (by omega)
        by_cases z2 : n + (ands.length : Int) < lit / 2
        · rw [if_pos z2] <;> (first | rfl | (exfalso; omega))
        rw [if_neg z2] <;> (first | rfl | (exfalso; omega))
end Go.Proofs.Ytpoadkogcdfglaa.PH
