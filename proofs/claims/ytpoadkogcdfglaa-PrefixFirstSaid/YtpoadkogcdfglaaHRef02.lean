/- The reference of layer 2: Great, Size, literals, Check, SameInts: what they answer; Check answers what gates.Check answers. -/
import Derived.Test.YtpoadkogcdfglaaHGates
namespace Go.Proofs.Ytpoadkogcdfglaa.PH
open Go.RowKit Go.Proofs.YtpoadkogcdfglaaW.PrintWords
set_option linter.unusedVariables false
set_option linter.unusedSimpArgs false

def great (c : Circ) : Bool := decide (60 < c.f1.length) || decide (120 < c.f2.length) || decide (110 < c.f3.length) || decide (110 < c.f4.length) || (decide (40 < c.f0) && decide (c.f0 < 996))
set_option maxHeartbeats 2000000 in
set_option maxRecDepth 100000 in
theorem ref02_Great (p : CP) (c : Circ) (w : World) :
    Calls Try.prog 8 #[cv p c] w fun e w' => e = .returned (.bool (great c)) ∧ Below w.heap.size w w' := by
  have hu26 := Try.underlying26
  obtain ⟨r, hr⟩ : ∃ r, great c = r := ⟨_, rfl⟩
  rw [hr]
  unfold great at hr
  have HR := Aside0.mk hr
  clear hr
  go_enter Try.func8, Try.ntmps8
  go_wp2
  all_goals
    go_ret
    refine ⟨ret_bool ?_, below_alloc (Below.refl _ _) _⟩
    rw [← HR.out]
    clear HR
    first | (simp [*]; done) | (rw [Bool.eq_iff_iff]; simp; omega)
/-- A literal of a variable up to n. -/
def litOk (n l : Int) : Bool := decide (0 ≤ l) && decide (l / 2 ≤ n)
set_option maxHeartbeats 2000000 in
set_option maxRecDepth 100000 in
theorem ref02_literals (A : Option Addr) (c : Nat) (l : List Int) (n : Int) (w : World) (h : RS (Kd.int .i64) w A c l) (hw : ∀ x ∈ l, I64 x) :
    Calls Try.prog 50 #[.slice A l.length c, .int .i64 n] w fun e w' => e = .returned (.bool (l.all (litOk n))) ∧ Below w.heap.size w w' := by
  have HS := Aside0.mk h
  have HM := Aside0.mk h.max
  have HW := Aside0.mk hw
  clear h hw
  go_enter Try.func50, Try.ntmps50
  go_wp2
  go_loopg [5] l.length (fun gg s5 wr => ∃ k : Nat, s5 = .int .i64 k ∧ Aside0 (k ≤ l.length ∧ l.length - k ≤ gg) ∧ Aside0 (Below w.heap.size w wr) ∧ Aside0 ((l.drop k).all (litOk n) = l.all (litOk n)))
  case atStart => exact ⟨0, rfl, ⟨by omega, by omega⟩, ⟨Below.refl _ _⟩, ⟨rfl⟩⟩
  case round =>
    obtain ⟨k, rfl, HX, BW, HA⟩ := hrel
    by_cases hlt : k < l.length
    · obtain ⟨ad, e1, hx⟩ := at_int (HS.out.below BW.out).r k hlt
      cases e1
      have HD := HA.out
      rw [all_step hlt] at HD
      clear HA
      have HLT := Aside0.mk hlt
      have hwx := HW.out _ (List.getElem_mem hlt)
      generalize l[k] = x at *
      have HQ := Aside0.mk (half_of hwx)
      clear hwx
      have HDD := Aside0.mk HD
      clear HD
      go_wp2
      all_goals first
        | go_ret
          refine ⟨ret_bool ?_, BW.out⟩
          rw [← HDD.out, show litOk n x = false by unfold litOk; have := HQ.out; simp; omega, Bool.false_and]
        | go_roundg (l.length - (k + 1))
          case measure => have := HX.out; have := HLT.out; omega
          case rel =>
            refine ⟨k + 1, val_step HLT.out HM.out, ⟨HLT.out, by have := HX.out; omega⟩, BW, ⟨?_⟩⟩
            rw [← HDD.out, show litOk n x = true by unfold litOk; have := HQ.out; simp; omega, Bool.true_and]
    · have HE : k = l.length := by have := HX.out.1; omega
      have HD := HA.out
      rw [HE, List.drop_length] at HD
      have HDD := Aside0.mk HD
      clear HD HE HA
      go_wp2
      go_ret
      exact ⟨ret_bool HDD.out, BW.out⟩
set_option maxRecDepth 100000 in
theorem ref02_Size (p : CP) (c : Circ) (w : World) (h0 : 0 ≤ c.f0) (h1 : c.f0 ≤ 1000) (hs : c.Fits) :
    Calls Try.prog 49 #[cv p c] w fun e w' => e = .returned (.int .i64 (c.f0 + c.f1.length + c.f2.length)) ∧ Below w.heap.size w w' := by
  have hw1 : wrap64 (wrap64 (c.f0 + c.f1.length) + c.f2.length) = c.f0 + c.f1.length + c.f2.length := by
    have := hs.h1; have := hs.h2
    rw [wrap_in (x := c.f0 + c.f1.length) (by omega) (by omega), wrap_in (by omega) (by omega)]
  have HW := Aside0.mk hw1
  clear h0 h1 hw1 hs
  have hu26 := Try.underlying26
  go_enter Try.func49, Try.ntmps49
  go_wp2
  go_ret
  exact ⟨ret_int (by rw [← HW.out]), below_alloc (Below.refl _ _) _⟩
def latOk (n : Int) (x : Latch) : Bool := litOk n x.f0 && (decide (0 ≤ x.f1) && decide (x.f1 ≤ 2))
def gatesOk (b : Int) : List Gate → Int → Bool
  | [], _ => true
  | g :: gs, i => if g.f1 < 0 then false else if g.f0 < g.f1 then false else if b + i < g.f0 / 2 then false else gatesOk b gs (i + 1)
def rCheck (c : Circ) : Int :=
  if c.f0 < 0 then 8 else if 1000 < c.f0 then 4 else if 1000 < c.f0 + c.f1.length + c.f2.length then 4 else if 100 < c.f3.length then 4 else if 100 < c.f4.length then 4
  else if c.f3.all (litOk (c.f0 + c.f1.length + c.f2.length)) = true then if c.f4.all (litOk (c.f0 + c.f1.length + c.f2.length)) = true then if c.f1.all (latOk (c.f0 + c.f1.length + c.f2.length)) = true then if gatesOk (c.f0 + c.f1.length) c.f2 0 = true then 0 else 8 else 8 else 8 else 8
theorem gatesOk_eq (s : Int) : ∀ (l : List Gate) (i : Int), gatesOk (s - 1) l i = gAnds s l i
  | [], _ => rfl
  | g :: gs, i => by
    unfold gatesOk gAnds
    rw [gatesOk_eq s gs (i + 1)]
    by_cases h1 : g.f1 < 0
    · rw [if_pos h1, if_pos h1]
    rw [if_neg h1, if_neg h1]
    by_cases h2 : g.f0 < g.f1
    · rw [if_pos h2, if_pos h2]
    rw [if_neg h2, if_neg h2]
    by_cases h3 : 2 * (s + i) ≤ g.f0
    · rw [if_pos (by omega), if_pos h3]
    · rw [if_neg (by omega), if_neg h3]
theorem litOk_eq (n l : Int) : litOk n l = !gOut (n + 1) l := by
  unfold litOk gOut
  rw [Bool.eq_iff_iff]; simp; omega
theorem latOk_eq (n : Int) (x : Latch) : latOk n x = !gWrong (n + 1) x := by
  unfold latOk gWrong
  rw [litOk_eq]
  generalize gOut (n + 1) x.f0 = o
  cases o
  · rw [Bool.eq_iff_iff]; simp
  · simp
theorem all_not {α : Type} {p q : α → Bool} (h : ∀ x, p x = !q x) : ∀ l : List α, l.all p = !l.any q
  | [] => rfl
  | x :: xs => by simp [h x, all_not h xs]
theorem rCheck_eq (c : Circ) : rCheck c = check c := by
  unfold rCheck check gCheck
  have e1 : (1 + c.f0 + (c.f1.length : Int) + (c.f2.length : Int)) = c.f0 + c.f1.length + c.f2.length + 1 := by omega
  by_cases h1 : c.f0 < 0
  · rw [if_pos h1, if_pos h1]
  rw [if_neg h1, if_neg h1]
  by_cases h2 : 1000 < c.f0
  · rw [if_pos h2, if_pos h2]
  rw [if_neg h2, if_neg h2, e1]
  have e2 : (1000 < c.f0 + (c.f1.length : Int) + c.f2.length + 1 - 1) ↔ (1000 < c.f0 + (c.f1.length : Int) + c.f2.length) := by omega
  have e3 : (100 < mx (c.f3.length : Int) (c.f4.length : Int)) ↔ (100 < c.f3.length ∨ 100 < c.f4.length) := by unfold mx; split <;> omega
  simp only [e2, e3]
  by_cases h3 : 1000 < c.f0 + (c.f1.length : Int) + c.f2.length
  · rw [if_pos h3, if_pos h3]
  rw [if_neg h3, if_neg h3]
  by_cases h4 : 100 < c.f3.length
  · rw [if_pos h4, if_pos (Or.inl h4)]
  rw [if_neg h4]
  by_cases h5 : 100 < c.f4.length
  · rw [if_pos h5, if_pos (Or.inr h5)]
  rw [if_neg h5, if_neg (show ¬ (100 < c.f3.length ∨ 100 < c.f4.length) by omega)]
  rw [all_not (litOk_eq _), all_not (litOk_eq _), all_not (latOk_eq _), show (c.f0 + (c.f1.length : Int)) = (1 + c.f0 + c.f1.length) - 1 by omega, gatesOk_eq]
  rw [show (1 + c.f0 + (c.f1.length : Int)) - 1 + c.f2.length + 1 = c.f0 + c.f1.length + c.f2.length + 1 by omega]
  generalize c.f3.any _ = b3
  generalize c.f4.any _ = b4
  generalize c.f1.any _ = b1
  cases b3 <;> cases b4 <;> cases b1 <;> simp
set_option maxHeartbeats 8000000 in
set_option maxRecDepth 100000 in
theorem ref02_Check (p : CP) (c : Circ) (w : World) (h : RC w p c) (hs : c.Fits) :
    Calls Try.prog 22 #[cv p c] w fun e w' => e = .returned (.int .i64 (check c)) ∧ Below w.heap.size w w' := by
  rw [← rCheck_eq]
  have HSZ0 := fun W h0 h1 => ref02_Size p c W h0 h1 hs
  obtain ⟨A1, k1, A2, k2, A3, k3, A4, k4⟩ := p
  obtain ⟨s1, s2, s3, s4⟩ := h
  dsimp only at s1 s2 s3 s4
  obtain ⟨r, H⟩ : ∃ r, rCheck c = r := ⟨_, rfl⟩
  rw [H]
  unfold rCheck at H
  have hu26 := Try.underlying26
  have hu49 := Try.underlying45
  have hu51 := Try.underlying92
  by_cases q1 : c.f0 < 0
  · rw [if_pos q1] at H
    subst H
    have q1b : decide (c.f0 < 0) = true := decide_eq_true q1
    clear q1
    go_enter Try.func22, Try.ntmps22
    go_wp2
    go_ret
    exact ⟨rfl, below_alloc (Below.refl _ _) _⟩
  rw [if_neg q1] at H
  have q1b : decide (c.f0 < 0) = false := decide_eq_false q1
  by_cases q2 : 1000 < c.f0
  · rw [if_pos q2] at H
    subst H
    have q2b : decide (1000 < c.f0) = true := decide_eq_true q2
    clear q1 q2
    go_enter Try.func22, Try.ntmps22
    go_wp2
    go_ret
    exact ⟨rfl, below_alloc (Below.refl _ _) _⟩
  rw [if_neg q2] at H
  have q2b : decide (1000 < c.f0) = false := decide_eq_false q2
  have HSZ := Aside0.mk (fun W => HSZ0 W (by omega) (by omega))
  have HSS := Aside0.mk hs
  have B1 := Aside0.mk q1
  have B2 := Aside0.mk q2
  have HC1 := Aside0.mk s1
  have HC2 := Aside0.mk s2
  have HC3 := Aside0.mk s3
  have HC4 := Aside0.mk s4
  clear q1 q2 hs s1 s2 s3 s4 HSZ0
  generalize hS : c.f0 + (c.f1.length : Int) + (c.f2.length : Int) = S at *
  have HS := Aside0.mk hS
  clear hS
  by_cases q3 : 1000 < S
  · rw [if_pos q3] at H
    subst H
    have q3b : decide (1000 < S) = true := decide_eq_true q3
    clear q3
    go_enter Try.func22, Try.ntmps22
    go_wp2_with fail
    refine (HSZ.out _).mono ?_
    rintro e w1 ⟨rfl, hb1⟩
    obtain ⟨g0, g1, g2, g3, g4, hb1'⟩ := box5 hb1
    have BW1 := Aside0.mk hb1'
    clear hb1 hb1'
    go_wp2
    go_ret
    exact ⟨rfl, BW1.out⟩
  rw [if_neg q3] at H
  have q3b : decide (1000 < S) = false := decide_eq_false q3
  have B3 := Aside0.mk q3
  clear q3
  go_enter Try.func22, Try.ntmps22
  go_wp2_with fail
  refine (HSZ.out _).mono ?_
  rintro e w1 ⟨rfl, hb1⟩
  obtain ⟨G, hb1'⟩ := Box5.mk' hb1
  obtain ⟨g0, g1, g2, g3, g4⟩ := G
  have BW1 := Aside0.mk hb1'
  clear hb1 hb1'
  by_cases q4 : 100 < c.f3.length
  · rw [if_pos q4] at H
    subst H
    have q4b : decide (100 < (c.f3.length : Int)) = true := decide_eq_true (by omega)
    clear q4
    go_wp2
    go_ret
    exact ⟨rfl, BW1.out⟩
  rw [if_neg q4] at H
  have q4b : decide (100 < (c.f3.length : Int)) = false := decide_eq_false (by omega)
  clear q4
  by_cases q5 : 100 < c.f4.length
  · rw [if_pos q5] at H
    subst H
    have q5b : decide (100 < (c.f4.length : Int)) = true := decide_eq_true (by omega)
    clear q5
    go_wp2
    go_ret
    exact ⟨rfl, BW1.out⟩
  rw [if_neg q5] at H
  have q5b : decide (100 < (c.f4.length : Int)) = false := decide_eq_false (by omega)
  clear q5
  go_wp2_with fail
  refine (HSZ.out _).mono ?_
  rintro e w2 ⟨rfl, hb2⟩
  have G := Box5.below ⟨g0, g1, g2, g3, g4⟩ hb2
  have BW := Aside0.mk (BW1.out.trans (hb2.mono BW1.out.size))
  clear hb2 BW1 g0 g1 g2 g3 g4
  obtain ⟨g0, g1, g2, g3, g4⟩ := G
  go_wp2_with fail
  refine (ref02_literals A3 k3 c.f3 S _ (HC3.out.below BW.out) HSS.out.i3).mono ?_
  rintro e w3 ⟨rfl, hb3⟩
  have G := Box5.below ⟨g0, g1, g2, g3, g4⟩ hb3
  have BW := Aside0.mk (BW.out.trans (hb3.mono BW.out.size))
  clear hb3 g0 g1 g2 g3 g4
  obtain ⟨g0, g1, g2, g3, g4⟩ := G
  generalize c.f3.all (litOk S) = b3 at H ⊢
  cases b3 with
  | false =>
    rw [if_neg (by simp)] at H
    subst H
    go_wp2
    go_ret
    exact ⟨rfl, BW.out⟩
  | true =>
  rw [if_pos rfl] at H
  go_wp2_with fail
  refine (ref02_literals A4 k4 c.f4 S _ (HC4.out.below BW.out) HSS.out.i4).mono ?_
  rintro e w4 ⟨rfl, hb4⟩
  have G := Box5.below ⟨g0, g1, g2, g3, g4⟩ hb4
  have BW := Aside0.mk (BW.out.trans (hb4.mono BW.out.size))
  clear hb4 g0 g1 g2 g3 g4
  generalize c.f4.all (litOk S) = b4 at H ⊢
  cases b4 with
  | false =>
    rw [if_neg (by simp)] at H
    subst H
    go_wp2
    go_ret
    exact ⟨rfl, BW.out⟩
  | true =>
  rw [if_pos rfl] at H
  go_wp2
  have HM1 := Aside0.mk HC1.out.max
  have HM2 := Aside0.mk HC2.out.max
  obtain ⟨b1, hb1⟩ : ∃ b, c.f1.all (latOk S) = b := ⟨_, rfl⟩
  rw [hb1] at H
  have HH := Aside0.mk H
  have HB1 := Aside0.mk hb1
  clear H hb1
  go_loopg [4] c.f1.length (fun gg s4 wr => ∃ k : Nat, s4 = .int .i64 k ∧ Aside0 (k ≤ c.f1.length ∧ c.f1.length - k ≤ gg) ∧ Aside0 (Below w4.heap.size w4 wr) ∧ Aside0 ((c.f1.drop k).all (latOk S) = b1))
  case atStart => exact ⟨0, rfl, ⟨by omega, by omega⟩, ⟨Below.refl _ _⟩, HB1⟩
  case round =>
    obtain ⟨k, rfl, HX, BR, HA⟩ := hrel
    have GR := G.below BR.out
    have BWR := Aside0.mk (BW.out.trans (BR.out.mono BW.out.size))
    have hlB := GR.lt
    obtain ⟨g0, g1, g2, g3, g4⟩ := GR
    by_cases hlt : k < c.f1.length
    · obtain ⟨ad, e1, hx0, hx1⟩ := at_latch (HC1.out.below BWR.out).r k hlt
      cases e1
      have HD := HA.out
      rw [all_step hlt] at HD
      have HLT := Aside0.mk hlt
      have hwx := HSS.out.i1 _ (List.getElem_mem hlt)
      generalize c.f1[k] = x at *
      have HWX := Aside0.mk hwx.1
      rw [show latOk S x = (litOk S x.f0 && (decide (0 ≤ x.f1) && decide (x.f1 ≤ 2))) from rfl] at HD
      clear HA hwx
      go_wp2_with fail
      refine (ref02_literals (some ⟨wr.heap.size, 0, none⟩) 1 [x.f0] S _ (RS.one_int (Nat.le_refl _) (by simp)) (fun y hy => by rw [List.mem_singleton.1 hy]; exact HWX.out)).mono ?_
      rintro e w5 ⟨rfl, hb5⟩
      have B5 : Below wr.heap.size wr w5 := below_then (below_alloc (Below.refl _ _) _) (by simp) hb5
      have G5 := Box5.below ⟨g0, g1, g2, g3, g4⟩ B5
      have y1 := pw_cell_below B5 hx1
      have BR5 := Aside0.mk (BR.out.trans (B5.mono BR.out.size))
      have BW5 := Aside0.mk (BWR.out.trans (B5.mono BWR.out.size))
      clear hb5 B5 g0 g1 g2 g3 g4 hx0 hx1 BR BWR hlB
      obtain ⟨g0, g1, g2, g3, g4⟩ := G5
      rw [show [x.f0].all (litOk S) = litOk S x.f0 by simp]
      generalize litOk S x.f0 = o at HD ⊢
      have HDD := Aside0.mk HD
      clear HD
      cases o with
      | false =>
        go_wp2
        go_ret
        refine ⟨ret_int ?_, BW5.out⟩
        have hb := HDD.out
        rw [Bool.false_and, Bool.false_and] at hb
        rw [← HH.out, ← hb]; rfl
      | true =>
        go_wp2
        all_goals first
          | go_ret
            refine ⟨ret_int ?_, BW5.out⟩
            have hb := HDD.out
            rw [show (decide (0 ≤ x.f1) && decide (x.f1 ≤ 2)) = false by rw [Bool.eq_iff_iff]; simp; omega] at hb
            rw [← HH.out, ← hb]; rfl
          | go_roundg (c.f1.length - (k + 1))
            case measure => have := HX.out; have := HLT.out; omega
            case rel =>
              refine ⟨k + 1, val_step HLT.out HM1.out, ⟨HLT.out, by have := HX.out; omega⟩, BR5, ⟨?_⟩⟩
              have hb := HDD.out
              rw [show (decide (0 ≤ x.f1) && decide (x.f1 ≤ 2)) = true by rw [Bool.eq_iff_iff]; simp; omega] at hb
              simpa using hb
    · have HE : k = c.f1.length := by have := HX.out.1; omega
      have HD := HA.out
      rw [HE, List.drop_length] at HD
      have hb : b1 = true := by rw [← HD]; rfl
      have H := HH.out
      rw [hb, if_pos rfl] at H
      clear HD HE HA HH HB1 hb
      have GR2 := Aside0.mk (Box5.mk g0 g1 g2 g3 g4)
      have hw2 : ∀ k : Nat, k < c.f2.length → wrap64 (wrap64 (c.f0 + (c.f1.length : Int)) + (k : Int)) = c.f0 + c.f1.length + k := fun k hk => by
        have := HSS.out.h1; have := HSS.out.h2; have := B1.out; have := B2.out
        rw [wrap_in (x := c.f0 + (c.f1.length : Int)) (by omega) (by omega), wrap_in (by omega) (by omega)]
      have HW2 := Aside0.mk hw2
      clear hw2
      go_wp2
      obtain ⟨b2, hb2⟩ : ∃ b, gatesOk (c.f0 + (c.f1.length : Int)) c.f2 0 = b := ⟨_, rfl⟩
      rw [hb2] at H
      have HH := Aside0.mk H
      have HB2 := Aside0.mk hb2
      clear H hb2
      go_loopg [5] c.f2.length (fun gg s5 w6 => ∃ k : Nat, s5 = .int .i64 k ∧ Aside0 (k ≤ c.f2.length ∧ c.f2.length - k ≤ gg) ∧ Aside0 (Below wr.heap.size wr w6) ∧ Aside0 (gatesOk (c.f0 + (c.f1.length : Int)) (c.f2.drop k) k = b2))
      case atStart => exact ⟨0, rfl, ⟨by omega, by omega⟩, ⟨Below.refl _ _⟩, HB2⟩
      case round =>
        clear g0 g1 g2 g3 g4 hlB
        obtain ⟨m, rfl, HX2, BQ, HA2⟩ := hrel
        have GR := GR2.out.below BQ.out
        have BWQ := Aside0.mk (BWR.out.trans (BQ.out.mono BWR.out.size))
        have hlB := GR.lt
        obtain ⟨g0, g1, g2, g3, g4⟩ := GR
        by_cases hlt2 : m < c.f2.length
        · obtain ⟨ad2, e2, hx0, hx1⟩ := at_gate (HC2.out.below BWQ.out).r m hlt2
          cases e2
          have HD := HA2.out
          rw [drop_at hlt2] at HD
          have HLT2 := Aside0.mk hlt2
          have hwx := HSS.out.i2 _ (List.getElem_mem hlt2)
          have HWW := Aside0.mk (HW2.out m hlt2)
          generalize c.f2[m] = g at *
          unfold gatesOk at HD
          have HQ := Aside0.mk (half_of hwx.1)
          have HDD := Aside0.mk HD
          clear HA2 hwx HD
          go_wp2
          all_goals first
            | go_ret
              refine ⟨ret_int ?_, below_alloc BWQ.out _⟩
              have hd := HDD.out; have hq := HQ.out; have hw := HWW.out
              have hb : b2 = false := by
                rw [← hd]
                by_cases z1 : g.f1 < 0
                · rw [if_pos z1]
                rw [if_neg z1]
                by_cases z2 : g.f0 < g.f1
                · rw [if_pos z2]
                rw [if_neg z2, if_pos (by have := hq (by omega); omega)]
              rw [← HH.out, hb]; rfl
            | go_roundg (c.f2.length - (m + 1))
              case measure => have := HX2.out; have := HLT2.out; omega
              case rel =>
                refine ⟨m + 1, val_step HLT2.out HM2.out, ⟨HLT2.out, by have := HX2.out; omega⟩, ⟨below_alloc BQ.out _⟩, ⟨?_⟩⟩
                have hd := HDD.out; have hq := HQ.out; have hw := HWW.out
                rw [if_neg (by omega), if_neg (by omega), if_neg (by have := hq (by omega); omega)] at hd
                simpa using hd
        · have HE2 : m = c.f2.length := by have := HX2.out.1; omega
          have HD := HA2.out
          rw [HE2, List.drop_length] at HD
          have hb : b2 = true := by rw [← HD]; rfl
          have H := HH.out
          rw [hb, if_pos rfl] at H
          subst H
          clear HD HE2 HA2 hb
          go_wp2
          go_ret
          exact ⟨rfl, BWQ.out⟩
end Go.Proofs.Ytpoadkogcdfglaa.PH
