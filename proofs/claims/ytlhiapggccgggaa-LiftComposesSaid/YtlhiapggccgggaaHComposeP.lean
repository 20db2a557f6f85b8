/- Composed lifts, in plain Lean. -/
import Derived.Test.YtlhiapggccgggaaHTransP
import Derived.Test.YtlhiapggccgggaaHIdent
import Derived.Test.YtlhiapggccgggaaHLift1
import Derived.Test.YtlhiapggccgggaaHVar
namespace Go.Proofs.Ytlhiapggccgggaa.PH
open Go.RowKit Go.Proofs.YtlhiapggccgggaaW.PrintWords Go.Proofs.YtlhiapggccgggaaW.PrintLast
set_option linter.unusedVariables false
set_option linter.unusedSimpArgs false

/-- A lift that is valid. -/
structure LOk (fr tc : Circ) (l : Lf) : Prop where
  s0 : 0 ≤ l.f0
  s1 : l.f0 ≤ 100
  p0 : 1 ≤ l.f1
  p1 : l.f1 ≤ 4
  n2 : l.f2.length = fr.f1.length
  n4 : l.f4.length = tc.f1.length
  n3 : (l.f3.length : Int) = l.f0 + l.f1
  m2 : ∀ x ∈ l.f2, x = 0 ∨ x = 1 ∨ (2 * (tc.f0 + 1) ≤ x ∧ x < 2 * (tc.f0 + 1 + tc.f1.length))
  m3 : ∀ r ∈ l.f3, (r.length : Int) = fr.f0 ∧ ∀ x ∈ r, 0 ≤ x ∧ x % 2 = 0 ∧ x ≤ 2 * tc.f0
  m4 : ∀ x ∈ l.f4, x = -1 ∨ (2 * (fr.f0 + 1) ≤ x ∧ x < 2 * (fr.f0 + 1 + fr.f1.length))
  k : predCheck fr.f1.length l.f5 = 0
theorem LOk.of {fr tc : Circ} {l : Lf} (h : liftOk fr tc l = true) : LOk fr tc l := by
  unfold liftOk headOk at h
  simp only [Bool.and_eq_true, decide_eq_true_eq, List.all_eq_true] at h
  obtain ⟨⟨h1, h2, h3, h4, h5, h6, h7⟩, h8, h9, h10, h11⟩ := h
  refine ⟨h1, h2, h3, h4, h5, h6, h7, fun x hx => ?_, fun r hr => ?_, fun x hx => ?_, h11⟩
  · have := h8 x hx
    unfold fOk isL at this
    simpa using this
  · have := h9 r hr
    unfold rOk iOk at this
    simp only [Bool.and_eq_true, decide_eq_true_eq, List.all_eq_true] at this
    exact ⟨this.1, fun x hx => ⟨(this.2 x hx).1, (this.2 x hx).2.1, (this.2 x hx).2.2⟩⟩
  · have := h10 x hx
    unfold lOk isL at this
    simpa using this
def joinF (md : Circ) (b : Lf) (x : Int) : Int := if 1 < x then byL (b.f2.getD (x / 2 - md.f0 - 1).toNat 0) x else x
def joinL (md : Circ) (a : Lf) (x : Int) : Int := if 0 ≤ x then (if 0 ≤ a.f4.getD (x / 2 - md.f0 - 1).toNat 0 then byL (a.f4.getD (x / 2 - md.f0 - 1).toNat 0) x else a.f4.getD (x / 2 - md.f0 - 1).toNat 0) else x
/-- The row of the first lift and the frame of the second one that a frame has. -/
def rowAt (a : Lf) (j : Nat) : Nat := if a.f1 ≤ (j : Int) - a.f0 then (a.f0 + ((j : Int) - a.f0) % a.f1).toNat else j
def frAt (a : Lf) (j : Nat) : Nat := if a.f1 ≤ (j : Int) - a.f0 then (((j : Int) - a.f0) / a.f1).toNat else 0
def joinI (b : Lf) (f : Nat) (x : Int) : Int := if 0 < x then (b.f3.getD f []).getD (x / 2 - 1).toNat 0 else x
def joinRow (a b : Lf) (j : Nat) : List Int := (a.f3.getD (rowAt a j) []).map (joinI b (frAt a j))
def sk (a b : Lf) : Int := a.f0 + a.f1 * b.f0
def ph (a b : Lf) : Int := a.f1 * b.f1
def factOf (fr : Circ) (a b : Lf) : Pr × Int := andP fr.f1.length a.f5 (transP fr a.f4 b.f5)
def joined (fr md : Circ) (a b : Lf) : Lf := ⟨sk a b, ph a b, a.f2.map (joinF md b), (List.range (sk a b + ph a b).toNat).map (joinRow a b), b.f4.map (joinL md a), (factOf fr a b).1⟩
def joinC (fr md : Circ) (a b : Lf) : Lf × Int :=
  if 100 < sk a b ∨ 4 < ph a b then (zeroL, 4) else if (factOf fr a b).2 ≠ 0 then (zeroL, (factOf fr a b).2) else (joined fr md a b, 0)
def composeC (fr md tc : Circ) (a b : Lf) : Lf × Int :=
  if checks [fr, md, tc] ≠ 0 then (zeroL, checks [fr, md, tc])
  else if liftOk fr md a = false then (zeroL, 8) else if liftOk md tc b = false then (zeroL, 8) else joinC fr md a b
theorem checks3 {fr md tc : Circ} (h : checks [fr, md, tc] = 0) : check fr = 0 ∧ check md = 0 ∧ check tc = 0 := by
  simp only [checks] at h
  by_cases h1 : check fr = 0
  · rw [if_pos h1] at h
    by_cases h2 : check md = 0
    · rw [if_pos h2] at h
      by_cases h3 : check tc = 0
      · exact ⟨h1, h2, h3⟩
      · rw [if_neg h3] at h; exact absurd h h3
    · rw [if_neg h2] at h; exact absurd h h2
  · rw [if_neg h1] at h; exact absurd h h1
theorem lasOk_of {fr tc : Circ} {l : Lf} (h : LOk fr tc l) (h0 : 0 ≤ fr.f0) (h1 : fr.f0 ≤ 1000) (h2 : fr.f1.length ≤ 1000) : LasOk fr l.f4 := ⟨h0, h1, h2, h.m4⟩
theorem lit_isL {c : Circ} {x : Int} (h : check c = 0) (hx : 2 * (c.f0 + 1) ≤ x ∧ x < 2 * (c.f0 + 1 + c.f1.length)) : IsLit x := by
  have h1 := gCheck_ok h
  exact ⟨by omega, by omega⟩
/-- The place of a latch's literal. -/
theorem at_latch_lit {c : Circ} {x : Int} (h : check c = 0) (hx : 2 * (c.f0 + 1) ≤ x ∧ x < 2 * (c.f0 + 1 + c.f1.length)) : ∃ q : Nat, q < c.f1.length ∧ x / 2 - c.f0 - 1 = (q : Int) := by
  have h1 := gCheck_ok h
  exact ⟨(x / 2 - c.f0 - 1).toNat, by omega, by omega⟩
theorem getD_at {α : Type} {l : List α} {q : Nat} (h : q < l.length) (z : α) : l.getD q z = l[q] := by
  rw [List.getD_eq_getElem?_getD, List.getElem?_eq_getElem h]; rfl
theorem joinF_at {md tc : Circ} {b : Lf} {x : Int} (hb : LOk md tc b) {q : Nat} (hq : q < b.f2.length) (hx : x / 2 - md.f0 - 1 = (q : Int)) (h1 : 1 < x) : joinF md b x = byL b.f2[q] x := by
  unfold joinF
  rw [if_pos h1, hx, Int.toNat_natCast, getD_at hq]
theorem joinL_at {md : Circ} {a : Lf} {x : Int} {q : Nat} (hq : q < a.f4.length) (hx : x / 2 - md.f0 - 1 = (q : Int)) (h1 : 0 ≤ x) : joinL md a x = if 0 ≤ a.f4[q] then byL a.f4[q] x else a.f4[q] := by
  unfold joinL
  rw [if_pos h1, hx, Int.toNat_natCast, getD_at hq]
theorem sk_bound {fr md tc : Circ} {a b : Lf} (ha : LOk fr md a) (hb : LOk md tc b) : 0 ≤ sk a b ∧ sk a b ≤ 500 ∧ 1 ≤ ph a b ∧ ph a b ≤ 16 := by
  have h1 := ha.s0; have h2 := ha.s1; have h3 := ha.p0; have h4 := ha.p1
  have h5 := hb.s0; have h6 := hb.s1; have h7 := hb.p0; have h8 := hb.p1
  unfold sk ph
  have k : a.f1 = 1 ∨ a.f1 = 2 ∨ a.f1 = 3 ∨ a.f1 = 4 := by omega
  rcases k with k | k | k | k <;> rw [k] <;> omega
/-- Both places are there. -/
theorem at_bound {fr md tc : Circ} {a b : Lf} (ha : LOk fr md a) (hb : LOk md tc b) {j : Nat} (hj : (j : Int) < sk a b + ph a b) : rowAt a j < a.f3.length ∧ frAt a j < b.f3.length := by
  have h1 := ha.s0; have h2 := ha.s1; have h3 := ha.p0; have h4 := ha.p1
  have h5 := hb.s0; have h6 := hb.s1; have h7 := hb.p0; have h8 := hb.p1
  have n1 := ha.n3; have n2 := hb.n3
  unfold sk ph at hj
  unfold rowAt frAt
  have k : a.f1 = 1 ∨ a.f1 = 2 ∨ a.f1 = 3 ∨ a.f1 = 4 := by omega
  by_cases hk : a.f1 ≤ (j : Int) - a.f0
  · rw [if_pos hk, if_pos hk]
    rcases k with k | k | k | k <;> rw [k] at hk hj n1 ⊢ <;> constructor <;> omega
  · rw [if_neg hk, if_neg hk]
    constructor <;> omega
theorem joinI_at {b : Lf} {f q : Nat} {x : Int} (hf : f < b.f3.length) (hq : q < b.f3[f].length) (hx : x / 2 - 1 = (q : Int)) (h0 : 0 < x) : joinI b f x = b.f3[f][q] := by
  unfold joinI
  rw [if_pos h0, getD_at hf, hx, Int.toNat_natCast, getD_at hq]
/-- A row that is being rewritten from its head on. -/
def mix (f : Int → Int) (l : List Int) (i : Nat) : List Int := (l.map f).take i ++ l.drop i
theorem mix_len (f : Int → Int) (l : List Int) (i : Nat) : (mix f l i).length = l.length := by
  unfold mix
  rw [List.length_append, List.length_take, List.length_map, List.length_drop]; omega
theorem mix_at {f : Int → Int} {l : List Int} {i : Nat} (h : i < l.length) (h' : i < (mix f l i).length) : (mix f l i)[i] = l[i] := by
  have h1 : (mix f l i)[i]? = l[i]? := by
    unfold mix
    rw [List.getElem?_append_right (by rw [List.length_take, List.length_map]; omega), List.length_take, List.length_map, List.getElem?_drop, Nat.min_eq_left (by omega)]
    simp
  rw [List.getElem?_eq_getElem h', List.getElem?_eq_getElem h] at h1
  exact Option.some.inj h1
theorem mix_set {f : Int → Int} {l : List Int} {i : Nat} (h : i < l.length) {y : Int} (hy : f l[i] = y) : (mix f l i).set i y = mix f l (i + 1) := by
  unfold mix
  have h1 : ((l.map f).take i).length = i := by rw [List.length_take, List.length_map]; omega
  rw [List.set_append_right _ _ (by omega), h1, Nat.sub_self, drop_at h, List.set_cons_zero, List.take_succ_eq_append_getElem (by rw [List.length_map]; exact h), List.getElem_map, hy, List.append_assoc]
  rfl
theorem mix_skip {f : Int → Int} {l : List Int} {i : Nat} (h : i < l.length) (hy : f l[i] = l[i]) : mix f l (i + 1) = mix f l i := by
  unfold mix
  rw [drop_at h, List.take_succ_eq_append_getElem (by rw [List.length_map]; exact h), List.getElem_map, hy, List.append_assoc]
  rfl
theorem mix_zero (f : Int → Int) (l : List Int) : mix f l 0 = l := rfl
theorem mix_end (f : Int → Int) (l : List Int) : mix f l l.length = l.map f := by
  unfold mix
  rw [List.drop_length, List.append_nil, ← List.length_map (f := f), List.take_length]
theorem joinRow_eq {a b : Lf} {j r f : Nat} (hr : rowAt a j = r) (hf : frAt a j = f) (h : r < a.f3.length) : joinRow a b j = a.f3[r].map (joinI b f) := by
  unfold joinRow
  rw [hr, hf, getD_at h]
theorem rows_snoc (a b : Lf) (j : Nat) : (List.range j).map (joinRow a b) ++ [joinRow a b j] = (List.range (j + 1)).map (joinRow a b) := by
  rw [List.range_succ, List.map_append]; rfl
end Go.Proofs.Ytlhiapggccgggaa.PH
