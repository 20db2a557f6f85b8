/- Rows of rows by their heads; law24.same. -/
import Derived.Test.YtgcdanpihaeioaaHTrueC
import Derived.Test.YtgcdanpihaeioaaHLawWords
namespace Go.Proofs.Ytgcdanpihaeioaa.PH
open Go.RowKit Go.Proofs.YtgcdanpihaeioaaW.PrintWords Go.Proofs.YtgcdanpihaeioaaW.PrintLast
set_option linter.unusedVariables false
set_option linter.unusedSimpArgs false

/-- The head of a row: address, length, capacity. -/
abbrev Head := Option Addr × Nat × Nat
def kHd : Kd Head := Kd.scalar (fun a => Value.slice a.1 a.2.1 a.2.2) (fun _ => rfl)
structure Hd (w : World) (hs : List Head) (l : List (List Int)) : Prop where
  n : hs.length = l.length
  r : ∀ (j : Nat) (x : Head) (y : List Int), hs[j]? = some x → l[j]? = some y → x.2.1 = y.length ∧ RS (Kd.int .i64) w x.1 x.2.2 y
theorem Hd.below {w w1 : World} {hs : List Head} {l : List (List Int)} (h : Hd w hs l) (hb : Below w.heap.size w w1) : Hd w1 hs l :=
  ⟨h.n, fun j x y h1 h2 => ⟨(h.r j x y h1 h2).1, (h.r j x y h1 h2).2.below hb⟩⟩
theorem Hd.drop {w : World} {hs : List Head} {l : List (List Int)} (h : Hd w hs l) (m : Nat) : Hd w (hs.drop m) (l.drop m) :=
  ⟨by simp [h.n], fun j x y h1 h2 => h.r (m + j) x y (by simpa using h1) (by simpa using h2)⟩
theorem Hd.take {w : World} {hs : List Head} {l : List (List Int)} (h : Hd w hs l) (m : Nat) : Hd w (hs.take m) (l.take m) :=
  ⟨by simp [h.n], fun j x y h1 h2 => by
    rw [List.getElem?_take] at h1 h2
    split at h1
    · rename_i hj
      rw [if_pos hj] at h2
      exact h.r j x y h1 h2
    · cases h1⟩
theorem Hd.append {w : World} {hs gs : List Head} {l m : List (List Int)} (h : Hd w hs l) (g : Hd w gs m) : Hd w (hs ++ gs) (l ++ m) :=
  ⟨by simp [h.n, g.n], fun j x y h1 h2 => by
    by_cases hj : j < hs.length
    · rw [List.getElem?_append_left hj] at h1
      rw [List.getElem?_append_left (by rw [← h.n]; exact hj)] at h2
      exact h.r j x y h1 h2
    · rw [List.getElem?_append_right (by omega)] at h1
      rw [List.getElem?_append_right (by rw [← h.n]; omega), ← h.n] at h2
      exact g.r _ x y h1 h2⟩
/-- A row of rows has heads. -/
theorem Hd.of {w : World} {A : Option Addr} {c : Nat} {l : List (List Int)} (h : RS (Kd.slice 3 (Kd.int .i64)) w A c l) : ∃ hs, RS kHd w A c hs ∧ Hd w hs l := by
  obtain ⟨hs, hn, hp⟩ := list_of (P := fun j (x : Head) => ∀ p, l[j]? = some p → x.2.1 = p.length ∧ RS (Kd.int .i64) w x.1 x.2.2 p ∧ ∃ ad, A = some ad ∧ w.cell? (ad.add j) = some (.slice x.1 x.2.1 x.2.2)) l.length (fun i hi => by
    obtain ⟨ad, B, cB, e1, hx, hrow⟩ := at_row h.r i hi
    refine ⟨(B, l[i].length, cB), fun p hpp => ?_⟩
    rw [List.getElem?_eq_getElem hi] at hpp
    cases hpp
    exact ⟨rfl, hrow, ad, e1, hx⟩)
  refine ⟨hs, ⟨⟨rfl, by rw [hn]; exact h.max, fun h0 => ?_⟩, by rw [hn]; exact h.h⟩, ⟨hn, fun j x y h1 h2 => ⟨(hp j x h1 y h2).1, (hp j x h1 y h2).2.1⟩⟩⟩
  have hl0 : 0 < l.length := by omega
  obtain ⟨ad, B, cB, e1, _, _⟩ := at_row h.r 0 hl0
  refine ⟨ad, e1, fun j x hj => ⟨[.slice x.1 x.2.1 x.2.2], rfl, rfl, fun i u hu => ?_⟩⟩
  have hjl : j < l.length := by have := (List.getElem?_eq_some_iff.1 hj).1; omega
  obtain ⟨_, _, ad', e2, hx⟩ := hp j x hj l[j] (List.getElem?_eq_getElem hjl)
  rw [e1] at e2
  cases e2
  cases i with
  | zero =>
    have e : Value.slice x.1 x.2.1 x.2.2 = u := by simpa using hu
    subst e
    show w.cell? (ad.add (j * 1 + 0)) = _
    rw [Nat.mul_one, Nat.add_zero]
    exact hx
  | succ i => simp at hu
/-- Heads that are read are a row of rows. -/
theorem Hd.to {w : World} {A : Option Addr} {c : Nat} {hs : List Head} {l : List (List Int)} (h : RS kHd w A c hs) (g : Hd w hs l) : RS (Kd.slice 3 (Kd.int .i64)) w A c l := by
  have hm := h.max
  refine ⟨⟨rfl, by rw [← g.n]; exact hm, fun h0 => ?_⟩, by rw [← g.n]; exact h.h⟩
  obtain ⟨ad, e, hc⟩ := h.r.2.2 (by rw [g.n]; exact h0)
  refine ⟨ad, e, fun j p hj => ?_⟩
  have hjl : j < hs.length := by rw [g.n]; exact (List.getElem?_eq_some_iff.1 hj).1
  obtain ⟨cs, h1, h2, h3⟩ := hc j hs[j] (List.getElem?_eq_getElem hjl)
  have hg := g.r j hs[j] p (List.getElem?_eq_getElem hjl) hj
  refine ⟨cs, h1, ?_, h3⟩
  have e2 : cs = [.slice hs[j].1 hs[j].2.1 hs[j].2.2] := h2
  rw [e2, hg.1]
  exact ⟨_, _, rfl, hg.2.h, hg.2.r⟩
set_option maxHeartbeats 2000000 in
set_option maxRecDepth 100000 in
theorem law24_same (A : Option Addr) (k : Nat) (p : Pr) (B : Option Addr) (d : Nat) (q : Pr) (D : Option Addr) (c : Nat) (st : List Bool) (w : World) (hp : RS kGate w A k p.f0) (hq : RS kGate w B d q.f0) (hs : RS Kd.bool w D c st) (hc : predCheck st.length p = 0) (hd : predCheck st.length q = 0) (he : predValue p st = predValue q st) :
    Calls Try.prog 37 #[pv A k p, pv B d q, .slice D st.length c] w fun e w' => e = .returned (.bool true) ∧ Below w.heap.size w w' := by
  have I := Aside0.mk (WInv.start w A k p B d q)
  have hu24 := Try.underlying24
  have HP := Aside0.mk hp
  have HQ := Aside0.mk hq
  have HS := Aside0.mk hs
  have FP := Aside0.mk (fits_of_check hc)
  have FQ := Aside0.mk (fits_of_check hd)
  have HVP := Aside0.mk (And.intro hc (value_val hc))
  have HVQ := Aside0.mk (And.intro hd ((value_val hd).trans he.symm))
  clear hp hq hs hc hd
  generalize predValue p st = a at *
  clear he
  obtain ⟨pa, pl⟩ := p
  obtain ⟨qa, ql⟩ := q
  dsimp only [pv] at *
  obtain ⟨r0, r1⟩ := (blk2w I.out.B0).1
  go_enter Try.func37, Try.ntmps37
  go_wp2_with fail
  refine (preds_Value A k ⟨pa, pl⟩ D c st _ (HP.out.below I.out.BW) FP.out (HS.out.below I.out.BW)).mono ?_
  rintro e w1 ⟨rfl, hb⟩
  rw [HVP.out.1, HVP.out.2]
  have I := Aside0.mk (I.out.below hb)
  clear hb r0 r1
  obtain ⟨r0, r1⟩ := (blk2w I.out.B1).1
  go_wp2_with fail
  refine (preds_Value B d ⟨qa, ql⟩ D c st _ (HQ.out.below I.out.BW) FQ.out (HS.out.below I.out.BW)).mono ?_
  rintro e w2 ⟨rfl, hb⟩
  rw [HVQ.out.1, HVQ.out.2]
  have I := Aside0.mk (I.out.below hb)
  clear hb r0 r1
  go_wp2
  go_ret
  exact ⟨ret_bool (by simp), I.out.BW⟩
/-! ### The order of clauses -/
theorem allTrue_swap (st : List Bool) (l : List (List Int)) (m : Nat) : allTrue st (l.drop m ++ l.take m) = allTrue st l := by
  have h : allTrue st l = (allTrue st (l.take m) && allTrue st (l.drop m)) := by
    unfold allTrue
    rw [← List.all_append, List.take_append_drop]
  rw [h]
  unfold allTrue
  rw [List.all_append, Bool.and_comm]
theorem rightC_swap (n : Int) (l : List (List Int)) (m : Nat) (h : rightC n l = true) : rightC n (l.drop m ++ l.take m) = true := by
  have h2 : rightC n l = (rightC n (l.take m) && rightC n (l.drop m)) := by
    unfold rightC
    rw [← List.all_append, List.take_append_drop]
  rw [h2, Bool.and_eq_true] at h
  unfold rightC at h ⊢
  rw [List.all_append, h.1, h.2]
  rfl
theorem two_swap {n : Int} {p q : Pr} (h : twoErr n p q = 0) : twoErr n q p = 0 := by
  have h1 := two_ok h
  unfold twoErr
  rw [if_neg (by rw [h1.2]; simp), h1.1]
end Go.Proofs.Ytgcdanpihaeioaa.PH
