/- The identity, in plain Lean: a lift composed with it stays; a run lifted by it stays. -/
import Derived.Test.YtlhiapggccgggaaHOneP
namespace Go.Proofs.Ytlhiapggccgggaa.PH
open Go.RowKit Go.Proofs.YtlhiapggccgggaaW.PrintWords Go.Proofs.YtlhiapggccgggaaW.PrintLast
set_option linter.unusedVariables false
set_option linter.unusedSimpArgs false

theorem id_ok {c : Circ} (hc : check c = 0) : LOk c c (idOf c) := by
  have hg := gCheck_ok hc
  refine ⟨Int.le_refl 0, show (0 : Int) ≤ 100 by decide, Int.le_refl 1, show (1 : Int) ≤ 4 by decide, lasOf_len _ _, lasOf_len _ _, ?_, fun x hx => ?_, fun r hr => ?_, fun x hx => ?_, ?_⟩
  · show ((1 : Nat) : Int) = 0 + 1; rfl
  · obtain ⟨i, hi, rfl⟩ := List.mem_map.1 (show x ∈ (List.range c.f1.length).map _ from hx)
    rw [List.mem_range] at hi
    exact .inr (.inr ⟨by omega, by omega⟩)
  · have e : r = insOf c.f0.toNat := by simpa [idOf] using hr
    subst e
    refine ⟨by rw [insOf_len]; omega, fun x hx => ?_⟩
    obtain ⟨i, hi, rfl⟩ := List.mem_map.1 (show x ∈ (List.range c.f0.toNat).map _ from hx)
    rw [List.mem_range] at hi
    refine ⟨by omega, by omega, by omega⟩
  · obtain ⟨i, hi, rfl⟩ := List.mem_map.1 (show x ∈ (List.range c.f1.length).map _ from hx)
    rw [List.mem_range] at hi
    exact .inr ⟨by omega, by omega⟩
  · show predCheck _ (⟨[], 1⟩ : Pr) = 0
    unfold predCheck
    rw [if_neg (by omega), if_neg (by omega), if_neg (by simp; omega), if_pos (by rfl), if_neg (by decide), if_neg (by simp <;> omega)]
theorem las_get {n : Int} {k i : Nat} (hi : i < k) : (lasOf n k).getD i 0 = 2 * (n + 1 + (i : Int)) := by
  rw [getD_at (by rw [lasOf_len]; exact hi)]
  simp [lasOf]
theorem self_joined {fr tc : Circ} {l : Lf} (hc : check fr = 0) (hl : LOk fr tc l) :
    sk (idOf fr) l = l.f0 ∧ ph (idOf fr) l = l.f1 ∧ (⟨(joined fr fr (idOf fr) l).f0, (joined fr fr (idOf fr) l).f1, (joined fr fr (idOf fr) l).f2, (joined fr fr (idOf fr) l).f3, (joined fr fr (idOf fr) l).f4, l.f5⟩ : Lf) = l := by
  have hg := gCheck_ok hc
  have hsk : sk (idOf fr) l = l.f0 := by unfold sk; show 0 + 1 * l.f0 = l.f0; omega
  have hph : ph (idOf fr) l = l.f1 := by unfold ph; show 1 * l.f1 = l.f1; omega
  refine ⟨hsk, hph, ?_⟩
  have e2 : (lasOf fr.f0 fr.f1.length).map (joinF fr l) = l.f2 := by
    refine List.ext_getElem (by rw [List.length_map, lasOf_len, hl.n2]) (fun i h1 h2 => ?_)
    rw [List.length_map, lasOf_len] at h1
    rw [List.getElem_map]
    have e : (lasOf fr.f0 fr.f1.length)[i]'(by rw [lasOf_len]; exact h1) = 2 * (fr.f0 + 1 + (i : Int)) := by simp [lasOf]
    rw [e]
    unfold joinF byL
    rw [if_pos (by omega), if_neg (by omega), show (2 * (fr.f0 + 1 + (i : Int)) / 2 - fr.f0 - 1).toNat = i by omega, getD_at h2]
  have e3 : (List.range (sk (idOf fr) l + ph (idOf fr) l).toNat).map (joinRow (idOf fr) l) = l.f3 := by
    rw [hsk, hph]
    have hn := hl.n3
    refine List.ext_getElem (by rw [List.length_map, List.length_range]; omega) (fun j h1 h2 => ?_)
    rw [List.getElem_map, List.getElem_range]
    have hr := hl.m3 _ (List.getElem_mem h2)
    have hrow : rowAt (idOf fr) j = 0 := by
      unfold rowAt
      show (if (1 : Int) ≤ (j : Int) - 0 then ((0 : Int) + ((j : Int) - 0) % 1).toNat else j) = 0
      split
      · omega
      · omega
    have hfr : frAt (idOf fr) j = j := by
      unfold frAt
      show (if (1 : Int) ≤ (j : Int) - 0 then (((j : Int) - 0) / 1).toNat else 0) = j
      split
      · omega
      · omega
    rw [joinRow_eq hrow hfr (by show 0 < 1; decide)]
    show (insOf fr.f0.toNat).map (joinI l j) = _
    refine List.ext_getElem (by rw [List.length_map, insOf_len]; omega) (fun i h3 h4 => ?_)
    rw [List.length_map, insOf_len] at h3
    rw [List.getElem_map]
    have e : (insOf fr.f0.toNat)[i]'(by rw [insOf_len]; exact h3) = 2 * ((i : Int) + 1) := by simp [insOf]
    rw [e, joinI_at (q := i) h2 h4 (by omega) (by omega)]
  have e4 : l.f4.map (joinL fr (idOf fr)) = l.f4 := by
    refine (List.map_congr_left (fun x hx => ?_)).trans (List.map_id _)
    show joinL fr (idOf fr) x = x
    unfold joinL
    rcases hl.m4 x hx with rfl | h
    · rfl
    · have hq : (x / 2 - fr.f0 - 1).toNat < fr.f1.length := by omega
      rw [if_pos (by omega), show (idOf fr).f4 = lasOf fr.f0 fr.f1.length from rfl, las_get hq, if_pos (by omega)]
      unfold byL litNot
      split
      · rw [if_pos (by omega)]; omega
      · omega
  show (⟨sk (idOf fr) l, ph (idOf fr) l, (lasOf fr.f0 fr.f1.length).map (joinF fr l), (List.range (sk (idOf fr) l + ph (idOf fr) l).toNat).map (joinRow (idOf fr) l), l.f4.map (joinL fr (idOf fr)), l.f5⟩ : Lf) = l
  rw [hsk, hph] at *
  rw [e2, e3, e4]
theorem stV_id {fr : Circ} {st : List Bool} (h0 : 0 ≤ fr.f0) (hs : st.length = fr.f1.length) : (idOf fr).f4.map (stV fr st) = st := by
  show (lasOf fr.f0 fr.f1.length).map _ = _
  refine List.ext_getElem (by rw [List.length_map, lasOf_len, hs]) (fun i h1 h2 => ?_)
  rw [List.length_map, lasOf_len] at h1
  rw [List.getElem_map]
  have e : (lasOf fr.f0 fr.f1.length)[i]'(by rw [lasOf_len]; exact h1) = 2 * (fr.f0 + 1 + (i : Int)) := by simp [lasOf]
  rw [e]
  unfold stV
  rw [decide_eq_true (by omega), show (2 * (fr.f0 + 1 + (i : Int)) / 2 - fr.f0 - 1).toNat = i by omega, getD_at h2, decide_eq_false (by omega)]
  cases st[i] <;> rfl
theorem true_val (st : List Bool) : predValue ⟨[], 1⟩ st = true := by
  unfold predValue truthFrom litV
  simp
/-- What composing with the identity says. -/
theorem self_law {fr tc : Circ} {l y : Lf} {f : Int} (hc : check fr = 0) (hl : LOk fr tc l) (hsz : (fr.f1.length : Int) + l.f5.f0.length ≤ 1000) (h : composeC fr fr tc (idOf fr) l = (y, f)) (hf : f = 0) :
    (⟨y.f0, y.f1, y.f2, y.f3, y.f4, l.f5⟩ : Lf) = l ∧ predCheck fr.f1.length y.f5 = 0 ∧ ∀ st : List Bool, st.length = fr.f1.length → predValue y.f5 st = predValue l.f5 st := by
  have hg := gCheck_ok hc
  subst hf
  obtain ⟨c1, c2, c3, ha, hb, h1, h2, h3, h4⟩ := composeC_ok (by rw [h])
  rw [h] at h4
  dsimp only at h4
  subst h4
  refine ⟨(self_joined hc hl).2.2, (andP_val (st := List.replicate fr.f1.length false) h3 (by simp)).1, fun st hs => ?_⟩
  have hv := (andP_val (st := st) h3 (by omega)).2
  have hlas := lasOk_of ha (by omega) (by omega) (by omega)
  have ht := (transP_val hlas (p := l.f5) (by rw [ha.n4]; exact hl.k) hs hsz).2
  rw [stV_id (by omega) hs] at ht
  show predValue (factOf fr (idOf fr) l).1 st = _
  unfold factOf
  rw [hv, ht]
  show (predValue ⟨[], 1⟩ st && _) = _
  rw [true_val, Bool.true_and]
theorem id_row {ins : List Bool} {n : Nat} (h : ins.length = n) : liftRow (insOf n) ins = ins := by
  unfold liftRow
  refine List.ext_getElem (by rw [List.length_map, insOf_len, h]) (fun i h1 h2 => ?_)
  rw [List.length_map, insOf_len] at h1
  rw [List.getElem_map]
  have e : (insOf n)[i]'(by rw [insOf_len]; exact h1) = 2 * ((i : Int) + 1) := by simp [insOf]
  rw [e]
  unfold liftB
  rw [decide_eq_true (by omega), Bool.true_and, show (2 * ((i : Int) + 1) / 2 - 1).toNat = i by omega, getD_at h2]
theorem id_all {c : Circ} (h0 : 0 ≤ c.f0) : ∀ (I : List (List Bool)) (n : Nat), (∀ r ∈ I, (r.length : Int) = c.f0) → liftAll (idOf c) n I = I
  | [], n, _ => rfl
  | i :: I, n, h => by
    have h1 := h i List.mem_cons_self
    rw [liftAll, id_all h0 I (n + 1) (fun r hr => h r (List.mem_cons_of_mem _ hr))]
    have e : liftIn (idOf c) n i = [i] := by
      unfold liftIn rowsOf
      have e2 : (if n = 0 then (idOf c).f3 else (idOf c).f3.drop (idOf c).f0.toNat) = [insOf c.f0.toNat] := by split <;> rfl
      rw [e2]
      show [liftRow (insOf c.f0.toNat) i] = [i]
      rw [id_row (by omega)]
    rw [e]; rfl
theorem id_run {c : Circ} {t : Run} (h0 : 0 ≤ c.f0) (h1 : t.f0.length = c.f1.length) (h2 : ∀ r ∈ t.f1, (r.length : Int) = c.f0) : liftRun c (idOf c) t = t := by
  have e : (lasOf c.f0 c.f1.length).map (liftV c t.f0) = t.f0 := by
    refine List.ext_getElem (by rw [List.length_map, lasOf_len, h1]) (fun i h3 h4 => ?_)
    rw [List.length_map, lasOf_len] at h3
    rw [List.getElem_map]
    have e : (lasOf c.f0 c.f1.length)[i]'(by rw [lasOf_len]; exact h3) = 2 * (c.f0 + 1 + (i : Int)) := by simp [lasOf]
    rw [e, liftV_lat (by omega)]
    unfold bit
    rw [show (2 * (c.f0 + 1 + (i : Int)) / 2 - c.f0 - 1).toNat = i by omega, getD_at h4, decide_eq_false (by omega)]
    cases t.f0[i] <;> rfl
  unfold liftRun
  rw [show (idOf c).f2 = lasOf c.f0 c.f1.length from rfl, e, id_all h0 t.f1 0 h2]
theorem cutLen_le (c : Circ) (F : List Bool) (I : List (List Bool)) : cutLen c F I ≤ I.length := by
  have h := (stopAt_le fine (frames c F I) 0).2
  rw [frames_len] at h
  unfold cutLen; omega
theorem cutLen_pos (c : Circ) (F : List Bool) (I : List (List Bool)) (h : 0 < I.length) : 1 ≤ cutLen c F I := by
  cases I with
  | nil => simp at h
  | cons i I =>
    unfold cutLen
    rw [frames, stopAt]
    split
    · exact (stopAt_le fine _ 1).1
    · omega
theorem id_trace {c : Circ} {t : Run} (hc : check c = 0) (hf : runFits c t = true) (hn : t.f1.length ≤ 100) : traceC c c (idOf c) t = (⟨t.f0, t.f1.take (cutLen c t.f0 t.f1)⟩, 0) := by
  have hg := gCheck_ok hc
  obtain ⟨h1, h2, h3⟩ := runFits_ok hf
  rw [traceC_of (liftErr_of hc hc (id_ok hc)) hf (by show ¬ (100 < t.f1.length ∨ 100 < (0 : Int) + 1 * t.f1.length); omega), id_run (by omega) h1 h3]
  rfl
end Go.Proofs.Ytlhiapggccgggaa.PH
