/- The circuit of a cone is its own cone's circuit; the variables of the cone, and their kinds. Plain Lean. -/
import Derived.Test.YtiafojcbllbepaaHAllP
import Derived.Test.YtiafojcbllbepaaHKind
import Derived.Test.YtiafojcbllbepaaHPassW
namespace Go.Proofs.Ytiafojcbllbepaa.PH
open Go.RowKit Go.Proofs.YtiafojcbllbepaaW.PrintWords Go.Proofs.YtiafojcbllbepaaW.PrintLast
set_option linter.unusedVariables false
set_option linter.unusedSimpArgs false

section
variable {n : Nat}
/-- All variables are told, but 0. -/
def allB (n : Nat) : List Bool := false :: List.replicate n true
theorem all_yes {v : Nat} (h0 : 0 < v) (h : v ≤ n) : (allB n).getD v false = true := by
  cases v with
  | zero => omega
  | succ v =>
    unfold allB
    rw [List.getD_cons_succ, List.getD_eq_getElem?_getD, List.getElem?_replicate, if_pos (by omega)]; rfl
theorem all_nb : ∀ v, v ≤ n → nb (allB n) (v + 1) = v
  | 0, _ => by simp [nb, allB]
  | v + 1, h => by rw [nb_yes (all_yes (by omega) h), all_nb v (by omega)]
theorem all_told {v : Nat} (h : v ≤ n) : (toldF (allB n) 0).getD v 0 = 2 * (v : Int) := by
  cases v with
  | zero => simp [allB, toldF]
  | succ v =>
    rw [toldF_yes _ _ _ (all_yes (by omega) h)]
    have h1 := all_nb (n := n) (v + 1) h
    unfold nb at h1
    omega
theorem all_plc {l : Int} (h0 : 0 ≤ l) (h : varOf l ≤ n) : plc (toldF (allB n) 0) l = l := by
  unfold plc
  rw [all_told h]
  unfold varOf
  omega
theorem all_cnt : ∀ k, k ≤ n → cntK (allB n) k = k
  | 0, _ => rfl
  | k + 1, h => by rw [cntK_succ, all_cnt k (by omega), if_pos (all_yes (by omega) h)]
end
theorem fm_all {α : Type} {l : List α} {g : Nat → Option α} (h : ∀ i (hi : i < l.length), g i = some l[i]) : (List.range l.length).filterMap g = l := by
  have key : ∀ k, k ≤ l.length → (List.range k).filterMap g = l.take k := fun k => by
    induction k with
    | zero => intro _; simp
    | succ k ih =>
      intro hk
      rw [List.range_succ, List.filterMap_append, ih (by omega), List.take_succ_eq_append_getElem (show k < l.length by omega), List.filterMap_cons, h k (by omega)]
      rfl
  rw [key _ (Nat.le_refl _), List.take_length]
/-- A circuit all of which is in its cone is its cone's circuit. -/
theorem pass_all {r : Circ} (hc : check r = 0) (hb : coneB r = allB (sizeC r)) : passR r = (⟨r, idOf r⟩, 0) := by
  have hi := inside_of hc
  have hs : sizeC r = r.f0.toNat + r.f1.length + r.f2.length := rfl
  have h0 := hi.h0
  unfold passR
  rw [if_pos hc, hb]
  have e1 : latK r (allB (sizeC r)) (toldF (allB (sizeC r)) 0) r.f1.length = r.f1 := fm_all (fun i hi_ => by
    unfold latI
    rw [if_pos (all_yes (by omega) (by omega)), List.getElem?_eq_getElem hi_, Option.map_some]
    have hl := hi.hl (r.f0.toNat + 1 + i) r.f1[i].f0 (by rw [lat_reads hi_]; exact List.mem_singleton_self _)
    rw [all_plc hl.1 hl.2])
  have e2 : andK r (allB (sizeC r)) (toldF (allB (sizeC r)) 0) r.f2.length = r.f2 := fm_all (fun i hi_ => by
    unfold andI
    rw [if_pos (all_yes (by omega) (by omega)), List.getElem?_eq_getElem hi_, Option.map_some]
    have hg0 := hi.hg (r.f0.toNat + r.f1.length + 1 + i) r.f2[i].f0 (by rw [gate_reads hi_]; simp)
    have hg1 := hi.hg (r.f0.toNat + r.f1.length + 1 + i) r.f2[i].f1 (by rw [gate_reads hi_]; simp)
    rw [all_plc hg0.1 (by omega), all_plc hg1.1 (by omega)])
  have e3 : r.f3.map (plc (toldF (allB (sizeC r)) 0)) = r.f3 := (List.map_congr_left (fun l hl => by
    have h1 := hi.hp l (List.mem_append_left _ hl)
    exact all_plc h1.1 h1.2)).trans (List.map_id _)
  have e4 : r.f4.map (plc (toldF (allB (sizeC r)) 0)) = r.f4 := (List.map_congr_left (fun l hl => by
    have h1 := hi.hp l (List.mem_append_right _ hl)
    exact all_plc h1.1 h1.2)).trans (List.map_id _)
  have e0 : ((cntK (allB (sizeC r)) r.f0.toNat : Nat) : Int) = r.f0 := by rw [all_cnt _ (by omega)]; omega
  have f1 : firK r (allB (sizeC r)) (toldF (allB (sizeC r)) 0) r.f1.length = lasOf r.f0 r.f1.length := by
    unfold firK lasOf
    refine List.map_congr_left (fun i hi_ => ?_)
    rw [List.mem_range] at hi_
    unfold firI
    rw [if_pos (all_yes (by omega) (by omega)), all_told (by omega)]
    omega
  have f2 : insK (toldF (allB (sizeC r)) 0) r.f0.toNat = insOf r.f0.toNat := by
    unfold insK insOf
    refine List.map_congr_left (fun i hi_ => ?_)
    rw [List.mem_range] at hi_
    rw [all_told (by omega)]
    omega
  have f3 : lasK r (allB (sizeC r)) r.f1.length = lasOf r.f0 r.f1.length := by
    have h1 := fm_all (l := lasOf r.f0 r.f1.length) (g := lasI r (allB (sizeC r))) (fun i hi_ => by
      rw [lasOf_len] at hi_
      unfold lasI
      rw [if_pos (all_yes (by omega) (by omega))]
      simp [lasOf])
    rw [lasOf_len] at h1
    exact h1
  unfold passC passL
  rw [e0, e1, e2, e3, e4, f1, f2, f3]
  rfl
theorem new_pass {c : Circ} (hc : check c = 0) : passR (coneC c) = (⟨coneC c, idOf (coneC c)⟩, 0) := pass_all (new_check hc) (new_cone hc)
theorem ones_all : ∀ (n : Nat) (i : Int), onesFrom (List.replicate n true) i = (List.range n).map (fun (k : Nat) => i + (k : Int))
  | 0, _ => rfl
  | n + 1, i => by
    rw [List.replicate_succ, onesFrom, if_pos rfl, ones_all n (i + 1), List.range_succ_eq_map, List.map_cons, List.map_map]
    congr 1
    · simp
    · refine List.map_congr_left (fun k _ => ?_)
      simp only [Function.comp]
      push_cast
      omega
theorem new_vars {c : Circ} (hc : check c = 0) : coneV (coneC c) = (List.range (sizeC (coneC c))).map (fun (k : Nat) => (k : Int) + 1) := by
  unfold coneV
  rw [new_cone hc]
  show onesFrom (List.replicate _ true) (0 + 1) = _
  rw [ones_all]
  exact List.map_congr_left (fun k _ => by omega)
theorem vars_len {c : Circ} (hc : check c = 0) : (coneV c).length = sizeC (coneC c) := by
  have hi := inside_of hc
  have hlen : (coneB c).length = sizeC c + 1 := (cone_tells hi).1
  unfold coneV
  rw [ones_len, new_size hi, ← hlen, nb_all]
/-- The variables of the cone, in order. -/
theorem var_at {c : Circ} (hc : check c = 0) {k : Nat} (hk : k < (coneV c).length) : ∃ u : Nat, (coneV c)[k] = (u : Int) ∧ Reach c u ∧ newV c u = k + 1 := by
  have hi := inside_of hc
  obtain ⟨h1, h2, h3⟩ := ones_told (coneB c) 0 0 k hk
  have hr := (cone_is hi).1 h2
  refine ⟨((coneV c)[k] - 0).toNat, ?_, hr, ?_⟩
  · have h4 : (0 : Int) ≤ (coneV c)[k] := h1
    omega
  · rw [toldF_yes _ _ _ h2] at h3
    show nb (coneB c) _ = _
    unfold nb
    have e : ((coneV c)[k] - 0).toNat = ((onesFrom (coneB c) 0)[k] - 0).toNat := rfl
    rw [e]
    omega
theorem newV_mono {c : Circ} {u v : Nat} (h : u ≤ v) : newV c u ≤ newV c v := nb_mono (by omega)
theorem nb_sub {is : List Bool} {u : Nat} : ∀ k, nb is (u + k) ≤ nb is u + k
  | 0 => Nat.le_refl _
  | k + 1 => by have h := nb_sub (is := is) (u := u) k; rw [show u + (k + 1) = (u + k) + 1 by omega, nb_succ]; split <;> omega
/-- A variable has the same kind in the cone's circuit, and no greater index. -/
theorem kind_new {c : Circ} (hc : check c = 0) {u : Nat} (hu : Reach c u) : (kindV c (u : Int)).1 = (kindV (coneC c) (newV c u : Int)).1 ∧ (kindV (coneC c) (newV c u : Int)).2 ≤ (kindV c (u : Int)).2 := by
  have hi := inside_of hc
  have h0 := new_f0 hi
  have h1 := new_f1 hi
  have h2 := new_f2 hi
  have hp := hu.pos
  have hn := newV_in hi hu
  have hf := hi.h0
  rw [show c.f0.toNat + 1 + c.f1.length = c.f0.toNat + c.f1.length + 1 by omega] at h1
  rw [kindV_eq, kindV_eq]
  by_cases g3 : 1 + c.f0 + c.f1.length ≤ (u : Int)
  · rw [if_pos g3]
    have m1 := nb_mono (is := coneB c) (show c.f0.toNat + c.f1.length + 1 ≤ u by omega)
    have m2 := nb_sub (is := coneB c) (u := c.f0.toNat + c.f1.length + 1) (u - (c.f0.toNat + c.f1.length + 1))
    rw [show c.f0.toNat + c.f1.length + 1 + (u - (c.f0.toNat + c.f1.length + 1)) = u by omega] at m2
    rw [if_pos (by omega)]
    exact ⟨rfl, by omega⟩
  · rw [if_neg g3]
    have m3 := nb_mono (is := coneB c) (show u + 1 ≤ c.f0.toNat + c.f1.length + 1 by omega)
    have hnv : newV c u = nb (coneB c) (u + 1) := rfl
    rw [if_neg (show ¬ 1 + (coneC c).f0 + (coneC c).f1.length ≤ (newV c u : Int) by omega)]
    by_cases g2 : 1 + c.f0 ≤ (u : Int)
    · rw [if_pos g2]
      have m1 := nb_mono (is := coneB c) (show c.f0.toNat + 1 ≤ u by omega)
      have m2 := nb_sub (is := coneB c) (u := c.f0.toNat + 1) (u - (c.f0.toNat + 1))
      rw [show c.f0.toNat + 1 + (u - (c.f0.toNat + 1)) = u by omega] at m2
      rw [if_pos (by omega)]
      exact ⟨rfl, by omega⟩
    · rw [if_neg g2, if_pos (by omega)]
      have m1 := nb_mono (is := coneB c) (show u + 1 ≤ c.f0.toNat + 1 by omega)
      have m2 := nb_sub (is := coneB c) (u := 1) u
      have m4 := nb_one hi
      rw [show 1 + u = u + 1 by omega] at m2
      rw [if_neg (by omega), if_pos (by omega)]
      exact ⟨rfl, by omega⟩
/-- The row of those that are in the cone. -/
def setAll (l : List Int) (b : List Bool) : List Bool := l.foldl (fun b v => b.set v.toNat true) b
theorem setAll_len : ∀ (l : List Int) (b : List Bool), (setAll l b).length = b.length
  | [], _ => rfl
  | x :: l, b => by
    show (setAll l (b.set x.toNat true)).length = _
    rw [setAll_len l, List.length_set]
theorem setAll_snoc (l : List Int) (x : Int) (b : List Bool) : setAll (l ++ [x]) b = (setAll l b).set x.toNat true := by
  unfold setAll; rw [List.foldl_append]; rfl
theorem setAll_keep : ∀ (l : List Int) (b : List Bool) (v : Nat), b.getD v false = true → (setAll l b).getD v false = true
  | [], _, _, h => h
  | x :: l, b, v, h => setAll_keep l _ v (by
    rw [List.getD_eq_getElem?_getD, List.getElem?_set]
    split
    · rename_i e
      subst e
      split
      · rfl
      · rename_i hlt
        rw [List.getD_eq_getElem?_getD, List.getElem?_eq_none (by omega)] at h
        cases h
    · rw [List.getD_eq_getElem?_getD] at h; exact h)
theorem setAll_in : ∀ (l : List Int) (b : List Bool) (v : Nat), v < b.length → (v : Int) ∈ l → (setAll l b).getD v false = true
  | [], _, _, _, h => by simp at h
  | x :: l, b, v, hv, h => by
    by_cases e : x = (v : Int)
    · subst e
      refine setAll_keep l _ v ?_
      rw [List.getD_eq_getElem?_getD, List.getElem?_set, if_pos (by omega), if_pos (by simpa using hv)]
      rfl
    · exact setAll_in l _ v (by rw [List.length_set]; exact hv) (by rcases List.mem_cons.1 h with h_ | h_; exact absurd h_.symm e; exact h_)
theorem reach_set {c : Circ} (hc : check c = 0) {v : Nat} (h : Reach c v) : (setAll (coneV c) (List.replicate 1002 false)).getD v false = true := by
  have hi := inside_of hc
  have hg := gCheck_ok hc
  have hl := h.le hi
  refine setAll_in _ _ v (by rw [List.length_replicate]; unfold sizeC at hl; omega) ?_
  have h1 := ones_mem (coneB c) 0 v ((cone_is hi).2 h)
  rw [Int.zero_add] at h1
  exact h1
end Go.Proofs.Ytiafojcbllbepaa.PH
