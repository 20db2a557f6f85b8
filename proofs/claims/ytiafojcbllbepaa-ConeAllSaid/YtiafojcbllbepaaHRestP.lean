/- What is not in the cone may be anything, in plain Lean. -/
import Derived.Test.YtiafojcbllbepaaHPassP
namespace Go.Proofs.Ytiafojcbllbepaa.PH
open Go.RowKit Go.Proofs.YtiafojcbllbepaaW.PrintWords Go.Proofs.YtiafojcbllbepaaW.PrintLast
set_option linter.unusedVariables false
set_option linter.unusedSimpArgs false

theorem I64.of_wf {k : Int} (h : (Lit.int .i64 k).wf = true) : I64 k := by
  simp only [Lit.wf, Bool.and_eq_true, decide_eq_true_eq] at h
  exact h
/-- Another latch at an index. -/
def putLat (c : Circ) (m : Nat) (y : Latch) : Circ := ⟨c.f0, c.f1.set m y, c.f2, c.f3, c.f4⟩
theorem put_gates (c : Circ) (m : Nat) (y : Latch) (v : Nat) : gateReads (putLat c m y) v = gateReads c v := by
  unfold gateReads putLat
  simp only [List.length_set]
theorem put_lats (c : Circ) (m : Nat) (y : Latch) {v : Nat} (hv : v ≠ c.f0.toNat + 1 + m) : latReads (putLat c m y) v = latReads c v := by
  unfold latReads putLat
  dsimp only
  split
  · rename_i h
    rw [List.getElem?_set, if_neg (by omega)]
  · rfl
theorem put_size (c : Circ) (m : Nat) (y : Latch) : sizeC (putLat c m y) = sizeC c := by unfold sizeC putLat; simp only [List.length_set]
theorem put_reach {c : Circ} {m : Nat} {y : Latch} (hno : ¬ Reach c (c.f0.toNat + 1 + m)) (v : Nat) : Reach (putLat c m y) v ↔ Reach c v := by
  constructor
  · intro h
    induction h with
    | root hl hp => exact .root hl hp
    | @step u l hu hl hp ih =>
      have hne : u ≠ c.f0.toNat + 1 + m := fun e => hno (e ▸ ih)
      rw [put_gates, put_lats c m y hne] at hl
      exact ih.step hl hp
  · intro h
    induction h with
    | root hl hp => exact .root (c := putLat c m y) hl hp
    | @step u l hu hl hp ih =>
      have hne : u ≠ c.f0.toNat + 1 + m := fun e => hno (e ▸ hu)
      exact ih.step (by rw [put_gates, put_lats c m y hne]; exact hl) hp
theorem put_cone {c : Circ} {m : Nat} {y : Latch} (hno : ¬ Reach c (c.f0.toNat + 1 + m)) : coneB (putLat c m y) = coneB c := by
  unfold coneB
  rw [put_size]
  apply List.map_congr_left
  intro v _
  exact decide_eq_decide.2 (put_reach hno v)
theorem fm_congr {α β : Type} {f g : α → Option β} : ∀ (l : List α), (∀ x ∈ l, f x = g x) → l.filterMap f = l.filterMap g
  | [], _ => rfl
  | x :: l, h => by
    rw [List.filterMap_cons, List.filterMap_cons, h x List.mem_cons_self, fm_congr l (fun y hy => h y (List.mem_cons_of_mem _ hy))]
theorem put_pass {c : Circ} (hi : Inside c) {m : Nat} {y : Latch} (hno : ¬ Reach c (c.f0.toNat + 1 + m)) (t : List Int) : passC (putLat c m y) (coneB c) t = passC c (coneB c) t := by
  have hb : (coneB c).getD (c.f0.toNat + 1 + m) false = false := by
    cases hb : (coneB c).getD (c.f0.toNat + 1 + m) false with
    | false => rfl
    | true => exact absurd (((cone_tells hi).2 _).1 hb) hno
  have hl : latK (putLat c m y) (coneB c) t (putLat c m y).f1.length = latK c (coneB c) t c.f1.length := by
    unfold latK
    rw [show (putLat c m y).f1.length = c.f1.length by unfold putLat; simp]
    apply fm_congr
    intro i _
    unfold latI
    by_cases he : i = m
    · subst he
      show (if (coneB c).getD (c.f0.toNat + 1 + i) false = true then _ else _) = _
      rw [hb]; rfl
    · show (if (coneB c).getD (c.f0.toNat + 1 + i) false = true then ((c.f1.set m y)[i]?).map _ else _) = _
      rw [List.getElem?_set, if_neg (Ne.symm he)]
  have ha : andK (putLat c m y) (coneB c) t (putLat c m y).f2.length = andK c (coneB c) t c.f2.length := by
    unfold andK
    apply fm_congr
    intro i _
    unfold andI putLat
    simp only [List.length_set]
  unfold passC
  rw [hl, ha]
  rfl
/-- A variable that is not told is not reached. -/
theorem no_reach {c : Circ} (hi : Inside c) {v : Nat} (h : (v : Int) ∉ coneV c) : ¬ Reach c v := fun hr => h (by
  have h1 := ones_mem (coneB c) 0 v (((cone_tells hi).2 v).2 hr)
  rw [Int.zero_add] at h1
  exact h1)
end Go.Proofs.Ytiafojcbllbepaa.PH
