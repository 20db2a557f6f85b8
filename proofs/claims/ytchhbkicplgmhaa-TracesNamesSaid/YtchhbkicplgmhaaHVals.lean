/- The values of variables, in plain Lean; a literal's parts. (For seats without preds: the same words as in Value, Sem, Lits, Put1.) -/
import Derived.Test.YtchhbkicplgmhaaHFive
import Derived.Test.YtchhbkicplgmhaaHRef02
import Derived.Test.YtchhbkicplgmhaaHOpen
import Derived.Deep.RegionHeld3
import Derived.Deep.QuietTactic
import Derived.BigQuiet
namespace Go.Proofs.Ytchhbkicplgmhaa.PH
open Go.RowKit Go.Proofs.YtchhbkicplgmhaaW.PrintWords Go.Proofs.YtchhbkicplgmhaaW.PrintLast
set_option linter.unusedVariables false
set_option linter.unusedSimpArgs false

/-- A literal of at most 1000 variables. -/
def IsLit (l : Int) : Prop := 0 ≤ l ∧ l ≤ 2001
theorem and_nat : ∀ n : Nat, n < 2002 → bits .and .i64 (n : Int) 1 = (n : Int) % 2 := by decide +kernel
theorem and_one {l : Int} (h : IsLit l) : bits .and .i64 l 1 = l % 2 := by
  obtain ⟨n, rfl⟩ := Int.eq_ofNat_of_zero_le h.1
  exact and_nat n (by have := h.2; omega)
/-- The value of a literal among those of variables. -/
def litV (v : List Bool) (l : Int) : Bool := v.getD (l / 2).toNat false != (l % 2 == 1)
/-- The values behind some gates. -/
def truthFrom : List Gate → List Bool → List Bool
  | [], v => v
  | g :: gs, v => truthFrom gs (v ++ [litV v g.f0 && litV v g.f1])
theorem R_false (W : World) (base t : Nat) (hb : base ≤ W.heap.size) : Kd.R Kd.bool t (W.alloc (.cells #[.bool false] t)) base (fun _ => True) (.slice (some ⟨W.heap.size, 0, none⟩) 1 1) [false] :=
  ⟨fun _ _ => trivial, [.bool false], (by have h := World.ownsRow_lit (base := base) (e := t) (size := 1) W #[.bool false] 1 hb (by decide) rfl; simpa using h : (W.alloc (.cells #[.bool false] t)).ownsRow base t 1 (.slice (some ⟨W.heap.size, 0, none⟩) 1 1) 1 [.bool false]), Kd.reps_scalar (enc := Value.bool) [false]⟩
theorem litV_app (v t : List Bool) {l : Int} (h : 0 ≤ l) (hl : l / 2 < v.length) : litV (v ++ t) l = litV v l := by
  unfold litV
  rw [List.getD_eq_getElem?_getD, List.getD_eq_getElem?_getD, List.getElem?_append_left (by omega)]
theorem truthFrom_pre : ∀ (gs : List Gate) (v : List Bool), ∃ t, truthFrom gs v = v ++ t ∧ t.length = gs.length
  | [], v => ⟨[], by simp [truthFrom], rfl⟩
  | g :: gs, v => by
    obtain ⟨t, h1, h2⟩ := truthFrom_pre gs (v ++ [litV v g.f0 && litV v g.f1])
    exact ⟨(litV v g.f0 && litV v g.f1) :: t, by rw [truthFrom, h1]; simp, by simp [h2]⟩
theorem truthFrom_len (gs : List Gate) (v : List Bool) : (truthFrom gs v).length = v.length + gs.length := by
  obtain ⟨t, h1, h2⟩ := truthFrom_pre gs v
  rw [h1, List.length_append, h2]
theorem truthFrom_snoc : ∀ (gs : List Gate) (g : Gate) (v : List Bool), truthFrom (gs ++ [g]) v = truthFrom gs v ++ [litV (truthFrom gs v) g.f0 && litV (truthFrom gs v) g.f1]
  | [], g, v => by simp [truthFrom]
  | x :: xs, g, v => by simp only [List.cons_append, truthFrom]; exact truthFrom_snoc xs g _
theorem truthFrom_lit (gs : List Gate) (v : List Bool) {l : Int} (h : 0 ≤ l) (hl : l / 2 < v.length) : litV (truthFrom gs v) l = litV v l := by
  obtain ⟨t, h1, _⟩ := truthFrom_pre gs v
  rw [h1]
  exact litV_app v t h hl
/-- The gates are right, behind so many variables. -/
def Okg (s : Int) (ands : List Gate) : Prop := ∀ k (hk : k < ands.length), 0 ≤ ands[k].f1 ∧ ands[k].f1 ≤ ands[k].f0 ∧ ands[k].f0 < 2 * (s + k)
theorem okg_of : ∀ {s : Int} {gs : List Gate} {i : Int}, gAnds s gs i = true → Okg (s + i) gs
  | s, [], i, _ => fun k hk => by simp at hk
  | s, g :: gs, i, h => by
    unfold gAnds at h
    split at h
    · cases h
    split at h
    · cases h
    split at h
    · cases h
    · intro k hk
      cases k with
      | zero => exact ⟨by simp; omega, by simp; omega, by simp; omega⟩
      | succ k =>
        have := okg_of h k (by simpa using hk)
        simp only [List.getElem_cons_succ]
        refine ⟨this.1, this.2.1, ?_⟩
        have h3 := this.2.2
        push_cast
        omega
theorem truthFrom_more (a t : List Gate) (v : List Bool) : ∃ s, truthFrom (a ++ t) v = truthFrom a v ++ s := by
  have h : ∀ (a : List Gate) (v : List Bool), truthFrom (a ++ t) v = truthFrom t (truthFrom a v) := by
    intro a
    induction a with
    | nil => intro v; rfl
    | cons g gs ih => intro v; simp only [List.cons_append, truthFrom]; exact ih _
  obtain ⟨s, h1, _⟩ := truthFrom_pre t (truthFrom a v)
  exact ⟨s, (h a v).trans h1⟩
theorem gAnds_at {s : Int} : ∀ {gs : List Gate} {i : Int} (k : Nat) (hk : k < gs.length), gAnds s gs i = true → 0 ≤ gs[k].f1 ∧ gs[k].f1 ≤ gs[k].f0 ∧ gs[k].f0 < 2 * (s + (i + k))
  | g :: gs, i, 0, hk, h => by
    unfold gAnds at h
    split at h
    · cases h
    split at h
    · cases h
    split at h
    · cases h
    exact ⟨by simp; omega, by simp; omega, by simp; omega⟩
  | g :: gs, i, k + 1, hk, h => by
    unfold gAnds at h
    split at h
    · cases h
    split at h
    · cases h
    split at h
    · cases h
    have := gAnds_at (i := i + 1) k (by simpa using hk) h
    simp only [List.getElem_cons_succ]
    refine ⟨this.1, this.2.1, ?_⟩
    have h3 := this.2.2
    push_cast
    omega
theorem infoBool : (Try.prog.info? 4).map (fun i => (i.zero, i.size, i.bytes)) = some (some (.bool false), 1, 1) := by kernel_rfl
end Go.Proofs.Ytchhbkicplgmhaa.PH
