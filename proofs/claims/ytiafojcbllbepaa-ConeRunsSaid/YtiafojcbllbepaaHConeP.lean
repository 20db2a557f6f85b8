/- The cone of a circuit, in plain Lean. -/
import Derived.Test.YtiafojcbllbepaaHRef02
namespace Go.Proofs.Ytiafojcbllbepaa.PH
open Go.RowKit Go.Proofs.YtiafojcbllbepaaW.PrintWords Go.Proofs.YtiafojcbllbepaaW.PrintLast
set_option linter.unusedVariables false
set_option linter.unusedSimpArgs false

/-- The number of variables. -/
def sizeC (c : Circ) : Nat := c.f0.toNat + c.f1.length + c.f2.length
/-- The literals that a gate reads, by its variable. -/
def gateReads (c : Circ) (v : Nat) : List Int := if c.f0.toNat + c.f1.length + 1 ≤ v then (c.f2[v - (c.f0.toNat + c.f1.length + 1)]?).elim [] (fun g => [g.f0, g.f1]) else []
/-- The literal that a latch follows, by its variable. -/
def latReads (c : Circ) (v : Nat) : List Int := if c.f0.toNat + 1 ≤ v then (c.f1[v - (c.f0.toNat + 1)]?).elim [] (fun x => [x.f0]) else []
/-- The variable of a literal. -/
def varOf (l : Int) : Nat := (l / 2).toNat
/-- What a variable is made of, by gates alone. -/
inductive GReach (c : Circ) (x : Nat) : Nat → Prop
  | self : 0 < x → GReach c x x
  | step {v : Nat} {l : Int} : GReach c x v → l ∈ gateReads c v → 0 < varOf l → GReach c x (varOf l)
/-- What matters. -/
inductive Reach (c : Circ) : Nat → Prop
  | root {l : Int} : l ∈ c.f3 ++ c.f4 → 0 < varOf l → Reach c (varOf l)
  | step {v : Nat} {l : Int} : Reach c v → l ∈ gateReads c v ++ latReads c v → 0 < varOf l → Reach c (varOf l)
theorem Reach.pos {c : Circ} {v : Nat} (h : Reach c v) : 0 < v := by cases h <;> assumption
theorem GReach.pos {c : Circ} {x v : Nat} (h : GReach c x v) : 0 < v := by cases h <;> assumption
theorem GReach.reach {c : Circ} {x v : Nat} (h : GReach c x v) (hx : 0 < x → Reach c x) : Reach c v := by
  induction h with
  | self h => exact hx h
  | step _ hl hp ih => exact ih.step (List.mem_append_left _ hl) hp
/-- A row tells for each variable whether P holds. -/
def Tells (n : Nat) (P : Nat → Prop) (is : List Bool) : Prop := is.length = n + 1 ∧ ∀ v, is.getD v false = true ↔ P v
theorem Tells.unique {n : Nat} {P : Nat → Prop} {a b : List Bool} (ha : Tells n P a) (hb : Tells n P b) : a = b := by
  apply List.ext_getElem (by rw [ha.1, hb.1])
  intro i h1 h2
  have h3 := (ha.2 i).trans (hb.2 i).symm
  rw [List.getD_eq_getElem?_getD, List.getD_eq_getElem?_getD, List.getElem?_eq_getElem h1, List.getElem?_eq_getElem h2, Option.getD_some, Option.getD_some] at h3
  exact Bool.eq_iff_iff.2 h3
/-- Which numbers of a row are set. -/
def onesFrom : List Bool → Int → List Int
  | [], _ => []
  | b :: bs, i => if b then i :: onesFrom bs (i + 1) else onesFrom bs (i + 1)
noncomputable def coneB (c : Circ) : List Bool := (List.range (sizeC c + 1)).map (fun v => @decide (Reach c v) (Classical.propDecidable _))
noncomputable def coneV (c : Circ) : List Int := onesFrom (coneB c) 0
/-- All literals of a circuit that is right lie below its size. -/
structure Inside (c : Circ) : Prop where
  h0 : 0 ≤ c.f0
  hp : ∀ l ∈ c.f3 ++ c.f4, 0 ≤ l ∧ varOf l ≤ sizeC c
  hl : ∀ v, ∀ l ∈ latReads c v, 0 ≤ l ∧ varOf l ≤ sizeC c
  hg : ∀ v, ∀ l ∈ gateReads c v, 0 ≤ l ∧ varOf l < v ∧ v ≤ sizeC c
theorem Inside.all {c : Circ} (h : Inside c) {v : Nat} {l : Int} (hm : l ∈ gateReads c v ++ latReads c v) : 0 ≤ l ∧ varOf l ≤ sizeC c := by
  rcases List.mem_append.1 hm with hm | hm
  · have := h.hg v l hm; exact ⟨this.1, by omega⟩
  · exact h.hl v l hm
theorem Reach.le {c : Circ} (hi : Inside c) {v : Nat} (h : Reach c v) : v ≤ sizeC c := by
  cases h with
  | root hl _ => exact (hi.hp _ hl).2
  | step _ hl _ => exact (hi.all hl).2
theorem cone_tells {c : Circ} (hi : Inside c) : Tells (sizeC c) (Reach c) (coneB c) := by
  refine ⟨by simp [coneB], fun v => ?_⟩
  unfold coneB
  rw [List.getD_eq_getElem?_getD, List.getElem?_map]
  by_cases hv : v < sizeC c + 1
  · rw [List.getElem?_range hv]
    simp
  · rw [List.getElem?_eq_none (by simp; omega)]
    simp only [Option.map_none, Option.getD_none, Bool.false_eq_true, false_iff]
    exact fun h => hv (by have := h.le hi; omega)
theorem gAnds_in {s : Int} : ∀ (l : List Gate) (i : Int) (k : Nat) (hk : k < l.length), gAnds s l i = true → 0 ≤ l[k].f1 ∧ l[k].f1 ≤ l[k].f0 ∧ l[k].f0 < 2 * (s + (i + k))
  | g :: gs, i, k, hk, h => by
    unfold gAnds at h
    split at h
    · cases h
    split at h
    · cases h
    split at h
    · cases h
    cases k with
    | zero => simp only [List.getElem_cons_zero]; refine ⟨by omega, by omega, by omega⟩
    | succ k =>
      have h2 := gAnds_in gs (i + 1) k (by simpa using hk) h
      simp only [List.getElem_cons_succ]
      push_cast
      refine ⟨h2.1, h2.2.1, by have := h2.2.2; omega⟩
theorem gOut_in {s l : Int} (h : gOut s l = false) : 0 ≤ l ∧ l / 2 < s := by
  unfold gOut at h
  simp only [Bool.or_eq_false_iff, decide_eq_false_iff_not] at h
  omega
theorem inside_of {c : Circ} (h : check c = 0) : Inside c := by
  have hc := gCheck_ok h
  unfold check gCheck at h
  split at h
  · cases h
  split at h
  · cases h
  split at h
  · cases h
  split at h
  · cases h
  split at h
  · cases h
  split at h
  · cases h
  split at h
  · cases h
  split at h
  case isFalse => cases h
  rename_i q1 q2 q3 q4 q5 q6 q7 q8
  have hs : (sizeC c : Int) + 1 = 1 + c.f0 + c.f1.length + c.f2.length := by unfold sizeC; omega
  rw [← hs] at q5 q6 q7
  refine ⟨hc.1, fun l hl => ?_, fun v l hl => ?_, fun v l hl => ?_⟩
  · have h1 : gOut (sizeC c + 1) l = false := by
      rcases List.mem_append.1 hl with h_ | h_
      · exact Bool.eq_false_iff.2 fun h2 => q5 (List.any_eq_true.2 ⟨l, h_, h2⟩)
      · exact Bool.eq_false_iff.2 fun h2 => q6 (List.any_eq_true.2 ⟨l, h_, h2⟩)
    have h2 := gOut_in h1
    exact ⟨h2.1, by unfold varOf; omega⟩
  · unfold latReads at hl
    split at hl
    case isFalse => simp at hl
    cases hg : c.f1[v - (c.f0.toNat + 1)]? with
    | none => rw [hg] at hl; simp at hl
    | some x =>
      rw [hg] at hl
      simp only [Option.elim_some, List.mem_singleton] at hl
      subst hl
      have h1 : gWrong (sizeC c + 1) x = false := Bool.eq_false_iff.2 fun h2 => q7 (List.any_eq_true.2 ⟨x, List.mem_of_getElem? hg, h2⟩)
      unfold gWrong at h1
      simp only [Bool.or_eq_false_iff] at h1
      have h2 := gOut_in h1.1.1
      exact ⟨h2.1, by unfold varOf; omega⟩
  · unfold gateReads at hl
    split at hl
    case isFalse => simp at hl
    rename_i hv
    cases hg : c.f2[v - (c.f0.toNat + c.f1.length + 1)]? with
    | none => rw [hg] at hl; simp at hl
    | some x =>
      rw [hg] at hl
      obtain ⟨hk, hx⟩ := List.getElem?_eq_some_iff.1 hg
      have h3 := gAnds_in c.f2 0 _ hk q8
      rw [hx] at h3
      simp only [Option.elim_some, List.mem_cons, List.not_mem_nil, or_false] at hl
      have hz : v ≤ sizeC c := by unfold sizeC; omega
      have hq : (1 + c.f0 + (c.f1.length : Int)) + (0 + ((v - (c.f0.toNat + c.f1.length + 1) : Nat) : Int)) = v := by omega
      rw [hq] at h3
      rcases hl with rfl | rfl
      · exact ⟨by omega, by unfold varOf; omega, hz⟩
      · exact ⟨by omega, by unfold varOf; omega, hz⟩
/-- The work that is left: what is seen is reached, and what is not still to be done has its reads seen. -/
def Got (seen : List Bool) (l : Int) : Prop := varOf l = 0 ∨ seen.getD (varOf l) false = true
structure Work (c : Circ) (seen : List Bool) (todo : List Int) (ex : Nat → Prop) : Prop where
  hl : seen.length = sizeC c + 1
  hr : ∀ v, seen.getD v false = true → Reach c v
  ht : ∀ t ∈ todo, 0 < t ∧ seen.getD t.toNat false = true
  hc : ∀ v, seen.getD v false = true → (v : Int) ∈ todo ∨ ex v ∨ ∀ l ∈ gateReads c v ++ latReads c v, Got seen l
def visitS (s : List Bool × List Int) (l : Int) : List Bool × List Int :=
  if 0 < l / 2 ∧ s.1.getD (varOf l) false = false then (s.1.set (varOf l) true, s.2 ++ [l / 2]) else s
theorem set_get {s : List Bool} {k : Nat} (hk : k < s.length) (v : Nat) : (s.set k true).getD v false = true ↔ v = k ∨ s.getD v false = true := by
  rw [List.getD_eq_getElem?_getD, List.getElem?_set]
  by_cases h : k = v
  · subst h; simp [hk]
  · simp [h, Ne.symm h, List.getD_eq_getElem?_getD]
theorem visit_work {c : Circ} {s : List Bool × List Int} {ex : Nat → Prop} (h : Work c s.1 s.2 ex) {l : Int} (h0 : 0 ≤ l) (h1 : varOf l ≤ sizeC c) (hr : 0 < varOf l → Reach c (varOf l)) :
    Work c (visitS s l).1 (visitS s l).2 ex ∧ Got (visitS s l).1 l ∧ (∀ v, s.1.getD v false = true → (visitS s l).1.getD v false = true) ∧ (visitS s l).1.count false + (visitS s l).2.length = s.1.count false + s.2.length := by
  have hk : varOf l < s.1.length := by have := h.hl; omega
  unfold visitS
  split
  · rename_i hv
    have hv0 : 0 < varOf l := by unfold varOf; omega
    have hcast : ((varOf l : Nat) : Int) = l / 2 := by unfold varOf; omega
    dsimp only
    refine ⟨⟨by rw [List.length_set]; exact h.hl, fun v hv2 => ?_, fun t ht => ?_, fun v hv2 => ?_⟩, Or.inr ((set_get hk _).2 (Or.inl rfl)), fun v hv2 => (set_get hk v).2 (Or.inr hv2), ?_⟩
    · rcases (set_get hk v).1 hv2 with rfl | h_
      · exact hr hv0
      · exact h.hr v h_
    · rcases List.mem_append.1 ht with h_ | h_
      · exact ⟨(h.ht t h_).1, (set_get hk _).2 (Or.inr (h.ht t h_).2)⟩
      · rw [List.mem_singleton.1 h_]
        exact ⟨hv.1, (set_get hk _).2 (Or.inl rfl)⟩
    · rcases (set_get hk v).1 hv2 with rfl | h_
      · exact Or.inl (List.mem_append_right _ (by rw [hcast]; exact List.mem_singleton.2 rfl))
      · rcases h.hc v h_ with h3 | h3 | h3
        · exact Or.inl (List.mem_append_left _ h3)
        · exact Or.inr (Or.inl h3)
        · exact Or.inr (Or.inr fun l2 hl2 => by
            rcases h3 l2 hl2 with h4 | h4
            · exact Or.inl h4
            · exact Or.inr ((set_get hk _).2 (Or.inr h4)))
    · have hf : s.1[varOf l] = false := by have := hv.2; rw [List.getD_eq_getElem?_getD, List.getElem?_eq_getElem hk] at this; exact this
      have hc := List.count_set (a := true) (b := false) (h := hk)
      have hpos : 0 < s.1.count false := List.count_pos_iff.2 (hf ▸ List.getElem_mem hk)
      rw [hc, hf]
      simp only [beq_self_eq_true, if_true, List.length_append, List.length_singleton]
      simp
      omega
  · rename_i hv
    refine ⟨h, ?_, fun v hv2 => hv2, rfl⟩
    by_cases h2 : varOf l = 0
    · exact Or.inl h2
    · refine Or.inr ?_
      have : 0 < l / 2 := by unfold varOf at h2; omega
      cases hb : s.1.getD (varOf l) false with
      | true => rfl
      | false => exact absurd ⟨this, hb⟩ hv
/-- A list of literals is visited. -/
theorem visits_work {c : Circ} {ex : Nat → Prop} : ∀ (ls : List Int) (s : List Bool × List Int), Work c s.1 s.2 ex → (∀ l ∈ ls, 0 ≤ l ∧ varOf l ≤ sizeC c ∧ (0 < varOf l → Reach c (varOf l))) →
    Work c (ls.foldl visitS s).1 (ls.foldl visitS s).2 ex ∧ (∀ l ∈ ls, Got (ls.foldl visitS s).1 l) ∧ (∀ v, s.1.getD v false = true → (ls.foldl visitS s).1.getD v false = true) ∧ (ls.foldl visitS s).1.count false + (ls.foldl visitS s).2.length = s.1.count false + s.2.length
  | [], s, h, _ => ⟨h, fun l hl => by simp at hl, fun v hv => hv, rfl⟩
  | l :: ls, s, h, hl => by
    have h0 := hl l (by simp)
    have h1 := visit_work h h0.1 h0.2.1 h0.2.2
    have h2 := visits_work ls (visitS s l) h1.1 (fun x hx => hl x (by simp [hx]))
    rw [List.foldl_cons]
    refine ⟨h2.1, fun x hx => ?_, fun v hv => h2.2.2.1 v (h1.2.2.1 v hv), h2.2.2.2.trans h1.2.2.2⟩
    rcases List.mem_cons.1 hx with rfl | h_
    · rcases h1.2.1 with h3 | h3
      · exact Or.inl h3
      · exact Or.inr (h2.2.2.1 _ h3)
    · exact h2.2.1 x h_
/-- One variable is taken from the end of the work, and its reads are visited. -/
def popS (c : Circ) (s : List Bool × List Int) (v : Int) : List Bool × List Int := (gateReads c v.toNat ++ latReads c v.toNat).foldl visitS s
theorem pop_work {c : Circ} (hi : Inside c) {seen : List Bool} {todo : List Int} {v : Int} (h : Work c seen (todo ++ [v]) (fun _ => False)) :
    Work c (popS c (seen, todo) v).1 (popS c (seen, todo) v).2 (fun _ => False) ∧ (popS c (seen, todo) v).1.count false + (popS c (seen, todo) v).2.length = seen.count false + todo.length := by
  have hv := h.ht v (by simp)
  have h1 : Work c seen todo (fun u => u = v.toNat) := ⟨h.hl, h.hr, fun t ht => h.ht t (List.mem_append_left _ ht), fun u hu => by
    rcases h.hc u hu with h_ | h_ | h_
    · rcases List.mem_append.1 h_ with h2 | h2
      · exact Or.inl h2
      · refine Or.inr (Or.inl ?_)
        have := List.mem_singleton.1 h2
        omega
    · exact h_.elim
    · exact Or.inr (Or.inr h_)⟩
  have h2 := visits_work (gateReads c v.toNat ++ latReads c v.toNat) (seen, todo) h1 (fun l hl => ⟨(hi.all hl).1, (hi.all hl).2, fun hp => (h.hr _ hv.2).step hl hp⟩)
  refine ⟨⟨h2.1.hl, h2.1.hr, h2.1.ht, fun u hu => ?_⟩, h2.2.2.2⟩
  rcases h2.1.hc u hu with h_ | h_ | h_
  · exact Or.inl h_
  · refine Or.inr (Or.inr fun l hl => ?_)
    rw [h_] at hl
    exact h2.2.1 l hl
  · exact Or.inr (Or.inr h_)
theorem start_work {c : Circ} (hi : Inside c) : Work c ((c.f3 ++ c.f4).foldl visitS (List.replicate (sizeC c + 1) false, [])).1 ((c.f3 ++ c.f4).foldl visitS (List.replicate (sizeC c + 1) false, [])).2 (fun _ => False) ∧ (∀ l ∈ c.f3 ++ c.f4, Got ((c.f3 ++ c.f4).foldl visitS (List.replicate (sizeC c + 1) false, [])).1 l) := by
  have hz : ∀ v, (List.replicate (sizeC c + 1) false).getD v false = true → False := fun v hv => by
    rw [List.getD_eq_getElem?_getD, List.getElem?_replicate] at hv
    split at hv <;> simp at hv
  have h1 := visits_work (c := c) (ex := fun _ => False) (c.f3 ++ c.f4) (List.replicate (sizeC c + 1) false, []) ⟨by simp, fun v hv => (hz v hv).elim, fun t ht => by simp at ht, fun v hv => (hz v hv).elim⟩ (fun l hl => ⟨(hi.hp l hl).1, (hi.hp l hl).2, fun hp => .root hl hp⟩)
  exact ⟨h1.1, h1.2.1⟩
/-- No work is left: the row tells the cone. -/
theorem work_done {c : Circ} {seen : List Bool} (h : Work c seen [] (fun _ => False)) (hr : ∀ l ∈ c.f3 ++ c.f4, Got seen l) : Tells (sizeC c) (Reach c) seen := by
  refine ⟨h.hl, fun v => ⟨h.hr v, fun hv => ?_⟩⟩
  induction hv with
  | root hl hp => rcases hr _ hl with h_ | h_; omega; exact h_
  | step _ hl hp ih =>
    rcases h.hc _ ih with h_ | h_ | h_
    · simp at h_
    · exact h_.elim
    · rcases h_ _ hl with h2 | h2
      · omega
      · exact h2
end Go.Proofs.Ytiafojcbllbepaa.PH
