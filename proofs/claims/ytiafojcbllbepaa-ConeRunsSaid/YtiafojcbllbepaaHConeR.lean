/- The reference's cone, in plain Lean. -/
import Derived.Test.YtiafojcbllbepaaHConeP
namespace Go.Proofs.Ytiafojcbllbepaa.PH
open Go.RowKit Go.Proofs.YtiafojcbllbepaaW.PrintWords Go.Proofs.YtiafojcbllbepaaW.PrintLast
set_option linter.unusedVariables false
set_option linter.unusedSimpArgs false

def setL (s : List Bool) (l : Int) : List Bool := s.set (varOf l) true
/-- One variable's step of ref02.In. -/
def inS (c : Circ) (is : List Bool) (v : Nat) : List Bool := if is.getD v false = true then (gateReads c v).foldl setL is else is
def inR (c : Circ) : Nat → List Bool → List Bool
  | 0, is => is
  | v + 1, is => inR c v (inS c is (v + 1))
def inB (c : Circ) (l : Int) : List Bool := (inR c (sizeC c) ((List.replicate (sizeC c + 1) false).set (varOf l) true)).set 0 false
structure Down (c : Circ) (x k : Nat) (is : List Bool) : Prop where
  hl : is.length = sizeC c + 1
  hr : ∀ v, is.getD v false = true → v = 0 ∨ GReach c x v
  hx : is.getD x false = true
  hc : ∀ v, k < v → is.getD v false = true → ∀ l ∈ gateReads c v, is.getD (varOf l) false = true
theorem setL_len : ∀ (ls : List Int) (s : List Bool), (ls.foldl setL s).length = s.length
  | [], s => rfl
  | l :: ls, s => by rw [List.foldl_cons, setL_len ls]; simp [setL]
theorem setL_get : ∀ (ls : List Int) (s : List Bool), (∀ l ∈ ls, varOf l < s.length) → ∀ v, (ls.foldl setL s).getD v false = true ↔ (∃ l ∈ ls, v = varOf l) ∨ s.getD v false = true
  | [], s, _, v => by simp
  | l :: ls, s, h, v => by
    rw [List.foldl_cons, setL_get ls (setL s l) (fun x hx => by unfold setL; rw [List.length_set]; exact h x (by simp [hx]))]
    unfold setL
    rw [set_get (h l (by simp))]
    simp only [List.mem_cons, exists_eq_or_imp]
    constructor
    · rintro (h1 | h1 | h1)
      · exact Or.inl (Or.inr h1)
      · exact Or.inl (Or.inl h1)
      · exact Or.inr h1
    · rintro ((h1 | h1) | h1)
      · exact Or.inr (Or.inl h1)
      · exact Or.inl h1
      · exact Or.inr (Or.inr h1)
theorem inS_down {c : Circ} (hi : Inside c) {x k : Nat} {is : List Bool} (h : Down c x (k + 1) is) : Down c x k (inS c is (k + 1)) := by
  unfold inS
  split
  · rename_i hv
    have hin : ∀ l ∈ gateReads c (k + 1), varOf l < is.length := fun l hl => by have := hi.hg _ l hl; have := h.hl; omega
    refine ⟨by rw [setL_len]; exact h.hl, fun v hv2 => ?_, (setL_get _ _ hin x).2 (Or.inr h.hx), fun v hk hv2 l hl => ?_⟩
    · rcases (setL_get _ _ hin v).1 hv2 with ⟨l, hl, rfl⟩ | h_
      · by_cases hz : varOf l = 0
        · exact Or.inl hz
        · rcases h.hr _ hv with h3 | h3
          · omega
          · exact Or.inr (h3.step hl (by omega))
      · exact h.hr v h_
    · rcases (setL_get _ _ hin v).1 hv2 with ⟨l2, hl2, rfl⟩ | h_
      · have := hi.hg _ l2 hl2; omega
      · by_cases he : v = k + 1
        · subst he
          exact (setL_get _ _ hin _).2 (Or.inl ⟨l, hl, rfl⟩)
        · exact (setL_get _ _ hin _).2 (Or.inr (h.hc v (by omega) h_ l hl))
  · rename_i hv
    refine ⟨h.hl, h.hr, h.hx, fun v hk hv2 l hl => ?_⟩
    by_cases he : v = k + 1
    · subst he; exact absurd hv2 hv
    · exact h.hc v (by omega) hv2 l hl
theorem inR_down {c : Circ} (hi : Inside c) {x : Nat} : ∀ (k : Nat) (is : List Bool), Down c x k is → Down c x 0 (inR c k is)
  | 0, is, h => h
  | k + 1, is, h => inR_down hi k _ (inS_down hi h)
theorem in_start {c : Circ} (hi : Inside c) {l : Int} (hx : varOf l ≤ sizeC c) : Down c (varOf l) (sizeC c) ((List.replicate (sizeC c + 1) false).set (varOf l) true) := by
  have hk : varOf l < (List.replicate (sizeC c + 1) false).length := by simp; omega
  have hz : ∀ v, (List.replicate (sizeC c + 1) false).getD v false = true → False := fun v hv => by
    rw [List.getD_eq_getElem?_getD, List.getElem?_replicate] at hv
    split at hv <;> simp at hv
  refine ⟨by simp, fun v hv => ?_, (set_get hk _).2 (Or.inl rfl), fun v hv _ l2 hl2 => by have := hi.hg v l2 hl2; omega⟩
  rcases (set_get hk v).1 hv with rfl | h_
  · by_cases h0 : varOf l = 0
    · exact Or.inl h0
    · exact Or.inr (.self (by omega))
  · exact (hz v h_).elim
theorem set_false {s : List Bool} (v : Nat) : (s.set 0 false).getD v false = true ↔ v ≠ 0 ∧ s.getD v false = true := by
  rw [List.getD_eq_getElem?_getD, List.getElem?_set]
  by_cases h : 0 = v
  · subst h
    by_cases h2 : 0 < s.length <;> simp [h2]
  · simp [h, Ne.symm h, List.getD_eq_getElem?_getD]
theorem in_done {c : Circ} (hi : Inside c) {x : Nat} {is : List Bool} (h : Down c x 0 is) : Tells (sizeC c) (GReach c x) (is.set 0 false) := by
  refine ⟨by rw [List.length_set]; exact h.hl, fun v => ?_⟩
  rw [set_false]
  constructor
  · rintro ⟨h0, hv⟩
    rcases h.hr v hv with h_ | h_
    · exact absurd h_ h0
    · exact h_
  · intro hv
    refine ⟨by have := hv.pos; omega, ?_⟩
    induction hv with
    | self _ => exact h.hx
    | step h1 hl hp ih => exact h.hc _ h1.pos ih _ hl
theorem in_tells {c : Circ} (hi : Inside c) {l : Int} (hx : varOf l ≤ sizeC c) : Tells (sizeC c) (GReach c (varOf l)) (inB c l) :=
  in_done hi (inR_down hi _ _ (in_start hi hx))
/-- What the reference has after its first loop and between its rounds. -/
structure Clos (c : Circ) (is : List Bool) : Prop where
  hl : is.length = sizeC c + 1
  hr : ∀ v, is.getD v false = true → Reach c v
  hg : ∀ v, is.getD v false = true → ∀ l ∈ gateReads c v, Got is l
def mergeB (a b : List Bool) : List Bool := List.zipWith (· || ·) a b
theorem merge_get {a b : List Bool} (h : a.length = b.length) (v : Nat) : (mergeB a b).getD v false = true ↔ a.getD v false = true ∨ b.getD v false = true := by
  unfold mergeB
  simp only [List.getD_eq_getElem?_getD, List.getElem?_zipWith]
  by_cases hv : v < a.length
  · rw [List.getElem?_eq_getElem hv, List.getElem?_eq_getElem (by omega)]
    simp
  · rw [List.getElem?_eq_none (by omega), List.getElem?_eq_none (by omega)]
    simp
theorem merge_len {a b : List Bool} (h : a.length = b.length) : (mergeB a b).length = a.length := by unfold mergeB; rw [List.length_zipWith, ← h, Nat.min_self]
theorem clos_merge {c : Circ} {is b : List Bool} {x : Nat} (h : Clos c is) (hb : Tells (sizeC c) (GReach c x) b) (hx : 0 < x → Reach c x) : Clos c (mergeB is b) := by
  have hlen : is.length = b.length := by rw [h.hl, hb.1]
  refine ⟨by rw [merge_len hlen]; exact h.hl, fun v hv => ?_, fun v hv l hl => ?_⟩
  · rcases (merge_get hlen v).1 hv with h_ | h_
    · exact h.hr v h_
    · exact ((hb.2 v).1 h_).reach hx
  · by_cases hz : varOf l = 0
    · exact Or.inl hz
    · refine Or.inr ((merge_get hlen _).2 ?_)
      rcases (merge_get hlen v).1 hv with h_ | h_
      · rcases h.hg v h_ l hl with h2 | h2
        · exact absurd h2 hz
        · exact Or.inl h2
      · exact Or.inr ((hb.2 _).2 (((hb.2 v).1 h_).step hl (by omega)))
theorem got_merge {c : Circ} {is b : List Bool} {l : Int} (hlen : is.length = b.length) (hb : Tells (sizeC c) (GReach c (varOf l)) b) : Got (mergeB is b) l := by
  by_cases hz : varOf l = 0
  · exact Or.inl hz
  · exact Or.inr ((merge_get hlen _).2 (Or.inr ((hb.2 _).2 (.self (by omega)))))
theorem got_more {is b : List Bool} {l : Int} (hlen : is.length = b.length) (h : Got is l) : Got (mergeB is b) l := by
  rcases h with h | h
  · exact Or.inl h
  · exact Or.inr ((merge_get hlen _).2 (Or.inl h))
/-- Whether a row adds to another. -/
def adds : List Bool → List Bool → Bool
  | a :: ds, b :: bs => (b && !a) || adds ds bs
  | _, _ => false
theorem adds_no : ∀ {a b : List Bool}, a.length = b.length → adds a b = false → mergeB a b = a
  | [], [], _, _ => rfl
  | a :: ds, b :: bs, h, ha => by
    unfold adds at ha
    simp only [Bool.or_eq_false_iff] at ha
    have h1 := adds_no (a := ds) (b := bs) (by simpa using h) ha.2
    unfold mergeB at h1 ⊢
    rw [List.zipWith_cons_cons, h1]
    cases a <;> cases b <;> simp_all
theorem merge_count : ∀ {a b : List Bool}, a.length = b.length → (mergeB a b).count false ≤ a.count false ∧ (adds a b = true → (mergeB a b).count false < a.count false)
  | [], [], _ => ⟨Nat.le_refl _, fun h => by simp [adds] at h⟩
  | a :: ds, b :: bs, h => by
    have h1 := merge_count (a := ds) (b := bs) (by simpa using h)
    unfold mergeB at h1 ⊢
    unfold adds
    rw [List.zipWith_cons_cons]
    cases a <;> cases b <;> simp only [Bool.or_true, Bool.or_false, Bool.not_true, Bool.not_false, Bool.and_true, Bool.and_false, Bool.false_or, Bool.true_or, List.count_cons, beq_self_eq_true, if_true, Bool.false_eq_true, if_false] <;> simp <;> omega
/-- A round of the reference: k latches are done. -/
structure Rnd (c : Circ) (is0 is : List Bool) (more : Bool) (k : Nat) : Prop where
  hc : Clos c is
  hn : more = false → is = is0
  hd : more = false → ∀ i, i < k → (is.getD (c.f0.toNat + 1 + i) false = true → ∀ l ∈ latReads c (c.f0.toNat + 1 + i), Got is l)
  hm : is.count false ≤ is0.count false
  ht : more = true → is.count false < is0.count false
theorem rnd_start {c : Circ} {is : List Bool} (h : Clos c is) : Rnd c is is false 0 := ⟨h, fun _ => rfl, fun _ i hi => by omega, Nat.le_refl _, fun h_ => by cases h_⟩
theorem rnd_skip {c : Circ} {is0 is : List Bool} {more : Bool} {k : Nat} (h : Rnd c is0 is more k) (hz : is.getD (c.f0.toNat + 1 + k) false = false) : Rnd c is0 is more (k + 1) :=
  ⟨h.hc, h.hn, fun hm i hi hs => by
    by_cases he : i = k
    · subst he; rw [hz] at hs; cases hs
    · exact h.hd hm i (by omega) hs, h.hm, h.ht⟩
theorem rnd_step {c : Circ} (hi : Inside c) {is0 is : List Bool} {more : Bool} {k : Nat} (h : Rnd c is0 is more k) (hk : k < c.f1.length) (hs : is.getD (c.f0.toNat + 1 + k) false = true) {b : List Bool} (hb : b = inB c (c.f1[k]).f0) :
    Rnd c is0 (mergeB is b) (more || adds is b) (k + 1) := by
  have hlr : latReads c (c.f0.toNat + 1 + k) = [(c.f1[k]).f0] := by
    unfold latReads
    rw [if_pos (by omega), show c.f0.toNat + 1 + k - (c.f0.toNat + 1) = k by omega, List.getElem?_eq_getElem hk]
    rfl
  have hin := hi.hl (c.f0.toNat + 1 + k) (c.f1[k]).f0 (by rw [hlr]; simp)
  have ht := in_tells hi hin.2
  rw [← hb] at ht
  have hlen : is.length = b.length := by rw [h.hc.hl, ht.1]
  have hcnt := merge_count hlen
  refine ⟨clos_merge h.hc ht fun hp => (h.hc.hr _ hs).step (List.mem_append_right _ (by rw [hlr]; simp)) hp, fun hm => ?_, fun hm i hik hs2 l hl => ?_, by have := h.hm; omega, fun hm => ?_⟩
  · rw [Bool.or_eq_false_iff] at hm
    rw [adds_no hlen hm.2]; exact h.hn hm.1
  · rw [Bool.or_eq_false_iff] at hm
    by_cases he : i = k
    · subst he
      rw [hlr] at hl
      rw [List.mem_singleton.1 hl]
      exact got_merge hlen ht
    · rw [adds_no hlen hm.2] at hs2 ⊢
      exact h.hd hm.1 i (by omega) hs2 l hl
  · rw [Bool.or_eq_true] at hm
    have := h.hm
    rcases hm with h_ | h_
    · have := h.ht h_; omega
    · have := hcnt.2 h_; omega
/-- A round that adds nothing: the row tells the cone. -/
theorem rnd_done {c : Circ} {is0 is : List Bool} (h : Rnd c is0 is false c.f1.length) (hr : ∀ l ∈ c.f3 ++ c.f4, Got is l) : Tells (sizeC c) (Reach c) is := by
  refine ⟨h.hc.hl, fun v => ⟨h.hc.hr v, fun hv => ?_⟩⟩
  induction hv with
  | root hl hp => rcases hr _ hl with h_ | h_; omega; exact h_
  | @step v l hv hl hp ih =>
    rcases List.mem_append.1 hl with h_ | h_
    · rcases h.hc.hg _ ih _ h_ with h2 | h2
      · omega
      · exact h2
    · have hb : ∃ i, i < c.f1.length ∧ v = c.f0.toNat + 1 + i := by
        unfold latReads at h_
        split at h_
        case isFalse => simp at h_
        rename_i hge
        refine ⟨v - (c.f0.toNat + 1), ?_, by omega⟩
        by_cases hlt : v - (c.f0.toNat + 1) < c.f1.length
        · exact hlt
        · rw [List.getElem?_eq_none (by omega)] at h_; simp at h_
      obtain ⟨i, hi, rfl⟩ := hb
      rcases h.hd rfl i hi ih l h_ with h2 | h2
      · omega
      · exact h2
end Go.Proofs.Ytiafojcbllbepaa.PH
