/- What the builder makes is valid. -/
import Derived.Test.YtpoadkogcdfglaaHPhP
namespace Go.Proofs.Ytpoadkogcdfglaa.PH
open Go.RowKit Go.Proofs.YtpoadkogcdfglaaW.PrintWords Go.Proofs.YtpoadkogcdfglaaW.PrintLast
set_option linter.unusedVariables false
set_option linter.unusedSimpArgs false

/-- Gates that are valid behind so many variables; a literal of those and theirs. -/
def GV (n : Int) (ands : List Gate) : Prop := ∀ (i : Nat) (g : Gate), ands[i]? = some g → 0 ≤ g.f1 ∧ g.f1 ≤ g.f0 ∧ g.f0 < 2 * (n + 1 + (i : Int))
def LV (n : Int) (m : Nat) (l : Int) : Prop := 0 ≤ l ∧ l < 2 * (n + 1 + (m : Int))
theorem LV.mono {n : Int} {m k : Nat} {l : Int} (h : LV n m l) (hm : m ≤ k) : LV n k l := ⟨h.1, by have := h.2; omega⟩
theorem LV.not {n : Int} {m : Nat} {l : Int} (h : LV n m l) : LV n m (lNot l) := by
  have h1 := h.1; have h2 := h.2
  unfold lNot
  split <;> constructor <;> omega
theorem LV.zero {n : Int} (hn : 0 ≤ n) {m : Nat} : LV n m 0 := ⟨by omega, by omega⟩
theorem LV.one {n : Int} (hn : 0 ≤ n) {m : Nat} : LV n m 1 := ⟨by omega, by omega⟩
/-- An operation that keeps this. -/
def VOp (n : Int) (op : List Gate → Int → Int → List Gate × Int) : Prop :=
  ∀ ands x y, GV n ands → LV n ands.length x → LV n ands.length y → GV n (op ands x y).1 ∧ LV n (op ands x y).1.length (op ands x y).2 ∧ ands.length ≤ (op ands x y).1.length
theorem bAnd_v {n : Int} (hn : 0 ≤ n) : VOp n (bAnd n) := fun ands x y hg hx hy => by
  unfold bAnd
  split
  · rename_i l hl
    refine ⟨hg, ?_, Nat.le_refl _⟩
    unfold bSimple at hl
    split at hl
    · obtain rfl := Option.some.inj hl; exact LV.zero hn
    · split at hl
      · obtain rfl := Option.some.inj hl; exact hy
      · split at hl
        · obtain rfl := Option.some.inj hl; exact hx
        · cases hl
  · split
    · rename_i hm
      have h := List.idxOf_lt_length_of_mem hm
      exact ⟨hg, ⟨by dsimp only; omega, by dsimp only; omega⟩, Nat.le_refl _⟩
    · have h1 := hx.1; have h2 := hx.2; have h3 := hy.1; have h4 := hy.2
      refine ⟨fun i g hi => ?_, ⟨by dsimp only; omega, by dsimp only; rw [List.length_append]; simp only [List.length_singleton]; omega⟩, by simp⟩
      by_cases hl : i < ands.length
      · rw [List.getElem?_append_left hl] at hi
        exact hg i g hi
      · have hi2 := (List.getElem?_eq_some_iff.1 hi).1
        rw [List.length_append, List.length_singleton] at hi2
        have he : i = ands.length := by omega
        subst he
        rw [List.getElem?_append_right (Nat.le_refl _), Nat.sub_self] at hi
        have e : bGate x y = g := by simpa using hi
        subst e
        unfold bGate mx mn
        dsimp only
        refine ⟨?_, ?_, ?_⟩ <;> (repeat' split) <;> omega
theorem bOr_v {n : Int} (hn : 0 ≤ n) : VOp n (bOr n) := fun ands x y hg hx hy => by
  have h := bAnd_v hn ands _ _ hg hx.not hy.not
  exact ⟨h.1, h.2.1.not, h.2.2⟩
theorem VOp.fold {n : Int} {op : List Gate → Int → Int → List Gate × Int} (h : VOp n op) : ∀ (xs : List Int) (s : List Gate × Int), GV n s.1 → LV n s.1.length s.2 → (∀ x ∈ xs, LV n s.1.length x) →
    GV n (xs.foldl (fun s y => op s.1 s.2 y) s).1 ∧ LV n (xs.foldl (fun s y => op s.1 s.2 y) s).1.length (xs.foldl (fun s y => op s.1 s.2 y) s).2 ∧ s.1.length ≤ (xs.foldl (fun s y => op s.1 s.2 y) s).1.length
  | [], s, hg, hl, _ => ⟨hg, hl, Nat.le_refl _⟩
  | x :: xs, s, hg, hl, hx => by
    have h1 := h s.1 s.2 x hg hl (hx x (by simp))
    have h2 := h.fold xs (op s.1 s.2 x) h1.1 h1.2.1 (fun y hy => (hx y (by simp [hy])).mono h1.2.2)
    exact ⟨h2.1, h2.2.1, Nat.le_trans h1.2.2 h2.2.2⟩
theorem VOp.chain {n : Int} {op : List Gate → Int → Int → List Gate × Int} (h : VOp n op) {none : Int} {ands : List Gate} {l : List Int} (hg : GV n ands) (h0 : LV n ands.length none) (hl : ∀ x ∈ l, LV n ands.length x) :
    GV n (bChain op none ands l).1 ∧ LV n (bChain op none ands l).1.length (bChain op none ands l).2 ∧ ands.length ≤ (bChain op none ands l).1.length := by
  cases l with
  | nil => exact ⟨hg, h0, Nat.le_refl _⟩
  | cons x xs => exact h.fold xs (ands, x) hg (hl x (by simp)) (fun y hy => hl y (by simp [hy]))
theorem bLit_v {n : Int} (hn : 0 ≤ n) {m : Nat} {T : List Int} (h : ∀ x ∈ T, LV n m x) (l : Int) : LV n m (bLit T l) := by
  have h1 : LV n m (T.getD (l / 2).toNat 0) := by
    rw [List.getD_eq_getElem?_getD]
    by_cases hi : (l / 2).toNat < T.length
    · rw [List.getElem?_eq_getElem hi]; exact h _ (List.getElem_mem hi)
    · rw [List.getElem?_eq_none (by omega)]; exact LV.zero hn
  unfold bLit
  split
  · exact h1.not
  · exact h1
theorem bGates_v {n : Int} (hn : 0 ≤ n) : ∀ (gs : List Gate) (s : List Gate × List Int), GV n s.1 → (∀ x ∈ s.2, LV n s.1.length x) →
    GV n (bGates n gs s).1 ∧ (∀ x ∈ (bGates n gs s).2, LV n (bGates n gs s).1.length x) ∧ s.1.length ≤ (bGates n gs s).1.length
  | [], s, hg, ht => ⟨hg, ht, Nat.le_refl _⟩
  | g :: gs, s, hg, ht => by
    have h1 := bAnd_v hn s.1 (bLit s.2 g.f0) (bLit s.2 g.f1) hg (bLit_v hn ht _) (bLit_v hn ht _)
    have h2 := bGates_v hn gs ((bAnd n s.1 (bLit s.2 g.f0) (bLit s.2 g.f1)).1, s.2 ++ [(bAnd n s.1 (bLit s.2 g.f0) (bLit s.2 g.f1)).2]) h1.1 (fun x hx => by
      rcases List.mem_append.1 hx with hx | hx
      · exact (ht x hx).mono h1.2.2
      · rw [List.mem_singleton.1 hx]; exact h1.2.1)
    exact ⟨h2.1, h2.2.1, Nat.le_trans h1.2.2 h2.2.2⟩
/-- What a frame keeps. -/
structure FV (n : Int) (a : Nat) (R : FrameB) : Prop where
  g : GV n R.ands
  l : a ≤ R.ands.length
  x : ∀ x ∈ R.nexts, LV n R.ands.length x
  b : LV n R.ands.length R.bad
  r : LV n R.ands.length R.right
theorem bFrame_v {n : Int} (hn : 0 ≤ n) {f : Circ} {ands : List Gate} (hg : GV n ands) {input : Int} (hi : 0 ≤ input ∧ input + f.f0 ≤ n + 1) {state : List Int} (hb : ∀ x ∈ state, LV n ands.length x) : FV n ands.length (bFrame n f ands input state) := by
  have h1 := bGates_v hn f.f2 (ands, bTold f input state) hg (fun x hx => by
    rcases List.mem_cons.1 hx with rfl | hx
    · exact LV.zero hn
    · rcases List.mem_append.1 hx with hx | hx
      · obtain ⟨q, hq, rfl⟩ := List.mem_map.1 hx
        have := List.mem_range.1 hq
        exact ⟨by omega, by dsimp only; omega⟩
      · exact hb x hx)
  unfold bFrame
  generalize bGates n f.f2 (ands, bTold f input state) = s at *
  obtain ⟨an, T⟩ := s
  dsimp only at h1 ⊢
  have c1 := (bOr_v hn).chain (none := 0) (ands := an) (l := f.f3.map (bLit T)) h1.1 (LV.zero hn) (fun x hx => by obtain ⟨y, _, rfl⟩ := List.mem_map.1 hx; exact bLit_v hn h1.2.1 y)
  have e1 : bAny n an (f.f3.map (bLit T)) = bChain (bOr n) 0 an (f.f3.map (bLit T)) := rfl
  rw [← e1] at c1
  generalize bAny n an (f.f3.map (bLit T)) = r3 at *
  have c2 := (bAnd_v hn).chain (none := 1) (ands := r3.1) (l := f.f4.map (bLit T)) c1.1 (LV.one hn) (fun x hx => by obtain ⟨y, _, rfl⟩ := List.mem_map.1 hx; exact (bLit_v hn h1.2.1 y).mono c1.2.2)
  have e2 : bAll n r3.1 (f.f4.map (bLit T)) = bChain (bAnd n) 1 r3.1 (f.f4.map (bLit T)) := rfl
  rw [← e2] at c2
  generalize bAll n r3.1 (f.f4.map (bLit T)) = r4 at *
  exact ⟨c2.1, by dsimp only; omega, fun x hx => by obtain ⟨y, _, rfl⟩ := List.mem_map.1 hx; exact (bLit_v hn h1.2.1 y.f0).mono (by dsimp only; omega), c1.2.1.mono c2.2.2, c2.2.1⟩
structure PhV (n : Int) (s : Ph) : Prop where
  g : GV n s.ands
  x : ∀ x ∈ s.state, LV n s.ands.length x
  r : LV n s.ands.length s.sofar
  y : ∀ x ∈ s.hopes, LV n s.ands.length x
theorem PhV.step {n : Int} (hn : 0 ≤ n) {c : Circ} {input : Int} (hi : 0 ≤ input ∧ input + c.f0 ≤ n + 1) {s : Ph} (h : PhV n s) : PhV n (phStep n c input s) := by
  have h1 := bFrame_v hn (f := c) h.g hi h.x
  unfold phStep
  generalize bFrame n c s.ands input s.state = f at *
  have a1 := bAnd_v hn f.ands s.sofar f.right h1.g (h.r.mono h1.l) h1.r
  dsimp only
  generalize bAnd n f.ands s.sofar f.right = a at *
  have b1 := bAnd_v hn a.1 f.bad a.2 a1.1 (h1.b.mono a1.2.2) a1.2.1
  have hl := h1.l
  generalize bAnd n a.1 f.bad a.2 = b at *
  exact ⟨b1.1, fun x hx => (h1.x x hx).mono (Nat.le_trans a1.2.2 b1.2.2), a1.2.1.mono b1.2.2, fun x hx => by
    rcases List.mem_append.1 hx with hx | hx
    · exact (h.y x hx).mono (by dsimp only; have := a1.2.2; have := b1.2.2; omega)
    · rw [List.mem_singleton.1 hx]; exact b1.2.1⟩
theorem PhV.run {n : Int} (hn : 0 ≤ n) {c : Circ} {fr : Nat → Int} {s : Ph} (h : PhV n s) : ∀ j, (∀ i, i < j → 0 ≤ fr i ∧ fr i + c.f0 ≤ n + 1) → PhV n (phRun n c fr s j)
  | 0, _ => h
  | j + 1, hi => (PhV.run hn h j (fun i h2 => hi i (by omega))).step hn (hi j (by omega))
theorem ph0_v {x n : Int} (h0 : 0 ≤ x) {c : Circ} (hn : x + c.f1.length ≤ n) : PhV n (ph0 x c) :=
  ⟨fun i g hg => by simp [ph0] at hg, fun y hy => by
    obtain ⟨q, hq, rfl⟩ := List.mem_map.1 hy
    have := List.mem_range.1 hq
    exact ⟨by omega, by omega⟩, LV.one (by omega), fun y hy => by simp [ph0] at hy⟩
theorem gAnds_of {s : Int} : ∀ (l : List Gate) (i : Int), (∀ (j : Nat) (g : Gate), l[j]? = some g → 0 ≤ g.f1 ∧ g.f1 ≤ g.f0 ∧ g.f0 < 2 * (s + i + (j : Int))) → gAnds s l i = true
  | [], _, _ => rfl
  | g :: gs, i, h => by
    have h0 := h 0 g rfl
    unfold gAnds
    rw [if_neg (by omega), if_neg (by omega), if_neg (by have := h0.2.2; omega)]
    exact gAnds_of gs (i + 1) (fun j x hx => by have h1 := h (j + 1) x (by simpa using hx); exact ⟨h1.1, h1.2.1, by have := h1.2.2; push_cast at this ⊢; omega⟩)
/-- A circuit that is made so is valid. -/
theorem check_made {inp : Int} (h0 : 0 ≤ inp) {ls : List Latch} {ands : List Gate} {b r : Int} (hg : GV (inp + ls.length) ands) (hs : inp + ls.length + ands.length ≤ 1000) (hb : LV (inp + ls.length) ands.length b) (hr : LV (inp + ls.length) ands.length r)
    (hl : ∀ x ∈ ls, LV (inp + ls.length) ands.length x.f0 ∧ 0 ≤ x.f1 ∧ x.f1 ≤ 2) : check ⟨inp, ls, ands, [b], [r]⟩ = 0 := by
  have out : ∀ l, LV (inp + ls.length) ands.length l → gOut (1 + inp + (ls.length : Int) + ands.length) l = false := fun l h => by
    have h1 := h.1; have h2 := h.2
    unfold gOut
    simp
    omega
  unfold check gCheck
  dsimp only
  rw [if_neg (by omega), if_neg (by omega), if_neg (by omega), if_neg (by unfold mx; simp), if_neg (by simp [out b hb]), if_neg (by simp [out r hr]), if_neg (by
    intro h
    obtain ⟨x, hx, h1⟩ := List.any_eq_true.1 h
    have h2 := hl x hx
    unfold gWrong at h1
    rw [out x.f0 h2.1] at h1
    simp at h1
    omega), if_pos (gAnds_of _ _ (fun j g hj => by have h1 := hg j g hj; exact ⟨h1.1, h1.2.1, by have := h1.2.2; omega⟩))]
end Go.Proofs.Ytpoadkogcdfglaa.PH
