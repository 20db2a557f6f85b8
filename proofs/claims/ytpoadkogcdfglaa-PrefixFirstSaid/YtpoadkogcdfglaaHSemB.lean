/- What built gates tell: the values of a frame that is built are those of the circuit. -/
import Derived.Test.YtpoadkogcdfglaaHPhV
import Derived.Test.YtpoadkogcdfglaaHPackV
namespace Go.Proofs.Ytpoadkogcdfglaa.PH
open Go.RowKit Go.Proofs.YtpoadkogcdfglaaW.PrintWords Go.Proofs.YtpoadkogcdfglaaW.PrintLast
set_option linter.unusedVariables false
set_option linter.unusedSimpArgs false

/-- The values of gates behind so many variables. -/
structure Sem (n : Int) (G : List Gate) (V : List Bool) : Prop where
  h : 0 ≤ n
  z : V.getD 0 false = false
  g : ∀ (i : Nat) (g : Gate), G[i]? = some g → V.getD (n + 1 + (i : Int)).toNat false = (litV V g.f0 && litV V g.f1)
theorem litV_not (V : List Bool) {l : Int} (h : 0 ≤ l) : litV V (lNot l) = !(litV V l) := by
  unfold litV lNot
  by_cases h2 : l % 2 = 0
  · rw [if_pos h2, show (l + 1) / 2 = l / 2 by omega, show (l + 1) % 2 = 1 by omega, h2]
    cases V.getD (l / 2).toNat false <;> rfl
  · rw [if_neg h2, show (l - 1) / 2 = l / 2 by omega, show (l - 1) % 2 = 0 by omega, show l % 2 = 1 by omega]
    cases V.getD (l / 2).toNat false <;> rfl
theorem lNot_nn {l : Int} (h : 0 ≤ l) : 0 ≤ lNot l := by unfold lNot; split <;> omega
theorem Sem.zero {n : Int} {G : List Gate} {V : List Bool} (S : Sem n G V) : litV V 0 = false := by
  have h := S.z
  unfold litV
  rw [show ((0 : Int) / 2).toNat = 0 from rfl, h]
  rfl
theorem Sem.one {n : Int} {G : List Gate} {V : List Bool} (S : Sem n G V) : litV V 1 = true := by
  have h := S.z
  unfold litV
  rw [show ((1 : Int) / 2).toNat = 0 from rfl, h]
  rfl
theorem Sem.gate {n : Int} {G : List Gate} {V : List Bool} (S : Sem n G V) {i : Nat} {g : Gate} (h : G[i]? = some g) : litV V (2 * (n + 1 + (i : Int))) = (litV V g.f0 && litV V g.f1) := by
  rw [← S.g i g h]
  show (V.getD ((2 * (n + 1 + (i : Int))) / 2).toNat false != ((2 * (n + 1 + (i : Int))) % 2 == 1)) = _
  rw [show (2 * (n + 1 + (i : Int))) / 2 = n + 1 + (i : Int) by omega, show (2 * (n + 1 + (i : Int))) % 2 = 0 by omega]
  cases V.getD (n + 1 + (i : Int)).toNat false <;> rfl
theorem pre_get {α : Type} {a b : List α} (h : a <+: b) {i : Nat} {x : α} (hi : a[i]? = some x) : b[i]? = some x := by
  obtain ⟨t, rfl⟩ := h
  obtain ⟨h1, h2⟩ := List.getElem?_eq_some_iff.1 hi
  rw [List.getElem?_append_left h1]
  exact hi
/-- An operation that keeps the gates and tells a value. -/
structure SOp (n : Int) (op : List Gate → Int → Int → List Gate × Int) (val : Bool → Bool → Bool) : Prop where
  p : ∀ ands x y, ands <+: (op ands x y).1
  v : ∀ {G : List Gate} {V : List Bool}, Sem n G V → ∀ {ands x y}, 0 ≤ x → 0 ≤ y → (op ands x y).1 <+: G → litV V (op ands x y).2 = val (litV V x) (litV V y) ∧ 0 ≤ (op ands x y).2
theorem bGate_v (V : List Bool) (x y : Int) : (litV V (bGate x y).f0 && litV V (bGate x y).f1) = (litV V x && litV V y) := by
  show (litV V (mx x y) && litV V (mn x y)) = _
  unfold mx mn
  by_cases h1 : x < y
  · rw [if_pos h1, if_neg (by omega), Bool.and_comm]
  · rw [if_neg h1]
    by_cases h2 : y < x
    · rw [if_pos h2]
    · have e : x = y := by omega
      subst e
      rw [if_neg h1]
theorem bAnd_s (n : Int) : SOp n (bAnd n) and where
  p ands x y := by
    unfold bAnd
    cases bSimple x y with
    | some l => exact List.prefix_rfl
    | none =>
      dsimp only
      split
      · exact List.prefix_rfl
      · exact List.prefix_append _ _
  v {G V} S {ands x y} hx hy hp := by
    unfold bAnd at hp ⊢
    have hn := S.h
    cases hb : bSimple x y with
    | some l =>
      rw [hb] at hp
      dsimp only
      unfold bSimple at hb
      by_cases h1 : x = 0 ∨ y = 0 ∨ x = lNot y
      · rw [if_pos h1] at hb
        have e : (0 : Int) = l := by injection hb
        subst e
        refine ⟨?_, Int.le_refl _⟩
        rw [S.zero]
        rcases h1 with rfl | rfl | rfl
        · rw [S.zero]; rfl
        · rw [S.zero]; exact (Bool.and_false _).symm
        · rw [litV_not V hy]; cases litV V y <;> rfl
      rw [if_neg h1] at hb
      by_cases h2 : x = 1 ∨ x = y
      · rw [if_pos h2] at hb
        have e : y = l := by injection hb
        subst e
        refine ⟨?_, hy⟩
        rcases h2 with rfl | rfl
        · rw [S.one]; rfl
        · exact (Bool.and_self _).symm
      rw [if_neg h2] at hb
      by_cases h3 : y = 1
      · rw [if_pos h3] at hb
        have e : x = l := by injection hb
        subst e
        subst h3
        exact ⟨by rw [S.one]; exact (Bool.and_true _).symm, hx⟩
      rw [if_neg h3] at hb
      cases hb
    | none =>
      rw [hb] at hp
      dsimp only at hp ⊢
      by_cases hm : bGate x y ∈ ands
      · rw [if_pos hm] at hp ⊢
        have hi : ands[ands.idxOf (bGate x y)]? = some (bGate x y) := by
          rw [List.getElem?_eq_getElem (List.idxOf_lt_length_of_mem hm)]
          simp
        refine ⟨?_, by dsimp only; omega⟩
        exact (S.gate (pre_get hp hi)).trans (bGate_v V x y)
      · rw [if_neg hm] at hp ⊢
        refine ⟨?_, by dsimp only; omega⟩
        exact (S.gate (pre_get hp (i := ands.length) (x := bGate x y) (by simp))).trans (bGate_v V x y)
theorem bOr_s (n : Int) : SOp n (bOr n) or where
  p ands x y := (bAnd_s n).p ands _ _
  v {G V} S {ands x y} hx hy hp := by
    have h := (bAnd_s n).v S (lNot_nn hx) (lNot_nn hy) hp
    refine ⟨?_, lNot_nn h.2⟩
    show litV V (lNot (bAnd n ands (lNot x) (lNot y)).2) = _
    rw [litV_not V h.2, h.1, litV_not V hx, litV_not V hy]
    cases litV V x <;> cases litV V y <;> rfl
theorem SOp.fold {n : Int} {op : List Gate → Int → Int → List Gate × Int} {val : Bool → Bool → Bool} (h : SOp n op val) : ∀ (xs : List Int) (s : List Gate × Int), s.1 <+: (xs.foldl (fun s y => op s.1 s.2 y) s).1 ∧
    (∀ {G : List Gate} {V : List Bool}, Sem n G V → 0 ≤ s.2 → (∀ x ∈ xs, 0 ≤ x) → (xs.foldl (fun s y => op s.1 s.2 y) s).1 <+: G →
      litV V (xs.foldl (fun s y => op s.1 s.2 y) s).2 = xs.foldl (fun b y => val b (litV V y)) (litV V s.2) ∧ 0 ≤ (xs.foldl (fun s y => op s.1 s.2 y) s).2)
  | [], s => ⟨List.prefix_rfl, fun _ h0 _ _ => ⟨rfl, h0⟩⟩
  | x :: xs, s => by
    obtain ⟨h1, h2⟩ := h.fold xs (op s.1 s.2 x)
    refine ⟨(h.p _ _ _).trans h1, fun {G V} S h0 hx hp => ?_⟩
    have h3 := h.v S h0 (hx x (by simp)) (h1.trans hp)
    have h4 := h2 S h3.2 (fun y hy => hx y (by simp [hy])) hp
    rw [h3.1] at h4
    exact h4
theorem fold_or (V : List Bool) : ∀ (xs : List Int) (b : Bool), xs.foldl (fun b y => or b (litV V y)) b = (b || xs.any (litV V))
  | [], b => by simp
  | x :: xs, b => by
    rw [List.foldl_cons, fold_or V xs]
    rw [List.any_cons, ← Bool.or_assoc]
theorem fold_and (V : List Bool) : ∀ (xs : List Int) (b : Bool), xs.foldl (fun b y => and b (litV V y)) b = (b && xs.all (litV V))
  | [], b => by simp
  | x :: xs, b => by
    rw [List.foldl_cons, fold_and V xs]
    rw [List.all_cons, ← Bool.and_assoc]
theorem bAny_p (n : Int) (ands : List Gate) (l : List Int) : ands <+: (bAny n ands l).1 := by
  cases l with
  | nil => exact List.prefix_rfl
  | cons x xs => exact ((bOr_s n).fold xs (ands, x)).1
theorem bAll_p (n : Int) (ands : List Gate) (l : List Int) : ands <+: (bAll n ands l).1 := by
  cases l with
  | nil => exact List.prefix_rfl
  | cons x xs => exact ((bAnd_s n).fold xs (ands, x)).1
section
variable {n : Int} {G : List Gate} {V : List Bool}
theorem bAny_s (S : Sem n G V) {ands : List Gate} {l : List Int} (hl : ∀ x ∈ l, 0 ≤ x) (hp : (bAny n ands l).1 <+: G) : litV V (bAny n ands l).2 = l.any (litV V) ∧ 0 ≤ (bAny n ands l).2 := by
  cases l with
  | nil => exact ⟨S.zero, Int.le_refl _⟩
  | cons x xs =>
    have h := ((bOr_s n).fold xs (ands, x)).2 S (hl x (by simp)) (fun y hy => hl y (by simp [hy])) hp
    rw [fold_or] at h
    exact ⟨h.1.trans (List.any_cons ..).symm, h.2⟩
theorem bAll_s (S : Sem n G V) {ands : List Gate} {l : List Int} (hl : ∀ x ∈ l, 0 ≤ x) (hp : (bAll n ands l).1 <+: G) : litV V (bAll n ands l).2 = l.all (litV V) ∧ 0 ≤ (bAll n ands l).2 := by
  cases l with
  | nil => exact ⟨S.one, by show (0 : Int) ≤ 1; omega⟩
  | cons x xs =>
    have h := ((bAnd_s n).fold xs (ands, x)).2 S (hl x (by simp)) (fun y hy => hl y (by simp [hy])) hp
    rw [fold_and] at h
    exact ⟨h.1.trans (List.all_cons ..).symm, h.2⟩
/-- What is told stands for values. -/
structure Told (V : List Bool) (T : List Int) (v : List Bool) : Prop where
  e : T.map (litV V) = v
  p : ∀ x ∈ T, 0 ≤ x
theorem Told.lit (S : Sem n G V) {T : List Int} {v : List Bool} (h : Told V T v) (l : Int) : litV V (bLit T l) = litV v l ∧ 0 ≤ bLit T l := by
  have h0 : 0 ≤ T.getD (l / 2).toNat 0 := by
    rw [List.getD_eq_getElem?_getD]
    by_cases hi : (l / 2).toNat < T.length
    · rw [List.getElem?_eq_getElem hi]; exact h.p _ (List.getElem_mem hi)
    · rw [List.getElem?_eq_none (by omega)]; exact Int.le_refl _
  have h1 : litV V (T.getD (l / 2).toNat 0) = v.getD (l / 2).toNat false := by
    rw [← h.e, List.getD_eq_getElem?_getD, List.getD_eq_getElem?_getD, List.getElem?_map]
    by_cases hi : (l / 2).toNat < T.length
    · rw [List.getElem?_eq_getElem hi]; rfl
    · rw [List.getElem?_eq_none (by omega)]; exact S.zero
  unfold bLit
  by_cases h2 : l % 2 = 1
  · rw [if_pos h2]
    refine ⟨?_, lNot_nn h0⟩
    rw [litV_not V h0, h1]
    unfold litV
    rw [h2]
    cases v.getD (l / 2).toNat false <;> rfl
  · rw [if_neg h2]
    refine ⟨?_, h0⟩
    rw [h1]
    unfold litV
    rw [show (l % 2 == 1) = false from beq_eq_false_iff_ne.2 h2]
    cases v.getD (l / 2).toNat false <;> rfl
theorem bGates_p (n : Int) : ∀ (gs : List Gate) (s : List Gate × List Int), s.1 <+: (bGates n gs s).1
  | [], s => List.prefix_rfl
  | g :: gs, s => ((bAnd_s n).p s.1 (bLit s.2 g.f0) (bLit s.2 g.f1)).trans (bGates_p n gs ((bAnd n s.1 (bLit s.2 g.f0) (bLit s.2 g.f1)).1, s.2 ++ [(bAnd n s.1 (bLit s.2 g.f0) (bLit s.2 g.f1)).2]))
theorem bGates_s (S : Sem n G V) : ∀ (gs : List Gate) (s : List Gate × List Int) (v : List Bool), Told V s.2 v → (bGates n gs s).1 <+: G → Told V (bGates n gs s).2 (truthFrom gs v)
  | [], s, v, h, _ => h
  | g :: gs, s, v, h, hp => by
    have h1 := h.lit S g.f0
    have h2 := h.lit S g.f1
    have h3 := (bAnd_s n).v S h1.2 h2.2 ((bGates_p n gs ((bAnd n s.1 (bLit s.2 g.f0) (bLit s.2 g.f1)).1, s.2 ++ [(bAnd n s.1 (bLit s.2 g.f0) (bLit s.2 g.f1)).2])).trans hp)
    rw [h1.1, h2.1] at h3
    exact bGates_s S gs ((bAnd n s.1 (bLit s.2 g.f0) (bLit s.2 g.f1)).1, s.2 ++ [(bAnd n s.1 (bLit s.2 g.f0) (bLit s.2 g.f1)).2]) (v ++ [litV v g.f0 && litV v g.f1]) ⟨by rw [List.map_append, h.e]; exact congrArg (v ++ [·]) h3.1, fun x hx => by
      rcases List.mem_append.1 hx with hx | hx
      · exact h.p x hx
      · rw [List.mem_singleton.1 hx]; exact h3.2⟩ hp
theorem bFrame_p (n : Int) (f : Circ) (ands : List Gate) (input : Int) (state : List Int) : ands <+: (bFrame n f ands input state).ands :=
  (bGates_p n f.f2 (ands, bTold f input state)).trans ((bAny_p n _ _).trans (bAll_p n _ _))
/-- A frame that is built is a frame of the circuit. -/
structure FS (V : List Bool) (f : Circ) (st ins : List Bool) (R : FrameB) : Prop where
  x : Told V R.nexts (nextOf f st ins)
  b : litV V R.bad = (badsOf f st ins).any id
  b0 : 0 ≤ R.bad
  r : litV V R.right = holdsOf f st ins
  r0 : 0 ≤ R.right
theorem bFrame_s (S : Sem n G V) {f : Circ} {ands : List Gate} {input : Int} {state : List Int} {st ins : List Bool} (h0 : 0 ≤ input) (hi : (bIns input f.f0.toNat).map (litV V) = ins) (hs : Told V state st) (hp : (bFrame n f ands input state).ands <+: G) : FS V f st ins (bFrame n f ands input state) := by
  have hT : Told V (bTold f input state) (false :: (ins ++ st)) := ⟨by
    show litV V 0 :: (bIns input f.f0.toNat ++ state).map (litV V) = _
    rw [S.zero, List.map_append, hi, hs.e], fun x hx => by
    rcases List.mem_cons.1 hx with rfl | hx
    · exact Int.le_refl _
    · rcases List.mem_append.1 hx with hx | hx
      · obtain ⟨q, hq, rfl⟩ := List.mem_map.1 hx
        omega
      · exact hs.p x hx⟩
  have h1 := bGates_s S f.f2 (ands, bTold f input state) _ hT
  have hv : truthFrom f.f2 (false :: (ins ++ st)) = valsOf f st ins := rfl
  rw [hv] at h1
  unfold bFrame at hp ⊢
  generalize bGates n f.f2 (ands, bTold f input state) = s at *
  obtain ⟨an, T⟩ := s
  dsimp only at h1 hp ⊢
  have h2 := h1 ((bAny_p n _ _).trans ((bAll_p n _ _).trans hp))
  have hl : ∀ (l : List Int), ∀ x ∈ l.map (bLit T), 0 ≤ x := fun l x hx => by obtain ⟨y, _, rfl⟩ := List.mem_map.1 hx; exact (h2.lit S y).2
  have hb := bAny_s S (ands := an) (hl f.f3) ((bAll_p n _ _).trans hp)
  have hr := bAll_s S (hl f.f4) hp
  have em : ∀ (l : List Int), (litV V ∘ bLit T) = litV (valsOf f st ins) := fun l => by funext y; exact (h2.lit S y).1
  refine ⟨⟨?_, fun x hx => by obtain ⟨y, _, rfl⟩ := List.mem_map.1 hx; exact (h2.lit S y.f0).2⟩, ?_, hb.2, ?_, hr.2⟩
  · rw [List.map_map]
    exact List.map_congr_left (fun y _ => (h2.lit S y.f0).1)
  · rw [hb.1, List.any_map, em []]
    unfold badsOf
    rw [List.any_map]
    rfl
  · rw [hr.1, List.all_map, em []]
    rfl
end
/-- Frames of the circuit, one behind the other: the state, whether all constraints hold, whether one was bad up to which they hold. -/
structure Hx where
  now : List Bool
  so : Bool
  hope : Bool
def hxStep (c : Circ) (ins : List Bool) (h : Hx) : Hx := ⟨nextOf c h.now ins, h.so && holdsOf c h.now ins, h.hope || ((badsOf c h.now ins).any id && (h.so && holdsOf c h.now ins))⟩
def hxRun (c : Circ) (rows : Nat → List Bool) (st : List Bool) : Nat → Hx
  | 0 => ⟨st, true, false⟩
  | j + 1 => hxStep c (rows j) (hxRun c rows st j)
theorem hxRun_len {c : Circ} {rows : Nat → List Bool} {st : List Bool} (h : st.length = c.f1.length) : ∀ j, (hxRun c rows st j).now.length = c.f1.length
  | 0 => h
  | j + 1 => nextOf_len _ _ _
structure PhS (V : List Bool) (s : Ph) (h : Hx) : Prop where
  x : Told V s.state h.now
  r : litV V s.sofar = h.so
  r0 : 0 ≤ s.sofar
  y : s.hopes.any (litV V) = h.hope
  y0 : ∀ x ∈ s.hopes, 0 ≤ x
theorem phStep_p (n : Int) (c : Circ) (input : Int) (s : Ph) : s.ands <+: (phStep n c input s).ands :=
  (bFrame_p n c s.ands input s.state).trans (((bAnd_s n).p _ _ _).trans ((bAnd_s n).p _ _ _))
theorem phRun_p (n : Int) (c : Circ) (fr : Nat → Int) (s : Ph) : ∀ j, s.ands <+: (phRun n c fr s j).ands
  | 0 => List.prefix_rfl
  | j + 1 => (phRun_p n c fr s j).trans (phStep_p n c _ _)
section
variable {n : Int} {G : List Gate} {V : List Bool}
theorem PhS.step (S : Sem n G V) {c : Circ} {input : Int} (h0 : 0 ≤ input) {ins : List Bool} (hi : (bIns input c.f0.toNat).map (litV V) = ins) {s : Ph} {h : Hx} (H : PhS V s h) (hp : (phStep n c input s).ands <+: G) : PhS V (phStep n c input s) (hxStep c ins h) := by
  unfold phStep at hp ⊢
  have h1 := bFrame_s S (f := c) (ands := s.ands) h0 hi H.x
  generalize bFrame n c s.ands input s.state = f at *
  dsimp only at hp ⊢
  have p2 := (bAnd_s n).p (bAnd n f.ands s.sofar f.right).1 f.bad (bAnd n f.ands s.sofar f.right).2
  have p1 := (bAnd_s n).p f.ands s.sofar f.right
  have h2 := h1 (p1.trans (p2.trans hp))
  have h3 := (bAnd_s n).v S H.r0 h2.r0 (p2.trans hp)
  rw [H.r, h2.r] at h3
  have h4 := (bAnd_s n).v S h2.b0 h3.2 hp
  rw [h2.b, h3.1] at h4
  refine ⟨h2.x, h3.1, h3.2, ?_, fun x hx => ?_⟩
  · rw [List.any_append, H.y, List.any_cons, List.any_nil, Bool.or_false, h4.1]
    rfl
  · rcases List.mem_append.1 hx with hx | hx
    · exact H.y0 x hx
    · rw [List.mem_singleton.1 hx]; exact h4.2
theorem PhS.run (S : Sem n G V) {c : Circ} {fr : Nat → Int} {rows : Nat → List Bool} {st : List Bool} {s : Ph} (H : PhS V s ⟨st, true, false⟩) : ∀ j, (∀ i, i < j → 0 ≤ fr i ∧ (bIns (fr i) c.f0.toNat).map (litV V) = rows i) → (phRun n c fr s j).ands <+: G → PhS V (phRun n c fr s j) (hxRun c rows st j)
  | 0, _, _ => H
  | j + 1, hi, hp => (PhS.run S H j (fun i h2 => hi i (by omega)) ((phStep_p n c _ _).trans hp)).step S (hi j (by omega)).1 (hi j (by omega)).2 hp
end
/-- The values of a circuit's frame. -/
theorem truth_gate : ∀ (gs : List Gate) (v : List Bool) (i : Nat) (hi : i < gs.length), (∀ k (hk : k < gs.length), 0 ≤ gs[k].f0 ∧ 0 ≤ gs[k].f1 ∧ (gs[k].f0 / 2).toNat < v.length + k ∧ (gs[k].f1 / 2).toNat < v.length + k) →
    (truthFrom gs v).getD (v.length + i) false = (litV (truthFrom gs v) gs[i].f0 && litV (truthFrom gs v) gs[i].f1)
  | g :: gs, v, 0, hi, h => by
    have h0 := h 0 (by simp)
    simp only [List.getElem_cons_zero, Nat.add_zero] at h0 ⊢
    have e : truthFrom (g :: gs) v = truthFrom gs (v ++ [litV v g.f0 && litV v g.f1]) := rfl
    rw [e]
    obtain ⟨t, ht, _⟩ := truthFrom_pre gs (v ++ [litV v g.f0 && litV v g.f1])
    rw [truthFrom_lit gs _ h0.1 (by simp; omega), truthFrom_lit gs _ h0.2.1 (by simp; omega), litV_app v _ h0.1 (by omega), litV_app v _ h0.2.1 (by omega), ht]
    simp [List.getD_eq_getElem?_getD]
  | g :: gs, v, i + 1, hi, h => by
    have e : truthFrom (g :: gs) v = truthFrom gs (v ++ [litV v g.f0 && litV v g.f1]) := rfl
    rw [e]
    have h1 := truth_gate gs (v ++ [litV v g.f0 && litV v g.f1]) i (by simpa using hi) (fun k hk => by
      have h2 := h (k + 1) (by simpa using hk)
      simp only [List.getElem_cons_succ] at h2
      simp only [List.length_append, List.length_singleton]
      exact ⟨h2.1, h2.2.1, by omega, by omega⟩)
    simp only [List.length_append, List.length_singleton, List.getElem_cons_succ] at h1 ⊢
    rw [show v.length + (i + 1) = v.length + 1 + i by omega]
    exact h1
theorem truth_low (gs : List Gate) (v : List Bool) {k : Nat} (hk : k < v.length) : (truthFrom gs v).getD k false = v.getD k false := by
  obtain ⟨t, ht, _⟩ := truthFrom_pre gs v
  rw [ht, List.getD_eq_getElem?_getD, List.getElem?_append_left hk, ← List.getD_eq_getElem?_getD]
/-- A made circuit's values. -/
theorem sem_of {inp : Int} (h0 : 0 ≤ inp) {m : Nat} {G : List Gate} (hg : GV (inp + m) G) {st ins : List Bool} (h1 : (ins.length : Int) = inp) (h2 : st.length = m) : Sem (inp + m) G (truthFrom G (false :: (ins ++ st))) := by
  have hl : (false :: (ins ++ st)).length = (inp + m + 1).toNat := by simp only [List.length_cons, List.length_append]; omega
  refine ⟨by omega, by rw [truth_low _ _ (by simp)]; rfl, fun i g hi => ?_⟩
  obtain ⟨hk, e⟩ := List.getElem?_eq_some_iff.1 hi
  subst e
  rw [show (inp + (m : Int) + 1 + (i : Int)).toNat = (false :: (ins ++ st)).length + i by rw [hl]; omega]
  refine truth_gate G _ i hk (fun k hk2 => ?_)
  have h3 := hg k G[k] (List.getElem?_eq_getElem hk2)
  rw [hl]
  exact ⟨by omega, h3.1, by omega, by omega⟩
theorem litV_low (gs : List Gate) (v : List Bool) {k : Nat} (hk : k < v.length) : litV (truthFrom gs v) (2 * (k : Int)) = v.getD k false := by
  show ((truthFrom gs v).getD ((2 * (k : Int)) / 2).toNat false != ((2 * (k : Int)) % 2 == 1)) = _
  rw [show ((2 * (k : Int)) / 2).toNat = k by omega, show (2 * (k : Int)) % 2 = 0 by omega, truth_low _ _ hk]
  cases v.getD k false <;> rfl
/-- The inputs from a variable on; the latches. -/
theorem ins_of {G : List Gate} {all st : List Bool} {a m : Nat} (h : a + m ≤ all.length) : (bIns (1 + (a : Int)) m).map (litV (truthFrom G (false :: (all ++ st)))) = (all.drop a).take m := by
  apply List.ext_getElem
  · rw [List.length_map, bIns_len, List.length_take, List.length_drop]; omega
  · intro i h1 h2
    rw [List.length_map, bIns_len] at h1
    rw [List.getElem_map, List.getElem_take, List.getElem_drop]
    unfold bIns
    rw [List.getElem_map, List.getElem_range, show 2 * (1 + (a : Int) + (i : Int)) = 2 * ((1 + a + i : Nat) : Int) by push_cast; omega, litV_low _ _ (by simp only [List.length_cons, List.length_append]; omega), show 1 + a + i = (a + i) + 1 by omega, List.getD_cons_succ, List.getD_eq_getElem?_getD, List.getElem?_append_left (by omega), List.getElem?_eq_getElem (by omega)]
    rfl
theorem las_of {G : List Gate} {all st : List Bool} {x : Int} (hx : (all.length : Int) = x) (rest : List Bool) {m : Nat} (hm : m = st.length) : (lasOf x m).map (litV (truthFrom G (false :: (all ++ (st ++ rest))))) = st := by
  apply List.ext_getElem
  · rw [List.length_map, lasOf_len, hm]
  · intro i h1 h2
    rw [List.length_map, lasOf_len] at h1
    rw [List.getElem_map]
    unfold lasOf
    rw [List.getElem_map, List.getElem_range, show 2 * (x + 1 + (i : Int)) = 2 * ((all.length + i + 1 : Nat) : Int) by push_cast; omega, litV_low _ _ (by simp only [List.length_cons, List.length_append]; omega), List.getD_cons_succ, List.getD_eq_getElem?_getD, List.getElem?_append_right (by omega), show all.length + i - all.length = i by omega, List.getElem?_append_left (by omega), List.getElem?_eq_getElem (by omega)]
    rfl
theorem las_nn {x : Int} (hx : 0 ≤ x) (m : Nat) : ∀ y ∈ lasOf x m, 0 ≤ y := fun y hy => by
  obtain ⟨q, hq, rfl⟩ := List.mem_map.1 hy
  omega
end Go.Proofs.Ytpoadkogcdfglaa.PH
