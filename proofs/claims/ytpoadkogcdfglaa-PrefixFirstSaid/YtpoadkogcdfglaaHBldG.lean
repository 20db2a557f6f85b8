/- The builder's frame: what it is. -/
import Derived.Test.YtpoadkogcdfglaaHBldF
import Derived.Test.YtpoadkogcdfglaaHMap
namespace Go.Proofs.Ytpoadkogcdfglaa.PH
open Go.RowKit Go.Proofs.YtpoadkogcdfglaaW.PrintWords Go.Proofs.YtpoadkogcdfglaaW.PrintLast
set_option linter.unusedVariables false
set_option linter.unusedSimpArgs false

/-- The pieces in any other order. -/
theorem Parts.perm {b : Nat} {w0 w : World} {ps qs : List Pc} (h : Parts b w0 w ps) (hp : ps.Perm qs) : Parts b w0 w qs := by
  have hpw : ps.Pairwise (fun p q => ∀ k, p.F k → ¬ q.F k) := List.pairwise_iff_getElem.2 (fun i j hi hj hij => h.ap i j _ _ (by omega) (List.getElem?_eq_getElem hi) (List.getElem?_eq_getElem hj))
  have hqw : qs.Pairwise (fun p q => ∀ k, p.F k → ¬ q.F k) := (hp.pairwise_iff (fun {x y} hxy k hy hx => hxy k hx hy)).1 hpw
  have mem : ∀ (i : Nat) (q : Pc), qs[i]? = some q → ∃ j : Nat, ps[j]? = some q := fun i q hq => List.mem_iff_getElem?.1 (hp.mem_iff.2 (List.mem_of_getElem? hq))
  refine ⟨h.B, h.z, fun i q hq => ?_, fun i q hq => ?_, fun i j p q hij hi hj k hk hk2 => ?_⟩
  · obtain ⟨j, hj⟩ := mem i q hq
    exact h.hP j q hj
  · obtain ⟨j, hj⟩ := mem i q hq
    exact h.hF j q hj
  · obtain ⟨hi1, hi2⟩ := List.getElem?_eq_some_iff.1 hi
    obtain ⟨hj1, hj2⟩ := List.getElem?_eq_some_iff.1 hj
    rcases Nat.lt_or_gt_of_ne hij with hlt | hlt
    · have h_ := List.pairwise_iff_getElem.1 hqw i j hi1 hj1 hlt
      rw [hi2, hj2] at h_
      exact h_ k hk hk2
    · have h_ := List.pairwise_iff_getElem.1 hqw j i hj1 hi1 hlt
      rw [hi2, hj2] at h_
      exact h_ k hk2 hk
/-- A piece goes behind others. -/
theorem Parts.behind {b : Nat} {w0 w : World} {p : Pc} {qs ps : List Pc} (h : Parts b w0 w (p :: (qs ++ ps))) : Parts b w0 w (qs ++ p :: ps) := h.perm List.perm_middle.symm
theorem Parts.ahead {b : Nat} {w0 w : World} {p : Pc} {qs ps : List Pc} (h : Parts b w0 w (qs ++ p :: ps)) : Parts b w0 w (p :: (qs ++ ps)) := h.perm List.perm_middle
/-- The literals of inputs. -/
def bIns (input : Int) (n : Nat) : List Int := (List.range n).map (fun i : Nat => 2 * (input + i))
theorem bIns_succ (input : Int) (n : Nat) : bIns input (n + 1) = bIns input n ++ [2 * (input + n)] := by unfold bIns; rw [List.range_succ, List.map_append]; rfl
theorem bIns_len (input : Int) (n : Nat) : (bIns input n).length = n := by simp [bIns]
/-- Gates are built, one after the other; each result is told. -/
def bGates (n : Int) (gs : List Gate) (s : List Gate × List Int) : List Gate × List Int := gs.foldl (fun s g => ((bAnd n s.1 (bLit s.2 g.f0) (bLit s.2 g.f1)).1, s.2 ++ [(bAnd n s.1 (bLit s.2 g.f0) (bLit s.2 g.f1)).2])) s
/-- What a frame is: its gates, what is told, bad with its gates, right with its gates. -/
def bTold (f : Circ) (input : Int) (state : List Int) : List Int := 0 :: (bIns input f.f0.toNat ++ state)
structure FrameB where
  ands : List Gate
  nexts : List Int
  bad : Int
  right : Int
def bFrame (n : Int) (f : Circ) (ands : List Gate) (input : Int) (state : List Int) : FrameB :=
  let s := bGates n f.f2 (ands, bTold f input state)
  let bad := bAny n s.1 (f.f3.map (bLit s.2))
  let right := bAll n bad.1 (f.f4.map (bLit s.2))
  ⟨right.1, f.f1.map (fun l => bLit s.2 l.f0), bad.2, right.2⟩
/-- The literals of a circuit lie in what is told. -/
structure FIn (f : Circ) (m : Nat) : Prop where
  i : 0 ≤ f.f0 ∧ f.f0 ≤ 1000
  l : f.f1.length ≤ 1000
  g : f.f2.length ≤ 1000
  b : f.f3.length ≤ 1000
  c : f.f4.length ≤ 1000
  mm : m = 1 + f.f0.toNat + f.f1.length
  gs : ∀ j, ∀ h : j < f.f2.length, (0 ≤ (f.f2[j]).f0 ∧ ((f.f2[j]).f0 / 2).toNat < m + j) ∧ (0 ≤ (f.f2[j]).f1 ∧ ((f.f2[j]).f1 / 2).toNat < m + j)
  ls : ∀ x ∈ f.f1, 0 ≤ x.f0 ∧ (x.f0 / 2).toNat < m + f.f2.length
  bs : ∀ x ∈ f.f3, 0 ≤ x ∧ (x / 2).toNat < m + f.f2.length
  cs : ∀ x ∈ f.f4, 0 ≤ x ∧ (x / 2).toNat < m + f.f2.length
/-- What holds of gates and of what is told. -/
structure TOk (s : List Gate × List Int) (a m : Nat) : Prop where
  g : ∀ z ∈ s.1, I64 z.f0 ∧ I64 z.f1
  t : ∀ x ∈ s.2, LB x
  n : s.1.length ≤ a
  m : s.2.length = m
theorem TOk.step {n : Int} (hn : 0 ≤ n) (hn1 : n ≤ 200000) {s : List Gate × List Int} {a m : Nat} (h : TOk s a m) (ha : a ≤ 100000) {x y : Int} (hx : LIn s.2 x) (hy : LIn s.2 y) :
    TOk ((bAnd n s.1 (bLit s.2 x) (bLit s.2 y)).1, s.2 ++ [(bAnd n s.1 (bLit s.2 x) (bLit s.2 y)).2]) (a + 1) (m + 1) := by
  have ho := bAnd_op hn hn1
  have h1 := bLit_ok h.t hx
  have h2 := bLit_ok h.t hy
  refine ⟨ho.g _ _ _ h.g h1 h2, fun z hz => ?_, ?_, ?_⟩
  · rcases List.mem_append.1 hz with hz | hz
    · exact h.t z hz
    · rw [List.mem_singleton.1 hz]
      exact ho.l _ _ _ (Nat.le_trans h.n ha) h1 h2
  · have h3 := ho.n s.1 (bLit s.2 x) (bLit s.2 y)
    have := h.n
    dsimp only
    omega
  · rw [List.length_append, h.m]; rfl
theorem bGates_succ {n : Int} {gs : List Gate} {s : List Gate × List Int} {j : Nat} (hj : j < gs.length) {an : List Gate} {T : List Int} (h : bGates n (gs.take j) s = (an, T)) :
    bGates n (gs.take (j + 1)) s = ((bAnd n an (bLit T (gs[j]).f0) (bLit T (gs[j]).f1)).1, T ++ [(bAnd n an (bLit T (gs[j]).f0) (bLit T (gs[j]).f1)).2]) := by
  unfold bGates at *
  rw [fold_take hj, h]
theorem bGates_ok {n : Int} (hn : 0 ≤ n) (hn1 : n ≤ 200000) {f : Circ} {m : Nat} (hf : FIn f m) {s : List Gate × List Int} {a : Nat} (hs : TOk s a m) (ha : a ≤ 90000) : ∀ j, j ≤ f.f2.length → TOk (bGates n (f.f2.take j) s) (a + j) (m + j)
  | 0, _ => by simpa [bGates] using hs
  | j + 1, hj => by
    have h1 := bGates_ok hn hn1 hf hs ha j (by omega)
    obtain ⟨⟨an, T⟩, he⟩ : ∃ r, bGates n (f.f2.take j) s = r := ⟨_, rfl⟩
    rw [he] at h1
    rw [bGates_succ (by omega) he]
    have h2 := hf.gs j (by omega)
    have h3 := hf.g
    have h4 := hf.l
    have h5 := hf.mm
    have h6 := hf.i
    have h7 := h1.m
    dsimp only at h7
    exact h1.step hn hn1 (by omega) ⟨h2.1.1, by omega, by dsimp only; omega⟩ ⟨h2.2.1, by omega, by dsimp only; omega⟩
end Go.Proofs.Ytpoadkogcdfglaa.PH
