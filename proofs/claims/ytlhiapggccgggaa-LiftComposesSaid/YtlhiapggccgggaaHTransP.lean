/- Translated predicates, in plain Lean. -/
import Derived.Test.YtlhiapggccgggaaHAgree2
namespace Go.Proofs.Ytlhiapggccgggaa.PH
open Go.RowKit Go.Proofs.YtlhiapggccgggaaW.PrintWords Go.Proofs.YtlhiapggccgggaaW.PrintLast
set_option linter.unusedVariables false
set_option linter.unusedSimpArgs false

def byL (x o : Int) : Int := if o % 2 = 1 then litNot x else x
theorem byL_lit {x : Int} (o : Int) (h : IsLit x) : IsLit (byL x o) := by
  unfold byL
  split
  · exact litNot_lit h
  · exact h
/-- What a reduced latch stands for, as a literal of a predicate. -/
def standOf (n x : Int) : Int := if 0 ≤ x then x - 2 * n else 0
/-- One gate more is translated. -/
def transS (n : Int) (g : Gate) (t : List Int) (a : List Gate) : List Int × List Gate :=
  if (simpleR (told t g.f0) (told t g.f1)).2 then (t ++ [(simpleR (told t g.f0) (told t g.f1)).1], a)
  else (t ++ [2 * (n + ((a.length : Int) + 1))], a ++ [gateOf (told t g.f0) (told t g.f1)])
def transR (n : Int) : List Gate → List Int → List Gate → List Int × List Gate
  | [], t, a => (t, a)
  | g :: gs, t, a => transR n gs (transS n g t a).1 (transS n g t a).2
theorem transR_drop {n : Int} {gs : List Gate} {t : List Int} {a : List Gate} {k : Nat} (hk : k < gs.length) :
    transR n (gs.drop k) t a = transR n (gs.drop (k + 1)) (transS n gs[k] t a).1 (transS n gs[k] t a).2 := by
  rw [drop_at hk, transR]
def standsOf (c : Circ) (las : List Int) : List Int := 0 :: las.map (standOf c.f0)
def transB (c : Circ) (las : List Int) (p : Pr) : List Int × List Gate := transR c.f1.length p.f0 (standsOf c las) []
def transP (c : Circ) (las : List Int) (p : Pr) : Pr := ⟨(transB c las p).2, told (transB c las p).1 p.f1⟩
/-- What is told so far is literals, as many as there should be; the gates are not too many, and of literals. -/
structure TrI (s k : Nat) (t : List Int) (a : List Gate) : Prop where
  hl : ∀ x ∈ t, IsLit x
  hn : t.length = s + k
  ha : a.length ≤ k
  hg : ∀ y ∈ a, IsLit y.f0 ∧ IsLit y.f1
theorem gateOf_lit {x y : Int} (hx : IsLit x) (hy : IsLit y) : IsLit (gateOf x y).f0 ∧ IsLit (gateOf x y).f1 := by
  unfold gateOf mx mn
  constructor <;> dsimp only <;> split <;> assumption
theorem TrI.step {s k : Nat} {n : Int} {t : List Int} {a : List Gate} {g : Gate} (h : TrI s k t a) (h0 : 0 ≤ n) (h1 : n + (k : Int) + 1 ≤ 1000) (g0 : 0 ≤ g.f0) (g1 : g.f0 / 2 < s + k) (g2 : 0 ≤ g.f1) (g3 : g.f1 / 2 < s + k) :
    TrI s (k + 1) (transS n g t a).1 (transS n g t a).2 := by
  have l0 := told_lit (l := g.f0) h.hl g0 (by have := h.hn; omega)
  have l1 := told_lit (l := g.f1) h.hl g2 (by have := h.hn; omega)
  have ha := h.ha
  have hn := h.hn
  unfold transS
  split
  · dsimp only
    exact ⟨fun x hx => by rcases List.mem_append.1 hx with h_ | h_; exact h.hl x h_; exact (List.mem_singleton.1 h_) ▸ simpleR_lit l0 l1, by simp only [List.length_append, List.length_singleton]; omega, by omega, h.hg⟩
  · dsimp only
    exact ⟨fun x hx => by rcases List.mem_append.1 hx with h_ | h_; exact h.hl x h_; rw [List.mem_singleton.1 h_]; exact ⟨by omega, by omega⟩, by simp only [List.length_append, List.length_singleton]; omega, by simp only [List.length_append, List.length_singleton]; omega,
      fun y hy => by rcases List.mem_append.1 hy with h_ | h_; exact h.hg y h_; exact (List.mem_singleton.1 h_) ▸ gateOf_lit l0 l1⟩
/-- Latches of a lift that is valid: their literals, or -1. -/
def LasOk (c : Circ) (las : List Int) : Prop := 0 ≤ c.f0 ∧ c.f0 ≤ 1000 ∧ c.f1.length ≤ 1000 ∧ ∀ x ∈ las, x = -1 ∨ (2 * (c.f0 + 1) ≤ x ∧ x < 2 * (c.f0 + 1 + c.f1.length))
theorem stand_lit {c : Circ} {las : List Int} (h : LasOk c las) : ∀ x ∈ las, IsLit (standOf c.f0 x) := fun x hx => by
  have h3 := h.2.2.1
  unfold standOf
  rcases h.2.2.2 x hx with rfl | ⟨h1, h2⟩
  · rw [if_neg (by decide)]; exact ⟨by decide, by decide⟩
  · rw [if_pos (by have := h.1; omega)]
    exact ⟨by omega, by omega⟩
theorem TrI.start {c : Circ} {las : List Int} (h : LasOk c las) : TrI (1 + las.length) 0 (standsOf c las) [] :=
  ⟨fun x hx => by
    rcases List.mem_cons.1 hx with rfl | h_
    · exact ⟨by decide, by decide⟩
    · obtain ⟨y, hy, rfl⟩ := List.mem_map.1 h_
      exact stand_lit h y hy, by simp [standsOf]; omega, Nat.le_refl _, fun y hy => by simp at hy⟩
theorem transR_ok {n : Int} {s : Nat} (h0 : 0 ≤ n) : ∀ (gs : List Gate) (k : Nat) (t : List Int) (a : List Gate), TrI s k t a → n + (k : Int) + gs.length ≤ 1000 → gAnds s gs k = true →
    TrI s (k + gs.length) (transR n gs t a).1 (transR n gs t a).2
  | [], k, t, a, h, _, _ => h
  | g :: gs, k, t, a, h, h1, h2 => by
    have hg := gAnds_at 0 (by simp) h2
    simp only [List.getElem_cons_zero] at hg
    simp only [List.length_cons] at h1
    unfold gAnds at h2
    split at h2
    · cases h2
    split at h2
    · cases h2
    split at h2
    · cases h2
    rw [transR, show k + (g :: gs).length = (k + 1) + gs.length by simp only [List.length_cons]; omega]
    exact transR_ok h0 gs (k + 1) _ _ (h.step h0 (by omega) (by omega) (by omega) (by omega) (by omega)) (by omega) (by push_cast; exact h2)
theorem transB_ok {c : Circ} {las : List Int} {p : Pr} (h : LasOk c las) (hp : predCheck las.length p = 0) (h1 : (c.f1.length : Int) + p.f0.length ≤ 1000) :
    TrI (1 + las.length) p.f0.length (transB c las p).1 (transB c las p).2 := by
  have h2 := predCheck_parts hp
  have h3 := transR_ok (n := c.f1.length) (s := 1 + las.length) (by omega) p.f0 0 (standsOf c las) [] (TrI.start h) (by omega) (by push_cast; exact h2.2.2.1)
  rw [Nat.zero_add] at h3
  exact h3
theorem transP_fits {c : Circ} {las : List Int} {p : Pr} (h : LasOk c las) (hp : predCheck las.length p = 0) (h1 : (c.f1.length : Int) + p.f0.length ≤ 1000) : (transP c las p).Fits := by
  have h2 := transB_ok h hp h1
  have h3 := predCheck_parts hp
  have h4 := told_lit (l := p.f1) h2.hl h3.2.2.2.1 (by have := h2.hn; have := h3.2.2.2.2; omega)
  refine ⟨by have h_ : (transP c las p).f0.length ≤ p.f0.length := h2.ha; omega, fun y hy => ?_, ⟨by have h_ : 0 ≤ (transP c las p).f1 := h4.1; omega, by have h_ : (transP c las p).f1 ≤ 2001 := h4.2; omega⟩⟩
  have h5 := h2.hg y hy
  exact ⟨⟨by have := h5.1.1; omega, by have := h5.1.2; omega⟩, ⟨by have := h5.2.1; omega, by have := h5.2.2; omega⟩⟩
end Go.Proofs.Ytlhiapggccgggaa.PH
