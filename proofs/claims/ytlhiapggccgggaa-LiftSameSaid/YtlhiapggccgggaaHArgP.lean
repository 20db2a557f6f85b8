/- A proof as an argument of a row. -/
import Derived.Test.YtlhiapggccgggaaHArgs
import Derived.Test.YtlhiapggccgggaaHPackA
namespace Go.Proofs.Ytlhiapggccgggaa.PH
open Go.RowKit Go.Proofs.YtlhiapggccgggaaW.PrintWords Go.WideShapes
set_option linter.unusedVariables false
set_option linter.unusedSimpArgs false

@[reducible] def tcells (p : TP) (t : Run) : Array Value := #[.slice p.A0 t.f0.length p.c0, .slice p.A1 t.f1.length p.c1]
@[reducible] def xcells (A : Option Addr) (c : Nat) (x : Prf) : Array Value := #[.int .i64 x.f0, .int .i64 x.f1, .slice A x.f2.f0.length c, .int .i64 x.f2.f1]
@[reducible] def pcells (A : Option Addr) (c : Nat) (x : Pr) : Array Value := #[.slice A x.f0.length c, .int .i64 x.f1]
theorem blk2 {w : World} {g : Nat} {t : TypeId} {v0 v1 : Value} (h : w.heap[g]? = some (.cells #[v0, v1] t (0, 0))) : w.cell? ⟨g, 0, none⟩ = some v0 ∧ w.cell? ⟨g, 1, none⟩ = some v1 := ⟨blk_cell h 0, blk_cell h 1⟩
section
variable {H : Type} {enc : TypeId × Value → H} {W : World}
structure Prf.Nums (x : Prf) : Prop where
  i0 : I64 x.f0
  i1 : I64 x.f1
  p : x.f2.Nums
theorem four_of {cs : List Value} (h : cs.length = 4) : ∃ c0 c1 c2 c3, cs = [c0, c1, c2, c3] := by
  match cs, h with
  | [c0, c1, c2, c3], _ => exact ⟨_, _, _, _, rfl⟩
theorem opn_prf : Opn enc W kPrf 49 Prf.Nums := fun fuel cs x hx => by
  have hu := Try.underlying49
  obtain ⟨c0, c1, c2, c3, rfl⟩ := four_of ((opn_size hu hx).trans (by kernel_rfl))
  obtain ⟨a0, h0, w0⟩ := opn_field hu hx 0 rfl (opn_int Try.underlying3) (n := 1) (by kernel_rfl)
  obtain ⟨a1, h1, w1⟩ := opn_field hu hx 1 rfl (opn_int Try.underlying3) (n := 1) (by kernel_rfl)
  obtain ⟨a2, h2, w2⟩ := opn_field hu hx 2 rfl opn_pr (n := 2) (by kernel_rfl)
  obtain ⟨A2, k2, e2, l2, g2⟩ := kPr_open h2
  cases h0
  cases h1
  cases e2
  exact ⟨⟨a0, a1, a2⟩, kPrf_mk W ⟨a0, a1, a2⟩ l2 g2, w0, w1, ⟨w2.1, w2.2⟩⟩
set_option maxRecDepth 100000 in
theorem arg_prf {v : Value} {d : DataW H} {ps : List MemPlace} {r : Reach} {base : Nat} (hv : Value.okWide Try.prog W r base 49 v) (h : DataW.Trod enc Try.prog W 0 (fun _ => true) true 49 v d ps) : ∃ (A : Option Addr × Nat) (x : Prf), v = .agg #[.int .i64 x.f0, .int .i64 x.f1, .slice A.1 x.f2.f0.length A.2, .int .i64 x.f2.f1] ∧ RS kGate W A.1 A.2 x.f2.f0 ∧ x.Nums := by
  obtain ⟨cs, rfl, _⟩ := okWide_struct Try.underlying49 hv
  obtain ⟨fuel, hf⟩ := h
  obtain ⟨a, hk, hw⟩ := opn_prf _ _ _ hf
  obtain ⟨A1, k1, e, l1, g1⟩ := kPrf_open hk
  refine ⟨(A1, k1), a, ?_, ⟨g1, l1⟩, hw⟩
  have e' : cs.toList = _ := e
  rw [← Array.toArray_toList (xs := cs), e']
end
end Go.Proofs.Ytlhiapggccgggaa.PH
