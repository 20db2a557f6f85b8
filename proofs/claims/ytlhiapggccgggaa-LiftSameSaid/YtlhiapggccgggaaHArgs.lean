/- More arguments of rows: predicates, rows of numbers and of truth values. -/
import Derived.Test.YtlhiapggccgggaaHPackA
namespace Go.Proofs.Ytlhiapggccgggaa.PH
open Go.RowKit Go.Proofs.YtlhiapggccgggaaW.PrintWords Go.WideShapes
set_option linter.unusedVariables false
set_option linter.unusedSimpArgs false

section
variable {H : Type} {enc : TypeId × Value → H} {W : World}
structure Pr.Nums (p : Pr) : Prop where
  ig : ∀ x ∈ p.f0, I64 x.f0 ∧ I64 x.f1
  il : I64 p.f1
set_option maxRecDepth 100000 in
theorem arg_pr {v : Value} {d : DataW H} {ps : List MemPlace} {r : Reach} {base : Nat} (hv : Value.okWide Try.prog W r base 29 v) (h : DataW.Trod enc Try.prog W 0 (fun _ => true) true 29 v d ps) : ∃ (A : Option Addr × Nat) (p : Pr), v = pv A.1 A.2 p ∧ RS kGate W A.1 A.2 p.f0 ∧ p.Nums := by
  obtain ⟨cs, rfl, _⟩ := okWide_struct Try.underlying29 hv
  obtain ⟨fuel, hf⟩ := h
  obtain ⟨a, hk, hw⟩ := opn_pr _ _ _ hf
  obtain ⟨A1, k1, e, l1, g1⟩ := kPr_open hk
  refine ⟨(A1, k1), a, ?_, ⟨g1, l1⟩, ⟨hw.1, hw.2⟩⟩
  have e' : cs.toList = _ := e
  rw [← Array.toArray_toList (xs := cs), e']
theorem I64.of_wf {k : Int} (h : (Lit.int .i64 k).wf = true) : I64 k := by
  simp only [Lit.wf, Bool.and_eq_true, decide_eq_true_eq] at h
  exact h
set_option maxRecDepth 100000 in
theorem arg_slice {α : Type} {dk : Kd α} {t E : Nat} {wf : α → Prop} (ht : Try.prog.underlying t = some (.slice E)) (ho : Opn enc W (Kd.slice E dk) t (fun l => ∀ x ∈ l, wf x)) {v : Value} {d : DataW H} {ps : List MemPlace} (hcells : v.cells.toList = [v]) (h : DataW.Trod enc Try.prog W 0 (fun _ => true) true t v d ps) : ∃ (A : Option Addr × Nat) (l : List α), v = .slice A.1 l.length A.2 ∧ RS dk W A.1 A.2 l ∧ ∀ x ∈ l, wf x := by
  obtain ⟨fuel, hf⟩ := h
  obtain ⟨a, hk, hw⟩ := ho _ _ _ hf
  rw [hcells] at hk
  obtain ⟨A1, k1, e, l1, g1⟩ := hk
  exact ⟨(A1, k1), a, by simpa using e, ⟨g1, l1⟩, hw⟩
set_option maxRecDepth 100000 in
theorem arg_ints {v : Value} {d : DataW H} {ps : List MemPlace} {r : Reach} {base : Nat} (hv : Value.okWide Try.prog W r base 24 v) (h : DataW.Trod enc Try.prog W 0 (fun _ => true) true 24 v d ps) : ∃ (A : Option Addr × Nat) (l : List Int), v = .slice A.1 l.length A.2 ∧ RS (Kd.int .i64) W A.1 A.2 l ∧ ∀ x ∈ l, I64 x := by
  obtain ⟨a, len, cap, rfl⟩ := okWide_slice Try.underlying24 hv
  exact arg_slice Try.underlying24 opn_ints rfl h
theorem opn_bools : Opn enc W (Kd.slice 4 Kd.bool) 46 (fun l => ∀ x ∈ l, True) := opn_slice _ Try.underlying46 (opn_bool Try.underlying4) (by kernel_rfl)
set_option maxRecDepth 100000 in
theorem arg_bools {v : Value} {d : DataW H} {ps : List MemPlace} {r : Reach} {base : Nat} (hv : Value.okWide Try.prog W r base 46 v) (h : DataW.Trod enc Try.prog W 0 (fun _ => true) true 46 v d ps) : ∃ (A : Option Addr × Nat) (l : List Bool), v = .slice A.1 l.length A.2 ∧ RS Kd.bool W A.1 A.2 l ∧ ∀ x ∈ l, True := by
  obtain ⟨a, len, cap, rfl⟩ := okWide_slice Try.underlying46 hv
  exact arg_slice Try.underlying46 opn_bools rfl h
theorem opn_grid : Opn enc W (Kd.slice 24 (Kd.slice 3 (Kd.int .i64))) 27 (fun l => ∀ r ∈ l, ∀ x ∈ r, I64 x) := opn_slice _ Try.underlying27 opn_ints (by kernel_rfl)
set_option maxRecDepth 100000 in
theorem arg_rows {v : Value} {d : DataW H} {ps : List MemPlace} {r : Reach} {base : Nat} (hv : Value.okWide Try.prog W r base 27 v) (h : DataW.Trod enc Try.prog W 0 (fun _ => true) true 27 v d ps) : ∃ (A : Option Addr × Nat) (l : List (List Int)), v = .slice A.1 l.length A.2 ∧ RS (Kd.slice 3 (Kd.int .i64)) W A.1 A.2 l ∧ ∀ r ∈ l, ∀ x ∈ r, I64 x := by
  obtain ⟨a, len, cap, rfl⟩ := okWide_slice Try.underlying27 hv
  exact arg_slice Try.underlying27 opn_grid rfl h
theorem opn_grid_b : Opn enc W (Kd.slice 46 (Kd.slice 4 Kd.bool)) 55 (fun l => ∀ r ∈ l, ∀ x ∈ r, True) := opn_slice _ Try.underlying55 opn_bools (by kernel_rfl)
theorem opn_run : Opn enc W kRun 57 (fun x => (∀ b ∈ x.f0, True) ∧ ∀ r ∈ x.f1, ∀ b ∈ r, True) := fun fuel cs x hx => by
  obtain ⟨c0, c1, rfl⟩ := two_of ((opn_size Try.underlying57 hx).trans (by kernel_rfl))
  obtain ⟨a0, h0, w0⟩ := opn_field Try.underlying57 hx 0 rfl opn_bools (n := 1) (by kernel_rfl)
  obtain ⟨a1, h1, w1⟩ := opn_field Try.underlying57 hx 1 rfl opn_grid_b (n := 1) (by kernel_rfl)
  obtain ⟨A0, k0, e0, l0, g0⟩ := h0
  obtain ⟨A1, k1, e1, l1, g1⟩ := h1
  cases e0
  cases e1
  exact ⟨⟨a0, a1⟩, kRun_mk W ⟨a0, a1⟩ l0 g0 l1 g1, w0, w1⟩
set_option maxRecDepth 100000 in
theorem arg_run {v : Value} {d : DataW H} {ps : List MemPlace} {r : Reach} {base : Nat} (hv : Value.okWide Try.prog W r base 57 v) (h : DataW.Trod enc Try.prog W 0 (fun _ => true) true 57 v d ps) : ∃ (p : TP) (t : Run), v = tv p t ∧ RT W p t ∧ ((∀ b ∈ t.f0, True) ∧ ∀ r ∈ t.f1, ∀ b ∈ r, True) := by
  obtain ⟨cs, rfl, _⟩ := okWide_struct Try.underlying57 hv
  obtain ⟨fuel, hf⟩ := h
  obtain ⟨a, hk, hw⟩ := opn_run _ _ _ hf
  obtain ⟨A0, k0, A1, k1, e, l0, g0, l1, g1⟩ := kRun_open hk
  refine ⟨⟨A0, k0, A1, k1⟩, a, ?_, ⟨⟨g0, l0⟩, ⟨g1, l1⟩⟩, hw⟩
  have e' : cs.toList = _ := e
  rw [← Array.toArray_toList (xs := cs), e']
end
end Go.Proofs.Ytlhiapggccgggaa.PH
