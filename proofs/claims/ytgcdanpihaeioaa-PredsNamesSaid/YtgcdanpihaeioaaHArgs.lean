/- More arguments of rows: predicates, rows of numbers and of truth values. -/
import Derived.Test.YtgcdanpihaeioaaHOpen
namespace Go.Proofs.Ytgcdanpihaeioaa.PH
open Go.RowKit Go.Proofs.YtgcdanpihaeioaaW.PrintWords Go.WideShapes
set_option linter.unusedVariables false
set_option linter.unusedSimpArgs false

section
variable {H : Type} {enc : TypeId × Value → H} {W : World}
structure Pr.Nums (p : Pr) : Prop where
  ig : ∀ x ∈ p.f0, I64 x.f0 ∧ I64 x.f1
  il : I64 p.f1
set_option maxRecDepth 100000 in
theorem arg_pr {v : Value} {d : DataW H} {ps : List MemPlace} {r : Reach} {base : Nat} (hv : Value.okWide Try.prog W r base 24 v) (h : DataW.Trod enc Try.prog W 0 (fun _ => true) true 24 v d ps) : ∃ (A : Option Addr × Nat) (p : Pr), v = pv A.1 A.2 p ∧ RS kGate W A.1 A.2 p.f0 ∧ p.Nums := by
  obtain ⟨cs, rfl, _⟩ := okWide_struct Try.underlying24 hv
  obtain ⟨fuel, hf⟩ := h
  obtain ⟨a, hk, hw⟩ := opn_pr _ _ _ hf
  obtain ⟨A1, k1, e, l1, g1⟩ := kPr_open hk
  refine ⟨(A1, k1), a, ?_, ⟨g1, l1⟩, ⟨hw.1, hw.2⟩⟩
  have e' : cs.toList = _ := e
  rw [← Array.toArray_toList (xs := cs), e']
theorem I64.of_wf {k : Int} (h : (Lit.int .i64 k).wf = true) : I64 k := by
  simp only [Lit.wf, Bool.and_eq_true, decide_eq_true_eq] at h
  exact h
set_option maxRecDepth 100000 in
theorem arg_slice {α : Type} {dk : Kd α} {t E : Nat} {wf : α → Prop} (ht : Try.prog.underlying t = some (.slice E)) (ho : Opn enc W (Kd.slice E dk) t (fun l => ∀ x ∈ l, wf x)) {v : Value} {d : DataW H} {ps : List MemPlace} (hcells : v.cells.toList = [v]) (h : DataW.Trod enc Try.prog W 0 (fun _ => true) true t v d ps) : ∃ (A : Option Addr × Nat) (l : List α), v = .slice A.1 l.length A.2 ∧ RS dk W A.1 A.2 l ∧ ∀ x ∈ l, wf x := by
  obtain ⟨fuel, hf⟩ := h
  obtain ⟨a, hk, hw⟩ := ho _ _ _ hf
  rw [hcells] at hk
  obtain ⟨A1, k1, e, l1, g1⟩ := hk
  exact ⟨(A1, k1), a, by simpa using e, ⟨g1, l1⟩, hw⟩
set_option maxRecDepth 100000 in
theorem arg_ints {v : Value} {d : DataW H} {ps : List MemPlace} {r : Reach} {base : Nat} (hv : Value.okWide Try.prog W r base 27 v) (h : DataW.Trod enc Try.prog W 0 (fun _ => true) true 27 v d ps) : ∃ (A : Option Addr × Nat) (l : List Int), v = .slice A.1 l.length A.2 ∧ RS (Kd.int .i64) W A.1 A.2 l ∧ ∀ x ∈ l, I64 x := by
  obtain ⟨a, len, cap, rfl⟩ := okWide_slice Try.underlying27 hv
  exact arg_slice Try.underlying27 opn_ints rfl h
theorem opn_bools : Opn enc W (Kd.slice 4 Kd.bool) 25 (fun l => ∀ x ∈ l, True) := opn_slice _ Try.underlying25 (opn_bool Try.underlying4) (by kernel_rfl)
set_option maxRecDepth 100000 in
theorem arg_bools {v : Value} {d : DataW H} {ps : List MemPlace} {r : Reach} {base : Nat} (hv : Value.okWide Try.prog W r base 25 v) (h : DataW.Trod enc Try.prog W 0 (fun _ => true) true 25 v d ps) : ∃ (A : Option Addr × Nat) (l : List Bool), v = .slice A.1 l.length A.2 ∧ RS Kd.bool W A.1 A.2 l ∧ ∀ x ∈ l, True := by
  obtain ⟨a, len, cap, rfl⟩ := okWide_slice Try.underlying25 hv
  exact arg_slice Try.underlying25 opn_bools rfl h
theorem opn_grid : Opn enc W (Kd.slice 27 (Kd.slice 3 (Kd.int .i64))) 43 (fun l => ∀ r ∈ l, ∀ x ∈ r, I64 x) := opn_slice _ Try.underlying43 opn_ints (by kernel_rfl)
set_option maxRecDepth 100000 in
theorem arg_rows {v : Value} {d : DataW H} {ps : List MemPlace} {r : Reach} {base : Nat} (hv : Value.okWide Try.prog W r base 43 v) (h : DataW.Trod enc Try.prog W 0 (fun _ => true) true 43 v d ps) : ∃ (A : Option Addr × Nat) (l : List (List Int)), v = .slice A.1 l.length A.2 ∧ RS (Kd.slice 3 (Kd.int .i64)) W A.1 A.2 l ∧ ∀ r ∈ l, ∀ x ∈ r, I64 x := by
  obtain ⟨a, len, cap, rfl⟩ := okWide_slice Try.underlying43 hv
  exact arg_slice Try.underlying43 opn_grid rfl h
end
end Go.Proofs.Ytgcdanpihaeioaa.PH
