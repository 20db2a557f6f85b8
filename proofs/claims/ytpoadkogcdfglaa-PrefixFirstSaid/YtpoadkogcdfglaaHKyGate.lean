/- Keys of maps that are gates. -/
import Derived.Test.YtpoadkogcdfglaaHBits
import Derived.WideKeyPair
namespace Go.Proofs.Ytpoadkogcdfglaa.PH
open Go.RowKit Go.Proofs.YtpoadkogcdfglaaW.PrintWords Go.Proofs.YtpoadkogcdfglaaW.PrintLast
set_option linter.unusedVariables false
set_option linter.unusedSimpArgs false

theorem gate_keyed : Maps.Keyed Try.prog 92 := Maps.Keyed.of_law (deep_law_laid (m := 2) (by kernel_rfl) (by decide) (of_decide_eq_true (by kernel_rfl)) (by kernel_rfl) (by kernel_rfl))
theorem lits_int (d : Nat) (n : Int) (h : (Lit.int .i64 n).wf = true) : Try.prog.keyLits (d + 1) 3 [.int .i64 n] = some [.int .i64 n] := by
  unfold Program.keyLits
  rw [Try.underlying3]
  simp [h]
theorem cells_int : Try.prog.cellsOf 3 = 1 := by kernel_rfl
theorem cells_gate : Try.prog.cellsOf 92 = 2 := by kernel_rfl
theorem gate_key {a b : Int} (h0 : (Lit.int .i64 a).wf = true) (h1 : (Lit.int .i64 b).wf = true) : keyOf Try.prog 92 (.agg #[.int .i64 a, .int .i64 b]) = some (.string (keyBytes [.int .i64 a, .int .i64 b])) := by
  have hkt : Try.prog.keyType 92 = true := by kernel_rfl
  have hp : 0 < Try.prog.types.size := of_decide_eq_true (by kernel_rfl)
  obtain ⟨m, hm⟩ : ∃ m, Try.prog.types.size = m + 1 := ⟨Try.prog.types.size - 1, by omega⟩
  unfold keyOf
  simp only [Try.underlying92]
  rw [if_pos (by simp [hkt, Value.formed, Try.underlying92, cells_gate]), hm]
  unfold Program.keyLits
  simp only [Try.underlying92, Value.cells]
  rw [if_pos ⟨by rw [cells_gate]; rfl, by kernel_rfl⟩]
  simp [List.mapM_cons, cells_int, lits_int m _ h0, lits_int m _ h1]
theorem I64.wf {k : Int} (h : I64 k) : (Lit.int .i64 k).wf = true := by
  simp only [Lit.wf, Bool.and_eq_true, decide_eq_true_eq]
  exact h
/-- Keys that are gates. -/
def kyGate : Ky Try.prog 92 Gate where
  enc := fun g => .agg #[.int .i64 g.f0, .int .i64 g.f1]
  lit := fun g => .string (keyBytes [.int .i64 g.f0, .int .i64 g.f1])
  ok := fun g => I64 g.f0 ∧ I64 g.f1
  hk := fun g h => gate_key h.1.wf h.2.wf
  inj := fun a b ha hb h => by
    have h1 := gate_key ha.1.wf ha.2.wf
    have h2 := gate_key hb.1.wf hb.2.wf
    have h' : Lit.string (keyBytes [.int .i64 a.f0, .int .i64 a.f1]) = Lit.string (keyBytes [.int .i64 b.f0, .int .i64 b.f1]) := h
    rw [← h'] at h2
    have h3 := gate_keyed.inj h1 h2
    obtain ⟨a0, a1⟩ := a
    obtain ⟨b0, b1⟩ := b
    simp at h3
    rw [h3.1, h3.2]
  isKey := fun g h => gate_keyed.key (gate_key h.1.wf h.2.wf)
  law := gate_keyed
end Go.Proofs.Ytpoadkogcdfglaa.PH
