/- The builder's closure that tells what a literal has become. -/
import Derived.Test.YtlhiapggccgggaaHTold
namespace Go.Proofs.Ytlhiapggccgggaa.PH
open Go.RowKit Go.Proofs.YtlhiapggccgggaaW.PrintWords Go.Proofs.YtlhiapggccgggaaW.PrintLast
set_option linter.unusedVariables false
set_option linter.unusedSimpArgs false

theorem and_nat : ∀ n : Nat, n < 2002 → bits .and .i64 (n : Int) 1 = (n : Int) % 2 := by decide +kernel
theorem and_one {l : Int} (h : IsLit l) : bits .and .i64 l 1 = l % 2 := by
  obtain ⟨n, rfl⟩ := Int.eq_ofNat_of_zero_le h.1
  exact and_nat n (by have := h.2; omega)
theorem xor_zero_nat : ∀ n : Nat, n < 2002 → bits .xor .i64 (n : Int) 0 = (n : Int) := by decide +kernel
theorem xor_zero {l : Int} (h : IsLit l) : bits .xor .i64 l 0 = l := by
  obtain ⟨n, rfl⟩ := Int.eq_ofNat_of_zero_le h.1
  exact xor_zero_nat n (by have := h.2; omega)
set_option maxHeartbeats 2000000 in
set_option maxRecDepth 100000 in
theorem builder_put1 (g : Nat) (A : Option Addr) (c : Nat) (own : List Int) (l : Int) (w : World) (hg : w.cell? ⟨g, 0, none⟩ = some (.slice A own.length c)) (h : RS (Kd.int .i64) w A c own) (ho : ∀ x ∈ own, IsLit x) (hl : IsLit l) (h1 : l / 2 < own.length) :
    Calls Try.prog 95 #[.int .i64 l, .pointer (some ⟨g, 0, none⟩)] w fun e w' => e = .returned (.int .i64 (told own l)) ∧ Below w.heap.size w w' := by
  have hI : I64 l := ⟨by have := hl.1; omega, by have := hl.2; omega⟩
  obtain ⟨k, hk, hq, hr, ht⟩ := told_at hI hl.1 h1
  obtain ⟨ad, e1, hx⟩ := at_int h.r k hk
  cases e1
  have hlit := ho _ (List.getElem_mem hk)
  rw [ht]
  generalize own[k] = x at *
  have hlt : (k : Int) < (own.length : Int) := by omega
  have ha := and_one hl
  have hres : bits .xor .i64 x (l % 2) = if l % 2 = 1 then litNot x else x := by
    split
    · rename_i z; rw [z]; exact xor_one hlit
    · rename_i z; rw [show l % 2 = 0 by omega]; exact xor_zero hlit
  obtain ⟨R, hR⟩ : ∃ R, (if l % 2 = 1 then litNot x else x) = R := ⟨_, rfl⟩
  rw [hR] at hres ⊢
  have HRS := Aside0.mk hres
  clear hR
  clear h ho hl h1 ht hlit hr hI hres
  go_enter Try.func95, Try.ntmps95
  go_wp2
  go_ret
  exact ⟨ret_int HRS.out, Below.refl _ _⟩
end Go.Proofs.Ytlhiapggccgggaa.PH
