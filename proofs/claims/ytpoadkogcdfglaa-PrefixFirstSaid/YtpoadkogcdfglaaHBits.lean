/- x ^ 1 and x & 1, for all numbers that are not negative; keys of maps that are gates. -/
import Derived.Test.YtpoadkogcdfglaaHMap
import Derived.DeepKeys4
namespace Go.Proofs.Ytpoadkogcdfglaa.PH
open Go.RowKit Go.Proofs.YtpoadkogcdfglaaW.PrintWords Go.Proofs.YtpoadkogcdfglaaW.PrintLast
set_option linter.unusedVariables false
set_option linter.unusedSimpArgs false

theorem nat_xor_one (n : Nat) : n ^^^ 1 = if n % 2 = 0 then n + 1 else n - 1 := by
  have h1 : (n ^^^ 1) / 2 = n / 2 := by rw [Nat.xor_div_two]; simp
  have h3 := @Nat.xor_mod_two_eq_one n 1
  split <;> omega
/-- The negation of a literal. -/
def lNot (l : Int) : Int := if l % 2 = 0 then l + 1 else l - 1
theorem wrap_i64 {x : Int} (h0 : -9223372036854775808 ≤ x) (h : x ≤ 9223372036854775807) : IntKind.i64.wrap x = x := by
  unfold IntKind.wrap
  simp only [IntKind.bits, IntKind.signed]
  simp
  omega
theorem bits_xor {l : Int} (h0 : 0 ≤ l) (h1 : l ≤ 1000000000) : bits .xor .i64 l 1 = lNot l := by
  obtain ⟨n, rfl⟩ := Int.eq_ofNat_of_zero_le h0
  have e : ((BitVec.ofInt 64 (n : Int)) ^^^ (BitVec.ofInt 64 1)).toNat = n ^^^ 1 := by
    rw [BitVec.toNat_xor, show BitVec.ofInt 64 (n : Int) = BitVec.ofNat 64 n from BitVec.ofInt_natCast 64 n, BitVec.toNat_ofNat, Nat.mod_eq_of_lt (by omega)]
    rfl
  show IntKind.i64.wrap (((BitVec.ofInt 64 (n : Int)) ^^^ (BitVec.ofInt 64 1)).toNat : Int) = _
  rw [e, nat_xor_one]
  unfold lNot
  split
  · rw [wrap_i64 (by omega) (by omega), if_pos (by omega)]; omega
  · rw [wrap_i64 (by omega) (by omega), if_neg (by omega)]; omega
theorem bits_and {l : Int} (h0 : 0 ≤ l) (h1 : l ≤ 1000000000) : bits .and .i64 l 1 = l % 2 := by
  obtain ⟨n, rfl⟩ := Int.eq_ofNat_of_zero_le h0
  have e : ((BitVec.ofInt 64 (n : Int)) &&& (BitVec.ofInt 64 1)).toNat = n % 2 := by
    rw [BitVec.toNat_and, show BitVec.ofInt 64 (n : Int) = BitVec.ofNat 64 n from BitVec.ofInt_natCast 64 n, BitVec.toNat_ofNat, Nat.mod_eq_of_lt (by omega)]
    exact Nat.and_one_is_mod n
  show IntKind.i64.wrap (((BitVec.ofInt 64 (n : Int)) &&& (BitVec.ofInt 64 1)).toNat : Int) = _
  rw [e, wrap_i64 (by omega) (by omega)]
  omega
/-- x ^ y & 1: a literal, negated where another one is a negation. -/
theorem bits_xor_bit {l b : Int} (h0 : 0 ≤ l) (h1 : l ≤ 1000000000) (hb : b = 0 ∨ b = 1) : bits .xor .i64 l b = if b = 1 then lNot l else l := by
  rcases hb with rfl | rfl
  · rw [if_neg (by decide)]
    obtain ⟨n, rfl⟩ := Int.eq_ofNat_of_zero_le h0
    have e : ((BitVec.ofInt 64 (n : Int)) ^^^ (BitVec.ofInt 64 0)).toNat = n := by
      rw [BitVec.toNat_xor, show BitVec.ofInt 64 (n : Int) = BitVec.ofNat 64 n from BitVec.ofInt_natCast 64 n, BitVec.toNat_ofNat, Nat.mod_eq_of_lt (by omega)]
      exact Nat.xor_zero n
    show IntKind.i64.wrap (((BitVec.ofInt 64 (n : Int)) ^^^ (BitVec.ofInt 64 0)).toNat : Int) = _
    rw [e, wrap_i64 (by omega) (by omega)]
  · rw [if_pos rfl, bits_xor h0 h1]
#print axioms bits_xor
end Go.Proofs.Ytpoadkogcdfglaa.PH
