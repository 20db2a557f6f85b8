/- lift.by, lift.and; the reference's signed. -/
import Derived.Test.YtlhiapggccgggaaHTransP
import Derived.Test.YtlhiapggccgggaaHPut1
namespace Go.Proofs.Ytlhiapggccgggaa.PH
open Go.RowKit Go.Proofs.YtlhiapggccgggaaW.PrintWords Go.Proofs.YtlhiapggccgggaaW.PrintLast
set_option linter.unusedVariables false
set_option linter.unusedSimpArgs false

theorem by_bits {x o : Int} (hx : IsLit x) (ho : IsLit o) : bits .xor .i64 x (bits .and .i64 o 1) = byL x o := by
  rw [and_one ho]
  unfold byL
  split
  · rename_i z; rw [z]; exact xor_one hx
  · rename_i z
    have := ho.1
    rw [show o % 2 = 0 by omega]; exact xor_zero hx
set_option maxHeartbeats 1000000 in
set_option maxRecDepth 100000 in
theorem lift_by (x o : Int) (w : World) (hx : IsLit x) (ho : IsLit o) :
    Calls Try.prog 43 #[.int .i64 x, .int .i64 o] w fun e w' => e = .returned (.int .i64 (byL x o)) ∧ Below w.heap.size w w' := by
  have HB := Aside0.mk (by_bits hx ho)
  clear hx ho
  go_enter Try.func43, Try.ntmps43
  go_wp2
  go_ret
  exact ⟨ret_int HB.out, Below.refl _ _⟩
set_option maxHeartbeats 2000000 in
set_option maxRecDepth 100000 in
theorem lift_and (x y : Int) (w : World) (hx : IsLit x) (hy : IsLit y) :
    Calls Try.prog 75 #[.int .i64 x, .int .i64 y] w fun e w' => RetIB w w' (simpleR x y) e := by
  have HA := Aside0.mk (fun W => lits_And x y W hx hy)
  have h1 : decide (x ≤ 2001) = true := decide_eq_true hx.2
  have h2 : decide (y ≤ 2001) = true := decide_eq_true hy.2
  generalize simpleR x y = r at *
  clear hx hy
  go_enter Try.func75, Try.ntmps75
  go_wp2_with fail
  refine (HA.out _).mono ?_
  rintro e w1 ⟨rfl, hb⟩
  have HB := Aside0.mk hb
  clear hb
  go_wp2
  refine bodyPost_ret (results_tmp2 rfl _ _ _) rfl ?_
  exact ⟨rfl, HB.out⟩
set_option maxHeartbeats 1000000 in
set_option maxRecDepth 100000 in
theorem ref25_signed (x o : Int) (w : World) (hx : IsBig x) (ho : 0 ≤ o) :
    Calls Try.prog 76 #[.int .i64 x, .int .i64 o] w fun e w' => e = .returned (.int .i64 (byL x o)) ∧ Below w.heap.size w w' := by
  have HN := Aside0.mk (fun W => ref01_Not x W hx)
  have ht := tmod_two ho
  unfold byL
  by_cases z : o % 2 = 1
  · rw [if_pos z]
    have zb : (o.tmod 2 == 1) = true := by rw [ht]; exact beq_iff_eq.mpr z
    clear z ht hx ho
    go_enter Try.func76, Try.ntmps76
    go_wp2_with fail
    refine (HN.out _).mono ?_
    rintro e w1 ⟨rfl, hb⟩
    have HB := Aside0.mk hb
    clear hb
    go_wp2
    go_ret
    exact ⟨rfl, HB.out⟩
  · rw [if_neg z]
    have zb : (o.tmod 2 == 1) = false := by rw [ht]; exact beq_eq_false_iff_ne.mpr z
    clear z ht hx ho
    go_enter Try.func76, Try.ntmps76
    go_wp2
    go_ret
    exact ⟨rfl, Below.refl _ _⟩
end Go.Proofs.Ytlhiapggccgggaa.PH
