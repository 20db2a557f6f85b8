/- slices.Index at rows of gates. -/
import Derived.Test.YtlhiapggccgggaaHPreds0
import Derived.Test.YtlhiapggccgggaaWEqStruct
import Derived.Deep.QuietTactic
import Derived.BigQuiet
namespace Go.Proofs.Ytlhiapggccgggaa.PH
open Go.RowKit Go.Proofs.YtlhiapggccgggaaW.PrintWords
set_option linter.unusedVariables false
set_option linter.unusedSimpArgs false

theorem eqGate2 (d : Nat) (w : World) (x0 y0 : Int) (x1 y1 : Int) :
    (Op.equalIn (d + 2) 93 (.agg #[.int .i64 x0, .int .i64 x1]) (.agg #[.int .i64 y0, .int .i64 y1])).run Try.prog w = .ok (x0 == y0 && (x1 == y1)) w := by
  refine eqA_of Try.underlying93 (by kernel_rfl) ?_
  refine eqf_cons (by rfl) (by go_simp; rfl) (by go_simp; rfl) (by go_simp) ?_
  exact eqf_last (by rfl) (by go_simp; rfl) (by go_simp; rfl) (by go_simp)
attribute [local go_sem high] eqGate2
/-- Where a gate stands first, from k on; -1. -/
def gidx (g : Gate) : List Gate → Nat → Int
  | [], _ => -1
  | x :: xs, k => if g.f0 = x.f0 ∧ g.f1 = x.f1 then (k : Int) else gidx g xs (k + 1)
set_option maxHeartbeats 2000000 in
set_option maxRecDepth 100000 in
theorem slices_Index_gate (A : Option Addr) (c : Nat) (l : List Gate) (g : Gate) (w : World) (h : RS kGate w A c l) :
    Calls Try.prog 94 #[.slice A l.length c, .agg #[.int .i64 g.f0, .int .i64 g.f1]] w fun e w' => e = .returned (.int .i64 (gidx g l 0)) ∧ Below w.heap.size w w' := by
  have HS := Aside0.mk h
  have HM := Aside0.mk h.max
  have hu71 := Try.underlying93
  have B0 := Aside0.mk (Box2.new w (.int .i64 g.f0) (.int .i64 g.f1) 93)
  obtain ⟨R, hR⟩ : ∃ R, gidx g l 0 = R := ⟨_, rfl⟩
  rw [hR]
  have HR := Aside0.mk hR
  clear h hR
  go_enter Try.func94, Try.ntmps94
  go_wp2
  go_loopg [8] l.length (fun gg s8 wr => ∃ k : Nat, s8 = .int .i64 k ∧ Aside0 (k ≤ l.length ∧ l.length - k ≤ gg) ∧ Aside0 (Below w.heap.size w wr) ∧ Aside0 (Box2 wr w.heap.size (.int .i64 g.f0) (.int .i64 g.f1)) ∧ Aside0 (gidx g (l.drop k) k = R))
  case atStart => exact ⟨0, rfl, ⟨by omega, by omega⟩, ⟨below_alloc (Below.refl _ _) _⟩, B0, HR⟩
  case round =>
    obtain ⟨k, rfl, HX, BW, HB, HA⟩ := hrel
    have hbl := HB.out.lt
    obtain ⟨x0, x1⟩ := HB.out
    have HBD := Aside0.mk (fun n => HB.out.below (pw_below_drewN (Below.refl _ _) n))
    by_cases hlt : k < l.length
    · obtain ⟨ad, e1, hx, hx1⟩ := at_gate (HS.out.below BW.out).r k hlt
      cases e1
      have HD := HA.out
      rw [drop_at hlt, gidx] at HD
      have HLT := Aside0.mk hlt
      generalize l[k] = x at *
      by_cases z : g.f0 = x.f0 ∧ g.f1 = x.f1
      · rw [if_pos z] at HD
        have HDD := Aside0.mk HD
        have hz0 : (g.f0 == x.f0) = true := beq_iff_eq.mpr z.1
        have hz1 : (g.f1 == x.f1) = true := beq_iff_eq.mpr z.2
        clear z HA HD
        go_wp2
        go_quiet (fail)
        go_wp2
        go_ret
        exact ⟨ret_int HDD.out, pw_below_drewN BW.out _⟩
      · rw [if_neg z] at HD
        have HDD := Aside0.mk HD
        have hzz : (g.f0 == x.f0 && g.f1 == x.f1) = false := by
          rw [Bool.eq_false_iff]; intro h; simp at h; exact z h
        clear z HA HD
        go_wp2
        go_quiet (fail)
        go_wp2
        go_roundg (l.length - (k + 1))
        case measure => have := HX.out; have := HLT.out; omega
        case rel => exact ⟨k + 1, val_step HLT.out HM.out, ⟨HLT.out, by have := HX.out; omega⟩, ⟨pw_below_drewN BW.out _⟩, ⟨HBD.out _⟩, HDD⟩
    · have HE : k = l.length := by have := HX.out.1; omega
      have HD := HA.out
      rw [HE, List.drop_length] at HD
      have HDD := Aside0.mk HD
      clear HD HE HA
      go_wp2
      go_ret
      exact ⟨ret_int HDD.out, BW.out⟩
end Go.Proofs.Ytlhiapggccgggaa.PH
