/- ref24.Told; the closures of preds.Put and of the builder that read rows of literals. -/
import Derived.Test.YtlhiapggccgggaaHLits
namespace Go.Proofs.Ytlhiapggccgggaa.PH
open Go.RowKit Go.Proofs.YtlhiapggccgggaaW.PrintWords Go.Proofs.YtlhiapggccgggaaW.PrintLast
set_option linter.unusedVariables false
set_option linter.unusedSimpArgs false

/-- What a literal has become, by what variables have. -/
def told (own : List Int) (l : Int) : Int := if l % 2 = 1 then litNot (own.getD (l / 2).toNat 0) else own.getD (l / 2).toNat 0
theorem told_at {own : List Int} {l : Int} (hl : I64 l) (h0 : 0 ≤ l) (h1 : l / 2 < own.length) : ∃ (k : Nat) (hk : k < own.length), wrap64 (l.tdiv 2) = (k : Int) ∧ l.tmod 2 = l % 2 ∧ told own l = if l % 2 = 1 then litNot own[k] else own[k] := by
  obtain ⟨k, hk⟩ : ∃ k : Nat, l / 2 = (k : Int) := ⟨(l / 2).toNat, by omega⟩
  have hkv : k < own.length := by omega
  refine ⟨k, hkv, (half_of hl h0).trans hk, tmod_two h0, ?_⟩
  unfold told
  rw [hk, Int.toNat_natCast, List.getD_eq_getElem?_getD, List.getElem?_eq_getElem hkv]
  rfl
set_option maxHeartbeats 2000000 in
set_option maxRecDepth 100000 in
theorem ref24_Told (A : Option Addr) (c : Nat) (own : List Int) (l : Int) (w : World) (h : RS (Kd.int .i64) w A c own) (ho : ∀ x ∈ own, IsBig x) (hl : I64 l) (h0 : 0 ≤ l) (h1 : l / 2 < own.length) :
    Calls Try.prog 109 #[.slice A own.length c, .int .i64 l] w fun e w' => e = .returned (.int .i64 (told own l)) ∧ Below w.heap.size w w' := by
  obtain ⟨k, hk, hq, hr, ht⟩ := told_at hl h0 h1
  obtain ⟨ad, e1, hx⟩ := at_int h.r k hk
  cases e1
  have hlit := ho _ (List.getElem_mem hk)
  rw [ht]
  generalize own[k] = x at *
  have HL := Aside0.mk hlit
  have hlt : (k : Int) < (own.length : Int) := by omega
  clear h ho hl h0 h1 ht hlit
  by_cases z : l % 2 = 1
  · rw [if_pos z]
    have zb : (l.tmod 2 == 1) = true := by rw [hr]; exact beq_iff_eq.mpr z
    clear z hr
    go_enter Try.func109, Try.ntmps109
    go_wp2_with fail
    refine (ref13_Not x _ HL.out).mono ?_
    rintro e w1 ⟨rfl, hb1⟩
    have BW := Aside0.mk hb1
    clear hb1
    go_wp2
    go_ret
    exact ⟨rfl, BW.out⟩
  · rw [if_neg z]
    have zb : (l.tmod 2 == 1) = false := by rw [hr]; exact beq_eq_false_iff_ne.mpr z
    clear z hr
    go_enter Try.func109, Try.ntmps109
    go_wp2
    go_ret
    exact ⟨rfl, Below.refl _ _⟩
end Go.Proofs.Ytlhiapggccgggaa.PH
