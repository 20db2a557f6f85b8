/- ref24.Told; the closures of preds.Put and of the builder that read rows of literals. -/
import Derived.Test.YtgcdanpihaeioaaHLits
namespace Go.Proofs.Ytgcdanpihaeioaa.PH
open Go.RowKit Go.Proofs.YtgcdanpihaeioaaW.PrintWords Go.Proofs.YtgcdanpihaeioaaW.PrintLast
set_option linter.unusedVariables false
set_option linter.unusedSimpArgs false

/-- What a literal has become, by what variables have. -/
def told (own : List Int) (l : Int) : Int := if l % 2 = 1 then litNot (own.getD (l / 2).toNat 0) else own.getD (l / 2).toNat 0
theorem told_at {own : List Int} {l : Int} (hl : I64 l) (h0 : 0 ≤ l) (h1 : l / 2 < own.length) : ∃ (k : Nat) (hk : k < own.length), wrap64 (l.tdiv 2) = (k : Int) ∧ l.tmod 2 = l % 2 ∧ told own l = if l % 2 = 1 then litNot own[k] else own[k] := by
  obtain ⟨k, hk⟩ : ∃ k : Nat, l / 2 = (k : Int) := ⟨(l / 2).toNat, by omega⟩
  have hkv : k < own.length := by omega
  refine ⟨k, hkv, (half_of hl h0).trans hk, tmod_two h0, ?_⟩
  unfold told
  rw [hk, Int.toNat_natCast, List.getD_eq_getElem?_getD, List.getElem?_eq_getElem hkv]
  rfl
set_option maxHeartbeats 2000000 in
set_option maxRecDepth 100000 in
theorem ref24_Told (A : Option Addr) (c : Nat) (own : List Int) (l : Int) (w : World) (h : RS (Kd.int .i64) w A c own) (ho : ∀ x ∈ own, IsBig x) (hl : I64 l) (h0 : 0 ≤ l) (h1 : l / 2 < own.length) :
    Calls Try.prog 67 #[.slice A own.length c, .int .i64 l] w fun e w' => e = .returned (.int .i64 (told own l)) ∧ Below w.heap.size w w' := by
  obtain ⟨k, hk, hq, hr, ht⟩ := told_at hl h0 h1
  obtain ⟨ad, e1, hx⟩ := at_int h.r k hk
  cases e1
  have hlit := ho _ (List.getElem_mem hk)
  rw [ht]
  generalize own[k] = x at *
  have HL := Aside0.mk hlit
  have hlt : (k : Int) < (own.length : Int) := by omega
  clear h ho hl h0 h1 ht hlit
  by_cases z : l % 2 = 1
  · rw [if_pos z]
    have zb : (l.tmod 2 == 1) = true := by rw [hr]; exact beq_iff_eq.mpr z
    clear z hr
    go_enter Try.func67, Try.ntmps67
    go_wp2_with fail
    refine (ref13_Not x _ HL.out).mono ?_
    rintro e w1 ⟨rfl, hb1⟩
    have BW := Aside0.mk hb1
    clear hb1
    go_wp2
    go_ret
    exact ⟨rfl, BW.out⟩
  · rw [if_neg z]
    have zb : (l.tmod 2 == 1) = false := by rw [hr]; exact beq_eq_false_iff_ne.mpr z
    clear z hr
    go_enter Try.func67, Try.ntmps67
    go_wp2
    go_ret
    exact ⟨rfl, Below.refl _ _⟩
/-- The closure of preds.Put: the literal of a latch. -/
theorem preds_Put1 (g : Nat) (A : Option Addr) (c : Nat) (l : List Int) (v : Nat) (z : Int) (w : World) (hz : z = (v : Int) + 1) (hg : w.cell? ⟨g, 0, none⟩ = some (.slice A l.length c)) (h : RS (Kd.int .i64) w A c l) (hv : v < l.length) :
    Calls Try.prog 44 #[.int .i64 z, .pointer (some ⟨g, 0, none⟩)] w fun e w' => e = .returned (.int .i64 l[v]) ∧ Below w.heap.size w w' := by
  have hm := h.max
  obtain ⟨ad, e1, hx⟩ := at_int h.r v hv
  cases e1
  have hq : wrap64 (z - 1) = (v : Int) := by rw [hz, wrap_in (by omega) (by omega)]; omega
  generalize l[v] = x at *
  have hlt : (v : Int) < (l.length : Int) := by omega
  clear h hm hz
  go_enter Try.func44, Try.ntmps44
  go_wp2
  go_ret
  exact ⟨rfl, Below.refl _ _⟩
end Go.Proofs.Ytgcdanpihaeioaa.PH
