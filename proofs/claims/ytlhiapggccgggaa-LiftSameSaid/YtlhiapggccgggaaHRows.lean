/- slices.IndexFunc and ContainsFunc over rows of truth values. -/
import Derived.Test.YtlhiapggccgggaaHGates
namespace Go.Proofs.Ytlhiapggccgggaa.PH
open Go.RowKit Go.Proofs.YtlhiapggccgggaaW.PrintWords
set_option linter.unusedVariables false
set_option linter.unusedSimpArgs false
attribute [local go_sem] max_pair min_pair

def PRow (P : Program) (g : Nat) (lb : Array Value) (p : List Bool → Bool) (w : World) : Prop :=
  ∀ (W : World) (B : Option Addr) (d : Nat) (x : List Bool), Below w.heap.size w W → RS Kd.bool W B d x → Calls P g (#[.slice B x.length d] ++ lb) W fun e w' => e = .returned (.bool (p x)) ∧ Below W.heap.size W w'
set_option maxHeartbeats 2000000 in
theorem slices_IndexFunc_row (A : Option Addr) (c : Nat) (l : List (List Bool)) (p : List Bool → Bool) (g : Nat) (lb : Array Value) (w : World) (h : RS (Kd.slice 4 Kd.bool) w A c l)
    (hp : PRow Try.prog g lb p w) (eg : ∀ args w, (callFunc g args).run Try.prog w = .ok (.enter g args) w) :
    Calls Try.prog 77 #[.slice A l.length c, .func (.func g) #[] lb] w fun e w' => e = .returned (.int .i64 (firstIdx p l 0)) ∧ Below w.heap.size w w' := by
  have HR := Aside0.mk h
  have HP := Aside0.mk hp
  have HM := Aside0.mk h.max
  clear h hp
  go_enter Try.func77, Try.ntmps77
  go_wp2
  go_loopg [5, 8] l.length (fun gg _ s8 wr => ∃ k : Nat, s8 = .int .i64 k ∧ Aside0 (k ≤ l.length ∧ l.length - k ≤ gg) ∧ Aside0 (Below w.heap.size w wr) ∧ Aside0 (∀ (j : Nat) (z : List Bool), j < k → l[j]? = some z → p z = false))
  case atStart => exact ⟨0, rfl, ⟨by omega, by omega⟩, ⟨Below.refl _ w⟩, ⟨fun j z hj _ => absurd hj (Nat.not_lt_zero _)⟩⟩
  case round =>
    obtain ⟨k, rfl, HX, BW, HA⟩ := hrel
    by_cases hlt : k < l.length
    · obtain ⟨ad, B, cB, e1, hx, hrow⟩ := at_row (HR.out.below BW.out).r k hlt
      cases e1
      have hget := Aside0.mk (List.getElem?_eq_getElem hlt)
      have hcall := HP.out wr B cB l[k] BW.out hrow
      have HLT := Aside0.mk hlt
      generalize l[k] = x at *
      clear hrow
      cases hq : p x with
      | true =>
        rw [hq] at hcall
        have HQ := Aside0.mk hq
        clear hq
        go_wp2_with fail
        refine hcall.mono ?_
        rintro e w' ⟨rfl, hb'⟩
        clear hcall
        go_wp2
        go_ret
        refine ⟨?_, BW.out.trans (hb'.mono BW.out.size)⟩
        rw [firstIdx_hit p l 0 k x hget.out HQ.out (fun j z hj hz => HA.out j z hj hz)]
        simp
      | false =>
        rw [hq] at hcall
        have HQ := Aside0.mk hq
        clear hq
        go_wp2_with fail
        refine hcall.mono ?_
        rintro e w' ⟨rfl, hb'⟩
        clear hcall
        go_wp2
        go_roundg (l.length - (k + 1))
        case measure => have := HX.out; have := HLT.out; omega
        case rel =>
          refine ⟨k + 1, val_step HLT.out HM.out, ⟨HLT.out, by have := HX.out; omega⟩, ⟨BW.out.trans (hb'.mono BW.out.size)⟩, ⟨fun j z hj hz => ?_⟩⟩
          by_cases e : j = k
          · subst e
            rw [hget.out] at hz
            injection hz with hz
            rw [← hz]; exact HQ.out
          · exact HA.out j z (by omega) hz
    · have HE : Aside0 (k = l.length) := ⟨by have := HX.out; omega⟩
      go_wp2
      go_ret
      refine ⟨?_, BW.out⟩
      have hno : ∀ z ∈ l, p z = false := fun z hz => by
        obtain ⟨j, hj, e⟩ := List.getElem_of_mem hz
        exact HA.out j z (by rw [HE.out]; exact hj) (by rw [List.getElem?_eq_getElem hj, e])
      rw [firstIdx_miss p l 0 hno]
      rfl
theorem slices_ContainsFunc_row (A : Option Addr) (c : Nat) (l : List (List Bool)) (p : List Bool → Bool) (g : Nat) (lb : Array Value) (w : World) (h : RS (Kd.slice 4 Kd.bool) w A c l)
    (hp : PRow Try.prog g lb p w) (eg : ∀ args w, (callFunc g args).run Try.prog w = .ok (.enter g args) w) :
    Calls Try.prog 50 #[.slice A l.length c, .func (.func g) #[] lb] w fun e w' => e = .returned (.bool (l.any p)) ∧ Below w.heap.size w w' := by
  have H := Aside0.mk (slices_IndexFunc_row A c l p g lb w h hp eg)
  clear h hp eg
  have HN := Aside0.mk (firstIdx_nonneg p l 0 (by omega))
  go_enter Try.func50, Try.ntmps50
  go_wp2_with fail
  refine H.out.mono ?_
  rintro e w' ⟨rfl, hb'⟩
  go_wp2
  go_ret
  exact ⟨by rw [← HN.out]; first | rfl | simp, hb'⟩
end Go.Proofs.Ytlhiapggccgggaa.PH
