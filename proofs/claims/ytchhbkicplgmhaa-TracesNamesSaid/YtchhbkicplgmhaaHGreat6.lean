/- ref06.Great, Starts, First, Check. -/
import Derived.Test.YtchhbkicplgmhaaHSame6
namespace Go.Proofs.Ytchhbkicplgmhaa.PH
open Go.RowKit Go.Proofs.YtchhbkicplgmhaaW.PrintWords Go.Proofs.YtchhbkicplgmhaaW.PrintLast
set_option linter.unusedVariables false
set_option linter.unusedSimpArgs false

/-- Not great. -/
def smallT (t : Run) : Prop := t.f0.length ≤ 60 ∧ t.f1.length ≤ 101 ∧ ∀ l ∈ t.f1, l.length ≤ 60
def RetG (w w' : World) (t : Run) (e : Ending) : Prop := ∃ b, e = .returned (.bool b) ∧ (b = false → smallT t) ∧ Below w.heap.size w w'
set_option maxHeartbeats 4000000 in
set_option maxRecDepth 100000 in
theorem ref06_Great (q : TP) (t : Run) (w : World) (ht : RT w q t) :
    Calls Try.prog 11 #[tv q t] w fun e w' => RetG w w' t e := by
  obtain ⟨QA0, QC0, QA1, QC1⟩ := q
  have HT := Aside0.mk ht
  have HB := Aside0.mk (blk_new w (.cells #[.slice QA0 t.f0.length QC0, .slice QA1 t.f1.length QC1] 30))
  have BX := Aside0.mk (below_alloc (Below.refl w.heap.size w) (.cells #[.slice QA0 t.f0.length QC0, .slice QA1 t.f1.length QC1] 30))
  have HM := Aside0.mk ht.s1.max
  have hu30 := Try.underlying30
  obtain ⟨u0, u1⟩ := (blk2t HB.out).1
  clear ht
  dsimp only [tv] at *
  by_cases h0 : 60 < t.f0.length
  · have h0d : decide (60 < (t.f0.length : Int)) = true := decide_eq_true (by omega)
    go_enter Try.func11, Try.ntmps11
    go_wp2
    go_ret
    exact ⟨true, rfl, (fun h => by cases h), BX.out⟩
  have h0d : decide (60 < (t.f0.length : Int)) = false := decide_eq_false (by omega)
  by_cases h1 : 20 < t.f1.length ∧ t.f1.length ≠ 101
  · have h1d : decide (20 < (t.f1.length : Int)) = true := decide_eq_true (by omega)
    have h2d : ((t.f1.length : Int) != 101) = true := bne_iff_ne.mpr (by have := h1.2; omega)
    clear h1
    go_enter Try.func11, Try.ntmps11
    go_wp2
    go_ret
    exact ⟨true, rfl, (fun h => by cases h), BX.out⟩
  have HL := Aside0.mk (show t.f0.length ≤ 60 ∧ t.f1.length ≤ 101 by omega)
  obtain ⟨b2, hb2⟩ : ∃ b, ((t.f1.length : Int) != 101) = b := ⟨_, rfl⟩
  have h12 : (decide (20 < (t.f1.length : Int)) && b2) = false := by
    rw [← hb2]
    by_cases h20 : 20 < t.f1.length
    · have : t.f1.length = 101 := by omega
      rw [this]; simp
    · rw [decide_eq_false (by omega), Bool.false_and]
  clear h1 h0
  go_enter Try.func11, Try.ntmps11
  obtain ⟨b1, hb1⟩ : ∃ b, decide (20 < (t.f1.length : Int)) = b := ⟨_, rfl⟩
  rw [hb1] at h12
  cases b1 with
  | true =>
    have hb2f : b2 = false := by simpa using h12
    subst hb2f
    go_wp2
    go_loopg [3] t.f1.length (fun gg s3 wr => ∃ k : Nat, s3 = .int .i64 k ∧ Aside0 (k ≤ t.f1.length ∧ t.f1.length - k ≤ gg) ∧ wr = w.alloc (.cells #[.slice QA0 t.f0.length QC0, .slice QA1 t.f1.length QC1] 30) ∧ Aside0 (∀ l ∈ t.f1.take k, l.length ≤ 60))
    case atStart => exact ⟨0, rfl, ⟨by omega, by omega⟩, rfl, ⟨by simp⟩⟩
    case round =>
      obtain ⟨k, rfl, HX, rfl, HA⟩ := hrel
      by_cases hlt : k < t.f1.length
      · obtain ⟨ad, Ax, cx, e1, hx, hrx⟩ := at_row (HT.out.below BX.out).s1.r k hlt
        have HK := Aside0.mk (take_at hlt)
        have HLT := Aside0.mk hlt
        generalize t.f1[k] = x at *
        cases e1
        clear hrx
        by_cases h60 : 60 < x.length
        · have h60d : decide (60 < (x.length : Int)) = true := decide_eq_true (by omega)
          clear h60
          go_wp2
          go_ret
          exact ⟨true, rfl, (fun h => by cases h), BX.out⟩
        · have h60d : decide (60 < (x.length : Int)) = false := decide_eq_false (by omega)
          have H60 := Aside0.mk h60
          clear h60
          go_wp2
          go_roundg (t.f1.length - (k + 1))
          case measure => have := HX.out; have := HLT.out; omega
          case rel => exact ⟨k + 1, val_step HLT.out HM.out, ⟨HLT.out, by have := HX.out; omega⟩, rfl, ⟨fun l hl => by
            rw [HK.out, List.mem_append, List.mem_singleton] at hl
            rcases hl with hl | rfl
            · exact HA.out l hl
            · have := H60.out; omega⟩⟩
      · have hk : k = t.f1.length := by have := HX.out; omega
        have HA2 := Aside0.mk (show ∀ l ∈ t.f1, l.length ≤ 60 by have h_ := HA.out; rw [hk, List.take_length] at h_; exact h_)
        clear hk
        go_wp2
        go_ret
        exact ⟨false, rfl, (fun _ => ⟨HL.out.1, HL.out.2, HA2.out⟩), BX.out⟩
  | false =>
    go_wp2
    go_loopg [3] t.f1.length (fun gg s3 wr => ∃ k : Nat, s3 = .int .i64 k ∧ Aside0 (k ≤ t.f1.length ∧ t.f1.length - k ≤ gg) ∧ wr = w.alloc (.cells #[.slice QA0 t.f0.length QC0, .slice QA1 t.f1.length QC1] 30) ∧ Aside0 (∀ l ∈ t.f1.take k, l.length ≤ 60))
    case atStart => exact ⟨0, rfl, ⟨by omega, by omega⟩, rfl, ⟨by simp⟩⟩
    case round =>
      obtain ⟨k, rfl, HX, rfl, HA⟩ := hrel
      by_cases hlt : k < t.f1.length
      · obtain ⟨ad, Ax, cx, e1, hx, hrx⟩ := at_row (HT.out.below BX.out).s1.r k hlt
        have HK := Aside0.mk (take_at hlt)
        have HLT := Aside0.mk hlt
        generalize t.f1[k] = x at *
        cases e1
        clear hrx
        by_cases h60 : 60 < x.length
        · have h60d : decide (60 < (x.length : Int)) = true := decide_eq_true (by omega)
          clear h60
          go_wp2
          go_ret
          exact ⟨true, rfl, (fun h => by cases h), BX.out⟩
        · have h60d : decide (60 < (x.length : Int)) = false := decide_eq_false (by omega)
          have H60 := Aside0.mk h60
          clear h60
          go_wp2
          go_roundg (t.f1.length - (k + 1))
          case measure => have := HX.out; have := HLT.out; omega
          case rel => exact ⟨k + 1, val_step HLT.out HM.out, ⟨HLT.out, by have := HX.out; omega⟩, rfl, ⟨fun l hl => by
            rw [HK.out, List.mem_append, List.mem_singleton] at hl
            rcases hl with hl | rfl
            · exact HA.out l hl
            · have := H60.out; omega⟩⟩
      · have hk : k = t.f1.length := by have := HX.out; omega
        have HA2 := Aside0.mk (show ∀ l ∈ t.f1, l.length ≤ 60 by have h_ := HA.out; rw [hk, List.take_length] at h_; exact h_)
        clear hk
        go_wp2
        go_ret
        exact ⟨false, rfl, (fun _ => ⟨HL.out.1, HL.out.2, HA2.out⟩), BX.out⟩
end Go.Proofs.Ytchhbkicplgmhaa.PH
