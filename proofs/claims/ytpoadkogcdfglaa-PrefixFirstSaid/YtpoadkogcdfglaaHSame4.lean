/- ref04.Same (for seats without the texts of seat 06). -/
import Derived.Test.YtpoadkogcdfglaaHPackV
import Derived.Test.YtpoadkogcdfglaaHPhP
namespace Go.Proofs.Ytpoadkogcdfglaa.PH
open Go.RowKit Go.Proofs.YtpoadkogcdfglaaW.PrintWords Go.Proofs.YtpoadkogcdfglaaW.PrintLast
set_option linter.unusedVariables false
set_option linter.unusedSimpArgs false

theorem eq_drop {α : Type} {l m : List α} {k : Nat} (h1 : k < l.length) (h2 : k < m.length) : l.drop k = m.drop k ↔ l[k] = m[k] ∧ l.drop (k + 1) = m.drop (k + 1) := by
  rw [drop_at h1, drop_at h2, List.cons.injEq]
set_option maxHeartbeats 2000000 in
set_option maxRecDepth 100000 in
theorem ref04_Same (A : Option Addr) (c : Nat) (l : List Bool) (B : Option Addr) (d : Nat) (m : List Bool) (w : World) (hl : RS Kd.bool w A c l) (hm : RS Kd.bool w B d m) :
    Calls Try.prog 31 #[.slice A l.length c, .slice B m.length d] w fun e w' => e = .returned (.bool (decide (l = m))) ∧ Below w.heap.size w w' := by
  have HL := Aside0.mk hl
  have HM := Aside0.mk hm
  have HX0 := Aside0.mk hl.max
  clear hl hm
  by_cases hn : l.length = m.length
  · have hnb : ((l.length : Int) != (m.length : Int)) = false := bne_eq_false_iff_eq.mpr (by omega)
    have HN := Aside0.mk hn
    clear hn
    go_enter Try.func31, Try.ntmps31
    go_wp2
    clear hnb
    go_loopg [5] l.length (fun gg s5 wr => ∃ k : Nat, s5 = .int .i64 k ∧ Aside0 (k ≤ l.length ∧ l.length - k ≤ gg) ∧ Aside0 (Below w.heap.size w wr) ∧ Aside0 (decide (l.drop k = m.drop k) = decide (l = m)))
    case atStart => exact ⟨0, rfl, ⟨by omega, by omega⟩, ⟨Below.refl _ _⟩, ⟨by simp⟩⟩
    case round =>
      obtain ⟨k, rfl, HX, BW, HA⟩ := hrel
      by_cases hlt : k < l.length
      · have hlt2 : k < m.length := by have := HN.out; omega
        obtain ⟨ad, e1, hx⟩ := at_bool (HL.out.below BW.out).r k hlt
        obtain ⟨bd, e2, hy⟩ := at_bool (HM.out.below BW.out).r k hlt2
        cases e1
        cases e2
        have HD := HA.out
        simp only [eq_drop hlt hlt2] at HD
        have HLT := Aside0.mk hlt
        generalize l[k] = x at *
        generalize m[k] = y at *
        have HDD := Aside0.mk HD
        clear HA HD
        by_cases hxy : x = y
        · have hb : (!x == y) = false := by rw [hxy]; cases y <;> rfl
          have HXY := Aside0.mk hxy
          clear hxy
          go_wp2
          go_quiet (fail)
          go_wp2
          go_roundg (l.length - (k + 1))
          case measure => have := HX.out; have := HLT.out; omega
          case rel => exact ⟨k + 1, val_step HLT.out HX0.out, ⟨HLT.out, by have := HX.out; omega⟩, ⟨pw_below_drewN BW.out _⟩, ⟨by rw [← HDD.out]; simp [HXY.out]⟩⟩
        · have hb : (!x == y) = true := by cases x <;> cases y <;> simp_all
          have HXY := Aside0.mk hxy
          clear hxy
          go_wp2
          go_quiet (fail)
          go_wp2
          go_ret
          exact ⟨ret_bool (by rw [← HDD.out]; simp [HXY.out]), pw_below_drewN BW.out _⟩
      · have HE : k = l.length := by have := HX.out.1; omega
        have HD := HA.out
        rw [HE, List.drop_length, show m.drop l.length = [] by rw [HN.out, List.drop_length]] at HD
        have HDD := Aside0.mk HD
        clear HD HE HA
        go_wp2
        go_ret
        exact ⟨ret_bool (by rw [← HDD.out]; simp), BW.out⟩
  · have hnb : ((l.length : Int) != (m.length : Int)) = true := bne_iff_ne.mpr (by omega)
    have HN := Aside0.mk hn
    clear hn
    go_enter Try.func31, Try.ntmps31
    go_wp2
    go_ret
    exact ⟨ret_bool (by rw [decide_eq_false (fun h => HN.out (by rw [h]))]), Below.refl _ _⟩
theorem blk12 {w : World} {g : Nat} {t : TypeId} {v0 v1 v2 v3 v4 v5 v6 v7 v8 v9 v10 v11 : Value} (h : w.heap[g]? = some (.cells #[v0, v1, v2, v3, v4, v5, v6, v7, v8, v9, v10, v11] t (0, 0))) :
    (w.cell? ⟨g, 0, none⟩ = some v0 ∧ w.cell? ⟨g, 1, none⟩ = some v1 ∧ w.cell? ⟨g, 2, none⟩ = some v2 ∧ w.cell? ⟨g, 3, none⟩ = some v3 ∧ w.cell? ⟨g, 4, none⟩ = some v4) ∧ w.cell? ⟨g, 5, none⟩ = some v5 ∧ w.cell? ⟨g, 6, none⟩ = some v6 ∧ w.cell? ⟨g, 7, none⟩ = some v7 ∧ w.cell? ⟨g, 8, none⟩ = some v8 ∧ w.cell? ⟨g, 9, none⟩ = some v9 ∧ w.cell? ⟨g, 10, none⟩ = some v10 ∧ w.cell? ⟨g, 11, none⟩ = some v11 :=
  ⟨⟨blk_cell h 0, blk_cell h 1, blk_cell h 2, blk_cell h 3, blk_cell h 4⟩, blk_cell h 5, blk_cell h 6, blk_cell h 7, blk_cell h 8, blk_cell h 9, blk_cell h 10, blk_cell h 11⟩
/-- A circuit that is right has numbers of 64 bits. -/
theorem fits_cb {c : Circ} (hc : check c = 0) : c.Fits := by
  have h := cbnd_of hc
  have h0 := h.h0
  have hn := h.n
  refine ⟨by omega, by omega, ⟨by omega, by omega⟩, fun x hx => ?_, fun x hx => ?_, fun l hl => ?_, fun l hl => ?_⟩
  · have h1 := h.ls x hx
    have h2 := h.rs x hx
    exact ⟨⟨by omega, by omega⟩, ⟨by omega, by omega⟩⟩
  · obtain ⟨i, hk, rfl⟩ := List.getElem_of_mem hx
    have h1 := h.gs i hk
    exact ⟨⟨by omega, by omega⟩, ⟨by omega, by omega⟩⟩
  · have h1 := h.bs l (List.mem_append_left _ hl); exact ⟨by omega, by omega⟩
  · have h1 := h.bs l (List.mem_append_right _ hl); exact ⟨by omega, by omega⟩
end Go.Proofs.Ytpoadkogcdfglaa.PH
