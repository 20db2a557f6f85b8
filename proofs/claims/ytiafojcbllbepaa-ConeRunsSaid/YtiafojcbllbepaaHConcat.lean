/- slices.Grow at nil, slices.Concat, at []int. -/
import Derived.Test.YtiafojcbllbepaaHMap
import Derived.Lib.AppendZerosOnto
import Derived.Lib.SliceRun
import Derived.Shelf.RegionOpenPlain
namespace Go.Proofs.Ytiafojcbllbepaa.PH
open Go.RowKit Go.Proofs.YtiafojcbllbepaaW.PrintWords Go.Proofs.YtiafojcbllbepaaW.PrintLast
set_option linter.unusedVariables false
set_option linter.unusedSimpArgs false

set_option maxHeartbeats 2000000 in
set_option maxRecDepth 100000 in
theorem slices_Grow_int (n : Nat) (hn : n ≤ 4000000) (w : World) :
    Calls Try.prog 55 #[.slice none 0 0, .int .i64 (n : Int)] w fun e w' => RetR (Kd.int .i64) 3 w w' [] e := by
  by_cases h0 : n = 0
  · subst h0
    go_enter Try.func55, Try.ntmps55
    go_wp2
    go_ret
    exact ⟨none, 0, rfl, Kd.R_nil _ _ _ _ _, Below.refl _ _⟩
  · obtain ⟨i0, hi, hzz⟩ := Option.map_eq_some_iff.1 infoInt
    simp only [Prod.mk.injEq] at hzz
    obtain ⟨hz0, hz1, hz2⟩ := hzz
    have hgc : 0 + n ≤ grownCap w (0 + n) 0 3 := grownCap_ge w _ _ _
    have hrz := Lib.run_append_grow_zeros (P := Try.prog) w 24 3 24 3 i0 (.int .i64 0) .i64 .i64 Try.underlying24 Try.underlying3 hi hz0 none 0 0 [] (run_firstCells_none w.drew i0.size 0 0 0) n (by omega) (by omega) (by omega) (by omega) (by rw [hz2]; omega)
      (by rw [hz2]; exact growslice_fits (by omega) (by omega))
    have hG63 := grownCap_le_maxLen w (0 + n) 0 3 (by unfold maxLen; omega)
    rw [Nat.zero_add] at hrz hgc hG63
    obtain ⟨G, hG⟩ : ∃ G, G = grownCap w n 0 3 := ⟨_, rfl⟩
    rw [← hG] at hrz hgc hG63
    clear hG
    have HX := Aside0.mk hG63
    have h1 : 0 < n := by omega
    have HGC := Aside0.mk hgc
    clear hgc hG63 hz0 hz1 hz2 hi
    generalize hcs : (([] : List Value).toArray ++ Builtin.zeroCells (Value.int .i64 0).cells n ++ Builtin.zeroCells (Value.int .i64 0).cells (G - n)) = cs at hrz
    go_enter Try.func55, Try.ntmps55
    go_wp2_with (at_builtin; refine Lib.wpList_append_run _ rfl _ _ _ _ rfl _ _ rfl rfl _ _ (hrz) ?_)
    go_ret
    have hsz : cs.size = G * 1 := by
      rw [← hcs]
      have := HGC.out
      simp only [Array.size_append, size_zeroCells, List.size_toArray, List.length_nil, Value.cells, Array.size_singleton]
      simp
      omega
    exact ⟨some ⟨w.heap.size, 0, none⟩, G, rfl, ⟨fun _ _ => trivial, [], World.ownsRow_made w.drew cs G (Nat.le_refl _) HX.out hsz, Reps.none _ _⟩, below_alloc (below_drew (Below.refl _ _)) _⟩

/-- How many numbers there are in some rows. -/
def sumLen : List (List Int) → Nat
  | [] => 0
  | l :: ls => l.length + sumLen ls
theorem sumLen_eq : ∀ ls : List (List Int), sumLen ls = ls.flatten.length
  | [] => rfl
  | l :: ls => by simp [sumLen, sumLen_eq ls]
theorem flat_take (ls : List (List Int)) (k : Nat) : (ls.take k).flatten.length ≤ ls.flatten.length := by
  have h := congrArg (fun l => l.flatten.length) (List.take_append_drop k ls)
  simp only [List.flatten_append, List.length_append] at h
  omega
theorem flat_step {ls : List (List Int)} {k : Nat} (h : k < ls.length) : (ls.take (k + 1)).flatten = (ls.take k).flatten ++ ls[k] := by
  rw [take_at h, List.flatten_append, List.flatten_cons, List.flatten_nil, List.append_nil]
set_option maxHeartbeats 4000000 in
set_option maxRecDepth 100000 in
theorem slices_Concat_int (A : Option Addr) (c : Nat) (ls : List (List Int)) (w : World) (h : RS (Kd.slice 3 (Kd.int .i64)) w A c ls) (hn : ls.flatten.length ≤ 4000000) (hl : ls.length ≤ 4000000) :
    Calls Try.prog 32 #[.slice A ls.length c] w fun e w' => RetR (Kd.int .i64) 3 w w' ls.flatten e := by
  have HH := Aside0.mk h
  have HN := Aside0.mk hn
  have HL := Aside0.mk hl
  clear h hn hl
  go_enter Try.func32, Try.ntmps32
  go_wp2
  go_loopg [3, 11] ls.length (fun gg s3 s11 wr => ∃ (k m : Nat), s3 = .int .i64 m ∧ s11 = .int .i64 k ∧ Aside0 (k ≤ ls.length ∧ ls.length - k ≤ gg) ∧ Aside0 (m = (ls.take k).flatten.length) ∧ Aside0 (Below w.heap.size w wr))
  case atStart => exact ⟨0, 0, rfl, rfl, ⟨by omega, by omega⟩, ⟨rfl⟩, ⟨Below.refl _ _⟩⟩
  case round =>
    obtain ⟨k, m, rfl, rfl, HK, HM, BW⟩ := hrel
    by_cases hlt : k < ls.length
    · obtain ⟨ad, B, d, e, hc, hr⟩ := at_row (HH.out.below BW.out).r k hlt
      cases e
      have hm1 := flat_step hlt
      have hm2 := flat_take ls (k + 1)
      rw [hm1, List.length_append, ← HM.out] at hm2
      have HM1 := Aside0.mk (show m + ls[k].length = (ls.take (k + 1)).flatten.length by rw [hm1, List.length_append, HM.out])
      have hnn := HN.out
      have hw : wrap64 ((m : Int) + (ls[k].length : Int)) = ((m + ls[k].length : Nat) : Int) := by rw [wrap_in (by omega) (by omega)]; omega
      have hlt0 : decide (((m + ls[k].length : Nat) : Int) < 0) = false := decide_eq_false (by omega)
      have HKK := Aside0.mk hlt
      clear hm1 hm2 hnn hr
      generalize ls[k].length = lk at *
      generalize m + lk = m1 at *
      go_wp2
      go_roundg (ls.length - (k + 1))
      case measure => have := HK.out; have := HKK.out; omega
      case rel => exact ⟨k + 1, m1, val_eq hw, val_step HKK.out (by have := HL.out; omega), ⟨HKK.out, by have := HK.out; omega⟩, HM1, BW⟩
    · have hk : k = ls.length := by have := HK.out; omega
      have HM1 := Aside0.mk (show m ≤ 4000000 by rw [HM.out]; exact Nat.le_trans (flat_take ls k) HN.out)
      clear hlt HM
      subst hk
      go_wp2_with fail
      refine (slices_Grow_int m HM1.out _).mono ?_
      rintro e w2 ⟨V, cap, rfl, hR, hb⟩
      have S0 := Aside0.mk ((Parts.start' BW.out).freshF flat_int hb hR)
      clear hR hb BW
      go_wp2
      go_loopg [6, 27] ls.length (fun gg s6 s27 wr => ∃ (k : Nat) (V : Option Addr) (n cap : Nat), s6 = .slice V n cap ∧ s27 = .int .i64 k ∧ Aside0 (k ≤ ls.length ∧ ls.length - k ≤ gg) ∧ Aside0 (n = (ls.take k).flatten.length) ∧ Aside0 (Parts w.heap.size w wr [pF w.heap.size (Kd.int .i64) 3 (.slice V n cap) (ls.take k).flatten]))
      case atStart => exact ⟨0, V, 0, cap, rfl, rfl, ⟨by omega, by omega⟩, ⟨rfl⟩, S0⟩
      case round =>
        clear HK S0
        obtain ⟨k, V, n, cap, rfl, rfl, HK, HN2, S⟩ := hrel
        by_cases hlt : k < ls.length
        · obtain ⟨ad, B, d, e, hc, hr⟩ := at_row (HH.out.below S.out.B).r k hlt
          cases e
          have hm1 := flat_step hlt
          have hm2 := flat_take ls (k + 1)
          have HLE := Aside0.mk (show (ls.take k).flatten.length + ls[k].length ≤ 4000000 by have := HN.out; rw [hm1, List.length_append] at hm2; omega)
          have HM2 := Aside0.mk hm1
          have HKK := Aside0.mk hlt
          have HR := Aside0.mk hr
          clear hm1 hm2 hr
          generalize ls[k] = x at *
          generalize (ls.take k).flatten = ys at *
          go_wp2_with (at_builtin; refine Parts.appendR (0 : Int) S.out 0 rfl rfl (.tmp 31) (.tmp 32) 24 (.int .i64 0) 8 rfl Try.underlying24 infoInt rfl (by decide) x B d rfl rfl HR.out (by have := HLE.out; omega) ?_; intro V2 cap2 w3 h3; have S3 := Aside0.mk h3; clear h3)
          go_roundg (ls.length - (k + 1))
          case measure => have := HK.out; have := HKK.out; omega
          case rel => exact ⟨k + 1, V2, _, cap2, rfl, val_step HKK.out (by have := HL.out; omega), ⟨HKK.out, by have := HK.out; omega⟩, ⟨by rw [HM2.out, List.length_append]⟩, ⟨by rw [HM2.out]; exact S3.out⟩⟩
        · have hk : k = ls.length := by have := HK.out; omega
          subst hk
          rw [List.take_length] at S HN2
          go_wp2
          go_ret
          have h_ := HN2.out
          subst h_
          exact ⟨V, cap, rfl, S.out.ownF 0 rfl, S.out.B⟩
end Go.Proofs.Ytiafojcbllbepaa.PH
