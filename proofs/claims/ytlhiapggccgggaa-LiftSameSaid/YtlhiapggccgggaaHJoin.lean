/- The reference: Join puts the AND of two literals behind gates. -/
import Derived.Test.YtlhiapggccgggaaHBuild
import Derived.Test.YtlhiapggccgggaaWEqStruct
import Derived.Deep.RegionHeld3
import Derived.Deep.QuietTactic
import Derived.BigQuiet
namespace Go.Proofs.Ytlhiapggccgggaa.PH
open Go.RowKit Go.Proofs.YtlhiapggccgggaaW.PrintWords Go.Proofs.YtlhiapggccgggaaW.PrintLast
set_option linter.unusedVariables false
set_option linter.unusedSimpArgs false

/-- What Join answers: the gates and the literal, with so many variables ahead of the gates. -/
def joinR (ands : List Gate) (before : Int) (x y : Int) : List Gate × Int :=
  if (simpleR x y).2 then (ands, (simpleR x y).1)
  else if gidx (gateOf x y) ands 0 < 0 then (ands ++ [gateOf x y], 2 * (before + 1 + ands.length))
  else (ands, 2 * (before + 1 + gidx (gateOf x y) ands 0))
/-- Gates that are its own, and a literal, come back; what lies elsewhere is as it was. -/
def RetJ (b0 : Nat) (E : Option Addr) (n cap : Nat) (r : List Gate × Int) (w w' : World) (e : Ending) : Prop :=
  ∃ E' cap', e = .returned (.tuple #[.slice E' r.1.length cap', .int .i64 r.2]) ∧ Kd.R kGate 93 w' b0 (fun _ => True) (.slice E' r.1.length cap') r.1 ∧ (∀ k, (Value.slice E' r.1.length cap').ownBlock = some k → (Value.slice E n cap).ownBlock = some k ∨ w.heap.size ≤ k) ∧
    Below b0 w w' ∧ (∀ k, k < w.heap.size → some k ≠ (Value.slice E n cap).ownBlock → w'.heap[k]? = w.heap[k]?)
theorem gidx_cons (g x : Gate) (xs : List Gate) (k : Nat) : gidx g (x :: xs) k = if g.f0 = x.f0 ∧ g.f1 = x.f1 then (k : Int) else gidx g xs (k + 1) := rfl
theorem eqGate (d : Nat) (w : World) (x0 y0 : Int) (x1 y1 : Int) :
    (Op.equalIn (d + 2) 93 (.agg #[.int .i64 x0, .int .i64 x1]) (.agg #[.int .i64 y0, .int .i64 y1])).run Try.prog w = .ok (x0 == y0 && (x1 == y1)) w := by
  refine eqA_of Try.underlying93 (by kernel_rfl) ?_
  refine eqf_cons (by rfl) (by go_simp; rfl) (by go_simp; rfl) (by go_simp) ?_
  exact eqf_last (by rfl) (by go_simp; rfl) (by go_simp; rfl) (by go_simp)
attribute [local go_sem high] eqGate
attribute [local go_sem] max_pair min_pair
theorem gate_ext (x y : Gate) : x = y ↔ x.f0 = y.f0 ∧ x.f1 = y.f1 := by
  cases x; cases y; simp
set_option maxHeartbeats 4000000 in
set_option maxRecDepth 100000 in
theorem ref24_Join_simple (b0 : Nat) (E : Option Addr) (cap : Nat) (ands : List Gate) (before : Int) (x y : Int) (w : World) (hx : IsBig x) (hR : Kd.R kGate 93 w b0 (fun _ => True) (.slice E ands.length cap) ands) (hb : b0 ≤ w.heap.size) (hs : (simpleR x y).2 = true) :
    Calls Try.prog 106 #[.slice E ands.length cap, .int .i64 before, .int .i64 x, .int .i64 y] w fun e w' => RetJ b0 E ands.length cap (joinR ands before x y) w w' e := by
  have HA := Aside0.mk (fun W => ref01_Simple x y W hx)
  have HR := Aside0.mk hR
  have HB := Aside0.mk hb
  unfold joinR
  rw [if_pos hs]
  generalize simpleR x y = ps at *
  obtain ⟨l, s⟩ := ps
  dsimp only at hs
  subst hs
  clear hR hb hx
  go_enter Try.func106, Try.ntmps106
  go_wp2_with fail
  refine (HA.out _).mono ?_
  rintro e w1 ⟨rfl, hb1⟩
  have B1 := Aside0.mk hb1
  clear hb1
  go_wp2
  refine bodyPost_ret (results_tmp2 rfl _ _ _) rfl ?_
  exact ⟨E, cap, rfl, Kd.R_below HR.out B1.out, fun k hk => .inl hk, B1.out.mono HB.out, fun k hk _ => B1.out.block k hk⟩
set_option maxHeartbeats 4000000 in
set_option maxRecDepth 100000 in
theorem ref24_Join_not (b0 : Nat) (E : Option Addr) (cap : Nat) (ands : List Gate) (before : Int) (x y : Int) (w : World) (hx : IsBig x) (hR : Kd.R kGate 93 w b0 (fun _ => True) (.slice E ands.length cap) ands) (hb : b0 ≤ w.heap.size) (hn : ands.length ≤ 100000) (hf0 : 0 ≤ before) (hf1 : before ≤ 100000) (hs : (simpleR x y).2 = false) :
    Calls Try.prog 106 #[.slice E ands.length cap, .int .i64 before, .int .i64 x, .int .i64 y] w fun e w' => RetJ b0 E ands.length cap (joinR ands before x y) w w' e := by
  have HA := Aside0.mk (fun W => ref01_Simple x y W hx)
  have HR := Aside0.mk hR
  have HB := Aside0.mk hb
  have HN := Aside0.mk (And.intro hn (And.intro hf0 hf1))
  have hu71 := Try.underlying93
  unfold joinR
  rw [if_neg (by rw [hs]; decide)]
  have hhi : (if x < y then y else x) = (gateOf x y).f0 := rfl
  have hlo : (if y < x then y else x) = (gateOf x y).f1 := rfl
  generalize gateOf x y = g at *
  generalize simpleR x y = ps at *
  obtain ⟨l, s⟩ := ps
  dsimp only at hs
  subst hs
  obtain ⟨R, hR2⟩ : ∃ R, (if gidx g ands 0 < 0 then (ands ++ [g], 2 * (before + 1 + (ands.length : Int))) else (ands, 2 * (before + 1 + gidx g ands 0))) = R := ⟨_, rfl⟩
  rw [hR2]
  have HQ := Aside0.mk hR2
  clear hR hR2 hb hx hn hf0 hf1
  go_enter Try.func106, Try.ntmps106
  go_wp2_with fail
  refine (HA.out _).mono ?_
  rintro e w1 ⟨rfl, hb1⟩
  have HGG := Aside0.mk (show w.heap.size ≤ w1.heap.size from hb1.size)
  have B1 := Aside0.mk (hb1.trans ((below_alloc (Below.refl w1.heap.size w1) (.cells #[.int .i64 g.f0, .int .i64 g.f1] 93)).mono hb1.size))
  have BG := Aside0.mk (blk_new w1 (.cells #[.int .i64 g.f0, .int .i64 g.f1] 93))
  clear hb1 HA
  go_wp2
  generalize w1.alloc (.cells #[.int .i64 g.f0, .int .i64 g.f1] 93) = w3 at *
  generalize w1.heap.size = gG at *
  clear hhi hlo
  go_loopg [13] ands.length (fun gg s13 wr => ∃ i : Nat, s13 = .int .i64 i ∧ Aside0 (i ≤ ands.length ∧ ands.length - i ≤ gg) ∧ Aside0 (Below w.heap.size w wr) ∧ Aside0 (wr.heap[gG]? = some (.cells #[.int .i64 g.f0, .int .i64 g.f1] 93 (0, 0))) ∧ Aside0 (gidx g (ands.drop i) i = gidx g ands 0))
  case atStart => exact ⟨0, rfl, ⟨by omega, by omega⟩, B1, BG, ⟨by simp⟩⟩
  case round =>
    clear B1 BG
    obtain ⟨i, rfl, HI, BW, BG, HT⟩ := hrel
    have b0_ := (blk_cell BG.out 0).trans rfl
    have b1_ := (blk_cell BG.out 1).trans rfl
    by_cases hlt : i < ands.length
    · obtain ⟨ad, e1, hx, hy⟩ := at_gate (Kd.C_below (RS.of_R' HR.out).r BW.out) i hlt
      cases e1
      have HTT := HT.out
      rw [drop_at hlt, gidx_cons] at HTT
      have HLT := Aside0.mk hlt
      generalize ands[i] = y at *
      have HT2 := Aside0.mk HTT
      clear HTT HT
      have HBW := Aside0.mk (fun n => (pw_below_drewN BW.out n))
      by_cases hxy : g.f0 = y.f0 ∧ g.f1 = y.f1
      · have HT3 := HT2.out
        rw [if_pos hxy] at HT3
        have HR2 := Aside0.mk (show R = (ands, 2 * (before + 1 + (i : Int))) by have h_ := HQ.out; rw [← HT3, if_neg (by omega)] at h_; exact h_.symm)
        have hz0 : (y.f0 == g.f0) = true := beq_iff_eq.mpr hxy.1.symm
        have hz1 : (y.f1 == g.f1) = true := beq_iff_eq.mpr hxy.2.symm
        have HW := Aside0.mk (show wrap64 (2 * wrap64 (wrap64 (before + 1) + (i : Int))) = 2 * (before + 1 + (i : Int)) by
          have := HN.out; have := HLT.out
          rw [wrap_in (x := before + 1) (by omega) (by omega), wrap_in (x := before + 1 + (i : Int)) (by omega) (by omega), wrap_in (by omega) (by omega)])
        clear hxy HT3
        go_wp2
        go_quiet (fail)
        go_wp2
        refine bodyPost_ret (results_tmp2 rfl _ _ _) rfl ?_
        rw [HR2.out]
        exact ⟨_, cap, by rw [← HW.out]; rfl, Kd.R_below HR.out (HBW.out _), fun k hk => .inl hk, (HBW.out _).mono HB.out, fun k hk _ => (HBW.out _).block k hk⟩
      · have HT3 := HT2.out
        rw [if_neg hxy] at HT3
        have HT4 := Aside0.mk HT3
        have hzz : (y.f0 == g.f0 && y.f1 == g.f1) = false := by
          rw [Bool.eq_false_iff]; intro h; simp at h; exact hxy ⟨h.1.symm, h.2.symm⟩
        clear hxy HT3
        cases hz0 : (y.f0 == g.f0) with
        | false =>
          go_wp2
          go_quiet (fail)
          go_wp2
          go_roundg (ands.length - (i + 1))
          case measure => have := HI.out; have := HLT.out; omega
          case rel => exact ⟨i + 1, val_step HLT.out (by have := HN.out; omega), ⟨HLT.out, by have := HI.out; omega⟩, ⟨HBW.out _⟩, ⟨blk_below BG.out (pw_below_drewN (Below.refl _ _) _)⟩, HT4⟩
        | true =>
          have hz1 : (y.f1 == g.f1) = false := by rw [hz0, Bool.true_and] at hzz; exact hzz
          clear hzz
          go_wp2
          go_quiet (fail)
          go_wp2
          go_roundg (ands.length - (i + 1))
          case measure => have := HI.out; have := HLT.out; omega
          case rel => exact ⟨i + 1, val_step HLT.out (by have := HN.out; omega), ⟨HLT.out, by have := HI.out; omega⟩, ⟨HBW.out _⟩, ⟨blk_below BG.out (pw_below_drewN (Below.refl _ _) _)⟩, HT4⟩
    · have hi : i = ands.length := by have := HI.out.1; omega
      subst hi
      have HR2 := Aside0.mk (show R = (ands ++ [g], 2 * (before + 1 + (ands.length : Int))) by
        have h_ := HQ.out
        have h2 := HT.out
        rw [List.drop_length] at h2
        rw [← h2, show gidx g [] ands.length = -1 from rfl, if_pos (by decide)] at h_
        exact h_.symm)
      have HW := Aside0.mk (show wrap64 (2 * wrap64 (wrap64 (before + 1) + (ands.length : Int))) = 2 * (before + 1 + (ands.length : Int)) by
        have := HN.out
        rw [wrap_in (x := before + 1) (by omega) (by omega), wrap_in (x := before + 1 + (ands.length : Int)) (by omega) (by omega), wrap_in (by omega) (by omega)])
      clear HT
      go_wp2_with (first | (at_builtin; refine Kd.R_append kGate (w0 := wr) (W := wr) b0 rfl (.tmp 48) (.tmp 50) 23 93 (.agg #[.int .i64 0, .int .i64 0]) 16 rfl Try.underlying23 info_gate rfl (by decide) (by omega) (.slice E ands.length cap) ands g [.int .i64 g.f0, .int .i64 g.f1] (fun _ => True) (fun _ => False) rfl rfl ?aP (fun _ h => h.elim) ?aF ?aO ?aB ?aS ?aL ?_; (case aP => exact kGate_mkM _ _ _ g); (case aF => exact fun _ _ => trivial); (case aO => exact Kd.R_below HR.out BW.out); (case aB => exact Below.refl _ _); (case aS => exact Nat.le_trans HB.out BW.out.size); (case aL => have := HN.out; omega); intro v1 w5 ho hb hg hat; obtain ⟨E5, cap5, rfl, _, _⟩ := Kd.R_reads ho; have R5 := Aside0.mk ho; have W5 := Aside0.mk hb; have G5 := Aside0.mk hg; have T5 := Aside0.mk hat; clear ho hb hg hat))
      refine bodyPost_ret (results_tmp2 rfl _ _ _) rfl ?_
      rw [HR2.out]
      refine ⟨E5, cap5, by simp only [List.length_append, List.length_singleton]; rw [← HW.out]; rfl, R5.out, fun k hk => ?_, (BW.out.mono HB.out).trans W5.out, fun k hk hne => (G5.out.block k (Nat.lt_of_lt_of_le hk BW.out.size) hne).trans (BW.out.block k hk)⟩
      rcases T5.out with h_ | ⟨b, h_, hb_⟩
      · exact .inl (h_ ▸ hk)
      · rw [show ((ands ++ [g], 2 * (before + 1 + (ands.length : Int))) : List Gate × Int).1 = ands ++ [g] from rfl] at hk
        rw [hk] at h_
        cases h_
        exact .inr (Nat.le_trans BW.out.size hb_)
/-- Join. -/
theorem ref24_Join (b0 : Nat) (E : Option Addr) (cap : Nat) (ands : List Gate) (before : Int) (x y : Int) (w : World) (hx : IsBig x) (hR : Kd.R kGate 93 w b0 (fun _ => True) (.slice E ands.length cap) ands) (hb : b0 ≤ w.heap.size) (hn : ands.length ≤ 100000) (hf0 : 0 ≤ before) (hf1 : before ≤ 100000) :
    Calls Try.prog 106 #[.slice E ands.length cap, .int .i64 before, .int .i64 x, .int .i64 y] w fun e w' => RetJ b0 E ands.length cap (joinR ands before x y) w w' e := by
  cases hs : (simpleR x y).2
  · exact ref24_Join_not b0 E cap ands before x y w hx hR hb hn hf0 hf1 hs
  · exact ref24_Join_simple b0 E cap ands before x y w hx hR hb hs
end Go.Proofs.Ytlhiapggccgggaa.PH
