/- The reference's builder: Made, Either, Other, Signed. -/
import Derived.Test.YtpoadkogcdfglaaHLitB
import Derived.Test.YtpoadkogcdfglaaHBldF
import Derived.Test.YtpoadkogcdfglaaHSame
import Derived.Deep.RegionHeld3
import Derived.Deep.QuietTactic
import Derived.BigQuiet
namespace Go.Proofs.Ytpoadkogcdfglaa.PH
open Go.RowKit Go.Proofs.YtpoadkogcdfglaaW.PrintWords Go.Proofs.YtpoadkogcdfglaaW.PrintLast
set_option linter.unusedVariables false
set_option linter.unusedSimpArgs false
attribute [local go_sem] max_pair min_pair
attribute [local go_sem high] eqGate

/-- The reference's circuit that grows: its block, its gates. -/
@[reducible] def rCells (inp : Int) (vL vA : Option Addr × Nat) (nL nA : Nat) (bs : Value × Value) : Array Value := #[.int .i64 inp, .slice vL.1 nL vL.2, .slice vA.1 nA vA.2, bs.1, bs.2]
@[reducible] def rPs (b gC : Nat) (inp : Int) (nL : Nat) (bs : Value × Value) (vL vA : Option Addr × Nat) (ands : List Gate) : List Pc :=
  [pB gC 26 (rCells inp vL vA nL ands.length bs), pF b kGate 92 (.slice vA.1 ands.length vA.2) ands]
def RRet (b gC : Nat) (inp : Int) (nL : Nat) (bs : Value × Value) (vL : Option Addr × Nat) (ps : List Pc) (w0 w' : World) (r : List Gate × Int) (e : Ending) : Prop :=
  ∃ vA, e = .returned (.int .i64 r.2) ∧ Parts b w0 w' (rPs b gC inp nL bs vL vA r.1 ++ ps)
set_option maxHeartbeats 1000000 in
set_option maxRecDepth 100000 in
theorem ref26_Other (l : Int) (w : World) (h : LB l) :
    Calls Try.prog 78 #[.int .i64 l] w fun e w' => e = .returned (.int .i64 (lNot l)) ∧ Below w.heap.size w w' := by
  have HN := Aside0.mk (fun W => ref01_Not l W h)
  clear h
  go_enter Try.func78, Try.ntmps78
  go_wp2_with fail
  refine (HN.out _).mono ?_
  rintro e w1 ⟨rfl, hb⟩
  have BW := Aside0.mk hb
  clear hb
  go_wp2
  go_ret
  exact ⟨rfl, BW.out⟩
set_option maxHeartbeats 1000000 in
set_option maxRecDepth 100000 in
theorem ref26_Signed (x l : Int) (w : World) (h : LB x) (hl : 0 ≤ l) :
    Calls Try.prog 109 #[.int .i64 x, .int .i64 l] w fun e w' => e = .returned (.int .i64 (if l % 2 = 1 then lNot x else x)) ∧ Below w.heap.size w w' := by
  have HN := Aside0.mk (fun W => ref26_Other x W h)
  have ht := tmod_two hl
  clear h hl
  by_cases hz : l % 2 = 1
  · rw [if_pos hz]
    have hq : (wrap64 (l.tmod 2) == 1) = true := by rw [ht, hz, wrap_in (by decide) (by decide)]; rfl
    have hq2 : (l.tmod 2 == 1) = true := by rw [ht, hz]; rfl
    clear ht
    go_enter Try.func109, Try.ntmps109
    go_wp2_with fail
    refine (HN.out _).mono ?_
    rintro e w1 ⟨rfl, hb⟩
    have BW := Aside0.mk hb
    clear hb
    go_wp2
    go_ret
    exact ⟨rfl, BW.out⟩
  · rw [if_neg hz]
    have hq2 : (l.tmod 2 == 1) = false := by rw [ht]; exact beq_eq_false_iff_ne.2 hz
    have hq : (wrap64 (l.tmod 2) == 1) = false := by rw [ht, wrap_in (by omega) (by omega)]; exact beq_eq_false_iff_ne.2 hz
    clear ht
    go_enter Try.func109, Try.ntmps109
    go_wp2
    go_ret
    exact ⟨rfl, Below.refl _ _⟩
set_option maxRecDepth 100000 in
/-- ref02.Size of any circuit. -/
theorem ref02_SizeV (inp : Int) (vL vA : Option Addr × Nat) (nL nA : Nat) (bs : Value × Value) (w : World) (h0 : 0 ≤ inp) (h1 : inp ≤ 1000000) (h2 : nL ≤ 1000000) (h3 : nA ≤ 1000000) :
    Calls Try.prog 49 #[.agg (rCells inp vL vA nL nA bs)] w fun e w' => e = .returned (.int .i64 (inp + nL + nA)) ∧ Below w.heap.size w w' := by
  have HW := Aside0.mk (show wrap64 (wrap64 (inp + nL) + nA) = inp + nL + nA by rw [wrap_in (x := inp + nL) (by omega) (by omega), wrap_in (by omega) (by omega)])
  clear h0 h1 h2 h3
  have hu26 := Try.underlying26
  go_enter Try.func49, Try.ntmps49
  go_wp2
  go_ret
  exact ⟨ret_int (by rw [← HW.out]), below_alloc (Below.refl _ _) _⟩
theorem idx_at {l : List Gate} {i : Nat} (h : i < l.length) {g : Gate} (he : l[i] = g) (hn : g ∉ l.take i) : g ∈ l ∧ l.idxOf g = i := by
  subst he
  refine ⟨List.getElem_mem h, ?_⟩
  have e : l = l.take i ++ l[i] :: l.drop (i + 1) := by rw [← List.drop_eq_getElem_cons h, List.take_append_drop]
  have h2 : l.idxOf l[i] = (l.take i ++ l[i] :: l.drop (i + 1)).idxOf l[i] := by rw [← e]
  rw [h2, List.idxOf_append, if_neg hn, List.idxOf_cons_self, List.length_take]
  omega
theorem not_next {l : List Gate} {i : Nat} (h : i < l.length) {g : Gate} (he : l[i] ≠ g) (hn : g ∉ l.take i) : g ∉ l.take (i + 1) := by
  rw [List.take_add_one, List.getElem?_eq_getElem h]
  simp only [Option.toList_some, List.mem_append, List.mem_singleton, not_or]
  exact ⟨hn, fun e => he e.symm⟩
set_option maxHeartbeats 4000000 in
set_option maxRecDepth 100000 in
theorem ref26_Made {b gC : Nat} {inp : Int} {nL : Nat} {bs : Value × Value} {vL vA : Option Addr × Nat} {ands : List Gate} {ps : List Pc} {w0 w : World} (S : Parts b w0 w (rPs b gC inp nL bs vL vA ands ++ ps)) (hO : BOk inp nL ands) {x y : Int} (hx : LB x) (hy : LB y) :
    Calls Try.prog 77 #[.pointer (some ⟨gC, 0, none⟩), .int .i64 x, .int .i64 y] w fun e w' => RRet b gC inp nL bs vL ps w0 w' (bAnd (inp + nL) ands x y) e := by
  replace S := Aside0.mk S
  have HO := Aside0.mk hO
  have HXY := Aside0.mk (And.intro hx hy)
  have hu26 := Try.underlying26
  have hu45 := Try.underlying92
  obtain ⟨r, hr⟩ : ∃ r, bAnd (inp + nL) ands x y = r := ⟨_, rfl⟩
  rw [hr]
  have HR := Aside0.mk hr
  have HC := Aside0.mk (fun W => ref01_Simple x y W hx)
  have HSE := Aside0.mk (simple_eq hx hy)
  clear hO hx hy hr
  obtain ⟨⟨sl, sb⟩, hs⟩ : ∃ r, lSimple x y = r := ⟨_, rfl⟩
  rw [hs] at HC HSE
  clear hs
  go_enter Try.func77, Try.ntmps77
  go_wp2_with fail
  refine (HC.out _).mono ?_
  rintro e w1 ⟨rfl, hb⟩
  have S1 := Aside0.mk (S.out.below hb)
  clear hb S HC
  dsimp only at HSE ⊢
  cases sb with
  | true =>
    have HE := Aside0.mk (show r = (ands, sl) by rw [← HR.out]; unfold bAnd; rw [HSE.out]; rfl)
    go_wp2
    go_ret
    exact ⟨vA, by rw [HE.out]; rfl, by rw [HE.out]; exact S1.out⟩
  | false =>
    have HE := Aside0.mk (show r = if bGate x y ∈ ands then (ands, 2 * (inp + nL + 1 + (ands.idxOf (bGate x y) : Nat))) else (ands ++ [bGate x y], 2 * (inp + nL + 1 + ands.length)) by
      rw [← HR.out]; unfold bAnd; rw [HSE.out]; rfl)
    clear HR HSE
    go_upto_region 5 with (fail)
    obtain ⟨gt, hgt⟩ : ∃ g : Gate, bGate x y = g := ⟨_, rfl⟩
    have e0 : (if x < y then y else x) = gt.f0 := by rw [← hgt]; rfl
    have e1 : (if y < x then y else x) = gt.f1 := by rw [← hgt]; rfl
    rw [hgt] at HE
    rw [e0, e1]
    have S2 := Aside0.mk (S1.out.new 92 #[.int .i64 gt.f0, .int .i64 gt.f1])
    clear hgt e0 e1 S1
    generalize w1.heap.size = gX at *
    generalize w1.alloc (.cells #[.int .i64 gt.f0, .int .i64 gt.f1] 92) = w2 at *
    have HNA := Aside0.mk (show (0 ≤ inp ∧ inp ≤ 100000) ∧ nL ≤ 100000 ∧ ands.length ≤ 100000 from ⟨⟨HO.out.i0, HO.out.i1⟩, HO.out.l1, HO.out.a1⟩)
    obtain ⟨vA1, vA2⟩ := vA
    go_wp2
    go_loopg [10] ands.length (fun gg s10 wr => ∃ i : Nat, s10 = .int .i64 i ∧ Aside0 (i ≤ ands.length ∧ ands.length - i ≤ gg) ∧ Aside0 (gt ∉ ands.take i) ∧ Aside0 (Parts b w0 wr (pB gX 92 #[.int .i64 gt.f0, .int .i64 gt.f1] :: (rPs b gC inp nL bs vL (vA1, vA2) ands ++ ps))))
    case atStart => exact ⟨0, rfl, ⟨by omega, by omega⟩, ⟨by simp⟩, S2⟩
    case round =>
      clear S2
      obtain ⟨i, rfl, HK, HM, S⟩ := hrel
      obtain ⟨c2, f2⟩ := S.out.cell 1 rfl 2 rfl
      obtain ⟨g0, g1⟩ := (⟨(S.out.cell 0 rfl 0 rfl).1, (S.out.cell 0 rfl 1 rfl).1⟩ : _ ∧ _)
      try dsimp only at c2
      by_cases hlt : i < ands.length
      · obtain ⟨ad, eA, hc0, hc1⟩ := at_gate (S.out.rowF 2 rfl).r i hlt
        try dsimp only at eA
        cases eA
        have HLT := Aside0.mk hlt
        have HZ := Aside0.mk (show ands[i] = gt → gt ∈ ands ∧ ands.idxOf gt = i from fun he => idx_at hlt he HM.out)
        have HZ2 := Aside0.mk (show ands[i] ≠ gt → gt ∉ ands.take (i + 1) from fun he => not_next hlt he HM.out)
        generalize ands[i] = z at *
        clear hlt HM
        have hlt := HLT.out
        by_cases hq : z.f0 = gt.f0 ∧ z.f1 = gt.f1
        · have hz0 : (z.f0 == gt.f0) = true := beq_iff_eq.mpr hq.1
          have hz1 : (z.f1 == gt.f1) = true := beq_iff_eq.mpr hq.2
          obtain ⟨hmem, hidx⟩ := HZ.out ((gate_eq z gt).2 hq)
          have HE2 := Aside0.mk (show r = (ands, 2 * (inp + nL + 1 + (i : Int))) by rw [HE.out, if_pos hmem, hidx])
          obtain ⟨c0, _⟩ := S.out.cell 1 rfl 0 rfl
          obtain ⟨c1, _⟩ := S.out.cell 1 rfl 1 rfl
          have hw : wrap64 (2 * wrap64 (wrap64 (wrap64 (inp + (nL : Int)) + 1) + (i : Int))) = 2 * (inp + nL + 1 + (i : Int)) := by
            have h1 := HNA.out; have h2 := HLT.out
            rw [wrap_in (x := inp + (nL : Int)) (by omega) (by omega), wrap_in (x := inp + (nL : Int) + 1) (by omega) (by omega), wrap_in (x := inp + (nL : Int) + 1 + (i : Int)) (by omega) (by omega), wrap_in (by omega) (by omega)]
          have HW := Aside0.mk hw
          clear hq hmem hidx HZ HZ2 hw
          go_wp2
          go_quiet (fail)
          go_wp2
          go_quiet (fail)
          go_wp2
          go_ret
          refine ⟨(some ad, vA2), by rw [HE2.out]; exact ret_int HW.out, ?_⟩
          rw [HE2.out]
          exact (S.out.below (pw_below_drewN (pw_below_drewN (Below.refl _ _) _) _)).tail
        · have hne : z ≠ gt := fun e => hq ((gate_eq z gt).1 e)
          have HM2 := Aside0.mk (HZ2.out hne)
          have hzz : (z.f0 == gt.f0 && z.f1 == gt.f1) = false := by
            rw [Bool.eq_false_iff]; intro h; simp at h; exact hq h
          clear hq hne HZ HZ2
          cases hz0 : (z.f0 == gt.f0) with
          | false =>
            clear hzz
            go_wp2
            go_quiet (fail)
            go_wp2
            go_roundg (ands.length - (i + 1))
            case measure => have := HK.out; have := HLT.out; omega
            case rel => exact ⟨i + 1, (by first | exact val_step HLT.out (by have := HNA.out; omega) | exact congrArg (Value.int .i64) (by omega)), ⟨HLT.out, by have := HK.out; omega⟩, HM2, ⟨S.out.below (pw_below_drewN (Below.refl _ _) _)⟩⟩
          | true =>
            have hz1 : (z.f1 == gt.f1) = false := by rw [hz0, Bool.true_and] at hzz; exact hzz
            clear hzz
            go_wp2
            go_quiet (fail)
            go_wp2
            go_roundg (ands.length - (i + 1))
            case measure => have := HK.out; have := HLT.out; omega
            case rel => exact ⟨i + 1, (by first | exact val_step HLT.out (by have := HNA.out; omega) | exact congrArg (Value.int .i64) (by omega)), ⟨HLT.out, by have := HK.out; omega⟩, HM2, ⟨S.out.below (pw_below_drewN (Below.refl _ _) _)⟩⟩
      · have hk : i = ands.length := by have := HK.out; omega
        subst hk
        clear hlt
        rw [List.take_length] at HM
        have HE2 := Aside0.mk (show r = (ands ++ [gt], 2 * (inp + nL + 1 + ands.length)) by rw [HE.out, if_neg HM.out])
        go_wp2
        refine start_ (n := 11) (S := (fun w' : World => w'.cell? ⟨gC, 2, none⟩ = some (.slice vA1 ands.length vA2) ∧ w'.cell? ⟨gX, 0, none⟩ = some (.int .i64 gt.f0) ∧ w'.cell? ⟨gX, 1, none⟩ = some (.int .i64 gt.f1))) (ds := [10]) #[false, false, false, false, false, false, false, false, false, false, false] (by kernel_rfl) rfl rfl ⟨c2, g0, g1⟩ (fun hHeld => ?_)
        refine pure_ (i := 0) (N := some 58) (v := ?_) (a' := ?_) #[true, false, false, false, false, false, false, false, false, false, false] rfl rfl (by kernel_rfl) (fun _ _ _ h => h) (Or.inl ⟨by rfl, ?_⟩) ?_ ?_
        rotate_left
        · intro w'
          go_simp
          with_reducible rfl
        rotate_left
        · simp only [Act.put, List.setIfInBounds_toArray, List.set_cons_zero, List.set_cons_succ]
          rfl
        refine pure_ (i := 1) (N := some 59) (v := ?_) (a' := ?_) #[true, true, false, false, false, false, false, false, false, false, false] rfl rfl (by kernel_rfl) (fun _ _ _ h => h) (Or.inl ⟨by rfl, ?_⟩) ?_ ?_
        rotate_left
        · intro w'
          go_simp
          with_reducible rfl
        rotate_left
        · simp only [Act.put, List.setIfInBounds_toArray, List.set_cons_zero, List.set_cons_succ]
          rfl
        refine pure_ (i := 2) (N := some 60) (v := ?_) (a' := ?_) #[true, true, true, false, false, false, false, false, false, false, false] rfl rfl (by kernel_rfl) (fun _ _ _ h => h) (Or.inl ⟨by rfl, ?_⟩) ?_ ?_
        rotate_left
        · intro w'
          go_simp
          with_reducible rfl
        rotate_left
        · simp only [Act.put, List.setIfInBounds_toArray, List.set_cons_zero, List.set_cons_succ]
          rfl
        refine pure_ (i := 3) (N := some 61) (v := ?_) (a' := ?_) #[true, true, true, true, false, false, false, false, false, false, false] rfl rfl (by kernel_rfl) (fun _ _ _ h => h) (Or.inl ⟨by rfl, ?_⟩) ?_ ?_
        rotate_left
        · intro w'
          go_simp
          with_reducible rfl
        rotate_left
        · simp only [Act.put, List.setIfInBounds_toArray, List.set_cons_zero, List.set_cons_succ]
          rfl
        refine take_ (i := 4) (N := some 62) (v := ?_) (a' := ?_) #[true, true, true, true, true, false, false, false, false, false, false] rfl rfl (by kernel_rfl) (fun _ _ _ h => h) (Or.inl ⟨by rfl, ?_⟩) hHeld ?_ ?_
        rotate_left
        · rintro w' ⟨s0, s1, s2⟩
          go_simp
          with_reducible rfl
        rotate_left
        · simp only [Act.put, List.setIfInBounds_toArray, List.set_cons_zero, List.set_cons_succ]
          rfl
        refine take_ (i := 5) (N := some 63) (v := ?_) (a' := ?_) #[true, true, true, true, true, true, false, false, false, false, false] rfl rfl (by kernel_rfl) (fun _ _ _ h => h) (Or.inl ⟨by rfl, ?_⟩) hHeld ?_ ?_
        rotate_left
        · rintro w' ⟨s0, s1, s2⟩
          go_simp
          with_reducible rfl
        rotate_left
        · simp only [Act.put, List.setIfInBounds_toArray, List.set_cons_zero, List.set_cons_succ]
          rfl
        refine one_ (i := 6) (N := some 64) #[true, true, true, true, true, true, true, false, false, false, false] rfl rfl (by kernel_rfl) (by decide) (fun K hK => ?_)
        refine value_ (w1 := ?_) (v := ?_) (by rfl) rfl ?_ ?_
        rotate_left 2
        · go_simp
          constructor
          · rfl
          · rfl
        refine hK.out _ _ ⟨(World.cell?_alloc_lt _ _ _ (World.block_lt_of_cell? _ _ hHeld.1)).trans hHeld.1, (World.cell?_alloc_lt _ _ _ (World.block_lt_of_cell? _ _ hHeld.2.1)).trans hHeld.2.1, (World.cell?_alloc_lt _ _ _ (World.block_lt_of_cell? _ _ hHeld.2.2)).trans hHeld.2.2⟩ (fun hHeld => ?_)
        clear hK K
        refine norm_ (a' := ?_) ?_ ?_
        rotate_left
        · show Act.put _ (some 64) _ = _
          simp only [Act.put, List.setIfInBounds_toArray, List.set_cons_zero, List.set_cons_succ]
          rfl
        refine one_ (i := 7) (N := some 65) #[true, true, true, true, true, true, true, true, false, false, false] rfl rfl (by kernel_rfl) (by decide) (fun K hK => ?_)
        refine Parts.appendS S.out.drew 2 rfl flat_gate (by rfl) (.tmp 62) (.tmp 64) 23 (.agg #[.int .i64 0, .int .i64 0]) 16 rfl Try.underlying23 infoGateB rfl (by decide) (by decide) gt [.int .i64 gt.f0, .int .i64 gt.f1] rfl rfl (kGate_mkM _ _ _ _) (by have := HNA.out; omega) ?_
        intro V4 cap4 w4 h4
        have S4 := Aside0.mk h4
        clear h4 c2 f2 g0 g1
        refine hK.out _ _ ⟨(S4.out.cell 1 rfl 2 rfl).1, (S4.out.cell 0 rfl 0 rfl).1, (S4.out.cell 0 rfl 1 rfl).1⟩ (fun hHeld => ?_)
        clear hK K
        refine norm_ (a' := ?_) ?_ ?_
        rotate_left
        · show Act.put _ (some 65) _ = _
          simp only [Act.put, List.setIfInBounds_toArray, List.set_cons_zero, List.set_cons_succ]
          rfl
        obtain ⟨c2, f2⟩ := S4.out.cell 1 rfl 2 rfl
        refine pure_ (i := 8) (N := some 66) (v := ?_) (a' := ?_) #[true, true, true, true, true, true, true, true, true, false, false] rfl rfl (by kernel_rfl) (fun _ _ _ h => h) (Or.inl ⟨by rfl, ?_⟩) ?_ ?_
        rotate_left
        · intro w'
          go_simp
          with_reducible rfl
        rotate_left
        · simp only [Act.put, List.setIfInBounds_toArray, List.set_cons_zero, List.set_cons_succ]
          rfl
        refine pure_ (i := 9) (N := some 67) (v := ?_) (a' := ?_) #[true, true, true, true, true, true, true, true, true, true, false] rfl rfl (by kernel_rfl) (fun _ _ _ h => h) (Or.inl ⟨by rfl, ?_⟩) ?_ ?_
        rotate_left
        · intro w'
          go_simp
          with_reducible rfl
        rotate_left
        · simp only [Act.put, List.setIfInBounds_toArray, List.set_cons_zero, List.set_cons_succ]
          rfl
        refine last_ (i := 10) (N := none) #[true, true, true, true, true, true, true, true, true, true, true] rfl rfl (by kernel_rfl) (by decide) (fun K hK => ?_)
        refine skip_ (w1 := ?_) (by rfl) rfl ?_ ?_
        rotate_left
        · go_simp
          rfl
        refine hK.out _ _ ?_
        clear hK K
        refine done_ (by kernel_rfl) ?_
        have S5 := Aside0.mk (S4.out.put 1 rfl 2 (.slice V4 (ands.length + 1) cap4) rfl)
        clear S4 S c2 f2
        generalize w4.setCell ⟨gC, 2, none⟩ (.slice V4 (ands.length + 1) cap4) = w5 at *
        have HL := Aside0.mk (show ands.length + 1 = (ands ++ [gt]).length by simp)
        obtain ⟨c0, _⟩ := S5.out.cell 1 rfl 0 rfl
        obtain ⟨c1, _⟩ := S5.out.cell 1 rfl 1 rfl
        obtain ⟨c2, _⟩ := S5.out.cell 1 rfl 2 rfl
        obtain ⟨c3, _⟩ := S5.out.cell 1 rfl 3 rfl
        obtain ⟨c4, _⟩ := S5.out.cell 1 rfl 4 rfl
        go_wp2_with fail
        refine (ref02_SizeV inp vL (V4, cap4) nL (ands.length + 1) bs _ HNA.out.1.1 (by have := HNA.out; omega) (by have := HNA.out; omega) (by have := HNA.out; omega)).mono ?_
        rintro e w6 ⟨rfl, hb⟩
        have S6 := Aside0.mk (S5.out.below hb)
        clear hb S5 c0 c1 c2 c3 c4
        obtain ⟨nv, hnv⟩ : ∃ n : Int, inp + (nL : Int) + ((ands.length + 1 : Nat) : Int) = n := ⟨_, rfl⟩
        rw [hnv]
        have HW := Aside0.mk (show wrap64 (2 * nv) = 2 * (inp + nL + 1 + ands.length) by
          have := HNA.out
          rw [wrap_in (by omega) (by omega)]; omega)
        clear hnv
        go_wp2
        go_ret
        refine ⟨(V4, cap4), by rw [HE2.out]; exact ret_int HW.out, ?_⟩
        rw [HE2.out]
        have h_ := S6.out.tail
        rw [HL.out] at h_
        exact h_
set_option maxHeartbeats 2000000 in
set_option maxRecDepth 100000 in
theorem ref26_Either {b gC : Nat} {inp : Int} {nL : Nat} {bs : Value × Value} {vL vA : Option Addr × Nat} {ands : List Gate} {ps : List Pc} {w0 w : World} (S : Parts b w0 w (rPs b gC inp nL bs vL vA ands ++ ps)) (hO : BOk inp nL ands) {x y : Int} (hx : LB x) (hy : LB y) :
    Calls Try.prog 79 #[.pointer (some ⟨gC, 0, none⟩), .int .i64 x, .int .i64 y] w fun e w' => RRet b gC inp nL bs vL ps w0 w' (bOr (inp + nL) ands x y) e := by
  replace S := Aside0.mk S
  have HO := Aside0.mk hO
  have HXY := Aside0.mk (And.intro hx hy)
  have HB := Aside0.mk ((bAnd_op hO.n0 hO.n1).l ands _ _ hO.a1 hx.not hy.not)
  obtain ⟨⟨ar, lr⟩, hr⟩ : ∃ r, bAnd (inp + nL) ands (lNot x) (lNot y) = r := ⟨_, rfl⟩
  have HR := Aside0.mk hr
  rw [hr] at HB
  have HE := Aside0.mk (show bOr (inp + nL) ands x y = (ar, lNot lr) by unfold bOr; rw [hr])
  clear hO hx hy hr
  go_enter Try.func79, Try.ntmps79
  go_wp2_with fail
  refine (ref01_Not x _ HXY.out.1).mono ?_
  rintro e w1 ⟨rfl, hb⟩
  have S1 := Aside0.mk (S.out.below hb)
  clear hb S
  go_wp2_with fail
  refine (ref01_Not y _ HXY.out.2).mono ?_
  rintro e w2 ⟨rfl, hb⟩
  have S2 := Aside0.mk (S1.out.below hb)
  clear hb S1
  go_wp2_with fail
  refine (ref26_Made S2.out HO.out HXY.out.1.not HXY.out.2.not).mono ?_
  rintro e w3 ⟨vA3, rfl, h3⟩
  rw [HR.out] at h3 ⊢
  have S3 := Aside0.mk h3
  clear h3 S2
  dsimp only at HB ⊢
  go_wp2_with fail
  refine (ref26_Other lr _ HB.out).mono ?_
  rintro e w4 ⟨rfl, hb⟩
  have S4 := Aside0.mk (S3.out.below hb)
  clear hb S3
  go_wp2
  go_ret
  exact ⟨vA3, by rw [HE.out]; rfl, by rw [HE.out]; exact S4.out⟩
set_option maxHeartbeats 2000000 in
set_option maxRecDepth 100000 in
theorem ref32_lit (A : Option Addr) (cap : Nat) (T : List Int) (l : Int) (w : World) (hT : RS (Kd.int .i64) w A cap T) (ht : ∀ x ∈ T, LB x) (hl : LIn T l) :
    Calls Try.prog 102 #[.slice A T.length cap, .int .i64 l] w fun e w' => e = .returned (.int .i64 (bLit T l)) ∧ Below w.heap.size w w' := by
  obtain ⟨h0, h1, hk⟩ := hl
  obtain ⟨k, hkv⟩ : ∃ k : Nat, l / 2 = (k : Int) := ⟨(l / 2).toNat, by omega⟩
  have hkn : (l / 2).toNat = k := by omega
  rw [hkn] at hk
  have hw := half_of (x := l) ⟨by omega, by omega⟩ h0
  rw [hkv] at hw
  obtain ⟨ad, e, hc⟩ := at_int hT.r k hk
  cases e
  have hv : T.getD (l / 2).toNat 0 = T[k] := by rw [hkn, List.getD_eq_getElem?_getD, List.getElem?_eq_getElem hk]; rfl
  have HB := Aside0.mk (ht _ (List.getElem_mem hk))
  have HE := Aside0.mk (show bLit T l = if l % 2 = 1 then lNot T[k] else T[k] by unfold bLit; rw [hv])
  generalize T[k] = v at *
  have H0 := Aside0.mk h0
  have hki : (k : Int) < (T.length : Int) := by omega
  clear hv ht hkv hkn hT h0 h1
  go_enter Try.func102, Try.ntmps102
  go_wp2_with fail
  refine (ref26_Signed v l _ HB.out H0.out).mono ?_
  rintro e w1 ⟨rfl, hb⟩
  have BW := Aside0.mk hb
  clear hb
  rw [← HE.out]
  go_wp2
  go_ret
  exact ⟨rfl, BW.out⟩
end Go.Proofs.Ytpoadkogcdfglaa.PH
