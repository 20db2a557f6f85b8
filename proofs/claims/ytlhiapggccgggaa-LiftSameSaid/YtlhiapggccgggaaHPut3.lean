/- The builder of predicates: put, walked. -/
import Derived.Test.YtlhiapggccgggaaHPut2
import Derived.Deep.RegionHeld3
import Derived.Deep.QuietTactic
import Derived.BigQuiet
namespace Go.Proofs.Ytlhiapggccgggaa.PH
open Go.RowKit Go.Proofs.YtlhiapggccgggaaW.PrintWords Go.Proofs.YtlhiapggccgggaaW.PrintLast
set_option linter.unusedVariables false
set_option linter.unusedSimpArgs false

theorem R_zero (W : World) (base t : Nat) (hb : base ≤ W.heap.size) : Kd.R (Kd.int .i64) t (W.alloc (.cells #[.int .i64 0] t)) base (fun _ => True) (.slice (some ⟨W.heap.size, 0, none⟩) 1 1) [0] :=
  ⟨fun _ _ => trivial, [.int .i64 0], (by have h := World.ownsRow_lit (base := base) (e := t) (size := 1) W #[.int .i64 0] 1 hb (by decide) rfl; simpa using h : (W.alloc (.cells #[.int .i64 0] t)).ownsRow base t 1 (.slice (some ⟨W.heap.size, 0, none⟩) 1 1) 1 [.int .i64 0]), Kd.reps_scalar (enc := Value.int .i64) [0]⟩
set_option maxHeartbeats 4000000 in
set_option maxRecDepth 100000 in
theorem builder_put (b0 gB : Nat) (E : Option Addr) (cap : Nat) (ands : List Gate) (first : Int) (nF : Nat) (caps : Array Value) (full : Bool) (A : Option Addr) (k : Nat) (p : Pr) (ls : List Int) (z : Int) (w : World) (hz : z = ls.length) (hI : BInv b0 gB E cap ands first (.func (.func nF) #[] caps) full w) (hb : b0 ≤ w.heap.size) (hgb : b0 ≤ gB) (hf0 : 0 ≤ first) (hf1 : first + ands.length ≤ 1001)
    (hp : ∀ W, Below b0 w W → RS kGate W A k p.f0) (hpf : p.Fits) (hck : predCheck ls.length p = 0) (hls : ∀ x ∈ ls, IsLit x) (eF : ∀ args w, (callFunc nF args).run Try.prog w = .ok (.enter nF args) w)
    (hL : ∀ W, Below b0 w W → KeepB w W gB (Value.slice E ands.length cap).ownBlock → ∀ (v : Nat) (hv : v < ls.length), Calls Try.prog nF (#[.int .i64 ((v + 1 : Nat) : Int)] ++ caps) W fun e w' => e = .returned (.int .i64 ls[v]) ∧ Below W.heap.size W w') :
    Calls Try.prog 74 #[.pointer (some ⟨gB, 0, none⟩), .int .i64 z, pv A k p] w fun e w' => RetB b0 gB E ands.length cap first (.func (.func nF) #[] caps) (putB p ls ands first full) w w' e := by
  have HP := Aside0.mk hp
  have HF := Aside0.mk hpf
  have HLS := Aside0.mk hls
  have HLT := Aside0.mk hL
  have HB := Aside0.mk hb
  have HGB := Aside0.mk hgb
  have HPT := Aside0.mk (predCheck_parts hck)
  have HFI := Aside0.mk (And.intro hf0 hf1)
  have HI := Aside0.mk hI
  have HZ := Aside0.mk hz
  have hu24 := Try.underlying29
  have hu71 := Try.underlying93
  have hu83 := Try.underlying139
  have hmf : ∀ (fn : Fn) (first cap : Array Value) (w : World), (Instr.makeFunc fn first cap).run Try.prog w = .ok (.func fn first cap) w := fun _ _ _ _ => rfl
  have eg : ∀ args w, (callFunc 95 args).run Try.prog w = .ok (.enter 95 args) w := enters_fn Try.func95 (by kernel_rfl) rfl
  obtain ⟨pa, lit⟩ := p
  obtain ⟨R, hR⟩ : ∃ R, putB ⟨pa, lit⟩ ls ands first full = R := ⟨_, rfl⟩
  rw [hR]
  have HR := Aside0.mk hR
  dsimp only [pv] at *
  clear hp hpf hls hL hb hgb hck hf0 hf1 hI hz hR
  go_enter Try.func74, Try.ntmps74
  go_wp2
  have I0 : Aside0 (QInv w b0 gB E ands.length cap A k pa.length lit (w.heap.size + 2) (some ⟨w.heap.size + 1, 0, none⟩) 1 1 [0] E cap ands first (.func (.func nF) #[] caps) full (((w.alloc (.cells #[.slice A pa.length k, .int .i64 lit] 29)).alloc (.cells #[.int .i64 0] 3)).alloc (.cells #[.slice (some ⟨w.heap.size + 1, 0, none⟩) 1 1] 24))) := by
    have B3 : Below w.heap.size w (((w.alloc (.cells #[.slice A pa.length k, .int .i64 lit] 29)).alloc (.cells #[.int .i64 0] 3)).alloc (.cells #[.slice (some ⟨w.heap.size + 1, 0, none⟩) 1 1] 24)) := below_alloc (below_alloc (below_alloc (Below.refl _ _) _) _) _
    exact ⟨⟨B3.mono HB.out, fun j h1 _ _ => B3.block j h1, B3.size, fun j hj => .inl hj, blk_alloc (blk_alloc (blk_new _ _) _) _, by simpa using blk_new ((w.alloc (.cells #[.slice A pa.length k, .int .i64 lit] 29)).alloc (.cells #[.int .i64 0] 3)) (.cells #[.slice (some ⟨w.heap.size + 1, 0, none⟩) 1 1] 24), Kd.R_alloc (by simpa using R_zero (w.alloc (.cells #[.slice A pa.length k, .int .i64 lit] 29)) w.heap.size 3 (by simp)) _, ⟨blk_below HI.out.BB B3, Kd.R_below HI.out.RR B3⟩⟩⟩
  have HGV := Aside0.mk (show w.heap.size ≤ w.heap.size + 2 by omega)
  generalize w.heap.size + 2 = gV at *
  generalize (((w.alloc (.cells #[.slice A pa.length k, .int .i64 lit] 29)).alloc (.cells #[.int .i64 0] 3)).alloc (.cells #[.slice (some ⟨w.heap.size + 1, 0, none⟩) 1 1] 24)) = w1 at *
  clear HI
  have HLM := Aside0.mk (show ls.length ≤ 1000 by have h_ : (ls.length : Int) + pa.length ≤ 1000 := HPT.out.2.1; omega)
  go_loopg [8] ls.length (fun gg s8 wr => ∃ (i : Nat) (V : Option Addr) (c : Nat), s8 = .int .i64 ((i + 1 : Nat) : Int) ∧ Aside0 (i ≤ ls.length ∧ ls.length - i ≤ gg) ∧ Aside0 (QInv w b0 gB E ands.length cap A k pa.length lit gV V (i + 1) c (0 :: ls.take i) E cap ands first (.func (.func nF) #[] caps) full wr))
  case atStart => exact ⟨0, some ⟨w.heap.size + 1, 0, none⟩, 1, rfl, ⟨by omega, by omega⟩, I0⟩
  case round =>
    clear I0
    obtain ⟨i, V, c, rfl, HI, I⟩ := hrel
    by_cases hlt : i < ls.length
    · have hle : ((i + 1 : Nat) : Int) ≤ z := by have := HZ.out; omega
      have HLE := Aside0.mk hlt
      have I2 := Aside0.mk (I.out.below HB.out (below_drew (Below.refl wr.heap.size wr)))
      clear hlt
      go_wp2
      refine start_ (n := 10) (S := (fun w' => w'.cell? ⟨gV, 0, none⟩ = some (.slice V (i + 1) c) ∧ w'.cell? ⟨gB, 2, none⟩ = some (.func (.func nF) #[] caps))) (ds := [9]) #[false, false, false, false, false, false, false, false, false, false] (by kernel_rfl) rfl rfl ⟨(blk_cell I.out.BV 0).trans rfl, (blk_cell I.out.BI.BB 2).trans rfl⟩ (fun hHeld => ?_)
      refine take_ (i := 0) (N := some 18) (v := ?_) (a' := ?_) #[true, false, false, false, false, false, false, false, false, false] rfl rfl (by kernel_rfl) (fun _ _ _ h => h) (Or.inl ⟨by rfl, ?_⟩) hHeld ?_ ?_
      rotate_left
      · rintro w' ⟨s0, s1⟩
        go_simp
        with_reducible rfl
      rotate_left
      · simp only [Act.put, List.setIfInBounds_toArray, List.set_cons_zero, List.set_cons_succ]
        rfl
      refine pure_ (i := 1) (N := some 19) (v := ?_) (a' := ?_) #[true, true, false, false, false, false, false, false, false, false] rfl rfl (by kernel_rfl) (fun _ _ _ h => h) (Or.inl ⟨by rfl, ?_⟩) ?_ ?_
      rotate_left
      · intro w'
        go_simp
        with_reducible rfl
      rotate_left
      · simp only [Act.put, List.setIfInBounds_toArray, List.set_cons_zero, List.set_cons_succ]
        rfl
      refine pure_ (i := 2) (N := some 20) (v := ?_) (a' := ?_) #[true, true, true, false, false, false, false, false, false, false] rfl rfl (by kernel_rfl) (fun _ _ _ h => h) (Or.inl ⟨by rfl, ?_⟩) ?_ ?_
      rotate_left
      · intro w'
        go_simp
        with_reducible rfl
      rotate_left
      · simp only [Act.put, List.setIfInBounds_toArray, List.set_cons_zero, List.set_cons_succ]
        rfl
      refine pure_ (i := 3) (N := some 21) (v := ?_) (a' := ?_) #[true, true, true, true, false, false, false, false, false, false] rfl rfl (by kernel_rfl) (fun _ _ _ h => h) (Or.inl ⟨by rfl, ?_⟩) ?_ ?_
      rotate_left
      · intro w'
        go_simp
        with_reducible rfl
      rotate_left
      · simp only [Act.put, List.setIfInBounds_toArray, List.set_cons_zero, List.set_cons_succ]
        rfl
      refine take_ (i := 4) (N := some 22) (v := ?_) (a' := ?_) #[true, true, true, true, true, false, false, false, false, false] rfl rfl (by kernel_rfl) (fun _ _ _ h => h) (Or.inl ⟨by rfl, ?_⟩) hHeld ?_ ?_
      rotate_left
      · rintro w' ⟨s0, s1⟩
        go_simp
        with_reducible rfl
      rotate_left
      · simp only [Act.put, List.setIfInBounds_toArray, List.set_cons_zero, List.set_cons_succ]
        rfl
      refine pure_ (i := 5) (N := some 23) (v := ?_) (a' := ?_) #[true, true, true, true, true, true, false, false, false, false] rfl rfl (by kernel_rfl) (fun _ _ _ h => h) (Or.inl ⟨by rfl, ?_⟩) ?_ ?_
      rotate_left
      · intro w'
        go_simp
        with_reducible rfl
      rotate_left
      · simp only [Act.put, List.setIfInBounds_toArray, List.set_cons_zero, List.set_cons_succ]
        rfl
      refine one_ (i := 6) (N := some 24) #[true, true, true, true, true, true, true, false, false, false] rfl rfl (by kernel_rfl) (by decide) (fun K hK => ?_)
      refine call_ nF (#[.int .i64 ((i + 1 : Nat) : Int)] ++ caps) (by rfl) rfl ?hrun1 ?_
      case hrun1 => go_simp
      refine (HLT.out _ I2.out.BW I2.out.KW i HLE.out).mono ?_
      rintro e w4 ⟨rfl, hb_⟩
      refine ⟨_, rfl, ?_⟩
      have I4 := Aside0.mk (I2.out.below HB.out hb_)
      clear hb_
      refine hK.out _ _ ⟨(blk_cell I4.out.BV 0).trans rfl, (blk_cell I4.out.BI.BB 2).trans rfl⟩ (fun hHeld => ?_)
      clear hK K
      refine norm_ (a' := ?_) ?_ ?_
      rotate_left
      · show Act.put _ (some 24) _ = _
        simp only [Act.put, List.setIfInBounds_toArray, List.set_cons_zero, List.set_cons_succ]
        rfl
      refine one_ (i := 7) (N := some 25) #[true, true, true, true, true, true, true, true, false, false] rfl rfl (by kernel_rfl) (by decide) (fun K hK => ?_)
      refine value_ (w1 := ?_) (v := ?_) (by rfl) rfl ?_ ?_
      rotate_left 2
      · go_simp
        constructor
        · rfl
        · rfl
      refine hK.out _ _ ⟨(blk_cell (blk_alloc I4.out.BV _) 0).trans rfl, (blk_cell (blk_alloc I4.out.BI.BB _) 2).trans rfl⟩ (fun hHeld => ?_)
      clear hK K
      refine norm_ (a' := ?_) ?_ ?_
      rotate_left
      · show Act.put _ (some 25) _ = _
        simp only [Act.put, List.setIfInBounds_toArray, List.set_cons_zero, List.set_cons_succ]
        rfl
      refine one_ (i := 8) (N := some 26) #[true, true, true, true, true, true, true, true, true, false] rfl rfl (by kernel_rfl) (by decide) (fun K hK => ?_)
      refine Kd.R_append_step (Kd.int .i64) (w0 := w4) (W := w4) w.heap.size (by rfl) (.tmp 18) (.tmp 25) 24 3 (.int .i64 0) 8 rfl Try.underlying24 infoInt rfl (by decide) (by omega) (.slice V (i + 1) c) (0 :: ls.take i) (ls[i]'HLE.out) [.int .i64 (ls[i]'HLE.out)] (fun _ => True) (fun _ => False) rfl rfl ?aP ?aK ?aF ?aO ?aB ?aS ?aL ?_
      case aP => exact rfl
      case aK => exact fun _ h => h.elim
      case aF => exact fun _ _ => trivial
      case aO => exact I4.out.RV
      case aB => exact Below.refl _ _
      case aS => exact I4.out.SZ
      case aL => have := HLM.out; have := HI.out; simp only [List.length_cons, List.length_take]; omega
      intro v1 w6 ho hb hg hat
      obtain ⟨V5, cap5, rfl, _, _⟩ := Kd.R_reads ho
      have e5 : (0 :: ls.take i ++ [ls[i]'HLE.out]) = 0 :: ls.take (i + 1) := by rw [List.cons_append, ← take_at HLE.out]
      have e6 : (0 :: ls.take (i + 1)).length = i + 1 + 1 := by have := HLE.out; simp only [List.length_cons, List.length_take]; omega
      rw [e5, e6] at ho
      rw [e5, e6]
      have BV6 := Aside0.mk (blk_grown I4.out.BV hg (Kd.R_ne I4.out.RV I4.out.BV (by decide)))
      have BB6 := Aside0.mk (blk_grown I4.out.BI.BB hg (Kd.R_ne I4.out.RV I4.out.BI.BB (by decide)))
      have I6 := Aside0.mk (I4.out.pushed HB.out HGV.out hb hg ho)
      clear ho hb hg hat
      have zz := blk_frozen BV6.out 0
      have yy := (blk_cell BV6.out 0).trans rfl
      refine hK.out _ _ ⟨(blk_cell BV6.out 0).trans rfl, (blk_cell BB6.out 2).trans rfl⟩ (fun hHeld => ?_)
      clear hK K
      refine norm_ (a' := ?_) ?_ ?_
      rotate_left
      · show Act.put _ (some 26) _ = _
        simp only [Act.put, List.setIfInBounds_toArray, List.set_cons_zero, List.set_cons_succ]
        rfl
      refine last_ (i := 9) (N := none) #[true, true, true, true, true, true, true, true, true, true] rfl rfl (by kernel_rfl) (by decide) (fun K hK => ?_)
      refine skip_ (w1 := ?_) (by rfl) rfl ?_ ?_
      rotate_left
      · go_simp
        rfl
      refine hK.out _ _ ?_
      clear hK K
      refine done_ (by kernel_rfl) ?_
      go_wp2
      go_roundg (ls.length - (i + 1))
      case measure => have := HI.out; have := HLE.out; omega
      case rel => exact ⟨i + 1, V5, cap5, val_eq (by have h1 := HLM.out; have h2 := HLE.out; rw [wrap_in (by omega) (by omega)]; omega), ⟨HLE.out, by have := HI.out; omega⟩, I6⟩
    · have hle : ¬ ((i + 1 : Nat) : Int) ≤ z := by have := HZ.out; omega
      have hi : i = ls.length := by have := HI.out.1; omega
      subst hi
      have I1 := Aside0.mk (show QInv w b0 gB E ands.length cap A k pa.length lit gV V (ls.length + 1) c (0 :: ls) E cap ands first (.func (.func nF) #[] caps) full wr by have h_ := I.out; rw [List.take_length] at h_; exact h_)
      have g0 := (blk_cell I.out.BC 0).trans rfl
      have HX := Aside0.mk (HP.out w (Below.refl _ _)).max
      clear I
      go_wp2
      go_loopg [31] pa.length (fun gg s31 wr2 => ∃ (i : Nat) (V : Option Addr) (c : Nat) (own : List Int) (E2 : Option Addr) (cap2 : Nat) (ands2 : List Gate) (full2 : Bool), s31 = .int .i64 i ∧ Aside0 (i ≤ pa.length ∧ pa.length - i ≤ gg) ∧ Aside0 (QInv w b0 gB E ands.length cap A k pa.length lit gV V (ls.length + 1 + i) c own E2 cap2 ands2 first (.func (.func nF) #[] caps) full2 wr2) ∧ Aside0 (own.length = ls.length + 1 + i ∧ (∀ x ∈ own, IsLit x) ∧ first + ands2.length ≤ 1001) ∧ Aside0 (putR first (pa.drop i) own ands2 full2 = putR first pa (0 :: ls) ands full))
      case atStart => exact ⟨0, V, c, 0 :: ls, E, cap, ands, full, rfl, ⟨by omega, by omega⟩, I1, ⟨rfl, fun x hx => by rcases List.mem_cons.1 hx with rfl | h_; exact ⟨by decide, by decide⟩; exact HLS.out x h_, HFI.out.2⟩, ⟨rfl⟩⟩
      case round =>
        clear I1 g0
        obtain ⟨i, V, c, own, E2, cap2, ands2, full2, rfl, HI, I, HO, HT⟩ := hrel
        by_cases hlt : i < pa.length
        · obtain ⟨ad, e1, hx, hy⟩ := at_gate (HP.out _ I.out.BW).r i hlt
          cases e1
          have hpt := gAnds_at i hlt HPT.out.2.2.1
          have hig := HF.out.ig pa[i] (List.getElem_mem hlt)
          have HTT := HT.out
          rw [putR_drop hlt] at HTT
          have HLE := Aside0.mk hlt
          generalize pa[i] = g at *
          have HGP := Aside0.mk hpt
          have HGI := Aside0.mk hig
          have HT2 := Aside0.mk HTT
          clear hpt hig HTT HT
          have hl0 := told_lit HO.out.2.1 (show 0 ≤ g.f0 by have := HGP.out; omega) (by have := HGP.out; have := HO.out.1; omega)
          have hl1 := told_lit HO.out.2.1 (show 0 ≤ g.f1 by have := HGP.out; omega) (by have := HGP.out; have := HO.out.1; omega)
          obtain ⟨x0, hx0⟩ : ∃ x, told own g.f0 = x := ⟨_, rfl⟩
          obtain ⟨x1, hx1⟩ : ∃ x, told own g.f1 = x := ⟨_, rfl⟩
          rw [hx0] at hl0 HT2
          rw [hx1] at hl1 HT2
          have HX0 := Aside0.mk hx0
          have HX1 := Aside0.mk hx1
          have HL0 := Aside0.mk hl0
          have HL1 := Aside0.mk hl1
          clear hx0 hx1 hl0 hl1
          go_wp2
          have HGE := Aside0.mk (Kd.R_lt I.out.BI.RR)
          have HSZ := Aside0.mk I.out.SZ
          have I3 := Aside0.mk (I.out.below HB.out (below_alloc (Below.refl _ _) (.cells #[.int .i64 g.f0, .int .i64 g.f1] 93)))
          have BG := Aside0.mk (blk_new wr (.cells #[.int .i64 g.f0, .int .i64 g.f1] 93))
          clear I hx hy
          generalize wr.alloc (.cells #[.int .i64 g.f0, .int .i64 g.f1] 93) = w3 at *
          generalize wr.heap.size = gG at *
          have I3d := Aside0.mk (I3.out.below HB.out (below_drew (Below.refl w3.heap.size w3)))
          have BGd := Aside0.mk (blk_drew BG.out)
          refine start_ (n := 14) (S := (fun w' => w'.cell? ⟨gV, 0, none⟩ = some (.slice V (ls.length + 1 + i) c) ∧ w'.cell? ⟨gG, 0, none⟩ = some (.int .i64 g.f0) ∧ w'.cell? ⟨gG, 1, none⟩ = some (.int .i64 g.f1))) (ds := [13]) #[false, false, false, false, false, false, false, false, false, false, false, false, false, false] (by kernel_rfl) rfl rfl ⟨(blk_cell I3.out.BV 0).trans rfl, (blk_cell BG.out 0).trans rfl, (blk_cell BG.out 1).trans rfl⟩ (fun hHeld => ?_)
          refine take_ (i := 0) (N := some 35) (v := ?_) (a' := ?_) #[true, false, false, false, false, false, false, false, false, false, false, false, false, false] rfl rfl (by kernel_rfl) (fun _ _ _ h => h) (Or.inl ⟨by rfl, ?_⟩) hHeld ?_ ?_
          rotate_left
          · rintro w' ⟨s0, s1, s2⟩
            go_simp
            with_reducible rfl
          rotate_left
          · simp only [Act.put, List.setIfInBounds_toArray, List.set_cons_zero, List.set_cons_succ]
            rfl
          refine pure_ (i := 1) (N := some 36) (v := ?_) (a' := ?_) #[true, true, false, false, false, false, false, false, false, false, false, false, false, false] rfl rfl (by kernel_rfl) (fun _ _ _ h => h) (Or.inl ⟨by rfl, ?_⟩) ?_ ?_
          rotate_left
          · intro w'
            go_simp
            with_reducible rfl
          rotate_left
          · simp only [Act.put, List.setIfInBounds_toArray, List.set_cons_zero, List.set_cons_succ]
            rfl
          refine pure_ (i := 2) (N := some 37) (v := ?_) (a' := ?_) #[true, true, true, false, false, false, false, false, false, false, false, false, false, false] rfl rfl (by kernel_rfl) (fun _ _ _ h => h) (Or.inl ⟨by rfl, ?_⟩) ?_ ?_
          rotate_left
          · intro w'
            go_simp
            with_reducible rfl
          rotate_left
          · simp only [Act.put, List.setIfInBounds_toArray, List.set_cons_zero, List.set_cons_succ]
            rfl
          refine pure_ (i := 3) (N := some 38) (v := ?_) (a' := ?_) #[true, true, true, true, false, false, false, false, false, false, false, false, false, false] rfl rfl (by kernel_rfl) (fun _ _ _ h => h) (Or.inl ⟨by rfl, ?_⟩) ?_ ?_
          rotate_left
          · intro w'
            go_simp
            with_reducible rfl
          rotate_left
          · simp only [Act.put, List.setIfInBounds_toArray, List.set_cons_zero, List.set_cons_succ]
            rfl
          refine take_ (i := 4) (N := some 39) (v := ?_) (a' := ?_) #[true, true, true, true, true, false, false, false, false, false, false, false, false, false] rfl rfl (by kernel_rfl) (fun _ _ _ h => h) (Or.inl ⟨by rfl, ?_⟩) hHeld ?_ ?_
          rotate_left
          · rintro w' ⟨s0, s1, s2⟩
            go_simp
            with_reducible rfl
          rotate_left
          · simp only [Act.put, List.setIfInBounds_toArray, List.set_cons_zero, List.set_cons_succ]
            rfl
          refine pure_ (i := 6) (N := some 41) (v := ?_) (a' := ?_) #[true, true, true, true, true, false, true, false, false, false, false, false, false, false] rfl rfl (by kernel_rfl) (fun _ _ _ h => h) (Or.inl ⟨by rfl, ?_⟩) ?_ ?_
          rotate_left
          · intro w'
            go_simp
            with_reducible rfl
          rotate_left
          · simp only [Act.put, List.setIfInBounds_toArray, List.set_cons_zero, List.set_cons_succ]
            rfl
          refine pure_ (i := 7) (N := some 42) (v := ?_) (a' := ?_) #[true, true, true, true, true, false, true, true, false, false, false, false, false, false] rfl rfl (by kernel_rfl) (fun _ _ _ h => h) (Or.inl ⟨by rfl, ?_⟩) ?_ ?_
          rotate_left
          · intro w'
            go_simp
            with_reducible rfl
          rotate_left
          · simp only [Act.put, List.setIfInBounds_toArray, List.set_cons_zero, List.set_cons_succ]
            rfl
          refine take_ (i := 8) (N := some 43) (v := ?_) (a' := ?_) #[true, true, true, true, true, false, true, true, true, false, false, false, false, false] rfl rfl (by kernel_rfl) (fun _ _ _ h => h) (Or.inl ⟨by rfl, ?_⟩) hHeld ?_ ?_
          rotate_left
          · rintro w' ⟨s0, s1, s2⟩
            go_simp
            with_reducible rfl
          rotate_left
          · simp only [Act.put, List.setIfInBounds_toArray, List.set_cons_zero, List.set_cons_succ]
            rfl
          refine one_ (i := 5) (N := some 40) #[true, true, true, true, true, true, true, true, true, false, false, false, false, false] rfl rfl (by kernel_rfl) (by decide) (fun K hK => ?_)
          refine call_ 95 #[.int .i64 g.f0, .pointer (some ⟨gV, 0, none⟩)] (by rfl) rfl ?hrun1 ?_
          case hrun1 => go_simp
          refine (builder_put1 gV V c own g.f0 _ (by rw [HO.out.1]; exact (blk_cell I3d.out.BV 0).trans rfl) (by have h_ := RS.of_R' I3d.out.RV; exact h_) HO.out.2.1 ⟨by have := HGP.out; omega, by have h_ := HPT.out.2.1; have h2 := HGP.out.2.2; have := HLE.out; omega⟩ (by have := HGP.out; have := HO.out.1; omega)).mono ?_
          rintro e w4 ⟨rfl, hb_⟩
          refine ⟨_, rfl, ?_⟩
          have I4 := Aside0.mk (I3d.out.below HB.out hb_)
          have BG4 := Aside0.mk (blk_below BGd.out hb_)
          clear hb_
          refine hK.out _ _ ⟨(blk_cell I4.out.BV 0).trans rfl, (blk_cell BG4.out 0).trans rfl, (blk_cell BG4.out 1).trans rfl⟩ (fun hHeld => ?_)
          clear hK K
          refine norm_ (a' := ?_) ?_ ?_
          rotate_left
          · show Act.put _ (some 40) _ = _
            simp only [Act.put, List.setIfInBounds_toArray, List.set_cons_zero, List.set_cons_succ]
            rfl
          rw [HX0.out]
          refine one_ (i := 9) (N := some 44) #[true, true, true, true, true, true, true, true, true, true, false, false, false, false] rfl rfl (by kernel_rfl) (by decide) (fun K hK => ?_)
          refine call_ 95 #[.int .i64 g.f1, .pointer (some ⟨gV, 0, none⟩)] (by rfl) rfl ?hrun2 ?_
          case hrun2 => go_simp
          refine (builder_put1 gV V c own g.f1 _ (by rw [HO.out.1]; exact (blk_cell I4.out.BV 0).trans rfl) (by have h_ := RS.of_R' I4.out.RV; exact h_) HO.out.2.1 ⟨by have := HGP.out; omega, by have h_ := HPT.out.2.1; have h2 := HGP.out; have := HLE.out; omega⟩ (by have := HGP.out; have := HO.out.1; omega)).mono ?_
          rintro e w5 ⟨rfl, hb_⟩
          refine ⟨_, rfl, ?_⟩
          have I5 := Aside0.mk (I4.out.below HB.out hb_)
          have BG5 := Aside0.mk (blk_below BG4.out hb_)
          clear hb_
          refine hK.out _ _ ⟨(blk_cell I5.out.BV 0).trans rfl, (blk_cell BG5.out 0).trans rfl, (blk_cell BG5.out 1).trans rfl⟩ (fun hHeld => ?_)
          clear hK K
          refine norm_ (a' := ?_) ?_ ?_
          rotate_left
          · show Act.put _ (some 44) _ = _
            simp only [Act.put, List.setIfInBounds_toArray, List.set_cons_zero, List.set_cons_succ]
            rfl
          rw [HX1.out]
          refine one_ (i := 10) (N := some 45) #[true, true, true, true, true, true, true, true, true, true, true, false, false, false] rfl rfl (by kernel_rfl) (by decide) (fun K hK => ?_)
          refine goes_ Try.func73 (by kernel_rfl) rfl #[.pointer (some ⟨gB, 0, none⟩), .int .i64 x0, .int .i64 x1] (by rfl) rfl rfl (by simp only [List.map_toArray, List.map_cons, List.map_nil] <;> rfl) ?_
          refine (builder_and b0 gB E2 cap2 ands2 first (.func (.func nF) #[] caps) full2 x0 x1 w5 HL0.out HL1.out I5.out.BI (Nat.le_trans HB.out I5.out.SZ) HGB.out HFI.out.1 (by have := HO.out.2.2; omega) (by have := HO.out.2.2; have := HFI.out.1; omega)).mono ?_
          rintro e w7 hRB
          obtain ⟨E7, cap7, I7⟩ := I5.out.and hRB
          have BG7 := Aside0.mk ((hRB.2.2.2 gG (blk_lt BG5.out) (blk_ne BG5.out I5.out.BI.BB (by decide)) (fun e0 => by have := HGE.out gG e0.symm; omega)).trans BG5.out)
          have I7 := Aside0.mk I7
          have AL := Aside0.mk (andR_lit (full := full2) HL0.out HL1.out HFI.out.1 HO.out.2.2)
          obtain ⟨rfl, _⟩ := hRB
          refine ⟨_, rfl, ?_⟩
          generalize andR ands2 first full2 x0 x1 = r at *
          refine hK.out _ _ ⟨(blk_cell I7.out.BV 0).trans rfl, (blk_cell BG7.out 0).trans rfl, (blk_cell BG7.out 1).trans rfl⟩ (fun hHeld => ?_)
          clear hK K
          refine norm_ (a' := ?_) ?_ ?_
          rotate_left
          · show Act.put _ (some 45) _ = _
            simp only [Act.put, List.setIfInBounds_toArray, List.set_cons_zero, List.set_cons_succ]
            rfl
          refine one_ (i := 11) (N := some 46) #[true, true, true, true, true, true, true, true, true, true, true, true, false, false] rfl rfl (by kernel_rfl) (by decide) (fun K hK => ?_)
          refine value_ (w1 := ?_) (v := ?_) (by rfl) rfl ?_ ?_
          rotate_left 2
          · go_simp
            constructor
            · rfl
            · rfl
          refine hK.out _ _ ⟨(blk_cell (blk_alloc I7.out.BV _) 0).trans rfl, (blk_cell (blk_alloc BG7.out _) 0).trans rfl, (blk_cell (blk_alloc BG7.out _) 1).trans rfl⟩ (fun hHeld => ?_)
          clear hK K
          refine norm_ (a' := ?_) ?_ ?_
          rotate_left
          · show Act.put _ (some 46) _ = _
            simp only [Act.put, List.setIfInBounds_toArray, List.set_cons_zero, List.set_cons_succ]
            rfl
          refine one_ (i := 12) (N := some 47) #[true, true, true, true, true, true, true, true, true, true, true, true, true, false] rfl rfl (by kernel_rfl) (by decide) (fun K hK => ?_)
          refine Kd.R_append_step (Kd.int .i64) (w0 := w7) (W := w7) w.heap.size (by rfl) (.tmp 35) (.tmp 46) 24 3 (.int .i64 0) 8 rfl Try.underlying24 infoInt rfl (by decide) (by omega) (.slice V (ls.length + 1 + i) c) own r.2.2 [.int .i64 r.2.2] (fun _ => True) (fun _ => False) rfl rfl ?aP ?aK ?aF ?aO ?aB ?aS ?aL ?_
          case aP => exact rfl
          case aK => exact fun _ h => h.elim
          case aF => exact fun _ _ => trivial
          case aO => exact I7.out.RV
          case aB => exact Below.refl _ _
          case aS => exact I7.out.SZ
          case aL => have h_ : (ls.length : Int) + pa.length ≤ 1000 := HPT.out.2.1; have := HLE.out; have := HO.out.1; omega
          intro v1 w6 ho hb hg hat
          obtain ⟨V5, cap5, rfl, _, _⟩ := Kd.R_reads ho
          have e6 : (own ++ [r.2.2]).length = ls.length + 1 + (i + 1) := by rw [List.length_append, HO.out.1]; rfl
          rw [e6] at ho
          rw [e6]
          have BV6 := Aside0.mk (blk_grown I7.out.BV hg (Kd.R_ne I7.out.RV I7.out.BV (by decide)))
          have BG6 := Aside0.mk (blk_grown BG7.out hg (Kd.R_ne I7.out.RV BG7.out (by decide)))
          have I6 := Aside0.mk (I7.out.pushed HB.out HGV.out hb hg ho)
          clear ho hb hg hat
          have zz := blk_frozen BV6.out 0
          have yy := (blk_cell BV6.out 0).trans rfl
          refine hK.out _ _ ⟨(blk_cell BV6.out 0).trans rfl, (blk_cell BG6.out 0).trans rfl, (blk_cell BG6.out 1).trans rfl⟩ (fun hHeld => ?_)
          clear hK K
          refine norm_ (a' := ?_) ?_ ?_
          rotate_left
          · show Act.put _ (some 47) _ = _
            simp only [Act.put, List.setIfInBounds_toArray, List.set_cons_zero, List.set_cons_succ]
            rfl
          refine last_ (i := 13) (N := none) #[true, true, true, true, true, true, true, true, true, true, true, true, true, true] rfl rfl (by kernel_rfl) (by decide) (fun K hK => ?_)
          refine skip_ (w1 := ?_) (by rfl) rfl ?_ ?_
          rotate_left
          · go_simp
            rfl
          refine hK.out _ _ ?_
          clear hK K
          refine done_ (by kernel_rfl) ?_
          go_wp2
          go_roundg (pa.length - (i + 1))
          case measure => have := HI.out; have := HLE.out; omega
          case rel => exact ⟨i + 1, V5, cap5, own ++ [r.2.2], E7, cap7, r.1, r.2.1, val_step HLE.out HX.out, ⟨HLE.out, by have := HI.out; omega⟩, I6, ⟨e6, fun x hx => by rcases List.mem_append.1 hx with h_ | h_; exact HO.out.2.1 x h_; exact (List.mem_singleton.1 h_) ▸ AL.out.1, AL.out.2⟩, HT2⟩
        · have hi : i = pa.length := by have := HI.out.1; omega
          subst hi
          have g1 := (blk_cell I.out.BC 1).trans rfl
          have HVL := Aside0.mk (show R = (ands2, full2, told own lit) by
            have h_ := HT.out
            rw [List.drop_length] at h_
            have h2 := HR.out
            unfold putB at h2
            dsimp only at h2
            rw [← h_] at h2
            exact h2.symm)
          go_wp2_with fail
          refine (builder_put1 gV V c own lit _ (by rw [HO.out.1]; exact (blk_cell I.out.BV 0).trans rfl) (by have h_ := RS.of_R' I.out.RV; exact h_) HO.out.2.1 ⟨HPT.out.2.2.2.1, by have h_ := HPT.out.2.1; have h2 := HPT.out.2.2.2.2; omega⟩ (by have h_ : lit / 2 ≤ (ls.length : Int) + pa.length := HPT.out.2.2.2.2; have := HO.out.1; omega)).mono ?_
          rintro e w4 ⟨rfl, hb4⟩
          have I4 := Aside0.mk (I.out.below HB.out hb4)
          clear hb4
          go_wp2
          go_ret
          rw [HVL.out]
          exact ⟨rfl, ⟨E2, cap2, I4.out.BI, I4.out.OE⟩, I4.out.BW, I4.out.KW⟩
end Go.Proofs.Ytlhiapggccgggaa.PH
