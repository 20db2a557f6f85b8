/- ref25.True, Latch, Same, Identity: the reference's lift of a circuit to itself. -/
import Derived.Test.YtpoadkogcdfglaaHRef02
import Derived.Test.YtpoadkogcdfglaaHIdent
namespace Go.Proofs.Ytpoadkogcdfglaa.PH
open Go.RowKit Go.Proofs.YtpoadkogcdfglaaW.PrintWords Go.Proofs.YtpoadkogcdfglaaW.PrintLast
set_option linter.unusedVariables false
set_option linter.unusedSimpArgs false

set_option maxHeartbeats 2000000 in
set_option maxRecDepth 100000 in
theorem ref25_True (w : World) :
    Calls Try.prog 47 #[] w fun e w' => e = .returned (.agg #[.slice none 0 0, .int .i64 1]) ∧ Below w.heap.size w w' := by
  have hu29 := Try.underlying31
  have hb := blk_new w (.cells #[.slice none 0 0, .int .i64 1] 31)
  go_enter Try.func47, Try.ntmps47
  go_wp2
  refine bodyPost_ret (results_cell_row rfl _ _ w.heap.size 31 #[.slice none 0 0, .int .i64 1] (0, 0) _ rfl hb hu29 rfl (by kernel_rfl)) rfl ?_
  exact ⟨rfl, below_alloc (Below.refl _ _) _⟩
/-- The literal of latch i. -/
def latchOf (c : Circ) (i : Int) : Int := wrap64 (2 * wrap64 (wrap64 (c.f0 + 1) + i))
set_option maxHeartbeats 2000000 in
set_option maxRecDepth 100000 in
theorem ref25_Latch (p : CP) (c : Circ) (i : Int) (w : World) :
    Calls Try.prog 48 #[cv p c, .int .i64 i] w fun e w' => e = .returned (.int .i64 (latchOf c i)) ∧ Below w.heap.size w w' := by
  have hu26 := Try.underlying26
  unfold latchOf
  go_enter Try.func48, Try.ntmps48
  go_wp2
  go_ret
  exact ⟨rfl, below_alloc (Below.refl _ _) _⟩
/-- A lift comes back that lies in new memory: it reads so in every world that holds the new blocks. -/
def RetL1 (w w' : World) (l : Lf) (e : Ending) : Prop := ∃ p, e = .returned (lv p l) ∧ (∀ W : World, (∀ k, w.heap.size ≤ k → k < w'.heap.size → W.heap[k]? = w'.heap[k]?) → RL W p l) ∧ Below w.heap.size w w'
theorem heap7 (w : World) {g k : Nat} (hk : k ≠ g) (u0 u1 u2 u3 u4 u5 u6 : Value) :
    (((((((w.setCell ⟨g, 0, none⟩ u0).setCell ⟨g, 1, none⟩ u1).setCell ⟨g, 2, none⟩ u2).setCell ⟨g, 3, none⟩ u3).setCell ⟨g, 4, none⟩ u4).setCell ⟨g, 5, none⟩ u5).setCell ⟨g, 6, none⟩ u6).heap[k]? = w.heap[k]? :=
  (Below.heap_setCell _ _ _ _ hk).trans ((Below.heap_setCell _ _ _ _ hk).trans ((Below.heap_setCell _ _ _ _ hk).trans ((Below.heap_setCell _ _ _ _ hk).trans ((Below.heap_setCell _ _ _ _ hk).trans ((Below.heap_setCell _ _ _ _ hk).trans (Below.heap_setCell _ _ _ _ hk))))))
set_option maxHeartbeats 4000000 in
set_option maxRecDepth 100000 in
theorem ref25_Same (p : CP) (c : Circ) (w : World) (hc : check c = 0) :
    Calls Try.prog 19 #[cv p c] w fun e w' => RetL1 w w' (idOf c) e := by
  have hBD := gCheck_ok hc
  obtain ⟨n, hn⟩ : ∃ n : Nat, c.f0 = (n : Int) := ⟨c.f0.toNat, by omega⟩
  have HN := Aside0.mk hn
  have HNB := Aside0.mk (show n ≤ 1000 ∧ c.f1.length ≤ 1000 by omega)
  clear hBD hn hc
  have hu26 := Try.underlying26
  have hu31 := Try.underlying33
  go_enter Try.func19, Try.ntmps19
  go_wp2_with fail
  refine (ref25_True _).mono ?_
  rintro e w1 ⟨rfl, hb1⟩
  have BC := Aside0.mk (blk_below (blk_alloc (blk_alloc (blk_new w (.cells #[.int .i64 c.f0, .slice p.A1 c.f1.length p.c1, .slice p.A2 c.f2.length p.c2, .slice p.A3 c.f3.length p.c3, .slice p.A4 c.f4.length p.c4] 26)) (.cells #[.int .i64 0, .int .i64 0, .slice none 0 0, .slice none 0 0, .slice none 0 0, .slice none 0 0, .int .i64 0] 33)) (.cells #[.slice none 0 0] 24)) hb1)
  have BR := Aside0.mk (show w1.heap[w.heap.size + 1]? = _ by simpa using blk_below (blk_alloc (blk_new (w.alloc (.cells #[.int .i64 c.f0, .slice p.A1 c.f1.length p.c1, .slice p.A2 c.f2.length p.c2, .slice p.A3 c.f3.length p.c3, .slice p.A4 c.f4.length p.c4] 26)) (.cells #[.int .i64 0, .int .i64 0, .slice none 0 0, .slice none 0 0, .slice none 0 0, .slice none 0 0, .int .i64 0] 33)) (.cells #[.slice none 0 0] 24)) hb1)
  have BI := Aside0.mk (show w1.heap[w.heap.size + 1 + 1]? = _ by simpa using blk_below (blk_new ((w.alloc (.cells #[.int .i64 c.f0, .slice p.A1 c.f1.length p.c1, .slice p.A2 c.f2.length p.c2, .slice p.A3 c.f3.length p.c3, .slice p.A4 c.f4.length p.c4] 26)).alloc (.cells #[.int .i64 0, .int .i64 0, .slice none 0 0, .slice none 0 0, .slice none 0 0, .slice none 0 0, .int .i64 0] 33)) (.cells #[.slice none 0 0] 24)) hb1)
  have BW := Aside0.mk (below_then (below_alloc (below_alloc (below_alloc (Below.refl w.heap.size w) _) _) _) (by simp; omega) hb1)
  clear hb1
  have hgI : w.heap.size + 1 + 1 < w1.heap.size := blk_lt BI.out
  have HGL := Aside0.mk (show w.heap.size + 1 < w1.heap.size by omega)
  have I0 : Aside0 (IdInv w p c (w.heap.size + 1 + 1) w1.heap.size (.slice none 0 0) (.slice none 0 0) (w1.alloc (.cells #[.int .i64 0, .int .i64 1, .slice none 0 0, .slice (some ⟨w.heap.size + 1 + 1, 0, none⟩) 1 1, .slice none 0 0, .slice none 0 0, .int .i64 1] 33)) none 0 0) :=
    ⟨⟨below_alloc BW.out _, blk_alloc BC.out _, blk_alloc BR.out _, blk_new _ _, blk_alloc BI.out _⟩⟩
  have HGI := Aside0.mk (show w.heap.size ≤ w.heap.size + 1 + 1 by omega)
  clear hgI
  go_wp2
  generalize w1.heap.size = gL at *
  generalize w.heap.size + 1 + 1 = gI at *
  clear BC BR BI BW
  go_loopg [4] c.f1.length (fun gg s4 wr => ∃ (m : Nat) (F : Option Addr) (capF : Nat) (G : Option Addr) (capG : Nat), s4 = .int .i64 m ∧ Aside0 (m ≤ c.f1.length ∧ c.f1.length - m ≤ gg) ∧ Aside0 (IdInv w p c gI gL (.slice F m capF) (.slice G m capG) wr none 0 0) ∧
    Aside0 (Kd.R (Kd.int .i64) 3 wr w.heap.size (fun j => some j ≠ (Value.slice G m capG).ownBlock) (.slice F m capF) (lasOf c.f0 m)) ∧ Aside0 (Kd.R (Kd.int .i64) 3 wr w.heap.size (fun j => some j ≠ (Value.slice F m capF).ownBlock) (.slice G m capG) (lasOf c.f0 m)))
  case atStart => exact ⟨0, none, 0, none, 0, rfl, ⟨by omega, by omega⟩, I0, ⟨Kd.R_nil _ _ _ _ _⟩, ⟨Kd.R_nil _ _ _ _ _⟩⟩
  case round =>
    clear I0
    obtain ⟨m, F, capF, G, capG, rfl, HM, I, RF, RG⟩ := hrel
    obtain ⟨c0, c1, c2, c3, c4⟩ := blk5 I.out.BC
    obtain ⟨⟨r0, r1, r2, r3, r4, r5, r6⟩, z0, z1, z2, z3, z4, z5, z6⟩ := blk7 I.out.BL
    by_cases hlt : m < c.f1.length
    · have HMT := Aside0.mk hlt
      have HY := Aside0.mk (show latchOf c (m : Int) = 2 * (c.f0 + 1 + (m : Int)) by
        have := HN.out; have := HNB.out
        unfold latchOf
        rw [wrap_in (x := c.f0 + 1) (by omega) (by omega), wrap_in (x := c.f0 + 1 + (m : Int)) (by omega) (by omega), wrap_in (by omega) (by omega)])
      go_wp2
      clear c0 c1 c2 c3 c4 r0 r1 r2 r3 r4 r5 r6 z0 z1 z2 z3 z4 z5 z6
      refine start_ (n := 9) (S := (fun w' => w'.cell? ⟨w.heap.size, 0, none⟩ = some (.int .i64 c.f0) ∧ w'.cell? ⟨w.heap.size, 1, none⟩ = some (.slice p.A1 c.f1.length p.c1) ∧ w'.cell? ⟨w.heap.size, 2, none⟩ = some (.slice p.A2 c.f2.length p.c2) ∧ w'.cell? ⟨w.heap.size, 3, none⟩ = some (.slice p.A3 c.f3.length p.c3) ∧ w'.cell? ⟨w.heap.size, 4, none⟩ = some (.slice p.A4 c.f4.length p.c4) ∧ w'.cell? ⟨gL, 2, none⟩ = some (.slice F m capF))) (ds := [8]) #[false, false, false, false, false, false, false, false, false] (by kernel_rfl) rfl rfl ⟨(blk_cell I.out.BC 0).trans rfl, (blk_cell I.out.BC 1).trans rfl, (blk_cell I.out.BC 2).trans rfl, (blk_cell I.out.BC 3).trans rfl, (blk_cell I.out.BC 4).trans rfl, (blk_cell I.out.BL 2).trans rfl⟩ (fun hHeld => ?_)
      refine pure_ (i := 0) (N := some 16) (v := ?_) (a' := ?_) #[true, false, false, false, false, false, false, false, false] rfl rfl (by kernel_rfl) (fun _ _ _ h => h) (Or.inl ⟨by rfl, ?_⟩) ?_ ?_
      rotate_left
      · intro w'
        go_simp
        with_reducible rfl
      rotate_left
      · simp only [Act.put, List.setIfInBounds_toArray, List.set_cons_zero, List.set_cons_succ]
        rfl
      refine pure_ (i := 3) (N := some 19) (v := ?_) (a' := ?_) #[true, false, false, true, false, false, false, false, false] rfl rfl (by kernel_rfl) (fun _ _ _ h => h) (Or.inl ⟨by rfl, ?_⟩) ?_ ?_
      rotate_left
      · intro w'
        go_simp
        with_reducible rfl
      rotate_left
      · simp only [Act.put, List.setIfInBounds_toArray, List.set_cons_zero, List.set_cons_succ]
        rfl
      refine take_ (i := 1) (N := some 17) (v := ?_) (a' := ?_) #[true, true, false, true, false, false, false, false, false] rfl rfl (by kernel_rfl) (fun _ _ _ h => h) (Or.inl ⟨by rfl, ?_⟩) hHeld ?_ ?_
      rotate_left
      · rintro w' ⟨s0, s1, s2, s3, s4, s5⟩
        go_simp
        with_reducible rfl
      rotate_left
      · simp only [Act.put, List.setIfInBounds_toArray, List.set_cons_zero, List.set_cons_succ]
        rfl
      refine take_ (i := 2) (N := some 18) (v := ?_) (a' := ?_) #[true, true, true, true, false, false, false, false, false] rfl rfl (by kernel_rfl) (fun _ _ _ h => h) (Or.inl ⟨by rfl, ?_⟩) hHeld ?_ ?_
      rotate_left
      · rintro w' ⟨s0, s1, s2, s3, s4, s5⟩
        go_simp
        with_reducible rfl
      rotate_left
      · simp only [Act.put, List.setIfInBounds_toArray, List.set_cons_zero, List.set_cons_succ]
        rfl
      refine one_ (i := 4) (N := some 20) #[true, true, true, true, true, false, false, false, false] rfl rfl (by kernel_rfl) (by decide) (fun K hK => ?_)
      refine goes_ Try.func48 (by kernel_rfl) rfl #[cv p c, .int .i64 (m : Int)] (by rfl) rfl rfl (by simp only [List.map_toArray, List.map_cons, List.map_nil] <;> rfl) ?_
      refine (ref25_Latch p c (m : Int) _).mono ?_
      rintro e w3a ⟨rfl, hb3a⟩
      refine ⟨_, rfl, ?_⟩
      have I3a := Aside0.mk (I.out.drew.below hb3a)
      have RF3a := Aside0.mk (Kd.R_below (Kd.R_drew RF.out) hb3a)
      have RG3a := Aside0.mk (Kd.R_below (Kd.R_drew RG.out) hb3a)
      clear hb3a
      refine hK.out _ _ ⟨(blk_cell I3a.out.BC 0).trans rfl, (blk_cell I3a.out.BC 1).trans rfl, (blk_cell I3a.out.BC 2).trans rfl, (blk_cell I3a.out.BC 3).trans rfl, (blk_cell I3a.out.BC 4).trans rfl, (blk_cell I3a.out.BL 2).trans rfl⟩ (fun hHeld => ?_)
      clear hK K
      refine norm_ (a' := ?_) ?_ ?_
      rotate_left
      · show Act.put _ (some 20) _ = _
        simp only [Act.put, List.setIfInBounds_toArray, List.set_cons_zero, List.set_cons_succ]
        rfl
      refine one_ (i := 5) (N := some 21) #[true, true, true, true, true, true, false, false, false] rfl rfl (by kernel_rfl) (by decide) (fun K hK => ?_)
      refine value_ (w1 := ?_) (v := ?_) (by rfl) rfl ?_ ?_
      rotate_left 2
      · go_simp
        constructor
        · rfl
        · rfl
      refine hK.out _ _ ⟨(blk_cell (blk_alloc I3a.out.BC _) 0).trans rfl, (blk_cell (blk_alloc I3a.out.BC _) 1).trans rfl, (blk_cell (blk_alloc I3a.out.BC _) 2).trans rfl, (blk_cell (blk_alloc I3a.out.BC _) 3).trans rfl, (blk_cell (blk_alloc I3a.out.BC _) 4).trans rfl, (blk_cell (blk_alloc I3a.out.BL _) 2).trans rfl⟩ (fun hHeld => ?_)
      clear hK K
      refine norm_ (a' := ?_) ?_ ?_
      rotate_left
      · show Act.put _ (some 21) _ = _
        simp only [Act.put, List.setIfInBounds_toArray, List.set_cons_zero, List.set_cons_succ]
        rfl
      refine one_ (i := 6) (N := some 22) #[true, true, true, true, true, true, true, false, false] rfl rfl (by kernel_rfl) (by decide) (fun K hK => ?_)
      refine Kd.R_append_step (Kd.int .i64) (w0 := w) (W := w3a) w.heap.size (by rfl) (.tmp 17) (.tmp 21) 24 3 (.int .i64 0) 8 rfl Try.underlying24 infoInt rfl (by decide) (by omega) (.slice F m capF) (lasOf c.f0 m) (latchOf c (m : Int)) [.int .i64 (latchOf c (m : Int))] (fun j => some j ≠ (Value.slice G m capG).ownBlock) (fun _ => False) rfl rfl ?aP ?aK ?aF ?aO ?aB ?aS ?aL ?_
      case aP => exact rfl
      case aK => exact fun _ h => h.elim
      case aF => exact fun j hj e => absurd (Kd.R_lt RG3a.out j e.symm) (by omega)
      case aO => exact RF3a.out
      case aB => exact I3a.out.BW
      case aS => exact I3a.out.BW.size
      case aL => have := HNB.out; have := HMT.out; rw [lasOf_len]; omega
      intro v1 w5a ho hb hg hat
      obtain ⟨F5, capF5, rfl, _, _⟩ := Kd.R_reads ho
      rw [show (lasOf c.f0 m ++ [latchOf c (m : Int)]).length = m + 1 by simp [lasOf_len]] at ho hat ⊢
      rw [HY.out, ← lasOf_succ] at ho
      have I5a := Aside0.mk (I3a.out.grown RF3a.out hg hb)
      have RG5a := Aside0.mk (R_apart RG3a.out hg hat)
      have RF5a := Aside0.mk ho
      clear ho hb hg hat
      have z2a := blk_frozen I5a.out.BL 2
      have r2a := (blk_cell I5a.out.BL 2).trans rfl
      refine hK.out _ _ ⟨(blk_cell I5a.out.BC 0).trans rfl, (blk_cell I5a.out.BC 1).trans rfl, (blk_cell I5a.out.BC 2).trans rfl, (blk_cell I5a.out.BC 3).trans rfl, (blk_cell I5a.out.BC 4).trans rfl, (blk_cell I5a.out.BL 2).trans rfl⟩ (fun hHeld => ?_)
      clear hK K
      refine norm_ (a' := ?_) ?_ ?_
      rotate_left
      · show Act.put _ (some 22) _ = _
        simp only [Act.put, List.setIfInBounds_toArray, List.set_cons_zero, List.set_cons_succ]
        rfl
      refine pure_ (i := 7) (N := some 23) (v := ?_) (a' := ?_) #[true, true, true, true, true, true, true, true, false] rfl rfl (by kernel_rfl) (fun _ _ _ h => h) (Or.inl ⟨by rfl, ?_⟩) ?_ ?_
      rotate_left
      · intro w'
        go_simp
        with_reducible rfl
      rotate_left
      · simp only [Act.put, List.setIfInBounds_toArray, List.set_cons_zero, List.set_cons_succ]
        rfl
      refine last_ (i := 8) (N := none) #[true, true, true, true, true, true, true, true, true] rfl rfl (by kernel_rfl) (by decide) (fun K hK => ?_)
      refine skip_ (w1 := ?_) (by rfl) rfl ?_ ?_
      rotate_left
      · go_simp
        rfl
      refine hK.out _ _ ?_
      clear hK K
      refine done_ (by kernel_rfl) ?_
      have I7a := Aside0.mk (I5a.out.putF HGL.out (.slice F5 (m + 1) capF5))
      have RF7a := Aside0.mk (Kd.R_set RF5a.out I5a.out.BL (by decide) 2 (.slice F5 (m + 1) capF5))
      have RG7a := Aside0.mk (Kd.R_set RG5a.out I5a.out.BL (by decide) 2 (.slice F5 (m + 1) capF5))
      clear I3a RF3a RG3a I5a RF5a RG5a hHeld z2a r2a
      go_wp2
      generalize w5a.setCell ⟨gL, 2, none⟩ (.slice F5 (m + 1) capF5) = w7 at *
      refine start_ (n := 9) (S := (fun w' => w'.cell? ⟨w.heap.size, 0, none⟩ = some (.int .i64 c.f0) ∧ w'.cell? ⟨w.heap.size, 1, none⟩ = some (.slice p.A1 c.f1.length p.c1) ∧ w'.cell? ⟨w.heap.size, 2, none⟩ = some (.slice p.A2 c.f2.length p.c2) ∧ w'.cell? ⟨w.heap.size, 3, none⟩ = some (.slice p.A3 c.f3.length p.c3) ∧ w'.cell? ⟨w.heap.size, 4, none⟩ = some (.slice p.A4 c.f4.length p.c4) ∧ w'.cell? ⟨gL, 4, none⟩ = some (.slice G m capG))) (ds := [8]) #[false, false, false, false, false, false, false, false, false] (by kernel_rfl) rfl rfl ⟨(blk_cell I7a.out.BC 0).trans rfl, (blk_cell I7a.out.BC 1).trans rfl, (blk_cell I7a.out.BC 2).trans rfl, (blk_cell I7a.out.BC 3).trans rfl, (blk_cell I7a.out.BC 4).trans rfl, (blk_cell I7a.out.BL 4).trans rfl⟩ (fun hHeld => ?_)
      refine pure_ (i := 0) (N := some 24) (v := ?_) (a' := ?_) #[true, false, false, false, false, false, false, false, false] rfl rfl (by kernel_rfl) (fun _ _ _ h => h) (Or.inl ⟨by rfl, ?_⟩) ?_ ?_
      rotate_left
      · intro w'
        go_simp
        with_reducible rfl
      rotate_left
      · simp only [Act.put, List.setIfInBounds_toArray, List.set_cons_zero, List.set_cons_succ]
        rfl
      refine pure_ (i := 3) (N := some 27) (v := ?_) (a' := ?_) #[true, false, false, true, false, false, false, false, false] rfl rfl (by kernel_rfl) (fun _ _ _ h => h) (Or.inl ⟨by rfl, ?_⟩) ?_ ?_
      rotate_left
      · intro w'
        go_simp
        with_reducible rfl
      rotate_left
      · simp only [Act.put, List.setIfInBounds_toArray, List.set_cons_zero, List.set_cons_succ]
        rfl
      refine take_ (i := 1) (N := some 25) (v := ?_) (a' := ?_) #[true, true, false, true, false, false, false, false, false] rfl rfl (by kernel_rfl) (fun _ _ _ h => h) (Or.inl ⟨by rfl, ?_⟩) hHeld ?_ ?_
      rotate_left
      · rintro w' ⟨s0, s1, s2, s3, s4, s5⟩
        go_simp
        with_reducible rfl
      rotate_left
      · simp only [Act.put, List.setIfInBounds_toArray, List.set_cons_zero, List.set_cons_succ]
        rfl
      refine take_ (i := 2) (N := some 26) (v := ?_) (a' := ?_) #[true, true, true, true, false, false, false, false, false] rfl rfl (by kernel_rfl) (fun _ _ _ h => h) (Or.inl ⟨by rfl, ?_⟩) hHeld ?_ ?_
      rotate_left
      · rintro w' ⟨s0, s1, s2, s3, s4, s5⟩
        go_simp
        with_reducible rfl
      rotate_left
      · simp only [Act.put, List.setIfInBounds_toArray, List.set_cons_zero, List.set_cons_succ]
        rfl
      refine one_ (i := 4) (N := some 28) #[true, true, true, true, true, false, false, false, false] rfl rfl (by kernel_rfl) (by decide) (fun K hK => ?_)
      refine goes_ Try.func48 (by kernel_rfl) rfl #[cv p c, .int .i64 (m : Int)] (by rfl) rfl rfl (by simp only [List.map_toArray, List.map_cons, List.map_nil] <;> rfl) ?_
      refine (ref25_Latch p c (m : Int) _).mono ?_
      rintro e w3b ⟨rfl, hb3b⟩
      refine ⟨_, rfl, ?_⟩
      have I3b := Aside0.mk (I7a.out.drew.below hb3b)
      have RG3b := Aside0.mk (Kd.R_below (Kd.R_drew RG7a.out) hb3b)
      have RF53b := Aside0.mk (Kd.R_below (Kd.R_drew RF7a.out) hb3b)
      clear hb3b
      refine hK.out _ _ ⟨(blk_cell I3b.out.BC 0).trans rfl, (blk_cell I3b.out.BC 1).trans rfl, (blk_cell I3b.out.BC 2).trans rfl, (blk_cell I3b.out.BC 3).trans rfl, (blk_cell I3b.out.BC 4).trans rfl, (blk_cell I3b.out.BL 4).trans rfl⟩ (fun hHeld => ?_)
      clear hK K
      refine norm_ (a' := ?_) ?_ ?_
      rotate_left
      · show Act.put _ (some 28) _ = _
        simp only [Act.put, List.setIfInBounds_toArray, List.set_cons_zero, List.set_cons_succ]
        rfl
      refine one_ (i := 5) (N := some 29) #[true, true, true, true, true, true, false, false, false] rfl rfl (by kernel_rfl) (by decide) (fun K hK => ?_)
      refine value_ (w1 := ?_) (v := ?_) (by rfl) rfl ?_ ?_
      rotate_left 2
      · go_simp
        constructor
        · rfl
        · rfl
      refine hK.out _ _ ⟨(blk_cell (blk_alloc I3b.out.BC _) 0).trans rfl, (blk_cell (blk_alloc I3b.out.BC _) 1).trans rfl, (blk_cell (blk_alloc I3b.out.BC _) 2).trans rfl, (blk_cell (blk_alloc I3b.out.BC _) 3).trans rfl, (blk_cell (blk_alloc I3b.out.BC _) 4).trans rfl, (blk_cell (blk_alloc I3b.out.BL _) 4).trans rfl⟩ (fun hHeld => ?_)
      clear hK K
      refine norm_ (a' := ?_) ?_ ?_
      rotate_left
      · show Act.put _ (some 29) _ = _
        simp only [Act.put, List.setIfInBounds_toArray, List.set_cons_zero, List.set_cons_succ]
        rfl
      refine one_ (i := 6) (N := some 30) #[true, true, true, true, true, true, true, false, false] rfl rfl (by kernel_rfl) (by decide) (fun K hK => ?_)
      refine Kd.R_append_step (Kd.int .i64) (w0 := w) (W := w3b) w.heap.size (by rfl) (.tmp 25) (.tmp 29) 24 3 (.int .i64 0) 8 rfl Try.underlying24 infoInt rfl (by decide) (by omega) (.slice G m capG) (lasOf c.f0 m) (latchOf c (m : Int)) [.int .i64 (latchOf c (m : Int))] (fun j => some j ≠ (Value.slice F5 (m + 1) capF5).ownBlock) (fun _ => False) rfl rfl ?aP ?aK ?aF ?aO ?aB ?aS ?aL ?_
      case aP => exact rfl
      case aK => exact fun _ h => h.elim
      case aF => exact fun j hj e => absurd (Kd.R_lt RF53b.out j e.symm) (by omega)
      case aO => exact RG3b.out
      case aB => exact I3b.out.BW
      case aS => exact I3b.out.BW.size
      case aL => have := HNB.out; have := HMT.out; rw [lasOf_len]; omega
      intro v1 w5b ho hb hg hat
      obtain ⟨G5, capG5, rfl, _, _⟩ := Kd.R_reads ho
      rw [show (lasOf c.f0 m ++ [latchOf c (m : Int)]).length = m + 1 by simp [lasOf_len]] at ho hat ⊢
      rw [HY.out, ← lasOf_succ] at ho
      have I5b := Aside0.mk (I3b.out.grown RG3b.out hg hb)
      have RF55b := Aside0.mk (R_apart RF53b.out hg hat)
      have RG5b := Aside0.mk ho
      clear ho hb hg hat
      have z4b := blk_frozen I5b.out.BL 4
      have r4b := (blk_cell I5b.out.BL 4).trans rfl
      refine hK.out _ _ ⟨(blk_cell I5b.out.BC 0).trans rfl, (blk_cell I5b.out.BC 1).trans rfl, (blk_cell I5b.out.BC 2).trans rfl, (blk_cell I5b.out.BC 3).trans rfl, (blk_cell I5b.out.BC 4).trans rfl, (blk_cell I5b.out.BL 4).trans rfl⟩ (fun hHeld => ?_)
      clear hK K
      refine norm_ (a' := ?_) ?_ ?_
      rotate_left
      · show Act.put _ (some 30) _ = _
        simp only [Act.put, List.setIfInBounds_toArray, List.set_cons_zero, List.set_cons_succ]
        rfl
      refine pure_ (i := 7) (N := some 31) (v := ?_) (a' := ?_) #[true, true, true, true, true, true, true, true, false] rfl rfl (by kernel_rfl) (fun _ _ _ h => h) (Or.inl ⟨by rfl, ?_⟩) ?_ ?_
      rotate_left
      · intro w'
        go_simp
        with_reducible rfl
      rotate_left
      · simp only [Act.put, List.setIfInBounds_toArray, List.set_cons_zero, List.set_cons_succ]
        rfl
      refine last_ (i := 8) (N := none) #[true, true, true, true, true, true, true, true, true] rfl rfl (by kernel_rfl) (by decide) (fun K hK => ?_)
      refine skip_ (w1 := ?_) (by rfl) rfl ?_ ?_
      rotate_left
      · go_simp
        rfl
      refine hK.out _ _ ?_
      clear hK K
      refine done_ (by kernel_rfl) ?_
      have I7b := Aside0.mk (I5b.out.putL HGL.out (.slice G5 (m + 1) capG5))
      have RG7b := Aside0.mk (Kd.R_set RG5b.out I5b.out.BL (by decide) 4 (.slice G5 (m + 1) capG5))
      have RF57b := Aside0.mk (Kd.R_set RF55b.out I5b.out.BL (by decide) 4 (.slice G5 (m + 1) capG5))
      clear I3b RG3b RF53b I5b RG5b RF55b hHeld z4b r4b
      go_wp2
      generalize w5b.setCell ⟨gL, 4, none⟩ (.slice G5 (m + 1) capG5) = w8 at *
      go_roundg (c.f1.length - (m + 1))
      case measure => have := HM.out; have := HMT.out; omega
      case rel => exact ⟨m + 1, F5, capF5, G5, capG5, val_step HMT.out (by have := HNB.out; omega), ⟨HMT.out, by have := HM.out; omega⟩, I7b, RF57b, RG7b⟩
    · have hm : m = c.f1.length := by have := HM.out; omega
      subst hm
      have RFB := Aside0.mk (show Kd.R (Kd.int .i64) 3 wr w.heap.size (fun j => j < wr.heap.size) (.slice F c.f1.length capF) (lasOf c.f0 c.f1.length) from Kd.R_mono (Kd.R_bound RF.out) (fun _ h => h.2.2.1))
      have RGB := Aside0.mk (show Kd.R (Kd.int .i64) 3 wr w.heap.size (fun j => j < wr.heap.size) (.slice G c.f1.length capG) (lasOf c.f0 c.f1.length) from Kd.R_mono (Kd.R_bound RG.out) (fun _ h => h.2.2.1))
      obtain ⟨g2, hg2⟩ : ∃ g2, wr.heap.size = g2 := ⟨_, rfl⟩
      rw [hg2] at RFB RGB
      have HWG := Aside0.mk (show w.heap.size ≤ g2 by have := I.out.BW.size; omega)
      have HG2 := Aside0.mk (show g2 ≤ wr.heap.size by omega)
      clear hg2 RF RG
      go_wp2
      clear c0 c1 c2 c3 c4 r0 r1 r2 r3 r4 r5 r6 z0 z1 z2 z3 z4 z5 z6
      go_loopg [5] n (fun gg s5 wr => ∃ (k : Nat) (A : Option Addr) (cap : Nat), s5 = .int .i64 k ∧ Aside0 (k ≤ n ∧ n - k ≤ gg) ∧ Aside0 (IdInv w p c gI gL (.slice F c.f1.length capF) (.slice G c.f1.length capG) wr A k cap) ∧
        Aside0 (Kd.R (Kd.int .i64) 3 wr g2 (fun _ => True) (.slice A k cap) (insOf k)) ∧ Aside0 (Kd.R (Kd.int .i64) 3 wr w.heap.size (fun j => j < g2) (.slice F c.f1.length capF) (lasOf c.f0 c.f1.length)) ∧
        Aside0 (Kd.R (Kd.int .i64) 3 wr w.heap.size (fun j => j < g2) (.slice G c.f1.length capG) (lasOf c.f0 c.f1.length)) ∧ Aside0 (g2 ≤ wr.heap.size))
      case atStart => exact ⟨0, none, 0, rfl, ⟨by omega, by omega⟩, I, ⟨Kd.R_nil _ _ _ _ _⟩, RFB, RGB, HG2⟩
      case round =>
        clear RFB RGB I HG2
        obtain ⟨k, A, cap, rfl, HK, I, RI, RF, RG, HG2⟩ := hrel
        obtain ⟨c0, c1, c2, c3, c4⟩ := blk5 I.out.BC
        obtain ⟨⟨r0, r1, r2, r3, r4, r5, r6⟩, z0, z1, z2, z3, z4, z5, z6⟩ := blk7 I.out.BL
        have i0 := (blk_cell I.out.BI 0).trans rfl
        have y0 := blk_frozen I.out.BI 0
        by_cases hlt : (k : Int) < c.f0
        · have hk : k < n := by have := HN.out; omega
          have HKN := Aside0.mk hk
          obtain ⟨x, hx⟩ : ∃ x, IntKind.i64.wrap ((k : Int) + 1) = x := ⟨_, rfl⟩
          obtain ⟨y, hy⟩ : ∃ y, IntKind.i64.wrap (2 * x) = y := ⟨_, rfl⟩
          have HY := Aside0.mk (show y = 2 * ((k : Int) + 1) by have := HNB.out; rw [← hy, ← hx, IntKind.wrap_i64, IntKind.wrap_i64]; omega)
          have HX := Aside0.mk (show x = ((k + 1 : Nat) : Int) by have := HNB.out; rw [← hx, IntKind.wrap_i64]; omega)
          clear hk
          go_wp2
          refine start_ (n := 13) (S := (fun w' => w'.cell? ⟨gL, 3, none⟩ = some (.slice (some ⟨gI, 0, none⟩) 1 1) ∧ w'.cell? ⟨gI, 0, none⟩ = some (.slice A k cap))) (ds := [12]) #[false, false, false, false, false, false, false, false, false, false, false, false, false] (by kernel_rfl) rfl rfl ⟨r3, i0⟩ (fun hHeld => ?_)
          refine pure_ (i := 0) (N := some 38) (v := ?_) (a' := ?_) #[true, false, false, false, false, false, false, false, false, false, false, false, false] rfl rfl (by kernel_rfl) (fun _ _ _ h => h) (Or.inl ⟨by rfl, ?_⟩) ?_ ?_
          rotate_left
          · intro w'
            go_simp
            with_reducible rfl
          rotate_left
          · simp only [Act.put, List.setIfInBounds_toArray, List.set_cons_zero, List.set_cons_succ]
            rfl
          refine pure_ (i := 2) (N := some 40) (v := ?_) (a' := ?_) #[true, false, true, false, false, false, false, false, false, false, false, false, false] rfl rfl (by kernel_rfl) (fun _ _ _ h => h) (Or.inl ⟨by rfl, ?_⟩) ?_ ?_
          rotate_left
          · intro w'
            go_simp
            with_reducible rfl
          rotate_left
          · simp only [Act.put, List.setIfInBounds_toArray, List.set_cons_zero, List.set_cons_succ]
            rfl
          refine pure_ (i := 6) (N := some 44) (v := ?_) (a' := ?_) #[true, false, true, false, false, false, true, false, false, false, false, false, false] rfl rfl (by kernel_rfl) (fun _ _ _ h => h) (Or.inl ⟨by rfl, ?_⟩) ?_ ?_
          rotate_left
          · intro w'
            go_simp
            with_reducible rfl
          rotate_left
          · simp only [Act.put, List.setIfInBounds_toArray, List.set_cons_zero, List.set_cons_succ]
            rfl
          refine pure_ (i := 7) (N := some 45) (v := ?_) (a' := ?_) #[true, false, true, false, false, false, true, true, false, false, false, false, false] rfl rfl (by kernel_rfl) (fun _ _ _ h => h) (Or.inl ⟨by rfl, ?_⟩) ?_ ?_
          rotate_left
          · intro w'
            go_simp
            with_reducible rfl
          rotate_left
          · simp only [Act.put, List.setIfInBounds_toArray, List.set_cons_zero, List.set_cons_succ]
            rfl
          refine pure_ (i := 8) (N := some 46) (v := ?_) (a' := ?_) #[true, false, true, false, false, false, true, true, true, false, false, false, false] rfl rfl (by kernel_rfl) (fun _ _ _ h => h) (Or.inl ⟨by rfl, ?_⟩) ?_ ?_
          rotate_left
          · intro w'
            go_simp
            with_reducible rfl
          rotate_left
          · simp only [Act.put, List.setIfInBounds_toArray, List.set_cons_zero, List.set_cons_succ]
            rfl
          refine take_ (i := 1) (N := some 39) (v := ?_) (a' := ?_) #[true, true, true, false, false, false, true, true, true, false, false, false, false] rfl rfl (by kernel_rfl) (fun _ _ _ h => h) (Or.inl ⟨by rfl, ?_⟩) hHeld ?_ ?_
          rotate_left
          · rintro w' ⟨s0, s1⟩
            go_simp
            with_reducible rfl
          rotate_left
          · simp only [Act.put, List.setIfInBounds_toArray, List.set_cons_zero, List.set_cons_succ]
            rfl
          refine take_ (i := 3) (N := some 41) (v := ?_) (a' := ?_) #[true, true, true, true, false, false, true, true, true, false, false, false, false] rfl rfl (by kernel_rfl) (fun _ _ _ h => h) (Or.inl ⟨by rfl, ?_⟩) hHeld ?_ ?_
          rotate_left
          · rintro w' ⟨s0, s1⟩
            go_simp
            with_reducible rfl
          rotate_left
          · simp only [Act.put, List.setIfInBounds_toArray, List.set_cons_zero, List.set_cons_succ]
            rfl
          refine pure_ (i := 4) (N := some 42) (v := ?_) (a' := ?_) #[true, true, true, true, true, false, true, true, true, false, false, false, false] rfl rfl (by kernel_rfl) (fun _ _ _ h => h) (Or.inl ⟨by rfl, ?_⟩) ?_ ?_
          rotate_left
          · intro w'
            go_simp
            with_reducible rfl
          rotate_left
          · simp only [Act.put, List.setIfInBounds_toArray, List.set_cons_zero, List.set_cons_succ]
            rfl
          refine take_ (i := 5) (N := some 43) (v := ?_) (a' := ?_) #[true, true, true, true, true, true, true, true, true, false, false, false, false] rfl rfl (by kernel_rfl) (fun _ _ _ h => h) (Or.inl ⟨by rfl, ?_⟩) hHeld ?_ ?_
          rotate_left
          · rintro w' ⟨s0, s1⟩
            go_simp
            with_reducible rfl
          rotate_left
          · simp only [Act.put, List.setIfInBounds_toArray, List.set_cons_zero, List.set_cons_succ]
            rfl
          refine one_ (i := 9) (N := some 47) #[true, true, true, true, true, true, true, true, true, true, false, false, false] rfl rfl (by kernel_rfl) (by decide) (fun K hK => ?_)
          refine value_ (w1 := ?_) (v := ?_) (by rfl) rfl ?_ ?_
          rotate_left 2
          · go_simp
            constructor
            · rfl
            · rfl
          refine hK.out _ _ ⟨(World.cell?_alloc_lt _ _ _ (World.block_lt_of_cell? _ _ hHeld.1)).trans hHeld.1, (World.cell?_alloc_lt _ _ _ (World.block_lt_of_cell? _ _ hHeld.2)).trans hHeld.2⟩ (fun hHeld => ?_)
          clear hK K
          refine norm_ (a' := ?_) ?_ ?_
          rotate_left
          · show Act.put _ (some 47) _ = _
            simp only [Act.put, List.setIfInBounds_toArray, List.set_cons_zero, List.set_cons_succ]
            rfl
          refine one_ (i := 10) (N := some 48) #[true, true, true, true, true, true, true, true, true, true, true, false, false] rfl rfl (by kernel_rfl) (by decide) (fun K hK => ?_)
          refine Kd.R_append_step (Kd.int .i64) (w0 := wr) (W := wr.drew) g2 (by rfl) (.tmp 43) (.tmp 47) 24 3 (.int .i64 0) 8 rfl Try.underlying24 infoInt rfl (by decide) (by omega) (.slice A k cap) (insOf k) y [.int .i64 y] (fun _ => True) (fun _ => False) rfl rfl ?aP ?aK ?aF ?aO ?aB ?aS ?aL ?_
          case aP => exact rfl
          case aK => exact fun _ h => h.elim
          case aF => exact fun _ _ => trivial
          case aO => exact Kd.R_drew RI.out
          case aB => exact below_drew (Below.refl _ _)
          case aS => exact HG2.out
          case aL => have := HNB.out; have := HKN.out; rw [insOf_len]; omega
          intro v1 w5 ho hb hg hat
          obtain ⟨A5, cap5, rfl, _, _⟩ := Kd.R_reads ho
          rw [show (insOf k ++ [y]).length = k + 1 by simp [insOf_len]] at ho ⊢
          rw [HY.out, ← insOf_succ] at ho
          have I5 := Aside0.mk (I.out.drew.grown (Kd.R_drew RI.out) hg (I.out.BW.trans (hb.mono HWG.out)))
          have RF5 := Aside0.mk (Kd.R_grown (Kd.R_drew RF.out) hg (fun j hj e => absurd (Kd.R_base RI.out j e.symm) (by omega)))
          have RG5 := Aside0.mk (Kd.R_grown (Kd.R_drew RG.out) hg (fun j hj e => absurd (Kd.R_base RI.out j e.symm) (by omega)))
          have R5 := Aside0.mk ho
          have HG5 := Aside0.mk (Nat.le_trans HG2.out hb.size)
          clear ho hb hg hat
          clear c0 c1 c2 c3 c4 r0 r1 r2 r3 r4 r5 r6 z0 z1 z2 z3 z4 z5 z6 i0 y0
          have r3 := (blk_cell I5.out.BL 3).trans rfl
          have i0 := (blk_cell I5.out.BI 0).trans rfl
          have y0 := blk_frozen I5.out.BI 0
          refine hK.out _ _ ⟨r3, i0⟩ (fun hHeld => ?_)
          clear hK K
          refine norm_ (a' := ?_) ?_ ?_
          rotate_left
          · show Act.put _ (some 48) _ = _
            simp only [Act.put, List.setIfInBounds_toArray, List.set_cons_zero, List.set_cons_succ]
            rfl
          refine pure_ (i := 11) (N := some 49) (v := ?_) (a' := ?_) #[true, true, true, true, true, true, true, true, true, true, true, true, false] rfl rfl (by kernel_rfl) (fun _ _ _ h => h) (Or.inl ⟨by rfl, ?_⟩) ?_ ?_
          rotate_left
          · intro w'
            go_simp
            with_reducible rfl
          rotate_left
          · simp only [Act.put, List.setIfInBounds_toArray, List.set_cons_zero, List.set_cons_succ]
            rfl
          refine last_ (i := 12) (N := none) #[true, true, true, true, true, true, true, true, true, true, true, true, true] rfl rfl (by kernel_rfl) (by decide) (fun K hK => ?_)
          refine skip_ (w1 := ?_) (by rfl) rfl ?_ ?_
          rotate_left
          · go_simp
            rfl
          refine hK.out _ _ ?_
          clear hK K
          refine done_ (by kernel_rfl) ?_
          go_wp2
          go_roundg (n - (k + 1))
          case measure => have := HK.out; have := HKN.out; omega
          case rel => exact ⟨k + 1, A5, cap5, val_eq HX.out, ⟨HKN.out, by have := HK.out; omega⟩, ⟨I5.out.put HGI.out⟩, ⟨Kd.R_set R5.out I5.out.BI (by decide) 0 _⟩, ⟨Kd.R_set RF5.out I5.out.BI (by decide) 0 _⟩, ⟨Kd.R_set RG5.out I5.out.BI (by decide) 0 _⟩, ⟨by simpa using HG5.out⟩⟩
        · have hk : k = n := by have := HN.out; have := HK.out; omega
          subst hk
          obtain ⟨⟨q0, q1, q2, q3, q4, q5, q6⟩, y0, y1, y2, y3, y4, y5, y6⟩ := blk7 I.out.BR
          have hne : gL ≠ w.heap.size + 1 := by have := HGL.out; omega
          have hne' : w.heap.size + 1 ≠ gL := by have := HGL.out; omega
          go_wp2
          have HF := R7 RF.out I.out.BR (by decide) (.int .i64 0) (.int .i64 1) (.slice F c.f1.length capF) (.slice (some ⟨gI, 0, none⟩) 1 1) (.slice G c.f1.length capG) (.slice none 0 0) (.int .i64 1)
          have HI := R7 RI.out I.out.BR (by decide) (.int .i64 0) (.int .i64 1) (.slice F c.f1.length capF) (.slice (some ⟨gI, 0, none⟩) 1 1) (.slice G c.f1.length capG) (.slice none 0 0) (.int .i64 1)
          have HC := R7 RG.out I.out.BR (by decide) (.int .i64 0) (.int .i64 1) (.slice F c.f1.length capF) (.slice (some ⟨gI, 0, none⟩) 1 1) (.slice G c.f1.length capG) (.slice none 0 0) (.int .i64 1)
          have HBI := far7 I.out.BI (blk_ne I.out.BI I.out.BR (by decide)) (.int .i64 0) (.int .i64 1) (.slice F c.f1.length capF) (.slice (some ⟨gI, 0, none⟩) 1 1) (.slice G c.f1.length capG) (.slice none 0 0) (.int .i64 1)
          have HBR := blk7_set I.out.BR (.int .i64 0) (.int .i64 1) (.slice F c.f1.length capF) (.slice (some ⟨gI, 0, none⟩) 1 1) (.slice G c.f1.length capG) (.slice none 0 0) (.int .i64 1)
          have HBW := below7 I.out.BW (show w.heap.size ≤ w.heap.size + 1 by omega) (.int .i64 0) (.int .i64 1) (.slice F c.f1.length capF) (.slice (some ⟨gI, 0, none⟩) 1 1) (.slice G c.f1.length capG) (.slice none 0 0) (.int .i64 1)
          refine bodyPost_ret (results_cell_row rfl _ _ (w.heap.size + 1) 33 #[.int .i64 0, .int .i64 1, .slice F c.f1.length capF, .slice (some ⟨gI, 0, none⟩) 1 1, .slice G c.f1.length capG, .slice none 0 0, .int .i64 1] (0, 0) _ rfl HBR hu31 rfl (by kernel_rfl)) rfl ?_
          have hk : c.f0.toNat = k := by rw [HN.out]; rfl
          refine ⟨⟨F, capF, some ⟨gI, 0, none⟩, 1, G, capG, none, 0⟩, ?_, fun W hW => ⟨RS.of_R' (R_held HF (Nat.le_refl _) hW), ?_, RS.of_R' (R_held HC (Nat.le_refl _) hW), RS.nil _ _ _⟩, HBW⟩
          · simp only [lv, idOf, lasOf_len, List.length_singleton, List.length_nil]
          · show RS _ _ _ _ [insOf c.f0.toNat]
            rw [hk]
            exact RS.one_row ((hW gI HGI.out (blk_lt HBI)).trans HBI) (insOf_len k).symm (RS.of_R' (R_held HI HWG.out hW))
end Go.Proofs.Ytpoadkogcdfglaa.PH
