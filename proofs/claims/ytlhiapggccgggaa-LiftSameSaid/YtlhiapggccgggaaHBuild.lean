/- The builder of predicates: and. -/
import Derived.Test.YtlhiapggccgggaaHTold
import Derived.Test.YtlhiapggccgggaaHPackB
import Derived.Test.YtlhiapggccgggaaHPackA
namespace Go.Proofs.Ytlhiapggccgggaa.PH
open Go.RowKit Go.Proofs.YtlhiapggccgggaaW.PrintWords Go.Proofs.YtlhiapggccgggaaW.PrintLast
set_option linter.unusedVariables false
set_option linter.unusedSimpArgs false

/-- The gate that the AND of two literals is. -/
def gateOf (x y : Int) : Gate := ⟨mx x y, mn x y⟩
/-- What builder.and does: its gates, whether it is full, the literal. -/
def andR (ands : List Gate) (first : Int) (full : Bool) (x y : Int) : List Gate × Bool × Int :=
  if (simpleR x y).2 then (ands, full, (simpleR x y).1)
  else if gidx (gateOf x y) ands 0 < 0 then
    if 1000 < first + ands.length then (ands, true, 0) else (ands ++ [gateOf x y], full, 2 * (first + ands.length))
  else (ands, full, 2 * (first + gidx (gateOf x y) ands 0))
theorem gidx_lt (g : Gate) : ∀ (l : List Gate) (k : Nat), gidx g l k < (k : Int) + l.length ∧ -1 ≤ gidx g l k
  | [], k => by simp [gidx]; omega
  | x :: xs, k => by
    unfold gidx
    split
    · simp; omega
    · have := gidx_lt g xs (k + 1)
      simp only [List.length_cons]
      push_cast at *
      omega
/-- The builder at block gB: its row is its own. -/
structure BInv (b0 : Nat) (gB : Nat) (E : Option Addr) (cap : Nat) (ands : List Gate) (first : Int) (F : Value) (full : Bool) (w : World) : Prop where
  BB : w.heap[gB]? = some (.cells #[.slice E ands.length cap, .int .i64 first, F, .bool full] 139 (0, 0))
  RR : Kd.R kGate 93 w b0 (fun _ => True) (.slice E ands.length cap) ands
/-- Behind a call on the builder: its new state; what lies elsewhere is as it was. -/
def RetB (b0 gB : Nat) (E : Option Addr) (n cap : Nat) (first : Int) (F : Value) (r : List Gate × Bool × Int) (w w' : World) (e : Ending) : Prop :=
  e = .returned (.int .i64 r.2.2) ∧ (∃ E' cap', BInv b0 gB E' cap' r.1 first F r.2.1 w' ∧ ∀ k, (Value.slice E' r.1.length cap').ownBlock = some k → (Value.slice E n cap).ownBlock = some k ∨ w.heap.size ≤ k) ∧
    Below b0 w w' ∧ (∀ k, k < w.heap.size → k ≠ gB → some k ≠ (Value.slice E n cap).ownBlock → w'.heap[k]? = w.heap[k]?)
set_option maxHeartbeats 4000000 in
set_option maxRecDepth 100000 in
theorem builder_and_simple (b0 gB : Nat) (E : Option Addr) (cap : Nat) (ands : List Gate) (first : Int) (F : Value) (full : Bool) (x y : Int) (w : World) (hx : IsLit x) (hy : IsLit y) (hI : BInv b0 gB E cap ands first F full w) (hb : b0 ≤ w.heap.size) (hs : (simpleR x y).2 = true) :
    Calls Try.prog 73 #[.pointer (some ⟨gB, 0, none⟩), .int .i64 x, .int .i64 y] w fun e w' => RetB b0 gB E ands.length cap first F (andR ands first full x y) w w' e := by
  have HA := Aside0.mk (lits_And x y w hx hy)
  have HI := Aside0.mk hI
  have HB := Aside0.mk hb
  unfold andR
  rw [if_pos hs]
  generalize simpleR x y = ps at *
  obtain ⟨l, s⟩ := ps
  dsimp only at hs
  subst hs
  clear hI hb hx hy
  go_enter Try.func73, Try.ntmps73
  go_wp2_with fail
  refine HA.out.mono ?_
  rintro e w1 ⟨rfl, hb1⟩
  have B1 := Aside0.mk hb1
  clear hb1
  go_wp2
  go_ret
  exact ⟨rfl, ⟨E, cap, ⟨blk_below HI.out.BB B1.out, Kd.R_below HI.out.RR B1.out⟩, fun k hk => .inl hk⟩, B1.out.mono HB.out, fun k hk _ _ => B1.out.block k hk⟩
attribute [local go_sem] max_pair min_pair
set_option maxHeartbeats 4000000 in
set_option maxRecDepth 100000 in
theorem builder_and_found (b0 gB : Nat) (E : Option Addr) (cap : Nat) (ands : List Gate) (first : Int) (F : Value) (full : Bool) (x y : Int) (w : World) (hx : IsLit x) (hy : IsLit y) (hI : BInv b0 gB E cap ands first F full w) (hb : b0 ≤ w.heap.size) (hs : (simpleR x y).2 = false) (hf0 : 0 ≤ first) (hf1 : first ≤ 1001) (hn : ands.length ≤ 4000) (hat : ¬ gidx (gateOf x y) ands 0 < 0) :
    Calls Try.prog 73 #[.pointer (some ⟨gB, 0, none⟩), .int .i64 x, .int .i64 y] w fun e w' => RetB b0 gB E ands.length cap first F (andR ands first full x y) w w' e := by
  have HA := Aside0.mk (lits_And x y w hx hy)
  have HI := Aside0.mk hI
  have HB := Aside0.mk hb
  have HBD := Aside0.mk (And.intro hf0 (And.intro hf1 (And.intro hn (gidx_lt (gateOf x y) ands 0))))
  have hu71 := Try.underlying93
  have hu83 := Try.underlying139
  unfold andR
  rw [if_neg (by rw [hs]; decide), if_neg hat]
  have HIX := Aside0.mk (fun W (h : RS kGate W E cap ands) => slices_Index_gate E cap ands (gateOf x y) W h)
  have hhi : (if x < y then y else x) = (gateOf x y).f0 := rfl
  have hlo : (if y < x then y else x) = (gateOf x y).f1 := rfl
  generalize gateOf x y = g at *
  generalize simpleR x y = ps at *
  obtain ⟨l, s⟩ := ps
  dsimp only at hs
  subst hs
  obtain ⟨a, ha⟩ : ∃ a, gidx g ands 0 = a := ⟨_, rfl⟩
  rw [ha] at hat HIX HBD ⊢
  have hz : ¬ a < 0 := hat
  clear hI hb hx hy hf0 hf1 hn hat ha
  go_enter Try.func73, Try.ntmps73
  go_wp2_with fail
  refine HA.out.mono ?_
  rintro e w1 ⟨rfl, hb1⟩
  have B1 := Aside0.mk (hb1.trans ((below_alloc (Below.refl w1.heap.size w1) (.cells #[.int .i64 g.f0, .int .i64 g.f1] 93)).mono hb1.size))
  have BG := Aside0.mk (blk_new w1 (.cells #[.int .i64 g.f0, .int .i64 g.f1] 93))
  clear hb1
  go_wp2
  generalize w1.alloc (.cells #[.int .i64 g.f0, .int .i64 g.f1] 93) = w3 at *
  generalize w1.heap.size = gG at *
  have I3 : Aside0 (BInv b0 gB E cap ands first F full w3) := ⟨⟨blk_below HI.out.BB B1.out, Kd.R_below HI.out.RR B1.out⟩⟩
  refine start_ (n := 7) (S := (fun w' => w'.cell? ⟨gB, 0, none⟩ = some (.slice E ands.length cap) ∧ w'.cell? ⟨gG, 0, none⟩ = some (.int .i64 g.f0) ∧ w'.cell? ⟨gG, 1, none⟩ = some (.int .i64 g.f1))) (ds := []) #[false, false, false, false, false, false, false] (by kernel_rfl) rfl rfl ⟨(blk_cell I3.out.BB 0).trans rfl, (blk_cell BG.out 0).trans rfl, (blk_cell BG.out 1).trans rfl⟩ (fun hHeld => ?_)
  refine pure_ (i := 0) (N := some 32) (v := ?_) (a' := ?_) #[true, false, false, false, false, false, false] rfl rfl (by kernel_rfl) (fun _ _ _ h => h) (Or.inl ⟨by rfl, ?_⟩) ?_ ?_
  rotate_left
  · intro w'
    go_simp
    with_reducible rfl
  rotate_left
  · simp only [Act.put, List.setIfInBounds_toArray, List.set_cons_zero, List.set_cons_succ]
    rfl
  refine pure_ (i := 1) (N := some 33) (v := ?_) (a' := ?_) #[true, true, false, false, false, false, false] rfl rfl (by kernel_rfl) (fun _ _ _ h => h) (Or.inl ⟨by rfl, ?_⟩) ?_ ?_
  rotate_left
  · intro w'
    go_simp
    with_reducible rfl
  rotate_left
  · simp only [Act.put, List.setIfInBounds_toArray, List.set_cons_zero, List.set_cons_succ]
    rfl
  refine pure_ (i := 2) (N := some 34) (v := ?_) (a' := ?_) #[true, true, true, false, false, false, false] rfl rfl (by kernel_rfl) (fun _ _ _ h => h) (Or.inl ⟨by rfl, ?_⟩) ?_ ?_
  rotate_left
  · intro w'
    go_simp
    with_reducible rfl
  rotate_left
  · simp only [Act.put, List.setIfInBounds_toArray, List.set_cons_zero, List.set_cons_succ]
    rfl
  refine take_ (i := 3) (N := some 35) (v := ?_) (a' := ?_) #[true, true, true, true, false, false, false] rfl rfl (by kernel_rfl) (fun _ _ _ h => h) (Or.inl ⟨by rfl, ?_⟩) hHeld ?_ ?_
  rotate_left
  · rintro w' ⟨s0, s1, s2⟩
    go_simp
    with_reducible rfl
  rotate_left
  · simp only [Act.put, List.setIfInBounds_toArray, List.set_cons_zero, List.set_cons_succ]
    rfl
  refine take_ (i := 4) (N := some 36) (v := ?_) (a' := ?_) #[true, true, true, true, true, false, false] rfl rfl (by kernel_rfl) (fun _ _ _ h => h) (Or.inl ⟨by rfl, ?_⟩) hHeld ?_ ?_
  rotate_left
  · rintro w' ⟨s0, s1, s2⟩
    go_simp
    with_reducible rfl
  rotate_left
  · simp only [Act.put, List.setIfInBounds_toArray, List.set_cons_zero, List.set_cons_succ]
    rfl
  refine one_ (i := 5) (N := some 37) #[true, true, true, true, true, true, false] rfl rfl (by kernel_rfl) (by decide) (fun K hK => ?_)
  refine goes_ Try.func94 (by kernel_rfl) rfl #[.slice E ands.length cap, .agg #[.int .i64 g.f0, .int .i64 g.f1]] (by rfl) rfl rfl (by simp only [List.map_toArray, List.map_cons, List.map_nil] <;> rfl) ?_
  refine (HIX.out _ (RS.of_R' (Kd.R_drew I3.out.RR))).mono ?_
  rintro e w5 ⟨rfl, hb5⟩
  refine ⟨_, rfl, ?_⟩
  have I5 : Aside0 (BInv b0 gB E cap ands first F full w5) := ⟨⟨blk_below (blk_drew I3.out.BB) hb5, Kd.R_below (Kd.R_drew I3.out.RR) hb5⟩⟩
  have BG5 := Aside0.mk (blk_below (blk_drew BG.out) hb5)
  have B5 := Aside0.mk (B1.out.trans ((below_drew (Below.refl w3.heap.size w3)).trans (show Below w3.heap.size w3.drew w5 from hb5) |>.mono B1.out.size))
  clear hb5
  refine hK.out _ _ ⟨(blk_cell I5.out.BB 0).trans rfl, (blk_cell BG5.out 0).trans rfl, (blk_cell BG5.out 1).trans rfl⟩ (fun hHeld => ?_)
  clear hK K
  refine norm_ (a' := ?_) ?_ ?_
  rotate_left
  · show Act.put _ (some 37) _ = _
    simp only [Act.put, List.setIfInBounds_toArray, List.set_cons_zero, List.set_cons_succ]
    rfl
  refine pure_ (i := 6) (N := some 11) (v := ?_) (a' := ?_) #[true, true, true, true, true, true, true] rfl rfl (by kernel_rfl) (fun _ _ _ h => h) (Or.inl ⟨by rfl, ?_⟩) ?_ ?_
  rotate_left
  · intro w'
    go_simp
    with_reducible rfl
  rotate_left
  · simp only [Act.put, List.setIfInBounds_toArray, List.set_cons_zero, List.set_cons_succ]
    rfl
  refine done_ (by kernel_rfl) ?_
  have q1 := (blk_cell I5.out.BB 1).trans rfl
  have HWR := Aside0.mk (show wrap64 (2 * wrap64 (first + a)) = 2 * (first + a) by
    have := HBD.out
    rw [wrap_in (x := first + a) (by omega) (by omega), wrap_in (by omega) (by omega)])
  go_wp2
  go_ret
  exact ⟨ret_int HWR.out, ⟨E, cap, I5.out, fun k hk => .inl hk⟩, B5.out.mono HB.out, fun k hk _ _ => B5.out.block k hk⟩
set_option maxHeartbeats 4000000 in
set_option maxRecDepth 100000 in
theorem builder_and_new (b0 gB : Nat) (E : Option Addr) (cap : Nat) (ands : List Gate) (first : Int) (F : Value) (full : Bool) (x y : Int) (w : World) (hx : IsLit x) (hy : IsLit y) (hI : BInv b0 gB E cap ands first F full w) (hb : b0 ≤ w.heap.size) (hgb : b0 ≤ gB) (hs : (simpleR x y).2 = false) (hf0 : 0 ≤ first) (hf1 : first ≤ 1001) (hn : ands.length ≤ 4000) (hat : gidx (gateOf x y) ands 0 < 0) :
    Calls Try.prog 73 #[.pointer (some ⟨gB, 0, none⟩), .int .i64 x, .int .i64 y] w fun e w' => RetB b0 gB E ands.length cap first F (andR ands first full x y) w w' e := by
  have HA := Aside0.mk (lits_And x y w hx hy)
  have HI := Aside0.mk hI
  have HB := Aside0.mk hb
  have HG := Aside0.mk hgb
  clear hgb
  have HBD := Aside0.mk (And.intro hf0 (And.intro hf1 (And.intro hn (gidx_lt (gateOf x y) ands 0))))
  have hu71 := Try.underlying93
  have hu83 := Try.underlying139
  unfold andR
  rw [if_neg (by rw [hs]; decide), if_pos hat]
  have HIX := Aside0.mk (fun W (h : RS kGate W E cap ands) => slices_Index_gate E cap ands (gateOf x y) W h)
  have hhi : (if x < y then y else x) = (gateOf x y).f0 := rfl
  have hlo : (if y < x then y else x) = (gateOf x y).f1 := rfl
  generalize gateOf x y = g at *
  generalize simpleR x y = ps at *
  obtain ⟨l, s⟩ := ps
  dsimp only at hs
  subst hs
  obtain ⟨a, ha⟩ : ∃ a, gidx g ands 0 = a := ⟨_, rfl⟩
  rw [ha] at hat HIX HBD
  have hz : a < 0 := hat
  clear hI hb hx hy hf0 hf1 hn hat ha
  obtain ⟨R, hR⟩ : ∃ R, (if 1000 < first + (ands.length : Int) then (ands, true, (0 : Int)) else (ands ++ [g], full, 2 * (first + (ands.length : Int)))) = R := ⟨_, rfl⟩
  rw [hR]
  have HR := Aside0.mk hR
  clear hR
  go_enter Try.func73, Try.ntmps73
  go_wp2_with fail
  refine HA.out.mono ?_
  rintro e w1 ⟨rfl, hb1⟩
  have HGG := Aside0.mk (show w.heap.size ≤ w1.heap.size from hb1.size)
  have B1 := Aside0.mk (hb1.trans ((below_alloc (Below.refl w1.heap.size w1) (.cells #[.int .i64 g.f0, .int .i64 g.f1] 93)).mono hb1.size))
  have BG := Aside0.mk (blk_new w1 (.cells #[.int .i64 g.f0, .int .i64 g.f1] 93))
  clear hb1
  go_wp2
  generalize w1.alloc (.cells #[.int .i64 g.f0, .int .i64 g.f1] 93) = w3 at *
  generalize w1.heap.size = gG at *
  have I3 : Aside0 (BInv b0 gB E cap ands first F full w3) := ⟨⟨blk_below HI.out.BB B1.out, Kd.R_below HI.out.RR B1.out⟩⟩
  refine start_ (n := 7) (S := (fun w' => w'.cell? ⟨gB, 0, none⟩ = some (.slice E ands.length cap) ∧ w'.cell? ⟨gG, 0, none⟩ = some (.int .i64 g.f0) ∧ w'.cell? ⟨gG, 1, none⟩ = some (.int .i64 g.f1))) (ds := []) #[false, false, false, false, false, false, false] (by kernel_rfl) rfl rfl ⟨(blk_cell I3.out.BB 0).trans rfl, (blk_cell BG.out 0).trans rfl, (blk_cell BG.out 1).trans rfl⟩ (fun hHeld => ?_)
  refine pure_ (i := 0) (N := some 32) (v := ?_) (a' := ?_) #[true, false, false, false, false, false, false] rfl rfl (by kernel_rfl) (fun _ _ _ h => h) (Or.inl ⟨by rfl, ?_⟩) ?_ ?_
  rotate_left
  · intro w'
    go_simp
    with_reducible rfl
  rotate_left
  · simp only [Act.put, List.setIfInBounds_toArray, List.set_cons_zero, List.set_cons_succ]
    rfl
  refine pure_ (i := 1) (N := some 33) (v := ?_) (a' := ?_) #[true, true, false, false, false, false, false] rfl rfl (by kernel_rfl) (fun _ _ _ h => h) (Or.inl ⟨by rfl, ?_⟩) ?_ ?_
  rotate_left
  · intro w'
    go_simp
    with_reducible rfl
  rotate_left
  · simp only [Act.put, List.setIfInBounds_toArray, List.set_cons_zero, List.set_cons_succ]
    rfl
  refine pure_ (i := 2) (N := some 34) (v := ?_) (a' := ?_) #[true, true, true, false, false, false, false] rfl rfl (by kernel_rfl) (fun _ _ _ h => h) (Or.inl ⟨by rfl, ?_⟩) ?_ ?_
  rotate_left
  · intro w'
    go_simp
    with_reducible rfl
  rotate_left
  · simp only [Act.put, List.setIfInBounds_toArray, List.set_cons_zero, List.set_cons_succ]
    rfl
  refine take_ (i := 3) (N := some 35) (v := ?_) (a' := ?_) #[true, true, true, true, false, false, false] rfl rfl (by kernel_rfl) (fun _ _ _ h => h) (Or.inl ⟨by rfl, ?_⟩) hHeld ?_ ?_
  rotate_left
  · rintro w' ⟨s0, s1, s2⟩
    go_simp
    with_reducible rfl
  rotate_left
  · simp only [Act.put, List.setIfInBounds_toArray, List.set_cons_zero, List.set_cons_succ]
    rfl
  refine take_ (i := 4) (N := some 36) (v := ?_) (a' := ?_) #[true, true, true, true, true, false, false] rfl rfl (by kernel_rfl) (fun _ _ _ h => h) (Or.inl ⟨by rfl, ?_⟩) hHeld ?_ ?_
  rotate_left
  · rintro w' ⟨s0, s1, s2⟩
    go_simp
    with_reducible rfl
  rotate_left
  · simp only [Act.put, List.setIfInBounds_toArray, List.set_cons_zero, List.set_cons_succ]
    rfl
  refine one_ (i := 5) (N := some 37) #[true, true, true, true, true, true, false] rfl rfl (by kernel_rfl) (by decide) (fun K hK => ?_)
  refine goes_ Try.func94 (by kernel_rfl) rfl #[.slice E ands.length cap, .agg #[.int .i64 g.f0, .int .i64 g.f1]] (by rfl) rfl rfl (by simp only [List.map_toArray, List.map_cons, List.map_nil] <;> rfl) ?_
  refine (HIX.out _ (RS.of_R' (Kd.R_drew I3.out.RR))).mono ?_
  rintro e w5 ⟨rfl, hb5⟩
  refine ⟨_, rfl, ?_⟩
  have I5 : Aside0 (BInv b0 gB E cap ands first F full w5) := ⟨⟨blk_below (blk_drew I3.out.BB) hb5, Kd.R_below (Kd.R_drew I3.out.RR) hb5⟩⟩
  have BG5 := Aside0.mk (blk_below (blk_drew BG.out) hb5)
  have B5 := Aside0.mk (B1.out.trans ((below_drew (Below.refl w3.heap.size w3)).trans (show Below w3.heap.size w3.drew w5 from hb5) |>.mono B1.out.size))
  clear hb5
  refine hK.out _ _ ⟨(blk_cell I5.out.BB 0).trans rfl, (blk_cell BG5.out 0).trans rfl, (blk_cell BG5.out 1).trans rfl⟩ (fun hHeld => ?_)
  clear hK K
  refine norm_ (a' := ?_) ?_ ?_
  rotate_left
  · show Act.put _ (some 37) _ = _
    simp only [Act.put, List.setIfInBounds_toArray, List.set_cons_zero, List.set_cons_succ]
    rfl
  refine pure_ (i := 6) (N := some 11) (v := ?_) (a' := ?_) #[true, true, true, true, true, true, true] rfl rfl (by kernel_rfl) (fun _ _ _ h => h) (Or.inl ⟨by rfl, ?_⟩) ?_ ?_
  rotate_left
  · intro w'
    go_simp
    with_reducible rfl
  rotate_left
  · simp only [Act.put, List.setIfInBounds_toArray, List.set_cons_zero, List.set_cons_succ]
    rfl
  refine done_ (by kernel_rfl) ?_
  have q0 := (blk_cell I5.out.BB 0).trans rfl
  have q1 := (blk_cell I5.out.BB 1).trans rfl
  obtain ⟨z, hz1⟩ : ∃ z, first + (ands.length : Int) = z := ⟨_, rfl⟩
  have HW1 : wrap64 (first + (ands.length : Int)) = z := by
    have := HBD.out
    rw [wrap_in (by omega) (by omega)]
    exact hz1
  have HZ := Aside0.mk hz1
  clear hz1
  by_cases hc : 1000 < z
  · have q3 := (blk_cell I5.out.BB 3).trans rfl
    have z3 := blk_frozen I5.out.BB 3
    have HR2 := Aside0.mk (show R = (ands, true, (0 : Int)) by have h_ := HR.out; rw [HZ.out, if_pos hc] at h_; exact h_.symm)
    go_wp2
    go_ret
    rw [HR2.out]
    exact ⟨rfl, ⟨E, cap, ⟨by simpa using blk_set I5.out.BB 3 (.bool true), Kd.R_set I5.out.RR I5.out.BB (by decide) 3 _⟩, fun k hk => .inl hk⟩, (B5.out.mono HB.out).trans (Below.setCell (Below.refl b0 w5) (p := ⟨gB, 3, none⟩) HG.out _), fun k hk hne _ => (Below.heap_setCell _ _ _ _ hne).trans (B5.out.block k hk)⟩
  · have HR2 := Aside0.mk (show R = (ands ++ [g], full, 2 * z) by have h_ := HR.out; rw [HZ.out, if_neg hc] at h_; exact h_.symm)
    have HCL := Aside0.mk hc
    go_wp2
    refine start_ (n := 11) (S := (fun w' => w'.cell? ⟨gB, 0, none⟩ = some (.slice E ands.length cap) ∧ w'.cell? ⟨gG, 0, none⟩ = some (.int .i64 g.f0) ∧ w'.cell? ⟨gG, 1, none⟩ = some (.int .i64 g.f1))) (ds := [10]) #[false, false, false, false, false, false, false, false, false, false, false] (by kernel_rfl) rfl rfl ⟨(blk_cell I5.out.BB 0).trans rfl, (blk_cell BG5.out 0).trans rfl, (blk_cell BG5.out 1).trans rfl⟩ (fun hHeld => ?_)
    refine pure_ (i := 0) (N := some 55) (v := ?_) (a' := ?_) #[true, false, false, false, false, false, false, false, false, false, false] rfl rfl (by kernel_rfl) (fun _ _ _ h => h) (Or.inl ⟨by rfl, ?_⟩) ?_ ?_
    rotate_left
    · intro w'
      go_simp
      with_reducible rfl
    rotate_left
    · simp only [Act.put, List.setIfInBounds_toArray, List.set_cons_zero, List.set_cons_succ]
      rfl
    refine pure_ (i := 1) (N := some 56) (v := ?_) (a' := ?_) #[true, true, false, false, false, false, false, false, false, false, false] rfl rfl (by kernel_rfl) (fun _ _ _ h => h) (Or.inl ⟨by rfl, ?_⟩) ?_ ?_
    rotate_left
    · intro w'
      go_simp
      with_reducible rfl
    rotate_left
    · simp only [Act.put, List.setIfInBounds_toArray, List.set_cons_zero, List.set_cons_succ]
      rfl
    refine pure_ (i := 2) (N := some 57) (v := ?_) (a' := ?_) #[true, true, true, false, false, false, false, false, false, false, false] rfl rfl (by kernel_rfl) (fun _ _ _ h => h) (Or.inl ⟨by rfl, ?_⟩) ?_ ?_
    rotate_left
    · intro w'
      go_simp
      with_reducible rfl
    rotate_left
    · simp only [Act.put, List.setIfInBounds_toArray, List.set_cons_zero, List.set_cons_succ]
      rfl
    refine pure_ (i := 3) (N := some 58) (v := ?_) (a' := ?_) #[true, true, true, true, false, false, false, false, false, false, false] rfl rfl (by kernel_rfl) (fun _ _ _ h => h) (Or.inl ⟨by rfl, ?_⟩) ?_ ?_
    rotate_left
    · intro w'
      go_simp
      with_reducible rfl
    rotate_left
    · simp only [Act.put, List.setIfInBounds_toArray, List.set_cons_zero, List.set_cons_succ]
      rfl
    refine take_ (i := 4) (N := some 59) (v := ?_) (a' := ?_) #[true, true, true, true, true, false, false, false, false, false, false] rfl rfl (by kernel_rfl) (fun _ _ _ h => h) (Or.inl ⟨by rfl, ?_⟩) hHeld ?_ ?_
    rotate_left
    · rintro w' ⟨s0, s1, s2⟩
      go_simp
      with_reducible rfl
    rotate_left
    · simp only [Act.put, List.setIfInBounds_toArray, List.set_cons_zero, List.set_cons_succ]
      rfl
    refine take_ (i := 5) (N := some 60) (v := ?_) (a' := ?_) #[true, true, true, true, true, true, false, false, false, false, false] rfl rfl (by kernel_rfl) (fun _ _ _ h => h) (Or.inl ⟨by rfl, ?_⟩) hHeld ?_ ?_
    rotate_left
    · rintro w' ⟨s0, s1, s2⟩
      go_simp
      with_reducible rfl
    rotate_left
    · simp only [Act.put, List.setIfInBounds_toArray, List.set_cons_zero, List.set_cons_succ]
      rfl
    refine one_ (i := 6) (N := some 61) #[true, true, true, true, true, true, true, false, false, false, false] rfl rfl (by kernel_rfl) (by decide) (fun K hK => ?_)
    refine value_ (w1 := ?_) (v := ?_) (by rfl) rfl ?_ ?_
    rotate_left 2
    · go_simp
      constructor
      · rfl
      · rfl
    refine hK.out _ _ ⟨(World.cell?_alloc_lt _ _ _ (World.block_lt_of_cell? _ _ hHeld.1)).trans hHeld.1, (World.cell?_alloc_lt _ _ _ (World.block_lt_of_cell? _ _ hHeld.2.1)).trans hHeld.2.1, (World.cell?_alloc_lt _ _ _ (World.block_lt_of_cell? _ _ hHeld.2.2)).trans hHeld.2.2⟩ (fun hHeld => ?_)
    clear hK K
    refine norm_ (a' := ?_) ?_ ?_
    rotate_left
    · show Act.put _ (some 61) _ = _
      simp only [Act.put, List.setIfInBounds_toArray, List.set_cons_zero, List.set_cons_succ]
      rfl
    refine one_ (i := 7) (N := some 62) #[true, true, true, true, true, true, true, true, false, false, false] rfl rfl (by kernel_rfl) (by decide) (fun K hK => ?_)
    refine Kd.R_append_step kGate (w0 := w5) (W := w5.drew) b0 (by rfl) (.tmp 59) (.tmp 61) 23 93 (.agg #[.int .i64 0, .int .i64 0]) 16 rfl Try.underlying23 info_gate rfl (by decide) (by omega) (.slice E ands.length cap) ands g [.int .i64 g.f0, .int .i64 g.f1] (fun _ => True) (fun _ => False) rfl rfl ?aP ?aK ?aF ?aO ?aB ?aS ?aL ?_
    case aP => exact kGate_mkM _ _ _ g
    case aK => exact fun _ h => h.elim
    case aF => exact fun _ _ => trivial
    case aO => exact Kd.R_drew I5.out.RR
    case aB => exact below_drew (Below.refl _ _)
    case aS => exact Nat.le_trans HB.out B5.out.size
    case aL => have := HBD.out.2.2.1; omega
    intro v1 w6 ho hb hg hat
    obtain ⟨E6, cap6, rfl, _, _⟩ := Kd.R_reads ho
    have BB6 := Aside0.mk (blk_grown (blk_drew I5.out.BB) hg (Kd.R_ne (Kd.R_drew I5.out.RR) (blk_drew I5.out.BB) (by decide)))
    have BG6 := Aside0.mk (blk_grown (blk_drew BG5.out) hg (fun e => by have h_ := Kd.R_lt HI.out.RR gG e.symm; have := HGG.out; omega))
    rw [show (ands ++ [g]).length = ands.length + 1 by simp] at ho hat ⊢
    have R6 := Aside0.mk ho
    have W6 := Aside0.mk hb
    have G6 := Aside0.mk hg
    have T6 := Aside0.mk hat
    clear ho hb hg hat
    have y0 := (blk_cell BB6.out 0).trans rfl
    have z0 := blk_frozen BB6.out 0
    refine hK.out _ _ ⟨(blk_cell BB6.out 0).trans rfl, (blk_cell BG6.out 0).trans rfl, (blk_cell BG6.out 1).trans rfl⟩ (fun hHeld => ?_)
    clear hK K
    refine norm_ (a' := ?_) ?_ ?_
    rotate_left
    · show Act.put _ (some 62) _ = _
      simp only [Act.put, List.setIfInBounds_toArray, List.set_cons_zero, List.set_cons_succ]
      rfl
    refine pure_ (i := 8) (N := some 63) (v := ?_) (a' := ?_) #[true, true, true, true, true, true, true, true, true, false, false] rfl rfl (by kernel_rfl) (fun _ _ _ h => h) (Or.inl ⟨by rfl, ?_⟩) ?_ ?_
    rotate_left
    · intro w'
      go_simp
      with_reducible rfl
    rotate_left
    · simp only [Act.put, List.setIfInBounds_toArray, List.set_cons_zero, List.set_cons_succ]
      rfl
    refine pure_ (i := 9) (N := some 64) (v := ?_) (a' := ?_) #[true, true, true, true, true, true, true, true, true, true, false] rfl rfl (by kernel_rfl) (fun _ _ _ h => h) (Or.inl ⟨by rfl, ?_⟩) ?_ ?_
    rotate_left
    · intro w'
      go_simp
      with_reducible rfl
    rotate_left
    · simp only [Act.put, List.setIfInBounds_toArray, List.set_cons_zero, List.set_cons_succ]
      rfl
    refine last_ (i := 10) (N := none) #[true, true, true, true, true, true, true, true, true, true, true] rfl rfl (by kernel_rfl) (by decide) (fun K hK => ?_)
    refine skip_ (w1 := ?_) (by rfl) rfl ?_ ?_
    rotate_left
    · go_simp
      rfl
    refine hK.out _ _ ?_
    clear hK K
    refine done_ (by kernel_rfl) ?_
    have y1 := (blk_cell BB6.out 1).trans rfl
    have HWR := Aside0.mk (show wrap64 (2 * z) = 2 * z by have := HBD.out; have := HZ.out; rw [wrap_in (by omega) (by omega)])
    go_wp2
    go_ret
    rw [HR2.out]
    exact ⟨ret_int HWR.out, ⟨E6, cap6, ⟨by have h_ := blk_set BB6.out 0 (.slice E6 (ands.length + 1) cap6); simpa using h_, by have h_ := Kd.R_set R6.out BB6.out (by decide) 0 (.slice E6 (ands.length + 1) cap6); rw [show (ands ++ [g]).length = ands.length + 1 by simp]; exact h_⟩, fun k hk => by
        rw [show ((ands ++ [g], full, 2 * z) : List Gate × Bool × Int).1.length = ands.length + 1 by simp] at hk
        rcases T6.out with h_ | ⟨b, h_, hb_⟩
        · exact .inl (h_ ▸ hk)
        · rw [hk] at h_; cases h_; exact .inr (Nat.le_trans B5.out.size hb_)⟩,
      (B5.out.mono HB.out).trans (Below.setCell W6.out (p := ⟨gB, 0, none⟩) HG.out _), fun k hk hne hno => (Below.heap_setCell _ _ _ _ hne).trans ((G6.out.block k (Nat.lt_of_lt_of_le hk B5.out.size) hno).trans (B5.out.block k hk))⟩
/-- builder.and. -/
theorem builder_and (b0 gB : Nat) (E : Option Addr) (cap : Nat) (ands : List Gate) (first : Int) (F : Value) (full : Bool) (x y : Int) (w : World) (hx : IsLit x) (hy : IsLit y) (hI : BInv b0 gB E cap ands first F full w) (hb : b0 ≤ w.heap.size) (hgb : b0 ≤ gB) (hf0 : 0 ≤ first) (hf1 : first ≤ 1001) (hn : ands.length ≤ 4000) :
    Calls Try.prog 73 #[.pointer (some ⟨gB, 0, none⟩), .int .i64 x, .int .i64 y] w fun e w' => RetB b0 gB E ands.length cap first F (andR ands first full x y) w w' e := by
  cases hs : (simpleR x y).2
  · by_cases hat : gidx (gateOf x y) ands 0 < 0
    · exact builder_and_new b0 gB E cap ands first F full x y w hx hy hI hb hgb hs hf0 hf1 hn hat
    · exact builder_and_found b0 gB E cap ands first F full x y w hx hy hI hb hs hf0 hf1 hn hat
  · exact builder_and_simple b0 gB E cap ands first F full x y w hx hy hI hb hs
end Go.Proofs.Ytlhiapggccgggaa.PH
