/- The reference's Put. -/
import Derived.Test.YtgcdanpihaeioaaHBehind
import Derived.Test.YtgcdanpihaeioaaHTwin
import Derived.Test.YtgcdanpihaeioaaHRef02
import Derived.Test.YtgcdanpihaeioaaHPutC
import Derived.Deep.RegionHeld3
import Derived.Deep.QuietTactic
import Derived.BigQuiet
namespace Go.Proofs.Ytgcdanpihaeioaa.PH
open Go.RowKit Go.Proofs.YtgcdanpihaeioaaW.PrintWords Go.Proofs.YtgcdanpihaeioaaW.PrintLast
set_option linter.unusedVariables false
set_option linter.unusedSimpArgs false

/-- What the reference's Put answers. -/
def putRef (c : Circ) (p : Pr) (l : List Int) : Circ × Int × Int :=
  if check c ≠ 0 then (zeroC, 0, check c)
  else if litsOf (nOf c) l = false then (zeroC, 0, 2)
  else if predCheck l.length p ≠ 0 then (zeroC, 0, predCheck l.length p)
  else if 1000 < c.f0 + c.f1.length + (behindB p l c.f2 (c.f0 + c.f1.length)).1.length then (zeroC, 0, 4)
  else (⟨c.f0, c.f1, (behindB p l c.f2 (c.f0 + c.f1.length)).1, c.f3, c.f4⟩, (behindB p l c.f2 (c.f0 + c.f1.length)).2, 0)
theorem joinR_len (ands : List Gate) (before : Int) (x y : Int) : (joinR ands before x y).1.length ≤ ands.length + 1 := by
  unfold joinR
  split
  · simp
  · split <;> simp
theorem behindR_len (before : Int) : ∀ (gs : List Gate) (own : List Int) (ands : List Gate), (behindR before gs own ands).2.length ≤ ands.length + gs.length
  | [], own, ands => by simp [behindR]
  | g :: gs, own, ands => by
    rw [behindR]
    have h1 := behindR_len before gs (own ++ [(joinR ands before (told own g.f0) (told own g.f1)).2]) (joinR ands before (told own g.f0) (told own g.f1)).1
    have h2 := joinR_len ands before (told own g.f0) (told own g.f1)
    simp only [List.length_cons]
    omega
set_option maxHeartbeats 1000000 in
theorem ref02_SizeL (p : CP) (c : Circ) (w : World) (h0 : 0 ≤ c.f0) (h1 : c.f0 ≤ 1000) (h2 : c.f1.length ≤ 4000000) (h3 : c.f2.length ≤ 4000000) :
    Calls Try.prog 48 #[cv p c] w fun e w' => e = .returned (.int .i64 (c.f0 + c.f1.length + c.f2.length)) ∧ Below w.heap.size w w' := by
  have hw1 : wrap64 (wrap64 (c.f0 + c.f1.length) + c.f2.length) = c.f0 + c.f1.length + c.f2.length := by
    rw [wrap_in (x := c.f0 + c.f1.length) (by omega) (by omega), wrap_in (by omega) (by omega)]
  have HW := Aside0.mk hw1
  clear h0 h1 hw1 h2 h3
  have hu26 := Try.underlying29
  go_enter Try.func48, Try.ntmps48
  go_wp2
  go_ret
  exact ⟨ret_int (by rw [← HW.out]), below_alloc (Below.refl _ _) _⟩
/-- What it has boxed. -/
structure UInv (w : World) (pc : CP) (c : Circ) (A : Option Addr) (k : Nat) (p : Pr) (wr : World) : Prop where
  BW : Below w.heap.size w wr
  B0 : wr.heap[w.heap.size]? = some (.cells #[.int .i64 c.f0, .slice pc.A1 c.f1.length pc.c1, .slice pc.A2 c.f2.length pc.c2, .slice pc.A3 c.f3.length pc.c3, .slice pc.A4 c.f4.length pc.c4] 29 (0, 0))
  B1 : wr.heap[w.heap.size + 1]? = some (.cells #[.slice A p.f0.length k, .int .i64 p.f1] 24 (0, 0))
  B3 : wr.heap[w.heap.size + 2]? = some (.cells #[.int .i64 0, .slice none 0 0, .slice none 0 0, .slice none 0 0, .slice none 0 0] 29 (0, 0))
theorem UInv.below {w : World} {pc : CP} {c : Circ} {A : Option Addr} {k : Nat} {p : Pr} {wr w2 : World} (h : UInv w pc c A k p wr) {b : Nat} (hb : Below b wr w2) (hs : w.heap.size + 2 < b) : UInv w pc c A k p w2 :=
  ⟨h.BW.trans (hb.mono (by omega)), (hb.block _ (by omega)).trans h.B0, (hb.block _ (by omega)).trans h.B1, (hb.block _ (by omega)).trans h.B3⟩
theorem UInv.start (w : World) (pc : CP) (c : Circ) (A : Option Addr) (k : Nat) (p : Pr) :
    UInv w pc c A k p (((w.alloc (.cells #[.int .i64 c.f0, .slice pc.A1 c.f1.length pc.c1, .slice pc.A2 c.f2.length pc.c2, .slice pc.A3 c.f3.length pc.c3, .slice pc.A4 c.f4.length pc.c4] 29)).alloc (.cells #[.slice A p.f0.length k, .int .i64 p.f1] 24)).alloc (.cells #[.int .i64 0, .slice none 0 0, .slice none 0 0, .slice none 0 0, .slice none 0 0] 29)) :=
  ⟨below_alloc (below_alloc (below_alloc (Below.refl _ _) _) _) _, blk_alloc (blk_alloc (blk_new _ _) _) _,
    blk_alloc (by simpa using blk_new (w.alloc (.cells #[.int .i64 c.f0, .slice pc.A1 c.f1.length pc.c1, .slice pc.A2 c.f2.length pc.c2, .slice pc.A3 c.f3.length pc.c3, .slice pc.A4 c.f4.length pc.c4] 29)) (.cells #[.slice A p.f0.length k, .int .i64 p.f1] 24)) _,
    by simpa using blk_new ((w.alloc (.cells #[.int .i64 c.f0, .slice pc.A1 c.f1.length pc.c1, .slice pc.A2 c.f2.length pc.c2, .slice pc.A3 c.f3.length pc.c3, .slice pc.A4 c.f4.length pc.c4] 29)).alloc (.cells #[.slice A p.f0.length k, .int .i64 p.f1] 24)) (.cells #[.int .i64 0, .slice none 0 0, .slice none 0 0, .slice none 0 0, .slice none 0 0] 29)⟩
theorem UInv.zero {w : World} {pc : CP} {c : Circ} {A : Option Addr} {k : Nat} {p : Pr} {wr : World} (h : UInv w pc c A k p wr) (n : Int) (W : World) (hW : W = (((((wr.setCell ⟨w.heap.size + 2, 0, none⟩ (.int .i64 0)).setCell ⟨w.heap.size + 2, 1, none⟩ (.slice none 0 0)).setCell ⟨w.heap.size + 2, 2, none⟩ (.slice none 0 0)).setCell ⟨w.heap.size + 2, 3, none⟩ (.slice none 0 0)).setCell ⟨w.heap.size + 2, 4, none⟩ (.slice none 0 0))) :
    RetC w W (zeroC, 0, n) (.returned (.tuple #[.agg #[.int .i64 0, .slice none 0 0, .slice none 0 0, .slice none 0 0, .slice none 0 0], .int .i64 0, .int .i64 n])) := by
  subst hW
  exact ⟨⟨none, 0, none, 0, none, 0, none, 0⟩, rfl, RC.zero _, below5 h.BW (by omega) _ _ _ _ _⟩
set_option maxHeartbeats 4000000 in
set_option maxRecDepth 100000 in
theorem ref24_Put (pc : CP) (c : Circ) (A : Option Addr) (k : Nat) (p : Pr) (B : Option Addr) (d : Nat) (l : List Int) (w : World) (h : RC w pc c) (hs : c.Fits) (hp : RS kGate w A k p.f0) (hpf : p.Fits) (hl : RS (Kd.int .i64) w B d l) (hli : ∀ x ∈ l, I64 x) :
    Calls Try.prog 15 #[cv pc c, pv A k p, .slice B l.length d] w fun e w' => RetC w w' (putRef c p l) e := by
  have HV := Aside0.mk (fun W (hb : Below w.heap.size w W) => ref02_Check pc c W (h.below hb) hs)
  have HCK := Aside0.mk (fun W (hb : Below w.heap.size w W) => ref24_Check l.length A k p W (hp.below hb) hpf)
  have HRC := Aside0.mk h
  have HRP := Aside0.mk hp
  have HRL := Aside0.mk hl
  have HPF := Aside0.mk hpf
  have HLI := Aside0.mk hli
  have HCF := Aside0.mk hs
  have hu26 := Try.underlying29
  have hu24 := Try.underlying24
  have I0 := Aside0.mk (UInv.start w pc c A k p)
  obtain ⟨R, hR⟩ : ∃ R, putRef c p l = R := ⟨_, rfl⟩
  rw [hR]
  have HR := Aside0.mk hR
  obtain ⟨pa, lit⟩ := p
  clear h hs hp hpf hl hli hR
  dsimp only [pv] at *
  by_cases hc : check c = 0
  case neg =>
    have c1b : (check c != 0) = true := bne_iff_ne.mpr hc
    have HR2 := Aside0.mk (show R = (zeroC, 0, check c) by have h_ := HR.out; unfold putRef at h_; rw [if_pos hc] at h_; exact h_.symm)
    clear hc
    go_enter Try.func15, Try.ntmps15
    go_wp2_with fail
    refine (HV.out _ I0.out.BW).mono ?_
    rintro e w1 ⟨rfl, hb1⟩
    have I1 := Aside0.mk (I0.out.below hb1 (by simp))
    clear hb1
    obtain ⟨⟨r0, r1, r2, r3, r4⟩, z0, z1, z2, z3, z4⟩ := blk5w I1.out.B3
    go_wp2
    refine bodyPost_ret (results_ctt rfl _ _ (w.heap.size + 2) 29 #[.int .i64 0, .slice none 0 0, .slice none 0 0, .slice none 0 0, .slice none 0 0] (0, 0) _ rfl (blk5_set I1.out.B3 _ _ _ _ _) hu26 rfl (by kernel_rfl)) rfl ?_
    rw [HR2.out]
    exact I1.out.zero _ _ rfl
  have HC := Aside0.mk hc
  have HBD := Aside0.mk (gCheck_ok hc)
  rw [hc] at HV
  clear hc
  have HSZ := Aside0.mk (fun W => ref02_Size pc c W HBD.out.1 HBD.out.2.1 HCF.out)
  obtain ⟨n, hn⟩ : ∃ n, c.f0 + (c.f1.length : Int) + (c.f2.length : Int) = n := ⟨_, rfl⟩
  rw [hn] at HSZ
  have HN := Aside0.mk hn
  clear hn
  go_enter Try.func15, Try.ntmps15
  go_wp2_with fail
  refine (HV.out _ I0.out.BW).mono ?_
  rintro e w1 ⟨rfl, hb1⟩
  have I1 := Aside0.mk (I0.out.below hb1 (by simp))
  clear hb1 I0 HV
  have HX := Aside0.mk HRL.out.max
  go_wp2
  go_loopg [10] l.length (fun gg s10 wr => ∃ (i : Nat), s10 = .int .i64 i ∧ Aside0 (i ≤ l.length ∧ l.length - i ≤ gg) ∧ Aside0 (UInv w pc c A k ⟨pa, lit⟩ wr) ∧ Aside0 (litsOf n (l.drop i) = litsOf n l))
  case atStart => exact ⟨0, rfl, ⟨by omega, by omega⟩, I1, ⟨rfl⟩⟩
  case round =>
    clear I1
    obtain ⟨i, rfl, HI, I, HT⟩ := hrel
    obtain ⟨⟨r0, r1, r2, r3, r4⟩, z0, z1, z2, z3, z4⟩ := blk5w I.out.B3
    obtain ⟨⟨c0, c1, c2, c3, c4⟩, _, _, _, _, _⟩ := blk5w I.out.B0
    by_cases hlt : i < l.length
    · obtain ⟨ad, e1, hx⟩ := at_int (HRL.out.below I.out.BW).r i hlt
      cases e1
      have hxi := HLI.out _ (List.getElem_mem hlt)
      have hst : litsOf n (l.drop i) = ((decide (0 ≤ l[i]) && decide (l[i] / 2 ≤ n)) && litsOf n (l.drop (i + 1))) := all_step hlt
      generalize l[i] = x at *
      have HLT := Aside0.mk hlt
      have HXI := Aside0.mk hxi
      have HST := Aside0.mk hst
      have HSW := Aside0.mk (show w.heap.size + 2 < wr.heap.size from blk_lt I.out.B3)
      have hnn : ¬ ((i : Int) < 0) := by omega
      have hli : (i : Int) < (l.length : Int) := by have := HLT.out; omega
      clear hxi hst
      have I2 := Aside0.mk (I.out.below (below_drew (Below.refl wr.heap.size wr)) HSW.out)
      by_cases hx0 : x < 0
      · have HR2 := Aside0.mk (show R = (zeroC, 0, 2) by
          have h1 := HT.out
          rw [HST.out, decide_eq_false (by omega : ¬ 0 ≤ x), Bool.false_and, Bool.false_and] at h1
          have h2 := HR.out
          unfold putRef nOf at h2
          rw [if_neg (by rw [HC.out]; simp), HN.out, if_pos h1.symm] at h2
          exact h2.symm)
        go_wp2
        refine start_ (n := 16) (S := (fun w' => w'.cell? (ad.add i) = some (.int .i64 x) ∧ (w'.cell? ⟨w.heap.size, 0, none⟩ = some (.int .i64 c.f0) ∧ w'.cell? ⟨w.heap.size, 1, none⟩ = some (.slice pc.A1 c.f1.length pc.c1) ∧ w'.cell? ⟨w.heap.size, 2, none⟩ = some (.slice pc.A2 c.f2.length pc.c2) ∧ w'.cell? ⟨w.heap.size, 3, none⟩ = some (.slice pc.A3 c.f3.length pc.c3) ∧ w'.cell? ⟨w.heap.size, 4, none⟩ = some (.slice pc.A4 c.f4.length pc.c4)))) (ds := []) #[false, false, false, false, false, false, false, false, false, false, false, false, false, false, false, false] (by kernel_rfl) rfl rfl ⟨hx, c0, c1, c2, c3, c4⟩ (fun hHeld => ?_)
        refine pure_ (i := 0) (N := some 27) (v := ?_) (a' := ?_) #[true, false, false, false, false, false, false, false, false, false, false, false, false, false, false, false] rfl rfl (by kernel_rfl) (fun _ _ _ h => h) (Or.inl ⟨by rfl, ?_⟩) ?_ ?_
        rotate_left
        · intro w'
          go_simp
          with_reducible rfl
        rotate_left
        · simp only [Act.put, List.setIfInBounds_toArray, List.set_cons_zero, List.set_cons_succ]
          rfl
        refine pure_ (i := 1) (N := some 28) (v := ?_) (a' := ?_) #[true, true, false, false, false, false, false, false, false, false, false, false, false, false, false, false] rfl rfl (by kernel_rfl) (fun _ _ _ h => h) (Or.inl ⟨by rfl, ?_⟩) ?_ ?_
        rotate_left
        · intro w'
          go_simp
          with_reducible rfl
        rotate_left
        · simp only [Act.put, List.setIfInBounds_toArray, List.set_cons_zero, List.set_cons_succ]
          rfl
        refine pure_ (i := 2) (N := some 29) (v := ?_) (a' := ?_) #[true, true, true, false, false, false, false, false, false, false, false, false, false, false, false, false] rfl rfl (by kernel_rfl) (fun _ _ _ h => h) (Or.inl ⟨by rfl, ?_⟩) ?_ ?_
        rotate_left
        · intro w'
          go_simp
          with_reducible rfl
        rotate_left
        · simp only [Act.put, List.setIfInBounds_toArray, List.set_cons_zero, List.set_cons_succ]
          rfl
        refine take_ (i := 3) (N := some 30) (v := ?_) (a' := ?_) #[true, true, true, true, false, false, false, false, false, false, false, false, false, false, false, false] rfl rfl (by kernel_rfl) (fun _ _ _ h => h) (Or.inl ⟨by rfl, ?_⟩) hHeld ?_ ?_
        rotate_left
        · rintro w' ⟨s0, s1⟩
          go_simp
          with_reducible rfl
        rotate_left
        · simp only [Act.put, List.setIfInBounds_toArray, List.set_cons_zero, List.set_cons_succ]
          rfl
        refine pure_ (i := 4) (N := some 31) (v := ?_) (a' := ?_) #[true, true, true, true, true, false, false, false, false, false, false, false, false, false, false, false] rfl rfl (by kernel_rfl) (fun _ _ _ h => h) (Or.inl ⟨by rfl, ?_⟩) ?_ ?_
        rotate_left
        · intro w'
          go_simp
          with_reducible rfl
        rotate_left
        · simp only [Act.put, List.setIfInBounds_toArray, List.set_cons_zero, List.set_cons_succ]
          rfl
        refine pure_ (i := 5) (N := some 32) (v := ?_) (a' := ?_) #[true, true, true, true, true, true, false, false, false, false, false, false, false, false, false, false] rfl rfl (by kernel_rfl) (fun _ _ _ h => h) (Or.inl ⟨by rfl, ?_⟩) ?_ ?_
        rotate_left
        · intro w'
          go_simp
          with_reducible rfl
        rotate_left
        · simp only [Act.put, List.setIfInBounds_toArray, List.set_cons_zero, List.set_cons_succ]
          rfl
        refine pure_ (i := 6) (N := some 33) (v := undef) (a' := ?_) #[true, true, true, true, true, true, true, false, false, false, false, false, false, false, false, false] rfl rfl (by kernel_rfl) (fun _ _ _ h => h) (Or.inr ⟨by rfl, rfl⟩) ?_ ?_
        rotate_left
        · simp only [Act.put, List.setIfInBounds_toArray, List.set_cons_zero, List.set_cons_succ]
          rfl
        refine pure_ (i := 7) (N := some 34) (v := undef) (a' := ?_) #[true, true, true, true, true, true, true, true, false, false, false, false, false, false, false, false] rfl rfl (by kernel_rfl) (fun _ _ _ h => h) (Or.inr ⟨by rfl, rfl⟩) ?_ ?_
        rotate_left
        · simp only [Act.put, List.setIfInBounds_toArray, List.set_cons_zero, List.set_cons_succ]
          rfl
        refine pure_ (i := 8) (N := some 35) (v := undef) (a' := ?_) #[true, true, true, true, true, true, true, true, true, false, false, false, false, false, false, false] rfl rfl (by kernel_rfl) (fun _ _ _ h => h) (Or.inr ⟨by rfl, rfl⟩) ?_ ?_
        rotate_left
        · simp only [Act.put, List.setIfInBounds_toArray, List.set_cons_zero, List.set_cons_succ]
          rfl
        refine pure_ (i := 9) (N := some 36) (v := undef) (a' := ?_) #[true, true, true, true, true, true, true, true, true, true, false, false, false, false, false, false] rfl rfl (by kernel_rfl) (fun _ _ _ h => h) (Or.inr ⟨by rfl, rfl⟩) ?_ ?_
        rotate_left
        · simp only [Act.put, List.setIfInBounds_toArray, List.set_cons_zero, List.set_cons_succ]
          rfl
        refine pure_ (i := 10) (N := some 37) (v := undef) (a' := ?_) #[true, true, true, true, true, true, true, true, true, true, true, false, false, false, false, false] rfl rfl (by kernel_rfl) (fun _ _ _ h => h) (Or.inr ⟨by rfl, rfl⟩) ?_ ?_
        rotate_left
        · simp only [Act.put, List.setIfInBounds_toArray, List.set_cons_zero, List.set_cons_succ]
          rfl
        refine pure_ (i := 11) (N := some 38) (v := undef) (a' := ?_) #[true, true, true, true, true, true, true, true, true, true, true, true, false, false, false, false] rfl rfl (by kernel_rfl) (fun _ _ _ h => h) (Or.inr ⟨by rfl, rfl⟩) ?_ ?_
        rotate_left
        · simp only [Act.put, List.setIfInBounds_toArray, List.set_cons_zero, List.set_cons_succ]
          rfl
        refine pure_ (i := 12) (N := some 39) (v := undef) (a' := ?_) #[true, true, true, true, true, true, true, true, true, true, true, true, true, false, false, false] rfl rfl (by kernel_rfl) (fun _ _ _ h => h) (Or.inr ⟨by rfl, rfl⟩) ?_ ?_
        rotate_left
        · simp only [Act.put, List.setIfInBounds_toArray, List.set_cons_zero, List.set_cons_succ]
          rfl
        refine pure_ (i := 13) (N := some 40) (v := undef) (a' := ?_) #[true, true, true, true, true, true, true, true, true, true, true, true, true, true, false, false] rfl rfl (by kernel_rfl) (fun _ _ _ h => h) (Or.inr ⟨by rfl, rfl⟩) ?_ ?_
        rotate_left
        · simp only [Act.put, List.setIfInBounds_toArray, List.set_cons_zero, List.set_cons_succ]
          rfl
        refine pure_ (i := 14) (N := some 41) (v := undef) (a' := ?_) #[true, true, true, true, true, true, true, true, true, true, true, true, true, true, true, false] rfl rfl (by kernel_rfl) (fun _ _ _ h => h) (Or.inr ⟨by rfl, rfl⟩) ?_ ?_
        rotate_left
        · simp only [Act.put, List.setIfInBounds_toArray, List.set_cons_zero, List.set_cons_succ]
          rfl
        refine pure_ (i := 15) (N := some 42) (v := ?_) (a' := ?_) #[true, true, true, true, true, true, true, true, true, true, true, true, true, true, true, true] rfl rfl (by kernel_rfl) (fun _ _ _ h => h) (Or.inl ⟨by rfl, ?_⟩) ?_ ?_
        rotate_left
        · intro w'
          go_simp
          with_reducible rfl
        rotate_left
        · simp only [Act.put, List.setIfInBounds_toArray, List.set_cons_zero, List.set_cons_succ]
          rfl
        refine done_ (by kernel_rfl) ?_
        clear r0 r1 r2 r3 r4 z0 z1 z2 z3 z4
        generalize wr.drew = wd at *
        obtain ⟨⟨r0, r1, r2, r3, r4⟩, z0, z1, z2, z3, z4⟩ := blk5w I2.out.B3
        go_wp2
        refine bodyPost_ret (results_ctt rfl _ _ (w.heap.size + 2) 29 #[.int .i64 0, .slice none 0 0, .slice none 0 0, .slice none 0 0, .slice none 0 0] (0, 0) _ rfl (blk5_set I2.out.B3 _ _ _ _ _) hu26 rfl (by kernel_rfl)) rfl ?_
        rw [HR2.out]
        exact I2.out.zero _ _ rfl
      · have HX0 := Aside0.mk hx0
        have hx0b : decide (x < 0) = false := decide_eq_false hx0
        have HW1 := Aside0.mk (show IntKind.i64.wrap (2 * n) = 2 * n by have := HBD.out; have := HN.out; rw [IntKind.wrap_i64]; omega)
        have HW2 := Aside0.mk (show IntKind.i64.wrap (2 * n + 1) = 2 * n + 1 by have := HBD.out; have := HN.out; rw [IntKind.wrap_i64]; omega)
        go_wp2
        refine start_ (n := 16) (S := (fun w' => w'.cell? (ad.add i) = some (.int .i64 x) ∧ (w'.cell? ⟨w.heap.size, 0, none⟩ = some (.int .i64 c.f0) ∧ w'.cell? ⟨w.heap.size, 1, none⟩ = some (.slice pc.A1 c.f1.length pc.c1) ∧ w'.cell? ⟨w.heap.size, 2, none⟩ = some (.slice pc.A2 c.f2.length pc.c2) ∧ w'.cell? ⟨w.heap.size, 3, none⟩ = some (.slice pc.A3 c.f3.length pc.c3) ∧ w'.cell? ⟨w.heap.size, 4, none⟩ = some (.slice pc.A4 c.f4.length pc.c4)))) (ds := []) #[false, false, false, false, false, false, false, false, false, false, false, false, false, false, false, false] (by kernel_rfl) rfl rfl ⟨hx, c0, c1, c2, c3, c4⟩ (fun hHeld => ?_)
        refine pure_ (i := 0) (N := some 27) (v := ?_) (a' := ?_) #[true, false, false, false, false, false, false, false, false, false, false, false, false, false, false, false] rfl rfl (by kernel_rfl) (fun _ _ _ h => h) (Or.inl ⟨by rfl, ?_⟩) ?_ ?_
        rotate_left
        · intro w'
          go_simp
          with_reducible rfl
        rotate_left
        · simp only [Act.put, List.setIfInBounds_toArray, List.set_cons_zero, List.set_cons_succ]
          rfl
        refine pure_ (i := 1) (N := some 28) (v := ?_) (a' := ?_) #[true, true, false, false, false, false, false, false, false, false, false, false, false, false, false, false] rfl rfl (by kernel_rfl) (fun _ _ _ h => h) (Or.inl ⟨by rfl, ?_⟩) ?_ ?_
        rotate_left
        · intro w'
          go_simp
          with_reducible rfl
        rotate_left
        · simp only [Act.put, List.setIfInBounds_toArray, List.set_cons_zero, List.set_cons_succ]
          rfl
        refine pure_ (i := 2) (N := some 29) (v := ?_) (a' := ?_) #[true, true, true, false, false, false, false, false, false, false, false, false, false, false, false, false] rfl rfl (by kernel_rfl) (fun _ _ _ h => h) (Or.inl ⟨by rfl, ?_⟩) ?_ ?_
        rotate_left
        · intro w'
          go_simp
          with_reducible rfl
        rotate_left
        · simp only [Act.put, List.setIfInBounds_toArray, List.set_cons_zero, List.set_cons_succ]
          rfl
        refine take_ (i := 3) (N := some 30) (v := ?_) (a' := ?_) #[true, true, true, true, false, false, false, false, false, false, false, false, false, false, false, false] rfl rfl (by kernel_rfl) (fun _ _ _ h => h) (Or.inl ⟨by rfl, ?_⟩) hHeld ?_ ?_
        rotate_left
        · rintro w' ⟨s0, s1⟩
          go_simp
          with_reducible rfl
        rotate_left
        · simp only [Act.put, List.setIfInBounds_toArray, List.set_cons_zero, List.set_cons_succ]
          rfl
        refine pure_ (i := 4) (N := some 31) (v := ?_) (a' := ?_) #[true, true, true, true, true, false, false, false, false, false, false, false, false, false, false, false] rfl rfl (by kernel_rfl) (fun _ _ _ h => h) (Or.inl ⟨by rfl, ?_⟩) ?_ ?_
        rotate_left
        · intro w'
          go_simp
          with_reducible rfl
        rotate_left
        · simp only [Act.put, List.setIfInBounds_toArray, List.set_cons_zero, List.set_cons_succ]
          rfl
        refine pure_ (i := 5) (N := some 32) (v := ?_) (a' := ?_) #[true, true, true, true, true, true, false, false, false, false, false, false, false, false, false, false] rfl rfl (by kernel_rfl) (fun _ _ _ h => h) (Or.inl ⟨by rfl, ?_⟩) ?_ ?_
        rotate_left
        · intro w'
          go_simp
          with_reducible rfl
        rotate_left
        · simp only [Act.put, List.setIfInBounds_toArray, List.set_cons_zero, List.set_cons_succ]
          rfl
        refine pure_ (i := 6) (N := some 33) (v := ?_) (a' := ?_) #[true, true, true, true, true, true, true, false, false, false, false, false, false, false, false, false] rfl rfl (by kernel_rfl) (fun _ _ _ h => h) (Or.inl ⟨by rfl, ?_⟩) ?_ ?_
        rotate_left
        · intro w'
          go_simp
          with_reducible rfl
        rotate_left
        · simp only [Act.put, List.setIfInBounds_toArray, List.set_cons_zero, List.set_cons_succ]
          rfl
        refine pure_ (i := 7) (N := some 34) (v := ?_) (a' := ?_) #[true, true, true, true, true, true, true, true, false, false, false, false, false, false, false, false] rfl rfl (by kernel_rfl) (fun _ _ _ h => h) (Or.inl ⟨by rfl, ?_⟩) ?_ ?_
        rotate_left
        · intro w'
          go_simp
          with_reducible rfl
        rotate_left
        · simp only [Act.put, List.setIfInBounds_toArray, List.set_cons_zero, List.set_cons_succ]
          rfl
        refine pure_ (i := 8) (N := some 35) (v := ?_) (a' := ?_) #[true, true, true, true, true, true, true, true, true, false, false, false, false, false, false, false] rfl rfl (by kernel_rfl) (fun _ _ _ h => h) (Or.inl ⟨by rfl, ?_⟩) ?_ ?_
        rotate_left
        · intro w'
          go_simp
          with_reducible rfl
        rotate_left
        · simp only [Act.put, List.setIfInBounds_toArray, List.set_cons_zero, List.set_cons_succ]
          rfl
        refine take_ (i := 9) (N := some 36) (v := ?_) (a' := ?_) #[true, true, true, true, true, true, true, true, true, true, false, false, false, false, false, false] rfl rfl (by kernel_rfl) (fun _ _ _ h => h) (Or.inl ⟨by rfl, ?_⟩) hHeld ?_ ?_
        rotate_left
        · rintro w' ⟨s0, s1⟩
          go_simp
          with_reducible rfl
        rotate_left
        · simp only [Act.put, List.setIfInBounds_toArray, List.set_cons_zero, List.set_cons_succ]
          rfl
        refine take_ (i := 10) (N := some 37) (v := ?_) (a' := ?_) #[true, true, true, true, true, true, true, true, true, true, true, false, false, false, false, false] rfl rfl (by kernel_rfl) (fun _ _ _ h => h) (Or.inl ⟨by rfl, ?_⟩) hHeld ?_ ?_
        rotate_left
        · rintro w' ⟨s0, s1⟩
          obtain ⟨t0, t1, t2, t3, t4⟩ := s1
          go_simp
          with_reducible rfl
        rotate_left
        · simp only [Act.put, List.setIfInBounds_toArray, List.set_cons_zero, List.set_cons_succ]
          rfl
        refine one_ (i := 11) (N := some 38) #[true, true, true, true, true, true, true, true, true, true, true, true, false, false, false, false] rfl rfl (by kernel_rfl) (by decide) (fun K hK => ?_)
        refine goes_ Try.func48 (by kernel_rfl) rfl #[cv pc c] (by rfl) rfl rfl (by simp only [List.map_toArray, List.map_cons, List.map_nil]; rfl) ?_
        refine (HSZ.out _).mono ?_
        rintro e w4 ⟨rfl, hb_⟩
        refine ⟨_, rfl, ?_⟩
        have I4 := Aside0.mk (I2.out.below hb_ HSW.out)
        have HX4 := Aside0.mk (pw_cell_below hb_ (show wr.drew.cell? (ad.add i) = some (.int .i64 x) from hx))
        clear hb_
        refine hK.out _ _ ⟨HX4.out, (blk5w I4.out.B0).1⟩ (fun hHeld => ?_)
        clear hK K
        refine norm_ (a' := ?_) ?_ ?_
        rotate_left
        · show Act.put _ (some 38) _ = _
          simp only [Act.put, List.setIfInBounds_toArray, List.set_cons_zero, List.set_cons_succ]
          rfl
        refine pure_ (i := 12) (N := some 39) (v := ?_) (a' := ?_) #[true, true, true, true, true, true, true, true, true, true, true, true, true, false, false, false] rfl rfl (by kernel_rfl) (fun _ _ _ h => h) (Or.inl ⟨by rfl, ?_⟩) ?_ ?_
        rotate_left
        · intro w'
          go_simp
          with_reducible rfl
        rotate_left
        · simp only [Act.put, List.setIfInBounds_toArray, List.set_cons_zero, List.set_cons_succ]
          rfl
        refine pure_ (i := 13) (N := some 40) (v := ?_) (a' := ?_) #[true, true, true, true, true, true, true, true, true, true, true, true, true, true, false, false] rfl rfl (by kernel_rfl) (fun _ _ _ h => h) (Or.inl ⟨by rfl, ?_⟩) ?_ ?_
        rotate_left
        · intro w'
          go_simp
          with_reducible rfl
        rotate_left
        · simp only [Act.put, List.setIfInBounds_toArray, List.set_cons_zero, List.set_cons_succ]
          rfl
        rw [HW1.out, HW2.out]
        by_cases hx2 : 2 * n + 1 < x
        · have HR2 := Aside0.mk (show R = (zeroC, 0, 2) by
            have h1 := HT.out
            rw [HST.out, decide_eq_false (by omega : ¬ x / 2 ≤ n), Bool.and_false, Bool.false_and] at h1
            have h2 := HR.out
            unfold putRef nOf at h2
            rw [if_neg (by rw [HC.out]; simp), HN.out, if_pos h1.symm] at h2
            exact h2.symm)
          refine pure_ (i := 14) (N := some 41) (v := ?_) (a' := ?_) #[true, true, true, true, true, true, true, true, true, true, true, true, true, true, true, false] rfl rfl (by kernel_rfl) (fun _ _ _ h => h) (Or.inl ⟨by rfl, ?_⟩) ?_ ?_
          rotate_left
          · intro w'
            go_simp
            with_reducible rfl
          rotate_left
          · simp only [Act.put, List.setIfInBounds_toArray, List.set_cons_zero, List.set_cons_succ]
            rfl
          refine pure_ (i := 15) (N := some 42) (v := ?_) (a' := ?_) #[true, true, true, true, true, true, true, true, true, true, true, true, true, true, true, true] rfl rfl (by kernel_rfl) (fun _ _ _ h => h) (Or.inl ⟨by rfl, ?_⟩) ?_ ?_
          rotate_left
          · intro w'
            go_simp
            with_reducible rfl
          rotate_left
          · simp only [Act.put, List.setIfInBounds_toArray, List.set_cons_zero, List.set_cons_succ]
            rfl
          refine done_ (by kernel_rfl) ?_
          clear r0 r1 r2 r3 r4 z0 z1 z2 z3 z4
          obtain ⟨⟨r0, r1, r2, r3, r4⟩, z0, z1, z2, z3, z4⟩ := blk5w I4.out.B3
          go_wp2
          refine bodyPost_ret (results_ctt rfl _ _ (w.heap.size + 2) 29 #[.int .i64 0, .slice none 0 0, .slice none 0 0, .slice none 0 0, .slice none 0 0] (0, 0) _ rfl (blk5_set I4.out.B3 _ _ _ _ _) hu26 rfl (by kernel_rfl)) rfl ?_
          rw [HR2.out]
          exact I4.out.zero _ _ rfl
        · have HT2 := Aside0.mk (show litsOf n (l.drop (i + 1)) = litsOf n l by
            have h1 := HT.out
            rw [HST.out, decide_eq_true (by have := HX0.out; omega : 0 ≤ x), decide_eq_true (by omega : x / 2 ≤ n), Bool.and_true, Bool.true_and] at h1
            exact h1)
          have hx2b : decide (2 * n + 1 < x) = false := decide_eq_false hx2
          refine pure_ (i := 14) (N := some 41) (v := ?_) (a' := ?_) #[true, true, true, true, true, true, true, true, true, true, true, true, true, true, true, false] rfl rfl (by kernel_rfl) (fun _ _ _ h => h) (Or.inl ⟨by rfl, ?_⟩) ?_ ?_
          rotate_left
          · intro w'
            go_simp
            with_reducible rfl
          rotate_left
          · simp only [Act.put, List.setIfInBounds_toArray, List.set_cons_zero, List.set_cons_succ]
            rfl
          refine pure_ (i := 15) (N := some 42) (v := ?_) (a' := ?_) #[true, true, true, true, true, true, true, true, true, true, true, true, true, true, true, true] rfl rfl (by kernel_rfl) (fun _ _ _ h => h) (Or.inl ⟨by rfl, ?_⟩) ?_ ?_
          rotate_left
          · intro w'
            go_simp
            with_reducible rfl
          rotate_left
          · simp only [Act.put, List.setIfInBounds_toArray, List.set_cons_zero, List.set_cons_succ]
            rfl
          refine done_ (by kernel_rfl) ?_
          go_wp2
          go_roundg (l.length - (i + 1))
          case measure => have := HI.out; have := HLT.out; omega
          case rel => exact ⟨i + 1, val_step HLT.out HX.out, ⟨HLT.out, by have := HI.out; omega⟩, I4, HT2⟩
    · have hi : i = l.length := by have := HI.out.1; omega
      subst hi
      have b1 := (blk_cell I.out.B1 0).trans rfl
      have b1' := (blk_cell I.out.B1 1).trans rfl
      have HLA := Aside0.mk (show litsOf n l = true by have h_ := HT.out; rw [List.drop_length] at h_; exact h_.symm)
      clear HT
      go_wp2_with fail
      refine (HCK.out _ I.out.BW).mono ?_
      rintro e w2 ⟨rfl, hb2⟩
      have HSW := Aside0.mk (show w.heap.size + 2 < wr.heap.size from blk_lt I.out.B3)
      have I2 := Aside0.mk (I.out.below hb2 HSW.out)
      have HS2 := Aside0.mk (show w.heap.size + 2 < w2.heap.size from blk_lt I2.out.B3)
      clear hb2 I r0 r1 r2 r3 r4 z0 z1 z2 z3 z4 b1 b1' c0 c1 c2 c3 c4 HCK
      obtain ⟨⟨r0, r1, r2, r3, r4⟩, z0, z1, z2, z3, z4⟩ := blk5w I2.out.B3
      by_cases hpk : predCheck l.length ⟨pa, lit⟩ = 0
      case neg =>
        have c2b : (predCheck l.length ⟨pa, lit⟩ != 0) = true := bne_iff_ne.mpr hpk
        have HR2 := Aside0.mk (show R = (zeroC, 0, predCheck l.length ⟨pa, lit⟩) by
          have h2 := HR.out
          unfold putRef nOf at h2
          rw [if_neg (by rw [HC.out]; simp), HN.out, if_neg (by rw [HLA.out]; simp), if_pos hpk] at h2
          exact h2.symm)
        clear hpk
        go_wp2
        refine bodyPost_ret (results_ctt rfl _ _ (w.heap.size + 2) 29 #[.int .i64 0, .slice none 0 0, .slice none 0 0, .slice none 0 0, .slice none 0 0] (0, 0) _ rfl (blk5_set I2.out.B3 _ _ _ _ _) hu26 rfl (by kernel_rfl)) rfl ?_
        rw [HR2.out]
        exact I2.out.zero _ _ rfl
      case pos =>
        rw [hpk]
        have HPK := Aside0.mk hpk
        clear hpk
        clear r0 r1 r2 r3 r4 z0 z1 z2 z3 z4
        obtain ⟨⟨c0, c1, c2, c3, c4⟩, _, _, _, _, _⟩ := blk5w I2.out.B0
        have HTW := Aside0.mk (ref02_Twin pc c w2 ⟨HRC.out.s1.below I2.out.BW, HRC.out.s2.below I2.out.BW, HRC.out.s3.below I2.out.BW, HRC.out.s4.below I2.out.BW⟩ (by have := HBD.out; omega) (by have := HBD.out; omega) (by have := check_few HC.out; omega) (by have := check_few HC.out; omega))
        go_wp2_with fail
        refine HTW.out.mono ?_
        clear HTW
        rintro e w3 ⟨⟨L1, d1, L2, d2, L3, d3, L4, d4⟩, rfl, hO3, hB3⟩
        have O3 := Aside0.mk hO3
        have I3 := Aside0.mk (I2.out.below hB3 HS2.out)
        have HW3 := Aside0.mk (show w2.heap.size ≤ w3.heap.size from hB3.size)
        clear hO3 hB3 c0 c1 c2 c3 c4
        have hwb : wrap64 (c.f0 + (c.f1.length : Int)) = c.f0 + c.f1.length := by have := HBD.out; rw [wrap_in (by omega) (by omega)]
        have B4 := Aside0.mk (below_alloc (Below.refl w3.heap.size w3) (.cells #[.int .i64 c.f0, .slice L1 c.f1.length d1, .slice L2 c.f2.length d2, .slice L3 c.f3.length d3, .slice L4 c.f4.length d4] 29))
        have G4 := Aside0.mk (blk_new w3 (.cells #[.int .i64 c.f0, .slice L1 c.f1.length d1, .slice L2 c.f2.length d2, .slice L3 c.f3.length d3, .slice L4 c.f4.length d4] 29))
        have O4 := Aside0.mk (O3.out.below B4.out)
        have I4 := Aside0.mk (I3.out.below B4.out (Nat.lt_of_lt_of_le HS2.out HW3.out))
        have HW4 := Aside0.mk (show w2.heap.size ≤ (w3.alloc (.cells #[.int .i64 c.f0, .slice L1 c.f1.length d1, .slice L2 c.f2.length d2, .slice L3 c.f3.length d3, .slice L4 c.f4.length d4] 29)).heap.size from Nat.le_trans HW3.out B4.out.size)
        have HBH := Aside0.mk (ref24_Behind w2.heap.size L2 d2 c.f2 (c.f0 + c.f1.length) A k ⟨pa, lit⟩ B d l (w3.alloc (.cells #[.int .i64 c.f0, .slice L1 c.f1.length d1, .slice L2 c.f2.length d2, .slice L3 c.f3.length d3, .slice L4 c.f4.length d4] 29)) O4.out.s2 HW4.out (by have := HBD.out; omega) (by have := HBD.out; have h_ := (predCheck_parts HPK.out).2.1; dsimp only at h_ ⊢; omega)
          (fun W hW => HRP.out.below (I4.out.BW.trans (hW.mono (by have := HS2.out; omega)))) HPF.out HPK.out (HRL.out.below I4.out.BW) (fun x hx => by
            have h1 := List.all_eq_true.1 HLA.out x hx
            simp only [Bool.and_eq_true, decide_eq_true_eq] at h1
            have h2 := HBD.out
            have h3 := HN.out
            exact ⟨h1.1, by omega⟩))
        dsimp only [pv] at HBH
        obtain ⟨⟨c0, c1, c2, c3, c4⟩, _, _, _, _, _⟩ := blk5w I4.out.B0
        have b1 := (blk_cell I4.out.B1 0).trans rfl
        have b1' := (blk_cell I4.out.B1 1).trans rfl
        go_wp2_with fail
        refine HBH.out.mono ?_
        clear HBH
        rintro e w5 ⟨E5, cap5, rfl, hR5, hO5, hB5, hK5⟩
        generalize w3.alloc (.cells #[.int .i64 c.f0, .slice L1 c.f1.length d1, .slice L2 c.f2.length d2, .slice L3 c.f3.length d3, .slice L4 c.f4.length d4] 29) = w4 at *
        have HG3 := Aside0.mk (show w.heap.size + 2 < w3.heap.size from Nat.lt_of_lt_of_le HS2.out HW3.out)
        have HG2 := Aside0.mk (show w2.heap.size ≤ w3.heap.size from HW3.out)
        generalize w3.heap.size = g3 at *
        have hbl := behindR_len (c.f0 + c.f1.length) pa (0 :: l) c.f2
        have HR2 := HR.out
        unfold putRef nOf at HR2
        rw [if_neg (by rw [HC.out]; simp), HN.out, if_neg (by rw [HLA.out]; simp), if_neg (by rw [HPK.out]; simp)] at HR2
        have hbl2 : (behindB ⟨pa, lit⟩ l c.f2 (c.f0 + c.f1.length)).1.length ≤ c.f2.length + pa.length := hbl
        generalize behindB ⟨pa, lit⟩ l c.f2 (c.f0 + c.f1.length) = r at *
        obtain ⟨ands5, lit5⟩ := r
        dsimp only at HR2 hR5 hO5 hbl2
        have HLN := Aside0.mk hbl2
        have G5 := Aside0.mk ((hK5 g3 (blk_lt G4.out) (Kd.R_ne O4.out.s2 G4.out (by decide))).trans G4.out)
        have I5 := Aside0.mk (I4.out.below hB5 HS2.out)
        have O5 : Aside0 (RCo w2.heap.size w5 ⟨L1, d1, E5, cap5, L3, d3, L4, d4⟩ ⟨c.f0, c.f1, ands5, c.f3, c.f4⟩) :=
          ⟨⟨R_other O4.out.s1 O4.out.s2 (by decide) (fun j h1 h2 _ _ _ _ => hK5 j h1 h2), hR5, R_other O4.out.s3 O4.out.s2 (by decide) (fun j h1 h2 _ _ _ _ => hK5 j h1 h2), R_other O4.out.s4 O4.out.s2 (by decide) (fun j h1 h2 _ _ _ _ => hK5 j h1 h2)⟩⟩
        have HR3 := Aside0.mk HR2
        clear hbl hbl2 HR2 hR5 hO5 hB5 hK5 O4 O3 I4 I3 G4 B4 c0 c1 c2 c3 c4 b1 b1' hwb
        obtain ⟨⟨e0, e1, e2, e3, e4⟩, y0, y1, y2, y3, y4⟩ := blk5w G5.out
        have G6 := Aside0.mk (show (w5.setCell ⟨g3, 2, none⟩ (.slice E5 ands5.length cap5)).heap[g3]? = some (.cells #[.int .i64 c.f0, .slice L1 c.f1.length d1, .slice E5 ands5.length cap5, .slice L3 c.f3.length d3, .slice L4 c.f4.length d4] 29 (0, 0)) by simpa using blk_set G5.out 2 (.slice E5 ands5.length cap5))
        have I6 : Aside0 (UInv w pc c A k ⟨pa, lit⟩ (w5.setCell ⟨g3, 2, none⟩ (.slice E5 ands5.length cap5))) := ⟨I5.out.below (Below.setCell (Below.refl w2.heap.size w5) (p := ⟨g3, 2, none⟩) HG2.out (.slice E5 ands5.length cap5)) HS2.out⟩
        have O6 : Aside0 (RCo w2.heap.size (w5.setCell ⟨g3, 2, none⟩ (.slice E5 ands5.length cap5)) ⟨L1, d1, E5, cap5, L3, d3, L4, d4⟩ ⟨c.f0, c.f1, ands5, c.f3, c.f4⟩) :=
          ⟨⟨Kd.R_set O5.out.s1 G5.out (by decide) 2 _, Kd.R_set O5.out.s2 G5.out (by decide) 2 _, Kd.R_set O5.out.s3 G5.out (by decide) 2 _, Kd.R_set O5.out.s4 G5.out (by decide) 2 _⟩⟩
        have HSL := Aside0.mk (fun W => ref02_SizeL ⟨L1, d1, E5, cap5, L3, d3, L4, d4⟩ ⟨c.f0, c.f1, ands5, c.f3, c.f4⟩ W HBD.out.1 HBD.out.2.1 (by have := HBD.out; dsimp only; omega) (by have := HBD.out; have := HLN.out; have h_ := (predCheck_parts HPK.out).2.1; dsimp only at h_ ⊢; omega))
        dsimp only [cv] at HSL
        go_wp2_with fail
        refine (HSL.out _).mono ?_
        rintro e w7 ⟨rfl, hb7⟩
        have G7 := Aside0.mk (blk_below G6.out hb7)
        have O7 := Aside0.mk (O6.out.below hb7)
        have I7 := Aside0.mk (I6.out.below hb7 (blk_lt I6.out.B3))
        clear hb7 G5 I5 O5 G6 I6 O6 e0 e1 e2 e3 e4 y0 y1 y2 y3 y4 HSL
        obtain ⟨⟨r0, r1, r2, r3, r4⟩, z0, z1, z2, z3, z4⟩ := blk5w I7.out.B3
        obtain ⟨⟨e0, e1, e2, e3, e4⟩, y0, y1, y2, y3, y4⟩ := blk5w G7.out
        have HGN := Aside0.mk (show w.heap.size + 2 ≠ g3 from Nat.ne_of_lt HG3.out)
        by_cases hfl : 1000 < c.f0 + (c.f1.length : Int) + (ands5.length : Int)
        · have HR4 := Aside0.mk (show R = (zeroC, 0, 4) by have h_ := HR3.out; rw [if_pos hfl] at h_; exact h_.symm)
          go_wp2
          refine bodyPost_ret (results_ctt rfl _ _ (w.heap.size + 2) 29 #[.int .i64 0, .slice none 0 0, .slice none 0 0, .slice none 0 0, .slice none 0 0] (0, 0) _ rfl (blk5_set I7.out.B3 _ _ _ _ _) hu26 rfl (by kernel_rfl)) rfl ?_
          rw [HR4.out]
          exact I7.out.zero _ _ rfl
        · have HR4 := Aside0.mk (show R = (⟨c.f0, c.f1, ands5, c.f3, c.f4⟩, lit5, 0) by have h_ := HR3.out; rw [if_neg hfl] at h_; exact h_.symm)
          go_wp2
          refine bodyPost_ret (results_ctt rfl _ _ (w.heap.size + 2) 29 #[.int .i64 c.f0, .slice L1 c.f1.length d1, .slice E5 ands5.length cap5, .slice L3 c.f3.length d3, .slice L4 c.f4.length d4] (0, 0) _ rfl (blk5_set I7.out.B3 _ _ _ _ _) hu26 rfl (by kernel_rfl)) rfl ?_
          rw [HR4.out]
          exact ⟨⟨L1, d1, E5, cap5, L3, d3, L4, d4⟩, rfl, (O7.out.five I7.out.B3 _ _ _ _ _).rc, below5 I7.out.BW (by omega) _ _ _ _ _⟩
end Go.Proofs.Ytgcdanpihaeioaa.PH
