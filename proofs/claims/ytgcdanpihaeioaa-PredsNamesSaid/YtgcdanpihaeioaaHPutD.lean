/- preds.Put: circuits that are right. -/
import Derived.Test.YtgcdanpihaeioaaHPutC
import Derived.Deep.RegionHeld3
import Derived.Deep.QuietTactic
import Derived.BigQuiet
namespace Go.Proofs.Ytgcdanpihaeioaa.PH
open Go.RowKit Go.Proofs.YtgcdanpihaeioaaW.PrintWords Go.Proofs.YtgcdanpihaeioaaW.PrintLast
set_option linter.unusedVariables false
set_option linter.unusedSimpArgs false

set_option maxHeartbeats 4000000 in
set_option maxRecDepth 100000 in
theorem preds_Put_ok (pc : CP) (c : Circ) (A : Option Addr) (k : Nat) (p : Pr) (B : Option Addr) (d : Nat) (l : List Int) (w : World) (h : RC w pc c) (hs : c.Fits) (hp : RS kGate w A k p.f0) (hpf : p.Fits) (hl : RS (Kd.int .i64) w B d l) (hli : ∀ x ∈ l, I64 x) (hc : check c = 0) :
    Calls Try.prog 14 #[cv pc c, pv A k p, .slice B l.length d] w fun e w' => RetC w w' (putC c p l) e := by
  have HV := Aside0.mk (fun W (hb : Below w.heap.size w W) => gates_Vars pc c W (h.below hb) hs)
  have HCK := Aside0.mk (fun W (hb : Below w.heap.size w W) => preds_Check l.length A k p W (hp.below hb) hpf)
  have HRC := Aside0.mk h
  have HRP := Aside0.mk hp
  have HRL := Aside0.mk hl
  have HPF := Aside0.mk hpf
  have HLI := Aside0.mk hli
  have HC := Aside0.mk hc
  have HBD := Aside0.mk (gCheck_ok hc)
  have hu26 := Try.underlying29
  have hu24 := Try.underlying24
  have hu83 := Try.underlying83
  have hmf : ∀ (fn : Fn) (first cap : Array Value) (w : World), (Instr.makeFunc fn first cap).run Try.prog w = .ok (.func fn first cap) w := fun _ _ _ _ => rfl
  have I0 := Aside0.mk (PInv.start w pc c A k p B d l)
  obtain ⟨R, hR⟩ : ∃ R, putC c p l = R := ⟨_, rfl⟩
  rw [hR]
  have HR := Aside0.mk hR
  obtain ⟨pa, lit⟩ := p
  clear h hs hc hp hpf hl hli hR
  dsimp only [pv] at *
  go_enter Try.func14, Try.ntmps14
  go_wp2_with fail
  refine (HV.out _ I0.out.BW).mono ?_
  rintro e w1 ⟨rfl, hb1⟩
  rw [if_pos HC.out, HC.out]
  have I1 := Aside0.mk (I0.out.below hb1 (by simp))
  clear hb1 I0 HV
  obtain ⟨n, hn⟩ : ∃ n, c.f0 + (c.f1.length : Int) + (c.f2.length : Int) = n := ⟨_, rfl⟩
  rw [hn]
  have HN := Aside0.mk hn
  clear hn
  obtain ⟨⟨r0, r1, r2, r3, r4⟩, z0, z1, z2, z3, z4⟩ := blk5w I1.out.B3
  have b2 := (blk_cell I1.out.B2 0).trans rfl
  have HX := Aside0.mk HRL.out.max
  go_wp2
  clear r0 r1 r2 r3 r4 z0 z1 z2 z3 z4 b2
  go_loopg [28] l.length (fun gg s28 wr => ∃ (i : Nat), s28 = .int .i64 i ∧ Aside0 (i ≤ l.length ∧ l.length - i ≤ gg) ∧ Aside0 (PInv w pc c A k ⟨pa, lit⟩ B d l wr) ∧ Aside0 (litsOf n (l.drop i) = litsOf n l))
  case atStart => exact ⟨0, rfl, ⟨by omega, by omega⟩, I1, ⟨rfl⟩⟩
  case round =>
    clear I1
    obtain ⟨i, rfl, HI, I, HT⟩ := hrel
    obtain ⟨⟨r0, r1, r2, r3, r4⟩, z0, z1, z2, z3, z4⟩ := blk5w I.out.B3
    by_cases hlt : i < l.length
    · obtain ⟨ad, e1, hx⟩ := at_int (HRL.out.below I.out.BW).r i hlt
      cases e1
      have hxi := HLI.out _ (List.getElem_mem hlt)
      have hst : litsOf n (l.drop i) = ((decide (0 ≤ l[i]) && decide (l[i] / 2 ≤ n)) && litsOf n (l.drop (i + 1))) := all_step hlt
      generalize l[i] = x at *
      have HLT := Aside0.mk hlt
      have HXI := Aside0.mk hxi
      have HST := Aside0.mk hst
      clear hxi hst
      by_cases hx0 : x < 0
      · have HR2 := Aside0.mk (show R = (zeroC, 0, 2) by
          have h1 := HT.out
          rw [HST.out, decide_eq_false (by omega : ¬ 0 ≤ x), Bool.false_and, Bool.false_and] at h1
          have h2 := HR.out
          unfold putC nOf at h2
          rw [if_neg (by rw [HC.out]; simp), HN.out, if_pos h1.symm] at h2
          exact h2.symm)
        go_wp2
        refine bodyPost_ret (results_ctt rfl _ _ (w.heap.size + 3) 29 #[.int .i64 0, .slice none 0 0, .slice none 0 0, .slice none 0 0, .slice none 0 0] (0, 0) _ rfl (blk5_set I.out.B3 _ _ _ _ _) hu26 rfl (by kernel_rfl)) rfl ?_
        rw [HR2.out]
        exact I.out.zero _ _ rfl
      · have hq : wrap64 (x.tdiv 2) = x / 2 := half_of HXI.out (by omega)
        have HX0 := Aside0.mk hx0
        by_cases hx2 : n < x / 2
        · have HR2 := Aside0.mk (show R = (zeroC, 0, 2) by
            have h1 := HT.out
            rw [HST.out, decide_eq_false (by omega : ¬ x / 2 ≤ n), Bool.and_false, Bool.false_and] at h1
            have h2 := HR.out
            unfold putC nOf at h2
            rw [if_neg (by rw [HC.out]; simp), HN.out, if_pos h1.symm] at h2
            exact h2.symm)
          go_wp2
          refine bodyPost_ret (results_ctt rfl _ _ (w.heap.size + 3) 29 #[.int .i64 0, .slice none 0 0, .slice none 0 0, .slice none 0 0, .slice none 0 0] (0, 0) _ rfl (blk5_set I.out.B3 _ _ _ _ _) hu26 rfl (by kernel_rfl)) rfl ?_
          rw [HR2.out]
          exact I.out.zero _ _ rfl
        · have HT2 := Aside0.mk (show litsOf n (l.drop (i + 1)) = litsOf n l by
            have h1 := HT.out
            rw [HST.out, decide_eq_true (by have := HX0.out; omega : 0 ≤ x), decide_eq_true (by omega : x / 2 ≤ n), Bool.and_true, Bool.true_and] at h1
            exact h1)
          go_wp2
          go_roundg (l.length - (i + 1))
          case measure => have := HI.out; have := HLT.out; omega
          case rel => exact ⟨i + 1, val_step HLT.out HX.out, ⟨HLT.out, by have := HI.out; omega⟩, I, HT2⟩
    · have hi : i = l.length := by have := HI.out.1; omega
      subst hi
      have b1 := (blk_cell I.out.B1 0).trans rfl
      have b1' := (blk_cell I.out.B1 1).trans rfl
      have b2 := (blk_cell I.out.B2 0).trans rfl
      have HLA := Aside0.mk (show litsOf n l = true by have h_ := HT.out; rw [List.drop_length] at h_; exact h_.symm)
      clear HT
      go_wp2_with fail
      refine (HCK.out _ I.out.BW).mono ?_
      rintro e w2 ⟨rfl, hb2⟩
      have HSW := Aside0.mk (show w.heap.size + 3 < wr.heap.size from blk_lt I.out.B3)
      have I2 := Aside0.mk (I.out.below hb2 HSW.out)
      have HS2 := Aside0.mk (show w.heap.size + 3 < w2.heap.size from blk_lt I2.out.B3)
      clear hb2 I r0 r1 r2 r3 r4 z0 z1 z2 z3 z4 b1 b1' b2 HCK
      obtain ⟨⟨r0, r1, r2, r3, r4⟩, z0, z1, z2, z3, z4⟩ := blk5w I2.out.B3
      by_cases hpk : predCheck l.length ⟨pa, lit⟩ = 0
      case neg =>
        have c2b : (predCheck l.length ⟨pa, lit⟩ != 0) = true := bne_iff_ne.mpr hpk
        have HR2 := Aside0.mk (show R = (zeroC, 0, predCheck l.length ⟨pa, lit⟩) by
          have h2 := HR.out
          unfold putC nOf at h2
          rw [if_neg (by rw [HC.out]; simp), HN.out, if_neg (by rw [HLA.out]; simp), if_pos hpk] at h2
          exact h2.symm)
        clear hpk
        go_wp2
        refine bodyPost_ret (results_ctt rfl _ _ (w.heap.size + 3) 29 #[.int .i64 0, .slice none 0 0, .slice none 0 0, .slice none 0 0, .slice none 0 0] (0, 0) _ rfl (blk5_set I2.out.B3 _ _ _ _ _) hu26 rfl (by kernel_rfl)) rfl ?_
        rw [HR2.out]
        exact I2.out.zero _ _ rfl
      case pos =>
        rw [hpk]
        have HPK := Aside0.mk hpk
        clear hpk
        have b1 := (blk_cell I2.out.B1 0).trans rfl
        have b1' := (blk_cell I2.out.B1 1).trans rfl
        have b2 := (blk_cell I2.out.B2 0).trans rfl
        obtain ⟨⟨c0, c1, c2, c3, c4⟩, _, _, _, _, _⟩ := blk5w I2.out.B0
        go_wp2
        have I2d := Aside0.mk (I2.out.below (below_drew (Below.refl w2.heap.size w2)) HS2.out)
        refine start_ (n := 14) (S := (fun w' => w'.cell? ⟨w.heap.size, 0, none⟩ = some (.int .i64 c.f0) ∧ w'.cell? ⟨w.heap.size, 1, none⟩ = some (.slice pc.A1 c.f1.length pc.c1) ∧ w'.cell? ⟨w.heap.size, 2, none⟩ = some (.slice pc.A2 c.f2.length pc.c2))) (ds := []) #[false, false, false, false, false, false, false, false, false, false, false, false, false, false] (by kernel_rfl) rfl rfl ⟨c0, c1, c2⟩ (fun hHeld => ?_)
        refine pure_ (i := 0) (N := some 50) (v := ?_) (a' := ?_) #[true, false, false, false, false, false, false, false, false, false, false, false, false, false] rfl rfl (by kernel_rfl) (fun _ _ _ h => h) (Or.inl ⟨by rfl, ?_⟩) ?_ ?_
        rotate_left
        · intro w'
          go_simp
          with_reducible rfl
        rotate_left
        · simp only [Act.put, List.setIfInBounds_toArray, List.set_cons_zero, List.set_cons_succ]
          rfl
        refine take_ (i := 1) (N := some 51) (v := ?_) (a' := ?_) #[true, true, false, false, false, false, false, false, false, false, false, false, false, false] rfl rfl (by kernel_rfl) (fun _ _ _ h => h) (Or.inl ⟨by rfl, ?_⟩) hHeld ?_ ?_
        rotate_left
        · rintro w' ⟨s0, s1, s2⟩
          go_simp
          with_reducible rfl
        rotate_left
        · simp only [Act.put, List.setIfInBounds_toArray, List.set_cons_zero, List.set_cons_succ]
          rfl
        refine pure_ (i := 3) (N := some 53) (v := ?_) (a' := ?_) #[true, true, false, true, false, false, false, false, false, false, false, false, false, false] rfl rfl (by kernel_rfl) (fun _ _ _ h => h) (Or.inl ⟨by rfl, ?_⟩) ?_ ?_
        rotate_left
        · intro w'
          go_simp
          with_reducible rfl
        rotate_left
        · simp only [Act.put, List.setIfInBounds_toArray, List.set_cons_zero, List.set_cons_succ]
          rfl
        refine take_ (i := 4) (N := some 54) (v := ?_) (a' := ?_) #[true, true, false, true, true, false, false, false, false, false, false, false, false, false] rfl rfl (by kernel_rfl) (fun _ _ _ h => h) (Or.inl ⟨by rfl, ?_⟩) hHeld ?_ ?_
        rotate_left
        · rintro w' ⟨s0, s1, s2⟩
          go_simp
          with_reducible rfl
        rotate_left
        · simp only [Act.put, List.setIfInBounds_toArray, List.set_cons_zero, List.set_cons_succ]
          rfl
        refine pure_ (i := 5) (N := some 55) (v := ?_) (a' := ?_) #[true, true, false, true, true, true, false, false, false, false, false, false, false, false] rfl rfl (by kernel_rfl) (fun _ _ _ h => h) (Or.inl ⟨by rfl, ?_⟩) ?_ ?_
        rotate_left
        · intro w'
          go_simp
          with_reducible rfl
        rotate_left
        · simp only [Act.put, List.setIfInBounds_toArray, List.set_cons_zero, List.set_cons_succ]
          rfl
        refine pure_ (i := 6) (N := some 56) (v := ?_) (a' := ?_) #[true, true, false, true, true, true, true, false, false, false, false, false, false, false] rfl rfl (by kernel_rfl) (fun _ _ _ h => h) (Or.inl ⟨by rfl, ?_⟩) ?_ ?_
        rotate_left
        · intro w'
          go_simp
          with_reducible rfl
        rotate_left
        · simp only [Act.put, List.setIfInBounds_toArray, List.set_cons_zero, List.set_cons_succ]
          rfl
        refine take_ (i := 7) (N := some 57) (v := ?_) (a' := ?_) #[true, true, false, true, true, true, true, true, false, false, false, false, false, false] rfl rfl (by kernel_rfl) (fun _ _ _ h => h) (Or.inl ⟨by rfl, ?_⟩) hHeld ?_ ?_
        rotate_left
        · rintro w' ⟨s0, s1, s2⟩
          go_simp
          with_reducible rfl
        rotate_left
        · simp only [Act.put, List.setIfInBounds_toArray, List.set_cons_zero, List.set_cons_succ]
          rfl
        refine pure_ (i := 8) (N := some 58) (v := ?_) (a' := ?_) #[true, true, false, true, true, true, true, true, true, false, false, false, false, false] rfl rfl (by kernel_rfl) (fun _ _ _ h => h) (Or.inl ⟨by rfl, ?_⟩) ?_ ?_
        rotate_left
        · intro w'
          go_simp
          with_reducible rfl
        rotate_left
        · simp only [Act.put, List.setIfInBounds_toArray, List.set_cons_zero, List.set_cons_succ]
          rfl
        refine pure_ (i := 9) (N := some 59) (v := ?_) (a' := ?_) #[true, true, false, true, true, true, true, true, true, true, false, false, false, false] rfl rfl (by kernel_rfl) (fun _ _ _ h => h) (Or.inl ⟨by rfl, ?_⟩) ?_ ?_
        rotate_left
        · intro w'
          go_simp
          with_reducible rfl
        rotate_left
        · simp only [Act.put, List.setIfInBounds_toArray, List.set_cons_zero, List.set_cons_succ]
          rfl
        refine pure_ (i := 10) (N := some 60) (v := ?_) (a' := ?_) #[true, true, false, true, true, true, true, true, true, true, true, false, false, false] rfl rfl (by kernel_rfl) (fun _ _ _ h => h) (Or.inl ⟨by rfl, ?_⟩) ?_ ?_
        rotate_left
        · intro w'
          go_simp
          with_reducible rfl
        rotate_left
        · simp only [Act.put, List.setIfInBounds_toArray, List.set_cons_zero, List.set_cons_succ]
          rfl
        refine one_ (i := 2) (N := some 52) #[true, true, true, true, true, true, true, true, true, true, true, false, false, false] rfl rfl (by kernel_rfl) (by decide) (fun K hK => ?_)
        refine goes_ Try.func43 (by kernel_rfl) rfl #[.slice pc.A2 c.f2.length pc.c2] (by rfl) rfl rfl (by simp only [List.map_toArray, List.map_cons, List.map_nil] <;> rfl) ?_
        refine (slices_Clone_gate pc.A2 pc.c2 c.f2 _ (HRC.out.s2.below I2d.out.BW) (by have := HBD.out; omega)).mono ?_
        rintro e w3 ⟨E, cE, rfl, hR3, hb3⟩
        refine ⟨_, rfl, ?_⟩
        have R3 := Aside0.mk (Kd.R_lower hR3 (show w2.heap.size ≤ w2.drew.heap.size from Nat.le_refl _))
        have B3 := Aside0.mk ((below_drew (Below.refl w2.heap.size w2)).trans (show Below w2.heap.size w2.drew w3 from hb3))
        clear hR3 hb3
        have I3 := Aside0.mk (I2.out.below B3.out HS2.out)
        have q0 := blk5w I3.out.B0
        refine hK.out _ _ ⟨q0.1.1, q0.1.2.1, q0.1.2.2.1⟩ (fun hHeld => ?_)
        clear hK K
        refine norm_ (a' := ?_) ?_ ?_
        rotate_left
        · show Act.put _ (some 52) _ = _
          simp only [Act.put, List.setIfInBounds_toArray, List.set_cons_zero, List.set_cons_succ]
          rfl
        refine pure_ (i := 11) (N := some 61) (v := ?_) (a' := ?_) #[true, true, true, true, true, true, true, true, true, true, true, true, false, false] rfl rfl (by kernel_rfl) (fun _ _ _ h => h) (Or.inl ⟨by rfl, ?_⟩) ?_ ?_
        rotate_left
        · intro w'
          go_simp
          with_reducible rfl
        rotate_left
        · simp only [Act.put, List.setIfInBounds_toArray, List.set_cons_zero, List.set_cons_succ]
          rfl
        refine one_ (i := 12) (N := some 62) #[true, true, true, true, true, true, true, true, true, true, true, true, true, false] rfl rfl (by kernel_rfl) (by decide) (fun K hK => ?_)
        refine value_ (w1 := ?_) (v := ?_) (by rfl) rfl ?_ ?_
        rotate_left 2
        · go_simp
          constructor
          · rfl
          · rfl
        refine hK.out _ _ ⟨(World.cell?_alloc_lt _ _ _ (World.block_lt_of_cell? _ _ hHeld.1)).trans hHeld.1, (World.cell?_alloc_lt _ _ _ (World.block_lt_of_cell? _ _ hHeld.2.1)).trans hHeld.2.1, (World.cell?_alloc_lt _ _ _ (World.block_lt_of_cell? _ _ hHeld.2.2)).trans hHeld.2.2⟩ (fun hHeld => ?_)
        clear hK K
        refine norm_ (a' := ?_) ?_ ?_
        rotate_left
        · show Act.put _ (some 62) _ = _
          simp only [Act.put, List.setIfInBounds_toArray, List.set_cons_zero, List.set_cons_succ]
          rfl
        refine pure_ (i := 13) (N := some 14) (v := ?_) (a' := ?_) #[true, true, true, true, true, true, true, true, true, true, true, true, true, true] rfl rfl (by kernel_rfl) (fun _ _ _ h => h) (Or.inl ⟨by rfl, ?_⟩) ?_ ?_
        rotate_left
        · intro w'
          go_simp
          with_reducible rfl
        rotate_left
        · simp only [Act.put, List.setIfInBounds_toArray, List.set_cons_zero, List.set_cons_succ]
          rfl
        refine done_ (by kernel_rfl) ?_
        obtain ⟨f, hf⟩ : ∃ f, IntKind.i64.wrap (IntKind.i64.wrap (1 + c.f0) + (c.f1.length : Int)) = f := ⟨_, rfl⟩
        have HF := Aside0.mk (show f = 1 + c.f0 + c.f1.length by
          have h1 := HBD.out
          rw [← hf, IntKind.wrap_i64, IntKind.wrap_i64]
          omega)
        rw [hf]
        clear hf q0 I3 b1 b1' b2 c0 c1 c2 c3 c4 r0 r1 r2 r3 r4 z0 z1 z2 z3 z4
        have BB4 := Aside0.mk (blk_new w3 (.cells #[.slice E c.f2.length cE, .int .i64 f, .func (.func 44) #[] #[.pointer (some ⟨w.heap.size + 1 + 1, 0, none⟩)], .bool false] 83))
        have R4 := Aside0.mk (Kd.R_alloc R3.out (.cells #[.slice E c.f2.length cE, .int .i64 f, .func (.func 44) #[] #[.pointer (some ⟨w.heap.size + 1 + 1, 0, none⟩)], .bool false] 83))
        have B4 := Aside0.mk (below_alloc B3.out (.cells #[.slice E c.f2.length cE, .int .i64 f, .func (.func 44) #[] #[.pointer (some ⟨w.heap.size + 1 + 1, 0, none⟩)], .bool false] 83))
        have HGB := Aside0.mk (show w2.heap.size ≤ w3.heap.size from B3.out.size)
        clear R3 B3
        generalize w3.alloc (.cells #[.slice E c.f2.length cE, .int .i64 f, .func (.func 44) #[] #[.pointer (some ⟨w.heap.size + 1 + 1, 0, none⟩)], .bool false] 83) = w4 at *
        generalize w3.heap.size = gB at *
        have I4 := Aside0.mk (I2.out.below B4.out HS2.out)
        have b1 := (blk_cell I4.out.B1 0).trans rfl
        have b1' := (blk_cell I4.out.B1 1).trans rfl
        have b2 := (blk_cell I4.out.B2 0).trans rfl
        have HPUT := Aside0.mk (builder_put w2.heap.size gB E cE c.f2 f 44 #[.pointer (some ⟨w.heap.size + 1 + 1, 0, none⟩)] false A k ⟨pa, lit⟩ l l.length w4 rfl ⟨BB4.out, R4.out⟩ B4.out.size HGB.out (by have := HF.out; have := HBD.out; omega) (by have := HF.out; have := HBD.out; omega)
          (fun W hW => HRP.out.below (I2.out.BW.trans ((B4.out.trans hW).mono I2.out.BW.size))) HPF.out HPK.out (fun x hx => by
            have h1 := List.all_eq_true.1 HLA.out x hx
            simp only [Bool.and_eq_true, decide_eq_true_eq] at h1
            have h2 := HBD.out
            have h3 := HN.out
            exact ⟨h1.1, by omega⟩)
          (enters_fn Try.func44 (by kernel_rfl) rfl)
          (fun W hW _ v hv => preds_Put1 (w.heap.size + 2) B d l v ((v + 1 : Nat) : Int) W (by omega) ((blk_cell ((hW.block _ (by have := HS2.out; omega)).trans I4.out.B2) 0).trans rfl) (HRL.out.below (I2.out.BW.trans ((B4.out.trans hW).mono I2.out.BW.size))) hv))
        go_wp2_with fail
        refine HPUT.out.mono ?_
        clear HPUT
        rintro e w5 hRB
        have HR2 := HR.out
        unfold putC nOf at HR2
        rw [if_neg (by rw [HC.out]; simp), HN.out, if_neg (by rw [HLA.out]; simp), if_neg (by rw [HPK.out]; simp), ← HF.out] at HR2
        generalize putB ⟨pa, lit⟩ l c.f2 f false = r at *
        obtain ⟨ands5, full5, lit5⟩ := r
        dsimp only at HR2
        obtain ⟨rfl, ⟨E5, c5, J5, _⟩, hB5, _⟩ := hRB
        dsimp only at J5 hB5
        have J5 := Aside0.mk J5
        have I5 := Aside0.mk (I4.out.below hB5 HS2.out)
        have H5 := Aside0.mk hB5.size
        have H4 := Aside0.mk B4.out.size
        have HR3 := Aside0.mk HR2
        clear hB5 HR2 b1 b1' b2 I4 BB4 R4 B4
        have q3 := (blk_cell J5.out.BB 3).trans rfl
        obtain ⟨⟨r0, r1, r2, r3, r4⟩, z0, z1, z2, z3, z4⟩ := blk5w I5.out.B3
        cases hfl : full5 with
        | true =>
          rw [hfl] at q3
          have HR4 := Aside0.mk (show R = (zeroC, 0, 4) by have h_ := HR3.out; rw [hfl] at h_; exact h_.symm)
          go_wp2
          refine bodyPost_ret (results_ctt rfl _ _ (w.heap.size + 3) 29 #[.int .i64 0, .slice none 0 0, .slice none 0 0, .slice none 0 0, .slice none 0 0] (0, 0) _ rfl (blk5_set I5.out.B3 _ _ _ _ _) hu26 rfl (by kernel_rfl)) rfl ?_
          rw [HR4.out]
          exact I5.out.zero _ _ rfl
        | false =>
          rw [hfl] at q3
          have HR4 := Aside0.mk (show R = (⟨c.f0, c.f1, ands5, c.f3, c.f4⟩, lit5, 0) by have h_ := HR3.out; rw [hfl] at h_; exact h_.symm)
          obtain ⟨⟨c0, c1, c2, c3, c4⟩, _, _, _, _, _⟩ := blk5w I5.out.B0
          have q1 := (blk_cell J5.out.BB 0).trans rfl
          go_wp2
          clear q3
          have I5d := Aside0.mk (I5.out.below (below_drew (Below.refl w5.heap.size w5)) (Nat.lt_of_lt_of_le HS2.out (Nat.le_trans H4.out H5.out)))
          have HSW5 := Aside0.mk (Nat.lt_of_lt_of_le HS2.out (Nat.le_trans H4.out H5.out))
          refine start_ (n := 18) (S := (fun w' => w'.cell? ⟨w.heap.size, 0, none⟩ = some (.int .i64 c.f0) ∧ w'.cell? ⟨w.heap.size, 1, none⟩ = some (.slice pc.A1 c.f1.length pc.c1) ∧ w'.cell? ⟨w.heap.size, 3, none⟩ = some (.slice pc.A3 c.f3.length pc.c3) ∧ w'.cell? ⟨w.heap.size, 4, none⟩ = some (.slice pc.A4 c.f4.length pc.c4) ∧ w'.cell? ⟨gB, 0, none⟩ = some (.slice E5 ands5.length c5))) (ds := []) #[false, false, false, false, false, false, false, false, false, false, false, false, false, false, false, false, false, false] (by kernel_rfl) rfl rfl ⟨c0, c1, c3, c4, q1⟩ (fun hHeld => ?_)
          clear c0 c1 c2 c3 c4 q1 r0 r1 r2 r3 r4 z0 z1 z2 z3 z4
          refine pure_ (i := 0) (N := some 73) (v := ?_) (a' := ?_) #[true, false, false, false, false, false, false, false, false, false, false, false, false, false, false, false, false, false] rfl rfl (by kernel_rfl) (fun _ _ _ h => h) (Or.inl ⟨by rfl, ?_⟩) ?_ ?_
          rotate_left
          · intro w'
            go_simp
            with_reducible rfl
          rotate_left
          · simp only [Act.put, List.setIfInBounds_toArray, List.set_cons_zero, List.set_cons_succ]
            rfl
          refine take_ (i := 1) (N := some 74) (v := ?_) (a' := ?_) #[true, true, false, false, false, false, false, false, false, false, false, false, false, false, false, false, false, false] rfl rfl (by kernel_rfl) (fun _ _ _ h => h) (Or.inl ⟨by rfl, ?_⟩) hHeld ?_ ?_
          rotate_left
          · rintro w' ⟨s0, s1, s2, s3, s4⟩
            go_simp
            with_reducible rfl
          rotate_left
          · simp only [Act.put, List.setIfInBounds_toArray, List.set_cons_zero, List.set_cons_succ]
            rfl
          refine pure_ (i := 2) (N := some 75) (v := ?_) (a' := ?_) #[true, true, true, false, false, false, false, false, false, false, false, false, false, false, false, false, false, false] rfl rfl (by kernel_rfl) (fun _ _ _ h => h) (Or.inl ⟨by rfl, ?_⟩) ?_ ?_
          rotate_left
          · intro w'
            go_simp
            with_reducible rfl
          rotate_left
          · simp only [Act.put, List.setIfInBounds_toArray, List.set_cons_zero, List.set_cons_succ]
            rfl
          refine take_ (i := 3) (N := some 76) (v := ?_) (a' := ?_) #[true, true, true, true, false, false, false, false, false, false, false, false, false, false, false, false, false, false] rfl rfl (by kernel_rfl) (fun _ _ _ h => h) (Or.inl ⟨by rfl, ?_⟩) hHeld ?_ ?_
          rotate_left
          · rintro w' ⟨s0, s1, s2, s3, s4⟩
            go_simp
            with_reducible rfl
          rotate_left
          · simp only [Act.put, List.setIfInBounds_toArray, List.set_cons_zero, List.set_cons_succ]
            rfl
          refine pure_ (i := 5) (N := some 78) (v := ?_) (a' := ?_) #[true, true, true, true, false, true, false, false, false, false, false, false, false, false, false, false, false, false] rfl rfl (by kernel_rfl) (fun _ _ _ h => h) (Or.inl ⟨by rfl, ?_⟩) ?_ ?_
          rotate_left
          · intro w'
            go_simp
            with_reducible rfl
          rotate_left
          · simp only [Act.put, List.setIfInBounds_toArray, List.set_cons_zero, List.set_cons_succ]
            rfl
          refine pure_ (i := 6) (N := some 79) (v := ?_) (a' := ?_) #[true, true, true, true, false, true, true, false, false, false, false, false, false, false, false, false, false, false] rfl rfl (by kernel_rfl) (fun _ _ _ h => h) (Or.inl ⟨by rfl, ?_⟩) ?_ ?_
          rotate_left
          · intro w'
            go_simp
            with_reducible rfl
          rotate_left
          · simp only [Act.put, List.setIfInBounds_toArray, List.set_cons_zero, List.set_cons_succ]
            rfl
          refine pure_ (i := 7) (N := some 80) (v := ?_) (a' := ?_) #[true, true, true, true, false, true, true, true, false, false, false, false, false, false, false, false, false, false] rfl rfl (by kernel_rfl) (fun _ _ _ h => h) (Or.inl ⟨by rfl, ?_⟩) ?_ ?_
          rotate_left
          · intro w'
            go_simp
            with_reducible rfl
          rotate_left
          · simp only [Act.put, List.setIfInBounds_toArray, List.set_cons_zero, List.set_cons_succ]
            rfl
          refine take_ (i := 8) (N := some 81) (v := ?_) (a' := ?_) #[true, true, true, true, false, true, true, true, true, false, false, false, false, false, false, false, false, false] rfl rfl (by kernel_rfl) (fun _ _ _ h => h) (Or.inl ⟨by rfl, ?_⟩) hHeld ?_ ?_
          rotate_left
          · rintro w' ⟨s0, s1, s2, s3, s4⟩
            go_simp
            with_reducible rfl
          rotate_left
          · simp only [Act.put, List.setIfInBounds_toArray, List.set_cons_zero, List.set_cons_succ]
            rfl
          refine pure_ (i := 9) (N := some 82) (v := ?_) (a' := ?_) #[true, true, true, true, false, true, true, true, true, true, false, false, false, false, false, false, false, false] rfl rfl (by kernel_rfl) (fun _ _ _ h => h) (Or.inl ⟨by rfl, ?_⟩) ?_ ?_
          rotate_left
          · intro w'
            go_simp
            with_reducible rfl
          rotate_left
          · simp only [Act.put, List.setIfInBounds_toArray, List.set_cons_zero, List.set_cons_succ]
            rfl
          refine take_ (i := 10) (N := some 83) (v := ?_) (a' := ?_) #[true, true, true, true, false, true, true, true, true, true, true, false, false, false, false, false, false, false] rfl rfl (by kernel_rfl) (fun _ _ _ h => h) (Or.inl ⟨by rfl, ?_⟩) hHeld ?_ ?_
          rotate_left
          · rintro w' ⟨s0, s1, s2, s3, s4⟩
            go_simp
            with_reducible rfl
          rotate_left
          · simp only [Act.put, List.setIfInBounds_toArray, List.set_cons_zero, List.set_cons_succ]
            rfl
          refine pure_ (i := 12) (N := some 85) (v := ?_) (a' := ?_) #[true, true, true, true, false, true, true, true, true, true, true, false, true, false, false, false, false, false] rfl rfl (by kernel_rfl) (fun _ _ _ h => h) (Or.inl ⟨by rfl, ?_⟩) ?_ ?_
          rotate_left
          · intro w'
            go_simp
            with_reducible rfl
          rotate_left
          · simp only [Act.put, List.setIfInBounds_toArray, List.set_cons_zero, List.set_cons_succ]
            rfl
          refine take_ (i := 13) (N := some 86) (v := ?_) (a' := ?_) #[true, true, true, true, false, true, true, true, true, true, true, false, true, true, false, false, false, false] rfl rfl (by kernel_rfl) (fun _ _ _ h => h) (Or.inl ⟨by rfl, ?_⟩) hHeld ?_ ?_
          rotate_left
          · rintro w' ⟨s0, s1, s2, s3, s4⟩
            go_simp
            with_reducible rfl
          rotate_left
          · simp only [Act.put, List.setIfInBounds_toArray, List.set_cons_zero, List.set_cons_succ]
            rfl
          have I := I5d
          have J : Aside0 (BInv w2.heap.size gB E5 c5 ands5 f (.func (.func 44) #[] #[.pointer (some ⟨w.heap.size + 1 + 1, 0, none⟩)]) false w5.drew) := ⟨⟨blk_drew (hfl ▸ J5.out.BB), Kd.R_drew J5.out.RR⟩⟩
          have HW5 := Aside0.mk (show w2.heap.size ≤ w5.drew.heap.size from Nat.le_trans H4.out H5.out)
          have HGB5 := HW5
          refine join_ (fuel' := 1) #[true, true, true, true, true, true, true, true, true, true, true, true, true, true, true, true, true, false] (fun s : (Option Addr × Nat) × (Option Addr × Nat) × (Option Addr × Nat) × Nat => [(77, .slice s.1.1 c.f1.length s.1.2), (84, .slice s.2.1.1 c.f3.length s.2.1.2), (87, .slice s.2.2.1.1 c.f4.length s.2.2.1.2), (88, .agg #[.int .i64 c.f0, .slice s.1.1 c.f1.length s.1.2, .slice E5 ands5.length c5, .slice s.2.1.1 c.f3.length s.2.1.2, .slice s.2.2.1.1 c.f4.length s.2.2.1.2]), (16, .pointer (some ⟨s.2.2.2, 0, none⟩))]) (fun s w' => PInv w pc c A k ⟨pa, lit⟩ B d l w' ∧ BInv w2.heap.size gB E5 c5 ands5 f (.func (.func 44) #[] #[.pointer (some ⟨w.heap.size + 1 + 1, 0, none⟩)]) false w' ∧ RCo w2.heap.size w' ⟨s.1.1, s.1.2, E5, c5, s.2.1.1, s.2.1.2, s.2.2.1.1, s.2.2.1.2⟩ ⟨c.f0, c.f1, ands5, c.f3, c.f4⟩ ∧ w'.heap[s.2.2.2]? = some (.cells #[.int .i64 0, .slice none 0 0, .slice none 0 0, .slice none 0 0, .slice none 0 0] 29 (0, 0)) ∧ w2.heap.size ≤ s.2.2.2) ?hcont ?hjoin
          case hjoin =>
            intro hcont
            refine two_ (i := 4) (j := 16) (Ni := some 77) (Nj := some 16) #[true, true, true, true, true, true, true, true, true, true, true, false, true, true, false, false, false, false] #[true, true, true, true, false, true, true, true, true, true, true, false, true, true, false, false, true, false] rfl rfl rfl rfl (by kernel_rfl) (by decide) (by decide) (fun K hK => ?_) (fun K hK => ?_)
            · skip
              refine goes_ Try.func46 (by kernel_rfl) rfl #[.slice pc.A1 c.f1.length pc.c1] (by rfl) rfl rfl (by simp only [List.map_toArray, List.map_cons, List.map_nil] <;> rfl) ?_
              refine (slices_Clone_latch pc.A1 pc.c1 c.f1 _ (HRC.out.s1.below I.out.BW) (by have := HBD.out; omega)).mono ?_
              rintro e w6 ⟨L6, d6, rfl, hR6, hb⟩
              refine ⟨_, rfl, ?_⟩
              have hR6 := Kd.R_lower hR6 HW5.out
              have J : Aside0 (BInv w2.heap.size gB E5 c5 ands5 f (.func (.func 44) #[] #[.pointer (some ⟨w.heap.size + 1 + 1, 0, none⟩)]) false _) := ⟨⟨blk_below J.out.BB hb, Kd.R_below J.out.RR hb⟩⟩
              first | (have R6 := Aside0.mk (Kd.R_below R6.out hb)) | skip
              first | (have R7_ := Aside0.mk (Kd.R_below R7_.out hb)) | skip
              first | (have R8 := Aside0.mk (Kd.R_below R8.out hb)) | skip
              first | (have G := Aside0.mk (blk_below G.out hb)) | skip
              have HW5 := Aside0.mk (Nat.le_trans HW5.out hb.size)
              have I := Aside0.mk (I.out.below hb (blk_lt I.out.B3))
              clear hb
              have q0 := (blk5w I.out.B0).1
              have R6 := Aside0.mk hR6
              clear hR6
              refine hK.out _ _ ⟨q0.1, q0.2.1, q0.2.2.2.1, q0.2.2.2.2, (blk_cell J.out.BB 0).trans rfl⟩ (fun hHeld => ?_)
              clear hK K
              refine norm_ (a' := ?_) ?_ ?_
              rotate_left
              · show Act.put _ (some 77) _ = _
                simp only [Act.put, List.setIfInBounds_toArray, List.set_cons_zero, List.set_cons_succ]
                rfl
              clear q0
              refine two_ (i := 11) (j := 16) (Ni := some 84) (Nj := some 16) #[true, true, true, true, true, true, true, true, true, true, true, true, true, true, false, false, false, false] #[true, true, true, true, true, true, true, true, true, true, true, false, true, true, false, false, true, false] rfl rfl rfl rfl (by kernel_rfl) (by decide) (by decide) (fun K hK => ?_) (fun K hK => ?_)
              · skip
                refine goes_ Try.func47 (by kernel_rfl) rfl #[.slice pc.A3 c.f3.length pc.c3] (by rfl) rfl rfl (by simp only [List.map_toArray, List.map_cons, List.map_nil] <;> rfl) ?_
                refine (slices_Clone_int pc.A3 pc.c3 c.f3 _ (HRC.out.s3.below I.out.BW) (by have := check_few HC.out; omega)).mono ?_
                rintro e w7 ⟨L7, d7, rfl, hR7, hb⟩
                refine ⟨_, rfl, ?_⟩
                have hR7 := Kd.R_lower hR7 HW5.out
                have J : Aside0 (BInv w2.heap.size gB E5 c5 ands5 f (.func (.func 44) #[] #[.pointer (some ⟨w.heap.size + 1 + 1, 0, none⟩)]) false _) := ⟨⟨blk_below J.out.BB hb, Kd.R_below J.out.RR hb⟩⟩
                first | (have R6 := Aside0.mk (Kd.R_below R6.out hb)) | skip
                first | (have R7_ := Aside0.mk (Kd.R_below R7_.out hb)) | skip
                first | (have R8 := Aside0.mk (Kd.R_below R8.out hb)) | skip
                first | (have G := Aside0.mk (blk_below G.out hb)) | skip
                have HW5 := Aside0.mk (Nat.le_trans HW5.out hb.size)
                have I := Aside0.mk (I.out.below hb (blk_lt I.out.B3))
                clear hb
                have q0 := (blk5w I.out.B0).1
                have R7_ := Aside0.mk hR7
                clear hR7
                refine hK.out _ _ ⟨q0.1, q0.2.1, q0.2.2.2.1, q0.2.2.2.2, (blk_cell J.out.BB 0).trans rfl⟩ (fun hHeld => ?_)
                clear hK K
                refine norm_ (a' := ?_) ?_ ?_
                rotate_left
                · show Act.put _ (some 84) _ = _
                  simp only [Act.put, List.setIfInBounds_toArray, List.set_cons_zero, List.set_cons_succ]
                  rfl
                clear q0
                refine two_ (i := 14) (j := 16) (Ni := some 87) (Nj := some 16) #[true, true, true, true, true, true, true, true, true, true, true, true, true, true, true, false, false, false] #[true, true, true, true, true, true, true, true, true, true, true, true, true, true, false, false, true, false] rfl rfl rfl rfl (by kernel_rfl) (by decide) (by decide) (fun K hK => ?_) (fun K hK => ?_)
                · skip
                  refine goes_ Try.func47 (by kernel_rfl) rfl #[.slice pc.A4 c.f4.length pc.c4] (by rfl) rfl rfl (by simp only [List.map_toArray, List.map_cons, List.map_nil] <;> rfl) ?_
                  refine (slices_Clone_int pc.A4 pc.c4 c.f4 _ (HRC.out.s4.below I.out.BW) (by have := check_few HC.out; omega)).mono ?_
                  rintro e w8 ⟨L8, d8, rfl, hR8, hb⟩
                  refine ⟨_, rfl, ?_⟩
                  have hR8 := Kd.R_lower hR8 HW5.out
                  have J : Aside0 (BInv w2.heap.size gB E5 c5 ands5 f (.func (.func 44) #[] #[.pointer (some ⟨w.heap.size + 1 + 1, 0, none⟩)]) false _) := ⟨⟨blk_below J.out.BB hb, Kd.R_below J.out.RR hb⟩⟩
                  first | (have R6 := Aside0.mk (Kd.R_below R6.out hb)) | skip
                  first | (have R7_ := Aside0.mk (Kd.R_below R7_.out hb)) | skip
                  first | (have R8 := Aside0.mk (Kd.R_below R8.out hb)) | skip
                  first | (have G := Aside0.mk (blk_below G.out hb)) | skip
                  have HW5 := Aside0.mk (Nat.le_trans HW5.out hb.size)
                  have I := Aside0.mk (I.out.below hb (blk_lt I.out.B3))
                  clear hb
                  have q0 := (blk5w I.out.B0).1
                  have R8 := Aside0.mk hR8
                  clear hR8
                  refine hK.out _ _ ⟨q0.1, q0.2.1, q0.2.2.2.1, q0.2.2.2.2, (blk_cell J.out.BB 0).trans rfl⟩ (fun hHeld => ?_)
                  clear hK K
                  refine norm_ (a' := ?_) ?_ ?_
                  rotate_left
                  · show Act.put _ (some 87) _ = _
                    simp only [Act.put, List.setIfInBounds_toArray, List.set_cons_zero, List.set_cons_succ]
                    rfl
                  clear q0
                  refine pure_ (i := 15) (N := some 88) (v := ?_) (a' := ?_) #[true, true, true, true, true, true, true, true, true, true, true, true, true, true, true, true, false, false] rfl rfl (by kernel_rfl) (fun _ _ _ h => h) (Or.inl ⟨by rfl, ?_⟩) ?_ ?_
                  rotate_left
                  · intro w'
                    go_simp
                    with_reducible rfl
                  rotate_left
                  · simp only [Act.put, List.setIfInBounds_toArray, List.set_cons_zero, List.set_cons_succ]
                    rfl
                  refine one_ (i := 16) (N := some 16) #[true, true, true, true, true, true, true, true, true, true, true, true, true, true, true, true, true, false] rfl rfl (by kernel_rfl) (by decide) (fun K hK => ?_)
                  refine value_ (w1 := ?_) (v := ?_) (by rfl) rfl ?_ ?_
                  rotate_left 2
                  · go_simp
                    constructor
                    · rfl
                    · rfl
                  have HG8 := Aside0.mk (show w2.heap.size ≤ (w8).heap.size from HW5.out)
                  have hG := blk_new (w8) (.cells #[.int .i64 0, .slice none 0 0, .slice none 0 0, .slice none 0 0, .slice none 0 0] 29)
                  have hb := below_alloc (Below.refl (w8).heap.size (w8)) (.cells #[.int .i64 0, .slice none 0 0, .slice none 0 0, .slice none 0 0, .slice none 0 0] 29)
                  have J : Aside0 (BInv w2.heap.size gB E5 c5 ands5 f (.func (.func 44) #[] #[.pointer (some ⟨w.heap.size + 1 + 1, 0, none⟩)]) false _) := ⟨⟨blk_below J.out.BB hb, Kd.R_below J.out.RR hb⟩⟩
                  first | (have R6 := Aside0.mk (Kd.R_below R6.out hb)) | skip
                  first | (have R7_ := Aside0.mk (Kd.R_below R7_.out hb)) | skip
                  first | (have R8 := Aside0.mk (Kd.R_below R8.out hb)) | skip
                  first | (have G := Aside0.mk (blk_below G.out hb)) | skip
                  have HW5 := Aside0.mk (Nat.le_trans HW5.out hb.size)
                  have I := Aside0.mk (I.out.below hb (blk_lt I.out.B3))
                  clear hb
                  have q0 := (blk5w I.out.B0).1
                  have G := Aside0.mk hG
                  clear hG
                  refine hK.out _ _ ⟨q0.1, q0.2.1, q0.2.2.2.1, q0.2.2.2.2, (blk_cell J.out.BB 0).trans rfl⟩ (fun hHeld => ?_)
                  clear hK K
                  refine norm_ (a' := ?_) ?_ ?_
                  rotate_left
                  · show Act.put _ (some 16) _ = _
                    simp only [Act.put, List.setIfInBounds_toArray, List.set_cons_zero, List.set_cons_succ]
                    rfl
                  clear q0
                  refine norm_ ?_ (hcont ((L6, d6), (L7, d7), (L8, d8), (w8).heap.size) _ ⟨I.out, J.out, ⟨R6.out, J.out.RR, R7_.out, R8.out⟩, G.out, HG8.out⟩)
                  simp only [putAll, Act.put, List.setIfInBounds_toArray, List.set_cons_zero, List.set_cons_succ] <;> rfl
                · skip
                  refine value_ (w1 := ?_) (v := ?_) (by rfl) rfl ?_ ?_
                  rotate_left 2
                  · go_simp
                    constructor
                    · rfl
                    · rfl
                  have HG8 := Aside0.mk (show w2.heap.size ≤ (w7).heap.size from HW5.out)
                  have hG := blk_new (w7) (.cells #[.int .i64 0, .slice none 0 0, .slice none 0 0, .slice none 0 0, .slice none 0 0] 29)
                  have hb := below_alloc (Below.refl (w7).heap.size (w7)) (.cells #[.int .i64 0, .slice none 0 0, .slice none 0 0, .slice none 0 0, .slice none 0 0] 29)
                  have J : Aside0 (BInv w2.heap.size gB E5 c5 ands5 f (.func (.func 44) #[] #[.pointer (some ⟨w.heap.size + 1 + 1, 0, none⟩)]) false _) := ⟨⟨blk_below J.out.BB hb, Kd.R_below J.out.RR hb⟩⟩
                  first | (have R6 := Aside0.mk (Kd.R_below R6.out hb)) | skip
                  first | (have R7_ := Aside0.mk (Kd.R_below R7_.out hb)) | skip
                  first | (have R8 := Aside0.mk (Kd.R_below R8.out hb)) | skip
                  first | (have G := Aside0.mk (blk_below G.out hb)) | skip
                  have HW5 := Aside0.mk (Nat.le_trans HW5.out hb.size)
                  have I := Aside0.mk (I.out.below hb (blk_lt I.out.B3))
                  clear hb
                  have q0 := (blk5w I.out.B0).1
                  have G := Aside0.mk hG
                  clear hG
                  refine hK.out _ _ ⟨q0.1, q0.2.1, q0.2.2.2.1, q0.2.2.2.2, (blk_cell J.out.BB 0).trans rfl⟩ (fun hHeld => ?_)
                  clear hK K
                  refine norm_ (a' := ?_) ?_ ?_
                  rotate_left
                  · show Act.put _ (some 16) _ = _
                    simp only [Act.put, List.setIfInBounds_toArray, List.set_cons_zero, List.set_cons_succ]
                    rfl
                  clear q0
                  refine one_ (i := 14) (N := some 87) #[true, true, true, true, true, true, true, true, true, true, true, true, true, true, true, false, true, false] rfl rfl (by kernel_rfl) (by decide) (fun K hK => ?_)
                  refine goes_ Try.func47 (by kernel_rfl) rfl #[.slice pc.A4 c.f4.length pc.c4] (by rfl) rfl rfl (by simp only [List.map_toArray, List.map_cons, List.map_nil] <;> rfl) ?_
                  refine (slices_Clone_int pc.A4 pc.c4 c.f4 _ (HRC.out.s4.below I.out.BW) (by have := check_few HC.out; omega)).mono ?_
                  rintro e w8 ⟨L8, d8, rfl, hR8, hb⟩
                  refine ⟨_, rfl, ?_⟩
                  have hR8 := Kd.R_lower hR8 HW5.out
                  have J : Aside0 (BInv w2.heap.size gB E5 c5 ands5 f (.func (.func 44) #[] #[.pointer (some ⟨w.heap.size + 1 + 1, 0, none⟩)]) false _) := ⟨⟨blk_below J.out.BB hb, Kd.R_below J.out.RR hb⟩⟩
                  first | (have R6 := Aside0.mk (Kd.R_below R6.out hb)) | skip
                  first | (have R7_ := Aside0.mk (Kd.R_below R7_.out hb)) | skip
                  first | (have R8 := Aside0.mk (Kd.R_below R8.out hb)) | skip
                  first | (have G := Aside0.mk (blk_below G.out hb)) | skip
                  have HW5 := Aside0.mk (Nat.le_trans HW5.out hb.size)
                  have I := Aside0.mk (I.out.below hb (blk_lt I.out.B3))
                  clear hb
                  have q0 := (blk5w I.out.B0).1
                  have R8 := Aside0.mk hR8
                  clear hR8
                  refine hK.out _ _ ⟨q0.1, q0.2.1, q0.2.2.2.1, q0.2.2.2.2, (blk_cell J.out.BB 0).trans rfl⟩ (fun hHeld => ?_)
                  clear hK K
                  refine norm_ (a' := ?_) ?_ ?_
                  rotate_left
                  · show Act.put _ (some 87) _ = _
                    simp only [Act.put, List.setIfInBounds_toArray, List.set_cons_zero, List.set_cons_succ]
                    rfl
                  clear q0
                  refine pure_ (i := 15) (N := some 88) (v := ?_) (a' := ?_) #[true, true, true, true, true, true, true, true, true, true, true, true, true, true, true, true, true, false] rfl rfl (by kernel_rfl) (fun _ _ _ h => h) (Or.inl ⟨by rfl, ?_⟩) ?_ ?_
                  rotate_left
                  · intro w'
                    go_simp
                    with_reducible rfl
                  rotate_left
                  · simp only [Act.put, List.setIfInBounds_toArray, List.set_cons_zero, List.set_cons_succ]
                    rfl
                  refine norm_ ?_ (hcont ((L6, d6), (L7, d7), (L8, d8), (w7).heap.size) _ ⟨I.out, J.out, ⟨R6.out, J.out.RR, R7_.out, R8.out⟩, G.out, HG8.out⟩)
                  simp only [putAll, Act.put, List.setIfInBounds_toArray, List.set_cons_zero, List.set_cons_succ] <;> rfl
              · skip
                refine value_ (w1 := ?_) (v := ?_) (by rfl) rfl ?_ ?_
                rotate_left 2
                · go_simp
                  constructor
                  · rfl
                  · rfl
                have HG8 := Aside0.mk (show w2.heap.size ≤ (w6).heap.size from HW5.out)
                have hG := blk_new (w6) (.cells #[.int .i64 0, .slice none 0 0, .slice none 0 0, .slice none 0 0, .slice none 0 0] 29)
                have hb := below_alloc (Below.refl (w6).heap.size (w6)) (.cells #[.int .i64 0, .slice none 0 0, .slice none 0 0, .slice none 0 0, .slice none 0 0] 29)
                have J : Aside0 (BInv w2.heap.size gB E5 c5 ands5 f (.func (.func 44) #[] #[.pointer (some ⟨w.heap.size + 1 + 1, 0, none⟩)]) false _) := ⟨⟨blk_below J.out.BB hb, Kd.R_below J.out.RR hb⟩⟩
                first | (have R6 := Aside0.mk (Kd.R_below R6.out hb)) | skip
                first | (have R7_ := Aside0.mk (Kd.R_below R7_.out hb)) | skip
                first | (have R8 := Aside0.mk (Kd.R_below R8.out hb)) | skip
                first | (have G := Aside0.mk (blk_below G.out hb)) | skip
                have HW5 := Aside0.mk (Nat.le_trans HW5.out hb.size)
                have I := Aside0.mk (I.out.below hb (blk_lt I.out.B3))
                clear hb
                have q0 := (blk5w I.out.B0).1
                have G := Aside0.mk hG
                clear hG
                refine hK.out _ _ ⟨q0.1, q0.2.1, q0.2.2.2.1, q0.2.2.2.2, (blk_cell J.out.BB 0).trans rfl⟩ (fun hHeld => ?_)
                clear hK K
                refine norm_ (a' := ?_) ?_ ?_
                rotate_left
                · show Act.put _ (some 16) _ = _
                  simp only [Act.put, List.setIfInBounds_toArray, List.set_cons_zero, List.set_cons_succ]
                  rfl
                clear q0
                refine one_ (i := 11) (N := some 84) #[true, true, true, true, true, true, true, true, true, true, true, true, true, true, false, false, true, false] rfl rfl (by kernel_rfl) (by decide) (fun K hK => ?_)
                refine goes_ Try.func47 (by kernel_rfl) rfl #[.slice pc.A3 c.f3.length pc.c3] (by rfl) rfl rfl (by simp only [List.map_toArray, List.map_cons, List.map_nil] <;> rfl) ?_
                refine (slices_Clone_int pc.A3 pc.c3 c.f3 _ (HRC.out.s3.below I.out.BW) (by have := check_few HC.out; omega)).mono ?_
                rintro e w7 ⟨L7, d7, rfl, hR7, hb⟩
                refine ⟨_, rfl, ?_⟩
                have hR7 := Kd.R_lower hR7 HW5.out
                have J : Aside0 (BInv w2.heap.size gB E5 c5 ands5 f (.func (.func 44) #[] #[.pointer (some ⟨w.heap.size + 1 + 1, 0, none⟩)]) false _) := ⟨⟨blk_below J.out.BB hb, Kd.R_below J.out.RR hb⟩⟩
                first | (have R6 := Aside0.mk (Kd.R_below R6.out hb)) | skip
                first | (have R7_ := Aside0.mk (Kd.R_below R7_.out hb)) | skip
                first | (have R8 := Aside0.mk (Kd.R_below R8.out hb)) | skip
                first | (have G := Aside0.mk (blk_below G.out hb)) | skip
                have HW5 := Aside0.mk (Nat.le_trans HW5.out hb.size)
                have I := Aside0.mk (I.out.below hb (blk_lt I.out.B3))
                clear hb
                have q0 := (blk5w I.out.B0).1
                have R7_ := Aside0.mk hR7
                clear hR7
                refine hK.out _ _ ⟨q0.1, q0.2.1, q0.2.2.2.1, q0.2.2.2.2, (blk_cell J.out.BB 0).trans rfl⟩ (fun hHeld => ?_)
                clear hK K
                refine norm_ (a' := ?_) ?_ ?_
                rotate_left
                · show Act.put _ (some 84) _ = _
                  simp only [Act.put, List.setIfInBounds_toArray, List.set_cons_zero, List.set_cons_succ]
                  rfl
                clear q0
                refine one_ (i := 14) (N := some 87) #[true, true, true, true, true, true, true, true, true, true, true, true, true, true, true, false, true, false] rfl rfl (by kernel_rfl) (by decide) (fun K hK => ?_)
                refine goes_ Try.func47 (by kernel_rfl) rfl #[.slice pc.A4 c.f4.length pc.c4] (by rfl) rfl rfl (by simp only [List.map_toArray, List.map_cons, List.map_nil] <;> rfl) ?_
                refine (slices_Clone_int pc.A4 pc.c4 c.f4 _ (HRC.out.s4.below I.out.BW) (by have := check_few HC.out; omega)).mono ?_
                rintro e w8 ⟨L8, d8, rfl, hR8, hb⟩
                refine ⟨_, rfl, ?_⟩
                have hR8 := Kd.R_lower hR8 HW5.out
                have J : Aside0 (BInv w2.heap.size gB E5 c5 ands5 f (.func (.func 44) #[] #[.pointer (some ⟨w.heap.size + 1 + 1, 0, none⟩)]) false _) := ⟨⟨blk_below J.out.BB hb, Kd.R_below J.out.RR hb⟩⟩
                first | (have R6 := Aside0.mk (Kd.R_below R6.out hb)) | skip
                first | (have R7_ := Aside0.mk (Kd.R_below R7_.out hb)) | skip
                first | (have R8 := Aside0.mk (Kd.R_below R8.out hb)) | skip
                first | (have G := Aside0.mk (blk_below G.out hb)) | skip
                have HW5 := Aside0.mk (Nat.le_trans HW5.out hb.size)
                have I := Aside0.mk (I.out.below hb (blk_lt I.out.B3))
                clear hb
                have q0 := (blk5w I.out.B0).1
                have R8 := Aside0.mk hR8
                clear hR8
                refine hK.out _ _ ⟨q0.1, q0.2.1, q0.2.2.2.1, q0.2.2.2.2, (blk_cell J.out.BB 0).trans rfl⟩ (fun hHeld => ?_)
                clear hK K
                refine norm_ (a' := ?_) ?_ ?_
                rotate_left
                · show Act.put _ (some 87) _ = _
                  simp only [Act.put, List.setIfInBounds_toArray, List.set_cons_zero, List.set_cons_succ]
                  rfl
                clear q0
                refine pure_ (i := 15) (N := some 88) (v := ?_) (a' := ?_) #[true, true, true, true, true, true, true, true, true, true, true, true, true, true, true, true, true, false] rfl rfl (by kernel_rfl) (fun _ _ _ h => h) (Or.inl ⟨by rfl, ?_⟩) ?_ ?_
                rotate_left
                · intro w'
                  go_simp
                  with_reducible rfl
                rotate_left
                · simp only [Act.put, List.setIfInBounds_toArray, List.set_cons_zero, List.set_cons_succ]
                  rfl
                refine norm_ ?_ (hcont ((L6, d6), (L7, d7), (L8, d8), (w6).heap.size) _ ⟨I.out, J.out, ⟨R6.out, J.out.RR, R7_.out, R8.out⟩, G.out, HG8.out⟩)
                simp only [putAll, Act.put, List.setIfInBounds_toArray, List.set_cons_zero, List.set_cons_succ] <;> rfl
            · skip
              refine value_ (w1 := ?_) (v := ?_) (by rfl) rfl ?_ ?_
              rotate_left 2
              · go_simp
                constructor
                · rfl
                · rfl
              have HG8 := Aside0.mk (show w2.heap.size ≤ (w5.drew).heap.size from HW5.out)
              have hG := blk_new (w5.drew) (.cells #[.int .i64 0, .slice none 0 0, .slice none 0 0, .slice none 0 0, .slice none 0 0] 29)
              have hb := below_alloc (Below.refl (w5.drew).heap.size (w5.drew)) (.cells #[.int .i64 0, .slice none 0 0, .slice none 0 0, .slice none 0 0, .slice none 0 0] 29)
              have J : Aside0 (BInv w2.heap.size gB E5 c5 ands5 f (.func (.func 44) #[] #[.pointer (some ⟨w.heap.size + 1 + 1, 0, none⟩)]) false _) := ⟨⟨blk_below J.out.BB hb, Kd.R_below J.out.RR hb⟩⟩
              first | (have R6 := Aside0.mk (Kd.R_below R6.out hb)) | skip
              first | (have R7_ := Aside0.mk (Kd.R_below R7_.out hb)) | skip
              first | (have R8 := Aside0.mk (Kd.R_below R8.out hb)) | skip
              first | (have G := Aside0.mk (blk_below G.out hb)) | skip
              have HW5 := Aside0.mk (Nat.le_trans HW5.out hb.size)
              have I := Aside0.mk (I.out.below hb (blk_lt I.out.B3))
              clear hb
              have q0 := (blk5w I.out.B0).1
              have G := Aside0.mk hG
              clear hG
              refine hK.out _ _ ⟨q0.1, q0.2.1, q0.2.2.2.1, q0.2.2.2.2, (blk_cell J.out.BB 0).trans rfl⟩ (fun hHeld => ?_)
              clear hK K
              refine norm_ (a' := ?_) ?_ ?_
              rotate_left
              · show Act.put _ (some 16) _ = _
                simp only [Act.put, List.setIfInBounds_toArray, List.set_cons_zero, List.set_cons_succ]
                rfl
              clear q0
              refine one_ (i := 4) (N := some 77) #[true, true, true, true, true, true, true, true, true, true, true, false, true, true, false, false, true, false] rfl rfl (by kernel_rfl) (by decide) (fun K hK => ?_)
              refine goes_ Try.func46 (by kernel_rfl) rfl #[.slice pc.A1 c.f1.length pc.c1] (by rfl) rfl rfl (by simp only [List.map_toArray, List.map_cons, List.map_nil] <;> rfl) ?_
              refine (slices_Clone_latch pc.A1 pc.c1 c.f1 _ (HRC.out.s1.below I.out.BW) (by have := HBD.out; omega)).mono ?_
              rintro e w6 ⟨L6, d6, rfl, hR6, hb⟩
              refine ⟨_, rfl, ?_⟩
              have hR6 := Kd.R_lower hR6 HW5.out
              have J : Aside0 (BInv w2.heap.size gB E5 c5 ands5 f (.func (.func 44) #[] #[.pointer (some ⟨w.heap.size + 1 + 1, 0, none⟩)]) false _) := ⟨⟨blk_below J.out.BB hb, Kd.R_below J.out.RR hb⟩⟩
              first | (have R6 := Aside0.mk (Kd.R_below R6.out hb)) | skip
              first | (have R7_ := Aside0.mk (Kd.R_below R7_.out hb)) | skip
              first | (have R8 := Aside0.mk (Kd.R_below R8.out hb)) | skip
              first | (have G := Aside0.mk (blk_below G.out hb)) | skip
              have HW5 := Aside0.mk (Nat.le_trans HW5.out hb.size)
              have I := Aside0.mk (I.out.below hb (blk_lt I.out.B3))
              clear hb
              have q0 := (blk5w I.out.B0).1
              have R6 := Aside0.mk hR6
              clear hR6
              refine hK.out _ _ ⟨q0.1, q0.2.1, q0.2.2.2.1, q0.2.2.2.2, (blk_cell J.out.BB 0).trans rfl⟩ (fun hHeld => ?_)
              clear hK K
              refine norm_ (a' := ?_) ?_ ?_
              rotate_left
              · show Act.put _ (some 77) _ = _
                simp only [Act.put, List.setIfInBounds_toArray, List.set_cons_zero, List.set_cons_succ]
                rfl
              clear q0
              refine one_ (i := 11) (N := some 84) #[true, true, true, true, true, true, true, true, true, true, true, true, true, true, false, false, true, false] rfl rfl (by kernel_rfl) (by decide) (fun K hK => ?_)
              refine goes_ Try.func47 (by kernel_rfl) rfl #[.slice pc.A3 c.f3.length pc.c3] (by rfl) rfl rfl (by simp only [List.map_toArray, List.map_cons, List.map_nil] <;> rfl) ?_
              refine (slices_Clone_int pc.A3 pc.c3 c.f3 _ (HRC.out.s3.below I.out.BW) (by have := check_few HC.out; omega)).mono ?_
              rintro e w7 ⟨L7, d7, rfl, hR7, hb⟩
              refine ⟨_, rfl, ?_⟩
              have hR7 := Kd.R_lower hR7 HW5.out
              have J : Aside0 (BInv w2.heap.size gB E5 c5 ands5 f (.func (.func 44) #[] #[.pointer (some ⟨w.heap.size + 1 + 1, 0, none⟩)]) false _) := ⟨⟨blk_below J.out.BB hb, Kd.R_below J.out.RR hb⟩⟩
              first | (have R6 := Aside0.mk (Kd.R_below R6.out hb)) | skip
              first | (have R7_ := Aside0.mk (Kd.R_below R7_.out hb)) | skip
              first | (have R8 := Aside0.mk (Kd.R_below R8.out hb)) | skip
              first | (have G := Aside0.mk (blk_below G.out hb)) | skip
              have HW5 := Aside0.mk (Nat.le_trans HW5.out hb.size)
              have I := Aside0.mk (I.out.below hb (blk_lt I.out.B3))
              clear hb
              have q0 := (blk5w I.out.B0).1
              have R7_ := Aside0.mk hR7
              clear hR7
              refine hK.out _ _ ⟨q0.1, q0.2.1, q0.2.2.2.1, q0.2.2.2.2, (blk_cell J.out.BB 0).trans rfl⟩ (fun hHeld => ?_)
              clear hK K
              refine norm_ (a' := ?_) ?_ ?_
              rotate_left
              · show Act.put _ (some 84) _ = _
                simp only [Act.put, List.setIfInBounds_toArray, List.set_cons_zero, List.set_cons_succ]
                rfl
              clear q0
              refine one_ (i := 14) (N := some 87) #[true, true, true, true, true, true, true, true, true, true, true, true, true, true, true, false, true, false] rfl rfl (by kernel_rfl) (by decide) (fun K hK => ?_)
              refine goes_ Try.func47 (by kernel_rfl) rfl #[.slice pc.A4 c.f4.length pc.c4] (by rfl) rfl rfl (by simp only [List.map_toArray, List.map_cons, List.map_nil] <;> rfl) ?_
              refine (slices_Clone_int pc.A4 pc.c4 c.f4 _ (HRC.out.s4.below I.out.BW) (by have := check_few HC.out; omega)).mono ?_
              rintro e w8 ⟨L8, d8, rfl, hR8, hb⟩
              refine ⟨_, rfl, ?_⟩
              have hR8 := Kd.R_lower hR8 HW5.out
              have J : Aside0 (BInv w2.heap.size gB E5 c5 ands5 f (.func (.func 44) #[] #[.pointer (some ⟨w.heap.size + 1 + 1, 0, none⟩)]) false _) := ⟨⟨blk_below J.out.BB hb, Kd.R_below J.out.RR hb⟩⟩
              first | (have R6 := Aside0.mk (Kd.R_below R6.out hb)) | skip
              first | (have R7_ := Aside0.mk (Kd.R_below R7_.out hb)) | skip
              first | (have R8 := Aside0.mk (Kd.R_below R8.out hb)) | skip
              first | (have G := Aside0.mk (blk_below G.out hb)) | skip
              have HW5 := Aside0.mk (Nat.le_trans HW5.out hb.size)
              have I := Aside0.mk (I.out.below hb (blk_lt I.out.B3))
              clear hb
              have q0 := (blk5w I.out.B0).1
              have R8 := Aside0.mk hR8
              clear hR8
              refine hK.out _ _ ⟨q0.1, q0.2.1, q0.2.2.2.1, q0.2.2.2.2, (blk_cell J.out.BB 0).trans rfl⟩ (fun hHeld => ?_)
              clear hK K
              refine norm_ (a' := ?_) ?_ ?_
              rotate_left
              · show Act.put _ (some 87) _ = _
                simp only [Act.put, List.setIfInBounds_toArray, List.set_cons_zero, List.set_cons_succ]
                rfl
              clear q0
              refine pure_ (i := 15) (N := some 88) (v := ?_) (a' := ?_) #[true, true, true, true, true, true, true, true, true, true, true, true, true, true, true, true, true, false] rfl rfl (by kernel_rfl) (fun _ _ _ h => h) (Or.inl ⟨by rfl, ?_⟩) ?_ ?_
              rotate_left
              · intro w'
                go_simp
                with_reducible rfl
              rotate_left
              · simp only [Act.put, List.setIfInBounds_toArray, List.set_cons_zero, List.set_cons_succ]
                rfl
              refine norm_ ?_ (hcont ((L6, d6), (L7, d7), (L8, d8), (w5.drew).heap.size) _ ⟨I.out, J.out, ⟨R6.out, J.out.RR, R7_.out, R8.out⟩, G.out, HG8.out⟩)
              simp only [putAll, Act.put, List.setIfInBounds_toArray, List.set_cons_zero, List.set_cons_succ] <;> rfl
          case hcont =>
            rintro ⟨⟨L6, d6⟩, ⟨L7, d7⟩, ⟨L8, d8⟩, g8⟩ w8 ⟨i8, j8, o8, g8_, hs8⟩
            dsimp only at i8 j8 o8 g8_ hs8 ⊢
            have I8 := Aside0.mk i8
            have J8 := Aside0.mk j8
            have O8 := Aside0.mk o8
            have G8 := Aside0.mk g8_
            have HS8 := Aside0.mk hs8
            clear i8 j8 o8 g8_ hs8 I J hHeld
            refine norm_ (a' := ?_) ?_ ?_
            rotate_left
            · simp only [putAll, Act.put, List.setIfInBounds_toArray, List.set_cons_zero, List.set_cons_succ]
              rfl
            obtain ⟨⟨r0, r1, r2, r3, r4⟩, y0, y1, y2, y3, y4⟩ := blk5w G8.out
            refine one_ (i := 17) (N := none) #[true, true, true, true, true, true, true, true, true, true, true, true, true, true, true, true, true, true] rfl rfl (by kernel_rfl) (by decide) (fun K hK => ?_)
            refine skip_ (w1 := ?_) (by rfl) rfl ?_ ?_
            rotate_left
            · go_simp
              rfl
            have hB9 := below5 (Below.refl w2.heap.size w8) HS8.out (.int .i64 c.f0) (.slice L6 c.f1.length d6) (.slice E5 ands5.length c5) (.slice L7 c.f3.length d7) (.slice L8 c.f4.length d8)
            have hG9 := blk5_set G8.out (.int .i64 c.f0) (.slice L6 c.f1.length d6) (.slice E5 ands5.length c5) (.slice L7 c.f3.length d7) (.slice L8 c.f4.length d8)
            have O9 := Aside0.mk (O8.out.five G8.out (.int .i64 c.f0) (.slice L6 c.f1.length d6) (.slice E5 ands5.length c5) (.slice L7 c.f3.length d7) (.slice L8 c.f4.length d8))
            have J9 := Aside0.mk (far5 J8.out.BB (blk_ne J8.out.BB G8.out (by decide)) (.int .i64 c.f0) (.slice L6 c.f1.length d6) (.slice E5 ands5.length c5) (.slice L7 c.f3.length d7) (.slice L8 c.f4.length d8))
            have I9 := Aside0.mk (I8.out.below hB9 HS2.out)
            generalize (((((w8.setCell ⟨g8, 0, none⟩ (.int .i64 c.f0)).setCell ⟨g8, 1, none⟩ (.slice L6 c.f1.length d6)).setCell ⟨g8, 2, none⟩ (.slice E5 ands5.length c5)).setCell ⟨g8, 3, none⟩ (.slice L7 c.f3.length d7)).setCell ⟨g8, 4, none⟩ (.slice L8 c.f4.length d8)) = w9 at *
            have G9 := Aside0.mk hG9
            have q9 := (blk5w I9.out.B0).1
            clear hB9 hG9 y0 y1 y2 y3 y4 r0 r1 r2 r3 r4
            refine hK.out _ _ ⟨q9.1, q9.2.1, q9.2.2.2.1, q9.2.2.2.2, (blk_cell J9.out 0).trans rfl⟩ (fun hHeld => ?_)
            clear hK K
            refine done_ (by kernel_rfl) ?_
            clear q9
            obtain ⟨⟨r0, r1, r2, r3, r4⟩, z0, z1, z2, z3, z4⟩ := blk5w I9.out.B3
            obtain ⟨⟨q0, q1, q2, q3, q4⟩, _, _, _, _, _⟩ := blk5w G9.out
            go_wp2
            refine bodyPost_ret (results_ctt rfl _ _ (w.heap.size + 3) 29 #[.int .i64 c.f0, .slice L6 c.f1.length d6, .slice E5 ands5.length c5, .slice L7 c.f3.length d7, .slice L8 c.f4.length d8] (0, 0) _ rfl (blk5_set I9.out.B3 _ _ _ _ _) hu26 rfl (by kernel_rfl)) rfl ?_
            rw [HR4.out]
            exact ⟨⟨L6, d6, E5, c5, L7, d7, L8, d8⟩, rfl, (O9.out.five I9.out.B3 _ _ _ _ _).rc, below5 I9.out.BW (by omega) _ _ _ _ _⟩
/-- preds.Put. -/
theorem preds_Put (pc : CP) (c : Circ) (A : Option Addr) (k : Nat) (p : Pr) (B : Option Addr) (d : Nat) (l : List Int) (w : World) (h : RC w pc c) (hs : c.Fits) (hp : RS kGate w A k p.f0) (hpf : p.Fits) (hl : RS (Kd.int .i64) w B d l) (hli : ∀ x ∈ l, I64 x) :
    Calls Try.prog 14 #[cv pc c, pv A k p, .slice B l.length d] w fun e w' => RetC w w' (putC c p l) e := by
  by_cases hc : check c = 0
  · exact preds_Put_ok pc c A k p B d l w h hs hp hpf hl hli hc
  · have e1 : putC c p l = (zeroC, 0, check c) := by unfold putC; rw [if_pos hc]
    rw [e1]
    exact preds_Put_bad pc c A k p B d l w h hs hc
end Go.Proofs.Ytgcdanpihaeioaa.PH
