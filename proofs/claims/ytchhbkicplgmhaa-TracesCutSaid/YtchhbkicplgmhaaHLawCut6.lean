/- The law TracesCut: its function answers true. -/
import Derived.Test.YtchhbkicplgmhaaHCutP
import Derived.Test.YtchhbkicplgmhaaHArgs
namespace Go.Proofs.Ytchhbkicplgmhaa.PH
open Go.RowKit Go.Proofs.YtchhbkicplgmhaaW.PrintWords Go.Proofs.YtchhbkicplgmhaaW.PrintLast
set_option linter.unusedVariables false
set_option linter.unusedSimpArgs false

/-- The beginning of a row that is read. -/
theorem RS.take {α : Type} {d : Kd α} {w : World} {A : Option Addr} {c : Nat} {l : List α} (h : RS d w A c l) {n : Nat} (hn : n ≤ l.length) : RS d w A c (l.take n) := by
  have hl : (l.take n).length = n := by rw [List.length_take]; omega
  have hm := h.max
  have hh := h.h
  refine ⟨⟨rfl, by rw [hl]; omega, fun h0 => ?_⟩, by rw [hl]; omega⟩
  obtain ⟨ad, e, hc⟩ := h.r.2.2 (by omega)
  refine ⟨ad, e, fun j p hj => hc j p ?_⟩
  rw [List.getElem?_take] at hj
  split at hj
  · exact hj
  · cases hj
def preT (t : Run) (n : Nat) : Run := ⟨t.f0, t.f1.take n⟩
/-- Where the run is cut, or 0. -/
structure CutAt (c : Circ) (t : Run) (K : Nat) : Prop where
  le : K ≤ t.f1.length
  ct : cutC c t = if K = 0 then (⟨[], []⟩, 6) else (preT t K, 0)
  wt : ∀ m, 1 ≤ m → m ≤ t.f1.length → (K = 0 ∨ m ≤ K) → ∃ v, witC c (preT t m) = (v, if m = K then 0 else 57)
  ag : 0 < K → cutC c (preT t K) = (preT t K, 0)
theorem pre_frames (c : Circ) (t : Run) (n : Nat) : frames c (preT t n).f0 (preT t n).f1 = (frames c t.f0 t.f1).take n := frames_take c t.f1 t.f0 n
theorem wit_pre {c : Circ} {t : Run} (h : tCheck c t = 0) {m : Nat} (h1 : 1 ≤ m) (h2 : m ≤ t.f1.length) :
    (hitP (frames c t.f0 t.f1) m → ∃ v, witC c (preT t m) = (v, 0)) ∧ (¬ hitP (frames c t.f0 t.f1) m → ∃ v, witC c (preT t m) = (v, 57)) := by
  have hpc : tCheck c (preT t m) = 0 := pre_check h h1 h2
  have hfl : (frames c t.f0 t.f1).length = t.f1.length := frames_len _ _ _
  have hl : (preT t m).f1.length = m := by show (t.f1.take m).length = m; rw [List.length_take]; omega
  have hl2 : ((frames c t.f0 t.f1).take m).length = m := by rw [List.length_take]; omega
  have hs0 := wit_spec ((frames c t.f0 t.f1).take m) (by omega)
  have hs := And.intro hs0.1 hs0.2.1
  rw [hl2] at hs
  have hiff := hit_pre (F := frames c t.f0 t.f1) (n := m) (m := m) (by omega) (Nat.le_refl _)
  unfold witC
  rw [if_neg (by simp [hpc]), pre_frames, hl]
  constructor
  · intro hp
    have h3 := hs.1 (hiff.2 hp)
    rw [if_neg (by omega)]
    exact ⟨_, rfl⟩
  · intro hp
    have h3 := hs.2 (fun hx => hp (hiff.1 hx))
    rw [if_pos (by rw [h3]; decide)]
    exact ⟨_, rfl⟩
theorem cut_at {c : Circ} {t : Run} (h : tCheck c t = 0) : ∃ K, CutAt c t K := by
  have hfl : (frames c t.f0 t.f1).length = t.f1.length := frames_len _ _ _
  have hct : cutC c t = if cutN (walked (frames c t.f0 t.f1) goCut 0) = 0 then (⟨[], []⟩, 6) else (⟨t.f0, t.f1.take (cutN (walked (frames c t.f0 t.f1) goCut 0)).toNat⟩, 0) := by
    unfold cutC; rw [if_neg (by simp [h])]
  rcases cut_spec (frames c t.f0 t.f1) with ⟨h1, h2⟩ | ⟨K, h1, h2, h3⟩
  · refine ⟨0, ⟨Nat.zero_le _, ?_, fun m m1 m2 _ => ?_, fun h0 => absurd h0 (Nat.lt_irrefl _)⟩⟩
    · rw [hct, h1, if_pos rfl, if_pos rfl]
    · obtain ⟨v, hv⟩ := (wit_pre h m1 m2).2 (h2 m)
      exact ⟨v, by rw [hv, if_neg (by omega)]⟩
  · have hk1 := h2.1
    have hk2 : K ≤ t.f1.length := by have := h2.2.1; omega
    refine ⟨K, ⟨hk2, ?_, fun m m1 m2 hm => ?_, fun _ => ?_⟩⟩
    · rw [hct, h1, if_neg (by omega), if_neg (by omega), Int.toNat_natCast]
      rfl
    · by_cases e : m = K
      · subst e
        obtain ⟨v, hv⟩ := (wit_pre h m1 m2).1 h2
        exact ⟨v, by rw [hv, if_pos rfl]⟩
      · obtain ⟨v, hv⟩ := (wit_pre h m1 m2).2 (h3 m (by omega))
        exact ⟨v, by rw [hv, if_neg e]⟩
    · have hpc : tCheck c (preT t K) = 0 := pre_check h hk1 hk2
      have hcn : cutN (walked ((frames c t.f0 t.f1).take K) goCut 0) = (K : Int) := by
        rcases cut_spec ((frames c t.f0 t.f1).take K) with ⟨_, b2⟩ | ⟨K2, b1, b2, b3⟩
        · exact absurd ((hit_pre (by omega) (Nat.le_refl _)).2 h2) (b2 K)
        · have hl : ((frames c t.f0 t.f1).take K).length = K := by rw [List.length_take]; omega
          have hle : K2 ≤ K := by have := b2.2.1; omega
          have h4 := (hit_pre (by omega) hle).1 b2
          have h5 : ¬ K2 < K := fun hx => h3 K2 hx h4
          rw [b1, show K2 = K by omega]
      unfold cutC
      rw [if_neg (by simp [hpc]), pre_frames, hcn, if_neg (by omega), Int.toNat_natCast]
      show ((⟨t.f0, (t.f1.take K).take K⟩ : Run), (0 : Int)) = (preT t K, 0)
      rw [List.take_take, Nat.min_self]
      rfl
/-- The boxes, and the run that was cut. -/
structure LC (w : World) (pc : CP) (c : Circ) (q : TP) (t : Run) (gC : Nat) (qm : TP) (R : Run) (wr : World) : Prop where
  I : CkInv w pc c q t wr
  BO : wr.heap[gC]? = some (.cells #[.slice qm.A0 R.f0.length qm.c0, .slice qm.A1 R.f1.length qm.c1] 30 (0, 0))
  RM : RT wr qm R
theorem LC.below {w : World} {pc : CP} {c : Circ} {q : TP} {t : Run} {gC : Nat} {qm : TP} {R : Run} {wr w2 : World} (h : LC w pc c q t gC qm R wr) (hb : Below wr.heap.size wr w2) : LC w pc c q t gC qm R w2 := ⟨h.I.below hb, blk_below h.BO hb, h.RM.below hb⟩
set_option maxHeartbeats 16000000 in
set_option maxRecDepth 100000 in
theorem law_TracesCut (pc : CP) (c : Circ) (q : TP) (t : Run) (w : World) (hc : RC w pc c) (ht : RT w q t) (nc : c.Nums) (nt : (∀ b ∈ t.f0, True) ∧ ∀ r ∈ t.f1, ∀ b ∈ r, True) :
    Calls Try.prog 5 #[cv pc c, tv q t] w fun e w' => e = .returned (.bool true) ∧ Below w.heap.size w w' := by
  obtain ⟨A1, k1, A2, k2, A3, k3, A4, k4⟩ := pc
  obtain ⟨QA0, QC0, QA1, QC1⟩ := q
  have HR := Aside0.mk hc
  have HT := Aside0.mk ht
  have NC := Aside0.mk nc
  have I := Aside0.mk (CkInv.start w ⟨A1, k1, A2, k2, A3, k3, A4, k4⟩ c ⟨QA0, QC0, QA1, QC1⟩ t)
  have hu26 := Try.underlying26
  have hu30 := Try.underlying30
  obtain ⟨g0, g1, g2, g3, g4⟩ := (blk5w I.out.B0).1
  obtain ⟨u0, u1⟩ := (blk2t I.out.B1).1
  clear hc ht nc nt
  dsimp only [cv, tv] at *
  go_enter Try.func5, Try.ntmps5
  go_wp2_with fail
  refine (law06_fit ⟨A1, k1, A2, k2, A3, k3, A4, k4⟩ c ⟨QA0, QC0, QA1, QC1⟩ t _ (HR.out.below I.out.BW) NC.out (HT.out.below I.out.BW)).mono ?_
  rintro e w1 ⟨b, rfl, hfit, hb⟩
  have I := Aside0.mk (I.out.below hb)
  clear hb g0 g1 g2 g3 g4 u0 u1
  cases b with
  | false =>
    clear hfit
    go_wp2_with fail
    refine (law06_alive _).mono ?_
    rintro e wz ⟨rfl, hb⟩
    have B2 := Aside0.mk (I.out.BW.trans (hb.mono I.out.BW.size))
    clear hb
    go_wp2
    go_ret
    exact ⟨rfl, B2.out⟩
  | true =>
  have HFIT := Aside0.mk (hfit rfl)
  have FC := Aside0.mk (fits_of_nums NC.out HFIT.out.1)
  have HCK := Aside0.mk HFIT.out.2.2
  have HC := Aside0.mk (tCheck_ok HCK.out)
  obtain ⟨K, hK⟩ := cut_at HCK.out
  have HK := Aside0.mk hK
  have HCT := hK.ct
  obtain ⟨bd, _, _, e0, _, _⟩ := at_row HT.out.s1.r 0 HC.out.2.2.1
  cases e0
  obtain ⟨⟨R, er⟩, hre⟩ : ∃ r, (if K = 0 then ((⟨[], []⟩ : Run), (6 : Int)) else (preT t K, 0)) = r := ⟨_, rfl⟩
  rw [hre] at HCT
  have HRE := Aside0.mk hre
  have C1 := Aside0.mk (fun W (hb : Below w.heap.size w W) => show Calls Try.prog 25 #[cv ⟨A1, k1, A2, k2, A3, k3, A4, k4⟩ c, tv ⟨QA0, QC0, some bd, QC1⟩ t] W (fun e w' => RetTE W w' (R, er) e) from (HCT ▸ traces_Cut ⟨A1, k1, A2, k2, A3, k3, A4, k4⟩ c ⟨QA0, QC0, some bd, QC1⟩ t W (HR.out.below hb) FC.out (HT.out.below hb) : Calls Try.prog 25 #[cv ⟨A1, k1, A2, k2, A3, k3, A4, k4⟩ c, tv ⟨QA0, QC0, some bd, QC1⟩ t] W (fun e w' => RetTE W w' (R, er) e)))
  clear hfit hK HCT hre
  obtain ⟨g0, g1, g2, g3, g4⟩ := (blk5w I.out.B0).1
  obtain ⟨u0, u1⟩ := (blk2t I.out.B1).1
  go_wp2_with fail
  refine (C1.out _ I.out.BW).mono ?_
  rintro e w2 ⟨qc, rfl, hrc, hb⟩
  obtain ⟨RA0, RC0, RA1, RC1⟩ := qc
  have hx := below_alloc (Below.refl w2.heap.size w2) (.cells #[.slice RA0 R.f0.length RC0, .slice RA1 R.f1.length RC1] 30)
  have L := Aside0.mk (show LC w ⟨A1, k1, A2, k2, A3, k3, A4, k4⟩ c ⟨QA0, QC0, some bd, QC1⟩ t w2.heap.size ⟨RA0, RC0, RA1, RC1⟩ R (w2.alloc (.cells #[.slice RA0 R.f0.length RC0, .slice RA1 R.f1.length RC1] 30)) from ⟨(I.out.below hb).below hx, blk_new w2 _, hrc.below hx⟩)
  clear hb hx hrc I g0 g1 g2 g3 g4 u0 u1 C1
  have hcap0 := Aside0.mk HT.out.s1.h
  go_wp2
  generalize w2.alloc (.cells #[.slice RA0 R.f0.length RC0, .slice RA1 R.f1.length RC1] 30) = w3 at *
  generalize w2.heap.size = gC at *
  go_loopg [7, 8, 9, 10] (t.f1.length + 1) (fun gg s7 s8 s9 s10 wr => ∃ (m : Nat) (f : Nat), s7 = .int .i64 f ∧ s8 = .int .i64 m ∧ Aside0 (1 ≤ m ∧ m ≤ t.f1.length + 1 ∧ t.f1.length + 1 - m ≤ gg) ∧ Aside0 ((f = 0 ∧ (K = 0 ∨ m ≤ K)) ∨ (f = K ∧ 0 < K)) ∧ Aside0 (LC w ⟨A1, k1, A2, k2, A3, k3, A4, k4⟩ c ⟨QA0, QC0, some bd, QC1⟩ t gC ⟨RA0, RC0, RA1, RC1⟩ R wr))
  case atStart => exact ⟨1, 0, rfl, rfl, ⟨by omega, by omega, by omega⟩, ⟨Or.inl ⟨rfl, by omega⟩⟩, L⟩
  case round =>
    clear L
    obtain ⟨m, f, rfl, rfl, HX, HF, L⟩ := hrel
    by_cases hlt : m ≤ t.f1.length ∧ f = 0
    · obtain ⟨hle, rfl⟩ := hlt
      have HLE := Aside0.mk hle
      obtain ⟨v, hv⟩ := HK.out.wt m HX.out.1 hle (by have := HF.out; omega)
      have hpl : (preT t m).f1.length = m := by show (t.f1.take m).length = m; rw [List.length_take]; omega
      have ID := Aside0.mk (L.out.below (below_drew (Below.refl _ _)))
      have C2 := traces_Witness ⟨A1, k1, A2, k2, A3, k3, A4, k4⟩ c ⟨QA0, QC0, some bd, QC1⟩ (preT t m) (wr.drew) (HR.out.below ID.out.I.BW) FC.out ⟨(HT.out.below ID.out.I.BW).s0, (HT.out.below ID.out.I.BW).s1.take hle⟩
      dsimp only [tv, cv] at C2
      rw [show (preT t m).f0 = t.f0 from rfl, hpl, hv] at C2
      have C2 := Aside0.mk C2
      obtain ⟨g0, g1, g2, g3, g4⟩ := (blk5w L.out.I.B0).1
      obtain ⟨u0, u1⟩ := (blk2t L.out.I.B1).1
      have HSS : Aside0 ((fun w' => w'.cell? ⟨w.heap.size, 0, none⟩ = some (.int .i64 c.f0) ∧ w'.cell? ⟨w.heap.size, 1, none⟩ = some (.slice A1 c.f1.length k1) ∧ w'.cell? ⟨w.heap.size, 2, none⟩ = some (.slice A2 c.f2.length k2) ∧ w'.cell? ⟨w.heap.size, 3, none⟩ = some (.slice A3 c.f3.length k3) ∧ w'.cell? ⟨w.heap.size, 4, none⟩ = some (.slice A4 c.f4.length k4) ∧ w'.cell? ⟨w.heap.size + 1, 0, none⟩ = some (.slice QA0 t.f0.length QC0) ∧ w'.cell? ⟨w.heap.size + 1, 1, none⟩ = some (.slice (some bd) t.f1.length QC1)) wr) := ⟨⟨g0, g1, g2, g3, g4, u0, u1⟩⟩
      have hcap : m ≤ QC1 := Nat.le_trans hle hcap0.out
      have h1 : decide ((m : Int) ≤ (t.f1.length : Int)) = true := decide_eq_true (by omega)
      clear hv hpl
      go_wp2
      refine start_ (n := 14) (S := (fun w' => w'.cell? ⟨w.heap.size, 0, none⟩ = some (.int .i64 c.f0) ∧ w'.cell? ⟨w.heap.size, 1, none⟩ = some (.slice A1 c.f1.length k1) ∧ w'.cell? ⟨w.heap.size, 2, none⟩ = some (.slice A2 c.f2.length k2) ∧ w'.cell? ⟨w.heap.size, 3, none⟩ = some (.slice A3 c.f3.length k3) ∧ w'.cell? ⟨w.heap.size, 4, none⟩ = some (.slice A4 c.f4.length k4) ∧ w'.cell? ⟨w.heap.size + 1, 0, none⟩ = some (.slice QA0 t.f0.length QC0) ∧ w'.cell? ⟨w.heap.size + 1, 1, none⟩ = some (.slice (some bd) t.f1.length QC1))) (ds := []) #[false, false, false, false, false, false, false, false, false, false, false, false, false, false] (by kernel_rfl) rfl rfl HSS.out (fun hHeld => ?_)
      clear g0 g1 g2 g3 g4 u0 u1
      refine take_ (i := 0) (N := some 36) (v := ?_) (a' := ?_) #[true, false, false, false, false, false, false, false, false, false, false, false, false, false] rfl rfl (by kernel_rfl) (fun _ _ _ h => h) (Or.inl ⟨by rfl, ?_⟩) hHeld ?_ ?_
      rotate_left
      · rintro w' ⟨s0, s1, s2, s3, s4, s5, s6⟩
        go_simp
        with_reducible rfl
      rotate_left
      · simp only [Act.put, List.setIfInBounds_toArray, List.set_cons_zero, List.set_cons_succ]
        rfl
      refine pure_ (i := 1) (N := some 37) (v := ?_) (a' := ?_) #[true, true, false, false, false, false, false, false, false, false, false, false, false, false] rfl rfl (by kernel_rfl) (fun _ _ _ h => h) (Or.inl ⟨by rfl, ?_⟩) ?_ ?_
      rotate_left
      · intro w'
        go_simp
        with_reducible rfl
      rotate_left
      · simp only [Act.put, List.setIfInBounds_toArray, List.set_cons_zero, List.set_cons_succ]
        rfl
      refine take_ (i := 2) (N := some 38) (v := ?_) (a' := ?_) #[true, true, true, false, false, false, false, false, false, false, false, false, false, false] rfl rfl (by kernel_rfl) (fun _ _ _ h => h) (Or.inl ⟨by rfl, ?_⟩) hHeld ?_ ?_
      rotate_left
      · rintro w' ⟨s0, s1, s2, s3, s4, s5, s6⟩
        go_simp
        with_reducible rfl
      rotate_left
      · simp only [Act.put, List.setIfInBounds_toArray, List.set_cons_zero, List.set_cons_succ]
        rfl
      refine pure_ (i := 3) (N := some 39) (v := ?_) (a' := ?_) #[true, true, true, true, false, false, false, false, false, false, false, false, false, false] rfl rfl (by kernel_rfl) (fun _ _ _ h => h) (Or.inl ⟨by rfl, ?_⟩) ?_ ?_
      rotate_left
      · intro w'
        go_simp
        with_reducible rfl
      rotate_left
      · simp only [Act.put, List.setIfInBounds_toArray, List.set_cons_zero, List.set_cons_succ]
        rfl
      refine take_ (i := 4) (N := some 40) (v := ?_) (a' := ?_) #[true, true, true, true, true, false, false, false, false, false, false, false, false, false] rfl rfl (by kernel_rfl) (fun _ _ _ h => h) (Or.inl ⟨by rfl, ?_⟩) hHeld ?_ ?_
      rotate_left
      · rintro w' ⟨s0, s1, s2, s3, s4, s5, s6⟩
        go_simp
        with_reducible rfl
      rotate_left
      · simp only [Act.put, List.setIfInBounds_toArray, List.set_cons_zero, List.set_cons_succ]
        rfl
      refine pure_ (i := 5) (N := some 41) (v := ?_) (a' := ?_) #[true, true, true, true, true, true, false, false, false, false, false, false, false, false] rfl rfl (by kernel_rfl) (fun _ _ _ h => h) (Or.inl ⟨by rfl, ?_⟩) ?_ ?_
      rotate_left
      · intro w'
        go_simp
        with_reducible rfl
      rotate_left
      · simp only [Act.put, List.setIfInBounds_toArray, List.set_cons_zero, List.set_cons_succ]
        rfl
      refine pure_ (i := 6) (N := some 42) (v := ?_) (a' := ?_) #[true, true, true, true, true, true, true, false, false, false, false, false, false, false] rfl rfl (by kernel_rfl) (fun _ _ _ h => h) (Or.inl ⟨by rfl, ?_⟩) ?_ ?_
      rotate_left
      · intro w'
        go_simp
        with_reducible rfl
      rotate_left
      · simp only [Act.put, List.setIfInBounds_toArray, List.set_cons_zero, List.set_cons_succ]
        rfl
      refine one_ (i := 7) (N := some 43) #[true, true, true, true, true, true, true, true, false, false, false, false, false, false] rfl rfl (by kernel_rfl) (by decide) (fun K hK => ?_)
      refine value_ (w1 := ?_) (v := ?_) (by rfl) rfl ?_ ?_
      rotate_left 2
      · go_simp
        constructor
        · rfl
        · rfl
      refine hK.out _ _ HSS.out (fun hHeld => ?_)
      clear hK K
      refine norm_ (a' := ?_) ?_ ?_
      rotate_left
      · show Act.put _ (some 43) _ = _
        simp only [Act.put, List.setIfInBounds_toArray, List.set_cons_zero, List.set_cons_succ]
        rfl
      refine one_ (i := 8) (N := some 44) #[true, true, true, true, true, true, true, true, true, false, false, false, false, false] rfl rfl (by kernel_rfl) (by decide) (fun K hK => ?_)
      refine goes_ Try.func23 (by kernel_rfl) rfl #[.agg #[.int .i64 c.f0, .slice A1 c.f1.length k1, .slice A2 c.f2.length k2, .slice A3 c.f3.length k3, .slice A4 c.f4.length k4], .agg #[.slice QA0 t.f0.length QC0, .slice (some bd) m QC1]] (by rfl) rfl rfl (by simp only [List.map_toArray, List.map_cons, List.map_nil] <;> rfl) ?_
      refine C2.out.mono ?_
      rintro e w4 ⟨rfl, hb⟩
      refine ⟨_, rfl, ?_⟩
      have HB4 := Aside0.mk hb
      have L4 := Aside0.mk (ID.out.below hb)
      clear hb
      refine hK.out _ _ ⟨pw_cell_below HB4.out HSS.out.1, pw_cell_below HB4.out HSS.out.2.1, pw_cell_below HB4.out HSS.out.2.2.1, pw_cell_below HB4.out HSS.out.2.2.2.1, pw_cell_below HB4.out HSS.out.2.2.2.2.1, pw_cell_below HB4.out HSS.out.2.2.2.2.2.1, pw_cell_below HB4.out HSS.out.2.2.2.2.2.2⟩ (fun hHeld => ?_)
      clear hK K
      refine norm_ (a' := ?_) ?_ ?_
      rotate_left
      · show Act.put _ (some 44) _ = _
        simp only [Act.put, List.setIfInBounds_toArray, List.set_cons_zero, List.set_cons_succ]
        rfl
      refine pure_ (i := 9) (N := some 35) (v := ?_) (a' := ?_) #[true, true, true, true, true, true, true, true, true, true, false, false, false, false] rfl rfl (by kernel_rfl) (fun _ _ _ h => h) (Or.inl ⟨by rfl, ?_⟩) ?_ ?_
      rotate_left
      · intro w'
        go_simp
        with_reducible rfl
      rotate_left
      · simp only [Act.put, List.setIfInBounds_toArray, List.set_cons_zero, List.set_cons_succ]
        rfl
      refine pure_ (i := 10) (N := some 45) (v := ?_) (a' := ?_) #[true, true, true, true, true, true, true, true, true, true, true, false, false, false] rfl rfl (by kernel_rfl) (fun _ _ _ h => h) (Or.inl ⟨by rfl, ?_⟩) ?_ ?_
      rotate_left
      · intro w'
        go_simp
        with_reducible rfl
      rotate_left
      · simp only [Act.put, List.setIfInBounds_toArray, List.set_cons_zero, List.set_cons_succ]
        rfl
      refine pure_ (i := 11) (N := some 46) (v := ?_) (a' := ?_) #[true, true, true, true, true, true, true, true, true, true, true, true, false, false] rfl rfl (by kernel_rfl) (fun _ _ _ h => h) (Or.inl ⟨by rfl, ?_⟩) ?_ ?_
      rotate_left
      · intro w'
        go_simp
        with_reducible rfl
      rotate_left
      · simp only [Act.put, List.setIfInBounds_toArray, List.set_cons_zero, List.set_cons_succ]
        rfl
      refine pure_ (i := 12) (N := some 9) (v := ?_) (a' := ?_) #[true, true, true, true, true, true, true, true, true, true, true, true, true, false] rfl rfl (by kernel_rfl) (fun _ _ _ h => h) (Or.inl ⟨by rfl, ?_⟩) ?_ ?_
      rotate_left
      · intro w'
        go_simp
        with_reducible rfl
      rotate_left
      · simp only [Act.put, List.setIfInBounds_toArray, List.set_cons_zero, List.set_cons_succ]
        rfl
      refine pure_ (i := 13) (N := some 10) (v := ?_) (a' := ?_) #[true, true, true, true, true, true, true, true, true, true, true, true, true, true] rfl rfl (by kernel_rfl) (fun _ _ _ h => h) (Or.inl ⟨by rfl, ?_⟩) ?_ ?_
      rotate_left
      · intro w'
        go_simp
        with_reducible rfl
      rotate_left
      · simp only [Act.put, List.setIfInBounds_toArray, List.set_cons_zero, List.set_cons_succ]
        rfl
      refine done_ (by kernel_rfl) ?_
      clear HSS HB4 ID C2 L
      have hwi : wrap64 ((m : Int) + 1) = ((m + 1 : Nat) : Int) := (wrap_in (x := (m : Int) + 1) (by omega) (by have := HC.out.2.1; omega)).trans (by omega)
      have HWI := Aside0.mk hwi
      by_cases hmk : m = K
      · rw [if_pos hmk]
        clear hle hcap h1 hwi
        go_wp2
        go_roundg (t.f1.length + 1 - (m + 1))
        case measure => have := HX.out; have := HLE.out; omega
        case rel => exact ⟨m + 1, m, by first | rfl | rw [hmk], by first | rw [HWI.out] | rw [← hmk, HWI.out], ⟨by omega, by have := HLE.out; omega, by omega⟩, ⟨Or.inr ⟨hmk, by have := HX.out; omega⟩⟩, L4⟩
      · rw [if_neg hmk]
        clear hle hcap h1 hwi
        go_wp2
        go_roundg (t.f1.length + 1 - (m + 1))
        case measure => have := HX.out; have := HLE.out; omega
        case rel => exact ⟨m + 1, 0, rfl, by rw [HWI.out], ⟨by omega, by have := HLE.out; omega, by omega⟩, ⟨Or.inl ⟨rfl, by have := HF.out; omega⟩⟩, L4⟩
    · have hfk : f = K := by have := HF.out; have := HX.out; have := HK.out.le; omega
      subst hfk
      obtain ⟨u0, u1⟩ := (blk2t L.out.I.B1).1
      by_cases hk : f = 0
      · have hh := HRE.out
        rw [if_pos hk, Prod.mk.injEq] at hh
        obtain ⟨rfl, rfl⟩ := hh
        subst hk
        have hml : m = t.f1.length + 1 := by have := HX.out; omega
        have h1 : decide ((m : Int) ≤ (t.f1.length : Int)) = false := decide_eq_false (by omega)
        have h2 : decide (m ≤ t.f1.length) = false := decide_eq_false (by omega)
        obtain ⟨o0, o1⟩ := (blk2t L.out.BO).1
        clear hlt hml
        go_wp2_with fail
        refine (law06_alive _).mono ?_
        rintro e wz ⟨rfl, hb⟩
        have B2 := Aside0.mk (L.out.I.BW.trans (hb.mono L.out.I.BW.size))
        clear hb
        go_wp2
        go_ret
        exact ⟨rfl, B2.out⟩
      · have hh := HRE.out
        rw [if_neg hk, Prod.mk.injEq] at hh
        obtain ⟨rfl, rfl⟩ := hh
        have hf0 : 0 < f := by omega
        have hf0d : ((f : Int) == 0) = false := by rw [beq_eq_false_iff_ne]; omega
        have hag := HK.out.ag hf0
        have HP0 := Aside0.mk (show t.f0.length = (preT t f).f0.length from rfl)
        have HP1 := Aside0.mk (show f = (preT t f).f1.length by show f = (t.f1.take f).length; rw [List.length_take]; have := HK.out.le; omega)
        have HPR := Aside0.mk (show ∀ W, Below w.heap.size w W → RT W ⟨QA0, QC0, some bd, QC1⟩ (preT t f) from fun W hb => ⟨(HT.out.below hb).s0, (HT.out.below hb).s1.take HK.out.le⟩)
        have hcap : f ≤ QC1 := Nat.le_trans HK.out.le hcap0.out
        generalize preT t f = R at *
        have C3 := Aside0.mk (fun W (hb : Below w.heap.size w W) (hr : RT W ⟨RA0, RC0, RA1, RC1⟩ R) => show Calls Try.prog 25 #[cv ⟨A1, k1, A2, k2, A3, k3, A4, k4⟩ c, tv ⟨RA0, RC0, RA1, RC1⟩ R] W (fun e w' => RetTE W w' (R, 0) e) from hag ▸ traces_Cut ⟨A1, k1, A2, k2, A3, k3, A4, k4⟩ c ⟨RA0, RC0, RA1, RC1⟩ R W (HR.out.below hb) FC.out hr)
        have C4 := Aside0.mk (fun W (hb : Below w.heap.size w W) (hr : RT W ⟨RA0, RC0, RA1, RC1⟩ R) => show Calls Try.prog 22 #[tv ⟨RA0, RC0, RA1, RC1⟩ R, .agg #[.slice QA0 t.f0.length QC0, .slice (some bd) f QC1]] W (fun e w' => e = .returned (.bool true) ∧ Below W.heap.size W w') from by
          have h_ := ref06_Same ⟨RA0, RC0, RA1, RC1⟩ R ⟨QA0, QC0, some bd, QC1⟩ R W hr (HPR.out W hb)
          rw [decide_eq_true (rfl : R = R)] at h_
          dsimp only [tv] at h_ ⊢
          rw [HP0.out]
          rw [← HP1.out] at h_ ⊢
          exact h_)
        obtain ⟨g0, g1, g2, g3, g4⟩ := (blk5w L.out.I.B0).1
        obtain ⟨o0, o1⟩ := (blk2t L.out.BO).1
        clear hag
        dsimp only [cv, tv] at C3 C4
        by_cases hm2 : m ≤ t.f1.length
        · have hm1 : decide ((m : Int) ≤ (t.f1.length : Int)) = true := decide_eq_true (by omega)
          go_wp2_with fail
          refine (C3.out _ L.out.I.BW L.out.RM).mono ?_
          rintro e w5 ⟨qd, rfl, hrd, hb⟩
          obtain ⟨DA0, DC0, DA1, DC1⟩ := qd
          have hx := below_alloc (Below.refl w5.heap.size w5) (.cells #[.slice DA0 R.f0.length DC0, .slice DA1 R.f1.length DC1] 30)
          have L5 := Aside0.mk ((L.out.below hb).below hx)
          have BD := Aside0.mk (blk_new w5 (.cells #[.slice DA0 R.f0.length DC0, .slice DA1 R.f1.length DC1] 30))
          have RD := Aside0.mk (hrd.below hx)
          clear hb hx hrd g0 g1 g2 g3 g4 o0 o1 u0 u1 C3
          obtain ⟨u0, u1⟩ := (blk2t L5.out.I.B1).1
          obtain ⟨o0, o1⟩ := (blk2t L5.out.BO).1
          obtain ⟨d0, d1⟩ := (blk2t BD.out).1
          go_wp2
          generalize w5.alloc (.cells #[.slice DA0 R.f0.length DC0, .slice DA1 R.f1.length DC1] 30) = w6 at *
          generalize w5.heap.size = gD at *
          have HSS : Aside0 ((fun w' => w'.cell? ⟨w.heap.size + 1, 0, none⟩ = some (.slice QA0 t.f0.length QC0) ∧ w'.cell? ⟨w.heap.size + 1, 1, none⟩ = some (.slice (some bd) t.f1.length QC1) ∧ w'.cell? ⟨gC, 0, none⟩ = some (.slice RA0 R.f0.length RC0) ∧ w'.cell? ⟨gC, 1, none⟩ = some (.slice RA1 R.f1.length RC1) ∧ w'.cell? ⟨gD, 0, none⟩ = some (.slice DA0 R.f0.length DC0) ∧ w'.cell? ⟨gD, 1, none⟩ = some (.slice DA1 R.f1.length DC1)) w6) := ⟨⟨u0, u1, o0, o1, d0, d1⟩⟩
          have L6 := Aside0.mk (L5.out.below (below_drew (Below.refl _ _)))
          have RD6 := Aside0.mk (RD.out.below (below_drew (Below.refl _ _)))
          clear hf0d hlt HP0 HP1 hm1 hm2
          refine start_ (n := 26) (S := (fun w' => w'.cell? ⟨w.heap.size + 1, 0, none⟩ = some (.slice QA0 t.f0.length QC0) ∧ w'.cell? ⟨w.heap.size + 1, 1, none⟩ = some (.slice (some bd) t.f1.length QC1) ∧ w'.cell? ⟨gC, 0, none⟩ = some (.slice RA0 R.f0.length RC0) ∧ w'.cell? ⟨gC, 1, none⟩ = some (.slice RA1 R.f1.length RC1) ∧ w'.cell? ⟨gD, 0, none⟩ = some (.slice DA0 R.f0.length DC0) ∧ w'.cell? ⟨gD, 1, none⟩ = some (.slice DA1 R.f1.length DC1))) (ds := []) #[false, false, false, false, false, false, false, false, false, false, false, false, false, false, false, false, false, false, false, false, false, false, false, false, false, false] (by kernel_rfl) rfl rfl HSS.out (fun hHeld => ?_)
          clear u0 u1 o0 o1 d0 d1
          refine pure_ (i := 0) (N := some 71) (v := ?_) (a' := ?_) #[true, false, false, false, false, false, false, false, false, false, false, false, false, false, false, false, false, false, false, false, false, false, false, false, false, false] rfl rfl (by kernel_rfl) (fun _ _ _ h => h) (Or.inl ⟨by rfl, ?_⟩) ?_ ?_
          rotate_left
          · intro w'
            go_simp
            with_reducible rfl
          rotate_left
          · simp only [Act.put, List.setIfInBounds_toArray, List.set_cons_zero, List.set_cons_succ]
            rfl
          refine pure_ (i := 1) (N := some 72) (v := ?_) (a' := ?_) #[true, true, false, false, false, false, false, false, false, false, false, false, false, false, false, false, false, false, false, false, false, false, false, false, false, false] rfl rfl (by kernel_rfl) (fun _ _ _ h => h) (Or.inl ⟨by rfl, ?_⟩) ?_ ?_
          rotate_left
          · intro w'
            go_simp
            with_reducible rfl
          rotate_left
          · simp only [Act.put, List.setIfInBounds_toArray, List.set_cons_zero, List.set_cons_succ]
            rfl
          refine pure_ (i := 2) (N := some 73) (v := ?_) (a' := ?_) #[true, true, true, false, false, false, false, false, false, false, false, false, false, false, false, false, false, false, false, false, false, false, false, false, false, false] rfl rfl (by kernel_rfl) (fun _ _ _ h => h) (Or.inl ⟨by rfl, ?_⟩) ?_ ?_
          rotate_left
          · intro w'
            go_simp
            with_reducible rfl
          rotate_left
          · simp only [Act.put, List.setIfInBounds_toArray, List.set_cons_zero, List.set_cons_succ]
            rfl
          refine take_ (i := 3) (N := some 74) (v := ?_) (a' := ?_) #[true, true, true, true, false, false, false, false, false, false, false, false, false, false, false, false, false, false, false, false, false, false, false, false, false, false] rfl rfl (by kernel_rfl) (fun _ _ _ h => h) (Or.inl ⟨by rfl, ?_⟩) hHeld ?_ ?_
          rotate_left
          · rintro w' ⟨s0, s1, s2, s3, s4, s5⟩
            go_simp
            with_reducible rfl
          rotate_left
          · simp only [Act.put, List.setIfInBounds_toArray, List.set_cons_zero, List.set_cons_succ]
            rfl
          refine pure_ (i := 4) (N := some 75) (v := ?_) (a' := ?_) #[true, true, true, true, true, false, false, false, false, false, false, false, false, false, false, false, false, false, false, false, false, false, false, false, false, false] rfl rfl (by kernel_rfl) (fun _ _ _ h => h) (Or.inl ⟨by rfl, ?_⟩) ?_ ?_
          rotate_left
          · intro w'
            go_simp
            with_reducible rfl
          rotate_left
          · simp only [Act.put, List.setIfInBounds_toArray, List.set_cons_zero, List.set_cons_succ]
            rfl
          refine take_ (i := 5) (N := some 76) (v := ?_) (a' := ?_) #[true, true, true, true, true, true, false, false, false, false, false, false, false, false, false, false, false, false, false, false, false, false, false, false, false, false] rfl rfl (by kernel_rfl) (fun _ _ _ h => h) (Or.inl ⟨by rfl, ?_⟩) hHeld ?_ ?_
          rotate_left
          · rintro w' ⟨s0, s1, s2, s3, s4, s5⟩
            go_simp
            with_reducible rfl
          rotate_left
          · simp only [Act.put, List.setIfInBounds_toArray, List.set_cons_zero, List.set_cons_succ]
            rfl
          refine pure_ (i := 6) (N := some 77) (v := ?_) (a' := ?_) #[true, true, true, true, true, true, true, false, false, false, false, false, false, false, false, false, false, false, false, false, false, false, false, false, false, false] rfl rfl (by kernel_rfl) (fun _ _ _ h => h) (Or.inl ⟨by rfl, ?_⟩) ?_ ?_
          rotate_left
          · intro w'
            go_simp
            with_reducible rfl
          rotate_left
          · simp only [Act.put, List.setIfInBounds_toArray, List.set_cons_zero, List.set_cons_succ]
            rfl
          refine take_ (i := 7) (N := some 78) (v := ?_) (a' := ?_) #[true, true, true, true, true, true, true, true, false, false, false, false, false, false, false, false, false, false, false, false, false, false, false, false, false, false] rfl rfl (by kernel_rfl) (fun _ _ _ h => h) (Or.inl ⟨by rfl, ?_⟩) hHeld ?_ ?_
          rotate_left
          · rintro w' ⟨s0, s1, s2, s3, s4, s5⟩
            go_simp
            with_reducible rfl
          rotate_left
          · simp only [Act.put, List.setIfInBounds_toArray, List.set_cons_zero, List.set_cons_succ]
            rfl
          refine pure_ (i := 8) (N := some 79) (v := ?_) (a' := ?_) #[true, true, true, true, true, true, true, true, true, false, false, false, false, false, false, false, false, false, false, false, false, false, false, false, false, false] rfl rfl (by kernel_rfl) (fun _ _ _ h => h) (Or.inl ⟨by rfl, ?_⟩) ?_ ?_
          rotate_left
          · intro w'
            go_simp
            with_reducible rfl
          rotate_left
          · simp only [Act.put, List.setIfInBounds_toArray, List.set_cons_zero, List.set_cons_succ]
            rfl
          refine pure_ (i := 9) (N := some 80) (v := ?_) (a' := ?_) #[true, true, true, true, true, true, true, true, true, true, false, false, false, false, false, false, false, false, false, false, false, false, false, false, false, false] rfl rfl (by kernel_rfl) (fun _ _ _ h => h) (Or.inl ⟨by rfl, ?_⟩) ?_ ?_
          rotate_left
          · intro w'
            go_simp
            with_reducible rfl
          rotate_left
          · simp only [Act.put, List.setIfInBounds_toArray, List.set_cons_zero, List.set_cons_succ]
            rfl
          refine one_ (i := 10) (N := some 81) #[true, true, true, true, true, true, true, true, true, true, true, false, false, false, false, false, false, false, false, false, false, false, false, false, false, false] rfl rfl (by kernel_rfl) (by decide) (fun K hK => ?_)
          refine value_ (w1 := ?_) (v := ?_) (by rfl) rfl ?_ ?_
          rotate_left 2
          · go_simp
            constructor
            · rfl
            · rfl
          refine hK.out _ _ HSS.out (fun hHeld => ?_)
          clear hK K
          refine norm_ (a' := ?_) ?_ ?_
          rotate_left
          · show Act.put _ (some 81) _ = _
            simp only [Act.put, List.setIfInBounds_toArray, List.set_cons_zero, List.set_cons_succ]
            rfl
          refine one_ (i := 11) (N := some 82) #[true, true, true, true, true, true, true, true, true, true, true, true, false, false, false, false, false, false, false, false, false, false, false, false, false, false] rfl rfl (by kernel_rfl) (by decide) (fun K hK => ?_)
          refine goes_ Try.func22 (by kernel_rfl) rfl #[.agg #[.slice RA0 R.f0.length RC0, .slice RA1 R.f1.length RC1], .agg #[.slice QA0 t.f0.length QC0, .slice (some bd) f QC1]] (by rfl) rfl rfl (by simp only [List.map_toArray, List.map_cons, List.map_nil] <;> rfl) ?_
          refine (C4.out _ L6.out.I.BW L6.out.RM).mono ?_
          rintro e w7 ⟨rfl, hb⟩
          refine ⟨_, rfl, ?_⟩
          have HB7 := Aside0.mk hb
          have L7 := Aside0.mk (L6.out.below hb)
          have RD7 := Aside0.mk (RD6.out.below hb)
          clear hb C4
          refine hK.out _ _ ⟨pw_cell_below HB7.out HSS.out.1, pw_cell_below HB7.out HSS.out.2.1, pw_cell_below HB7.out HSS.out.2.2.1, pw_cell_below HB7.out HSS.out.2.2.2.1, pw_cell_below HB7.out HSS.out.2.2.2.2.1, pw_cell_below HB7.out HSS.out.2.2.2.2.2⟩ (fun hHeld => ?_)
          clear hK K
          refine norm_ (a' := ?_) ?_ ?_
          rotate_left
          · show Act.put _ (some 82) _ = _
            simp only [Act.put, List.setIfInBounds_toArray, List.set_cons_zero, List.set_cons_succ]
            rfl
          have HS7 : Aside0 ((fun w' => w'.cell? ⟨w.heap.size + 1, 0, none⟩ = some (.slice QA0 t.f0.length QC0) ∧ w'.cell? ⟨w.heap.size + 1, 1, none⟩ = some (.slice (some bd) t.f1.length QC1) ∧ w'.cell? ⟨gC, 0, none⟩ = some (.slice RA0 R.f0.length RC0) ∧ w'.cell? ⟨gC, 1, none⟩ = some (.slice RA1 R.f1.length RC1) ∧ w'.cell? ⟨gD, 0, none⟩ = some (.slice DA0 R.f0.length DC0) ∧ w'.cell? ⟨gD, 1, none⟩ = some (.slice DA1 R.f1.length DC1)) w7) := ⟨⟨pw_cell_below HB7.out HSS.out.1, pw_cell_below HB7.out HSS.out.2.1, pw_cell_below HB7.out HSS.out.2.2.1, pw_cell_below HB7.out HSS.out.2.2.2.1, pw_cell_below HB7.out HSS.out.2.2.2.2.1, pw_cell_below HB7.out HSS.out.2.2.2.2.2⟩⟩
          refine pure_ (i := 12) (N := some 83) (v := ?_) (a' := ?_) #[true, true, true, true, true, true, true, true, true, true, true, true, true, false, false, false, false, false, false, false, false, false, false, false, false, false] rfl rfl (by kernel_rfl) (fun _ _ _ h => h) (Or.inl ⟨by rfl, ?_⟩) ?_ ?_
          rotate_left
          · intro w'
            go_simp
            with_reducible rfl
          rotate_left
          · simp only [Act.put, List.setIfInBounds_toArray, List.set_cons_zero, List.set_cons_succ]
            rfl
          refine pure_ (i := 13) (N := some 84) (v := ?_) (a' := ?_) #[true, true, true, true, true, true, true, true, true, true, true, true, true, true, false, false, false, false, false, false, false, false, false, false, false, false] rfl rfl (by kernel_rfl) (fun _ _ _ h => h) (Or.inl ⟨by rfl, ?_⟩) ?_ ?_
          rotate_left
          · intro w'
            go_simp
            with_reducible rfl
          rotate_left
          · simp only [Act.put, List.setIfInBounds_toArray, List.set_cons_zero, List.set_cons_succ]
            rfl
          refine pure_ (i := 14) (N := some 85) (v := ?_) (a' := ?_) #[true, true, true, true, true, true, true, true, true, true, true, true, true, true, true, false, false, false, false, false, false, false, false, false, false, false] rfl rfl (by kernel_rfl) (fun _ _ _ h => h) (Or.inl ⟨by rfl, ?_⟩) ?_ ?_
          rotate_left
          · intro w'
            go_simp
            with_reducible rfl
          rotate_left
          · simp only [Act.put, List.setIfInBounds_toArray, List.set_cons_zero, List.set_cons_succ]
            rfl
          refine pure_ (i := 15) (N := some 86) (v := ?_) (a' := ?_) #[true, true, true, true, true, true, true, true, true, true, true, true, true, true, true, true, false, false, false, false, false, false, false, false, false, false] rfl rfl (by kernel_rfl) (fun _ _ _ h => h) (Or.inl ⟨by rfl, ?_⟩) ?_ ?_
          rotate_left
          · intro w'
            go_simp
            with_reducible rfl
          rotate_left
          · simp only [Act.put, List.setIfInBounds_toArray, List.set_cons_zero, List.set_cons_succ]
            rfl
          refine pure_ (i := 16) (N := some 87) (v := ?_) (a' := ?_) #[true, true, true, true, true, true, true, true, true, true, true, true, true, true, true, true, true, false, false, false, false, false, false, false, false, false] rfl rfl (by kernel_rfl) (fun _ _ _ h => h) (Or.inl ⟨by rfl, ?_⟩) ?_ ?_
          rotate_left
          · intro w'
            go_simp
            with_reducible rfl
          rotate_left
          · simp only [Act.put, List.setIfInBounds_toArray, List.set_cons_zero, List.set_cons_succ]
            rfl
          refine pure_ (i := 17) (N := some 88) (v := ?_) (a' := ?_) #[true, true, true, true, true, true, true, true, true, true, true, true, true, true, true, true, true, true, false, false, false, false, false, false, false, false] rfl rfl (by kernel_rfl) (fun _ _ _ h => h) (Or.inl ⟨by rfl, ?_⟩) ?_ ?_
          rotate_left
          · intro w'
            go_simp
            with_reducible rfl
          rotate_left
          · simp only [Act.put, List.setIfInBounds_toArray, List.set_cons_zero, List.set_cons_succ]
            rfl
          refine take_ (i := 18) (N := some 89) (v := ?_) (a' := ?_) #[true, true, true, true, true, true, true, true, true, true, true, true, true, true, true, true, true, true, true, false, false, false, false, false, false, false] rfl rfl (by kernel_rfl) (fun _ _ _ h => h) (Or.inl ⟨by rfl, ?_⟩) hHeld ?_ ?_
          rotate_left
          · rintro w' ⟨s0, s1, s2, s3, s4, s5⟩
            go_simp
            with_reducible rfl
          rotate_left
          · simp only [Act.put, List.setIfInBounds_toArray, List.set_cons_zero, List.set_cons_succ]
            rfl
          refine take_ (i := 19) (N := some 90) (v := ?_) (a' := ?_) #[true, true, true, true, true, true, true, true, true, true, true, true, true, true, true, true, true, true, true, true, false, false, false, false, false, false] rfl rfl (by kernel_rfl) (fun _ _ _ h => h) (Or.inl ⟨by rfl, ?_⟩) hHeld ?_ ?_
          rotate_left
          · rintro w' ⟨s0, s1, s2, s3, s4, s5⟩
            go_simp
            with_reducible rfl
          rotate_left
          · simp only [Act.put, List.setIfInBounds_toArray, List.set_cons_zero, List.set_cons_succ]
            rfl
          refine one_ (i := 20) (N := some 91) #[true, true, true, true, true, true, true, true, true, true, true, true, true, true, true, true, true, true, true, true, true, false, false, false, false, false] rfl rfl (by kernel_rfl) (by decide) (fun K hK => ?_)
          refine goes_ Try.func22 (by kernel_rfl) rfl #[.agg #[.slice DA0 R.f0.length DC0, .slice DA1 R.f1.length DC1], .agg #[.slice RA0 R.f0.length RC0, .slice RA1 R.f1.length RC1]] (by rfl) rfl rfl (by simp only [List.map_toArray, List.map_cons, List.map_nil] <;> rfl) ?_
          refine (ref06_Same ⟨DA0, DC0, DA1, DC1⟩ R ⟨RA0, RC0, RA1, RC1⟩ R _ RD7.out L7.out.RM).mono ?_
          rintro e w8 ⟨rfl, hb⟩
          rw [decide_eq_true (rfl : R = R)]
          refine ⟨_, rfl, ?_⟩
          have HB8 := Aside0.mk hb
          have L8 := Aside0.mk (L7.out.below hb)
          clear hb
          refine hK.out _ _ ⟨pw_cell_below HB8.out HS7.out.1, pw_cell_below HB8.out HS7.out.2.1, pw_cell_below HB8.out HS7.out.2.2.1, pw_cell_below HB8.out HS7.out.2.2.2.1, pw_cell_below HB8.out HS7.out.2.2.2.2.1, pw_cell_below HB8.out HS7.out.2.2.2.2.2⟩ (fun hHeld => ?_)
          clear hK K
          refine norm_ (a' := ?_) ?_ ?_
          rotate_left
          · show Act.put _ (some 91) _ = _
            simp only [Act.put, List.setIfInBounds_toArray, List.set_cons_zero, List.set_cons_succ]
            rfl
          have HS8 : Aside0 ((fun w' => w'.cell? ⟨w.heap.size + 1, 0, none⟩ = some (.slice QA0 t.f0.length QC0) ∧ w'.cell? ⟨w.heap.size + 1, 1, none⟩ = some (.slice (some bd) t.f1.length QC1) ∧ w'.cell? ⟨gC, 0, none⟩ = some (.slice RA0 R.f0.length RC0) ∧ w'.cell? ⟨gC, 1, none⟩ = some (.slice RA1 R.f1.length RC1) ∧ w'.cell? ⟨gD, 0, none⟩ = some (.slice DA0 R.f0.length DC0) ∧ w'.cell? ⟨gD, 1, none⟩ = some (.slice DA1 R.f1.length DC1)) w8) := ⟨⟨pw_cell_below HB8.out HS7.out.1, pw_cell_below HB8.out HS7.out.2.1, pw_cell_below HB8.out HS7.out.2.2.1, pw_cell_below HB8.out HS7.out.2.2.2.1, pw_cell_below HB8.out HS7.out.2.2.2.2.1, pw_cell_below HB8.out HS7.out.2.2.2.2.2⟩⟩
          refine pure_ (i := 21) (N := some 92) (v := ?_) (a' := ?_) #[true, true, true, true, true, true, true, true, true, true, true, true, true, true, true, true, true, true, true, true, true, true, false, false, false, false] rfl rfl (by kernel_rfl) (fun _ _ _ h => h) (Or.inl ⟨by rfl, ?_⟩) ?_ ?_
          rotate_left
          · intro w'
            go_simp
            with_reducible rfl
          rotate_left
          · simp only [Act.put, List.setIfInBounds_toArray, List.set_cons_zero, List.set_cons_succ]
            rfl
          refine pure_ (i := 22) (N := some 93) (v := ?_) (a' := ?_) #[true, true, true, true, true, true, true, true, true, true, true, true, true, true, true, true, true, true, true, true, true, true, true, false, false, false] rfl rfl (by kernel_rfl) (fun _ _ _ h => h) (Or.inl ⟨by rfl, ?_⟩) ?_ ?_
          rotate_left
          · intro w'
            go_simp
            with_reducible rfl
          rotate_left
          · simp only [Act.put, List.setIfInBounds_toArray, List.set_cons_zero, List.set_cons_succ]
            rfl
          refine one_ (i := 23) (N := some 94) #[true, true, true, true, true, true, true, true, true, true, true, true, true, true, true, true, true, true, true, true, true, true, true, true, false, false] rfl rfl (by kernel_rfl) (by decide) (fun K hK => ?_)
          refine goes_ Try.func28 (by kernel_rfl) rfl #[] (by rfl) rfl rfl (by simp only [List.map_toArray, List.map_cons, List.map_nil] <;> rfl) ?_
          refine (law06_alive _).mono ?_
          rintro e w9 ⟨rfl, hb⟩
          refine ⟨_, rfl, ?_⟩
          have HB9 := Aside0.mk hb
          have B9 := Aside0.mk (L8.out.I.BW.trans (hb.mono L8.out.I.BW.size))
          clear hb
          refine hK.out _ _ ⟨pw_cell_below HB9.out HS8.out.1, pw_cell_below HB9.out HS8.out.2.1, pw_cell_below HB9.out HS8.out.2.2.1, pw_cell_below HB9.out HS8.out.2.2.2.1, pw_cell_below HB9.out HS8.out.2.2.2.2.1, pw_cell_below HB9.out HS8.out.2.2.2.2.2⟩ (fun hHeld => ?_)
          clear hK K
          refine norm_ (a' := ?_) ?_ ?_
          rotate_left
          · show Act.put _ (some 94) _ = _
            simp only [Act.put, List.setIfInBounds_toArray, List.set_cons_zero, List.set_cons_succ]
            rfl
          refine pure_ (i := 24) (N := some 95) (v := ?_) (a' := ?_) #[true, true, true, true, true, true, true, true, true, true, true, true, true, true, true, true, true, true, true, true, true, true, true, true, true, false] rfl rfl (by kernel_rfl) (fun _ _ _ h => h) (Or.inl ⟨by rfl, ?_⟩) ?_ ?_
          rotate_left
          · intro w'
            go_simp
            with_reducible rfl
          rotate_left
          · simp only [Act.put, List.setIfInBounds_toArray, List.set_cons_zero, List.set_cons_succ]
            rfl
          refine pure_ (i := 25) (N := some 4) (v := ?_) (a' := ?_) #[true, true, true, true, true, true, true, true, true, true, true, true, true, true, true, true, true, true, true, true, true, true, true, true, true, true] rfl rfl (by kernel_rfl) (fun _ _ _ h => h) (Or.inl ⟨by rfl, ?_⟩) ?_ ?_
          rotate_left
          · intro w'
            go_simp
            with_reducible rfl
          rotate_left
          · simp only [Act.put, List.setIfInBounds_toArray, List.set_cons_zero, List.set_cons_succ]
            rfl
          refine done_ (by kernel_rfl) ?_
          go_wp2
          go_ret
          exact ⟨rfl, B9.out⟩
        · have hm1 : decide ((m : Int) ≤ (t.f1.length : Int)) = false := decide_eq_false (by omega)
          go_wp2_with fail
          refine (C3.out _ L.out.I.BW L.out.RM).mono ?_
          rintro e w5 ⟨qd, rfl, hrd, hb⟩
          obtain ⟨DA0, DC0, DA1, DC1⟩ := qd
          have hx := below_alloc (Below.refl w5.heap.size w5) (.cells #[.slice DA0 R.f0.length DC0, .slice DA1 R.f1.length DC1] 30)
          have L5 := Aside0.mk ((L.out.below hb).below hx)
          have BD := Aside0.mk (blk_new w5 (.cells #[.slice DA0 R.f0.length DC0, .slice DA1 R.f1.length DC1] 30))
          have RD := Aside0.mk (hrd.below hx)
          clear hb hx hrd g0 g1 g2 g3 g4 o0 o1 u0 u1 C3
          obtain ⟨u0, u1⟩ := (blk2t L5.out.I.B1).1
          obtain ⟨o0, o1⟩ := (blk2t L5.out.BO).1
          obtain ⟨d0, d1⟩ := (blk2t BD.out).1
          go_wp2
          generalize w5.alloc (.cells #[.slice DA0 R.f0.length DC0, .slice DA1 R.f1.length DC1] 30) = w6 at *
          generalize w5.heap.size = gD at *
          have HSS : Aside0 ((fun w' => w'.cell? ⟨w.heap.size + 1, 0, none⟩ = some (.slice QA0 t.f0.length QC0) ∧ w'.cell? ⟨w.heap.size + 1, 1, none⟩ = some (.slice (some bd) t.f1.length QC1) ∧ w'.cell? ⟨gC, 0, none⟩ = some (.slice RA0 R.f0.length RC0) ∧ w'.cell? ⟨gC, 1, none⟩ = some (.slice RA1 R.f1.length RC1) ∧ w'.cell? ⟨gD, 0, none⟩ = some (.slice DA0 R.f0.length DC0) ∧ w'.cell? ⟨gD, 1, none⟩ = some (.slice DA1 R.f1.length DC1)) w6) := ⟨⟨u0, u1, o0, o1, d0, d1⟩⟩
          have L6 := Aside0.mk (L5.out.below (below_drew (Below.refl _ _)))
          have RD6 := Aside0.mk (RD.out.below (below_drew (Below.refl _ _)))
          clear hf0d hlt HP0 HP1 hm1 hm2
          refine start_ (n := 26) (S := (fun w' => w'.cell? ⟨w.heap.size + 1, 0, none⟩ = some (.slice QA0 t.f0.length QC0) ∧ w'.cell? ⟨w.heap.size + 1, 1, none⟩ = some (.slice (some bd) t.f1.length QC1) ∧ w'.cell? ⟨gC, 0, none⟩ = some (.slice RA0 R.f0.length RC0) ∧ w'.cell? ⟨gC, 1, none⟩ = some (.slice RA1 R.f1.length RC1) ∧ w'.cell? ⟨gD, 0, none⟩ = some (.slice DA0 R.f0.length DC0) ∧ w'.cell? ⟨gD, 1, none⟩ = some (.slice DA1 R.f1.length DC1))) (ds := []) #[false, false, false, false, false, false, false, false, false, false, false, false, false, false, false, false, false, false, false, false, false, false, false, false, false, false] (by kernel_rfl) rfl rfl HSS.out (fun hHeld => ?_)
          clear u0 u1 o0 o1 d0 d1
          refine pure_ (i := 0) (N := some 71) (v := ?_) (a' := ?_) #[true, false, false, false, false, false, false, false, false, false, false, false, false, false, false, false, false, false, false, false, false, false, false, false, false, false] rfl rfl (by kernel_rfl) (fun _ _ _ h => h) (Or.inl ⟨by rfl, ?_⟩) ?_ ?_
          rotate_left
          · intro w'
            go_simp
            with_reducible rfl
          rotate_left
          · simp only [Act.put, List.setIfInBounds_toArray, List.set_cons_zero, List.set_cons_succ]
            rfl
          refine pure_ (i := 1) (N := some 72) (v := ?_) (a' := ?_) #[true, true, false, false, false, false, false, false, false, false, false, false, false, false, false, false, false, false, false, false, false, false, false, false, false, false] rfl rfl (by kernel_rfl) (fun _ _ _ h => h) (Or.inl ⟨by rfl, ?_⟩) ?_ ?_
          rotate_left
          · intro w'
            go_simp
            with_reducible rfl
          rotate_left
          · simp only [Act.put, List.setIfInBounds_toArray, List.set_cons_zero, List.set_cons_succ]
            rfl
          refine pure_ (i := 2) (N := some 73) (v := ?_) (a' := ?_) #[true, true, true, false, false, false, false, false, false, false, false, false, false, false, false, false, false, false, false, false, false, false, false, false, false, false] rfl rfl (by kernel_rfl) (fun _ _ _ h => h) (Or.inl ⟨by rfl, ?_⟩) ?_ ?_
          rotate_left
          · intro w'
            go_simp
            with_reducible rfl
          rotate_left
          · simp only [Act.put, List.setIfInBounds_toArray, List.set_cons_zero, List.set_cons_succ]
            rfl
          refine take_ (i := 3) (N := some 74) (v := ?_) (a' := ?_) #[true, true, true, true, false, false, false, false, false, false, false, false, false, false, false, false, false, false, false, false, false, false, false, false, false, false] rfl rfl (by kernel_rfl) (fun _ _ _ h => h) (Or.inl ⟨by rfl, ?_⟩) hHeld ?_ ?_
          rotate_left
          · rintro w' ⟨s0, s1, s2, s3, s4, s5⟩
            go_simp
            with_reducible rfl
          rotate_left
          · simp only [Act.put, List.setIfInBounds_toArray, List.set_cons_zero, List.set_cons_succ]
            rfl
          refine pure_ (i := 4) (N := some 75) (v := ?_) (a' := ?_) #[true, true, true, true, true, false, false, false, false, false, false, false, false, false, false, false, false, false, false, false, false, false, false, false, false, false] rfl rfl (by kernel_rfl) (fun _ _ _ h => h) (Or.inl ⟨by rfl, ?_⟩) ?_ ?_
          rotate_left
          · intro w'
            go_simp
            with_reducible rfl
          rotate_left
          · simp only [Act.put, List.setIfInBounds_toArray, List.set_cons_zero, List.set_cons_succ]
            rfl
          refine take_ (i := 5) (N := some 76) (v := ?_) (a' := ?_) #[true, true, true, true, true, true, false, false, false, false, false, false, false, false, false, false, false, false, false, false, false, false, false, false, false, false] rfl rfl (by kernel_rfl) (fun _ _ _ h => h) (Or.inl ⟨by rfl, ?_⟩) hHeld ?_ ?_
          rotate_left
          · rintro w' ⟨s0, s1, s2, s3, s4, s5⟩
            go_simp
            with_reducible rfl
          rotate_left
          · simp only [Act.put, List.setIfInBounds_toArray, List.set_cons_zero, List.set_cons_succ]
            rfl
          refine pure_ (i := 6) (N := some 77) (v := ?_) (a' := ?_) #[true, true, true, true, true, true, true, false, false, false, false, false, false, false, false, false, false, false, false, false, false, false, false, false, false, false] rfl rfl (by kernel_rfl) (fun _ _ _ h => h) (Or.inl ⟨by rfl, ?_⟩) ?_ ?_
          rotate_left
          · intro w'
            go_simp
            with_reducible rfl
          rotate_left
          · simp only [Act.put, List.setIfInBounds_toArray, List.set_cons_zero, List.set_cons_succ]
            rfl
          refine take_ (i := 7) (N := some 78) (v := ?_) (a' := ?_) #[true, true, true, true, true, true, true, true, false, false, false, false, false, false, false, false, false, false, false, false, false, false, false, false, false, false] rfl rfl (by kernel_rfl) (fun _ _ _ h => h) (Or.inl ⟨by rfl, ?_⟩) hHeld ?_ ?_
          rotate_left
          · rintro w' ⟨s0, s1, s2, s3, s4, s5⟩
            go_simp
            with_reducible rfl
          rotate_left
          · simp only [Act.put, List.setIfInBounds_toArray, List.set_cons_zero, List.set_cons_succ]
            rfl
          refine pure_ (i := 8) (N := some 79) (v := ?_) (a' := ?_) #[true, true, true, true, true, true, true, true, true, false, false, false, false, false, false, false, false, false, false, false, false, false, false, false, false, false] rfl rfl (by kernel_rfl) (fun _ _ _ h => h) (Or.inl ⟨by rfl, ?_⟩) ?_ ?_
          rotate_left
          · intro w'
            go_simp
            with_reducible rfl
          rotate_left
          · simp only [Act.put, List.setIfInBounds_toArray, List.set_cons_zero, List.set_cons_succ]
            rfl
          refine pure_ (i := 9) (N := some 80) (v := ?_) (a' := ?_) #[true, true, true, true, true, true, true, true, true, true, false, false, false, false, false, false, false, false, false, false, false, false, false, false, false, false] rfl rfl (by kernel_rfl) (fun _ _ _ h => h) (Or.inl ⟨by rfl, ?_⟩) ?_ ?_
          rotate_left
          · intro w'
            go_simp
            with_reducible rfl
          rotate_left
          · simp only [Act.put, List.setIfInBounds_toArray, List.set_cons_zero, List.set_cons_succ]
            rfl
          refine one_ (i := 10) (N := some 81) #[true, true, true, true, true, true, true, true, true, true, true, false, false, false, false, false, false, false, false, false, false, false, false, false, false, false] rfl rfl (by kernel_rfl) (by decide) (fun K hK => ?_)
          refine value_ (w1 := ?_) (v := ?_) (by rfl) rfl ?_ ?_
          rotate_left 2
          · go_simp
            constructor
            · rfl
            · rfl
          refine hK.out _ _ HSS.out (fun hHeld => ?_)
          clear hK K
          refine norm_ (a' := ?_) ?_ ?_
          rotate_left
          · show Act.put _ (some 81) _ = _
            simp only [Act.put, List.setIfInBounds_toArray, List.set_cons_zero, List.set_cons_succ]
            rfl
          refine one_ (i := 11) (N := some 82) #[true, true, true, true, true, true, true, true, true, true, true, true, false, false, false, false, false, false, false, false, false, false, false, false, false, false] rfl rfl (by kernel_rfl) (by decide) (fun K hK => ?_)
          refine goes_ Try.func22 (by kernel_rfl) rfl #[.agg #[.slice RA0 R.f0.length RC0, .slice RA1 R.f1.length RC1], .agg #[.slice QA0 t.f0.length QC0, .slice (some bd) f QC1]] (by rfl) rfl rfl (by simp only [List.map_toArray, List.map_cons, List.map_nil] <;> rfl) ?_
          refine (C4.out _ L6.out.I.BW L6.out.RM).mono ?_
          rintro e w7 ⟨rfl, hb⟩
          refine ⟨_, rfl, ?_⟩
          have HB7 := Aside0.mk hb
          have L7 := Aside0.mk (L6.out.below hb)
          have RD7 := Aside0.mk (RD6.out.below hb)
          clear hb C4
          refine hK.out _ _ ⟨pw_cell_below HB7.out HSS.out.1, pw_cell_below HB7.out HSS.out.2.1, pw_cell_below HB7.out HSS.out.2.2.1, pw_cell_below HB7.out HSS.out.2.2.2.1, pw_cell_below HB7.out HSS.out.2.2.2.2.1, pw_cell_below HB7.out HSS.out.2.2.2.2.2⟩ (fun hHeld => ?_)
          clear hK K
          refine norm_ (a' := ?_) ?_ ?_
          rotate_left
          · show Act.put _ (some 82) _ = _
            simp only [Act.put, List.setIfInBounds_toArray, List.set_cons_zero, List.set_cons_succ]
            rfl
          have HS7 : Aside0 ((fun w' => w'.cell? ⟨w.heap.size + 1, 0, none⟩ = some (.slice QA0 t.f0.length QC0) ∧ w'.cell? ⟨w.heap.size + 1, 1, none⟩ = some (.slice (some bd) t.f1.length QC1) ∧ w'.cell? ⟨gC, 0, none⟩ = some (.slice RA0 R.f0.length RC0) ∧ w'.cell? ⟨gC, 1, none⟩ = some (.slice RA1 R.f1.length RC1) ∧ w'.cell? ⟨gD, 0, none⟩ = some (.slice DA0 R.f0.length DC0) ∧ w'.cell? ⟨gD, 1, none⟩ = some (.slice DA1 R.f1.length DC1)) w7) := ⟨⟨pw_cell_below HB7.out HSS.out.1, pw_cell_below HB7.out HSS.out.2.1, pw_cell_below HB7.out HSS.out.2.2.1, pw_cell_below HB7.out HSS.out.2.2.2.1, pw_cell_below HB7.out HSS.out.2.2.2.2.1, pw_cell_below HB7.out HSS.out.2.2.2.2.2⟩⟩
          refine pure_ (i := 12) (N := some 83) (v := ?_) (a' := ?_) #[true, true, true, true, true, true, true, true, true, true, true, true, true, false, false, false, false, false, false, false, false, false, false, false, false, false] rfl rfl (by kernel_rfl) (fun _ _ _ h => h) (Or.inl ⟨by rfl, ?_⟩) ?_ ?_
          rotate_left
          · intro w'
            go_simp
            with_reducible rfl
          rotate_left
          · simp only [Act.put, List.setIfInBounds_toArray, List.set_cons_zero, List.set_cons_succ]
            rfl
          refine pure_ (i := 13) (N := some 84) (v := ?_) (a' := ?_) #[true, true, true, true, true, true, true, true, true, true, true, true, true, true, false, false, false, false, false, false, false, false, false, false, false, false] rfl rfl (by kernel_rfl) (fun _ _ _ h => h) (Or.inl ⟨by rfl, ?_⟩) ?_ ?_
          rotate_left
          · intro w'
            go_simp
            with_reducible rfl
          rotate_left
          · simp only [Act.put, List.setIfInBounds_toArray, List.set_cons_zero, List.set_cons_succ]
            rfl
          refine pure_ (i := 14) (N := some 85) (v := ?_) (a' := ?_) #[true, true, true, true, true, true, true, true, true, true, true, true, true, true, true, false, false, false, false, false, false, false, false, false, false, false] rfl rfl (by kernel_rfl) (fun _ _ _ h => h) (Or.inl ⟨by rfl, ?_⟩) ?_ ?_
          rotate_left
          · intro w'
            go_simp
            with_reducible rfl
          rotate_left
          · simp only [Act.put, List.setIfInBounds_toArray, List.set_cons_zero, List.set_cons_succ]
            rfl
          refine pure_ (i := 15) (N := some 86) (v := ?_) (a' := ?_) #[true, true, true, true, true, true, true, true, true, true, true, true, true, true, true, true, false, false, false, false, false, false, false, false, false, false] rfl rfl (by kernel_rfl) (fun _ _ _ h => h) (Or.inl ⟨by rfl, ?_⟩) ?_ ?_
          rotate_left
          · intro w'
            go_simp
            with_reducible rfl
          rotate_left
          · simp only [Act.put, List.setIfInBounds_toArray, List.set_cons_zero, List.set_cons_succ]
            rfl
          refine pure_ (i := 16) (N := some 87) (v := ?_) (a' := ?_) #[true, true, true, true, true, true, true, true, true, true, true, true, true, true, true, true, true, false, false, false, false, false, false, false, false, false] rfl rfl (by kernel_rfl) (fun _ _ _ h => h) (Or.inl ⟨by rfl, ?_⟩) ?_ ?_
          rotate_left
          · intro w'
            go_simp
            with_reducible rfl
          rotate_left
          · simp only [Act.put, List.setIfInBounds_toArray, List.set_cons_zero, List.set_cons_succ]
            rfl
          refine pure_ (i := 17) (N := some 88) (v := ?_) (a' := ?_) #[true, true, true, true, true, true, true, true, true, true, true, true, true, true, true, true, true, true, false, false, false, false, false, false, false, false] rfl rfl (by kernel_rfl) (fun _ _ _ h => h) (Or.inl ⟨by rfl, ?_⟩) ?_ ?_
          rotate_left
          · intro w'
            go_simp
            with_reducible rfl
          rotate_left
          · simp only [Act.put, List.setIfInBounds_toArray, List.set_cons_zero, List.set_cons_succ]
            rfl
          refine take_ (i := 18) (N := some 89) (v := ?_) (a' := ?_) #[true, true, true, true, true, true, true, true, true, true, true, true, true, true, true, true, true, true, true, false, false, false, false, false, false, false] rfl rfl (by kernel_rfl) (fun _ _ _ h => h) (Or.inl ⟨by rfl, ?_⟩) hHeld ?_ ?_
          rotate_left
          · rintro w' ⟨s0, s1, s2, s3, s4, s5⟩
            go_simp
            with_reducible rfl
          rotate_left
          · simp only [Act.put, List.setIfInBounds_toArray, List.set_cons_zero, List.set_cons_succ]
            rfl
          refine take_ (i := 19) (N := some 90) (v := ?_) (a' := ?_) #[true, true, true, true, true, true, true, true, true, true, true, true, true, true, true, true, true, true, true, true, false, false, false, false, false, false] rfl rfl (by kernel_rfl) (fun _ _ _ h => h) (Or.inl ⟨by rfl, ?_⟩) hHeld ?_ ?_
          rotate_left
          · rintro w' ⟨s0, s1, s2, s3, s4, s5⟩
            go_simp
            with_reducible rfl
          rotate_left
          · simp only [Act.put, List.setIfInBounds_toArray, List.set_cons_zero, List.set_cons_succ]
            rfl
          refine one_ (i := 20) (N := some 91) #[true, true, true, true, true, true, true, true, true, true, true, true, true, true, true, true, true, true, true, true, true, false, false, false, false, false] rfl rfl (by kernel_rfl) (by decide) (fun K hK => ?_)
          refine goes_ Try.func22 (by kernel_rfl) rfl #[.agg #[.slice DA0 R.f0.length DC0, .slice DA1 R.f1.length DC1], .agg #[.slice RA0 R.f0.length RC0, .slice RA1 R.f1.length RC1]] (by rfl) rfl rfl (by simp only [List.map_toArray, List.map_cons, List.map_nil] <;> rfl) ?_
          refine (ref06_Same ⟨DA0, DC0, DA1, DC1⟩ R ⟨RA0, RC0, RA1, RC1⟩ R _ RD7.out L7.out.RM).mono ?_
          rintro e w8 ⟨rfl, hb⟩
          rw [decide_eq_true (rfl : R = R)]
          refine ⟨_, rfl, ?_⟩
          have HB8 := Aside0.mk hb
          have L8 := Aside0.mk (L7.out.below hb)
          clear hb
          refine hK.out _ _ ⟨pw_cell_below HB8.out HS7.out.1, pw_cell_below HB8.out HS7.out.2.1, pw_cell_below HB8.out HS7.out.2.2.1, pw_cell_below HB8.out HS7.out.2.2.2.1, pw_cell_below HB8.out HS7.out.2.2.2.2.1, pw_cell_below HB8.out HS7.out.2.2.2.2.2⟩ (fun hHeld => ?_)
          clear hK K
          refine norm_ (a' := ?_) ?_ ?_
          rotate_left
          · show Act.put _ (some 91) _ = _
            simp only [Act.put, List.setIfInBounds_toArray, List.set_cons_zero, List.set_cons_succ]
            rfl
          have HS8 : Aside0 ((fun w' => w'.cell? ⟨w.heap.size + 1, 0, none⟩ = some (.slice QA0 t.f0.length QC0) ∧ w'.cell? ⟨w.heap.size + 1, 1, none⟩ = some (.slice (some bd) t.f1.length QC1) ∧ w'.cell? ⟨gC, 0, none⟩ = some (.slice RA0 R.f0.length RC0) ∧ w'.cell? ⟨gC, 1, none⟩ = some (.slice RA1 R.f1.length RC1) ∧ w'.cell? ⟨gD, 0, none⟩ = some (.slice DA0 R.f0.length DC0) ∧ w'.cell? ⟨gD, 1, none⟩ = some (.slice DA1 R.f1.length DC1)) w8) := ⟨⟨pw_cell_below HB8.out HS7.out.1, pw_cell_below HB8.out HS7.out.2.1, pw_cell_below HB8.out HS7.out.2.2.1, pw_cell_below HB8.out HS7.out.2.2.2.1, pw_cell_below HB8.out HS7.out.2.2.2.2.1, pw_cell_below HB8.out HS7.out.2.2.2.2.2⟩⟩
          refine pure_ (i := 21) (N := some 92) (v := ?_) (a' := ?_) #[true, true, true, true, true, true, true, true, true, true, true, true, true, true, true, true, true, true, true, true, true, true, false, false, false, false] rfl rfl (by kernel_rfl) (fun _ _ _ h => h) (Or.inl ⟨by rfl, ?_⟩) ?_ ?_
          rotate_left
          · intro w'
            go_simp
            with_reducible rfl
          rotate_left
          · simp only [Act.put, List.setIfInBounds_toArray, List.set_cons_zero, List.set_cons_succ]
            rfl
          refine pure_ (i := 22) (N := some 93) (v := ?_) (a' := ?_) #[true, true, true, true, true, true, true, true, true, true, true, true, true, true, true, true, true, true, true, true, true, true, true, false, false, false] rfl rfl (by kernel_rfl) (fun _ _ _ h => h) (Or.inl ⟨by rfl, ?_⟩) ?_ ?_
          rotate_left
          · intro w'
            go_simp
            with_reducible rfl
          rotate_left
          · simp only [Act.put, List.setIfInBounds_toArray, List.set_cons_zero, List.set_cons_succ]
            rfl
          refine one_ (i := 23) (N := some 94) #[true, true, true, true, true, true, true, true, true, true, true, true, true, true, true, true, true, true, true, true, true, true, true, true, false, false] rfl rfl (by kernel_rfl) (by decide) (fun K hK => ?_)
          refine goes_ Try.func28 (by kernel_rfl) rfl #[] (by rfl) rfl rfl (by simp only [List.map_toArray, List.map_cons, List.map_nil] <;> rfl) ?_
          refine (law06_alive _).mono ?_
          rintro e w9 ⟨rfl, hb⟩
          refine ⟨_, rfl, ?_⟩
          have HB9 := Aside0.mk hb
          have B9 := Aside0.mk (L8.out.I.BW.trans (hb.mono L8.out.I.BW.size))
          clear hb
          refine hK.out _ _ ⟨pw_cell_below HB9.out HS8.out.1, pw_cell_below HB9.out HS8.out.2.1, pw_cell_below HB9.out HS8.out.2.2.1, pw_cell_below HB9.out HS8.out.2.2.2.1, pw_cell_below HB9.out HS8.out.2.2.2.2.1, pw_cell_below HB9.out HS8.out.2.2.2.2.2⟩ (fun hHeld => ?_)
          clear hK K
          refine norm_ (a' := ?_) ?_ ?_
          rotate_left
          · show Act.put _ (some 94) _ = _
            simp only [Act.put, List.setIfInBounds_toArray, List.set_cons_zero, List.set_cons_succ]
            rfl
          refine pure_ (i := 24) (N := some 95) (v := ?_) (a' := ?_) #[true, true, true, true, true, true, true, true, true, true, true, true, true, true, true, true, true, true, true, true, true, true, true, true, true, false] rfl rfl (by kernel_rfl) (fun _ _ _ h => h) (Or.inl ⟨by rfl, ?_⟩) ?_ ?_
          rotate_left
          · intro w'
            go_simp
            with_reducible rfl
          rotate_left
          · simp only [Act.put, List.setIfInBounds_toArray, List.set_cons_zero, List.set_cons_succ]
            rfl
          refine pure_ (i := 25) (N := some 4) (v := ?_) (a' := ?_) #[true, true, true, true, true, true, true, true, true, true, true, true, true, true, true, true, true, true, true, true, true, true, true, true, true, true] rfl rfl (by kernel_rfl) (fun _ _ _ h => h) (Or.inl ⟨by rfl, ?_⟩) ?_ ?_
          rotate_left
          · intro w'
            go_simp
            with_reducible rfl
          rotate_left
          · simp only [Act.put, List.setIfInBounds_toArray, List.set_cons_zero, List.set_cons_succ]
            rfl
          refine done_ (by kernel_rfl) ?_
          go_wp2
          go_ret
          exact ⟨rfl, B9.out⟩
end Go.Proofs.Ytchhbkicplgmhaa.PH