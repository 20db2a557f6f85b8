/- Lists of circuits (variadic functions): great, circuits; the checks of lifts; GreatLift. -/
import Derived.Test.YtiafojcbllbepaaHLift3
import Derived.Test.YtiafojcbllbepaaHSame
namespace Go.Proofs.Ytiafojcbllbepaa.PH
open Go.RowKit Go.Proofs.YtiafojcbllbepaaW.PrintWords
set_option linter.unusedVariables false
set_option linter.unusedSimpArgs false

theorem at_circ {w : World} {A : Option Addr} {n : Nat} {l : List Circ} (h : Kd.C kCirc w A n l) (k : Nat) (hk : k < l.length) : ∃ ad p, A = some ad ∧ RC w p l[k] ∧ w.cell? (ad.add (k * 5)) = some (.int .i64 l[k].f0) ∧
    w.cell? ⟨(ad.add (k * 5)).block, (ad.add (k * 5)).off + 1, none⟩ = some (.slice p.A1 l[k].f1.length p.c1) ∧ w.cell? ⟨(ad.add (k * 5)).block, (ad.add (k * 5)).off + 2, none⟩ = some (.slice p.A2 l[k].f2.length p.c2) ∧
    w.cell? ⟨(ad.add (k * 5)).block, (ad.add (k * 5)).off + 3, none⟩ = some (.slice p.A3 l[k].f3.length p.c3) ∧ w.cell? ⟨(ad.add (k * 5)).block, (ad.add (k * 5)).off + 4, none⟩ = some (.slice p.A4 l[k].f4.length p.c4) := by
  obtain ⟨ad, c, e, _, hK, hc0⟩ := get_cell h k hk
  have hc : ∀ j u, c[j]? = some u → w.cell? (ad.add (k * 5 + j)) = some u := hc0
  obtain ⟨A1, c1, A2, c2, A3, c3, A4, c4, rfl, l1, g1, l2, g2, l3, g3, l4, g4⟩ := kCirc_open hK
  exact ⟨ad, ⟨A1, c1, A2, c2, A3, c3, A4, c4⟩, e, ⟨⟨g1, l1⟩, ⟨g2, l2⟩, ⟨g3, l3⟩, ⟨g4, l4⟩⟩, hc 0 _ rfl, by rw [← add_field _ _ 1 (by omega)]; exact hc 1 _ rfl, by rw [← add_field _ _ 2 (by omega)]; exact hc 2 _ rfl, by rw [← add_field _ _ 3 (by omega)]; exact hc 3 _ rfl, by rw [← add_field _ _ 4 (by omega)]; exact hc 4 _ rfl⟩
theorem kCirc_of {w : World} {p : CP} {c : Circ} (h : RC w p c) : kCirc.K w c [.int .i64 c.f0, .slice p.A1 c.f1.length p.c1, .slice p.A2 c.f2.length p.c2, .slice p.A3 c.f3.length p.c3, .slice p.A4 c.f4.length p.c4] :=
  ⟨[_], _, rfl, rfl, ⟨[_], _, rfl, ⟨p.A1, p.c1, rfl, h.s1.h, h.s1.r⟩, ⟨[_], _, rfl, ⟨p.A2, p.c2, rfl, h.s2.h, h.s2.r⟩, ⟨[_], _, rfl, ⟨p.A3, p.c3, rfl, h.s3.h, h.s3.r⟩, ⟨p.A4, p.c4, rfl, h.s4.h, h.s4.r⟩⟩⟩⟩⟩
theorem RS.two_circ {w : World} {B : Nat} {p q : CP} {c d : Circ} (hp : RC w p c) (hq : RC w q d)
    (h : ∀ j u, [Value.int .i64 c.f0, .slice p.A1 c.f1.length p.c1, .slice p.A2 c.f2.length p.c2, .slice p.A3 c.f3.length p.c3, .slice p.A4 c.f4.length p.c4, .int .i64 d.f0, .slice q.A1 d.f1.length q.c1, .slice q.A2 d.f2.length q.c2, .slice q.A3 d.f3.length q.c3, .slice q.A4 d.f4.length q.c4][j]? = some u → w.cell? ⟨B, j, none⟩ = some u) : RS kCirc w (some ⟨B, 0, none⟩) 2 [c, d] :=
  RS.row (by simp) (Nat.le_refl _) (fun j x hj => by
    match j with
    | 0 =>
      have e : c = x := by simpa using hj
      subst e
      exact ⟨_, rfl, kCirc_of hp, fun i u hu => h (0 * 5 + i) u (by
        match i with
        | 0 | 1 | 2 | 3 | 4 => exact hu
        | i + 5 => simp at hu)⟩
    | 1 =>
      have e : d = x := by simpa using hj
      subst e
      exact ⟨_, rfl, kCirc_of hq, fun i u hu => h (1 * 5 + i) u (by
        match i with
        | 0 | 1 | 2 | 3 | 4 => exact hu
        | i + 5 => simp at hu)⟩
    | j + 2 => simp at hj)

/-- The first error of some circuits. -/
def checks : List Circ → Int
  | [] => 0
  | c :: l => if check c = 0 then checks l else check c
theorem any_false_step {α : Type} {q : α → Bool} {l : List α} {k : Nat} (h : k < l.length) : (l.drop k).any q = (q l[k] || (l.drop (k + 1)).any q) := by rw [drop_at h, List.any_cons]
set_option maxHeartbeats 2000000 in
set_option maxRecDepth 100000 in
theorem ref25_circuits (A : Option Addr) (c : Nat) (l : List Circ) (w : World) (h : RS kCirc w A c l) (hf : ∀ x ∈ l, x.Fits) :
    Calls Try.prog 43 #[.slice A l.length c] w fun e w' => e = .returned (.int .i64 (checks l)) ∧ Below w.heap.size w w' := by
  have HS := Aside0.mk h
  have HM := Aside0.mk h.max
  have HF := Aside0.mk hf
  clear h hf
  have hu26 := Try.underlying26
  go_enter Try.func43, Try.ntmps43
  go_wp2
  go_loopg [3] l.length (fun gg s3 wr => ∃ k : Nat, s3 = .int .i64 k ∧ Aside0 (k ≤ l.length ∧ l.length - k ≤ gg) ∧ Aside0 (Below w.heap.size w wr) ∧ Aside0 (checks (l.drop k) = checks l))
  case atStart => exact ⟨0, rfl, ⟨by omega, by omega⟩, ⟨Below.refl _ _⟩, ⟨rfl⟩⟩
  case round =>
    obtain ⟨k, rfl, HX, BW, HA⟩ := hrel
    by_cases hlt : k < l.length
    · obtain ⟨ad, p, e1, hRC, g0, g1, g2, g3, g4⟩ := at_circ (HS.out.below BW.out).r k hlt
      cases e1
      have HD := HA.out
      rw [drop_at hlt, checks] at HD
      have HLT := Aside0.mk hlt
      have HFX := Aside0.mk (HF.out _ (List.getElem_mem hlt))
      generalize l[k] = x at *
      have HRC := Aside0.mk hRC
      have HDD := Aside0.mk HD
      clear HA HD hRC
      by_cases z : check x = 0
      · rw [if_pos z] at HDD
        have HZ := Aside0.mk z
        clear z
        go_wp2_with fail
        refine (ref02_Check p x _ HRC.out HFX.out).mono ?_
        rintro e w1 ⟨rfl, hb1⟩
        rw [HZ.out]
        have BW1 := Aside0.mk (BW.out.trans (hb1.mono BW.out.size))
        clear hb1
        go_wp2
        go_roundg (l.length - (k + 1))
        case measure => have := HX.out; have := HLT.out; omega
        case rel => exact ⟨k + 1, val_step HLT.out HM.out, ⟨HLT.out, by have := HX.out; omega⟩, BW1, HDD⟩
      · rw [if_neg z] at HDD
        have zb : (check x != 0) = true := bne_iff_ne.mpr z
        clear z
        go_wp2_with fail
        refine (ref02_Check p x _ HRC.out HFX.out).mono ?_
        rintro e w1 ⟨rfl, hb1⟩
        have BW1 := Aside0.mk (BW.out.trans (hb1.mono BW.out.size))
        clear hb1
        go_wp2
        go_ret
        exact ⟨ret_int HDD.out, BW1.out⟩
    · have HE : k = l.length := by have := HX.out.1; omega
      have HD := HA.out
      rw [HE, List.drop_length] at HD
      have HDD := Aside0.mk HD
      clear HD HE HA
      go_wp2
      go_ret
      exact ⟨ret_int HDD.out, BW.out⟩
/-- What lift.Check answers. -/
def liftCheck (fr tc : Circ) (l : Lf) : Int := if check fr = 0 then if check tc = 0 then if liftOk fr tc l = true then 0 else 8 else check tc else check fr
set_option maxHeartbeats 2000000 in
set_option maxRecDepth 100000 in
theorem lift_Check (p q : CP) (fr tc : Circ) (r : LP) (l : Lf) (w : World) (hp : RC w p fr) (hq : RC w q tc) (hr : RL w r l) (ff : fr.Fits) (ft : tc.Fits) (hl : l.Fits) :
    Calls Try.prog 45 #[cv p fr, cv q tc, lv r l] w fun e w' => e = .returned (.int .i64 (liftCheck fr tc l)) ∧ Below w.heap.size w w' := by
  have HP := Aside0.mk (fun W (hb : Below w.heap.size w W) => gates_Check p fr W (hp.below hb) ff)
  have HQ := Aside0.mk (fun W (hb : Below w.heap.size w W) => gates_Check q tc W (hq.below hb) ft)
  have HFI := Aside0.mk (fun c1 c2 W (hb : Below w.heap.size w W) => lift_fits p q fr tc r l W (hr.below hb) hl c1 c2 ff.h1 ft.h1)
  have F0 := Aside0.mk (FitBoxes.new (w := w) (p := p) (q := q) (fr := fr) (tc := tc) (r := r) (l := l) (t1 := 26) (t2 := 26) (t3 := 38))
  unfold liftCheck
  have hu26 := Try.underlying26
  have hu31 := Try.underlying38
  clear hp hq hr ff ft hl
  by_cases c1 : check fr = 0
  case neg =>
    rw [if_neg c1]
    have c1b : (check fr != 0) = true := bne_iff_ne.mpr c1
    clear c1
    go_enter Try.func45, Try.ntmps45
    go_wp2_with fail
    refine (HP.out _ F0.out.b).mono ?_
    rintro e w1 ⟨rfl, hb1⟩
    have F1 := Aside0.mk (F0.out.below hb1)
    clear hb1
    go_wp2
    go_ret
    exact ⟨rfl, F1.out.b⟩
  rw [if_pos c1]
  have HC1 := Aside0.mk c1
  clear c1
  by_cases c2 : check tc = 0
  case neg =>
    rw [if_neg c2]
    have c2b : (check tc != 0) = true := bne_iff_ne.mpr c2
    clear c2
    go_enter Try.func45, Try.ntmps45
    go_wp2_with fail
    refine (HP.out _ F0.out.b).mono ?_
    rintro e w1 ⟨rfl, hb1⟩
    rw [HC1.out]
    have F1 := Aside0.mk (F0.out.below hb1)
    clear hb1
    obtain ⟨t0, t1, t2, t3, t4⟩ := F1.out.t
    go_wp2_with fail
    refine (HQ.out _ F1.out.b).mono ?_
    rintro e w2 ⟨rfl, hb2⟩
    have F2 := Aside0.mk (F1.out.below hb2)
    clear hb2
    go_wp2
    go_ret
    exact ⟨rfl, F2.out.b⟩
  rw [if_pos c2]
  have HC2 := Aside0.mk c2
  clear c2
  have HF := Aside0.mk (HFI.out HC1.out HC2.out)
  generalize liftOk fr tc l = o at HF ⊢
  have HO : ∃ v : Int, (if o = true then (0 : Int) else 8) = v := ⟨_, rfl⟩
  obtain ⟨v, hv⟩ := HO
  rw [hv]
  have HV := Aside0.mk hv
  clear hv HFI
  go_enter Try.func45, Try.ntmps45
  go_wp2_with fail
  refine (HP.out _ F0.out.b).mono ?_
  rintro e w1 ⟨rfl, hb1⟩
  rw [HC1.out]
  have F1 := Aside0.mk (F0.out.below hb1)
  clear hb1
  obtain ⟨t0, t1, t2, t3, t4⟩ := F1.out.t
  go_wp2_with fail
  refine (HQ.out _ F1.out.b).mono ?_
  rintro e w2 ⟨rfl, hb2⟩
  rw [HC2.out]
  have F2 := Aside0.mk (F1.out.below hb2)
  clear hb2 t0 t1 t2 t3 t4
  obtain ⟨f0, f1, f2, f3, f4⟩ := F2.out.f
  obtain ⟨t0, t1, t2, t3, t4⟩ := F2.out.t
  obtain ⟨r0, r1, r2, r3, r4, r5, r6⟩ := F2.out.l
  go_wp2_with fail
  refine (HF.out _ F2.out.b).mono ?_
  rintro e w3 ⟨rfl, hb3⟩
  have F3 := Aside0.mk (F2.out.below hb3)
  clear hb3
  cases o
  all_goals
    go_wp2
    go_ret
    exact ⟨ret_int (by rw [← HV.out]; rfl), F3.out.b⟩
set_option maxHeartbeats 2000000 in
set_option maxRecDepth 100000 in
theorem ref25_Check (p q : CP) (fr tc : Circ) (r : LP) (l : Lf) (w : World) (hp : RC w p fr) (hq : RC w q tc) (hr : RL w r l) (ff : fr.Fits) (ft : tc.Fits) (hl : l.Fits) :
    Calls Try.prog 24 #[cv p fr, cv q tc, lv r l] w fun e w' => e = .returned (.int .i64 (liftCheck fr tc l)) ∧ Below w.heap.size w w' := by
  have HP := Aside0.mk hp
  have HQ := Aside0.mk hq
  have HFF := Aside0.mk ff
  have HFT := Aside0.mk ft
  have HFI := Aside0.mk (fun c1 c2 W (hb : Below w.heap.size w W) => ref25_Valid p q fr tc r l W (hr.below hb) hl c1 c2 ff.h1 ft.h1)
  have F0 := Aside0.mk (FitBoxes.new (w := w) (p := p) (q := q) (fr := fr) (tc := tc) (r := r) (l := l) (t1 := 26) (t2 := 26) (t3 := 38))
  obtain ⟨R, hR⟩ : ∃ R, liftCheck fr tc l = R := ⟨_, rfl⟩
  rw [hR]
  have HR := Aside0.mk hR
  clear hR
  have hu26 := Try.underlying26
  have hu31 := Try.underlying38
  clear hp hq hr ff ft hl
  obtain ⟨v, hv⟩ : ∃ v, checks [fr, tc] = v := ⟨_, rfl⟩
  have HV := Aside0.mk hv
  clear hv
  go_enter Try.func24, Try.ntmps24
  go_wp2_with fail
  refine (ref25_circuits (some ⟨w.heap.size + 1 + 1 + 1, 0, none⟩) 2 [fr, tc] _ ?g1 ?g2).mono ?_
  case g1 => exact RS.two_circ (p := p) (q := q) (HP.out.below (below_alloc F0.out.b _)) (HQ.out.below (below_alloc F0.out.b _)) (fun j u hj => by rw [World.cell?_alloc_at _ _ _ _ (by simp)]; simpa using hj)
  case g2 =>
    intro x hx
    rcases List.mem_cons.1 hx with rfl | hx
    · exact HFF.out
    · rw [List.mem_singleton.1 hx]; exact HFT.out
  rintro e w1 ⟨rfl, hb1⟩
  have F1 := Aside0.mk (F0.out.below (below_then (below_alloc (Below.refl _ _) _) (by simp) hb1))
  clear hb1
  rw [HV.out]
  by_cases c1 : check fr = 0
  case neg =>
    have hv : v = check fr := by rw [← HV.out]; simp [checks, c1]
    have HR1 := Aside0.mk (show v = R by rw [← HR.out, hv]; simp [liftCheck, c1])
    have c1b : (v != 0) = true := by rw [hv]; exact bne_iff_ne.mpr c1
    clear c1 hv
    go_wp2
    go_ret
    exact ⟨ret_int HR1.out, F1.out.b⟩
  by_cases c2 : check tc = 0
  case neg =>
    have hv : v = check tc := by rw [← HV.out]; simp [checks, c1, c2]
    have HR1 := Aside0.mk (show v = R by rw [← HR.out, hv]; simp [liftCheck, c1, c2])
    have c2b : (v != 0) = true := by rw [hv]; exact bne_iff_ne.mpr c2
    clear c1 c2 hv
    go_wp2
    go_ret
    exact ⟨ret_int HR1.out, F1.out.b⟩
  have hv : v = 0 := by rw [← HV.out]; simp [checks, c1, c2]
  subst hv
  have HF := Aside0.mk (HFI.out c1 c2)
  have HR1 := Aside0.mk (show (if liftOk fr tc l = true then (0 : Int) else 8) = R by rw [← HR.out]; simp [liftCheck, c1, c2])
  clear c1 c2 HV HFI HR
  generalize liftOk fr tc l = o at HF HR1
  obtain ⟨f0, f1, f2, f3, f4⟩ := F1.out.f
  obtain ⟨t0, t1, t2, t3, t4⟩ := F1.out.t
  obtain ⟨r0, r1, r2, r3, r4, r5, r6⟩ := F1.out.l
  go_wp2_with fail
  refine (HF.out _ F1.out.b).mono ?_
  rintro e w3 ⟨rfl, hb3⟩
  have F3 := Aside0.mk (F1.out.below hb3)
  clear hb3
  cases o
  all_goals
    go_wp2
    go_ret
    exact ⟨ret_int (by rw [← HR1.out]; rfl), F3.out.b⟩
/-- Some truth value of which P holds comes back. -/
def SomeB (P : Bool → Prop) (w w' : World) (e : Ending) : Prop := ∃ b : Bool, e = .returned (.bool b) ∧ P b ∧ Below w.heap.size w w'
/-- A lift that GreatLift does not call great. -/
def smallL (l : Lf) : Prop := l.f2.length ≤ 60 ∧ l.f4.length ≤ 60 ∧ l.f3.length ≤ 20 ∧ l.f5.f0.length ≤ 300
end Go.Proofs.Ytiafojcbllbepaa.PH
