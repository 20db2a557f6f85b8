/- ref28.Of, place. -/
import Derived.Test.YtiafojcbllbepaaHConeIn28
import Derived.Test.YtiafojcbllbepaaHPassP
namespace Go.Proofs.Ytiafojcbllbepaa.PH
open Go.RowKit Go.Proofs.YtiafojcbllbepaaW.PrintWords Go.Proofs.YtiafojcbllbepaaW.PrintLast
set_option linter.unusedVariables false
set_option linter.unusedSimpArgs false

set_option maxHeartbeats 4000000 in
set_option maxRecDepth 100000 in
theorem ref28_place (A : Option Addr) (cap : Nat) (t : List Int) (l : Int) (w : World) (h : RS (Kd.int .i64) w A cap t) (h0 : 0 ≤ l) (hl : varOf l < t.length) (hb : ∀ x ∈ t, 0 ≤ x ∧ x ≤ 3000) (hm : t.length ≤ 3000) :
    Calls Try.prog 37 #[.slice A t.length cap, .int .i64 l] w fun e w' => e = .returned (.int .i64 (plc t l)) ∧ Below w.heap.size w w' := by
  obtain ⟨v, hv⟩ : ∃ v : Nat, varOf l = v := ⟨_, rfl⟩
  rw [hv] at hl
  have hd : l / 2 = (v : Int) := by rw [← hv]; unfold varOf; omega
  have hl2 : l ≤ 6001 := by omega
  obtain ⟨ad, e, hc⟩ := at_int h.r v hl
  cases e
  have hx := hb _ (List.getElem_mem hl)
  have HR := Aside0.mk (show plc t l = t[v] + l % 2 by unfold plc; rw [hv, List.getD_eq_getElem?_getD, List.getElem?_eq_getElem hl]; rfl)
  obtain ⟨hx0, hx1⟩ := hx
  have hw : wrap64 (l.tdiv 2) = (v : Int) := by rw [half_of ⟨by omega, by omega⟩ h0, hd]
  generalize t[v] = x at *
  clear hb h hv
  go_enter Try.func37, Try.ntmps37
  go_wp2
  go_ret
  exact ⟨ret_int (by rw [HR.out]), Below.refl _ _⟩
set_option maxHeartbeats 4000000 in
set_option maxRecDepth 100000 in
theorem ref28_Of_ok (p : CP) (c : Circ) (w : World) (h : RC w p c) (hs : c.Fits) (hck : check c = 0) :
    Calls Try.prog 11 #[cv p c] w fun e w' => RetLE w w' (coneV c, 0) e := by
  have HV := Aside0.mk (fun W (hb : Below w.heap.size w W) => ref02_Check p c W (h.below hb) hs)
  have HI := Aside0.mk (fun W (hb : Below w.heap.size w W) => ref28_In p c W (h.below hb) hs hck)
  have hbd := gCheck_ok hck
  have HN := Aside0.mk (show sizeC c ≤ 1000 by have h1 := hbd.2.2; have h2 := hbd.1; unfold sizeC; omega)
  have HIS := Aside0.mk (show (coneB c).length = sizeC c + 1 by simp [coneB])
  have HI0 := Aside0.mk (show (coneB c).getD 0 false = false by
    cases hb : (coneB c).getD 0 false with
    | false => rfl
    | true => exact absurd (((cone_tells (inside_of hck)).2 0).1 hb).pos (by omega))
  have HE := Aside0.mk (show coneV c = onesFrom (coneB c) 0 from rfl)
  have HC := Aside0.mk hck
  have hu26 := Try.underlying26
  have S0 := Aside0.mk ((Parts.start w).new 26 #[.int .i64 c.f0, .slice p.A1 c.f1.length p.c1, .slice p.A2 c.f2.length p.c2, .slice p.A3 c.f3.length p.c3, .slice p.A4 c.f4.length p.c4])
  clear h hs hck
  go_enter Try.func11, Try.ntmps11
  go_wp2_with fail
  refine (HV.out _ S0.out.B).mono ?_
  rintro e w1 ⟨rfl, hb1⟩
  rw [HC.out]
  have S1 := Aside0.mk (S0.out.below hb1)
  clear hb1 S0 HV
  obtain ⟨c0, c1, c2, c3, c4⟩ := blk5 (S1.out.blk 0 rfl)
  go_wp2_with fail
  refine (HI.out _ S1.out.B).mono ?_
  rintro e w2 ⟨V, cap, rfl, hR, hb2⟩
  have S2 := Aside0.mk (((S1.out.freshF flat_bool hb2 hR).tail.below (Below.refl _ _)))
  have S3 := Aside0.mk ((S1.out.freshF flat_bool hb2 hR).nil (Kd.int .i64) 3)
  clear hR hb2 S1 S2 c0 c1 c2 c3 c4
  rw [HIS.out] at S3 ⊢
  obtain ⟨g, hg⟩ : ∃ g, V = some ⟨g, 0, none⟩ := by
    obtain ⟨_, inner, hown, _⟩ := S3.out.ownF 1 rfl
    rcases hown.2 with ⟨h_, _⟩ | ⟨g', cap', cur, h_, _⟩
    · injection h_ with _ h2 _; omega
    · injection h_ with h2 _ _; exact ⟨g', h2⟩
  subst hg
  generalize coneB c = is at *
  go_wp2
  go_loopg [6, 7] (sizeC c + 1) (fun gg s6 s7 wr => ∃ (k n : Nat) (V : Option Addr) (cp : Nat), s6 = .slice V n cp ∧ s7 = .int .i64 k ∧ Aside0 (1 ≤ k ∧ k ≤ sizeC c + 1 ∧ sizeC c + 1 - k ≤ gg) ∧ Aside0 (n = (onesFrom (is.take k) 0).length ∧ n ≤ k) ∧ Aside0 (Parts w.heap.size w wr [pF w.heap.size (Kd.int .i64) 3 (.slice V n cp) (onesFrom (is.take k) 0), pF w.heap.size Kd.bool 4 (.slice (some ⟨g, 0, none⟩) (sizeC c + 1) cap) is]))
  case atStart =>
    have h1 : onesFrom (is.take 1) 0 = [] := by
      cases is with
      | nil => rfl
      | cons b bs =>
        have : b = false := by simpa using HI0.out
        subst this; rfl
    refine ⟨1, 0, none, 0, rfl, rfl, ⟨by omega, by omega, by omega⟩, ⟨by rw [h1]; rfl, by omega⟩, ⟨?_⟩⟩
    rw [h1]
    exact S3.out.take [0, 1] 3 (by simp) (by decide) (by decide)
  case round =>
    clear S3
    obtain ⟨k, n, V, cp, rfl, rfl, HK, HL, S⟩ := hrel
    by_cases hlt : k < sizeC c + 1
    · obtain ⟨cK, fK⟩ := S.out.cellRow 1 rfl false k hlt
      have hli : k < is.length := by rw [HIS.out]; exact hlt
      have hgk : is.getD k false = is[k] := by rw [List.getD_eq_getElem?_getD, List.getElem?_eq_getElem hli]; rfl
      rw [hgk] at cK
      have HT := Aside0.mk (show onesFrom (is.take (k + 1)) 0 = onesFrom (is.take k) 0 ++ if is[k] then [(k : Int)] else [] by
        rw [take_at hli, ones_snoc, List.length_take, Nat.min_eq_left (by omega)]; simp)
      have HKK := Aside0.mk hlt
      have hki : (k : Int) < ((sizeC c + 1 : Nat) : Int) := by omega
      clear hgk
      generalize is[k] = bk at *
      cases bk with
      | false =>
        go_wp2
        go_roundg (sizeC c + 1 - (k + 1))
        case measure => have := HK.out; have := HKK.out; omega
        case rel => exact ⟨k + 1, n, V, cp, rfl, val_step HKK.out (by have := HN.out; omega), ⟨by omega, HKK.out, by have := HK.out; omega⟩, ⟨by rw [HT.out]; simp; exact HL.out.1, by have := HL.out.2; omega⟩, ⟨by rw [HT.out]; simpa using S.out⟩⟩
      | true =>
        go_wp2_with (first | (at_builtin; refine Parts.appendL S.out 0 rfl flat_int rfl (.tmp 25) (.tmp 27) 24 (.int .i64 0) 8 rfl Try.underlying24 infoInt rfl (by decide) (by decide) (k : Int) [.int .i64 (k : Int)] rfl rfl rfl (by have := HL.out; have := HKK.out; have := HN.out; omega) ?_; intro V8 cap8 w8 h8; have S8 := Aside0.mk h8; clear h8))
        go_roundg (sizeC c + 1 - (k + 1))
        case measure => have := HK.out; have := HKK.out; omega
        case rel => exact ⟨k + 1, _, V8, cap8, rfl, val_step HKK.out (by have := HN.out; omega), ⟨by omega, HKK.out, by have := HK.out; omega⟩, ⟨by rw [HT.out]; simp, by have := HL.out; omega⟩, ⟨by rw [HT.out]; simpa using S8.out⟩⟩
    · have hk : k = sizeC c + 1 := by have := HK.out; omega
      subst hk
      rw [show is.take (sizeC c + 1) = is by rw [← HIS.out, List.take_length], ← HE.out] at S HL
      have hn2 := HL.out.1
      subst hn2
      go_wp2
      go_ret2
      exact ⟨V, cp, rfl, S.out.ownF 0 rfl, S.out.B⟩
set_option maxHeartbeats 4000000 in
set_option maxRecDepth 100000 in
theorem ref28_Of_bad (p : CP) (c : Circ) (w : World) (h : RC w p c) (hs : c.Fits) (hck : check c ≠ 0) :
    Calls Try.prog 11 #[cv p c] w fun e w' => RetLE w w' ([], check c) e := by
  have HV := Aside0.mk (fun W (hb : Below w.heap.size w W) => ref02_Check p c W (h.below hb) hs)
  have hu26 := Try.underlying26
  have c1 : (check c != 0) = true := bne_iff_ne.mpr hck
  have S0 := Aside0.mk ((Parts.start w).new 26 #[.int .i64 c.f0, .slice p.A1 c.f1.length p.c1, .slice p.A2 c.f2.length p.c2, .slice p.A3 c.f3.length p.c3, .slice p.A4 c.f4.length p.c4])
  clear h hs hck
  go_enter Try.func11, Try.ntmps11
  go_wp2_with fail
  refine (HV.out _ S0.out.B).mono ?_
  rintro e w1 ⟨rfl, hb1⟩
  have S1 := Aside0.mk (S0.out.below hb1)
  clear hb1
  go_wp2
  go_ret2
  exact ⟨none, 0, rfl, Kd.R_nil _ _ _ _ _, S1.out.B⟩
theorem ref28_Of (p : CP) (c : Circ) (w : World) (h : RC w p c) (hs : c.Fits) :
    Calls Try.prog 11 #[cv p c] w fun e w' => RetLE w w' (ofC c) e := by
  unfold ofC
  by_cases hc : check c = 0
  · rw [if_pos hc]; exact ref28_Of_ok p c w h hs hc
  · rw [if_neg hc]; exact ref28_Of_bad p c w h hs hc
end Go.Proofs.Ytiafojcbllbepaa.PH
