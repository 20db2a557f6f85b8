/- gates.Kind. -/
import Derived.Test.YtiafojcbllbepaaHSep
import Derived.Test.YtiafojcbllbepaaHIdRef
import Derived.Deep.RegionHeld3
import Derived.Deep.QuietTactic
import Derived.BigQuiet
namespace Go.Proofs.Ytiafojcbllbepaa.PH
open Go.RowKit Go.Proofs.YtiafojcbllbepaaW.PrintWords Go.Proofs.YtiafojcbllbepaaW.PrintLast
set_option linter.unusedVariables false
set_option linter.unusedSimpArgs false

/-- Where the variables of a kind begin. -/
def kStart (c : Circ) (k : Nat) : Int := if k = 0 then 1 else if k = 1 then 1 + c.f0 else 1 + c.f0 + c.f1.length
def kindK (c : Circ) (v : Int) : Nat → Int × Int
  | 0 => (0, 0)
  | k + 1 => if kStart c k ≤ v then ((k : Int) + 1, v - kStart c k) else kindK c v k
def kindV (c : Circ) (v : Int) : Int × Int := kindK c v 3
theorem kindV_eq (c : Circ) (v : Int) : kindV c v = if 1 + c.f0 + c.f1.length ≤ v then (3, v - (1 + c.f0 + c.f1.length)) else if 1 + c.f0 ≤ v then (2, v - (1 + c.f0)) else if 1 ≤ v then (1, v - 1) else (0, 0) := rfl
set_option maxHeartbeats 4000000 in
set_option maxRecDepth 100000 in
theorem gates_Kind (p : CP) (c : Circ) (v : Int) (w : World) (h : RC w p c) (hs : c.Fits) (hc : check c = 0) (h0 : 0 ≤ v) (h1 : v < 1 + c.f0 + c.f1.length + c.f2.length) :
    Calls Try.prog 22 #[cv p c, .int .i64 v] w fun e w' => e = .returned (.tuple #[.int .i64 (kindV c v).1, .int .i64 (kindV c v).2, .int .i64 0]) ∧ Below w.heap.size w w' := by
  have HCK := Aside0.mk (fun W (hw : Below w.heap.size w W) => gates_Check p c W (h.below hw) hs)
  have HCC := Aside0.mk hc
  have hg := gCheck_ok hc
  have ST := Aside0.mk (fun W => gates_starts_any c.f0 p.A1 c.f1.length p.c1 p.A2 c.f2.length p.c2 p.A3 c.f3.length p.c3 p.A4 c.f4.length p.c4 W (by omega) (by omega) (by omega) (by omega))
  have HG := Aside0.mk hg
  have H0 := Aside0.mk h0
  have H1 := Aside0.mk h1
  have hu26 := Try.underlying26
  have hu88 := Try.underlying88
  have S := Aside0.mk ((Parts.start w).new 26 #[.int .i64 c.f0, .slice p.A1 c.f1.length p.c1, .slice p.A2 c.f2.length p.c2, .slice p.A3 c.f3.length p.c3, .slice p.A4 c.f4.length p.c4])
  obtain ⟨⟨kd, ix⟩, hk⟩ : ∃ r, kindV c v = r := ⟨_, rfl⟩
  rw [hk]
  have HK := Aside0.mk (show kindK c v 3 = (kd, ix) from hk)
  clear h hs hc hg h0 h1 hk
  go_enter Try.func22, Try.ntmps22
  go_wp2_with fail
  refine (HCK.out _ S.out.B).mono ?_
  rw [HCC.out]
  rintro e w1 ⟨rfl, hb⟩
  replace S := Aside0.mk (S.out.below hb)
  clear hb HCK
  obtain ⟨c0, c1, c2, c3, c4⟩ := blk5 (S.out.blk 0 rfl)
  go_wp2_with fail
  refine (ST.out _).mono ?_
  rintro e w2 ⟨rfl, hb⟩
  replace S := Aside0.mk ((S.out.below hb).new 88 #[.int .i64 1, .int .i64 (1 + c.f0), .int .i64 (1 + c.f0 + c.f1.length), .int .i64 (1 + c.f0 + c.f1.length + c.f2.length)])
  clear hb ST c0 c1 c2 c3 c4
  go_upto_region 5 with (fail)
  generalize w2.heap.size = gA at *
  generalize w2.alloc (.cells #[.int .i64 1, .int .i64 (1 + c.f0), .int .i64 (1 + c.f0 + c.f1.length), .int .i64 (1 + c.f0 + c.f1.length + c.f2.length)] 88) = w3 at *
  have hv0 : decide (v < 0) = false := decide_eq_false (by have := H0.out; omega)
  have hv3 : decide (1 + c.f0 + (c.f1.length : Int) + (c.f2.length : Int) ≤ v) = false := decide_eq_false (by have := H1.out; omega)
  obtain ⟨s3, _⟩ := S.out.cell 0 rfl 3 rfl
  go_wp2
  clear hv0 hv3 s3
  go_loopg [4, 5, 9, 25] 3 (fun gg s4 s5 _ s25 wr => ∃ k : Nat, s4 = .int .i64 (kindK c v k).1 ∧ s5 = .int .i64 (kindK c v k).2 ∧ s25 = .int .i64 k ∧ Aside0 (k ≤ 3 ∧ 3 - k ≤ gg) ∧ Aside0 (Below w3.heap.size w3 wr))
  case atStart => exact ⟨0, rfl, rfl, rfl, ⟨by omega, by omega⟩, ⟨Below.refl _ _⟩⟩
  case round =>
    obtain ⟨k, rfl, rfl, rfl, HX, BW⟩ := hrel
    have S2 := Aside0.mk (S.out.below BW.out)
    obtain ⟨s0, _⟩ := S2.out.cell 0 rfl 0 rfl
    obtain ⟨s1, _⟩ := S2.out.cell 0 rfl 1 rfl
    obtain ⟨s2, _⟩ := S2.out.cell 0 rfl 2 rfl
    by_cases hk3 : k = 3
    · subst hk3
      rw [HK.out]
      go_wp2
      refine bodyPost_ret (results_tmp3 rfl _ _ _) rfl ?_
      exact ⟨rfl, S2.out.B⟩
    · obtain ⟨a, b, hab⟩ : ∃ a b, kindK c v k = (a, b) := ⟨_, _, rfl⟩
      have HAB := Aside0.mk hab
      rw [hab]
      clear hab
      have hk : k = 0 ∨ k = 1 ∨ k = 2 := by have := HX.out; omega
      clear hk3
      rcases hk with rfl | rfl | rfl
      · by_cases hle : 1 ≤ v
        · have hd : decide (1 ≤ v) = true := decide_eq_true hle
          have HN := Aside0.mk (show kindK c v (0 + 1) = (0 + 1, v - (1)) from if_pos hle)
          have hw : wrap64 (v - (1)) = v - (1) := wrap_in (by have := H0.out; have := H1.out; have := HG.out; omega) (by have := H0.out; have := H1.out; have := HG.out; omega)
          clear hle
          go_wp2
          go_quiet (fail)
          go_wp2
          go_roundg (3 - (0 + 1))
          case measure => have := HX.out; omega
          case rel => exact ⟨0 + 1, by rw [HN.out]; rfl, by rw [HN.out, hw], rfl, ⟨by omega, by omega⟩, ⟨BW.out.trans ((pw_below_drewN (Below.refl _ _) _).mono BW.out.size)⟩⟩
        · have hd : decide (1 ≤ v) = false := decide_eq_false hle
          have HN := Aside0.mk (show kindK c v (0 + 1) = (a, b) from (if_neg hle).trans HAB.out)
          clear hle
          go_wp2
          go_roundg (3 - (0 + 1))
          case measure => have := HX.out; omega
          case rel => exact ⟨0 + 1, by rw [HN.out], by rw [HN.out], rfl, ⟨by omega, by omega⟩, BW⟩
      · by_cases hle : 1 + c.f0 ≤ v
        · have hd : decide (1 + c.f0 ≤ v) = true := decide_eq_true hle
          have HN := Aside0.mk (show kindK c v (1 + 1) = (1 + 1, v - (1 + c.f0)) from if_pos hle)
          have hw : wrap64 (v - (1 + c.f0)) = v - (1 + c.f0) := wrap_in (by have := H0.out; have := H1.out; have := HG.out; omega) (by have := H0.out; have := H1.out; have := HG.out; omega)
          clear hle
          go_wp2
          go_quiet (fail)
          go_wp2
          go_roundg (3 - (1 + 1))
          case measure => have := HX.out; omega
          case rel => exact ⟨1 + 1, by rw [HN.out]; rfl, by rw [HN.out, hw], rfl, ⟨by omega, by omega⟩, ⟨BW.out.trans ((pw_below_drewN (Below.refl _ _) _).mono BW.out.size)⟩⟩
        · have hd : decide (1 + c.f0 ≤ v) = false := decide_eq_false hle
          have HN := Aside0.mk (show kindK c v (1 + 1) = (a, b) from (if_neg hle).trans HAB.out)
          clear hle
          go_wp2
          go_roundg (3 - (1 + 1))
          case measure => have := HX.out; omega
          case rel => exact ⟨1 + 1, by rw [HN.out], by rw [HN.out], rfl, ⟨by omega, by omega⟩, BW⟩
      · by_cases hle : 1 + c.f0 + (c.f1.length : Int) ≤ v
        · have hd : decide (1 + c.f0 + (c.f1.length : Int) ≤ v) = true := decide_eq_true hle
          have HN := Aside0.mk (show kindK c v (2 + 1) = (2 + 1, v - (1 + c.f0 + (c.f1.length : Int))) from if_pos hle)
          have hw : wrap64 (v - (1 + c.f0 + (c.f1.length : Int))) = v - (1 + c.f0 + (c.f1.length : Int)) := wrap_in (by have := H0.out; have := H1.out; have := HG.out; omega) (by have := H0.out; have := H1.out; have := HG.out; omega)
          clear hle
          go_wp2
          go_quiet (fail)
          go_wp2
          go_roundg (3 - (2 + 1))
          case measure => have := HX.out; omega
          case rel => exact ⟨2 + 1, by rw [HN.out]; rfl, by rw [HN.out, hw], rfl, ⟨by omega, by omega⟩, ⟨BW.out.trans ((pw_below_drewN (Below.refl _ _) _).mono BW.out.size)⟩⟩
        · have hd : decide (1 + c.f0 + (c.f1.length : Int) ≤ v) = false := decide_eq_false hle
          have HN := Aside0.mk (show kindK c v (2 + 1) = (a, b) from (if_neg hle).trans HAB.out)
          clear hle
          go_wp2
          go_roundg (3 - (2 + 1))
          case measure => have := HX.out; omega
          case rel => exact ⟨2 + 1, by rw [HN.out], by rw [HN.out], rfl, ⟨by omega, by omega⟩, BW⟩
end Go.Proofs.Ytiafojcbllbepaa.PH
