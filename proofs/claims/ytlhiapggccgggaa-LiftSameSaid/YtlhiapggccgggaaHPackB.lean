/- Several texts in one: Lift1, Truth, Index. -/
import Derived.Test.YtlhiapggccgggaaHPreds0
import Derived.Test.YtlhiapggccgggaaHValue
import Derived.Test.YtlhiapggccgggaaWEqStruct
import Derived.Deep.QuietTactic
import Derived.BigQuiet
/- lift.fits and lift.Check: what they answer. -/
namespace Go.Proofs.Ytlhiapggccgggaa.PH
open Go.RowKit Go.Proofs.YtlhiapggccgggaaW.PrintWords
set_option linter.unusedVariables false
set_option linter.unusedSimpArgs false

/-- Is a number the literal of a latch? -/
def isL (c : Circ) (l : Int) : Bool := decide (2 * (c.f0 + 1) ≤ l) && decide (l < 2 * (c.f0 + 1 + c.f1.length))
def fOk (tc : Circ) (x : Int) : Bool := decide (x = 0) || (decide (x = 1) || isL tc x)
def iOk (tc : Circ) (x : Int) : Bool := decide (0 ≤ x) && (decide (x % 2 = 0) && decide (x ≤ 2 * tc.f0))
def rOk (fr tc : Circ) (row : List Int) : Bool := decide ((row.length : Int) = fr.f0) && row.all (iOk tc)
def lOk (fr : Circ) (x : Int) : Bool := decide (x = -1) || isL fr x
def headOk (fr tc : Circ) (l : Lf) : Bool := decide (0 ≤ l.f0 ∧ l.f0 ≤ 100 ∧ 1 ≤ l.f1 ∧ l.f1 ≤ 4 ∧ l.f2.length = fr.f1.length ∧ l.f4.length = tc.f1.length ∧ (l.f3.length : Int) = l.f0 + l.f1)
/-- Is a lift valid for two valid circuits? -/
def liftOk (fr tc : Circ) (l : Lf) : Bool := headOk fr tc l && (l.f2.all (fOk tc) && (l.f3.all (rOk fr tc) && (l.f4.all (lOk fr) && decide (predCheck fr.f1.length l.f5 = 0))))

structure Lf.Fits (l : Lf) : Prop where
  p : l.f5.Fits
  i0 : I64 l.f0
  i1 : I64 l.f1
  i2 : ∀ x ∈ l.f2, I64 x
  i3 : ∀ r ∈ l.f3, ∀ x ∈ r, I64 x
  i4 : ∀ x ∈ l.f4, I64 x

structure Box7 (w : World) (B : Nat) (v0 v1 v2 v3 v4 v5 v6 : Value) : Prop where
  g0 : w.cell? ⟨B, 0, none⟩ = some v0
  g1 : w.cell? ⟨B, 1, none⟩ = some v1
  g2 : w.cell? ⟨B, 2, none⟩ = some v2
  g3 : w.cell? ⟨B, 3, none⟩ = some v3
  g4 : w.cell? ⟨B, 4, none⟩ = some v4
  g5 : w.cell? ⟨B, 5, none⟩ = some v5
  g6 : w.cell? ⟨B, 6, none⟩ = some v6
theorem Box7.below {w w1 : World} {B : Nat} {v0 v1 v2 v3 v4 v5 v6 : Value} (h : Box7 w B v0 v1 v2 v3 v4 v5 v6) (hb : Below w.heap.size w w1) : Box7 w1 B v0 v1 v2 v3 v4 v5 v6 :=
  ⟨pw_cell_below hb h.g0, pw_cell_below hb h.g1, pw_cell_below hb h.g2, pw_cell_below hb h.g3, pw_cell_below hb h.g4, pw_cell_below hb h.g5, pw_cell_below hb h.g6⟩
theorem Box7.lt {w : World} {B : Nat} {v0 v1 v2 v3 v4 v5 v6 : Value} (h : Box7 w B v0 v1 v2 v3 v4 v5 v6) : B < w.heap.size := World.block_lt_of_cell? _ _ h.g0

set_option maxRecDepth 100000 in
theorem lift_isLatch (p : CP) (c : Circ) (l : Int) (w : World) (h0 : 0 ≤ c.f0) (h1 : c.f0 ≤ 1000) (hs : c.f1.length ≤ 4000000) :
    Calls Try.prog 68 #[cv p c, .int .i64 l] w fun e w' => e = .returned (.bool (isL c l)) ∧ Below w.heap.size w w' := by
  have hu26 := Try.underlying26
  have HW := Aside0.mk (show wrap64 (2 * wrap64 (c.f0 + 1)) = 2 * (c.f0 + 1) by rw [wrap_in (x := c.f0 + 1) (by omega) (by omega), wrap_in (by omega) (by omega)])
  have HW2 := Aside0.mk (show wrap64 (2 * wrap64 (wrap64 (c.f0 + 1) + (c.f1.length : Int))) = 2 * (c.f0 + 1 + c.f1.length) by
    rw [wrap_in (x := c.f0 + 1) (by omega) (by omega), wrap_in (x := c.f0 + 1 + (c.f1.length : Int)) (by omega) (by omega), wrap_in (by omega) (by omega)])
  clear h0 h1 hs
  go_enter Try.func68, Try.ntmps68
  go_wp2
  all_goals
    go_ret
    refine ⟨ret_bool ?_, below_alloc (Below.refl _ _) _⟩
    have h1 := HW.out; have h2 := HW2.out
    unfold isL
    rw [Bool.eq_iff_iff]; simp; omega
set_option maxRecDepth 100000 in
theorem ref25_latch (p : CP) (c : Circ) (l : Int) (w : World) (h0 : 0 ≤ c.f0) (h1 : c.f0 ≤ 1000) (hs : c.f1.length ≤ 4000000) (hl : I64 l) :
    Calls Try.prog 69 #[cv p c, .int .i64 l] w fun e w' => e = .returned (.bool (isL c l)) ∧ Below w.heap.size w w' := by
  have hu26 := Try.underlying26
  have HW := Aside0.mk (show wrap64 (c.f0 + (c.f1.length : Int)) = c.f0 + c.f1.length by rw [wrap_in (by omega) (by omega)])
  have HQ := Aside0.mk (half_of hl)
  have HN := Aside0.mk (half_neg hl)
  have H0 := Aside0.mk h0
  clear h0 h1 hs hl
  go_enter Try.func69, Try.ntmps69
  go_wp2
  all_goals
    go_ret
    refine ⟨ret_bool ?_, below_alloc (Below.refl _ _) _⟩
    have h1 := HW.out; have h2 := HQ.out; have h3 := HN.out; have h4 := H0.out
    unfold isL
    rw [Bool.eq_iff_iff]; simp
    by_cases hl : 0 ≤ l
    · have := h2 hl; omega
    · have := h3 (by omega); omega
end Go.Proofs.Ytlhiapggccgggaa.PH

/- The reference's Truth and Value of a predicate. -/
namespace Go.Proofs.Ytlhiapggccgggaa.PH
open Go.RowKit Go.Proofs.YtlhiapggccgggaaW.PrintWords Go.Proofs.YtlhiapggccgggaaW.PrintLast
set_option linter.unusedVariables false
set_option linter.unusedSimpArgs false

theorem made_take (M : Nat) : (madeCells #[Value.bool false] (M + 1)).toList.take 1 = [Value.bool false] := by
  simp [madeCells, List.range_succ_eq_map]
theorem R_made (W : World) (base t M : Nat) (hb : base ≤ W.heap.size) (hm : M + 1 ≤ 9223372036854775807) : Kd.R Kd.bool t (W.alloc (.cells (madeCells #[Value.bool false] (M + 1)) t)) base (fun _ => True) (.slice (some ⟨W.heap.size, 0, none⟩) 1 (M + 1)) [false] :=
  ⟨fun _ _ => trivial, [.bool false], ⟨rfl, .inr ⟨W.heap.size, M + 1, _, rfl, hb, blk_new W _, by simp, by unfold maxLen; omega, by rw [size_madeCells]; exact (Nat.mul_one _).symm, made_take M⟩⟩, Kd.reps_scalar (enc := Value.bool) [false]⟩
theorem make_bools (M : Nat) (hM : M ≤ 1000) (W : World) : (Instr.makeSlice 46 (.int .i64 1) (.int .i64 ((M + 1 : Nat) : Int))).run Try.prog W = .ok (.slice (some ⟨W.heap.size, 0, none⟩) 1 (M + 1)) (W.alloc (.cells (madeCells #[Value.bool false] (M + 1)) 4)) := by
  obtain ⟨i0, hi, hz⟩ := Option.map_eq_some_iff.1 infoBool
  simp only [Prod.mk.injEq] at hz
  obtain ⟨h0, h1, h2⟩ := hz
  have h := run_make (P := Try.prog) W 46 4 i0 _ Try.underlying46 hi h0 .i64 .i64 1 ((M + 1 : Nat) : Int) (by omega) (by omega) (by rw [h2]; omega) (by omega)
  rw [h1, Nat.mul_one] at h
  exact h
/-- How a literal's value is reckoned. -/
theorem litV_at {v : List Bool} {l : Int} (hl : I64 l) (h0 : 0 ≤ l) (h1 : l / 2 < v.length) : ∃ (k : Nat) (hk : k < v.length), wrap64 (l.tdiv 2) = (k : Int) ∧ (!v[k] == (l.tmod 2 == 1)) = litV v l := by
  obtain ⟨k, hk⟩ : ∃ k : Nat, l / 2 = (k : Int) := ⟨(l / 2).toNat, by omega⟩
  have hkv : k < v.length := by omega
  refine ⟨k, hkv, (half_of hl h0).trans hk, ?_⟩
  have hr : l.tmod 2 = l % 2 := by
    have h1 : -2 < l.tmod 2 ∧ l.tmod 2 < 2 := ⟨Int.lt_tmod_of_pos l (by decide), Int.tmod_lt_of_pos l (by decide)⟩
    rw [← rem_of hl h0, wrap_in (by omega) (by omega)]
  unfold litV
  rw [hk, hr, Int.toNat_natCast, List.getD_eq_getElem?_getD, List.getElem?_eq_getElem hkv]
  rfl
structure TInv (w : World) (A : Option Addr) (k : Nat) (ands : List Gate) (lit : Int) (V : Option Addr) (n cap : Nat) (vals : List Bool) (wr : World) : Prop where
  BW : Below w.heap.size w wr
  BC : wr.heap[w.heap.size]? = some (.cells #[.slice A ands.length k, .int .i64 lit] 29 (0, 0))
  RV : Kd.R Kd.bool 4 wr w.heap.size (fun _ => True) (.slice V n cap) vals
theorem TInv.below {w wr w2 : World} {A : Option Addr} {k : Nat} {ands : List Gate} {lit : Int} {V : Option Addr} {n cap : Nat} {vals : List Bool} (h : TInv w A k ands lit V n cap vals wr) (hb : Below wr.heap.size wr w2) : TInv w A k ands lit V n cap vals w2 :=
  ⟨h.BW.trans (hb.mono h.BW.size), blk_below h.BC hb, Kd.R_below h.RV hb⟩
end Go.Proofs.Ytlhiapggccgggaa.PH

/- slices.Index at rows of gates. -/
namespace Go.Proofs.Ytlhiapggccgggaa.PH
open Go.RowKit Go.Proofs.YtlhiapggccgggaaW.PrintWords
set_option linter.unusedVariables false
set_option linter.unusedSimpArgs false

theorem eqGate2 (d : Nat) (w : World) (x0 y0 : Int) (x1 y1 : Int) :
    (Op.equalIn (d + 2) 93 (.agg #[.int .i64 x0, .int .i64 x1]) (.agg #[.int .i64 y0, .int .i64 y1])).run Try.prog w = .ok (x0 == y0 && (x1 == y1)) w := by
  refine eqA_of Try.underlying93 (by kernel_rfl) ?_
  refine eqf_cons (by rfl) (by go_simp; rfl) (by go_simp; rfl) (by go_simp) ?_
  exact eqf_last (by rfl) (by go_simp; rfl) (by go_simp; rfl) (by go_simp)
attribute [local go_sem high] eqGate2
/-- Where a gate stands first, from k on; -1. -/
def gidx (g : Gate) : List Gate → Nat → Int
  | [], _ => -1
  | x :: xs, k => if g.f0 = x.f0 ∧ g.f1 = x.f1 then (k : Int) else gidx g xs (k + 1)
set_option maxHeartbeats 2000000 in
set_option maxRecDepth 100000 in
theorem slices_Index_gate (A : Option Addr) (c : Nat) (l : List Gate) (g : Gate) (w : World) (h : RS kGate w A c l) :
    Calls Try.prog 94 #[.slice A l.length c, .agg #[.int .i64 g.f0, .int .i64 g.f1]] w fun e w' => e = .returned (.int .i64 (gidx g l 0)) ∧ Below w.heap.size w w' := by
  have HS := Aside0.mk h
  have HM := Aside0.mk h.max
  have hu71 := Try.underlying93
  have B0 := Aside0.mk (Box2.new w (.int .i64 g.f0) (.int .i64 g.f1) 93)
  obtain ⟨R, hR⟩ : ∃ R, gidx g l 0 = R := ⟨_, rfl⟩
  rw [hR]
  have HR := Aside0.mk hR
  clear h hR
  go_enter Try.func94, Try.ntmps94
  go_wp2
  go_loopg [8] l.length (fun gg s8 wr => ∃ k : Nat, s8 = .int .i64 k ∧ Aside0 (k ≤ l.length ∧ l.length - k ≤ gg) ∧ Aside0 (Below w.heap.size w wr) ∧ Aside0 (Box2 wr w.heap.size (.int .i64 g.f0) (.int .i64 g.f1)) ∧ Aside0 (gidx g (l.drop k) k = R))
  case atStart => exact ⟨0, rfl, ⟨by omega, by omega⟩, ⟨below_alloc (Below.refl _ _) _⟩, B0, HR⟩
  case round =>
    obtain ⟨k, rfl, HX, BW, HB, HA⟩ := hrel
    have hbl := HB.out.lt
    obtain ⟨x0, x1⟩ := HB.out
    have HBD := Aside0.mk (fun n => HB.out.below (pw_below_drewN (Below.refl _ _) n))
    by_cases hlt : k < l.length
    · obtain ⟨ad, e1, hx, hx1⟩ := at_gate (HS.out.below BW.out).r k hlt
      cases e1
      have HD := HA.out
      rw [drop_at hlt, gidx] at HD
      have HLT := Aside0.mk hlt
      generalize l[k] = x at *
      by_cases z : g.f0 = x.f0 ∧ g.f1 = x.f1
      · rw [if_pos z] at HD
        have HDD := Aside0.mk HD
        have hz0 : (g.f0 == x.f0) = true := beq_iff_eq.mpr z.1
        have hz1 : (g.f1 == x.f1) = true := beq_iff_eq.mpr z.2
        clear z HA HD
        go_wp2
        go_quiet (fail)
        go_wp2
        go_ret
        exact ⟨ret_int HDD.out, pw_below_drewN BW.out _⟩
      · rw [if_neg z] at HD
        have HDD := Aside0.mk HD
        have hzz : (g.f0 == x.f0 && g.f1 == x.f1) = false := by
          rw [Bool.eq_false_iff]; intro h; simp at h; exact z h
        clear z HA HD
        go_wp2
        go_quiet (fail)
        go_wp2
        go_roundg (l.length - (k + 1))
        case measure => have := HX.out; have := HLT.out; omega
        case rel => exact ⟨k + 1, val_step HLT.out HM.out, ⟨HLT.out, by have := HX.out; omega⟩, ⟨pw_below_drewN BW.out _⟩, ⟨HBD.out _⟩, HDD⟩
    · have HE : k = l.length := by have := HX.out.1; omega
      have HD := HA.out
      rw [HE, List.drop_length] at HD
      have HDD := Aside0.mk HD
      clear HD HE HA
      go_wp2
      go_ret
      exact ⟨ret_int HDD.out, BW.out⟩
end Go.Proofs.Ytlhiapggccgggaa.PH
