/- The reference's Truth and Value of a predicate. -/
import Derived.Test.YtlhiapggccgggaaHValue
namespace Go.Proofs.Ytlhiapggccgggaa.PH
open Go.RowKit Go.Proofs.YtlhiapggccgggaaW.PrintWords Go.Proofs.YtlhiapggccgggaaW.PrintLast
set_option linter.unusedVariables false
set_option linter.unusedSimpArgs false

theorem made_take (M : Nat) : (madeCells #[Value.bool false] (M + 1)).toList.take 1 = [Value.bool false] := by
  simp [madeCells, List.range_succ_eq_map]
theorem R_made (W : World) (base t M : Nat) (hb : base ≤ W.heap.size) (hm : M + 1 ≤ 9223372036854775807) : Kd.R Kd.bool t (W.alloc (.cells (madeCells #[Value.bool false] (M + 1)) t)) base (fun _ => True) (.slice (some ⟨W.heap.size, 0, none⟩) 1 (M + 1)) [false] :=
  ⟨fun _ _ => trivial, [.bool false], ⟨rfl, .inr ⟨W.heap.size, M + 1, _, rfl, hb, blk_new W _, by simp, by unfold maxLen; omega, by rw [size_madeCells]; exact (Nat.mul_one _).symm, made_take M⟩⟩, Kd.reps_scalar (enc := Value.bool) [false]⟩
theorem make_bools (M : Nat) (hM : M ≤ 1000) (W : World) : (Instr.makeSlice 46 (.int .i64 1) (.int .i64 ((M + 1 : Nat) : Int))).run Try.prog W = .ok (.slice (some ⟨W.heap.size, 0, none⟩) 1 (M + 1)) (W.alloc (.cells (madeCells #[Value.bool false] (M + 1)) 4)) := by
  obtain ⟨i0, hi, hz⟩ := Option.map_eq_some_iff.1 infoBool
  simp only [Prod.mk.injEq] at hz
  obtain ⟨h0, h1, h2⟩ := hz
  have h := run_make (P := Try.prog) W 46 4 i0 _ Try.underlying46 hi h0 .i64 .i64 1 ((M + 1 : Nat) : Int) (by omega) (by omega) (by rw [h2]; omega) (by omega)
  rw [h1, Nat.mul_one] at h
  exact h
/-- How a literal's value is reckoned. -/
theorem litV_at {v : List Bool} {l : Int} (hl : I64 l) (h0 : 0 ≤ l) (h1 : l / 2 < v.length) : ∃ (k : Nat) (hk : k < v.length), wrap64 (l.tdiv 2) = (k : Int) ∧ (!v[k] == (l.tmod 2 == 1)) = litV v l := by
  obtain ⟨k, hk⟩ : ∃ k : Nat, l / 2 = (k : Int) := ⟨(l / 2).toNat, by omega⟩
  have hkv : k < v.length := by omega
  refine ⟨k, hkv, (half_of hl h0).trans hk, ?_⟩
  have hr : l.tmod 2 = l % 2 := by
    have h1 : -2 < l.tmod 2 ∧ l.tmod 2 < 2 := ⟨Int.lt_tmod_of_pos l (by decide), Int.tmod_lt_of_pos l (by decide)⟩
    rw [← rem_of hl h0, wrap_in (by omega) (by omega)]
  unfold litV
  rw [hk, hr, Int.toNat_natCast, List.getD_eq_getElem?_getD, List.getElem?_eq_getElem hkv]
  rfl
structure TInv (w : World) (A : Option Addr) (k : Nat) (ands : List Gate) (lit : Int) (V : Option Addr) (n cap : Nat) (vals : List Bool) (wr : World) : Prop where
  BW : Below w.heap.size w wr
  BC : wr.heap[w.heap.size]? = some (.cells #[.slice A ands.length k, .int .i64 lit] 29 (0, 0))
  RV : Kd.R Kd.bool 4 wr w.heap.size (fun _ => True) (.slice V n cap) vals
theorem TInv.below {w wr w2 : World} {A : Option Addr} {k : Nat} {ands : List Gate} {lit : Int} {V : Option Addr} {n cap : Nat} {vals : List Bool} (h : TInv w A k ands lit V n cap vals wr) (hb : Below wr.heap.size wr w2) : TInv w A k ands lit V n cap vals w2 :=
  ⟨h.BW.trans (hb.mono h.BW.size), blk_below h.BC hb, Kd.R_below h.RV hb⟩
end Go.Proofs.Ytlhiapggccgggaa.PH
