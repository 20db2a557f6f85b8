/- The builder of predicates: put. -/
import Derived.Test.YtlhiapggccgggaaHPut1
import Derived.Test.YtlhiapggccgggaaHBuild
namespace Go.Proofs.Ytlhiapggccgggaa.PH
open Go.RowKit Go.Proofs.YtlhiapggccgggaaW.PrintWords Go.Proofs.YtlhiapggccgggaaW.PrintLast
set_option linter.unusedVariables false
set_option linter.unusedSimpArgs false

theorem litNot_lit {l : Int} (h : IsLit l) : IsLit (litNot l) := by
  obtain ⟨h0, h1⟩ := h
  unfold litNot
  constructor <;> split <;> omega
theorem told_lit {own : List Int} {l : Int} (ho : ∀ x ∈ own, IsLit x) (h0 : 0 ≤ l) (h1 : l / 2 < own.length) : IsLit (told own l) := by
  obtain ⟨k, hk⟩ : ∃ k : Nat, l / 2 = (k : Int) := ⟨(l / 2).toNat, by omega⟩
  have hkv : k < own.length := by omega
  have hx := ho _ (List.getElem_mem hkv)
  unfold told
  rw [hk, Int.toNat_natCast, List.getD_eq_getElem?_getD, List.getElem?_eq_getElem hkv, Option.getD_some]
  split
  · exact litNot_lit hx
  · exact hx
theorem simpleR_lit {x y : Int} (hx : IsLit x) (hy : IsLit y) : IsLit (simpleR x y).1 := by
  have h0 : IsLit 0 := ⟨by decide, by decide⟩
  unfold simpleR
  repeat' split
  all_goals assumption
theorem andR_lit {ands : List Gate} {first : Int} {full : Bool} {x y : Int} (hx : IsLit x) (hy : IsLit y) (h0 : 0 ≤ first) (h1 : first + ands.length ≤ 1001) : IsLit (andR ands first full x y).2.2 ∧ first + (andR ands first full x y).1.length ≤ 1001 := by
  have hz : IsLit 0 := ⟨by decide, by decide⟩
  have hg := gidx_lt (gateOf x y) ands 0
  unfold andR
  split
  · exact ⟨simpleR_lit hx hy, h1⟩
  · split
    · split
      · exact ⟨hz, h1⟩
      · refine ⟨⟨by dsimp only; omega, by dsimp only; omega⟩, ?_⟩
        simp only [List.length_append, List.length_cons, List.length_nil]
        omega
    · exact ⟨⟨by dsimp only; omega, by dsimp only; omega⟩, h1⟩
/-- What builder.put does to what its gates have become, its gates, whether it is full. -/
def putR (first : Int) : List Gate → List Int → List Gate → Bool → List Int × List Gate × Bool
  | [], own, ands, full => (own, ands, full)
  | g :: gs, own, ands, full => putR first gs (own ++ [(andR ands first full (told own g.f0) (told own g.f1)).2.2]) (andR ands first full (told own g.f0) (told own g.f1)).1 (andR ands first full (told own g.f0) (told own g.f1)).2.1
def putB (p : Pr) (ls : List Int) (ands : List Gate) (first : Int) (full : Bool) : List Gate × Bool × Int :=
  ((putR first p.f0 (0 :: ls) ands full).2.1, (putR first p.f0 (0 :: ls) ands full).2.2, told (putR first p.f0 (0 :: ls) ands full).1 p.f1)
theorem putR_drop {first : Int} {gs : List Gate} {own : List Int} {ands : List Gate} {full : Bool} {k : Nat} (hk : k < gs.length) :
    putR first (gs.drop k) own ands full = putR first (gs.drop (k + 1)) (own ++ [(andR ands first full (told own gs[k].f0) (told own gs[k].f1)).2.2]) (andR ands first full (told own gs[k].f0) (told own gs[k].f1)).1 (andR ands first full (told own gs[k].f0) (told own gs[k].f1)).2.1 := by
  rw [drop_at hk, putR]
/-- All but block gB and block o is as it was. -/
def KeepB (w w' : World) (gB : Nat) (o : Option Nat) : Prop := ∀ k, k < w.heap.size → k ≠ gB → some k ≠ o → w'.heap[k]? = w.heap[k]?
/-- Rows of other types stay where one row grows and block gB changes. -/
theorem R_other {α β : Type} {d : Kd α} {d2 : Kd β} {e e2 base base2 : Nat} {w w1 : World} {ok ok2 : Nat → Prop} {v u : Value} {xs : List α} {ys : List β} (h : d.R e w base ok v xs) (h2 : d2.R e2 w base2 ok2 u ys) (hq : ∀ q, q ∈ e :: d.E → ∀ q2, q2 ∈ e2 :: d2.E → q ≠ q2)
    (hk : ∀ k, k < w.heap.size → some k ≠ u.ownBlock → (∀ q cells, w.heap[k]? = some (.cells cells q (0, 0)) → q ∈ e :: d.E → w1.heap[k]? = w.heap[k]?)) : d.R e w1 base ok v xs := by
  refine Kd.R_mono (Kd.R_step (Kd.R_bound h) ?_) (fun k hk => hk.1)
  rintro k ⟨_, _, _, q, hq1, cells, hc⟩ hlt
  refine hk k hlt ?_ q cells hc hq1
  intro e0
  obtain ⟨_, _, _, q2, hq2, cells2, hc2⟩ := (Kd.R_bound h2).1 k e0.symm
  rw [hc] at hc2
  cases hc2
  exact hq q hq1 q hq2 rfl
theorem R_grown2 {α β : Type} {d : Kd α} {d2 : Kd β} {e e2 base base2 : Nat} {w w1 : World} {ok ok2 : Nat → Prop} {v u : Value} {xs : List α} {ys : List β} (h : d.R e w base ok v xs) (h2 : d2.R e2 w base2 ok2 u ys) (hq : ∀ q, q ∈ e :: d.E → ∀ q2, q2 ∈ e2 :: d2.E → q ≠ q2) (hg : w.grownBy w1 u.ownBlock) : d.R e w1 base ok v xs :=
  R_other h h2 hq (fun k hlt hne _ _ _ _ => hg.block k hlt hne)
theorem R_keepB {α β : Type} {d : Kd α} {d2 : Kd β} {e e2 base base2 : Nat} {w w1 : World} {ok ok2 : Nat → Prop} {v u : Value} {xs : List α} {ys : List β} (h : d.R e w base ok v xs) (h2 : d2.R e2 w base2 ok2 u ys) (hq : ∀ q, q ∈ e :: d.E → ∀ q2, q2 ∈ e2 :: d2.E → q ≠ q2) {gB t : Nat} {cs : Array Value} (hB : w.heap[gB]? = some (.cells cs t (0, 0))) (ht : ∀ q, q ∈ e :: d.E → q ≠ t) (hk : KeepB w w1 gB u.ownBlock) : d.R e w1 base ok v xs :=
  R_other h h2 hq (fun k hlt hne q cells hc hqe => hk k hlt (by rintro rfl; rw [hB] at hc; cases hc; exact ht _ hqe rfl) hne)
/-- What holds in builder.put's loops. -/
structure QInv (w : World) (b0 gB : Nat) (E0 : Option Addr) (n0 cap0 : Nat) (A : Option Addr) (k n : Nat) (lit : Int) (gV : Nat) (V : Option Addr) (m cap : Nat) (own : List Int) (E : Option Addr) (capE : Nat) (ands : List Gate) (first : Int) (F : Value) (full : Bool) (wr : World) : Prop where
  BW : Below b0 w wr
  KW : KeepB w wr gB (Value.slice E0 n0 cap0).ownBlock
  SZ : w.heap.size ≤ wr.heap.size
  OE : ∀ j, (Value.slice E ands.length capE).ownBlock = some j → (Value.slice E0 n0 cap0).ownBlock = some j ∨ w.heap.size ≤ j
  BC : wr.heap[w.heap.size]? = some (.cells #[.slice A n k, .int .i64 lit] 29 (0, 0))
  BV : wr.heap[gV]? = some (.cells #[.slice V m cap] 24 (0, 0))
  RV : Kd.R (Kd.int .i64) 3 wr w.heap.size (fun _ => True) (.slice V m cap) own
  BI : BInv b0 gB E capE ands first F full wr
theorem QInv.below {w : World} {b0 gB : Nat} {E0 : Option Addr} {n0 cap0 : Nat} {A : Option Addr} {k n : Nat} {lit : Int} {gV : Nat} {V : Option Addr} {m cap : Nat} {own : List Int} {E : Option Addr} {capE : Nat} {ands : List Gate} {first : Int} {F : Value} {full : Bool} {wr w2 : World}
    (h : QInv w b0 gB E0 n0 cap0 A k n lit gV V m cap own E capE ands first F full wr) (hb0 : b0 ≤ w.heap.size) (hb : Below wr.heap.size wr w2) : QInv w b0 gB E0 n0 cap0 A k n lit gV V m cap own E capE ands first F full w2 :=
  ⟨h.BW.trans (hb.mono (Nat.le_trans hb0 h.SZ)), fun j h1 h2 h3 => (hb.block j (Nat.lt_of_lt_of_le h1 h.SZ)).trans (h.KW j h1 h2 h3), Nat.le_trans h.SZ hb.size, h.OE, blk_below h.BC hb, blk_below h.BV hb, Kd.R_below h.RV hb, ⟨blk_below h.BI.BB hb, Kd.R_below h.BI.RR hb⟩⟩
/-- A call on the builder. -/
theorem QInv.and {w : World} {b0 gB : Nat} {E0 : Option Addr} {n0 cap0 : Nat} {A : Option Addr} {k n : Nat} {lit : Int} {gV : Nat} {V : Option Addr} {m cap : Nat} {own : List Int} {E : Option Addr} {capE : Nat} {ands : List Gate} {first : Int} {F : Value} {full : Bool} {wr w2 : World} {r : List Gate × Bool × Int} {e : Ending}
    (h : QInv w b0 gB E0 n0 cap0 A k n lit gV V m cap own E capE ands first F full wr) (hr : RetB b0 gB E ands.length capE first F r wr w2 e) : ∃ E' cap', QInv w b0 gB E0 n0 cap0 A k n lit gV V m cap own E' cap' r.1 first F r.2.1 w2 := by
  obtain ⟨_, ⟨E', cap', hI, hO⟩, hB, hK⟩ := hr
  have hV : Value.ownBlock (.slice E ands.length capE) ≠ some gV := fun e0 => Kd.R_ne h.BI.RR h.BV (by decide) e0.symm
  have hC : Value.ownBlock (.slice E ands.length capE) ≠ some w.heap.size := fun e0 => Kd.R_ne h.BI.RR h.BC (by decide) e0.symm
  refine ⟨E', cap', h.BW.trans hB, fun j h1 h2 h3 => (hK j (Nat.lt_of_lt_of_le h1 h.SZ) h2 (fun e0 => ?_)).trans (h.KW j h1 h2 h3), Nat.le_trans h.SZ hB.size, fun j hj => ?_, (hK _ (blk_lt h.BC) (blk_ne h.BC h.BI.BB (by decide)) (fun e0 => hC e0.symm)).trans h.BC, (hK _ (blk_lt h.BV) (blk_ne h.BV h.BI.BB (by decide)) (fun e0 => hV e0.symm)).trans h.BV, R_keepB h.RV h.BI.RR (by decide) h.BI.BB (by decide) hK, hI⟩
  · rcases h.OE j e0.symm with h4 | h4
    · exact h3 h4.symm
    · omega
  · rcases hO j hj with h4 | h4
    · exact h.OE j h4
    · exact .inr (Nat.le_trans h.SZ h4)
/-- The own row grows, and its variable is written. -/
theorem QInv.pushed {w : World} {b0 gB : Nat} {E0 : Option Addr} {n0 cap0 : Nat} {A : Option Addr} {k n : Nat} {lit : Int} {gV : Nat} {V V' : Option Addr} {m cap m' cap' : Nat} {own own' : List Int} {E : Option Addr} {capE : Nat} {ands : List Gate} {first : Int} {F : Value} {full : Bool} {wr w2 : World}
    (h : QInv w b0 gB E0 n0 cap0 A k n lit gV V m cap own E capE ands first F full wr) (hb0 : b0 ≤ w.heap.size) (hV : w.heap.size ≤ gV) (hb : Below w.heap.size wr w2) (hg : wr.grownBy w2 (Value.slice V m cap).ownBlock) (hR : Kd.R (Kd.int .i64) 3 w2 w.heap.size (fun _ => True) (.slice V' m' cap') own') :
    QInv w b0 gB E0 n0 cap0 A k n lit gV V' m' cap' own' E capE ands first F full (w2.setCell ⟨gV, 0, none⟩ (.slice V' m' cap')) :=
  have bv := blk_grown h.BV hg (Kd.R_ne h.RV h.BV (by decide))
  ⟨Below.setCell (h.BW.trans (hb.mono hb0)) (p := ⟨gV, 0, none⟩) (Nat.le_trans hb0 hV) _,
    fun j h1 h2 h3 => (Below.heap_setCell _ _ _ _ (show j ≠ gV by omega)).trans ((hg.block j (Nat.lt_of_lt_of_le h1 h.SZ) (fun e0 => by have := Kd.R_base h.RV j e0.symm; omega)).trans (h.KW j h1 h2 h3)),
    by have h1 := hb.size; have h2 := h.SZ; simp only [World.size_setCell]; omega, h.OE, blk_far (blk_grown h.BC hg (Kd.R_ne h.RV h.BC (by decide))) (blk_ne h.BC h.BV (by decide)) _, by simpa using blk_set bv 0 (.slice V' m' cap'), Kd.R_set hR bv (by decide) 0 _,
    ⟨blk_far (blk_grown h.BI.BB hg (Kd.R_ne h.RV h.BI.BB (by decide))) (blk_ne h.BI.BB h.BV (by decide)) _, Kd.R_set (R_grown2 h.BI.RR h.RV (by decide) hg) bv (by decide) 0 _⟩⟩
end Go.Proofs.Ytlhiapggccgggaa.PH
