/- The law TracesNames: its circuit and runs, what its calls answer, in plain Lean; the rows that it writes out. -/
import Derived.Test.YtchhbkicplgmhaaHAlive6
import Derived.Test.YtchhbkicplgmhaaHTwin7
namespace Go.Proofs.Ytchhbkicplgmhaa.PH
open Go.RowKit Go.Proofs.YtchhbkicplgmhaaW.PrintWords Go.Proofs.YtchhbkicplgmhaaW.PrintLast
set_option linter.unusedVariables false
set_option linter.unusedSimpArgs false

def naC : Circ := ⟨1, [⟨2, 0⟩, ⟨6, 1⟩, ⟨4, 2⟩], [], [0, 4, 6], [3]⟩
def naF : List Bool := [false, true, true]
def naI : List (List Bool) := [[false], [false], [true]]
def naT : Run := ⟨naF, naI⟩
def naT2 : Run := ⟨naF, [[false], [false]]⟩
def naB (i : Nat) : List Bool := [[false, true, false], [true, true, true], [false, false, true]].getD i []
def naW (i : Nat) : Bool := [true, false, false].getD i false
/-- The runs that are not right. -/
def naX (i : Nat) : Run := match i with
  | 0 => ⟨[], naI⟩
  | 1 => ⟨[true, true, true], naI⟩
  | 2 => ⟨[false, false, true], naI⟩
  | 3 => ⟨naF, []⟩
  | 4 => ⟨naF, [[false], [false], [true, true]]⟩
  | _ => ⟨naF, List.replicate 101 []⟩
def naE (i : Nat) : Int := if i < 5 then 8 else 4
instance (x : Int) : Decidable (I64 x) := inferInstanceAs (Decidable (_ ∧ _))
theorem na_fits : naC.Fits := ⟨by decide, by decide, by decide, by decide, by simp [naC], by decide, by decide⟩
def negC : Circ := ⟨-1, [], [], [], []⟩
theorem neg_fits : negC.Fits := ⟨by decide, by decide, by decide, by simp [negC], by simp [negC], by simp [negC], by simp [negC]⟩
def naS : List (List Bool) := [[false, true, true], [false, true, false], [false, true, false]]
theorem na1 : statesC naC naT = (naS, 0) := by decide +kernel
theorem na2 : rightC naC naT = (2, 0) := by decide +kernel
theorem na3 : witC naC naT = (0, 57) := by decide +kernel
theorem na4 : witC naC naT2 = (2, 0) := by decide +kernel
theorem na5 : cutC naC naT = (⟨naF, [[false]]⟩, 0) := by decide +kernel
theorem na6 (i : Nat) (h : i < 3) : firstB naC (naB i) = (naW i, 0) := by
  match i, h with
  | 0, _ => decide +kernel
  | 1, _ => decide +kernel
  | 2, _ => decide +kernel
theorem na7 : firstB naC [] = (false, 2) := by decide +kernel
theorem na8 : firstB negC [] = (false, 8) := by decide +kernel
theorem na9 : cutC exC (runT 1) = (⟨[], []⟩, 6) := by decide +kernel
structure NaX (i : Nat) : Prop where
  s : statesC naC (naX i) = ([], naE i)
  r : rightC naC (naX i) = (0, naE i)
  w : witC naC (naX i) = (0, naE i)
  c : cutC naC (naX i) = (⟨[], []⟩, naE i)
  k : tCheck naC (naX i) = naE i
theorem na_x (i : Nat) (h : i < 6) : NaX i := by
  match i, h with
  | 0, _ => exact ⟨by decide +kernel, by decide +kernel, by decide +kernel, by decide +kernel, by decide +kernel⟩
  | 1, _ => exact ⟨by decide +kernel, by decide +kernel, by decide +kernel, by decide +kernel, by decide +kernel⟩
  | 2, _ => exact ⟨by decide +kernel, by decide +kernel, by decide +kernel, by decide +kernel, by decide +kernel⟩
  | 3, _ => exact ⟨by decide +kernel, by decide +kernel, by decide +kernel, by decide +kernel, by decide +kernel⟩
  | 4, _ => exact ⟨by decide +kernel, by decide +kernel, by decide +kernel, by decide +kernel, by decide +kernel⟩
  | 5, _ => exact ⟨by decide +kernel, by decide +kernel, by decide +kernel, by decide +kernel, by decide +kernel⟩
/-! ### Rows that are written out -/
theorem RS.lit_ints {w : World} {g : Nat} {t : TypeId} (l : List Int) (hm : l.length ≤ 9223372036854775807) (h : w.heap[g]? = some (.cells (l.map (Value.int .i64)).toArray t (0, 0))) : RS (Kd.int .i64) w (some ⟨g, 0, none⟩) l.length l :=
  RS.row hm (Nat.le_refl _) (fun j p hj => ⟨[.int .i64 p], rfl, rfl, fun i u hu => by
    cases i with
    | zero =>
      have e : Value.int .i64 p = u := by simpa using hu
      subst e
      have h2 := blk_cell h j
      rw [show (Kd.int .i64).sz = 1 from rfl, Nat.mul_one, Nat.add_zero, h2]
      simp [hj]
    | succ i => simp at hu⟩)
theorem RS.lit_bools {w : World} {g : Nat} {t : TypeId} (l : List Bool) (hm : l.length ≤ 9223372036854775807) (h : w.heap[g]? = some (.cells (l.map Value.bool).toArray t (0, 0))) : RS Kd.bool w (some ⟨g, 0, none⟩) l.length l :=
  RS.row hm (Nat.le_refl _) (fun j p hj => ⟨[.bool p], rfl, rfl, fun i u hu => by
    cases i with
    | zero =>
      have e : Value.bool p = u := by simpa using hu
      subst e
      have h2 := blk_cell h j
      rw [show Kd.bool.sz = 1 from rfl, Nat.mul_one, Nat.add_zero, h2]
      simp [hj]
    | succ i => simp at hu⟩)
/-- Rows of bools, written out: where each lies, and what it holds. -/
theorem RS.lit_grid {w : World} {g : Nat} {t : TypeId} (l : List (Option Addr × Nat × List Bool)) (hm : l.length ≤ 9223372036854775807) (h : w.heap[g]? = some (.cells (l.map (fun x => Value.slice x.1 x.2.2.length x.2.1)).toArray t (0, 0)))
    (hr : ∀ x ∈ l, RS Kd.bool w x.1 x.2.1 x.2.2) : RS (Kd.slice 4 Kd.bool) w (some ⟨g, 0, none⟩) l.length (l.map (fun x => x.2.2)) :=
  RS.row (by rw [List.length_map]; exact hm) (by rw [List.length_map]; exact Nat.le_refl _) (fun j p hj => by
    rw [List.getElem?_map] at hj
    obtain ⟨x, hx, rfl⟩ := Option.map_eq_some_iff.1 hj
    have hxr := hr x (List.mem_of_getElem? hx)
    refine ⟨[.slice x.1 x.2.2.length x.2.1], rfl, ⟨x.1, x.2.1, rfl, hxr.h, hxr.r⟩, fun i u hu => ?_⟩
    cases i with
    | zero =>
      have e : Value.slice x.1 x.2.2.length x.2.1 = u := by simpa using hu
      subst e
      have h2 := blk_cell h j
      rw [show (Kd.slice 4 Kd.bool).sz = 1 from rfl, Nat.mul_one, Nat.add_zero, h2]
      simp [hx]
    | succ i => simp at hu)
theorem RS.na_latches {w : World} {g : Nat} {t : TypeId} (h : w.heap[g]? = some (.cells #[.int .i64 2, .int .i64 0, .int .i64 6, .int .i64 1, .int .i64 4, .int .i64 2] t (0, 0))) : RS kLatch w (some ⟨g, 0, none⟩) 3 naC.f1 :=
  RS.row (by decide) (by decide) (fun j p hj => by
    match j, hj with
    | 0, hj =>
      have e : (⟨2, 0⟩ : Latch) = p := by simpa [naC] using hj
      subst e
      refine ⟨[.int .i64 2, .int .i64 0], rfl, kLatch_mk w ⟨2, 0⟩, fun i u hu => ?_⟩
      match i, hu with
      | 0, hu => have e : Value.int .i64 2 = u := by simpa using hu
                 subst e; exact (blk_cell h 0).trans rfl
      | 1, hu => have e : Value.int .i64 0 = u := by simpa using hu
                 subst e; exact (blk_cell h 1).trans rfl
    | 1, hj =>
      have e : (⟨6, 1⟩ : Latch) = p := by simpa [naC] using hj
      subst e
      refine ⟨[.int .i64 6, .int .i64 1], rfl, kLatch_mk w ⟨6, 1⟩, fun i u hu => ?_⟩
      match i, hu with
      | 0, hu => have e : Value.int .i64 6 = u := by simpa using hu
                 subst e; exact (blk_cell h 2).trans rfl
      | 1, hu => have e : Value.int .i64 1 = u := by simpa using hu
                 subst e; exact (blk_cell h 3).trans rfl
    | 2, hj =>
      have e : (⟨4, 2⟩ : Latch) = p := by simpa [naC] using hj
      subst e
      refine ⟨[.int .i64 4, .int .i64 2], rfl, kLatch_mk w ⟨4, 2⟩, fun i u hu => ?_⟩
      match i, hu with
      | 0, hu => have e : Value.int .i64 4 = u := by simpa using hu
                 subst e; exact (blk_cell h 4).trans rfl
      | 1, hu => have e : Value.int .i64 2 = u := by simpa using hu
                 subst e; exact (blk_cell h 5).trans rfl
    | j + 3, hj => simp [naC] at hj)
/-- What is laid ahead of all: the circuit and the run, boxed; their rows. -/
structure NaI (w : World) (gC gT : Nat) (p : CP) (q : TP) (wr : World) : Prop where
  BW : Below w.heap.size w wr
  BC : wr.heap[gC]? = some (.cells #[.int .i64 1, .slice p.A1 3 p.c1, .slice p.A2 0 p.c2, .slice p.A3 3 p.c3, .slice p.A4 1 p.c4] 26 (0, 0))
  BT : wr.heap[gT]? = some (.cells #[.slice q.A0 3 q.c0, .slice q.A1 3 q.c1] 30 (0, 0))
  RC : RC wr p naC
  RT : RT wr q naT
theorem NaI.below {w : World} {gC gT : Nat} {p : CP} {q : TP} {wr w2 : World} (h : NaI w gC gT p q wr) (hb : Below wr.heap.size wr w2) : NaI w gC gT p q w2 :=
  ⟨h.BW.trans (hb.mono h.BW.size), blk_below h.BC hb, blk_below h.BT hb, h.RC.below hb, h.RT.below hb⟩
/-- A copy of the run, its rows in blocks of their own. -/
def RetNaT (w w' : World) (e : Ending) : Prop := ∃ gF cF gI cI gO : Nat, e = .returned (.agg #[.slice (some ⟨gF, 0, none⟩) 3 cF, .slice (some ⟨gI, 0, none⟩) 3 cI]) ∧ (gF < gO ∧ gO < gI ∧ w.heap.size ≤ gF ∧ gI < w'.heap.size) ∧
  Kd.R Kd.bool 4 w' w.heap.size (fun k => k < gO) (.slice (some ⟨gF, 0, none⟩) 3 cF) naF ∧ Kd.R (Kd.slice 4 Kd.bool) 27 w' w.heap.size (fun k => gO < k) (.slice (some ⟨gI, 0, none⟩) 3 cI) naI ∧ Below w.heap.size w w'
theorem na_Twin (q : TP) (w : World) (ht : RT w q naT) : Calls Try.prog 12 #[tv q naT] w fun e w' => RetNaT w w' e :=
  (ref06_TwinS q naT w ht (by decide) (by decide) (by decide)).mono fun e w' h => by
    obtain ⟨q, gO, rfl, hf, hi, hb⟩ := h
    obtain ⟨gF, cF, e1, h1, h2, _⟩ := Kd.R_form hf (by decide)
    obtain ⟨gI, cI, e2, h3, h4, _⟩ := Kd.R_form hi (by decide)
    obtain ⟨A0, c0, A1, c1⟩ := q
    dsimp only at e1 e2 hf hi
    cases e1
    cases e2
    exact ⟨gF, _, gI, _, gO, rfl, ⟨hf.1 gF (by simp [Value.ownBlock]), hi.1 gI (by simp [Value.ownBlock]), h1, h4⟩, hf, hi, hb⟩
/-- What is there when the loops begin. -/
structure NaL (w : World) (gC gT : Nat) (p : CP) (q : TP) (SA : Option Addr) (sc : Nat) (gK : Nat) (qc : TP) (gF gW : Nat) (wr : World) : Prop where
  I : NaI w gC gT p q wr
  S : RS (Kd.slice 4 Kd.bool) wr SA sc naS
  K : wr.heap[gK]? = some (.cells #[.slice qc.A0 3 qc.c0, .slice qc.A1 1 qc.c1] 30 (0, 0))
  F : RS (Kd.slice 4 Kd.bool) wr (some ⟨gF, 0, none⟩) 3 [naB 0, naB 1, naB 2]
  W : RS Kd.bool wr (some ⟨gW, 0, none⟩) 3 [naW 0, naW 1, naW 2]
theorem NaL.below {w : World} {gC gT : Nat} {p : CP} {q : TP} {SA : Option Addr} {sc : Nat} {gK : Nat} {qc : TP} {gF gW : Nat} {wr w2 : World} (h : NaL w gC gT p q SA sc gK qc gF gW wr) (hb : Below wr.heap.size wr w2) : NaL w gC gT p q SA sc gK qc gF gW w2 :=
  ⟨h.I.below hb, h.S.below hb, blk_below h.K hb, h.F.below hb, h.W.below hb⟩
theorem NaL.first {w : World} {gC gT : Nat} {p : CP} {q : TP} {SA : Option Addr} {sc : Nat} {gK : Nat} {qc : TP} {gF gW : Nat} {wr : World} (h : NaL w gC gT p q SA sc gK qc gF gW wr) (i : Nat) (hi : i < 3) :
    ∃ B c, wr.cell? ⟨gF, i, none⟩ = some (.slice B (naB i).length c) ∧ RS Kd.bool wr B c (naB i) ∧ wr.cell? ⟨gW, i, none⟩ = some (.bool (naW i)) := by
  obtain ⟨ad, B, c, e1, hx, hr⟩ := at_row h.F.r i hi
  obtain ⟨bd, e2, hy⟩ := at_bool h.W.r i hi
  cases e1
  cases e2
  have h1 : [naB 0, naB 1, naB 2][i]'hi = naB i := by match i, hi with
    | 0, _ => rfl
    | 1, _ => rfl
    | 2, _ => rfl
  have h2 : [naW 0, naW 1, naW 2][i]'hi = naW i := by match i, hi with
    | 0, _ => rfl
    | 1, _ => rfl
    | 2, _ => rfl
  rw [h1, add_plain] at hx
  rw [h1] at hr
  rw [h2, add_plain] at hy
  exact ⟨B, c, hx, hr, hy⟩
/-- A run that is not right, boxed in a block of the round. -/
structure NaR (wr : World) (gt : Nat) (q : TP) (t : Run) (W : World) : Prop where
  BW : Below wr.heap.size wr W
  BT : W.heap[gt]? = some (.cells #[.slice q.A0 t.f0.length q.c0, .slice q.A1 t.f1.length q.c1] 30 (0, 0))
  RT : RT W q t
theorem NaR.below {wr : World} {gt : Nat} {q : TP} {t : Run} {W w2 : World} (h : NaR wr gt q t W) (hb : Below W.heap.size W w2) : NaR wr gt q t w2 :=
  ⟨h.BW.trans (hb.mono h.BW.size), blk_below h.BT hb, h.RT.below hb⟩
/-- The copy as it lies when the switch begins. -/
structure NaW (wr : World) (gt gF cF gI cI gO : Nat) (W : World) : Prop where
  BW : Below wr.heap.size wr W
  BT : W.heap[gt]? = some (.cells #[.slice (some ⟨gF, 0, none⟩) 3 cF, .slice (some ⟨gI, 0, none⟩) 3 cI] 30 (0, 0))
  G : gF < gO ∧ gO < gI ∧ wr.heap.size ≤ gF ∧ gI < gt
  F : Kd.R Kd.bool 4 W wr.heap.size (fun k => k < gO) (.slice (some ⟨gF, 0, none⟩) 3 cF) naF
  I : Kd.R (Kd.slice 4 Kd.bool) 27 W wr.heap.size (fun k => gO < k ∧ k < gt) (.slice (some ⟨gI, 0, none⟩) 3 cI) naI
theorem NaW.x0 {wr : World} {gt gF cF gI cI gO : Nat} {W : World} (h : NaW wr gt gF cF gI cI gO W) : NaR wr gt ⟨none, 0, some ⟨gI, 0, none⟩, cI⟩ (naX 0) (W.setCell ⟨gt, 0, none⟩ (.slice none 0 0)) := by
  have hg := h.G
  refine ⟨below_set h.BW (by omega), by have h_ := blk_set h.BT 0 (.slice none 0 0); simp at h_; exact h_, ⟨RS.nil _ _ _, ?_⟩⟩
  exact RS.of_R' (Kd.R_far (p := ⟨gt, 0, none⟩) h.I (fun k hk => Nat.ne_of_lt hk.2) _)
theorem NaW.x3 {wr : World} {gt gF cF gI cI gO : Nat} {W : World} (h : NaW wr gt gF cF gI cI gO W) : NaR wr gt ⟨some ⟨gF, 0, none⟩, cF, none, 0⟩ (naX 3) (W.setCell ⟨gt, 1, none⟩ (.slice none 0 0)) := by
  have hg := h.G
  refine ⟨below_set h.BW (by omega), by have h_ := blk_set h.BT 1 (.slice none 0 0); simp at h_; exact h_, ⟨?_, RS.nil _ _ _⟩⟩
  exact RS.of_R' (Kd.R_far (p := ⟨gt, 1, none⟩) h.F (fun k hk => by show k ≠ gt; omega) _)
theorem NaW.x1 {wr : World} {gt gF cF gI cI gO : Nat} {W : World} (h : NaW wr gt gF cF gI cI gO W) : NaR wr gt ⟨some ⟨gF, 0, none⟩, cF, some ⟨gI, 0, none⟩, cI⟩ (naX 1) (W.setCell ⟨gF, 0, none⟩ (.bool true)) := by
  have hg := h.G
  refine ⟨below_set h.BW hg.2.2.1, blk_far h.BT (show gt ≠ gF by omega) _, ⟨?_, ?_⟩⟩
  · exact RS.of_R' (Kd.R_putn h.F 0 true)
  · exact RS.of_R' (Kd.R_far (p := ⟨gF, 0, none⟩) h.I (fun k hk => by show k ≠ gF; omega) _)
theorem NaW.x2 {wr : World} {gt gF cF gI cI gO : Nat} {W : World} (h : NaW wr gt gF cF gI cI gO W) : NaR wr gt ⟨some ⟨gF, 0, none⟩, cF, some ⟨gI, 0, none⟩, cI⟩ (naX 2) (W.setCell ⟨gF, 1, none⟩ (.bool false)) := by
  have hg := h.G
  refine ⟨below_set h.BW hg.2.2.1, blk_far h.BT (show gt ≠ gF by omega) _, ⟨?_, ?_⟩⟩
  · exact RS.of_R' (Kd.R_putn h.F 1 false)
  · exact RS.of_R' (Kd.R_far (p := ⟨gF, 1, none⟩) h.I (fun k hk => by show k ≠ gF; omega) _)
theorem NaW.x4 {wr : World} {gt gF cF gI cI gO : Nat} {W : World} (h : NaW wr gt gF cF gI cI gO W) :
    NaR wr gt ⟨some ⟨gF, 0, none⟩, cF, some ⟨gI, 0, none⟩, cI⟩ (naX 4) ((W.alloc (.cells #[.bool true, .bool true] 4)).setCell ⟨gI, 2, none⟩ (.slice (some ⟨W.heap.size, 0, none⟩) 2 2)) := by
  have hg := h.G
  have hlt := blk_lt h.BT
  have hb := below_alloc (Below.refl W.heap.size W) (.cells #[.bool true, .bool true] 4)
  have hI := Kd.R_below (Kd.R_mono (ok' := fun k => gO < k) h.I (fun k hk => hk.1)) hb
  obtain ⟨c, hc, _, hcc, _⟩ := Kd.R_elem hI [] 2 (by omega) (by omega)
  have hn : (W.alloc (.cells #[.bool true, .bool true] 4)).heap[W.heap.size]? = some (.cells (bRow [true, true]) 4 (0, 0)) := blk_new W _
  have hR : Kd.R Kd.bool 4 (W.alloc (.cells #[.bool true, .bool true] 4)) wr.heap.size (fun k => k = W.heap.size) (.slice (some ⟨W.heap.size, 0, none⟩) 2 2) [true, true] := R_blk h.BW.size rfl (by decide) hn
  have hs := (Kd.R_seg hI 2 (by omega) (by omega) (j := 0) (seg := [.slice (some ⟨W.heap.size, 0, none⟩) 2 2]) hc hcc (Nat.le_refl 1) (x' := [true, true]) (okp := fun k => k = W.heap.size) ⟨_, by
    have h1 : c.drop (0 + 1) = [] := List.drop_eq_nil_of_le (by rw [hc]; decide)
    rw [show ([Value.slice (some ⟨W.heap.size, 0, none⟩) 2 2] : List Value).length = 1 from rfl, h1]; rfl, hR⟩ (fun k hk => ⟨by omega, by omega⟩)).1
  refine ⟨below_set (h.BW.trans (hb.mono h.BW.size)) (by omega), blk_far (blk_alloc h.BT _) (show gt ≠ gI by omega) _, ⟨?_, RS.of_R' hs⟩⟩
  exact RS.of_R' (Kd.R_far (p := ⟨gI, 2, none⟩) (Kd.R_below h.F hb) (fun k hk => by show k ≠ gI; omega) _)
theorem NaW.x5 {wr : World} {gt gF cF gI cI gO : Nat} {W : World} (h : NaW wr gt gF cF gI cI gO W) {cs : Array Value} (hcs : ∀ W : World, ∀ g, W.heap[g]? = some (.cells cs 27 (0, 0)) → RS (Kd.slice 4 Kd.bool) W (some ⟨g, 0, none⟩) 101 (List.replicate 101 [])) :
    NaR wr gt ⟨some ⟨gF, 0, none⟩, cF, some ⟨W.heap.size, 0, none⟩, 101⟩ (naX 5) ((W.alloc (.cells cs 27)).setCell ⟨gt, 1, none⟩ (.slice (some ⟨W.heap.size, 0, none⟩) 101 101)) := by
  have hg := h.G
  have hlt := blk_lt h.BT
  have hb := below_alloc (Below.refl W.heap.size W) (.cells cs 27)
  refine ⟨below_set (h.BW.trans (hb.mono h.BW.size)) (by omega), by have h_ := blk_set (blk_alloc h.BT (.cells cs 27)) 1 (.slice (some ⟨W.heap.size, 0, none⟩) 101 101); simp at h_; exact h_, ⟨?_, hcs _ _ (blk_far (blk_new W _) (show W.heap.size ≠ gt by omega) _)⟩⟩
  exact RS.of_R' (Kd.R_far (p := ⟨gt, 1, none⟩) (Kd.R_below h.F hb) (fun k hk => by show k ≠ gt; omega) _)
end Go.Proofs.Ytchhbkicplgmhaa.PH
