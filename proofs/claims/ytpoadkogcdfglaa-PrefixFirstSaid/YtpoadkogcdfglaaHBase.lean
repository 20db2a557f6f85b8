/- Words of this session: what is told of circuits, lifts, predicates and runs in memory; small lemmas on lists and numbers. -/
import Derived.Test.YtpoadkogcdfglaaPHx0
import Derived.Laws.EntriesVeiled
import Derived.WalkSpells
namespace Go.Proofs.Ytpoadkogcdfglaa.PH
open Go.RowKit Go.Proofs.YtpoadkogcdfglaaW.PrintWords
set_option linter.unusedVariables false
set_option linter.unusedSimpArgs false

/-! ### Numbers -/
theorem wrap_in {x : Int} (h0 : -9223372036854775808 ≤ x) (h : x ≤ 9223372036854775807) : wrap64 x = x := by
  unfold wrap64
  omega
theorem wrap_step {x : Int} {n : Nat} (h0 : 0 ≤ x) (h : x < (n : Int)) (hn : n ≤ 9223372036854775807) : wrap64 (x + 1) = x + 1 := by
  unfold wrap64
  omega
/-- A number of 64 bits. -/
def I64 (x : Int) : Prop := -9223372036854775808 ≤ x ∧ x ≤ 9223372036854775807
theorem half_of {x : Int} (h : I64 x) (h0 : 0 ≤ x) : wrap64 (x.tdiv 2) = x / 2 := by
  obtain ⟨h1, h2⟩ := h
  rw [Int.tdiv_eq_ediv_of_nonneg h0, wrap_in (by omega) (by omega)]
theorem half_neg {x : Int} (h : I64 x) (h0 : x < 0) : wrap64 (x.tdiv 2) ≤ 0 := by
  obtain ⟨h1, h2⟩ := h
  have e : x.tdiv 2 = -((-x) / 2) := by
    rw [← Int.tdiv_eq_ediv_of_nonneg (by omega : 0 ≤ -x), Int.neg_tdiv]; omega
  rw [e, wrap_in (by omega) (by omega)]; omega
theorem rem_of {x : Int} (h : I64 x) (h0 : 0 ≤ x) : wrap64 (x.tmod 2) = x % 2 := by
  obtain ⟨h1, h2⟩ := h
  rw [Int.tmod_eq_emod_of_nonneg h0, wrap_in (by omega) (by omega)]
/-- The greater of two numbers, as Go's max tells it; the smaller. -/
def mx (a b : Int) : Int := if a < b then b else a
def mn (a b : Int) : Int := if b < a then b else a
theorem max_pair (ats : Array TypeId) (ty : TypeId) (k k' : IntKind) (x y : Int) : Builtin.max_ ats ty #[.int k x, .int k' y] = pure (.int k (if x < y then y else x)) := by
  simp only [Builtin.max_, List.foldlM_cons, List.foldlM_nil, Builtin.max2, gt_iff_lt, pure_bind]
theorem min_pair (ats : Array TypeId) (ty : TypeId) (k k' : IntKind) (x y : Int) : Builtin.min_ ats ty #[.int k x, .int k' y] = pure (.int k (if y < x then y else x)) := by
  simp only [Builtin.min_, List.foldlM_cons, List.foldlM_nil, Builtin.min2, pure_bind]
theorem val_step {k n : Nat} (h : k < n) (hn : n ≤ 9223372036854775807) : Value.int .i64 (wrap64 ((k : Int) + 1)) = .int .i64 ((k + 1 : Nat) : Int) := by
  rw [wrap_in (by omega) (by omega)]; rfl
theorem val_eq {x y : Int} (h : x = y) : Value.int .i64 x = .int .i64 y := by rw [h]
theorem ret_int {k : IntKind} {a b : Int} (h : a = b) : Ending.returned (Value.int k a) = .returned (.int k b) := by rw [h]
theorem ret_bool {a b : Bool} (h : a = b) : Ending.returned (Value.bool a) = .returned (.bool b) := by rw [h]

/-! ### Calls of function values -/
theorem enters_fn {P : Program} {f : FuncId} {fn : Func} {c : Code} (hf : P.funcs[f]? = some fn) (hname : (fn.name == "runtime.NumGoroutine") = false) (hb : fn.body = some c) : ∀ args w, (callFunc f args).run P w = .ok (.enter f args) w := by
  intro args w
  have h1 : fn.name ≠ "runtime.NumGoroutine" := by simpa using hname
  simp [callFunc, hf, h1, hb, mark]

/-! ### Rows that are read -/
/-- A slice of the list l, read: address A, capacity c. -/
structure RS {α : Type} (d : Kd α) (w : World) (A : Option Addr) (c : Nat) (l : List α) : Prop where
  r : d.C w A l.length l
  h : l.length ≤ c
theorem RS.below {α : Type} {d : Kd α} {w w1 : World} {A : Option Addr} {c : Nat} {l : List α} (h : RS d w A c l) (hb : Below w.heap.size w w1) : RS d w1 A c l := ⟨Kd.C_below h.r hb, h.h⟩
theorem RS.max {α : Type} {d : Kd α} {w : World} {A : Option Addr} {c : Nat} {l : List α} (h : RS d w A c l) : l.length ≤ 9223372036854775807 := Kd.C_max h.r
theorem RS.nil {α : Type} (d : Kd α) (w : World) (c : Nat) : RS d w none c ([] : List α) := ⟨Kd.C_nil d w, Nat.zero_le _⟩
theorem RS.of_R {α : Type} {d : Kd α} {e : Nat} {w : World} {base : Nat} {ok : Nat → Prop} {v : Value} {l : List α} (h : d.R e w base ok v l) : ∃ A c, v = .slice A l.length c ∧ RS d w A c l := by
  obtain ⟨A, c, e, h1, h2⟩ := Kd.R_reads h
  exact ⟨A, c, e, h2, h1⟩
theorem RS.of_R' {α : Type} {d : Kd α} {e : Nat} {w : World} {base : Nat} {ok : Nat → Prop} {A : Option Addr} {n c : Nat} {l : List α} (h : d.R e w base ok (.slice A n c) l) : RS d w A c l := by
  obtain ⟨A', c', e1, h1, h2⟩ := Kd.R_reads h
  cases e1
  exact ⟨h2, h1⟩
theorem get_cell {α : Type} {d : Kd α} {w : World} {A : Option Addr} {n : Nat} {l : List α} (h : d.C w A n l) (k : Nat) (hk : k < l.length) :
    ∃ ad c, A = some ad ∧ c.length = d.sz ∧ d.K w l[k] c ∧ ∀ j u, c[j]? = some u → w.cell? (ad.add (k * d.sz + j)) = some u := by
  obtain ⟨ad, c, e, h1, h2, h3⟩ := Kd.C_get h l[k] (k : Int) (by omega) (by have := h.1; omega)
  refine ⟨ad, c, e, h1, ?_, by simpa using h3⟩
  rw [Int.toNat_natCast, List.getD_eq_getElem?_getD, List.getElem?_eq_getElem hk] at h2
  exact h2
theorem at_int {w : World} {A : Option Addr} {n : Nat} {l : List Int} (h : Kd.C (Kd.int .i64) w A n l) (k : Nat) (hk : k < l.length) : ∃ ad, A = some ad ∧ w.cell? (ad.add k) = some (.int .i64 l[k]) := by
  obtain ⟨ad, c, e, _, hK, hc⟩ := get_cell h k hk
  have hK' : c = [.int .i64 l[k]] := hK
  subst hK'
  exact ⟨ad, e, by have := hc 0 _ rfl; rwa [show (Kd.int .i64).sz = 1 from rfl, Nat.mul_one, Nat.add_zero] at this⟩
theorem at_bool {w : World} {A : Option Addr} {n : Nat} {l : List Bool} (h : Kd.C Kd.bool w A n l) (k : Nat) (hk : k < l.length) : ∃ ad, A = some ad ∧ w.cell? (ad.add k) = some (.bool l[k]) := by
  obtain ⟨ad, c, e, _, hK, hc⟩ := get_cell h k hk
  have hK' : c = [.bool l[k]] := hK
  subst hK'
  exact ⟨ad, e, by have := hc 0 _ rfl; rwa [show Kd.bool.sz = 1 from rfl, Nat.mul_one, Nat.add_zero] at this⟩
theorem at_latch {w : World} {A : Option Addr} {n : Nat} {l : List Latch} (h : Kd.C kLatch w A n l) (k : Nat) (hk : k < l.length) : ∃ ad, A = some ad ∧ w.cell? (ad.add (k * 2)) = some (.int .i64 l[k].f0) ∧ w.cell? ⟨(ad.add (k * 2)).block, (ad.add (k * 2)).off + 1, none⟩ = some (.int .i64 l[k].f1) := by
  obtain ⟨ad, c, e, _, hK, hc0⟩ := get_cell h k hk
  have hc : ∀ j u, c[j]? = some u → w.cell? (ad.add (k * 2 + j)) = some u := hc0
  obtain rfl := kLatch_open hK
  exact ⟨ad, e, hc 0 _ rfl, by rw [← add_field _ _ 1 (by omega)]; exact hc 1 _ rfl⟩
theorem at_gate {w : World} {A : Option Addr} {n : Nat} {l : List Gate} (h : Kd.C kGate w A n l) (k : Nat) (hk : k < l.length) : ∃ ad, A = some ad ∧ w.cell? (ad.add (k * 2)) = some (.int .i64 l[k].f0) ∧ w.cell? ⟨(ad.add (k * 2)).block, (ad.add (k * 2)).off + 1, none⟩ = some (.int .i64 l[k].f1) := by
  obtain ⟨ad, c, e, _, hK, hc0⟩ := get_cell h k hk
  have hc : ∀ j u, c[j]? = some u → w.cell? (ad.add (k * 2 + j)) = some u := hc0
  obtain rfl := kGate_open hK
  exact ⟨ad, e, hc 0 _ rfl, by rw [← add_field _ _ 1 (by omega)]; exact hc 1 _ rfl⟩
/-- A row of rows: the row at k. -/
theorem at_row {α : Type} {d : Kd α} {e : Nat} {w : World} {A : Option Addr} {n : Nat} {l : List (List α)} (h : Kd.C (Kd.slice e d) w A n l) (k : Nat) (hk : k < l.length) : ∃ ad B c, A = some ad ∧ w.cell? (ad.add k) = some (.slice B l[k].length c) ∧ RS d w B c l[k] := by
  obtain ⟨ad, c, e', _, hK, hc⟩ := get_cell h k hk
  obtain ⟨B, cc, rfl, h1, h2⟩ := hK
  exact ⟨ad, B, cc, e', by have := hc 0 _ rfl; rwa [show (Kd.slice e d).sz = 1 from rfl, Nat.mul_one, Nat.add_zero] at this, h2, h1⟩

/-- A row that lies in a block. -/
theorem RS.row {α : Type} {d : Kd α} {w : World} {B : Nat} {l : List α} {c : Nat} (hm : l.length ≤ 9223372036854775807) (hc : l.length ≤ c)
    (h : ∀ j p, l[j]? = some p → ∃ cs, cs.length = d.sz ∧ d.K w p cs ∧ ∀ i u, cs[i]? = some u → w.cell? ⟨B, j * d.sz + i, none⟩ = some u) : RS d w (some ⟨B, 0, none⟩) c l :=
  ⟨⟨rfl, hm, fun _ => ⟨⟨B, 0, none⟩, rfl, fun j p hj => by
    obtain ⟨cs, h1, h2, h3⟩ := h j p hj
    exact ⟨cs, h1, h2, fun i u hu => by rw [add_plain]; exact h3 i u hu⟩⟩⟩, hc⟩
theorem RS.one_int {w : World} {B : Nat} {x : Int} {c : Nat} (hc : 1 ≤ c) (h : w.cell? ⟨B, 0, none⟩ = some (.int .i64 x)) : RS (Kd.int .i64) w (some ⟨B, 0, none⟩) c [x] :=
  RS.row (by simp) hc (fun j p hj => by
    cases j with
    | zero =>
      have e : x = p := by simpa using hj
      subst e
      exact ⟨[.int .i64 x], rfl, rfl, fun i u hu => by cases i with
        | zero => have : Value.int .i64 x = u := by simpa using hu
                  rw [← this]; simpa using h
        | succ i => simp at hu⟩
    | succ j => simp at hj)

/-- A struct of five cells that was boxed at block B. -/
structure Box5 (w : World) (B : Nat) (v0 v1 v2 v3 v4 : Value) : Prop where
  g0 : w.cell? ⟨B, 0, none⟩ = some v0
  g1 : w.cell? ⟨B, 1, none⟩ = some v1
  g2 : w.cell? ⟨B, 2, none⟩ = some v2
  g3 : w.cell? ⟨B, 3, none⟩ = some v3
  g4 : w.cell? ⟨B, 4, none⟩ = some v4
theorem Box5.below {w w1 : World} {B : Nat} {v0 v1 v2 v3 v4 : Value} (h : Box5 w B v0 v1 v2 v3 v4) (hb : Below w.heap.size w w1) : Box5 w1 B v0 v1 v2 v3 v4 :=
  ⟨pw_cell_below hb h.g0, pw_cell_below hb h.g1, pw_cell_below hb h.g2, pw_cell_below hb h.g3, pw_cell_below hb h.g4⟩
theorem Box5.lt {w : World} {B : Nat} {v0 v1 v2 v3 v4 : Value} (h : Box5 w B v0 v1 v2 v3 v4) : B < w.heap.size := World.block_lt_of_cell? _ _ h.g0
theorem Box5.mk' {W w' : World} {v0 v1 v2 v3 v4 : Value} {t : TypeId} (hb : Below (W.alloc (.cells #[v0, v1, v2, v3, v4] t)).heap.size (W.alloc (.cells #[v0, v1, v2, v3, v4] t)) w') : Box5 w' W.heap.size v0 v1 v2 v3 v4 ∧ Below W.heap.size W w' :=
  ⟨⟨(hb.cell (p := ⟨W.heap.size, 0, none⟩) (by simp)).trans (by simp), (hb.cell (p := ⟨W.heap.size, 1, none⟩) (by simp)).trans (by simp), (hb.cell (p := ⟨W.heap.size, 2, none⟩) (by simp)).trans (by simp), (hb.cell (p := ⟨W.heap.size, 3, none⟩) (by simp)).trans (by simp), (hb.cell (p := ⟨W.heap.size, 4, none⟩) (by simp)).trans (by simp)⟩, below_then (below_alloc (Below.refl W.heap.size W) _) (by simp) hb⟩

/-! ### Circuits -/
deriving instance DecidableEq for Latch, Gate
structure CP where
  A1 : Option Addr
  c1 : Nat
  A2 : Option Addr
  c2 : Nat
  A3 : Option Addr
  c3 : Nat
  A4 : Option Addr
  c4 : Nat
@[reducible] def cv (p : CP) (c : Circ) : Value := .agg #[.int .i64 c.f0, .slice p.A1 c.f1.length p.c1, .slice p.A2 c.f2.length p.c2, .slice p.A3 c.f3.length p.c3, .slice p.A4 c.f4.length p.c4]
/-- The circuit c, read where p says. -/
structure RC (w : World) (p : CP) (c : Circ) : Prop where
  s1 : RS kLatch w p.A1 p.c1 c.f1
  s2 : RS kGate w p.A2 p.c2 c.f2
  s3 : RS (Kd.int .i64) w p.A3 p.c3 c.f3
  s4 : RS (Kd.int .i64) w p.A4 p.c4 c.f4
theorem RC.below {w w1 : World} {p : CP} {c : Circ} (h : RC w p c) (hb : Below w.heap.size w w1) : RC w1 p c := ⟨h.s1.below hb, h.s2.below hb, h.s3.below hb, h.s4.below hb⟩
theorem RC.of_K {w : World} {c : Circ} {cs : List Value} (h : kCirc.K w c cs) : ∃ p, Value.agg cs.toArray = cv p c ∧ RC w p c := by
  obtain ⟨A1, c1, A2, c2, A3, c3, A4, c4, rfl, l1, g1, l2, g2, l3, g3, l4, g4⟩ := kCirc_open h
  exact ⟨⟨A1, c1, A2, c2, A3, c3, A4, c4⟩, rfl, ⟨g1, l1⟩, ⟨g2, l2⟩, ⟨g3, l3⟩, ⟨g4, l4⟩⟩
/-- Not too long for its numbers to wrap round; its numbers are of 64 bits. -/
structure Circ.Fits (c : Circ) : Prop where
  h1 : c.f1.length ≤ 4000000
  h2 : c.f2.length ≤ 4000000
  i0 : I64 c.f0
  i1 : ∀ x ∈ c.f1, I64 x.f0 ∧ I64 x.f1
  i2 : ∀ x ∈ c.f2, I64 x.f0 ∧ I64 x.f1
  i3 : ∀ x ∈ c.f3, I64 x
  i4 : ∀ x ∈ c.f4, I64 x

/-! ### Predicates, lifts, runs -/
@[reducible] def pv (A : Option Addr) (k : Nat) (p : Pr) : Value := .agg #[.slice A p.f0.length k, .int .i64 p.f1]
structure LP where
  A2 : Option Addr
  c2 : Nat
  A3 : Option Addr
  c3 : Nat
  A4 : Option Addr
  c4 : Nat
  A5 : Option Addr
  c5 : Nat
@[reducible] def lv (p : LP) (l : Lf) : Value := .agg #[.int .i64 l.f0, .int .i64 l.f1, .slice p.A2 l.f2.length p.c2, .slice p.A3 l.f3.length p.c3, .slice p.A4 l.f4.length p.c4, .slice p.A5 l.f5.f0.length p.c5, .int .i64 l.f5.f1]
structure RL (w : World) (p : LP) (l : Lf) : Prop where
  s2 : RS (Kd.int .i64) w p.A2 p.c2 l.f2
  s3 : RS (Kd.slice 3 (Kd.int .i64)) w p.A3 p.c3 l.f3
  s4 : RS (Kd.int .i64) w p.A4 p.c4 l.f4
  s5 : RS kGate w p.A5 p.c5 l.f5.f0
theorem RL.below {w w1 : World} {p : LP} {l : Lf} (h : RL w p l) (hb : Below w.heap.size w w1) : RL w1 p l := ⟨h.s2.below hb, h.s3.below hb, h.s4.below hb, h.s5.below hb⟩
structure TP where
  A0 : Option Addr
  c0 : Nat
  A1 : Option Addr
  c1 : Nat
@[reducible] def tv (p : TP) (t : Run) : Value := .agg #[.slice p.A0 t.f0.length p.c0, .slice p.A1 t.f1.length p.c1]
structure RT (w : World) (p : TP) (t : Run) : Prop where
  s0 : RS Kd.bool w p.A0 p.c0 t.f0
  s1 : RS (Kd.slice 4 Kd.bool) w p.A1 p.c1 t.f1
theorem RT.below {w w1 : World} {p : TP} {t : Run} (h : RT w p t) (hb : Below w.heap.size w w1) : RT w1 p t := ⟨h.s0.below hb, h.s1.below hb⟩

/-! ### Lists -/
theorem drop_at {α : Type} {l : List α} {k : Nat} (h : k < l.length) : l.drop k = l[k] :: l.drop (k + 1) := List.drop_eq_getElem_cons h
theorem take_at {α : Type} {l : List α} {k : Nat} (h : k < l.length) : l.take (k + 1) = l.take k ++ [l[k]] := List.take_succ_eq_append_getElem h
theorem all_step {α : Type} {l : List α} {q : α → Bool} {k : Nat} (h : k < l.length) : (l.drop k).all q = (q l[k] && (l.drop (k + 1)).all q) := by rw [drop_at h, List.all_cons]
theorem any_step {α : Type} {l : List α} {q : α → Bool} {k : Nat} (h : k < l.length) : (l.drop k).any q = (q l[k] || (l.drop (k + 1)).any q) := by rw [drop_at h, List.any_cons]
end Go.Proofs.Ytpoadkogcdfglaa.PH
