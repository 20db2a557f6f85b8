/- Several texts in one: Base, Clone, Open, Clone2, Five, Stage, Sep, Map, RowS, RowIn. -/
import Derived.Test.YtlhiapggccgggaaPHx0
import Derived.Laws.EntriesVeiled
import Derived.WalkSpells
import Derived.WalkKit
import Derived.ProofKit
import Derived.Deep.Slices
import Derived.Test.YtlhiapggccgggaaWLast
import Derived.Maps.OwnSet
import Derived.Maps.OwnOps
/- Words of this session: what is told of circuits, lifts, predicates and runs in memory; small lemmas on lists and numbers. -/
namespace Go.Proofs.Ytlhiapggccgggaa.PH
open Go.RowKit Go.Proofs.YtlhiapggccgggaaW.PrintWords
set_option linter.unusedVariables false
set_option linter.unusedSimpArgs false

/-! ### Numbers -/
theorem wrap_in {x : Int} (h0 : -9223372036854775808 ≤ x) (h : x ≤ 9223372036854775807) : wrap64 x = x := by
  unfold wrap64
  omega
theorem wrap_step {x : Int} {n : Nat} (h0 : 0 ≤ x) (h : x < (n : Int)) (hn : n ≤ 9223372036854775807) : wrap64 (x + 1) = x + 1 := by
  unfold wrap64
  omega
/-- A number of 64 bits. -/
def I64 (x : Int) : Prop := -9223372036854775808 ≤ x ∧ x ≤ 9223372036854775807
theorem half_of {x : Int} (h : I64 x) (h0 : 0 ≤ x) : wrap64 (x.tdiv 2) = x / 2 := by
  obtain ⟨h1, h2⟩ := h
  rw [Int.tdiv_eq_ediv_of_nonneg h0, wrap_in (by omega) (by omega)]
theorem half_neg {x : Int} (h : I64 x) (h0 : x < 0) : wrap64 (x.tdiv 2) ≤ 0 := by
  obtain ⟨h1, h2⟩ := h
  have e : x.tdiv 2 = -((-x) / 2) := by
    rw [← Int.tdiv_eq_ediv_of_nonneg (by omega : 0 ≤ -x), Int.neg_tdiv]; omega
  rw [e, wrap_in (by omega) (by omega)]; omega
theorem rem_of {x : Int} (h : I64 x) (h0 : 0 ≤ x) : wrap64 (x.tmod 2) = x % 2 := by
  obtain ⟨h1, h2⟩ := h
  rw [Int.tmod_eq_emod_of_nonneg h0, wrap_in (by omega) (by omega)]
/-- The greater of two numbers, as Go's max tells it; the smaller. -/
def mx (a b : Int) : Int := if a < b then b else a
def mn (a b : Int) : Int := if b < a then b else a
theorem max_pair (ats : Array TypeId) (ty : TypeId) (k k' : IntKind) (x y : Int) : Builtin.max_ ats ty #[.int k x, .int k' y] = pure (.int k (if x < y then y else x)) := by
  simp only [Builtin.max_, List.foldlM_cons, List.foldlM_nil, Builtin.max2, gt_iff_lt, pure_bind]
theorem min_pair (ats : Array TypeId) (ty : TypeId) (k k' : IntKind) (x y : Int) : Builtin.min_ ats ty #[.int k x, .int k' y] = pure (.int k (if y < x then y else x)) := by
  simp only [Builtin.min_, List.foldlM_cons, List.foldlM_nil, Builtin.min2, pure_bind]
theorem val_step {k n : Nat} (h : k < n) (hn : n ≤ 9223372036854775807) : Value.int .i64 (wrap64 ((k : Int) + 1)) = .int .i64 ((k + 1 : Nat) : Int) := by
  rw [wrap_in (by omega) (by omega)]; rfl
theorem val_eq {x y : Int} (h : x = y) : Value.int .i64 x = .int .i64 y := by rw [h]
theorem ret_int {k : IntKind} {a b : Int} (h : a = b) : Ending.returned (Value.int k a) = .returned (.int k b) := by rw [h]
theorem ret_bool {a b : Bool} (h : a = b) : Ending.returned (Value.bool a) = .returned (.bool b) := by rw [h]

/-! ### Calls of function values -/
theorem enters_fn {P : Program} {f : FuncId} {fn : Func} {c : Code} (hf : P.funcs[f]? = some fn) (hname : (fn.name == "runtime.NumGoroutine") = false) (hb : fn.body = some c) : ∀ args w, (callFunc f args).run P w = .ok (.enter f args) w := by
  intro args w
  have h1 : fn.name ≠ "runtime.NumGoroutine" := by simpa using hname
  simp [callFunc, hf, h1, hb, mark]

/-! ### Rows that are read -/
/-- A slice of the list l, read: address A, capacity c. -/
structure RS {α : Type} (d : Kd α) (w : World) (A : Option Addr) (c : Nat) (l : List α) : Prop where
  r : d.C w A l.length l
  h : l.length ≤ c
theorem RS.below {α : Type} {d : Kd α} {w w1 : World} {A : Option Addr} {c : Nat} {l : List α} (h : RS d w A c l) (hb : Below w.heap.size w w1) : RS d w1 A c l := ⟨Kd.C_below h.r hb, h.h⟩
theorem RS.max {α : Type} {d : Kd α} {w : World} {A : Option Addr} {c : Nat} {l : List α} (h : RS d w A c l) : l.length ≤ 9223372036854775807 := Kd.C_max h.r
theorem RS.nil {α : Type} (d : Kd α) (w : World) (c : Nat) : RS d w none c ([] : List α) := ⟨Kd.C_nil d w, Nat.zero_le _⟩
theorem RS.of_R {α : Type} {d : Kd α} {e : Nat} {w : World} {base : Nat} {ok : Nat → Prop} {v : Value} {l : List α} (h : d.R e w base ok v l) : ∃ A c, v = .slice A l.length c ∧ RS d w A c l := by
  obtain ⟨A, c, e, h1, h2⟩ := Kd.R_reads h
  exact ⟨A, c, e, h2, h1⟩
theorem RS.of_R' {α : Type} {d : Kd α} {e : Nat} {w : World} {base : Nat} {ok : Nat → Prop} {A : Option Addr} {n c : Nat} {l : List α} (h : d.R e w base ok (.slice A n c) l) : RS d w A c l := by
  obtain ⟨A', c', e1, h1, h2⟩ := Kd.R_reads h
  cases e1
  exact ⟨h2, h1⟩
theorem get_cell {α : Type} {d : Kd α} {w : World} {A : Option Addr} {n : Nat} {l : List α} (h : d.C w A n l) (k : Nat) (hk : k < l.length) :
    ∃ ad c, A = some ad ∧ c.length = d.sz ∧ d.K w l[k] c ∧ ∀ j u, c[j]? = some u → w.cell? (ad.add (k * d.sz + j)) = some u := by
  obtain ⟨ad, c, e, h1, h2, h3⟩ := Kd.C_get h l[k] (k : Int) (by omega) (by have := h.1; omega)
  refine ⟨ad, c, e, h1, ?_, by simpa using h3⟩
  rw [Int.toNat_natCast, List.getD_eq_getElem?_getD, List.getElem?_eq_getElem hk] at h2
  exact h2
theorem at_int {w : World} {A : Option Addr} {n : Nat} {l : List Int} (h : Kd.C (Kd.int .i64) w A n l) (k : Nat) (hk : k < l.length) : ∃ ad, A = some ad ∧ w.cell? (ad.add k) = some (.int .i64 l[k]) := by
  obtain ⟨ad, c, e, _, hK, hc⟩ := get_cell h k hk
  have hK' : c = [.int .i64 l[k]] := hK
  subst hK'
  exact ⟨ad, e, by have := hc 0 _ rfl; rwa [show (Kd.int .i64).sz = 1 from rfl, Nat.mul_one, Nat.add_zero] at this⟩
theorem at_bool {w : World} {A : Option Addr} {n : Nat} {l : List Bool} (h : Kd.C Kd.bool w A n l) (k : Nat) (hk : k < l.length) : ∃ ad, A = some ad ∧ w.cell? (ad.add k) = some (.bool l[k]) := by
  obtain ⟨ad, c, e, _, hK, hc⟩ := get_cell h k hk
  have hK' : c = [.bool l[k]] := hK
  subst hK'
  exact ⟨ad, e, by have := hc 0 _ rfl; rwa [show Kd.bool.sz = 1 from rfl, Nat.mul_one, Nat.add_zero] at this⟩
theorem at_latch {w : World} {A : Option Addr} {n : Nat} {l : List Latch} (h : Kd.C kLatch w A n l) (k : Nat) (hk : k < l.length) : ∃ ad, A = some ad ∧ w.cell? (ad.add (k * 2)) = some (.int .i64 l[k].f0) ∧ w.cell? ⟨(ad.add (k * 2)).block, (ad.add (k * 2)).off + 1, none⟩ = some (.int .i64 l[k].f1) := by
  obtain ⟨ad, c, e, _, hK, hc0⟩ := get_cell h k hk
  have hc : ∀ j u, c[j]? = some u → w.cell? (ad.add (k * 2 + j)) = some u := hc0
  obtain rfl := kLatch_open hK
  exact ⟨ad, e, hc 0 _ rfl, by rw [← add_field _ _ 1 (by omega)]; exact hc 1 _ rfl⟩
theorem at_gate {w : World} {A : Option Addr} {n : Nat} {l : List Gate} (h : Kd.C kGate w A n l) (k : Nat) (hk : k < l.length) : ∃ ad, A = some ad ∧ w.cell? (ad.add (k * 2)) = some (.int .i64 l[k].f0) ∧ w.cell? ⟨(ad.add (k * 2)).block, (ad.add (k * 2)).off + 1, none⟩ = some (.int .i64 l[k].f1) := by
  obtain ⟨ad, c, e, _, hK, hc0⟩ := get_cell h k hk
  have hc : ∀ j u, c[j]? = some u → w.cell? (ad.add (k * 2 + j)) = some u := hc0
  obtain rfl := kGate_open hK
  exact ⟨ad, e, hc 0 _ rfl, by rw [← add_field _ _ 1 (by omega)]; exact hc 1 _ rfl⟩
/-- A row of rows: the row at k. -/
theorem at_row {α : Type} {d : Kd α} {e : Nat} {w : World} {A : Option Addr} {n : Nat} {l : List (List α)} (h : Kd.C (Kd.slice e d) w A n l) (k : Nat) (hk : k < l.length) : ∃ ad B c, A = some ad ∧ w.cell? (ad.add k) = some (.slice B l[k].length c) ∧ RS d w B c l[k] := by
  obtain ⟨ad, c, e', _, hK, hc⟩ := get_cell h k hk
  obtain ⟨B, cc, rfl, h1, h2⟩ := hK
  exact ⟨ad, B, cc, e', by have := hc 0 _ rfl; rwa [show (Kd.slice e d).sz = 1 from rfl, Nat.mul_one, Nat.add_zero] at this, h2, h1⟩

/-- A row that lies in a block. -/
theorem RS.row {α : Type} {d : Kd α} {w : World} {B : Nat} {l : List α} {c : Nat} (hm : l.length ≤ 9223372036854775807) (hc : l.length ≤ c)
    (h : ∀ j p, l[j]? = some p → ∃ cs, cs.length = d.sz ∧ d.K w p cs ∧ ∀ i u, cs[i]? = some u → w.cell? ⟨B, j * d.sz + i, none⟩ = some u) : RS d w (some ⟨B, 0, none⟩) c l :=
  ⟨⟨rfl, hm, fun _ => ⟨⟨B, 0, none⟩, rfl, fun j p hj => by
    obtain ⟨cs, h1, h2, h3⟩ := h j p hj
    exact ⟨cs, h1, h2, fun i u hu => by rw [add_plain]; exact h3 i u hu⟩⟩⟩, hc⟩
theorem RS.one_int {w : World} {B : Nat} {x : Int} {c : Nat} (hc : 1 ≤ c) (h : w.cell? ⟨B, 0, none⟩ = some (.int .i64 x)) : RS (Kd.int .i64) w (some ⟨B, 0, none⟩) c [x] :=
  RS.row (by simp) hc (fun j p hj => by
    cases j with
    | zero =>
      have e : x = p := by simpa using hj
      subst e
      exact ⟨[.int .i64 x], rfl, rfl, fun i u hu => by cases i with
        | zero => have : Value.int .i64 x = u := by simpa using hu
                  rw [← this]; simpa using h
        | succ i => simp at hu⟩
    | succ j => simp at hj)

/-- A struct of five cells that was boxed at block B. -/
structure Box5 (w : World) (B : Nat) (v0 v1 v2 v3 v4 : Value) : Prop where
  g0 : w.cell? ⟨B, 0, none⟩ = some v0
  g1 : w.cell? ⟨B, 1, none⟩ = some v1
  g2 : w.cell? ⟨B, 2, none⟩ = some v2
  g3 : w.cell? ⟨B, 3, none⟩ = some v3
  g4 : w.cell? ⟨B, 4, none⟩ = some v4
theorem Box5.below {w w1 : World} {B : Nat} {v0 v1 v2 v3 v4 : Value} (h : Box5 w B v0 v1 v2 v3 v4) (hb : Below w.heap.size w w1) : Box5 w1 B v0 v1 v2 v3 v4 :=
  ⟨pw_cell_below hb h.g0, pw_cell_below hb h.g1, pw_cell_below hb h.g2, pw_cell_below hb h.g3, pw_cell_below hb h.g4⟩
theorem Box5.lt {w : World} {B : Nat} {v0 v1 v2 v3 v4 : Value} (h : Box5 w B v0 v1 v2 v3 v4) : B < w.heap.size := World.block_lt_of_cell? _ _ h.g0
theorem Box5.mk' {W w' : World} {v0 v1 v2 v3 v4 : Value} {t : TypeId} (hb : Below (W.alloc (.cells #[v0, v1, v2, v3, v4] t)).heap.size (W.alloc (.cells #[v0, v1, v2, v3, v4] t)) w') : Box5 w' W.heap.size v0 v1 v2 v3 v4 ∧ Below W.heap.size W w' :=
  ⟨⟨(hb.cell (p := ⟨W.heap.size, 0, none⟩) (by simp)).trans (by simp), (hb.cell (p := ⟨W.heap.size, 1, none⟩) (by simp)).trans (by simp), (hb.cell (p := ⟨W.heap.size, 2, none⟩) (by simp)).trans (by simp), (hb.cell (p := ⟨W.heap.size, 3, none⟩) (by simp)).trans (by simp), (hb.cell (p := ⟨W.heap.size, 4, none⟩) (by simp)).trans (by simp)⟩, below_then (below_alloc (Below.refl W.heap.size W) _) (by simp) hb⟩

/-! ### Circuits -/
deriving instance DecidableEq for Latch, Gate
structure CP where
  A1 : Option Addr
  c1 : Nat
  A2 : Option Addr
  c2 : Nat
  A3 : Option Addr
  c3 : Nat
  A4 : Option Addr
  c4 : Nat
@[reducible] def cv (p : CP) (c : Circ) : Value := .agg #[.int .i64 c.f0, .slice p.A1 c.f1.length p.c1, .slice p.A2 c.f2.length p.c2, .slice p.A3 c.f3.length p.c3, .slice p.A4 c.f4.length p.c4]
/-- The circuit c, read where p says. -/
structure RC (w : World) (p : CP) (c : Circ) : Prop where
  s1 : RS kLatch w p.A1 p.c1 c.f1
  s2 : RS kGate w p.A2 p.c2 c.f2
  s3 : RS (Kd.int .i64) w p.A3 p.c3 c.f3
  s4 : RS (Kd.int .i64) w p.A4 p.c4 c.f4
theorem RC.below {w w1 : World} {p : CP} {c : Circ} (h : RC w p c) (hb : Below w.heap.size w w1) : RC w1 p c := ⟨h.s1.below hb, h.s2.below hb, h.s3.below hb, h.s4.below hb⟩
theorem RC.of_K {w : World} {c : Circ} {cs : List Value} (h : kCirc.K w c cs) : ∃ p, Value.agg cs.toArray = cv p c ∧ RC w p c := by
  obtain ⟨A1, c1, A2, c2, A3, c3, A4, c4, rfl, l1, g1, l2, g2, l3, g3, l4, g4⟩ := kCirc_open h
  exact ⟨⟨A1, c1, A2, c2, A3, c3, A4, c4⟩, rfl, ⟨g1, l1⟩, ⟨g2, l2⟩, ⟨g3, l3⟩, ⟨g4, l4⟩⟩
/-- Not too long for its numbers to wrap round; its numbers are of 64 bits. -/
structure Circ.Fits (c : Circ) : Prop where
  h1 : c.f1.length ≤ 4000000
  h2 : c.f2.length ≤ 4000000
  i0 : I64 c.f0
  i1 : ∀ x ∈ c.f1, I64 x.f0 ∧ I64 x.f1
  i2 : ∀ x ∈ c.f2, I64 x.f0 ∧ I64 x.f1
  i3 : ∀ x ∈ c.f3, I64 x
  i4 : ∀ x ∈ c.f4, I64 x

/-! ### Predicates, lifts, runs -/
@[reducible] def pv (A : Option Addr) (k : Nat) (p : Pr) : Value := .agg #[.slice A p.f0.length k, .int .i64 p.f1]
structure LP where
  A2 : Option Addr
  c2 : Nat
  A3 : Option Addr
  c3 : Nat
  A4 : Option Addr
  c4 : Nat
  A5 : Option Addr
  c5 : Nat
@[reducible] def lv (p : LP) (l : Lf) : Value := .agg #[.int .i64 l.f0, .int .i64 l.f1, .slice p.A2 l.f2.length p.c2, .slice p.A3 l.f3.length p.c3, .slice p.A4 l.f4.length p.c4, .slice p.A5 l.f5.f0.length p.c5, .int .i64 l.f5.f1]
structure RL (w : World) (p : LP) (l : Lf) : Prop where
  s2 : RS (Kd.int .i64) w p.A2 p.c2 l.f2
  s3 : RS (Kd.slice 3 (Kd.int .i64)) w p.A3 p.c3 l.f3
  s4 : RS (Kd.int .i64) w p.A4 p.c4 l.f4
  s5 : RS kGate w p.A5 p.c5 l.f5.f0
theorem RL.below {w w1 : World} {p : LP} {l : Lf} (h : RL w p l) (hb : Below w.heap.size w w1) : RL w1 p l := ⟨h.s2.below hb, h.s3.below hb, h.s4.below hb, h.s5.below hb⟩
structure TP where
  A0 : Option Addr
  c0 : Nat
  A1 : Option Addr
  c1 : Nat
@[reducible] def tv (p : TP) (t : Run) : Value := .agg #[.slice p.A0 t.f0.length p.c0, .slice p.A1 t.f1.length p.c1]
structure RT (w : World) (p : TP) (t : Run) : Prop where
  s0 : RS Kd.bool w p.A0 p.c0 t.f0
  s1 : RS (Kd.slice 4 Kd.bool) w p.A1 p.c1 t.f1
theorem RT.below {w w1 : World} {p : TP} {t : Run} (h : RT w p t) (hb : Below w.heap.size w w1) : RT w1 p t := ⟨h.s0.below hb, h.s1.below hb⟩

/-! ### Lists -/
theorem drop_at {α : Type} {l : List α} {k : Nat} (h : k < l.length) : l.drop k = l[k] :: l.drop (k + 1) := List.drop_eq_getElem_cons h
theorem take_at {α : Type} {l : List α} {k : Nat} (h : k < l.length) : l.take (k + 1) = l.take k ++ [l[k]] := List.take_succ_eq_append_getElem h
theorem all_step {α : Type} {l : List α} {q : α → Bool} {k : Nat} (h : k < l.length) : (l.drop k).all q = (q l[k] && (l.drop (k + 1)).all q) := by rw [drop_at h, List.all_cons]
theorem any_step {α : Type} {l : List α} {q : α → Bool} {k : Nat} (h : k < l.length) : (l.drop k).any q = (q l[k] || (l.drop (k + 1)).any q) := by rw [drop_at h, List.any_cons]
end Go.Proofs.Ytlhiapggccgggaa.PH

/- slices.Clone at []int. -/
namespace Go.Proofs.Ytlhiapggccgggaa.PH
open Go.RowKit Go.Proofs.YtlhiapggccgggaaW.PrintWords
set_option linter.unusedVariables false
set_option linter.unusedSimpArgs false

theorem infoInt : (Try.prog.info? 3).map (fun i => (i.zero, i.size, i.bytes)) = some (some (.int .i64 0), 1, 8) := by kernel_rfl
theorem infoRow : (Try.prog.info? 24).map (fun i => (i.zero, i.size, i.bytes)) = some (some (.slice none 0 0), 1, 24) := by kernel_rfl
/-- A new row of its own comes back that reads as l. -/
def RetR {α : Type} (d : Kd α) (t : Nat) (w w' : World) (l : List α) (e : Ending) : Prop := ∃ A c, e = .returned (.slice A l.length c) ∧ d.R t w' w.heap.size (fun _ => True) (.slice A l.length c) l ∧ Below w.heap.size w w'
set_option maxHeartbeats 2000000 in
set_option maxRecDepth 100000 in
theorem slices_Clone_int (A : Option Addr) (c : Nat) (l : List Int) (w : World) (h : RS (Kd.int .i64) w A c l) (hl : l.length ≤ 4000000) :
    Calls Try.prog 37 #[.slice A l.length c] w fun e w' => RetR (Kd.int .i64) 3 w w' l e := by
  have q22 : ∀ (w : World) (a : Option Addr) (n c n' c' : Nat), (binOp .eql 24 (.slice a n c) (.slice none n' c')).run Try.prog w = .ok (.bool a.isNone) w := fun w a n c n' c' => Lib.run_eql_slice_nil w _ _ a n c n' c' Try.underlying24
  have HR := Aside0.mk h
  have HL := Aside0.mk hl
  clear h hl
  cases A with
  | none =>
    have he : l = [] := by
      cases l with
      | nil => rfl
      | cons x xs => obtain ⟨ad, h, _⟩ := HR.out.r.2.2 (by simp); cases h
    subst he
    go_enter Try.func37, Try.ntmps37
    go_wp2
    go_ret
    exact ⟨none, 0, rfl, Kd.R_nil _ _ _ _ _, Below.refl _ _⟩
  | some ad =>
    go_enter Try.func37, Try.ntmps37
    go_wp2_with (first | ((with_reducible refine gate_dst (N := 5) rfl ?_); refine Kd.R_lit (Kd.int .i64) _ 3 ?hg (N := 5) ?hd (xs := []) (inner := []) (ok := fun _ => True) (okp := fun _ => True) ?hr ?hp (fun _ hk => hk) trivial (Below.refl _ _) (Nat.le_refl _) (by simp) ?_; (case hd => rfl); (case hg => rfl); (case hr => first | (go_simp; done) | (go_simp; rfl)); (case hp => exact (Reps.none _ _)); intro v1 w1 ho1 hb1 hg1 hnew1; clear hg1 hnew1; have HO := Aside0.mk ho1; have HB := Aside0.mk hb1; clear ho1 hb1) | (at_builtin; refine Kd.R_append_row (Value.int .i64) (0 : Int) (h1 := fun _ => rfl) (w0 := w) w.heap.size rfl (.tmp 5) (.tmp 6) 24 3 (.int .i64 0) 8 rfl Try.underlying24 infoInt rfl (by omega) v1 [] l _ _ _ (fun _ => True) rfl rfl ?aF ?aO ?aR ?aB ?aS ?aL ?_; (case aR => exact (Kd.C_below HR.out.r HB.out)); (case aB => exact HB.out); (case aF => exact (fun _ _ => trivial)); (case aO => exact HO.out); (case aS => exact HB.out.size); (case aL => have := HL.out; simp; omega); intro v2 w2 ho hb hg hat))
    rw [List.nil_append] at ho
    obtain ⟨A2, c2, rfl, hc2, _⟩ := Kd.R_reads ho
    have HC2 := Aside0.mk ho
    have HB2 := Aside0.mk hb
    clear ho hb hg hat hc2
    go_ret
    exact ⟨A2, c2, rfl, HC2.out, HB2.out⟩
end Go.Proofs.Ytlhiapggccgggaa.PH

/- The arguments of a row: structs and rows that came in, read by their kinds. -/
namespace Go.Proofs.Ytlhiapggccgggaa.PH
open Go.RowKit Go.Proofs.YtlhiapggccgggaaW.PrintWords Go.WideShapes
set_option linter.unusedVariables false
set_option linter.unusedSimpArgs false

section
variable {H : Type} {enc : TypeId × Value → H} {W : World} {α β : Type}
/-- What is trodden as type t is told by the kind d; wf holds of it. -/
def Opn (enc : TypeId × Value → H) (W : World) (d : Kd α) (t : TypeId) (wf : α → Prop) : Prop :=
  ∀ fuel cs x, DataW.trod enc Try.prog W 0 (fun _ => true) true fuel t cs = some x → ∃ a, d.K W a cs ∧ wf a
theorem Opn.mono {d : Kd α} {t : TypeId} {p q : α → Prop} (h : Opn enc W d t p) (hq : ∀ a, p a → q a) : Opn enc W d t q := fun fuel cs x hx => by
  obtain ⟨a, h1, h2⟩ := h fuel cs x hx
  exact ⟨a, h1, hq a h2⟩
theorem opn_int {t : TypeId} (ht : Try.prog.underlying t = some (.int .i64)) : Opn enc W (Kd.int .i64) t I64 := fun fuel cs x hx => by
  obtain ⟨n, rfl, _, hw⟩ := DataW.trod_int ht hx
  refine ⟨n, rfl, ?_⟩
  simp only [Lit.wf, Bool.and_eq_true, decide_eq_true_eq] at hw
  exact hw
theorem opn_bool {t : TypeId} (ht : Try.prog.underlying t = some .bool) : Opn enc W Kd.bool t (fun _ => True) := fun fuel cs x hx => by
  obtain ⟨n, h1, _⟩ := DataW.trod_bool ht hx
  exact ⟨n, h1, trivial⟩
theorem list_of {P : Nat → α → Prop} : ∀ n, (∀ i, i < n → ∃ y, P i y) → ∃ l : List α, l.length = n ∧ ∀ j y, l[j]? = some y → P j y
  | 0, _ => ⟨[], rfl, fun j y h => by simp at h⟩
  | n + 1, h => by
    obtain ⟨l, hl, hp⟩ := list_of n (fun i hi => h i (by omega))
    obtain ⟨y, hy⟩ := h n (by omega)
    refine ⟨l ++ [y], by simp [hl], fun j z hz => ?_⟩
    by_cases hj : j < l.length
    · rw [List.getElem?_append_left hj] at hz; exact hp j z hz
    · rw [List.getElem?_append_right (by omega)] at hz
      have hj0 : j - l.length = 0 := by
        cases he : j - l.length with
        | zero => rfl
        | succ k => rw [he] at hz; simp at hz
      rw [hj0] at hz
      have e : y = z := by simpa using hz
      have e2 : j = n := by omega
      rw [← e, e2]; exact hy
set_option maxRecDepth 100000 in
theorem opn_slice {d : Kd α} {t e : TypeId} {wf : α → Prop} (E : Nat) (ht : Try.prog.underlying t = some (.slice e)) (h : Opn enc W d e wf) (hs : Try.prog.cellsOf e = d.sz) : Opn enc W (Kd.slice E d) t (fun l => ∀ x ∈ l, wf x) := fun fuel cs x hx => by
  rcases Go.Deep.open_slice ht hx with ⟨rfl, _⟩ | ⟨a, len, cap, m, n, D, Pl, rfl, _, hl, hm, hmm, _, hel⟩
  · exact ⟨[], ⟨none, 0, rfl, Nat.le_refl _, Kd.C_nil d W⟩, by simp⟩
  · have hmm : m = cap := by simpa using hmm
    subst hmm
    obtain ⟨l, hll, hlp⟩ := list_of (P := fun i y => wf y ∧ ∃ c, c.length = d.sz ∧ d.K W y c ∧ ∀ j u, c[j]? = some u → W.cell? (a.add (i * d.sz + j)) = some u) len (fun i hi => by
      obtain ⟨cs', h1, h2⟩ := hel i (by omega)
      obtain ⟨y, hk, hw⟩ := h _ _ _ h2
      obtain ⟨_, h4, h5⟩ := World.cells?_some h1
      refine ⟨y, hw, cs', by rw [h4, hs], hk, fun j u hu => ?_⟩
      have hj : j < cs'.length := (List.getElem?_eq_some_iff.1 hu).1
      have h6 := h5 j (by omega)
      rw [hu, hs] at h6
      rw [← h6]
      congr 1
      by_cases hj0 : j = 0 <;> by_cases hi0 : i * d.sz = 0 <;> simp [Addr.add, hj0, hi0, Nat.add_assoc])
    refine ⟨l, ⟨some a, m, by rw [hll], by omega, hll ▸ rfl, ?_, fun _ => ⟨a, rfl, fun j p hj => (hlp j p hj).2⟩⟩, fun y hy => ?_⟩
    · rw [hll]; unfold maxLen at hm; omega
    · obtain ⟨j, hj⟩ := List.getElem?_of_mem hy
      exact (hlp j y hj).1
theorem opn_field {t : TypeId} {fs : Array Field} {fuel : Nat} {cs : List Value} {x : DataW H × List MemPlace} (ht : Try.prog.underlying t = some (.struct fs)) (hx : DataW.trod enc Try.prog W 0 (fun _ => true) true fuel t cs = some x)
    (i : Nat) {f : Field} (hi : fs[i]? = some f) {d : Kd α} {wf : α → Prop} (ho : Opn enc W d f.type wf) {n : Nat} (hn : Try.prog.cellsOf f.type = n) : ∃ a, d.K W a ((cs.drop f.offset).take n) ∧ wf a := by
  obtain ⟨xs, m, _, _, _, hlen, hf⟩ := DataW.trod_struct ht hx
  have hlt : i < fs.size := (Array.getElem?_eq_some_iff.1 hi).1
  have h1 := hf i f hi
  rw [List.getElem?_eq_getElem (by omega)] at h1
  rw [← hn]
  exact ho _ _ _ h1
theorem opn_size {t : TypeId} {fs : Array Field} {fuel : Nat} {cs : List Value} {x : DataW H × List MemPlace} (ht : Try.prog.underlying t = some (.struct fs)) (hx : DataW.trod enc Try.prog W 0 (fun _ => true) true fuel t cs = some x) : cs.length = Try.prog.cellsOf t := by
  obtain ⟨xs, m, _, _, h, _⟩ := DataW.trod_struct ht hx
  exact h
theorem two_of {cs : List Value} (h : cs.length = 2) : ∃ c0 c1, cs = [c0, c1] := by
  match cs, h with
  | [c0, c1], _ => exact ⟨_, _, rfl⟩
theorem five_of {cs : List Value} (h : cs.length = 5) : ∃ c0 c1 c2 c3 c4, cs = [c0, c1, c2, c3, c4] := by
  match cs, h with
  | [c0, c1, c2, c3, c4], _ => exact ⟨_, _, _, _, _, rfl⟩
theorem seven_of {cs : List Value} (h : cs.length = 7) : ∃ c0 c1 c2 c3 c4 c5 c6, cs = [c0, c1, c2, c3, c4, c5, c6] := by
  match cs, h with
  | [c0, c1, c2, c3, c4, c5, c6], _ => exact ⟨_, _, _, _, _, _, _, rfl⟩
theorem opn_latch : Opn enc W kLatch 107 (fun x => I64 x.f0 ∧ I64 x.f1) := fun fuel cs x hx => by
  obtain ⟨c0, c1, rfl⟩ := two_of ((opn_size Try.underlying107 hx).trans (by kernel_rfl))
  obtain ⟨a0, h0, w0⟩ := opn_field Try.underlying107 hx 0 rfl (opn_int Try.underlying3) (n := 1) (by kernel_rfl)
  obtain ⟨a1, h1, w1⟩ := opn_field Try.underlying107 hx 1 rfl (opn_int Try.underlying3) (n := 1) (by kernel_rfl)
  cases h0
  cases h1
  exact ⟨⟨a0, a1⟩, kLatch_mk W ⟨a0, a1⟩, w0, w1⟩
theorem opn_gate : Opn enc W kGate 93 (fun x => I64 x.f0 ∧ I64 x.f1) := fun fuel cs x hx => by
  obtain ⟨c0, c1, rfl⟩ := two_of ((opn_size Try.underlying93 hx).trans (by kernel_rfl))
  obtain ⟨a0, h0, w0⟩ := opn_field Try.underlying93 hx 0 rfl (opn_int Try.underlying3) (n := 1) (by kernel_rfl)
  obtain ⟨a1, h1, w1⟩ := opn_field Try.underlying93 hx 1 rfl (opn_int Try.underlying3) (n := 1) (by kernel_rfl)
  cases h0
  cases h1
  exact ⟨⟨a0, a1⟩, kGate_mk W ⟨a0, a1⟩, w0, w1⟩
theorem opn_ints : Opn enc W (Kd.slice 3 (Kd.int .i64)) 24 (fun l => ∀ x ∈ l, I64 x) := opn_slice _ Try.underlying24 (opn_int Try.underlying3) (by kernel_rfl)
theorem opn_gates : Opn enc W (Kd.slice 93 kGate) 23 (fun l => ∀ x ∈ l, I64 x.f0 ∧ I64 x.f1) := opn_slice _ Try.underlying23 opn_gate (by kernel_rfl)
theorem opn_latches : Opn enc W (Kd.slice 107 kLatch) 22 (fun l => ∀ x ∈ l, I64 x.f0 ∧ I64 x.f1) := opn_slice _ Try.underlying22 opn_latch (by kernel_rfl)
/-- The numbers of a circuit, a predicate, a lift are of 64 bits. -/
structure Circ.Nums (c : Circ) : Prop where
  i0 : I64 c.f0
  i1 : ∀ x ∈ c.f1, I64 x.f0 ∧ I64 x.f1
  i2 : ∀ x ∈ c.f2, I64 x.f0 ∧ I64 x.f1
  i3 : ∀ x ∈ c.f3, I64 x
  i4 : ∀ x ∈ c.f4, I64 x
structure Lf.Nums (l : Lf) : Prop where
  i0 : I64 l.f0
  i1 : I64 l.f1
  i2 : ∀ x ∈ l.f2, I64 x
  i3 : ∀ r ∈ l.f3, ∀ x ∈ r, I64 x
  i4 : ∀ x ∈ l.f4, I64 x
  ig : ∀ x ∈ l.f5.f0, I64 x.f0 ∧ I64 x.f1
  il : I64 l.f5.f1
theorem opn_circ : Opn enc W kCirc 26 Circ.Nums := fun fuel cs x hx => by
  have hu := Try.underlying26
  obtain ⟨c0, c1, c2, c3, c4, rfl⟩ := five_of ((opn_size hu hx).trans (by kernel_rfl))
  obtain ⟨a0, h0, w0⟩ := opn_field hu hx 0 rfl (opn_int Try.underlying3) (n := 1) (by kernel_rfl)
  obtain ⟨a1, h1, w1⟩ := opn_field hu hx 1 rfl opn_latches (n := 1) (by kernel_rfl)
  obtain ⟨a2, h2, w2⟩ := opn_field hu hx 2 rfl opn_gates (n := 1) (by kernel_rfl)
  obtain ⟨a3, h3, w3⟩ := opn_field hu hx 3 rfl opn_ints (n := 1) (by kernel_rfl)
  obtain ⟨a4, h4, w4⟩ := opn_field hu hx 4 rfl opn_ints (n := 1) (by kernel_rfl)
  obtain ⟨A1, k1, e1, l1, g1⟩ := h1
  obtain ⟨A2, k2, e2, l2, g2⟩ := h2
  obtain ⟨A3, k3, e3, l3, g3⟩ := h3
  obtain ⟨A4, k4, e4, l4, g4⟩ := h4
  cases h0
  cases e1
  cases e2
  cases e3
  cases e4
  exact ⟨⟨a0, a1, a2, a3, a4⟩, kCirc_mk W ⟨a0, a1, a2, a3, a4⟩ l1 g1 l2 g2 l3 g3 l4 g4, w0, w1, w2, w3, w4⟩
end
section
variable {H : Type} {enc : TypeId × Value → H} {W : World} {α β : Type}
theorem opn_pr : Opn enc W kPr 29 (fun x => (∀ g ∈ x.f0, I64 g.f0 ∧ I64 g.f1) ∧ I64 x.f1) := fun fuel cs x hx => by
  obtain ⟨c0, c1, rfl⟩ := two_of ((opn_size Try.underlying29 hx).trans (by kernel_rfl))
  obtain ⟨a0, h0, w0⟩ := opn_field Try.underlying29 hx 0 rfl opn_gates (n := 1) (by kernel_rfl)
  obtain ⟨a1, h1, w1⟩ := opn_field Try.underlying29 hx 1 rfl (opn_int Try.underlying3) (n := 1) (by kernel_rfl)
  obtain ⟨A1, k1, e1, l1, g1⟩ := h0
  cases e1
  cases h1
  exact ⟨⟨a0, a1⟩, kPr_mk W ⟨a0, a1⟩ l1 g1, w0, w1⟩
theorem opn_rows : Opn enc W (Kd.slice 24 (Kd.slice 3 (Kd.int .i64))) 27 (fun l => ∀ r ∈ l, ∀ x ∈ r, I64 x) := opn_slice _ Try.underlying27 opn_ints (by kernel_rfl)
theorem opn_lf : Opn enc W kLf 31 Lf.Nums := fun fuel cs x hx => by
  have hu := Try.underlying31
  obtain ⟨c0, c1, c2, c3, c4, c5, c6, rfl⟩ := seven_of ((opn_size hu hx).trans (by kernel_rfl))
  obtain ⟨a0, h0, w0⟩ := opn_field hu hx 0 rfl (opn_int Try.underlying3) (n := 1) (by kernel_rfl)
  obtain ⟨a1, h1, w1⟩ := opn_field hu hx 1 rfl (opn_int Try.underlying3) (n := 1) (by kernel_rfl)
  obtain ⟨a2, h2, w2⟩ := opn_field hu hx 2 rfl opn_ints (n := 1) (by kernel_rfl)
  obtain ⟨a3, h3, w3⟩ := opn_field hu hx 3 rfl opn_rows (n := 1) (by kernel_rfl)
  obtain ⟨a4, h4, w4⟩ := opn_field hu hx 4 rfl opn_ints (n := 1) (by kernel_rfl)
  obtain ⟨a5, h5, w5⟩ := opn_field hu hx 5 rfl opn_pr (n := 2) (by kernel_rfl)
  obtain ⟨A2, k2, e2, l2, g2⟩ := h2
  obtain ⟨A3, k3, e3, l3, g3⟩ := h3
  obtain ⟨A4, k4, e4, l4, g4⟩ := h4
  obtain ⟨A5, k5, e5, l5, g5⟩ := kPr_open h5
  cases h0
  cases h1
  cases e2
  cases e3
  cases e4
  cases e5
  exact ⟨⟨a0, a1, a2, a3, a4, a5⟩, kLf_mk W ⟨a0, a1, a2, a3, a4, a5⟩ l2 g2 l3 g3 l4 g4 l5 g5, w0, w1, w2, w3, w4, w5.1, w5.2⟩
set_option maxRecDepth 100000 in
theorem arg_lf {v : Value} {d : DataW H} {ps : List MemPlace} {r : Reach} {base : Nat} (hv : Value.okWide Try.prog W r base 31 v) (h : DataW.Trod enc Try.prog W 0 (fun _ => true) true 31 v d ps) : ∃ p c, v = lv p c ∧ RL W p c ∧ c.Nums := by
  obtain ⟨cs, rfl, _⟩ := okWide_struct Try.underlying31 hv
  obtain ⟨fuel, hf⟩ := h
  obtain ⟨a, hk, hw⟩ := opn_lf _ _ _ hf
  obtain ⟨A2, c2, A3, c3, A4, c4, A5, c5, e, l2, g2, l3, g3, l4, g4, l5, g5⟩ := kLf_open hk
  refine ⟨⟨A2, c2, A3, c3, A4, c4, A5, c5⟩, a, ?_, ⟨⟨g2, l2⟩, ⟨g3, l3⟩, ⟨g4, l4⟩, ⟨g5, l5⟩⟩, hw⟩
  have e' : cs.toList = _ := e
  rw [← Array.toArray_toList (xs := cs), e']
end
section
variable {H : Type} {enc : TypeId × Value → H} {W : World}
set_option maxRecDepth 100000 in
theorem arg_circ {v : Value} {d : DataW H} {ps : List MemPlace} {r : Reach} {base : Nat} (hv : Value.okWide Try.prog W r base 26 v) (h : DataW.Trod enc Try.prog W 0 (fun _ => true) true 26 v d ps) : ∃ p c, v = cv p c ∧ RC W p c ∧ c.Nums := by
  obtain ⟨cs, rfl, _⟩ := okWide_struct Try.underlying26 hv
  obtain ⟨fuel, hf⟩ := h
  obtain ⟨a, hk, hw⟩ := opn_circ _ _ _ hf
  obtain ⟨p, e, hr⟩ := RC.of_K hk
  refine ⟨p, a, ?_, hr, hw⟩
  rw [← e]
  show Value.agg cs = .agg (Value.cells (.agg cs)).toList.toArray
  simp [Value.cells]
end
end Go.Proofs.Ytlhiapggccgggaa.PH

/- slices.Clone at rows of gates and of latches. -/
namespace Go.Proofs.Ytlhiapggccgggaa.PH
open Go.RowKit Go.Proofs.YtlhiapggccgggaaW.PrintWords
set_option linter.unusedVariables false
set_option linter.unusedSimpArgs false

theorem info_gate : (Try.prog.info? 93).map (fun i => (i.zero, i.size, i.bytes)) = some (some (.agg #[.int .i64 0, .int .i64 0]), 2, 16) := by kernel_rfl
set_option maxHeartbeats 2000000 in
set_option maxRecDepth 100000 in
theorem slices_Clone_gate (A : Option Addr) (c : Nat) (l : List _) (w : World) (h : RS kGate w A c l) (hl : l.length ≤ 4000000) :
    Calls Try.prog 91 #[.slice A l.length c] w fun e w' => RetR kGate 93 w w' l e := by
  have q22 : ∀ (w : World) (a : Option Addr) (n c n' c' : Nat), (binOp .eql 23 (.slice a n c) (.slice none n' c')).run Try.prog w = .ok (.bool a.isNone) w := fun w a n c n' c' => Lib.run_eql_slice_nil w _ _ a n c n' c' Try.underlying23
  have HR := Aside0.mk h
  have HL := Aside0.mk hl
  clear h hl
  cases A with
  | none =>
    have he : l = [] := by
      cases l with
      | nil => rfl
      | cons x xs => obtain ⟨ad, h, _⟩ := HR.out.r.2.2 (by simp); cases h
    subst he
    go_enter Try.func91, Try.ntmps91
    go_wp2
    go_ret
    exact ⟨none, 0, rfl, Kd.R_nil _ _ _ _ _, Below.refl _ _⟩
  | some ad =>
    go_enter Try.func91, Try.ntmps91
    go_wp2_with (first | ((with_reducible refine gate_dst (N := 5) rfl ?_); refine Kd.R_lit kGate _ 93 ?hg (N := 5) ?hd (xs := []) (inner := []) (ok := fun _ => True) (okp := fun _ => True) ?hr ?hp (fun _ hk => hk) trivial (Below.refl _ _) (Nat.le_refl _) (by simp) ?_; (case hd => rfl); (case hg => rfl); (case hr => first | (go_simp; done) | (go_simp; rfl)); (case hp => exact (Reps.none _ _)); intro v1 w1 ho1 hb1 hg1 hnew1; clear hg1 hnew1; have HO := Aside0.mk ho1; have HB := Aside0.mk hb1; clear ho1 hb1) | (at_builtin; go_loud (refine Kd.R_append_rows kGate (w0 := w) w.heap.size rfl (.tmp 5) (.tmp 6) 23 93 (.agg #[.int .i64 0, .int .i64 0]) 16 rfl Try.underlying23 info_gate rfl (by decide) (by omega) v1 [] l _ _ _ (fun _ => True) (fun _ => False) rfl rfl ?aO ?aR (fun _ _ h => h) (fun _ h => h.elim) ?aF ?aB ?aS ?aL ?_); (case aR => exact (Kd.C_below HR.out.r HB.out)); (case aB => exact HB.out); (case aF => exact (fun _ _ => trivial)); (case aO => exact HO.out); (case aS => exact HB.out.size); (case aL => have := HL.out; simp; omega); intro v2 w2 ho hb hg hat))
    rw [List.nil_append] at ho
    obtain ⟨A2, c2, rfl, hc2, _⟩ := Kd.R_reads ho
    have HC2 := Aside0.mk ho
    have HB2 := Aside0.mk hb
    clear ho hb hg hat hc2
    go_ret
    exact ⟨A2, c2, rfl, HC2.out, HB2.out⟩
theorem info_latch : (Try.prog.info? 107).map (fun i => (i.zero, i.size, i.bytes)) = some (some (.agg #[.int .i64 0, .int .i64 0]), 2, 16) := by kernel_rfl
end Go.Proofs.Ytlhiapggccgggaa.PH

/- Blocks of five cells (circuits). -/
namespace Go.Proofs.Ytlhiapggccgggaa.PH
open Go.RowKit Go.Proofs.YtlhiapggccgggaaW.PrintWords Go.Proofs.YtlhiapggccgggaaW.PrintLast
set_option linter.unusedVariables false
set_option linter.unusedSimpArgs false

/-- A block of five cells: what is read there, and that it may be written. -/
theorem blk5w {w : World} {g : Nat} {t : TypeId} {v0 v1 v2 v3 v4 : Value} (h : w.heap[g]? = some (.cells #[v0, v1, v2, v3, v4] t (0, 0))) :
    (w.cell? ⟨g, 0, none⟩ = some v0 ∧ w.cell? ⟨g, 1, none⟩ = some v1 ∧ w.cell? ⟨g, 2, none⟩ = some v2 ∧ w.cell? ⟨g, 3, none⟩ = some v3 ∧ w.cell? ⟨g, 4, none⟩ = some v4) ∧
    (w.frozen? ⟨g, 0, none⟩ = false ∧ w.frozen? ⟨g, 1, none⟩ = false ∧ w.frozen? ⟨g, 2, none⟩ = false ∧ w.frozen? ⟨g, 3, none⟩ = false ∧ w.frozen? ⟨g, 4, none⟩ = false) :=
  ⟨⟨(blk_cell h 0).trans rfl, (blk_cell h 1).trans rfl, (blk_cell h 2).trans rfl, (blk_cell h 3).trans rfl, (blk_cell h 4).trans rfl⟩, blk_frozen h 0, blk_frozen h 1, blk_frozen h 2, blk_frozen h 3, blk_frozen h 4⟩
theorem blk5_set {w : World} {g : Nat} {t : TypeId} {v0 v1 v2 v3 v4 : Value} (h : w.heap[g]? = some (.cells #[v0, v1, v2, v3, v4] t (0, 0))) (u0 u1 u2 u3 u4 : Value) :
    (((((w.setCell ⟨g, 0, none⟩ u0).setCell ⟨g, 1, none⟩ u1).setCell ⟨g, 2, none⟩ u2).setCell ⟨g, 3, none⟩ u3).setCell ⟨g, 4, none⟩ u4).heap[g]? = some (.cells #[u0, u1, u2, u3, u4] t (0, 0)) :=
  by simpa using blk_set (blk_set (blk_set (blk_set (blk_set h 0 u0) 1 u1) 2 u2) 3 u3) 4 u4
theorem below5 {b : Nat} {w W : World} {g : Nat} (h : Below b w W) (hg : b ≤ g) (u0 u1 u2 u3 u4 : Value) :
    Below b w (((((W.setCell ⟨g, 0, none⟩ u0).setCell ⟨g, 1, none⟩ u1).setCell ⟨g, 2, none⟩ u2).setCell ⟨g, 3, none⟩ u3).setCell ⟨g, 4, none⟩ u4) :=
  Below.setCell (Below.setCell (Below.setCell (Below.setCell (Below.setCell h (p := ⟨g, 0, none⟩) hg _) (p := ⟨g, 1, none⟩) hg _) (p := ⟨g, 2, none⟩) hg _) (p := ⟨g, 3, none⟩) hg _) (p := ⟨g, 4, none⟩) hg _
theorem far5 {w : World} {g b : Nat} {t : TypeId} {cs : Array Value} (h : w.heap[b]? = some (.cells cs t (0, 0))) (hn : b ≠ g) (u0 u1 u2 u3 u4 : Value) :
    (((((w.setCell ⟨g, 0, none⟩ u0).setCell ⟨g, 1, none⟩ u1).setCell ⟨g, 2, none⟩ u2).setCell ⟨g, 3, none⟩ u3).setCell ⟨g, 4, none⟩ u4).heap[b]? = some (.cells cs t (0, 0)) :=
  blk_far (blk_far (blk_far (blk_far (blk_far h hn _) hn _) hn _) hn _) hn _
theorem R5 {α : Type} {d : Kd α} {e base : Nat} {w : World} {ok : Nat → Prop} {v : Value} {xs : List α} (h : d.R e w base ok v xs) {g t : Nat} {cs : Array Value} (hb : w.heap[g]? = some (.cells cs t (0, 0))) (ht : ∀ q, q ∈ e :: d.E → q ≠ t) (u0 u1 u2 u3 u4 : Value) :
    d.R e (((((w.setCell ⟨g, 0, none⟩ u0).setCell ⟨g, 1, none⟩ u1).setCell ⟨g, 2, none⟩ u2).setCell ⟨g, 3, none⟩ u3).setCell ⟨g, 4, none⟩ u4) base ok v xs :=
  have b0 := blk_set hb 0 u0
  have b1 := blk_set b0 1 u1
  have b2 := blk_set b1 2 u2
  have b3 := blk_set b2 3 u3
  Kd.R_set (Kd.R_set (Kd.R_set (Kd.R_set (Kd.R_set h hb ht 0 u0) b0 ht 1 u1) b1 ht 2 u2) b2 ht 3 u3) b3 ht 4 u4
/-- A circuit, a number and an error come back. -/
def RetC (w w' : World) (r : Circ × Int × Int) (e : Ending) : Prop := ∃ p, e = .returned (.tuple #[cv p r.1, .int .i64 r.2.1, .int .i64 r.2.2]) ∧ RC w' p r.1 ∧ Below w.heap.size w w'
def zeroC : Circ := ⟨0, [], [], [], []⟩
theorem RC.zero (w : World) : RC w ⟨none, 0, none, 0, none, 0, none, 0⟩ zeroC := ⟨RS.nil _ _ _, RS.nil _ _ _, RS.nil _ _ _, RS.nil _ _ _⟩
/-- Rows of a circuit that are its own. -/
structure RCo (b : Nat) (w : World) (p : CP) (c : Circ) : Prop where
  s1 : Kd.R kLatch 107 w b (fun _ => True) (.slice p.A1 c.f1.length p.c1) c.f1
  s2 : Kd.R kGate 93 w b (fun _ => True) (.slice p.A2 c.f2.length p.c2) c.f2
  s3 : Kd.R (Kd.int .i64) 3 w b (fun _ => True) (.slice p.A3 c.f3.length p.c3) c.f3
  s4 : Kd.R (Kd.int .i64) 3 w b (fun _ => True) (.slice p.A4 c.f4.length p.c4) c.f4
theorem RCo.five {b : Nat} {w : World} {p : CP} {c : Circ} (h : RCo b w p c) {g : Nat} {cs : Array Value} (hb : w.heap[g]? = some (.cells cs 26 (0, 0))) (u0 u1 u2 u3 u4 : Value) :
    RCo b (((((w.setCell ⟨g, 0, none⟩ u0).setCell ⟨g, 1, none⟩ u1).setCell ⟨g, 2, none⟩ u2).setCell ⟨g, 3, none⟩ u3).setCell ⟨g, 4, none⟩ u4) p c :=
  ⟨R5 h.s1 hb (by decide) _ _ _ _ _, R5 h.s2 hb (by decide) _ _ _ _ _, R5 h.s3 hb (by decide) _ _ _ _ _, R5 h.s4 hb (by decide) _ _ _ _ _⟩
theorem RCo.below {b : Nat} {w w1 : World} {p : CP} {c : Circ} (h : RCo b w p c) (hb : Below w.heap.size w w1) : RCo b w1 p c :=
  ⟨Kd.R_below h.s1 hb, Kd.R_below h.s2 hb, Kd.R_below h.s3 hb, Kd.R_below h.s4 hb⟩
theorem RCo.rc {b : Nat} {w : World} {p : CP} {c : Circ} (h : RCo b w p c) : RC w p c := ⟨RS.of_R' h.s1, RS.of_R' h.s2, RS.of_R' h.s3, RS.of_R' h.s4⟩
end Go.Proofs.Ytlhiapggccgggaa.PH

/- Rows that grow one after the other, in a struct that the call itself made. -/
namespace Go.Proofs.Ytlhiapggccgggaa.PH
open Go.RowKit Go.Proofs.YtlhiapggccgggaaW.PrintWords Go.Proofs.YtlhiapggccgggaaW.PrintLast
set_option linter.unusedVariables false
set_option linter.unusedSimpArgs false

/-- What holds in each world that has the blocks of S as they are. -/
def Held (S : Nat → Prop) (wr : World) (P : World → Prop) : Prop := ∀ W : World, (∀ k, S k → W.heap[k]? = wr.heap[k]?) → P W
theorem Held.self {S : Nat → Prop} {wr : World} {P : World → Prop} (h : Held S wr P) : P wr := h wr (fun _ _ => rfl)
theorem Held.move {S S' : Nat → Prop} {wr w2 : World} {P : World → Prop} (h : Held S wr P) (hs : ∀ k, S k → S' k) (hm : ∀ k, S k → w2.heap[k]? = wr.heap[k]?) : Held S' w2 P :=
  fun W hW => h W (fun k hk => (hW k (hs k hk)).trans (hm k hk))
theorem Held.and {S : Nat → Prop} {wr : World} {P Q : World → Prop} (h : Held S wr P) (k : Held S wr Q) : Held S wr (fun W => P W ∧ Q W) := fun W hW => ⟨h W hW, k W hW⟩
theorem Held.imp {S : Nat → Prop} {wr : World} {P Q : World → Prop} (h : Held S wr P) (hq : ∀ W, P W → Q W) : Held S wr Q := fun W hW => hq W (h W hW)
/-- A row of the call's own, held. -/
theorem Held.row {α : Type} {d : Kd α} {e b m c : Nat} {w : World} {V : Option Addr} {l : List α} {S : Nat → Prop} (h : d.R e w b (fun _ => True) (.slice V m c) l) (hS : ∀ k, b ≤ k → k < w.heap.size → S k) : Held S w (fun W => RS d W V c l) :=
  fun W hW => RS.of_R' (Kd.R_step (Kd.R_bound h) (fun k hk hlt => hW k (hS k hk.2.1 hlt)))
/-- A row grows: d, l, in the slot of the struct at gO; n: the row lies at or behind it; P: what is done; B: what is boxed, ahead of n0. -/
structure Stg {α : Type} (w : World) (n0 n gO T : Nat) (B P : World → Prop) (d : Kd α) (e : Nat) (cells : Array Value) (V : Option Addr) (m c : Nat) (l : List α) (wr : World) : Prop where
  BW : Below w.heap.size w wr
  N : w.heap.size ≤ n0 ∧ n0 ≤ gO ∧ gO < n ∧ n ≤ wr.heap.size
  HB : Held (fun k => k < n0) wr B
  HD : Held (fun k => n0 ≤ k ∧ k < n ∧ k ≠ gO) wr P
  BO : wr.heap[gO]? = some (.cells cells T (0, 0))
  RV : d.R e wr n (fun _ => True) (.slice V m c) l
section
variable {α : Type} {w : World} {n0 n gO T : Nat} {B P : World → Prop} {d : Kd α} {e : Nat} {cells : Array Value} {V V' : Option Addr} {m m' c c' : Nat} {l l' : List α} {wr w2 : World}
theorem Stg.below (h : Stg w n0 n gO T B P d e cells V m c l wr) (hb : Below wr.heap.size wr w2) : Stg w n0 n gO T B P d e cells V m c l w2 :=
  ⟨h.BW.trans (hb.mono h.BW.size), ⟨h.N.1, h.N.2.1, h.N.2.2.1, Nat.le_trans h.N.2.2.2 hb.size⟩, h.HB.move (fun _ hk => hk) (fun k hk => hb.block k (by have := h.N; omega)), h.HD.move (fun _ hk => hk) (fun k hk => hb.block k (by have := h.N; omega)), blk_below h.BO hb, Kd.R_below h.RV hb⟩
theorem Stg.app (h : Stg w n0 n gO T B P d e cells V m c l wr) (hb : Below n wr w2) (hR : d.R e w2 n (fun _ => True) (.slice V' m' c') l') : Stg w n0 n gO T B P d e cells V' m' c' l' w2 :=
  ⟨h.BW.trans (hb.mono (by have := h.N; omega)), ⟨h.N.1, h.N.2.1, h.N.2.2.1, Nat.le_trans h.N.2.2.2 hb.size⟩, h.HB.move (fun _ hk => hk) (fun k hk => hb.block k (by have := h.N; omega)), h.HD.move (fun _ hk => hk) (fun k hk => hb.block k (by omega)), (hb.block gO h.N.2.2.1).trans h.BO, hR⟩
theorem Stg.put (h : Stg w n0 n gO T B P d e cells V m c l wr) (ht : ∀ q, q ∈ e :: d.E → q ≠ T) (i : Nat) (u : Value) {cells' : Array Value} (hc : cells.setIfInBounds i u = cells') : Stg w n0 n gO T B P d e cells' V m c l (wr.setCell ⟨gO, i, none⟩ u) :=
  hc ▸ ⟨below_set h.BW (by have := h.N; omega), ⟨h.N.1, h.N.2.1, h.N.2.2.1, by have h_ := h.N.2.2.2; simpa using h_⟩, h.HB.move (fun _ hk => hk) (fun k hk => Below.heap_setCell wr ⟨gO, i, none⟩ u k (show k ≠ gO by have := h.N; omega)),
    h.HD.move (fun _ hk => hk) (fun k hk => Below.heap_setCell wr ⟨gO, i, none⟩ u k hk.2.2), blk_set h.BO i u, Kd.R_set h.RV h.BO ht i u⟩
theorem Stg.sz (h : Stg w n0 n gO T B P d e cells V m c l wr) : n ≤ wr.heap.size := h.N.2.2.2
/-- The row is done; another one begins. -/
theorem Stg.next (h : Stg w n0 n gO T B P d e cells V m c l wr) {β : Type} (d2 : Kd β) (e2 : Nat) : Stg w n0 wr.heap.size gO T B (fun W => P W ∧ RS d W V c l) d2 e2 cells none 0 0 ([] : List β) wr :=
  ⟨h.BW, ⟨h.N.1, h.N.2.1, Nat.lt_of_lt_of_le h.N.2.2.1 h.N.2.2.2, Nat.le_refl _⟩, h.HB, Held.and (h.HD.move (fun k hk => ⟨hk.1, by have := h.N; omega, hk.2.2⟩) (fun _ _ => rfl)) (Held.row h.RV (fun k h1 h2 => ⟨by have := h.N; omega, h2, by have := h.N; omega⟩)), h.BO, Kd.R_nil _ _ _ _ _⟩
end
/-- The struct is made: nothing in it grows yet. -/
theorem Stg.start {w w1 : World} {n0 T : Nat} {B : World → Prop} {cells : Array Value} {α : Type} (d : Kd α) (e : Nat) (hw : Below w.heap.size w w1) (h0 : w.heap.size ≤ n0) (h1 : n0 ≤ w1.heap.size) (hB : Held (fun k => k < n0) w1 B) :
    Stg w n0 (w1.heap.size + 1) w1.heap.size T B (fun _ => True) d e cells none 0 0 ([] : List α) (w1.alloc (.cells cells T)) :=
  ⟨below_alloc hw _, ⟨h0, h1, Nat.lt_succ_self _, by simp⟩, hB.move (fun _ hk => hk) (fun k hk => (below_alloc (Below.refl w1.heap.size w1) (.cells cells T)).block k (Nat.lt_of_lt_of_le hk h1)), fun _ _ => trivial, blk_new _ _, Kd.R_nil _ _ _ _ _⟩
theorem Held.blk {S : Nat → Prop} {wr : World} {g : Nat} {o : Obj} (h : wr.heap[g]? = some o) (hg : S g) : Held S wr (fun W => W.heap[g]? = some o) := fun W hW => (hW g hg).trans h
end Go.Proofs.Ytlhiapggccgggaa.PH

/- Memory of a call's own, piece by piece: no two pieces share a block. -/
namespace Go.Proofs.Ytlhiapggccgggaa.PH
open Go.RowKit Go.Proofs.YtlhiapggccgggaaW.PrintWords Go.Proofs.YtlhiapggccgggaaW.PrintLast
set_option linter.unusedVariables false
set_option linter.unusedSimpArgs false

/-- A piece: which blocks it has, and what it says of them. -/
structure Pc where
  F : Nat → Prop
  P : World → Prop
  loc : ∀ {W W' : World}, (∀ k, F k → W'.heap[k]? = W.heap[k]?) → P W → P W'
structure Parts (b : Nat) (w0 w : World) (ps : List Pc) : Prop where
  B : Below b w0 w
  z : b ≤ w.heap.size
  hP : ∀ (i : Nat) (p : Pc), ps[i]? = some p → p.P w
  hF : ∀ (i : Nat) (p : Pc), ps[i]? = some p → ∀ k, p.F k → b ≤ k ∧ k < w.heap.size
  ap : ∀ (i j : Nat) (p q : Pc), i ≠ j → ps[i]? = some p → ps[j]? = some q → ∀ k, p.F k → ¬ q.F k
/-- A block of cells. -/
def pB (g : Nat) (t : TypeId) (cs : Array Value) : Pc := ⟨fun k => k = g, fun w => w.heap[g]? = some (.cells cs t (0, 0)), fun hm h => (hm g rfl).trans h⟩
/-- A row, with the rows inside. -/
def pR {α : Type} (b : Nat) (d : Kd α) (e : Nat) (ok : Nat → Prop) (v : Value) (xs : List α) : Pc := ⟨ok, fun w => d.R e w b ok v xs, fun hm h => Kd.R_move h hm⟩
/-- A row without rows inside. -/
def pF {α : Type} (b : Nat) (d : Kd α) (e : Nat) (v : Value) (xs : List α) : Pc := pR b d e (fun k => v.ownBlock = some k) v xs
/-- Something that holds in each world that has the blocks F as they are. -/
def pH (F : Nat → Prop) (w : World) (P : World → Prop) : Pc := ⟨F, fun W => Held F W P, fun hm h => h.move (fun _ hk => hk) hm⟩
/-- Kinds without rows inside. -/
def Flat {α : Type} (d : Kd α) : Prop := ∀ {w w' : World} {base base' : Nat} {ok ok' : Nat → Prop} {x : α} {cs : List Value}, d.M w base ok x cs → d.M w' base' ok' x cs
theorem flat_int {k : IntKind} : Flat (Kd.int k) := fun h => h
theorem flat_bool : Flat Kd.bool := fun h => h
theorem flat_latch : Flat kLatch := fun h => h
theorem flat_gate : Flat kGate := fun h => h
theorem flat_own {α : Type} {d : Kd α} (fl : Flat d) {e : Nat} {w : World} {b : Nat} {ok : Nat → Prop} {v : Value} {xs : List α} (h : d.R e w b ok v xs) : d.R e w b (fun k => v.ownBlock = some k) v xs :=
  ⟨fun _ hk => hk, h.2.imp_ (fun _ _ hp => fl hp)⟩
section
variable {b : Nat} {w0 w w1 : World} {ps : List Pc}
theorem Parts.start (w : World) : Parts w.heap.size w w [] := ⟨Below.refl _ _, Nat.le_refl _, fun _ _ h => by simp at h, fun _ _ h => by simp at h, fun _ _ _ _ _ h => by simp at h⟩
theorem Parts.start' {w0 w : World} (hb : Below w0.heap.size w0 w) : Parts w0.heap.size w0 w [] := ⟨hb, hb.size, fun _ _ h => by simp at h, fun _ _ h => by simp at h, fun _ _ _ _ _ h => by simp at h⟩
/-- What nobody here has may turn; so may what a piece has that turns with it. -/
theorem Parts.upd (h : Parts b w0 w ps) (i : Nat) {p p' : Pc} (hi : ps[i]? = some p) {row : Option Nat} (hg : w.grownBy w1 row) (hr : ∀ k, row = some k → p.F k) (hp : p'.P w1) (hf : ∀ k, p'.F k → (p.F k ∨ w.heap.size ≤ k) ∧ k < w1.heap.size) : Parts b w0 w1 (ps.set i p') := by
  have hlt : i < ps.length := (List.getElem?_eq_some_iff.1 hi).1
  have key : ∀ (j : Nat) (q : Pc), (ps.set i p')[j]? = some q → (j = i ∧ q = p') ∨ (j ≠ i ∧ ps[j]? = some q) := fun j q hq => by
    rw [List.getElem?_set] at hq
    by_cases hj : i = j
    · rw [if_pos hj] at hq
      subst hj
      rw [if_pos hlt] at hq
      exact .inl ⟨rfl, (Option.some.inj hq).symm⟩
    · rw [if_neg hj] at hq
      exact .inr ⟨Ne.symm hj, hq⟩
  have far : ∀ (j : Nat) (q : Pc), j ≠ i → ps[j]? = some q → ∀ k, q.F k → w1.heap[k]? = w.heap[k]? := fun j q hj hq k hk =>
    hg.block k (h.hF j q hq k hk).2 (fun he => h.ap j i q p hj hq hi k hk (hr k he.symm))
  refine ⟨h.B.grown hg h.z (fun k hk => (h.hF i p hi k (hr k hk)).1), Nat.le_trans h.z hg.size, fun j q hq => ?_, fun j q hq k hk => ?_, fun j l q r hjl hq hr' k hk hk2 => ?_⟩
  · rcases key j q hq with ⟨rfl, rfl⟩ | ⟨hj, hq'⟩
    · exact hp
    · exact q.loc (far j q hj hq') (h.hP j q hq')
  · rcases key j q hq with ⟨rfl, rfl⟩ | ⟨hj, hq'⟩
    · have h1 := hf k hk
      rcases h1.1 with h2 | h2
      · exact ⟨(h.hF _ p hi k h2).1, h1.2⟩
      · exact ⟨Nat.le_trans h.z h2, h1.2⟩
    · exact ⟨(h.hF j q hq' k hk).1, Nat.lt_of_lt_of_le (h.hF j q hq' k hk).2 hg.size⟩
  · rcases key j q hq with ⟨rfl, rfl⟩ | ⟨hj, hq'⟩ <;> rcases key l r hr' with ⟨rfl, rfl⟩ | ⟨hl, hr2⟩
    · exact hjl rfl
    · rcases (hf k hk).1 with h2 | h2
      · exact h.ap _ l p r hjl hi hr2 k h2 hk2
      · have := (h.hF l r hr2 k hk2).2; omega
    · rcases (hf k hk2).1 with h2 | h2
      · exact h.ap j _ q p hjl hq' hi k hk h2
      · have := (h.hF j q hq' k hk).2; omega
    · exact h.ap j l q r hjl hq' hr2 k hk hk2
/-- Something new beside it. -/
theorem Parts.push (h : Parts b w0 w ps) {p : Pc} (hb : Below w.heap.size w w1) (hp : p.P w1) (hf : ∀ k, p.F k → w.heap.size ≤ k ∧ k < w1.heap.size) : Parts b w0 w1 (p :: ps) := by
  have far : ∀ (j : Nat) (q : Pc), ps[j]? = some q → ∀ k, q.F k → w1.heap[k]? = w.heap[k]? := fun j q hq k hk => hb.block k (h.hF j q hq k hk).2
  refine ⟨h.B.trans (hb.mono h.z), Nat.le_trans h.z hb.size, fun j q hq => ?_, fun j q hq k hk => ?_, fun j l q r hjl hq hr k hk hk2 => ?_⟩
  · cases j with
    | zero => cases hq; exact hp
    | succ j => exact q.loc (far j q hq) (h.hP j q hq)
  · cases j with
    | zero => cases hq; exact ⟨Nat.le_trans h.z (hf k hk).1, (hf k hk).2⟩
    | succ j => exact ⟨(h.hF j q hq k hk).1, Nat.lt_of_lt_of_le (h.hF j q hq k hk).2 hb.size⟩
  · cases j with
    | zero =>
      cases hq
      cases l with
      | zero => exact hjl rfl
      | succ l => have := (h.hF l r hr k hk2).2; have := (hf k hk).1; omega
    | succ j =>
      cases l with
      | zero => cases hr; have := (h.hF j q hq k hk).2; have := (hf k hk2).1; omega
      | succ l => exact h.ap j l q r (fun e => hjl (by rw [e])) hq hr k hk hk2
theorem Parts.below (h : Parts b w0 w ps) (hb : Below w.heap.size w w1) : Parts b w0 w1 ps :=
  ⟨h.B.trans (hb.mono h.z), Nat.le_trans h.z hb.size, fun j q hq => q.loc (fun k hk => hb.block k (h.hF j q hq k hk).2) (h.hP j q hq), fun j q hq k hk => ⟨(h.hF j q hq k hk).1, Nat.lt_of_lt_of_le (h.hF j q hq k hk).2 hb.size⟩, h.ap⟩
theorem Parts.drew (h : Parts b w0 w ps) : Parts b w0 w.drew ps := h.below (below_drew (Below.refl _ _))
theorem Parts.alloc (h : Parts b w0 w ps) (o : Obj) : Parts b w0 (w.alloc o) ps := h.below (below_alloc (Below.refl _ _) o)
theorem Parts.tail {p : Pc} (h : Parts b w0 w (p :: ps)) : Parts b w0 w ps :=
  ⟨h.B, h.z, fun j q hq => h.hP (j + 1) q hq, fun j q hq => h.hF (j + 1) q hq, fun i j p q hij hp hq => h.ap (i + 1) (j + 1) p q (by omega) hp hq⟩
theorem Parts.erase (h : Parts b w0 w ps) (i : Nat) : Parts b w0 w (ps.eraseIdx i) := by
  have key : ∀ (j : Nat) (q : Pc), (ps.eraseIdx i)[j]? = some q → ps[if j < i then j else j + 1]? = some q := fun j q hq => by
    rw [List.getElem?_eraseIdx] at hq
    split
    · rename_i hj; rwa [if_pos hj] at hq
    · rename_i hj; rwa [if_neg hj] at hq
  refine ⟨h.B, h.z, fun j q hq => h.hP _ q (key j q hq), fun j q hq => h.hF _ q (key j q hq), fun j l q r hjl hq hr => h.ap _ _ q r ?_ (key j q hq) (key l r hr)⟩
  split <;> split <;> omega
/-- The pieces in another order, or some of them. -/
theorem Parts.pick (h : Parts b w0 w ps) {qs : List Pc} (f : List Nat) (hf : f.Nodup) (hl : qs.length = f.length) (hq : ∀ j, j < f.length → qs[j]? = ps[f.getD j 0]?) : Parts b w0 w qs := by
  have key : ∀ (j : Nat) (q : Pc), qs[j]? = some q → j < f.length ∧ ps[f.getD j 0]? = some q := fun j q hq' => by
    have hj : j < f.length := by rw [← hl]; exact (List.getElem?_eq_some_iff.1 hq').1
    exact ⟨hj, (hq j hj).symm.trans hq'⟩
  refine ⟨h.B, h.z, fun j q hq => h.hP _ q (key j q hq).2, fun j q hq => h.hF _ q (key j q hq).2, fun j l q r hjl hq hr => h.ap _ _ q r (fun e => hjl ?_) (key j q hq).2 (key l r hr).2⟩
  have h1 := (key j q hq).1
  have h2 := (key l r hr).1
  rw [List.getD_eq_getElem?_getD, List.getD_eq_getElem?_getD, List.getElem?_eq_getElem h1, List.getElem?_eq_getElem h2] at e
  exact (List.getElem_inj hf).1 (by simpa using e)
theorem pick_len (ps : List Pc) : ∀ f : List Nat, (∀ i ∈ f, i < ps.length) → (f.filterMap (fun i => ps[i]?)).length = f.length
  | [], _ => rfl
  | i :: f, h => by
    have h1 := pick_len ps f (fun j hj => h j (List.mem_cons_of_mem _ hj))
    rw [List.filterMap_cons, List.getElem?_eq_getElem (h i List.mem_cons_self)]
    simp [h1]
theorem pick_get (ps : List Pc) : ∀ (f : List Nat), (∀ i ∈ f, i < ps.length) → ∀ j, j < f.length → (f.filterMap (fun i => ps[i]?))[j]? = ps[f.getD j 0]?
  | [], _, j, hj => by simp at hj
  | i :: f, h, j, hj => by
    rw [List.filterMap_cons, List.getElem?_eq_getElem (h i List.mem_cons_self)]
    cases j with
    | zero => simp [List.getElem?_eq_getElem (h i List.mem_cons_self)]
    | succ j => simpa using pick_get ps f (fun k hk => h k (List.mem_cons_of_mem _ hk)) j (by simpa using hj)
theorem Parts.take (h : Parts b w0 w ps) (f : List Nat) (n : Nat) (hn : n ≤ ps.length) (hf : f.Nodup) (hl : ∀ i ∈ f, i < n) : Parts b w0 w (f.filterMap (fun i => ps[i]?)) :=
  h.pick f hf (pick_len ps f (fun i hi => Nat.lt_of_lt_of_le (hl i hi) hn)) (pick_get ps f (fun i hi => Nat.lt_of_lt_of_le (hl i hi) hn))
/-- A piece says more, or less, of its blocks. -/
theorem Parts.turn (h : Parts b w0 w ps) (i : Nat) {p p' : Pc} (hi : ps[i]? = some p) (hp : p'.P w) (hf : ∀ k, p'.F k → p.F k) : Parts b w0 w (ps.set i p') :=
  h.upd i hi (row := none) ⟨rfl, rfl, rfl, Nat.le_refl _, fun _ _ _ => rfl⟩ (fun _ hk => by cases hk) hp (fun k hk => ⟨.inl (hf k hk), (h.hF i p hi k (hf k hk)).2⟩)
theorem Parts.new (h : Parts b w0 w ps) (t : TypeId) (cs : Array Value) : Parts b w0 (w.alloc (.cells cs t)) (pB w.heap.size t cs :: ps) :=
  h.push (below_alloc (Below.refl _ _) _) (blk_new _ _) (fun k hk => by rw [show k = w.heap.size from hk]; exact ⟨Nat.le_refl _, by simp⟩)
theorem Parts.blk (h : Parts b w0 w ps) (i : Nat) {g : Nat} {t : TypeId} {cs : Array Value} (hi : ps[i]? = some (pB g t cs)) : w.heap[g]? = some (.cells cs t (0, 0)) := h.hP i _ hi
theorem Parts.ge (h : Parts b w0 w ps) (i : Nat) {g : Nat} {t : TypeId} {cs : Array Value} (hi : ps[i]? = some (pB g t cs)) : b ≤ g := (h.hF i _ hi g rfl).1
theorem Parts.cell (h : Parts b w0 w ps) (i : Nat) {g : Nat} {t : TypeId} {cs : Array Value} (hi : ps[i]? = some (pB g t cs)) (j : Nat) {v : Value} (hv : cs[j]? = some v) : w.cell? ⟨g, j, none⟩ = some v ∧ w.frozen? ⟨g, j, none⟩ = false :=
  ⟨(blk_cell (h.blk i hi) j).trans hv, blk_frozen (h.blk i hi) j⟩
theorem grown_set (w : World) (g j : Nat) (u : Value) : w.grownBy (w.setCell ⟨g, j, none⟩ u) (some g) :=
  ⟨rfl, rfl, rfl, by simp [World.setCell], fun k _ hne => Below.heap_setCell w ⟨g, j, none⟩ u k (fun e => hne (by rw [e]))⟩
theorem Parts.put (h : Parts b w0 w ps) (i : Nat) {g : Nat} {t : TypeId} {cs : Array Value} (hi : ps[i]? = some (pB g t cs)) (j : Nat) (u : Value) {cs' : Array Value} (hc : cs.setIfInBounds j u = cs') : Parts b w0 (w.setCell ⟨g, j, none⟩ u) (ps.set i (pB g t cs')) :=
  hc ▸ h.upd i hi (grown_set w g j u) (fun k hk => (Option.some.inj hk).symm) (blk_set (h.blk i hi) j u) (fun k hk => ⟨.inl hk, by have := (h.hF i _ hi g rfl).2; rw [show k = g from hk]; simpa [World.setCell] using this⟩)
section
variable {α : Type} {d : Kd α} {e : Nat} {v v1 : Value} {xs ys : List α} {ok ok1 : Nat → Prop}
theorem Parts.own (h : Parts b w0 w ps) (i : Nat) (hi : ps[i]? = some (pR b d e ok v xs)) : d.R e w b ok v xs := h.hP i _ hi
theorem Parts.ownF (h : Parts b w0 w ps) (i : Nat) (hi : ps[i]? = some (pF b d e v xs)) : d.R e w b (fun _ => True) v xs := Kd.R_mono (h.hP i _ hi) (fun _ _ => trivial)
theorem Parts.row (h : Parts b w0 w ps) (i : Nat) {A : Option Addr} {n c : Nat} (hi : ps[i]? = some (pR b d e ok (.slice A n c) xs)) : RS d w A c xs := RS.of_R' (h.own i hi)
theorem Parts.rowF (h : Parts b w0 w ps) (i : Nat) {A : Option Addr} {n c : Nat} (hi : ps[i]? = some (pF b d e (.slice A n c) xs)) : RS d w A c xs := RS.of_R' (h.hP i _ hi)
theorem Parts.nil (h : Parts b w0 w ps) (d : Kd α) (e : Nat) : Parts b w0 w (pF b d e (.slice none 0 0) [] :: ps) :=
  h.push (Below.refl _ _) (Kd.R_nil _ _ _ _ _) (fun k hk => by have hk' : (Value.slice none 0 0).ownBlock = some k := hk; simp [Value.ownBlock] at hk')
/-- What was appended to, or written into. -/
theorem Parts.app (h : Parts b w0 w ps) (i : Nat) (hi : ps[i]? = some (pF b d e v xs)) (fl : Flat d) (ho : d.R e w1 b ok v1 ys) (hg : w.grownBy w1 v.ownBlock) (hat : v1.ownBlock = v.ownBlock ∨ ∃ k, v1.ownBlock = some k ∧ w.heap.size ≤ k) : Parts b w0 w1 (ps.set i (pF b d e v1 ys)) :=
  h.upd i hi hg (fun k hk => hk) (flat_own fl ho) (fun k hk => by
    refine ⟨?_, Kd.R_lt ho k hk⟩
    rcases hat with h1 | ⟨k', h1, h2⟩
    · exact .inl (h1.symm.trans hk)
    · exact .inr (by have := h1.symm.trans hk; cases this; exact h2))
theorem Parts.fresh (h : Parts b w0 w ps) (hb : Below w.heap.size w w1) (ho : d.R e w1 w.heap.size ok v xs) : Parts b w0 w1 (pR b d e (fun k => ok k ∧ w.heap.size ≤ k ∧ k < w1.heap.size) v xs :: ps) :=
  h.push hb (Kd.R_lower (Kd.R_mono (Kd.R_bound ho) (fun _ hk => ⟨hk.1, hk.2.1, hk.2.2.1⟩)) h.z) (fun k hk => hk.2)
theorem Parts.freshF (h : Parts b w0 w ps) (fl : Flat d) (hb : Below w.heap.size w w1) (ho : d.R e w1 w.heap.size ok v xs) : Parts b w0 w1 (pF b d e v xs :: ps) :=
  h.push hb (Kd.R_lower (flat_own fl ho) h.z) (fun k hk => ⟨Kd.R_base ho k hk, Kd.R_lt ho k hk⟩)
/-- A row is cut. -/
theorem Parts.cut (h : Parts b w0 w ps) (i : Nat) {A : Option Addr} {n c m : Nat} (hi : ps[i]? = some (pF b d e (.slice A n c) xs)) (fl : Flat d) (hm : m ≤ xs.length) : Parts b w0 w (ps.set i (pF b d e (.slice A m c) (xs.take m))) :=
  h.turn i hi (flat_own fl (Kd.R_take (h.ownF i hi) hm)) (fun k hk => by cases A <;> exact hk)
/-- The same behind a step that lies from the base on (make, a literal). -/
theorem Parts.freshG (h : Parts b w0 w ps) (fl : Flat d) (hg : w.grownBy w1 none) (ho : d.R e w1 b ok v xs) (hn : ∀ k, v.ownBlock = some k → w.heap.size ≤ k) : Parts b w0 w1 (pF b d e v xs :: ps) :=
  h.push ⟨hg.os, hg.tape, hg.output, hg.size, fun k hk => hg.block k hk (by simp)⟩ (flat_own fl ho) (fun k hk => ⟨hn k hk, Kd.R_lt ho k hk⟩)
end
/-- A number, a truth value is written into a row. -/
theorem Parts.putRow {α : Type} {enc : α → Value} {h1 : ∀ x, (enc x).oneCell' = true} {e g n cap : Nat} {xs : List α} (h : Parts b w0 w ps) (i : Nat) (hi : ps[i]? = some (pF b (Kd.scalar enc h1) e (.slice (some ⟨g, 0, none⟩) n cap) xs)) (j : Nat) (x : α) :
    Parts b w0 (w.setCell ⟨g, j, none⟩ (enc x)) (ps.set i (pF b (Kd.scalar enc h1) e (.slice (some ⟨g, 0, none⟩) n cap) (xs.set j x))) := by
  have h_ := Kd.R_putg (h.ownF i hi) (j : Int) x
  rw [Int.toNat_natCast] at h_
  exact h.app i hi (fun h => h) h_.1 h_.2 (.inl rfl)
theorem Parts.cellRow {α : Type} {enc : α → Value} {h1 : ∀ x, (enc x).oneCell' = true} {e g n cap : Nat} {xs : List α} (h : Parts b w0 w ps) (i : Nat) (hi : ps[i]? = some (pF b (Kd.scalar enc h1) e (.slice (some ⟨g, 0, none⟩) n cap) xs)) (z : α) (j : Nat) (hj : j < n) :
    w.cell? ⟨g, j, none⟩ = some (enc (xs.getD j z)) ∧ w.frozen? ⟨g, j, none⟩ = false := by
  have h_ := Kd.R_celln (n := n) z (h.ownF i hi) (j : Int) (by omega) (by omega)
  rw [Int.toNat_natCast] at h_
  simpa [rdOf] using h_
end
end Go.Proofs.Ytlhiapggccgggaa.PH

/- Maps of the call's own with numbers as elements, by functions; appends and map stores at the operation, piece by piece. -/
namespace Go.Proofs.Ytlhiapggccgggaa.PH
open Go.RowKit Go.Proofs.YtlhiapggccgggaaW.PrintWords Go.Proofs.YtlhiapggccgggaaW.PrintLast
set_option linter.unusedVariables false
set_option linter.unusedSimpArgs false

/-! ### Appends -/
section
variable {P : Program} {ops : Array Oper} {rest : List Oper} {o : Oper} {a : Act} {Q : Exit → Act → World → Prop} {Kc : Act → World → Prop}
variable {b : Nat} {w0 W : World} {ps : List Pc} {α : Type} {d : Kd α} {e : Nat} {v : Value} {xs : List α}
theorem Parts.appendL (h : Parts b w0 W ps) (i : Nat) (hi : ps[i]? = some (pF b d e v xs)) (fl : Flat d) (hgd : o.guard = none) (s x : Operand) (t : TypeId) (z : Value) (bytes : Nat)
    (ho : o.op = .call { callee := .builtin .append, args := #[s, x], argTypes := #[t, t] }) (ht : P.underlying t = some (.slice e)) (hinfo : (P.info? e).map (fun i => (i.zero, i.size, i.bytes)) = some (some z, d.sz, bytes)) (hz : z.cells.size = d.sz) (hs0 : 0 < d.sz) (hb0 : 0 < bytes)
    (p : α) (cs : List Value) (hs : a.eval s = v) (hx : a.eval x = .slice (some ⟨W.heap.size, 0, none⟩) 1 1) (hp : d.M W b (fun _ => False) p cs) (hl : (xs.length + 1) * bytes ≤ 140737488355328)
    (K : ∀ V cap w1, Parts b w0 w1 (ps.set i (pF b d e (.slice V (xs.length + 1) cap) (xs ++ [p]))) → wpList P ops Q rest (a.put o.dst (.slice V (xs.length + 1) cap)) w1) : wpList P ops Q (o :: rest) a (W.alloc (.cells cs.toArray e)) := by
  refine Kd.R_append d (w0 := w0) b hgd s x t e z bytes ho ht hinfo hz hs0 hb0 v xs p cs (fun _ => True) (fun _ => False) hs hx hp (fun _ h => h.elim) (fun _ _ => trivial) (h.ownF i hi) h.B h.z hl ?_
  intro v1 w1 ho1 hb hg hat
  have h1 := h.app i hi fl ho1 hg hat
  obtain ⟨V, cap, rfl⟩ := Kd.R_slice ho1
  rw [List.length_append, List.length_singleton] at h1 ⊢
  exact K V cap w1 h1
theorem Parts.appendS (h : Parts b w0 W ps) (i : Nat) (hi : ps[i]? = some (pF b d e v xs)) (fl : Flat d) (hw : Region.wanted o (yielded ops a.tmps) = true) (s x : Operand) (t : TypeId) (z : Value) (bytes : Nat)
    (ho : o.op = .call { callee := .builtin .append, args := #[s, x], argTypes := #[t, t] }) (ht : P.underlying t = some (.slice e)) (hinfo : (P.info? e).map (fun i => (i.zero, i.size, i.bytes)) = some (some z, d.sz, bytes)) (hz : z.cells.size = d.sz) (hs0 : 0 < d.sz) (hb0 : 0 < bytes)
    (p : α) (cs : List Value) (hs : a.eval s = v) (hx : a.eval x = .slice (some ⟨W.heap.size, 0, none⟩) 1 1) (hp : d.M W b (fun _ => False) p cs) (hl : (xs.length + 1) * bytes ≤ 140737488355328)
    (K : ∀ V cap w1, Parts b w0 w1 (ps.set i (pF b d e (.slice V (xs.length + 1) cap) (xs ++ [p]))) → Kc (a.put o.dst (.slice V (xs.length + 1) cap)) w1) :
    if Region.wanted o (yielded ops a.tmps) = true then Oper.wp P o a (W.alloc (.cells cs.toArray e)) Kc Q else Kc (a.put o.dst undef) (W.alloc (.cells cs.toArray e)) := by
  refine Kd.R_append_step d (w0 := w0) b hw s x t e z bytes ho ht hinfo hz hs0 hb0 v xs p cs (fun _ => True) (fun _ => False) hs hx hp (fun _ h => h.elim) (fun _ _ => trivial) (h.ownF i hi) h.B h.z hl ?_
  intro v1 w1 ho1 hb hg hat
  have h1 := h.app i hi fl ho1 hg hat
  obtain ⟨V, cap, rfl⟩ := Kd.R_slice ho1
  rw [List.length_append, List.length_singleton] at h1 ⊢
  exact K V cap w1 h1
/-- A whole row is appended. -/
theorem Parts.appendR {enc : α → Value} {h1 : ∀ x : α, (enc x).oneCell' = true} (dft : α) (h : Parts b w0 W ps) (i : Nat) (hi : ps[i]? = some (pF b (Kd.scalar enc h1) e v xs)) (hgd : o.guard = none) (s x : Operand) (t : TypeId) (z : Value) (bytes : Nat)
    (ho : o.op = .call { callee := .builtin .append, args := #[s, x], argTypes := #[t, t] }) (ht : P.underlying t = some (.slice e)) (hinfo : (P.info? e).map (fun i => (i.zero, i.size, i.bytes)) = some (some z, 1, bytes)) (hz : z.cells.size = 1) (hb0 : 0 < bytes)
    (ys : List α) (A : Option Addr) (c : Nat) (hs : a.eval s = v) (hx : a.eval x = .slice A ys.length c) (hR : RS (Kd.scalar enc h1) W A c ys) (hl : (xs.length + ys.length) * bytes ≤ 140737488355328)
    (K : ∀ V cap w1, Parts b w0 w1 (ps.set i (pF b (Kd.scalar enc h1) e (.slice V (xs.length + ys.length) cap) (xs ++ ys))) → wpList P ops Q rest (a.put o.dst (.slice V (xs.length + ys.length) cap)) w1) : wpList P ops Q (o :: rest) a W := by
  refine Kd.R_append_row enc dft (h1 := h1) (w0 := w0) b hgd s x t e z bytes ho ht hinfo hz hb0 v xs ys A ys.length c (fun _ => True) hs hx (fun _ _ => trivial) (h.ownF i hi) hR.r h.B h.z hl ?_
  intro v1 w1 ho1 hb hg hat
  have h2 := h.app i hi (fun h => h) ho1 hg hat
  obtain ⟨V, cap, rfl⟩ := Kd.R_slice ho1
  rw [List.length_append] at h2 ⊢
  exact K V cap w1 h2
theorem Parts.makeL (h : Parts b w0 W ps) (d : Kd α) (e : Nat) (fl : Flat d) (hgd : o.guard = none) {N : Tmp} (hd : o.dst = some N) (t : TypeId) (x y : Operand) (ho : o.op = .makeSlice t x y) (n : Nat) (hx : a.eval x = .int .i64 (n : Int)) (hy : a.eval y = .int .i64 (n : Int))
    (ht : P.underlying t = some (.slice e)) (z : Value) (bytes : Nat) (hinfo : (P.info? e).map (fun i => (i.zero, i.size, i.bytes)) = some (some z, d.sz, bytes)) (hz : z.cells.size = d.sz) (hs0 : 0 < d.sz) (hb0 : 0 < bytes)
    (z0 : α) (hzero : d.M W b (fun _ => False) z0 z.cells.toList) (hl : n * bytes ≤ 281474976710656)
    (K : ∀ g cap w1, W.heap.size ≤ g → Parts b w0 w1 (pF b d e (.slice (some ⟨g, 0, none⟩) n cap) (List.replicate n z0) :: ps) → wpList P ops Q rest (a.put o.dst (.slice (some ⟨g, 0, none⟩) n cap)) w1) : wpList P ops Q (o :: rest) a W := by
  refine Kd.R_make d (w0 := w0) b e hgd hd t x y ho (n : Int) hx hy ht z bytes hinfo hz hs0 hb0 z0 (ok := fun _ => True) (okp := fun _ => False) hzero (fun _ h => h.elim) trivial (by omega) (by simpa using hl) h.B h.z ?_
  intro v1 w1 ho1 hb hg ⟨k, hk, hWk⟩
  rw [Int.toNat_natCast] at ho1
  have h1 := h.freshG fl hg ho1 (fun j hj => by rw [hk] at hj; cases hj; exact hWk)
  obtain ⟨_, inner, hown, _⟩ := ho1
  rw [List.length_replicate] at hown
  rcases hown.2 with ⟨rfl, _⟩ | ⟨g, cap, cur, rfl, _⟩
  · simp [Value.ownBlock] at hk
  · exact K g cap w1 (by simp [Value.ownBlock] at hk; omega) h1
end

/-! ### Maps -/
/-- A kind of keys: how a key is written, and what it reads as. -/
structure Ky (P : Program) (K : TypeId) (κ : Type) where
  enc : κ → Value
  lit : κ → Lit
  ok : κ → Prop
  hk : ∀ k, ok k → keyOf P K (enc k) = some (lit k)
  inj : ∀ a b, ok a → ok b → lit a = lit b → a = b
  isKey : ∀ k, ok k → WideAt.IsKeyLit (lit k)
  law : Maps.Keyed P K
def MapI {P : Program} {K : TypeId} {κ : Type} (y : Ky P K κ) (E : TypeId) (w : World) (B n : Nat) (f : κ → Option Int) : Prop :=
  ∃ D : DataW Unit, w.ownsMap P K (plainElem P E) B n D ∧ ∀ k, y.ok k → Maps.has D (y.lit k) = (f k).isSome ∧ D.atKey (y.lit k) (.lit (.int .i64 0)) = .lit (.int .i64 ((f k).getD 0))
theorem ownsMap_move {H : Type} {P : Program} {K : TypeId} {R : Value → Option (DataW H × List MemPlace)} {w w1 : World} {B n : Nat} {D : DataW H} (h : w.ownsMap P K R B n D) (hm : w1.heap[B]? = w.heap[B]?) : w1.ownsMap P K R B n D := by
  obtain ⟨es, clock, hb, F, hs, hD⟩ := h
  exact ⟨es, clock, hm.trans hb, F, hs, hD⟩
def pM {P : Program} {K : TypeId} {κ : Type} (y : Ky P K κ) (E : TypeId) (B n : Nat) (f : κ → Option Int) : Pc := ⟨fun k => k = B, fun w => MapI y E w B n f, fun hm h => by
  obtain ⟨D, h1, h2⟩ := h
  exact ⟨D, ownsMap_move h1 (hm B rfl), h2⟩⟩
section
variable {P : Program} {K : TypeId} {κ : Type} {y : Ky P K κ} {E t : TypeId} {w : World} {B n : Nat} {f : κ → Option Int}
theorem MapI.made (w : World) : MapI y E (w.alloc (.map #[] 0)) w.heap.size 0 (fun _ => none) :=
  ⟨.map [], World.ownsMap_made w P K _, fun k hk => ⟨by simp [Maps.has_eq], Maps.atKey_of_not_has (by simp [Maps.has_eq]) _⟩⟩
theorem MapI.congr (h : MapI y E w B n f) {g : κ → Option Int} (hg : ∀ k, y.ok k → g k = f k) : MapI y E w B n g := by
  obtain ⟨D, h1, h2⟩ := h
  exact ⟨D, h1, fun k hk => by rw [hg k hk]; exact h2 k hk⟩
theorem zero_int (he : P.underlying E = some (.int .i64)) (hz : (zeroValue E).run P w = .ok (.int .i64 0) w) : (plainElem (H := Unit) P E (.int .i64 0)) = some (.lit (.int .i64 0), []) := plainElem_int he (by decide)
theorem MapI.look (h : MapI y E w B n f) (ht : P.underlying t = some (.map K E)) (he : P.underlying E = some (.int .i64)) (hz : (zeroValue E).run P w = .ok (.int .i64 0) w) {k : κ} (hk : y.ok k) :
    (Instr.lookup t (.map (some B)) (y.enc k) false).run P w = .ok (.int .i64 ((f k).getD 0)) w := by
  obtain ⟨D, h1, h2⟩ := h
  obtain ⟨c, hrun, hat, _⟩ := h1.lookup_int y.law ht he hz (y.hk k hk)
  have h3 := (h2 k hk).2
  rw [hat] at h3
  injection h3 with h3
  injection h3 with _ h3
  rw [← h3]; exact hrun
theorem MapI.look2 (h : MapI y E w B n f) (ht : P.underlying t = some (.map K E)) (he : P.underlying E = some (.int .i64)) (hz : (zeroValue E).run P w = .ok (.int .i64 0) w) {k : κ} (hk : y.ok k) :
    (Instr.lookup t (.map (some B)) (y.enc k) true).run P w = .ok (.tuple #[.int .i64 ((f k).getD 0), .bool (f k).isSome]) w := by
  obtain ⟨D, h1, h2⟩ := h
  obtain ⟨v, ps, hrun, hv⟩ := h1.look_ok y.law ht hz (plainElem_int (H := Unit) he (by decide)) (y.hk k hk)
  obtain ⟨c, rfl, hc, _⟩ := plainElem_int_inv he hv
  have h3 := (h2 k hk).2
  have h4 := congrArg Prod.fst hc
  dsimp only at h4
  rw [h4] at h3
  injection h3 with h3
  injection h3 with _ h3
  rw [← h3, ← (h2 k hk).1]; exact hrun
theorem MapI.store [DecidableEq κ] (h : MapI y E w B n f) (ht : P.underlying t = some (.map K E)) (he : P.underlying E = some (.int .i64)) (hn : n < maxLen) {k : κ} (hk : y.ok k) {x : Int} (hx : (Lit.int .i64 x).wf = true) :
    ∃ w', (Instr.mapUpdate t (.map (some B)) (y.enc k) (.int .i64 x)).run P w = .ok () w' ∧ MapI y E w' B (n + 1) (fun j => if j = k then some x else f j) ∧ w.grownBy w' (some B) := by
  obtain ⟨D, h1, h2⟩ := h
  obtain ⟨w', hrun, h3, h4⟩ := h1.update y.law ht hn (y.hk k hk) (plainElem_int (H := Unit) he hx)
  refine ⟨w', hrun, ⟨_, h3, fun j hj => ?_⟩, h4⟩
  by_cases hjk : j = k
  · subst hjk
    dsimp only
    rw [if_pos rfl]
    exact ⟨Maps.has_put_same h1.isMap (y.isKey j hj) _, Maps.atKey_put_same h1.isMap (y.isKey j hj) _ _⟩
  · dsimp only
    rw [if_neg hjk]
    have hne : y.lit j ≠ y.lit k := fun e => hjk (y.inj j k hj hk e)
    rw [Maps.has_put_other hne, Maps.atKey_put_other hne]
    exact h2 j hj
end
section
variable {P : Program} {ops : Array Oper} {rest : List Oper} {o : Oper} {a : Act} {Q : Exit → Act → World → Prop}
theorem updL_run {W w1 : World} (hgd : o.guard = none) (m x u : Operand) (t : TypeId) (hop : o.op = Op.mapUpdate t m x u) {mv kv xv : Value} (hm : a.eval m = mv) (hx : a.eval x = kv) (hu : a.eval u = xv) (hrun : (Instr.mapUpdate t mv kv xv).run P W = .ok () w1) (hK : wpList P ops Q rest (a.put o.dst undef) w1) : wpList P ops Q (o :: rest) a W := by
  refine wpList_plain hgd fun K' hK' => ?_
  unfold Oper.wp
  simp [execOp, hop, hm, hx, hu, hrun, Result.andThen]
  exact hK' _ _ hK
theorem insL_run {W w1 : World} (hgd : o.guard = none) (m x u : Operand) (t : TypeId) (hop : o.op = Op.insert t m x u) {mv kv xv : Value} (hm : a.eval m = mv) (hx : a.eval x = kv) (hu : a.eval u = xv) (hrun : (Instr.mapUpdate t mv kv xv).run P W = .ok () w1) (hK : wpList P ops Q rest (a.put o.dst undef) w1) : wpList P ops Q (o :: rest) a W := by
  refine wpList_plain hgd fun K' hK' => ?_
  unfold Oper.wp
  simp [execOp, hop, hm, hx, hu, hrun, Result.andThen]
  exact hK' _ _ hK
end
theorem Parts.made {P : Program} {K : TypeId} {κ : Type} (y : Ky P K κ) (E : TypeId) {b : Nat} {w0 w : World} {ps : List Pc} (h : Parts b w0 w ps) : Parts b w0 (w.alloc (.map #[] 0)) (pM y E w.heap.size 0 (fun _ => none) :: ps) :=
  h.push (below_alloc (Below.refl _ _) _) (MapI.made w) (fun k hk => by rw [show k = w.heap.size from hk]; exact ⟨Nat.le_refl _, by simp⟩)
theorem Parts.stored {P : Program} {K : TypeId} {κ : Type} {y : Ky P K κ} {E : TypeId} {b B n m : Nat} {w0 w w1 : World} {ps : List Pc} {f g : κ → Option Int} (h : Parts b w0 w ps) (i : Nat) (hi : ps[i]? = some (pM y E B n f)) (hm : MapI y E w1 B m g) (hg : w.grownBy w1 (some B)) : Parts b w0 w1 (ps.set i (pM y E B m g)) :=
  h.upd i hi hg (fun k hk => (Option.some.inj hk).symm) hm (fun k hk => ⟨.inl hk, by have := (h.hF i _ hi B rfl).2; have := hg.size; rw [show k = B from hk]; omega⟩)
/-- Keys that are numbers. -/
def kyInt (P : Program) (K : TypeId) (hK : P.underlying K = some (.int .i64)) : Ky P K Int where
  enc := fun k => .int .i64 k
  lit := fun k => .int .i64 k
  ok := I64
  hk := fun k hk => Maps.keyOf_int_mk hK (WalkArith.wf_i64 hk)
  inj := fun a b _ _ h => by injection h
  isKey := fun k _ => by trivial
  law := Maps.int_keyed hK
end Go.Proofs.Ytlhiapggccgggaa.PH

/- Rows that are laid and appended in regions that draw their order, piece by piece. -/
namespace Go.Proofs.Ytlhiapggccgggaa.PH
open Go.RowKit Go.Proofs.YtlhiapggccgggaaW.PrintWords Go.Proofs.YtlhiapggccgggaaW.PrintLast
set_option linter.unusedVariables false
set_option linter.unusedSimpArgs false

/-- What is read of an element is all that is told of it. -/
def FlatK {α : Type} (d : Kd α) : Prop := ∀ {w w' : World} {base : Nat} {ok : Nat → Prop} {x : α} {cs : List Value}, d.K w x cs → d.M w' base ok x cs
theorem flatK_int {k : IntKind} : FlatK (Kd.int k) := fun h => h
theorem flatK_bool : FlatK Kd.bool := fun h => h
theorem flatK_latch : FlatK kLatch := fun h => by obtain rfl := kLatch_open h; exact kLatch_mkM _ _ _ _
theorem flatK_gate : FlatK kGate := fun h => by obtain rfl := kGate_open h; exact kGate_mkM _ _ _ _
section
variable {P : Program} {ops : Array Oper} {rest : List Oper} {o : Oper} {a : Act} {Q : Exit → Act → World → Prop} {Kc : Act → World → Prop}
variable {b : Nat} {w0 W : World} {ps : List Pc} {α : Type} {d : Kd α} {e : Nat} {v : Value} {xs : List α}
/-- A literal row, in a region. -/
theorem Parts.litS (h : Parts b w0 W ps) (d : Kd α) (e : Nat) (fl : Flat d) (hw : Region.wanted o (yielded ops a.tmps) = true) {N : Tmp} (hd : o.dst = some N) (xs : List α) (inner : List Value)
    (hrun : (execOp a.eval o).run P W = .ok (.value (.slice (some ⟨W.heap.size, 0, none⟩) xs.length xs.length)) (W.alloc (.cells inner.toArray e))) (hrep : Reps (d.M W b (fun _ => False)) d.sz xs inner) (hm : xs.length ≤ 9223372036854775807)
    (K : ∀ V cap w1, Parts b w0 w1 (pF b d e (.slice V xs.length cap) xs :: ps) → Kc (a.put o.dst (.slice V xs.length cap)) w1) : if Region.wanted o (yielded ops a.tmps) = true then Oper.wp P o a W Kc Q else Kc (a.put o.dst undef) W := by
  refine Kd.R_lit_step d (w0 := w0) b e hw hd (xs := xs) (inner := inner) (ok := fun _ => True) (okp := fun _ => False) hrun hrep (fun _ h => h.elim) trivial h.B h.z hm ?_
  intro v1 w1 ho hb hg ⟨k, hk, hWk⟩
  have h1 := h.freshG fl hg ho (fun j hj => by rw [hk] at hj; cases hj; exact hWk)
  obtain ⟨V, cap, rfl⟩ := Kd.R_slice ho
  exact K V cap w1 h1
/-- A literal row, in a plain list. -/
theorem Parts.litL (h : Parts b w0 W ps) (d : Kd α) (e : Nat) (fl : Flat d) (hgd : o.guard = none) {N : Tmp} (hd : o.dst = some N) (xs : List α) (inner : List Value)
    (hrun : (execOp a.eval o).run P W = .ok (.value (.slice (some ⟨W.heap.size, 0, none⟩) xs.length xs.length)) (W.alloc (.cells inner.toArray e))) (hrep : Reps (d.M W b (fun _ => False)) d.sz xs inner) (hm : xs.length ≤ 9223372036854775807)
    (K : ∀ V cap w1, Parts b w0 w1 (pF b d e (.slice V xs.length cap) xs :: ps) → wpList P ops Q rest (a.put o.dst (.slice V xs.length cap)) w1) : wpList P ops Q (o :: rest) a W := by
  refine Kd.R_lit d (w0 := w0) b e hgd hd (xs := xs) (inner := inner) (ok := fun _ => True) (okp := fun _ => False) hrun hrep (fun _ h => h.elim) trivial h.B h.z hm ?_
  intro v1 w1 ho hb hg ⟨k, hk, hWk⟩
  have h1 := h.freshG fl hg ho (fun j hj => by rw [hk] at hj; cases hj; exact hWk)
  obtain ⟨V, cap, rfl⟩ := Kd.R_slice ho
  exact K V cap w1 h1
/-- A whole row is appended, in a region. -/
theorem Parts.appendRS (h : Parts b w0 W ps) (i : Nat) (hi : ps[i]? = some (pF b d e v xs)) (fl : Flat d) (fk : FlatK d) (hw : Region.wanted o (yielded ops a.tmps) = true) (s x : Operand) (t : TypeId) (z : Value) (bytes : Nat)
    (ho : o.op = .call { callee := .builtin .append, args := #[s, x], argTypes := #[t, t] }) (ht : P.underlying t = some (.slice e)) (hinfo : (P.info? e).map (fun i => (i.zero, i.size, i.bytes)) = some (some z, d.sz, bytes)) (hz : z.cells.size = d.sz) (hs0 : 0 < d.sz) (hb0 : 0 < bytes)
    (ys : List α) (A : Option Addr) (c : Nat) (hs : a.eval s = v) (hx : a.eval x = .slice A ys.length c) (hR : RS d W A c ys) (hl : (xs.length + ys.length) * bytes ≤ 140737488355328)
    (K : ∀ V cap w1, Parts b w0 w1 (ps.set i (pF b d e (.slice V (xs.length + ys.length) cap) (xs ++ ys))) → Kc (a.put o.dst (.slice V (xs.length + ys.length) cap)) w1) :
    if Region.wanted o (yielded ops a.tmps) = true then Oper.wp P o a W Kc Q else Kc (a.put o.dst undef) W := by
  refine Kd.R_append_rows_step d (Rr := d.K W) (w0 := w0) b hw s x t e z bytes ho ht hinfo hz hs0 hb0 v xs ys A ys.length c (fun _ => True) (fun _ => False) hs hx (h.ownF i hi) hR.r (fun x cs hx => fk hx) (fun _ h => h.elim) (fun _ _ => trivial) h.B h.z hl ?_
  intro v1 w1 ho1 hb hg hat
  have h2 := h.app i hi fl ho1 hg hat
  obtain ⟨V, cap, rfl⟩ := Kd.R_slice ho1
  rw [List.length_append] at h2 ⊢
  exact K V cap w1 h2
/-- A whole row is appended, of whatever flat kind. -/
theorem Parts.appendRL (h : Parts b w0 W ps) (i : Nat) (hi : ps[i]? = some (pF b d e v xs)) (fl : Flat d) (fk : FlatK d) (hgd : o.guard = none) (s x : Operand) (t : TypeId) (z : Value) (bytes : Nat)
    (ho : o.op = .call { callee := .builtin .append, args := #[s, x], argTypes := #[t, t] }) (ht : P.underlying t = some (.slice e)) (hinfo : (P.info? e).map (fun i => (i.zero, i.size, i.bytes)) = some (some z, d.sz, bytes)) (hz : z.cells.size = d.sz) (hs0 : 0 < d.sz) (hb0 : 0 < bytes)
    (ys : List α) (A : Option Addr) (c : Nat) (hs : a.eval s = v) (hx : a.eval x = .slice A ys.length c) (hR : RS d W A c ys) (hl : (xs.length + ys.length) * bytes ≤ 140737488355328)
    (K : ∀ V cap w1, Parts b w0 w1 (ps.set i (pF b d e (.slice V (xs.length + ys.length) cap) (xs ++ ys))) → wpList P ops Q rest (a.put o.dst (.slice V (xs.length + ys.length) cap)) w1) : wpList P ops Q (o :: rest) a W := by
  refine Kd.R_append_rows d (Rr := d.K W) (w0 := w0) b hgd s x t e z bytes ho ht hinfo hz hs0 hb0 v xs ys A ys.length c (fun _ => True) (fun _ => False) hs hx (h.ownF i hi) hR.r (fun x cs hx => fk hx) (fun _ h => h.elim) (fun _ _ => trivial) h.B h.z hl ?_
  intro v1 w1 ho1 hb hg hat
  have h2 := h.app i hi fl ho1 hg hat
  obtain ⟨V, cap, rfl⟩ := Kd.R_slice ho1
  rw [List.length_append] at h2 ⊢
  exact K V cap w1 h2
end
end Go.Proofs.Ytlhiapggccgggaa.PH

/- Rows of rows of a call's own: the heads in one row, each row in a block of its own. -/
namespace Go.Proofs.Ytlhiapggccgggaa.PH
open Go.RowKit Go.Proofs.YtlhiapggccgggaaW.PrintWords Go.Proofs.YtlhiapggccgggaaW.PrintLast
set_option linter.unusedVariables false
set_option linter.unusedSimpArgs false

/-- The head of a row: address, length, capacity. -/
abbrev HeadR := Option Addr × Nat × Nat
@[reducible] def HeadR.v (x : HeadR) : Value := .slice x.1 x.2.1 x.2.2
def kHead : Kd HeadR := Kd.scalar HeadR.v (fun _ => rfl)
theorem flat_head : Flat kHead := fun h => h
section
variable {b : Nat} {w0 w w1 : World} {ps : List Pc}
/-- Two pieces become one. -/
theorem Parts.join (h : Parts b w0 w ps) (i j : Nat) (hij : i ≠ j) {p q : Pc} (r : Pc) (hi : ps[i]? = some p) (hj : ps[j]? = some q) (hr : p.P w → q.P w → r.P w) (hf : ∀ k, r.F k → p.F k ∨ q.F k) : Parts b w0 w ((ps.set j r).eraseIdx i) := by
  have hjl : j < ps.length := (List.getElem?_eq_some_iff.1 hj).1
  have key : ∀ (m : Nat) (s : Pc), ((ps.set j r).eraseIdx i)[m]? = some s → (if m < i then m else m + 1) ≠ i ∧ (((if m < i then m else m + 1) = j ∧ s = r) ∨ ((if m < i then m else m + 1) ≠ j ∧ ps[if m < i then m else m + 1]? = some s)) := fun m s hs => by
    rw [List.getElem?_eraseIdx] at hs
    have e1 : (ps.set j r)[if m < i then m else m + 1]? = some s := by
      split at hs
      · rename_i hm; rwa [if_pos hm]
      · rename_i hm; rwa [if_neg hm]
    refine ⟨by split <;> omega, ?_⟩
    rw [List.getElem?_set] at e1
    by_cases hm : j = (if m < i then m else m + 1)
    · rw [if_pos hm, if_pos hjl] at e1
      exact .inl ⟨hm.symm, (Option.some.inj e1).symm⟩
    · rw [if_neg hm] at e1
      exact .inr ⟨Ne.symm hm, e1⟩
  have inj : ∀ m n : Nat, m ≠ n → (if m < i then m else m + 1) ≠ (if n < i then n else n + 1) := fun m n hmn => by split <;> split <;> omega
  refine ⟨h.B, h.z, fun m s hs => ?_, fun m s hs k hk => ?_, fun m n s t hmn hs ht k hk hk2 => ?_⟩
  · rcases (key m s hs).2 with ⟨_, rfl⟩ | ⟨_, h2⟩
    · exact hr (h.hP i p hi) (h.hP j q hj)
    · exact h.hP _ s h2
  · rcases (key m s hs).2 with ⟨_, rfl⟩ | ⟨_, h2⟩
    · rcases hf k hk with h3 | h3
      · exact h.hF i p hi k h3
      · exact h.hF j q hj k h3
    · exact h.hF _ s h2 k hk
  · have hne := inj m n hmn
    obtain ⟨hmi, hm⟩ := key m s hs
    obtain ⟨hni, hn⟩ := key n t ht
    rcases hm with ⟨e1, rfl⟩ | ⟨e1, h2⟩ <;> rcases hn with ⟨e2, rfl⟩ | ⟨e2, h3⟩
    · exact hne (e1.trans e2.symm)
    · rcases hf k hk with h4 | h4
      · exact h.ap i _ p t (fun e => hni e.symm) hi h3 k h4 hk2
      · exact h.ap j _ q t (fun e => e2 e.symm) hj h3 k h4 hk2
    · rcases hf k hk2 with h4 | h4
      · exact h.ap _ i s p hmi h2 hi k hk h4
      · exact h.ap _ j s q e1 h2 hj k hk h4
    · exact h.ap _ _ s t hne h2 h3 k hk hk2
/-- The rows that heads tell of. -/
def InRows {α : Type} (d : Kd α) (e b : Nat) (W : World) (hs : List HeadR) (rows : List (List α)) : Prop :=
  hs.length = rows.length ∧ ∀ (j : Nat) (x : HeadR) (y : List α), hs[j]? = some x → rows[j]? = some y → x.2.1 = y.length ∧ d.R e W b (fun k => x.v.ownBlock = some k) x.v y
def pIn {α : Type} (d : Kd α) (e b : Nat) (hs : List HeadR) (rows : List (List α)) : Pc :=
  ⟨fun k => ∃ x ∈ hs, x.v.ownBlock = some k, fun W => InRows d e b W hs rows,
   fun hm h => ⟨h.1, fun j x y hx hy => ⟨(h.2 j x y hx hy).1, Kd.R_move (h.2 j x y hx hy).2 (fun k hk => hm k ⟨x, List.mem_of_getElem? hx, hk⟩)⟩⟩⟩
variable {α : Type} {d : Kd α} {e T : Nat} {hs : List HeadR} {rows : List (List α)}
theorem Parts.inNil (h : Parts b w0 w ps) (d : Kd α) (e : Nat) : Parts b w0 w (pIn d e b [] [] :: ps) :=
  h.push (Below.refl _ _) ⟨rfl, fun j x y hx => by simp at hx⟩ (fun k hk => by obtain ⟨x, hx, _⟩ := hk; simp at hx)
theorem Parts.inAdd (h : Parts b w0 w ps) (i j : Nat) (hij : i ≠ j) {A : Option Addr} {c : Nat} {y : List α} (hi : ps[i]? = some (pF b d e (.slice A y.length c) y)) (hj : ps[j]? = some (pIn d e b hs rows)) :
    Parts b w0 w ((ps.set j (pIn d e b (hs ++ [(A, y.length, c)]) (rows ++ [y]))).eraseIdx i) := by
  refine h.join i j hij (pIn d e b (hs ++ [(A, y.length, c)]) (rows ++ [y])) hi hj (fun hp hq => ?_) (fun k hk => ?_)
  · refine ⟨by simp [hq.1], fun m x z hx hz => ?_⟩
    by_cases hm : m < hs.length
    · rw [List.getElem?_append_left hm] at hx
      rw [List.getElem?_append_left (by rw [← hq.1]; exact hm)] at hz
      exact hq.2 m x z hx hz
    · rw [List.getElem?_append_right (by omega)] at hx
      rw [List.getElem?_append_right (by rw [← hq.1]; omega), ← hq.1] at hz
      have hm0 : m - hs.length = 0 := by
        have := (List.getElem?_eq_some_iff.1 hx).1
        simp at this; omega
      rw [hm0] at hx hz
      have ex : (A, y.length, c) = x := by simpa using hx
      have ez : y = z := by simpa using hz
      subst ex ez
      exact ⟨rfl, hp⟩
  · obtain ⟨x, hx, hk⟩ := hk
    rcases List.mem_append.1 hx with hx | hx
    · exact .inr ⟨x, hx, hk⟩
    · have ex : x = (A, y.length, c) := by simpa using hx
      subst ex
      exact .inl hk
/-- Heads that are read, and their rows, are a row of rows. -/
theorem InRows.to {A : Option Addr} {c : Nat} (h : RS kHead w A c hs) (g : InRows d e b w hs rows) : RS (Kd.slice e d) w A c rows := by
  have hm := h.max
  refine ⟨⟨rfl, by rw [← g.1]; exact hm, fun h0 => ?_⟩, by rw [← g.1]; exact h.h⟩
  obtain ⟨ad, e1, hc⟩ := h.r.2.2 (by rw [g.1]; exact h0)
  refine ⟨ad, e1, fun j p hj => ?_⟩
  have hjl : j < hs.length := by rw [g.1]; exact (List.getElem?_eq_some_iff.1 hj).1
  obtain ⟨cs, h1, h2, h3⟩ := hc j hs[j] (List.getElem?_eq_getElem hjl)
  have hg := g.2 j hs[j] p (List.getElem?_eq_getElem hjl) hj
  refine ⟨cs, h1, ?_, h3⟩
  have e2 : cs = [hs[j].v] := h2
  have hr := RS.of_R' hg.2
  rw [e2]
  refine ⟨_, _, by rw [← hg.1], hr.h, hr.r⟩
theorem InRows.take (g : InRows d e b w hs rows) (m : Nat) : InRows d e b w (hs.take m) (rows.take m) :=
  ⟨by simp [g.1], fun j x y hx hy => by
    rw [List.getElem?_take] at hx hy
    split at hx
    · rename_i hj
      rw [if_pos hj] at hy
      exact g.2 j x y hx hy
    · cases hx⟩
theorem Parts.inRows (h : Parts b w0 w ps) (i j : Nat) {A : Option Addr} {n c : Nat} (hi : ps[i]? = some (pF b kHead T (.slice A n c) hs)) (hj : ps[j]? = some (pIn d e b hs rows)) : RS (Kd.slice e d) w A c rows :=
  InRows.to (h.rowF i hi) (h.hP j _ hj)
theorem Parts.inRowsTake (h : Parts b w0 w ps) (i j m : Nat) {A : Option Addr} {n c : Nat} (hi : ps[i]? = some (pF b kHead T (.slice A n c) (hs.take m))) (hj : ps[j]? = some (pIn d e b hs rows)) : RS (Kd.slice e d) w A c (rows.take m) :=
  InRows.to (h.rowF i hi) (InRows.take (h.hP j _ hj) m)
theorem Parts.inLen (h : Parts b w0 w ps) (j : Nat) (hj : ps[j]? = some (pIn d e b hs rows)) : hs.length = rows.length := (show InRows d e b w hs rows from h.hP j _ hj).1
end
end Go.Proofs.Ytlhiapggccgggaa.PH
