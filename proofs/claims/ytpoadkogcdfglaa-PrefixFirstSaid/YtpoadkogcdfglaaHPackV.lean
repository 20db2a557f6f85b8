/- Several texts in one: Args, Vals, Values0, Values, TraceP, List, Props. -/
import Derived.Test.YtpoadkogcdfglaaHOpen
import Derived.Test.YtpoadkogcdfglaaHFive
import Derived.Test.YtpoadkogcdfglaaHRef02
import Derived.Deep.RegionHeld3
import Derived.Deep.QuietTactic
import Derived.BigQuiet
import Derived.Laws.EntriesVeiled
/- More arguments of rows: predicates, rows of numbers and of truth values. -/
namespace Go.Proofs.Ytpoadkogcdfglaa.PH
open Go.RowKit Go.Proofs.YtpoadkogcdfglaaW.PrintWords Go.WideShapes
set_option linter.unusedVariables false
set_option linter.unusedSimpArgs false

section
variable {H : Type} {enc : TypeId × Value → H} {W : World}
structure Pr.Nums (p : Pr) : Prop where
  ig : ∀ x ∈ p.f0, I64 x.f0 ∧ I64 x.f1
  il : I64 p.f1
set_option maxRecDepth 100000 in
theorem arg_pr {v : Value} {d : DataW H} {ps : List MemPlace} {r : Reach} {base : Nat} (hv : Value.okWide Try.prog W r base 31 v) (h : DataW.Trod enc Try.prog W 0 (fun _ => true) true 31 v d ps) : ∃ (A : Option Addr × Nat) (p : Pr), v = pv A.1 A.2 p ∧ RS kGate W A.1 A.2 p.f0 ∧ p.Nums := by
  obtain ⟨cs, rfl, _⟩ := okWide_struct Try.underlying31 hv
  obtain ⟨fuel, hf⟩ := h
  obtain ⟨a, hk, hw⟩ := opn_pr _ _ _ hf
  obtain ⟨A1, k1, e, l1, g1⟩ := kPr_open hk
  refine ⟨(A1, k1), a, ?_, ⟨g1, l1⟩, ⟨hw.1, hw.2⟩⟩
  have e' : cs.toList = _ := e
  rw [← Array.toArray_toList (xs := cs), e']
theorem I64.of_wf {k : Int} (h : (Lit.int .i64 k).wf = true) : I64 k := by
  simp only [Lit.wf, Bool.and_eq_true, decide_eq_true_eq] at h
  exact h
set_option maxRecDepth 100000 in
theorem arg_slice {α : Type} {dk : Kd α} {t E : Nat} {wf : α → Prop} (ht : Try.prog.underlying t = some (.slice E)) (ho : Opn enc W (Kd.slice E dk) t (fun l => ∀ x ∈ l, wf x)) {v : Value} {d : DataW H} {ps : List MemPlace} (hcells : v.cells.toList = [v]) (h : DataW.Trod enc Try.prog W 0 (fun _ => true) true t v d ps) : ∃ (A : Option Addr × Nat) (l : List α), v = .slice A.1 l.length A.2 ∧ RS dk W A.1 A.2 l ∧ ∀ x ∈ l, wf x := by
  obtain ⟨fuel, hf⟩ := h
  obtain ⟨a, hk, hw⟩ := ho _ _ _ hf
  rw [hcells] at hk
  obtain ⟨A1, k1, e, l1, g1⟩ := hk
  exact ⟨(A1, k1), a, by simpa using e, ⟨g1, l1⟩, hw⟩
set_option maxRecDepth 100000 in
theorem arg_ints {v : Value} {d : DataW H} {ps : List MemPlace} {r : Reach} {base : Nat} (hv : Value.okWide Try.prog W r base 24 v) (h : DataW.Trod enc Try.prog W 0 (fun _ => true) true 24 v d ps) : ∃ (A : Option Addr × Nat) (l : List Int), v = .slice A.1 l.length A.2 ∧ RS (Kd.int .i64) W A.1 A.2 l ∧ ∀ x ∈ l, I64 x := by
  obtain ⟨a, len, cap, rfl⟩ := okWide_slice Try.underlying24 hv
  exact arg_slice Try.underlying24 opn_ints rfl h
theorem opn_bools : Opn enc W (Kd.slice 4 Kd.bool) 54 (fun l => ∀ x ∈ l, True) := opn_slice _ Try.underlying54 (opn_bool Try.underlying4) (by kernel_rfl)
set_option maxRecDepth 100000 in
theorem arg_bools {v : Value} {d : DataW H} {ps : List MemPlace} {r : Reach} {base : Nat} (hv : Value.okWide Try.prog W r base 54 v) (h : DataW.Trod enc Try.prog W 0 (fun _ => true) true 54 v d ps) : ∃ (A : Option Addr × Nat) (l : List Bool), v = .slice A.1 l.length A.2 ∧ RS Kd.bool W A.1 A.2 l ∧ ∀ x ∈ l, True := by
  obtain ⟨a, len, cap, rfl⟩ := okWide_slice Try.underlying54 hv
  exact arg_slice Try.underlying54 opn_bools rfl h
theorem opn_grid : Opn enc W (Kd.slice 24 (Kd.slice 3 (Kd.int .i64))) 29 (fun l => ∀ r ∈ l, ∀ x ∈ r, I64 x) := opn_slice _ Try.underlying29 opn_ints (by kernel_rfl)
set_option maxRecDepth 100000 in
theorem arg_rows {v : Value} {d : DataW H} {ps : List MemPlace} {r : Reach} {base : Nat} (hv : Value.okWide Try.prog W r base 29 v) (h : DataW.Trod enc Try.prog W 0 (fun _ => true) true 29 v d ps) : ∃ (A : Option Addr × Nat) (l : List (List Int)), v = .slice A.1 l.length A.2 ∧ RS (Kd.slice 3 (Kd.int .i64)) W A.1 A.2 l ∧ ∀ r ∈ l, ∀ x ∈ r, I64 x := by
  obtain ⟨a, len, cap, rfl⟩ := okWide_slice Try.underlying29 hv
  exact arg_slice Try.underlying29 opn_grid rfl h
theorem opn_grid_b : Opn enc W (Kd.slice 54 (Kd.slice 4 Kd.bool)) 55 (fun l => ∀ r ∈ l, ∀ x ∈ r, True) := opn_slice _ Try.underlying55 opn_bools (by kernel_rfl)
theorem opn_run : Opn enc W kRun 57 (fun x => (∀ b ∈ x.f0, True) ∧ ∀ r ∈ x.f1, ∀ b ∈ r, True) := fun fuel cs x hx => by
  obtain ⟨c0, c1, rfl⟩ := two_of ((opn_size Try.underlying57 hx).trans (by kernel_rfl))
  obtain ⟨a0, h0, w0⟩ := opn_field Try.underlying57 hx 0 rfl opn_bools (n := 1) (by kernel_rfl)
  obtain ⟨a1, h1, w1⟩ := opn_field Try.underlying57 hx 1 rfl opn_grid_b (n := 1) (by kernel_rfl)
  obtain ⟨A0, k0, e0, l0, g0⟩ := h0
  obtain ⟨A1, k1, e1, l1, g1⟩ := h1
  cases e0
  cases e1
  exact ⟨⟨a0, a1⟩, kRun_mk W ⟨a0, a1⟩ l0 g0 l1 g1, w0, w1⟩
set_option maxRecDepth 100000 in
theorem arg_run {v : Value} {d : DataW H} {ps : List MemPlace} {r : Reach} {base : Nat} (hv : Value.okWide Try.prog W r base 57 v) (h : DataW.Trod enc Try.prog W 0 (fun _ => true) true 57 v d ps) : ∃ (p : TP) (t : Run), v = tv p t ∧ RT W p t ∧ ((∀ b ∈ t.f0, True) ∧ ∀ r ∈ t.f1, ∀ b ∈ r, True) := by
  obtain ⟨cs, rfl, _⟩ := okWide_struct Try.underlying57 hv
  obtain ⟨fuel, hf⟩ := h
  obtain ⟨a, hk, hw⟩ := opn_run _ _ _ hf
  obtain ⟨A0, k0, A1, k1, e, l0, g0, l1, g1⟩ := kRun_open hk
  refine ⟨⟨A0, k0, A1, k1⟩, a, ?_, ⟨⟨g0, l0⟩, ⟨g1, l1⟩⟩, hw⟩
  have e' : cs.toList = _ := e
  rw [← Array.toArray_toList (xs := cs), e']
end
end Go.Proofs.Ytpoadkogcdfglaa.PH

/- The values of variables, in plain Lean; a literal's parts. (For seats without preds: the same words as in Value, Sem, Lits, Put1.) -/
namespace Go.Proofs.Ytpoadkogcdfglaa.PH
open Go.RowKit Go.Proofs.YtpoadkogcdfglaaW.PrintWords Go.Proofs.YtpoadkogcdfglaaW.PrintLast
set_option linter.unusedVariables false
set_option linter.unusedSimpArgs false

/-- A literal of at most 1000 variables. -/
def IsLit (l : Int) : Prop := 0 ≤ l ∧ l ≤ 2001
theorem and_nat : ∀ n : Nat, n < 2002 → bits .and .i64 (n : Int) 1 = (n : Int) % 2 := by decide +kernel
theorem and_one {l : Int} (h : IsLit l) : bits .and .i64 l 1 = l % 2 := by
  obtain ⟨n, rfl⟩ := Int.eq_ofNat_of_zero_le h.1
  exact and_nat n (by have := h.2; omega)
/-- The value of a literal among those of variables. -/
def litV (v : List Bool) (l : Int) : Bool := v.getD (l / 2).toNat false != (l % 2 == 1)
/-- The values behind some gates. -/
def truthFrom : List Gate → List Bool → List Bool
  | [], v => v
  | g :: gs, v => truthFrom gs (v ++ [litV v g.f0 && litV v g.f1])
theorem R_false (W : World) (base t : Nat) (hb : base ≤ W.heap.size) : Kd.R Kd.bool t (W.alloc (.cells #[.bool false] t)) base (fun _ => True) (.slice (some ⟨W.heap.size, 0, none⟩) 1 1) [false] :=
  ⟨fun _ _ => trivial, [.bool false], (by have h := World.ownsRow_lit (base := base) (e := t) (size := 1) W #[.bool false] 1 hb (by decide) rfl; simpa using h : (W.alloc (.cells #[.bool false] t)).ownsRow base t 1 (.slice (some ⟨W.heap.size, 0, none⟩) 1 1) 1 [.bool false]), Kd.reps_scalar (enc := Value.bool) [false]⟩
theorem litV_app (v t : List Bool) {l : Int} (h : 0 ≤ l) (hl : l / 2 < v.length) : litV (v ++ t) l = litV v l := by
  unfold litV
  rw [List.getD_eq_getElem?_getD, List.getD_eq_getElem?_getD, List.getElem?_append_left (by omega)]
theorem truthFrom_pre : ∀ (gs : List Gate) (v : List Bool), ∃ t, truthFrom gs v = v ++ t ∧ t.length = gs.length
  | [], v => ⟨[], by simp [truthFrom], rfl⟩
  | g :: gs, v => by
    obtain ⟨t, h1, h2⟩ := truthFrom_pre gs (v ++ [litV v g.f0 && litV v g.f1])
    exact ⟨(litV v g.f0 && litV v g.f1) :: t, by rw [truthFrom, h1]; simp, by simp [h2]⟩
theorem truthFrom_len (gs : List Gate) (v : List Bool) : (truthFrom gs v).length = v.length + gs.length := by
  obtain ⟨t, h1, h2⟩ := truthFrom_pre gs v
  rw [h1, List.length_append, h2]
theorem truthFrom_snoc : ∀ (gs : List Gate) (g : Gate) (v : List Bool), truthFrom (gs ++ [g]) v = truthFrom gs v ++ [litV (truthFrom gs v) g.f0 && litV (truthFrom gs v) g.f1]
  | [], g, v => by simp [truthFrom]
  | x :: xs, g, v => by simp only [List.cons_append, truthFrom]; exact truthFrom_snoc xs g _
theorem truthFrom_lit (gs : List Gate) (v : List Bool) {l : Int} (h : 0 ≤ l) (hl : l / 2 < v.length) : litV (truthFrom gs v) l = litV v l := by
  obtain ⟨t, h1, _⟩ := truthFrom_pre gs v
  rw [h1]
  exact litV_app v t h hl
/-- The gates are right, behind so many variables. -/
def Okg (s : Int) (ands : List Gate) : Prop := ∀ k (hk : k < ands.length), 0 ≤ ands[k].f1 ∧ ands[k].f1 ≤ ands[k].f0 ∧ ands[k].f0 < 2 * (s + k)
theorem okg_of : ∀ {s : Int} {gs : List Gate} {i : Int}, gAnds s gs i = true → Okg (s + i) gs
  | s, [], i, _ => fun k hk => by simp at hk
  | s, g :: gs, i, h => by
    unfold gAnds at h
    split at h
    · cases h
    split at h
    · cases h
    split at h
    · cases h
    · intro k hk
      cases k with
      | zero => exact ⟨by simp; omega, by simp; omega, by simp; omega⟩
      | succ k =>
        have := okg_of h k (by simpa using hk)
        simp only [List.getElem_cons_succ]
        refine ⟨this.1, this.2.1, ?_⟩
        have h3 := this.2.2
        push_cast
        omega
theorem truthFrom_more (a t : List Gate) (v : List Bool) : ∃ s, truthFrom (a ++ t) v = truthFrom a v ++ s := by
  have h : ∀ (a : List Gate) (v : List Bool), truthFrom (a ++ t) v = truthFrom t (truthFrom a v) := by
    intro a
    induction a with
    | nil => intro v; rfl
    | cons g gs ih => intro v; simp only [List.cons_append, truthFrom]; exact ih _
  obtain ⟨s, h1, _⟩ := truthFrom_pre t (truthFrom a v)
  exact ⟨s, (h a v).trans h1⟩
theorem gAnds_atV {s : Int} : ∀ {gs : List Gate} {i : Int} (k : Nat) (hk : k < gs.length), gAnds s gs i = true → 0 ≤ gs[k].f1 ∧ gs[k].f1 ≤ gs[k].f0 ∧ gs[k].f0 < 2 * (s + (i + k))
  | g :: gs, i, 0, hk, h => by
    unfold gAnds at h
    split at h
    · cases h
    split at h
    · cases h
    split at h
    · cases h
    exact ⟨by simp; omega, by simp; omega, by simp; omega⟩
  | g :: gs, i, k + 1, hk, h => by
    unfold gAnds at h
    split at h
    · cases h
    split at h
    · cases h
    split at h
    · cases h
    have := gAnds_atV (i := i + 1) k (by simpa using hk) h
    simp only [List.getElem_cons_succ]
    refine ⟨this.1, this.2.1, ?_⟩
    have h3 := this.2.2
    push_cast
    omega
theorem infoBool : (Try.prog.info? 4).map (fun i => (i.zero, i.size, i.bytes)) = some (some (.bool false), 1, 1) := by kernel_rfl
end Go.Proofs.Ytpoadkogcdfglaa.PH

/- values.of, values.Of; a row of truth values in a block of its own, copy into it. -/
namespace Go.Proofs.Ytpoadkogcdfglaa.PH
open Go.RowKit Go.Proofs.YtpoadkogcdfglaaW.PrintWords Go.Proofs.YtpoadkogcdfglaaW.PrintLast
set_option linter.unusedVariables false
set_option linter.unusedSimpArgs false

set_option maxHeartbeats 2000000 in
set_option maxRecDepth 100000 in
theorem values_of (A : Option Addr) (c : Nat) (v : List Bool) (l : Int) (w : World) (h : RS Kd.bool w A c v) (hl : IsLit l) (h1 : l / 2 < v.length) :
    Calls Try.prog 99 #[.slice A v.length c, .int .i64 l] w fun e w' => e = .returned (.bool (litV v l)) ∧ Below w.heap.size w w' := by
  obtain ⟨k, hk⟩ : ∃ k : Nat, l / 2 = (k : Int) := ⟨(l / 2).toNat, by have := hl.1; omega⟩
  have hkv : k < v.length := by omega
  have ha := and_one hl
  obtain ⟨ad, e1, hx⟩ := at_bool h.r k hkv
  cases e1
  have hR : litV v l = (v[k] != (l % 2 == 1)) := by
    unfold litV
    rw [hk, Int.toNat_natCast, List.getD_eq_getElem?_getD, List.getElem?_eq_getElem hkv]
    rfl
  rw [hR]
  generalize v[k] = b at *
  have hlt : (k : Int) < (v.length : Int) := by omega
  clear h1 hR
  go_enter Try.func99, Try.ntmps99
  go_wp2
  go_ret
  exact ⟨rfl, Below.refl _ _⟩
/-! ### A row of truth values in a block of its own -/
@[reducible] def bRow (l : List Bool) : Array Value := (l.map Value.bool).toArray
/-- What copy leaves in a row of truth values. -/
def over (xs ys : List Bool) (o : Nat) : List Bool := xs.take o ++ ys ++ xs.drop (o + ys.length)
theorem over_len {xs ys : List Bool} {o : Nat} (h : o + ys.length ≤ xs.length) : (over xs ys o).length = xs.length := by
  unfold over
  simp only [List.length_append, List.length_take, List.length_drop]
  omega
theorem RS.bools {w : World} {g : Nat} {l : List Bool} {c : Nat} (hc : l.length ≤ c) (hm : l.length ≤ 9223372036854775807) (h : w.heap[g]? = some (.cells (bRow l) 4 (0, 0))) : RS Kd.bool w (some ⟨g, 0, none⟩) c l :=
  RS.row hm hc (fun j p hj => ⟨[.bool p], rfl, rfl, fun i u hu => by
    cases i with
    | zero =>
      have e : Value.bool p = u := by simpa using hu
      subst e
      have h2 := blk_cell h j
      rw [show Kd.bool.sz = 1 from rfl, Nat.mul_one, Nat.add_zero, h2]
      simp [hj]
    | succ i => simp at hu⟩)
theorem copy_bools {ops : Array Oper} {rest : List Oper} {o : Oper} {a : Act} {Q : Exit → Act → World → Prop} {w0 W : World} (hgd : o.guard = none) (s x : Operand)
    (ho : o.op = .call { callee := .builtin .copy, args := #[s, x], argTypes := #[54, 54] }) (g off dl dc : Nat) (D : Option Addr) (xs ys : List Bool) (A : Option Addr) (c : Nat) (hs : a.eval s = .slice D dl dc) (hx : a.eval x = .slice A ys.length c)
    (HD : 0 < ys.length → D = some ⟨g, off, none⟩) (HL : ys.length ≤ dl) (HF : off + ys.length ≤ xs.length) (HG : w0.heap.size ≤ g) (HB : Below w0.heap.size w0 W) (HO : W.heap[g]? = some (.cells (bRow xs) 4 (0, 0))) (HR : RS Kd.bool W A c ys)
    (h : ∀ w1, w1.heap[g]? = some (.cells (bRow (over xs ys off)) 4 (0, 0)) → Below w0.heap.size w0 w1 → (∀ k, k ≠ g → w1.heap[k]? = W.heap[k]?) → w1.heap.size = W.heap.size → wpList Try.prog ops Q rest (a.put o.dst (.int .i64 (ys.length : Int))) w1) :
    wpList Try.prog ops Q (o :: rest) a W := by
  have fin : ∀ w1, (Builtin.copy_ #[54, 54] o.type #[.slice D dl dc, .slice A ys.length c]).run Try.prog W = .ok (goInt (ys.length : Int)) w1 → w1.heap[g]? = some (.cells (bRow (over xs ys off)) 4 (0, 0)) → Below w0.heap.size w0 w1 → (∀ k, k ≠ g → w1.heap[k]? = W.heap[k]?) → w1.heap.size = W.heap.size → wpList Try.prog ops Q (o :: rest) a W := by
    intro w1 hr h1 h2 h3 h4
    refine wpList_plain hgd fun K hK => ?_
    unfold Oper.wp execOp
    simp only [ho, resolve, invoke, builtin, Sem.run_bind, Sem.run_pure, Result.andThen_ok, List.map_toArray, List.map_cons, List.map_nil, hs, hx, hr]
    exact hK _ _ (h w1 h1 h2 h3 h4)
  have hinfo : (Try.prog.info? 4).map (·.size) = some 1 := by kernel_rfl
  by_cases h0 : ys.length = 0
  · have he : ys = [] := List.eq_nil_of_length_eq_zero h0
    refine fin W ?_ ?_ HB (fun _ _ => rfl) rfl
    · rw [h0]
      exact run_copy_none W _ _ _ 4 D A dl dc 0 c Try.underlying54 hinfo (by simp)
    · rw [he]; unfold over; simpa using HO
  · have hD := HD (by omega)
    subst hD
    obtain ⟨ad, hA, hc⟩ := HR.r.2.2 (by omega)
    have hkl : (ys.map Value.bool).length = ys.length := List.length_map ..
    have hsrc : ∀ j u, (ys.map Value.bool)[j]? = some u → W.cell? (ad.add j) = some u := by
      intro j u hu
      have hj : j < ys.length := by
        rcases Nat.lt_or_ge j ys.length with h | h
        · exact h
        · rw [List.getElem?_eq_none (by rw [hkl]; exact h)] at hu
          cases hu
      obtain ⟨ad2, e2, h2⟩ := at_bool HR.r j hj
      rw [hA] at e2
      cases e2
      rw [h2, ← hu]
      simp [hj]
    have hr := run_copy_cells (P := Try.prog) W 54 54 o.type 4 g off dl dc ad ys.length c (ys.map Value.bool) Try.underlying54 hinfo (by rw [hkl]; exact (Nat.min_eq_left HL).symm) hsrc
      (fun j hj => by rw [cell_of_row W g _ (bRow xs) 4 (0, 0) HO]; simp at hj ⊢; omega) (fun j _ => blk_frozen HO _) (by intro u hu; simp only [List.mem_map] at hu; obtain ⟨q, _, rfl⟩ := hu; rfl)
    obtain ⟨cur', h3, h4, h5⟩ := setCells_row (ys.map Value.bool) off W (bRow xs) HO (by simp; omega)
    obtain ⟨s1, s2, s3, s4⟩ := setCells_same g (ys.map Value.bool) off W
    have hfar : ∀ k, k ≠ g → (W.setCells g off (ys.map Value.bool)).heap[k]? = W.heap[k]? := fun k hk => setCells_far _ _ k hk
    refine fin _ (by rw [hA, hr, hkl]) ?_ ?_ hfar s4
    · rw [h3]
      have : cur' = bRow (over xs ys off) := by
        apply Array.ext'
        rw [h5]
        simp [over, List.map_take, List.map_drop]
      rw [this]
    · exact HB.trans ⟨s1, s2, s3, by rw [s4]; exact Nat.le_refl _, fun k hk => hfar k (by omega)⟩
end Go.Proofs.Ytpoadkogcdfglaa.PH

/- values.All: the values of a circuit's variables in a frame. -/
namespace Go.Proofs.Ytpoadkogcdfglaa.PH
open Go.RowKit Go.Proofs.YtpoadkogcdfglaaW.PrintWords Go.Proofs.YtpoadkogcdfglaaW.PrintLast
set_option linter.unusedVariables false
set_option linter.unusedSimpArgs false

theorem make_row (M : Nat) (hM : M ≤ 1000) (W : World) : (Instr.makeSlice 54 (.int .i64 ((M + 1 : Nat) : Int)) (.int .i64 ((M + 1 : Nat) : Int))).run Try.prog W = .ok (.slice (some ⟨W.heap.size, 0, none⟩) (M + 1) (M + 1)) (W.alloc (.cells (bRow (List.replicate (M + 1) false)) 4)) := by
  obtain ⟨i0, hi, hz⟩ := Option.map_eq_some_iff.1 infoBool
  simp only [Prod.mk.injEq] at hz
  obtain ⟨h0, h1, h2⟩ := hz
  have h := run_make (P := Try.prog) W 54 4 i0 _ Try.underlying54 hi h0 .i64 .i64 ((M + 1 : Nat) : Int) ((M + 1 : Nat) : Int) (by omega) (by omega) (by rw [h2]; omega) (by omega)
  rw [h1, Nat.mul_one] at h
  rw [show madeCells (Value.bool false).cells (Int.toNat ((M + 1 : Nat) : Int)) = bRow (List.replicate (M + 1) false) from ?_] at h
  · exact h
  · apply Array.ext'
    simp only [madeCells, bRow, Value.cells]
    simp [List.eq_replicate_iff]
    exact fun a _ => by rw [Nat.mod_one]; rfl
theorem rep_take (n k : Nat) : (List.replicate n false).take k = List.replicate (min k n) false := by simp
/-- The row before the gates. -/
theorem start_row (ins st : List Bool) (n : Nat) : over (over (List.replicate (1 + ins.length + st.length + n) false) ins 1) st (1 + ins.length) = (false :: (ins ++ st)) ++ List.replicate n false := by
  have h1 : over (List.replicate (1 + ins.length + st.length + n) false) ins 1 = (false :: ins) ++ List.replicate (st.length + n) false := by
    unfold over
    rw [List.take_replicate, List.drop_replicate, show min 1 (1 + ins.length + st.length + n) = 1 by omega, show 1 + ins.length + st.length + n - (1 + ins.length) = st.length + n by omega]
    simp
  rw [h1]
  unfold over
  rw [List.take_append_of_le_length (by simp; omega), List.take_of_length_le (by simp; omega), List.drop_append, List.drop_of_length_le (by simp; omega), List.drop_replicate]
  simp
  congr 1
  omega
theorem set_row (l : List Bool) (n : Nat) (b : Bool) (j : Nat) (hj : j = l.length) : (bRow (l ++ List.replicate (n + 1) false)).setIfInBounds j (.bool b) = bRow ((l ++ [b]) ++ List.replicate n false) := by
  subst hj
  apply Array.ext'
  simp [List.replicate_succ]
theorem row_at (l : List Bool) (n j : Nat) (hj : j = l.length) (hn : 0 < n) : (bRow (l ++ List.replicate n false))[j]? = some (.bool false) := by
  subst hj
  cases n with
  | zero => omega
  | succ n => simp [List.replicate_succ]
theorem truthFrom_take {gs : List Gate} {v : List Bool} {k : Nat} (hk : k < gs.length) : truthFrom (gs.take (k + 1)) v = truthFrom (gs.take k) v ++ [litV (truthFrom (gs.take k) v) gs[k].f0 && litV (truthFrom (gs.take k) v) gs[k].f1] := by
  rw [take_at hk, truthFrom_snoc]
theorem check_gands {c : Circ} (h : check c = 0) : gAnds (1 + c.f0 + c.f1.length) c.f2 0 = true := by
  unfold check gCheck at h
  by_cases hg : gAnds (1 + c.f0 + c.f1.length) c.f2 0 = true
  · exact hg
  · rw [if_neg hg] at h
    repeat' split at h
    all_goals cases h
theorem values_of2 (A : Option Addr) (c N : Nat) (v r : List Bool) (l : Int) (w : World) (h : RS Kd.bool w A c (v ++ r)) (hN : (v ++ r).length = N) (hl : IsLit l) (h1 : l / 2 < v.length) :
    Calls Try.prog 99 #[.slice A N c, .int .i64 l] w fun e w' => e = .returned (.bool (litV v l)) ∧ Below w.heap.size w w' := by
  subst hN
  have h_ := values_of A c (v ++ r) l w h hl (by rw [List.length_append]; omega)
  rwa [litV_app v r hl.1 h1] at h_
/-- A row of truth values comes back, and OK. -/
def RetVs (w w' : World) (l : List Bool) (e : Ending) : Prop := ∃ A cap, e = .returned (.tuple #[.slice A l.length cap, .int .i64 0]) ∧ RS Kd.bool w' A cap l ∧ Below w.heap.size w w'
/-- What holds in values.All: the circuit's box, the row of the values. -/
structure VaInv (w : World) (p : CP) (c : Circ) (g : Nat) (l : List Bool) (wr : World) : Prop where
  BW : Below w.heap.size w wr
  BC : wr.heap[w.heap.size]? = some (.cells #[.int .i64 c.f0, .slice p.A1 c.f1.length p.c1, .slice p.A2 c.f2.length p.c2, .slice p.A3 c.f3.length p.c3, .slice p.A4 c.f4.length p.c4] 26 (0, 0))
  BL : wr.heap[g]? = some (.cells (bRow l) 4 (0, 0))
theorem VaInv.below {w wr w2 : World} {p : CP} {c : Circ} {g : Nat} {l : List Bool} (h : VaInv w p c g l wr) (hb : Below wr.heap.size wr w2) : VaInv w p c g l w2 :=
  ⟨h.BW.trans (hb.mono h.BW.size), blk_below h.BC hb, blk_below h.BL hb⟩
set_option maxHeartbeats 4000000 in
set_option maxRecDepth 100000 in
theorem values_All (p : CP) (c : Circ) (B : Option Addr) (d : Nat) (st : List Bool) (B2 : Option Addr) (d2 : Nat) (ins : List Bool) (w : World) (h : RC w p c) (hs : c.Fits) (h1 : RS Kd.bool w B d st) (h2 : RS Kd.bool w B2 d2 ins)
    (hc : check c = 0) (hl1 : st.length = c.f1.length) (hl2 : (ins.length : Int) = c.f0) :
    Calls Try.prog 98 #[cv p c, .slice B st.length d, .slice B2 ins.length d2] w fun e w' => RetVs w w' (truthFrom c.f2 (false :: (ins ++ st))) e := by
  have hgc := gCheck_ok hc
  obtain ⟨V, hV⟩ : ∃ V : Nat, c.f0 + c.f1.length + c.f2.length = (V : Int) := ⟨(c.f0 + c.f1.length + c.f2.length).toNat, by omega⟩
  have HV := Aside0.mk (fun W (hb : Below w.heap.size w W) => by
    have h_ := gates_Vars p c W (h.below hb) hs
    rw [if_pos hc, hc, hV] at h_
    exact h_)
  have HOF := Aside0.mk (check_gands hc)
  have HRC := Aside0.mk h
  have HS := Aside0.mk h1
  have HI := Aside0.mk h2
  have HC := Aside0.mk hc
  have HL := Aside0.mk (And.intro hgc (And.intro hV (And.intro hl1 hl2)))
  have hu26 := Try.underlying26
  have hmk := make_row V (by omega)
  obtain ⟨F, hF⟩ : ∃ F, 1 + ins.length = F := ⟨_, rfl⟩
  obtain ⟨E, hE⟩ : ∃ E, F + st.length = E := ⟨_, rfl⟩
  have n2 : F ≤ E := hE ▸ Nat.le_add_right _ _
  have hn3 : E ≤ V + 1 := by omega
  have hn4 : E + c.f2.length = V + 1 := by omega
  have hwf : wrap64 (1 + (ins.length : Int)) = (F : Int) := (wrap_in (x := 1 + (ins.length : Int)) (by have := hgc.2.1; omega) (by have := hgc.2.1; omega)).trans (by omega)
  have hwe : wrap64 ((F : Int) + (st.length : Int)) = (E : Int) := (wrap_in (x := (F : Int) + (st.length : Int)) (by have := hgc.2.2; omega) (by have := hgc.2.2; omega)).trans (by omega)
  have hwv : wrap64 ((V : Int) + 1) = ((V + 1 : Nat) : Int) := by rw [wrap_in (by omega) (by omega)]; rfl
  obtain ⟨N, hN⟩ : ∃ N, V + 1 = N := ⟨_, rfl⟩
  rw [hN] at hmk hwv
  have n1 : 1 ≤ N := by omega
  have n3 : E ≤ N := hN ▸ hn3
  have HN := Aside0.mk (show V + 1 = N ∧ 1 + ins.length = F ∧ F + st.length = E ∧ E + c.f2.length = N from ⟨hN, hF, hE, hn4.trans hN⟩)
  obtain ⟨ad1, had1⟩ : ∃ ad1 : Nat → Option Addr, ∀ g, (if N = 1 then some (⟨g, 0, none⟩ : Addr) else some ⟨g, 1, none⟩) = ad1 g := ⟨fun g => _, fun _ => rfl⟩
  obtain ⟨ad2, had2⟩ : ∃ ad2 : Nat → Option Addr, ∀ g, (if E = F then some (⟨g, 0, none⟩ : Addr) else some ⟨g, F, none⟩) = ad2 g := ⟨fun g => _, fun _ => rfl⟩
  have HA1 := Aside0.mk had1
  have HA2 := Aside0.mk had2
  have HB0 := Aside0.mk (blk_new w (.cells #[.int .i64 c.f0, .slice p.A1 c.f1.length p.c1, .slice p.A2 c.f2.length p.c2, .slice p.A3 c.f3.length p.c3, .slice p.A4 c.f4.length p.c4] 26))
  have t1 : ((st.length : Int) != (c.f1.length : Int)) = false := bne_eq_false_iff_eq.mpr (by omega)
  have t2 : ((ins.length : Int) != c.f0) = false := bne_eq_false_iff_eq.mpr hl2
  clear h hs h1 h2 hc hl1 hl2 hV hgc hN hF hE hn3 hn4
  go_enter Try.func98, Try.ntmps98
  go_wp2_with fail
  refine (HV.out _ (below_alloc (Below.refl _ _) _)).mono ?_
  rintro e w1 ⟨rfl, hb1⟩
  have BC := Aside0.mk (blk_below HB0.out hb1)
  have BW := Aside0.mk (below_then (below_alloc (Below.refl w.heap.size w) _) (by simp) hb1)
  clear hb1 HB0 HV
  obtain ⟨g0, g1, g2, g3, g4⟩ := (blk5w BC.out).1
  have BL := Aside0.mk (blk_new w1 (.cells (bRow (List.replicate N false)) 4))
  have BC1 := Aside0.mk (blk_alloc BC.out (.cells (bRow (List.replicate N false)) 4))
  have BW1 := Aside0.mk (below_alloc BW.out (.cells (bRow (List.replicate N false)) 4))
  have HG := Aside0.mk BW.out.size
  go_wp2_with (first | ((with_reducible refine gate_dst (N := 40) rfl ?_); go_loud (refine copy_bools (w0 := w) rfl (.tmp 38) (.tmp 39) rfl w1.heap.size 1 (N - 1) (N - 1) (ad1 w1.heap.size) (List.replicate N false) ins B2 d2 rfl rfl ?cD ?cL ?cF ?cG BW1.out BL.out (HI.out.below BW1.out) ?_); (case cD => intro h0; rw [← HA1.out, if_neg (by have := HN.out; omega)]); (case cL => have := HN.out; omega); (case cF => rw [List.length_replicate]; have := HN.out; omega); (case cG => exact HG.out); intro w2 k1 k2 k3 k4; have BL2 := Aside0.mk k1; have BW2 := Aside0.mk k2; have BC2 := Aside0.mk ((k3 _ (Nat.ne_of_lt (blk_lt BC.out))).trans BC1.out); clear k1 k2 k3 k4) | ((with_reducible refine gate_dst (N := 54) rfl ?_); go_loud (refine copy_bools (w0 := w) rfl (.tmp 52) (.tmp 53) rfl w1.heap.size F (E - F) (E - F) (ad2 w1.heap.size) (over (List.replicate N false) ins 1) st B d rfl rfl ?cD ?cL ?cF ?cG BW2.out BL2.out (HS.out.below BW2.out) ?_); (case cD => intro h0; rw [← HA2.out, if_neg (by have := HN.out; omega)]); (case cL => have := HN.out; omega); (case cF => rw [over_len (by rw [List.length_replicate]; have := HN.out; omega), List.length_replicate]; have := HN.out; omega); (case cG => exact HG.out); intro w3 k1 k2 k3 k4; have BL3 := Aside0.mk k1; have BW3 := Aside0.mk k2; have BC3 := Aside0.mk ((k3 _ (Nat.ne_of_lt (blk_lt BC.out))).trans BC2.out); clear k1 k2 k3 k4; have h2_ := (blk5w BC3.out).1.2.2.1))
  have HV0 := Aside0.mk (show (false :: (ins ++ st)).length = E from by have := HN.out; simp only [List.length_cons, List.length_append]; omega)
  have I0 : Aside0 (VaInv w p c w1.heap.size ((false :: (ins ++ st)) ++ List.replicate c.f2.length false) w3) := ⟨⟨BW3.out, BC3.out, by
    have h_ := BL3.out
    rw [show N = 1 + ins.length + st.length + c.f2.length by have := HN.out; omega, show F = 1 + ins.length by have := HN.out; omega, start_row] at h_
    exact h_⟩⟩
  have HX := Aside0.mk (show w.heap.size < w1.heap.size from blk_lt BC.out)
  clear g0 g1 g2 g3 g4 BC BC1 BC2 BC3 BL BL2 BL3 BW BW1 BW2 BW3 HG HA1 HA2 had1 had2 h2_ hwv hwf hmk t1 t2
  generalize w1.heap.size = gR at *
  have HM := Aside0.mk HRC.out.s2.max
  rw [hwe]
  clear hwe
  go_loopg [12, 62] c.f2.length (fun gg s12 s62 wr => ∃ k : Nat, s62 = .int .i64 k ∧ Aside0 (k ≤ c.f2.length ∧ c.f2.length - k ≤ gg) ∧ Aside0 (VaInv w p c gR (truthFrom (c.f2.take k) (false :: (ins ++ st)) ++ List.replicate (c.f2.length - k) false) wr))
  case atStart => exact ⟨0, rfl, ⟨by omega, by omega⟩, I0⟩
  case round =>
    clear I0
    obtain ⟨k, rfl, HX2, I⟩ := hrel
    obtain ⟨g0, g1, g2, g3, g4⟩ := (blk5w I.out.BC).1
    by_cases hlt : k < c.f2.length
    · obtain ⟨ad, e1, hx, hy⟩ := at_gate (HRC.out.s2.below I.out.BW).r k hlt
      have hpt := gAnds_atV k hlt HOF.out
      have HT := Aside0.mk (truthFrom_take (v := false :: (ins ++ st)) hlt)
      have hlen : (truthFrom (c.f2.take k) (false :: (ins ++ st))).length = E + k := by rw [truthFrom_len, HV0.out, List.length_take, Nat.min_eq_left (Nat.le_of_lt hlt)]
      have hall : (truthFrom (c.f2.take k) (false :: (ins ++ st)) ++ List.replicate (c.f2.length - k) false).length = N := by rw [List.length_append, hlen, List.length_replicate]; have := HN.out; omega
      have HLT := Aside0.mk hlt
      have hRS := RS.bools (c := N) (by rw [hall]; exact Nat.le_refl _) (by rw [hall]; have := HN.out; have := HL.out.1.2.2; have := HL.out.2.1; omega) I.out.BL
      have hE := HN.out
      have hF0 := HL.out.1
      have hV0 := HL.out.2.1
      have l0 : IsLit c.f2[k].f0 := ⟨by omega, by omega⟩
      have l1 : IsLit c.f2[k].f1 := ⟨by omega, by omega⟩
      generalize c.f2[k] = g at *
      have C0 := Aside0.mk (fun W (hb : Below wr.heap.size wr W) => values_of2 _ N N _ _ g.f0 W (hRS.below hb) hall l0 (by rw [hlen]; omega))
      have C1 := Aside0.mk (fun W (hb : Below wr.heap.size wr W) => values_of2 _ N N _ _ g.f1 W (hRS.below hb) hall l1 (by rw [hlen]; omega))
      have hi1 : E + k < N := by omega
      have hcell : wr.cell? ⟨gR, E + k, none⟩ = some (.bool false) := by
        rw [blk_cell I.out.BL, row_at _ _ _ hlen.symm (by omega)]
      have hix : wrap64 ((E : Int) + (k : Int)) = ((E + k : Nat) : Int) := (wrap_in (x := (E : Int) + (k : Int)) (by omega) (by omega)).trans (by omega)
      have hfz := blk_frozen I.out.BL (E + k)
      have HLN := Aside0.mk hlen
      clear hpt hlen hall hRS hE hF0 hV0 l0 l1
      generalize truthFrom (c.f2.take k) (false :: (ins ++ st)) = vals at *
      rw [e1] at g2
      clear e1
      cases hb0 : litV vals g.f0
      · have HB0 := Aside0.mk hb0
        clear hb0
        go_wp2_with fail
        refine (C0.out _ (Below.refl _ _)).mono ?_
        rintro e w4 ⟨rfl, hb4⟩
        rw [HB0.out]
        have I4 := Aside0.mk (I.out.below hb4)
        have hcell4 := pw_cell_below hb4 hcell
        have hfz4 := blk_frozen I4.out.BL (E + k)
        clear hb4 hcell hfz I g0 g1 g2 g3 g4 hx hy
        have BW5 := Aside0.mk (I4.out.BW)
        have hrow := Aside0.mk (set_row vals (c.f2.length - (k + 1)) false (E + k) HLN.out.symm)
        go_wp2
        go_roundg (c.f2.length - (k + 1))
        case measure => have := HX2.out; have := HLT.out; omega
        case rel => exact ⟨k + 1, val_step HLT.out HM.out, ⟨HLT.out, by have := HX2.out; omega⟩, ⟨⟨below_set I4.out.BW (Nat.le_of_lt HX.out), blk_far I4.out.BC (Nat.ne_of_lt HX.out) _, by
          have h_ := blk_set I4.out.BL (E + k) (.bool false)
          rw [show c.f2.length - k = (c.f2.length - (k + 1)) + 1 by have := HLT.out; omega, hrow.out] at h_
          rw [HT.out]
          simpa [HB0.out] using h_⟩⟩⟩
      · have HB0 := Aside0.mk hb0
        clear hb0
        go_wp2_with fail
        refine (C0.out _ (Below.refl _ _)).mono ?_
        rintro e w4 ⟨rfl, hb4⟩
        rw [HB0.out]
        have I4 := Aside0.mk (I.out.below hb4)
        have g2_ := pw_cell_below hb4 g2
        have hx_ := pw_cell_below hb4 hx
        have hy_ := pw_cell_below hb4 hy
        have hcell4 := pw_cell_below hb4 hcell
        have HB4 := Aside0.mk hb4
        clear hb4 hcell hfz I g0 g1 g2 g3 g4 hx hy
        go_wp2_with fail
        refine (C1.out _ HB4.out).mono ?_
        rintro e w5 ⟨rfl, hb5⟩
        have I5 := Aside0.mk (I4.out.below hb5)
        have hcell5 := pw_cell_below hb5 hcell4
        have hfz5 := blk_frozen I5.out.BL (E + k)
        clear hb5 hcell4 I4 g2_ hx_ hy_
        have BW5 := Aside0.mk (I5.out.BW)
        have hrow := Aside0.mk (set_row vals (c.f2.length - (k + 1)) (litV vals g.f1) (E + k) HLN.out.symm)
        go_wp2
        go_roundg (c.f2.length - (k + 1))
        case measure => have := HX2.out; have := HLT.out; omega
        case rel => exact ⟨k + 1, val_step HLT.out HM.out, ⟨HLT.out, by have := HX2.out; omega⟩, ⟨⟨below_set I5.out.BW (Nat.le_of_lt HX.out), blk_far I5.out.BC (Nat.ne_of_lt HX.out) _, by
          have h_ := blk_set I5.out.BL (E + k) (.bool (litV vals g.f1))
          rw [show c.f2.length - k = (c.f2.length - (k + 1)) + 1 by have := HLT.out; omega, hrow.out] at h_
          rw [HT.out]
          simpa [HB0.out] using h_⟩⟩⟩
    · have hk : k = c.f2.length := by have := HX2.out.1; omega
      subst hk
      have IF := Aside0.mk (show VaInv w p c gR (truthFrom c.f2 (false :: (ins ++ st))) wr from by
        have h_ := I.out
        rw [List.take_length, Nat.sub_self] at h_
        simpa using h_)
      have HLF := Aside0.mk (show (truthFrom c.f2 (false :: (ins ++ st))).length = N by rw [truthFrom_len, HV0.out]; exact HN.out.2.2.2)
      clear I
      go_wp2
      refine bodyPost_ret (results_tmp2 rfl _ _ _) rfl ?_
      refine ⟨some ⟨gR, 0, none⟩, N, ?_, RS.bools (by rw [HLF.out]; exact Nat.le_refl _) (by rw [HLF.out]; have := HN.out; have := HL.out.1.2.2; have := HL.out.2.1; omega) IF.out.BL, IF.out.BW⟩
      rw [HLF.out]
      rfl
end Go.Proofs.Ytpoadkogcdfglaa.PH

/- Runs in plain Lean: the frames of a run, how far a walk goes over them. -/
namespace Go.Proofs.Ytpoadkogcdfglaa.PH
open Go.RowKit Go.Proofs.YtpoadkogcdfglaaW.PrintWords Go.Proofs.YtpoadkogcdfglaaW.PrintLast
set_option linter.unusedVariables false
set_option linter.unusedSimpArgs false

def valsOf (c : Circ) (st ins : List Bool) : List Bool := truthFrom c.f2 (false :: (ins ++ st))
def nextOf (c : Circ) (st ins : List Bool) : List Bool := c.f1.map (fun x => litV (valsOf c st ins) x.f0)
def badsOf (c : Circ) (st ins : List Bool) : List Bool := c.f3.map (litV (valsOf c st ins))
def holdsOf (c : Circ) (st ins : List Bool) : Bool := c.f4.all (litV (valsOf c st ins))
/-- A frame: its state, whether it is allowed, its bad literals' values. -/
abbrev Fr := List Bool × Bool × List Bool
def frames (c : Circ) : List Bool → List (List Bool) → List Fr
  | _, [] => []
  | st, i :: r => (st, holdsOf c st i, badsOf c st i) :: frames c (nextOf c st i) r
/-- How many frames are walked. -/
def stopAt (go : Nat → Fr → Bool) : Nat → List Fr → Nat
  | i, [] => i
  | i, f :: fs => if go i f then stopAt go (i + 1) fs else i + 1
def startOk (q : Latch × Bool) : Bool := q.1.f1 == 2 || q.2 == (q.1.f1 == 1)
def startsB (c : Circ) (st : List Bool) : Bool := (c.f1.zip st).all startOk
/-- The error of a run. -/
def tCheck (c : Circ) (t : Run) : Int :=
  if check c ≠ 0 then check c else if 100 < t.f1.length then 4
  else if t.f1.length = 0 then 8 else if t.f0.length ≠ c.f1.length then 8 else if startsB c t.f0 = false then 8
  else if t.f1.any (fun l => (l.length : Int) != c.f0) = true then 8 else 0
theorem tCheck_ok {c : Circ} {t : Run} (h : tCheck c t = 0) : check c = 0 ∧ t.f1.length ≤ 100 ∧ 0 < t.f1.length ∧ t.f0.length = c.f1.length ∧ startsB c t.f0 = true ∧ ∀ l ∈ t.f1, (l.length : Int) = c.f0 := by
  unfold tCheck at h
  by_cases h1 : check c ≠ 0
  · rw [if_pos h1] at h; exact absurd h h1
  rw [if_neg h1] at h
  by_cases h2 : 100 < t.f1.length
  · rw [if_pos h2] at h; cases h
  rw [if_neg h2] at h
  by_cases h3 : t.f1.length = 0
  · rw [if_pos h3] at h; cases h
  rw [if_neg h3] at h
  by_cases h4 : t.f0.length ≠ c.f1.length
  · rw [if_pos h4] at h; cases h
  rw [if_neg h4] at h
  by_cases h5 : startsB c t.f0 = false
  · rw [if_pos h5] at h; cases h
  rw [if_neg h5] at h
  by_cases h6 : t.f1.any (fun l => (l.length : Int) != c.f0) = true
  · rw [if_pos h6] at h; cases h
  refine ⟨Classical.not_not.1 h1, by omega, by omega, Classical.not_not.1 h4, by simpa using h5, fun l hl => ?_⟩
  have h7 : t.f1.any (fun l => (l.length : Int) != c.f0) = false := by simpa using h6
  have h8 := List.any_eq_false.1 h7 l hl
  simpa using h8
theorem nextOf_len (c : Circ) (st ins : List Bool) : (nextOf c st ins).length = c.f1.length := List.length_map ..
theorem badsOf_len (c : Circ) (st ins : List Bool) : (badsOf c st ins).length = c.f3.length := List.length_map ..
theorem frames_len (c : Circ) : ∀ (l : List (List Bool)) (st : List Bool), (frames c st l).length = l.length
  | [], _ => rfl
  | i :: r, st => by simp [frames, frames_len c r]
theorem frames_take (c : Circ) : ∀ (l : List (List Bool)) (st : List Bool) (n : Nat), frames c st (l.take n) = (frames c st l).take n
  | [], _, n => by simp [frames]
  | i :: r, st, 0 => by simp [frames]
  | i :: r, st, n + 1 => by simp [frames, frames_take c r]
/-- The state that the frame k has. -/
def stateAt (c : Circ) : List Bool → List (List Bool) → List Bool
  | st, [] => st
  | st, i :: r => stateAt c (nextOf c st i) r
theorem stateAt_step (c : Circ) : ∀ (l : List (List Bool)) (st : List Bool) (k : Nat) (hk : k < l.length), stateAt c st (l.take (k + 1)) = nextOf c (stateAt c st (l.take k)) l[k]
  | i :: r, st, 0, _ => by simp [stateAt]
  | i :: r, st, k + 1, hk => by
    simp only [List.take_succ_cons, stateAt, List.getElem_cons_succ]
    exact stateAt_step c r _ k (by simpa using hk)
theorem frames_at (c : Circ) : ∀ (l : List (List Bool)) (st : List Bool) (k : Nat) (hk : k < l.length) (hf : k < (frames c st l).length), (frames c st l)[k] = (stateAt c st (l.take k), holdsOf c (stateAt c st (l.take k)) l[k], badsOf c (stateAt c st (l.take k)) l[k])
  | i :: r, st, 0, _, _ => by simp [frames, stateAt]
  | i :: r, st, k + 1, hk, hf => by
    simp only [frames, List.getElem_cons_succ, List.take_succ_cons, stateAt]
    exact frames_at c r _ k (by simpa using hk) (by simpa [frames] using hf)
theorem stateAt_len (c : Circ) {st : List Bool} (h : st.length = c.f1.length) : ∀ (l : List (List Bool)), (stateAt c st l).length = c.f1.length
  | [] => h
  | i :: r => by
    rw [stateAt]
    exact stateAt_len c (nextOf_len c st i) r
theorem stop_here {go : Nat → Fr → Bool} : ∀ {F : List Fr} {i k : Nat} (hk : k < F.length) (hg : go (i + k) F[k] = false) (ha : ∀ j (hj : j < k), go (i + j) (F[j]'(by omega)) = true), stopAt go i F = i + k + 1
  | f :: fs, i, 0, hk, hg, ha => by
    rw [stopAt, if_neg (by simpa using hg)]
  | f :: fs, i, k + 1, hk, hg, ha => by
    have h0 := ha 0 (by omega)
    rw [stopAt, if_pos (by simpa using h0)]
    have h1 := stop_here (F := fs) (i := i + 1) (k := k) (by simpa using hk) (by have h_ := hg; simp only [List.getElem_cons_succ] at h_; rw [show i + 1 + k = i + (k + 1) by omega]; exact h_)
      (fun j hj => by have h_ := ha (j + 1) (by omega); simp only [List.getElem_cons_succ] at h_; rw [show i + 1 + j = i + (j + 1) by omega]; exact h_)
    rw [h1]; omega
theorem stop_end {go : Nat → Fr → Bool} : ∀ {F : List Fr} {i : Nat} (ha : ∀ j (hj : j < F.length), go (i + j) F[j] = true), stopAt go i F = i + F.length
  | [], i, ha => rfl
  | f :: fs, i, ha => by
    have h0 := ha 0 (by simp)
    rw [stopAt, if_pos (by simpa using h0)]
    have h1 := stop_end (F := fs) (i := i + 1) (fun j hj => by have h_ := ha (j + 1) (by simpa using hj); simp only [List.getElem_cons_succ] at h_; rw [show i + 1 + j = i + (j + 1) by omega]; exact h_)
    rw [h1, List.length_cons]; omega
theorem stopAt_le (go : Nat → Fr → Bool) : ∀ (F : List Fr) (i : Nat), i ≤ stopAt go i F ∧ stopAt go i F ≤ i + F.length
  | [], i => by simp [stopAt]
  | f :: fs, i => by
    have h := stopAt_le go fs (i + 1)
    rw [stopAt]
    split
    · simp only [List.length_cons]; omega
    · simp only [List.length_cons]; omega
end Go.Proofs.Ytpoadkogcdfglaa.PH

/- values.list, values.Next, values.Props. -/
namespace Go.Proofs.Ytpoadkogcdfglaa.PH
open Go.RowKit Go.Proofs.YtpoadkogcdfglaaW.PrintWords Go.Proofs.YtpoadkogcdfglaaW.PrintLast
set_option linter.unusedVariables false
set_option linter.unusedSimpArgs false

/-- A function that tells the literals of L. -/
def PLit (P : Program) (g : Nat) (lb : Array Value) (L : List Int) (w : World) : Prop :=
  ∀ (W : World) (i : Nat) (hi : i < L.length), Below w.heap.size w W → Calls P g (#[.int .i64 (i : Int)] ++ lb) W fun e w' => e = .returned (.int .i64 L[i]) ∧ Below W.heap.size W w'
/-- A new row of truth values comes back, and OK. -/
def RetVo (w w' : World) (l : List Bool) (e : Ending) : Prop := ∃ A cap, e = .returned (.tuple #[.slice A l.length cap, .int .i64 0]) ∧ Kd.R Kd.bool 4 w' w.heap.size (fun _ => True) (.slice A l.length cap) l ∧ Below w.heap.size w w'
set_option maxHeartbeats 4000000 in
set_option maxRecDepth 100000 in
theorem values_list (p : CP) (c : Circ) (B : Option Addr) (d : Nat) (st : List Bool) (B2 : Option Addr) (d2 : Nat) (ins : List Bool) (L : List Int) (g : Nat) (lb : Array Value) (w : World) (h : RC w p c) (hs : c.Fits) (h1 : RS Kd.bool w B d st) (h2 : RS Kd.bool w B2 d2 ins)
    (hc : check c = 0) (hl1 : st.length = c.f1.length) (hl2 : (ins.length : Int) = c.f0) (hL : ∀ x ∈ L, IsLit x ∧ x / 2 < (valsOf c st ins).length) (hn : L.length ≤ 4000000)
    (hp : PLit Try.prog g lb L w) (eg : ∀ args w, (callFunc g args).run Try.prog w = .ok (.enter g args) w) :
    Calls Try.prog 64 #[cv p c, .slice B st.length d, .slice B2 ins.length d2, .int .i64 (L.length : Int), .func (.func g) #[] lb] w fun e w' => RetVo w w' (L.map (litV (valsOf c st ins))) e := by
  have HA := Aside0.mk (fun W (hb : Below w.heap.size w W) => show Calls Try.prog 98 #[cv p c, .slice B st.length d, .slice B2 ins.length d2] W (fun e w' => RetVs W w' (valsOf c st ins) e) from values_All p c B d st B2 d2 ins W (h.below hb) hs (h1.below hb) (h2.below hb) hc hl1 hl2)
  have HL := Aside0.mk hL
  have HN := Aside0.mk hn
  have HP := Aside0.mk hp
  have BX := Aside0.mk (below_alloc (Below.refl w.heap.size w) (.cells #[.int .i64 c.f0, .slice p.A1 c.f1.length p.c1, .slice p.A2 c.f2.length p.c2, .slice p.A3 c.f3.length p.c3, .slice p.A4 c.f4.length p.c4] 26))
  have hu26 := Try.underlying26
  clear h hs h1 h2 hc hl1 hl2 hL hn hp
  generalize valsOf c st ins = vals at *
  go_enter Try.func64, Try.ntmps64
  go_wp2_with fail
  refine (HA.out _ BX.out).mono ?_
  rintro e w1 ⟨V, cap, rfl, hv, hb1⟩
  have BW := Aside0.mk (BX.out.trans (hb1.mono BX.out.size))
  have HV := Aside0.mk hv
  clear HA BX hb1 hv
  have hr0 := Aside0.mk (Kd.R_nil Kd.bool 4 w1 w1.heap.size (fun _ => True))
  go_wp2
  go_loopg [14, 15, 27] L.length (fun gg s14 s15 s27 w2 => ∃ (i : Nat) (O : Option Addr) (oc : Nat), s14 = .slice O i oc ∧ s27 = .int .i64 i ∧ Aside0 (i ≤ L.length ∧ L.length - i ≤ gg) ∧ Aside0 (Below w1.heap.size w1 w2) ∧ Aside0 (Kd.R Kd.bool 4 w2 w1.heap.size (fun _ => True) (.slice O i oc) ((L.take i).map (litV vals))))
  case atStart => exact ⟨0, none, 0, rfl, rfl, ⟨by omega, by omega⟩, ⟨Below.refl _ _⟩, hr0⟩
  case round =>
    obtain ⟨i, O, oc, rfl, rfl, HX, HB, HR⟩ := hrel
    by_cases hlt : i < L.length
    · have hy := HL.out L[i] (List.getElem_mem hlt)
      have HT := Aside0.mk (show (L.take (i + 1)).map (litV vals) = (L.take i).map (litV vals) ++ [litV vals L[i]] by rw [take_at hlt, List.map_append]; rfl)
      have HLT := Aside0.mk hlt
      have hcall := HP.out wr i hlt (BW.out.trans (HB.out.mono BW.out.size))
      generalize L[i] = y at *
      go_wp2_with fail
      refine hcall.mono ?_
      rintro e w3 ⟨rfl, hb3⟩
      clear hcall
      have HB3 := Aside0.mk (HB.out.trans (hb3.mono HB.out.size))
      have HR3 := Aside0.mk (Kd.R_below HR.out hb3)
      clear hb3 HR HB
      go_wp2_with fail
      refine (values_of V cap vals y _ (HV.out.below HB3.out) hy.1 hy.2).mono ?_
      rintro e w4 ⟨rfl, hb3⟩
      have HB4 := Aside0.mk (HB3.out.trans (hb3.mono HB3.out.size))
      have HR4 := Aside0.mk (Kd.R_below HR3.out hb3)
      clear hb3 HR3 HB3 hy
      generalize litV vals y = bb at *
      have HJ := Aside0.mk (show ((L.take i).map (litV vals) ++ [bb]).length = i + 1 by rw [List.length_append, List.length_map, List.length_take, Nat.min_eq_left (Nat.le_of_lt HLT.out)]; rfl)
      go_wp2_with (first | (at_builtin; go_loud (refine Kd.R_append Kd.bool (w0 := w1) w1.heap.size rfl (.tmp 30) (.tmp 36) 54 4 (.bool false) 1 rfl Try.underlying54 infoBool rfl (by decide) (by omega) (.slice O i oc) ((L.take i).map (litV vals)) bb [.bool bb] (fun _ => True) (fun _ => False) rfl rfl ?aP (fun _ h => h.elim) ?aF ?aO ?aB ?aS ?aL ?_); (case aP => exact rfl); (case aF => exact fun _ _ => trivial); (case aO => exact HR4.out); (case aB => exact HB4.out); (case aS => exact HB4.out.size); (case aL => rw [List.length_map, List.length_take]; have := HN.out; have := Nat.min_le_right i L.length; omega); intro v1 w6 ho hb hg hat; obtain ⟨V5, cap5, rfl, _, _⟩ := Kd.R_reads ho; rw [HJ.out] at ho ⊢))
      have HR6 := Aside0.mk (show Kd.R Kd.bool 4 w6 w1.heap.size (fun _ => True) (.slice V5 (i + 1) cap5) ((L.take (i + 1)).map (litV vals)) from by
        rw [HT.out]
        have h_ := ho
        exact h_)
      have HB6 := Aside0.mk hb
      clear ho hb hg hat HB4 HR4
      go_roundg (L.length - (i + 1))
      case measure => have := HX.out; have := HLT.out; omega
      case rel => exact ⟨i + 1, V5, cap5, rfl, val_step HLT.out (by have := HN.out; omega), ⟨HLT.out, by have := HX.out; omega⟩, HB6, HR6⟩
    · have hi : i = L.length := by have := HX.out.1; omega
      subst hi
      have hr := HR.out
      rw [List.take_length] at hr
      have HS := Aside0.mk hr
      clear HR hr
      go_wp2
      refine bodyPost_ret (results_tmp2 rfl _ _ _) rfl ?_
      exact ⟨O, oc, by rw [List.length_map]; rfl, by rw [List.length_map]; exact Kd.R_lower HS.out BW.out.size, BW.out.trans (HB.out.mono BW.out.size)⟩
/-! ### values.Next -/
set_option maxHeartbeats 2000000 in
set_option maxRecDepth 100000 in
theorem values_Next1 (p : CP) (c : Circ) (g : Nat) (i : Nat) (hi : i < c.f1.length) (w : World) (h : RC w p c) (hg : w.heap[g]? = some (.cells #[.int .i64 c.f0, .slice p.A1 c.f1.length p.c1, .slice p.A2 c.f2.length p.c2, .slice p.A3 c.f3.length p.c3, .slice p.A4 c.f4.length p.c4] 26 (0, 0))) :
    Calls Try.prog 67 #[.int .i64 (i : Int), .pointer (some ⟨g, 0, none⟩)] w fun e w' => e = .returned (.int .i64 c.f1[i].f0) ∧ Below w.heap.size w w' := by
  have hu26 := Try.underlying26
  have hu65 := Try.underlying45
  obtain ⟨ad, e1, hx, hy⟩ := at_latch h.s1.r i hi
  obtain ⟨g0, g1, g2, g3, g4⟩ := (blk5w hg).1
  generalize c.f1[i] = y at *
  rw [e1] at g1
  go_enter Try.func67, Try.ntmps67
  go_wp2
  go_ret
  exact ⟨rfl, Below.refl _ _⟩
set_option maxHeartbeats 2000000 in
set_option maxRecDepth 100000 in
theorem values_Props1 (p : CP) (c : Circ) (g : Nat) (i : Nat) (hi : i < c.f3.length) (w : World) (h : RC w p c) (hg : w.heap[g]? = some (.cells #[.int .i64 c.f0, .slice p.A1 c.f1.length p.c1, .slice p.A2 c.f2.length p.c2, .slice p.A3 c.f3.length p.c3, .slice p.A4 c.f4.length p.c4] 26 (0, 0))) :
    Calls Try.prog 65 #[.int .i64 (i : Int), .pointer (some ⟨g, 0, none⟩)] w fun e w' => e = .returned (.int .i64 c.f3[i]) ∧ Below w.heap.size w w' := by
  have hu26 := Try.underlying26
  obtain ⟨ad, e1, hx⟩ := at_int h.s3.r i hi
  obtain ⟨g0, g1, g2, g3, g4⟩ := (blk5w hg).1
  generalize c.f3[i] = y at *
  rw [e1] at g3
  go_enter Try.func65, Try.ntmps65
  go_wp2
  go_ret
  exact ⟨rfl, Below.refl _ _⟩
set_option maxHeartbeats 2000000 in
set_option maxRecDepth 100000 in
theorem values_Props2 (p : CP) (c : Circ) (g : Nat) (i : Nat) (hi : i < c.f4.length) (w : World) (h : RC w p c) (hg : w.heap[g]? = some (.cells #[.int .i64 c.f0, .slice p.A1 c.f1.length p.c1, .slice p.A2 c.f2.length p.c2, .slice p.A3 c.f3.length p.c3, .slice p.A4 c.f4.length p.c4] 26 (0, 0))) :
    Calls Try.prog 66 #[.int .i64 (i : Int), .pointer (some ⟨g, 0, none⟩)] w fun e w' => e = .returned (.int .i64 c.f4[i]) ∧ Below w.heap.size w w' := by
  have hu26 := Try.underlying26
  obtain ⟨ad, e1, hx⟩ := at_int h.s4.r i hi
  obtain ⟨g0, g1, g2, g3, g4⟩ := (blk5w hg).1
  generalize c.f4[i] = y at *
  rw [e1] at g4
  go_enter Try.func66, Try.ntmps66
  go_wp2
  go_ret
  exact ⟨rfl, Below.refl _ _⟩
/-- The literals of a circuit that is right. -/
structure Lits (c : Circ) : Prop where
  l1 : ∀ x ∈ c.f1, IsLit x.f0 ∧ x.f0 / 2 < 1 + c.f0 + c.f1.length + c.f2.length
  l3 : ∀ x ∈ c.f3, IsLit x ∧ x / 2 < 1 + c.f0 + c.f1.length + c.f2.length
  l4 : ∀ x ∈ c.f4, IsLit x ∧ x / 2 < 1 + c.f0 + c.f1.length + c.f2.length
theorem out_lit {s l : Int} (hs : s ≤ 1001) (h : gOut s l = false) : IsLit l ∧ l / 2 < s := by
  unfold gOut at h
  simp only [Bool.or_eq_false_iff, decide_eq_false_iff_not] at h
  exact ⟨⟨by omega, by omega⟩, by omega⟩
theorem any_no {α : Type} {p : α → Bool} {l : List α} (h : ¬ l.any p = true) : ∀ x ∈ l, p x = false := fun x hx => by
  cases hp : p x
  · rfl
  · exact absurd (List.any_eq_true.2 ⟨x, hx, hp⟩) h
theorem check_lits {c : Circ} (h : check c = 0) : Lits c ∧ ∀ x ∈ c.f1, 0 ≤ x.f1 ∧ x.f1 ≤ 2 := by
  unfold check gCheck at h
  split at h
  · cases h
  split at h
  · cases h
  split at h
  · cases h
  split at h
  · cases h
  split at h
  · cases h
  split at h
  · cases h
  split at h
  · cases h
  rename_i h1 h2 h3 h4 h5 h6 h7
  have hS : 1 + c.f0 + (c.f1.length : Int) + (c.f2.length : Int) ≤ 1001 := by omega
  refine ⟨⟨fun x hx => ?_, fun x hx => out_lit hS (any_no h5 x hx), fun x hx => out_lit hS (any_no h6 x hx)⟩, fun x hx => ?_⟩
  · have h8 := any_no h7 x hx
    unfold gWrong at h8
    simp only [Bool.or_eq_false_iff] at h8
    exact out_lit hS h8.1.1
  · have h8 := any_no h7 x hx
    unfold gWrong at h8
    simp only [Bool.or_eq_false_iff, decide_eq_false_iff_not] at h8
    omega
theorem check_few6 {c : Circ} (h : check c = 0) : c.f3.length ≤ 100 ∧ c.f4.length ≤ 100 := by
  unfold check gCheck at h
  split at h
  · cases h
  split at h
  · cases h
  split at h
  · cases h
  by_cases q : 100 < mx (c.f3.length : Int) (c.f4.length : Int)
  · rw [if_pos q] at h; cases h
  · unfold mx at q
    split at q <;> constructor <;> omega
set_option maxHeartbeats 4000000 in
set_option maxRecDepth 100000 in
theorem values_Next (p : CP) (c : Circ) (B : Option Addr) (d : Nat) (st : List Bool) (B2 : Option Addr) (d2 : Nat) (ins : List Bool) (w : World) (h : RC w p c) (hs : c.Fits) (h1 : RS Kd.bool w B d st) (h2 : RS Kd.bool w B2 d2 ins)
    (hc : check c = 0) (hl1 : st.length = c.f1.length) (hl2 : (ins.length : Int) = c.f0) (hL : Lits c) :
    Calls Try.prog 30 #[cv p c, .slice B st.length d, .slice B2 ins.length d2] w fun e w' => RetVo w w' (nextOf c st ins) e := by
  have hlen : ((valsOf c st ins).length : Int) = 1 + c.f0 + c.f1.length + c.f2.length := by
    unfold valsOf
    rw [truthFrom_len]
    simp only [List.length_cons, List.length_append]
    omega
  have BX := Aside0.mk (below_alloc (Below.refl w.heap.size w) (.cells #[.int .i64 c.f0, .slice p.A1 c.f1.length p.c1, .slice p.A2 c.f2.length p.c2, .slice p.A3 c.f3.length p.c3, .slice p.A4 c.f4.length p.c4] 26))
  have HB := Aside0.mk (blk_new w (.cells #[.int .i64 c.f0, .slice p.A1 c.f1.length p.c1, .slice p.A2 c.f2.length p.c2, .slice p.A3 c.f3.length p.c3, .slice p.A4 c.f4.length p.c4] 26))
  have HC := Aside0.mk (fun W (hb : Below w.heap.size w W) (hp : PLit Try.prog 67 #[.pointer (some ⟨w.heap.size, 0, none⟩)] (c.f1.map (fun x => x.f0)) W) => values_list p c B d st B2 d2 ins (c.f1.map (fun x => x.f0)) 67 #[.pointer (some ⟨w.heap.size, 0, none⟩)] W (h.below hb) hs (h1.below hb) (h2.below hb) hc hl1 hl2
    (fun x hx => by
      obtain ⟨y, hy, rfl⟩ := List.mem_map.1 hx
      have h_ := hL.l1 y hy
      exact ⟨h_.1, by omega⟩) (by rw [List.length_map]; exact hs.h1) hp (enters_fn Try.func67 rfl rfl))
  have HH := Aside0.mk h
  have hu26 := Try.underlying26
  have hmf : ∀ (fn : Fn) (first cap : Array Value) (w : World), (Instr.makeFunc fn first cap).run Try.prog w = .ok (.func fn first cap) w := fun _ _ _ _ => rfl
  have HX : Aside0 (nextOf c st ins = (c.f1.map (fun x => x.f0)).map (litV (valsOf c st ins))) := ⟨by unfold nextOf; rw [List.map_map]; rfl⟩
  rw [HX.out]
  obtain ⟨g0, g1, g2, g3, g4⟩ := (blk5w HB.out).1
  clear h hs h1 h2 hc hl1 hl2 hL hlen
  go_enter Try.func30, Try.ntmps30
  go_wp2_with fail
  have HC1 := HC.out _ BX.out (fun W i hi hb => by
    have hi2 : i < c.f1.length := by rw [List.length_map] at hi; exact hi
    have h_ := values_Next1 p c w.heap.size i hi2 W (HH.out.below (BX.out.trans (hb.mono BX.out.size))) (blk_below HB.out hb)
    simpa using h_)
  rw [List.length_map] at HC1
  refine HC1.mono ?_
  rintro e w1 ⟨V, cap, rfl, hv, hb1⟩
  have HV := Aside0.mk hv
  have HB1 := Aside0.mk hb1
  clear hv hb1 HC1
  go_wp2
  refine bodyPost_ret (results_tmp2 rfl _ _ _) rfl ?_
  exact ⟨V, cap, by simp only [List.length_map]; rfl, Kd.R_lower HV.out BX.out.size, BX.out.trans (HB1.out.mono BX.out.size)⟩
end Go.Proofs.Ytpoadkogcdfglaa.PH

/- slices.Index and Contains over truth values; values.Props. -/
namespace Go.Proofs.Ytpoadkogcdfglaa.PH
open Go.RowKit Go.Proofs.YtpoadkogcdfglaaW.PrintWords Go.Proofs.YtpoadkogcdfglaaW.PrintLast
set_option linter.unusedVariables false
set_option linter.unusedSimpArgs false

set_option maxHeartbeats 2000000 in
set_option maxRecDepth 100000 in
theorem slices_Index_bool (A : Option Addr) (c : Nat) (l : List Bool) (v : Bool) (w : World) (h : RS Kd.bool w A c l) :
    Calls Try.prog 63 #[.slice A l.length c, .bool v] w fun e w' => e = .returned (.int .i64 (firstIdx (fun x => v == x) l 0)) ∧ Below w.heap.size w w' := by
  have HR := Aside0.mk h
  have HM := Aside0.mk h.max
  clear h
  go_enter Try.func63, Try.ntmps63
  go_wp2
  go_loopg [5, 8] l.length (fun gg _ s8 wr => ∃ k : Nat, s8 = .int .i64 k ∧ Aside0 (k ≤ l.length ∧ l.length - k ≤ gg) ∧ Aside0 (Below w.heap.size w wr) ∧ Aside0 (∀ (j : Nat) (z : Bool), j < k → l[j]? = some z → (v == z) = false))
  case atStart => exact ⟨0, rfl, ⟨by omega, by omega⟩, ⟨Below.refl _ w⟩, ⟨fun j z hj _ => absurd hj (Nat.not_lt_zero _)⟩⟩
  case round =>
    obtain ⟨k, rfl, HX, BW, HA⟩ := hrel
    by_cases hlt : k < l.length
    · obtain ⟨ad, e1, hx⟩ := at_bool (HR.out.below BW.out).r k hlt
      cases e1
      have hget := Aside0.mk (List.getElem?_eq_getElem hlt)
      have HLT := Aside0.mk hlt
      generalize l[k] = x at *
      cases hq : (v == x) with
      | true =>
        have HQ := Aside0.mk hq
        go_wp2
        go_ret
        refine ⟨?_, BW.out⟩
        rw [firstIdx_hit (fun x => v == x) l 0 k x hget.out HQ.out (fun j z hj hz => HA.out j z hj hz)]
        simp
      | false =>
        have HQ := Aside0.mk hq
        go_wp2
        go_roundg (l.length - (k + 1))
        case measure => have := HX.out; have := HLT.out; omega
        case rel =>
          refine ⟨k + 1, val_step HLT.out HM.out, ⟨HLT.out, by have := HX.out; omega⟩, BW, ⟨fun j z hj hz => ?_⟩⟩
          by_cases e : j = k
          · subst e
            rw [hget.out] at hz
            injection hz with hz
            rw [← hz]; exact HQ.out
          · exact HA.out j z (by omega) hz
    · have HE : Aside0 (k = l.length) := ⟨by have := HX.out; omega⟩
      go_wp2
      go_ret
      refine ⟨?_, BW.out⟩
      have hno : ∀ z ∈ l, (v == z) = false := fun z hz => by
        obtain ⟨j, hj, e⟩ := List.getElem_of_mem hz
        exact HA.out j z (by rw [HE.out]; exact hj) (by rw [List.getElem?_eq_getElem hj, e])
      rw [firstIdx_miss (fun x => v == x) l 0 hno]
      rfl
theorem slices_Contains_bool (A : Option Addr) (c : Nat) (l : List Bool) (v : Bool) (w : World) (h : RS Kd.bool w A c l) :
    Calls Try.prog 60 #[.slice A l.length c, .bool v] w fun e w' => e = .returned (.bool (l.any (fun x => v == x))) ∧ Below w.heap.size w w' := by
  have H := Aside0.mk (slices_Index_bool A c l v w h)
  clear h
  have HN := Aside0.mk (firstIdx_nonneg (fun x => v == x) l 0 (by omega))
  go_enter Try.func60, Try.ntmps60
  go_wp2_with fail
  refine H.out.mono ?_
  rintro e w' ⟨rfl, hb'⟩
  go_wp2
  go_ret
  exact ⟨by rw [← HN.out]; first | rfl | simp, hb'⟩
/-- What values.Props answers: whether all constraints hold, the bad literals' values in a row. -/
def RetPp (w w' : World) (b : Bool) (l : List Bool) (e : Ending) : Prop := ∃ A cap, e = .returned (.tuple #[.bool b, .slice A l.length cap, .int .i64 0]) ∧ RS Kd.bool w' A cap l ∧ Below w.heap.size w w'
theorem all_any (l : List Bool) : (!(l.any (fun x => false == x))) = l.all id := by
  induction l with
  | nil => rfl
  | cons x xs ih => cases x <;> simp_all
set_option maxHeartbeats 4000000 in
set_option maxRecDepth 100000 in
theorem values_Props (p : CP) (c : Circ) (B : Option Addr) (d : Nat) (st : List Bool) (B2 : Option Addr) (d2 : Nat) (ins : List Bool) (w : World) (h : RC w p c) (hs : c.Fits) (h1 : RS Kd.bool w B d st) (h2 : RS Kd.bool w B2 d2 ins)
    (hc : check c = 0) (hl1 : st.length = c.f1.length) (hl2 : (ins.length : Int) = c.f0) (hL : Lits c) :
    Calls Try.prog 29 #[cv p c, .slice B st.length d, .slice B2 ins.length d2] w fun e w' => RetPp w w' (holdsOf c st ins) (badsOf c st ins) e := by
  have hlen : ((valsOf c st ins).length : Int) = 1 + c.f0 + c.f1.length + c.f2.length := by
    unfold valsOf
    rw [truthFrom_len]
    simp only [List.length_cons, List.length_append]
    omega
  have BX := Aside0.mk (below_alloc (Below.refl w.heap.size w) (.cells #[.int .i64 c.f0, .slice p.A1 c.f1.length p.c1, .slice p.A2 c.f2.length p.c2, .slice p.A3 c.f3.length p.c3, .slice p.A4 c.f4.length p.c4] 26))
  have HB := Aside0.mk (blk_new w (.cells #[.int .i64 c.f0, .slice p.A1 c.f1.length p.c1, .slice p.A2 c.f2.length p.c2, .slice p.A3 c.f3.length p.c3, .slice p.A4 c.f4.length p.c4] 26))
  have HC := Aside0.mk (fun (L : List Int) (g : Nat) W (hb : Below w.heap.size w W) (hx : ∀ x ∈ L, IsLit x ∧ x / 2 < 1 + c.f0 + c.f1.length + c.f2.length) (hn : L.length ≤ 4000000) (hp : PLit Try.prog g #[.pointer (some ⟨w.heap.size, 0, none⟩)] L W) (eg) => values_list p c B d st B2 d2 ins L g #[.pointer (some ⟨w.heap.size, 0, none⟩)] W (h.below hb) hs (h1.below hb) (h2.below hb) hc hl1 hl2
    (fun x hx_ => ⟨(hx x hx_).1, by have := (hx x hx_).2; omega⟩) hn hp eg)
  have HH := Aside0.mk h
  have HF := Aside0.mk (check_few6 hc)
  have HL := Aside0.mk hL
  have hu26 := Try.underlying26
  have hmf : ∀ (fn : Fn) (first cap : Array Value) (w : World), (Instr.makeFunc fn first cap).run Try.prog w = .ok (.func fn first cap) w := fun _ _ _ _ => rfl
  have HX : Aside0 (holdsOf c st ins = !((c.f4.map (litV (valsOf c st ins))).any (fun x => false == x))) := ⟨by rw [all_any, List.all_map]; rfl⟩
  obtain ⟨hd, hhd⟩ : ∃ b, holdsOf c st ins = b := ⟨_, rfl⟩
  rw [hhd] at HX ⊢
  have HY : Aside0 (badsOf c st ins = c.f3.map (litV (valsOf c st ins))) := ⟨rfl⟩
  rw [HY.out]
  generalize valsOf c st ins = vals at *
  obtain ⟨g0, g1, g2, g3, g4⟩ := (blk5w HB.out).1
  clear h hs h1 h2 hc hl1 hl2 hL hlen hhd HY
  go_enter Try.func29, Try.ntmps29
  go_wp2_with fail
  have HC1 := HC.out c.f3 65 _ BX.out HL.out.l3 (by have := HF.out; omega) (fun W i hi hb => by
    have h_ := values_Props1 p c w.heap.size i hi W (HH.out.below (BX.out.trans (hb.mono BX.out.size))) (blk_below HB.out hb)
    simpa using h_) (enters_fn Try.func65 rfl rfl)
  refine HC1.mono ?_
  rintro e w1 ⟨V, cap, rfl, hv, hb1⟩
  have HV := Aside0.mk (RS.of_R' hv)
  have BX1 := Aside0.mk (BX.out.trans (hb1.mono BX.out.size))
  have HB1 := Aside0.mk (blk_below HB.out hb1)
  clear hv hb1 HC1 g0 g1 g2 g3 g4
  obtain ⟨g0, g1, g2, g3, g4⟩ := (blk5w HB1.out).1
  go_wp2_with fail
  have HC2 := HC.out c.f4 66 _ BX1.out HL.out.l4 (by have := HF.out; omega) (fun W i hi hb => by
    have h_ := values_Props2 p c w.heap.size i hi W (HH.out.below (BX1.out.trans (hb.mono BX1.out.size))) (blk_below HB1.out hb)
    simpa using h_) (enters_fn Try.func66 rfl rfl)
  refine HC2.mono ?_
  rintro e w2 ⟨V2, cap2, rfl, hv2, hb2⟩
  have HV2 := Aside0.mk (RS.of_R' hv2)
  have HV := Aside0.mk (HV.out.below hb2)
  have BX2 := Aside0.mk (BX1.out.trans (hb2.mono BX1.out.size))
  clear hv2 hb2 HC2 g0 g1 g2 g3 g4
  go_wp2_with fail
  have HI := slices_Contains_bool V2 cap2 (c.f4.map (litV vals)) false _ HV2.out
  rw [List.length_map] at HI
  refine HI.mono ?_
  rintro e w3 ⟨rfl, hb3⟩
  have BX3 := Aside0.mk (BX2.out.trans (hb3.mono BX2.out.size))
  have HV := Aside0.mk (HV.out.below hb3)
  clear hb3 HI
  have hX := HX.out
  generalize (c.f4.map (litV vals)).any (fun x => false == x) = bb at *
  subst hX
  clear HX
  go_wp2
  refine bodyPost_ret (results_tmp3 rfl _ _ _) rfl ?_
  exact ⟨V, cap, by simp only [List.length_map]; rfl, HV.out, BX3.out⟩
end Go.Proofs.Ytpoadkogcdfglaa.PH
