/- Several texts in one: Vals, Values0, Values, TraceP, LOk, LiftP, Rows, HeadB, List, Props, LiftRow, Fits, RowIn, Starts, SameB, Args. -/
import Derived.Test.YtiafojcbllbepaaHFive
import Derived.Test.YtiafojcbllbepaaHRef02
import Derived.Test.YtiafojcbllbepaaHOpen
import Derived.Deep.RegionHeld3
import Derived.Deep.QuietTactic
import Derived.BigQuiet
import Derived.Test.YtiafojcbllbepaaHIdent
import Derived.Test.YtiafojcbllbepaaHLift1
import Derived.Test.YtiafojcbllbepaaHVar
import Derived.Test.YtiafojcbllbepaaHGates
import Derived.Laws.EntriesVeiled
import Derived.Test.YtiafojcbllbepaaHRowS
/- The values of variables, in plain Lean; a literal's parts. (For seats without preds: the same words as in Value, Sem, Lits, Put1.) -/
namespace Go.Proofs.Ytiafojcbllbepaa.PH
open Go.RowKit Go.Proofs.YtiafojcbllbepaaW.PrintWords Go.Proofs.YtiafojcbllbepaaW.PrintLast
set_option linter.unusedVariables false
set_option linter.unusedSimpArgs false

/-- A literal of at most 1000 variables. -/
def IsLit (l : Int) : Prop := 0 ≤ l ∧ l ≤ 2001
theorem and_nat : ∀ n : Nat, n < 2002 → bits .and .i64 (n : Int) 1 = (n : Int) % 2 := by decide +kernel
theorem and_one {l : Int} (h : IsLit l) : bits .and .i64 l 1 = l % 2 := by
  obtain ⟨n, rfl⟩ := Int.eq_ofNat_of_zero_le h.1
  exact and_nat n (by have := h.2; omega)
/-- The value of a literal among those of variables. -/
def litV (v : List Bool) (l : Int) : Bool := v.getD (l / 2).toNat false != (l % 2 == 1)
/-- The values behind some gates. -/
def truthFrom : List Gate → List Bool → List Bool
  | [], v => v
  | g :: gs, v => truthFrom gs (v ++ [litV v g.f0 && litV v g.f1])
theorem R_false (W : World) (base t : Nat) (hb : base ≤ W.heap.size) : Kd.R Kd.bool t (W.alloc (.cells #[.bool false] t)) base (fun _ => True) (.slice (some ⟨W.heap.size, 0, none⟩) 1 1) [false] :=
  ⟨fun _ _ => trivial, [.bool false], (by have h := World.ownsRow_lit (base := base) (e := t) (size := 1) W #[.bool false] 1 hb (by decide) rfl; simpa using h : (W.alloc (.cells #[.bool false] t)).ownsRow base t 1 (.slice (some ⟨W.heap.size, 0, none⟩) 1 1) 1 [.bool false]), Kd.reps_scalar (enc := Value.bool) [false]⟩
theorem litV_app (v t : List Bool) {l : Int} (h : 0 ≤ l) (hl : l / 2 < v.length) : litV (v ++ t) l = litV v l := by
  unfold litV
  rw [List.getD_eq_getElem?_getD, List.getD_eq_getElem?_getD, List.getElem?_append_left (by omega)]
theorem truthFrom_pre : ∀ (gs : List Gate) (v : List Bool), ∃ t, truthFrom gs v = v ++ t ∧ t.length = gs.length
  | [], v => ⟨[], by simp [truthFrom], rfl⟩
  | g :: gs, v => by
    obtain ⟨t, h1, h2⟩ := truthFrom_pre gs (v ++ [litV v g.f0 && litV v g.f1])
    exact ⟨(litV v g.f0 && litV v g.f1) :: t, by rw [truthFrom, h1]; simp, by simp [h2]⟩
theorem truthFrom_len (gs : List Gate) (v : List Bool) : (truthFrom gs v).length = v.length + gs.length := by
  obtain ⟨t, h1, h2⟩ := truthFrom_pre gs v
  rw [h1, List.length_append, h2]
theorem truthFrom_snoc : ∀ (gs : List Gate) (g : Gate) (v : List Bool), truthFrom (gs ++ [g]) v = truthFrom gs v ++ [litV (truthFrom gs v) g.f0 && litV (truthFrom gs v) g.f1]
  | [], g, v => by simp [truthFrom]
  | x :: xs, g, v => by simp only [List.cons_append, truthFrom]; exact truthFrom_snoc xs g _
theorem truthFrom_lit (gs : List Gate) (v : List Bool) {l : Int} (h : 0 ≤ l) (hl : l / 2 < v.length) : litV (truthFrom gs v) l = litV v l := by
  obtain ⟨t, h1, _⟩ := truthFrom_pre gs v
  rw [h1]
  exact litV_app v t h hl
/-- The gates are right, behind so many variables. -/
def Okg (s : Int) (ands : List Gate) : Prop := ∀ k (hk : k < ands.length), 0 ≤ ands[k].f1 ∧ ands[k].f1 ≤ ands[k].f0 ∧ ands[k].f0 < 2 * (s + k)
theorem okg_of : ∀ {s : Int} {gs : List Gate} {i : Int}, gAnds s gs i = true → Okg (s + i) gs
  | s, [], i, _ => fun k hk => by simp at hk
  | s, g :: gs, i, h => by
    unfold gAnds at h
    split at h
    · cases h
    split at h
    · cases h
    split at h
    · cases h
    · intro k hk
      cases k with
      | zero => exact ⟨by simp; omega, by simp; omega, by simp; omega⟩
      | succ k =>
        have := okg_of h k (by simpa using hk)
        simp only [List.getElem_cons_succ]
        refine ⟨this.1, this.2.1, ?_⟩
        have h3 := this.2.2
        push_cast
        omega
theorem truthFrom_more (a t : List Gate) (v : List Bool) : ∃ s, truthFrom (a ++ t) v = truthFrom a v ++ s := by
  have h : ∀ (a : List Gate) (v : List Bool), truthFrom (a ++ t) v = truthFrom t (truthFrom a v) := by
    intro a
    induction a with
    | nil => intro v; rfl
    | cons g gs ih => intro v; simp only [List.cons_append, truthFrom]; exact ih _
  obtain ⟨s, h1, _⟩ := truthFrom_pre t (truthFrom a v)
  exact ⟨s, (h a v).trans h1⟩
theorem gAnds_at {s : Int} : ∀ {gs : List Gate} {i : Int} (k : Nat) (hk : k < gs.length), gAnds s gs i = true → 0 ≤ gs[k].f1 ∧ gs[k].f1 ≤ gs[k].f0 ∧ gs[k].f0 < 2 * (s + (i + k))
  | g :: gs, i, 0, hk, h => by
    unfold gAnds at h
    split at h
    · cases h
    split at h
    · cases h
    split at h
    · cases h
    exact ⟨by simp; omega, by simp; omega, by simp; omega⟩
  | g :: gs, i, k + 1, hk, h => by
    unfold gAnds at h
    split at h
    · cases h
    split at h
    · cases h
    split at h
    · cases h
    have := gAnds_at (i := i + 1) k (by simpa using hk) h
    simp only [List.getElem_cons_succ]
    refine ⟨this.1, this.2.1, ?_⟩
    have h3 := this.2.2
    push_cast
    omega
theorem infoBool : (Try.prog.info? 4).map (fun i => (i.zero, i.size, i.bytes)) = some (some (.bool false), 1, 1) := by kernel_rfl
end Go.Proofs.Ytiafojcbllbepaa.PH

/- values.of, values.Of; a row of truth values in a block of its own, copy into it. -/
namespace Go.Proofs.Ytiafojcbllbepaa.PH
open Go.RowKit Go.Proofs.YtiafojcbllbepaaW.PrintWords Go.Proofs.YtiafojcbllbepaaW.PrintLast
set_option linter.unusedVariables false
set_option linter.unusedSimpArgs false

set_option maxHeartbeats 2000000 in
set_option maxRecDepth 100000 in
theorem values_of (A : Option Addr) (c : Nat) (v : List Bool) (l : Int) (w : World) (h : RS Kd.bool w A c v) (hl : IsLit l) (h1 : l / 2 < v.length) :
    Calls Try.prog 67 #[.slice A v.length c, .int .i64 l] w fun e w' => e = .returned (.bool (litV v l)) ∧ Below w.heap.size w w' := by
  obtain ⟨k, hk⟩ : ∃ k : Nat, l / 2 = (k : Int) := ⟨(l / 2).toNat, by have := hl.1; omega⟩
  have hkv : k < v.length := by omega
  have ha := and_one hl
  obtain ⟨ad, e1, hx⟩ := at_bool h.r k hkv
  cases e1
  have hR : litV v l = (v[k] != (l % 2 == 1)) := by
    unfold litV
    rw [hk, Int.toNat_natCast, List.getD_eq_getElem?_getD, List.getElem?_eq_getElem hkv]
    rfl
  rw [hR]
  generalize v[k] = b at *
  have hlt : (k : Int) < (v.length : Int) := by omega
  clear h1 hR
  go_enter Try.func67, Try.ntmps67
  go_wp2
  go_ret
  exact ⟨rfl, Below.refl _ _⟩
/-! ### A row of truth values in a block of its own -/
@[reducible] def bRow (l : List Bool) : Array Value := (l.map Value.bool).toArray
/-- What copy leaves in a row of truth values. -/
def over (xs ys : List Bool) (o : Nat) : List Bool := xs.take o ++ ys ++ xs.drop (o + ys.length)
theorem over_len {xs ys : List Bool} {o : Nat} (h : o + ys.length ≤ xs.length) : (over xs ys o).length = xs.length := by
  unfold over
  simp only [List.length_append, List.length_take, List.length_drop]
  omega
theorem RS.bools {w : World} {g : Nat} {l : List Bool} {c : Nat} (hc : l.length ≤ c) (hm : l.length ≤ 9223372036854775807) (h : w.heap[g]? = some (.cells (bRow l) 4 (0, 0))) : RS Kd.bool w (some ⟨g, 0, none⟩) c l :=
  RS.row hm hc (fun j p hj => ⟨[.bool p], rfl, rfl, fun i u hu => by
    cases i with
    | zero =>
      have e : Value.bool p = u := by simpa using hu
      subst e
      have h2 := blk_cell h j
      rw [show Kd.bool.sz = 1 from rfl, Nat.mul_one, Nat.add_zero, h2]
      simp [hj]
    | succ i => simp at hu⟩)
theorem copy_bools {ops : Array Oper} {rest : List Oper} {o : Oper} {a : Act} {Q : Exit → Act → World → Prop} {w0 W : World} (hgd : o.guard = none) (s x : Operand)
    (ho : o.op = .call { callee := .builtin .copy, args := #[s, x], argTypes := #[59, 59] }) (g off dl dc : Nat) (D : Option Addr) (xs ys : List Bool) (A : Option Addr) (c : Nat) (hs : a.eval s = .slice D dl dc) (hx : a.eval x = .slice A ys.length c)
    (HD : 0 < ys.length → D = some ⟨g, off, none⟩) (HL : ys.length ≤ dl) (HF : off + ys.length ≤ xs.length) (HG : w0.heap.size ≤ g) (HB : Below w0.heap.size w0 W) (HO : W.heap[g]? = some (.cells (bRow xs) 4 (0, 0))) (HR : RS Kd.bool W A c ys)
    (h : ∀ w1, w1.heap[g]? = some (.cells (bRow (over xs ys off)) 4 (0, 0)) → Below w0.heap.size w0 w1 → (∀ k, k ≠ g → w1.heap[k]? = W.heap[k]?) → w1.heap.size = W.heap.size → wpList Try.prog ops Q rest (a.put o.dst (.int .i64 (ys.length : Int))) w1) :
    wpList Try.prog ops Q (o :: rest) a W := by
  have fin : ∀ w1, (Builtin.copy_ #[59, 59] o.type #[.slice D dl dc, .slice A ys.length c]).run Try.prog W = .ok (goInt (ys.length : Int)) w1 → w1.heap[g]? = some (.cells (bRow (over xs ys off)) 4 (0, 0)) → Below w0.heap.size w0 w1 → (∀ k, k ≠ g → w1.heap[k]? = W.heap[k]?) → w1.heap.size = W.heap.size → wpList Try.prog ops Q (o :: rest) a W := by
    intro w1 hr h1 h2 h3 h4
    refine wpList_plain hgd fun K hK => ?_
    unfold Oper.wp execOp
    simp only [ho, resolve, invoke, builtin, Sem.run_bind, Sem.run_pure, Result.andThen_ok, List.map_toArray, List.map_cons, List.map_nil, hs, hx, hr]
    exact hK _ _ (h w1 h1 h2 h3 h4)
  have hinfo : (Try.prog.info? 4).map (·.size) = some 1 := by kernel_rfl
  by_cases h0 : ys.length = 0
  · have he : ys = [] := List.eq_nil_of_length_eq_zero h0
    refine fin W ?_ ?_ HB (fun _ _ => rfl) rfl
    · rw [h0]
      exact run_copy_none W _ _ _ 4 D A dl dc 0 c Try.underlying59 hinfo (by simp)
    · rw [he]; unfold over; simpa using HO
  · have hD := HD (by omega)
    subst hD
    obtain ⟨ad, hA, hc⟩ := HR.r.2.2 (by omega)
    have hkl : (ys.map Value.bool).length = ys.length := List.length_map ..
    have hsrc : ∀ j u, (ys.map Value.bool)[j]? = some u → W.cell? (ad.add j) = some u := by
      intro j u hu
      have hj : j < ys.length := by
        rcases Nat.lt_or_ge j ys.length with h | h
        · exact h
        · rw [List.getElem?_eq_none (by rw [hkl]; exact h)] at hu
          cases hu
      obtain ⟨ad2, e2, h2⟩ := at_bool HR.r j hj
      rw [hA] at e2
      cases e2
      rw [h2, ← hu]
      simp [hj]
    have hr := run_copy_cells (P := Try.prog) W 59 59 o.type 4 g off dl dc ad ys.length c (ys.map Value.bool) Try.underlying59 hinfo (by rw [hkl]; exact (Nat.min_eq_left HL).symm) hsrc
      (fun j hj => by rw [cell_of_row W g _ (bRow xs) 4 (0, 0) HO]; simp at hj ⊢; omega) (fun j _ => blk_frozen HO _) (by intro u hu; simp only [List.mem_map] at hu; obtain ⟨q, _, rfl⟩ := hu; rfl)
    obtain ⟨cur', h3, h4, h5⟩ := setCells_row (ys.map Value.bool) off W (bRow xs) HO (by simp; omega)
    obtain ⟨s1, s2, s3, s4⟩ := setCells_same g (ys.map Value.bool) off W
    have hfar : ∀ k, k ≠ g → (W.setCells g off (ys.map Value.bool)).heap[k]? = W.heap[k]? := fun k hk => setCells_far _ _ k hk
    refine fin _ (by rw [hA, hr, hkl]) ?_ ?_ hfar s4
    · rw [h3]
      have : cur' = bRow (over xs ys off) := by
        apply Array.ext'
        rw [h5]
        simp [over, List.map_take, List.map_drop]
      rw [this]
    · exact HB.trans ⟨s1, s2, s3, by rw [s4]; exact Nat.le_refl _, fun k hk => hfar k (by omega)⟩
end Go.Proofs.Ytiafojcbllbepaa.PH

/- values.All: the values of a circuit's variables in a frame. -/
namespace Go.Proofs.Ytiafojcbllbepaa.PH
open Go.RowKit Go.Proofs.YtiafojcbllbepaaW.PrintWords Go.Proofs.YtiafojcbllbepaaW.PrintLast
set_option linter.unusedVariables false
set_option linter.unusedSimpArgs false

theorem make_row (M : Nat) (hM : M ≤ 1000) (W : World) : (Instr.makeSlice 59 (.int .i64 ((M + 1 : Nat) : Int)) (.int .i64 ((M + 1 : Nat) : Int))).run Try.prog W = .ok (.slice (some ⟨W.heap.size, 0, none⟩) (M + 1) (M + 1)) (W.alloc (.cells (bRow (List.replicate (M + 1) false)) 4)) := by
  obtain ⟨i0, hi, hz⟩ := Option.map_eq_some_iff.1 infoBool
  simp only [Prod.mk.injEq] at hz
  obtain ⟨h0, h1, h2⟩ := hz
  have h := run_make (P := Try.prog) W 59 4 i0 _ Try.underlying59 hi h0 .i64 .i64 ((M + 1 : Nat) : Int) ((M + 1 : Nat) : Int) (by omega) (by omega) (by rw [h2]; omega) (by omega)
  rw [h1, Nat.mul_one] at h
  rw [show madeCells (Value.bool false).cells (Int.toNat ((M + 1 : Nat) : Int)) = bRow (List.replicate (M + 1) false) from ?_] at h
  · exact h
  · apply Array.ext'
    simp only [madeCells, bRow, Value.cells]
    simp [List.eq_replicate_iff]
    exact fun a _ => by rw [Nat.mod_one]; rfl
theorem rep_take (n k : Nat) : (List.replicate n false).take k = List.replicate (min k n) false := by simp
/-- The row before the gates. -/
theorem start_row (ins st : List Bool) (n : Nat) : over (over (List.replicate (1 + ins.length + st.length + n) false) ins 1) st (1 + ins.length) = (false :: (ins ++ st)) ++ List.replicate n false := by
  have h1 : over (List.replicate (1 + ins.length + st.length + n) false) ins 1 = (false :: ins) ++ List.replicate (st.length + n) false := by
    unfold over
    rw [List.take_replicate, List.drop_replicate, show min 1 (1 + ins.length + st.length + n) = 1 by omega, show 1 + ins.length + st.length + n - (1 + ins.length) = st.length + n by omega]
    simp
  rw [h1]
  unfold over
  rw [List.take_append_of_le_length (by simp; omega), List.take_of_length_le (by simp; omega), List.drop_append, List.drop_of_length_le (by simp; omega), List.drop_replicate]
  simp
  congr 1
  omega
theorem set_row (l : List Bool) (n : Nat) (b : Bool) (j : Nat) (hj : j = l.length) : (bRow (l ++ List.replicate (n + 1) false)).setIfInBounds j (.bool b) = bRow ((l ++ [b]) ++ List.replicate n false) := by
  subst hj
  apply Array.ext'
  simp [List.replicate_succ]
theorem row_at (l : List Bool) (n j : Nat) (hj : j = l.length) (hn : 0 < n) : (bRow (l ++ List.replicate n false))[j]? = some (.bool false) := by
  subst hj
  cases n with
  | zero => omega
  | succ n => simp [List.replicate_succ]
theorem truthFrom_take {gs : List Gate} {v : List Bool} {k : Nat} (hk : k < gs.length) : truthFrom (gs.take (k + 1)) v = truthFrom (gs.take k) v ++ [litV (truthFrom (gs.take k) v) gs[k].f0 && litV (truthFrom (gs.take k) v) gs[k].f1] := by
  rw [take_at hk, truthFrom_snoc]
theorem check_gands {c : Circ} (h : check c = 0) : gAnds (1 + c.f0 + c.f1.length) c.f2 0 = true := by
  unfold check gCheck at h
  by_cases hg : gAnds (1 + c.f0 + c.f1.length) c.f2 0 = true
  · exact hg
  · rw [if_neg hg] at h
    repeat' split at h
    all_goals cases h
theorem values_of2 (A : Option Addr) (c N : Nat) (v r : List Bool) (l : Int) (w : World) (h : RS Kd.bool w A c (v ++ r)) (hN : (v ++ r).length = N) (hl : IsLit l) (h1 : l / 2 < v.length) :
    Calls Try.prog 67 #[.slice A N c, .int .i64 l] w fun e w' => e = .returned (.bool (litV v l)) ∧ Below w.heap.size w w' := by
  subst hN
  have h_ := values_of A c (v ++ r) l w h hl (by rw [List.length_append]; omega)
  rwa [litV_app v r hl.1 h1] at h_
/-- A row of truth values comes back, and OK. -/
def RetVs (w w' : World) (l : List Bool) (e : Ending) : Prop := ∃ A cap, e = .returned (.tuple #[.slice A l.length cap, .int .i64 0]) ∧ RS Kd.bool w' A cap l ∧ Below w.heap.size w w'
/-- What holds in values.All: the circuit's box, the row of the values. -/
structure VaInv (w : World) (p : CP) (c : Circ) (g : Nat) (l : List Bool) (wr : World) : Prop where
  BW : Below w.heap.size w wr
  BC : wr.heap[w.heap.size]? = some (.cells #[.int .i64 c.f0, .slice p.A1 c.f1.length p.c1, .slice p.A2 c.f2.length p.c2, .slice p.A3 c.f3.length p.c3, .slice p.A4 c.f4.length p.c4] 26 (0, 0))
  BL : wr.heap[g]? = some (.cells (bRow l) 4 (0, 0))
theorem VaInv.below {w wr w2 : World} {p : CP} {c : Circ} {g : Nat} {l : List Bool} (h : VaInv w p c g l wr) (hb : Below wr.heap.size wr w2) : VaInv w p c g l w2 :=
  ⟨h.BW.trans (hb.mono h.BW.size), blk_below h.BC hb, blk_below h.BL hb⟩
set_option maxHeartbeats 4000000 in
set_option maxRecDepth 100000 in
theorem values_All (p : CP) (c : Circ) (B : Option Addr) (d : Nat) (st : List Bool) (B2 : Option Addr) (d2 : Nat) (ins : List Bool) (w : World) (h : RC w p c) (hs : c.Fits) (h1 : RS Kd.bool w B d st) (h2 : RS Kd.bool w B2 d2 ins)
    (hc : check c = 0) (hl1 : st.length = c.f1.length) (hl2 : (ins.length : Int) = c.f0) :
    Calls Try.prog 66 #[cv p c, .slice B st.length d, .slice B2 ins.length d2] w fun e w' => RetVs w w' (truthFrom c.f2 (false :: (ins ++ st))) e := by
  have hgc := gCheck_ok hc
  obtain ⟨V, hV⟩ : ∃ V : Nat, c.f0 + c.f1.length + c.f2.length = (V : Int) := ⟨(c.f0 + c.f1.length + c.f2.length).toNat, by omega⟩
  have HV := Aside0.mk (fun W (hb : Below w.heap.size w W) => by
    have h_ := gates_Vars p c W (h.below hb) hs
    rw [if_pos hc, hc, hV] at h_
    exact h_)
  have HOF := Aside0.mk (check_gands hc)
  have HRC := Aside0.mk h
  have HS := Aside0.mk h1
  have HI := Aside0.mk h2
  have HC := Aside0.mk hc
  have HL := Aside0.mk (And.intro hgc (And.intro hV (And.intro hl1 hl2)))
  have hu26 := Try.underlying26
  have hmk := make_row V (by omega)
  obtain ⟨F, hF⟩ : ∃ F, 1 + ins.length = F := ⟨_, rfl⟩
  obtain ⟨E, hE⟩ : ∃ E, F + st.length = E := ⟨_, rfl⟩
  have n2 : F ≤ E := hE ▸ Nat.le_add_right _ _
  have hn3 : E ≤ V + 1 := by omega
  have hn4 : E + c.f2.length = V + 1 := by omega
  have hwf : wrap64 (1 + (ins.length : Int)) = (F : Int) := (wrap_in (x := 1 + (ins.length : Int)) (by have := hgc.2.1; omega) (by have := hgc.2.1; omega)).trans (by omega)
  have hwe : wrap64 ((F : Int) + (st.length : Int)) = (E : Int) := (wrap_in (x := (F : Int) + (st.length : Int)) (by have := hgc.2.2; omega) (by have := hgc.2.2; omega)).trans (by omega)
  have hwv : wrap64 ((V : Int) + 1) = ((V + 1 : Nat) : Int) := by rw [wrap_in (by omega) (by omega)]; rfl
  obtain ⟨N, hN⟩ : ∃ N, V + 1 = N := ⟨_, rfl⟩
  rw [hN] at hmk hwv
  have n1 : 1 ≤ N := by omega
  have n3 : E ≤ N := hN ▸ hn3
  have HN := Aside0.mk (show V + 1 = N ∧ 1 + ins.length = F ∧ F + st.length = E ∧ E + c.f2.length = N from ⟨hN, hF, hE, hn4.trans hN⟩)
  obtain ⟨ad1, had1⟩ : ∃ ad1 : Nat → Option Addr, ∀ g, (if N = 1 then some (⟨g, 0, none⟩ : Addr) else some ⟨g, 1, none⟩) = ad1 g := ⟨fun g => _, fun _ => rfl⟩
  obtain ⟨ad2, had2⟩ : ∃ ad2 : Nat → Option Addr, ∀ g, (if E = F then some (⟨g, 0, none⟩ : Addr) else some ⟨g, F, none⟩) = ad2 g := ⟨fun g => _, fun _ => rfl⟩
  have HA1 := Aside0.mk had1
  have HA2 := Aside0.mk had2
  have HB0 := Aside0.mk (blk_new w (.cells #[.int .i64 c.f0, .slice p.A1 c.f1.length p.c1, .slice p.A2 c.f2.length p.c2, .slice p.A3 c.f3.length p.c3, .slice p.A4 c.f4.length p.c4] 26))
  have t1 : ((st.length : Int) != (c.f1.length : Int)) = false := bne_eq_false_iff_eq.mpr (by omega)
  have t2 : ((ins.length : Int) != c.f0) = false := bne_eq_false_iff_eq.mpr hl2
  clear h hs h1 h2 hc hl1 hl2 hV hgc hN hF hE hn3 hn4
  go_enter Try.func66, Try.ntmps66
  go_wp2_with fail
  refine (HV.out _ (below_alloc (Below.refl _ _) _)).mono ?_
  rintro e w1 ⟨rfl, hb1⟩
  have BC := Aside0.mk (blk_below HB0.out hb1)
  have BW := Aside0.mk (below_then (below_alloc (Below.refl w.heap.size w) _) (by simp) hb1)
  clear hb1 HB0 HV
  obtain ⟨g0, g1, g2, g3, g4⟩ := (blk5w BC.out).1
  have BL := Aside0.mk (blk_new w1 (.cells (bRow (List.replicate N false)) 4))
  have BC1 := Aside0.mk (blk_alloc BC.out (.cells (bRow (List.replicate N false)) 4))
  have BW1 := Aside0.mk (below_alloc BW.out (.cells (bRow (List.replicate N false)) 4))
  have HG := Aside0.mk BW.out.size
  go_wp2_with (first | ((with_reducible refine gate_dst (N := 40) rfl ?_); go_loud (refine copy_bools (w0 := w) rfl (.tmp 38) (.tmp 39) rfl w1.heap.size 1 (N - 1) (N - 1) (ad1 w1.heap.size) (List.replicate N false) ins B2 d2 rfl rfl ?cD ?cL ?cF ?cG BW1.out BL.out (HI.out.below BW1.out) ?_); (case cD => intro h0; rw [← HA1.out, if_neg (by have := HN.out; omega)]); (case cL => have := HN.out; omega); (case cF => rw [List.length_replicate]; have := HN.out; omega); (case cG => exact HG.out); intro w2 k1 k2 k3 k4; have BL2 := Aside0.mk k1; have BW2 := Aside0.mk k2; have BC2 := Aside0.mk ((k3 _ (Nat.ne_of_lt (blk_lt BC.out))).trans BC1.out); clear k1 k2 k3 k4) | ((with_reducible refine gate_dst (N := 54) rfl ?_); go_loud (refine copy_bools (w0 := w) rfl (.tmp 52) (.tmp 53) rfl w1.heap.size F (E - F) (E - F) (ad2 w1.heap.size) (over (List.replicate N false) ins 1) st B d rfl rfl ?cD ?cL ?cF ?cG BW2.out BL2.out (HS.out.below BW2.out) ?_); (case cD => intro h0; rw [← HA2.out, if_neg (by have := HN.out; omega)]); (case cL => have := HN.out; omega); (case cF => rw [over_len (by rw [List.length_replicate]; have := HN.out; omega), List.length_replicate]; have := HN.out; omega); (case cG => exact HG.out); intro w3 k1 k2 k3 k4; have BL3 := Aside0.mk k1; have BW3 := Aside0.mk k2; have BC3 := Aside0.mk ((k3 _ (Nat.ne_of_lt (blk_lt BC.out))).trans BC2.out); clear k1 k2 k3 k4; have h2_ := (blk5w BC3.out).1.2.2.1))
  have HV0 := Aside0.mk (show (false :: (ins ++ st)).length = E from by have := HN.out; simp only [List.length_cons, List.length_append]; omega)
  have I0 : Aside0 (VaInv w p c w1.heap.size ((false :: (ins ++ st)) ++ List.replicate c.f2.length false) w3) := ⟨⟨BW3.out, BC3.out, by
    have h_ := BL3.out
    rw [show N = 1 + ins.length + st.length + c.f2.length by have := HN.out; omega, show F = 1 + ins.length by have := HN.out; omega, start_row] at h_
    exact h_⟩⟩
  have HX := Aside0.mk (show w.heap.size < w1.heap.size from blk_lt BC.out)
  clear g0 g1 g2 g3 g4 BC BC1 BC2 BC3 BL BL2 BL3 BW BW1 BW2 BW3 HG HA1 HA2 had1 had2 h2_ hwv hwf hmk t1 t2
  generalize w1.heap.size = gR at *
  have HM := Aside0.mk HRC.out.s2.max
  rw [hwe]
  clear hwe
  go_loopg [12, 62] c.f2.length (fun gg s12 s62 wr => ∃ k : Nat, s62 = .int .i64 k ∧ Aside0 (k ≤ c.f2.length ∧ c.f2.length - k ≤ gg) ∧ Aside0 (VaInv w p c gR (truthFrom (c.f2.take k) (false :: (ins ++ st)) ++ List.replicate (c.f2.length - k) false) wr))
  case atStart => exact ⟨0, rfl, ⟨by omega, by omega⟩, I0⟩
  case round =>
    clear I0
    obtain ⟨k, rfl, HX2, I⟩ := hrel
    obtain ⟨g0, g1, g2, g3, g4⟩ := (blk5w I.out.BC).1
    by_cases hlt : k < c.f2.length
    · obtain ⟨ad, e1, hx, hy⟩ := at_gate (HRC.out.s2.below I.out.BW).r k hlt
      have hpt := gAnds_at k hlt HOF.out
      have HT := Aside0.mk (truthFrom_take (v := false :: (ins ++ st)) hlt)
      have hlen : (truthFrom (c.f2.take k) (false :: (ins ++ st))).length = E + k := by rw [truthFrom_len, HV0.out, List.length_take, Nat.min_eq_left (Nat.le_of_lt hlt)]
      have hall : (truthFrom (c.f2.take k) (false :: (ins ++ st)) ++ List.replicate (c.f2.length - k) false).length = N := by rw [List.length_append, hlen, List.length_replicate]; have := HN.out; omega
      have HLT := Aside0.mk hlt
      have hRS := RS.bools (c := N) (by rw [hall]; exact Nat.le_refl _) (by rw [hall]; have := HN.out; have := HL.out.1.2.2; have := HL.out.2.1; omega) I.out.BL
      have hE := HN.out
      have hF0 := HL.out.1
      have hV0 := HL.out.2.1
      have l0 : IsLit c.f2[k].f0 := ⟨by omega, by omega⟩
      have l1 : IsLit c.f2[k].f1 := ⟨by omega, by omega⟩
      generalize c.f2[k] = g at *
      have C0 := Aside0.mk (fun W (hb : Below wr.heap.size wr W) => values_of2 _ N N _ _ g.f0 W (hRS.below hb) hall l0 (by rw [hlen]; omega))
      have C1 := Aside0.mk (fun W (hb : Below wr.heap.size wr W) => values_of2 _ N N _ _ g.f1 W (hRS.below hb) hall l1 (by rw [hlen]; omega))
      have hi1 : E + k < N := by omega
      have hcell : wr.cell? ⟨gR, E + k, none⟩ = some (.bool false) := by
        rw [blk_cell I.out.BL, row_at _ _ _ hlen.symm (by omega)]
      have hix : wrap64 ((E : Int) + (k : Int)) = ((E + k : Nat) : Int) := (wrap_in (x := (E : Int) + (k : Int)) (by omega) (by omega)).trans (by omega)
      have hfz := blk_frozen I.out.BL (E + k)
      have HLN := Aside0.mk hlen
      clear hpt hlen hall hRS hE hF0 hV0 l0 l1
      generalize truthFrom (c.f2.take k) (false :: (ins ++ st)) = vals at *
      rw [e1] at g2
      clear e1
      cases hb0 : litV vals g.f0
      · have HB0 := Aside0.mk hb0
        clear hb0
        go_wp2_with fail
        refine (C0.out _ (Below.refl _ _)).mono ?_
        rintro e w4 ⟨rfl, hb4⟩
        rw [HB0.out]
        have I4 := Aside0.mk (I.out.below hb4)
        have hcell4 := pw_cell_below hb4 hcell
        have hfz4 := blk_frozen I4.out.BL (E + k)
        clear hb4 hcell hfz I g0 g1 g2 g3 g4 hx hy
        have BW5 := Aside0.mk (I4.out.BW)
        have hrow := Aside0.mk (set_row vals (c.f2.length - (k + 1)) false (E + k) HLN.out.symm)
        go_wp2
        go_roundg (c.f2.length - (k + 1))
        case measure => have := HX2.out; have := HLT.out; omega
        case rel => exact ⟨k + 1, val_step HLT.out HM.out, ⟨HLT.out, by have := HX2.out; omega⟩, ⟨⟨below_set I4.out.BW (Nat.le_of_lt HX.out), blk_far I4.out.BC (Nat.ne_of_lt HX.out) _, by
          have h_ := blk_set I4.out.BL (E + k) (.bool false)
          rw [show c.f2.length - k = (c.f2.length - (k + 1)) + 1 by have := HLT.out; omega, hrow.out] at h_
          rw [HT.out]
          simpa [HB0.out] using h_⟩⟩⟩
      · have HB0 := Aside0.mk hb0
        clear hb0
        go_wp2_with fail
        refine (C0.out _ (Below.refl _ _)).mono ?_
        rintro e w4 ⟨rfl, hb4⟩
        rw [HB0.out]
        have I4 := Aside0.mk (I.out.below hb4)
        have g2_ := pw_cell_below hb4 g2
        have hx_ := pw_cell_below hb4 hx
        have hy_ := pw_cell_below hb4 hy
        have hcell4 := pw_cell_below hb4 hcell
        have HB4 := Aside0.mk hb4
        clear hb4 hcell hfz I g0 g1 g2 g3 g4 hx hy
        go_wp2_with fail
        refine (C1.out _ HB4.out).mono ?_
        rintro e w5 ⟨rfl, hb5⟩
        have I5 := Aside0.mk (I4.out.below hb5)
        have hcell5 := pw_cell_below hb5 hcell4
        have hfz5 := blk_frozen I5.out.BL (E + k)
        clear hb5 hcell4 I4 g2_ hx_ hy_
        have BW5 := Aside0.mk (I5.out.BW)
        have hrow := Aside0.mk (set_row vals (c.f2.length - (k + 1)) (litV vals g.f1) (E + k) HLN.out.symm)
        go_wp2
        go_roundg (c.f2.length - (k + 1))
        case measure => have := HX2.out; have := HLT.out; omega
        case rel => exact ⟨k + 1, val_step HLT.out HM.out, ⟨HLT.out, by have := HX2.out; omega⟩, ⟨⟨below_set I5.out.BW (Nat.le_of_lt HX.out), blk_far I5.out.BC (Nat.ne_of_lt HX.out) _, by
          have h_ := blk_set I5.out.BL (E + k) (.bool (litV vals g.f1))
          rw [show c.f2.length - k = (c.f2.length - (k + 1)) + 1 by have := HLT.out; omega, hrow.out] at h_
          rw [HT.out]
          simpa [HB0.out] using h_⟩⟩⟩
    · have hk : k = c.f2.length := by have := HX2.out.1; omega
      subst hk
      have IF := Aside0.mk (show VaInv w p c gR (truthFrom c.f2 (false :: (ins ++ st))) wr from by
        have h_ := I.out
        rw [List.take_length, Nat.sub_self] at h_
        simpa using h_)
      have HLF := Aside0.mk (show (truthFrom c.f2 (false :: (ins ++ st))).length = N by rw [truthFrom_len, HV0.out]; exact HN.out.2.2.2)
      clear I
      go_wp2
      refine bodyPost_ret (results_tmp2 rfl _ _ _) rfl ?_
      refine ⟨some ⟨gR, 0, none⟩, N, ?_, RS.bools (by rw [HLF.out]; exact Nat.le_refl _) (by rw [HLF.out]; have := HN.out; have := HL.out.1.2.2; have := HL.out.2.1; omega) IF.out.BL, IF.out.BW⟩
      rw [HLF.out]
      rfl
end Go.Proofs.Ytiafojcbllbepaa.PH

/- Runs in plain Lean: the frames of a run, how far a walk goes over them. -/
namespace Go.Proofs.Ytiafojcbllbepaa.PH
open Go.RowKit Go.Proofs.YtiafojcbllbepaaW.PrintWords Go.Proofs.YtiafojcbllbepaaW.PrintLast
set_option linter.unusedVariables false
set_option linter.unusedSimpArgs false

def valsOf (c : Circ) (st ins : List Bool) : List Bool := truthFrom c.f2 (false :: (ins ++ st))
def nextOf (c : Circ) (st ins : List Bool) : List Bool := c.f1.map (fun x => litV (valsOf c st ins) x.f0)
def badsOf (c : Circ) (st ins : List Bool) : List Bool := c.f3.map (litV (valsOf c st ins))
def holdsOf (c : Circ) (st ins : List Bool) : Bool := c.f4.all (litV (valsOf c st ins))
/-- A frame: its state, whether it is allowed, its bad literals' values. -/
abbrev Fr := List Bool × Bool × List Bool
def frames (c : Circ) : List Bool → List (List Bool) → List Fr
  | _, [] => []
  | st, i :: r => (st, holdsOf c st i, badsOf c st i) :: frames c (nextOf c st i) r
/-- How many frames are walked. -/
def stopAt (go : Nat → Fr → Bool) : Nat → List Fr → Nat
  | i, [] => i
  | i, f :: fs => if go i f then stopAt go (i + 1) fs else i + 1
def startOk (q : Latch × Bool) : Bool := q.1.f1 == 2 || q.2 == (q.1.f1 == 1)
def startsB (c : Circ) (st : List Bool) : Bool := (c.f1.zip st).all startOk
/-- The error of a run. -/
def tCheck (c : Circ) (t : Run) : Int :=
  if check c ≠ 0 then check c else if 100 < t.f1.length then 4
  else if t.f1.length = 0 then 8 else if t.f0.length ≠ c.f1.length then 8 else if startsB c t.f0 = false then 8
  else if t.f1.any (fun l => (l.length : Int) != c.f0) = true then 8 else 0
theorem tCheck_ok {c : Circ} {t : Run} (h : tCheck c t = 0) : check c = 0 ∧ t.f1.length ≤ 100 ∧ 0 < t.f1.length ∧ t.f0.length = c.f1.length ∧ startsB c t.f0 = true ∧ ∀ l ∈ t.f1, (l.length : Int) = c.f0 := by
  unfold tCheck at h
  by_cases h1 : check c ≠ 0
  · rw [if_pos h1] at h; exact absurd h h1
  rw [if_neg h1] at h
  by_cases h2 : 100 < t.f1.length
  · rw [if_pos h2] at h; cases h
  rw [if_neg h2] at h
  by_cases h3 : t.f1.length = 0
  · rw [if_pos h3] at h; cases h
  rw [if_neg h3] at h
  by_cases h4 : t.f0.length ≠ c.f1.length
  · rw [if_pos h4] at h; cases h
  rw [if_neg h4] at h
  by_cases h5 : startsB c t.f0 = false
  · rw [if_pos h5] at h; cases h
  rw [if_neg h5] at h
  by_cases h6 : t.f1.any (fun l => (l.length : Int) != c.f0) = true
  · rw [if_pos h6] at h; cases h
  refine ⟨Classical.not_not.1 h1, by omega, by omega, Classical.not_not.1 h4, by simpa using h5, fun l hl => ?_⟩
  have h7 : t.f1.any (fun l => (l.length : Int) != c.f0) = false := by simpa using h6
  have h8 := List.any_eq_false.1 h7 l hl
  simpa using h8
theorem nextOf_len (c : Circ) (st ins : List Bool) : (nextOf c st ins).length = c.f1.length := List.length_map ..
theorem badsOf_len (c : Circ) (st ins : List Bool) : (badsOf c st ins).length = c.f3.length := List.length_map ..
theorem frames_len (c : Circ) : ∀ (l : List (List Bool)) (st : List Bool), (frames c st l).length = l.length
  | [], _ => rfl
  | i :: r, st => by simp [frames, frames_len c r]
theorem frames_take (c : Circ) : ∀ (l : List (List Bool)) (st : List Bool) (n : Nat), frames c st (l.take n) = (frames c st l).take n
  | [], _, n => by simp [frames]
  | i :: r, st, 0 => by simp [frames]
  | i :: r, st, n + 1 => by simp [frames, frames_take c r]
/-- The state that the frame k has. -/
def stateAt (c : Circ) : List Bool → List (List Bool) → List Bool
  | st, [] => st
  | st, i :: r => stateAt c (nextOf c st i) r
theorem stateAt_step (c : Circ) : ∀ (l : List (List Bool)) (st : List Bool) (k : Nat) (hk : k < l.length), stateAt c st (l.take (k + 1)) = nextOf c (stateAt c st (l.take k)) l[k]
  | i :: r, st, 0, _ => by simp [stateAt]
  | i :: r, st, k + 1, hk => by
    simp only [List.take_succ_cons, stateAt, List.getElem_cons_succ]
    exact stateAt_step c r _ k (by simpa using hk)
theorem frames_at (c : Circ) : ∀ (l : List (List Bool)) (st : List Bool) (k : Nat) (hk : k < l.length) (hf : k < (frames c st l).length), (frames c st l)[k] = (stateAt c st (l.take k), holdsOf c (stateAt c st (l.take k)) l[k], badsOf c (stateAt c st (l.take k)) l[k])
  | i :: r, st, 0, _, _ => by simp [frames, stateAt]
  | i :: r, st, k + 1, hk, hf => by
    simp only [frames, List.getElem_cons_succ, List.take_succ_cons, stateAt]
    exact frames_at c r _ k (by simpa using hk) (by simpa [frames] using hf)
theorem stateAt_len (c : Circ) {st : List Bool} (h : st.length = c.f1.length) : ∀ (l : List (List Bool)), (stateAt c st l).length = c.f1.length
  | [] => h
  | i :: r => by
    rw [stateAt]
    exact stateAt_len c (nextOf_len c st i) r
theorem stop_here {go : Nat → Fr → Bool} : ∀ {F : List Fr} {i k : Nat} (hk : k < F.length) (hg : go (i + k) F[k] = false) (ha : ∀ j (hj : j < k), go (i + j) (F[j]'(by omega)) = true), stopAt go i F = i + k + 1
  | f :: fs, i, 0, hk, hg, ha => by
    rw [stopAt, if_neg (by simpa using hg)]
  | f :: fs, i, k + 1, hk, hg, ha => by
    have h0 := ha 0 (by omega)
    rw [stopAt, if_pos (by simpa using h0)]
    have h1 := stop_here (F := fs) (i := i + 1) (k := k) (by simpa using hk) (by have h_ := hg; simp only [List.getElem_cons_succ] at h_; rw [show i + 1 + k = i + (k + 1) by omega]; exact h_)
      (fun j hj => by have h_ := ha (j + 1) (by omega); simp only [List.getElem_cons_succ] at h_; rw [show i + 1 + j = i + (j + 1) by omega]; exact h_)
    rw [h1]; omega
theorem stop_end {go : Nat → Fr → Bool} : ∀ {F : List Fr} {i : Nat} (ha : ∀ j (hj : j < F.length), go (i + j) F[j] = true), stopAt go i F = i + F.length
  | [], i, ha => rfl
  | f :: fs, i, ha => by
    have h0 := ha 0 (by simp)
    rw [stopAt, if_pos (by simpa using h0)]
    have h1 := stop_end (F := fs) (i := i + 1) (fun j hj => by have h_ := ha (j + 1) (by simpa using hj); simp only [List.getElem_cons_succ] at h_; rw [show i + 1 + j = i + (j + 1) by omega]; exact h_)
    rw [h1, List.length_cons]; omega
theorem stopAt_le (go : Nat → Fr → Bool) : ∀ (F : List Fr) (i : Nat), i ≤ stopAt go i F ∧ stopAt go i F ≤ i + F.length
  | [], i => by simp [stopAt]
  | f :: fs, i => by
    have h := stopAt_le go fs (i + 1)
    rw [stopAt]
    split
    · simp only [List.length_cons]; omega
    · simp only [List.length_cons]; omega
end Go.Proofs.Ytiafojcbllbepaa.PH

/- Lifts that are valid, in plain Lean. (For seats without preds: the same words as in ComposeP.) -/
namespace Go.Proofs.Ytiafojcbllbepaa.PH
open Go.RowKit Go.Proofs.YtiafojcbllbepaaW.PrintWords Go.Proofs.YtiafojcbllbepaaW.PrintLast
set_option linter.unusedVariables false
set_option linter.unusedSimpArgs false

/-- A lift that is valid. -/
structure LOk (fr tc : Circ) (l : Lf) : Prop where
  s0 : 0 ≤ l.f0
  s1 : l.f0 ≤ 100
  p0 : 1 ≤ l.f1
  p1 : l.f1 ≤ 4
  n2 : l.f2.length = fr.f1.length
  n4 : l.f4.length = tc.f1.length
  n3 : (l.f3.length : Int) = l.f0 + l.f1
  m2 : ∀ x ∈ l.f2, x = 0 ∨ x = 1 ∨ (2 * (tc.f0 + 1) ≤ x ∧ x < 2 * (tc.f0 + 1 + tc.f1.length))
  m3 : ∀ r ∈ l.f3, (r.length : Int) = fr.f0 ∧ ∀ x ∈ r, 0 ≤ x ∧ x % 2 = 0 ∧ x ≤ 2 * tc.f0
  m4 : ∀ x ∈ l.f4, x = -1 ∨ (2 * (fr.f0 + 1) ≤ x ∧ x < 2 * (fr.f0 + 1 + fr.f1.length))
  k : predCheck fr.f1.length l.f5 = 0
theorem LOk.of {fr tc : Circ} {l : Lf} (h : liftOk fr tc l = true) : LOk fr tc l := by
  unfold liftOk headOk at h
  simp only [Bool.and_eq_true, decide_eq_true_eq, List.all_eq_true] at h
  obtain ⟨⟨h1, h2, h3, h4, h5, h6, h7⟩, h8, h9, h10, h11⟩ := h
  refine ⟨h1, h2, h3, h4, h5, h6, h7, fun x hx => ?_, fun r hr => ?_, fun x hx => ?_, h11⟩
  · have := h8 x hx
    unfold fOk isL at this
    simpa using this
  · have := h9 r hr
    unfold rOk iOk at this
    simp only [Bool.and_eq_true, decide_eq_true_eq, List.all_eq_true] at this
    exact ⟨this.1, fun x hx => ⟨(this.2 x hx).1, (this.2 x hx).2.1, (this.2 x hx).2.2⟩⟩
  · have := h10 x hx
    unfold lOk isL at this
    simpa using this
/-- The place of a latch's literal. -/
theorem at_latch_lit {c : Circ} {x : Int} (h : check c = 0) (hx : 2 * (c.f0 + 1) ≤ x ∧ x < 2 * (c.f0 + 1 + c.f1.length)) : ∃ q : Nat, q < c.f1.length ∧ x / 2 - c.f0 - 1 = (q : Int) := by
  have h1 := gCheck_ok h
  exact ⟨(x / 2 - c.f0 - 1).toNat, by omega, by omega⟩
theorem getD_at {α : Type} {l : List α} {q : Nat} (h : q < l.length) (z : α) : l.getD q z = l[q] := by
  rw [List.getD_eq_getElem?_getD, List.getElem?_eq_getElem h]; rfl
end Go.Proofs.Ytiafojcbllbepaa.PH

/- Runs and proofs that are lifted, in plain Lean. -/
namespace Go.Proofs.Ytiafojcbllbepaa.PH
open Go.RowKit Go.Proofs.YtiafojcbllbepaaW.PrintWords Go.Proofs.YtiafojcbllbepaaW.PrintLast
set_option linter.unusedVariables false
set_option linter.unusedSimpArgs false

def bit (t : Bool) (x : Int) : Bool := t != decide (x % 2 = 1)
def liftV (tc : Circ) (t : List Bool) (x : Int) : Bool := decide (x = 1) || (decide (1 < x) && bit (t.getD (x / 2 - tc.f0 - 1).toNat false) x)
def liftB (ins : List Bool) (x : Int) : Bool := decide (0 < x) && ins.getD (x / 2 - 1).toNat false
def liftRow (r : List Int) (ins : List Bool) : List Bool := r.map (liftB ins)
/-- The rows of a frame's inputs. -/
def rowsOf (l : Lf) (n : Nat) : List (List Int) := if n = 0 then l.f3 else l.f3.drop l.f0.toNat
def liftIn (l : Lf) (n : Nat) (ins : List Bool) : List (List Bool) := (rowsOf l n).map (fun r => liftRow r ins)
def liftAll (l : Lf) : Nat → List (List Bool) → List (List Bool)
  | _, [] => []
  | n, i :: r => liftIn l n i ++ liftAll l (n + 1) r
/-- Go on: no bad literal is true. -/
def fine : Nat → Fr → Bool := fun _ f => !f.2.2.any (fun b => true == b)
def cutLen (c : Circ) (st : List Bool) (ins : List (List Bool)) : Nat := stopAt fine 0 (frames c st ins)
def liftRun (tc : Circ) (l : Lf) (t : Run) : Run := ⟨l.f2.map (liftV tc t.f0), liftAll l 0 t.f1⟩
def cutRun (c : Circ) (t : Run) : Run := ⟨t.f0, t.f1.take (cutLen c t.f0 t.f1)⟩
/-- The error of a lift. -/
def liftErr (fr tc : Circ) (l : Lf) : Int := if check fr ≠ 0 then check fr else if check tc ≠ 0 then check tc else if liftOk fr tc l = false then 8 else 0
def runFits (tc : Circ) (t : Run) : Bool := decide (t.f0.length = tc.f1.length) && (decide (0 < t.f1.length) && !t.f1.any (fun r => (r.length : Int) != tc.f0))
def traceC (fr tc : Circ) (l : Lf) (t : Run) : Run × Int :=
  if liftErr fr tc l ≠ 0 then (⟨[], []⟩, liftErr fr tc l)
  else if runFits tc t = false then (⟨[], []⟩, 8)
  else if 100 < t.f1.length ∨ 100 < l.f0 + l.f1 * t.f1.length then (⟨[], []⟩, 4)
  else (cutRun fr (liftRun tc l t), 0)
theorem liftAll_snoc (l : Lf) : ∀ (a : List (List Bool)) (n : Nat) (i : List Bool), liftAll l n (a ++ [i]) = liftAll l n a ++ liftIn l (n + a.length) i
  | [], n, i => by simp [liftAll]
  | x :: a, n, i => by
    rw [List.cons_append, liftAll, liftAll, liftAll_snoc l a (n + 1) i, List.append_assoc]
    simp only [List.length_cons]
    rw [show n + 1 + a.length = n + (a.length + 1) by omega]
theorem liftAll_take (l : Lf) (t : List (List Bool)) (k : Nat) (hk : k < t.length) : liftAll l 0 (t.take (k + 1)) = liftAll l 0 (t.take k) ++ liftIn l k t[k] := by
  rw [take_at hk, liftAll_snoc, List.length_take, Nat.min_eq_left (by omega), Nat.zero_add]
theorem liftErr_ok {fr tc : Circ} {l : Lf} (h : liftErr fr tc l = 0) : check fr = 0 ∧ check tc = 0 ∧ liftOk fr tc l = true := by
  unfold liftErr at h
  by_cases h1 : check fr = 0
  · rw [if_neg (by simp [h1])] at h
    by_cases h2 : check tc = 0
    · rw [if_neg (by simp [h2])] at h
      cases h3 : liftOk fr tc l with
      | true => exact ⟨h1, h2, rfl⟩
      | false => rw [if_pos h3] at h; cases h
    · rw [if_pos h2] at h; exact absurd h h2
  · rw [if_pos h1] at h; exact absurd h h1
theorem runFits_ok {tc : Circ} {t : Run} (h : runFits tc t = true) : t.f0.length = tc.f1.length ∧ 0 < t.f1.length ∧ ∀ r ∈ t.f1, (r.length : Int) = tc.f0 := by
  unfold runFits at h
  simp only [Bool.and_eq_true, decide_eq_true_eq, Bool.not_eq_true'] at h
  refine ⟨h.1, h.2.1, fun r hr => ?_⟩
  have h8 := List.any_eq_false.1 h.2.2 r hr
  simpa using h8
end Go.Proofs.Ytiafojcbllbepaa.PH

/- slices.IndexFunc and ContainsFunc over rows of truth values. -/
namespace Go.Proofs.Ytiafojcbllbepaa.PH
open Go.RowKit Go.Proofs.YtiafojcbllbepaaW.PrintWords
set_option linter.unusedVariables false
set_option linter.unusedSimpArgs false
attribute [local go_sem] max_pair min_pair

def PRow (P : Program) (g : Nat) (lb : Array Value) (p : List Bool → Bool) (w : World) : Prop :=
  ∀ (W : World) (B : Option Addr) (d : Nat) (x : List Bool), Below w.heap.size w W → RS Kd.bool W B d x → Calls P g (#[.slice B x.length d] ++ lb) W fun e w' => e = .returned (.bool (p x)) ∧ Below W.heap.size W w'
set_option maxHeartbeats 2000000 in
theorem slices_IndexFunc_row (A : Option Addr) (c : Nat) (l : List (List Bool)) (p : List Bool → Bool) (g : Nat) (lb : Array Value) (w : World) (h : RS (Kd.slice 4 Kd.bool) w A c l)
    (hp : PRow Try.prog g lb p w) (eg : ∀ args w, (callFunc g args).run Try.prog w = .ok (.enter g args) w) :
    Calls Try.prog 64 #[.slice A l.length c, .func (.func g) #[] lb] w fun e w' => e = .returned (.int .i64 (firstIdx p l 0)) ∧ Below w.heap.size w w' := by
  have HR := Aside0.mk h
  have HP := Aside0.mk hp
  have HM := Aside0.mk h.max
  clear h hp
  go_enter Try.func64, Try.ntmps64
  go_wp2
  go_loopg [5, 8] l.length (fun gg _ s8 wr => ∃ k : Nat, s8 = .int .i64 k ∧ Aside0 (k ≤ l.length ∧ l.length - k ≤ gg) ∧ Aside0 (Below w.heap.size w wr) ∧ Aside0 (∀ (j : Nat) (z : List Bool), j < k → l[j]? = some z → p z = false))
  case atStart => exact ⟨0, rfl, ⟨by omega, by omega⟩, ⟨Below.refl _ w⟩, ⟨fun j z hj _ => absurd hj (Nat.not_lt_zero _)⟩⟩
  case round =>
    obtain ⟨k, rfl, HX, BW, HA⟩ := hrel
    by_cases hlt : k < l.length
    · obtain ⟨ad, B, cB, e1, hx, hrow⟩ := at_row (HR.out.below BW.out).r k hlt
      cases e1
      have hget := Aside0.mk (List.getElem?_eq_getElem hlt)
      have hcall := HP.out wr B cB l[k] BW.out hrow
      have HLT := Aside0.mk hlt
      generalize l[k] = x at *
      clear hrow
      cases hq : p x with
      | true =>
        rw [hq] at hcall
        have HQ := Aside0.mk hq
        clear hq
        go_wp2_with fail
        refine hcall.mono ?_
        rintro e w' ⟨rfl, hb'⟩
        clear hcall
        go_wp2
        go_ret
        refine ⟨?_, BW.out.trans (hb'.mono BW.out.size)⟩
        rw [firstIdx_hit p l 0 k x hget.out HQ.out (fun j z hj hz => HA.out j z hj hz)]
        simp
      | false =>
        rw [hq] at hcall
        have HQ := Aside0.mk hq
        clear hq
        go_wp2_with fail
        refine hcall.mono ?_
        rintro e w' ⟨rfl, hb'⟩
        clear hcall
        go_wp2
        go_roundg (l.length - (k + 1))
        case measure => have := HX.out; have := HLT.out; omega
        case rel =>
          refine ⟨k + 1, val_step HLT.out HM.out, ⟨HLT.out, by have := HX.out; omega⟩, ⟨BW.out.trans (hb'.mono BW.out.size)⟩, ⟨fun j z hj hz => ?_⟩⟩
          by_cases e : j = k
          · subst e
            rw [hget.out] at hz
            injection hz with hz
            rw [← hz]; exact HQ.out
          · exact HA.out j z (by omega) hz
    · have HE : Aside0 (k = l.length) := ⟨by have := HX.out; omega⟩
      go_wp2
      go_ret
      refine ⟨?_, BW.out⟩
      have hno : ∀ z ∈ l, p z = false := fun z hz => by
        obtain ⟨j, hj, e⟩ := List.getElem_of_mem hz
        exact HA.out j z (by rw [HE.out]; exact hj) (by rw [List.getElem?_eq_getElem hj, e])
      rw [firstIdx_miss p l 0 hno]
      rfl
theorem slices_ContainsFunc_row (A : Option Addr) (c : Nat) (l : List (List Bool)) (p : List Bool → Bool) (g : Nat) (lb : Array Value) (w : World) (h : RS (Kd.slice 4 Kd.bool) w A c l)
    (hp : PRow Try.prog g lb p w) (eg : ∀ args w, (callFunc g args).run Try.prog w = .ok (.enter g args) w) :
    Calls Try.prog 47 #[.slice A l.length c, .func (.func g) #[] lb] w fun e w' => e = .returned (.bool (l.any p)) ∧ Below w.heap.size w w' := by
  have H := Aside0.mk (slices_IndexFunc_row A c l p g lb w h hp eg)
  clear h hp eg
  have HN := Aside0.mk (firstIdx_nonneg p l 0 (by omega))
  go_enter Try.func47, Try.ntmps47
  go_wp2_with fail
  refine H.out.mono ?_
  rintro e w' ⟨rfl, hb'⟩
  go_wp2
  go_ret
  exact ⟨by rw [← HN.out]; first | rfl | simp, hb'⟩
end Go.Proofs.Ytiafojcbllbepaa.PH

/- Rows of rows of truth values by their heads. -/
namespace Go.Proofs.Ytiafojcbllbepaa.PH
open Go.RowKit Go.Proofs.YtiafojcbllbepaaW.PrintWords Go.Proofs.YtiafojcbllbepaaW.PrintLast
set_option linter.unusedVariables false
set_option linter.unusedSimpArgs false

/-- The head of a row: address, length, capacity. -/
abbrev HeadB := Option Addr × Nat × Nat
def kHdB : Kd HeadB := Kd.scalar (fun a => Value.slice a.1 a.2.1 a.2.2) (fun _ => rfl)
structure HdB (w : World) (hs : List HeadB) (l : List (List Bool)) : Prop where
  n : hs.length = l.length
  r : ∀ (j : Nat) (x : HeadB) (y : List Bool), hs[j]? = some x → l[j]? = some y → x.2.1 = y.length ∧ RS Kd.bool w x.1 x.2.2 y
theorem HdB.below {w w1 : World} {hs : List HeadB} {l : List (List Bool)} (h : HdB w hs l) (hb : Below w.heap.size w w1) : HdB w1 hs l :=
  ⟨h.n, fun j x y h1 h2 => ⟨(h.r j x y h1 h2).1, (h.r j x y h1 h2).2.below hb⟩⟩
theorem HdB.append {w : World} {hs gs : List HeadB} {l m : List (List Bool)} (h : HdB w hs l) (g : HdB w gs m) : HdB w (hs ++ gs) (l ++ m) :=
  ⟨by simp [h.n, g.n], fun j x y h1 h2 => by
    by_cases hj : j < hs.length
    · rw [List.getElem?_append_left hj] at h1
      rw [List.getElem?_append_left (by rw [← h.n]; exact hj)] at h2
      exact h.r j x y h1 h2
    · rw [List.getElem?_append_right (by omega)] at h1
      rw [List.getElem?_append_right (by rw [← h.n]; omega), ← h.n] at h2
      exact g.r _ x y h1 h2⟩
/-- Heads that are read are a row of rows. -/
theorem HdB.to {w : World} {A : Option Addr} {c : Nat} {hs : List HeadB} {l : List (List Bool)} (h : RS kHdB w A c hs) (g : HdB w hs l) : RS (Kd.slice 4 Kd.bool) w A c l := by
  have hm := h.max
  refine ⟨⟨rfl, by rw [← g.n]; exact hm, fun h0 => ?_⟩, by rw [← g.n]; exact h.h⟩
  obtain ⟨ad, e, hc⟩ := h.r.2.2 (by rw [g.n]; exact h0)
  refine ⟨ad, e, fun j p hj => ?_⟩
  have hjl : j < hs.length := by rw [g.n]; exact (List.getElem?_eq_some_iff.1 hj).1
  obtain ⟨cs, h1, h2, h3⟩ := hc j hs[j] (List.getElem?_eq_getElem hjl)
  have hg := g.r j hs[j] p (List.getElem?_eq_getElem hjl) hj
  refine ⟨cs, h1, ?_, h3⟩
  have e2 : cs = [.slice hs[j].1 hs[j].2.1 hs[j].2.2] := h2
  rw [e2, hg.1]
  exact ⟨_, _, rfl, hg.2.h, hg.2.r⟩
end Go.Proofs.Ytiafojcbllbepaa.PH

/- values.list, values.Next, values.Props. -/
namespace Go.Proofs.Ytiafojcbllbepaa.PH
open Go.RowKit Go.Proofs.YtiafojcbllbepaaW.PrintWords Go.Proofs.YtiafojcbllbepaaW.PrintLast
set_option linter.unusedVariables false
set_option linter.unusedSimpArgs false

/-- A function that tells the literals of L. -/
def PLit (P : Program) (g : Nat) (lb : Array Value) (L : List Int) (w : World) : Prop :=
  ∀ (W : World) (i : Nat) (hi : i < L.length), Below w.heap.size w W → Calls P g (#[.int .i64 (i : Int)] ++ lb) W fun e w' => e = .returned (.int .i64 L[i]) ∧ Below W.heap.size W w'
/-- A new row of truth values comes back, and OK. -/
def RetVo (w w' : World) (l : List Bool) (e : Ending) : Prop := ∃ A cap, e = .returned (.tuple #[.slice A l.length cap, .int .i64 0]) ∧ Kd.R Kd.bool 4 w' w.heap.size (fun _ => True) (.slice A l.length cap) l ∧ Below w.heap.size w w'
set_option maxHeartbeats 4000000 in
set_option maxRecDepth 100000 in
theorem values_list (p : CP) (c : Circ) (B : Option Addr) (d : Nat) (st : List Bool) (B2 : Option Addr) (d2 : Nat) (ins : List Bool) (L : List Int) (g : Nat) (lb : Array Value) (w : World) (h : RC w p c) (hs : c.Fits) (h1 : RS Kd.bool w B d st) (h2 : RS Kd.bool w B2 d2 ins)
    (hc : check c = 0) (hl1 : st.length = c.f1.length) (hl2 : (ins.length : Int) = c.f0) (hL : ∀ x ∈ L, IsLit x ∧ x / 2 < (valsOf c st ins).length) (hn : L.length ≤ 4000000)
    (hp : PLit Try.prog g lb L w) (eg : ∀ args w, (callFunc g args).run Try.prog w = .ok (.enter g args) w) :
    Calls Try.prog 51 #[cv p c, .slice B st.length d, .slice B2 ins.length d2, .int .i64 (L.length : Int), .func (.func g) #[] lb] w fun e w' => RetVo w w' (L.map (litV (valsOf c st ins))) e := by
  have HA := Aside0.mk (fun W (hb : Below w.heap.size w W) => show Calls Try.prog 66 #[cv p c, .slice B st.length d, .slice B2 ins.length d2] W (fun e w' => RetVs W w' (valsOf c st ins) e) from values_All p c B d st B2 d2 ins W (h.below hb) hs (h1.below hb) (h2.below hb) hc hl1 hl2)
  have HL := Aside0.mk hL
  have HN := Aside0.mk hn
  have HP := Aside0.mk hp
  have BX := Aside0.mk (below_alloc (Below.refl w.heap.size w) (.cells #[.int .i64 c.f0, .slice p.A1 c.f1.length p.c1, .slice p.A2 c.f2.length p.c2, .slice p.A3 c.f3.length p.c3, .slice p.A4 c.f4.length p.c4] 26))
  have hu26 := Try.underlying26
  clear h hs h1 h2 hc hl1 hl2 hL hn hp
  generalize valsOf c st ins = vals at *
  go_enter Try.func51, Try.ntmps51
  go_wp2_with fail
  refine (HA.out _ BX.out).mono ?_
  rintro e w1 ⟨V, cap, rfl, hv, hb1⟩
  have BW := Aside0.mk (BX.out.trans (hb1.mono BX.out.size))
  have HV := Aside0.mk hv
  clear HA BX hb1 hv
  have hr0 := Aside0.mk (Kd.R_nil Kd.bool 4 w1 w1.heap.size (fun _ => True))
  go_wp2
  go_loopg [14, 15, 27] L.length (fun gg s14 s15 s27 w2 => ∃ (i : Nat) (O : Option Addr) (oc : Nat), s14 = .slice O i oc ∧ s27 = .int .i64 i ∧ Aside0 (i ≤ L.length ∧ L.length - i ≤ gg) ∧ Aside0 (Below w1.heap.size w1 w2) ∧ Aside0 (Kd.R Kd.bool 4 w2 w1.heap.size (fun _ => True) (.slice O i oc) ((L.take i).map (litV vals))))
  case atStart => exact ⟨0, none, 0, rfl, rfl, ⟨by omega, by omega⟩, ⟨Below.refl _ _⟩, hr0⟩
  case round =>
    obtain ⟨i, O, oc, rfl, rfl, HX, HB, HR⟩ := hrel
    by_cases hlt : i < L.length
    · have hy := HL.out L[i] (List.getElem_mem hlt)
      have HT := Aside0.mk (show (L.take (i + 1)).map (litV vals) = (L.take i).map (litV vals) ++ [litV vals L[i]] by rw [take_at hlt, List.map_append]; rfl)
      have HLT := Aside0.mk hlt
      have hcall := HP.out wr i hlt (BW.out.trans (HB.out.mono BW.out.size))
      generalize L[i] = y at *
      go_wp2_with fail
      refine hcall.mono ?_
      rintro e w3 ⟨rfl, hb3⟩
      clear hcall
      have HB3 := Aside0.mk (HB.out.trans (hb3.mono HB.out.size))
      have HR3 := Aside0.mk (Kd.R_below HR.out hb3)
      clear hb3 HR HB
      go_wp2_with fail
      refine (values_of V cap vals y _ (HV.out.below HB3.out) hy.1 hy.2).mono ?_
      rintro e w4 ⟨rfl, hb3⟩
      have HB4 := Aside0.mk (HB3.out.trans (hb3.mono HB3.out.size))
      have HR4 := Aside0.mk (Kd.R_below HR3.out hb3)
      clear hb3 HR3 HB3 hy
      generalize litV vals y = bb at *
      have HJ := Aside0.mk (show ((L.take i).map (litV vals) ++ [bb]).length = i + 1 by rw [List.length_append, List.length_map, List.length_take, Nat.min_eq_left (Nat.le_of_lt HLT.out)]; rfl)
      go_wp2_with (first | (at_builtin; go_loud (refine Kd.R_append Kd.bool (w0 := w1) w1.heap.size rfl (.tmp 30) (.tmp 36) 59 4 (.bool false) 1 rfl Try.underlying59 infoBool rfl (by decide) (by omega) (.slice O i oc) ((L.take i).map (litV vals)) bb [.bool bb] (fun _ => True) (fun _ => False) rfl rfl ?aP (fun _ h => h.elim) ?aF ?aO ?aB ?aS ?aL ?_); (case aP => exact rfl); (case aF => exact fun _ _ => trivial); (case aO => exact HR4.out); (case aB => exact HB4.out); (case aS => exact HB4.out.size); (case aL => rw [List.length_map, List.length_take]; have := HN.out; have := Nat.min_le_right i L.length; omega); intro v1 w6 ho hb hg hat; obtain ⟨V5, cap5, rfl, _, _⟩ := Kd.R_reads ho; rw [HJ.out] at ho ⊢))
      have HR6 := Aside0.mk (show Kd.R Kd.bool 4 w6 w1.heap.size (fun _ => True) (.slice V5 (i + 1) cap5) ((L.take (i + 1)).map (litV vals)) from by
        rw [HT.out]
        have h_ := ho
        exact h_)
      have HB6 := Aside0.mk hb
      clear ho hb hg hat HB4 HR4
      go_roundg (L.length - (i + 1))
      case measure => have := HX.out; have := HLT.out; omega
      case rel => exact ⟨i + 1, V5, cap5, rfl, val_step HLT.out (by have := HN.out; omega), ⟨HLT.out, by have := HX.out; omega⟩, HB6, HR6⟩
    · have hi : i = L.length := by have := HX.out.1; omega
      subst hi
      have hr := HR.out
      rw [List.take_length] at hr
      have HS := Aside0.mk hr
      clear HR hr
      go_wp2
      refine bodyPost_ret (results_tmp2 rfl _ _ _) rfl ?_
      exact ⟨O, oc, by rw [List.length_map]; rfl, by rw [List.length_map]; exact Kd.R_lower HS.out BW.out.size, BW.out.trans (HB.out.mono BW.out.size)⟩
/-! ### values.Next -/
set_option maxHeartbeats 2000000 in
set_option maxRecDepth 100000 in
theorem values_Next1 (p : CP) (c : Circ) (g : Nat) (i : Nat) (hi : i < c.f1.length) (w : World) (h : RC w p c) (hg : w.heap[g]? = some (.cells #[.int .i64 c.f0, .slice p.A1 c.f1.length p.c1, .slice p.A2 c.f2.length p.c2, .slice p.A3 c.f3.length p.c3, .slice p.A4 c.f4.length p.c4] 26 (0, 0))) :
    Calls Try.prog 54 #[.int .i64 (i : Int), .pointer (some ⟨g, 0, none⟩)] w fun e w' => e = .returned (.int .i64 c.f1[i].f0) ∧ Below w.heap.size w w' := by
  have hu26 := Try.underlying26
  have hu65 := Try.underlying49
  obtain ⟨ad, e1, hx, hy⟩ := at_latch h.s1.r i hi
  obtain ⟨g0, g1, g2, g3, g4⟩ := (blk5w hg).1
  generalize c.f1[i] = y at *
  rw [e1] at g1
  go_enter Try.func54, Try.ntmps54
  go_wp2
  go_ret
  exact ⟨rfl, Below.refl _ _⟩
set_option maxHeartbeats 2000000 in
set_option maxRecDepth 100000 in
theorem values_Props1 (p : CP) (c : Circ) (g : Nat) (i : Nat) (hi : i < c.f3.length) (w : World) (h : RC w p c) (hg : w.heap[g]? = some (.cells #[.int .i64 c.f0, .slice p.A1 c.f1.length p.c1, .slice p.A2 c.f2.length p.c2, .slice p.A3 c.f3.length p.c3, .slice p.A4 c.f4.length p.c4] 26 (0, 0))) :
    Calls Try.prog 52 #[.int .i64 (i : Int), .pointer (some ⟨g, 0, none⟩)] w fun e w' => e = .returned (.int .i64 c.f3[i]) ∧ Below w.heap.size w w' := by
  have hu26 := Try.underlying26
  obtain ⟨ad, e1, hx⟩ := at_int h.s3.r i hi
  obtain ⟨g0, g1, g2, g3, g4⟩ := (blk5w hg).1
  generalize c.f3[i] = y at *
  rw [e1] at g3
  go_enter Try.func52, Try.ntmps52
  go_wp2
  go_ret
  exact ⟨rfl, Below.refl _ _⟩
set_option maxHeartbeats 2000000 in
set_option maxRecDepth 100000 in
theorem values_Props2 (p : CP) (c : Circ) (g : Nat) (i : Nat) (hi : i < c.f4.length) (w : World) (h : RC w p c) (hg : w.heap[g]? = some (.cells #[.int .i64 c.f0, .slice p.A1 c.f1.length p.c1, .slice p.A2 c.f2.length p.c2, .slice p.A3 c.f3.length p.c3, .slice p.A4 c.f4.length p.c4] 26 (0, 0))) :
    Calls Try.prog 53 #[.int .i64 (i : Int), .pointer (some ⟨g, 0, none⟩)] w fun e w' => e = .returned (.int .i64 c.f4[i]) ∧ Below w.heap.size w w' := by
  have hu26 := Try.underlying26
  obtain ⟨ad, e1, hx⟩ := at_int h.s4.r i hi
  obtain ⟨g0, g1, g2, g3, g4⟩ := (blk5w hg).1
  generalize c.f4[i] = y at *
  rw [e1] at g4
  go_enter Try.func53, Try.ntmps53
  go_wp2
  go_ret
  exact ⟨rfl, Below.refl _ _⟩
/-- The literals of a circuit that is right. -/
structure Lits (c : Circ) : Prop where
  l1 : ∀ x ∈ c.f1, IsLit x.f0 ∧ x.f0 / 2 < 1 + c.f0 + c.f1.length + c.f2.length
  l3 : ∀ x ∈ c.f3, IsLit x ∧ x / 2 < 1 + c.f0 + c.f1.length + c.f2.length
  l4 : ∀ x ∈ c.f4, IsLit x ∧ x / 2 < 1 + c.f0 + c.f1.length + c.f2.length
theorem out_lit {s l : Int} (hs : s ≤ 1001) (h : gOut s l = false) : IsLit l ∧ l / 2 < s := by
  unfold gOut at h
  simp only [Bool.or_eq_false_iff, decide_eq_false_iff_not] at h
  exact ⟨⟨by omega, by omega⟩, by omega⟩
theorem any_no {α : Type} {p : α → Bool} {l : List α} (h : ¬ l.any p = true) : ∀ x ∈ l, p x = false := fun x hx => by
  cases hp : p x
  · rfl
  · exact absurd (List.any_eq_true.2 ⟨x, hx, hp⟩) h
theorem check_lits {c : Circ} (h : check c = 0) : Lits c ∧ ∀ x ∈ c.f1, 0 ≤ x.f1 ∧ x.f1 ≤ 2 := by
  unfold check gCheck at h
  split at h
  · cases h
  split at h
  · cases h
  split at h
  · cases h
  split at h
  · cases h
  split at h
  · cases h
  split at h
  · cases h
  split at h
  · cases h
  rename_i h1 h2 h3 h4 h5 h6 h7
  have hS : 1 + c.f0 + (c.f1.length : Int) + (c.f2.length : Int) ≤ 1001 := by omega
  refine ⟨⟨fun x hx => ?_, fun x hx => out_lit hS (any_no h5 x hx), fun x hx => out_lit hS (any_no h6 x hx)⟩, fun x hx => ?_⟩
  · have h8 := any_no h7 x hx
    unfold gWrong at h8
    simp only [Bool.or_eq_false_iff] at h8
    exact out_lit hS h8.1.1
  · have h8 := any_no h7 x hx
    unfold gWrong at h8
    simp only [Bool.or_eq_false_iff, decide_eq_false_iff_not] at h8
    omega
theorem check_few6 {c : Circ} (h : check c = 0) : c.f3.length ≤ 100 ∧ c.f4.length ≤ 100 := by
  unfold check gCheck at h
  split at h
  · cases h
  split at h
  · cases h
  split at h
  · cases h
  by_cases q : 100 < mx (c.f3.length : Int) (c.f4.length : Int)
  · rw [if_pos q] at h; cases h
  · unfold mx at q
    split at q <;> constructor <;> omega
set_option maxHeartbeats 4000000 in
set_option maxRecDepth 100000 in
theorem values_Next (p : CP) (c : Circ) (B : Option Addr) (d : Nat) (st : List Bool) (B2 : Option Addr) (d2 : Nat) (ins : List Bool) (w : World) (h : RC w p c) (hs : c.Fits) (h1 : RS Kd.bool w B d st) (h2 : RS Kd.bool w B2 d2 ins)
    (hc : check c = 0) (hl1 : st.length = c.f1.length) (hl2 : (ins.length : Int) = c.f0) (hL : Lits c) :
    Calls Try.prog 30 #[cv p c, .slice B st.length d, .slice B2 ins.length d2] w fun e w' => RetVo w w' (nextOf c st ins) e := by
  have hlen : ((valsOf c st ins).length : Int) = 1 + c.f0 + c.f1.length + c.f2.length := by
    unfold valsOf
    rw [truthFrom_len]
    simp only [List.length_cons, List.length_append]
    omega
  have BX := Aside0.mk (below_alloc (Below.refl w.heap.size w) (.cells #[.int .i64 c.f0, .slice p.A1 c.f1.length p.c1, .slice p.A2 c.f2.length p.c2, .slice p.A3 c.f3.length p.c3, .slice p.A4 c.f4.length p.c4] 26))
  have HB := Aside0.mk (blk_new w (.cells #[.int .i64 c.f0, .slice p.A1 c.f1.length p.c1, .slice p.A2 c.f2.length p.c2, .slice p.A3 c.f3.length p.c3, .slice p.A4 c.f4.length p.c4] 26))
  have HC := Aside0.mk (fun W (hb : Below w.heap.size w W) (hp : PLit Try.prog 54 #[.pointer (some ⟨w.heap.size, 0, none⟩)] (c.f1.map (fun x => x.f0)) W) => values_list p c B d st B2 d2 ins (c.f1.map (fun x => x.f0)) 54 #[.pointer (some ⟨w.heap.size, 0, none⟩)] W (h.below hb) hs (h1.below hb) (h2.below hb) hc hl1 hl2
    (fun x hx => by
      obtain ⟨y, hy, rfl⟩ := List.mem_map.1 hx
      have h_ := hL.l1 y hy
      exact ⟨h_.1, by omega⟩) (by rw [List.length_map]; exact hs.h1) hp (enters_fn Try.func54 rfl rfl))
  have HH := Aside0.mk h
  have hu26 := Try.underlying26
  have hmf : ∀ (fn : Fn) (first cap : Array Value) (w : World), (Instr.makeFunc fn first cap).run Try.prog w = .ok (.func fn first cap) w := fun _ _ _ _ => rfl
  have HX : Aside0 (nextOf c st ins = (c.f1.map (fun x => x.f0)).map (litV (valsOf c st ins))) := ⟨by unfold nextOf; rw [List.map_map]; rfl⟩
  rw [HX.out]
  obtain ⟨g0, g1, g2, g3, g4⟩ := (blk5w HB.out).1
  clear h hs h1 h2 hc hl1 hl2 hL hlen
  go_enter Try.func30, Try.ntmps30
  go_wp2_with fail
  have HC1 := HC.out _ BX.out (fun W i hi hb => by
    have hi2 : i < c.f1.length := by rw [List.length_map] at hi; exact hi
    have h_ := values_Next1 p c w.heap.size i hi2 W (HH.out.below (BX.out.trans (hb.mono BX.out.size))) (blk_below HB.out hb)
    simpa using h_)
  rw [List.length_map] at HC1
  refine HC1.mono ?_
  rintro e w1 ⟨V, cap, rfl, hv, hb1⟩
  have HV := Aside0.mk hv
  have HB1 := Aside0.mk hb1
  clear hv hb1 HC1
  go_wp2
  refine bodyPost_ret (results_tmp2 rfl _ _ _) rfl ?_
  exact ⟨V, cap, by simp only [List.length_map]; rfl, Kd.R_lower HV.out BX.out.size, BX.out.trans (HB1.out.mono BX.out.size)⟩
end Go.Proofs.Ytiafojcbllbepaa.PH

/- slices.Index and Contains over truth values; values.Props. -/
namespace Go.Proofs.Ytiafojcbllbepaa.PH
open Go.RowKit Go.Proofs.YtiafojcbllbepaaW.PrintWords Go.Proofs.YtiafojcbllbepaaW.PrintLast
set_option linter.unusedVariables false
set_option linter.unusedSimpArgs false

set_option maxHeartbeats 2000000 in
set_option maxRecDepth 100000 in
theorem slices_Index_bool (A : Option Addr) (c : Nat) (l : List Bool) (v : Bool) (w : World) (h : RS Kd.bool w A c l) :
    Calls Try.prog 65 #[.slice A l.length c, .bool v] w fun e w' => e = .returned (.int .i64 (firstIdx (fun x => v == x) l 0)) ∧ Below w.heap.size w w' := by
  have HR := Aside0.mk h
  have HM := Aside0.mk h.max
  clear h
  go_enter Try.func65, Try.ntmps65
  go_wp2
  go_loopg [5, 8] l.length (fun gg _ s8 wr => ∃ k : Nat, s8 = .int .i64 k ∧ Aside0 (k ≤ l.length ∧ l.length - k ≤ gg) ∧ Aside0 (Below w.heap.size w wr) ∧ Aside0 (∀ (j : Nat) (z : Bool), j < k → l[j]? = some z → (v == z) = false))
  case atStart => exact ⟨0, rfl, ⟨by omega, by omega⟩, ⟨Below.refl _ w⟩, ⟨fun j z hj _ => absurd hj (Nat.not_lt_zero _)⟩⟩
  case round =>
    obtain ⟨k, rfl, HX, BW, HA⟩ := hrel
    by_cases hlt : k < l.length
    · obtain ⟨ad, e1, hx⟩ := at_bool (HR.out.below BW.out).r k hlt
      cases e1
      have hget := Aside0.mk (List.getElem?_eq_getElem hlt)
      have HLT := Aside0.mk hlt
      generalize l[k] = x at *
      cases hq : (v == x) with
      | true =>
        have HQ := Aside0.mk hq
        go_wp2
        go_ret
        refine ⟨?_, BW.out⟩
        rw [firstIdx_hit (fun x => v == x) l 0 k x hget.out HQ.out (fun j z hj hz => HA.out j z hj hz)]
        simp
      | false =>
        have HQ := Aside0.mk hq
        go_wp2
        go_roundg (l.length - (k + 1))
        case measure => have := HX.out; have := HLT.out; omega
        case rel =>
          refine ⟨k + 1, val_step HLT.out HM.out, ⟨HLT.out, by have := HX.out; omega⟩, BW, ⟨fun j z hj hz => ?_⟩⟩
          by_cases e : j = k
          · subst e
            rw [hget.out] at hz
            injection hz with hz
            rw [← hz]; exact HQ.out
          · exact HA.out j z (by omega) hz
    · have HE : Aside0 (k = l.length) := ⟨by have := HX.out; omega⟩
      go_wp2
      go_ret
      refine ⟨?_, BW.out⟩
      have hno : ∀ z ∈ l, (v == z) = false := fun z hz => by
        obtain ⟨j, hj, e⟩ := List.getElem_of_mem hz
        exact HA.out j z (by rw [HE.out]; exact hj) (by rw [List.getElem?_eq_getElem hj, e])
      rw [firstIdx_miss (fun x => v == x) l 0 hno]
      rfl
theorem slices_Contains_bool (A : Option Addr) (c : Nat) (l : List Bool) (v : Bool) (w : World) (h : RS Kd.bool w A c l) :
    Calls Try.prog 49 #[.slice A l.length c, .bool v] w fun e w' => e = .returned (.bool (l.any (fun x => v == x))) ∧ Below w.heap.size w w' := by
  have H := Aside0.mk (slices_Index_bool A c l v w h)
  clear h
  have HN := Aside0.mk (firstIdx_nonneg (fun x => v == x) l 0 (by omega))
  go_enter Try.func49, Try.ntmps49
  go_wp2_with fail
  refine H.out.mono ?_
  rintro e w' ⟨rfl, hb'⟩
  go_wp2
  go_ret
  exact ⟨by rw [← HN.out]; first | rfl | simp, hb'⟩
/-- What values.Props answers: whether all constraints hold, the bad literals' values in a row. -/
def RetPp (w w' : World) (b : Bool) (l : List Bool) (e : Ending) : Prop := ∃ A cap, e = .returned (.tuple #[.bool b, .slice A l.length cap, .int .i64 0]) ∧ RS Kd.bool w' A cap l ∧ Below w.heap.size w w'
theorem all_any (l : List Bool) : (!(l.any (fun x => false == x))) = l.all id := by
  induction l with
  | nil => rfl
  | cons x xs ih => cases x <;> simp_all
set_option maxHeartbeats 4000000 in
set_option maxRecDepth 100000 in
theorem values_Props (p : CP) (c : Circ) (B : Option Addr) (d : Nat) (st : List Bool) (B2 : Option Addr) (d2 : Nat) (ins : List Bool) (w : World) (h : RC w p c) (hs : c.Fits) (h1 : RS Kd.bool w B d st) (h2 : RS Kd.bool w B2 d2 ins)
    (hc : check c = 0) (hl1 : st.length = c.f1.length) (hl2 : (ins.length : Int) = c.f0) (hL : Lits c) :
    Calls Try.prog 28 #[cv p c, .slice B st.length d, .slice B2 ins.length d2] w fun e w' => RetPp w w' (holdsOf c st ins) (badsOf c st ins) e := by
  have hlen : ((valsOf c st ins).length : Int) = 1 + c.f0 + c.f1.length + c.f2.length := by
    unfold valsOf
    rw [truthFrom_len]
    simp only [List.length_cons, List.length_append]
    omega
  have BX := Aside0.mk (below_alloc (Below.refl w.heap.size w) (.cells #[.int .i64 c.f0, .slice p.A1 c.f1.length p.c1, .slice p.A2 c.f2.length p.c2, .slice p.A3 c.f3.length p.c3, .slice p.A4 c.f4.length p.c4] 26))
  have HB := Aside0.mk (blk_new w (.cells #[.int .i64 c.f0, .slice p.A1 c.f1.length p.c1, .slice p.A2 c.f2.length p.c2, .slice p.A3 c.f3.length p.c3, .slice p.A4 c.f4.length p.c4] 26))
  have HC := Aside0.mk (fun (L : List Int) (g : Nat) W (hb : Below w.heap.size w W) (hx : ∀ x ∈ L, IsLit x ∧ x / 2 < 1 + c.f0 + c.f1.length + c.f2.length) (hn : L.length ≤ 4000000) (hp : PLit Try.prog g #[.pointer (some ⟨w.heap.size, 0, none⟩)] L W) (eg) => values_list p c B d st B2 d2 ins L g #[.pointer (some ⟨w.heap.size, 0, none⟩)] W (h.below hb) hs (h1.below hb) (h2.below hb) hc hl1 hl2
    (fun x hx_ => ⟨(hx x hx_).1, by have := (hx x hx_).2; omega⟩) hn hp eg)
  have HH := Aside0.mk h
  have HF := Aside0.mk (check_few6 hc)
  have HL := Aside0.mk hL
  have hu26 := Try.underlying26
  have hmf : ∀ (fn : Fn) (first cap : Array Value) (w : World), (Instr.makeFunc fn first cap).run Try.prog w = .ok (.func fn first cap) w := fun _ _ _ _ => rfl
  have HX : Aside0 (holdsOf c st ins = !((c.f4.map (litV (valsOf c st ins))).any (fun x => false == x))) := ⟨by rw [all_any, List.all_map]; rfl⟩
  obtain ⟨hd, hhd⟩ : ∃ b, holdsOf c st ins = b := ⟨_, rfl⟩
  rw [hhd] at HX ⊢
  have HY : Aside0 (badsOf c st ins = c.f3.map (litV (valsOf c st ins))) := ⟨rfl⟩
  rw [HY.out]
  generalize valsOf c st ins = vals at *
  obtain ⟨g0, g1, g2, g3, g4⟩ := (blk5w HB.out).1
  clear h hs h1 h2 hc hl1 hl2 hL hlen hhd HY
  go_enter Try.func28, Try.ntmps28
  go_wp2_with fail
  have HC1 := HC.out c.f3 52 _ BX.out HL.out.l3 (by have := HF.out; omega) (fun W i hi hb => by
    have h_ := values_Props1 p c w.heap.size i hi W (HH.out.below (BX.out.trans (hb.mono BX.out.size))) (blk_below HB.out hb)
    simpa using h_) (enters_fn Try.func52 rfl rfl)
  refine HC1.mono ?_
  rintro e w1 ⟨V, cap, rfl, hv, hb1⟩
  have HV := Aside0.mk (RS.of_R' hv)
  have BX1 := Aside0.mk (BX.out.trans (hb1.mono BX.out.size))
  have HB1 := Aside0.mk (blk_below HB.out hb1)
  clear hv hb1 HC1 g0 g1 g2 g3 g4
  obtain ⟨g0, g1, g2, g3, g4⟩ := (blk5w HB1.out).1
  go_wp2_with fail
  have HC2 := HC.out c.f4 53 _ BX1.out HL.out.l4 (by have := HF.out; omega) (fun W i hi hb => by
    have h_ := values_Props2 p c w.heap.size i hi W (HH.out.below (BX1.out.trans (hb.mono BX1.out.size))) (blk_below HB1.out hb)
    simpa using h_) (enters_fn Try.func53 rfl rfl)
  refine HC2.mono ?_
  rintro e w2 ⟨V2, cap2, rfl, hv2, hb2⟩
  have HV2 := Aside0.mk (RS.of_R' hv2)
  have HV := Aside0.mk (HV.out.below hb2)
  have BX2 := Aside0.mk (BX1.out.trans (hb2.mono BX1.out.size))
  clear hv2 hb2 HC2 g0 g1 g2 g3 g4
  go_wp2_with fail
  have HI := slices_Contains_bool V2 cap2 (c.f4.map (litV vals)) false _ HV2.out
  rw [List.length_map] at HI
  refine HI.mono ?_
  rintro e w3 ⟨rfl, hb3⟩
  have BX3 := Aside0.mk (BX2.out.trans (hb3.mono BX2.out.size))
  have HV := Aside0.mk (HV.out.below hb3)
  clear hb3 HI
  have hX := HX.out
  generalize (c.f4.map (litV vals)).any (fun x => false == x) = bb at *
  subst hX
  clear HX
  go_wp2
  refine bodyPost_ret (results_tmp3 rfl _ _ _) rfl ?_
  exact ⟨V, cap, by simp only [List.length_map]; rfl, HV.out, BX3.out⟩
end Go.Proofs.Ytiafojcbllbepaa.PH

/- lift.row. -/
namespace Go.Proofs.Ytiafojcbllbepaa.PH
open Go.RowKit Go.Proofs.YtiafojcbllbepaaW.PrintWords Go.Proofs.YtiafojcbllbepaaW.PrintLast
set_option linter.unusedVariables false
set_option linter.unusedSimpArgs false

/-- A row of truth values comes back. -/
def RetVr (w w' : World) (l : List Bool) (e : Ending) : Prop := ∃ A cap, e = .returned (.slice A l.length cap) ∧ Kd.R Kd.bool 4 w' w.heap.size (fun _ => True) (.slice A l.length cap) l ∧ Below w.heap.size w w'
/-- A row of the call's own begins at its block's head. -/
theorem row_head {α : Type} {d : Kd α} {e : Nat} {w : World} {base : Nat} {ok : Nat → Prop} {ad : Addr} {n cap : Nat} {xs : List α} (h : d.R e w base ok (.slice (some ad) n cap) xs) : ∃ g, ad = ⟨g, 0, none⟩ := by
  obtain ⟨_, inner, ho, hr⟩ := h
  rcases ho.2 with ⟨hv, _⟩ | ⟨g, cap', cur, hv, _⟩
  · cases hv
  · cases hv
    exact ⟨g, rfl⟩
/-- The row while it is written. -/
def lrAt (r : List Int) (ins : List Bool) (i : Nat) : List Bool := (r.take i).map (liftB ins) ++ List.replicate (r.length - i) false
theorem lrAt_zero (r : List Int) (ins : List Bool) : lrAt r ins 0 = List.replicate r.length false := by simp [lrAt]
theorem lrAt_end (r : List Int) (ins : List Bool) : lrAt r ins r.length = liftRow r ins := by simp [lrAt, liftRow]
theorem lrAt_len (r : List Int) (ins : List Bool) {i : Nat} (hi : i ≤ r.length) : (lrAt r ins i).length = r.length := by simp [lrAt]; omega
theorem lrAt_set (r : List Int) (ins : List Bool) {i : Nat} (hi : i < r.length) {b : Bool} (hb : liftB ins r[i] = b) : (lrAt r ins i).set i b = lrAt r ins (i + 1) := by
  unfold lrAt
  have h1 : ((r.take i).map (liftB ins)).length = i := by simp; omega
  rw [List.set_append_right _ _ (by omega), h1, Nat.sub_self, take_at hi, List.map_append, List.map_singleton, hb, List.append_assoc, show r.length - i = (r.length - (i + 1)) + 1 by omega, List.replicate_succ]
  simp
set_option maxHeartbeats 4000000 in
set_option maxRecDepth 100000 in
theorem lift_row (A : Option Addr) (c : Nat) (r : List Int) (B : Option Addr) (d : Nat) (ins : List Bool) (w : World) (hr : RS (Kd.int .i64) w A c r) (hi : RS Kd.bool w B d ins) (hl : r.length ≤ 2000) (hx : ∀ x ∈ r, -1 ≤ x ∧ x ≤ 3000 ∧ (0 < x → 1 < x ∧ (x / 2 - 1).toNat < ins.length)) :
    Calls Try.prog 48 #[.slice A r.length c, .slice B ins.length d] w fun e w' => RetVr w w' (liftRow r ins) e := by
  have HR := Aside0.mk hr
  have HI := Aside0.mk hi
  have HX := Aside0.mk hx
  have HL := Aside0.mk hl
  clear hr hi hx
  go_enter Try.func48, Try.ntmps48
  go_wp2_with (first | (refine Kd.R_make Kd.bool (w0 := w) w.heap.size 4 rfl rfl 59 (.tmp 9) (.tmp 9) rfl (r.length : Int) rfl rfl Try.underlying59 (.bool false) 1 infoBool rfl (by decide) (by decide) false (ok := fun _ => True) (okp := fun _ => False) ?aP (fun _ h => h.elim) trivial (by omega) ?aL (Below.refl _ _) (Nat.le_refl _) ?_; (case aP => exact rfl); (case aL => omega); intro v1 w1 ho hb hg hat; obtain ⟨V, cap, hv⟩ := Kd.R_slice ho; have HO := Aside0.mk ho; have HB := Aside0.mk hb; have HAT := Aside0.mk hat; clear ho hb hg hat; subst hv))
  obtain ⟨g, hV⟩ : ∃ g, V = some ⟨g, 0, none⟩ := by
    obtain ⟨b, hb, _⟩ := HAT.out
    cases V with
    | none => simp [Value.ownBlock] at hb
    | some ad => obtain ⟨g, hg⟩ := row_head HO.out; exact ⟨g, by rw [hg]⟩
  subst hV
  have HG := Aside0.mk (show w.heap.size ≤ g by obtain ⟨b, hb, h_⟩ := HAT.out; injection hb with hb; rw [show b = g from hb.symm] at h_; exact h_)
  have HO1 := Aside0.mk (show Kd.R Kd.bool 4 w1 w.heap.size (fun _ => True) (.slice (some ⟨g, 0, none⟩) r.length cap) (lrAt r ins 0) by
    rw [lrAt_zero]
    have h_ := HO.out
    simp only [Int.toNat_natCast, List.length_replicate] at h_
    exact h_)
  clear HO HAT
  go_loopg [13] r.length (fun gg s13 wr => ∃ i : Nat, s13 = .int .i64 i ∧ Aside0 (i ≤ r.length ∧ r.length - i ≤ gg) ∧ Aside0 (Below w.heap.size w wr) ∧ Aside0 (Kd.R Kd.bool 4 wr w.heap.size (fun _ => True) (.slice (some ⟨g, 0, none⟩) r.length cap) (lrAt r ins i)))
  case atStart => exact ⟨0, rfl, ⟨Nat.zero_le _, by omega⟩, HB, HO1⟩
  case round =>
    obtain ⟨i, rfl, HK, BW, RW⟩ := hrel
    by_cases hlt : i < r.length
    · have HLT := Aside0.mk hlt
      obtain ⟨ad, e1, hxc⟩ := at_int (HR.out.below BW.out).r i hlt
      have hxr := HX.out r[i] (List.getElem_mem hlt)
      have HS := Aside0.mk (fun b (hb : liftB ins r[i] = b) => lrAt_set r ins hlt hb)
      have hc0 := Kd.R_celln (n := r.length) false RW.out (i : Int) (by omega) (by omega)
      have cV : wr.cell? ⟨g, i, none⟩ = some (.bool ((lrAt r ins i).getD i false)) := by have h_ := hc0.1; rw [Int.toNat_natCast] at h_; simpa [rdOf] using h_
      generalize (lrAt r ins i).getD i false = bv at cV
      have cW : wr.frozen? ⟨g, i, none⟩ = false := by have h_ := hc0.2; rw [Int.toNat_natCast] at h_; exact h_
      generalize r[i] = x at *
      cases e1
      have hii : (i : Int) < (r.length : Int) := by omega
      clear hc0
      by_cases h0 : 0 < x
      · have h0d : decide (0 < x) = true := decide_eq_true h0
        obtain ⟨q, hq⟩ : ∃ q : Nat, x / 2 - 1 = (q : Int) := ⟨(x / 2 - 1).toNat, by have := hxr.2.2 h0; omega⟩
        have hqi : q < ins.length := by have := (hxr.2.2 h0).2; omega
        obtain ⟨bd, e2, hb⟩ := at_bool (HI.out.below BW.out).r q hqi
        cases e2
        have HS2 := Aside0.mk (HS.out ins[q] (by unfold liftB; rw [h0d, hq, Int.toNat_natCast, List.getD_eq_getElem?_getD, List.getElem?_eq_getElem hqi]; rfl))
        generalize ins[q] = y at *
        have hw1 : wrap64 (x.tdiv 2) = x / 2 := half_of ⟨by omega, by omega⟩ (by omega)
        have hw2 : wrap64 (x / 2 - 1) = (q : Int) := by rw [wrap_in (by omega) (by omega), hq]
        have hqq : (q : Int) < (ins.length : Int) := by omega
        have hmx : ∀ ats ty, Builtin.max_ ats ty #[.int .i64 0, .int .i64 (q : Int)] = pure (.int .i64 (q : Int)) := fun ats ty => by
          rw [max_pair]
          split
          · rfl
          · congr 2; omega
        clear hxr hq h0 HS
        go_wp2
        go_roundg (r.length - (i + 1))
        case measure => have := HK.out; have := HLT.out; omega
        case rel => exact ⟨i + 1, val_eq (by omega), ⟨HLT.out, by have := HK.out; omega⟩, ⟨BW.out.setCell (p := ⟨g, i, none⟩) HG.out _⟩, ⟨by have h_ := Kd.R_putn RW.out (i : Int) y; rw [Int.toNat_natCast, HS2.out] at h_; exact h_⟩⟩
      · have h0d : decide (0 < x) = false := decide_eq_false h0
        have HS2 := Aside0.mk (HS.out false (by unfold liftB; rw [h0d]; rfl))
        clear hxr h0 HS
        go_wp2
        go_roundg (r.length - (i + 1))
        case measure => have := HK.out; have := HLT.out; omega
        case rel => exact ⟨i + 1, val_eq (by omega), ⟨HLT.out, by have := HK.out; omega⟩, ⟨BW.out.setCell (p := ⟨g, i, none⟩) HG.out _⟩, ⟨by have h_ := Kd.R_putn RW.out (i : Int) false; rw [Int.toNat_natCast, HS2.out] at h_; exact h_⟩⟩
    · have hi : i = r.length := by have := HK.out.1; omega
      subst hi
      have HE := Aside0.mk (show Kd.R Kd.bool 4 wr w.heap.size (fun _ => True) (.slice (some ⟨g, 0, none⟩) r.length cap) (liftRow r ins) by have h_ := RW.out; rw [lrAt_end] at h_; exact h_)
      go_wp2
      go_ret
      have hn : (liftRow r ins).length = r.length := by simp [liftRow]
      exact ⟨some ⟨g, 0, none⟩, cap, by rw [hn]; rfl, by rw [hn]; exact HE.out, BW.out⟩
end Go.Proofs.Ytiafojcbllbepaa.PH

/- ref25.Fits. -/
namespace Go.Proofs.Ytiafojcbllbepaa.PH
open Go.RowKit Go.Proofs.YtiafojcbllbepaaW.PrintWords Go.Proofs.YtiafojcbllbepaaW.PrintLast
set_option linter.unusedVariables false
set_option linter.unusedSimpArgs false

set_option maxHeartbeats 4000000 in
set_option maxRecDepth 100000 in
theorem ref25_Fits (p : CP) (c : Circ) (q : TP) (t : Run) (w : World) (hc : c.f1.length ≤ 4000000) (h0 : I64 c.f0) (ht : RT w q t) :
    Calls Try.prog 26 #[cv p c, tv q t] w fun e w' => e = .returned (.bool (runFits c t)) ∧ Below w.heap.size w w' := by
  have HT := Aside0.mk ht
  obtain ⟨A1, k1, A2, k2, A3, k3, A4, k4⟩ := p
  obtain ⟨F, fc, O, oc⟩ := q
  obtain ⟨R, hR⟩ : ∃ b, runFits c t = b := ⟨_, rfl⟩
  rw [hR]
  unfold runFits at hR
  have HR := Aside0.mk hR
  have HM := Aside0.mk ht.s1.max
  have HM0 := Aside0.mk ht.s0.max
  clear hR ht
  have hu26 := Try.underlying26
  have hu57 := Try.underlying64
  go_enter Try.func26, Try.ntmps26
  go_upto_region 1 with (fail)
  have HB := Aside0.mk (below_alloc (below_alloc (Below.refl w.heap.size w) (.cells #[.int .i64 c.f0, .slice A1 c.f1.length k1, .slice A2 c.f2.length k2, .slice A3 c.f3.length k3, .slice A4 c.f4.length k4] 26)) (.cells #[.slice F t.f0.length fc, .slice O t.f1.length oc] 64))
  have e0 := blk_alloc (blk_new w (.cells #[.int .i64 c.f0, .slice A1 c.f1.length k1, .slice A2 c.f2.length k2, .slice A3 c.f3.length k3, .slice A4 c.f4.length k4] 26)) (.cells #[.slice F t.f0.length fc, .slice O t.f1.length oc] 64)
  have e1 := blk_new (w.alloc (.cells #[.int .i64 c.f0, .slice A1 c.f1.length k1, .slice A2 c.f2.length k2, .slice A3 c.f3.length k3, .slice A4 c.f4.length k4] 26)) (.cells #[.slice F t.f0.length fc, .slice O t.f1.length oc] 64)
  have hz : (w.alloc (.cells #[.int .i64 c.f0, .slice A1 c.f1.length k1, .slice A2 c.f2.length k2, .slice A3 c.f3.length k3, .slice A4 c.f4.length k4] 26)).heap.size = w.heap.size + 1 := by simp
  rw [hz] at e1
  generalize (w.alloc (.cells #[.int .i64 c.f0, .slice A1 c.f1.length k1, .slice A2 c.f2.length k2, .slice A3 c.f3.length k3, .slice A4 c.f4.length k4] 26)).alloc (.cells #[.slice F t.f0.length fc, .slice O t.f1.length oc] 64) = w5 at *
  have E0 := Aside0.mk e0
  have E1 := Aside0.mk e1
  clear e0 e1 hz
  go_wp2
  go_loopg [5] t.f1.length (fun gg s5 wr => ∃ i : Nat, s5 = .int .i64 i ∧ Aside0 (i ≤ t.f1.length ∧ t.f1.length - i ≤ gg) ∧ Aside0 (Below w5.heap.size w5 wr) ∧ Aside0 (t.f1.any (fun r => (r.length : Int) != c.f0) = (t.f1.drop i).any (fun r => (r.length : Int) != c.f0)))
  case atStart => exact ⟨0, rfl, ⟨Nat.zero_le _, by omega⟩, ⟨Below.refl _ _⟩, ⟨rfl⟩⟩
  case round =>
    obtain ⟨i, rfl, HK, BW, AN⟩ := hrel
    obtain ⟨c0, c1, c2, c3, c4⟩ := blk5 (blk_below E0.out BW.out)
    have d0 := (blk_cell (blk_below E1.out BW.out) 0).trans rfl
    have d1 := (blk_cell (blk_below E1.out BW.out) 1).trans rfl
    by_cases hlt : i < t.f1.length
    · have HLT := Aside0.mk hlt
      obtain ⟨ad, B, bc, e1, hx, hrr⟩ := at_row (HT.out.below (HB.out.trans (BW.out.mono HB.out.size))).s1.r i hlt
      dsimp only at e1
      subst e1
      have hst := any_step (q := fun r : List Bool => (r.length : Int) != c.f0) hlt
      have hm := hrr.max
      generalize t.f1[i] = r at *
      have HST := Aside0.mk hst
      have hii : (i : Int) < (t.f1.length : Int) := by omega
      clear hst hrr
      cases hq : ((r.length : Int) != c.f0) with
      | true =>
        have HRW := Aside0.mk (show R = false by rw [← HR.out, AN.out, HST.out, hq]; simp)
        go_wp2
        go_quiet (fail)
        go_wp2
        go_ret
        exact ⟨by rw [HRW.out]; rfl, HB.out.trans ((BW.out.trans ((pw_below_drewN (Below.refl _ _) _).mono BW.out.size)).mono HB.out.size)⟩
      | false =>
        have HQ2 := Aside0.mk (show t.f1.any (fun r => (r.length : Int) != c.f0) = (t.f1.drop (i + 1)).any (fun r => (r.length : Int) != c.f0) by rw [AN.out, HST.out, hq]; rfl)
        go_wp2
        go_quiet (fail)
        go_wp2
        go_roundg (t.f1.length - (i + 1))
        case measure => have := HK.out; have := HLT.out; omega
        case rel => exact ⟨i + 1, val_step HLT.out HM.out, ⟨HLT.out, by have := HK.out; omega⟩, ⟨BW.out.trans ((pw_below_drewN (Below.refl _ _) _).mono BW.out.size)⟩, HQ2⟩
    · have hk : i = t.f1.length := by have := HK.out.1; omega
      have HRW := Aside0.mk (show R = (decide (t.f0.length = c.f1.length) && decide (0 < t.f1.length)) by rw [← HR.out, AN.out, hk, List.drop_length]; simp)
      clear hk
      cases hq : decide (t.f0.length = c.f1.length) with
      | true =>
        have hqe : t.f0.length = c.f1.length := of_decide_eq_true hq
        have hb1 : ((t.f0.length : Int) == (c.f1.length : Int)) = true := by simp [hqe]
        have HQ := Aside0.mk hq
        clear hq hqe
        go_wp2
        go_ret
        exact ⟨by rw [HRW.out, HQ.out]; rfl, HB.out.trans (BW.out.mono HB.out.size)⟩
      | false =>
        have hqe : ¬ t.f0.length = c.f1.length := of_decide_eq_false hq
        have hb1 : ((t.f0.length : Int) == (c.f1.length : Int)) = false := by simp; omega
        have HQ := Aside0.mk hq
        clear hq hqe
        go_wp2
        go_ret
        exact ⟨by rw [HRW.out, HQ.out]; rfl, HB.out.trans (BW.out.mono HB.out.size)⟩
end Go.Proofs.Ytiafojcbllbepaa.PH

/- Rows of rows of a call's own: the heads in one row, each row in a block of its own. -/
namespace Go.Proofs.Ytiafojcbllbepaa.PH
open Go.RowKit Go.Proofs.YtiafojcbllbepaaW.PrintWords Go.Proofs.YtiafojcbllbepaaW.PrintLast
set_option linter.unusedVariables false
set_option linter.unusedSimpArgs false

/-- The head of a row: address, length, capacity. -/
abbrev HeadR := Option Addr × Nat × Nat
@[reducible] def HeadR.v (x : HeadR) : Value := .slice x.1 x.2.1 x.2.2
def kHead : Kd HeadR := Kd.scalar HeadR.v (fun _ => rfl)
theorem flat_head : Flat kHead := fun h => h
section
variable {b : Nat} {w0 w w1 : World} {ps : List Pc}
/-- Two pieces become one. -/
theorem Parts.join (h : Parts b w0 w ps) (i j : Nat) (hij : i ≠ j) {p q : Pc} (r : Pc) (hi : ps[i]? = some p) (hj : ps[j]? = some q) (hr : p.P w → q.P w → r.P w) (hf : ∀ k, r.F k → p.F k ∨ q.F k) : Parts b w0 w ((ps.set j r).eraseIdx i) := by
  have hjl : j < ps.length := (List.getElem?_eq_some_iff.1 hj).1
  have key : ∀ (m : Nat) (s : Pc), ((ps.set j r).eraseIdx i)[m]? = some s → (if m < i then m else m + 1) ≠ i ∧ (((if m < i then m else m + 1) = j ∧ s = r) ∨ ((if m < i then m else m + 1) ≠ j ∧ ps[if m < i then m else m + 1]? = some s)) := fun m s hs => by
    rw [List.getElem?_eraseIdx] at hs
    have e1 : (ps.set j r)[if m < i then m else m + 1]? = some s := by
      split at hs
      · rename_i hm; rwa [if_pos hm]
      · rename_i hm; rwa [if_neg hm]
    refine ⟨by split <;> omega, ?_⟩
    rw [List.getElem?_set] at e1
    by_cases hm : j = (if m < i then m else m + 1)
    · rw [if_pos hm, if_pos hjl] at e1
      exact .inl ⟨hm.symm, (Option.some.inj e1).symm⟩
    · rw [if_neg hm] at e1
      exact .inr ⟨Ne.symm hm, e1⟩
  have inj : ∀ m n : Nat, m ≠ n → (if m < i then m else m + 1) ≠ (if n < i then n else n + 1) := fun m n hmn => by split <;> split <;> omega
  refine ⟨h.B, h.z, fun m s hs => ?_, fun m s hs k hk => ?_, fun m n s t hmn hs ht k hk hk2 => ?_⟩
  · rcases (key m s hs).2 with ⟨_, rfl⟩ | ⟨_, h2⟩
    · exact hr (h.hP i p hi) (h.hP j q hj)
    · exact h.hP _ s h2
  · rcases (key m s hs).2 with ⟨_, rfl⟩ | ⟨_, h2⟩
    · rcases hf k hk with h3 | h3
      · exact h.hF i p hi k h3
      · exact h.hF j q hj k h3
    · exact h.hF _ s h2 k hk
  · have hne := inj m n hmn
    obtain ⟨hmi, hm⟩ := key m s hs
    obtain ⟨hni, hn⟩ := key n t ht
    rcases hm with ⟨e1, rfl⟩ | ⟨e1, h2⟩ <;> rcases hn with ⟨e2, rfl⟩ | ⟨e2, h3⟩
    · exact hne (e1.trans e2.symm)
    · rcases hf k hk with h4 | h4
      · exact h.ap i _ p t (fun e => hni e.symm) hi h3 k h4 hk2
      · exact h.ap j _ q t (fun e => e2 e.symm) hj h3 k h4 hk2
    · rcases hf k hk2 with h4 | h4
      · exact h.ap _ i s p hmi h2 hi k hk h4
      · exact h.ap _ j s q e1 h2 hj k hk h4
    · exact h.ap _ _ s t hne h2 h3 k hk hk2
/-- The rows that heads tell of. -/
def InRows {α : Type} (d : Kd α) (e b : Nat) (W : World) (hs : List HeadR) (rows : List (List α)) : Prop :=
  hs.length = rows.length ∧ ∀ (j : Nat) (x : HeadR) (y : List α), hs[j]? = some x → rows[j]? = some y → x.2.1 = y.length ∧ d.R e W b (fun k => x.v.ownBlock = some k) x.v y
def pIn {α : Type} (d : Kd α) (e b : Nat) (hs : List HeadR) (rows : List (List α)) : Pc :=
  ⟨fun k => ∃ x ∈ hs, x.v.ownBlock = some k, fun W => InRows d e b W hs rows,
   fun hm h => ⟨h.1, fun j x y hx hy => ⟨(h.2 j x y hx hy).1, Kd.R_move (h.2 j x y hx hy).2 (fun k hk => hm k ⟨x, List.mem_of_getElem? hx, hk⟩)⟩⟩⟩
variable {α : Type} {d : Kd α} {e T : Nat} {hs : List HeadR} {rows : List (List α)}
theorem Parts.inNil (h : Parts b w0 w ps) (d : Kd α) (e : Nat) : Parts b w0 w (pIn d e b [] [] :: ps) :=
  h.push (Below.refl _ _) ⟨rfl, fun j x y hx => by simp at hx⟩ (fun k hk => by obtain ⟨x, hx, _⟩ := hk; simp at hx)
theorem Parts.inAdd (h : Parts b w0 w ps) (i j : Nat) (hij : i ≠ j) {A : Option Addr} {c : Nat} {y : List α} (hi : ps[i]? = some (pF b d e (.slice A y.length c) y)) (hj : ps[j]? = some (pIn d e b hs rows)) :
    Parts b w0 w ((ps.set j (pIn d e b (hs ++ [(A, y.length, c)]) (rows ++ [y]))).eraseIdx i) := by
  refine h.join i j hij (pIn d e b (hs ++ [(A, y.length, c)]) (rows ++ [y])) hi hj (fun hp hq => ?_) (fun k hk => ?_)
  · refine ⟨by simp [hq.1], fun m x z hx hz => ?_⟩
    by_cases hm : m < hs.length
    · rw [List.getElem?_append_left hm] at hx
      rw [List.getElem?_append_left (by rw [← hq.1]; exact hm)] at hz
      exact hq.2 m x z hx hz
    · rw [List.getElem?_append_right (by omega)] at hx
      rw [List.getElem?_append_right (by rw [← hq.1]; omega), ← hq.1] at hz
      have hm0 : m - hs.length = 0 := by
        have := (List.getElem?_eq_some_iff.1 hx).1
        simp at this; omega
      rw [hm0] at hx hz
      have ex : (A, y.length, c) = x := by simpa using hx
      have ez : y = z := by simpa using hz
      subst ex ez
      exact ⟨rfl, hp⟩
  · obtain ⟨x, hx, hk⟩ := hk
    rcases List.mem_append.1 hx with hx | hx
    · exact .inr ⟨x, hx, hk⟩
    · have ex : x = (A, y.length, c) := by simpa using hx
      subst ex
      exact .inl hk
/-- Heads that are read, and their rows, are a row of rows. -/
theorem InRows.to {A : Option Addr} {c : Nat} (h : RS kHead w A c hs) (g : InRows d e b w hs rows) : RS (Kd.slice e d) w A c rows := by
  have hm := h.max
  refine ⟨⟨rfl, by rw [← g.1]; exact hm, fun h0 => ?_⟩, by rw [← g.1]; exact h.h⟩
  obtain ⟨ad, e1, hc⟩ := h.r.2.2 (by rw [g.1]; exact h0)
  refine ⟨ad, e1, fun j p hj => ?_⟩
  have hjl : j < hs.length := by rw [g.1]; exact (List.getElem?_eq_some_iff.1 hj).1
  obtain ⟨cs, h1, h2, h3⟩ := hc j hs[j] (List.getElem?_eq_getElem hjl)
  have hg := g.2 j hs[j] p (List.getElem?_eq_getElem hjl) hj
  refine ⟨cs, h1, ?_, h3⟩
  have e2 : cs = [hs[j].v] := h2
  have hr := RS.of_R' hg.2
  rw [e2]
  refine ⟨_, _, by rw [← hg.1], hr.h, hr.r⟩
theorem InRows.take (g : InRows d e b w hs rows) (m : Nat) : InRows d e b w (hs.take m) (rows.take m) :=
  ⟨by simp [g.1], fun j x y hx hy => by
    rw [List.getElem?_take] at hx hy
    split at hx
    · rename_i hj
      rw [if_pos hj] at hy
      exact g.2 j x y hx hy
    · cases hx⟩
theorem Parts.inRows (h : Parts b w0 w ps) (i j : Nat) {A : Option Addr} {n c : Nat} (hi : ps[i]? = some (pF b kHead T (.slice A n c) hs)) (hj : ps[j]? = some (pIn d e b hs rows)) : RS (Kd.slice e d) w A c rows :=
  InRows.to (h.rowF i hi) (h.hP j _ hj)
theorem Parts.inRowsTake (h : Parts b w0 w ps) (i j m : Nat) {A : Option Addr} {n c : Nat} (hi : ps[i]? = some (pF b kHead T (.slice A n c) (hs.take m))) (hj : ps[j]? = some (pIn d e b hs rows)) : RS (Kd.slice e d) w A c (rows.take m) :=
  InRows.to (h.rowF i hi) (InRows.take (h.hP j _ hj) m)
theorem Parts.inLen (h : Parts b w0 w ps) (j : Nat) (hj : ps[j]? = some (pIn d e b hs rows)) : hs.length = rows.length := (show InRows d e b w hs rows from h.hP j _ hj).1
end
end Go.Proofs.Ytiafojcbllbepaa.PH

/- traces.starts, First, Check. -/
namespace Go.Proofs.Ytiafojcbllbepaa.PH
open Go.RowKit Go.Proofs.YtiafojcbllbepaaW.PrintWords Go.Proofs.YtiafojcbllbepaaW.PrintLast
set_option linter.unusedVariables false
set_option linter.unusedSimpArgs false

theorem zip_at {c : Circ} {st : List Bool} (h : st.length = c.f1.length) {k : Nat} (hk : k < c.f1.length) : ((c.f1.zip st).drop k).all startOk = (startOk (c.f1[k], st[k]'(by omega)) && ((c.f1.zip st).drop (k + 1)).all startOk) := by
  have hz : k < (c.f1.zip st).length := by rw [List.length_zip]; omega
  rw [all_step hz, List.getElem_zip]
set_option maxHeartbeats 4000000 in
set_option maxRecDepth 100000 in
theorem traces_starts (p : CP) (c : Circ) (B : Option Addr) (d : Nat) (st : List Bool) (w : World) (h : RC w p c) (h1 : RS Kd.bool w B d st) (hl : st.length = c.f1.length) :
    Calls Try.prog 50 #[cv p c, .slice B st.length d] w fun e w' => e = .returned (.bool (startsB c st)) ∧ Below w.heap.size w w' := by
  obtain ⟨A1, k1, A2, k2, A3, k3, A4, k4⟩ := p
  have HR := Aside0.mk h
  have HS := Aside0.mk h1
  have HM := Aside0.mk h.s1.max
  have HL := Aside0.mk hl
  have BX := Aside0.mk (below_alloc (Below.refl w.heap.size w) (.cells #[.int .i64 c.f0, .slice A1 c.f1.length k1, .slice A2 c.f2.length k2, .slice A3 c.f3.length k3, .slice A4 c.f4.length k4] 26))
  have hu26 := Try.underlying26
  have hu65 := Try.underlying49
  obtain ⟨r, hr⟩ : ∃ r, startsB c st = r := ⟨_, rfl⟩
  rw [hr]
  have H0 := Aside0.mk (show ((c.f1.zip st).drop 0).all startOk = r from hr)
  clear h h1 hl hr
  dsimp only [cv] at *
  go_enter Try.func50, Try.ntmps50
  go_wp2
  go_loopg [5, 6, 10] c.f1.length (fun gg s5 s6 s10 wr => ∃ k : Nat, s10 = .int .i64 k ∧ Aside0 (k ≤ c.f1.length ∧ c.f1.length - k ≤ gg) ∧ Aside0 (Below w.heap.size w wr) ∧ Aside0 (((c.f1.zip st).drop k).all startOk = r))
  case atStart => exact ⟨0, rfl, ⟨by omega, by omega⟩, BX, H0⟩
  case round =>
    clear BX H0
    obtain ⟨k, rfl, HX, BW, HA⟩ := hrel
    by_cases hlt : k < c.f1.length
    · obtain ⟨ad, e1, hx, hy⟩ := at_latch (HR.out.below BW.out).s1.r k hlt
      have HB2 := Aside0.mk (below_alloc BW.out (.cells #[.int .i64 c.f1[k].f0, .int .i64 c.f1[k].f1] 49))
      obtain ⟨ad2, e2, hz⟩ := at_bool (HS.out.below HB2.out).r k (by rw [HL.out]; exact hlt)
      have HQ := Aside0.mk ((zip_at HL.out hlt).symm.trans HA.out)
      have hlt2 : k < st.length := by rw [HL.out]; exact hlt
      have HLT := Aside0.mk hlt
      generalize c.f1[k] = x at *
      generalize st[k] = b at *
      cases e1
      cases e2
      by_cases h2 : x.f1 = 2
      · have h2d : (x.f1 != 2) = false := by simp [h2]
        have hso : startOk (x, b) = true := by simp [startOk, h2]
        have HQ2 := Aside0.mk (show ((c.f1.zip st).drop (k + 1)).all startOk = r by have h_ := HQ.out; rw [hso, Bool.true_and] at h_; exact h_)
        clear h2 hso
        go_wp2
        go_quiet (fail)
        go_wp2
        go_roundg (c.f1.length - (k + 1))
        case measure => have := HX.out; have := HLT.out; omega
        case rel => exact ⟨k + 1, val_step HLT.out HM.out, ⟨HLT.out, by have := HX.out; omega⟩, ⟨pw_below_drewN HB2.out _⟩, HQ2⟩
      · have h2d : (x.f1 != 2) = true := by simp [h2]
        cases hq : (!b == (x.f1 == 1)) with
        | true =>
          have hso : startOk (x, b) = false := by
            unfold startOk
            cases b <;> cases h1 : (x.f1 == 1) <;> simp_all
          have HQ2 := Aside0.mk (show r = false by have h_ := HQ.out; rw [hso, Bool.false_and] at h_; exact h_.symm)
          clear h2 hso
          go_wp2
          go_quiet (fail)
          go_wp2
          go_ret
          exact ⟨by rw [HQ2.out]; rfl, pw_below_drewN HB2.out _⟩
        | false =>
          have hso : startOk (x, b) = true := by
            unfold startOk
            cases b <;> cases h1 : (x.f1 == 1) <;> simp_all
          have HQ2 := Aside0.mk (show ((c.f1.zip st).drop (k + 1)).all startOk = r by have h_ := HQ.out; rw [hso, Bool.true_and] at h_; exact h_)
          clear h2 hso
          go_wp2
          go_quiet (fail)
          go_wp2
          go_roundg (c.f1.length - (k + 1))
          case measure => have := HX.out; have := HLT.out; omega
          case rel => exact ⟨k + 1, val_step HLT.out HM.out, ⟨HLT.out, by have := HX.out; omega⟩, ⟨pw_below_drewN HB2.out _⟩, HQ2⟩
    · have hk : k = c.f1.length := by have := HX.out; omega
      have HQ2 := Aside0.mk (show r = true by
        have h_ := HA.out
        rw [List.drop_of_length_le (by rw [List.length_zip]; omega)] at h_
        exact h_.symm)
      clear hk
      go_wp2
      go_ret
      exact ⟨by rw [HQ2.out]; rfl, BW.out⟩
/-! ### traces.First -/
/-- What traces.First answers. -/
def firstB (c : Circ) (st : List Bool) : Bool × Int :=
  if check c ≠ 0 then (false, check c) else if st.length ≠ c.f1.length then (false, 2) else (startsB c st, 0)
def RetBI (w w' : World) (r : Bool × Int) (e : Ending) : Prop := e = .returned (.tuple #[.bool r.1, .int .i64 r.2]) ∧ Below w.heap.size w w'
set_option maxHeartbeats 4000000 in
set_option maxRecDepth 100000 in
theorem traces_First (p : CP) (c : Circ) (B : Option Addr) (d : Nat) (st : List Bool) (w : World) (h : RC w p c) (hs : c.Fits) (h1 : RS Kd.bool w B d st) :
    Calls Try.prog 27 #[cv p c, .slice B st.length d] w fun e w' => RetBI w w' (firstB c st) e := by
  have HR := Aside0.mk h
  have HS := Aside0.mk h1
  have HF := Aside0.mk hs
  have BX := Aside0.mk (below_alloc (Below.refl w.heap.size w) (.cells #[.int .i64 c.f0, .slice p.A1 c.f1.length p.c1, .slice p.A2 c.f2.length p.c2, .slice p.A3 c.f3.length p.c3, .slice p.A4 c.f4.length p.c4] 26))
  have HB := Aside0.mk (blk_new w (.cells #[.int .i64 c.f0, .slice p.A1 c.f1.length p.c1, .slice p.A2 c.f2.length p.c2, .slice p.A3 c.f3.length p.c3, .slice p.A4 c.f4.length p.c4] 26))
  have hu26 := Try.underlying26
  obtain ⟨g0, g1, g2, g3, g4⟩ := (blk5w HB.out).1
  obtain ⟨r, hr⟩ : ∃ r, firstB c st = r := ⟨_, rfl⟩
  rw [hr]
  have HRR := Aside0.mk hr
  clear h hs h1 hr
  go_enter Try.func27, Try.ntmps27
  go_wp2_with fail
  refine (gates_Check p c _ (HR.out.below BX.out) HF.out).mono ?_
  rintro e w1 ⟨rfl, hb1⟩
  have BX1 := Aside0.mk (BX.out.trans (hb1.mono BX.out.size))
  have HB1 := Aside0.mk (blk_below HB.out hb1)
  clear hb1 g0 g1 g2 g3 g4
  obtain ⟨g0, g1, g2, g3, g4⟩ := (blk5w HB1.out).1
  by_cases hc : check c = 0
  · rw [hc]
    by_cases hl : st.length = c.f1.length
    · have hld : ((st.length : Int) != (c.f1.length : Int)) = false := bne_eq_false_iff_eq.mpr (by omega)
      have HRV := Aside0.mk (show r = (startsB c st, 0) by rw [← HRR.out]; unfold firstB; rw [if_neg (by simp [hc]), if_neg (by simp [hl])])
      have HL := Aside0.mk hl
      clear hl hc
      go_wp2_with fail
      refine (traces_starts p c B d st _ (HR.out.below BX1.out) (HS.out.below BX1.out) HL.out).mono ?_
      rintro e w2 ⟨rfl, hb2⟩
      have BX2 := Aside0.mk (BX1.out.trans (hb2.mono BX1.out.size))
      clear hb2
      go_wp2
      refine bodyPost_ret (results_tmp2 rfl _ _ _) rfl ?_
      exact ⟨by rw [HRV.out]; rfl, BX2.out⟩
    · have hld : ((st.length : Int) != (c.f1.length : Int)) = true := bne_iff_ne.mpr (by omega)
      have HRV := Aside0.mk (show r = (false, 2) by rw [← HRR.out]; unfold firstB; rw [if_neg (by simp [hc]), if_pos hl])
      clear hl hc
      go_wp2
      refine bodyPost_ret (results_tmp2 rfl _ _ _) rfl ?_
      exact ⟨by rw [HRV.out]; rfl, BX1.out⟩
  · have hcd : (check c != 0) = true := bne_iff_ne.mpr hc
    have HRV := Aside0.mk (show r = (false, check c) by rw [← HRR.out]; unfold firstB; rw [if_pos hc])
    clear hc
    go_wp2
    refine bodyPost_ret (results_tmp2 rfl _ _ _) rfl ?_
    exact ⟨by rw [HRV.out]; rfl, BX1.out⟩
end Go.Proofs.Ytiafojcbllbepaa.PH

/- ref04.Same. (For seats without traces' reference: the same words as in Same6.) -/
namespace Go.Proofs.Ytiafojcbllbepaa.PH
open Go.RowKit Go.Proofs.YtiafojcbllbepaaW.PrintWords Go.Proofs.YtiafojcbllbepaaW.PrintLast
set_option linter.unusedVariables false
set_option linter.unusedSimpArgs false

theorem eq_dropB {α : Type} {l m : List α} {k : Nat} (h1 : k < l.length) (h2 : k < m.length) : l.drop k = m.drop k ↔ l[k] = m[k] ∧ l.drop (k + 1) = m.drop (k + 1) := by
  rw [drop_at h1, drop_at h2, List.cons.injEq]
set_option maxHeartbeats 2000000 in
set_option maxRecDepth 100000 in
theorem ref04_Same (A : Option Addr) (c : Nat) (l : List Bool) (B : Option Addr) (d : Nat) (m : List Bool) (w : World) (hl : RS Kd.bool w A c l) (hm : RS Kd.bool w B d m) :
    Calls Try.prog 29 #[.slice A l.length c, .slice B m.length d] w fun e w' => e = .returned (.bool (decide (l = m))) ∧ Below w.heap.size w w' := by
  have HL := Aside0.mk hl
  have HM := Aside0.mk hm
  have HX0 := Aside0.mk hl.max
  clear hl hm
  by_cases hn : l.length = m.length
  · have hnb : ((l.length : Int) != (m.length : Int)) = false := bne_eq_false_iff_eq.mpr (by omega)
    have HN := Aside0.mk hn
    clear hn
    go_enter Try.func29, Try.ntmps29
    go_wp2
    clear hnb
    go_loopg [5] l.length (fun gg s5 wr => ∃ k : Nat, s5 = .int .i64 k ∧ Aside0 (k ≤ l.length ∧ l.length - k ≤ gg) ∧ Aside0 (Below w.heap.size w wr) ∧ Aside0 (decide (l.drop k = m.drop k) = decide (l = m)))
    case atStart => exact ⟨0, rfl, ⟨by omega, by omega⟩, ⟨Below.refl _ _⟩, ⟨by simp⟩⟩
    case round =>
      obtain ⟨k, rfl, HX, BW, HA⟩ := hrel
      by_cases hlt : k < l.length
      · have hlt2 : k < m.length := by have := HN.out; omega
        obtain ⟨ad, e1, hx⟩ := at_bool (HL.out.below BW.out).r k hlt
        obtain ⟨bd, e2, hy⟩ := at_bool (HM.out.below BW.out).r k hlt2
        cases e1
        cases e2
        have HD := HA.out
        simp only [eq_dropB hlt hlt2] at HD
        have HLT := Aside0.mk hlt
        generalize l[k] = x at *
        generalize m[k] = y at *
        have HDD := Aside0.mk HD
        clear HA HD
        by_cases hxy : x = y
        · have hb : (!x == y) = false := by rw [hxy]; cases y <;> rfl
          have HXY := Aside0.mk hxy
          clear hxy
          go_wp2
          go_quiet (fail)
          go_wp2
          go_roundg (l.length - (k + 1))
          case measure => have := HX.out; have := HLT.out; omega
          case rel => exact ⟨k + 1, val_step HLT.out HX0.out, ⟨HLT.out, by have := HX.out; omega⟩, ⟨pw_below_drewN BW.out _⟩, ⟨by rw [← HDD.out]; simp [HXY.out]⟩⟩
        · have hb : (!x == y) = true := by cases x <;> cases y <;> simp_all
          have HXY := Aside0.mk hxy
          clear hxy
          go_wp2
          go_quiet (fail)
          go_wp2
          go_ret
          exact ⟨ret_bool (by rw [← HDD.out]; simp [HXY.out]), pw_below_drewN BW.out _⟩
      · have HE : k = l.length := by have := HX.out.1; omega
        have HD := HA.out
        rw [HE, List.drop_length, show m.drop l.length = [] by rw [HN.out, List.drop_length]] at HD
        have HDD := Aside0.mk HD
        clear HD HE HA
        go_wp2
        go_ret
        exact ⟨ret_bool (by rw [← HDD.out]; simp), BW.out⟩
  · have hnb : ((l.length : Int) != (m.length : Int)) = true := bne_iff_ne.mpr (by omega)
    have HN := Aside0.mk hn
    clear hn
    go_enter Try.func29, Try.ntmps29
    go_wp2
    go_ret
    exact ⟨ret_bool (by rw [decide_eq_false (fun h => HN.out (by rw [h]))]), Below.refl _ _⟩
end Go.Proofs.Ytiafojcbllbepaa.PH

/- More arguments of rows: predicates, rows of numbers and of truth values. -/
namespace Go.Proofs.Ytiafojcbllbepaa.PH
open Go.RowKit Go.Proofs.YtiafojcbllbepaaW.PrintWords Go.WideShapes
set_option linter.unusedVariables false
set_option linter.unusedSimpArgs false

section
variable {H : Type} {enc : TypeId × Value → H} {W : World}
structure Pr.Nums (p : Pr) : Prop where
  ig : ∀ x ∈ p.f0, I64 x.f0 ∧ I64 x.f1
  il : I64 p.f1
set_option maxRecDepth 100000 in
theorem arg_pr {v : Value} {d : DataW H} {ps : List MemPlace} {r : Reach} {base : Nat} (hv : Value.okWide Try.prog W r base 36 v) (h : DataW.Trod enc Try.prog W 0 (fun _ => true) true 36 v d ps) : ∃ (A : Option Addr × Nat) (p : Pr), v = pv A.1 A.2 p ∧ RS kGate W A.1 A.2 p.f0 ∧ p.Nums := by
  obtain ⟨cs, rfl, _⟩ := okWide_struct Try.underlying36 hv
  obtain ⟨fuel, hf⟩ := h
  obtain ⟨a, hk, hw⟩ := opn_pr _ _ _ hf
  obtain ⟨A1, k1, e, l1, g1⟩ := kPr_open hk
  refine ⟨(A1, k1), a, ?_, ⟨g1, l1⟩, ⟨hw.1, hw.2⟩⟩
  have e' : cs.toList = _ := e
  rw [← Array.toArray_toList (xs := cs), e']
theorem I64.of_wf {k : Int} (h : (Lit.int .i64 k).wf = true) : I64 k := by
  simp only [Lit.wf, Bool.and_eq_true, decide_eq_true_eq] at h
  exact h
set_option maxRecDepth 100000 in
theorem arg_slice {α : Type} {dk : Kd α} {t E : Nat} {wf : α → Prop} (ht : Try.prog.underlying t = some (.slice E)) (ho : Opn enc W (Kd.slice E dk) t (fun l => ∀ x ∈ l, wf x)) {v : Value} {d : DataW H} {ps : List MemPlace} (hcells : v.cells.toList = [v]) (h : DataW.Trod enc Try.prog W 0 (fun _ => true) true t v d ps) : ∃ (A : Option Addr × Nat) (l : List α), v = .slice A.1 l.length A.2 ∧ RS dk W A.1 A.2 l ∧ ∀ x ∈ l, wf x := by
  obtain ⟨fuel, hf⟩ := h
  obtain ⟨a, hk, hw⟩ := ho _ _ _ hf
  rw [hcells] at hk
  obtain ⟨A1, k1, e, l1, g1⟩ := hk
  exact ⟨(A1, k1), a, by simpa using e, ⟨g1, l1⟩, hw⟩
set_option maxRecDepth 100000 in
theorem arg_ints {v : Value} {d : DataW H} {ps : List MemPlace} {r : Reach} {base : Nat} (hv : Value.okWide Try.prog W r base 24 v) (h : DataW.Trod enc Try.prog W 0 (fun _ => true) true 24 v d ps) : ∃ (A : Option Addr × Nat) (l : List Int), v = .slice A.1 l.length A.2 ∧ RS (Kd.int .i64) W A.1 A.2 l ∧ ∀ x ∈ l, I64 x := by
  obtain ⟨a, len, cap, rfl⟩ := okWide_slice Try.underlying24 hv
  exact arg_slice Try.underlying24 opn_ints rfl h
theorem opn_bools : Opn enc W (Kd.slice 4 Kd.bool) 59 (fun l => ∀ x ∈ l, True) := opn_slice _ Try.underlying59 (opn_bool Try.underlying4) (by kernel_rfl)
set_option maxRecDepth 100000 in
theorem arg_bools {v : Value} {d : DataW H} {ps : List MemPlace} {r : Reach} {base : Nat} (hv : Value.okWide Try.prog W r base 59 v) (h : DataW.Trod enc Try.prog W 0 (fun _ => true) true 59 v d ps) : ∃ (A : Option Addr × Nat) (l : List Bool), v = .slice A.1 l.length A.2 ∧ RS Kd.bool W A.1 A.2 l ∧ ∀ x ∈ l, True := by
  obtain ⟨a, len, cap, rfl⟩ := okWide_slice Try.underlying59 hv
  exact arg_slice Try.underlying59 opn_bools rfl h
theorem opn_grid : Opn enc W (Kd.slice 24 (Kd.slice 3 (Kd.int .i64))) 34 (fun l => ∀ r ∈ l, ∀ x ∈ r, I64 x) := opn_slice _ Try.underlying34 opn_ints (by kernel_rfl)
set_option maxRecDepth 100000 in
theorem arg_rows {v : Value} {d : DataW H} {ps : List MemPlace} {r : Reach} {base : Nat} (hv : Value.okWide Try.prog W r base 34 v) (h : DataW.Trod enc Try.prog W 0 (fun _ => true) true 34 v d ps) : ∃ (A : Option Addr × Nat) (l : List (List Int)), v = .slice A.1 l.length A.2 ∧ RS (Kd.slice 3 (Kd.int .i64)) W A.1 A.2 l ∧ ∀ r ∈ l, ∀ x ∈ r, I64 x := by
  obtain ⟨a, len, cap, rfl⟩ := okWide_slice Try.underlying34 hv
  exact arg_slice Try.underlying34 opn_grid rfl h
theorem opn_grid_b : Opn enc W (Kd.slice 59 (Kd.slice 4 Kd.bool)) 62 (fun l => ∀ r ∈ l, ∀ x ∈ r, True) := opn_slice _ Try.underlying62 opn_bools (by kernel_rfl)
theorem opn_run : Opn enc W kRun 64 (fun x => (∀ b ∈ x.f0, True) ∧ ∀ r ∈ x.f1, ∀ b ∈ r, True) := fun fuel cs x hx => by
  obtain ⟨c0, c1, rfl⟩ := two_of ((opn_size Try.underlying64 hx).trans (by kernel_rfl))
  obtain ⟨a0, h0, w0⟩ := opn_field Try.underlying64 hx 0 rfl opn_bools (n := 1) (by kernel_rfl)
  obtain ⟨a1, h1, w1⟩ := opn_field Try.underlying64 hx 1 rfl opn_grid_b (n := 1) (by kernel_rfl)
  obtain ⟨A0, k0, e0, l0, g0⟩ := h0
  obtain ⟨A1, k1, e1, l1, g1⟩ := h1
  cases e0
  cases e1
  exact ⟨⟨a0, a1⟩, kRun_mk W ⟨a0, a1⟩ l0 g0 l1 g1, w0, w1⟩
set_option maxRecDepth 100000 in
theorem arg_run {v : Value} {d : DataW H} {ps : List MemPlace} {r : Reach} {base : Nat} (hv : Value.okWide Try.prog W r base 64 v) (h : DataW.Trod enc Try.prog W 0 (fun _ => true) true 64 v d ps) : ∃ (p : TP) (t : Run), v = tv p t ∧ RT W p t ∧ ((∀ b ∈ t.f0, True) ∧ ∀ r ∈ t.f1, ∀ b ∈ r, True) := by
  obtain ⟨cs, rfl, _⟩ := okWide_struct Try.underlying64 hv
  obtain ⟨fuel, hf⟩ := h
  obtain ⟨a, hk, hw⟩ := opn_run _ _ _ hf
  obtain ⟨A0, k0, A1, k1, e, l0, g0, l1, g1⟩ := kRun_open hk
  refine ⟨⟨A0, k0, A1, k1⟩, a, ?_, ⟨⟨g0, l0⟩, ⟨g1, l1⟩⟩, hw⟩
  have e' : cs.toList = _ := e
  rw [← Array.toArray_toList (xs := cs), e']
end
end Go.Proofs.Ytiafojcbllbepaa.PH
