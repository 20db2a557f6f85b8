/- The arguments of a row: structs and rows that came in, read by their kinds. -/
import Derived.Test.YtpoadkogcdfglaaHBase
import Derived.WalkKit
import Derived.ProofKit
import Derived.Deep.Slices
namespace Go.Proofs.Ytpoadkogcdfglaa.PH
open Go.RowKit Go.Proofs.YtpoadkogcdfglaaW.PrintWords Go.WideShapes
set_option linter.unusedVariables false
set_option linter.unusedSimpArgs false

section
variable {H : Type} {enc : TypeId × Value → H} {W : World} {α β : Type}
/-- What is trodden as type t is told by the kind d; wf holds of it. -/
def Opn (enc : TypeId × Value → H) (W : World) (d : Kd α) (t : TypeId) (wf : α → Prop) : Prop :=
  ∀ fuel cs x, DataW.trod enc Try.prog W 0 (fun _ => true) true fuel t cs = some x → ∃ a, d.K W a cs ∧ wf a
theorem Opn.mono {d : Kd α} {t : TypeId} {p q : α → Prop} (h : Opn enc W d t p) (hq : ∀ a, p a → q a) : Opn enc W d t q := fun fuel cs x hx => by
  obtain ⟨a, h1, h2⟩ := h fuel cs x hx
  exact ⟨a, h1, hq a h2⟩
theorem opn_int {t : TypeId} (ht : Try.prog.underlying t = some (.int .i64)) : Opn enc W (Kd.int .i64) t I64 := fun fuel cs x hx => by
  obtain ⟨n, rfl, _, hw⟩ := DataW.trod_int ht hx
  refine ⟨n, rfl, ?_⟩
  simp only [Lit.wf, Bool.and_eq_true, decide_eq_true_eq] at hw
  exact hw
theorem opn_bool {t : TypeId} (ht : Try.prog.underlying t = some .bool) : Opn enc W Kd.bool t (fun _ => True) := fun fuel cs x hx => by
  obtain ⟨n, h1, _⟩ := DataW.trod_bool ht hx
  exact ⟨n, h1, trivial⟩
theorem list_of {P : Nat → α → Prop} : ∀ n, (∀ i, i < n → ∃ y, P i y) → ∃ l : List α, l.length = n ∧ ∀ j y, l[j]? = some y → P j y
  | 0, _ => ⟨[], rfl, fun j y h => by simp at h⟩
  | n + 1, h => by
    obtain ⟨l, hl, hp⟩ := list_of n (fun i hi => h i (by omega))
    obtain ⟨y, hy⟩ := h n (by omega)
    refine ⟨l ++ [y], by simp [hl], fun j z hz => ?_⟩
    by_cases hj : j < l.length
    · rw [List.getElem?_append_left hj] at hz; exact hp j z hz
    · rw [List.getElem?_append_right (by omega)] at hz
      have hj0 : j - l.length = 0 := by
        cases he : j - l.length with
        | zero => rfl
        | succ k => rw [he] at hz; simp at hz
      rw [hj0] at hz
      have e : y = z := by simpa using hz
      have e2 : j = n := by omega
      rw [← e, e2]; exact hy
set_option maxRecDepth 100000 in
theorem opn_slice {d : Kd α} {t e : TypeId} {wf : α → Prop} (E : Nat) (ht : Try.prog.underlying t = some (.slice e)) (h : Opn enc W d e wf) (hs : Try.prog.cellsOf e = d.sz) : Opn enc W (Kd.slice E d) t (fun l => ∀ x ∈ l, wf x) := fun fuel cs x hx => by
  rcases Go.Deep.open_slice ht hx with ⟨rfl, _⟩ | ⟨a, len, cap, m, n, D, Pl, rfl, _, hl, hm, hmm, _, hel⟩
  · exact ⟨[], ⟨none, 0, rfl, Nat.le_refl _, Kd.C_nil d W⟩, by simp⟩
  · have hmm : m = cap := by simpa using hmm
    subst hmm
    obtain ⟨l, hll, hlp⟩ := list_of (P := fun i y => wf y ∧ ∃ c, c.length = d.sz ∧ d.K W y c ∧ ∀ j u, c[j]? = some u → W.cell? (a.add (i * d.sz + j)) = some u) len (fun i hi => by
      obtain ⟨cs', h1, h2⟩ := hel i (by omega)
      obtain ⟨y, hk, hw⟩ := h _ _ _ h2
      obtain ⟨_, h4, h5⟩ := World.cells?_some h1
      refine ⟨y, hw, cs', by rw [h4, hs], hk, fun j u hu => ?_⟩
      have hj : j < cs'.length := (List.getElem?_eq_some_iff.1 hu).1
      have h6 := h5 j (by omega)
      rw [hu, hs] at h6
      rw [← h6]
      congr 1
      by_cases hj0 : j = 0 <;> by_cases hi0 : i * d.sz = 0 <;> simp [Addr.add, hj0, hi0, Nat.add_assoc])
    refine ⟨l, ⟨some a, m, by rw [hll], by omega, hll ▸ rfl, ?_, fun _ => ⟨a, rfl, fun j p hj => (hlp j p hj).2⟩⟩, fun y hy => ?_⟩
    · rw [hll]; unfold maxLen at hm; omega
    · obtain ⟨j, hj⟩ := List.getElem?_of_mem hy
      exact (hlp j y hj).1
theorem opn_field {t : TypeId} {fs : Array Field} {fuel : Nat} {cs : List Value} {x : DataW H × List MemPlace} (ht : Try.prog.underlying t = some (.struct fs)) (hx : DataW.trod enc Try.prog W 0 (fun _ => true) true fuel t cs = some x)
    (i : Nat) {f : Field} (hi : fs[i]? = some f) {d : Kd α} {wf : α → Prop} (ho : Opn enc W d f.type wf) {n : Nat} (hn : Try.prog.cellsOf f.type = n) : ∃ a, d.K W a ((cs.drop f.offset).take n) ∧ wf a := by
  obtain ⟨xs, m, _, _, _, hlen, hf⟩ := DataW.trod_struct ht hx
  have hlt : i < fs.size := (Array.getElem?_eq_some_iff.1 hi).1
  have h1 := hf i f hi
  rw [List.getElem?_eq_getElem (by omega)] at h1
  rw [← hn]
  exact ho _ _ _ h1
theorem opn_size {t : TypeId} {fs : Array Field} {fuel : Nat} {cs : List Value} {x : DataW H × List MemPlace} (ht : Try.prog.underlying t = some (.struct fs)) (hx : DataW.trod enc Try.prog W 0 (fun _ => true) true fuel t cs = some x) : cs.length = Try.prog.cellsOf t := by
  obtain ⟨xs, m, _, _, h, _⟩ := DataW.trod_struct ht hx
  exact h
theorem two_of {cs : List Value} (h : cs.length = 2) : ∃ c0 c1, cs = [c0, c1] := by
  match cs, h with
  | [c0, c1], _ => exact ⟨_, _, rfl⟩
theorem five_of {cs : List Value} (h : cs.length = 5) : ∃ c0 c1 c2 c3 c4, cs = [c0, c1, c2, c3, c4] := by
  match cs, h with
  | [c0, c1, c2, c3, c4], _ => exact ⟨_, _, _, _, _, rfl⟩
theorem seven_of {cs : List Value} (h : cs.length = 7) : ∃ c0 c1 c2 c3 c4 c5 c6, cs = [c0, c1, c2, c3, c4, c5, c6] := by
  match cs, h with
  | [c0, c1, c2, c3, c4, c5, c6], _ => exact ⟨_, _, _, _, _, _, _, rfl⟩
theorem opn_latch : Opn enc W kLatch 45 (fun x => I64 x.f0 ∧ I64 x.f1) := fun fuel cs x hx => by
  obtain ⟨c0, c1, rfl⟩ := two_of ((opn_size Try.underlying45 hx).trans (by kernel_rfl))
  obtain ⟨a0, h0, w0⟩ := opn_field Try.underlying45 hx 0 rfl (opn_int Try.underlying3) (n := 1) (by kernel_rfl)
  obtain ⟨a1, h1, w1⟩ := opn_field Try.underlying45 hx 1 rfl (opn_int Try.underlying3) (n := 1) (by kernel_rfl)
  cases h0
  cases h1
  exact ⟨⟨a0, a1⟩, kLatch_mk W ⟨a0, a1⟩, w0, w1⟩
theorem opn_gate : Opn enc W kGate 92 (fun x => I64 x.f0 ∧ I64 x.f1) := fun fuel cs x hx => by
  obtain ⟨c0, c1, rfl⟩ := two_of ((opn_size Try.underlying92 hx).trans (by kernel_rfl))
  obtain ⟨a0, h0, w0⟩ := opn_field Try.underlying92 hx 0 rfl (opn_int Try.underlying3) (n := 1) (by kernel_rfl)
  obtain ⟨a1, h1, w1⟩ := opn_field Try.underlying92 hx 1 rfl (opn_int Try.underlying3) (n := 1) (by kernel_rfl)
  cases h0
  cases h1
  exact ⟨⟨a0, a1⟩, kGate_mk W ⟨a0, a1⟩, w0, w1⟩
theorem opn_ints : Opn enc W (Kd.slice 3 (Kd.int .i64)) 24 (fun l => ∀ x ∈ l, I64 x) := opn_slice _ Try.underlying24 (opn_int Try.underlying3) (by kernel_rfl)
theorem opn_gates : Opn enc W (Kd.slice 92 kGate) 23 (fun l => ∀ x ∈ l, I64 x.f0 ∧ I64 x.f1) := opn_slice _ Try.underlying23 opn_gate (by kernel_rfl)
theorem opn_latches : Opn enc W (Kd.slice 45 kLatch) 22 (fun l => ∀ x ∈ l, I64 x.f0 ∧ I64 x.f1) := opn_slice _ Try.underlying22 opn_latch (by kernel_rfl)
/-- The numbers of a circuit, a predicate, a lift are of 64 bits. -/
structure Circ.Nums (c : Circ) : Prop where
  i0 : I64 c.f0
  i1 : ∀ x ∈ c.f1, I64 x.f0 ∧ I64 x.f1
  i2 : ∀ x ∈ c.f2, I64 x.f0 ∧ I64 x.f1
  i3 : ∀ x ∈ c.f3, I64 x
  i4 : ∀ x ∈ c.f4, I64 x
structure Lf.Nums (l : Lf) : Prop where
  i0 : I64 l.f0
  i1 : I64 l.f1
  i2 : ∀ x ∈ l.f2, I64 x
  i3 : ∀ r ∈ l.f3, ∀ x ∈ r, I64 x
  i4 : ∀ x ∈ l.f4, I64 x
  ig : ∀ x ∈ l.f5.f0, I64 x.f0 ∧ I64 x.f1
  il : I64 l.f5.f1
theorem opn_circ : Opn enc W kCirc 26 Circ.Nums := fun fuel cs x hx => by
  have hu := Try.underlying26
  obtain ⟨c0, c1, c2, c3, c4, rfl⟩ := five_of ((opn_size hu hx).trans (by kernel_rfl))
  obtain ⟨a0, h0, w0⟩ := opn_field hu hx 0 rfl (opn_int Try.underlying3) (n := 1) (by kernel_rfl)
  obtain ⟨a1, h1, w1⟩ := opn_field hu hx 1 rfl opn_latches (n := 1) (by kernel_rfl)
  obtain ⟨a2, h2, w2⟩ := opn_field hu hx 2 rfl opn_gates (n := 1) (by kernel_rfl)
  obtain ⟨a3, h3, w3⟩ := opn_field hu hx 3 rfl opn_ints (n := 1) (by kernel_rfl)
  obtain ⟨a4, h4, w4⟩ := opn_field hu hx 4 rfl opn_ints (n := 1) (by kernel_rfl)
  obtain ⟨A1, k1, e1, l1, g1⟩ := h1
  obtain ⟨A2, k2, e2, l2, g2⟩ := h2
  obtain ⟨A3, k3, e3, l3, g3⟩ := h3
  obtain ⟨A4, k4, e4, l4, g4⟩ := h4
  cases h0
  cases e1
  cases e2
  cases e3
  cases e4
  exact ⟨⟨a0, a1, a2, a3, a4⟩, kCirc_mk W ⟨a0, a1, a2, a3, a4⟩ l1 g1 l2 g2 l3 g3 l4 g4, w0, w1, w2, w3, w4⟩
end
section
variable {H : Type} {enc : TypeId × Value → H} {W : World} {α β : Type}
theorem opn_pr : Opn enc W kPr 31 (fun x => (∀ g ∈ x.f0, I64 g.f0 ∧ I64 g.f1) ∧ I64 x.f1) := fun fuel cs x hx => by
  obtain ⟨c0, c1, rfl⟩ := two_of ((opn_size Try.underlying31 hx).trans (by kernel_rfl))
  obtain ⟨a0, h0, w0⟩ := opn_field Try.underlying31 hx 0 rfl opn_gates (n := 1) (by kernel_rfl)
  obtain ⟨a1, h1, w1⟩ := opn_field Try.underlying31 hx 1 rfl (opn_int Try.underlying3) (n := 1) (by kernel_rfl)
  obtain ⟨A1, k1, e1, l1, g1⟩ := h0
  cases e1
  cases h1
  exact ⟨⟨a0, a1⟩, kPr_mk W ⟨a0, a1⟩ l1 g1, w0, w1⟩
theorem opn_rows : Opn enc W (Kd.slice 24 (Kd.slice 3 (Kd.int .i64))) 29 (fun l => ∀ r ∈ l, ∀ x ∈ r, I64 x) := opn_slice _ Try.underlying29 opn_ints (by kernel_rfl)
theorem opn_lf : Opn enc W kLf 33 Lf.Nums := fun fuel cs x hx => by
  have hu := Try.underlying33
  obtain ⟨c0, c1, c2, c3, c4, c5, c6, rfl⟩ := seven_of ((opn_size hu hx).trans (by kernel_rfl))
  obtain ⟨a0, h0, w0⟩ := opn_field hu hx 0 rfl (opn_int Try.underlying3) (n := 1) (by kernel_rfl)
  obtain ⟨a1, h1, w1⟩ := opn_field hu hx 1 rfl (opn_int Try.underlying3) (n := 1) (by kernel_rfl)
  obtain ⟨a2, h2, w2⟩ := opn_field hu hx 2 rfl opn_ints (n := 1) (by kernel_rfl)
  obtain ⟨a3, h3, w3⟩ := opn_field hu hx 3 rfl opn_rows (n := 1) (by kernel_rfl)
  obtain ⟨a4, h4, w4⟩ := opn_field hu hx 4 rfl opn_ints (n := 1) (by kernel_rfl)
  obtain ⟨a5, h5, w5⟩ := opn_field hu hx 5 rfl opn_pr (n := 2) (by kernel_rfl)
  obtain ⟨A2, k2, e2, l2, g2⟩ := h2
  obtain ⟨A3, k3, e3, l3, g3⟩ := h3
  obtain ⟨A4, k4, e4, l4, g4⟩ := h4
  obtain ⟨A5, k5, e5, l5, g5⟩ := kPr_open h5
  cases h0
  cases h1
  cases e2
  cases e3
  cases e4
  cases e5
  exact ⟨⟨a0, a1, a2, a3, a4, a5⟩, kLf_mk W ⟨a0, a1, a2, a3, a4, a5⟩ l2 g2 l3 g3 l4 g4 l5 g5, w0, w1, w2, w3, w4, w5.1, w5.2⟩
set_option maxRecDepth 100000 in
theorem arg_lf {v : Value} {d : DataW H} {ps : List MemPlace} {r : Reach} {base : Nat} (hv : Value.okWide Try.prog W r base 33 v) (h : DataW.Trod enc Try.prog W 0 (fun _ => true) true 33 v d ps) : ∃ p c, v = lv p c ∧ RL W p c ∧ c.Nums := by
  obtain ⟨cs, rfl, _⟩ := okWide_struct Try.underlying33 hv
  obtain ⟨fuel, hf⟩ := h
  obtain ⟨a, hk, hw⟩ := opn_lf _ _ _ hf
  obtain ⟨A2, c2, A3, c3, A4, c4, A5, c5, e, l2, g2, l3, g3, l4, g4, l5, g5⟩ := kLf_open hk
  refine ⟨⟨A2, c2, A3, c3, A4, c4, A5, c5⟩, a, ?_, ⟨⟨g2, l2⟩, ⟨g3, l3⟩, ⟨g4, l4⟩, ⟨g5, l5⟩⟩, hw⟩
  have e' : cs.toList = _ := e
  rw [← Array.toArray_toList (xs := cs), e']
end
section
variable {H : Type} {enc : TypeId × Value → H} {W : World}
set_option maxRecDepth 100000 in
theorem arg_circ {v : Value} {d : DataW H} {ps : List MemPlace} {r : Reach} {base : Nat} (hv : Value.okWide Try.prog W r base 26 v) (h : DataW.Trod enc Try.prog W 0 (fun _ => true) true 26 v d ps) : ∃ p c, v = cv p c ∧ RC W p c ∧ c.Nums := by
  obtain ⟨cs, rfl, _⟩ := okWide_struct Try.underlying26 hv
  obtain ⟨fuel, hf⟩ := h
  obtain ⟨a, hk, hw⟩ := opn_circ _ _ _ hf
  obtain ⟨p, e, hr⟩ := RC.of_K hk
  refine ⟨p, a, ?_, hr, hw⟩
  rw [← e]
  show Value.agg cs = .agg (Value.cells (.agg cs)).toList.toArray
  simp [Value.cells]
end
end Go.Proofs.Ytpoadkogcdfglaa.PH
