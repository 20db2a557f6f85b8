/- Frames, one behind the other: what is built. -/
import Derived.Test.YtpoadkogcdfglaaHBldG
import Derived.Test.YtpoadkogcdfglaaHIdent
import Derived.Test.YtpoadkogcdfglaaHOpen
namespace Go.Proofs.Ytpoadkogcdfglaa.PH
open Go.RowKit Go.Proofs.YtpoadkogcdfglaaW.PrintWords Go.Proofs.YtpoadkogcdfglaaW.PrintLast
set_option linter.unusedVariables false
set_option linter.unusedSimpArgs false

/-- What is in a valid circuit. -/
structure CBnd (c : Circ) : Prop where
  h0 : 0 ≤ c.f0
  n : c.f0.toNat + c.f1.length + c.f2.length ≤ 1000
  b : c.f3.length ≤ 100
  k : c.f4.length ≤ 100
  bs : ∀ x ∈ c.f3 ++ c.f4, 0 ≤ x ∧ (x / 2).toNat ≤ c.f0.toNat + c.f1.length + c.f2.length
  ls : ∀ x ∈ c.f1, 0 ≤ x.f0 ∧ (x.f0 / 2).toNat ≤ c.f0.toNat + c.f1.length + c.f2.length
  rs : ∀ x ∈ c.f1, 0 ≤ x.f1 ∧ x.f1 ≤ 2
  gs : ∀ j, ∀ h : j < c.f2.length, 0 ≤ (c.f2[j]).f1 ∧ (c.f2[j]).f1 ≤ (c.f2[j]).f0 ∧ ((c.f2[j]).f0 / 2).toNat ≤ c.f0.toNat + c.f1.length + j
theorem gAnds_at {s : Int} : ∀ (l : List Gate) (i : Int), gAnds s l i = true → ∀ j, ∀ h : j < l.length, 0 ≤ (l[j]).f1 ∧ (l[j]).f1 ≤ (l[j]).f0 ∧ (l[j]).f0 < 2 * (s + i + j)
  | [], _, _, j, h => by simp at h
  | g :: gs, i, hg, j, h => by
    unfold gAnds at hg
    by_cases h1 : g.f1 < 0
    · rw [if_pos h1] at hg; cases hg
    rw [if_neg h1] at hg
    by_cases h2 : g.f0 < g.f1
    · rw [if_pos h2] at hg; cases hg
    rw [if_neg h2] at hg
    by_cases h3 : 2 * (s + i) ≤ g.f0
    · rw [if_pos h3] at hg; cases hg
    rw [if_neg h3] at hg
    cases j with
    | zero =>
      show 0 ≤ g.f1 ∧ g.f1 ≤ g.f0 ∧ g.f0 < 2 * (s + i + ((0 : Nat) : Int))
      refine ⟨by omega, by omega, by omega⟩
    | succ j =>
      have h4 := gAnds_at gs (i + 1) hg j (by simpa using h)
      refine ⟨h4.1, h4.2.1, ?_⟩
      have := h4.2.2
      simp only [List.getElem_cons_succ]
      omega
theorem cbnd_of {c : Circ} (h : check c = 0) : CBnd c := by
  have hc := gCheck_ok h
  unfold check gCheck at h
  split at h
  · cases h
  split at h
  · cases h
  split at h
  · cases h
  split at h
  · cases h
  split at h
  · cases h
  split at h
  · cases h
  split at h
  · cases h
  split at h
  case isFalse => cases h
  rename_i q1 q2 q3 q4 q5 q6 q7 q8
  have hlit : ∀ (x : Int), gOut (1 + c.f0 + (c.f1.length : Int) + c.f2.length) x = false → 0 ≤ x ∧ (x / 2).toNat ≤ c.f0.toNat + c.f1.length + c.f2.length := fun x hx => by
    unfold gOut at hx
    simp at hx
    omega
  have hrow : ∀ (l : List Int), ¬ l.any (gOut (1 + c.f0 + (c.f1.length : Int) + c.f2.length)) = true → ∀ x ∈ l, 0 ≤ x ∧ (x / 2).toNat ≤ c.f0.toNat + c.f1.length + c.f2.length := fun l q x hx =>
    hlit x (Bool.eq_false_iff.2 fun h2 => q (List.any_eq_true.2 ⟨x, hx, h2⟩))
  have hlat : ∀ x ∈ c.f1, gWrong (1 + c.f0 + (c.f1.length : Int) + c.f2.length) x = false := fun x hx => Bool.eq_false_iff.2 fun h2 => q7 (List.any_eq_true.2 ⟨x, hx, h2⟩)
  refine ⟨hc.1, by omega, by unfold mx at q4; split at q4 <;> omega, by unfold mx at q4; split at q4 <;> omega, fun x hx => ?_, fun x hx => ?_, fun x hx => ?_, fun j hj => ?_⟩
  · rcases List.mem_append.1 hx with hx | hx
    · exact hrow _ q5 x hx
    · exact hrow _ q6 x hx
  · have h1 := hlat x hx
    unfold gWrong at h1
    simp only [Bool.or_eq_false_iff] at h1
    exact hlit x.f0 h1.1.1
  · have h1 := hlat x hx
    unfold gWrong at h1
    simp only [Bool.or_eq_false_iff, decide_eq_false_iff_not] at h1
    omega
  · have h1 := gAnds_at _ _ q8 j hj
    refine ⟨h1.1, h1.2.1, ?_⟩
    omega
theorem CBnd.fin {c : Circ} (h : CBnd c) : FIn c (1 + c.f0.toNat + c.f1.length) := by
  have h1 := h.n
  have h0 := h.h0
  refine ⟨⟨h0, by omega⟩, by omega, by omega, by have := h.b; omega, by have := h.k; omega, rfl, fun j hj => ?_, fun x hx => ?_, fun x hx => ?_, fun x hx => ?_⟩
  · have h2 := h.gs j hj
    exact ⟨⟨by omega, by omega⟩, by omega, by omega⟩
  · have := h.ls x hx; exact ⟨this.1, by omega⟩
  · have := h.bs x (List.mem_append_left _ hx); exact ⟨this.1, by omega⟩
  · have := h.bs x (List.mem_append_right _ hx); exact ⟨this.1, by omega⟩
/-- What a frame keeps. -/
structure FOk (n : Int) (f : Circ) (a : Nat) (R : FrameB) : Prop where
  g : ∀ z ∈ R.ands, I64 z.f0 ∧ I64 z.f1
  n : R.ands.length ≤ a + 3000
  l : R.nexts.length = f.f1.length
  x : ∀ x ∈ R.nexts, LB x
  b : LB R.bad
  r : LB R.right
theorem told_ok {f : Circ} {m : Nat} (hf : FIn f m) {ands : List Gate} (hg : ∀ z ∈ ands, I64 z.f0 ∧ I64 z.f1) {input : Int} (hi : 0 ≤ input ∧ input ≤ 10000) {state : List Int} (hs : state.length = f.f1.length) (hb : ∀ x ∈ state, LB x) : TOk (ands, bTold f input state) ands.length m := by
  refine ⟨hg, fun x hx => ?_, Nat.le_refl _, ?_⟩
  · rcases List.mem_cons.1 hx with rfl | hx
    · exact LB.zero
    · rcases List.mem_append.1 hx with hx | hx
      · obtain ⟨q, hq, rfl⟩ := List.mem_map.1 hx
        have := List.mem_range.1 hq
        have := hf.i
        exact ⟨by omega, by omega⟩
      · exact hb x hx
  · show (0 :: (bIns input f.f0.toNat ++ state)).length = m
    rw [List.length_cons, List.length_append, bIns_len, hs, hf.mm]
    omega
theorem bFrame_ok {n : Int} (hn : 0 ≤ n) (hn1 : n ≤ 200000) {f : Circ} {m : Nat} (hf : FIn f m) {ands : List Gate} (ha : ands.length ≤ 80000) (hg : ∀ z ∈ ands, I64 z.f0 ∧ I64 z.f1) {input : Int} (hi : 0 ≤ input ∧ input ≤ 10000) {state : List Int} (hs : state.length = f.f1.length) (hb : ∀ x ∈ state, LB x) :
    FOk n f ands.length (bFrame n f ands input state) := by
  have h1 := bGates_ok hn hn1 hf (told_ok hf hg hi hs hb) (by omega) f.f2.length (Nat.le_refl _)
  rw [List.take_length] at h1
  unfold bFrame
  obtain ⟨⟨an, T⟩, he⟩ : ∃ r, bGates n f.f2 (ands, bTold f input state) = r := ⟨_, rfl⟩
  rw [he] at h1 ⊢
  dsimp only
  have hm := hf.mm
  have h2 := hf.i
  have h3 := hf.l
  have h4 := hf.g
  have h5 := h1.n
  have h6 := h1.m
  dsimp only at h5 h6
  have lin : ∀ x : Int, 0 ≤ x ∧ (x / 2).toNat < m + f.f2.length → LB (bLit T x) := fun x hx => bLit_ok h1.t ⟨hx.1, by omega, by dsimp only; omega⟩
  have hl3 : ∀ x ∈ f.f3.map (bLit T), LB x := fun x hx => by obtain ⟨y, hy, rfl⟩ := List.mem_map.1 hx; exact lin y (hf.bs y hy)
  have hl4 : ∀ x ∈ f.f4.map (bLit T), LB x := fun x hx => by obtain ⟨y, hy, rfl⟩ := List.mem_map.1 hx; exact lin y (hf.cs y hy)
  have h7 := hf.b
  have h8 := hf.c
  have c1 := (bOr_op hn hn1).chain (none := 0) (ands := an) (l := f.f3.map (bLit T)) (by rw [List.length_map]; omega) LB.zero hl3 h1.g
  have e1 : bAny n an (f.f3.map (bLit T)) = bChain (bOr n) 0 an (f.f3.map (bLit T)) := rfl
  rw [← e1] at c1
  generalize bAny n an (f.f3.map (bLit T)) = r3 at *
  rw [List.length_map] at c1
  have c2 := (bAnd_op hn hn1).chain (none := 1) (ands := r3.1) (l := f.f4.map (bLit T)) (by rw [List.length_map]; omega) LB.one hl4 c1.2.1
  have e2 : bAll n r3.1 (f.f4.map (bLit T)) = bChain (bAnd n) 1 r3.1 (f.f4.map (bLit T)) := rfl
  rw [← e2] at c2
  rw [List.length_map] at c2
  exact ⟨c2.2.1, by dsimp only; omega, by rw [List.length_map], fun x hx => by obtain ⟨y, hy, rfl⟩ := List.mem_map.1 hx; exact lin y.f0 (hf.ls y hy), c1.1, c2.1⟩
/-- So many frames: the gates, the state behind them, whether all is right so far, what is hoped for. -/
structure Ph where
  ands : List Gate
  state : List Int
  sofar : Int
  hopes : List Int
def phStep (n : Int) (c : Circ) (input : Int) (s : Ph) : Ph :=
  let f := bFrame n c s.ands input s.state
  let a := bAnd n f.ands s.sofar f.right
  let h := bAnd n a.1 f.bad a.2
  ⟨h.1, f.nexts, a.2, s.hopes ++ [h.2]⟩
def phRun (n : Int) (c : Circ) (fr : Nat → Int) (s : Ph) : Nat → Ph
  | 0 => s
  | j + 1 => phStep n c (fr j) (phRun n c fr s j)
structure PhOk (c : Circ) (j : Nat) (s : Ph) : Prop where
  g : ∀ z ∈ s.ands, I64 z.f0 ∧ I64 z.f1
  n : s.ands.length ≤ j * 3002
  l : s.state.length = c.f1.length
  x : ∀ x ∈ s.state, LB x
  r : LB s.sofar
  h : s.hopes.length = j
  y : ∀ x ∈ s.hopes, LB x
theorem PhOk.step {n : Int} (hn : 0 ≤ n) (hn1 : n ≤ 200000) {c : Circ} {m : Nat} (hf : FIn c m) {input : Int} (hi : 0 ≤ input ∧ input ≤ 10000) {j : Nat} (hj : j ≤ 20) {s : Ph} (h : PhOk c j s) : PhOk c (j + 1) (phStep n c input s) := by
  have h1 := bFrame_ok hn hn1 hf (ands := s.ands) (by have := h.n; omega) h.g hi h.l h.x
  unfold phStep
  generalize bFrame n c s.ands input s.state = f at *
  have o := bAnd_op hn hn1
  have h2 := h.n
  have h3 := h1.n
  have a1 := o.n f.ands s.sofar f.right
  have a2 := o.g f.ands s.sofar f.right h1.g h.r h1.r
  have a3 := o.l f.ands s.sofar f.right (by omega) h.r h1.r
  dsimp only
  generalize bAnd n f.ands s.sofar f.right = a at *
  have b1 := o.n a.1 f.bad a.2
  have b2 := o.g a.1 f.bad a.2 a2 h1.b a3
  have b3 := o.l a.1 f.bad a.2 (by omega) h1.b a3
  exact ⟨b2, by dsimp only; omega, h1.l, h1.x, a3, by rw [List.length_append, h.h]; rfl, fun x hx => by
    rcases List.mem_append.1 hx with hx | hx
    · exact h.y x hx
    · rw [List.mem_singleton.1 hx]; exact b3⟩
theorem PhOk.run {n : Int} (hn : 0 ≤ n) (hn1 : n ≤ 200000) {c : Circ} {m : Nat} (hf : FIn c m) {fr : Nat → Int} {s : Ph} (h : PhOk c 0 s) : ∀ j, j ≤ 20 → (∀ i, i < j → 0 ≤ fr i ∧ fr i ≤ 10000) → PhOk c j (phRun n c fr s j)
  | 0, _, _ => h
  | j + 1, hj, hi => (PhOk.run hn hn1 hf h j (by omega) (fun i h2 => hi i (by omega))).step hn hn1 hf (hi j (by omega)) (by omega)
theorem lasOf_ok {x : Int} (h0 : 0 ≤ x) (h1 : x ≤ 10000) {n : Nat} (hn : n ≤ 1000) : ∀ y ∈ lasOf x n, LB y := fun y hy => by
  obtain ⟨q, hq, rfl⟩ := List.mem_map.1 hy
  have := List.mem_range.1 hq
  exact ⟨by omega, by omega⟩
/-- The start. -/
def ph0 (x : Int) (c : Circ) : Ph := ⟨[], lasOf x c.f1.length, 1, []⟩
theorem ph0_ok {x : Int} (h0 : 0 ≤ x) (h1 : x ≤ 10000) {c : Circ} (hc : c.f1.length ≤ 1000) : PhOk c 0 (ph0 x c) :=
  ⟨fun z hz => by simp [ph0] at hz, Nat.le_refl _, lasOf_len _ _, lasOf_ok h0 h1 hc, LB.one, rfl, fun z hz => by simp [ph0] at hz⟩
/-- Latches with other Nexts. -/
def setNexts (ls : List Latch) (st : List Int) : List Latch := List.zipWith (fun l x => ⟨x, l.f1⟩) ls st
theorem setNexts_len {ls : List Latch} {st : List Int} (h : st.length = ls.length) : (setNexts ls st).length = ls.length := by simp [setNexts, h]
/-- So many have other Nexts. -/
def someNexts (ls : List Latch) (st : List Int) (i : Nat) : List Latch := setNexts (ls.take i) (st.take i) ++ ls.drop i
theorem someNexts_len {ls : List Latch} {st : List Int} (h : st.length = ls.length) (i : Nat) : (someNexts ls st i).length = ls.length := by
  unfold someNexts setNexts
  rw [List.length_append, List.length_zipWith, List.length_take, List.length_take, List.length_drop, h]
  omega
theorem someNexts_all {ls : List Latch} {st : List Int} (h : st.length = ls.length) : someNexts ls st ls.length = setNexts ls st := by
  unfold someNexts
  rw [List.take_length, List.drop_length, List.append_nil, ← h, List.take_length]
theorem someNexts_succ {ls : List Latch} {st : List Int} (h : st.length = ls.length) {i : Nat} (hi : i < ls.length) : (someNexts ls st i).set i ⟨st[i]'(by omega), ls[i].f1⟩ = someNexts ls st (i + 1) ∧ (someNexts ls st i)[i]'(by rw [someNexts_len h]; exact hi) = ls[i] := by
  have hl : (setNexts (ls.take i) (st.take i)).length = i := by unfold setNexts; rw [List.length_zipWith, List.length_take, List.length_take]; omega
  constructor
  · unfold someNexts
    rw [List.set_append_right _ _ (by omega), hl, Nat.sub_self, List.drop_eq_getElem_cons hi, List.set_cons_zero, List.take_add_one, List.take_add_one, List.getElem?_eq_getElem hi, List.getElem?_eq_getElem (by omega)]
    unfold setNexts
    simp only [Option.toList_some]
    rw [List.zipWith_append (by simp only [List.length_take]; omega), List.append_assoc]
    rfl
  · unfold someNexts
    rw [List.getElem_append_right (by omega)]
    simp [hl]
/-- The latches, but for the first cell of one. -/
theorem Parts.putNext {b : Nat} {w0 w : World} {ps : List Pc} {g n cap : Nat} {xs : List Latch} (h : Parts b w0 w ps) (i : Nat) (hi : ps[i]? = some (pF b kLatch 45 (.slice (some ⟨g, 0, none⟩) n cap) xs)) (j : Nat) (hj : j < xs.length) (x : Int) :
    Parts b w0 (w.setCell ⟨g, j * 2, none⟩ (.int .i64 x)) (ps.set i (pF b kLatch 45 (.slice (some ⟨g, 0, none⟩) n cap) (xs.set j ⟨x, xs[j].f1⟩))) := by
  have hn := (Kd.R_reads' (h.ownF i hi)).1
  obtain ⟨c, hcl, hM, hcc, _⟩ := Kd.R_elem (h.ownF i hi) ⟨0, 0⟩ (j : Int) (by omega) (by omega)
  have hcl2 : c.length = 2 := hcl
  rw [Int.toNat_natCast, List.getD_eq_getElem?_getD, List.getElem?_eq_getElem hj] at hM
  obtain rfl := kLatch_open (kLatch.K_of_M hM)
  have h2 := Kd.R_seg (h.ownF i hi) (j : Int) (by omega) (by omega) (c := _) (seg := [.int .i64 x]) (j := 0) hcl hcc (by show 0 + 1 ≤ 2; omega) (x' := ⟨x, xs[j].f1⟩) (okp := fun _ => False) (kLatch_mkM _ _ _ _) (fun _ hk => hk.elim)
  rw [Int.toNat_natCast] at h2
  exact h.app i hi flat_latch h2.1 h2.2 (.inl rfl)
theorem Parts.latOne {b : Nat} {w0 w : World} {ps : List Pc} {n cap : Nat} {A : Option Addr} {xs : List Latch} (h : Parts b w0 w ps) (i : Nat) (hi : ps[i]? = some (pF b kLatch 45 (.slice A n cap) xs)) (j : Nat) (hj : j < xs.length) :
    ∃ g, A = some ⟨g, 0, none⟩ ∧ (w.cell? ⟨g, j * 2, none⟩ = some (.int .i64 xs[j].f0) ∧ w.frozen? ⟨g, j * 2, none⟩ = false) := by
  obtain ⟨ad, rfl, h0, h1⟩ := at_latch (h.rowF i hi).r j hj
  obtain ⟨inner, ho, hr⟩ := (h.ownF i hi).2
  rcases ho.2 with ⟨he, _⟩ | ⟨g, cap', cur, he, hg, hh, r⟩
  · cases he
  · cases he
    have e : (⟨g, 0, none⟩ : Addr).add (j * 2) = ⟨g, j * 2, none⟩ := by by_cases hz : j * 2 = 0 <;> simp [Addr.add, hz]
    rw [e] at h0
    exact ⟨g, rfl, h0, blk_frozen hh _⟩
theorem R_oneB (W : World) (x : Int) (base t : Nat) (hb : base ≤ W.heap.size) : Kd.R (Kd.int .i64) t (W.alloc (.cells #[.int .i64 x] t)) base (fun _ => True) (.slice (some ⟨W.heap.size, 0, none⟩) 1 1) [x] :=
  ⟨fun _ _ => trivial, [.int .i64 x], (by have h := World.ownsRow_lit (base := base) (e := t) (size := 1) W #[.int .i64 x] 1 hb (by decide) rfl; simpa using h : (W.alloc (.cells #[.int .i64 x] t)).ownsRow base t 1 (.slice (some ⟨W.heap.size, 0, none⟩) 1 1) 1 [.int .i64 x]), Kd.reps_scalar (enc := Value.int .i64) [x]⟩
end Go.Proofs.Ytpoadkogcdfglaa.PH
