/- The law PredsNames: what its calls answer, in plain Lean; the rows that it makes. -/
import Derived.Test.YtgcdanpihaeioaaHLawWords
namespace Go.Proofs.Ytgcdanpihaeioaa.PH
open Go.RowKit Go.Proofs.YtgcdanpihaeioaaW.PrintWords Go.Proofs.YtgcdanpihaeioaaW.PrintLast
set_option linter.unusedVariables false
set_option linter.unusedSimpArgs false

def badsL : List Pr := [⟨[⟨2, 3⟩], 0⟩, ⟨[⟨6, 2⟩], 0⟩, ⟨[⟨3, -1⟩], 0⟩, ⟨[], 6⟩, ⟨[], -1⟩]
def badP (i : Nat) : Pr := badsL.getD i zeroP
def badA (s i : Nat) : Option Addr := if i < 3 then some ⟨s + i, 0, none⟩ else none
def badK (i : Nat) : Nat := if i < 3 then 1 else 0
def twoC : Circ := ⟨2, [], [], [], []⟩
theorem two_fits : twoC.Fits := ⟨by decide, by decide, ⟨by decide, by decide⟩, by simp [twoC], by simp [twoC], by simp [twoC], by simp [twoC]⟩
def BadQ (p : Pr) : Prop := andP 2 zeroP p = (zeroP, 8) ∧ orP 2 p zeroP = (zeroP, 8) ∧ notP 2 p = (zeroP, 8) ∧ predCheck 2 p = 8 ∧ putC twoC p [2, 4] = (zeroC, 0, 8)
theorem bads_q (i : Nat) (hi : i < 5) : BadQ (badP i) := by
  match i, hi with
  | 0, _ => unfold BadQ; decide +kernel
  | 1, _ => unfold BadQ; decide +kernel
  | 2, _ => unfold BadQ; decide +kernel
  | 3, _ => unfold BadQ; decide +kernel
  | 4, _ => unfold BadQ; decide +kernel
instance (x : Int) : Decidable (I64 x) := inferInstanceAs (Decidable (_ ∧ _))
theorem bads_fits (i : Nat) (hi : i < 5) : (badP i).Fits := by
  match i, hi with
  | 0, _ => exact ⟨by decide, by decide, by decide⟩
  | 1, _ => exact ⟨by decide, by decide, by decide⟩
  | 2, _ => exact ⟨by decide, by decide, by decide⟩
  | 3, _ => exact ⟨by decide, by decide, by decide⟩
  | 4, _ => exact ⟨by decide, by decide, by decide⟩
theorem zero_fits : zeroP.Fits := ⟨by decide, by decide, by decide⟩
/-- A row of one gate. -/
theorem RS.one_gate {w : World} {g : Nat} {t : TypeId} {x y : Int} (h : w.heap[g]? = some (.cells #[.int .i64 x, .int .i64 y] t (0, 0))) : RS kGate w (some ⟨g, 0, none⟩) 1 [⟨x, y⟩] :=
  RS.row (by simp) (by simp) (fun j p hj => by
    match j, hj with
    | 0, hj =>
      have e : (⟨x, y⟩ : Gate) = p := by simpa using hj
      subst e
      refine ⟨[.int .i64 x, .int .i64 y], rfl, kGate_mk w ⟨x, y⟩, fun i u hu => ?_⟩
      match i, hu with
      | 0, hu => have e : Value.int .i64 x = u := by simpa using hu
                 subst e; exact (blk_cell h 0).trans rfl
      | 1, hu => have e : Value.int .i64 y = u := by simpa using hu
                 subst e; exact (blk_cell h 1).trans rfl
    | j + 1, hj => simp at hj)
/-- The row of predicates that are not right. -/
structure Bads (g s : Nat) (w : World) : Prop where
  b : w.heap[g]? = some (.cells #[.slice (some ⟨s, 0, none⟩) 1 1, .int .i64 0, .slice (some ⟨s + 1, 0, none⟩) 1 1, .int .i64 0, .slice (some ⟨s + 2, 0, none⟩) 1 1, .int .i64 0, .slice none 0 0, .int .i64 6, .slice none 0 0, .int .i64 (-1)] 24 (0, 0))
  r0 : RS kGate w (some ⟨s, 0, none⟩) 1 [⟨2, 3⟩]
  r1 : RS kGate w (some ⟨s + 1, 0, none⟩) 1 [⟨6, 2⟩]
  r2 : RS kGate w (some ⟨s + 2, 0, none⟩) 1 [⟨3, -1⟩]
theorem Bads.below {g s : Nat} {w w2 : World} (h : Bads g s w) (hb : Below w.heap.size w w2) : Bads g s w2 :=
  ⟨blk_below h.b hb, h.r0.below hb, h.r1.below hb, h.r2.below hb⟩
theorem Bads.at {g s : Nat} {w : World} (h : Bads g s w) (i : Nat) (hi : i < 5) :
    (w.cell? ((⟨g, 0, none⟩ : Addr).add (i * 2)) = some (.slice (badA s i) (badP i).f0.length (badK i)) ∧ w.cell? ⟨((⟨g, 0, none⟩ : Addr).add (i * 2)).block, ((⟨g, 0, none⟩ : Addr).add (i * 2)).off + 1, none⟩ = some (.int .i64 (badP i).f1)) ∧ RS kGate w (badA s i) (badK i) (badP i).f0 := by
  match i, hi with
  | 0, _ => exact ⟨⟨(blk_cell h.b 0).trans rfl, (blk_cell h.b 1).trans rfl⟩, h.r0⟩
  | 1, _ => exact ⟨⟨(blk_cell h.b 2).trans rfl, (blk_cell h.b 3).trans rfl⟩, h.r1⟩
  | 2, _ => exact ⟨⟨(blk_cell h.b 4).trans rfl, (blk_cell h.b 5).trans rfl⟩, h.r2⟩
  | 3, _ => exact ⟨⟨(blk_cell h.b 6).trans rfl, (blk_cell h.b 7).trans rfl⟩, RS.nil _ _ _⟩
  | 4, _ => exact ⟨⟨(blk_cell h.b 8).trans rfl, (blk_cell h.b 9).trans rfl⟩, RS.nil _ _ _⟩
theorem bads_start (w : World) : Bads (w.heap.size + 3) w.heap.size ((((w.alloc (.cells #[.int .i64 2, .int .i64 3] 71)).alloc (.cells #[.int .i64 6, .int .i64 2] 71)).alloc (.cells #[.int .i64 3, .int .i64 (-1)] 71)).alloc
    (.cells #[.slice (some ⟨w.heap.size, 0, none⟩) 1 1, .int .i64 0, .slice (some ⟨w.heap.size + 1, 0, none⟩) 1 1, .int .i64 0, .slice (some ⟨w.heap.size + 2, 0, none⟩) 1 1, .int .i64 0, .slice none 0 0, .int .i64 6, .slice none 0 0, .int .i64 (-1)] 24)) := by
  have n1 := blk_new w (.cells #[.int .i64 2, .int .i64 3] 71)
  have n2 : ((w.alloc (.cells #[.int .i64 2, .int .i64 3] 71)).alloc (.cells #[.int .i64 6, .int .i64 2] 71)).heap[w.heap.size + 1]? = some (.cells #[.int .i64 6, .int .i64 2] 71 (0, 0)) := by simpa using blk_new (w.alloc (.cells #[.int .i64 2, .int .i64 3] 71)) (.cells #[.int .i64 6, .int .i64 2] 71)
  have n3 : (((w.alloc (.cells #[.int .i64 2, .int .i64 3] 71)).alloc (.cells #[.int .i64 6, .int .i64 2] 71)).alloc (.cells #[.int .i64 3, .int .i64 (-1)] 71)).heap[w.heap.size + 2]? = some (.cells #[.int .i64 3, .int .i64 (-1)] 71 (0, 0)) := by simpa using blk_new ((w.alloc (.cells #[.int .i64 2, .int .i64 3] 71)).alloc (.cells #[.int .i64 6, .int .i64 2] 71)) (.cells #[.int .i64 3, .int .i64 (-1)] 71)
  refine ⟨?_, RS.one_gate (blk_alloc (blk_alloc (blk_alloc n1 _) _) _), RS.one_gate (blk_alloc (blk_alloc n2 _) _), RS.one_gate (blk_alloc n3 _)⟩
  simpa using blk_new (((w.alloc (.cells #[.int .i64 2, .int .i64 3] 71)).alloc (.cells #[.int .i64 6, .int .i64 2] 71)).alloc (.cells #[.int .i64 3, .int .i64 (-1)] 71)) (.cells #[.slice (some ⟨w.heap.size, 0, none⟩) 1 1, .int .i64 0, .slice (some ⟨w.heap.size + 1, 0, none⟩) 1 1, .int .i64 0, .slice (some ⟨w.heap.size + 2, 0, none⟩) 1 1, .int .i64 0, .slice none 0 0, .int .i64 6, .slice none 0 0, .int .i64 (-1)] 24)

def manyP : Pr := ⟨List.replicate 1000 ⟨0, 0⟩, -1⟩
theorem many_len : manyP.f0.length = 1000 := List.length_replicate ..
theorem many_fits : manyP.Fits := ⟨by rw [many_len]; decide, fun x hx => by
  have h : x = ⟨0, 0⟩ := by have h_ : x ∈ List.replicate 1000 (⟨0, 0⟩ : Gate) := hx; exact List.eq_of_mem_replicate h_
  subst h; decide, by decide⟩
theorem many1 : predCheck (-1) manyP = 2 := by decide +kernel
theorem many2 : predCheck 1001 manyP = 2 := by decide +kernel
theorem many3 : predCheck 1 manyP = 4 := by decide +kernel
def negC : Circ := ⟨-1, [], [], [], []⟩
def bigC : Circ := ⟨1000, [], [], [], []⟩
def oneG : Circ := ⟨2, [], [⟨5, 3⟩], [], []⟩
def twoG : Circ := ⟨2, [], [⟨5, 3⟩, ⟨7, 3⟩], [], []⟩
def oneP : Pr := ⟨[⟨5, 3⟩], 2001⟩
def trueP : Pr := ⟨[], 1⟩
theorem cl1 : clausesP 1001 [] = (zeroP, 2) := by decide +kernel
theorem cl2 : clausesP 2 (List.replicate 1001 []) = (zeroP, 4) := by decide +kernel
theorem cl3 : clausesP 2 [[6]] = (zeroP, 8) := by decide +kernel
theorem cl4 : clausesP 0 [] = (trueP, 0) := by decide +kernel
theorem cl5 : clausesP 3 [[], [2]] = (zeroP, 0) := by decide +kernel
theorem cl6 : clausesP 999 [[2, 4, 6]] = (zeroP, 4) := by decide +kernel
theorem cl7 : clausesP 999 [[2, 4], [2, 4]] = (oneP, 0) := by decide +kernel
theorem pu1 : putC negC manyP [] = (zeroC, 0, 8) := by decide +kernel
theorem pu2 : putC oneC manyP [4] = (zeroC, 0, 2) := by decide +kernel
theorem pu3 : putC bigC exP [2, 4] = (zeroC, 0, 4) := by decide +kernel
theorem pu4 : putC oneG exP [2, 4] = (twoG, 8, 0) := by decide +kernel
theorem an1 : andP 2 exP exP = (exP, 0) := by decide +kernel
theorem ck1 : check negC = 8 := by decide +kernel
theorem neg_fits : negC.Fits := ⟨by decide, by decide, by decide, by simp [negC], by simp [negC], by simp [negC], by simp [negC]⟩
theorem big_fits : bigC.Fits := ⟨by decide, by decide, by decide, by simp [bigC], by simp [bigC], by simp [bigC], by simp [bigC]⟩
theorem oneG_fits : oneG.Fits := ⟨by decide, by decide, by decide, by simp [oneG], by decide, by simp [oneG], by simp [oneG]⟩

theorem infoAnd : (Try.prog.info? 71).map (fun i => (i.zero, i.size, i.bytes)) = some (some (.agg #[.int .i64 0, .int .i64 0]), 2, 16) := by kernel_rfl
theorem made_at (z : Array Value) (n i : Nat) (h : i < n) : (madeCells z n)[i]? = some z[i % z.size]! := by
  unfold madeCells
  rw [Array.getElem?_map, Array.getElem?_range, if_pos h]
  rfl
theorem make_ands : ∃ cs : Array Value, (∀ W : World, (Instr.makeSlice 22 (.int .i64 1000) (.int .i64 1000)).run Try.prog W = .ok (.slice (some ⟨W.heap.size, 0, none⟩) 1000 1000) (W.alloc (.cells cs 71))) ∧
    ∀ W : World, ∀ g, W.heap[g]? = some (.cells cs 71 (0, 0)) → RS kGate W (some ⟨g, 0, none⟩) 1000 manyP.f0 := by
  obtain ⟨i0, hi, hz⟩ := Option.map_eq_some_iff.1 infoAnd
  simp only [Prod.mk.injEq] at hz
  obtain ⟨h0, h1, h2⟩ := hz
  refine ⟨madeCells #[.int .i64 0, .int .i64 0] 2000, fun W => ?_, fun W g hg => ?_⟩
  · have h := run_make (P := Try.prog) W 22 71 i0 _ Try.underlying22 hi h0 .i64 .i64 1000 1000 (by omega) (by omega) (by rw [h2]; omega) (by omega)
    rw [h1] at h
    exact h
  · refine RS.row (by rw [many_len]; decide) (by rw [many_len]; exact Nat.le_refl _) (fun j p hj => ?_)
    have hj2 : j < 1000 := by
      have := (List.getElem?_eq_some_iff.1 hj).1
      rwa [many_len] at this
    have hp : (⟨0, 0⟩ : Gate) = p := by
      have h_ : (List.replicate 1000 (⟨0, 0⟩ : Gate))[j]? = some p := hj
      rw [List.getElem?_replicate_of_lt hj2] at h_
      exact Option.some.inj h_
    subst hp
    refine ⟨[.int .i64 0, .int .i64 0], rfl, kGate_mk W ⟨0, 0⟩, fun i u hu => ?_⟩
    rw [blk_cell hg, made_at _ _ _ (by
      have := (List.getElem?_eq_some_iff.1 hu).1
      simp only [List.length_cons, List.length_nil] at this
      show j * 2 + i < 2000
      omega)]
    match i, hu with
    | 0, hu =>
      have e : Value.int .i64 0 = u := by simpa using hu
      subst e
      rw [show (j * kGate.sz + 0) % (#[Value.int .i64 0, .int .i64 0] : Array Value).size = 0 from by show (j * 2 + 0) % 2 = 0; omega]
      rfl
    | 1, hu =>
      have e : Value.int .i64 0 = u := by simpa using hu
      subst e
      rw [show (j * kGate.sz + 1) % (#[Value.int .i64 0, .int .i64 0] : Array Value).size = 1 from by show (j * 2 + 1) % 2 = 1; omega]
      rfl
theorem make_empties : ∃ cs : Array Value, (∀ W : World, (Instr.makeSlice 43 (.int .i64 1001) (.int .i64 1001)).run Try.prog W = .ok (.slice (some ⟨W.heap.size, 0, none⟩) 1001 1001) (W.alloc (.cells cs 27))) ∧
    ∀ W : World, ∀ g, W.heap[g]? = some (.cells cs 27 (0, 0)) → RS (Kd.slice 3 (Kd.int .i64)) W (some ⟨g, 0, none⟩) 1001 (List.replicate 1001 []) := by
  obtain ⟨i0, hi, hz⟩ := Option.map_eq_some_iff.1 infoRow
  simp only [Prod.mk.injEq] at hz
  obtain ⟨h0, h1, h2⟩ := hz
  refine ⟨madeCells #[.slice none 0 0] 1001, fun W => ?_, fun W g hg => ?_⟩
  · have h := run_make (P := Try.prog) W 43 27 i0 _ Try.underlying43 hi h0 .i64 .i64 1001 1001 (by omega) (by omega) (by rw [h2]; omega) (by omega)
    rw [h1] at h
    exact h
  · refine RS.row (by rw [List.length_replicate]; decide) (by rw [List.length_replicate]; exact Nat.le_refl _) (fun j p hj => ?_)
    have hj2 : j < 1001 := by
      have := (List.getElem?_eq_some_iff.1 hj).1
      rwa [List.length_replicate] at this
    have hp : ([] : List Int) = p := by
      rw [List.getElem?_replicate_of_lt hj2] at hj
      exact Option.some.inj hj
    subst hp
    refine ⟨[.slice none 0 0], rfl, ⟨none, 0, rfl, Nat.zero_le _, Kd.C_nil _ _⟩, fun i u hu => ?_⟩
    match i, hu with
    | 0, hu =>
      have e : Value.slice none 0 0 = u := by simpa using hu
      subst e
      rw [blk_cell hg, made_at _ _ _ (by show j * 1 + 0 < 1001; omega)]
      rw [show (j * (Kd.slice 3 (Kd.int .i64)).sz + 0) % (#[Value.slice none 0 0] : Array Value).size = 0 from by show (j * 1 + 0) % 1 = 0; omega]
      rfl
theorem names_Check (n : Int) (A : Option Addr) (k : Nat) (w : World) (h : RS kGate w A k manyP.f0) :
    Calls Try.prog 28 #[.int .i64 n, .agg #[.slice A 1000 k, .int .i64 (-1)]] w fun e w' => e = .returned (.int .i64 (predCheck n manyP)) ∧ Below w.heap.size w w' := by
  have h1 := preds_Check n A k manyP w h many_fits
  unfold pv at h1
  rw [many_len] at h1
  exact h1
theorem names_Put (c : Circ) (pc : CP) (A : Option Addr) (k : Nat) (B : Option Addr) (d : Nat) (l : List Int) (w : World) (hc : RC w pc c) (hs : c.Fits) (h : RS kGate w A k manyP.f0) (hl : RS (Kd.int .i64) w B d l) (hli : ∀ x ∈ l, I64 x) :
    Calls Try.prog 14 #[cv pc c, .agg #[.slice A 1000 k, .int .i64 (-1)], .slice B l.length d] w fun e w' => RetC w w' (putC c manyP l) e := by
  have h1 := preds_Put pc c A k manyP B d l w hc hs h many_fits hl hli
  unfold pv at h1
  rw [many_len] at h1
  exact h1
theorem names_Clauses (n : Int) (A : Option Addr) (k : Nat) (w : World) (h : RS (Kd.slice 3 (Kd.int .i64)) w A k (List.replicate 1001 [])) :
    Calls Try.prog 19 #[.int .i64 n, .slice A 1001 k] w fun e w' => RetP w.heap.size w w' (clausesP n (List.replicate 1001 [])) e := by
  have h1 := preds_Clauses n A k (List.replicate 1001 []) w h (fun r hr x hx => by
    have h_ : r = [] := List.eq_of_mem_replicate hr
    subst h_; simp at hx)
  rw [List.length_replicate] at h1
  exact h1
/-- One row, in a block of its own. -/
theorem RS.one_row {w : World} {g : Nat} {A : Option Addr} {c : Nat} {l : List Int} {t : Nat} (h : w.heap[g]? = some (.cells #[.slice A l.length c] t (0, 0))) (hl : RS (Kd.int .i64) w A c l) : RS (Kd.slice 3 (Kd.int .i64)) w (some ⟨g, 0, none⟩) 1 [l] :=
  RS.row (by simp) (by simp) (fun j p hj => by
    match j, hj with
    | 0, hj =>
      have e : l = p := by simpa using hj
      subst e
      exact ⟨[.slice A l.length c], rfl, ⟨A, c, rfl, hl.h, hl.r⟩, fun i u hu => by
        cases i with
        | zero => have e : Value.slice A l.length c = u := by simpa using hu
                  subst e; exact (blk_cell h 0).trans rfl
        | succ i => simp at hu⟩
    | j + 1, hj => simp at hj)
theorem RS.two_bools {w : World} {g : Nat} {t : TypeId} {x y : Bool} (h : w.heap[g]? = some (.cells #[.bool x, .bool y] t (0, 0))) : RS Kd.bool w (some ⟨g, 0, none⟩) 2 [x, y] :=
  RS.row (by simp) (by simp) (fun j p hj => by
    match j, hj with
    | 0, hj =>
      have e : x = p := by simpa using hj
      subst e
      exact ⟨[.bool x], rfl, rfl, fun i u hu => by
        cases i with
        | zero => have e : Value.bool x = u := by simpa using hu
                  subst e; exact (blk_cell h 0).trans rfl
        | succ i => simp at hu⟩
    | 1, hj =>
      have e : y = p := by simpa using hj
      subst e
      exact ⟨[.bool y], rfl, rfl, fun i u hu => by
        cases i with
        | zero => have e : Value.bool y = u := by simpa using hu
                  subst e; exact (blk_cell h 1).trans rfl
        | succ i => simp at hu⟩
    | j + 2, hj => simp at hj)
/-- What the law has in memory behind its loop: the great predicate, and those that it got. -/
structure NK (w0 : World) (gm am : Nat) (L : List (Nat × Option Addr × Nat × Pr)) (w : World) : Prop where
  BW : Below w0.heap.size w0 w
  M : w.heap[gm]? = some (.cells #[.slice (some ⟨am, 0, none⟩) 1000 1000, .int .i64 (-1)] 24 (0, 0))
  R : RS kGate w (some ⟨am, 0, none⟩) 1000 manyP.f0
  K : ∀ q ∈ L, PK q.1 q.2.1 q.2.2.1 q.2.2.2 w
theorem NK.below {w0 : World} {gm am : Nat} {L : List (Nat × Option Addr × Nat × Pr)} {w w2 : World} (h : NK w0 gm am L w) (hb : Below w.heap.size w w2) : NK w0 gm am L w2 :=
  ⟨h.BW.trans (hb.mono h.BW.size), blk_below h.M hb, h.R.below hb, fun q hq => (h.K q hq).below hb⟩
theorem NK.add {w0 : World} {gm am : Nat} {L : List (Nat × Option Addr × Nat × Pr)} {w : World} {A : Option Addr} {k : Nat} {p : Pr} (h : NK w0 gm am L w) (hr : RS kGate w A k p.f0) : NK w0 gm am ((w.heap.size, A, k, p) :: L) (w.alloc (.cells #[.slice A p.f0.length k, .int .i64 p.f1] 24)) := by
  have h1 := below_alloc (Below.refl w.heap.size w) (.cells #[.slice A p.f0.length k, .int .i64 p.f1] 24)
  have h2 := h.below h1
  refine ⟨h2.BW, h2.M, h2.R, fun q hq => ?_⟩
  rcases List.mem_cons.1 hq with rfl | hq
  · exact ⟨blk_new w _, hr.below h1⟩
  · exact h2.K q hq
end Go.Proofs.Ytgcdanpihaeioaa.PH
