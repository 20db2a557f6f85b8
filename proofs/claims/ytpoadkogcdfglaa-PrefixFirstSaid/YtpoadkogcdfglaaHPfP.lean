/- prefix: what is built. -/
import Derived.Test.YtpoadkogcdfglaaHPhP
import Derived.Test.YtpoadkogcdfglaaHRed
namespace Go.Proofs.Ytpoadkogcdfglaa.PH
open Go.RowKit Go.Proofs.YtpoadkogcdfglaaW.PrintWords Go.Proofs.YtpoadkogcdfglaaW.PrintLast
set_option linter.unusedVariables false
set_option linter.unusedSimpArgs false

def phRows (c : Circ) (fr : Nat → Int) (k : Nat) : List (List Int) := (List.range k).map (fun j => bIns (fr j) c.f0.toNat)
theorem phRows_succ (c : Circ) (fr : Nat → Int) (k : Nat) : phRows c fr (k + 1) = phRows c fr k ++ [bIns (fr k) c.f0.toNat] := by unfold phRows; rw [List.range_succ, List.map_append]; rfl
def pfFr (c : Circ) (j : Nat) : Int := 1 + ((j : Int) + 1) * c.f0
/-- One latch: its state, or what it is at first. -/
def pfOne (n flag : Int) (first : List Int) (i : Nat) (s : List Gate × List Int) : List Gate × List Int :=
  let x := bAnd n s.1 flag (s.2.getD i 0)
  let y := bAnd n x.1 (lNot flag) (first.getD i 0)
  let z := bOr n y.1 x.2 y.2
  (z.1, s.2.set i z.2)
def pfMix (n flag : Int) (first : List Int) (s : List Gate × List Int) : Nat → List Gate × List Int
  | 0 => s
  | i + 1 => pfOne n flag first i (pfMix n flag first s i)
structure MixOk (a l : Nat) (s : List Gate × List Int) : Prop where
  g : ∀ z ∈ s.1, I64 z.f0 ∧ I64 z.f1
  n : s.1.length ≤ a
  l : s.2.length = l
  x : ∀ x ∈ s.2, LB x
theorem getD_ok {l : List Int} (h : ∀ x ∈ l, LB x) (i : Nat) : LB (l.getD i 0) := by
  rw [List.getD_eq_getElem?_getD]
  by_cases hi : i < l.length
  · rw [List.getElem?_eq_getElem hi]; exact h _ (List.getElem_mem hi)
  · rw [List.getElem?_eq_none (by omega)]; exact LB.zero
theorem MixOk.one {n : Int} (hn : 0 ≤ n) (hn1 : n ≤ 200000) {flag : Int} (hf : LB flag) {first : List Int} (h1 : ∀ x ∈ first, LB x) {a l : Nat} (ha : a ≤ 80000) {s : List Gate × List Int} (h : MixOk a l s) (i : Nat) :
    MixOk (a + 3) l (pfOne n flag first i s) := by
  have oa := bAnd_op hn hn1
  have oo := bOr_op hn hn1
  have g0 := getD_ok h.x i
  have g1 := getD_ok h1 i
  have hN := h.n
  unfold pfOne
  have x1 := oa.n s.1 flag (s.2.getD i 0)
  have x2 := oa.g s.1 flag (s.2.getD i 0) h.g hf g0
  have x3 := oa.l s.1 flag (s.2.getD i 0) (by omega) hf g0
  dsimp only
  generalize bAnd n s.1 flag (s.2.getD i 0) = x at *
  have y1 := oa.n x.1 (lNot flag) (first.getD i 0)
  have y2 := oa.g x.1 (lNot flag) (first.getD i 0) x2 hf.not g1
  have y3 := oa.l x.1 (lNot flag) (first.getD i 0) (by omega) hf.not g1
  generalize bAnd n x.1 (lNot flag) (first.getD i 0) = y at *
  have z1 := oo.n y.1 x.2 y.2
  have z2 := oo.g y.1 x.2 y.2 y2 x3 y3
  have z3 := oo.l y.1 x.2 y.2 (by omega) x3 y3
  refine ⟨z2, by dsimp only; omega, by dsimp only; rw [List.length_set, h.l], fun w hw => ?_⟩
  rcases List.mem_or_eq_of_mem_set hw with hw | rfl
  · exact h.x w hw
  · exact z3
theorem MixOk.mix {n : Int} (hn : 0 ≤ n) (hn1 : n ≤ 200000) {flag : Int} (hf : LB flag) {first : List Int} (h1 : ∀ x ∈ first, LB x) {a l : Nat} {s : List Gate × List Int} (h : MixOk a l s) : ∀ i, a + 3 * i ≤ 80000 → MixOk (a + 3 * i) l (pfMix n flag first s i)
  | 0, _ => h
  | i + 1, hi => by
    have h2 := (MixOk.mix hn hn1 hf h1 h i (by omega)).one hn hn1 hf h1 (by omega) i
    exact ⟨h2.g, Nat.le_trans h2.n (by omega), h2.l, h2.x⟩
/-- The circuit's parts. -/
structure PfB where
  e : List Gate × Int
  o1 : List Gate × Int
  o2 : List Gate × Int
  a : List Gate × Int
  o3 : List Gate × Int
def pfEnds (n flag : Int) (R : FrameB) (s : Ph) : PfB :=
  let h := bAny n R.ands s.hopes
  let e := bAnd n h.1 flag h.2
  let o1 := bOr n e.1 R.bad e.2
  let o2 := bOr n o1.1 (lNot flag) s.sofar
  let a := bAnd n o2.1 R.right o2.2
  let o3 := bOr n a.1 e.2 a.2
  ⟨e, o1, o2, a, o3⟩
def pfFlag (inp : Int) (c : Circ) : Int := 2 * (inp + 1 + c.f1.length)
def pfFrame (inp : Int) (c : Circ) (s : Ph) : FrameB :=
  bFrame (inp + (c.f1.length + 1 : Nat)) c (pfMix (inp + (c.f1.length + 1 : Nat)) (pfFlag inp c) (lasOf inp c.f1.length) (s.ands, s.state) c.f1.length).1 1 (pfMix (inp + (c.f1.length + 1 : Nat)) (pfFlag inp c) (lasOf inp c.f1.length) (s.ands, s.state) c.f1.length).2
def pfDone (c : Circ) (k : Nat) : Red × Int :=
  let inp : Int := ((k : Int) + 1) * c.f0
  let s := phRun (inp + (c.f1.length + 1 : Nat)) c (pfFr c) (ph0 inp c) k
  let R := pfFrame inp c s
  let E := pfEnds (inp + (c.f1.length + 1 : Nat)) (pfFlag inp c) R s
  if 1000 < inp + (c.f1.length + 1 : Nat) + E.o3.1.length then (zeroRd, 4) else
    (⟨⟨inp, setNexts c.f1 R.nexts ++ [⟨0, 1⟩], E.o3.1, [E.o1.2], [E.o3.2]⟩, ⟨k, 1, lasOf inp c.f1.length, phRows c (pfFr c) k ++ [bIns 1 c.f0.toNat], lasOf c.f0 c.f1.length ++ [-1], ⟨[], 1⟩⟩⟩, 0)
def pfOf (c : Circ) (k : Int) : Red × Int := if check c = 0 then if k < 1 then (zeroRd, 2) else if 8 < k then (zeroRd, 2) else pfDone c k.toNat else (zeroRd, check c)
theorem pfDone_eq {c : Circ} {k : Nat} {inp : Int} (hi : ((k : Int) + 1) * c.f0 = inp) {s : Ph} (hs : phRun (inp + (c.f1.length + 1 : Nat)) c (pfFr c) (ph0 inp c) k = s) {R : FrameB} (hR : pfFrame inp c s = R) {E : PfB} (hE : pfEnds (inp + (c.f1.length + 1 : Nat)) (pfFlag inp c) R s = E) :
    pfDone c k = if 1000 < inp + (c.f1.length + 1 : Nat) + E.o3.1.length then (zeroRd, 4) else
      (⟨⟨inp, setNexts c.f1 R.nexts ++ [⟨0, 1⟩], E.o3.1, [E.o1.2], [E.o3.2]⟩, ⟨k, 1, lasOf inp c.f1.length, phRows c (pfFr c) k ++ [bIns 1 c.f0.toNat], lasOf c.f0 c.f1.length ++ [-1], ⟨[], 1⟩⟩⟩, 0) := by
  unfold pfDone
  simp only [hi, hs, hR, hE]
/-- What the ends keep. -/
structure EOk (a : Nat) (E : PfB) (h : List Gate × Int) : Prop where
  h1 : h.1.length ≤ a
  hg : ∀ z ∈ h.1, I64 z.f0 ∧ I64 z.f1
  hl : LB h.2
/-- Latches with one behind them: one more has another Next. -/
theorem someNexts_last {ls : List Latch} {st : List Int} (h : st.length = ls.length) {i : Nat} (hi : i < ls.length) (x : Latch) :
    ∃ hl : i < (someNexts ls st i ++ [x]).length, (someNexts ls st i ++ [x]).set i ⟨st[i]'(by omega), ((someNexts ls st i ++ [x])[i]'hl).f1⟩ = someNexts ls st (i + 1) ++ [x] := by
  have h1 := someNexts_succ h hi
  have hl := someNexts_len h i
  refine ⟨by rw [List.length_append, hl]; omega, ?_⟩
  rw [List.getElem_append_left (by omega), h1.2, List.set_append_left _ _ (by omega), h1.1]
/-- A number of a row of its own. -/
theorem Parts.intOne {b : Nat} {w0 w : World} {ps : List Pc} {n cap e : Nat} {A : Option Addr} {xs : List Int} (h : Parts b w0 w ps) (i : Nat) (hi : ps[i]? = some (pF b (Kd.int .i64) e (.slice A n cap) xs)) (j : Nat) (hj : j < xs.length) :
    ∃ g, A = some ⟨g, 0, none⟩ ∧ w.cell? ⟨g, j, none⟩ = some (.int .i64 xs[j]) ∧ w.frozen? ⟨g, j, none⟩ = false := by
  obtain ⟨ad, rfl, h0⟩ := at_int (h.rowF i hi).r j hj
  obtain ⟨inner, ho, hr⟩ := (h.ownF i hi).2
  rcases ho.2 with ⟨he, _⟩ | ⟨g, cap', cur, he, hg, hh, r⟩
  · cases he
  · cases he
    have e : (⟨g, 0, none⟩ : Addr).add j = ⟨g, j, none⟩ := by by_cases hz : j = 0 <;> simp [Addr.add, hz]
    rw [e] at h0
    exact ⟨g, rfl, h0, blk_frozen hh _⟩
end Go.Proofs.Ytpoadkogcdfglaa.PH
