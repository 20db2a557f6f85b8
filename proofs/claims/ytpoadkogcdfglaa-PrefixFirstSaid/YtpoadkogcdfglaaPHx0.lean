-- Made by wip/gprint.py, a program of this session, over the kit's print.py.
import Derived.Test.YtpoadkogcdfglaaProg
import Derived.Below
import Derived.Deep.Draws
import Derived.Deep.AppendLies
import Derived.Maps.AppendAt
import Derived.OwnWalk
import Derived.Laws.BytesArg
import Derived.Laws.MakeOwn
import Derived.Laws.OwnMore
import Derived.Deep.OwnRows
import Derived.Tactics
import Derived.Lib.ConvBytes
import Derived.Laws.Slices
import Derived.WalkKit
import Derived.KernelRfl
import Derived.RowKit3
import Derived.Deep.LoopGhost
import Derived.Deep.QuietTactic
import Derived.BigQuiet
import Derived.WideLaws
import Derived.Deep.DeepCutAuto
import Derived.Deep.CutBlock
import Derived.Deep.RegionHeld3
import Derived.Laws.Rows
import Derived.Lib.AppendStr
import Derived.ArgAppend
import Derived.Laws.IdiomCopy
import Derived.OrdersHeld
import Derived.Laws.BitsLemmas
import Derived.RowKit
import Derived.Laws.EntriesVeiled
import Derived.WalkSpells
import Derived.Test.YtpoadkogcdfglaaWWords
import Derived.Test.YtpoadkogcdfglaaWLast
namespace Go.Proofs.Ytpoadkogcdfglaa.PH
open Go.RowKit Go.Proofs.YtpoadkogcdfglaaW.PrintWords Go.Proofs.YtpoadkogcdfglaaW.PrintLast
set_option linter.unusedVariables false
set_option linter.unusedSimpArgs false



def errW : Option Int → Value
 | none => .nilIface
 | some c => .iface 0 (.int .i64 c)
theorem errW_none : errW none = .nilIface := rfl
theorem errW_some (c : Int) : errW (some c) = .iface 0 (.int .i64 c) := rfl

-- the values' own types
/-! #### struct type 45 -/
structure Latch where
 f0 : Int
 f1 : Int
def zLatch : Latch := ⟨(0 : Int), (0 : Int)⟩
def kLatch : Kd Latch := Kd.iso (Kd.pair (Kd.int .i64) (Kd.int .i64)) (fun x : Latch => (x.f0, x.f1))
theorem kLatch_open {w : World} {x : Latch} {cs : List Value} (h : kLatch.K w x cs) : cs = [.int .i64 x.f0, .int .i64 x.f1] := by
 obtain ⟨_, _, rfl, rfl, rfl⟩ := h
 exact rfl
theorem kLatch_openM {w : World} {base : Nat} {ok : Nat → Prop} {x : Latch} {cs : List Value} (h : kLatch.M w base ok x cs) : cs = [.int .i64 x.f0, .int .i64 x.f1] := by
 obtain ⟨_, _, rfl, rfl, rfl⟩ := h
 exact rfl
theorem kLatch_mk (w : World) (x : Latch)  : kLatch.K w x [.int .i64 x.f0, .int .i64 x.f1] := ⟨[.int .i64 x.f0], [.int .i64 x.f1], rfl, rfl, rfl⟩
theorem kLatch_mkM (w : World) (base : Nat) (ok : Nat → Prop) (x : Latch)  : kLatch.M w base ok x [.int .i64 x.f0, .int .i64 x.f1] := ⟨[.int .i64 x.f0], [.int .i64 x.f1], rfl, rfl, rfl⟩
def rd_TLatch (xs : List Latch) (i : Int) : Latch := xs.getD i.toNat zLatch
theorem at_TLatch {w : World} {A : Option Addr} {n : Nat} {xs : List Latch} (h : Kd.C kLatch w A n xs) (i : Int) (h0 : 0 ≤ i) (h1 : i < n) : ∃ ad , A = some ad ∧ w.cell? (ad.add (i.toNat * 2)) = some (.int .i64 (rd_TLatch xs i).f0) ∧ w.cell? ⟨(ad.add (i.toNat * 2)).block, (ad.add (i.toNat * 2)).off + 1, none⟩ = some (.int .i64 (rd_TLatch xs i).f1) := by
 obtain ⟨ad, c, e, _, hK, hc0⟩ := Kd.C_get h zLatch i h0 h1
 have hc : ∀ j u, c[j]? = some u → w.cell? (ad.add (i.toNat * 2 + j)) = some u := hc0
 obtain rfl := kLatch_open hK
 exact ⟨ad, e, hc 0 _ rfl, by rw [← add_field _ _ 1 (by omega)]; exact hc 1 _ rfl⟩

/-! #### struct type 92 -/
structure Gate where
 f0 : Int
 f1 : Int
def zGate : Gate := ⟨(0 : Int), (0 : Int)⟩
def kGate : Kd Gate := Kd.iso (Kd.pair (Kd.int .i64) (Kd.int .i64)) (fun x : Gate => (x.f0, x.f1))
theorem kGate_open {w : World} {x : Gate} {cs : List Value} (h : kGate.K w x cs) : cs = [.int .i64 x.f0, .int .i64 x.f1] := by
 obtain ⟨_, _, rfl, rfl, rfl⟩ := h
 exact rfl
theorem kGate_openM {w : World} {base : Nat} {ok : Nat → Prop} {x : Gate} {cs : List Value} (h : kGate.M w base ok x cs) : cs = [.int .i64 x.f0, .int .i64 x.f1] := by
 obtain ⟨_, _, rfl, rfl, rfl⟩ := h
 exact rfl
theorem kGate_mk (w : World) (x : Gate)  : kGate.K w x [.int .i64 x.f0, .int .i64 x.f1] := ⟨[.int .i64 x.f0], [.int .i64 x.f1], rfl, rfl, rfl⟩
theorem kGate_mkM (w : World) (base : Nat) (ok : Nat → Prop) (x : Gate)  : kGate.M w base ok x [.int .i64 x.f0, .int .i64 x.f1] := ⟨[.int .i64 x.f0], [.int .i64 x.f1], rfl, rfl, rfl⟩
def rd_TGate (xs : List Gate) (i : Int) : Gate := xs.getD i.toNat zGate
theorem at_TGate {w : World} {A : Option Addr} {n : Nat} {xs : List Gate} (h : Kd.C kGate w A n xs) (i : Int) (h0 : 0 ≤ i) (h1 : i < n) : ∃ ad , A = some ad ∧ w.cell? (ad.add (i.toNat * 2)) = some (.int .i64 (rd_TGate xs i).f0) ∧ w.cell? ⟨(ad.add (i.toNat * 2)).block, (ad.add (i.toNat * 2)).off + 1, none⟩ = some (.int .i64 (rd_TGate xs i).f1) := by
 obtain ⟨ad, c, e, _, hK, hc0⟩ := Kd.C_get h zGate i h0 h1
 have hc : ∀ j u, c[j]? = some u → w.cell? (ad.add (i.toNat * 2 + j)) = some u := hc0
 obtain rfl := kGate_open hK
 exact ⟨ad, e, hc 0 _ rfl, by rw [← add_field _ _ 1 (by omega)]; exact hc 1 _ rfl⟩

def rd_L3 (xs : List (List Latch)) (i : Int) : (List Latch) := xs.getD i.toNat ([] : List Latch)
theorem at_L3 {w : World} {A : Option Addr} {n : Nat} {xs : List (List Latch)} (h : Kd.C (Kd.slice 45 kLatch) w A n xs) (i : Int) (h0 : 0 ≤ i) (h1 : i < n) : ∃ ad A0 c0, A = some ad ∧ w.cell? (ad.add i.toNat) = some (.slice A0 (rd_L3 xs i).length c0) ∧ (rd_L3 xs i).length ≤ c0 ∧ kLatch.C w A0 (rd_L3 xs i).length (rd_L3 xs i) := by
 obtain ⟨ad, c, e, _, hK, hc0⟩ := Kd.C_get h ([] : List Latch) i h0 h1
 have hc : ∀ j u, c[j]? = some u → w.cell? (ad.add (i.toNat * 1 + j)) = some u := hc0
 obtain ⟨A0, c0, rfl, l0, g0⟩ := hK
 exact ⟨ad, A0, c0, e, by have hq := hc 0 _ rfl; rwa [Nat.mul_one, Nat.add_zero] at hq, l0, g0⟩

def rd_L4 (xs : List (List Gate)) (i : Int) : (List Gate) := xs.getD i.toNat ([] : List Gate)
theorem at_L4 {w : World} {A : Option Addr} {n : Nat} {xs : List (List Gate)} (h : Kd.C (Kd.slice 92 kGate) w A n xs) (i : Int) (h0 : 0 ≤ i) (h1 : i < n) : ∃ ad A0 c0, A = some ad ∧ w.cell? (ad.add i.toNat) = some (.slice A0 (rd_L4 xs i).length c0) ∧ (rd_L4 xs i).length ≤ c0 ∧ kGate.C w A0 (rd_L4 xs i).length (rd_L4 xs i) := by
 obtain ⟨ad, c, e, _, hK, hc0⟩ := Kd.C_get h ([] : List Gate) i h0 h1
 have hc : ∀ j u, c[j]? = some u → w.cell? (ad.add (i.toNat * 1 + j)) = some u := hc0
 obtain ⟨A0, c0, rfl, l0, g0⟩ := hK
 exact ⟨ad, A0, c0, e, by have hq := hc 0 _ rfl; rwa [Nat.mul_one, Nat.add_zero] at hq, l0, g0⟩

def rd_L5 (xs : List (List Int)) (i : Int) : (List Int) := xs.getD i.toNat ([] : List Int)
theorem at_L5 {w : World} {A : Option Addr} {n : Nat} {xs : List (List Int)} (h : Kd.C (Kd.slice 3 (Kd.int .i64)) w A n xs) (i : Int) (h0 : 0 ≤ i) (h1 : i < n) : ∃ ad A0 c0, A = some ad ∧ w.cell? (ad.add i.toNat) = some (.slice A0 (rd_L5 xs i).length c0) ∧ (rd_L5 xs i).length ≤ c0 ∧ (Kd.int .i64).C w A0 (rd_L5 xs i).length (rd_L5 xs i) := by
 obtain ⟨ad, c, e, _, hK, hc0⟩ := Kd.C_get h ([] : List Int) i h0 h1
 have hc : ∀ j u, c[j]? = some u → w.cell? (ad.add (i.toNat * 1 + j)) = some u := hc0
 obtain ⟨A0, c0, rfl, l0, g0⟩ := hK
 exact ⟨ad, A0, c0, e, by have hq := hc 0 _ rfl; rwa [Nat.mul_one, Nat.add_zero] at hq, l0, g0⟩

/-! #### struct type 26 -/
structure Circ where
 f0 : Int
 f1 : (List Latch)
 f2 : (List Gate)
 f3 : (List Int)
 f4 : (List Int)
def zCirc : Circ := ⟨(0 : Int), ([] : List Latch), ([] : List Gate), ([] : List Int), ([] : List Int)⟩
def kCirc : Kd Circ := Kd.iso (Kd.pair (Kd.int .i64) (Kd.pair (Kd.slice 45 kLatch) (Kd.pair (Kd.slice 92 kGate) (Kd.pair (Kd.slice 3 (Kd.int .i64)) (Kd.slice 3 (Kd.int .i64)))))) (fun x : Circ => (x.f0, x.f1, x.f2, x.f3, x.f4))
theorem kCirc_open {w : World} {x : Circ} {cs : List Value} (h : kCirc.K w x cs) : ∃ A1 c1 A2 c2 A3 c3 A4 c4, cs = [.int .i64 x.f0, .slice A1 x.f1.length c1, .slice A2 x.f2.length c2, .slice A3 x.f3.length c3, .slice A4 x.f4.length c4] ∧ x.f1.length ≤ c1 ∧ kLatch.C w A1 x.f1.length x.f1 ∧ x.f2.length ≤ c2 ∧ kGate.C w A2 x.f2.length x.f2 ∧ x.f3.length ≤ c3 ∧ (Kd.int .i64).C w A3 x.f3.length x.f3 ∧ x.f4.length ≤ c4 ∧ (Kd.int .i64).C w A4 x.f4.length x.f4 := by
 obtain ⟨_, _, rfl, rfl, ⟨_, _, rfl, ⟨A1, c1, rfl, l1, g1⟩, ⟨_, _, rfl, ⟨A2, c2, rfl, l2, g2⟩, ⟨_, _, rfl, ⟨A3, c3, rfl, l3, g3⟩, ⟨A4, c4, rfl, l4, g4⟩⟩⟩⟩⟩ := h
 exact ⟨A1, c1, A2, c2, A3, c3, A4, c4, rfl, l1, g1, l2, g2, l3, g3, l4, g4⟩
theorem kCirc_openM {w : World} {base : Nat} {ok : Nat → Prop} {x : Circ} {cs : List Value} (h : kCirc.M w base ok x cs) : ∃ v1 v2 v3 v4, cs = [.int .i64 x.f0, v1, v2, v3, v4] ∧ kLatch.R 45 w base ok v1 x.f1 ∧ kGate.R 92 w base ok v2 x.f2 ∧ (Kd.int .i64).R 3 w base ok v3 x.f3 ∧ (Kd.int .i64).R 3 w base ok v4 x.f4 := by
 obtain ⟨_, _, rfl, rfl, ⟨_, _, rfl, ⟨v1, rfl, g1⟩, ⟨_, _, rfl, ⟨v2, rfl, g2⟩, ⟨_, _, rfl, ⟨v3, rfl, g3⟩, ⟨v4, rfl, g4⟩⟩⟩⟩⟩ := h
 exact ⟨v1, v2, v3, v4, rfl, g1, g2, g3, g4⟩
theorem kCirc_mk (w : World) (x : Circ) {A1 : Option Addr} {c1 : Nat} (l1 : x.f1.length ≤ c1) (g1 : kLatch.C w A1 x.f1.length x.f1) {A2 : Option Addr} {c2 : Nat} (l2 : x.f2.length ≤ c2) (g2 : kGate.C w A2 x.f2.length x.f2) {A3 : Option Addr} {c3 : Nat} (l3 : x.f3.length ≤ c3) (g3 : (Kd.int .i64).C w A3 x.f3.length x.f3) {A4 : Option Addr} {c4 : Nat} (l4 : x.f4.length ≤ c4) (g4 : (Kd.int .i64).C w A4 x.f4.length x.f4) : kCirc.K w x [.int .i64 x.f0, .slice A1 x.f1.length c1, .slice A2 x.f2.length c2, .slice A3 x.f3.length c3, .slice A4 x.f4.length c4] := ⟨[.int .i64 x.f0], [.slice A1 x.f1.length c1, .slice A2 x.f2.length c2, .slice A3 x.f3.length c3, .slice A4 x.f4.length c4], rfl, rfl, ⟨[.slice A1 x.f1.length c1], [.slice A2 x.f2.length c2, .slice A3 x.f3.length c3, .slice A4 x.f4.length c4], rfl, ⟨A1, c1, rfl, l1, g1⟩, ⟨[.slice A2 x.f2.length c2], [.slice A3 x.f3.length c3, .slice A4 x.f4.length c4], rfl, ⟨A2, c2, rfl, l2, g2⟩, ⟨[.slice A3 x.f3.length c3], [.slice A4 x.f4.length c4], rfl, ⟨A3, c3, rfl, l3, g3⟩, ⟨A4, c4, rfl, l4, g4⟩⟩⟩⟩⟩
theorem kCirc_mkM (w : World) (base : Nat) (ok : Nat → Prop) (x : Circ) {v1 : Value} (g1 : kLatch.R 45 w base ok v1 x.f1) {v2 : Value} (g2 : kGate.R 92 w base ok v2 x.f2) {v3 : Value} (g3 : (Kd.int .i64).R 3 w base ok v3 x.f3) {v4 : Value} (g4 : (Kd.int .i64).R 3 w base ok v4 x.f4) : kCirc.M w base ok x [.int .i64 x.f0, v1, v2, v3, v4] := ⟨[.int .i64 x.f0], [v1, v2, v3, v4], rfl, rfl, ⟨[v1], [v2, v3, v4], rfl, ⟨v1, rfl, g1⟩, ⟨[v2], [v3, v4], rfl, ⟨v2, rfl, g2⟩, ⟨[v3], [v4], rfl, ⟨v3, rfl, g3⟩, ⟨v4, rfl, g4⟩⟩⟩⟩⟩
def rd_TCirc (xs : List Circ) (i : Int) : Circ := xs.getD i.toNat zCirc
theorem at_TCirc {w : World} {A : Option Addr} {n : Nat} {xs : List Circ} (h : Kd.C kCirc w A n xs) (i : Int) (h0 : 0 ≤ i) (h1 : i < n) : ∃ ad A1 c1 A2 c2 A3 c3 A4 c4, A = some ad ∧ w.cell? (ad.add (i.toNat * 5)) = some (.int .i64 (rd_TCirc xs i).f0) ∧ w.cell? ⟨(ad.add (i.toNat * 5)).block, (ad.add (i.toNat * 5)).off + 1, none⟩ = some (.slice A1 (rd_TCirc xs i).f1.length c1) ∧ w.cell? ⟨(ad.add (i.toNat * 5)).block, (ad.add (i.toNat * 5)).off + 2, none⟩ = some (.slice A2 (rd_TCirc xs i).f2.length c2) ∧ w.cell? ⟨(ad.add (i.toNat * 5)).block, (ad.add (i.toNat * 5)).off + 3, none⟩ = some (.slice A3 (rd_TCirc xs i).f3.length c3) ∧ w.cell? ⟨(ad.add (i.toNat * 5)).block, (ad.add (i.toNat * 5)).off + 4, none⟩ = some (.slice A4 (rd_TCirc xs i).f4.length c4) ∧ (rd_TCirc xs i).f1.length ≤ c1 ∧ kLatch.C w A1 (rd_TCirc xs i).f1.length (rd_TCirc xs i).f1 ∧ (rd_TCirc xs i).f2.length ≤ c2 ∧ kGate.C w A2 (rd_TCirc xs i).f2.length (rd_TCirc xs i).f2 ∧ (rd_TCirc xs i).f3.length ≤ c3 ∧ (Kd.int .i64).C w A3 (rd_TCirc xs i).f3.length (rd_TCirc xs i).f3 ∧ (rd_TCirc xs i).f4.length ≤ c4 ∧ (Kd.int .i64).C w A4 (rd_TCirc xs i).f4.length (rd_TCirc xs i).f4 := by
 obtain ⟨ad, c, e, _, hK, hc0⟩ := Kd.C_get h zCirc i h0 h1
 have hc : ∀ j u, c[j]? = some u → w.cell? (ad.add (i.toNat * 5 + j)) = some u := hc0
 obtain ⟨A1, c1, A2, c2, A3, c3, A4, c4, rfl, l1, g1, l2, g2, l3, g3, l4, g4⟩ := kCirc_open hK
 exact ⟨ad, A1, c1, A2, c2, A3, c3, A4, c4, e, hc 0 _ rfl, by rw [← add_field _ _ 1 (by omega)]; exact hc 1 _ rfl, by rw [← add_field _ _ 2 (by omega)]; exact hc 2 _ rfl, by rw [← add_field _ _ 3 (by omega)]; exact hc 3 _ rfl, by rw [← add_field _ _ 4 (by omega)]; exact hc 4 _ rfl, l1, g1, l2, g2, l3, g3, l4, g4⟩

def rd_L7 (xs : List (List (List Int))) (i : Int) : (List (List Int)) := xs.getD i.toNat ([] : List (List Int))
theorem at_L7 {w : World} {A : Option Addr} {n : Nat} {xs : List (List (List Int))} (h : Kd.C (Kd.slice 24 (Kd.slice 3 (Kd.int .i64))) w A n xs) (i : Int) (h0 : 0 ≤ i) (h1 : i < n) : ∃ ad A0 c0, A = some ad ∧ w.cell? (ad.add i.toNat) = some (.slice A0 (rd_L7 xs i).length c0) ∧ (rd_L7 xs i).length ≤ c0 ∧ (Kd.slice 3 (Kd.int .i64)).C w A0 (rd_L7 xs i).length (rd_L7 xs i) := by
 obtain ⟨ad, c, e, _, hK, hc0⟩ := Kd.C_get h ([] : List (List Int)) i h0 h1
 have hc : ∀ j u, c[j]? = some u → w.cell? (ad.add (i.toNat * 1 + j)) = some u := hc0
 obtain ⟨A0, c0, rfl, l0, g0⟩ := hK
 exact ⟨ad, A0, c0, e, by have hq := hc 0 _ rfl; rwa [Nat.mul_one, Nat.add_zero] at hq, l0, g0⟩

/-! #### struct type 31 -/
structure Pr where
 f0 : (List Gate)
 f1 : Int
def zPr : Pr := ⟨([] : List Gate), (0 : Int)⟩
def kPr : Kd Pr := Kd.iso (Kd.pair (Kd.slice 92 kGate) (Kd.int .i64)) (fun x : Pr => (x.f0, x.f1))
theorem kPr_open {w : World} {x : Pr} {cs : List Value} (h : kPr.K w x cs) : ∃ A0 c0, cs = [.slice A0 x.f0.length c0, .int .i64 x.f1] ∧ x.f0.length ≤ c0 ∧ kGate.C w A0 x.f0.length x.f0 := by
 obtain ⟨_, _, rfl, ⟨A0, c0, rfl, l0, g0⟩, rfl⟩ := h
 exact ⟨A0, c0, rfl, l0, g0⟩
theorem kPr_openM {w : World} {base : Nat} {ok : Nat → Prop} {x : Pr} {cs : List Value} (h : kPr.M w base ok x cs) : ∃ v0, cs = [v0, .int .i64 x.f1] ∧ kGate.R 92 w base ok v0 x.f0 := by
 obtain ⟨_, _, rfl, ⟨v0, rfl, g0⟩, rfl⟩ := h
 exact ⟨v0, rfl, g0⟩
theorem kPr_mk (w : World) (x : Pr) {A0 : Option Addr} {c0 : Nat} (l0 : x.f0.length ≤ c0) (g0 : kGate.C w A0 x.f0.length x.f0) : kPr.K w x [.slice A0 x.f0.length c0, .int .i64 x.f1] := ⟨[.slice A0 x.f0.length c0], [.int .i64 x.f1], rfl, ⟨A0, c0, rfl, l0, g0⟩, rfl⟩
theorem kPr_mkM (w : World) (base : Nat) (ok : Nat → Prop) (x : Pr) {v0 : Value} (g0 : kGate.R 92 w base ok v0 x.f0) : kPr.M w base ok x [v0, .int .i64 x.f1] := ⟨[v0], [.int .i64 x.f1], rfl, ⟨v0, rfl, g0⟩, rfl⟩
def rd_TPr (xs : List Pr) (i : Int) : Pr := xs.getD i.toNat zPr
theorem at_TPr {w : World} {A : Option Addr} {n : Nat} {xs : List Pr} (h : Kd.C kPr w A n xs) (i : Int) (h0 : 0 ≤ i) (h1 : i < n) : ∃ ad A0 c0, A = some ad ∧ w.cell? (ad.add (i.toNat * 2)) = some (.slice A0 (rd_TPr xs i).f0.length c0) ∧ w.cell? ⟨(ad.add (i.toNat * 2)).block, (ad.add (i.toNat * 2)).off + 1, none⟩ = some (.int .i64 (rd_TPr xs i).f1) ∧ (rd_TPr xs i).f0.length ≤ c0 ∧ kGate.C w A0 (rd_TPr xs i).f0.length (rd_TPr xs i).f0 := by
 obtain ⟨ad, c, e, _, hK, hc0⟩ := Kd.C_get h zPr i h0 h1
 have hc : ∀ j u, c[j]? = some u → w.cell? (ad.add (i.toNat * 2 + j)) = some u := hc0
 obtain ⟨A0, c0, rfl, l0, g0⟩ := kPr_open hK
 exact ⟨ad, A0, c0, e, hc 0 _ rfl, by rw [← add_field _ _ 1 (by omega)]; exact hc 1 _ rfl, l0, g0⟩

/-! #### struct type 33 -/
structure Lf where
 f0 : Int
 f1 : Int
 f2 : (List Int)
 f3 : (List (List Int))
 f4 : (List Int)
 f5 : Pr
def zLf : Lf := ⟨(0 : Int), (0 : Int), ([] : List Int), ([] : List (List Int)), ([] : List Int), zPr⟩
def kLf : Kd Lf := Kd.iso (Kd.pair (Kd.int .i64) (Kd.pair (Kd.int .i64) (Kd.pair (Kd.slice 3 (Kd.int .i64)) (Kd.pair (Kd.slice 24 (Kd.slice 3 (Kd.int .i64))) (Kd.pair (Kd.slice 3 (Kd.int .i64)) kPr))))) (fun x : Lf => (x.f0, x.f1, x.f2, x.f3, x.f4, x.f5))
theorem kLf_open {w : World} {x : Lf} {cs : List Value} (h : kLf.K w x cs) : ∃ A2 c2 A3 c3 A4 c4 A5 c5, cs = [.int .i64 x.f0, .int .i64 x.f1, .slice A2 x.f2.length c2, .slice A3 x.f3.length c3, .slice A4 x.f4.length c4, .slice A5 x.f5.f0.length c5, .int .i64 x.f5.f1] ∧ x.f2.length ≤ c2 ∧ (Kd.int .i64).C w A2 x.f2.length x.f2 ∧ x.f3.length ≤ c3 ∧ (Kd.slice 3 (Kd.int .i64)).C w A3 x.f3.length x.f3 ∧ x.f4.length ≤ c4 ∧ (Kd.int .i64).C w A4 x.f4.length x.f4 ∧ x.f5.f0.length ≤ c5 ∧ kGate.C w A5 x.f5.f0.length x.f5.f0 := by
 obtain ⟨_, _, rfl, rfl, ⟨_, _, rfl, rfl, ⟨_, _, rfl, ⟨A2, c2, rfl, l2, g2⟩, ⟨_, _, rfl, ⟨A3, c3, rfl, l3, g3⟩, ⟨_, _, rfl, ⟨A4, c4, rfl, l4, g4⟩, s5⟩⟩⟩⟩⟩ := h
 obtain ⟨A5, c5, rfl, l5, g5⟩ := kPr_open s5
 exact ⟨A2, c2, A3, c3, A4, c4, A5, c5, rfl, l2, g2, l3, g3, l4, g4, l5, g5⟩
theorem kLf_openM {w : World} {base : Nat} {ok : Nat → Prop} {x : Lf} {cs : List Value} (h : kLf.M w base ok x cs) : ∃ v2 v3 v4 v5, cs = [.int .i64 x.f0, .int .i64 x.f1, v2, v3, v4, v5, .int .i64 x.f5.f1] ∧ (Kd.int .i64).R 3 w base ok v2 x.f2 ∧ (Kd.slice 3 (Kd.int .i64)).R 24 w base ok v3 x.f3 ∧ (Kd.int .i64).R 3 w base ok v4 x.f4 ∧ kGate.R 92 w base ok v5 x.f5.f0 := by
 obtain ⟨_, _, rfl, rfl, ⟨_, _, rfl, rfl, ⟨_, _, rfl, ⟨v2, rfl, g2⟩, ⟨_, _, rfl, ⟨v3, rfl, g3⟩, ⟨_, _, rfl, ⟨v4, rfl, g4⟩, s5⟩⟩⟩⟩⟩ := h
 obtain ⟨v5, rfl, g5⟩ := kPr_openM s5
 exact ⟨v2, v3, v4, v5, rfl, g2, g3, g4, g5⟩
theorem kLf_mk (w : World) (x : Lf) {A2 : Option Addr} {c2 : Nat} (l2 : x.f2.length ≤ c2) (g2 : (Kd.int .i64).C w A2 x.f2.length x.f2) {A3 : Option Addr} {c3 : Nat} (l3 : x.f3.length ≤ c3) (g3 : (Kd.slice 3 (Kd.int .i64)).C w A3 x.f3.length x.f3) {A4 : Option Addr} {c4 : Nat} (l4 : x.f4.length ≤ c4) (g4 : (Kd.int .i64).C w A4 x.f4.length x.f4) {A5 : Option Addr} {c5 : Nat} (l5 : x.f5.f0.length ≤ c5) (g5 : kGate.C w A5 x.f5.f0.length x.f5.f0) : kLf.K w x [.int .i64 x.f0, .int .i64 x.f1, .slice A2 x.f2.length c2, .slice A3 x.f3.length c3, .slice A4 x.f4.length c4, .slice A5 x.f5.f0.length c5, .int .i64 x.f5.f1] := ⟨[.int .i64 x.f0], [.int .i64 x.f1, .slice A2 x.f2.length c2, .slice A3 x.f3.length c3, .slice A4 x.f4.length c4, .slice A5 x.f5.f0.length c5, .int .i64 x.f5.f1], rfl, rfl, ⟨[.int .i64 x.f1], [.slice A2 x.f2.length c2, .slice A3 x.f3.length c3, .slice A4 x.f4.length c4, .slice A5 x.f5.f0.length c5, .int .i64 x.f5.f1], rfl, rfl, ⟨[.slice A2 x.f2.length c2], [.slice A3 x.f3.length c3, .slice A4 x.f4.length c4, .slice A5 x.f5.f0.length c5, .int .i64 x.f5.f1], rfl, ⟨A2, c2, rfl, l2, g2⟩, ⟨[.slice A3 x.f3.length c3], [.slice A4 x.f4.length c4, .slice A5 x.f5.f0.length c5, .int .i64 x.f5.f1], rfl, ⟨A3, c3, rfl, l3, g3⟩, ⟨[.slice A4 x.f4.length c4], [.slice A5 x.f5.f0.length c5, .int .i64 x.f5.f1], rfl, ⟨A4, c4, rfl, l4, g4⟩, (kPr_mk w x.f5 l5 g5)⟩⟩⟩⟩⟩
theorem kLf_mkM (w : World) (base : Nat) (ok : Nat → Prop) (x : Lf) {v2 : Value} (g2 : (Kd.int .i64).R 3 w base ok v2 x.f2) {v3 : Value} (g3 : (Kd.slice 3 (Kd.int .i64)).R 24 w base ok v3 x.f3) {v4 : Value} (g4 : (Kd.int .i64).R 3 w base ok v4 x.f4) {v5 : Value} (g5 : kGate.R 92 w base ok v5 x.f5.f0) : kLf.M w base ok x [.int .i64 x.f0, .int .i64 x.f1, v2, v3, v4, v5, .int .i64 x.f5.f1] := ⟨[.int .i64 x.f0], [.int .i64 x.f1, v2, v3, v4, v5, .int .i64 x.f5.f1], rfl, rfl, ⟨[.int .i64 x.f1], [v2, v3, v4, v5, .int .i64 x.f5.f1], rfl, rfl, ⟨[v2], [v3, v4, v5, .int .i64 x.f5.f1], rfl, ⟨v2, rfl, g2⟩, ⟨[v3], [v4, v5, .int .i64 x.f5.f1], rfl, ⟨v3, rfl, g3⟩, ⟨[v4], [v5, .int .i64 x.f5.f1], rfl, ⟨v4, rfl, g4⟩, (kPr_mkM w base ok x.f5 g5)⟩⟩⟩⟩⟩
def rd_TLf (xs : List Lf) (i : Int) : Lf := xs.getD i.toNat zLf
theorem at_TLf {w : World} {A : Option Addr} {n : Nat} {xs : List Lf} (h : Kd.C kLf w A n xs) (i : Int) (h0 : 0 ≤ i) (h1 : i < n) : ∃ ad A2 c2 A3 c3 A4 c4 A5 c5, A = some ad ∧ w.cell? (ad.add (i.toNat * 7)) = some (.int .i64 (rd_TLf xs i).f0) ∧ w.cell? ⟨(ad.add (i.toNat * 7)).block, (ad.add (i.toNat * 7)).off + 1, none⟩ = some (.int .i64 (rd_TLf xs i).f1) ∧ w.cell? ⟨(ad.add (i.toNat * 7)).block, (ad.add (i.toNat * 7)).off + 2, none⟩ = some (.slice A2 (rd_TLf xs i).f2.length c2) ∧ w.cell? ⟨(ad.add (i.toNat * 7)).block, (ad.add (i.toNat * 7)).off + 3, none⟩ = some (.slice A3 (rd_TLf xs i).f3.length c3) ∧ w.cell? ⟨(ad.add (i.toNat * 7)).block, (ad.add (i.toNat * 7)).off + 4, none⟩ = some (.slice A4 (rd_TLf xs i).f4.length c4) ∧ w.cell? ⟨(ad.add (i.toNat * 7)).block, (ad.add (i.toNat * 7)).off + 5, none⟩ = some (.slice A5 (rd_TLf xs i).f5.f0.length c5) ∧ w.cell? ⟨(ad.add (i.toNat * 7)).block, (ad.add (i.toNat * 7)).off + 6, none⟩ = some (.int .i64 (rd_TLf xs i).f5.f1) ∧ (rd_TLf xs i).f2.length ≤ c2 ∧ (Kd.int .i64).C w A2 (rd_TLf xs i).f2.length (rd_TLf xs i).f2 ∧ (rd_TLf xs i).f3.length ≤ c3 ∧ (Kd.slice 3 (Kd.int .i64)).C w A3 (rd_TLf xs i).f3.length (rd_TLf xs i).f3 ∧ (rd_TLf xs i).f4.length ≤ c4 ∧ (Kd.int .i64).C w A4 (rd_TLf xs i).f4.length (rd_TLf xs i).f4 ∧ (rd_TLf xs i).f5.f0.length ≤ c5 ∧ kGate.C w A5 (rd_TLf xs i).f5.f0.length (rd_TLf xs i).f5.f0 := by
 obtain ⟨ad, c, e, _, hK, hc0⟩ := Kd.C_get h zLf i h0 h1
 have hc : ∀ j u, c[j]? = some u → w.cell? (ad.add (i.toNat * 7 + j)) = some u := hc0
 obtain ⟨A2, c2, A3, c3, A4, c4, A5, c5, rfl, l2, g2, l3, g3, l4, g4, l5, g5⟩ := kLf_open hK
 exact ⟨ad, A2, c2, A3, c3, A4, c4, A5, c5, e, hc 0 _ rfl, by rw [← add_field _ _ 1 (by omega)]; exact hc 1 _ rfl, by rw [← add_field _ _ 2 (by omega)]; exact hc 2 _ rfl, by rw [← add_field _ _ 3 (by omega)]; exact hc 3 _ rfl, by rw [← add_field _ _ 4 (by omega)]; exact hc 4 _ rfl, by rw [← add_field _ _ 5 (by omega)]; exact hc 5 _ rfl, by rw [← add_field _ _ 6 (by omega)]; exact hc 6 _ rfl, l2, g2, l3, g3, l4, g4, l5, g5⟩

def rd_L11 (xs : List (List Bool)) (i : Int) : (List Bool) := xs.getD i.toNat ([] : List Bool)
theorem at_L11 {w : World} {A : Option Addr} {n : Nat} {xs : List (List Bool)} (h : Kd.C (Kd.slice 4 Kd.bool) w A n xs) (i : Int) (h0 : 0 ≤ i) (h1 : i < n) : ∃ ad A0 c0, A = some ad ∧ w.cell? (ad.add i.toNat) = some (.slice A0 (rd_L11 xs i).length c0) ∧ (rd_L11 xs i).length ≤ c0 ∧ Kd.bool.C w A0 (rd_L11 xs i).length (rd_L11 xs i) := by
 obtain ⟨ad, c, e, _, hK, hc0⟩ := Kd.C_get h ([] : List Bool) i h0 h1
 have hc : ∀ j u, c[j]? = some u → w.cell? (ad.add (i.toNat * 1 + j)) = some u := hc0
 obtain ⟨A0, c0, rfl, l0, g0⟩ := hK
 exact ⟨ad, A0, c0, e, by have hq := hc 0 _ rfl; rwa [Nat.mul_one, Nat.add_zero] at hq, l0, g0⟩

def rd_L12 (xs : List (List (List Bool))) (i : Int) : (List (List Bool)) := xs.getD i.toNat ([] : List (List Bool))
theorem at_L12 {w : World} {A : Option Addr} {n : Nat} {xs : List (List (List Bool))} (h : Kd.C (Kd.slice 54 (Kd.slice 4 Kd.bool)) w A n xs) (i : Int) (h0 : 0 ≤ i) (h1 : i < n) : ∃ ad A0 c0, A = some ad ∧ w.cell? (ad.add i.toNat) = some (.slice A0 (rd_L12 xs i).length c0) ∧ (rd_L12 xs i).length ≤ c0 ∧ (Kd.slice 4 Kd.bool).C w A0 (rd_L12 xs i).length (rd_L12 xs i) := by
 obtain ⟨ad, c, e, _, hK, hc0⟩ := Kd.C_get h ([] : List (List Bool)) i h0 h1
 have hc : ∀ j u, c[j]? = some u → w.cell? (ad.add (i.toNat * 1 + j)) = some u := hc0
 obtain ⟨A0, c0, rfl, l0, g0⟩ := hK
 exact ⟨ad, A0, c0, e, by have hq := hc 0 _ rfl; rwa [Nat.mul_one, Nat.add_zero] at hq, l0, g0⟩

/-! #### struct type 57 -/
structure Run where
 f0 : (List Bool)
 f1 : (List (List Bool))
def zRun : Run := ⟨([] : List Bool), ([] : List (List Bool))⟩
def kRun : Kd Run := Kd.iso (Kd.pair (Kd.slice 4 Kd.bool) (Kd.slice 54 (Kd.slice 4 Kd.bool))) (fun x : Run => (x.f0, x.f1))
theorem kRun_open {w : World} {x : Run} {cs : List Value} (h : kRun.K w x cs) : ∃ A0 c0 A1 c1, cs = [.slice A0 x.f0.length c0, .slice A1 x.f1.length c1] ∧ x.f0.length ≤ c0 ∧ Kd.bool.C w A0 x.f0.length x.f0 ∧ x.f1.length ≤ c1 ∧ (Kd.slice 4 Kd.bool).C w A1 x.f1.length x.f1 := by
 obtain ⟨_, _, rfl, ⟨A0, c0, rfl, l0, g0⟩, ⟨A1, c1, rfl, l1, g1⟩⟩ := h
 exact ⟨A0, c0, A1, c1, rfl, l0, g0, l1, g1⟩
theorem kRun_openM {w : World} {base : Nat} {ok : Nat → Prop} {x : Run} {cs : List Value} (h : kRun.M w base ok x cs) : ∃ v0 v1, cs = [v0, v1] ∧ Kd.bool.R 4 w base ok v0 x.f0 ∧ (Kd.slice 4 Kd.bool).R 54 w base ok v1 x.f1 := by
 obtain ⟨_, _, rfl, ⟨v0, rfl, g0⟩, ⟨v1, rfl, g1⟩⟩ := h
 exact ⟨v0, v1, rfl, g0, g1⟩
theorem kRun_mk (w : World) (x : Run) {A0 : Option Addr} {c0 : Nat} (l0 : x.f0.length ≤ c0) (g0 : Kd.bool.C w A0 x.f0.length x.f0) {A1 : Option Addr} {c1 : Nat} (l1 : x.f1.length ≤ c1) (g1 : (Kd.slice 4 Kd.bool).C w A1 x.f1.length x.f1) : kRun.K w x [.slice A0 x.f0.length c0, .slice A1 x.f1.length c1] := ⟨[.slice A0 x.f0.length c0], [.slice A1 x.f1.length c1], rfl, ⟨A0, c0, rfl, l0, g0⟩, ⟨A1, c1, rfl, l1, g1⟩⟩
theorem kRun_mkM (w : World) (base : Nat) (ok : Nat → Prop) (x : Run) {v0 : Value} (g0 : Kd.bool.R 4 w base ok v0 x.f0) {v1 : Value} (g1 : (Kd.slice 4 Kd.bool).R 54 w base ok v1 x.f1) : kRun.M w base ok x [v0, v1] := ⟨[v0], [v1], rfl, ⟨v0, rfl, g0⟩, ⟨v1, rfl, g1⟩⟩
def rd_TRun (xs : List Run) (i : Int) : Run := xs.getD i.toNat zRun
theorem at_TRun {w : World} {A : Option Addr} {n : Nat} {xs : List Run} (h : Kd.C kRun w A n xs) (i : Int) (h0 : 0 ≤ i) (h1 : i < n) : ∃ ad A0 c0 A1 c1, A = some ad ∧ w.cell? (ad.add (i.toNat * 2)) = some (.slice A0 (rd_TRun xs i).f0.length c0) ∧ w.cell? ⟨(ad.add (i.toNat * 2)).block, (ad.add (i.toNat * 2)).off + 1, none⟩ = some (.slice A1 (rd_TRun xs i).f1.length c1) ∧ (rd_TRun xs i).f0.length ≤ c0 ∧ Kd.bool.C w A0 (rd_TRun xs i).f0.length (rd_TRun xs i).f0 ∧ (rd_TRun xs i).f1.length ≤ c1 ∧ (Kd.slice 4 Kd.bool).C w A1 (rd_TRun xs i).f1.length (rd_TRun xs i).f1 := by
 obtain ⟨ad, c, e, _, hK, hc0⟩ := Kd.C_get h zRun i h0 h1
 have hc : ∀ j u, c[j]? = some u → w.cell? (ad.add (i.toNat * 2 + j)) = some u := hc0
 obtain ⟨A0, c0, A1, c1, rfl, l0, g0, l1, g1⟩ := kRun_open hK
 exact ⟨ad, A0, c0, A1, c1, e, hc 0 _ rfl, by rw [← add_field _ _ 1 (by omega)]; exact hc 1 _ rfl, l0, g0, l1, g1⟩

/-! #### struct type 35 -/
structure Red where
 f0 : Circ
 f1 : Lf
def zRed : Red := ⟨zCirc, zLf⟩
def kRed : Kd Red := Kd.iso (Kd.pair kCirc kLf) (fun x : Red => (x.f0, x.f1))
theorem kRed_open {w : World} {x : Red} {cs : List Value} (h : kRed.K w x cs) : ∃ A1 c1 A2 c2 A3 c3 A4 c4 A7 c7 A8 c8 A9 c9 A10 c10, cs = [.int .i64 x.f0.f0, .slice A1 x.f0.f1.length c1, .slice A2 x.f0.f2.length c2, .slice A3 x.f0.f3.length c3, .slice A4 x.f0.f4.length c4, .int .i64 x.f1.f0, .int .i64 x.f1.f1, .slice A7 x.f1.f2.length c7, .slice A8 x.f1.f3.length c8, .slice A9 x.f1.f4.length c9, .slice A10 x.f1.f5.f0.length c10, .int .i64 x.f1.f5.f1] ∧ x.f0.f1.length ≤ c1 ∧ kLatch.C w A1 x.f0.f1.length x.f0.f1 ∧ x.f0.f2.length ≤ c2 ∧ kGate.C w A2 x.f0.f2.length x.f0.f2 ∧ x.f0.f3.length ≤ c3 ∧ (Kd.int .i64).C w A3 x.f0.f3.length x.f0.f3 ∧ x.f0.f4.length ≤ c4 ∧ (Kd.int .i64).C w A4 x.f0.f4.length x.f0.f4 ∧ x.f1.f2.length ≤ c7 ∧ (Kd.int .i64).C w A7 x.f1.f2.length x.f1.f2 ∧ x.f1.f3.length ≤ c8 ∧ (Kd.slice 3 (Kd.int .i64)).C w A8 x.f1.f3.length x.f1.f3 ∧ x.f1.f4.length ≤ c9 ∧ (Kd.int .i64).C w A9 x.f1.f4.length x.f1.f4 ∧ x.f1.f5.f0.length ≤ c10 ∧ kGate.C w A10 x.f1.f5.f0.length x.f1.f5.f0 := by
 obtain ⟨_, _, rfl, s0, s5⟩ := h
 obtain ⟨A1, c1, A2, c2, A3, c3, A4, c4, rfl, l1, g1, l2, g2, l3, g3, l4, g4⟩ := kCirc_open s0
 obtain ⟨A7, c7, A8, c8, A9, c9, A10, c10, rfl, l7, g7, l8, g8, l9, g9, l10, g10⟩ := kLf_open s5
 exact ⟨A1, c1, A2, c2, A3, c3, A4, c4, A7, c7, A8, c8, A9, c9, A10, c10, rfl, l1, g1, l2, g2, l3, g3, l4, g4, l7, g7, l8, g8, l9, g9, l10, g10⟩
theorem kRed_openM {w : World} {base : Nat} {ok : Nat → Prop} {x : Red} {cs : List Value} (h : kRed.M w base ok x cs) : ∃ v1 v2 v3 v4 v7 v8 v9 v10, cs = [.int .i64 x.f0.f0, v1, v2, v3, v4, .int .i64 x.f1.f0, .int .i64 x.f1.f1, v7, v8, v9, v10, .int .i64 x.f1.f5.f1] ∧ kLatch.R 45 w base ok v1 x.f0.f1 ∧ kGate.R 92 w base ok v2 x.f0.f2 ∧ (Kd.int .i64).R 3 w base ok v3 x.f0.f3 ∧ (Kd.int .i64).R 3 w base ok v4 x.f0.f4 ∧ (Kd.int .i64).R 3 w base ok v7 x.f1.f2 ∧ (Kd.slice 3 (Kd.int .i64)).R 24 w base ok v8 x.f1.f3 ∧ (Kd.int .i64).R 3 w base ok v9 x.f1.f4 ∧ kGate.R 92 w base ok v10 x.f1.f5.f0 := by
 obtain ⟨_, _, rfl, s0, s5⟩ := h
 obtain ⟨v1, v2, v3, v4, rfl, g1, g2, g3, g4⟩ := kCirc_openM s0
 obtain ⟨v7, v8, v9, v10, rfl, g7, g8, g9, g10⟩ := kLf_openM s5
 exact ⟨v1, v2, v3, v4, v7, v8, v9, v10, rfl, g1, g2, g3, g4, g7, g8, g9, g10⟩
theorem kRed_mk (w : World) (x : Red) {A1 : Option Addr} {c1 : Nat} (l1 : x.f0.f1.length ≤ c1) (g1 : kLatch.C w A1 x.f0.f1.length x.f0.f1) {A2 : Option Addr} {c2 : Nat} (l2 : x.f0.f2.length ≤ c2) (g2 : kGate.C w A2 x.f0.f2.length x.f0.f2) {A3 : Option Addr} {c3 : Nat} (l3 : x.f0.f3.length ≤ c3) (g3 : (Kd.int .i64).C w A3 x.f0.f3.length x.f0.f3) {A4 : Option Addr} {c4 : Nat} (l4 : x.f0.f4.length ≤ c4) (g4 : (Kd.int .i64).C w A4 x.f0.f4.length x.f0.f4) {A7 : Option Addr} {c7 : Nat} (l7 : x.f1.f2.length ≤ c7) (g7 : (Kd.int .i64).C w A7 x.f1.f2.length x.f1.f2) {A8 : Option Addr} {c8 : Nat} (l8 : x.f1.f3.length ≤ c8) (g8 : (Kd.slice 3 (Kd.int .i64)).C w A8 x.f1.f3.length x.f1.f3) {A9 : Option Addr} {c9 : Nat} (l9 : x.f1.f4.length ≤ c9) (g9 : (Kd.int .i64).C w A9 x.f1.f4.length x.f1.f4) {A10 : Option Addr} {c10 : Nat} (l10 : x.f1.f5.f0.length ≤ c10) (g10 : kGate.C w A10 x.f1.f5.f0.length x.f1.f5.f0) : kRed.K w x [.int .i64 x.f0.f0, .slice A1 x.f0.f1.length c1, .slice A2 x.f0.f2.length c2, .slice A3 x.f0.f3.length c3, .slice A4 x.f0.f4.length c4, .int .i64 x.f1.f0, .int .i64 x.f1.f1, .slice A7 x.f1.f2.length c7, .slice A8 x.f1.f3.length c8, .slice A9 x.f1.f4.length c9, .slice A10 x.f1.f5.f0.length c10, .int .i64 x.f1.f5.f1] := ⟨[.int .i64 x.f0.f0, .slice A1 x.f0.f1.length c1, .slice A2 x.f0.f2.length c2, .slice A3 x.f0.f3.length c3, .slice A4 x.f0.f4.length c4], [.int .i64 x.f1.f0, .int .i64 x.f1.f1, .slice A7 x.f1.f2.length c7, .slice A8 x.f1.f3.length c8, .slice A9 x.f1.f4.length c9, .slice A10 x.f1.f5.f0.length c10, .int .i64 x.f1.f5.f1], rfl, (kCirc_mk w x.f0 l1 g1 l2 g2 l3 g3 l4 g4), (kLf_mk w x.f1 l7 g7 l8 g8 l9 g9 l10 g10)⟩
theorem kRed_mkM (w : World) (base : Nat) (ok : Nat → Prop) (x : Red) {v1 : Value} (g1 : kLatch.R 45 w base ok v1 x.f0.f1) {v2 : Value} (g2 : kGate.R 92 w base ok v2 x.f0.f2) {v3 : Value} (g3 : (Kd.int .i64).R 3 w base ok v3 x.f0.f3) {v4 : Value} (g4 : (Kd.int .i64).R 3 w base ok v4 x.f0.f4) {v7 : Value} (g7 : (Kd.int .i64).R 3 w base ok v7 x.f1.f2) {v8 : Value} (g8 : (Kd.slice 3 (Kd.int .i64)).R 24 w base ok v8 x.f1.f3) {v9 : Value} (g9 : (Kd.int .i64).R 3 w base ok v9 x.f1.f4) {v10 : Value} (g10 : kGate.R 92 w base ok v10 x.f1.f5.f0) : kRed.M w base ok x [.int .i64 x.f0.f0, v1, v2, v3, v4, .int .i64 x.f1.f0, .int .i64 x.f1.f1, v7, v8, v9, v10, .int .i64 x.f1.f5.f1] := ⟨[.int .i64 x.f0.f0, v1, v2, v3, v4], [.int .i64 x.f1.f0, .int .i64 x.f1.f1, v7, v8, v9, v10, .int .i64 x.f1.f5.f1], rfl, (kCirc_mkM w base ok x.f0 g1 g2 g3 g4), (kLf_mkM w base ok x.f1 g7 g8 g9 g10)⟩
def rd_TRed (xs : List Red) (i : Int) : Red := xs.getD i.toNat zRed
theorem at_TRed {w : World} {A : Option Addr} {n : Nat} {xs : List Red} (h : Kd.C kRed w A n xs) (i : Int) (h0 : 0 ≤ i) (h1 : i < n) : ∃ ad A1 c1 A2 c2 A3 c3 A4 c4 A7 c7 A8 c8 A9 c9 A10 c10, A = some ad ∧ w.cell? (ad.add (i.toNat * 12)) = some (.int .i64 (rd_TRed xs i).f0.f0) ∧ w.cell? ⟨(ad.add (i.toNat * 12)).block, (ad.add (i.toNat * 12)).off + 1, none⟩ = some (.slice A1 (rd_TRed xs i).f0.f1.length c1) ∧ w.cell? ⟨(ad.add (i.toNat * 12)).block, (ad.add (i.toNat * 12)).off + 2, none⟩ = some (.slice A2 (rd_TRed xs i).f0.f2.length c2) ∧ w.cell? ⟨(ad.add (i.toNat * 12)).block, (ad.add (i.toNat * 12)).off + 3, none⟩ = some (.slice A3 (rd_TRed xs i).f0.f3.length c3) ∧ w.cell? ⟨(ad.add (i.toNat * 12)).block, (ad.add (i.toNat * 12)).off + 4, none⟩ = some (.slice A4 (rd_TRed xs i).f0.f4.length c4) ∧ w.cell? ⟨(ad.add (i.toNat * 12)).block, (ad.add (i.toNat * 12)).off + 5, none⟩ = some (.int .i64 (rd_TRed xs i).f1.f0) ∧ w.cell? ⟨(ad.add (i.toNat * 12)).block, (ad.add (i.toNat * 12)).off + 6, none⟩ = some (.int .i64 (rd_TRed xs i).f1.f1) ∧ w.cell? ⟨(ad.add (i.toNat * 12)).block, (ad.add (i.toNat * 12)).off + 7, none⟩ = some (.slice A7 (rd_TRed xs i).f1.f2.length c7) ∧ w.cell? ⟨(ad.add (i.toNat * 12)).block, (ad.add (i.toNat * 12)).off + 8, none⟩ = some (.slice A8 (rd_TRed xs i).f1.f3.length c8) ∧ w.cell? ⟨(ad.add (i.toNat * 12)).block, (ad.add (i.toNat * 12)).off + 9, none⟩ = some (.slice A9 (rd_TRed xs i).f1.f4.length c9) ∧ w.cell? ⟨(ad.add (i.toNat * 12)).block, (ad.add (i.toNat * 12)).off + 10, none⟩ = some (.slice A10 (rd_TRed xs i).f1.f5.f0.length c10) ∧ w.cell? ⟨(ad.add (i.toNat * 12)).block, (ad.add (i.toNat * 12)).off + 11, none⟩ = some (.int .i64 (rd_TRed xs i).f1.f5.f1) ∧ (rd_TRed xs i).f0.f1.length ≤ c1 ∧ kLatch.C w A1 (rd_TRed xs i).f0.f1.length (rd_TRed xs i).f0.f1 ∧ (rd_TRed xs i).f0.f2.length ≤ c2 ∧ kGate.C w A2 (rd_TRed xs i).f0.f2.length (rd_TRed xs i).f0.f2 ∧ (rd_TRed xs i).f0.f3.length ≤ c3 ∧ (Kd.int .i64).C w A3 (rd_TRed xs i).f0.f3.length (rd_TRed xs i).f0.f3 ∧ (rd_TRed xs i).f0.f4.length ≤ c4 ∧ (Kd.int .i64).C w A4 (rd_TRed xs i).f0.f4.length (rd_TRed xs i).f0.f4 ∧ (rd_TRed xs i).f1.f2.length ≤ c7 ∧ (Kd.int .i64).C w A7 (rd_TRed xs i).f1.f2.length (rd_TRed xs i).f1.f2 ∧ (rd_TRed xs i).f1.f3.length ≤ c8 ∧ (Kd.slice 3 (Kd.int .i64)).C w A8 (rd_TRed xs i).f1.f3.length (rd_TRed xs i).f1.f3 ∧ (rd_TRed xs i).f1.f4.length ≤ c9 ∧ (Kd.int .i64).C w A9 (rd_TRed xs i).f1.f4.length (rd_TRed xs i).f1.f4 ∧ (rd_TRed xs i).f1.f5.f0.length ≤ c10 ∧ kGate.C w A10 (rd_TRed xs i).f1.f5.f0.length (rd_TRed xs i).f1.f5.f0 := by
 obtain ⟨ad, c, e, _, hK, hc0⟩ := Kd.C_get h zRed i h0 h1
 have hc : ∀ j u, c[j]? = some u → w.cell? (ad.add (i.toNat * 12 + j)) = some u := hc0
 obtain ⟨A1, c1, A2, c2, A3, c3, A4, c4, A7, c7, A8, c8, A9, c9, A10, c10, rfl, l1, g1, l2, g2, l3, g3, l4, g4, l7, g7, l8, g8, l9, g9, l10, g10⟩ := kRed_open hK
 exact ⟨ad, A1, c1, A2, c2, A3, c3, A4, c4, A7, c7, A8, c8, A9, c9, A10, c10, e, hc 0 _ rfl, by rw [← add_field _ _ 1 (by omega)]; exact hc 1 _ rfl, by rw [← add_field _ _ 2 (by omega)]; exact hc 2 _ rfl, by rw [← add_field _ _ 3 (by omega)]; exact hc 3 _ rfl, by rw [← add_field _ _ 4 (by omega)]; exact hc 4 _ rfl, by rw [← add_field _ _ 5 (by omega)]; exact hc 5 _ rfl, by rw [← add_field _ _ 6 (by omega)]; exact hc 6 _ rfl, by rw [← add_field _ _ 7 (by omega)]; exact hc 7 _ rfl, by rw [← add_field _ _ 8 (by omega)]; exact hc 8 _ rfl, by rw [← add_field _ _ 9 (by omega)]; exact hc 9 _ rfl, by rw [← add_field _ _ 10 (by omega)]; exact hc 10 _ rfl, by rw [← add_field _ _ 11 (by omega)]; exact hc 11 _ rfl, l1, g1, l2, g2, l3, g3, l4, g4, l7, g7, l8, g8, l9, g9, l10, g10⟩

end Go.Proofs.Ytpoadkogcdfglaa.PH
