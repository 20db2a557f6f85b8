/- Rows that are written out, in blocks of their own. -/
import Derived.Test.YtpoadkogcdfglaaHSep
namespace Go.Proofs.Ytpoadkogcdfglaa.PH
open Go.RowKit Go.Proofs.YtpoadkogcdfglaaW.PrintWords Go.Proofs.YtpoadkogcdfglaaW.PrintLast
set_option linter.unusedVariables false
set_option linter.unusedSimpArgs false

theorem RS.ints {w : World} {g c : Nat} {t : TypeId} {xs : List Int} (hb : w.heap[g]? = some (.cells (xs.map (Value.int .i64)).toArray t (0, 0))) (hc : xs.length ≤ c) (hm : xs.length ≤ 9223372036854775807) : RS (Kd.int .i64) w (some ⟨g, 0, none⟩) c xs :=
  RS.row hm hc (fun j p hj => ⟨[.int .i64 p], rfl, rfl, fun i u hu => by
    cases i with
    | zero =>
      have e : Value.int .i64 p = u := by simpa using hu
      subst e
      refine (blk_cell hb _).trans ?_
      show (xs.map (Value.int .i64)).toArray[j * 1 + 0]? = _
      rw [Nat.mul_one, Nat.add_zero, List.getElem?_toArray, List.getElem?_map, hj]; rfl
    | succ i => simp at hu⟩)
theorem RS.boolsB {w : World} {g c : Nat} {t : TypeId} {xs : List Bool} (hb : w.heap[g]? = some (.cells (xs.map Value.bool).toArray t (0, 0))) (hc : xs.length ≤ c) (hm : xs.length ≤ 9223372036854775807) : RS Kd.bool w (some ⟨g, 0, none⟩) c xs :=
  RS.row hm hc (fun j p hj => ⟨[.bool p], rfl, rfl, fun i u hu => by
    cases i with
    | zero =>
      have e : Value.bool p = u := by simpa using hu
      subst e
      refine (blk_cell hb _).trans ?_
      show (xs.map Value.bool).toArray[j * 1 + 0]? = _
      rw [Nat.mul_one, Nat.add_zero, List.getElem?_toArray, List.getElem?_map, hj]; rfl
    | succ i => simp at hu⟩)
theorem flat2_get {α β : Type} (f g : α → β) : ∀ (xs : List α) (j : Nat) (p : α), xs[j]? = some p → (xs.flatMap (fun x => [f x, g x]))[j * 2]? = some (f p) ∧ (xs.flatMap (fun x => [f x, g x]))[j * 2 + 1]? = some (g p)
  | [], j, p, h => by simp at h
  | x :: xs, 0, p, h => by
    have e : x = p := by simpa using h
    subst e; simp
  | x :: xs, j + 1, p, h => by
    have h1 := flat2_get f g xs j p (by simpa using h)
    rw [List.flatMap_cons, show (j + 1) * 2 = j * 2 + 2 by omega, show j * 2 + 2 + 1 = (j * 2 + 1) + 2 by omega]
    exact ⟨by simpa using h1.1, by simpa using h1.2⟩
theorem RS.lats {w : World} {g c : Nat} {t : TypeId} {xs : List Latch} (hb : w.heap[g]? = some (.cells (xs.flatMap (fun x => [Value.int .i64 x.f0, Value.int .i64 x.f1])).toArray t (0, 0))) (hc : xs.length ≤ c) (hm : xs.length ≤ 9223372036854775807) : RS kLatch w (some ⟨g, 0, none⟩) c xs :=
  RS.row hm hc (fun j p hj => ⟨[.int .i64 p.f0, .int .i64 p.f1], rfl, kLatch_mk w p, fun i u hu => by
    have h2 := flat2_get (fun x : Latch => Value.int .i64 x.f0) (fun x => Value.int .i64 x.f1) xs j p hj
    refine (blk_cell hb _).trans ?_
    show (xs.flatMap (fun x => [Value.int .i64 x.f0, Value.int .i64 x.f1])).toArray[j * 2 + i]? = _
    rw [List.getElem?_toArray]
    rcases i with _ | _ | i
    · have e : Value.int .i64 p.f0 = u := by simpa using hu
      subst e; exact h2.1
    · have e : Value.int .i64 p.f1 = u := by simpa using hu
      subst e; exact h2.2
    · simp at hu⟩)
theorem RS.gats {w : World} {g c : Nat} {t : TypeId} {xs : List Gate} (hb : w.heap[g]? = some (.cells (xs.flatMap (fun x => [Value.int .i64 x.f0, Value.int .i64 x.f1])).toArray t (0, 0))) (hc : xs.length ≤ c) (hm : xs.length ≤ 9223372036854775807) : RS kGate w (some ⟨g, 0, none⟩) c xs :=
  RS.row hm hc (fun j p hj => ⟨[.int .i64 p.f0, .int .i64 p.f1], rfl, kGate_mk w p, fun i u hu => by
    have h2 := flat2_get (fun x : Gate => Value.int .i64 x.f0) (fun x => Value.int .i64 x.f1) xs j p hj
    refine (blk_cell hb _).trans ?_
    show (xs.flatMap (fun x => [Value.int .i64 x.f0, Value.int .i64 x.f1])).toArray[j * 2 + i]? = _
    rw [List.getElem?_toArray]
    rcases i with _ | _ | i
    · have e : Value.int .i64 p.f0 = u := by simpa using hu
      subst e; exact h2.1
    · have e : Value.int .i64 p.f1 = u := by simpa using hu
      subst e; exact h2.2
    · simp at hu⟩)
end Go.Proofs.Ytpoadkogcdfglaa.PH
