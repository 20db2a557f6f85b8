/- values.of, values.Of; a row of truth values in a block of its own, copy into it. -/
import Derived.Test.YtchhbkicplgmhaaHVals
namespace Go.Proofs.Ytchhbkicplgmhaa.PH
open Go.RowKit Go.Proofs.YtchhbkicplgmhaaW.PrintWords Go.Proofs.YtchhbkicplgmhaaW.PrintLast
set_option linter.unusedVariables false
set_option linter.unusedSimpArgs false

set_option maxHeartbeats 2000000 in
set_option maxRecDepth 100000 in
theorem values_of (A : Option Addr) (c : Nat) (v : List Bool) (l : Int) (w : World) (h : RS Kd.bool w A c v) (hl : IsLit l) (h1 : l / 2 < v.length) :
    Calls Try.prog 67 #[.slice A v.length c, .int .i64 l] w fun e w' => e = .returned (.bool (litV v l)) ∧ Below w.heap.size w w' := by
  obtain ⟨k, hk⟩ : ∃ k : Nat, l / 2 = (k : Int) := ⟨(l / 2).toNat, by have := hl.1; omega⟩
  have hkv : k < v.length := by omega
  have ha := and_one hl
  obtain ⟨ad, e1, hx⟩ := at_bool h.r k hkv
  cases e1
  have hR : litV v l = (v[k] != (l % 2 == 1)) := by
    unfold litV
    rw [hk, Int.toNat_natCast, List.getD_eq_getElem?_getD, List.getElem?_eq_getElem hkv]
    rfl
  rw [hR]
  generalize v[k] = b at *
  have hlt : (k : Int) < (v.length : Int) := by omega
  clear h1 hR
  go_enter Try.func67, Try.ntmps67
  go_wp2
  go_ret
  exact ⟨rfl, Below.refl _ _⟩
/-! ### A row of truth values in a block of its own -/
@[reducible] def bRow (l : List Bool) : Array Value := (l.map Value.bool).toArray
/-- What copy leaves in a row of truth values. -/
def over (xs ys : List Bool) (o : Nat) : List Bool := xs.take o ++ ys ++ xs.drop (o + ys.length)
theorem over_len {xs ys : List Bool} {o : Nat} (h : o + ys.length ≤ xs.length) : (over xs ys o).length = xs.length := by
  unfold over
  simp only [List.length_append, List.length_take, List.length_drop]
  omega
theorem RS.bools {w : World} {g : Nat} {l : List Bool} {c : Nat} (hc : l.length ≤ c) (hm : l.length ≤ 9223372036854775807) (h : w.heap[g]? = some (.cells (bRow l) 4 (0, 0))) : RS Kd.bool w (some ⟨g, 0, none⟩) c l :=
  RS.row hm hc (fun j p hj => ⟨[.bool p], rfl, rfl, fun i u hu => by
    cases i with
    | zero =>
      have e : Value.bool p = u := by simpa using hu
      subst e
      have h2 := blk_cell h j
      rw [show Kd.bool.sz = 1 from rfl, Nat.mul_one, Nat.add_zero, h2]
      simp [hj]
    | succ i => simp at hu⟩)
theorem copy_bools {ops : Array Oper} {rest : List Oper} {o : Oper} {a : Act} {Q : Exit → Act → World → Prop} {w0 W : World} (hgd : o.guard = none) (s x : Operand)
    (ho : o.op = .call { callee := .builtin .copy, args := #[s, x], argTypes := #[27, 27] }) (g off dl dc : Nat) (D : Option Addr) (xs ys : List Bool) (A : Option Addr) (c : Nat) (hs : a.eval s = .slice D dl dc) (hx : a.eval x = .slice A ys.length c)
    (HD : 0 < ys.length → D = some ⟨g, off, none⟩) (HL : ys.length ≤ dl) (HF : off + ys.length ≤ xs.length) (HG : w0.heap.size ≤ g) (HB : Below w0.heap.size w0 W) (HO : W.heap[g]? = some (.cells (bRow xs) 4 (0, 0))) (HR : RS Kd.bool W A c ys)
    (h : ∀ w1, w1.heap[g]? = some (.cells (bRow (over xs ys off)) 4 (0, 0)) → Below w0.heap.size w0 w1 → (∀ k, k ≠ g → w1.heap[k]? = W.heap[k]?) → w1.heap.size = W.heap.size → wpList Try.prog ops Q rest (a.put o.dst (.int .i64 (ys.length : Int))) w1) :
    wpList Try.prog ops Q (o :: rest) a W := by
  have fin : ∀ w1, (Builtin.copy_ #[27, 27] o.type #[.slice D dl dc, .slice A ys.length c]).run Try.prog W = .ok (goInt (ys.length : Int)) w1 → w1.heap[g]? = some (.cells (bRow (over xs ys off)) 4 (0, 0)) → Below w0.heap.size w0 w1 → (∀ k, k ≠ g → w1.heap[k]? = W.heap[k]?) → w1.heap.size = W.heap.size → wpList Try.prog ops Q (o :: rest) a W := by
    intro w1 hr h1 h2 h3 h4
    refine wpList_plain hgd fun K hK => ?_
    unfold Oper.wp execOp
    simp only [ho, resolve, invoke, builtin, Sem.run_bind, Sem.run_pure, Result.andThen_ok, List.map_toArray, List.map_cons, List.map_nil, hs, hx, hr]
    exact hK _ _ (h w1 h1 h2 h3 h4)
  have hinfo : (Try.prog.info? 4).map (·.size) = some 1 := by kernel_rfl
  by_cases h0 : ys.length = 0
  · have he : ys = [] := List.eq_nil_of_length_eq_zero h0
    refine fin W ?_ ?_ HB (fun _ _ => rfl) rfl
    · rw [h0]
      exact run_copy_none W _ _ _ 4 D A dl dc 0 c Try.underlying27 hinfo (by simp)
    · rw [he]; unfold over; simpa using HO
  · have hD := HD (by omega)
    subst hD
    obtain ⟨ad, hA, hc⟩ := HR.r.2.2 (by omega)
    have hkl : (ys.map Value.bool).length = ys.length := List.length_map ..
    have hsrc : ∀ j u, (ys.map Value.bool)[j]? = some u → W.cell? (ad.add j) = some u := by
      intro j u hu
      have hj : j < ys.length := by
        rcases Nat.lt_or_ge j ys.length with h | h
        · exact h
        · rw [List.getElem?_eq_none (by rw [hkl]; exact h)] at hu
          cases hu
      obtain ⟨ad2, e2, h2⟩ := at_bool HR.r j hj
      rw [hA] at e2
      cases e2
      rw [h2, ← hu]
      simp [hj]
    have hr := run_copy_cells (P := Try.prog) W 27 27 o.type 4 g off dl dc ad ys.length c (ys.map Value.bool) Try.underlying27 hinfo (by rw [hkl]; exact (Nat.min_eq_left HL).symm) hsrc
      (fun j hj => by rw [cell_of_row W g _ (bRow xs) 4 (0, 0) HO]; simp at hj ⊢; omega) (fun j _ => blk_frozen HO _) (by intro u hu; simp only [List.mem_map] at hu; obtain ⟨q, _, rfl⟩ := hu; rfl)
    obtain ⟨cur', h3, h4, h5⟩ := setCells_row (ys.map Value.bool) off W (bRow xs) HO (by simp; omega)
    obtain ⟨s1, s2, s3, s4⟩ := setCells_same g (ys.map Value.bool) off W
    have hfar : ∀ k, k ≠ g → (W.setCells g off (ys.map Value.bool)).heap[k]? = W.heap[k]? := fun k hk => setCells_far _ _ k hk
    refine fin _ (by rw [hA, hr, hkl]) ?_ ?_ hfar s4
    · rw [h3]
      have : cur' = bRow (over xs ys off) := by
        apply Array.ext'
        rw [h5]
        simp [over, List.map_take, List.map_drop]
      rw [this]
    · exact HB.trans ⟨s1, s2, s3, by rw [s4]; exact Nat.le_refl _, fun k hk => hfar k (by omega)⟩
end Go.Proofs.Ytchhbkicplgmhaa.PH
