/- The numbers of cone.Pass: the map, plain; the function that tells a literal anew. -/
import Derived.Test.YtiafojcbllbepaaHPassP
import Derived.Test.YtiafojcbllbepaaHConeOf
namespace Go.Proofs.Ytiafojcbllbepaa.PH
open Go.RowKit Go.Proofs.YtiafojcbllbepaaW.PrintWords Go.Proofs.YtiafojcbllbepaaW.PrintLast
set_option linter.unusedVariables false
set_option linter.unusedSimpArgs false

/-- The numbers behind j rounds. -/
def numJ (l : List Int) : Nat → Int → Option Int
  | 0 => fun k => if k = 0 then some 0 else none
  | j + 1 => fun k => if k = l.getD j 0 then some ((j : Int) + 1) else numJ l j k
/-- The numbers in the end. -/
def numF (is : List Bool) (k : Int) : Option Int := if k = 0 then some 0 else if 0 ≤ k ∧ is.getD k.toNat false = true then some ((toldF is 0).getD k.toNat 0 / 2) else none
theorem ones_at {is : List Bool} {i : Nat} (h : i < (onesFrom is 0).length) : 0 ≤ (onesFrom is 0)[i] ∧ is.getD ((onesFrom is 0)[i]).toNat false = true ∧ (toldF is 0).getD ((onesFrom is 0)[i]).toNat 0 = 2 * ((i : Int) + 1) := by
  have h1 := ones_told is 0 0 i h
  simp only [Int.sub_zero, Int.zero_add] at h1
  exact h1
theorem numJ_in {is : List Bool} : ∀ (j i : Nat) (hi : i < (onesFrom is 0).length), i < j → j ≤ (onesFrom is 0).length → numJ (onesFrom is 0) j (onesFrom is 0)[i] = some ((i : Int) + 1)
  | 0, i, _, h, _ => by omega
  | j + 1, i, hi, h, hj => by
    unfold numJ
    have hjl : j < (onesFrom is 0).length := by omega
    rw [List.getD_eq_getElem?_getD, List.getElem?_eq_getElem hjl, Option.getD_some]
    by_cases he : i = j
    · subst he; rw [if_pos rfl]
    · rw [if_neg (fun e => he (by
        have h1 := (ones_at hi).2.2
        have h2 := (ones_at hjl).2.2
        rw [e, h2] at h1
        omega))]
      exact numJ_in j i hi (by omega) (by omega)
theorem numJ_out {l : List Int} {k : Int} : ∀ (j : Nat), j ≤ l.length → k ∉ l → numJ l j k = if k = 0 then some 0 else none
  | 0, _, _ => rfl
  | j + 1, hj, hk => by
    unfold numJ
    rw [List.getD_eq_getElem?_getD, List.getElem?_eq_getElem (by omega : j < l.length), Option.getD_some, if_neg (fun e => hk (by rw [e]; exact List.getElem_mem _))]
    exact numJ_out j (by omega) hk
theorem numJ_end {is : List Bool} (h0 : is.getD 0 false = false) (k : Int) : numJ (onesFrom is 0) (onesFrom is 0).length k = numF is k := by
  unfold numF
  by_cases hk : k ∈ onesFrom is 0
  · obtain ⟨i, hi, rfl⟩ := List.getElem_of_mem hk
    have h1 := ones_at hi
    rw [numJ_in _ i hi hi (Nat.le_refl _), if_neg (fun e => by rw [e] at h1; have h2 : is.getD 0 false = true := h1.2.1; rw [h0] at h2; cases h2), if_pos ⟨h1.1, h1.2.1⟩, h1.2.2]
    congr 1; omega
  · rw [numJ_out _ (Nat.le_refl _) hk]
    by_cases h1 : k = 0
    · rw [if_pos h1, if_pos h1]
    · rw [if_neg h1, if_neg h1, if_neg]
      rintro ⟨h2, h3⟩
      have h4 := ones_mem is 0 k.toNat h3
      rw [show (0 : Int) + (k.toNat : Int) = k by omega] at h4
      exact hk h4
/-- What a look-up tells: half the new literal. -/
theorem numF_half {is : List Bool} (v : Nat) (h0 : is.getD 0 false = false) : 2 * ((numF is (v : Int)).getD 0) = (toldF is 0).getD v 0 := by
  unfold numF
  by_cases h : (v : Int) = 0
  · have hv : v = 0 := by omega
    subst hv
    rw [if_pos h, toldF_no is 0 0 h0]; rfl
  · rw [if_neg h, Int.toNat_natCast]
    cases hb : is.getD v false with
    | true =>
      rw [if_pos ⟨by omega, rfl⟩, toldF_yes is 0 v hb, Option.getD_some]; omega
    | false => rw [if_neg (by simp), toldF_no is 0 v hb]; rfl
theorem numF_some {is : List Bool} (v : Nat) (hv : 0 < v) : (numF is (v : Int)).isSome = is.getD v false := by
  unfold numF
  rw [if_neg (by omega), Int.toNat_natCast]
  cases hb : is.getD v false with
  | true => rw [if_pos ⟨by omega, rfl⟩]; rfl
  | false => rw [if_neg (by simp)]; rfl
theorem numF_bound {is : List Bool} (hl : is.length ≤ 1001) (k : Int) : 0 ≤ (numF is k).getD 0 ∧ (numF is k).getD 0 ≤ 1001 := by
  unfold numF
  split
  · simp
  · split
    · rename_i h1 h2
      rw [Option.getD_some, toldF_yes is 0 k.toNat h2.2]
      have := List.count_le_length (a := true) (l := is.take (k.toNat + 1))
      have : (is.take (k.toNat + 1)).length ≤ is.length := by rw [List.length_take]; omega
      omega
    · simp
theorem numJ_bound {l : List Int} : ∀ (j : Nat) (k : Int), 0 ≤ (numJ l j k).getD 0 ∧ (numJ l j k).getD 0 ≤ j
  | 0, k => by unfold numJ; split <;> simp
  | j + 1, k => by
    unfold numJ
    split
    · simp; omega
    · have := numJ_bound (l := l) j k; omega
theorem zeroInt (w : World) : (zeroValue 3).run Try.prog w = .ok (.int .i64 0) w := by kernel_rfl
/-- Keys of map[int]int. -/
noncomputable def yI : Ky Try.prog 3 Int := kyInt Try.prog 3 Try.underlying3
set_option maxHeartbeats 2000000 in
set_option maxRecDepth 100000 in
/-- The function of cone.Pass. -/
theorem cone_of1 (gN B n : Nat) (is : List Bool) (l : Int) (w : World) (hN : w.cell? ⟨gN, 0, none⟩ = some (.map (some B))) (hM : MapI yI 3 w B n (numF is)) (hl : is.length ≤ 1001) (h0 : is.getD 0 false = false) (hx : 0 ≤ l) (hx2 : l ≤ 3000) :
    Calls Try.prog 34 #[.int .i64 l, .pointer (some ⟨gN, 0, none⟩)] w fun e w' => e = .returned (.int .i64 (plc (toldF is 0) l)) ∧ Below w.heap.size w w' := by
  have hd : ((varOf l : Nat) : Int) = l / 2 := by unfold varOf; omega
  obtain ⟨v, hv⟩ : ∃ v, (numF is ((varOf l : Nat) : Int)).getD 0 = v := ⟨_, rfl⟩
  have hb := numF_bound hl ((varOf l : Nat) : Int)
  have hh := numF_half (varOf l) h0
  have hlk : (Instr.lookup 80 (.map (some B)) (.int .i64 (l / 2)) false).run Try.prog w = .ok (.int .i64 v) w := by
    rw [← hv, ← hd]; exact hM.look Try.underlying80 Try.underlying3 (zeroInt w) (k := ((varOf l : Nat) : Int)) (show I64 _ from ⟨by omega, by unfold varOf; omega⟩)
  rw [hv] at hb hh
  have HR := Aside0.mk (show plc (toldF is 0) l = 2 * v + l % 2 by unfold plc; rw [hh])
  obtain ⟨hb1, hb2⟩ := hb
  clear hh hM hv hd
  go_enter Try.func34, Try.ntmps34
  go_wp2
  go_ret
  exact ⟨ret_int (by rw [HR.out]), Below.refl _ _⟩
end Go.Proofs.Ytiafojcbllbepaa.PH
