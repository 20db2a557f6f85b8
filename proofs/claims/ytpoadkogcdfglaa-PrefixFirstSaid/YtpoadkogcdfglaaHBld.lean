/- The builder of phases and prefix: its memory, vars, and. -/
import Derived.Test.YtpoadkogcdfglaaHKyGate
import Derived.Test.YtpoadkogcdfglaaHFive
import Derived.Deep.RegionHeld3
import Derived.Deep.QuietTactic
import Derived.BigQuiet
namespace Go.Proofs.Ytpoadkogcdfglaa.PH
open Go.RowKit Go.Proofs.YtpoadkogcdfglaaW.PrintWords Go.Proofs.YtpoadkogcdfglaaW.PrintLast
set_option linter.unusedVariables false
set_option linter.unusedSimpArgs false
attribute [local go_sem] max_pair min_pair

/-- An AND of two literals over gates behind so many variables: the gates then, and its literal. -/
def bSimple (x y : Int) : Option Int := if x = 0 ∨ y = 0 ∨ x = lNot y then some 0 else if x = 1 ∨ x = y then some y else if y = 1 then some x else none
def bGate (x y : Int) : Gate := ⟨mx x y, mn x y⟩
def bAnd (n : Int) (ands : List Gate) (x y : Int) : List Gate × Int :=
  match bSimple x y with
  | some l => (ands, l)
  | none => if bGate x y ∈ ands then (ands, 2 * (n + 1 + (ands.idxOf (bGate x y) : Nat))) else (ands ++ [bGate x y], 2 * (n + 1 + ands.length))
def bOr (n : Int) (ands : List Gate) (x y : Int) : List Gate × Int := ((bAnd n ands (lNot x) (lNot y)).1, lNot (bAnd n ands (lNot x) (lNot y)).2)
/-- What is known of gates. -/
def bKn (n : Int) (ands : List Gate) : Gate → Option Int := fun g => if g ∈ ands then some (2 * (n + 1 + (ands.idxOf g : Nat))) else none
theorem bKn_snoc {n : Int} {ands : List Gate} {g : Gate} (h : g ∉ ands) : bKn n (ands ++ [g]) = fun j => if j = g then some (2 * (n + 1 + ands.length)) else bKn n ands j := by
  funext j
  unfold bKn
  by_cases hj : j = g
  · subst hj
    rw [if_pos (by simp), if_pos rfl, List.idxOf_append, if_neg h]
    simp
  · rw [if_neg hj]
    by_cases hm : j ∈ ands
    · rw [if_pos (by simp [hm]), if_pos hm, List.idxOf_append, if_pos hm]
    · rw [if_neg (by simp [hm, hj]), if_neg hm]
/-- The builder's cells: its circuit, the one that it copies, what it knows. -/
@[reducible] def bCells (inp : Int) (vL vA : Option Addr × Nat) (nL nA : Nat) (fc : Array Value) (gM : Nat) : Array Value :=
  #[.int .i64 inp, .slice vL.1 nL vL.2, .slice vA.1 nA vA.2, fc[5]!, fc[6]!, fc[0]!, fc[1]!, fc[2]!, fc[3]!, fc[4]!, .map (some gM)]
theorem blk11 {w : World} {g : Nat} {t : TypeId} {v0 v1 v2 v3 v4 v5 v6 v7 v8 v9 v10 : Value} (h : w.heap[g]? = some (.cells #[v0, v1, v2, v3, v4, v5, v6, v7, v8, v9, v10] t (0, 0))) :
    w.cell? ⟨g, 0, none⟩ = some v0 ∧ w.cell? ⟨g, 1, none⟩ = some v1 ∧ w.cell? ⟨g, 2, none⟩ = some v2 ∧ w.cell? ⟨g, 10, none⟩ = some v10 := ⟨blk_cell h 0, blk_cell h 1, blk_cell h 2, blk_cell h 10⟩
set_option maxHeartbeats 2000000 in
set_option maxRecDepth 100000 in
theorem b_vars (gB : Nat) (inp : Int) (vL vA : Option Addr × Nat) (nL nA : Nat) (fc : Array Value) (gM : Nat) (w : World) (hB : w.heap[gB]? = some (.cells (bCells inp vL vA nL nA fc gM) 78 (0, 0))) (h0 : 0 ≤ inp) (h1 : inp ≤ 1000000) (h2 : nL ≤ 1000000) (h3 : nA ≤ 1000000) :
    Calls Try.prog 41 #[.pointer (some ⟨gB, 0, none⟩)] w fun e w' => e = .returned (.int .i64 (inp + nL + nA)) ∧ Below w.heap.size w w' := by
  obtain ⟨c0, c1, c2, c10⟩ := blk11 hB
  have hu82 := Try.underlying78
  have hu26 := Try.underlying26
  have hw : wrap64 (wrap64 (inp + (nL : Int)) + (nA : Int)) = inp + nL + nA := by rw [wrap_in (x := inp + (nL : Int)) (by omega) (by omega), wrap_in (by omega) (by omega)]
  clear h0 h1 h2 h3
  go_enter Try.func41, Try.ntmps41
  go_wp2
  go_quiet (fail)
  go_wp2
  go_ret
  exact ⟨by rw [hw]; rfl, pw_below_drewN (Below.refl _ _) _⟩
theorem infoGateB : (Try.prog.info? 92).map (fun i => (i.zero, i.size, i.bytes)) = some (some (.agg #[.int .i64 0, .int .i64 0]), 2, 16) := by kernel_rfl
theorem zeroInt (w : World) : (zeroValue 3).run Try.prog w = .ok (.int .i64 0) w := by kernel_rfl
/-- The builder's memory. -/
@[reducible] def bPs (b gB gM : Nat) (inp : Int) (nL : Nat) (fc : Array Value) (vL vA : Option Addr × Nat) (ands : List Gate) : List Pc :=
  [pB gB 78 (bCells inp vL vA nL ands.length fc gM), pF b kGate 92 (.slice vA.1 ands.length vA.2) ands, pM kyGate 3 gM ands.length (bKn (inp + nL) ands)]
/-- What an operation of the builder leaves. -/
def BRet (b gB gM : Nat) (inp : Int) (nL : Nat) (fc : Array Value) (vL : Option Addr × Nat) (ps : List Pc) (w0 w' : World) (r : List Gate × Int) (e : Ending) : Prop :=
  ∃ vA, e = .returned (.int .i64 r.2) ∧ Parts b w0 w' (bPs b gB gM inp nL fc vL vA r.1 ++ ps)
/-- Bounds that hold of a builder. -/
structure BOk (inp : Int) (nL : Nat) (ands : List Gate) : Prop where
  i0 : 0 ≤ inp
  i1 : inp ≤ 100000
  l1 : nL ≤ 100000
  a1 : ands.length ≤ 100000
  g : ∀ x ∈ ands, I64 x.f0 ∧ I64 x.f1
set_option maxHeartbeats 4000000 in
set_option maxRecDepth 100000 in
theorem b_and {b gB gM : Nat} {inp : Int} {nL : Nat} {fc : Array Value} {vL vA : Option Addr × Nat} {ands : List Gate} {ps : List Pc} {w0 w : World} (S : Parts b w0 w (bPs b gB gM inp nL fc vL vA ands ++ ps)) (hO : BOk inp nL ands) {x y : Int} (hx0 : 0 ≤ x) (hx1 : x ≤ 1000000) (hy0 : 0 ≤ y) (hy1 : y ≤ 1000000) :
    Calls Try.prog 38 #[.pointer (some ⟨gB, 0, none⟩), .int .i64 x, .int .i64 y] w fun e w' => BRet b gB gM inp nL fc vL ps w0 w' (bAnd (inp + nL) ands x y) e := by
  replace S := Aside0.mk S
  have HO := Aside0.mk hO
  have HXY := Aside0.mk (show (0 ≤ x ∧ x ≤ 1000000) ∧ 0 ≤ y ∧ y ≤ 1000000 from ⟨⟨hx0, hx1⟩, hy0, hy1⟩)
  have hxo : bits .xor .i64 y 1 = lNot y := bits_xor hy0 (by omega)
  have hu82 := Try.underlying78
  have hu26 := Try.underlying26
  have hu45 := Try.underlying92
  obtain ⟨r, hr⟩ : ∃ r, bAnd (inp + nL) ands x y = r := ⟨_, rfl⟩
  rw [hr]
  have HR := Aside0.mk hr
  clear hO hx0 hx1 hy0 hy1 hr
  go_enter Try.func38, Try.ntmps38
  by_cases x0 : x = 0
  · have b0 : (x == 0) = true := beq_iff_eq.2 x0
    have HE := Aside0.mk (show r = (ands, 0) by rw [← HR.out]; unfold bAnd bSimple; rw [if_pos (.inl x0)])
    clear x0
    go_wp2
    go_ret
    exact ⟨vA, by rw [HE.out]; rfl, by rw [HE.out]; exact S.out⟩
  have b0 : (x == 0) = false := beq_eq_false_iff_ne.2 x0
  by_cases y0 : y = 0
  · have b1 : (y == 0) = true := beq_iff_eq.2 y0
    have HE := Aside0.mk (show r = (ands, 0) by rw [← HR.out]; unfold bAnd bSimple; rw [if_pos (.inr (.inl y0))])
    clear x0 y0
    go_wp2
    go_ret
    exact ⟨vA, by rw [HE.out]; rfl, by rw [HE.out]; exact S.out⟩
  have b1 : (y == 0) = false := beq_eq_false_iff_ne.2 y0
  by_cases xn : x = lNot y
  · have b2 : (x == lNot y) = true := beq_iff_eq.2 xn
    have HE := Aside0.mk (show r = (ands, 0) by rw [← HR.out]; unfold bAnd bSimple; rw [if_pos (.inr (.inr xn))])
    clear x0 y0 xn
    go_wp2
    go_ret
    exact ⟨vA, by rw [HE.out]; rfl, by rw [HE.out]; exact S.out⟩
  have b2 : (x == lNot y) = false := beq_eq_false_iff_ne.2 xn
  have HN1 := Aside0.mk (show ¬ (x = 0 ∨ y = 0 ∨ x = lNot y) by simp [x0, y0, xn])
  clear x0 y0 xn
  by_cases x1 : x = 1
  · have b3 : (x == 1) = true := beq_iff_eq.2 x1
    have HE := Aside0.mk (show r = (ands, y) by rw [← HR.out]; unfold bAnd bSimple; rw [if_neg HN1.out, if_pos (.inl x1)])
    clear x1
    go_wp2
    go_ret
    exact ⟨vA, by rw [HE.out]; rfl, by rw [HE.out]; exact S.out⟩
  have b3 : (x == 1) = false := beq_eq_false_iff_ne.2 x1
  by_cases xy : x = y
  · have b4 : (x == y) = true := beq_iff_eq.2 xy
    have HE := Aside0.mk (show r = (ands, y) by rw [← HR.out]; unfold bAnd bSimple; rw [if_neg HN1.out, if_pos (.inr xy)])
    clear x1 xy
    go_wp2
    go_ret
    exact ⟨vA, by rw [HE.out]; rfl, by rw [HE.out]; exact S.out⟩
  have b4 : (x == y) = false := beq_eq_false_iff_ne.2 xy
  have HN2 := Aside0.mk (show ¬ (x = 1 ∨ x = y) by simp [x1, xy])
  clear x1 xy
  by_cases y1 : y = 1
  · have b5 : (y == 1) = true := beq_iff_eq.2 y1
    have HE := Aside0.mk (show r = (ands, x) by rw [← HR.out]; unfold bAnd bSimple; rw [if_neg HN1.out, if_neg HN2.out, if_pos y1])
    clear y1
    go_wp2
    go_ret
    exact ⟨vA, by rw [HE.out]; rfl, by rw [HE.out]; exact S.out⟩
  have b5 : (y == 1) = false := beq_eq_false_iff_ne.2 y1
  have HE := Aside0.mk (show r = if bGate x y ∈ ands then (ands, 2 * (inp + nL + 1 + (ands.idxOf (bGate x y) : Nat))) else (ands ++ [bGate x y], 2 * (inp + nL + 1 + ands.length)) by
    rw [← HR.out]; unfold bAnd bSimple; rw [if_neg HN1.out, if_neg HN2.out, if_neg y1])
  clear y1 HR HN1 HN2
  go_upto_region 8 with (fail)
  obtain ⟨gt, hgt⟩ : ∃ g : Gate, bGate x y = g := ⟨_, rfl⟩
  have e0 : (if x < y then y else x) = gt.f0 := by rw [← hgt]; rfl
  have e1 : (if y < x then y else x) = gt.f1 := by rw [← hgt]; rfl
  have HGI := Aside0.mk (show I64 gt.f0 ∧ I64 gt.f1 by rw [← e0, ← e1]; have := HXY.out; constructor <;> (split <;> exact ⟨by omega, by omega⟩))
  rw [hgt] at HE
  rw [e0, e1]
  have S1 := Aside0.mk (S.out.new 92 #[.int .i64 gt.f0, .int .i64 gt.f1])
  clear hgt e0 e1 S b0 b1 b2 b3 b4 b5 hxo
  generalize w.heap.size = gX at *
  generalize w.alloc (.cells #[.int .i64 gt.f0, .int .i64 gt.f1] 92) = w1 at *
  obtain ⟨num, hnum⟩ : ∃ n, (bKn (inp + nL) ands gt).getD 0 = n := ⟨_, rfl⟩
  obtain ⟨is, his⟩ : ∃ n, (bKn (inp + nL) ands gt).isSome = n := ⟨_, rfl⟩
  have HLK := Aside0.mk (show ∀ W, Parts b w0 W ([pB gX 92 #[.int .i64 gt.f0, .int .i64 gt.f1]]++(bPs b gB gM inp nL fc vL vA ands++ps)) → (Instr.lookup 76 (.map (some gM)) (.agg #[.int .i64 gt.f0, .int .i64 gt.f1]) true).run Try.prog W = .ok (.tuple #[.int .i64 num, .bool is]) W from fun W hW => by
    have h_ := (show MapI kyGate 3 W gM ands.length (bKn (inp + nL) ands) from hW.hP 3 _ rfl).look2 Try.underlying76 Try.underlying3 (zeroInt W) (k := gt) HGI.out
    rw [hnum, his] at h_
    exact h_)
  have HNU := Aside0.mk hnum
  have HIS := Aside0.mk his
  clear hnum his
  obtain ⟨c10, _⟩ := S1.out.cell 1 rfl 10 rfl
  obtain ⟨g0, g1⟩ := (⟨(S1.out.cell 0 rfl 0 rfl).1, (S1.out.cell 0 rfl 1 rfl).1⟩ : _ ∧ _)
  go_wp2
  refine start_ (n := 11) (S := (fun W => Parts b w0 W ([pB gX 92 #[.int .i64 gt.f0, .int .i64 gt.f1]]++(bPs b gB gM inp nL fc vL vA ands++ps)))) (ds := []) #[false, false, false, false, false, false, false, false, false, false, false] (by kernel_rfl) rfl rfl S1.out.drew (fun hHeld => ?_)
  refine pure_ (i := 0) (N := some 44) (v := ?_) (a' := ?_) #[true, false, false, false, false, false, false, false, false, false, false] rfl rfl (by kernel_rfl) (fun _ _ _ h => h) (Or.inl ⟨by rfl, ?_⟩) ?_ ?_
  rotate_left
  · intro w'
    go_simp
    with_reducible rfl
  rotate_left
  · simp only [Act.put, List.setIfInBounds_toArray, List.set_cons_zero, List.set_cons_succ]
    rfl
  refine pure_ (i := 1) (N := some 45) (v := ?_) (a' := ?_) #[true, true, false, false, false, false, false, false, false, false, false] rfl rfl (by kernel_rfl) (fun _ _ _ h => h) (Or.inl ⟨by rfl, ?_⟩) ?_ ?_
  rotate_left
  · intro w'
    go_simp
    with_reducible rfl
  rotate_left
  · simp only [Act.put, List.setIfInBounds_toArray, List.set_cons_zero, List.set_cons_succ]
    rfl
  refine pure_ (i := 2) (N := some 46) (v := ?_) (a' := ?_) #[true, true, true, false, false, false, false, false, false, false, false] rfl rfl (by kernel_rfl) (fun _ _ _ h => h) (Or.inl ⟨by rfl, ?_⟩) ?_ ?_
  rotate_left
  · intro w'
    go_simp
    with_reducible rfl
  rotate_left
  · simp only [Act.put, List.setIfInBounds_toArray, List.set_cons_zero, List.set_cons_succ]
    rfl
  refine take_ (i := 3) (N := some 47) (v := ?_) (a' := ?_) #[true, true, true, true, false, false, false, false, false, false, false] rfl rfl (by kernel_rfl) (fun _ _ _ h => h) (Or.inl ⟨by rfl, ?_⟩) hHeld ?_ ?_
  rotate_left
  · intro w' s0
    have h_ := (s0.cell 1 rfl 10 rfl).1
    go_simp
    with_reducible rfl
  rotate_left
  · simp only [Act.put, List.setIfInBounds_toArray, List.set_cons_zero, List.set_cons_succ]
    rfl
  refine take_ (i := 4) (N := some 48) (v := ?_) (a' := ?_) #[true, true, true, true, true, false, false, false, false, false, false] rfl rfl (by kernel_rfl) (fun _ _ _ h => h) (Or.inl ⟨by rfl, ?_⟩) hHeld ?_ ?_
  rotate_left
  · intro w' s0
    have h_ := (s0.cell 0 rfl 0 rfl).1; have h2_ := (s0.cell 0 rfl 1 rfl).1
    go_simp
    with_reducible rfl
  rotate_left
  · simp only [Act.put, List.setIfInBounds_toArray, List.set_cons_zero, List.set_cons_succ]
    rfl
  refine take_ (i := 5) (N := some 49) (v := ?_) (a' := ?_) #[true, true, true, true, true, true, false, false, false, false, false] rfl rfl (by kernel_rfl) (fun _ _ _ h => h) (Or.inl ⟨by rfl, ?_⟩) hHeld ?_ ?_
  rotate_left
  · intro w' s0
    have h_ := HLK.out _ s0
    go_simp
    with_reducible rfl
  rotate_left
  · simp only [Act.put, List.setIfInBounds_toArray, List.set_cons_zero, List.set_cons_succ]
    rfl
  refine pure_ (i := 6) (N := some 43) (v := ?_) (a' := ?_) #[true, true, true, true, true, true, true, false, false, false, false] rfl rfl (by kernel_rfl) (fun _ _ _ h => h) (Or.inl ⟨by rfl, ?_⟩) ?_ ?_
  rotate_left
  · intro w'
    go_simp
    with_reducible rfl
  rotate_left
  · simp only [Act.put, List.setIfInBounds_toArray, List.set_cons_zero, List.set_cons_succ]
    rfl
  refine pure_ (i := 7) (N := some 50) (v := ?_) (a' := ?_) #[true, true, true, true, true, true, true, true, false, false, false] rfl rfl (by kernel_rfl) (fun _ _ _ h => h) (Or.inl ⟨by rfl, ?_⟩) ?_ ?_
  rotate_left
  · intro w'
    go_simp
    with_reducible rfl
  rotate_left
  · simp only [Act.put, List.setIfInBounds_toArray, List.set_cons_zero, List.set_cons_succ]
    rfl
  refine pure_ (i := 8) (N := some 51) (v := ?_) (a' := ?_) #[true, true, true, true, true, true, true, true, true, false, false] rfl rfl (by kernel_rfl) (fun _ _ _ h => h) (Or.inl ⟨by rfl, ?_⟩) ?_ ?_
  rotate_left
  · intro w'
    go_simp
    with_reducible rfl
  rotate_left
  · simp only [Act.put, List.setIfInBounds_toArray, List.set_cons_zero, List.set_cons_succ]
    rfl
  refine pure_ (i := 9) (N := some 8) (v := ?_) (a' := ?_) #[true, true, true, true, true, true, true, true, true, true, false] rfl rfl (by kernel_rfl) (fun _ _ _ h => h) (Or.inl ⟨by rfl, ?_⟩) ?_ ?_
  rotate_left
  · intro w'
    go_simp
    with_reducible rfl
  rotate_left
  · simp only [Act.put, List.setIfInBounds_toArray, List.set_cons_zero, List.set_cons_succ]
    rfl
  refine pure_ (i := 10) (N := some 9) (v := ?_) (a' := ?_) #[true, true, true, true, true, true, true, true, true, true, true] rfl rfl (by kernel_rfl) (fun _ _ _ h => h) (Or.inl ⟨by rfl, ?_⟩) ?_ ?_
  rotate_left
  · intro w'
    go_simp
    with_reducible rfl
  rotate_left
  · simp only [Act.put, List.setIfInBounds_toArray, List.set_cons_zero, List.set_cons_succ]
    rfl
  refine done_ (by kernel_rfl) ?_
  clear hHeld c10 g0 g1
  have S2 := Aside0.mk S1.out.drew
  clear S1
  generalize w1.drew = w2 at *
  by_cases hm : gt ∈ ands
  · have hbk : bKn (inp + nL) ands gt = some (2 * (inp + nL + 1 + (ands.idxOf gt : Nat))) := by unfold bKn; rw [if_pos hm]
    have hi : is = true := by rw [← HIS.out, hbk]; rfl
    have HE2 := Aside0.mk (show r = (ands, num) by rw [HE.out, if_pos hm, ← HNU.out, hbk]; rfl)
    subst hi
    clear hm hbk
    go_wp2
    go_ret
    exact ⟨vA, by rw [HE2.out]; rfl, by rw [HE2.out]; exact S2.out.tail⟩
  · have hbk : bKn (inp + nL) ands gt = none := by unfold bKn; rw [if_neg hm]
    have hi : is = false := by rw [← HIS.out, hbk]; rfl
    have HE2 := Aside0.mk (show r = (ands ++ [gt], 2 * (inp + nL + 1 + ands.length)) by rw [HE.out, if_neg hm])
    have HM := Aside0.mk hm
    subst hi
    clear hm hbk HE
    obtain ⟨c2, f2⟩ := S2.out.cell 1 rfl 2 rfl
    obtain ⟨g0, g1⟩ := (⟨(S2.out.cell 0 rfl 0 rfl).1, (S2.out.cell 0 rfl 1 rfl).1⟩ : _ ∧ _)
    go_wp2
    refine start_ (n := 13) (S := (fun w' : World => w'.cell? ⟨gB, 2, none⟩ = some (.slice vA.1 ands.length vA.2) ∧ w'.cell? ⟨gX, 0, none⟩ = some (.int .i64 gt.f0) ∧ w'.cell? ⟨gX, 1, none⟩ = some (.int .i64 gt.f1))) (ds := [12]) #[false, false, false, false, false, false, false, false, false, false, false, false, false] (by kernel_rfl) rfl rfl ⟨c2, g0, g1⟩ (fun hHeld => ?_)
    refine pure_ (i := 0) (N := some 54) (v := ?_) (a' := ?_) #[true, false, false, false, false, false, false, false, false, false, false, false, false] rfl rfl (by kernel_rfl) (fun _ _ _ h => h) (Or.inl ⟨by rfl, ?_⟩) ?_ ?_
    rotate_left
    · intro w'
      go_simp
      with_reducible rfl
    rotate_left
    · simp only [Act.put, List.setIfInBounds_toArray, List.set_cons_zero, List.set_cons_succ]
      rfl
    refine pure_ (i := 1) (N := some 55) (v := ?_) (a' := ?_) #[true, true, false, false, false, false, false, false, false, false, false, false, false] rfl rfl (by kernel_rfl) (fun _ _ _ h => h) (Or.inl ⟨by rfl, ?_⟩) ?_ ?_
    rotate_left
    · intro w'
      go_simp
      with_reducible rfl
    rotate_left
    · simp only [Act.put, List.setIfInBounds_toArray, List.set_cons_zero, List.set_cons_succ]
      rfl
    refine pure_ (i := 2) (N := some 56) (v := ?_) (a' := ?_) #[true, true, true, false, false, false, false, false, false, false, false, false, false] rfl rfl (by kernel_rfl) (fun _ _ _ h => h) (Or.inl ⟨by rfl, ?_⟩) ?_ ?_
    rotate_left
    · intro w'
      go_simp
      with_reducible rfl
    rotate_left
    · simp only [Act.put, List.setIfInBounds_toArray, List.set_cons_zero, List.set_cons_succ]
      rfl
    refine pure_ (i := 3) (N := some 57) (v := ?_) (a' := ?_) #[true, true, true, true, false, false, false, false, false, false, false, false, false] rfl rfl (by kernel_rfl) (fun _ _ _ h => h) (Or.inl ⟨by rfl, ?_⟩) ?_ ?_
    rotate_left
    · intro w'
      go_simp
      with_reducible rfl
    rotate_left
    · simp only [Act.put, List.setIfInBounds_toArray, List.set_cons_zero, List.set_cons_succ]
      rfl
    refine pure_ (i := 4) (N := some 58) (v := ?_) (a' := ?_) #[true, true, true, true, true, false, false, false, false, false, false, false, false] rfl rfl (by kernel_rfl) (fun _ _ _ h => h) (Or.inl ⟨by rfl, ?_⟩) ?_ ?_
    rotate_left
    · intro w'
      go_simp
      with_reducible rfl
    rotate_left
    · simp only [Act.put, List.setIfInBounds_toArray, List.set_cons_zero, List.set_cons_succ]
      rfl
    refine take_ (i := 5) (N := some 59) (v := ?_) (a' := ?_) #[true, true, true, true, true, true, false, false, false, false, false, false, false] rfl rfl (by kernel_rfl) (fun _ _ _ h => h) (Or.inl ⟨by rfl, ?_⟩) hHeld ?_ ?_
    rotate_left
    · rintro w' ⟨s0, s1, s2⟩
      go_simp
      with_reducible rfl
    rotate_left
    · simp only [Act.put, List.setIfInBounds_toArray, List.set_cons_zero, List.set_cons_succ]
      rfl
    refine take_ (i := 6) (N := some 60) (v := ?_) (a' := ?_) #[true, true, true, true, true, true, true, false, false, false, false, false, false] rfl rfl (by kernel_rfl) (fun _ _ _ h => h) (Or.inl ⟨by rfl, ?_⟩) hHeld ?_ ?_
    rotate_left
    · rintro w' ⟨s0, s1, s2⟩
      go_simp
      with_reducible rfl
    rotate_left
    · simp only [Act.put, List.setIfInBounds_toArray, List.set_cons_zero, List.set_cons_succ]
      rfl
    refine one_ (i := 7) (N := some 61) #[true, true, true, true, true, true, true, true, false, false, false, false, false] rfl rfl (by kernel_rfl) (by decide) (fun K hK => ?_)
    refine value_ (w1 := ?_) (v := ?_) (by rfl) rfl ?_ ?_
    rotate_left 2
    · go_simp
      constructor
      · rfl
      · rfl
    refine hK.out _ _ ⟨(World.cell?_alloc_lt _ _ _ (World.block_lt_of_cell? _ _ hHeld.1)).trans hHeld.1, (World.cell?_alloc_lt _ _ _ (World.block_lt_of_cell? _ _ hHeld.2.1)).trans hHeld.2.1, (World.cell?_alloc_lt _ _ _ (World.block_lt_of_cell? _ _ hHeld.2.2)).trans hHeld.2.2⟩ (fun hHeld => ?_)
    clear hK K
    refine norm_ (a' := ?_) ?_ ?_
    rotate_left
    · show Act.put _ (some 61) _ = _
      simp only [Act.put, List.setIfInBounds_toArray, List.set_cons_zero, List.set_cons_succ]
      rfl
    refine one_ (i := 8) (N := some 62) #[true, true, true, true, true, true, true, true, true, false, false, false, false] rfl rfl (by kernel_rfl) (by decide) (fun K hK => ?_)
    refine Parts.appendS S2.out.drew 2 rfl flat_gate (by rfl) (.tmp 59) (.tmp 61) 23 (.agg #[.int .i64 0, .int .i64 0]) 16 rfl Try.underlying23 infoGateB rfl (by decide) (by decide) gt [.int .i64 gt.f0, .int .i64 gt.f1] rfl rfl (kGate_mkM _ _ _ _) (by have := HO.out.a1; omega) ?_
    intro V4 cap4 w4 h4
    have S4 := Aside0.mk h4
    clear h4 c2 f2 g0 g1
    refine hK.out _ _ ⟨(S4.out.cell 1 rfl 2 rfl).1, (S4.out.cell 0 rfl 0 rfl).1, (S4.out.cell 0 rfl 1 rfl).1⟩ (fun hHeld => ?_)
    clear hK K
    refine norm_ (a' := ?_) ?_ ?_
    rotate_left
    · show Act.put _ (some 62) _ = _
      simp only [Act.put, List.setIfInBounds_toArray, List.set_cons_zero, List.set_cons_succ]
      rfl
    obtain ⟨c2, f2⟩ := S4.out.cell 1 rfl 2 rfl
    refine pure_ (i := 9) (N := some 63) (v := ?_) (a' := ?_) #[true, true, true, true, true, true, true, true, true, true, false, false, false] rfl rfl (by kernel_rfl) (fun _ _ _ h => h) (Or.inl ⟨by rfl, ?_⟩) ?_ ?_
    rotate_left
    · intro w'
      go_simp
      with_reducible rfl
    rotate_left
    · simp only [Act.put, List.setIfInBounds_toArray, List.set_cons_zero, List.set_cons_succ]
      rfl
    refine pure_ (i := 10) (N := some 64) (v := ?_) (a' := ?_) #[true, true, true, true, true, true, true, true, true, true, true, false, false] rfl rfl (by kernel_rfl) (fun _ _ _ h => h) (Or.inl ⟨by rfl, ?_⟩) ?_ ?_
    rotate_left
    · intro w'
      go_simp
      with_reducible rfl
    rotate_left
    · simp only [Act.put, List.setIfInBounds_toArray, List.set_cons_zero, List.set_cons_succ]
      rfl
    refine pure_ (i := 11) (N := some 65) (v := ?_) (a' := ?_) #[true, true, true, true, true, true, true, true, true, true, true, true, false] rfl rfl (by kernel_rfl) (fun _ _ _ h => h) (Or.inl ⟨by rfl, ?_⟩) ?_ ?_
    rotate_left
    · intro w'
      go_simp
      with_reducible rfl
    rotate_left
    · simp only [Act.put, List.setIfInBounds_toArray, List.set_cons_zero, List.set_cons_succ]
      rfl
    refine last_ (i := 12) (N := none) #[true, true, true, true, true, true, true, true, true, true, true, true, true] rfl rfl (by kernel_rfl) (by decide) (fun K hK => ?_)
    refine skip_ (w1 := ?_) (by rfl) rfl ?_ ?_
    rotate_left
    · go_simp
      rfl
    refine hK.out _ _ ?_
    clear hK K
    refine done_ (by kernel_rfl) ?_
    have S5 := Aside0.mk (S4.out.put 1 rfl 2 (.slice V4 (ands.length + 1) cap4) rfl)
    clear S4 S2 c2 f2
    generalize w4.setCell ⟨gB, 2, none⟩ (.slice V4 (ands.length + 1) cap4) = w5 at *
    have HL := Aside0.mk (show ands.length + 1 = (ands ++ [gt]).length by simp)
    have HBL := Aside0.mk (S5.out.blk 1 rfl)
    go_wp2_with fail
    refine (b_vars gB inp vL (V4, cap4) nL (ands.length + 1) fc gM _ HBL.out HO.out.i0 (by have := HO.out.i1; omega) (by have := HO.out.l1; omega) (by have := HO.out.a1; omega)).mono ?_
    rintro e w6 ⟨rfl, hb⟩
    have S6 := Aside0.mk (S5.out.below hb)
    clear hb S5 HBL
    obtain ⟨nv, hnv⟩ : ∃ n : Int, inp + (nL : Int) + ((ands.length + 1 : Nat) : Int) = n := ⟨_, rfl⟩
    rw [hnv]
    obtain ⟨val, hval⟩ : ∃ v : Int, 2 * (inp + nL + 1 + ands.length) = v := ⟨_, rfl⟩
    rw [hval] at HE2
    have hvw : I64 val := ⟨by have := HO.out.i0; omega, by have := HO.out.i1; have := HO.out.l1; have := HO.out.a1; omega⟩
    have hw2 : wrap64 (2 * nv) = val := by
      have := HO.out
      have h1 := this.i0; have h2 := this.i1; have h3 := this.l1; have h4 := this.a1
      rw [wrap_in (by omega) (by omega)]; omega
    clear hnv
    obtain ⟨w7, hrun, hm7, hg7⟩ := MapI.store (show MapI kyGate 3 w6.drew gM ands.length (bKn (inp + nL) ands) from S6.out.drew.hP 3 _ rfl) Try.underlying76 Try.underlying3 (by have h_ : maxLen = 9223372036854775807 := rfl; rw [h_]; have := HO.out.a1; omega) (k := gt) HGI.out (x := val) (WalkArith.wf_i64 hvw)
    have HRUN := Aside0.mk (show (Instr.mapUpdate 76 (.map (some gM)) (.agg #[.int .i64 gt.f0, .int .i64 gt.f1]) (.int .i64 val)).run Try.prog w6.drew = .ok () w7 from hrun)
    clear hrun hvw
    have S7 := Aside0.mk (S6.out.drew.stored (m := ands.length + 1) (g := bKn (inp + nL) (ands ++ [gt])) 3 rfl (by rw [bKn_snoc HM.out, hval]; exact hm7) hg7)
    clear hm7 hg7 hval
    obtain ⟨c10, _⟩ := S6.out.drew.cell 1 rfl 10 rfl
    obtain ⟨g0, g1⟩ := (⟨(S6.out.drew.cell 0 rfl 0 rfl).1, (S6.out.drew.cell 0 rfl 1 rfl).1⟩ : _ ∧ _)
    dsimp only
    go_wp2
    rw [hw2]
    refine start_ (n := 7) (S := (fun w' : World => w'.cell? ⟨gB, 10, none⟩ = some (.map (some gM)) ∧ w'.cell? ⟨gX, 0, none⟩ = some (.int .i64 gt.f0) ∧ w'.cell? ⟨gX, 1, none⟩ = some (.int .i64 gt.f1))) (ds := [6]) #[false, false, false, false, false, false, false] (by kernel_rfl) rfl rfl ⟨c10, g0, g1⟩ (fun hHeld => ?_)
    refine pure_ (i := 0) (N := some 69) (v := ?_) (a' := ?_) #[true, false, false, false, false, false, false] rfl rfl (by kernel_rfl) (fun _ _ _ h => h) (Or.inl ⟨by rfl, ?_⟩) ?_ ?_
    rotate_left
    · intro w'
      go_simp
      with_reducible rfl
    rotate_left
    · simp only [Act.put, List.setIfInBounds_toArray, List.set_cons_zero, List.set_cons_succ]
      rfl
    refine pure_ (i := 1) (N := some 70) (v := ?_) (a' := ?_) #[true, true, false, false, false, false, false] rfl rfl (by kernel_rfl) (fun _ _ _ h => h) (Or.inl ⟨by rfl, ?_⟩) ?_ ?_
    rotate_left
    · intro w'
      go_simp
      with_reducible rfl
    rotate_left
    · simp only [Act.put, List.setIfInBounds_toArray, List.set_cons_zero, List.set_cons_succ]
      rfl
    refine pure_ (i := 2) (N := some 71) (v := ?_) (a' := ?_) #[true, true, true, false, false, false, false] rfl rfl (by kernel_rfl) (fun _ _ _ h => h) (Or.inl ⟨by rfl, ?_⟩) ?_ ?_
    rotate_left
    · intro w'
      go_simp
      with_reducible rfl
    rotate_left
    · simp only [Act.put, List.setIfInBounds_toArray, List.set_cons_zero, List.set_cons_succ]
      rfl
    refine take_ (i := 3) (N := some 72) (v := ?_) (a' := ?_) #[true, true, true, true, false, false, false] rfl rfl (by kernel_rfl) (fun _ _ _ h => h) (Or.inl ⟨by rfl, ?_⟩) hHeld ?_ ?_
    rotate_left
    · rintro w' ⟨s0, s1, s2⟩
      go_simp
      with_reducible rfl
    rotate_left
    · simp only [Act.put, List.setIfInBounds_toArray, List.set_cons_zero, List.set_cons_succ]
      rfl
    refine take_ (i := 4) (N := some 73) (v := ?_) (a' := ?_) #[true, true, true, true, true, false, false] rfl rfl (by kernel_rfl) (fun _ _ _ h => h) (Or.inl ⟨by rfl, ?_⟩) hHeld ?_ ?_
    rotate_left
    · rintro w' ⟨s0, s1, s2⟩
      go_simp
      with_reducible rfl
    rotate_left
    · simp only [Act.put, List.setIfInBounds_toArray, List.set_cons_zero, List.set_cons_succ]
      rfl
    refine pure_ (i := 5) (N := some 74) (v := ?_) (a' := ?_) #[true, true, true, true, true, true, false] rfl rfl (by kernel_rfl) (fun _ _ _ h => h) (Or.inl ⟨by rfl, ?_⟩) ?_ ?_
    rotate_left
    · intro w'
      go_simp
      with_reducible rfl
    rotate_left
    · simp only [Act.put, List.setIfInBounds_toArray, List.set_cons_zero, List.set_cons_succ]
      rfl
    refine last_ (i := 6) (N := none) #[true, true, true, true, true, true, true] rfl rfl (by kernel_rfl) (by decide) (fun K hK => ?_)
    refine skip_ (w1 := w7) (by rfl) rfl ?_ ?_
    · go_simp
      rw [HRUN.out]
      rfl
    refine hK.out _ _ ?_
    clear hK K
    refine done_ (by kernel_rfl) ?_
    have S8 := S7
    clear S7 HRUN c10 g0 g1 hw2
    go_wp2
    go_ret
    refine ⟨(V4, cap4), by rw [HE2.out]; rfl, ?_⟩
    rw [HE2.out]
    have h_ := S8.out.tail
    rw [HL.out] at h_
    exact h_
theorem lNot_bound {l : Int} (h0 : 0 ≤ l) (h1 : l ≤ 999999) : 0 ≤ lNot l ∧ lNot l ≤ 999999 := by unfold lNot; split <;> constructor <;> omega
theorem bAnd_bound {n : Int} {ands : List Gate} {x y : Int} (hn : 0 ≤ n) (hn1 : n ≤ 200000) (ha : ands.length ≤ 100000) (hx : 0 ≤ x ∧ x ≤ 999999) (hy : 0 ≤ y ∧ y ≤ 999999) : 0 ≤ (bAnd n ands x y).2 ∧ (bAnd n ands x y).2 ≤ 999999 := by
  unfold bAnd bSimple
  split
  · rename_i l hl
    split at hl
    · obtain rfl := Option.some.inj hl; exact ⟨Int.le_refl 0, show (0 : Int) ≤ 999999 by decide⟩
    · split at hl
      · obtain rfl := Option.some.inj hl; exact hy
      · split at hl
        · obtain rfl := Option.some.inj hl; exact hx
        · cases hl
  · split
    · rename_i hm
      have h := List.idxOf_lt_length_of_mem hm
      dsimp only
      omega
    · dsimp only
      omega
set_option maxHeartbeats 2000000 in
set_option maxRecDepth 100000 in
theorem b_or {b gB gM : Nat} {inp : Int} {nL : Nat} {fc : Array Value} {vL vA : Option Addr × Nat} {ands : List Gate} {ps : List Pc} {w0 w : World} (S : Parts b w0 w (bPs b gB gM inp nL fc vL vA ands ++ ps)) (hO : BOk inp nL ands) {x y : Int} (hx0 : 0 ≤ x) (hx1 : x ≤ 999999) (hy0 : 0 ≤ y) (hy1 : y ≤ 999999) :
    Calls Try.prog 39 #[.pointer (some ⟨gB, 0, none⟩), .int .i64 x, .int .i64 y] w fun e w' => BRet b gB gM inp nL fc vL ps w0 w' (bOr (inp + nL) ands x y) e := by
  have h1 := lNot_bound hx0 hx1
  have h2 := lNot_bound hy0 hy1
  have CA := Aside0.mk (b_and S hO (x := lNot x) (y := lNot y) h1.1 (by omega) h2.1 (by omega))
  have hb := bAnd_bound (n := inp + nL) (ands := ands) (x := lNot x) (y := lNot y) (by have := hO.i0; omega) (by have := hO.i1; have := hO.l1; omega) hO.a1 h1 h2
  have hxo : bits .xor .i64 x 1 = lNot x := bits_xor hx0 (by omega)
  have hyo : bits .xor .i64 y 1 = lNot y := bits_xor hy0 (by omega)
  obtain ⟨⟨ar, lr⟩, hr⟩ : ∃ r, bAnd (inp + nL) ands (lNot x) (lNot y) = r := ⟨_, rfl⟩
  rw [hr] at CA hb
  have hlo : bits .xor .i64 lr 1 = lNot lr := bits_xor hb.1 (by have := hb.2; dsimp only at this; omega)
  have HE := Aside0.mk (show bOr (inp + nL) ands x y = (ar, lNot lr) by unfold bOr; rw [hr])
  clear h1 h2 hb hr S hO hx0 hx1 hy0 hy1
  go_enter Try.func39, Try.ntmps39
  go_wp2_with fail
  refine CA.out.mono ?_
  rintro e w1 ⟨vA1, rfl, S1⟩
  replace S1 := Aside0.mk S1
  dsimp only
  go_wp2
  go_ret
  exact ⟨vA1, by rw [HE.out]; rfl, by rw [HE.out]; exact S1.out⟩
end Go.Proofs.Ytpoadkogcdfglaa.PH
