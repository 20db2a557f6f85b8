/- The reference's builder: Any, All, Build. -/
import Derived.Test.YtpoadkogcdfglaaHRefB
import Derived.Test.YtpoadkogcdfglaaHBldG
import Derived.Test.YtpoadkogcdfglaaHRowS
import Derived.Deep.RegionHeld3
import Derived.Deep.QuietTactic
import Derived.BigQuiet
namespace Go.Proofs.Ytpoadkogcdfglaa.PH
open Go.RowKit Go.Proofs.YtpoadkogcdfglaaW.PrintWords Go.Proofs.YtpoadkogcdfglaaW.PrintLast
set_option linter.unusedVariables false
set_option linter.unusedSimpArgs false

theorem chain_take {op : List Gate → Int → Int → List Gate × Int} {none : Int} {ands : List Gate} {l : List Int} {i : Nat} (h : i < l.length) : bChain op none ands (l.take (i + 1)) = if i = 0 then (ands, l[i]) else op (bChain op none ands (l.take i)).1 (bChain op none ands (l.take i)).2 l[i] := by
  cases l with
  | nil => simp at h
  | cons x xs =>
    cases i with
    | zero => rfl
    | succ k =>
      rw [if_neg (by omega)]
      have hk : k < xs.length := by simpa using h
      show (xs.take (k + 1)).foldl _ _ = _
      rw [fold_take hk]
      rfl
@[reducible] def fcV (p : CP) (f : Circ) : Array Value := #[.int .i64 f.f0, .slice p.A1 f.f1.length p.c1, .slice p.A2 f.f2.length p.c2, .slice p.A3 f.f3.length p.c3, .slice p.A4 f.f4.length p.c4]
/-- Build's memory: the row that tells, the result's cell, the circuit's block. -/
@[reducible] def kPs (b gP gR : Nat) (fc : Array Value) (V : Option Addr) (n c : Nat) (T : List Int) : List Pc :=
  [pF b (Kd.int .i64) 3 (.slice V n c) T, pB gR 123 #[.slice none 0 0, .int .i64 0, .int .i64 0], pB gP 26 fc]
/-- With the frame's own block and its row of nexts. -/
@[reducible] def qPs (b gF : Nat) (Vn : Option Addr) (nn cn : Nat) (N : List Int) (gP gR : Nat) (fc : Array Value) (V : Option Addr) (n c : Nat) (T : List Int) : List Pc :=
  pB gF 123 #[.slice Vn nn cn, .int .i64 0, .int .i64 0] :: pF b (Kd.int .i64) 3 (.slice Vn nn cn) N :: kPs b gP gR fc V n c T
set_option maxHeartbeats 4000000 in
set_option maxRecDepth 100000 in
theorem ref32_Any {b gC : Nat} {inp : Int} {nL : Nat} {bs : Value × Value} {vL vA : Option Addr × Nat} {ands : List Gate} {ps : List Pc} {w0 w : World} (S : Parts b w0 w (rPs b gC inp nL bs vL vA ands ++ ps)) (hO : BOk inp nL ands) {A : Option Addr} {cap : Nat} {l : List Int}
    (hl : ∀ W vA ands, Parts b w0 W (rPs b gC inp nL bs vL vA ands ++ ps) → RS (Kd.int .i64) W A cap l) (hn : ands.length + l.length ≤ 100000) (hx : ∀ x ∈ l, LB x) :
    Calls Try.prog 80 #[.pointer (some ⟨gC, 0, none⟩), .slice A l.length cap] w fun e w' => RRet b gC inp nL bs vL ps w0 w' (bAny (inp + nL) ands l) e := by
  replace S := Aside0.mk S
  have HO := Aside0.mk hO
  have HL := Aside0.mk hl
  have HN := Aside0.mk hn
  have HX := Aside0.mk hx
  have HOP := Aside0.mk (bOr_op hO.n0 hO.n1)
  obtain ⟨op, hop⟩ : ∃ op, bOr (inp + nL) = op := ⟨_, rfl⟩
  have HAL := Aside0.mk (fun (W : World) (vA : Option Addr × Nat) (ands : List Gate) (x y : Int) (hS : Parts b w0 W (rPs b gC inp nL bs vL vA ands ++ ps)) (hO : BOk inp nL ands) (hx : LB x) (hy : LB y) => ref26_Either hS hO hx hy)
  have hsp : ∀ ands l, bAny (inp + nL) ands l = bChain (bOr (inp + nL)) 0 ands l := fun _ _ => rfl
  rw [hsp]
  simp only [show ∀ a x y, bOr (inp + nL) a x y = op a x y from fun _ _ _ => by rw [hop]] at HAL
  rw [hop] at HOP ⊢
  clear hO hl hn hx hop hsp
  go_enter Try.func80, Try.ntmps80
  go_wp2
  go_loopg [5, 6] l.length (fun gg s5 s6 wr => ∃ (i : Nat) (r : List Gate × Int) (vA : Option Addr × Nat), s5 = .int .i64 r.2 ∧ s6 = .int .i64 i ∧ Aside0 (i ≤ l.length ∧ l.length - i ≤ gg) ∧ Aside0 (bChain op 0 ands (l.take i) = r) ∧ Aside0 (Parts b w0 wr (rPs b gC inp nL bs vL vA r.1 ++ ps)))
  case atStart => exact ⟨0, (ands, 0), vA, rfl, rfl, ⟨by omega, by omega⟩, ⟨rfl⟩, S⟩
  case round =>
    clear S
    obtain ⟨i, ⟨an, li⟩, vA, rfl, rfl, HK, HE, S⟩ := hrel
    by_cases hlt : i < l.length
    · obtain ⟨ad, e, hc⟩ := at_int (HL.out _ _ _ S.out).r i hlt
      have HF := Aside0.mk (HOP.out.chain (none := 0) (ands := ands) (l := l.take i) (by have := HN.out; simp only [List.length_take]; omega) LB.zero (fun y hy => HX.out y (List.mem_of_mem_take hy)) HO.out.g)
      rw [HE.out] at HF
      have HXI := Aside0.mk (HX.out _ (List.getElem_mem hlt))
      have HLT := Aside0.mk hlt
      have HST := Aside0.mk (chain_take (op := op) (none := 0) (ands := ands) hlt)
      rw [HE.out] at HST
      by_cases hi : i = 0
      · have hib : ((i : Int) == 0) = true := beq_iff_eq.2 (by omega)
        have HI := Aside0.mk hi
        have HAD := Aside0.mk (show an = ands by have h_ := HE.out; rw [hi] at h_; exact (congrArg Prod.fst h_).symm)
        have hc0 : wr.cell? ad = some (.int .i64 l[i]) := by
          have h_ := hc
          rw [show ad.add i = ad by rw [hi]; unfold Addr.add; cases ad; rfl] at h_
          exact h_
        rw [if_pos hi] at HST
        have hl0 : (0 : Int) < (l.length : Int) := by omega
        have hl1 : 0 < l.length := by omega
        clear hi HE
        generalize l[i] = y at *
        cases e
        go_wp2
        go_roundg (l.length - (i + 1))
        case measure => have := HK.out; have := HLT.out; omega
        case rel => exact ⟨i + 1, (an, y), vA, rfl, (by first | exact congrArg (Value.int .i64) (by omega) | exact val_step HLT.out (by have := HN.out; omega)), ⟨HLT.out, by have := HK.out; omega⟩, ⟨by rw [HST.out, HAD.out]⟩, S⟩
      · have hib : ((i : Int) == 0) = false := beq_eq_false_iff_ne.2 (by omega)
        rw [if_neg hi] at HST
        clear hi HE
        generalize l[i] = y at *
        cases e
        go_wp2_with fail
        refine (HAL.out _ _ _ li y S.out ⟨HO.out.i0, HO.out.i1, HO.out.l1, by have := HF.out.2.2; have := HN.out; have := HLT.out; simp only [List.length_take] at *; omega, HF.out.2.1⟩ HF.out.1 HXI.out).mono ?_
        rintro e w8 ⟨vA8, rfl, h8⟩
        have S8 := Aside0.mk h8
        clear h8
        try dsimp only at HST
        generalize op an li y = r8 at *
        go_wp2
        go_roundg (l.length - (i + 1))
        case measure => have := HK.out; have := HLT.out; omega
        case rel => exact ⟨i + 1, r8, vA8, rfl, (by first | exact congrArg (Value.int .i64) (by omega) | exact val_step HLT.out (by have := HN.out; omega)), ⟨HLT.out, by have := HK.out; omega⟩, HST, S8⟩
    · have hk : i = l.length := by have := HK.out; omega
      subst hk
      rw [List.take_length] at HE
      clear hlt
      go_wp2
      go_ret
      exact ⟨vA, by rw [HE.out]; rfl, by rw [HE.out]; exact S.out⟩
set_option maxHeartbeats 4000000 in
set_option maxRecDepth 100000 in
theorem ref32_All {b gC : Nat} {inp : Int} {nL : Nat} {bs : Value × Value} {vL vA : Option Addr × Nat} {ands : List Gate} {ps : List Pc} {w0 w : World} (S : Parts b w0 w (rPs b gC inp nL bs vL vA ands ++ ps)) (hO : BOk inp nL ands) {A : Option Addr} {cap : Nat} {l : List Int}
    (hl : ∀ W vA ands, Parts b w0 W (rPs b gC inp nL bs vL vA ands ++ ps) → RS (Kd.int .i64) W A cap l) (hn : ands.length + l.length ≤ 100000) (hx : ∀ x ∈ l, LB x) :
    Calls Try.prog 103 #[.pointer (some ⟨gC, 0, none⟩), .slice A l.length cap] w fun e w' => RRet b gC inp nL bs vL ps w0 w' (bAll (inp + nL) ands l) e := by
  replace S := Aside0.mk S
  have HO := Aside0.mk hO
  have HL := Aside0.mk hl
  have HN := Aside0.mk hn
  have HX := Aside0.mk hx
  have HOP := Aside0.mk (bAnd_op hO.n0 hO.n1)
  obtain ⟨op, hop⟩ : ∃ op, bAnd (inp + nL) = op := ⟨_, rfl⟩
  have HAL := Aside0.mk (fun (W : World) (vA : Option Addr × Nat) (ands : List Gate) (x y : Int) (hS : Parts b w0 W (rPs b gC inp nL bs vL vA ands ++ ps)) (hO : BOk inp nL ands) (hx : LB x) (hy : LB y) => ref26_Made hS hO hx hy)
  have hsp : ∀ ands l, bAll (inp + nL) ands l = bChain (bAnd (inp + nL)) 1 ands l := fun _ _ => rfl
  rw [hsp]
  simp only [show ∀ a x y, bAnd (inp + nL) a x y = op a x y from fun _ _ _ => by rw [hop]] at HAL
  rw [hop] at HOP ⊢
  clear hO hl hn hx hop hsp
  go_enter Try.func103, Try.ntmps103
  go_wp2
  go_loopg [5, 6] l.length (fun gg s5 s6 wr => ∃ (i : Nat) (r : List Gate × Int) (vA : Option Addr × Nat), s5 = .int .i64 r.2 ∧ s6 = .int .i64 i ∧ Aside0 (i ≤ l.length ∧ l.length - i ≤ gg) ∧ Aside0 (bChain op 1 ands (l.take i) = r) ∧ Aside0 (Parts b w0 wr (rPs b gC inp nL bs vL vA r.1 ++ ps)))
  case atStart => exact ⟨0, (ands, 1), vA, rfl, rfl, ⟨by omega, by omega⟩, ⟨rfl⟩, S⟩
  case round =>
    clear S
    obtain ⟨i, ⟨an, li⟩, vA, rfl, rfl, HK, HE, S⟩ := hrel
    by_cases hlt : i < l.length
    · obtain ⟨ad, e, hc⟩ := at_int (HL.out _ _ _ S.out).r i hlt
      have HF := Aside0.mk (HOP.out.chain (none := 1) (ands := ands) (l := l.take i) (by have := HN.out; simp only [List.length_take]; omega) LB.one (fun y hy => HX.out y (List.mem_of_mem_take hy)) HO.out.g)
      rw [HE.out] at HF
      have HXI := Aside0.mk (HX.out _ (List.getElem_mem hlt))
      have HLT := Aside0.mk hlt
      have HST := Aside0.mk (chain_take (op := op) (none := 1) (ands := ands) hlt)
      rw [HE.out] at HST
      by_cases hi : i = 0
      · have hib : ((i : Int) == 0) = true := beq_iff_eq.2 (by omega)
        have HI := Aside0.mk hi
        have HAD := Aside0.mk (show an = ands by have h_ := HE.out; rw [hi] at h_; exact (congrArg Prod.fst h_).symm)
        have hc0 : wr.cell? ad = some (.int .i64 l[i]) := by
          have h_ := hc
          rw [show ad.add i = ad by rw [hi]; unfold Addr.add; cases ad; rfl] at h_
          exact h_
        rw [if_pos hi] at HST
        have hl0 : (0 : Int) < (l.length : Int) := by omega
        have hl1 : 0 < l.length := by omega
        clear hi HE
        generalize l[i] = y at *
        cases e
        go_wp2
        go_roundg (l.length - (i + 1))
        case measure => have := HK.out; have := HLT.out; omega
        case rel => exact ⟨i + 1, (an, y), vA, rfl, (by first | exact congrArg (Value.int .i64) (by omega) | exact val_step HLT.out (by have := HN.out; omega)), ⟨HLT.out, by have := HK.out; omega⟩, ⟨by rw [HST.out, HAD.out]⟩, S⟩
      · have hib : ((i : Int) == 0) = false := beq_eq_false_iff_ne.2 (by omega)
        rw [if_neg hi] at HST
        clear hi HE
        generalize l[i] = y at *
        cases e
        go_wp2_with fail
        refine (HAL.out _ _ _ li y S.out ⟨HO.out.i0, HO.out.i1, HO.out.l1, by have := HF.out.2.2; have := HN.out; have := HLT.out; simp only [List.length_take] at *; omega, HF.out.2.1⟩ HF.out.1 HXI.out).mono ?_
        rintro e w8 ⟨vA8, rfl, h8⟩
        have S8 := Aside0.mk h8
        clear h8
        try dsimp only at HST
        generalize op an li y = r8 at *
        go_wp2
        go_roundg (l.length - (i + 1))
        case measure => have := HK.out; have := HLT.out; omega
        case rel => exact ⟨i + 1, r8, vA8, rfl, (by first | exact congrArg (Value.int .i64) (by omega) | exact val_step HLT.out (by have := HN.out; omega)), ⟨HLT.out, by have := HK.out; omega⟩, HST, S8⟩
    · have hk : i = l.length := by have := HK.out; omega
      subst hk
      rw [List.take_length] at HE
      clear hlt
      go_wp2
      go_ret
      exact ⟨vA, by rw [HE.out]; rfl, by rw [HE.out]; exact S.out⟩
end Go.Proofs.Ytpoadkogcdfglaa.PH
