/- The builder of phases and prefix: what its operations keep, chains. -/
import Derived.Test.YtpoadkogcdfglaaHBld
namespace Go.Proofs.Ytpoadkogcdfglaa.PH
open Go.RowKit Go.Proofs.YtpoadkogcdfglaaW.PrintWords Go.Proofs.YtpoadkogcdfglaaW.PrintLast
set_option linter.unusedVariables false
set_option linter.unusedSimpArgs false
attribute [local go_sem] max_pair min_pair

/-- A literal that is small enough. -/
def LB (l : Int) : Prop := 0 ≤ l ∧ l ≤ 999999
theorem LB.not {l : Int} (h : LB l) : LB (lNot l) := by unfold lNot LB at *; split <;> constructor <;> omega
/-- An operation on two literals, and what it keeps. -/
structure BOp (n : Int) (op : List Gate → Int → Int → List Gate × Int) : Prop where
  l : ∀ ands x y, ands.length ≤ 100000 → LB x → LB y → LB (op ands x y).2
  g : ∀ ands x y, (∀ z ∈ ands, I64 z.f0 ∧ I64 z.f1) → LB x → LB y → ∀ z ∈ (op ands x y).1, I64 z.f0 ∧ I64 z.f1
  n : ∀ ands x y, (op ands x y).1.length ≤ ands.length + 1
theorem bAnd_op {n : Int} (hn : 0 ≤ n) (hn1 : n ≤ 200000) : BOp n (bAnd n) where
  l ands x y ha hx hy := bAnd_bound hn hn1 ha hx hy
  g ands x y hg hx hy := by
    unfold bAnd
    split
    · exact hg
    · split
      · exact hg
      · intro z hz
        rcases List.mem_append.1 hz with hz | hz
        · exact hg z hz
        · obtain rfl := List.mem_singleton.1 hz
          unfold bGate mx mn LB at *
          refine ⟨?_, ?_⟩ <;> (dsimp only; split) <;> exact ⟨by omega, by omega⟩
  n ands x y := by
    unfold bAnd
    split
    · dsimp only; omega
    · split
      · dsimp only; omega
      · simp
theorem bOr_op {n : Int} (hn : 0 ≤ n) (hn1 : n ≤ 200000) : BOp n (bOr n) where
  l ands x y ha hx hy := ((bAnd_op hn hn1).l ands _ _ ha hx.not hy.not).not
  g ands x y hg hx hy := (bAnd_op hn hn1).g ands _ _ hg hx.not hy.not
  n ands x y := (bAnd_op hn hn1).n ands _ _
/-- A chain of literals. -/
def bChain (op : List Gate → Int → Int → List Gate × Int) (none : Int) (ands : List Gate) : List Int → List Gate × Int
  | [] => (ands, none)
  | x :: xs => xs.foldl (fun s y => op s.1 s.2 y) (ands, x)
theorem BOp.fold {n : Int} {op : List Gate → Int → Int → List Gate × Int} (h : BOp n op) : ∀ (xs : List Int) (s : List Gate × Int), s.1.length + xs.length ≤ 100000 → LB s.2 → (∀ x ∈ xs, LB x) → (∀ z ∈ s.1, I64 z.f0 ∧ I64 z.f1) →
    LB (xs.foldl (fun s y => op s.1 s.2 y) s).2 ∧ (∀ z ∈ (xs.foldl (fun s y => op s.1 s.2 y) s).1, I64 z.f0 ∧ I64 z.f1) ∧ (xs.foldl (fun s y => op s.1 s.2 y) s).1.length ≤ s.1.length + xs.length
  | [], s, _, hl, _, hg => ⟨hl, hg, Nat.le_refl _⟩
  | x :: xs, s, hn, hl, hx, hg => by
    have h1 := h.n s.1 s.2 x
    simp only [List.length_cons] at hn
    have h2 := h.fold xs (op s.1 s.2 x) (by omega) (h.l _ _ _ (by omega) hl (hx x (by simp))) (fun y hy => hx y (by simp [hy])) (h.g _ _ _ hg hl (hx x (by simp)))
    refine ⟨h2.1, h2.2.1, Nat.le_trans h2.2.2 ?_⟩
    simp only [List.length_cons]
    omega
theorem BOp.chain {n : Int} {op : List Gate → Int → Int → List Gate × Int} (h : BOp n op) {none : Int} {ands : List Gate} {l : List Int} (hn : ands.length + l.length ≤ 100000) (h0 : LB none) (hl : ∀ x ∈ l, LB x) (hg : ∀ z ∈ ands, I64 z.f0 ∧ I64 z.f1) :
    LB (bChain op none ands l).2 ∧ (∀ z ∈ (bChain op none ands l).1, I64 z.f0 ∧ I64 z.f1) ∧ (bChain op none ands l).1.length ≤ ands.length + l.length := by
  cases l with
  | nil => exact ⟨h0, hg, Nat.le_refl _⟩
  | cons x xs =>
    have h2 := h.fold xs (ands, x) (by simp only [List.length_cons] at hn; dsimp only; omega) (hl x (by simp)) (fun y hy => hl y (by simp [hy])) hg
    refine ⟨h2.1, h2.2.1, Nat.le_trans h2.2.2 ?_⟩
    simp only [List.length_cons]
    omega
theorem fold_take {α β : Type} {f : β → α → β} {xs : List α} {i : Nat} {s : β} (h : i < xs.length) : (xs.take (i + 1)).foldl f s = f ((xs.take i).foldl f s) xs[i] := by
  rw [List.take_add_one, List.getElem?_eq_getElem h, List.foldl_append]; rfl
/-- A function that does so to literals. -/
def BDoes (b gB gM : Nat) (inp : Int) (nL : Nat) (fc : Array Value) (vL : Option Addr × Nat) (ps : List Pc) (w0 : World) (fn : FuncId) (op : List Gate → Int → Int → List Gate × Int) : Prop :=
  ∀ w vA ands x y, Parts b w0 w (bPs b gB gM inp nL fc vL vA ands ++ ps) → BOk inp nL ands → LB x → LB y → Calls Try.prog fn #[.pointer (some ⟨gB, 0, none⟩), .int .i64 x, .int .i64 y] w fun e w' => BRet b gB gM inp nL fc vL ps w0 w' (op ands x y) e
theorem b_and_does {b gB gM : Nat} {inp : Int} {nL : Nat} {fc : Array Value} {vL : Option Addr × Nat} {ps : List Pc} {w0 : World} : BDoes b gB gM inp nL fc vL ps w0 38 (bAnd (inp + nL)) :=
  fun w vA ands x y S hO hx hy => b_and S hO hx.1 (Int.le_trans hx.2 (by decide)) hy.1 (Int.le_trans hy.2 (by decide))
theorem RS.dropR {α : Type} {d : Kd α} (hd : d.sz = 1) {w : World} {ad : Addr} {c m : Nat} {l : List α} (h : RS d w (some ad) c l) (hm : m < l.length) : RS d w (some (ad.add m)) (c - m) (l.drop m) := by
  have hh := h.h
  have h_ := Kd.C_drop (m := m) h.r (by omega) hh
  rw [hd, Nat.mul_one, if_neg (by omega)] at h_
  exact ⟨by simpa [List.length_drop] using h_, by rw [List.length_drop]; omega⟩
theorem RS.nilA {α : Type} (d : Kd α) (w : World) (A : Option Addr) (c : Nat) : RS d w A c ([] : List α) := ⟨⟨rfl, by simp, fun h => by simp at h⟩, Nat.zero_le _⟩
theorem RS.tail1 {w : World} {ad : Addr} {cap : Nat} {x : Int} {xs : List Int} (h : RS (Kd.int .i64) w (some ad) cap (x :: xs)) : RS (Kd.int .i64) w (some ⟨ad.block, ad.off + 1, none⟩) (cap - 1) xs := by
  cases xs with
  | nil => exact RS.nilA _ _ _ _
  | cons y ys =>
    have h_ := RS.dropR rfl h (m := 1) (by simp)
    rw [show ad.add 1 = ⟨ad.block, ad.off + 1, none⟩ by unfold Addr.add; simp] at h_
    exact h_
set_option maxHeartbeats 4000000 in
set_option maxRecDepth 100000 in
theorem b_chain {b gB gM : Nat} {inp : Int} {nL : Nat} {fc : Array Value} {vL vA : Option Addr × Nat} {ands : List Gate} {ps : List Pc} {w0 w : World} (S : Parts b w0 w (bPs b gB gM inp nL fc vL vA ands ++ ps)) (hO : BOk inp nL ands)
    {fn : FuncId} {op : List Gate → Int → Int → List Gate × Int} (HD : BDoes b gB gM inp nL fc vL ps w0 fn op) (hop : BOp (inp + nL) op) (eg : ∀ args w, (callFunc fn args).run Try.prog w = .ok (.enter fn args) w) {none : Int} {A : Option Addr} {cap : Nat} {l : List Int}
    (hl : ∀ W vA ands, Parts b w0 W (bPs b gB gM inp nL fc vL vA ands ++ ps) → RS (Kd.int .i64) W A cap l) (hn : ands.length + l.length ≤ 100000) (h0 : LB none) (hx : ∀ x ∈ l, LB x) :
    Calls Try.prog 75 #[.func (.func fn) #[.pointer (some ⟨gB, 0, Option.none⟩)] #[], .int .i64 none, .slice A l.length cap] w fun e w' => BRet b gB gM inp nL fc vL ps w0 w' (bChain op none ands l) e := by
  replace S := Aside0.mk S
  have HO := Aside0.mk hO
  have HD_ := Aside0.mk HD
  have HOP := Aside0.mk hop
  have HL := Aside0.mk hl
  have HN := Aside0.mk hn
  have HX := Aside0.mk hx
  clear hO HD hop hl hn h0 hx
  cases l with
  | nil =>
    go_enter Try.func75, Try.ntmps75
    go_wp2
    go_ret
    exact ⟨vA, rfl, S.out⟩
  | cons x xs =>
    have HR := Aside0.mk (HL.out _ _ _ S.out)
    obtain ⟨ad, e, hc0⟩ := at_int HR.out.r 0 (by simp)
    cases e
    have HB2 := Aside0.mk (fun W vA ands hW => (HL.out W vA ands hW).tail1)
    have hcap : ((xs.length + 1 : Nat) : Int) ≤ (cap : Int) := by have h_ := HR.out.h; simp only [List.length_cons] at h_; omega
    have hmx := HR.out.max
    rw [show ad.add 0 = ad by unfold Addr.add; cases ad; rfl] at hc0
    have hne : (((xs.length + 1 : Nat) : Int) == 0) = false := beq_eq_false_iff_ne.2 (by omega)
    have hcap1 : (1 : Int) ≤ cap := by omega
    go_enter Try.func75, Try.ntmps75
    simp only [List.length_cons, List.getElem_cons_zero] at hc0 hmx ⊢
    go_wp2
    · have HB1 := Aside0.mk (fun W vA ands (hW : Parts b w0 W (bPs b gB gM inp nL fc vL vA ands ++ ps)) => (show RS (Kd.int .i64) W (some ad) 0 xs by rw [List.eq_nil_of_length_eq_zero (show xs.length = 0 by omega)]; exact RS.nilA _ _ _ _))
      go_loopg [7, 20] xs.length (fun gg s7 s20 wr => ∃ (i : Nat) (r : List Gate × Int) (vA : Option Addr × Nat), s7 = .int .i64 r.2 ∧ s20 = .int .i64 i ∧ Aside0 (i ≤ xs.length ∧ xs.length - i ≤ gg) ∧ Aside0 ((xs.take i).foldl (fun s y => op s.1 s.2 y) (ands, x) = r) ∧ Aside0 (Parts b w0 wr (bPs b gB gM inp nL fc vL vA r.1 ++ ps)))
      case atStart => exact ⟨0, (ands, x), vA, rfl, rfl, ⟨by omega, by omega⟩, ⟨rfl⟩, S⟩
      case round =>
        clear S HR
        obtain ⟨i, ⟨an, li⟩, vA, rfl, rfl, HK, HE, S⟩ := hrel
        have HF := Aside0.mk (HOP.out.fold (xs.take i) (ands, x) (by have := HN.out; simp only [List.length_cons, List.length_take] at *; omega) (HX.out x (by simp)) (fun y hy => HX.out y (by simp [List.mem_of_mem_take hy])) HO.out.g)
        rw [HE.out] at HF
        by_cases hlt : i < xs.length
        · obtain ⟨ad2, e, hc⟩ := at_int (HB1.out _ _ _ S.out).r i hlt
          cases e
          have HXI := Aside0.mk (HX.out xs[i] (by simp))
          have HLT := Aside0.mk hlt
          have HST := Aside0.mk (show (xs.take (i + 1)).foldl (fun s y => op s.1 s.2 y) (ands, x) = op an li xs[i] by rw [fold_take hlt, HE.out])
          clear HE
          generalize xs[i] = y at *
          go_wp2_with fail
          refine (HD_.out _ _ _ li y S.out ⟨HO.out.i0, HO.out.i1, HO.out.l1, by have := HF.out.2.2; have := HN.out; simp only [List.length_cons, List.length_take] at *; omega, HF.out.2.1⟩ HF.out.1 HXI.out).mono ?_
          rintro e w8 ⟨vA8, rfl, h8⟩
          have S8 := Aside0.mk h8
          clear h8
          generalize op an li y = r8 at *
          go_wp2
          go_roundg (xs.length - (i + 1))
          case measure => have := HK.out; have := HLT.out; omega
          case rel => exact ⟨i + 1, r8, vA8, rfl, (by first | exact congrArg (Value.int .i64) (by omega) | exact val_step HLT.out (by omega)), ⟨HLT.out, by have := HK.out; omega⟩, HST, S8⟩
        · have hk : i = xs.length := by have := HK.out; omega
          subst hk
          rw [List.take_length] at HE
          clear hlt
          go_wp2
          go_ret
          refine ⟨vA, ?_, ?_⟩
          · rw [show bChain op none ands (x :: xs) = (an, li) from HE.out]; rfl
          · rw [show bChain op none ands (x :: xs) = (an, li) from HE.out]; exact S.out
    · generalize (⟨ad.block, ad.off + 1, Option.none⟩ : Addr) = ad1 at HB2 ⊢
      go_loopg [7, 20] xs.length (fun gg s7 s20 wr => ∃ (i : Nat) (r : List Gate × Int) (vA : Option Addr × Nat), s7 = .int .i64 r.2 ∧ s20 = .int .i64 i ∧ Aside0 (i ≤ xs.length ∧ xs.length - i ≤ gg) ∧ Aside0 ((xs.take i).foldl (fun s y => op s.1 s.2 y) (ands, x) = r) ∧ Aside0 (Parts b w0 wr (bPs b gB gM inp nL fc vL vA r.1 ++ ps)))
      case atStart => exact ⟨0, (ands, x), vA, rfl, rfl, ⟨by omega, by omega⟩, ⟨rfl⟩, S⟩
      case round =>
        clear S HR
        obtain ⟨i, ⟨an, li⟩, vA, rfl, rfl, HK, HE, S⟩ := hrel
        have HF := Aside0.mk (HOP.out.fold (xs.take i) (ands, x) (by have := HN.out; simp only [List.length_cons, List.length_take] at *; omega) (HX.out x (by simp)) (fun y hy => HX.out y (by simp [List.mem_of_mem_take hy])) HO.out.g)
        rw [HE.out] at HF
        by_cases hlt : i < xs.length
        · obtain ⟨ad2, e, hc⟩ := at_int (HB2.out _ _ _ S.out).r i hlt
          cases e
          have HXI := Aside0.mk (HX.out xs[i] (by simp))
          have HLT := Aside0.mk hlt
          have HST := Aside0.mk (show (xs.take (i + 1)).foldl (fun s y => op s.1 s.2 y) (ands, x) = op an li xs[i] by rw [fold_take hlt, HE.out])
          clear HE
          generalize xs[i] = y at *
          go_wp2_with fail
          refine (HD_.out _ _ _ li y S.out ⟨HO.out.i0, HO.out.i1, HO.out.l1, by have := HF.out.2.2; have := HN.out; simp only [List.length_cons, List.length_take] at *; omega, HF.out.2.1⟩ HF.out.1 HXI.out).mono ?_
          rintro e w8 ⟨vA8, rfl, h8⟩
          have S8 := Aside0.mk h8
          clear h8
          generalize op an li y = r8 at *
          go_wp2
          go_roundg (xs.length - (i + 1))
          case measure => have := HK.out; have := HLT.out; omega
          case rel => exact ⟨i + 1, r8, vA8, rfl, (by first | exact congrArg (Value.int .i64) (by omega) | exact val_step HLT.out (by omega)), ⟨HLT.out, by have := HK.out; omega⟩, HST, S8⟩
        · have hk : i = xs.length := by have := HK.out; omega
          subst hk
          rw [List.take_length] at HE
          clear hlt
          go_wp2
          go_ret
          refine ⟨vA, ?_, ?_⟩
          · rw [show bChain op none ands (x :: xs) = (an, li) from HE.out]; rfl
          · rw [show bChain op none ands (x :: xs) = (an, li) from HE.out]; exact S.out
theorem b_or_does {b gB gM : Nat} {inp : Int} {nL : Nat} {fc : Array Value} {vL : Option Addr × Nat} {ps : List Pc} {w0 : World} : BDoes b gB gM inp nL fc vL ps w0 39 (bOr (inp + nL)) :=
  fun w vA ands x y S hO hx hy => b_or S hO hx.1 hx.2 hy.1 hy.2
theorem LB.zero : LB 0 := ⟨by decide, by decide⟩
theorem LB.one : LB 1 := ⟨by decide, by decide⟩
theorem eg_or : ∀ args w, (callFunc 39 args).run Try.prog w = .ok (.enter 39 args) w := enters_fn Try.func39 (by kernel_rfl) rfl
theorem eg_and : ∀ args w, (callFunc 38 args).run Try.prog w = .ok (.enter 38 args) w := enters_fn Try.func38 (by kernel_rfl) rfl
def bAny (n : Int) (ands : List Gate) (l : List Int) : List Gate × Int := bChain (bOr n) 0 ands l
def bAll (n : Int) (ands : List Gate) (l : List Int) : List Gate × Int := bChain (bAnd n) 1 ands l
theorem BOk.n0 {inp : Int} {nL : Nat} {ands : List Gate} (h : BOk inp nL ands) : 0 ≤ inp + nL := by have := h.i0; omega
theorem BOk.n1 {inp : Int} {nL : Nat} {ands : List Gate} (h : BOk inp nL ands) : inp + nL ≤ 200000 := by have := h.i1; have := h.l1; omega
set_option maxHeartbeats 2000000 in
set_option maxRecDepth 100000 in
theorem b_any {b gB gM : Nat} {inp : Int} {nL : Nat} {fc : Array Value} {vL vA : Option Addr × Nat} {ands : List Gate} {ps : List Pc} {w0 w : World} (S : Parts b w0 w (bPs b gB gM inp nL fc vL vA ands ++ ps)) (hO : BOk inp nL ands) {A : Option Addr} {cap : Nat} {l : List Int}
    (hl : ∀ W vA ands, Parts b w0 W (bPs b gB gM inp nL fc vL vA ands ++ ps) → RS (Kd.int .i64) W A cap l) (hn : ands.length + l.length ≤ 100000) (hx : ∀ x ∈ l, LB x) :
    Calls Try.prog 40 #[.pointer (some ⟨gB, 0, none⟩), .slice A l.length cap] w fun e w' => BRet b gB gM inp nL fc vL ps w0 w' (bAny (inp + nL) ands l) e := by
  have CA := Aside0.mk (b_chain S hO b_or_does (bOr_op hO.n0 hO.n1) eg_or hl hn LB.zero hx)
  obtain ⟨r, hr⟩ : ∃ r, bChain (bOr (inp + nL)) 0 ands l = r := ⟨_, rfl⟩
  rw [show bAny (inp + nL) ands l = r from hr]
  rw [hr] at CA
  have hmf : ∀ (fn : Fn) (first cap : Array Value) (w : World), (Instr.makeFunc fn first cap).run Try.prog w = .ok (.func fn first cap) w := fun _ _ _ _ => rfl
  clear S hO hl hn hx hr
  go_enter Try.func40, Try.ntmps40
  go_wp2_with fail
  refine CA.out.mono ?_
  rintro e w1 ⟨vA1, rfl, S1⟩
  replace S1 := Aside0.mk S1
  obtain ⟨ra, rl⟩ := r
  dsimp only
  go_wp2
  go_ret
  exact ⟨vA1, rfl, S1.out⟩
end Go.Proofs.Ytpoadkogcdfglaa.PH
