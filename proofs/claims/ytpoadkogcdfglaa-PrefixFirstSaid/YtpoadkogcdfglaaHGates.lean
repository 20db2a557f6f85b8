/- gates.Check, gates.Vars: what they answer, and that what lay in memory stays. -/
import Derived.Test.YtpoadkogcdfglaaHBase
namespace Go.Proofs.Ytpoadkogcdfglaa.PH
open Go.RowKit Go.Proofs.YtpoadkogcdfglaaW.PrintWords
set_option linter.unusedVariables false
set_option linter.unusedSimpArgs false
attribute [local go_sem] max_pair min_pair

/-- A predicate on whole numbers, called in any world in which what lay in w still lies: it answers p and lays blocks of its own at most. -/
def PInt (P : Program) (g : Nat) (lb : Array Value) (p : Int → Bool) (w : World) : Prop :=
  ∀ (W : World) (x : Int), Below w.heap.size w W → Calls P g (#[.int .i64 x] ++ lb) W fun e w' => e = .returned (.bool (p x)) ∧ Below W.heap.size W w'
/-- The index of the first element of which p holds, or -1: from i on. -/
def firstIdx {α : Type} (p : α → Bool) : List α → Int → Int
  | [], _ => -1
  | x :: xs, i => if p x then i else firstIdx p xs (i + 1)
theorem firstIdx_miss {α : Type} (p : α → Bool) : ∀ (xs : List α) (i : Int), (∀ x ∈ xs, p x = false) → firstIdx p xs i = -1
  | [], _, _ => rfl
  | x :: xs, i, h => by
    unfold firstIdx
    rw [if_neg (by rw [h x List.mem_cons_self]; simp)]
    exact firstIdx_miss p xs (i + 1) (fun y hy => h y (List.mem_cons_of_mem _ hy))
theorem firstIdx_hit {α : Type} (p : α → Bool) : ∀ (xs : List α) (i : Int) (k : Nat) (y : α), xs[k]? = some y → p y = true → (∀ j z, j < k → xs[j]? = some z → p z = false) → firstIdx p xs i = i + k
  | [], _, k, y, h, _, _ => by simp at h
  | x :: xs, i, 0, y, h, hp, _ => by
    have : x = y := by simpa using h
    subst this
    unfold firstIdx
    rw [if_pos hp]; simp
  | x :: xs, i, k + 1, y, h, hp, ha => by
    have h0 := ha 0 x (by omega) (by simp)
    unfold firstIdx
    rw [if_neg (by rw [h0]; simp), firstIdx_hit p xs (i + 1) k y (by simpa using h) hp (fun j z hj hz => ha (j + 1) z (by omega) (by simpa using hz))]
    push_cast
    omega
theorem firstIdx_nonneg {α : Type} (p : α → Bool) : ∀ (xs : List α) (i : Int), 0 ≤ i → (decide (0 ≤ firstIdx p xs i) = xs.any p)
  | [], i, h => by simp [firstIdx]
  | x :: xs, i, h => by
    unfold firstIdx
    by_cases hx : p x = true
    · rw [if_pos hx]; simp [hx, h]
    · rw [if_neg hx, firstIdx_nonneg p xs (i + 1) (by omega)]; simp [hx]
/-- The same for latches. -/
def PLatch (P : Program) (g : Nat) (lb : Array Value) (p : Latch → Bool) (w : World) : Prop :=
  ∀ (W : World) (x : Latch), Below w.heap.size w W → Calls P g (#[.agg #[.int .i64 x.f0, .int .i64 x.f1]] ++ lb) W fun e w' => e = .returned (.bool (p x)) ∧ Below W.heap.size W w'
set_option maxHeartbeats 2000000 in
theorem slices_IndexFunc_int (A : Option Addr) (c : Nat) (l : List Int) (p : Int → Bool) (g : Nat) (lb : Array Value) (w : World) (hr : Kd.C (Kd.int .i64) w A l.length l) (hc : l.length ≤ c)
    (hp : PInt Try.prog g lb p w) (eg : ∀ args w, (callFunc g args).run Try.prog w = .ok (.enter g args) w) :
    Calls Try.prog 100 #[.slice A l.length c, .func (.func g) #[] lb] w fun e w' => e = .returned (.int .i64 (firstIdx p l 0)) ∧ Below w.heap.size w w' := by
  have HR := Aside0.mk hr
  have HC := Aside0.mk hc
  have HP := Aside0.mk hp
  have HM := Aside0.mk (Kd.C_max hr)
  clear hr hc hp
  go_enter Try.func100, Try.ntmps100
  go_wp2
  go_loopg [5, 8] l.length (fun gg _ s8 wr => ∃ x : Int, s8 = .int .i64 x ∧ Aside0 (0 ≤ x ∧ x ≤ l.length ∧ l.length - x.toNat ≤ gg) ∧ Aside0 (Below w.heap.size w wr) ∧ Aside0 (∀ (j : Nat) (z : Int), j < x.toNat → l[j]? = some z → p z = false))
  case atStart => exact ⟨0, rfl, ⟨by omega, by omega, by omega⟩, ⟨Below.refl _ w⟩, ⟨fun j z hj _ => absurd hj (Nat.not_lt_zero _)⟩⟩
  case round =>
    obtain ⟨x, rfl, HX, BW, HA⟩ := hrel
    by_cases hlt : x < (l.length : Int)
    · have c3b0 : decide (x < (l.length : Int)) = true := decide_eq_true hlt
      have p1 : 0 ≤ x := HX.out.1
      obtain ⟨ad, e1, hx⟩ := Kd.at_int (Kd.C_below HR.out BW.out) x p1 hlt
      cases e1
      have hget : Aside0 (l[x.toNat]? = some (rd l x)) := ⟨by
        have : x.toNat < l.length := by omega
        rw [List.getElem?_eq_getElem this, rd, List.getD_eq_getElem?_getD, List.getElem?_eq_getElem this]; rfl⟩
      have hcall := HP.out wr (rd l x) BW.out
      have HLT := Aside0.mk hlt
      have HP1 := Aside0.mk p1
      replace p1 := eq_true p1
      replace hlt := eq_true hlt
      cases hq : p (rd l x) with
      | true =>
        rw [hq] at hcall
        have HQ := Aside0.mk hq
        clear hq
        go_wp2_with fail
        refine hcall.mono ?_
        rintro e w' ⟨rfl, hb'⟩
        clear hcall
        go_wp2
        go_ret
        refine ⟨?_, BW.out.trans (hb'.mono BW.out.size)⟩
        rw [firstIdx_hit p l 0 x.toNat (rd l x) hget.out HQ.out (fun j z hj hz => HA.out j z hj hz), Int.toNat_of_nonneg HP1.out]
        simp
      | false =>
        rw [hq] at hcall
        have HQ := Aside0.mk hq
        clear hq
        go_wp2_with fail
        refine hcall.mono ?_
        rintro e w' ⟨rfl, hb'⟩
        clear hcall
        go_wp2
        go_roundg (l.length - (x.toNat + 1))
        case measure => have := HX.out; have := HLT.out; omega
        case rel =>
          have hw : wrap64 (x + 1) = x + 1 := wrap_step HP1.out HLT.out HM.out
          have h1 := HP1.out
          refine ⟨wrap64 (x + 1), rfl, ⟨?_⟩, ⟨BW.out.trans (hb'.mono BW.out.size)⟩, ⟨fun j z hj hz => ?_⟩⟩
          · rw [hw]; exact ⟨by omega, by have := HLT.out; omega, by have := HX.out; have := HLT.out; omega⟩
          rw [hw] at hj
          by_cases e : j = x.toNat
          · subst e
            rw [hget.out] at hz
            injection hz with hz
            rw [← hz]; exact HQ.out
          · exact HA.out j z (by omega) hz
    · have c3b0 : decide (x < (l.length : Int)) = false := decide_eq_false hlt
      have HE : Aside0 (x.toNat = l.length) := ⟨by have := HX.out; omega⟩
      clear hlt
      go_wp2
      go_ret
      refine ⟨?_, BW.out⟩
      have hno : ∀ z ∈ l, p z = false := fun z hz => by
        obtain ⟨j, hj, e⟩ := List.getElem_of_mem hz
        exact HA.out j z (by rw [HE.out]; exact hj) (by rw [List.getElem?_eq_getElem hj, e])
      rw [firstIdx_miss p l 0 hno]
      rfl
theorem slices_ContainsFunc_int (A : Option Addr) (c : Nat) (l : List Int) (p : Int → Bool) (g : Nat) (lb : Array Value) (w : World) (hr : Kd.C (Kd.int .i64) w A l.length l) (hc : l.length ≤ c)
    (hp : PInt Try.prog g lb p w) (eg : ∀ args w, (callFunc g args).run Try.prog w = .ok (.enter g args) w) :
    Calls Try.prog 71 #[.slice A l.length c, .func (.func g) #[] lb] w fun e w' => e = .returned (.bool (l.any p)) ∧ Below w.heap.size w w' := by
  have H := Aside0.mk (slices_IndexFunc_int A c l p g lb w hr hc hp eg)
  clear hr hc hp eg
  have HN := Aside0.mk (firstIdx_nonneg p l 0 (by omega))
  go_enter Try.func71, Try.ntmps71
  go_wp2_with fail
  refine H.out.mono ?_
  rintro e w' ⟨rfl, hb'⟩
  go_wp2
  go_ret
  exact ⟨by rw [← HN.out]; first | rfl | simp, hb'⟩
set_option maxHeartbeats 2000000 in
theorem slices_IndexFunc_latch (A : Option Addr) (c : Nat) (l : List Latch) (p : Latch → Bool) (g : Nat) (lb : Array Value) (w : World) (hr : Kd.C kLatch w A l.length l) (hc : l.length ≤ c)
    (hp : PLatch Try.prog g lb p w) (eg : ∀ args w, (callFunc g args).run Try.prog w = .ok (.enter g args) w) :
    Calls Try.prog 101 #[.slice A l.length c, .func (.func g) #[] lb] w fun e w' => e = .returned (.int .i64 (firstIdx p l 0)) ∧ Below w.heap.size w w' := by
  have HR := Aside0.mk hr
  have HC := Aside0.mk hc
  have HP := Aside0.mk hp
  have HM := Aside0.mk (Kd.C_max hr)
  clear hr hc hp
  go_enter Try.func101, Try.ntmps101
  go_wp2
  go_loopg [5, 8] l.length (fun gg _ s8 wr => ∃ x : Int, s8 = .int .i64 x ∧ Aside0 (0 ≤ x ∧ x ≤ l.length ∧ l.length - x.toNat ≤ gg) ∧ Aside0 (Below w.heap.size w wr) ∧ Aside0 (∀ (j : Nat) (z : Latch), j < x.toNat → l[j]? = some z → p z = false))
  case atStart => exact ⟨0, rfl, ⟨by omega, by omega, by omega⟩, ⟨Below.refl _ w⟩, ⟨fun j z hj _ => absurd hj (Nat.not_lt_zero _)⟩⟩
  case round =>
    obtain ⟨x, rfl, HX, BW, HA⟩ := hrel
    by_cases hlt : x < (l.length : Int)
    · have c3b0 : decide (x < (l.length : Int)) = true := decide_eq_true hlt
      have p1 : 0 ≤ x := HX.out.1
      obtain ⟨ad, e1, hx, hx1⟩ := at_TLatch (Kd.C_below HR.out BW.out) x p1 hlt
      cases e1
      have hget : Aside0 (l[x.toNat]? = some (rd_TLatch l x)) := ⟨by
        have : x.toNat < l.length := by omega
        rw [List.getElem?_eq_getElem this, rd_TLatch, List.getD_eq_getElem?_getD, List.getElem?_eq_getElem this]; rfl⟩
      have hcall := HP.out wr (rd_TLatch l x) BW.out
      have HLT := Aside0.mk hlt
      have HP1 := Aside0.mk p1
      replace p1 := eq_true p1
      replace hlt := eq_true hlt
      cases hq : p (rd_TLatch l x) with
      | true =>
        rw [hq] at hcall
        have HQ := Aside0.mk hq
        clear hq
        go_wp2_with fail
        refine hcall.mono ?_
        rintro e w' ⟨rfl, hb'⟩
        clear hcall
        go_wp2
        go_ret
        refine ⟨?_, BW.out.trans (hb'.mono BW.out.size)⟩
        rw [firstIdx_hit p l 0 x.toNat (rd_TLatch l x) hget.out HQ.out (fun j z hj hz => HA.out j z hj hz), Int.toNat_of_nonneg HP1.out]
        simp
      | false =>
        rw [hq] at hcall
        have HQ := Aside0.mk hq
        clear hq
        go_wp2_with fail
        refine hcall.mono ?_
        rintro e w' ⟨rfl, hb'⟩
        clear hcall
        go_wp2
        go_roundg (l.length - (x.toNat + 1))
        case measure => have := HX.out; have := HLT.out; omega
        case rel =>
          have hw : wrap64 (x + 1) = x + 1 := wrap_step HP1.out HLT.out HM.out
          have h1 := HP1.out
          refine ⟨wrap64 (x + 1), rfl, ⟨?_⟩, ⟨BW.out.trans (hb'.mono BW.out.size)⟩, ⟨fun j z hj hz => ?_⟩⟩
          · rw [hw]; exact ⟨by omega, by have := HLT.out; omega, by have := HX.out; have := HLT.out; omega⟩
          rw [hw] at hj
          by_cases e : j = x.toNat
          · subst e
            rw [hget.out] at hz
            injection hz with hz
            rw [← hz]; exact HQ.out
          · exact HA.out j z (by omega) hz
    · have c3b0 : decide (x < (l.length : Int)) = false := decide_eq_false hlt
      have HE : Aside0 (x.toNat = l.length) := ⟨by have := HX.out; omega⟩
      clear hlt
      go_wp2
      go_ret
      refine ⟨?_, BW.out⟩
      have hno : ∀ z ∈ l, p z = false := fun z hz => by
        obtain ⟨j, hj, e⟩ := List.getElem_of_mem hz
        exact HA.out j z (by rw [HE.out]; exact hj) (by rw [List.getElem?_eq_getElem hj, e])
      rw [firstIdx_miss p l 0 hno]
      rfl
theorem slices_ContainsFunc_latch (A : Option Addr) (c : Nat) (l : List Latch) (p : Latch → Bool) (g : Nat) (lb : Array Value) (w : World) (hr : Kd.C kLatch w A l.length l) (hc : l.length ≤ c)
    (hp : PLatch Try.prog g lb p w) (eg : ∀ args w, (callFunc g args).run Try.prog w = .ok (.enter g args) w) :
    Calls Try.prog 72 #[.slice A l.length c, .func (.func g) #[] lb] w fun e w' => e = .returned (.bool (l.any p)) ∧ Below w.heap.size w w' := by
  have H := Aside0.mk (slices_IndexFunc_latch A c l p g lb w hr hc hp eg)
  clear hr hc hp eg
  have HN := Aside0.mk (firstIdx_nonneg p l 0 (by omega))
  go_enter Try.func72, Try.ntmps72
  go_wp2_with fail
  refine H.out.mono ?_
  rintro e w' ⟨rfl, hb'⟩
  go_wp2
  go_ret
  exact ⟨by rw [← HN.out]; first | rfl | simp, hb'⟩
set_option maxHeartbeats 1000000 in
theorem gates_starts_any (a : Int) (A1 : Option Addr) (n1 c1 : Nat) (A2 : Option Addr) (n2 c2 : Nat) (A3 : Option Addr) (n3 c3 : Nat) (A4 : Option Addr) (n4 c4 : Nat) (w : World) (h0 : 0 ≤ a) (h1 : a ≤ 4000000) (h2 : n1 ≤ 4000000) (h3 : n2 ≤ 4000000) :
    Calls Try.prog 68 #[.agg #[.int .i64 a, .slice A1 n1 c1, .slice A2 n2 c2, .slice A3 n3 c3, .slice A4 n4 c4]] w fun e w' => e = .returned (.agg #[.int .i64 1, .int .i64 (1 + a), .int .i64 (1 + a + n1), .int .i64 (1 + a + n1 + n2)]) ∧ Below w.heap.size w w' := by
  have hu26 := Try.underlying26
  have hu88 := Try.underlying113
  go_enter Try.func68, Try.ntmps68
  go_wp2
  exact bodyPost_ret (v := .agg #[.int .i64 1, .int .i64 (1 + a), .int .i64 (1 + a + n1), .int .i64 (1 + a + n1 + n2)]) (by simp [results, Try.results68, go_sem]) rfl ⟨rfl, below_alloc (below_alloc (Below.refl _ _) _) _⟩
def gOut (s l : Int) : Bool := decide (l < 0) || decide (s ≤ l / 2)
set_option maxHeartbeats 1000000 in
set_option maxRecDepth 100000 in
theorem gates_outside (s : Int) (B : Nat) (w : World) (hB : B < w.heap.size) (hc : w.cell? ⟨B, 3, none⟩ = some (.int .i64 s)) : PInt Try.prog 69 #[.pointer (some ⟨B, 0, none⟩)] (gOut s) w := by
  intro W x hb
  have hc' := (hb.cell (p := ⟨B, 3, none⟩) hB).trans hc
  clear hc hb hB
  unfold gOut
  show Calls _ _ #[.int .i64 x, .pointer (some ⟨B, 0, none⟩)] _ _
  have hu88 := Try.underlying113
  by_cases h : x < 0
  · have h1 : decide (x < 0) = true := decide_eq_true h
    clear h
    go_enter Try.func69, Try.ntmps69
    go_wp2
    go_ret
    exact ⟨by simp [h1], Below.refl _ _⟩
  · have h1 : decide (x < 0) = false := decide_eq_false h
    have h2 : 0 ≤ x := by omega
    clear h
    go_enter Try.func69, Try.ntmps69
    go_wp2
    go_ret
    exact ⟨by simp [h1], Below.refl _ _⟩
def gWrong (s : Int) (x : Latch) : Bool := gOut s x.f0 || decide (x.f1 < 0) || decide (2 < x.f1)
set_option maxHeartbeats 1000000 in
set_option maxRecDepth 100000 in
theorem gates_wrong (s : Int) (B C : Nat) (w : World) (hB : B < w.heap.size) (hc : w.cell? ⟨B, 3, none⟩ = some (.int .i64 s)) (hC : C < w.heap.size) (hf : w.cell? ⟨C, 0, none⟩ = some (.func (.func 69) #[] #[.pointer (some ⟨B, 0, none⟩)])) :
    PLatch Try.prog 70 #[.pointer (some ⟨C, 0, none⟩)] (gWrong s) w := by
  intro W x hb
  have hf' := (hb.cell (p := ⟨C, 0, none⟩) hC).trans hf
  have hcall := gates_outside s B w hB hc (W.alloc (.cells #[.int .i64 x.f0, .int .i64 x.f1] 45)) x.f0 (hb.alloc hb.size _)
  have HS := Aside0.mk hb.size
  clear hc hb hB hf hC
  unfold gWrong
  show Calls _ _ #[.agg #[.int .i64 x.f0, .int .i64 x.f1], .pointer (some ⟨C, 0, none⟩)] _ _
  have hu49 := Try.underlying45
  have hCW : C < W.heap.size := World.block_lt_of_cell? W _ hf'
  generalize gOut s x.f0 = o at hcall ⊢
  go_enter Try.func70, Try.ntmps70
  go_wp2_with fail
  refine hcall.mono ?_
  rintro e w' ⟨rfl, hb'⟩
  clear hcall
  have hcell : w'.cell? ⟨W.heap.size, 1, none⟩ = some (.int .i64 x.f1) := (hb'.cell (p := ⟨W.heap.size, 1, none⟩) (by simp)).trans (by simp)
  have HB := Aside0.mk (below_then (below_alloc (Below.refl W.heap.size W) _) (by simp) hb')
  clear hb'
  cases o with
  | true =>
    go_wp2
    go_ret
    exact ⟨by simp, HB.out⟩
  | false =>
    by_cases h : x.f1 < 0
    · have h1 : decide (x.f1 < 0) = true := decide_eq_true h
      clear h
      go_wp2
      go_ret
      exact ⟨by simp [h1], HB.out⟩
    · have h1 : decide (x.f1 < 0) = false := decide_eq_false h
      clear h
      go_wp2
      go_ret
      exact ⟨by simp [h1], HB.out⟩
def gAnds (s : Int) : List Gate → Int → Bool
  | [], _ => true
  | g :: gs, i => if g.f1 < 0 then false else if g.f0 < g.f1 then false else if 2 * (s + i) ≤ g.f0 then false else gAnds s gs (i + 1)
def gCheck (a : Int) (l1 : List Latch) (l2 : List Gate) (l3 l4 : List Int) : Int :=
  if a < 0 then 8 else if 1000 < a then 4 else if 1000 < 1 + a + l1.length + l2.length - 1 then 4 else if 100 < mx (l3.length : Int) (l4.length : Int) then 4
  else if l3.any (gOut (1 + a + l1.length + l2.length)) = true then 8 else if l4.any (gOut (1 + a + l1.length + l2.length)) = true then 8 else if l1.any (gWrong (1 + a + l1.length + l2.length)) = true then 8
  else if gAnds (1 + a + l1.length) l2 0 = true then 0 else 8
/-- What gates.Check answers. -/
def check (c : Circ) : Int := gCheck c.f0 c.f1 c.f2 c.f3 c.f4
set_option maxHeartbeats 8000000 in
set_option maxRecDepth 100000 in
theorem gates_Check (p : CP) (c : Circ) (w : World) (h : RC w p c) (hs : c.Fits) :
    Calls Try.prog 32 #[cv p c] w fun e w' => e = .returned (.int .i64 (check c)) ∧ Below w.heap.size w w' := by
  obtain ⟨A0_1, c0_1, A0_2, c0_2, A0_3, c0_3, A0_4, c0_4⟩ := p
  obtain ⟨a0_0, l0_1, l0_2, l0_3, l0_4⟩ := c
  obtain ⟨⟨hr0_1, hc0_1⟩, ⟨hr0_2, hc0_2⟩, ⟨hr0_3, hc0_3⟩, ⟨hr0_4, hc0_4⟩⟩ := h
  obtain ⟨hl1, hl2, -, -, -, -, -⟩ := hs
  unfold check
  dsimp only at *
  obtain ⟨r, H⟩ : ∃ r, gCheck a0_0 l0_1 l0_2 l0_3 l0_4 = r := ⟨_, rfl⟩
  rw [H]
  have HR1 := Aside0.mk hr0_1
  have HR2 := Aside0.mk hr0_2
  have HR3 := Aside0.mk hr0_3
  have HR4 := Aside0.mk hr0_4
  have HC1 := Aside0.mk hc0_1
  have HC2 := Aside0.mk hc0_2
  have HC3 := Aside0.mk hc0_3
  have HC4 := Aside0.mk hc0_4
  have HL1 := Aside0.mk hl1
  have HL2 := Aside0.mk hl2
  clear hr0_1 hr0_2 hr0_3 hr0_4 hc0_1 hc0_2 hc0_3 hc0_4 hl1 hl2
  have hu26 := Try.underlying26
  have hu88 := Try.underlying113
  have hmf : ∀ (fn : Fn) (first cap : Array Value) (w : World), (Instr.makeFunc fn first cap).run Try.prog w = .ok (.func fn first cap) w := fun _ _ _ _ => rfl
  have hix : ∀ (x0 x1 x2 x3 : Value) (w : World), (Instr.index 113 (.agg #[x0, x1, x2, x3]) (.int .i64 3)).run Try.prog w = .ok x3 w := fun _ _ _ _ _ => rfl
  unfold gCheck at H
  by_cases q1 : a0_0 < 0
  · rw [if_pos q1] at H
    subst H
    have q1b : decide (a0_0 < 0) = true := decide_eq_true q1
    clear q1
    go_enter Try.func32, Try.ntmps32
    go_wp2
    go_ret
    exact ⟨rfl, below_alloc (Below.refl _ _) _⟩
  rw [if_neg q1] at H
  have q1b : decide (a0_0 < 0) = false := decide_eq_false q1
  by_cases q2 : 1000 < a0_0
  · rw [if_pos q2] at H
    subst H
    have q2b : decide (1000 < a0_0) = true := decide_eq_true q2
    clear q1 q2
    go_enter Try.func32, Try.ntmps32
    go_wp2
    go_ret
    exact ⟨rfl, below_alloc (Below.refl _ _) _⟩
  rw [if_neg q2] at H
  have q2b : decide (1000 < a0_0) = false := decide_eq_false q2
  have hst := fun W => gates_starts_any a0_0 A0_1 l0_1.length c0_1 A0_2 l0_2.length c0_2 A0_3 l0_3.length c0_3 A0_4 l0_4.length c0_4 W (by omega) (by omega) HL1.out HL2.out
  have HST := Aside0.mk hst
  clear hst
  have hwr : wrap64 (1 + a0_0 + (l0_1.length : Int) + (l0_2.length : Int) - 1) = 1 + a0_0 + (l0_1.length : Int) + (l0_2.length : Int) - 1 := wrap_in (by omega) (by have := HL1.out; have := HL2.out; omega)
  by_cases q3 : 1000 < 1 + a0_0 + (l0_1.length : Int) + (l0_2.length : Int) - 1
  · rw [if_pos q3] at H
    subst H
    have q3b : decide (1000 < wrap64 (1 + a0_0 + (l0_1.length : Int) + (l0_2.length : Int) - 1)) = true := by rw [hwr]; exact decide_eq_true q3
    clear q1 q2 q3 hwr
    go_enter Try.func32, Try.ntmps32
    go_wp2_with fail
    refine (HST.out _).mono ?_
    rintro e w' ⟨rfl, hb'⟩
    go_wp2
    go_ret
    exact ⟨rfl, below_then (below_alloc (Below.refl w.heap.size w) _) (by simp) hb'⟩
  rw [if_neg q3] at H
  have q3b : decide (1000 < wrap64 (1 + a0_0 + (l0_1.length : Int) + (l0_2.length : Int) - 1)) = false := by rw [hwr]; exact decide_eq_false q3
  have B1 := Aside0.mk q1
  have B2 := Aside0.mk q2
  have B3 := Aside0.mk q3
  clear q1 q2 q3 hwr
  obtain ⟨M, hM⟩ : ∃ M, (if l0_3.length < l0_4.length then (l0_4.length : Int) else (l0_3.length : Int)) = M := ⟨_, rfl⟩
  have hmx : mx (l0_3.length : Int) (l0_4.length : Int) = M := by rw [← hM]; unfold mx; simp only [Int.ofNat_lt]
  rw [hmx] at H
  clear hmx
  by_cases q4 : 100 < M
  · rw [if_pos q4] at H
    subst H
    have q4b : decide (100 < M) = true := decide_eq_true q4
    clear q4
    go_enter Try.func32, Try.ntmps32
    go_wp2_with fail
    refine (HST.out _).mono ?_
    rintro e w' ⟨rfl, hb'⟩
    have g3 : w'.cell? ⟨w.heap.size, 3, none⟩ = some (.slice A0_3 l0_3.length c0_3) := (hb'.cell (p := ⟨w.heap.size, 3, none⟩) (by simp)).trans (by simp)
    have g4 : w'.cell? ⟨w.heap.size, 4, none⟩ = some (.slice A0_4 l0_4.length c0_4) := (hb'.cell (p := ⟨w.heap.size, 4, none⟩) (by simp)).trans (by simp)
    go_wp2
    go_ret
    exact ⟨rfl, below_then (below_alloc (Below.refl w.heap.size w) _) (by simp) hb'⟩
  rw [if_neg q4] at H
  have q4b : decide (100 < M) = false := decide_eq_false q4
  clear q4
  go_enter Try.func32, Try.ntmps32
  go_wp2_with fail
  refine (HST.out _).mono ?_
  rintro e w1 ⟨rfl, hb1⟩
  have g0 : w1.cell? ⟨w.heap.size, 0, none⟩ = some (.int .i64 a0_0) := (hb1.cell (p := ⟨w.heap.size, 0, none⟩) (by simp)).trans (by simp)
  have g1 : w1.cell? ⟨w.heap.size, 1, none⟩ = some (.slice A0_1 l0_1.length c0_1) := (hb1.cell (p := ⟨w.heap.size, 1, none⟩) (by simp)).trans (by simp)
  have g2 : w1.cell? ⟨w.heap.size, 2, none⟩ = some (.slice A0_2 l0_2.length c0_2) := (hb1.cell (p := ⟨w.heap.size, 2, none⟩) (by simp)).trans (by simp)
  have g3 : w1.cell? ⟨w.heap.size, 3, none⟩ = some (.slice A0_3 l0_3.length c0_3) := (hb1.cell (p := ⟨w.heap.size, 3, none⟩) (by simp)).trans (by simp)
  have g4 : w1.cell? ⟨w.heap.size, 4, none⟩ = some (.slice A0_4 l0_4.length c0_4) := (hb1.cell (p := ⟨w.heap.size, 4, none⟩) (by simp)).trans (by simp)
  have BW := Aside0.mk (below_then (below_alloc (Below.refl w.heap.size w) _) (by simp) hb1)
  have HS1 := Aside0.mk (show w.heap.size < w1.heap.size by have := hb1.size; simp at this; omega)
  clear hb1
  go_wp2_with fail
  refine (HST.out _).mono ?_
  rintro e w2 ⟨rfl, hb2⟩
  have gB : ∀ i v, w1.cell? ⟨w.heap.size, i, none⟩ = some v → w2.cell? ⟨w.heap.size, i, none⟩ = some v := fun i v hv => (hb2.cell (p := ⟨w.heap.size, i, none⟩) HS1.out).trans hv
  replace g0 := gB 0 _ g0
  replace g1 := gB 1 _ g1
  replace g2 := gB 2 _ g2
  replace g3 := gB 3 _ g3
  replace g4 := gB 4 _ g4
  have BW2 := Aside0.mk (BW.out.trans (hb2.mono BW.out.size))
  have HS2 : w.heap.size < w2.heap.size := by have := hb2.size; have := HS1.out; omega
  clear gB hb2 BW HS1
  have eg1 : ∀ args w, (callFunc 69 args).run Try.prog w = .ok (.enter 69 args) w := enters_fn Try.func69 (by kernel_rfl) rfl
  have eg2 : ∀ args w, (callFunc 70 args).run Try.prog w = .ok (.enter 70 args) w := enters_fn Try.func70 (by kernel_rfl) rfl
  generalize hS : 1 + a0_0 + (l0_1.length : Int) + (l0_2.length : Int) = S at *
  have HSS := Aside0.mk hS
  clear hS
  go_wp2_with fail
  refine (slices_ContainsFunc_int A0_3 c0_3 l0_3 (gOut S) _ _ _ ?c1 HC3.out ?c2 eg1).mono ?_
  case c1 => exact Kd.C_below HR3.out (below_alloc (below_alloc BW2.out _) _)
  case c2 => exact gates_outside S _ _ (by simp; omega) (by simp)
  rintro e w3 ⟨rfl, hb3⟩
  have B23 : Below w2.heap.size w2 w3 := below_then (below_alloc (below_alloc (Below.refl _ _) _) _) (by simp; omega) hb3
  replace g0 := pw_cell_below B23 g0
  replace g1 := pw_cell_below B23 g1
  replace g2 := pw_cell_below B23 g2
  replace g3 := pw_cell_below B23 g3
  replace g4 := pw_cell_below B23 g4
  have f2 : w3.cell? ⟨w2.heap.size, 2, none⟩ = some (.int .i64 (1 + a0_0 + (l0_1.length : Int))) := (hb3.cell (p := ⟨w2.heap.size, 2, none⟩) (by simp; omega)).trans (by simp)
  have f3 : w3.cell? ⟨w2.heap.size, 3, none⟩ = some (.int .i64 S) := (hb3.cell (p := ⟨w2.heap.size, 3, none⟩) (by simp; omega)).trans (by simp)
  have f4 : w3.cell? ⟨w2.heap.size + 1, 0, none⟩ = some (.func (.func 69) #[] #[.pointer (some ⟨w2.heap.size, 0, none⟩)]) := (hb3.cell (p := ⟨w2.heap.size + 1, 0, none⟩) (by simp)).trans (by simp)
  have BW3 := Aside0.mk (BW2.out.trans (B23.mono BW2.out.size))
  have HS3 := Aside0.mk (show w2.heap.size + 1 < w3.heap.size by have := hb3.size; simp at this; omega)
  clear hb3 B23 BW2
  generalize l0_3.any (gOut S) = b5 at H ⊢
  cases b5 with
  | true =>
    rw [if_pos rfl] at H
    subst H
    go_wp2
    go_ret
    exact ⟨rfl, BW3.out⟩
  | false =>
  rw [if_neg (by simp)] at H
  go_wp2_with fail
  refine (slices_ContainsFunc_int A0_4 c0_4 l0_4 (gOut S) _ _ _ ?c3 HC4.out ?c4 eg1).mono ?_
  case c3 => exact Kd.C_below HR4.out BW3.out
  case c4 => exact gates_outside S _ _ (by have := HS3.out; omega) f3
  rintro e w4 ⟨rfl, hb4⟩
  replace g0 := pw_cell_below hb4 g0
  replace g1 := pw_cell_below hb4 g1
  replace g2 := pw_cell_below hb4 g2
  replace f2 := pw_cell_below hb4 f2
  replace f3 := pw_cell_below hb4 f3
  replace f4 := pw_cell_below hb4 f4
  have BW4 := Aside0.mk (BW3.out.trans (hb4.mono BW3.out.size))
  have HS4 := Aside0.mk (show w2.heap.size + 1 < w4.heap.size by have := hb4.size; have := HS3.out; omega)
  clear hb4 BW3 HS3 g3 g4
  generalize l0_4.any (gOut S) = b6 at H ⊢
  cases b6 with
  | true =>
    rw [if_pos rfl] at H
    subst H
    go_wp2
    go_ret
    exact ⟨rfl, BW4.out⟩
  | false =>
  rw [if_neg (by simp)] at H
  go_wp2_with fail
  refine (slices_ContainsFunc_latch A0_1 c0_1 l0_1 (gWrong S) _ _ _ ?c5 HC1.out ?c6 eg2).mono ?_
  case c5 => exact Kd.C_below HR1.out BW4.out
  case c6 => exact gates_wrong S _ _ _ (by have := HS4.out; omega) f3 (by have := HS4.out; omega) f4
  rintro e w5 ⟨rfl, hb5⟩
  replace g2 := pw_cell_below hb5 g2
  replace f2 := pw_cell_below hb5 f2
  have BW5 := Aside0.mk (BW4.out.trans (hb5.mono BW4.out.size))
  clear hb5 BW4 HS4 g0 g1 f3 f4
  generalize l0_1.any (gWrong S) = b7 at H ⊢
  cases b7 with
  | true =>
    rw [if_pos rfl] at H
    subst H
    go_wp2
    go_ret
    exact ⟨rfl, BW5.out⟩
  | false =>
  rw [if_neg (by simp)] at H
  go_wp2
  have HB2 := Aside0.mk (World.block_lt_of_cell? _ _ f2)
  have HM := Aside0.mk (Kd.C_max HR2.out)
  go_loopg [54] l0_2.length (fun gg s54 wr => ∃ x : Int, s54 = .int .i64 x ∧ Aside0 (0 ≤ x ∧ x ≤ l0_2.length ∧ l0_2.length - x.toNat ≤ gg) ∧ Aside0 (Below w5.heap.size w5 wr) ∧ Aside0 (gAnds (1 + a0_0 + (l0_1.length : Int)) (l0_2.drop x.toNat) x = gAnds (1 + a0_0 + (l0_1.length : Int)) l0_2 0))
  case atStart => exact ⟨0, rfl, ⟨by omega, by omega, by omega⟩, ⟨Below.refl _ _⟩, ⟨rfl⟩⟩
  case round =>
    obtain ⟨x, rfl, HX, BW, HA⟩ := hrel
    replace f2 := pw_cell_below BW.out f2
    have BWW := Aside0.mk (BW5.out.trans (BW.out.mono BW5.out.size))
    by_cases hlt : x < (l0_2.length : Int)
    · have c3b0 : decide (x < (l0_2.length : Int)) = true := decide_eq_true hlt
      have p1 : 0 ≤ x := HX.out.1
      obtain ⟨ad, e1, hx0, hx1⟩ := at_TGate (Kd.C_below HR2.out BWW.out) x p1 hlt
      cases e1
      have hdrop : l0_2.drop x.toNat = rd_TGate l0_2 x :: l0_2.drop (x.toNat + 1) := by
        have : x.toNat < l0_2.length := by omega
        rw [List.drop_eq_getElem_cons this, rd_TGate, List.getD_eq_getElem?_getD, List.getElem?_eq_getElem this]; rfl
      have HD := HA.out
      rw [hdrop] at HD
      clear hdrop
      generalize rd_TGate l0_2 x = g at *
      simp only [gAnds] at HD
      have hfr : w2.heap.size < wr.heap.size := World.block_lt_of_cell? _ _ f2
      have HLT := Aside0.mk hlt
      have HP1 := Aside0.mk p1
      replace p1 := eq_true p1
      replace hlt := eq_true hlt
      by_cases z1 : g.f1 < 0
      · rw [if_pos z1] at HD
        rw [← HD, if_neg (by simp)] at H
        subst H
        have z1b : decide (g.f1 < 0) = true := decide_eq_true z1
        clear z1 HD
        go_wp2
        go_ret
        exact ⟨rfl, below_alloc BWW.out _⟩
      rw [if_neg z1] at HD
      have z1b : decide (g.f1 < 0) = false := decide_eq_false z1
      clear z1
      by_cases z2 : g.f0 < g.f1
      · rw [if_pos z2] at HD
        rw [← HD, if_neg (by simp)] at H
        subst H
        have z2b : decide (g.f0 < g.f1) = true := decide_eq_true z2
        clear z2 HD
        go_wp2
        go_ret
        exact ⟨rfl, below_alloc BWW.out _⟩
      rw [if_neg z2] at HD
      have z2b : decide (g.f0 < g.f1) = false := decide_eq_false z2
      clear z2
      have hw1 : wrap64 (2 * wrap64 (1 + a0_0 + (l0_1.length : Int) + x)) = 2 * (1 + a0_0 + (l0_1.length : Int) + x) := by
        have h1 := HL1.out; have h2 := HL2.out; have h3 := B1.out; have h4 := B2.out; have h5 := HP1.out; have h6 := HLT.out
        rw [wrap_in (x := 1 + a0_0 + (l0_1.length : Int) + x) (by omega) (by omega), wrap_in (by omega) (by omega)]
      by_cases z3 : 2 * (1 + a0_0 + (l0_1.length : Int) + x) ≤ g.f0
      · rw [if_pos z3] at HD
        rw [← HD, if_neg (by simp)] at H
        subst H
        have z3b : decide (wrap64 (2 * wrap64 (1 + a0_0 + (l0_1.length : Int) + x)) ≤ g.f0) = true := by rw [hw1]; exact decide_eq_true z3
        clear z3 HD hw1
        go_wp2
        go_ret
        exact ⟨rfl, below_alloc BWW.out _⟩
      rw [if_neg z3] at HD
      have z3b : decide (wrap64 (2 * wrap64 (1 + a0_0 + (l0_1.length : Int) + x)) ≤ g.f0) = false := by rw [hw1]; exact decide_eq_false z3
      have HDA := Aside0.mk HD
      clear z3 hw1 HD
      go_wp2
      go_roundg (l0_2.length - (x.toNat + 1))
      case measure => have := HX.out; have := HLT.out; omega
      case rel =>
        have hw : wrap64 (x + 1) = x + 1 := wrap_step HP1.out HLT.out HM.out
        have h1 := HP1.out
        refine ⟨wrap64 (x + 1), rfl, ⟨?_⟩, ⟨below_alloc BW.out _⟩, ⟨?_⟩⟩
        · rw [hw]; exact ⟨by omega, by have := HLT.out; omega, by have := HX.out; have := HLT.out; omega⟩
        · rw [hw, show (x + 1).toNat = x.toNat + 1 by omega]; exact HDA.out
    · have c3b0 : decide (x < (l0_2.length : Int)) = false := decide_eq_false hlt
      have HE : x.toNat = l0_2.length := by have := HX.out; omega
      have HD := HA.out
      rw [HE, List.drop_length] at HD
      rw [← HD, gAnds, if_pos rfl] at H
      subst H
      clear hlt HE HD
      go_wp2
      go_ret
      exact ⟨rfl, BWW.out⟩
theorem gCheck_ok {a : Int} {l1 : List Latch} {l2 : List Gate} {l3 l4 : List Int} (h : gCheck a l1 l2 l3 l4 = 0) : 0 ≤ a ∧ a ≤ 1000 ∧ a + l1.length + l2.length ≤ 1000 := by
  unfold gCheck at h
  by_cases q1 : a < 0
  · rw [if_pos q1] at h; cases h
  rw [if_neg q1] at h
  by_cases q2 : 1000 < a
  · rw [if_pos q2] at h; cases h
  rw [if_neg q2] at h
  by_cases q3 : 1000 < 1 + a + (l1.length : Int) + (l2.length : Int) - 1
  · rw [if_pos q3] at h; cases h
  exact ⟨by omega, by omega, by omega⟩
theorem box5 {W w' : World} {v0 v1 v2 v3 v4 : Value} {t : TypeId} (hb : Below (W.alloc (.cells #[v0, v1, v2, v3, v4] t)).heap.size (W.alloc (.cells #[v0, v1, v2, v3, v4] t)) w') :
    w'.cell? ⟨W.heap.size, 0, none⟩ = some v0 ∧ w'.cell? ⟨W.heap.size, 1, none⟩ = some v1 ∧ w'.cell? ⟨W.heap.size, 2, none⟩ = some v2 ∧ w'.cell? ⟨W.heap.size, 3, none⟩ = some v3 ∧ w'.cell? ⟨W.heap.size, 4, none⟩ = some v4 ∧ Below W.heap.size W w' :=
  ⟨(hb.cell (p := ⟨W.heap.size, 0, none⟩) (by simp)).trans (by simp), (hb.cell (p := ⟨W.heap.size, 1, none⟩) (by simp)).trans (by simp), (hb.cell (p := ⟨W.heap.size, 2, none⟩) (by simp)).trans (by simp), (hb.cell (p := ⟨W.heap.size, 3, none⟩) (by simp)).trans (by simp), (hb.cell (p := ⟨W.heap.size, 4, none⟩) (by simp)).trans (by simp), below_then (below_alloc (Below.refl W.heap.size W) _) (by simp) hb⟩
set_option maxHeartbeats 2000000 in
set_option maxRecDepth 100000 in
theorem gates_Vars (p : CP) (c : Circ) (w : World) (h : RC w p c) (hs : c.Fits) :
    Calls Try.prog 108 #[cv p c] w fun e w' => e = .returned (.tuple #[.int .i64 (if check c = 0 then c.f0 + c.f1.length + c.f2.length else 0), .int .i64 (check c)]) ∧ Below w.heap.size w w' := by
  have HCK := Aside0.mk (fun W (hw : Below w.heap.size w W) => gates_Check p c W (h.below hw) hs)
  have hix : ∀ (x0 x1 x2 x3 : Value) (w : World), (Instr.index 113 (.agg #[x0, x1, x2, x3]) (.int .i64 3)).run Try.prog w = .ok x3 w := fun _ _ _ _ _ => rfl
  have hu26 := Try.underlying26
  by_cases q : check c = 0
  · obtain ⟨b1, b2, b3⟩ := gCheck_ok q
    rw [if_pos q, q]
    rw [q] at HCK
    have hw1 : wrap64 (1 + c.f0 + (c.f1.length : Int) + (c.f2.length : Int) - 1) = c.f0 + c.f1.length + c.f2.length := by rw [wrap_in (by omega) (by omega)]; omega
    have HST := Aside0.mk (fun W => gates_starts_any c.f0 p.A1 c.f1.length p.c1 p.A2 c.f2.length p.c2 p.A3 c.f3.length p.c3 p.A4 c.f4.length p.c4 W (by omega) (by omega) hs.h1 hs.h2)
    have HW1 := Aside0.mk hw1
    clear q b1 b2 b3 hw1
    go_enter Try.func108, Try.ntmps108
    go_wp2_with fail
    refine (HCK.out _ (below_alloc (Below.refl _ _) _)).mono ?_
    rintro e w1 ⟨rfl, hb1⟩
    obtain ⟨g0, g1, g2, g3, g4, hb1'⟩ := box5 hb1
    have BW1 := Aside0.mk hb1'
    clear hb1 hb1'
    go_wp2_with fail
    refine (HST.out _).mono ?_
    rintro e w2 ⟨rfl, hb2⟩
    have BW2 := Aside0.mk (BW1.out.trans (hb2.mono BW1.out.size))
    clear hb2
    go_wp2
    go_ret2
    exact ⟨by rw [← HW1.out]; rfl, BW2.out⟩
  · rw [if_neg q]
    have q1 : (check c != 0) = true := bne_iff_ne.mpr q
    clear q
    generalize check c = e0 at *
    go_enter Try.func108, Try.ntmps108
    go_wp2_with fail
    refine (HCK.out _ (below_alloc (Below.refl _ _) _)).mono ?_
    rintro e w1 ⟨rfl, hb1⟩
    obtain ⟨g0, g1, g2, g3, g4, hb1'⟩ := box5 hb1
    have BW1 := Aside0.mk hb1'
    clear hb1 hb1'
    go_wp2
    go_ret2
    exact ⟨rfl, BW1.out⟩
end Go.Proofs.Ytpoadkogcdfglaa.PH
