/- Several texts in one: Props, Ref04, Ref04b, LiftRow, Ref04c. -/
import Derived.Test.YtlhiapggccgggaaHList
import Derived.Test.YtlhiapggccgggaaHPackB
import Derived.Test.YtlhiapggccgggaaHPackE
import Derived.Test.YtlhiapggccgggaaHPackA
import Derived.Test.YtlhiapggccgggaaHIdRef
/- slices.Index and Contains over truth values; values.Props. -/
namespace Go.Proofs.Ytlhiapggccgggaa.PH
open Go.RowKit Go.Proofs.YtlhiapggccgggaaW.PrintWords Go.Proofs.YtlhiapggccgggaaW.PrintLast
set_option linter.unusedVariables false
set_option linter.unusedSimpArgs false

set_option maxHeartbeats 2000000 in
set_option maxRecDepth 100000 in
theorem slices_Index_bool (A : Option Addr) (c : Nat) (l : List Bool) (v : Bool) (w : World) (h : RS Kd.bool w A c l) :
    Calls Try.prog 81 #[.slice A l.length c, .bool v] w fun e w' => e = .returned (.int .i64 (firstIdx (fun x => v == x) l 0)) ∧ Below w.heap.size w w' := by
  have HR := Aside0.mk h
  have HM := Aside0.mk h.max
  clear h
  go_enter Try.func81, Try.ntmps81
  go_wp2
  go_loopg [5, 8] l.length (fun gg _ s8 wr => ∃ k : Nat, s8 = .int .i64 k ∧ Aside0 (k ≤ l.length ∧ l.length - k ≤ gg) ∧ Aside0 (Below w.heap.size w wr) ∧ Aside0 (∀ (j : Nat) (z : Bool), j < k → l[j]? = some z → (v == z) = false))
  case atStart => exact ⟨0, rfl, ⟨by omega, by omega⟩, ⟨Below.refl _ w⟩, ⟨fun j z hj _ => absurd hj (Nat.not_lt_zero _)⟩⟩
  case round =>
    obtain ⟨k, rfl, HX, BW, HA⟩ := hrel
    by_cases hlt : k < l.length
    · obtain ⟨ad, e1, hx⟩ := at_bool (HR.out.below BW.out).r k hlt
      cases e1
      have hget := Aside0.mk (List.getElem?_eq_getElem hlt)
      have HLT := Aside0.mk hlt
      generalize l[k] = x at *
      cases hq : (v == x) with
      | true =>
        have HQ := Aside0.mk hq
        go_wp2
        go_ret
        refine ⟨?_, BW.out⟩
        rw [firstIdx_hit (fun x => v == x) l 0 k x hget.out HQ.out (fun j z hj hz => HA.out j z hj hz)]
        simp
      | false =>
        have HQ := Aside0.mk hq
        go_wp2
        go_roundg (l.length - (k + 1))
        case measure => have := HX.out; have := HLT.out; omega
        case rel =>
          refine ⟨k + 1, val_step HLT.out HM.out, ⟨HLT.out, by have := HX.out; omega⟩, BW, ⟨fun j z hj hz => ?_⟩⟩
          by_cases e : j = k
          · subst e
            rw [hget.out] at hz
            injection hz with hz
            rw [← hz]; exact HQ.out
          · exact HA.out j z (by omega) hz
    · have HE : Aside0 (k = l.length) := ⟨by have := HX.out; omega⟩
      go_wp2
      go_ret
      refine ⟨?_, BW.out⟩
      have hno : ∀ z ∈ l, (v == z) = false := fun z hz => by
        obtain ⟨j, hj, e⟩ := List.getElem_of_mem hz
        exact HA.out j z (by rw [HE.out]; exact hj) (by rw [List.getElem?_eq_getElem hj, e])
      rw [firstIdx_miss (fun x => v == x) l 0 hno]
      rfl
theorem slices_Contains_bool (A : Option Addr) (c : Nat) (l : List Bool) (v : Bool) (w : World) (h : RS Kd.bool w A c l) :
    Calls Try.prog 53 #[.slice A l.length c, .bool v] w fun e w' => e = .returned (.bool (l.any (fun x => v == x))) ∧ Below w.heap.size w w' := by
  have H := Aside0.mk (slices_Index_bool A c l v w h)
  clear h
  have HN := Aside0.mk (firstIdx_nonneg (fun x => v == x) l 0 (by omega))
  go_enter Try.func53, Try.ntmps53
  go_wp2_with fail
  refine H.out.mono ?_
  rintro e w' ⟨rfl, hb'⟩
  go_wp2
  go_ret
  exact ⟨by rw [← HN.out]; first | rfl | simp, hb'⟩
/-- What values.Props answers: whether all constraints hold, the bad literals' values in a row. -/
def RetPp (w w' : World) (b : Bool) (l : List Bool) (e : Ending) : Prop := ∃ A cap, e = .returned (.tuple #[.bool b, .slice A l.length cap, .int .i64 0]) ∧ RS Kd.bool w' A cap l ∧ Below w.heap.size w w'
theorem all_any (l : List Bool) : (!(l.any (fun x => false == x))) = l.all id := by
  induction l with
  | nil => rfl
  | cons x xs ih => cases x <;> simp_all
set_option maxHeartbeats 4000000 in
set_option maxRecDepth 100000 in
theorem values_Props (p : CP) (c : Circ) (B : Option Addr) (d : Nat) (st : List Bool) (B2 : Option Addr) (d2 : Nat) (ins : List Bool) (w : World) (h : RC w p c) (hs : c.Fits) (h1 : RS Kd.bool w B d st) (h2 : RS Kd.bool w B2 d2 ins)
    (hc : check c = 0) (hl1 : st.length = c.f1.length) (hl2 : (ins.length : Int) = c.f0) (hL : Lits c) :
    Calls Try.prog 52 #[cv p c, .slice B st.length d, .slice B2 ins.length d2] w fun e w' => RetPp w w' (holdsOf c st ins) (badsOf c st ins) e := by
  have hlen : ((valsOf c st ins).length : Int) = 1 + c.f0 + c.f1.length + c.f2.length := by
    unfold valsOf
    rw [truthFrom_len]
    simp only [List.length_cons, List.length_append]
    omega
  have BX := Aside0.mk (below_alloc (Below.refl w.heap.size w) (.cells #[.int .i64 c.f0, .slice p.A1 c.f1.length p.c1, .slice p.A2 c.f2.length p.c2, .slice p.A3 c.f3.length p.c3, .slice p.A4 c.f4.length p.c4] 26))
  have HB := Aside0.mk (blk_new w (.cells #[.int .i64 c.f0, .slice p.A1 c.f1.length p.c1, .slice p.A2 c.f2.length p.c2, .slice p.A3 c.f3.length p.c3, .slice p.A4 c.f4.length p.c4] 26))
  have HC := Aside0.mk (fun (L : List Int) (g : Nat) W (hb : Below w.heap.size w W) (hx : ∀ x ∈ L, IsLit x ∧ x / 2 < 1 + c.f0 + c.f1.length + c.f2.length) (hn : L.length ≤ 4000000) (hp : PLit Try.prog g #[.pointer (some ⟨w.heap.size, 0, none⟩)] L W) (eg) => values_list p c B d st B2 d2 ins L g #[.pointer (some ⟨w.heap.size, 0, none⟩)] W (h.below hb) hs (h1.below hb) (h2.below hb) hc hl1 hl2
    (fun x hx_ => ⟨(hx x hx_).1, by have := (hx x hx_).2; omega⟩) hn hp eg)
  have HH := Aside0.mk h
  have HF := Aside0.mk (check_few6 hc)
  have HL := Aside0.mk hL
  have hu26 := Try.underlying26
  have hmf : ∀ (fn : Fn) (first cap : Array Value) (w : World), (Instr.makeFunc fn first cap).run Try.prog w = .ok (.func fn first cap) w := fun _ _ _ _ => rfl
  have HX : Aside0 (holdsOf c st ins = !((c.f4.map (litV (valsOf c st ins))).any (fun x => false == x))) := ⟨by rw [all_any, List.all_map]; rfl⟩
  obtain ⟨hd, hhd⟩ : ∃ b, holdsOf c st ins = b := ⟨_, rfl⟩
  rw [hhd] at HX ⊢
  have HY : Aside0 (badsOf c st ins = c.f3.map (litV (valsOf c st ins))) := ⟨rfl⟩
  rw [HY.out]
  generalize valsOf c st ins = vals at *
  obtain ⟨g0, g1, g2, g3, g4⟩ := (blk5w HB.out).1
  clear h hs h1 h2 hc hl1 hl2 hL hlen hhd HY
  go_enter Try.func52, Try.ntmps52
  go_wp2_with fail
  have HC1 := HC.out c.f3 79 _ BX.out HL.out.l3 (by have := HF.out; omega) (fun W i hi hb => by
    have h_ := values_Props1 p c w.heap.size i hi W (HH.out.below (BX.out.trans (hb.mono BX.out.size))) (blk_below HB.out hb)
    simpa using h_) (enters_fn Try.func79 rfl rfl)
  refine HC1.mono ?_
  rintro e w1 ⟨V, cap, rfl, hv, hb1⟩
  have HV := Aside0.mk (RS.of_R' hv)
  have BX1 := Aside0.mk (BX.out.trans (hb1.mono BX.out.size))
  have HB1 := Aside0.mk (blk_below HB.out hb1)
  clear hv hb1 HC1 g0 g1 g2 g3 g4
  obtain ⟨g0, g1, g2, g3, g4⟩ := (blk5w HB1.out).1
  go_wp2_with fail
  have HC2 := HC.out c.f4 80 _ BX1.out HL.out.l4 (by have := HF.out; omega) (fun W i hi hb => by
    have h_ := values_Props2 p c w.heap.size i hi W (HH.out.below (BX1.out.trans (hb.mono BX1.out.size))) (blk_below HB1.out hb)
    simpa using h_) (enters_fn Try.func80 rfl rfl)
  refine HC2.mono ?_
  rintro e w2 ⟨V2, cap2, rfl, hv2, hb2⟩
  have HV2 := Aside0.mk (RS.of_R' hv2)
  have HV := Aside0.mk (HV.out.below hb2)
  have BX2 := Aside0.mk (BX1.out.trans (hb2.mono BX1.out.size))
  clear hv2 hb2 HC2 g0 g1 g2 g3 g4
  go_wp2_with fail
  have HI := slices_Contains_bool V2 cap2 (c.f4.map (litV vals)) false _ HV2.out
  rw [List.length_map] at HI
  refine HI.mono ?_
  rintro e w3 ⟨rfl, hb3⟩
  have BX3 := Aside0.mk (BX2.out.trans (hb3.mono BX2.out.size))
  have HV := Aside0.mk (HV.out.below hb3)
  clear hb3 HI
  have hX := HX.out
  generalize (c.f4.map (litV vals)).any (fun x => false == x) = bb at *
  subst hX
  clear HX
  go_wp2
  refine bodyPost_ret (results_tmp3 rfl _ _ _) rfl ?_
  exact ⟨V, cap, by simp only [List.length_map]; rfl, HV.out, BX3.out⟩
end Go.Proofs.Ytlhiapggccgggaa.PH

/- ref04.Value, Frame, After, Holds. -/
namespace Go.Proofs.Ytlhiapggccgggaa.PH
open Go.RowKit Go.Proofs.YtlhiapggccgggaaW.PrintWords Go.Proofs.YtlhiapggccgggaaW.PrintLast
set_option linter.unusedVariables false
set_option linter.unusedSimpArgs false

set_option maxHeartbeats 2000000 in
set_option maxRecDepth 100000 in
theorem ref04_Value (A : Option Addr) (c : Nat) (v : List Bool) (N : Nat) (l : Int) (w : World) (h : RS Kd.bool w A c v) (hN : v.length = N) (hl : IsLit l) (h1 : l / 2 < v.length) :
    Calls Try.prog 101 #[.slice A N c, .int .i64 l] w fun e w' => e = .returned (.bool (litV v l)) ∧ Below w.heap.size w w' := by
  obtain ⟨k, hk, hq, hv⟩ := litV_at (v := v) (l := l) ⟨by have := hl.1; omega, by have := hl.2; omega⟩ hl.1 h1
  obtain ⟨ad, e1, hx⟩ := at_bool h.r k hk
  cases e1
  rw [← hv]
  generalize v[k] = b at *
  have hlt : (k : Int) < (N : Int) := by omega
  have hlt' : k < N := by omega
  clear h1 hv hN h hk
  go_enter Try.func101, Try.ntmps101
  go_wp2
  go_ret
  exact ⟨rfl, Below.refl _ _⟩
/-- A row of truth values comes back. -/
def RetVr (w w' : World) (l : List Bool) (e : Ending) : Prop := ∃ A cap, e = .returned (.slice A l.length cap) ∧ Kd.R Kd.bool 4 w' w.heap.size (fun _ => True) (.slice A l.length cap) l ∧ Below w.heap.size w w'
/-- What holds in ref04.Frame. -/
structure FrI (w : World) (p : CP) (c : Circ) (V : Option Addr) (n cap : Nat) (vals : List Bool) (wr : World) : Prop where
  BW : Below w.heap.size w wr
  BC : wr.heap[w.heap.size]? = some (.cells #[.int .i64 c.f0, .slice p.A1 c.f1.length p.c1, .slice p.A2 c.f2.length p.c2, .slice p.A3 c.f3.length p.c3, .slice p.A4 c.f4.length p.c4] 26 (0, 0))
  RV : Kd.R Kd.bool 4 wr (w.heap.size + 1) (fun _ => True) (.slice V n cap) vals
theorem FrI.below {w : World} {p : CP} {c : Circ} {V : Option Addr} {n cap : Nat} {vals : List Bool} {wr w2 : World} (h : FrI w p c V n cap vals wr) (hb : Below wr.heap.size wr w2) : FrI w p c V n cap vals w2 :=
  ⟨h.BW.trans (hb.mono h.BW.size), blk_below h.BC hb, Kd.R_below h.RV hb⟩
/-- The row grows. -/
theorem FrI.grow {w : World} {p : CP} {c : Circ} {V : Option Addr} {n cap : Nat} {vals : List Bool} {wr w2 : World} {V2 : Option Addr} {n2 cap2 : Nat} {vals2 : List Bool} (h : FrI w p c V n cap vals wr) (hr : Kd.R Kd.bool 4 w2 (w.heap.size + 1) (fun _ => True) (.slice V2 n2 cap2) vals2)
    (hb : Below (w.heap.size + 1) wr w2) : FrI w p c V2 n2 cap2 vals2 w2 :=
  ⟨h.BW.trans (hb.mono (Nat.le_succ _)), (hb.block _ (Nat.lt_succ_self _)).trans h.BC, hr⟩
set_option maxHeartbeats 8000000 in
set_option maxRecDepth 100000 in
theorem ref04_Frame (p : CP) (c : Circ) (B : Option Addr) (d : Nat) (st : List Bool) (B2 : Option Addr) (d2 : Nat) (ins : List Bool) (w : World) (h : RC w p c) (h1 : RS Kd.bool w B d st) (h2 : RS Kd.bool w B2 d2 ins)
    (hc : check c = 0) (hl1 : st.length = c.f1.length) (hl2 : (ins.length : Int) = c.f0) :
    Calls Try.prog 100 #[cv p c, .slice B st.length d, .slice B2 ins.length d2] w fun e w' => RetVr w w' (valsOf c st ins) e := by
  obtain ⟨A1, k1, A2, k2, A3, k3, A4, k4⟩ := p
  have hgc := gCheck_ok hc
  have HR := Aside0.mk h
  have HS := Aside0.mk h1
  have HI := Aside0.mk h2
  have HG := Aside0.mk (check_gands hc)
  have HL := Aside0.mk (show st.length = c.f1.length ∧ (ins.length : Int) = c.f0 ∧ 0 ≤ c.f0 ∧ c.f0 ≤ 1000 ∧ c.f0 + c.f1.length + c.f2.length ≤ 1000 from ⟨hl1, hl2, hgc⟩)
  have HM := Aside0.mk h.s2.max
  have BX0 := Aside0.mk (below_alloc (Below.refl w.heap.size w) (.cells #[.int .i64 c.f0, .slice A1 c.f1.length k1, .slice A2 c.f2.length k2, .slice A3 c.f3.length k3, .slice A4 c.f4.length k4] 26))
  have HB0 := Aside0.mk (blk_new w (.cells #[.int .i64 c.f0, .slice A1 c.f1.length k1, .slice A2 c.f2.length k2, .slice A3 c.f3.length k3, .slice A4 c.f4.length k4] 26))
  have BX := Aside0.mk (below_alloc BX0.out (.cells #[.bool false] 4))
  have HB := Aside0.mk (blk_alloc HB0.out (.cells #[.bool false] 4))
  have HRF := Aside0.mk (show Kd.R Kd.bool 4 ((w.alloc (.cells #[.int .i64 c.f0, .slice A1 c.f1.length k1, .slice A2 c.f2.length k2, .slice A3 c.f3.length k3, .slice A4 c.f4.length k4] 26)).alloc (.cells #[.bool false] 4)) (w.heap.size + 1) (fun _ => True) (.slice (some ⟨w.heap.size + 1, 0, none⟩) 1 1) [false] from by
    have h_ := R_false (w.alloc (.cells #[.int .i64 c.f0, .slice A1 c.f1.length k1, .slice A2 c.f2.length k2, .slice A3 c.f3.length k3, .slice A4 c.f4.length k4] 26)) (w.heap.size + 1) 4 (by simp)
    simpa using h_)
  have I0 := Aside0.mk (show FrI w ⟨A1, k1, A2, k2, A3, k3, A4, k4⟩ c (some ⟨w.heap.size + 1, 0, none⟩) 1 1 [false] _ from ⟨BX.out, HB.out, HRF.out⟩)
  obtain ⟨R, hR⟩ : ∃ R, valsOf c st ins = R := ⟨_, rfl⟩
  rw [hR]
  have HRR := Aside0.mk hR
  have hu26 := Try.underlying26
  have hu89 := Try.underlying93
  clear h h1 h2 hc hl1 hl2 hgc hR BX0 HB0 BX HB HRF
  obtain ⟨E, hE⟩ : ∃ E, ins.length + 1 + st.length = E := ⟨_, rfl⟩
  have HE0 := Aside0.mk (show (([false] ++ ins) ++ st).length = E by rw [← hE]; simp; omega)
  have HE1 := Aside0.mk hE
  clear hE
  dsimp only [cv] at *
  go_enter Try.func100, Try.ntmps100
  go_wp2_with (first | ((with_reducible refine gate_dst (N := 11) rfl ?_); go_loud (refine Kd.R_append_row Value.bool false (h1 := fun _ => rfl) (w0 := (w.alloc (.cells #[.int .i64 c.f0, .slice A1 c.f1.length k1, .slice A2 c.f2.length k2, .slice A3 c.f3.length k3, .slice A4 c.f4.length k4] 26)).alloc (.cells #[.bool false] 4)) (w.heap.size + 1) rfl (.tmp 9) (.tmp 10) 46 4 (.bool false) 1 rfl Try.underlying46 infoBool rfl (by omega) (.slice (some ⟨w.heap.size + 1, 0, none⟩) 1 1) [false] ins _ _ _ (fun _ => True) rfl rfl ?aF ?aO ?aR ?aB ?aS ?aL ?_); (case aF => exact fun _ _ => trivial); (case aO => exact I0.out.RV); (case aR => exact (HI.out.below I0.out.BW).r); (case aB => exact Below.refl _ _); (case aS => simp); (case aL => have := HL.out; simp; omega); intro v1 w2 ho hb hg hat; obtain ⟨V0, cap0, rfl, _, _⟩ := Kd.R_reads ho; rw [show ([false] ++ ins).length = ins.length + 1 by simp] at ho ⊢; have I1 := Aside0.mk (I0.out.grow ho hb); clear ho hb hg hat I0) | ((with_reducible refine gate_dst (N := 14) rfl ?_); go_loud (refine Kd.R_append_row Value.bool false (h1 := fun _ => rfl) (w0 := w2) (w.heap.size + 1) rfl (.tmp 12) (.tmp 13) 46 4 (.bool false) 1 rfl Try.underlying46 infoBool rfl (by omega) (.slice V0 (ins.length + 1) cap0) ([false] ++ ins) st _ _ _ (fun _ => True) rfl rfl ?aF ?aO ?aR ?aB ?aS ?aL ?_); (case aF => exact fun _ _ => trivial); (case aO => exact I1.out.RV); (case aR => exact (HS.out.below I1.out.BW).r); (case aB => exact Below.refl _ _); (case aS => exact blk_lt I1.out.BC); (case aL => have := HL.out; simp; omega); intro v1 w3 ho hb hg hat; obtain ⟨V1, cap1, rfl, _, _⟩ := Kd.R_reads ho; rw [HE0.out] at ho ⊢; have I2 := Aside0.mk (I1.out.grow ho hb); clear ho hb hg hat I1))
  have HBS := Aside0.mk (blk_lt I2.out.BC)
  have HV0 := Aside0.mk (show (false :: (ins ++ st)).length = E from HE0.out)
  go_loopg [7, 8] c.f2.length (fun gg s7 s8 wr => ∃ (k : Nat) (V : Option Addr) (cap : Nat), s7 = .slice V (E + k) cap ∧ s8 = .int .i64 k ∧ Aside0 (k ≤ c.f2.length ∧ c.f2.length - k ≤ gg) ∧ Aside0 (FrI w ⟨A1, k1, A2, k2, A3, k3, A4, k4⟩ c V (E + k) cap (truthFrom (c.f2.take k) (false :: (ins ++ st))) wr))
  case atStart => exact ⟨0, V1, cap1, rfl, rfl, ⟨by omega, by omega⟩, I2⟩
  case round =>
    clear I2
    obtain ⟨k, V, cap, rfl, rfl, HX, I⟩ := hrel
    obtain ⟨g0, g1, g2, g3, g4⟩ := (blk5w I.out.BC).1
    by_cases hlt : k < c.f2.length
    · obtain ⟨ad, e1, hx, hy⟩ := at_gate (HR.out.below I.out.BW).s2.r k hlt
      have hpt := gAnds_at k hlt HG.out
      have HT := Aside0.mk (truthFrom_take (v := false :: (ins ++ st)) hlt)
      have hlen : (truthFrom (c.f2.take k) (false :: (ins ++ st))).length = E + k := by rw [truthFrom_len, HV0.out, List.length_take, Nat.min_eq_left (Nat.le_of_lt hlt)]
      have HLT := Aside0.mk hlt
      have hG := HL.out
      have hE1 := HE1.out
      have l0 : IsLit c.f2[k].f0 := ⟨by omega, by omega⟩
      have l1 : IsLit c.f2[k].f1 := ⟨by omega, by omega⟩
      generalize c.f2[k] = g at *
      have hRS := RS.of_R' I.out.RV
      have C0 := Aside0.mk (fun W (hb : Below wr.heap.size wr W) => ref04_Value V cap _ (E + k) g.f0 W (hRS.below hb) hlen l0 (by rw [hlen]; omega))
      have C1 := Aside0.mk (fun W (hb : Below wr.heap.size wr W) => ref04_Value V cap _ (E + k) g.f1 W (hRS.below hb) hlen l1 (by rw [hlen]; omega))
      have HLN := Aside0.mk hlen
      have HLW := Aside0.mk (show E + k + 1 ≤ 1002 by omega)
      clear hpt hlen hRS l0 l1 hG hE1
      generalize truthFrom (c.f2.take k) (false :: (ins ++ st)) = vals at *
      cases e1
      go_wp2_with fail
      refine (C0.out _ (Below.refl _ _)).mono ?_
      rintro e w4 ⟨rfl, hb4⟩
      have I4 := Aside0.mk (I.out.below hb4)
      have hy4 := pw_cell_below hb4 hy
      have HB4 := Aside0.mk hb4
      have HMX := Aside0.mk (show (w.heap.size + 1) ≤ w4.heap.size from blk_lt I4.out.BC)
      clear hb4 hx hy g0 g1 g2 g3 g4
      cases hA : litV vals g.f0
      · have HA0 := Aside0.mk (show truthFrom (c.f2.take (k + 1)) (false :: (ins ++ st)) = vals ++ [false] by rw [HT.out, hA]; rfl)
        clear hA
        have HJ := Aside0.mk (show (vals ++ [false]).length = E + (k + 1) by rw [List.length_append, HLN.out]; rfl)
        go_wp2_with (first | (at_builtin; go_loud (refine Kd.R_append Kd.bool (w0 := w4) (w.heap.size + 1) rfl (.tmp 22) (.tmp 41) 46 4 (.bool false) 1 rfl Try.underlying46 infoBool rfl (by decide) (by omega) (.slice V (E + k) cap) vals (false) [.bool (false)] (fun _ => True) (fun _ => False) rfl rfl ?aP (fun _ h => h.elim) ?aF ?aO ?aB ?aS ?aL ?_); (case aP => exact rfl); (case aF => exact fun _ _ => trivial); (case aO => exact I4.out.RV); (case aB => exact Below.refl _ _); (case aS => exact HMX.out); (case aL => have := HLN.out; have := HLW.out; omega); intro v1 w6 ho hb hg hat; obtain ⟨V5, cap5, rfl, _, _⟩ := Kd.R_reads ho; rw [HJ.out] at ho ⊢; have I6 := Aside0.mk (I4.out.grow ho hb); clear ho hb hg hat))
        go_roundg (c.f2.length - (k + 1))
        case measure => have := HX.out; have := HLT.out; omega
        case rel => exact ⟨k + 1, V5, cap5, rfl, val_step HLT.out HM.out, ⟨HLT.out, by have := HX.out; omega⟩, ⟨by rw [HA0.out]; exact I6.out⟩⟩
      · have HAT := Aside0.mk hA
        clear hA
        obtain ⟨g0, g1, g2, g3, g4⟩ := (blk5w I4.out.BC).1
        go_wp2_with fail
        refine (C1.out _ HB4.out).mono ?_
        rintro e w5 ⟨rfl, hb5⟩
        have I5 := Aside0.mk (I4.out.below hb5)
        have HMX := Aside0.mk (show (w.heap.size + 1) ≤ w5.heap.size from blk_lt I5.out.BC)
        clear hb5 hy4 g0 g1 g2 g3 g4
        have HA0 := Aside0.mk (show truthFrom (c.f2.take (k + 1)) (false :: (ins ++ st)) = vals ++ [litV vals g.f1] by rw [HT.out, HAT.out, Bool.true_and])
        generalize litV vals g.f1 = bb at *
        have HJ := Aside0.mk (show (vals ++ [bb]).length = E + (k + 1) by rw [List.length_append, HLN.out]; rfl)
        go_wp2_with (first | (at_builtin; go_loud (refine Kd.R_append Kd.bool (w0 := w5) (w.heap.size + 1) rfl (.tmp 22) (.tmp 41) 46 4 (.bool false) 1 rfl Try.underlying46 infoBool rfl (by decide) (by omega) (.slice V (E + k) cap) vals (bb) [.bool (bb)] (fun _ => True) (fun _ => False) rfl rfl ?aP (fun _ h => h.elim) ?aF ?aO ?aB ?aS ?aL ?_); (case aP => exact rfl); (case aF => exact fun _ _ => trivial); (case aO => exact I5.out.RV); (case aB => exact Below.refl _ _); (case aS => exact HMX.out); (case aL => have := HLN.out; have := HLW.out; omega); intro v1 w6 ho hb hg hat; obtain ⟨V5, cap5, rfl, _, _⟩ := Kd.R_reads ho; rw [HJ.out] at ho ⊢; have I6 := Aside0.mk (I5.out.grow ho hb); clear ho hb hg hat))
        go_roundg (c.f2.length - (k + 1))
        case measure => have := HX.out; have := HLT.out; omega
        case rel => exact ⟨k + 1, V5, cap5, rfl, val_step HLT.out HM.out, ⟨HLT.out, by have := HX.out; omega⟩, ⟨by rw [HA0.out]; exact I6.out⟩⟩
    · have hk : k = c.f2.length := by have := HX.out.1; omega
      subst hk
      have hRR := HRR.out
      unfold valsOf at hRR
      have hlen : R.length = E + c.f2.length := by rw [← hRR, truthFrom_len, HV0.out]
      have HV := Aside0.mk (show Kd.R Kd.bool 4 wr w.heap.size (fun _ => True) (.slice V (E + c.f2.length) cap) R from by
        have h_ := I.out.RV
        rw [List.take_length, hRR] at h_
        exact Kd.R_lower h_ (Nat.le_succ _))
      have HLN := Aside0.mk hlen
      clear hRR hlen
      go_wp2
      go_ret
      exact ⟨V, cap, by rw [HLN.out]; rfl, by rw [HLN.out]; exact HV.out, I.out.BW⟩
end Go.Proofs.Ytlhiapggccgggaa.PH

/- ref04.After, Holds. -/
namespace Go.Proofs.Ytlhiapggccgggaa.PH
open Go.RowKit Go.Proofs.YtlhiapggccgggaaW.PrintWords Go.Proofs.YtlhiapggccgggaaW.PrintLast
set_option linter.unusedVariables false
set_option linter.unusedSimpArgs false

theorem vals_len {c : Circ} {st ins : List Bool} (hl1 : st.length = c.f1.length) (hl2 : (ins.length : Int) = c.f0) : ((valsOf c st ins).length : Int) = 1 + c.f0 + c.f1.length + c.f2.length := by
  unfold valsOf
  rw [truthFrom_len]
  simp only [List.length_cons, List.length_append]
  omega
set_option maxHeartbeats 4000000 in
set_option maxRecDepth 100000 in
theorem ref04_After (p : CP) (c : Circ) (B : Option Addr) (d : Nat) (st : List Bool) (B2 : Option Addr) (d2 : Nat) (ins : List Bool) (w : World) (h : RC w p c) (hs : c.Fits) (h1 : RS Kd.bool w B d st) (h2 : RS Kd.bool w B2 d2 ins)
    (hc : check c = 0) (hl1 : st.length = c.f1.length) (hl2 : (ins.length : Int) = c.f0) :
    Calls Try.prog 103 #[cv p c, .slice B st.length d, .slice B2 ins.length d2] w fun e w' => RetVr w w' (nextOf c st ins) e := by
  obtain ⟨A1, k1, A2, k2, A3, k3, A4, k4⟩ := p
  have HF := Aside0.mk (fun W (hb : Below w.heap.size w W) => ref04_Frame ⟨A1, k1, A2, k2, A3, k3, A4, k4⟩ c B d st B2 d2 ins W (h.below hb) (h1.below hb) (h2.below hb) hc hl1 hl2)
  have HR := Aside0.mk h
  have HL := Aside0.mk (check_lits hc).1.l1
  have HVL := Aside0.mk (vals_len (c := c) hl1 hl2)
  have HM := Aside0.mk h.s1.max
  have HN := Aside0.mk hs.h1
  have BX := Aside0.mk (below_alloc (Below.refl w.heap.size w) (.cells #[.int .i64 c.f0, .slice A1 c.f1.length k1, .slice A2 c.f2.length k2, .slice A3 c.f3.length k3, .slice A4 c.f4.length k4] 26))
  have HB := Aside0.mk (blk_new w (.cells #[.int .i64 c.f0, .slice A1 c.f1.length k1, .slice A2 c.f2.length k2, .slice A3 c.f3.length k3, .slice A4 c.f4.length k4] 26))
  have hu26 := Try.underlying26
  have hu65 := Try.underlying107
  have HNX : Aside0 (nextOf c st ins = c.f1.map (fun x => litV (valsOf c st ins) x.f0)) := ⟨rfl⟩
  rw [HNX.out]
  generalize valsOf c st ins = vals at *
  obtain ⟨n, hn⟩ : ∃ n, vals.length = n := ⟨_, rfl⟩
  rw [hn] at HVL
  have HVN := Aside0.mk hn
  obtain ⟨g0, g1, g2, g3, g4⟩ := (blk5w HB.out).1
  clear h hs h1 h2 hc hl1 hl2 HNX hn
  dsimp only [cv] at *
  go_enter Try.func103, Try.ntmps103
  go_wp2_with fail
  refine (HF.out _ BX.out).mono ?_
  rintro e w1 ⟨V, cap, rfl, hv, hb1⟩
  have hv2 := RS.of_R' hv
  rw [HVN.out]
  have HV := Aside0.mk hv2
  have B1 := Aside0.mk (BX.out.trans (hb1.mono BX.out.size))
  have HB1 := Aside0.mk (blk_below HB.out hb1)
  have hr0 := Aside0.mk (Kd.R_nil Kd.bool 4 w1 w1.heap.size (fun _ => True))
  clear hv hv2 hb1 HF BX HB g0 g1 g2 g3 g4
  go_wp2
  go_loopg [8, 9] c.f1.length (fun gg s8 s9 wr => ∃ (i : Nat) (O : Option Addr) (oc : Nat), s8 = .slice O i oc ∧ s9 = .int .i64 i ∧ Aside0 (i ≤ c.f1.length ∧ c.f1.length - i ≤ gg) ∧ Aside0 (Below w1.heap.size w1 wr) ∧ Aside0 (Kd.R Kd.bool 4 wr w1.heap.size (fun _ => True) (.slice O i oc) ((c.f1.take i).map (fun x => litV vals x.f0))))
  case atStart => exact ⟨0, none, 0, rfl, rfl, ⟨by omega, by omega⟩, ⟨Below.refl _ _⟩, hr0⟩
  case round =>
    clear hr0
    obtain ⟨i, O, oc, rfl, rfl, HX, BW, HRR⟩ := hrel
    obtain ⟨g0, g1, g2, g3, g4⟩ := (blk5w (blk_below HB1.out BW.out)).1
    by_cases hlt : i < c.f1.length
    · obtain ⟨ad, e1, hx, hy⟩ := at_latch (HR.out.below (B1.out.trans (BW.out.mono B1.out.size))).s1.r i hlt
      have HT := Aside0.mk (show (c.f1.take (i + 1)).map (fun x => litV vals x.f0) = (c.f1.take i).map (fun x => litV vals x.f0) ++ [litV vals c.f1[i].f0] by rw [take_at hlt, List.map_append]; rfl)
      have hxl := HL.out c.f1[i] (List.getElem_mem hlt)
      have HLT := Aside0.mk hlt
      generalize c.f1[i] = x at *
      cases e1
      have C0 := Aside0.mk (ref04_Value V cap vals n x.f0 wr (HV.out.below BW.out) HVN.out hxl.1 (by have := HVL.out; have := HVN.out; omega))
      clear hxl
      go_wp2_with fail
      refine C0.out.mono ?_
      rintro e w4 ⟨rfl, hb4⟩
      have B4 := Aside0.mk (BW.out.trans (hb4.mono BW.out.size))
      have HR4 := Aside0.mk (Kd.R_below HRR.out hb4)
      clear hb4 BW HRR C0 hx hy g0 g1 g2 g3 g4
      generalize litV vals x.f0 = bb at *
      have HJ := Aside0.mk (show ((c.f1.take i).map (fun x => litV vals x.f0) ++ [bb]).length = i + 1 by rw [List.length_append, List.length_map, List.length_take, Nat.min_eq_left (Nat.le_of_lt HLT.out)]; rfl)
      go_wp2_with (first | (at_builtin; go_loud (refine Kd.R_append Kd.bool (w0 := w1) w1.heap.size rfl (.tmp 21) (.tmp 30) 46 4 (.bool false) 1 rfl Try.underlying46 infoBool rfl (by decide) (by omega) (.slice O i oc) ((c.f1.take i).map (fun x => litV vals x.f0)) bb [.bool bb] (fun _ => True) (fun _ => False) rfl rfl ?aP (fun _ h => h.elim) ?aF ?aO ?aB ?aS ?aL ?_); (case aP => exact rfl); (case aF => exact fun _ _ => trivial); (case aO => exact HR4.out); (case aB => exact B4.out); (case aS => exact B4.out.size); (case aL => rw [List.length_map, List.length_take]; have := HN.out; have := Nat.min_le_right i c.f1.length; omega); intro v1 w6 ho hb hg hat; obtain ⟨V5, cap5, rfl, _, _⟩ := Kd.R_reads ho; rw [HJ.out] at ho ⊢))
      have HR6 := Aside0.mk (show Kd.R Kd.bool 4 w6 w1.heap.size (fun _ => True) (.slice V5 (i + 1) cap5) ((c.f1.take (i + 1)).map (fun x => litV vals x.f0)) from by
        rw [HT.out]
        have h_ := ho
        exact h_)
      have HB6 := Aside0.mk hb
      clear ho hb hg hat B4 HR4
      go_roundg (c.f1.length - (i + 1))
      case measure => have := HX.out; have := HLT.out; omega
      case rel => exact ⟨i + 1, V5, cap5, rfl, val_step HLT.out HM.out, ⟨HLT.out, by have := HX.out; omega⟩, HB6, HR6⟩
    · have hi : i = c.f1.length := by have := HX.out.1; omega
      subst hi
      have hr := HRR.out
      rw [List.take_length] at hr
      have HS := Aside0.mk hr
      clear HRR hr
      go_wp2
      go_ret
      exact ⟨O, oc, by rw [List.length_map]; rfl, by rw [List.length_map]; exact Kd.R_lower HS.out B1.out.size, B1.out.trans (BW.out.mono B1.out.size)⟩
set_option maxHeartbeats 4000000 in
set_option maxRecDepth 100000 in
theorem ref04_Holds (p : CP) (c : Circ) (B : Option Addr) (d : Nat) (st : List Bool) (B2 : Option Addr) (d2 : Nat) (ins : List Bool) (w : World) (h : RC w p c) (h1 : RS Kd.bool w B d st) (h2 : RS Kd.bool w B2 d2 ins)
    (hc : check c = 0) (hl1 : st.length = c.f1.length) (hl2 : (ins.length : Int) = c.f0) :
    Calls Try.prog 102 #[cv p c, .slice B st.length d, .slice B2 ins.length d2] w fun e w' => e = .returned (.bool (holdsOf c st ins)) ∧ Below w.heap.size w w' := by
  obtain ⟨A1, k1, A2, k2, A3, k3, A4, k4⟩ := p
  have HF := Aside0.mk (fun W (hb : Below w.heap.size w W) => ref04_Frame ⟨A1, k1, A2, k2, A3, k3, A4, k4⟩ c B d st B2 d2 ins W (h.below hb) (h1.below hb) (h2.below hb) hc hl1 hl2)
  have HR := Aside0.mk h
  have HL := Aside0.mk (check_lits hc).1.l4
  have HVL := Aside0.mk (vals_len (c := c) hl1 hl2)
  have HM := Aside0.mk h.s4.max
  have BX := Aside0.mk (below_alloc (Below.refl w.heap.size w) (.cells #[.int .i64 c.f0, .slice A1 c.f1.length k1, .slice A2 c.f2.length k2, .slice A3 c.f3.length k3, .slice A4 c.f4.length k4] 26))
  have HB := Aside0.mk (blk_new w (.cells #[.int .i64 c.f0, .slice A1 c.f1.length k1, .slice A2 c.f2.length k2, .slice A3 c.f3.length k3, .slice A4 c.f4.length k4] 26))
  have hu26 := Try.underlying26
  have HNX : Aside0 (holdsOf c st ins = c.f4.all (litV (valsOf c st ins))) := ⟨rfl⟩
  rw [HNX.out]
  generalize valsOf c st ins = vals at *
  obtain ⟨n, hn⟩ : ∃ n, vals.length = n := ⟨_, rfl⟩
  rw [hn] at HVL
  have HVN := Aside0.mk hn
  obtain ⟨r, hr⟩ : ∃ r, c.f4.all (litV vals) = r := ⟨_, rfl⟩
  rw [hr]
  have H0 := Aside0.mk (show (c.f4.drop 0).all (litV vals) = r from hr)
  obtain ⟨g0, g1, g2, g3, g4⟩ := (blk5w HB.out).1
  clear h h1 h2 hc hl1 hl2 HNX hn hr
  dsimp only [cv] at *
  go_enter Try.func102, Try.ntmps102
  go_wp2_with fail
  refine (HF.out _ BX.out).mono ?_
  rintro e w1 ⟨V, cap, rfl, hv, hb1⟩
  have hv2 := RS.of_R' hv
  rw [HVN.out]
  have HV := Aside0.mk hv2
  have B1 := Aside0.mk (BX.out.trans (hb1.mono BX.out.size))
  have HB1 := Aside0.mk (blk_below HB.out hb1)
  clear hv hv2 hb1 HF BX HB g0 g1 g2 g3 g4
  go_wp2
  go_loopg [8] c.f4.length (fun gg s8 wr => ∃ (i : Nat), s8 = .int .i64 i ∧ Aside0 (i ≤ c.f4.length ∧ c.f4.length - i ≤ gg) ∧ Aside0 (Below w1.heap.size w1 wr) ∧ Aside0 ((c.f4.drop i).all (litV vals) = r))
  case atStart => exact ⟨0, rfl, ⟨by omega, by omega⟩, ⟨Below.refl _ _⟩, H0⟩
  case round =>
    clear H0
    obtain ⟨i, rfl, HX, BW, HA⟩ := hrel
    obtain ⟨g0, g1, g2, g3, g4⟩ := (blk5w (blk_below HB1.out BW.out)).1
    by_cases hlt : i < c.f4.length
    · obtain ⟨ad, e1, hx⟩ := at_int (HR.out.below (B1.out.trans (BW.out.mono B1.out.size))).s4.r i hlt
      have HQ := Aside0.mk ((all_step (q := litV vals) hlt).symm.trans HA.out)
      have hxl := HL.out c.f4[i] (List.getElem_mem hlt)
      have HLT := Aside0.mk hlt
      generalize c.f4[i] = x at *
      cases e1
      have C0 := Aside0.mk (ref04_Value V cap vals n x wr (HV.out.below BW.out) HVN.out hxl.1 (by have := HVL.out; have := HVN.out; omega))
      clear hxl
      go_wp2_with fail
      refine C0.out.mono ?_
      rintro e w4 ⟨rfl, hb4⟩
      have B4 := Aside0.mk (BW.out.trans (hb4.mono BW.out.size))
      clear hb4 BW C0 hx g0 g1 g2 g3 g4
      cases hq : litV vals x with
      | true =>
        have HQ2 := Aside0.mk (show (c.f4.drop (i + 1)).all (litV vals) = r by have h_ := HQ.out; rw [hq, Bool.true_and] at h_; exact h_)
        clear hq
        go_wp2
        go_roundg (c.f4.length - (i + 1))
        case measure => have := HX.out; have := HLT.out; omega
        case rel => exact ⟨i + 1, val_step HLT.out HM.out, ⟨HLT.out, by have := HX.out; omega⟩, B4, HQ2⟩
      | false =>
        have HQ2 := Aside0.mk (show r = false by have h_ := HQ.out; rw [hq, Bool.false_and] at h_; exact h_.symm)
        clear hq
        go_wp2
        go_ret
        exact ⟨by rw [HQ2.out]; rfl, B1.out.trans (B4.out.mono B1.out.size)⟩
    · have hi : i = c.f4.length := by have := HX.out.1; omega
      have HQ2 := Aside0.mk (show r = true by have h_ := HA.out; rw [hi, List.drop_length] at h_; exact h_.symm)
      clear hi
      go_wp2
      go_ret
      exact ⟨by rw [HQ2.out]; rfl, B1.out.trans (BW.out.mono B1.out.size)⟩
end Go.Proofs.Ytlhiapggccgggaa.PH

/- lift.row. -/
namespace Go.Proofs.Ytlhiapggccgggaa.PH
open Go.RowKit Go.Proofs.YtlhiapggccgggaaW.PrintWords Go.Proofs.YtlhiapggccgggaaW.PrintLast
set_option linter.unusedVariables false
set_option linter.unusedSimpArgs false

/-- A row of the call's own begins at its block's head. -/
theorem row_head {α : Type} {d : Kd α} {e : Nat} {w : World} {base : Nat} {ok : Nat → Prop} {ad : Addr} {n cap : Nat} {xs : List α} (h : d.R e w base ok (.slice (some ad) n cap) xs) : ∃ g, ad = ⟨g, 0, none⟩ := by
  obtain ⟨_, inner, ho, hr⟩ := h
  rcases ho.2 with ⟨hv, _⟩ | ⟨g, cap', cur, hv, _⟩
  · cases hv
  · cases hv
    exact ⟨g, rfl⟩
/-- The row while it is written. -/
def lrAt (r : List Int) (ins : List Bool) (i : Nat) : List Bool := (r.take i).map (liftB ins) ++ List.replicate (r.length - i) false
theorem lrAt_zero (r : List Int) (ins : List Bool) : lrAt r ins 0 = List.replicate r.length false := by simp [lrAt]
theorem lrAt_end (r : List Int) (ins : List Bool) : lrAt r ins r.length = liftRow r ins := by simp [lrAt, liftRow]
theorem lrAt_len (r : List Int) (ins : List Bool) {i : Nat} (hi : i ≤ r.length) : (lrAt r ins i).length = r.length := by simp [lrAt]; omega
theorem lrAt_set (r : List Int) (ins : List Bool) {i : Nat} (hi : i < r.length) {b : Bool} (hb : liftB ins r[i] = b) : (lrAt r ins i).set i b = lrAt r ins (i + 1) := by
  unfold lrAt
  have h1 : ((r.take i).map (liftB ins)).length = i := by simp; omega
  rw [List.set_append_right _ _ (by omega), h1, Nat.sub_self, take_at hi, List.map_append, List.map_singleton, hb, List.append_assoc, show r.length - i = (r.length - (i + 1)) + 1 by omega, List.replicate_succ]
  simp
set_option maxHeartbeats 4000000 in
set_option maxRecDepth 100000 in
theorem lift_row (A : Option Addr) (c : Nat) (r : List Int) (B : Option Addr) (d : Nat) (ins : List Bool) (w : World) (hr : RS (Kd.int .i64) w A c r) (hi : RS Kd.bool w B d ins) (hl : r.length ≤ 2000) (hx : ∀ x ∈ r, -1 ≤ x ∧ x ≤ 3000 ∧ (0 < x → 1 < x ∧ (x / 2 - 1).toNat < ins.length)) :
    Calls Try.prog 51 #[.slice A r.length c, .slice B ins.length d] w fun e w' => RetVr w w' (liftRow r ins) e := by
  have HR := Aside0.mk hr
  have HI := Aside0.mk hi
  have HX := Aside0.mk hx
  have HL := Aside0.mk hl
  clear hr hi hx
  go_enter Try.func51, Try.ntmps51
  go_wp2_with (first | (refine Kd.R_make Kd.bool (w0 := w) w.heap.size 4 rfl rfl 46 (.tmp 9) (.tmp 9) rfl (r.length : Int) rfl rfl Try.underlying46 (.bool false) 1 infoBool rfl (by decide) (by decide) false (ok := fun _ => True) (okp := fun _ => False) ?aP (fun _ h => h.elim) trivial (by omega) ?aL (Below.refl _ _) (Nat.le_refl _) ?_; (case aP => exact rfl); (case aL => omega); intro v1 w1 ho hb hg hat; obtain ⟨V, cap, hv⟩ := Kd.R_slice ho; have HO := Aside0.mk ho; have HB := Aside0.mk hb; have HAT := Aside0.mk hat; clear ho hb hg hat; subst hv))
  obtain ⟨g, hV⟩ : ∃ g, V = some ⟨g, 0, none⟩ := by
    obtain ⟨b, hb, _⟩ := HAT.out
    cases V with
    | none => simp [Value.ownBlock] at hb
    | some ad => obtain ⟨g, hg⟩ := row_head HO.out; exact ⟨g, by rw [hg]⟩
  subst hV
  have HG := Aside0.mk (show w.heap.size ≤ g by obtain ⟨b, hb, h_⟩ := HAT.out; injection hb with hb; rw [show b = g from hb.symm] at h_; exact h_)
  have HO1 := Aside0.mk (show Kd.R Kd.bool 4 w1 w.heap.size (fun _ => True) (.slice (some ⟨g, 0, none⟩) r.length cap) (lrAt r ins 0) by
    rw [lrAt_zero]
    have h_ := HO.out
    simp only [Int.toNat_natCast, List.length_replicate] at h_
    exact h_)
  clear HO HAT
  go_loopg [13] r.length (fun gg s13 wr => ∃ i : Nat, s13 = .int .i64 i ∧ Aside0 (i ≤ r.length ∧ r.length - i ≤ gg) ∧ Aside0 (Below w.heap.size w wr) ∧ Aside0 (Kd.R Kd.bool 4 wr w.heap.size (fun _ => True) (.slice (some ⟨g, 0, none⟩) r.length cap) (lrAt r ins i)))
  case atStart => exact ⟨0, rfl, ⟨Nat.zero_le _, by omega⟩, HB, HO1⟩
  case round =>
    obtain ⟨i, rfl, HK, BW, RW⟩ := hrel
    by_cases hlt : i < r.length
    · have HLT := Aside0.mk hlt
      obtain ⟨ad, e1, hxc⟩ := at_int (HR.out.below BW.out).r i hlt
      have hxr := HX.out r[i] (List.getElem_mem hlt)
      have HS := Aside0.mk (fun b (hb : liftB ins r[i] = b) => lrAt_set r ins hlt hb)
      have hc0 := Kd.R_celln (n := r.length) false RW.out (i : Int) (by omega) (by omega)
      have cV : wr.cell? ⟨g, i, none⟩ = some (.bool ((lrAt r ins i).getD i false)) := by have h_ := hc0.1; rw [Int.toNat_natCast] at h_; simpa [rdOf] using h_
      generalize (lrAt r ins i).getD i false = bv at cV
      have cW : wr.frozen? ⟨g, i, none⟩ = false := by have h_ := hc0.2; rw [Int.toNat_natCast] at h_; exact h_
      generalize r[i] = x at *
      cases e1
      have hii : (i : Int) < (r.length : Int) := by omega
      clear hc0
      by_cases h0 : 0 < x
      · have h0d : decide (0 < x) = true := decide_eq_true h0
        obtain ⟨q, hq⟩ : ∃ q : Nat, x / 2 - 1 = (q : Int) := ⟨(x / 2 - 1).toNat, by have := hxr.2.2 h0; omega⟩
        have hqi : q < ins.length := by have := (hxr.2.2 h0).2; omega
        obtain ⟨bd, e2, hb⟩ := at_bool (HI.out.below BW.out).r q hqi
        cases e2
        have HS2 := Aside0.mk (HS.out ins[q] (by unfold liftB; rw [h0d, hq, Int.toNat_natCast, List.getD_eq_getElem?_getD, List.getElem?_eq_getElem hqi]; rfl))
        generalize ins[q] = y at *
        have hw1 : wrap64 (x.tdiv 2) = x / 2 := half_of ⟨by omega, by omega⟩ (by omega)
        have hw2 : wrap64 (x / 2 - 1) = (q : Int) := by rw [wrap_in (by omega) (by omega), hq]
        have hqq : (q : Int) < (ins.length : Int) := by omega
        have hmx : ∀ ats ty, Builtin.max_ ats ty #[.int .i64 0, .int .i64 (q : Int)] = pure (.int .i64 (q : Int)) := fun ats ty => by
          rw [max_pair]
          split
          · rfl
          · congr 2; omega
        clear hxr hq h0 HS
        go_wp2
        go_roundg (r.length - (i + 1))
        case measure => have := HK.out; have := HLT.out; omega
        case rel => exact ⟨i + 1, val_eq (by omega), ⟨HLT.out, by have := HK.out; omega⟩, ⟨BW.out.setCell (p := ⟨g, i, none⟩) HG.out _⟩, ⟨by have h_ := Kd.R_putn RW.out (i : Int) y; rw [Int.toNat_natCast, HS2.out] at h_; exact h_⟩⟩
      · have h0d : decide (0 < x) = false := decide_eq_false h0
        have HS2 := Aside0.mk (HS.out false (by unfold liftB; rw [h0d]; rfl))
        clear hxr h0 HS
        go_wp2
        go_roundg (r.length - (i + 1))
        case measure => have := HK.out; have := HLT.out; omega
        case rel => exact ⟨i + 1, val_eq (by omega), ⟨HLT.out, by have := HK.out; omega⟩, ⟨BW.out.setCell (p := ⟨g, i, none⟩) HG.out _⟩, ⟨by have h_ := Kd.R_putn RW.out (i : Int) false; rw [Int.toNat_natCast, HS2.out] at h_; exact h_⟩⟩
    · have hi : i = r.length := by have := HK.out.1; omega
      subst hi
      have HE := Aside0.mk (show Kd.R Kd.bool 4 wr w.heap.size (fun _ => True) (.slice (some ⟨g, 0, none⟩) r.length cap) (liftRow r ins) by have h_ := RW.out; rw [lrAt_end] at h_; exact h_)
      go_wp2
      go_ret
      have hn : (liftRow r ins).length = r.length := by simp [liftRow]
      exact ⟨some ⟨g, 0, none⟩, cap, by rw [hn]; rfl, by rw [hn]; exact HE.out, BW.out⟩
end Go.Proofs.Ytlhiapggccgggaa.PH

/- ref04.Asked, Next, Props of a valid frame. -/
namespace Go.Proofs.Ytlhiapggccgggaa.PH
open Go.RowKit Go.Proofs.YtlhiapggccgggaaW.PrintWords Go.Proofs.YtlhiapggccgggaaW.PrintLast
set_option linter.unusedVariables false
set_option linter.unusedSimpArgs false

set_option maxHeartbeats 4000000 in
set_option maxRecDepth 100000 in
theorem ref04_Asked (p : CP) (c : Circ) (B : Option Addr) (d : Nat) (st : List Bool) (B2 : Option Addr) (d2 : Nat) (ins : List Bool) (w : World) (h : RC w p c) (hs : c.Fits) (hc : check c = 0) (hl1 : st.length = c.f1.length) (hl2 : (ins.length : Int) = c.f0) :
    Calls Try.prog 99 #[cv p c, .slice B st.length d, .slice B2 ins.length d2] w fun e w' => e = .returned (.int .i64 0) ∧ Below w.heap.size w w' := by
  have HH := Aside0.mk h
  have HS := Aside0.mk hs
  have HC := Aside0.mk hc
  have h1b : ((st.length : Int) != (c.f1.length : Int)) = false := bne_eq_false_iff_eq.2 (by omega)
  have h2b : ((ins.length : Int) != c.f0) = false := bne_eq_false_iff_eq.2 hl2
  have hu26 := Try.underlying26
  have S0 := Aside0.mk ((Parts.start w).new 26 #[.int .i64 c.f0, .slice p.A1 c.f1.length p.c1, .slice p.A2 c.f2.length p.c2, .slice p.A3 c.f3.length p.c3, .slice p.A4 c.f4.length p.c4])
  clear h hs hc hl1 hl2
  go_enter Try.func99, Try.ntmps99
  go_wp2_with fail
  refine (ref02_Check p c _ (HH.out.below S0.out.B) HS.out).mono ?_
  rintro e w1 ⟨rfl, hb⟩
  rw [HC.out]
  have S1 := Aside0.mk (S0.out.below hb)
  clear hb S0
  obtain ⟨c0, c1, c2, c3, c4⟩ := blk5 (S1.out.blk 0 rfl)
  go_wp2
  go_ret
  exact ⟨rfl, S1.out.B⟩
set_option maxHeartbeats 4000000 in
set_option maxRecDepth 100000 in
theorem ref04_Next (p : CP) (c : Circ) (B : Option Addr) (d : Nat) (st : List Bool) (B2 : Option Addr) (d2 : Nat) (ins : List Bool) (w : World) (h : RC w p c) (hs : c.Fits) (h1 : RS Kd.bool w B d st) (h2 : RS Kd.bool w B2 d2 ins) (hc : check c = 0) (hl1 : st.length = c.f1.length) (hl2 : (ins.length : Int) = c.f0) :
    Calls Try.prog 84 #[cv p c, .slice B st.length d, .slice B2 ins.length d2] w fun e w' => RetVo w w' (nextOf c st ins) e := by
  have C1 := Aside0.mk (fun W (hb : Below w.heap.size w W) => ref04_Asked p c B d st B2 d2 ins W (h.below hb) hs hc hl1 hl2)
  have C2 := Aside0.mk (fun W (hb : Below w.heap.size w W) => ref04_After p c B d st B2 d2 ins W (h.below hb) hs (h1.below hb) (h2.below hb) hc hl1 hl2)
  have hu26 := Try.underlying26
  have S0 := Aside0.mk ((Parts.start w).new 26 #[.int .i64 c.f0, .slice p.A1 c.f1.length p.c1, .slice p.A2 c.f2.length p.c2, .slice p.A3 c.f3.length p.c3, .slice p.A4 c.f4.length p.c4])
  clear h hs hc hl1 hl2 h1 h2
  go_enter Try.func84, Try.ntmps84
  go_wp2_with fail
  refine (C1.out _ S0.out.B).mono ?_
  rintro e w1 ⟨rfl, hb⟩
  have S1 := Aside0.mk (S0.out.below hb)
  clear hb S0
  obtain ⟨c0, c1, c2, c3, c4⟩ := blk5 (S1.out.blk 0 rfl)
  go_wp2_with fail
  refine (C2.out _ S1.out.B).mono ?_
  rintro e w2 ⟨A, cap, rfl, hR, hb⟩
  have S2 := Aside0.mk (S1.out.B.trans (hb.mono S1.out.z))
  have HR := Aside0.mk (Kd.R_lower hR S1.out.z)
  clear hb S1 hR
  go_wp2
  refine bodyPost_ret (results_tmp2 rfl _ _ _) rfl ?_
  exact ⟨A, cap, rfl, HR.out, S2.out⟩
set_option maxHeartbeats 4000000 in
set_option maxRecDepth 100000 in
theorem ref04_Props (p : CP) (c : Circ) (B : Option Addr) (d : Nat) (st : List Bool) (B2 : Option Addr) (d2 : Nat) (ins : List Bool) (w : World) (h : RC w p c) (hs : c.Fits) (h1 : RS Kd.bool w B d st) (h2 : RS Kd.bool w B2 d2 ins) (hc : check c = 0) (hl1 : st.length = c.f1.length) (hl2 : (ins.length : Int) = c.f0) :
    Calls Try.prog 83 #[cv p c, .slice B st.length d, .slice B2 ins.length d2] w fun e w' => RetPp w w' (holdsOf c st ins) (badsOf c st ins) e := by
  have hlen : ((valsOf c st ins).length : Int) = 1 + c.f0 + c.f1.length + c.f2.length := by
    unfold valsOf
    rw [truthFrom_len]
    simp only [List.length_cons, List.length_append]
    omega
  have HVL := Aside0.mk hlen
  have HL := Aside0.mk (check_lits hc).1
  have C1 := Aside0.mk (fun W (hb : Below w.heap.size w W) => ref04_Asked p c B d st B2 d2 ins W (h.below hb) hs hc hl1 hl2)
  have C2 := Aside0.mk (fun W (hb : Below w.heap.size w W) => ref04_Frame p c B d st B2 d2 ins W (h.below hb) (h1.below hb) (h2.below hb) hc hl1 hl2)
  have C3 := Aside0.mk (fun W (hb : Below w.heap.size w W) => ref04_Holds p c B d st B2 d2 ins W (h.below hb) (h1.below hb) (h2.below hb) hc hl1 hl2)
  have HH := Aside0.mk h
  have HB := Aside0.mk (gCheck_ok hc)
  have HLB := Aside0.mk (show c.f3.length ≤ 100 from (check_few6 hc).1)
  have hu26 := Try.underlying26
  obtain ⟨A1, k1, A2, k2, A3, k3, A4, k4⟩ := p
  have S0 := Aside0.mk ((Parts.start w).new 26 #[.int .i64 c.f0, .slice A1 c.f1.length k1, .slice A2 c.f2.length k2, .slice A3 c.f3.length k3, .slice A4 c.f4.length k4])
  clear h hs hc hl1 hl2 h1 h2 hlen
  go_enter Try.func83, Try.ntmps83
  go_wp2_with fail
  refine (C1.out _ S0.out.B).mono ?_
  rintro e w1 ⟨rfl, hb⟩
  have S1 := Aside0.mk (S0.out.below hb)
  clear hb S0
  obtain ⟨c0, c1, c2, c3, c4⟩ := blk5 (S1.out.blk 0 rfl)
  go_wp2_with fail
  refine (C2.out _ S1.out.B).mono ?_
  rintro e w2 ⟨V, cap, rfl, hR, hb⟩
  obtain ⟨vals, hvals⟩ : ∃ v, valsOf c st ins = v := ⟨_, rfl⟩
  rw [hvals] at hR HVL ⊢
  have HVV := Aside0.mk hvals
  have S2 := Aside0.mk (((S1.out.freshF flat_bool hb hR).nil Kd.bool 4))
  clear hb S1 hR hvals c0 c1 c2 c3 c4
  have HVC := Aside0.mk (show vals.length ≤ 2000 by have := HVL.out; have := HB.out; omega)
  have HL3 := Aside0.mk (RS.max (HH.out.s3))
  go_wp2
  go_loopg [10, 11] c.f3.length (fun gg s10 s11 wr => ∃ (i : Nat) (O : Option Addr) (oc : Nat), s10 = .slice O i oc ∧ s11 = .int .i64 i ∧ Aside0 (i ≤ c.f3.length ∧ c.f3.length - i ≤ gg) ∧ Aside0 (Parts w.heap.size w wr [pF w.heap.size Kd.bool 4 (.slice O i oc) ((c.f3.take i).map (litV vals)), pF w.heap.size Kd.bool 4 (.slice V vals.length cap) vals, pB w.heap.size 26 #[.int .i64 c.f0, .slice A1 c.f1.length k1, .slice A2 c.f2.length k2, .slice A3 c.f3.length k3, .slice A4 c.f4.length k4]]))
  case atStart => exact ⟨0, none, 0, rfl, rfl, ⟨by omega, by omega⟩, S2⟩
  case round =>
    clear S2
    obtain ⟨i, O, oc, rfl, rfl, HX, S⟩ := hrel
    obtain ⟨c0, c1, c2, c3, c4⟩ := blk5 (S.out.blk 2 rfl)
    by_cases hlt : i < c.f3.length
    · obtain ⟨ad, e1, hx⟩ := at_int (HH.out.s3.below S.out.B).r i hlt
      cases e1
      obtain ⟨x, hx0⟩ : ∃ x, c.f3[i] = x := ⟨_, rfl⟩
      have hxl := HL.out.l3 c.f3[i] (List.getElem_mem hlt)
      rw [hx0] at hx hxl
      have HT := Aside0.mk (show (c.f3.take (i + 1)).map (litV vals) = (c.f3.take i).map (litV vals) ++ [litV vals x] by rw [take_at hlt, List.map_append, hx0]; rfl)
      have HLT := Aside0.mk hlt
      have hlti : (i : Int) < c.f3.length := by omega
      have C0 := Aside0.mk (fun W (h : RS Kd.bool W V cap vals) => ref04_Value V cap vals vals.length x W h rfl hxl.1 (by have := HVL.out; omega))
      clear hxl hx0 hlt
      go_wp2_with fail
      refine (C0.out _ (S.out.rowF 1 rfl)).mono ?_
      rintro e w4 ⟨rfl, hb⟩
      have S4 := Aside0.mk (S.out.below hb)
      clear hb S C0 hx c0 c1 c2 c3 c4
      generalize litV vals x = bb at *
      obtain ⟨F0, hF0⟩ : ∃ F0, (c.f3.take i).map (litV vals) = F0 := ⟨_, rfl⟩
      have HFL := Aside0.mk (show F0.length = i by rw [← hF0]; simp; have := HLT.out; omega)
      rw [hF0] at S4 HT
      clear hF0
      go_wp2_with (first | (at_builtin; refine Parts.appendL S4.out 0 rfl flat_bool rfl (.tmp 32) (.tmp 40) 46 (.bool false) 1 rfl Try.underlying46 infoBool rfl (by decide) (by decide) bb [.bool bb] rfl rfl rfl (by have := HFL.out; have := HLT.out; have := HLB.out; omega) ?_; intro V5 cap5 w8 h8; have S8 := Aside0.mk h8; clear h8))
      have S9 := Aside0.mk (show Parts w.heap.size w w8 [pF w.heap.size Kd.bool 4 (.slice V5 (F0.length + 1) cap5) ((c.f3.take (i + 1)).map (litV vals)), pF w.heap.size Kd.bool 4 (.slice V vals.length cap) vals, pB w.heap.size 26 #[.int .i64 c.f0, .slice A1 c.f1.length k1, .slice A2 c.f2.length k2, .slice (some ad) c.f3.length k3, .slice A4 c.f4.length k4]] from by rw [HT.out]; exact S8.out)
      go_roundg (c.f3.length - (i + 1))
      case measure => have := HX.out; have := HLT.out; omega
      case rel => exact ⟨i + 1, V5, cap5, by rw [HFL.out], (by first | exact val_step HLT.out HL3.out | rfl), ⟨by have := HLT.out; omega, by have := HX.out; have := HLT.out; omega⟩, by have h_ := S9; rw [HFL.out] at h_; exact h_⟩
    · have hi : i = c.f3.length := by have := HX.out.1; omega
      subst hi
      rw [List.take_length] at S
      clear hlt HX
      go_wp2_with fail
      refine (C3.out _ S.out.B).mono ?_
      rintro e w5 ⟨rfl, hb⟩
      have S5 := Aside0.mk (S.out.below hb)
      clear hb S c0 c1 c2 c3 c4
      go_wp2
      refine bodyPost_ret (results_tmp3 rfl _ _ _) rfl ?_
      have e : badsOf c st ins = c.f3.map (litV vals) := by unfold badsOf; rw [HVV.out]
      rw [e]
      exact ⟨O, oc, by rw [List.length_map]; rfl, S5.out.rowF 0 rfl, S5.out.B⟩
end Go.Proofs.Ytlhiapggccgggaa.PH
