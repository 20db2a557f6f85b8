/- slices.Index and Contains over truth values; values.Props. -/
import Derived.Test.YtchhbkicplgmhaaHList
namespace Go.Proofs.Ytchhbkicplgmhaa.PH
open Go.RowKit Go.Proofs.YtchhbkicplgmhaaW.PrintWords Go.Proofs.YtchhbkicplgmhaaW.PrintLast
set_option linter.unusedVariables false
set_option linter.unusedSimpArgs false

set_option maxHeartbeats 2000000 in
set_option maxRecDepth 100000 in
theorem slices_Index_bool (A : Option Addr) (c : Nat) (l : List Bool) (v : Bool) (w : World) (h : RS Kd.bool w A c l) :
    Calls Try.prog 46 #[.slice A l.length c, .bool v] w fun e w' => e = .returned (.int .i64 (firstIdx (fun x => v == x) l 0)) ∧ Below w.heap.size w w' := by
  have HR := Aside0.mk h
  have HM := Aside0.mk h.max
  clear h
  go_enter Try.func46, Try.ntmps46
  go_wp2
  go_loopg [5, 8] l.length (fun gg _ s8 wr => ∃ k : Nat, s8 = .int .i64 k ∧ Aside0 (k ≤ l.length ∧ l.length - k ≤ gg) ∧ Aside0 (Below w.heap.size w wr) ∧ Aside0 (∀ (j : Nat) (z : Bool), j < k → l[j]? = some z → (v == z) = false))
  case atStart => exact ⟨0, rfl, ⟨by omega, by omega⟩, ⟨Below.refl _ w⟩, ⟨fun j z hj _ => absurd hj (Nat.not_lt_zero _)⟩⟩
  case round =>
    obtain ⟨k, rfl, HX, BW, HA⟩ := hrel
    by_cases hlt : k < l.length
    · obtain ⟨ad, e1, hx⟩ := at_bool (HR.out.below BW.out).r k hlt
      cases e1
      have hget := Aside0.mk (List.getElem?_eq_getElem hlt)
      have HLT := Aside0.mk hlt
      generalize l[k] = x at *
      cases hq : (v == x) with
      | true =>
        have HQ := Aside0.mk hq
        go_wp2
        go_ret
        refine ⟨?_, BW.out⟩
        rw [firstIdx_hit (fun x => v == x) l 0 k x hget.out HQ.out (fun j z hj hz => HA.out j z hj hz)]
        simp
      | false =>
        have HQ := Aside0.mk hq
        go_wp2
        go_roundg (l.length - (k + 1))
        case measure => have := HX.out; have := HLT.out; omega
        case rel =>
          refine ⟨k + 1, val_step HLT.out HM.out, ⟨HLT.out, by have := HX.out; omega⟩, BW, ⟨fun j z hj hz => ?_⟩⟩
          by_cases e : j = k
          · subst e
            rw [hget.out] at hz
            injection hz with hz
            rw [← hz]; exact HQ.out
          · exact HA.out j z (by omega) hz
    · have HE : Aside0 (k = l.length) := ⟨by have := HX.out; omega⟩
      go_wp2
      go_ret
      refine ⟨?_, BW.out⟩
      have hno : ∀ z ∈ l, (v == z) = false := fun z hz => by
        obtain ⟨j, hj, e⟩ := List.getElem_of_mem hz
        exact HA.out j z (by rw [HE.out]; exact hj) (by rw [List.getElem?_eq_getElem hj, e])
      rw [firstIdx_miss (fun x => v == x) l 0 hno]
      rfl
theorem slices_Contains_bool (A : Option Addr) (c : Nat) (l : List Bool) (v : Bool) (w : World) (h : RS Kd.bool w A c l) :
    Calls Try.prog 49 #[.slice A l.length c, .bool v] w fun e w' => e = .returned (.bool (l.any (fun x => v == x))) ∧ Below w.heap.size w w' := by
  have H := Aside0.mk (slices_Index_bool A c l v w h)
  clear h
  have HN := Aside0.mk (firstIdx_nonneg (fun x => v == x) l 0 (by omega))
  go_enter Try.func49, Try.ntmps49
  go_wp2_with fail
  refine H.out.mono ?_
  rintro e w' ⟨rfl, hb'⟩
  go_wp2
  go_ret
  exact ⟨by rw [← HN.out]; first | rfl | simp, hb'⟩
/-- What values.Props answers: whether all constraints hold, the bad literals' values in a row. -/
def RetPp (w w' : World) (b : Bool) (l : List Bool) (e : Ending) : Prop := ∃ A cap, e = .returned (.tuple #[.bool b, .slice A l.length cap, .int .i64 0]) ∧ RS Kd.bool w' A cap l ∧ Below w.heap.size w w'
theorem all_any (l : List Bool) : (!(l.any (fun x => false == x))) = l.all id := by
  induction l with
  | nil => rfl
  | cons x xs ih => cases x <;> simp_all
set_option maxHeartbeats 4000000 in
set_option maxRecDepth 100000 in
theorem values_Props (p : CP) (c : Circ) (B : Option Addr) (d : Nat) (st : List Bool) (B2 : Option Addr) (d2 : Nat) (ins : List Bool) (w : World) (h : RC w p c) (hs : c.Fits) (h1 : RS Kd.bool w B d st) (h2 : RS Kd.bool w B2 d2 ins)
    (hc : check c = 0) (hl1 : st.length = c.f1.length) (hl2 : (ins.length : Int) = c.f0) (hL : Lits c) :
    Calls Try.prog 30 #[cv p c, .slice B st.length d, .slice B2 ins.length d2] w fun e w' => RetPp w w' (holdsOf c st ins) (badsOf c st ins) e := by
  have hlen : ((valsOf c st ins).length : Int) = 1 + c.f0 + c.f1.length + c.f2.length := by
    unfold valsOf
    rw [truthFrom_len]
    simp only [List.length_cons, List.length_append]
    omega
  have BX := Aside0.mk (below_alloc (Below.refl w.heap.size w) (.cells #[.int .i64 c.f0, .slice p.A1 c.f1.length p.c1, .slice p.A2 c.f2.length p.c2, .slice p.A3 c.f3.length p.c3, .slice p.A4 c.f4.length p.c4] 26))
  have HB := Aside0.mk (blk_new w (.cells #[.int .i64 c.f0, .slice p.A1 c.f1.length p.c1, .slice p.A2 c.f2.length p.c2, .slice p.A3 c.f3.length p.c3, .slice p.A4 c.f4.length p.c4] 26))
  have HC := Aside0.mk (fun (L : List Int) (g : Nat) W (hb : Below w.heap.size w W) (hx : ∀ x ∈ L, IsLit x ∧ x / 2 < 1 + c.f0 + c.f1.length + c.f2.length) (hn : L.length ≤ 4000000) (hp : PLit Try.prog g #[.pointer (some ⟨w.heap.size, 0, none⟩)] L W) (eg) => values_list p c B d st B2 d2 ins L g #[.pointer (some ⟨w.heap.size, 0, none⟩)] W (h.below hb) hs (h1.below hb) (h2.below hb) hc hl1 hl2
    (fun x hx_ => ⟨(hx x hx_).1, by have := (hx x hx_).2; omega⟩) hn hp eg)
  have HH := Aside0.mk h
  have HF := Aside0.mk (check_few6 hc)
  have HL := Aside0.mk hL
  have hu26 := Try.underlying26
  have hmf : ∀ (fn : Fn) (first cap : Array Value) (w : World), (Instr.makeFunc fn first cap).run Try.prog w = .ok (.func fn first cap) w := fun _ _ _ _ => rfl
  have HX : Aside0 (holdsOf c st ins = !((c.f4.map (litV (valsOf c st ins))).any (fun x => false == x))) := ⟨by rw [all_any, List.all_map]; rfl⟩
  obtain ⟨hd, hhd⟩ : ∃ b, holdsOf c st ins = b := ⟨_, rfl⟩
  rw [hhd] at HX ⊢
  have HY : Aside0 (badsOf c st ins = c.f3.map (litV (valsOf c st ins))) := ⟨rfl⟩
  rw [HY.out]
  generalize valsOf c st ins = vals at *
  obtain ⟨g0, g1, g2, g3, g4⟩ := (blk5w HB.out).1
  clear h hs h1 h2 hc hl1 hl2 hL hlen hhd HY
  go_enter Try.func30, Try.ntmps30
  go_wp2_with fail
  have HC1 := HC.out c.f3 52 _ BX.out HL.out.l3 (by have := HF.out; omega) (fun W i hi hb => by
    have h_ := values_Props1 p c w.heap.size i hi W (HH.out.below (BX.out.trans (hb.mono BX.out.size))) (blk_below HB.out hb)
    simpa using h_) (enters_fn Try.func52 rfl rfl)
  refine HC1.mono ?_
  rintro e w1 ⟨V, cap, rfl, hv, hb1⟩
  have HV := Aside0.mk (RS.of_R' hv)
  have BX1 := Aside0.mk (BX.out.trans (hb1.mono BX.out.size))
  have HB1 := Aside0.mk (blk_below HB.out hb1)
  clear hv hb1 HC1 g0 g1 g2 g3 g4
  obtain ⟨g0, g1, g2, g3, g4⟩ := (blk5w HB1.out).1
  go_wp2_with fail
  have HC2 := HC.out c.f4 53 _ BX1.out HL.out.l4 (by have := HF.out; omega) (fun W i hi hb => by
    have h_ := values_Props2 p c w.heap.size i hi W (HH.out.below (BX1.out.trans (hb.mono BX1.out.size))) (blk_below HB1.out hb)
    simpa using h_) (enters_fn Try.func53 rfl rfl)
  refine HC2.mono ?_
  rintro e w2 ⟨V2, cap2, rfl, hv2, hb2⟩
  have HV2 := Aside0.mk (RS.of_R' hv2)
  have HV := Aside0.mk (HV.out.below hb2)
  have BX2 := Aside0.mk (BX1.out.trans (hb2.mono BX1.out.size))
  clear hv2 hb2 HC2 g0 g1 g2 g3 g4
  go_wp2_with fail
  have HI := slices_Contains_bool V2 cap2 (c.f4.map (litV vals)) false _ HV2.out
  rw [List.length_map] at HI
  refine HI.mono ?_
  rintro e w3 ⟨rfl, hb3⟩
  have BX3 := Aside0.mk (BX2.out.trans (hb3.mono BX2.out.size))
  have HV := Aside0.mk (HV.out.below hb3)
  clear hb3 HI
  have hX := HX.out
  generalize (c.f4.map (litV vals)).any (fun x => false == x) = bb at *
  subst hX
  clear HX
  go_wp2
  refine bodyPost_ret (results_tmp3 rfl _ _ _) rfl ?_
  exact ⟨V, cap, by simp only [List.length_map]; rfl, HV.out, BX3.out⟩
end Go.Proofs.Ytchhbkicplgmhaa.PH
