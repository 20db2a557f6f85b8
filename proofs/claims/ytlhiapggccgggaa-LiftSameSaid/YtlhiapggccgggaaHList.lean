/- values.list, values.Next, values.Props. -/
import Derived.Test.YtlhiapggccgggaaHPackE
import Derived.Laws.EntriesVeiled
namespace Go.Proofs.Ytlhiapggccgggaa.PH
open Go.RowKit Go.Proofs.YtlhiapggccgggaaW.PrintWords Go.Proofs.YtlhiapggccgggaaW.PrintLast
set_option linter.unusedVariables false
set_option linter.unusedSimpArgs false

/-- A function that tells the literals of L. -/
def PLit (P : Program) (g : Nat) (lb : Array Value) (L : List Int) (w : World) : Prop :=
  ∀ (W : World) (i : Nat) (hi : i < L.length), Below w.heap.size w W → Calls P g (#[.int .i64 (i : Int)] ++ lb) W fun e w' => e = .returned (.int .i64 L[i]) ∧ Below W.heap.size W w'
/-- A new row of truth values comes back, and OK. -/
def RetVo (w w' : World) (l : List Bool) (e : Ending) : Prop := ∃ A cap, e = .returned (.tuple #[.slice A l.length cap, .int .i64 0]) ∧ Kd.R Kd.bool 4 w' w.heap.size (fun _ => True) (.slice A l.length cap) l ∧ Below w.heap.size w w'
set_option maxHeartbeats 4000000 in
set_option maxRecDepth 100000 in
theorem values_list (p : CP) (c : Circ) (B : Option Addr) (d : Nat) (st : List Bool) (B2 : Option Addr) (d2 : Nat) (ins : List Bool) (L : List Int) (g : Nat) (lb : Array Value) (w : World) (h : RC w p c) (hs : c.Fits) (h1 : RS Kd.bool w B d st) (h2 : RS Kd.bool w B2 d2 ins)
    (hc : check c = 0) (hl1 : st.length = c.f1.length) (hl2 : (ins.length : Int) = c.f0) (hL : ∀ x ∈ L, IsLit x ∧ x / 2 < (valsOf c st ins).length) (hn : L.length ≤ 4000000)
    (hp : PLit Try.prog g lb L w) (eg : ∀ args w, (callFunc g args).run Try.prog w = .ok (.enter g args) w) :
    Calls Try.prog 78 #[cv p c, .slice B st.length d, .slice B2 ins.length d2, .int .i64 (L.length : Int), .func (.func g) #[] lb] w fun e w' => RetVo w w' (L.map (litV (valsOf c st ins))) e := by
  have HA := Aside0.mk (fun W (hb : Below w.heap.size w W) => show Calls Try.prog 97 #[cv p c, .slice B st.length d, .slice B2 ins.length d2] W (fun e w' => RetV W w' (valsOf c st ins) e) from values_All p c B d st B2 d2 ins W (h.below hb) hs (h1.below hb) (h2.below hb) hc hl1 hl2)
  have HL := Aside0.mk hL
  have HN := Aside0.mk hn
  have HP := Aside0.mk hp
  have BX := Aside0.mk (below_alloc (Below.refl w.heap.size w) (.cells #[.int .i64 c.f0, .slice p.A1 c.f1.length p.c1, .slice p.A2 c.f2.length p.c2, .slice p.A3 c.f3.length p.c3, .slice p.A4 c.f4.length p.c4] 26))
  have hu26 := Try.underlying26
  clear h hs h1 h2 hc hl1 hl2 hL hn hp
  generalize valsOf c st ins = vals at *
  go_enter Try.func78, Try.ntmps78
  go_wp2_with fail
  refine (HA.out _ BX.out).mono ?_
  rintro e w1 ⟨V, cap, rfl, hv, hb1⟩
  have BW := Aside0.mk (BX.out.trans (hb1.mono BX.out.size))
  have HV := Aside0.mk hv
  clear HA BX hb1 hv
  have hr0 := Aside0.mk (Kd.R_nil Kd.bool 4 w1 w1.heap.size (fun _ => True))
  go_wp2
  go_loopg [14, 15, 27] L.length (fun gg s14 s15 s27 w2 => ∃ (i : Nat) (O : Option Addr) (oc : Nat), s14 = .slice O i oc ∧ s27 = .int .i64 i ∧ Aside0 (i ≤ L.length ∧ L.length - i ≤ gg) ∧ Aside0 (Below w1.heap.size w1 w2) ∧ Aside0 (Kd.R Kd.bool 4 w2 w1.heap.size (fun _ => True) (.slice O i oc) ((L.take i).map (litV vals))))
  case atStart => exact ⟨0, none, 0, rfl, rfl, ⟨by omega, by omega⟩, ⟨Below.refl _ _⟩, hr0⟩
  case round =>
    obtain ⟨i, O, oc, rfl, rfl, HX, HB, HR⟩ := hrel
    by_cases hlt : i < L.length
    · have hy := HL.out L[i] (List.getElem_mem hlt)
      have HT := Aside0.mk (show (L.take (i + 1)).map (litV vals) = (L.take i).map (litV vals) ++ [litV vals L[i]] by rw [take_at hlt, List.map_append]; rfl)
      have HLT := Aside0.mk hlt
      have hcall := HP.out wr i hlt (BW.out.trans (HB.out.mono BW.out.size))
      generalize L[i] = y at *
      go_wp2_with fail
      refine hcall.mono ?_
      rintro e w3 ⟨rfl, hb3⟩
      clear hcall
      have HB3 := Aside0.mk (HB.out.trans (hb3.mono HB.out.size))
      have HR3 := Aside0.mk (Kd.R_below HR.out hb3)
      clear hb3 HR HB
      go_wp2_with fail
      refine (values_of V cap vals y _ (HV.out.below HB3.out) hy.1 hy.2).mono ?_
      rintro e w4 ⟨rfl, hb3⟩
      have HB4 := Aside0.mk (HB3.out.trans (hb3.mono HB3.out.size))
      have HR4 := Aside0.mk (Kd.R_below HR3.out hb3)
      clear hb3 HR3 HB3 hy
      generalize litV vals y = bb at *
      have HJ := Aside0.mk (show ((L.take i).map (litV vals) ++ [bb]).length = i + 1 by rw [List.length_append, List.length_map, List.length_take, Nat.min_eq_left (Nat.le_of_lt HLT.out)]; rfl)
      go_wp2_with (first | (at_builtin; go_loud (refine Kd.R_append Kd.bool (w0 := w1) w1.heap.size rfl (.tmp 30) (.tmp 36) 46 4 (.bool false) 1 rfl Try.underlying46 infoBool rfl (by decide) (by omega) (.slice O i oc) ((L.take i).map (litV vals)) bb [.bool bb] (fun _ => True) (fun _ => False) rfl rfl ?aP (fun _ h => h.elim) ?aF ?aO ?aB ?aS ?aL ?_); (case aP => exact rfl); (case aF => exact fun _ _ => trivial); (case aO => exact HR4.out); (case aB => exact HB4.out); (case aS => exact HB4.out.size); (case aL => rw [List.length_map, List.length_take]; have := HN.out; have := Nat.min_le_right i L.length; omega); intro v1 w6 ho hb hg hat; obtain ⟨V5, cap5, rfl, _, _⟩ := Kd.R_reads ho; rw [HJ.out] at ho ⊢))
      have HR6 := Aside0.mk (show Kd.R Kd.bool 4 w6 w1.heap.size (fun _ => True) (.slice V5 (i + 1) cap5) ((L.take (i + 1)).map (litV vals)) from by
        rw [HT.out]
        have h_ := ho
        exact h_)
      have HB6 := Aside0.mk hb
      clear ho hb hg hat HB4 HR4
      go_roundg (L.length - (i + 1))
      case measure => have := HX.out; have := HLT.out; omega
      case rel => exact ⟨i + 1, V5, cap5, rfl, val_step HLT.out (by have := HN.out; omega), ⟨HLT.out, by have := HX.out; omega⟩, HB6, HR6⟩
    · have hi : i = L.length := by have := HX.out.1; omega
      subst hi
      have hr := HR.out
      rw [List.take_length] at hr
      have HS := Aside0.mk hr
      clear HR hr
      go_wp2
      refine bodyPost_ret (results_tmp2 rfl _ _ _) rfl ?_
      exact ⟨O, oc, by rw [List.length_map]; rfl, by rw [List.length_map]; exact Kd.R_lower HS.out BW.out.size, BW.out.trans (HB.out.mono BW.out.size)⟩
/-! ### values.Next -/
set_option maxHeartbeats 2000000 in
set_option maxRecDepth 100000 in
theorem values_Next1 (p : CP) (c : Circ) (g : Nat) (i : Nat) (hi : i < c.f1.length) (w : World) (h : RC w p c) (hg : w.heap[g]? = some (.cells #[.int .i64 c.f0, .slice p.A1 c.f1.length p.c1, .slice p.A2 c.f2.length p.c2, .slice p.A3 c.f3.length p.c3, .slice p.A4 c.f4.length p.c4] 26 (0, 0))) :
    Calls Try.prog 82 #[.int .i64 (i : Int), .pointer (some ⟨g, 0, none⟩)] w fun e w' => e = .returned (.int .i64 c.f1[i].f0) ∧ Below w.heap.size w w' := by
  have hu26 := Try.underlying26
  have hu65 := Try.underlying107
  obtain ⟨ad, e1, hx, hy⟩ := at_latch h.s1.r i hi
  obtain ⟨g0, g1, g2, g3, g4⟩ := (blk5w hg).1
  generalize c.f1[i] = y at *
  rw [e1] at g1
  go_enter Try.func82, Try.ntmps82
  go_wp2
  go_ret
  exact ⟨rfl, Below.refl _ _⟩
set_option maxHeartbeats 2000000 in
set_option maxRecDepth 100000 in
theorem values_Props1 (p : CP) (c : Circ) (g : Nat) (i : Nat) (hi : i < c.f3.length) (w : World) (h : RC w p c) (hg : w.heap[g]? = some (.cells #[.int .i64 c.f0, .slice p.A1 c.f1.length p.c1, .slice p.A2 c.f2.length p.c2, .slice p.A3 c.f3.length p.c3, .slice p.A4 c.f4.length p.c4] 26 (0, 0))) :
    Calls Try.prog 79 #[.int .i64 (i : Int), .pointer (some ⟨g, 0, none⟩)] w fun e w' => e = .returned (.int .i64 c.f3[i]) ∧ Below w.heap.size w w' := by
  have hu26 := Try.underlying26
  obtain ⟨ad, e1, hx⟩ := at_int h.s3.r i hi
  obtain ⟨g0, g1, g2, g3, g4⟩ := (blk5w hg).1
  generalize c.f3[i] = y at *
  rw [e1] at g3
  go_enter Try.func79, Try.ntmps79
  go_wp2
  go_ret
  exact ⟨rfl, Below.refl _ _⟩
set_option maxHeartbeats 2000000 in
set_option maxRecDepth 100000 in
theorem values_Props2 (p : CP) (c : Circ) (g : Nat) (i : Nat) (hi : i < c.f4.length) (w : World) (h : RC w p c) (hg : w.heap[g]? = some (.cells #[.int .i64 c.f0, .slice p.A1 c.f1.length p.c1, .slice p.A2 c.f2.length p.c2, .slice p.A3 c.f3.length p.c3, .slice p.A4 c.f4.length p.c4] 26 (0, 0))) :
    Calls Try.prog 80 #[.int .i64 (i : Int), .pointer (some ⟨g, 0, none⟩)] w fun e w' => e = .returned (.int .i64 c.f4[i]) ∧ Below w.heap.size w w' := by
  have hu26 := Try.underlying26
  obtain ⟨ad, e1, hx⟩ := at_int h.s4.r i hi
  obtain ⟨g0, g1, g2, g3, g4⟩ := (blk5w hg).1
  generalize c.f4[i] = y at *
  rw [e1] at g4
  go_enter Try.func80, Try.ntmps80
  go_wp2
  go_ret
  exact ⟨rfl, Below.refl _ _⟩
/-- The literals of a circuit that is right. -/
structure Lits (c : Circ) : Prop where
  l1 : ∀ x ∈ c.f1, IsLit x.f0 ∧ x.f0 / 2 < 1 + c.f0 + c.f1.length + c.f2.length
  l3 : ∀ x ∈ c.f3, IsLit x ∧ x / 2 < 1 + c.f0 + c.f1.length + c.f2.length
  l4 : ∀ x ∈ c.f4, IsLit x ∧ x / 2 < 1 + c.f0 + c.f1.length + c.f2.length
theorem out_lit {s l : Int} (hs : s ≤ 1001) (h : gOut s l = false) : IsLit l ∧ l / 2 < s := by
  unfold gOut at h
  simp only [Bool.or_eq_false_iff, decide_eq_false_iff_not] at h
  exact ⟨⟨by omega, by omega⟩, by omega⟩
theorem any_no {α : Type} {p : α → Bool} {l : List α} (h : ¬ l.any p = true) : ∀ x ∈ l, p x = false := fun x hx => by
  cases hp : p x
  · rfl
  · exact absurd (List.any_eq_true.2 ⟨x, hx, hp⟩) h
theorem check_lits {c : Circ} (h : check c = 0) : Lits c ∧ ∀ x ∈ c.f1, 0 ≤ x.f1 ∧ x.f1 ≤ 2 := by
  unfold check gCheck at h
  split at h
  · cases h
  split at h
  · cases h
  split at h
  · cases h
  split at h
  · cases h
  split at h
  · cases h
  split at h
  · cases h
  split at h
  · cases h
  rename_i h1 h2 h3 h4 h5 h6 h7
  have hS : 1 + c.f0 + (c.f1.length : Int) + (c.f2.length : Int) ≤ 1001 := by omega
  refine ⟨⟨fun x hx => ?_, fun x hx => out_lit hS (any_no h5 x hx), fun x hx => out_lit hS (any_no h6 x hx)⟩, fun x hx => ?_⟩
  · have h8 := any_no h7 x hx
    unfold gWrong at h8
    simp only [Bool.or_eq_false_iff] at h8
    exact out_lit hS h8.1.1
  · have h8 := any_no h7 x hx
    unfold gWrong at h8
    simp only [Bool.or_eq_false_iff, decide_eq_false_iff_not] at h8
    omega
theorem check_few6 {c : Circ} (h : check c = 0) : c.f3.length ≤ 100 ∧ c.f4.length ≤ 100 := by
  unfold check gCheck at h
  split at h
  · cases h
  split at h
  · cases h
  split at h
  · cases h
  by_cases q : 100 < mx (c.f3.length : Int) (c.f4.length : Int)
  · rw [if_pos q] at h; cases h
  · unfold mx at q
    split at q <;> constructor <;> omega
set_option maxHeartbeats 4000000 in
set_option maxRecDepth 100000 in
theorem values_Next (p : CP) (c : Circ) (B : Option Addr) (d : Nat) (st : List Bool) (B2 : Option Addr) (d2 : Nat) (ins : List Bool) (w : World) (h : RC w p c) (hs : c.Fits) (h1 : RS Kd.bool w B d st) (h2 : RS Kd.bool w B2 d2 ins)
    (hc : check c = 0) (hl1 : st.length = c.f1.length) (hl2 : (ins.length : Int) = c.f0) (hL : Lits c) :
    Calls Try.prog 54 #[cv p c, .slice B st.length d, .slice B2 ins.length d2] w fun e w' => RetVo w w' (nextOf c st ins) e := by
  have hlen : ((valsOf c st ins).length : Int) = 1 + c.f0 + c.f1.length + c.f2.length := by
    unfold valsOf
    rw [truthFrom_len]
    simp only [List.length_cons, List.length_append]
    omega
  have BX := Aside0.mk (below_alloc (Below.refl w.heap.size w) (.cells #[.int .i64 c.f0, .slice p.A1 c.f1.length p.c1, .slice p.A2 c.f2.length p.c2, .slice p.A3 c.f3.length p.c3, .slice p.A4 c.f4.length p.c4] 26))
  have HB := Aside0.mk (blk_new w (.cells #[.int .i64 c.f0, .slice p.A1 c.f1.length p.c1, .slice p.A2 c.f2.length p.c2, .slice p.A3 c.f3.length p.c3, .slice p.A4 c.f4.length p.c4] 26))
  have HC := Aside0.mk (fun W (hb : Below w.heap.size w W) (hp : PLit Try.prog 82 #[.pointer (some ⟨w.heap.size, 0, none⟩)] (c.f1.map (fun x => x.f0)) W) => values_list p c B d st B2 d2 ins (c.f1.map (fun x => x.f0)) 82 #[.pointer (some ⟨w.heap.size, 0, none⟩)] W (h.below hb) hs (h1.below hb) (h2.below hb) hc hl1 hl2
    (fun x hx => by
      obtain ⟨y, hy, rfl⟩ := List.mem_map.1 hx
      have h_ := hL.l1 y hy
      exact ⟨h_.1, by omega⟩) (by rw [List.length_map]; exact hs.h1) hp (enters_fn Try.func82 rfl rfl))
  have HH := Aside0.mk h
  have hu26 := Try.underlying26
  have hmf : ∀ (fn : Fn) (first cap : Array Value) (w : World), (Instr.makeFunc fn first cap).run Try.prog w = .ok (.func fn first cap) w := fun _ _ _ _ => rfl
  have HX : Aside0 (nextOf c st ins = (c.f1.map (fun x => x.f0)).map (litV (valsOf c st ins))) := ⟨by unfold nextOf; rw [List.map_map]; rfl⟩
  rw [HX.out]
  obtain ⟨g0, g1, g2, g3, g4⟩ := (blk5w HB.out).1
  clear h hs h1 h2 hc hl1 hl2 hL hlen
  go_enter Try.func54, Try.ntmps54
  go_wp2_with fail
  have HC1 := HC.out _ BX.out (fun W i hi hb => by
    have hi2 : i < c.f1.length := by rw [List.length_map] at hi; exact hi
    have h_ := values_Next1 p c w.heap.size i hi2 W (HH.out.below (BX.out.trans (hb.mono BX.out.size))) (blk_below HB.out hb)
    simpa using h_)
  rw [List.length_map] at HC1
  refine HC1.mono ?_
  rintro e w1 ⟨V, cap, rfl, hv, hb1⟩
  have HV := Aside0.mk hv
  have HB1 := Aside0.mk hb1
  clear hv hb1 HC1
  go_wp2
  refine bodyPost_ret (results_tmp2 rfl _ _ _) rfl ?_
  exact ⟨V, cap, by simp only [List.length_map]; rfl, Kd.R_lower HV.out BX.out.size, BX.out.trans (HB1.out.mono BX.out.size)⟩
end Go.Proofs.Ytlhiapggccgggaa.PH
