/- cone.Of. -/
import Derived.Test.YtiafojcbllbepaaHConeV
import Derived.Test.YtiafojcbllbepaaHConcat
import Derived.BigQuiet
import Derived.Test.YtiafojcbllbepaaHConeIn
namespace Go.Proofs.Ytiafojcbllbepaa.PH
open Go.RowKit Go.Proofs.YtiafojcbllbepaaW.PrintWords Go.Proofs.YtiafojcbllbepaaW.PrintLast
set_option linter.unusedVariables false
set_option linter.unusedSimpArgs false

/-- What cone.Of returns. -/
noncomputable def ofC (c : Circ) : List Int × Int := if check c = 0 then (coneV c, 0) else ([], check c)
def RetLE (w w' : World) (r : List Int × Int) (e : Ending) : Prop := ∃ A cap, e = .returned (.tuple #[.slice A r.1.length cap, .int .i64 r.2]) ∧ Kd.R (Kd.int .i64) 3 w' w.heap.size (fun _ => True) (.slice A r.1.length cap) r.1 ∧ Below w.heap.size w w'
set_option maxHeartbeats 4000000 in
set_option maxRecDepth 100000 in
theorem cone_Of_bad (p : CP) (c : Circ) (w : World) (h : RC w p c) (hs : c.Fits) (hck : check c ≠ 0) :
    Calls Try.prog 10 #[cv p c] w fun e w' => RetLE w w' ([], check c) e := by
  have HV := Aside0.mk (fun W (hb : Below w.heap.size w W) => gates_Vars p c W (h.below hb) hs)
  have hu26 := Try.underlying26
  have c1 : (check c != 0) = true := bne_iff_ne.mpr hck
  have HC := Aside0.mk hck
  clear h hs hck
  go_enter Try.func10, Try.ntmps10
  go_wp2_with fail
  refine (HV.out _ (below_alloc (Below.refl _ _) _)).mono ?_
  rintro e w1 ⟨rfl, hb1⟩
  rw [if_neg HC.out]
  have HB := Aside0.mk ((below_alloc (Below.refl w.heap.size w) (.cells #[.int .i64 c.f0, .slice p.A1 c.f1.length p.c1, .slice p.A2 c.f2.length p.c2, .slice p.A3 c.f3.length p.c3, .slice p.A4 c.f4.length p.c4] 26)).trans (hb1.mono (by simp)))
  clear hb1
  go_wp2
  go_ret2
  exact ⟨none, 0, rfl, Kd.R_nil _ _ _ _ _, HB.out⟩
theorem check_fewC {c : Circ} (h : check c = 0) : c.f3.length ≤ 100 ∧ c.f4.length ≤ 100 := by
  unfold check gCheck at h
  split at h
  · cases h
  split at h
  · cases h
  split at h
  · cases h
  split at h
  · cases h
  rename_i q
  unfold mx at q
  split at q <;> omega
/-- Work that is left. -/
structure Left (c : Circ) (s : List Bool × List Int) : Prop where
  w : Work c s.1 s.2 (fun _ => False)
  r : ∀ l ∈ c.f3 ++ c.f4, Got s.1 l
  m : s.1.count false + s.2.length ≤ sizeC c + 1
theorem zeros_work (c : Circ) : Work c (List.replicate (sizeC c + 1) false) [] (fun _ => False) := by
  have hz : ∀ v, (List.replicate (sizeC c + 1) false).getD v false = true → False := fun v hv => by
    rw [List.getD_eq_getElem?_getD, List.getElem?_replicate] at hv
    split at hv <;> simp at hv
  exact ⟨by simp, fun v hv => (hz v hv).elim, fun t ht => by simp at ht, fun v hv => (hz v hv).elim⟩
theorem start_k {c : Circ} (hi : Inside c) (k : Nat) : (((c.f3 ++ c.f4).take k).foldl visitS (List.replicate (sizeC c + 1) false, [])).2.length ≤ sizeC c + 1 := by
  have h := visits_work (ex := fun _ => False) ((c.f3 ++ c.f4).take k) (List.replicate (sizeC c + 1) false, []) (zeros_work c) (fun l hl => ⟨(hi.hp l (List.mem_of_mem_take hl)).1, (hi.hp l (List.mem_of_mem_take hl)).2, fun hp => .root (List.mem_of_mem_take hl) hp⟩)
  have h2 := h.2.2.2
  simp only [List.count_replicate_self, List.length_nil] at h2
  omega
theorem start_left {c : Circ} (hi : Inside c) : Left c ((c.f3 ++ c.f4).foldl visitS (List.replicate (sizeC c + 1) false, [])) := by
  have h := visits_work (ex := fun _ => False) (c.f3 ++ c.f4) (List.replicate (sizeC c + 1) false, []) (zeros_work c) (fun l hl => ⟨(hi.hp l hl).1, (hi.hp l hl).2, fun hp => .root hl hp⟩)
  refine ⟨h.1, h.2.1, ?_⟩
  have h2 := h.2.2.2
  simp only [List.count_replicate_self, List.length_nil] at h2
  omega
theorem Left.pop {c : Circ} (hi : Inside c) {seen : List Bool} {todo : List Int} {v : Int} (h : Left c (seen, todo ++ [v])) :
    Left c (popS c (seen, todo) v) ∧ (popS c (seen, todo) v).1.count false + (popS c (seen, todo) v).2.length = seen.count false + todo.length ∧ 0 < v ∧ v.toNat ≤ sizeC c ∧ seen.length = sizeC c + 1 ∧ seen.count false + todo.length ≤ sizeC c := by
  have hv := h.w.ht v (by simp)
  have h1 : Work c (popS c (seen, todo) v).1 (popS c (seen, todo) v).2 (fun _ => False) ∧ (popS c (seen, todo) v).1.count false + (popS c (seen, todo) v).2.length = seen.count false + todo.length := pop_work hi h.w
  have hm : seen.count false + (todo ++ [v]).length ≤ sizeC c + 1 := h.m
  simp only [List.length_append, List.length_singleton] at hm
  have h3 : Work c seen todo (fun u => u = v.toNat) := ⟨h.w.hl, h.w.hr, fun t ht => h.w.ht t (List.mem_append_left _ ht), fun u hu => by
    rcases h.w.hc u hu with h_ | h_ | h_
    · rcases List.mem_append.1 h_ with h2 | h2
      · exact Or.inl h2
      · refine Or.inr (Or.inl ?_)
        have := List.mem_singleton.1 h2
        omega
    · exact h_.elim
    · exact Or.inr (Or.inr h_)⟩
  have h2 := visits_work (gateReads c v.toNat ++ latReads c v.toNat) (seen, todo) h3 (fun l hl => ⟨(hi.all hl).1, (hi.all hl).2, fun hp => (h.w.hr _ hv.2).step hl hp⟩)
  refine ⟨⟨h1.1, fun l hl => ?_, by rw [h1.2]; omega⟩, h1.2, hv.1, (h.w.hr _ hv.2).le hi, h.w.hl, by omega⟩
  rcases h.r l hl with h_ | h_
  · exact Or.inl h_
  · exact Or.inr (h2.2.2.1 _ h_)
/-- One visit keeps the lengths. -/
theorem visit_len (s : List Bool × List Int) (l : Int) : (visitS s l).1.length = s.1.length ∧ (visitS s l).2.length ≤ s.2.length + 1 := by
  unfold visitS
  split
  · exact ⟨by simp, by simp⟩
  · exact ⟨rfl, by omega⟩
theorem pop_gate {c : Circ} {s : List Bool × List Int} {v m : Nat} (hv : v = c.f0.toNat + c.f1.length + 1 + m) (hm : m < c.f2.length) : popS c s (v : Int) = visitS (visitS s (c.f2[m]).f0) (c.f2[m]).f1 := by
  have h1 : gateReads c v = [(c.f2[m]).f0, (c.f2[m]).f1] := by
    unfold gateReads
    rw [if_pos (by omega), show v - (c.f0.toNat + c.f1.length + 1) = m by omega, List.getElem?_eq_getElem hm]; rfl
  have h2 : latReads c v = [] := by
    unfold latReads
    rw [if_pos (by omega), List.getElem?_eq_none (by omega)]; rfl
  unfold popS
  rw [Int.toNat_natCast, h1, h2]; rfl
theorem pop_latch {c : Circ} {s : List Bool × List Int} {v m : Nat} (hv : v = c.f0.toNat + 1 + m) (hm : m < c.f1.length) : popS c s (v : Int) = visitS s (c.f1[m]).f0 := by
  have h1 : gateReads c v = [] := by
    unfold gateReads
    rw [if_neg (by omega)]
  have h2 : latReads c v = [(c.f1[m]).f0] := by
    unfold latReads
    rw [if_pos (by omega), show v - (c.f0.toNat + 1) = m by omega, List.getElem?_eq_getElem hm]; rfl
  unfold popS
  rw [Int.toNat_natCast, h1, h2]; rfl
theorem pop_input {c : Circ} {s : List Bool × List Int} {v : Nat} (hv : v < c.f0.toNat + 1) : popS c s (v : Int) = s := by
  have h1 : gateReads c v = [] := by
    unfold gateReads
    rw [if_neg (by omega)]
  have h2 : latReads c v = [] := by
    unfold latReads
    rw [if_neg (by omega)]
  unfold popS
  rw [Int.toNat_natCast, h1, h2]; rfl
theorem ones_snoc : ∀ (l : List Bool) (b : Bool) (i : Int), onesFrom (l ++ [b]) i = onesFrom l i ++ if b then [i + l.length] else []
  | [], b, i => by cases b <;> simp [onesFrom]
  | x :: xs, b, i => by
    have h := ones_snoc xs b (i + 1)
    cases x <;> simp only [List.cons_append, onesFrom, if_true, if_false, Bool.false_eq_true, h, List.length_cons] <;> cases b <;> simp <;> omega
theorem two_rows {α : Type} {d : Kd α} {e g : Nat} {W : World} {A3 A4 : Option Addr} {k3 k4 : Nat} {l3 l4 : List α} {t : Nat} (hb : W.heap[g]? = some (.cells #[.slice A3 l3.length k3, .slice A4 l4.length k4] t (0, 0))) (h3 : RS d W A3 k3 l3) (h4 : RS d W A4 k4 l4) : RS (Kd.slice e d) W (some ⟨g, 0, none⟩) 2 [l3, l4] :=
  RS.row (by simp) (by simp) (fun j p hj => by
    rcases j with _ | _ | j
    · have e : l3 = p := by simpa using hj
      subst e
      exact ⟨[.slice A3 l3.length k3], rfl, ⟨A3, k3, rfl, h3.h, h3.r⟩, fun i u hu => by
        cases i with
        | zero => cases hu; simpa using blk_cell hb 0
        | succ i => simp at hu⟩
    · have e : l4 = p := by simpa using hj
      subst e
      exact ⟨[.slice A4 l4.length k4], rfl, ⟨A4, k4, rfl, h4.h, h4.r⟩, fun i u hu => by
        cases i with
        | zero => cases hu; exact (blk_cell hb 1).trans rfl
        | succ i => simp at hu⟩
    · simp at hj)
set_option maxHeartbeats 4000000 in
set_option maxRecDepth 100000 in
theorem cone_Of_ok (p : CP) (c : Circ) (w : World) (h : RC w p c) (hs : c.Fits) (hck : check c = 0) :
    Calls Try.prog 10 #[cv p c] w fun e w' => RetLE w w' (coneV c, 0) e := by
  have HV := Aside0.mk (fun W (hb : Below w.heap.size w W) => gates_Vars p c W (h.below hb) hs)
  have hu26 := Try.underlying26
  have hbd := gCheck_ok hck
  have hin := Aside0.mk (inside_of hck)
  have hn : c.f0 + (c.f1.length : Int) + c.f2.length = (sizeC c : Int) := by unfold sizeC; have := hbd.1; omega
  have HN := Aside0.mk (show sizeC c ≤ 1000 by have := hbd.2.2; omega)
  have HC := Aside0.mk hck
  have HH := Aside0.mk h
  have hmf : ∀ (fn : Fn) (first cap : Array Value) (w : World), (Instr.makeFunc fn first cap).run Try.prog w = .ok (.func fn first cap) w := fun _ _ _ _ => rfl
  have hw1 : wrap64 ((sizeC c : Int) + 1) = ((sizeC c + 1 : Nat) : Int) := by have := HN.out; rw [wrap_in (by omega) (by omega)]; omega
  obtain ⟨A1, k1, A2, k2, A3, k3, A4, k4⟩ := p
  clear h hs hck
  go_enter Try.func10, Try.ntmps10
  go_wp2_with fail
  refine (HV.out _ (below_alloc (Below.refl _ _) _)).mono ?_
  rintro e w1 ⟨rfl, hb1⟩
  rw [if_pos HC.out, hn, HC.out]
  have E1 := Aside0.mk (blk_below (blk_new w (.cells #[.int .i64 c.f0, .slice A1 c.f1.length k1, .slice A2 c.f2.length k2, .slice A3 c.f3.length k3, .slice A4 c.f4.length k4] 26)) hb1)
  have HB1 := Aside0.mk ((below_alloc (Below.refl w.heap.size w) (.cells #[.int .i64 c.f0, .slice A1 c.f1.length k1, .slice A2 c.f2.length k2, .slice A3 c.f3.length k3, .slice A4 c.f4.length k4] 26)).trans (hb1.mono (by simp)))
  have HL1 := Aside0.mk (blk_lt E1.out)
  clear hb1 HV
  go_upto_region 5 with (first | (refine Parts.makeL (Parts.start w1) Kd.bool 4 flat_bool rfl (N := 27) rfl 59 (.tmp 26) (.tmp 26) rfl (sizeC c + 1) rfl rfl Try.underlying59 (.bool false) 1 infoBool rfl (by decide) (by decide) false rfl (by have := HN.out; omega) ?_; intro g cap w2 hgw h2; have S2 := Aside0.mk h2; have HG := Aside0.mk hgw; clear h2 hgw))
  have S3 := Aside0.mk (S2.out.new 59 #[.slice (some ⟨g, 0, none⟩) (sizeC c + 1) cap])
  generalize w2.heap.size = gS at *
  generalize w2.alloc (.cells #[.slice (some ⟨g, 0, none⟩) (sizeC c + 1) cap] 59) = w3 at *
  have E3 := Aside0.mk ((S3.out.B.block _ HL1.out).trans E1.out)
  obtain ⟨c0, c1, c2, c3, c4⟩ := blk5 E3.out
  go_quiet (fail)
  have S4 := Aside0.mk ((S3.out.below (pw_below_drewN (Below.refl _ _) nq)).new 24 #[.slice none 0 0])
  clear c0 c1 c2 c3 c4 S2 S3 E3
  generalize w3.drewN nq = w4 at *
  go_upto_region 8 with (fail)
  generalize w4.heap.size = gT at *
  generalize w4.alloc (.cells #[.slice none 0 0] 24) = w5 at *
  have E5 := Aside0.mk ((S4.out.B.block _ HL1.out).trans E1.out)
  obtain ⟨c0, c1, c2, c3, c4⟩ := blk5 E5.out
  have HB5 := Aside0.mk (show Below w.heap.size w w5 from HB1.out.trans (S4.out.B.mono HB1.out.size))
  have hlen3 : (c.f3 ++ c.f4).length ≤ 4000000 := by have := check_fewC HC.out; rw [List.length_append]; omega
  go_wp2_with fail
  refine (slices_Concat_int _ _ [c.f3, c.f4] _ (two_rows (by simpa using blk_new w5 (.cells #[.slice A3 c.f3.length k3, .slice A4 c.f4.length k4] 24)) ((HH.out.s3.below (HB5.out.mono (Nat.le_refl _))).below (below_alloc (Below.refl _ _) _)) ((HH.out.s4.below HB5.out).below (below_alloc (Below.refl _ _) _))) (by simpa using hlen3) (by simp)).mono ?_
  rintro e w6 ⟨V, cap6, rfl, hR6, hb6⟩
  rw [show ([c.f3, c.f4] : List (List Int)).flatten = c.f3 ++ c.f4 by simp] at hR6 ⊢
  have S6 := Aside0.mk (show Parts w1.heap.size w1 w6 (visP w1.heap.size gS gT g cap (sizeC c + 1) (List.replicate (sizeC c + 1) false, []) (.slice none 0 0) [pF w1.heap.size (Kd.int .i64) 3 (.slice V (c.f3 ++ c.f4).length cap6) (c.f3 ++ c.f4)]) from
    ((((S4.out.alloc _).freshF flat_int hb6 hR6).nil (Kd.int .i64) 3).take [3, 2, 4, 0, 1] 5 (by simp) (by decide) (by decide)))
  clear S4 hR6 hb6 c0 c1 c2 c3 c4 hlen3
  have HP := Aside0.mk hin.out.hp
  have HQ := Aside0.mk (start_k hin.out)
  have HS := Aside0.mk (start_left hin.out)
  have HLL := Aside0.mk (show (c.f3 ++ c.f4).length ≤ 9223372036854775807 from (S6.out.rowF 4 rfl).max)
  generalize c.f3 ++ c.f4 = L at *
  obtain ⟨z0, hz0⟩ : ∃ z0, (List.replicate (sizeC c + 1) false, ([] : List Int)) = z0 := ⟨_, rfl⟩
  have S7 := Aside0.mk (show Parts w1.heap.size w1 w6 (visP w1.heap.size gS gT g cap (sizeC c + 1) z0 (.slice none z0.2.length 0) [pF w1.heap.size (Kd.int .i64) 3 (.slice V L.length cap6) L]) from by rw [← hz0]; exact S6.out)
  rw [hz0] at HQ HS
  clear S6 hz0
  generalize w6 = w7 at *
  go_wp2
  go_loopg [46] L.length (fun gg s46 wr => ∃ (k : Nat) (A : Option Addr) (d : Nat), s46 = .int .i64 k ∧ Aside0 (k ≤ L.length ∧ L.length - k ≤ gg) ∧ Aside0 (Parts w1.heap.size w1 wr (visP w1.heap.size gS gT g cap (sizeC c + 1) ((L.take k).foldl visitS z0) (.slice A ((L.take k).foldl visitS z0).2.length d) [pF w1.heap.size (Kd.int .i64) 3 (.slice V L.length cap6) L])))
  case atStart => exact ⟨0, none, 0, rfl, ⟨by omega, by omega⟩, S7⟩
  case round =>
    clear S7
    obtain ⟨k, A, d, rfl, HK, S⟩ := hrel
    by_cases hlt : k < L.length
    · obtain ⟨ad, e, hc⟩ := at_int (S.out.rowF 4 rfl).r k hlt
      cases e
      have hp := HP.out _ (List.getElem_mem hlt)
      have HPK := Aside0.mk hp
      have HST := Aside0.mk (show (L.take (k + 1)).foldl visitS z0 = visitS ((L.take k).foldl visitS z0) L[k] by rw [take_at hlt, List.foldl_append]; rfl)
      have HKK := Aside0.mk hlt
      clear hp
      generalize L[k] = l at *
      go_wp2_with fail
      refine (cone_visit _ gS gT g cap _ _ _ _ l _ _ _ S.out HPK.out.1 (by have h1 := HPK.out; unfold varOf at h1; have := HN.out; omega) (by have := HPK.out; omega) (by have := HN.out; omega) (by have := HQ.out k; have := HN.out; omega)).mono ?_
      rintro e w8 ⟨rfl, A8, d8, h8⟩
      rw [← HST.out] at h8
      have S8 := Aside0.mk h8
      clear h8
      go_wp2
      go_roundg (L.length - (k + 1))
      case measure => have := HK.out; have := HKK.out; omega
      case rel => exact ⟨k + 1, A8, d8, val_step HKK.out (HLL.out), ⟨HKK.out, by have := HK.out; omega⟩, S8⟩
    · have hk : k = L.length := by have := HK.out; omega
      subst hk
      rw [List.take_length] at S
      have HLW := Aside0.mk HS.out
      generalize L.foldl visitS z0 = s1 at *
      clear HQ HP HS hlt
      have HM1 := Aside0.mk (HLW.out.m)
      go_wp2
      go_loopg [] (sizeC c + 1) (fun gg wr => ∃ (s : List Bool × List Int) (A : Option Addr) (d : Nat), Aside0 (s.1.count false + s.2.length ≤ gg) ∧ Aside0 (Left c s) ∧ Aside0 (Parts w1.heap.size w1 wr (visP w1.heap.size gS gT g cap (sizeC c + 1) s (.slice A s.2.length d) [pF w1.heap.size (Kd.int .i64) 3 (.slice V L.length cap6) L])))
      case atStart => exact ⟨s1, A, d, HM1, HLW, S⟩
      case round =>
        clear S HLW HM1
        obtain ⟨⟨seen, todo⟩, A, d, HM, HW, S⟩ := hrel
        obtain rfl | ⟨t, v, rfl⟩ : todo = [] ∨ ∃ t v, todo = t ++ [v] := by
          rcases List.eq_nil_or_concat todo with h | ⟨t, v, h⟩
          · exact .inl h
          · exact .inr ⟨t, v, by rw [h, List.concat_eq_append]⟩
        · obtain ⟨cT, fT⟩ := S.out.cell 1 rfl 0 rfl
          obtain ⟨cS, fS⟩ := S.out.cell 0 rfl 0 rfl
          have ht : Tells (sizeC c) (Reach c) seen := work_done HW.out.w HW.out.r
          have hsn := ht.unique (cone_tells hin.out)
          subst hsn
          have S0 := Aside0.mk ((S.out.nil (Kd.int .i64) 3).take [0, 3] 6 (by simp) (by decide) (by decide))
          have HLC := Aside0.mk (show (coneB c).length = sizeC c + 1 by simp [coneB])
          have HE := Aside0.mk (show coneV c = onesFrom (coneB c) 0 from rfl)
          clear S ht HM HW
          generalize coneB c = is at *
          go_wp2
          go_loopg [14, 108] (sizeC c + 1) (fun gg s14 s108 wr => ∃ (k n : Nat) (V : Option Addr) (cp : Nat), s14 = .slice V n cp ∧ s108 = .int .i64 k ∧ Aside0 (k ≤ sizeC c + 1 ∧ sizeC c + 1 - k ≤ gg) ∧ Aside0 (n = (onesFrom (is.take k) 0).length ∧ n ≤ k) ∧ Aside0 (Parts w1.heap.size w1 wr [pF w1.heap.size (Kd.int .i64) 3 (.slice V n cp) (onesFrom (is.take k) 0), pF w1.heap.size Kd.bool 4 (.slice (some ⟨g, 0, none⟩) (sizeC c + 1) cap) is]))
          case atStart => exact ⟨0, 0, none, 0, rfl, rfl, ⟨by omega, by omega⟩, ⟨rfl, Nat.le_refl _⟩, S0⟩
          case round =>
            clear S0
            obtain ⟨k, n, V, cp, rfl, rfl, HK, HL, S⟩ := hrel
            by_cases hlt : k < sizeC c + 1
            · obtain ⟨cK, fK⟩ := S.out.cellRow 1 rfl false k hlt
              have hli : k < is.length := by rw [HLC.out]; exact hlt
              have hgk : is.getD k false = is[k] := by rw [List.getD_eq_getElem?_getD, List.getElem?_eq_getElem hli]; rfl
              rw [hgk] at cK
              have HT := Aside0.mk (show onesFrom (is.take (k + 1)) 0 = onesFrom (is.take k) 0 ++ if is[k] then [(k : Int)] else [] by
                rw [take_at hli, ones_snoc, List.length_take, Nat.min_eq_left (by omega)]; simp)
              have HKK := Aside0.mk hlt
              have hki : (k : Int) < ((sizeC c + 1 : Nat) : Int) := by omega
              clear hgk
              generalize is[k] = bk at *
              cases bk with
              | false =>
                go_wp2
                go_roundg (sizeC c + 1 - (k + 1))
                case measure => have := HK.out; have := HKK.out; omega
                case rel => exact ⟨k + 1, n, V, cp, rfl, rfl, ⟨HKK.out, by have := HK.out; omega⟩, ⟨by rw [HT.out]; simp; exact HL.out.1, by have := HL.out.2; omega⟩, ⟨by rw [HT.out]; simpa using S.out⟩⟩
              | true =>
                go_wp2_with (first | (at_builtin; refine Parts.appendL S.out 0 rfl flat_int rfl (.tmp 114) (.tmp 116) 24 (.int .i64 0) 8 rfl Try.underlying24 infoInt rfl (by decide) (by decide) (k : Int) [.int .i64 (k : Int)] rfl rfl rfl (by have := HL.out; have := HKK.out; have := HN.out; omega) ?_; intro V8 cap8 w8 h8; have S8 := Aside0.mk h8; clear h8))
                go_roundg (sizeC c + 1 - (k + 1))
                case measure => have := HK.out; have := HKK.out; omega
                case rel => exact ⟨k + 1, _, V8, cap8, rfl, rfl, ⟨HKK.out, by have := HK.out; omega⟩, ⟨by rw [HT.out]; simp, by have := HL.out; omega⟩, ⟨by rw [HT.out]; simpa using S8.out⟩⟩
            · have hk : k = sizeC c + 1 := by have := HK.out; omega
              subst hk
              rw [show is.take (sizeC c + 1) = is by rw [← HLC.out, List.take_length], ← HE.out] at S HL
              have hn2 := HL.out.1
              subst hn2
              go_wp2
              go_ret2
              exact ⟨V, cp, rfl, Kd.R_lower (S.out.ownF 0 rfl) HB1.out.size, HB1.out.trans (S.out.B.mono HB1.out.size)⟩
        · have hW := HW.out
          obtain ⟨hp1, hp2, hp3, hp4, hp5, hp6⟩ := hW.pop hin.out
          obtain ⟨vN, rfl⟩ : ∃ vN : Nat, v = (vN : Int) := ⟨v.toNat, by omega⟩
          rw [Int.toNat_natCast] at hp4
          have hgg : seen.count false + (t.length + 1) ≤ gk := by have h_ := HM.out; simpa using h_
          have S1 := Aside0.mk (show Parts w1.heap.size w1 wr (visP w1.heap.size gS gT g cap (sizeC c + 1) (seen, t ++ [(vN : Int)]) (.slice A (t.length + 1) d) [pF w1.heap.size (Kd.int .i64) 3 (.slice V L.length cap6) L]) from by have h_ := S.out; simpa using h_)
          obtain ⟨ad, e, hc⟩ := at_int (S1.out.rowF 3 rfl).r t.length (by simp)
          cases e
          replace hc : wr.cell? (ad.add t.length) = some (.int .i64 (vN : Int)) := by simpa using hc
          obtain ⟨cT, fT⟩ := S1.out.cell 1 rfl 0 rfl
          have htl : t.length ≤ 1001 := by have := HN.out; omega
          have S2 := Aside0.mk (show Parts w1.heap.size w1 (wr.setCell ⟨gT, 0, none⟩ (.slice (some ad) t.length d)) (visP w1.heap.size gS gT g cap (sizeC c + 1) (seen, t) (.slice (some ad) t.length d) [pF w1.heap.size (Kd.int .i64) 3 (.slice V L.length cap6) L]) from by
            have h_ := (S1.out.cut 3 (m := t.length) rfl flat_int (by simp)).put 1 rfl 0 (.slice (some ad) t.length d) rfl
            simpa using h_)
          have HPP := Aside0.mk (And.intro hp1 (And.intro hp2 (And.intro hp3 (And.intro hp4 (And.intro hp5 (And.intro hp6 hgg))))))
          have HTL := Aside0.mk htl
          have hdc : t.length ≤ d := by have h_ := (S1.out.rowF 3 rfl).h; simp at h_; omega
          clear hW hp1 hp2 hp3 hp4 hp5 hp6 hgg S HW HM
          go_upto_region 16 with (fail)
          clear cT fT hc
          generalize wr.setCell ⟨gT, 0, none⟩ (.slice (some ad) t.length d) = w9 at *
          have E9 := Aside0.mk ((S2.out.B.block _ HL1.out).trans E1.out)
          have HB9 := Aside0.mk (show Below w.heap.size w w9 from HB1.out.trans (S2.out.B.mono HB1.out.size))
          obtain ⟨c0, c1, c2, c3, c4⟩ := blk5 E9.out
          obtain ⟨n0, hn0⟩ : ∃ n0 : Nat, c.f0 = (n0 : Int) := ⟨c.f0.toNat, by have := hin.out.h0; omega⟩
          have htn : c.f0.toNat = n0 := by omega
          have hsz : sizeC c = n0 + c.f1.length + c.f2.length := by unfold sizeC; rw [htn]
          have HSZ := Aside0.mk hsz
          have HTN := Aside0.mk htn
          have HNN := HN.out
          have hv4 := HPP.out.2.2.2.1
          by_cases hg : n0 + c.f1.length + 1 ≤ vN
          · obtain ⟨m, hm⟩ : ∃ m, vN = n0 + c.f1.length + 1 + m := ⟨vN - (n0 + c.f1.length + 1), by omega⟩
            have hml : m < c.f2.length := by omega
            have HPG := Aside0.mk (pop_gate (c := c) (s := (seen, t)) (v := vN) (by omega) hml)
            have hgr : gateReads c vN = [(c.f2[m]).f0, (c.f2[m]).f1] := by
              unfold gateReads
              rw [if_pos (by omega), show vN - (c.f0.toNat + c.f1.length + 1) = m by omega, List.getElem?_eq_getElem hml]; rfl
            have HGA := Aside0.mk (hin.out.hg vN (c.f2[m]).f0 (by rw [hgr]; simp))
            have HGB := Aside0.mk (hin.out.hg vN (c.f2[m]).f1 (by rw [hgr]; simp))
            obtain ⟨ad2, e2, hy0, hy1⟩ := at_gate HH.out.s2.r m hml
            cases e2
            have hx0 := (HB9.out.cell (World.block_lt_of_cell? _ _ hy0)).trans hy0
            have HY1 := Aside0.mk hy1
            have hd1 : decide (c.f0 + (c.f1.length : Int) + 1 ≤ (vN : Int)) = true := decide_eq_true (by omega)
            have hw2 : (vN : Int) - (c.f0 + (c.f1.length : Int) + 1) = (m : Int) := by omega
            have hw3 : wrap64 ((vN : Int) - (c.f0 + (c.f1.length : Int) + 1)) = (m : Int) := by rw [hw2, wrap_in (by omega) (by omega)]
            have HL5 := Aside0.mk (visit_len (seen, t) (c.f2[m]).f0)
            clear hn0 htn hsz hg hgr hm HNN hv4 hy0 hy1
            generalize c.f2[m] = gt at *
            go_wp2_with fail
            refine (cone_visit _ gS gT g cap _ _ _ _ gt.f0 _ _ _ S2.out HGA.out.1 (by have h1 := HGA.out.2; unfold varOf at h1; have := HN.out; have := HGA.out.1; omega) (by have := HGA.out; omega) (by have := HN.out; omega) (by have := HTL.out; dsimp only; omega)).mono ?_
            rintro e w10 ⟨rfl, A10, d10, h10⟩
            have S10 := Aside0.mk h10
            clear h10 c0 c1 c2 c3 c4 hx0
            obtain ⟨c0, c1, c2, c3, c4⟩ := blk5 ((S10.out.B.block _ HL1.out).trans E1.out)
            have hx1 := ((show Below w.heap.size w w10 from HB1.out.trans (S10.out.B.mono HB1.out.size)).cell (World.block_lt_of_cell? _ _ HY1.out)).trans HY1.out
            go_wp2_with fail
            refine (cone_visit _ gS gT g cap _ _ _ _ gt.f1 _ _ _ S10.out HGB.out.1 (by have h1 := HGB.out.2; unfold varOf at h1; have := HN.out; have := HGB.out.1; omega) (by have := HGB.out; omega) (by have := HN.out; omega) (by have := HTL.out; have h5 := HL5.out.2; have h6 : (seen, t).2.length = t.length := rfl; omega)).mono ?_
            rintro e w11 ⟨rfl, A11, d11, h11⟩
            rw [← HPG.out] at h11
            have S11 := Aside0.mk h11
            clear h11 c0 c1 c2 c3 c4 hx1
            go_wp2
            go_roundg ((popS c (seen, t) (vN : Int)).1.count false + (popS c (seen, t) (vN : Int)).2.length)
            case measure => have := HPP.out.2.1; have := HPP.out.2.2.2.2.2.2; omega
            case rel => exact ⟨popS c (seen, t) (vN : Int), A11, d11, ⟨Nat.le_refl _⟩, ⟨HPP.out.1⟩, S11⟩
          · by_cases hla : n0 + 1 ≤ vN
            · obtain ⟨m, hm⟩ : ∃ m, vN = n0 + 1 + m := ⟨vN - (n0 + 1), by omega⟩
              have hml : m < c.f1.length := by omega
              have HPG := Aside0.mk (pop_latch (c := c) (s := (seen, t)) (v := vN) (by omega) hml)
              have HGA := Aside0.mk (hin.out.hl vN (c.f1[m]).f0 (by
                unfold latReads
                rw [if_pos (by omega), show vN - (c.f0.toNat + 1) = m by omega, List.getElem?_eq_getElem hml]; simp))
              obtain ⟨ad2, e2, hy0, hy1⟩ := at_latch HH.out.s1.r m hml
              cases e2
              have hx0 := (HB9.out.cell (World.block_lt_of_cell? _ _ hy0)).trans hy0
              have hd1 : decide (c.f0 + (c.f1.length : Int) + 1 ≤ (vN : Int)) = false := decide_eq_false (by omega)
              have hd2 : decide (c.f0 + 1 ≤ (vN : Int)) = true := decide_eq_true (by omega)
              have hw2 : (vN : Int) - (c.f0 + 1) = (m : Int) := by omega
              have hw3 : wrap64 ((vN : Int) - (c.f0 + 1)) = (m : Int) := by rw [hw2, wrap_in (by omega) (by omega)]
              clear hn0 htn hsz hg hla hm HNN hv4 hy0 hy1
              generalize c.f1[m] = gt at *
              go_wp2_with fail
              refine (cone_visit _ gS gT g cap _ _ _ _ gt.f0 _ _ _ S2.out HGA.out.1 (by have h1 := HGA.out.2; unfold varOf at h1; have := HN.out; have := HGA.out.1; omega) (by have := HGA.out; omega) (by have := HN.out; omega) (by have := HTL.out; dsimp only; omega)).mono ?_
              rintro e w11 ⟨rfl, A11, d11, h11⟩
              rw [← HPG.out] at h11
              have S11 := Aside0.mk h11
              clear h11 c0 c1 c2 c3 c4 hx0
              go_wp2
              go_roundg ((popS c (seen, t) (vN : Int)).1.count false + (popS c (seen, t) (vN : Int)).2.length)
              case measure => have := HPP.out.2.1; have := HPP.out.2.2.2.2.2.2; omega
              case rel => exact ⟨popS c (seen, t) (vN : Int), A11, d11, ⟨Nat.le_refl _⟩, ⟨HPP.out.1⟩, S11⟩
            · have HPI := Aside0.mk (pop_input (c := c) (s := (seen, t)) (v := vN) (by omega))
              have hd1 : decide (c.f0 + (c.f1.length : Int) + 1 ≤ (vN : Int)) = false := decide_eq_false (by omega)
              have hd2 : decide (c.f0 + 1 ≤ (vN : Int)) = false := decide_eq_false (by omega)
              clear hn0 htn hsz hg hla HNN hv4
              go_wp2
              go_roundg (seen.count false + t.length)
              case measure => have := HPP.out.2.2.2.2.2.2; omega
              case rel => exact ⟨(seen, t), some ad, d, ⟨Nat.le_refl _⟩, ⟨by have h_ := HPP.out.1; rw [HPI.out] at h_; exact h_⟩, S2⟩
theorem cone_Of (p : CP) (c : Circ) (w : World) (h : RC w p c) (hs : c.Fits) :
    Calls Try.prog 10 #[cv p c] w fun e w' => RetLE w w' (ofC c) e := by
  unfold ofC
  by_cases hc : check c = 0
  · rw [if_pos hc]; exact cone_Of_ok p c w h hs hc
  · rw [if_neg hc]; exact cone_Of_bad p c w h hs hc
end Go.Proofs.Ytiafojcbllbepaa.PH
