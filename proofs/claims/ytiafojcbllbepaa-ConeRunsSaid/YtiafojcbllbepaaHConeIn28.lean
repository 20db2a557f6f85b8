/- ref28.In, Of. -/
import Derived.Test.YtiafojcbllbepaaHConeOf
import Derived.Test.YtiafojcbllbepaaHRowS
namespace Go.Proofs.Ytiafojcbllbepaa.PH
open Go.RowKit Go.Proofs.YtiafojcbllbepaaW.PrintWords Go.Proofs.YtiafojcbllbepaaW.PrintLast
set_option linter.unusedVariables false
set_option linter.unusedSimpArgs false

/-- A row that is merged with another one, up to v. -/
def mrg (a b : List Bool) (v : Nat) : List Bool := (mergeB a b).take v ++ a.drop v
theorem mrg_zero (a b : List Bool) : mrg a b 0 = a := by simp [mrg]
theorem mrg_all {a b : List Bool} (h : a.length = b.length) : mrg a b a.length = mergeB a b := by
  unfold mrg
  rw [List.drop_length, List.append_nil, List.take_of_length_le (by rw [merge_len h]; exact Nat.le_refl _)]
theorem mrg_len {a b : List Bool} (h : a.length = b.length) {v : Nat} (hv : v ≤ a.length) : (mrg a b v).length = a.length := by
  unfold mrg
  rw [List.length_append, List.length_take, List.length_drop, merge_len h]; omega
theorem mrg_get {a b : List Bool} (h : a.length = b.length) {v : Nat} (hv : v < a.length) : (mrg a b v).getD v false = a.getD v false := by
  unfold mrg
  rw [List.getD_eq_getElem?_getD, List.getElem?_append_right (by rw [List.length_take, merge_len h]; omega), List.length_take, merge_len h, Nat.min_eq_left (by omega), Nat.sub_self, List.getElem?_drop, Nat.add_zero, ← List.getD_eq_getElem?_getD]
theorem mrg_step {a b : List Bool} (h : a.length = b.length) {v : Nat} (hv : v < a.length) : (mrg a b v).set v (a.getD v false || b.getD v false) = mrg a b (v + 1) := by
  have hm : v < (mergeB a b).length := by rw [merge_len h]; exact hv
  unfold mrg
  have hvb : v < b.length := by omega
  have e0 : (mergeB a b)[v]? = some (a[v] || b[v]) := by
    unfold mergeB
    rw [List.getElem?_zipWith, List.getElem?_eq_getElem hv, List.getElem?_eq_getElem hvb]
  have e1 : (mergeB a b)[v] = (a.getD v false || b.getD v false) := by
    rw [List.getElem?_eq_getElem hm] at e0
    rw [Option.some.inj e0, List.getD_eq_getElem?_getD, List.getD_eq_getElem?_getD, List.getElem?_eq_getElem hv, List.getElem?_eq_getElem hvb]; rfl
  rw [take_at hm, e1, drop_at hv, List.set_append_right _ _ (by rw [List.length_take]; omega), List.length_take, Nat.min_eq_left (by omega), Nat.sub_self, List.set_cons_zero, List.append_assoc]
  rfl
theorem adds_snoc : ∀ (a b : List Bool) (x y : Bool), a.length = b.length → adds (a ++ [x]) (b ++ [y]) = (adds a b || (y && !x))
  | [], [], x, y, _ => by cases x <;> cases y <;> rfl
  | p :: a, q :: b, x, y, h => by
    simp only [List.cons_append, adds]
    rw [adds_snoc a b x y (by simpa using h), Bool.or_assoc]
def addsK (a b : List Bool) (v : Nat) : Bool := adds (a.take v) (b.take v)
theorem addsK_zero (a b : List Bool) : addsK a b 0 = false := by simp [addsK, adds]
theorem addsK_all {a b : List Bool} (h : a.length = b.length) : addsK a b a.length = adds a b := by
  unfold addsK
  rw [List.take_length, h, List.take_length]
theorem addsK_step {a b : List Bool} (h : a.length = b.length) {v : Nat} (hv : v < a.length) : addsK a b (v + 1) = (addsK a b v || (b.getD v false && !a.getD v false)) := by
  have hvb : v < b.length := by omega
  unfold addsK
  rw [take_at hv, take_at hvb, adds_snoc _ _ _ _ (by rw [List.length_take, List.length_take, h]), List.getD_eq_getElem?_getD, List.getD_eq_getElem?_getD, List.getElem?_eq_getElem hv, List.getElem?_eq_getElem hvb]; rfl
/-- Behind k roots. -/
structure Rts (c : Circ) (k : Nat) (is : List Bool) : Prop where
  cl : Clos c is
  gt : ∀ l ∈ (c.f3 ++ c.f4).take k, Got is l
theorem rts_zero (c : Circ) : Rts c 0 (List.replicate (sizeC c + 1) false) := by
  have hz : ∀ v, (List.replicate (sizeC c + 1) false).getD v false = true → False := fun v hv => by
    rw [List.getD_eq_getElem?_getD, List.getElem?_replicate] at hv
    split at hv <;> simp at hv
  exact ⟨⟨by simp, fun v hv => (hz v hv).elim, fun v hv => (hz v hv).elim⟩, fun l hl => by simp at hl⟩
theorem rts_step {c : Circ} (hi : Inside c) {k : Nat} {is : List Bool} (h : Rts c k is) (hk : k < (c.f3 ++ c.f4).length) : Rts c (k + 1) (mergeB is (inB c (c.f3 ++ c.f4)[k])) := by
  have hm := hi.hp _ (List.getElem_mem hk)
  have ht := in_tells hi hm.2
  have hlen : is.length = (inB c (c.f3 ++ c.f4)[k]).length := by rw [h.cl.hl, ht.1]
  refine ⟨clos_merge h.cl ht (fun hp => .root (List.getElem_mem hk) hp), fun l hl => ?_⟩
  rw [take_at hk] at hl
  rcases List.mem_append.1 hl with h_ | h_
  · exact got_more hlen (h.gt l h_)
  · rw [List.mem_singleton.1 h_]; exact got_merge hlen ht
set_option maxHeartbeats 4000000 in
set_option maxRecDepth 100000 in
theorem ref28_In (p : CP) (c : Circ) (w : World) (h : RC w p c) (hs : c.Fits) (hck : check c = 0) :
    Calls Try.prog 33 #[cv p c] w fun e w' => RetIn w w' (coneB c) e := by
  have hbd := gCheck_ok hck
  have hin := Aside0.mk (inside_of hck)
  have hn : c.f0 + (c.f1.length : Int) + c.f2.length = (sizeC c : Int) := by unfold sizeC; have := hbd.1; omega
  have HN := Aside0.mk (show sizeC c ≤ 1000 by have := hbd.2.2; omega)
  have HC := Aside0.mk hck
  have HH := Aside0.mk h
  have hu26 := Try.underlying26
  have HSZ := Aside0.mk (fun W => ref02_Size p c W hbd.1 hbd.2.1 hs)
  rw [hn] at HSZ
  have HIN := Aside0.mk (fun (l : Int) (W : World) (hb : Below w.heap.size w W) h0 h1 => ref02_In p c l W (h.below hb) hs hck h0 h1)
  have hw1 : wrap64 ((sizeC c : Int) + 1) = ((sizeC c + 1 : Nat) : Int) := by have := HN.out; rw [wrap_in (by omega) (by omega)]; omega
  obtain ⟨A1, k1, A2, k2, A3, k3, A4, k4⟩ := p
  have S0 := Aside0.mk ((Parts.start w).new 26 #[.int .i64 c.f0, .slice A1 c.f1.length k1, .slice A2 c.f2.length k2, .slice A3 c.f3.length k3, .slice A4 c.f4.length k4])
  have hN := HN.out
  clear h hs hck hn
  go_enter Try.func33, Try.ntmps33
  go_wp2_with fail
  refine (HSZ.out _).mono ?_
  rintro e w1 ⟨rfl, hb1⟩
  have S1 := Aside0.mk (S0.out.below hb1)
  clear hb1 HSZ S0
  go_upto_region 2 with (first | (refine Parts.makeL S1.out Kd.bool 4 flat_bool rfl (N := 15) rfl 59 (.tmp 14) (.tmp 14) rfl (sizeC c + 1) rfl rfl Try.underlying59 (.bool false) 1 infoBool rfl (by decide) (by decide) false rfl (by have := HN.out; omega) ?_; intro g cap w2 hgw h2; have S2 := Aside0.mk h2; clear h2 hgw))
  obtain ⟨r3, z3⟩ := S2.out.cell 1 rfl 3 rfl
  obtain ⟨r4, z4⟩ := S2.out.cell 1 rfl 4 rfl
  have hf := check_fewC HC.out
  have HL3 := Aside0.mk hf.1
  have HL4 := Aside0.mk hf.2
  clear hf
  go_wp2
  refine start_ (n := 8) (S := (fun w' => w'.cell? ⟨w.heap.size, 3, none⟩ = some (.slice A3 c.f3.length k3) ∧ w'.cell? ⟨w.heap.size, 4, none⟩ = some (.slice A4 c.f4.length k4))) (ds := []) #[false, false, false, false, false, false, false, false] (by kernel_rfl) rfl rfl ⟨r3, r4⟩ (fun hHeld => ?_)
  refine pure_ (i := 1) (N := some 17) (v := ?_) (a' := ?_) #[false, true, false, false, false, false, false, false] rfl rfl (by kernel_rfl) (fun _ _ _ h => h) (Or.inl ⟨by rfl, ?_⟩) ?_ ?_
  rotate_left
  · intro w'
    go_simp
    with_reducible rfl
  rotate_left
  · simp only [Act.put, List.setIfInBounds_toArray, List.set_cons_zero, List.set_cons_succ]
    rfl
  refine pure_ (i := 4) (N := some 20) (v := ?_) (a' := ?_) #[false, true, false, false, true, false, false, false] rfl rfl (by kernel_rfl) (fun _ _ _ h => h) (Or.inl ⟨by rfl, ?_⟩) ?_ ?_
  rotate_left
  · intro w'
    go_simp
    with_reducible rfl
  rotate_left
  · simp only [Act.put, List.setIfInBounds_toArray, List.set_cons_zero, List.set_cons_succ]
    rfl
  refine take_ (i := 2) (N := some 18) (v := ?_) (a' := ?_) #[false, true, true, false, true, false, false, false] rfl rfl (by kernel_rfl) (fun _ _ _ h => h) (Or.inl ⟨by rfl, ?_⟩) hHeld ?_ ?_
  rotate_left
  · rintro w' ⟨s0, s1⟩
    go_simp
    with_reducible rfl
  rotate_left
  · simp only [Act.put, List.setIfInBounds_toArray, List.set_cons_zero, List.set_cons_succ]
    rfl
  refine take_ (i := 5) (N := some 21) (v := ?_) (a' := ?_) #[false, true, true, false, true, true, false, false] rfl rfl (by kernel_rfl) (fun _ _ _ h => h) (Or.inl ⟨by rfl, ?_⟩) hHeld ?_ ?_
  rotate_left
  · rintro w' ⟨s0, s1⟩
    go_simp
    with_reducible rfl
  rotate_left
  · simp only [Act.put, List.setIfInBounds_toArray, List.set_cons_zero, List.set_cons_succ]
    rfl
  refine one_ (i := 0) (N := some 16) #[true, true, true, false, true, true, false, false] rfl rfl (by kernel_rfl) (by decide) (fun K hK => ?_)
  refine Parts.litS S2.out.drew (Kd.int .i64) 3 flat_int (by rfl) (N := 16) rfl ([] : List Int) [] ?hr (Reps.none _ _) (by simp) ?_
  case hr => first | (go_simp; done) | (go_simp; rfl)
  intro V3 cap3 w3 h3
  have S3 := Aside0.mk h3
  clear h3
  refine hK.out _ _ ⟨(S3.out.cell 2 rfl 3 rfl).1, (S3.out.cell 2 rfl 4 rfl).1⟩ (fun hHeld => ?_)
  clear hK K
  refine norm_ (a' := ?_) ?_ ?_
  rotate_left
  · show Act.put _ (some 16) _ = _
    simp only [Act.put, List.setIfInBounds_toArray, List.set_cons_zero, List.set_cons_succ]
    rfl
  refine one_ (i := 3) (N := some 19) #[true, true, true, true, true, true, false, false] rfl rfl (by kernel_rfl) (by decide) (fun K hK => ?_)
  refine Parts.appendRS S3.out 0 rfl flat_int flatK_int (by rfl) (.tmp 16) (.tmp 18) 24 (.int .i64 0) 8 rfl Try.underlying24 infoInt rfl (by decide) (by decide) c.f3 A3 k3 rfl rfl (HH.out.s3.below S3.out.B) (by have := HL3.out; simp; omega) ?_
  intro V4 cap4 w4 h4
  have S4 := Aside0.mk h4
  clear h4
  refine hK.out _ _ ⟨(S4.out.cell 2 rfl 3 rfl).1, (S4.out.cell 2 rfl 4 rfl).1⟩ (fun hHeld => ?_)
  clear hK K
  refine norm_ (a' := ?_) ?_ ?_
  rotate_left
  · show Act.put _ (some 19) _ = _
    simp only [Act.put, List.setIfInBounds_toArray, List.set_cons_zero, List.set_cons_succ]
    rfl
  refine one_ (i := 6) (N := some 22) #[true, true, true, true, true, true, true, false] rfl rfl (by kernel_rfl) (by decide) (fun K hK => ?_)
  refine Parts.appendRS S4.out 0 rfl flat_int flatK_int (by rfl) (.tmp 19) (.tmp 21) 24 (.int .i64 0) 8 rfl Try.underlying24 infoInt rfl (by decide) (by decide) c.f4 A4 k4 rfl rfl (HH.out.s4.below S4.out.B) (by have := HL3.out; have := HL4.out; simp; omega) ?_
  intro V5 cap5 w5 h5
  have S5 := Aside0.mk (show Parts w.heap.size w w5 [pF w.heap.size (Kd.int .i64) 3 (.slice V5 (c.f3 ++ c.f4).length cap5) (c.f3 ++ c.f4), pF w.heap.size Kd.bool 4 (.slice (some ⟨g, 0, none⟩) (sizeC c + 1) cap) (List.replicate (sizeC c + 1) false), pB w.heap.size 26 #[.int .i64 c.f0, .slice A1 c.f1.length k1, .slice A2 c.f2.length k2, .slice A3 c.f3.length k3, .slice A4 c.f4.length k4]] from by
    have h_ := h5
    rw [List.nil_append] at h_
    rw [List.length_append]
    simp only [List.length_nil, Nat.zero_add, List.length_append] at h_
    exact h_)
  clear h5
  refine hK.out _ _ ⟨(S5.out.cell 2 rfl 3 rfl).1, (S5.out.cell 2 rfl 4 rfl).1⟩ (fun hHeld => ?_)
  clear hK K
  refine norm_ (a' := ?_) ?_ ?_
  rotate_left
  · show Act.put _ (some 22) _ = _
    simp only [Act.put, List.setIfInBounds_toArray, List.set_cons_zero, List.set_cons_succ]
    rfl
  refine pure_ (i := 7) (N := some 4) (v := ?_) (a' := ?_) #[true, true, true, true, true, true, true, true] rfl rfl (by kernel_rfl) (fun _ _ _ h => h) (Or.inl ⟨by rfl, ?_⟩) ?_ ?_
  rotate_left
  · intro w'
    go_simp
    with_reducible rfl
  rotate_left
  · simp only [Act.put, List.setIfInBounds_toArray, List.set_cons_zero, List.set_cons_succ]
    rfl
  refine done_ (by kernel_rfl) ?_
  have HLL := Aside0.mk (show (c.f3 ++ c.f4).length ≤ 200 by have := HL3.out; have := HL4.out; rw [List.length_append]; omega)
  have HP := Aside0.mk hin.out.hp
  have HR := Aside0.mk (rts_zero c)
  have HST0 : ∀ L, c.f3 ++ c.f4 = L → ∀ k is, Rts c k is → ∀ (hk : k < L.length), Rts c (k + 1) (mergeB is (inB c L[k])) := by rintro L rfl k is h hk; exact rts_step hin.out h hk
  have HLE := Aside0.mk (show c.f3.length + c.f4.length = (c.f3 ++ c.f4).length by rw [List.length_append])
  rw [HLE.out]
  have HDN := Aside0.mk (fun is (h : Rts c (c.f3 ++ c.f4).length is) => And.intro h.cl (show ∀ l ∈ c.f3 ++ c.f4, Got is l by have h_ := h.gt; rw [List.take_length] at h_; exact h_))
  obtain ⟨L, hL⟩ : ∃ L, c.f3 ++ c.f4 = L := ⟨_, rfl⟩
  have HLQ := Aside0.mk hL
  have HST := Aside0.mk (HST0 L hL)
  rw [hL] at HLL HP S5 ⊢
  clear hL HST0
  clear r3 z3 r4 z4 S4 S3 S2 HLE
  go_wp2
  go_loopg [5] L.length (fun gg s5 wr => ∃ (k : Nat) (is : List Bool), s5 = .int .i64 k ∧ Aside0 (k ≤ L.length ∧ L.length - k ≤ gg) ∧ Aside0 (Rts c k is) ∧ Aside0 (Parts w.heap.size w wr [pF w.heap.size (Kd.int .i64) 3 (.slice V5 L.length cap5) L, pF w.heap.size Kd.bool 4 (.slice (some ⟨g, 0, none⟩) (sizeC c + 1) cap) is, pB w.heap.size 26 #[.int .i64 c.f0, .slice A1 c.f1.length k1, .slice A2 c.f2.length k2, .slice A3 c.f3.length k3, .slice A4 c.f4.length k4]]))
  case atStart => exact ⟨0, _, rfl, ⟨by omega, by omega⟩, HR, S5⟩
  case round =>
    clear S5
    obtain ⟨k, is, rfl, HK, HR2, S⟩ := hrel
    by_cases hlt : k < L.length
    · obtain ⟨ad, e, hc⟩ := at_int (S.out.rowF 0 rfl).r k hlt
      cases e
      have HKK := Aside0.mk hlt
      have HPK := Aside0.mk (HP.out _ (List.getElem_mem hlt))
      have HSK := Aside0.mk (HST.out k is HR2.out hlt)
      have HCK := Aside0.mk (fun (W : World) (hW : Parts w.heap.size w W [pF w.heap.size (Kd.int .i64) 3 (.slice (some ad) L.length cap5) L, pF w.heap.size Kd.bool 4 (.slice (some ⟨g, 0, none⟩) (sizeC c + 1) cap) is, pB w.heap.size 26 #[.int .i64 c.f0, .slice A1 c.f1.length k1, .slice A2 c.f2.length k2, .slice A3 c.f3.length k3, .slice A4 c.f4.length k4]]) => show W.cell? (ad.add k) = some (.int .i64 L[k]) from by
        obtain ⟨ad', e', hc'⟩ := at_int (hW.rowF 0 rfl).r k hlt
        cases e'
        exact hc')
      clear hc
      generalize L[k] = l at *
      go_wp2
      refine start_ (n := 7) (S := (fun W => Parts w.heap.size w W [pF w.heap.size (Kd.int .i64) 3 (.slice (some ad) L.length cap5) L, pF w.heap.size Kd.bool 4 (.slice (some ⟨g, 0, none⟩) (sizeC c + 1) cap) is, pB w.heap.size 26 #[.int .i64 c.f0, .slice A1 c.f1.length k1, .slice A2 c.f2.length k2, .slice A3 c.f3.length k3, .slice A4 c.f4.length k4]])) (ds := []) #[false, false, false, false, false, false, false] (by kernel_rfl) rfl rfl S.out.drew (fun hHeld => ?_)
      refine pure_ (i := 1) (N := some 30) (v := ?_) (a' := ?_) #[false, true, false, false, false, false, false] rfl rfl (by kernel_rfl) (fun _ _ _ h => h) (Or.inl ⟨by rfl, ?_⟩) ?_ ?_
      rotate_left
      · intro w'
        go_simp
        with_reducible rfl
      rotate_left
      · simp only [Act.put, List.setIfInBounds_toArray, List.set_cons_zero, List.set_cons_succ]
        rfl
      refine pure_ (i := 2) (N := some 31) (v := ?_) (a' := ?_) #[false, true, true, false, false, false, false] rfl rfl (by kernel_rfl) (fun _ _ _ h => h) (Or.inl ⟨by rfl, ?_⟩) ?_ ?_
      rotate_left
      · intro w'
        go_simp
        with_reducible rfl
      rotate_left
      · simp only [Act.put, List.setIfInBounds_toArray, List.set_cons_zero, List.set_cons_succ]
        rfl
      refine pure_ (i := 3) (N := some 32) (v := ?_) (a' := ?_) #[false, true, true, true, false, false, false] rfl rfl (by kernel_rfl) (fun _ _ _ h => h) (Or.inl ⟨by rfl, ?_⟩) ?_ ?_
      rotate_left
      · intro w'
        go_simp
        with_reducible rfl
      rotate_left
      · simp only [Act.put, List.setIfInBounds_toArray, List.set_cons_zero, List.set_cons_succ]
        rfl
      refine take_ (i := 0) (N := some 29) (v := ?_) (a' := ?_) #[true, true, true, true, false, false, false] rfl rfl (by kernel_rfl) (fun _ _ _ h => h) (Or.inl ⟨by rfl, ?_⟩) hHeld ?_ ?_
      rotate_left
      · intro w' s0
        obtain ⟨c0, c1, c2, c3, c4⟩ := blk5 (s0.blk 2 rfl)
        go_simp
        with_reducible rfl
      rotate_left
      · simp only [Act.put, List.setIfInBounds_toArray, List.set_cons_zero, List.set_cons_succ]
        rfl
      refine take_ (i := 4) (N := some 33) (v := ?_) (a' := ?_) #[true, true, true, true, true, false, false] rfl rfl (by kernel_rfl) (fun _ _ _ h => h) (Or.inl ⟨by rfl, ?_⟩) hHeld ?_ ?_
      rotate_left
      · intro w' s0
        have c0 := HCK.out _ s0
        go_simp
        with_reducible rfl
      rotate_left
      · simp only [Act.put, List.setIfInBounds_toArray, List.set_cons_zero, List.set_cons_succ]
        rfl
      refine one_ (i := 5) (N := some 34) #[true, true, true, true, true, true, false] rfl rfl (by kernel_rfl) (by decide) (fun K hK => ?_)
      refine goes_ Try.func56 (by kernel_rfl) rfl #[cv ⟨A1, k1, A2, k2, A3, k3, A4, k4⟩ c, .int .i64 l] (by rfl) rfl rfl (by simp only [List.map_toArray, List.map_cons, List.map_nil] <;> rfl) ?_
      refine (HIN.out l _ S.out.drew.B HPK.out.1 HPK.out.2).mono ?_
      rintro e w6 ⟨V6, cap6, rfl, hR6, hb6⟩
      refine ⟨_, rfl, ?_⟩
      have S6 := Aside0.mk (S.out.drew.freshF flat_bool hb6 hR6)
      clear hR6 hb6
      refine hK.out _ _ (S6.out.tail) (fun hHeld => ?_)
      clear hK K
      refine norm_ (a' := ?_) ?_ ?_
      rotate_left
      · show Act.put _ (some 34) _ = _
        simp only [Act.put, List.setIfInBounds_toArray, List.set_cons_zero, List.set_cons_succ]
        rfl
      refine pure_ (i := 6) (N := some 6) (v := ?_) (a' := ?_) #[true, true, true, true, true, true, true] rfl rfl (by kernel_rfl) (fun _ _ _ h => h) (Or.inl ⟨by rfl, ?_⟩) ?_ ?_
      rotate_left
      · intro w'
        go_simp
        with_reducible rfl
      rotate_left
      · simp only [Act.put, List.setIfInBounds_toArray, List.set_cons_zero, List.set_cons_succ]
        rfl
      refine done_ (by kernel_rfl) ?_
      have HBL := Aside0.mk (show (inB c l).length = sizeC c + 1 from (in_tells hin.out HPK.out.2).1)
      have HAL := Aside0.mk (show is.length = sizeC c + 1 from HR2.out.cl.hl)
      have HM0 := Aside0.mk (show is.length = (inB c l).length by rw [HBL.out, HAL.out])
      have S7 := Aside0.mk (show Parts w.heap.size w w6 [pF w.heap.size Kd.bool 4 (.slice V6 (sizeC c + 1) cap6) (inB c l), pF w.heap.size (Kd.int .i64) 3 (.slice (some ad) L.length cap5) L, pF w.heap.size Kd.bool 4 (.slice (some ⟨g, 0, none⟩) (sizeC c + 1) cap) (mrg is (inB c l) 0), pB w.heap.size 26 #[.int .i64 c.f0, .slice A1 c.f1.length k1, .slice A2 c.f2.length k2, .slice A3 c.f3.length k3, .slice A4 c.f4.length k4]] from by
        have h_ := S6.out
        rw [HBL.out] at h_
        rw [mrg_zero]; exact h_)
      rw [HBL.out]
      clear S6 S HCK
      obtain ⟨g6, hg6⟩ : ∃ g6, V6 = some ⟨g6, 0, none⟩ := by
        obtain ⟨_, inner, hown, _⟩ := S7.out.ownF 0 rfl
        rcases hown.2 with ⟨h_, _⟩ | ⟨g', cap', cur, h_, _⟩
        · injection h_ with _ h2 _; rw [HBL.out] at *; omega
        · injection h_ with h2 _ _; exact ⟨g', h2⟩
      subst hg6
      generalize inB c l = bl at *
      go_wp2
      go_loopg [7] (sizeC c + 1) (fun gg s7 wr => ∃ (v : Nat), s7 = .int .i64 v ∧ Aside0 (v ≤ sizeC c + 1 ∧ sizeC c + 1 - v ≤ gg) ∧ Aside0 (Parts w.heap.size w wr [pF w.heap.size Kd.bool 4 (.slice (some ⟨g6, 0, none⟩) (sizeC c + 1) cap6) bl, pF w.heap.size (Kd.int .i64) 3 (.slice (some ad) L.length cap5) L, pF w.heap.size Kd.bool 4 (.slice (some ⟨g, 0, none⟩) (sizeC c + 1) cap) (mrg is bl v), pB w.heap.size 26 #[.int .i64 c.f0, .slice A1 c.f1.length k1, .slice A2 c.f2.length k2, .slice A3 c.f3.length k3, .slice A4 c.f4.length k4]]))
      case atStart => exact ⟨0, rfl, ⟨by omega, by omega⟩, S7⟩
      case round =>
        clear S7
        obtain ⟨v, rfl, HV, S⟩ := hrel
        by_cases hv : v < sizeC c + 1
        · obtain ⟨cA, fA⟩ := S.out.cellRow 2 rfl false v hv
          obtain ⟨cB, fB⟩ := S.out.cellRow 0 rfl false v hv
          rw [mrg_get HM0.out (by rw [HAL.out]; exact hv)] at cA
          have HVV := Aside0.mk hv
          have HS8 := Aside0.mk (show Parts w.heap.size w (wr.setCell ⟨g, v, none⟩ (.bool (is.getD v false || bl.getD v false))) [pF w.heap.size Kd.bool 4 (.slice (some ⟨g6, 0, none⟩) (sizeC c + 1) cap6) bl, pF w.heap.size (Kd.int .i64) 3 (.slice (some ad) L.length cap5) L, pF w.heap.size Kd.bool 4 (.slice (some ⟨g, 0, none⟩) (sizeC c + 1) cap) (mrg is bl (v + 1)), pB w.heap.size 26 #[.int .i64 c.f0, .slice A1 c.f1.length k1, .slice A2 c.f2.length k2, .slice A3 c.f3.length k3, .slice A4 c.f4.length k4]] from by
            rw [← mrg_step HM0.out (by rw [HAL.out]; exact hv)]
            exact S.out.putRow 2 rfl v _)
          have hvi : (v : Int) < ((sizeC c + 1 : Nat) : Int) := by omega
          cases hx : is.getD v false with
          | true =>
            rw [hx] at cA HS8
            rw [Bool.true_or] at HS8
            clear hx cB fB
            go_wp2
            go_roundg (sizeC c + 1 - (v + 1))
            case measure => have := HV.out; have := HVV.out; omega
            case rel => exact ⟨v + 1, rfl, ⟨HVV.out, by have := HV.out; omega⟩, HS8⟩
          | false =>
            rw [hx] at cA HS8
            rw [Bool.false_or] at HS8
            clear hx
            generalize bl.getD v false = bv at *
            go_wp2
            go_roundg (sizeC c + 1 - (v + 1))
            case measure => have := HV.out; have := HVV.out; omega
            case rel => exact ⟨v + 1, rfl, ⟨HVV.out, by have := HV.out; omega⟩, HS8⟩
        · have hve : v = sizeC c + 1 := by have := HV.out; omega
          have S9 := Aside0.mk (show Parts w.heap.size w wr [pF w.heap.size (Kd.int .i64) 3 (.slice (some ad) L.length cap5) L, pF w.heap.size Kd.bool 4 (.slice (some ⟨g, 0, none⟩) (sizeC c + 1) cap) (mergeB is bl), pB w.heap.size 26 #[.int .i64 c.f0, .slice A1 c.f1.length k1, .slice A2 c.f2.length k2, .slice A3 c.f3.length k3, .slice A4 c.f4.length k4]] from by
            have h_ := S.out.tail
            rw [hve, ← HAL.out, mrg_all HM0.out, HAL.out] at h_
            exact h_)
          subst hve
          clear S hv
          go_wp2
          go_roundg (L.length - (k + 1))
          case measure => have := HK.out; have := HKK.out; omega
          case rel => exact ⟨k + 1, mergeB is bl, val_step HKK.out (by have := HLL.out; omega), ⟨HKK.out, by have := HK.out; omega⟩, HSK, S9⟩
    · have hk : k = L.length := by have := HK.out; omega
      have HD := Aside0.mk (HDN.out is (by rw [HLQ.out, ← hk]; exact HR2.out))
      clear hlt HR2 HST HP
      subst hk
      have S1 := Aside0.mk S.out.tail
      clear S
      go_wp2
      go_loopg [8] (2 * (sizeC c + 1) + 1) (fun gg s8 wr => ∃ (is : List Bool) (m : Bool), s8 = .bool m ∧ Aside0 (2 * is.count false + (if m then 1 else 0) ≤ gg) ∧ Aside0 (Clos c is ∧ (∀ l ∈ c.f3 ++ c.f4, Got is l)) ∧ Aside0 (m = false → Tells (sizeC c) (Reach c) is) ∧ Aside0 (Parts w.heap.size w wr [pF w.heap.size Kd.bool 4 (.slice (some ⟨g, 0, none⟩) (sizeC c + 1) cap) is, pB w.heap.size 26 #[.int .i64 c.f0, .slice A1 c.f1.length k1, .slice A2 c.f2.length k2, .slice A3 c.f3.length k3, .slice A4 c.f4.length k4]]))
      case atStart => exact ⟨is, true, rfl, ⟨by have := List.count_le_length (a := false) (l := is); have := HD.out.1.hl; simp; omega⟩, HD, ⟨fun h => by cases h⟩, S1⟩
      case round =>
        clear S1 HD
        obtain ⟨is0, m, rfl, HM, HD, HT, S⟩ := hrel
        cases m with
        | false =>
          have hu := (HT.out rfl).unique (cone_tells hin.out)
          subst hu
          go_wp2
          go_ret
          have hl : (coneB c).length = sizeC c + 1 := by simp [coneB]
          exact ⟨some ⟨g, 0, none⟩, cap, by rw [hl]; rfl, by rw [hl]; exact S.out.ownF 0 rfl, S.out.B⟩
        | true =>
          have HM1 := Aside0.mk (show 2 * is0.count false + 1 ≤ gk from by have h_ := HM.out; simpa using h_)
          have HR0 := Aside0.mk (rnd_start HD.out.1)
          have HG := Aside0.mk HD.out.2
          obtain ⟨c0, c1, c2, c3, c4⟩ := blk5 (S.out.blk 1 rfl)
          clear HM HT HD
          go_wp2
          clear c0 c1 c2 c3 c4
          go_loopg [8, 9] c.f1.length (fun gg s8 s9 wr => ∃ (is : List Bool) (m : Bool) (k : Nat), s8 = .bool m ∧ s9 = .int .i64 k ∧ Aside0 (k ≤ c.f1.length ∧ c.f1.length - k ≤ gg) ∧ Aside0 (Rnd c is0 is m k) ∧ Aside0 (∀ l ∈ c.f3 ++ c.f4, Got is l) ∧ Aside0 (Parts w.heap.size w wr [pF w.heap.size Kd.bool 4 (.slice (some ⟨g, 0, none⟩) (sizeC c + 1) cap) is, pB w.heap.size 26 #[.int .i64 c.f0, .slice A1 c.f1.length k1, .slice A2 c.f2.length k2, .slice A3 c.f3.length k3, .slice A4 c.f4.length k4]]))
          case atStart => exact ⟨is0, false, 0, rfl, rfl, ⟨by omega, by omega⟩, HR0, HG, S⟩
          case round =>
            clear S HR0 HG
            obtain ⟨is, m, k, rfl, rfl, HK, HR, HG, S⟩ := hrel
            obtain ⟨c0, c1, c2, c3, c4⟩ := blk5 (S.out.blk 1 rfl)
            obtain ⟨n0, hn0⟩ : ∃ n0 : Nat, c.f0 = (n0 : Int) := ⟨c.f0.toNat, by have := hin.out.h0; omega⟩
            have HTN := Aside0.mk (show c.f0.toNat = n0 by omega)
            have HSZ := Aside0.mk (show sizeC c = n0 + c.f1.length + c.f2.length by unfold sizeC; rw [HTN.out])
            rw [hn0] at c0
            clear hn0
            by_cases hlt : k < c.f1.length
            · have hix : n0 + 1 + k < sizeC c + 1 := by have := HSZ.out; omega
              obtain ⟨cI, fI⟩ := S.out.cellRow 0 rfl false (n0 + 1 + k) hix
              have hn0b : n0 + k ≤ 1000 := by have := HSZ.out; omega
              have HKK := Aside0.mk hlt
              have hii : (n0 : Int) + 1 + (k : Int) < ((sizeC c + 1 : Nat) : Int) := by omega
              have hit : ((n0 : Int) + 1 + (k : Int)).toNat = n0 + 1 + k := by omega
              have hge : 0 ≤ (n0 : Int) + 1 + (k : Int) := by omega
              cases hb : is.getD (n0 + 1 + k) false with
              | false =>
                rw [hb] at cI
                have HR1 := Aside0.mk (rnd_skip HR.out (by rw [HTN.out]; exact hb))
                clear hb
                go_wp2
                go_roundg (c.f1.length - (k + 1))
                case measure => have := HK.out; have := HKK.out; omega
                case rel => exact ⟨is, m, k + 1, rfl, rfl, ⟨HKK.out, by have := HK.out; omega⟩, HR1, HG, S⟩
              | true =>
                rw [hb] at cI
                obtain ⟨ad, e1, hy0, hy1⟩ := at_latch HH.out.s1.r k hlt
                cases e1
                have HLA := Aside0.mk (fun (W : World) (hW : Below w.heap.size w W) => (hW.cell (World.block_lt_of_cell? _ _ hy0)).trans hy0)
                have HPK := Aside0.mk (hin.out.hl (n0 + 1 + k) (c.f1[k]).f0 (by
                  unfold latReads
                  rw [if_pos (by have := HTN.out; omega), show n0 + 1 + k - (c.f0.toNat + 1) = k by have := HTN.out; omega, List.getElem?_eq_getElem hlt]; simp))
                have HR1 := Aside0.mk (rnd_step hin.out HR.out hlt (by rw [HTN.out]; exact hb) rfl)
                have HAL := Aside0.mk HR.out.hc.hl
                clear hb hy0 hy1
                generalize (c.f1[k]).f0 = l at *
                go_upto_region 18 with (fail)
                clear cI fI c0 c1 c2 c3 c4
                go_wp2
                refine start_ (n := 9) (S := (fun W => Parts w.heap.size w W [pF w.heap.size Kd.bool 4 (.slice (some ⟨g, 0, none⟩) (sizeC c + 1) cap) is, pB w.heap.size 26 #[.int .i64 c.f0, .slice (some ad) c.f1.length k1, .slice A2 c.f2.length k2, .slice A3 c.f3.length k3, .slice A4 c.f4.length k4]])) (ds := []) #[false, false, false, false, false, false, false, false, false] (by kernel_rfl) rfl rfl S.out.drew (fun hHeld => ?_)
                refine pure_ (i := 1) (N := some 72) (v := ?_) (a' := ?_) #[false, true, false, false, false, false, false, false, false] rfl rfl (by kernel_rfl) (fun _ _ _ h => h) (Or.inl ⟨by rfl, ?_⟩) ?_ ?_
                rotate_left
                · intro w'
                  go_simp
                  with_reducible rfl
                rotate_left
                · simp only [Act.put, List.setIfInBounds_toArray, List.set_cons_zero, List.set_cons_succ]
                  rfl
                refine pure_ (i := 3) (N := some 74) (v := ?_) (a' := ?_) #[false, true, false, true, false, false, false, false, false] rfl rfl (by kernel_rfl) (fun _ _ _ h => h) (Or.inl ⟨by rfl, ?_⟩) ?_ ?_
                rotate_left
                · intro w'
                  go_simp
                  with_reducible rfl
                rotate_left
                · simp only [Act.put, List.setIfInBounds_toArray, List.set_cons_zero, List.set_cons_succ]
                  rfl
                refine take_ (i := 0) (N := some 71) (v := ?_) (a' := ?_) #[true, true, false, true, false, false, false, false, false] rfl rfl (by kernel_rfl) (fun _ _ _ h => h) (Or.inl ⟨by rfl, ?_⟩) hHeld ?_ ?_
                rotate_left
                · intro w' s0
                  obtain ⟨c0, c1, c2, c3, c4⟩ := blk5 (s0.blk 1 rfl)
                  go_simp
                  with_reducible rfl
                rotate_left
                · simp only [Act.put, List.setIfInBounds_toArray, List.set_cons_zero, List.set_cons_succ]
                  rfl
                refine take_ (i := 2) (N := some 73) (v := ?_) (a' := ?_) #[true, true, true, true, false, false, false, false, false] rfl rfl (by kernel_rfl) (fun _ _ _ h => h) (Or.inl ⟨by rfl, ?_⟩) hHeld ?_ ?_
                rotate_left
                · intro w' s0
                  obtain ⟨c0, c1, c2, c3, c4⟩ := blk5 (s0.blk 1 rfl)
                  go_simp
                  with_reducible rfl
                rotate_left
                · simp only [Act.put, List.setIfInBounds_toArray, List.set_cons_zero, List.set_cons_succ]
                  rfl
                refine pure_ (i := 4) (N := some 75) (v := ?_) (a' := ?_) #[true, true, true, true, true, false, false, false, false] rfl rfl (by kernel_rfl) (fun _ _ _ h => h) (Or.inl ⟨by rfl, ?_⟩) ?_ ?_
                rotate_left
                · intro w'
                  go_simp
                  with_reducible rfl
                rotate_left
                · simp only [Act.put, List.setIfInBounds_toArray, List.set_cons_zero, List.set_cons_succ]
                  rfl
                refine pure_ (i := 5) (N := some 76) (v := ?_) (a' := ?_) #[true, true, true, true, true, true, false, false, false] rfl rfl (by kernel_rfl) (fun _ _ _ h => h) (Or.inl ⟨by rfl, ?_⟩) ?_ ?_
                rotate_left
                · intro w'
                  go_simp
                  with_reducible rfl
                rotate_left
                · simp only [Act.put, List.setIfInBounds_toArray, List.set_cons_zero, List.set_cons_succ]
                  rfl
                refine take_ (i := 6) (N := some 77) (v := ?_) (a' := ?_) #[true, true, true, true, true, true, true, false, false] rfl rfl (by kernel_rfl) (fun _ _ _ h => h) (Or.inl ⟨by rfl, ?_⟩) hHeld ?_ ?_
                rotate_left
                · intro w' s0
                  have c0 := HLA.out _ s0.B
                  go_simp
                  with_reducible rfl
                rotate_left
                · simp only [Act.put, List.setIfInBounds_toArray, List.set_cons_zero, List.set_cons_succ]
                  rfl
                refine one_ (i := 7) (N := some 78) #[true, true, true, true, true, true, true, true, false] rfl rfl (by kernel_rfl) (by decide) (fun K hK => ?_)
                refine goes_ Try.func56 (by kernel_rfl) rfl #[cv ⟨some ad, k1, A2, k2, A3, k3, A4, k4⟩ c, .int .i64 l] (by rfl) rfl rfl (by simp only [List.map_toArray, List.map_cons, List.map_nil] <;> rfl) ?_
                refine (HIN.out l _ S.out.drew.B HPK.out.1 HPK.out.2).mono ?_
                rintro e w6 ⟨V6, cap6, rfl, hR6, hb6⟩
                refine ⟨_, rfl, ?_⟩
                have S6 := Aside0.mk (S.out.drew.freshF flat_bool hb6 hR6)
                clear hR6 hb6
                refine hK.out _ _ (S6.out.tail) (fun hHeld => ?_)
                clear hK K
                refine norm_ (a' := ?_) ?_ ?_
                rotate_left
                · show Act.put _ (some 78) _ = _
                  simp only [Act.put, List.setIfInBounds_toArray, List.set_cons_zero, List.set_cons_succ]
                  rfl
                refine pure_ (i := 8) (N := some 10) (v := ?_) (a' := ?_) #[true, true, true, true, true, true, true, true, true] rfl rfl (by kernel_rfl) (fun _ _ _ h => h) (Or.inl ⟨by rfl, ?_⟩) ?_ ?_
                rotate_left
                · intro w'
                  go_simp
                  with_reducible rfl
                rotate_left
                · simp only [Act.put, List.setIfInBounds_toArray, List.set_cons_zero, List.set_cons_succ]
                  rfl
                refine done_ (by kernel_rfl) ?_
                have HBL := Aside0.mk (show (inB c l).length = sizeC c + 1 from (in_tells hin.out HPK.out.2).1)
                have HM0 := Aside0.mk (show is.length = (inB c l).length by rw [HBL.out, HAL.out])
                have S7 := Aside0.mk (show Parts w.heap.size w w6 [pF w.heap.size Kd.bool 4 (.slice V6 (sizeC c + 1) cap6) (inB c l), pF w.heap.size Kd.bool 4 (.slice (some ⟨g, 0, none⟩) (sizeC c + 1) cap) (mrg is (inB c l) 0), pB w.heap.size 26 #[.int .i64 c.f0, .slice (some ad) c.f1.length k1, .slice A2 c.f2.length k2, .slice A3 c.f3.length k3, .slice A4 c.f4.length k4]] from by
                  have h_ := S6.out
                  rw [HBL.out] at h_
                  rw [mrg_zero]; exact h_)
                have HGM := Aside0.mk (fun l2 (h : l2 ∈ c.f3 ++ c.f4) => got_more HM0.out (HG.out l2 h))
                rw [HBL.out]
                clear S6 S HR
                obtain ⟨g6, hg6⟩ : ∃ g6, V6 = some ⟨g6, 0, none⟩ := by
                  obtain ⟨_, inner, hown, _⟩ := S7.out.ownF 0 rfl
                  rcases hown.2 with ⟨h_, _⟩ | ⟨g', cap', cur, h_, _⟩
                  · injection h_ with _ h2 _; rw [HBL.out] at *; omega
                  · injection h_ with h2 _ _; exact ⟨g', h2⟩
                subst hg6
                generalize inB c l = bl at *
                go_wp2
                go_loopg [8, 11] (sizeC c + 1) (fun gg s8 s11 wr => ∃ (v : Nat) (mv : Bool), s8 = .bool mv ∧ s11 = .int .i64 v ∧ Aside0 (v ≤ sizeC c + 1 ∧ sizeC c + 1 - v ≤ gg) ∧ Aside0 (mv = (m || addsK is bl v)) ∧ Aside0 (Parts w.heap.size w wr [pF w.heap.size Kd.bool 4 (.slice (some ⟨g6, 0, none⟩) (sizeC c + 1) cap6) bl, pF w.heap.size Kd.bool 4 (.slice (some ⟨g, 0, none⟩) (sizeC c + 1) cap) (mrg is bl v), pB w.heap.size 26 #[.int .i64 c.f0, .slice (some ad) c.f1.length k1, .slice A2 c.f2.length k2, .slice A3 c.f3.length k3, .slice A4 c.f4.length k4]]))
                case atStart => exact ⟨0, m, rfl, rfl, ⟨by omega, by omega⟩, ⟨by rw [addsK_zero, Bool.or_false]⟩, S7⟩
                case round =>
                  clear S7
                  obtain ⟨v, mv, rfl, rfl, HV, HMV, S⟩ := hrel
                  by_cases hv : v < sizeC c + 1
                  · obtain ⟨cA, fA⟩ := S.out.cellRow 1 rfl false v hv
                    obtain ⟨cB, fB⟩ := S.out.cellRow 0 rfl false v hv
                    rw [mrg_get HM0.out (by rw [HAL.out]; exact hv)] at cA
                    have HVV := Aside0.mk hv
                    have HS8 := Aside0.mk (show Parts w.heap.size w (wr.setCell ⟨g, v, none⟩ (.bool (is.getD v false || bl.getD v false))) [pF w.heap.size Kd.bool 4 (.slice (some ⟨g6, 0, none⟩) (sizeC c + 1) cap6) bl, pF w.heap.size Kd.bool 4 (.slice (some ⟨g, 0, none⟩) (sizeC c + 1) cap) (mrg is bl (v + 1)), pB w.heap.size 26 #[.int .i64 c.f0, .slice (some ad) c.f1.length k1, .slice A2 c.f2.length k2, .slice A3 c.f3.length k3, .slice A4 c.f4.length k4]] from by
                      rw [← mrg_step HM0.out (by rw [HAL.out]; exact hv)]
                      exact S.out.putRow 1 rfl v _)
                    have HMS := Aside0.mk (show (m || addsK is bl (v + 1)) = (mv || (bl.getD v false && !is.getD v false)) by rw [HMV.out, addsK_step HM0.out (by rw [HAL.out]; exact hv), Bool.or_assoc])
                    have hvi : (v : Int) < ((sizeC c + 1 : Nat) : Int) := by omega
                    generalize is.getD v false = x at *
                    generalize bl.getD v false = y at *
                    clear HMV S
                    cases mv <;> cases x <;> cases y <;>
                    · go_wp2
                      go_roundg (sizeC c + 1 - (v + 1))
                      case measure => have := HV.out; have := HVV.out; omega
                      case rel => exact ⟨v + 1, _, rfl, rfl, ⟨HVV.out, by have := HV.out; omega⟩, ⟨by rw [HMS.out]; rfl⟩, HS8⟩
                  · have hve : v = sizeC c + 1 := by have := HV.out; omega
                    have S9 := Aside0.mk (show Parts w.heap.size w wr [pF w.heap.size Kd.bool 4 (.slice (some ⟨g, 0, none⟩) (sizeC c + 1) cap) (mergeB is bl), pB w.heap.size 26 #[.int .i64 c.f0, .slice (some ad) c.f1.length k1, .slice A2 c.f2.length k2, .slice A3 c.f3.length k3, .slice A4 c.f4.length k4]] from by
                      have h_ := S.out.tail
                      rw [hve, ← HAL.out, mrg_all HM0.out, HAL.out] at h_
                      exact h_)
                    have HMM := Aside0.mk (show mv = (m || adds is bl) by rw [HMV.out, hve, ← HAL.out, addsK_all HM0.out])
                    subst hve
                    clear S hv HMV
                    go_wp2
                    go_roundg (c.f1.length - (k + 1))
                    case measure => have := HK.out; have := HKK.out; omega
                    case rel => exact ⟨mergeB is bl, mv, k + 1, rfl, rfl, ⟨HKK.out, by have := HK.out; omega⟩, ⟨by rw [HMM.out]; exact HR1.out⟩, ⟨HGM.out⟩, S9⟩
            · have hk : k = c.f1.length := by have := HK.out; omega
              subst hk
              have HRR := HR.out
              have HME := Aside0.mk (show 2 * is.count false + (if m then 1 else 0) < 2 * is0.count false + 1 by
                cases m with
                | true => have := HRR.ht rfl; simp; omega
                | false => have := HRR.hm; simp; omega)
              have HTT := Aside0.mk (show m = false → Tells (sizeC c) (Reach c) is from fun h => by subst h; exact rnd_done HRR HG.out)
              have HCL := Aside0.mk (And.intro HRR.hc HG.out)
              clear HRR HR HG hlt
              go_wp2
              go_roundg (2 * is.count false + (if m then 1 else 0))
              case measure => have := HME.out; have := HM1.out; omega
              case rel => exact ⟨is, m, rfl, ⟨Nat.le_refl _⟩, HCL, HTT, S⟩
end Go.Proofs.Ytiafojcbllbepaa.PH
