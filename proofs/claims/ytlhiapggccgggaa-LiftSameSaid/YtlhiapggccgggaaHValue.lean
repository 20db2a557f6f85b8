/- preds.Value and the reference's Value: the truth of a predicate in a state. -/
import Derived.Test.YtlhiapggccgggaaHPreds0
import Derived.Test.YtlhiapggccgggaaHPackA
import Derived.Deep.RegionHeld3
import Derived.Deep.QuietTactic
import Derived.BigQuiet
namespace Go.Proofs.Ytlhiapggccgggaa.PH
open Go.RowKit Go.Proofs.YtlhiapggccgggaaW.PrintWords Go.Proofs.YtlhiapggccgggaaW.PrintLast
set_option linter.unusedVariables false
set_option linter.unusedSimpArgs false

/-- The value of a literal among those of variables. -/
def litV (v : List Bool) (l : Int) : Bool := v.getD (l / 2).toNat false != (l % 2 == 1)
/-- The values behind some gates. -/
def truthFrom : List Gate → List Bool → List Bool
  | [], v => v
  | g :: gs, v => truthFrom gs (v ++ [litV v g.f0 && litV v g.f1])
def predValue (p : Pr) (state : List Bool) : Bool := litV (truthFrom p.f0 (false :: state)) p.f1
set_option maxHeartbeats 2000000 in
set_option maxRecDepth 100000 in
theorem preds_Value1 (g : Nat) (A : Option Addr) (cap : Nat) (v : List Bool) (l : Int) (w : World) (hg : w.cell? ⟨g, 0, none⟩ = some (.slice A v.length cap)) (hv : RS Kd.bool w A cap v) (hl : I64 l) (h0 : 0 ≤ l) (h1 : l / 2 < v.length) :
    Calls Try.prog 48 #[.int .i64 l, .pointer (some ⟨g, 0, none⟩)] w fun e w' => e = .returned (.bool (litV v l)) ∧ Below w.heap.size w w' := by
  obtain ⟨k, hk⟩ : ∃ k : Nat, l / 2 = (k : Int) := ⟨(l / 2).toNat, by omega⟩
  have hkv : k < v.length := by omega
  have hq : wrap64 (l.tdiv 2) = (k : Int) := (half_of hl h0).trans hk
  obtain ⟨r, hr⟩ : ∃ r, wrap64 (l.tmod 2) = r := ⟨_, rfl⟩
  have hr2 : r = l % 2 := hr.symm.trans (rem_of hl h0)
  obtain ⟨ad, e1, hx⟩ := at_bool hv.r k hkv
  cases e1
  have hR : litV v l = (v[k] != (r == 1)) := by
    unfold litV
    rw [hk, hr2, Int.toNat_natCast, List.getD_eq_getElem?_getD, List.getElem?_eq_getElem hkv]
    rfl
  rw [hR]
  generalize v[k] = b at *
  have hlt : (k : Int) < (v.length : Int) := by omega
  clear hk hl h0 h1 hR hr2 hv
  go_enter Try.func48, Try.ntmps48
  have hr3 : l.tmod 2 = r := by
    have h1 : -2 < l.tmod 2 ∧ l.tmod 2 < 2 := ⟨Int.lt_tmod_of_pos l (by decide), Int.tmod_lt_of_pos l (by decide)⟩
    rw [← hr, wrap_in (by omega) (by omega)]
  have HB := Aside0.mk (show (!b == (l.tmod 2 == 1)) = (b != (r == 1)) by rw [hr3]; rfl)
  clear hr hr3
  go_wp2
  go_ret
  exact ⟨ret_bool HB.out, Below.refl _ _⟩
/-- Every gate's parts, and the literal, have values. -/
theorem gAnds_at {s : Int} : ∀ {gs : List Gate} {i : Int} (k : Nat) (hk : k < gs.length), gAnds s gs i = true → 0 ≤ gs[k].f1 ∧ gs[k].f1 ≤ gs[k].f0 ∧ gs[k].f0 < 2 * (s + (i + k))
  | g :: gs, i, 0, hk, h => by
    unfold gAnds at h
    split at h
    · cases h
    split at h
    · cases h
    split at h
    · cases h
    exact ⟨by simp; omega, by simp; omega, by simp; omega⟩
  | g :: gs, i, k + 1, hk, h => by
    unfold gAnds at h
    split at h
    · cases h
    split at h
    · cases h
    split at h
    · cases h
    have := gAnds_at (i := i + 1) k (by simpa using hk) h
    simp only [List.getElem_cons_succ]
    refine ⟨this.1, this.2.1, ?_⟩
    have h3 := this.2.2
    push_cast
    omega
theorem predCheck_parts {n : Int} {p : Pr} (h : predCheck n p = 0) : 0 ≤ n ∧ n + p.f0.length ≤ 1000 ∧ gAnds (1 + n) p.f0 0 = true ∧ 0 ≤ p.f1 ∧ p.f1 / 2 ≤ n + p.f0.length := by
  unfold predCheck at h
  split at h
  · cases h
  split at h
  · cases h
  split at h
  · cases h
  split at h
  case isFalse => cases h
  case isTrue hg =>
    split at h
    · cases h
    split at h
    · cases h
    exact ⟨by omega, by omega, hg, by omega, by omega⟩
theorem infoBool : (Try.prog.info? 4).map (fun i => (i.zero, i.size, i.bytes)) = some (some (.bool false), 1, 1) := by kernel_rfl
theorem truthFrom_drop {gs : List Gate} {v : List Bool} {k : Nat} (hk : k < gs.length) : truthFrom (gs.drop k) v = truthFrom (gs.drop (k + 1)) (v ++ [litV v gs[k].f0 && litV v gs[k].f1]) := by
  rw [drop_at hk, truthFrom]
theorem R_false (W : World) (base t : Nat) (hb : base ≤ W.heap.size) : Kd.R Kd.bool t (W.alloc (.cells #[.bool false] t)) base (fun _ => True) (.slice (some ⟨W.heap.size, 0, none⟩) 1 1) [false] :=
  ⟨fun _ _ => trivial, [.bool false], (by have h := World.ownsRow_lit (base := base) (e := t) (size := 1) W #[.bool false] 1 hb (by decide) rfl; simpa using h : (W.alloc (.cells #[.bool false] t)).ownsRow base t 1 (.slice (some ⟨W.heap.size, 0, none⟩) 1 1) 1 [.bool false]), Kd.reps_scalar (enc := Value.bool) [false]⟩
/-- What holds in preds.Value's loop: the predicate's box, the variable of the values. -/
structure VInv (w : World) (A : Option Addr) (k : Nat) (ands : List Gate) (lit : Int) (gV : Nat) (V : Option Addr) (n cap : Nat) (vals : List Bool) (wr : World) : Prop where
  BW : Below w.heap.size w wr
  BC : wr.heap[w.heap.size]? = some (.cells #[.slice A ands.length k, .int .i64 lit] 29 (0, 0))
  BV : wr.heap[gV]? = some (.cells #[.slice V n cap] 46 (0, 0))
  RV : Kd.R Kd.bool 4 wr w.heap.size (fun _ => True) (.slice V n cap) vals
theorem VInv.below {w wr w2 : World} {A : Option Addr} {k : Nat} {ands : List Gate} {lit : Int} {gV : Nat} {V : Option Addr} {n cap : Nat} {vals : List Bool} (h : VInv w A k ands lit gV V n cap vals wr) (hb : Below wr.heap.size wr w2) : VInv w A k ands lit gV V n cap vals w2 :=
  ⟨h.BW.trans (hb.mono h.BW.size), blk_below h.BC hb, blk_below h.BV hb, Kd.R_below h.RV hb⟩
/-- Two values come back. -/
def RetBE (w w' : World) (b : Bool) (n : Int) (e : Ending) : Prop := e = .returned (.tuple #[.bool b, .int .i64 n]) ∧ Below w.heap.size w w'
def valueOf (p : Pr) (state : List Bool) : Bool := if predCheck state.length p = 0 then predValue p state else false
set_option maxHeartbeats 4000000 in
set_option maxRecDepth 100000 in
theorem preds_Value (A : Option Addr) (k : Nat) (p : Pr) (B : Option Addr) (d : Nat) (st : List Bool) (w : World) (h : RS kGate w A k p.f0) (hf : p.Fits) (hs : RS Kd.bool w B d st) :
    Calls Try.prog 21 #[pv A k p, .slice B st.length d] w fun e w' => RetBE w w' (valueOf p st) (predCheck st.length p) e := by
  have HCK := Aside0.mk (fun W (hb : Below w.heap.size w W) => preds_Check st.length A k p W (h.below hb) hf)
  have HS := Aside0.mk hs
  have HP := Aside0.mk h
  have HF := Aside0.mk hf
  have hu24 := Try.underlying29
  have hu71 := Try.underlying93
  have hmf : ∀ (fn : Fn) (first cap : Array Value) (w : World), (Instr.makeFunc fn first cap).run Try.prog w = .ok (.func fn first cap) w := fun _ _ _ _ => rfl
  have eg : ∀ args w, (callFunc 48 args).run Try.prog w = .ok (.enter 48 args) w := enters_fn Try.func48 (by kernel_rfl) rfl
  clear h hf hs
  unfold valueOf
  obtain ⟨ands, lit⟩ := p
  dsimp only [pv] at *
  by_cases hc : predCheck st.length ⟨ands, lit⟩ = 0
  case neg =>
    rw [if_neg hc]
    have c1b : (predCheck st.length ⟨ands, lit⟩ != 0) = true := bne_iff_ne.mpr hc
    clear hc
    go_enter Try.func21, Try.ntmps21
    go_wp2_with fail
    refine (HCK.out _ (below_alloc (Below.refl _ _) _)).mono ?_
    rintro e w1 ⟨rfl, hb1⟩
    have BW := Aside0.mk (below_then (below_alloc (Below.refl w.heap.size w) _) (by simp) hb1)
    clear hb1
    go_wp2
    refine bodyPost_ret (results_tmp2 rfl _ _ _) rfl ?_
    exact ⟨rfl, BW.out⟩
  case pos =>
    rw [if_pos hc]
    rw [hc] at HCK ⊢
    have HPT := Aside0.mk (predCheck_parts hc)
    clear hc
    obtain ⟨R, hR⟩ : ∃ R, predValue ⟨ands, lit⟩ st = R := ⟨_, rfl⟩
    rw [hR]
    have HR := Aside0.mk hR
    clear hR
    go_enter Try.func21, Try.ntmps21
    go_wp2_with fail
    refine (HCK.out _ (below_alloc (Below.refl _ _) _)).mono ?_
    rintro e w1 ⟨rfl, hb1⟩
    have BC := Aside0.mk (blk_below (blk_new w (.cells #[.slice A ands.length k, .int .i64 lit] 29)) hb1)
    have BW := Aside0.mk (below_then (below_alloc (Below.refl w.heap.size w) _) (by simp) hb1)
    clear hb1
    have g0 : w1.cell? ⟨w.heap.size, 0, none⟩ = some (.slice A ands.length k) := (blk_cell BC.out 0).trans rfl
    have g1 : w1.cell? ⟨w.heap.size, 1, none⟩ = some (.int .i64 lit) := (blk_cell BC.out 1).trans rfl
    have HW := Aside0.mk (BW.out.size)
    go_wp2_with (first | (at_builtin; refine Kd.R_append_row Value.bool false (h1 := fun _ => rfl) (w0 := w1) (W := w1.alloc (.cells #[.bool false] 4)) w1.heap.size rfl (.tmp 18) (.tmp 19) 46 4 (.bool false) 1 rfl Try.underlying46 infoBool rfl (by omega) (.slice (some ⟨w1.heap.size, 0, none⟩) 1 1) [false] st _ _ _ (fun _ => True) rfl rfl ?aF ?aO ?aR ?aB ?aS ?aL ?_; (case aF => exact fun _ _ => trivial); (case aO => exact R_false w1 _ _ (Nat.le_refl _)); (case aR => exact Kd.C_below HS.out.r (below_alloc BW.out _)); (case aB => exact below_alloc (Below.refl _ _) _); (case aS => simp); (case aL => have := HPT.out.2.1; simp; omega); intro v1 w2 ho hb hg hat; obtain ⟨V0, cap0, rfl, _, _⟩ := Kd.R_reads ho; have BC2 := Aside0.mk (blk_below BC.out hb); have BW2 := Aside0.mk (BW.out.trans (hb.mono HW.out)); have R2 := Aside0.mk ho; have HW2 := Aside0.mk hb.size; clear ho hb hg hat g0 g1; have g0 := (blk_cell (blk_alloc BC2.out (.cells #[.slice V0 (st.length + 1) cap0] 46)) 0).trans rfl; have g1 := (blk_cell (blk_alloc BC2.out (.cells #[.slice V0 (st.length + 1) cap0] 46)) 1).trans rfl))
    have I0 : Aside0 (VInv w A k ands lit w2.heap.size V0 (st.length + 1) cap0 (false :: st) (w2.alloc (.cells #[.slice V0 (st.length + 1) cap0] 46))) :=
      ⟨⟨below_alloc BW2.out _, blk_alloc BC2.out _, blk_new _ _, Kd.R_alloc (Kd.R_lower (show Kd.R Kd.bool 4 w2 w1.heap.size (fun _ => True) (.slice V0 (st.length + 1) cap0) (false :: st) from R2.out) HW.out) _⟩⟩
    have HGV := Aside0.mk (show w.heap.size < w2.heap.size from blk_lt BC2.out)
    generalize w2.heap.size = gV at *
    clear g0 g1 BC BC2 BW BW2 R2 HW2 HW
    have HX := Aside0.mk HP.out.max
    go_loopg [25] ands.length (fun gg s25 wr => ∃ (i : Nat) (V : Option Addr) (cap : Nat) (vals : List Bool), s25 = .int .i64 i ∧ Aside0 (i ≤ ands.length ∧ ands.length - i ≤ gg) ∧ Aside0 (VInv w A k ands lit gV V (st.length + 1 + i) cap vals wr) ∧ Aside0 (vals.length = st.length + 1 + i) ∧ Aside0 (truthFrom (ands.drop i) vals = truthFrom ands (false :: st)))
    case atStart => exact ⟨0, V0, cap0, false :: st, rfl, ⟨by omega, by omega⟩, I0, ⟨by simp⟩, ⟨rfl⟩⟩
    case round =>
      clear I0
      obtain ⟨i, V, cap, vals, rfl, HI, I, HL, HT⟩ := hrel
      by_cases hlt : i < ands.length
      · obtain ⟨ad, e1, hx, hy⟩ := at_gate (HP.out.below I.out.BW).r i hlt
        cases e1
        have hpt := gAnds_at i hlt HPT.out.2.2.1
        have hig := HF.out.ig ands[i] (List.getElem_mem hlt)
        have HTT := HT.out
        rw [truthFrom_drop hlt] at HTT
        have HLT := Aside0.mk hlt
        generalize ands[i] = g at *
        have HGP := Aside0.mk hpt
        have HGI := Aside0.mk hig
        have HT2 := Aside0.mk HTT
        clear hpt hig HTT HT
        go_wp2
        have I3 := Aside0.mk (I.out.below (below_alloc (Below.refl _ _) (.cells #[.int .i64 g.f0, .int .i64 g.f1] 93)))
        have BG := Aside0.mk (blk_new wr (.cells #[.int .i64 g.f0, .int .i64 g.f1] 93))
        clear I hx hy
        generalize wr.alloc (.cells #[.int .i64 g.f0, .int .i64 g.f1] 93) = w3 at *
        generalize wr.heap.size = gG at *
        have I3d := Aside0.mk (I3.out.below (below_drew (Below.refl w3.heap.size w3)))
        have BGd := Aside0.mk (blk_drew BG.out)
        cases hb0 : litV vals g.f0
        · have HB0 := Aside0.mk hb0
          clear hb0
          refine start_ (n := 14) (S := (fun w' => w'.cell? ⟨gV, 0, none⟩ = some (.slice V (st.length + 1 + i) cap) ∧ w'.cell? ⟨gG, 0, none⟩ = some (.int .i64 g.f0) ∧ w'.cell? ⟨gG, 1, none⟩ = some (.int .i64 g.f1))) (ds := [13]) #[false, false, false, false, false, false, false, false, false, false, false, false, false, false] (by kernel_rfl) rfl rfl ⟨(blk_cell I3.out.BV 0).trans rfl, (blk_cell BG.out 0).trans rfl, (blk_cell BG.out 1).trans rfl⟩ (fun hHeld => ?_)
          refine take_ (i := 0) (N := some 29) (v := ?_) (a' := ?_) #[true, false, false, false, false, false, false, false, false, false, false, false, false, false] rfl rfl (by kernel_rfl) (fun _ _ _ h => h) (Or.inl ⟨by rfl, ?_⟩) hHeld ?_ ?_
          rotate_left
          · rintro w' ⟨s0, s1, s2⟩
            go_simp
            with_reducible rfl
          rotate_left
          · simp only [Act.put, List.setIfInBounds_toArray, List.set_cons_zero, List.set_cons_succ]
            rfl
          refine pure_ (i := 1) (N := some 30) (v := ?_) (a' := ?_) #[true, true, false, false, false, false, false, false, false, false, false, false, false, false] rfl rfl (by kernel_rfl) (fun _ _ _ h => h) (Or.inl ⟨by rfl, ?_⟩) ?_ ?_
          rotate_left
          · intro w'
            go_simp
            with_reducible rfl
          rotate_left
          · simp only [Act.put, List.setIfInBounds_toArray, List.set_cons_zero, List.set_cons_succ]
            rfl
          refine pure_ (i := 2) (N := some 31) (v := ?_) (a' := ?_) #[true, true, true, false, false, false, false, false, false, false, false, false, false, false] rfl rfl (by kernel_rfl) (fun _ _ _ h => h) (Or.inl ⟨by rfl, ?_⟩) ?_ ?_
          rotate_left
          · intro w'
            go_simp
            with_reducible rfl
          rotate_left
          · simp only [Act.put, List.setIfInBounds_toArray, List.set_cons_zero, List.set_cons_succ]
            rfl
          refine take_ (i := 3) (N := some 32) (v := ?_) (a' := ?_) #[true, true, true, true, false, false, false, false, false, false, false, false, false, false] rfl rfl (by kernel_rfl) (fun _ _ _ h => h) (Or.inl ⟨by rfl, ?_⟩) hHeld ?_ ?_
          rotate_left
          · rintro w' ⟨s0, s1, s2⟩
            go_simp
            with_reducible rfl
          rotate_left
          · simp only [Act.put, List.setIfInBounds_toArray, List.set_cons_zero, List.set_cons_succ]
            rfl
          refine one_ (i := 4) (N := some 33) #[true, true, true, true, true, false, false, false, false, false, false, false, false, false] rfl rfl (by kernel_rfl) (by decide) (fun K hK => ?_)
          refine call_ 48 #[.int .i64 g.f0, .pointer (some ⟨gV, 0, none⟩)] (by rfl) rfl ?hrun1 ?_
          case hrun1 => go_simp
          refine (preds_Value1 gV V cap vals g.f0 _ (by rw [HL.out]; exact (blk_cell I3d.out.BV 0).trans rfl) (by have h_ := RS.of_R' I3d.out.RV; exact h_) HGI.out.1 (by have := HGP.out; omega) (by have := HGP.out; have := HL.out; omega)).mono ?_
          rintro e w4 ⟨rfl, hb_⟩
          refine ⟨_, rfl, ?_⟩
          have I4 := Aside0.mk (I3d.out.below hb_)
          have BG4 := Aside0.mk (blk_below BGd.out hb_)
          clear hb_
          refine hK.out _ _ ⟨(blk_cell I4.out.BV 0).trans rfl, (blk_cell BG4.out 0).trans rfl, (blk_cell BG4.out 1).trans rfl⟩ (fun hHeld => ?_)
          clear hK K
          refine norm_ (a' := ?_) ?_ ?_
          rotate_left
          · show Act.put _ (some 33) _ = _
            simp only [Act.put, List.setIfInBounds_toArray, List.set_cons_zero, List.set_cons_succ]
            rfl
          rw [HB0.out]
          refine pure_ (i := 5) (N := some 34) (v := ?_) (a' := ?_) #[true, true, true, true, true, true, false, false, false, false, false, false, false, false] rfl rfl (by kernel_rfl) (fun _ _ _ h => h) (Or.inl ⟨by rfl, ?_⟩) ?_ ?_
          rotate_left
          · intro w'
            go_simp
            with_reducible rfl
          rotate_left
          · simp only [Act.put, List.setIfInBounds_toArray, List.set_cons_zero, List.set_cons_succ]
            rfl
          refine pure_ (i := 6) (N := some 35) (v := undef) (a' := ?_) #[true, true, true, true, true, true, true, false, false, false, false, false, false, false] rfl rfl (by kernel_rfl) (fun _ _ _ h => h) (Or.inr ⟨by rfl, rfl⟩) ?_ ?_
          rotate_left
          · simp only [Act.put, List.setIfInBounds_toArray, List.set_cons_zero, List.set_cons_succ]
            rfl
          refine pure_ (i := 7) (N := some 36) (v := undef) (a' := ?_) #[true, true, true, true, true, true, true, true, false, false, false, false, false, false] rfl rfl (by kernel_rfl) (fun _ _ _ h => h) (Or.inr ⟨by rfl, rfl⟩) ?_ ?_
          rotate_left
          · simp only [Act.put, List.setIfInBounds_toArray, List.set_cons_zero, List.set_cons_succ]
            rfl
          refine pure_ (i := 8) (N := some 37) (v := undef) (a' := ?_) #[true, true, true, true, true, true, true, true, true, false, false, false, false, false] rfl rfl (by kernel_rfl) (fun _ _ _ h => h) (Or.inr ⟨by rfl, rfl⟩) ?_ ?_
          rotate_left
          · simp only [Act.put, List.setIfInBounds_toArray, List.set_cons_zero, List.set_cons_succ]
            rfl
          refine pure_ (i := 9) (N := some 38) (v := undef) (a' := ?_) #[true, true, true, true, true, true, true, true, true, true, false, false, false, false] rfl rfl (by kernel_rfl) (fun _ _ _ h => h) (Or.inr ⟨by rfl, rfl⟩) ?_ ?_
          rotate_left
          · simp only [Act.put, List.setIfInBounds_toArray, List.set_cons_zero, List.set_cons_succ]
            rfl
          refine pure_ (i := 10) (N := some 39) (v := ?_) (a' := ?_) #[true, true, true, true, true, true, true, true, true, true, true, false, false, false] rfl rfl (by kernel_rfl) (fun _ _ _ h => h) (Or.inl ⟨by rfl, ?_⟩) ?_ ?_
          rotate_left
          · intro w'
            go_simp
            with_reducible rfl
          rotate_left
          · simp only [Act.put, List.setIfInBounds_toArray, List.set_cons_zero, List.set_cons_succ]
            rfl
          refine one_ (i := 11) (N := some 40) #[true, true, true, true, true, true, true, true, true, true, true, true, false, false] rfl rfl (by kernel_rfl) (by decide) (fun K hK => ?_)
          refine value_ (w1 := ?_) (v := ?_) (by rfl) rfl ?_ ?_
          rotate_left 2
          · go_simp
            constructor
            · rfl
            · rfl
          refine hK.out _ _ ⟨(blk_cell (blk_alloc I4.out.BV _) 0).trans rfl, (blk_cell (blk_alloc BG4.out _) 0).trans rfl, (blk_cell (blk_alloc BG4.out _) 1).trans rfl⟩ (fun hHeld => ?_)
          clear hK K
          refine norm_ (a' := ?_) ?_ ?_
          rotate_left
          · show Act.put _ (some 40) _ = _
            simp only [Act.put, List.setIfInBounds_toArray, List.set_cons_zero, List.set_cons_succ]
            rfl
          refine one_ (i := 12) (N := some 41) #[true, true, true, true, true, true, true, true, true, true, true, true, true, false] rfl rfl (by kernel_rfl) (by decide) (fun K hK => ?_)
          refine Kd.R_append_step Kd.bool (w0 := w) (W := w4) w.heap.size (by rfl) (.tmp 29) (.tmp 40) 46 4 (.bool false) 1 rfl Try.underlying46 infoBool rfl (by decide) (by omega) (.slice V (st.length + 1 + i) cap) vals (false) [.bool (false)] (fun _ => True) (fun _ => False) rfl rfl ?aP ?aK ?aF ?aO ?aB ?aS ?aL ?_
          case aP => exact rfl
          case aK => exact fun _ h => h.elim
          case aF => exact fun _ _ => trivial
          case aO => exact I4.out.RV
          case aB => exact I4.out.BW
          case aS => exact I4.out.BW.size
          case aL => have h_ : (st.length : Int) + ands.length ≤ 1000 := HPT.out.2.1; have := HLT.out; have := HL.out; omega
          intro v1 w6 ho hb hg hat
          obtain ⟨V5, cap5, rfl, _, _⟩ := Kd.R_reads ho
          rw [show (vals ++ [false]).length = st.length + 1 + (i + 1) by rw [List.length_append, HL.out]; rfl] at ho ⊢
          have BC6 := Aside0.mk (blk_grown I4.out.BC hg (Kd.R_ne I4.out.RV I4.out.BC (by decide)))
          have BV6 := Aside0.mk (blk_grown I4.out.BV hg (Kd.R_ne I4.out.RV I4.out.BV (by decide)))
          have BG6 := Aside0.mk (blk_grown BG4.out hg (Kd.R_ne I4.out.RV BG4.out (by decide)))
          have BW6 := Aside0.mk hb
          have R6 := Aside0.mk ho
          clear ho hb hg hat
          have zz := blk_frozen BV6.out 0
          have yy := (blk_cell BV6.out 0).trans rfl
          refine hK.out _ _ ⟨(blk_cell BV6.out 0).trans rfl, (blk_cell BG6.out 0).trans rfl, (blk_cell BG6.out 1).trans rfl⟩ (fun hHeld => ?_)
          clear hK K
          refine norm_ (a' := ?_) ?_ ?_
          rotate_left
          · show Act.put _ (some 41) _ = _
            simp only [Act.put, List.setIfInBounds_toArray, List.set_cons_zero, List.set_cons_succ]
            rfl
          refine last_ (i := 13) (N := none) #[true, true, true, true, true, true, true, true, true, true, true, true, true, true] rfl rfl (by kernel_rfl) (by decide) (fun K hK => ?_)
          refine skip_ (w1 := ?_) (by rfl) rfl ?_ ?_
          rotate_left
          · go_simp
            rfl
          refine hK.out _ _ ?_
          clear hK K
          refine done_ (by kernel_rfl) ?_
          go_wp2
          go_roundg (ands.length - (i + 1))
          case measure => have := HI.out; have := HLT.out; omega
          case rel => exact ⟨i + 1, V5, cap5, vals ++ [false], val_step HLT.out HX.out, ⟨HLT.out, by have := HI.out; omega⟩, ⟨⟨below_set BW6.out (Nat.le_of_lt HGV.out), blk_far BC6.out (Nat.ne_of_lt HGV.out) _, by simpa using blk_set BV6.out 0 _, Kd.R_set R6.out BV6.out (by decide) 0 _⟩⟩, ⟨by rw [List.length_append, HL.out]; rfl⟩, ⟨by have h_ := HT2.out; rw [HB0.out] at h_; simpa using h_⟩⟩
        · have HB0 := Aside0.mk hb0
          clear hb0
          refine start_ (n := 14) (S := (fun w' => w'.cell? ⟨gV, 0, none⟩ = some (.slice V (st.length + 1 + i) cap) ∧ w'.cell? ⟨gG, 0, none⟩ = some (.int .i64 g.f0) ∧ w'.cell? ⟨gG, 1, none⟩ = some (.int .i64 g.f1))) (ds := [13]) #[false, false, false, false, false, false, false, false, false, false, false, false, false, false] (by kernel_rfl) rfl rfl ⟨(blk_cell I3.out.BV 0).trans rfl, (blk_cell BG.out 0).trans rfl, (blk_cell BG.out 1).trans rfl⟩ (fun hHeld => ?_)
          refine take_ (i := 0) (N := some 29) (v := ?_) (a' := ?_) #[true, false, false, false, false, false, false, false, false, false, false, false, false, false] rfl rfl (by kernel_rfl) (fun _ _ _ h => h) (Or.inl ⟨by rfl, ?_⟩) hHeld ?_ ?_
          rotate_left
          · rintro w' ⟨s0, s1, s2⟩
            go_simp
            with_reducible rfl
          rotate_left
          · simp only [Act.put, List.setIfInBounds_toArray, List.set_cons_zero, List.set_cons_succ]
            rfl
          refine pure_ (i := 1) (N := some 30) (v := ?_) (a' := ?_) #[true, true, false, false, false, false, false, false, false, false, false, false, false, false] rfl rfl (by kernel_rfl) (fun _ _ _ h => h) (Or.inl ⟨by rfl, ?_⟩) ?_ ?_
          rotate_left
          · intro w'
            go_simp
            with_reducible rfl
          rotate_left
          · simp only [Act.put, List.setIfInBounds_toArray, List.set_cons_zero, List.set_cons_succ]
            rfl
          refine pure_ (i := 2) (N := some 31) (v := ?_) (a' := ?_) #[true, true, true, false, false, false, false, false, false, false, false, false, false, false] rfl rfl (by kernel_rfl) (fun _ _ _ h => h) (Or.inl ⟨by rfl, ?_⟩) ?_ ?_
          rotate_left
          · intro w'
            go_simp
            with_reducible rfl
          rotate_left
          · simp only [Act.put, List.setIfInBounds_toArray, List.set_cons_zero, List.set_cons_succ]
            rfl
          refine take_ (i := 3) (N := some 32) (v := ?_) (a' := ?_) #[true, true, true, true, false, false, false, false, false, false, false, false, false, false] rfl rfl (by kernel_rfl) (fun _ _ _ h => h) (Or.inl ⟨by rfl, ?_⟩) hHeld ?_ ?_
          rotate_left
          · rintro w' ⟨s0, s1, s2⟩
            go_simp
            with_reducible rfl
          rotate_left
          · simp only [Act.put, List.setIfInBounds_toArray, List.set_cons_zero, List.set_cons_succ]
            rfl
          refine one_ (i := 4) (N := some 33) #[true, true, true, true, true, false, false, false, false, false, false, false, false, false] rfl rfl (by kernel_rfl) (by decide) (fun K hK => ?_)
          refine call_ 48 #[.int .i64 g.f0, .pointer (some ⟨gV, 0, none⟩)] (by rfl) rfl ?hrun1 ?_
          case hrun1 => go_simp
          refine (preds_Value1 gV V cap vals g.f0 _ (by rw [HL.out]; exact (blk_cell I3d.out.BV 0).trans rfl) (by have h_ := RS.of_R' I3d.out.RV; exact h_) HGI.out.1 (by have := HGP.out; omega) (by have := HGP.out; have := HL.out; omega)).mono ?_
          rintro e w4 ⟨rfl, hb_⟩
          refine ⟨_, rfl, ?_⟩
          have I4 := Aside0.mk (I3d.out.below hb_)
          have BG4 := Aside0.mk (blk_below BGd.out hb_)
          clear hb_
          refine hK.out _ _ ⟨(blk_cell I4.out.BV 0).trans rfl, (blk_cell BG4.out 0).trans rfl, (blk_cell BG4.out 1).trans rfl⟩ (fun hHeld => ?_)
          clear hK K
          refine norm_ (a' := ?_) ?_ ?_
          rotate_left
          · show Act.put _ (some 33) _ = _
            simp only [Act.put, List.setIfInBounds_toArray, List.set_cons_zero, List.set_cons_succ]
            rfl
          rw [HB0.out]
          refine pure_ (i := 5) (N := some 34) (v := ?_) (a' := ?_) #[true, true, true, true, true, true, false, false, false, false, false, false, false, false] rfl rfl (by kernel_rfl) (fun _ _ _ h => h) (Or.inl ⟨by rfl, ?_⟩) ?_ ?_
          rotate_left
          · intro w'
            go_simp
            with_reducible rfl
          rotate_left
          · simp only [Act.put, List.setIfInBounds_toArray, List.set_cons_zero, List.set_cons_succ]
            rfl
          refine pure_ (i := 6) (N := some 35) (v := ?_) (a' := ?_) #[true, true, true, true, true, true, true, false, false, false, false, false, false, false] rfl rfl (by kernel_rfl) (fun _ _ _ h => h) (Or.inl ⟨by rfl, ?_⟩) ?_ ?_
          rotate_left
          · intro w'
            go_simp
            with_reducible rfl
          rotate_left
          · simp only [Act.put, List.setIfInBounds_toArray, List.set_cons_zero, List.set_cons_succ]
            rfl
          refine pure_ (i := 7) (N := some 36) (v := ?_) (a' := ?_) #[true, true, true, true, true, true, true, true, false, false, false, false, false, false] rfl rfl (by kernel_rfl) (fun _ _ _ h => h) (Or.inl ⟨by rfl, ?_⟩) ?_ ?_
          rotate_left
          · intro w'
            go_simp
            with_reducible rfl
          rotate_left
          · simp only [Act.put, List.setIfInBounds_toArray, List.set_cons_zero, List.set_cons_succ]
            rfl
          refine take_ (i := 8) (N := some 37) (v := ?_) (a' := ?_) #[true, true, true, true, true, true, true, true, true, false, false, false, false, false] rfl rfl (by kernel_rfl) (fun _ _ _ h => h) (Or.inl ⟨by rfl, ?_⟩) hHeld ?_ ?_
          rotate_left
          · rintro w' ⟨s0, s1, s2⟩
            go_simp
            with_reducible rfl
          rotate_left
          · simp only [Act.put, List.setIfInBounds_toArray, List.set_cons_zero, List.set_cons_succ]
            rfl
          refine one_ (i := 9) (N := some 38) #[true, true, true, true, true, true, true, true, true, true, false, false, false, false] rfl rfl (by kernel_rfl) (by decide) (fun K hK => ?_)
          refine call_ 48 #[.int .i64 g.f1, .pointer (some ⟨gV, 0, none⟩)] (by rfl) rfl ?hrun2 ?_
          case hrun2 => go_simp
          refine (preds_Value1 gV V cap vals g.f1 _ (by rw [HL.out]; exact (blk_cell I4.out.BV 0).trans rfl) (by have h_ := RS.of_R' I4.out.RV; exact h_) HGI.out.2 (by have := HGP.out; omega) (by have := HGP.out; have := HL.out; omega)).mono ?_
          rintro e w5 ⟨rfl, hb_⟩
          refine ⟨_, rfl, ?_⟩
          have I5 := Aside0.mk (I4.out.below hb_)
          have BG5 := Aside0.mk (blk_below BG4.out hb_)
          clear hb_
          refine hK.out _ _ ⟨(blk_cell I5.out.BV 0).trans rfl, (blk_cell BG5.out 0).trans rfl, (blk_cell BG5.out 1).trans rfl⟩ (fun hHeld => ?_)
          clear hK K
          refine norm_ (a' := ?_) ?_ ?_
          rotate_left
          · show Act.put _ (some 38) _ = _
            simp only [Act.put, List.setIfInBounds_toArray, List.set_cons_zero, List.set_cons_succ]
            rfl
          refine pure_ (i := 10) (N := some 39) (v := ?_) (a' := ?_) #[true, true, true, true, true, true, true, true, true, true, true, false, false, false] rfl rfl (by kernel_rfl) (fun _ _ _ h => h) (Or.inl ⟨by rfl, ?_⟩) ?_ ?_
          rotate_left
          · intro w'
            go_simp
            with_reducible rfl
          rotate_left
          · simp only [Act.put, List.setIfInBounds_toArray, List.set_cons_zero, List.set_cons_succ]
            rfl
          refine one_ (i := 11) (N := some 40) #[true, true, true, true, true, true, true, true, true, true, true, true, false, false] rfl rfl (by kernel_rfl) (by decide) (fun K hK => ?_)
          refine value_ (w1 := ?_) (v := ?_) (by rfl) rfl ?_ ?_
          rotate_left 2
          · go_simp
            constructor
            · rfl
            · rfl
          refine hK.out _ _ ⟨(blk_cell (blk_alloc I5.out.BV _) 0).trans rfl, (blk_cell (blk_alloc BG5.out _) 0).trans rfl, (blk_cell (blk_alloc BG5.out _) 1).trans rfl⟩ (fun hHeld => ?_)
          clear hK K
          refine norm_ (a' := ?_) ?_ ?_
          rotate_left
          · show Act.put _ (some 40) _ = _
            simp only [Act.put, List.setIfInBounds_toArray, List.set_cons_zero, List.set_cons_succ]
            rfl
          refine one_ (i := 12) (N := some 41) #[true, true, true, true, true, true, true, true, true, true, true, true, true, false] rfl rfl (by kernel_rfl) (by decide) (fun K hK => ?_)
          refine Kd.R_append_step Kd.bool (w0 := w) (W := w5) w.heap.size (by rfl) (.tmp 29) (.tmp 40) 46 4 (.bool false) 1 rfl Try.underlying46 infoBool rfl (by decide) (by omega) (.slice V (st.length + 1 + i) cap) vals (litV vals g.f1) [.bool (litV vals g.f1)] (fun _ => True) (fun _ => False) rfl rfl ?aP ?aK ?aF ?aO ?aB ?aS ?aL ?_
          case aP => exact rfl
          case aK => exact fun _ h => h.elim
          case aF => exact fun _ _ => trivial
          case aO => exact I5.out.RV
          case aB => exact I5.out.BW
          case aS => exact I5.out.BW.size
          case aL => have h_ : (st.length : Int) + ands.length ≤ 1000 := HPT.out.2.1; have := HLT.out; have := HL.out; omega
          intro v1 w6 ho hb hg hat
          obtain ⟨V5, cap5, rfl, _, _⟩ := Kd.R_reads ho
          rw [show (vals ++ [litV vals g.f1]).length = st.length + 1 + (i + 1) by rw [List.length_append, HL.out]; rfl] at ho ⊢
          have BC6 := Aside0.mk (blk_grown I5.out.BC hg (Kd.R_ne I5.out.RV I5.out.BC (by decide)))
          have BV6 := Aside0.mk (blk_grown I5.out.BV hg (Kd.R_ne I5.out.RV I5.out.BV (by decide)))
          have BG6 := Aside0.mk (blk_grown BG5.out hg (Kd.R_ne I5.out.RV BG5.out (by decide)))
          have BW6 := Aside0.mk hb
          have R6 := Aside0.mk ho
          clear ho hb hg hat
          have zz := blk_frozen BV6.out 0
          have yy := (blk_cell BV6.out 0).trans rfl
          refine hK.out _ _ ⟨(blk_cell BV6.out 0).trans rfl, (blk_cell BG6.out 0).trans rfl, (blk_cell BG6.out 1).trans rfl⟩ (fun hHeld => ?_)
          clear hK K
          refine norm_ (a' := ?_) ?_ ?_
          rotate_left
          · show Act.put _ (some 41) _ = _
            simp only [Act.put, List.setIfInBounds_toArray, List.set_cons_zero, List.set_cons_succ]
            rfl
          refine last_ (i := 13) (N := none) #[true, true, true, true, true, true, true, true, true, true, true, true, true, true] rfl rfl (by kernel_rfl) (by decide) (fun K hK => ?_)
          refine skip_ (w1 := ?_) (by rfl) rfl ?_ ?_
          rotate_left
          · go_simp
            rfl
          refine hK.out _ _ ?_
          clear hK K
          refine done_ (by kernel_rfl) ?_
          go_wp2
          go_roundg (ands.length - (i + 1))
          case measure => have := HI.out; have := HLT.out; omega
          case rel => exact ⟨i + 1, V5, cap5, vals ++ [litV vals g.f1], val_step HLT.out HX.out, ⟨HLT.out, by have := HI.out; omega⟩, ⟨⟨below_set BW6.out (Nat.le_of_lt HGV.out), blk_far BC6.out (Nat.ne_of_lt HGV.out) _, by simpa using blk_set BV6.out 0 _, Kd.R_set R6.out BV6.out (by decide) 0 _⟩⟩, ⟨by rw [List.length_append, HL.out]; rfl⟩, ⟨by have h_ := HT2.out; rw [HB0.out] at h_; simpa using h_⟩⟩
      · have hi : i = ands.length := by have := HI.out.1; omega
        subst hi
        have g1 := (blk_cell I.out.BC 1).trans rfl
        have HVL := Aside0.mk (show predValue ⟨ands, lit⟩ st = litV vals lit by
          have h_ := HT.out
          rw [List.drop_length] at h_
          unfold predValue
          rw [← h_]
          rfl)
        go_wp2_with fail
        refine (preds_Value1 gV V cap vals lit _ (by rw [HL.out]; exact (blk_cell I.out.BV 0).trans rfl) (RS.of_R' I.out.RV) HF.out.il HPT.out.2.2.2.1 (by have h_ : lit / 2 ≤ (st.length : Int) + ands.length := HPT.out.2.2.2.2; have := HL.out; omega)).mono ?_
        rintro e w4 ⟨rfl, hb4⟩
        have BW4 := Aside0.mk (I.out.BW.trans (hb4.mono I.out.BW.size))
        clear hb4
        go_wp2
        refine bodyPost_ret (results_tmp2 rfl _ _ _) rfl ?_
        refine ⟨?_, BW4.out⟩
        show Ending.returned (.tuple #[.bool (litV vals lit), .int .i64 0]) = _
        rw [← HR.out, HVL.out]
end Go.Proofs.Ytlhiapggccgggaa.PH
