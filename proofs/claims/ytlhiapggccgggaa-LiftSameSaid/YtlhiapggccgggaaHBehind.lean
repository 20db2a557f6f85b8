/- The reference: Behind puts a predicate behind gates. -/
import Derived.Test.YtlhiapggccgggaaHJoin
import Derived.Test.YtlhiapggccgggaaHPut2
namespace Go.Proofs.Ytlhiapggccgggaa.PH
open Go.RowKit Go.Proofs.YtlhiapggccgggaaW.PrintWords Go.Proofs.YtlhiapggccgggaaW.PrintLast
set_option linter.unusedVariables false
set_option linter.unusedSimpArgs false

/-- A literal as Behind has them. -/
def IsMid (l : Int) : Prop := 0 ≤ l ∧ l ≤ 20001
theorem IsMid.big {l : Int} (h : IsMid l) : IsBig l := ⟨h.1, by have := h.2; omega⟩
theorem litNot_mid {l : Int} (h : IsMid l) : IsMid (litNot l) := by
  obtain ⟨h0, h1⟩ := h
  unfold litNot
  constructor <;> split <;> omega
theorem told_mid {own : List Int} {l : Int} (ho : ∀ x ∈ own, IsMid x) (h0 : 0 ≤ l) (h1 : l / 2 < own.length) : IsMid (told own l) := by
  obtain ⟨k, hk⟩ : ∃ k : Nat, l / 2 = (k : Int) := ⟨(l / 2).toNat, by omega⟩
  have hkv : k < own.length := by omega
  have hx := ho _ (List.getElem_mem hkv)
  unfold told
  rw [hk, Int.toNat_natCast, List.getD_eq_getElem?_getD, List.getElem?_eq_getElem hkv, Option.getD_some]
  split
  · exact litNot_mid hx
  · exact hx
theorem simpleR_mid {x y : Int} (hx : IsMid x) (hy : IsMid y) : IsMid (simpleR x y).1 := by
  have h0 : IsMid 0 := ⟨by decide, by decide⟩
  unfold simpleR
  repeat' split
  all_goals assumption
theorem joinR_mid {ands : List Gate} {before : Int} {x y : Int} (hx : IsMid x) (hy : IsMid y) (h0 : 0 ≤ before) (h1 : before + ands.length ≤ 9000) : IsMid (joinR ands before x y).2 ∧ (joinR ands before x y).1.length ≤ ands.length + 1 := by
  have hg := gidx_lt (gateOf x y) ands 0
  unfold joinR
  split
  · exact ⟨simpleR_mid hx hy, by simp⟩
  · split
    · refine ⟨⟨by dsimp only; omega, by dsimp only; omega⟩, by simp⟩
    · exact ⟨⟨by dsimp only; omega, by dsimp only; omega⟩, by simp⟩
/-- What Behind does to what the variables have become, and to the gates. -/
def behindR (before : Int) : List Gate → List Int → List Gate → List Int × List Gate
  | [], own, ands => (own, ands)
  | g :: gs, own, ands => behindR before gs (own ++ [(joinR ands before (told own g.f0) (told own g.f1)).2]) (joinR ands before (told own g.f0) (told own g.f1)).1
def behindB (p : Pr) (ls : List Int) (ands : List Gate) (before : Int) : List Gate × Int :=
  ((behindR before p.f0 (0 :: ls) ands).2, told (behindR before p.f0 (0 :: ls) ands).1 p.f1)
theorem behindR_drop {before : Int} {gs : List Gate} {own : List Int} {ands : List Gate} {k : Nat} (hk : k < gs.length) :
    behindR before (gs.drop k) own ands = behindR before (gs.drop (k + 1)) (own ++ [(joinR ands before (told own gs[k].f0) (told own gs[k].f1)).2]) (joinR ands before (told own gs[k].f0) (told own gs[k].f1)).1 := by
  rw [drop_at hk, behindR]
/-- What holds in Behind's loop. -/
structure HInv (w : World) (b0 : Nat) (E0 : Option Addr) (n0 cap0 : Nat) (A : Option Addr) (k n : Nat) (lit : Int) (V : Option Addr) (m cap : Nat) (own : List Int) (E : Option Addr) (capE : Nat) (ands : List Gate) (wr : World) : Prop where
  BW : Below b0 w wr
  KW : ∀ j, j < w.heap.size → some j ≠ (Value.slice E0 n0 cap0).ownBlock → wr.heap[j]? = w.heap[j]?
  SZ : w.heap.size ≤ wr.heap.size
  OE : ∀ j, (Value.slice E ands.length capE).ownBlock = some j → (Value.slice E0 n0 cap0).ownBlock = some j ∨ w.heap.size ≤ j
  BC : wr.heap[w.heap.size]? = some (.cells #[.slice A n k, .int .i64 lit] 29 (0, 0))
  RV : Kd.R (Kd.int .i64) 3 wr w.heap.size (fun _ => True) (.slice V m cap) own
  RE : Kd.R kGate 93 wr b0 (fun _ => True) (.slice E ands.length capE) ands
theorem HInv.below {w : World} {b0 : Nat} {E0 : Option Addr} {n0 cap0 : Nat} {A : Option Addr} {k n : Nat} {lit : Int} {V : Option Addr} {m cap : Nat} {own : List Int} {E : Option Addr} {capE : Nat} {ands : List Gate} {wr w2 : World}
    (h : HInv w b0 E0 n0 cap0 A k n lit V m cap own E capE ands wr) (hb0 : b0 ≤ w.heap.size) (hb : Below wr.heap.size wr w2) : HInv w b0 E0 n0 cap0 A k n lit V m cap own E capE ands w2 :=
  ⟨h.BW.trans (hb.mono (Nat.le_trans hb0 h.SZ)), fun j h1 h2 => (hb.block j (Nat.lt_of_lt_of_le h1 h.SZ)).trans (h.KW j h1 h2), Nat.le_trans h.SZ hb.size, h.OE, blk_below h.BC hb, Kd.R_below h.RV hb, Kd.R_below h.RE hb⟩
theorem HInv.join {w : World} {b0 : Nat} {E0 : Option Addr} {n0 cap0 : Nat} {A : Option Addr} {k n : Nat} {lit : Int} {V : Option Addr} {m cap : Nat} {own : List Int} {E : Option Addr} {capE : Nat} {ands : List Gate} {wr w2 : World} {E' : Option Addr} {cap' : Nat} {r : List Gate}
    (h : HInv w b0 E0 n0 cap0 A k n lit V m cap own E capE ands wr) (hR : Kd.R kGate 93 w2 b0 (fun _ => True) (.slice E' r.length cap') r) (hO : ∀ k, (Value.slice E' r.length cap').ownBlock = some k → (Value.slice E ands.length capE).ownBlock = some k ∨ wr.heap.size ≤ k) (hB : Below b0 wr w2) (hK : ∀ k, k < wr.heap.size → some k ≠ (Value.slice E ands.length capE).ownBlock → w2.heap[k]? = wr.heap[k]?) :
    HInv w b0 E0 n0 cap0 A k n lit V m cap own E' cap' r w2 := by
  have hC : Value.ownBlock (.slice E ands.length capE) ≠ some w.heap.size := fun e0 => Kd.R_ne h.RE h.BC (by decide) e0.symm
  refine ⟨h.BW.trans hB, fun j h1 h2 => (hK j (Nat.lt_of_lt_of_le h1 h.SZ) (fun e0 => ?_)).trans (h.KW j h1 h2), Nat.le_trans h.SZ hB.size, fun j hj => ?_, (hK _ (blk_lt h.BC) (fun e0 => hC e0.symm)).trans h.BC, R_other h.RV h.RE (by decide) (fun k hlt hne _ _ _ _ => hK k hlt hne), hR⟩
  · rcases h.OE j e0.symm with h4 | h4
    · exact h2 h4.symm
    · omega
  · rcases hO j hj with h4 | h4
    · exact h.OE j h4
    · exact .inr (Nat.le_trans h.SZ h4)
theorem HInv.grown {w : World} {b0 : Nat} {E0 : Option Addr} {n0 cap0 : Nat} {A : Option Addr} {k n : Nat} {lit : Int} {V V' : Option Addr} {m cap m' cap' : Nat} {own own' : List Int} {E : Option Addr} {capE : Nat} {ands : List Gate} {wr w2 : World}
    (h : HInv w b0 E0 n0 cap0 A k n lit V m cap own E capE ands wr) (hb0 : b0 ≤ w.heap.size) (hb : Below w.heap.size wr w2) (hg : wr.grownBy w2 (Value.slice V m cap).ownBlock) (hR : Kd.R (Kd.int .i64) 3 w2 w.heap.size (fun _ => True) (.slice V' m' cap') own') :
    HInv w b0 E0 n0 cap0 A k n lit V' m' cap' own' E capE ands w2 :=
  ⟨h.BW.trans (hb.mono hb0), fun j h1 h2 => (hg.block j (Nat.lt_of_lt_of_le h1 h.SZ) (fun e0 => by have := Kd.R_base h.RV j e0.symm; omega)).trans (h.KW j h1 h2), Nat.le_trans h.SZ hb.size, h.OE, blk_grown h.BC hg (Kd.R_ne h.RV h.BC (by decide)), hR, R_grown2 h.RE h.RV (by decide) hg⟩
theorem R_zero0 (W : World) (base t : Nat) (hb : base ≤ W.heap.size) : Kd.R (Kd.int .i64) t (W.alloc (.cells #[.int .i64 0] t)) base (fun _ => True) (.slice (some ⟨W.heap.size, 0, none⟩) 1 1) [0] :=
  ⟨fun _ _ => trivial, [.int .i64 0], (by have h := World.ownsRow_lit (base := base) (e := t) (size := 1) W #[.int .i64 0] 1 hb (by decide) rfl; simpa using h : (W.alloc (.cells #[.int .i64 0] t)).ownsRow base t 1 (.slice (some ⟨W.heap.size, 0, none⟩) 1 1) 1 [.int .i64 0]), Kd.reps_scalar (enc := Value.int .i64) [0]⟩
set_option maxHeartbeats 4000000 in
set_option maxRecDepth 100000 in
theorem ref24_Behind (b0 : Nat) (E : Option Addr) (cap : Nat) (ands : List Gate) (before : Int) (A : Option Addr) (k : Nat) (p : Pr) (B : Option Addr) (d : Nat) (ls : List Int) (w : World) (hR0 : Kd.R kGate 93 w b0 (fun _ => True) (.slice E ands.length cap) ands) (hb : b0 ≤ w.heap.size) (hf0 : 0 ≤ before) (hf1 : before + ands.length + p.f0.length ≤ 9000)
    (hp : ∀ W, Below b0 w W → RS kGate W A k p.f0) (hpf : p.Fits) (hck : predCheck ls.length p = 0) (hl : RS (Kd.int .i64) w B d ls) (hls : ∀ x ∈ ls, IsMid x) :
    Calls Try.prog 104 #[.slice E ands.length cap, .int .i64 before, pv A k p, .slice B ls.length d] w fun e w' => RetJ b0 E ands.length cap (behindB p ls ands before) w w' e := by
  have HP := Aside0.mk hp
  have HF := Aside0.mk hpf
  have HLS := Aside0.mk hls
  have HLR := Aside0.mk hl
  have HB := Aside0.mk hb
  have HPT := Aside0.mk (predCheck_parts hck)
  have HFI := Aside0.mk (And.intro hf0 hf1)
  have HR0 := Aside0.mk hR0
  have hu24 := Try.underlying29
  have hu71 := Try.underlying93
  obtain ⟨pa, lit⟩ := p
  obtain ⟨R, hR⟩ : ∃ R, behindB ⟨pa, lit⟩ ls ands before = R := ⟨_, rfl⟩
  rw [hR]
  have HR := Aside0.mk hR
  dsimp only [pv] at *
  clear hp hpf hls hl hb hck hf0 hf1 hR hR0
  go_enter Try.func104, Try.ntmps104
  have RZ := Aside0.mk (show Kd.R (Kd.int .i64) 3 ((w.alloc (.cells #[.slice A pa.length k, .int .i64 lit] 29)).alloc (.cells #[.int .i64 0] 3)) w.heap.size (fun _ => True) (.slice (some ⟨w.heap.size + 1, 0, none⟩) 1 1) [0] by simpa using R_zero0 (w.alloc (.cells #[.slice A pa.length k, .int .i64 lit] 29)) w.heap.size 3 (by simp))
  have BZ := Aside0.mk (blk_alloc (blk_new w (.cells #[.slice A pa.length k, .int .i64 lit] 29)) (.cells #[.int .i64 0] 3))
  go_wp2_with (first | (at_builtin; refine Kd.R_append_row (Value.int .i64) (0 : Int) (h1 := fun _ => rfl) (w0 := w) (W := (w.alloc (.cells #[.slice A pa.length k, .int .i64 lit] 29)).alloc (.cells #[.int .i64 0] 3)) w.heap.size rfl (.tmp 13) (.tmp 14) 24 3 (.int .i64 0) 8 rfl Try.underlying24 infoInt rfl (by omega) (.slice (some ⟨w.heap.size + 1, 0, none⟩) 1 1) [0] ls _ _ _ (fun _ => True) rfl rfl ?aF ?aO ?aR ?aB ?aS ?aL ?_; (case aF => exact fun _ _ => trivial); (case aO => exact RZ.out); (case aR => exact Kd.C_below HLR.out.r (below_alloc (below_alloc (Below.refl _ _) _) _)); (case aB => exact below_alloc (below_alloc (Below.refl _ _) _) _); (case aS => simp; omega); (case aL => have h_ : (ls.length : Int) + pa.length ≤ 1000 := HPT.out.2.1; simp; omega); intro v1 w2 ho hb hg hat; obtain ⟨V0, cap0, rfl, _, _⟩ := Kd.R_reads ho; have I0 : Aside0 (HInv w b0 E ands.length cap A k pa.length lit V0 (ls.length + 1) cap0 (0 :: ls) E cap ands w2) := ⟨⟨hb.mono HB.out, fun j h1 _ => hb.block j h1, hb.size, fun j hj => .inl hj, blk_grown BZ.out hg (Kd.R_ne RZ.out BZ.out (by decide)), ho, Kd.R_below HR0.out hb⟩⟩; clear ho hb hg hat)); rotate_left
  have HX := Aside0.mk (HP.out w (Below.refl _ _)).max
  go_loopg [0, 10, 11, 12] pa.length (fun gg s0 s10 s11 s12 wr => ∃ (i : Nat) (V : Option Addr) (c : Nat) (own : List Int) (E2 : Option Addr) (cap2 : Nat) (ands2 : List Gate), s0 = .slice E2 ands2.length cap2 ∧ s10 = .slice V (ls.length + 1 + i) c ∧ s11 = .int .i64 i ∧ Aside0 (i ≤ pa.length ∧ pa.length - i ≤ gg) ∧ Aside0 (HInv w b0 E ands.length cap A k pa.length lit V (ls.length + 1 + i) c own E2 cap2 ands2 wr) ∧ Aside0 (own.length = ls.length + 1 + i ∧ (∀ x ∈ own, IsMid x) ∧ ands2.length ≤ ands.length + i) ∧ Aside0 (behindR before (pa.drop i) own ands2 = behindR before pa (0 :: ls) ands))
  case atStart => exact ⟨0, V0, cap0, 0 :: ls, E, cap, ands, rfl, rfl, rfl, ⟨by omega, by omega⟩, I0, ⟨rfl, fun x hx => by rcases List.mem_cons.1 hx with rfl | h_; exact ⟨by decide, by decide⟩; exact HLS.out x h_, by omega⟩, ⟨rfl⟩⟩
  case round =>
    clear I0 RZ BZ
    obtain ⟨i, V, c, own, E2, cap2, ands2, rfl, rfl, rfl, HI, I, HO, HT⟩ := hrel
    have b0_ := (blk_cell I.out.BC 0).trans rfl
    have b1_ := (blk_cell I.out.BC 1).trans rfl
    by_cases hlt : i < pa.length
    · obtain ⟨ad, e1, hx, hy⟩ := at_gate (HP.out _ I.out.BW).r i hlt
      cases e1
      have hpt := gAnds_at i hlt HPT.out.2.2.1
      have hig := HF.out.ig pa[i] (List.getElem_mem hlt)
      have HTT := HT.out
      rw [behindR_drop hlt] at HTT
      have HLE := Aside0.mk hlt
      have HGT := Aside0.mk (fun W (hW : Below b0 w W) => (by
        obtain ⟨ad', e1, h1, h2⟩ := at_gate (HP.out _ hW).r i hlt
        cases e1
        exact ⟨h1, h2⟩ : W.cell? (ad.add (i * 2)) = some (.int .i64 pa[i].f0) ∧ W.cell? ⟨(ad.add (i * 2)).block, (ad.add (i * 2)).off + 1, none⟩ = some (.int .i64 pa[i].f1)))
      generalize pa[i] = g at *
      have HGP := Aside0.mk hpt
      have HGI := Aside0.mk hig
      have HT2 := Aside0.mk HTT
      clear hpt hig HTT HT
      have hl0 := told_mid HO.out.2.1 (show 0 ≤ g.f0 by have := HGP.out; omega) (by have := HGP.out; have := HO.out.1; omega)
      have hl1 := told_mid HO.out.2.1 (show 0 ≤ g.f1 by have := HGP.out; omega) (by have := HGP.out; have := HO.out.1; omega)
      obtain ⟨x0, hx0⟩ : ∃ x, told own g.f0 = x := ⟨_, rfl⟩
      obtain ⟨x1, hx1⟩ : ∃ x, told own g.f1 = x := ⟨_, rfl⟩
      rw [hx0] at hl0 HT2
      rw [hx1] at hl1 HT2
      have HX0 := Aside0.mk hx0
      have HX1 := Aside0.mk hx1
      have HL0 := Aside0.mk hl0
      have HL1 := Aside0.mk hl1
      clear hx0 hx1 hl0 hl1
      go_wp2
      have I2 := Aside0.mk (I.out.below HB.out (below_drew (Below.refl wr.heap.size wr)))
      have hnn : ¬ ((i : Int) < 0) := by omega
      have hli : (i : Int) < (pa.length : Int) := by have := HLE.out; omega
      refine start_ (n := 24) (S := (fun w' => w'.cell? ⟨w.heap.size, 0, none⟩ = some (.slice (some ad) pa.length k) ∧ w'.cell? (ad.add (i * 2)) = some (.int .i64 g.f0) ∧ w'.cell? ⟨(ad.add (i * 2)).block, (ad.add (i * 2)).off + 1, none⟩ = some (.int .i64 g.f1))) (ds := []) #[false, false, false, false, false, false, false, false, false, false, false, false, false, false, false, false, false, false, false, false, false, false, false, false] (by kernel_rfl) rfl rfl ⟨b0_, hx, hy⟩ (fun hHeld => ?_)
      refine pure_ (i := 0) (N := some 24) (v := ?_) (a' := ?_) #[true, false, false, false, false, false, false, false, false, false, false, false, false, false, false, false, false, false, false, false, false, false, false, false] rfl rfl (by kernel_rfl) (fun _ _ _ h => h) (Or.inl ⟨by rfl, ?_⟩) ?_ ?_
      rotate_left
      · intro w'
        go_simp
        with_reducible rfl
      rotate_left
      · simp only [Act.put, List.setIfInBounds_toArray, List.set_cons_zero, List.set_cons_succ]
        rfl
      refine pure_ (i := 1) (N := some 25) (v := ?_) (a' := ?_) #[true, true, false, false, false, false, false, false, false, false, false, false, false, false, false, false, false, false, false, false, false, false, false, false] rfl rfl (by kernel_rfl) (fun _ _ _ h => h) (Or.inl ⟨by rfl, ?_⟩) ?_ ?_
      rotate_left
      · intro w'
        go_simp
        with_reducible rfl
      rotate_left
      · simp only [Act.put, List.setIfInBounds_toArray, List.set_cons_zero, List.set_cons_succ]
        rfl
      refine pure_ (i := 2) (N := some 26) (v := ?_) (a' := ?_) #[true, true, true, false, false, false, false, false, false, false, false, false, false, false, false, false, false, false, false, false, false, false, false, false] rfl rfl (by kernel_rfl) (fun _ _ _ h => h) (Or.inl ⟨by rfl, ?_⟩) ?_ ?_
      rotate_left
      · intro w'
        go_simp
        with_reducible rfl
      rotate_left
      · simp only [Act.put, List.setIfInBounds_toArray, List.set_cons_zero, List.set_cons_succ]
        rfl
      refine pure_ (i := 3) (N := some 27) (v := ?_) (a' := ?_) #[true, true, true, true, false, false, false, false, false, false, false, false, false, false, false, false, false, false, false, false, false, false, false, false] rfl rfl (by kernel_rfl) (fun _ _ _ h => h) (Or.inl ⟨by rfl, ?_⟩) ?_ ?_
      rotate_left
      · intro w'
        go_simp
        with_reducible rfl
      rotate_left
      · simp only [Act.put, List.setIfInBounds_toArray, List.set_cons_zero, List.set_cons_succ]
        rfl
      refine take_ (i := 4) (N := some 28) (v := ?_) (a' := ?_) #[true, true, true, true, true, false, false, false, false, false, false, false, false, false, false, false, false, false, false, false, false, false, false, false] rfl rfl (by kernel_rfl) (fun _ _ _ h => h) (Or.inl ⟨by rfl, ?_⟩) hHeld ?_ ?_
      rotate_left
      · rintro w' ⟨s0, s1, s2⟩
        go_simp
        with_reducible rfl
      rotate_left
      · simp only [Act.put, List.setIfInBounds_toArray, List.set_cons_zero, List.set_cons_succ]
        rfl
      refine pure_ (i := 5) (N := some 29) (v := ?_) (a' := ?_) #[true, true, true, true, true, true, false, false, false, false, false, false, false, false, false, false, false, false, false, false, false, false, false, false] rfl rfl (by kernel_rfl) (fun _ _ _ h => h) (Or.inl ⟨by rfl, ?_⟩) ?_ ?_
      rotate_left
      · intro w'
        go_simp
        with_reducible rfl
      rotate_left
      · simp only [Act.put, List.setIfInBounds_toArray, List.set_cons_zero, List.set_cons_succ]
        rfl
      refine pure_ (i := 6) (N := some 30) (v := ?_) (a' := ?_) #[true, true, true, true, true, true, true, false, false, false, false, false, false, false, false, false, false, false, false, false, false, false, false, false] rfl rfl (by kernel_rfl) (fun _ _ _ h => h) (Or.inl ⟨by rfl, ?_⟩) ?_ ?_
      rotate_left
      · intro w'
        go_simp
        with_reducible rfl
      rotate_left
      · simp only [Act.put, List.setIfInBounds_toArray, List.set_cons_zero, List.set_cons_succ]
        rfl
      refine pure_ (i := 7) (N := some 31) (v := ?_) (a' := ?_) #[true, true, true, true, true, true, true, true, false, false, false, false, false, false, false, false, false, false, false, false, false, false, false, false] rfl rfl (by kernel_rfl) (fun _ _ _ h => h) (Or.inl ⟨by rfl, ?_⟩) ?_ ?_
      rotate_left
      · intro w'
        go_simp
        with_reducible rfl
      rotate_left
      · simp only [Act.put, List.setIfInBounds_toArray, List.set_cons_zero, List.set_cons_succ]
        rfl
      refine take_ (i := 8) (N := some 32) (v := ?_) (a' := ?_) #[true, true, true, true, true, true, true, true, true, false, false, false, false, false, false, false, false, false, false, false, false, false, false, false] rfl rfl (by kernel_rfl) (fun _ _ _ h => h) (Or.inl ⟨by rfl, ?_⟩) hHeld ?_ ?_
      rotate_left
      · rintro w' ⟨s0, s1, s2⟩
        go_simp
        with_reducible rfl
      rotate_left
      · simp only [Act.put, List.setIfInBounds_toArray, List.set_cons_zero, List.set_cons_succ]
        rfl
      refine pure_ (i := 10) (N := some 34) (v := ?_) (a' := ?_) #[true, true, true, true, true, true, true, true, true, false, true, false, false, false, false, false, false, false, false, false, false, false, false, false] rfl rfl (by kernel_rfl) (fun _ _ _ h => h) (Or.inl ⟨by rfl, ?_⟩) ?_ ?_
      rotate_left
      · intro w'
        go_simp
        with_reducible rfl
      rotate_left
      · simp only [Act.put, List.setIfInBounds_toArray, List.set_cons_zero, List.set_cons_succ]
        rfl
      refine pure_ (i := 11) (N := some 35) (v := ?_) (a' := ?_) #[true, true, true, true, true, true, true, true, true, false, true, true, false, false, false, false, false, false, false, false, false, false, false, false] rfl rfl (by kernel_rfl) (fun _ _ _ h => h) (Or.inl ⟨by rfl, ?_⟩) ?_ ?_
      rotate_left
      · intro w'
        go_simp
        with_reducible rfl
      rotate_left
      · simp only [Act.put, List.setIfInBounds_toArray, List.set_cons_zero, List.set_cons_succ]
        rfl
      refine take_ (i := 12) (N := some 36) (v := ?_) (a' := ?_) #[true, true, true, true, true, true, true, true, true, false, true, true, true, false, false, false, false, false, false, false, false, false, false, false] rfl rfl (by kernel_rfl) (fun _ _ _ h => h) (Or.inl ⟨by rfl, ?_⟩) hHeld ?_ ?_
      rotate_left
      · rintro w' ⟨s0, s1, s2⟩
        go_simp
        with_reducible rfl
      rotate_left
      · simp only [Act.put, List.setIfInBounds_toArray, List.set_cons_zero, List.set_cons_succ]
        rfl
      refine pure_ (i := 13) (N := some 37) (v := ?_) (a' := ?_) #[true, true, true, true, true, true, true, true, true, false, true, true, true, true, false, false, false, false, false, false, false, false, false, false] rfl rfl (by kernel_rfl) (fun _ _ _ h => h) (Or.inl ⟨by rfl, ?_⟩) ?_ ?_
      rotate_left
      · intro w'
        go_simp
        with_reducible rfl
      rotate_left
      · simp only [Act.put, List.setIfInBounds_toArray, List.set_cons_zero, List.set_cons_succ]
        rfl
      refine pure_ (i := 14) (N := some 38) (v := ?_) (a' := ?_) #[true, true, true, true, true, true, true, true, true, false, true, true, true, true, true, false, false, false, false, false, false, false, false, false] rfl rfl (by kernel_rfl) (fun _ _ _ h => h) (Or.inl ⟨by rfl, ?_⟩) ?_ ?_
      rotate_left
      · intro w'
        go_simp
        with_reducible rfl
      rotate_left
      · simp only [Act.put, List.setIfInBounds_toArray, List.set_cons_zero, List.set_cons_succ]
        rfl
      refine pure_ (i := 15) (N := some 39) (v := ?_) (a' := ?_) #[true, true, true, true, true, true, true, true, true, false, true, true, true, true, true, true, false, false, false, false, false, false, false, false] rfl rfl (by kernel_rfl) (fun _ _ _ h => h) (Or.inl ⟨by rfl, ?_⟩) ?_ ?_
      rotate_left
      · intro w'
        go_simp
        with_reducible rfl
      rotate_left
      · simp only [Act.put, List.setIfInBounds_toArray, List.set_cons_zero, List.set_cons_succ]
        rfl
      refine take_ (i := 16) (N := some 40) (v := ?_) (a' := ?_) #[true, true, true, true, true, true, true, true, true, false, true, true, true, true, true, true, true, false, false, false, false, false, false, false] rfl rfl (by kernel_rfl) (fun _ _ _ h => h) (Or.inl ⟨by rfl, ?_⟩) hHeld ?_ ?_
      rotate_left
      · rintro w' ⟨s0, s1, s2⟩
        go_simp
        with_reducible rfl
      rotate_left
      · simp only [Act.put, List.setIfInBounds_toArray, List.set_cons_zero, List.set_cons_succ]
        rfl
      refine one_ (i := 9) (N := some 33) #[true, true, true, true, true, true, true, true, true, true, true, true, true, true, true, true, true, false, false, false, false, false, false, false] rfl rfl (by kernel_rfl) (by decide) (fun K hK => ?_)
      refine goes_ Try.func109 (by kernel_rfl) rfl #[.slice V (ls.length + 1 + i) c, .int .i64 g.f0] (by rfl) rfl rfl (by simp only [List.map_toArray, List.map_cons, List.map_nil] <;> rfl) ?_
      refine (show Calls _ _ #[.slice V (ls.length + 1 + i) c, .int .i64 g.f0] _ _ by have h_ := ref24_Told V c own g.f0 wr.drew (by have h_ := RS.of_R' I2.out.RV; exact h_) (fun x hx => (HO.out.2.1 x hx).big) HGI.out.1 (by have := HGP.out; omega) (by have := HGP.out; have := HO.out.1; omega); rw [HO.out.1] at h_; exact h_).mono ?_
      rintro e w4 ⟨rfl, hb_⟩
      refine ⟨_, rfl, ?_⟩
      have I4 := Aside0.mk (I2.out.below HB.out hb_)
      clear hb_
      refine hK.out _ _ ⟨(blk_cell I4.out.BC 0).trans rfl, HGT.out _ I4.out.BW⟩ (fun hHeld => ?_)
      clear hK K
      refine norm_ (a' := ?_) ?_ ?_
      rotate_left
      · show Act.put _ (some 33) _ = _
        simp only [Act.put, List.setIfInBounds_toArray, List.set_cons_zero, List.set_cons_succ]
        rfl
      rw [HX0.out]
      refine one_ (i := 17) (N := some 41) #[true, true, true, true, true, true, true, true, true, true, true, true, true, true, true, true, true, true, false, false, false, false, false, false] rfl rfl (by kernel_rfl) (by decide) (fun K hK => ?_)
      refine goes_ Try.func109 (by kernel_rfl) rfl #[.slice V (ls.length + 1 + i) c, .int .i64 g.f1] (by rfl) rfl rfl (by simp only [List.map_toArray, List.map_cons, List.map_nil] <;> rfl) ?_
      refine (show Calls _ _ #[.slice V (ls.length + 1 + i) c, .int .i64 g.f1] _ _ by have h_ := ref24_Told V c own g.f1 w4 (by have h_ := RS.of_R' I4.out.RV; exact h_) (fun x hx => (HO.out.2.1 x hx).big) HGI.out.2 (by have := HGP.out; omega) (by have := HGP.out; have := HO.out.1; omega); rw [HO.out.1] at h_; exact h_).mono ?_
      rintro e w5 ⟨rfl, hb_⟩
      refine ⟨_, rfl, ?_⟩
      have I5 := Aside0.mk (I4.out.below HB.out hb_)
      clear hb_
      refine hK.out _ _ ⟨(blk_cell I5.out.BC 0).trans rfl, HGT.out _ I5.out.BW⟩ (fun hHeld => ?_)
      clear hK K
      refine norm_ (a' := ?_) ?_ ?_
      rotate_left
      · show Act.put _ (some 41) _ = _
        simp only [Act.put, List.setIfInBounds_toArray, List.set_cons_zero, List.set_cons_succ]
        rfl
      rw [HX1.out]
      refine one_ (i := 18) (N := some 42) #[true, true, true, true, true, true, true, true, true, true, true, true, true, true, true, true, true, true, true, false, false, false, false, false] rfl rfl (by kernel_rfl) (by decide) (fun K hK => ?_)
      refine goes_ Try.func106 (by kernel_rfl) rfl #[.slice E2 ands2.length cap2, .int .i64 before, .int .i64 x0, .int .i64 x1] (by rfl) rfl rfl (by simp only [List.map_toArray, List.map_cons, List.map_nil] <;> rfl) ?_
      refine (ref24_Join b0 E2 cap2 ands2 before x0 x1 w5 HL0.out.big I5.out.RE (Nat.le_trans HB.out I5.out.SZ) (by have h_ : before + (ands.length : Int) + (pa.length : Int) ≤ 9000 := HFI.out.2; have := HFI.out.1; have := HO.out.2.2; have := HLE.out; omega) HFI.out.1 (by have h_ : before + (ands.length : Int) + (pa.length : Int) ≤ 9000 := HFI.out.2; omega)).mono ?_
      rintro e w7 ⟨E7, cap7, rfl, hR7, hO7, hB7, hK7⟩
      refine ⟨_, rfl, ?_⟩
      have I7 := Aside0.mk (I5.out.join hR7 hO7 hB7 hK7)
      have JM := Aside0.mk (joinR_mid (before := before) (ands := ands2) HL0.out HL1.out HFI.out.1 (by have h_ : before + (ands.length : Int) + (pa.length : Int) ≤ 9000 := HFI.out.2; have := HO.out.2.2; have := HLE.out; omega))
      clear hR7 hO7 hB7 hK7
      generalize joinR ands2 before x0 x1 = r at *
      refine hK.out _ _ ⟨(blk_cell I7.out.BC 0).trans rfl, HGT.out _ I7.out.BW⟩ (fun hHeld => ?_)
      clear hK K
      refine norm_ (a' := ?_) ?_ ?_
      rotate_left
      · show Act.put _ (some 42) _ = _
        simp only [Act.put, List.setIfInBounds_toArray, List.set_cons_zero, List.set_cons_succ]
        rfl
      refine pure_ (i := 19) (N := some 23) (v := ?_) (a' := ?_) #[true, true, true, true, true, true, true, true, true, true, true, true, true, true, true, true, true, true, true, true, false, false, false, false] rfl rfl (by kernel_rfl) (fun _ _ _ h => h) (Or.inl ⟨by rfl, ?_⟩) ?_ ?_
      rotate_left
      · intro w'
        go_simp
        with_reducible rfl
      rotate_left
      · simp only [Act.put, List.setIfInBounds_toArray, List.set_cons_zero, List.set_cons_succ]
        rfl
      refine pure_ (i := 20) (N := some 43) (v := ?_) (a' := ?_) #[true, true, true, true, true, true, true, true, true, true, true, true, true, true, true, true, true, true, true, true, true, false, false, false] rfl rfl (by kernel_rfl) (fun _ _ _ h => h) (Or.inl ⟨by rfl, ?_⟩) ?_ ?_
      rotate_left
      · intro w'
        go_simp
        with_reducible rfl
      rotate_left
      · simp only [Act.put, List.setIfInBounds_toArray, List.set_cons_zero, List.set_cons_succ]
        rfl
      refine pure_ (i := 21) (N := some 44) (v := ?_) (a' := ?_) #[true, true, true, true, true, true, true, true, true, true, true, true, true, true, true, true, true, true, true, true, true, true, false, false] rfl rfl (by kernel_rfl) (fun _ _ _ h => h) (Or.inl ⟨by rfl, ?_⟩) ?_ ?_
      rotate_left
      · intro w'
        go_simp
        with_reducible rfl
      rotate_left
      · simp only [Act.put, List.setIfInBounds_toArray, List.set_cons_zero, List.set_cons_succ]
        rfl
      refine pure_ (i := 22) (N := some 0) (v := ?_) (a' := ?_) #[true, true, true, true, true, true, true, true, true, true, true, true, true, true, true, true, true, true, true, true, true, true, true, false] rfl rfl (by kernel_rfl) (fun _ _ _ h => h) (Or.inl ⟨by rfl, ?_⟩) ?_ ?_
      rotate_left
      · intro w'
        go_simp
        with_reducible rfl
      rotate_left
      · simp only [Act.put, List.setIfInBounds_toArray, List.set_cons_zero, List.set_cons_succ]
        rfl
      refine pure_ (i := 23) (N := some 12) (v := ?_) (a' := ?_) #[true, true, true, true, true, true, true, true, true, true, true, true, true, true, true, true, true, true, true, true, true, true, true, true] rfl rfl (by kernel_rfl) (fun _ _ _ h => h) (Or.inl ⟨by rfl, ?_⟩) ?_ ?_
      rotate_left
      · intro w'
        go_simp
        with_reducible rfl
      rotate_left
      · simp only [Act.put, List.setIfInBounds_toArray, List.set_cons_zero, List.set_cons_succ]
        rfl
      refine done_ (by kernel_rfl) ?_
      go_wp2_with (first | (at_builtin; refine Kd.R_append (Kd.int .i64) (w0 := w7) (W := w7) w.heap.size rfl (.tmp 45) (.tmp 47) 24 3 (.int .i64 0) 8 rfl Try.underlying24 infoInt rfl (by decide) (by omega) (.slice V (ls.length + 1 + i) c) own r.2 [.int .i64 r.2] (fun _ => True) (fun _ => False) rfl rfl ?aP (fun _ h => h.elim) ?aF ?aO ?aB ?aS ?aL ?_; (case aP => exact rfl); (case aF => exact fun _ _ => trivial); (case aO => exact I7.out.RV); (case aB => exact Below.refl _ _); (case aS => exact I7.out.SZ); (case aL => have h_ : (ls.length : Int) + pa.length ≤ 1000 := HPT.out.2.1; have := HLE.out; have := HO.out.1; omega); intro v1 w8 ho hb hg hat; obtain ⟨V8, cap8, rfl, _, _⟩ := Kd.R_reads ho; have e8 : (own ++ [r.2]).length = ls.length + 1 + (i + 1) := by { rw [List.length_append, HO.out.1]; rfl }; rw [e8] at ho; rw [e8]; have E8 := Aside0.mk e8; have I8 := Aside0.mk (I7.out.grown HB.out hb hg ho); clear ho hb hg hat))
      go_roundg (pa.length - (i + 1))
      case measure => have := HI.out; have := HLE.out; omega
      case rel => exact ⟨i + 1, V8, cap8, own ++ [r.2], E7, cap7, r.1, rfl, rfl, val_step HLE.out HX.out, ⟨HLE.out, by have := HI.out; omega⟩, I8, ⟨E8.out, fun x hx => by rcases List.mem_append.1 hx with h_ | h_; exact HO.out.2.1 x h_; exact (List.mem_singleton.1 h_) ▸ JM.out.1, by have := JM.out.2; have := HO.out.2.2; omega⟩, HT2⟩
    · have hi : i = pa.length := by have := HI.out.1; omega
      subst hi
      have HVL := Aside0.mk (show R = (ands2, told own lit) by
        have h_ := HT.out
        rw [List.drop_length] at h_
        have h2 := HR.out
        unfold behindB at h2
        dsimp only at h2
        rw [← h_] at h2
        exact h2.symm)
      have HTL := Aside0.mk (show Calls Try.prog 109 #[.slice V (ls.length + 1 + pa.length) c, .int .i64 lit] wr _ by have h_ := ref24_Told V c own lit wr (by have h_ := RS.of_R' I.out.RV; exact h_) (fun x hx => (HO.out.2.1 x hx).big) HF.out.il HPT.out.2.2.2.1 (by have h_ : lit / 2 ≤ (ls.length : Int) + pa.length := HPT.out.2.2.2.2; have := HO.out.1; omega); rw [HO.out.1] at h_; exact h_)
      go_wp2_with fail
      refine HTL.out.mono ?_
      rintro e w4 ⟨rfl, hb4⟩
      have I4 := Aside0.mk (I.out.below HB.out hb4)
      clear hb4
      go_wp2
      refine bodyPost_ret (results_tmp2 rfl _ _ _) rfl ?_
      rw [HVL.out]
      exact ⟨E2, cap2, rfl, I4.out.RE, I4.out.OE, I4.out.BW, I4.out.KW⟩
end Go.Proofs.Ytlhiapggccgggaa.PH
