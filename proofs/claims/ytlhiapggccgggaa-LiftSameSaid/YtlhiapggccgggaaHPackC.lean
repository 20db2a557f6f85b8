/- Several texts in one: Over, TwoOwn, Agree. -/
import Derived.Test.YtlhiapggccgggaaHPut3
import Derived.Test.YtlhiapggccgggaaHPackA
import Derived.Test.YtlhiapggccgggaaHPreds0
import Derived.Test.YtlhiapggccgggaaHBehind
/- The builder of predicates: over, pred. -/
namespace Go.Proofs.Ytlhiapggccgggaa.PH
open Go.RowKit Go.Proofs.YtlhiapggccgggaaW.PrintWords Go.Proofs.YtlhiapggccgggaaW.PrintLast
set_option linter.unusedVariables false
set_option linter.unusedSimpArgs false

def zeroP : Pr := ⟨[], 0⟩
/-- A predicate and an error come back. -/
def RetP (b : Nat) (w w' : World) (r : Pr × Int) (e : Ending) : Prop := ∃ A k, e = .returned (.tuple #[pv A k r.1, .int .i64 r.2]) ∧ Kd.R kGate 93 w' b (fun _ => True) (.slice A r.1.f0.length k) r.1.f0 ∧ Below w.heap.size w w'
theorem blk2_set {w : World} {g : Nat} {t : TypeId} {v0 v1 : Value} (h : w.heap[g]? = some (.cells #[v0, v1] t (0, 0))) (u0 u1 : Value) :
    ((w.setCell ⟨g, 0, none⟩ u0).setCell ⟨g, 1, none⟩ u1).heap[g]? = some (.cells #[u0, u1] t (0, 0)) :=
  by simpa using blk_set (blk_set h 0 u0) 1 u1
theorem blk2w {w : World} {g : Nat} {t : TypeId} {v0 v1 : Value} (h : w.heap[g]? = some (.cells #[v0, v1] t (0, 0))) :
    (w.cell? ⟨g, 0, none⟩ = some v0 ∧ w.cell? ⟨g, 1, none⟩ = some v1) ∧ (w.frozen? ⟨g, 0, none⟩ = false ∧ w.frozen? ⟨g, 1, none⟩ = false) :=
  ⟨⟨(blk_cell h 0).trans rfl, (blk_cell h 1).trans rfl⟩, blk_frozen h 0, blk_frozen h 1⟩
theorem below2 {b : Nat} {w W : World} {g : Nat} (h : Below b w W) (hg : b ≤ g) (u0 u1 : Value) : Below b w ((W.setCell ⟨g, 0, none⟩ u0).setCell ⟨g, 1, none⟩ u1) :=
  Below.setCell (Below.setCell h (p := ⟨g, 0, none⟩) hg _) (p := ⟨g, 1, none⟩) hg _
theorem far2 {w : World} {g b : Nat} {t : TypeId} {cs : Array Value} (h : w.heap[b]? = some (.cells cs t (0, 0))) (hn : b ≠ g) (u0 u1 : Value) : ((w.setCell ⟨g, 0, none⟩ u0).setCell ⟨g, 1, none⟩ u1).heap[b]? = some (.cells cs t (0, 0)) :=
  blk_far (blk_far h hn _) hn _
theorem R2 {α : Type} {d : Kd α} {e base : Nat} {w : World} {ok : Nat → Prop} {v : Value} {xs : List α} (h : d.R e w base ok v xs) {g t : Nat} {cs : Array Value} (hb : w.heap[g]? = some (.cells cs t (0, 0))) (ht : ∀ q, q ∈ e :: d.E → q ≠ t) (u0 u1 : Value) :
    d.R e ((w.setCell ⟨g, 0, none⟩ u0).setCell ⟨g, 1, none⟩ u1) base ok v xs :=
  Kd.R_set (Kd.R_set h hb ht 0 u0) (blk_set hb 0 u0) ht 1 u1
/-- The literal of a latch. -/
theorem preds_over1 (v : Int) (w : World) (h0 : 0 ≤ v) (h1 : v ≤ 100000) :
    Calls Try.prog 92 #[.int .i64 v] w fun e w' => e = .returned (.int .i64 (2 * v)) ∧ Below w.heap.size w w' := by
  have HW := Aside0.mk (show wrap64 (2 * v) = 2 * v from wrap_in (by omega) (by omega))
  clear h0 h1
  go_enter Try.func92, Try.ntmps92
  go_wp2
  go_ret
  exact ⟨ret_int HW.out, Below.refl _ _⟩
/-- A builder comes back, over so many latches, with these gates. -/
def RetO (n : Int) (ands : List Gate) (w w' : World) (e : Ending) : Prop :=
  ∃ g E cap, e = .returned (.pointer (some ⟨g, 0, none⟩)) ∧ BInv w.heap.size g E cap ands (n + 1) (.func (.func 92) #[] #[]) false w' ∧ w.heap.size ≤ g ∧ Below w.heap.size w w'
set_option maxHeartbeats 2000000 in
set_option maxRecDepth 100000 in
theorem preds_over (n : Int) (A : Option Addr) (c : Nat) (l : List Gate) (w : World) (h : RS kGate w A c l) (hl : l.length ≤ 4000000) (h0 : 0 ≤ n) (h1 : n ≤ 1000) :
    Calls Try.prog 71 #[.int .i64 n, .slice A l.length c] w fun e w' => RetO n l w w' e := by
  have HC := Aside0.mk (slices_Clone_gate A c l w h hl)
  have hw : wrap64 (n + 1) = n + 1 := wrap_in (by omega) (by omega)
  clear h hl h0 h1
  go_enter Try.func71, Try.ntmps71
  go_wp2_with fail
  refine HC.out.mono ?_
  rintro e w1 ⟨E, cE, rfl, hR, hb⟩
  have R1 := Aside0.mk hR
  have B1 := Aside0.mk hb
  clear hR hb
  go_wp2
  go_ret
  exact ⟨w1.heap.size, E, cE, rfl, ⟨blk_new _ _, Kd.R_alloc R1.out _⟩, B1.out.size, below_alloc B1.out _⟩
def predR (ands : List Gate) (full : Bool) (lit : Int) : Pr × Int := if full then (zeroP, 4) else (⟨ands, lit⟩, 0)
set_option maxHeartbeats 2000000 in
set_option maxRecDepth 100000 in
theorem builder_pred (b0 gB : Nat) (E : Option Addr) (cap : Nat) (ands : List Gate) (first : Int) (F : Value) (full : Bool) (lit : Int) (w : World) (hI : BInv b0 gB E cap ands first F full w) :
    Calls Try.prog 72 #[.pointer (some ⟨gB, 0, none⟩), .int .i64 lit] w fun e w' => RetP b0 w w' (predR ands full lit) e := by
  have hu24 := Try.underlying29
  have hu83 := Try.underlying139
  have B1 := Aside0.mk (below_alloc (Below.refl w.heap.size w) (.cells #[.slice none 0 0, .int .i64 0] 29))
  have BB := Aside0.mk (blk_below hI.BB B1.out)
  have RR := Aside0.mk (Kd.R_below hI.RR B1.out)
  have BN := Aside0.mk (blk_new w (.cells #[.slice none 0 0, .int .i64 0] 29))
  have q0 := (blk_cell BB.out 0).trans rfl
  have q3 := (blk_cell BB.out 3).trans rfl
  obtain ⟨⟨r0, r1⟩, z0, z1⟩ := blk2w BN.out
  have HI := Aside0.mk hI
  clear hI
  unfold predR
  cases full with
  | true =>
    rw [if_pos rfl]
    go_enter Try.func72, Try.ntmps72
    go_wp2
    refine bodyPost_ret (results_ct rfl _ _ w.heap.size 29 #[.slice none 0 0, .int .i64 0] (0, 0) _ rfl BN.out hu24 rfl (by kernel_rfl)) rfl ?_
    exact ⟨none, 0, rfl, Kd.R_nil _ _ _ _ _, B1.out⟩
  | false =>
    rw [if_neg (by decide)]
    go_enter Try.func72, Try.ntmps72
    go_wp2
    refine bodyPost_ret (results_ct rfl _ _ w.heap.size 29 #[.slice E ands.length cap, .int .i64 lit] (0, 0) _ rfl (blk_new _ _) hu24 rfl (by kernel_rfl)) rfl ?_
    exact ⟨E, cap, rfl, Kd.R_alloc HI.out.RR _, below_alloc (Below.refl _ _) _⟩
end Go.Proofs.Ytlhiapggccgggaa.PH

/- Small functions over predicates: two, Two, Own, Few. -/
namespace Go.Proofs.Ytlhiapggccgggaa.PH
open Go.RowKit Go.Proofs.YtlhiapggccgggaaW.PrintWords Go.Proofs.YtlhiapggccgggaaW.PrintLast
set_option linter.unusedVariables false
set_option linter.unusedSimpArgs false

/-- The error of two predicates. -/
def twoErr (n : Int) (p q : Pr) : Int := if predCheck n p ≠ 0 then predCheck n p else predCheck n q
structure WInv (w : World) (A : Option Addr) (k : Nat) (p : Pr) (B : Option Addr) (d : Nat) (q : Pr) (wr : World) : Prop where
  BW : Below w.heap.size w wr
  B0 : wr.heap[w.heap.size]? = some (.cells #[.slice A p.f0.length k, .int .i64 p.f1] 29 (0, 0))
  B1 : wr.heap[w.heap.size + 1]? = some (.cells #[.slice B q.f0.length d, .int .i64 q.f1] 29 (0, 0))
theorem WInv.below {w : World} {A : Option Addr} {k : Nat} {p : Pr} {B : Option Addr} {d : Nat} {q : Pr} {wr w2 : World} (h : WInv w A k p B d q wr) (hb : Below wr.heap.size wr w2) : WInv w A k p B d q w2 :=
  ⟨h.BW.trans (hb.mono h.BW.size), blk_below h.B0 hb, blk_below h.B1 hb⟩
theorem WInv.start (w : World) (A : Option Addr) (k : Nat) (p : Pr) (B : Option Addr) (d : Nat) (q : Pr) : WInv w A k p B d q ((w.alloc (.cells #[.slice A p.f0.length k, .int .i64 p.f1] 29)).alloc (.cells #[.slice B q.f0.length d, .int .i64 q.f1] 29)) :=
  ⟨below_alloc (below_alloc (Below.refl _ _) _) _, blk_alloc (blk_new _ _) _, by simpa using blk_new (w.alloc (.cells #[.slice A p.f0.length k, .int .i64 p.f1] 29)) (.cells #[.slice B q.f0.length d, .int .i64 q.f1] 29)⟩
set_option maxHeartbeats 1000000 in
set_option maxRecDepth 100000 in
theorem preds_two (n : Int) (A : Option Addr) (k : Nat) (p : Pr) (B : Option Addr) (d : Nat) (q : Pr) (w : World) (hp : RS kGate w A k p.f0) (hpf : p.Fits) (hq : RS kGate w B d q.f0) (hqf : q.Fits) :
    Calls Try.prog 70 #[.int .i64 n, pv A k p, pv B d q] w fun e w' => e = .returned (.int .i64 (twoErr n p q)) ∧ Below w.heap.size w w' := by
  have H1 := Aside0.mk (fun W (hb : Below w.heap.size w W) => preds_Check n A k p W (hp.below hb) hpf)
  have H2 := Aside0.mk (fun W (hb : Below w.heap.size w W) => preds_Check n B d q W (hq.below hb) hqf)
  have I0 := Aside0.mk (WInv.start w A k p B d q)
  have hu24 := Try.underlying29
  clear hp hq hpf hqf
  unfold twoErr
  generalize predCheck n p = e1 at *
  generalize predCheck n q = e2 at *
  obtain ⟨R, hR⟩ : ∃ R, (if e1 ≠ 0 then e1 else e2) = R := ⟨_, rfl⟩
  rw [hR]
  have HR := Aside0.mk hR
  clear hR
  obtain ⟨pa, pl⟩ := p
  obtain ⟨qa, ql⟩ := q
  dsimp only [pv] at *
  obtain ⟨r0, r1⟩ := (blk2w I0.out.B0).1
  go_enter Try.func70, Try.ntmps70
  go_wp2_with fail
  refine (H1.out _ I0.out.BW).mono ?_
  rintro e w1 ⟨rfl, hb1⟩
  have I1 := Aside0.mk (I0.out.below hb1)
  clear hb1 r0 r1
  obtain ⟨r0, r1⟩ := (blk2w I1.out.B1).1
  by_cases h1 : e1 = 0
  · have HR2 := Aside0.mk (show R = e2 by have h_ := HR.out; rw [if_neg (by rw [h1]; simp)] at h_; exact h_.symm)
    rw [h1]
    clear h1
    go_wp2_with fail
    refine (H2.out _ I1.out.BW).mono ?_
    rintro e w2 ⟨rfl, hb2⟩
    have I2 := Aside0.mk (I1.out.below hb2)
    clear hb2
    go_wp2
    go_ret
    exact ⟨ret_int HR2.out.symm, I2.out.BW⟩
  · have HR2 := Aside0.mk (show R = e1 by have h_ := HR.out; rw [if_pos h1] at h_; exact h_.symm)
    have hb : (e1 != 0) = true := bne_iff_ne.mpr h1
    clear h1
    go_wp2
    go_ret
    exact ⟨ret_int HR2.out.symm, I1.out.BW⟩
set_option maxHeartbeats 1000000 in
set_option maxRecDepth 100000 in
theorem ref24_Two (n : Int) (A : Option Addr) (k : Nat) (p : Pr) (B : Option Addr) (d : Nat) (q : Pr) (w : World) (hp : RS kGate w A k p.f0) (hpf : p.Fits) (hq : RS kGate w B d q.f0) (hqf : q.Fits) :
    Calls Try.prog 85 #[.int .i64 n, pv A k p, pv B d q] w fun e w' => e = .returned (.int .i64 (twoErr n p q)) ∧ Below w.heap.size w w' := by
  have H1 := Aside0.mk (fun W (hb : Below w.heap.size w W) => ref24_Check n A k p W (hp.below hb) hpf)
  have H2 := Aside0.mk (fun W (hb : Below w.heap.size w W) => ref24_Check n B d q W (hq.below hb) hqf)
  have I0 := Aside0.mk (WInv.start w A k p B d q)
  have hu24 := Try.underlying29
  clear hp hq hpf hqf
  unfold twoErr
  generalize predCheck n p = e1 at *
  generalize predCheck n q = e2 at *
  obtain ⟨R, hR⟩ : ∃ R, (if e1 ≠ 0 then e1 else e2) = R := ⟨_, rfl⟩
  rw [hR]
  have HR := Aside0.mk hR
  clear hR
  obtain ⟨pa, pl⟩ := p
  obtain ⟨qa, ql⟩ := q
  dsimp only [pv] at *
  obtain ⟨r0, r1⟩ := (blk2w I0.out.B0).1
  go_enter Try.func85, Try.ntmps85
  go_wp2_with fail
  refine (H1.out _ I0.out.BW).mono ?_
  rintro e w1 ⟨rfl, hb1⟩
  have I1 := Aside0.mk (I0.out.below hb1)
  clear hb1 r0 r1
  obtain ⟨r0, r1⟩ := (blk2w I1.out.B1).1
  by_cases h1 : e1 = 0
  · have HR2 := Aside0.mk (show R = e2 by have h_ := HR.out; rw [if_neg (by rw [h1]; simp)] at h_; exact h_.symm)
    rw [h1]
    clear h1
    go_wp2_with fail
    refine (H2.out _ I1.out.BW).mono ?_
    rintro e w2 ⟨rfl, hb2⟩
    have I2 := Aside0.mk (I1.out.below hb2)
    clear hb2
    go_wp2
    go_ret
    exact ⟨ret_int HR2.out.symm, I2.out.BW⟩
  · have HR2 := Aside0.mk (show R = e1 by have h_ := HR.out; rw [if_pos h1] at h_; exact h_.symm)
    have hb : (e1 != 0) = true := bne_iff_ne.mpr h1
    clear h1
    go_wp2
    go_ret
    exact ⟨ret_int HR2.out.symm, I1.out.BW⟩
/-- The literals of n latches. -/
def ownLits (k : Nat) : List Int := (List.range k).map (fun (i : Nat) => 2 * ((i : Int) + 1))
theorem ownLits_len (k : Nat) : (ownLits k).length = k := by simp [ownLits]
theorem ownLits_succ (k : Nat) : ownLits (k + 1) = ownLits k ++ [2 * ((k : Int) + 1)] := by simp [ownLits, List.range_succ]
theorem ownLits_get (k i : Nat) (h : i < (ownLits k).length) : (ownLits k)[i] = 2 * ((i : Int) + 1) := by simp [ownLits]
theorem ownLits_mem {k : Nat} {x : Int} (h : x ∈ ownLits k) : 0 ≤ x ∧ x ≤ 2 * k := by
  unfold ownLits at h
  obtain ⟨i, hi, rfl⟩ := List.mem_map.1 h
  have := List.mem_range.1 hi
  constructor <;> omega
set_option maxHeartbeats 2000000 in
set_option maxRecDepth 100000 in
theorem ref24_Own (n : Nat) (z : Int) (w : World) (hz : z = n) (hn : n ≤ 1000) :
    Calls Try.prog 105 #[.int .i64 z] w fun e w' => RetR (Kd.int .i64) 3 w w' (ownLits n) e := by
  have HZ := Aside0.mk hz
  have HN := Aside0.mk hn
  clear hz hn
  go_enter Try.func105, Try.ntmps105
  go_wp2
  go_loopg [3, 4] n (fun gg s3 s4 wr => ∃ (k : Nat) (A : Option Addr) (cap : Nat), s3 = .slice A k cap ∧ s4 = .int .i64 ((k : Int) + 1) ∧ Aside0 (k ≤ n ∧ n - k ≤ gg) ∧ Aside0 (Below w.heap.size w wr) ∧ Aside0 (Kd.R (Kd.int .i64) 3 wr w.heap.size (fun _ => True) (.slice A k cap) (ownLits k)))
  case atStart => exact ⟨0, none, 0, rfl, rfl, ⟨by omega, by omega⟩, ⟨Below.refl _ _⟩, ⟨Kd.R_nil _ _ _ _ _⟩⟩
  case round =>
    obtain ⟨k, A, cap, rfl, rfl, HK, BW, RW⟩ := hrel
    by_cases hlt : k < n
    · have hle : (k : Int) + 1 ≤ z := by have := HZ.out; omega
      have HLT := Aside0.mk hlt
      have hw : wrap64 (2 * ((k : Int) + 1)) = 2 * ((k : Int) + 1) := by have := HN.out; rw [wrap_in (by omega) (by omega)]
      clear hlt
      go_wp2_with (first | (at_builtin; refine Kd.R_append (Kd.int .i64) (w0 := wr) (W := wr) w.heap.size rfl (.tmp 10) (.tmp 13) 24 3 (.int .i64 0) 8 rfl Try.underlying24 infoInt rfl (by decide) (by omega) (.slice A k cap) (ownLits k) (2 * ((k : Int) + 1)) [.int .i64 (2 * ((k : Int) + 1))] (fun _ => True) (fun _ => False) rfl rfl ?aP (fun _ h => h.elim) ?aF ?aO ?aB ?aS ?aL ?_; (case aP => exact rfl); (case aF => exact fun _ _ => trivial); (case aO => exact RW.out); (case aB => exact Below.refl _ _); (case aS => exact BW.out.size); (case aL => have := HN.out; have := HLT.out; rw [ownLits_len]; omega); intro v1 w8 ho hb hg hat; obtain ⟨V8, cap8, rfl, _, _⟩ := Kd.R_reads ho; rw [← ownLits_succ, ownLits_len] at ho; rw [← ownLits_succ, ownLits_len]; have R8 := Aside0.mk ho; have B8 := Aside0.mk (BW.out.trans hb); clear ho hb hg hat))
      go_roundg (n - (k + 1))
      case measure => have := HK.out; have := HLT.out; omega
      case rel => exact ⟨k + 1, V8, cap8, rfl, val_eq (by have := HN.out; have := HLT.out; rw [wrap_in (by omega) (by omega)]; omega), ⟨HLT.out, by have := HK.out; omega⟩, B8, R8⟩
    · have hle : ¬ (k : Int) + 1 ≤ z := by have := HZ.out; omega
      have hk : k = n := by have := HK.out.1; omega
      subst hk
      go_wp2
      go_ret
      exact ⟨A, cap, by rw [ownLits_len]; rfl, by rw [ownLits_len]; exact RW.out, BW.out⟩
/-- A predicate, if it has not too many gates. -/
def fewR (n : Int) (p : Pr) : Pr × Int := if 1000 < n + p.f0.length then (zeroP, 4) else (p, 0)
set_option maxHeartbeats 1000000 in
set_option maxRecDepth 100000 in
theorem ref24_Few (n : Int) (b : Nat) (A : Option Addr) (k : Nat) (p : Pr) (w : World) (h : Kd.R kGate 93 w b (fun _ => True) (.slice A p.f0.length k) p.f0) (h0 : 0 ≤ n) (h1 : n ≤ 100000) (h2 : p.f0.length ≤ 100000) :
    Calls Try.prog 86 #[.int .i64 n, pv A k p] w fun e w' => RetP b w w' (fewR n p) e := by
  have hw : wrap64 (n + (p.f0.length : Int)) = n + p.f0.length := by rw [wrap_in (by omega) (by omega)]
  have hu24 := Try.underlying29
  have B2 := Aside0.mk (below_alloc (below_alloc (Below.refl w.heap.size w) (.cells #[.slice A p.f0.length k, .int .i64 p.f1] 29)) (.cells #[.slice none 0 0, .int .i64 0] 29))
  have BC := Aside0.mk (blk_alloc (blk_new w (.cells #[.slice A p.f0.length k, .int .i64 p.f1] 29)) (.cells #[.slice none 0 0, .int .i64 0] 29))
  have BN := Aside0.mk (show ((w.alloc (.cells #[.slice A p.f0.length k, .int .i64 p.f1] 29)).alloc (.cells #[.slice none 0 0, .int .i64 0] 29)).heap[w.heap.size + 1]? = some (.cells #[.slice none 0 0, .int .i64 0] 29 (0, 0)) by simpa using blk_new (w.alloc (.cells #[.slice A p.f0.length k, .int .i64 p.f1] 29)) (.cells #[.slice none 0 0, .int .i64 0] 29))
  have HH := Aside0.mk h
  clear h h0 h1 h2
  obtain ⟨pa, pl⟩ := p
  dsimp only [pv] at *
  obtain ⟨⟨r0, r1⟩, z0, z1⟩ := blk2w BN.out
  obtain ⟨q0, q1⟩ := (blk2w BC.out).1
  have HNE := Aside0.mk (show w.heap.size ≠ w.heap.size + 1 by omega)
  unfold fewR
  dsimp only
  by_cases hf : 1000 < n + (pa.length : Int)
  · rw [if_pos hf]
    go_enter Try.func86, Try.ntmps86
    go_wp2
    refine bodyPost_ret (results_ct rfl _ _ (w.heap.size + 1) 29 #[.slice none 0 0, .int .i64 0] (0, 0) _ rfl BN.out hu24 rfl (by kernel_rfl)) rfl ?_
    exact ⟨none, 0, rfl, Kd.R_nil _ _ _ _ _, B2.out⟩
  · rw [if_neg hf]
    go_enter Try.func86, Try.ntmps86
    go_wp2
    have BN2 : ((w.alloc (.cells #[.slice A pa.length k, .int .i64 pl] 29)).alloc (.cells #[.slice A pa.length k, .int .i64 pl] 29)).heap[w.heap.size + 1]? = some (.cells #[.slice A pa.length k, .int .i64 pl] 29 (0, 0)) := by simpa using blk_new (w.alloc (.cells #[.slice A pa.length k, .int .i64 pl] 29)) (.cells #[.slice A pa.length k, .int .i64 pl] 29)
    refine bodyPost_ret (results_ct rfl _ _ (w.heap.size + 1) 29 #[.slice A pa.length k, .int .i64 pl] (0, 0) _ rfl BN2 hu24 rfl (by kernel_rfl)) rfl ?_
    exact ⟨A, k, rfl, Kd.R_alloc (Kd.R_alloc HH.out _) _, below_alloc (below_alloc (Below.refl _ _) _) _⟩
end Go.Proofs.Ytlhiapggccgggaa.PH

/- The program's builder and the reference agree, in plain Lean. -/
namespace Go.Proofs.Ytlhiapggccgggaa.PH
open Go.RowKit Go.Proofs.YtlhiapggccgggaaW.PrintWords
set_option linter.unusedVariables false
set_option linter.unusedSimpArgs false

/-! ### The program's builder and the reference agree -/
theorem andR_full (ands : List Gate) (first : Int) (x y : Int) : (andR ands first true x y).2.1 = true := by
  unfold andR
  split
  · rfl
  · split
    · split <;> rfl
    · rfl
theorem putR_full (first : Int) : ∀ (gs : List Gate) (own : List Int) (ands : List Gate), (putR first gs own ands true).2.2 = true
  | [], own, ands => rfl
  | g :: gs, own, ands => by rw [putR, andR_full]; exact putR_full first gs _ _
theorem joinR_mono (ands : List Gate) (before : Int) (x y : Int) : ands.length ≤ (joinR ands before x y).1.length := by
  unfold joinR
  split
  · exact Nat.le_refl _
  · split <;> simp
theorem behindR_mono (before : Int) : ∀ (gs : List Gate) (own : List Int) (ands : List Gate), ands.length ≤ (behindR before gs own ands).2.length
  | [], own, ands => Nat.le_refl _
  | g :: gs, own, ands => by
    rw [behindR]
    exact Nat.le_trans (joinR_mono ands before _ _) (behindR_mono before gs _ _)
theorem put_behind (before : Int) : ∀ (gs : List Gate) (own : List Int) (ands : List Gate), (1 + before) + ands.length ≤ 1001 →
    ((putR (1 + before) gs own ands false).2.2 = false ∧ (putR (1 + before) gs own ands false).1 = (behindR before gs own ands).1 ∧ (putR (1 + before) gs own ands false).2.1 = (behindR before gs own ands).2 ∧ (1 + before) + (behindR before gs own ands).2.length ≤ 1001) ∨
    ((putR (1 + before) gs own ands false).2.2 = true ∧ 1001 < (1 + before) + (behindR before gs own ands).2.length)
  | [], own, ands, h => .inl ⟨rfl, rfl, rfl, h⟩
  | g :: gs, own, ands, h => by
    rw [putR, behindR]
    generalize told own g.f0 = x
    generalize told own g.f1 = y
    unfold andR joinR
    split
    · exact put_behind before gs _ ands h
    · split
      · split
        · refine .inr ⟨putR_full _ _ _ _, ?_⟩
          have := behindR_mono before gs (own ++ [2 * (before + 1 + (ands.length : Int))]) (ands ++ [gateOf x y])
          simp only [List.length_append, List.length_singleton] at this
          dsimp only
          omega
        · dsimp only
          rw [show 2 * (1 + before + (ands.length : Int)) = 2 * (before + 1 + (ands.length : Int)) by omega]
          exact put_behind before gs _ _ (by simp only [List.length_append, List.length_singleton]; omega)
      · dsimp only
        rw [show 2 * (1 + before + gidx (gateOf x y) ands 0) = 2 * (before + 1 + gidx (gateOf x y) ands 0) by omega]
        exact put_behind before gs _ _ h
/-- One AND. -/
theorem and_join (before : Int) (ands : List Gate) (x y : Int) (h : (1 + before) + ands.length ≤ 1001) :
    ((andR ands (1 + before) false x y).2.1 = false ∧ (andR ands (1 + before) false x y).1 = (joinR ands before x y).1 ∧ (andR ands (1 + before) false x y).2.2 = (joinR ands before x y).2 ∧ (1 + before) + (joinR ands before x y).1.length ≤ 1001) ∨
    ((andR ands (1 + before) false x y).2.1 = true ∧ 1001 < (1 + before) + (joinR ands before x y).1.length) := by
  unfold andR joinR
  split
  · exact .inl ⟨rfl, rfl, rfl, h⟩
  · split
    · split
      · exact .inr ⟨rfl, by simp only [List.length_append, List.length_singleton]; omega⟩
      · exact .inl ⟨rfl, rfl, by dsimp only; omega, by simp only [List.length_append, List.length_singleton]; omega⟩
    · exact .inl ⟨rfl, rfl, by dsimp only; omega, h⟩
end Go.Proofs.Ytlhiapggccgggaa.PH
