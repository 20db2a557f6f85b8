/- Small functions over predicates: two, Two, Own, Few. -/
import Derived.Test.YtlhiapggccgggaaHOver
import Derived.Test.YtlhiapggccgggaaHPreds0
namespace Go.Proofs.Ytlhiapggccgggaa.PH
open Go.RowKit Go.Proofs.YtlhiapggccgggaaW.PrintWords Go.Proofs.YtlhiapggccgggaaW.PrintLast
set_option linter.unusedVariables false
set_option linter.unusedSimpArgs false

/-- The error of two predicates. -/
def twoErr (n : Int) (p q : Pr) : Int := if predCheck n p ≠ 0 then predCheck n p else predCheck n q
structure WInv (w : World) (A : Option Addr) (k : Nat) (p : Pr) (B : Option Addr) (d : Nat) (q : Pr) (wr : World) : Prop where
  BW : Below w.heap.size w wr
  B0 : wr.heap[w.heap.size]? = some (.cells #[.slice A p.f0.length k, .int .i64 p.f1] 29 (0, 0))
  B1 : wr.heap[w.heap.size + 1]? = some (.cells #[.slice B q.f0.length d, .int .i64 q.f1] 29 (0, 0))
theorem WInv.below {w : World} {A : Option Addr} {k : Nat} {p : Pr} {B : Option Addr} {d : Nat} {q : Pr} {wr w2 : World} (h : WInv w A k p B d q wr) (hb : Below wr.heap.size wr w2) : WInv w A k p B d q w2 :=
  ⟨h.BW.trans (hb.mono h.BW.size), blk_below h.B0 hb, blk_below h.B1 hb⟩
theorem WInv.start (w : World) (A : Option Addr) (k : Nat) (p : Pr) (B : Option Addr) (d : Nat) (q : Pr) : WInv w A k p B d q ((w.alloc (.cells #[.slice A p.f0.length k, .int .i64 p.f1] 29)).alloc (.cells #[.slice B q.f0.length d, .int .i64 q.f1] 29)) :=
  ⟨below_alloc (below_alloc (Below.refl _ _) _) _, blk_alloc (blk_new _ _) _, by simpa using blk_new (w.alloc (.cells #[.slice A p.f0.length k, .int .i64 p.f1] 29)) (.cells #[.slice B q.f0.length d, .int .i64 q.f1] 29)⟩
set_option maxHeartbeats 1000000 in
set_option maxRecDepth 100000 in
theorem preds_two (n : Int) (A : Option Addr) (k : Nat) (p : Pr) (B : Option Addr) (d : Nat) (q : Pr) (w : World) (hp : RS kGate w A k p.f0) (hpf : p.Fits) (hq : RS kGate w B d q.f0) (hqf : q.Fits) :
    Calls Try.prog 70 #[.int .i64 n, pv A k p, pv B d q] w fun e w' => e = .returned (.int .i64 (twoErr n p q)) ∧ Below w.heap.size w w' := by
  have H1 := Aside0.mk (fun W (hb : Below w.heap.size w W) => preds_Check n A k p W (hp.below hb) hpf)
  have H2 := Aside0.mk (fun W (hb : Below w.heap.size w W) => preds_Check n B d q W (hq.below hb) hqf)
  have I0 := Aside0.mk (WInv.start w A k p B d q)
  have hu24 := Try.underlying29
  clear hp hq hpf hqf
  unfold twoErr
  generalize predCheck n p = e1 at *
  generalize predCheck n q = e2 at *
  obtain ⟨R, hR⟩ : ∃ R, (if e1 ≠ 0 then e1 else e2) = R := ⟨_, rfl⟩
  rw [hR]
  have HR := Aside0.mk hR
  clear hR
  obtain ⟨pa, pl⟩ := p
  obtain ⟨qa, ql⟩ := q
  dsimp only [pv] at *
  obtain ⟨r0, r1⟩ := (blk2w I0.out.B0).1
  go_enter Try.func70, Try.ntmps70
  go_wp2_with fail
  refine (H1.out _ I0.out.BW).mono ?_
  rintro e w1 ⟨rfl, hb1⟩
  have I1 := Aside0.mk (I0.out.below hb1)
  clear hb1 r0 r1
  obtain ⟨r0, r1⟩ := (blk2w I1.out.B1).1
  by_cases h1 : e1 = 0
  · have HR2 := Aside0.mk (show R = e2 by have h_ := HR.out; rw [if_neg (by rw [h1]; simp)] at h_; exact h_.symm)
    rw [h1]
    clear h1
    go_wp2_with fail
    refine (H2.out _ I1.out.BW).mono ?_
    rintro e w2 ⟨rfl, hb2⟩
    have I2 := Aside0.mk (I1.out.below hb2)
    clear hb2
    go_wp2
    go_ret
    exact ⟨ret_int HR2.out.symm, I2.out.BW⟩
  · have HR2 := Aside0.mk (show R = e1 by have h_ := HR.out; rw [if_pos h1] at h_; exact h_.symm)
    have hb : (e1 != 0) = true := bne_iff_ne.mpr h1
    clear h1
    go_wp2
    go_ret
    exact ⟨ret_int HR2.out.symm, I1.out.BW⟩
set_option maxHeartbeats 1000000 in
set_option maxRecDepth 100000 in
theorem ref24_Two (n : Int) (A : Option Addr) (k : Nat) (p : Pr) (B : Option Addr) (d : Nat) (q : Pr) (w : World) (hp : RS kGate w A k p.f0) (hpf : p.Fits) (hq : RS kGate w B d q.f0) (hqf : q.Fits) :
    Calls Try.prog 85 #[.int .i64 n, pv A k p, pv B d q] w fun e w' => e = .returned (.int .i64 (twoErr n p q)) ∧ Below w.heap.size w w' := by
  have H1 := Aside0.mk (fun W (hb : Below w.heap.size w W) => ref24_Check n A k p W (hp.below hb) hpf)
  have H2 := Aside0.mk (fun W (hb : Below w.heap.size w W) => ref24_Check n B d q W (hq.below hb) hqf)
  have I0 := Aside0.mk (WInv.start w A k p B d q)
  have hu24 := Try.underlying29
  clear hp hq hpf hqf
  unfold twoErr
  generalize predCheck n p = e1 at *
  generalize predCheck n q = e2 at *
  obtain ⟨R, hR⟩ : ∃ R, (if e1 ≠ 0 then e1 else e2) = R := ⟨_, rfl⟩
  rw [hR]
  have HR := Aside0.mk hR
  clear hR
  obtain ⟨pa, pl⟩ := p
  obtain ⟨qa, ql⟩ := q
  dsimp only [pv] at *
  obtain ⟨r0, r1⟩ := (blk2w I0.out.B0).1
  go_enter Try.func85, Try.ntmps85
  go_wp2_with fail
  refine (H1.out _ I0.out.BW).mono ?_
  rintro e w1 ⟨rfl, hb1⟩
  have I1 := Aside0.mk (I0.out.below hb1)
  clear hb1 r0 r1
  obtain ⟨r0, r1⟩ := (blk2w I1.out.B1).1
  by_cases h1 : e1 = 0
  · have HR2 := Aside0.mk (show R = e2 by have h_ := HR.out; rw [if_neg (by rw [h1]; simp)] at h_; exact h_.symm)
    rw [h1]
    clear h1
    go_wp2_with fail
    refine (H2.out _ I1.out.BW).mono ?_
    rintro e w2 ⟨rfl, hb2⟩
    have I2 := Aside0.mk (I1.out.below hb2)
    clear hb2
    go_wp2
    go_ret
    exact ⟨ret_int HR2.out.symm, I2.out.BW⟩
  · have HR2 := Aside0.mk (show R = e1 by have h_ := HR.out; rw [if_pos h1] at h_; exact h_.symm)
    have hb : (e1 != 0) = true := bne_iff_ne.mpr h1
    clear h1
    go_wp2
    go_ret
    exact ⟨ret_int HR2.out.symm, I1.out.BW⟩
/-- The literals of n latches. -/
def ownLits (k : Nat) : List Int := (List.range k).map (fun (i : Nat) => 2 * ((i : Int) + 1))
theorem ownLits_len (k : Nat) : (ownLits k).length = k := by simp [ownLits]
theorem ownLits_succ (k : Nat) : ownLits (k + 1) = ownLits k ++ [2 * ((k : Int) + 1)] := by simp [ownLits, List.range_succ]
theorem ownLits_get (k i : Nat) (h : i < (ownLits k).length) : (ownLits k)[i] = 2 * ((i : Int) + 1) := by simp [ownLits]
theorem ownLits_mem {k : Nat} {x : Int} (h : x ∈ ownLits k) : 0 ≤ x ∧ x ≤ 2 * k := by
  unfold ownLits at h
  obtain ⟨i, hi, rfl⟩ := List.mem_map.1 h
  have := List.mem_range.1 hi
  constructor <;> omega
set_option maxHeartbeats 2000000 in
set_option maxRecDepth 100000 in
theorem ref24_Own (n : Nat) (z : Int) (w : World) (hz : z = n) (hn : n ≤ 1000) :
    Calls Try.prog 105 #[.int .i64 z] w fun e w' => RetR (Kd.int .i64) 3 w w' (ownLits n) e := by
  have HZ := Aside0.mk hz
  have HN := Aside0.mk hn
  clear hz hn
  go_enter Try.func105, Try.ntmps105
  go_wp2
  go_loopg [3, 4] n (fun gg s3 s4 wr => ∃ (k : Nat) (A : Option Addr) (cap : Nat), s3 = .slice A k cap ∧ s4 = .int .i64 ((k : Int) + 1) ∧ Aside0 (k ≤ n ∧ n - k ≤ gg) ∧ Aside0 (Below w.heap.size w wr) ∧ Aside0 (Kd.R (Kd.int .i64) 3 wr w.heap.size (fun _ => True) (.slice A k cap) (ownLits k)))
  case atStart => exact ⟨0, none, 0, rfl, rfl, ⟨by omega, by omega⟩, ⟨Below.refl _ _⟩, ⟨Kd.R_nil _ _ _ _ _⟩⟩
  case round =>
    obtain ⟨k, A, cap, rfl, rfl, HK, BW, RW⟩ := hrel
    by_cases hlt : k < n
    · have hle : (k : Int) + 1 ≤ z := by have := HZ.out; omega
      have HLT := Aside0.mk hlt
      have hw : wrap64 (2 * ((k : Int) + 1)) = 2 * ((k : Int) + 1) := by have := HN.out; rw [wrap_in (by omega) (by omega)]
      clear hlt
      go_wp2_with (first | (at_builtin; refine Kd.R_append (Kd.int .i64) (w0 := wr) (W := wr) w.heap.size rfl (.tmp 10) (.tmp 13) 24 3 (.int .i64 0) 8 rfl Try.underlying24 infoInt rfl (by decide) (by omega) (.slice A k cap) (ownLits k) (2 * ((k : Int) + 1)) [.int .i64 (2 * ((k : Int) + 1))] (fun _ => True) (fun _ => False) rfl rfl ?aP (fun _ h => h.elim) ?aF ?aO ?aB ?aS ?aL ?_; (case aP => exact rfl); (case aF => exact fun _ _ => trivial); (case aO => exact RW.out); (case aB => exact Below.refl _ _); (case aS => exact BW.out.size); (case aL => have := HN.out; have := HLT.out; rw [ownLits_len]; omega); intro v1 w8 ho hb hg hat; obtain ⟨V8, cap8, rfl, _, _⟩ := Kd.R_reads ho; rw [← ownLits_succ, ownLits_len] at ho; rw [← ownLits_succ, ownLits_len]; have R8 := Aside0.mk ho; have B8 := Aside0.mk (BW.out.trans hb); clear ho hb hg hat))
      go_roundg (n - (k + 1))
      case measure => have := HK.out; have := HLT.out; omega
      case rel => exact ⟨k + 1, V8, cap8, rfl, val_eq (by have := HN.out; have := HLT.out; rw [wrap_in (by omega) (by omega)]; omega), ⟨HLT.out, by have := HK.out; omega⟩, B8, R8⟩
    · have hle : ¬ (k : Int) + 1 ≤ z := by have := HZ.out; omega
      have hk : k = n := by have := HK.out.1; omega
      subst hk
      go_wp2
      go_ret
      exact ⟨A, cap, by rw [ownLits_len]; rfl, by rw [ownLits_len]; exact RW.out, BW.out⟩
/-- A predicate, if it has not too many gates. -/
def fewR (n : Int) (p : Pr) : Pr × Int := if 1000 < n + p.f0.length then (zeroP, 4) else (p, 0)
set_option maxHeartbeats 1000000 in
set_option maxRecDepth 100000 in
theorem ref24_Few (n : Int) (b : Nat) (A : Option Addr) (k : Nat) (p : Pr) (w : World) (h : Kd.R kGate 93 w b (fun _ => True) (.slice A p.f0.length k) p.f0) (h0 : 0 ≤ n) (h1 : n ≤ 100000) (h2 : p.f0.length ≤ 100000) :
    Calls Try.prog 86 #[.int .i64 n, pv A k p] w fun e w' => RetP b w w' (fewR n p) e := by
  have hw : wrap64 (n + (p.f0.length : Int)) = n + p.f0.length := by rw [wrap_in (by omega) (by omega)]
  have hu24 := Try.underlying29
  have B2 := Aside0.mk (below_alloc (below_alloc (Below.refl w.heap.size w) (.cells #[.slice A p.f0.length k, .int .i64 p.f1] 29)) (.cells #[.slice none 0 0, .int .i64 0] 29))
  have BC := Aside0.mk (blk_alloc (blk_new w (.cells #[.slice A p.f0.length k, .int .i64 p.f1] 29)) (.cells #[.slice none 0 0, .int .i64 0] 29))
  have BN := Aside0.mk (show ((w.alloc (.cells #[.slice A p.f0.length k, .int .i64 p.f1] 29)).alloc (.cells #[.slice none 0 0, .int .i64 0] 29)).heap[w.heap.size + 1]? = some (.cells #[.slice none 0 0, .int .i64 0] 29 (0, 0)) by simpa using blk_new (w.alloc (.cells #[.slice A p.f0.length k, .int .i64 p.f1] 29)) (.cells #[.slice none 0 0, .int .i64 0] 29))
  have HH := Aside0.mk h
  clear h h0 h1 h2
  obtain ⟨pa, pl⟩ := p
  dsimp only [pv] at *
  obtain ⟨⟨r0, r1⟩, z0, z1⟩ := blk2w BN.out
  obtain ⟨q0, q1⟩ := (blk2w BC.out).1
  have HNE := Aside0.mk (show w.heap.size ≠ w.heap.size + 1 by omega)
  unfold fewR
  dsimp only
  by_cases hf : 1000 < n + (pa.length : Int)
  · rw [if_pos hf]
    go_enter Try.func86, Try.ntmps86
    go_wp2
    refine bodyPost_ret (results_ct rfl _ _ (w.heap.size + 1) 29 #[.slice none 0 0, .int .i64 0] (0, 0) _ rfl BN.out hu24 rfl (by kernel_rfl)) rfl ?_
    exact ⟨none, 0, rfl, Kd.R_nil _ _ _ _ _, B2.out⟩
  · rw [if_neg hf]
    go_enter Try.func86, Try.ntmps86
    go_wp2
    have BN2 : ((w.alloc (.cells #[.slice A pa.length k, .int .i64 pl] 29)).alloc (.cells #[.slice A pa.length k, .int .i64 pl] 29)).heap[w.heap.size + 1]? = some (.cells #[.slice A pa.length k, .int .i64 pl] 29 (0, 0)) := by simpa using blk_new (w.alloc (.cells #[.slice A pa.length k, .int .i64 pl] 29)) (.cells #[.slice A pa.length k, .int .i64 pl] 29)
    refine bodyPost_ret (results_ct rfl _ _ (w.heap.size + 1) 29 #[.slice A pa.length k, .int .i64 pl] (0, 0) _ rfl BN2 hu24 rfl (by kernel_rfl)) rfl ?_
    exact ⟨A, k, rfl, Kd.R_alloc (Kd.R_alloc HH.out _) _, below_alloc (below_alloc (Below.refl _ _) _) _⟩
end Go.Proofs.Ytlhiapggccgggaa.PH
