/- The reference: And, Or, Not; agreement with the program. -/
import Derived.Test.YtlhiapggccgggaaHRefMake
namespace Go.Proofs.Ytlhiapggccgggaa.PH
open Go.RowKit Go.Proofs.YtlhiapggccgggaaW.PrintWords Go.Proofs.YtlhiapggccgggaaW.PrintLast
set_option linter.unusedVariables false
set_option linter.unusedSimpArgs false

def refAnd (n : Int) (p q : Pr) : Pr × Int := if twoErr n p q ≠ 0 then (zeroP, twoErr n p q) else fewR n (bothR n p q)
def refOr (n : Int) (p q : Pr) : Pr × Int := if twoErr n p q ≠ 0 then (zeroP, twoErr n p q) else fewR n (turnP (bothR n (turnP p) (turnP q)))
set_option maxHeartbeats 4000000 in
set_option maxRecDepth 100000 in
theorem ref24_And (n : Int) (A : Option Addr) (k : Nat) (p : Pr) (B : Option Addr) (d : Nat) (q : Pr) (w : World) (hp : RS kGate w A k p.f0) (hpf : p.Fits) (hq : RS kGate w B d q.f0) (hqf : q.Fits) :
    Calls Try.prog 57 #[.int .i64 n, pv A k p, pv B d q] w fun e w' => RetP w.heap.size w w' (refAnd n p q) e := by
  have H2 := Aside0.mk (fun W (hb : Below w.heap.size w W) => ref24_Two n A k p B d q W (hp.below hb) hpf (hq.below hb) hqf)
  have I0 := Aside0.mk (AInv.start w A k p B d q)
  have hu24 := Try.underlying29
  have HP := Aside0.mk hp
  have HQ := Aside0.mk hq
  have HQF := Aside0.mk hqf
  clear hp hq hpf hqf
  unfold refAnd
  by_cases h0 : twoErr n p q = 0
  case neg =>
    rw [if_pos h0]
    have hb : (twoErr n p q != 0) = true := bne_iff_ne.mpr h0
    clear h0
    obtain ⟨pa, pl⟩ := p
    obtain ⟨qa, ql⟩ := q
    dsimp only [pv] at *
    obtain ⟨r0, r1⟩ := (blk2w I0.out.B0).1
    obtain ⟨s0, s1⟩ := (blk2w I0.out.B1).1
    go_enter Try.func57, Try.ntmps57
    go_wp2_with fail
    refine (H2.out _ I0.out.BW).mono ?_
    rintro e w1 ⟨rfl, hb1⟩
    have I1 := Aside0.mk (I0.out.below hb1 (by simp))
    clear hb1 r0 r1 s0 s1
    obtain ⟨⟨r0, r1⟩, z0, z1⟩ := blk2w I1.out.B2
    go_wp2
    refine bodyPost_ret (results_ct rfl _ _ (w.heap.size + 2) 29 #[.slice none 0 0, .int .i64 0] (0, 0) _ rfl (blk2_set I1.out.B2 _ _) hu24 rfl (by kernel_rfl)) rfl ?_
    exact ⟨none, 0, rfl, Kd.R_nil _ _ _ _ _, below2 I1.out.BW (by omega) _ _⟩
  rw [if_neg (by rw [h0]; simp)]
  rw [h0] at H2
  have HC := Aside0.mk (two_ok h0)
  have HPT := Aside0.mk (predCheck_parts (two_ok h0).1)
  have HQT := Aside0.mk (predCheck_parts (two_ok h0).2)
  have HBO := Aside0.mk (fun W (hb : Below w.heap.size w W) => ref24_Both n A k p B d q W (HP.out.below hb) (HQ.out.below hb) HQF.out HC.out.1 HC.out.2)
  have HBM := Aside0.mk (bothR_mid (two_ok h0).1 (two_ok h0).2)
  clear h0
  generalize bothR n p q = r at *
  obtain ⟨R, hR⟩ : ∃ R, fewR n r = R := ⟨_, rfl⟩
  rw [hR]
  have HR := Aside0.mk hR
  clear hR
  obtain ⟨pa, pl⟩ := p
  obtain ⟨qa, ql⟩ := q
  dsimp only [pv] at *
  obtain ⟨r0, r1⟩ := (blk2w I0.out.B0).1
  obtain ⟨s0, s1⟩ := (blk2w I0.out.B1).1
  go_enter Try.func57, Try.ntmps57
  go_wp2_with fail
  refine (H2.out _ I0.out.BW).mono ?_
  rintro e w1 ⟨rfl, hb1⟩
  have I1 := Aside0.mk (I0.out.below hb1 (by simp))
  have HS1 := Aside0.mk (blk_lt I1.out.B2)
  clear hb1 r0 r1 s0 s1 I0
  obtain ⟨r0, r1⟩ := (blk2w I1.out.B0).1
  obtain ⟨s0, s1⟩ := (blk2w I1.out.B1).1
  go_wp2_with fail
  refine (HBO.out _ I1.out.BW).mono ?_
  rintro e w2 ⟨E2, c2, rfl, hr2, hb2⟩
  have R2_ := Aside0.mk hr2
  have I2 := Aside0.mk (I1.out.below hb2 HS1.out)
  have B2 := Aside0.mk hb2
  clear hr2 hb2 r0 r1 s0 s1
  dsimp only [pv]
  go_wp2_with fail
  refine (ref24_Few n w1.heap.size E2 c2 r w2 R2_.out HPT.out.1 (by have := HPT.out.2.1; omega) (by have h1 : n + (pa.length : Int) ≤ 1000 := HPT.out.2.1; have h2 : n + (qa.length : Int) ≤ 1000 := HQT.out.2.1; have h3 : r.f0.length ≤ pa.length + qa.length + 1 := HBM.out.2; have h4 := HPT.out.1; omega)).mono ?_
  rintro e w3 ⟨E3, c3, rfl, hr3, hb3⟩
  rw [HR.out] at hr3 ⊢
  have R3 := Aside0.mk hr3
  have I3 := Aside0.mk (I2.out.below hb3 (Nat.lt_of_lt_of_le HS1.out B2.out.size))
  clear hr3 hb3
  obtain ⟨⟨r0, r1⟩, z0, z1⟩ := blk2w I3.out.B2
  go_wp2
  refine bodyPost_ret (results_ct rfl _ _ (w.heap.size + 2) 29 #[.slice E3 R.1.f0.length c3, .int .i64 R.1.f1] (0, 0) _ rfl (blk2_set I3.out.B2 _ _) hu24 rfl (by kernel_rfl)) rfl ?_
  exact ⟨E3, c3, rfl, R2 (Kd.R_lower R3.out (by have := HS1.out; omega)) I3.out.B2 (by decide) _ _, below2 I3.out.BW (by omega) _ _⟩
end Go.Proofs.Ytlhiapggccgggaa.PH
