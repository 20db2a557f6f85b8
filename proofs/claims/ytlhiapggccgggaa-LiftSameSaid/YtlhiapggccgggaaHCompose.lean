/- lift.Compose. -/
import Derived.Test.YtlhiapggccgggaaHPackD
import Derived.Test.YtlhiapggccgggaaHPackA
import Derived.Test.YtlhiapggccgggaaHTrans2
import Derived.Test.YtlhiapggccgggaaHMake
import Derived.Test.YtlhiapggccgggaaHIdRef
namespace Go.Proofs.Ytlhiapggccgggaa.PH
open Go.RowKit Go.Proofs.YtlhiapggccgggaaW.PrintWords Go.Proofs.YtlhiapggccgggaaW.PrintLast
set_option linter.unusedVariables false
set_option linter.unusedSimpArgs false

theorem RS.three_circ {w : World} {B : Nat} {p q r : CP} {c d e : Circ} (hp : RC w p c) (hq : RC w q d) (hr : RC w r e)
    (h : ∀ j u, [Value.int .i64 c.f0, .slice p.A1 c.f1.length p.c1, .slice p.A2 c.f2.length p.c2, .slice p.A3 c.f3.length p.c3, .slice p.A4 c.f4.length p.c4, .int .i64 d.f0, .slice q.A1 d.f1.length q.c1, .slice q.A2 d.f2.length q.c2, .slice q.A3 d.f3.length q.c3, .slice q.A4 d.f4.length q.c4, .int .i64 e.f0, .slice r.A1 e.f1.length r.c1, .slice r.A2 e.f2.length r.c2, .slice r.A3 e.f3.length r.c3, .slice r.A4 e.f4.length r.c4][j]? = some u → w.cell? ⟨B, j, none⟩ = some u) : RS kCirc w (some ⟨B, 0, none⟩) 3 [c, d, e] :=
  RS.row (by simp) (Nat.le_refl _) (fun j x hj => by
    match j with
    | 0 =>
      have e_ : c = x := by simpa using hj
      subst e_
      exact ⟨_, rfl, kCirc_of hp, fun i u hu => h (0 * 5 + i) u (by
        match i with
        | 0 | 1 | 2 | 3 | 4 => exact hu
        | i + 5 => simp at hu)⟩
    | 1 =>
      have e_ : d = x := by simpa using hj
      subst e_
      exact ⟨_, rfl, kCirc_of hq, fun i u hu => h (1 * 5 + i) u (by
        match i with
        | 0 | 1 | 2 | 3 | 4 => exact hu
        | i + 5 => simp at hu)⟩
    | 2 =>
      have e_ : e = x := by simpa using hj
      subst e_
      exact ⟨_, rfl, kCirc_of hr, fun i u hu => h (2 * 5 + i) u (by
        match i with
        | 0 | 1 | 2 | 3 | 4 => exact hu
        | i + 5 => simp at hu)⟩
    | j + 3 => simp at hj)
/-- What is boxed: two circuits, two lifts, the result's cells. -/
def JBx (gF gM gA gB gR : Nat) (p : CP) (fr : Circ) (q : CP) (md : Circ) (r : LP) (a : Lf) (s : LP) (b : Lf) (W : World) : Prop :=
  W.heap[gF]? = some (.cells #[.int .i64 fr.f0, .slice p.A1 fr.f1.length p.c1, .slice p.A2 fr.f2.length p.c2, .slice p.A3 fr.f3.length p.c3, .slice p.A4 fr.f4.length p.c4] 26 (0, 0)) ∧
  W.heap[gM]? = some (.cells #[.int .i64 md.f0, .slice q.A1 md.f1.length q.c1, .slice q.A2 md.f2.length q.c2, .slice q.A3 md.f3.length q.c3, .slice q.A4 md.f4.length q.c4] 26 (0, 0)) ∧
  W.heap[gA]? = some (.cells #[.int .i64 a.f0, .int .i64 a.f1, .slice r.A2 a.f2.length r.c2, .slice r.A3 a.f3.length r.c3, .slice r.A4 a.f4.length r.c4, .slice r.A5 a.f5.f0.length r.c5, .int .i64 a.f5.f1] 31 (0, 0)) ∧
  W.heap[gB]? = some (.cells #[.int .i64 b.f0, .int .i64 b.f1, .slice s.A2 b.f2.length s.c2, .slice s.A3 b.f3.length s.c3, .slice s.A4 b.f4.length s.c4, .slice s.A5 b.f5.f0.length s.c5, .int .i64 b.f5.f1] 31 (0, 0)) ∧
  W.heap[gR]? = some (.cells #[.int .i64 0, .int .i64 0, .slice none 0 0, .slice none 0 0, .slice none 0 0, .slice none 0 0, .int .i64 0] 31 (0, 0))
theorem JBx.held {gF gM gA gB gR : Nat} {p : CP} {fr : Circ} {q : CP} {md : Circ} {r : LP} {a : Lf} {s : LP} {b : Lf} {W : World} (h : JBx gF gM gA gB gR p fr q md r a s b W) {S : Nat → Prop} (h1 : S gF) (h2 : S gM) (h3 : S gA) (h4 : S gB) (h5 : S gR) : Held S W (JBx gF gM gA gB gR p fr q md r a s b) :=
  fun W' hW => ⟨(hW _ h1).trans h.1, (hW _ h2).trans h.2.1, (hW _ h3).trans h.2.2.1, (hW _ h4).trans h.2.2.2.1, (hW _ h5).trans h.2.2.2.2⟩
theorem JBx.below {gF gM gA gB gR : Nat} {p : CP} {fr : Circ} {q : CP} {md : Circ} {r : LP} {a : Lf} {s : LP} {b : Lf} {W W' : World} (h : JBx gF gM gA gB gR p fr q md r a s b W) (hb : Below W.heap.size W W') : JBx gF gM gA gB gR p fr q md r a s b W' :=
  ⟨blk_below h.1 hb, blk_below h.2.1 hb, blk_below h.2.2.1 hb, blk_below h.2.2.2.1 hb, blk_below h.2.2.2.2 hb⟩
set_option maxHeartbeats 16000000 in
set_option maxRecDepth 100000 in
theorem lift_Compose (p q u : CP) (fr md tc : Circ) (r s : LP) (a b : Lf) (w : World) (hp : RC w p fr) (hq : RC w q md) (hu : RC w u tc) (hr : RL w r a) (hs : RL w s b) (ff : fr.Fits) (fm : md.Fits) (ft : tc.Fits) (fa : a.Fits) (fb : b.Fits) (sb : b.f5.f0.length ≤ 300) (sf : fr.f1.length ≤ 60) :
    Calls Try.prog 17 #[cv p fr, cv q md, cv u tc, lv r a, lv s b] w fun e w' => RetL w w' (composeC fr md tc a b).1 (composeC fr md tc a b).2 e := by
  obtain ⟨P1, p1, P2, p2, P3, p3, P4, p4⟩ := p
  obtain ⟨M1, m1, M2, m2, M3, m3, M4, m4⟩ := q
  obtain ⟨T1, t1, T2, t2, T3, t3, T4, t4⟩ := u
  obtain ⟨A2, a2, A3, a3, A4, a4, A5, a5⟩ := r
  obtain ⟨B2, b2, B3, b3, B4, b4, B5, b5⟩ := s
  have HP := Aside0.mk hp
  have HQ := Aside0.mk hq
  have HU := Aside0.mk hu
  have HRA := Aside0.mk hr
  have HRB := Aside0.mk hs
  have FF := Aside0.mk ff
  have FM := Aside0.mk fm
  have FT := Aside0.mk ft
  have FA := Aside0.mk fa
  have FB := Aside0.mk fb
  have SB := Aside0.mk sb
  have SF := Aside0.mk sf
  have hu26 := Try.underlying26
  have hu31 := Try.underlying31
  have hu24 := Try.underlying29
  obtain ⟨R, hR⟩ : ∃ R, composeC fr md tc a b = R := ⟨_, rfl⟩
  rw [hR]
  have HR := Aside0.mk hR
  clear hp hq hu hr hs ff fm ft fa fb sb sf hR
  dsimp only [lv, cv] at *
  have J : Aside0 (JBx (w.heap.size) (w.heap.size + 1) (w.heap.size + 1 + 1 + 1) (w.heap.size + 1 + 1 + 1 + 1) (w.heap.size + 1 + 1 + 1 + 1 + 1) ⟨P1, p1, P2, p2, P3, p3, P4, p4⟩ fr ⟨M1, m1, M2, m2, M3, m3, M4, m4⟩ md ⟨A2, a2, A3, a3, A4, a4, A5, a5⟩ a ⟨B2, b2, B3, b3, B4, b4, B5, b5⟩ b (((((((w.alloc (.cells #[.int .i64 fr.f0, .slice P1 fr.f1.length p1, .slice P2 fr.f2.length p2, .slice P3 fr.f3.length p3, .slice P4 fr.f4.length p4] 26)).alloc (.cells #[.int .i64 md.f0, .slice M1 md.f1.length m1, .slice M2 md.f2.length m2, .slice M3 md.f3.length m3, .slice M4 md.f4.length m4] 26)).alloc (.cells #[.int .i64 tc.f0, .slice T1 tc.f1.length t1, .slice T2 tc.f2.length t2, .slice T3 tc.f3.length t3, .slice T4 tc.f4.length t4] 26)).alloc (.cells #[.int .i64 a.f0, .int .i64 a.f1, .slice A2 a.f2.length a2, .slice A3 a.f3.length a3, .slice A4 a.f4.length a4, .slice A5 a.f5.f0.length a5, .int .i64 a.f5.f1] 31)).alloc (.cells #[.int .i64 b.f0, .int .i64 b.f1, .slice B2 b.f2.length b2, .slice B3 b.f3.length b3, .slice B4 b.f4.length b4, .slice B5 b.f5.f0.length b5, .int .i64 b.f5.f1] 31)).alloc (.cells #[.int .i64 0, .int .i64 0, .slice none 0 0, .slice none 0 0, .slice none 0 0, .slice none 0 0, .int .i64 0] 31)).alloc (.cells #[.int .i64 fr.f0, .slice P1 fr.f1.length p1, .slice P2 fr.f2.length p2, .slice P3 fr.f3.length p3, .slice P4 fr.f4.length p4, .int .i64 md.f0, .slice M1 md.f1.length m1, .slice M2 md.f2.length m2, .slice M3 md.f3.length m3, .slice M4 md.f4.length m4, .int .i64 tc.f0, .slice T1 tc.f1.length t1, .slice T2 tc.f2.length t2, .slice T3 tc.f3.length t3, .slice T4 tc.f4.length t4] 26))) := by
    have e0 : (w.alloc (.cells #[.int .i64 fr.f0, .slice P1 fr.f1.length p1, .slice P2 fr.f2.length p2, .slice P3 fr.f3.length p3, .slice P4 fr.f4.length p4] 26)).heap[w.heap.size]? = some (.cells #[.int .i64 fr.f0, .slice P1 fr.f1.length p1, .slice P2 fr.f2.length p2, .slice P3 fr.f3.length p3, .slice P4 fr.f4.length p4] 26 (0, 0)) := by simpa using blk_new w (.cells #[.int .i64 fr.f0, .slice P1 fr.f1.length p1, .slice P2 fr.f2.length p2, .slice P3 fr.f3.length p3, .slice P4 fr.f4.length p4] 26)
    have e1 : ((w.alloc (.cells #[.int .i64 fr.f0, .slice P1 fr.f1.length p1, .slice P2 fr.f2.length p2, .slice P3 fr.f3.length p3, .slice P4 fr.f4.length p4] 26)).alloc (.cells #[.int .i64 md.f0, .slice M1 md.f1.length m1, .slice M2 md.f2.length m2, .slice M3 md.f3.length m3, .slice M4 md.f4.length m4] 26)).heap[w.heap.size + 1]? = some (.cells #[.int .i64 md.f0, .slice M1 md.f1.length m1, .slice M2 md.f2.length m2, .slice M3 md.f3.length m3, .slice M4 md.f4.length m4] 26 (0, 0)) := by simpa using blk_new (w.alloc (.cells #[.int .i64 fr.f0, .slice P1 fr.f1.length p1, .slice P2 fr.f2.length p2, .slice P3 fr.f3.length p3, .slice P4 fr.f4.length p4] 26)) (.cells #[.int .i64 md.f0, .slice M1 md.f1.length m1, .slice M2 md.f2.length m2, .slice M3 md.f3.length m3, .slice M4 md.f4.length m4] 26)
    have e2 : (((w.alloc (.cells #[.int .i64 fr.f0, .slice P1 fr.f1.length p1, .slice P2 fr.f2.length p2, .slice P3 fr.f3.length p3, .slice P4 fr.f4.length p4] 26)).alloc (.cells #[.int .i64 md.f0, .slice M1 md.f1.length m1, .slice M2 md.f2.length m2, .slice M3 md.f3.length m3, .slice M4 md.f4.length m4] 26)).alloc (.cells #[.int .i64 tc.f0, .slice T1 tc.f1.length t1, .slice T2 tc.f2.length t2, .slice T3 tc.f3.length t3, .slice T4 tc.f4.length t4] 26)).heap[w.heap.size + 1 + 1]? = some (.cells #[.int .i64 tc.f0, .slice T1 tc.f1.length t1, .slice T2 tc.f2.length t2, .slice T3 tc.f3.length t3, .slice T4 tc.f4.length t4] 26 (0, 0)) := by simpa using blk_new ((w.alloc (.cells #[.int .i64 fr.f0, .slice P1 fr.f1.length p1, .slice P2 fr.f2.length p2, .slice P3 fr.f3.length p3, .slice P4 fr.f4.length p4] 26)).alloc (.cells #[.int .i64 md.f0, .slice M1 md.f1.length m1, .slice M2 md.f2.length m2, .slice M3 md.f3.length m3, .slice M4 md.f4.length m4] 26)) (.cells #[.int .i64 tc.f0, .slice T1 tc.f1.length t1, .slice T2 tc.f2.length t2, .slice T3 tc.f3.length t3, .slice T4 tc.f4.length t4] 26)
    have e3 : ((((w.alloc (.cells #[.int .i64 fr.f0, .slice P1 fr.f1.length p1, .slice P2 fr.f2.length p2, .slice P3 fr.f3.length p3, .slice P4 fr.f4.length p4] 26)).alloc (.cells #[.int .i64 md.f0, .slice M1 md.f1.length m1, .slice M2 md.f2.length m2, .slice M3 md.f3.length m3, .slice M4 md.f4.length m4] 26)).alloc (.cells #[.int .i64 tc.f0, .slice T1 tc.f1.length t1, .slice T2 tc.f2.length t2, .slice T3 tc.f3.length t3, .slice T4 tc.f4.length t4] 26)).alloc (.cells #[.int .i64 a.f0, .int .i64 a.f1, .slice A2 a.f2.length a2, .slice A3 a.f3.length a3, .slice A4 a.f4.length a4, .slice A5 a.f5.f0.length a5, .int .i64 a.f5.f1] 31)).heap[w.heap.size + 1 + 1 + 1]? = some (.cells #[.int .i64 a.f0, .int .i64 a.f1, .slice A2 a.f2.length a2, .slice A3 a.f3.length a3, .slice A4 a.f4.length a4, .slice A5 a.f5.f0.length a5, .int .i64 a.f5.f1] 31 (0, 0)) := by simpa using blk_new (((w.alloc (.cells #[.int .i64 fr.f0, .slice P1 fr.f1.length p1, .slice P2 fr.f2.length p2, .slice P3 fr.f3.length p3, .slice P4 fr.f4.length p4] 26)).alloc (.cells #[.int .i64 md.f0, .slice M1 md.f1.length m1, .slice M2 md.f2.length m2, .slice M3 md.f3.length m3, .slice M4 md.f4.length m4] 26)).alloc (.cells #[.int .i64 tc.f0, .slice T1 tc.f1.length t1, .slice T2 tc.f2.length t2, .slice T3 tc.f3.length t3, .slice T4 tc.f4.length t4] 26)) (.cells #[.int .i64 a.f0, .int .i64 a.f1, .slice A2 a.f2.length a2, .slice A3 a.f3.length a3, .slice A4 a.f4.length a4, .slice A5 a.f5.f0.length a5, .int .i64 a.f5.f1] 31)
    have e4 : (((((w.alloc (.cells #[.int .i64 fr.f0, .slice P1 fr.f1.length p1, .slice P2 fr.f2.length p2, .slice P3 fr.f3.length p3, .slice P4 fr.f4.length p4] 26)).alloc (.cells #[.int .i64 md.f0, .slice M1 md.f1.length m1, .slice M2 md.f2.length m2, .slice M3 md.f3.length m3, .slice M4 md.f4.length m4] 26)).alloc (.cells #[.int .i64 tc.f0, .slice T1 tc.f1.length t1, .slice T2 tc.f2.length t2, .slice T3 tc.f3.length t3, .slice T4 tc.f4.length t4] 26)).alloc (.cells #[.int .i64 a.f0, .int .i64 a.f1, .slice A2 a.f2.length a2, .slice A3 a.f3.length a3, .slice A4 a.f4.length a4, .slice A5 a.f5.f0.length a5, .int .i64 a.f5.f1] 31)).alloc (.cells #[.int .i64 b.f0, .int .i64 b.f1, .slice B2 b.f2.length b2, .slice B3 b.f3.length b3, .slice B4 b.f4.length b4, .slice B5 b.f5.f0.length b5, .int .i64 b.f5.f1] 31)).heap[w.heap.size + 1 + 1 + 1 + 1]? = some (.cells #[.int .i64 b.f0, .int .i64 b.f1, .slice B2 b.f2.length b2, .slice B3 b.f3.length b3, .slice B4 b.f4.length b4, .slice B5 b.f5.f0.length b5, .int .i64 b.f5.f1] 31 (0, 0)) := by simpa using blk_new ((((w.alloc (.cells #[.int .i64 fr.f0, .slice P1 fr.f1.length p1, .slice P2 fr.f2.length p2, .slice P3 fr.f3.length p3, .slice P4 fr.f4.length p4] 26)).alloc (.cells #[.int .i64 md.f0, .slice M1 md.f1.length m1, .slice M2 md.f2.length m2, .slice M3 md.f3.length m3, .slice M4 md.f4.length m4] 26)).alloc (.cells #[.int .i64 tc.f0, .slice T1 tc.f1.length t1, .slice T2 tc.f2.length t2, .slice T3 tc.f3.length t3, .slice T4 tc.f4.length t4] 26)).alloc (.cells #[.int .i64 a.f0, .int .i64 a.f1, .slice A2 a.f2.length a2, .slice A3 a.f3.length a3, .slice A4 a.f4.length a4, .slice A5 a.f5.f0.length a5, .int .i64 a.f5.f1] 31)) (.cells #[.int .i64 b.f0, .int .i64 b.f1, .slice B2 b.f2.length b2, .slice B3 b.f3.length b3, .slice B4 b.f4.length b4, .slice B5 b.f5.f0.length b5, .int .i64 b.f5.f1] 31)
    have e5 : ((((((w.alloc (.cells #[.int .i64 fr.f0, .slice P1 fr.f1.length p1, .slice P2 fr.f2.length p2, .slice P3 fr.f3.length p3, .slice P4 fr.f4.length p4] 26)).alloc (.cells #[.int .i64 md.f0, .slice M1 md.f1.length m1, .slice M2 md.f2.length m2, .slice M3 md.f3.length m3, .slice M4 md.f4.length m4] 26)).alloc (.cells #[.int .i64 tc.f0, .slice T1 tc.f1.length t1, .slice T2 tc.f2.length t2, .slice T3 tc.f3.length t3, .slice T4 tc.f4.length t4] 26)).alloc (.cells #[.int .i64 a.f0, .int .i64 a.f1, .slice A2 a.f2.length a2, .slice A3 a.f3.length a3, .slice A4 a.f4.length a4, .slice A5 a.f5.f0.length a5, .int .i64 a.f5.f1] 31)).alloc (.cells #[.int .i64 b.f0, .int .i64 b.f1, .slice B2 b.f2.length b2, .slice B3 b.f3.length b3, .slice B4 b.f4.length b4, .slice B5 b.f5.f0.length b5, .int .i64 b.f5.f1] 31)).alloc (.cells #[.int .i64 0, .int .i64 0, .slice none 0 0, .slice none 0 0, .slice none 0 0, .slice none 0 0, .int .i64 0] 31)).heap[w.heap.size + 1 + 1 + 1 + 1 + 1]? = some (.cells #[.int .i64 0, .int .i64 0, .slice none 0 0, .slice none 0 0, .slice none 0 0, .slice none 0 0, .int .i64 0] 31 (0, 0)) := by simpa using blk_new (((((w.alloc (.cells #[.int .i64 fr.f0, .slice P1 fr.f1.length p1, .slice P2 fr.f2.length p2, .slice P3 fr.f3.length p3, .slice P4 fr.f4.length p4] 26)).alloc (.cells #[.int .i64 md.f0, .slice M1 md.f1.length m1, .slice M2 md.f2.length m2, .slice M3 md.f3.length m3, .slice M4 md.f4.length m4] 26)).alloc (.cells #[.int .i64 tc.f0, .slice T1 tc.f1.length t1, .slice T2 tc.f2.length t2, .slice T3 tc.f3.length t3, .slice T4 tc.f4.length t4] 26)).alloc (.cells #[.int .i64 a.f0, .int .i64 a.f1, .slice A2 a.f2.length a2, .slice A3 a.f3.length a3, .slice A4 a.f4.length a4, .slice A5 a.f5.f0.length a5, .int .i64 a.f5.f1] 31)).alloc (.cells #[.int .i64 b.f0, .int .i64 b.f1, .slice B2 b.f2.length b2, .slice B3 b.f3.length b3, .slice B4 b.f4.length b4, .slice B5 b.f5.f0.length b5, .int .i64 b.f5.f1] 31)) (.cells #[.int .i64 0, .int .i64 0, .slice none 0 0, .slice none 0 0, .slice none 0 0, .slice none 0 0, .int .i64 0] 31)
    exact ⟨⟨(blk_alloc (blk_alloc (blk_alloc (blk_alloc (blk_alloc (blk_alloc e0 _) _) _) _) _) _), (blk_alloc (blk_alloc (blk_alloc (blk_alloc (blk_alloc e1 _) _) _) _) _), (blk_alloc (blk_alloc (blk_alloc e3 _) _) _), (blk_alloc (blk_alloc e4 _) _), (blk_alloc e5 _)⟩⟩
  have TB := Aside0.mk (show (((((((w.alloc (.cells #[.int .i64 fr.f0, .slice P1 fr.f1.length p1, .slice P2 fr.f2.length p2, .slice P3 fr.f3.length p3, .slice P4 fr.f4.length p4] 26)).alloc (.cells #[.int .i64 md.f0, .slice M1 md.f1.length m1, .slice M2 md.f2.length m2, .slice M3 md.f3.length m3, .slice M4 md.f4.length m4] 26)).alloc (.cells #[.int .i64 tc.f0, .slice T1 tc.f1.length t1, .slice T2 tc.f2.length t2, .slice T3 tc.f3.length t3, .slice T4 tc.f4.length t4] 26)).alloc (.cells #[.int .i64 a.f0, .int .i64 a.f1, .slice A2 a.f2.length a2, .slice A3 a.f3.length a3, .slice A4 a.f4.length a4, .slice A5 a.f5.f0.length a5, .int .i64 a.f5.f1] 31)).alloc (.cells #[.int .i64 b.f0, .int .i64 b.f1, .slice B2 b.f2.length b2, .slice B3 b.f3.length b3, .slice B4 b.f4.length b4, .slice B5 b.f5.f0.length b5, .int .i64 b.f5.f1] 31)).alloc (.cells #[.int .i64 0, .int .i64 0, .slice none 0 0, .slice none 0 0, .slice none 0 0, .slice none 0 0, .int .i64 0] 31)).alloc (.cells #[.int .i64 fr.f0, .slice P1 fr.f1.length p1, .slice P2 fr.f2.length p2, .slice P3 fr.f3.length p3, .slice P4 fr.f4.length p4, .int .i64 md.f0, .slice M1 md.f1.length m1, .slice M2 md.f2.length m2, .slice M3 md.f3.length m3, .slice M4 md.f4.length m4, .int .i64 tc.f0, .slice T1 tc.f1.length t1, .slice T2 tc.f2.length t2, .slice T3 tc.f3.length t3, .slice T4 tc.f4.length t4] 26)).heap[w.heap.size + 1 + 1]? = some (.cells #[.int .i64 tc.f0, .slice T1 tc.f1.length t1, .slice T2 tc.f2.length t2, .slice T3 tc.f3.length t3, .slice T4 tc.f4.length t4] 26 (0, 0)) from by simpa using blk_alloc (blk_alloc (blk_alloc (blk_alloc (blk_new ((w.alloc (.cells #[.int .i64 fr.f0, .slice P1 fr.f1.length p1, .slice P2 fr.f2.length p2, .slice P3 fr.f3.length p3, .slice P4 fr.f4.length p4] 26)).alloc (.cells #[.int .i64 md.f0, .slice M1 md.f1.length m1, .slice M2 md.f2.length m2, .slice M3 md.f3.length m3, .slice M4 md.f4.length m4] 26)) (.cells #[.int .i64 tc.f0, .slice T1 tc.f1.length t1, .slice T2 tc.f2.length t2, .slice T3 tc.f3.length t3, .slice T4 tc.f4.length t4] 26)) _) _) _) _)
  have BW := Aside0.mk (show Below w.heap.size w (((((((w.alloc (.cells #[.int .i64 fr.f0, .slice P1 fr.f1.length p1, .slice P2 fr.f2.length p2, .slice P3 fr.f3.length p3, .slice P4 fr.f4.length p4] 26)).alloc (.cells #[.int .i64 md.f0, .slice M1 md.f1.length m1, .slice M2 md.f2.length m2, .slice M3 md.f3.length m3, .slice M4 md.f4.length m4] 26)).alloc (.cells #[.int .i64 tc.f0, .slice T1 tc.f1.length t1, .slice T2 tc.f2.length t2, .slice T3 tc.f3.length t3, .slice T4 tc.f4.length t4] 26)).alloc (.cells #[.int .i64 a.f0, .int .i64 a.f1, .slice A2 a.f2.length a2, .slice A3 a.f3.length a3, .slice A4 a.f4.length a4, .slice A5 a.f5.f0.length a5, .int .i64 a.f5.f1] 31)).alloc (.cells #[.int .i64 b.f0, .int .i64 b.f1, .slice B2 b.f2.length b2, .slice B3 b.f3.length b3, .slice B4 b.f4.length b4, .slice B5 b.f5.f0.length b5, .int .i64 b.f5.f1] 31)).alloc (.cells #[.int .i64 0, .int .i64 0, .slice none 0 0, .slice none 0 0, .slice none 0 0, .slice none 0 0, .int .i64 0] 31)).alloc (.cells #[.int .i64 fr.f0, .slice P1 fr.f1.length p1, .slice P2 fr.f2.length p2, .slice P3 fr.f3.length p3, .slice P4 fr.f4.length p4, .int .i64 md.f0, .slice M1 md.f1.length m1, .slice M2 md.f2.length m2, .slice M3 md.f3.length m3, .slice M4 md.f4.length m4, .int .i64 tc.f0, .slice T1 tc.f1.length t1, .slice T2 tc.f2.length t2, .slice T3 tc.f3.length t3, .slice T4 tc.f4.length t4] 26)) from below_alloc (below_alloc (below_alloc (below_alloc (below_alloc (below_alloc (below_alloc (Below.refl _ _) _) _) _) _) _) _) _)
  have HS := Aside0.mk (RS.three_circ (p := ⟨P1, p1, P2, p2, P3, p3, P4, p4⟩) (q := ⟨M1, m1, M2, m2, M3, m3, M4, m4⟩) (r := ⟨T1, t1, T2, t2, T3, t3, T4, t4⟩) (B := w.heap.size + 1 + 1 + 1 + 1 + 1 + 1) (HP.out.below BW.out) (HQ.out.below BW.out) (HU.out.below BW.out) (fun j u hj => by rw [World.cell?_alloc_at _ _ _ _ (by simp)]; simpa using hj))
  have HSZ := Aside0.mk (show w.heap.size + 7 ≤ (((((((w.alloc (.cells #[.int .i64 fr.f0, .slice P1 fr.f1.length p1, .slice P2 fr.f2.length p2, .slice P3 fr.f3.length p3, .slice P4 fr.f4.length p4] 26)).alloc (.cells #[.int .i64 md.f0, .slice M1 md.f1.length m1, .slice M2 md.f2.length m2, .slice M3 md.f3.length m3, .slice M4 md.f4.length m4] 26)).alloc (.cells #[.int .i64 tc.f0, .slice T1 tc.f1.length t1, .slice T2 tc.f2.length t2, .slice T3 tc.f3.length t3, .slice T4 tc.f4.length t4] 26)).alloc (.cells #[.int .i64 a.f0, .int .i64 a.f1, .slice A2 a.f2.length a2, .slice A3 a.f3.length a3, .slice A4 a.f4.length a4, .slice A5 a.f5.f0.length a5, .int .i64 a.f5.f1] 31)).alloc (.cells #[.int .i64 b.f0, .int .i64 b.f1, .slice B2 b.f2.length b2, .slice B3 b.f3.length b3, .slice B4 b.f4.length b4, .slice B5 b.f5.f0.length b5, .int .i64 b.f5.f1] 31)).alloc (.cells #[.int .i64 0, .int .i64 0, .slice none 0 0, .slice none 0 0, .slice none 0 0, .slice none 0 0, .int .i64 0] 31)).alloc (.cells #[.int .i64 fr.f0, .slice P1 fr.f1.length p1, .slice P2 fr.f2.length p2, .slice P3 fr.f3.length p3, .slice P4 fr.f4.length p4, .int .i64 md.f0, .slice M1 md.f1.length m1, .slice M2 md.f2.length m2, .slice M3 md.f3.length m3, .slice M4 md.f4.length m4, .int .i64 tc.f0, .slice T1 tc.f1.length t1, .slice T2 tc.f2.length t2, .slice T3 tc.f3.length t3, .slice T4 tc.f4.length t4] 26)).heap.size by simp)
  obtain ⟨ck, hck⟩ : ∃ ck, checks [fr, md, tc] = ck := ⟨_, rfl⟩
  have HCK := Aside0.mk hck
  have HFI := Aside0.mk (show ∀ c ∈ [fr, md, tc], c.Fits from fun c hc => by
    simp only [List.mem_cons, List.not_mem_nil, or_false] at hc
    rcases hc with rfl | rfl | rfl
    · exact FF.out
    · exact FM.out
    · exact FT.out)
  clear hck
  obtain ⟨c0, c1, c2, c3, c4⟩ := blk5 J.out.1
  obtain ⟨d0, d1, d2, d3, d4⟩ := blk5 J.out.2.1
  go_enter Try.func17, Try.ntmps17
  go_wp2
  clear c0 c1 c2 c3 c4 d0 d1 d2 d3 d4
  obtain ⟨AD, hAD⟩ : ∃ AD : Addr, (⟨w.heap.size + 1 + 1 + 1 + 1 + 1 + 1, 0, none⟩ : Addr) = AD := ⟨_, rfl⟩
  rw [hAD] at HS
  simp only [hAD]
  clear hAD
  go_loopg [35] 3 (fun gg s35 wr => ∃ k : Nat, s35 = .int .i64 k ∧ Aside0 (k ≤ 3 ∧ 3 - k ≤ gg) ∧ Aside0 (JBx (w.heap.size) (w.heap.size + 1) (w.heap.size + 1 + 1 + 1) (w.heap.size + 1 + 1 + 1 + 1) (w.heap.size + 1 + 1 + 1 + 1 + 1) ⟨P1, p1, P2, p2, P3, p3, P4, p4⟩ fr ⟨M1, m1, M2, m2, M3, m3, M4, m4⟩ md ⟨A2, a2, A3, a3, A4, a4, A5, a5⟩ a ⟨B2, b2, B3, b3, B4, b4, B5, b5⟩ b wr) ∧ Aside0 (wr.heap[w.heap.size + 1 + 1]? = some (.cells #[.int .i64 tc.f0, .slice T1 tc.f1.length t1, .slice T2 tc.f2.length t2, .slice T3 tc.f3.length t3, .slice T4 tc.f4.length t4] 26 (0, 0))) ∧ Aside0 (Below w.heap.size w wr ∧ w.heap.size + 7 ≤ wr.heap.size) ∧ Aside0 (RS kCirc wr (some AD) 3 [fr, md, tc]) ∧ Aside0 (checks ([fr, md, tc].drop k) = ck))
  case atStart => exact ⟨0, rfl, ⟨by omega, by omega⟩, J, TB, ⟨BW.out, HSZ.out⟩, HS, HCK⟩
  case round =>
    clear J TB BW HS HSZ
    obtain ⟨k, rfl, HX, J, TB, BW, HS, HA⟩ := hrel
    by_cases hlt : k < 3
    · obtain ⟨ad, cp, e1, hRC, g0, g1, g2, g3, g4⟩ := at_circ HS.out.r k hlt
      cases e1
      have HD := HA.out
      rw [drop_at hlt, checks] at HD
      have HLT := Aside0.mk hlt
      have hli : (k : Int) < 3 := by omega
      have HFX := Aside0.mk (HFI.out _ (List.getElem_mem hlt))
      generalize [fr, md, tc][k] = y at *
      obtain ⟨C1, k1, C2, k2, C3, k3, C4, k4⟩ := cp
      dsimp only at g1 g2 g3 g4
      have hb0 := below_alloc (Below.refl wr.heap.size wr) (.cells #[.int .i64 y.f0, .slice C1 y.f1.length k1, .slice C2 y.f2.length k2, .slice C3 y.f3.length k3, .slice C4 y.f4.length k4] 26)
      have HRC := Aside0.mk (hRC.below hb0)
      have HB0 := Aside0.mk hb0
      have HDD := Aside0.mk HD
      clear HA HD hRC hb0
      go_wp2_with fail
      refine (show Calls _ _ #[.agg #[.int .i64 y.f0, .slice C1 y.f1.length k1, .slice C2 y.f2.length k2, .slice C3 y.f3.length k3, .slice C4 y.f4.length k4]] _ _ from gates_Check ⟨C1, k1, C2, k2, C3, k3, C4, k4⟩ y _ HRC.out HFX.out).mono ?_
      rintro e w1 ⟨rfl, hb1⟩
      have HB1 := Aside0.mk (below_then HB0.out (by simp) hb1)
      have J1 := Aside0.mk (J.out.below HB1.out)
      have TB1 := Aside0.mk (blk_below TB.out HB1.out)
      have BW1 := Aside0.mk (show Below w.heap.size w w1 ∧ w.heap.size + 7 ≤ w1.heap.size from ⟨BW.out.1.trans (HB1.out.mono BW.out.1.size), Nat.le_trans BW.out.2 HB1.out.size⟩)
      have HS1 := Aside0.mk (HS.out.below HB1.out)
      clear hb1 HB1 HB0 J TB BW HS HRC g0 g1 g2 g3 g4
      by_cases z : check y = 0
      · rw [if_pos z] at HDD
        rw [z]
        clear z
        go_wp2
        go_roundg (3 - (k + 1))
        case measure => have := HX.out; have := HLT.out; omega
        case rel => exact ⟨k + 1, rfl, ⟨HLT.out, by have := HX.out; omega⟩, J1, TB1, BW1, HS1, HDD⟩
      · rw [if_neg z] at HDD
        have zb : (check y != 0) = true := bne_iff_ne.mpr z
        have HV := Aside0.mk (show R = (zeroL, check y) by
          rw [← HR.out, HDD.out]
          unfold composeC
          rw [HCK.out, ← HDD.out, if_pos z])
        clear z
        obtain ⟨⟨r0, r1, r2, r3, r4, r5, r6⟩, z0, z1, z2, z3, z4, z5, z6⟩ := blk7 J1.out.2.2.2.2
        go_wp2
        rw [HV.out]
        refine bodyPost_ret (results_ct rfl _ _ (w.heap.size + 1 + 1 + 1 + 1 + 1) 31 #[.int .i64 0, .int .i64 0, .slice none 0 0, .slice none 0 0, .slice none 0 0, .slice none 0 0, .int .i64 0] (0, 0) _ rfl (blk7_set J1.out.2.2.2.2 _ _ _ _ _ _ _) hu31 rfl (by kernel_rfl)) rfl ?_
        exact ⟨⟨none, 0, none, 0, none, 0, none, 0⟩, rfl, ⟨RS.nil _ _ _, RS.nil _ _ _, RS.nil _ _ _, RS.nil _ _ _⟩, below7 BW1.out.1 (by omega) _ _ _ _ _ _ _⟩
    · have hk : k = 3 := by have := HX.out.1; omega
      have hc0 : checks [fr, md, tc] = 0 := by
        have h_ := HA.out
        rw [hk] at h_
        rw [HCK.out, ← h_]
        rfl
      have hli : ¬ (k : Int) < 3 := by omega
      have HC3 := Aside0.mk (checks3 hc0)
      have HC0 := Aside0.mk hc0
      clear HA hc0 hk hlt HX HS
      obtain ⟨c0, c1, c2, c3, c4⟩ := blk5 J.out.1
      obtain ⟨d0, d1, d2, d3, d4⟩ := blk5 J.out.2.1
      obtain ⟨t0_, t1_, t2_, t3_, t4_⟩ := blk5 TB.out
      obtain ⟨⟨r0, r1, r2, r3, r4, r5, r6⟩, z0, z1, z2, z3, z4, z5, z6⟩ := blk7 J.out.2.2.1
      go_wp2_with fail
      refine (show Calls _ _ #[.agg #[.int .i64 fr.f0, .slice P1 fr.f1.length p1, .slice P2 fr.f2.length p2, .slice P3 fr.f3.length p3, .slice P4 fr.f4.length p4], .agg #[.int .i64 md.f0, .slice M1 md.f1.length m1, .slice M2 md.f2.length m2, .slice M3 md.f3.length m3, .slice M4 md.f4.length m4], .agg #[.int .i64 a.f0, .int .i64 a.f1, .slice A2 a.f2.length a2, .slice A3 a.f3.length a3, .slice A4 a.f4.length a4, .slice A5 a.f5.f0.length a5, .int .i64 a.f5.f1]] _ _ from lift_fits ⟨P1, p1, P2, p2, P3, p3, P4, p4⟩ ⟨M1, m1, M2, m2, M3, m3, M4, m4⟩ fr md ⟨A2, a2, A3, a3, A4, a4, A5, a5⟩ a _ (HRA.out.below BW.out.1) FA.out HC3.out.1 HC3.out.2.1 FF.out.h1 FM.out.h1).mono ?_
      rintro e w1 ⟨rfl, hb⟩
      have J := Aside0.mk (J.out.below hb)
      have TB := Aside0.mk (blk_below TB.out hb)
      have BW := Aside0.mk (show Below w.heap.size w w1 ∧ w.heap.size + 7 ≤ w1.heap.size from ⟨BW.out.1.trans (hb.mono BW.out.1.size), Nat.le_trans BW.out.2 hb.size⟩)
      clear hb c0 c1 c2 c3 c4 d0 d1 d2 d3 d4 t0_ t1_ t2_ t3_ t4_ r0 r1 r2 r3 r4 r5 r6 z0 z1 z2 z3 z4 z5 z6
      cases hoa : liftOk fr md a with
      | false =>
        have HV := Aside0.mk (show R = (zeroL, 8) by
          rw [← HR.out]
          unfold composeC
          rw [if_neg (by simp [HC0.out]), if_pos hoa])
        obtain ⟨⟨q0, q1, q2, q3, q4, q5, q6⟩, y0, y1, y2, y3, y4, y5, y6⟩ := blk7 J.out.2.2.2.2
        go_wp2
        rw [HV.out]
        refine bodyPost_ret (results_ct rfl _ _ (w.heap.size + 1 + 1 + 1 + 1 + 1) 31 #[.int .i64 0, .int .i64 0, .slice none 0 0, .slice none 0 0, .slice none 0 0, .slice none 0 0, .int .i64 0] (0, 0) _ rfl (blk7_set J.out.2.2.2.2 _ _ _ _ _ _ _) hu31 rfl (by kernel_rfl)) rfl ?_
        exact ⟨⟨none, 0, none, 0, none, 0, none, 0⟩, rfl, ⟨RS.nil _ _ _, RS.nil _ _ _, RS.nil _ _ _, RS.nil _ _ _⟩, below7 BW.out.1 (by omega) _ _ _ _ _ _ _⟩
      | true =>
      have HOA := Aside0.mk (LOk.of hoa)
      have HOA1 := Aside0.mk hoa
      clear hoa
      obtain ⟨d0, d1, d2, d3, d4⟩ := blk5 J.out.2.1
      obtain ⟨t0_, t1_, t2_, t3_, t4_⟩ := blk5 TB.out
      obtain ⟨⟨r0, r1, r2, r3, r4, r5, r6⟩, z0, z1, z2, z3, z4, z5, z6⟩ := blk7 J.out.2.2.2.1
      go_wp2_with fail
      refine (show Calls _ _ #[.agg #[.int .i64 md.f0, .slice M1 md.f1.length m1, .slice M2 md.f2.length m2, .slice M3 md.f3.length m3, .slice M4 md.f4.length m4], .agg #[.int .i64 tc.f0, .slice T1 tc.f1.length t1, .slice T2 tc.f2.length t2, .slice T3 tc.f3.length t3, .slice T4 tc.f4.length t4], .agg #[.int .i64 b.f0, .int .i64 b.f1, .slice B2 b.f2.length b2, .slice B3 b.f3.length b3, .slice B4 b.f4.length b4, .slice B5 b.f5.f0.length b5, .int .i64 b.f5.f1]] _ _ from lift_fits ⟨M1, m1, M2, m2, M3, m3, M4, m4⟩ ⟨T1, t1, T2, t2, T3, t3, T4, t4⟩ md tc ⟨B2, b2, B3, b3, B4, b4, B5, b5⟩ b _ (HRB.out.below BW.out.1) FB.out HC3.out.2.1 HC3.out.2.2 FM.out.h1 FT.out.h1).mono ?_
      rintro e w2 ⟨rfl, hb⟩
      have J := Aside0.mk (J.out.below hb)
      have BW := Aside0.mk (show Below w.heap.size w w2 ∧ w.heap.size + 7 ≤ w2.heap.size from ⟨BW.out.1.trans (hb.mono BW.out.1.size), Nat.le_trans BW.out.2 hb.size⟩)
      clear hb d0 d1 d2 d3 d4 t0_ t1_ t2_ t3_ t4_ r0 r1 r2 r3 r4 r5 r6 z0 z1 z2 z3 z4 z5 z6 TB
      cases hob : liftOk md tc b with
      | false =>
        have HV := Aside0.mk (show R = (zeroL, 8) by
          rw [← HR.out]
          unfold composeC
          rw [if_neg (by simp [HC0.out]), if_neg (by simp [HOA1.out]), if_pos hob])
        obtain ⟨⟨q0, q1, q2, q3, q4, q5, q6⟩, y0, y1, y2, y3, y4, y5, y6⟩ := blk7 J.out.2.2.2.2
        go_wp2
        rw [HV.out]
        refine bodyPost_ret (results_ct rfl _ _ (w.heap.size + 1 + 1 + 1 + 1 + 1) 31 #[.int .i64 0, .int .i64 0, .slice none 0 0, .slice none 0 0, .slice none 0 0, .slice none 0 0, .int .i64 0] (0, 0) _ rfl (blk7_set J.out.2.2.2.2 _ _ _ _ _ _ _) hu31 rfl (by kernel_rfl)) rfl ?_
        exact ⟨⟨none, 0, none, 0, none, 0, none, 0⟩, rfl, ⟨RS.nil _ _ _, RS.nil _ _ _, RS.nil _ _ _, RS.nil _ _ _⟩, below7 BW.out.1 (by omega) _ _ _ _ _ _ _⟩
      | true =>
      have HOB := Aside0.mk (LOk.of hob)
      have HRJ := Aside0.mk (show joinC fr md a b = R by rw [← HR.out]; unfold composeC; rw [if_neg (by simp [HC0.out]), if_neg (by simp [HOA1.out]), if_neg (by simp [hob])])
      clear hob HR HOA1 HC0 HCK HFI 
      have HSK := Aside0.mk (sk_bound HOA.out HOB.out)
      have hwS : wrap64 (a.f0 + wrap64 (a.f1 * b.f0)) = sk a b := by
        have h1 := HSK.out; have h2 := HOA.out.s0; have h3 := HOA.out.s1
        unfold sk ph at *
        rw [wrap_in (x := a.f1 * b.f0) (by omega) (by omega), wrap_in (by omega) (by omega)]
      have hwP : wrap64 (a.f1 * b.f1) = ph a b := by
        have h1 := HSK.out
        unfold sk ph at *
        rw [wrap_in (by omega) (by omega)]
      have hb1 := blk_alloc J.out.2.2.2.2 (.cells #[.int .i64 (sk a b), .int .i64 (ph a b), .slice none 0 0, .slice none 0 0, .slice none 0 0, .slice none 0 0, .int .i64 0] 31)
      have G0 := Aside0.mk (Stg.start (T := 31) (n0 := w.heap.size + 7) (cells := #[.int .i64 (sk a b), .int .i64 (ph a b), .slice none 0 0, .slice none 0 0, .slice none 0 0, .slice none 0 0, .int .i64 0]) (Kd.int .i64) 3 BW.out.1 (by omega) BW.out.2 (J.out.held (S := fun k => k < w.heap.size + 7) (by omega) (by omega) (by omega) (by omega) (by omega)))
      obtain ⟨⟨r0, r1, r2, r3, r4, r5, r6⟩, z0, z1, z2, z3, z4, z5, z6⟩ := blk7 J.out.2.2.1
      obtain ⟨⟨s0, s1, s2, s3, s4, s5, s6⟩, x0, x1, x2, x3, x4, x5, x6⟩ := blk7 J.out.2.2.2.1
      by_cases hmany : 100 < sk a b ∨ 4 < ph a b
      · have J3 := Aside0.mk (J.out.below (below_alloc (Below.refl _ _) (.cells #[.int .i64 (sk a b), .int .i64 (ph a b), .slice none 0 0, .slice none 0 0, .slice none 0 0, .slice none 0 0, .int .i64 0] 31)))
        have BW3 := Aside0.mk (below_alloc BW.out.1 (.cells #[.int .i64 (sk a b), .int .i64 (ph a b), .slice none 0 0, .slice none 0 0, .slice none 0 0, .slice none 0 0, .int .i64 0] 31))
        clear hb1
        by_cases h1 : 100 < sk a b
        · have h1d : decide (100 < sk a b) = true := decide_eq_true h1
          have HV := Aside0.mk (show R = (zeroL, 4) by
            rw [← HRJ.out]
            unfold joinC
            rw [if_pos hmany])
          obtain ⟨⟨q0, q1, q2, q3, q4, q5, q6⟩, y0, y1, y2, y3, y4, y5, y6⟩ := blk7 J3.out.2.2.2.2
          go_wp2
          rw [HV.out]
          refine bodyPost_ret (results_ct rfl _ _ (w.heap.size + 1 + 1 + 1 + 1 + 1) 31 #[.int .i64 0, .int .i64 0, .slice none 0 0, .slice none 0 0, .slice none 0 0, .slice none 0 0, .int .i64 0] (0, 0) _ rfl (blk7_set J3.out.2.2.2.2 _ _ _ _ _ _ _) hu31 rfl (by kernel_rfl)) rfl ?_
          exact ⟨⟨none, 0, none, 0, none, 0, none, 0⟩, rfl, ⟨RS.nil _ _ _, RS.nil _ _ _, RS.nil _ _ _, RS.nil _ _ _⟩, below7 BW3.out (by omega) _ _ _ _ _ _ _⟩
        · have h1d : decide (100 < sk a b) = false := decide_eq_false h1
          have h2d : decide (4 < ph a b) = true := decide_eq_true (by omega)
          have HV := Aside0.mk (show R = (zeroL, 4) by
            rw [← HRJ.out]
            unfold joinC
            rw [if_pos hmany])
          obtain ⟨⟨q0, q1, q2, q3, q4, q5, q6⟩, y0, y1, y2, y3, y4, y5, y6⟩ := blk7 J3.out.2.2.2.2
          go_wp2
          rw [HV.out]
          refine bodyPost_ret (results_ct rfl _ _ (w.heap.size + 1 + 1 + 1 + 1 + 1) 31 #[.int .i64 0, .int .i64 0, .slice none 0 0, .slice none 0 0, .slice none 0 0, .slice none 0 0, .int .i64 0] (0, 0) _ rfl (blk7_set J3.out.2.2.2.2 _ _ _ _ _ _ _) hu31 rfl (by kernel_rfl)) rfl ?_
          exact ⟨⟨none, 0, none, 0, none, 0, none, 0⟩, rfl, ⟨RS.nil _ _ _, RS.nil _ _ _, RS.nil _ _ _, RS.nil _ _ _⟩, below7 BW3.out (by omega) _ _ _ _ _ _ _⟩
      have h1d : decide (100 < sk a b) = false := decide_eq_false (by omega)
      have h2d : decide (4 < ph a b) = false := decide_eq_false (by omega)
      have HRN := Aside0.mk (show (if (factOf fr a b).2 ≠ 0 then (zeroL, (factOf fr a b).2) else (joined fr md a b, 0)) = R by rw [← HRJ.out]; unfold joinC; rw [if_neg hmany])
      clear hmany HRJ hb1
      have HMX := Aside0.mk HRA.out.s2.max
      clear J BW
      obtain ⟨⟨ra0, ra1, ra2, ra3, ra4, ra5, ra6⟩, _⟩ := blk7 G0.out.HB.self.2.2.1
      go_wp2
      clear ra0 ra1 ra2 ra3 ra4 ra5 ra6 r0 r1 r2 r3 r4 r5 r6 z0 z1 z2 z3 z4 z5 z6 s0 s1 s2 s3 s4 s5 s6 x0 x1 x2 x3 x4 x5 x6 hwS hwP h1d h2d
      generalize w2.heap.size = gO at *
      go_loopg [85] a.f2.length (fun gg s85 wr => ∃ (i : Nat) (V : Option Addr) (cap : Nat), s85 = .int .i64 i ∧ Aside0 (i ≤ a.f2.length ∧ a.f2.length - i ≤ gg) ∧ Aside0 (Stg w (w.heap.size + 7) (gO + 1) gO 31 (JBx (w.heap.size) (w.heap.size + 1) (w.heap.size + 1 + 1 + 1) (w.heap.size + 1 + 1 + 1 + 1) (w.heap.size + 1 + 1 + 1 + 1 + 1) ⟨P1, p1, P2, p2, P3, p3, P4, p4⟩ fr ⟨M1, m1, M2, m2, M3, m3, M4, m4⟩ md ⟨A2, a2, A3, a3, A4, a4, A5, a5⟩ a ⟨B2, b2, B3, b3, B4, b4, B5, b5⟩ b) (fun _ => True) (Kd.int .i64) 3 #[.int .i64 (sk a b), .int .i64 (ph a b), .slice V i cap, .slice none 0 0, .slice none 0 0, .slice none 0 0, .int .i64 0] V i cap ((a.f2.take i).map (joinF md b)) wr))
      case atStart => exact ⟨0, none, 0, rfl, ⟨by omega, by omega⟩, G0⟩
      case round =>
        clear G0
        obtain ⟨i, V, cap, rfl, HI, G⟩ := hrel
        by_cases hlt : i < a.f2.length
        · obtain ⟨ad, e1, hx⟩ := at_int (HRA.out.below G.out.BW).s2.r i hlt
          cases e1
          have HLT := Aside0.mk hlt
          have HMAP := Aside0.mk (show ((a.f2.take i).map (joinF md b)) ++ [joinF md b a.f2[i]] = (a.f2.take (i + 1)).map (joinF md b) by rw [take_at hlt, List.map_append]; rfl)
          have HLEN := Aside0.mk (show ((a.f2.take (i + 1)).map (joinF md b)).length = i + 1 by rw [List.length_map, List.length_take]; omega)
          have HLE0 := Aside0.mk (show ((a.f2.take i).map (joinF md b)).length = i by rw [List.length_map, List.length_take]; omega)
          have hxo := HOA.out.m2 a.f2[i] (List.getElem_mem hlt)
          have hli : (i : Int) < (a.f2.length : Int) := by omega
          have HBIG := Aside0.mk (show a.f2.length ≤ 4000000 by rw [HOA.out.n2]; exact FF.out.h1)
          generalize a.f2[i] = x at *
          obtain ⟨⟨b0_, b1_, b2_, b3_, b4_, b5_, b6_⟩, _⟩ := blk7 G.out.HB.self.2.2.2.1
          obtain ⟨d0, d1, d2, d3, d4⟩ := blk5 G.out.HB.self.2.1
          obtain ⟨⟨p0, p1_, p2_, p3_, p4_, p5_, p6_⟩, _⟩ := blk7 G.out.BO
          by_cases h1 : 1 < x
          · have h1d : decide (1 < x) = true := decide_eq_true h1
            obtain ⟨q, hq, hxq⟩ := at_latch_lit HC3.out.2.1 (show 2 * (md.f0 + 1) ≤ x ∧ x < 2 * (md.f0 + 1 + md.f1.length) by omega)
            have hqb : q < b.f2.length := by rw [HOB.out.n2]; exact hq
            obtain ⟨bd, e2, hy⟩ := at_int (HRB.out.below G.out.BW).s2.r q hqb
            cases e2
            have HJ := Aside0.mk (joinF_at HOB.out hqb hxq h1)
            have hlx := lit_isL HC3.out.2.1 (show 2 * (md.f0 + 1) ≤ x ∧ x < 2 * (md.f0 + 1 + md.f1.length) by omega)
            have hmd := gCheck_ok HC3.out.2.1
            have hwq : wrap64 (wrap64 (wrap64 (x.tdiv 2) - md.f0) - 1) = (q : Int) := by
              rw [half_of ⟨by have := hlx.1; omega, by have := hlx.2; omega⟩ hlx.1, wrap_in (x := x / 2 - md.f0) (by omega) (by omega), wrap_in (by omega) (by omega), hxq]
            have hly : IsLit b.f2[q] := by
              rcases HOB.out.m2 b.f2[q] (List.getElem_mem hqb) with e | e | e
              · rw [e]; exact ⟨by decide, by decide⟩
              · rw [e]; exact ⟨by decide, by decide⟩
              · exact lit_isL HC3.out.2.2 e
            generalize b.f2[q] = y at *
            have HLX := Aside0.mk (And.intro hly hlx)
            have hqi : (q : Int) < (b.f2.length : Int) := by omega
            clear hxo hlt h1 hxq hmd hlx hly hq hqb
            go_wp2_with fail
            refine (lift_by y x _ HLX.out.1 HLX.out.2).mono ?_
            rintro e w5 ⟨rfl, hb_⟩
            rw [HJ.out] at HMAP
            have G5 := Aside0.mk (G.out.below hb_)
            clear hb_ G b0_ b1_ b2_ b3_ b4_ b5_ b6_ d0 d1 d2 d3 d4 p0 p1_ p2_ p3_ p4_ p5_ p6_ hx hy HJ HLX hwq hqi
            generalize byL y x = xv at *
            obtain ⟨⟨p0, p1_, p2_, p3_, p4_, p5_, p6_⟩, _⟩ := blk7 G5.out.BO
            go_wp2_with (first | (at_builtin; refine Kd.R_append (Kd.int .i64) (w0 := w5) (W := w5) (gO + 1) rfl (.tmp 104) (.tmp 106) 24 3 (.int .i64 0) 8 rfl Try.underlying24 infoInt rfl (by decide) (by omega) (.slice V i cap) ((a.f2.take i).map (joinF md b)) (xv) [.int .i64 (xv)] (fun _ => True) (fun _ => False) rfl rfl ?aP (fun _ h => h.elim) ?aF ?aO ?aB ?aS ?aL ?_; (case aP => exact rfl); (case aF => exact fun _ _ => trivial); (case aO => exact G5.out.RV); (case aB => exact Below.refl _ _); (case aS => exact G5.out.sz); (case aL => have := HBIG.out; have := HLT.out; rw [HLE0.out]; omega); intro v1 w8 ho hb hg hat; rw [HMAP.out] at ho; obtain ⟨V8, cap8, rfl, _, _⟩ := Kd.R_reads ho; rw [HLEN.out] at ho; rw [HLEN.out]; have G8 := Aside0.mk (G5.out.app hb ho); obtain ⟨⟨o0, o1, o2, o3, o4, o5, o6⟩, y0, y1, y2, y3, y4, y5, y6⟩ := blk7 G8.out.BO; clear ho hb hg hat))
            go_roundg (a.f2.length - (i + 1))
            case measure => have := HI.out; have := HLT.out; omega
            case rel => exact ⟨i + 1, V8, cap8, val_step HLT.out HMX.out, ⟨HLT.out, by have := HI.out; omega⟩, ⟨G8.out.put (by decide) 2 _ rfl⟩⟩
          · have h1d : decide (1 < x) = false := decide_eq_false h1
            have HJ := Aside0.mk (show joinF md b x = x by unfold joinF; rw [if_neg h1])
            rw [HJ.out] at HMAP
            clear hxo hlt h1 HJ b0_ b1_ b2_ b3_ b4_ b5_ b6_ d0 d1 d2 d3 d4
            go_wp2_with (first | (at_builtin; refine Kd.R_append (Kd.int .i64) (w0 := wr) (W := wr) (gO + 1) rfl (.tmp 104) (.tmp 106) 24 3 (.int .i64 0) 8 rfl Try.underlying24 infoInt rfl (by decide) (by omega) (.slice V i cap) ((a.f2.take i).map (joinF md b)) (x) [.int .i64 (x)] (fun _ => True) (fun _ => False) rfl rfl ?aP (fun _ h => h.elim) ?aF ?aO ?aB ?aS ?aL ?_; (case aP => exact rfl); (case aF => exact fun _ _ => trivial); (case aO => exact G.out.RV); (case aB => exact Below.refl _ _); (case aS => exact G.out.sz); (case aL => have := HBIG.out; have := HLT.out; rw [HLE0.out]; omega); intro v1 w8 ho hb hg hat; rw [HMAP.out] at ho; obtain ⟨V8, cap8, rfl, _, _⟩ := Kd.R_reads ho; rw [HLEN.out] at ho; rw [HLEN.out]; have G8 := Aside0.mk (G.out.app hb ho); obtain ⟨⟨o0, o1, o2, o3, o4, o5, o6⟩, y0, y1, y2, y3, y4, y5, y6⟩ := blk7 G8.out.BO; clear ho hb hg hat))
            go_roundg (a.f2.length - (i + 1))
            case measure => have := HI.out; have := HLT.out; omega
            case rel => exact ⟨i + 1, V8, cap8, val_step HLT.out HMX.out, ⟨HLT.out, by have := HI.out; omega⟩, ⟨G8.out.put (by decide) 2 _ rfl⟩⟩
        · have hi : i = a.f2.length := by have := HI.out.1; omega
          subst hi

          have G1 := Aside0.mk (Stg.next (show Stg w (w.heap.size + 7) (gO + 1) gO 31 (JBx (w.heap.size) (w.heap.size + 1) (w.heap.size + 1 + 1 + 1) (w.heap.size + 1 + 1 + 1 + 1) (w.heap.size + 1 + 1 + 1 + 1 + 1) ⟨P1, p1, P2, p2, P3, p3, P4, p4⟩ fr ⟨M1, m1, M2, m2, M3, m3, M4, m4⟩ md ⟨A2, a2, A3, a3, A4, a4, A5, a5⟩ a ⟨B2, b2, B3, b3, B4, b4, B5, b5⟩ b) (fun _ => True) (Kd.int .i64) 3 #[.int .i64 (sk a b), .int .i64 (ph a b), .slice V a.f2.length cap, .slice none 0 0, .slice none 0 0, .slice none 0 0, .int .i64 0] V a.f2.length cap (a.f2.map (joinF md b)) wr from by have h_ := G.out; rw [List.take_length] at h_; exact h_) (Kd.slice 3 (Kd.int .i64)) 24)
          obtain ⟨N, hN⟩ : ∃ N : Nat, sk a b + ph a b = (N : Int) := ⟨(sk a b + ph a b).toNat, by have := HSK.out; omega⟩
          have hwN : wrap64 (sk a b + ph a b) = (N : Int) := by rw [wrap_in (by have := HSK.out; omega) (by have := HSK.out; omega), hN]
          have HN := Aside0.mk hN
          obtain ⟨⟨p0, p1_, p2_, p3_, p4_, p5_, p6_⟩, _⟩ := blk7 G1.out.BO
          clear G hN
          go_wp2
          rw [hwN]
          clear hwN p0 p1_ p2_ p3_ p4_ p5_ p6_
          generalize wr.heap.size = n1 at *
          go_loopg [115] N (fun gg s115 wr => ∃ (j : Nat) (O : Option Addr) (co : Nat), s115 = .int .i64 j ∧ Aside0 (j ≤ N ∧ N - j ≤ gg) ∧ Aside0 (Stg w (w.heap.size + 7) n1 gO 31 (JBx (w.heap.size) (w.heap.size + 1) (w.heap.size + 1 + 1 + 1) (w.heap.size + 1 + 1 + 1 + 1) (w.heap.size + 1 + 1 + 1 + 1 + 1) ⟨P1, p1, P2, p2, P3, p3, P4, p4⟩ fr ⟨M1, m1, M2, m2, M3, m3, M4, m4⟩ md ⟨A2, a2, A3, a3, A4, a4, A5, a5⟩ a ⟨B2, b2, B3, b3, B4, b4, B5, b5⟩ b) (fun W => True ∧ RS (Kd.int .i64) W V cap (a.f2.map (joinF md b))) (Kd.slice 3 (Kd.int .i64)) 24 #[.int .i64 (sk a b), .int .i64 (ph a b), .slice V a.f2.length cap, .slice O j co, .slice none 0 0, .slice none 0 0, .int .i64 0] O j co ((List.range j).map (joinRow a b)) wr))
          case atStart => exact ⟨0, none, 0, rfl, ⟨by omega, by omega⟩, G1⟩
          case round =>
            clear G1
            obtain ⟨j, O, co, rfl, HI, G⟩ := hrel
            by_cases hlt : j < N
            · have HLT := Aside0.mk hlt
              have hjb := at_bound HOA.out HOB.out (show (j : Int) < sk a b + ph a b by rw [HN.out]; omega)
              have HNB := Aside0.mk (show N ≤ 600 by have := HN.out; have := HSK.out; omega)
              have hwl : wrap64 ((j : Int) - a.f0) = (j : Int) - a.f0 := by have := HOA.out.s0; have := HOA.out.s1; have := HNB.out; rw [wrap_in (by omega) (by omega)]
              have hji : (j : Int) < (N : Int) := by omega
              obtain ⟨⟨s0, s1, s2, s3, s4, s5, s6⟩, _⟩ := blk7 G.out.HB.self.2.2.1
              by_cases hk : a.f1 ≤ (j : Int) - a.f0
              · have hkd : decide (a.f1 ≤ (j : Int) - a.f0) = true := decide_eq_true hk
                have hk0 := HOA.out.p0
                have hk4 := HOA.out.p1
                obtain ⟨rj, hrj⟩ : ∃ r : Nat, rowAt a j = r := ⟨_, rfl⟩
                obtain ⟨fj, hfj⟩ : ∃ f : Nat, frAt a j = f := ⟨_, rfl⟩
                rw [hrj, hfj] at hjb
                have HRJ2 := Aside0.mk (And.intro hrj hfj)
                have hs0 := HOA.out.s0
                have hs1 := HOA.out.s1
                have hnb := HNB.out
                have hm0 : 0 ≤ ((j : Int) - a.f0) % a.f1 := Int.emod_nonneg _ (by omega)
                have hm1 : ((j : Int) - a.f0) % a.f1 < a.f1 := Int.emod_lt_of_pos _ (by omega)
                have hd0 : 0 ≤ ((j : Int) - a.f0) / a.f1 := Int.ediv_nonneg (by omega) (by omega)
                have hd1 : ((j : Int) - a.f0) / a.f1 ≤ (j : Int) - a.f0 := Int.ediv_le_self _ (by omega)
                have hwr : IntKind.i64.wrap (a.f0 + ((j : Int) - a.f0).tmod a.f1) = (rj : Int) := by
                  rw [i64_w, Int.tmod_eq_emod_of_nonneg (by omega), wrap_in (by omega) (by omega), ← hrj]
                  unfold rowAt
                  rw [if_pos hk]
                  omega
                have hwf : IntKind.i64.wrap (((j : Int) - a.f0).tdiv a.f1) = (fj : Int) := by
                  rw [i64_w, Int.tdiv_eq_ediv_of_nonneg (by omega), wrap_in (by omega) (by omega), ← hfj]
                  unfold frAt
                  rw [if_pos hk]
                  omega
                have hzz : ¬ a.f1 = 0 := by omega
                have G4 := Aside0.mk (G.out.below (below_drew (Below.refl wr.heap.size wr)))
                have HSS := Aside0.mk (show (fun w' : World => w'.cell? ⟨w.heap.size + 1 + 1 + 1, 0, none⟩ = some (.int .i64 a.f0) ∧ w'.cell? ⟨w.heap.size + 1 + 1 + 1, 1, none⟩ = some (.int .i64 a.f1)) wr from ⟨s0, s1⟩)
                have HJB := Aside0.mk hjb
                clear hrj hfj hm0 hm1 hd0 hd1 hk hk0 hk4 hs0 hs1 hnb hjb s2 s3 s4 s5 s6 G
                go_wp2
                refine start_ (n := 13) (S := (fun w' : World => w'.cell? ⟨w.heap.size + 1 + 1 + 1, 0, none⟩ = some (.int .i64 a.f0) ∧ w'.cell? ⟨w.heap.size + 1 + 1 + 1, 1, none⟩ = some (.int .i64 a.f1))) (ds := []) #[false, false, false, false, false, false, false, false, false, false, false, false, false] (by kernel_rfl) rfl rfl HSS.out (fun hHeld => ?_)
                refine pure_ (i := 0) (N := some 127) (v := ?_) (a' := ?_) #[true, false, false, false, false, false, false, false, false, false, false, false, false] rfl rfl (by kernel_rfl) (fun _ _ _ h => h) (Or.inl ⟨by rfl, ?_⟩) ?_ ?_
                rotate_left
                · intro w'
                  go_simp
                  with_reducible rfl
                rotate_left
                · simp only [Act.put, List.setIfInBounds_toArray, List.set_cons_zero, List.set_cons_succ]
                  rfl
                refine take_ (i := 1) (N := some 128) (v := ?_) (a' := ?_) #[true, true, false, false, false, false, false, false, false, false, false, false, false] rfl rfl (by kernel_rfl) (fun _ _ _ h => h) (Or.inl ⟨by rfl, ?_⟩) hHeld ?_ ?_
                rotate_left
                · rintro w' ⟨s0, s1⟩
                  go_simp
                  with_reducible rfl
                rotate_left
                · simp only [Act.put, List.setIfInBounds_toArray, List.set_cons_zero, List.set_cons_succ]
                  rfl
                refine pure_ (i := 2) (N := some 129) (v := ?_) (a' := ?_) #[true, true, true, false, false, false, false, false, false, false, false, false, false] rfl rfl (by kernel_rfl) (fun _ _ _ h => h) (Or.inl ⟨by rfl, ?_⟩) ?_ ?_
                rotate_left
                · intro w'
                  go_simp
                  with_reducible rfl
                rotate_left
                · simp only [Act.put, List.setIfInBounds_toArray, List.set_cons_zero, List.set_cons_succ]
                  rfl
                refine pure_ (i := 3) (N := some 130) (v := ?_) (a' := ?_) #[true, true, true, true, false, false, false, false, false, false, false, false, false] rfl rfl (by kernel_rfl) (fun _ _ _ h => h) (Or.inl ⟨by rfl, ?_⟩) ?_ ?_
                rotate_left
                · intro w'
                  go_simp
                  with_reducible rfl
                rotate_left
                · simp only [Act.put, List.setIfInBounds_toArray, List.set_cons_zero, List.set_cons_succ]
                  rfl
                refine take_ (i := 4) (N := some 131) (v := ?_) (a' := ?_) #[true, true, true, true, true, false, false, false, false, false, false, false, false] rfl rfl (by kernel_rfl) (fun _ _ _ h => h) (Or.inl ⟨by rfl, ?_⟩) hHeld ?_ ?_
                rotate_left
                · rintro w' ⟨s0, s1⟩
                  go_simp
                  with_reducible rfl
                rotate_left
                · simp only [Act.put, List.setIfInBounds_toArray, List.set_cons_zero, List.set_cons_succ]
                  rfl
                refine pure_ (i := 5) (N := some 132) (v := ?_) (a' := ?_) #[true, true, true, true, true, true, false, false, false, false, false, false, false] rfl rfl (by kernel_rfl) (fun _ _ _ h => h) (Or.inl ⟨by rfl, ?_⟩) ?_ ?_
                rotate_left
                · intro w'
                  go_simp
                  with_reducible rfl
                rotate_left
                · simp only [Act.put, List.setIfInBounds_toArray, List.set_cons_zero, List.set_cons_succ]
                  rfl
                refine pure_ (i := 6) (N := some 133) (v := ?_) (a' := ?_) #[true, true, true, true, true, true, true, false, false, false, false, false, false] rfl rfl (by kernel_rfl) (fun _ _ _ h => h) (Or.inl ⟨by rfl, ?_⟩) ?_ ?_
                rotate_left
                · intro w'
                  go_simp
                  with_reducible rfl
                rotate_left
                · simp only [Act.put, List.setIfInBounds_toArray, List.set_cons_zero, List.set_cons_succ]
                  rfl
                refine pure_ (i := 7) (N := some 134) (v := ?_) (a' := ?_) #[true, true, true, true, true, true, true, true, false, false, false, false, false] rfl rfl (by kernel_rfl) (fun _ _ _ h => h) (Or.inl ⟨by rfl, ?_⟩) ?_ ?_
                rotate_left
                · intro w'
                  go_simp
                  with_reducible rfl
                rotate_left
                · simp only [Act.put, List.setIfInBounds_toArray, List.set_cons_zero, List.set_cons_succ]
                  rfl
                refine pure_ (i := 8) (N := some 135) (v := ?_) (a' := ?_) #[true, true, true, true, true, true, true, true, true, false, false, false, false] rfl rfl (by kernel_rfl) (fun _ _ _ h => h) (Or.inl ⟨by rfl, ?_⟩) ?_ ?_
                rotate_left
                · intro w'
                  go_simp
                  with_reducible rfl
                rotate_left
                · simp only [Act.put, List.setIfInBounds_toArray, List.set_cons_zero, List.set_cons_succ]
                  rfl
                refine take_ (i := 9) (N := some 136) (v := ?_) (a' := ?_) #[true, true, true, true, true, true, true, true, true, true, false, false, false] rfl rfl (by kernel_rfl) (fun _ _ _ h => h) (Or.inl ⟨by rfl, ?_⟩) hHeld ?_ ?_
                rotate_left
                · rintro w' ⟨s0, s1⟩
                  go_simp
                  with_reducible rfl
                rotate_left
                · simp only [Act.put, List.setIfInBounds_toArray, List.set_cons_zero, List.set_cons_succ]
                  rfl
                refine pure_ (i := 10) (N := some 137) (v := ?_) (a' := ?_) #[true, true, true, true, true, true, true, true, true, true, true, false, false] rfl rfl (by kernel_rfl) (fun _ _ _ h => h) (Or.inl ⟨by rfl, ?_⟩) ?_ ?_
                rotate_left
                · intro w'
                  go_simp
                  with_reducible rfl
                rotate_left
                · simp only [Act.put, List.setIfInBounds_toArray, List.set_cons_zero, List.set_cons_succ]
                  rfl
                refine pure_ (i := 11) (N := some 19) (v := ?_) (a' := ?_) #[true, true, true, true, true, true, true, true, true, true, true, true, false] rfl rfl (by kernel_rfl) (fun _ _ _ h => h) (Or.inl ⟨by rfl, ?_⟩) ?_ ?_
                rotate_left
                · intro w'
                  go_simp
                  with_reducible rfl
                rotate_left
                · simp only [Act.put, List.setIfInBounds_toArray, List.set_cons_zero, List.set_cons_succ]
                  rfl
                refine pure_ (i := 12) (N := some 20) (v := ?_) (a' := ?_) #[true, true, true, true, true, true, true, true, true, true, true, true, true] rfl rfl (by kernel_rfl) (fun _ _ _ h => h) (Or.inl ⟨by rfl, ?_⟩) ?_ ?_
                rotate_left
                · intro w'
                  go_simp
                  with_reducible rfl
                rotate_left
                · simp only [Act.put, List.setIfInBounds_toArray, List.set_cons_zero, List.set_cons_succ]
                  rfl
                refine done_ (by kernel_rfl) ?_
                clear hwr hwf hzz HSS hHeld s0 s1
                obtain ⟨w4, hw4⟩ : ∃ W, wr.drew = W := ⟨_, rfl⟩
                rw [hw4] at G4 ⊢
                clear hw4
                have hjb1 := HJB.out.1
                obtain ⟨ad, Bx, cx, e3, hx, hrx⟩ := at_row (HRA.out.below G4.out.BW).s3.r rj hjb1
                cases e3
                have HJR := Aside0.mk (joinRow_eq (b := b) HRJ2.out.1 HRJ2.out.2 HJB.out.1)
                have HMR := Aside0.mk (HOA.out.m3 a.f3[rj] (List.getElem_mem hjb1))
                have hrl : (a.f3[rj].length : Int) ≤ 1000 := by have := HMR.out.1; have := gCheck_ok HC3.out.1; omega
                have hji2 : ((rj : Nat) : Int) < (a.f3.length : Int) := by omega
                generalize a.f3[rj] = row at *
                obtain ⟨⟨s0, s1, s2, s3, s4, s5, s6⟩, _⟩ := blk7 G4.out.HB.self.2.2.1
                have HRL := Aside0.mk hrl
                have HRX := Aside0.mk hrx
                clear hrx hrl hjb1
                go_wp2_with fail
                refine (slices_Clone_int Bx cx row w4 HRX.out (by have := HRL.out; omega)).mono ?_
                rintro e w5 ⟨CA, cc, rfl, hrc, hb5⟩
                have HB5 := Aside0.mk hb5
                have RC5 := Aside0.mk hrc
                clear hrc hb5 hx hji2 s0 s1 s2 s3 s4 s5 s6
                go_wp2
                go_loopg [146] row.length (fun gg s146 wr => ∃ (i : Nat), s146 = .int .i64 i ∧ Aside0 (i ≤ row.length ∧ row.length - i ≤ gg) ∧ Aside0 (Below w4.heap.size w4 wr) ∧ Aside0 (Kd.R (Kd.int .i64) 3 wr w4.heap.size (fun _ => True) (.slice CA row.length cc) (mix (joinI b fj) row i)))
                case atStart => exact ⟨0, rfl, ⟨by omega, by omega⟩, HB5, RC5⟩
                case round =>
                  clear HB5 RC5
                  obtain ⟨i, rfl, HI4, B5, RC⟩ := hrel
                  by_cases hlt4 : i < row.length
                  · obtain ⟨gC, cD, e4, hgc, hgc2, _⟩ := Kd.R_form RC.out (by rw [mix_len]; omega)
                    rw [mix_len] at e4
                    cases e4
                    have HLT4 := Aside0.mk hlt4
                    have HXA := mix_at (f := joinI b fj) hlt4 (by rw [mix_len]; exact hlt4)
                    obtain ⟨cd, e5, hxc⟩ := at_int (RS.of_R' RC.out).r i (by rw [mix_len]; exact hlt4)
                    cases e5
                    rw [HXA, add_plain] at hxc
                    have hfz : wr.frozen? ⟨gC, i, none⟩ = false := by
                      have h_ := (Kd.R_celln 0 RC.out (i : Int) (by omega) (by omega)).2
                      simpa using h_
                    have hxm := HMR.out.2 row[i] (List.getElem_mem hlt4)
                    have HMS := Aside0.mk (fun y (hy : joinI b fj row[i] = y) => mix_set (f := joinI b fj) hlt4 hy)
                    have HMK := Aside0.mk (fun (hy : joinI b fj row[i] = row[i]) => mix_skip (f := joinI b fj) hlt4 hy)
                    have hjb2 := HJB.out.2
                    have HJI := Aside0.mk (fun (q : Nat) (hq : q < b.f3[fj].length) (hxq : row[i] / 2 - 1 = (q : Int)) (h0 : 0 < row[i]) => joinI_at (b := b) (f := fj) hjb2 hq hxq h0)
                    generalize row[i] = x at *
                    have hli4 : (i : Int) < (row.length : Int) := by omega
                    by_cases h0 : 0 < x
                    · have h0d : decide (0 < x) = true := decide_eq_true h0
                      obtain ⟨bd, By, cy, e6, hy, hry⟩ := at_row (HRB.out.below ((G4.out.below B5.out).BW)).s3.r fj hjb2
                      cases e6
                      have hmb := HOB.out.m3 b.f3[fj] (List.getElem_mem hjb2)
                      have hfi : ((fj : Nat) : Int) < (b.f3.length : Int) := by omega
                      generalize b.f3[fj] = rb at *
                      have hmd := gCheck_ok HC3.out.2.1
                      obtain ⟨q, hxq⟩ : ∃ q : Nat, x / 2 - 1 = (q : Int) := ⟨(x / 2 - 1).toNat, by omega⟩
                      have hqb : q < rb.length := by have := hmb.1; omega
                      have HJV := Aside0.mk (HJI.out q hqb hxq h0)
                      obtain ⟨yd, e7, hz⟩ := at_int hry.r q hqb
                      cases e7
                      generalize rb[q] = y at *
                      have hwq : wrap64 (wrap64 (x.tdiv 2) - 1) = (q : Int) := by
                        rw [half_of ⟨by omega, by omega⟩ (by omega), wrap_in (by omega) (by omega), hxq]
                      have hqi : (q : Int) < (rb.length : Int) := by omega
                      obtain ⟨⟨b0_, b1_, b2_, b3_, b4_, b5_, b6_⟩, _⟩ := blk7 (G4.out.below B5.out).HB.self.2.2.2.1
                      clear HJI h0 hjb2 hmb hry hmd hqb hxm hxq hlt4 HXA hgc2
                      go_wp2
                      go_roundg (row.length - (i + 1))
                      case measure => have := HI4.out; have := HLT4.out; omega
                      case rel => exact ⟨i + 1, val_step HLT4.out (by have := HRL.out; omega), ⟨HLT4.out, by have := HI4.out; omega⟩, ⟨B5.out.setCell hgc _⟩, ⟨by have h_ := Kd.R_putn RC.out (i : Int) y; rw [Int.toNat_natCast, HMS.out y HJV.out] at h_; exact h_⟩⟩
                    · have h0d : decide (0 < x) = false := decide_eq_false h0
                      have HJ0 := Aside0.mk (HMK.out (by unfold joinI; rw [if_neg h0]))
                      clear h0 hxm hlt4 HXA hgc2 HJI hjb2
                      go_wp2
                      go_roundg (row.length - (i + 1))
                      case measure => have := HI4.out; have := HLT4.out; omega
                      case rel => exact ⟨i + 1, val_step HLT4.out (by have := HRL.out; omega), ⟨HLT4.out, by have := HI4.out; omega⟩, B5, ⟨by rw [HJ0.out]; exact RC.out⟩⟩
                  · have hi4 : i = row.length := by have := HI4.out.1; omega
                    subst hi4
                    have RJ := Aside0.mk (show Kd.R (Kd.int .i64) 3 wr w4.heap.size (fun _ => True) (.slice CA row.length cc) (joinRow a b j) from by have h_ := RC.out; rw [mix_end, ← HJR.out] at h_; exact h_)
                    have G6 := Aside0.mk (G4.out.below B5.out)
                    have HRS := Aside0.mk (rows_snoc a b j)
                    have HRE := Aside0.mk (show ((List.range (j + 1)).map (joinRow a b)).length = j + 1 by rw [List.length_map, List.length_range])
                    obtain ⟨⟨p0, p1_, p2_, p3_, p4_, p5_, p6_⟩, _⟩ := blk7 G6.out.BO
                    clear RC
                    go_wp2_with (first | (at_builtin; refine Kd.R_append (Kd.slice 3 (Kd.int .i64)) (w0 := wr) (W := wr) n1 rfl (.tmp 168) (.tmp 170) 27 24 (.slice none 0 0) 24 rfl Try.underlying27 infoRow rfl (by decide) (by omega) (.slice O j co) ((List.range j).map (joinRow a b)) (joinRow a b j) [.slice CA row.length cc] (fun _ => True) (fun q => some q ≠ (Value.slice O j co).ownBlock) rfl rfl ?aP (fun _ h => ⟨trivial, h⟩) ?aF ?aO ?aB ?aS ?aL ?_; (case aP => exact ⟨_, rfl, Kd.R_lower (Kd.R_mono (Kd.R_new (W := w4) RJ.out (Kd.R_own G4.out.RV).choose_spec) (fun q hq => hq.2)) G4.out.sz⟩); (case aF => exact fun _ _ => trivial); (case aO => exact G6.out.RV); (case aB => exact Below.refl _ _); (case aS => exact G6.out.sz); (case aL => have := HNB.out; have := HLT.out; rw [List.length_map, List.length_range]; omega); intro v1 w8 ho hb hg hat; rw [HRS.out] at ho; obtain ⟨V8, cap8, rfl, _, _⟩ := Kd.R_reads ho; rw [HRE.out] at ho; rw [HRE.out]; have G8 := Aside0.mk (G6.out.app hb ho); obtain ⟨⟨o0, o1, o2, o3, o4, o5, o6⟩, y0, y1, y2, y3, y4, y5, y6⟩ := blk7 G8.out.BO; clear ho hb hg hat))
                    go_roundg (N - (j + 1))
                    case measure => have := HI.out; have := HLT.out; omega
                    case rel => exact ⟨j + 1, V8, cap8, val_step HLT.out (by have := HNB.out; omega), ⟨HLT.out, by have := HI.out; omega⟩, ⟨G8.out.put (by decide) 3 _ rfl⟩⟩
              · have hkd : decide (a.f1 ≤ (j : Int) - a.f0) = false := decide_eq_false hk
                have hrj : rowAt a j = j := by unfold rowAt; rw [if_neg hk]
                have hfj : frAt a j = 0 := by unfold frAt; rw [if_neg hk]
                rw [hrj, hfj] at hjb
                have HRJ2 := Aside0.mk (And.intro hrj hfj)
                have HJB := Aside0.mk hjb
                have G4 := G
                obtain ⟨w4, hw4⟩ : ∃ W, wr = W := ⟨_, rfl⟩
                rw [hw4] at G4 s0 s1 s3 ⊢
                clear hw4 hrj hfj hk hjb s2 s4 s5 s6 G
                have hjb1 := HJB.out.1
                obtain ⟨ad, Bx, cx, e3, hx, hrx⟩ := at_row (HRA.out.below G4.out.BW).s3.r j hjb1
                cases e3
                have HJR := Aside0.mk (joinRow_eq (b := b) HRJ2.out.1 HRJ2.out.2 HJB.out.1)
                have HMR := Aside0.mk (HOA.out.m3 a.f3[j] (List.getElem_mem hjb1))
                have hrl : (a.f3[j].length : Int) ≤ 1000 := by have := HMR.out.1; have := gCheck_ok HC3.out.1; omega
                have hji2 : ((j : Nat) : Int) < (a.f3.length : Int) := by omega
                generalize a.f3[j] = row at *
                obtain ⟨⟨s0, s1, s2, s3, s4, s5, s6⟩, _⟩ := blk7 G4.out.HB.self.2.2.1
                have HRL := Aside0.mk hrl
                have HRX := Aside0.mk hrx
                clear hrx hrl hjb1
                go_wp2_with fail
                refine (slices_Clone_int Bx cx row w4 HRX.out (by have := HRL.out; omega)).mono ?_
                rintro e w5 ⟨CA, cc, rfl, hrc, hb5⟩
                have HB5 := Aside0.mk hb5
                have RC5 := Aside0.mk hrc
                clear hrc hb5 hx hji2 s0 s1 s2 s3 s4 s5 s6
                go_wp2
                go_loopg [146] row.length (fun gg s146 wr => ∃ (i : Nat), s146 = .int .i64 i ∧ Aside0 (i ≤ row.length ∧ row.length - i ≤ gg) ∧ Aside0 (Below w4.heap.size w4 wr) ∧ Aside0 (Kd.R (Kd.int .i64) 3 wr w4.heap.size (fun _ => True) (.slice CA row.length cc) (mix (joinI b 0) row i)))
                case atStart => exact ⟨0, rfl, ⟨by omega, by omega⟩, HB5, RC5⟩
                case round =>
                  clear HB5 RC5
                  obtain ⟨i, rfl, HI4, B5, RC⟩ := hrel
                  by_cases hlt4 : i < row.length
                  · obtain ⟨gC, cD, e4, hgc, hgc2, _⟩ := Kd.R_form RC.out (by rw [mix_len]; omega)
                    rw [mix_len] at e4
                    cases e4
                    have HLT4 := Aside0.mk hlt4
                    have HXA := mix_at (f := joinI b 0) hlt4 (by rw [mix_len]; exact hlt4)
                    obtain ⟨cd, e5, hxc⟩ := at_int (RS.of_R' RC.out).r i (by rw [mix_len]; exact hlt4)
                    cases e5
                    rw [HXA, add_plain] at hxc
                    have hfz : wr.frozen? ⟨gC, i, none⟩ = false := by
                      have h_ := (Kd.R_celln 0 RC.out (i : Int) (by omega) (by omega)).2
                      simpa using h_
                    have hxm := HMR.out.2 row[i] (List.getElem_mem hlt4)
                    have HMS := Aside0.mk (fun y (hy : joinI b 0 row[i] = y) => mix_set (f := joinI b 0) hlt4 hy)
                    have HMK := Aside0.mk (fun (hy : joinI b 0 row[i] = row[i]) => mix_skip (f := joinI b 0) hlt4 hy)
                    have hjb2 := HJB.out.2
                    have HJI := Aside0.mk (fun (q : Nat) (hq : q < b.f3[0].length) (hxq : row[i] / 2 - 1 = (q : Int)) (h0 : 0 < row[i]) => joinI_at (b := b) (f := 0) hjb2 hq hxq h0)
                    generalize row[i] = x at *
                    have hli4 : (i : Int) < (row.length : Int) := by omega
                    by_cases h0 : 0 < x
                    · have h0d : decide (0 < x) = true := decide_eq_true h0
                      obtain ⟨bd, By, cy, e6, hy, hry⟩ := at_row (HRB.out.below ((G4.out.below B5.out).BW)).s3.r 0 hjb2
                      cases e6
                      have hy0 := hy
                      rw [show bd.add 0 = bd from by unfold Addr.add; rfl] at hy0
                      have hmb := HOB.out.m3 b.f3[0] (List.getElem_mem hjb2)
                      have hfi : ((0 : Nat) : Int) < (b.f3.length : Int) := by omega
                      generalize b.f3[0] = rb at *
                      have hmd := gCheck_ok HC3.out.2.1
                      obtain ⟨q, hxq⟩ : ∃ q : Nat, x / 2 - 1 = (q : Int) := ⟨(x / 2 - 1).toNat, by omega⟩
                      have hqb : q < rb.length := by have := hmb.1; omega
                      have HJV := Aside0.mk (HJI.out q hqb hxq h0)
                      obtain ⟨yd, e7, hz⟩ := at_int hry.r q hqb
                      cases e7
                      generalize rb[q] = y at *
                      have hwq : wrap64 (wrap64 (x.tdiv 2) - 1) = (q : Int) := by
                        rw [half_of ⟨by omega, by omega⟩ (by omega), wrap_in (by omega) (by omega), hxq]
                      have hqi : (q : Int) < (rb.length : Int) := by omega
                      obtain ⟨⟨b0_, b1_, b2_, b3_, b4_, b5_, b6_⟩, _⟩ := blk7 (G4.out.below B5.out).HB.self.2.2.2.1
                      clear HJI h0 hjb2 hmb hry hmd hqb hxm hxq hlt4 HXA hgc2
                      go_wp2
                      go_roundg (row.length - (i + 1))
                      case measure => have := HI4.out; have := HLT4.out; omega
                      case rel => exact ⟨i + 1, val_step HLT4.out (by have := HRL.out; omega), ⟨HLT4.out, by have := HI4.out; omega⟩, ⟨B5.out.setCell hgc _⟩, ⟨by have h_ := Kd.R_putn RC.out (i : Int) y; rw [Int.toNat_natCast, HMS.out y HJV.out] at h_; exact h_⟩⟩
                    · have h0d : decide (0 < x) = false := decide_eq_false h0
                      have HJ0 := Aside0.mk (HMK.out (by unfold joinI; rw [if_neg h0]))
                      clear h0 hxm hlt4 HXA hgc2 HJI hjb2
                      go_wp2
                      go_roundg (row.length - (i + 1))
                      case measure => have := HI4.out; have := HLT4.out; omega
                      case rel => exact ⟨i + 1, val_step HLT4.out (by have := HRL.out; omega), ⟨HLT4.out, by have := HI4.out; omega⟩, B5, ⟨by rw [HJ0.out]; exact RC.out⟩⟩
                  · have hi4 : i = row.length := by have := HI4.out.1; omega
                    subst hi4
                    have RJ := Aside0.mk (show Kd.R (Kd.int .i64) 3 wr w4.heap.size (fun _ => True) (.slice CA row.length cc) (joinRow a b j) from by have h_ := RC.out; rw [mix_end, ← HJR.out] at h_; exact h_)
                    have G6 := Aside0.mk (G4.out.below B5.out)
                    have HRS := Aside0.mk (rows_snoc a b j)
                    have HRE := Aside0.mk (show ((List.range (j + 1)).map (joinRow a b)).length = j + 1 by rw [List.length_map, List.length_range])
                    obtain ⟨⟨p0, p1_, p2_, p3_, p4_, p5_, p6_⟩, _⟩ := blk7 G6.out.BO
                    clear RC
                    go_wp2_with (first | (at_builtin; refine Kd.R_append (Kd.slice 3 (Kd.int .i64)) (w0 := wr) (W := wr) n1 rfl (.tmp 168) (.tmp 170) 27 24 (.slice none 0 0) 24 rfl Try.underlying27 infoRow rfl (by decide) (by omega) (.slice O j co) ((List.range j).map (joinRow a b)) (joinRow a b j) [.slice CA row.length cc] (fun _ => True) (fun q => some q ≠ (Value.slice O j co).ownBlock) rfl rfl ?aP (fun _ h => ⟨trivial, h⟩) ?aF ?aO ?aB ?aS ?aL ?_; (case aP => exact ⟨_, rfl, Kd.R_lower (Kd.R_mono (Kd.R_new (W := w4) RJ.out (Kd.R_own G4.out.RV).choose_spec) (fun q hq => hq.2)) G4.out.sz⟩); (case aF => exact fun _ _ => trivial); (case aO => exact G6.out.RV); (case aB => exact Below.refl _ _); (case aS => exact G6.out.sz); (case aL => have := HNB.out; have := HLT.out; rw [List.length_map, List.length_range]; omega); intro v1 w8 ho hb hg hat; rw [HRS.out] at ho; obtain ⟨V8, cap8, rfl, _, _⟩ := Kd.R_reads ho; rw [HRE.out] at ho; rw [HRE.out]; have G8 := Aside0.mk (G6.out.app hb ho); obtain ⟨⟨o0, o1, o2, o3, o4, o5, o6⟩, y0, y1, y2, y3, y4, y5, y6⟩ := blk7 G8.out.BO; clear ho hb hg hat))
                    go_roundg (N - (j + 1))
                    case measure => have := HI.out; have := HLT.out; omega
                    case rel => exact ⟨j + 1, V8, cap8, val_step HLT.out (by have := HNB.out; omega), ⟨HLT.out, by have := HI.out; omega⟩, ⟨G8.out.put (by decide) 3 _ rfl⟩⟩
            · have hj : j = N := by have := HI.out.1; omega
              subst hj
              have HNB := Aside0.mk (show j ≤ 600 by have := HN.out; have := HSK.out; omega)
              have hji : ¬ (j : Int) < (j : Int) := by omega
              have G2 := Aside0.mk (Stg.next G.out (Kd.int .i64) 3)
              obtain ⟨⟨p0, p1_, p2_, p3_, p4_, p5_, p6_⟩, _⟩ := blk7 G2.out.BO
              obtain ⟨⟨b0_, b1_, b2_, b3_, b4_, b5_, b6_⟩, _⟩ := blk7 G2.out.HB.self.2.2.2.1
              have HMXL := Aside0.mk HRB.out.s4.max
              clear G hlt
              go_wp2
              clear p0 p1_ p2_ p3_ p4_ p5_ p6_ b0_ b1_ b2_ b3_ b4_ b5_ b6_
              generalize wr.heap.size = n2 at *
              go_loopg [177] b.f4.length (fun gg s177 wr => ∃ (i : Nat) (L : Option Addr) (cl : Nat), s177 = .int .i64 i ∧ Aside0 (i ≤ b.f4.length ∧ b.f4.length - i ≤ gg) ∧ Aside0 (Stg w (w.heap.size + 7) n2 gO 31 (JBx (w.heap.size) (w.heap.size + 1) (w.heap.size + 1 + 1 + 1) (w.heap.size + 1 + 1 + 1 + 1) (w.heap.size + 1 + 1 + 1 + 1 + 1) ⟨P1, p1, P2, p2, P3, p3, P4, p4⟩ fr ⟨M1, m1, M2, m2, M3, m3, M4, m4⟩ md ⟨A2, a2, A3, a3, A4, a4, A5, a5⟩ a ⟨B2, b2, B3, b3, B4, b4, B5, b5⟩ b) (fun W => (True ∧ RS (Kd.int .i64) W V cap (a.f2.map (joinF md b))) ∧ RS (Kd.slice 3 (Kd.int .i64)) W O co ((List.range j).map (joinRow a b))) (Kd.int .i64) 3 #[.int .i64 (sk a b), .int .i64 (ph a b), .slice V a.f2.length cap, .slice O j co, .slice L i cl, .slice none 0 0, .int .i64 0] L i cl ((b.f4.take i).map (joinL md a)) wr))
              case atStart => exact ⟨0, none, 0, rfl, ⟨by omega, by omega⟩, G2⟩
              case round =>
                clear G2
                obtain ⟨i, L, cl, rfl, HI5, G⟩ := hrel
                by_cases hlt : i < b.f4.length
                · obtain ⟨ad, e1, hx⟩ := at_int (HRB.out.below G.out.BW).s4.r i hlt
                  cases e1
                  have HLT := Aside0.mk hlt
                  have HMAP := Aside0.mk (show ((b.f4.take i).map (joinL md a)) ++ [joinL md a b.f4[i]] = (b.f4.take (i + 1)).map (joinL md a) by rw [take_at hlt, List.map_append]; rfl)
                  have HLEN := Aside0.mk (show ((b.f4.take (i + 1)).map (joinL md a)).length = i + 1 by rw [List.length_map, List.length_take]; omega)
                  have HLE0 := Aside0.mk (show ((b.f4.take i).map (joinL md a)).length = i by rw [List.length_map, List.length_take]; omega)
                  have hxo := HOB.out.m4 b.f4[i] (List.getElem_mem hlt)
                  have hli : (i : Int) < (b.f4.length : Int) := by omega
                  have HBIG := Aside0.mk (show b.f4.length ≤ 4000000 by rw [HOB.out.n4]; exact FT.out.h1)
                  generalize b.f4[i] = x at *
                  obtain ⟨⟨p0, p1_, p2_, p3_, p4_, p5_, p6_⟩, _⟩ := blk7 G.out.BO
                  by_cases h1 : 0 ≤ x
                  · have h1d : decide (0 ≤ x) = true := decide_eq_true h1
                    have hmdb := gCheck_ok HC3.out.2.1
                    obtain ⟨q, hq, hxq⟩ := at_latch_lit HC3.out.2.1 (show 2 * (md.f0 + 1) ≤ x ∧ x < 2 * (md.f0 + 1 + md.f1.length) by omega)
                    have hqb : q < a.f4.length := by rw [HOA.out.n4]; exact hq
                    obtain ⟨bd, e2, hy⟩ := at_int (HRA.out.below G.out.BW).s4.r q hqb
                    cases e2
                    have HJ := Aside0.mk (joinL_at (md := md) hqb hxq h1)
                    have hlx := lit_isL HC3.out.2.1 (show 2 * (md.f0 + 1) ≤ x ∧ x < 2 * (md.f0 + 1 + md.f1.length) by omega)
                    have hwq : wrap64 (wrap64 (wrap64 (x.tdiv 2) - md.f0) - 1) = (q : Int) := by
                      rw [half_of ⟨by have := hlx.1; omega, by have := hlx.2; omega⟩ hlx.1, wrap_in (x := x / 2 - md.f0) (by omega) (by omega), wrap_in (by omega) (by omega), hxq]
                    have hyo := HOA.out.m4 a.f4[q] (List.getElem_mem hqb)
                    generalize a.f4[q] = y at *
                    have hqi : (q : Int) < (a.f4.length : Int) := by omega
                    obtain ⟨⟨s0, s1, s2, s3, s4, s5, s6⟩, _⟩ := blk7 G.out.HB.self.2.2.1
                    obtain ⟨d0, d1, d2, d3, d4⟩ := blk5 G.out.HB.self.2.1
                    by_cases h2 : 0 ≤ y
                    · have h2d : decide (0 ≤ y) = true := decide_eq_true h2
                      have hfrb := gCheck_ok HC3.out.1
                      have hly := lit_isL HC3.out.1 (show 2 * (fr.f0 + 1) ≤ y ∧ y < 2 * (fr.f0 + 1 + fr.f1.length) by omega)
                      have HLX := Aside0.mk (And.intro hly hlx)
                      have HJV := Aside0.mk (HJ.out.trans (if_pos h2))
                      clear HJ hxo hyo hlt h1 h2 hxq hmdb hfrb hlx hly hq hqb
                      go_wp2_with fail
                      refine (lift_by y x _ HLX.out.1 HLX.out.2).mono ?_
                      rintro e w5 ⟨rfl, hb_⟩
                      rw [HJV.out] at HMAP
                      have G5 := Aside0.mk (G.out.below hb_)
                      clear hb_ G p0 p1_ p2_ p3_ p4_ p5_ p6_ s0 s1 s2 s3 s4 s5 s6 d0 d1 d2 d3 d4 hx hy HJV HLX hwq hqi
                      generalize byL y x = xv at *
                      obtain ⟨⟨p0, p1_, p2_, p3_, p4_, p5_, p6_⟩, _⟩ := blk7 G5.out.BO
                      go_wp2_with (first | (at_builtin; refine Kd.R_append (Kd.int .i64) (w0 := w5) (W := w5) (n2) rfl (.tmp 200) (.tmp 202) 24 3 (.int .i64 0) 8 rfl Try.underlying24 infoInt rfl (by decide) (by omega) (.slice L i cl) ((b.f4.take i).map (joinL md a)) (xv) [.int .i64 (xv)] (fun _ => True) (fun _ => False) rfl rfl ?aP (fun _ h => h.elim) ?aF ?aO ?aB ?aS ?aL ?_; (case aP => exact rfl); (case aF => exact fun _ _ => trivial); (case aO => exact G5.out.RV); (case aB => exact Below.refl _ _); (case aS => exact G5.out.sz); (case aL => have := HBIG.out; have := HLT.out; rw [HLE0.out]; omega); intro v1 w8 ho hb hg hat; rw [HMAP.out] at ho; obtain ⟨V8, cap8, rfl, _, _⟩ := Kd.R_reads ho; rw [HLEN.out] at ho; rw [HLEN.out]; have G8 := Aside0.mk (G5.out.app hb ho); obtain ⟨⟨o0, o1, o2, o3, o4, o5, o6⟩, y0, y1, y2, y3, y4, y5, y6⟩ := blk7 G8.out.BO; clear ho hb hg hat))
                      go_roundg (b.f4.length - (i + 1))
                      case measure => have := HI5.out; have := HLT.out; omega
                      case rel => exact ⟨i + 1, V8, cap8, val_step HLT.out HMXL.out, ⟨HLT.out, by have := HI5.out; omega⟩, ⟨G8.out.put (by decide) 4 _ rfl⟩⟩
                    · have h2d : decide (0 ≤ y) = false := decide_eq_false h2
                      have HJV := Aside0.mk (HJ.out.trans (if_neg h2))
                      rw [HJV.out] at HMAP
                      clear HJ hxo hyo hlt h1 h2 hxq hmdb hlx hq hqb
                      go_wp2_with (first | (at_builtin; refine Kd.R_append (Kd.int .i64) (w0 := wr) (W := wr) (n2) rfl (.tmp 200) (.tmp 202) 24 3 (.int .i64 0) 8 rfl Try.underlying24 infoInt rfl (by decide) (by omega) (.slice L i cl) ((b.f4.take i).map (joinL md a)) (y) [.int .i64 (y)] (fun _ => True) (fun _ => False) rfl rfl ?aP (fun _ h => h.elim) ?aF ?aO ?aB ?aS ?aL ?_; (case aP => exact rfl); (case aF => exact fun _ _ => trivial); (case aO => exact G.out.RV); (case aB => exact Below.refl _ _); (case aS => exact G.out.sz); (case aL => have := HBIG.out; have := HLT.out; rw [HLE0.out]; omega); intro v1 w8 ho hb hg hat; rw [HMAP.out] at ho; obtain ⟨V8, cap8, rfl, _, _⟩ := Kd.R_reads ho; rw [HLEN.out] at ho; rw [HLEN.out]; have G8 := Aside0.mk (G.out.app hb ho); obtain ⟨⟨o0, o1, o2, o3, o4, o5, o6⟩, y0, y1, y2, y3, y4, y5, y6⟩ := blk7 G8.out.BO; clear ho hb hg hat))
                      go_roundg (b.f4.length - (i + 1))
                      case measure => have := HI5.out; have := HLT.out; omega
                      case rel => exact ⟨i + 1, V8, cap8, val_step HLT.out HMXL.out, ⟨HLT.out, by have := HI5.out; omega⟩, ⟨G8.out.put (by decide) 4 _ rfl⟩⟩
                  · have h1d : decide (0 ≤ x) = false := decide_eq_false h1
                    have HJV := Aside0.mk (show joinL md a x = x by unfold joinL; rw [if_neg h1])
                    rw [HJV.out] at HMAP
                    clear hxo hlt h1
                    go_wp2_with (first | (at_builtin; refine Kd.R_append (Kd.int .i64) (w0 := wr) (W := wr) (n2) rfl (.tmp 200) (.tmp 202) 24 3 (.int .i64 0) 8 rfl Try.underlying24 infoInt rfl (by decide) (by omega) (.slice L i cl) ((b.f4.take i).map (joinL md a)) (x) [.int .i64 (x)] (fun _ => True) (fun _ => False) rfl rfl ?aP (fun _ h => h.elim) ?aF ?aO ?aB ?aS ?aL ?_; (case aP => exact rfl); (case aF => exact fun _ _ => trivial); (case aO => exact G.out.RV); (case aB => exact Below.refl _ _); (case aS => exact G.out.sz); (case aL => have := HBIG.out; have := HLT.out; rw [HLE0.out]; omega); intro v1 w8 ho hb hg hat; rw [HMAP.out] at ho; obtain ⟨V8, cap8, rfl, _, _⟩ := Kd.R_reads ho; rw [HLEN.out] at ho; rw [HLEN.out]; have G8 := Aside0.mk (G.out.app hb ho); obtain ⟨⟨o0, o1, o2, o3, o4, o5, o6⟩, y0, y1, y2, y3, y4, y5, y6⟩ := blk7 G8.out.BO; clear ho hb hg hat))
                    go_roundg (b.f4.length - (i + 1))
                    case measure => have := HI5.out; have := HLT.out; omega
                    case rel => exact ⟨i + 1, V8, cap8, val_step HLT.out HMXL.out, ⟨HLT.out, by have := HI5.out; omega⟩, ⟨G8.out.put (by decide) 4 _ rfl⟩⟩
                · have hi : i = b.f4.length := by have := HI5.out.1; omega
                  subst hi
                  have G3 := Aside0.mk (Stg.next (show Stg w (w.heap.size + 7) n2 gO 31 (JBx (w.heap.size) (w.heap.size + 1) (w.heap.size + 1 + 1 + 1) (w.heap.size + 1 + 1 + 1 + 1) (w.heap.size + 1 + 1 + 1 + 1 + 1) ⟨P1, p1, P2, p2, P3, p3, P4, p4⟩ fr ⟨M1, m1, M2, m2, M3, m3, M4, m4⟩ md ⟨A2, a2, A3, a3, A4, a4, A5, a5⟩ a ⟨B2, b2, B3, b3, B4, b4, B5, b5⟩ b) (fun W => (True ∧ RS (Kd.int .i64) W V cap (a.f2.map (joinF md b))) ∧ RS (Kd.slice 3 (Kd.int .i64)) W O co ((List.range j).map (joinRow a b))) (Kd.int .i64) 3 #[.int .i64 (sk a b), .int .i64 (ph a b), .slice V a.f2.length cap, .slice O j co, .slice L b.f4.length cl, .slice none 0 0, .int .i64 0] L b.f4.length cl (b.f4.map (joinL md a)) wr from by have h_ := G.out; rw [List.take_length] at h_; exact h_) (Kd.int .i64) 3)
                  clear G HI5 hlt
                  obtain ⟨n3, hn3⟩ : ∃ n3, wr.heap.size = n3 := ⟨_, rfl⟩
                  rw [hn3] at G3
                  clear hn3
                  have hne : ¬ (b.f4.length : Int) < (b.f4.length : Int) := by omega
                  obtain ⟨tp, htp⟩ : ∃ tp, transP fr a.f4 b.f5 = tp := ⟨_, rfl⟩
                  have hlas := lasOk_of HOA.out (gCheck_ok HC3.out.1).1 (gCheck_ok HC3.out.1).2.1 (by have := gCheck_ok HC3.out.1; omega)
                  have hck5 : predCheck a.f4.length b.f5 = 0 := by rw [HOA.out.n4]; exact HOB.out.k
                  have hsz5 : (fr.f1.length : Int) + b.f5.f0.length ≤ 1000 := by have := SB.out; have := SF.out; omega
                  have HTF := Aside0.mk (transP_fits hlas hck5 hsz5)
                  have HTC := Aside0.mk (fun W (hb : Below w.heap.size w W) => lift_translate ⟨P1, p1, P2, p2, P3, p3, P4, p4⟩ fr A4 a4 a.f4 B5 b5 b.f5 W (HRA.out.below hb).s4 (HRB.out.below hb).s5 FB.out.p hlas hck5 hsz5)
                  rw [htp] at HTF HTC
                  obtain ⟨fp, hfp⟩ : ∃ fp, andP fr.f1.length a.f5 tp = fp := ⟨_, rfl⟩
                  have HFP := Aside0.mk (show factOf fr a b = fp by unfold factOf; rw [htp, hfp])
                  have HAN := Aside0.mk (fun W TA tk (hb : Below w.heap.size w W) (ht : RS kGate W TA tk tp.f0) => preds_And fr.f1.length A5 a5 a.f5 TA tk tp W (HRA.out.below hb).s5 FA.out.p ht HTF.out)
                  rw [hfp] at HAN
                  clear htp hfp hlas hck5 hsz5
                  have G4 := Aside0.mk (G3.out.below (below_drew (Below.refl wr.heap.size wr)))
                  go_wp2
                  refine start_ (n := 18) (S := (fun w' : World => JBx (w.heap.size) (w.heap.size + 1) (w.heap.size + 1 + 1 + 1) (w.heap.size + 1 + 1 + 1 + 1) (w.heap.size + 1 + 1 + 1 + 1 + 1) ⟨P1, p1, P2, p2, P3, p3, P4, p4⟩ fr ⟨M1, m1, M2, m2, M3, m3, M4, m4⟩ md ⟨A2, a2, A3, a3, A4, a4, A5, a5⟩ a ⟨B2, b2, B3, b3, B4, b4, B5, b5⟩ b w')) (ds := []) #[false, false, false, false, false, false, false, false, false, false, false, false, false, false, false, false, false, false] (by kernel_rfl) rfl rfl G3.out.HB.self (fun hHeld => ?_)
                  refine pure_ (i := 0) (N := some 207) (v := ?_) (a' := ?_) #[true, false, false, false, false, false, false, false, false, false, false, false, false, false, false, false, false, false] rfl rfl (by kernel_rfl) (fun _ _ _ h => h) (Or.inl ⟨by rfl, ?_⟩) ?_ ?_
                  rotate_left
                  · intro w'
                    go_simp
                    with_reducible rfl
                  rotate_left
                  · simp only [Act.put, List.setIfInBounds_toArray, List.set_cons_zero, List.set_cons_succ]
                    rfl
                  refine take_ (i := 1) (N := some 208) (v := ?_) (a' := ?_) #[true, true, false, false, false, false, false, false, false, false, false, false, false, false, false, false, false, false] rfl rfl (by kernel_rfl) (fun _ _ _ h => h) (Or.inl ⟨by rfl, ?_⟩) hHeld ?_ ?_
                  rotate_left
                  · intro w' s0
                    obtain ⟨s0, s1, s2, s3, s4⟩ := blk5 s0.1
                    go_simp
                    with_reducible rfl
                  rotate_left
                  · simp only [Act.put, List.setIfInBounds_toArray, List.set_cons_zero, List.set_cons_succ]
                    rfl
                  refine pure_ (i := 2) (N := some 209) (v := ?_) (a' := ?_) #[true, true, true, false, false, false, false, false, false, false, false, false, false, false, false, false, false, false] rfl rfl (by kernel_rfl) (fun _ _ _ h => h) (Or.inl ⟨by rfl, ?_⟩) ?_ ?_
                  rotate_left
                  · intro w'
                    go_simp
                    with_reducible rfl
                  rotate_left
                  · simp only [Act.put, List.setIfInBounds_toArray, List.set_cons_zero, List.set_cons_succ]
                    rfl
                  refine pure_ (i := 3) (N := some 210) (v := ?_) (a' := ?_) #[true, true, true, true, false, false, false, false, false, false, false, false, false, false, false, false, false, false] rfl rfl (by kernel_rfl) (fun _ _ _ h => h) (Or.inl ⟨by rfl, ?_⟩) ?_ ?_
                  rotate_left
                  · intro w'
                    go_simp
                    with_reducible rfl
                  rotate_left
                  · simp only [Act.put, List.setIfInBounds_toArray, List.set_cons_zero, List.set_cons_succ]
                    rfl
                  refine take_ (i := 4) (N := some 211) (v := ?_) (a' := ?_) #[true, true, true, true, true, false, false, false, false, false, false, false, false, false, false, false, false, false] rfl rfl (by kernel_rfl) (fun _ _ _ h => h) (Or.inl ⟨by rfl, ?_⟩) hHeld ?_ ?_
                  rotate_left
                  · intro w' s0
                    obtain ⟨⟨s0, s1, s2, s3, s4, s5, s6⟩, _⟩ := blk7 s0.2.2.1
                    go_simp
                    with_reducible rfl
                  rotate_left
                  · simp only [Act.put, List.setIfInBounds_toArray, List.set_cons_zero, List.set_cons_succ]
                    rfl
                  refine take_ (i := 5) (N := some 212) (v := ?_) (a' := ?_) #[true, true, true, true, true, true, false, false, false, false, false, false, false, false, false, false, false, false] rfl rfl (by kernel_rfl) (fun _ _ _ h => h) (Or.inl ⟨by rfl, ?_⟩) hHeld ?_ ?_
                  rotate_left
                  · intro w' s0
                    obtain ⟨s0, s1, s2, s3, s4⟩ := blk5 s0.1
                    go_simp
                    with_reducible rfl
                  rotate_left
                  · simp only [Act.put, List.setIfInBounds_toArray, List.set_cons_zero, List.set_cons_succ]
                    rfl
                  refine pure_ (i := 6) (N := some 213) (v := ?_) (a' := ?_) #[true, true, true, true, true, true, true, false, false, false, false, false, false, false, false, false, false, false] rfl rfl (by kernel_rfl) (fun _ _ _ h => h) (Or.inl ⟨by rfl, ?_⟩) ?_ ?_
                  rotate_left
                  · intro w'
                    go_simp
                    with_reducible rfl
                  rotate_left
                  · simp only [Act.put, List.setIfInBounds_toArray, List.set_cons_zero, List.set_cons_succ]
                    rfl
                  refine take_ (i := 7) (N := some 214) (v := ?_) (a' := ?_) #[true, true, true, true, true, true, true, true, false, false, false, false, false, false, false, false, false, false] rfl rfl (by kernel_rfl) (fun _ _ _ h => h) (Or.inl ⟨by rfl, ?_⟩) hHeld ?_ ?_
                  rotate_left
                  · intro w' s0
                    obtain ⟨⟨s0, s1, s2, s3, s4, s5, s6⟩, _⟩ := blk7 s0.2.2.1
                    go_simp
                    with_reducible rfl
                  rotate_left
                  · simp only [Act.put, List.setIfInBounds_toArray, List.set_cons_zero, List.set_cons_succ]
                    rfl
                  refine pure_ (i := 8) (N := some 215) (v := ?_) (a' := ?_) #[true, true, true, true, true, true, true, true, true, false, false, false, false, false, false, false, false, false] rfl rfl (by kernel_rfl) (fun _ _ _ h => h) (Or.inl ⟨by rfl, ?_⟩) ?_ ?_
                  rotate_left
                  · intro w'
                    go_simp
                    with_reducible rfl
                  rotate_left
                  · simp only [Act.put, List.setIfInBounds_toArray, List.set_cons_zero, List.set_cons_succ]
                    rfl
                  refine take_ (i := 9) (N := some 216) (v := ?_) (a' := ?_) #[true, true, true, true, true, true, true, true, true, true, false, false, false, false, false, false, false, false] rfl rfl (by kernel_rfl) (fun _ _ _ h => h) (Or.inl ⟨by rfl, ?_⟩) hHeld ?_ ?_
                  rotate_left
                  · intro w' s0
                    obtain ⟨⟨s0, s1, s2, s3, s4, s5, s6⟩, _⟩ := blk7 s0.2.2.2.1
                    go_simp
                    with_reducible rfl
                  rotate_left
                  · simp only [Act.put, List.setIfInBounds_toArray, List.set_cons_zero, List.set_cons_succ]
                    rfl
                  refine join_ (fuel' := 2) #[true, true, true, true, true, true, true, true, true, true, true, true, true, true, true, true, false, false] (fun s : Nat × (Option Addr × Nat) × (Option Addr × Nat) => [(217, .agg #[.slice s.2.1.1 tp.f0.length s.2.1.2, .int .i64 tp.f1]), (218, .tuple #[.agg #[.slice s.2.2.1 fp.1.f0.length s.2.2.2, .int .i64 fp.1.f1], .int .i64 fp.2]), (206, .tuple #[.agg #[.slice s.2.2.1 fp.1.f0.length s.2.2.2, .int .i64 fp.1.f1], .int .i64 fp.2]), (219, .agg #[.slice s.2.2.1 fp.1.f0.length s.2.2.2, .int .i64 fp.1.f1]), (220, .int .i64 fp.2), (28, .pointer (some ⟨s.1, 0, none⟩))]) (fun s w' => (Stg w (w.heap.size + 7) n3 gO 31 (JBx (w.heap.size) (w.heap.size + 1) (w.heap.size + 1 + 1 + 1) (w.heap.size + 1 + 1 + 1 + 1) (w.heap.size + 1 + 1 + 1 + 1 + 1) ⟨P1, p1, P2, p2, P3, p3, P4, p4⟩ fr ⟨M1, m1, M2, m2, M3, m3, M4, m4⟩ md ⟨A2, a2, A3, a3, A4, a4, A5, a5⟩ a ⟨B2, b2, B3, b3, B4, b4, B5, b5⟩ b) (fun W => ((True ∧ RS (Kd.int .i64) W V cap (a.f2.map (joinF md b))) ∧ RS (Kd.slice 3 (Kd.int .i64)) W O co ((List.range j).map (joinRow a b))) ∧ RS (Kd.int .i64) W L cl (b.f4.map (joinL md a))) (Kd.int .i64) 3 #[.int .i64 (sk a b), .int .i64 (ph a b), .slice V a.f2.length cap, .slice O j co, .slice L b.f4.length cl, .slice none 0 0, .int .i64 0] none 0 0 ([] : List Int) w' ∧ Kd.R kGate 93 w' w.heap.size (fun _ => True) (.slice s.2.2.1 fp.1.f0.length s.2.2.2) fp.1.f0) ∧ w'.heap[s.1]? = some (.cells #[.slice none 0 0, .int .i64 0] 29 (0, 0)) ∧ n3 ≤ s.1) ?hcont ?hjoin
                  case hjoin =>
                    intro hcont
                    refine two_ (i := 10) (j := 15) (Ni := some 217) (Nj := some 28) #[true, true, true, true, true, true, true, true, true, true, true, false, false, false, false, false, false, false] #[true, true, true, true, true, true, true, true, true, true, false, false, false, false, false, true, false, false] rfl rfl rfl rfl (by kernel_rfl) (by decide) (by decide) (fun K hK => ?_) (fun K hK => ?_)
                    · skip
                      refine goes_ Try.func45 (by kernel_rfl) rfl #[.agg #[.int .i64 fr.f0, .slice P1 fr.f1.length p1, .slice P2 fr.f2.length p2, .slice P3 fr.f3.length p3, .slice P4 fr.f4.length p4], .slice A4 a.f4.length a4, .agg #[.slice B5 b.f5.f0.length b5, .int .i64 b.f5.f1]] (by rfl) rfl rfl (by simp only [List.map_toArray, List.map_cons, List.map_nil] <;> rfl) ?_
                      refine (HTC.out _ G4.out.BW).mono ?_
                      rintro e w6 ⟨TA, tk, rfl, hrt, hb6⟩
                      refine ⟨_, rfl, ?_⟩
                      have G6 := Aside0.mk (G4.out.below hb6)
                      have RT6 := Aside0.mk (RS.of_R' hrt)
                      clear hb6 hrt
                      refine hK.out _ _ G6.out.HB.self (fun hHeld => ?_)
                      clear hK K
                      refine norm_ (a' := ?_) ?_ ?_
                      rotate_left
                      · show Act.put _ (some 217) _ = _
                        simp only [Act.put, List.setIfInBounds_toArray, List.set_cons_zero, List.set_cons_succ]
                        rfl
                      refine two_ (i := 11) (j := 15) (Ni := some 218) (Nj := some 28) #[true, true, true, true, true, true, true, true, true, true, true, true, false, false, false, false, false, false] #[true, true, true, true, true, true, true, true, true, true, true, false, false, false, false, true, false, false] rfl rfl rfl rfl (by kernel_rfl) (by decide) (by decide) (fun K hK => ?_) (fun K hK => ?_)
                      · skip
                        refine goes_ Try.func44 (by kernel_rfl) rfl #[.int .i64 (fr.f1.length : Int), .agg #[.slice A5 a.f5.f0.length a5, .int .i64 a.f5.f1], .agg #[.slice TA tp.f0.length tk, .int .i64 tp.f1]] (by rfl) rfl rfl (by simp only [List.map_toArray, List.map_cons, List.map_nil] <;> rfl) ?_
                        refine (HAN.out _ TA tk G6.out.BW RT6.out).mono ?_
                        rintro e w7 ⟨FA7, fk7, rfl, hr7, hb7⟩
                        refine ⟨_, rfl, ?_⟩
                        have G7 := Aside0.mk (G6.out.below hb7)
                        have R7_ := Aside0.mk (Kd.R_lower hr7 G6.out.BW.size)
                        clear hb7 hr7
                        refine hK.out _ _ G7.out.HB.self (fun hHeld => ?_)
                        clear hK K
                        refine norm_ (a' := ?_) ?_ ?_
                        rotate_left
                        · show Act.put _ (some 218) _ = _
                          simp only [Act.put, List.setIfInBounds_toArray, List.set_cons_zero, List.set_cons_succ]
                          rfl
                        refine pure_ (i := 12) (N := some 206) (v := ?_) (a' := ?_) #[true, true, true, true, true, true, true, true, true, true, true, true, true, false, false, false, false, false] rfl rfl (by kernel_rfl) (fun _ _ _ h => h) (Or.inl ⟨by rfl, ?_⟩) ?_ ?_
                        rotate_left
                        · intro w'
                          go_simp
                          with_reducible rfl
                        rotate_left
                        · simp only [Act.put, List.setIfInBounds_toArray, List.set_cons_zero, List.set_cons_succ]
                          rfl
                        refine pure_ (i := 13) (N := some 219) (v := ?_) (a' := ?_) #[true, true, true, true, true, true, true, true, true, true, true, true, true, true, false, false, false, false] rfl rfl (by kernel_rfl) (fun _ _ _ h => h) (Or.inl ⟨by rfl, ?_⟩) ?_ ?_
                        rotate_left
                        · intro w'
                          go_simp
                          with_reducible rfl
                        rotate_left
                        · simp only [Act.put, List.setIfInBounds_toArray, List.set_cons_zero, List.set_cons_succ]
                          rfl
                        refine pure_ (i := 14) (N := some 220) (v := ?_) (a' := ?_) #[true, true, true, true, true, true, true, true, true, true, true, true, true, true, true, false, false, false] rfl rfl (by kernel_rfl) (fun _ _ _ h => h) (Or.inl ⟨by rfl, ?_⟩) ?_ ?_
                        rotate_left
                        · intro w'
                          go_simp
                          with_reducible rfl
                        rotate_left
                        · simp only [Act.put, List.setIfInBounds_toArray, List.set_cons_zero, List.set_cons_succ]
                          rfl
                        refine one_ (i := 15) (N := some 28) #[true, true, true, true, true, true, true, true, true, true, true, true, true, true, true, true, false, false] rfl rfl (by kernel_rfl) (by decide) (fun K hK => ?_)
                        refine value_ (w1 := ?_) (v := ?_) (by rfl) rfl ?_ ?_
                        rotate_left 2
                        · go_simp
                          constructor
                          · rfl
                          · rfl
                        refine hK.out _ _ (G7.out.below (below_alloc (Below.refl _ _) _)).HB.self (fun hHeld => ?_)
                        clear hK K
                        refine norm_ (a' := ?_) ?_ ?_
                        rotate_left
                        · show Act.put _ (some 28) _ = _
                          simp only [Act.put, List.setIfInBounds_toArray, List.set_cons_zero, List.set_cons_succ]
                          rfl
                        refine norm_ ?_ (hcont (w7.heap.size, (TA, tk), (FA7, fk7)) _ ⟨⟨G7.out.below (below_alloc (Below.refl _ _) _), Kd.R_below R7_.out (below_alloc (Below.refl _ _) _)⟩, blk_new _ _, G7.out.sz⟩)
                        simp only [putAll, Act.put, List.setIfInBounds_toArray, List.set_cons_zero, List.set_cons_succ] <;> rfl
                      · skip
                        refine value_ (w1 := ?_) (v := ?_) (by rfl) rfl ?_ ?_
                        rotate_left 2
                        · go_simp
                          constructor
                          · rfl
                          · rfl
                        have G7 := Aside0.mk (G6.out.below (below_alloc (Below.refl _ _) (.cells #[.slice none 0 0, .int .i64 0] 29)))
                        refine hK.out _ _ G7.out.HB.self (fun hHeld => ?_)
                        clear hK K
                        refine norm_ (a' := ?_) ?_ ?_
                        rotate_left
                        · show Act.put _ (some 28) _ = _
                          simp only [Act.put, List.setIfInBounds_toArray, List.set_cons_zero, List.set_cons_succ]
                          rfl
                        refine one_ (i := 11) (N := some 218) #[true, true, true, true, true, true, true, true, true, true, true, true, false, false, false, true, false, false] rfl rfl (by kernel_rfl) (by decide) (fun K hK => ?_)
                        refine goes_ Try.func44 (by kernel_rfl) rfl #[.int .i64 (fr.f1.length : Int), .agg #[.slice A5 a.f5.f0.length a5, .int .i64 a.f5.f1], .agg #[.slice TA tp.f0.length tk, .int .i64 tp.f1]] (by rfl) rfl rfl (by simp only [List.map_toArray, List.map_cons, List.map_nil] <;> rfl) ?_
                        refine (HAN.out _ TA tk G7.out.BW (RT6.out.below (below_alloc (Below.refl _ _) _))).mono ?_
                        rintro e w7 ⟨FA7, fk7, rfl, hr7, hb7⟩
                        refine ⟨_, rfl, ?_⟩
                        have G8 := Aside0.mk (G7.out.below hb7)
                        have R7_ := Aside0.mk (Kd.R_lower hr7 G7.out.BW.size)
                        have BP7 := Aside0.mk (blk_below (blk_new w6 (.cells #[.slice none 0 0, .int .i64 0] 29)) hb7)
                        clear hb7 hr7
                        refine hK.out _ _ G8.out.HB.self (fun hHeld => ?_)
                        clear hK K
                        refine norm_ (a' := ?_) ?_ ?_
                        rotate_left
                        · show Act.put _ (some 218) _ = _
                          simp only [Act.put, List.setIfInBounds_toArray, List.set_cons_zero, List.set_cons_succ]
                          rfl
                        refine pure_ (i := 12) (N := some 206) (v := ?_) (a' := ?_) #[true, true, true, true, true, true, true, true, true, true, true, true, true, false, false, true, false, false] rfl rfl (by kernel_rfl) (fun _ _ _ h => h) (Or.inl ⟨by rfl, ?_⟩) ?_ ?_
                        rotate_left
                        · intro w'
                          go_simp
                          with_reducible rfl
                        rotate_left
                        · simp only [Act.put, List.setIfInBounds_toArray, List.set_cons_zero, List.set_cons_succ]
                          rfl
                        refine pure_ (i := 13) (N := some 219) (v := ?_) (a' := ?_) #[true, true, true, true, true, true, true, true, true, true, true, true, true, true, false, true, false, false] rfl rfl (by kernel_rfl) (fun _ _ _ h => h) (Or.inl ⟨by rfl, ?_⟩) ?_ ?_
                        rotate_left
                        · intro w'
                          go_simp
                          with_reducible rfl
                        rotate_left
                        · simp only [Act.put, List.setIfInBounds_toArray, List.set_cons_zero, List.set_cons_succ]
                          rfl
                        refine pure_ (i := 14) (N := some 220) (v := ?_) (a' := ?_) #[true, true, true, true, true, true, true, true, true, true, true, true, true, true, true, true, false, false] rfl rfl (by kernel_rfl) (fun _ _ _ h => h) (Or.inl ⟨by rfl, ?_⟩) ?_ ?_
                        rotate_left
                        · intro w'
                          go_simp
                          with_reducible rfl
                        rotate_left
                        · simp only [Act.put, List.setIfInBounds_toArray, List.set_cons_zero, List.set_cons_succ]
                          rfl
                        refine norm_ ?_ (hcont (w6.heap.size, (TA, tk), (FA7, fk7)) _ ⟨⟨G8.out, R7_.out⟩, BP7.out, G6.out.sz⟩)
                        simp only [putAll, Act.put, List.setIfInBounds_toArray, List.set_cons_zero, List.set_cons_succ] <;> rfl
                    · skip
                      refine value_ (w1 := ?_) (v := ?_) (by rfl) rfl ?_ ?_
                      rotate_left 2
                      · go_simp
                        constructor
                        · rfl
                        · rfl
                      have G5 := Aside0.mk (G4.out.below (below_alloc (Below.refl _ _) (.cells #[.slice none 0 0, .int .i64 0] 29)))
                      have BP5 := Aside0.mk (blk_new wr.drew (.cells #[.slice none 0 0, .int .i64 0] 29))
                      refine hK.out _ _ G5.out.HB.self (fun hHeld => ?_)
                      clear hK K
                      refine norm_ (a' := ?_) ?_ ?_
                      rotate_left
                      · show Act.put _ (some 28) _ = _
                        simp only [Act.put, List.setIfInBounds_toArray, List.set_cons_zero, List.set_cons_succ]
                        rfl
                      refine one_ (i := 10) (N := some 217) #[true, true, true, true, true, true, true, true, true, true, true, false, false, false, false, true, false, false] rfl rfl (by kernel_rfl) (by decide) (fun K hK => ?_)
                      refine goes_ Try.func45 (by kernel_rfl) rfl #[.agg #[.int .i64 fr.f0, .slice P1 fr.f1.length p1, .slice P2 fr.f2.length p2, .slice P3 fr.f3.length p3, .slice P4 fr.f4.length p4], .slice A4 a.f4.length a4, .agg #[.slice B5 b.f5.f0.length b5, .int .i64 b.f5.f1]] (by rfl) rfl rfl (by simp only [List.map_toArray, List.map_cons, List.map_nil] <;> rfl) ?_
                      refine (HTC.out _ G5.out.BW).mono ?_
                      rintro e w6 ⟨TA, tk, rfl, hrt, hb6⟩
                      refine ⟨_, rfl, ?_⟩
                      have G6 := Aside0.mk (G5.out.below hb6)
                      have BP6 := Aside0.mk (blk_below BP5.out hb6)
                      have RT6 := Aside0.mk (RS.of_R' hrt)
                      clear hb6 hrt
                      refine hK.out _ _ G6.out.HB.self (fun hHeld => ?_)
                      clear hK K
                      refine norm_ (a' := ?_) ?_ ?_
                      rotate_left
                      · show Act.put _ (some 217) _ = _
                        simp only [Act.put, List.setIfInBounds_toArray, List.set_cons_zero, List.set_cons_succ]
                        rfl
                      refine one_ (i := 11) (N := some 218) #[true, true, true, true, true, true, true, true, true, true, true, true, false, false, false, true, false, false] rfl rfl (by kernel_rfl) (by decide) (fun K hK => ?_)
                      refine goes_ Try.func44 (by kernel_rfl) rfl #[.int .i64 (fr.f1.length : Int), .agg #[.slice A5 a.f5.f0.length a5, .int .i64 a.f5.f1], .agg #[.slice TA tp.f0.length tk, .int .i64 tp.f1]] (by rfl) rfl rfl (by simp only [List.map_toArray, List.map_cons, List.map_nil] <;> rfl) ?_
                      refine (HAN.out _ TA tk G6.out.BW RT6.out).mono ?_
                      rintro e w7 ⟨FA7, fk7, rfl, hr7, hb7⟩
                      refine ⟨_, rfl, ?_⟩
                      have G7 := Aside0.mk (G6.out.below hb7)
                      have R7_ := Aside0.mk (Kd.R_lower hr7 G6.out.BW.size)
                      have BP7 := Aside0.mk (blk_below BP6.out hb7)
                      clear hb7 hr7
                      refine hK.out _ _ G7.out.HB.self (fun hHeld => ?_)
                      clear hK K
                      refine norm_ (a' := ?_) ?_ ?_
                      rotate_left
                      · show Act.put _ (some 218) _ = _
                        simp only [Act.put, List.setIfInBounds_toArray, List.set_cons_zero, List.set_cons_succ]
                        rfl
                      refine pure_ (i := 12) (N := some 206) (v := ?_) (a' := ?_) #[true, true, true, true, true, true, true, true, true, true, true, true, true, false, false, true, false, false] rfl rfl (by kernel_rfl) (fun _ _ _ h => h) (Or.inl ⟨by rfl, ?_⟩) ?_ ?_
                      rotate_left
                      · intro w'
                        go_simp
                        with_reducible rfl
                      rotate_left
                      · simp only [Act.put, List.setIfInBounds_toArray, List.set_cons_zero, List.set_cons_succ]
                        rfl
                      refine pure_ (i := 13) (N := some 219) (v := ?_) (a' := ?_) #[true, true, true, true, true, true, true, true, true, true, true, true, true, true, false, true, false, false] rfl rfl (by kernel_rfl) (fun _ _ _ h => h) (Or.inl ⟨by rfl, ?_⟩) ?_ ?_
                      rotate_left
                      · intro w'
                        go_simp
                        with_reducible rfl
                      rotate_left
                      · simp only [Act.put, List.setIfInBounds_toArray, List.set_cons_zero, List.set_cons_succ]
                        rfl
                      refine pure_ (i := 14) (N := some 220) (v := ?_) (a' := ?_) #[true, true, true, true, true, true, true, true, true, true, true, true, true, true, true, true, false, false] rfl rfl (by kernel_rfl) (fun _ _ _ h => h) (Or.inl ⟨by rfl, ?_⟩) ?_ ?_
                      rotate_left
                      · intro w'
                        go_simp
                        with_reducible rfl
                      rotate_left
                      · simp only [Act.put, List.setIfInBounds_toArray, List.set_cons_zero, List.set_cons_succ]
                        rfl
                      refine norm_ ?_ (hcont (wr.drew.heap.size, (TA, tk), (FA7, fk7)) _ ⟨⟨G7.out, R7_.out⟩, BP7.out, G4.out.sz⟩)
                      simp only [putAll, Act.put, List.setIfInBounds_toArray, List.set_cons_zero, List.set_cons_succ] <;> rfl
                  case hcont =>
                    rintro ⟨gP, ⟨TA, tk⟩, FA7, fk7⟩ w8 l8
                    dsimp only at l8 ⊢
                    obtain ⟨⟨g8, r8⟩, bp8, hn8⟩ := l8
                    have G8 := Aside0.mk g8
                    have R8 := Aside0.mk r8
                    have BP8 := Aside0.mk bp8
                    have HP8 := Aside0.mk hn8
                    clear g8 r8 bp8 hn8 G4 G3 HTC HAN
                    refine norm_ (a' := ?_) ?_ ?_
                    rotate_left
                    · simp only [putAll, Act.put, List.setIfInBounds_toArray, List.set_cons_zero, List.set_cons_succ]
                      rfl
                    obtain ⟨⟨v0, v1⟩, z0, z1⟩ := blk2w BP8.out
                    refine one_ (i := 16) (N := none) #[true, true, true, true, true, true, true, true, true, true, true, true, true, true, true, true, true, false] rfl rfl (by kernel_rfl) (by decide) (fun K hK => ?_)
                    refine skip_ (w1 := ?_) (by rfl) rfl ?_ ?_
                    rotate_left
                    · go_simp
                      rfl
                    have HB9 := Aside0.mk (show Below n3 w8 ((w8.setCell ⟨gP, 0, none⟩ (.slice FA7 fp.1.f0.length fk7)).setCell ⟨gP, 1, none⟩ (.int .i64 fp.1.f1)) from below2 (Below.refl _ _) HP8.out _ _)
                    have G9 := Aside0.mk (G8.out.app HB9.out (Kd.R_nil _ _ _ _ _))
                    have R9 := Aside0.mk (R2 R8.out BP8.out (by decide) (.slice FA7 fp.1.f0.length fk7) (.int .i64 fp.1.f1))
                    have BP9 := Aside0.mk (blk2_set BP8.out (.slice FA7 fp.1.f0.length fk7) (.int .i64 fp.1.f1))
                    refine hK.out _ _ G9.out.HB.self (fun hHeld => ?_)
                    clear hK K
                    refine pure_ (i := 17) (N := some 29) (v := ?_) (a' := ?_) #[true, true, true, true, true, true, true, true, true, true, true, true, true, true, true, true, true, true] rfl rfl (by kernel_rfl) (fun _ _ _ h => h) (Or.inl ⟨by rfl, ?_⟩) ?_ ?_
                    rotate_left
                    · intro w'
                      go_simp
                      with_reducible rfl
                    rotate_left
                    · simp only [Act.put, List.setIfInBounds_toArray, List.set_cons_zero, List.set_cons_succ]
                      rfl
                    refine done_ (by kernel_rfl) ?_
                    clear G8 R8 BP8 HB9 v0 v1 z0 z1 hHeld
                    generalize (w8.setCell ⟨gP, 0, none⟩ (.slice FA7 fp.1.f0.length fk7)).setCell ⟨gP, 1, none⟩ (.int .i64 fp.1.f1) = w9 at *
                    obtain ⟨v0, v1⟩ := (blk2w BP9.out).1
                    obtain ⟨⟨o0, o1, o2, o3, o4, o5, o6⟩, y0, y1, y2, y3, y4, y5, y6⟩ := blk7 G9.out.BO
                    obtain ⟨⟨q0, q1, q2, q3, q4, q5, q6⟩, x0, x1, x2, x3, x4, x5, x6⟩ := blk7 G9.out.HB.self.2.2.2.2
                    by_cases hz : fp.2 = 0
                    · have hzd : (fp.2 != 0) = false := by rw [hz]; rfl
                      have HV := Aside0.mk (show R = (⟨sk a b, ph a b, a.f2.map (joinF md b), (List.range j).map (joinRow a b), b.f4.map (joinL md a), fp.1⟩, 0) by
                        have hj : (sk a b + ph a b).toNat = j := by rw [HN.out]; rfl
                        rw [← HRN.out, HFP.out, if_neg (by simp [hz])]
                        unfold joined
                        rw [HFP.out, hj])
                      clear hz q0 q1 q2 q3 q4 q5 q6 x0 x1 x2 x3 x4 x5 x6
                      go_upto_region 50 with (fail)
                      have G10 := Aside0.mk ((G9.out.put (by decide) 5 (.slice FA7 fp.1.f0.length fk7) rfl).put (by decide) 6 (.int .i64 fp.1.f1) rfl)
                      have R10 := Aside0.mk (Kd.R_set (Kd.R_set R9.out G9.out.BO (by decide) 5 (.slice FA7 fp.1.f0.length fk7)) (blk_set G9.out.BO 5 (.slice FA7 fp.1.f0.length fk7)) (by decide) 6 (.int .i64 fp.1.f1))
                      clear G9 R9 BP9 v0 v1 o0 o1 o2 o3 o4 o5 o6 y0 y1 y2 y3 y4 y5 y6
                      generalize (w9.setCell ⟨gO, 5, none⟩ (.slice FA7 fp.1.f0.length fk7)).setCell ⟨gO, 6, none⟩ (.int .i64 fp.1.f1) = w10 at *
                      obtain ⟨⟨o0, o1, o2, o3, o4, o5, o6⟩, y0, y1, y2, y3, y4, y5, y6⟩ := blk7 G10.out.BO
                      obtain ⟨⟨q0, q1, q2, q3, q4, q5, q6⟩, x0, x1, x2, x3, x4, x5, x6⟩ := blk7 G10.out.HB.self.2.2.2.2
                      go_wp2
                      rw [HV.out]
                      refine bodyPost_ret (results_ct rfl _ _ (w.heap.size + 1 + 1 + 1 + 1 + 1) 31 #[.int .i64 (sk a b), .int .i64 (ph a b), .slice V a.f2.length cap, .slice O j co, .slice L b.f4.length cl, .slice FA7 fp.1.f0.length fk7, .int .i64 fp.1.f1] (0, 0) _ rfl (blk7_set G10.out.HB.self.2.2.2.2 _ _ _ _ _ _ _) hu31 rfl (by kernel_rfl)) rfl ?_
                      have hP := G10.out.HD _ (fun k hk => heap7 w10 (show k ≠ w.heap.size + 1 + 1 + 1 + 1 + 1 by have := hk.1; omega) (.int .i64 (sk a b)) (.int .i64 (ph a b)) (.slice V a.f2.length cap) (.slice O j co) (.slice L b.f4.length cl) (.slice FA7 fp.1.f0.length fk7) (.int .i64 fp.1.f1))
                      refine ⟨⟨V, cap, O, co, L, cl, FA7, fk7⟩, ?_, ⟨hP.1.1.2, hP.1.2, hP.2, RS.of_R' (R7 R10.out G10.out.HB.self.2.2.2.2 (by decide) (.int .i64 (sk a b)) (.int .i64 (ph a b)) (.slice V a.f2.length cap) (.slice O j co) (.slice L b.f4.length cl) (.slice FA7 fp.1.f0.length fk7) (.int .i64 fp.1.f1))⟩, below7 G10.out.BW (by omega) _ _ _ _ _ _ _⟩
                      simp only [lv, List.length_map, List.length_range]

                      rfl
                    · have hzd : (fp.2 != 0) = true := bne_iff_ne.mpr hz
                      have HV := Aside0.mk (show R = (zeroL, fp.2) by rw [← HRN.out, HFP.out, if_pos hz])
                      clear hz
                      go_wp2
                      rw [HV.out]
                      refine bodyPost_ret (results_ct rfl _ _ (w.heap.size + 1 + 1 + 1 + 1 + 1) 31 #[.int .i64 0, .int .i64 0, .slice none 0 0, .slice none 0 0, .slice none 0 0, .slice none 0 0, .int .i64 0] (0, 0) _ rfl (blk7_set G9.out.HB.self.2.2.2.2 _ _ _ _ _ _ _) hu31 rfl (by kernel_rfl)) rfl ?_
                      exact ⟨⟨none, 0, none, 0, none, 0, none, 0⟩, rfl, ⟨RS.nil _ _ _, RS.nil _ _ _, RS.nil _ _ _, RS.nil _ _ _⟩, below7 G9.out.BW (by omega) _ _ _ _ _ _ _⟩
end Go.Proofs.Ytlhiapggccgggaa.PH
