/- ref25.Compose. -/
import Derived.Test.YtlhiapggccgggaaHJoined
namespace Go.Proofs.Ytlhiapggccgggaa.PH
open Go.RowKit Go.Proofs.YtlhiapggccgggaaW.PrintWords Go.Proofs.YtlhiapggccgggaaW.PrintLast
set_option linter.unusedVariables false
set_option linter.unusedSimpArgs false

/-- What the law and the reference hold: three circuits and two lifts, boxed. -/
structure Cm5 (w : World) (p : CP) (fr : Circ) (q : CP) (md : Circ) (u : CP) (tc : Circ) (r : LP) (a : Lf) (s : LP) (b : Lf) (W : World) : Prop where
  BW : Below w.heap.size w W
  F : W.heap[w.heap.size]? = some (.cells #[.int .i64 fr.f0, .slice p.A1 fr.f1.length p.c1, .slice p.A2 fr.f2.length p.c2, .slice p.A3 fr.f3.length p.c3, .slice p.A4 fr.f4.length p.c4] 26 (0, 0))
  M : W.heap[w.heap.size + 1]? = some (.cells #[.int .i64 md.f0, .slice q.A1 md.f1.length q.c1, .slice q.A2 md.f2.length q.c2, .slice q.A3 md.f3.length q.c3, .slice q.A4 md.f4.length q.c4] 26 (0, 0))
  T : W.heap[w.heap.size + 1 + 1]? = some (.cells #[.int .i64 tc.f0, .slice u.A1 tc.f1.length u.c1, .slice u.A2 tc.f2.length u.c2, .slice u.A3 tc.f3.length u.c3, .slice u.A4 tc.f4.length u.c4] 26 (0, 0))
  A : W.heap[w.heap.size + 1 + 1 + 1]? = some (.cells #[.int .i64 a.f0, .int .i64 a.f1, .slice r.A2 a.f2.length r.c2, .slice r.A3 a.f3.length r.c3, .slice r.A4 a.f4.length r.c4, .slice r.A5 a.f5.f0.length r.c5, .int .i64 a.f5.f1] 31 (0, 0))
  B : W.heap[w.heap.size + 1 + 1 + 1 + 1]? = some (.cells #[.int .i64 b.f0, .int .i64 b.f1, .slice s.A2 b.f2.length s.c2, .slice s.A3 b.f3.length s.c3, .slice s.A4 b.f4.length s.c4, .slice s.A5 b.f5.f0.length s.c5, .int .i64 b.f5.f1] 31 (0, 0))
theorem Cm5.below {w : World} {p : CP} {fr : Circ} {q : CP} {md : Circ} {u : CP} {tc : Circ} {r : LP} {a : Lf} {s : LP} {b : Lf} {W W' : World} (h : Cm5 w p fr q md u tc r a s b W) (hb : Below W.heap.size W W') : Cm5 w p fr q md u tc r a s b W' :=
  ⟨h.BW.trans (hb.mono h.BW.size), blk_below h.F hb, blk_below h.M hb, blk_below h.T hb, blk_below h.A hb, blk_below h.B hb⟩
theorem Cm5.start (w : World) (fr md tc : Circ) (a b : Lf) (P1 P2 P3 P4 M1 M2 M3 M4 T1 T2 T3 T4 : Option Addr) (p1 p2 p3 p4 m1 m2 m3 m4 t1 t2 t3 t4 : Nat) (A2 A3 A4 A5 B2 B3 B4 B5 : Option Addr) (a2 a3 a4 a5 b2 b3 b4 b5 : Nat) : Cm5 w ⟨P1, p1, P2, p2, P3, p3, P4, p4⟩ fr ⟨M1, m1, M2, m2, M3, m3, M4, m4⟩ md ⟨T1, t1, T2, t2, T3, t3, T4, t4⟩ tc ⟨A2, a2, A3, a3, A4, a4, A5, a5⟩ a ⟨B2, b2, B3, b3, B4, b4, B5, b5⟩ b (((((w.alloc (.cells #[.int .i64 fr.f0, .slice P1 fr.f1.length p1, .slice P2 fr.f2.length p2, .slice P3 fr.f3.length p3, .slice P4 fr.f4.length p4] 26)).alloc (.cells #[.int .i64 md.f0, .slice M1 md.f1.length m1, .slice M2 md.f2.length m2, .slice M3 md.f3.length m3, .slice M4 md.f4.length m4] 26)).alloc (.cells #[.int .i64 tc.f0, .slice T1 tc.f1.length t1, .slice T2 tc.f2.length t2, .slice T3 tc.f3.length t3, .slice T4 tc.f4.length t4] 26)).alloc (.cells #[.int .i64 a.f0, .int .i64 a.f1, .slice A2 a.f2.length a2, .slice A3 a.f3.length a3, .slice A4 a.f4.length a4, .slice A5 a.f5.f0.length a5, .int .i64 a.f5.f1] 31)).alloc (.cells #[.int .i64 b.f0, .int .i64 b.f1, .slice B2 b.f2.length b2, .slice B3 b.f3.length b3, .slice B4 b.f4.length b4, .slice B5 b.f5.f0.length b5, .int .i64 b.f5.f1] 31)) := by
  have e0 : (w.alloc (.cells #[.int .i64 fr.f0, .slice P1 fr.f1.length p1, .slice P2 fr.f2.length p2, .slice P3 fr.f3.length p3, .slice P4 fr.f4.length p4] 26)).heap[w.heap.size]? = some (.cells #[.int .i64 fr.f0, .slice P1 fr.f1.length p1, .slice P2 fr.f2.length p2, .slice P3 fr.f3.length p3, .slice P4 fr.f4.length p4] 26 (0, 0)) := by simpa using blk_new w (.cells #[.int .i64 fr.f0, .slice P1 fr.f1.length p1, .slice P2 fr.f2.length p2, .slice P3 fr.f3.length p3, .slice P4 fr.f4.length p4] 26)
  have e1 : ((w.alloc (.cells #[.int .i64 fr.f0, .slice P1 fr.f1.length p1, .slice P2 fr.f2.length p2, .slice P3 fr.f3.length p3, .slice P4 fr.f4.length p4] 26)).alloc (.cells #[.int .i64 md.f0, .slice M1 md.f1.length m1, .slice M2 md.f2.length m2, .slice M3 md.f3.length m3, .slice M4 md.f4.length m4] 26)).heap[w.heap.size + 1]? = some (.cells #[.int .i64 md.f0, .slice M1 md.f1.length m1, .slice M2 md.f2.length m2, .slice M3 md.f3.length m3, .slice M4 md.f4.length m4] 26 (0, 0)) := by simpa using blk_new (w.alloc (.cells #[.int .i64 fr.f0, .slice P1 fr.f1.length p1, .slice P2 fr.f2.length p2, .slice P3 fr.f3.length p3, .slice P4 fr.f4.length p4] 26)) (.cells #[.int .i64 md.f0, .slice M1 md.f1.length m1, .slice M2 md.f2.length m2, .slice M3 md.f3.length m3, .slice M4 md.f4.length m4] 26)
  have e2 : (((w.alloc (.cells #[.int .i64 fr.f0, .slice P1 fr.f1.length p1, .slice P2 fr.f2.length p2, .slice P3 fr.f3.length p3, .slice P4 fr.f4.length p4] 26)).alloc (.cells #[.int .i64 md.f0, .slice M1 md.f1.length m1, .slice M2 md.f2.length m2, .slice M3 md.f3.length m3, .slice M4 md.f4.length m4] 26)).alloc (.cells #[.int .i64 tc.f0, .slice T1 tc.f1.length t1, .slice T2 tc.f2.length t2, .slice T3 tc.f3.length t3, .slice T4 tc.f4.length t4] 26)).heap[w.heap.size + 1 + 1]? = some (.cells #[.int .i64 tc.f0, .slice T1 tc.f1.length t1, .slice T2 tc.f2.length t2, .slice T3 tc.f3.length t3, .slice T4 tc.f4.length t4] 26 (0, 0)) := by simpa using blk_new ((w.alloc (.cells #[.int .i64 fr.f0, .slice P1 fr.f1.length p1, .slice P2 fr.f2.length p2, .slice P3 fr.f3.length p3, .slice P4 fr.f4.length p4] 26)).alloc (.cells #[.int .i64 md.f0, .slice M1 md.f1.length m1, .slice M2 md.f2.length m2, .slice M3 md.f3.length m3, .slice M4 md.f4.length m4] 26)) (.cells #[.int .i64 tc.f0, .slice T1 tc.f1.length t1, .slice T2 tc.f2.length t2, .slice T3 tc.f3.length t3, .slice T4 tc.f4.length t4] 26)
  have e3 : ((((w.alloc (.cells #[.int .i64 fr.f0, .slice P1 fr.f1.length p1, .slice P2 fr.f2.length p2, .slice P3 fr.f3.length p3, .slice P4 fr.f4.length p4] 26)).alloc (.cells #[.int .i64 md.f0, .slice M1 md.f1.length m1, .slice M2 md.f2.length m2, .slice M3 md.f3.length m3, .slice M4 md.f4.length m4] 26)).alloc (.cells #[.int .i64 tc.f0, .slice T1 tc.f1.length t1, .slice T2 tc.f2.length t2, .slice T3 tc.f3.length t3, .slice T4 tc.f4.length t4] 26)).alloc (.cells #[.int .i64 a.f0, .int .i64 a.f1, .slice A2 a.f2.length a2, .slice A3 a.f3.length a3, .slice A4 a.f4.length a4, .slice A5 a.f5.f0.length a5, .int .i64 a.f5.f1] 31)).heap[w.heap.size + 1 + 1 + 1]? = some (.cells #[.int .i64 a.f0, .int .i64 a.f1, .slice A2 a.f2.length a2, .slice A3 a.f3.length a3, .slice A4 a.f4.length a4, .slice A5 a.f5.f0.length a5, .int .i64 a.f5.f1] 31 (0, 0)) := by simpa using blk_new (((w.alloc (.cells #[.int .i64 fr.f0, .slice P1 fr.f1.length p1, .slice P2 fr.f2.length p2, .slice P3 fr.f3.length p3, .slice P4 fr.f4.length p4] 26)).alloc (.cells #[.int .i64 md.f0, .slice M1 md.f1.length m1, .slice M2 md.f2.length m2, .slice M3 md.f3.length m3, .slice M4 md.f4.length m4] 26)).alloc (.cells #[.int .i64 tc.f0, .slice T1 tc.f1.length t1, .slice T2 tc.f2.length t2, .slice T3 tc.f3.length t3, .slice T4 tc.f4.length t4] 26)) (.cells #[.int .i64 a.f0, .int .i64 a.f1, .slice A2 a.f2.length a2, .slice A3 a.f3.length a3, .slice A4 a.f4.length a4, .slice A5 a.f5.f0.length a5, .int .i64 a.f5.f1] 31)
  have e4 : (((((w.alloc (.cells #[.int .i64 fr.f0, .slice P1 fr.f1.length p1, .slice P2 fr.f2.length p2, .slice P3 fr.f3.length p3, .slice P4 fr.f4.length p4] 26)).alloc (.cells #[.int .i64 md.f0, .slice M1 md.f1.length m1, .slice M2 md.f2.length m2, .slice M3 md.f3.length m3, .slice M4 md.f4.length m4] 26)).alloc (.cells #[.int .i64 tc.f0, .slice T1 tc.f1.length t1, .slice T2 tc.f2.length t2, .slice T3 tc.f3.length t3, .slice T4 tc.f4.length t4] 26)).alloc (.cells #[.int .i64 a.f0, .int .i64 a.f1, .slice A2 a.f2.length a2, .slice A3 a.f3.length a3, .slice A4 a.f4.length a4, .slice A5 a.f5.f0.length a5, .int .i64 a.f5.f1] 31)).alloc (.cells #[.int .i64 b.f0, .int .i64 b.f1, .slice B2 b.f2.length b2, .slice B3 b.f3.length b3, .slice B4 b.f4.length b4, .slice B5 b.f5.f0.length b5, .int .i64 b.f5.f1] 31)).heap[w.heap.size + 1 + 1 + 1 + 1]? = some (.cells #[.int .i64 b.f0, .int .i64 b.f1, .slice B2 b.f2.length b2, .slice B3 b.f3.length b3, .slice B4 b.f4.length b4, .slice B5 b.f5.f0.length b5, .int .i64 b.f5.f1] 31 (0, 0)) := by simpa using blk_new ((((w.alloc (.cells #[.int .i64 fr.f0, .slice P1 fr.f1.length p1, .slice P2 fr.f2.length p2, .slice P3 fr.f3.length p3, .slice P4 fr.f4.length p4] 26)).alloc (.cells #[.int .i64 md.f0, .slice M1 md.f1.length m1, .slice M2 md.f2.length m2, .slice M3 md.f3.length m3, .slice M4 md.f4.length m4] 26)).alloc (.cells #[.int .i64 tc.f0, .slice T1 tc.f1.length t1, .slice T2 tc.f2.length t2, .slice T3 tc.f3.length t3, .slice T4 tc.f4.length t4] 26)).alloc (.cells #[.int .i64 a.f0, .int .i64 a.f1, .slice A2 a.f2.length a2, .slice A3 a.f3.length a3, .slice A4 a.f4.length a4, .slice A5 a.f5.f0.length a5, .int .i64 a.f5.f1] 31)) (.cells #[.int .i64 b.f0, .int .i64 b.f1, .slice B2 b.f2.length b2, .slice B3 b.f3.length b3, .slice B4 b.f4.length b4, .slice B5 b.f5.f0.length b5, .int .i64 b.f5.f1] 31)
  exact ⟨below_alloc (below_alloc (below_alloc (below_alloc (below_alloc (Below.refl _ _) _) _) _) _) _, (blk_alloc (blk_alloc (blk_alloc (blk_alloc e0 _) _) _) _), (blk_alloc (blk_alloc (blk_alloc e1 _) _) _), (blk_alloc (blk_alloc e2 _) _), (blk_alloc e3 _), e4⟩
set_option maxHeartbeats 8000000 in
set_option maxRecDepth 100000 in
theorem ref25_Compose (p q u : CP) (fr md tc : Circ) (r s : LP) (a b : Lf) (w : World) (hp : RC w p fr) (hq : RC w q md) (hu : RC w u tc) (hr : RL w r a) (hs : RL w s b) (ff : fr.Fits) (fm : md.Fits) (ft : tc.Fits) (fa : a.Fits) (fb : b.Fits) (sb : b.f5.f0.length ≤ 300) (sf : fr.f1.length ≤ 60) :
    Calls Try.prog 18 #[cv p fr, cv q md, cv u tc, lv r a, lv s b] w fun e w' => RetL w w' (composeC fr md tc a b).1 (composeC fr md tc a b).2 e := by
  obtain ⟨P1, p1, P2, p2, P3, p3, P4, p4⟩ := p
  obtain ⟨M1, m1, M2, m2, M3, m3, M4, m4⟩ := q
  obtain ⟨T1, t1, T2, t2, T3, t3, T4, t4⟩ := u
  obtain ⟨A2, a2, A3, a3, A4, a4, A5, a5⟩ := r
  obtain ⟨B2, b2, B3, b3, B4, b4, B5, b5⟩ := s
  have HP := Aside0.mk hp
  have HQ := Aside0.mk hq
  have HU := Aside0.mk hu
  have HRA := Aside0.mk hr
  have HRB := Aside0.mk hs
  have hu26 := Try.underlying26
  have hu31 := Try.underlying31
  have FF := Aside0.mk ff
  have FM := Aside0.mk fm
  have FT := Aside0.mk ft
  have FA := Aside0.mk fa
  have FB := Aside0.mk fb
  have SB := Aside0.mk sb
  have SF := Aside0.mk sf
  obtain ⟨R, hR⟩ : ∃ R, composeC fr md tc a b = R := ⟨_, rfl⟩
  rw [hR]
  have HR := Aside0.mk hR
  clear hp hq hu hr hs ff fm ft fa fb sb sf hR
  dsimp only [lv, cv] at *
  have C := Aside0.mk (Cm5.below (Cm5.below (Cm5.start w fr md tc a b P1 P2 P3 P4 M1 M2 M3 M4 T1 T2 T3 T4 p1 p2 p3 p4 m1 m2 m3 m4 t1 t2 t3 t4 A2 A3 A4 A5 B2 B3 B4 B5 a2 a3 a4 a5 b2 b3 b4 b5) (below_alloc (Below.refl _ _) (.cells #[.int .i64 0, .int .i64 0, .slice none 0 0, .slice none 0 0, .slice none 0 0, .slice none 0 0, .int .i64 0] 31))) (below_alloc (Below.refl _ _) (.cells #[.int .i64 fr.f0, .slice P1 fr.f1.length p1, .slice P2 fr.f2.length p2, .slice P3 fr.f3.length p3, .slice P4 fr.f4.length p4, .int .i64 md.f0, .slice M1 md.f1.length m1, .slice M2 md.f2.length m2, .slice M3 md.f3.length m3, .slice M4 md.f4.length m4, .int .i64 tc.f0, .slice T1 tc.f1.length t1, .slice T2 tc.f2.length t2, .slice T3 tc.f3.length t3, .slice T4 tc.f4.length t4] 26)))
  have Z := Aside0.mk (show (((((((w.alloc (.cells #[.int .i64 fr.f0, .slice P1 fr.f1.length p1, .slice P2 fr.f2.length p2, .slice P3 fr.f3.length p3, .slice P4 fr.f4.length p4] 26)).alloc (.cells #[.int .i64 md.f0, .slice M1 md.f1.length m1, .slice M2 md.f2.length m2, .slice M3 md.f3.length m3, .slice M4 md.f4.length m4] 26)).alloc (.cells #[.int .i64 tc.f0, .slice T1 tc.f1.length t1, .slice T2 tc.f2.length t2, .slice T3 tc.f3.length t3, .slice T4 tc.f4.length t4] 26)).alloc (.cells #[.int .i64 a.f0, .int .i64 a.f1, .slice A2 a.f2.length a2, .slice A3 a.f3.length a3, .slice A4 a.f4.length a4, .slice A5 a.f5.f0.length a5, .int .i64 a.f5.f1] 31)).alloc (.cells #[.int .i64 b.f0, .int .i64 b.f1, .slice B2 b.f2.length b2, .slice B3 b.f3.length b3, .slice B4 b.f4.length b4, .slice B5 b.f5.f0.length b5, .int .i64 b.f5.f1] 31)).alloc (.cells #[.int .i64 0, .int .i64 0, .slice none 0 0, .slice none 0 0, .slice none 0 0, .slice none 0 0, .int .i64 0] 31)).alloc (.cells #[.int .i64 fr.f0, .slice P1 fr.f1.length p1, .slice P2 fr.f2.length p2, .slice P3 fr.f3.length p3, .slice P4 fr.f4.length p4, .int .i64 md.f0, .slice M1 md.f1.length m1, .slice M2 md.f2.length m2, .slice M3 md.f3.length m3, .slice M4 md.f4.length m4, .int .i64 tc.f0, .slice T1 tc.f1.length t1, .slice T2 tc.f2.length t2, .slice T3 tc.f3.length t3, .slice T4 tc.f4.length t4] 26)).heap[w.heap.size + 1 + 1 + 1 + 1 + 1]? = some (.cells #[.int .i64 0, .int .i64 0, .slice none 0 0, .slice none 0 0, .slice none 0 0, .slice none 0 0, .int .i64 0] 31 (0, 0)) from blk_alloc (by simpa using blk_new (((((w.alloc (.cells #[.int .i64 fr.f0, .slice P1 fr.f1.length p1, .slice P2 fr.f2.length p2, .slice P3 fr.f3.length p3, .slice P4 fr.f4.length p4] 26)).alloc (.cells #[.int .i64 md.f0, .slice M1 md.f1.length m1, .slice M2 md.f2.length m2, .slice M3 md.f3.length m3, .slice M4 md.f4.length m4] 26)).alloc (.cells #[.int .i64 tc.f0, .slice T1 tc.f1.length t1, .slice T2 tc.f2.length t2, .slice T3 tc.f3.length t3, .slice T4 tc.f4.length t4] 26)).alloc (.cells #[.int .i64 a.f0, .int .i64 a.f1, .slice A2 a.f2.length a2, .slice A3 a.f3.length a3, .slice A4 a.f4.length a4, .slice A5 a.f5.f0.length a5, .int .i64 a.f5.f1] 31)).alloc (.cells #[.int .i64 b.f0, .int .i64 b.f1, .slice B2 b.f2.length b2, .slice B3 b.f3.length b3, .slice B4 b.f4.length b4, .slice B5 b.f5.f0.length b5, .int .i64 b.f5.f1] 31)) (.cells #[.int .i64 0, .int .i64 0, .slice none 0 0, .slice none 0 0, .slice none 0 0, .slice none 0 0, .int .i64 0] 31)) _)
  have HS := Aside0.mk (RS.three_circ (p := ⟨P1, p1, P2, p2, P3, p3, P4, p4⟩) (q := ⟨M1, m1, M2, m2, M3, m3, M4, m4⟩) (r := ⟨T1, t1, T2, t2, T3, t3, T4, t4⟩) (B := w.heap.size + 1 + 1 + 1 + 1 + 1 + 1) (HP.out.below C.out.BW) (HQ.out.below C.out.BW) (HU.out.below C.out.BW) (fun j u hj => by rw [World.cell?_alloc_at _ _ _ _ (by simp)]; simpa using hj))
  have HFI := Aside0.mk (show ∀ c ∈ [fr, md, tc], c.Fits from fun c hc => by
    simp only [List.mem_cons, List.not_mem_nil, or_false] at hc
    rcases hc with rfl | rfl | rfl
    · exact FF.out
    · exact FM.out
    · exact FT.out)
  go_enter Try.func18, Try.ntmps18
  go_wp2_with fail
  refine (show Calls _ _ #[.slice (some ⟨w.heap.size + 1 + 1 + 1 + 1 + 1 + 1, 0, none⟩) 3 3] _ _ from ref25_circuits (some ⟨w.heap.size + 1 + 1 + 1 + 1 + 1 + 1, 0, none⟩) 3 [fr, md, tc] _ HS.out HFI.out).mono ?_
  rintro e w1 ⟨rfl, hb⟩
  have C := Aside0.mk (C.out.below hb)
  have Z := Aside0.mk (blk_below Z.out hb)
  clear hb HS
  by_cases hc0 : checks [fr, md, tc] = 0
  case neg =>
    have zb : (checks [fr, md, tc] != 0) = true := bne_iff_ne.mpr hc0
    have HV := Aside0.mk (show R = (zeroL, checks [fr, md, tc]) by rw [← HR.out]; unfold composeC; rw [if_pos hc0])
    obtain ⟨⟨q0, q1, q2, q3, q4, q5, q6⟩, y0, y1, y2, y3, y4, y5, y6⟩ := blk7 Z.out
    go_wp2
    rw [HV.out]
    refine bodyPost_ret (results_ct rfl _ _ (w.heap.size + 1 + 1 + 1 + 1 + 1) 31 #[.int .i64 0, .int .i64 0, .slice none 0 0, .slice none 0 0, .slice none 0 0, .slice none 0 0, .int .i64 0] (0, 0) _ rfl (blk7_set Z.out _ _ _ _ _ _ _) hu31 rfl (by kernel_rfl)) rfl ?_
    exact ⟨⟨none, 0, none, 0, none, 0, none, 0⟩, rfl, ⟨RS.nil _ _ _, RS.nil _ _ _, RS.nil _ _ _, RS.nil _ _ _⟩, below7 C.out.BW (by omega) _ _ _ _ _ _ _⟩
  have HC0 := Aside0.mk hc0
  have HC3 := Aside0.mk (checks3 hc0)
  rw [hc0]
  clear hc0
  obtain ⟨f0, f1, f2, f3, f4⟩ := blk5 C.out.F
  obtain ⟨d0, d1, d2, d3, d4⟩ := blk5 C.out.M
  obtain ⟨t0_, t1_, t2_, t3_, t4_⟩ := blk5 C.out.T
  obtain ⟨⟨r0, r1, r2, r3, r4, r5, r6⟩, _⟩ := blk7 C.out.A
  obtain ⟨⟨s0, s1, s2, s3, s4, s5, s6⟩, _⟩ := blk7 C.out.B
  go_wp2_with fail
  refine (show Calls _ _ #[.agg #[.int .i64 fr.f0, .slice P1 fr.f1.length p1, .slice P2 fr.f2.length p2, .slice P3 fr.f3.length p3, .slice P4 fr.f4.length p4], .agg #[.int .i64 md.f0, .slice M1 md.f1.length m1, .slice M2 md.f2.length m2, .slice M3 md.f3.length m3, .slice M4 md.f4.length m4], .agg #[.int .i64 a.f0, .int .i64 a.f1, .slice A2 a.f2.length a2, .slice A3 a.f3.length a3, .slice A4 a.f4.length a4, .slice A5 a.f5.f0.length a5, .int .i64 a.f5.f1]] _ _ from ref25_Valid ⟨P1, p1, P2, p2, P3, p3, P4, p4⟩ ⟨M1, m1, M2, m2, M3, m3, M4, m4⟩ fr md ⟨A2, a2, A3, a3, A4, a4, A5, a5⟩ a _ (HRA.out.below C.out.BW) FA.out HC3.out.1 HC3.out.2.1 FF.out.h1 FM.out.h1).mono ?_
  rintro e w2 ⟨rfl, hb⟩
  have C := Aside0.mk (C.out.below hb)
  have Z := Aside0.mk (blk_below Z.out hb)
  clear hb f0 f1 f2 f3 f4 d0 d1 d2 d3 d4 t0_ t1_ t2_ t3_ t4_ r0 r1 r2 r3 r4 r5 r6 s0 s1 s2 s3 s4 s5 s6
  cases hoa : liftOk fr md a with
  | false =>
    have HV := Aside0.mk (show R = (zeroL, 8) by rw [← HR.out]; unfold composeC; rw [if_neg (by simp [HC0.out]), if_pos hoa])
    obtain ⟨⟨q0, q1, q2, q3, q4, q5, q6⟩, y0, y1, y2, y3, y4, y5, y6⟩ := blk7 Z.out
    go_wp2
    rw [HV.out]
    refine bodyPost_ret (results_ct rfl _ _ (w.heap.size + 1 + 1 + 1 + 1 + 1) 31 #[.int .i64 0, .int .i64 0, .slice none 0 0, .slice none 0 0, .slice none 0 0, .slice none 0 0, .int .i64 0] (0, 0) _ rfl (blk7_set Z.out _ _ _ _ _ _ _) hu31 rfl (by kernel_rfl)) rfl ?_
    exact ⟨⟨none, 0, none, 0, none, 0, none, 0⟩, rfl, ⟨RS.nil _ _ _, RS.nil _ _ _, RS.nil _ _ _, RS.nil _ _ _⟩, below7 C.out.BW (by omega) _ _ _ _ _ _ _⟩
  | true =>
  have HOA := Aside0.mk hoa
  clear hoa
  obtain ⟨f0, f1, f2, f3, f4⟩ := blk5 C.out.F
  obtain ⟨d0, d1, d2, d3, d4⟩ := blk5 C.out.M
  obtain ⟨t0_, t1_, t2_, t3_, t4_⟩ := blk5 C.out.T
  obtain ⟨⟨r0, r1, r2, r3, r4, r5, r6⟩, _⟩ := blk7 C.out.A
  obtain ⟨⟨s0, s1, s2, s3, s4, s5, s6⟩, _⟩ := blk7 C.out.B
  go_wp2_with fail
  refine (show Calls _ _ #[.agg #[.int .i64 md.f0, .slice M1 md.f1.length m1, .slice M2 md.f2.length m2, .slice M3 md.f3.length m3, .slice M4 md.f4.length m4], .agg #[.int .i64 tc.f0, .slice T1 tc.f1.length t1, .slice T2 tc.f2.length t2, .slice T3 tc.f3.length t3, .slice T4 tc.f4.length t4], .agg #[.int .i64 b.f0, .int .i64 b.f1, .slice B2 b.f2.length b2, .slice B3 b.f3.length b3, .slice B4 b.f4.length b4, .slice B5 b.f5.f0.length b5, .int .i64 b.f5.f1]] _ _ from ref25_Valid ⟨M1, m1, M2, m2, M3, m3, M4, m4⟩ ⟨T1, t1, T2, t2, T3, t3, T4, t4⟩ md tc ⟨B2, b2, B3, b3, B4, b4, B5, b5⟩ b _ (HRB.out.below C.out.BW) FB.out HC3.out.2.1 HC3.out.2.2 FM.out.h1 FT.out.h1).mono ?_
  rintro e w3 ⟨rfl, hb⟩
  have C := Aside0.mk (C.out.below hb)
  have Z := Aside0.mk (blk_below Z.out hb)
  clear hb f0 f1 f2 f3 f4 d0 d1 d2 d3 d4 t0_ t1_ t2_ t3_ t4_ r0 r1 r2 r3 r4 r5 r6 s0 s1 s2 s3 s4 s5 s6
  cases hob : liftOk md tc b with
  | false =>
    have HV := Aside0.mk (show R = (zeroL, 8) by rw [← HR.out]; unfold composeC; rw [if_neg (by simp [HC0.out]), if_neg (by simp [HOA.out]), if_pos hob])
    obtain ⟨⟨q0, q1, q2, q3, q4, q5, q6⟩, y0, y1, y2, y3, y4, y5, y6⟩ := blk7 Z.out
    go_wp2
    rw [HV.out]
    refine bodyPost_ret (results_ct rfl _ _ (w.heap.size + 1 + 1 + 1 + 1 + 1) 31 #[.int .i64 0, .int .i64 0, .slice none 0 0, .slice none 0 0, .slice none 0 0, .slice none 0 0, .int .i64 0] (0, 0) _ rfl (blk7_set Z.out _ _ _ _ _ _ _) hu31 rfl (by kernel_rfl)) rfl ?_
    exact ⟨⟨none, 0, none, 0, none, 0, none, 0⟩, rfl, ⟨RS.nil _ _ _, RS.nil _ _ _, RS.nil _ _ _, RS.nil _ _ _⟩, below7 C.out.BW (by omega) _ _ _ _ _ _ _⟩
  | true =>
  have HJ := Aside0.mk (show joinC fr md a b = R by rw [← HR.out]; unfold composeC; rw [if_neg (by simp [HC0.out]), if_neg (by simp [HOA.out]), if_neg (by simp [hob])])
  have HOB := Aside0.mk hob
  clear hob
  obtain ⟨f0, f1, f2, f3, f4⟩ := blk5 C.out.F
  obtain ⟨d0, d1, d2, d3, d4⟩ := blk5 C.out.M
  obtain ⟨t0_, t1_, t2_, t3_, t4_⟩ := blk5 C.out.T
  obtain ⟨⟨r0, r1, r2, r3, r4, r5, r6⟩, _⟩ := blk7 C.out.A
  obtain ⟨⟨s0, s1, s2, s3, s4, s5, s6⟩, _⟩ := blk7 C.out.B
  go_wp2_with fail
  refine (show Calls _ _ #[.agg #[.int .i64 fr.f0, .slice P1 fr.f1.length p1, .slice P2 fr.f2.length p2, .slice P3 fr.f3.length p3, .slice P4 fr.f4.length p4], .agg #[.int .i64 md.f0, .slice M1 md.f1.length m1, .slice M2 md.f2.length m2, .slice M3 md.f3.length m3, .slice M4 md.f4.length m4], .agg #[.int .i64 a.f0, .int .i64 a.f1, .slice A2 a.f2.length a2, .slice A3 a.f3.length a3, .slice A4 a.f4.length a4, .slice A5 a.f5.f0.length a5, .int .i64 a.f5.f1], .agg #[.int .i64 b.f0, .int .i64 b.f1, .slice B2 b.f2.length b2, .slice B3 b.f3.length b3, .slice B4 b.f4.length b4, .slice B5 b.f5.f0.length b5, .int .i64 b.f5.f1]] _ _ from ref25_Joined ⟨P1, p1, P2, p2, P3, p3, P4, p4⟩ ⟨M1, m1, M2, m2, M3, m3, M4, m4⟩ fr md tc ⟨A2, a2, A3, a3, A4, a4, A5, a5⟩ ⟨B2, b2, B3, b3, B4, b4, B5, b5⟩ a b _ (HRA.out.below C.out.BW) (HRB.out.below C.out.BW) FA.out FB.out SB.out SF.out HC3.out.1 HC3.out.2.1 HC3.out.2.2 (LOk.of HOA.out) (LOk.of HOB.out)).mono ?_
  have HSZ := Aside0.mk (blk_lt Z.out)
  rintro e w4 ⟨pl, rfl, hrl, hb⟩
  rw [HJ.out] at hrl ⊢
  have C := Aside0.mk (C.out.below hb)
  have Z := Aside0.mk (blk_below Z.out hb)
  have RLL := Aside0.mk hrl
  clear hb hrl f0 f1 f2 f3 f4 d0 d1 d2 d3 d4 t0_ t1_ t2_ t3_ t4_ r0 r1 r2 r3 r4 r5 r6 s0 s1 s2 s3 s4 s5 s6
  obtain ⟨⟨q0, q1, q2, q3, q4, q5, q6⟩, y0, y1, y2, y3, y4, y5, y6⟩ := blk7 Z.out
  go_wp2
  refine bodyPost_ret (results_ct rfl _ _ (w.heap.size + 1 + 1 + 1 + 1 + 1) 31 #[.int .i64 R.1.f0, .int .i64 R.1.f1, .slice pl.A2 R.1.f2.length pl.c2, .slice pl.A3 R.1.f3.length pl.c3, .slice pl.A4 R.1.f4.length pl.c4, .slice pl.A5 R.1.f5.f0.length pl.c5, .int .i64 R.1.f5.f1] (0, 0) _ rfl (blk7_set Z.out _ _ _ _ _ _ _) hu31 rfl (by kernel_rfl)) rfl ?_
  exact ⟨pl, rfl, RLL.out _ (fun k hk _ => heap7 w4 (show k ≠ w.heap.size + 1 + 1 + 1 + 1 + 1 by have := HSZ.out; omega) _ _ _ _ _ _ _), below7 C.out.BW (by omega) _ _ _ _ _ _ _⟩
end Go.Proofs.Ytlhiapggccgggaa.PH
