/- lift.Trace. -/
import Derived.Test.YtiafojcbllbepaaHPackV
namespace Go.Proofs.Ytiafojcbllbepaa.PH
open Go.RowKit Go.Proofs.YtiafojcbllbepaaW.PrintWords Go.Proofs.YtiafojcbllbepaaW.PrintLast
set_option linter.unusedVariables false
set_option linter.unusedSimpArgs false

theorem sz_new (w : World) (x : Obj) : (w.alloc x).heap.size = w.heap.size + 1 := by simp
theorem liftErr_eq (fr tc : Circ) (l : Lf) : liftErr fr tc l = liftCheck fr tc l := by
  unfold liftErr liftCheck
  by_cases h1 : check fr = 0
  · rw [if_neg (by simp [h1]), if_pos h1]
    by_cases h2 : check tc = 0
    · rw [if_neg (by simp [h2]), if_pos h2]
      cases liftOk fr tc l <;> rfl
    · rw [if_pos h2, if_neg h2]
  · rw [if_pos h1, if_neg h1]
/-- A run comes back, and an error. -/
def RetTr (w w' : World) (r : Run × Int) (e : Ending) : Prop := ∃ q, e = .returned (.tuple #[tv q r.1, .int .i64 r.2]) ∧ RT w' q r.1 ∧ Below w.heap.size w w'
set_option maxRecDepth 100000 in
theorem lift_Trace1 (g : Nat) (n : Int) (cs : Array Value) (w : World) (hg : w.heap[g]? = some (.cells cs 26 (0, 0))) (h0 : cs[0]? = some (.int .i64 n)) :
    PRow Try.prog 46 #[.pointer (some ⟨g, 0, none⟩)] (fun r => (r.length : Int) != n) w := by
  intro W B d x hb hx
  have hu26 := Try.underlying26
  have hc : W.cell? ⟨g, 0, none⟩ = some (.int .i64 n) := (blk_cell (blk_below hg hb) 0).trans h0
  show Calls Try.prog 46 #[.slice B x.length d, .pointer (some ⟨g, 0, none⟩)] W _
  go_enter Try.func46, Try.ntmps46
  go_wp2
  go_ret
  exact ⟨rfl, Below.refl _ _⟩
@[reducible] def ccells (p : CP) (c : Circ) : Array Value := #[.int .i64 c.f0, .slice p.A1 c.f1.length p.c1, .slice p.A2 c.f2.length p.c2, .slice p.A3 c.f3.length p.c3, .slice p.A4 c.f4.length p.c4]
@[reducible] def lcells (r : LP) (l : Lf) : Array Value := #[.int .i64 l.f0, .int .i64 l.f1, .slice r.A2 l.f2.length r.c2, .slice r.A3 l.f3.length r.c3, .slice r.A4 l.f4.length r.c4, .slice r.A5 l.f5.f0.length r.c5, .int .i64 l.f5.f1]
/-- What lift.Trace has while it makes the run. -/
@[reducible] def trPs (b g gO : Nat) (p q : CP) (fr tc : Circ) (r : LP) (l : Lf) (s : TP) (t : Run) (vF vI : Option Addr × Nat) (F : List Bool) (hs : List HeadR) (rows : List (List Bool)) : List Pc :=
  [pB gO 64 #[.slice vF.1 F.length vF.2, .slice vI.1 hs.length vI.2], pF b Kd.bool 4 (.slice vF.1 F.length vF.2) F, pF b kHead 59 (.slice vI.1 hs.length vI.2) hs, pIn Kd.bool 4 b hs rows,
   pB (g + 1 + 1 + 1 + 1) 64 #[.slice none 0 0, .slice none 0 0], pB (g + 1 + 1 + 1) 64 #[.slice s.A0 t.f0.length s.c0, .slice s.A1 t.f1.length s.c1], pB (g + 1 + 1) 38 (lcells r l), pB (g + 1) 26 (ccells q tc), pB g 26 (ccells p fr)]
theorem trF_step {b g gO : Nat} {w0 w : World} {p q : CP} {fr tc : Circ} {r : LP} {l : Lf} {s : TP} {t : Run} {V : Option Addr} {cap : Nat} {F0 : List Bool} {i : Nat} {x : Int} {v : Bool} (hx : l.f2[i]? = some x) (hF : (l.f2.take i).map (liftV tc t.f0) = F0) (hv : liftV tc t.f0 x = v)
    (S : Aside0 (Parts b w0 w (pB gO 64 #[.slice V (F0.length + 1) cap, .slice none 0 0] :: pF b Kd.bool 4 (.slice V (F0.length + 1) cap) (F0 ++ [v]) :: (trPs b g gO p q fr tc r l s t (none, 0) (none, 0) [] [] []).drop 2))) :
    Aside0 (Parts b w0 w (trPs b g gO p q fr tc r l s t (V, cap) (none, 0) ((l.f2.take (i + 1)).map (liftV tc t.f0)) [] [])) := by
  have e : (l.f2.take (i + 1)).map (liftV tc t.f0) = F0 ++ [v] := by rw [List.take_add_one, hx, List.map_append, hF]; simp [hv]
  rw [e]
  have h_ := S
  rw [← show (F0 ++ [v]).length = F0.length + 1 by simp] at h_
  exact h_
theorem RS.dropR {α : Type} {d : Kd α} (hd : d.sz = 1) {w : World} {ad : Addr} {c m : Nat} {l : List α} (h : RS d w (some ad) c l) (hm : m < l.length) : RS d w (some (ad.add m)) (c - m) (l.drop m) := by
  have hh := h.h
  have h_ := Kd.C_drop (m := m) h.r (by omega) hh
  rw [hd, Nat.mul_one, if_neg (by omega)] at h_
  exact ⟨by simpa [List.length_drop] using h_, by rw [List.length_drop]; omega⟩
theorem rowsOf_mem {l : Lf} {n : Nat} {r : List Int} (h : r ∈ rowsOf l n) : r ∈ l.f3 := by
  unfold rowsOf at h
  split at h
  · exact h
  · exact List.mem_of_mem_drop h
theorem liftAll_le (l : Lf) : ∀ (x : List (List Bool)) (n : Nat), (liftAll l n x).length ≤ x.length * l.f3.length
  | [], n => by simp [liftAll]
  | i :: x, n => by
    have h := liftAll_le l x (n + 1)
    rw [liftAll, List.length_append, List.length_cons, Nat.succ_mul]
    have h2 : (liftIn l n i).length ≤ l.f3.length := by
      unfold liftIn rowsOf
      split <;> simp
    omega
theorem rows_le {l : Lf} {x : List (List Bool)} {n : Nat} (h3 : l.f3.length ≤ 104) (hx : x.length ≤ 100) (j : Nat) (ins : List Bool) : (liftAll l 0 x ++ ((rowsOf l n).take j).map (fun r => liftRow r ins)).length ≤ 20000 := by
  have h1 := liftAll_le l x 0
  have h2 : ((rowsOf l n).take j).length ≤ 104 := by
    rw [List.length_take]
    have h4 : (rowsOf l n).length ≤ l.f3.length := by
      unfold rowsOf
      split <;> simp
    omega
  have h5 : x.length * l.f3.length ≤ 100 * 104 := Nat.mul_le_mul hx h3
  rw [List.length_append, List.length_map]
  omega
theorem infoRowB : (Try.prog.info? 59).map (fun i => (i.zero, i.size, i.bytes)) = some (some (.slice none 0 0), 1, 24) := by kernel_rfl
theorem trI_step {b g gO : Nat} {w0 w : World} {p q : CP} {fr tc : Circ} {r : LP} {l : Lf} {s : TP} {t : Run} {vF : Option Addr × Nat} {F : List Bool} {V A : Option Addr} {cap c : Nat} {hs : List HeadR} {n j : Nat} {ins : List Bool} {x : List Int} {rows : List (List Bool)}
    (hx : (rowsOf l n)[j]? = some x) (hr : liftAll l 0 (t.f1.take n) ++ ((rowsOf l n).take j).map (fun r => liftRow r ins) = rows)
    (S : Aside0 (Parts b w0 w (pB gO 64 #[.slice vF.1 F.length vF.2, .slice V (hs.length + 1) cap] :: pF b Kd.bool 4 (.slice vF.1 F.length vF.2) F :: pF b kHead 59 (.slice V (hs.length + 1) cap) (hs ++ [(A, (liftRow x ins).length, c)]) :: pIn Kd.bool 4 b (hs ++ [(A, (liftRow x ins).length, c)]) (rows ++ [liftRow x ins]) :: (trPs b g gO p q fr tc r l s t vF (none, 0) F [] []).drop 4))) :
    Aside0 (Parts b w0 w (trPs b g gO p q fr tc r l s t vF (V, cap) F (hs ++ [(A, (liftRow x ins).length, c)]) (liftAll l 0 (t.f1.take n) ++ ((rowsOf l n).take (j + 1)).map (fun r => liftRow r ins)))) := by
  have e : liftAll l 0 (t.f1.take n) ++ ((rowsOf l n).take (j + 1)).map (fun r => liftRow r ins) = rows ++ [liftRow x ins] := by rw [List.take_add_one, hx, List.map_append, ← List.append_assoc, hr]; rfl
  rw [e]
  have h_ := S
  rw [← show (hs ++ [(A, (liftRow x ins).length, c)]).length = hs.length + 1 by simp] at h_
  exact h_
theorem trN_step {l : Lf} {t : Run} {n : Nat} {ins : List Bool} {m : Nat} (hn : t.f1[n]? = some ins) (hm : (rowsOf l n).length ≤ m) : liftAll l 0 (t.f1.take n) ++ ((rowsOf l n).take m).map (fun r => liftRow r ins) = liftAll l 0 (t.f1.take (n + 1)) := by
  obtain ⟨hlt, e⟩ := List.getElem?_eq_some_iff.1 hn
  rw [List.take_of_length_le hm, liftAll_take l t.f1 n hlt, e]
  rfl
theorem liftAll_rows {l : Lf} {m : Int} (h : ∀ r ∈ l.f3, (r.length : Int) = m) : ∀ (n : Nat) (x : List (List Bool)), ∀ y ∈ liftAll l n x, (y.length : Int) = m
  | n, [], y, hy => by simp [liftAll] at hy
  | n, i :: x, y, hy => by
    rw [liftAll] at hy
    rcases List.mem_append.1 hy with hy | hy
    · unfold liftIn at hy
      obtain ⟨r, hr, rfl⟩ := List.mem_map.1 hy
      unfold liftRow
      rw [List.length_map]
      exact h r (rowsOf_mem hr)
    · exact liftAll_rows h (n + 1) x y hy
set_option maxHeartbeats 4000000 in
set_option maxRecDepth 100000 in
theorem lift_Trace (p q : CP) (fr tc : Circ) (r : LP) (l : Lf) (s : TP) (t : Run) (w : World) (hp : RC w p fr) (hq : RC w q tc) (hr : RL w r l) (ht : RT w s t) (ff : fr.Fits) (ft : tc.Fits) (hl : l.Fits) :
    Calls Try.prog 25 #[cv p fr, cv q tc, lv r l, tv s t] w fun e w' => RetTr w w' (traceC fr tc l t) e := by
  obtain ⟨A2, k2, A3, k3, A4, k4, A5, k5⟩ := r
  obtain ⟨TF, tf, TI, ti⟩ := s
  have CK := Aside0.mk (fun W (hb : Below w.heap.size w W) => lift_Check p q fr tc ⟨A2, k2, A3, k3, A4, k4, A5, k5⟩ l W (hp.below hb) (hq.below hb) (hr.below hb) ff ft hl)
  have HP := Aside0.mk hp
  have HQ := Aside0.mk hq
  have HR := Aside0.mk hr
  have HT := Aside0.mk ht
  have FF := Aside0.mk ff
  have FT := Aside0.mk ft
  have HM := Aside0.mk ht.s1.max
  have hu26 := Try.underlying26
  have hu31 := Try.underlying38
  have hu57 := Try.underlying64
  have hmf : ∀ (fn : Fn) (first cap : Array Value) (w : World), (Instr.makeFunc fn first cap).run Try.prog w = .ok (.func fn first cap) w := fun _ _ _ _ => rfl
  have S := ((((((Parts.start w).new 26 (ccells p fr)).new 26 (ccells q tc)).new 38 (lcells ⟨A2, k2, A3, k3, A4, k4, A5, k5⟩ l)).new 64 #[.slice TF t.f0.length tf, .slice TI t.f1.length ti]).new 64 #[.slice none 0 0, .slice none 0 0])
  simp only [sz_new] at S
  have S0 := Aside0.mk S
  clear S hp hq hr ht ff ft hl
  go_enter Try.func25, Try.ntmps25
  go_upto_region 1 with (fail)
  obtain ⟨w1, hw1⟩ : ∃ W, (((((w.alloc (.cells (ccells p fr) 26)).alloc (.cells (ccells q tc) 26)).alloc (.cells (lcells ⟨A2, k2, A3, k3, A4, k4, A5, k5⟩ l) 38)).alloc (.cells #[.slice TF t.f0.length tf, .slice TI t.f1.length ti] 64)).alloc (.cells #[.slice none 0 0, .slice none 0 0] 64)) = W := ⟨_, rfl⟩
  rw [hw1] at S0 ⊢
  clear hw1
  obtain ⟨a0, a1, a2, a3, a4⟩ := blk5 (S0.out.blk 4 rfl)
  obtain ⟨b0, b1, b2, b3, b4⟩ := blk5 (S0.out.blk 3 rfl)
  obtain ⟨l0, l1, l2, l3, l4, l5, l6⟩ := blk7 (S0.out.blk 2 rfl)
  go_wp2_with fail
  refine (CK.out _ S0.out.B).mono ?_
  rintro e w2 ⟨rfl, hb⟩
  have S2 := Aside0.mk (S0.out.below hb)
  clear hb S0 a0 a1 a2 a3 a4 b0 b1 b2 b3 b4 l0 l1 l2 l3 l4 l5 l6
  obtain ⟨E, hE⟩ : ∃ E, liftCheck fr tc l = E := ⟨_, rfl⟩
  have HEE := Aside0.mk (show liftErr fr tc l = E from (liftErr_eq fr tc l).trans hE)
  rw [hE]
  clear hE CK
  obtain ⟨r0, z0⟩ := S2.out.cell 0 rfl 0 rfl
  obtain ⟨r1, z1⟩ := S2.out.cell 0 rfl 1 rfl
  by_cases he : E = 0
  · subst he
    have LO := Aside0.mk (LOk.of (liftErr_ok HEE.out).2.2)
    have HCF := Aside0.mk (liftErr_ok HEE.out).1
    have HCT := Aside0.mk (liftErr_ok HEE.out).2.1
    have PR := Aside0.mk (lift_Trace1 (w.heap.size + 1) tc.f0 (ccells q tc) w2 (S2.out.blk 3 rfl) rfl)
    obtain ⟨f, hf⟩ : ∃ f, runFits tc t = f := ⟨_, rfl⟩
    have HF := Aside0.mk hf
    unfold runFits at hf
    obtain ⟨b0, b1, b2, b3, b4⟩ := blk5 (S2.out.blk 3 rfl)
    obtain ⟨t0, y0⟩ := S2.out.cell 1 rfl 0 rfl
    obtain ⟨t1, y1⟩ := S2.out.cell 1 rfl 1 rfl
    by_cases h1 : t.f0.length = tc.f1.length
    · have h1b : ((t.f0.length : Int) != (tc.f1.length : Int)) = false := bne_eq_false_iff_eq.2 (by omega)
      have H1 := Aside0.mk h1
      rw [decide_eq_true h1, Bool.true_and] at hf
      clear h1
      by_cases h2 : t.f1.length = 0
      · have h2b : ((t.f1.length : Int) == 0) = true := beq_iff_eq.2 (by omega)
        rw [decide_eq_false (by omega), Bool.false_and] at hf
        have HF2 := Aside0.mk (show runFits tc t = false from HF.out.trans hf.symm)
        clear hf h2 HF
        go_wp2
        have S3 := Aside0.mk ((S2.out.put 0 rfl 0 (.slice none 0 0) rfl).put 0 rfl 1 (.slice none 0 0) rfl)
        refine bodyPost_ret (results_ct rfl _ _ (w.heap.size + 1 + 1 + 1 + 1) 64 #[.slice none 0 0, .slice none 0 0] (0, 0) _ rfl (S3.out.blk 0 rfl) hu57 rfl (by kernel_rfl)) rfl ?_
        rw [show traceC fr tc l t = (⟨[], []⟩, 8) by unfold traceC; rw [if_neg (by rw [HEE.out]; decide), if_pos HF2.out]]
        exact ⟨⟨none, 0, none, 0⟩, rfl, ⟨RS.nil _ _ _, RS.nil _ _ _⟩, S3.out.B⟩
      · have h2b : ((t.f1.length : Int) == 0) = false := beq_eq_false_iff_ne.2 (by omega)
        rw [decide_eq_true (by omega), Bool.true_and] at hf
        have H2 := Aside0.mk (show 0 < t.f1.length by omega)
        have HF2 := Aside0.mk hf
        clear hf h2
        go_wp2_with fail
        refine (slices_ContainsFunc_row TI ti t.f1 (fun r => (r.length : Int) != tc.f0) _ _ _ (HT.out.s1.below S2.out.B) PR.out (fun _ _ => rfl)).mono ?_
        rintro e w3 ⟨rfl, hb⟩
        have S3 := Aside0.mk (S2.out.below hb)
        clear hb S2 PR b0 b1 b2 b3 b4 t0 y0 t1 y1 r0 z0 r1 z1
        obtain ⟨r0, z0⟩ := S3.out.cell 0 rfl 0 rfl
        obtain ⟨r1, z1⟩ := S3.out.cell 0 rfl 1 rfl
        cases f with
        | false =>
          have hany : (t.f1.any fun r => (r.length : Int) != tc.f0) = true := by simpa using HF2.out
          rw [hany]
          clear hany
          go_wp2
          have S2 := S3
          clear S3
          have S3 := Aside0.mk ((S2.out.put 0 rfl 0 (.slice none 0 0) rfl).put 0 rfl 1 (.slice none 0 0) rfl)
          refine bodyPost_ret (results_ct rfl _ _ (w.heap.size + 1 + 1 + 1 + 1) 64 #[.slice none 0 0, .slice none 0 0] (0, 0) _ rfl (S3.out.blk 0 rfl) hu57 rfl (by kernel_rfl)) rfl ?_
          rw [show traceC fr tc l t = (⟨[], []⟩, 8) by unfold traceC; rw [if_neg (by rw [HEE.out]; decide), if_pos HF.out]]
          exact ⟨⟨none, 0, none, 0⟩, rfl, ⟨RS.nil _ _ _, RS.nil _ _ _⟩, S3.out.B⟩
        | true =>
          have HFF := HF
          have hany : (t.f1.any fun r => (r.length : Int) != tc.f0) = false := by simpa using HF2.out
          rw [hany]
          clear hany HF2
          obtain ⟨t1, y1⟩ := S3.out.cell 1 rfl 1 rfl
          obtain ⟨l0, l1, l2, l3, l4, l5, l6⟩ := blk7 (S3.out.blk 2 rfl)
          by_cases h3 : 100 < t.f1.length
          · have H3 := Aside0.mk h3
            have h3b : decide (100 < (t.f1.length : Int)) = true := decide_eq_true (by omega)
            clear h3
            go_wp2
            have S2 := S3
            clear S3
            have S3 := Aside0.mk ((S2.out.put 0 rfl 0 (.slice none 0 0) rfl).put 0 rfl 1 (.slice none 0 0) rfl)
            refine bodyPost_ret (results_ct rfl _ _ (w.heap.size + 1 + 1 + 1 + 1) 64 #[.slice none 0 0, .slice none 0 0] (0, 0) _ rfl (S3.out.blk 0 rfl) hu57 rfl (by kernel_rfl)) rfl ?_
            rw [show traceC fr tc l t = (⟨[], []⟩, 4) by unfold traceC; rw [if_neg (by rw [HEE.out]; decide), if_neg (by rw [HF.out]; decide), if_pos (.inl H3.out)]]
            exact ⟨⟨none, 0, none, 0⟩, rfl, ⟨RS.nil _ _ _, RS.nil _ _ _⟩, S3.out.B⟩
          · have H3 := Aside0.mk (show t.f1.length ≤ 100 by omega)
            have h3b : decide (100 < (t.f1.length : Int)) = false := decide_eq_false (by omega)
            have hprod : 0 ≤ l.f1 * (t.f1.length : Int) ∧ l.f1 * (t.f1.length : Int) ≤ 400 := by
              have h1 := LO.out.p0
              have h2 := LO.out.p1
              refine ⟨Int.mul_nonneg (by omega) (by omega), ?_⟩
              have h4 := Int.mul_le_mul h2 (show (t.f1.length : Int) ≤ 100 by omega) (by omega) (by omega)
              omega
            obtain ⟨m, hm⟩ : ∃ m, l.f1 * (t.f1.length : Int) = m := ⟨_, rfl⟩
            have HMM := Aside0.mk hm
            rw [hm] at hprod
            have hs0 := LO.out.s0
            have hs1 := LO.out.s1
            have hwm : wrap64 (l.f1 * (t.f1.length : Int)) = m := by rw [hm]; exact wrap_in (by omega) (by omega)
            have hwa : wrap64 (l.f0 + m) = l.f0 + m := wrap_in (by omega) (by omega)
            clear hm h3
            by_cases h4 : 100 < l.f0 + m
            · have H4 := Aside0.mk h4
              have h4b : decide (100 < l.f0 + m) = true := decide_eq_true h4
              clear h4
              go_wp2
              have S2 := S3
              clear S3
              have S3 := Aside0.mk ((S2.out.put 0 rfl 0 (.slice none 0 0) rfl).put 0 rfl 1 (.slice none 0 0) rfl)
              refine bodyPost_ret (results_ct rfl _ _ (w.heap.size + 1 + 1 + 1 + 1) 64 #[.slice none 0 0, .slice none 0 0] (0, 0) _ rfl (S3.out.blk 0 rfl) hu57 rfl (by kernel_rfl)) rfl ?_
              rw [show traceC fr tc l t = (⟨[], []⟩, 4) by unfold traceC; rw [if_neg (by rw [HEE.out]; decide), if_neg (by rw [HF.out]; decide), if_pos (.inr (by rw [HMM.out]; exact H4.out))]]
              exact ⟨⟨none, 0, none, 0⟩, rfl, ⟨RS.nil _ _ _, RS.nil _ _ _⟩, S3.out.B⟩
            · have H4 := Aside0.mk (show ¬ (100 < t.f1.length ∨ 100 < l.f0 + l.f1 * (t.f1.length : Int)) by rw [HMM.out]; have := H3.out; omega)
              have h4b : decide (100 < l.f0 + m) = false := decide_eq_false h4
              have HTR := Aside0.mk (show traceC fr tc l t = (cutRun fr (liftRun tc l t), 0) by unfold traceC; rw [if_neg (by rw [HEE.out]; decide), if_neg (by rw [HF.out]; decide), if_neg H4.out])
              clear h4
              go_upto_region 10 with (fail)
              have S5 := Aside0.mk (show Parts w.heap.size w (w3.alloc (.cells #[.slice none 0 0, .slice none 0 0] 64)) (trPs w.heap.size w.heap.size w3.heap.size p q fr tc ⟨A2, k2, A3, k3, A4, k4, A5, k5⟩ l ⟨TF, tf, TI, ti⟩ t (none, 0) (none, 0) (l.f2.take 0 |>.map (liftV tc t.f0)) [] []) from
                ((((S3.out.new 64 #[.slice none 0 0, .slice none 0 0]).inNil Kd.bool 4).nil kHead 59).nil Kd.bool 4).take [3, 0, 1, 2, 4, 5, 6, 7, 8] 9 (by simp) (by decide) (by decide))
              clear S3 r0 z0 r1 z1 t1 y1 l0 l1 l2 l3 l4 l5 l6 hwm hwa HMM
              generalize w3.heap.size = gO at *
              generalize w3.alloc (.cells #[.slice none 0 0, .slice none 0 0] 64) = w5 at *
              obtain ⟨l0, l1, l2, l3, l4, l5, l6⟩ := blk7 (S5.out.blk 6 rfl)
              have HL2 := Aside0.mk (show l.f2.length ≤ 1000 by rw [LO.out.n2]; have := gCheck_ok HCF.out; omega)
              go_wp2
              clear l0 l1 l2 l3 l4 l5 l6
              go_loopg [14, 75] l.f2.length (fun gg _ s75 wr => ∃ (i : Nat) (vF : Option Addr × Nat), s75 = .int .i64 i ∧ Aside0 (i ≤ l.f2.length ∧ l.f2.length - i ≤ gg) ∧ Aside0 (Parts w.heap.size w wr (trPs w.heap.size w.heap.size gO p q fr tc ⟨A2, k2, A3, k3, A4, k4, A5, k5⟩ l ⟨TF, tf, TI, ti⟩ t vF (none, 0) ((l.f2.take i).map (liftV tc t.f0)) [] [])))
              case atStart => exact ⟨0, (none, 0), rfl, ⟨by omega, by omega⟩, S5⟩
              case round =>
                clear S5
                obtain ⟨i, vF, rfl, HX, S⟩ := hrel
                by_cases hlt : i < l.f2.length
                · obtain ⟨ad, e1, hx⟩ := at_int (HR.out.s2.below S.out.B).r i hlt
                  obtain ⟨x, hx0⟩ : ∃ x, l.f2[i] = x := ⟨_, rfl⟩
                  rw [hx0] at hx
                  have HX0 := Aside0.mk (show l.f2[i]? = some x by rw [List.getElem?_eq_getElem hlt, hx0])
                  have HX2 := LO.out.m2 x (hx0 ▸ List.getElem_mem hlt)
                  have hlti : (i : Int) < l.f2.length := by omega
                  have HLT := Aside0.mk hlt
                  clear hx0 hlt
                  obtain ⟨F0, hF0⟩ : ∃ F0, (l.f2.take i).map (liftV tc t.f0) = F0 := ⟨_, rfl⟩
                  have HFL := Aside0.mk (show F0.length = i by rw [← hF0]; simp; have := HLT.out; omega)
                  have HF0 := Aside0.mk hF0
                  rw [hF0] at S
                  clear hF0
                  obtain ⟨o0, q0⟩ := S.out.cell 0 rfl 0 rfl
                  obtain ⟨b0, b1, b2, b3, b4⟩ := blk5 (S.out.blk 7 rfl)
                  obtain ⟨t0, y0⟩ := S.out.cell 5 rfl 0 rfl
                  cases e1
                  rcases HX2 with rfl | rfl | HX2
                  · have HV := Aside0.mk (show liftV tc t.f0 0 = false from rfl)
                    go_upto_region 13 with (fail)
                    go_wp2
                    refine start_ (n := 28) (S := (fun w' => w'.cell? ⟨gO, 0, none⟩ = some (.slice vF.1 F0.length vF.2))) (ds := [27]) #[false, false, false, false, false, false, false, false, false, false, false, false, false, false, false, false, false, false, false, false, false, false, false, false, false, false, false, false] (by kernel_rfl) rfl rfl o0 (fun hHeld => ?_)
                    refine pure_ (i := 0) (N := some 79) (v := ?_) (a' := ?_) #[true, false, false, false, false, false, false, false, false, false, false, false, false, false, false, false, false, false, false, false, false, false, false, false, false, false, false, false] rfl rfl (by kernel_rfl) (fun _ _ _ h => h) (Or.inl ⟨by rfl, ?_⟩) ?_ ?_
                    rotate_left
                    · intro w'
                      go_simp
                      with_reducible rfl
                    rotate_left
                    · simp only [Act.put, List.setIfInBounds_toArray, List.set_cons_zero, List.set_cons_succ]
                      rfl
                    refine take_ (i := 1) (N := some 80) (v := ?_) (a' := ?_) #[true, true, false, false, false, false, false, false, false, false, false, false, false, false, false, false, false, false, false, false, false, false, false, false, false, false, false, false] rfl rfl (by kernel_rfl) (fun _ _ _ h => h) (Or.inl ⟨by rfl, ?_⟩) hHeld ?_ ?_
                    rotate_left
                    · intro w' s0
                      go_simp
                      with_reducible rfl
                    rotate_left
                    · simp only [Act.put, List.setIfInBounds_toArray, List.set_cons_zero, List.set_cons_succ]
                      rfl
                    refine pure_ (i := 2) (N := some 81) (v := ?_) (a' := ?_) #[true, true, true, false, false, false, false, false, false, false, false, false, false, false, false, false, false, false, false, false, false, false, false, false, false, false, false, false] rfl rfl (by kernel_rfl) (fun _ _ _ h => h) (Or.inl ⟨by rfl, ?_⟩) ?_ ?_
                    rotate_left
                    · intro w'
                      go_simp
                      with_reducible rfl
                    rotate_left
                    · simp only [Act.put, List.setIfInBounds_toArray, List.set_cons_zero, List.set_cons_succ]
                      rfl
                    refine pure_ (i := 3) (N := some 82) (v := ?_) (a' := ?_) #[true, true, true, true, false, false, false, false, false, false, false, false, false, false, false, false, false, false, false, false, false, false, false, false, false, false, false, false] rfl rfl (by kernel_rfl) (fun _ _ _ h => h) (Or.inl ⟨by rfl, ?_⟩) ?_ ?_
                    rotate_left
                    · intro w'
                      go_simp
                      with_reducible rfl
                    rotate_left
                    · simp only [Act.put, List.setIfInBounds_toArray, List.set_cons_zero, List.set_cons_succ]
                      rfl
                    refine pure_ (i := 4) (N := some 83) (v := ?_) (a' := ?_) #[true, true, true, true, true, false, false, false, false, false, false, false, false, false, false, false, false, false, false, false, false, false, false, false, false, false, false, false] rfl rfl (by kernel_rfl) (fun _ _ _ h => h) (Or.inl ⟨by rfl, ?_⟩) ?_ ?_
                    rotate_left
                    · intro w'
                      go_simp
                      with_reducible rfl
                    rotate_left
                    · simp only [Act.put, List.setIfInBounds_toArray, List.set_cons_zero, List.set_cons_succ]
                      rfl
                    refine pure_ (i := 5) (N := some 84) (v := ?_) (a' := ?_) #[true, true, true, true, true, true, false, false, false, false, false, false, false, false, false, false, false, false, false, false, false, false, false, false, false, false, false, false] rfl rfl (by kernel_rfl) (fun _ _ _ h => h) (Or.inl ⟨by rfl, ?_⟩) ?_ ?_
                    rotate_left
                    · intro w'
                      go_simp
                      with_reducible rfl
                    rotate_left
                    · simp only [Act.put, List.setIfInBounds_toArray, List.set_cons_zero, List.set_cons_succ]
                      rfl
                    refine pure_ (i := 6) (N := some 85) (v := ?_) (a' := ?_) #[true, true, true, true, true, true, true, false, false, false, false, false, false, false, false, false, false, false, false, false, false, false, false, false, false, false, false, false] rfl rfl (by kernel_rfl) (fun _ _ _ h => h) (Or.inl ⟨by rfl, ?_⟩) ?_ ?_
                    rotate_left
                    · intro w'
                      go_simp
                      with_reducible rfl
                    rotate_left
                    · simp only [Act.put, List.setIfInBounds_toArray, List.set_cons_zero, List.set_cons_succ]
                      rfl
                    refine pure_ (i := 7) (N := some 86) (v := ?_) (a' := ?_) #[true, true, true, true, true, true, true, true, false, false, false, false, false, false, false, false, false, false, false, false, false, false, false, false, false, false, false, false] rfl rfl (by kernel_rfl) (fun _ _ _ h => h) (Or.inl ⟨by rfl, ?_⟩) ?_ ?_
                    rotate_left
                    · intro w'
                      go_simp
                      with_reducible rfl
                    rotate_left
                    · simp only [Act.put, List.setIfInBounds_toArray, List.set_cons_zero, List.set_cons_succ]
                      rfl
                    refine pure_ (i := 8) (N := some 87) (v := undef) (a' := ?_) #[true, true, true, true, true, true, true, true, true, false, false, false, false, false, false, false, false, false, false, false, false, false, false, false, false, false, false, false] rfl rfl (by kernel_rfl) (fun _ _ _ h => h) (Or.inr ⟨by rfl, rfl⟩) ?_ ?_
                    rotate_left
                    · simp only [Act.put, List.setIfInBounds_toArray, List.set_cons_zero, List.set_cons_succ]
                      rfl
                    refine pure_ (i := 9) (N := some 88) (v := undef) (a' := ?_) #[true, true, true, true, true, true, true, true, true, true, false, false, false, false, false, false, false, false, false, false, false, false, false, false, false, false, false, false] rfl rfl (by kernel_rfl) (fun _ _ _ h => h) (Or.inr ⟨by rfl, rfl⟩) ?_ ?_
                    rotate_left
                    · simp only [Act.put, List.setIfInBounds_toArray, List.set_cons_zero, List.set_cons_succ]
                      rfl
                    refine pure_ (i := 10) (N := some 89) (v := undef) (a' := ?_) #[true, true, true, true, true, true, true, true, true, true, true, false, false, false, false, false, false, false, false, false, false, false, false, false, false, false, false, false] rfl rfl (by kernel_rfl) (fun _ _ _ h => h) (Or.inr ⟨by rfl, rfl⟩) ?_ ?_
                    rotate_left
                    · simp only [Act.put, List.setIfInBounds_toArray, List.set_cons_zero, List.set_cons_succ]
                      rfl
                    refine pure_ (i := 11) (N := some 90) (v := undef) (a' := ?_) #[true, true, true, true, true, true, true, true, true, true, true, true, false, false, false, false, false, false, false, false, false, false, false, false, false, false, false, false] rfl rfl (by kernel_rfl) (fun _ _ _ h => h) (Or.inr ⟨by rfl, rfl⟩) ?_ ?_
                    rotate_left
                    · simp only [Act.put, List.setIfInBounds_toArray, List.set_cons_zero, List.set_cons_succ]
                      rfl
                    refine pure_ (i := 12) (N := some 91) (v := undef) (a' := ?_) #[true, true, true, true, true, true, true, true, true, true, true, true, true, false, false, false, false, false, false, false, false, false, false, false, false, false, false, false] rfl rfl (by kernel_rfl) (fun _ _ _ h => h) (Or.inr ⟨by rfl, rfl⟩) ?_ ?_
                    rotate_left
                    · simp only [Act.put, List.setIfInBounds_toArray, List.set_cons_zero, List.set_cons_succ]
                      rfl
                    refine pure_ (i := 13) (N := some 92) (v := undef) (a' := ?_) #[true, true, true, true, true, true, true, true, true, true, true, true, true, true, false, false, false, false, false, false, false, false, false, false, false, false, false, false] rfl rfl (by kernel_rfl) (fun _ _ _ h => h) (Or.inr ⟨by rfl, rfl⟩) ?_ ?_
                    rotate_left
                    · simp only [Act.put, List.setIfInBounds_toArray, List.set_cons_zero, List.set_cons_succ]
                      rfl
                    refine pure_ (i := 14) (N := some 93) (v := undef) (a' := ?_) #[true, true, true, true, true, true, true, true, true, true, true, true, true, true, true, false, false, false, false, false, false, false, false, false, false, false, false, false] rfl rfl (by kernel_rfl) (fun _ _ _ h => h) (Or.inr ⟨by rfl, rfl⟩) ?_ ?_
                    rotate_left
                    · simp only [Act.put, List.setIfInBounds_toArray, List.set_cons_zero, List.set_cons_succ]
                      rfl
                    refine pure_ (i := 15) (N := some 94) (v := undef) (a' := ?_) #[true, true, true, true, true, true, true, true, true, true, true, true, true, true, true, true, false, false, false, false, false, false, false, false, false, false, false, false] rfl rfl (by kernel_rfl) (fun _ _ _ h => h) (Or.inr ⟨by rfl, rfl⟩) ?_ ?_
                    rotate_left
                    · simp only [Act.put, List.setIfInBounds_toArray, List.set_cons_zero, List.set_cons_succ]
                      rfl
                    refine pure_ (i := 16) (N := some 95) (v := undef) (a' := ?_) #[true, true, true, true, true, true, true, true, true, true, true, true, true, true, true, true, true, false, false, false, false, false, false, false, false, false, false, false] rfl rfl (by kernel_rfl) (fun _ _ _ h => h) (Or.inr ⟨by rfl, rfl⟩) ?_ ?_
                    rotate_left
                    · simp only [Act.put, List.setIfInBounds_toArray, List.set_cons_zero, List.set_cons_succ]
                      rfl
                    refine pure_ (i := 17) (N := some 96) (v := undef) (a' := ?_) #[true, true, true, true, true, true, true, true, true, true, true, true, true, true, true, true, true, true, false, false, false, false, false, false, false, false, false, false] rfl rfl (by kernel_rfl) (fun _ _ _ h => h) (Or.inr ⟨by rfl, rfl⟩) ?_ ?_
                    rotate_left
                    · simp only [Act.put, List.setIfInBounds_toArray, List.set_cons_zero, List.set_cons_succ]
                      rfl
                    refine pure_ (i := 18) (N := some 97) (v := undef) (a' := ?_) #[true, true, true, true, true, true, true, true, true, true, true, true, true, true, true, true, true, true, true, false, false, false, false, false, false, false, false, false] rfl rfl (by kernel_rfl) (fun _ _ _ h => h) (Or.inr ⟨by rfl, rfl⟩) ?_ ?_
                    rotate_left
                    · simp only [Act.put, List.setIfInBounds_toArray, List.set_cons_zero, List.set_cons_succ]
                      rfl
                    refine pure_ (i := 19) (N := some 98) (v := undef) (a' := ?_) #[true, true, true, true, true, true, true, true, true, true, true, true, true, true, true, true, true, true, true, true, false, false, false, false, false, false, false, false] rfl rfl (by kernel_rfl) (fun _ _ _ h => h) (Or.inr ⟨by rfl, rfl⟩) ?_ ?_
                    rotate_left
                    · simp only [Act.put, List.setIfInBounds_toArray, List.set_cons_zero, List.set_cons_succ]
                      rfl
                    refine pure_ (i := 20) (N := some 99) (v := undef) (a' := ?_) #[true, true, true, true, true, true, true, true, true, true, true, true, true, true, true, true, true, true, true, true, true, false, false, false, false, false, false, false] rfl rfl (by kernel_rfl) (fun _ _ _ h => h) (Or.inr ⟨by rfl, rfl⟩) ?_ ?_
                    rotate_left
                    · simp only [Act.put, List.setIfInBounds_toArray, List.set_cons_zero, List.set_cons_succ]
                      rfl
                    refine pure_ (i := 21) (N := some 100) (v := undef) (a' := ?_) #[true, true, true, true, true, true, true, true, true, true, true, true, true, true, true, true, true, true, true, true, true, true, false, false, false, false, false, false] rfl rfl (by kernel_rfl) (fun _ _ _ h => h) (Or.inr ⟨by rfl, rfl⟩) ?_ ?_
                    rotate_left
                    · simp only [Act.put, List.setIfInBounds_toArray, List.set_cons_zero, List.set_cons_succ]
                      rfl
                    refine pure_ (i := 22) (N := some 101) (v := ?_) (a' := ?_) #[true, true, true, true, true, true, true, true, true, true, true, true, true, true, true, true, true, true, true, true, true, true, true, false, false, false, false, false] rfl rfl (by kernel_rfl) (fun _ _ _ h => h) (Or.inl ⟨by rfl, ?_⟩) ?_ ?_
                    rotate_left
                    · intro w'
                      go_simp
                      with_reducible rfl
                    rotate_left
                    · simp only [Act.put, List.setIfInBounds_toArray, List.set_cons_zero, List.set_cons_succ]
                      rfl
                    refine pure_ (i := 23) (N := some 102) (v := ?_) (a' := ?_) #[true, true, true, true, true, true, true, true, true, true, true, true, true, true, true, true, true, true, true, true, true, true, true, true, false, false, false, false] rfl rfl (by kernel_rfl) (fun _ _ _ h => h) (Or.inl ⟨by rfl, ?_⟩) ?_ ?_
                    rotate_left
                    · intro w'
                      go_simp
                      with_reducible rfl
                    rotate_left
                    · simp only [Act.put, List.setIfInBounds_toArray, List.set_cons_zero, List.set_cons_succ]
                      rfl
                    refine one_ (i := 24) (N := some 103) #[true, true, true, true, true, true, true, true, true, true, true, true, true, true, true, true, true, true, true, true, true, true, true, true, true, false, false, false] rfl rfl (by kernel_rfl) (by decide) (fun K hK => ?_)
                    refine value_ (w1 := ?_) (v := ?_) (by rfl) rfl ?_ ?_
                    rotate_left 2
                    · go_simp
                      constructor
                      · rfl
                      · rfl
                    refine hK.out _ _ ((World.cell?_alloc_lt _ _ _ (World.block_lt_of_cell? _ _ hHeld)).trans hHeld) (fun hHeld => ?_)
                    clear hK K
                    refine norm_ (a' := ?_) ?_ ?_
                    rotate_left
                    · show Act.put _ (some 103) _ = _
                      simp only [Act.put, List.setIfInBounds_toArray, List.set_cons_zero, List.set_cons_succ]
                      rfl
                    refine one_ (i := 25) (N := some 104) #[true, true, true, true, true, true, true, true, true, true, true, true, true, true, true, true, true, true, true, true, true, true, true, true, true, true, false, false] rfl rfl (by kernel_rfl) (by decide) (fun K hK => ?_)
                    refine Parts.appendS S.out.drew 1 rfl flat_bool (by rfl) (.tmp 80) (.tmp 103) 59 (.bool false) 1 rfl Try.underlying59 infoBool rfl (by decide) (by decide) false [.bool false] rfl rfl rfl (by have := HFL.out; have := HLT.out; have := HL2.out; omega) ?_
                    intro V5 cap5 w10 h10
                    have S10 := Aside0.mk h10
                    clear h10 o0 q0 b0 b1 b2 b3 b4 t0 y0
                    refine hK.out _ _ (S10.out.cell 0 rfl 0 rfl).1 (fun hHeld => ?_)
                    clear hK K
                    refine norm_ (a' := ?_) ?_ ?_
                    rotate_left
                    · show Act.put _ (some 104) _ = _
                      simp only [Act.put, List.setIfInBounds_toArray, List.set_cons_zero, List.set_cons_succ]
                      rfl
                    obtain ⟨o0, q0⟩ := S10.out.cell 0 rfl 0 rfl
                    refine pure_ (i := 26) (N := some 105) (v := ?_) (a' := ?_) #[true, true, true, true, true, true, true, true, true, true, true, true, true, true, true, true, true, true, true, true, true, true, true, true, true, true, true, false] rfl rfl (by kernel_rfl) (fun _ _ _ h => h) (Or.inl ⟨by rfl, ?_⟩) ?_ ?_
                    rotate_left
                    · intro w'
                      go_simp
                      with_reducible rfl
                    rotate_left
                    · simp only [Act.put, List.setIfInBounds_toArray, List.set_cons_zero, List.set_cons_succ]
                      rfl
                    refine last_ (i := 27) (N := none) #[true, true, true, true, true, true, true, true, true, true, true, true, true, true, true, true, true, true, true, true, true, true, true, true, true, true, true, true] rfl rfl (by kernel_rfl) (by decide) (fun K hK => ?_)
                    refine skip_ (w1 := ?_) (by rfl) rfl ?_ ?_
                    rotate_left
                    · go_simp
                      rfl
                    refine hK.out _ _ ?_
                    clear hK K
                    refine done_ (by kernel_rfl) ?_
                    have S11 := Aside0.mk (S10.out.put 0 rfl 0 (.slice V5 (F0.length + 1) cap5) rfl)
                    generalize w10.setCell ⟨gO, 0, none⟩ (.slice V5 (F0.length + 1) cap5) = w11 at *
                    go_wp2
                    go_roundg (l.f2.length - (i + 1))
                    case measure => have := HX.out; have := HLT.out; omega
                    case rel => exact ⟨i + 1, (V5, cap5), (by first | exact val_step HLT.out (by have := HL2.out; omega) | rfl), ⟨by have := HLT.out; omega, by have := HX.out; have := HLT.out; omega⟩, trF_step HX0.out HF0.out HV.out S11⟩
                  · have HV := Aside0.mk (show liftV tc t.f0 1 = true from rfl)
                    go_upto_region 13 with (fail)
                    go_wp2
                    refine start_ (n := 28) (S := (fun w' => w'.cell? ⟨gO, 0, none⟩ = some (.slice vF.1 F0.length vF.2))) (ds := [27]) #[false, false, false, false, false, false, false, false, false, false, false, false, false, false, false, false, false, false, false, false, false, false, false, false, false, false, false, false] (by kernel_rfl) rfl rfl o0 (fun hHeld => ?_)
                    refine pure_ (i := 0) (N := some 79) (v := ?_) (a' := ?_) #[true, false, false, false, false, false, false, false, false, false, false, false, false, false, false, false, false, false, false, false, false, false, false, false, false, false, false, false] rfl rfl (by kernel_rfl) (fun _ _ _ h => h) (Or.inl ⟨by rfl, ?_⟩) ?_ ?_
                    rotate_left
                    · intro w'
                      go_simp
                      with_reducible rfl
                    rotate_left
                    · simp only [Act.put, List.setIfInBounds_toArray, List.set_cons_zero, List.set_cons_succ]
                      rfl
                    refine take_ (i := 1) (N := some 80) (v := ?_) (a' := ?_) #[true, true, false, false, false, false, false, false, false, false, false, false, false, false, false, false, false, false, false, false, false, false, false, false, false, false, false, false] rfl rfl (by kernel_rfl) (fun _ _ _ h => h) (Or.inl ⟨by rfl, ?_⟩) hHeld ?_ ?_
                    rotate_left
                    · intro w' s0
                      go_simp
                      with_reducible rfl
                    rotate_left
                    · simp only [Act.put, List.setIfInBounds_toArray, List.set_cons_zero, List.set_cons_succ]
                      rfl
                    refine pure_ (i := 2) (N := some 81) (v := ?_) (a' := ?_) #[true, true, true, false, false, false, false, false, false, false, false, false, false, false, false, false, false, false, false, false, false, false, false, false, false, false, false, false] rfl rfl (by kernel_rfl) (fun _ _ _ h => h) (Or.inl ⟨by rfl, ?_⟩) ?_ ?_
                    rotate_left
                    · intro w'
                      go_simp
                      with_reducible rfl
                    rotate_left
                    · simp only [Act.put, List.setIfInBounds_toArray, List.set_cons_zero, List.set_cons_succ]
                      rfl
                    refine pure_ (i := 3) (N := some 82) (v := ?_) (a' := ?_) #[true, true, true, true, false, false, false, false, false, false, false, false, false, false, false, false, false, false, false, false, false, false, false, false, false, false, false, false] rfl rfl (by kernel_rfl) (fun _ _ _ h => h) (Or.inl ⟨by rfl, ?_⟩) ?_ ?_
                    rotate_left
                    · intro w'
                      go_simp
                      with_reducible rfl
                    rotate_left
                    · simp only [Act.put, List.setIfInBounds_toArray, List.set_cons_zero, List.set_cons_succ]
                      rfl
                    refine pure_ (i := 4) (N := some 83) (v := ?_) (a' := ?_) #[true, true, true, true, true, false, false, false, false, false, false, false, false, false, false, false, false, false, false, false, false, false, false, false, false, false, false, false] rfl rfl (by kernel_rfl) (fun _ _ _ h => h) (Or.inl ⟨by rfl, ?_⟩) ?_ ?_
                    rotate_left
                    · intro w'
                      go_simp
                      with_reducible rfl
                    rotate_left
                    · simp only [Act.put, List.setIfInBounds_toArray, List.set_cons_zero, List.set_cons_succ]
                      rfl
                    refine pure_ (i := 5) (N := some 84) (v := undef) (a' := ?_) #[true, true, true, true, true, true, false, false, false, false, false, false, false, false, false, false, false, false, false, false, false, false, false, false, false, false, false, false] rfl rfl (by kernel_rfl) (fun _ _ _ h => h) (Or.inr ⟨by rfl, rfl⟩) ?_ ?_
                    rotate_left
                    · simp only [Act.put, List.setIfInBounds_toArray, List.set_cons_zero, List.set_cons_succ]
                      rfl
                    refine pure_ (i := 6) (N := some 85) (v := undef) (a' := ?_) #[true, true, true, true, true, true, true, false, false, false, false, false, false, false, false, false, false, false, false, false, false, false, false, false, false, false, false, false] rfl rfl (by kernel_rfl) (fun _ _ _ h => h) (Or.inr ⟨by rfl, rfl⟩) ?_ ?_
                    rotate_left
                    · simp only [Act.put, List.setIfInBounds_toArray, List.set_cons_zero, List.set_cons_succ]
                      rfl
                    refine pure_ (i := 7) (N := some 86) (v := undef) (a' := ?_) #[true, true, true, true, true, true, true, true, false, false, false, false, false, false, false, false, false, false, false, false, false, false, false, false, false, false, false, false] rfl rfl (by kernel_rfl) (fun _ _ _ h => h) (Or.inr ⟨by rfl, rfl⟩) ?_ ?_
                    rotate_left
                    · simp only [Act.put, List.setIfInBounds_toArray, List.set_cons_zero, List.set_cons_succ]
                      rfl
                    refine pure_ (i := 8) (N := some 87) (v := undef) (a' := ?_) #[true, true, true, true, true, true, true, true, true, false, false, false, false, false, false, false, false, false, false, false, false, false, false, false, false, false, false, false] rfl rfl (by kernel_rfl) (fun _ _ _ h => h) (Or.inr ⟨by rfl, rfl⟩) ?_ ?_
                    rotate_left
                    · simp only [Act.put, List.setIfInBounds_toArray, List.set_cons_zero, List.set_cons_succ]
                      rfl
                    refine pure_ (i := 9) (N := some 88) (v := undef) (a' := ?_) #[true, true, true, true, true, true, true, true, true, true, false, false, false, false, false, false, false, false, false, false, false, false, false, false, false, false, false, false] rfl rfl (by kernel_rfl) (fun _ _ _ h => h) (Or.inr ⟨by rfl, rfl⟩) ?_ ?_
                    rotate_left
                    · simp only [Act.put, List.setIfInBounds_toArray, List.set_cons_zero, List.set_cons_succ]
                      rfl
                    refine pure_ (i := 10) (N := some 89) (v := undef) (a' := ?_) #[true, true, true, true, true, true, true, true, true, true, true, false, false, false, false, false, false, false, false, false, false, false, false, false, false, false, false, false] rfl rfl (by kernel_rfl) (fun _ _ _ h => h) (Or.inr ⟨by rfl, rfl⟩) ?_ ?_
                    rotate_left
                    · simp only [Act.put, List.setIfInBounds_toArray, List.set_cons_zero, List.set_cons_succ]
                      rfl
                    refine pure_ (i := 11) (N := some 90) (v := undef) (a' := ?_) #[true, true, true, true, true, true, true, true, true, true, true, true, false, false, false, false, false, false, false, false, false, false, false, false, false, false, false, false] rfl rfl (by kernel_rfl) (fun _ _ _ h => h) (Or.inr ⟨by rfl, rfl⟩) ?_ ?_
                    rotate_left
                    · simp only [Act.put, List.setIfInBounds_toArray, List.set_cons_zero, List.set_cons_succ]
                      rfl
                    refine pure_ (i := 12) (N := some 91) (v := undef) (a' := ?_) #[true, true, true, true, true, true, true, true, true, true, true, true, true, false, false, false, false, false, false, false, false, false, false, false, false, false, false, false] rfl rfl (by kernel_rfl) (fun _ _ _ h => h) (Or.inr ⟨by rfl, rfl⟩) ?_ ?_
                    rotate_left
                    · simp only [Act.put, List.setIfInBounds_toArray, List.set_cons_zero, List.set_cons_succ]
                      rfl
                    refine pure_ (i := 13) (N := some 92) (v := undef) (a' := ?_) #[true, true, true, true, true, true, true, true, true, true, true, true, true, true, false, false, false, false, false, false, false, false, false, false, false, false, false, false] rfl rfl (by kernel_rfl) (fun _ _ _ h => h) (Or.inr ⟨by rfl, rfl⟩) ?_ ?_
                    rotate_left
                    · simp only [Act.put, List.setIfInBounds_toArray, List.set_cons_zero, List.set_cons_succ]
                      rfl
                    refine pure_ (i := 14) (N := some 93) (v := undef) (a' := ?_) #[true, true, true, true, true, true, true, true, true, true, true, true, true, true, true, false, false, false, false, false, false, false, false, false, false, false, false, false] rfl rfl (by kernel_rfl) (fun _ _ _ h => h) (Or.inr ⟨by rfl, rfl⟩) ?_ ?_
                    rotate_left
                    · simp only [Act.put, List.setIfInBounds_toArray, List.set_cons_zero, List.set_cons_succ]
                      rfl
                    refine pure_ (i := 15) (N := some 94) (v := undef) (a' := ?_) #[true, true, true, true, true, true, true, true, true, true, true, true, true, true, true, true, false, false, false, false, false, false, false, false, false, false, false, false] rfl rfl (by kernel_rfl) (fun _ _ _ h => h) (Or.inr ⟨by rfl, rfl⟩) ?_ ?_
                    rotate_left
                    · simp only [Act.put, List.setIfInBounds_toArray, List.set_cons_zero, List.set_cons_succ]
                      rfl
                    refine pure_ (i := 16) (N := some 95) (v := undef) (a' := ?_) #[true, true, true, true, true, true, true, true, true, true, true, true, true, true, true, true, true, false, false, false, false, false, false, false, false, false, false, false] rfl rfl (by kernel_rfl) (fun _ _ _ h => h) (Or.inr ⟨by rfl, rfl⟩) ?_ ?_
                    rotate_left
                    · simp only [Act.put, List.setIfInBounds_toArray, List.set_cons_zero, List.set_cons_succ]
                      rfl
                    refine pure_ (i := 17) (N := some 96) (v := undef) (a' := ?_) #[true, true, true, true, true, true, true, true, true, true, true, true, true, true, true, true, true, true, false, false, false, false, false, false, false, false, false, false] rfl rfl (by kernel_rfl) (fun _ _ _ h => h) (Or.inr ⟨by rfl, rfl⟩) ?_ ?_
                    rotate_left
                    · simp only [Act.put, List.setIfInBounds_toArray, List.set_cons_zero, List.set_cons_succ]
                      rfl
                    refine pure_ (i := 18) (N := some 97) (v := undef) (a' := ?_) #[true, true, true, true, true, true, true, true, true, true, true, true, true, true, true, true, true, true, true, false, false, false, false, false, false, false, false, false] rfl rfl (by kernel_rfl) (fun _ _ _ h => h) (Or.inr ⟨by rfl, rfl⟩) ?_ ?_
                    rotate_left
                    · simp only [Act.put, List.setIfInBounds_toArray, List.set_cons_zero, List.set_cons_succ]
                      rfl
                    refine pure_ (i := 19) (N := some 98) (v := undef) (a' := ?_) #[true, true, true, true, true, true, true, true, true, true, true, true, true, true, true, true, true, true, true, true, false, false, false, false, false, false, false, false] rfl rfl (by kernel_rfl) (fun _ _ _ h => h) (Or.inr ⟨by rfl, rfl⟩) ?_ ?_
                    rotate_left
                    · simp only [Act.put, List.setIfInBounds_toArray, List.set_cons_zero, List.set_cons_succ]
                      rfl
                    refine pure_ (i := 20) (N := some 99) (v := undef) (a' := ?_) #[true, true, true, true, true, true, true, true, true, true, true, true, true, true, true, true, true, true, true, true, true, false, false, false, false, false, false, false] rfl rfl (by kernel_rfl) (fun _ _ _ h => h) (Or.inr ⟨by rfl, rfl⟩) ?_ ?_
                    rotate_left
                    · simp only [Act.put, List.setIfInBounds_toArray, List.set_cons_zero, List.set_cons_succ]
                      rfl
                    refine pure_ (i := 21) (N := some 100) (v := undef) (a' := ?_) #[true, true, true, true, true, true, true, true, true, true, true, true, true, true, true, true, true, true, true, true, true, true, false, false, false, false, false, false] rfl rfl (by kernel_rfl) (fun _ _ _ h => h) (Or.inr ⟨by rfl, rfl⟩) ?_ ?_
                    rotate_left
                    · simp only [Act.put, List.setIfInBounds_toArray, List.set_cons_zero, List.set_cons_succ]
                      rfl
                    refine pure_ (i := 22) (N := some 101) (v := undef) (a' := ?_) #[true, true, true, true, true, true, true, true, true, true, true, true, true, true, true, true, true, true, true, true, true, true, true, false, false, false, false, false] rfl rfl (by kernel_rfl) (fun _ _ _ h => h) (Or.inr ⟨by rfl, rfl⟩) ?_ ?_
                    rotate_left
                    · simp only [Act.put, List.setIfInBounds_toArray, List.set_cons_zero, List.set_cons_succ]
                      rfl
                    refine pure_ (i := 23) (N := some 102) (v := ?_) (a' := ?_) #[true, true, true, true, true, true, true, true, true, true, true, true, true, true, true, true, true, true, true, true, true, true, true, true, false, false, false, false] rfl rfl (by kernel_rfl) (fun _ _ _ h => h) (Or.inl ⟨by rfl, ?_⟩) ?_ ?_
                    rotate_left
                    · intro w'
                      go_simp
                      with_reducible rfl
                    rotate_left
                    · simp only [Act.put, List.setIfInBounds_toArray, List.set_cons_zero, List.set_cons_succ]
                      rfl
                    refine one_ (i := 24) (N := some 103) #[true, true, true, true, true, true, true, true, true, true, true, true, true, true, true, true, true, true, true, true, true, true, true, true, true, false, false, false] rfl rfl (by kernel_rfl) (by decide) (fun K hK => ?_)
                    refine value_ (w1 := ?_) (v := ?_) (by rfl) rfl ?_ ?_
                    rotate_left 2
                    · go_simp
                      constructor
                      · rfl
                      · rfl
                    refine hK.out _ _ ((World.cell?_alloc_lt _ _ _ (World.block_lt_of_cell? _ _ hHeld)).trans hHeld) (fun hHeld => ?_)
                    clear hK K
                    refine norm_ (a' := ?_) ?_ ?_
                    rotate_left
                    · show Act.put _ (some 103) _ = _
                      simp only [Act.put, List.setIfInBounds_toArray, List.set_cons_zero, List.set_cons_succ]
                      rfl
                    refine one_ (i := 25) (N := some 104) #[true, true, true, true, true, true, true, true, true, true, true, true, true, true, true, true, true, true, true, true, true, true, true, true, true, true, false, false] rfl rfl (by kernel_rfl) (by decide) (fun K hK => ?_)
                    refine Parts.appendS S.out.drew 1 rfl flat_bool (by rfl) (.tmp 80) (.tmp 103) 59 (.bool false) 1 rfl Try.underlying59 infoBool rfl (by decide) (by decide) true [.bool true] rfl rfl rfl (by have := HFL.out; have := HLT.out; have := HL2.out; omega) ?_
                    intro V5 cap5 w10 h10
                    have S10 := Aside0.mk h10
                    clear h10 o0 q0 b0 b1 b2 b3 b4 t0 y0
                    refine hK.out _ _ (S10.out.cell 0 rfl 0 rfl).1 (fun hHeld => ?_)
                    clear hK K
                    refine norm_ (a' := ?_) ?_ ?_
                    rotate_left
                    · show Act.put _ (some 104) _ = _
                      simp only [Act.put, List.setIfInBounds_toArray, List.set_cons_zero, List.set_cons_succ]
                      rfl
                    obtain ⟨o0, q0⟩ := S10.out.cell 0 rfl 0 rfl
                    refine pure_ (i := 26) (N := some 105) (v := ?_) (a' := ?_) #[true, true, true, true, true, true, true, true, true, true, true, true, true, true, true, true, true, true, true, true, true, true, true, true, true, true, true, false] rfl rfl (by kernel_rfl) (fun _ _ _ h => h) (Or.inl ⟨by rfl, ?_⟩) ?_ ?_
                    rotate_left
                    · intro w'
                      go_simp
                      with_reducible rfl
                    rotate_left
                    · simp only [Act.put, List.setIfInBounds_toArray, List.set_cons_zero, List.set_cons_succ]
                      rfl
                    refine last_ (i := 27) (N := none) #[true, true, true, true, true, true, true, true, true, true, true, true, true, true, true, true, true, true, true, true, true, true, true, true, true, true, true, true] rfl rfl (by kernel_rfl) (by decide) (fun K hK => ?_)
                    refine skip_ (w1 := ?_) (by rfl) rfl ?_ ?_
                    rotate_left
                    · go_simp
                      rfl
                    refine hK.out _ _ ?_
                    clear hK K
                    refine done_ (by kernel_rfl) ?_
                    have S11 := Aside0.mk (S10.out.put 0 rfl 0 (.slice V5 (F0.length + 1) cap5) rfl)
                    generalize w10.setCell ⟨gO, 0, none⟩ (.slice V5 (F0.length + 1) cap5) = w11 at *
                    go_wp2
                    go_roundg (l.f2.length - (i + 1))
                    case measure => have := HX.out; have := HLT.out; omega
                    case rel => exact ⟨i + 1, (V5, cap5), (by first | exact val_step HLT.out (by have := HL2.out; omega) | rfl), ⟨by have := HLT.out; omega, by have := HX.out; have := HLT.out; omega⟩, trF_step HX0.out HF0.out HV.out S11⟩
                  · obtain ⟨qn, hqn, hqe⟩ := at_latch_lit HCT.out HX2
                    obtain ⟨ad2, e2, hy⟩ := at_bool (HT.out.s0.below S.out.B).r qn (by rw [H1.out]; exact hqn)
                    cases e2
                    have HQN := Aside0.mk (show qn < t.f0.length by rw [H1.out]; exact hqn)
                    obtain ⟨y, hyy⟩ : ∃ y, t.f0[qn]'HQN.out = y := ⟨_, rfl⟩
                    rw [hyy] at hy
                    have HCB := Aside0.mk (gCheck_ok HCT.out)
                    have HX3 := Aside0.mk HX2
                    have h1b : (x == 1) = false := beq_eq_false_iff_ne.2 (by have := HCB.out.1; omega)
                    have h2b : decide (1 < x) = true := decide_eq_true (by have := HCB.out.1; omega)
                    have hwq : IntKind.i64.wrap (IntKind.i64.wrap (IntKind.i64.wrap (x.tdiv 2) - tc.f0) - 1) = (qn : Int) := by
                      have := HCB.out
                      have h0 : 0 ≤ x := by omega
                      rw [i64_w, i64_w, i64_w, Int.tdiv_eq_ediv_of_nonneg h0, wrap_in (x := x / 2) (by omega) (by omega), wrap_in (x := x / 2 - tc.f0) (by omega) (by omega), wrap_in (by omega) (by omega)]
                      exact hqe
                    have HV := Aside0.mk (show liftV tc t.f0 x = (y != (x.tmod 2 == 1)) by
                      have h0 : 0 ≤ x := by have := HCB.out.1; omega
                      unfold liftV bit
                      rw [hqe, Int.toNat_natCast, decide_eq_false (by have := HCB.out.1; omega), decide_eq_true (by have := HCB.out.1; omega), Bool.false_or, Bool.true_and, getD_at HQN.out, hyy, Int.tmod_eq_emod_of_nonneg h0]
                      rfl)
                    have HYY := Aside0.mk hyy
                    have hq1 : (qn : Int) < t.f0.length := by have := HQN.out; omega
                    clear HX2 hyy hqe hqn
                    go_upto_region 13 with (fail)
                    go_wp2
                    refine start_ (n := 28) (S := (fun w' => w'.cell? ⟨gO, 0, none⟩ = some (.slice vF.1 F0.length vF.2) ∧ w'.cell? ⟨w.heap.size + 1 + 1 + 1, 0, none⟩ = some (.slice (some ad2) t.f0.length tf) ∧ w'.cell? ⟨w.heap.size + 1, 0, none⟩ = some (.int .i64 tc.f0) ∧ w'.cell? (ad2.add qn) = some (.bool y))) (ds := [27]) #[false, false, false, false, false, false, false, false, false, false, false, false, false, false, false, false, false, false, false, false, false, false, false, false, false, false, false, false] (by kernel_rfl) rfl rfl ⟨o0, t0, b0, hy⟩ (fun hHeld => ?_)
                    refine pure_ (i := 0) (N := some 79) (v := ?_) (a' := ?_) #[true, false, false, false, false, false, false, false, false, false, false, false, false, false, false, false, false, false, false, false, false, false, false, false, false, false, false, false] rfl rfl (by kernel_rfl) (fun _ _ _ h => h) (Or.inl ⟨by rfl, ?_⟩) ?_ ?_
                    rotate_left
                    · intro w'
                      go_simp
                      with_reducible rfl
                    rotate_left
                    · simp only [Act.put, List.setIfInBounds_toArray, List.set_cons_zero, List.set_cons_succ]
                      rfl
                    refine take_ (i := 1) (N := some 80) (v := ?_) (a' := ?_) #[true, true, false, false, false, false, false, false, false, false, false, false, false, false, false, false, false, false, false, false, false, false, false, false, false, false, false, false] rfl rfl (by kernel_rfl) (fun _ _ _ h => h) (Or.inl ⟨by rfl, ?_⟩) hHeld ?_ ?_
                    rotate_left
                    · rintro w' ⟨s0, s1, s2, s3⟩
                      go_simp
                      with_reducible rfl
                    rotate_left
                    · simp only [Act.put, List.setIfInBounds_toArray, List.set_cons_zero, List.set_cons_succ]
                      rfl
                    refine pure_ (i := 2) (N := some 81) (v := ?_) (a' := ?_) #[true, true, true, false, false, false, false, false, false, false, false, false, false, false, false, false, false, false, false, false, false, false, false, false, false, false, false, false] rfl rfl (by kernel_rfl) (fun _ _ _ h => h) (Or.inl ⟨by rfl, ?_⟩) ?_ ?_
                    rotate_left
                    · intro w'
                      go_simp
                      with_reducible rfl
                    rotate_left
                    · simp only [Act.put, List.setIfInBounds_toArray, List.set_cons_zero, List.set_cons_succ]
                      rfl
                    refine pure_ (i := 3) (N := some 82) (v := ?_) (a' := ?_) #[true, true, true, true, false, false, false, false, false, false, false, false, false, false, false, false, false, false, false, false, false, false, false, false, false, false, false, false] rfl rfl (by kernel_rfl) (fun _ _ _ h => h) (Or.inl ⟨by rfl, ?_⟩) ?_ ?_
                    rotate_left
                    · intro w'
                      go_simp
                      with_reducible rfl
                    rotate_left
                    · simp only [Act.put, List.setIfInBounds_toArray, List.set_cons_zero, List.set_cons_succ]
                      rfl
                    refine pure_ (i := 4) (N := some 83) (v := ?_) (a' := ?_) #[true, true, true, true, true, false, false, false, false, false, false, false, false, false, false, false, false, false, false, false, false, false, false, false, false, false, false, false] rfl rfl (by kernel_rfl) (fun _ _ _ h => h) (Or.inl ⟨by rfl, ?_⟩) ?_ ?_
                    rotate_left
                    · intro w'
                      go_simp
                      with_reducible rfl
                    rotate_left
                    · simp only [Act.put, List.setIfInBounds_toArray, List.set_cons_zero, List.set_cons_succ]
                      rfl
                    refine pure_ (i := 5) (N := some 84) (v := ?_) (a' := ?_) #[true, true, true, true, true, true, false, false, false, false, false, false, false, false, false, false, false, false, false, false, false, false, false, false, false, false, false, false] rfl rfl (by kernel_rfl) (fun _ _ _ h => h) (Or.inl ⟨by rfl, ?_⟩) ?_ ?_
                    rotate_left
                    · intro w'
                      go_simp
                      with_reducible rfl
                    rotate_left
                    · simp only [Act.put, List.setIfInBounds_toArray, List.set_cons_zero, List.set_cons_succ]
                      rfl
                    refine pure_ (i := 6) (N := some 85) (v := ?_) (a' := ?_) #[true, true, true, true, true, true, true, false, false, false, false, false, false, false, false, false, false, false, false, false, false, false, false, false, false, false, false, false] rfl rfl (by kernel_rfl) (fun _ _ _ h => h) (Or.inl ⟨by rfl, ?_⟩) ?_ ?_
                    rotate_left
                    · intro w'
                      go_simp
                      with_reducible rfl
                    rotate_left
                    · simp only [Act.put, List.setIfInBounds_toArray, List.set_cons_zero, List.set_cons_succ]
                      rfl
                    refine pure_ (i := 7) (N := some 86) (v := ?_) (a' := ?_) #[true, true, true, true, true, true, true, true, false, false, false, false, false, false, false, false, false, false, false, false, false, false, false, false, false, false, false, false] rfl rfl (by kernel_rfl) (fun _ _ _ h => h) (Or.inl ⟨by rfl, ?_⟩) ?_ ?_
                    rotate_left
                    · intro w'
                      go_simp
                      with_reducible rfl
                    rotate_left
                    · simp only [Act.put, List.setIfInBounds_toArray, List.set_cons_zero, List.set_cons_succ]
                      rfl
                    refine pure_ (i := 8) (N := some 87) (v := ?_) (a' := ?_) #[true, true, true, true, true, true, true, true, true, false, false, false, false, false, false, false, false, false, false, false, false, false, false, false, false, false, false, false] rfl rfl (by kernel_rfl) (fun _ _ _ h => h) (Or.inl ⟨by rfl, ?_⟩) ?_ ?_
                    rotate_left
                    · intro w'
                      go_simp
                      with_reducible rfl
                    rotate_left
                    · simp only [Act.put, List.setIfInBounds_toArray, List.set_cons_zero, List.set_cons_succ]
                      rfl
                    refine take_ (i := 9) (N := some 88) (v := ?_) (a' := ?_) #[true, true, true, true, true, true, true, true, true, true, false, false, false, false, false, false, false, false, false, false, false, false, false, false, false, false, false, false] rfl rfl (by kernel_rfl) (fun _ _ _ h => h) (Or.inl ⟨by rfl, ?_⟩) hHeld ?_ ?_
                    rotate_left
                    · rintro w' ⟨s0, s1, s2, s3⟩
                      go_simp
                      with_reducible rfl
                    rotate_left
                    · simp only [Act.put, List.setIfInBounds_toArray, List.set_cons_zero, List.set_cons_succ]
                      rfl
                    refine pure_ (i := 10) (N := some 89) (v := ?_) (a' := ?_) #[true, true, true, true, true, true, true, true, true, true, true, false, false, false, false, false, false, false, false, false, false, false, false, false, false, false, false, false] rfl rfl (by kernel_rfl) (fun _ _ _ h => h) (Or.inl ⟨by rfl, ?_⟩) ?_ ?_
                    rotate_left
                    · intro w'
                      go_simp
                      with_reducible rfl
                    rotate_left
                    · simp only [Act.put, List.setIfInBounds_toArray, List.set_cons_zero, List.set_cons_succ]
                      rfl
                    refine pure_ (i := 11) (N := some 90) (v := ?_) (a' := ?_) #[true, true, true, true, true, true, true, true, true, true, true, true, false, false, false, false, false, false, false, false, false, false, false, false, false, false, false, false] rfl rfl (by kernel_rfl) (fun _ _ _ h => h) (Or.inl ⟨by rfl, ?_⟩) ?_ ?_
                    rotate_left
                    · intro w'
                      go_simp
                      with_reducible rfl
                    rotate_left
                    · simp only [Act.put, List.setIfInBounds_toArray, List.set_cons_zero, List.set_cons_succ]
                      rfl
                    refine pure_ (i := 12) (N := some 91) (v := ?_) (a' := ?_) #[true, true, true, true, true, true, true, true, true, true, true, true, true, false, false, false, false, false, false, false, false, false, false, false, false, false, false, false] rfl rfl (by kernel_rfl) (fun _ _ _ h => h) (Or.inl ⟨by rfl, ?_⟩) ?_ ?_
                    rotate_left
                    · intro w'
                      go_simp
                      with_reducible rfl
                    rotate_left
                    · simp only [Act.put, List.setIfInBounds_toArray, List.set_cons_zero, List.set_cons_succ]
                      rfl
                    refine take_ (i := 13) (N := some 92) (v := ?_) (a' := ?_) #[true, true, true, true, true, true, true, true, true, true, true, true, true, true, false, false, false, false, false, false, false, false, false, false, false, false, false, false] rfl rfl (by kernel_rfl) (fun _ _ _ h => h) (Or.inl ⟨by rfl, ?_⟩) hHeld ?_ ?_
                    rotate_left
                    · rintro w' ⟨s0, s1, s2, s3⟩
                      go_simp
                      with_reducible rfl
                    rotate_left
                    · simp only [Act.put, List.setIfInBounds_toArray, List.set_cons_zero, List.set_cons_succ]
                      rfl
                    refine pure_ (i := 14) (N := some 93) (v := ?_) (a' := ?_) #[true, true, true, true, true, true, true, true, true, true, true, true, true, true, true, false, false, false, false, false, false, false, false, false, false, false, false, false] rfl rfl (by kernel_rfl) (fun _ _ _ h => h) (Or.inl ⟨by rfl, ?_⟩) ?_ ?_
                    rotate_left
                    · intro w'
                      go_simp
                      with_reducible rfl
                    rotate_left
                    · simp only [Act.put, List.setIfInBounds_toArray, List.set_cons_zero, List.set_cons_succ]
                      rfl
                    refine pure_ (i := 15) (N := some 94) (v := ?_) (a' := ?_) #[true, true, true, true, true, true, true, true, true, true, true, true, true, true, true, true, false, false, false, false, false, false, false, false, false, false, false, false] rfl rfl (by kernel_rfl) (fun _ _ _ h => h) (Or.inl ⟨by rfl, ?_⟩) ?_ ?_
                    rotate_left
                    · intro w'
                      go_simp
                      with_reducible rfl
                    rotate_left
                    · simp only [Act.put, List.setIfInBounds_toArray, List.set_cons_zero, List.set_cons_succ]
                      rfl
                    refine pure_ (i := 16) (N := some 95) (v := ?_) (a' := ?_) #[true, true, true, true, true, true, true, true, true, true, true, true, true, true, true, true, true, false, false, false, false, false, false, false, false, false, false, false] rfl rfl (by kernel_rfl) (fun _ _ _ h => h) (Or.inl ⟨by rfl, ?_⟩) ?_ ?_
                    rotate_left
                    · intro w'
                      go_simp
                      with_reducible rfl
                    rotate_left
                    · simp only [Act.put, List.setIfInBounds_toArray, List.set_cons_zero, List.set_cons_succ]
                      rfl
                    refine take_ (i := 17) (N := some 96) (v := ?_) (a' := ?_) #[true, true, true, true, true, true, true, true, true, true, true, true, true, true, true, true, true, true, false, false, false, false, false, false, false, false, false, false] rfl rfl (by kernel_rfl) (fun _ _ _ h => h) (Or.inl ⟨by rfl, ?_⟩) hHeld ?_ ?_
                    rotate_left
                    · rintro w' ⟨s0, s1, s2, s3⟩
                      go_simp
                      with_reducible rfl
                    rotate_left
                    · simp only [Act.put, List.setIfInBounds_toArray, List.set_cons_zero, List.set_cons_succ]
                      rfl
                    refine pure_ (i := 18) (N := some 97) (v := ?_) (a' := ?_) #[true, true, true, true, true, true, true, true, true, true, true, true, true, true, true, true, true, true, true, false, false, false, false, false, false, false, false, false] rfl rfl (by kernel_rfl) (fun _ _ _ h => h) (Or.inl ⟨by rfl, ?_⟩) ?_ ?_
                    rotate_left
                    · intro w'
                      go_simp
                      with_reducible rfl
                    rotate_left
                    · simp only [Act.put, List.setIfInBounds_toArray, List.set_cons_zero, List.set_cons_succ]
                      rfl
                    refine pure_ (i := 19) (N := some 98) (v := ?_) (a' := ?_) #[true, true, true, true, true, true, true, true, true, true, true, true, true, true, true, true, true, true, true, true, false, false, false, false, false, false, false, false] rfl rfl (by kernel_rfl) (fun _ _ _ h => h) (Or.inl ⟨by rfl, ?_⟩) ?_ ?_
                    rotate_left
                    · intro w'
                      go_simp
                      with_reducible rfl
                    rotate_left
                    · simp only [Act.put, List.setIfInBounds_toArray, List.set_cons_zero, List.set_cons_succ]
                      rfl
                    refine pure_ (i := 20) (N := some 99) (v := ?_) (a' := ?_) #[true, true, true, true, true, true, true, true, true, true, true, true, true, true, true, true, true, true, true, true, true, false, false, false, false, false, false, false] rfl rfl (by kernel_rfl) (fun _ _ _ h => h) (Or.inl ⟨by rfl, ?_⟩) ?_ ?_
                    rotate_left
                    · intro w'
                      go_simp
                      with_reducible rfl
                    rotate_left
                    · simp only [Act.put, List.setIfInBounds_toArray, List.set_cons_zero, List.set_cons_succ]
                      rfl
                    refine pure_ (i := 21) (N := some 100) (v := ?_) (a' := ?_) #[true, true, true, true, true, true, true, true, true, true, true, true, true, true, true, true, true, true, true, true, true, true, false, false, false, false, false, false] rfl rfl (by kernel_rfl) (fun _ _ _ h => h) (Or.inl ⟨by rfl, ?_⟩) ?_ ?_
                    rotate_left
                    · intro w'
                      go_simp
                      with_reducible rfl
                    rotate_left
                    · simp only [Act.put, List.setIfInBounds_toArray, List.set_cons_zero, List.set_cons_succ]
                      rfl
                    refine pure_ (i := 22) (N := some 101) (v := ?_) (a' := ?_) #[true, true, true, true, true, true, true, true, true, true, true, true, true, true, true, true, true, true, true, true, true, true, true, false, false, false, false, false] rfl rfl (by kernel_rfl) (fun _ _ _ h => h) (Or.inl ⟨by rfl, ?_⟩) ?_ ?_
                    rotate_left
                    · intro w'
                      go_simp
                      with_reducible rfl
                    rotate_left
                    · simp only [Act.put, List.setIfInBounds_toArray, List.set_cons_zero, List.set_cons_succ]
                      rfl
                    refine pure_ (i := 23) (N := some 102) (v := ?_) (a' := ?_) #[true, true, true, true, true, true, true, true, true, true, true, true, true, true, true, true, true, true, true, true, true, true, true, true, false, false, false, false] rfl rfl (by kernel_rfl) (fun _ _ _ h => h) (Or.inl ⟨by rfl, ?_⟩) ?_ ?_
                    rotate_left
                    · intro w'
                      go_simp
                      with_reducible rfl
                    rotate_left
                    · simp only [Act.put, List.setIfInBounds_toArray, List.set_cons_zero, List.set_cons_succ]
                      rfl
                    refine one_ (i := 24) (N := some 103) #[true, true, true, true, true, true, true, true, true, true, true, true, true, true, true, true, true, true, true, true, true, true, true, true, true, false, false, false] rfl rfl (by kernel_rfl) (by decide) (fun K hK => ?_)
                    refine value_ (w1 := ?_) (v := ?_) (by rfl) rfl ?_ ?_
                    rotate_left 2
                    · go_simp
                      constructor
                      · rfl
                      · rfl
                    refine hK.out _ _ ⟨(World.cell?_alloc_lt _ _ _ (World.block_lt_of_cell? _ _ hHeld.1)).trans hHeld.1, (World.cell?_alloc_lt _ _ _ (World.block_lt_of_cell? _ _ hHeld.2.1)).trans hHeld.2.1, (World.cell?_alloc_lt _ _ _ (World.block_lt_of_cell? _ _ hHeld.2.2.1)).trans hHeld.2.2.1, (World.cell?_alloc_lt _ _ _ (World.block_lt_of_cell? _ _ hHeld.2.2.2)).trans hHeld.2.2.2⟩ (fun hHeld => ?_)
                    clear hK K
                    refine norm_ (a' := ?_) ?_ ?_
                    rotate_left
                    · show Act.put _ (some 103) _ = _
                      simp only [Act.put, List.setIfInBounds_toArray, List.set_cons_zero, List.set_cons_succ]
                      rfl
                    refine one_ (i := 25) (N := some 104) #[true, true, true, true, true, true, true, true, true, true, true, true, true, true, true, true, true, true, true, true, true, true, true, true, true, true, false, false] rfl rfl (by kernel_rfl) (by decide) (fun K hK => ?_)
                    refine Parts.appendS S.out.drew 1 rfl flat_bool (by rfl) (.tmp 80) (.tmp 103) 59 (.bool false) 1 rfl Try.underlying59 infoBool rfl (by decide) (by decide) (y != (x.tmod 2 == 1)) [.bool (y != (x.tmod 2 == 1))] rfl rfl rfl (by have := HFL.out; have := HLT.out; have := HL2.out; omega) ?_
                    intro V5 cap5 w10 h10
                    have S10 := Aside0.mk h10
                    clear h10 o0 q0 b0 b1 b2 b3 b4 t0 y0 hy
                    have hy : w10.cell? (ad2.add qn) = some (.bool y) := by
                      obtain ⟨ad3, e3, h3⟩ := at_bool (HT.out.s0.below S10.out.B).r qn HQN.out
                      cases e3
                      rw [h3, ← HYY.out]
                    refine hK.out _ _ ⟨(S10.out.cell 0 rfl 0 rfl).1, (S10.out.cell 5 rfl 0 rfl).1, (S10.out.cell 7 rfl 0 rfl).1, hy⟩ (fun hHeld => ?_)
                    clear hK K
                    refine norm_ (a' := ?_) ?_ ?_
                    rotate_left
                    · show Act.put _ (some 104) _ = _
                      simp only [Act.put, List.setIfInBounds_toArray, List.set_cons_zero, List.set_cons_succ]
                      rfl
                    obtain ⟨o0, q0⟩ := S10.out.cell 0 rfl 0 rfl
                    refine pure_ (i := 26) (N := some 105) (v := ?_) (a' := ?_) #[true, true, true, true, true, true, true, true, true, true, true, true, true, true, true, true, true, true, true, true, true, true, true, true, true, true, true, false] rfl rfl (by kernel_rfl) (fun _ _ _ h => h) (Or.inl ⟨by rfl, ?_⟩) ?_ ?_
                    rotate_left
                    · intro w'
                      go_simp
                      with_reducible rfl
                    rotate_left
                    · simp only [Act.put, List.setIfInBounds_toArray, List.set_cons_zero, List.set_cons_succ]
                      rfl
                    refine last_ (i := 27) (N := none) #[true, true, true, true, true, true, true, true, true, true, true, true, true, true, true, true, true, true, true, true, true, true, true, true, true, true, true, true] rfl rfl (by kernel_rfl) (by decide) (fun K hK => ?_)
                    refine skip_ (w1 := ?_) (by rfl) rfl ?_ ?_
                    rotate_left
                    · go_simp
                      rfl
                    refine hK.out _ _ ?_
                    clear hK K
                    refine done_ (by kernel_rfl) ?_
                    have S11 := Aside0.mk (S10.out.put 0 rfl 0 (.slice V5 (F0.length + 1) cap5) rfl)
                    clear hy hq1 hwq h1b h2b
                    generalize w10.setCell ⟨gO, 0, none⟩ (.slice V5 (F0.length + 1) cap5) = w11 at *
                    go_wp2
                    go_roundg (l.f2.length - (i + 1))
                    case measure => have := HX.out; have := HLT.out; omega
                    case rel => exact ⟨i + 1, (V5, cap5), (by first | exact val_step HLT.out (by have := HL2.out; omega) | rfl), ⟨by have := HLT.out; omega, by have := HX.out; have := HLT.out; omega⟩, trF_step HX0.out HF0.out HV.out S11⟩
                · have hk : i = l.f2.length := by have := HX.out; omega
                  subst hk
                  clear hlt HX
                  obtain ⟨F, hF⟩ : ∃ F, l.f2.map (liftV tc t.f0) = F := ⟨_, rfl⟩
                  rw [List.take_length, hF] at S
                  have HF := Aside0.mk hF
                  obtain ⟨t1, y1⟩ := S.out.cell 5 rfl 1 rfl
                  have h3i : (t.f1.length : Int) ≤ 100 := by have := H3.out; omega
                  have HL3 := Aside0.mk (show l.f3.length ≤ 104 by have := LO.out.n3; have := LO.out.s1; have := LO.out.p1; omega)
                  go_wp2
                  clear t1 y1
                  go_loopg [15, 16, 17, 19, 110] t.f1.length (fun gg _ _ _ _ s110 wr => ∃ (n : Nat) (vI : Option Addr × Nat) (hs : List HeadR), s110 = .int .i64 n ∧ Aside0 (n ≤ t.f1.length ∧ t.f1.length - n ≤ gg) ∧ Aside0 (Parts w.heap.size w wr (trPs w.heap.size w.heap.size gO p q fr tc ⟨A2, k2, A3, k3, A4, k4, A5, k5⟩ l ⟨TF, tf, TI, ti⟩ t vF vI F hs (liftAll l 0 (t.f1.take n)))))
                  case atStart => exact ⟨0, (none, 0), [], rfl, ⟨by omega, by omega⟩, S⟩
                  case round =>
                    clear S
                    obtain ⟨n, vI, hs, rfl, HX, S⟩ := hrel
                    by_cases hlt : n < t.f1.length
                    · obtain ⟨ad, B, cB, e1, hxw, hB⟩ := at_row HT.out.s1.r n hlt
                      cases e1
                      have hx := pw_cell_below S.out.B hxw
                      clear hxw
                      have hlti : (n : Int) < t.f1.length := by omega
                      obtain ⟨ins, hins⟩ : ∃ ins, t.f1[n] = ins := ⟨_, rfl⟩
                      rw [hins] at hx hB
                      have HIN := Aside0.mk (show t.f1[n]? = some ins by rw [List.getElem?_eq_getElem hlt, hins])
                      have HIL := Aside0.mk (show (ins.length : Int) = tc.f0 from (runFits_ok HFF.out).2.2 ins (hins ▸ List.getElem_mem hlt))
                      have HB0 := Aside0.mk hB
                      have HLT := Aside0.mk hlt
                      clear hins hB hlt
                      obtain ⟨l0, l1, l2, l3, l4, l5, l6⟩ := blk7 (S.out.blk 6 rfl)
                      have hf3 : 0 < l.f3.length := by have := LO.out.n3; have := LO.out.s0; have := LO.out.p0; omega
                      obtain ⟨ad3, B0, cB0, e3, _, _⟩ := at_row (HR.out.s3.below S.out.B).r 0 hf3
                      cases e3
                      have hle3 : l.f0 < (l.f3.length : Int) := by have := LO.out.n3; have := LO.out.p0; omega
                      have hk3 : (l.f3.length : Int) ≤ (k3 : Int) := by have h_ : l.f3.length ≤ k3 := (HR.out.s3).h; omega
                      have hs0' := LO.out.s0
                      have HINS := Aside0.mk (fun W (hb : Below w.heap.size w W) => HB0.out.below hb)
                      by_cases hn0 : n = 0
                      · have hn0b : ((n : Int) == 0) = true := beq_iff_eq.2 (by omega)
                        have hk30 : (0 : Int) < (k3 : Int) := by omega
                        have HRW := Aside0.mk (fun W (hb : Below w.heap.size w W) => (show RS (Kd.slice 3 (Kd.int .i64)) W (some ad3) k3 (rowsOf l n) by unfold rowsOf; rw [if_pos hn0]; exact HR.out.s3.below hb))
                        have HRL := Aside0.mk (show (rowsOf l n).length = l.f3.length by unfold rowsOf; rw [if_pos hn0])
                        clear hs0' hle3 hn0
                        go_wp2
                        clear l0 l1 l2 l3 l4 l5 l6 hx

                        have SJ := Aside0.mk (show Parts w.heap.size w wr (trPs w.heap.size w.heap.size gO p q fr tc ⟨A2, k2, some ad3, k3, A4, k4, A5, k5⟩ l ⟨TF, tf, some ad, ti⟩ t vF vI F hs (liftAll l 0 (t.f1.take n) ++ ((rowsOf l n).take 0).map (fun r => liftRow r ins))) by rw [List.take_zero, List.map_nil, List.append_nil]; exact S.out)
                        clear S
                        go_loopg [19, 124] (l.f3.length) (fun gg _ s124 wr => ∃ (j : Nat) (vI : Option Addr × Nat) (hs : List HeadR), s124 = .int .i64 j ∧ Aside0 (j ≤ l.f3.length ∧ l.f3.length - j ≤ gg) ∧ Aside0 (Parts w.heap.size w wr (trPs w.heap.size w.heap.size gO p q fr tc ⟨A2, k2, some ad3, k3, A4, k4, A5, k5⟩ l ⟨TF, tf, some ad, ti⟩ t vF vI F hs (liftAll l 0 (t.f1.take n) ++ ((rowsOf l n).take j).map (fun r => liftRow r ins)))))
                        case atStart => exact ⟨0, vI, hs, rfl, ⟨by omega, by omega⟩, SJ⟩
                        case round =>
                          clear SJ vI hs
                          obtain ⟨j, vI, hs, rfl, HJ, S⟩ := hrel
                          by_cases hlt : j < l.f3.length
                          · have hltr : j < (rowsOf l n).length := by have := HRL.out; omega
                            obtain ⟨ad5, B5, cB5, e5, hx5, hB5⟩ := at_row (HRW.out wr S.out.B).r j hltr
                            cases e5
                            obtain ⟨r, hr⟩ : ∃ r, (rowsOf l n)[j] = r := ⟨_, rfl⟩
                            rw [hr] at hx5 hB5
                            have HRI := Aside0.mk (show (rowsOf l n)[j]? = some r by rw [List.getElem?_eq_getElem hltr, hr])
                            have HRM := Aside0.mk (LO.out.m3 r (rowsOf_mem (hr ▸ List.getElem_mem hltr)))
                            have hltj : (j : Int) < (l.f3.length : Nat) := by omega
                            have HLJ := Aside0.mk hlt
                            have HBR := Aside0.mk hB5
                            have HFB := Aside0.mk (gCheck_ok HCF.out)
                            have HTB := Aside0.mk (gCheck_ok HCT.out)
                            have HCALL := Aside0.mk (fun W (hb : Below w.heap.size w W) (h1 : RS (Kd.int .i64) W B5 cB5 r) => lift_row B5 cB5 r B cB ins W h1 (HINS.out W hb) (by have := HRM.out.1; have := HFB.out; omega) (fun x hx => by have h_ := HRM.out.2 x hx; have := HTB.out; have := HIL.out; refine ⟨by omega, by omega, fun _ => ⟨by omega, by omega⟩⟩))
                            clear hr hlt hltr hB5
                            obtain ⟨rows, hrows⟩ : ∃ rows, liftAll l 0 (t.f1.take n) ++ ((rowsOf l n).take j).map (fun r => liftRow r ins) = rows := ⟨_, rfl⟩
                            have HRO := Aside0.mk hrows
                            rw [hrows] at S
                            have HHL := Aside0.mk (show hs.length ≤ 20000 by rw [S.out.inLen 3 rfl, ← hrows]; exact rows_le HL3.out (by have := H3.out; simp; omega) j ins)
                            clear hrows
                            obtain ⟨o1, q1⟩ := S.out.cell 0 rfl 1 rfl
                            go_upto_region 24 with (fail)
                            go_wp2
                            refine start_ (n := 9) (S := (fun w' => w'.cell? ⟨gO, 1, none⟩ = some (.slice vI.1 hs.length vI.2))) (ds := [8]) #[false, false, false, false, false, false, false, false, false] (by kernel_rfl) rfl rfl o1 (fun hHeld => ?_)
                            refine pure_ (i := 0) (N := some 128) (v := ?_) (a' := ?_) #[true, false, false, false, false, false, false, false, false] rfl rfl (by kernel_rfl) (fun _ _ _ h => h) (Or.inl ⟨by rfl, ?_⟩) ?_ ?_
                            rotate_left
                            · intro w'
                              go_simp
                              with_reducible rfl
                            rotate_left
                            · simp only [Act.put, List.setIfInBounds_toArray, List.set_cons_zero, List.set_cons_succ]
                              rfl
                            refine take_ (i := 1) (N := some 129) (v := ?_) (a' := ?_) #[true, true, false, false, false, false, false, false, false] rfl rfl (by kernel_rfl) (fun _ _ _ h => h) (Or.inl ⟨by rfl, ?_⟩) hHeld ?_ ?_
                            rotate_left
                            · intro w' s0
                              go_simp
                              with_reducible rfl
                            rotate_left
                            · simp only [Act.put, List.setIfInBounds_toArray, List.set_cons_zero, List.set_cons_succ]
                              rfl
                            refine pure_ (i := 2) (N := some 130) (v := ?_) (a' := ?_) #[true, true, true, false, false, false, false, false, false] rfl rfl (by kernel_rfl) (fun _ _ _ h => h) (Or.inl ⟨by rfl, ?_⟩) ?_ ?_
                            rotate_left
                            · intro w'
                              go_simp
                              with_reducible rfl
                            rotate_left
                            · simp only [Act.put, List.setIfInBounds_toArray, List.set_cons_zero, List.set_cons_succ]
                              rfl
                            refine pure_ (i := 3) (N := some 131) (v := ?_) (a' := ?_) #[true, true, true, true, false, false, false, false, false] rfl rfl (by kernel_rfl) (fun _ _ _ h => h) (Or.inl ⟨by rfl, ?_⟩) ?_ ?_
                            rotate_left
                            · intro w'
                              go_simp
                              with_reducible rfl
                            rotate_left
                            · simp only [Act.put, List.setIfInBounds_toArray, List.set_cons_zero, List.set_cons_succ]
                              rfl
                            refine one_ (i := 4) (N := some 132) #[true, true, true, true, true, false, false, false, false] rfl rfl (by kernel_rfl) (by decide) (fun K hK => ?_)
                            refine goes_ Try.func48 (by kernel_rfl) rfl #[.slice B5 r.length cB5, .slice B ins.length cB] (by rfl) rfl rfl (by simp only [List.map_toArray, List.map_cons, List.map_nil] <;> rfl) ?_
                            refine (HCALL.out _ S.out.drew.B (HBR.out.below (below_drew (Below.refl _ _)))).mono ?_
                            rintro e w12 ⟨A6, c6, rfl, hR6, hb_⟩
                            refine ⟨_, rfl, ?_⟩
                            have S12 := Aside0.mk (S.out.drew.freshF flat_bool hb_ hR6)
                            clear hb_ hR6
                            refine hK.out _ _ (S12.out.cell 1 rfl 1 rfl).1 (fun hHeld => ?_)
                            clear hK K
                            refine norm_ (a' := ?_) ?_ ?_
                            rotate_left
                            · show Act.put _ (some 132) _ = _
                              simp only [Act.put, List.setIfInBounds_toArray, List.set_cons_zero, List.set_cons_succ]
                              rfl
                            refine one_ (i := 5) (N := some 133) #[true, true, true, true, true, true, false, false, false] rfl rfl (by kernel_rfl) (by decide) (fun K hK => ?_)
                            refine value_ (w1 := ?_) (v := ?_) (by rfl) rfl ?_ ?_
                            rotate_left 2
                            · go_simp
                              constructor
                              · rfl
                              · rfl
                            refine hK.out _ _ ((World.cell?_alloc_lt _ _ _ (World.block_lt_of_cell? _ _ hHeld)).trans hHeld) (fun hHeld => ?_)
                            clear hK K
                            refine norm_ (a' := ?_) ?_ ?_
                            rotate_left
                            · show Act.put _ (some 133) _ = _
                              simp only [Act.put, List.setIfInBounds_toArray, List.set_cons_zero, List.set_cons_succ]
                              rfl
                            refine one_ (i := 6) (N := some 134) #[true, true, true, true, true, true, true, false, false] rfl rfl (by kernel_rfl) (by decide) (fun K hK => ?_)
                            refine Parts.appendS S12.out 3 rfl flat_head (by rfl) (.tmp 129) (.tmp 133) 62 (.slice none 0 0) 24 rfl Try.underlying62 infoRowB rfl (by decide) (by decide) (A6, (liftRow r ins).length, c6) [.slice A6 (liftRow r ins).length c6] rfl rfl rfl (by have := HHL.out; omega) ?_
                            intro V7 cap7 w13 h13
                            have S13 := Aside0.mk (h13.inAdd 0 4 (by decide) rfl rfl)
                            clear h13 S12 o1 q1
                            refine hK.out _ _ (S13.out.cell 0 rfl 1 rfl).1 (fun hHeld => ?_)
                            clear hK K
                            refine norm_ (a' := ?_) ?_ ?_
                            rotate_left
                            · show Act.put _ (some 134) _ = _
                              simp only [Act.put, List.setIfInBounds_toArray, List.set_cons_zero, List.set_cons_succ]
                              rfl
                            obtain ⟨o1, q1⟩ := S13.out.cell 0 rfl 1 rfl
                            refine pure_ (i := 7) (N := some 135) (v := ?_) (a' := ?_) #[true, true, true, true, true, true, true, true, false] rfl rfl (by kernel_rfl) (fun _ _ _ h => h) (Or.inl ⟨by rfl, ?_⟩) ?_ ?_
                            rotate_left
                            · intro w'
                              go_simp
                              with_reducible rfl
                            rotate_left
                            · simp only [Act.put, List.setIfInBounds_toArray, List.set_cons_zero, List.set_cons_succ]
                              rfl
                            refine last_ (i := 8) (N := none) #[true, true, true, true, true, true, true, true, true] rfl rfl (by kernel_rfl) (by decide) (fun K hK => ?_)
                            refine skip_ (w1 := ?_) (by rfl) rfl ?_ ?_
                            rotate_left
                            · go_simp
                              rfl
                            refine hK.out _ _ ?_
                            clear hK K
                            refine done_ (by kernel_rfl) ?_
                            have S14 := Aside0.mk (S13.out.put 0 rfl 1 (.slice V7 (hs.length + 1) cap7) rfl)
                            clear S13 o1 q1
                            generalize w13.setCell ⟨gO, 1, none⟩ (.slice V7 (hs.length + 1) cap7) = w14 at *
                            go_wp2
                            go_roundg (l.f3.length - (j + 1))
                            case measure => have := HJ.out; have := HLJ.out; omega
                            case rel => exact ⟨j + 1, (V7, cap7), hs ++ [(A6, (liftRow r ins).length, c6)], (by first | exact val_step HLJ.out (by have := HL3.out; omega) | rfl), ⟨by have := HLJ.out; omega, by have := HJ.out; have := HLJ.out; omega⟩, trI_step HRI.out HRO.out S14⟩
                          · have hk : j = l.f3.length := by have := HJ.out; omega
                            subst hk
                            clear hlt HJ
                            go_wp2
                            go_roundg (t.f1.length - (n + 1))
                            case measure => have := HX.out; have := HLT.out; omega
                            case rel => exact ⟨n + 1, vI, hs, (by first | exact val_step HLT.out (by have := H3.out; omega) | rfl), ⟨by have := HLT.out; omega, by have := HX.out; have := HLT.out; omega⟩, ⟨trN_step HIN.out (by rw [HRL.out]; exact Nat.le_refl _) ▸ S.out⟩⟩
                      · have hn0b : ((n : Int) == 0) = false := beq_eq_false_iff_ne.2 (by omega)
                        have HRW := Aside0.mk (fun W (hb : Below w.heap.size w W) => (show RS (Kd.slice 3 (Kd.int .i64)) W (some (ad3.add l.f0.toNat)) (k3 - l.f0.toNat) (rowsOf l n) by unfold rowsOf; rw [if_neg hn0]; exact RS.dropR rfl (HR.out.s3.below hb) (by omega)))
                        have HRL := Aside0.mk (show (rowsOf l n).length = l.f3.length - l.f0.toNat by unfold rowsOf; rw [if_neg hn0, List.length_drop])
                        clear hn0
                        go_wp2
                        clear l0 l1 l2 l3 l4 l5 l6 hx hs0' hle3

                        have SJ := Aside0.mk (show Parts w.heap.size w wr (trPs w.heap.size w.heap.size gO p q fr tc ⟨A2, k2, some ad3, k3, A4, k4, A5, k5⟩ l ⟨TF, tf, some ad, ti⟩ t vF vI F hs (liftAll l 0 (t.f1.take n) ++ ((rowsOf l n).take 0).map (fun r => liftRow r ins))) by rw [List.take_zero, List.map_nil, List.append_nil]; exact S.out)
                        clear S
                        go_loopg [19, 124] (l.f3.length - l.f0.toNat) (fun gg _ s124 wr => ∃ (j : Nat) (vI : Option Addr × Nat) (hs : List HeadR), s124 = .int .i64 j ∧ Aside0 (j ≤ l.f3.length - l.f0.toNat ∧ l.f3.length - l.f0.toNat - j ≤ gg) ∧ Aside0 (Parts w.heap.size w wr (trPs w.heap.size w.heap.size gO p q fr tc ⟨A2, k2, some ad3, k3, A4, k4, A5, k5⟩ l ⟨TF, tf, some ad, ti⟩ t vF vI F hs (liftAll l 0 (t.f1.take n) ++ ((rowsOf l n).take j).map (fun r => liftRow r ins)))))
                        case atStart => exact ⟨0, vI, hs, rfl, ⟨by omega, by omega⟩, SJ⟩
                        case round =>
                          clear SJ vI hs
                          obtain ⟨j, vI, hs, rfl, HJ, S⟩ := hrel
                          by_cases hlt : j < l.f3.length - l.f0.toNat
                          · have hltr : j < (rowsOf l n).length := by have := HRL.out; omega
                            obtain ⟨ad5, B5, cB5, e5, hx5, hB5⟩ := at_row (HRW.out wr S.out.B).r j hltr
                            cases e5
                            obtain ⟨r, hr⟩ : ∃ r, (rowsOf l n)[j] = r := ⟨_, rfl⟩
                            rw [hr] at hx5 hB5
                            have HRI := Aside0.mk (show (rowsOf l n)[j]? = some r by rw [List.getElem?_eq_getElem hltr, hr])
                            have HRM := Aside0.mk (LO.out.m3 r (rowsOf_mem (hr ▸ List.getElem_mem hltr)))
                            have hltj : (j : Int) < (l.f3.length - l.f0.toNat : Nat) := by omega
                            have HLJ := Aside0.mk hlt
                            have HBR := Aside0.mk hB5
                            have HFB := Aside0.mk (gCheck_ok HCF.out)
                            have HTB := Aside0.mk (gCheck_ok HCT.out)
                            have HCALL := Aside0.mk (fun W (hb : Below w.heap.size w W) (h1 : RS (Kd.int .i64) W B5 cB5 r) => lift_row B5 cB5 r B cB ins W h1 (HINS.out W hb) (by have := HRM.out.1; have := HFB.out; omega) (fun x hx => by have h_ := HRM.out.2 x hx; have := HTB.out; have := HIL.out; refine ⟨by omega, by omega, fun _ => ⟨by omega, by omega⟩⟩))
                            clear hr hlt hltr hB5
                            obtain ⟨rows, hrows⟩ : ∃ rows, liftAll l 0 (t.f1.take n) ++ ((rowsOf l n).take j).map (fun r => liftRow r ins) = rows := ⟨_, rfl⟩
                            have HRO := Aside0.mk hrows
                            rw [hrows] at S
                            have HHL := Aside0.mk (show hs.length ≤ 20000 by rw [S.out.inLen 3 rfl, ← hrows]; exact rows_le HL3.out (by have := H3.out; simp; omega) j ins)
                            clear hrows
                            obtain ⟨o1, q1⟩ := S.out.cell 0 rfl 1 rfl
                            go_upto_region 24 with (fail)
                            go_wp2
                            refine start_ (n := 9) (S := (fun w' => w'.cell? ⟨gO, 1, none⟩ = some (.slice vI.1 hs.length vI.2))) (ds := [8]) #[false, false, false, false, false, false, false, false, false] (by kernel_rfl) rfl rfl o1 (fun hHeld => ?_)
                            refine pure_ (i := 0) (N := some 128) (v := ?_) (a' := ?_) #[true, false, false, false, false, false, false, false, false] rfl rfl (by kernel_rfl) (fun _ _ _ h => h) (Or.inl ⟨by rfl, ?_⟩) ?_ ?_
                            rotate_left
                            · intro w'
                              go_simp
                              with_reducible rfl
                            rotate_left
                            · simp only [Act.put, List.setIfInBounds_toArray, List.set_cons_zero, List.set_cons_succ]
                              rfl
                            refine take_ (i := 1) (N := some 129) (v := ?_) (a' := ?_) #[true, true, false, false, false, false, false, false, false] rfl rfl (by kernel_rfl) (fun _ _ _ h => h) (Or.inl ⟨by rfl, ?_⟩) hHeld ?_ ?_
                            rotate_left
                            · intro w' s0
                              go_simp
                              with_reducible rfl
                            rotate_left
                            · simp only [Act.put, List.setIfInBounds_toArray, List.set_cons_zero, List.set_cons_succ]
                              rfl
                            refine pure_ (i := 2) (N := some 130) (v := ?_) (a' := ?_) #[true, true, true, false, false, false, false, false, false] rfl rfl (by kernel_rfl) (fun _ _ _ h => h) (Or.inl ⟨by rfl, ?_⟩) ?_ ?_
                            rotate_left
                            · intro w'
                              go_simp
                              with_reducible rfl
                            rotate_left
                            · simp only [Act.put, List.setIfInBounds_toArray, List.set_cons_zero, List.set_cons_succ]
                              rfl
                            refine pure_ (i := 3) (N := some 131) (v := ?_) (a' := ?_) #[true, true, true, true, false, false, false, false, false] rfl rfl (by kernel_rfl) (fun _ _ _ h => h) (Or.inl ⟨by rfl, ?_⟩) ?_ ?_
                            rotate_left
                            · intro w'
                              go_simp
                              with_reducible rfl
                            rotate_left
                            · simp only [Act.put, List.setIfInBounds_toArray, List.set_cons_zero, List.set_cons_succ]
                              rfl
                            refine one_ (i := 4) (N := some 132) #[true, true, true, true, true, false, false, false, false] rfl rfl (by kernel_rfl) (by decide) (fun K hK => ?_)
                            refine goes_ Try.func48 (by kernel_rfl) rfl #[.slice B5 r.length cB5, .slice B ins.length cB] (by rfl) rfl rfl (by simp only [List.map_toArray, List.map_cons, List.map_nil] <;> rfl) ?_
                            refine (HCALL.out _ S.out.drew.B (HBR.out.below (below_drew (Below.refl _ _)))).mono ?_
                            rintro e w12 ⟨A6, c6, rfl, hR6, hb_⟩
                            refine ⟨_, rfl, ?_⟩
                            have S12 := Aside0.mk (S.out.drew.freshF flat_bool hb_ hR6)
                            clear hb_ hR6
                            refine hK.out _ _ (S12.out.cell 1 rfl 1 rfl).1 (fun hHeld => ?_)
                            clear hK K
                            refine norm_ (a' := ?_) ?_ ?_
                            rotate_left
                            · show Act.put _ (some 132) _ = _
                              simp only [Act.put, List.setIfInBounds_toArray, List.set_cons_zero, List.set_cons_succ]
                              rfl
                            refine one_ (i := 5) (N := some 133) #[true, true, true, true, true, true, false, false, false] rfl rfl (by kernel_rfl) (by decide) (fun K hK => ?_)
                            refine value_ (w1 := ?_) (v := ?_) (by rfl) rfl ?_ ?_
                            rotate_left 2
                            · go_simp
                              constructor
                              · rfl
                              · rfl
                            refine hK.out _ _ ((World.cell?_alloc_lt _ _ _ (World.block_lt_of_cell? _ _ hHeld)).trans hHeld) (fun hHeld => ?_)
                            clear hK K
                            refine norm_ (a' := ?_) ?_ ?_
                            rotate_left
                            · show Act.put _ (some 133) _ = _
                              simp only [Act.put, List.setIfInBounds_toArray, List.set_cons_zero, List.set_cons_succ]
                              rfl
                            refine one_ (i := 6) (N := some 134) #[true, true, true, true, true, true, true, false, false] rfl rfl (by kernel_rfl) (by decide) (fun K hK => ?_)
                            refine Parts.appendS S12.out 3 rfl flat_head (by rfl) (.tmp 129) (.tmp 133) 62 (.slice none 0 0) 24 rfl Try.underlying62 infoRowB rfl (by decide) (by decide) (A6, (liftRow r ins).length, c6) [.slice A6 (liftRow r ins).length c6] rfl rfl rfl (by have := HHL.out; omega) ?_
                            intro V7 cap7 w13 h13
                            have S13 := Aside0.mk (h13.inAdd 0 4 (by decide) rfl rfl)
                            clear h13 S12 o1 q1
                            refine hK.out _ _ (S13.out.cell 0 rfl 1 rfl).1 (fun hHeld => ?_)
                            clear hK K
                            refine norm_ (a' := ?_) ?_ ?_
                            rotate_left
                            · show Act.put _ (some 134) _ = _
                              simp only [Act.put, List.setIfInBounds_toArray, List.set_cons_zero, List.set_cons_succ]
                              rfl
                            obtain ⟨o1, q1⟩ := S13.out.cell 0 rfl 1 rfl
                            refine pure_ (i := 7) (N := some 135) (v := ?_) (a' := ?_) #[true, true, true, true, true, true, true, true, false] rfl rfl (by kernel_rfl) (fun _ _ _ h => h) (Or.inl ⟨by rfl, ?_⟩) ?_ ?_
                            rotate_left
                            · intro w'
                              go_simp
                              with_reducible rfl
                            rotate_left
                            · simp only [Act.put, List.setIfInBounds_toArray, List.set_cons_zero, List.set_cons_succ]
                              rfl
                            refine last_ (i := 8) (N := none) #[true, true, true, true, true, true, true, true, true] rfl rfl (by kernel_rfl) (by decide) (fun K hK => ?_)
                            refine skip_ (w1 := ?_) (by rfl) rfl ?_ ?_
                            rotate_left
                            · go_simp
                              rfl
                            refine hK.out _ _ ?_
                            clear hK K
                            refine done_ (by kernel_rfl) ?_
                            have S14 := Aside0.mk (S13.out.put 0 rfl 1 (.slice V7 (hs.length + 1) cap7) rfl)
                            clear S13 o1 q1
                            generalize w13.setCell ⟨gO, 1, none⟩ (.slice V7 (hs.length + 1) cap7) = w14 at *
                            go_wp2
                            go_roundg (l.f3.length - l.f0.toNat - (j + 1))
                            case measure => have := HJ.out; have := HLJ.out; omega
                            case rel => exact ⟨j + 1, (V7, cap7), hs ++ [(A6, (liftRow r ins).length, c6)], (by first | exact val_step HLJ.out (by have := HL3.out; omega) | rfl), ⟨by have := HLJ.out; omega, by have := HJ.out; have := HLJ.out; omega⟩, trI_step HRI.out HRO.out S14⟩
                          · have hk : j = l.f3.length - l.f0.toNat := by have := HJ.out; omega
                            subst hk
                            clear hlt HJ
                            go_wp2
                            go_roundg (t.f1.length - (n + 1))
                            case measure => have := HX.out; have := HLT.out; omega
                            case rel => exact ⟨n + 1, vI, hs, (by first | exact val_step HLT.out (by have := H3.out; omega) | rfl), ⟨by have := HLT.out; omega, by have := HX.out; have := HLT.out; omega⟩, ⟨trN_step HIN.out (by rw [HRL.out]; exact Nat.le_refl _) ▸ S.out⟩⟩
                    · have hk : n = t.f1.length := by have := HX.out; omega
                      subst hk
                      clear hlt HX
                      obtain ⟨o0, q0⟩ := S.out.cell 0 rfl 0 rfl
                      obtain ⟨o1, q1⟩ := S.out.cell 0 rfl 1 rfl
                      rw [List.take_length] at S
                      obtain ⟨I, hI⟩ : ∃ I, liftAll l 0 t.f1 = I := ⟨_, rfl⟩
                      rw [hI] at S
                      have HII := Aside0.mk hI
                      have HIN := Aside0.mk (show ∀ x ∈ I, (x.length : Int) = fr.f0 from hI ▸ liftAll_rows (fun r hr => (LO.out.m3 r hr).1) 0 t.f1)
                      have HFL := Aside0.mk (show F.length = fr.f1.length by rw [← HF.out, List.length_map]; exact LO.out.n2)
                      have HIB := Aside0.mk (show I.length ≤ 20000 by rw [← hI]; have h1 := liftAll_le l t.f1 0; have h2 : t.f1.length * l.f3.length ≤ 100 * 104 := Nat.mul_le_mul H3.out HL3.out; omega)
                      clear hI
                      have HCR := Aside0.mk (show cutRun fr (liftRun tc l t) = ⟨F, I.take (cutLen fr F I)⟩ by unfold cutRun liftRun; rw [HF.out, HII.out])
                      obtain ⟨C, hC⟩ : ∃ C, cutLen fr F I = C := ⟨_, rfl⟩
                      rw [hC] at HCR
                      have HC := Aside0.mk hC
                      clear hC
                      have HHS := Aside0.mk (S.out.inLen 3 rfl)
                      have HSL := Aside0.mk (check_lits HCF.out).1
                      go_wp2
                      clear o0 o1 q0 q1
                      go_loopg [20, 21, 22, 23, 24, 25, 143] hs.length (fun gg s20 _ _ _ _ _ s143 wr => ∃ (k : Nat) (A : Option Addr) (c : Nat) (st : List Bool), s20 = .slice A st.length c ∧ s143 = .int .i64 k ∧ Aside0 (k ≤ hs.length ∧ hs.length - k ≤ gg) ∧ Aside0 (Parts w.heap.size w wr (trPs w.heap.size w.heap.size gO p q fr tc ⟨A2, k2, A3, k3, A4, k4, A5, k5⟩ l ⟨TF, tf, TI, ti⟩ t vF vI F hs I)) ∧ Aside0 (RS Kd.bool wr A c st ∧ st.length = fr.f1.length) ∧ Aside0 (stopAt fine k (frames fr st (I.drop k)) = C))
                      case atStart => exact ⟨0, vF.1, vF.2, F, rfl, rfl, ⟨by omega, by omega⟩, S, ⟨S.out.rowF 1 rfl, HFL.out⟩, HC⟩
                      case round =>
                        clear S
                        obtain ⟨k, A, c, st, rfl, rfl, HX, S, HST, HSA⟩ := hrel
                        by_cases hlt : k < hs.length
                        · have hltI : k < I.length := by rw [← HHS.out]; exact hlt
                          obtain ⟨ad, B, cB, e1, hx, hB⟩ := at_row (S.out.inRows 2 3 rfl rfl).r k hltI
                          obtain ⟨Vi, Ci⟩ := vI
                          dsimp only at e1 S
                          subst e1
                          have hlti : (k : Int) < hs.length := by omega
                          obtain ⟨ins, hins⟩ : ∃ ins, I[k] = ins := ⟨_, rfl⟩
                          rw [hins] at hx hB
                          have HSD := Aside0.mk (show stopAt fine k ((st, holdsOf fr st ins, badsOf fr st ins) :: frames fr (nextOf fr st ins) (I.drop (k + 1))) = C by
                            have h_ := HSA.out
                            rw [List.drop_eq_getElem_cons hltI, hins] at h_
                            exact h_)
                          have HIL := Aside0.mk (HIN.out ins (hins ▸ List.getElem_mem hltI))
                          have HLT := Aside0.mk hlt
                          have HLTI := Aside0.mk hltI
                          clear hins hlt hltI HSA
                          have PC := Aside0.mk (fun W (hb : Below wr.heap.size wr W) => values_Props p fr A c st B cB ins W (HP.out.below (S.out.B.trans (hb.mono S.out.z))) FF.out (HST.out.1.below hb) (hB.below hb) HCF.out HST.out.2 HIL.out HSL.out)
                          have NC := Aside0.mk (fun W (hb : Below wr.heap.size wr W) => values_Next p fr A c st B cB ins W (HP.out.below (S.out.B.trans (hb.mono S.out.z))) FF.out (HST.out.1.below hb) (hB.below hb) HCF.out HST.out.2 HIL.out HSL.out)
                          clear hB
                          obtain ⟨a0, a1, a2, a3, a4⟩ := blk5 (S.out.blk 8 rfl)
                          go_wp2_with fail
                          refine (PC.out _ (Below.refl _ _)).mono ?_
                          rintro e w6 ⟨A6, c6, rfl, hR6, hb6⟩
                          have B6 := Aside0.mk hb6
                          have S6 := Aside0.mk (S.out.below hb6)
                          clear hb6 a0 a1 a2 a3 a4 hx S
                          go_wp2_with fail
                          refine (slices_Contains_bool A6 c6 (badsOf fr st ins) true _ hR6).mono ?_
                          rintro e w7 ⟨rfl, hb7⟩
                          have S7 := Aside0.mk (S6.out.below hb7)
                          have B7 := Aside0.mk (B6.out.trans (hb7.mono B6.out.size))
                          clear hb7 S6 B6 hR6
                          cases hany : (badsOf fr st ins).any (fun b => true == b) with
                          | true =>
                            have HSC := Aside0.mk (show k + 1 = C by have h_ := HSD.out; unfold stopAt at h_; rw [show fine k (st, holdsOf fr st ins, badsOf fr st ins) = false by unfold fine; rw [hany]; rfl] at h_; simpa using h_)
                            clear hany
                            obtain ⟨o1, q1⟩ := S7.out.cell 0 rfl 1 rfl
                            have hcap : (hs.length : Int) ≤ (Ci : Int) := by have h_ : hs.length ≤ Ci := (S7.out.rowF 2 rfl).h; omega
                            have hb20 : (hs.length : Int) ≤ 20000 := by have := HIB.out; have := HHS.out; omega
                            go_upto_region 36 with (fail)
                            have SX := Aside0.mk ((S7.out.cut 2 rfl flat_head (show k + 1 ≤ hs.length from HLT.out)).put 0 rfl 1 (.slice (some ad) (k + 1) Ci) rfl)
                            clear o1 q1 S7 hcap hb20
                            generalize w7.setCell ⟨gO, 1, none⟩ (.slice (some ad) (k + 1) Ci) = w9 at *

                            obtain ⟨o0, q0⟩ := SX.out.cell 0 rfl 0 rfl
                            obtain ⟨o1, q1⟩ := SX.out.cell 0 rfl 1 rfl
                            obtain ⟨r0, z0⟩ := SX.out.cell 4 rfl 0 rfl
                            obtain ⟨r1, z1⟩ := SX.out.cell 4 rfl 1 rfl
                            go_wp2
                            have SZ := Aside0.mk ((SX.out.put 4 rfl 0 (.slice vF.1 F.length vF.2) rfl).put 4 rfl 1 (.slice (some ad) (k + 1) Ci) rfl)
                            refine bodyPost_ret (results_ct rfl _ _ (w.heap.size + 1 + 1 + 1 + 1) 64 #[.slice vF.1 F.length vF.2, .slice (some ad) (k + 1) Ci] (0, 0) _ rfl (SZ.out.blk 4 rfl) hu57 rfl (by kernel_rfl)) rfl ?_
                            rw [HTR.out, HCR.out]
                            exact ⟨⟨vF.1, vF.2, some ad, Ci⟩, by show _ = Ending.returned (.tuple #[.agg #[.slice vF.1 F.length vF.2, .slice (some ad) (I.take C).length Ci], .int .i64 0]); rw [show (I.take C).length = k + 1 by rw [← HSC.out, List.length_take]; have := HLTI.out; omega]; rfl, ⟨SZ.out.rowF 1 rfl, by rw [← HSC.out]; exact SZ.out.inRowsTake 2 3 (k + 1) rfl rfl⟩, SZ.out.B⟩
                          | false =>
                            have HSC := Aside0.mk (show stopAt fine (k + 1) (frames fr (nextOf fr st ins) (I.drop (k + 1))) = C by have h_ := HSD.out; unfold stopAt at h_; rw [show fine k (st, holdsOf fr st ins, badsOf fr st ins) = true by unfold fine; rw [hany]; rfl] at h_; simpa using h_)
                            clear hany
                            obtain ⟨a0, a1, a2, a3, a4⟩ := blk5 (S7.out.blk 8 rfl)
                            go_wp2_with fail
                            refine (NC.out _ B7.out).mono ?_
                            rintro e w8 ⟨A8, c8, rfl, hR8, hb8⟩
                            have S8 := Aside0.mk (S7.out.below hb8)
                            have HR8 := Aside0.mk (RS.of_R' hR8)
                            have HN8 := Aside0.mk (show (nextOf fr st ins).length = fr.f1.length by unfold nextOf; simp)
                            clear hb8 hR8 S7 B7 a0 a1 a2 a3 a4 PC NC
                            go_wp2
                            go_roundg (hs.length - (k + 1))
                            case measure => have := HX.out; have := HLT.out; omega
                            case rel => exact ⟨k + 1, A8, c8, nextOf fr st ins, rfl, (by first | exact val_step HLT.out (by have := HIB.out; have := HHS.out; omega) | rfl), ⟨by have := HLT.out; omega, by have := HX.out; have := HLT.out; omega⟩, S8, ⟨HR8.out, HN8.out⟩, HSC⟩
                        · have hk : k = hs.length := by have := HX.out; omega
                          subst hk
                          have HSC := Aside0.mk (show I.take C = I by
                            have h_ := HSA.out
                            rw [HHS.out, List.drop_length] at h_
                            rw [← show I.length = C from h_, List.take_length])
                          clear hlt HX HSA
                          have SX := S
                          clear S
                          obtain ⟨o0, q0⟩ := SX.out.cell 0 rfl 0 rfl
                          obtain ⟨o1, q1⟩ := SX.out.cell 0 rfl 1 rfl
                          obtain ⟨r0, z0⟩ := SX.out.cell 4 rfl 0 rfl
                          obtain ⟨r1, z1⟩ := SX.out.cell 4 rfl 1 rfl
                          go_wp2
                          have SZ := Aside0.mk ((SX.out.put 4 rfl 0 (.slice vF.1 F.length vF.2) rfl).put 4 rfl 1 (.slice vI.1 hs.length vI.2) rfl)
                          refine bodyPost_ret (results_ct rfl _ _ (w.heap.size + 1 + 1 + 1 + 1) 64 #[.slice vF.1 F.length vF.2, .slice vI.1 hs.length vI.2] (0, 0) _ rfl (SZ.out.blk 4 rfl) hu57 rfl (by kernel_rfl)) rfl ?_
                          rw [HTR.out, HCR.out]
                          exact ⟨⟨vF.1, vF.2, vI.1, vI.2⟩, by show _ = Ending.returned (.tuple #[.agg #[.slice vF.1 F.length vF.2, .slice vI.1 (I.take C).length vI.2], .int .i64 0]); rw [show (I.take C).length = hs.length by rw [HSC.out, HHS.out]]; rfl, ⟨SZ.out.rowF 1 rfl, by rw [HSC.out]; exact SZ.out.inRows 2 3 rfl rfl⟩, SZ.out.B⟩
    · have h1b : ((t.f0.length : Int) != (tc.f1.length : Int)) = true := bne_iff_ne.2 (by omega)
      rw [decide_eq_false h1, Bool.false_and] at hf
      have HF2 := Aside0.mk (show runFits tc t = false from HF.out.trans hf.symm)
      clear hf h1 HF
      go_wp2
      have S3 := Aside0.mk ((S2.out.put 0 rfl 0 (.slice none 0 0) rfl).put 0 rfl 1 (.slice none 0 0) rfl)
      refine bodyPost_ret (results_ct rfl _ _ (w.heap.size + 1 + 1 + 1 + 1) 64 #[.slice none 0 0, .slice none 0 0] (0, 0) _ rfl (S3.out.blk 0 rfl) hu57 rfl (by kernel_rfl)) rfl ?_
      rw [show traceC fr tc l t = (⟨[], []⟩, 8) by unfold traceC; rw [if_neg (by rw [HEE.out]; decide), if_pos HF2.out]]
      exact ⟨⟨none, 0, none, 0⟩, rfl, ⟨RS.nil _ _ _, RS.nil _ _ _⟩, S3.out.B⟩
  · have hne : (E != 0) = true := bne_iff_ne.2 he
    have HNE := Aside0.mk he
    clear he
    go_wp2
    have S3 := Aside0.mk ((S2.out.put 0 rfl 0 (.slice none 0 0) rfl).put 0 rfl 1 (.slice none 0 0) rfl)
    refine bodyPost_ret (results_ct rfl _ _ (w.heap.size + 1 + 1 + 1 + 1) 64 #[.slice none 0 0, .slice none 0 0] (0, 0) _ rfl (S3.out.blk 0 rfl) hu57 rfl (by kernel_rfl)) rfl ?_
    rw [show traceC fr tc l t = (⟨[], []⟩, E) by unfold traceC; rw [HEE.out, if_pos HNE.out]]
    exact ⟨⟨none, 0, none, 0⟩, rfl, ⟨RS.nil _ _ _, RS.nil _ _ _⟩, S3.out.B⟩
end Go.Proofs.Ytiafojcbllbepaa.PH
